/- What the proof of this claim leans on, part 2. -/
import Derived.Test.YtbnkgnfhgbhblaaGreatFClaimOfp1
set_option linter.all false
open Bool renaming and_eq_true→E3R,and_false→E4O,false_and→E3W,false_eq_true→E4M,not_eq_true'→E4D,or_eq_true→E4K,true_and→E31
open Int renaming toNat_natCast→E38
open List renaming all_cons→E4x,all_eq_true→E4H,append_assoc→E3U,append_nil→E4f,cons_append→E4l,drop_drop→E4S,drop_eq_getElem_cons→E3V,drop_of_length_le→E32,drop_zero→E39,ext_getElem?→E4I,flatten_cons→E4L,getD_eq_getElem?_getD→E30,getElem?_append_left→E4r,getElem?_append_right→E35,getElem?_cons_succ→E4C,getElem?_drop→E4G,getElem?_eq_getElem→E3P,getElem?_eq_none→E4q,getElem?_take_of_lt→E4n,getElem_mem→E4u,length_append→E3S,length_cons→E3Z,length_replicate→E4g,length_set→E4o,length_take→E4k,map_cons→E4R,mem_cons_of_mem→E4a,mem_cons_self→E4c,mem_of_getElem?→E4e,mem_or_eq_of_mem_set→E4z,nil_append→E37,range→E4m,range'→E4s,replicate→E3Q,replicate_succ→E4i,set_append_right→E4p,set_cons_succ→E4B,set_cons_zero→E4A,take_of_length_le→E3Y,take_succ_eq_append_getElem→E36,take_zero→E4P
open Nat renaming add_mul→E4Q,add_zero→E4U,le_refl→E3T,le_trans→E4t,min→E4W,min_eq_left→E4N,mod_eq_of_lt→E4E,sub_self→E4y,zero_add→E4b
open Option renaming bind_eq_some_iff→E3O,bind_some→E3X,getD_none→E4F,getD_some→E4w,isSome_none→E4d,isSome_some→E33,map_eq_some_iff→E34,map_some→E4T
namespace Go.Esc
open Go
section
section
variable {P:Program} {R:Type}
theorem A0C {h:A6} {n0:Nat} {slot:Option Nat} {r:Row}:h.length<=(cQ h n0 slot r).2.length:=by
 cases slot<;>simp [cQ]
theorem D4o {E:N1} (hE:eV P E) {q:Bool} {hr:A6} {n0:Nat} {slot:Option Nat} {o:AOp} {e:Env} {h h':A6} {v:Val}
  (C9:aop E q hr n0 slot o e h (λv h=>some (v,h))=some (v,h')):h.length<=h'.length:=by
 cases o<;>simp only [aop] at C9
 case store1 a x =>
  simp only [E3O,Option.some.injEq,Prod.mk.injEq] at C9;obtain ⟨h2,hp,_,rfl⟩:=C9;unfold F9 at hp;split at hp
  ·simp only [E3O] at hp;obtain ⟨r,_,hp⟩:=hp;split at hp<;>cases hp
   simp
  ·cases hp
 case storeN n a x =>
  simp only [E3O,Option.some.injEq,Prod.mk.injEq] at C9;obtain ⟨h2,hp,_,rfl⟩:=C9;unfold E1 at hp;split at hp
  ·simp only [E3O] at hp;obtain ⟨r,_,hp⟩:=hp;split at hp<;>cases hp
   simp
  ·cases hp
 case app sz a x =>
  simp only [E3O,Option.some.injEq] at C9;obtain ⟨⟨v',h2⟩,hp,xM⟩:=C9;cases xM;simp only [iY,E3O] at hp;obtain ⟨ys,_,hp⟩:=hp;split at hp
  ·split at hp<;>cases hp
   simp
  ·simp only [E3O] at hp;obtain ⟨r,_,hp⟩:=hp;split at hp<;>cases hp
   simp
  ·cases hp
 case copy sz a x =>
  simp only [E3O,Option.some.injEq] at C9;obtain ⟨⟨v',h2⟩,hp,xM⟩:=C9;cases xM;simp only [C4w] at hp;split at hp
  ·cases hp
  simp only [E3O] at hp;obtain ⟨ys,_,hp⟩:=hp;split at hp
  ·simp only [E3O] at hp;obtain ⟨r,_,hp⟩:=hp;split at hp<;>cases hp
   simp
  ·cases hp
 case appZ sz zero x y =>
  simp only [E3O,Option.some.injEq] at C9;obtain ⟨⟨v',h2⟩,hp,xM⟩:=C9;cases xM;unfold B5W at hp;simp only [E3O] at hp;obtain ⟨n,_,hp⟩:=hp;split at hp
  ·cases hp;simp
  ·simp only [E3O] at hp;obtain ⟨r,_,hp⟩:=hp;split at hp<;>cases hp
   simp
  ·cases hp
 case call f args =>
  simp only [E3O,Option.some.injEq] at C9;obtain ⟨⟨v',h2⟩,hp,xM⟩:=C9;cases xM;have hE1:E f (args.map e.ev) h=some (v',h2):=by
   cases q with
   | false=>simpa using hp
   | true =>
    simp only [cond_true,quiet,E3O] at hp;obtain ⟨p',g1,g2⟩:=hp;split at g2
    ·cases g2;exact g1
    ·cases g2
  exact (hE _ _ _ _ _ hE1).2.2
 case callV f args =>
  simp only [E3O,Option.some.injEq] at C9;obtain ⟨⟨v',h2⟩,hp,xM⟩:=C9;cases xM;have hE0:A1U E (e.ev f) (args.map e.ev) h=some (v',h2):=by
   cases q with
   | false=>simpa using hp
   | true =>
    simp only [cond_true,quiet,E3O] at hp;obtain ⟨p',g1,g2⟩:=hp;split at g2
    ·cases g2;exact g1
    ·cases g2
  unfold A1U at hE0;split at hE0
  ·exact (hE _ _ _ _ _ hE0).2.2
  ·cases hE0
 case mv=>cases C9;exact E3T _
 case nilrow=>cases C9;exact A0C
 case alloc=>cases C9;exact A0C
 case mkMap=>cases C9;exact A0C
 case mput =>
  simp only [E3O,Option.some.injEq,Prod.mk.injEq] at C9;obtain ⟨w,hp,_,rfl⟩:=C9;unfold A1R at hp;split at hp
  ·simp only [E3O] at hp;obtain ⟨_,_,_,_,_,_,_,_,hp⟩:=hp;split at hp
   ·cases hp;simp
   ·cases hp
  ·cases hp
 case mset =>
  simp only [E3O,Option.some.injEq,Prod.mk.injEq] at C9;obtain ⟨w,hp,_,rfl⟩:=C9;unfold D1n at hp;split at hp
  ·simp only [E3O] at hp;obtain ⟨_,_,_,_,_,_,hp⟩:=hp;split at hp
   ·simp only [E3O,Option.some.injEq] at hp;obtain ⟨_,_,rfl⟩:=hp;simp
   ·cases hp
  ·cases hp
 case ment =>
  simp only [E3O,Option.some.injEq] at C9;obtain ⟨w,hp,xM⟩:=C9;cases xM;unfold D1m at hp;split at hp
  ·simp only [E3O] at hp;obtain ⟨_,_,_,_,_,_,hp⟩:=hp;split at hp
   ·simp only [Option.some.injEq] at hp;split at hp
    ·cases hp;exact E3T _
    ·cases hp;simp
   ·cases hp
  ·cases hp
 case box =>
  simp only [E3O,Option.some.injEq,Prod.mk.injEq] at C9;obtain ⟨_,_,_,rfl⟩:=C9;exact A0C
 case buildSl =>
  simp only [E3O,Option.some.injEq,Prod.mk.injEq] at C9;obtain ⟨_,_,_,rfl⟩:=C9;exact A0C
 case s2b =>
  simp only [E3O,Option.some.injEq,Prod.mk.injEq] at C9;obtain ⟨_,_,_,rfl⟩:=C9;exact A0C
 case mkSl =>
  simp only [E3O,Option.some.injEq,Prod.mk.injEq] at C9;obtain ⟨_,_,_,rfl⟩:=C9;exact A0C
 all_goals
  simp only [E3O,Option.some.injEq,Prod.mk.injEq] at C9;obtain ⟨_,_,_,rfl⟩:=C9;exact E3T _
theorem C8A {E:N1} (hE:eV P E) {q:Bool} {hr:A6} {n0:Nat} {o:AOper} {e:Env} {h h':A6} {v:Val}
  (C9:W3 E q hr n0 o e h (λv h=>some (v,h))=some (v,h')):h.length<=h'.length:=by
 unfold W3 at C9;split at C9
 ·exact D4o hE C9
 ·simp only [E3O,Option.some.injEq] at C9;obtain ⟨⟨v',h2⟩,hp,xM⟩:=C9;cases xM;unfold gd at hp;split at hp
  ·rename_i x _;cases hx:(x==_) with
   | true=>rw [hx] at hp;exact D4o hE hp
   | false=>rw [hx] at hp;cases hp;exact E3T _
  ·cases hp;exact E3T _
  ·cases hp
theorem put_defers (a:Act) (d:Option Nat) (V:Value):(a.put d V).defers=a.defers:=by cases d<;>rfl
theorem C2o {N L:Nat} {ops:Array Oper} {E:N1} (hE:eV P E):∀ (l:List Nat) (aos:List AOper) (e:Env) (h:A6) (k:Env->A6->Option R) (r:R),
  All2 (λi ao=>∃ o,ops[i]?=some o/\Z7 P N ops o ao=true/\ao.slot=none) l aos->A9f E aos e h k=some r->L<=h.length ->
  ∃ e' h',k e' h'=some r/\L<=h'.length/\B0H P N L (λQ=>wpOps P ops Q l) e h .normal e' h'
 | [],[],e,h,k,r,_,C9,hL=>⟨e,h,C9,hL,fun Γ μ a w hs hi hN hd Q hq=>hq μ a w (Mu.le_refl _) (λ_ _=>rfl) hs hi hN hd⟩
 | i::l,ao::aos,e,h,k,r,⟨⟨o,ho,hc,D2b⟩,D19⟩,C9,hL=>by
  rw [C8B] at C9;obtain ⟨v,h1,hk,B6q⟩:=D6M hE hc C9;have hl1:=C8A hE B6q;obtain ⟨e',h',hk',hL',uP⟩:=C2o hE l aos (e.put ao.dst v) h1 k r D19 hk (E4t hL hl1);refine ⟨e',h',hk',hL',fun Γ μ a w hs hi hN hd Q hq=>?_⟩;show wpOps P ops Q (i::l) a w;rw [wpOps_cons];unfold wpOp;rw [ho];have yU:o.dst=ao.dst/\wQ N o.dst=true:=by
   simp only [Z7,E3R,decide_eq_true_eq] at hc;exact ⟨hc.1.1.1,hc.1.1.2⟩
  have V7:∀ t,o.dst=some t->t<a.tmps.size:=by
   intro t ht;have:=yU.2;rw [ht] at this;simp [wQ] at this;exact Nat.lt_of_lt_of_le this hN
  refine A30 (hr:=h) (n0:=0) hE hc B6q hs hi (λ_ _ h=>h) (by rw [D2b];trivial) ?_;intro V w' μ' bJ hv hi' bG;rw [D2b] at bG;refine uP Γ μ' (a.put o.dst V) w' ?_ hi' (by rw [Act.size_put];exact hN) (by rw [put_defers];exact hd) Q ?_
  ·rw [<-yU.1];exact (hs.mono bJ).put V7 hv
  ·intro μ2 a2 w2 h2 h3 h4 h5 h6 h7;exact hq μ2 a2 w2 (Mu.le_trans bJ h2) (λid hid=>by rw [h3 id hid];exact bG id (by omega) (λ_ h=>by cases h)) h4 h5 h6 h7
 | [],_::_,_,_,_,_,h,_,_=>h.elim
 | _::_,[],_,_,_,_,h,_,_=>h.elim
end
theorem C0A {o:Oper} {p:Nat}:p∈Y1 o↔∃ e∈o.after,Region.binds .any e=true/\e.on=p:=by
 unfold Y1;simp only [List.mem_map,List.mem_filter,Array.mem_toList_iff];constructor
 ·rintro ⟨e,⟨h1,h2⟩,rfl⟩;exact ⟨e,h1,h2,rfl⟩
 ·rintro ⟨e,h1,h2,rfl⟩;exact ⟨e,⟨h1,h2⟩,rfl⟩
theorem lW {ops:Array Oper} {listed:Array Bool} {i:Nat}:i∈Region.ready .any ops listed↔∃ o,ops[i]?=some o/\listed.getD i true=false/\∀ p∈Y1 o,listed.getD p false=true:=by
 unfold Region.ready;simp only [List.mem_filter,List.mem_range,E3R,E4D];constructor
 ·rintro ⟨h1,h2,h3⟩;have ho:ops[i]?=some ops[i]:=by simp [h1]
  refine ⟨ops[i],ho,h2,λp hp=>?_⟩;rw [ho] at h3;simp only [E4T,E4w,Array.all_eq_true_iff_forall_mem] at h3;obtain ⟨e,he,hb,rfl⟩:=C0A.1 hp;have:=h3 e he;rw [hb] at this;simpa using this
 ·rintro ⟨o,ho,h2,h3⟩;refine ⟨(Array.getElem?_eq_some_iff.1 ho).1,h2,?_⟩;rw [ho];simp only [E4T,E4w,Array.all_eq_true_iff_forall_mem];intro e he;cases hb:Region.binds .any e with
  | false=>rfl
  | true=>simpa using h3 e.on (C0A.2 ⟨e,he,hb,rfl⟩)
theorem Q7 {listed:Array Bool} {i:Nat} (hi:i<listed.size):(λk=>(listed.setIfInBounds i true).getD k false)=mP (λk=>listed.getD k false) i:=by
 funext k
 unfold mP;by_cases h:k=i
 ·subst h;simp [Array.getD,hi]
 ·simp [Array.getElem?_setIfInBounds_ne (Ne.symm h),h]
theorem getD_both {listed:Array Bool} {i:Nat} (hi:i<listed.size):listed.getD i true=listed.getD i false:=by simp [Array.getD,hi]
theorem A6m {ops:Array Oper} {listed:Array Bool} (V7:∀ (i:Nat) (o:Oper),ops[i]?=some o->∀ p∈Y1 o,p<i) (hs:listed.size=ops.size):∀ (i:Nat),i<ops.size->listed.getD i false=false->Region.ready .any ops listed≠[]:=by
 intro i
 induction i using Nat.strongRecOn with
 | _ i ih =>
  intro hi hu;have ho:ops[i]?=some ops[i]:=by simp [hi]
  by_cases h:∀ p∈Y1 ops[i],listed.getD p false=true
  ·have:i∈Region.ready .any ops listed:=lW.2 ⟨_,ho,by rw [getD_both (by omega)];exact hu,h⟩;intro e;rw [e] at this;cases this
  ·have:∃ p,p∈Y1 ops[i]/\listed.getD p false=false:=by
    false_or_by_contra
    rename_i hn;exact h λp hp=>by
     cases hv:listed.getD p false with
     | true=>rfl
     | false=>exact absurd ⟨p,hp,hv⟩ hn
   obtain ⟨p,hp,hv⟩:=this;have hpi:=V7 i _ ho p hp;exact ih p hpi (by omega) hv
def left (n:Nat) (listed:Array Bool):Nat:=((E4m n).filter λi=>!listed.getD i false).length
theorem B6F {n:Nat} {listed:Array Bool} {i:Nat} (hi:i<n) (hs:listed.size=n) (hu:listed.getD i false=false):left n (listed.setIfInBounds i true)+1<=left n listed:=by
 unfold left;have e:(E4m n).filter (λk=>!(listed.setIfInBounds i true).getD k false)=((E4m n).filter λk=>!listed.getD k false).filter (λk=>decide (k≠i)):=by
  rw [List.filter_filter];apply List.filter_congr;intro k hk;have:=congrFun (Q7 (listed:=listed) (i:=i) (by omega)) k
  try simp only at this
  rw [this];unfold mP;by_cases h:k=i<;>simp [h]
 rw [e];have hm:i∈(E4m n).filter λk=>!listed.getD k false:=by
  rw [List.mem_filter];exact ⟨by simpa using hi,by rw [hu];rfl⟩
 have:=List.length_filter_lt_length_iff_exists (l:=(E4m n).filter λk=>!listed.getD k false) (p:=λk=>decide (k≠i));have h2:=this.2 ⟨i,hm,by simp⟩;omega
section
variable {P:Program} {ops:Array Oper} {Q:Exit->Act->World->Prop}
theorem A0D (V7:∀ (i:Nat) (o:Oper),ops[i]?=some o->∀ p∈Y1 o,p<i) {A:Nat} (D94:∀ i,A<=i->i<ops.size->∀ j,j<i->((P7 ops).getD i 0).testBit j=true) :
  ∀ (k i fuel:Nat) (listed:Array Bool) (a:Act) (w:World),i+k=ops.size->A<=i->listed.size=ops.size->(∀ j,j<ops.size->listed.getD j false=decide (j<i))->k<=fuel ->
   wpOps P ops Q (E4s i k) a w->wpAny P .any ops Q fuel listed a w
 | 0,i,fuel,listed,a,w,hik,hA,hs,hl,hf,h=>by
  have hr:Region.ready .any ops listed=[]:=by
   apply List.eq_nil_iff_forall_not_mem.2;intro x hx;obtain ⟨o,ho,h2,_⟩:=lW.1 hx;have V7:=(Array.getElem?_eq_some_iff.1 ho).1;rw [getD_both (by omega),hl x V7] at h2;simp at h2;omega
  cases fuel with
  | zero=>exact ⟨hr,h⟩
  | succ f=>exact ⟨λ_=>h,λx hx=>by rw [hr] at hx;cases hx⟩
 | k+1,i,fuel,listed,a,w,hik,hA,hs,hl,hf,h=>by
  obtain ⟨f,rfl⟩:∃ f,fuel=f+1:=⟨fuel-1,by omega⟩;refine ⟨λhe=>absurd he (A6m V7 hs i (by omega) (by rw [hl i (by omega)];simp)),λx hx=>?_⟩;obtain ⟨o,ho,h2,h3⟩:=lW.1 hx;have hxn:=(Array.getElem?_eq_some_iff.1 ho).1;rw [getD_both (by omega),hl x hxn] at h2;simp at h2;have hxi:x=i:=by
   by_cases e:x=i
   ·exact e
   ·have hd:=sT (done:=λj=>listed.getD j false) V7 (λj oj hj hdj p hp=>by
     have hjn:=(Array.getElem?_eq_some_iff.1 hj).1
     try simp only at hdj
     rw [hl j hjn] at hdj;have:=V7 j oj hj p hp;show listed.getD p false=true;rw [hl p (by omega)];simp at hdj ⊢;omega) x o ho h3 i (D94 x (by omega) hxn i (by omega))
    try simp only at hd
    rw [hl i (by omega)] at hd;simp at hd
  subst hxi;rw [List.range'_succ,wpOps_cons] at h;refine wpOp_mono (λa' w' h'=>?_) h;refine A0D V7 D94 k (x+1) f _ a' w' (by omega) (by omega) (by simpa using hs) (λj hj=>?_) (by omega) h';have:=congrFun (Q7 (listed:=listed) (i:=x) (by omega)) j
  try simp only at this
  rw [this];unfold mP;show (decide (j=x)||listed.getD j false)=_;rw [hl j hj];by_cases e:j=x
  ·subst e;simp
  ·simp only [e,decide_false,Bool.false_or];have:(j<x)↔(j<x+1):=by omega
   simp only [this]
end
theorem Inv.pad {Γ:Ctx} {μ:Mu} {h:A6} {w:World} (hi:Inv Γ μ h w) (m:Nat):Inv Γ μ (h++E3Q m none) w:=by
 have qV:∀ id x,rd (h++E3Q m none) id=some x->rd h id=some x:=by
  intro id x hx;by_cases hl:id<h.length
  ·rwa [D1 hl] at hx
  ·unfold rd at hx;rw [E35 (by omega),List.getElem?_replicate] at hx;split at hx<;>cases hx
 exact ⟨λid x hx=>hi.rows id x (qV id x hx),λi j x y z z' hx hy=>hi.sep i j x y z z' (qV _ _ hx) (qV _ _ hy),λi x y hx=>hi.own i x y (qV _ _ hx),λid hid=>hi.dom id (by simp at hid;omega),hi.ctx⟩
theorem D81 {P:Program} {N L:Nat} {ops:Array Oper} {m id:Nat} {l r:List AOper} {E:N1} (hE:eV P E) {e:Env} {h:A6} {R:Type} {k:Env->A6->Option R} {res:R}
  (hc:yL P N ops m l r=true) (hc2:B56 ops l.length r.length=true) (hL:L<=h.length)
  (C9:B1Y E h h.length l e (h++E3Q m none) (λe h=>A9f E r e h k)=some res) :
  ∃ e' h',k e' h'=some res/\L<=h'.length/\B0H P N L ((Code.region id ops true).wp P) e h .normal e' h':=by
 have D:=A5T hc;have last:=C4W hc2 D.size;obtain ⟨es,hs,vs,he,h0,ht,hk⟩:=C6C l _ _ C9;have D3v:All2 (λi ao=>∃ o,ops[i]?=some o/\Z7 P N ops o ao=true/\ao.slot=none) (E4s l.length r.length) r:=by
  refine All2.of_get (by simp) λi x ao hx hao=>?_
  have hi:i<r.length:=(List.getElem?_eq_some_iff.1 hao).1;rw [List.getElem?_range' hi] at hx;simp at hx;subst hx;have V7:l.length+i<ops.size:=by rw [D.size];omega
  refine ⟨ops[l.length+i],by simp [V7],?_,D.rslot ao (E4e hao)⟩;refine D.oper (l.length+i) _ ao (by simp [V7]) ?_;rw [E35 (by omega)];simpa using hao
 have hbl:=jM D ht h0 (k:=l.length) (E3T _);obtain ⟨e',h',hk',hL',uP⟩:=C2o (L:=L) hE _ r (es l.length) (hs l.length) k res D3v hk (by omega);refine ⟨e',h',hk',hL',fun Γ μ0 a w hs0 hi hN hd Q hq=>wp_region_any D.follows ?_⟩;have whole:∀ (listed:Array Bool) (a:Act) (w:World) (q:Nat) (μ:Mu),Sim Γ l h.length N e es hs vs μ0 (λi=>listed.getD i false) q μ a w->(∀ j,j<l.length->listed.getD j false=true)->wpOps P ops Q (E4s l.length r.length) a w:=by
  intro listed a w q μ S mU;have C7J:SEnv μ (es l.length) a:=by
   intro t;by_cases hw:∃ (j:Nat) (aj:AOper),l[j]?=some aj/\aj.dst=some t
   ·obtain ⟨j,aj,mM,hdj⟩:=hw;have hjl:=(List.getElem?_eq_some_iff.1 mM).1;rw [oJ D ht mM hdj l.length hjl (E3T _)];exact S.envD j aj t mM (mU j hjl) hdj
   ·have bH:∀ (j:Nat) (aj:AOper),l[j]?=some aj->aj.dst≠some t:=λj aj mM hdj=>hw ⟨j,aj,mM,hdj⟩
    rw [vL ht he l.length (E3T _) λj aj _ mM=>bH j aj mM];exact S.envO t λj aj mM _=>bH j aj mM
  have hlen:(hs l.length).length=(hs q).length:=by
   have hql:=S.qle;have:=vU D ht (q:=q) (l.length-q) (by omega) λk ak h1 h2 nN=>by
    cases hck:X3 ak.op with
    | false=>rfl
    | true =>
     have:=(S.calls k ak nN hck).1 (mU k (by omega));omega
   rwa [show q+(l.length-q)=l.length by omega] at this
  have C8X:HD (hs l.length) (und l h.length λi=>listed.getD i false) (hs q).length=hs l.length:=by
   refine vR (by rw [I8,hlen]) λid hid=>?_
   rw [I8] at hid;have hu:und l h.length (λi=>listed.getD i false) id=false:=by
    cases hu:und l h.length (λi=>listed.getD i false) id with
    | false=>rfl
    | true =>
     obtain ⟨k,hk,ao,j,nN,_⟩:=Y4.1 hu;have:=mU k (List.getElem?_eq_some_iff.1 nN).1;rw [this] at hk;cases hk
   rw [rU,if_pos ⟨hid,hu⟩]
  have hinv:=S.inv;rw [C8X] at hinv;exact uP Γ μ a w C7J hinv S.size S.defers Q fun μ' a' w' g1 g2 g3 g4 g5 g6=>hq μ' a' w' (Mu.le_trans S.le g1) (λid hid=>(g2 id hid).trans (S.keep id (by omega))) g3 g4 g5 g6
 have main:∀ (fuel:Nat) (listed:Array Bool) (a:Act) (w:World) (q:Nat) (μ:Mu),listed.size=ops.size->left ops.size listed<=fuel ->
   (∀ j,l.length<=j->j<ops.size->listed.getD j false=false)->(∀ (i:Nat) (o:Oper),ops[i]?=some o->listed.getD i false=true->∀ p∈Y1 o,listed.getD p false=true) ->
   Sim Γ l h.length N e es hs vs μ0 (λi=>listed.getD i false) q μ a w->wpAny P .any ops Q fuel listed a w:=by
  intro fuel
  induction fuel with
  | zero =>
   intro listed a w q μ hsz B2k cD cE S;have mU:∀ j,j<ops.size->listed.getD j false=true:=by
    intro j hj;cases hv:listed.getD j false with
    | true=>rfl
    | false =>
     have hm:j∈(E4m ops.size).filter λi=>!listed.getD i false:=by rw [List.mem_filter];exact ⟨by simpa using hj,by rw [hv];rfl⟩
     have:=List.length_pos_of_mem hm;unfold left at B2k;omega
   have hr0:r.length=0:=by
    cases hr:r.length with
    | zero=>rfl
    | succ x =>
     have h1:=mU l.length (by rw [D.size];omega);have h2:=cD l.length (E3T _) (by rw [D.size];omega);rw [h1] at h2;cases h2
   refine A0D D.dir last 0 l.length 0 listed a w (by rw [D.size];omega) (E3T _) hsz (λj hj=>?_) (E3T _) ?_
   ·rw [mU j hj];have:j<l.length:=by rw [D.size] at hj;omega
    simp [this]
   ·have:=whole listed a w q μ S λj hj=>mU j (by rw [D.size];omega)
    rw [hr0] at this;exact this
  | succ fuel ih =>
   intro listed a w q μ hsz B2k cD cE S;by_cases mU:∀ j,j<l.length->listed.getD j false=true
   ·refine A0D D.dir last r.length l.length (fuel+1) listed a w D.size.symm (E3T _) hsz (λj hj=>?_) ?_ (whole listed a w q μ S mU)
    ·by_cases hjl:j<l.length
     ·rw [mU j hjl];simp [hjl]
     ·rw [cD j (by omega) hj];simp [hjl]
    ·refine E4t ?_ B2k;unfold left;have:((E4m ops.size).filter λi=>!listed.getD i false)=E4s l.length r.length:=by
      rw [D.size,List.range_add,List.filter_append];have e1:(E4m l.length).filter (λi=>!listed.getD i false)=[]:=by
       rw [List.filter_eq_nil_iff];intro j hj;rw [mU j (by simpa using hj)];simp
      rw [e1,E37,List.range'_eq_map_range,List.filter_eq_self.2];intro j hj;obtain ⟨x,hx,rfl⟩:=List.mem_map.1 hj;rw [cD _ (by omega) (by rw [D.size];simp at hx;omega)];rfl
     rw [this];simp
   ·have hex:∃ j,j<l.length/\listed.getD j false=false:=by
     false_or_by_contra
     rename_i hn;exact mU λj hj=>by
      cases hv:listed.getD j false with
      | true=>rfl
      | false=>exact absurd ⟨j,hj,hv⟩ hn
    obtain ⟨j,hj,hv⟩:=hex;refine ⟨λhre=>absurd hre (A6m D.dir hsz j (by rw [D.size];omega) hv),λi hi=>?_⟩;obtain ⟨o,ho,h2,h3⟩:=lW.1 hi;have hin:=(Array.getElem?_eq_some_iff.1 ho).1;rw [getD_both (by omega)] at h2;have hah:=sT (done:=λi=>listed.getD i false) D.dir cE i o ho h3;have R6:i<l.length:=by
     by_cases e1:i<l.length
     ·exact e1
     ·have:=hah j (last i (by omega) hin j (by omega))
      try simp only at this
      rw [hv] at this;cases this
    have vQ:∀ k,listed.getD k false=true->∀ b,((P7 ops).getD k 0).testBit b=true->listed.getD b false=true:=by
     intro k hk b hb;by_cases hkn:k<ops.size
     ·have hok:ops[k]?=some ops[k]:=by simp [hkn]
      exact sT (done:=λi=>listed.getD i false) D.dir cE k _ hok (cE k _ hok hk) b hb
     ·have:listed.getD k false=false:=by simp [Array.getD,show ¬ k<listed.size by omega]
      rw [this] at hk;cases hk
    have kA:=D2R D hE ht h0 he S (i:=i) (ao:=l[i]) (o:=o) (E3P R6) ho h2 hah vQ
     (next:=wpAny P .any ops Q fuel (listed.setIfInBounds i true)) (Q:=Q) (by
      intro V w' μ' q' S';rw [<-Q7 (by omega)] at S';refine ih (listed.setIfInBounds i true) _ w' q' μ' (by simpa using hsz) (by have:=B6F hin hsz h2;omega) ?_ ?_ S'
      ·intro k hk hkn;have:=congrFun (Q7 (listed:=listed) (i:=i) (by omega)) k
       try simp only at this
       rw [this,X9 _ _ (by omega)];exact cD k hk hkn
      ·intro k ok hok hdk p hp;have e1:=congrFun (Q7 (listed:=listed) (i:=i) (by omega)) k;have e2:=congrFun (Q7 (listed:=listed) (i:=i) (by omega)) p
       try simp only at e1 e2
       rw [e1] at hdk;rw [e2];have B2j:listed.getD p false=true:=by
        by_cases e3:k=i
        ·subst e3;rw [ho] at hok;cases hok;exact h3 p hp
        ·rw [X9 _ _ e3] at hdk;exact cE k ok hok hdk p hp
       unfold mP;show (decide (p=i)||listed.getD p false)=true;rw [B2j];simp)
    unfold wpOp;rw [ho];exact kA
 have hgd:∀ i:Nat,(Array.replicate ops.size false).getD i false=false:=by intro i;simp [Array.getD]
 have E0M:(λi=>(Array.replicate ops.size false).getD i false)=λ_=>false:=funext hgd
 refine main ops.size (Array.replicate ops.size false) a _ 0 μ0 (by simp) ?_ (λj _ _=>hgd j) (λi o _ hd=>by rw [hgd] at hd;cases hd) ?_
 ·unfold left;exact E4t (List.length_filter_le _ _) (by simp)
 ·rw [E0M];have E0R:HD (hs l.length) (und l h.length λ_=>false) (hs 0).length=h++E3Q m none:=by
   rw [h0];refine vR (by rw [I8]) λid hid=>?_
   rw [I8] at hid;rw [rU];by_cases ho:∃ i,A05 l h.length i id
   ·obtain ⟨i,ho⟩:=ho;have hu:und l h.length (λ_=>false) id=true:=Y4.2 ⟨i,rfl,ho⟩;rw [hu];have:=A4A D ht h0 ho 0 (Nat.zero_le _);rw [h0] at this;rw [this];simp
   ·have bH:∀ i,0<=i->¬ A05 l h.length i id:=λi _ hi=>ho ⟨i,hi⟩
    have hu:und l h.length (λ_=>false) id=false:=by
     cases hu:und l h.length (λ_=>false) id with
     | false=>rfl
     | true=>obtain ⟨i,_,hi⟩:=Y4.1 hu;exact absurd ⟨i,hi⟩ ho
    rw [if_pos ⟨hid,hu⟩];have:=mV D ht (k:=0) (id:=id) (by rw [h0];exact hid) bH l.length (by omega);rw [E4b,h0] at this;exact this
  refine ⟨Nat.zero_le _,λi ao _ _=>⟨λh=>(by cases h),λh=>(by omega)⟩,λi ao d _ h=>(by cases h),λt _=>hs0 t,?_,λid hid=>?_,Mu.le_refl _,λ_ _=>rfl,hN,hd⟩
  ·rw [E0R];exact (hi.pad m).world rfl rfl rfl λ_ _=>rfl
  ·obtain ⟨i,_,ao,j,_,_,rfl⟩:=Y4.1 hid;exact hi.dom _ (by omega)
end
section
def C2w:AOp->Bool
 | .mv _ | .pick .. | .bin .. | .eqA .. | .eqB .. | .eqN .. | .nilc _ | .un .. | .conv .. | .convS _ | .fAddr .. | .iAddrA .. | .iAddrL .. | .fld1 .. | .fldN .. | .idxA1 .. | .idxAN .. | .idxS .. | .ext .. | .len _ | .lenS _ | .max .. | .min ..=>true
 | _=>false
theorem D8K {E:N1} {q:Bool} {hr:A6} {n0:Nat} {slot:Option Nat} {o:AOp} {e:Env} {h h':A6} {v:Val} (hp:C2w o=true)
  (C9:aop E q hr n0 slot o e h (λv h=>some (v,h))=some (v,h')):∀ (q2:Bool) (yV:A6) (n2:Nat) (slot2:Option Nat) (h2:A6),aop E q2 yV n2 slot2 o e h2 (λv h=>some (v,h))=some (v,h2):=by
 intro q2 yV n2 slot2 h2;cases o<;>simp [C2w] at hp<;>simp only [aop] at C9 ⊢
 case mv=>cases C9;rfl
 all_goals
  simp only [E3O,Option.some.injEq,Prod.mk.injEq] at C9;obtain ⟨_,h1,rfl,rfl⟩:=C9;rw [h1];rfl
def D0q:AOp->Bool
 | .load1 _ | .loadN ..=>true
 | _=>false
theorem D6J {E:N1} {q:Bool} {n0:Nat} {slot:Option Nat} {o:AOp} {e:Env} {h:A6} {v:Val} (hp:D0q o=true) (hr:A6j h o e=some v):aop E q h n0 slot o e h (λv h=>some (v,h))=some (v,h):=by
 cases o<;>simp [D0q] at hp<;>simp only [A6j] at hr<;>simp only [aop,hr]<;>rfl
theorem D3X {o:AOp} {e e':Env} {h:A6} (he:∀ x∈o.opds,e.ev x=e'.ev x):A6j h o e=A6j h o e':=by
 cases o<;>simp only [AOp.opds] at he<;>simp only [A6j]
 ·rw [he _ (by simp)]
 ·rw [he _ (by simp)]
def C6p:AOp->AOp->Bool
 | .load1 (.t a),.load1 (.t b)=>decide (a=b)
 | .loadN n (.t a),.loadN m (.t b)=>decide (n=m)&&decide (a=b)
 | _,_=>false
theorem D2O {o p:AOp} (h:C6p o p=true):o=p/\D0q p=true:=by
 unfold C6p at h;split at h
 ·have:=of_decide_eq_true h;subst this;exact ⟨rfl,rfl⟩
 ·rw [E3R] at h;have h1:=of_decide_eq_true h.1;have h2:=of_decide_eq_true h.2;subst h1 h2;exact ⟨rfl,rfl⟩
 ·cases h
def C4U (s:AOper) (chk:List (Nat × AOp)) (o:AOper):Bool :=
 decide (o.guard=none)&&decide (o.slot=none) && !X3 o.op && !V9 o.op &&
 (match o.dst with
  | some d=>!(s.reads.contains d)&&(C2w o.op||chk.any λc=>decide (c.1=d)&&C6p c.2 o.op)
  | none=>false) &&
 (match s.dst with | some d=>!(o.reads.contains d) | none=>true)
def D5q (ops:Array Oper) (l:List AOper) (s:AOper) (chk:List (Nat × AOp)) (r:List AOper):Bool :=
 let cl:=P7 ops
 l.zipIdx.all (λp=>(cl.getD l.length 0).testBit p.2||C4U s chk p.1) &&
 l.all (λo=>match s.dst with | some d=>decide (o.dst≠some d) | none=>true) &&
 l.zipIdx.all (λp=>l.zipIdx.all λq=>match q.1.dst with | some d=>!(p.1.reads.contains d)||((cl.getD p.2 0).testBit q.2&&decide (q.2<p.2)) | none=>true) &&
 B56 ops (l.length+1) r.length
def D6w (ops:Array Oper) (l:List AOper):Prop:=∀ (i j:Nat) ai aj d,l[i]?=some ai->l[j]?=some aj->aj.dst=some d->d∈ai.reads->((P7 ops).getD i 0).testBit j=true/\j<i
structure Float1 (s:AOper) (chk:List (Nat × AOp)) (o:AOper):Prop where
 guard:o.guard=none
 slot:o.slot=none
 call:X3 o.op=false
 V9:V9 o.op=false
 dst:∃ d,o.dst=some d/\d ∉ s.reads/\(C2w o.op=true\/(D0q o.op=true/\(d,o.op)∈chk))
 reads:∀ d,s.dst=some d->d ∉ o.reads
theorem D1G {s:AOper} {chk:List (Nat × AOp)} {o:AOper} (h:C4U s chk o=true):Float1 s chk o:=by
 simp only [C4U,E3R,decide_eq_true_eq,E4D] at h;obtain ⟨⟨⟨⟨⟨h1,h2⟩,h3⟩,h4⟩,h5⟩,h6⟩:=h;refine ⟨h1,h2,h3,h4,?_,λd hd=>?_⟩
 ·split at h5
  ·rename_i d hd;simp only [E3R,E4D,E4K] at h5;refine ⟨d,hd,λhm=>?_,?_⟩
   ·have:=h5.1;rw [List.contains_iff_mem.2 hm] at this;cases this
   ·rcases h5.2 with h | h
    ·exact .inl h
    ·right
     rw [List.any_eq_true] at h;obtain ⟨c,hc,h⟩:=h;simp only [E3R,decide_eq_true_eq] at h;obtain ⟨e1,e2⟩:=D2O h.2;refine ⟨e2,?_⟩;have:c=(d,o.op):=by cases c;simp at h e1;simp [h.1,e1]
     rw [<-this];exact hc
  ·cases h5
 ·rw [hd] at h6;simp only [E4D] at h6;intro hm;rw [List.contains_iff_mem.2 hm] at h6;cases h6
theorem D1i {R:Type} {e:Env} {h:A6} {k:Option R} {res:R}:∀ {l:List (Nat × AOp)},again l e h k=some res->k=some res/\∀ c∈l,A6j h c.2 e=some (e.get c.1)
 | [],hr=>⟨hr,by simp⟩
 | c::l,hr=>by
  rw [C4y] at hr;unfold agn at hr;split at hr
  ·rename_i hc;obtain ⟨h1,h2⟩:=D1i hr;exact ⟨h1,λx hx=>by rcases List.mem_cons.1 hx with e | hx;subst e;exact hc;exact h2 x hx⟩
  ·cases hr
structure Sim2 (Γ:Ctx) (l:List AOper) (s:AOper) (n0 N:Nat) (e:Env) (vs:Nat->Val) (v:Val) (μ0:Mu) (done:Nat->Bool) (h2:A6) (μ:Mu) (a:Act) (w:World):Prop where
 envD:∀ (i:Nat) ao d,l[i]?=some ao->done i=true->ao.dst=some d->RV μ (vs i) (a.tmps.getD d undef)
 envO:∀ t,(∀ (i:Nat) ao,l[i]?=some ao->done i=true->ao.dst≠some t)->s.dst≠some t->RV μ (e.get t) (a.tmps.getD t undef)
 envS:∀ d,s.dst=some d->RV μ v (a.tmps.getD d undef)
 inv:Inv Γ μ h2 w
 le:μ0.le μ
 keep:∀ id,id<n0 -> μ id = μ0 id
 size:N<=a.tmps.size
 defers:a.defers = Γ.ds
theorem A9V {a:Act} {dst:Option Nat} {V:Value} {t:Nat} (h:dst≠some t):(a.put dst V).tmps.getD t undef=a.tmps.getD t undef:=by
 cases hd:dst with
 | none=>rfl
 | some d =>
  rw [hd] at h;simp [Act.put,Array.getElem?_setIfInBounds_ne (show d≠t from λe=>h (by rw [e]))]
theorem B2i {a:Act} {d N:Nat} {V:Value} (h:wQ N (some d)=true) (hN:N<=a.tmps.size):(a.put (some d) V).tmps.getD d undef=V:=by
 have V7:d<a.tmps.size:=by
  simp [wQ] at h;exact Nat.lt_of_lt_of_le h hN
 simp [Act.put,Array.getD,V7]
section
variable {P:Program} {N m:Nat} {ops:Array Oper} {l r:List AOper} {s:AOper} {chk:List (Nat × AOp)} {E:N1} {hr:A6} {e:Env} {es:Nat->Env} {hs:Nat->A6} {vs:Nat->Val} {Γ:Ctx} {μ0:Mu}
theorem D82 (D:DrawOk P N ops m l (s::r)) (hR:D6w ops l) (ht:Trace E hr hr.length l es hs vs) (he:es 0=e) {i t:Nat} {ao:AOper} (ha:l[i]?=some ao) (hm:t∈ao.reads):(es l.length).get t=(es i).get t:=by
 have R6:i<l.length:=(List.getElem?_eq_some_iff.1 ha).1;by_cases hw:∃ (j:Nat) (aj:AOper),l[j]?=some aj/\aj.dst=some t
 ·obtain ⟨j,aj,mM,hd⟩:=hw;obtain ⟨_,h2⟩:=hR i j ao aj t ha mM hd hm;rw [oJ D ht mM hd i h2 (by omega),oJ D ht mM hd l.length (by omega) (E3T _)]
 ·have bH:∀ (j:Nat) (aj:AOper),l[j]?=some aj->aj.dst≠some t:=λj aj mM hd=>hw ⟨j,aj,mM,hd⟩
  rw [vL ht he i (by omega) λj aj _ mM=>bH j aj mM,vL ht he l.length (E3T _) λj aj _ mM=>bH j aj mM]
theorem D6i (D:DrawOk P N ops m l (s::r)) (hR:D6w ops l) (hE:eV P E) (ht:Trace E hr hr.length l es hs vs) (he:es 0=e) {v:Val} {h2:A6} (hag:∀ c∈chk,A6j h2 c.2 (es l.length)=some ((es l.length).get c.1))
  {done:Nat->Bool} {μ:Mu} {a:Act} {w:World} (S:Sim2 Γ l s hr.length N e vs v μ0 done h2 μ a w) {i:Nat} {ao:AOper} {o:Oper} (ha:l[i]?=some ao) (ho:ops[i]?=some o) (hnd:done i=false) (hf:Float1 s chk ao)
  (D4C:∀ (k:Nat) ak d,l[k]?=some ak->s.dst=some d->ak.dst≠some d)
  (hah:∀ b,((P7 ops).getD i 0).testBit b=true->done b=true)
  {next:Act->World->Prop} {Q:Exit->Act->World->Prop} (hn:∀ V w' μ',Sim2 Γ l s hr.length N e vs v μ0 (mP done i) h2 μ' (a.put o.dst V) w'->next (a.put o.dst V) w') :
  if Region.wanted o (yielded ops a.tmps) then o.wp P a w next Q\/(o.asks P a w/\LetsOut Q) else next (a.put o.dst undef) w:=by
 have R6:i<l.length:=(List.getElem?_eq_some_iff.1 ha).1;have hco:Z7 P N ops o ao=true:=D.oper i o ao ho (by rw [E4r R6];exact ha);have yU:o.dst=ao.dst/\wQ N o.dst=true:=by
  simp only [Z7,E3R,decide_eq_true_eq] at hco;exact ⟨hco.1.1.1,hco.1.1.2⟩
 obtain ⟨d,hd,hds,E1Y⟩:=hf.dst;have C7J:SEnv μ ((es i).keep ao.reads) a:=by
  intro t;rw [Env.get_keep_mem];split
  ·rename_i vS;by_cases hw:∃ (j:Nat) (aj:AOper),l[j]?=some aj/\aj.dst=some t
   ·obtain ⟨j,aj,mM,hdj⟩:=hw;obtain ⟨h1,h3⟩:=hR i j ao aj t ha mM hdj vS;rw [oJ D ht mM hdj i h3 (by omega)];exact S.envD j aj t mM (hah j h1) hdj
   ·have bH:∀ (j:Nat) (aj:AOper),l[j]?=some aj->aj.dst≠some t:=λj aj mM hd=>hw ⟨j,aj,mM,hd⟩
    rw [vL ht he i (by omega) λj aj _ mM=>bH j aj mM];exact S.envO t (λj aj mM _=>bH j aj mM) λuP=>hf.reads t uP vS
  ·trivial
 have kA:=ht.step i ao ha;have B6q:W3 E true h2 hr.length ao (es i) h2 (λv h=>some (v,h))=some (vs i,h2):=by
  unfold W3 at kA ⊢;rw [hf.guard] at kA ⊢;simp only at kA ⊢;rcases E1Y with hp | ⟨hp,vS⟩
  ·exact D8K hp kA _ _ _ _ _
  ·refine D6J hp ?_;have h1:=hag _ vS;simp only at h1;rw [oJ D ht ha hd l.length R6 (E3T _)] at h1;rw [<-h1];refine D3X λx hx=>?_
   cases x with
   | v x=>rfl
   | t n=>exact (D82 D hR ht he ha (List.mem_append_left _ (List.mem_filterMap.2 ⟨.t n,hx,rfl⟩))).symm
 rw [B8O (e':=(es i).keep ao.reads) λt ht'=>by rw [Env.get_keep_mem,if_pos ht']] at B6q;refine A30 (hr:=h2) (n0:=hr.length) hE hco B6q C7J S.inv (λ_ _ h=>h) (by rw [hf.slot];trivial) ?_;intro V w' μ' bJ hv hinv bG;rw [hf.slot] at bG;refine hn V w' μ' ⟨?_,?_,?_,hinv,Mu.le_trans S.le bJ,?_,by rw [Act.size_put];exact S.size,by rw [put_defers];exact S.defers⟩
 ·intro k ak d' nN hdk hd';by_cases e1:k=i
  ·subst e1;rw [ha] at nN;cases nN;rw [yU.1,hd'];rw [B2i (by rw [<-hd',<-yU.1];exact yU.2) S.size];exact hv
  ·rw [X9 _ _ e1] at hdk;rw [A9V (by rw [yU.1];exact λh=>(D.apart i k ao ak ha nN (Ne.symm e1)).1 d' h hd')];exact (S.envD k ak d' nN hdk hd').mono bJ
 ·intro t bH uP;have h1:=bH i ao ha (sW _ _);rw [A9V (by rw [yU.1];exact h1)];refine (S.envO t (λk ak nN hdk=>?_) uP).mono bJ;by_cases e1:k=i
  ·subst e1;rw [hnd] at hdk;cases hdk
  ·exact bH k ak nN (by rw [X9 _ _ e1];exact hdk)
 ·intro d' hd';rw [A9V (by rw [yU.1];exact D4C i ao d' ha hd')];exact (S.envS d' hd').mono bJ
 ·intro id hid;by_cases hl:id<h2.length
  ·rw [<-S.keep id hid];exact bG id hl λj hj=>by cases hj
  ·have h1:=S.inv.dom id (by omega);have h3:=S.keep id hid;rw [h1] at h3;have h4:=hinv.dom id (by omega);rw [h4,<-h3]
end
theorem C8N {P:Program} {N L:Nat} {ops:Array Oper} {m:Nat} {l r:List AOper} {s:AOper} {chk:List (Nat × AOp)} {E:N1} (hE:eV P E) {e:Env} {h:A6} {R:Type} {k:Env->A6->Option R} {res:R}
  (hc:yL P N ops m l (s::r)=true) (hcs:D5q ops l s chk r=true) (hL:L<=h.length)
  (C9:B1Y E h h.length l e (h++E3Q m none) (λe h=>W3 E false h 0 s e h λv h2=>again chk e h2 (A9f E r (e.put s.dst v) h2 k))=some res) :
  ∃ e' h',k e' h'=some res/\L<=h'.length/\B0H P N L (λQ a w=>wpAny P .any ops Q ops.size (Array.replicate ops.size false) a { w with drawn:=w.drawn+1 }) e h .normal e' h':=by
 have D:=A5T hc;simp only [D5q,E3R,E4H] at hcs;obtain ⟨⟨⟨hfl,hdi⟩,E29⟩,hla⟩:=hcs;have hR:D6w ops l:=by
  intro i j ai aj d hi hj hd hr;have:=E29 (ai,i) (mem_zipIdx hi) (aj,j) (mem_zipIdx hj);simp only [hd,E4K,E4D,E3R,decide_eq_true_eq] at this;rcases this with this | this
  ·have hc:ai.reads.contains d=true:=by simpa using hr
   rw [hc] at this;cases this
  ·exact this
 have hsz:ops.size=l.length+(r.length+1):=by rw [D.size];simp
 have last:=C4W hla (by rw [hsz];omega);have E0L:∀ (i:Nat) ao,l[i]?=some ao->((P7 ops).getD l.length 0).testBit i=false->Float1 s chk ao:=by
  intro i ao ha hb;have:=hfl (ao,i) (mem_zipIdx ha);simp only [E4K] at this;rcases this with h | h
  ·rw [hb] at h;cases h
  ·exact D1G h
 have D4C:∀ (k:Nat) ak d,l[k]?=some ak->s.dst=some d->ak.dst≠some d:=by
  intro k ak d nN hd;have:=hdi ak (E4e nN);rw [hd] at this;simpa using this
 obtain ⟨es,hs,vs,he,h0,ht,hk⟩:=C6C l _ _ C9;rw [C4D] at hk;simp only [E3O] at hk;obtain ⟨⟨v,h2⟩,B6q,hk⟩:=hk;obtain ⟨hk,hag⟩:=D1i hk;simp only at hk hag;have hnl:l.length<ops.size:=by omega
 have hos:ops[l.length]?=some ops[l.length]:=by simp [hnl]
 have E1P:Z7 P N ops ops[l.length] s=true:=D.oper l.length _ s hos (by rw [E35 (E3T _)];simp);have D7u:s.slot=none:=D.rslot s (by simp);have D2a:ops[l.length].dst=s.dst/\wQ N ops[l.length].dst=true:=by
  have:=E1P;simp only [Z7,E3R,decide_eq_true_eq] at this;exact ⟨this.1.1.1,this.1.1.2⟩
 have D3v:All2 (λi ao=>∃ o,ops[i]?=some o/\Z7 P N ops o ao=true/\ao.slot=none) (E4s (l.length+1) r.length) r:=by
  refine All2.of_get (by simp) λi x ao hx hao=>?_
  have hi:i<r.length:=(List.getElem?_eq_some_iff.1 hao).1;rw [List.getElem?_range' hi] at hx;simp at hx;subst hx;have V7:l.length+1+i<ops.size:=by omega
  refine ⟨ops[l.length+1+i],by simp [V7],?_,D.rslot ao (E4a _ (E4e hao))⟩;refine D.oper (l.length+1+i) _ ao (by simp [V7]) ?_;rw [E35 (by omega),show l.length+1+i-l.length=i+1 by omega];simpa using hao
 have hbl:=jM D ht h0 (k:=l.length) (E3T _);have hl2:=C8A hE B6q;obtain ⟨e',h',hk',hL',uP⟩:=C2o (L:=L) hE _ r ((es l.length).put s.dst v) h2 k res D3v hk (by omega);refine ⟨e',h',hk',hL',fun Γ μ0 a w hs0 hi hN hd Q hq=>?_⟩;have whole:∀ (listed:Array Bool) (a:Act) (w:World) (μ:Mu),Sim2 Γ l s h.length N e vs v μ0 (λi=>listed.getD i false) h2 μ a w->(∀ j,j<l.length->listed.getD j false=true)->wpOps P ops Q (E4s (l.length+1) r.length) a w:=by
  intro listed a w μ S mU;have C7J:SEnv μ ((es l.length).put s.dst v) a:=by
   intro t;have main:s.dst≠some t->RV μ ((es l.length).get t) (a.tmps.getD t undef):=by
    intro U1;by_cases hw:∃ (j:Nat) (aj:AOper),l[j]?=some aj/\aj.dst=some t
    ·obtain ⟨j,aj,mM,hdj⟩:=hw;have hjl:=(List.getElem?_eq_some_iff.1 mM).1;rw [oJ D ht mM hdj l.length hjl (E3T _)];exact S.envD j aj t mM (mU j hjl) hdj
    ·have bH:∀ (j:Nat) (aj:AOper),l[j]?=some aj->aj.dst≠some t:=λj aj mM hdj=>hw ⟨j,aj,mM,hdj⟩
     rw [vL ht he l.length (E3T _) λj aj _ mM=>bH j aj mM];exact S.envO t (λj aj mM _=>bH j aj mM) U1
   cases hsd:s.dst with
   | none=>exact main (by rw [hsd];simp)
   | some d =>
    by_cases e1:d=t
    ·subst e1;rw [Env.get_put_same];exact S.envS d hsd
    ·rw [Env.get_put_other _ _ _ _ e1];exact main (by rw [hsd];simpa using e1)
  exact uP Γ μ a w C7J S.inv S.size S.defers Q fun μ' a' w' g1 g2 g3 g4 g5 g6=>hq μ' a' w' (Mu.le_trans S.le g1) (λid hid=>(g2 id hid).trans (S.keep id (by omega))) g3 g4 g5 g6
 have main2:∀ (fuel:Nat) (listed:Array Bool) (a:Act) (w:World) (μ:Mu),listed.size=ops.size->left ops.size listed<=fuel->listed.getD l.length false=true ->
   (∀ j,l.length<j->j<ops.size->listed.getD j false=false)->(∀ (j:Nat) ao,l[j]?=some ao->listed.getD j false=false->Float1 s chk ao) ->
   (∀ (i:Nat) (o:Oper),ops[i]?=some o->listed.getD i false=true->∀ p∈Y1 o,listed.getD p false=true) ->
   Sim2 Γ l s h.length N e vs v μ0 (λi=>listed.getD i false) h2 μ a w->wpAny P .any ops Q fuel listed a w:=by
  intro fuel
  induction fuel with
  | zero =>
   intro listed a w μ hls B2k hsd cD E0K cE S;have mU:∀ j,j<ops.size->listed.getD j false=true:=by
    intro j hj;cases hv:listed.getD j false with
    | true=>rfl
    | false =>
     have hm:j∈(E4m ops.size).filter λi=>!listed.getD i false:=by rw [List.mem_filter];exact ⟨by simpa using hj,by rw [hv];rfl⟩
     have:=List.length_pos_of_mem hm;unfold left at B2k;omega
   have hr0:r.length=0:=by
    cases hr:r.length with
    | zero=>rfl
    | succ x =>
     have h1:=mU (l.length+1) (by omega);have h3:=cD (l.length+1) (by omega) (by omega);rw [h1] at h3;cases h3
   refine A0D D.dir last 0 (l.length+1) 0 listed a w (by omega) (E3T _) hls (λj hj=>?_) (E3T _) ?_
   ·rw [mU j hj];have:j<l.length+1:=by omega
    simp [this]
   ·have:=whole listed a w μ S λj hj=>mU j (by omega)
    rw [hr0] at this;exact this
  | succ fuel ih =>
   intro listed a w μ hls B2k hsd cD E0K cE S;by_cases mU:∀ j,j<l.length->listed.getD j false=true
   ·refine A0D D.dir last r.length (l.length+1) (fuel+1) listed a w (by omega) (E3T _) hls (λj hj=>?_) ?_ (whole listed a w μ S mU)
    ·by_cases hjl:j<l.length+1
     ·have:listed.getD j false=true:=by
       by_cases e1:j=l.length
       ·subst e1;exact hsd
       ·exact mU j (by omega)
      rw [this];simp [hjl]
     ·rw [cD j (by omega) hj];simp [hjl]
    ·refine E4t ?_ B2k;unfold left;have:((E4m ops.size).filter λi=>!listed.getD i false)=E4s (l.length+1) r.length:=by
      rw [show ops.size=(l.length+1)+r.length by omega,List.range_add,List.filter_append];have e1:(E4m (l.length+1)).filter (λi=>!listed.getD i false)=[]:=by
       rw [List.filter_eq_nil_iff];intro j hj;have hj:j<l.length+1:=by simpa using hj
       have:listed.getD j false=true:=by
        by_cases e1:j=l.length
        ·subst e1;exact hsd
        ·exact mU j (by omega)
       rw [this];simp
      rw [e1,E37,List.range'_eq_map_range,List.filter_eq_self.2];intro j hj;obtain ⟨x,hx,rfl⟩:=List.mem_map.1 hj;rw [cD _ (by omega) (by simp at hx;omega)];rfl
     rw [this];simp
   ·have hex:∃ j,j<l.length/\listed.getD j false=false:=by
     false_or_by_contra
     rename_i hn;exact mU λj hj=>by
      cases hv:listed.getD j false with
      | true=>rfl
      | false=>exact absurd ⟨j,hj,hv⟩ hn
    obtain ⟨j,hj,hv⟩:=hex;refine ⟨λhre=>absurd hre (A6m D.dir hls j (by omega) hv),λi hi=>?_⟩;obtain ⟨o,ho,h3,h4⟩:=lW.1 hi;have hin:=(Array.getElem?_eq_some_iff.1 ho).1;rw [getD_both (by omega)] at h3;have hah:=sT (done:=λi=>listed.getD i false) D.dir cE i o ho h4;have R6:i<l.length:=by
     by_cases e1:i<l.length
     ·exact e1
     ·by_cases e2:i=l.length
      ·subst e2;rw [hsd] at h3;cases h3
      ·have:=hah j (last i (by omega) hin j (by omega))
       try simp only at this
       rw [hv] at this;cases this
    have hao:=E3P R6;have kA:=D6i D hR hE ht he hag S (i:=i) (ao:=l[i]) (o:=o) hao ho h3 (E0K i l[i] hao h3) D4C hah
     (next:=wpAny P .any ops Q fuel (listed.setIfInBounds i true)) (Q:=Q) (by
      intro V w' μ' S';rw [<-Q7 (by omega)] at S';refine ih (listed.setIfInBounds i true) _ w' μ' (by simpa using hls) (by have:=B6F hin hls h3;omega) ?_ ?_ ?_ ?_ S'
      ·have:=congrFun (Q7 (listed:=listed) (i:=i) (by omega)) l.length
       try simp only at this
       rw [this,X9 _ _ (by omega)];exact hsd
      ·intro k hk hkn;have:=congrFun (Q7 (listed:=listed) (i:=i) (by omega)) k
       try simp only at this
       rw [this,X9 _ _ (by omega)];exact cD k hk hkn
      ·intro k ak nN hdk;have e1:=congrFun (Q7 (listed:=listed) (i:=i) (by omega)) k
       try simp only at e1
       rw [e1] at hdk;by_cases e2:k=i
       ·subst e2;rw [sW] at hdk;cases hdk
       ·rw [X9 _ _ e2] at hdk;exact E0K k ak nN hdk
      ·intro k ok hok hdk p hp;have e1:=congrFun (Q7 (listed:=listed) (i:=i) (by omega)) k;have e2:=congrFun (Q7 (listed:=listed) (i:=i) (by omega)) p
       try simp only at e1 e2
       rw [e1] at hdk;rw [e2];have B2j:listed.getD p false=true:=by
        by_cases e3:k=i
        ·subst e3;rw [ho] at hok;cases hok;exact h4 p hp
        ·rw [X9 _ _ e3] at hdk;exact cE k ok hok hdk p hp
       unfold mP;show (decide (p=i)||listed.getD p false)=true;rw [B2j];simp)
    unfold wpOp;rw [ho];exact kA
 have main:∀ (fuel:Nat) (listed:Array Bool) (a:Act) (w:World) (q:Nat) (μ:Mu),listed.size=ops.size->left ops.size listed<=fuel ->
   (∀ j,l.length<=j->j<ops.size->listed.getD j false=false)->(∀ (i:Nat) (o:Oper),ops[i]?=some o->listed.getD i false=true->∀ p∈Y1 o,listed.getD p false=true) ->
   Sim Γ l h.length N e es hs vs μ0 (λi=>listed.getD i false) q μ a w->wpAny P .any ops Q fuel listed a w:=by
  intro fuel
  induction fuel with
  | zero =>
   intro listed a w q μ hls B2k cD cE S;have hv:=cD l.length (E3T _) hnl;have hm:l.length∈(E4m ops.size).filter λi=>!listed.getD i false:=by rw [List.mem_filter];exact ⟨by simpa using hnl,by rw [hv];rfl⟩
   have:=List.length_pos_of_mem hm;unfold left at B2k;omega
  | succ fuel ih =>
   intro listed a w q μ hls B2k cD cE S;have hv:=cD l.length (E3T _) hnl;refine ⟨λhre=>absurd hre (A6m D.dir hls l.length hnl hv),λi hi=>?_⟩;obtain ⟨o,ho,h3,h4⟩:=lW.1 hi;have hin:=(Array.getElem?_eq_some_iff.1 ho).1;rw [getD_both (by omega)] at h3;have hah:=sT (done:=λi=>listed.getD i false) D.dir cE i o ho h4;have vQ:∀ k,listed.getD k false=true->∀ b,((P7 ops).getD k 0).testBit b=true->listed.getD b false=true:=by
    intro k hk b hb;by_cases hkn:k<ops.size
    ·have hok:ops[k]?=some ops[k]:=by simp [hkn]
     exact sT (done:=λi=>listed.getD i false) D.dir cE k _ hok (cE k _ hok hk) b hb
    ·have:listed.getD k false=false:=by simp [Array.getD,show ¬ k<listed.size by omega]
     rw [this] at hk;cases hk
   have D15:∀ k ok,ops[k]?=some ok->(listed.setIfInBounds i true).getD k false=true->∀ p∈Y1 ok,(listed.setIfInBounds i true).getD p false=true:=by
    intro k ok hok hdk p hp;have e1:=congrFun (Q7 (listed:=listed) (i:=i) (by omega)) k;have e2:=congrFun (Q7 (listed:=listed) (i:=i) (by omega)) p
    try simp only at e1 e2
    rw [e1] at hdk;rw [e2];have B2j:listed.getD p false=true:=by
     by_cases e3:k=i
     ·subst e3;rw [ho] at hok;cases hok;exact h4 p hp
     ·rw [X9 _ _ e3] at hdk;exact cE k ok hok hdk p hp
    unfold mP;show (decide (p=i)||listed.getD p false)=true;rw [B2j];simp
   by_cases R6:i<l.length
   ·have kA:=D2R D hE ht h0 he S (i:=i) (ao:=l[i]) (o:=o) (E3P R6) ho h3 hah vQ
     (next:=wpAny P .any ops Q fuel (listed.setIfInBounds i true)) (Q:=Q) (by
      intro V w' μ' q' S';rw [<-Q7 (by omega)] at S';refine ih (listed.setIfInBounds i true) _ w' q' μ' (by simpa using hls) (by have:=B6F hin hls h3;omega) ?_ D15 S';intro k hk hkn;have:=congrFun (Q7 (listed:=listed) (i:=i) (by omega)) k
      try simp only at this
      rw [this,X9 _ _ (by omega)];exact cD k hk hkn)
    unfold wpOp;rw [ho];exact kA
   ·have hie:i=l.length:=by
     by_cases e1:i=l.length
     ·exact e1
     ·have:=hah l.length (last i (by omega) hin l.length (by omega))
      try simp only at this
      rw [hv] at this;cases this
    subst hie;have hoo:o=ops[l.length]:=by rw [hos] at ho;cases ho;rfl
    have B2j:∀ (j:Nat) aj,l[j]?=some aj->listed.getD j false=false->Float1 s chk aj:=by
     intro j aj mM hdj;refine E0L j aj mM ?_;cases hb:((P7 ops).getD l.length 0).testBit j with
     | false=>rfl
     | true =>
      have:=hah j hb
      try simp only at this
      rw [hdj] at this;cases this
    have hlen:(hs l.length).length=(hs q).length:=by
     have hql:=S.qle;have:=vU D ht (q:=q) (l.length-q) (by omega) λk ak h1 h2 nN=>by
      cases hck:X3 ak.op with
      | false=>rfl
      | true =>
       have hd1:listed.getD k false=true:=by
        cases hd2:listed.getD k false with
        | true=>rfl
        | false=>have:=(B2j k ak nN hd2).call;rw [hck] at this;cases this
       have:=(S.calls k ak nN hck).1 hd1;omega
     rwa [show q+(l.length-q)=l.length by omega] at this
    have C8X:HD (hs l.length) (und l h.length λi=>listed.getD i false) (hs q).length=hs l.length:=by
     refine vR (by rw [I8,hlen]) λid hid=>?_
     rw [I8] at hid;have hu:und l h.length (λi=>listed.getD i false) id=false:=by
      cases hu:und l h.length (λi=>listed.getD i false) id with
      | false=>rfl
      | true =>
       obtain ⟨k,hk,ao,j,nN,hj,_⟩:=Y4.1 hu;have:=(B2j k ao nN hk).slot;rw [hj] at this;cases this
     rw [rU,if_pos ⟨hid,hu⟩]
    have hinv:=S.inv;rw [C8X] at hinv;have C7J:SEnv μ ((es l.length).keep s.reads) a:=by
     intro t;rw [Env.get_keep_mem];split
     ·rename_i vS;by_cases hw:∃ (j:Nat) (aj:AOper),l[j]?=some aj/\aj.dst=some t
      ·obtain ⟨j,aj,mM,hdj⟩:=hw;have hjl:=(List.getElem?_eq_some_iff.1 mM).1;rw [oJ D ht mM hdj l.length hjl (E3T _)];refine S.envD j aj t mM ?_ hdj;cases hd2:listed.getD j false with
       | true=>rfl
       | false =>
        obtain ⟨d,h5,h6,_⟩:=(B2j j aj mM hd2).dst;rw [hdj] at h5;cases h5;exact absurd vS h6
      ·have bH:∀ (j:Nat) (aj:AOper),l[j]?=some aj->aj.dst≠some t:=λj aj mM hdj=>hw ⟨j,aj,mM,hdj⟩
       rw [vL ht he l.length (E3T _) λj aj _ mM=>bH j aj mM];exact S.envO t λj aj mM _=>bH j aj mM
     ·trivial
    have D95:=B6q;rw [B8O (e':=(es l.length).keep s.reads) λt ht'=>by rw [Env.get_keep_mem,if_pos ht']] at D95;unfold wpOp;rw [ho];subst hoo;refine A30 (hr:=hs l.length) (n0:=0) hE E1P D95 C7J hinv (λ_ _ h=>h) (by rw [D7u];trivial) ?_;intro V w' μ' bJ hv' E1W bG;rw [D7u] at bG;have D4B:=Q7 (listed:=listed) (i:=l.length) (by omega);refine main2 fuel (listed.setIfInBounds l.length true) _ w' μ' (by simpa using hls) (by have:=B6F hin hls h3;omega) ?_ ?_ ?_ D15 ?_
    ·have:=congrFun D4B l.length
     try simp only at this
     rw [this];exact sW _ _
    ·intro k hk hkn;have:=congrFun D4B k
     try simp only at this
     rw [this,X9 _ _ (by omega)];exact cD k (by omega) hkn
    ·intro k ak nN hdk;have hkl:=(List.getElem?_eq_some_iff.1 nN).1;have:=congrFun D4B k
     try simp only at this
     rw [this,X9 _ _ (by omega)] at hdk;exact B2j k ak nN hdk
    ·have hsame:∀ k:Nat,k<l.length->(listed.setIfInBounds l.length true).getD k false=listed.getD k false:=by
      intro k hkl;have:=congrFun D4B k
      try simp only at this
      rw [this,X9 _ _ (by omega)]
     refine ⟨?_,?_,?_,E1W,Mu.le_trans S.le bJ,?_,by rw [Act.size_put];exact S.size,by rw [put_defers];exact S.defers⟩
     ·intro k ak d nN hdk hd;have hkl:=(List.getElem?_eq_some_iff.1 nN).1
      try simp only at hdk
      rw [hsame k hkl] at hdk;rw [A9V (by rw [D2a.1];exact λh=>D4C k ak d nN h hd)];exact (S.envD k ak d nN hdk hd).mono bJ
     ·intro t bH uP;rw [A9V (by rw [D2a.1];exact uP)];refine (S.envO t λk ak nN hdk=>bH k ak nN ?_).mono bJ;have hkl:=(List.getElem?_eq_some_iff.1 nN).1
      try simp only
      rw [hsame k hkl];exact hdk
     ·intro d hd;rw [D2a.1,hd,B2i (by rw [<-hd,<-D2a.1];exact D2a.2) S.size];exact hv'
     ·intro id hid;rw [<-S.keep id hid];exact bG id (by omega) λj hj=>by cases hj
 have hgd:∀ i:Nat,(Array.replicate ops.size false).getD i false=false:=by intro i;simp [Array.getD]
 have E0M:(λi=>(Array.replicate ops.size false).getD i false)=λ_=>false:=funext hgd
 refine main ops.size (Array.replicate ops.size false) a _ 0 μ0 (by simp) ?_ (λj _ _=>hgd j) (λi o _ hd=>by rw [hgd] at hd;cases hd) ?_
 ·unfold left;exact E4t (List.length_filter_le _ _) (by simp)
 ·rw [E0M];have E0R:HD (hs l.length) (und l h.length λ_=>false) (hs 0).length=h++E3Q m none:=by
   rw [h0];refine vR (by rw [I8]) λid hid=>?_
   rw [I8] at hid;rw [rU];by_cases ho:∃ i,A05 l h.length i id
   ·obtain ⟨i,ho⟩:=ho;have hu:und l h.length (λ_=>false) id=true:=Y4.2 ⟨i,rfl,ho⟩;rw [hu];have:=A4A D ht h0 ho 0 (Nat.zero_le _);rw [h0] at this;rw [this];simp
   ·have bH:∀ i,0<=i->¬ A05 l h.length i id:=λi _ hi=>ho ⟨i,hi⟩
    have hu:und l h.length (λ_=>false) id=false:=by
     cases hu:und l h.length (λ_=>false) id with
     | false=>rfl
     | true=>obtain ⟨i,_,hi⟩:=Y4.1 hu;exact absurd ⟨i,hi⟩ ho
    rw [if_pos ⟨hid,hu⟩];have:=mV D ht (k:=0) (id:=id) (by rw [h0];exact hid) bH l.length (by omega);rw [E4b,h0] at this;exact this
  refine ⟨Nat.zero_le _,λi ao _ _=>⟨λh=>(by cases h),λh=>(by omega)⟩,λi ao d _ h=>(by cases h),λt _=>hs0 t,?_,λid hid=>?_,Mu.le_refl _,λ_ _=>rfl,hN,hd⟩
  ·rw [E0R];exact (hi.pad m).world rfl rfl rfl λ_ _=>rfl
  ·obtain ⟨i,_,ao,j,_,_,rfl⟩:=Y4.1 hid;exact hi.dom _ (by omega)
end
def sw (k i:Nat):Nat:=if i=k then k+1 else if i=k+1 then k else i
theorem D5c (k i:Nat):sw k (sw k i)=i:=by unfold sw;split<;>(try split)<;>(try split)<;>omega
theorem D5b {k i n:Nat} (hk:k+1<n):sw k i<n↔i<n:=by unfold sw;split<;>(try split)<;>omega
theorem E1w {k i j:Nat} (h:sw k i=sw k j):i=j:=by rw [<-D5c k i,h,D5c]
def swO (k:Nat) (o:Oper):Oper:={ o with after:=o.after.map λe=>{ e with on:=sw k e.on },guard:=o.guard.map λg=>(sw k g.1,g.2) }
def swp (k:Nat) (ops:Array Oper):Array Oper:=((E4m ops.size).map λi=>swO k (ops.getD (sw k i) default)).toArray
theorem swp_size (k:Nat) (ops:Array Oper):(swp k ops).size=ops.size:=by simp [swp]
theorem D4a {k:Nat} {ops:Array Oper} (hk:k+1<ops.size) (i:Nat):(swp k ops)[sw k i]?=(ops[i]?).map (swO k):=by
 by_cases hi:i<ops.size
 ·have h1:sw k i<ops.size:=(D5b hk).2 hi;unfold swp;simp [h1,hi,D5c]
 ·have h1:¬ sw k i<ops.size:=λh=>hi ((D5b hk).1 h)
  rw [Array.getElem?_eq_none (by rw [swp_size];omega),Array.getElem?_eq_none (by omega)];rfl
theorem C06 (k:Nat) (o:Oper):Y1 (swO k o)=(Y1 o).map (sw k):=by
 unfold Y1 swO;simp only [Array.toList_map];rw [List.filter_map,List.map_map,List.map_map]
 congr 1
theorem D39 {k:Nat} {ops:Array Oper} (hk:k+1<ops.size) (o:Oper) (t:Array Value):Region.wanted (swO k o) (yielded (swp k ops) t)=Region.wanted o (yielded ops t):=by
 unfold Region.wanted swO;cases hg:o.guard with
 | none=>rfl
 | some g =>
  obtain ⟨j,b⟩:=g;simp only [E4T];unfold yielded;rw [D4a hk];cases ops[j]?<;>rfl
theorem D9R {P:Program} {k:Nat} {ops:Array Oper} (hk:k+1<ops.size) {Q:Exit->Act->World->Prop} {i:Nat} {a:Act} {w:World} {K:Act->World->Prop}:wpOp P (swp k ops) Q (sw k i) K a w=wpOp P ops Q i K a w:=by
 unfold wpOp;rw [D4a hk];cases hi:ops[i]? with
 | none=>rfl
 | some o =>
  simp only [E4T];rw [D39 hk];rfl
theorem C6h {k:Nat} {ops:Array Oper} (hk:k+1<ops.size) {l l':Array Bool} (hl:∀ i b,l'.getD (sw k i) b=l.getD i b) (i:Nat):sw k i∈Region.ready .any (swp k ops) l'↔i∈Region.ready .any ops l:=by
 rw [lW,lW,D4a hk];constructor
 ·rintro ⟨o',h1,h2,h3⟩;cases ho:ops[i]? with
  | none=>rw [ho] at h1;cases h1
  | some o =>
   rw [ho] at h1;cases h1;refine ⟨o,rfl,by rw [<-hl];exact h2,λp hp=>?_⟩;rw [<-hl];exact h3 _ (by rw [C06];exact List.mem_map.2 ⟨p,hp,rfl⟩)
 ·rintro ⟨o,h1,h2,h3⟩;refine ⟨swO k o,by rw [h1];rfl,by rw [hl];exact h2,λp hp=>?_⟩;rw [C06] at hp;obtain ⟨q,hq,rfl⟩:=List.mem_map.1 hp;rw [hl];exact h3 q hq
theorem D0K {k:Nat} {ops:Array Oper} (hk:k+1<ops.size) {l l':Array Bool} (hl:∀ i b,l'.getD (sw k i) b=l.getD i b) (h:Region.ready .any ops l=[]):Region.ready .any (swp k ops) l'=[]:=by
 rw [List.eq_nil_iff_forall_not_mem];intro i hi;have:=(C6h hk hl (sw k i)).1 (by rw [D5c];exact hi);rw [h] at this;cases this
theorem D20 {P:Program} {k:Nat} {ops:Array Oper} (hk:k+1<ops.size) {Q:Exit->Act->World->Prop}:∀ (fuel:Nat) (l l':Array Bool) (a:Act) (w:World),l.size=ops.size->l'.size=ops.size->(∀ i b,l'.getD (sw k i) b=l.getD i b) ->
  wpAny P .any (swp k ops) Q fuel l' a w->wpAny P .any ops Q fuel l a w
 | 0,l,l',a,w,s1,s2,hl,h=>by
  refine ⟨?_,h.2⟩;rw [List.eq_nil_iff_forall_not_mem];intro i hi;have:=(C6h hk hl i).2 hi;rw [h.1] at this;cases this
 | fuel+1,l,l',a,w,s1,s2,hl,h=>by
  refine ⟨λhe=>h.1 (D0K hk hl he),λi hi=>?_⟩;have h1:=h.2 (sw k i) ((C6h hk hl i).2 hi);rw [D9R hk] at h1;have V7:i<ops.size:=by
   obtain ⟨o,ho,_⟩:=lW.1 hi;exact (Array.getElem?_eq_some_iff.1 ho).1
  have E22:sw k i<l'.size:=by rw [s2];exact (D5b hk).2 V7
  refine wpOp_mono (λa w hh=>D20 hk fuel _ _ a w (by simpa using s1) (by simpa using s2) (λj b=>?_) hh) h1;by_cases e:j=i
  ·subst e;simp [Array.getD,E22,show j<l.size by omega]
  ·have e2:sw k j≠sw k i:=λh=>e (E1w h)
   rw [Array.getD_eq_getD_getElem?,Array.getD_eq_getD_getElem?,Array.getElem?_setIfInBounds_ne (Ne.symm e2),Array.getElem?_setIfInBounds_ne (Ne.symm e),<-Array.getD_eq_getD_getElem?,<-Array.getD_eq_getD_getElem?];exact hl j b
theorem D7f {P:Program} {N L:Nat} {ops:Array Oper} {m id:Nat} {l r:List AOper} {s:AOper} {chk:List (Nat × AOp)} {E:N1} (hE:eV P E) {e:Env} {h:A6} {R:Type} {k:Env->A6->Option R} {res:R}
  (hc:(yL P N ops m l (s::r)&&D5q ops l s chk r)=true\/(decide (l.length<ops.size)&&decide (0<l.length)&&yL P N (swp (l.length-1) ops) m l (s::r)&&D5q (swp (l.length-1) ops) l s chk r)=true) (hL:L<=h.length)
  (C9:B1Y E h h.length l e (h++E3Q m none) (λe h=>W3 E false h 0 s e h λv h2=>again chk e h2 (A9f E r (e.put s.dst v) h2 k))=some res) :
  ∃ e' h',k e' h'=some res/\L<=h'.length/\B0H P N L ((Code.region id ops true).wp P) e h .normal e' h':=by
 rcases hc with hc | hc
 ·rw [E3R] at hc;obtain ⟨e',h',h1,h2,h3⟩:=C8N hE hc.1 hc.2 hL C9;exact ⟨e',h',h1,h2,fun Γ μ0 a w g1 g2 g3 g4 Q hq=>wp_region_any (A5T hc.1).follows (h3 Γ μ0 a w g1 g2 g3 g4 Q hq)⟩
 ·simp only [E3R,decide_eq_true_eq] at hc;obtain ⟨⟨⟨hs,h0⟩,hc⟩,hcs⟩:=hc;obtain ⟨e',h',h1,h2,h3⟩:=C8N hE hc hcs hL C9;refine ⟨e',h',h1,h2,fun Γ μ0 a w g1 g2 g3 g4 Q hq=>wp_region_any (A5T hc).follows ?_⟩;have hk:l.length-1+1<ops.size:=by omega
  refine D20 hk _ _ (Array.replicate ops.size false) a _ (by simp) (by simp) (λi b=>?_) ?_
  ·simp only [Array.getD,Array.size_replicate,D5b hk];split<;>simp
  ·have:=h3 Γ μ0 a w g1 g2 g3 g4 Q hq;simpa only [swp_size] using this
section
def B8X (P:Program) (N:Nat) (ops:Array Oper):List Oper->List AOper->Bool
 | [],[]=>true
 | o::r,a::l=>Z7 P N ops o a&&decide (a.slot=none)&&B8X P N ops r l
 | _,_=>false
def Y0 (P:Program) (N:Nat):Code->ACode->Bool
 | c,.skip=>(match c with | .skip=>true | _=>false)
 | c,.ops l=>(match c with | .region _ ops false=>B8X P N ops ops.toList l | _=>false)
 | c,.draw m l r=>(match c with | .region _ ops true=>yL P N ops m l r&&B56 ops l.length r.length | _=>false)
 | c,.drawS m l s chk r=>(match c with | .region _ ops true=>(yL P N ops m l (s::r)&&D5q ops l s chk r)||(decide (l.length<ops.size)&&decide (0<l.length)&&yL P N (swp (l.length-1) ops) m l (s::r)&&D5q (swp (l.length-1) ops) l s chk r) | _=>false)
 | c,.seq _ a b=>(match c with | .seq x y=>Y0 P N x a&&Y0 P N y b | _=>false)
 | c,.cond q a b=>(match c with | .cond z x y=>D8 z q&&Y0 P N x a&&Y0 P N y b | _=>false)
 | c,.block id a=>(match c with | .block fX x=>decide (fX=id)&&Y0 P N x a | _=>false)
 | c,.loop _ a=>(match c with | .loop x=>Y0 P N x a | _=>false)
 | c,.exit id=>(match c with | .exit fX=>decide (fX=id) | _=>false)
 | c,.ret=>(match c with | .ret=>true | _=>false)
def aU (P:Program):List ResultVar->List ARes->Bool
 | [],[]=>true
 | .tmp t::r,.tmp t'::l=>decide (t=t')&&aU P r l
 | .cell t ty::r,.cell1 t'::l=>decide (t=t')&&decide (jK P ty=some false)&&aU P r l
 | .cell t ty::r,.cellN t' n::l=>decide (t=t')&&decide (jK P ty=some true)&&decide (P9 P ty=some n)&&aU P r l
 | _,_=>false
def C4V (P:Program) (fn:Func) (f:AFn):Bool :=
 (match fn.body with | some c => Y0 P fn.ntmps c f.code | none => false) && aU P fn.results.toList f.res && !(fn.name == "runtime.NumGoroutine")
section
variable {P:Program} {R:Type}
theorem C8I {N:Nat} {ops:Array Oper}:∀ (pre:List Oper) (os:List Oper) (aos:List AOper),ops.toList=pre++os->B8X P N ops os aos=true ->
  All2 (λi ao=>∃ o,ops[i]?=some o/\Z7 P N ops o ao=true/\ao.slot=none) (E4s pre.length os.length) aos
 | pre,[],[],_,_=>trivial
 | pre,o::os,ao::aos,he,hc=>by
  simp only [B8X,E3R,decide_eq_true_eq] at hc;rw [E3Z,List.range'_succ];refine ⟨⟨o,?_,hc.1.1,hc.1.2⟩,?_⟩
  ·rw [<-Array.getElem?_toList,he];simp
  ·have:=C8I (pre++[o]) os aos (by rw [he];simp) hc.2;simpa using this
 | _,[],_::_,_,h=>by simp [B8X] at h
 | _,_::_,[],_,h=>by simp [B8X] at h
theorem D26 {N L:Nat} {E:N1} (hE:eV P E) (n:Nat):∀ (ac:ACode) (c:Code) (k:AExit->Env->A6->Option R) (e:Env) (h:A6) (r:R),
  Y0 P N c ac=true->aex E n ac k e h=some r->L<=h.length->∃ x e' h',k x e' h'=some r/\L<=h'.length/\B0H P N L (c.wp P) e h x e' h':=by
 intro ac
 induction ac with
 | skip =>
  intro c k e h r hc C9 hL;unfold Y0 at hc;split at hc
  ·exact ⟨.normal,e,h,C9,hL,fun Γ μ a w hs hi hN hd Q hq=>wp_skip (hq μ a w (Mu.le_refl _) (λ_ _=>rfl) hs hi hN hd)⟩
  ·cases hc
 | ops l =>
  intro c k e h r hc C9 hL;unfold Y0 at hc;split at hc
  ·rename_i id ops;simp only [aex,D8t] at C9;obtain ⟨e',h',hk,hL',uP⟩:=C2o hE _ l e h _ r (C8I [] ops.toList l rfl hc) C9 hL;refine ⟨.normal,e',h',hk,hL',fun Γ μ a w hs hi hN hd Q hq=>wp_region ?_⟩;have:=uP Γ μ a w hs hi hN hd Q hq;simpa [List.range_eq_range'] using this
  ·cases hc
 | draw m l r' =>
  intro c k e h r hc C9 hL;unfold Y0 at hc;split at hc
  ·rename_i id ops;simp only [aex,D35] at C9;rw [E3R] at hc;obtain ⟨e',h',hk,hL',uP⟩:=D81 (id:=id) hE hc.1 hc.2 hL C9;exact ⟨.normal,e',h',hk,hL',uP⟩
  ·cases hc
 | drawS m l s chk r' =>
  intro c k e h r hc C9 hL;unfold Y0 at hc;split at hc
  ·rename_i id ops;simp only [aex,D0Y] at C9;obtain ⟨e',h',hk,hL',uP⟩:=D7f (id:=id) hE (by simpa only [E4K] using hc) hL C9;exact ⟨.normal,e',h',hk,hL',uP⟩
  ·cases hc
 | seq keep a b iha ihb =>
  intro c k e h r hc C9 hL;unfold Y0 at hc;split at hc
  ·rename_i x y;simp only [E3R] at hc;simp only [aex,D2U,D9c] at C9;obtain ⟨x1,e1,h1,hk1,hL1,A7v⟩:=iha x _ e h r hc.1 C9 hL;cases x1 with
   | normal =>
    change hold (aex E n b k (e1.keep keep) h1)=some r at hk1;simp only [hold] at hk1;obtain ⟨x2,e2,h2,hk2,hL2,E0U⟩:=ihb y k (e1.keep keep) h1 r hc.2 hk1 hL1;refine ⟨x2,e2,h2,hk2,hL2,fun Γ μ a w hs hi hN hd Q hq=>wp_seq (A7v Γ μ a w hs hi hN hd _ ?_)⟩;intro μ1 a1 w1 g1 g2 g3 g4 g5 g6;exact E0U Γ μ1 a1 w1 (g3.keep keep) g4 g5 g6 Q fun μ2 a2 w2 f1 f2 f3 f4 f5 f6=>hq μ2 a2 w2 (Mu.le_trans g1 f1) (λid hid=>(f2 id hid).trans (g2 id hid)) f3 f4 f5 f6
   | exit id=>exact ⟨.exit id,e1,h1,hk1,hL1,fun Γ μ a w hs hi hN hd Q hq=>wp_seq (A7v Γ μ a w hs hi hN hd _ hq)⟩
   | ret=>exact ⟨.ret,e1,h1,hk1,hL1,fun Γ μ a w hs hi hN hd Q hq=>wp_seq (A7v Γ μ a w hs hi hN hd _ hq)⟩
  ·cases hc
 | cond q a b iha ihb =>
  intro c k e h r hc C9 hL;unfold Y0 at hc;split at hc
  ·rename_i z x y;simp only [E3R] at hc;simp only [aex,C6s,cnd] at C9;split at C9
   ·rename_i t uO;have hz:∀ {μ:Mu} {a:Act},SEnv μ e a->a.eval z=.bool t:=by
     intro μ a hs;have:RV μ _ _:=C7 hc.1.1 hs;rw [uO] at this;exact this
    cases t with
    | true =>
     obtain ⟨x1,e1,h1,hk1,hL1,A7v⟩:=iha x k e h r hc.1.2 C9 hL;exact ⟨x1,e1,h1,hk1,hL1,fun Γ μ a w hs hi hN hd Q hq=>wp_cond_true (hz hs) (A7v Γ μ a w hs hi hN hd Q hq)⟩
    | false =>
     obtain ⟨x1,e1,h1,hk1,hL1,A7v⟩:=ihb y k e h r hc.2 C9 hL;exact ⟨x1,e1,h1,hk1,hL1,fun Γ μ a w hs hi hN hd Q hq=>wp_cond_false (hz hs) (A7v Γ μ a w hs hi hN hd Q hq)⟩
   ·cases C9
  ·cases hc
 | block id a iha =>
  intro c k e h r hc C9 hL;unfold Y0 at hc;split at hc
  ·rename_i fX x;simp only [E3R,decide_eq_true_eq] at hc;obtain ⟨rfl,hc⟩:=hc;simp only [aex,B67,D3x] at C9;obtain ⟨x1,e1,h1,hk1,hL1,A7v⟩:=iha x _ e h r hc C9 hL;cases x1 with
   | normal=>exact ⟨.normal,e1,h1,hk1,hL1,fun Γ μ a w hs hi hN hd Q hq=>wp_block (A7v Γ μ a w hs hi hN hd _ hq)⟩
   | exit i =>
    change (bif Nat.beq i fX then k .normal e1 h1 else k (.exit i) e1 h1)=some r at hk1;cases hb:Nat.beq i fX with
    | true =>
     rw [hb] at hk1;have hi':=Nat.eq_of_beq_eq_true hb;subst hi';exact ⟨.normal,e1,h1,hk1,hL1,fun Γ μ a w hs hi hN hd Q hq=>wp_block (A7v Γ μ a w hs hi hN hd _ fun μ1 a1 w1 g1 g2 g3 g4 g5 g6=>by
      show (if i=i then Q .normal a1 w1 else _);rw [if_pos rfl];exact hq μ1 a1 w1 g1 g2 g3 g4 g5 g6)⟩
    | false =>
     rw [hb] at hk1;have U1:i≠fX:=by intro e;subst e;simp at hb
     exact ⟨.exit i,e1,h1,hk1,hL1,fun Γ μ a w hs hi hN hd Q hq=>wp_block (A7v Γ μ a w hs hi hN hd _ fun μ1 a1 w1 g1 g2 g3 g4 g5 g6=>by
      show (if i=fX then _ else Q (.exit i) a1 w1);rw [if_neg U1];exact hq μ1 a1 w1 g1 g2 g3 g4 g5 g6)⟩
   | ret=>exact ⟨.ret,e1,h1,hk1,hL1,fun Γ μ a w hs hi hN hd Q hq=>wp_block (A7v Γ μ a w hs hi hN hd _ hq)⟩
  ·cases hc
 | loop keep a iha =>
  intro c k e h r hc C9 hL;unfold Y0 at hc;split at hc
  ·rename_i x;simp only [aex,C6t] at C9;have key:∀ (m:Nat) (e:Env) (h:A6),A5Q (aex E n a) keep k m e h=some r->L<=h.length ->
     ∃ x1 e' h',k x1 e' h'=some r/\L<=h'.length/\B0H P N L (λQ=>Code.rounds P x Q m) e h x1 e' h':=by
    intro m
    induction m with
    | zero=>intro e h C9;rw [C0o] at C9;cases C9
    | succ m ih =>
     intro e h C9 hL;rw [C0n] at C9;obtain ⟨x1,e1,h1,hk1,hL1,A7v⟩:=iha x _ e h r hc C9 hL;cases x1 with
     | normal =>
      simp only at hk1;obtain ⟨x2,e2,h2,hk2,hL2,E0U⟩:=ih (e1.keep keep) h1 hk1 hL1;refine ⟨x2,e2,h2,hk2,hL2,fun Γ μ a w hs hi hN hd Q hq=>?_⟩;show Code.rounds P x Q (m+1) a w;rw [rounds_succ];refine A7v Γ μ a w hs hi hN hd _ ?_;intro μ1 a1 w1 g1 g2 g3 g4 g5 g6;exact E0U Γ μ1 a1 w1 (g3.keep keep) g4 g5 g6 Q fun μ2 a2 w2 f1 f2 f3 f4 f5 f6=>hq μ2 a2 w2 (Mu.le_trans g1 f1) (λid hid=>(f2 id hid).trans (g2 id hid)) f3 f4 f5 f6
     | exit id=>exact ⟨.exit id,e1,h1,hk1,hL1,fun Γ μ a w hs hi hN hd Q hq=>by
       show Code.rounds P x Q (m+1) a w;rw [rounds_succ];exact A7v Γ μ a w hs hi hN hd _ hq⟩
     | ret=>exact ⟨.ret,e1,h1,hk1,hL1,fun Γ μ a w hs hi hN hd Q hq=>by
       show Code.rounds P x Q (m+1) a w;rw [rounds_succ];exact A7v Γ μ a w hs hi hN hd _ hq⟩
   obtain ⟨x1,e1,h1,hk1,hL1,A7v⟩:=key n (e.keep keep) h C9 hL;exact ⟨x1,e1,h1,hk1,hL1,fun Γ μ a w hs hi hN hd Q hq=>wp_loop_rounds n (A7v Γ μ a w (hs.keep keep) hi hN hd Q hq)⟩
  ·cases hc
 | exit id =>
  intro c k e h r hc C9 hL;unfold Y0 at hc;split at hc
  ·simp at hc;subst hc;exact ⟨.exit _,e,h,C9,hL,fun Γ μ a w hs hi hN hd Q hq=>wp_exit (hq μ a w (Mu.le_refl _) (λ_ _=>rfl) hs hi hN hd)⟩
  ·cases hc
 | ret =>
  intro c k e h r hc C9 hL;unfold Y0 at hc;split at hc
  ·exact ⟨.ret,e,h,C9,hL,fun Γ μ a w hs hi hN hd Q hq=>wp_ret (hq μ a w (Mu.le_refl _) (λ_ _=>rfl) hs hi hN hd)⟩
  ·cases hc
def B0d (tmps:Array Value):ResultVar->Sem Value
 | .tmp t=>pure (tmps.getD t undef)
 | .cell a t=>do loadVar t (<-asAddr (tmps.getD a undef))
theorem C9d {Γ:Ctx} {μ:Mu} {e:Env} {h:A6} {a:Act} {w:World} {q:ResultVar} {q':ARes} {v:Val} (hs:SEnv μ e a) (hi:Inv Γ μ h w) (hc:aU P [q] [q']=true) (hv:D5i e h q'=some v) :
  ∃ V,(B0d a.tmps q).run P w=.ok V w/\RV μ v V:=by
 cases q with
 | tmp t =>
  cases q' with
  | tmp t' =>
   simp [aU] at hc;subst hc;simp [D5i] at hv;subst hv;exact ⟨_,rfl,hs t⟩
  | cell1 t'=>simp [aU] at hc
  | cellN t' n=>simp [aU] at hc
 | cell t ty =>
  cases q' with
  | tmp t'=>simp [aU] at hc
  | cell1 t' =>
   simp [aU] at hc;obtain ⟨rfl,mT⟩:=hc;simp only [D5i] at hv;obtain ⟨V,h1,h2⟩:=C9q (P:=P) (w:=w) mT hi.rows (hs t) hv;refine ⟨V,?_,h2⟩;rw [<-h1];have:∃ b,a.tmps.getD t undef=.pointer (some b):=by
    unfold B4 at hv;split at hv
    ·rename_i uO;have:=hs t;rw [uO] at this;obtain ⟨b,n,_,h3⟩:=this;exact ⟨_,h3⟩
    ·cases hv
   obtain ⟨b,hb⟩:=this;simp only [B0d,hb,Instr.loadAt,asAddr,Instr.sureAddr,pure_bind]
  | cellN t' n =>
   simp [aU] at hc;obtain ⟨⟨rfl,mT⟩,hsz⟩:=hc;simp only [D5i] at hv;obtain ⟨V,h1,h2⟩:=C9r (P:=P) (w:=w) mT hsz hi.rows (hs t) hv;refine ⟨V,?_,h2⟩;rw [<-h1];have:∃ b,a.tmps.getD t undef=.pointer (some b):=by
    unfold C8 at hv;split at hv
    ·rename_i uO;have:=hs t;rw [uO] at this;obtain ⟨b,n,_,h3⟩:=this;exact ⟨_,h3⟩
    ·cases hv
   obtain ⟨b,hb⟩:=this;simp only [B0d,hb,Instr.loadAt,asAddr,Instr.sureAddr,pure_bind]
theorem C0s {q:ResultVar} {r:List ResultVar} {q':ARes} {l:List ARes} (h:aU P (q::r) (q'::l)=true):aU P [q] [q']=true/\aU P r l=true:=by
 cases q<;>cases q'<;>simp_all [aU]
theorem C8y {Γ:Ctx} {μ:Mu} {e:Env} {h:A6} {a:Act} {w:World} (hs:SEnv μ e a) (hi:Inv Γ μ h w):∀ {qs:List ResultVar} {ls:List ARes} {ps:List Part},aU P qs ls=true->C0m e h ls=some ps ->
  ∃ Vs:List Value,(qs.mapM (B0d a.tmps)).run P w=.ok Vs w/\All2 (RP μ) ps Vs
 | [],[],ps,_,hv=>by simp [C0m] at hv;subst hv;exact ⟨[],rfl,trivial⟩
 | q::qs,q'::ls,ps,hc,hv=>by
  simp only [C0m,E3O,E34] at hv;obtain ⟨v,hv1,p,hp,l,hl,rfl⟩:=hv;obtain ⟨h1,h2⟩:=C0s hc;obtain ⟨V,h3,h4⟩:=C9d hs hi h1 hv1;obtain ⟨Vs,h5,h6⟩:=C8y hs hi h2 hl;refine ⟨V::Vs,?_,RP.ofVal h4 hp,h6⟩;rw [List.mapM_cons];simp [h3,h5]
 | [],_::_,_,h,_=>by simp [aU] at h
 | _::_,[],_,h,_=>by simp [aU] at h
theorem D2D {fn:Func} {tmps:Array Value} {w:World}:(results fn tmps).run P w=((fn.results.toList.mapM (B0d tmps)).run P w).andThen λvs w=>.ok (if h:vs.toArray.size=1 then vs.toArray[0] else .tuple vs.toArray) w:=by
 unfold results;rw [Array.mapM_eq_mapM_toList];simp only [Sem.run_bind,Sem.run_map];have key:∀ g:ResultVar->Sem Value,(∀ q,g q=B0d tmps q)->((((List.mapM g fn.results.toList).run P w).andThen λa w'=>Result.ok a.toArray w').andThen λa w'=>(pure (if h:a.size=1 then a[0] else Value.tuple a):Sem Value).run P w') =
   ((fn.results.toList.mapM (B0d tmps)).run P w).andThen λvs w=>.ok (if h:vs.toArray.size=1 then vs.toArray[0] else .tuple vs.toArray) w:=by
  intro g hg;rw [funext hg];cases (fn.results.toList.mapM (B0d tmps)).run P w<;>rfl
 exact key _ λq=>by cases q<;>rfl
theorem B3X {Γ:Ctx} {μ:Mu} {e:Env} {h h':A6} {a:Act} {w:World} {fn:Func} {rs:List ARes} {v:Val} (hs:SEnv μ e a) (hi:Inv Γ μ h w) (hc:aU P fn.results.toList rs=true) (hv:lC rs e h=some (v,h')) :
  ∃ V,(results fn a.tmps).run P w=.ok V w/\RV μ v V/\h'=h:=by
 rw [D2D];unfold lC at hv;split at hv
 ·rename_i q';simp only [E34,Prod.mk.injEq] at hv;obtain ⟨_,h1,rfl,rfl⟩:=hv;cases hq:fn.results.toList with
  | nil=>rw [hq] at hc;simp [aU] at hc
  | cons q r =>
   cases r with
   | cons q2 r=>rw [hq] at hc;have:=(C0s hc).2;simp [aU] at this
   | nil =>
    rw [hq] at hc;obtain ⟨V,h3,h4⟩:=C9d hs hi hc h1;refine ⟨V,?_,h4,rfl⟩;rw [List.mapM_cons];simp [h3]
 ·rename_i U1;simp only [E34,Prod.mk.injEq] at hv;obtain ⟨l,h1,rfl,rfl⟩:=hv;obtain ⟨Vs,h3,h4⟩:=C8y hs hi hc h1;refine ⟨.tuple Vs.toArray,?_,⟨Vs,rfl,h4⟩,rfl⟩;rw [h3];have hl:Vs.length≠1:=by
   rw [<-h4.length];intro h0;have:∀ (ls:List ARes) (ps:List Part),C0m e h ls=some ps->ls.length=ps.length:=by
    intro ls
    induction ls with
    | nil=>intro ps h;simp [C0m] at h;subst h;rfl
    | cons x r ih =>
     intro ps h;simp only [C0m,E3O,E34] at h;obtain ⟨_,_,_,_,l',hl',rfl⟩:=h;simp [ih l' hl']
   have h5:=this _ _ h1;rw [h0] at h5;cases rs with
   | nil=>simp at h5
   | cons q r =>
    cases r with
    | nil=>exact U1 q rfl
    | cons _ _=>simp at h5
  simp [hl]
theorem C57:∀ (args:List Val) (i t:Nat),(params i args).get t=if i<=t then (args[t-i]?).getD .un else .un
 | [],i,t=>by simp [params,Env.get]
 | v::r,i,t=>by
  simp only [params,Env.get];by_cases h:i=t
  ·subst h;simp
  ·have hb:Nat.beq i t=false:=by cases hb:Nat.beq i t with
    | false=>rfl
    | true=>exact absurd (Nat.eq_of_beq_eq_true hb) h
   rw [hb,cond_false,C57 r (i+1) t];by_cases h2:i<=t
   ·have:t-i=(t-(i+1))+1:=by omega
    rw [if_pos h2,if_pos (by omega),this,E4C]
   ·rw [if_neg h2,if_neg (by omega)]
theorem Inv.ds {Γ:Ctx} {μ:Mu} {h:A6} {w:World} (ds:List Deferred) (hi:Inv Γ μ h w):Inv { Γ with ds:=ds } μ h w :=
 ⟨hi.rows,hi.sep,hi.own,hi.dom,⟨hi.ctx.os,hi.ctx.tape,hi.ctx.output,hi.ctx.block⟩⟩
theorem D1t {μ:Mu} {args:List Val} {V:List Value} (hargs:All2 (RV μ) args V) (n:Nat):SEnv μ (params 0 args) { tmps:=V.toArray++Array.replicate n undef,defers:=[] }:=by
 intro t;rw [C57];simp only [Nat.zero_le,if_true,Nat.sub_zero];cases ha:args[t]? with
 | none=>trivial
 | some x =>
  obtain ⟨X,h2,h3⟩:=hargs.get t x ha;have V7:=(List.getElem?_eq_some_iff.1 h2).1;have:(V.toArray++Array.replicate n undef).getD t undef=X:=by
   rw [Array.getD_eq_getD_getElem?,Array.getElem?_append_left (by simpa using V7)];simp [h2]
  rw [this];exact h3
theorem D91 {E:N1} (hE:eV P E) {f:FuncId} {fn:Func} {af:AFn} (hf:P.funcs[f]?=some fn) (hc:C4V P fn af=true) {n:Nat} {args:List Val} {h h':A6} {v:Val} (C9:af.run E n args h=some (v,h')) :
  jA P f/\h.length<=h'.length/\∃ c,fn.body=some c/\∀ (Γ:Ctx) (μ:Mu) (w:World) (V:List Value),Inv Γ μ h w->All2 (RV μ) args V ->
   c.wp P (bodyPost P fn λe w'=>∃ V' μ',e=.returned V' /\ μ.le μ'/\RV μ' v V'/\Inv Γ μ' h' w'/\∀ id,id<h.length -> μ' id = μ id) { tmps:=V.toArray++Array.replicate (fn.ntmps-V.toArray.size) undef,defers:=[] } w:=by
 simp only [C4V,E3R,E4D] at hc;obtain ⟨⟨hb,hr⟩,D16⟩:=hc;cases C0Q:fn.body with
 | none=>rw [C0Q] at hb;cases hb
 | some c =>
  rw [C0Q] at hb;unfold AFn.run at C9;obtain ⟨x,e',h1,hk,hL,uP⟩:=D26 (L:=h.length) hE n af.code c af.fin (params 0 args) h (v,h') hb C9 (E3T _);have hlen:h.length<=h'.length:=by
   cases x with
   | normal=>simp only [AFn.fin] at hk;unfold lC at hk;split at hk<;>simp at hk<;>obtain ⟨_,_,_,rfl⟩:=hk<;>exact hL
   | ret=>simp only [AFn.fin] at hk;unfold lC at hk;split at hk<;>simp at hk<;>obtain ⟨_,_,_,rfl⟩:=hk<;>exact hL
   | exit=>simp [AFn.fin] at hk
  refine ⟨⟨fn,hf,D16,by simp [C0Q]⟩,hlen,c,rfl,?_⟩;intro Γ μ w V hi hargs;refine uP { Γ with ds:=[] } μ _ w (D1t hargs _) (hi.ds []) ?_ rfl _ ?_
  ·simp;omega
  ·intro μ' a' w' g1 g2 g3 g4 g5 g6;have fin:∀ hk:lC af.res e' h1=some (v,h'),a'.defers=[]/\∃ v_1,(results fn a'.tmps).run P w'=.ok v_1 w'/\∃ V' μ',Ending.returned v_1=.returned V' /\ μ.le μ'/\RV μ' v V'/\Inv Γ μ' h' w'/\∀ id,id<h.length -> μ' id = μ id:=by
    intro hk;obtain ⟨V',h2,h3,h4⟩:=B3X g3 g4 hr hk;subst h4;exact ⟨g6,V',h2,V',μ',rfl,g1,h3,g4.ds Γ.ds,g2⟩
   cases x with
   | normal=>exact fin hk
   | ret=>exact fin hk
   | exit=>simp [AFn.fin] at hk
theorem E1H {E:N1} (hE:eV P E) {f:FuncId} {fn:Func} {af:AFn} (hf:P.funcs[f]?=some fn) (hc:C4V P fn af=true) {n:Nat} {args:List Val} {h h':A6} {v:Val} (C9:af.run E n args h=some (v,h')) :
  jA P f/\CallOk P f args h v h'/\h.length<=h'.length:=by
 obtain ⟨h1,h2,c,hb,hw⟩:=D91 hE hf hc C9;exact ⟨h1,fun Γ μ w V hi hargs=>calls_of_wp hf hb (hw Γ μ w V hi hargs),h2⟩
end
end
end Go.Esc
namespace Go.Esc
open Go Go.ChangeShapes Go.WideShapes Go.ChangeAt Go.RowKit
section
def C45 (W:World):Ctx:=⟨λb=>W.heap[b]?,W.os,W.tape,W.output,[]⟩
theorem C98 {W w:World} (h:(C45 W).ok w):Below W.heap.size W w:=by
 have hb:∀ k,k<W.heap.size->w.heap[k]?=W.heap[k]? := by
  intro k hk;have e:W.heap[k]?=some W.heap[k]:=by simp [hk]
  rw [e];exact h.block k _ e
 refine ⟨h.os,h.tape,h.output,?_,hb⟩;rcases Nat.eq_zero_or_pos W.heap.size with h0 | h0
 ·omega
 ·have:=hb (W.heap.size-1) (by omega);have e:W.heap[W.heap.size-1]?=some (W.heap[W.heap.size-1]'(by omega)):=by simp
  rw [e] at this;have:=(Array.getElem?_eq_some_iff.1 this).1;omega
theorem C7M {W w:World} {may:MemPlace->Prop} (h:Below W.heap.size W w):W.keptBut w may:=by
 refine ⟨h.os,h.output,λi hi=>?_⟩;rw [h.block i hi];cases W.heap[i]? with
 | none=>rfl
 | some o=>cases o<;>simp
section
variable {H:Type} {enc:TypeId × Value->H} {P:Program}
theorem C8C (hl:laidOutB P=true) {W W':World} (hb:Below W.heap.size W W'):∀ {ts:List TypeId} {vs:List Value} {ds:List (DataW H)} {ps:List MemPlace},
  (∀ t∈ts,P.readableRec t=true/\t<P.types.size)->(∀ x∈ps,x.block<W.heap.size)->DataW.TrodAll enc P W 0 (λ_=>true) true ts vs ds ps->DataW.TrodAll enc P W' 0 (λb=>decide (b<W.heap.size)) true ts vs ds ps
 | [],[],[],_,_,_,h=>h
 | t::ts,v::vs,d::ds,_,hts,V7,⟨p,q,h1,h2,e⟩=>by
  subst e;exact ⟨p,q,Below.trod hl (hts t (by simp)).1 (hts t (by simp)).2 h1 hb (λx hx=>V7 x (List.mem_append_left _ hx)),C8C hl hb (λt ht=>hts t (by simp [ht])) (λx hx=>V7 x (List.mem_append_right _ hx)) h2,rfl⟩
 | [],_::_,_,_,_,_,h=>by cases h
 | [],[],_::_,_,_,_,h=>by cases h
 | _::_,[],_,_,_,_,h=>by cases h
 | _::_,_::_,[],_,_,_,h=>by cases h
theorem D55 {f:Func} {s:ChangeSpec} {apart:Bool} {tb:TypeId} {W W':World} {args:Array Value} {ds gs:List (DataW H)} {before:List MemPlace}
  (hl:laidOutB P=true) (hts:∀ t∈f.params.toList,P.readableRec t=true/\t<P.types.size) (hr:f.resultTypes = #[tb]) (hb:P.underlying tb=some .bool) (hv:s.vars=[])
  (hs:∀ ds:List (DataW H),ds.length=f.params.toList.length->s.fn H ds={ results:=[.lit (.bool true)],args:=ds })
  (hW:DataW.Whole enc P f.params.toList s.vars apart W args.toList ds gs before) (hB:Below W.heap.size W W') :
  s.post enc P f apart true false false W args (.bool true) W':=by
 have V7:=hW.lt;obtain ⟨p,q,h1,h2,h3,h4,h5⟩:=id hW;rw [hv] at h2;obtain ⟨rfl,rfl⟩:=trodVars_none h2;rw [E4f] at h3;subst h3;have hd:ds.length=f.params.toList.length:=(trodAll_length h1).2;have hfn:s.fn H (ds++[])={ results:=[.lit (.bool true)],args:=ds }:=by rw [E4f];exact hs ds hd
 refine ⟨ds,[],before,[],before,[],hW,?_,?_,?_,World.keptBut_mono (λ_ h=>h) (C7M hB),λh=>by cases h⟩
 ·rw [hfn,hr];exact trodAll_mk1 (shut_bool hb true)
 ·rw [hfn];exact C8C hl hB hts V7 h1
 ·rw [hfn,hv];exact rfl
end
theorem D8b {C:Checked} {os:Os} {H:Type} {enc:TypeId × Value->H} {f:FuncId} {fn:Func} {s:ChangeSpec} {conds:List PathCond} {tb:TypeId}
  (own:ownKnob C.prog.godebug=none) (started:os.Started) (E1b:C.prog.inits.idxOf? f=none) (hfn:C.prog.funcs[f]?=some fn)
  (witness:∃ (w:World) (tape:Tape) (i:Input),w.os=os/\(w.forCall tape i).Shaped C.prog/\i.vars=[]/\Input.okWide C.prog (w.forCall tape i) .any w.heap.size f i /\
   s.pre6 enc C.prog fn conds false (w.forCall tape i).memory i.args/\Assume.holds {} C.prog (lone (Frame.enter C.prog f i.args .normal) [] (w.forCall tape i)))
  (hl:laidOutB C.prog=true) (hts:∀ t∈fn.params.toList,C.prog.readableRec t=true/\t<C.prog.types.size) (hr:fn.resultTypes = #[tb]) (hb:C.prog.underlying tb=some .bool) (hv:s.vars=[])
  (hs:∀ ds:List (DataW H),ds.length=fn.params.toList.length->s.fn H ds={ results:=[.lit (.bool true)],args:=ds })
  (walk:∀ (W:World) (base:Nat) (args:Array Value) (ds:List (DataW H)) (ps:List MemPlace),
   (∀ (j:Nat) t v,fn.params[j]?=some t->args[j]?=some v->Value.okWide C.prog W .any base t v) ->
   DataW.TrodAll enc C.prog W 0 (λ_=>true) true fn.params.toList args.toList ds ps ->
   ∃ vals h μ h',Inv (C45 W) μ h W/\All2 (RV μ) vals args.toList/\CallOk C.prog f vals h (.c (.b true)) h') :
  ReturnsInHanded {} C os f .any (s.pre6 enc C.prog fn conds false) (s.post enc C.prog fn false true false false):=by
 refine returnsInHanded_of_change own started E1b hfn witness ?_;intro W base args ds gs before C5v hW _ _;obtain ⟨p,q,hA,_⟩:=id hW;obtain ⟨vals,h,μ,h',hi,hv2,hc⟩:=walk W base args ds p (λj t v h1 h2=>C5v j t v h1 h2) hA;refine (hc (C45 W) μ W args.toList hi hv2).mono λe W' ⟨V',μ',he,_,hV,hi',_⟩=>?_
 have:V'=.bool true:=hV;subst this;exact ⟨_,he,D55 hl hts hr hb hv hs hW (C98 hi'.ctx)⟩
theorem Inv.nought (W:World):Inv (C45 W) (λ_=>Option.none) [] W where
 rows:=λid r h=>by simp [rd] at h
 sep:=λid fX r r' x x' h=>by simp [rd] at h
 own:=λid r x h=>by simp [rd] at h
 dom:=λ_ _=>rfl
 ctx:=⟨rfl,rfl,rfl,λ_ _ h=>h⟩
end
end Go.Esc
namespace Go.Esc
open Go
section
variable {R:Type} {E:N1}
theorem D6K {q:Bool} {hr:A6} {n0:Nat} {slot:Option Nat} {o:AOp} {e:Env} {h:A6} {k k':Val->A6->Option R} (hk:∀ v h p,k v h=some p->k' v h=some p) {p:R}
  (hp:aop E q hr n0 slot o e h k=some p):aop E q hr n0 slot o e h k'=some p:=by
 cases o<;>simp only [aop,E3O] at hp ⊢ <;> first | exact hk _ _ _ hp | (obtain ⟨x,hx,hp⟩:=hp;exact ⟨x,hx,hk _ _ _ hp⟩)
theorem B3W {q:Bool} {hr:A6} {n0:Nat} {o:AOper} {e:Env} {h:A6} {k k':Val->A6->Option R} (hk:∀ v h p,k v h=some p->k' v h=some p) {p:R}
  (hp:W3 E q hr n0 o e h k=some p):W3 E q hr n0 o e h k'=some p:=by
 unfold W3 at hp ⊢;cases hg:o.guard with
 | none=>rw [hg] at hp;exact D6K hk hp
 | some g =>
  rw [hg] at hp;simp only [E3O] at hp ⊢;obtain ⟨x,hx,hp⟩:=hp;exact ⟨x,hx,hk _ _ _ hp⟩
theorem B0J {k k':Env->A6->Option R} (hk:∀ e h p,k e h=some p->k' e h=some p):∀ {l:List AOper} {e:Env} {h:A6} {p:R},A9f E l e h k=some p->A9f E l e h k'=some p
 | [],_,_,_,hp=>hk _ _ _ hp
 | o::l,e,h,p,hp=>by
  rw [C8B] at hp ⊢;exact B3W (λv h p=>B0J hk) hp
theorem B3S {hr:A6} {n0:Nat} {k k':Env->A6->Option R} (hk:∀ e h p,k e h=some p->k' e h=some p):∀ {l:List AOper} {e:Env} {h:A6} {p:R},B1Y E hr n0 l e h k=some p->B1Y E hr n0 l e h k'=some p
 | [],_,_,_,hp=>hk _ _ _ hp
 | o::l,e,h,p,hp=>by
  rw [C4x] at hp ⊢;exact B3W (λv h p=>B3S hk) hp
def KLe (k k':B04 R):Prop:=∀ x e h p,k x e h=some p->k' x e h=some p
def E1E (s s':Sm R):Prop:=∀ k k':B04 R,KLe k k'->∀ e h p,s k e h=some p->s' k' e h=some p
theorem C8D {c c':Sm R} (hc:E1E c c') {keep:List Nat} {k k':B04 R} (hk:KLe k k'):∀ {n n':Nat},n<=n'->∀ e h p,A5Q c keep k n e h=some p->A5Q c' keep k' n' e h=some p
 | 0,_,_,e,h,p,hp=>by rw [C0o] at hp;cases hp
 | n+1,0,hn,e,h,p,hp=>by omega
 | n+1,n'+1,hn,e,h,p,hp=>by
  rw [C0n] at hp ⊢;refine hc _ _ (λx e h p hp=>?_) e h p hp;cases x with
  | normal=>exact C8D hc hk (by omega) _ _ _ hp
  | exit id=>exact hk _ _ _ _ hp
  | ret=>exact hk _ _ _ _ hp
theorem C4z {e:Env} {h:A6} {k k':Option R} {p:R} (hk:k=some p->k'=some p):∀ {l:List (Nat × AOp)},again l e h k=some p->again l e h k'=some p
 | [],hp=>hk hp
 | c::l,hp=>by
  rw [C4y] at hp ⊢;unfold agn at hp ⊢;split at hp
  ·rename_i hc;rw [if_pos hc];exact C4z hk hp
  ·cases hp
theorem B3T {n n':Nat} (hn:n<=n'):∀ c:ACode,E1E (R:=R) (aex E n c) (aex E n' c)
 | .skip=>λk k' hk e h p hp=>hk _ _ _ _ hp
 | .ops l=>λk k' hk e h p hp=>B0J (λe h p hp=>hk _ _ _ _ hp) hp
 | .draw m l r=>λk k' hk e h p hp=>B3S (λe h p hp=>B0J (λe h p hp=>hk _ _ _ _ hp) hp) hp
 | .drawS m l s chk r=>λk k' hk e h p hp=>B3S (λe h p hp=>B3W (λv h p hp=>C4z (λhp=>B0J (λe h p hp=>hk _ _ _ _ hp) hp) hp) hp) hp
 | .seq keep a b=>λk k' hk e h p hp=>by
  refine B3T hn a _ _ (λx e h p hp=>?_) e h p hp;cases x with
  | normal=>exact B3T hn b k k' hk _ _ _ hp
  | exit id=>exact hk _ _ _ _ hp
  | ret=>exact hk _ _ _ _ hp
 | .cond c a b=>λk k' hk e h p hp=>by
  change cnd (e.ev c) (aex E n a k e h) (aex E n b k e h)=some p at hp;change cnd (e.ev c) (aex E n' a k' e h) (aex E n' b k' e h)=some p;unfold cnd at hp ⊢;split at hp
  ·rename_i x _;cases x
   ·exact B3T hn b k k' hk _ _ _ hp
   ·exact B3T hn a k k' hk _ _ _ hp
  ·cases hp
 | .block id a=>λk k' hk e h p hp=>by
  refine B3T hn a _ _ (λx e h p hp=>?_) e h p hp;cases x with
  | normal=>exact hk _ _ _ _ hp
  | ret=>exact hk _ _ _ _ hp
  | exit i =>
   change (bif Nat.beq i id then k .normal e h else k (.exit i) e h)=some p at hp;change (bif Nat.beq i id then k' .normal e h else k' (.exit i) e h)=some p;cases hb:Nat.beq i id with
   | true=>simp only [hb,cond_true] at hp ⊢;exact hk _ _ _ _ hp
   | false=>simp only [hb,cond_false] at hp ⊢;exact hk _ _ _ _ hp
 | .loop keep a=>λk k' hk e h p hp=>C8D (B3T hn a) hk hn _ _ _ hp
 | .exit id=>λk k' hk e h p hp=>hk _ _ _ _ hp
 | .ret=>λk k' hk e h p hp=>hk _ _ _ _ hp
theorem D8j {f:AFn} {n n':Nat} (hn:n<=n') {args:List Val} {h:A6} {p:Val × A6} (hp:f.run E n args h=some p):f.run E n' args h=some p :=
 B3T hn f.code _ _ (λ_ _ _ _ h=>h) _ _ _ hp
open Classical in
noncomputable def Lim (f:AFn) (E:N1) (args:List Val) (h:A6):Option (Val × A6) :=
 if H:∃ p n,f.run E n args h=some p then some H.choose else none
theorem E0h {f:AFn} {n:Nat} {args:List Val} {h:A6} {p:Val × A6} (hp:f.run E n args h=some p):Lim f E args h=some p:=by
 have H:∃ p n,f.run E n args h=some p:=⟨p,n,hp⟩;unfold Lim;rw [dif_pos H];obtain ⟨m,hm⟩:=H.choose_spec;have h1:=D8j (Nat.le_max_left n m) hp;have h2:=D8j (Nat.le_max_right n m) hm;rw [h1] at h2;exact h2.symm
theorem D4g {f:AFn} {args:List Val} {h:A6} {p:Val × A6} (hp:Lim f E args h=some p):∃ n,f.run E n args h=some p:=by
 unfold Lim at hp;split at hp
 ·rename_i H;cases hp;exact H.choose_spec
 ·cases hp
end
section
def bnd {α β:Type} (x:Option α) (f:α -> Option β):Option β:=x.bind f
def mp {α β:Type} (x:Option α) (f:α -> β):Option β:=x.map f
@[congr] theorem E2C {α β:Type} {x x':Option α} {f:α -> Option β} (h:x=x'):bnd x f=bnd x' f:=by rw [h]
@[congr] theorem E3D {α β:Type} {x x':Option α} {f:α -> β} (h:x=x'):mp x f=mp x' f:=by rw [h]
@[congr] theorem E2G {R:Type} {v v':Val} {a b:Option R} (h:v=v'):cnd v a b=cnd v' a b:=by rw [h]
@[congr] theorem E3s {v v':Val} {w:Bool} {a b:Option (Val × A6)} (h:v=v'):gd v w a b=gd v' w a b:=by rw [h]
@[congr] theorem E2B {R:Type} {x x':Option Val} {v v':Val} {k:Option R} (h:x=x') (h2:v=v'):agn x v k=agn x' v' k:=by rw [h,h2]
theorem D6G {R:Type} {v:Val} {k:Option R}:agn (some v) v k=k:=Eq.trans (if_pos rfl) rfl
@[simp] theorem Q4 {α β:Type} {a:α} {f:α -> Option β}:bnd (some a) f=f a:=Eq.trans rfl rfl
@[simp] theorem D9j {α β:Type} {a:α} {f:α -> β}:mp (some a) f=some (f a):=Eq.trans rfl rfl
section
variable {R:Type} {k:IntKind} {a b:Int} {s t:List UInt8} {h:A6}
@[simp] theorem D8H:D1j (.c (.s s))=some (.c (.i .i64 s.length)):=rfl
@[simp] theorem C96 {id off len sz:Nat}:C95 (.c (.sl id off len sz))=some (.c (.i .i64 len)):=rfl
@[simp] theorem D4l:C95 (.c .ns)=some (.c (.i .i64 0)):=rfl
@[simp] theorem A0A:N9 .add (.c (.i k a)) (.c (.i k b))=some (.c (.i k (k.wrap (a+b)))):=by simp [N9,A9Y]
@[simp] theorem D6D:N9 .sub (.c (.i k a)) (.c (.i k b))=some (.c (.i k (k.wrap (a-b)))):=by simp [N9,A9Y]
@[simp] theorem D6B:N9 .mul (.c (.i k a)) (.c (.i k b))=some (.c (.i k (k.wrap (a*b)))):=by simp [N9,A9Y]
@[simp] theorem D1d (hb:b≠0):N9 .quo (.c (.i k a)) (.c (.i k b))=some (.c (.i k (k.wrap (a.tdiv b)))):=by simp [N9,A9Y,hb]
@[simp] theorem D1e (hb:b≠0):N9 .rem (.c (.i k a)) (.c (.i k b))=some (.c (.i k (a.tmod b))):=by simp [N9,A9Y,hb]
theorem D6y:N9 .and (.c (.i k a)) (.c (.i k b))=some (.c (.i k (k.wrap (BitVec.ofInt k.bits a &&& BitVec.ofInt k.bits b).toNat))):=by simp [N9,A9Y]
theorem C91:N9 .or (.c (.i k a)) (.c (.i k b))=some (.c (.i k (k.wrap (BitVec.ofInt k.bits a ||| BitVec.ofInt k.bits b).toNat))):=by simp [N9,A9Y]
theorem D1f:N9 .xor (.c (.i k a)) (.c (.i k b))=some (.c (.i k (k.wrap (BitVec.ofInt k.bits a ^^^ BitVec.ofInt k.bits b).toNat))):=by simp [N9,A9Y]
@[simp] theorem vE:N9 .eql (.c (.i k a)) (.c (.i k b))=some (.c (.b (decide (a=b)))):=by simp [N9,A9Y];rfl
@[simp] theorem D6C:N9 .neq (.c (.i k a)) (.c (.i k b))=some (.c (.b (decide (a≠b)))):=by simp [N9,A9Y];by_cases h:a=b<;>simp [h]
@[simp] theorem A0B:N9 .lss (.c (.i k a)) (.c (.i k b))=some (.c (.b (decide (a<b)))):=by simp [N9,A9Y]
@[simp] theorem D6A:N9 .leq (.c (.i k a)) (.c (.i k b))=some (.c (.b (decide (a<=b)))):=by simp [N9,A9Y]
@[simp] theorem D6z:N9 .gtr (.c (.i k a)) (.c (.i k b))=some (.c (.b (decide (b<a)))):=by simp [N9,A9Y]
@[simp] theorem C4u:N9 .geq (.c (.i k a)) (.c (.i k b))=some (.c (.b (decide (b<=a)))):=by simp [N9,A9Y]
@[simp] theorem B8M:N9 .eql (.c (.s s)) (.c (.s t))=some (.c (.b (decide (s=t)))):=by simp [N9,D8p];by_cases h:s=t<;>simp [h]
@[simp] theorem D5g:N9 .neq (.c (.s s)) (.c (.s t))=some (.c (.b (decide (s≠t)))):=by simp [N9,D8p];by_cases h:s=t<;>simp [h]
@[simp] theorem D5f:N9 .lss (.c (.s s)) (.c (.s t))=some (.c (.b (J8 s t))):=by simp [N9,D8p]
@[simp] theorem D8R {x:Bool}:aun .not (.c (.b x))=some (.c (.b (!x))):=rfl
@[simp] theorem D8E {n:Bool}:C93 true n (.c .nf)=some (.c (.b (!n))):=Eq.trans rfl rfl
@[simp] theorem E0m {n:Bool} {f:Nat} {cs:List (Nat × Nat)}:C93 true n (.c (.f f cs))=some (.c (.b n)):=Eq.trans rfl rfl
@[simp] theorem D8F {n:Bool}:C93 false n (.c .np)=some (.c (.b (!n))):=Eq.trans rfl rfl
@[simp] theorem E0n {n:Bool} {id off:Nat}:C93 false n (.c (.p id off))=some (.c (.b n)):=Eq.trans rfl rfl
@[simp] theorem D8J {id off:Nat}:A3Z (.c (.p id off))=some (.c (.p id off)):=Eq.trans rfl rfl
@[simp] theorem D8Q:aun .neg (.c (.i k a))=some (.c (.i k (k.wrap (0-a)))):=rfl
@[simp] theorem E0k {x y:Bool}:D25 false (.c (.b x)) (.c (.b y))=some (.c (.b (x==y))):=rfl
@[simp] theorem E0j {x y:Bool}:D25 true (.c (.b x)) (.c (.b y))=some (.c (.b (!(x==y)))):=rfl
@[simp] theorem D8D {k':IntKind}:D1g k (.c (.i k' a))=some (.c (.i k (k.wrap a))):=rfl
@[simp] theorem D4q {x:Bool} {u v:Val}:D1r (.c (.b x)) u v=some (bif x then u else v):=rfl
@[simp] theorem E1K {w:Bool} {u v:Option (Val × A6)}:gd .no w u v=v:=Eq.trans rfl rfl
@[simp] theorem E1M {u v:Option (Val × A6)}:gd (.c (.b true)) true u v=u:=Eq.trans rfl rfl
@[simp] theorem E1L {u v:Option (Val × A6)}:gd (.c (.b true)) false u v=v:=Eq.trans rfl rfl
@[simp] theorem E1J {u v:Option (Val × A6)}:gd (.c (.b false)) true u v=v:=Eq.trans rfl rfl
@[simp] theorem D92 {u v:Option (Val × A6)}:gd (.c (.b false)) false u v=u:=Eq.trans rfl rfl
@[simp] theorem D4w {u v:Option R}:cnd (.c (.b true)) u v=u:=Eq.trans rfl rfl
@[simp] theorem C0z {u v:Option R}:cnd (.c (.b false)) u v=v:=Eq.trans rfl rfl
@[simp] theorem D8G {i:Nat}:C4A (.c (.s s)) (.c (.i k i))=(s[i]?).map λb=>.c (.i .u8 b.toNat):=by simp [C4A]
@[simp] theorem E0o {l:List Part} {i:Nat}:D27 (.t l) i=(l[i]?).map ofPart:=rfl
@[simp] theorem D7R {x:Cell}:ofPart (.c x)=.c x:=rfl
@[simp] theorem D7Q {l:List Cell}:ofPart (.a l)=.a l:=rfl
@[simp] theorem D9n {x:Cell}:oP (.c x)=some (.c x):=rfl
@[simp] theorem D4S {l:List Cell}:oP (.a l)=some (.a l):=rfl
@[simp] theorem D6X {x:Cell}:cells? (.c x)=some [x]:=rfl
@[simp] theorem C4O {l:List Cell}:cells? (.a l)=some l:=rfl
@[simp] theorem E1x {u v:Option Val}:C6D [u,v] h=bnd u λu=>bnd (oP u) λp=>bnd v λv=>bnd (oP v) λq=>some (.t [p,q],h):=by
 cases u with
 | none=>rfl
 | some u=>cases v with
  | none=>cases hu:oP u<;>simp [C6D,C6E,hu]<;>rfl
  | some v=>cases hu:oP u<;>cases hv:oP v<;>simp [C6D,C6E,hu,hv]<;>rfl
@[simp] theorem E1y {u v w:Option Val}:C6D [u,v,w] h=bnd u λu=>bnd (oP u) λp=>bnd v λv=>bnd (oP v) λq=>bnd w λw=>bnd (oP w) λr=>some (.t [p,q,r],h):=by
 cases u with
 | none=>rfl
 | some u=>cases v with
  | none=>cases hu:oP u<;>simp [C6D,C6E,hu]<;>rfl
  | some v=>cases w with
   | none=>cases hu:oP u<;>cases hv:oP v<;>simp [C6D,C6E,hu,hv]<;>rfl
   | some w=>cases hu:oP u<;>cases hv:oP v<;>cases hw:oP w<;>simp [C6D,C6E,hu,hv,hw]<;>rfl
theorem wrap_i64 (h1:-9223372036854775808<=a) (h2:a<9223372036854775808):IntKind.wrap .i64 a=a:=by
 change (if (true&&decide (a%18446744073709551616>=9223372036854775808))=true then a%18446744073709551616-18446744073709551616 else a%18446744073709551616)=a;by_cases h:a%18446744073709551616>=9223372036854775808
 ·simp only [h,decide_true,E31,if_true];omega
 ·simp only [h,decide_false,E4O,E4M,if_false];omega
theorem wrap_u64 (h1:0<=a) (h2:a<18446744073709551616):IntKind.wrap .u64 a=a:=by
 simp only [IntKind.wrap,IntKind.bits,IntKind.signed,E3W];have e1:(2:Int) ^ 64=18446744073709551616:=rfl;rw [e1];simp only [E4M,if_false];omega
theorem wrap_u32 (h1:0<=a) (h2:a<4294967296):IntKind.wrap .u32 a=a:=by
 simp only [IntKind.wrap,IntKind.bits,IntKind.signed,E3W];have e1:(2:Int) ^ 32=4294967296:=rfl;rw [e1];simp only [E4M,if_false];omega
theorem wrap_u8 (h1:0<=a) (h2:a<256):IntKind.wrap .u8 a=a:=by
 simp only [IntKind.wrap,IntKind.bits,IntKind.signed,E3W];have e1:(2:Int) ^ 8=256:=rfl;rw [e1];simp only [E4M,if_false];omega
end
theorem Grows.rfl' {h:A6}:Grows h h:=⟨List.prefix_refl _,λid x hid hx=>by have:=C4 hx;omega⟩
theorem Grows.trans' {a b c:A6} (h1:Grows a b) (h2:Grows b c):Grows a c:=by
 refine ⟨h1.1.trans h2.1,λid x hid hx=>?_⟩;by_cases hb:b.length<=id
 ·exact h2.2 id x hb hx
 ·refine h1.2 id x hid ?_;obtain ⟨t,rfl⟩:=h2.1;rw [<-hx];unfold rd;rw [E4r (by omega)]
theorem Grows.rd {a b:A6} (h1:Grows a b) {id:Nat} {r:Row} (hr:rd a id=some r):rd b id=some r:=by
 obtain ⟨t,rfl⟩:=h1.1;rw [D1 (C4 hr)];exact hr
theorem Grows.len {a b:A6} (h1:Grows a b):a.length<=b.length:=h1.1.length_le
theorem Grows.new {a b:A6} (h1:Grows a b) (cs:List Cell):Grows a (b++[some ⟨cs,true⟩]):=by
 refine h1.trans' ⟨List.prefix_append _ _,λid x hid hx=>?_⟩;unfold Go.Esc.rd at hx;rw [E35 hid] at hx;cases hj:id-b.length with
 | zero=>rw [hj] at hx;simp at hx;subst hx;rfl
 | succ j=>rw [hj] at hx;simp at hx
theorem Grows.set {a b:A6} (h1:Grows a b) {id:Nat} (hid:a.length<=id) (cs:List Cell):Grows a (b.set id (some ⟨cs,true⟩)):=by
 obtain ⟨⟨t,rfl⟩,h2⟩:=h1;refine ⟨⟨t.set (id-a.length) (some ⟨cs,true⟩),by rw [E4p _ _ hid]⟩,λi x hi hx=>?_⟩;by_cases e:id=i
 ·subst e;have hl:=C4 hx;simp at hl;rw [B6 (by simpa using hl)] at hx;cases hx;rfl
 ·rw [A7 e] at hx;exact h2 i x hi hx
theorem U6 {h h':A6} {v:Val} (hg:Grows h h'):quiet h (some (v,h'))=some (v,h'):=by
 unfold quiet;simp only [E3X];rw [if_pos];exact hg
theorem S9 {h:A6} {r:Row}:rd (h++[some r]) h.length=some r:=by
 unfold rd;simp
section
variable {h:A6} {id off n sz:Nat} {cs xs:List Cell} {x:Cell} {k:IntKind} {rw:Bool}
theorem B5 (hr:rd h id=some ⟨cs,rw⟩) {c:Cell} (hc:cs[off]?=some c) (hd:(rw || !c.isX)=true):B4 h (.c (.p id off))=some (.c c):=by
 simp [B4,hr,hc,hd]
theorem cF (hr:rd h id=some ⟨cs,rw⟩) (hl:off+n<=cs.length) (hd:(rw||noX ((cs.drop off).take n))=true):C8 h n (.c (.p id off))=some (.a ((cs.drop off).take n)):=by
 simp only [C8,hr,E3X];rw [if_pos ⟨hl,hd⟩]
theorem B8 (hr:rd h id=some ⟨cs,true⟩) (hl:cs.length=n):C8 h n (.c (.p id 0))=some (.a cs):=by
 rw [cF hr (by omega) rfl,E39,E3Y (by omega)]
theorem E9 (hr:rd h id=some ⟨cs,true⟩) (hl:off<cs.length):F9 h (.c (.p id off)) (.c x)=some (h.set id (some ⟨cs.set off x,true⟩)):=by
 simp [F9,hr,hl]
theorem B01 (hr:rd h id=some ⟨cs,true⟩) (hx:xs.length=n) (hl:off+n<=cs.length):E1 h n (.c (.p id off)) (.a xs)=some (h.set id (some ⟨lay cs off xs,true⟩)):=by
 simp [E1,hr,hl,hx]
theorem lay_all (hx:xs.length=cs.length):lay cs 0 xs=xs:=by simp [lay,hx]
theorem storeAll (hr:rd h id=some ⟨cs,true⟩) (hl:cs.length=n) (hx:xs.length=n):E1 h n (.c (.p id 0)) (.a xs)=some (h.set id (some ⟨xs,true⟩)):=by
 rw [B01 hr hx (by omega),lay_all (by omega)]
theorem J3 {j:Nat} (hj:j<n):J2 n sz (.c (.p id off)) (.c (.i k j))=some (.c (.p id (off+j*sz))):=by
 simp only [J2];rw [if_pos ⟨by omega,by omega⟩];simp
theorem C5 {len j:Nat} (hj:j<len):D6 sz (.c (.sl id off len sz)) (.c (.i k j))=some (.c (.p id (off+j*sz))):=by
 simp only [D6];rw [if_pos ⟨by omega,by omega,trivial⟩];simp
theorem B6r {l:List Cell} {j:Nat} (hj:j<n):A3f n (.a l) (.c (.i k j))=(l[j]?).map .c:=by
 simp only [A3f];rw [if_pos ⟨by omega,by omega⟩];simp
end
theorem jV (l:List UInt8) (i:Nat) (x:UInt8):(A5 l).set i (.i .u8 x.toNat)=A5 (l.set i x):=by simp [A5,List.map_set]
theorem cC (l:List UInt8) (i:Nat):(A5 l)[i]?=(l[i]?).map λx=>.i .u8 x.toNat:=by simp [A5]
theorem J7 (l m:List UInt8):A5 (l++m)=A5 l++A5 m:=by simp [A5]
theorem C8O (l:List UInt8) (n:Nat):(A5 l).drop n=A5 (l.drop n):=by simp [A5]
theorem C8P (l:List UInt8) (n:Nat):(A5 l).take n=A5 (l.take n):=by simp [A5]
def zeros (n:Nat):List UInt8:=E3Q n 0
@[simp] theorem zeros_length {n:Nat}:(zeros n).length=n:=by simp [zeros]
theorem I3 (n:Nat):E3Q n (Cell.i .u8 0)=A5 (zeros n):=by simp [A5,zeros]
theorem F6 (l:List UInt8):noX (A5 l)=true:=by simp [noX,A5,Cell.isX]
theorem D1U {l m:List UInt8}:A5 l=A5 m↔l=m:=by
 constructor
 ·intro h;refine List.map_inj_right (λx y e=>?_) |>.1 h
  simp at e;exact UInt8.toNat_inj.1 (by omega)
 ·rintro rfl;rfl
end
section
def Cell.flat:Cell->Bool
 | .b _=>true
 | .i _ _=>true
 | .s _=>true
 | .np=>true
 | .ns=>true
 | .nf=>true
 | .nm=>true
 | _=>false
def N3 (l:List Cell):Bool:=l.all Cell.flat
def Row.dim (r:Row):List Cell:=bif r.head then r.cells.map λ_=>.dark else r.cells
def ro (h:A6):A6:=h.map λr=>r.map λr=>⟨r.dim,false⟩
theorem Row.dim_own (r:Row):(Row.mk r.dim false).own=false:=by
 obtain ⟨cs,w⟩:=r;unfold Row.dim;cases hh:Row.head ⟨cs,w⟩ with
 | false=>simpa [Row.own,Row.head] using hh
 | true =>
  cases cs with
  | nil=>rfl
  | cons c cs=>rfl
theorem E7 {h:A6}:(ro h).length=h.length:=by simp [ro]
theorem C9j {h:A6} {id:Nat}:rd (ro h) id=(rd h id).map λr=>⟨r.dim,false⟩:=by
 unfold rd ro;rw [List.getElem?_map];cases h[id]? with
 | none=>rfl
 | some x=>cases x<;>rfl
theorem B60 {h:A6} {id:Nat} {r:Row} (hr:rd h id=some r) (hh:r.head=false):rd (ro h) id=some ⟨r.cells,false⟩:=by
 rw [C9j,hr];show some (Row.mk r.dim false)=_;unfold Row.dim;rw [hh];rfl
theorem D7q {cs:List Cell} {w:Bool} (h:noX cs=true):(Row.mk cs w).head=false:=by
 cases cs with
 | nil=>rfl
 | cons c cs=>cases c<;>first | rfl | (simp [noX,Cell.isX] at h)
theorem B61 {h:A6} {id:Nat} {cs:List Cell} {w:Bool} (hr:rd h id=some ⟨cs,w⟩) (hx:noX cs=true):rd (ro h) id=some ⟨cs,false⟩:=B60 hr (D7q hx)
def newRow (h:A6) (id:Nat):Bool :=
 match rd h id with
 | some r=>r.rw&&N3 r.cells
 | none=>false
def Cell.low (b:Nat):Cell->Bool
 | .p id _=>decide (id<b)
 | .sl id _ _ _=>decide (id<b)
 | .f _ caps=>caps.all λq=>decide (q.1<b)
 | .m id=>decide (id<b)
 | c=>c.flat
def Q5 (h:A6) (b:Nat):List Nat->List Cell->Option (List Cell × List Nat)
 | seen,[]=>some ([],seen)
 | seen,c::r=>if c.low b=true then (Q5 h b seen r).map λp=>(c::p.1,p.2) else
  match c with
  | .sl id off len sz=>if b<=id/\id ∉ seen/\newRow h id=true then (Q5 h b (seen++[id]) r).map λp=>(.sl (b+seen.length) off len sz::p.1,p.2) else none
  | _=>none
def fH (h:A6) (b:Nat):List Nat->List Part->Option (List Part × List Nat)
 | seen,[]=>some ([],seen)
 | seen,.c x::r=>(Q5 h b seen [x]).bind λp=>match p.1 with
  | [y]=>(fH h b p.2 r).map λq=>(.c y::q.1,q.2)
  | _=>none
 | seen,.a l::r=>(Q5 h b seen l).bind λp=>(fH h b p.2 r).map λq=>(.a p.1::q.1,q.2)
def W4 (h:A6) (b:Nat):Val->Option (Val × List Nat)
 | .c x=>(Q5 h b [] [x]).bind λp=>match p.1 with
  | [y]=>some (.c y,p.2)
  | _=>none
 | .a l=>(Q5 h b [] l).map λp=>(.a p.1,p.2)
 | .t l=>(fH h b [] l).map λp=>(.t p.1,p.2)
 | _=>none
def C6B (F:List Val->A6->Option (Val × A6)) (args:List Val) (h:A6):Option (Val × A6) :=
 (F args (ro h)).bind λp=>(W4 p.2 h.length p.1).map λq=>(q.1,h++q.2.map (rd p.2))
def tidy (F:List Val->A6->Option (Val × A6)) (args:List Val) (h:A6):Option (Val × A6) :=
 match C6B F args h with
 | some r=>some r
 | none=>F args h
theorem RC.flat {μ μ':Mu} {c:Cell} {V:Value} (hf:c.flat=true) (h:RC μ c V):RC μ' c V:=by
 cases c<;>first | exact h | cases hf
theorem RC.low {μ μ':Mu} {b:Nat} (hb:∀ id,id<b -> μ' id = μ id) {c:Cell} {V:Value} (hf:c.low b=true) (h:RC μ c V):RC μ' c V:=by
 cases c with
 | p id off =>
  obtain ⟨x,n,h1,h2⟩:=h;exact ⟨x,n,by rw [hb id (of_decide_eq_true hf)];exact h1,h2⟩
 | sl id off len sz =>
  rcases h with ⟨x,n,cap,h1,h2⟩ | h
  ·exact .inl ⟨x,n,cap,by rw [hb id (of_decide_eq_true hf)];exact h1,h2⟩
  ·exact .inr h
 | f fn caps =>
  obtain ⟨cs,h1,h2⟩:=h;refine ⟨cs,h1,?_⟩;have hf':(caps.all λq=>decide (q.1<b))=true:=hf
  clear h1 hf
  induction caps generalizing cs with
  | nil=>cases cs with
   | nil=>trivial
   | cons=>exact h2.elim
  | cons q r ih=>cases cs with
   | nil=>exact h2.elim
   | cons V vs =>
    rw [E4x,E3R] at hf';obtain ⟨x,n,g1,g2⟩:=h2.1;exact ⟨⟨x,n,by rw [hb q.1 (of_decide_eq_true hf'.1)];exact g1,g2⟩,ih vs h2.2 hf'.2⟩
 | m id =>
  obtain ⟨x,n,h1,h2⟩:=h;exact ⟨x,n,by rw [hb id (of_decide_eq_true hf)];exact h1,h2⟩
 | _=>exact RC.flat hf h
theorem Cell.low_of_flat {b:Nat} {c:Cell} (h:c.flat=true):c.low b=true:=by
 cases c<;>first | exact h | cases h
theorem C5i {c:Cell} {l:List Cell}:N3 (c::l)=(c.flat&&N3 l):=rfl
theorem All2.flat {μ μ':Mu}:∀ {l:List Cell} {vs:List Value},N3 l=true->All2 (RC μ) l vs->All2 (RC μ') l vs
 | [],[],_,_=>trivial
 | c::l,V::vs,hf,⟨h1,h2⟩=>by
  rw [C5i,E3R] at hf;exact ⟨h1.flat hf.1,All2.flat hf.2 h2⟩
 | [],_::_,_,h=>h.elim
 | _::_,[],_,h=>h.elim
structure Good (h:A6) (b:Nat) (ids:List Nat):Prop where
 nd:ids.Nodup
 ok:∀ id∈ids,b<=id/\∃ r,rd h id=some r/\r.rw=true/\N3 r.cells=true
theorem Good.nil {h:A6} {b:Nat}:Good h b []:=⟨List.nodup_nil,λ_ h=>by cases h⟩
theorem Good.snoc {h:A6} {b:Nat} {ids:List Nat} (hg:Good h b ids) {id:Nat} (h1:b<=id) (h2:id ∉ ids) (h3:newRow h id=true):Good h b (ids++[id]):=by
 refine ⟨?_,λi hi=>?_⟩
 ·rw [List.nodup_append];exact ⟨hg.nd,by simp,λa ha c hc e=>by simp at hc;subst hc;subst e;exact h2 ha⟩
 ·rw [List.mem_append] at hi;rcases hi with hi | hi
  ·exact hg.ok i hi
  ·simp at hi;subst hi;refine ⟨h1,?_⟩;unfold newRow at h3;cases hr:rd h i with
   | none=>rw [hr] at h3;cases h3
   | some r=>rw [hr] at h3;rw [E3R] at h3;exact ⟨r,rfl,h3.1,h3.2⟩
def nu (μ μ':Mu) (b:Nat) (ids:List Nat):Mu:=λid=>if id<b then μ id else (ids[id-b]?).bind μ'
theorem A33 {h:A6} {b:Nat} {μ μ':Mu} (hlow:∀ id,id<b -> μ' id = μ id):∀ (l:List Cell) (seen:List Nat) (l2:List Cell) (fin:List Nat),Q5 h b seen l=some (l2,fin)->Good h b seen ->
  Good h b fin/\seen <+: fin/\∀ ids,fin <+: ids->∀ vs:List Value,All2 (RC μ') l vs->All2 (RC (nu μ μ' b ids)) l2 vs:=by
 intro l
 induction l with
 | nil =>
  intro seen l2 fin hc hg;simp only [Q5,Option.some.injEq,Prod.mk.injEq] at hc;obtain ⟨rfl,rfl⟩:=hc;exact ⟨hg,List.prefix_refl _,λids _ vs hv=>by cases vs with
   | nil=>trivial
   | cons=>exact hv.elim⟩
 | cons c r ih =>
  intro seen l2 fin hc hg;unfold Q5 at hc;split at hc
  ·rename_i hf;simp only [E34,Prod.mk.injEq] at hc;obtain ⟨p,hp,rfl,rfl⟩:=hc;obtain ⟨h1,h2,h3⟩:=ih seen p.1 p.2 hp hg;refine ⟨h1,h2,λids hi vs hv=>?_⟩;cases vs with
   | nil=>exact hv.elim
   | cons V vs=>exact ⟨RC.low (b:=b) (λid hid=>by unfold nu;rw [if_pos hid];exact (hlow id hid).symm) hf hv.1,h3 ids hi vs hv.2⟩
  ·split at hc
   ·rename_i id off len sz _;split at hc
    ·rename_i A0Q;simp only [E34,Prod.mk.injEq] at hc;obtain ⟨p,hp,rfl,rfl⟩:=hc;obtain ⟨h1,h2,h3⟩:=ih _ p.1 p.2 hp (hg.snoc A0Q.1 A0Q.2.1 A0Q.2.2);refine ⟨h1,(List.prefix_append _ _).trans h2,λids hi vs hv=>?_⟩;cases vs with
     | nil=>exact hv.elim
     | cons V vs =>
      refine ⟨?_,h3 ids hi vs hv.2⟩;have hn:nu μ μ' b ids (b+seen.length) = μ' id:=by
       unfold nu;rw [if_neg (by omega),Nat.add_sub_cancel_left];obtain ⟨t,ht⟩:=h2.trans hi;rw [<-ht,E3U,E35 (E3T _)];simp
      rcases hv.1 with ⟨x,n,cap,g1,g2⟩ | g
      ·exact .inl ⟨x,n,cap,by rw [hn];exact g1,g2⟩
      ·exact .inr g
    ·cases hc
   ·cases hc
theorem D5n {h:A6} {b:Nat} {μ μ':Mu} (hlow:∀ id,id<b -> μ' id = μ id):∀ (l:List Part) (seen:List Nat) (l2:List Part) (fin:List Nat),fH h b seen l=some (l2,fin)->Good h b seen ->
  Good h b fin/\seen <+: fin/\∀ ids,fin <+: ids->∀ vs:List Value,All2 (RP μ') l vs->All2 (RP (nu μ μ' b ids)) l2 vs:=by
 intro l
 induction l with
 | nil =>
  intro seen l2 fin hc hg;simp only [fH,Option.some.injEq,Prod.mk.injEq] at hc;obtain ⟨rfl,rfl⟩:=hc;exact ⟨hg,List.prefix_refl _,λids _ vs hv=>by cases vs with
   | nil=>trivial
   | cons=>exact hv.elim⟩
 | cons c r ih =>
  intro seen l2 fin hc hg;cases c with
  | c x =>
   simp only [fH,E3O] at hc;obtain ⟨⟨l3,f3⟩,hp,hc⟩:=hc;obtain ⟨h1,h2,h3⟩:=A33 (μ:=μ) (μ':=μ') hlow [x] seen l3 f3 hp hg;split at hc
   ·rename_i y uO;simp only at uO;subst uO;simp only [E34,Prod.mk.injEq] at hc;obtain ⟨q,hq,rfl,rfl⟩:=hc;obtain ⟨g1,g2,g3⟩:=ih f3 q.1 q.2 hq h1;refine ⟨g1,h2.trans g2,λids hi vs hv=>?_⟩;cases vs with
    | nil=>exact hv.elim
    | cons V vs=>exact ⟨(h3 ids (g2.trans hi) [V] ⟨hv.1,trivial⟩).1,g3 ids hi vs hv.2⟩
   ·cases hc
  | a x =>
   simp only [fH,E3O] at hc;obtain ⟨⟨l3,f3⟩,hp,hc⟩:=hc;obtain ⟨h1,h2,h3⟩:=A33 (μ:=μ) (μ':=μ') hlow x seen l3 f3 hp hg;simp only [E34,Prod.mk.injEq] at hc;obtain ⟨q,hq,rfl,rfl⟩:=hc;obtain ⟨g1,g2,g3⟩:=ih f3 q.1 q.2 hq h1;refine ⟨g1,h2.trans g2,λids hi vs hv=>?_⟩;cases vs with
   | nil=>exact hv.elim
   | cons V vs =>
    obtain ⟨Vs,hV,h4⟩:=hv.1;exact ⟨⟨Vs,hV,h3 ids (g2.trans hi) Vs h4⟩,g3 ids hi vs hv.2⟩
theorem D5o {h:A6} {b:Nat} {μ μ':Mu} (hlow:∀ id,id<b -> μ' id = μ id) {v v2:Val} {fin:List Nat} (hc:W4 h b v=some (v2,fin)):Good h b fin/\∀ V,RV μ' v V->RV (nu μ μ' b fin) v2 V:=by
 cases v with
 | c x =>
  simp only [W4,E3O] at hc;obtain ⟨⟨l3,f3⟩,hp,hc⟩:=hc;obtain ⟨h1,h2,h3⟩:=A33 (μ:=μ) (μ':=μ') hlow [x] [] l3 f3 hp Good.nil;split at hc
  ·rename_i y uO;simp only at uO;subst uO;simp only [Option.some.injEq,Prod.mk.injEq] at hc;obtain ⟨rfl,rfl⟩:=hc;exact ⟨h1,λV hV=>(h3 _ (List.prefix_refl _) [V] ⟨hV,trivial⟩).1⟩
  ·cases hc
 | a l =>
  simp only [W4,E34,Prod.mk.injEq] at hc;obtain ⟨p,hp,rfl,rfl⟩:=hc;obtain ⟨h1,h2,h3⟩:=A33 (μ:=μ) (μ':=μ') hlow l [] p.1 p.2 hp Good.nil;refine ⟨h1,λV hV=>?_⟩;obtain ⟨vs,e,h4⟩:=hV;exact ⟨vs,e,h3 _ (List.prefix_refl _) vs h4⟩
 | t l =>
  simp only [W4,E34,Prod.mk.injEq] at hc;obtain ⟨p,hp,rfl,rfl⟩:=hc;obtain ⟨h1,h2,h3⟩:=D5n (μ:=μ) (μ':=μ') hlow l [] p.1 p.2 hp Good.nil;refine ⟨h1,λV hV=>?_⟩;obtain ⟨vs,e,h4⟩:=hV;exact ⟨vs,e,h3 _ (List.prefix_refl _) vs h4⟩
 | un=>simp [W4] at hc
 | no=>simp [W4] at hc
def D0F (μ:Mu) (h:A6) (b:Nat):Prop:=∃ id r n,rd h id=some r /\ μ id=some (b,n)
open Classical in
noncomputable def Ctx.hold (Γ:Ctx) (μ:Mu) (h:A6) (w:World):Ctx:={ Γ with F:=λb=>if D0F μ h b then w.heap[b]? else Γ.F b }
theorem Inv.hold {Γ:Ctx} {μ:Mu} {h:A6} {w:World} (hi:Inv Γ μ h w):Inv (Γ.hold μ h w) μ (ro h) w where
 rows id r hr:=by
  rw [C9j,E34] at hr;obtain ⟨r0,h0,rfl⟩:=hr;have hth:=hi.rows id r0 h0;have this:=hth;unfold RowOk at this ⊢;cases hm:μ id with
  | none =>
   rw [hm] at this;show r0.dim=[];unfold Row.dim;rw [this];cases r0.head<;>rfl
  | some x =>
   rw [hm] at this;obtain ⟨o,ho⟩:=hth.there hm;have V7:=(Array.getElem?_eq_some_iff.1 ho).1;cases hh:r0.head with
   | true =>
    refine .inr (.inr ⟨rfl,V7,?_⟩);show r0.dim.all Cell.isD=true;unfold Row.dim;rw [hh];simp [Cell.isD]
   | false =>
    have hd:r0.dim=r0.cells:=by unfold Row.dim;rw [hh];rfl
    rw [hd];rcases this with ⟨C,elem,fz,h1,h2,h3,h4⟩ | ⟨es,E,h1,_⟩ | ⟨h1,h2,h3⟩
    ·refine .inl ⟨C,elem,fz,h1,h2,h3.mono λc V hc=>?_,λhf=>by cases hf⟩;rcases hc with hc | ⟨_,hc⟩
     ·exact .inl hc
     ·exact .inr ⟨rfl,hc⟩
    ·rw [h1,Row.head_mrow] at hh;cases hh
    ·exact .inr (.inr ⟨rfl,h2,h3⟩)
 sep id fX r r' x x' hr hr' hw:=by
  rw [C9j,E34] at hr;obtain ⟨r0,h0,rfl⟩:=hr;rw [Row.dim_own] at hw;cases hw
 own id r x hr hw:=by
  rw [C9j,E34] at hr;obtain ⟨r0,h0,rfl⟩:=hr;rw [Row.dim_own] at hw;cases hw
 dom id hl:=hi.dom id (by simpa [E7] using hl)
 ctx:=⟨hi.ctx.os,hi.ctx.tape,hi.ctx.output,λb o ho=>by
  unfold Ctx.hold at ho;simp only at ho;split at ho
  ·exact ho
  ·exact hi.ctx.block b o ho⟩
theorem Inv.held {Γ:Ctx} {μ μ':Mu} {h h':A6} {w w':World} (hi:Inv Γ μ h w) (hj:Inv (Γ.hold μ h w) μ' h' w') {ids:List Nat} (hg:Good h' h.length ids) :
  Inv Γ (nu μ μ' h.length ids) (h++ids.map (rd h')) w':=by
 have same:∀ b,D0F μ h b->w'.heap[b]?=w.heap[b]? := by
  intro b hb;have hb':=hb;obtain ⟨id,r,n,hr,hm⟩:=hb;obtain ⟨o,h1⟩:=(hi.rows id r hr).there hm;have h2:(Γ.hold μ h w).F b=some o:=by
   unfold Ctx.hold;simp only;rw [if_pos hb'];exact h1
  rw [hj.ctx.block b _ h2,h1]
 have lo:∀ id,id<h.length->nu μ μ' h.length ids id = μ id:=λid hl=>by unfold nu;rw [if_pos hl]
 have bJ:μ.le (nu μ μ' h.length ids):=λid x hx=>by
  by_cases hl:id<h.length
  ·rw [lo id hl];exact hx
  ·rw [hi.dom id (by omega)] at hx;cases hx
 have get:∀ id r,rd (h++ids.map (rd h')) id=some r->(id<h.length/\rd h id=some r)\/(∃ j,ids[id-h.length]?=some j/\h.length<=id/\rd h' j=some r/\nu μ μ' h.length ids id = μ' j/\j∈ids/\r.rw=true/\N3 r.cells=true):=by
  intro id r hr;by_cases hl:id<h.length
  ·rw [D1 hl] at hr;exact .inl ⟨hl,hr⟩
  ·right
   unfold rd at hr;rw [E35 (by omega),List.getElem?_map] at hr;cases hj':ids[id-h.length]? with
   | none=>rw [hj'] at hr;cases hr
   | some j =>
    rw [hj'] at hr;change rd h' j=some r at hr;have vS:j∈ids:=E4e hj';obtain ⟨_,r2,yV,h1,h2⟩:=hg.ok j vS;rw [hr] at yV;cases yV;refine ⟨j,rfl,by omega,hr,?_,vS,h1,h2⟩;unfold nu;rw [if_neg hl,hj'];rfl
 have fnew:∀ j r x,rd h' j=some r->r.rw=true -> μ' j=some x->¬ D0F μ h x.1 /\ Γ.F x.1=none:=by
  intro j r x hr hw hx;have h1:=hj.own j r x hr (Row.own_rw hw) hx;unfold Ctx.hold at h1;simp only at h1;split at h1
  ·rename_i hb;obtain ⟨id,r0,n,hr0,hm⟩:=hb;obtain ⟨o,h2⟩:=(hi.rows id r0 hr0).there hm;rw [h2] at h1;cases h1
  ·exact ⟨‹_›,h1⟩
 refine ⟨?_,?_,?_,?_,?_⟩
 ·intro id r hr;rcases get id r hr with ⟨hl,hr⟩ | ⟨j,hj1,hl,hr,hn,vS,hw,hf⟩
  ·exact (hi.rows id r hr).mono bJ (lo id hl) λx hx=>same _ ⟨id,r,x.2,hr,hx⟩
  ·have:=hj.rows j r hr;unfold RowOk at this ⊢;rw [hn];cases hm:μ' j with
   | none=>rw [hm] at this;exact this
   | some x =>
    obtain ⟨C,elem,fz,h1,h2,h3,h4⟩:=(hj.rows j r hr).mem hm hw;refine .inl ⟨C,elem,fz,h1,h2,?_,h4⟩;rw [hw] at h3 ⊢;have h5:=RL.all h3 (by simp);exact (All2.flat (μ':=nu μ μ' h.length ids) hf h5).mono λ_ _=>.inl
 ·intro id fX r r' x x' hr hr' hw U1 hx hx';rcases get id r hr with ⟨hl,hr⟩ | ⟨j,hj1,hl,hr,hn,vS,hw2,hf⟩
  ·rw [lo id hl] at hx;rcases get fX r' hr' with ⟨hl',hr'⟩ | ⟨j',E1X,hl',hr',hn',E13,E18,hf'⟩
   ·rw [lo fX hl'] at hx';exact hi.sep id fX r r' x x' hr hr' hw U1 hx hx'
   ·rw [hn'] at hx';intro e;exact (fnew j' r' x' hr' E18 hx').1 (e ▸ ⟨id,r,x.2,hr,hx⟩)
  ·rw [hn] at hx;rcases get fX r' hr' with ⟨hl',hr'⟩ | ⟨j',E1X,hl',hr',hn',E13,E18,hf'⟩
   ·rw [lo fX hl'] at hx';intro e;exact (fnew j r x hr hw2 hx).1 (e ▸ ⟨fX,r',x'.2,hr',hx'⟩)
   ·rw [hn'] at hx';refine hj.sep j j' r r' x x' hr hr' hw (λe=>?_) hx hx';subst e;have h1:=List.getElem?_eq_some_iff.1 hj1;have h2:=List.getElem?_eq_some_iff.1 E1X;have:=(List.getElem_inj hg.nd).1 (h1.2.trans h2.2.symm);omega
 ·intro id r x hr hw hx;rcases get id r hr with ⟨hl,hr⟩ | ⟨j,hj1,hl,hr,hn,vS,hw2,hf⟩
  ·rw [lo id hl] at hx;exact hi.own id r x hr hw hx
  ·rw [hn] at hx;exact (fnew j r x hr hw2 hx).2
 ·intro id hl;simp only [E3S,List.length_map] at hl;unfold nu;rw [if_neg (by omega),E4q (by omega)];rfl
 ·refine ⟨hj.ctx.os,hj.ctx.tape,hj.ctx.output,λb o ho=>?_⟩;by_cases hb:D0F μ h b
  ·rw [same b hb];exact hi.ctx.block b o ho
  ·refine hj.ctx.block b o ?_;unfold Ctx.hold;simp only;rw [if_neg hb];exact ho
theorem D6p {P:Program} {f:FuncId} {F:List Val->A6->Option (Val × A6)} (hF:∀ args h v h2,F args h=some (v,h2)->jA P f/\CallOk P f args h v h2/\h.length<=h2.length)
  {args:List Val} {h:A6} {v:Val} {h2:A6} (he:C6B F args h=some (v,h2)):jA P f/\CallOk P f args h v h2/\h.length<=h2.length:=by
 simp only [C6B,E3O,E34,Prod.mk.injEq] at he;obtain ⟨p,hp,q,hq,rfl,rfl⟩:=he;obtain ⟨h1,h2,h3⟩:=hF args (ro h) p.1 p.2 hp;refine ⟨h1,fun Γ μ w V hi hv=>?_,by simp⟩;refine (h2 (Γ.hold μ h w) μ w V hi.hold hv).mono λe w' ⟨V',μ',he,_,hV,hi',hl⟩=>?_
 obtain ⟨hg,hR⟩:=D5o (μ:=μ) (μ':=μ') (λid hid=>hl id (by simpa [E7] using hid)) (v2:=q.1) (fin:=q.2) hq;refine ⟨V',nu μ μ' h.length q.2,he,λid x hx=>?_,hR V' hV,hi.held hi' hg,λid hl=>by unfold nu;rw [if_pos hl]⟩;by_cases hl:id<h.length
 ·unfold nu;rw [if_pos hl];exact hx
 ·rw [hi.dom id (by omega)] at hx;cases hx
theorem D9N {P:Program} {f:FuncId} {F:List Val->A6->Option (Val × A6)} (hF:∀ args h v h2,F args h=some (v,h2)->jA P f/\CallOk P f args h v h2/\h.length<=h2.length)
  (args:List Val) (h:A6) (v:Val) (h2:A6) (he:tidy F args h=some (v,h2)):jA P f/\CallOk P f args h v h2/\h.length<=h2.length:=by
 unfold tidy at he;split at he
 ·rename_i r hr;cases he;exact D6p hF hr
 ·exact hF args h v h2 he
theorem B7a {F:List Val->A6->Option (Val × A6)} {args:List Val} {h h':A6} {v v2:Val} {ids:List Nat} (he:F args (ro h)=some (v,h')) (hc:W4 h' h.length v=some (v2,ids)) :
  tidy F args h=some (v2,h++ids.map (rd h')):=by
 have:C6B F args h=some (v2,h++ids.map (rd h')):=by
  unfold C6B;rw [he];simp [hc]
 unfold tidy;rw [this]
def Val.flat:Val->Bool
 | .c x=>x.flat
 | .a l=>N3 l
 | .t l=>l.all λp=>match p with
  | .c x=>x.flat
  | .a l=>N3 l
 | _=>false
theorem bZ {h:A6} {b:Nat} {seen:List Nat}:∀ {l:List Cell},N3 l=true->Q5 h b seen l=some (l,seen)
 | [],_=>rfl
 | c::l,hf=>by
  rw [C5i,E3R] at hf;have ih:=bZ (h:=h) (b:=b) (seen:=seen) hf.2;unfold Q5;rw [if_pos (Cell.low_of_flat hf.1),ih];rfl
theorem A9m {h:A6} {b:Nat} {seen:List Nat}:∀ {l:List Part},(l.all λp=>match p with | .c x=>x.flat | .a l=>N3 l)=true->fH h b seen l=some (l,seen)
 | [],_=>rfl
 | .c x::l,hf=>by
  simp only [E4x,E3R] at hf;have ih:=A9m (h:=h) (b:=b) (seen:=seen) hf.2;have h1:Q5 h b seen [x]=some ([x],seen):=bZ (by simpa [N3] using hf.1);simp [fH,h1,ih]
 | .a x::l,hf=>by
  simp only [E4x,E3R] at hf;have ih:=A9m (h:=h) (b:=b) (seen:=seen) hf.2;have h1:Q5 h b seen x=some (x,seen):=bZ hf.1;simp [fH,h1,ih]
theorem D1D {h:A6} {b:Nat} {v:Val} (hf:v.flat=true):W4 h b v=some (v,[]):=by
 cases v with
 | c x =>
  have h1:Q5 h b [] [x]=some ([x],[]):=bZ (by simp only [N3,E4x,List.all_nil,Bool.and_true];exact hf);simp [W4,h1]
 | a l =>
  have h1:Q5 h b [] l=some (l,[]):=bZ hf;simp [W4,h1]
 | t l =>
  have h1:fH h b [] l=some (l,[]):=A9m hf;simp [W4,h1]
 | un=>cases hf
 | no=>cases hf
theorem D6q {F:List Val->A6->Option (Val × A6)} {args:List Val} {h h':A6} {v:Val} (he:F args (ro h)=some (v,h')) (hf:v.flat=true):tidy F args h=some (v,h):=by
 have:=B7a he (D1D (h:=h') (b:=h.length) hf);simpa using this
def C2h (b:Nat) (l:List Cell):Bool:=l.all (Cell.low b)
def Val.low (b:Nat):Val->Bool
 | .c x=>x.low b
 | .a l=>C2h b l
 | .t l=>l.all λp=>match p with
  | .c x=>x.low b
  | .a l=>C2h b l
 | _=>false
theorem A0E {h:A6} {b:Nat} {seen:List Nat}:∀ {l:List Cell},C2h b l=true->Q5 h b seen l=some (l,seen)
 | [],_=>rfl
 | c::l,hf=>by
  have hf:(c.low b&&C2h b l)=true:=hf;rw [E3R] at hf;have ih:=A0E (h:=h) (b:=b) (seen:=seen) hf.2;unfold Q5;rw [if_pos hf.1,ih];rfl
theorem B30 {h:A6} {b:Nat} {seen:List Nat}:∀ {l:List Part},(l.all λp=>match p with | .c x=>x.low b | .a l=>C2h b l)=true->fH h b seen l=some (l,seen)
 | [],_=>rfl
 | .c x::l,hf=>by
  simp only [E4x,E3R] at hf;have ih:=B30 (h:=h) (b:=b) (seen:=seen) hf.2;have h1:Q5 h b seen [x]=some ([x],seen):=A0E (by simpa [C2h] using hf.1);simp [fH,h1,ih]
 | .a x::l,hf=>by
  simp only [E4x,E3R] at hf;have ih:=B30 (h:=h) (b:=b) (seen:=seen) hf.2;have h1:Q5 h b seen x=some (x,seen):=A0E hf.1;simp [fH,h1,ih]
theorem D8x {F:List Val->A6->Option (Val × A6)} {args:List Val} {h h':A6} {v:Val} (he:F args (ro h)=some (v,h')) (hf:v.low h.length=true):tidy F args h=some (v,h):=by
 have hc:W4 h' h.length v=some (v,[]):=by
  cases v with
  | c x =>
   have h1:Q5 h' h.length [] [x]=some ([x],[]):=A0E (by simp only [C2h,E4x,List.all_nil,Bool.and_true];exact hf);simp [W4,h1]
  | a l =>
   have h1:Q5 h' h.length [] l=some (l,[]):=A0E hf;simp [W4,h1]
  | t l =>
   have h1:fH h' h.length [] l=some (l,[]):=B30 hf;simp [W4,h1]
  | un=>cases hf
  | no=>cases hf
 have:=B7a he hc;simpa using this
@[simp] theorem E2b {b:Nat}:C2h b []=true:=rfl
@[simp] theorem E1B {b:Nat} {c:Cell} {l:List Cell}:C2h b (c::l)=(c.low b&&C2h b l):=rfl
@[simp] theorem E3q {b:Nat} {x:Cell}:(Val.c x).low b=x.low b:=rfl
@[simp] theorem E3p {b:Nat} {l:List Cell}:(Val.a l).low b=C2h b l:=rfl
@[simp] theorem E3r {b:Nat} {l:List Part}:(Val.t l).low b=l.all λp=>match p with | .c x=>x.low b | .a l=>C2h b l:=rfl
@[simp] theorem E3j {b id off len sz:Nat}:(Cell.sl id off len sz).low b=decide (id<b):=rfl
@[simp] theorem E3B {b:Nat} {k:IntKind} {n:Int}:(Cell.i k n).low b=true:=rfl
@[simp] theorem E3A {b:Nat} {x:Bool}:(Cell.b x).low b=true:=rfl
@[simp] theorem E3C {b:Nat} {x:List UInt8}:(Cell.s x).low b=true:=rfl
@[simp] theorem E3i {b:Nat}:Cell.ns.low b=true:=rfl
@[simp] theorem E1A:N3 []=true:=rfl
@[simp] theorem D90 {c:Cell} {l:List Cell}:N3 (c::l)=(c.flat&&N3 l):=rfl
@[simp] theorem yR {l m:List Cell}:N3 (l++m)=(N3 l&&N3 m):=by simp [N3]
@[simp] theorem D3q {l:List UInt8}:N3 (A5 l)=true:=by simp [N3,A5,Cell.flat]
@[simp] theorem E2H {x:Bool}:(Cell.b x).flat=true:=rfl
@[simp] theorem E2I {k:IntKind} {n:Int}:(Cell.i k n).flat=true:=rfl
@[simp] theorem E2J {x:List UInt8}:(Cell.s x).flat=true:=rfl
@[simp] theorem E2w:Cell.ns.flat=true:=rfl
@[simp] theorem E2v:Cell.np.flat=true:=rfl
@[simp] theorem E2y {x:Cell}:(Val.c x).flat=x.flat:=rfl
@[simp] theorem E2x {l:List Cell}:(Val.a l).flat=N3 l:=rfl
@[simp] theorem E2z {l:List Part}:(Val.t l).flat=l.all λp=>match p with | .c x=>x.flat | .a l=>N3 l:=rfl
@[simp] theorem C6g {h:A6} {v:Val}:quiet h (some (v,h))=some (v,h):=U6 Grows.rfl'
end
section
section
variable {h:A6} {l:List (Option Row)} {k id:Nat}
@[simp] theorem M9:rd (h++l) (h.length+k)=(l[k]?).join:=by
 unfold rd;rw [E35 (by omega),Nat.add_sub_cancel_left]
@[simp] theorem F8:rd (h++l) h.length=(l[0]?).join:=M9 (k:=0)
@[simp] theorem qQ {x:Option Row}:(h++l).set (h.length+k) x=h++l.set k x:=by
 rw [E4p _ _ (by omega),Nat.add_sub_cancel_left]
@[simp] theorem cH {x:Option Row}:(h++l).set h.length x=h++l.set 0 x:=qQ (k:=0)
end
section
variable {h:A6} {id off n sz:Nat} {cs xs:List Cell} {x:Cell} {k:IntKind} {rw:Bool}
theorem D6E {j:Int} (h0:0<=j) (h1:j<n):J2 n sz (.c (.p id off)) (.c (.i k j))=some (.c (.p id (off+j.toNat*sz))):=by
 simp only [J2];rw [if_pos ⟨h0,h1⟩]
end
def Has (h:A6) (v:Val) (sz n:Nat) (cs:List Cell):Prop :=
 (v=.c .ns/\n=0/\cs=[])\/∃ id off r,v=.c (.sl id off n sz)/\rd h id=some r/\cs.length=n*sz/\off+n*sz<=r.cells.length/\(r.cells.drop off).take (n*sz)=cs/\noX cs=true
section
variable {h:A6} {v:Val} {sz n:Nat} {cs:List Cell}
theorem Has.length (hv:Has h v sz n cs):cs.length=n*sz:=by
 rcases hv with ⟨_,rfl,rfl⟩ | ⟨_,_,_,_,_,hl,_⟩
 ·simp
 ·exact hl
theorem D43 {r:Row} {off m j:Nat} (h3:(r.cells.drop off).take m=cs) (h4:noX cs=true) (hj:j<m) (hl:off+m<=r.cells.length):(r.rw||(r.cells[off+j]?).any λc=>!c.isX)=true:=by
 have V7:off+j<r.cells.length:=by omega
 have hc:cs[j]?=some r.cells[off+j]:=by
  rw [<-h3,E4n hj,E4G,E3P V7]
 have:=List.all_eq_true.1 h4 _ (E4e hc);rw [E3P V7];simp only [Option.any_some,this,Bool.or_true]
theorem Has.ro (hv:Has h v sz n cs):Has (ro h) v sz n cs:=by
 rcases hv with hv | ⟨id,off,r,rfl,hr,h1,h2,h3,h4⟩
 ·exact .inl hv
 ·cases hh:r.head with
  | false=>exact .inr ⟨id,off,⟨r.cells,false⟩,rfl,B60 hr hh,h1,h2,h3,h4⟩
  | true =>
   have hx:=Row.head_isX hh;have E15:cs=[]:=by
    cases hcs:cs with
    | nil=>rfl
    | cons c cs' =>
     exfalso;have vS:c∈r.cells:=List.mem_of_mem_drop (List.mem_of_mem_take (by rw [h3,hcs];simp));have h5:c.isX=false:=by
      have:=List.all_eq_true.1 h4 c (by rw [hcs];simp);simpa using this
     rw [hx c vS] at h5;cases h5
   have hd:r.dim.length=r.cells.length:=by unfold Row.dim;rw [hh];simp
   have hn:n*sz=0:=by rw [<-h1,E15];rfl
   exact .inr ⟨id,off,⟨r.dim,false⟩,rfl,by rw [C9j,hr];rfl,h1,by show off+n*sz<=r.dim.length;rw [hd];exact h2,by rw [hn,E4P,E15],h4⟩
theorem Has.more (hv:Has h v sz n cs) (l:A6):Has (h++l) v sz n cs:=by
 rcases hv with hv | ⟨id,off,r,rfl,hr,h1,h2,h3,h4⟩
 ·exact .inl hv
 ·exact .inr ⟨id,off,r,rfl,B7 hr,h1,h2,h3,h4⟩
theorem Has.grows {h':A6} (hv:Has h v sz n cs) (hg:Grows h h'):Has h' v sz n cs:=by
 rcases hv with hv | ⟨id,off,r,rfl,hr,h1,h2,h3,h4⟩
 ·exact .inl hv
 ·exact .inr ⟨id,off,r,rfl,hg.rd hr,h1,h2,h3,h4⟩
theorem Has.len (hv:Has h v sz n cs):C95 v=some (.c (.i .i64 n)):=by
 rcases hv with ⟨rfl,rfl,rfl⟩ | ⟨id,off,r,rfl,_⟩<;>rfl
theorem Has.cells (hv:Has h v sz n cs):fV h v=some cs:=by
 rcases hv with ⟨rfl,rfl,rfl⟩ | ⟨id,off,r,rfl,hr,h1,h2,h3,h4⟩
 ·rfl
 ·simp only [fV,hr,E3X];rw [if_pos ⟨h2,by rw [h3,h4];simp⟩,h3]
theorem Has.add (hv:Has h v sz n cs):O4 h sz v=some cs:=by
 have:=hv.cells;rcases hv with ⟨rfl,rfl,rfl⟩ | ⟨id,off,r,rfl,_⟩
 ·rfl
 ·simp only [O4,if_true];exact this
theorem C0q:∀ l:List UInt8,bytes? (A5 l)=some l
 | []=>rfl
 | x::l=>by
  have h1:=x.toNat_lt;have e:C8E (.i .u8 x.toNat)=some x:=by
   simp only [C8E];rw [if_pos ⟨by omega,by omega⟩];simp
  change (C8E (.i .u8 x.toNat)).bind (λy=>(bytes? (A5 l)).map λl=>y::l)=_;rw [e,C0q l];rfl
theorem Has.str {l:List UInt8} (hv:Has h v 1 n (A5 l)):B3Q h v=some (.c (.s l)):=by
 have:=hv.cells;rcases hv with ⟨rfl,rfl,e⟩ | ⟨id,off,r,rfl,_⟩
 ·have:l=[]:=by simpa [A5] using e
  subst this;rfl
 ·simp only [B3Q,if_true,this,E3X,C0q,E4T]
theorem Has.sl (hv:Has h v sz n cs) (hn:0<n):∃ id off,v=.c (.sl id off n sz)/\id<h.length /\
  (∀ j c,cs[j]?=some c->B4 h (.c (.p id (off+j)))=some (.c c))/\∀ j m,j+m<=cs.length->C8 h m (.c (.p id (off+j)))=some (.a ((cs.drop j).take m)):=by
 rcases hv with ⟨rfl,rfl,rfl⟩ | ⟨id,off,r,rfl,hr,h1,h2,h3,h4⟩
 ·omega
 ·refine ⟨id,off,rfl,C4 hr,λj c hc=>?_,λj m hj=>?_⟩
  ·have V7:j<cs.length:=(List.getElem?_eq_some_iff.1 hc).1;have hx:c.isX=false:=by
    have:=List.all_eq_true.1 h4 c (E4e hc);simpa using this
   refine B5 (cs:=r.cells) (rw:=r.rw) hr ?_ (by simp [hx]);rw [<-h3,E4n (by omega),E4G] at hc;exact hc
  ·have e:((cs.drop j).take m)=(r.cells.drop (off+j)).take m:=by
    rw [<-h3,List.drop_take,List.take_take,E4S]
    congr 1
    omega
   rw [e];refine cF (cs:=r.cells) (rw:=r.rw) hr (by omega) ?_;rw [<-e];have:noX ((cs.drop j).take m)=true:=by
    refine List.all_eq_true.2 λc hc=>List.all_eq_true.1 h4 c ?_
    exact List.mem_of_mem_drop (List.mem_of_mem_take hc)
   simp [this]
end
theorem Has.row {h:A6} {id sz n:Nat} {cs:List Cell} {rw:Bool} (hr:rd h id=some ⟨cs,rw⟩) (hl:cs.length=n*sz) (hx:noX cs=true):Has h (.c (.sl id 0 n sz)) sz n cs :=
 .inr ⟨id,0,_,rfl,hr,hl,by simp [hl],by simp [<-hl],hx⟩
def Out (b:Nat) (h:A6) (v:Val) (sz n:Nat) (cs:List Cell):Prop :=
 cs.length=n*sz/\∃ id,v=.c (.sl id 0 n sz)/\b<=id/\rd h id=some ⟨cs,true⟩
def Low (b:Nat) (h h':A6):Prop:=b<=h.length/\h.length<=h'.length/\∀ id,id<b->rd h' id=rd h id
theorem Low.refl {b:Nat} {h:A6} (hb:b<=h.length):Low b h h:=⟨hb,E3T _,λ_ _=>rfl⟩
theorem Low.trans {b:Nat} {h h' h'':A6} (h1:Low b h h') (h2:Low b h' h''):Low b h h'' :=
 ⟨h1.1,E4t h1.2.1 h2.2.1,λid hid=>(h2.2.2 id hid).trans (h1.2.2 id hid)⟩
theorem Low.new {b:Nat} {h h':A6} (h1:Low b h h') (l:A6):Low b h (h'++l) :=
 ⟨h1.1,by have:=h1.2.1;simp;omega,λid hid=>by rw [D1 (by have:=h1.1;have:=h1.2.1;omega)];exact h1.2.2 id hid⟩
theorem Low.set {b:Nat} {h h':A6} (h1:Low b h h') {id:Nat} (hid:b<=id) (x:Option Row):Low b h (h'.set id x) :=
 ⟨h1.1,by simpa using h1.2.1,λj hj=>by rw [A7 (by omega)];exact h1.2.2 j hj⟩
theorem Has.low {b:Nat} {h h':A6} {v:Val} {sz n:Nat} {cs:List Cell} (h1:Low b h h') (hv:Has h v sz n cs) (hb:∀ id off m,v=.c (.sl id off m sz)->id<b):Has h' v sz n cs:=by
 rcases hv with hv | ⟨id,off,r,rfl,hr,h2⟩
 ·exact .inl hv
 ·exact .inr ⟨id,off,r,rfl,by rw [h1.2.2 id (hb id off n rfl)];exact hr,h2⟩
theorem Out.app {b:Nat} {h:A6} {v y:Val} {sz n m:Nat} {cs ys:List Cell} (ho:Out b h v sz n cs) (hsz:0<sz) (hy:O4 h sz y=some ys) (hm:ys.length=m*sz) (hn:n+m<=1073741824) :
  ∃ id v' h',v=.c (.sl id 0 n sz)/\iY h sz v y=some (v',h')/\Out b h' v' sz (n+m) (cs++ys)/\Low b h h'/\(∀ i r,rd h i=some r->i≠id->rd h' i=some r):=by
 have hd:ys.length/sz=m:=by rw [hm];exact Nat.mul_div_cancel m hsz
 obtain ⟨hl,id,rfl,E2Q,hr⟩:=ho;have V7:=C4 hr;refine ⟨id,_,h.set id none++[some ⟨cs++ys,true⟩],rfl,by simp only [iY,hy,hr,E3X,hd];rw [if_pos ⟨trivial,trivial,hl.symm,trivial,hn⟩],⟨by simp [hl,hm,E4Q],h.length,rfl,by omega,?_⟩,((Low.refl (by omega)).set E2Q none).new _,λi r hi U1=>?_⟩
 ·have:=S9 (h:=h.set id none) (r:=⟨cs++ys,true⟩)
  rwa [E4o] at this
 ·have V7:=C4 hi;rw [D1 (by simpa using V7),A7 (Ne.symm U1)];exact hi
theorem zP {h:A6} {id:Nat} {cs:List Cell} (hr:rd h id=some ⟨cs,true⟩) (hf:N3 cs=true):newRow h id=true:=by simp [newRow,hr,hf]
theorem D6V {h:A6} {b id off n sz:Nat} {cs:List Cell} (hb:b<=id) (hr:rd h id=some ⟨cs,true⟩) (hf:N3 cs=true):W4 h b (.c (.sl id off n sz))=some (.c (.sl b off n sz),[id]):=by
 have:¬ id<b:=by omega
 simp [W4,Q5,hb,this,zP hr hf]
theorem D8y {F:List Val->A6->Option (Val × A6)} {args:List Val} {h h':A6} {v:Val} {sz n:Nat} {cs:List Cell} (he:F args (ro h)=some (v,h')) (ho:Out h.length h' v sz n cs) (hf:N3 cs=true) :
  tidy F args h=some (.c (.sl h.length 0 n sz),h++[some ⟨cs,true⟩]):=by
 obtain ⟨hl,id,rfl,hb,hr⟩:=ho;rw [B7a he (D6V hb hr hf)];simp [hr]
theorem D6r {F:List Val->A6->Option (Val × A6)} {args:List Val} {h h':A6} {v':Nat} {c:Cell} {sz n:Nat} {cs:List Cell} (he:F args (ro h)=some (.t [.c (.sl v' 0 n sz),.c c],h')) (ho:Out h.length h' (.c (.sl v' 0 n sz)) sz n cs) (hf:N3 cs=true) (hc:c.flat=true) :
  tidy F args h=some (.t [.c (.sl h.length 0 n sz),.c c],h++[some ⟨cs,true⟩]):=by
 obtain ⟨hl,id,e,hb,hr⟩:=ho;cases e;have e2:Q5 h' h.length [v'] [c]=some ([c],[v']):=bZ (by simp [hc]);rw [B7a he (v2:=.t [.c (.sl h.length 0 n sz),.c c]) (ids:=[v']) (by simp [W4,fH,Q5,hb,show ¬ v'<h.length by omega,zP hr hf,e2,hc,Cell.low_of_flat hc])];simp [hr]
def encI (l:List Int):List Cell:=l.map λn=>.i .i64 n
theorem A8 (l:List Int):(encI l).length=l.length:=by simp [encI]
theorem aX (l:List Int) (i:Nat) (x:Int):(encI l).set i (.i .i64 x)=encI (l.set i x):=by simp [encI,List.map_set]
theorem F0 (l:List Int) (i:Nat):(encI l)[i]?=(l[i]?).map λx=>.i .i64 x:=by simp [encI]
theorem A10 (l m:List Int):encI (l++m)=encI l++encI m:=by simp [encI]
theorem cG (l:List Int):noX (encI l)=true:=by simp [noX,encI,Cell.isX]
@[simp] theorem C5j {l:List Int}:N3 (encI l)=true:=by simp [N3,encI,Cell.flat]
theorem D1V {l m:List Int}:encI l=encI m↔l=m:=by
 constructor
 ·intro h;exact List.map_inj_right (λx y e=>by simpa using e) |>.1 h
 ·rintro rfl;rfl
def encS (l:List (List UInt8)):List Cell:=l.map .s
theorem L6 (l:List (List UInt8)):(encS l).length=l.length:=by simp [encS]
theorem B6K (l:List (List UInt8)):noX (encS l)=true:=by simp [noX,encS,Cell.isX]
@[simp] theorem E0B {l:List (List UInt8)}:N3 (encS l)=true:=by simp [N3,encS,Cell.flat]
abbrev Fun:=List Val->A6->Option (Val × A6)
abbrev SmV:=Sm (Val × A6)
abbrev B2H:=Option (Val × A6)
def SOk (P:Program) (f:FuncId) (S:Fun):Prop:=∀ args h v h2,S args h=some (v,h2)->jA P f/\CallOk P f args h v h2/\h.length<=h2.length
def D7e (g:Nat) (S:Fun) (E:N1):N1:=λf args h=>bif Nat.beq f g then S args h else E f args h
def D1S:N1:=λ_ _ _=>none
theorem D36 {P:Program}:eV P D1S:=λ_ _ _ _ _ h=>by cases h
theorem D37 {P:Program} {g:Nat} {S:Fun} {E:N1} (hs:SOk P g S) (hE:eV P E):eV P (D7e g S E):=by
 intro f args h v h2 he;unfold D7e at he;cases hb:Nat.beq f g with
 | true=>rw [hb] at he;have e:=Nat.eq_of_beq_eq_true hb;subst e;exact hs args h v h2 he
 | false=>rw [hb] at he;exact hE f args h v h2 he
structure FnK (P:Program) (f:FuncId) (A:AFn) (E:N1) (R:Nat->Fun):Prop where
 run:∀ n args h,A.run E n args h=R n args h
 ok:SOk P f (Lim A E)
theorem FnK.mk' {P:Program} {f:FuncId} {fn:Func} {A:AFn} {E:N1} {R:Nat->Fun} (hE:eV P E) (hf:P.funcs[f]?=some fn) (hc:C4V P fn A=true) (hr:∀ n args h,A.run E n args h=R n args h):FnK P f A E R :=
 ⟨hr,λ_ _ _ _ he=>(D4g he).elim λ_ e=>E1H hE hf hc e⟩
abbrev KV:=B04 (Val × A6)
abbrev AtH:=A6->B2H
def zE:List Nat->List Val->Env
 | t::l,x::r=>(t,x)::zE l r
 | _,_=>[]
noncomputable def rx (E:N1) (A:AFn) (n:Nat):Fun:=λargs h=>ax E n A.code A.fin (params 0 args) h
noncomputable def tl (A:AFn) (E:N1):Fun:=tidy (Lim A E)
noncomputable def aj' (s:SmV) (k:KV) (ks:List Nat) (xs:List Val):AtH:=λh=>hold (s k (zE ks xs) h)
noncomputable def aj (E:N1) (n:Nat) (c:ACode) (k:KV) (ks:List Nat) (xs:List Val):AtH:=aj' (ax E n c) k ks xs
theorem FnK.mk2 {P:Program} {f:FuncId} {fn:Func} {A:AFn} {E:N1} (hE:eV P E) (hf:P.funcs[f]?=some fn) (hc:C4V P fn A=true):FnK P f A E (rx E A) :=
 .mk' hE hf hc λ_ _ _=>E0s
section
variable {P:Program} {f:FuncId} {A:AFn} {E:N1} {R:Nat->Fun}
theorem FnK.of (K:FnK P f A E R) {n:Nat} {args:List Val} {h:A6} {p:Val × A6} (he:R n args h=some p):Lim A E args h=some p:=E0h ((K.run ..).trans he)
theorem FnK.sok (K:FnK P f A E R):SOk P f (tidy (Lim A E)):=λargs h v h2 he=>D9N K.ok args h v h2 he
theorem FnK.flat (K:FnK P f A E R) {n:Nat} {args:List Val} {h h2:A6} {v:Val} (he:R n args (ro h)=some (v,h2)) (hf:v.flat=true):tidy (Lim A E) args h=some (v,h):=D6q (K.of he) hf
theorem FnK.low (K:FnK P f A E R) {n:Nat} {args:List Val} {h h2:A6} {v:Val} (he:R n args (ro h)=some (v,h2)) (hf:v.low h.length=true):tidy (Lim A E) args h=some (v,h):=D8x (K.of he) hf
theorem FnK.out (K:FnK P f A E R) {n:Nat} {args:List Val} {h h2:A6} {v:Val} {sz k:Nat} {cs:List Cell} (he:R n args (ro h)=some (v,h2)) (ho:Out h.length h2 v sz k cs) (hf:N3 cs=true):tidy (Lim A E) args h=some (.c (.sl h.length 0 k sz),h++[some ⟨cs,true⟩]):=D8y (K.of he) ho hf
theorem FnK.out2 (K:FnK P f A E R) {n:Nat} {args:List Val} {h h2:A6} {i:Nat} {c:Cell} {sz k:Nat} {cs:List Cell} (he:R n args (ro h)=some (.t [.c (.sl i 0 k sz),.c c],h2)) (ho:Out h.length h2 (.c (.sl i 0 k sz)) sz k cs) (hf:N3 cs=true) (hc:c.flat=true):Esc.tidy (Lim A E) args h=some (.t [.c (.sl h.length 0 k sz),.c c],h++[some ⟨cs,true⟩]):=D6r (K.of he) ho hf hc
theorem FnK.tidy (K:FnK P f A E R) {n:Nat} {args:List Val} {h h2:A6} {v v2:Val} {ids:List Nat} (he:R n args (ro h)=some (v,h2)) (hc:W4 h2 h.length v=some (v2,ids)):Esc.tidy (Lim A E) args h=some (v2,h++ids.map (rd h2)):=B7a (K.of he) hc
end
abbrev E5 (R:Nat->Fun) (S:Fun):Prop:=∀ {n:Nat} {args:List Val} {h h2:A6} {v:Val},R n args (ro h)=some (v,h2)->v.flat=true->S args h=some (v,h)
abbrev E0i (R:Nat->Fun) (S:Fun):Prop:=∀ {n:Nat} {args:List Val} {h h2:A6} {v:Val},R n args (ro h)=some (v,h2)->v.low h.length=true->S args h=some (v,h)
abbrev qT (R:Nat->Fun) (S:Fun):Prop:=∀ {n:Nat} {args:List Val} {h h2:A6} {v:Val} {sz k:Nat} {cs:List Cell},R n args (ro h)=some (v,h2)->Out h.length h2 v sz k cs->N3 cs=true->S args h=some (.c (.sl h.length 0 k sz),h++[some ⟨cs,true⟩])
abbrev E1D (R:Nat->Fun) (S:Fun):Prop:=∀ {n:Nat} {args:List Val} {h h2:A6} {i:Nat} {c:Cell} {sz k:Nat} {cs:List Cell},R n args (ro h)=some (.t [.c (.sl i 0 k sz),.c c],h2)->Out h.length h2 (.c (.sl i 0 k sz)) sz k cs->N3 cs=true->c.flat=true->S args h=some (.t [.c (.sl h.length 0 k sz),.c c],h++[some ⟨cs,true⟩])
abbrev D4h (R:Nat->Fun) (S:Fun):Prop:=∀ {n:Nat} {args:List Val} {h h2:A6} {v v2:Val} {ids:List Nat},R n args (ro h)=some (v,h2)->W4 h2 h.length v=some (v2,ids)->S args h=some (v2,h++ids.map (rd h2))
abbrev OfT (R:Nat->Fun) (S:Fun):Prop:=∀ {n:Nat} {args:List Val} {h:A6} {p:Val × A6},R n args h=some p->S args h=some p
end
end Go.Esc
namespace Go.Esc
open Go Go.ChangeShapes Go.WideShapes Go.ChangeAt Go.RowKit
section
def vM (P:Program) (g:TypeId->Option (List Sh)):List Field->Nat->Option (List Sh)
 | [],_=>some []
 | f::r,off=>if f.offset=off then (g f.type).bind λl=>if l.length=P.cellsOf f.type then (vM P g r (off+l.length)).map (l ++ ·) else none else none
def B0t (P:Program):Nat->TypeId->Option (List Sh)
 | 0,_=>none
 | n+1,t=>match P.underlying t with
  | some .bool=>some [.b]
  | some (.int k)=>some [.i k]
  | some .string=>some [.s]
  | some (.struct fs)=>(vM P (B0t P n) fs.toList 0).bind λl=>if l.length=P.cellsOf t then some l else none
  | some (.array m e)=>(B0t P n e).bind λl=>if l.length=P.cellsOf e/\P.cellsOf t=m*l.length then some (E3Q m l).flatten else none
  | _=>none
def okCell:Sh->Cell->Prop
 | .b,.b _=>True
 | .i k,.i k' n=>k'=k/\k.min<=n/\n<=k.max
 | .s,.s l=>l.length<=maxLen
 | _,_=>False
theorem okCell.flat {s:Sh} {c:Cell} (h:okCell s c):c.flat=true/\c.isX=false:=by
 cases s<;>cases c<;>simp_all [okCell,Cell.flat,Cell.isX]
theorem B2w:∀ {l:List Sh} {cs:List Cell},All2 okCell l cs->N3 cs=true/\noX cs=true
 | [],[],_=>⟨rfl,rfl⟩
 | s::l,c::cs,⟨h1,h2⟩=>by
  have:=B2w h2;have h3:=h1.flat;simp [this.1,h3.1,noX,h3.2];have:=this.2;simpa [noX] using this
 | [],_::_,h=>h.elim
 | _::_,[],h=>h.elim
section
variable {H:Type} {enc:TypeId × Value->H} {P:Program} {w:World} {base:Nat} {spare:Nat->Bool} {held:Bool} {fuel:Nat} {t:TypeId} {cs:List Value} {x:DataW H × List MemPlace}
theorem trod_array {n:Nat} {e:TypeId} (ht:P.underlying t=some (.array n e)) (h:DataW.trod enc P w base spare held fuel t cs=some x) :
  ∃ (m:Nat) (xs:List (DataW H × List MemPlace)),cs.length=P.cellsOf t/\∀ i,i<n->∃ y,DataW.trod enc P w base spare held m e ((cs.drop (i*P.cellsOf e)).take (P.cellsOf e))=some y:=by
 cases fuel with
 | zero=>simp [DataW.trod] at h
 | succ m =>
  unfold DataW.trod at h;rw [ht] at h;have h':cs.length=P.cellsOf t/\∃ xs,((E4m n).mapM λi=>DataW.trod enc P w base spare held m e ((cs.drop (i*P.cellsOf e)).take (P.cellsOf e)))=some xs:=by
   split at h<;>simp_all
   obtain ⟨hl,xs,hp,hd⟩:=h;exact ⟨xs,hp⟩
  obtain ⟨hl,xs,hp⟩:=h';refine ⟨m,xs,hl,λi hi=>?_⟩;have:=mapM_some_get hp i i (by simp [hi]);rw [this];have hxl:xs.length=n:=by simpa using mapM_some_length hp
  exact ⟨xs[i],E3P (by omega)⟩
theorem B0e (μ:Mu):∀ (n:Nat) {t:TypeId} {fuel:Nat} {cs:List Value} {x:DataW H × List MemPlace} {sh:List Sh},DataW.trod enc P w base spare held fuel t cs=some x->B0t P n t=some sh ->
  ∃ cells,All2 (RC μ) cells cs/\All2 okCell sh cells
 | 0,_,_,_,_,_,_,hs=>by simp [B0t] at hs
 | n+1,t,fuel,cs,x,sh,h,hs=>by
  unfold B0t at hs;split at hs
  ·rename_i ht;cases hs;obtain ⟨b,rfl,_⟩:=DataW.trod_bool ht h;exact ⟨[.b b],⟨rfl,trivial⟩,⟨trivial,trivial⟩⟩
  ·rename_i k ht;cases hs;obtain ⟨m,rfl,_,hw⟩:=DataW.trod_int ht h;simp only [Lit.wf,E3R,decide_eq_true_eq] at hw;exact ⟨[.i k m],⟨rfl,trivial⟩,⟨⟨rfl,hw⟩,trivial⟩⟩
  ·rename_i ht;cases hs;obtain ⟨s,rfl,_,hw⟩:=DataW.trod_string ht h;exact ⟨[.s s.data.toList],⟨by show Value.string s=.string ⟨s.data.toList.toArray⟩;simp,trivial⟩,⟨by show s.data.toList.length<=maxLen;simpa using hw,trivial⟩⟩
  ·rename_i fs ht;simp only [E3O] at hs;obtain ⟨l,hl,hs⟩:=hs;split at hs
   ·rename_i hlen;cases hs;obtain ⟨xs,m,_,_,vQ,hxl,hf⟩:=DataW.trod_struct ht h;have key:∀ (r:List Field) (off:Nat) (l:List Sh),vM P (B0t P n) r off=some l->(∀ f∈r,∃ y,DataW.trod enc P w base spare held m f.type ((cs.drop f.offset).take (P.cellsOf f.type))=some y) ->
      ∃ cells,All2 (RC μ) cells ((cs.drop off).take l.length)/\All2 okCell l cells:=by
     intro r
     induction r with
     | nil=>intro off l hl _;simp only [vM,Option.some.injEq] at hl;subst hl;exact ⟨[],by simp,trivial⟩
     | cons f r ih =>
      intro off l hl mU;simp only [vM] at hl;split at hl
      ·rename_i ho;simp only [E3O] at hl;obtain ⟨lf,hlf,hl⟩:=hl;split at hl
       ·rename_i hc;simp only [E34] at hl;obtain ⟨lr,hlr,rfl⟩:=hl;obtain ⟨y,hy⟩:=mU f (by simp);obtain ⟨c1,g1,g2⟩:=B0e μ n hy hlf;obtain ⟨c2,g3,g4⟩:=ih (off+lf.length) lr hlr λf' hf'=>mU f' (by simp [hf'])
        refine ⟨c1++c2,?_,g2.append g4⟩;have e:(cs.drop off).take (lf++lr).length=(cs.drop off).take lf.length++(cs.drop (off+lf.length)).take lr.length:=by
         rw [E3S,List.take_add,E4S]
        rw [e];rw [ho,<-hc] at g1;exact g1.append g3
       ·cases hl
      ·cases hl
    have h1:=key fs.toList 0 _ hl λf hf'=>by
     obtain ⟨i,hi⟩:=List.mem_iff_getElem?.1 hf';have hi2:fs[i]?=some f:=by simpa using hi
     rw [hf i f hi2];have:i<fs.size:=(Array.getElem?_eq_some_iff.1 hi2).1;exact ⟨xs[i],E3P (by omega)⟩
    rw [E39,E3Y (by omega)] at h1;exact h1
   ·cases hs
  ·rename_i k e ht;simp only [E3O] at hs;obtain ⟨l,hl,hs⟩:=hs;split at hs
   ·rename_i hlen;cases hs;obtain ⟨m,xs,vQ,mU⟩:=trod_array ht h;have key:∀ d j,j+d=k->∃ cells,All2 (RC μ) cells (cs.drop (j*l.length))/\All2 okCell (E3Q d l).flatten cells:=by
     intro d
     induction d with
     | zero =>
      intro j hj;have:cs.drop (j*l.length)=[]:=E32 (by rw [vQ,hlen.2];have:j=k:=(by omega);subst this;exact E3T _);rw [this];exact ⟨[],trivial,trivial⟩
     | succ d ih =>
      intro j hj;obtain ⟨y,hy⟩:=mU j (by omega);obtain ⟨c1,g1,g2⟩:=B0e μ n hy hl;obtain ⟨c2,g3,g4⟩:=ih (j+1) (by omega);refine ⟨c1++c2,?_,?_⟩
      ·rw [<-hlen.1] at g1;have e2:cs.drop (j*l.length)=(cs.drop (j*l.length)).take l.length++cs.drop ((j+1)*l.length):=by
        rw [E4Q,Nat.one_mul,<-E4S,List.take_append_drop]
       rw [e2];exact g1.append g3
      ·rw [E4i,E4L];exact g2.append g4
    have h1:=key k 0 (by omega);simpa using h1
   ·cases hs
  ·cases hs
end
def Mu.set (μ:Mu) (id:Nat) (y:Option (Nat × Nat)):Mu:=λj=>if j=id then y else μ j
theorem Mu.le_set {μ:Mu} {id:Nat} {y:Option (Nat × Nat)} (h:μ id=Option.none):μ.le (μ.set id y):=by
 intro j x hj;unfold Mu.set;by_cases e:j=id
 ·subst e;rw [h] at hj;cases hj
 ·simp [e,hj]
theorem Inv.addRow {W:World} {h:A6} {μ:Mu} (hi:Inv (C45 W) μ h W) (hro:∀ id r,rd h id=some r->r.own=false) {y:Option (Nat × Nat)} {cs:List Cell} (tG:(Row.mk cs false).own=false) (hrow:RowOk (μ.set h.length y) W h.length ⟨cs,false⟩) :
  Inv (C45 W) (μ.set h.length y) (h++[some ⟨cs,false⟩]) W/\∀ id r,rd (h++[some ⟨cs,false⟩]) id=some r->r.own=false:=by
 have hm:μ h.length=Option.none:=hi.dom _ (E3T _);have get:∀ id r,rd (h++[some ⟨cs,false⟩]) id=some r->(id<h.length/\rd h id=some r)\/(id=h.length/\r=⟨cs,false⟩):=by
  intro id r hr;by_cases hl:id<h.length
  ·rw [D1 hl] at hr;exact .inl ⟨hl,hr⟩
  ·have V7:=C4 hr;simp at V7;have:id=h.length:=by omega
   subst this;rw [S9] at hr;cases hr;exact .inr ⟨rfl,rfl⟩
 have ro':∀ id r,rd (h++[some ⟨cs,false⟩]) id=some r->r.own=false:=by
  intro id r hr;rcases get id r hr with ⟨_,h1⟩ | ⟨_,rfl⟩
  ·exact hro id r h1
  ·exact tG
 refine ⟨⟨?_,?_,?_,?_,hi.ctx⟩,ro'⟩
 ·intro id r hr;rcases get id r hr with ⟨hl,h1⟩ | ⟨rfl,rfl⟩
  ·exact (hi.rows id r h1).mono (Mu.le_set hm) (by simp [Mu.set];omega) λ_ _=>rfl
  ·exact hrow
 ·intro id fX r r' x x' hr _ hw;rw [ro' id r hr] at hw;cases hw
 ·intro id r x hr hw;rw [ro' id r hr] at hw;cases hw
 ·intro id hl;simp at hl;have:id≠h.length:=by omega
  simp only [Mu.set,this,if_false];exact hi.dom id (by omega)
theorem D7X {μ:Mu} {k:Nat} {cs:List Cell} {vs:List Value} (h:All2 (RC μ) cs vs):(Row.mk (E3Q k .dark++cs) false).own=false:=by
 cases k with
 | succ k=>rfl
 | zero =>
  cases cs with
  | nil=>rfl
  | cons c cs =>
   cases vs with
   | nil=>exact h.elim
   | cons v vs =>
    have h1:=h.1;cases c<;>first | rfl | exact h1.elim
def Opened (W:World) (μ:Mu) (h:A6):Prop:=Inv (C45 W) μ h W/\∀ id r,rd h id=some r->r.own=false
theorem Opened.nought (W:World):Opened W (λ_=>Option.none) []:=⟨Inv.nought W,λid r h=>by simp [rd] at h⟩
section
variable {H:Type} {enc:TypeId × Value->H} {P:Program} {W:World} {base:Nat} {held:Bool} {t:TypeId}
theorem D6W {W:World} {a:Addr} {C:Array Value} {elem:TypeId} {fz:Nat × Nat} {k:Nat} (hC:W.heap[a.block]?=some (.cells C elem fz)) (hs:a.spot=none):W.cell? (a.add k)=C[a.off+k]? := by
 have h1:(a.add k).block=a.block:=by unfold Addr.add;split<;>rfl
 have h2:(a.add k).spot=none:=by unfold Addr.add;split<;>simp_all
 have h3:(a.add k).off=a.off+k:=by unfold Addr.add;split<;>simp_all
 unfold World.cell?;rw [h1,hC,h3];simp [h2]
theorem C55 {μ:Mu} {h:A6} (ho:Opened W μ h) {r:Reach} {b0 n:Nat} {e:TypeId} {v:Value} {d:DataW H} {ps:List MemPlace} {sh:List Sh} (ht:P.underlying t=some (.slice e)) (hs:B0t P n e=some sh) (lO:sh.length=P.cellsOf e) (B4d:0<sh.length)
  (C5v:Value.okWide P W r b0 t v) (hd:DataW.Trod enc P W base (λ_=>true) held t v d ps) :
  ∃ v' μ' l len cells,μ.le μ'/\Opened W μ' (h++l)/\RV μ' v' v/\Has (h++l) v' sh.length len cells/\All2 okCell (E3Q len sh).flatten cells/\len<=maxLen:=by
 obtain ⟨fuel,hf⟩:=hd;have hv:∃ a len cap,v=.slice a len cap:=by
  unfold Value.okWide at C5v;rw [ht] at C5v;unfold Cell.okWide at C5v;rw [ht] at C5v;cases v<;>simp_all [Cell.ok]
 obtain ⟨a0,len0,cap0,rfl⟩:=hv;have E0G:(Value.slice a0 len0 cap0).cells.toList=[.slice a0 len0 cap0]:=by simp [Value.cells]
 rw [E0G] at hf;rcases Deep.open_slice ht hf with ⟨hc,_⟩ | ⟨a,len,cap,m,k,D,Pl,hc,hb,hl,hm,hmm,hx,hel⟩
 ·simp only [List.cons.injEq,Value.slice.injEq,and_true] at hc;obtain ⟨rfl,rfl,rfl⟩:=hc;exact ⟨.c .ns,μ,[],0,[],Mu.le_refl _,by simpa using ho,rfl,.inl ⟨rfl,rfl,rfl⟩,by simp,Nat.zero_le _⟩
 ·simp only [List.cons.injEq,Value.slice.injEq,and_true] at hc;obtain ⟨rfl,rfl,rfl⟩:=hc;simp only [if_true] at hmm;subst hmm;rw [<-lO] at hel;by_cases hm0:m=0
  ·subst hm0;have:len0=0:=by omega
   subst this;obtain ⟨g1,g2⟩:=Inv.addRow ho.1 ho.2 (y:=Option.none) (cs:=[]) rfl (by unfold RowOk;simp [Mu.set]);exact ⟨.c (.sl h.length 0 0 sh.length),_,[some ⟨[],false⟩],0,[],Mu.le_set (ho.1.dom _ (E3T _)),⟨g1,g2⟩,.inr ⟨rfl,_,rfl⟩,.inr ⟨h.length,0,⟨[],false⟩,rfl,S9,by simp,by simp,by simp,rfl⟩,by simp,Nat.zero_le _⟩
  ·obtain ⟨cs0,hc0,hr0⟩:=hel 0 (by omega);obtain ⟨_,E3w,E0F⟩:=World.cells?_some hc0;have qV:∃ C elem fz,W.heap[a.block]?=some (.cells C elem fz)/\a.spot=none:=by
    have:=E0F 0 B4d;rw [E3P (by omega)] at this;unfold World.cell? at this;have hb0:((a.add (0*sh.length)).add 0)=a:=by simp [Addr.add]
    rw [hb0] at this;split at this
    ·rename_i C elem fz hh;refine ⟨C,elem,fz,hh,?_⟩;split at this
     ·cases this
     ·rename_i hs2;cases hsp:a.spot with
      | none=>rfl
      | some s=>simp [hsp] at hs2
    ·cases this
   obtain ⟨C,elem,fz,hC,hsp⟩:=qV;have ha:a=⟨a.block,a.off,none⟩:=by cases a;simp_all
   have D7o:∀ i j,i<m->j<sh.length->W.cell? ((a.add (i*sh.length)).add j)=C[a.off+(i*sh.length+j)]? := by
    intro i j _ _;rw [Deep.add_add];exact D6W hC hsp
   have E17:a.off+m*sh.length<=C.size:=by
    obtain ⟨cs1,hc1,_⟩:=hel (m-1) (by omega);obtain ⟨_,E1Z,D3u⟩:=World.cells?_some hc1;have h1:=D3u (sh.length-1) (by omega);rw [D7o _ _ (by omega) (by omega),E3P (by omega)] at h1;have h2:=(Array.getElem?_eq_some_iff.1 h1).1;have e:(m-1)*sh.length+(sh.length-1)+1=m*sh.length:=by
     obtain ⟨q,rfl⟩:∃ q,m=q+1:=⟨m-1,by omega⟩;rw [Nat.add_sub_cancel,E4Q];omega
    omega
   have key:∀ d j,j+d=len0->∃ cells,All2 (RC μ) cells ((C.toList.drop (a.off+j*sh.length)).take (d*sh.length))/\All2 okCell (E3Q d sh).flatten cells:=by
    intro d
    induction d with
    | zero=>intro j _;exact ⟨[],by simp,trivial⟩
    | succ d ih =>
     intro j hj;obtain ⟨cs1,hc1,hr1⟩:=hel j (by omega);obtain ⟨_,E1Z,D3u⟩:=World.cells?_some hc1;obtain ⟨c1,g1,g2⟩:=B0e μ n hr1 hs;obtain ⟨c2,g3,g4⟩:=ih (j+1) (by omega);refine ⟨c1++c2,?_,by rw [E4i,E4L];exact g2.append g4⟩;have e1:(C.toList.drop (a.off+j*sh.length)).take sh.length=cs1:=by
      refine E4I λi=>?_
      by_cases hi:i<sh.length
      ·rw [E4n hi,E4G,<-D3u i hi,D7o j i (by omega) hi];simp [Nat.add_assoc]
      ·rw [E4q (by simp;omega),E4q (by omega)]
     have e2:(C.toList.drop (a.off+j*sh.length)).take ((d+1)*sh.length)=cs1++(C.toList.drop (a.off+(j+1)*sh.length)).take (d*sh.length):=by
      rw [E4Q d 1,Nat.one_mul,Nat.add_comm (d*sh.length),List.take_add,e1,E4S,E4Q,Nat.one_mul,Nat.add_assoc]
     rw [e2];exact g1.append g3
   obtain ⟨cells,k1,k2⟩:=key len0 0 (by omega);rw [Nat.zero_mul,E4U] at k1;have vQ:cells.length=len0*sh.length:=by
    have h1:=k1.length;simp at h1;have:len0*sh.length<=m*sh.length:=Nat.mul_le_mul_right _ hl;omega
   have hmul:len0*sh.length<=m*sh.length:=Nat.mul_le_mul_right _ hl;have hm':μ h.length=none:=ho.1.dom _ (E3T _);obtain ⟨g1,g2⟩:=Inv.addRow ho.1 ho.2 (y:=some (a.block,C.size)) (cs:=E3Q a.off .dark++cells) (D7X k1) (by
    unfold RowOk;simp only [Mu.set,if_true];refine .inl ⟨C,elem,fz,hC,rfl,?_,λhf=>by cases hf⟩;have e3:C.toList.take (E3Q a.off Cell.dark++cells).length=C.toList.take a.off++(C.toList.drop a.off).take (len0*sh.length):=by
     rw [E3S,E4g,List.take_add,vQ]
    rw [e3];refine All2.append ?_ (k1.mono λc V hc=>.inl (hc.mono (Mu.le_set hm')));refine All2.of_get (by simp;omega) λi c V hc hV=>.inr ⟨rfl,?_⟩
    have:=E4e hc;rw [List.mem_replicate] at this;rw [this.2];rfl)
   refine ⟨.c (.sl h.length a.off len0 sh.length),_,[some ⟨E3Q a.off .dark++cells,false⟩],len0,cells,Mu.le_set hm',⟨g1,g2⟩,.inl ⟨a.block,C.size,m,by simp [Mu.set],hl,E17,by rw [<-ha]⟩,.inr ⟨h.length,a.off,_,rfl,S9,vQ,?_,?_,(B2w k2).2⟩,k2,by omega⟩
   ·simp [vQ]
   ·rw [List.drop_left' (by simp),E3Y (by omega)]
end
def E02 (k:IntKind) (n:Int):Prop:=k.min<=n/\n<=k.max
theorem D5G {n:Int}:E02 .u8 n↔0<=n/\n<=255:=Iff.rfl
theorem D2s:∀ {n:Nat} {cells:List Cell},All2 okCell (E3Q n (.i .u8)) cells->∃ l:List UInt8,cells=A5 l/\l.length=n
 | 0,[],_=>⟨[],rfl,rfl⟩
 | n+1,c::cs,h=>by
  rw [E4i] at h;obtain ⟨l,rfl,hl⟩:=D2s h.2;have h1:=h.1;cases c with
  | i k m =>
   obtain ⟨rfl,h2⟩:=h1;have h3:=D5G.1 h2;refine ⟨UInt8.ofNat m.toNat::l,?_,by simp [hl]⟩;simp only [A5,E4R,List.cons.injEq,Cell.i.injEq,true_and,and_true];rw [UInt8.toNat_ofNat'];omega
  | _=>exact h1.elim
 | 0,_::_,h=>h.elim
 | n+1,[],h=>by rw [E4i] at h;exact h.elim
section
variable {H:Type} {enc:TypeId × Value->H} {P:Program} {W:World} {base:Nat} {spare:Nat->Bool} {held:Bool} {t:TypeId} {r:Reach} {b0 n:Nat} {v:Value} {d:DataW H} {ps:List MemPlace}
theorem E0q {e:TypeId} {sh:List Sh} {μ:Mu} {h:A6} (ho:Opened W μ h) (C5v:Value.okWide P W r b0 t v) (hd:DataW.Trod enc P W base (λ_=>true) held t v d ps) (ht:P.underlying t=some (.slice e)) (hs:B0t P n e=some sh) (lO:sh.length=P.cellsOf e) (B4d:0<sh.length) :
  ∃ v' μ' l len cells,μ.le μ'/\Opened W μ' (h++l)/\RV μ' v' v/\Has (h++l) v' sh.length len cells/\All2 okCell (E3Q len sh).flatten cells/\len<=maxLen :=
 C55 ho ht hs lO B4d C5v hd
end
end
end Go.Esc
section
namespace Go.Esc
open Go
theorem Has.tr {h:A6} {id sz n:Nat} {cs:List Cell} (hr:rd h id=some ⟨cs,true⟩) (hl:cs.length=n*sz) (hx:noX cs=true):Has h (.c (.sl id 0 n sz)) sz n cs:=Has.row hr hl hx
theorem Has.since {g h:A6} {v:Val} {sz n:Nat} {cs:List Cell} (hv:Has g v sz n cs) (h1:Low g.length g h):Has h v sz n cs:=by
 rcases hv with hv | ⟨id,off,r,rfl,hr,h2⟩
 ·exact .inl hv
 ·exact .inr ⟨id,off,r,rfl,by rw [h1.2.2 id (C4 hr)];exact hr,h2⟩
theorem Low.rd {g h:A6} (h1:Low g.length g h) {id:Nat} {r:Row} (hr:rd g id=some r):rd h id=some r:=by
 rw [h1.2.2 id (C4 hr)];exact hr
theorem push {g h:A6} {id n sz:Nat} {cs ys:List Cell} (hlow:Low g.length g h) (hr:rd h id=some ⟨cs,true⟩) (hl:cs.length=n*sz) (hb:g.length<=id) (hy:ys.length=sz) (hsz:0<sz) (hn:n+1<=1073741824) :
  ∃ h',iY (h++[some ⟨ys,true⟩]) sz (.c (.sl id 0 n sz)) (.c (.sl h.length 0 1 sz))=some (.c (.sl (h.length+1) 0 (n+1) sz),h')/\rd h' (h.length+1)=some ⟨cs++ys,true⟩/\Low g.length g h'/\g.length<=h.length+1/\(cs++ys).length=(n+1)*sz:=by
 have V7:=C4 hr;have h1:rd (h++[some ⟨ys,true⟩]) id=some ⟨cs,true⟩:=B7 hr;have h2:O4 (h++[some ⟨ys,true⟩]) sz (.c (.sl h.length 0 1 sz))=some ys:=by
  have:=(Has.row (h:=h++[some ⟨ys,true⟩]) (id:=h.length) (sz:=sz) (n:=1) (cs:=ys) (rw:=true) (by simp) (by omega));simp [O4,fV,hy,E3Y (Nat.le_of_eq hy)]
 refine ⟨(h++[some (Row.mk ys true)]).set id none++[some (Row.mk (cs++ys) true)],?_,?_,((hlow.new _).set hb none).new _,by have:=hlow.2.1;omega,by simp [hl,hy,E4Q]⟩
 ·simp only [iY,h2,h1,E3X,hy,Nat.div_self hsz];rw [if_pos ⟨trivial,trivial,hl.symm,trivial,hn⟩];simp
 ·have:=S9 (h:=(h++[some (Row.mk ys true)]).set id none) (r:=Row.mk (cs++ys) true);rw [E4o] at this;simpa using this
def ldN (r:Option Row) (off n:Nat):Option Val:=r.bind λr=>if off+n<=r.cells.length/\(r.rw||noX ((r.cells.drop off).take n))=true then some (.a ((r.cells.drop off).take n)) else none
def ld1 (r:Option Row) (off:Nat):Option Val:=r.bind λr=>(r.cells[off]?).bind λc=>bif r.rw || !c.isX then some (.c c) else none
def stN (r:Option Row) (off n:Nat) (xs:List Cell):Option Row:=r.bind λr=>if r.rw=true/\xs.length=n/\off+n<=r.cells.length then some ⟨lay r.cells off xs,true⟩ else none
def st1 (r:Option Row) (off:Nat) (x:Cell):Option Row:=r.bind λr=>if r.rw=true/\off<r.cells.length then some ⟨r.cells.set off x,true⟩ else none
def slr (r:Option Row) (id off n sz:Nat):Option Val:=r.bind λr=>if off+n*sz<=r.cells.length/\(r.rw=true\/Option.any (λc=>!c.isX) r.cells[off]?=true) then some (.c (.sl id off n sz)) else none
section
variable {h:A6} {l:List (Option Row)} {k off n sz:Nat} {cs xs:List Cell} {x:Cell} {kd:IntKind}
theorem X8:C8 (h++l) n (.c (.p (h.length+k) off))=ldN (l[k]?).join off n:=by simp [C8,ldN]
theorem N2:C8 (h++l) n (.c (.p h.length off))=ldN (l[0]?).join off n:=by simp [C8,ldN]
theorem gO:B4 (h++l) (.c (.p (h.length+k) off))=ld1 (l[k]?).join off:=by simp [B4,ld1]
theorem S7:B4 (h++l) (.c (.p h.length off))=ld1 (l[0]?).join off:=by simp [B4,ld1]
theorem R4:E1 (h++l) n (.c (.p (h.length+k) off)) (.a xs)=mp (stN (l[k]?).join off n xs) λr=>h++l.set k (some r):=by
 simp only [E1,stN,M9];cases (l[k]?).join with
 | none=>rfl
 | some r=>simp only [E3X];split<;>simp [mp]
theorem J0:E1 (h++l) n (.c (.p h.length off)) (.a xs)=mp (stN (l[0]?).join off n xs) λr=>h++l.set 0 (some r):=R4 (k:=0)
theorem A5R:F9 (h++l) (.c (.p (h.length+k) off)) (.c x)=mp (st1 (l[k]?).join off x) λr=>h++l.set k (some r):=by
 simp only [F9,st1,M9];cases (l[k]?).join with
 | none=>rfl
 | some r=>simp only [E3X];split<;>simp [mp]
theorem A9h:F9 (h++l) (.c (.p h.length off)) (.c x)=mp (st1 (l[0]?).join off x) λr=>h++l.set 0 (some r):=A5R (k:=0)
theorem D4r:B8P (h++l) n sz (.c (.p (h.length+k) off)) none none=slr (l[k]?).join (h.length+k) off n sz:=by
 simp [B8P,slr,bound]
theorem D6N:B8P (h++l) n sz (.c (.p h.length off)) none none=slr (l[0]?).join h.length off n sz:=D4r (k:=0)
theorem fP (hl:cs.length=n):ldN (some ⟨cs,true⟩) 0 n=some (.a cs):=by
 subst hl;simp [ldN]
theorem A6a:ld1 (some ⟨cs,true⟩) off=(cs[off]?).map .c:=by
 simp only [ld1,E3X,Bool.true_or,cond_true];cases cs[off]?<;>rfl
theorem iX (hl:cs.length=n) (hx:xs.length=n):stN (some ⟨cs,true⟩) 0 n xs=some ⟨xs,true⟩:=by
 simp only [stN,E3X];rw [if_pos ⟨trivial,hx,by omega⟩,lay_all (by omega)]
theorem D5a (ho:off<cs.length):st1 (some ⟨cs,true⟩) off x=some ⟨cs.set off x,true⟩:=by
 simp only [st1,E3X];rw [if_pos ⟨trivial,ho⟩]
theorem D9M (hl:cs.length=n) {id:Nat}:slr (some ⟨cs,true⟩) id 0 n 1=some (.c (.sl id 0 n 1)):=by
 simp only [slr,E3X];rw [if_pos ⟨by show 0+n*1<=cs.length;omega,.inl trivial⟩]
end
section
variable {k:IntKind} {a b:Int}
theorem B5X {k':IntKind} (hb:0<=b):N9 .shl (.c (.i k a)) (.c (.i k' b))=some (.c (.i k (k.wrap (a*2 ^ (E4W b.toNat k.bits))))):=by
 simp only [N9,E03];rw [if_neg (by omega)];rfl
theorem C4v {k':IntKind} (hb:0<=b):N9 .shr (.c (.i k a)) (.c (.i k' b))=some (.c (.i k (a/(2 ^ (E4W b.toNat k.bits))))):=by
 simp only [N9,E04];rw [if_neg (by omega),Int.fdiv_eq_ediv_of_nonneg _ (Int.pow_nonneg (by omega))];rfl
end
theorem E1h {a b:Nat} (ha:a<18446744073709551616) (hb:b<18446744073709551616):N9 .or (.c (.i .u64 a)) (.c (.i .u64 b))=some (.c (.i .u64 ((a ||| b:Nat):Int))):=by
 rw [C91]
 congr 3
 have h1:(IntKind.u64).bits=64:=rfl;have h2:(a ||| b)<2 ^ 64:=Nat.or_lt_two_pow (by simpa using ha) (by simpa using hb);rw [h1];simp only [BitVec.ofInt_natCast,BitVec.toNat_or,BitVec.toNat_ofNat];rw [E4E (by simpa using ha),E4E (by simpa using hb)];exact wrap_u64 (by omega) (by omega)
theorem E1g {a b:Nat} (ha:a<9223372036854775808) (hb:b<9223372036854775808):N9 .or (.c (.i .i64 a)) (.c (.i .i64 b))=some (.c (.i .i64 ((a ||| b:Nat):Int))):=by
 rw [C91]
 congr 3
 have h1:(IntKind.i64).bits=64:=rfl;have h2:(a ||| b)<2 ^ 63:=Nat.or_lt_two_pow (by simpa using ha) (by simpa using hb);rw [h1];simp only [BitVec.ofInt_natCast,BitVec.toNat_or,BitVec.toNat_ofNat];rw [E4E (by omega),E4E (by omega)];exact wrap_i64 (by omega) (by omega)
theorem D9W {a b:Nat} (ha:a<4294967296) (hb:b<4294967296):N9 .xor (.c (.i .u32 a)) (.c (.i .u32 b))=some (.c (.i .u32 ((a ^^^ b:Nat):Int))):=by
 rw [D1f]
 congr 3
 have h1:(IntKind.u32).bits=32:=rfl;have h2:(a ^^^ b)<2 ^ 32:=Nat.xor_lt_two_pow (by simpa using ha) (by simpa using hb);rw [h1];simp only [BitVec.ofInt_natCast,BitVec.toNat_xor,BitVec.toNat_ofNat];rw [E4E (by omega),E4E (by omega)];exact wrap_u32 (by omega) (by omega)
theorem D8I {a b:Nat} (ha:a<4294967296) (hb:b<4294967296):N9 .and (.c (.i .u32 a)) (.c (.i .u32 b))=some (.c (.i .u32 ((a &&& b:Nat):Int))):=by
 rw [D6y]
 congr 3
 have h1:(IntKind.u32).bits=32:=rfl;have h2:(a &&& b)<=a:=Nat.and_le_left;rw [h1];simp only [BitVec.ofInt_natCast,BitVec.toNat_and,BitVec.toNat_ofNat];rw [E4E (by omega),E4E (by omega)];exact wrap_u32 (by omega) (by omega)
theorem wA {a:Int}:IntKind.wrap .u8 a=a%256:=by
 simp only [IntKind.wrap,IntKind.bits,IntKind.signed,E3W];rfl
theorem E1f {a b i:Nat} (ha:a<2 ^ i):(a ||| b*2 ^ i)=a+b*2 ^ i:=by
 rw [Nat.mul_comm b,Nat.or_comm,<-Nat.two_pow_add_eq_or_of_lt ha];omega
theorem A04 {a b:Nat} (h:a+b<9223372036854775808):IntKind.wrap .i64 ((a:Int)+b)=((a+b:Nat):Int):=by rw [wrap_i64 (by omega) (by omega)];omega
theorem C6 {a:Nat} (h:a+1<9223372036854775808):IntKind.wrap .i64 ((a:Int)+1)=((a+1:Nat):Int):=by rw [wrap_i64 (by omega) (by omega)];omega
theorem D2P {k:IntKind} {x:UInt8} {i:Nat} (hi:i<8) (hk:IntKind.wrap k ((x.toNat*256 ^ i:Nat):Int)=((x.toNat*256 ^ i:Nat):Int)) (hb:k.bits=64) :
  N9 .shl (.c (.i k x.toNat)) (.c (.i .u64 (8*(i:Int))))=some (.c (.i k ((x.toNat*256 ^ i:Nat):Int))):=by
 rw [B5X (by omega),hb];have:E4W (8*(i:Int)).toNat 64=8*i:=by
  have:(8*(i:Int)).toNat=8*i:=by omega
  rw [this];exact E4N (by omega)
 rw [this];have hp:(256:Nat) ^ i=2 ^ (8*i):=by rw [Nat.pow_mul]
 have e:(x.toNat:Int)*2 ^ (8*i)=((x.toNat*256 ^ i:Nat):Int):=by rw [hp];simp
 rw [e,hk]
theorem tM {i n:Nat} (h:i<=n):256 ^ i<=256 ^ n:=Nat.pow_le_pow_right (by omega) h
theorem C0p {x:UInt8} {i n:Nat} (h:i<n):x.toNat*256 ^ i<256 ^ n:=by
 have h1:=x.toNat_lt;have h2:x.toNat*256 ^ i<=255*256 ^ i:=Nat.mul_le_mul_right _ (by omega);have h3:256 ^ (i+1)<=256 ^ n:=tM h;have h4:0<256 ^ i:=Nat.pow_pos (by omega);rw [Nat.pow_succ] at h3;omega
def byI (v:Int) (i:Nat):UInt8:=UInt8.ofNat ((v/256 ^ i)%256).toNat
theorem yK (v:Int) (i:Nat):((byI v i).toNat:Int)=v/256 ^ i%256:=by
 have h1:0<=v/256 ^ i%256:=Int.emod_nonneg _ (by omega);have h2:v/256 ^ i%256<256:=Int.emod_lt_of_pos _ (by omega);unfold byI;rw [UInt8.toNat_ofNat'];omega
def A9 (w:Nat) (v:Int):List UInt8:=(E4m w).map (byI v)
@[simp] theorem O6 {w:Nat} {v:Int}:(A9 w v).length=w:=by simp [A9]
theorem A1T {w:Nat} {v:Int}:A9 (w+1) v=A9 w v++[byI v w]:=by simp [A9,List.range_succ]
def le:List UInt8->Nat
 | []=>0
 | x::r=>x.toNat+256*le r
theorem C0V:∀ l:List UInt8,le l<256 ^ l.length
 | []=>by simp [le]
 | x::r=>by
  have h1:=C0V r;have h2:=x.toNat_lt;simp only [le,E3Z,Nat.pow_succ];omega
theorem D5N (l m:List UInt8):le (l++m)=le l+256 ^ l.length*le m:=by
 induction l with
 | nil=>simp [le]
 | cons x r ih =>
  simp only [E4l,le,ih,E3Z,Nat.pow_succ,Nat.mul_add];rw [Nat.mul_comm (256 ^ r.length) 256,Nat.mul_assoc];omega
theorem D4K (l:List UInt8) (x:UInt8):le (l++[x])=le l+x.toNat*256 ^ l.length:=by
 rw [D5N];simp [le,Nat.mul_comm]
theorem D4Q {l:List UInt8} {x:UInt8}:(le l ||| x.toNat*256 ^ l.length)=le (l++[x]):=by
 have hp:(256:Nat) ^ l.length=2 ^ (8*l.length):=by rw [Nat.pow_mul]
 rw [D4K,hp,E1f (by rw [<-hp];exact C0V l)]
theorem C8F {v:Int} {i:Nat} (hi:i<8):IntKind.wrap .u8 (v/2 ^ (E4W (8*(i:Int)).toNat 64))=((byI v i).toNat:Int):=by
 have:E4W (8*(i:Int)).toNat 64=8*i:=by
  have:(8*(i:Int)).toNat=8*i:=by omega
  rw [this];exact E4N (by omega)
 rw [this,wA,yK]
 congr 2
 rw [Int.pow_mul];rfl
theorem A3E {α:Type} {l:List α} {a i:Nat} (h:a+i<l.length):(l.drop a).take (i+1)=(l.drop a).take i++[l[a+i]]:=by
 have h2:i<(l.drop a).length:=by simp;omega
 rw [E36 h2];simp
theorem C83 (w:Nat) (v:Int):(le (A9 w v):Int)=v%256 ^ w:=by
 induction w with
 | zero=>simp [A9,le,Int.emod_one]
 | succ w ih =>
  rw [A1T,D4K];simp only [O6,Int.natCast_add,Int.natCast_mul,yK,ih];have h1:(((256:Nat) ^ w:Nat):Int)=(256:Int) ^ w:=by simp
  rw [h1];have hp:(0:Int)<256 ^ w:=Int.pow_pos (by omega);have h2:=Int.mul_ediv_add_emod v (256 ^ w);have h3:=Int.mul_ediv_add_emod (v/256 ^ w) 256;have h4:v%256 ^ w+v/256 ^ w%256*256 ^ w=v-(256 ^ (w+1))*(v/256 ^ w/256):=by
   rw [Int.pow_succ,Int.mul_assoc];have e:256 ^ w*(256*(v/256 ^ w/256))+v/256 ^ w%256*256 ^ w=256 ^ w*(v/256 ^ w):=by
    rw [Int.mul_comm (v/256 ^ w%256),<-Int.mul_add,h3]
   omega
  have h5:v/256 ^ w/256=v/256 ^ (w+1):=by rw [Int.ediv_ediv_of_nonneg (Int.le_of_lt hp),Int.pow_succ]
  rw [h4,h5];have:=Int.mul_ediv_add_emod v (256 ^ (w+1));omega
def I6 (l:List UInt8) (a:Nat) (xs:List UInt8):List UInt8:=l.take a++(xs++l.drop (a+xs.length))
theorem O8 {l xs:List UInt8} {a:Nat} (h:a+xs.length<=l.length):(I6 l a xs).length=l.length:=by
 simp [I6];omega
theorem B6E {l:List UInt8} {a:Nat}:I6 l a []=l:=by simp [I6]
theorem B0R {l xs:List UInt8} {a:Nat} {x:UInt8} (h:a+xs.length<l.length):(I6 l a xs).set (a+xs.length) x=I6 l a (xs++[x]):=by
 unfold I6;have h1:(l.take a).length=a:=by simp;omega
 rw [E4p _ _ (by rw [h1];omega),h1,Nat.add_sub_cancel_left,E4p _ _ (E3T _),E4y,E3U]
 congr 2
 rw [E3V (by omega)];simp [Nat.add_assoc]
theorem D7A {l xs:List UInt8} {a j:Nat} (h:a+xs.length<=l.length):(I6 l a xs)[j]?=if a<=j/\j<a+xs.length then xs[j-a]? else l[j]? := by
 unfold I6;have h1:(l.take a).length=a:=by simp;omega
 by_cases h2:j<a
 ·rw [E4r (by omega),if_neg (by omega),E4n h2]
 ·rw [E35 (by omega),h1];by_cases h3:j<a+xs.length
  ·rw [if_pos ⟨by omega,h3⟩,E4r (by omega)]
  ·rw [if_neg (by omega),E35 (by omega),E4G]
   congr 1;omega
theorem D7z {l xs:List UInt8} {a:Nat} (h:a+xs.length<=l.length):((I6 l a xs).drop a).take xs.length=xs:=by
 unfold I6;have h1:(l.take a).length=a:=by simp;omega
 rw [List.drop_left' h1,List.take_left' rfl]
theorem iW {s:List UInt8} {i:Nat} (hi:i<s.length) {k:IntKind}:C4A (.c (.s s)) (.c (.i k i))=some (.c (.i .u8 s[i].toNat)):=by
 rw [D8G,E3P hi];rfl
theorem C2r (l:List UInt8):(A5 l).map Cell.sh=(E3Q l.length (Sh.i .u8)).map some:=by
 induction l with
 | nil=>rfl
 | cons x l ih=>simp only [A5,E4R,E3Z,E4i] at ih ⊢;rw [ih];rfl
theorem C2s (l:List Int):(encI l).map Cell.sh=(E3Q l.length (Sh.i .i64)).map some:=by
 induction l with
 | nil=>rfl
 | cons x l ih=>simp only [encI,E4R,E3Z,E4i] at ih ⊢;rw [ih];rfl
theorem D4j {l m:List UInt8} {n:Nat} (hl:l.length=n) (hm:m.length=n):aeq true (E3Q n (.i .u8)) (.a (A5 l)) (.a (A5 m))=some (.c (.b (!decide (l=m)))):=by
 simp only [aeq];rw [if_pos ⟨by rw [C2r,hl],by rw [C2r,hm]⟩];simp [D1U]
theorem D9Y {l m:List UInt8} {n:Nat} (hl:l.length=n) (hm:m.length=n):aeq false (E3Q n (.i .u8)) (.a (A5 l)) (.a (A5 m))=some (.c (.b (decide (l=m)))):=by
 simp only [aeq];rw [if_pos ⟨by rw [C2r,hl],by rw [C2r,hm]⟩];simp [D1U]
theorem D6F {l m:List Int} {n:Nat} (hl:l.length=n) (hm:m.length=n):aeq true (E3Q n (.i .i64)) (.a (encI l)) (.a (encI m))=some (.c (.b (!decide (l=m)))):=by
 simp only [aeq];rw [if_pos ⟨by rw [C2s,hl],by rw [C2s,hm]⟩];simp [D1V]
theorem E0l {l m:List Int} {n:Nat} (hl:l.length=n) (hm:m.length=n):aeq false (E3Q n (.i .i64)) (.a (encI l)) (.a (encI m))=some (.c (.b (decide (l=m)))):=by
 simp only [aeq];rw [if_pos ⟨by rw [C2s,hl],by rw [C2s,hm]⟩];simp [D1V]
theorem E1r {h:A6} {l:List (Option Row)} {k n a b:Nat} {cs:List Cell} (hk:(l[k]?).join=some ⟨cs,true⟩) (hl:cs.length=n) (hab:a<=b) (hb:b<=n) :
  B8P (h++l) n 1 (.c (.p (h.length+k) 0)) (some (.c (.i .i64 (a:Int)))) (some (.c (.i .i64 (b:Int))))=some (.c (.sl (h.length+k) a (b-a) 1)):=by
 simp only [B8P,M9,hk,E3X,bound];rw [if_pos (by omega),if_pos (by omega)];simp only [E3X,E38];rw [if_pos ⟨hab,hb,by omega,rfl⟩];simp
theorem Has.part {h:A6} {id sz off n:Nat} {cs xs:List Cell} {rw:Bool} (hr:rd h id=some ⟨cs,rw⟩) (ho:off+n*sz<=cs.length) (he:(cs.drop off).take (n*sz)=xs) (hx:noX xs=true):Has h (.c (.sl id off n sz)) sz n xs :=
 .inr ⟨id,off,_,rfl,hr,by rw [<-he];simp;omega,ho,he,hx⟩
theorem E1t {id off n sz a b:Nat} (hab:a<=b) (hb:b<=n):D1u sz (.c (.sl id off n sz)) (some (.c (.i .i64 (a:Int)))) (some (.c (.i .i64 (b:Int))))=some (.c (.sl id (off+a*sz) (b-a) sz)):=by
 simp only [D1u,bound];rw [if_pos (by omega),if_pos (by omega)];simp only [E3X,E38];rw [if_pos ⟨hab,hb,trivial⟩]
def B2q:Option Row->Bool
 | some r=>r.own
 | none=>true
theorem C5S {cs:List Cell}:B2q (some ⟨cs,true⟩)=true:=rfl
theorem D5Y {es:V6}:B2q (some (S3 es))=true:=Row.own_mrow es
theorem C9i {g l l':A6} {v:Val} (hp:l <+: l') (hn:(l'.drop l.length).all B2q=true):quiet (g++l) (some (v,g++l'))=some (v,g++l'):=by
 obtain ⟨t,rfl⟩:=hp;rw [List.drop_left] at hn;refine U6 ⟨⟨t,by rw [E3U]⟩,λid x hid hx=>?_⟩;have hx:=rd_some.1 hx;rw [<-E3U,E35 hid] at hx;exact List.all_eq_true.1 hn _ (E4e hx)
theorem D1h {id o off:Nat}:pW (.c (.p id o)) off=some (.c (.p id (o+off))):=Eq.trans rfl rfl
theorem B2B {a b:Int} {k:IntKind} (ha:0<=a) (hb:0<b):N9 .rem (.c (.i k a)) (.c (.i k b))=some (.c (.i k (a%b))):=by
 rw [D1e (by omega),Int.tmod_eq_emod_of_nonneg ha]
theorem A6g {a b:Int} (ha:0<=a) (ha2:a<9223372036854775808) (hb:0<b):N9 .quo (.c (.i .i64 a)) (.c (.i .i64 b))=some (.c (.i .i64 (a/b))):=by
 have h1:0<=a/b:=Int.ediv_nonneg ha (by omega);have h2:a/b<=a:=Int.ediv_le_self _ ha;rw [D1d (by omega),Int.tdiv_eq_ediv_of_nonneg ha,wrap_i64 (by omega) (by omega)]
theorem jL {h:A6} {id jd n m sz:Nat} {cs ys:List Cell} {rw:Bool} (hr:rd h id=some ⟨cs,true⟩) (hl:cs.length=n*sz) (hy:rd h jd=some ⟨ys,rw⟩) (hyl:ys.length=m*sz) (hx:(rw||noX ys)=true) (hsz:0<sz) (hn:n+m<=1073741824) :
  iY h sz (.c (.sl id 0 n sz)) (.c (.sl jd 0 m sz))=some (.c (.sl h.length 0 (n+m) sz),h.set id none++[some ⟨cs++ys,true⟩]):=by
 have h2:O4 h sz (.c (.sl jd 0 m sz))=some ys:=by
  simp only [O4,if_true,fV,hy,E3X,E39,E4b];rw [<-hyl,List.take_length,if_pos ⟨E3T _,hx⟩]
 have hd:ys.length/sz=m:=by rw [hyl];exact Nat.mul_div_cancel m hsz
 simp only [iY,h2,hr,E3X,hd];rw [if_pos ⟨trivial,trivial,hl.symm,trivial,hn⟩]
theorem D4T {g h:A6} {id n m sz:Nat} {cs ys:List Cell} (hlow:Low g.length g h) (hr:rd h id=some ⟨cs,true⟩) (hl:cs.length=n*sz) (hb:g.length<=id) (hy:ys.length=m*sz) (hsz:0<sz) (hn:n+m<=1073741824) :
  ∃ h',iY (h++[some ⟨ys,true⟩]) sz (.c (.sl id 0 n sz)) (.c (.sl h.length 0 m sz))=some (.c (.sl (h.length+1) 0 (n+m) sz),h')/\rd h' (h.length+1)=some ⟨cs++ys,true⟩/\Low g.length g h'/\g.length<=h.length+1/\(cs++ys).length=(n+m)*sz:=by
 have V7:=C4 hr;refine ⟨(h++[some (Row.mk ys true)]).set id none++[some (Row.mk (cs++ys) true)],?_,?_,((hlow.new _).set hb none).new _,by have:=hlow.2.1;omega,by simp [hl,hy,E4Q]⟩
 ·rw [jL (h:=h++[some ⟨ys,true⟩]) (B7 hr) hl S9 hy rfl hsz hn];simp
 ·have:=S9 (h:=(h++[some (Row.mk ys true)]).set id none) (r:=Row.mk (cs++ys) true);rw [E4o] at this;simpa using this
theorem E2h {g h:A6} {id n m:Nat} {cs:List Cell} (hlow:Low g.length g h) (hr:rd h id=some ⟨cs,true⟩) (hl:cs.length=n) (hb:g.length<=id) (hn:n+m<=1073741824) :
  ∃ h',B5W h 1 [.i .u8 0] (.c (.sl id 0 n 1)) (.c (.i .i64 (m:Int)))=some (.c (.sl h.length 0 (n+m) 1),h')/\rd h' h.length=some ⟨cs++A5 (zeros m),true⟩/\Low g.length g h'/\g.length<=h.length:=by
 have V7:=C4 hr;have hm:A4y (.c (.i .i64 (m:Int)))=some m:=by simp only [A4y];rw [if_pos (by omega)];simp
 have hz:rows [Cell.i .u8 0] m=A5 (zeros m):=by
  unfold rows zeros
  clear hm hn
  induction m with
  | zero=>rfl
  | succ n ih=>rw [E4i,E4L,ih,E4i];rfl
 refine ⟨h.set id none++[some (Row.mk (cs++A5 (zeros m)) true)],?_,?_,(hlow.set hb none).new _,by have:=hlow.2.1;omega⟩
 ·simp only [B5W,hm,E3X,hr,hz];rw [if_pos ⟨trivial,trivial,by omega,trivial,hn⟩]
 ·have:=S9 (h:=h.set id none) (r:=Row.mk (cs++A5 (zeros m)) true);rw [E4o] at this;exact this
end Go.Esc
end
namespace Go.Esc
def esc:=And.intro @D1h (And.intro @List.append_nil.{0} (And.intro @if_true.{1} (And.intro @if_false.{1} (And.intro @Q4 (And.intro @D9j (And.intro @D4w (And.intro @C0z (And.intro @E1K (And.intro @E1M (And.intro @E1L (And.intro @E1J (And.intro @D92 (And.intro @D8H (And.intro @C96 (And.intro @D4l (And.intro @A0A (And.intro @D6D (And.intro @D6B (And.intro @vE (And.intro @D6C (And.intro @A0B (And.intro @D6A (And.intro @D6z (And.intro @C4u (And.intro @B8M (And.intro @D5g (And.intro @D5f (And.intro @D8R (And.intro @D8Q (And.intro @D6G (And.intro @D8E (And.intro @E0m (And.intro @D8F (And.intro @E0n (And.intro @D8J (And.intro @E0k (And.intro @E0j (And.intro @D8D (And.intro @D4q (And.intro @cond_true.{1} (And.intro @cond_false.{1} (And.intro @decide_true (And.intro @decide_false (And.intro @Bool.not_true (And.intro @Bool.not_false (And.intro @E0o (And.intro @D7R (And.intro @D7Q (And.intro @D9n (And.intro @D4S (And.intro @D6X (And.intro @C4O (And.intro @E1x (And.intro @E1y (And.intro @Option.map_some.{0,0} (And.intro @Option.some.injEq.{0} (And.intro @List.getElem?_cons_zero.{0} (And.intro @List.getElem?_cons_succ.{0} (And.intro @not_true_eq_false (And.intro @not_false_eq_true (And.intro @C6g (And.intro @O6 (And.intro @Option.join_some.{0} (And.intro @List.append_assoc.{0} (And.intro @List.cons_append.{0} (And.intro @List.nil_append.{0} (And.intro @List.length_append.{0} (And.intro @List.length_cons.{0} (And.intro @List.length_nil.{0} (And.intro @Nat.zero_add (And.intro @Nat.add_zero (And.intro @M9 (And.intro @F8 (And.intro @qQ (And.intro @cH (And.intro @List.set_cons_zero.{0} (And.intro @List.set_cons_succ.{0} (And.intro @ne_eq.{1} (And.intro @decide_not (And.intro @C9i (And.intro @C5S (And.intro @List.cons_prefix_cons.{0} (And.intro @List.nil_prefix.{0} (And.intro @List.drop_succ_cons.{0} (And.intro @List.drop_zero.{0} (And.intro @List.all_cons.{0} (And.intro @List.all_nil.{0} (And.intro @Bool.and_true (And.intro @true_and (@and_true))))))))))))))))))))))))))))))))))))))))))))))))))))))))))))))))))))))))))))))))))))))))))
def esh:=And.intro @X8 (And.intro @N2 (And.intro @gO (And.intro @S7 (And.intro @R4 (And.intro @J0 (And.intro @A5R (And.intro @A9h (And.intro @D4r (And.intro @D6N (And.intro @fP (And.intro @A6a (And.intro @iX (And.intro @D5a (@D9M))))))))))))))
end Go.Esc
namespace Go.Esc
@[match_pattern] abbrev iV (x:Int):Val:=.c (.i .i64 x)
@[match_pattern] abbrev pV (a b:Nat):Val:=.c (.p a b)
@[match_pattern] abbrev sV (a b c d:Nat):Val:=.c (.sl a b c d)
@[match_pattern] abbrev bV (x:Bool):Val:=.c (.b x)
@[match_pattern] abbrev rT (l:List Cell):Option Row:=some (Row.mk l true)
@[match_pattern] abbrev o0:Cell:=.i .i64 0
abbrev gS (g:Val) (w:Bool) (h:A6) (o:Option Val):Option (Val × A6):=gd g w (bnd o λa=>some (a,h)) (some (.no,h))
abbrev gV (g:Val) (w:Bool) (h:A6) (x:Val):Option (Val × A6):=gd g w (some (x,h)) (some (.no,h))
end Go.Esc
section
namespace Go.Proofs.YtbnkgnfhgbhblaaGreat
open Go Go.Esc
abbrev Dev:=List (List UInt8)
def D4 (D:Dev):List Cell:=(D.map A5).flatten
def okD (D:Dev):Prop:=∀ b∈D,b.length=256
theorem okD.cons {b:List UInt8} {D:Dev} (h:okD (b::D)):b.length=256/\okD D:=⟨h b (E4c ..),λx hx=>h x (E4a _ hx)⟩
theorem okD.at {D:Dev} (h:okD D) {i:Nat} (hi:i<D.length):D[i].length=256:=h _ (E4u hi)
theorem okD.take {D:Dev} (h:okD D) (i:Nat):okD (D.take i):=λb hb=>h b (List.mem_of_mem_take hb)
theorem aE {b:List UInt8} {D:Dev}:D4 (b::D)=A5 b++D4 D:=rfl
theorem C7u {D E:Dev}:D4 (D++E)=D4 D++D4 E:=by simp [D4]
theorem D3f {b:List UInt8}:D4 [b]=A5 b:=by simp [D4]
theorem I5:∀ {D:Dev},okD D->(D4 D).length=D.length*256
 | [],_=>rfl
 | b::D,h=>by
  rw [aE,E3S,A4,h.cons.1,I5 h.cons.2,E3Z];omega
theorem fS:∀ (D:Dev),noX (D4 D)=true
 | []=>rfl
 | b::D=>by
  rw [aE];have h1:=F6 b;have h2:=fS D;simp only [noX,List.all_append,E3R] at h1 h2 ⊢;exact ⟨h1,h2⟩
theorem fN:∀ {D:Dev},N3 (D4 D)=true
 | []=>rfl
 | b::D=>by rw [aE,yR,fN,D3q];rfl
theorem dR:∀ {D:Dev} {i:Nat} (h:okD D) (hi:i<D.length),((D4 D).drop (i*256)).take 256=A5 D[i]
 | b::D,0,h,hi=>by
  have hb:(A5 b).length=256:=by rw [A4,h.cons.1]
  rw [aE,Nat.zero_mul,E39,<-hb,List.take_left']
  ·rfl
  ·rfl
 | b::D,i+1,h,hi=>by
  have hb:(A5 b).length=256:=by rw [A4,h.cons.1]
  have e:(i+1)*256=256+i*256:=by omega
  rw [aE,e,<-E4S,<-hb,List.drop_left',hb]
  ·exact dR h.cons.2 (by simpa using hi)
  ·rfl
theorem D4J:∀ {D:Dev} {i:Nat} {b:List UInt8} (h:okD D) (hb:b.length=256) (hi:i<D.length),lay (D4 D) (i*256) (A5 b)=D4 (D.set i b)
 | c::D,0,b,h,hb,hi=>by
  have e:(A5 c).length=256+0:=by rw [A4,h.cons.1]
  unfold lay;rw [aE,E4A,aE,Nat.zero_mul,A4,hb,E4b,E4P,List.drop_left' (by rw [A4,h.cons.1])];rfl
 | c::D,i+1,b,h,hb,hi=>by
  have ih:=D4J (i:=i) h.cons.2 hb (by simpa using hi);have hc:(A5 c).length=256:=by rw [A4,h.cons.1]
  unfold lay at ih ⊢;rw [aE,E4B,aE,show (i+1)*256=256+i*256 by omega,List.take_append,List.drop_append,E3Y (by omega),E32 (by omega),hc,show 256+i*256-256=i*256 by omega,show 256+i*256+(A5 b).length-256=i*256+(A5 b).length by omega,<-ih];simp only [E3U,E37]
theorem D2K (n:Nat):rows (E3Q 256 (Cell.i .u8 0)) n=D4 (E3Q n (zeros 256)):=by
 rw [I3];unfold rows D4;rw [List.map_replicate]
theorem B9b (n:Nat):okD (E3Q n (zeros 256)):=λb hb=>by rw [List.eq_of_mem_replicate hb];exact zeros_length
theorem okD.set {D:Dev} (h:okD D) {i:Nat} {b:List UInt8} (hb:b.length=256):okD (D.set i b):=λx hx=>by
 rcases E4z hx with hx | rfl
 ·exact h x hx
 ·exact hb
theorem B02 {h:A6} {id i:Nat} {D:Dev} {b:List UInt8} (hr:rd h id=rT (D4 D)) (hD:okD D) (hb:b.length=256) (hi:i<D.length) :
  E1 h 256 (pV id (i*256)) (.a (A5 b))=some (h.set id (rT (D4 (D.set i b)))):=by
 rw [B01 hr (by rw [A4,hb]) (by rw [I5 hD];omega),D4J hD hb hi]
def blk (D:Dev) (i:Int):List UInt8:=if 0<=i then D.getD i.toNat (zeros 256) else zeros 256
theorem O0 {D:Dev} (h:okD D) {i:Int}:(blk D i).length=256:=by
 unfold blk;split
 ·rw [E30];rcases Nat.lt_or_ge i.toNat D.length with hl | hl
  ·rw [E3P hl];exact h.at hl
  ·rw [E4q hl];exact zeros_length
 ·exact zeros_length
theorem C4G {D:Dev} {i:Nat} (hi:i<D.length):blk D (i:Int)=D[i]:=by
 unfold blk;rw [if_pos (by omega),E38,E30,E3P hi];rfl
theorem D1B {D:Dev} {i:Int} (hi:i<0\/(D.length:Int)<=i):blk D i=zeros 256:=by
 unfold blk;split
 ·rw [E30,E4q (by omega)];rfl
 ·rfl
theorem E1e:∀ (n:Nat) (cells:List Cell),All2 okCell ((E3Q n (E3Q 256 (Sh.i .u8))).flatten) cells->∃ D:Dev,okD D/\cells=D4 D/\D.length=n:=by
 intro n
 induction n with
 | zero =>
  intro cells h;cases cells with
  | nil=>exact ⟨[],λ_ h=>by simp at h,rfl,rfl⟩
  | cons c cs=>simp [All2] at h
 | succ n ih =>
  intro cells h;rw [E4i,E4L] at h;have h1:=All2.take 256 h;have h2:=All2.drop 256 h;rw [List.take_left' E4g] at h1;rw [List.drop_left' E4g] at h2;obtain ⟨b,e1,hb⟩:=D2s h1;obtain ⟨D,hD,e2,hl⟩:=ih _ h2;refine ⟨b::D,?_,by rw [aE,<-e1,<-e2,List.take_append_drop],by rw [E3Z,hl]⟩;intro x hx;rcases List.mem_cons.1 hx with rfl | hx
  ·exact hb
  ·exact hD x hx
end Go.Proofs.YtbnkgnfhgbhblaaGreat
end
namespace Go.Esc
open Go
section
def D8B (P:Program) (f:FuncId) (args:List Val) (h:A6) (h':A6):Prop :=
 ∀ (Γ:Ctx) (μ:Mu) (w:World) (V:List Value) (u:FrameMode),Inv Γ μ h w->All2 (RV μ) args V ->
  CallsD P f V.toArray u w λe u' w'=>u'=u/\∃ V' μ',e=.returned V' /\ μ.le μ'/\Inv Γ μ' h' w'/\∀ id,id<h.length -> μ' id = μ id
def D6x (P:Program) (f:FuncId) (S:Fun):Prop:=∀ args h v h2,S args h=some (v,h2)->jA P f/\D8B P f args h h2/\h.length<=h2.length
theorem D4M {P:Program} {E:N1} (hE:eV P E) {f:FuncId} {fn:Func} {af:AFn} (hf:P.funcs[f]?=some fn) (hc:C4V P fn af=true):D6x P f (Lim af E):=by
 intro args h v h2 he;obtain ⟨n,hn⟩:=D4g he;obtain ⟨h1,h3,c,hb,hw⟩:=D91 hE hf hc hn;exact ⟨h1,fun Γ μ w V u hi hargs=>(callsD_of_wp hf hb (hw Γ μ w V hi hargs)).mono λe u' w' ⟨hu,V',μ',he,h4,_,h5,h6⟩=>⟨hu,V',μ',he,h4,h5,h6⟩,h3⟩
structure DFn where
 pre:List (List Nat × ACode)
 keep:List Nat
 tm:Nat
 fn:Nat
 caps:List Opd
 body:ACode
 res:List ARes
def B54 (G:Fun) (c:Val) (h:A6):Option (Val × A6):=match c with
 | .c (.f _ caps)=>G (C2p caps) h
 | _=>none
def DFn.fin (f:DFn) (G:Fun) (c:Val):B04 (Val × A6):=λx e h =>
 match x with
 | .exit _=>none
 | _=>(B54 G c h).bind λp=>lC f.res e p.2
def DFn.out (f:DFn) (k:Env->A6->Option (Val × A6)):B04 (Val × A6):=λx e h =>
 match x with
 | .normal=>k e h
 | .ret=>lC f.res e h
 | .exit _=>none
noncomputable def DFn.go (f:DFn) (E:N1) (G:Fun) (n:Nat) (l:List (List Nat × ACode)):Env->A6->Option (Val × A6) :=
 List.rec (motive:=λ_=>Env->A6->Option (Val × A6))
  (λe h=>(B3V f.fn (f.caps.map e.ev)).bind λc=>ax E n f.body (f.fin G c) ((e.put (some f.tm) c).keep f.keep) h)
  (λq _ ih e h=>ax E n q.2 (f.out λe h=>ih (e.keep q.1) h) e h) l
theorem DFn.go_nil (f:DFn) (E:N1) (G:Fun) (n:Nat) (e:Env) (h:A6):f.go E G n [] e h=(B3V f.fn (f.caps.map e.ev)).bind λc=>ax E n f.body (f.fin G c) ((e.put (some f.tm) c).keep f.keep) h:=rfl
theorem DFn.go_cons (f:DFn) (E:N1) (G:Fun) (n:Nat) (q:List Nat × ACode) (l:List (List Nat × ACode)) (e:Env) (h:A6):f.go E G n (q::l) e h=ax E n q.2 (f.out λe h=>f.go E G n l (e.keep q.1) h) e h:=rfl
noncomputable def DFn.run (f:DFn) (E:N1) (G:Fun) (n:Nat) (args:List Val) (h:A6):Option (Val × A6):=f.go E G n f.pre (params 0 args) h
def D1F (P:Program) (N:Nat) (f:DFn):Code->Bool
 | .region _ ops false=>(match ops.toList with
  | [o1,o2]=>Z7 P N ops o1 (aO f.tm (.mkf f.fn f.caps))&&decide (o2.dst=none)&&decide (o2.guard=none)&&(match o2.op with
   | .defer c=>(match c.callee with | .value (.tmp t)=>decide (t=f.tm)&&c.args.isEmpty | _=>false)
   | _=>false)
  | _=>false)
 | _=>false
def A9o (P:Program) (N:Nat) (f:DFn):List (List Nat × ACode)->Code->Bool
 | [],c=>(match c with | .seq d y=>D1F P N f d&&Y0 P N y f.body | _=>false)
 | q::l,c=>(match c with | .seq x y=>Y0 P N x q.2&&A9o P N f l y | _=>false)
def D6Y (P:Program) (fn:Func) (f:DFn):Bool :=
 (match fn.body with | some c => A9o P fn.ntmps f f.pre c | none => false) && aU P fn.results.toList f.res && !(fn.name == "runtime.NumGoroutine")
section
variable {P:Program}
theorem B50 {rs:List ARes} {e:Env} {h h':A6} {v:Val} (hk:lC rs e h=some (v,h')):h'=h:=by
 unfold lC at hk;split at hk<;>simp at hk<;>obtain ⟨_,_,_,rfl⟩:=hk<;>rfl
theorem D1P {E:N1} (hE:eV P E) {G:Fun} {f:DFn} (hG:D6x P f.fn G) {fn:Func} (hr:aU P fn.results.toList f.res=true) {L:Nat} (n:Nat) {v:Val} {h':A6}:∀ (l:List (List Nat × ACode)) (c:Code) (e:Env) (h:A6),
  A9o P fn.ntmps f l c=true->f.go E G n l e h=some (v,h')->L<=h.length ->
  L<=h'.length/\∀ (Γ:Ctx) (μ:Mu) (a:Act) (w:World),Γ.ds=[]->SEnv μ e a->Inv Γ μ h w->fn.ntmps<=a.tmps.size->a.defers=[]->∀ R:Ending->World->Prop,
   (∀ V' μ' w',μ.le μ'->RV μ' v V'->Inv Γ μ' h' w'->(∀ id,id<L -> μ' id = μ id)->R (.returned V') w')->c.wp P (bodyPostD P fn R) a w
 | [],c,e,h,hc,C9,hL=>by
  unfold A9o at hc;split at hc
  ·rename_i d y;rw [E3R] at hc;obtain ⟨hd,hy⟩:=hc;rw [DFn.go_nil] at C9;simp only [E3O] at C9;obtain ⟨cv,hcv,C9⟩:=C9;have E0H:=hcv;unfold B3V at E0H;rw [E34] at E0H;obtain ⟨caps,E3u,rfl⟩:=E0H;rw [B52] at C9;obtain ⟨x,e2,h2,hk,hL2,uP⟩:=D26 (L:=L) hE n f.body y _ _ h (v,h') hy C9 hL;have E2U:(x=.normal\/x=.ret)/\∃ p:Val × A6,G (C2p caps) h2=some p/\lC f.res e2 p.2=some (v,h'):=by
    unfold DFn.fin at hk;cases x with
    | normal=>exact ⟨.inl rfl,by simpa only [E3O,B54] using hk⟩
    | ret=>exact ⟨.inr rfl,by simpa only [E3O,B54] using hk⟩
    | exit=>cases hk
   obtain ⟨hx,⟨pv,ph⟩,hG1,D96⟩:=E2U;obtain ⟨D7n,hdc,hlen⟩:=hG _ _ _ _ hG1;have hh':=B50 D96;dsimp only at hh';subst hh';refine ⟨E4t hL2 hlen,fun Γ μ a w hds hs hi hN had R hR=>?_⟩;unfold D1F at hd;split at hd
   ·rename_i rid ops;split at hd
    ·rename_i o1 o2 E0P;simp only [E3R,decide_eq_true_eq] at hd;obtain ⟨⟨⟨hd1,hd2⟩,hd3⟩,hd4⟩:=hd;split at hd4
     ·rename_i cl hop;split at hd4
      ·rename_i t D3t;simp only [E3R,decide_eq_true_eq] at hd4;obtain ⟨rfl,hargs⟩:=hd4;refine wp_seq (wp_region ?_);have hsz:ops.size=2:=by rw [<-Array.length_toList,E0P];rfl
       have g0:ops[0]?=some o1:=by rw [<-Array.getElem?_toList,E0P];rfl
       have g1:ops[1]?=some o2:=by rw [<-Array.getElem?_toList,E0P];rfl
       rw [hsz];show wpOps P ops _ [0,1] a w;rw [wpOps_cons];unfold wpOp;rw [g0];have yU:o1.dst=some f.tm/\wQ fn.ntmps o1.dst=true:=by
        simp only [Z7,aO,E3R,decide_eq_true_eq] at hd1;exact ⟨of_decide_eq_true hd1.1.1.1,hd1.1.1.2⟩
       have htm:f.tm<fn.ntmps:=by
        have:=yU.2;rw [yU.1] at this;simpa [wQ] using this
       have B6q:W3 E false h 0 (aO f.tm (.mkf f.fn f.caps)) e h (λv h=>some (v,h))=some (.c (.f f.fn caps),h):=by
        unfold W3 aO;simp only [aop,hcv,E3X]
       refine A30 (hr:=h) (n0:=0) hE hd1 B6q hs hi (λ_ _ h=>h) trivial ?_;intro V w1 μ1 bJ hv hi1 bG;rw [wpOps_cons];unfold wpOp;rw [g1];have hv0:RC μ1 (.f f.fn caps) V:=hv;have hv2:=hv;obtain ⟨cs,rfl,hcs⟩:=hv2;obtain ⟨a1,ha1⟩:∃ a1,a1=a.put o1.dst (.func (.func f.fn) #[] cs.toArray):=⟨_,rfl⟩;have hs1:SEnv μ1 (e.put (some f.tm) (.c (.f f.fn caps))) a1:=by
        rw [ha1,yU.1];exact (hs.mono bJ).put (λt ht=>by cases ht;omega) hv
       have qV:a1.eval (.tmp f.tm)=.func (.func f.fn) #[] cs.toArray:=by
        have:=hs1 f.tm;rw [Env.get_put_same] at this;obtain ⟨cs',h1,h2⟩:=this;show a1.tmps.getD f.tm undef=_;rw [ha1,yU.1];show (a.put (some f.tm) _).tmps.getD f.tm undef=_;simp only [Act.put];rw [Array.getD_eq_getD_getElem?];simp [show f.tm<a.tmps.size by omega]
       rw [<-ha1];obtain ⟨dd,hdd⟩:∃ dd:Deferred,dd={ target:=.fn (.func f.fn) cs.toArray,args:=#[] }:=⟨_,rfl⟩;have A7u:(execOp a1.eval o2).run P w1=.ok (.defer dd) w1:=by
        have ea:cl.args = #[]:=by simpa using hargs
        rw [hdd];simp [execOp,hop,resolve,D3t,qV,Deferred.ofValue,ea]
       have hw:Region.wanted o2 (yielded ops a1.tmps)=true:=by simp [Region.wanted,hd3]
       simp only [hw,if_true]
       left
       unfold Oper.wp;rw [A7u,Oper.upon_defer];have E0S:∀ b:Act,b.put o2.dst undef=b:=λb=>by rw [hd2];rfl
       rw [E0S];have E1R:a1.defers=[]:=by rw [ha1,put_defers];exact had
       show y.wp P (bodyPostD P fn R) { a1 with defers:=dd::a1.defers } w1;rw [E1R];refine uP { Γ with ds:=[dd] } μ1 { a1 with defers:=[dd] } w1 (SEnv.keep (λt=>hs1 t) f.keep) (hi1.ds [dd]) (by show fn.ntmps<=a1.tmps.size;rw [ha1,Act.size_put];exact hN) rfl _ ?_;intro μ' a' w' k1 k2 k3 k4 k5 k6;have fin:Leaves P fn a'.tmps R a'.defers .returning w':=by
        rw [k6];show Leaves P fn a'.tmps R [dd] .returning w';rw [hdd];have hv3:RC μ' (.f f.fn caps) (.func (.func f.fn) #[] cs.toArray):=RC.mono k1 hv0;obtain ⟨cs2,e3,E2S⟩:=hv3;have:cs2=cs:=by
         injection e3 with _ _ e4
         have:=congrArg Array.toList e4;simpa using this.symm
        subst this;refine leaves_cons (by simp) (f:=f.fn) (args:=cs2.toArray) (by
         show (callFunc f.fn (#[]++cs2.toArray)).run P w'=_;rw [Array.empty_append];exact B55 D7n _ _) ?_
        refine (hdc Γ μ' w' cs2 .returning (k4.ds Γ.ds) (B31 E2S)).mono ?_;rintro en u' w2 ⟨rfl,V',μ2,rfl,m1,m2,m3⟩;show Leaves P fn a'.tmps R [] .returning w2;obtain ⟨V2,q1,q2,_⟩:=B3X (a:=a') (w:=w2) (λt=>(k3.mono m1) t) m2 hr D96;refine ⟨V2,q1,hR V2 μ2 w2 (Mu.le_trans bJ (Mu.le_trans k1 m1)) q2 m2 λid hid=>?_⟩;rw [m3 id (by omega),k2 id hid];exact bG id (by omega) (λj hj=>by cases hj)
       rcases hx with rfl | rfl
       ·exact fin
       ·exact fin
      ·cases hd4
     ·cases hd4
    ·cases hd
   ·cases hd
  ·cases hc
 | q::l,c,e,h,hc,C9,hL=>by
  unfold A9o at hc;split at hc
  ·rename_i x y;rw [E3R] at hc;rw [DFn.go_cons,B52] at C9;obtain ⟨x1,e1,h1,hk,hL1,uP⟩:=D26 (L:=L) hE n q.2 x _ e h (v,h') hc.1 C9 hL;cases x1 with
   | normal =>
    obtain ⟨g1,g2⟩:=D1P hE hG hr n l y (e1.keep q.1) h1 hc.2 hk hL1;refine ⟨g1,fun Γ μ a w hds hs hi hN had R hR=>wp_seq (uP Γ μ a w hs hi hN (by rw [hds];exact had) _ ?_)⟩;intro μ1 a1 w1 f1 f2 f3 f4 f5 f6;exact g2 Γ μ1 a1 w1 hds (f3.keep q.1) f4 f5 (by rw [f6,hds]) R λV' μ' w' k2 k3 k4 k5=>hR V' μ' w' (Mu.le_trans f1 k2) k3 k4 λid hid=>(k5 id hid).trans (f2 id hid)
   | ret =>
    have hk':lC f.res e1 h1=some (v,h'):=hk;have hh':=B50 hk';subst hh';refine ⟨hL1,fun Γ μ a w hds hs hi hN had R hR=>wp_seq (uP Γ μ a w hs hi hN (by rw [hds];exact had) _ ?_)⟩;intro μ1 a1 w1 f1 f2 f3 f4 f5 f6;obtain ⟨V',k1,k2,_⟩:=B3X f3 f4 hr hk';show Leaves P fn a1.tmps _ a1.defers .returning w1;rw [f6,hds];exact ⟨V',k1,hR V' μ1 w1 f1 k2 f4 f2⟩
   | exit id=>exact (by cases hk)
  ·cases hc
theorem D65 {E:N1} (hE:eV P E) {G:Fun} {f:DFn} (hG:D6x P f.fn G) {g:FuncId} {fn:Func} (hf:P.funcs[g]?=some fn) (hc:D6Y P fn f=true) {n:Nat}:SOk P g (f.run E G n):=by
 intro args h v h' C9;simp only [D6Y,E3R,E4D] at hc;obtain ⟨⟨hb,hr⟩,D16⟩:=hc;cases C0Q:fn.body with
 | none=>rw [C0Q] at hb;cases hb
 | some c =>
  rw [C0Q] at hb;obtain ⟨h1,h2⟩:=D1P hE hG hr (L:=h.length) n f.pre c (params 0 args) h hb C9 (E3T _);refine ⟨⟨fn,hf,D16,by simp [C0Q]⟩,fun Γ μ w V hi hargs=>?_,h1⟩;refine calls_of_wp_defers hf C0Q (h2 { Γ with ds:=[] } μ _ w rfl (D1t hargs _) (hi.ds []) (by simp;omega) rfl _ ?_);intro V' μ' w' k1 k2 k3 k4;exact ⟨V',μ',rfl,k1,k2,k3.ds Γ.ds,k4⟩
end
end
end Go.Esc
namespace Go.Esc
open Go
set_option maxRecDepth 100000
section
inductive PP where
 | o (x:AOper)
 | call (d:Option Nat) (g:Option (Nat × Bool)) (k:Nat) (args:List Opd)
inductive PC where
 | skip
 | ret
 | exit (id:Nat)
 | ops (l:List PP)
 | draw (n:Nat) (l r:List PP)
 | drawS (n:Nat) (l:List PP) (s:PP) (chk:List (Nat × AOp)) (r:List PP)
 | seq (keep:List Nat) (a b:PC)
 | jn (j:Nat) (keep:List Nat) (a b:PC)
 | cond (c:Opd) (a b:PC)
 | block (id:Nat) (a:PC)
 | loop (j:Nat) (keep:List Nat) (a:PC)
def erp (F:Nat->Nat):PP->AOper
 | .o x=>x
 | .call d g k args=>⟨d,.call (F k) args,g,none⟩
noncomputable def ers (F:Nat->Nat) (l:List PP):List AOper:=List.rec [] (λx _ r=>erp F x::r) l
noncomputable def er (F:Nat->Nat) (p:PC):ACode :=
 PC.rec (motive:=λ_=>ACode) .skip .ret (λi=>.exit i) (λl=>.ops (ers F l)) (λn l r=>.draw n (ers F l) (ers F r)) (λn l s k r=>.drawS n (ers F l) (erp F s) k (ers F r)) (λk _ _ a b=>.seq k a b) (λ_ k _ _ a b=>.seq k a b) (λc _ _ a b=>.cond c a b) (λi _ a=>.block i a) (λ_ k _ a=>.loop k a) p
def nx:Nat->Nat->Nat × Nat
 | 0,s=>(0,s)
 | f+1,s=>bif Nat.blt (s%16) 8 then (s%16,s/16) else match nx f (s/16) with | (a,r)=>(s%16-8+8*a,r)
abbrev Dst:=Nat × Nat
def rdn (s:Dst):Nat × Dst:=match nx 9 s.2 with | (a,r)=>(a,(s.1,r))
def E0b {α:Type} (g:Dst -> α × Dst):Nat->Dst->List α × Dst
 | 0,s=>([],s)
 | k+1,s=>match g s with | (a,s)=>match E0b g k s with | (l,s)=>(a::l,s)
def xP {α:Type} (g:Dst -> α × Dst) (s:Dst):List α × Dst:=match rdn s with | (k,s)=>E0b g k s
def E2D:Nat->BinOp
 | 0=>.add
 | 1=>.lss
 | 2=>.eql
 | 3=>.neq
 | 4=>.geq
 | 5=>.gtr
 | 6=>.mul
 | 7=>.sub
 | 8=>.rem
 | 9=>.leq
 | 10=>.quo
 | 11=>.shl
 | 12=>.shr
 | 13=>.or
 | 14=>.and
 | 15=>.xor
 | _=>.andNot
section
variable (V I:Nat->Val) (O:Nat->AOp) (Z:Nat->List Cell)
def dX (s:Dst):Opd × Dst:=match rdn s with
 | (v,s)=>(match v%4 with | 0=>.t (v/4) | 1=>.v (I (v/4)) | 2=>.t (s.1-v/4) | _=>.v (V (v/4)),s)
def E0c (s:Dst):(Nat × Nat × Opd) × Dst:=match rdn s with | (a,s)=>match rdn s with | (b,s)=>match dX V I s with | (x,s)=>((a,b,x),s)
def E2j:Nat->Dst->AOp × Dst
 | 0,s=>match dX V I s with | (x,s)=>(.mv x,s)
 | 1,s=>match dX V I s with | (x,s)=>(.load1 x,s)
 | 2,s=>match rdn s with | (n,s)=>match dX V I s with | (x,s)=>(.loadN n x,s)
 | 3,s=>match dX V I s with | (x,s)=>match rdn s with | (n,s)=>(.fAddr x n,s)
 | 4,s=>match dX V I s with | (x,s)=>match rdn s with | (n,s)=>(.ext x n,s)
 | 5,s=>match rdn s with | (n,s)=>match dX V I s with | (x,s)=>match dX V I s with | (y,s)=>(.bin (E2D n) x y,s)
 | 6,s=>match rdn s with | (n,s)=>match dX V I s with | (x,s)=>match dX V I s with | (y,s)=>(.iAddrL n x y,s)
 | 8,s=>match dX V I s with | (x,s)=>(.len x,s)
 | 9,s=>match rdn s with | (n,s)=>match dX V I s with | (x,s)=>match dX V I s with | (y,s)=>(.storeN n x y,s)
 | 10,s=>match dX V I s with | (x,s)=>match dX V I s with | (y,s)=>(.store1 x y,s)
 | 11,s=>match rdn s with | (n,s)=>match rdn s with | (k,s)=>match dX V I s with | (x,s)=>match dX V I s with | (y,s)=>(.iAddrA n k x y,s)
 | 12,s=>match dX V I s with | (c,s)=>match dX V I s with | (x,s)=>match dX V I s with | (y,s)=>(.pick c x y,s)
 | 13,s=>match dX V I s with | (x,s)=>(.un .not x,s)
 | 14,s=>match rdn s with | (z,s)=>(.alloc (Z z),s)
 | 15,s=>match dX V I s with | (x,s)=>(.box x,s)
 | 16,s=>match dX V I s with | (x,s)=>(.lenS x,s)
 | 17,s=>match dX V I s with | (x,s)=>(.nilc x,s)
 | 18,s=>match rdn s with | (n,s)=>(.nilrow n,s)
 | 19,s=>match rdn s with | (n,s)=>match dX V I s with | (x,s)=>match dX V I s with | (y,s)=>(.app n x y,s)
 | 20,s=>match rdn s with | (z,s)=>match xP (E0c V I) s with | (l,s)=>(.build (Z z) l,s)
 | 21,s=>match rdn s with | (a,s)=>match rdn s with | (b,s)=>match rdn s with | (z,s)=>match xP (E0c V I) s with | (l,s)=>(.buildSl a b (Z z) l,s)
 | 22,s=>match rdn s with | (n,s)=>match dX V I s with | (x,s)=>match dX V I s with | (y,s)=>(.idxA1 n x y,s)
 | 23,s=>match dX V I s with | (x,s)=>(.mark x,s)
 | 24,s=>match dX V I s with | (x,s)=>(.conv .u64 x,s)
 | 25,s=>match dX V I s with | (x,s)=>(.conv .i64 x,s)
 | 26,s=>match dX V I s with | (x,s)=>(.conv .u8 x,s)
 | 27,s=>match dX V I s with | (x,s)=>match rdn s with | (n,s)=>(.fld1 x n,s)
 | 28,s=>match dX V I s with | (x,s)=>match rdn s with | (n,s)=>match rdn s with | (k,s)=>(.fldN x n k,s)
 | 29,s=>match rdn s with | (z,s)=>match rdn s with | (n,s)=>match dX V I s with | (x,s)=>match dX V I s with | (y,s)=>(.mkSl n (Z z) x y,s)
 | 30,s=>match rdn s with | (n,s)=>match xP (dX V I) s with | (l,s)=>(.mkf n l,s)
 | 31,s=>match dX V I s with | (f,s)=>match xP (dX V I) s with | (l,s)=>(.callV f l,s)
 | _,s=>match rdn s with | (n,s)=>(O n,s)
def rpp (s:Dst):PP × Dst:=match rdn s with
 | (h,s)=>match (match h%3 with | 0=>(some (s.1+1),(s.1+1,s.2)) | 1=>(match rdn s with | (d,s)=>(some d,(d,s.2))) | _=>((none:Option Nat),s)) with
  | (d,s)=>match (match h/3%2 with | 0=>((none:Option (Nat × Bool)),s) | _=>(match rdn s with | (g,s)=>(some (g/2,Nat.beq (g%2) 1),s))) with
   | (g,s)=>match (match h/6%2 with | 0=>((none:Option Nat),s) | _=>(match rdn s with | (l,s)=>(some l,s))) with
    | (l,s)=>match h/12 with
     | 7=>match rdn s with | (k,s)=>match xP (dX V I) s with | (a,s)=>(.call d g k a,s)
     | t=>match E2j V I O Z t s with | (o,s)=>(.o ⟨d,o,g,l⟩,s)
def E3n (s:Dst):(Nat × AOp) × Dst:=match rdn s with | (d,s)=>match rdn s with | (t,s)=>match E2j V I O Z t s with | (o,s)=>((d,o),s)
def B2y:Nat->Dst->PC × Dst
 | 0,s=>(.skip,s)
 | f+1,s=>match rdn s with
  | (0,s)=>(.skip,s)
  | (1,s)=>(.ret,s)
  | (2,s)=>match xP rdn s with | (k,s)=>match xP (rpp V I O Z) s with | (l,s)=>match B2y f s with | (b,s)=>(.seq k (.ops l) b,s)
  | (3,s)=>match xP rdn s with | (k,s)=>match B2y f s with | (a,s)=>match B2y f s with | (b,s)=>(.seq k a b,s)
  | (4,s)=>match dX V I s with | (c,s)=>match B2y f s with | (a,s)=>match B2y f s with | (b,s)=>(.cond c a b,s)
  | (5,s)=>match rdn s with | (k,s)=>match B2y f s with | (a,s)=>(.block k a,s)
  | (6,s)=>match rdn s with | (j,s)=>match xP rdn s with | (k,s)=>match B2y f s with | (a,s)=>(.loop j k a,s)
  | (7,s)=>match rdn s with | (k,s)=>(.exit k,s)
  | (8,s)=>match xP (rpp V I O Z) s with | (l,s)=>(.ops l,s)
  | (9,s)=>match rdn s with | (n,s)=>match xP (rpp V I O Z) s with | (l,s)=>match xP (rpp V I O Z) s with | (r,s)=>(.draw n l r,s)
  | (10,s)=>match rdn s with | (j,s)=>match xP rdn s with | (k,s)=>match B2y f s with | (a,s)=>match B2y f s with | (b,s)=>(.jn j k a b,s)
  | (_,s)=>match rdn s with | (n,s)=>match xP (rpp V I O Z) s with | (l,s)=>match rpp V I O Z s with | (x,s)=>match xP (E3n V I O Z) s with | (c,s)=>match xP (rpp V I O Z) s with | (r,s)=>(.drawS n l x c r,s)
end
abbrev PT:=(Nat->Val)->(Nat->Val)->(Nat->AOp)->(Nat->List Cell)->PC
def dcp (x:Nat):PT:=λV I O Z=>(B2y V I O Z 99 (0,x)).1
def px (x:Nat) {p:PT} (hp:p=dcp x:=by conv=>{ rhs;reduce }):PT:=p
def C5V {α:Type} (z:α):List α -> Nat -> α
 | [],_=>z
 | a::_,0=>a
 | _::l,i+1=>C5V z l i
def D4E (n:Nat):Val:=.c (.i .i64 n)
def D9X:List (List Cell):=[[],[.i .i64 0],[.ns],[.s []],[.b false],[.nm],[.nf],[.i .u8 0],[.i .u8 0,.i .u8 0],[.i .u8 0,.i .u8 0,.i .u8 0,.i .u8 0],[.i .u8 0,.i .u8 0,.i .u8 0,.i .u8 0,.i .u8 0],[.i .u8 0,.i .u8 0,.i .u8 0,.i .u8 0,.i .u8 0,.i .u8 0,.i .u8 0,.i .u8 0],E3Q 256 (.i .u8 0),E3Q 32 (.i .u8 0),E3Q 25 (.i .u8 0),[.i .i64 0]++E3Q 32 (.i .i64 0),[.i .i64 0]++E3Q 256 (.i .u8 0),[.s [],.i .i64 0],[.i .i64 0,.i .i64 0,.i .u64 0],[.i .i64 0,.i .i64 0,.i .i64 0],[.i .i64 0,.s [],.i .i64 0],[.i .i64 0,.ns],[.i .i64 0,.i .i64 0,.i .u64 0,.nf],[.i .i64 0,.i .i64 0,.s [],.i .i64 0],[.i .i64 0,.i .i64 0,.i .i64 0,.i .i64 0,.i .i64 0,.i .i64 0],[.i .i64 0,.i .i64 0,.i .i64 0,.i .i64 0,.i .i64 0,.i .i64 0,.i .i64 0],[.i .i64 0,.i .i64 0,.i .i64 0,.i .i64 0,.i .i64 0,.i .i64 0,.i .i64 0,.i .i64 0],[.i .i64 0,.i .i64 0,.i .i64 0,.i .i64 0,.i .i64 0,.i .i64 0,.i .i64 0,.i .i64 0,.i .i64 0,.i .i64 0,.i .i64 0],[.i .i64 0,.i .i64 0,.i .i64 0,.i .i64 0,.i .i64 0,.ns,.ns],[.ns,.ns,.ns,.ns,.ns,.i .i64 0,.ns,.ns],[.ns,.ns,.ns,.ns,.ns,.i .i64 0]]
structure Cal (P:Program) where
 f:FuncId
 S:Fun
 ok:SOk P f S
def cal {P:Program} {f:FuncId} {S:Fun} (ok:SOk P f S):Cal P:=⟨f,S,ok⟩
def el {P:Program}:List (Cal P)->N1
 | []=>D1S
 | c::l=>D7e c.f c.S (el l)
theorem D4x {P:Program}:∀ l:List (Cal P),eV P (el l)
 | []=>D36
 | c::l=>D37 c.ok (D4x l)
def E1d {P:Program}:List (Cal P)->Nat->Nat
 | [],_=>0
 | c::_,0=>c.f
 | _::l,k+1=>E1d l k
def B82 {P:Program}:List (Cal P)->Nat->Fun
 | [],_=>λ_ _=>none
 | c::_,0=>c.S
 | _::l,k+1=>B82 l k
structure FD (P:Program) where
 p:PT
 V:List Val
 O:List AOp
 res:List ARes
 L:List (Cal P)
inductive Fr where
 | seq (keep:List Nat) (b:PC)
 | jn (j:Nat) (keep:List Nat) (b:PC)
 | blk (id:Nat)
 | lp (j:Nat) (keep:List Nat) (a:PC) (m:Nat)
section
variable {P:Program} (d:FD P)
def FD.code:PC:=d.p (C5V .no d.V) D4E (C5V (.nilrow 0) d.O) (C5V [] D9X)
noncomputable def FD.A:AFn:=⟨er (E1d d.L) d.code,d.res⟩
noncomputable def FD.E:N1:=el d.L
noncomputable def FD.R (n:Nat):Fun:=rx d.E d.A n
noncomputable def FD.S:Fun:=tl d.A d.E
noncomputable def FD.Q:Fun:=Lim d.A d.E
theorem FD.K {f:FuncId} {fn:Func} (hf:P.funcs[f]?=some fn) (hc:C4V P fn d.A=true:=by kernel_rfl):FnK P f d.A d.E d.R:=.mk2 (D4x _) hf hc
end
def fd:PC->Nat->List Nat->List Fr->Option (Bool × List Nat × PC × List Fr × Nat)
 | .seq k a b,j,ns,s=>(fd a j ns (.seq k b::s)).or (fd b j ns s)
 | .jn i k a b,j,ns,s=>bif Nat.beq i j then some (false,k,b,s,0) else (fd a j ns (.jn i k b::s)).or (fd b j ns s)
 | .cond _ a b,j,ns,s=>(fd a j ns s).or (fd b j ns s)
 | .block i a,j,ns,s=>fd a j ns (.blk i::s)
 | .loop i k a,j,m::ns,s=>bif Nat.beq i j then some (true,k,a,s,m) else fd a j ns (.lp i k a m::s)
 | _,_,_,_=>none
noncomputable def kof (E:N1) (n:Nat) (F:Nat->Nat) (fin:KV):List Fr->KV
 | []=>fin
 | .seq k b::s=>D9c k (ax E n (er F b)) (kof E n F fin s)
 | .jn _ k b::s=>D9c k (ax E n (er F b)) (kof E n F fin s)
 | .blk i::s=>D3x i (kof E n F fin s)
 | .lp _ k a m::s=>D98 k (A5Q (ax E n (er F a)) k (kof E n F fin s) m) (kof E n F fin s)
noncomputable def lj' (E:N1) (n:Nat) (F:Nat->Nat) (fin:KV) (xs:List Val) (h:A6):Option (Bool × List Nat × PC × List Fr × Nat)->B2H
 | some (true,k,a,s,m)=>A5Q (ax E n (er F a)) k (kof E n F fin s) m (zE k xs) h
 | some (false,k,b,s,_)=>hold (ax E n (er F b) (kof E n F fin s) (zE k xs) h)
 | none=>none
noncomputable def FD.lj {P:Program} (d:FD P) (j n:Nat) (ns:List Nat) (xs:List Val):AtH:=λh=>lj' d.E n (E1d d.L) d.A.fin xs h (fd d.code j ns [])
def AN (X:Type):Nat->Type
 | 0=>X
 | a+1=>Nat->AN X a
def AV:Nat->Type
 | 0=>AtH
 | b+1=>Val->AV b
def C0k {X:Type}:(a:Nat)->AN X a->List Nat->X
 | 0,f,_=>f
 | a+1,f,[]=>C0k a (f 0) []
 | a+1,f,n::l=>C0k a (f n) l
def C0l:(b:Nat)->AV b->List Val->AtH
 | 0,f,_=>f
 | b+1,f,[]=>C0l b (f .no) []
 | b+1,f,x::l=>C0l b (f x) l
structure TE where
 a:Nat
 b:Nat
 f:AN (AV b) a
structure TT where
 E:N1
 l:List TE
def tT (l:List TE):TT:=⟨D1S,l⟩
def C6A:List TE->Nat->List Nat->List Val->AtH
 | [],_,_,_=>λ_=>none
 | t::_,0,ns,xs=>C0l t.b (C0k t.a t.f ns) xs
 | _::l,j+1,ns,xs=>C6A l j ns xs
inductive Rs:Type 1 where
 | v (x:Val)
 | n (x:Val) (h:A6)
 | b (x:Option Val)
 | g (x:Option A6)
 | p (x:Option (Val × A6))
 | l {α:Type} (x:Option α) (v:α -> Val) (h:α -> A6)
inductive Ct:Type 1 where
 | code (p:PC)
 | ops (l:List PP)
 | dr (l:List PP) (hr:A6) (c:Ct)
 | ds (x:PP) (chk:List (Nat × AOp)) (r:List PP)
 | ag (chk:List (Nat × AOp)) (e0:Env) (c:Ct)
 | rs (r:Rs) (d:Option Nat) (c:Ct)
 | nrm
 | ex (id:Nat)
def B4m:Env->Nat->Val
 | [],_=>.un
 | (d,v)::r,t=>bif d==t then v else B4m r t
def O2 (e:Env):Opd->Val
 | .t n=>B4m e n
 | .v x=>x
def D7Z (e:Env):List Nat->Env
 | []=>[]
 | t::r=>(t,B4m e t)::D7Z e r
def D3T (e:Env):List Nat->List Val
 | []=>[]
 | t::r=>B4m e t::D3T e r
def C6f (e:Env):List Opd->List Val
 | []=>[]
 | x::l=>O2 e x::C6f e l
def B6Z (e:Env):Option Opd->Option Val
 | none=>none
 | some x=>some (O2 e x)
def C9f (e:Env):List (Nat × Nat × Opd)->List (Nat × Nat × Val)
 | []=>[]
 | (a,b,x)::l=>(a,b,O2 e x)::C9f e l
def D0I (e:Env):Option Nat->Val->Env
 | none,_=>e
 | some d,v=>(d,v)::e
def D71:Nat->List Val->Env
 | _,[]=>[]
 | i,v::l=>(i,v)::D71 (i+1) l
def B0W:Nat->A6
 | 0=>[]
 | n+1=>none::B0W n
def D5Z (hr h:A6) (r:Row) (v:Nat->Val):Option Nat->Rs
 | none=>.n (v h.length) (h++[some r])
 | some j=>.n (v (hr.length+j)) (h.set (hr.length+j) (some r))
def D3F {α:Type} (hr h:A6) (x:Option α) (r:α -> Row) (v:Nat -> α -> Val):Option Nat->Rs
 | none=>.l x (λa=>v h.length a) (λa=>h++[some (r a)])
 | some j=>.l x (λa=>v (hr.length+j) a) (λa=>h.set (hr.length+j) (some (r a)))
noncomputable def D72 (q:Bool) (h:A6) (x:B2H):B2H:=match q with
 | true=>quiet h x
 | false=>x
noncomputable def D9o (E:N1) (q:Bool) (hr:A6) (sl:Option Nat) (e:Env) (h:A6):AOp->Rs
 | .mv x=>.v (O2 e x)
 | .nilrow n=>D5Z hr h (Row.mk [] true) (λi=>.c (.sl i 0 0 n)) sl
 | .pick c a b=>.b (D1r (O2 e c) (O2 e a) (O2 e b))
 | .alloc z=>D5Z hr h (Row.mk z true) (λi=>.c (.p i 0)) sl
 | .box x=>D3F hr h (cells? (O2 e x)) (λc=>Row.mk c true) (λi _=>.c (.p i 0)) sl
 | .build z l=>.l (D9 z (C9f e l)) (λc=>.a c) (λ_=>h)
 | .buildSl n k z l=>D3F hr h (D9 z (C9f e l)) (λc=>Row.mk c true) (λi _=>.c (.sl i 0 k n)) sl
 | .load1 x=>.b (B4 hr (O2 e x))
 | .loadN n x=>.b (C8 hr n (O2 e x))
 | .store1 a x=>.g (F9 h (O2 e a) (O2 e x))
 | .storeN n a x=>.g (E1 h n (O2 e a) (O2 e x))
 | .bin o x y=>.b (N9 o (O2 e x) (O2 e y))
 | .eqA n s x y=>.b (aeq n s (O2 e x) (O2 e y))
 | .eqB n x y=>.b (D25 n (O2 e x) (O2 e y))
 | .eqN f n x=>.b (C93 f n (O2 e x))
 | .nilc x=>.b (A3Z (O2 e x))
 | .un o x=>.b (aun o (O2 e x))
 | .conv k x=>.b (D1g k (O2 e x))
 | .convS x=>.b (C92 (O2 e x))
 | .s2b x=>D3F hr h (E0r (O2 e x)) (λs=>Row.mk (A5 s) true) (λi s=>.c (.sl i 0 s.length 1)) sl
 | .b2s x=>.b (B3Q hr (O2 e x))
 | .b2sN none x=>.b (B3Q h (O2 e x))
 | .b2sN (some o) x=>.b (C0i h hr.length (some o) (O2 e x))
 | .mark x=>.b (xJ h (O2 e x))
 | .mkf f l=>.b (B3V f (C6f e l))
 | .mkSl n z x y=>D3F hr h (A5P (O2 e x) (O2 e y)) (λk=>Row.mk (rows z k) true) (λi k=>.c (.sl i 0 k n)) sl
 | .slS x a b=>.b (D8O (O2 e x) (B6Z e a) (B6Z e b))
 | .slL n x a b=>.b (D1u n (O2 e x) (B6Z e a) (B6Z e b))
 | .slA n k x a b=>.b (B8P hr n k (O2 e x) (B6Z e a) (B6Z e b))
 | .fAddr x n=>.b (pW (O2 e x) n)
 | .iAddrA n k x y=>.b (J2 n k (O2 e x) (O2 e y))
 | .iAddrL n x y=>.b (D6 n (O2 e x) (O2 e y))
 | .fld1 x n=>.b (B5Y (O2 e x) n)
 | .fldN x n k=>.b (D4k (O2 e x) n k)
 | .idxA1 n x y=>.b (A3f n (O2 e x) (O2 e y))
 | .idxAN n k x y=>.b (C94 n k (O2 e x) (O2 e y))
 | .idxS x y=>.b (C4A (O2 e x) (O2 e y))
 | .ext x n=>.b (D27 (O2 e x) n)
 | .call _ _=>.b none
 | .callV f l=>.p (D72 q h (A1U E (O2 e f) (C6f e l) h))
 | .len x=>.b (C95 (O2 e x))
 | .lenS x=>.b (D1j (O2 e x))
 | .app n x y=>.p (iY h n (O2 e x) (O2 e y))
 | .appZ n z x y=>.p (B5W h n z (O2 e x) (O2 e y))
 | .max x y=>.b (C4C (O2 e x) (O2 e y))
 | .min x y=>.b (B5Z (O2 e x) (O2 e y))
 | .copy n x y=>.p (C4w h n (O2 e x) (O2 e y))
 | .mkMap=>D5Z hr h (S3 []) (λi=>.c (.m i)) sl
 | .look k z o m x=>.b (A6O hr k z o (O2 e m) (O2 e x))
 | .mput k m x y=>.g (A1R h k (O2 e m) (O2 e x) (O2 e y))
 | .ment k z m x=>.p (D1m h k z (O2 e m) (O2 e x))
 | .mset m x y=>.g (D1n h (O2 e m) (O2 e x) (O2 e y))
def D9t (h:A6):Rs->B2H
 | .v x=>some (x,h)
 | .n x g=>some (x,g)
 | .b x=>bnd x λv=>some (v,h)
 | .g x=>bnd x λh=>some (.un,h)
 | .p x=>bnd x λp=>some (p.1,p.2)
 | .l x v g=>bnd x λa=>some (v a,g a)
def D2u (e:Env) (h:A6) (r:Rs):Option (Nat × Bool)->Rs
 | none=>r
 | some (g,w)=>.p (gd (B4m e g) w (D9t h r) (some (.no,h)))
noncomputable def D56 (E:N1) (L:Nat->Fun) (q:Bool) (hr:A6) (e:Env) (h:A6):PP->Rs
 | .o ⟨_,o,g,s⟩=>D2u e h (D9o E q hr s e h o) g
 | .call _ g k l=>D2u e h (.p (D72 q h (L k (C6f e l) h))) g
def D54:PP->Option Nat
 | .o x=>x.dst
 | .call d _ _ _=>d
def C59 (e:Env) (h:A6):List ARes->List (Option Val)
 | []=>[]
 | .tmp t::l=>some (B4m e t)::C59 e h l
 | .cell1 t::l=>B4 h (B4m e t)::C59 e h l
 | .cellN t n::l=>C8 h n (B4m e t)::C59 e h l
def D7Y (e:Env) (h:A6):List ARes->B2H
 | []=>C6D [] h
 | [.tmp t]=>some (B4m e t,h)
 | [.cell1 t]=>mp (B4 h (B4m e t)) λv=>(v,h)
 | [.cellN t n]=>mp (C8 h n (B4m e t)) λv=>(v,h)
 | a::b::l=>C6D (C59 e h (a::b::l)) h
def B2r (n:Nat):List Fr->List Nat->List Nat
 | [],l=>n::l
 | .lp _ _ _ m::s,l=>B2r n s (m::l)
 | .seq _ _::s,l=>B2r n s l
 | .jn _ _ _::s,l=>B2r n s l
 | .blk _::s,l=>B2r n s l
def D9u (h:A6) (e:Env):AOp->Option Val
 | .load1 x=>B4 h (O2 e x)
 | .loadN n x=>C8 h n (O2 e x)
 | _=>none
noncomputable def iZ (n:Nat) (E:N1) (L:Nat->Fun) (T:List TE) (res:List ARes):Nat->Ct->List Fr->Env->A6->B2H
 | 0,_,_,_,_=>none
 | f+1,.code .skip,s,e,h=>iZ n E L T res f .nrm s e h
 | _+1,.code .ret,_,e,h=>D7Y e h res
 | f+1,.code (.exit i),s,e,h=>iZ n E L T res f (.ex i) s e h
 | f+1,.code (.ops l),s,e,h=>iZ n E L T res f (.ops l) s e h
 | f+1,.code (.draw k l r),s,e,h=>iZ n E L T res f (.dr l h (.ops r)) s e (h++B0W k)
 | f+1,.code (.drawS k l x c r),s,e,h=>iZ n E L T res f (.dr l h (.ds x c r)) s e (h++B0W k)
 | f+1,.code (.seq k a b),s,e,h=>iZ n E L T res f (.code a) (.seq k b::s) e h
 | f+1,.code (.jn j k a b),s,e,h=>iZ n E L T res f (.code a) (.jn j k b::s) e h
 | f+1,.code (.cond c a b),s,e,h=>cnd (O2 e c) (iZ n E L T res f (.code a) s e h) (iZ n E L T res f (.code b) s e h)
 | f+1,.code (.block i a),s,e,h=>iZ n E L T res f (.code a) (.blk i::s) e h
 | _+1,.code (.loop j k _),s,e,h=>C6A T j (B2r n s [n]) (D3T e k) h
 | _+1,.nrm,[],e,h=>D7Y e h res
 | f+1,.nrm,.seq k b::s,e,h=>iZ n E L T res f (.code b) s (D7Z e k) h
 | _+1,.nrm,.jn j k _::s,e,h=>C6A T j (B2r n s []) (D3T e k) h
 | f+1,.nrm,.blk _::s,e,h=>iZ n E L T res f .nrm s e h
 | _+1,.nrm,.lp j k _ m::s,e,h=>C6A T j (B2r n s [m]) (D3T e k) h
 | f+1,.ex i,.blk j::s,e,h=>bif j==i then iZ n E L T res f .nrm s e h else iZ n E L T res f (.ex i) s e h
 | f+1,.ex i,.seq _ _::s,e,h=>iZ n E L T res f (.ex i) s e h
 | f+1,.ex i,.jn _ _ _::s,e,h=>iZ n E L T res f (.ex i) s e h
 | f+1,.ex i,.lp _ _ _ _::s,e,h=>iZ n E L T res f (.ex i) s e h
 | _+1,.ex _,[],_,_=>none
 | f+1,.ops [],s,e,h=>iZ n E L T res f .nrm s e h
 | f+1,.ops (x::l),s,e,h=>iZ n E L T res f (.rs (D56 E L false h e h x) (D54 x) (.ops l)) s e h
 | f+1,.dr [] _ c,s,e,h=>iZ n E L T res f c s e h
 | f+1,.dr (x::l) hr c,s,e,h=>iZ n E L T res f (.rs (D56 E L true hr e h x) (D54 x) (.dr l hr c)) s e h
 | f+1,.ds x c r,s,e,h=>iZ n E L T res f (.rs (D56 E L false h e h x) (D54 x) (.ag c e (.ops r))) s e h
 | f+1,.ag [] _ c,s,e,h=>iZ n E L T res f c s e h
 | f+1,.ag ((d,o)::k) e0 c,s,e,h=>agn (D9u h e0 o) (B4m e0 d) (iZ n E L T res f (.ag k e0 c) s e h)
 | f+1,.rs (.v x) d c,s,e,h=>iZ n E L T res f c s (D0I e d x) h
 | f+1,.rs (.n x g) d c,s,e,_=>iZ n E L T res f c s (D0I e d x) g
 | f+1,.rs (.b x) d c,s,e,h=>bnd x λv=>iZ n E L T res f c s (D0I e d v) h
 | f+1,.rs (.g x) d c,s,e,_=>bnd x λh=>iZ n E L T res f c s (D0I e d .un) h
 | f+1,.rs (.p x) d c,s,e,_=>bnd x λp=>iZ n E L T res f c s (D0I e d p.1) p.2
 | f+1,.rs (.l x v g) d c,s,e,_=>bnd x λa=>iZ n E L T res f c s (D0I e d (v a)) (g a)
noncomputable def E2g {P:Program} (d:FD P) (T:TT) (n:Nat) (args:List Val) (h:A6):B2H :=
 iZ n T.E (B82 d.L) T.l d.res 9999 (.code d.code) [] (D71 0 args) h
noncomputable def D4U (j n:Nat) (E:N1) (L:Nat->Fun) (T:List TE) (res:List ARes) (xs:List Val) (h:A6):Option (Bool × List Nat × PC × List Fr × Nat)->B2H
 | some (true,k,a,s,m)=>iZ n E L T res 9999 (.code a) (.lp j k a m::s) (zE k xs) h
 | some (false,k,b,s,_)=>iZ n E L T res 9999 (.code b) s (zE k xs) h
 | none=>none
noncomputable def D9m {P:Program} (d:FD P) (T:TT) (j n:Nat) (ns:List Nat) (xs:List Val) (h:A6):B2H :=
 D4U j n T.E (B82 d.L) T.l d.res xs h (fd d.code j ns [])
def Nrm (a b:B2H):Prop:=a=b
theorem D2p (a:B2H):Nrm a a:=rfl
def D3e:List Nat->List Nat
 | []=>[]
 | [m]=>[m+1]
 | m::k::l=>m::D3e (k::l)
section
variable {P:Program}
theorem mR (R:Nat->Fun) (d:FD P) (T:TT) (n:Nat) (args:List Val) (h:A6) {c:B2H} (hc:Nrm (E2g d T n args h) c:=by (conv=>{ arg 1;arg 1;whnf });(conv=>{ arg 1;arg 2;whnf });dsimp only [E2g,FD.code];(conv=>{ arg 1;arg 7;arg 1;whnf });dsimp only [iZ,D56,D54,D9o,D2u,D9t,D5Z,D3F,D72,B4m,O2,D7Z,D3T,C6f,B6Z,C9f,D0I,D71,B0W,B2r,C6A,C0k,C0l,D7Y,C59,D9u,D4E,C5V,D9X,B82,cal,D4U,zE,Nat.reduceBEq,Nat.reduceAdd,cond_true,cond_false,Int.cast_ofNat_Int];exact D2p _) (e:R n args h=c:=by kernel_rfl):R n args h=c:=e
theorem mJ (d:FD P) (T:TT) (j n:Nat) (ns:List Nat) (xs:List Val) (h:A6) {a c:B2H} (ha:Nrm (C6A T.l j (n::ns) xs h) a:=by (conv=>{ arg 1;arg 1;arg 1;whnf });dsimp only [C6A,C0k,C0l];exact D2p _) (hc:Nrm (D9m d T j n ns xs h) c:=by (conv=>{ arg 1;arg 1;whnf });(conv=>{ arg 1;arg 2;whnf });dsimp only [D9m];(conv=>{ arg 1;arg 9;whnf });dsimp only [iZ,D56,D54,D9o,D2u,D9t,D5Z,D3F,D72,B4m,O2,D7Z,D3T,C6f,B6Z,C9f,D0I,D71,B0W,B2r,C6A,C0k,C0l,D7Y,C59,D9u,D4E,C5V,D9X,B82,cal,D4U,zE,Nat.reduceBEq,Nat.reduceAdd,cond_true,cond_false,Int.cast_ofNat_Int];exact D2p _) (e:a=c:=by kernel_rfl):a=c:=e
theorem mL (d:FD P) (T:TT) (j n:Nat) (ns:List Nat) (xs:List Val) (h:A6) {a c:B2H} (ha:Nrm (C6A T.l j (n::D3e ns) xs h) a:=by (conv=>{ arg 1;arg 1;arg 1;whnf });dsimp only [C6A,C0k,C0l,D3e];exact D2p _) (hc:Nrm (D9m d T j n ns xs h) c:=by (conv=>{ arg 1;arg 1;whnf });(conv=>{ arg 1;arg 2;whnf });dsimp only [D9m];(conv=>{ arg 1;arg 9;whnf });dsimp only [iZ,D56,D54,D9o,D2u,D9t,D5Z,D3F,D72,B4m,O2,D7Z,D3T,C6f,B6Z,C9f,D0I,D71,B0W,B2r,C6A,C0k,C0l,D7Y,C59,D9u,D4E,C5V,D9X,B82,cal,D4U,zE,Nat.reduceBEq,Nat.reduceAdd,cond_true,cond_false,Int.cast_ofNat_Int];exact D2p _) (e:a=c:=by kernel_rfl):a=c:=e
end
end
end Go.Esc
namespace Go.Proofs.YtbnkgnfhgbhblaaGreat
open Go Go.Esc
set_option maxRecDepth 100000
noncomputable section
variable (n m m2:Nat) (a0 a1 a2 a3 x0 x1 x3 x4 x6 x7 x8 x10 x16 x17 x18 x19 x20 x21 x25 x26:Val) (h:A6)
def nZ:FD Tryz.prog:=⟨px 0X12384881de1c488493926122882a157a07c218621fa1a1c148828c48061a07c3c0406180072461e47c6288977c403c2f143a2a29281876311922a29281876311831b801a87161c1e2e11981a052a2928187631182152a292863163070242a2928631631a617c12b2a2928631722a2928631606051061c87a032a29286316263211a0124e4881de6a48838261224631e2a82889642e7f42e3601617c419161e6321526321431c62d9032ed2632142,[.c (.b true)],[],[.cellN 6 256],[]⟩
def B7F:=nZ.R
def C5Z:AtH:=nZ.lj 0 n [m] [x1,x3,x6,x16,x17,x18]
def C5Y:AtH:=nZ.lj 1 n [] [x3,x6]
def B8L:=tT [⟨2,6,C5Z⟩,⟨1,2,C5Y⟩]
def C9O:=mR B7F nZ B8L n [a0,a1,a2] h
def C7R:=mL nZ B8L 0 n [m] [x1,x3,x6,x16,x17,x18] h
def C7Q:=mJ nZ B8L 1 n [] [x3,x6] h
def C8g:=nZ.K Tryz.func161
def B8y:=nZ.S
theorem A5I:SOk Tryz.prog 161 B8y:=C8g.sok
theorem C4d:E5 B7F B8y:=C8g.flat
def B4y:FD Tryz.prog:=⟨px 0X121e4881de611a301ac0001c3e842121c22d912022,[],[],[.cellN 2 256],[cal A5I]⟩
def C3v:=B4y.R
def D1a:=mR C3v B4y (tT []) n [a0] h
def D05:=B4y.K Tryz.func158
def C4e:=B4y.S
theorem A1L:SOk Tryz.prog 158 C4e:=D05.sok
theorem C7r:E5 C3v C4e:=D05.flat
def A1m:FD Tryz.prog:=⟨px 0X11c861363a2a862a194d7f61a74d7f44d3184d304d360362a2a861a193b7f6e3b343b360361e2a85642b7f42b3601647c002b612361121032,[.c (.b false)],[],[.tmp 6],[]⟩
def B95:=A1m.R
def C3w:=mR B95 A1m (tT []) n [a0,a1,a2] h
def B9N:=A1m.K Tryz.func157
def A8W:=A1m.S
theorem pP:SOk Tryz.prog 157 A8W:=B9N.sok
theorem B8A:E5 B95 A8W:=B9N.flat
def sH:FD Tryz.prog:=⟨px 0X12484881de284884a392181228c2c156e07c218621fa3e28148828c64f862a1c7c64c864967c4c01c061a07c7e042f11b181b81911a022c2b191843172152c2b1843163070242c2b18431631a617c12d2c2b18431722c2b18431606051018022c2b1843162184230125a4881de7a488382181224632e2a86382bf288961a30381af6a38343836029657c4a1a1182918432162184321531c182d9042ed218432152,[.c (.b true)],[],[.cellN 8 256],[cal pP]⟩
def B20:=sH.R
def C00:AtH:=sH.lj 0 n [m] [x1,x3,x4,x8,x19,x20]
def C4t:=tT [⟨2,6,C00⟩]
def C64:=mR B20 sH C4t n [a0,a1,a2,a3] h
def B0c:=mL sH C4t 0 n [m] [x1,x3,x4,x8,x19,x20] h
def C2V:=sH.K Tryz.func159
def A5J:=sH.S
theorem uJ:SOk Tryz.prog 159 A5J:=C2V.sok
theorem C16:E5 B20 A5J:=C2V.flat
def zF:FD Tryz.prog:=⟨px 0X1702cc1815859131918222c83a157a07c218621fa3e5a119864f862a1c7c64c864967c5c01c061a07c5c040583d11c181e81b11a023a391b1a3162153a391a3153070243a391a31531a617c13b3a391a31623a391a3150605101839123a391a31521a131c81a161a13cc0000012e3fd41a3214201301183b9219182224673e2a863c2bf61e2a303c1af63c1cb03c37a3c343c36049657c5a1c11a2d321052321043301183b92321042,[.c (.b false),.c (.b true)],[],[.tmp 8,.tmp 9],[cal pP]⟩
def B7G:=zF.R
def C50:AtH:=zF.lj 0 n [m] [x1,x3,x10,x25,x26]
def C8v:=tT [⟨2,5,C50⟩]
def C9P:=mR B7G zF C8v n [a0,a1,a2,a3] h
def B2u:=mL zF C8v 0 n [m] [x1,x3,x10,x25,x26] h
def C8h:=zF.K Tryz.func160
def B8z:=zF.S
theorem C90:SOk Tryz.prog 160 B8z:=C8h.sok
theorem C4f:D4h B7G B8z:=C8h.tidy
def zC:FD Tryz.prog:=⟨px 0X12b8613c4e126122ac3a155e07c218621fa3a3e119861c61c148828c61a07c480404803c3d119181e81811a023a391873162153a3973153070243a39731531a617c13b3a39731623a3973150605101839123a39731527131c87166175bc182f137321421b82106886288977c40182b153213201163b9161224631e2a85613e7f7a3e360631e2a82889642e7f42e3601617c41911a2a3214232133163b9032ed232132,[.c (.b true)],[.min (.t 19) (.t 21)],[.tmp 6],[]⟩
def B7E:=zC.R
def C5W:AtH:=zC.lj 0 n [m] [x1,x3,x7,x25,x26]
def C8t:=tT [⟨2,5,C5W⟩]
def C9M:=mR B7E zC C8t n [a0,a1,a2] h
def B2s:=mL zC C8t 0 n [m] [x1,x3,x7,x25,x26] h
def C8e:=zC.K Tryz.func86
def B8w:=zC.S
theorem A5H:SOk Tryz.prog 86 B8w:=C8e.sok
theorem C7q:qT B7E B8w:=C8e.out
def zD:FD Tryz.prog:=⟨px 0X11b02b861484e1376222ac2d1518a04d7d2182a818166a1d7c62a1b7c64c864967c4c064c861c62a119861a07c4c04000483811e181bc1911a022d2c19181062152d2c181053070242d2c1810531a617c12e2d2c1810622d2c18105060510182c122d2c181052181330118210420170361276222461b3e2a86382bf61e2a30381af6381cb03836a38343836049657c4a1a11a2b210422103370361221032,[.c (.i .u64 0),.c (.b false),.c (.b true)],[],[.tmp 6,.tmp 7],[cal pP]⟩
def C8o:=zD.R
def C5X:AtH:=zD.lj 0 n [m] [x0,x1,x8,x20,x21]
def C8u:=tT [⟨2,5,C5X⟩]
def C9N:=mR C8o zD C8u n [a0,a1,a2] h
def B2t:=mL zD C8u 0 n [m] [x0,x1,x8,x20,x21] h
def C8f:=zD.K Tryz.func85
def B8x:=zD.S
theorem C9Z:SOk Tryz.prog 85 B8x:=C8f.sok
theorem C4c:E5 C8o B8x:=C8f.flat
def A3F:FD Tryz.prog:=⟨px 0X1298613c4a1261228c2a157e0497d2182887165e1d7c62a1b7c64c864967c48064dc61c61c148828c61a07c7e0407a2d11d181a81811a022a291873162152a2973153070242a29731531a617c12b2a29731622a2973150605107e29122a297315271310173214201161161224632e2a862e2bf288961a302e1af5e2e342e36029657c3e19118283214232133161032ed232132,[.c (.b true)],[],[.tmp 6],[cal pP]⟩
def D08:=A3F.R
def C9b:AtH:=A3F.lj 0 n [m] [x1,x3,x7,x17,x18]
def D1b:=tT [⟨2,5,C9b⟩]
def D09:=mR D08 A3F D1b n [a0,a1,a2] h
def B6L:=mL A3F D1b 0 n [m] [x1,x3,x7,x17,x18] h
def D04:=A3F.K Tryz.func87
def B5G:=A3F.S
theorem vC:SOk Tryz.prog 87 B5G:=D04.sok
theorem C7p:E5 D08 B5G:=D04.flat
end
end Go.Proofs.YtbnkgnfhgbhblaaGreat
namespace Go.Proofs.YtbnkgnfhgbhblaaGreat
open Go Go.Esc
def qS (at' width all:Int):Bool:=decide (0<=at')&&decide (1<=width)&&decide (width<=all)&&decide (at'<=all-width)
theorem N0 {a w n:Int}:qS a w n=true↔0<=a/\1<=w/\w<=n/\a<=n-w:=by
 unfold qS;simp [and_assoc]
theorem vZ {a w n:Int} {h:A6} (hn:n<9223372036854775808) :
  A8W [iV a,iV w,iV n] h=some (bV (qS a w n),h):=by
 refine B8A (n:=0) (h2:=ro h) ?_ rfl;rw [C3w];unfold qS;by_cases h1:0<=a
 ·by_cases h2:1<=w
  ·by_cases h3:w<=n
   ·have e:IntKind.wrap .i64 (n-w)=n-w:=wrap_i64 (by omega) (by omega);simp [h1,h2,h3,e]
   ·simp [h1,h2,h3]
  ·simp [h1,h2]
 ·simp [h1]
def C5o (l:List UInt8) (a w:Int):Option Nat:=if w<=8/\qS a w l.length=true then some (le ((l.drop a.toNat).take w.toNat)) else none
theorem C0Z {l:List UInt8} {h:A6} {a w k:Nat} (hw:w<=4) (haw:a+w<=256) (hl:l.length=256):∀ d i m,i+d=w->d<m ->
  C9b k m (iV a) (pV h.length 0) (iV (le ((l.drop a).take i))) (iV w) (iV i) (h++[rT (A5 l)])=some (iV (le ((l.drop a).take w)),h++[rT (A5 l)])
 | d,i,0,_,hm=>by omega
 | 0,i,m+1,hi,hm=>by
  have e:i=w:=by omega
  subst e;rw [B6L];simp
 | d+1,i,m+1,hi,hm=>by
  have ih:=C0Z (h:=h) (k:=k) hw haw hl d (i+1) m (by omega) (by omega);have hx:=B5 (h:=h++[rT (A5 l)]) (id:=h.length) (off:=a+i) (c:=.i .u8 l[a+i].toNat) S9 (by rw [cC,E3P (by omega)];rfl) rfl;have hb:=l[a+i].toNat_lt;have hlen:((l.drop a).take i).length=i:=by simp;omega
  have bJ:=C0V ((l.drop a).take i);rw [hlen] at bJ;have hp:=tM (show i<=4 by omega);have hbp:=C0p (x:=l[a+i]) (show i<4 by omega);have e2:IntKind.wrap .i64 (8*(i:Int))=8*i:=wrap_i64 (by omega) (by omega);have e3:IntKind.wrap .u64 (8*(i:Int))=8*i:=wrap_u64 (by omega) (by omega);have e5:IntKind.wrap .i64 (l[a+i].toNat:Int)=l[a+i].toNat:=wrap_i64 (by omega) (by omega);have e6:=D2P (k:=.i64) (x:=l[a+i]) (show i<8 by omega) (wrap_i64 (by omega) (by omega)) rfl;have e7:N9 .or (iV (le ((l.drop a).take i):Nat)) (iV ((l[a+i].toNat*256 ^ i:Nat):Int))=some (iV (le ((l.drop a).take (i+1)):Nat)):=by
   rw [E1g (by omega) (by omega),A3E (by omega),<-D4Q,hlen]
  have ea:J2 256 1 (pV h.length 0) (iV ((a+i:Nat):Int))=some (pV h.length (a+i)):=by rw [J3 (by omega)];simp
  have h1':(i:Int)<w:=by omega
  rw [B6L];simp only [esc,h1',A04 (show a+i<9223372036854775808 by omega),e2,e3,ea,hx,e5,e6,e7,C6 (show i+1<9223372036854775808 by omega)];exact ih
def atN (l:List UInt8) (a w:Int):Nat:=if w<=4/\qS a w 256=true then le ((l.drop a.toNat).take w.toNat) else 0
theorem lQ {l:List UInt8} {h:A6} (hl:l.length=256) {a w:Int} :
  B5G [.a (A5 l),iV a,iV w] h=some (iV (atN l a w),h):=by
 refine C7p (n:=w.toNat+1) (h2:=ro h++[rT (A5 l)]) ?_ (by simp);rw [D09];unfold atN;by_cases c1:4<w
 ·have c1':¬ w<=4:=by omega
  simp [c1,c1']
 ·have c1':w<=4:=by omega
  cases c2:qS a w 256 with
  | false=>simp [c1,vZ (show (256:Int)<9223372036854775808 by omega),c2]
  | true =>
   simp [c1,c1',vZ (show (256:Int)<9223372036854775808 by omega),c2];rw [N0] at c2;have:=C0Z (h:=ro h) (a:=a.toNat) (w:=w.toNat) (k:=w.toNat+1) (by omega) (by omega) hl w.toNat 0 (w.toNat+1) (by omega) (by omega);simp only [show ((a.toNat:Nat):Int)=a by omega,show ((w.toNat:Nat):Int)=w by omega] at this;simpa [le] using this
theorem B2v {l:List UInt8} {z:List Cell} {h:A6} {a w k:Nat} {v:Int} (hw:w<=4) (haw:a+w<=256) (hl:l.length=256) (hz:z.length=256):∀ d i m,i+d=w->d<m ->
  C00 k m (iV a) (iV v) (pV h.length 0) (pV (h.length+1) 0) (iV w) (iV i) (h++[rT (A5 (I6 l a (A9 i v))),rT z]) =
   some (.a (A5 (I6 l a (A9 w v))),h++[rT (A5 (I6 l a (A9 w v))),rT (A5 (I6 l a (A9 w v)))])
 | d,i,0,_,hm=>by omega
 | 0,i,m+1,hi,hm=>by
  have e:i=w:=by omega
  subst e;have bJ:(A5 (I6 l a (A9 i v))).length=256:=by rw [A4,O8 (by simp;omega),hl]
  have s1:=B8 (h:=h++[rT (A5 (I6 l a (A9 i v))),rT z]) (id:=h.length) (cs:=A5 (I6 l a (A9 i v))) (by simp) bJ;have s2:=storeAll (h:=h++[rT (A5 (I6 l a (A9 i v))),rT z]) (id:=h.length+1) (cs:=z) (xs:=A5 (I6 l a (A9 i v))) (by simp) hz bJ;have s3:=B8 (h:=h++[rT (A5 (I6 l a (A9 i v))),rT (A5 (I6 l a (A9 i v)))]) (id:=h.length+1) (cs:=A5 (I6 l a (A9 i v))) (by simp) bJ;have h1':¬ (i:Int)<i:=by omega
  rw [B0c];simp only [esc,h1',s1,s2,s3]
 | d+1,i,m+1,hi,hm=>by
  have ih:=B2v (h:=h) (k:=k) (v:=v) hw haw hl hz d (i+1) m (by omega) (by omega);have e2:IntKind.wrap .i64 (8*(i:Int))=8*i:=wrap_i64 (by omega) (by omega);have e3:IntKind.wrap .u64 (8*(i:Int))=8*i:=wrap_u64 (by omega) (by omega);have e4:N9 .shr (iV v) (.c (.i .u64 (8*(i:Int))))=some (iV (v/2 ^ (E4W (8*(i:Int)).toNat 64))):=C4v (by omega);have ea:J2 256 1 (pV h.length 0) (iV ((a+i:Nat):Int))=some (pV h.length (a+i)):=by rw [J3 (by omega)];simp
  have uP:=E9 (h:=h++[rT (A5 (I6 l a (A9 i v))),rT z]) (id:=h.length) (off:=a+i) (cs:=A5 (I6 l a (A9 i v))) (x:=.i .u8 (byI v i).toNat) (by simp)
   (by rw [A4,O8 (by simp;omega)];omega)
  have e5:(I6 l a (A9 i v)).set (a+i) (byI v i)=I6 l a (A9 (i+1) v):=by
   rw [A1T];have:=B0R (l:=l) (xs:=A9 i v) (a:=a) (x:=byI v i) (by simp;omega);simpa using this
  rw [jV,e5] at uP;have h1':(i:Int)<w:=by omega
  rw [B0c];simp only [esc,h1',A04 (show a+i<9223372036854775808 by omega),e2,e3,e4,C8F (v:=v) (show i<8 by omega),ea,uP,C6 (show i+1<9223372036854775808 by omega)];exact ih
def gH (l:List UInt8) (a w v:Int):List UInt8:=if w<=4/\qS a w 256=true then I6 l a.toNat (A9 w.toNat v) else l
theorem S5 {l:List UInt8} {a w v:Int} (hl:l.length=256):(gH l a w v).length=256:=by
 unfold gH;split
 ·rename_i h;rw [N0] at h;rw [O8 (by simp;omega),hl]
 ·exact hl
theorem D0D {l:List UInt8} {g:A6} (hl:l.length=256) {a w v:Int} :
  ∃ g',B20 (w.toNat+1) [.a (A5 l),iV a,iV w,iV v] g=some (.a (A5 (gH l a w v)),g'):=by
 have bJ:(A5 l).length=256:=by rw [A4,hl]
 have hz:(E3Q 256 (Cell.i .u8 0)).length=256:=E4g;rw [C64];generalize E3Q 256 (Cell.i .u8 0)=z at *;have s1:=B8 (h:=g++[rT (A5 l),rT z]) (id:=g.length) (cs:=A5 l) (n:=256) (by simp) bJ;have s2:=storeAll (h:=g++[rT (A5 l),rT z]) (id:=g.length+1) (cs:=z) (xs:=A5 l) (by simp) hz bJ;have s3:=B8 (h:=g++[rT (A5 l),rT (A5 l)]) (id:=g.length+1) (cs:=A5 l) (n:=256) (by simp) bJ;unfold gH;by_cases c1:4<w
 ·rw [if_neg (by omega)];exact ⟨_,by simp only [esc,c1,s1,s2,s3];rfl⟩
 ·have c1':w<=4:=by omega
  cases c2:qS a w 256 with
  | false =>
   rw [if_neg (by simp)];exact ⟨_,by simp only [esc,c1,vZ (show (256:Int)<9223372036854775808 by omega),c2,s1,s2,s3];rfl⟩
  | true =>
   rw [if_pos ⟨c1',rfl⟩];have c3:=N0.1 c2;have:=B2v (h:=g) (a:=a.toNat) (w:=w.toNat) (k:=w.toNat+1) (v:=v) (z:=z) (by omega) (by omega) hl hz w.toNat 0 (w.toNat+1) (by omega) (by omega);simp only [show ((a.toNat:Nat):Int)=a by omega,show ((w.toNat:Nat):Int)=w by omega,show A9 0 v=[] from rfl,B6E] at this;exact ⟨_,by simp only [esc,c1,vZ (show (256:Int)<9223372036854775808 by omega),c2];exact this⟩
theorem X4 {l:List UInt8} {h:A6} (hl:l.length=256) {a w v:Int} :
  A5J [.a (A5 l),iV a,iV w,iV v] h=some (.a (A5 (gH l a w v)),h):=by
 obtain ⟨g,e⟩:=D0D (g:=ro h) hl (a:=a) (w:=w) (v:=v);exact C16 e (by simp)
theorem B6M {l:List UInt8} {h:A6} {b id a n k:Nat} (haw:a+n<=256) (hl:l.length=256):∀ d i m,i+d=n->d<m ->
  C5W k m (iV a) (pV h.length 0) (sV (h.length+2) 0 n 1) (iV n) (iV i) (h++[rT (A5 l),rT [],rT (A5 ((l.drop a).take i++zeros (n-i)))]) =
   some (sV (h.length+2) 0 n 1,h++[rT (A5 l),rT [],rT (A5 ((l.drop a).take n))])
 | d,i,0,_,hm=>by omega
 | 0,i,m+1,hi,hm=>by
  have e:i=n:=by omega
  subst e;have h1':¬ (i:Int)<i:=by omega
  rw [B2s];simp only [esc,h1'];simp [zeros]
 | d+1,i,m+1,hi,hm=>by
  have ih:=B6M (h:=h) (b:=b) (id:=id) (k:=k) haw hl d (i+1) m (by omega) (by omega);have ea:J2 256 1 (pV h.length 0) (iV ((a+i:Nat):Int))=some (pV h.length (a+i)):=by rw [J3 (by omega)];simp
  have eb:D6 1 (sV (h.length+2) 0 n 1) (iV (i:Int))=some (pV (h.length+2) i):=by rw [C5 (by omega)];simp
  have hx:=B5 (h:=h++[rT (A5 l),rT [],rT (A5 ((l.drop a).take i++zeros (n-i)))]) (id:=h.length) (off:=a+i) (c:=.i .u8 l[a+i].toNat) (cs:=A5 l) (rw:=true) (by simp) (by rw [cC,E3P (by omega)];rfl) rfl;have uP:=E9 (h:=h++[rT (A5 l),rT [],rT (A5 ((l.drop a).take i++zeros (n-i)))]) (id:=h.length+2) (off:=i) (cs:=A5 ((l.drop a).take i++zeros (n-i))) (x:=.i .u8 l[a+i].toNat) (by simp)
   (by rw [A4];simp;omega)
  have e5:((l.drop a).take i++zeros (n-i)).set i l[a+i]=(l.drop a).take (i+1)++zeros (n-(i+1)):=by
   have hlen:((l.drop a).take i).length=i:=by simp;omega
   rw [E4p _ _ (by omega),hlen,E4y,A3E (by omega),E3U];refine congrArg ((l.drop a).take i ++ ·) ?_;have:n-i=n-(i+1)+1:=by omega
   rw [this];unfold zeros;rw [E4i,E4A];rfl
  rw [jV,e5] at uP;have h1':(i:Int)<n:=by omega
  rw [B2s];simp only [esc,h1',A04 (show a+i<9223372036854775808 by omega),ea,hx,eb,uP,C6 (show i+1<9223372036854775808 by omega)];exact ih
def bI (l:List UInt8) (a n:Int):List UInt8:=if 0<=a then (l.drop a.toNat).take n.toNat else []
theorem tO (n:Nat):rows [Cell.i .u8 0] n=A5 (zeros n):=by
 unfold rows zeros
 induction n with
 | zero=>rfl
 | succ n ih=>rw [E4i,E4L,ih,E4i];rfl
theorem D2q {l:List UInt8} {g:A6} (hl:l.length=256) {a n:Int} :
  ∃ v g',B7E ((min n (256-a)).toNat+1) [.a (A5 l),iV a,iV n] g=some (v,g')/\Out g.length g' v 1 (bI l a n).length (A5 (bI l a n)):=by
 have bJ:(A5 l).length=256:=by rw [A4,hl]
 rw [C9M];unfold bI;by_cases c1:a<0
 ·rw [if_neg (by omega)];exact ⟨_,_,by simp only [esc,c1];rfl,by simp [A4],_,rfl,by simp,by simp;rfl⟩
 ·rw [if_pos (by omega)];by_cases c2:256<=a
  ·have e:l.drop a.toNat=[]:=E32 (by omega);rw [e,List.take_nil];exact ⟨_,_,by simp only [esc,c1,c2];rfl,by simp [A4],_,rfl,by simp,by simp;rfl⟩
  ·by_cases c3:n<1
   ·have e:n.toNat=0:=by omega
    rw [e];exact ⟨_,_,by simp only [esc,c1,c2,c3];rfl,by simp [A4],_,rfl,by simp,by simp;rfl⟩
   ·have e1:IntKind.wrap .i64 (256-a)=256-a:=wrap_i64 (by omega) (by omega);have e2:B5Z (iV n) (iV (256-a))=some (iV ((min n (256-a)).toNat:Nat)):=by
     simp only [B5Z]
     congr 3
     by_cases h:256-a<n
     ·rw [if_pos h];omega
     ·rw [if_neg h];omega
    generalize hN:(min n (256-a)).toNat=N at *;have e3:A5P (iV (N:Int)) (iV (N:Int))=some N:=by
     have:A4y (iV (N:Int))=some N:=by simp only [A4y];rw [if_pos (by omega)];simp
     simp [A5P,this]
    have e4:(l.drop a.toNat).take n.toNat=(l.drop a.toNat).take N:=by
     by_cases h:256-a<n
     ·rw [E3Y (by simp;omega),E3Y (by simp;omega)]
     ·have:n.toNat=N:=by omega
      rw [this]
    have e5:((l.drop a.toNat).take N).length=N:=by simp;omega
    rw [e4,e5];have:=B6M (h:=g) (b:=0) (id:=0) (a:=a.toNat) (n:=N) (k:=N+1) (by omega) hl N 0 (N+1) (by omega) (by omega);simp only [show ((a.toNat:Nat):Int)=a by omega,E4P,E37,Nat.sub_zero] at this;exact ⟨_,_,by simp only [esc,c1,c2,c3,e1,e2,e3,tO];exact this,by simp [A4,e5],_,rfl,by omega,by simp⟩
theorem B4k {l:List UInt8} {h:A6} (hl:l.length=256) {a n:Int} :
  B8w [.a (A5 l),iV a,iV n] h=some (sV h.length 0 (bI l a n).length 1,h++[rT (A5 (bI l a n))]):=by
 obtain ⟨v,g,e,ho⟩:=D2q (g:=ro h) hl (a:=a) (n:=n);exact C7q e (by simpa [E7] using ho) (by simp)
theorem B6O {v:Val} {nv:Nat} {data l:List UInt8} {z:List Cell} {h:A6} (hv:Has h v 1 nv (A5 data)) {a k:Nat} (ha:a<256) (hl:l.length=256) (hz:z.length=256) (hd:data.length<9223372036854775808):∀ d i m,i+d=data.length->d<m->i<=256-a ->
  C5Z k m (iV a) (pV h.length 0) (pV (h.length+1) 0) v (iV data.length) (iV i) (h++[rT (A5 (I6 l a (data.take i))),rT z]) =
   some (.a (A5 (I6 l a (data.take (256-a)))),h++[rT (A5 (I6 l a (data.take (256-a)))),rT (A5 (I6 l a (data.take (256-a))))])
 | d,i,0,_,hm,_=>by omega
 | d,i,m+1,hi,hm,hia=>by
  have hll:∀ i,i<=256-a->(A5 (I6 l a (data.take i))).length=256:=λi hi=>by rw [A4,O8 (by simp;omega),hl]
  have fin:data.take i=data.take (256-a)->C5Y k (pV h.length 0) (pV (h.length+1) 0) (h++[rT (A5 (I6 l a (data.take i))),rT z]) =
   some (.a (A5 (I6 l a (data.take (256-a)))),h++[rT (A5 (I6 l a (data.take (256-a)))),rT (A5 (I6 l a (data.take (256-a))))]):=λe=>by
   rw [e];have bJ:=hll (256-a) (E3T _);have s1:=B8 (h:=h++[rT (A5 (I6 l a (data.take (256-a)))),rT z]) (id:=h.length) (cs:=A5 (I6 l a (data.take (256-a)))) (by simp) bJ;have s2:=storeAll (h:=h++[rT (A5 (I6 l a (data.take (256-a)))),rT z]) (id:=h.length+1) (cs:=z) (xs:=A5 (I6 l a (data.take (256-a)))) (by simp) hz bJ;have s3:=B8 (h:=h++[rT (A5 (I6 l a (data.take (256-a)))),rT (A5 (I6 l a (data.take (256-a))))]) (id:=h.length+1) (cs:=A5 (I6 l a (data.take (256-a)))) (by simp) bJ;rw [C7Q];simp only [esc,s1,s2,s3]
  rw [C7R];by_cases c1:i<data.length
  ·obtain ⟨d,rfl⟩:∃ e,d=e+1:=⟨d-1,by omega⟩;have hnv:data.length=nv:=by simpa [A4] using hv.length
   obtain ⟨id,off,rfl,hid,h1,h2⟩:=(hv.more [rT (A5 (I6 l a (data.take i))),rT z]).sl (by omega);have hx:=h1 i (.i .u8 data[i].toNat) (by rw [cC,E3P (by omega)];rfl);have eb:D6 1 (sV id off nv 1) (iV (i:Int))=some (pV id (off+i)):=by rw [C5 (by omega)];simp
   have e1:IntKind.wrap .i64 (256-(a:Int))=256-a:=wrap_i64 (by omega) (by omega);have c1':(i:Int)<data.length:=by omega
   by_cases c2:256-a<=i
   ·have c2':(256:Int)-a<=i:=by omega
    simp only [esc,c1',eb,hx,e1,c2'];exact fin (by rw [show i=256-a by omega])
   ·have c2':¬ (256:Int)-a<=i:=by omega
    have ih:=B6O hv (l:=l) (z:=z) (k:=k) ha hl hz hd d (i+1) m (by omega) (by omega) (by omega);have ea:J2 256 1 (pV h.length 0) (iV ((a+i:Nat):Int))=some (pV h.length (a+i)):=by rw [J3 (by omega)];simp
    have uP:=E9 (h:=h++[rT (A5 (I6 l a (data.take i))),rT z]) (id:=h.length) (off:=a+i) (cs:=A5 (I6 l a (data.take i))) (x:=.i .u8 data[i].toNat) (by simp)
     (by rw [hll i hia];omega)
    have e5:(I6 l a (data.take i)).set (a+i) data[i]=I6 l a (data.take (i+1)):=by
     have:=B0R (l:=l) (xs:=data.take i) (a:=a) (x:=data[i]) (by simp;omega);rw [E4k,E4N (by omega)] at this;rw [this,E36 c1]
    rw [jV,e5] at uP;simp only [esc,c1',eb,hx,e1,c2',A04 (show a+i<9223372036854775808 by omega),ea,uP,C6 (show i+1<9223372036854775808 by omega)];exact ih
  ·have c1':¬ (i:Int)<data.length:=by omega
   simp only [esc,c1'];exact fin (by rw [E3Y (by omega),E3Y (by omega)])
def A7w (l:List UInt8) (a:Int) (data:List UInt8):List UInt8:=if 0<=a/\a<256 then I6 l a.toNat (data.take (256-a.toNat)) else l
theorem D2g {l:List UInt8} {a:Int} {data:List UInt8} (hl:l.length=256):(A7w l a data).length=256:=by
 unfold A7w;split
 ·rw [O8 (by simp;omega),hl]
 ·exact hl
theorem D2r {v:Val} {nv:Nat} {data l:List UInt8} {g:A6} (hv:Has g v 1 nv (A5 data)) (hl:l.length=256) (hd:data.length<9223372036854775808) {a:Int} :
  ∃ g',B7F (data.length+1) [.a (A5 l),iV a,v] g=some (.a (A5 (A7w l a data)),g'):=by
 have bJ:(A5 l).length=256:=by rw [A4,hl]
 have hz:(E3Q 256 (Cell.i .u8 0)).length=256:=E4g;have hnv:data.length=nv:=by simpa [A4] using hv.length
 rw [C9O];generalize E3Q 256 (Cell.i .u8 0)=z at *;have s1:=B8 (h:=g++[rT (A5 l),rT z]) (id:=g.length) (cs:=A5 l) (n:=256) (by simp) bJ;have s2:=storeAll (h:=g++[rT (A5 l),rT z]) (id:=g.length+1) (cs:=z) (xs:=A5 l) (by simp) hz bJ;have s3:=B8 (h:=g++[rT (A5 l),rT (A5 l)]) (id:=g.length+1) (cs:=A5 l) (n:=256) (by simp) bJ;unfold A7w;by_cases c1:a<0
 ·rw [if_neg (by omega)];exact ⟨_,by simp only [esc,c1,s1,s2,s3];rfl⟩
 ·by_cases c2:256<=a
  ·rw [if_neg (by omega)];exact ⟨_,by simp only [esc,c1,c2,s1,s2,s3];rfl⟩
  ·rw [if_pos (by omega)];have:=B6O hv (l:=l) (a:=a.toNat) (k:=data.length+1) (z:=z) (by omega) hl hz hd data.length 0 (data.length+1) (by omega) (by omega) (by omega);simp only [show ((a.toNat:Nat):Int)=a by omega,E4P,B6E] at this;exact ⟨_,by simp only [esc,c1,c2,hv.len,<-hnv];exact this⟩
theorem B4l {v:Val} {nv:Nat} {data l:List UInt8} {h:A6} (hv:Has h v 1 nv (A5 data)) (hl:l.length=256) (hd:data.length<9223372036854775808) {a:Int} :
  B8y [.a (A5 l),iV a,v] h=some (.a (A5 (A7w l a data)),h):=by
 obtain ⟨g,e⟩:=D2r hv.ro hl hd (a:=a);exact C4d e (by simp)
theorem B0X {v:Val} {nv:Nat} {data:List UInt8} {h:A6} (hv:Has h v 1 nv (A5 data)) (hd:data.length<9223372036854775808) :
  C4e [v] h=some (.a (A5 (A7w (zeros 256) 0 data)),h):=by
 have key:∀ g,Has g v 1 nv (A5 data)->∃ g',C3v 0 [v] g=some (.a (A5 (A7w (zeros 256) 0 data)),g'):=by
  intro g hv;rw [D1a];have hz:(A5 (zeros 256)).length=256:=by rw [A4];exact zeros_length
  have hz0:(zeros 256).length=256:=zeros_length;rw [I3];generalize zeros 256=Z at *;have e:=B4l (hv.more [rT (A5 Z)]) hz0 hd (a:=0);have hl2:(A5 (A7w Z 0 data)).length=256:=by rw [A4,D2g hz0]
  have s2:=storeAll (h:=g++[rT (A5 Z)]) (id:=g.length) (cs:=A5 Z) (xs:=A5 (A7w Z 0 data)) (by simp) hz hl2;have s3:=B8 (h:=g++[rT (A5 (A7w Z 0 data))]) (id:=g.length) (cs:=A5 (A7w Z 0 data)) (n:=256) (by simp) hl2;exact ⟨_,by simp only [esc,D9,e,s2,s3];rfl⟩
 obtain ⟨g,e⟩:=key _ hv.ro;exact C7r e (by simp)
end Go.Proofs.YtbnkgnfhgbhblaaGreat
namespace Go.Proofs.YtbnkgnfhgbhblaaGreat
open Go Go.Esc
set_option maxRecDepth 100000
noncomputable section
variable (n m m2:Nat) (a0 a1 a2 x0 x1 x2 x5 x6 x7 x8 x9:Val) (h:A6)
def rX:FD Tryz.prog:=⟨px 0X11b02e861485c13762228c1915677c4c4813182dc18164a07c64c861c62a119861a07c4c040001f667c484a11b181519181043070241647c4c3e123f1918105219181043191810406051ec1915677c183c1319181042181330118210420170361276222461b3e2a862e5587f61a7587f185836581cb058345836061b1e2a8161487f44836061b1e2a84965387f5e383605617c4a1a12a3b210422103370361221032,[.c (.i .u64 0),.c (.b false),.c (.b true),.c (.i .u64 256)],[],[.tmp 6,.tmp 7],[]⟩
def C20:=rX.R
def C0C:AtH:=rX.lj 0 n [m] [x0,x1,x8,x9]
def C4k:=tT [⟨2,4,C0C⟩]
def C6K:=mR C20 rX C4k n [a0,a1,a2] h
def A9B:=mL rX C4k 0 n [m] [x0,x1,x8,x9] h
def C2A:=rX.K Tryz.func89
def B3b:=rX.S
theorem B1Q:SOk Tryz.prog 89 B3b:=C2A.sok
theorem C1G:E5 C20 B3b:=C2A.flat
def B0x:FD Tryz.prog:=⟨px 0X119c6164dc5e2a1361218c01887113a6802e28697c1b161a1e301ac6a04001c1197120116116122429657c3e19121a2104221033161121032,[],[],[.tmp 6],[cal B1Q]⟩
def B7l:=B0x.R
def C9B:=mR B7l B0x (tT []) n [a0,a1,a2] h
def C73:=B0x.K Tryz.func90
def A3V:=B0x.S
theorem pN:SOk Tryz.prog 90 A3V:=C73.sok
theorem C3F:E5 B7l A3V:=C73.flat
def kT:FD Tryz.prog:=⟨px 0X11a8417e2c124125c615607c2a1a131819c11361a7c42a131818c5162e13cc61017113fc64f836187c403e1c17651042156510430702461a17c006031965105265104365104060510165104251313b8151032143b911022,[.c (.i .u64 256)],[],[.tmp 4],[]⟩
def B42:=kT.R
def B15:AtH:=kT.lj 0 n [m] [x0,x1,x5,x6]
def B5Q:=tT [⟨2,4,B15⟩]
def C1g:=mR B42 kT B5Q n [a0,a1] h
def A4c:=mL kT B5Q 0 n [m] [x0,x1,x5,x6] h
def B4H:=kT.K Tryz.func123
def yG:=kT.S
theorem fZ:SOk Tryz.prog 123 yG:=B4H.sok
theorem B7P:qT B42 yG:=B4H.out
def jB:FD Tryz.prog:=⟨px 0X12ec613c5d126127c1815607c3a1e13182e87161e13cc61017113fc4c03c59151802c819161c62a119861a77c4048018071824363e2a861e16f7f66f1cb186f361a76f7f46f3486f360362a2a861a45d7f45d37e5d3601647c42c11f4a191872107219187210611a19c19161c61a11984e002815191872106215187210530702461e17c61c8001a1a141d1872106218721053187210506051011872105271313b81721042163b9121032,[.c (.b false)],[],[.tmp 6],[]⟩
def C21:=jB.R
def C0E:AtH:=jB.lj 0 n [m] [x0,x1,x2,x7,x8]
def C0D:AtH:=jB.lj 1 n [m] [x0,x1,x2,x7,x8,x9]
def B3O:=tT [⟨2,5,C0E⟩,⟨2,6,C0D⟩]
def C6L:=mR C21 jB B3O n [a0,a1,a2] h
def A9C:=mL jB B3O 0 n [m] [x0,x1,x2,x7,x8] h
def C5b:=mJ jB B3O 1 n [m] [x0,x1,x2,x7,x8,x9] h
def C2B:=jB.K Tryz.func58
def B3c:=jB.S
theorem mN:SOk Tryz.prog 58 B3c:=C2B.sok
theorem C3G:qT C21 B3c:=C2B.out
def nP:FD Tryz.prog:=⟨px 0X17411412188515607c5a1f13180134114122462e37c161c61a11982c04061c61a11986e0029118019395104315510330702461e17c61c8003a1b141e51042510335103060510151032030134114122461e37c61c84061c806151a1032102334111022,[.c (.b false),.c (.b true)],[],[.tmp 4],[]⟩
def B9V:=nP.R
def B6d:AtH:=nP.lj 0 n [m] [x0,x1,x5]
def B97:=tT [⟨2,3,B6d⟩]
def C22:=mR B9V nP B97 n [a0,a1] h
def A6R:=mL nP B97 0 n [m] [x0,x1,x5] h
def B9n:=nP.K Tryz.func20
def A8p:=nP.S
theorem dO:SOk Tryz.prog 20 A8p:=B9n.sok
theorem B7Q:E5 B9V A8p:=B9n.flat
def rW:FD Tryz.prog:=⟨px 0X1298613c4a126121d81815607c4839131828c7163a13cc61017113fc61c61a1198480003c3b11818151872105307024363a2a861a14d7f184d361a74d7f44d35e4d360362e2a861e1397f6391cb03932e393601647c41a11f381872106218721053187210506054c181419121872105271313b81721042163b9121032,[.c (.b false)],[],[.tmp 6],[]⟩
def C2Z:=rW.R
def A9A:AtH:=rW.lj 0 n [m] [x0,x1,x2,x7,x8]
def C4j:=tT [⟨2,5,A9A⟩]
def B1L:=mR C2Z rW C4j n [a0,a1,a2] h
def qE:=mL rW C4j 0 n [m] [x0,x1,x2,x7,x8] h
def C2z:=rW.K Tryz.func221
def B3a:=rW.S
theorem B1P:SOk Tryz.prog 221 B3a:=C2z.sok
theorem A8o:qT C2Z B3a:=C2z.out
end
end Go.Proofs.YtbnkgnfhgbhblaaGreat
namespace Go.Proofs.YtbnkgnfhgbhblaaGreat
open Go Go.Esc
theorem A7h {v u:Val} {nv nu:Nat} {l r:List UInt8} {h:A6} (hv:Has h v 1 nv (A5 l)) (hu:Has h u 1 nu (A5 r)) (hlr:l.length=r.length) (hl:l.length<9223372036854775807) {k:Nat}:∀ d i m,i+d=l.length->d<m ->
  B6d k m v u (iV i) h=some (bV (decide (l.drop i=r.drop i)),h)
 | d,i,0,_,hm=>by omega
 | 0,i,m+1,hi,hm=>by
  have hnv:l.length=nv:=by simpa [A4] using hv.length
  have e1:l.drop i=[]:=E32 (by omega);have e2:r.drop i=[]:=E32 (by omega);have h1':¬ (i:Int)<l.length:=by omega
  rw [A6R];simp only [esc,hv.len,<-hnv,h1',e1,e2]
 | d+1,i,m+1,hi,hm=>by
  have ih:=A7h hv hu hlr hl (k:=k) d (i+1) m (by omega) (by omega);have hnv:l.length=nv:=by simpa [A4] using hv.length
  have hnu:r.length=nu:=by simpa [A4] using hu.length
  have hlen:=hv.len;obtain ⟨id,off,rfl,hid,h1,h2⟩:=hv.sl (by omega);obtain ⟨fX,off',rfl,E2W,h1',h2'⟩:=hu.sl (by omega);have hx:=h1 i (.i .u8 l[i].toNat) (by rw [cC,E3P (by omega)];rfl);have hy:=h1' i (.i .u8 r[i].toNat) (by rw [cC,E3P (by omega)];rfl);have ea:D6 1 (sV id off nv 1) (iV (i:Int))=some (pV id (off+i)):=by rw [C5 (by omega)];simp
  have eb:D6 1 (sV fX off' nu 1) (iV (i:Int))=some (pV fX (off'+i)):=by rw [C5 (by omega)];simp
  have c1:(i:Int)<nv:=by omega
  rw [A6R,E3V (by omega:i<l.length),E3V (by omega:i<r.length)];by_cases c:l[i]=r[i]
  ·simp only [esc,c1,ea,eb,hx,hy,c,C6 (show i+1<9223372036854775808 by omega),List.cons.injEq,true_and];exact ih
  ·have c':¬ (l[i].toNat:Int)=r[i].toNat:=λe=>c (UInt8.toNat_inj.1 (by omega))
   simp only [esc,c1,ea,eb,hx,hy,c',c,List.cons.injEq,false_and]
theorem gP {v u:Val} {nv nu:Nat} {l r:List UInt8} {h:A6} (hv:Has h v 1 nv (A5 l)) (hu:Has h u 1 nu (A5 r)) (hl:l.length<9223372036854775807) :
  A8p [v,u] h=some (bV (decide (l=r)),h):=by
 refine B7Q (n:=l.length+1) (h2:=ro h) ?_ (by simp);have hnv:l.length=nv:=by simpa [A4] using hv.length
 have hnu:r.length=nu:=by simpa [A4] using hu.length
 rw [C22];by_cases c:l.length=r.length
 ·have:=A7h hv.ro hu.ro c hl (k:=l.length+1) l.length 0 (l.length+1) (by omega) (by omega);simp only [E39] at this;have c':(nv:Int)=nu:=by omega
  simp only [esc,hv.len,hu.len,c'];exact this
 ·have c':¬ (nv:Int)=nu:=by omega
  have c2:¬ l=r:=λe=>c (by rw [e])
  simp only [esc,hv.len,hu.len,c',c2]
theorem B0k {v:Val} {nv:Nat} {l:List UInt8} {h:A6} (hv:Has h v 1 nv (A5 l)) {a w k:Nat} (hw:w<=8) (haw:a+w<=l.length) (hl:l.length<9223372036854775808):∀ j m,j<=w->j<m ->
  C0C k m v (iV a) (.c (.i .u64 (le ((l.drop (a+j)).take (w-j))))) (iV ((j:Int)-1)) h=some (.t [.c (.i .u64 (le ((l.drop a).take w))),.c (.b true)],h)
 | j,0,_,hm=>by omega
 | 0,m+1,hj,hm=>by
  rw [A9B];have h1':¬ (0:Int)<=((0:Nat):Int)-1:=by omega
  simp only [esc,h1',Nat.sub_zero]
 | j+1,m+1,hj,hm=>by
  have ih:=B0k hv (k:=k) hw haw hl j m (by omega) (by omega);have hnv:l.length=nv:=by simpa [A4] using hv.length
  obtain ⟨id,off,rfl,hid,h1,h2⟩:=hv.sl (by omega);have hx:=h1 (a+j) (.i .u8 l[a+j].toNat) (by rw [cC,E3P (by omega)];rfl);have hb:=l[a+j].toNat_lt;have ea:D6 1 (sV id off nv 1) (iV ((a+j:Nat):Int))=some (pV id (off+(a+j))):=by rw [C5 (by omega)];simp
  have e0:((j+1:Nat):Int)-1=j:=by omega
  have e5:IntKind.wrap .u64 (l[a+j].toNat:Int)=l[a+j].toNat:=wrap_u64 (by omega) (by omega);have e6:IntKind.wrap .i64 ((j:Int)-1)=(j:Int)-1:=wrap_i64 (by omega) (by omega);have hlen:((l.drop (a+(j+1))).take (w-(j+1))).length=w-(j+1):=by simp;omega
  have bJ:=C0V ((l.drop (a+(j+1))).take (w-(j+1)));rw [hlen] at bJ;have hp:256 ^ (w-(j+1))<=256 ^ 7:=tM (by omega);have e7:(l.drop (a+j)).take (w-j)=l[a+j]::(l.drop (a+(j+1))).take (w-(j+1)):=by
   rw [E3V (by omega),show w-j=(w-(j+1))+1 by omega,List.take_succ_cons];rfl
  rw [e7] at ih;have e8:IntKind.wrap .u64 ((le ((l.drop (a+(j+1))).take (w-(j+1))):Nat)*256)=((le ((l.drop (a+(j+1))).take (w-(j+1)))*256:Nat):Int):=by
   rw [wrap_u64 (by omega) (by omega)];omega
  have e9:IntKind.wrap .u64 (((le ((l.drop (a+(j+1))).take (w-(j+1)))*256:Nat):Int)+l[a+j].toNat)=((le (l[a+j]::(l.drop (a+(j+1))).take (w-(j+1))):Nat):Int):=by
   simp only [le];rw [wrap_u64 (by omega) (by omega)];omega
  have h1':(0:Int)<=j:=by omega
  rw [A9B,e0];simp only [esc,h1',A04 (show a+j<9223372036854775808 by omega),ea,hx,e5,e8,e9,e6];exact ih
theorem B62 {v:Val} {nv:Nat} {l:List UInt8} {h:A6} (hv:Has h v 1 nv (A5 l)) {a w:Int} (hl:l.length<9223372036854775808) :
  B3b [v,iV a,iV w] h=some (.t [.c (.i .u64 ((C5o l a w).getD 0:Nat)),.c (.b (C5o l a w).isSome)],h):=by
 refine C1G (n:=w.toNat+1) (h2:=ro h) ?_ (by simp);rw [C6K];have hv':=hv.ro;have hnv:l.length=nv:=by simpa [A4] using hv.length
 unfold C5o;by_cases c1:w<1
 ·rw [if_neg (by rw [N0];omega)];simp only [esc,c1,E4F,E4d]<;>rfl
 ·by_cases c2:8<w
  ·rw [if_neg (by omega)];simp only [esc,c1,c2,E4F,E4d]<;>rfl
  ·by_cases c3:a<0
   ·rw [if_neg (by rw [N0];omega)];simp only [esc,c1,c2,c3,E4F,E4d]<;>rfl
   ·have e1:IntKind.wrap .i64 ((nv:Int)-w)=nv-w:=wrap_i64 (by omega) (by omega);by_cases c4:(nv:Int)-w<a
    ·rw [if_neg (by rw [N0];omega)];simp only [esc,c1,c2,c3,c4,hv'.len,e1,E4F,E4d]<;>rfl
    ·rw [if_pos (by rw [N0];omega)];have:=B0k hv' (a:=a.toNat) (w:=w.toNat) (k:=w.toNat+1) (by omega) (by omega) hl w.toNat (w.toNat+1) (by omega) (by omega);simp only [show ((a.toNat:Nat):Int)=a by omega,show ((w.toNat:Nat):Int)=w by omega,E4y,E4P,le] at this;have e2:IntKind.wrap .i64 (w-1)=w-1:=wrap_i64 (by omega) (by omega);simp only [esc,c1,c2,c3,c4,hv'.len,e1,e2,E4w,E33];exact this
theorem A4D {g:A6} {w k:Nat} {v:Int} (hw:w<=8) (hv:0<=v) (hv2:v<18446744073709551616):∀ d i m h id,i+d=w->d<m->Low g.length g h->g.length<=id->rd h id=rT (A5 (A9 i v)) ->
  ∃ v' h',B15 k m (iV w) (.c (.i .u64 (v/256 ^ i))) (sV id 0 i 1) (iV i) h=some (v',h')/\Out g.length h' v' 1 w (A5 (A9 w v))
 | d,i,0,h,id,_,hm,_,_,_=>by omega
 | 0,i,m+1,h,id,hi,hm,hlow,hb,hr=>by
  have e:i=w:=by omega
  subst e;have h1':¬ (i:Int)<i:=by omega
  rw [A4c];exact ⟨_,_,by simp only [esc,h1']<;>rfl,by simp [A4],id,rfl,hb,hr⟩
 | d+1,i,m+1,h,id,hi,hm,hlow,hb,hr=>by
  have hq:0<=v/256 ^ i:=Int.ediv_nonneg hv (Int.pow_nonneg (by omega));have e1:N9 .rem (.c (.i .u64 (v/256 ^ i))) (.c (.i .u64 256))=some (.c (.i .u64 (v/256 ^ i%256))):=by
   rw [D1e (by omega),Int.tmod_eq_emod_of_nonneg hq]
  have e2:IntKind.wrap .u8 (v/256 ^ i%256)=((byI v i).toNat:Int):=by rw [wA,yK];omega
  have bJ:v/256 ^ i<=v:=Int.ediv_le_self _ hv;have e3:N9 .quo (.c (.i .u64 (v/256 ^ i))) (.c (.i .u64 256))=some (.c (.i .u64 (v/256 ^ (i+1)))):=by
   have h0:v/256 ^ i/256=v/256 ^ (i+1):=by rw [Int.ediv_ediv_of_nonneg (Int.pow_nonneg (by omega)),Int.pow_succ]
   rw [D1d (by omega),Int.tdiv_eq_ediv_of_nonneg hq,h0];have h1:0<=v/256 ^ (i+1):=Int.ediv_nonneg hv (Int.pow_nonneg (by omega));have h2:v/256 ^ (i+1)<=v:=Int.ediv_le_self _ hv;exact congrArg some (congrArg Val.c (congrArg (Cell.i .u64) (wrap_u64 h1 (by omega))))
  obtain ⟨h',a1,a2,a3,a4,a5⟩:=push (ys:=[.i .u8 (byI v i).toNat]) (sz:=1) (n:=i) hlow hr (by simp [A4]) hb rfl (by omega) (by omega);have e4:A5 (A9 i v)++[Cell.i .u8 (byI v i).toNat]=A5 (A9 (i+1) v):=by rw [A1T,J7];rfl
  rw [e4] at a2;obtain ⟨v',h'',b1,b2⟩:=A4D (k:=k) hw hv hv2 d (i+1) m h' (h.length+1) (by omega) (by omega) a3 a4 a2;have h1':(i:Int)<w:=by omega
  have e5:D9 [Cell.i .u8 0] [(0,1,.c (.i .u8 (byI v i).toNat))]=some [.i .u8 (byI v i).toNat]:=rfl;rw [A4c];exact ⟨v',h'',by simp only [esc,h1',e1,e2,e5,a1,e3,C6 (show i+1<9223372036854775808 by omega)];exact b1,b2⟩
theorem A0W {w:Nat} {v:Int} {h:A6} (hw:w<=8) (hv:0<=v) (hv2:v<18446744073709551616) :
  yG [iV w,.c (.i .u64 v)] h=some (sV h.length 0 w 1,h++[rT (A5 (A9 w v))]):=by
 obtain ⟨v',h',e,ho⟩:=A4D (g:=ro h) (k:=w+1) hw hv hv2 w 0 (w+1) (ro h++[rT [],rT []]) ((ro h).length+1) (by omega) (by omega) ((Low.refl (E3T _)).new _) (by simp) (by simp [A9];rfl);refine B7P (n:=w+1) (v:=v') (h2:=h') ?_ (by simpa [E7] using ho) (by simp);rw [C1g];simp only [Int.pow_zero,Int.ediv_one] at e;simp only [esc];exact e
def A7x (l:List UInt8) (a:Int) (data:List UInt8):List UInt8:=if 0<=a then l.take a.toNat++((data.take (l.length-a.toNat))++l.drop (a.toNat+data.length)) else l
theorem A95 {l data:List UInt8} {a:Int}:(A7x l a data).length=l.length:=by
 unfold A7x;split
 ·simp;omega
 ·rfl
theorem D7C {l data:List UInt8} {a:Int} {i:Nat} (hi:i<l.length):(A7x l a data)[i]?=if 0<=a/\a<=i/\i-a<data.length then data[i-a.toNat]? else l[i]? := by
 unfold A7x;by_cases c1:0<=a
 ·rw [if_pos c1];by_cases c2:a<=i
  ·rw [E35 (by simp;omega)];have e1:(l.take a.toNat).length=a.toNat:=by simp;omega
   rw [e1];by_cases c3:i-a<data.length
   ·rw [if_pos ⟨c1,c2,c3⟩,E4r (by simp;omega),E4n (by omega)]
   ·rw [if_neg (by omega),E35 (by simp;omega),E4G]
    congr 1
    simp;omega
  ·rw [if_neg (by omega),E4r (by simp;omega),E4n (by omega)]
 ·rw [if_neg c1,if_neg (by omega)]
theorem B0l {g:A6} {v u:Val} {nv nu:Nat} {l data:List UInt8} (hv:Has g v 1 nv (A5 l)) (hu:Has g u 1 nu (A5 data)) {a:Int} (ha:a<9223372036854775808) {k:Nat} (hl:l.length<=1073741824):∀ d i m h id,i+d=l.length->d<m->Low g.length g h->g.length<=id->rd h id=rT (A5 ((A7x l a data).take i)) ->
  ∃ v' h',C0E k m v (iV a) u (sV id 0 i 1) (iV i) h=some (v',h')/\Out g.length h' v' 1 l.length (A5 (A7x l a data))
 | d,i,0,h,id,_,hm,_,_,_=>by omega
 | 0,i,m+1,h,id,hi,hm,hlow,hb,hr=>by
  have hnv:l.length=nv:=by simpa [A4] using hv.length
  have e:i=nv:=by omega
  subst e;have h1':¬ (i:Int)<i:=by omega
  rw [E3Y (by rw [A95];omega)] at hr;rw [A9C];exact ⟨_,_,by simp only [esc,(hv.since hlow).len,h1']<;>rfl,by simp [A4,A95],id,by rw [hnv],hb,hr⟩
 | d+1,i,m+1,h,id,hi,hm,hlow,hb,hr=>by
  have hnv:l.length=nv:=by simpa [A4] using hv.length
  have hnu:data.length=nu:=by simpa [A4] using hu.length
  have hvl:=(hv.since hlow).len;have hul:=(hu.since hlow).len;obtain ⟨idv,offv,rfl,-,hv1,-⟩:=(hv.since hlow).sl (by omega);have hx:=hv1 i (.i .u8 l[i].toNat) (by rw [cC,E3P (by omega)];rfl);have ea:D6 1 (sV idv offv nv 1) (iV (i:Int))=some (pV idv (offv+i)):=by rw [C5 (by omega)];simp
  have c1:(i:Int)<nv:=by omega
  have step:∀ x:UInt8,(A7x l a data)[i]?=some x->∃ v' h',C0D k m (sV idv offv nv 1) (iV a) u (sV id 0 i 1) (iV i) (.c (.i .u8 x.toNat)) h=some (v',h')/\Out g.length h' v' 1 l.length (A5 (A7x l a data)):=by
   intro x hx;obtain ⟨h',a1,a2,a3,a4,a5⟩:=push (ys:=[.i .u8 x.toNat]) (sz:=1) (n:=i) hlow hr (by rw [A4,E4k,A95];omega) hb rfl (by omega) (by omega);have e4:A5 ((A7x l a data).take i)++[Cell.i .u8 x.toNat]=A5 ((A7x l a data).take (i+1)):=by
    rw [List.take_add_one,hx,J7];rfl
   rw [e4] at a2;obtain ⟨v',h'',b1,b2⟩:=B0l (k:=k) hv hu ha hl d (i+1) m h' (h.length+1) (by omega) (by omega) a3 a4 a2;have e5:D9 [Cell.i .u8 0] [(0,1,.c (.i .u8 x.toNat))]=some [.i .u8 x.toNat]:=rfl;rw [C5b];exact ⟨v',h'',by simp only [esc,e5,a1,C6 (show i+1<9223372036854775808 by omega)];exact b1,b2⟩
  have hg:=D7C (l:=l) (data:=data) (a:=a) (i:=i) (by omega);have hli:l[i]?=some l[i]:=E3P (by omega);rw [A9C];by_cases c2:0<=a
  ·by_cases c3:a<=i
   ·have e6:IntKind.wrap .i64 ((i:Int)-a)=((i-a.toNat:Nat):Int):=by rw [wrap_i64 (by omega) (by omega)];omega
    by_cases c4:i-a.toNat<data.length
    ·rw [if_pos (by omega),E3P c4] at hg;obtain ⟨idu,offu,rfl,-,hu1,-⟩:=(hu.since hlow).sl (by omega);have hy:=hu1 (i-a.toNat) (.i .u8 (data[i-a.toNat]'(by omega)).toNat) (by rw [cC,E3P c4];rfl);have eb:D6 1 (sV idu offu nu 1) (iV ((i-a.toNat:Nat):Int))=some (pV idu (offu+(i-a.toNat))):=by rw [C5 (by omega)];simp
     have c4':((i-a.toNat:Nat):Int)<nu:=by omega
     simp only [esc,hvl,c1,ea,hx,c2,c3,e6,hul,c4',eb,hy];exact step _ hg
    ·rw [if_neg (by omega),hli] at hg;have c4':¬ ((i-a.toNat:Nat):Int)<nu:=by omega
     simp only [esc,hvl,c1,ea,hx,c2,c3,e6,hul,c4'];exact step _ hg
   ·rw [if_neg (by omega),hli] at hg;simp only [esc,hvl,c1,ea,hx,c2,c3];exact step _ hg
  ·rw [if_neg (by omega),hli] at hg;simp only [esc,hvl,c1,ea,hx,c2];exact step _ hg
theorem qO {v u:Val} {nv nu:Nat} {l data:List UInt8} {h:A6} (hv:Has h v 1 nv (A5 l)) (hu:Has h u 1 nu (A5 data)) {a:Int} (ha:a<9223372036854775808) (hl:l.length<=1073741824) :
  B3c [v,iV a,u] h=some (sV h.length 0 l.length 1,h++[rT (A5 (A7x l a data))]):=by
 obtain ⟨v',h',e,ho⟩:=B0l (k:=l.length+1) hv.ro hu.ro ha hl l.length 0 (l.length+1) (ro h++[rT [],rT []]) ((ro h).length+1) (by omega) (by omega) ((Low.refl (E3T _)).new _) (by simp) (by simp;rfl);refine C3G (n:=l.length+1) (v:=v') (h2:=h') ?_ (by simpa [E7] using ho) (by simp);rw [C6L];simp only [esc];exact e
theorem A4s {l xs:List UInt8} {a:Nat} (h:a+xs.length<=l.length):A7x l a xs=I6 l a xs:=by
 unfold A7x I6;rw [if_pos (by omega)];simp only [E38];rw [E3Y (l:=xs) (by omega)]
def atG (l:List UInt8) (a w:Int):Nat:=if w<=4/\qS a w l.length=true then le ((l.drop a.toNat).take w.toNat) else 0
theorem D8P {l:List UInt8} {a w:Int} (hl:l.length=256):atG l a w=atN l a w:=by
 unfold atG atN;rw [hl];rfl
theorem C9l {v:Val} {nv:Nat} {l:List UInt8} {h:A6} (hv:Has h v 1 nv (A5 l)) {a w:Int} (hl:l.length<9223372036854775808) :
  A3V [v,iV a,iV w] h=some (iV (atG l a w),h):=by
 have key:∀ g,Has g v 1 nv (A5 l)->B7l 0 [v,iV a,iV w] g=some (iV (atG l a w),g):=by
  intro g hv;rw [C9B];unfold atG;by_cases c1:4<w
  ·rw [if_neg (by omega)];simp only [esc,c1]<;>rfl
  ·have e:=B62 hv (a:=a) (w:=w) hl;unfold C5o at e;by_cases c2:qS a w l.length=true
   ·have c3:=N0.1 c2;rw [if_pos ⟨by omega,c2⟩] at e;rw [if_pos ⟨by omega,c2⟩];have bJ:=C0V ((l.drop a.toNat).take w.toNat);have hlen:((l.drop a.toNat).take w.toNat).length=w.toNat:=by simp;omega
    rw [hlen] at bJ;have hp:256 ^ w.toNat<=256 ^ 4:=tM (by omega);simp only [E4w,E33] at e;have e2:IntKind.wrap .i64 ((le ((l.drop a.toNat).take w.toNat):Nat):Int)=le ((l.drop a.toNat).take w.toNat):=wrap_i64 (by omega) (by omega);simp only [esc,c1,e,e2]
   ·rw [if_neg (λh=>c2 h.2)] at e;rw [if_neg (λh=>c2 h.2)];simp only [E4F,E4d] at e;simp only [esc,c1,e]<;>rfl
 exact C3F (key _ hv.ro) (by simp)
theorem oR {v:Val} {nv:Nat} {l:List UInt8} {h:A6} (hv:Has h v 1 nv (A5 l)) {a w:Int} (hl:l.length=256) :
  A3V [v,iV a,iV w] h=some (iV (atN l a w),h):=by
 rw [C9l hv (by omega),D8P hl]
theorem D6S {v:Int} {i:Nat} (hi:i<8):byI (IntKind.wrap .u64 v) i=byI v i:=by
 have hw:IntKind.wrap .u64 v=v%18446744073709551616:=by
  simp only [IntKind.wrap,IntKind.bits,IntKind.signed,E3W];rfl
 apply UInt8.toNat_inj.1;have h1:((byI (IntKind.wrap .u64 v) i).toNat:Int)=(v%18446744073709551616)/256 ^ i%256:=by rw [yK,hw]
 have h2:=yK v i;have h3:(v%18446744073709551616)/256 ^ i%256=v/256 ^ i%256:=by
  have:i=0\/i=1\/i=2\/i=3\/i=4\/i=5\/i=6\/i=7:=by omega
  rcases this with rfl | rfl | rfl | rfl | rfl | rfl | rfl | rfl<;>simp only [Int.reducePow]<;>omega
 omega
theorem D1C {v:Int} {w:Nat} (hw:w<=8):A9 w (IntKind.wrap .u64 v)=A9 w v:=by
 unfold A9;refine List.map_congr_left λi hi=>D6S ?_
 have:=List.mem_range.1 hi;omega
theorem B0j {g:A6} {v:Val} {nv:Nat} {l:List UInt8} (hv:Has g v 1 nv (A5 l)) {a n:Int} (h0:0<=a) (h1:a<9223372036854775808) {k:Nat} (hl:l.length<=1073741824):∀ d i m h id,i+d=(bI l a n).length->d<m->Low g.length g h->g.length<=id->rd h id=rT (A5 ((bI l a n).take i)) ->
  ∃ v' h',A9A k m v (iV a) (iV n) (sV id 0 i 1) (iV (a+i)) h=some (v',h')/\Out g.length h' v' 1 (bI l a n).length (A5 (bI l a n))
 | d,i,0,h,id,_,hm,_,_,_=>by omega
 | 0,i,m+1,h,id,hi,hm,hlow,hb,hr=>by
  have hnv:l.length=nv:=by simpa [A4] using hv.length
  have e:i=(bI l a n).length:=by omega
  rw [E3Y (by omega)] at hr;have hc:(bI l a n).length=min n.toNat (l.length-a.toNat):=by unfold bI;rw [if_pos h0];simp
  rw [qE];subst e;by_cases c1:a+((bI l a n).length:Int)<nv
  ·have c2:¬ ((bI l a n).length:Int)<n:=by omega
   have e1:IntKind.wrap .i64 (a+((bI l a n).length:Int)-a)=(bI l a n).length:=by rw [wrap_i64 (by omega) (by omega)];omega
   exact ⟨_,_,by simp only [esc,(hv.since hlow).len,h0,c1,e1,c2]<;>rfl,by simp [A4],id,rfl,hb,hr⟩
  ·exact ⟨_,_,by simp only [esc,(hv.since hlow).len,h0,c1]<;>rfl,by simp [A4],id,rfl,hb,hr⟩
 | d+1,i,m+1,h,id,hi,hm,hlow,hb,hr=>by
  have hnv:l.length=nv:=by simpa [A4] using hv.length
  have hc:(bI l a n).length=min n.toNat (l.length-a.toNat):=by unfold bI;rw [if_pos h0];simp
  have hvl:=(hv.since hlow).len;obtain ⟨idv,offv,rfl,-,hv1,-⟩:=(hv.since hlow).sl (by omega);have hx:=hv1 (a.toNat+i) (.i .u8 (l[a.toNat+i]'(by omega)).toNat) (by rw [cC,E3P (by omega)];rfl);have e0:(a+(i:Int))=((a.toNat+i:Nat):Int):=by omega
  have ea:D6 1 (sV idv offv nv 1) (iV ((a.toNat+i:Nat):Int))=some (pV idv (offv+(a.toNat+i))):=by rw [C5 (by omega)];simp
  have c1:((a.toNat+i:Nat):Int)<nv:=by omega
  have e1:IntKind.wrap .i64 (((a.toNat+i:Nat):Int)-a)=i:=by rw [wrap_i64 (by omega) (by omega)];omega
  have c2:(i:Int)<n:=by omega
  obtain ⟨h',a1,a2,a3,a4,a5⟩:=push (ys:=[.i .u8 (l[a.toNat+i]'(by omega)).toNat]) (sz:=1) (n:=i) hlow hr (by rw [A4,E4k];omega) hb rfl (by omega) (by omega);have e4:A5 ((bI l a n).take i)++[Cell.i .u8 (l[a.toNat+i]'(by omega)).toNat]=A5 ((bI l a n).take (i+1)):=by
   have:(bI l a n)[i]?=some (l[a.toNat+i]'(by omega)):=by
    unfold bI;rw [if_pos h0,E4n (by omega),E4G,E3P (by omega)]
   rw [List.take_add_one,this,J7];rfl
  rw [e4] at a2;obtain ⟨v',h'',b1,b2⟩:=B0j (k:=k) hv h0 h1 hl d (i+1) m h' (h.length+1) (by omega) (by omega) a3 a4 a2;have e6:a+((i+1:Nat):Int)=((a.toNat+i+1:Nat):Int):=by omega
  rw [e6] at b1;have e5:D9 [Cell.i .u8 0] [(0,1,.c (.i .u8 (l[a.toNat+i]'(by omega)).toNat))]=some [.i .u8 (l[a.toNat+i]'(by omega)).toNat]:=rfl;rw [qE,e0];exact ⟨v',h'',by simp only [esc,hvl,h0,c1,e1,c2,ea,hx,e5,a1,C6 (show a.toNat+i+1<9223372036854775808 by omega)];exact b1,b2⟩
theorem A6h {v:Val} {nv:Nat} {l:List UInt8} {h:A6} (hv:Has h v 1 nv (A5 l)) {a n:Int} (h1:a<9223372036854775808) (hl:l.length<=1073741824) :
  B3a [v,iV a,iV n] h=some (sV h.length 0 (bI l a n).length 1,h++[rT (A5 (bI l a n))]):=by
 by_cases h0:0<=a
 ·obtain ⟨v',h',e,ho⟩:=B0j (k:=(bI l a n).length+1) (n:=n) hv.ro h0 h1 hl (bI l a n).length 0 ((bI l a n).length+1) (ro h++[rT [],rT []]) ((ro h).length+1) (by omega) (by omega) ((Low.refl (E3T _)).new _) (by simp) (by simp;rfl);refine A8o (n:=(bI l a n).length+1) (v:=v') (h2:=h') ?_ (by simpa [E7] using ho) (by simp);rw [B1L];simp only [esc];simpa using e
 ·have e:bI l a n=[]:=by unfold bI;rw [if_neg h0]
  rw [e];refine A8o (n:=1) (v:=sV ((ro h).length+1) 0 0 1) (h2:=ro h++[rT [],rT []]) ?_ ⟨by simp [A4],_,rfl,by rw [E7];omega,by simp;rfl⟩ (by simp);rw [B1L];have:∀ n:Nat,∀ x h,A9A n 1 v (iV a) x (sV ((ro h).length+1) 0 0 1) (iV a) h=some (sV ((ro h).length+1) 0 0 1,h):=by
   intro n x h;rw [qE n 0];simp only [esc,h0]
  simp only [esc];have e2:=qE 1 0 v (iV a) (iV n) (sV ((ro h).length+1) 0 0 1) (iV a) (ro h++[rT [],rT []]);rw [e2];simp only [esc,h0]
theorem B6N {v:Val} {nv:Nat} {l:List UInt8} {h:A6} (hv:Has h v 1 nv (A5 l)) {a w k:Nat} (hw:w<=8) (haw:a+w<=l.length) (hl:l.length<9223372036854775808):∀ d i m,i+d=w->d<m ->
  C5X k m v (iV a) (.c (.i .u64 (le ((l.drop a).take i)))) (iV w) (iV i) h=some (.t [.c (.i .u64 (le ((l.drop a).take w))),.c (.b true)],h)
 | d,i,0,_,hm=>by omega
 | 0,i,m+1,hi,hm=>by
  have e:i=w:=by omega
  subst e;rw [B2t];simp
 | d+1,i,m+1,hi,hm=>by
  have ih:=B6N hv (k:=k) hw haw hl d (i+1) m (by omega) (by omega);have hnv:l.length=nv:=by simpa [A4] using hv.length
  obtain ⟨id,off,rfl,hid,h1,h2⟩:=hv.sl (by omega);have hx:=h1 (a+i) (.i .u8 l[a+i].toNat) (by rw [cC,E3P (by omega)];rfl);have hb:=l[a+i].toNat_lt;have hlen:((l.drop a).take i).length=i:=by simp;omega
  have bJ:=C0V ((l.drop a).take i);rw [hlen] at bJ;have hp:=tM (show i<=8 by omega);have hbp:=C0p (x:=l[a+i]) (show i<8 by omega);have e2:IntKind.wrap .i64 (8*(i:Int))=8*i:=wrap_i64 (by omega) (by omega);have e3:IntKind.wrap .u64 (8*(i:Int))=8*i:=wrap_u64 (by omega) (by omega);have e5:IntKind.wrap .u64 (l[a+i].toNat:Int)=l[a+i].toNat:=wrap_u64 (by omega) (by omega);have e6:=D2P (k:=.u64) (x:=l[a+i]) (show i<8 by omega) (wrap_u64 (by omega) (by omega)) rfl;have e7:N9 .or (.c (.i .u64 (le ((l.drop a).take i):Nat))) (.c (.i .u64 ((l[a+i].toNat*256 ^ i:Nat):Int)))=some (.c (.i .u64 (le ((l.drop a).take (i+1)):Nat))):=by
   rw [E1h (by omega) (by omega),A3E (by omega),<-D4Q,hlen]
  have ea:D6 1 (sV id off nv 1) (iV ((a+i:Nat):Int))=some (pV id (off+(a+i))):=by rw [C5 (by omega)];simp
  have h1':(i:Int)<w:=by omega
  rw [B2t];simp only [esc,h1',A04 (show a+i<9223372036854775808 by omega),e2,e3,ea,hx,e5,e6,e7,C6 (show i+1<9223372036854775808 by omega)];exact ih
theorem D3H {v:Val} {nv:Nat} {l:List UInt8} {h:A6} (hv:Has h v 1 nv (A5 l)) {a w:Int} (hl:l.length<9223372036854775808) :
  B8x [v,iV a,iV w] h=some (.t [.c (.i .u64 ((C5o l a w).getD 0:Nat)),.c (.b (C5o l a w).isSome)],h):=by
 refine C4c (n:=w.toNat+1) (h2:=ro h) ?_ (by simp);rw [C9N];have hv':=hv.ro;have hnv:l.length=nv:=by simpa [A4] using hv.length
 unfold C5o;by_cases c1:8<w
 ·have c1':¬ w<=8:=by omega
  simp [c1,c1']
 ·have c1':w<=8:=by omega
  cases c2:qS a w l.length with
  | false=>simp [c1,hv'.len,<-hnv,vZ (show (l.length:Int)<9223372036854775808 by omega),c2]
  | true =>
   simp [c1,c1',hv'.len,<-hnv,vZ (show (l.length:Int)<9223372036854775808 by omega),c2];rw [N0] at c2;have:=B6N hv' (a:=a.toNat) (w:=w.toNat) (k:=w.toNat+1) (by omega) (by omega) hl w.toNat 0 (w.toNat+1) (by omega) (by omega);simp only [show ((a.toNat:Nat):Int)=a by omega,show ((w.toNat:Nat):Int)=w by omega] at this;simpa [le] using this
theorem B6P {l:List UInt8} {b id a w k:Nat} {v:Int} (hw:w<=8) (haw:a+w<=l.length) (hl:l.length<9223372036854775808):∀ d i m (h:A6),i+d=w->d<m->b<=id->b<=h.length->rd h id=rT (A5 (I6 l a (A9 i v))) ->
  ∃ h',C50 k m (iV a) (.c (.i .u64 v)) (sV id 0 l.length 1) (iV w) (iV i) h=some (.t [.c (.sl id 0 l.length 1),.c (.b true)],h')/\rd h' id=rT (A5 (I6 l a (A9 w v)))
 | d,i,0,h,_,hm,_,_,_=>by omega
 | 0,i,m+1,h,hi,hm,_,_,hr=>by
  have e:i=w:=by omega
  subst e;have h1':¬ (i:Int)<i:=by omega
  rw [B2u];exact ⟨h,by simp only [esc,h1'],hr⟩
 | d+1,i,m+1,h,hi,hm,hb,hbl,hr=>by
  have e2:IntKind.wrap .i64 (8*(i:Int))=8*i:=wrap_i64 (by omega) (by omega);have e3:IntKind.wrap .u64 (8*(i:Int))=8*i:=wrap_u64 (by omega) (by omega);have e4:N9 .shr (.c (.i .u64 v)) (.c (.i .u64 (8*(i:Int))))=some (.c (.i .u64 (v/2 ^ (E4W (8*(i:Int)).toNat 64)))):=C4v (by omega);have ea:D6 1 (sV id 0 l.length 1) (iV ((a+i:Nat):Int))=some (pV id (a+i)):=by rw [C5 (by omega)];simp
  have uP:=E9 (off:=a+i) (x:=.i .u8 (byI v i).toNat) hr (by rw [A4,O8 (by simp;omega)];omega);have e5:(I6 l a (A9 i v)).set (a+i) (byI v i)=I6 l a (A9 (i+1) v):=by
   rw [A1T];have:=B0R (l:=l) (xs:=A9 i v) (a:=a) (x:=byI v i) (by simp;omega);simpa using this
  rw [jV,e5] at uP;obtain ⟨h',ih,hr'⟩:=B6P (b:=b) (k:=k) (v:=v) hw haw hl d (i+1) m (h.set id (rT (A5 (I6 l a (A9 (i+1) v))))) (by omega) (by omega) hb (by simpa using hbl) (B6 (C4 hr));have h1':(i:Int)<w:=by omega
  rw [B2u];exact ⟨h',by simp only [esc,h1',A04 (show a+i<9223372036854775808 by omega),e2,e3,e4,C8F (v:=v) (show i<8 by omega),ea,uP,C6 (show i+1<9223372036854775808 by omega)];exact ih,hr'⟩
def B6Y (l:List UInt8) (a w v:Int):Option (List UInt8):=if w<=8/\qS a w l.length=true then some (I6 l a.toNat (A9 w.toNat v)) else none
theorem D3I {x:Val} {nv:Nat} {l:List UInt8} {h:A6} (hv:Has h x 1 nv (A5 l)) {a w v:Int} (hl:l.length<=1073741824) :
  B8z [x,iV a,iV w,.c (.i .u64 v)] h=some (.t [.c (.sl h.length 0 ((B6Y l a w v).getD []).length 1),.c (.b (B6Y l a w v).isSome)],h++[rT (A5 ((B6Y l a w v).getD []))]):=by
 have hnv:l.length=nv:=by simpa [A4] using hv.length
 have key:∀ g,Has g x 1 nv (A5 l)->∃ id g',B7G (w.toNat+1) [x,iV a,iV w,.c (.i .u64 v)] g=some (.t [.c (.sl id 0 ((B6Y l a w v).getD []).length 1),.c (.b (B6Y l a w v).isSome)],g')/\g.length<=id/\rd g' id=rT (A5 ((B6Y l a w v).getD [])):=by
  intro g hv;rw [C9P];have hvm:=hv.more [rT []];unfold B6Y;by_cases c1:8<w
  ·rw [if_neg (by omega)];exact ⟨_,_,by simp only [esc,c1];rfl,by simp,by simp;rfl⟩
  ·cases c2:qS a w l.length with
   | false =>
    rw [if_neg (by simp)];exact ⟨_,_,by simp only [esc,c1,hvm.len,<-hnv,vZ (show (l.length:Int)<9223372036854775808 by omega),c2];rfl,by simp,by simp;rfl⟩
   | true =>
    rw [if_pos ⟨by omega,rfl⟩];have c3:=N0.1 c2;have hvm2:=hv.more [rT [],rT []];have e1:iY (g++[rT [],rT []]) 1 (sV (g.length+1) 0 0 1) x=some (sV (g.length+2) 0 l.length 1,g++[rT [],none,rT (A5 l)]):=by
     simp [iY,hvm2.add,A4];exact hl
    obtain ⟨g',e2,hr⟩:=B6P (l:=l) (b:=g.length) (id:=g.length+2) (a:=a.toNat) (w:=w.toNat) (k:=w.toNat+1) (v:=v) (by omega) (by omega) (by omega) w.toNat 0 (w.toNat+1) (g++[rT [],none,rT (A5 l)]) (by omega) (by omega) (by omega) (by simp) (by simp [A9,B6E]);simp only [show ((a.toNat:Nat):Int)=a by omega,show ((w.toNat:Nat):Int)=w by omega] at e2;have hlen:((some (I6 l a.toNat (A9 w.toNat v))).getD []).length=l.length:=by
     simp only [E4w];rw [O8 (by simp;omega)]
    rw [hlen];exact ⟨g.length+2,g',by simp only [esc,c1,hvm.len,<-hnv,vZ (show (l.length:Int)<9223372036854775808 by omega),c2,D9,e1];exact e2,by omega,hr⟩
 obtain ⟨id,g',e,hb,hr⟩:=key _ hv.ro;have hb':h.length<=id:=by simpa [E7] using hb
 have:=C4f e (v2:=.t [.c (.sl h.length 0 ((B6Y l a w v).getD []).length 1),.c (.b (B6Y l a w v).isSome)]) (ids:=[id]) (by
  have e2:Q5 g' h.length [id] [.b (B6Y l a w v).isSome]=some ([.b (B6Y l a w v).isSome],[id]):=bZ (by simp);simp [W4,fH,Q5,hb',show ¬ id<h.length by omega,zP hr (by simp:N3 (A5 ((B6Y l a w v).getD []))=true)])
 rw [this];simp [hr]
def N5 (n:Nat) (l:List UInt8):List UInt8:=l++zeros (n-l.length)
theorem F5 {n:Nat} {l:List UInt8} (h:l.length<=n):(N5 n l).length=n:=by
 unfold N5;rw [E3S,zeros_length];omega
theorem B6U {n:Nat}:N5 n []=zeros n:=by simp [N5]
theorem B0g {l xs:List UInt8} {a:Nat} (h1:l.length<=a) (h2:a+xs.length<=256):I6 (N5 256 l) a xs=N5 256 (l++zeros (a-l.length)++xs):=by
 unfold I6 N5;have e1:(l++zeros (256-l.length)).take a=l++zeros (a-l.length):=by
  rw [List.take_append,E3Y h1];unfold zeros;rw [List.take_replicate,E4N (by omega)]
 have e2:(l++zeros (256-l.length)).drop (a+xs.length)=zeros (256-(l++zeros (a-l.length)++xs).length):=by
  rw [List.drop_append,E32 (by omega),E37];unfold zeros;rw [List.drop_replicate]
  congr 1
  simp;omega
 rw [e1,e2];simp only [E3U]
theorem gQ {l:List UInt8} {a w:Nat} {v:Int} (h1:l.length<=a) (h2:a+w<=256) (hw:1<=w) (hw4:w<=4):gH (N5 256 l) a w v=N5 256 (l++zeros (a-l.length)++A9 w v):=by
 unfold gH;rw [if_pos ⟨by omega,N0.2 (by omega)⟩];simp only [E38];exact B0g h1 (by simp;exact h2)
def fieldN (b:List UInt8) (a w:Nat):Int:=((le ((b.drop a).take w):Nat):Int)
theorem C52 {b:List UInt8} (hb:b.length<=256):A7w (zeros 256) 0 b=N5 256 b:=by
 unfold A7w I6 N5;rw [if_pos (by omega)];simp only [Int.toNat_zero,E4P,E37,Nat.sub_zero,E4b];rw [E3Y hb];unfold zeros;rw [List.drop_replicate]
theorem D3a {b:List UInt8} {a w:Nat} (h1:a+w<=b.length) (h2:b.length<=256) (hw:1<=w) (hw4:w<=4):((atN (N5 256 b) a w:Nat):Int)=fieldN b a w:=by
 unfold atN fieldN N5;rw [if_pos ⟨by omega,N0.2 (by omega)⟩];simp only [E38];rw [List.drop_append_of_le_length (by omega),List.take_append_of_le_length (by simp;omega)]
end Go.Proofs.YtbnkgnfhgbhblaaGreat
namespace Go.Proofs.YtbnkgnfhgbhblaaGreat
open Go Go.Esc
set_option maxRecDepth 100000
noncomputable section
variable (n m m2:Nat) (a0 a1 x0 x1 x7 x8:Val) (h:A6)
def sG:FD Tryz.prog:=⟨px 0X119c4102b1241219818155a02a7d21818c017667c62e1f7c168806884a04001b1181858511a02187510521518710430702418710431a617c119187105218710406051063884613187104201334111022,[.c (.i .u32 0),.c (.i .u32 16777619)],[.idxS (.t 12) (.t 13),.conv .u32 (.t 14)],[.tmp 4],[]⟩
def C3r:=sG.R
def C0X:AtH:=sG.lj 0 n [m] [x0,x1,x7,x8]
def C4s:=tT [⟨2,4,C0X⟩]
def C63:=mR C3r sG C4s n [a0,a1] h
def B0b:=mL sG C4s 0 n [m] [x0,x1,x7,x8] h
def C2U:=sG.K Tryz.func202
def B3J:=sG.S
theorem C7n:SOk Tryz.prog 202 B3J:=C2U.sok
theorem C13:E5 C3r B3J:=C2U.flat
def B4x:FD Tryz.prog:=⟨px 0X1282167201ac0032123211012,[.c (.i .u32 0),.c (.i .u32 2166136261)],[],[.tmp 2],[cal C7n]⟩
def D06:=B4x.R
def D07:=mR D06 B4x (tT []) n [a0] h
def D03:=B4x.K Tryz.func149
def C39:=B4x.S
theorem B96:SOk Tryz.prog 149 C39:=D03.sok
theorem C7o:E5 D06 C39:=D03.flat
def B0E:FD Tryz.prog:=⟨px 0X119c4164dc62e1e7c3677c631b7c64c84001d11841201684164dc01b134122458181289647c4191318103211411412243c515617c46135103205102314111022,[.c (.i .u32 1)],[],[.tmp 4],[]⟩
def B7C:=B0E.R
def C9L:=mR B7C B0E (tT []) n [a0,a1] h
def C8d:=B0E.K Tryz.func201
def B8s:=B0E.S
theorem C9Y:SOk Tryz.prog 201 B8s:=C8d.sok
theorem C37:E5 B7C B8s:=C8d.flat
end
noncomputable section
variable (n m m2:Nat) (a0 a1 x0 x1 x5 x6:Val) (h:A6)
def nR:FD Tryz.prog:=⟨px 0X11e84103c1241268515607c3a1b13181dc011f6187c1b667c61a07c38061e77c76187c0002c1191819c6162e1f7c64c806885e04076187c01d11865104215510330702461e17c6388401a7141a5104251033510306051015103201334111022,[.c (.i .u64 0),.c (.i .u64 256),.c (.i .u64 16777619),.c (.i .u64 4294967296)],[.idxS (.t 15) (.t 16)],[.tmp 4],[]⟩
def B9W:=nR.R
def B6e:AtH:=nR.lj 0 n [m] [x0,x1,x5]
def B98:=tT [⟨2,3,B6e⟩]
def C24:=mR B9W nR B98 n [a0,a1] h
def A6S:=mL nR B98 0 n [m] [x0,x1,x5] h
def B9o:=nR.K Tryz.func208
def A8q:=nR.S
theorem C3H:SOk Tryz.prog 208 A8q:=B9o.sok
theorem B7R:E5 B9W A8q:=B9o.flat
def B0y:FD Tryz.prog:=⟨px 0X1282167201ac0032123211012,[.c (.i .u64 0),.c (.i .u64 2166136261)],[],[.tmp 2],[cal C3H]⟩
def C8j:=B0y.R
def C9C:=mR C8j B0y (tT []) n [a0] h
def C74:=B0y.K Tryz.func162
def B7S:=B0y.S
theorem B5q:SOk Tryz.prog 162 B7S:=C74.sok
theorem C3I:E5 C8j B7S:=C74.flat
def rY:FD Tryz.prog:=⟨px 0X11ac4164dc61a187c7a002a154127c615607c4a1e131818c511b667c5e2813181565104307024761e2a8289612d7f2e2d36061a17c406071d65105265104365104060510165104250233015103214111022,[.c (.i .u64 1),.c (.b false),.c (.i .u64 2)],[],[.tmp 4],[]⟩
def C23:=rY.R
def C0F:AtH:=rY.lj 0 n [m] [x0,x1,x5,x6]
def C4l:=tT [⟨2,4,C0F⟩]
def C6M:=mR C23 rY C4l n [a0,a1] h
def A9D:=mL rY C4l 0 n [m] [x0,x1,x5,x6] h
def C2C:=rY.K Tryz.func225
def B3d:=rY.S
theorem C69:SOk Tryz.prog 225 B3d:=C2C.sok
theorem C1H:E5 C23 B3d:=C2C.flat
end
end Go.Proofs.YtbnkgnfhgbhblaaGreat
