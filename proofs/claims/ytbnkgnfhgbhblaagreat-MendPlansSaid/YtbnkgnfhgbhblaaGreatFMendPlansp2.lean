/- What the proof of this claim leans on, part 2. -/
import Derived.Test.YtbnkgnfhgbhblaaGreatFMendPlansp1
set_option linter.all false
set_option maxRecDepth 100000
open Go Go.Esc
open Bool renaming and_eq_true→E69,and_false→E75,false_and→E7f,not_eq_true'→E7V,or_eq_true→E74,true_and→E7j,false→A6,true→A5
open Int renaming toNat_natCast→E7r
open List renaming all_cons→E7P,all_eq_true→E70,append_assoc→E7c,append_nil→E7w,cons_append→E7E,drop_drop→E7X,drop_eq_getElem_cons→E7d,drop_of_length_le→E7k,drop_zero→E7p,getD_eq_getElem?_getD→E7e,getElem?_append_left→E7H,getElem?_append_right→E7l,getElem?_cons_succ→E7S,getElem?_drop→E7W,getElem?_eq_getElem→E66,getElem?_eq_none→E7L,getElem?_take_of_lt→E7G,getElem_mem→E7J,length_append→E7a,length_cons→E7g,length_replicate→E7B,length_set→E7D,length_take→E7A,map_cons→E79,mem_cons_of_mem→E7s,mem_cons_self→E7u,mem_of_getElem?→E7y,mem_or_eq_of_mem_set→E7O,nil_append→E7m,range→E7C,range'→E7M,replicate→E68,replicate_succ→E7z,set_append_right→E7I,set_cons_succ→E7U,set_cons_zero→E7T,take_of_length_le→E7i,take_succ_eq_append_getElem→E7n,take_zero→E76
open Nat renaming add_mul→E78,le_refl→E7b,le_trans→E7K,min_eq_left→E73,mod_eq_of_lt→E7Y,sub_self→E7R,zero_add→E7t
open Option renaming bind_eq_some_iff→E67,bind_some→E7h,getD_none→E7Z,getD_some→E7N,isSome_none→E7x,isSome_some→E7o,map_eq_some_iff→E7q,none→A7,some→A4
open Go.Proofs.Tryz renaming prog→A8
namespace Go.Esc
section
variable {P:Program} {R:Type}
theorem A1x {h:B5} {n0:Nat} {slot:Option Nat} {r:Row}:h.length<=(dO h n0 slot r).2.length:=by
 cases slot<;>simp [dO]
theorem D7j {E:O3} (hE:gD P E) {q:Bool} {hr:B5} {n0:Nat} {slot:Option Nat} {o:AOp} {e:Env} {h h':B5} {v:Val}
  (D7:aop E q hr n0 slot o e h (λv h=>A4 (v,h))=A4 (v,h')):h.length<=h'.length:=by
 cases o<;>simp only [aop] at D7
 case store1 a x =>
  simp only [E67,Option.some.injEq,Prod.mk.injEq] at D7;obtain ⟨h2,hp,_,rfl⟩:=D7;unfold I3 at hp;split at hp
  ·simp only [E67] at hp;obtain ⟨r,_,hp⟩:=hp;split at hp<;>cases hp
   simp
  ·cases hp
 case storeN n a x =>
  simp only [E67,Option.some.injEq,Prod.mk.injEq] at D7;obtain ⟨h2,hp,_,rfl⟩:=D7;unfold E6 at hp;split at hp
  ·simp only [E67] at hp;obtain ⟨r,_,hp⟩:=hp;split at hp<;>cases hp
   simp
  ·cases hp
 case app sz a x =>
  simp only [E67,Option.some.injEq] at D7;obtain ⟨⟨v',h2⟩,hp,zQ⟩:=D7;cases zQ;simp only [jZ,E67] at hp;obtain ⟨ys,_,hp⟩:=hp;split at hp
  ·split at hp<;>cases hp
   simp
  ·simp only [E67] at hp;obtain ⟨r,_,hp⟩:=hp;split at hp<;>cases hp
   simp
  ·cases hp
 case copy sz a x =>
  simp only [E67,Option.some.injEq] at D7;obtain ⟨⟨v',h2⟩,hp,zQ⟩:=D7;cases zQ;simp only [C6Y] at hp;split at hp
  ·cases hp
  simp only [E67] at hp;obtain ⟨ys,_,hp⟩:=hp;split at hp
  ·simp only [E67] at hp;obtain ⟨r,_,hp⟩:=hp;split at hp<;>cases hp
   simp
  ·cases hp
 case appZ sz zero x y =>
  simp only [E67,Option.some.injEq] at D7;obtain ⟨⟨v',h2⟩,hp,zQ⟩:=D7;cases zQ;unfold B7Q at hp;simp only [E67] at hp;obtain ⟨n,_,hp⟩:=hp;split at hp
  ·cases hp;simp
  ·simp only [E67] at hp;obtain ⟨r,_,hp⟩:=hp;split at hp<;>cases hp
   simp
  ·cases hp
 case call f args =>
  simp only [E67,Option.some.injEq] at D7;obtain ⟨⟨v',h2⟩,hp,zQ⟩:=D7;cases zQ;have hE1:E f (args.map e.ev) h=A4 (v',h2):=by
   cases q with
   | false=>simpa using hp
   | true =>
    simp only [cond_true,quiet,E67] at hp;obtain ⟨p',g1,g2⟩:=hp;split at g2
    ·cases g2;exact g1
    ·cases g2
  exact (hE _ _ _ _ _ hE1).2.2
 case callV f args =>
  simp only [E67,Option.some.injEq] at D7;obtain ⟨⟨v',h2⟩,hp,zQ⟩:=D7;cases zQ;have hE0:A2R E (e.ev f) (args.map e.ev) h=A4 (v',h2):=by
   cases q with
   | false=>simpa using hp
   | true =>
    simp only [cond_true,quiet,E67] at hp;obtain ⟨p',g1,g2⟩:=hp;split at g2
    ·cases g2;exact g1
    ·cases g2
  unfold A2R at hE0;split at hE0
  ·exact (hE _ _ _ _ _ hE0).2.2
  ·cases hE0
 case mv=>cases D7;exact E7b _
 case nilrow=>cases D7;exact A1x
 case alloc=>cases D7;exact A1x
 case mkMap=>cases D7;exact A1x
 case mput =>
  simp only [E67,Option.some.injEq,Prod.mk.injEq] at D7;obtain ⟨w,hp,_,rfl⟩:=D7;unfold A2O at hp;split at hp
  ·simp only [E67] at hp;obtain ⟨_,_,_,_,_,_,_,_,hp⟩:=hp;split at hp
   ·cases hp;simp
   ·cases hp
  ·cases hp
 case mset =>
  simp only [E67,Option.some.injEq,Prod.mk.injEq] at D7;obtain ⟨w,hp,_,rfl⟩:=D7;unfold D4j at hp;split at hp
  ·simp only [E67] at hp;obtain ⟨_,_,_,_,_,_,hp⟩:=hp;split at hp
   ·simp only [E67,Option.some.injEq] at hp;obtain ⟨_,_,rfl⟩:=hp;simp
   ·cases hp
  ·cases hp
 case ment =>
  simp only [E67,Option.some.injEq] at D7;obtain ⟨w,hp,zQ⟩:=D7;cases zQ;unfold D4i at hp;split at hp
  ·simp only [E67] at hp;obtain ⟨_,_,_,_,_,_,hp⟩:=hp;split at hp
   ·simp only [Option.some.injEq] at hp;split at hp
    ·cases hp;exact E7b _
    ·cases hp;simp
   ·cases hp
  ·cases hp
 case box =>
  simp only [E67,Option.some.injEq,Prod.mk.injEq] at D7;obtain ⟨_,_,_,rfl⟩:=D7;exact A1x
 case buildSl =>
  simp only [E67,Option.some.injEq,Prod.mk.injEq] at D7;obtain ⟨_,_,_,rfl⟩:=D7;exact A1x
 case s2b =>
  simp only [E67,Option.some.injEq,Prod.mk.injEq] at D7;obtain ⟨_,_,_,rfl⟩:=D7;exact A1x
 case mkSl =>
  simp only [E67,Option.some.injEq,Prod.mk.injEq] at D7;obtain ⟨_,_,_,rfl⟩:=D7;exact A1x
 all_goals
  simp only [E67,Option.some.injEq,Prod.mk.injEq] at D7;obtain ⟨_,_,_,rfl⟩:=D7;exact E7b _
theorem D1i {E:O3} (hE:gD P E) {q:Bool} {hr:B5} {n0:Nat} {o:AOper} {e:Env} {h h':B5} {v:Val}
  (D7:X9 E q hr n0 o e h (λv h=>A4 (v,h))=A4 (v,h')):h.length<=h'.length:=by
 unfold X9 at D7;split at D7
 ·exact D7j hE D7
 ·simp only [E67,Option.some.injEq] at D7;obtain ⟨⟨v',h2⟩,hp,zQ⟩:=D7;cases zQ;unfold gd at hp;split at hp
  ·rename_i x _;cases hx:(x==_) with
   | true=>rw [hx] at hp;exact D7j hE hp
   | false=>rw [hx] at hp;cases hp;exact E7b _
  ·cases hp;exact E7b _
  ·cases hp
theorem put_defers (a:Act) (d:Option Nat) (V:Value):(a.put d V).defers=a.defers:=by cases d<;>rfl
theorem C4J {N L:Nat} {ops:Array Oper} {E:O3} (hE:gD P E):∀ (l:List Nat) (aos:List AOper) (e:Env) (h:B5) (k:Env->B5->Option R) (r:R),
  All2 (λi ao=>∃ o,ops[i]?=A4 o/\aW P N ops o ao=A5/\ao.slot=A7) l aos->B0S E aos e h k=A4 r->L<=h.length ->
  ∃ e' h',k e' h'=A4 r/\L<=h'.length/\B2o P N L (λQ=>wpOps P ops Q l) e h .normal e' h'
 | [],[],e,h,k,r,_,D7,hL=>⟨e,h,D7,hL,fun Γ μ a w hs hi hN hd Q hq=>hq μ a w (Mu.le_refl _) (λ_ _=>rfl) hs hi hN hd⟩
 | i::l,ao::aos,e,h,k,r,⟨⟨o,ho,hc,D49⟩,D47⟩,D7,hL=>by
  rw [D1j] at D7;obtain ⟨v,h1,hk,B8j⟩:=D9J hE hc D7;have hl1:=D1i hE B8j;obtain ⟨e',h',hk',hL',wS⟩:=C4J hE l aos (e.put ao.dst v) h1 k r D47 hk (E7K hL hl1);refine ⟨e',h',hk',hL',fun Γ μ a w hs hi hN hd Q hq=>?_⟩;show wpOps P ops Q (i::l) a w;rw [wpOps_cons];unfold wpOp;rw [ho];have A0x:o.dst=ao.dst/\yW N o.dst=A5:=by
   simp only [aW,E69,decide_eq_true_eq] at hc;exact ⟨hc.1.1.1,hc.1.1.2⟩
  have V5:∀ t,o.dst=A4 t->t<a.tmps.size:=by
   intro t ht;have:=A0x.2;rw [ht] at this;simp [yW] at this;exact Nat.lt_of_lt_of_le this hN
  refine A5a (hr:=h) (n0:=0) hE hc B8j hs hi (λ_ _ h=>h) (by rw [D49];trivial) ?_;intro V w' μ' cC hv hi' cG;rw [D49] at cG;refine wS Γ μ' (a.put o.dst V) w' ?_ hi' (by rw [Act.size_put];exact hN) (by rw [put_defers];exact hd) Q ?_
  ·rw [<-A0x.1];exact (hs.mono cC).put V5 hv
  ·intro μ2 a2 w2 h2 h3 h4 h5 h6 h7;exact hq μ2 a2 w2 (Mu.le_trans cC h2) (λid hid=>by rw [h3 id hid];exact cG id (by omega) (λ_ h=>by cases h)) h4 h5 h6 h7
 | [],_::_,_,_,_,_,h,_,_=>h.elim
 | _::_,[],_,_,_,_,h,_,_=>h.elim
end
theorem C2K {o:Oper} {p:Nat}:p∈Z2 o↔∃ e∈o.after,Region.binds .any e=A5/\e.on=p:=by
 unfold Z2;simp only [List.mem_map,List.mem_filter,Array.mem_toList_iff];constructor
 ·rintro ⟨e,⟨h1,h2⟩,rfl⟩;exact ⟨e,h1,h2,rfl⟩
 ·rintro ⟨e,h1,h2,rfl⟩;exact ⟨e,⟨h1,h2⟩,rfl⟩
theorem nI {ops:Array Oper} {listed:Array Bool} {i:Nat}:i∈Region.ready .any ops listed↔∃ o,ops[i]?=A4 o/\listed.getD i A5=A6/\∀ p∈Z2 o,listed.getD p A6=A5:=by
 unfold Region.ready;simp only [List.mem_filter,List.mem_range,E69,E7V];constructor
 ·rintro ⟨h1,h2,h3⟩;have ho:ops[i]?=A4 ops[i]:=by simp [h1]
  refine ⟨ops[i],ho,h2,λp hp=>?_⟩;rw [ho] at h3;simp only [Option.map_some,E7N,Array.all_eq_true_iff_forall_mem] at h3;obtain ⟨e,he,hb,rfl⟩:=C2K.1 hp;have:=h3 e he;rw [hb] at this;simpa using this
 ·rintro ⟨o,ho,h2,h3⟩;refine ⟨(Array.getElem?_eq_some_iff.1 ho).1,h2,?_⟩;rw [ho];simp only [Option.map_some,E7N,Array.all_eq_true_iff_forall_mem];intro e he;cases hb:Region.binds .any e with
  | false=>rfl
  | true=>simpa using h3 e.on (C2K.2 ⟨e,he,hb,rfl⟩)
theorem R7 {listed:Array Bool} {i:Nat} (hi:i<listed.size):(λk=>(listed.setIfInBounds i A5).getD k A6)=nZ (λk=>listed.getD k A6) i:=by
 funext k
 unfold nZ;by_cases h:k=i
 ·subst h;simp [Array.getD,hi]
 ·simp [Array.getElem?_setIfInBounds_ne (Ne.symm h),h]
theorem getD_both {listed:Array Bool} {i:Nat} (hi:i<listed.size):listed.getD i A5=listed.getD i A6:=by simp [Array.getD,hi]
theorem A7R {ops:Array Oper} {listed:Array Bool} (V5:∀ (i:Nat) (o:Oper),ops[i]?=A4 o->∀ p∈Z2 o,p<i) (hs:listed.size=ops.size):∀ (i:Nat),i<ops.size->listed.getD i A6=A6->Region.ready .any ops listed≠[]:=by
 intro i
 induction i using Nat.strongRecOn with
 | _ i ih =>
  intro hi hu;have ho:ops[i]?=A4 ops[i]:=by simp [hi]
  by_cases h:∀ p∈Z2 ops[i],listed.getD p A6=A5
  ·have:i∈Region.ready .any ops listed:=nI.2 ⟨_,ho,by rw [getD_both (by omega)];exact hu,h⟩;intro e;rw [e] at this;cases this
  ·have:∃ p,p∈Z2 ops[i]/\listed.getD p A6=A6:=by
    false_or_by_contra
    rename_i hn;exact h λp hp=>by
     cases hv:listed.getD p A6 with
     | true=>rfl
     | false=>exact absurd ⟨p,hp,hv⟩ hn
   obtain ⟨p,hp,hv⟩:=this;have hpi:=V5 i _ ho p hp;exact ih p hpi (by omega) hv
def left (n:Nat) (listed:Array Bool):Nat:=((E7C n).filter λi=>!listed.getD i A6).length
theorem B8B {n:Nat} {listed:Array Bool} {i:Nat} (hi:i<n) (hs:listed.size=n) (hu:listed.getD i A6=A6):left n (listed.setIfInBounds i A5)+1<=left n listed:=by
 unfold left;have e:(E7C n).filter (λk=>!(listed.setIfInBounds i A5).getD k A6)=((E7C n).filter λk=>!listed.getD k A6).filter (λk=>decide (k≠i)):=by
  rw [List.filter_filter];apply List.filter_congr;intro k hk;have:=congrFun (R7 (listed:=listed) (i:=i) (by omega)) k
  try simp only at this
  rw [this];unfold nZ;by_cases h:k=i<;>simp [h]
 rw [e];have hm:i∈(E7C n).filter λk=>!listed.getD k A6:=by
  rw [List.mem_filter];exact ⟨by simpa using hi,by rw [hu];rfl⟩
 have:=List.length_filter_lt_length_iff_exists (l:=(E7C n).filter λk=>!listed.getD k A6) (p:=λk=>decide (k≠i));have h2:=this.2 ⟨i,hm,by simp⟩;omega
section
variable {P:Program} {ops:Array Oper} {Q:Exit->Act->World->Prop}
theorem A1y (V5:∀ (i:Nat) (o:Oper),ops[i]?=A4 o->∀ p∈Z2 o,p<i) {A:Nat} (E3l:∀ i,A<=i->i<ops.size->∀ j,j<i->((R0 ops).getD i 0).testBit j=A5) :
  ∀ (k i fuel:Nat) (listed:Array Bool) (a:Act) (w:World),i+k=ops.size->A<=i->listed.size=ops.size->(∀ j,j<ops.size->listed.getD j A6=decide (j<i))->k<=fuel ->
   wpOps P ops Q (E7M i k) a w->wpAny P .any ops Q fuel listed a w
 | 0,i,fuel,listed,a,w,hik,hA,hs,hl,hf,h=>by
  have hr:Region.ready .any ops listed=[]:=by
   apply List.eq_nil_iff_forall_not_mem.2;intro x hx;obtain ⟨o,ho,h2,_⟩:=nI.1 hx;have V5:=(Array.getElem?_eq_some_iff.1 ho).1;rw [getD_both (by omega),hl x V5] at h2;simp at h2;omega
  cases fuel with
  | zero=>exact ⟨hr,h⟩
  | succ f=>exact ⟨λ_=>h,λx hx=>by rw [hr] at hx;cases hx⟩
 | k+1,i,fuel,listed,a,w,hik,hA,hs,hl,hf,h=>by
  obtain ⟨f,rfl⟩:∃ f,fuel=f+1:=⟨fuel-1,by omega⟩;refine ⟨λhe=>absurd he (A7R V5 hs i (by omega) (by rw [hl i (by omega)];simp)),λx hx=>?_⟩;obtain ⟨o,ho,h2,h3⟩:=nI.1 hx;have hxn:=(Array.getElem?_eq_some_iff.1 ho).1;rw [getD_both (by omega),hl x hxn] at h2;simp at h2;have hxi:x=i:=by
   by_cases e:x=i
   ·exact e
   ·have hd:=uT (done:=λj=>listed.getD j A6) V5 (λj oj hj hdj p hp=>by
     have hjn:=(Array.getElem?_eq_some_iff.1 hj).1
     try simp only at hdj
     rw [hl j hjn] at hdj;have:=V5 j oj hj p hp;show listed.getD p A6=A5;rw [hl p (by omega)];simp at hdj ⊢;omega) x o ho h3 i (E3l x (by omega) hxn i (by omega))
    try simp only at hd
    rw [hl i (by omega)] at hd;simp at hd
  subst hxi;rw [List.range'_succ,wpOps_cons] at h;refine wpOp_mono (λa' w' h'=>?_) h;refine A1y V5 E3l k (x+1) f _ a' w' (by omega) (by omega) (by simpa using hs) (λj hj=>?_) (by omega) h';have:=congrFun (R7 (listed:=listed) (i:=x) (by omega)) j
  try simp only at this
  rw [this];unfold nZ;show (decide (j=x)||listed.getD j A6)=_;rw [hl j hj];by_cases e:j=x
  ·subst e;simp
  ·simp only [e,decide_false,Bool.false_or];have:(j<x)↔(j<x+1):=by omega
   simp only [this]
end
theorem Inv.pad {Γ:Ctx} {μ:Mu} {h:B5} {w:World} (hi:Inv Γ μ h w) (m:Nat):Inv Γ μ (h++E68 m A7) w:=by
 have sS:∀ id x,rd (h++E68 m A7) id=A4 x->rd h id=A4 x:=by
  intro id x hx;by_cases hl:id<h.length
  ·rwa [D9 hl] at hx
  ·unfold rd at hx;rw [E7l (by omega),List.getElem?_replicate] at hx;split at hx<;>cases hx
 exact ⟨λid x hx=>hi.rows id x (sS id x hx),λi j x y z z' hx hy=>hi.sep i j x y z z' (sS _ _ hx) (sS _ _ hy),λi x y hx=>hi.own i x y (sS _ _ hx),λid hid=>hi.dom id (by simp at hid;omega),hi.ctx⟩
theorem E2d {P:Program} {N L:Nat} {ops:Array Oper} {m id:Nat} {l r:List AOper} {E:O3} (hE:gD P E) {e:Env} {h:B5} {R:Type} {k:Env->B5->Option R} {res:R}
  (hc:A0q P N ops m l r=A5) (hc2:B7Z ops l.length r.length=A5) (hL:L<=h.length)
  (D7:B3H E h h.length l e (h++E68 m A7) (λe h=>B0S E r e h k)=A4 res) :
  ∃ e' h',k e' h'=A4 res/\L<=h'.length/\B2o P N L ((Code.region id ops A5).wp P) e h .normal e' h':=by
 have D:=A7k hc;have last:=C7m hc2 D.size;obtain ⟨es,hs,vs,he,h0,ht,hk⟩:=C89 l _ _ D7;have D6u:All2 (λi ao=>∃ o,ops[i]?=A4 o/\aW P N ops o ao=A5/\ao.slot=A7) (E7M l.length r.length) r:=by
  refine All2.of_get (by simp) λi x ao hx hao=>?_
  have hi:i<r.length:=(List.getElem?_eq_some_iff.1 hao).1;rw [List.getElem?_range' hi] at hx;simp at hx;subst hx;have V5:l.length+i<ops.size:=by rw [D.size];omega
  refine ⟨ops[l.length+i],by simp [V5],?_,D.rslot ao (E7y hao)⟩;refine D.oper (l.length+i) _ ao (by simp [V5]) ?_;rw [E7l (by omega)];simpa using hao
 have hbl:=kP D ht h0 (k:=l.length) (E7b _);obtain ⟨e',h',hk',hL',wS⟩:=C4J (L:=L) hE _ r (es l.length) (hs l.length) k res D6u hk (by omega);refine ⟨e',h',hk',hL',fun Γ μ0 a w hs0 hi hN hd Q hq=>wp_region_any D.follows ?_⟩;have whole:∀ (listed:Array Bool) (a:Act) (w:World) (q:Nat) (μ:Mu),Sim Γ l h.length N e es hs vs μ0 (λi=>listed.getD i A6) q μ a w->(∀ j,j<l.length->listed.getD j A6=A5)->wpOps P ops Q (E7M l.length r.length) a w:=by
  intro listed a w q μ S oD;have D0l:SEnv μ (es l.length) a:=by
   intro t;by_cases hw:∃ (j:Nat) (aj:AOper),l[j]?=A4 aj/\aj.dst=A4 t
   ·obtain ⟨j,aj,nX,hdj⟩:=hw;have hjl:=(List.getElem?_eq_some_iff.1 nX).1;rw [pU D ht nX hdj l.length hjl (E7b _)];exact S.envD j aj t nX (oD j hjl) hdj
   ·have cH:∀ (j:Nat) (aj:AOper),l[j]?=A4 aj->aj.dst≠A4 t:=λj aj nX hdj=>hw ⟨j,aj,nX,hdj⟩
    rw [xU ht he l.length (E7b _) λj aj _ nX=>cH j aj nX];exact S.envO t λj aj nX _=>cH j aj nX
  have hlen:(hs l.length).length=(hs q).length:=by
   have hql:=S.qle;have:=yC D ht (q:=q) (l.length-q) (by omega) λk ak h1 h2 oZ=>by
    cases hck:Y5 ak.op with
    | false=>rfl
    | true =>
     have:=(S.calls k ak oZ hck).1 (oD k (by omega));omega
   rwa [show q+(l.length-q)=l.length by omega] at this
  have D1H:HD (hs l.length) (und l h.length λi=>listed.getD i A6) (hs q).length=hs l.length:=by
   refine xZ (by rw [J7,hlen]) λid hid=>?_
   rw [J7] at hid;have hu:und l h.length (λi=>listed.getD i A6) id=A6:=by
    cases hu:und l h.length (λi=>listed.getD i A6) id with
    | false=>rfl
    | true =>
     obtain ⟨k,hk,ao,j,oZ,_⟩:=Z6.1 hu;have:=oD k (List.getElem?_eq_some_iff.1 oZ).1;rw [this] at hk;cases hk
   rw [tS,if_pos ⟨hid,hu⟩]
  have hinv:=S.inv;rw [D1H] at hinv;exact wS Γ μ a w D0l hinv S.size S.defers Q fun μ' a' w' g1 g2 g3 g4 g5 g6=>hq μ' a' w' (Mu.le_trans S.le g1) (λid hid=>(g2 id hid).trans (S.keep id (by omega))) g3 g4 g5 g6
 have main:∀ (fuel:Nat) (listed:Array Bool) (a:Act) (w:World) (q:Nat) (μ:Mu),listed.size=ops.size->left ops.size listed<=fuel ->
   (∀ j,l.length<=j->j<ops.size->listed.getD j A6=A6)->(∀ (i:Nat) (o:Oper),ops[i]?=A4 o->listed.getD i A6=A5->∀ p∈Z2 o,listed.getD p A6=A5) ->
   Sim Γ l h.length N e es hs vs μ0 (λi=>listed.getD i A6) q μ a w->wpAny P .any ops Q fuel listed a w:=by
  intro fuel
  induction fuel with
  | zero =>
   intro listed a w q μ hsz B37 dG dH S;have oD:∀ j,j<ops.size->listed.getD j A6=A5:=by
    intro j hj;cases hv:listed.getD j A6 with
    | true=>rfl
    | false =>
     have hm:j∈(E7C ops.size).filter λi=>!listed.getD i A6:=by rw [List.mem_filter];exact ⟨by simpa using hj,by rw [hv];rfl⟩
     have:=List.length_pos_of_mem hm;unfold left at B37;omega
   have hr0:r.length=0:=by
    cases hr:r.length with
    | zero=>rfl
    | succ x =>
     have h1:=oD l.length (by rw [D.size];omega);have h2:=dG l.length (E7b _) (by rw [D.size];omega);rw [h1] at h2;cases h2
   refine A1y D.dir last 0 l.length 0 listed a w (by rw [D.size];omega) (E7b _) hsz (λj hj=>?_) (E7b _) ?_
   ·rw [oD j hj];have:j<l.length:=by rw [D.size] at hj;omega
    simp [this]
   ·have:=whole listed a w q μ S λj hj=>oD j (by rw [D.size];omega)
    rw [hr0] at this;exact this
  | succ fuel ih =>
   intro listed a w q μ hsz B37 dG dH S;by_cases oD:∀ j,j<l.length->listed.getD j A6=A5
   ·refine A1y D.dir last r.length l.length (fuel+1) listed a w D.size.symm (E7b _) hsz (λj hj=>?_) ?_ (whole listed a w q μ S oD)
    ·by_cases hjl:j<l.length
     ·rw [oD j hjl];simp [hjl]
     ·rw [dG j (by omega) hj];simp [hjl]
    ·refine E7K ?_ B37;unfold left;have:((E7C ops.size).filter λi=>!listed.getD i A6)=E7M l.length r.length:=by
      rw [D.size,List.range_add,List.filter_append];have e1:(E7C l.length).filter (λi=>!listed.getD i A6)=[]:=by
       rw [List.filter_eq_nil_iff];intro j hj;rw [oD j (by simpa using hj)];simp
      rw [e1,E7m,List.range'_eq_map_range,List.filter_eq_self.2];intro j hj;obtain ⟨x,hx,rfl⟩:=List.mem_map.1 hj;rw [dG _ (by omega) (by rw [D.size];simp at hx;omega)];rfl
     rw [this];simp
   ·have hex:∃ j,j<l.length/\listed.getD j A6=A6:=by
     false_or_by_contra
     rename_i hn;exact oD λj hj=>by
      cases hv:listed.getD j A6 with
      | true=>rfl
      | false=>exact absurd ⟨j,hj,hv⟩ hn
    obtain ⟨j,hj,hv⟩:=hex;refine ⟨λhre=>absurd hre (A7R D.dir hsz j (by rw [D.size];omega) hv),λi hi=>?_⟩;obtain ⟨o,ho,h2,h3⟩:=nI.1 hi;have hin:=(Array.getElem?_eq_some_iff.1 ho).1;rw [getD_both (by omega)] at h2;have hah:=uT (done:=λi=>listed.getD i A6) D.dir dH i o ho h3;have O9:i<l.length:=by
     by_cases e1:i<l.length
     ·exact e1
     ·have:=hah j (last i (by omega) hin j (by omega))
      try simp only at this
      rw [hv] at this;cases this
    have xY:∀ k,listed.getD k A6=A5->∀ b,((R0 ops).getD k 0).testBit b=A5->listed.getD b A6=A5:=by
     intro k hk b hb;by_cases hkn:k<ops.size
     ·have hok:ops[k]?=A4 ops[k]:=by simp [hkn]
      exact uT (done:=λi=>listed.getD i A6) D.dir dH k _ hok (dH k _ hok hk) b hb
     ·have:listed.getD k A6=A6:=by simp [Array.getD,show ¬ k<listed.size by omega]
      rw [this] at hk;cases hk
    have lF:=D5P D hE ht h0 he S (i:=i) (ao:=l[i]) (o:=o) (E66 O9) ho h2 hah xY
     (next:=wpAny P .any ops Q fuel (listed.setIfInBounds i A5)) (Q:=Q) (by
      intro V w' μ' q' S';rw [<-R7 (by omega)] at S';refine ih (listed.setIfInBounds i A5) _ w' q' μ' (by simpa using hsz) (by have:=B8B hin hsz h2;omega) ?_ ?_ S'
      ·intro k hk hkn;have:=congrFun (R7 (listed:=listed) (i:=i) (by omega)) k
       try simp only at this
       rw [this,Z0 _ _ (by omega)];exact dG k hk hkn
      ·intro k ok hok hdk p hp;have e1:=congrFun (R7 (listed:=listed) (i:=i) (by omega)) k;have e2:=congrFun (R7 (listed:=listed) (i:=i) (by omega)) p
       try simp only at e1 e2
       rw [e1] at hdk;rw [e2];have B36:listed.getD p A6=A5:=by
        by_cases e3:k=i
        ·subst e3;rw [ho] at hok;cases hok;exact h3 p hp
        ·rw [Z0 _ _ e3] at hdk;exact dH k ok hok hdk p hp
       unfold nZ;show (decide (p=i)||listed.getD p A6)=A5;rw [B36];simp)
    unfold wpOp;rw [ho];exact lF
 have hgd:∀ i:Nat,(Array.replicate ops.size A6).getD i A6=A6:=by intro i;simp [Array.getD]
 have E3Z:(λi=>(Array.replicate ops.size A6).getD i A6)=λ_=>A6:=funext hgd
 refine main ops.size (Array.replicate ops.size A6) a _ 0 μ0 (by simp) ?_ (λj _ _=>hgd j) (λi o _ hd=>by rw [hgd] at hd;cases hd) ?_
 ·unfold left;exact E7K (List.length_filter_le _ _) (by simp)
 ·rw [E3Z];have E34:HD (hs l.length) (und l h.length λ_=>A6) (hs 0).length=h++E68 m A7:=by
   rw [h0];refine xZ (by rw [J7]) λid hid=>?_
   rw [J7] at hid;rw [tS];by_cases ho:∃ i,A10 l h.length i id
   ·obtain ⟨i,ho⟩:=ho;have hu:und l h.length (λ_=>A6) id=A5:=Z6.2 ⟨i,rfl,ho⟩;rw [hu];have:=A5R D ht h0 ho 0 (Nat.zero_le _);rw [h0] at this;rw [this];simp
   ·have cH:∀ i,0<=i->¬ A10 l h.length i id:=λi _ hi=>ho ⟨i,hi⟩
    have hu:und l h.length (λ_=>A6) id=A6:=by
     cases hu:und l h.length (λ_=>A6) id with
     | false=>rfl
     | true=>obtain ⟨i,_,hi⟩:=Z6.1 hu;exact absurd ⟨i,hi⟩ ho
    rw [if_pos ⟨hid,hu⟩];have:=oE D ht (k:=0) (id:=id) (by rw [h0];exact hid) cH l.length (by omega);rw [E7t,h0] at this;exact this
  refine ⟨Nat.zero_le _,λi ao _ _=>⟨λh=>(by cases h),λh=>(by omega)⟩,λi ao d _ h=>(by cases h),λt _=>hs0 t,?_,λid hid=>?_,Mu.le_refl _,λ_ _=>rfl,hN,hd⟩
  ·rw [E34];exact (hi.pad m).world rfl rfl rfl λ_ _=>rfl
  ·obtain ⟨i,_,ao,j,_,_,rfl⟩:=Z6.1 hid;exact hi.dom _ (by omega)
def C4Q:AOp->Bool
 | .mv _ | .pick .. | .bin .. | .eqA .. | .eqB .. | .eqN .. | .nilc _ | .un .. | .conv .. | .convS _ | .fAddr .. | .iAddrA .. | .iAddrL .. | .fld1 .. | .fldN .. | .idxA1 .. | .idxAN .. | .idxS .. | .ext .. | .len _ | .lenS _ | .max .. | .min ..=>A5
 | _=>A6
theorem E1V {E:O3} {q:Bool} {hr:B5} {n0:Nat} {slot:Option Nat} {o:AOp} {e:Env} {h h':B5} {v:Val} (hp:C4Q o=A5)
  (D7:aop E q hr n0 slot o e h (λv h=>A4 (v,h))=A4 (v,h')):∀ (q2:Bool) (hr2:B5) (n2:Nat) (slot2:Option Nat) (h2:B5),aop E q2 hr2 n2 slot2 o e h2 (λv h=>A4 (v,h))=A4 (v,h2):=by
 intro q2 hr2 n2 slot2 h2;cases o<;>simp [C4Q] at hp<;>simp only [aop] at D7 ⊢
 case mv=>cases D7;rfl
 all_goals
  simp only [E67,Option.some.injEq,Prod.mk.injEq] at D7;obtain ⟨_,h1,rfl,rfl⟩:=D7;rw [h1];rfl
def D3e:AOp->Bool
 | .load1 _ | .loadN ..=>A5
 | _=>A6
theorem D9G {E:O3} {q:Bool} {n0:Nat} {slot:Option Nat} {o:AOp} {e:Env} {h:B5} {v:Val} (hp:D3e o=A5) (hr:A7O h o e=A4 v):aop E q h n0 slot o e h (λv h=>A4 (v,h))=A4 (v,h):=by
 cases o<;>simp [D3e] at hp<;>simp only [A7O] at hr<;>simp only [aop,hr]<;>rfl
theorem D6U {o:AOp} {e e':Env} {h:B5} (he:∀ x∈o.opds,e.ev x=e'.ev x):A7O h o e=A7O h o e':=by
 cases o<;>simp only [AOp.opds] at he<;>simp only [A7O]
 ·rw [he _ (by simp)]
 ·rw [he _ (by simp)]
def C8V:AOp->AOp->Bool
 | .load1 (.t a),.load1 (.t b)=>decide (a=b)
 | .loadN n (.t a),.loadN m (.t b)=>decide (n=m)&&decide (a=b)
 | _,_=>A6
theorem D5M {o p:AOp} (h:C8V o p=A5):o=p/\D3e p=A5:=by
 unfold C8V at h;split at h
 ·have:=of_decide_eq_true h;subst this;exact ⟨rfl,rfl⟩
 ·rw [E69] at h;have h1:=of_decide_eq_true h.1;have h2:=of_decide_eq_true h.2;subst h1 h2;exact ⟨rfl,rfl⟩
 ·cases h
def C7k (s:AOper) (chk:List (Nat × AOp)) (o:AOper):Bool :=
 decide (o.guard=A7)&&decide (o.slot=A7) && !Y5 o.op && !X4 o.op &&
 (match o.dst with
  | some d=>!(s.reads.contains d)&&(C4Q o.op||chk.any λc=>decide (c.1=d)&&C8V c.2 o.op)
  | none=>A6) &&
 (match s.dst with | some d=>!(o.reads.contains d) | none=>A5)
def D8l (ops:Array Oper) (l:List AOper) (s:AOper) (chk:List (Nat × AOp)) (r:List AOper):Bool :=
 let cl:=R0 ops
 l.zipIdx.all (λp=>(cl.getD l.length 0).testBit p.2||C7k s chk p.1) &&
 l.all (λo=>match s.dst with | some d=>decide (o.dst≠A4 d) | none=>A5) &&
 l.zipIdx.all (λp=>l.zipIdx.all λq=>match q.1.dst with | some d=>!(p.1.reads.contains d)||((cl.getD p.2 0).testBit q.2&&decide (q.2<p.2)) | none=>A5) &&
 B7Z ops (l.length+1) r.length
def D9s (ops:Array Oper) (l:List AOper):Prop:=∀ (i j:Nat) ai aj d,l[i]?=A4 ai->l[j]?=A4 aj->aj.dst=A4 d->d∈ai.reads->((R0 ops).getD i 0).testBit j=A5/\j<i
structure Float1 (s:AOper) (chk:List (Nat × AOp)) (o:AOper):Prop where
 guard:o.guard=A7
 slot:o.slot=A7
 call:Y5 o.op=A6
 X4:X4 o.op=A6
 dst:∃ d,o.dst=A4 d/\d ∉ s.reads/\(C4Q o.op=A5\/(D3e o.op=A5/\(d,o.op)∈chk))
 reads:∀ d,s.dst=A4 d->d ∉ o.reads
theorem D4D {s:AOper} {chk:List (Nat × AOp)} {o:AOper} (h:C7k s chk o=A5):Float1 s chk o:=by
 simp only [C7k,E69,decide_eq_true_eq,E7V] at h;obtain ⟨⟨⟨⟨⟨h1,h2⟩,h3⟩,h4⟩,h5⟩,h6⟩:=h;refine ⟨h1,h2,h3,h4,?_,λd hd=>?_⟩
 ·split at h5
  ·rename_i d hd;simp only [E69,E7V,E74] at h5;refine ⟨d,hd,λhm=>?_,?_⟩
   ·have:=h5.1;rw [List.contains_iff_mem.2 hm] at this;cases this
   ·rcases h5.2 with h | h
    ·exact .inl h
    ·right
     rw [List.any_eq_true] at h;obtain ⟨c,hc,h⟩:=h;simp only [E69,decide_eq_true_eq] at h;obtain ⟨e1,e2⟩:=D5M h.2;refine ⟨e2,?_⟩;have:c=(d,o.op):=by cases c;simp at h e1;simp [h.1,e1]
     rw [<-this];exact hc
  ·cases h5
 ·rw [hd] at h6;simp only [E7V] at h6;intro hm;rw [List.contains_iff_mem.2 hm] at h6;cases h6
theorem D4e {R:Type} {e:Env} {h:B5} {k:Option R} {res:R}:∀ {l:List (Nat × AOp)},again l e h k=A4 res->k=A4 res/\∀ c∈l,A7O h c.2 e=A4 (e.get c.1)
 | [],hr=>⟨hr,by simp⟩
 | c::l,hr=>by
  rw [C60] at hr;unfold agn at hr;split at hr
  ·rename_i hc;obtain ⟨h1,h2⟩:=D4e hr;exact ⟨h1,λx hx=>by rcases List.mem_cons.1 hx with e | hx;subst e;exact hc;exact h2 x hx⟩
  ·cases hr
structure Sim2 (Γ:Ctx) (l:List AOper) (s:AOper) (n0 N:Nat) (e:Env) (vs:Nat->Val) (v:Val) (μ0:Mu) (done:Nat->Bool) (h2:B5) (μ:Mu) (a:Act) (w:World):Prop where
 envD:∀ (i:Nat) ao d,l[i]?=A4 ao->done i=A5->ao.dst=A4 d->RV μ (vs i) (a.tmps.getD d undef)
 envO:∀ t,(∀ (i:Nat) ao,l[i]?=A4 ao->done i=A5->ao.dst≠A4 t)->s.dst≠A4 t->RV μ (e.get t) (a.tmps.getD t undef)
 envS:∀ d,s.dst=A4 d->RV μ v (a.tmps.getD d undef)
 inv:Inv Γ μ h2 w
 le:μ0.le μ
 keep:∀ id,id<n0 -> μ id = μ0 id
 size:N<=a.tmps.size
 defers:a.defers = Γ.ds
theorem B1z {a:Act} {dst:Option Nat} {V:Value} {t:Nat} (h:dst≠A4 t):(a.put dst V).tmps.getD t undef=a.tmps.getD t undef:=by
 cases hd:dst with
 | none=>rfl
 | some d =>
  rw [hd] at h;simp [Act.put,Array.getElem?_setIfInBounds_ne (show d≠t from λe=>h (by rw [e]))]
theorem B35 {a:Act} {d N:Nat} {V:Value} (h:yW N (A4 d)=A5) (hN:N<=a.tmps.size):(a.put (A4 d) V).tmps.getD d undef=V:=by
 have V5:d<a.tmps.size:=by
  simp [yW] at h;exact Nat.lt_of_lt_of_le h hN
 simp [Act.put,Array.getD,V5]
section
variable {P:Program} {N m:Nat} {ops:Array Oper} {l r:List AOper} {s:AOper} {chk:List (Nat × AOp)} {E:O3} {hr:B5} {e:Env} {es:Nat->Env} {hs:Nat->B5} {vs:Nat->Val} {Γ:Ctx} {μ0:Mu}
theorem E2e (D:DrawOk P N ops m l (s::r)) (hR:D9s ops l) (ht:Trace E hr hr.length l es hs vs) (he:es 0=e) {i t:Nat} {ao:AOper} (ha:l[i]?=A4 ao) (hm:t∈ao.reads):(es l.length).get t=(es i).get t:=by
 have O9:i<l.length:=(List.getElem?_eq_some_iff.1 ha).1;by_cases hw:∃ (j:Nat) (aj:AOper),l[j]?=A4 aj/\aj.dst=A4 t
 ·obtain ⟨j,aj,nX,hd⟩:=hw;obtain ⟨_,h2⟩:=hR i j ao aj t ha nX hd hm;rw [pU D ht nX hd i h2 (by omega),pU D ht nX hd l.length (by omega) (E7b _)]
 ·have cH:∀ (j:Nat) (aj:AOper),l[j]?=A4 aj->aj.dst≠A4 t:=λj aj nX hd=>hw ⟨j,aj,nX,hd⟩
  rw [xU ht he i (by omega) λj aj _ nX=>cH j aj nX,xU ht he l.length (E7b _) λj aj _ nX=>cH j aj nX]
theorem D9e (D:DrawOk P N ops m l (s::r)) (hR:D9s ops l) (hE:gD P E) (ht:Trace E hr hr.length l es hs vs) (he:es 0=e) {v:Val} {h2:B5} (hag:∀ c∈chk,A7O h2 c.2 (es l.length)=A4 ((es l.length).get c.1))
  {done:Nat->Bool} {μ:Mu} {a:Act} {w:World} (S:Sim2 Γ l s hr.length N e vs v μ0 done h2 μ a w) {i:Nat} {ao:AOper} {o:Oper} (ha:l[i]?=A4 ao) (ho:ops[i]?=A4 o) (hnd:done i=A6) (hf:Float1 s chk ao)
  (D7y:∀ (k:Nat) ak d,l[k]?=A4 ak->s.dst=A4 d->ak.dst≠A4 d)
  (hah:∀ b,((R0 ops).getD i 0).testBit b=A5->done b=A5)
  {next:Act->World->Prop} {Q:Exit->Act->World->Prop} (hn:∀ V w' μ',Sim2 Γ l s hr.length N e vs v μ0 (nZ done i) h2 μ' (a.put o.dst V) w'->next (a.put o.dst V) w') :
  if Region.wanted o (yielded ops a.tmps) then o.wp P a w next Q\/(o.asks P a w/\LetsOut Q) else next (a.put o.dst undef) w:=by
 have O9:i<l.length:=(List.getElem?_eq_some_iff.1 ha).1;have hco:aW P N ops o ao=A5:=D.oper i o ao ho (by rw [E7H O9];exact ha);have A0x:o.dst=ao.dst/\yW N o.dst=A5:=by
  simp only [aW,E69,decide_eq_true_eq] at hco;exact ⟨hco.1.1.1,hco.1.1.2⟩
 obtain ⟨d,hd,hds,E5e⟩:=hf.dst;have D0l:SEnv μ ((es i).keep ao.reads) a:=by
  intro t;rw [Env.get_keep_mem];split
  ·rename_i yA;by_cases hw:∃ (j:Nat) (aj:AOper),l[j]?=A4 aj/\aj.dst=A4 t
   ·obtain ⟨j,aj,nX,hdj⟩:=hw;obtain ⟨h1,h3⟩:=hR i j ao aj t ha nX hdj yA;rw [pU D ht nX hdj i h3 (by omega)];exact S.envD j aj t nX (hah j h1) hdj
   ·have cH:∀ (j:Nat) (aj:AOper),l[j]?=A4 aj->aj.dst≠A4 t:=λj aj nX hd=>hw ⟨j,aj,nX,hd⟩
    rw [xU ht he i (by omega) λj aj _ nX=>cH j aj nX];exact S.envO t (λj aj nX _=>cH j aj nX) λwS=>hf.reads t wS yA
  ·trivial
 have lF:=ht.step i ao ha;have B8j:X9 E A5 h2 hr.length ao (es i) h2 (λv h=>A4 (v,h))=A4 (vs i,h2):=by
  unfold X9 at lF ⊢;rw [hf.guard] at lF ⊢;simp only at lF ⊢;rcases E5e with hp | ⟨hp,yA⟩
  ·exact E1V hp lF _ _ _ _ _
  ·refine D9G hp ?_;have h1:=hag _ yA;simp only at h1;rw [pU D ht ha hd l.length O9 (E7b _)] at h1;rw [<-h1];refine D6U λx hx=>?_
   cases x with
   | v x=>rfl
   | t n=>exact (E2e D hR ht he ha (List.mem_append_left _ (List.mem_filterMap.2 ⟨.t n,hx,rfl⟩))).symm
 rw [C0O (e':=(es i).keep ao.reads) λt ht'=>by rw [Env.get_keep_mem,if_pos ht']] at B8j;refine A5a (hr:=h2) (n0:=hr.length) hE hco B8j D0l S.inv (λ_ _ h=>h) (by rw [hf.slot];trivial) ?_;intro V w' μ' cC hv hinv cG;rw [hf.slot] at cG;refine hn V w' μ' ⟨?_,?_,?_,hinv,Mu.le_trans S.le cC,?_,by rw [Act.size_put];exact S.size,by rw [put_defers];exact S.defers⟩
 ·intro k ak d' oZ hdk hd';by_cases e1:k=i
  ·subst e1;rw [ha] at oZ;cases oZ;rw [A0x.1,hd'];rw [B35 (by rw [<-hd',<-A0x.1];exact A0x.2) S.size];exact hv
  ·rw [Z0 _ _ e1] at hdk;rw [B1z (by rw [A0x.1];exact λh=>(D.apart i k ao ak ha oZ (Ne.symm e1)).1 d' h hd')];exact (S.envD k ak d' oZ hdk hd').mono cC
 ·intro t cH wS;have h1:=cH i ao ha (uV _ _);rw [B1z (by rw [A0x.1];exact h1)];refine (S.envO t (λk ak oZ hdk=>?_) wS).mono cC;by_cases e1:k=i
  ·subst e1;rw [hnd] at hdk;cases hdk
  ·exact cH k ak oZ (by rw [Z0 _ _ e1];exact hdk)
 ·intro d' hd';rw [B1z (by rw [A0x.1];exact D7y i ao d' ha hd')];exact (S.envS d' hd').mono cC
 ·intro id hid;by_cases hl:id<h2.length
  ·rw [<-S.keep id hid];exact cG id hl λj hj=>by cases hj
  ·have h1:=S.inv.dom id (by omega);have h3:=S.keep id hid;rw [h1] at h3;have h4:=hinv.dom id (by omega);rw [h4,<-h3]
end
theorem D1v {P:Program} {N L:Nat} {ops:Array Oper} {m:Nat} {l r:List AOper} {s:AOper} {chk:List (Nat × AOp)} {E:O3} (hE:gD P E) {e:Env} {h:B5} {R:Type} {k:Env->B5->Option R} {res:R}
  (hc:A0q P N ops m l (s::r)=A5) (hcs:D8l ops l s chk r=A5) (hL:L<=h.length)
  (D7:B3H E h h.length l e (h++E68 m A7) (λe h=>X9 E A6 h 0 s e h λv h2=>again chk e h2 (B0S E r (e.put s.dst v) h2 k))=A4 res) :
  ∃ e' h',k e' h'=A4 res/\L<=h'.length/\B2o P N L (λQ a w=>wpAny P .any ops Q ops.size (Array.replicate ops.size A6) a { w with drawn:=w.drawn+1 }) e h .normal e' h':=by
 have D:=A7k hc;simp only [D8l,E69,E70] at hcs;obtain ⟨⟨⟨hfl,hdi⟩,E6q⟩,hla⟩:=hcs;have hR:D9s ops l:=by
  intro i j ai aj d hi hj hd hr;have:=E6q (ai,i) (mem_zipIdx hi) (aj,j) (mem_zipIdx hj);simp only [hd,E74,E7V,E69,decide_eq_true_eq] at this;rcases this with this | this
  ·have hc:ai.reads.contains d=A5:=by simpa using hr
   rw [hc] at this;cases this
  ·exact this
 have hsz:ops.size=l.length+(r.length+1):=by rw [D.size];simp
 have last:=C7m hla (by rw [hsz];omega);have E3Y:∀ (i:Nat) ao,l[i]?=A4 ao->((R0 ops).getD l.length 0).testBit i=A6->Float1 s chk ao:=by
  intro i ao ha hb;have:=hfl (ao,i) (mem_zipIdx ha);simp only [E74] at this;rcases this with h | h
  ·rw [hb] at h;cases h
  ·exact D4D h
 have D7y:∀ (k:Nat) ak d,l[k]?=A4 ak->s.dst=A4 d->ak.dst≠A4 d:=by
  intro k ak d oZ hd;have:=hdi ak (E7y oZ);rw [hd] at this;simpa using this
 obtain ⟨es,hs,vs,he,h0,ht,hk⟩:=C89 l _ _ D7;rw [C65] at hk;simp only [E67] at hk;obtain ⟨⟨v,h2⟩,B8j,hk⟩:=hk;obtain ⟨hk,hag⟩:=D4e hk;simp only at hk hag;have hnl:l.length<ops.size:=by omega
 have hos:ops[l.length]?=A4 ops[l.length]:=by simp [hnl]
 have E44:aW P N ops ops[l.length] s=A5:=D.oper l.length _ s hos (by rw [E7l (E7b _)];simp);have E0y:s.slot=A7:=D.rslot s (by simp);have D48:ops[l.length].dst=s.dst/\yW N ops[l.length].dst=A5:=by
  have:=E44;simp only [aW,E69,decide_eq_true_eq] at this;exact ⟨this.1.1.1,this.1.1.2⟩
 have D6u:All2 (λi ao=>∃ o,ops[i]?=A4 o/\aW P N ops o ao=A5/\ao.slot=A7) (E7M (l.length+1) r.length) r:=by
  refine All2.of_get (by simp) λi x ao hx hao=>?_
  have hi:i<r.length:=(List.getElem?_eq_some_iff.1 hao).1;rw [List.getElem?_range' hi] at hx;simp at hx;subst hx;have V5:l.length+1+i<ops.size:=by omega
  refine ⟨ops[l.length+1+i],by simp [V5],?_,D.rslot ao (E7s _ (E7y hao))⟩;refine D.oper (l.length+1+i) _ ao (by simp [V5]) ?_;rw [E7l (by omega),show l.length+1+i-l.length=i+1 by omega];simpa using hao
 have hbl:=kP D ht h0 (k:=l.length) (E7b _);have hl2:=D1i hE B8j;obtain ⟨e',h',hk',hL',wS⟩:=C4J (L:=L) hE _ r ((es l.length).put s.dst v) h2 k res D6u hk (by omega);refine ⟨e',h',hk',hL',fun Γ μ0 a w hs0 hi hN hd Q hq=>?_⟩;have whole:∀ (listed:Array Bool) (a:Act) (w:World) (μ:Mu),Sim2 Γ l s h.length N e vs v μ0 (λi=>listed.getD i A6) h2 μ a w->(∀ j,j<l.length->listed.getD j A6=A5)->wpOps P ops Q (E7M (l.length+1) r.length) a w:=by
  intro listed a w μ S oD;have D0l:SEnv μ ((es l.length).put s.dst v) a:=by
   intro t;have main:s.dst≠A4 t->RV μ ((es l.length).get t) (a.tmps.getD t undef):=by
    intro T8;by_cases hw:∃ (j:Nat) (aj:AOper),l[j]?=A4 aj/\aj.dst=A4 t
    ·obtain ⟨j,aj,nX,hdj⟩:=hw;have hjl:=(List.getElem?_eq_some_iff.1 nX).1;rw [pU D ht nX hdj l.length hjl (E7b _)];exact S.envD j aj t nX (oD j hjl) hdj
    ·have cH:∀ (j:Nat) (aj:AOper),l[j]?=A4 aj->aj.dst≠A4 t:=λj aj nX hdj=>hw ⟨j,aj,nX,hdj⟩
     rw [xU ht he l.length (E7b _) λj aj _ nX=>cH j aj nX];exact S.envO t (λj aj nX _=>cH j aj nX) T8
   cases hsd:s.dst with
   | none=>exact main (by rw [hsd];simp)
   | some d =>
    by_cases e1:d=t
    ·subst e1;rw [Env.get_put_same];exact S.envS d hsd
    ·rw [Env.get_put_other _ _ _ _ e1];exact main (by rw [hsd];simpa using e1)
  exact wS Γ μ a w D0l S.inv S.size S.defers Q fun μ' a' w' g1 g2 g3 g4 g5 g6=>hq μ' a' w' (Mu.le_trans S.le g1) (λid hid=>(g2 id hid).trans (S.keep id (by omega))) g3 g4 g5 g6
 have main2:∀ (fuel:Nat) (listed:Array Bool) (a:Act) (w:World) (μ:Mu),listed.size=ops.size->left ops.size listed<=fuel->listed.getD l.length A6=A5 ->
   (∀ j,l.length<j->j<ops.size->listed.getD j A6=A6)->(∀ (j:Nat) ao,l[j]?=A4 ao->listed.getD j A6=A6->Float1 s chk ao) ->
   (∀ (i:Nat) (o:Oper),ops[i]?=A4 o->listed.getD i A6=A5->∀ p∈Z2 o,listed.getD p A6=A5) ->
   Sim2 Γ l s h.length N e vs v μ0 (λi=>listed.getD i A6) h2 μ a w->wpAny P .any ops Q fuel listed a w:=by
  intro fuel
  induction fuel with
  | zero =>
   intro listed a w μ hls B37 hsd dG E3X dH S;have oD:∀ j,j<ops.size->listed.getD j A6=A5:=by
    intro j hj;cases hv:listed.getD j A6 with
    | true=>rfl
    | false =>
     have hm:j∈(E7C ops.size).filter λi=>!listed.getD i A6:=by rw [List.mem_filter];exact ⟨by simpa using hj,by rw [hv];rfl⟩
     have:=List.length_pos_of_mem hm;unfold left at B37;omega
   have hr0:r.length=0:=by
    cases hr:r.length with
    | zero=>rfl
    | succ x =>
     have h1:=oD (l.length+1) (by omega);have h3:=dG (l.length+1) (by omega) (by omega);rw [h1] at h3;cases h3
   refine A1y D.dir last 0 (l.length+1) 0 listed a w (by omega) (E7b _) hls (λj hj=>?_) (E7b _) ?_
   ·rw [oD j hj];have:j<l.length+1:=by omega
    simp [this]
   ·have:=whole listed a w μ S λj hj=>oD j (by omega)
    rw [hr0] at this;exact this
  | succ fuel ih =>
   intro listed a w μ hls B37 hsd dG E3X dH S;by_cases oD:∀ j,j<l.length->listed.getD j A6=A5
   ·refine A1y D.dir last r.length (l.length+1) (fuel+1) listed a w (by omega) (E7b _) hls (λj hj=>?_) ?_ (whole listed a w μ S oD)
    ·by_cases hjl:j<l.length+1
     ·have:listed.getD j A6=A5:=by
       by_cases e1:j=l.length
       ·subst e1;exact hsd
       ·exact oD j (by omega)
      rw [this];simp [hjl]
     ·rw [dG j (by omega) hj];simp [hjl]
    ·refine E7K ?_ B37;unfold left;have:((E7C ops.size).filter λi=>!listed.getD i A6)=E7M (l.length+1) r.length:=by
      rw [show ops.size=(l.length+1)+r.length by omega,List.range_add,List.filter_append];have e1:(E7C (l.length+1)).filter (λi=>!listed.getD i A6)=[]:=by
       rw [List.filter_eq_nil_iff];intro j hj;have hj:j<l.length+1:=by simpa using hj
       have:listed.getD j A6=A5:=by
        by_cases e1:j=l.length
        ·subst e1;exact hsd
        ·exact oD j (by omega)
       rw [this];simp
      rw [e1,E7m,List.range'_eq_map_range,List.filter_eq_self.2];intro j hj;obtain ⟨x,hx,rfl⟩:=List.mem_map.1 hj;rw [dG _ (by omega) (by simp at hx;omega)];rfl
     rw [this];simp
   ·have hex:∃ j,j<l.length/\listed.getD j A6=A6:=by
     false_or_by_contra
     rename_i hn;exact oD λj hj=>by
      cases hv:listed.getD j A6 with
      | true=>rfl
      | false=>exact absurd ⟨j,hj,hv⟩ hn
    obtain ⟨j,hj,hv⟩:=hex;refine ⟨λhre=>absurd hre (A7R D.dir hls j (by omega) hv),λi hi=>?_⟩;obtain ⟨o,ho,h3,h4⟩:=nI.1 hi;have hin:=(Array.getElem?_eq_some_iff.1 ho).1;rw [getD_both (by omega)] at h3;have hah:=uT (done:=λi=>listed.getD i A6) D.dir dH i o ho h4;have O9:i<l.length:=by
     by_cases e1:i<l.length
     ·exact e1
     ·by_cases e2:i=l.length
      ·subst e2;rw [hsd] at h3;cases h3
      ·have:=hah j (last i (by omega) hin j (by omega))
       try simp only at this
       rw [hv] at this;cases this
    have hao:=E66 O9;have lF:=D9e D hR hE ht he hag S (i:=i) (ao:=l[i]) (o:=o) hao ho h3 (E3X i l[i] hao h3) D7y hah
     (next:=wpAny P .any ops Q fuel (listed.setIfInBounds i A5)) (Q:=Q) (by
      intro V w' μ' S';rw [<-R7 (by omega)] at S';refine ih (listed.setIfInBounds i A5) _ w' μ' (by simpa using hls) (by have:=B8B hin hls h3;omega) ?_ ?_ ?_ ?_ S'
      ·have:=congrFun (R7 (listed:=listed) (i:=i) (by omega)) l.length
       try simp only at this
       rw [this,Z0 _ _ (by omega)];exact hsd
      ·intro k hk hkn;have:=congrFun (R7 (listed:=listed) (i:=i) (by omega)) k
       try simp only at this
       rw [this,Z0 _ _ (by omega)];exact dG k hk hkn
      ·intro k ak oZ hdk;have e1:=congrFun (R7 (listed:=listed) (i:=i) (by omega)) k
       try simp only at e1
       rw [e1] at hdk;by_cases e2:k=i
       ·subst e2;rw [uV] at hdk;cases hdk
       ·rw [Z0 _ _ e2] at hdk;exact E3X k ak oZ hdk
      ·intro k ok hok hdk p hp;have e1:=congrFun (R7 (listed:=listed) (i:=i) (by omega)) k;have e2:=congrFun (R7 (listed:=listed) (i:=i) (by omega)) p
       try simp only at e1 e2
       rw [e1] at hdk;rw [e2];have B36:listed.getD p A6=A5:=by
        by_cases e3:k=i
        ·subst e3;rw [ho] at hok;cases hok;exact h4 p hp
        ·rw [Z0 _ _ e3] at hdk;exact dH k ok hok hdk p hp
       unfold nZ;show (decide (p=i)||listed.getD p A6)=A5;rw [B36];simp)
    unfold wpOp;rw [ho];exact lF
 have main:∀ (fuel:Nat) (listed:Array Bool) (a:Act) (w:World) (q:Nat) (μ:Mu),listed.size=ops.size->left ops.size listed<=fuel ->
   (∀ j,l.length<=j->j<ops.size->listed.getD j A6=A6)->(∀ (i:Nat) (o:Oper),ops[i]?=A4 o->listed.getD i A6=A5->∀ p∈Z2 o,listed.getD p A6=A5) ->
   Sim Γ l h.length N e es hs vs μ0 (λi=>listed.getD i A6) q μ a w->wpAny P .any ops Q fuel listed a w:=by
  intro fuel
  induction fuel with
  | zero =>
   intro listed a w q μ hls B37 dG dH S;have hv:=dG l.length (E7b _) hnl;have hm:l.length∈(E7C ops.size).filter λi=>!listed.getD i A6:=by rw [List.mem_filter];exact ⟨by simpa using hnl,by rw [hv];rfl⟩
   have:=List.length_pos_of_mem hm;unfold left at B37;omega
  | succ fuel ih =>
   intro listed a w q μ hls B37 dG dH S;have hv:=dG l.length (E7b _) hnl;refine ⟨λhre=>absurd hre (A7R D.dir hls l.length hnl hv),λi hi=>?_⟩;obtain ⟨o,ho,h3,h4⟩:=nI.1 hi;have hin:=(Array.getElem?_eq_some_iff.1 ho).1;rw [getD_both (by omega)] at h3;have hah:=uT (done:=λi=>listed.getD i A6) D.dir dH i o ho h4;have xY:∀ k,listed.getD k A6=A5->∀ b,((R0 ops).getD k 0).testBit b=A5->listed.getD b A6=A5:=by
    intro k hk b hb;by_cases hkn:k<ops.size
    ·have hok:ops[k]?=A4 ops[k]:=by simp [hkn]
     exact uT (done:=λi=>listed.getD i A6) D.dir dH k _ hok (dH k _ hok hk) b hb
    ·have:listed.getD k A6=A6:=by simp [Array.getD,show ¬ k<listed.size by omega]
     rw [this] at hk;cases hk
   have D44:∀ k ok,ops[k]?=A4 ok->(listed.setIfInBounds i A5).getD k A6=A5->∀ p∈Z2 ok,(listed.setIfInBounds i A5).getD p A6=A5:=by
    intro k ok hok hdk p hp;have e1:=congrFun (R7 (listed:=listed) (i:=i) (by omega)) k;have e2:=congrFun (R7 (listed:=listed) (i:=i) (by omega)) p
    try simp only at e1 e2
    rw [e1] at hdk;rw [e2];have B36:listed.getD p A6=A5:=by
     by_cases e3:k=i
     ·subst e3;rw [ho] at hok;cases hok;exact h4 p hp
     ·rw [Z0 _ _ e3] at hdk;exact dH k ok hok hdk p hp
    unfold nZ;show (decide (p=i)||listed.getD p A6)=A5;rw [B36];simp
   by_cases O9:i<l.length
   ·have lF:=D5P D hE ht h0 he S (i:=i) (ao:=l[i]) (o:=o) (E66 O9) ho h3 hah xY
     (next:=wpAny P .any ops Q fuel (listed.setIfInBounds i A5)) (Q:=Q) (by
      intro V w' μ' q' S';rw [<-R7 (by omega)] at S';refine ih (listed.setIfInBounds i A5) _ w' q' μ' (by simpa using hls) (by have:=B8B hin hls h3;omega) ?_ D44 S';intro k hk hkn;have:=congrFun (R7 (listed:=listed) (i:=i) (by omega)) k
      try simp only at this
      rw [this,Z0 _ _ (by omega)];exact dG k hk hkn)
    unfold wpOp;rw [ho];exact lF
   ·have hie:i=l.length:=by
     by_cases e1:i=l.length
     ·exact e1
     ·have:=hah l.length (last i (by omega) hin l.length (by omega))
      try simp only at this
      rw [hv] at this;cases this
    subst hie;have hoo:o=ops[l.length]:=by rw [hos] at ho;cases ho;rfl
    have B36:∀ (j:Nat) aj,l[j]?=A4 aj->listed.getD j A6=A6->Float1 s chk aj:=by
     intro j aj nX hdj;refine E3Y j aj nX ?_;cases hb:((R0 ops).getD l.length 0).testBit j with
     | false=>rfl
     | true =>
      have:=hah j hb
      try simp only at this
      rw [hdj] at this;cases this
    have hlen:(hs l.length).length=(hs q).length:=by
     have hql:=S.qle;have:=yC D ht (q:=q) (l.length-q) (by omega) λk ak h1 h2 oZ=>by
      cases hck:Y5 ak.op with
      | false=>rfl
      | true =>
       have hd1:listed.getD k A6=A5:=by
        cases hd2:listed.getD k A6 with
        | true=>rfl
        | false=>have:=(B36 k ak oZ hd2).call;rw [hck] at this;cases this
       have:=(S.calls k ak oZ hck).1 hd1;omega
     rwa [show q+(l.length-q)=l.length by omega] at this
    have D1H:HD (hs l.length) (und l h.length λi=>listed.getD i A6) (hs q).length=hs l.length:=by
     refine xZ (by rw [J7,hlen]) λid hid=>?_
     rw [J7] at hid;have hu:und l h.length (λi=>listed.getD i A6) id=A6:=by
      cases hu:und l h.length (λi=>listed.getD i A6) id with
      | false=>rfl
      | true =>
       obtain ⟨k,hk,ao,j,oZ,hj,_⟩:=Z6.1 hu;have:=(B36 k ao oZ hk).slot;rw [hj] at this;cases this
     rw [tS,if_pos ⟨hid,hu⟩]
    have hinv:=S.inv;rw [D1H] at hinv;have D0l:SEnv μ ((es l.length).keep s.reads) a:=by
     intro t;rw [Env.get_keep_mem];split
     ·rename_i yA;by_cases hw:∃ (j:Nat) (aj:AOper),l[j]?=A4 aj/\aj.dst=A4 t
      ·obtain ⟨j,aj,nX,hdj⟩:=hw;have hjl:=(List.getElem?_eq_some_iff.1 nX).1;rw [pU D ht nX hdj l.length hjl (E7b _)];refine S.envD j aj t nX ?_ hdj;cases hd2:listed.getD j A6 with
       | true=>rfl
       | false =>
        obtain ⟨d,h5,h6,_⟩:=(B36 j aj nX hd2).dst;rw [hdj] at h5;cases h5;exact absurd yA h6
      ·have cH:∀ (j:Nat) (aj:AOper),l[j]?=A4 aj->aj.dst≠A4 t:=λj aj nX hdj=>hw ⟨j,aj,nX,hdj⟩
       rw [xU ht he l.length (E7b _) λj aj _ nX=>cH j aj nX];exact S.envO t λj aj nX _=>cH j aj nX
     ·trivial
    have E3m:=B8j;rw [C0O (e':=(es l.length).keep s.reads) λt ht'=>by rw [Env.get_keep_mem,if_pos ht']] at E3m;unfold wpOp;rw [ho];subst hoo;refine A5a (hr:=hs l.length) (n0:=0) hE E44 E3m D0l hinv (λ_ _ h=>h) (by rw [E0y];trivial) ?_;intro V w' μ' cC hv' E5c cG;rw [E0y] at cG;have D7x:=R7 (listed:=listed) (i:=l.length) (by omega);refine main2 fuel (listed.setIfInBounds l.length A5) _ w' μ' (by simpa using hls) (by have:=B8B hin hls h3;omega) ?_ ?_ ?_ D44 ?_
    ·have:=congrFun D7x l.length
     try simp only at this
     rw [this];exact uV _ _
    ·intro k hk hkn;have:=congrFun D7x k
     try simp only at this
     rw [this,Z0 _ _ (by omega)];exact dG k (by omega) hkn
    ·intro k ak oZ hdk;have hkl:=(List.getElem?_eq_some_iff.1 oZ).1;have:=congrFun D7x k
     try simp only at this
     rw [this,Z0 _ _ (by omega)] at hdk;exact B36 k ak oZ hdk
    ·have hsame:∀ k:Nat,k<l.length->(listed.setIfInBounds l.length A5).getD k A6=listed.getD k A6:=by
      intro k hkl;have:=congrFun D7x k
      try simp only at this
      rw [this,Z0 _ _ (by omega)]
     refine ⟨?_,?_,?_,E5c,Mu.le_trans S.le cC,?_,by rw [Act.size_put];exact S.size,by rw [put_defers];exact S.defers⟩
     ·intro k ak d oZ hdk hd;have hkl:=(List.getElem?_eq_some_iff.1 oZ).1
      try simp only at hdk
      rw [hsame k hkl] at hdk;rw [B1z (by rw [D48.1];exact λh=>D7y k ak d oZ h hd)];exact (S.envD k ak d oZ hdk hd).mono cC
     ·intro t cH wS;rw [B1z (by rw [D48.1];exact wS)];refine (S.envO t λk ak oZ hdk=>cH k ak oZ ?_).mono cC;have hkl:=(List.getElem?_eq_some_iff.1 oZ).1
      try simp only
      rw [hsame k hkl];exact hdk
     ·intro d hd;rw [D48.1,hd,B35 (by rw [<-hd,<-D48.1];exact D48.2) S.size];exact hv'
     ·intro id hid;rw [<-S.keep id hid];exact cG id (by omega) λj hj=>by cases hj
 have hgd:∀ i:Nat,(Array.replicate ops.size A6).getD i A6=A6:=by intro i;simp [Array.getD]
 have E3Z:(λi=>(Array.replicate ops.size A6).getD i A6)=λ_=>A6:=funext hgd
 refine main ops.size (Array.replicate ops.size A6) a _ 0 μ0 (by simp) ?_ (λj _ _=>hgd j) (λi o _ hd=>by rw [hgd] at hd;cases hd) ?_
 ·unfold left;exact E7K (List.length_filter_le _ _) (by simp)
 ·rw [E3Z];have E34:HD (hs l.length) (und l h.length λ_=>A6) (hs 0).length=h++E68 m A7:=by
   rw [h0];refine xZ (by rw [J7]) λid hid=>?_
   rw [J7] at hid;rw [tS];by_cases ho:∃ i,A10 l h.length i id
   ·obtain ⟨i,ho⟩:=ho;have hu:und l h.length (λ_=>A6) id=A5:=Z6.2 ⟨i,rfl,ho⟩;rw [hu];have:=A5R D ht h0 ho 0 (Nat.zero_le _);rw [h0] at this;rw [this];simp
   ·have cH:∀ i,0<=i->¬ A10 l h.length i id:=λi _ hi=>ho ⟨i,hi⟩
    have hu:und l h.length (λ_=>A6) id=A6:=by
     cases hu:und l h.length (λ_=>A6) id with
     | false=>rfl
     | true=>obtain ⟨i,_,hi⟩:=Z6.1 hu;exact absurd ⟨i,hi⟩ ho
    rw [if_pos ⟨hid,hu⟩];have:=oE D ht (k:=0) (id:=id) (by rw [h0];exact hid) cH l.length (by omega);rw [E7t,h0] at this;exact this
  refine ⟨Nat.zero_le _,λi ao _ _=>⟨λh=>(by cases h),λh=>(by omega)⟩,λi ao d _ h=>(by cases h),λt _=>hs0 t,?_,λid hid=>?_,Mu.le_refl _,λ_ _=>rfl,hN,hd⟩
  ·rw [E34];exact (hi.pad m).world rfl rfl rfl λ_ _=>rfl
  ·obtain ⟨i,_,ao,j,_,_,rfl⟩:=Z6.1 hid;exact hi.dom _ (by omega)
def sw (k i:Nat):Nat:=if i=k then k+1 else if i=k+1 then k else i
theorem D76 (k i:Nat):sw k (sw k i)=i:=by unfold sw;split<;>(try split)<;>(try split)<;>omega
theorem D75 {k i n:Nat} (hk:k+1<n):sw k i<n↔i<n:=by unfold sw;split<;>(try split)<;>omega
theorem E4N {k i j:Nat} (h:sw k i=sw k j):i=j:=by rw [<-D76 k i,h,D76]
def swO (k:Nat) (o:Oper):Oper:={ o with after:=o.after.map λe=>{ e with on:=sw k e.on },guard:=o.guard.map λg=>(sw k g.1,g.2) }
def swp (k:Nat) (ops:Array Oper):Array Oper:=((E7C ops.size).map λi=>swO k (ops.getD (sw k i) default)).toArray
theorem swp_size (k:Nat) (ops:Array Oper):(swp k ops).size=ops.size:=by simp [swp]
theorem D67 {k:Nat} {ops:Array Oper} (hk:k+1<ops.size) (i:Nat):(swp k ops)[sw k i]?=(ops[i]?).map (swO k):=by
 by_cases hi:i<ops.size
 ·have h1:sw k i<ops.size:=(D75 hk).2 hi;unfold swp;simp [h1,hi,D76]
 ·have h1:¬ sw k i<ops.size:=λh=>hi ((D75 hk).1 h)
  rw [Array.getElem?_eq_none (by rw [swp_size];omega),Array.getElem?_eq_none (by omega)];rfl
theorem C3f (k:Nat) (o:Oper):Z2 (swO k o)=(Z2 o).map (sw k):=by
 unfold Z2 swO;simp only [Array.toList_map];rw [List.filter_map,List.map_map,List.map_map]
 congr 1
theorem D66 {k:Nat} {ops:Array Oper} (hk:k+1<ops.size) (o:Oper) (t:Array Value):Region.wanted (swO k o) (yielded (swp k ops) t)=Region.wanted o (yielded ops t):=by
 unfold Region.wanted swO;cases hg:o.guard with
 | none=>rfl
 | some g =>
  obtain ⟨j,b⟩:=g;simp only [Option.map_some];unfold yielded;rw [D67 hk];cases ops[j]?<;>rfl
theorem E28 {P:Program} {k:Nat} {ops:Array Oper} (hk:k+1<ops.size) {Q:Exit->Act->World->Prop} {i:Nat} {a:Act} {w:World} {K:Act->World->Prop}:wpOp P (swp k ops) Q (sw k i) K a w=wpOp P ops Q i K a w:=by
 unfold wpOp;rw [D67 hk];cases hi:ops[i]? with
 | none=>rfl
 | some o =>
  simp only [Option.map_some];rw [D66 hk];rfl
theorem C8L {k:Nat} {ops:Array Oper} (hk:k+1<ops.size) {l l':Array Bool} (hl:∀ i b,l'.getD (sw k i) b=l.getD i b) (i:Nat):sw k i∈Region.ready .any (swp k ops) l'↔i∈Region.ready .any ops l:=by
 rw [nI,nI,D67 hk];constructor
 ·rintro ⟨o',h1,h2,h3⟩;cases ho:ops[i]? with
  | none=>rw [ho] at h1;cases h1
  | some o =>
   rw [ho] at h1;cases h1;refine ⟨o,rfl,by rw [<-hl];exact h2,λp hp=>?_⟩;rw [<-hl];exact h3 _ (by rw [C3f];exact List.mem_map.2 ⟨p,hp,rfl⟩)
 ·rintro ⟨o,h1,h2,h3⟩;refine ⟨swO k o,by rw [h1];rfl,by rw [hl];exact h2,λp hp=>?_⟩;rw [C3f] at hp;obtain ⟨q,hq,rfl⟩:=List.mem_map.1 hp;rw [hl];exact h3 q hq
theorem D3A {k:Nat} {ops:Array Oper} (hk:k+1<ops.size) {l l':Array Bool} (hl:∀ i b,l'.getD (sw k i) b=l.getD i b) (h:Region.ready .any ops l=[]):Region.ready .any (swp k ops) l'=[]:=by
 rw [List.eq_nil_iff_forall_not_mem];intro i hi;have:=(C8L hk hl (sw k i)).1 (by rw [D76];exact hi);rw [h] at this;cases this
theorem D5Y {P:Program} {k:Nat} {ops:Array Oper} (hk:k+1<ops.size) {Q:Exit->Act->World->Prop}:∀ (fuel:Nat) (l l':Array Bool) (a:Act) (w:World),l.size=ops.size->l'.size=ops.size->(∀ i b,l'.getD (sw k i) b=l.getD i b) ->
  wpAny P .any (swp k ops) Q fuel l' a w->wpAny P .any ops Q fuel l a w
 | 0,l,l',a,w,s1,s2,hl,h=>by
  refine ⟨?_,h.2⟩;rw [List.eq_nil_iff_forall_not_mem];intro i hi;have:=(C8L hk hl i).2 hi;rw [h.1] at this;cases this
 | fuel+1,l,l',a,w,s1,s2,hl,h=>by
  refine ⟨λhe=>h.1 (D3A hk hl he),λi hi=>?_⟩;have h1:=h.2 (sw k i) ((C8L hk hl i).2 hi);rw [E28 hk] at h1;have V5:i<ops.size:=by
   obtain ⟨o,ho,_⟩:=nI.1 hi;exact (Array.getElem?_eq_some_iff.1 ho).1
  have E6h:sw k i<l'.size:=by rw [s2];exact (D75 hk).2 V5
  refine wpOp_mono (λa w hh=>D5Y hk fuel _ _ a w (by simpa using s1) (by simpa using s2) (λj b=>?_) hh) h1;by_cases e:j=i
  ·subst e;simp [Array.getD,E6h,show j<l.size by omega]
  ·have e2:sw k j≠sw k i:=λh=>e (E4N h)
   rw [Array.getD_eq_getD_getElem?,Array.getD_eq_getD_getElem?,Array.getElem?_setIfInBounds_ne (Ne.symm e2),Array.getElem?_setIfInBounds_ne (Ne.symm e),<-Array.getD_eq_getD_getElem?,<-Array.getD_eq_getD_getElem?];exact hl j b
theorem E0f {P:Program} {N L:Nat} {ops:Array Oper} {m id:Nat} {l r:List AOper} {s:AOper} {chk:List (Nat × AOp)} {E:O3} (hE:gD P E) {e:Env} {h:B5} {R:Type} {k:Env->B5->Option R} {res:R}
  (hc:(A0q P N ops m l (s::r)&&D8l ops l s chk r)=A5\/(decide (l.length<ops.size)&&decide (0<l.length)&&A0q P N (swp (l.length-1) ops) m l (s::r)&&D8l (swp (l.length-1) ops) l s chk r)=A5) (hL:L<=h.length)
  (D7:B3H E h h.length l e (h++E68 m A7) (λe h=>X9 E A6 h 0 s e h λv h2=>again chk e h2 (B0S E r (e.put s.dst v) h2 k))=A4 res) :
  ∃ e' h',k e' h'=A4 res/\L<=h'.length/\B2o P N L ((Code.region id ops A5).wp P) e h .normal e' h':=by
 rcases hc with hc | hc
 ·rw [E69] at hc;obtain ⟨e',h',h1,h2,h3⟩:=D1v hE hc.1 hc.2 hL D7;exact ⟨e',h',h1,h2,fun Γ μ0 a w g1 g2 g3 g4 Q hq=>wp_region_any (A7k hc.1).follows (h3 Γ μ0 a w g1 g2 g3 g4 Q hq)⟩
 ·simp only [E69,decide_eq_true_eq] at hc;obtain ⟨⟨⟨hs,h0⟩,hc⟩,hcs⟩:=hc;obtain ⟨e',h',h1,h2,h3⟩:=D1v hE hc hcs hL D7;refine ⟨e',h',h1,h2,fun Γ μ0 a w g1 g2 g3 g4 Q hq=>wp_region_any (A7k hc).follows ?_⟩;have hk:l.length-1+1<ops.size:=by omega
  refine D5Y hk _ _ (Array.replicate ops.size A6) a _ (by simp) (by simp) (λi b=>?_) ?_
  ·simp only [Array.getD,Array.size_replicate,D75 hk];split<;>simp
  ·have:=h3 Γ μ0 a w g1 g2 g3 g4 Q hq;simpa only [swp_size] using this
def C0X (P:Program) (N:Nat) (ops:Array Oper):List Oper->List AOper->Bool
 | [],[]=>A5
 | o::r,a::l=>aW P N ops o a&&decide (a.slot=A7)&&C0X P N ops r l
 | _,_=>A6
def Z1 (P:Program) (N:Nat):Code->ACode->Bool
 | c,.skip=>(match c with | .skip=>A5 | _=>A6)
 | c,.ops l=>(match c with | .region _ ops false=>C0X P N ops ops.toList l | _=>A6)
 | c,.draw m l r=>(match c with | .region _ ops true=>A0q P N ops m l r&&B7Z ops l.length r.length | _=>A6)
 | c,.drawS m l s chk r=>(match c with | .region _ ops true=>(A0q P N ops m l (s::r)&&D8l ops l s chk r)||(decide (l.length<ops.size)&&decide (0<l.length)&&A0q P N (swp (l.length-1) ops) m l (s::r)&&D8l (swp (l.length-1) ops) l s chk r) | _=>A6)
 | c,.seq _ a b=>(match c with | .seq x y=>Z1 P N x a&&Z1 P N y b | _=>A6)
 | c,.cond q a b=>(match c with | .cond z x y=>E7 z q&&Z1 P N x a&&Z1 P N y b | _=>A6)
 | c,.block id a=>(match c with | .block bF x=>decide (bF=id)&&Z1 P N x a | _=>A6)
 | c,.loop _ a=>(match c with | .loop x=>Z1 P N x a | _=>A6)
 | c,.exit id=>(match c with | .exit bF=>decide (bF=id) | _=>A6)
 | c,.ret=>(match c with | .ret=>A5 | _=>A6)
def bR (P:Program):List ResultVar->List ARes->Bool
 | [],[]=>A5
 | .tmp t::r,.tmp t'::l=>decide (t=t')&&bR P r l
 | .cell t ty::r,.cell1 t'::l=>decide (t=t')&&decide (kM P ty=A4 A6)&&bR P r l
 | .cell t ty::r,.cellN t' n::l=>decide (t=t')&&decide (kM P ty=A4 A5)&&decide (R4 P ty=A4 n)&&bR P r l
 | _,_=>A6
def C7l (P:Program) (fn:Func) (f:AFn):Bool :=
 (match fn.body with | some c => Z1 P fn.ntmps c f.code | none => false) && bR P fn.results.toList f.res && !(fn.name == "runtime.NumGoroutine")
section
variable {P:Program} {R:Type}
theorem D1q {N:Nat} {ops:Array Oper}:∀ (pre:List Oper) (os:List Oper) (aos:List AOper),ops.toList=pre++os->C0X P N ops os aos=A5 ->
  All2 (λi ao=>∃ o,ops[i]?=A4 o/\aW P N ops o ao=A5/\ao.slot=A7) (E7M pre.length os.length) aos
 | pre,[],[],_,_=>trivial
 | pre,o::os,ao::aos,he,hc=>by
  simp only [C0X,E69,decide_eq_true_eq] at hc;rw [E7g,List.range'_succ];refine ⟨⟨o,?_,hc.1.1,hc.1.2⟩,?_⟩
  ·rw [<-Array.getElem?_toList,he];simp
  ·have:=D1q (pre++[o]) os aos (by rw [he];simp) hc.2;simpa using this
 | _,[],_::_,_,h=>by simp [C0X] at h
 | _,_::_,[],_,h=>by simp [C0X] at h
theorem D55 {N L:Nat} {E:O3} (hE:gD P E) (n:Nat):∀ (ac:ACode) (c:Code) (k:AExit->Env->B5->Option R) (e:Env) (h:B5) (r:R),
  Z1 P N c ac=A5->aex E n ac k e h=A4 r->L<=h.length->∃ x e' h',k x e' h'=A4 r/\L<=h'.length/\B2o P N L (c.wp P) e h x e' h':=by
 intro ac
 induction ac with
 | skip =>
  intro c k e h r hc D7 hL;unfold Z1 at hc;split at hc
  ·exact ⟨.normal,e,h,D7,hL,fun Γ μ a w hs hi hN hd Q hq=>wp_skip (hq μ a w (Mu.le_refl _) (λ_ _=>rfl) hs hi hN hd)⟩
  ·cases hc
 | ops l =>
  intro c k e h r hc D7 hL;unfold Z1 at hc;split at hc
  ·rename_i id ops;simp only [aex,E1A] at D7;obtain ⟨e',h',hk,hL',wS⟩:=C4J hE _ l e h _ r (D1q [] ops.toList l rfl hc) D7 hL;refine ⟨.normal,e',h',hk,hL',fun Γ μ a w hs hi hN hd Q hq=>wp_region ?_⟩;have:=wS Γ μ a w hs hi hN hd Q hq;simpa [List.range_eq_range'] using this
  ·cases hc
 | draw m l r' =>
  intro c k e h r hc D7 hL;unfold Z1 at hc;split at hc
  ·rename_i id ops;simp only [aex,D62] at D7;rw [E69] at hc;obtain ⟨e',h',hk,hL',wS⟩:=E2d (id:=id) hE hc.1 hc.2 hL D7;exact ⟨.normal,e',h',hk,hL',wS⟩
  ·cases hc
 | drawS m l s chk r' =>
  intro c k e h r hc D7 hL;unfold Z1 at hc;split at hc
  ·rename_i id ops;simp only [aex,D3O] at D7;obtain ⟨e',h',hk,hL',wS⟩:=E0f (id:=id) hE (by simpa only [E74] using hc) hL D7;exact ⟨.normal,e',h',hk,hL',wS⟩
  ·cases hc
 | seq keep a b iha ihb =>
  intro c k e h r hc D7 hL;unfold Z1 at hc;split at hc
  ·rename_i x y;simp only [E69] at hc;simp only [aex,D5S,E2p] at D7;obtain ⟨x1,e1,h1,hk1,hL1,A85⟩:=iha x _ e h r hc.1 D7 hL;cases x1 with
   | normal =>
    change hold (aex E n b k (e1.keep keep) h1)=A4 r at hk1;simp only [hold] at hk1;obtain ⟨x2,e2,h2,hk2,hL2,E37⟩:=ihb y k (e1.keep keep) h1 r hc.2 hk1 hL1;refine ⟨x2,e2,h2,hk2,hL2,fun Γ μ a w hs hi hN hd Q hq=>wp_seq (A85 Γ μ a w hs hi hN hd _ ?_)⟩;intro μ1 a1 w1 g1 g2 g3 g4 g5 g6;exact E37 Γ μ1 a1 w1 (g3.keep keep) g4 g5 g6 Q fun μ2 a2 w2 f1 f2 f3 f4 f5 f6=>hq μ2 a2 w2 (Mu.le_trans g1 f1) (λid hid=>(f2 id hid).trans (g2 id hid)) f3 f4 f5 f6
   | exit id=>exact ⟨.exit id,e1,h1,hk1,hL1,fun Γ μ a w hs hi hN hd Q hq=>wp_seq (A85 Γ μ a w hs hi hN hd _ hq)⟩
   | ret=>exact ⟨.ret,e1,h1,hk1,hL1,fun Γ μ a w hs hi hN hd Q hq=>wp_seq (A85 Γ μ a w hs hi hN hd _ hq)⟩
  ·cases hc
 | cond q a b iha ihb =>
  intro c k e h r hc D7 hL;unfold Z1 at hc;split at hc
  ·rename_i z x y;simp only [E69] at hc;simp only [aex,C8Z,cnd] at D7;split at D7
   ·rename_i t wR;have hz:∀ {μ:Mu} {a:Act},SEnv μ e a->a.eval z=.bool t:=by
     intro μ a hs;have:RV μ _ _:=D6 hc.1.1 hs;rw [wR] at this;exact this
    cases t with
    | true =>
     obtain ⟨x1,e1,h1,hk1,hL1,A85⟩:=iha x k e h r hc.1.2 D7 hL;exact ⟨x1,e1,h1,hk1,hL1,fun Γ μ a w hs hi hN hd Q hq=>wp_cond_true (hz hs) (A85 Γ μ a w hs hi hN hd Q hq)⟩
    | false =>
     obtain ⟨x1,e1,h1,hk1,hL1,A85⟩:=ihb y k e h r hc.2 D7 hL;exact ⟨x1,e1,h1,hk1,hL1,fun Γ μ a w hs hi hN hd Q hq=>wp_cond_false (hz hs) (A85 Γ μ a w hs hi hN hd Q hq)⟩
   ·cases D7
  ·cases hc
 | block id a iha =>
  intro c k e h r hc D7 hL;unfold Z1 at hc;split at hc
  ·rename_i bF x;simp only [E69,decide_eq_true_eq] at hc;obtain ⟨rfl,hc⟩:=hc;simp only [aex,B88,D6v] at D7;obtain ⟨x1,e1,h1,hk1,hL1,A85⟩:=iha x _ e h r hc D7 hL;cases x1 with
   | normal=>exact ⟨.normal,e1,h1,hk1,hL1,fun Γ μ a w hs hi hN hd Q hq=>wp_block (A85 Γ μ a w hs hi hN hd _ hq)⟩
   | exit i =>
    change (bif Nat.beq i bF then k .normal e1 h1 else k (.exit i) e1 h1)=A4 r at hk1;cases hb:Nat.beq i bF with
    | true =>
     rw [hb] at hk1;have hi':=Nat.eq_of_beq_eq_true hb;subst hi';exact ⟨.normal,e1,h1,hk1,hL1,fun Γ μ a w hs hi hN hd Q hq=>wp_block (A85 Γ μ a w hs hi hN hd _ fun μ1 a1 w1 g1 g2 g3 g4 g5 g6=>by
      show (if i=i then Q .normal a1 w1 else _);rw [if_pos rfl];exact hq μ1 a1 w1 g1 g2 g3 g4 g5 g6)⟩
    | false =>
     rw [hb] at hk1;have T8:i≠bF:=by intro e;subst e;simp at hb
     exact ⟨.exit i,e1,h1,hk1,hL1,fun Γ μ a w hs hi hN hd Q hq=>wp_block (A85 Γ μ a w hs hi hN hd _ fun μ1 a1 w1 g1 g2 g3 g4 g5 g6=>by
      show (if i=bF then _ else Q (.exit i) a1 w1);rw [if_neg T8];exact hq μ1 a1 w1 g1 g2 g3 g4 g5 g6)⟩
   | ret=>exact ⟨.ret,e1,h1,hk1,hL1,fun Γ μ a w hs hi hN hd Q hq=>wp_block (A85 Γ μ a w hs hi hN hd _ hq)⟩
  ·cases hc
 | loop keep a iha =>
  intro c k e h r hc D7 hL;unfold Z1 at hc;split at hc
  ·rename_i x;simp only [aex,C80] at D7;have key:∀ (m:Nat) (e:Env) (h:B5),A7h (aex E n a) keep k m e h=A4 r->L<=h.length ->
     ∃ x1 e' h',k x1 e' h'=A4 r/\L<=h'.length/\B2o P N L (λQ=>Code.rounds P x Q m) e h x1 e' h':=by
    intro m
    induction m with
    | zero=>intro e h D7;rw [C2z] at D7;cases D7
    | succ m ih =>
     intro e h D7 hL;rw [C2y] at D7;obtain ⟨x1,e1,h1,hk1,hL1,A85⟩:=iha x _ e h r hc D7 hL;cases x1 with
     | normal =>
      simp only at hk1;obtain ⟨x2,e2,h2,hk2,hL2,E37⟩:=ih (e1.keep keep) h1 hk1 hL1;refine ⟨x2,e2,h2,hk2,hL2,fun Γ μ a w hs hi hN hd Q hq=>?_⟩;show Code.rounds P x Q (m+1) a w;rw [rounds_succ];refine A85 Γ μ a w hs hi hN hd _ ?_;intro μ1 a1 w1 g1 g2 g3 g4 g5 g6;exact E37 Γ μ1 a1 w1 (g3.keep keep) g4 g5 g6 Q fun μ2 a2 w2 f1 f2 f3 f4 f5 f6=>hq μ2 a2 w2 (Mu.le_trans g1 f1) (λid hid=>(f2 id hid).trans (g2 id hid)) f3 f4 f5 f6
     | exit id=>exact ⟨.exit id,e1,h1,hk1,hL1,fun Γ μ a w hs hi hN hd Q hq=>by
       show Code.rounds P x Q (m+1) a w;rw [rounds_succ];exact A85 Γ μ a w hs hi hN hd _ hq⟩
     | ret=>exact ⟨.ret,e1,h1,hk1,hL1,fun Γ μ a w hs hi hN hd Q hq=>by
       show Code.rounds P x Q (m+1) a w;rw [rounds_succ];exact A85 Γ μ a w hs hi hN hd _ hq⟩
   obtain ⟨x1,e1,h1,hk1,hL1,A85⟩:=key n (e.keep keep) h D7 hL;exact ⟨x1,e1,h1,hk1,hL1,fun Γ μ a w hs hi hN hd Q hq=>wp_loop_rounds n (A85 Γ μ a w (hs.keep keep) hi hN hd Q hq)⟩
  ·cases hc
 | exit id =>
  intro c k e h r hc D7 hL;unfold Z1 at hc;split at hc
  ·simp at hc;subst hc;exact ⟨.exit _,e,h,D7,hL,fun Γ μ a w hs hi hN hd Q hq=>wp_exit (hq μ a w (Mu.le_refl _) (λ_ _=>rfl) hs hi hN hd)⟩
  ·cases hc
 | ret =>
  intro c k e h r hc D7 hL;unfold Z1 at hc;split at hc
  ·exact ⟨.ret,e,h,D7,hL,fun Γ μ a w hs hi hN hd Q hq=>wp_ret (hq μ a w (Mu.le_refl _) (λ_ _=>rfl) hs hi hN hd)⟩
  ·cases hc
def B1T (tmps:Array Value):ResultVar->Sem Value
 | .tmp t=>pure (tmps.getD t undef)
 | .cell a t=>do loadVar t (<-asAddr (tmps.getD a undef))
theorem D1W {Γ:Ctx} {μ:Mu} {e:Env} {h:B5} {a:Act} {w:World} {q:ResultVar} {q':ARes} {v:Val} (hs:SEnv μ e a) (hi:Inv Γ μ h w) (hc:bR P [q] [q']=A5) (hv:D8d e h q'=A4 v) :
  ∃ V,(B1T a.tmps q).run P w=.ok V w/\RV μ v V:=by
 cases q with
 | tmp t =>
  cases q' with
  | tmp t' =>
   simp [bR] at hc;subst hc;simp [D8d] at hv;subst hv;exact ⟨_,rfl,hs t⟩
  | cell1 t'=>simp [bR] at hc
  | cellN t' n=>simp [bR] at hc
 | cell t ty =>
  cases q' with
  | tmp t'=>simp [bR] at hc
  | cell1 t' =>
   simp [bR] at hc;obtain ⟨rfl,oC⟩:=hc;simp only [D8d] at hv;obtain ⟨V,h1,h2⟩:=D2a (P:=P) (w:=w) oC hi.rows (hs t) hv;refine ⟨V,?_,h2⟩;rw [<-h1];have:∃ b,a.tmps.getD t undef=.pointer (A4 b):=by
    unfold B8 at hv;split at hv
    ·rename_i wR;have:=hs t;rw [wR] at this;obtain ⟨b,n,_,h3⟩:=this;exact ⟨_,h3⟩
    ·cases hv
   obtain ⟨b,hb⟩:=this;simp only [B1T,hb,Instr.loadAt,asAddr,Instr.sureAddr,pure_bind]
  | cellN t' n =>
   simp [bR] at hc;obtain ⟨⟨rfl,oC⟩,hsz⟩:=hc;simp only [D8d] at hv;obtain ⟨V,h1,h2⟩:=D2b (P:=P) (w:=w) oC hsz hi.rows (hs t) hv;refine ⟨V,?_,h2⟩;rw [<-h1];have:∃ b,a.tmps.getD t undef=.pointer (A4 b):=by
    unfold D4 at hv;split at hv
    ·rename_i wR;have:=hs t;rw [wR] at this;obtain ⟨b,n,_,h3⟩:=this;exact ⟨_,h3⟩
    ·cases hv
   obtain ⟨b,hb⟩:=this;simp only [B1T,hb,Instr.loadAt,asAddr,Instr.sureAddr,pure_bind]
theorem C2D {q:ResultVar} {r:List ResultVar} {q':ARes} {l:List ARes} (h:bR P (q::r) (q'::l)=A5):bR P [q] [q']=A5/\bR P r l=A5:=by
 cases q<;>cases q'<;>simp_all [bR]
theorem D1g {Γ:Ctx} {μ:Mu} {e:Env} {h:B5} {a:Act} {w:World} (hs:SEnv μ e a) (hi:Inv Γ μ h w):∀ {qs:List ResultVar} {ls:List ARes} {ps:List Part},bR P qs ls=A5->C2x e h ls=A4 ps ->
  ∃ Vs:List Value,(qs.mapM (B1T a.tmps)).run P w=.ok Vs w/\All2 (RP μ) ps Vs
 | [],[],ps,_,hv=>by simp [C2x] at hv;subst hv;exact ⟨[],rfl,trivial⟩
 | q::qs,q'::ls,ps,hc,hv=>by
  simp only [C2x,E67,E7q] at hv;obtain ⟨v,hv1,p,hp,l,hl,rfl⟩:=hv;obtain ⟨h1,h2⟩:=C2D hc;obtain ⟨V,h3,h4⟩:=D1W hs hi h1 hv1;obtain ⟨Vs,h5,h6⟩:=D1g hs hi h2 hl;refine ⟨V::Vs,?_,RP.ofVal h4 hp,h6⟩;rw [List.mapM_cons];simp [h3,h5]
 | [],_::_,_,h,_=>by simp [bR] at h
 | _::_,[],_,h,_=>by simp [bR] at h
theorem D5C {fn:Func} {tmps:Array Value} {w:World}:(results fn tmps).run P w=((fn.results.toList.mapM (B1T tmps)).run P w).andThen λvs w=>.ok (if h:vs.toArray.size=1 then vs.toArray[0] else .tuple vs.toArray) w:=by
 unfold results;rw [Array.mapM_eq_mapM_toList];simp only [Sem.run_bind,Sem.run_map];have key:∀ g:ResultVar->Sem Value,(∀ q,g q=B1T tmps q)->((((List.mapM g fn.results.toList).run P w).andThen λa w'=>Result.ok a.toArray w').andThen λa w'=>(pure (if h:a.size=1 then a[0] else Value.tuple a):Sem Value).run P w') =
   ((fn.results.toList.mapM (B1T tmps)).run P w).andThen λvs w=>.ok (if h:vs.toArray.size=1 then vs.toArray[0] else .tuple vs.toArray) w:=by
  intro g hg;rw [funext hg];cases (fn.results.toList.mapM (B1T tmps)).run P w<;>rfl
 exact key _ λq=>by cases q<;>rfl
theorem B5J {Γ:Ctx} {μ:Mu} {e:Env} {h h':B5} {a:Act} {w:World} {fn:Func} {rs:List ARes} {v:Val} (hs:SEnv μ e a) (hi:Inv Γ μ h w) (hc:bR P fn.results.toList rs=A5) (hv:mX rs e h=A4 (v,h')) :
  ∃ V,(results fn a.tmps).run P w=.ok V w/\RV μ v V/\h'=h:=by
 rw [D5C];unfold mX at hv;split at hv
 ·rename_i q';simp only [E7q,Prod.mk.injEq] at hv;obtain ⟨_,h1,rfl,rfl⟩:=hv;cases hq:fn.results.toList with
  | nil=>rw [hq] at hc;simp [bR] at hc
  | cons q r =>
   cases r with
   | cons q2 r=>rw [hq] at hc;have:=(C2D hc).2;simp [bR] at this
   | nil =>
    rw [hq] at hc;obtain ⟨V,h3,h4⟩:=D1W hs hi hc h1;refine ⟨V,?_,h4,rfl⟩;rw [List.mapM_cons];simp [h3]
 ·rename_i T8;simp only [E7q,Prod.mk.injEq] at hv;obtain ⟨l,h1,rfl,rfl⟩:=hv;obtain ⟨Vs,h3,h4⟩:=D1g hs hi hc h1;refine ⟨.tuple Vs.toArray,?_,⟨Vs,rfl,h4⟩,rfl⟩;rw [h3];have hl:Vs.length≠1:=by
   rw [<-h4.length];intro h0;have:∀ (ls:List ARes) (ps:List Part),C2x e h ls=A4 ps->ls.length=ps.length:=by
    intro ls
    induction ls with
    | nil=>intro ps h;simp [C2x] at h;subst h;rfl
    | cons x r ih =>
     intro ps h;simp only [C2x,E67,E7q] at h;obtain ⟨_,_,_,_,l',hl',rfl⟩:=h;simp [ih l' hl']
   have h5:=this _ _ h1;rw [h0] at h5;cases rs with
   | nil=>simp at h5
   | cons q r =>
    cases r with
    | nil=>exact T8 q rfl
    | cons _ _=>simp at h5
  simp [hl]
theorem C8A:∀ (args:List Val) (i t:Nat),(params i args).get t=if i<=t then (args[t-i]?).getD .un else .un
 | [],i,t=>by simp [params,Env.get]
 | v::r,i,t=>by
  simp only [params,Env.get];by_cases h:i=t
  ·subst h;simp
  ·have hb:Nat.beq i t=A6:=by cases hb:Nat.beq i t with
    | false=>rfl
    | true=>exact absurd (Nat.eq_of_beq_eq_true hb) h
   rw [hb,cond_false,C8A r (i+1) t];by_cases h2:i<=t
   ·have:t-i=(t-(i+1))+1:=by omega
    rw [if_pos h2,if_pos (by omega),this,E7S]
   ·rw [if_neg h2,if_neg (by omega)]
theorem Inv.ds {Γ:Ctx} {μ:Mu} {h:B5} {w:World} (ds:List Deferred) (hi:Inv Γ μ h w):Inv { Γ with ds:=ds } μ h w :=
 ⟨hi.rows,hi.sep,hi.own,hi.dom,⟨hi.ctx.os,hi.ctx.tape,hi.ctx.output,hi.ctx.block⟩⟩
theorem D4p {μ:Mu} {args:List Val} {V:List Value} (hargs:All2 (RV μ) args V) (n:Nat):SEnv μ (params 0 args) { tmps:=V.toArray++Array.replicate n undef,defers:=[] }:=by
 intro t;rw [C8A];simp only [Nat.zero_le,if_true,Nat.sub_zero];cases ha:args[t]? with
 | none=>trivial
 | some x =>
  obtain ⟨X,h2,h3⟩:=hargs.get t x ha;have V5:=(List.getElem?_eq_some_iff.1 h2).1;have:(V.toArray++Array.replicate n undef).getD t undef=X:=by
   rw [Array.getD_eq_getD_getElem?,Array.getElem?_append_left (by simpa using V5)];simp [h2]
  rw [this];exact h3
theorem E3i {E:O3} (hE:gD P E) {f:FuncId} {fn:Func} {af:AFn} (hf:P.funcs[f]?=A4 fn) (hc:C7l P fn af=A5) {n:Nat} {args:List Val} {h h':B5} {v:Val} (D7:af.run E n args h=A4 (v,h')) :
  kB P f/\h.length<=h'.length/\∃ c,fn.body=A4 c/\∀ (Γ:Ctx) (μ:Mu) (w:World) (V:List Value),Inv Γ μ h w->All2 (RV μ) args V ->
   c.wp P (bodyPost P fn λe w'=>∃ V' μ',e=.returned V' /\ μ.le μ'/\RV μ' v V'/\Inv Γ μ' h' w'/\∀ id,id<h.length -> μ' id = μ id) { tmps:=V.toArray++Array.replicate (fn.ntmps-V.toArray.size) undef,defers:=[] } w:=by
 simp only [C7l,E69,E7V] at hc;obtain ⟨⟨hb,hr⟩,D45⟩:=hc;cases C20:fn.body with
 | none=>rw [C20] at hb;cases hb
 | some c =>
  rw [C20] at hb;unfold AFn.run at D7;obtain ⟨x,e',h1,hk,hL,wS⟩:=D55 (L:=h.length) hE n af.code c af.fin (params 0 args) h (v,h') hb D7 (E7b _);have hlen:h.length<=h'.length:=by
   cases x with
   | normal=>simp only [AFn.fin] at hk;unfold mX at hk;split at hk<;>simp at hk<;>obtain ⟨_,_,_,rfl⟩:=hk<;>exact hL
   | ret=>simp only [AFn.fin] at hk;unfold mX at hk;split at hk<;>simp at hk<;>obtain ⟨_,_,_,rfl⟩:=hk<;>exact hL
   | exit=>simp [AFn.fin] at hk
  refine ⟨⟨fn,hf,D45,by simp [C20]⟩,hlen,c,rfl,?_⟩;intro Γ μ w V hi hargs;refine wS { Γ with ds:=[] } μ _ w (D4p hargs _) (hi.ds []) ?_ rfl _ ?_
  ·simp;omega
  ·intro μ' a' w' g1 g2 g3 g4 g5 g6;have fin:∀ hk:mX af.res e' h1=A4 (v,h'),a'.defers=[]/\∃ v_1,(results fn a'.tmps).run P w'=.ok v_1 w'/\∃ V' μ',Ending.returned v_1=.returned V' /\ μ.le μ'/\RV μ' v V'/\Inv Γ μ' h' w'/\∀ id,id<h.length -> μ' id = μ id:=by
    intro hk;obtain ⟨V',h2,h3,h4⟩:=B5J g3 g4 hr hk;subst h4;exact ⟨g6,V',h2,V',μ',rfl,g1,h3,g4.ds Γ.ds,g2⟩
   cases x with
   | normal=>exact fin hk
   | ret=>exact fin hk
   | exit=>simp [AFn.fin] at hk
theorem E4X {E:O3} (hE:gD P E) {f:FuncId} {fn:Func} {af:AFn} (hf:P.funcs[f]?=A4 fn) (hc:C7l P fn af=A5) {n:Nat} {args:List Val} {h h':B5} {v:Val} (D7:af.run E n args h=A4 (v,h')) :
  kB P f/\CallOk P f args h v h'/\h.length<=h'.length:=by
 obtain ⟨h1,h2,c,hb,hw⟩:=E3i hE hf hc D7;exact ⟨h1,fun Γ μ w V hi hargs=>calls_of_wp hf hb (hw Γ μ w V hi hargs),h2⟩
end
end Go.Esc
namespace Go.Esc
open Go Go.ChangeShapes Go.WideShapes Go.ChangeAt Go.RowKit
def C7v (W:World):Ctx:=⟨λb=>W.heap[b]?,W.os,W.tape,W.output,[]⟩
theorem D2T {W w:World} (h:(C7v W).ok w):Below W.heap.size W w:=by
 have hb:∀ k,k<W.heap.size->w.heap[k]?=W.heap[k]? := by
  intro k hk;have e:W.heap[k]?=A4 W.heap[k]:=by simp [hk]
  rw [e];exact h.block k _ e
 refine ⟨h.os,h.tape,h.output,?_,hb⟩;rcases Nat.eq_zero_or_pos W.heap.size with h0 | h0
 ·omega
 ·have:=hb (W.heap.size-1) (by omega);have e:W.heap[W.heap.size-1]?=A4 (W.heap[W.heap.size-1]'(by omega)):=by simp
  rw [e] at this;have:=(Array.getElem?_eq_some_iff.1 this).1;omega
theorem D0o {W w:World} {may:MemPlace->Prop} (h:Below W.heap.size W w):W.keptBut w may:=by
 refine ⟨h.os,h.output,λi hi=>?_⟩;rw [h.block i hi];cases W.heap[i]? with
 | none=>rfl
 | some o=>cases o<;>simp
section
variable {H:Type} {enc:TypeId × Value->H} {P:Program}
theorem D1k (hl:laidOutB P=A5) {W W':World} (hb:Below W.heap.size W W'):∀ {ts:List TypeId} {vs:List Value} {ds:List (DataW H)} {ps:List MemPlace},
  (∀ t∈ts,P.readableRec t=A5/\t<P.types.size)->(∀ x∈ps,x.block<W.heap.size)->DataW.TrodAll enc P W 0 (λ_=>A5) A5 ts vs ds ps->DataW.TrodAll enc P W' 0 (λb=>decide (b<W.heap.size)) A5 ts vs ds ps
 | [],[],[],_,_,_,h=>h
 | t::ts,v::vs,d::ds,_,hts,V5,⟨p,q,h1,h2,e⟩=>by
  subst e;exact ⟨p,q,Below.trod hl (hts t (by simp)).1 (hts t (by simp)).2 h1 hb (λx hx=>V5 x (List.mem_append_left _ hx)),D1k hl hb (λt ht=>hts t (by simp [ht])) (λx hx=>V5 x (List.mem_append_right _ hx)) h2,rfl⟩
 | [],_::_,_,_,_,_,h=>by cases h
 | [],[],_::_,_,_,_,h=>by cases h
 | _::_,[],_,_,_,_,h=>by cases h
 | _::_,_::_,[],_,_,_,h=>by cases h
theorem D81 {f:Func} {s:ChangeSpec} {apart:Bool} {tb:TypeId} {W W':World} {args:Array Value} {ds gs:List (DataW H)} {before:List MemPlace}
  (hl:laidOutB P=A5) (hts:∀ t∈f.params.toList,P.readableRec t=A5/\t<P.types.size) (hr:f.resultTypes = #[tb]) (hb:P.underlying tb=A4 .bool) (hv:s.vars=[])
  (hs:∀ ds:List (DataW H),ds.length=f.params.toList.length->s.fn H ds={ results:=[.lit (.bool A5)],args:=ds })
  (hW:DataW.Whole enc P f.params.toList s.vars apart W args.toList ds gs before) (hB:Below W.heap.size W W') :
  s.post enc P f apart A5 A6 A6 W args (.bool A5) W':=by
 have V5:=hW.lt;obtain ⟨p,q,h1,h2,h3,h4,h5⟩:=id hW;rw [hv] at h2;obtain ⟨rfl,rfl⟩:=trodVars_none h2;rw [E7w] at h3;subst h3;have hd:ds.length=f.params.toList.length:=(trodAll_length h1).2;have hfn:s.fn H (ds++[])={ results:=[.lit (.bool A5)],args:=ds }:=by rw [E7w];exact hs ds hd
 refine ⟨ds,[],before,[],before,[],hW,?_,?_,?_,World.keptBut_mono (λ_ h=>h) (D0o hB),λh=>by cases h⟩
 ·rw [hfn,hr];exact trodAll_mk1 (shut_bool hb A5)
 ·rw [hfn];exact D1k hl hB hts V5 h1
 ·rw [hfn,hv];exact rfl
end
theorem E1g {C:Checked} {os:Os} {H:Type} {enc:TypeId × Value->H} {f:FuncId} {fn:Func} {s:ChangeSpec} {conds:List PathCond} {tb:TypeId}
  (own:ownKnob C.prog.godebug=A7) (started:os.Started) (E4p:C.prog.inits.idxOf? f=A7) (hfn:C.prog.funcs[f]?=A4 fn)
  (witness:∃ (w:World) (tape:Tape) (i:Input),w.os=os/\(w.forCall tape i).Shaped C.prog/\i.vars=[]/\Input.okWide C.prog (w.forCall tape i) .any w.heap.size f i /\
   s.pre6 enc C.prog fn conds A6 (w.forCall tape i).memory i.args/\Assume.holds {} C.prog (lone (Frame.enter C.prog f i.args .normal) [] (w.forCall tape i)))
  (hl:laidOutB C.prog=A5) (hts:∀ t∈fn.params.toList,C.prog.readableRec t=A5/\t<C.prog.types.size) (hr:fn.resultTypes = #[tb]) (hb:C.prog.underlying tb=A4 .bool) (hv:s.vars=[])
  (hs:∀ ds:List (DataW H),ds.length=fn.params.toList.length->s.fn H ds={ results:=[.lit (.bool A5)],args:=ds })
  (walk:∀ (W:World) (base:Nat) (args:Array Value) (ds:List (DataW H)) (ps:List MemPlace),
   (∀ (j:Nat) t v,fn.params[j]?=A4 t->args[j]?=A4 v->Value.okWide C.prog W .any base t v) ->
   DataW.TrodAll enc C.prog W 0 (λ_=>A5) A5 fn.params.toList args.toList ds ps ->
   ∃ vals h μ h',Inv (C7v W) μ h W/\All2 (RV μ) vals args.toList/\CallOk C.prog f vals h (.c (.b A5)) h') :
  ReturnsInHanded {} C os f .any (s.pre6 enc C.prog fn conds A6) (s.post enc C.prog fn A6 A5 A6 A6):=by
 refine returnsInHanded_of_change own started E4p hfn witness ?_;intro W base args ds gs before C7Y hW _ _;obtain ⟨p,q,hA,_⟩:=id hW;obtain ⟨vals,h,μ,h',hi,hv2,hc⟩:=walk W base args ds p (λj t v h1 h2=>C7Y j t v h1 h2) hA;refine (hc (C7v W) μ W args.toList hi hv2).mono λe W' ⟨V',μ',he,_,hV,hi',_⟩=>?_
 have:V'=.bool A5:=hV;subst this;exact ⟨_,he,D81 hl hts hr hb hv hs hW (D2T hi'.ctx)⟩
theorem Inv.nought (W:World):Inv (C7v W) (λ_=>Option.none) [] W where
 rows:=λid r h=>by simp [rd] at h
 sep:=λid bF r r' x x' h=>by simp [rd] at h
 own:=λid r x h=>by simp [rd] at h
 dom:=λ_ _=>rfl
 ctx:=⟨rfl,rfl,rfl,λ_ _ h=>h⟩
end Go.Esc
namespace Go.Esc
section
variable {R:Type} {E:O3}
theorem D9H {q:Bool} {hr:B5} {n0:Nat} {slot:Option Nat} {o:AOp} {e:Env} {h:B5} {k k':Val->B5->Option R} (hk:∀ v h p,k v h=A4 p->k' v h=A4 p) {p:R}
  (hp:aop E q hr n0 slot o e h k=A4 p):aop E q hr n0 slot o e h k'=A4 p:=by
 cases o<;>simp only [aop,E67] at hp ⊢ <;> first | exact hk _ _ _ hp | (obtain ⟨x,hx,hp⟩:=hp;exact ⟨x,hx,hk _ _ _ hp⟩)
theorem B5I {q:Bool} {hr:B5} {n0:Nat} {o:AOper} {e:Env} {h:B5} {k k':Val->B5->Option R} (hk:∀ v h p,k v h=A4 p->k' v h=A4 p) {p:R}
  (hp:X9 E q hr n0 o e h k=A4 p):X9 E q hr n0 o e h k'=A4 p:=by
 unfold X9 at hp ⊢;cases hg:o.guard with
 | none=>rw [hg] at hp;exact D9H hk hp
 | some g =>
  rw [hg] at hp;simp only [E67] at hp ⊢;obtain ⟨x,hx,hp⟩:=hp;exact ⟨x,hx,hk _ _ _ hp⟩
theorem B2q {k k':Env->B5->Option R} (hk:∀ e h p,k e h=A4 p->k' e h=A4 p):∀ {l:List AOper} {e:Env} {h:B5} {p:R},B0S E l e h k=A4 p->B0S E l e h k'=A4 p
 | [],_,_,_,hp=>hk _ _ _ hp
 | o::l,e,h,p,hp=>by
  rw [D1j] at hp ⊢;exact B5I (λv h p=>B2q hk) hp
theorem B5E {hr:B5} {n0:Nat} {k k':Env->B5->Option R} (hk:∀ e h p,k e h=A4 p->k' e h=A4 p):∀ {l:List AOper} {e:Env} {h:B5} {p:R},B3H E hr n0 l e h k=A4 p->B3H E hr n0 l e h k'=A4 p
 | [],_,_,_,hp=>hk _ _ _ hp
 | o::l,e,h,p,hp=>by
  rw [C6Z] at hp ⊢;exact B5I (λv h p=>B5E hk) hp
def KLe (k k':B2K R):Prop:=∀ x e h p,k x e h=A4 p->k' x e h=A4 p
def E4U (s s':Sm R):Prop:=∀ k k':B2K R,KLe k k'->∀ e h p,s k e h=A4 p->s' k' e h=A4 p
theorem D1l {c c':Sm R} (hc:E4U c c') {keep:List Nat} {k k':B2K R} (hk:KLe k k'):∀ {n n':Nat},n<=n'->∀ e h p,A7h c keep k n e h=A4 p->A7h c' keep k' n' e h=A4 p
 | 0,_,_,e,h,p,hp=>by rw [C2z] at hp;cases hp
 | n+1,0,hn,e,h,p,hp=>by omega
 | n+1,n'+1,hn,e,h,p,hp=>by
  rw [C2y] at hp ⊢;refine hc _ _ (λx e h p hp=>?_) e h p hp;cases x with
  | normal=>exact D1l hc hk (by omega) _ _ _ hp
  | exit id=>exact hk _ _ _ _ hp
  | ret=>exact hk _ _ _ _ hp
theorem C61 {e:Env} {h:B5} {k k':Option R} {p:R} (hk:k=A4 p->k'=A4 p):∀ {l:List (Nat × AOp)},again l e h k=A4 p->again l e h k'=A4 p
 | [],hp=>hk hp
 | c::l,hp=>by
  rw [C60] at hp ⊢;unfold agn at hp ⊢;split at hp
  ·rename_i hc;rw [if_pos hc];exact C61 hk hp
  ·cases hp
theorem B5F {n n':Nat} (hn:n<=n'):∀ c:ACode,E4U (R:=R) (aex E n c) (aex E n' c)
 | .skip=>λk k' hk e h p hp=>hk _ _ _ _ hp
 | .ops l=>λk k' hk e h p hp=>B2q (λe h p hp=>hk _ _ _ _ hp) hp
 | .draw m l r=>λk k' hk e h p hp=>B5E (λe h p hp=>B2q (λe h p hp=>hk _ _ _ _ hp) hp) hp
 | .drawS m l s chk r=>λk k' hk e h p hp=>B5E (λe h p hp=>B5I (λv h p hp=>C61 (λhp=>B2q (λe h p hp=>hk _ _ _ _ hp) hp) hp) hp) hp
 | .seq keep a b=>λk k' hk e h p hp=>by
  refine B5F hn a _ _ (λx e h p hp=>?_) e h p hp;cases x with
  | normal=>exact B5F hn b k k' hk _ _ _ hp
  | exit id=>exact hk _ _ _ _ hp
  | ret=>exact hk _ _ _ _ hp
 | .cond c a b=>λk k' hk e h p hp=>by
  change cnd (e.ev c) (aex E n a k e h) (aex E n b k e h)=A4 p at hp;change cnd (e.ev c) (aex E n' a k' e h) (aex E n' b k' e h)=A4 p;unfold cnd at hp ⊢;split at hp
  ·rename_i x _;cases x
   ·exact B5F hn b k k' hk _ _ _ hp
   ·exact B5F hn a k k' hk _ _ _ hp
  ·cases hp
 | .block id a=>λk k' hk e h p hp=>by
  refine B5F hn a _ _ (λx e h p hp=>?_) e h p hp;cases x with
  | normal=>exact hk _ _ _ _ hp
  | ret=>exact hk _ _ _ _ hp
  | exit i =>
   change (bif Nat.beq i id then k .normal e h else k (.exit i) e h)=A4 p at hp;change (bif Nat.beq i id then k' .normal e h else k' (.exit i) e h)=A4 p;cases hb:Nat.beq i id with
   | true=>simp only [hb,cond_true] at hp ⊢;exact hk _ _ _ _ hp
   | false=>simp only [hb,cond_false] at hp ⊢;exact hk _ _ _ _ hp
 | .loop keep a=>λk k' hk e h p hp=>D1l (B5F hn a) hk hn _ _ _ hp
 | .exit id=>λk k' hk e h p hp=>hk _ _ _ _ hp
 | .ret=>λk k' hk e h p hp=>hk _ _ _ _ hp
theorem E1q {f:AFn} {n n':Nat} (hn:n<=n') {args:List Val} {h:B5} {p:Val × B5} (hp:f.run E n args h=A4 p):f.run E n' args h=A4 p :=
 B5F hn f.code _ _ (λ_ _ _ _ h=>h) _ _ _ hp
open Classical in
noncomputable def Lim (f:AFn) (E:O3) (args:List Val) (h:B5):Option (Val × B5) :=
 if H:∃ p n,f.run E n args h=A4 p then A4 H.choose else A7
theorem E3x {f:AFn} {n:Nat} {args:List Val} {h:B5} {p:Val × B5} (hp:f.run E n args h=A4 p):Lim f E args h=A4 p:=by
 have H:∃ p n,f.run E n args h=A4 p:=⟨p,n,hp⟩;unfold Lim;rw [dif_pos H];obtain ⟨m,hm⟩:=H.choose_spec;have h1:=E1q (Nat.le_max_left n m) hp;have h2:=E1q (Nat.le_max_right n m) hm;rw [h1] at h2;exact h2.symm
theorem D7d {f:AFn} {args:List Val} {h:B5} {p:Val × B5} (hp:Lim f E args h=A4 p):∃ n,f.run E n args h=A4 p:=by
 unfold Lim at hp;split at hp
 ·rename_i H;cases hp;exact H.choose_spec
 ·cases hp
end
def bnd {α β:Type} (x:Option α) (f:α -> Option β):Option β:=x.bind f
def mp {α β:Type} (x:Option α) (f:α -> β):Option β:=x.map f
@[congr] theorem E5Q {α β:Type} {x x':Option α} {f:α -> Option β} (h:x=x'):bnd x f=bnd x' f:=by rw [h]
@[congr] theorem E6U {α β:Type} {x x':Option α} {f:α -> β} (h:x=x'):mp x f=mp x' f:=by rw [h]
@[congr] theorem E5V {R:Type} {v v':Val} {a b:Option R} (h:v=v'):cnd v a b=cnd v' a b:=by rw [h]
@[congr] theorem E6J {v v':Val} {w:Bool} {a b:Option (Val × B5)} (h:v=v'):gd v w a b=gd v' w a b:=by rw [h]
@[congr] theorem E5P {R:Type} {x x':Option Val} {v v':Val} {k:Option R} (h:x=x') (h2:v=v'):agn x v k=agn x' v' k:=by rw [h,h2]
theorem D9D {R:Type} {v:Val} {k:Option R}:agn (A4 v) v k=k:=Eq.trans (if_pos rfl) rfl
@[simp] theorem P9 {α β:Type} {a:α} {f:α -> Option β}:bnd (A4 a) f=f a:=Eq.trans rfl rfl
@[simp] theorem E2v {α β:Type} {a:α} {f:α -> β}:mp (A4 a) f=A4 (f a):=Eq.trans rfl rfl
section
variable {R:Type} {k:IntKind} {a b:Int} {s t:List UInt8} {h:B5}
@[simp] theorem E1Q:D4f (.c (.s s))=A4 (.c (.i .i64 s.length)):=rfl
@[simp] theorem C4I {id off len sz:Nat}:D2R (.c (.sl id off len sz))=A4 (.c (.i .i64 len)):=rfl
@[simp] theorem E1R:D2R (.c .ns)=A4 (.c (.i .i64 0)):=rfl
@[simp] theorem A1v:O4 .add (.c (.i k a)) (.c (.i k b))=A4 (.c (.i k (k.wrap (a+b)))):=by simp [O4,B1B]
@[simp] theorem D9y:O4 .sub (.c (.i k a)) (.c (.i k b))=A4 (.c (.i k (k.wrap (a-b)))):=by simp [O4,B1B]
@[simp] theorem D9x:O4 .mul (.c (.i k a)) (.c (.i k b))=A4 (.c (.i k (k.wrap (a*b)))):=by simp [O4,B1B]
@[simp] theorem D38 (hb:b≠0):O4 .quo (.c (.i k a)) (.c (.i k b))=A4 (.c (.i k (k.wrap (a.tdiv b)))):=by simp [O4,B1B,hb]
@[simp] theorem D39 (hb:b≠0):O4 .rem (.c (.i k a)) (.c (.i k b))=A4 (.c (.i k (a.tmod b))):=by simp [O4,B1B,hb]
theorem D36:O4 .and (.c (.i k a)) (.c (.i k b))=A4 (.c (.i k (k.wrap (BitVec.ofInt k.bits a &&& BitVec.ofInt k.bits b).toNat))):=by simp [O4,B1B]
theorem D2M:O4 .or (.c (.i k a)) (.c (.i k b))=A4 (.c (.i k (k.wrap (BitVec.ofInt k.bits a ||| BitVec.ofInt k.bits b).toNat))):=by simp [O4,B1B]
theorem D4a:O4 .xor (.c (.i k a)) (.c (.i k b))=A4 (.c (.i k (k.wrap (BitVec.ofInt k.bits a ^^^ BitVec.ofInt k.bits b).toNat))):=by simp [O4,B1B]
@[simp] theorem xM:O4 .eql (.c (.i k a)) (.c (.i k b))=A4 (.c (.b (decide (a=b)))):=by simp [O4,B1B];rfl
@[simp] theorem D37:O4 .neq (.c (.i k a)) (.c (.i k b))=A4 (.c (.b (decide (a≠b)))):=by simp [O4,B1B];by_cases h:a=b<;>simp [h]
@[simp] theorem A1w:O4 .lss (.c (.i k a)) (.c (.i k b))=A4 (.c (.b (decide (a<b)))):=by simp [O4,B1B]
@[simp] theorem D9w:O4 .leq (.c (.i k a)) (.c (.i k b))=A4 (.c (.b (decide (a<=b)))):=by simp [O4,B1B]
@[simp] theorem D9v:O4 .gtr (.c (.i k a)) (.c (.i k b))=A4 (.c (.b (decide (b<a)))):=by simp [O4,B1B]
@[simp] theorem C6W:O4 .geq (.c (.i k a)) (.c (.i k b))=A4 (.c (.b (decide (b<=a)))):=by simp [O4,B1B]
@[simp] theorem C0M:O4 .eql (.c (.s s)) (.c (.s t))=A4 (.c (.b (decide (s=t)))):=by simp [O4,E1w];by_cases h:s=t<;>simp [h]
@[simp] theorem D8a:O4 .neq (.c (.s s)) (.c (.s t))=A4 (.c (.b (decide (s≠t)))):=by simp [O4,E1w];by_cases h:s=t<;>simp [h]
@[simp] theorem D79:O4 .lss (.c (.s s)) (.c (.s t))=A4 (.c (.b (M7 s t))):=by simp [O4,E1w]
@[simp] theorem E12 {x:Bool}:aun .not (.c (.b x))=A4 (.c (.b (!x))):=rfl
@[simp] theorem E1N {n:Bool}:D2P A5 n (.c .nf)=A4 (.c (.b (!n))):=Eq.trans rfl rfl
@[simp] theorem E3B {n:Bool} {f:Nat} {cs:List (Nat × Nat)}:D2P A5 n (.c (.f f cs))=A4 (.c (.b n)):=Eq.trans rfl rfl
@[simp] theorem E1O {n:Bool}:D2P A6 n (.c .np)=A4 (.c (.b (!n))):=Eq.trans rfl rfl
@[simp] theorem E3C {n:Bool} {id off:Nat}:D2P A6 n (.c (.p id off))=A4 (.c (.b n)):=Eq.trans rfl rfl
@[simp] theorem E1U {id off:Nat}:A49 (.c (.p id off))=A4 (.c (.p id off)):=Eq.trans rfl rfl
@[simp] theorem E11:aun .neg (.c (.i k a))=A4 (.c (.i k (k.wrap (0-a)))):=rfl
@[simp] theorem E3A {x y:Bool}:D53 A6 (.c (.b x)) (.c (.b y))=A4 (.c (.b (x==y))):=rfl
@[simp] theorem E3z {x y:Bool}:D53 A5 (.c (.b x)) (.c (.b y))=A4 (.c (.b (!(x==y)))):=rfl
@[simp] theorem E1L {k':IntKind}:D4b k (.c (.i k' a))=A4 (.c (.i k (k.wrap a))):=rfl
@[simp] theorem D7l {x:Bool} {u v:Val}:D4n (.c (.b x)) u v=A4 (bif x then u else v):=rfl
@[simp] theorem E40 {w:Bool} {u v:Option (Val × B5)}:gd .no w u v=v:=Eq.trans rfl rfl
@[simp] theorem E42 {u v:Option (Val × B5)}:gd (.c (.b A5)) A5 u v=u:=Eq.trans rfl rfl
@[simp] theorem E41 {u v:Option (Val × B5)}:gd (.c (.b A5)) A6 u v=v:=Eq.trans rfl rfl
@[simp] theorem E4Z {u v:Option (Val × B5)}:gd (.c (.b A6)) A5 u v=v:=Eq.trans rfl rfl
@[simp] theorem E3j {u v:Option (Val × B5)}:gd (.c (.b A6)) A6 u v=u:=Eq.trans rfl rfl
@[simp] theorem D7r {u v:Option R}:cnd (.c (.b A5)) u v=u:=Eq.trans rfl rfl
@[simp] theorem C7s {u v:Option R}:cnd (.c (.b A6)) u v=v:=Eq.trans rfl rfl
@[simp] theorem E1P {i:Nat}:C62 (.c (.s s)) (.c (.i k i))=(s[i]?).map λb=>.c (.i .u8 b.toNat):=by simp [C62]
@[simp] theorem D9B {l:List Part} {i:Nat}:D56 (.t l) i=(l[i]?).map ofPart:=rfl
@[simp] theorem D5q {x:Cell}:ofPart (.c x)=.c x:=rfl
@[simp] theorem D5p {l:List Cell}:ofPart (.a l)=.a l:=rfl
@[simp] theorem E2z {x:Cell}:qA (.c x)=A4 (.c x):=rfl
@[simp] theorem D7O {l:List Cell}:qA (.a l)=A4 (.a l):=rfl
@[simp] theorem D4A {x:Cell}:cells? (.c x)=A4 [x]:=rfl
@[simp] theorem B00 {l:List Cell}:cells? (.a l)=A4 l:=rfl
@[simp] theorem E4O {u v:Option Val}:C9a [u,v] h=bnd u λu=>bnd (qA u) λp=>bnd v λv=>bnd (qA v) λq=>A4 (.t [p,q],h):=by
 cases u with
 | none=>rfl
 | some u=>cases v with
  | none=>cases hu:qA u<;>simp [C9a,C9b,hu]<;>rfl
  | some v=>cases hu:qA u<;>cases hv:qA v<;>simp [C9a,C9b,hu,hv]<;>rfl
@[simp] theorem E4P {u v w:Option Val}:C9a [u,v,w] h=bnd u λu=>bnd (qA u) λp=>bnd v λv=>bnd (qA v) λq=>bnd w λw=>bnd (qA w) λr=>A4 (.t [p,q,r],h):=by
 cases u with
 | none=>rfl
 | some u=>cases v with
  | none=>cases hu:qA u<;>simp [C9a,C9b,hu]<;>rfl
  | some v=>cases w with
   | none=>cases hu:qA u<;>cases hv:qA v<;>simp [C9a,C9b,hu,hv]<;>rfl
   | some w=>cases hu:qA u<;>cases hv:qA v<;>cases hw:qA w<;>simp [C9a,C9b,hu,hv,hw]<;>rfl
theorem wrap_i64 (h1:-9223372036854775808<=a) (h2:a<9223372036854775808):IntKind.wrap .i64 a=a:=by
 change (if (A5&&decide (a%18446744073709551616>=9223372036854775808))=A5 then a%18446744073709551616-18446744073709551616 else a%18446744073709551616)=a;by_cases h:a%18446744073709551616>=9223372036854775808
 ·simp only [h,decide_true,E7j,if_true];omega
 ·simp only [h,decide_false,E75,Bool.false_eq_true,if_false];omega
theorem wrap_u64 (h1:0<=a) (h2:a<18446744073709551616):IntKind.wrap .u64 a=a:=by
 simp only [IntKind.wrap,IntKind.bits,IntKind.signed,E7f];have e1:(2:Int) ^ 64=18446744073709551616:=rfl;rw [e1];simp only [Bool.false_eq_true,if_false];omega
theorem wrap_u32 (h1:0<=a) (h2:a<4294967296):IntKind.wrap .u32 a=a:=by
 simp only [IntKind.wrap,IntKind.bits,IntKind.signed,E7f];have e1:(2:Int) ^ 32=4294967296:=rfl;rw [e1];simp only [Bool.false_eq_true,if_false];omega
theorem wrap_u8 (h1:0<=a) (h2:a<256):IntKind.wrap .u8 a=a:=by
 simp only [IntKind.wrap,IntKind.bits,IntKind.signed,E7f];have e1:(2:Int) ^ 8=256:=rfl;rw [e1];simp only [Bool.false_eq_true,if_false];omega
end
theorem Grows.rfl' {h:B5}:Grows h h:=⟨List.prefix_refl _,λid x hid hx=>by have:=C8 hx;omega⟩
theorem Grows.trans' {a b c:B5} (h1:Grows a b) (h2:Grows b c):Grows a c:=by
 refine ⟨h1.1.trans h2.1,λid x hid hx=>?_⟩;by_cases hb:b.length<=id
 ·exact h2.2 id x hb hx
 ·refine h1.2 id x hid ?_;obtain ⟨t,rfl⟩:=h2.1;rw [<-hx];unfold rd;rw [E7H (by omega)]
theorem Grows.rd {a b:B5} (h1:Grows a b) {id:Nat} {r:Row} (hr:rd a id=A4 r):rd b id=A4 r:=by
 obtain ⟨t,rfl⟩:=h1.1;rw [D9 (C8 hr)];exact hr
theorem Grows.len {a b:B5} (h1:Grows a b):a.length<=b.length:=h1.1.length_le
theorem Grows.new {a b:B5} (h1:Grows a b) (cs:List Cell):Grows a (b++[A4 ⟨cs,A5⟩]):=by
 refine h1.trans' ⟨List.prefix_append _ _,λid x hid hx=>?_⟩;unfold Go.Esc.rd at hx;rw [E7l hid] at hx;cases hj:id-b.length with
 | zero=>rw [hj] at hx;simp at hx;subst hx;rfl
 | succ j=>rw [hj] at hx;simp at hx
theorem Grows.set {a b:B5} (h1:Grows a b) {id:Nat} (hid:a.length<=id) (cs:List Cell):Grows a (b.set id (A4 ⟨cs,A5⟩)):=by
 obtain ⟨⟨t,rfl⟩,h2⟩:=h1;refine ⟨⟨t.set (id-a.length) (A4 ⟨cs,A5⟩),by rw [E7I _ _ hid]⟩,λi x hi hx=>?_⟩;by_cases e:id=i
 ·subst e;have hl:=C8 hx;simp at hl;rw [C6 (by simpa using hl)] at hx;cases hx;rfl
 ·rw [B6 e] at hx;exact h2 i x hi hx
theorem U3 {h h':B5} {v:Val} (hg:Grows h h'):quiet h (A4 (v,h'))=A4 (v,h'):=by
 unfold quiet;simp only [E7h];rw [if_pos];exact hg
theorem T9 {h:B5} {r:Row}:rd (h++[A4 r]) h.length=A4 r:=by
 unfold rd;simp
section
variable {h:B5} {id off n sz:Nat} {cs xs:List Cell} {x:Cell} {k:IntKind} {rw:Bool}
theorem C4 (hr:rd h id=A4 ⟨cs,rw⟩) {c:Cell} (hc:cs[off]?=A4 c) (hd:(rw || !c.isX)=A5):B8 h (.c (.p id off))=A4 (.c c):=by
 simp [B8,hr,hc,hd]
theorem dI (hr:rd h id=A4 ⟨cs,rw⟩) (hl:off+n<=cs.length) (hd:(rw||noX ((cs.drop off).take n))=A5):D4 h n (.c (.p id off))=A4 (.a ((cs.drop off).take n)):=by
 simp only [D4,hr,E7h];rw [if_pos ⟨hl,hd⟩]
theorem C7 (hr:rd h id=A4 ⟨cs,A5⟩) (hl:cs.length=n):D4 h n (.c (.p id 0))=A4 (.a cs):=by
 rw [dI hr (by omega) rfl,E7p,E7i (by omega)]
theorem G9 (hr:rd h id=A4 ⟨cs,A5⟩) (hl:off<cs.length):I3 h (.c (.p id off)) (.c x)=A4 (h.set id (A4 ⟨cs.set off x,A5⟩)):=by
 simp [I3,hr,hl]
theorem B2I (hr:rd h id=A4 ⟨cs,A5⟩) (hx:xs.length=n) (hl:off+n<=cs.length):E6 h n (.c (.p id off)) (.a xs)=A4 (h.set id (A4 ⟨lay cs off xs,A5⟩)):=by
 simp [E6,hr,hl,hx]
theorem lay_all (hx:xs.length=cs.length):lay cs 0 xs=xs:=by simp [lay,hx]
theorem storeAll (hr:rd h id=A4 ⟨cs,A5⟩) (hl:cs.length=n) (hx:xs.length=n):E6 h n (.c (.p id 0)) (.a xs)=A4 (h.set id (A4 ⟨xs,A5⟩)):=by
 rw [B2I hr hx (by omega),lay_all (by omega)]
theorem J4 {j:Nat} (hj:j<n):J8 n sz (.c (.p id off)) (.c (.i k j))=A4 (.c (.p id (off+j*sz))):=by
 simp only [J8];rw [if_pos ⟨by omega,by omega⟩];simp
theorem C9 {len j:Nat} (hj:j<len):E1 sz (.c (.sl id off len sz)) (.c (.i k j))=A4 (.c (.p id (off+j*sz))):=by
 simp only [E1];rw [if_pos ⟨by omega,by omega,trivial⟩];simp
theorem B8k {l:List Cell} {j:Nat} (hj:j<n):A4c n (.a l) (.c (.i k j))=(l[j]?).map .c:=by
 simp only [A4c];rw [if_pos ⟨by omega,by omega⟩];simp
end
theorem iI (l:List UInt8) (i:Nat) (x:UInt8):(B4 l).set i (.i .u8 x.toNat)=B4 (l.set i x):=by simp [B4,List.map_set]
theorem aJ (l:List UInt8) (i:Nat):(B4 l)[i]?=(l[i]?).map λx=>.i .u8 x.toNat:=by simp [B4]
theorem M6 (l m:List UInt8):B4 (l++m)=B4 l++B4 m:=by simp [B4]
theorem D1w (l:List UInt8) (n:Nat):(B4 l).drop n=B4 (l.drop n):=by simp [B4]
theorem D1x (l:List UInt8) (n:Nat):(B4 l).take n=B4 (l.take n):=by simp [B4]
def zeros (n:Nat):List UInt8:=E68 n 0
@[simp] theorem zeros_length {n:Nat}:(zeros n).length=n:=by simp [zeros]
theorem I7 (n:Nat):E68 n (Cell.i .u8 0)=B4 (zeros n):=by simp [B4,zeros]
theorem F9 (l:List UInt8):noX (B4 l)=A5:=by simp [noX,B4,Cell.isX]
theorem E0h {l m:List UInt8}:B4 l=B4 m↔l=m:=by
 constructor
 ·intro h;refine List.map_inj_right (λx y e=>?_) |>.1 h
  simp at e;exact UInt8.toNat_inj.1 (by omega)
 ·rintro rfl;rfl
def Cell.flat:Cell->Bool
 | .b _=>A5
 | .i _ _=>A5
 | .s _=>A5
 | .np=>A5
 | .ns=>A5
 | .nf=>A5
 | .nm=>A5
 | _=>A6
def N8 (l:List Cell):Bool:=l.all Cell.flat
def Row.dim (r:Row):List Cell:=bif r.head then r.cells.map λ_=>.dark else r.cells
def ro (h:B5):B5:=h.map λr=>r.map λr=>⟨r.dim,A6⟩
theorem Row.dim_own (r:Row):(Row.mk r.dim A6).own=A6:=by
 obtain ⟨cs,w⟩:=r;unfold Row.dim;cases hh:Row.head ⟨cs,w⟩ with
 | false=>simpa [Row.own,Row.head] using hh
 | true =>
  cases cs with
  | nil=>rfl
  | cons c cs=>rfl
theorem F7 {h:B5}:(ro h).length=h.length:=by simp [ro]
theorem D12 {h:B5} {id:Nat}:rd (ro h) id=(rd h id).map λr=>⟨r.dim,A6⟩:=by
 unfold rd ro;rw [List.getElem?_map];cases h[id]? with
 | none=>rfl
 | some x=>cases x<;>rfl
theorem B8Z {h:B5} {id:Nat} {r:Row} (hr:rd h id=A4 r) (hh:r.head=A6):rd (ro h) id=A4 ⟨r.cells,A6⟩:=by
 rw [D12,hr];show A4 (Row.mk r.dim A6)=_;unfold Row.dim;rw [hh];rfl
theorem E0t {cs:List Cell} {w:Bool} (h:noX cs=A5):(Row.mk cs w).head=A6:=by
 cases cs with
 | nil=>rfl
 | cons c cs=>cases c<;>first | rfl | (simp [noX,Cell.isX] at h)
theorem B80 {h:B5} {id:Nat} {cs:List Cell} {w:Bool} (hr:rd h id=A4 ⟨cs,w⟩) (hx:noX cs=A5):rd (ro h) id=A4 ⟨cs,A6⟩:=B8Z hr (E0t hx)
def newRow (h:B5) (id:Nat):Bool :=
 match rd h id with
 | some r=>r.rw&&N8 r.cells
 | none=>A6
def Cell.low (b:Nat):Cell->Bool
 | .p id _=>decide (id<b)
 | .sl id _ _ _=>decide (id<b)
 | .f _ caps=>caps.all λq=>decide (q.1<b)
 | .m id=>decide (id<b)
 | c=>c.flat
def R5 (h:B5) (b:Nat):List Nat->List Cell->Option (List Cell × List Nat)
 | seen,[]=>A4 ([],seen)
 | seen,c::r=>if c.low b=A5 then (R5 h b seen r).map λp=>(c::p.1,p.2) else
  match c with
  | .sl id off len sz=>if b<=id/\id ∉ seen/\newRow h id=A5 then (R5 h b (seen++[id]) r).map λp=>(.sl (b+seen.length) off len sz::p.1,p.2) else A7
  | _=>A7
def gP (h:B5) (b:Nat):List Nat->List Part->Option (List Part × List Nat)
 | seen,[]=>A4 ([],seen)
 | seen,.c x::r=>(R5 h b seen [x]).bind λp=>match p.1 with
  | [y]=>(gP h b p.2 r).map λq=>(.c y::q.1,q.2)
  | _=>A7
 | seen,.a l::r=>(R5 h b seen l).bind λp=>(gP h b p.2 r).map λq=>(.a p.1::q.1,q.2)
def Y0 (h:B5) (b:Nat):Val->Option (Val × List Nat)
 | .c x=>(R5 h b [] [x]).bind λp=>match p.1 with
  | [y]=>A4 (.c y,p.2)
  | _=>A7
 | .a l=>(R5 h b [] l).map λp=>(.a p.1,p.2)
 | .t l=>(gP h b [] l).map λp=>(.t p.1,p.2)
 | _=>A7
def C88 (F:List Val->B5->Option (Val × B5)) (args:List Val) (h:B5):Option (Val × B5) :=
 (F args (ro h)).bind λp=>(Y0 p.2 h.length p.1).map λq=>(q.1,h++q.2.map (rd p.2))
def tidy (F:List Val->B5->Option (Val × B5)) (args:List Val) (h:B5):Option (Val × B5) :=
 match C88 F args h with
 | some r=>A4 r
 | none=>F args h
theorem RC.flat {μ μ':Mu} {c:Cell} {V:Value} (hf:c.flat=A5) (h:RC μ c V):RC μ' c V:=by
 cases c<;>first | exact h | cases hf
theorem RC.low {μ μ':Mu} {b:Nat} (hb:∀ id,id<b -> μ' id = μ id) {c:Cell} {V:Value} (hf:c.low b=A5) (h:RC μ c V):RC μ' c V:=by
 cases c with
 | p id off =>
  obtain ⟨x,n,h1,h2⟩:=h;exact ⟨x,n,by rw [hb id (of_decide_eq_true hf)];exact h1,h2⟩
 | sl id off len sz =>
  rcases h with ⟨x,n,cap,h1,h2⟩ | h
  ·exact .inl ⟨x,n,cap,by rw [hb id (of_decide_eq_true hf)];exact h1,h2⟩
  ·exact .inr h
 | f fn caps =>
  obtain ⟨cs,h1,h2⟩:=h;refine ⟨cs,h1,?_⟩;have hf':(caps.all λq=>decide (q.1<b))=A5:=hf
  clear h1 hf
  induction caps generalizing cs with
  | nil=>cases cs with
   | nil=>trivial
   | cons=>exact h2.elim
  | cons q r ih=>cases cs with
   | nil=>exact h2.elim
   | cons V vs =>
    rw [E7P,E69] at hf';obtain ⟨x,n,g1,g2⟩:=h2.1;exact ⟨⟨x,n,by rw [hb q.1 (of_decide_eq_true hf'.1)];exact g1,g2⟩,ih vs h2.2 hf'.2⟩
 | m id =>
  obtain ⟨x,n,h1,h2⟩:=h;exact ⟨x,n,by rw [hb id (of_decide_eq_true hf)];exact h1,h2⟩
 | _=>exact RC.flat hf h
theorem Cell.low_of_flat {b:Nat} {c:Cell} (h:c.flat=A5):c.low b=A5:=by
 cases c<;>first | exact h | cases h
theorem B5Y {c:Cell} {l:List Cell}:N8 (c::l)=(c.flat&&N8 l):=rfl
theorem All2.flat {μ μ':Mu}:∀ {l:List Cell} {vs:List Value},N8 l=A5->All2 (RC μ) l vs->All2 (RC μ') l vs
 | [],[],_,_=>trivial
 | c::l,V::vs,hf,⟨h1,h2⟩=>by
  rw [B5Y,E69] at hf;exact ⟨h1.flat hf.1,All2.flat hf.2 h2⟩
 | [],_::_,_,h=>h.elim
 | _::_,[],_,h=>h.elim
structure Good (h:B5) (b:Nat) (ids:List Nat):Prop where
 nd:ids.Nodup
 ok:∀ id∈ids,b<=id/\∃ r,rd h id=A4 r/\r.rw=A5/\N8 r.cells=A5
theorem Good.nil {h:B5} {b:Nat}:Good h b []:=⟨List.nodup_nil,λ_ h=>by cases h⟩
theorem Good.snoc {h:B5} {b:Nat} {ids:List Nat} (hg:Good h b ids) {id:Nat} (h1:b<=id) (h2:id ∉ ids) (h3:newRow h id=A5):Good h b (ids++[id]):=by
 refine ⟨?_,λi hi=>?_⟩
 ·rw [List.nodup_append];exact ⟨hg.nd,by simp,λa ha c hc e=>by simp at hc;subst hc;subst e;exact h2 ha⟩
 ·rw [List.mem_append] at hi;rcases hi with hi | hi
  ·exact hg.ok i hi
  ·simp at hi;subst hi;refine ⟨h1,?_⟩;unfold newRow at h3;cases hr:rd h i with
   | none=>rw [hr] at h3;cases h3
   | some r=>rw [hr] at h3;rw [E69] at h3;exact ⟨r,rfl,h3.1,h3.2⟩
def nu (μ μ':Mu) (b:Nat) (ids:List Nat):Mu:=λid=>if id<b then μ id else (ids[id-b]?).bind μ'
theorem A5d {h:B5} {b:Nat} {μ μ':Mu} (hlow:∀ id,id<b -> μ' id = μ id):∀ (l:List Cell) (seen:List Nat) (l2:List Cell) (fin:List Nat),R5 h b seen l=A4 (l2,fin)->Good h b seen ->
  Good h b fin/\seen <+: fin/\∀ ids,fin <+: ids->∀ vs:List Value,All2 (RC μ') l vs->All2 (RC (nu μ μ' b ids)) l2 vs:=by
 intro l
 induction l with
 | nil =>
  intro seen l2 fin hc hg;simp only [R5,Option.some.injEq,Prod.mk.injEq] at hc;obtain ⟨rfl,rfl⟩:=hc;exact ⟨hg,List.prefix_refl _,λids _ vs hv=>by cases vs with
   | nil=>trivial
   | cons=>exact hv.elim⟩
 | cons c r ih =>
  intro seen l2 fin hc hg;unfold R5 at hc;split at hc
  ·rename_i hf;simp only [E7q,Prod.mk.injEq] at hc;obtain ⟨p,hp,rfl,rfl⟩:=hc;obtain ⟨h1,h2,h3⟩:=ih seen p.1 p.2 hp hg;refine ⟨h1,h2,λids hi vs hv=>?_⟩;cases vs with
   | nil=>exact hv.elim
   | cons V vs=>exact ⟨RC.low (b:=b) (λid hid=>by unfold nu;rw [if_pos hid];exact (hlow id hid).symm) hf hv.1,h3 ids hi vs hv.2⟩
  ·split at hc
   ·rename_i id off len sz _;split at hc
    ·rename_i A1J;simp only [E7q,Prod.mk.injEq] at hc;obtain ⟨p,hp,rfl,rfl⟩:=hc;obtain ⟨h1,h2,h3⟩:=ih _ p.1 p.2 hp (hg.snoc A1J.1 A1J.2.1 A1J.2.2);refine ⟨h1,(List.prefix_append _ _).trans h2,λids hi vs hv=>?_⟩;cases vs with
     | nil=>exact hv.elim
     | cons V vs =>
      refine ⟨?_,h3 ids hi vs hv.2⟩;have hn:nu μ μ' b ids (b+seen.length) = μ' id:=by
       unfold nu;rw [if_neg (by omega),Nat.add_sub_cancel_left];obtain ⟨t,ht⟩:=h2.trans hi;rw [<-ht,E7c,E7l (E7b _)];simp
      rcases hv.1 with ⟨x,n,cap,g1,g2⟩ | g
      ·exact .inl ⟨x,n,cap,by rw [hn];exact g1,g2⟩
      ·exact .inr g
    ·cases hc
   ·cases hc
theorem D8i {h:B5} {b:Nat} {μ μ':Mu} (hlow:∀ id,id<b -> μ' id = μ id):∀ (l:List Part) (seen:List Nat) (l2:List Part) (fin:List Nat),gP h b seen l=A4 (l2,fin)->Good h b seen ->
  Good h b fin/\seen <+: fin/\∀ ids,fin <+: ids->∀ vs:List Value,All2 (RP μ') l vs->All2 (RP (nu μ μ' b ids)) l2 vs:=by
 intro l
 induction l with
 | nil =>
  intro seen l2 fin hc hg;simp only [gP,Option.some.injEq,Prod.mk.injEq] at hc;obtain ⟨rfl,rfl⟩:=hc;exact ⟨hg,List.prefix_refl _,λids _ vs hv=>by cases vs with
   | nil=>trivial
   | cons=>exact hv.elim⟩
 | cons c r ih =>
  intro seen l2 fin hc hg;cases c with
  | c x =>
   simp only [gP,E67] at hc;obtain ⟨⟨l3,f3⟩,hp,hc⟩:=hc;obtain ⟨h1,h2,h3⟩:=A5d (μ:=μ) (μ':=μ') hlow [x] seen l3 f3 hp hg;split at hc
   ·rename_i y wR;simp only at wR;subst wR;simp only [E7q,Prod.mk.injEq] at hc;obtain ⟨q,hq,rfl,rfl⟩:=hc;obtain ⟨g1,g2,g3⟩:=ih f3 q.1 q.2 hq h1;refine ⟨g1,h2.trans g2,λids hi vs hv=>?_⟩;cases vs with
    | nil=>exact hv.elim
    | cons V vs=>exact ⟨(h3 ids (g2.trans hi) [V] ⟨hv.1,trivial⟩).1,g3 ids hi vs hv.2⟩
   ·cases hc
  | a x =>
   simp only [gP,E67] at hc;obtain ⟨⟨l3,f3⟩,hp,hc⟩:=hc;obtain ⟨h1,h2,h3⟩:=A5d (μ:=μ) (μ':=μ') hlow x seen l3 f3 hp hg;simp only [E7q,Prod.mk.injEq] at hc;obtain ⟨q,hq,rfl,rfl⟩:=hc;obtain ⟨g1,g2,g3⟩:=ih f3 q.1 q.2 hq h1;refine ⟨g1,h2.trans g2,λids hi vs hv=>?_⟩;cases vs with
   | nil=>exact hv.elim
   | cons V vs =>
    obtain ⟨Vs,hV,h4⟩:=hv.1;exact ⟨⟨Vs,hV,h3 ids (g2.trans hi) Vs h4⟩,g3 ids hi vs hv.2⟩
theorem D8j {h:B5} {b:Nat} {μ μ':Mu} (hlow:∀ id,id<b -> μ' id = μ id) {v v2:Val} {fin:List Nat} (hc:Y0 h b v=A4 (v2,fin)):Good h b fin/\∀ V,RV μ' v V->RV (nu μ μ' b fin) v2 V:=by
 cases v with
 | c x =>
  simp only [Y0,E67] at hc;obtain ⟨⟨l3,f3⟩,hp,hc⟩:=hc;obtain ⟨h1,h2,h3⟩:=A5d (μ:=μ) (μ':=μ') hlow [x] [] l3 f3 hp Good.nil;split at hc
  ·rename_i y wR;simp only at wR;subst wR;simp only [Option.some.injEq,Prod.mk.injEq] at hc;obtain ⟨rfl,rfl⟩:=hc;exact ⟨h1,λV hV=>(h3 _ (List.prefix_refl _) [V] ⟨hV,trivial⟩).1⟩
  ·cases hc
 | a l =>
  simp only [Y0,E7q,Prod.mk.injEq] at hc;obtain ⟨p,hp,rfl,rfl⟩:=hc;obtain ⟨h1,h2,h3⟩:=A5d (μ:=μ) (μ':=μ') hlow l [] p.1 p.2 hp Good.nil;refine ⟨h1,λV hV=>?_⟩;obtain ⟨vs,e,h4⟩:=hV;exact ⟨vs,e,h3 _ (List.prefix_refl _) vs h4⟩
 | t l =>
  simp only [Y0,E7q,Prod.mk.injEq] at hc;obtain ⟨p,hp,rfl,rfl⟩:=hc;obtain ⟨h1,h2,h3⟩:=D8i (μ:=μ) (μ':=μ') hlow l [] p.1 p.2 hp Good.nil;refine ⟨h1,λV hV=>?_⟩;obtain ⟨vs,e,h4⟩:=hV;exact ⟨vs,e,h3 _ (List.prefix_refl _) vs h4⟩
 | un=>simp [Y0] at hc
 | no=>simp [Y0] at hc
def D3v (μ:Mu) (h:B5) (b:Nat):Prop:=∃ id r n,rd h id=A4 r /\ μ id=A4 (b,n)
open Classical in
noncomputable def Ctx.hold (Γ:Ctx) (μ:Mu) (h:B5) (w:World):Ctx:={ Γ with F:=λb=>if D3v μ h b then w.heap[b]? else Γ.F b }
theorem Inv.hold {Γ:Ctx} {μ:Mu} {h:B5} {w:World} (hi:Inv Γ μ h w):Inv (Γ.hold μ h w) μ (ro h) w where
 rows id r hr:=by
  rw [D12,E7q] at hr;obtain ⟨r0,h0,rfl⟩:=hr;have hth:=hi.rows id r0 h0;have this:=hth;unfold RowOk at this ⊢;cases hm:μ id with
  | none =>
   rw [hm] at this;show r0.dim=[];unfold Row.dim;rw [this];cases r0.head<;>rfl
  | some x =>
   rw [hm] at this;obtain ⟨o,ho⟩:=hth.there hm;have V5:=(Array.getElem?_eq_some_iff.1 ho).1;cases hh:r0.head with
   | true =>
    refine .inr (.inr ⟨rfl,V5,?_⟩);show r0.dim.all Cell.isD=A5;unfold Row.dim;rw [hh];simp [Cell.isD]
   | false =>
    have hd:r0.dim=r0.cells:=by unfold Row.dim;rw [hh];rfl
    rw [hd];rcases this with ⟨C,elem,fz,h1,h2,h3,h4⟩ | ⟨es,E,h1,_⟩ | ⟨h1,h2,h3⟩
    ·refine .inl ⟨C,elem,fz,h1,h2,h3.mono λc V hc=>?_,λhf=>by cases hf⟩;rcases hc with hc | ⟨_,hc⟩
     ·exact .inl hc
     ·exact .inr ⟨rfl,hc⟩
    ·rw [h1,Row.head_mrow] at hh;cases hh
    ·exact .inr (.inr ⟨rfl,h2,h3⟩)
 sep id bF r r' x x' hr hr' hw:=by
  rw [D12,E7q] at hr;obtain ⟨r0,h0,rfl⟩:=hr;rw [Row.dim_own] at hw;cases hw
 own id r x hr hw:=by
  rw [D12,E7q] at hr;obtain ⟨r0,h0,rfl⟩:=hr;rw [Row.dim_own] at hw;cases hw
 dom id hl:=hi.dom id (by simpa [F7] using hl)
 ctx:=⟨hi.ctx.os,hi.ctx.tape,hi.ctx.output,λb o ho=>by
  unfold Ctx.hold at ho;simp only at ho;split at ho
  ·exact ho
  ·exact hi.ctx.block b o ho⟩
theorem Inv.held {Γ:Ctx} {μ μ':Mu} {h h':B5} {w w':World} (hi:Inv Γ μ h w) (hj:Inv (Γ.hold μ h w) μ' h' w') {ids:List Nat} (hg:Good h' h.length ids) :
  Inv Γ (nu μ μ' h.length ids) (h++ids.map (rd h')) w':=by
 have same:∀ b,D3v μ h b->w'.heap[b]?=w.heap[b]? := by
  intro b hb;have hb':=hb;obtain ⟨id,r,n,hr,hm⟩:=hb;obtain ⟨o,h1⟩:=(hi.rows id r hr).there hm;have h2:(Γ.hold μ h w).F b=A4 o:=by
   unfold Ctx.hold;simp only;rw [if_pos hb'];exact h1
  rw [hj.ctx.block b _ h2,h1]
 have lo:∀ id,id<h.length->nu μ μ' h.length ids id = μ id:=λid hl=>by unfold nu;rw [if_pos hl]
 have cC:μ.le (nu μ μ' h.length ids):=λid x hx=>by
  by_cases hl:id<h.length
  ·rw [lo id hl];exact hx
  ·rw [hi.dom id (by omega)] at hx;cases hx
 have get:∀ id r,rd (h++ids.map (rd h')) id=A4 r->(id<h.length/\rd h id=A4 r)\/(∃ j,ids[id-h.length]?=A4 j/\h.length<=id/\rd h' j=A4 r/\nu μ μ' h.length ids id = μ' j/\j∈ids/\r.rw=A5/\N8 r.cells=A5):=by
  intro id r hr;by_cases hl:id<h.length
  ·rw [D9 hl] at hr;exact .inl ⟨hl,hr⟩
  ·right
   unfold rd at hr;rw [E7l (by omega),List.getElem?_map] at hr;cases hj':ids[id-h.length]? with
   | none=>rw [hj'] at hr;cases hr
   | some j =>
    rw [hj'] at hr;change rd h' j=A4 r at hr;have yA:j∈ids:=E7y hj';obtain ⟨_,r2,hr2,h1,h2⟩:=hg.ok j yA;rw [hr] at hr2;cases hr2;refine ⟨j,rfl,by omega,hr,?_,yA,h1,h2⟩;unfold nu;rw [if_neg hl,hj'];rfl
 have fnew:∀ j r x,rd h' j=A4 r->r.rw=A5 -> μ' j=A4 x->¬ D3v μ h x.1 /\ Γ.F x.1=A7:=by
  intro j r x hr hw hx;have h1:=hj.own j r x hr (Row.own_rw hw) hx;unfold Ctx.hold at h1;simp only at h1;split at h1
  ·rename_i hb;obtain ⟨id,r0,n,hr0,hm⟩:=hb;obtain ⟨o,h2⟩:=(hi.rows id r0 hr0).there hm;rw [h2] at h1;cases h1
  ·exact ⟨‹_›,h1⟩
 refine ⟨?_,?_,?_,?_,?_⟩
 ·intro id r hr;rcases get id r hr with ⟨hl,hr⟩ | ⟨j,hj1,hl,hr,hn,yA,hw,hf⟩
  ·exact (hi.rows id r hr).mono cC (lo id hl) λx hx=>same _ ⟨id,r,x.2,hr,hx⟩
  ·have:=hj.rows j r hr;unfold RowOk at this ⊢;rw [hn];cases hm:μ' j with
   | none=>rw [hm] at this;exact this
   | some x =>
    obtain ⟨C,elem,fz,h1,h2,h3,h4⟩:=(hj.rows j r hr).mem hm hw;refine .inl ⟨C,elem,fz,h1,h2,?_,h4⟩;rw [hw] at h3 ⊢;have h5:=RL.all h3 (by simp);exact (All2.flat (μ':=nu μ μ' h.length ids) hf h5).mono λ_ _=>.inl
 ·intro id bF r r' x x' hr hr' hw T8 hx hx';rcases get id r hr with ⟨hl,hr⟩ | ⟨j,hj1,hl,hr,hn,yA,hw2,hf⟩
  ·rw [lo id hl] at hx;rcases get bF r' hr' with ⟨hl',hr'⟩ | ⟨j',E5d,hl',hr',hn',E5j,E5o,hf'⟩
   ·rw [lo bF hl'] at hx';exact hi.sep id bF r r' x x' hr hr' hw T8 hx hx'
   ·rw [hn'] at hx';intro e;exact (fnew j' r' x' hr' E5o hx').1 (e ▸ ⟨id,r,x.2,hr,hx⟩)
  ·rw [hn] at hx;rcases get bF r' hr' with ⟨hl',hr'⟩ | ⟨j',E5d,hl',hr',hn',E5j,E5o,hf'⟩
   ·rw [lo bF hl'] at hx';intro e;exact (fnew j r x hr hw2 hx).1 (e ▸ ⟨bF,r',x'.2,hr',hx'⟩)
   ·rw [hn'] at hx';refine hj.sep j j' r r' x x' hr hr' hw (λe=>?_) hx hx';subst e;have h1:=List.getElem?_eq_some_iff.1 hj1;have h2:=List.getElem?_eq_some_iff.1 E5d;have:=(List.getElem_inj hg.nd).1 (h1.2.trans h2.2.symm);omega
 ·intro id r x hr hw hx;rcases get id r hr with ⟨hl,hr⟩ | ⟨j,hj1,hl,hr,hn,yA,hw2,hf⟩
  ·rw [lo id hl] at hx;exact hi.own id r x hr hw hx
  ·rw [hn] at hx;exact (fnew j r x hr hw2 hx).2
 ·intro id hl;simp only [E7a,List.length_map] at hl;unfold nu;rw [if_neg (by omega),E7L (by omega)];rfl
 ·refine ⟨hj.ctx.os,hj.ctx.tape,hj.ctx.output,λb o ho=>?_⟩;by_cases hb:D3v μ h b
  ·rw [same b hb];exact hi.ctx.block b o ho
  ·refine hj.ctx.block b o ?_;unfold Ctx.hold;simp only;rw [if_neg hb];exact ho
theorem D9l {P:Program} {f:FuncId} {F:List Val->B5->Option (Val × B5)} (hF:∀ args h v h2,F args h=A4 (v,h2)->kB P f/\CallOk P f args h v h2/\h.length<=h2.length)
  {args:List Val} {h:B5} {v:Val} {h2:B5} (he:C88 F args h=A4 (v,h2)):kB P f/\CallOk P f args h v h2/\h.length<=h2.length:=by
 simp only [C88,E67,E7q,Prod.mk.injEq] at he;obtain ⟨p,hp,q,hq,rfl,rfl⟩:=he;obtain ⟨h1,h2,h3⟩:=hF args (ro h) p.1 p.2 hp;refine ⟨h1,fun Γ μ w V hi hv=>?_,by simp⟩;refine (h2 (Γ.hold μ h w) μ w V hi.hold hv).mono λe w' ⟨V',μ',he,_,hV,hi',hl⟩=>?_
 obtain ⟨hg,hR⟩:=D8j (μ:=μ) (μ':=μ') (λid hid=>hl id (by simpa [F7] using hid)) (v2:=q.1) (fin:=q.2) hq;refine ⟨V',nu μ μ' h.length q.2,he,λid x hx=>?_,hR V' hV,hi.held hi' hg,λid hl=>by unfold nu;rw [if_pos hl]⟩;by_cases hl:id<h.length
 ·unfold nu;rw [if_pos hl];exact hx
 ·rw [hi.dom id (by omega)] at hx;cases hx
theorem E24 {P:Program} {f:FuncId} {F:List Val->B5->Option (Val × B5)} (hF:∀ args h v h2,F args h=A4 (v,h2)->kB P f/\CallOk P f args h v h2/\h.length<=h2.length)
  (args:List Val) (h:B5) (v:Val) (h2:B5) (he:tidy F args h=A4 (v,h2)):kB P f/\CallOk P f args h v h2/\h.length<=h2.length:=by
 unfold tidy at he;split at he
 ·rename_i r hr;cases he;exact D9l hF hr
 ·exact hF args h v h2 he
theorem B9b {F:List Val->B5->Option (Val × B5)} {args:List Val} {h h':B5} {v v2:Val} {ids:List Nat} (he:F args (ro h)=A4 (v,h')) (hc:Y0 h' h.length v=A4 (v2,ids)) :
  tidy F args h=A4 (v2,h++ids.map (rd h')):=by
 have:C88 F args h=A4 (v2,h++ids.map (rd h')):=by
  unfold C88;rw [he];simp [hc]
 unfold tidy;rw [this]
def Val.flat:Val->Bool
 | .c x=>x.flat
 | .a l=>N8 l
 | .t l=>l.all λp=>match p with
  | .c x=>x.flat
  | .a l=>N8 l
 | _=>A6
theorem dE {h:B5} {b:Nat} {seen:List Nat}:∀ {l:List Cell},N8 l=A5->R5 h b seen l=A4 (l,seen)
 | [],_=>rfl
 | c::l,hf=>by
  rw [B5Y,E69] at hf;have ih:=dE (h:=h) (b:=b) (seen:=seen) hf.2;unfold R5;rw [if_pos (Cell.low_of_flat hf.1),ih];rfl
theorem B0Z {h:B5} {b:Nat} {seen:List Nat}:∀ {l:List Part},(l.all λp=>match p with | .c x=>x.flat | .a l=>N8 l)=A5->gP h b seen l=A4 (l,seen)
 | [],_=>rfl
 | .c x::l,hf=>by
  simp only [E7P,E69] at hf;have ih:=B0Z (h:=h) (b:=b) (seen:=seen) hf.2;have h1:R5 h b seen [x]=A4 ([x],seen):=dE (by simpa [N8] using hf.1);simp [gP,h1,ih]
 | .a x::l,hf=>by
  simp only [E7P,E69] at hf;have ih:=B0Z (h:=h) (b:=b) (seen:=seen) hf.2;have h1:R5 h b seen x=A4 (x,seen):=dE hf.1;simp [gP,h1,ih]
theorem D4z {h:B5} {b:Nat} {v:Val} (hf:v.flat=A5):Y0 h b v=A4 (v,[]):=by
 cases v with
 | c x =>
  have h1:R5 h b [] [x]=A4 ([x],[]):=dE (by simp only [N8,E7P,List.all_nil,Bool.and_true];exact hf);simp [Y0,h1]
 | a l =>
  have h1:R5 h b [] l=A4 (l,[]):=dE hf;simp [Y0,h1]
 | t l =>
  have h1:gP h b [] l=A4 (l,[]):=B0Z hf;simp [Y0,h1]
 | un=>cases hf
 | no=>cases hf
theorem D9m {F:List Val->B5->Option (Val × B5)} {args:List Val} {h h':B5} {v:Val} (he:F args (ro h)=A4 (v,h')) (hf:v.flat=A5):tidy F args h=A4 (v,h):=by
 have:=B9b he (D4z (h:=h') (b:=h.length) hf);simpa using this
def C4B (b:Nat) (l:List Cell):Bool:=l.all (Cell.low b)
def Val.low (b:Nat):Val->Bool
 | .c x=>x.low b
 | .a l=>C4B b l
 | .t l=>l.all λp=>match p with
  | .c x=>x.low b
  | .a l=>C4B b l
 | _=>A6
theorem A1z {h:B5} {b:Nat} {seen:List Nat}:∀ {l:List Cell},C4B b l=A5->R5 h b seen l=A4 (l,seen)
 | [],_=>rfl
 | c::l,hf=>by
  have hf:(c.low b&&C4B b l)=A5:=hf;rw [E69] at hf;have ih:=A1z (h:=h) (b:=b) (seen:=seen) hf.2;unfold R5;rw [if_pos hf.1,ih];rfl
theorem B5M {h:B5} {b:Nat} {seen:List Nat}:∀ {l:List Part},(l.all λp=>match p with | .c x=>x.low b | .a l=>C4B b l)=A5->gP h b seen l=A4 (l,seen)
 | [],_=>rfl
 | .c x::l,hf=>by
  simp only [E7P,E69] at hf;have ih:=B5M (h:=h) (b:=b) (seen:=seen) hf.2;have h1:R5 h b seen [x]=A4 ([x],seen):=A1z (by simpa [C4B] using hf.1);simp [gP,h1,ih]
 | .a x::l,hf=>by
  simp only [E7P,E69] at hf;have ih:=B5M (h:=h) (b:=b) (seen:=seen) hf.2;have h1:R5 h b seen x=A4 (x,seen):=A1z hf.1;simp [gP,h1,ih]
theorem E1E {F:List Val->B5->Option (Val × B5)} {args:List Val} {h h':B5} {v:Val} (he:F args (ro h)=A4 (v,h')) (hf:v.low h.length=A5):tidy F args h=A4 (v,h):=by
 have hc:Y0 h' h.length v=A4 (v,[]):=by
  cases v with
  | c x =>
   have h1:R5 h' h.length [] [x]=A4 ([x],[]):=A1z (by simp only [C4B,E7P,List.all_nil,Bool.and_true];exact hf);simp [Y0,h1]
  | a l =>
   have h1:R5 h' h.length [] l=A4 (l,[]):=A1z hf;simp [Y0,h1]
  | t l =>
   have h1:gP h' h.length [] l=A4 (l,[]):=B5M hf;simp [Y0,h1]
  | un=>cases hf
  | no=>cases hf
 have:=B9b he hc;simpa using this
@[simp] theorem E5q {b:Nat}:C4B b []=A5:=rfl
@[simp] theorem E4S {b:Nat} {c:Cell} {l:List Cell}:C4B b (c::l)=(c.low b&&C4B b l):=rfl
@[simp] theorem E6H {b:Nat} {x:Cell}:(Val.c x).low b=x.low b:=rfl
@[simp] theorem E6G {b:Nat} {l:List Cell}:(Val.a l).low b=C4B b l:=rfl
@[simp] theorem E6I {b:Nat} {l:List Part}:(Val.t l).low b=l.all λp=>match p with | .c x=>x.low b | .a l=>C4B b l:=rfl
@[simp] theorem E6A {b id off len sz:Nat}:(Cell.sl id off len sz).low b=decide (id<b):=rfl
@[simp] theorem E6S {b:Nat} {k:IntKind} {n:Int}:(Cell.i k n).low b=A5:=rfl
@[simp] theorem E6R {b:Nat} {x:Bool}:(Cell.b x).low b=A5:=rfl
@[simp] theorem E6T {b:Nat} {x:List UInt8}:(Cell.s x).low b=A5:=rfl
@[simp] theorem E6z {b:Nat}:Cell.ns.low b=A5:=rfl
@[simp] theorem E4R:N8 []=A5:=rfl
@[simp] theorem E3h {c:Cell} {l:List Cell}:N8 (c::l)=(c.flat&&N8 l):=rfl
@[simp] theorem sF {l m:List Cell}:N8 (l++m)=(N8 l&&N8 m):=by simp [N8]
@[simp] theorem C7K {l:List UInt8}:N8 (B4 l)=A5:=by simp [N8,B4,Cell.flat]
@[simp] theorem E5W {x:Bool}:(Cell.b x).flat=A5:=rfl
@[simp] theorem E5X {k:IntKind} {n:Int}:(Cell.i k n).flat=A5:=rfl
@[simp] theorem E5Y {x:List UInt8}:(Cell.s x).flat=A5:=rfl
@[simp] theorem E5L:Cell.ns.flat=A5:=rfl
@[simp] theorem E5K:Cell.np.flat=A5:=rfl
@[simp] theorem E5N {x:Cell}:(Val.c x).flat=x.flat:=rfl
@[simp] theorem E5M {l:List Cell}:(Val.a l).flat=N8 l:=rfl
@[simp] theorem E5O {l:List Part}:(Val.t l).flat=l.all λp=>match p with | .c x=>x.flat | .a l=>N8 l:=rfl
@[simp] theorem C8K {h:B5} {v:Val}:quiet h (A4 (v,h))=A4 (v,h):=U3 Grows.rfl'
section
variable {h:B5} {l:List (Option Row)} {k id:Nat}
@[simp] theorem L5:rd (h++l) (h.length+k)=(l[k]?).join:=by
 unfold rd;rw [E7l (by omega),Nat.add_sub_cancel_left]
@[simp] theorem E9:rd (h++l) h.length=(l[0]?).join:=L5 (k:=0)
@[simp] theorem pA {x:Option Row}:(h++l).set (h.length+k) x=h++l.set k x:=by
 rw [E7I _ _ (by omega),Nat.add_sub_cancel_left]
@[simp] theorem V6 {x:Option Row}:(h++l).set h.length x=h++l.set 0 x:=pA (k:=0)
end
section
variable {h:B5} {id off n sz:Nat} {cs xs:List Cell} {x:Cell} {k:IntKind} {rw:Bool}
theorem D9z {j:Int} (h0:0<=j) (h1:j<n):J8 n sz (.c (.p id off)) (.c (.i k j))=A4 (.c (.p id (off+j.toNat*sz))):=by
 simp only [J8];rw [if_pos ⟨h0,h1⟩]
end
def Has (h:B5) (v:Val) (sz n:Nat) (cs:List Cell):Prop :=
 (v=.c .ns/\n=0/\cs=[])\/∃ id off r,v=.c (.sl id off n sz)/\rd h id=A4 r/\cs.length=n*sz/\off+n*sz<=r.cells.length/\(r.cells.drop off).take (n*sz)=cs/\noX cs=A5
section
variable {h:B5} {v:Val} {sz n:Nat} {cs:List Cell}
theorem Has.length (hv:Has h v sz n cs):cs.length=n*sz:=by
 rcases hv with ⟨_,rfl,rfl⟩ | ⟨_,_,_,_,_,hl,_⟩
 ·simp
 ·exact hl
theorem C4R {r:Row} {off m j:Nat} (h3:(r.cells.drop off).take m=cs) (h4:noX cs=A5) (hj:j<m) (hl:off+m<=r.cells.length):(r.rw||(r.cells[off+j]?).any λc=>!c.isX)=A5:=by
 have V5:off+j<r.cells.length:=by omega
 have hc:cs[j]?=A4 r.cells[off+j]:=by
  rw [<-h3,E7G hj,E7W,E66 V5]
 have:=List.all_eq_true.1 h4 _ (E7y hc);rw [E66 V5];simp only [Option.any_some,this,Bool.or_true]
theorem Has.ro (hv:Has h v sz n cs):Has (ro h) v sz n cs:=by
 rcases hv with hv | ⟨id,off,r,rfl,hr,h1,h2,h3,h4⟩
 ·exact .inl hv
 ·cases hh:r.head with
  | false=>exact .inr ⟨id,off,⟨r.cells,A6⟩,rfl,B8Z hr hh,h1,h2,h3,h4⟩
  | true =>
   have hx:=Row.head_isX hh;have E5l:cs=[]:=by
    cases hcs:cs with
    | nil=>rfl
    | cons c cs' =>
     exfalso;have yA:c∈r.cells:=List.mem_of_mem_drop (List.mem_of_mem_take (by rw [h3,hcs];simp));have h5:c.isX=A6:=by
      have:=List.all_eq_true.1 h4 c (by rw [hcs];simp);simpa using this
     rw [hx c yA] at h5;cases h5
   have hd:r.dim.length=r.cells.length:=by unfold Row.dim;rw [hh];simp
   have hn:n*sz=0:=by rw [<-h1,E5l];rfl
   exact .inr ⟨id,off,⟨r.dim,A6⟩,rfl,by rw [D12,hr];rfl,h1,by show off+n*sz<=r.dim.length;rw [hd];exact h2,by rw [hn,E76,E5l],h4⟩
theorem Has.more (hv:Has h v sz n cs) (l:B5):Has (h++l) v sz n cs:=by
 rcases hv with hv | ⟨id,off,r,rfl,hr,h1,h2,h3,h4⟩
 ·exact .inl hv
 ·exact .inr ⟨id,off,r,rfl,C5 hr,h1,h2,h3,h4⟩
theorem Has.grows {h':B5} (hv:Has h v sz n cs) (hg:Grows h h'):Has h' v sz n cs:=by
 rcases hv with hv | ⟨id,off,r,rfl,hr,h1,h2,h3,h4⟩
 ·exact .inl hv
 ·exact .inr ⟨id,off,r,rfl,hg.rd hr,h1,h2,h3,h4⟩
theorem Has.len (hv:Has h v sz n cs):D2R v=A4 (.c (.i .i64 n)):=by
 rcases hv with ⟨rfl,rfl,rfl⟩ | ⟨id,off,r,rfl,_⟩<;>rfl
theorem Has.cells (hv:Has h v sz n cs):iE h v=A4 cs:=by
 rcases hv with ⟨rfl,rfl,rfl⟩ | ⟨id,off,r,rfl,hr,h1,h2,h3,h4⟩
 ·rfl
 ·simp only [iE,hr,E7h];rw [if_pos ⟨h2,by rw [h3,h4];simp⟩,h3]
theorem Has.add (hv:Has h v sz n cs):P8 h sz v=A4 cs:=by
 have:=hv.cells;rcases hv with ⟨rfl,rfl,rfl⟩ | ⟨id,off,r,rfl,_⟩
 ·rfl
 ·simp only [P8,if_true];exact this
theorem C2B:∀ l:List UInt8,bytes? (B4 l)=A4 l
 | []=>rfl
 | x::l=>by
  have h1:=x.toNat_lt;have e:D1m (.i .u8 x.toNat)=A4 x:=by
   simp only [D1m];rw [if_pos ⟨by omega,by omega⟩];simp
  change (D1m (.i .u8 x.toNat)).bind (λy=>(bytes? (B4 l)).map λl=>y::l)=_;rw [e,C2B l];rfl
theorem Has.str {l:List UInt8} (hv:Has h v 1 n (B4 l)):B5C h v=A4 (.c (.s l)):=by
 have:=hv.cells;rcases hv with ⟨rfl,rfl,e⟩ | ⟨id,off,r,rfl,_⟩
 ·have:l=[]:=by simpa [B4] using e
  subst this;rfl
 ·simp only [B5C,if_true,this,E7h,C2B,Option.map_some]
theorem Has.sl (hv:Has h v sz n cs) (hn:0<n):∃ id off,v=.c (.sl id off n sz)/\id<h.length /\
  (∀ j c,cs[j]?=A4 c->B8 h (.c (.p id (off+j)))=A4 (.c c))/\∀ j m,j+m<=cs.length->D4 h m (.c (.p id (off+j)))=A4 (.a ((cs.drop j).take m)):=by
 rcases hv with ⟨rfl,rfl,rfl⟩ | ⟨id,off,r,rfl,hr,h1,h2,h3,h4⟩
 ·omega
 ·refine ⟨id,off,rfl,C8 hr,λj c hc=>?_,λj m hj=>?_⟩
  ·have V5:j<cs.length:=(List.getElem?_eq_some_iff.1 hc).1;have hx:c.isX=A6:=by
    have:=List.all_eq_true.1 h4 c (E7y hc);simpa using this
   refine C4 (cs:=r.cells) (rw:=r.rw) hr ?_ (by simp [hx]);rw [<-h3,E7G (by omega),E7W] at hc;exact hc
  ·have e:((cs.drop j).take m)=(r.cells.drop (off+j)).take m:=by
    rw [<-h3,List.drop_take,List.take_take,E7X]
    congr 1
    omega
   rw [e];refine dI (cs:=r.cells) (rw:=r.rw) hr (by omega) ?_;rw [<-e];have:noX ((cs.drop j).take m)=A5:=by
    refine List.all_eq_true.2 λc hc=>List.all_eq_true.1 h4 c ?_
    exact List.mem_of_mem_drop (List.mem_of_mem_take hc)
   simp [this]
end
theorem Has.row {h:B5} {id sz n:Nat} {cs:List Cell} {rw:Bool} (hr:rd h id=A4 ⟨cs,rw⟩) (hl:cs.length=n*sz) (hx:noX cs=A5):Has h (.c (.sl id 0 n sz)) sz n cs :=
 .inr ⟨id,0,_,rfl,hr,hl,by simp [hl],by simp [<-hl],hx⟩
def Out (b:Nat) (h:B5) (v:Val) (sz n:Nat) (cs:List Cell):Prop :=
 cs.length=n*sz/\∃ id,v=.c (.sl id 0 n sz)/\b<=id/\rd h id=A4 ⟨cs,A5⟩
def Low (b:Nat) (h h':B5):Prop:=b<=h.length/\h.length<=h'.length/\∀ id,id<b->rd h' id=rd h id
theorem Low.refl {b:Nat} {h:B5} (hb:b<=h.length):Low b h h:=⟨hb,E7b _,λ_ _=>rfl⟩
theorem Low.trans {b:Nat} {h h' h'':B5} (h1:Low b h h') (h2:Low b h' h''):Low b h h'' :=
 ⟨h1.1,E7K h1.2.1 h2.2.1,λid hid=>(h2.2.2 id hid).trans (h1.2.2 id hid)⟩
theorem Low.new {b:Nat} {h h':B5} (h1:Low b h h') (l:B5):Low b h (h'++l) :=
 ⟨h1.1,by have:=h1.2.1;simp;omega,λid hid=>by rw [D9 (by have:=h1.1;have:=h1.2.1;omega)];exact h1.2.2 id hid⟩
theorem Low.set {b:Nat} {h h':B5} (h1:Low b h h') {id:Nat} (hid:b<=id) (x:Option Row):Low b h (h'.set id x) :=
 ⟨h1.1,by simpa using h1.2.1,λj hj=>by rw [B6 (by omega)];exact h1.2.2 j hj⟩
theorem Has.low {b:Nat} {h h':B5} {v:Val} {sz n:Nat} {cs:List Cell} (h1:Low b h h') (hv:Has h v sz n cs) (hb:∀ id off m,v=.c (.sl id off m sz)->id<b):Has h' v sz n cs:=by
 rcases hv with hv | ⟨id,off,r,rfl,hr,h2⟩
 ·exact .inl hv
 ·exact .inr ⟨id,off,r,rfl,by rw [h1.2.2 id (hb id off n rfl)];exact hr,h2⟩
theorem Out.app {b:Nat} {h:B5} {v y:Val} {sz n m:Nat} {cs ys:List Cell} (ho:Out b h v sz n cs) (hsz:0<sz) (hy:P8 h sz y=A4 ys) (hm:ys.length=m*sz) (hn:n+m<=1073741824) :
  ∃ id v' h',v=.c (.sl id 0 n sz)/\jZ h sz v y=A4 (v',h')/\Out b h' v' sz (n+m) (cs++ys)/\Low b h h'/\(∀ i r,rd h i=A4 r->i≠id->rd h' i=A4 r):=by
 have hd:ys.length/sz=m:=by rw [hm];exact Nat.mul_div_cancel m hsz
 obtain ⟨hl,id,rfl,E56,hr⟩:=ho;have V5:=C8 hr;refine ⟨id,_,h.set id A7++[A4 ⟨cs++ys,A5⟩],rfl,by simp only [jZ,hy,hr,E7h,hd];rw [if_pos ⟨trivial,trivial,hl.symm,trivial,hn⟩],⟨by simp [hl,hm,E78],h.length,rfl,by omega,?_⟩,((Low.refl (by omega)).set E56 A7).new _,λi r hi T8=>?_⟩
 ·have:=T9 (h:=h.set id A7) (r:=⟨cs++ys,A5⟩)
  rwa [E7D] at this
 ·have V5:=C8 hi;rw [D9 (by simpa using V5),B6 (Ne.symm T8)];exact hi
theorem A0U {h:B5} {id:Nat} {cs:List Cell} (hr:rd h id=A4 ⟨cs,A5⟩) (hf:N8 cs=A5):newRow h id=A5:=by simp [newRow,hr,hf]
theorem D9S {h:B5} {b id off n sz:Nat} {cs:List Cell} (hb:b<=id) (hr:rd h id=A4 ⟨cs,A5⟩) (hf:N8 cs=A5):Y0 h b (.c (.sl id off n sz))=A4 (.c (.sl b off n sz),[id]):=by
 have:¬ id<b:=by omega
 simp [Y0,R5,hb,this,A0U hr hf]
theorem E1F {F:List Val->B5->Option (Val × B5)} {args:List Val} {h h':B5} {v:Val} {sz n:Nat} {cs:List Cell} (he:F args (ro h)=A4 (v,h')) (ho:Out h.length h' v sz n cs) (hf:N8 cs=A5) :
  tidy F args h=A4 (.c (.sl h.length 0 n sz),h++[A4 ⟨cs,A5⟩]):=by
 obtain ⟨hl,id,rfl,hb,hr⟩:=ho;rw [B9b he (D9S hb hr hf)];simp [hr]
theorem D9n {F:List Val->B5->Option (Val × B5)} {args:List Val} {h h':B5} {v':Nat} {c:Cell} {sz n:Nat} {cs:List Cell} (he:F args (ro h)=A4 (.t [.c (.sl v' 0 n sz),.c c],h')) (ho:Out h.length h' (.c (.sl v' 0 n sz)) sz n cs) (hf:N8 cs=A5) (hc:c.flat=A5) :
  tidy F args h=A4 (.t [.c (.sl h.length 0 n sz),.c c],h++[A4 ⟨cs,A5⟩]):=by
 obtain ⟨hl,id,e,hb,hr⟩:=ho;cases e;have e2:R5 h' h.length [v'] [c]=A4 ([c],[v']):=dE (by simp [hc]);rw [B9b he (v2:=.t [.c (.sl h.length 0 n sz),.c c]) (ids:=[v']) (by simp [Y0,gP,R5,hb,show ¬ v'<h.length by omega,A0U hr hf,e2,hc,Cell.low_of_flat hc])];simp [hr]
def encI (l:List Int):List Cell:=l.map λn=>.i .i64 n
theorem B7 (l:List Int):(encI l).length=l.length:=by simp [encI]
theorem aK (l:List Int) (i:Nat) (x:Int):(encI l).set i (.i .i64 x)=encI (l.set i x):=by simp [encI,List.map_set]
theorem G8 (l:List Int) (i:Nat):(encI l)[i]?=(l[i]?).map λx=>.i .i64 x:=by simp [encI]
theorem A2Y (l m:List Int):encI (l++m)=encI l++encI m:=by simp [encI]
theorem aR (l:List Int):noX (encI l)=A5:=by simp [noX,encI,Cell.isX]
@[simp] theorem B5Z {l:List Int}:N8 (encI l)=A5:=by simp [N8,encI,Cell.flat]
theorem D4S {l m:List Int}:encI l=encI m↔l=m:=by
 constructor
 ·intro h;exact List.map_inj_right (λx y e=>by simpa using e) |>.1 h
 ·rintro rfl;rfl
def encS (l:List (List UInt8)):List Cell:=l.map .s
theorem N3 (l:List (List UInt8)):(encS l).length=l.length:=by simp [encS]
theorem B8H (l:List (List UInt8)):noX (encS l)=A5:=by simp [noX,encS,Cell.isX]
@[simp] theorem E3M {l:List (List UInt8)}:N8 (encS l)=A5:=by simp [N8,encS,Cell.flat]
abbrev Fun:=List Val->B5->Option (Val × B5)
abbrev SmV:=Sm (Val × B5)
abbrev B4r:=Option (Val × B5)
def SOk (P:Program) (f:FuncId) (S:Fun):Prop:=∀ args h v h2,S args h=A4 (v,h2)->kB P f/\CallOk P f args h v h2/\h.length<=h2.length
def E0e (g:Nat) (S:Fun) (E:O3):O3:=λf args h=>bif Nat.beq f g then S args h else E f args h
def D4Q:O3:=λ_ _ _=>A7
theorem D63 {P:Program}:gD P D4Q:=λ_ _ _ _ _ h=>by cases h
theorem D64 {P:Program} {g:Nat} {S:Fun} {E:O3} (hs:SOk P g S) (hE:gD P E):gD P (E0e g S E):=by
 intro f args h v h2 he;unfold E0e at he;cases hb:Nat.beq f g with
 | true=>rw [hb] at he;have e:=Nat.eq_of_beq_eq_true hb;subst e;exact hs args h v h2 he
 | false=>rw [hb] at he;exact hE f args h v h2 he
structure FnK (P:Program) (f:FuncId) (A:AFn) (E:O3) (R:Nat->Fun):Prop where
 run:∀ n args h,A.run E n args h=R n args h
 ok:SOk P f (Lim A E)
theorem FnK.mk' {P:Program} {f:FuncId} {fn:Func} {A:AFn} {E:O3} {R:Nat->Fun} (hE:gD P E) (hf:P.funcs[f]?=A4 fn) (hc:C7l P fn A=A5) (hr:∀ n args h,A.run E n args h=R n args h):FnK P f A E R :=
 ⟨hr,λ_ _ _ _ he=>(D7d he).elim λ_ e=>E4X hE hf hc e⟩
abbrev KV:=B2K (Val × B5)
abbrev AtH:=B5->B4r
def zE:List Nat->List Val->Env
 | t::l,x::r=>(t,x)::zE l r
 | _,_=>[]
noncomputable def rx (E:O3) (A:AFn) (n:Nat):Fun:=λargs h=>ax E n A.code A.fin (params 0 args) h
noncomputable def tl (A:AFn) (E:O3):Fun:=tidy (Lim A E)
noncomputable def aj' (s:SmV) (k:KV) (ks:List Nat) (xs:List Val):AtH:=λh=>hold (s k (zE ks xs) h)
noncomputable def aj (E:O3) (n:Nat) (c:ACode) (k:KV) (ks:List Nat) (xs:List Val):AtH:=aj' (ax E n c) k ks xs
theorem FnK.mk2 {P:Program} {f:FuncId} {fn:Func} {A:AFn} {E:O3} (hE:gD P E) (hf:P.funcs[f]?=A4 fn) (hc:C7l P fn A=A5):FnK P f A E (rx E A) :=
 .mk' hE hf hc λ_ _ _=>E3H
section
variable {P:Program} {f:FuncId} {A:AFn} {E:O3} {R:Nat->Fun}
theorem FnK.of (K:FnK P f A E R) {n:Nat} {args:List Val} {h:B5} {p:Val × B5} (he:R n args h=A4 p):Lim A E args h=A4 p:=E3x ((K.run ..).trans he)
theorem FnK.sok (K:FnK P f A E R):SOk P f (tidy (Lim A E)):=λargs h v h2 he=>E24 K.ok args h v h2 he
theorem FnK.flat (K:FnK P f A E R) {n:Nat} {args:List Val} {h h2:B5} {v:Val} (he:R n args (ro h)=A4 (v,h2)) (hf:v.flat=A5):tidy (Lim A E) args h=A4 (v,h):=D9m (K.of he) hf
theorem FnK.low (K:FnK P f A E R) {n:Nat} {args:List Val} {h h2:B5} {v:Val} (he:R n args (ro h)=A4 (v,h2)) (hf:v.low h.length=A5):tidy (Lim A E) args h=A4 (v,h):=E1E (K.of he) hf
theorem FnK.out (K:FnK P f A E R) {n:Nat} {args:List Val} {h h2:B5} {v:Val} {sz k:Nat} {cs:List Cell} (he:R n args (ro h)=A4 (v,h2)) (ho:Out h.length h2 v sz k cs) (hf:N8 cs=A5):tidy (Lim A E) args h=A4 (.c (.sl h.length 0 k sz),h++[A4 ⟨cs,A5⟩]):=E1F (K.of he) ho hf
theorem FnK.out2 (K:FnK P f A E R) {n:Nat} {args:List Val} {h h2:B5} {i:Nat} {c:Cell} {sz k:Nat} {cs:List Cell} (he:R n args (ro h)=A4 (.t [.c (.sl i 0 k sz),.c c],h2)) (ho:Out h.length h2 (.c (.sl i 0 k sz)) sz k cs) (hf:N8 cs=A5) (hc:c.flat=A5):Esc.tidy (Lim A E) args h=A4 (.t [.c (.sl h.length 0 k sz),.c c],h++[A4 ⟨cs,A5⟩]):=D9n (K.of he) ho hf hc
theorem FnK.tidy (K:FnK P f A E R) {n:Nat} {args:List Val} {h h2:B5} {v v2:Val} {ids:List Nat} (he:R n args (ro h)=A4 (v,h2)) (hc:Y0 h2 h.length v=A4 (v2,ids)):Esc.tidy (Lim A E) args h=A4 (v2,h++ids.map (rd h2)):=B9b (K.of he) hc
end
abbrev F6 (R:Nat->Fun) (S:Fun):Prop:=∀ {n:Nat} {args:List Val} {h h2:B5} {v:Val},R n args (ro h)=A4 (v,h2)->v.flat=A5->S args h=A4 (v,h)
abbrev E3y (R:Nat->Fun) (S:Fun):Prop:=∀ {n:Nat} {args:List Val} {h h2:B5} {v:Val},R n args (ro h)=A4 (v,h2)->v.low h.length=A5->S args h=A4 (v,h)
abbrev oP (R:Nat->Fun) (S:Fun):Prop:=∀ {n:Nat} {args:List Val} {h h2:B5} {v:Val} {sz k:Nat} {cs:List Cell},R n args (ro h)=A4 (v,h2)->Out h.length h2 v sz k cs->N8 cs=A5->S args h=A4 (.c (.sl h.length 0 k sz),h++[A4 ⟨cs,A5⟩])
abbrev E3f (R:Nat->Fun) (S:Fun):Prop:=∀ {n:Nat} {args:List Val} {h h2:B5} {i:Nat} {c:Cell} {sz k:Nat} {cs:List Cell},R n args (ro h)=A4 (.t [.c (.sl i 0 k sz),.c c],h2)->Out h.length h2 (.c (.sl i 0 k sz)) sz k cs->N8 cs=A5->c.flat=A5->S args h=A4 (.t [.c (.sl h.length 0 k sz),.c c],h++[A4 ⟨cs,A5⟩])
abbrev D7e (R:Nat->Fun) (S:Fun):Prop:=∀ {n:Nat} {args:List Val} {h h2:B5} {v v2:Val} {ids:List Nat},R n args (ro h)=A4 (v,h2)->Y0 h2 h.length v=A4 (v2,ids)->S args h=A4 (v2,h++ids.map (rd h2))
abbrev OfT (R:Nat->Fun) (S:Fun):Prop:=∀ {n:Nat} {args:List Val} {h:B5} {p:Val × B5},R n args h=A4 p->S args h=A4 p
end Go.Esc
namespace Go.Esc
open Go Go.ChangeShapes Go.WideShapes Go.ChangeAt Go.RowKit
def xV (P:Program) (g:TypeId->Option (List Sh)):List Field->Nat->Option (List Sh)
 | [],_=>A4 []
 | f::r,off=>if f.offset=off then (g f.type).bind λl=>if l.length=P.cellsOf f.type then (xV P g r (off+l.length)).map (l ++ ·) else A7 else A7
def B2b (P:Program):Nat->TypeId->Option (List Sh)
 | 0,_=>A7
 | n+1,t=>match P.underlying t with
  | some .bool=>A4 [.b]
  | some (.int k)=>A4 [.i k]
  | some .string=>A4 [.s]
  | some (.struct fs)=>(xV P (B2b P n) fs.toList 0).bind λl=>if l.length=P.cellsOf t then A4 l else A7
  | some (.array m e)=>(B2b P n e).bind λl=>if l.length=P.cellsOf e/\P.cellsOf t=m*l.length then A4 (E68 m l).flatten else A7
  | _=>A7
def okCell:Sh->Cell->Prop
 | .b,.b _=>True
 | .i k,.i k' n=>k'=k/\k.min<=n/\n<=k.max
 | .s,.s l=>l.length<=maxLen
 | _,_=>False
theorem okCell.flat {s:Sh} {c:Cell} (h:okCell s c):c.flat=A5/\c.isX=A6:=by
 cases s<;>cases c<;>simp_all [okCell,Cell.flat,Cell.isX]
theorem B4j:∀ {l:List Sh} {cs:List Cell},All2 okCell l cs->N8 cs=A5/\noX cs=A5
 | [],[],_=>⟨rfl,rfl⟩
 | s::l,c::cs,⟨h1,h2⟩=>by
  have:=B4j h2;have h3:=h1.flat;simp [this.1,h3.1,noX,h3.2];have:=this.2;simpa [noX] using this
 | [],_::_,h=>h.elim
 | _::_,[],h=>h.elim
section
variable {H:Type} {enc:TypeId × Value->H} {P:Program} {w:World} {base:Nat} {spare:Nat->Bool} {held:Bool} {fuel:Nat} {t:TypeId} {cs:List Value} {x:DataW H × List MemPlace}
theorem trod_array {n:Nat} {e:TypeId} (ht:P.underlying t=A4 (.array n e)) (h:DataW.trod enc P w base spare held fuel t cs=A4 x) :
  ∃ (m:Nat) (xs:List (DataW H × List MemPlace)),cs.length=P.cellsOf t/\∀ i,i<n->∃ y,DataW.trod enc P w base spare held m e ((cs.drop (i*P.cellsOf e)).take (P.cellsOf e))=A4 y:=by
 cases fuel with
 | zero=>simp [DataW.trod] at h
 | succ m =>
  unfold DataW.trod at h;rw [ht] at h;have h':cs.length=P.cellsOf t/\∃ xs,((E7C n).mapM λi=>DataW.trod enc P w base spare held m e ((cs.drop (i*P.cellsOf e)).take (P.cellsOf e)))=A4 xs:=by
   split at h<;>simp_all
   obtain ⟨hl,xs,hp,hd⟩:=h;exact ⟨xs,hp⟩
  obtain ⟨hl,xs,hp⟩:=h';refine ⟨m,xs,hl,λi hi=>?_⟩;have:=mapM_some_get hp i i (by simp [hi]);rw [this];have hxl:xs.length=n:=by simpa using mapM_some_length hp
  exact ⟨xs[i],E66 (by omega)⟩
theorem B1U (μ:Mu):∀ (n:Nat) {t:TypeId} {fuel:Nat} {cs:List Value} {x:DataW H × List MemPlace} {sh:List Sh},DataW.trod enc P w base spare held fuel t cs=A4 x->B2b P n t=A4 sh ->
  ∃ cells,All2 (RC μ) cells cs/\All2 okCell sh cells
 | 0,_,_,_,_,_,_,hs=>by simp [B2b] at hs
 | n+1,t,fuel,cs,x,sh,h,hs=>by
  unfold B2b at hs;split at hs
  ·rename_i ht;cases hs;obtain ⟨b,rfl,_⟩:=DataW.trod_bool ht h;exact ⟨[.b b],⟨rfl,trivial⟩,⟨trivial,trivial⟩⟩
  ·rename_i k ht;cases hs;obtain ⟨m,rfl,_,hw⟩:=DataW.trod_int ht h;simp only [Lit.wf,E69,decide_eq_true_eq] at hw;exact ⟨[.i k m],⟨rfl,trivial⟩,⟨⟨rfl,hw⟩,trivial⟩⟩
  ·rename_i ht;cases hs;obtain ⟨s,rfl,_,hw⟩:=DataW.trod_string ht h;exact ⟨[.s s.data.toList],⟨by show Value.string s=.string ⟨s.data.toList.toArray⟩;simp,trivial⟩,⟨by show s.data.toList.length<=maxLen;simpa using hw,trivial⟩⟩
  ·rename_i fs ht;simp only [E67] at hs;obtain ⟨l,hl,hs⟩:=hs;split at hs
   ·rename_i hlen;cases hs;obtain ⟨xs,m,_,_,xY,hxl,hf⟩:=DataW.trod_struct ht h;have key:∀ (r:List Field) (off:Nat) (l:List Sh),xV P (B2b P n) r off=A4 l->(∀ f∈r,∃ y,DataW.trod enc P w base spare held m f.type ((cs.drop f.offset).take (P.cellsOf f.type))=A4 y) ->
      ∃ cells,All2 (RC μ) cells ((cs.drop off).take l.length)/\All2 okCell l cells:=by
     intro r
     induction r with
     | nil=>intro off l hl _;simp only [xV,Option.some.injEq] at hl;subst hl;exact ⟨[],by simp,trivial⟩
     | cons f r ih =>
      intro off l hl oD;simp only [xV] at hl;split at hl
      ·rename_i ho;simp only [E67] at hl;obtain ⟨lf,hlf,hl⟩:=hl;split at hl
       ·rename_i hc;simp only [E7q] at hl;obtain ⟨lr,hlr,rfl⟩:=hl;obtain ⟨y,hy⟩:=oD f (by simp);obtain ⟨c1,g1,g2⟩:=B1U μ n hy hlf;obtain ⟨c2,g3,g4⟩:=ih (off+lf.length) lr hlr λf' hf'=>oD f' (by simp [hf'])
        refine ⟨c1++c2,?_,g2.append g4⟩;have e:(cs.drop off).take (lf++lr).length=(cs.drop off).take lf.length++(cs.drop (off+lf.length)).take lr.length:=by
         rw [E7a,List.take_add,E7X]
        rw [e];rw [ho,<-hc] at g1;exact g1.append g3
       ·cases hl
      ·cases hl
    have h1:=key fs.toList 0 _ hl λf hf'=>by
     obtain ⟨i,hi⟩:=List.mem_iff_getElem?.1 hf';have hi2:fs[i]?=A4 f:=by simpa using hi
     rw [hf i f hi2];have:i<fs.size:=(Array.getElem?_eq_some_iff.1 hi2).1;exact ⟨xs[i],E66 (by omega)⟩
    rw [E7p,E7i (by omega)] at h1;exact h1
   ·cases hs
  ·rename_i k e ht;simp only [E67] at hs;obtain ⟨l,hl,hs⟩:=hs;split at hs
   ·rename_i hlen;cases hs;obtain ⟨m,xs,xY,oD⟩:=trod_array ht h;have key:∀ d j,j+d=k->∃ cells,All2 (RC μ) cells (cs.drop (j*l.length))/\All2 okCell (E68 d l).flatten cells:=by
     intro d
     induction d with
     | zero =>
      intro j hj;have:cs.drop (j*l.length)=[]:=E7k (by rw [xY,hlen.2];have:j=k:=(by omega);subst this;exact E7b _);rw [this];exact ⟨[],trivial,trivial⟩
     | succ d ih =>
      intro j hj;obtain ⟨y,hy⟩:=oD j (by omega);obtain ⟨c1,g1,g2⟩:=B1U μ n hy hl;obtain ⟨c2,g3,g4⟩:=ih (j+1) (by omega);refine ⟨c1++c2,?_,?_⟩
      ·rw [<-hlen.1] at g1;have e2:cs.drop (j*l.length)=(cs.drop (j*l.length)).take l.length++cs.drop ((j+1)*l.length):=by
        rw [E78,Nat.one_mul,<-E7X,List.take_append_drop]
       rw [e2];exact g1.append g3
      ·rw [E7z,List.flatten_cons];exact g2.append g4
    have h1:=key k 0 (by omega);simpa using h1
   ·cases hs
  ·cases hs
end
def Mu.set (μ:Mu) (id:Nat) (y:Option (Nat × Nat)):Mu:=λj=>if j=id then y else μ j
theorem Mu.le_set {μ:Mu} {id:Nat} {y:Option (Nat × Nat)} (h:μ id=Option.none):μ.le (μ.set id y):=by
 intro j x hj;unfold Mu.set;by_cases e:j=id
 ·subst e;rw [h] at hj;cases hj
 ·simp [e,hj]
theorem Inv.addRow {W:World} {h:B5} {μ:Mu} (hi:Inv (C7v W) μ h W) (hro:∀ id r,rd h id=A4 r->r.own=A6) {y:Option (Nat × Nat)} {cs:List Cell} (vH:(Row.mk cs A6).own=A6) (hrow:RowOk (μ.set h.length y) W h.length ⟨cs,A6⟩) :
  Inv (C7v W) (μ.set h.length y) (h++[A4 ⟨cs,A6⟩]) W/\∀ id r,rd (h++[A4 ⟨cs,A6⟩]) id=A4 r->r.own=A6:=by
 have hm:μ h.length=Option.none:=hi.dom _ (E7b _);have get:∀ id r,rd (h++[A4 ⟨cs,A6⟩]) id=A4 r->(id<h.length/\rd h id=A4 r)\/(id=h.length/\r=⟨cs,A6⟩):=by
  intro id r hr;by_cases hl:id<h.length
  ·rw [D9 hl] at hr;exact .inl ⟨hl,hr⟩
  ·have V5:=C8 hr;simp at V5;have:id=h.length:=by omega
   subst this;rw [T9] at hr;cases hr;exact .inr ⟨rfl,rfl⟩
 have ro':∀ id r,rd (h++[A4 ⟨cs,A6⟩]) id=A4 r->r.own=A6:=by
  intro id r hr;rcases get id r hr with ⟨_,h1⟩ | ⟨_,rfl⟩
  ·exact hro id r h1
  ·exact vH
 refine ⟨⟨?_,?_,?_,?_,hi.ctx⟩,ro'⟩
 ·intro id r hr;rcases get id r hr with ⟨hl,h1⟩ | ⟨rfl,rfl⟩
  ·exact (hi.rows id r h1).mono (Mu.le_set hm) (by simp [Mu.set];omega) λ_ _=>rfl
  ·exact hrow
 ·intro id bF r r' x x' hr _ hw;rw [ro' id r hr] at hw;cases hw
 ·intro id r x hr hw;rw [ro' id r hr] at hw;cases hw
 ·intro id hl;simp at hl;have:id≠h.length:=by omega
  simp only [Mu.set,this,if_false];exact hi.dom id (by omega)
theorem E02 {μ:Mu} {k:Nat} {cs:List Cell} {vs:List Value} (h:All2 (RC μ) cs vs):(Row.mk (E68 k .dark++cs) A6).own=A6:=by
 cases k with
 | succ k=>rfl
 | zero =>
  cases cs with
  | nil=>rfl
  | cons c cs =>
   cases vs with
   | nil=>exact h.elim
   | cons v vs =>
    have h1:=h.1;cases c<;>first | rfl | exact h1.elim
def Opened (W:World) (μ:Mu) (h:B5):Prop:=Inv (C7v W) μ h W/\∀ id r,rd h id=A4 r->r.own=A6
theorem Opened.nought (W:World):Opened W (λ_=>Option.none) []:=⟨Inv.nought W,λid r h=>by simp [rd] at h⟩
section
variable {H:Type} {enc:TypeId × Value->H} {P:Program} {W:World} {base:Nat} {held:Bool} {t:TypeId}
theorem D9T {W:World} {a:Addr} {C:Array Value} {elem:TypeId} {fz:Nat × Nat} {k:Nat} (hC:W.heap[a.block]?=A4 (.cells C elem fz)) (hs:a.spot=A7):W.cell? (a.add k)=C[a.off+k]? := by
 have h1:(a.add k).block=a.block:=by unfold Addr.add;split<;>rfl
 have h2:(a.add k).spot=A7:=by unfold Addr.add;split<;>simp_all
 have h3:(a.add k).off=a.off+k:=by unfold Addr.add;split<;>simp_all
 unfold World.cell?;rw [h1,hC,h3];simp [h2]
theorem C8y {μ:Mu} {h:B5} (ho:Opened W μ h) {r:Reach} {b0 n:Nat} {e:TypeId} {v:Value} {d:DataW H} {ps:List MemPlace} {sh:List Sh} (ht:P.underlying t=A4 (.slice e)) (hs:B2b P n e=A4 sh) (nC:sh.length=P.cellsOf e) (B50:0<sh.length)
  (C7Y:Value.okWide P W r b0 t v) (hd:DataW.Trod enc P W base (λ_=>A5) held t v d ps) :
  ∃ v' μ' l len cells,μ.le μ'/\Opened W μ' (h++l)/\RV μ' v' v/\Has (h++l) v' sh.length len cells/\All2 okCell (E68 len sh).flatten cells/\len<=maxLen:=by
 obtain ⟨fuel,hf⟩:=hd;have hv:∃ a len cap,v=.slice a len cap:=by
  unfold Value.okWide at C7Y;rw [ht] at C7Y;unfold Cell.okWide at C7Y;rw [ht] at C7Y;cases v<;>simp_all [Cell.ok]
 obtain ⟨a0,len0,cap0,rfl⟩:=hv;have E3T:(Value.slice a0 len0 cap0).cells.toList=[.slice a0 len0 cap0]:=by simp [Value.cells]
 rw [E3T] at hf;rcases Deep.open_slice ht hf with ⟨hc,_⟩ | ⟨a,len,cap,m,k,D,Pl,hc,hb,hl,hm,hmm,hx,hel⟩
 ·simp only [List.cons.injEq,Value.slice.injEq,and_true] at hc;obtain ⟨rfl,rfl,rfl⟩:=hc;exact ⟨.c .ns,μ,[],0,[],Mu.le_refl _,by simpa using ho,rfl,.inl ⟨rfl,rfl,rfl⟩,by simp,Nat.zero_le _⟩
 ·simp only [List.cons.injEq,Value.slice.injEq,and_true] at hc;obtain ⟨rfl,rfl,rfl⟩:=hc;simp only [if_true] at hmm;subst hmm;rw [<-nC] at hel;by_cases hm0:m=0
  ·subst hm0;have:len0=0:=by omega
   subst this;obtain ⟨g1,g2⟩:=Inv.addRow ho.1 ho.2 (y:=Option.none) (cs:=[]) rfl (by unfold RowOk;simp [Mu.set]);exact ⟨.c (.sl h.length 0 0 sh.length),_,[A4 ⟨[],A6⟩],0,[],Mu.le_set (ho.1.dom _ (E7b _)),⟨g1,g2⟩,.inr ⟨rfl,_,rfl⟩,.inr ⟨h.length,0,⟨[],A6⟩,rfl,T9,by simp,by simp,by simp,rfl⟩,by simp,Nat.zero_le _⟩
  ·obtain ⟨cs0,hc0,hr0⟩:=hel 0 (by omega);obtain ⟨_,E6N,E3S⟩:=World.cells?_some hc0;have sS:∃ C elem fz,W.heap[a.block]?=A4 (.cells C elem fz)/\a.spot=A7:=by
    have:=E3S 0 B50;rw [E66 (by omega)] at this;unfold World.cell? at this;have hb0:((a.add (0*sh.length)).add 0)=a:=by simp [Addr.add]
    rw [hb0] at this;split at this
    ·rename_i C elem fz hh;refine ⟨C,elem,fz,hh,?_⟩;split at this
     ·cases this
     ·rename_i hs2;cases hsp:a.spot with
      | none=>rfl
      | some s=>simp [hsp] at hs2
    ·cases this
   obtain ⟨C,elem,fz,hC,hsp⟩:=sS;have ha:a=⟨a.block,a.off,A7⟩:=by cases a;simp_all
   have E0r:∀ i j,i<m->j<sh.length->W.cell? ((a.add (i*sh.length)).add j)=C[a.off+(i*sh.length+j)]? := by
    intro i j _ _;rw [Deep.add_add];exact D9T hC hsp
   have E5n:a.off+m*sh.length<=C.size:=by
    obtain ⟨cs1,hc1,_⟩:=hel (m-1) (by omega);obtain ⟨_,E5f,D6t⟩:=World.cells?_some hc1;have h1:=D6t (sh.length-1) (by omega);rw [E0r _ _ (by omega) (by omega),E66 (by omega)] at h1;have h2:=(Array.getElem?_eq_some_iff.1 h1).1;have e:(m-1)*sh.length+(sh.length-1)+1=m*sh.length:=by
     obtain ⟨q,rfl⟩:∃ q,m=q+1:=⟨m-1,by omega⟩;rw [Nat.add_sub_cancel,E78];omega
    omega
   have key:∀ d j,j+d=len0->∃ cells,All2 (RC μ) cells ((C.toList.drop (a.off+j*sh.length)).take (d*sh.length))/\All2 okCell (E68 d sh).flatten cells:=by
    intro d
    induction d with
    | zero=>intro j _;exact ⟨[],by simp,trivial⟩
    | succ d ih =>
     intro j hj;obtain ⟨cs1,hc1,hr1⟩:=hel j (by omega);obtain ⟨_,E5f,D6t⟩:=World.cells?_some hc1;obtain ⟨c1,g1,g2⟩:=B1U μ n hr1 hs;obtain ⟨c2,g3,g4⟩:=ih (j+1) (by omega);refine ⟨c1++c2,?_,by rw [E7z,List.flatten_cons];exact g2.append g4⟩;have e1:(C.toList.drop (a.off+j*sh.length)).take sh.length=cs1:=by
      refine List.ext_getElem? λi=>?_
      by_cases hi:i<sh.length
      ·rw [E7G hi,E7W,<-D6t i hi,E0r j i (by omega) hi];simp [Nat.add_assoc]
      ·rw [E7L (by simp;omega),E7L (by omega)]
     have e2:(C.toList.drop (a.off+j*sh.length)).take ((d+1)*sh.length)=cs1++(C.toList.drop (a.off+(j+1)*sh.length)).take (d*sh.length):=by
      rw [E78 d 1,Nat.one_mul,Nat.add_comm (d*sh.length),List.take_add,e1,E7X,E78,Nat.one_mul,Nat.add_assoc]
     rw [e2];exact g1.append g3
   obtain ⟨cells,k1,k2⟩:=key len0 0 (by omega);rw [Nat.zero_mul,Nat.add_zero] at k1;have xY:cells.length=len0*sh.length:=by
    have h1:=k1.length;simp at h1;have:len0*sh.length<=m*sh.length:=Nat.mul_le_mul_right _ hl;omega
   have hmul:len0*sh.length<=m*sh.length:=Nat.mul_le_mul_right _ hl;have hm':μ h.length=A7:=ho.1.dom _ (E7b _);obtain ⟨g1,g2⟩:=Inv.addRow ho.1 ho.2 (y:=A4 (a.block,C.size)) (cs:=E68 a.off .dark++cells) (E02 k1) (by
    unfold RowOk;simp only [Mu.set,if_true];refine .inl ⟨C,elem,fz,hC,rfl,?_,λhf=>by cases hf⟩;have e3:C.toList.take (E68 a.off Cell.dark++cells).length=C.toList.take a.off++(C.toList.drop a.off).take (len0*sh.length):=by
     rw [E7a,E7B,List.take_add,xY]
    rw [e3];refine All2.append ?_ (k1.mono λc V hc=>.inl (hc.mono (Mu.le_set hm')));refine All2.of_get (by simp;omega) λi c V hc hV=>.inr ⟨rfl,?_⟩
    have:=E7y hc;rw [List.mem_replicate] at this;rw [this.2];rfl)
   refine ⟨.c (.sl h.length a.off len0 sh.length),_,[A4 ⟨E68 a.off .dark++cells,A6⟩],len0,cells,Mu.le_set hm',⟨g1,g2⟩,.inl ⟨a.block,C.size,m,by simp [Mu.set],hl,E5n,by rw [<-ha]⟩,.inr ⟨h.length,a.off,_,rfl,T9,xY,?_,?_,(B4j k2).2⟩,k2,by omega⟩
   ·simp [xY]
   ·rw [List.drop_left' (by simp),E7i (by omega)]
end
def E4f (k:IntKind) (n:Int):Prop:=k.min<=n/\n<=k.max
theorem D8z {n:Int}:E4f .u8 n↔0<=n/\n<=255:=Iff.rfl
theorem D5r:∀ {n:Nat} {cells:List Cell},All2 okCell (E68 n (.i .u8)) cells->∃ l:List UInt8,cells=B4 l/\l.length=n
 | 0,[],_=>⟨[],rfl,rfl⟩
 | n+1,c::cs,h=>by
  rw [E7z] at h;obtain ⟨l,rfl,hl⟩:=D5r h.2;have h1:=h.1;cases c with
  | i k m =>
   obtain ⟨rfl,h2⟩:=h1;have h3:=D8z.1 h2;refine ⟨UInt8.ofNat m.toNat::l,?_,by simp [hl]⟩;simp only [B4,E79,List.cons.injEq,Cell.i.injEq,true_and,and_true];rw [UInt8.toNat_ofNat'];omega
  | _=>exact h1.elim
 | 0,_::_,h=>h.elim
 | n+1,[],h=>by rw [E7z] at h;exact h.elim
section
variable {H:Type} {enc:TypeId × Value->H} {P:Program} {W:World} {base:Nat} {spare:Nat->Bool} {held:Bool} {t:TypeId} {r:Reach} {b0 n:Nat} {v:Value} {d:DataW H} {ps:List MemPlace}
theorem E3F {e:TypeId} {sh:List Sh} {μ:Mu} {h:B5} (ho:Opened W μ h) (C7Y:Value.okWide P W r b0 t v) (hd:DataW.Trod enc P W base (λ_=>A5) held t v d ps) (ht:P.underlying t=A4 (.slice e)) (hs:B2b P n e=A4 sh) (nC:sh.length=P.cellsOf e) (B50:0<sh.length) :
  ∃ v' μ' l len cells,μ.le μ'/\Opened W μ' (h++l)/\RV μ' v' v/\Has (h++l) v' sh.length len cells/\All2 okCell (E68 len sh).flatten cells/\len<=maxLen :=
 C8y ho ht hs nC B50 C7Y hd
end
end Go.Esc
section
namespace Go.Esc
open Go
theorem Has.tr {h:B5} {id sz n:Nat} {cs:List Cell} (hr:rd h id=A4 ⟨cs,A5⟩) (hl:cs.length=n*sz) (hx:noX cs=A5):Has h (.c (.sl id 0 n sz)) sz n cs:=Has.row hr hl hx
theorem Has.since {g h:B5} {v:Val} {sz n:Nat} {cs:List Cell} (hv:Has g v sz n cs) (h1:Low g.length g h):Has h v sz n cs:=by
 rcases hv with hv | ⟨id,off,r,rfl,hr,h2⟩
 ·exact .inl hv
 ·exact .inr ⟨id,off,r,rfl,by rw [h1.2.2 id (C8 hr)];exact hr,h2⟩
theorem Low.rd {g h:B5} (h1:Low g.length g h) {id:Nat} {r:Row} (hr:rd g id=A4 r):rd h id=A4 r:=by
 rw [h1.2.2 id (C8 hr)];exact hr
theorem push {g h:B5} {id n sz:Nat} {cs ys:List Cell} (hlow:Low g.length g h) (hr:rd h id=A4 ⟨cs,A5⟩) (hl:cs.length=n*sz) (hb:g.length<=id) (hy:ys.length=sz) (hsz:0<sz) (hn:n+1<=1073741824) :
  ∃ h',jZ (h++[A4 ⟨ys,A5⟩]) sz (.c (.sl id 0 n sz)) (.c (.sl h.length 0 1 sz))=A4 (.c (.sl (h.length+1) 0 (n+1) sz),h')/\rd h' (h.length+1)=A4 ⟨cs++ys,A5⟩/\Low g.length g h'/\g.length<=h.length+1/\(cs++ys).length=(n+1)*sz:=by
 have V5:=C8 hr;have h1:rd (h++[A4 ⟨ys,A5⟩]) id=A4 ⟨cs,A5⟩:=C5 hr;have h2:P8 (h++[A4 ⟨ys,A5⟩]) sz (.c (.sl h.length 0 1 sz))=A4 ys:=by
  have:=(Has.row (h:=h++[A4 ⟨ys,A5⟩]) (id:=h.length) (sz:=sz) (n:=1) (cs:=ys) (rw:=A5) (by simp) (by omega));simp [P8,iE,hy,E7i (Nat.le_of_eq hy)]
 refine ⟨(h++[A4 (Row.mk ys A5)]).set id A7++[A4 (Row.mk (cs++ys) A5)],?_,?_,((hlow.new _).set hb A7).new _,by have:=hlow.2.1;omega,by simp [hl,hy,E78]⟩
 ·simp only [jZ,h2,h1,E7h,hy,Nat.div_self hsz];rw [if_pos ⟨trivial,trivial,hl.symm,trivial,hn⟩];simp
 ·have:=T9 (h:=(h++[A4 (Row.mk ys A5)]).set id A7) (r:=Row.mk (cs++ys) A5);rw [E7D] at this;simpa using this
def ldN (r:Option Row) (off n:Nat):Option Val:=r.bind λr=>if off+n<=r.cells.length/\(r.rw||noX ((r.cells.drop off).take n))=A5 then A4 (.a ((r.cells.drop off).take n)) else A7
def ld1 (r:Option Row) (off:Nat):Option Val:=r.bind λr=>(r.cells[off]?).bind λc=>bif r.rw || !c.isX then A4 (.c c) else A7
def stN (r:Option Row) (off n:Nat) (xs:List Cell):Option Row:=r.bind λr=>if r.rw=A5/\xs.length=n/\off+n<=r.cells.length then A4 ⟨lay r.cells off xs,A5⟩ else A7
def st1 (r:Option Row) (off:Nat) (x:Cell):Option Row:=r.bind λr=>if r.rw=A5/\off<r.cells.length then A4 ⟨r.cells.set off x,A5⟩ else A7
def slr (r:Option Row) (id off n sz:Nat):Option Val:=r.bind λr=>if off+n*sz<=r.cells.length/\(r.rw=A5\/Option.any (λc=>!c.isX) r.cells[off]?=A5) then A4 (.c (.sl id off n sz)) else A7
section
variable {h:B5} {l:List (Option Row)} {k off n sz:Nat} {cs xs:List Cell} {x:Cell} {kd:IntKind}
theorem bL:D4 (h++l) n (.c (.p (h.length+k) off))=ldN (l[k]?).join off n:=by simp [D4,ldN]
theorem Q9:D4 (h++l) n (.c (.p h.length off))=ldN (l[0]?).join off n:=by simp [D4,ldN]
theorem fE:B8 (h++l) (.c (.p (h.length+k) off))=ld1 (l[k]?).join off:=by simp [B8,ld1]
theorem T7:B8 (h++l) (.c (.p h.length off))=ld1 (l[0]?).join off:=by simp [B8,ld1]
theorem V1:E6 (h++l) n (.c (.p (h.length+k) off)) (.a xs)=mp (stN (l[k]?).join off n xs) λr=>h++l.set k (A4 r):=by
 simp only [E6,stN,L5];cases (l[k]?).join with
 | none=>rfl
 | some r=>simp only [E7h];split<;>simp [mp]
theorem L7:E6 (h++l) n (.c (.p h.length off)) (.a xs)=mp (stN (l[0]?).join off n xs) λr=>h++l.set 0 (A4 r):=V1 (k:=0)
theorem uW:I3 (h++l) (.c (.p (h.length+k) off)) (.c x)=mp (st1 (l[k]?).join off x) λr=>h++l.set k (A4 r):=by
 simp only [I3,st1,L5];cases (l[k]?).join with
 | none=>rfl
 | some r=>simp only [E7h];split<;>simp [mp]
theorem B0U:I3 (h++l) (.c (.p h.length off)) (.c x)=mp (st1 (l[0]?).join off x) λr=>h++l.set 0 (A4 r):=uW (k:=0)
theorem D7m:B0T (h++l) n sz (.c (.p (h.length+k) off)) A7 A7=slr (l[k]?).join (h.length+k) off n sz:=by
 simp [B0T,slr,bound]
theorem D9K:B0T (h++l) n sz (.c (.p h.length off)) A7 A7=slr (l[0]?).join h.length off n sz:=D7m (k:=0)
theorem jY (hl:cs.length=n):ldN (A4 ⟨cs,A5⟩) 0 n=A4 (.a cs):=by
 subst hl;simp [ldN]
theorem A3a:ld1 (A4 ⟨cs,A5⟩) off=(cs[off]?).map .c:=by
 simp only [ld1,E7h,Bool.true_or,cond_true];cases cs[off]?<;>rfl
theorem nL (hl:cs.length=n) (hx:xs.length=n):stN (A4 ⟨cs,A5⟩) 0 n xs=A4 ⟨xs,A5⟩:=by
 simp only [stN,E7h];rw [if_pos ⟨trivial,hx,by omega⟩,lay_all (by omega)]
theorem C4S (ho:off<cs.length):st1 (A4 ⟨cs,A5⟩) off x=A4 ⟨cs.set off x,A5⟩:=by
 simp only [st1,E7h];rw [if_pos ⟨trivial,ho⟩]
theorem E23 (hl:cs.length=n) {id:Nat}:slr (A4 ⟨cs,A5⟩) id 0 n 1=A4 (.c (.sl id 0 n 1)):=by
 simp only [slr,E7h];rw [if_pos ⟨by show 0+n*1<=cs.length;omega,.inl trivial⟩]
end
section
variable {k:IntKind} {a b:Int}
theorem B7R {k':IntKind} (hb:0<=b):O4 .shl (.c (.i k a)) (.c (.i k' b))=A4 (.c (.i k (k.wrap (a*2 ^ (Nat.min b.toNat k.bits))))):=by
 simp only [O4,E4g];rw [if_neg (by omega)];rfl
theorem C6X {k':IntKind} (hb:0<=b):O4 .shr (.c (.i k a)) (.c (.i k' b))=A4 (.c (.i k (a/(2 ^ (Nat.min b.toNat k.bits))))):=by
 simp only [O4,E4h];rw [if_neg (by omega),Int.fdiv_eq_ediv_of_nonneg _ (Int.pow_nonneg (by omega))];rfl
end
theorem E4v {a b:Nat} (ha:a<18446744073709551616) (hb:b<18446744073709551616):O4 .or (.c (.i .u64 a)) (.c (.i .u64 b))=A4 (.c (.i .u64 ((a ||| b:Nat):Int))):=by
 rw [D2M]
 congr 3
 have h1:(IntKind.u64).bits=64:=rfl;have h2:(a ||| b)<2 ^ 64:=Nat.or_lt_two_pow (by simpa using ha) (by simpa using hb);rw [h1];simp only [BitVec.ofInt_natCast,BitVec.toNat_or,BitVec.toNat_ofNat];rw [E7Y (by simpa using ha),E7Y (by simpa using hb)];exact wrap_u64 (by omega) (by omega)
theorem E4u {a b:Nat} (ha:a<9223372036854775808) (hb:b<9223372036854775808):O4 .or (.c (.i .i64 a)) (.c (.i .i64 b))=A4 (.c (.i .i64 ((a ||| b:Nat):Int))):=by
 rw [D2M]
 congr 3
 have h1:(IntKind.i64).bits=64:=rfl;have h2:(a ||| b)<2 ^ 63:=Nat.or_lt_two_pow (by simpa using ha) (by simpa using hb);rw [h1];simp only [BitVec.ofInt_natCast,BitVec.toNat_or,BitVec.toNat_ofNat];rw [E7Y (by omega),E7Y (by omega)];exact wrap_i64 (by omega) (by omega)
theorem E3d {a b:Nat} (ha:a<4294967296) (hb:b<4294967296):O4 .xor (.c (.i .u32 a)) (.c (.i .u32 b))=A4 (.c (.i .u32 ((a ^^^ b:Nat):Int))):=by
 rw [D4a]
 congr 3
 have h1:(IntKind.u32).bits=32:=rfl;have h2:(a ^^^ b)<2 ^ 32:=Nat.xor_lt_two_pow (by simpa using ha) (by simpa using hb);rw [h1];simp only [BitVec.ofInt_natCast,BitVec.toNat_xor,BitVec.toNat_ofNat];rw [E7Y (by omega),E7Y (by omega)];exact wrap_u32 (by omega) (by omega)
theorem E1T {a b:Nat} (ha:a<4294967296) (hb:b<4294967296):O4 .and (.c (.i .u32 a)) (.c (.i .u32 b))=A4 (.c (.i .u32 ((a &&& b:Nat):Int))):=by
 rw [D36]
 congr 3
 have h1:(IntKind.u32).bits=32:=rfl;have h2:(a &&& b)<=a:=Nat.and_le_left;rw [h1];simp only [BitVec.ofInt_natCast,BitVec.toNat_and,BitVec.toNat_ofNat];rw [E7Y (by omega),E7Y (by omega)];exact wrap_u32 (by omega) (by omega)
theorem qD {a:Int}:IntKind.wrap .u8 a=a%256:=by
 simp only [IntKind.wrap,IntKind.bits,IntKind.signed,E7f];rfl
theorem E4t {a b i:Nat} (ha:a<2 ^ i):(a ||| b*2 ^ i)=a+b*2 ^ i:=by
 rw [Nat.mul_comm b,Nat.or_comm,<-Nat.two_pow_add_eq_or_of_lt ha];omega
theorem A1Y {a b:Nat} (h:a+b<9223372036854775808):IntKind.wrap .i64 ((a:Int)+b)=((a+b:Nat):Int):=by rw [wrap_i64 (by omega) (by omega)];omega
theorem D3 {a:Nat} (h:a+1<9223372036854775808):IntKind.wrap .i64 ((a:Int)+1)=((a+1:Nat):Int):=by rw [wrap_i64 (by omega) (by omega)];omega
theorem D5N {k:IntKind} {x:UInt8} {i:Nat} (hi:i<8) (hk:IntKind.wrap k ((x.toNat*256 ^ i:Nat):Int)=((x.toNat*256 ^ i:Nat):Int)) (hb:k.bits=64) :
  O4 .shl (.c (.i k x.toNat)) (.c (.i .u64 (8*(i:Int))))=A4 (.c (.i k ((x.toNat*256 ^ i:Nat):Int))):=by
 rw [B7R (by omega),hb];have:Nat.min (8*(i:Int)).toNat 64=8*i:=by
  have:(8*(i:Int)).toNat=8*i:=by omega
  rw [this];exact E73 (by omega)
 rw [this];have hp:(256:Nat) ^ i=2 ^ (8*i):=by rw [Nat.pow_mul]
 have e:(x.toNat:Int)*2 ^ (8*i)=((x.toNat*256 ^ i:Nat):Int):=by rw [hp];simp
 rw [e,hk]
theorem vN {i n:Nat} (h:i<=n):256 ^ i<=256 ^ n:=Nat.pow_le_pow_right (by omega) h
theorem C2A {x:UInt8} {i n:Nat} (h:i<n):x.toNat*256 ^ i<256 ^ n:=by
 have h1:=x.toNat_lt;have h2:x.toNat*256 ^ i<=255*256 ^ i:=Nat.mul_le_mul_right _ (by omega);have h3:256 ^ (i+1)<=256 ^ n:=vN h;have h4:0<256 ^ i:=Nat.pow_pos (by omega);rw [Nat.pow_succ] at h3;omega
def byI (v:Int) (i:Nat):UInt8:=UInt8.ofNat ((v/256 ^ i)%256).toNat
theorem A0p (v:Int) (i:Nat):((byI v i).toNat:Int)=v/256 ^ i%256:=by
 have h1:0<=v/256 ^ i%256:=Int.emod_nonneg _ (by omega);have h2:v/256 ^ i%256<256:=Int.emod_lt_of_pos _ (by omega);unfold byI;rw [UInt8.toNat_ofNat'];omega
def B9 (w:Nat) (v:Int):List UInt8:=(E7C w).map (byI v)
@[simp] theorem Q5 {w:Nat} {v:Int}:(B9 w v).length=w:=by simp [B9]
theorem A2Q {w:Nat} {v:Int}:B9 (w+1) v=B9 w v++[byI v w]:=by simp [B9,List.range_succ]
def le:List UInt8->Nat
 | []=>0
 | x::r=>x.toNat+256*le r
theorem C23:∀ l:List UInt8,le l<256 ^ l.length
 | []=>by simp [le]
 | x::r=>by
  have h1:=C23 r;have h2:=x.toNat_lt;simp only [le,E7g,Nat.pow_succ];omega
theorem D8H (l m:List UInt8):le (l++m)=le l+256 ^ l.length*le m:=by
 induction l with
 | nil=>simp [le]
 | cons x r ih =>
  simp only [E7E,le,ih,E7g,Nat.pow_succ,Nat.mul_add];rw [Nat.mul_comm (256 ^ r.length) 256,Nat.mul_assoc];omega
theorem D7G (l:List UInt8) (x:UInt8):le (l++[x])=le l+x.toNat*256 ^ l.length:=by
 rw [D8H];simp [le,Nat.mul_comm]
theorem D7M {l:List UInt8} {x:UInt8}:(le l ||| x.toNat*256 ^ l.length)=le (l++[x]):=by
 have hp:(256:Nat) ^ l.length=2 ^ (8*l.length):=by rw [Nat.pow_mul]
 rw [D7G,hp,E4t (by rw [<-hp];exact C23 l)]
theorem D1n {v:Int} {i:Nat} (hi:i<8):IntKind.wrap .u8 (v/2 ^ (Nat.min (8*(i:Int)).toNat 64))=((byI v i).toNat:Int):=by
 have:Nat.min (8*(i:Int)).toNat 64=8*i:=by
  have:(8*(i:Int)).toNat=8*i:=by omega
  rw [this];exact E73 (by omega)
 rw [this,qD,A0p]
 congr 2
 rw [Int.pow_mul];rfl
theorem A4G {α:Type} {l:List α} {a i:Nat} (h:a+i<l.length):(l.drop a).take (i+1)=(l.drop a).take i++[l[a+i]]:=by
 have h2:i<(l.drop a).length:=by simp;omega
 rw [E7n h2];simp
theorem D1N (w:Nat) (v:Int):(le (B9 w v):Int)=v%256 ^ w:=by
 induction w with
 | zero=>simp [B9,le,Int.emod_one]
 | succ w ih =>
  rw [A2Q,D7G];simp only [Q5,Int.natCast_add,Int.natCast_mul,A0p,ih];have h1:(((256:Nat) ^ w:Nat):Int)=(256:Int) ^ w:=by simp
  rw [h1];have hp:(0:Int)<256 ^ w:=Int.pow_pos (by omega);have h2:=Int.mul_ediv_add_emod v (256 ^ w);have h3:=Int.mul_ediv_add_emod (v/256 ^ w) 256;have h4:v%256 ^ w+v/256 ^ w%256*256 ^ w=v-(256 ^ (w+1))*(v/256 ^ w/256):=by
   rw [Int.pow_succ,Int.mul_assoc];have e:256 ^ w*(256*(v/256 ^ w/256))+v/256 ^ w%256*256 ^ w=256 ^ w*(v/256 ^ w):=by
    rw [Int.mul_comm (v/256 ^ w%256),<-Int.mul_add,h3]
   omega
  have h5:v/256 ^ w/256=v/256 ^ (w+1):=by rw [Int.ediv_ediv_of_nonneg (Int.le_of_lt hp),Int.pow_succ]
  rw [h4,h5];have:=Int.mul_ediv_add_emod v (256 ^ (w+1));omega
def J1 (l:List UInt8) (a:Nat) (xs:List UInt8):List UInt8:=l.take a++(xs++l.drop (a+xs.length))
theorem P5 {l xs:List UInt8} {a:Nat} (h:a+xs.length<=l.length):(J1 l a xs).length=l.length:=by
 simp [J1];omega
theorem B8A {l:List UInt8} {a:Nat}:J1 l a []=l:=by simp [J1]
theorem B2y {l xs:List UInt8} {a:Nat} {x:UInt8} (h:a+xs.length<l.length):(J1 l a xs).set (a+xs.length) x=J1 l a (xs++[x]):=by
 unfold J1;have h1:(l.take a).length=a:=by simp;omega
 rw [E7I _ _ (by rw [h1];omega),h1,Nat.add_sub_cancel_left,E7I _ _ (E7b _),E7R,E7c]
 congr 2
 rw [E7d (by omega)];simp [Nat.add_assoc]
theorem E0F {l xs:List UInt8} {a j:Nat} (h:a+xs.length<=l.length):(J1 l a xs)[j]?=if a<=j/\j<a+xs.length then xs[j-a]? else l[j]? := by
 unfold J1;have h1:(l.take a).length=a:=by simp;omega
 by_cases h2:j<a
 ·rw [E7H (by omega),if_neg (by omega),E7G h2]
 ·rw [E7l (by omega),h1];by_cases h3:j<a+xs.length
  ·rw [if_pos ⟨by omega,h3⟩,E7H (by omega)]
  ·rw [if_neg (by omega),E7l (by omega),E7W]
   congr 1;omega
theorem E0E {l xs:List UInt8} {a:Nat} (h:a+xs.length<=l.length):((J1 l a xs).drop a).take xs.length=xs:=by
 unfold J1;have h1:(l.take a).length=a:=by simp;omega
 rw [List.drop_left' h1,List.take_left' rfl]
theorem jX {s:List UInt8} {i:Nat} (hi:i<s.length) {k:IntKind}:C62 (.c (.s s)) (.c (.i k i))=A4 (.c (.i .u8 s[i].toNat)):=by
 rw [E1P,E66 hi];rfl
theorem D7u (l:List UInt8):(B4 l).map Cell.sh=(E68 l.length (Sh.i .u8)).map A4:=by
 induction l with
 | nil=>rfl
 | cons x l ih=>simp only [B4,E79,E7g,E7z] at ih ⊢;rw [ih];rfl
theorem C4M (l:List Int):(encI l).map Cell.sh=(E68 l.length (Sh.i .i64)).map A4:=by
 induction l with
 | nil=>rfl
 | cons x l ih=>simp only [encI,E79,E7g,E7z] at ih ⊢;rw [ih];rfl
theorem D4c {l m:List UInt8} {n:Nat} (hl:l.length=n) (hm:m.length=n):aeq A5 (E68 n (.i .u8)) (.a (B4 l)) (.a (B4 m))=A4 (.c (.b (!decide (l=m)))):=by
 simp only [aeq];rw [if_pos ⟨by rw [D7u,hl],by rw [D7u,hm]⟩];simp [E0h]
theorem D9A {l m:List Int} {n:Nat} (hl:l.length=n) (hm:m.length=n):aeq A5 (E68 n (.i .i64)) (.a (encI l)) (.a (encI m))=A4 (.c (.b (!decide (l=m)))):=by
 simp only [aeq];rw [if_pos ⟨by rw [C4M,hl],by rw [C4M,hm]⟩];simp [D4S]
theorem D54 {l m:List Int} {n:Nat} (hl:l.length=n) (hm:m.length=n):aeq A6 (E68 n (.i .i64)) (.a (encI l)) (.a (encI m))=A4 (.c (.b (decide (l=m)))):=by
 simp only [aeq];rw [if_pos ⟨by rw [C4M,hl],by rw [C4M,hm]⟩];simp [D4S]
theorem E4H {h:B5} {l:List (Option Row)} {k n a b:Nat} {cs:List Cell} (hk:(l[k]?).join=A4 ⟨cs,A5⟩) (hl:cs.length=n) (hab:a<=b) (hb:b<=n) :
  B0T (h++l) n 1 (.c (.p (h.length+k) 0)) (A4 (.c (.i .i64 (a:Int)))) (A4 (.c (.i .i64 (b:Int))))=A4 (.c (.sl (h.length+k) a (b-a) 1)):=by
 simp only [B0T,L5,hk,E7h,bound];rw [if_pos (by omega),if_pos (by omega)];simp only [E7h,E7r];rw [if_pos ⟨hab,hb,by omega,rfl⟩];simp
theorem Has.part {h:B5} {id sz off n:Nat} {cs xs:List Cell} {rw:Bool} (hr:rd h id=A4 ⟨cs,rw⟩) (ho:off+n*sz<=cs.length) (he:(cs.drop off).take (n*sz)=xs) (hx:noX xs=A5):Has h (.c (.sl id off n sz)) sz n xs :=
 .inr ⟨id,off,_,rfl,hr,by rw [<-he];simp;omega,ho,he,hx⟩
theorem E4J {id off n sz a b:Nat} (hab:a<=b) (hb:b<=n):D4q sz (.c (.sl id off n sz)) (A4 (.c (.i .i64 (a:Int)))) (A4 (.c (.i .i64 (b:Int))))=A4 (.c (.sl id (off+a*sz) (b-a) sz)):=by
 simp only [D4q,bound];rw [if_pos (by omega),if_pos (by omega)];simp only [E7h,E7r];rw [if_pos ⟨hab,hb,trivial⟩]
def B8G:Option Row->Bool
 | some r=>r.own
 | none=>A5
theorem C8k {cs:List Cell}:B8G (A4 ⟨cs,A5⟩)=A5:=rfl
theorem D8S {es:W9}:B8G (A4 (T1 es))=A5:=Row.own_mrow es
theorem D11 {g l l':B5} {v:Val} (hp:l <+: l') (hn:(l'.drop l.length).all B8G=A5):quiet (g++l) (A4 (v,g++l'))=A4 (v,g++l'):=by
 obtain ⟨t,rfl⟩:=hp;rw [List.drop_left] at hn;refine U3 ⟨⟨t,by rw [E7c]⟩,λid x hid hx=>?_⟩;have hx:=rd_some.1 hx;rw [<-E7c,E7l hid] at hx;exact List.all_eq_true.1 hn _ (E7y hx)
theorem D4d {id o off:Nat}:rU (.c (.p id o)) off=A4 (.c (.p id (o+off))):=Eq.trans rfl rfl
theorem A8R {a b:Int} {k:IntKind} (ha:0<=a) (hb:0<b):O4 .rem (.c (.i k a)) (.c (.i k b))=A4 (.c (.i k (a%b))):=by
 rw [D39 (by omega),Int.tmod_eq_emod_of_nonneg ha]
theorem A0C {a b:Int} (ha:0<=a) (ha2:a<9223372036854775808) (hb:0<b):O4 .quo (.c (.i .i64 a)) (.c (.i .i64 b))=A4 (.c (.i .i64 (a/b))):=by
 have h1:0<=a/b:=Int.ediv_nonneg ha (by omega);have h2:a/b<=a:=Int.ediv_le_self _ ha;rw [D38 (by omega),Int.tdiv_eq_ediv_of_nonneg ha,wrap_i64 (by omega) (by omega)]
theorem kN {h:B5} {id jd n m sz:Nat} {cs ys:List Cell} {rw:Bool} (hr:rd h id=A4 ⟨cs,A5⟩) (hl:cs.length=n*sz) (hy:rd h jd=A4 ⟨ys,rw⟩) (hyl:ys.length=m*sz) (hx:(rw||noX ys)=A5) (hsz:0<sz) (hn:n+m<=1073741824) :
  jZ h sz (.c (.sl id 0 n sz)) (.c (.sl jd 0 m sz))=A4 (.c (.sl h.length 0 (n+m) sz),h.set id A7++[A4 ⟨cs++ys,A5⟩]):=by
 have h2:P8 h sz (.c (.sl jd 0 m sz))=A4 ys:=by
  simp only [P8,if_true,iE,hy,E7h,E7p,E7t];rw [<-hyl,List.take_length,if_pos ⟨E7b _,hx⟩]
 have hd:ys.length/sz=m:=by rw [hyl];exact Nat.mul_div_cancel m hsz
 simp only [jZ,h2,hr,E7h,hd];rw [if_pos ⟨trivial,trivial,hl.symm,trivial,hn⟩]
theorem D7P {g h:B5} {id n m sz:Nat} {cs ys:List Cell} (hlow:Low g.length g h) (hr:rd h id=A4 ⟨cs,A5⟩) (hl:cs.length=n*sz) (hb:g.length<=id) (hy:ys.length=m*sz) (hsz:0<sz) (hn:n+m<=1073741824) :
  ∃ h',jZ (h++[A4 ⟨ys,A5⟩]) sz (.c (.sl id 0 n sz)) (.c (.sl h.length 0 m sz))=A4 (.c (.sl (h.length+1) 0 (n+m) sz),h')/\rd h' (h.length+1)=A4 ⟨cs++ys,A5⟩/\Low g.length g h'/\g.length<=h.length+1/\(cs++ys).length=(n+m)*sz:=by
 have V5:=C8 hr;refine ⟨(h++[A4 (Row.mk ys A5)]).set id A7++[A4 (Row.mk (cs++ys) A5)],?_,?_,((hlow.new _).set hb A7).new _,by have:=hlow.2.1;omega,by simp [hl,hy,E78]⟩
 ·rw [kN (h:=h++[A4 ⟨ys,A5⟩]) (C5 hr) hl T9 hy rfl hsz hn];simp
 ·have:=T9 (h:=(h++[A4 (Row.mk ys A5)]).set id A7) (r:=Row.mk (cs++ys) A5);rw [E7D] at this;simpa using this
theorem E5w {g h:B5} {id n m:Nat} {cs:List Cell} (hlow:Low g.length g h) (hr:rd h id=A4 ⟨cs,A5⟩) (hl:cs.length=n) (hb:g.length<=id) (hn:n+m<=1073741824) :
  ∃ h',B7Q h 1 [.i .u8 0] (.c (.sl id 0 n 1)) (.c (.i .i64 (m:Int)))=A4 (.c (.sl h.length 0 (n+m) 1),h')/\rd h' h.length=A4 ⟨cs++B4 (zeros m),A5⟩/\Low g.length g h'/\g.length<=h.length:=by
 have V5:=C8 hr;have hm:A5P (.c (.i .i64 (m:Int)))=A4 m:=by simp only [A5P];rw [if_pos (by omega)];simp
 have hz:rows [Cell.i .u8 0] m=B4 (zeros m):=by
  unfold rows zeros
  clear hm hn
  induction m with
  | zero=>rfl
  | succ n ih=>rw [E7z,List.flatten_cons,ih,E7z];rfl
 refine ⟨h.set id A7++[A4 (Row.mk (cs++B4 (zeros m)) A5)],?_,?_,(hlow.set hb A7).new _,by have:=hlow.2.1;omega⟩
 ·simp only [B7Q,hm,E7h,hr,hz];rw [if_pos ⟨trivial,trivial,by omega,trivial,hn⟩]
 ·have:=T9 (h:=h.set id A7) (r:=Row.mk (cs++B4 (zeros m)) A5);rw [E7D] at this;exact this
end Go.Esc
end
namespace Go.Esc
def esc:=And.intro @D4d (And.intro @List.append_nil.{0} (And.intro @if_true.{1} (And.intro @if_false.{1} (And.intro @P9 (And.intro @E2v (And.intro @D7r (And.intro @C7s (And.intro @E40 (And.intro @E42 (And.intro @E41 (And.intro @E4Z (And.intro @E3j (And.intro @E1Q (And.intro @C4I (And.intro @E1R (And.intro @A1v (And.intro @D9y (And.intro @D9x (And.intro @xM (And.intro @D37 (And.intro @A1w (And.intro @D9w (And.intro @D9v (And.intro @C6W (And.intro @C0M (And.intro @D8a (And.intro @D79 (And.intro @E12 (And.intro @E11 (And.intro @D9D (And.intro @E1N (And.intro @E3B (And.intro @E1O (And.intro @E3C (And.intro @E1U (And.intro @E3A (And.intro @E3z (And.intro @E1L (And.intro @D7l (And.intro @cond_true.{1} (And.intro @cond_false.{1} (And.intro @decide_true (And.intro @decide_false (And.intro @Bool.not_true (And.intro @Bool.not_false (And.intro @D9B (And.intro @D5q (And.intro @D5p (And.intro @E2z (And.intro @D7O (And.intro @D4A (And.intro @B00 (And.intro @E4O (And.intro @E4P (And.intro @Option.map_some.{0,0} (And.intro @Option.some.injEq.{0} (And.intro @List.getElem?_cons_zero.{0} (And.intro @List.getElem?_cons_succ.{0} (And.intro @not_true_eq_false (And.intro @not_false_eq_true (And.intro @C8K (And.intro @Q5 (And.intro @Option.join_some.{0} (And.intro @List.append_assoc.{0} (And.intro @List.cons_append.{0} (And.intro @List.nil_append.{0} (And.intro @List.length_append.{0} (And.intro @List.length_cons.{0} (And.intro @List.length_nil.{0} (And.intro @Nat.zero_add (And.intro @Nat.add_zero (And.intro @L5 (And.intro @E9 (And.intro @pA (And.intro @V6 (And.intro @List.set_cons_zero.{0} (And.intro @List.set_cons_succ.{0} (And.intro @ne_eq.{1} (And.intro @decide_not (And.intro @D11 (And.intro @C8k (And.intro @List.cons_prefix_cons.{0} (And.intro @List.nil_prefix.{0} (And.intro @List.drop_succ_cons.{0} (And.intro @List.drop_zero.{0} (And.intro @List.all_cons.{0} (And.intro @List.all_nil.{0} (And.intro @Bool.and_true (And.intro @true_and (@and_true))))))))))))))))))))))))))))))))))))))))))))))))))))))))))))))))))))))))))))))))))))))))))
def esh:=And.intro @bL (And.intro @Q9 (And.intro @fE (And.intro @T7 (And.intro @V1 (And.intro @L7 (And.intro @uW (And.intro @B0U (And.intro @D7m (And.intro @D9K (And.intro @jY (And.intro @A3a (And.intro @nL (And.intro @C4S (@E23))))))))))))))
end Go.Esc
namespace Go.Esc
@[match_pattern] abbrev iV (x:Int):Val:=.c (.i .i64 x)
@[match_pattern] abbrev pV (a b:Nat):Val:=.c (.p a b)
@[match_pattern] abbrev sV (a b c d:Nat):Val:=.c (.sl a b c d)
@[match_pattern] abbrev bV (x:Bool):Val:=.c (.b x)
@[match_pattern] abbrev rT (l:List Cell):Option Row:=some (Row.mk l true)
@[match_pattern] abbrev o0:Cell:=.i .i64 0
abbrev gS (g:Val) (w:Bool) (h:B5) (o:Option Val):Option (Val × B5):=gd g w (bnd o λa=>A4 (a,h)) (A4 (.no,h))
abbrev gV (g:Val) (w:Bool) (h:B5) (x:Val):Option (Val × B5):=gd g w (A4 (x,h)) (A4 (.no,h))
end Go.Esc
section
namespace Go.Proofs.YtbnkgnfhgbhblaaGreat
open Go Go.Esc
abbrev Dev:=List (List UInt8)
def D5 (D:Dev):List Cell:=(D.map B4).flatten
def okD (D:Dev):Prop:=∀ b∈D,b.length=256
theorem okD.cons {b:List UInt8} {D:Dev} (h:okD (b::D)):b.length=256/\okD D:=⟨h b (E7u ..),λx hx=>h x (E7s _ hx)⟩
theorem okD.at {D:Dev} (h:okD D) {i:Nat} (hi:i<D.length):D[i].length=256:=h _ (E7J hi)
theorem okD.take {D:Dev} (h:okD D) (i:Nat):okD (D.take i):=λb hb=>h b (List.mem_of_mem_take hb)
theorem bD {b:List UInt8} {D:Dev}:D5 (b::D)=B4 b++D5 D:=rfl
theorem C94 {D E:Dev}:D5 (D++E)=D5 D++D5 E:=by simp [D5]
theorem D6e {b:List UInt8}:D5 [b]=B4 b:=by simp [D5]
theorem J0:∀ {D:Dev},okD D->(D5 D).length=D.length*256
 | [],_=>rfl
 | b::D,h=>by
  rw [bD,E7a,A9,h.cons.1,J0 h.cons.2,E7g];omega
theorem dX:∀ (D:Dev),noX (D5 D)=A5
 | []=>rfl
 | b::D=>by
  rw [bD];have h1:=F9 b;have h2:=dX D;simp only [noX,List.all_append,E69] at h1 h2 ⊢;exact ⟨h1,h2⟩
theorem gY:∀ {D:Dev},N8 (D5 D)=A5
 | []=>rfl
 | b::D=>by rw [bD,sF,gY,C7K];rfl
theorem cV:∀ {D:Dev} {i:Nat} (h:okD D) (hi:i<D.length),((D5 D).drop (i*256)).take 256=B4 D[i]
 | b::D,0,h,hi=>by
  have hb:(B4 b).length=256:=by rw [A9,h.cons.1]
  rw [bD,Nat.zero_mul,E7p,<-hb,List.take_left']
  ·rfl
  ·rfl
 | b::D,i+1,h,hi=>by
  have hb:(B4 b).length=256:=by rw [A9,h.cons.1]
  have e:(i+1)*256=256+i*256:=by omega
  rw [bD,e,<-E7X,<-hb,List.drop_left',hb]
  ·exact cV h.cons.2 (by simpa using hi)
  ·rfl
theorem D7F:∀ {D:Dev} {i:Nat} {b:List UInt8} (h:okD D) (hb:b.length=256) (hi:i<D.length),lay (D5 D) (i*256) (B4 b)=D5 (D.set i b)
 | c::D,0,b,h,hb,hi=>by
  have e:(B4 c).length=256+0:=by rw [A9,h.cons.1]
  unfold lay;rw [bD,E7T,bD,Nat.zero_mul,A9,hb,E7t,E76,List.drop_left' (by rw [A9,h.cons.1])];rfl
 | c::D,i+1,b,h,hb,hi=>by
  have ih:=D7F (i:=i) h.cons.2 hb (by simpa using hi);have hc:(B4 c).length=256:=by rw [A9,h.cons.1]
  unfold lay at ih ⊢;rw [bD,E7U,bD,show (i+1)*256=256+i*256 by omega,List.take_append,List.drop_append,E7i (by omega),E7k (by omega),hc,show 256+i*256-256=i*256 by omega,show 256+i*256+(B4 b).length-256=i*256+(B4 b).length by omega,<-ih];simp only [E7c,E7m]
theorem D5I (n:Nat):rows (E68 256 (Cell.i .u8 0)) n=D5 (E68 n (zeros 256)):=by
 rw [I7];unfold rows D5;rw [List.map_replicate]
theorem C1f (n:Nat):okD (E68 n (zeros 256)):=λb hb=>by rw [List.eq_of_mem_replicate hb];exact zeros_length
theorem okD.set {D:Dev} (h:okD D) {i:Nat} {b:List UInt8} (hb:b.length=256):okD (D.set i b):=λx hx=>by
 rcases E7O hx with hx | rfl
 ·exact h x hx
 ·exact hb
theorem A50 {h:B5} {id i:Nat} {D:Dev} {b:List UInt8} (hr:rd h id=rT (D5 D)) (hD:okD D) (hb:b.length=256) (hi:i<D.length) :
  E6 h 256 (pV id (i*256)) (.a (B4 b))=A4 (h.set id (rT (D5 (D.set i b)))):=by
 rw [B2I hr (by rw [A9,hb]) (by rw [J0 hD];omega),D7F hD hb hi]
def blk (D:Dev) (i:Int):List UInt8:=if 0<=i then D.getD i.toNat (zeros 256) else zeros 256
theorem O5 {D:Dev} (h:okD D) {i:Int}:(blk D i).length=256:=by
 unfold blk;split
 ·rw [E7e];rcases Nat.lt_or_ge i.toNat D.length with hl | hl
  ·rw [E66 hl];exact h.at hl
  ·rw [E7L hl];exact zeros_length
 ·exact zeros_length
theorem C0R {D:Dev} {i:Nat} (hi:i<D.length):blk D (i:Int)=D[i]:=by
 unfold blk;rw [if_pos (by omega),E7r,E7e,E66 hi];rfl
theorem D4x {D:Dev} {i:Int} (hi:i<0\/(D.length:Int)<=i):blk D i=zeros 256:=by
 unfold blk;split
 ·rw [E7e,E7L (by omega)];rfl
 ·rfl
theorem E4s:∀ (n:Nat) (cells:List Cell),All2 okCell ((E68 n (E68 256 (Sh.i .u8))).flatten) cells->∃ D:Dev,okD D/\cells=D5 D/\D.length=n:=by
 intro n
 induction n with
 | zero =>
  intro cells h;cases cells with
  | nil=>exact ⟨[],λ_ h=>by simp at h,rfl,rfl⟩
  | cons c cs=>simp [All2] at h
 | succ n ih =>
  intro cells h;rw [E7z,List.flatten_cons] at h;have h1:=All2.take 256 h;have h2:=All2.drop 256 h;rw [List.take_left' E7B] at h1;rw [List.drop_left' E7B] at h2;obtain ⟨b,e1,hb⟩:=D5r h1;obtain ⟨D,hD,e2,hl⟩:=ih _ h2;refine ⟨b::D,?_,by rw [bD,<-e1,<-e2,List.take_append_drop],by rw [E7g,hl]⟩;intro x hx;rcases List.mem_cons.1 hx with rfl | hx
  ·exact hb
  ·exact hD x hx
end Go.Proofs.YtbnkgnfhgbhblaaGreat
end
namespace Go.Esc
def E1J (P:Program) (f:FuncId) (args:List Val) (h:B5) (h':B5):Prop :=
 ∀ (Γ:Ctx) (μ:Mu) (w:World) (V:List Value) (u:FrameMode),Inv Γ μ h w->All2 (RV μ) args V ->
  CallsD P f V.toArray u w λe u' w'=>u'=u/\∃ V' μ',e=.returned V' /\ μ.le μ'/\Inv Γ μ' h' w'/\∀ id,id<h.length -> μ' id = μ id
def D9u (P:Program) (f:FuncId) (S:Fun):Prop:=∀ args h v h2,S args h=A4 (v,h2)->kB P f/\E1J P f args h h2/\h.length<=h2.length
theorem D7I {P:Program} {E:O3} (hE:gD P E) {f:FuncId} {fn:Func} {af:AFn} (hf:P.funcs[f]?=A4 fn) (hc:C7l P fn af=A5):D9u P f (Lim af E):=by
 intro args h v h2 he;obtain ⟨n,hn⟩:=D7d he;obtain ⟨h1,h3,c,hb,hw⟩:=E3i hE hf hc hn;exact ⟨h1,fun Γ μ w V u hi hargs=>(callsD_of_wp hf hb (hw Γ μ w V hi hargs)).mono λe u' w' ⟨hu,V',μ',he,h4,_,h5,h6⟩=>⟨hu,V',μ',he,h4,h5,h6⟩,h3⟩
structure DFn where
 pre:List (List Nat × ACode)
 keep:List Nat
 tm:Nat
 fn:Nat
 caps:List Opd
 body:ACode
 res:List ARes
def B7X (G:Fun) (c:Val) (h:B5):Option (Val × B5):=match c with
 | .c (.f _ caps)=>G (C4K caps) h
 | _=>A7
def DFn.fin (f:DFn) (G:Fun) (c:Val):B2K (Val × B5):=λx e h =>
 match x with
 | .exit _=>A7
 | _=>(B7X G c h).bind λp=>mX f.res e p.2
def DFn.out (f:DFn) (k:Env->B5->Option (Val × B5)):B2K (Val × B5):=λx e h =>
 match x with
 | .normal=>k e h
 | .ret=>mX f.res e h
 | .exit _=>A7
noncomputable def DFn.go (f:DFn) (E:O3) (G:Fun) (n:Nat) (l:List (List Nat × ACode)):Env->B5->Option (Val × B5) :=
 List.rec (motive:=λ_=>Env->B5->Option (Val × B5))
  (λe h=>(B5H f.fn (f.caps.map e.ev)).bind λc=>ax E n f.body (f.fin G c) ((e.put (A4 f.tm) c).keep f.keep) h)
  (λq _ ih e h=>ax E n q.2 (f.out λe h=>ih (e.keep q.1) h) e h) l
theorem DFn.go_nil (f:DFn) (E:O3) (G:Fun) (n:Nat) (e:Env) (h:B5):f.go E G n [] e h=(B5H f.fn (f.caps.map e.ev)).bind λc=>ax E n f.body (f.fin G c) ((e.put (A4 f.tm) c).keep f.keep) h:=rfl
theorem DFn.go_cons (f:DFn) (E:O3) (G:Fun) (n:Nat) (q:List Nat × ACode) (l:List (List Nat × ACode)) (e:Env) (h:B5):f.go E G n (q::l) e h=ax E n q.2 (f.out λe h=>f.go E G n l (e.keep q.1) h) e h:=rfl
noncomputable def DFn.run (f:DFn) (E:O3) (G:Fun) (n:Nat) (args:List Val) (h:B5):Option (Val × B5):=f.go E G n f.pre (params 0 args) h
def D4C (P:Program) (N:Nat) (f:DFn):Code->Bool
 | .region _ ops false=>(match ops.toList with
  | [o1,o2]=>aW P N ops o1 (aO f.tm (.mkf f.fn f.caps))&&decide (o2.dst=A7)&&decide (o2.guard=A7)&&(match o2.op with
   | .defer c=>(match c.callee with | .value (.tmp t)=>decide (t=f.tm)&&c.args.isEmpty | _=>A6)
   | _=>A6)
  | _=>A6)
 | _=>A6
def B03 (P:Program) (N:Nat) (f:DFn):List (List Nat × ACode)->Code->Bool
 | [],c=>(match c with | .seq d y=>D4C P N f d&&Z1 P N y f.body | _=>A6)
 | q::l,c=>(match c with | .seq x y=>Z1 P N x q.2&&B03 P N f l y | _=>A6)
def D9U (P:Program) (fn:Func) (f:DFn):Bool :=
 (match fn.body with | some c => B03 P fn.ntmps f f.pre c | none => false) && bR P fn.results.toList f.res && !(fn.name == "runtime.NumGoroutine")
section
variable {P:Program}
theorem B7T {rs:List ARes} {e:Env} {h h':B5} {v:Val} (hk:mX rs e h=A4 (v,h')):h'=h:=by
 unfold mX at hk;split at hk<;>simp at hk<;>obtain ⟨_,_,_,rfl⟩:=hk<;>rfl
theorem D4N {E:O3} (hE:gD P E) {G:Fun} {f:DFn} (hG:D9u P f.fn G) {fn:Func} (hr:bR P fn.results.toList f.res=A5) {L:Nat} (n:Nat) {v:Val} {h':B5}:∀ (l:List (List Nat × ACode)) (c:Code) (e:Env) (h:B5),
  B03 P fn.ntmps f l c=A5->f.go E G n l e h=A4 (v,h')->L<=h.length ->
  L<=h'.length/\∀ (Γ:Ctx) (μ:Mu) (a:Act) (w:World),Γ.ds=[]->SEnv μ e a->Inv Γ μ h w->fn.ntmps<=a.tmps.size->a.defers=[]->∀ R:Ending->World->Prop,
   (∀ V' μ' w',μ.le μ'->RV μ' v V'->Inv Γ μ' h' w'->(∀ id,id<L -> μ' id = μ id)->R (.returned V') w')->c.wp P (bodyPostD P fn R) a w
 | [],c,e,h,hc,D7,hL=>by
  unfold B03 at hc;split at hc
  ·rename_i d y;rw [E69] at hc;obtain ⟨hd,hy⟩:=hc;rw [DFn.go_nil] at D7;simp only [E67] at D7;obtain ⟨cv,hcv,D7⟩:=D7;have E3U:=hcv;unfold B5H at E3U;rw [E7q] at E3U;obtain ⟨caps,E6L,rfl⟩:=E3U;rw [B7V] at D7;obtain ⟨x,e2,h2,hk,hL2,wS⟩:=D55 (L:=L) hE n f.body y _ _ h (v,h') hy D7 hL;have E6a:(x=.normal\/x=.ret)/\∃ p:Val × B5,G (C4K caps) h2=A4 p/\mX f.res e2 p.2=A4 (v,h'):=by
    unfold DFn.fin at hk;cases x with
    | normal=>exact ⟨.inl rfl,by simpa only [E67,B7X] using hk⟩
    | ret=>exact ⟨.inr rfl,by simpa only [E67,B7X] using hk⟩
    | exit=>cases hk
   obtain ⟨hx,⟨pv,ph⟩,hG1,E3n⟩:=E6a;obtain ⟨E0q,hdc,hlen⟩:=hG _ _ _ _ hG1;have hh':=B7T E3n;dsimp only at hh';subst hh';refine ⟨E7K hL2 hlen,fun Γ μ a w hds hs hi hN had R hR=>?_⟩;unfold D4C at hd;split at hd
   ·rename_i rid ops;split at hd
    ·rename_i o1 o2 E32;simp only [E69,decide_eq_true_eq] at hd;obtain ⟨⟨⟨hd1,hd2⟩,hd3⟩,hd4⟩:=hd;split at hd4
     ·rename_i cl hop;split at hd4
      ·rename_i t D6s;simp only [E69,decide_eq_true_eq] at hd4;obtain ⟨rfl,hargs⟩:=hd4;refine wp_seq (wp_region ?_);have hsz:ops.size=2:=by rw [<-Array.length_toList,E32];rfl
       have g0:ops[0]?=A4 o1:=by rw [<-Array.getElem?_toList,E32];rfl
       have g1:ops[1]?=A4 o2:=by rw [<-Array.getElem?_toList,E32];rfl
       rw [hsz];show wpOps P ops _ [0,1] a w;rw [wpOps_cons];unfold wpOp;rw [g0];have A0x:o1.dst=A4 f.tm/\yW fn.ntmps o1.dst=A5:=by
        simp only [aW,aO,E69,decide_eq_true_eq] at hd1;exact ⟨of_decide_eq_true hd1.1.1.1,hd1.1.1.2⟩
       have htm:f.tm<fn.ntmps:=by
        have:=A0x.2;rw [A0x.1] at this;simpa [yW] using this
       have B8j:X9 E A6 h 0 (aO f.tm (.mkf f.fn f.caps)) e h (λv h=>A4 (v,h))=A4 (.c (.f f.fn caps),h):=by
        unfold X9 aO;simp only [aop,hcv,E7h]
       refine A5a (hr:=h) (n0:=0) hE hd1 B8j hs hi (λ_ _ h=>h) trivial ?_;intro V w1 μ1 cC hv hi1 cG;rw [wpOps_cons];unfold wpOp;rw [g1];have hv0:RC μ1 (.f f.fn caps) V:=hv;have hv2:=hv;obtain ⟨cs,rfl,hcs⟩:=hv2;obtain ⟨a1,ha1⟩:∃ a1,a1=a.put o1.dst (.func (.func f.fn) #[] cs.toArray):=⟨_,rfl⟩;have hs1:SEnv μ1 (e.put (A4 f.tm) (.c (.f f.fn caps))) a1:=by
        rw [ha1,A0x.1];exact (hs.mono cC).put (λt ht=>by cases ht;omega) hv
       have sS:a1.eval (.tmp f.tm)=.func (.func f.fn) #[] cs.toArray:=by
        have:=hs1 f.tm;rw [Env.get_put_same] at this;obtain ⟨cs',h1,h2⟩:=this;show a1.tmps.getD f.tm undef=_;rw [ha1,A0x.1];show (a.put (A4 f.tm) _).tmps.getD f.tm undef=_;simp only [Act.put];rw [Array.getD_eq_getD_getElem?];simp [show f.tm<a.tmps.size by omega]
       rw [<-ha1];obtain ⟨dd,hdd⟩:∃ dd:Deferred,dd={ target:=.fn (.func f.fn) cs.toArray,args:=#[] }:=⟨_,rfl⟩;have A84:(execOp a1.eval o2).run P w1=.ok (.defer dd) w1:=by
        have ea:cl.args = #[]:=by simpa using hargs
        rw [hdd];simp [execOp,hop,resolve,D6s,sS,Deferred.ofValue,ea]
       have hw:Region.wanted o2 (yielded ops a1.tmps)=A5:=by simp [Region.wanted,hd3]
       simp only [hw,if_true]
       left
       unfold Oper.wp;rw [A84,Oper.upon_defer];have E35:∀ b:Act,b.put o2.dst undef=b:=λb=>by rw [hd2];rfl
       rw [E35];have E46:a1.defers=[]:=by rw [ha1,put_defers];exact had
       show y.wp P (bodyPostD P fn R) { a1 with defers:=dd::a1.defers } w1;rw [E46];refine wS { Γ with ds:=[dd] } μ1 { a1 with defers:=[dd] } w1 (SEnv.keep (λt=>hs1 t) f.keep) (hi1.ds [dd]) (by show fn.ntmps<=a1.tmps.size;rw [ha1,Act.size_put];exact hN) rfl _ ?_;intro μ' a' w' k1 k2 k3 k4 k5 k6;have fin:Leaves P fn a'.tmps R a'.defers .returning w':=by
        rw [k6];show Leaves P fn a'.tmps R [dd] .returning w';rw [hdd];have hv3:RC μ' (.f f.fn caps) (.func (.func f.fn) #[] cs.toArray):=RC.mono k1 hv0;obtain ⟨cs2,e3,E58⟩:=hv3;have:cs2=cs:=by
         injection e3 with _ _ e4
         have:=congrArg Array.toList e4;simpa using this.symm
        subst this;refine leaves_cons (by simp) (f:=f.fn) (args:=cs2.toArray) (by
         show (callFunc f.fn (#[]++cs2.toArray)).run P w'=_;rw [Array.empty_append];exact B7Y E0q _ _) ?_
        refine (hdc Γ μ' w' cs2 .returning (k4.ds Γ.ds) (B5N E58)).mono ?_;rintro en u' w2 ⟨rfl,V',μ2,rfl,m1,m2,m3⟩;show Leaves P fn a'.tmps R [] .returning w2;obtain ⟨V2,q1,q2,_⟩:=B5J (a:=a') (w:=w2) (λt=>(k3.mono m1) t) m2 hr E3n;refine ⟨V2,q1,hR V2 μ2 w2 (Mu.le_trans cC (Mu.le_trans k1 m1)) q2 m2 λid hid=>?_⟩;rw [m3 id (by omega),k2 id hid];exact cG id (by omega) (λj hj=>by cases hj)
       rcases hx with rfl | rfl
       ·exact fin
       ·exact fin
      ·cases hd4
     ·cases hd4
    ·cases hd
   ·cases hd
  ·cases hc
 | q::l,c,e,h,hc,D7,hL=>by
  unfold B03 at hc;split at hc
  ·rename_i x y;rw [E69] at hc;rw [DFn.go_cons,B7V] at D7;obtain ⟨x1,e1,h1,hk,hL1,wS⟩:=D55 (L:=L) hE n q.2 x _ e h (v,h') hc.1 D7 hL;cases x1 with
   | normal =>
    obtain ⟨g1,g2⟩:=D4N hE hG hr n l y (e1.keep q.1) h1 hc.2 hk hL1;refine ⟨g1,fun Γ μ a w hds hs hi hN had R hR=>wp_seq (wS Γ μ a w hs hi hN (by rw [hds];exact had) _ ?_)⟩;intro μ1 a1 w1 f1 f2 f3 f4 f5 f6;exact g2 Γ μ1 a1 w1 hds (f3.keep q.1) f4 f5 (by rw [f6,hds]) R λV' μ' w' k2 k3 k4 k5=>hR V' μ' w' (Mu.le_trans f1 k2) k3 k4 λid hid=>(k5 id hid).trans (f2 id hid)
   | ret =>
    have hk':mX f.res e1 h1=A4 (v,h'):=hk;have hh':=B7T hk';subst hh';refine ⟨hL1,fun Γ μ a w hds hs hi hN had R hR=>wp_seq (wS Γ μ a w hs hi hN (by rw [hds];exact had) _ ?_)⟩;intro μ1 a1 w1 f1 f2 f3 f4 f5 f6;obtain ⟨V',k1,k2,_⟩:=B5J f3 f4 hr hk';show Leaves P fn a1.tmps _ a1.defers .returning w1;rw [f6,hds];exact ⟨V',k1,hR V' μ1 w1 f1 k2 f4 f2⟩
   | exit id=>exact (by cases hk)
  ·cases hc
theorem D95 {E:O3} (hE:gD P E) {G:Fun} {f:DFn} (hG:D9u P f.fn G) {g:FuncId} {fn:Func} (hf:P.funcs[g]?=A4 fn) (hc:D9U P fn f=A5) {n:Nat}:SOk P g (f.run E G n):=by
 intro args h v h' D7;simp only [D9U,E69,E7V] at hc;obtain ⟨⟨hb,hr⟩,D45⟩:=hc;cases C20:fn.body with
 | none=>rw [C20] at hb;cases hb
 | some c =>
  rw [C20] at hb;obtain ⟨h1,h2⟩:=D4N hE hG hr (L:=h.length) n f.pre c (params 0 args) h hb D7 (E7b _);refine ⟨⟨fn,hf,D45,by simp [C20]⟩,fun Γ μ w V hi hargs=>?_,h1⟩;refine calls_of_wp_defers hf C20 (h2 { Γ with ds:=[] } μ _ w rfl (D4p hargs _) (hi.ds []) (by simp;omega) rfl _ ?_);intro V' μ' w' k1 k2 k3 k4;exact ⟨V',μ',rfl,k1,k2,k3.ds Γ.ds,k4⟩
end
inductive PP where
 | o (x:AOper)
 | call (d:Option Nat) (g:Option (Nat × Bool)) (k:Nat) (args:List Opd)
inductive PC where
 | skip
 | ret
 | exit (id:Nat)
 | ops (l:List PP)
 | draw (n:Nat) (l r:List PP)
 | drawS (n:Nat) (l:List PP) (s:PP) (chk:List (Nat × AOp)) (r:List PP)
 | seq (keep:List Nat) (a b:PC)
 | jn (j:Nat) (keep:List Nat) (a b:PC)
 | cond (c:Opd) (a b:PC)
 | block (id:Nat) (a:PC)
 | loop (j:Nat) (keep:List Nat) (a:PC)
def erp (F:Nat->Nat):PP->AOper
 | .o x=>x
 | .call d g k args=>⟨d,.call (F k) args,g,A7⟩
noncomputable def ers (F:Nat->Nat) (l:List PP):List AOper:=List.rec [] (λx _ r=>erp F x::r) l
noncomputable def er (F:Nat->Nat) (p:PC):ACode :=
 PC.rec (motive:=λ_=>ACode) .skip .ret (λi=>.exit i) (λl=>.ops (ers F l)) (λn l r=>.draw n (ers F l) (ers F r)) (λn l s k r=>.drawS n (ers F l) (erp F s) k (ers F r)) (λk _ _ a b=>.seq k a b) (λ_ k _ _ a b=>.seq k a b) (λc _ _ a b=>.cond c a b) (λi _ a=>.block i a) (λ_ k _ a=>.loop k a) p
def nx:Nat->Nat->Nat × Nat
 | 0,s=>(0,s)
 | f+1,s=>bif Nat.blt (s%16) 8 then (s%16,s/16) else match nx f (s/16) with | (a,r)=>(s%16-8+8*a,r)
abbrev Dst:=Nat × Nat
def rdn (s:Dst):Nat × Dst:=match nx 9 s.2 with | (a,r)=>(a,(s.1,r))
def E3s {α:Type} (g:Dst -> α × Dst):Nat->Dst->List α × Dst
 | 0,s=>([],s)
 | k+1,s=>match g s with | (a,s)=>match E3s g k s with | (l,s)=>(a::l,s)
def zT {α:Type} (g:Dst -> α × Dst) (s:Dst):List α × Dst:=match rdn s with | (k,s)=>E3s g k s
def E5R:Nat->BinOp
 | 0=>.add
 | 1=>.lss
 | 2=>.eql
 | 3=>.neq
 | 4=>.geq
 | 5=>.gtr
 | 6=>.mul
 | 7=>.sub
 | 8=>.rem
 | 9=>.leq
 | 10=>.quo
 | 11=>.shl
 | 12=>.shr
 | 13=>.or
 | 14=>.and
 | 15=>.xor
 | _=>.andNot
section
variable (V I:Nat->Val) (O:Nat->AOp) (Z:Nat->List Cell)
def fO (s:Dst):Opd × Dst:=match rdn s with
 | (v,s)=>(match v%4 with | 0=>.t (v/4) | 1=>.v (I (v/4)) | 2=>.t (s.1-v/4) | _=>.v (V (v/4)),s)
def E3t (s:Dst):(Nat × Nat × Opd) × Dst:=match rdn s with | (a,s)=>match rdn s with | (b,s)=>match fO V I s with | (x,s)=>((a,b,x),s)
def E5y:Nat->Dst->AOp × Dst
 | 0,s=>match fO V I s with | (x,s)=>(.mv x,s)
 | 1,s=>match fO V I s with | (x,s)=>(.load1 x,s)
 | 2,s=>match rdn s with | (n,s)=>match fO V I s with | (x,s)=>(.loadN n x,s)
 | 3,s=>match fO V I s with | (x,s)=>match rdn s with | (n,s)=>(.fAddr x n,s)
 | 4,s=>match fO V I s with | (x,s)=>match rdn s with | (n,s)=>(.ext x n,s)
 | 5,s=>match rdn s with | (n,s)=>match fO V I s with | (x,s)=>match fO V I s with | (y,s)=>(.bin (E5R n) x y,s)
 | 6,s=>match rdn s with | (n,s)=>match fO V I s with | (x,s)=>match fO V I s with | (y,s)=>(.iAddrL n x y,s)
 | 8,s=>match fO V I s with | (x,s)=>(.len x,s)
 | 9,s=>match rdn s with | (n,s)=>match fO V I s with | (x,s)=>match fO V I s with | (y,s)=>(.storeN n x y,s)
 | 10,s=>match fO V I s with | (x,s)=>match fO V I s with | (y,s)=>(.store1 x y,s)
 | 11,s=>match rdn s with | (n,s)=>match rdn s with | (k,s)=>match fO V I s with | (x,s)=>match fO V I s with | (y,s)=>(.iAddrA n k x y,s)
 | 12,s=>match fO V I s with | (c,s)=>match fO V I s with | (x,s)=>match fO V I s with | (y,s)=>(.pick c x y,s)
 | 13,s=>match fO V I s with | (x,s)=>(.un .not x,s)
 | 14,s=>match rdn s with | (z,s)=>(.alloc (Z z),s)
 | 15,s=>match fO V I s with | (x,s)=>(.box x,s)
 | 16,s=>match fO V I s with | (x,s)=>(.lenS x,s)
 | 17,s=>match fO V I s with | (x,s)=>(.nilc x,s)
 | 18,s=>match rdn s with | (n,s)=>(.nilrow n,s)
 | 19,s=>match rdn s with | (n,s)=>match fO V I s with | (x,s)=>match fO V I s with | (y,s)=>(.app n x y,s)
 | 20,s=>match rdn s with | (z,s)=>match zT (E3t V I) s with | (l,s)=>(.build (Z z) l,s)
 | 21,s=>match rdn s with | (a,s)=>match rdn s with | (b,s)=>match rdn s with | (z,s)=>match zT (E3t V I) s with | (l,s)=>(.buildSl a b (Z z) l,s)
 | 22,s=>match rdn s with | (n,s)=>match fO V I s with | (x,s)=>match fO V I s with | (y,s)=>(.idxA1 n x y,s)
 | 23,s=>match fO V I s with | (x,s)=>(.mark x,s)
 | 24,s=>match fO V I s with | (x,s)=>(.conv .u64 x,s)
 | 25,s=>match fO V I s with | (x,s)=>(.conv .i64 x,s)
 | 26,s=>match fO V I s with | (x,s)=>(.conv .u8 x,s)
 | 27,s=>match fO V I s with | (x,s)=>match rdn s with | (n,s)=>(.fld1 x n,s)
 | 28,s=>match fO V I s with | (x,s)=>match rdn s with | (n,s)=>match rdn s with | (k,s)=>(.fldN x n k,s)
 | 29,s=>match rdn s with | (z,s)=>match rdn s with | (n,s)=>match fO V I s with | (x,s)=>match fO V I s with | (y,s)=>(.mkSl n (Z z) x y,s)
 | 30,s=>match rdn s with | (n,s)=>match zT (fO V I) s with | (l,s)=>(.mkf n l,s)
 | 31,s=>match fO V I s with | (f,s)=>match zT (fO V I) s with | (l,s)=>(.callV f l,s)
 | _,s=>match rdn s with | (n,s)=>(O n,s)
def rpp (s:Dst):PP × Dst:=match rdn s with
 | (h,s)=>match (match h%3 with | 0=>(A4 (s.1+1),(s.1+1,s.2)) | 1=>(match rdn s with | (d,s)=>(A4 d,(d,s.2))) | _=>((A7:Option Nat),s)) with
  | (d,s)=>match (match h/3%2 with | 0=>((A7:Option (Nat × Bool)),s) | _=>(match rdn s with | (g,s)=>(A4 (g/2,Nat.beq (g%2) 1),s))) with
   | (g,s)=>match (match h/6%2 with | 0=>((A7:Option Nat),s) | _=>(match rdn s with | (l,s)=>(A4 l,s))) with
    | (l,s)=>match h/12 with
     | 7=>match rdn s with | (k,s)=>match zT (fO V I) s with | (a,s)=>(.call d g k a,s)
     | t=>match E5y V I O Z t s with | (o,s)=>(.o ⟨d,o,g,l⟩,s)
def E6E (s:Dst):(Nat × AOp) × Dst:=match rdn s with | (d,s)=>match rdn s with | (t,s)=>match E5y V I O Z t s with | (o,s)=>((d,o),s)
def B4l:Nat->Dst->PC × Dst
 | 0,s=>(.skip,s)
 | f+1,s=>match rdn s with
  | (0,s)=>(.skip,s)
  | (1,s)=>(.ret,s)
  | (2,s)=>match zT rdn s with | (k,s)=>match zT (rpp V I O Z) s with | (l,s)=>match B4l f s with | (b,s)=>(.seq k (.ops l) b,s)
  | (3,s)=>match zT rdn s with | (k,s)=>match B4l f s with | (a,s)=>match B4l f s with | (b,s)=>(.seq k a b,s)
  | (4,s)=>match fO V I s with | (c,s)=>match B4l f s with | (a,s)=>match B4l f s with | (b,s)=>(.cond c a b,s)
  | (5,s)=>match rdn s with | (k,s)=>match B4l f s with | (a,s)=>(.block k a,s)
  | (6,s)=>match rdn s with | (j,s)=>match zT rdn s with | (k,s)=>match B4l f s with | (a,s)=>(.loop j k a,s)
  | (7,s)=>match rdn s with | (k,s)=>(.exit k,s)
  | (8,s)=>match zT (rpp V I O Z) s with | (l,s)=>(.ops l,s)
  | (9,s)=>match rdn s with | (n,s)=>match zT (rpp V I O Z) s with | (l,s)=>match zT (rpp V I O Z) s with | (r,s)=>(.draw n l r,s)
  | (10,s)=>match rdn s with | (j,s)=>match zT rdn s with | (k,s)=>match B4l f s with | (a,s)=>match B4l f s with | (b,s)=>(.jn j k a b,s)
  | (_,s)=>match rdn s with | (n,s)=>match zT (rpp V I O Z) s with | (l,s)=>match rpp V I O Z s with | (x,s)=>match zT (E6E V I O Z) s with | (c,s)=>match zT (rpp V I O Z) s with | (r,s)=>(.drawS n l x c r,s)
end
abbrev PT:=(Nat->Val)->(Nat->Val)->(Nat->AOp)->(Nat->List Cell)->PC
def dcp (x:Nat):PT:=λV I O Z=>(B4l V I O Z 99 (0,x)).1
def px (x:Nat) {p:PT} (hp:p=dcp x:=by conv=>{ rhs;reduce }):PT:=p
def C8o {α:Type} (z:α):List α -> Nat -> α
 | [],_=>z
 | a::_,0=>a
 | _::l,i+1=>C8o z l i
def D7A (n:Nat):Val:=.c (.i .i64 n)
def E3e:List (List Cell):=[[],[.i .i64 0],[.ns],[.s []],[.b A6],[.nm],[.nf],[.i .u8 0],[.i .u8 0,.i .u8 0],[.i .u8 0,.i .u8 0,.i .u8 0,.i .u8 0],[.i .u8 0,.i .u8 0,.i .u8 0,.i .u8 0,.i .u8 0],[.i .u8 0,.i .u8 0,.i .u8 0,.i .u8 0,.i .u8 0,.i .u8 0,.i .u8 0,.i .u8 0],E68 256 (.i .u8 0),E68 32 (.i .u8 0),E68 25 (.i .u8 0),[.i .i64 0]++E68 32 (.i .i64 0),[.i .i64 0]++E68 256 (.i .u8 0),[.s [],.i .i64 0],[.i .i64 0,.i .i64 0,.i .u64 0],[.i .i64 0,.i .i64 0,.i .i64 0],[.i .i64 0,.s [],.i .i64 0],[.i .i64 0,.ns],[.i .i64 0,.i .i64 0,.i .u64 0,.nf],[.i .i64 0,.i .i64 0,.s [],.i .i64 0],[.i .i64 0,.i .i64 0,.i .i64 0,.i .i64 0,.i .i64 0,.i .i64 0],[.i .i64 0,.i .i64 0,.i .i64 0,.i .i64 0,.i .i64 0,.i .i64 0,.i .i64 0],[.i .i64 0,.i .i64 0,.i .i64 0,.i .i64 0,.i .i64 0,.i .i64 0,.i .i64 0,.i .i64 0],[.i .i64 0,.i .i64 0,.i .i64 0,.i .i64 0,.i .i64 0,.i .i64 0,.i .i64 0,.i .i64 0,.i .i64 0,.i .i64 0,.i .i64 0],[.i .i64 0,.i .i64 0,.i .i64 0,.i .i64 0,.i .i64 0,.ns,.ns],[.ns,.ns,.ns,.ns,.ns,.i .i64 0,.ns,.ns],[.ns,.ns,.ns,.ns,.ns,.i .i64 0]]
structure Cal (P:Program) where
 f:FuncId
 S:Fun
 ok:SOk P f S
def cal {P:Program} {f:FuncId} {S:Fun} (ok:SOk P f S):Cal P:=⟨f,S,ok⟩
def el {P:Program}:List (Cal P)->O3
 | []=>D4Q
 | c::l=>E0e c.f c.S (el l)
theorem D7s {P:Program}:∀ l:List (Cal P),gD P (el l)
 | []=>D63
 | c::l=>D64 c.ok (D7s l)
def E4r {P:Program}:List (Cal P)->Nat->Nat
 | [],_=>0
 | c::_,0=>c.f
 | _::l,k+1=>E4r l k
def C04 {P:Program}:List (Cal P)->Nat->Fun
 | [],_=>λ_ _=>A7
 | c::_,0=>c.S
 | _::l,k+1=>C04 l k
structure FD (P:Program) where
 p:PT
 V:List Val
 O:List AOp
 res:List ARes
 L:List (Cal P)
inductive Fr where
 | seq (keep:List Nat) (b:PC)
 | jn (j:Nat) (keep:List Nat) (b:PC)
 | blk (id:Nat)
 | lp (j:Nat) (keep:List Nat) (a:PC) (m:Nat)
section
variable {P:Program} (d:FD P)
def FD.code:PC:=d.p (C8o .no d.V) D7A (C8o (.nilrow 0) d.O) (C8o [] E3e)
noncomputable def FD.A:AFn:=⟨er (E4r d.L) d.code,d.res⟩
noncomputable def FD.E:O3:=el d.L
noncomputable def FD.R (n:Nat):Fun:=rx d.E d.A n
noncomputable def FD.S:Fun:=tl d.A d.E
noncomputable def FD.Q:Fun:=Lim d.A d.E
theorem FD.K {f:FuncId} {fn:Func} (hf:P.funcs[f]?=A4 fn) (hc:C7l P fn d.A=A5:=by kernel_rfl):FnK P f d.A d.E d.R:=.mk2 (D7s _) hf hc
end
def fd:PC->Nat->List Nat->List Fr->Option (Bool × List Nat × PC × List Fr × Nat)
 | .seq k a b,j,ns,s=>(fd a j ns (.seq k b::s)).or (fd b j ns s)
 | .jn i k a b,j,ns,s=>bif Nat.beq i j then A4 (A6,k,b,s,0) else (fd a j ns (.jn i k b::s)).or (fd b j ns s)
 | .cond _ a b,j,ns,s=>(fd a j ns s).or (fd b j ns s)
 | .block i a,j,ns,s=>fd a j ns (.blk i::s)
 | .loop i k a,j,m::ns,s=>bif Nat.beq i j then A4 (A5,k,a,s,m) else fd a j ns (.lp i k a m::s)
 | _,_,_,_=>A7
noncomputable def kof (E:O3) (n:Nat) (F:Nat->Nat) (fin:KV):List Fr->KV
 | []=>fin
 | .seq k b::s=>E2p k (ax E n (er F b)) (kof E n F fin s)
 | .jn _ k b::s=>E2p k (ax E n (er F b)) (kof E n F fin s)
 | .blk i::s=>D6v i (kof E n F fin s)
 | .lp _ k a m::s=>E3p k (A7h (ax E n (er F a)) k (kof E n F fin s) m) (kof E n F fin s)
noncomputable def lj' (E:O3) (n:Nat) (F:Nat->Nat) (fin:KV) (xs:List Val) (h:B5):Option (Bool × List Nat × PC × List Fr × Nat)->B4r
 | some (A5,k,a,s,m)=>A7h (ax E n (er F a)) k (kof E n F fin s) m (zE k xs) h
 | some (A6,k,b,s,_)=>hold (ax E n (er F b) (kof E n F fin s) (zE k xs) h)
 | none=>A7
noncomputable def FD.lj {P:Program} (d:FD P) (j n:Nat) (ns:List Nat) (xs:List Val):AtH:=λh=>lj' d.E n (E4r d.L) d.A.fin xs h (fd d.code j ns [])
def AN (X:Type):Nat->Type
 | 0=>X
 | a+1=>Nat->AN X a
def AV:Nat->Type
 | 0=>AtH
 | b+1=>Val->AV b
def C2v {X:Type}:(a:Nat)->AN X a->List Nat->X
 | 0,f,_=>f
 | a+1,f,[]=>C2v a (f 0) []
 | a+1,f,n::l=>C2v a (f n) l
def C2w:(b:Nat)->AV b->List Val->AtH
 | 0,f,_=>f
 | b+1,f,[]=>C2w b (f .no) []
 | b+1,f,x::l=>C2w b (f x) l
structure TE where
 a:Nat
 b:Nat
 f:AN (AV b) a
structure TT where
 E:O3
 l:List TE
def tT (l:List TE):TT:=⟨D4Q,l⟩
def C87:List TE->Nat->List Nat->List Val->AtH
 | [],_,_,_=>λ_=>A7
 | t::_,0,ns,xs=>C2w t.b (C2v t.a t.f ns) xs
 | _::l,j+1,ns,xs=>C87 l j ns xs
inductive Rs:Type 1 where
 | v (x:Val)
 | n (x:Val) (h:B5)
 | b (x:Option Val)
 | g (x:Option B5)
 | p (x:Option (Val × B5))
 | l {α:Type} (x:Option α) (v:α -> Val) (h:α -> B5)
inductive Ct:Type 1 where
 | code (p:PC)
 | ops (l:List PP)
 | dr (l:List PP) (hr:B5) (c:Ct)
 | ds (x:PP) (chk:List (Nat × AOp)) (r:List PP)
 | ag (chk:List (Nat × AOp)) (e0:Env) (c:Ct)
 | rs (r:Rs) (d:Option Nat) (c:Ct)
 | nrm
 | ex (id:Nat)
def B59:Env->Nat->Val
 | [],_=>.un
 | (d,v)::r,t=>bif d==t then v else B59 r t
def P7 (e:Env):Opd->Val
 | .t n=>B59 e n
 | .v x=>x
def E04 (e:Env):List Nat->Env
 | []=>[]
 | t::r=>(t,B59 e t)::E04 e r
def D6R (e:Env):List Nat->List Val
 | []=>[]
 | t::r=>B59 e t::D6R e r
def C8J (e:Env):List Opd->List Val
 | []=>[]
 | x::l=>P7 e x::C8J e l
def B8Y (e:Env):Option Opd->Option Val
 | none=>A7
 | some x=>A4 (P7 e x)
def D1Y (e:Env):List (Nat × Nat × Opd)->List (Nat × Nat × Val)
 | []=>[]
 | (a,b,x)::l=>(a,b,P7 e x)::D1Y e l
def D3y (e:Env):Option Nat->Val->Env
 | none,_=>e
 | some d,v=>(d,v)::e
def E06:Nat->List Val->Env
 | _,[]=>[]
 | i,v::l=>(i,v)::E06 (i+1) l
def B2D:Nat->B5
 | 0=>[]
 | n+1=>A7::B2D n
def D8T (hr h:B5) (r:Row) (v:Nat->Val):Option Nat->Rs
 | none=>.n (v h.length) (h++[A4 r])
 | some j=>.n (v (hr.length+j)) (h.set (hr.length+j) (A4 r))
def D6E {α:Type} (hr h:B5) (x:Option α) (r:α -> Row) (v:Nat -> α -> Val):Option Nat->Rs
 | none=>.l x (λa=>v h.length a) (λa=>h++[A4 (r a)])
 | some j=>.l x (λa=>v (hr.length+j) a) (λa=>h.set (hr.length+j) (A4 (r a)))
noncomputable def E07 (q:Bool) (h:B5) (x:B4r):B4r:=match q with
 | true=>quiet h x
 | false=>x
noncomputable def E2A (E:O3) (q:Bool) (hr:B5) (sl:Option Nat) (e:Env) (h:B5):AOp->Rs
 | .mv x=>.v (P7 e x)
 | .nilrow n=>D8T hr h (Row.mk [] A5) (λi=>.c (.sl i 0 0 n)) sl
 | .pick c a b=>.b (D4n (P7 e c) (P7 e a) (P7 e b))
 | .alloc z=>D8T hr h (Row.mk z A5) (λi=>.c (.p i 0)) sl
 | .box x=>D6E hr h (cells? (P7 e x)) (λc=>Row.mk c A5) (λi _=>.c (.p i 0)) sl
 | .build z l=>.l (E4 z (D1Y e l)) (λc=>.a c) (λ_=>h)
 | .buildSl n k z l=>D6E hr h (E4 z (D1Y e l)) (λc=>Row.mk c A5) (λi _=>.c (.sl i 0 k n)) sl
 | .load1 x=>.b (B8 hr (P7 e x))
 | .loadN n x=>.b (D4 hr n (P7 e x))
 | .store1 a x=>.g (I3 h (P7 e a) (P7 e x))
 | .storeN n a x=>.g (E6 h n (P7 e a) (P7 e x))
 | .bin o x y=>.b (O4 o (P7 e x) (P7 e y))
 | .eqA n s x y=>.b (aeq n s (P7 e x) (P7 e y))
 | .eqB n x y=>.b (D53 n (P7 e x) (P7 e y))
 | .eqN f n x=>.b (D2P f n (P7 e x))
 | .nilc x=>.b (A49 (P7 e x))
 | .un o x=>.b (aun o (P7 e x))
 | .conv k x=>.b (D4b k (P7 e x))
 | .convS x=>.b (D2N (P7 e x))
 | .s2b x=>D6E hr h (E3G (P7 e x)) (λs=>Row.mk (B4 s) A5) (λi s=>.c (.sl i 0 s.length 1)) sl
 | .b2s x=>.b (B5C hr (P7 e x))
 | .b2sN A7 x=>.b (B5C h (P7 e x))
 | .b2sN (A4 o) x=>.b (C2q h hr.length (A4 o) (P7 e x))
 | .mark x=>.b (zN h (P7 e x))
 | .mkf f l=>.b (B5H f (C8J e l))
 | .mkSl n z x y=>D6E hr h (A13 (P7 e x) (P7 e y)) (λk=>Row.mk (rows z k) A5) (λi k=>.c (.sl i 0 k n)) sl
 | .slS x a b=>.b (E1Z (P7 e x) (B8Y e a) (B8Y e b))
 | .slL n x a b=>.b (D4q n (P7 e x) (B8Y e a) (B8Y e b))
 | .slA n k x a b=>.b (B0T hr n k (P7 e x) (B8Y e a) (B8Y e b))
 | .fAddr x n=>.b (rU (P7 e x) n)
 | .iAddrA n k x y=>.b (J8 n k (P7 e x) (P7 e y))
 | .iAddrL n x y=>.b (E1 n (P7 e x) (P7 e y))
 | .fld1 x n=>.b (C2u (P7 e x) n)
 | .fldN x n k=>.b (D7g (P7 e x) n k)
 | .idxA1 n x y=>.b (A4c n (P7 e x) (P7 e y))
 | .idxAN n k x y=>.b (D2Q n k (P7 e x) (P7 e y))
 | .idxS x y=>.b (C62 (P7 e x) (P7 e y))
 | .ext x n=>.b (D56 (P7 e x) n)
 | .call _ _=>.b A7
 | .callV f l=>.p (E07 q h (A2R E (P7 e f) (C8J e l) h))
 | .len x=>.b (D2R (P7 e x))
 | .lenS x=>.b (D4f (P7 e x))
 | .app n x y=>.p (jZ h n (P7 e x) (P7 e y))
 | .appZ n z x y=>.p (B7Q h n z (P7 e x) (P7 e y))
 | .max x y=>.b (C64 (P7 e x) (P7 e y))
 | .min x y=>.b (B7S (P7 e x) (P7 e y))
 | .copy n x y=>.p (C6Y h n (P7 e x) (P7 e y))
 | .mkMap=>D8T hr h (T1 []) (λi=>.c (.m i)) sl
 | .look k z o m x=>.b (A8j hr k z o (P7 e m) (P7 e x))
 | .mput k m x y=>.g (A2O h k (P7 e m) (P7 e x) (P7 e y))
 | .ment k z m x=>.p (D4i h k z (P7 e m) (P7 e x))
 | .mset m x y=>.g (D4j h (P7 e m) (P7 e x) (P7 e y))
def E2H (h:B5):Rs->B4r
 | .v x=>A4 (x,h)
 | .n x g=>A4 (x,g)
 | .b x=>bnd x λv=>A4 (v,h)
 | .g x=>bnd x λh=>A4 (.un,h)
 | .p x=>bnd x λp=>A4 (p.1,p.2)
 | .l x v g=>bnd x λa=>A4 (v a,g a)
def D5t (e:Env) (h:B5) (r:Rs):Option (Nat × Bool)->Rs
 | none=>r
 | some (g,w)=>.p (gd (B59 e g) w (E2H h r) (A4 (.no,h)))
noncomputable def D82 (E:O3) (L:Nat->Fun) (q:Bool) (hr:B5) (e:Env) (h:B5):PP->Rs
 | .o ⟨_,o,g,s⟩=>D5t e h (E2A E q hr s e h o) g
 | .call _ g k l=>D5t e h (.p (E07 q h (L k (C8J e l) h))) g
def D8Y:PP->Option Nat
 | .o x=>x.dst
 | .call d _ _ _=>d
def C8C (e:Env) (h:B5):List ARes->List (Option Val)
 | []=>[]
 | .tmp t::l=>A4 (B59 e t)::C8C e h l
 | .cell1 t::l=>B8 h (B59 e t)::C8C e h l
 | .cellN t n::l=>D4 h n (B59 e t)::C8C e h l
def E03 (e:Env) (h:B5):List ARes->B4r
 | []=>C9a [] h
 | [.tmp t]=>A4 (B59 e t,h)
 | [.cell1 t]=>mp (B8 h (B59 e t)) λv=>(v,h)
 | [.cellN t n]=>mp (D4 h n (B59 e t)) λv=>(v,h)
 | a::b::l=>C9a (C8C e h (a::b::l)) h
def B4e (n:Nat):List Fr->List Nat->List Nat
 | [],l=>n::l
 | .lp _ _ _ m::s,l=>B4e n s (m::l)
 | .seq _ _::s,l=>B4e n s l
 | .jn _ _ _::s,l=>B4e n s l
 | .blk _::s,l=>B4e n s l
def E2L (h:B5) (e:Env):AOp->Option Val
 | .load1 x=>B8 h (P7 e x)
 | .loadN n x=>D4 h n (P7 e x)
 | _=>A7
noncomputable def kA (n:Nat) (E:O3) (L:Nat->Fun) (T:List TE) (res:List ARes):Nat->Ct->List Fr->Env->B5->B4r
 | 0,_,_,_,_=>A7
 | f+1,.code .skip,s,e,h=>kA n E L T res f .nrm s e h
 | _+1,.code .ret,_,e,h=>E03 e h res
 | f+1,.code (.exit i),s,e,h=>kA n E L T res f (.ex i) s e h
 | f+1,.code (.ops l),s,e,h=>kA n E L T res f (.ops l) s e h
 | f+1,.code (.draw k l r),s,e,h=>kA n E L T res f (.dr l h (.ops r)) s e (h++B2D k)
 | f+1,.code (.drawS k l x c r),s,e,h=>kA n E L T res f (.dr l h (.ds x c r)) s e (h++B2D k)
 | f+1,.code (.seq k a b),s,e,h=>kA n E L T res f (.code a) (.seq k b::s) e h
 | f+1,.code (.jn j k a b),s,e,h=>kA n E L T res f (.code a) (.jn j k b::s) e h
 | f+1,.code (.cond c a b),s,e,h=>cnd (P7 e c) (kA n E L T res f (.code a) s e h) (kA n E L T res f (.code b) s e h)
 | f+1,.code (.block i a),s,e,h=>kA n E L T res f (.code a) (.blk i::s) e h
 | _+1,.code (.loop j k _),s,e,h=>C87 T j (B4e n s [n]) (D6R e k) h
 | _+1,.nrm,[],e,h=>E03 e h res
 | f+1,.nrm,.seq k b::s,e,h=>kA n E L T res f (.code b) s (E04 e k) h
 | _+1,.nrm,.jn j k _::s,e,h=>C87 T j (B4e n s []) (D6R e k) h
 | f+1,.nrm,.blk _::s,e,h=>kA n E L T res f .nrm s e h
 | _+1,.nrm,.lp j k _ m::s,e,h=>C87 T j (B4e n s [m]) (D6R e k) h
 | f+1,.ex i,.blk j::s,e,h=>bif j==i then kA n E L T res f .nrm s e h else kA n E L T res f (.ex i) s e h
 | f+1,.ex i,.seq _ _::s,e,h=>kA n E L T res f (.ex i) s e h
 | f+1,.ex i,.jn _ _ _::s,e,h=>kA n E L T res f (.ex i) s e h
 | f+1,.ex i,.lp _ _ _ _::s,e,h=>kA n E L T res f (.ex i) s e h
 | _+1,.ex _,[],_,_=>A7
 | f+1,.ops [],s,e,h=>kA n E L T res f .nrm s e h
 | f+1,.ops (x::l),s,e,h=>kA n E L T res f (.rs (D82 E L A6 h e h x) (D8Y x) (.ops l)) s e h
 | f+1,.dr [] _ c,s,e,h=>kA n E L T res f c s e h
 | f+1,.dr (x::l) hr c,s,e,h=>kA n E L T res f (.rs (D82 E L A5 hr e h x) (D8Y x) (.dr l hr c)) s e h
 | f+1,.ds x c r,s,e,h=>kA n E L T res f (.rs (D82 E L A6 h e h x) (D8Y x) (.ag c e (.ops r))) s e h
 | f+1,.ag [] _ c,s,e,h=>kA n E L T res f c s e h
 | f+1,.ag ((d,o)::k) e0 c,s,e,h=>agn (E2L h e0 o) (B59 e0 d) (kA n E L T res f (.ag k e0 c) s e h)
 | f+1,.rs (.v x) d c,s,e,h=>kA n E L T res f c s (D3y e d x) h
 | f+1,.rs (.n x g) d c,s,e,_=>kA n E L T res f c s (D3y e d x) g
 | f+1,.rs (.b x) d c,s,e,h=>bnd x λv=>kA n E L T res f c s (D3y e d v) h
 | f+1,.rs (.g x) d c,s,e,_=>bnd x λh=>kA n E L T res f c s (D3y e d .un) h
 | f+1,.rs (.p x) d c,s,e,_=>bnd x λp=>kA n E L T res f c s (D3y e d p.1) p.2
 | f+1,.rs (.l x v g) d c,s,e,_=>bnd x λa=>kA n E L T res f c s (D3y e d (v a)) (g a)
noncomputable def E5v {P:Program} (d:FD P) (T:TT) (n:Nat) (args:List Val) (h:B5):B4r :=
 kA n T.E (C04 d.L) T.l d.res 9999 (.code d.code) [] (E06 0 args) h
noncomputable def D7Q (j n:Nat) (E:O3) (L:Nat->Fun) (T:List TE) (res:List ARes) (xs:List Val) (h:B5):Option (Bool × List Nat × PC × List Fr × Nat)->B4r
 | some (A5,k,a,s,m)=>kA n E L T res 9999 (.code a) (.lp j k a m::s) (zE k xs) h
 | some (A6,k,b,s,_)=>kA n E L T res 9999 (.code b) s (zE k xs) h
 | none=>A7
noncomputable def E2y {P:Program} (d:FD P) (T:TT) (j n:Nat) (ns:List Nat) (xs:List Val) (h:B5):B4r :=
 D7Q j n T.E (C04 d.L) T.l d.res xs h (fd d.code j ns [])
def Nrm (a b:B4r):Prop:=a=b
theorem D5m (a:B4r):Nrm a a:=rfl
def D6d:List Nat->List Nat
 | []=>[]
 | [m]=>[m+1]
 | m::k::l=>m::D6d (k::l)
section
variable {P:Program}
theorem mR (R:Nat->Fun) (d:FD P) (T:TT) (n:Nat) (args:List Val) (h:B5) {c:B4r} (hc:Nrm (E5v d T n args h) c:=by (conv=>{ arg 1;arg 1;whnf });(conv=>{ arg 1;arg 2;whnf });dsimp only [E5v,FD.code];(conv=>{ arg 1;arg 7;arg 1;whnf });dsimp only [kA,D82,D8Y,E2A,D5t,E2H,D8T,D6E,E07,B59,P7,E04,D6R,C8J,B8Y,D1Y,D3y,E06,B2D,B4e,C87,C2v,C2w,E03,C8C,E2L,D7A,C8o,E3e,C04,cal,D7Q,zE,Nat.reduceBEq,Nat.reduceAdd,cond_true,cond_false,Int.cast_ofNat_Int];exact D5m _) (e:R n args h=c:=by kernel_rfl):R n args h=c:=e
theorem mJ (d:FD P) (T:TT) (j n:Nat) (ns:List Nat) (xs:List Val) (h:B5) {a c:B4r} (ha:Nrm (C87 T.l j (n::ns) xs h) a:=by (conv=>{ arg 1;arg 1;arg 1;whnf });dsimp only [C87,C2v,C2w];exact D5m _) (hc:Nrm (E2y d T j n ns xs h) c:=by (conv=>{ arg 1;arg 1;whnf });(conv=>{ arg 1;arg 2;whnf });dsimp only [E2y];(conv=>{ arg 1;arg 9;whnf });dsimp only [kA,D82,D8Y,E2A,D5t,E2H,D8T,D6E,E07,B59,P7,E04,D6R,C8J,B8Y,D1Y,D3y,E06,B2D,B4e,C87,C2v,C2w,E03,C8C,E2L,D7A,C8o,E3e,C04,cal,D7Q,zE,Nat.reduceBEq,Nat.reduceAdd,cond_true,cond_false,Int.cast_ofNat_Int];exact D5m _) (e:a=c:=by kernel_rfl):a=c:=e
theorem mL (d:FD P) (T:TT) (j n:Nat) (ns:List Nat) (xs:List Val) (h:B5) {a c:B4r} (ha:Nrm (C87 T.l j (n::D6d ns) xs h) a:=by (conv=>{ arg 1;arg 1;arg 1;whnf });dsimp only [C87,C2v,C2w,D6d];exact D5m _) (hc:Nrm (E2y d T j n ns xs h) c:=by (conv=>{ arg 1;arg 1;whnf });(conv=>{ arg 1;arg 2;whnf });dsimp only [E2y];(conv=>{ arg 1;arg 9;whnf });dsimp only [kA,D82,D8Y,E2A,D5t,E2H,D8T,D6E,E07,B59,P7,E04,D6R,C8J,B8Y,D1Y,D3y,E06,B2D,B4e,C87,C2v,C2w,E03,C8C,E2L,D7A,C8o,E3e,C04,cal,D7Q,zE,Nat.reduceBEq,Nat.reduceAdd,cond_true,cond_false,Int.cast_ofNat_Int];exact D5m _) (e:a=c:=by kernel_rfl):a=c:=e
end
end Go.Esc
namespace Go.Proofs.YtbnkgnfhgbhblaaGreat
noncomputable section
variable (n m m2:Nat) (a0 a1 a2 a3 x0 x1 x3 x4 x6 x7 x8 x10 x16 x17 x18 x19 x20 x21 x25 x26:Val) (h:B5)
def pK:FD A8:=⟨px 0X12384881de1c488493926122882a157a07c218621fa1a1c148828c48061a07c3c0406180072461e47c6288977c403c2f143a2a29281876311922a29281876311831b801a87161c1e2e11981a052a2928187631182152a292863163070242a2928631631a617c12b2a2928631722a2928631606051061c87a032a29286316263211a0124e4881de6a48838261224631e2a82889642e7f42e3601617c419161e6321526321431c62d9032ed2632142,[.c (.b A5)],[],[.cellN 6 256],[]⟩
def B9F:=pK.R
def C8s:AtH:=pK.lj 0 n [m] [x1,x3,x6,x16,x17,x18]
def C8r:AtH:=pK.lj 1 n [] [x3,x6]
def C0L:=tT [⟨2,6,C8s⟩,⟨1,2,C8r⟩]
def D2A:=mR B9F pK C0L n [a0,a1,a2] h
def D0x:=mL pK C0L 0 n [m] [x1,x3,x6,x16,x17,x18] h
def D0w:=mJ pK C0L 1 n [] [x3,x6] h
def D0Y:=pK.K Tryz.func161
def C0y:=pK.S
theorem A69:SOk A8 161 C0y:=D0Y.sok
theorem C6F:F6 B9F C0y:=D0Y.flat
def B6m:FD A8:=⟨px 0X121e4881de611a301ac0001c3e842121c22d912022,[],[],[.cellN 2 256],[cal A69]⟩
def C5V:=B6m.R
def D33:=mR C5V B6m (tT []) n [a0] h
def D3Y:=B6m.K Tryz.func158
def C6G:=B6m.S
theorem A2J:SOk A8 158 C6G:=D3Y.sok
theorem C91:F6 C5V C6G:=D3Y.flat
def A2i:FD A8:=⟨px 0X11c861363a2a862a194d7f61a74d7f44d3184d304d360362a2a861a193b7f6e3b343b360361e2a85642b7f42b3601647c002b612361121032,[.c (.b A6)],[],[.tmp 6],[]⟩
def C2e:=A2i.R
def C5W:=mR C2e A2i (tT []) n [a0,a1,a2] h
def C1U:=A2i.K Tryz.func157
def B0w:=A2i.S
theorem rH:SOk A8 157 B0w:=C1U.sok
theorem C0A:F6 C2e B0w:=C1U.flat
def uF:FD A8:=⟨px 0X12484881de284884a392181228c2c156e07c218621fa3e28148828c64f862a1c7c64c864967c4c01c061a07c7e042f11b181b81911a022c2b191843172152c2b1843163070242c2b18431631a617c12d2c2b18431722c2b18431606051018022c2b1843162184230125a4881de7a488382181224632e2a86382bf288961a30381af6a38343836029657c4a1a1182918432162184321531c182d9042ed218432152,[.c (.b A5)],[],[.cellN 8 256],[cal rH]⟩
def B4M:=uF.R
def C28:AtH:=uF.lj 0 n [m] [x1,x3,x4,x8,x19,x20]
def C6V:=tT [⟨2,6,C28⟩]
def C9E:=mR B4M uF C6V n [a0,a1,a2,a3] h
def B1S:=mL uF C6V 0 n [m] [x1,x3,x4,x8,x19,x20] h
def C5j:=uF.K Tryz.func159
def A7a:=uF.S
theorem wM:SOk A8 159 A7a:=C5j.sok
theorem C4p:F6 B4M A7a:=C5j.flat
def A0K:FD A8:=⟨px 0X1702cc1815859131918222c83a157a07c218621fa3e5a119864f862a1c7c64c864967c5c01c061a07c5c040583d11c181e81b11a023a391b1a3162153a391a3153070243a391a31531a617c13b3a391a31623a391a3150605101839123a391a31521a131c81a161a13cc0000012e3fd41a3214201301183b9219182224673e2a863c2bf61e2a303c1af63c1cb03c37a3c343c36049657c5a1c11a2d321052321043301183b92321042,[.c (.b A6),.c (.b A5)],[],[.tmp 8,.tmp 9],[cal rH]⟩
def B9G:=A0K.R
def C8t:AtH:=A0K.lj 0 n [m] [x1,x3,x10,x25,x26]
def D1d:=tT [⟨2,5,C8t⟩]
def D2B:=mR B9G A0K D1d n [a0,a1,a2,a3] h
def B4h:=mL A0K D1d 0 n [m] [x1,x3,x10,x25,x26] h
def D0Z:=A0K.K Tryz.func160
def C0z:=A0K.S
theorem D2L:SOk A8 160 C0z:=D0Z.sok
theorem C6H:D7e B9G C0z:=D0Z.tidy
def A0I:FD A8:=⟨px 0X12b8613c4e126122ac3a155e07c218621fa3a3e119861c61c148828c61a07c480404803c3d119181e81811a023a391873162153a3973153070243a39731531a617c13b3a39731623a3973150605101839123a39731527131c87166175bc182f137321421b82106886288977c40182b153213201163b9161224631e2a85613e7f7a3e360631e2a82889642e7f42e3601617c41911a2a3214232133163b9032ed232132,[.c (.b A5)],[.min (.t 19) (.t 21)],[.tmp 6],[]⟩
def B9E:=A0I.R
def C8p:AtH:=A0I.lj 0 n [m] [x1,x3,x7,x25,x26]
def D1b:=tT [⟨2,5,C8p⟩]
def D2y:=mR B9E A0I D1b n [a0,a1,a2] h
def B4f:=mL A0I D1b 0 n [m] [x1,x3,x7,x25,x26] h
def D0W:=A0I.K Tryz.func86
def C0w:=A0I.S
theorem A68:SOk A8 86 C0w:=D0W.sok
theorem C90:oP B9E C0w:=D0W.out
def A0J:FD A8:=⟨px 0X11b02b861484e1376222ac2d1518a04d7d2182a818166a1d7c62a1b7c64c864967c4c064c861c62a119861a07c4c04000483811e181bc1911a022d2c19181062152d2c181053070242d2c1810531a617c12e2d2c1810622d2c18105060510182c122d2c181052181330118210420170361276222461b3e2a86382bf61e2a30381af6381cb03836a38343836049657c4a1a11a2b210422103370361221032,[.c (.i .u64 0),.c (.b A6),.c (.b A5)],[],[.tmp 6,.tmp 7],[cal rH]⟩
def D06:=A0J.R
def C8q:AtH:=A0J.lj 0 n [m] [x0,x1,x8,x20,x21]
def D1c:=tT [⟨2,5,C8q⟩]
def D2z:=mR D06 A0J D1c n [a0,a1,a2] h
def B4g:=mL A0J D1c 0 n [m] [x0,x1,x8,x20,x21] h
def D0X:=A0J.K Tryz.func85
def C0x:=A0J.S
theorem D2K:SOk A8 85 C0x:=D0X.sok
theorem C6E:F6 D06 C0x:=D0X.flat
def A4H:FD A8:=⟨px 0X1298613c4a1261228c2a157e0497d2182887165e1d7c62a1b7c64c864967c48064dc61c61c148828c61a07c7e0407a2d11d181a81811a022a291873162152a2973153070242a29731531a617c12b2a29731622a2973150605107e29122a297315271310173214201161161224632e2a862e2bf288961a302e1af5e2e342e36029657c3e19118283214232133161032ed232132,[.c (.b A5)],[],[.tmp 6],[cal rH]⟩
def D31:=A4H.R
def D1U:AtH:=A4H.lj 0 n [m] [x1,x3,x7,x17,x18]
def D34:=tT [⟨2,5,D1U⟩]
def D32:=mR D31 A4H D34 n [a0,a1,a2] h
def B8I:=mL A4H D34 0 n [m] [x1,x3,x7,x17,x18] h
def D3X:=A4H.K Tryz.func87
def B7A:=A4H.S
theorem xK:SOk A8 87 B7A:=D3X.sok
theorem C9Z:F6 D31 B7A:=D3X.flat
end
def sQ (at' width all:Int):Bool:=decide (0<=at')&&decide (1<=width)&&decide (width<=all)&&decide (at'<=all-width)
theorem O0 {a w n:Int}:sQ a w n=A5↔0<=a/\1<=w/\w<=n/\a<=n-w:=by
 unfold sQ;simp [and_assoc]
theorem yK {a w n:Int} {h:B5} (hn:n<9223372036854775808) :
  B0w [iV a,iV w,iV n] h=A4 (bV (sQ a w n),h):=by
 refine C0A (n:=0) (h2:=ro h) ?_ rfl;rw [C5W];unfold sQ;by_cases h1:0<=a
 ·by_cases h2:1<=w
  ·by_cases h3:w<=n
   ·have e:IntKind.wrap .i64 (n-w)=n-w:=wrap_i64 (by omega) (by omega);simp [h1,h2,h3,e]
   ·simp [h1,h2,h3]
  ·simp [h1,h2]
 ·simp [h1]
def C7Q (l:List UInt8) (a w:Int):Option Nat:=if w<=8/\sQ a w l.length=A5 then A4 (le ((l.drop a.toNat).take w.toNat)) else A7
theorem C27 {l:List UInt8} {h:B5} {a w k:Nat} (hw:w<=4) (haw:a+w<=256) (hl:l.length=256):∀ d i m,i+d=w->d<m ->
  D1U k m (iV a) (pV h.length 0) (iV (le ((l.drop a).take i))) (iV w) (iV i) (h++[rT (B4 l)])=A4 (iV (le ((l.drop a).take w)),h++[rT (B4 l)])
 | d,i,0,_,hm=>by omega
 | 0,i,m+1,hi,hm=>by
  have e:i=w:=by omega
  subst e;rw [B8I];simp
 | d+1,i,m+1,hi,hm=>by
  have ih:=C27 (h:=h) (k:=k) hw haw hl d (i+1) m (by omega) (by omega);have hx:=C4 (h:=h++[rT (B4 l)]) (id:=h.length) (off:=a+i) (c:=.i .u8 l[a+i].toNat) T9 (by rw [aJ,E66 (by omega)];rfl) rfl;have hb:=l[a+i].toNat_lt;have hlen:((l.drop a).take i).length=i:=by simp;omega
  have cC:=C23 ((l.drop a).take i);rw [hlen] at cC;have hp:=vN (show i<=4 by omega);have hbp:=C2A (x:=l[a+i]) (show i<4 by omega);have e2:IntKind.wrap .i64 (8*(i:Int))=8*i:=wrap_i64 (by omega) (by omega);have e3:IntKind.wrap .u64 (8*(i:Int))=8*i:=wrap_u64 (by omega) (by omega);have e5:IntKind.wrap .i64 (l[a+i].toNat:Int)=l[a+i].toNat:=wrap_i64 (by omega) (by omega);have e6:=D5N (k:=.i64) (x:=l[a+i]) (show i<8 by omega) (wrap_i64 (by omega) (by omega)) rfl;have e7:O4 .or (iV (le ((l.drop a).take i):Nat)) (iV ((l[a+i].toNat*256 ^ i:Nat):Int))=A4 (iV (le ((l.drop a).take (i+1)):Nat)):=by
   rw [E4u (by omega) (by omega),A4G (by omega),<-D7M,hlen]
  have ea:J8 256 1 (pV h.length 0) (iV ((a+i:Nat):Int))=A4 (pV h.length (a+i)):=by rw [J4 (by omega)];simp
  have h1':(i:Int)<w:=by omega
  rw [B8I];simp only [esc,h1',A1Y (show a+i<9223372036854775808 by omega),e2,e3,ea,hx,e5,e6,e7,D3 (show i+1<9223372036854775808 by omega)];exact ih
def atN (l:List UInt8) (a w:Int):Nat:=if w<=4/\sQ a w 256=A5 then le ((l.drop a.toNat).take w.toNat) else 0
theorem nG {l:List UInt8} {h:B5} (hl:l.length=256) {a w:Int} :
  B7A [.a (B4 l),iV a,iV w] h=A4 (iV (atN l a w),h):=by
 refine C9Z (n:=w.toNat+1) (h2:=ro h++[rT (B4 l)]) ?_ (by simp);rw [D32];unfold atN;by_cases c1:4<w
 ·have c1':¬ w<=4:=by omega
  simp [c1,c1']
 ·have c1':w<=4:=by omega
  cases c2:sQ a w 256 with
  | false=>simp [c1,yK (show (256:Int)<9223372036854775808 by omega),c2]
  | true =>
   simp [c1,c1',yK (show (256:Int)<9223372036854775808 by omega),c2];rw [O0] at c2;have:=C27 (h:=ro h) (a:=a.toNat) (w:=w.toNat) (k:=w.toNat+1) (by omega) (by omega) hl w.toNat 0 (w.toNat+1) (by omega) (by omega);simp only [show ((a.toNat:Nat):Int)=a by omega,show ((w.toNat:Nat):Int)=w by omega] at this;simpa [le] using this
theorem B4i {l:List UInt8} {z:List Cell} {h:B5} {a w k:Nat} {v:Int} (hw:w<=4) (haw:a+w<=256) (hl:l.length=256) (hz:z.length=256):∀ d i m,i+d=w->d<m ->
  C28 k m (iV a) (iV v) (pV h.length 0) (pV (h.length+1) 0) (iV w) (iV i) (h++[rT (B4 (J1 l a (B9 i v))),rT z]) =
   A4 (.a (B4 (J1 l a (B9 w v))),h++[rT (B4 (J1 l a (B9 w v))),rT (B4 (J1 l a (B9 w v)))])
 | d,i,0,_,hm=>by omega
 | 0,i,m+1,hi,hm=>by
  have e:i=w:=by omega
  subst e;have cC:(B4 (J1 l a (B9 i v))).length=256:=by rw [A9,P5 (by simp;omega),hl]
  have s1:=C7 (h:=h++[rT (B4 (J1 l a (B9 i v))),rT z]) (id:=h.length) (cs:=B4 (J1 l a (B9 i v))) (by simp) cC;have s2:=storeAll (h:=h++[rT (B4 (J1 l a (B9 i v))),rT z]) (id:=h.length+1) (cs:=z) (xs:=B4 (J1 l a (B9 i v))) (by simp) hz cC;have s3:=C7 (h:=h++[rT (B4 (J1 l a (B9 i v))),rT (B4 (J1 l a (B9 i v)))]) (id:=h.length+1) (cs:=B4 (J1 l a (B9 i v))) (by simp) cC;have h1':¬ (i:Int)<i:=by omega
  rw [B1S];simp only [esc,h1',s1,s2,s3]
 | d+1,i,m+1,hi,hm=>by
  have ih:=B4i (h:=h) (k:=k) (v:=v) hw haw hl hz d (i+1) m (by omega) (by omega);have e2:IntKind.wrap .i64 (8*(i:Int))=8*i:=wrap_i64 (by omega) (by omega);have e3:IntKind.wrap .u64 (8*(i:Int))=8*i:=wrap_u64 (by omega) (by omega);have e4:O4 .shr (iV v) (.c (.i .u64 (8*(i:Int))))=A4 (iV (v/2 ^ (Nat.min (8*(i:Int)).toNat 64))):=C6X (by omega);have ea:J8 256 1 (pV h.length 0) (iV ((a+i:Nat):Int))=A4 (pV h.length (a+i)):=by rw [J4 (by omega)];simp
  have wS:=G9 (h:=h++[rT (B4 (J1 l a (B9 i v))),rT z]) (id:=h.length) (off:=a+i) (cs:=B4 (J1 l a (B9 i v))) (x:=.i .u8 (byI v i).toNat) (by simp)
   (by rw [A9,P5 (by simp;omega)];omega)
  have e5:(J1 l a (B9 i v)).set (a+i) (byI v i)=J1 l a (B9 (i+1) v):=by
   rw [A2Q];have:=B2y (l:=l) (xs:=B9 i v) (a:=a) (x:=byI v i) (by simp;omega);simpa using this
  rw [iI,e5] at wS;have h1':(i:Int)<w:=by omega
  rw [B1S];simp only [esc,h1',A1Y (show a+i<9223372036854775808 by omega),e2,e3,e4,D1n (v:=v) (show i<8 by omega),ea,wS,D3 (show i+1<9223372036854775808 by omega)];exact ih
def iQ (l:List UInt8) (a w v:Int):List UInt8:=if w<=4/\sQ a w 256=A5 then J1 l a.toNat (B9 w.toNat v) else l
theorem T6 {l:List UInt8} {a w v:Int} (hl:l.length=256):(iQ l a w v).length=256:=by
 unfold iQ;split
 ·rename_i h;rw [O0] at h;rw [P5 (by simp;omega),hl]
 ·exact hl
theorem D3t {l:List UInt8} {g:B5} (hl:l.length=256) {a w v:Int} :
  ∃ g',B4M (w.toNat+1) [.a (B4 l),iV a,iV w,iV v] g=A4 (.a (B4 (iQ l a w v)),g'):=by
 have cC:(B4 l).length=256:=by rw [A9,hl]
 have hz:(E68 256 (Cell.i .u8 0)).length=256:=E7B;rw [C9E];generalize E68 256 (Cell.i .u8 0)=z at *;have s1:=C7 (h:=g++[rT (B4 l),rT z]) (id:=g.length) (cs:=B4 l) (n:=256) (by simp) cC;have s2:=storeAll (h:=g++[rT (B4 l),rT z]) (id:=g.length+1) (cs:=z) (xs:=B4 l) (by simp) hz cC;have s3:=C7 (h:=g++[rT (B4 l),rT (B4 l)]) (id:=g.length+1) (cs:=B4 l) (n:=256) (by simp) cC;unfold iQ;by_cases c1:4<w
 ·rw [if_neg (by omega)];exact ⟨_,by simp only [esc,c1,s1,s2,s3];rfl⟩
 ·have c1':w<=4:=by omega
  cases c2:sQ a w 256 with
  | false =>
   rw [if_neg (by simp)];exact ⟨_,by simp only [esc,c1,yK (show (256:Int)<9223372036854775808 by omega),c2,s1,s2,s3];rfl⟩
  | true =>
   rw [if_pos ⟨c1',rfl⟩];have c3:=O0.1 c2;have:=B4i (h:=g) (a:=a.toNat) (w:=w.toNat) (k:=w.toNat+1) (v:=v) (z:=z) (by omega) (by omega) hl hz w.toNat 0 (w.toNat+1) (by omega) (by omega);simp only [show ((a.toNat:Nat):Int)=a by omega,show ((w.toNat:Nat):Int)=w by omega,show B9 0 v=[] from rfl,B8A] at this;exact ⟨_,by simp only [esc,c1,yK (show (256:Int)<9223372036854775808 by omega),c2];exact this⟩
theorem Y6 {l:List UInt8} {h:B5} (hl:l.length=256) {a w v:Int} :
  A7a [.a (B4 l),iV a,iV w,iV v] h=A4 (.a (B4 (iQ l a w v)),h):=by
 obtain ⟨g,e⟩:=D3t (g:=ro h) hl (a:=a) (w:=w) (v:=v);exact C4p e (by simp)
theorem B8J {l:List UInt8} {h:B5} {b id a n k:Nat} (haw:a+n<=256) (hl:l.length=256):∀ d i m,i+d=n->d<m ->
  C8p k m (iV a) (pV h.length 0) (sV (h.length+2) 0 n 1) (iV n) (iV i) (h++[rT (B4 l),rT [],rT (B4 ((l.drop a).take i++zeros (n-i)))]) =
   A4 (sV (h.length+2) 0 n 1,h++[rT (B4 l),rT [],rT (B4 ((l.drop a).take n))])
 | d,i,0,_,hm=>by omega
 | 0,i,m+1,hi,hm=>by
  have e:i=n:=by omega
  subst e;have h1':¬ (i:Int)<i:=by omega
  rw [B4f];simp only [esc,h1'];simp [zeros]
 | d+1,i,m+1,hi,hm=>by
  have ih:=B8J (h:=h) (b:=b) (id:=id) (k:=k) haw hl d (i+1) m (by omega) (by omega);have ea:J8 256 1 (pV h.length 0) (iV ((a+i:Nat):Int))=A4 (pV h.length (a+i)):=by rw [J4 (by omega)];simp
  have eb:E1 1 (sV (h.length+2) 0 n 1) (iV (i:Int))=A4 (pV (h.length+2) i):=by rw [C9 (by omega)];simp
  have hx:=C4 (h:=h++[rT (B4 l),rT [],rT (B4 ((l.drop a).take i++zeros (n-i)))]) (id:=h.length) (off:=a+i) (c:=.i .u8 l[a+i].toNat) (cs:=B4 l) (rw:=A5) (by simp) (by rw [aJ,E66 (by omega)];rfl) rfl;have wS:=G9 (h:=h++[rT (B4 l),rT [],rT (B4 ((l.drop a).take i++zeros (n-i)))]) (id:=h.length+2) (off:=i) (cs:=B4 ((l.drop a).take i++zeros (n-i))) (x:=.i .u8 l[a+i].toNat) (by simp)
   (by rw [A9];simp;omega)
  have e5:((l.drop a).take i++zeros (n-i)).set i l[a+i]=(l.drop a).take (i+1)++zeros (n-(i+1)):=by
   have hlen:((l.drop a).take i).length=i:=by simp;omega
   rw [E7I _ _ (by omega),hlen,E7R,A4G (by omega),E7c];refine congrArg ((l.drop a).take i ++ ·) ?_;have:n-i=n-(i+1)+1:=by omega
   rw [this];unfold zeros;rw [E7z,E7T];rfl
  rw [iI,e5] at wS;have h1':(i:Int)<n:=by omega
  rw [B4f];simp only [esc,h1',A1Y (show a+i<9223372036854775808 by omega),ea,hx,eb,wS,D3 (show i+1<9223372036854775808 by omega)];exact ih
def cJ (l:List UInt8) (a n:Int):List UInt8:=if 0<=a then (l.drop a.toNat).take n.toNat else []
theorem nK (n:Nat):rows [Cell.i .u8 0] n=B4 (zeros n):=by
 unfold rows zeros
 induction n with
 | zero=>rfl
 | succ n ih=>rw [E7z,List.flatten_cons,ih,E7z];rfl
theorem D5n {l:List UInt8} {g:B5} (hl:l.length=256) {a n:Int} :
  ∃ v g',B9E ((min n (256-a)).toNat+1) [.a (B4 l),iV a,iV n] g=A4 (v,g')/\Out g.length g' v 1 (cJ l a n).length (B4 (cJ l a n)):=by
 have cC:(B4 l).length=256:=by rw [A9,hl]
 rw [D2y];unfold cJ;by_cases c1:a<0
 ·rw [if_neg (by omega)];exact ⟨_,_,by simp only [esc,c1];rfl,by simp [A9],_,rfl,by simp,by simp;rfl⟩
 ·rw [if_pos (by omega)];by_cases c2:256<=a
  ·have e:l.drop a.toNat=[]:=E7k (by omega);rw [e,List.take_nil];exact ⟨_,_,by simp only [esc,c1,c2];rfl,by simp [A9],_,rfl,by simp,by simp;rfl⟩
  ·by_cases c3:n<1
   ·have e:n.toNat=0:=by omega
    rw [e];exact ⟨_,_,by simp only [esc,c1,c2,c3];rfl,by simp [A9],_,rfl,by simp,by simp;rfl⟩
   ·have e1:IntKind.wrap .i64 (256-a)=256-a:=wrap_i64 (by omega) (by omega);have e2:B7S (iV n) (iV (256-a))=A4 (iV ((min n (256-a)).toNat:Nat)):=by
     simp only [B7S]
     congr 3
     by_cases h:256-a<n
     ·rw [if_pos h];omega
     ·rw [if_neg h];omega
    generalize hN:(min n (256-a)).toNat=N at *;have e3:A13 (iV (N:Int)) (iV (N:Int))=A4 N:=by
     have:A5P (iV (N:Int))=A4 N:=by simp only [A5P];rw [if_pos (by omega)];simp
     simp [A13,this]
    have e4:(l.drop a.toNat).take n.toNat=(l.drop a.toNat).take N:=by
     by_cases h:256-a<n
     ·rw [E7i (by simp;omega),E7i (by simp;omega)]
     ·have:n.toNat=N:=by omega
      rw [this]
    have e5:((l.drop a.toNat).take N).length=N:=by simp;omega
    rw [e4,e5];have:=B8J (h:=g) (b:=0) (id:=0) (a:=a.toNat) (n:=N) (k:=N+1) (by omega) hl N 0 (N+1) (by omega) (by omega);simp only [show ((a.toNat:Nat):Int)=a by omega,E76,E7m,Nat.sub_zero] at this;exact ⟨_,_,by simp only [esc,c1,c2,c3,e1,e2,e3,nK];exact this,by simp [A9,e5],_,rfl,by omega,by simp⟩
theorem B57 {l:List UInt8} {h:B5} (hl:l.length=256) {a n:Int} :
  C0w [.a (B4 l),iV a,iV n] h=A4 (sV h.length 0 (cJ l a n).length 1,h++[rT (B4 (cJ l a n))]):=by
 obtain ⟨v,g,e,ho⟩:=D5n (g:=ro h) hl (a:=a) (n:=n);exact C90 e (by simpa [F7] using ho) (by simp)
theorem B8L {v:Val} {nv:Nat} {data l:List UInt8} {z:List Cell} {h:B5} (hv:Has h v 1 nv (B4 data)) {a k:Nat} (ha:a<256) (hl:l.length=256) (hz:z.length=256) (hd:data.length<9223372036854775808):∀ d i m,i+d=data.length->d<m->i<=256-a ->
  C8s k m (iV a) (pV h.length 0) (pV (h.length+1) 0) v (iV data.length) (iV i) (h++[rT (B4 (J1 l a (data.take i))),rT z]) =
   A4 (.a (B4 (J1 l a (data.take (256-a)))),h++[rT (B4 (J1 l a (data.take (256-a)))),rT (B4 (J1 l a (data.take (256-a))))])
 | d,i,0,_,hm,_=>by omega
 | d,i,m+1,hi,hm,hia=>by
  have hll:∀ i,i<=256-a->(B4 (J1 l a (data.take i))).length=256:=λi hi=>by rw [A9,P5 (by simp;omega),hl]
  have fin:data.take i=data.take (256-a)->C8r k (pV h.length 0) (pV (h.length+1) 0) (h++[rT (B4 (J1 l a (data.take i))),rT z]) =
   A4 (.a (B4 (J1 l a (data.take (256-a)))),h++[rT (B4 (J1 l a (data.take (256-a)))),rT (B4 (J1 l a (data.take (256-a))))]):=λe=>by
   rw [e];have cC:=hll (256-a) (E7b _);have s1:=C7 (h:=h++[rT (B4 (J1 l a (data.take (256-a)))),rT z]) (id:=h.length) (cs:=B4 (J1 l a (data.take (256-a)))) (by simp) cC;have s2:=storeAll (h:=h++[rT (B4 (J1 l a (data.take (256-a)))),rT z]) (id:=h.length+1) (cs:=z) (xs:=B4 (J1 l a (data.take (256-a)))) (by simp) hz cC;have s3:=C7 (h:=h++[rT (B4 (J1 l a (data.take (256-a)))),rT (B4 (J1 l a (data.take (256-a))))]) (id:=h.length+1) (cs:=B4 (J1 l a (data.take (256-a)))) (by simp) cC;rw [D0w];simp only [esc,s1,s2,s3]
  rw [D0x];by_cases c1:i<data.length
  ·obtain ⟨d,rfl⟩:∃ e,d=e+1:=⟨d-1,by omega⟩;have hnv:data.length=nv:=by simpa [A9] using hv.length
   obtain ⟨id,off,rfl,hid,h1,h2⟩:=(hv.more [rT (B4 (J1 l a (data.take i))),rT z]).sl (by omega);have hx:=h1 i (.i .u8 data[i].toNat) (by rw [aJ,E66 (by omega)];rfl);have eb:E1 1 (sV id off nv 1) (iV (i:Int))=A4 (pV id (off+i)):=by rw [C9 (by omega)];simp
   have e1:IntKind.wrap .i64 (256-(a:Int))=256-a:=wrap_i64 (by omega) (by omega);have c1':(i:Int)<data.length:=by omega
   by_cases c2:256-a<=i
   ·have c2':(256:Int)-a<=i:=by omega
    simp only [esc,c1',eb,hx,e1,c2'];exact fin (by rw [show i=256-a by omega])
   ·have c2':¬ (256:Int)-a<=i:=by omega
    have ih:=B8L hv (l:=l) (z:=z) (k:=k) ha hl hz hd d (i+1) m (by omega) (by omega) (by omega);have ea:J8 256 1 (pV h.length 0) (iV ((a+i:Nat):Int))=A4 (pV h.length (a+i)):=by rw [J4 (by omega)];simp
    have wS:=G9 (h:=h++[rT (B4 (J1 l a (data.take i))),rT z]) (id:=h.length) (off:=a+i) (cs:=B4 (J1 l a (data.take i))) (x:=.i .u8 data[i].toNat) (by simp)
     (by rw [hll i hia];omega)
    have e5:(J1 l a (data.take i)).set (a+i) data[i]=J1 l a (data.take (i+1)):=by
     have:=B2y (l:=l) (xs:=data.take i) (a:=a) (x:=data[i]) (by simp;omega);rw [E7A,E73 (by omega)] at this;rw [this,E7n c1]
    rw [iI,e5] at wS;simp only [esc,c1',eb,hx,e1,c2',A1Y (show a+i<9223372036854775808 by omega),ea,wS,D3 (show i+1<9223372036854775808 by omega)];exact ih
  ·have c1':¬ (i:Int)<data.length:=by omega
   simp only [esc,c1'];exact fin (by rw [E7i (by omega),E7i (by omega)])
def A86 (l:List UInt8) (a:Int) (data:List UInt8):List UInt8:=if 0<=a/\a<256 then J1 l a.toNat (data.take (256-a.toNat)) else l
theorem D5c {l:List UInt8} {a:Int} {data:List UInt8} (hl:l.length=256):(A86 l a data).length=256:=by
 unfold A86;split
 ·rw [P5 (by simp;omega),hl]
 ·exact hl
theorem D5o {v:Val} {nv:Nat} {data l:List UInt8} {g:B5} (hv:Has g v 1 nv (B4 data)) (hl:l.length=256) (hd:data.length<9223372036854775808) {a:Int} :
  ∃ g',B9F (data.length+1) [.a (B4 l),iV a,v] g=A4 (.a (B4 (A86 l a data)),g'):=by
 have cC:(B4 l).length=256:=by rw [A9,hl]
 have hz:(E68 256 (Cell.i .u8 0)).length=256:=E7B;have hnv:data.length=nv:=by simpa [A9] using hv.length
 rw [D2A];generalize E68 256 (Cell.i .u8 0)=z at *;have s1:=C7 (h:=g++[rT (B4 l),rT z]) (id:=g.length) (cs:=B4 l) (n:=256) (by simp) cC;have s2:=storeAll (h:=g++[rT (B4 l),rT z]) (id:=g.length+1) (cs:=z) (xs:=B4 l) (by simp) hz cC;have s3:=C7 (h:=g++[rT (B4 l),rT (B4 l)]) (id:=g.length+1) (cs:=B4 l) (n:=256) (by simp) cC;unfold A86;by_cases c1:a<0
 ·rw [if_neg (by omega)];exact ⟨_,by simp only [esc,c1,s1,s2,s3];rfl⟩
 ·by_cases c2:256<=a
  ·rw [if_neg (by omega)];exact ⟨_,by simp only [esc,c1,c2,s1,s2,s3];rfl⟩
  ·rw [if_pos (by omega)];have:=B8L hv (l:=l) (a:=a.toNat) (k:=data.length+1) (z:=z) (by omega) hl hz hd data.length 0 (data.length+1) (by omega) (by omega) (by omega);simp only [show ((a.toNat:Nat):Int)=a by omega,E76,B8A] at this;exact ⟨_,by simp only [esc,c1,c2,hv.len,<-hnv];exact this⟩
theorem B58 {v:Val} {nv:Nat} {data l:List UInt8} {h:B5} (hv:Has h v 1 nv (B4 data)) (hl:l.length=256) (hd:data.length<9223372036854775808) {a:Int} :
  C0y [.a (B4 l),iV a,v] h=A4 (.a (B4 (A86 l a data)),h):=by
 obtain ⟨g,e⟩:=D5o hv.ro hl hd (a:=a);exact C6F e (by simp)
theorem B2E {v:Val} {nv:Nat} {data:List UInt8} {h:B5} (hv:Has h v 1 nv (B4 data)) (hd:data.length<9223372036854775808) :
  C6G [v] h=A4 (.a (B4 (A86 (zeros 256) 0 data)),h):=by
 have key:∀ g,Has g v 1 nv (B4 data)->∃ g',C5V 0 [v] g=A4 (.a (B4 (A86 (zeros 256) 0 data)),g'):=by
  intro g hv;rw [D33];have hz:(B4 (zeros 256)).length=256:=by rw [A9];exact zeros_length
  have hz0:(zeros 256).length=256:=zeros_length;rw [I7];generalize zeros 256=Z at *;have e:=B58 (hv.more [rT (B4 Z)]) hz0 hd (a:=0);have hl2:(B4 (A86 Z 0 data)).length=256:=by rw [A9,D5c hz0]
  have s2:=storeAll (h:=g++[rT (B4 Z)]) (id:=g.length) (cs:=B4 Z) (xs:=B4 (A86 Z 0 data)) (by simp) hz hl2;have s3:=C7 (h:=g++[rT (B4 (A86 Z 0 data))]) (id:=g.length) (cs:=B4 (A86 Z 0 data)) (n:=256) (by simp) hl2;exact ⟨_,by simp only [esc,E4,e,s2,s3];rfl⟩
 obtain ⟨g,e⟩:=key _ hv.ro;exact C91 e (by simp)
noncomputable section
variable (n m m2:Nat) (a0 a1 a2 x0 x1 x2 x5 x6 x7 x8 x9:Val) (h:B5)
def tW:FD A8:=⟨px 0X11b02e861485c13762228c1915677c4c4813182dc18164a07c64c861c62a119861a07c4c040001f667c484a11b181519181043070241647c4c3e123f1918105219181043191810406051ec1915677c183c1319181042181330118210420170361276222461b3e2a862e5587f61a7587f185836581cb058345836061b1e2a8161487f44836061b1e2a84965387f5e383605617c4a1a12a3b210422103370361221032,[.c (.i .u64 0),.c (.b A6),.c (.b A5),.c (.i .u64 256)],[],[.tmp 6,.tmp 7],[]⟩
def C5p:=tW.R
def C2M:AtH:=tW.lj 0 n [m] [x0,x1,x8,x9]
def C6M:=tT [⟨2,4,C2M⟩]
def C9j:=mR C5p tW C6M n [a0,a1,a2] h
def B1f:=mL tW C6M 0 n [m] [x0,x1,x8,x9] h
def C4X:=tW.K Tryz.func89
def B4X:=tW.S
theorem B3y:SOk A8 89 B4X:=C4X.sok
theorem C3S:F6 C5p B4X:=C4X.flat
def B2f:FD A8:=⟨px 0X119c6164dc5e2a1361218c01887113a6802e28697c1b161a1e301ac6a04001c1197120116116122429657c3e19121a2104221033161121032,[],[],[.tmp 6],[cal B3y]⟩
def B9l:=B2f.R
def D2n:=mR B9l B2f (tT []) n [a0,a1,a2] h
def D0L:=B2f.K Tryz.func90
def A41:=B2f.S
theorem rC:SOk A8 90 A41:=D0L.sok
theorem C56:F6 B9l A41:=D0L.flat
def mO:FD A8:=⟨px 0X11a8417e2c124125c615607c2a1a131819c11361a7c42a131818c5162e13cc61017113fc64f836187c403e1c17651042156510430702461a17c006031965105265104365104060510165104251313b8151032143b911022,[.c (.i .u64 256)],[],[.tmp 4],[]⟩
def B6S:=mO.R
def B3O:AtH:=mO.lj 0 n [m] [x0,x1,x5,x6]
def B7K:=tT [⟨2,4,B3O⟩]
def C3p:=mR B6S mO B7K n [a0,a1] h
def A5n:=mL mO B7K 0 n [m] [x0,x1,x5,x6] h
def B6v:=mO.K Tryz.func123
def A0k:=mO.S
theorem iH:SOk A8 123 A0k:=B6v.sok
theorem B9P:oP B6S A0k:=B6v.out
def kC:FD A8:=⟨px 0X12ec613c5d126127c1815607c3a1e13182e87161e13cc61017113fc4c03c59151802c819161c62a119861a77c4048018071824363e2a861e16f7f66f1cb186f361a76f7f46f3486f360362a2a861a45d7f45d37e5d3601647c42c11f4a191872107219187210611a19c19161c61a11984e002815191872106215187210530702461e17c61c8001a1a141d1872106218721053187210506051011872105271313b81721042163b9121032,[.c (.b A6)],[],[.tmp 6],[]⟩
def C5q:=kC.R
def C2O:AtH:=kC.lj 0 n [m] [x0,x1,x2,x7,x8]
def C2N:AtH:=kC.lj 1 n [m] [x0,x1,x2,x7,x8,x9]
def B5A:=tT [⟨2,5,C2O⟩,⟨2,6,C2N⟩]
def C9k:=mR C5q kC B5A n [a0,a1,a2] h
def B1g:=mL kC B5A 0 n [m] [x0,x1,x2,x7,x8] h
def C7D:=mJ kC B5A 1 n [m] [x0,x1,x2,x7,x8,x9] h
def C4Y:=kC.K Tryz.func58
def B4Y:=kC.S
theorem iX:SOk A8 58 B4Y:=C4Y.sok
theorem C57:oP C5q B4Y:=C4Y.out
def pC:FD A8:=⟨px 0X17411412188515607c5a1f13180134114122462e37c161c61a11982c04061c61a11986e0029118019395104315510330702461e17c61c8003a1b141e51042510335103060510151032030134114122461e37c61c84061c806151a1032102334111022,[.c (.b A6),.c (.b A5)],[],[.tmp 4],[]⟩
def C12:=pC.R
def B76:AtH:=pC.lj 0 n [m] [x0,x1,x5]
def C2g:=tT [⟨2,3,B76⟩]
def C5r:=mR C12 pC C2g n [a0,a1] h
def A8m:=mL pC C2g 0 n [m] [x0,x1,x5] h
def C1s:=pC.K Tryz.func20
def A90:=pC.S
theorem bO:SOk A8 20 A90:=C1s.sok
theorem B9Q:F6 C12 A90:=C1s.flat
def tV:FD A8:=⟨px 0X1298613c4a126121d81815607c4839131828c7163a13cc61017113fc61c61a1198480003c3b11818151872105307024363a2a861a14d7f184d361a74d7f44d35e4d360362e2a861e1397f6391cb03932e393601647c41a11f381872106218721053187210506054c181419121872105271313b81721042163b9121032,[.c (.b A6)],[],[.tmp 6],[]⟩
def C5o:=tV.R
def B1e:AtH:=tV.lj 0 n [m] [x0,x1,x2,x7,x8]
def C6L:=tT [⟨2,5,B1e⟩]
def B3t:=mR C5o tV C6L n [a0,a1,a2] h
def sD:=mL tV C6L 0 n [m] [x0,x1,x2,x7,x8] h
def C4W:=tV.K Tryz.func221
def B4W:=tV.S
theorem B3x:SOk A8 221 B4W:=C4W.sok
theorem A9Z:oP C5o B4W:=C4W.out
end
theorem A8O {v u:Val} {nv nu:Nat} {l r:List UInt8} {h:B5} (hv:Has h v 1 nv (B4 l)) (hu:Has h u 1 nu (B4 r)) (hlr:l.length=r.length) (hl:l.length<9223372036854775807) {k:Nat}:∀ d i m,i+d=l.length->d<m ->
  B76 k m v u (iV i) h=A4 (bV (decide (l.drop i=r.drop i)),h)
 | d,i,0,_,hm=>by omega
 | 0,i,m+1,hi,hm=>by
  have hnv:l.length=nv:=by simpa [A9] using hv.length
  have e1:l.drop i=[]:=E7k (by omega);have e2:r.drop i=[]:=E7k (by omega);have h1':¬ (i:Int)<l.length:=by omega
  rw [A8m];simp only [esc,hv.len,<-hnv,h1',e1,e2]
 | d+1,i,m+1,hi,hm=>by
  have ih:=A8O hv hu hlr hl (k:=k) d (i+1) m (by omega) (by omega);have hnv:l.length=nv:=by simpa [A9] using hv.length
  have hnu:r.length=nu:=by simpa [A9] using hu.length
  have hlen:=hv.len;obtain ⟨id,off,rfl,hid,h1,h2⟩:=hv.sl (by omega);obtain ⟨bF,off',rfl,E60,h1',h2'⟩:=hu.sl (by omega);have hx:=h1 i (.i .u8 l[i].toNat) (by rw [aJ,E66 (by omega)];rfl);have hy:=h1' i (.i .u8 r[i].toNat) (by rw [aJ,E66 (by omega)];rfl);have ea:E1 1 (sV id off nv 1) (iV (i:Int))=A4 (pV id (off+i)):=by rw [C9 (by omega)];simp
  have eb:E1 1 (sV bF off' nu 1) (iV (i:Int))=A4 (pV bF (off'+i)):=by rw [C9 (by omega)];simp
  have c1:(i:Int)<nv:=by omega
  rw [A8m,E7d (by omega:i<l.length),E7d (by omega:i<r.length)];by_cases c:l[i]=r[i]
  ·simp only [esc,c1,ea,eb,hx,hy,c,D3 (show i+1<9223372036854775808 by omega),List.cons.injEq,true_and];exact ih
  ·have c':¬ (l[i].toNat:Int)=r[i].toNat:=λe=>c (UInt8.toNat_inj.1 (by omega))
   simp only [esc,c1,ea,eb,hx,hy,c',c,List.cons.injEq,false_and]
theorem dZ {v u:Val} {nv nu:Nat} {l r:List UInt8} {h:B5} (hv:Has h v 1 nv (B4 l)) (hu:Has h u 1 nu (B4 r)) (hl:l.length<9223372036854775807) :
  A90 [v,u] h=A4 (bV (decide (l=r)),h):=by
 refine B9Q (n:=l.length+1) (h2:=ro h) ?_ (by simp);have hnv:l.length=nv:=by simpa [A9] using hv.length
 have hnu:r.length=nu:=by simpa [A9] using hu.length
 rw [C5r];by_cases c:l.length=r.length
 ·have:=A8O hv.ro hu.ro c hl (k:=l.length+1) l.length 0 (l.length+1) (by omega) (by omega);simp only [E7p] at this;have c':(nv:Int)=nu:=by omega
  simp only [esc,hv.len,hu.len,c'];exact this
 ·have c':¬ (nv:Int)=nu:=by omega
  have c2:¬ l=r:=λe=>c (by rw [e])
  simp only [esc,hv.len,hu.len,c',c2]
theorem B12 {v:Val} {nv:Nat} {l:List UInt8} {h:B5} (hv:Has h v 1 nv (B4 l)) {a w k:Nat} (hw:w<=8) (haw:a+w<=l.length) (hl:l.length<9223372036854775808):∀ j m,j<=w->j<m ->
  C2M k m v (iV a) (.c (.i .u64 (le ((l.drop (a+j)).take (w-j))))) (iV ((j:Int)-1)) h=A4 (.t [.c (.i .u64 (le ((l.drop a).take w))),.c (.b A5)],h)
 | j,0,_,hm=>by omega
 | 0,m+1,hj,hm=>by
  rw [B1f];have h1':¬ (0:Int)<=((0:Nat):Int)-1:=by omega
  simp only [esc,h1',Nat.sub_zero]
 | j+1,m+1,hj,hm=>by
  have ih:=B12 hv (k:=k) hw haw hl j m (by omega) (by omega);have hnv:l.length=nv:=by simpa [A9] using hv.length
  obtain ⟨id,off,rfl,hid,h1,h2⟩:=hv.sl (by omega);have hx:=h1 (a+j) (.i .u8 l[a+j].toNat) (by rw [aJ,E66 (by omega)];rfl);have hb:=l[a+j].toNat_lt;have ea:E1 1 (sV id off nv 1) (iV ((a+j:Nat):Int))=A4 (pV id (off+(a+j))):=by rw [C9 (by omega)];simp
  have e0:((j+1:Nat):Int)-1=j:=by omega
  have e5:IntKind.wrap .u64 (l[a+j].toNat:Int)=l[a+j].toNat:=wrap_u64 (by omega) (by omega);have e6:IntKind.wrap .i64 ((j:Int)-1)=(j:Int)-1:=wrap_i64 (by omega) (by omega);have hlen:((l.drop (a+(j+1))).take (w-(j+1))).length=w-(j+1):=by simp;omega
  have cC:=C23 ((l.drop (a+(j+1))).take (w-(j+1)));rw [hlen] at cC;have hp:256 ^ (w-(j+1))<=256 ^ 7:=vN (by omega);have e7:(l.drop (a+j)).take (w-j)=l[a+j]::(l.drop (a+(j+1))).take (w-(j+1)):=by
   rw [E7d (by omega),show w-j=(w-(j+1))+1 by omega,List.take_succ_cons];rfl
  rw [e7] at ih;have e8:IntKind.wrap .u64 ((le ((l.drop (a+(j+1))).take (w-(j+1))):Nat)*256)=((le ((l.drop (a+(j+1))).take (w-(j+1)))*256:Nat):Int):=by
   rw [wrap_u64 (by omega) (by omega)];omega
  have e9:IntKind.wrap .u64 (((le ((l.drop (a+(j+1))).take (w-(j+1)))*256:Nat):Int)+l[a+j].toNat)=((le (l[a+j]::(l.drop (a+(j+1))).take (w-(j+1))):Nat):Int):=by
   simp only [le];rw [wrap_u64 (by omega) (by omega)];omega
  have h1':(0:Int)<=j:=by omega
  rw [B1f,e0];simp only [esc,h1',A1Y (show a+j<9223372036854775808 by omega),ea,hx,e5,e8,e9,e6];exact ih
theorem B81 {v:Val} {nv:Nat} {l:List UInt8} {h:B5} (hv:Has h v 1 nv (B4 l)) {a w:Int} (hl:l.length<9223372036854775808) :
  B4X [v,iV a,iV w] h=A4 (.t [.c (.i .u64 ((C7Q l a w).getD 0:Nat)),.c (.b (C7Q l a w).isSome)],h):=by
 refine C3S (n:=w.toNat+1) (h2:=ro h) ?_ (by simp);rw [C9j];have hv':=hv.ro;have hnv:l.length=nv:=by simpa [A9] using hv.length
 unfold C7Q;by_cases c1:w<1
 ·rw [if_neg (by rw [O0];omega)];simp only [esc,c1,E7Z,E7x]<;>rfl
 ·by_cases c2:8<w
  ·rw [if_neg (by omega)];simp only [esc,c1,c2,E7Z,E7x]<;>rfl
  ·by_cases c3:a<0
   ·rw [if_neg (by rw [O0];omega)];simp only [esc,c1,c2,c3,E7Z,E7x]<;>rfl
   ·have e1:IntKind.wrap .i64 ((nv:Int)-w)=nv-w:=wrap_i64 (by omega) (by omega);by_cases c4:(nv:Int)-w<a
    ·rw [if_neg (by rw [O0];omega)];simp only [esc,c1,c2,c3,c4,hv'.len,e1,E7Z,E7x]<;>rfl
    ·rw [if_pos (by rw [O0];omega)];have:=B12 hv' (a:=a.toNat) (w:=w.toNat) (k:=w.toNat+1) (by omega) (by omega) hl w.toNat (w.toNat+1) (by omega) (by omega);simp only [show ((a.toNat:Nat):Int)=a by omega,show ((w.toNat:Nat):Int)=w by omega,E7R,E76,le] at this;have e2:IntKind.wrap .i64 (w-1)=w-1:=wrap_i64 (by omega) (by omega);simp only [esc,c1,c2,c3,c4,hv'.len,e1,e2,E7N,E7o];exact this
theorem A5T {g:B5} {w k:Nat} {v:Int} (hw:w<=8) (hv:0<=v) (hv2:v<18446744073709551616):∀ d i m h id,i+d=w->d<m->Low g.length g h->g.length<=id->rd h id=rT (B4 (B9 i v)) ->
  ∃ v' h',B3O k m (iV w) (.c (.i .u64 (v/256 ^ i))) (sV id 0 i 1) (iV i) h=A4 (v',h')/\Out g.length h' v' 1 w (B4 (B9 w v))
 | d,i,0,h,id,_,hm,_,_,_=>by omega
 | 0,i,m+1,h,id,hi,hm,hlow,hb,hr=>by
  have e:i=w:=by omega
  subst e;have h1':¬ (i:Int)<i:=by omega
  rw [A5n];exact ⟨_,_,by simp only [esc,h1']<;>rfl,by simp [A9],id,rfl,hb,hr⟩
 | d+1,i,m+1,h,id,hi,hm,hlow,hb,hr=>by
  have hq:0<=v/256 ^ i:=Int.ediv_nonneg hv (Int.pow_nonneg (by omega));have e1:O4 .rem (.c (.i .u64 (v/256 ^ i))) (.c (.i .u64 256))=A4 (.c (.i .u64 (v/256 ^ i%256))):=by
   rw [D39 (by omega),Int.tmod_eq_emod_of_nonneg hq]
  have e2:IntKind.wrap .u8 (v/256 ^ i%256)=((byI v i).toNat:Int):=by rw [qD,A0p];omega
  have cC:v/256 ^ i<=v:=Int.ediv_le_self _ hv;have e3:O4 .quo (.c (.i .u64 (v/256 ^ i))) (.c (.i .u64 256))=A4 (.c (.i .u64 (v/256 ^ (i+1)))):=by
   have h0:v/256 ^ i/256=v/256 ^ (i+1):=by rw [Int.ediv_ediv_of_nonneg (Int.pow_nonneg (by omega)),Int.pow_succ]
   rw [D38 (by omega),Int.tdiv_eq_ediv_of_nonneg hq,h0];have h1:0<=v/256 ^ (i+1):=Int.ediv_nonneg hv (Int.pow_nonneg (by omega));have h2:v/256 ^ (i+1)<=v:=Int.ediv_le_self _ hv;exact congrArg A4 (congrArg Val.c (congrArg (Cell.i .u64) (wrap_u64 h1 (by omega))))
  obtain ⟨h',a1,a2,a3,a4,a5⟩:=push (ys:=[.i .u8 (byI v i).toNat]) (sz:=1) (n:=i) hlow hr (by simp [A9]) hb rfl (by omega) (by omega);have e4:B4 (B9 i v)++[Cell.i .u8 (byI v i).toNat]=B4 (B9 (i+1) v):=by rw [A2Q,M6];rfl
  rw [e4] at a2;obtain ⟨v',h'',b1,b2⟩:=A5T (k:=k) hw hv hv2 d (i+1) m h' (h.length+1) (by omega) (by omega) a3 a4 a2;have h1':(i:Int)<w:=by omega
  have e5:E4 [Cell.i .u8 0] [(0,1,.c (.i .u8 (byI v i).toNat))]=A4 [.i .u8 (byI v i).toNat]:=rfl;rw [A5n];exact ⟨v',h'',by simp only [esc,h1',e1,e2,e5,a1,e3,D3 (show i+1<9223372036854775808 by omega)];exact b1,b2⟩
theorem A1Q {w:Nat} {v:Int} {h:B5} (hw:w<=8) (hv:0<=v) (hv2:v<18446744073709551616) :
  A0k [iV w,.c (.i .u64 v)] h=A4 (sV h.length 0 w 1,h++[rT (B4 (B9 w v))]):=by
 obtain ⟨v',h',e,ho⟩:=A5T (g:=ro h) (k:=w+1) hw hv hv2 w 0 (w+1) (ro h++[rT [],rT []]) ((ro h).length+1) (by omega) (by omega) ((Low.refl (E7b _)).new _) (by simp) (by simp [B9];rfl);refine B9P (n:=w+1) (v:=v') (h2:=h') ?_ (by simpa [F7] using ho) (by simp);rw [C3p];simp only [Int.pow_zero,Int.ediv_one] at e;simp only [esc];exact e
def A87 (l:List UInt8) (a:Int) (data:List UInt8):List UInt8:=if 0<=a then l.take a.toNat++((data.take (l.length-a.toNat))++l.drop (a.toNat+data.length)) else l
theorem B1K {l data:List UInt8} {a:Int}:(A87 l a data).length=l.length:=by
 unfold A87;split
 ·simp;omega
 ·rfl
theorem E0H {l data:List UInt8} {a:Int} {i:Nat} (hi:i<l.length):(A87 l a data)[i]?=if 0<=a/\a<=i/\i-a<data.length then data[i-a.toNat]? else l[i]? := by
 unfold A87;by_cases c1:0<=a
 ·rw [if_pos c1];by_cases c2:a<=i
  ·rw [E7l (by simp;omega)];have e1:(l.take a.toNat).length=a.toNat:=by simp;omega
   rw [e1];by_cases c3:i-a<data.length
   ·rw [if_pos ⟨c1,c2,c3⟩,E7H (by simp;omega),E7G (by omega)]
   ·rw [if_neg (by omega),E7l (by simp;omega),E7W]
    congr 1
    simp;omega
  ·rw [if_neg (by omega),E7H (by simp;omega),E7G (by omega)]
 ·rw [if_neg c1,if_neg (by omega)]
theorem B13 {g:B5} {v u:Val} {nv nu:Nat} {l data:List UInt8} (hv:Has g v 1 nv (B4 l)) (hu:Has g u 1 nu (B4 data)) {a:Int} (ha:a<9223372036854775808) {k:Nat} (hl:l.length<=1073741824):∀ d i m h id,i+d=l.length->d<m->Low g.length g h->g.length<=id->rd h id=rT (B4 ((A87 l a data).take i)) ->
  ∃ v' h',C2O k m v (iV a) u (sV id 0 i 1) (iV i) h=A4 (v',h')/\Out g.length h' v' 1 l.length (B4 (A87 l a data))
 | d,i,0,h,id,_,hm,_,_,_=>by omega
 | 0,i,m+1,h,id,hi,hm,hlow,hb,hr=>by
  have hnv:l.length=nv:=by simpa [A9] using hv.length
  have e:i=nv:=by omega
  subst e;have h1':¬ (i:Int)<i:=by omega
  rw [E7i (by rw [B1K];omega)] at hr;rw [B1g];exact ⟨_,_,by simp only [esc,(hv.since hlow).len,h1']<;>rfl,by simp [A9,B1K],id,by rw [hnv],hb,hr⟩
 | d+1,i,m+1,h,id,hi,hm,hlow,hb,hr=>by
  have hnv:l.length=nv:=by simpa [A9] using hv.length
  have hnu:data.length=nu:=by simpa [A9] using hu.length
  have hvl:=(hv.since hlow).len;have hul:=(hu.since hlow).len;obtain ⟨idv,offv,rfl,-,hv1,-⟩:=(hv.since hlow).sl (by omega);have hx:=hv1 i (.i .u8 l[i].toNat) (by rw [aJ,E66 (by omega)];rfl);have ea:E1 1 (sV idv offv nv 1) (iV (i:Int))=A4 (pV idv (offv+i)):=by rw [C9 (by omega)];simp
  have c1:(i:Int)<nv:=by omega
  have step:∀ x:UInt8,(A87 l a data)[i]?=A4 x->∃ v' h',C2N k m (sV idv offv nv 1) (iV a) u (sV id 0 i 1) (iV i) (.c (.i .u8 x.toNat)) h=A4 (v',h')/\Out g.length h' v' 1 l.length (B4 (A87 l a data)):=by
   intro x hx;obtain ⟨h',a1,a2,a3,a4,a5⟩:=push (ys:=[.i .u8 x.toNat]) (sz:=1) (n:=i) hlow hr (by rw [A9,E7A,B1K];omega) hb rfl (by omega) (by omega);have e4:B4 ((A87 l a data).take i)++[Cell.i .u8 x.toNat]=B4 ((A87 l a data).take (i+1)):=by
    rw [List.take_add_one,hx,M6];rfl
   rw [e4] at a2;obtain ⟨v',h'',b1,b2⟩:=B13 (k:=k) hv hu ha hl d (i+1) m h' (h.length+1) (by omega) (by omega) a3 a4 a2;have e5:E4 [Cell.i .u8 0] [(0,1,.c (.i .u8 x.toNat))]=A4 [.i .u8 x.toNat]:=rfl;rw [C7D];exact ⟨v',h'',by simp only [esc,e5,a1,D3 (show i+1<9223372036854775808 by omega)];exact b1,b2⟩
  have hg:=E0H (l:=l) (data:=data) (a:=a) (i:=i) (by omega);have hli:l[i]?=A4 l[i]:=E66 (by omega);rw [B1g];by_cases c2:0<=a
  ·by_cases c3:a<=i
   ·have e6:IntKind.wrap .i64 ((i:Int)-a)=((i-a.toNat:Nat):Int):=by rw [wrap_i64 (by omega) (by omega)];omega
    by_cases c4:i-a.toNat<data.length
    ·rw [if_pos (by omega),E66 c4] at hg;obtain ⟨idu,offu,rfl,-,hu1,-⟩:=(hu.since hlow).sl (by omega);have hy:=hu1 (i-a.toNat) (.i .u8 (data[i-a.toNat]'(by omega)).toNat) (by rw [aJ,E66 c4];rfl);have eb:E1 1 (sV idu offu nu 1) (iV ((i-a.toNat:Nat):Int))=A4 (pV idu (offu+(i-a.toNat))):=by rw [C9 (by omega)];simp
     have c4':((i-a.toNat:Nat):Int)<nu:=by omega
     simp only [esc,hvl,c1,ea,hx,c2,c3,e6,hul,c4',eb,hy];exact step _ hg
    ·rw [if_neg (by omega),hli] at hg;have c4':¬ ((i-a.toNat:Nat):Int)<nu:=by omega
     simp only [esc,hvl,c1,ea,hx,c2,c3,e6,hul,c4'];exact step _ hg
   ·rw [if_neg (by omega),hli] at hg;simp only [esc,hvl,c1,ea,hx,c2,c3];exact step _ hg
  ·rw [if_neg (by omega),hli] at hg;simp only [esc,hvl,c1,ea,hx,c2];exact step _ hg
theorem nJ {v u:Val} {nv nu:Nat} {l data:List UInt8} {h:B5} (hv:Has h v 1 nv (B4 l)) (hu:Has h u 1 nu (B4 data)) {a:Int} (ha:a<9223372036854775808) (hl:l.length<=1073741824) :
  B4Y [v,iV a,u] h=A4 (sV h.length 0 l.length 1,h++[rT (B4 (A87 l a data))]):=by
 obtain ⟨v',h',e,ho⟩:=B13 (k:=l.length+1) hv.ro hu.ro ha hl l.length 0 (l.length+1) (ro h++[rT [],rT []]) ((ro h).length+1) (by omega) (by omega) ((Low.refl (E7b _)).new _) (by simp) (by simp;rfl);refine C57 (n:=l.length+1) (v:=v') (h2:=h') ?_ (by simpa [F7] using ho) (by simp);rw [C9k];simp only [esc];exact e
theorem A0R {l xs:List UInt8} {a:Nat} (h:a+xs.length<=l.length):A87 l a xs=J1 l a xs:=by
 unfold A87 J1;rw [if_pos (by omega)];simp only [E7r];rw [E7i (l:=xs) (by omega)]
def atG (l:List UInt8) (a w:Int):Nat:=if w<=4/\sQ a w l.length=A5 then le ((l.drop a.toNat).take w.toNat) else 0
theorem E10 {l:List UInt8} {a w:Int} (hl:l.length=256):atG l a w=atN l a w:=by
 unfold atG atN;rw [hl];rfl
theorem D14 {v:Val} {nv:Nat} {l:List UInt8} {h:B5} (hv:Has h v 1 nv (B4 l)) {a w:Int} (hl:l.length<9223372036854775808) :
  A41 [v,iV a,iV w] h=A4 (iV (atG l a w),h):=by
 have key:∀ g,Has g v 1 nv (B4 l)->B9l 0 [v,iV a,iV w] g=A4 (iV (atG l a w),g):=by
  intro g hv;rw [D2n];unfold atG;by_cases c1:4<w
  ·rw [if_neg (by omega)];simp only [esc,c1]<;>rfl
  ·have e:=B81 hv (a:=a) (w:=w) hl;unfold C7Q at e;by_cases c2:sQ a w l.length=A5
   ·have c3:=O0.1 c2;rw [if_pos ⟨by omega,c2⟩] at e;rw [if_pos ⟨by omega,c2⟩];have cC:=C23 ((l.drop a.toNat).take w.toNat);have hlen:((l.drop a.toNat).take w.toNat).length=w.toNat:=by simp;omega
    rw [hlen] at cC;have hp:256 ^ w.toNat<=256 ^ 4:=vN (by omega);simp only [E7N,E7o] at e;have e2:IntKind.wrap .i64 ((le ((l.drop a.toNat).take w.toNat):Nat):Int)=le ((l.drop a.toNat).take w.toNat):=wrap_i64 (by omega) (by omega);simp only [esc,c1,e,e2]
   ·rw [if_neg (λh=>c2 h.2)] at e;rw [if_neg (λh=>c2 h.2)];simp only [E7Z,E7x] at e;simp only [esc,c1,e]<;>rfl
 exact C56 (key _ hv.ro) (by simp)
theorem qC {v:Val} {nv:Nat} {l:List UInt8} {h:B5} (hv:Has h v 1 nv (B4 l)) {a w:Int} (hl:l.length=256) :
  A41 [v,iV a,iV w] h=A4 (iV (atN l a w),h):=by
 rw [D14 hv (by omega),E10 hl]
theorem D9P {v:Int} {i:Nat} (hi:i<8):byI (IntKind.wrap .u64 v) i=byI v i:=by
 have hw:IntKind.wrap .u64 v=v%18446744073709551616:=by
  simp only [IntKind.wrap,IntKind.bits,IntKind.signed,E7f];rfl
 apply UInt8.toNat_inj.1;have h1:((byI (IntKind.wrap .u64 v) i).toNat:Int)=(v%18446744073709551616)/256 ^ i%256:=by rw [A0p,hw]
 have h2:=A0p v i;have h3:(v%18446744073709551616)/256 ^ i%256=v/256 ^ i%256:=by
  have:i=0\/i=1\/i=2\/i=3\/i=4\/i=5\/i=6\/i=7:=by omega
  rcases this with rfl | rfl | rfl | rfl | rfl | rfl | rfl | rfl<;>simp only [Int.reducePow]<;>omega
 omega
theorem D4y {v:Int} {w:Nat} (hw:w<=8):B9 w (IntKind.wrap .u64 v)=B9 w v:=by
 unfold B9;refine List.map_congr_left λi hi=>D9P ?_
 have:=List.mem_range.1 hi;omega
theorem B11 {g:B5} {v:Val} {nv:Nat} {l:List UInt8} (hv:Has g v 1 nv (B4 l)) {a n:Int} (h0:0<=a) (h1:a<9223372036854775808) {k:Nat} (hl:l.length<=1073741824):∀ d i m h id,i+d=(cJ l a n).length->d<m->Low g.length g h->g.length<=id->rd h id=rT (B4 ((cJ l a n).take i)) ->
  ∃ v' h',B1e k m v (iV a) (iV n) (sV id 0 i 1) (iV (a+i)) h=A4 (v',h')/\Out g.length h' v' 1 (cJ l a n).length (B4 (cJ l a n))
 | d,i,0,h,id,_,hm,_,_,_=>by omega
 | 0,i,m+1,h,id,hi,hm,hlow,hb,hr=>by
  have hnv:l.length=nv:=by simpa [A9] using hv.length
  have e:i=(cJ l a n).length:=by omega
  rw [E7i (by omega)] at hr;have hc:(cJ l a n).length=min n.toNat (l.length-a.toNat):=by unfold cJ;rw [if_pos h0];simp
  rw [sD];subst e;by_cases c1:a+((cJ l a n).length:Int)<nv
  ·have c2:¬ ((cJ l a n).length:Int)<n:=by omega
   have e1:IntKind.wrap .i64 (a+((cJ l a n).length:Int)-a)=(cJ l a n).length:=by rw [wrap_i64 (by omega) (by omega)];omega
   exact ⟨_,_,by simp only [esc,(hv.since hlow).len,h0,c1,e1,c2]<;>rfl,by simp [A9],id,rfl,hb,hr⟩
  ·exact ⟨_,_,by simp only [esc,(hv.since hlow).len,h0,c1]<;>rfl,by simp [A9],id,rfl,hb,hr⟩
 | d+1,i,m+1,h,id,hi,hm,hlow,hb,hr=>by
  have hnv:l.length=nv:=by simpa [A9] using hv.length
  have hc:(cJ l a n).length=min n.toNat (l.length-a.toNat):=by unfold cJ;rw [if_pos h0];simp
  have hvl:=(hv.since hlow).len;obtain ⟨idv,offv,rfl,-,hv1,-⟩:=(hv.since hlow).sl (by omega);have hx:=hv1 (a.toNat+i) (.i .u8 (l[a.toNat+i]'(by omega)).toNat) (by rw [aJ,E66 (by omega)];rfl);have e0:(a+(i:Int))=((a.toNat+i:Nat):Int):=by omega
  have ea:E1 1 (sV idv offv nv 1) (iV ((a.toNat+i:Nat):Int))=A4 (pV idv (offv+(a.toNat+i))):=by rw [C9 (by omega)];simp
  have c1:((a.toNat+i:Nat):Int)<nv:=by omega
  have e1:IntKind.wrap .i64 (((a.toNat+i:Nat):Int)-a)=i:=by rw [wrap_i64 (by omega) (by omega)];omega
  have c2:(i:Int)<n:=by omega
  obtain ⟨h',a1,a2,a3,a4,a5⟩:=push (ys:=[.i .u8 (l[a.toNat+i]'(by omega)).toNat]) (sz:=1) (n:=i) hlow hr (by rw [A9,E7A];omega) hb rfl (by omega) (by omega);have e4:B4 ((cJ l a n).take i)++[Cell.i .u8 (l[a.toNat+i]'(by omega)).toNat]=B4 ((cJ l a n).take (i+1)):=by
   have:(cJ l a n)[i]?=A4 (l[a.toNat+i]'(by omega)):=by
    unfold cJ;rw [if_pos h0,E7G (by omega),E7W,E66 (by omega)]
   rw [List.take_add_one,this,M6];rfl
  rw [e4] at a2;obtain ⟨v',h'',b1,b2⟩:=B11 (k:=k) hv h0 h1 hl d (i+1) m h' (h.length+1) (by omega) (by omega) a3 a4 a2;have e6:a+((i+1:Nat):Int)=((a.toNat+i+1:Nat):Int):=by omega
  rw [e6] at b1;have e5:E4 [Cell.i .u8 0] [(0,1,.c (.i .u8 (l[a.toNat+i]'(by omega)).toNat))]=A4 [.i .u8 (l[a.toNat+i]'(by omega)).toNat]:=rfl;rw [sD,e0];exact ⟨v',h'',by simp only [esc,hvl,h0,c1,e1,c2,ea,hx,e5,a1,D3 (show a.toNat+i+1<9223372036854775808 by omega)];exact b1,b2⟩
theorem A7M {v:Val} {nv:Nat} {l:List UInt8} {h:B5} (hv:Has h v 1 nv (B4 l)) {a n:Int} (h1:a<9223372036854775808) (hl:l.length<=1073741824) :
  B4W [v,iV a,iV n] h=A4 (sV h.length 0 (cJ l a n).length 1,h++[rT (B4 (cJ l a n))]):=by
 by_cases h0:0<=a
 ·obtain ⟨v',h',e,ho⟩:=B11 (k:=(cJ l a n).length+1) (n:=n) hv.ro h0 h1 hl (cJ l a n).length 0 ((cJ l a n).length+1) (ro h++[rT [],rT []]) ((ro h).length+1) (by omega) (by omega) ((Low.refl (E7b _)).new _) (by simp) (by simp;rfl);refine A9Z (n:=(cJ l a n).length+1) (v:=v') (h2:=h') ?_ (by simpa [F7] using ho) (by simp);rw [B3t];simp only [esc];simpa using e
 ·have e:cJ l a n=[]:=by unfold cJ;rw [if_neg h0]
  rw [e];refine A9Z (n:=1) (v:=sV ((ro h).length+1) 0 0 1) (h2:=ro h++[rT [],rT []]) ?_ ⟨by simp [A9],_,rfl,by rw [F7];omega,by simp;rfl⟩ (by simp);rw [B3t];have:∀ n:Nat,∀ x h,B1e n 1 v (iV a) x (sV ((ro h).length+1) 0 0 1) (iV a) h=A4 (sV ((ro h).length+1) 0 0 1,h):=by
   intro n x h;rw [sD n 0];simp only [esc,h0]
  simp only [esc];have e2:=sD 1 0 v (iV a) (iV n) (sV ((ro h).length+1) 0 0 1) (iV a) (ro h++[rT [],rT []]);rw [e2];simp only [esc,h0]
theorem B8K {v:Val} {nv:Nat} {l:List UInt8} {h:B5} (hv:Has h v 1 nv (B4 l)) {a w k:Nat} (hw:w<=8) (haw:a+w<=l.length) (hl:l.length<9223372036854775808):∀ d i m,i+d=w->d<m ->
  C8q k m v (iV a) (.c (.i .u64 (le ((l.drop a).take i)))) (iV w) (iV i) h=A4 (.t [.c (.i .u64 (le ((l.drop a).take w))),.c (.b A5)],h)
 | d,i,0,_,hm=>by omega
 | 0,i,m+1,hi,hm=>by
  have e:i=w:=by omega
  subst e;rw [B4g];simp
 | d+1,i,m+1,hi,hm=>by
  have ih:=B8K hv (k:=k) hw haw hl d (i+1) m (by omega) (by omega);have hnv:l.length=nv:=by simpa [A9] using hv.length
  obtain ⟨id,off,rfl,hid,h1,h2⟩:=hv.sl (by omega);have hx:=h1 (a+i) (.i .u8 l[a+i].toNat) (by rw [aJ,E66 (by omega)];rfl);have hb:=l[a+i].toNat_lt;have hlen:((l.drop a).take i).length=i:=by simp;omega
  have cC:=C23 ((l.drop a).take i);rw [hlen] at cC;have hp:=vN (show i<=8 by omega);have hbp:=C2A (x:=l[a+i]) (show i<8 by omega);have e2:IntKind.wrap .i64 (8*(i:Int))=8*i:=wrap_i64 (by omega) (by omega);have e3:IntKind.wrap .u64 (8*(i:Int))=8*i:=wrap_u64 (by omega) (by omega);have e5:IntKind.wrap .u64 (l[a+i].toNat:Int)=l[a+i].toNat:=wrap_u64 (by omega) (by omega);have e6:=D5N (k:=.u64) (x:=l[a+i]) (show i<8 by omega) (wrap_u64 (by omega) (by omega)) rfl;have e7:O4 .or (.c (.i .u64 (le ((l.drop a).take i):Nat))) (.c (.i .u64 ((l[a+i].toNat*256 ^ i:Nat):Int)))=A4 (.c (.i .u64 (le ((l.drop a).take (i+1)):Nat))):=by
   rw [E4v (by omega) (by omega),A4G (by omega),<-D7M,hlen]
  have ea:E1 1 (sV id off nv 1) (iV ((a+i:Nat):Int))=A4 (pV id (off+(a+i))):=by rw [C9 (by omega)];simp
  have h1':(i:Int)<w:=by omega
  rw [B4g];simp only [esc,h1',A1Y (show a+i<9223372036854775808 by omega),e2,e3,ea,hx,e5,e6,e7,D3 (show i+1<9223372036854775808 by omega)];exact ih
theorem D6G {v:Val} {nv:Nat} {l:List UInt8} {h:B5} (hv:Has h v 1 nv (B4 l)) {a w:Int} (hl:l.length<9223372036854775808) :
  C0x [v,iV a,iV w] h=A4 (.t [.c (.i .u64 ((C7Q l a w).getD 0:Nat)),.c (.b (C7Q l a w).isSome)],h):=by
 refine C6E (n:=w.toNat+1) (h2:=ro h) ?_ (by simp);rw [D2z];have hv':=hv.ro;have hnv:l.length=nv:=by simpa [A9] using hv.length
 unfold C7Q;by_cases c1:8<w
 ·have c1':¬ w<=8:=by omega
  simp [c1,c1']
 ·have c1':w<=8:=by omega
  cases c2:sQ a w l.length with
  | false=>simp [c1,hv'.len,<-hnv,yK (show (l.length:Int)<9223372036854775808 by omega),c2]
  | true =>
   simp [c1,c1',hv'.len,<-hnv,yK (show (l.length:Int)<9223372036854775808 by omega),c2];rw [O0] at c2;have:=B8K hv' (a:=a.toNat) (w:=w.toNat) (k:=w.toNat+1) (by omega) (by omega) hl w.toNat 0 (w.toNat+1) (by omega) (by omega);simp only [show ((a.toNat:Nat):Int)=a by omega,show ((w.toNat:Nat):Int)=w by omega] at this;simpa [le] using this
theorem B8M {l:List UInt8} {b id a w k:Nat} {v:Int} (hw:w<=8) (haw:a+w<=l.length) (hl:l.length<9223372036854775808):∀ d i m (h:B5),i+d=w->d<m->b<=id->b<=h.length->rd h id=rT (B4 (J1 l a (B9 i v))) ->
  ∃ h',C8t k m (iV a) (.c (.i .u64 v)) (sV id 0 l.length 1) (iV w) (iV i) h=A4 (.t [.c (.sl id 0 l.length 1),.c (.b A5)],h')/\rd h' id=rT (B4 (J1 l a (B9 w v)))
 | d,i,0,h,_,hm,_,_,_=>by omega
 | 0,i,m+1,h,hi,hm,_,_,hr=>by
  have e:i=w:=by omega
  subst e;have h1':¬ (i:Int)<i:=by omega
  rw [B4h];exact ⟨h,by simp only [esc,h1'],hr⟩
 | d+1,i,m+1,h,hi,hm,hb,hbl,hr=>by
  have e2:IntKind.wrap .i64 (8*(i:Int))=8*i:=wrap_i64 (by omega) (by omega);have e3:IntKind.wrap .u64 (8*(i:Int))=8*i:=wrap_u64 (by omega) (by omega);have e4:O4 .shr (.c (.i .u64 v)) (.c (.i .u64 (8*(i:Int))))=A4 (.c (.i .u64 (v/2 ^ (Nat.min (8*(i:Int)).toNat 64)))):=C6X (by omega);have ea:E1 1 (sV id 0 l.length 1) (iV ((a+i:Nat):Int))=A4 (pV id (a+i)):=by rw [C9 (by omega)];simp
  have wS:=G9 (off:=a+i) (x:=.i .u8 (byI v i).toNat) hr (by rw [A9,P5 (by simp;omega)];omega);have e5:(J1 l a (B9 i v)).set (a+i) (byI v i)=J1 l a (B9 (i+1) v):=by
   rw [A2Q];have:=B2y (l:=l) (xs:=B9 i v) (a:=a) (x:=byI v i) (by simp;omega);simpa using this
  rw [iI,e5] at wS;obtain ⟨h',ih,hr'⟩:=B8M (b:=b) (k:=k) (v:=v) hw haw hl d (i+1) m (h.set id (rT (B4 (J1 l a (B9 (i+1) v))))) (by omega) (by omega) hb (by simpa using hbl) (C6 (C8 hr));have h1':(i:Int)<w:=by omega
  rw [B4h];exact ⟨h',by simp only [esc,h1',A1Y (show a+i<9223372036854775808 by omega),e2,e3,e4,D1n (v:=v) (show i<8 by omega),ea,wS,D3 (show i+1<9223372036854775808 by omega)];exact ih,hr'⟩
def B8X (l:List UInt8) (a w v:Int):Option (List UInt8):=if w<=8/\sQ a w l.length=A5 then A4 (J1 l a.toNat (B9 w.toNat v)) else A7
theorem D6H {x:Val} {nv:Nat} {l:List UInt8} {h:B5} (hv:Has h x 1 nv (B4 l)) {a w v:Int} (hl:l.length<=1073741824) :
  C0z [x,iV a,iV w,.c (.i .u64 v)] h=A4 (.t [.c (.sl h.length 0 ((B8X l a w v).getD []).length 1),.c (.b (B8X l a w v).isSome)],h++[rT (B4 ((B8X l a w v).getD []))]):=by
 have hnv:l.length=nv:=by simpa [A9] using hv.length
 have key:∀ g,Has g x 1 nv (B4 l)->∃ id g',B9G (w.toNat+1) [x,iV a,iV w,.c (.i .u64 v)] g=A4 (.t [.c (.sl id 0 ((B8X l a w v).getD []).length 1),.c (.b (B8X l a w v).isSome)],g')/\g.length<=id/\rd g' id=rT (B4 ((B8X l a w v).getD [])):=by
  intro g hv;rw [D2B];have hvm:=hv.more [rT []];unfold B8X;by_cases c1:8<w
  ·rw [if_neg (by omega)];exact ⟨_,_,by simp only [esc,c1];rfl,by simp,by simp;rfl⟩
  ·cases c2:sQ a w l.length with
   | false =>
    rw [if_neg (by simp)];exact ⟨_,_,by simp only [esc,c1,hvm.len,<-hnv,yK (show (l.length:Int)<9223372036854775808 by omega),c2];rfl,by simp,by simp;rfl⟩
   | true =>
    rw [if_pos ⟨by omega,rfl⟩];have c3:=O0.1 c2;have hvm2:=hv.more [rT [],rT []];have e1:jZ (g++[rT [],rT []]) 1 (sV (g.length+1) 0 0 1) x=A4 (sV (g.length+2) 0 l.length 1,g++[rT [],A7,rT (B4 l)]):=by
     simp [jZ,hvm2.add,A9];exact hl
    obtain ⟨g',e2,hr⟩:=B8M (l:=l) (b:=g.length) (id:=g.length+2) (a:=a.toNat) (w:=w.toNat) (k:=w.toNat+1) (v:=v) (by omega) (by omega) (by omega) w.toNat 0 (w.toNat+1) (g++[rT [],A7,rT (B4 l)]) (by omega) (by omega) (by omega) (by simp) (by simp [B9,B8A]);simp only [show ((a.toNat:Nat):Int)=a by omega,show ((w.toNat:Nat):Int)=w by omega] at e2;have hlen:((A4 (J1 l a.toNat (B9 w.toNat v))).getD []).length=l.length:=by
     simp only [E7N];rw [P5 (by simp;omega)]
    rw [hlen];exact ⟨g.length+2,g',by simp only [esc,c1,hvm.len,<-hnv,yK (show (l.length:Int)<9223372036854775808 by omega),c2,E4,e1];exact e2,by omega,hr⟩
 obtain ⟨id,g',e,hb,hr⟩:=key _ hv.ro;have hb':h.length<=id:=by simpa [F7] using hb
 have:=C6H e (v2:=.t [.c (.sl h.length 0 ((B8X l a w v).getD []).length 1),.c (.b (B8X l a w v).isSome)]) (ids:=[id]) (by
  have e2:R5 g' h.length [id] [.b (B8X l a w v).isSome]=A4 ([.b (B8X l a w v).isSome],[id]):=dE (by simp);simp [Y0,gP,R5,hb',show ¬ id<h.length by omega,A0U hr (by simp:N8 (B4 ((B8X l a w v).getD []))=A5)])
 rw [this];simp [hr]
def O7 (n:Nat) (l:List UInt8):List UInt8:=l++zeros (n-l.length)
theorem I1 {n:Nat} {l:List UInt8} (h:l.length<=n):(O7 n l).length=n:=by
 unfold O7;rw [E7a,zeros_length];omega
theorem B8R {n:Nat}:O7 n []=zeros n:=by simp [O7]
theorem B1W {l xs:List UInt8} {a:Nat} (h1:l.length<=a) (h2:a+xs.length<=256):J1 (O7 256 l) a xs=O7 256 (l++zeros (a-l.length)++xs):=by
 unfold J1 O7;have e1:(l++zeros (256-l.length)).take a=l++zeros (a-l.length):=by
  rw [List.take_append,E7i h1];unfold zeros;rw [List.take_replicate,E73 (by omega)]
 have e2:(l++zeros (256-l.length)).drop (a+xs.length)=zeros (256-(l++zeros (a-l.length)++xs).length):=by
  rw [List.drop_append,E7k (by omega),E7m];unfold zeros;rw [List.drop_replicate]
  congr 1
  simp;omega
 rw [e1,e2];simp only [E7c]
theorem iY {l:List UInt8} {a w:Nat} {v:Int} (h1:l.length<=a) (h2:a+w<=256) (hw:1<=w) (hw4:w<=4):iQ (O7 256 l) a w v=O7 256 (l++zeros (a-l.length)++B9 w v):=by
 unfold iQ;rw [if_pos ⟨by omega,O0.2 (by omega)⟩];simp only [E7r];exact B1W h1 (by simp;exact h2)
def fieldN (b:List UInt8) (a w:Nat):Int:=((le ((b.drop a).take w):Nat):Int)
theorem C8v {b:List UInt8} (hb:b.length<=256):A86 (zeros 256) 0 b=O7 256 b:=by
 unfold A86 J1 O7;rw [if_pos (by omega)];simp only [Int.toNat_zero,E76,E7m,Nat.sub_zero,E7t];rw [E7i hb];unfold zeros;rw [List.drop_replicate]
theorem D59 {b:List UInt8} {a w:Nat} (h1:a+w<=b.length) (h2:b.length<=256) (hw:1<=w) (hw4:w<=4):((atN (O7 256 b) a w:Nat):Int)=fieldN b a w:=by
 unfold atN fieldN O7;rw [if_pos ⟨by omega,O0.2 (by omega)⟩];simp only [E7r];rw [List.drop_append_of_le_length (by omega),List.take_append_of_le_length (by simp;omega)]
noncomputable section
variable (n m m2:Nat) (a0 a1 x0 x1 x7 x8:Val) (h:B5)
def uE:FD A8:=⟨px 0X119c4102b1241219818155a02a7d21818c017667c62e1f7c168806884a04001b1181858511a02187510521518710430702418710431a617c119187105218710406051063884613187104201334111022,[.c (.i .u32 0),.c (.i .u32 16777619)],[.idxS (.t 12) (.t 13),.conv .u32 (.t 14)],[.tmp 4],[]⟩
def C5R:=uE.R
def C25:AtH:=uE.lj 0 n [m] [x0,x1,x7,x8]
def C6U:=tT [⟨2,4,C25⟩]
def C9D:=mR C5R uE C6U n [a0,a1] h
def B1R:=mL uE C6U 0 n [m] [x0,x1,x7,x8] h
def C5i:=uE.K Tryz.func202
def B5v:=uE.S
theorem C9X:SOk A8 202 B5v:=C5i.sok
theorem C4m:F6 C5R B5v:=C5i.flat
def B6l:FD A8:=⟨px 0X1282167201ac0032123211012,[.c (.i .u32 0),.c (.i .u32 2166136261)],[],[.tmp 2],[cal C9X]⟩
def D3Z:=B6l.R
def D30:=mR D3Z B6l (tT []) n [a0] h
def D3W:=B6l.K Tryz.func149
def C6B:=B6l.S
theorem C2f:SOk A8 149 C6B:=D3W.sok
theorem C9Y:F6 D3Z C6B:=D3W.flat
def B2m:FD A8:=⟨px 0X119c4164dc62e1e7c3677c631b7c64c84001d11841201684164dc01b134122458181289647c4191318103211411412243c515617c46135103205102314111022,[.c (.i .u32 1)],[],[.tmp 4],[]⟩
def B9C:=B2m.R
def D2x:=mR B9C B2m (tT []) n [a0,a1] h
def D0V:=B2m.K Tryz.func201
def C0s:=B2m.S
theorem D2J:SOk A8 201 C0s:=D0V.sok
theorem C6A:F6 B9C C0s:=D0V.flat
end
noncomputable section
variable (n m m2:Nat) (a0 a1 x0 x1 x5 x6:Val) (h:B5)
def pD:FD A8:=⟨px 0X11e84103c1241268515607c3a1b13181dc011f6187c1b667c61a07c38061e77c76187c0002c1191819c6162e1f7c64c806885e04076187c01d11865104215510330702461e17c6388401a7141a5104251033510306051015103201334111022,[.c (.i .u64 0),.c (.i .u64 256),.c (.i .u64 16777619),.c (.i .u64 4294967296)],[.idxS (.t 15) (.t 16)],[.tmp 4],[]⟩
def C13:=pD.R
def B77:AtH:=pD.lj 0 n [m] [x0,x1,x5]
def C2h:=tT [⟨2,3,B77⟩]
def C5t:=mR C13 pD C2h n [a0,a1] h
def A8n:=mL pD C2h 0 n [m] [x0,x1,x5] h
def C1t:=pD.K Tryz.func208
def A91:=pD.S
theorem C58:SOk A8 208 A91:=C1t.sok
theorem B9R:F6 C13 A91:=C1t.flat
def B2g:FD A8:=⟨px 0X1282167201ac0032123211012,[.c (.i .u64 0),.c (.i .u64 2166136261)],[],[.tmp 2],[cal C58]⟩
def D01:=B2g.R
def D2o:=mR D01 B2g (tT []) n [a0] h
def D0M:=B2g.K Tryz.func162
def B9S:=B2g.S
theorem B7h:SOk A8 162 B9S:=D0M.sok
theorem C59:F6 D01 B9S:=D0M.flat
def tX:FD A8:=⟨px 0X11ac4164dc61a187c7a002a154127c615607c4a1e131818c511b667c5e2813181565104307024761e2a8289612d7f2e2d36061a17c406071d65105265104365104060510165104250233015103214111022,[.c (.i .u64 1),.c (.b A6),.c (.i .u64 2)],[],[.tmp 4],[]⟩
def C5s:=tX.R
def C2P:AtH:=tX.lj 0 n [m] [x0,x1,x5,x6]
def C6N:=tT [⟨2,4,C2P⟩]
def C9l:=mR C5s tX C6N n [a0,a1] h
def B1h:=mL tX C6N 0 n [m] [x0,x1,x5,x6] h
def C4Z:=tX.K Tryz.func225
def B4Z:=tX.S
theorem C9J:SOk A8 225 B4Z:=C4Z.sok
theorem C3T:F6 C5s B4Z:=C4Z.flat
end
end Go.Proofs.YtbnkgnfhgbhblaaGreat
