/- What the proof of this claim leans on, part 2. -/
import Derived.Test.YteckncopbicmcaaGreatFMendAppliesp1
set_option linter.all false
namespace Go.Esc
open Go
section
section
variable {P:Program} {R:Type}
theorem A1j {h:A4} {n0:Nat} {slot:Option Nat} {r:Row}:h.length<=(bV h n0 slot r).2.length:=by
 cases slot<;>simp [bV]
theorem C8r {E:E2} (hE:eV P E) {q:Bool} {hr:A4} {n0:Nat} {slot:Option Nat} {o:AOp} {e:Env} {h h':A4} {v:Val}
  (C6:aop E q hr n0 slot o e h (fun v h=>some (v,h))=some (v,h')):h.length<=h'.length:=by
 cases o<;>simp only [aop] at C6
 case store1 a x =>
  simp only [Option.bind_eq_some_iff,Option.some.injEq,Prod.mk.injEq] at C6;obtain ⟨h2,hp,_,rfl⟩:=C6;unfold D3 at hp;split at hp
  ·simp only [Option.bind_eq_some_iff] at hp;obtain ⟨r,_,hp⟩:=hp;split at hp<;>cases hp
   simp
  ·cases hp
 case storeN n a x =>
  simp only [Option.bind_eq_some_iff,Option.some.injEq,Prod.mk.injEq] at C6;obtain ⟨h2,hp,_,rfl⟩:=C6;unfold B4 at hp;split at hp
  ·simp only [Option.bind_eq_some_iff] at hp;obtain ⟨r,_,hp⟩:=hp;split at hp<;>cases hp
   simp
  ·cases hp
 case app sz a x =>
  simp only [Option.bind_eq_some_iff,Option.some.injEq] at C6;obtain ⟨⟨v',h2⟩,hp,zL⟩:=C6;cases zL;simp only [W7,Option.bind_eq_some_iff] at hp;obtain ⟨ys,_,hp⟩:=hp;split at hp
  ·split at hp<;>cases hp
   simp
  ·simp only [Option.bind_eq_some_iff] at hp;obtain ⟨r,_,hp⟩:=hp;split at hp<;>cases hp
   simp
  ·cases hp
 case copy sz a x =>
  simp only [Option.bind_eq_some_iff,Option.some.injEq] at C6;obtain ⟨⟨v',h2⟩,hp,zL⟩:=C6;cases zL;simp only [B9O] at hp;split at hp
  ·cases hp
  simp only [Option.bind_eq_some_iff] at hp;obtain ⟨ys,_,hp⟩:=hp;split at hp
  ·simp only [Option.bind_eq_some_iff] at hp;obtain ⟨r,_,hp⟩:=hp;split at hp<;>cases hp
   simp
  ·cases hp
 case appZ sz zero x y =>
  simp only [Option.bind_eq_some_iff,Option.some.injEq] at C6;obtain ⟨⟨v',h2⟩,hp,zL⟩:=C6;cases zL;unfold C8l at hp;simp only [Option.bind_eq_some_iff] at hp;obtain ⟨n,_,hp⟩:=hp;split at hp
  ·cases hp;simp
  ·simp only [Option.bind_eq_some_iff] at hp;obtain ⟨r,_,hp⟩:=hp;split at hp<;>cases hp
   simp
  ·cases hp
 case call f args =>
  simp only [Option.bind_eq_some_iff,Option.some.injEq] at C6;obtain ⟨⟨v',h2⟩,hp,zL⟩:=C6;cases zL;have hE1:E f (args.map e.ev) h=some (v',h2):=by
   cases q with
   | false=>simpa using hp
   | true =>
    simp only [cond_true,quiet,Option.bind_eq_some_iff] at hp;obtain ⟨p',g1,g2⟩:=hp;split at g2
    ·cases g2;exact g1
    ·cases g2
  exact (hE _ _ _ _ _ hE1).2.2
 case callV f args =>
  simp only [Option.bind_eq_some_iff,Option.some.injEq] at C6;obtain ⟨⟨v',h2⟩,hp,zL⟩:=C6;cases zL;have hE0:oJ E (e.ev f) (args.map e.ev) h=some (v',h2):=by
   cases q with
   | false=>simpa using hp
   | true =>
    simp only [cond_true,quiet,Option.bind_eq_some_iff] at hp;obtain ⟨p',g1,g2⟩:=hp;split at g2
    ·cases g2;exact g1
    ·cases g2
  unfold oJ at hE0;split at hE0
  ·exact (hE _ _ _ _ _ hE0).2.2
  ·cases hE0
 case mv=>cases C6;exact Nat.le_refl _
 case nilrow=>cases C6;exact A1j
 case alloc=>cases C6;exact A1j
 case mkMap=>cases C6;exact A1j
 case mput =>
  simp only [Option.bind_eq_some_iff,Option.some.injEq,Prod.mk.injEq] at C6;obtain ⟨w,hp,_,rfl⟩:=C6;unfold sM at hp;split at hp
  ·simp only [Option.bind_eq_some_iff] at hp;obtain ⟨_,_,_,_,_,_,_,_,hp⟩:=hp;split at hp
   ·cases hp;simp
   ·cases hp
  ·cases hp
 case mset =>
  simp only [Option.bind_eq_some_iff,Option.some.injEq,Prod.mk.injEq] at C6;obtain ⟨w,hp,_,rfl⟩:=C6;unfold C8p at hp;split at hp
  ·simp only [Option.bind_eq_some_iff] at hp;obtain ⟨_,_,_,_,_,_,hp⟩:=hp;split at hp
   ·simp only [Option.bind_eq_some_iff,Option.some.injEq] at hp;obtain ⟨_,_,rfl⟩:=hp;simp
   ·cases hp
  ·cases hp
 case ment =>
  simp only [Option.bind_eq_some_iff,Option.some.injEq] at C6;obtain ⟨w,hp,zL⟩:=C6;cases zL;unfold C8o at hp;split at hp
  ·simp only [Option.bind_eq_some_iff] at hp;obtain ⟨_,_,_,_,_,_,hp⟩:=hp;split at hp
   ·simp only [Option.some.injEq] at hp;split at hp
    ·cases hp;exact Nat.le_refl _
    ·cases hp;simp
   ·cases hp
  ·cases hp
 case box =>
  simp only [Option.bind_eq_some_iff,Option.some.injEq,Prod.mk.injEq] at C6;obtain ⟨_,_,_,rfl⟩:=C6;exact A1j
 case buildSl =>
  simp only [Option.bind_eq_some_iff,Option.some.injEq,Prod.mk.injEq] at C6;obtain ⟨_,_,_,rfl⟩:=C6;exact A1j
 case s2b =>
  simp only [Option.bind_eq_some_iff,Option.some.injEq,Prod.mk.injEq] at C6;obtain ⟨_,_,_,rfl⟩:=C6;exact A1j
 case mkSl =>
  simp only [Option.bind_eq_some_iff,Option.some.injEq,Prod.mk.injEq] at C6;obtain ⟨_,_,_,rfl⟩:=C6;exact A1j
 all_goals
  simp only [Option.bind_eq_some_iff,Option.some.injEq,Prod.mk.injEq] at C6;obtain ⟨_,_,_,rfl⟩:=C6;exact Nat.le_refl _
theorem C2V {E:E2} (hE:eV P E) {q:Bool} {hr:A4} {n0:Nat} {o:AOper} {e:Env} {h h':A4} {v:Val}
  (C6:S8 E q hr n0 o e h (fun v h=>some (v,h))=some (v,h')):h.length<=h'.length:=by
 unfold S8 at C6;split at C6
 ·exact C8r hE C6
 ·simp only [Option.bind_eq_some_iff,Option.some.injEq] at C6;obtain ⟨⟨v',h2⟩,hp,zL⟩:=C6;cases zL;unfold gd at hp;split at hp
  ·rename_i x _;cases hx:(x==_) with
   | true=>rw [hx] at hp;exact C8r hE hp
   | false=>rw [hx] at hp;cases hp;exact Nat.le_refl _
  ·cases hp;exact Nat.le_refl _
  ·cases hp
theorem put_defers (a:Act) (d:Option Nat) (V:Value):(a.put d V).defers=a.defers:=by cases d<;>rfl
theorem B8M {N L:Nat} {ops:Array Oper} {E:E2} (hE:eV P E):∀ (l:List Nat) (aos:List AOper) (e:Env) (h:A4) (k:Env->A4->Option R) (r:R),
  All2 (fun i ao=>∃ o,ops[i]?=some o/\X0 P N ops o ao=true/\ao.slot=none) l aos->A8y E aos e h k=some r->L<=h.length ->
  ∃ e' h',k e' h'=some r/\L<=h'.length/\StepsTo P N L (fun Q=>wpOps P ops Q l) e h .normal e' h'
 | [],[],e,h,k,r,_,C6,hL=>⟨e,h,C6,hL,fun Γ μ a w hs hi hN hd Q hq=>hq μ a w (Mu.le_refl _) (fun _ _=>rfl) hs hi hN hd⟩
 | i::l,ao::aos,e,h,k,r,⟨⟨o,ho,hc,C6e⟩,C6c⟩,C6,hL=>by
  rw [C2W] at C6;obtain ⟨v,h1,hk,B4a⟩:=D0L hE hc C6;have hl1:=C2V hE B4a;obtain ⟨e',h',hk',hL',xI⟩:=B8M hE l aos (e.put ao.dst v) h1 k r C6c hk (Nat.le_trans hL hl1);refine ⟨e',h',hk',hL',fun Γ μ a w hs hi hN hd Q hq=>?_⟩;show wpOps P ops Q (i::l) a w;rw [wpOps_cons];unfold wpOp;rw [ho];have A0s:o.dst=ao.dst/\yK N o.dst=true:=by
   simp only [X0,Bool.and_eq_true,decide_eq_true_eq] at hc;exact ⟨hc.1.1.1,hc.1.1.2⟩
  have R0:∀ t,o.dst=some t->t<a.tmps.size:=by
   intro t ht;have:=A0s.2;rw [ht] at this;simp [yK] at this;exact Nat.lt_of_lt_of_le this hN
  refine A4A (hr:=h) (n0:=0) hE hc B4a hs hi (fun _ _ h=>h) (by rw [C6e];trivial) ?_;intro V w' μ' gI hv hi' aI;rw [C6e] at aI;refine xI Γ μ' (a.put o.dst V) w' ?_ hi' (by rw [Act.size_put];exact hN) (by rw [put_defers];exact hd) Q ?_
  ·rw [<-A0s.1];exact (hs.mono gI).put R0 hv
  ·intro μ2 a2 w2 h2 h3 h4 h5 h6 h7;exact hq μ2 a2 w2 (Mu.le_trans gI h2) (fun id hid=>by rw [h3 id hid];exact aI id (by omega) (fun _ h=>by cases h)) h4 h5 h6 h7
 | [],_::_,_,_,_,_,h,_,_=>h.elim
 | _::_,[],_,_,_,_,h,_,_=>h.elim
end
theorem B7v {o:Oper} {p:Nat}:p∈U7 o↔∃ e∈o.after,Region.binds .any e=true/\e.on=p:=by
 unfold U7;simp only [List.mem_map,List.mem_filter,Array.mem_toList_iff];constructor
 ·rintro ⟨e,⟨h1,h2⟩,rfl⟩;exact ⟨e,h1,h2,rfl⟩
 ·rintro ⟨e,h1,h2,rfl⟩;exact ⟨e,⟨h1,h2⟩,rfl⟩
theorem kI {ops:Array Oper} {listed:Array Bool} {i:Nat}:i∈Region.ready .any ops listed↔∃ o,ops[i]?=some o/\listed.getD i true=false/\∀ p∈U7 o,listed.getD p false=true:=by
 unfold Region.ready;simp only [List.mem_filter,List.mem_range,Bool.and_eq_true,Bool.not_eq_true'];constructor
 ·rintro ⟨h1,h2,h3⟩;have ho:ops[i]?=some ops[i]:=by simp [h1]
  refine ⟨ops[i],ho,h2,fun p hp=>?_⟩;rw [ho] at h3;simp only [Option.map_some,Option.getD_some,Array.all_eq_true_iff_forall_mem] at h3;obtain ⟨e,he,hb,rfl⟩:=B7v.1 hp;have:=h3 e he;rw [hb] at this;simpa using this
 ·rintro ⟨o,ho,h2,h3⟩;refine ⟨(Array.getElem?_eq_some_iff.1 ho).1,h2,?_⟩;rw [ho];simp only [Option.map_some,Option.getD_some,Array.all_eq_true_iff_forall_mem];intro e he;cases hb:Region.binds .any e with
  | false=>rfl
  | true=>simpa using h3 e.on (B7v.2 ⟨e,he,hb,rfl⟩)
theorem L9 {listed:Array Bool} {i:Nat} (hi:i<listed.size):(fun k=>(listed.setIfInBounds i true).getD k false)=mR (fun k=>listed.getD k false) i:=by
 funext k
 unfold mR;by_cases h:k=i
 ·subst h;simp [Array.getD,hi]
 ·simp [Array.getElem?_setIfInBounds_ne (Ne.symm h),h]
theorem getD_both {listed:Array Bool} {i:Nat} (hi:i<listed.size):listed.getD i true=listed.getD i false:=by simp [Array.getD,hi]
theorem A6z {ops:Array Oper} {listed:Array Bool} (R0:∀ (i:Nat) (o:Oper),ops[i]?=some o->∀ p∈U7 o,p<i) (hs:listed.size=ops.size):∀ (i:Nat),i<ops.size->listed.getD i false=false->Region.ready .any ops listed≠[]:=by
 intro i
 induction i using Nat.strongRecOn with
 | _ i ih =>
  intro hi hu;have ho:ops[i]?=some ops[i]:=by simp [hi]
  by_cases h:∀ p∈U7 ops[i],listed.getD p false=true
  ·have:i∈Region.ready .any ops listed:=kI.2 ⟨_,ho,by rw [getD_both (by omega)];exact hu,h⟩;intro e;rw [e] at this;cases this
  ·have:∃ p,p∈U7 ops[i]/\listed.getD p false=false:=by
    false_or_by_contra
    rename_i hn;exact h fun p hp=>by
     cases hv:listed.getD p false with
     | true=>rfl
     | false=>exact absurd ⟨p,hp,hv⟩ hn
   obtain ⟨p,hp,hv⟩:=this;have hpi:=R0 i _ ho p hp;exact ih p hpi (by omega) hv
def left (n:Nat) (listed:Array Bool):Nat:=((List.range n).filter fun i=>!listed.getD i false).length
theorem B4x {n:Nat} {listed:Array Bool} {i:Nat} (hi:i<n) (hs:listed.size=n) (hu:listed.getD i false=false):left n (listed.setIfInBounds i true)+1<=left n listed:=by
 unfold left;have e:(List.range n).filter (fun k=>!(listed.setIfInBounds i true).getD k false)=((List.range n).filter fun k=>!listed.getD k false).filter (fun k=>decide (k≠i)):=by
  rw [List.filter_filter];apply List.filter_congr;intro k hk;have:=congrFun (L9 (listed:=listed) (i:=i) (by omega)) k
  try simp only at this
  rw [this];unfold mR;by_cases h:k=i<;>simp [h]
 rw [e];have hm:i∈(List.range n).filter fun k=>!listed.getD k false:=by
  rw [List.mem_filter];exact ⟨by simpa using hi,by rw [hu];rfl⟩
 have:=List.length_filter_lt_length_iff_exists (l:=(List.range n).filter fun k=>!listed.getD k false) (p:=fun k=>decide (k≠i));have h2:=this.2 ⟨i,hm,by simp⟩;omega
section
variable {P:Program} {ops:Array Oper} {Q:Exit->Act->World->Prop}
theorem A1k (R0:∀ (i:Nat) (o:Oper),ops[i]?=some o->∀ p∈U7 o,p<i) {A:Nat} (D3X:∀ i,A<=i->i<ops.size->∀ j,j<i->((K5 ops).getD i 0).testBit j=true) :
  ∀ (k i fuel:Nat) (listed:Array Bool) (a:Act) (w:World),i+k=ops.size->A<=i->listed.size=ops.size->(∀ j,j<ops.size->listed.getD j false=decide (j<i))->k<=fuel ->
   wpOps P ops Q (List.range' i k) a w->wpAny P .any ops Q fuel listed a w
 | 0,i,fuel,listed,a,w,hik,hA,hs,hl,hf,h=>by
  have hr:Region.ready .any ops listed=[]:=by
   apply List.eq_nil_iff_forall_not_mem.2;intro x hx;obtain ⟨o,ho,h2,_⟩:=kI.1 hx;have R0:=(Array.getElem?_eq_some_iff.1 ho).1;rw [getD_both (by omega),hl x R0] at h2;simp at h2;omega
  cases fuel with
  | zero=>exact ⟨hr,h⟩
  | succ f=>exact ⟨fun _=>h,fun x hx=>by rw [hr] at hx;cases hx⟩
 | k+1,i,fuel,listed,a,w,hik,hA,hs,hl,hf,h=>by
  obtain ⟨f,rfl⟩:∃ f,fuel=f+1:=⟨fuel-1,by omega⟩;refine ⟨fun he=>absurd he (A6z R0 hs i (by omega) (by rw [hl i (by omega)];simp)),fun x hx=>?_⟩;obtain ⟨o,ho,h2,h3⟩:=kI.1 hx;have hxn:=(Array.getElem?_eq_some_iff.1 ho).1;rw [getD_both (by omega),hl x hxn] at h2;simp at h2;have hxi:x=i:=by
   by_cases e:x=i
   ·exact e
   ·have hd:=tP (done:=fun j=>listed.getD j false) R0 (fun j oj hj hdj p hp=>by
     have hjn:=(Array.getElem?_eq_some_iff.1 hj).1
     try simp only at hdj
     rw [hl j hjn] at hdj;have:=R0 j oj hj p hp;show listed.getD p false=true;rw [hl p (by omega)];simp at hdj ⊢;omega) x o ho h3 i (D3X x (by omega) hxn i (by omega))
    try simp only at hd
    rw [hl i (by omega)] at hd;simp at hd
  subst hxi;rw [List.range'_succ,wpOps_cons] at h;refine wpOp_mono (fun a' w' h'=>?_) h;refine A1k R0 D3X k (x+1) f _ a' w' (by omega) (by omega) (by simpa using hs) (fun j hj=>?_) (by omega) h';have:=congrFun (L9 (listed:=listed) (i:=x) (by omega)) j
  try simp only at this
  rw [this];unfold mR;show (decide (j=x)||listed.getD j false)=_;rw [hl j hj];by_cases e:j=x
  ·subst e;simp
  ·simp only [e,decide_false,Bool.false_or];have:(j<x)↔(j<x+1):=by omega
   simp only [this]
end
theorem Inv.pad {Γ:Ctx} {μ:Mu} {h:A4} {w:World} (hi:Inv Γ μ h w) (m:Nat):Inv Γ μ (h++List.replicate m none) w:=by
 have sH:∀ id x,rd (h++List.replicate m none) id=some x->rd h id=some x:=by
  intro id x hx;by_cases hl:id<h.length
  ·rwa [E3 hl] at hx
  ·unfold rd at hx;rw [List.getElem?_append_right (by omega),List.getElem?_replicate] at hx;split at hx<;>cases hx
 exact ⟨fun id x hx=>hi.rows id x (sH id x hx),fun i j x y z z' hx hy=>hi.sep i j x y z z' (sH _ _ hx) (sH _ _ hy),fun i x y hx=>hi.own i x y (sH _ _ hx),fun id hid=>hi.dom id (by simp at hid;omega),hi.ctx⟩
theorem D29 {P:Program} {N L:Nat} {ops:Array Oper} {m id:Nat} {l r:List AOper} {E:E2} (hE:eV P E) {e:Env} {h:A4} {R:Type} {k:Env->A4->Option R} {res:R}
  (hc:A0o P N ops m l r=true) (hc2:B3T ops l.length r.length=true) (hL:L<=h.length)
  (C6:B0X E h h.length l e (h++List.replicate m none) (fun e h=>A8y E r e h k)=some res) :
  ∃ e' h',k e' h'=some res/\L<=h'.length/\StepsTo P N L ((Code.region id ops true).wp P) e h .normal e' h':=by
 have D:=A5W hc;have last:=C0b hc2 D.size;obtain ⟨es,hs,vs,he,h0,ht,hk⟩:=C1w l _ _ C6;have C7E:All2 (fun i ao=>∃ o,ops[i]?=some o/\X0 P N ops o ao=true/\ao.slot=none) (List.range' l.length r.length) r:=by
  refine All2.of_get (by simp) fun i x ao hx hao=>?_
  have hi:i<r.length:=(List.getElem?_eq_some_iff.1 hao).1;rw [List.getElem?_range' hi] at hx;simp at hx;subst hx;have R0:l.length+i<ops.size:=by rw [D.size];omega
  refine ⟨ops[l.length+i],by simp [R0],?_,D.rslot ao (List.mem_of_getElem? hao)⟩;refine D.oper (l.length+i) _ ao (by simp [R0]) ?_;rw [List.getElem?_append_right (by omega)];simpa using hao
 have hbl:=iO D ht h0 (k:=l.length) (Nat.le_refl _);obtain ⟨e',h',hk',hL',xI⟩:=B8M (L:=L) hE _ r (es l.length) (hs l.length) k res C7E hk (by omega);refine ⟨e',h',hk',hL',fun Γ μ0 a w hs0 hi hN hd Q hq=>wp_region_any D.follows ?_⟩;have whole:∀ (listed:Array Bool) (a:Act) (w:World) (q:Nat) (μ:Mu),Sim Γ l h.length N e es hs vs μ0 (fun i=>listed.getD i false) q μ a w->(∀ j,j<l.length->listed.getD j false=true)->wpOps P ops Q (List.range' l.length r.length) a w:=by
  intro listed a w q μ S mY;have C2f:SEnv μ (es l.length) a:=by
   intro t;by_cases hw:∃ (j:Nat) (aj:AOper),l[j]?=some aj/\aj.dst=some t
   ·obtain ⟨j,aj,lW,hdj⟩:=hw;have hjl:=(List.getElem?_eq_some_iff.1 lW).1;rw [oU D ht lW hdj l.length hjl (Nat.le_refl _)];exact S.envD j aj t lW (mY j hjl) hdj
   ·have gJ:∀ (j:Nat) (aj:AOper),l[j]?=some aj->aj.dst≠some t:=fun j aj lW hdj=>hw ⟨j,aj,lW,hdj⟩
    rw [wY ht he l.length (Nat.le_refl _) fun j aj _ lW=>gJ j aj lW];exact S.envO t fun j aj lW _=>gJ j aj lW
  have hlen:(hs l.length).length=(hs q).length:=by
   have hql:=S.qle;have:=xL D ht (q:=q) (l.length-q) (by omega) fun k ak h1 h2 oD=>by
    cases hck:T1 ak.op with
    | false=>rfl
    | true =>
     have:=(S.calls k ak oD hck).1 (mY k (by omega));omega
   rwa [show q+(l.length-q)=l.length by omega] at this
  have C3k:HD (hs l.length) (und l h.length fun i=>listed.getD i false) (hs q).length=hs l.length:=by
   refine xH (by rw [G6,hlen]) fun id hid=>?_
   rw [G6] at hid;have hu:und l h.length (fun i=>listed.getD i false) id=false:=by
    cases hu:und l h.length (fun i=>listed.getD i false) id with
    | false=>rfl
    | true =>
     obtain ⟨k,hk,ao,j,oD,_⟩:=V0.1 hu;have:=mY k (List.getElem?_eq_some_iff.1 oD).1;rw [this] at hk;cases hk
   rw [tA,if_pos ⟨hid,hu⟩]
  have hinv:=S.inv;rw [C3k] at hinv;exact xI Γ μ a w C2f hinv S.size S.defers Q fun μ' a' w' g1 g2 g3 g4 g5 g6=>hq μ' a' w' (Mu.le_trans S.le g1) (fun id hid=>(g2 id hid).trans (S.keep id (by omega))) g3 g4 g5 g6
 have main:∀ (fuel:Nat) (listed:Array Bool) (a:Act) (w:World) (q:Nat) (μ:Mu),listed.size=ops.size->left ops.size listed<=fuel ->
   (∀ j,l.length<=j->j<ops.size->listed.getD j false=false)->(∀ (i:Nat) (o:Oper),ops[i]?=some o->listed.getD i false=true->∀ p∈U7 o,listed.getD p false=true) ->
   Sim Γ l h.length N e es hs vs μ0 (fun i=>listed.getD i false) q μ a w->wpAny P .any ops Q fuel listed a w:=by
  intro fuel
  induction fuel with
  | zero =>
   intro listed a w q μ hsz B1e bH bI S;have mY:∀ j,j<ops.size->listed.getD j false=true:=by
    intro j hj;cases hv:listed.getD j false with
    | true=>rfl
    | false =>
     have hm:j∈(List.range ops.size).filter fun i=>!listed.getD i false:=by rw [List.mem_filter];exact ⟨by simpa using hj,by rw [hv];rfl⟩
     have:=List.length_pos_of_mem hm;unfold left at B1e;omega
   have hr0:r.length=0:=by
    cases hr:r.length with
    | zero=>rfl
    | succ x =>
     have h1:=mY l.length (by rw [D.size];omega);have h2:=bH l.length (Nat.le_refl _) (by rw [D.size];omega);rw [h1] at h2;cases h2
   refine A1k D.dir last 0 l.length 0 listed a w (by rw [D.size];omega) (Nat.le_refl _) hsz (fun j hj=>?_) (Nat.le_refl _) ?_
   ·rw [mY j hj];have:j<l.length:=by rw [D.size] at hj;omega
    simp [this]
   ·have:=whole listed a w q μ S fun j hj=>mY j (by rw [D.size];omega)
    rw [hr0] at this;exact this
  | succ fuel ih =>
   intro listed a w q μ hsz B1e bH bI S;by_cases mY:∀ j,j<l.length->listed.getD j false=true
   ·refine A1k D.dir last r.length l.length (fuel+1) listed a w D.size.symm (Nat.le_refl _) hsz (fun j hj=>?_) ?_ (whole listed a w q μ S mY)
    ·by_cases hjl:j<l.length
     ·rw [mY j hjl];simp [hjl]
     ·rw [bH j (by omega) hj];simp [hjl]
    ·refine Nat.le_trans ?_ B1e;unfold left;have:((List.range ops.size).filter fun i=>!listed.getD i false)=List.range' l.length r.length:=by
      rw [D.size,List.range_add,List.filter_append];have e1:(List.range l.length).filter (fun i=>!listed.getD i false)=[]:=by
       rw [List.filter_eq_nil_iff];intro j hj;rw [mY j (by simpa using hj)];simp
      rw [e1,List.nil_append,List.range'_eq_map_range,List.filter_eq_self.2];intro j hj;obtain ⟨x,hx,rfl⟩:=List.mem_map.1 hj;rw [bH _ (by omega) (by rw [D.size];simp at hx;omega)];rfl
     rw [this];simp
   ·have hex:∃ j,j<l.length/\listed.getD j false=false:=by
     false_or_by_contra
     rename_i hn;exact mY fun j hj=>by
      cases hv:listed.getD j false with
      | true=>rfl
      | false=>exact absurd ⟨j,hj,hv⟩ hn
    obtain ⟨j,hj,hv⟩:=hex;refine ⟨fun hre=>absurd hre (A6z D.dir hsz j (by rw [D.size];omega) hv),fun i hi=>?_⟩;obtain ⟨o,ho,h2,h3⟩:=kI.1 hi;have hin:=(Array.getElem?_eq_some_iff.1 ho).1;rw [getD_both (by omega)] at h2;have hah:=tP (done:=fun i=>listed.getD i false) D.dir bI i o ho h3;have S3:i<l.length:=by
     by_cases e1:i<l.length
     ·exact e1
     ·have:=hah j (last i (by omega) hin j (by omega))
      try simp only at this
      rw [hv] at this;cases this
    have xW:∀ k,listed.getD k false=true->∀ b,((K5 ops).getD k 0).testBit b=true->listed.getD b false=true:=by
     intro k hk b hb;by_cases hkn:k<ops.size
     ·have hok:ops[k]?=some ops[k]:=by simp [hkn]
      exact tP (done:=fun i=>listed.getD i false) D.dir bI k _ hok (bI k _ hok hk) b hb
     ·have:listed.getD k false=false:=by simp [Array.getD,show ¬ k<listed.size by omega]
      rw [this] at hk;cases hk
    have iZ:=C6X D hE ht h0 he S (i:=i) (ao:=l[i]) (o:=o) (List.getElem?_eq_getElem S3) ho h2 hah xW
     (next:=wpAny P .any ops Q fuel (listed.setIfInBounds i true)) (Q:=Q) (by
      intro V w' μ' q' S';rw [<-L9 (by omega)] at S';refine ih (listed.setIfInBounds i true) _ w' q' μ' (by simpa using hsz) (by have:=B4x hin hsz h2;omega) ?_ ?_ S'
      ·intro k hk hkn;have:=congrFun (L9 (listed:=listed) (i:=i) (by omega)) k
       try simp only at this
       rw [this,U2 _ _ (by omega)];exact bH k hk hkn
      ·intro k ok hok hdk p hp;have e1:=congrFun (L9 (listed:=listed) (i:=i) (by omega)) k;have e2:=congrFun (L9 (listed:=listed) (i:=i) (by omega)) p
       try simp only at e1 e2
       rw [e1] at hdk;rw [e2];have B1d:listed.getD p false=true:=by
        by_cases e3:k=i
        ·subst e3;rw [ho] at hok;cases hok;exact h3 p hp
        ·rw [U2 _ _ e3] at hdk;exact bI k ok hok hdk p hp
       unfold mR;show (decide (p=i)||listed.getD p false)=true;rw [B1d];simp)
    unfold wpOp;rw [ho];exact iZ
 have hgd:∀ i:Nat,(Array.replicate ops.size false).getD i false=false:=by intro i;simp [Array.getD]
 have D4B:(fun i=>(Array.replicate ops.size false).getD i false)=fun _=>false:=funext hgd
 refine main ops.size (Array.replicate ops.size false) a _ 0 μ0 (by simp) ?_ (fun j _ _=>hgd j) (fun i o _ hd=>by rw [hgd] at hd;cases hd) ?_
 ·unfold left;exact Nat.le_trans (List.length_filter_le _ _) (by simp)
 ·rw [D4B];have D4F:HD (hs l.length) (und l h.length fun _=>false) (hs 0).length=h++List.replicate m none:=by
   rw [h0];refine xH (by rw [G6]) fun id hid=>?_
   rw [G6] at hid;rw [tA];by_cases ho:∃ i,A1O l h.length i id
   ·obtain ⟨i,ho⟩:=ho;have hu:und l h.length (fun _=>false) id=true:=V0.2 ⟨i,rfl,ho⟩;rw [hu];have:=A46 D ht h0 ho 0 (Nat.zero_le _);rw [h0] at this;rw [this];simp
   ·have gJ:∀ i,0<=i->¬ A1O l h.length i id:=fun i _ hi=>ho ⟨i,hi⟩
    have hu:und l h.length (fun _=>false) id=false:=by
     cases hu:und l h.length (fun _=>false) id with
     | false=>rfl
     | true=>obtain ⟨i,_,hi⟩:=V0.1 hu;exact absurd ⟨i,hi⟩ ho
    rw [if_pos ⟨hid,hu⟩];have:=nB D ht (k:=0) (id:=id) (by rw [h0];exact hid) gJ l.length (by omega);rw [Nat.zero_add,h0] at this;exact this
  refine ⟨Nat.zero_le _,fun i ao _ _=>⟨fun h=>(by cases h),fun h=>(by omega)⟩,fun i ao d _ h=>(by cases h),fun t _=>hs0 t,?_,fun id hid=>?_,Mu.le_refl _,fun _ _=>rfl,hN,hd⟩
  ·rw [D4F];exact (hi.pad m).world rfl rfl rfl fun _ _=>rfl
  ·obtain ⟨i,_,ao,j,_,_,rfl⟩:=V0.1 hid;exact hi.dom _ (by omega)
end
section
def B8U:AOp->Bool
 | .mv _ | .pick .. | .bin .. | .eqA .. | .eqB .. | .eqN .. | .nilc _ | .un .. | .conv .. | .convS _ | .fAddr .. | .iAddrA .. | .iAddrL .. | .fld1 .. | .fldN .. | .idxA1 .. | .idxAN .. | .idxS .. | .ext .. | .len _ | .lenS _ | .max .. | .min ..=>true
 | _=>false
theorem D2P {E:E2} {q:Bool} {hr:A4} {n0:Nat} {slot:Option Nat} {o:AOp} {e:Env} {h h':A4} {v:Val} (hp:B8U o=true)
  (C6:aop E q hr n0 slot o e h (fun v h=>some (v,h))=some (v,h')):∀ (q2:Bool) (hr2:A4) (n2:Nat) (slot2:Option Nat) (h2:A4),aop E q2 hr2 n2 slot2 o e h2 (fun v h=>some (v,h))=some (v,h2):=by
 intro q2 hr2 n2 slot2 h2;cases o<;>simp [B8U] at hp<;>simp only [aop] at C6 ⊢
 case mv=>cases C6;rfl
 all_goals
  simp only [Option.bind_eq_some_iff,Option.some.injEq,Prod.mk.injEq] at C6;obtain ⟨_,h1,rfl,rfl⟩:=C6;rw [h1];rfl
def C4C:AOp->Bool
 | .load1 _ | .loadN ..=>true
 | _=>false
theorem D0I {E:E2} {q:Bool} {n0:Nat} {slot:Option Nat} {o:AOp} {e:Env} {h:A4} {v:Val} (hp:C4C o=true) (hr:A6w h o e=some v):aop E q h n0 slot o e h (fun v h=>some (v,h))=some (v,h):=by
 cases o<;>simp [C4C] at hp<;>simp only [A6w] at hr<;>simp only [aop,hr]<;>rfl
theorem C74 {o:AOp} {e e':Env} {h:A4} (he:∀ x∈o.opds,e.ev x=e'.ev x):A6w h o e=A6w h o e':=by
 cases o<;>simp only [AOp.opds] at he<;>simp only [A6w]
 ·rw [he _ (by simp)]
 ·rw [he _ (by simp)]
def C1l:AOp->AOp->Bool
 | .load1 (.t a),.load1 (.t b)=>decide (a=b)
 | .loadN n (.t a),.loadN m (.t b)=>decide (n=m)&&decide (a=b)
 | _,_=>false
theorem C6R {o p:AOp} (h:C1l o p=true):o=p/\C4C p=true:=by
 unfold C1l at h;split at h
 ·have:=of_decide_eq_true h;subst this;exact ⟨rfl,rfl⟩
 ·rw [Bool.and_eq_true] at h;have h1:=of_decide_eq_true h.1;have h2:=of_decide_eq_true h.2;subst h1 h2;exact ⟨rfl,rfl⟩
 ·cases h
def C0a (s:AOper) (chk:List (Nat × AOp)) (o:AOper):Bool :=
 decide (o.guard=none)&&decide (o.slot=none) && !T1 o.op && !R9 o.op &&
 (match o.dst with
  | some d=>!(s.reads.contains d)&&(B8U o.op||chk.any fun c=>decide (c.1=d)&&C1l c.2 o.op)
  | none=>false) &&
 (match s.dst with | some d=>!(o.reads.contains d) | none=>true)
def C9l (ops:Array Oper) (l:List AOper) (s:AOper) (chk:List (Nat × AOp)) (r:List AOper):Bool :=
 let cl:=K5 ops
 l.zipIdx.all (fun p=>(cl.getD l.length 0).testBit p.2||C0a s chk p.1) &&
 l.all (fun o=>match s.dst with | some d=>decide (o.dst≠some d) | none=>true) &&
 l.zipIdx.all (fun p=>l.zipIdx.all fun q=>match q.1.dst with | some d=>!(p.1.reads.contains d)||((cl.getD p.2 0).testBit q.2&&decide (q.2<p.2)) | none=>true) &&
 B3T ops (l.length+1) r.length
def D0q (ops:Array Oper) (l:List AOper):Prop:=∀ (i j:Nat) ai aj d,l[i]?=some ai->l[j]?=some aj->aj.dst=some d->d∈ai.reads->((K5 ops).getD i 0).testBit j=true/\j<i
structure Float1 (s:AOper) (chk:List (Nat × AOp)) (o:AOper):Prop where
 guard:o.guard=none
 slot:o.slot=none
 call:T1 o.op=false
 R9:R9 o.op=false
 dst:∃ d,o.dst=some d/\d ∉ s.reads/\(B8U o.op=true\/(C4C o.op=true/\(d,o.op)∈chk))
 reads:∀ d,s.dst=some d->d ∉ o.reads
theorem C5G {s:AOper} {chk:List (Nat × AOp)} {o:AOper} (h:C0a s chk o=true):Float1 s chk o:=by
 simp only [C0a,Bool.and_eq_true,decide_eq_true_eq,Bool.not_eq_true'] at h;obtain ⟨⟨⟨⟨⟨h1,h2⟩,h3⟩,h4⟩,h5⟩,h6⟩:=h;refine ⟨h1,h2,h3,h4,?_,fun d hd=>?_⟩
 ·split at h5
  ·rename_i d hd;simp only [Bool.and_eq_true,Bool.not_eq_true',Bool.or_eq_true] at h5;refine ⟨d,hd,fun hm=>?_,?_⟩
   ·have:=h5.1;rw [List.contains_iff_mem.2 hm] at this;cases this
   ·rcases h5.2 with h | h
    ·exact .inl h
    ·right
     rw [List.any_eq_true] at h;obtain ⟨c,hc,h⟩:=h;simp only [Bool.and_eq_true,decide_eq_true_eq] at h;obtain ⟨e1,e2⟩:=C6R h.2;refine ⟨e2,?_⟩;have:c=(d,o.op):=by cases c;simp at h e1;simp [h.1,e1]
     rw [<-this];exact hc
  ·cases h5
 ·rw [hd] at h6;simp only [Bool.not_eq_true'] at h6;intro hm;rw [List.contains_iff_mem.2 hm] at h6;cases h6
theorem C5s {R:Type} {e:Env} {h:A4} {k:Option R} {res:R}:∀ {l:List (Nat × AOp)},again l e h k=some res->k=some res/\∀ c∈l,A6w h c.2 e=some (e.get c.1)
 | [],hr=>⟨hr,by simp⟩
 | c::l,hr=>by
  rw [B9T] at hr;unfold agn at hr;split at hr
  ·rename_i hc;obtain ⟨h1,h2⟩:=C5s hr;exact ⟨h1,fun x hx=>by rcases List.mem_cons.1 hx with e | hx;subst e;exact hc;exact h2 x hx⟩
  ·cases hr
structure Sim2 (Γ:Ctx) (l:List AOper) (s:AOper) (n0 N:Nat) (e:Env) (vs:Nat->Val) (v:Val) (μ0:Mu) (done:Nat->Bool) (h2:A4) (μ:Mu) (a:Act) (w:World):Prop where
 envD:∀ (i:Nat) ao d,l[i]?=some ao->done i=true->ao.dst=some d->RV μ (vs i) (a.tmps.getD d undef)
 envO:∀ t,(∀ (i:Nat) ao,l[i]?=some ao->done i=true->ao.dst≠some t)->s.dst≠some t->RV μ (e.get t) (a.tmps.getD t undef)
 envS:∀ d,s.dst=some d->RV μ v (a.tmps.getD d undef)
 inv:Inv Γ μ h2 w
 le:μ0.le μ
 keep:∀ id,id<n0 -> μ id = μ0 id
 size:N<=a.tmps.size
 defers:a.defers = Γ.ds
theorem A81 {a:Act} {dst:Option Nat} {V:Value} {t:Nat} (h:dst≠some t):(a.put dst V).tmps.getD t undef=a.tmps.getD t undef:=by
 cases hd:dst with
 | none=>rfl
 | some d =>
  rw [hd] at h;simp [Act.put,Array.getElem?_setIfInBounds_ne (show d≠t from fun e=>h (by rw [e]))]
theorem B1c {a:Act} {d N:Nat} {V:Value} (h:yK N (some d)=true) (hN:N<=a.tmps.size):(a.put (some d) V).tmps.getD d undef=V:=by
 have R0:d<a.tmps.size:=by
  simp [yK] at h;exact Nat.lt_of_lt_of_le h hN
 simp [Act.put,Array.getD,R0]
section
variable {P:Program} {N m:Nat} {ops:Array Oper} {l r:List AOper} {s:AOper} {chk:List (Nat × AOp)} {E:E2} {hr:A4} {e:Env} {es:Nat->Env} {hs:Nat->A4} {vs:Nat->Val} {Γ:Ctx} {μ0:Mu}
theorem D3a (D:DrawOk P N ops m l (s::r)) (hR:D0q ops l) (ht:Trace E hr hr.length l es hs vs) (he:es 0=e) {i t:Nat} {ao:AOper} (ha:l[i]?=some ao) (hm:t∈ao.reads):(es l.length).get t=(es i).get t:=by
 have S3:i<l.length:=(List.getElem?_eq_some_iff.1 ha).1;by_cases hw:∃ (j:Nat) (aj:AOper),l[j]?=some aj/\aj.dst=some t
 ·obtain ⟨j,aj,lW,hd⟩:=hw;obtain ⟨_,h2⟩:=hR i j ao aj t ha lW hd hm;rw [oU D ht lW hd i h2 (by omega),oU D ht lW hd l.length (by omega) (Nat.le_refl _)]
 ·have gJ:∀ (j:Nat) (aj:AOper),l[j]?=some aj->aj.dst≠some t:=fun j aj lW hd=>hw ⟨j,aj,lW,hd⟩
  rw [wY ht he i (by omega) fun j aj _ lW=>gJ j aj lW,wY ht he l.length (Nat.le_refl _) fun j aj _ lW=>gJ j aj lW]
theorem D0b (D:DrawOk P N ops m l (s::r)) (hR:D0q ops l) (hE:eV P E) (ht:Trace E hr hr.length l es hs vs) (he:es 0=e) {v:Val} {h2:A4} (hag:∀ c∈chk,A6w h2 c.2 (es l.length)=some ((es l.length).get c.1))
  {done:Nat->Bool} {μ:Mu} {a:Act} {w:World} (S:Sim2 Γ l s hr.length N e vs v μ0 done h2 μ a w) {i:Nat} {ao:AOper} {o:Oper} (ha:l[i]?=some ao) (ho:ops[i]?=some o) (hnd:done i=false) (hf:Float1 s chk ao)
  (C8C:∀ (k:Nat) ak d,l[k]?=some ak->s.dst=some d->ak.dst≠some d)
  (hah:∀ b,((K5 ops).getD i 0).testBit b=true->done b=true)
  {next:Act->World->Prop} {Q:Exit->Act->World->Prop} (hn:∀ V w' μ',Sim2 Γ l s hr.length N e vs v μ0 (mR done i) h2 μ' (a.put o.dst V) w'->next (a.put o.dst V) w') :
  if Region.wanted o (yielded ops a.tmps) then o.wp P a w next Q\/(o.asks P a w/\LetsOut Q) else next (a.put o.dst undef) w:=by
 have S3:i<l.length:=(List.getElem?_eq_some_iff.1 ha).1;have hco:X0 P N ops o ao=true:=D.oper i o ao ho (by rw [List.getElem?_append_left S3];exact ha);have A0s:o.dst=ao.dst/\yK N o.dst=true:=by
  simp only [X0,Bool.and_eq_true,decide_eq_true_eq] at hco;exact ⟨hco.1.1.1,hco.1.1.2⟩
 obtain ⟨d,hd,hds,D5Q⟩:=hf.dst;have C2f:SEnv μ ((es i).keep ao.reads) a:=by
  intro t;rw [Env.get_keep_mem];split
  ·rename_i A1S;by_cases hw:∃ (j:Nat) (aj:AOper),l[j]?=some aj/\aj.dst=some t
   ·obtain ⟨j,aj,lW,hdj⟩:=hw;obtain ⟨h1,h3⟩:=hR i j ao aj t ha lW hdj A1S;rw [oU D ht lW hdj i h3 (by omega)];exact S.envD j aj t lW (hah j h1) hdj
   ·have gJ:∀ (j:Nat) (aj:AOper),l[j]?=some aj->aj.dst≠some t:=fun j aj lW hd=>hw ⟨j,aj,lW,hd⟩
    rw [wY ht he i (by omega) fun j aj _ lW=>gJ j aj lW];exact S.envO t (fun j aj lW _=>gJ j aj lW) fun xI=>hf.reads t xI A1S
  ·trivial
 have iZ:=ht.step i ao ha;have B4a:S8 E true h2 hr.length ao (es i) h2 (fun v h=>some (v,h))=some (vs i,h2):=by
  unfold S8 at iZ ⊢;rw [hf.guard] at iZ ⊢;simp only at iZ ⊢;rcases D5Q with hp | ⟨hp,A1S⟩
  ·exact D2P hp iZ _ _ _ _ _
  ·refine D0I hp ?_;have h1:=hag _ A1S;simp only at h1;rw [oU D ht ha hd l.length S3 (Nat.le_refl _)] at h1;rw [<-h1];refine C74 fun x hx=>?_
   cases x with
   | v x=>rfl
   | t n=>exact (D3a D hR ht he ha (List.mem_append_left _ (List.mem_filterMap.2 ⟨.t n,hx,rfl⟩))).symm
 rw [B6c (e':=(es i).keep ao.reads) fun t ht'=>by rw [Env.get_keep_mem,if_pos ht']] at B4a;refine A4A (hr:=h2) (n0:=hr.length) hE hco B4a C2f S.inv (fun _ _ h=>h) (by rw [hf.slot];trivial) ?_;intro V w' μ' gI hv hinv aI;rw [hf.slot] at aI;refine hn V w' μ' ⟨?_,?_,?_,hinv,Mu.le_trans S.le gI,?_,by rw [Act.size_put];exact S.size,by rw [put_defers];exact S.defers⟩
 ·intro k ak d' oD hdk hd';by_cases e1:k=i
  ·subst e1;rw [ha] at oD;cases oD;rw [A0s.1,hd'];rw [B1c (by rw [<-hd',<-A0s.1];exact A0s.2) S.size];exact hv
  ·rw [U2 _ _ e1] at hdk;rw [A81 (by rw [A0s.1];exact fun h=>(D.apart i k ao ak ha oD (Ne.symm e1)).1 d' h hd')];exact (S.envD k ak d' oD hdk hd').mono gI
 ·intro t gJ xI;have h1:=gJ i ao ha (tR _ _);rw [A81 (by rw [A0s.1];exact h1)];refine (S.envO t (fun k ak oD hdk=>?_) xI).mono gI;by_cases e1:k=i
  ·subst e1;rw [hnd] at hdk;cases hdk
  ·exact gJ k ak oD (by rw [U2 _ _ e1];exact hdk)
 ·intro d' hd';rw [A81 (by rw [A0s.1];exact C8C i ao d' ha hd')];exact (S.envS d' hd').mono gI
 ·intro id hid;by_cases hl:id<h2.length
  ·rw [<-S.keep id hid];exact aI id hl fun j hj=>by cases hj
  ·have h1:=S.inv.dom id (by omega);have h3:=S.keep id hid;rw [h1] at h3;have h4:=hinv.dom id (by omega);rw [h4,<-h3]
end
theorem C3d {P:Program} {N L:Nat} {ops:Array Oper} {m:Nat} {l r:List AOper} {s:AOper} {chk:List (Nat × AOp)} {E:E2} (hE:eV P E) {e:Env} {h:A4} {R:Type} {k:Env->A4->Option R} {res:R}
  (hc:A0o P N ops m l (s::r)=true) (hcs:C9l ops l s chk r=true) (hL:L<=h.length)
  (C6:B0X E h h.length l e (h++List.replicate m none) (fun e h=>S8 E false h 0 s e h fun v h2=>again chk e h2 (A8y E r (e.put s.dst v) h2 k))=some res) :
  ∃ e' h',k e' h'=some res/\L<=h'.length/\StepsTo P N L (fun Q a w=>wpAny P .any ops Q ops.size (Array.replicate ops.size false) a { w with drawn:=w.drawn+1 }) e h .normal e' h':=by
 have D:=A5W hc;simp only [C9l,Bool.and_eq_true,List.all_eq_true] at hcs;obtain ⟨⟨⟨hfl,hdi⟩,D6L⟩,hla⟩:=hcs;have hR:D0q ops l:=by
  intro i j ai aj d hi hj hd hr;have:=D6L (ai,i) (mem_zipIdx hi) (aj,j) (mem_zipIdx hj);simp only [hd,Bool.or_eq_true,Bool.not_eq_true',Bool.and_eq_true,decide_eq_true_eq] at this;rcases this with this | this
  ·have hc:ai.reads.contains d=true:=by simpa using hr
   rw [hc] at this;cases this
  ·exact this
 have hsz:ops.size=l.length+(r.length+1):=by rw [D.size];simp
 have last:=C0b hla (by rw [hsz];omega);have D4A:∀ (i:Nat) ao,l[i]?=some ao->((K5 ops).getD l.length 0).testBit i=false->Float1 s chk ao:=by
  intro i ao ha hb;have:=hfl (ao,i) (mem_zipIdx ha);simp only [Bool.or_eq_true] at this;rcases this with h | h
  ·rw [hb] at h;cases h
  ·exact C5G h
 have C8C:∀ (k:Nat) ak d,l[k]?=some ak->s.dst=some d->ak.dst≠some d:=by
  intro k ak d oD hd;have:=hdi ak (List.mem_of_getElem? oD);rw [hd] at this;simpa using this
 obtain ⟨es,hs,vs,he,h0,ht,hk⟩:=C1w l _ _ C6;rw [B9W] at hk;simp only [Option.bind_eq_some_iff] at hk;obtain ⟨⟨v,h2⟩,B4a,hk⟩:=hk;obtain ⟨hk,hag⟩:=C5s hk;simp only at hk hag;have hnl:l.length<ops.size:=by omega
 have hos:ops[l.length]?=some ops[l.length]:=by simp [hnl]
 have D5G:X0 P N ops ops[l.length] s=true:=D.oper l.length _ s hos (by rw [List.getElem?_append_right (Nat.le_refl _)];simp);have D1B:s.slot=none:=D.rslot s (by simp);have C6d:ops[l.length].dst=s.dst/\yK N ops[l.length].dst=true:=by
  have:=D5G;simp only [X0,Bool.and_eq_true,decide_eq_true_eq] at this;exact ⟨this.1.1.1,this.1.1.2⟩
 have C7E:All2 (fun i ao=>∃ o,ops[i]?=some o/\X0 P N ops o ao=true/\ao.slot=none) (List.range' (l.length+1) r.length) r:=by
  refine All2.of_get (by simp) fun i x ao hx hao=>?_
  have hi:i<r.length:=(List.getElem?_eq_some_iff.1 hao).1;rw [List.getElem?_range' hi] at hx;simp at hx;subst hx;have R0:l.length+1+i<ops.size:=by omega
  refine ⟨ops[l.length+1+i],by simp [R0],?_,D.rslot ao (List.mem_cons_of_mem _ (List.mem_of_getElem? hao))⟩;refine D.oper (l.length+1+i) _ ao (by simp [R0]) ?_;rw [List.getElem?_append_right (by omega),show l.length+1+i-l.length=i+1 by omega];simpa using hao
 have hbl:=iO D ht h0 (k:=l.length) (Nat.le_refl _);have hl2:=C2V hE B4a;obtain ⟨e',h',hk',hL',xI⟩:=B8M (L:=L) hE _ r ((es l.length).put s.dst v) h2 k res C7E hk (by omega);refine ⟨e',h',hk',hL',fun Γ μ0 a w hs0 hi hN hd Q hq=>?_⟩;have whole:∀ (listed:Array Bool) (a:Act) (w:World) (μ:Mu),Sim2 Γ l s h.length N e vs v μ0 (fun i=>listed.getD i false) h2 μ a w->(∀ j,j<l.length->listed.getD j false=true)->wpOps P ops Q (List.range' (l.length+1) r.length) a w:=by
  intro listed a w μ S mY;have C2f:SEnv μ ((es l.length).put s.dst v) a:=by
   intro t;have main:s.dst≠some t->RV μ ((es l.length).get t) (a.tmps.getD t undef):=by
    intro cK;by_cases hw:∃ (j:Nat) (aj:AOper),l[j]?=some aj/\aj.dst=some t
    ·obtain ⟨j,aj,lW,hdj⟩:=hw;have hjl:=(List.getElem?_eq_some_iff.1 lW).1;rw [oU D ht lW hdj l.length hjl (Nat.le_refl _)];exact S.envD j aj t lW (mY j hjl) hdj
    ·have gJ:∀ (j:Nat) (aj:AOper),l[j]?=some aj->aj.dst≠some t:=fun j aj lW hdj=>hw ⟨j,aj,lW,hdj⟩
     rw [wY ht he l.length (Nat.le_refl _) fun j aj _ lW=>gJ j aj lW];exact S.envO t (fun j aj lW _=>gJ j aj lW) cK
   cases hsd:s.dst with
   | none=>exact main (by rw [hsd];simp)
   | some d =>
    by_cases e1:d=t
    ·subst e1;rw [Env.get_put_same];exact S.envS d hsd
    ·rw [Env.get_put_other _ _ _ _ e1];exact main (by rw [hsd];simpa using e1)
  exact xI Γ μ a w C2f S.inv S.size S.defers Q fun μ' a' w' g1 g2 g3 g4 g5 g6=>hq μ' a' w' (Mu.le_trans S.le g1) (fun id hid=>(g2 id hid).trans (S.keep id (by omega))) g3 g4 g5 g6
 have main2:∀ (fuel:Nat) (listed:Array Bool) (a:Act) (w:World) (μ:Mu),listed.size=ops.size->left ops.size listed<=fuel->listed.getD l.length false=true ->
   (∀ j,l.length<j->j<ops.size->listed.getD j false=false)->(∀ (j:Nat) ao,l[j]?=some ao->listed.getD j false=false->Float1 s chk ao) ->
   (∀ (i:Nat) (o:Oper),ops[i]?=some o->listed.getD i false=true->∀ p∈U7 o,listed.getD p false=true) ->
   Sim2 Γ l s h.length N e vs v μ0 (fun i=>listed.getD i false) h2 μ a w->wpAny P .any ops Q fuel listed a w:=by
  intro fuel
  induction fuel with
  | zero =>
   intro listed a w μ hls B1e hsd bH D4z bI S;have mY:∀ j,j<ops.size->listed.getD j false=true:=by
    intro j hj;cases hv:listed.getD j false with
    | true=>rfl
    | false =>
     have hm:j∈(List.range ops.size).filter fun i=>!listed.getD i false:=by rw [List.mem_filter];exact ⟨by simpa using hj,by rw [hv];rfl⟩
     have:=List.length_pos_of_mem hm;unfold left at B1e;omega
   have hr0:r.length=0:=by
    cases hr:r.length with
    | zero=>rfl
    | succ x =>
     have h1:=mY (l.length+1) (by omega);have h3:=bH (l.length+1) (by omega) (by omega);rw [h1] at h3;cases h3
   refine A1k D.dir last 0 (l.length+1) 0 listed a w (by omega) (Nat.le_refl _) hls (fun j hj=>?_) (Nat.le_refl _) ?_
   ·rw [mY j hj];have:j<l.length+1:=by omega
    simp [this]
   ·have:=whole listed a w μ S fun j hj=>mY j (by omega)
    rw [hr0] at this;exact this
  | succ fuel ih =>
   intro listed a w μ hls B1e hsd bH D4z bI S;by_cases mY:∀ j,j<l.length->listed.getD j false=true
   ·refine A1k D.dir last r.length (l.length+1) (fuel+1) listed a w (by omega) (Nat.le_refl _) hls (fun j hj=>?_) ?_ (whole listed a w μ S mY)
    ·by_cases hjl:j<l.length+1
     ·have:listed.getD j false=true:=by
       by_cases e1:j=l.length
       ·subst e1;exact hsd
       ·exact mY j (by omega)
      rw [this];simp [hjl]
     ·rw [bH j (by omega) hj];simp [hjl]
    ·refine Nat.le_trans ?_ B1e;unfold left;have:((List.range ops.size).filter fun i=>!listed.getD i false)=List.range' (l.length+1) r.length:=by
      rw [show ops.size=(l.length+1)+r.length by omega,List.range_add,List.filter_append];have e1:(List.range (l.length+1)).filter (fun i=>!listed.getD i false)=[]:=by
       rw [List.filter_eq_nil_iff];intro j hj;have hj:j<l.length+1:=by simpa using hj
       have:listed.getD j false=true:=by
        by_cases e1:j=l.length
        ·subst e1;exact hsd
        ·exact mY j (by omega)
       rw [this];simp
      rw [e1,List.nil_append,List.range'_eq_map_range,List.filter_eq_self.2];intro j hj;obtain ⟨x,hx,rfl⟩:=List.mem_map.1 hj;rw [bH _ (by omega) (by simp at hx;omega)];rfl
     rw [this];simp
   ·have hex:∃ j,j<l.length/\listed.getD j false=false:=by
     false_or_by_contra
     rename_i hn;exact mY fun j hj=>by
      cases hv:listed.getD j false with
      | true=>rfl
      | false=>exact absurd ⟨j,hj,hv⟩ hn
    obtain ⟨j,hj,hv⟩:=hex;refine ⟨fun hre=>absurd hre (A6z D.dir hls j (by omega) hv),fun i hi=>?_⟩;obtain ⟨o,ho,h3,h4⟩:=kI.1 hi;have hin:=(Array.getElem?_eq_some_iff.1 ho).1;rw [getD_both (by omega)] at h3;have hah:=tP (done:=fun i=>listed.getD i false) D.dir bI i o ho h4;have S3:i<l.length:=by
     by_cases e1:i<l.length
     ·exact e1
     ·by_cases e2:i=l.length
      ·subst e2;rw [hsd] at h3;cases h3
      ·have:=hah j (last i (by omega) hin j (by omega))
       try simp only at this
       rw [hv] at this;cases this
    have hao:=List.getElem?_eq_getElem S3;have iZ:=D0b D hR hE ht he hag S (i:=i) (ao:=l[i]) (o:=o) hao ho h3 (D4z i l[i] hao h3) C8C hah
     (next:=wpAny P .any ops Q fuel (listed.setIfInBounds i true)) (Q:=Q) (by
      intro V w' μ' S';rw [<-L9 (by omega)] at S';refine ih (listed.setIfInBounds i true) _ w' μ' (by simpa using hls) (by have:=B4x hin hls h3;omega) ?_ ?_ ?_ ?_ S'
      ·have:=congrFun (L9 (listed:=listed) (i:=i) (by omega)) l.length
       try simp only at this
       rw [this,U2 _ _ (by omega)];exact hsd
      ·intro k hk hkn;have:=congrFun (L9 (listed:=listed) (i:=i) (by omega)) k
       try simp only at this
       rw [this,U2 _ _ (by omega)];exact bH k hk hkn
      ·intro k ak oD hdk;have e1:=congrFun (L9 (listed:=listed) (i:=i) (by omega)) k
       try simp only at e1
       rw [e1] at hdk;by_cases e2:k=i
       ·subst e2;rw [tR] at hdk;cases hdk
       ·rw [U2 _ _ e2] at hdk;exact D4z k ak oD hdk
      ·intro k ok hok hdk p hp;have e1:=congrFun (L9 (listed:=listed) (i:=i) (by omega)) k;have e2:=congrFun (L9 (listed:=listed) (i:=i) (by omega)) p
       try simp only at e1 e2
       rw [e1] at hdk;rw [e2];have B1d:listed.getD p false=true:=by
        by_cases e3:k=i
        ·subst e3;rw [ho] at hok;cases hok;exact h4 p hp
        ·rw [U2 _ _ e3] at hdk;exact bI k ok hok hdk p hp
       unfold mR;show (decide (p=i)||listed.getD p false)=true;rw [B1d];simp)
    unfold wpOp;rw [ho];exact iZ
 have main:∀ (fuel:Nat) (listed:Array Bool) (a:Act) (w:World) (q:Nat) (μ:Mu),listed.size=ops.size->left ops.size listed<=fuel ->
   (∀ j,l.length<=j->j<ops.size->listed.getD j false=false)->(∀ (i:Nat) (o:Oper),ops[i]?=some o->listed.getD i false=true->∀ p∈U7 o,listed.getD p false=true) ->
   Sim Γ l h.length N e es hs vs μ0 (fun i=>listed.getD i false) q μ a w->wpAny P .any ops Q fuel listed a w:=by
  intro fuel
  induction fuel with
  | zero =>
   intro listed a w q μ hls B1e bH bI S;have hv:=bH l.length (Nat.le_refl _) hnl;have hm:l.length∈(List.range ops.size).filter fun i=>!listed.getD i false:=by rw [List.mem_filter];exact ⟨by simpa using hnl,by rw [hv];rfl⟩
   have:=List.length_pos_of_mem hm;unfold left at B1e;omega
  | succ fuel ih =>
   intro listed a w q μ hls B1e bH bI S;have hv:=bH l.length (Nat.le_refl _) hnl;refine ⟨fun hre=>absurd hre (A6z D.dir hls l.length hnl hv),fun i hi=>?_⟩;obtain ⟨o,ho,h3,h4⟩:=kI.1 hi;have hin:=(Array.getElem?_eq_some_iff.1 ho).1;rw [getD_both (by omega)] at h3;have hah:=tP (done:=fun i=>listed.getD i false) D.dir bI i o ho h4;have xW:∀ k,listed.getD k false=true->∀ b,((K5 ops).getD k 0).testBit b=true->listed.getD b false=true:=by
    intro k hk b hb;by_cases hkn:k<ops.size
    ·have hok:ops[k]?=some ops[k]:=by simp [hkn]
     exact tP (done:=fun i=>listed.getD i false) D.dir bI k _ hok (bI k _ hok hk) b hb
    ·have:listed.getD k false=false:=by simp [Array.getD,show ¬ k<listed.size by omega]
     rw [this] at hk;cases hk
   have C6a:∀ k ok,ops[k]?=some ok->(listed.setIfInBounds i true).getD k false=true->∀ p∈U7 ok,(listed.setIfInBounds i true).getD p false=true:=by
    intro k ok hok hdk p hp;have e1:=congrFun (L9 (listed:=listed) (i:=i) (by omega)) k;have e2:=congrFun (L9 (listed:=listed) (i:=i) (by omega)) p
    try simp only at e1 e2
    rw [e1] at hdk;rw [e2];have B1d:listed.getD p false=true:=by
     by_cases e3:k=i
     ·subst e3;rw [ho] at hok;cases hok;exact h4 p hp
     ·rw [U2 _ _ e3] at hdk;exact bI k ok hok hdk p hp
    unfold mR;show (decide (p=i)||listed.getD p false)=true;rw [B1d];simp
   by_cases S3:i<l.length
   ·have iZ:=C6X D hE ht h0 he S (i:=i) (ao:=l[i]) (o:=o) (List.getElem?_eq_getElem S3) ho h3 hah xW
     (next:=wpAny P .any ops Q fuel (listed.setIfInBounds i true)) (Q:=Q) (by
      intro V w' μ' q' S';rw [<-L9 (by omega)] at S';refine ih (listed.setIfInBounds i true) _ w' q' μ' (by simpa using hls) (by have:=B4x hin hls h3;omega) ?_ C6a S';intro k hk hkn;have:=congrFun (L9 (listed:=listed) (i:=i) (by omega)) k
      try simp only at this
      rw [this,U2 _ _ (by omega)];exact bH k hk hkn)
    unfold wpOp;rw [ho];exact iZ
   ·have hie:i=l.length:=by
     by_cases e1:i=l.length
     ·exact e1
     ·have:=hah l.length (last i (by omega) hin l.length (by omega))
      try simp only at this
      rw [hv] at this;cases this
    subst hie;have hoo:o=ops[l.length]:=by rw [hos] at ho;cases ho;rfl
    have B1d:∀ (j:Nat) aj,l[j]?=some aj->listed.getD j false=false->Float1 s chk aj:=by
     intro j aj lW hdj;refine D4A j aj lW ?_;cases hb:((K5 ops).getD l.length 0).testBit j with
     | false=>rfl
     | true =>
      have:=hah j hb
      try simp only at this
      rw [hdj] at this;cases this
    have hlen:(hs l.length).length=(hs q).length:=by
     have hql:=S.qle;have:=xL D ht (q:=q) (l.length-q) (by omega) fun k ak h1 h2 oD=>by
      cases hck:T1 ak.op with
      | false=>rfl
      | true =>
       have hd1:listed.getD k false=true:=by
        cases hd2:listed.getD k false with
        | true=>rfl
        | false=>have:=(B1d k ak oD hd2).call;rw [hck] at this;cases this
       have:=(S.calls k ak oD hck).1 hd1;omega
     rwa [show q+(l.length-q)=l.length by omega] at this
    have C3k:HD (hs l.length) (und l h.length fun i=>listed.getD i false) (hs q).length=hs l.length:=by
     refine xH (by rw [G6,hlen]) fun id hid=>?_
     rw [G6] at hid;have hu:und l h.length (fun i=>listed.getD i false) id=false:=by
      cases hu:und l h.length (fun i=>listed.getD i false) id with
      | false=>rfl
      | true =>
       obtain ⟨k,hk,ao,j,oD,hj,_⟩:=V0.1 hu;have:=(B1d k ao oD hk).slot;rw [hj] at this;cases this
     rw [tA,if_pos ⟨hid,hu⟩]
    have hinv:=S.inv;rw [C3k] at hinv;have C2f:SEnv μ ((es l.length).keep s.reads) a:=by
     intro t;rw [Env.get_keep_mem];split
     ·rename_i A1S;by_cases hw:∃ (j:Nat) (aj:AOper),l[j]?=some aj/\aj.dst=some t
      ·obtain ⟨j,aj,lW,hdj⟩:=hw;have hjl:=(List.getElem?_eq_some_iff.1 lW).1;rw [oU D ht lW hdj l.length hjl (Nat.le_refl _)];refine S.envD j aj t lW ?_ hdj;cases hd2:listed.getD j false with
       | true=>rfl
       | false =>
        obtain ⟨d,h5,h6,_⟩:=(B1d j aj lW hd2).dst;rw [hdj] at h5;cases h5;exact absurd A1S h6
      ·have gJ:∀ (j:Nat) (aj:AOper),l[j]?=some aj->aj.dst≠some t:=fun j aj lW hdj=>hw ⟨j,aj,lW,hdj⟩
       rw [wY ht he l.length (Nat.le_refl _) fun j aj _ lW=>gJ j aj lW];exact S.envO t fun j aj lW _=>gJ j aj lW
     ·trivial
    have D3Y:=B4a;rw [B6c (e':=(es l.length).keep s.reads) fun t ht'=>by rw [Env.get_keep_mem,if_pos ht']] at D3Y;unfold wpOp;rw [ho];subst hoo;refine A4A (hr:=hs l.length) (n0:=0) hE D5G D3Y C2f hinv (fun _ _ h=>h) (by rw [D1B];trivial) ?_;intro V w' μ' gI hv' D5O aI;rw [D1B] at aI;have C8A:=L9 (listed:=listed) (i:=l.length) (by omega);refine main2 fuel (listed.setIfInBounds l.length true) _ w' μ' (by simpa using hls) (by have:=B4x hin hls h3;omega) ?_ ?_ ?_ C6a ?_
    ·have:=congrFun C8A l.length
     try simp only at this
     rw [this];exact tR _ _
    ·intro k hk hkn;have:=congrFun C8A k
     try simp only at this
     rw [this,U2 _ _ (by omega)];exact bH k (by omega) hkn
    ·intro k ak oD hdk;have hkl:=(List.getElem?_eq_some_iff.1 oD).1;have:=congrFun C8A k
     try simp only at this
     rw [this,U2 _ _ (by omega)] at hdk;exact B1d k ak oD hdk
    ·have hsame:∀ k:Nat,k<l.length->(listed.setIfInBounds l.length true).getD k false=listed.getD k false:=by
      intro k hkl;have:=congrFun C8A k
      try simp only at this
      rw [this,U2 _ _ (by omega)]
     refine ⟨?_,?_,?_,D5O,Mu.le_trans S.le gI,?_,by rw [Act.size_put];exact S.size,by rw [put_defers];exact S.defers⟩
     ·intro k ak d oD hdk hd;have hkl:=(List.getElem?_eq_some_iff.1 oD).1
      try simp only at hdk
      rw [hsame k hkl] at hdk;rw [A81 (by rw [C6d.1];exact fun h=>C8C k ak d oD h hd)];exact (S.envD k ak d oD hdk hd).mono gI
     ·intro t gJ xI;rw [A81 (by rw [C6d.1];exact xI)];refine (S.envO t fun k ak oD hdk=>gJ k ak oD ?_).mono gI;have hkl:=(List.getElem?_eq_some_iff.1 oD).1
      try simp only
      rw [hsame k hkl];exact hdk
     ·intro d hd;rw [C6d.1,hd,B1c (by rw [<-hd,<-C6d.1];exact C6d.2) S.size];exact hv'
     ·intro id hid;rw [<-S.keep id hid];exact aI id (by omega) fun j hj=>by cases hj
 have hgd:∀ i:Nat,(Array.replicate ops.size false).getD i false=false:=by intro i;simp [Array.getD]
 have D4B:(fun i=>(Array.replicate ops.size false).getD i false)=fun _=>false:=funext hgd
 refine main ops.size (Array.replicate ops.size false) a _ 0 μ0 (by simp) ?_ (fun j _ _=>hgd j) (fun i o _ hd=>by rw [hgd] at hd;cases hd) ?_
 ·unfold left;exact Nat.le_trans (List.length_filter_le _ _) (by simp)
 ·rw [D4B];have D4F:HD (hs l.length) (und l h.length fun _=>false) (hs 0).length=h++List.replicate m none:=by
   rw [h0];refine xH (by rw [G6]) fun id hid=>?_
   rw [G6] at hid;rw [tA];by_cases ho:∃ i,A1O l h.length i id
   ·obtain ⟨i,ho⟩:=ho;have hu:und l h.length (fun _=>false) id=true:=V0.2 ⟨i,rfl,ho⟩;rw [hu];have:=A46 D ht h0 ho 0 (Nat.zero_le _);rw [h0] at this;rw [this];simp
   ·have gJ:∀ i,0<=i->¬ A1O l h.length i id:=fun i _ hi=>ho ⟨i,hi⟩
    have hu:und l h.length (fun _=>false) id=false:=by
     cases hu:und l h.length (fun _=>false) id with
     | false=>rfl
     | true=>obtain ⟨i,_,hi⟩:=V0.1 hu;exact absurd ⟨i,hi⟩ ho
    rw [if_pos ⟨hid,hu⟩];have:=nB D ht (k:=0) (id:=id) (by rw [h0];exact hid) gJ l.length (by omega);rw [Nat.zero_add,h0] at this;exact this
  refine ⟨Nat.zero_le _,fun i ao _ _=>⟨fun h=>(by cases h),fun h=>(by omega)⟩,fun i ao d _ h=>(by cases h),fun t _=>hs0 t,?_,fun id hid=>?_,Mu.le_refl _,fun _ _=>rfl,hN,hd⟩
  ·rw [D4F];exact (hi.pad m).world rfl rfl rfl fun _ _=>rfl
  ·obtain ⟨i,_,ao,j,_,_,rfl⟩:=V0.1 hid;exact hi.dom _ (by omega)
end
def sw (k i:Nat):Nat:=if i=k then k+1 else if i=k+1 then k else i
theorem C85 (k i:Nat):sw k (sw k i)=i:=by unfold sw;split<;>(try split)<;>(try split)<;>omega
theorem C84 {k i n:Nat} (hk:k+1<n):sw k i<n↔i<n:=by unfold sw;split<;>(try split)<;>omega
theorem D5g {k i j:Nat} (h:sw k i=sw k j):i=j:=by rw [<-C85 k i,h,C85]
def swO (k:Nat) (o:Oper):Oper:={ o with after:=o.after.map fun e=>{ e with on:=sw k e.on },guard:=o.guard.map fun g=>(sw k g.1,g.2) }
def swp (k:Nat) (ops:Array Oper):Array Oper:=((List.range ops.size).map fun i=>swO k (ops.getD (sw k i) default)).toArray
theorem swp_size (k:Nat) (ops:Array Oper):(swp k ops).size=ops.size:=by simp [swp]
theorem C8f {k:Nat} {ops:Array Oper} (hk:k+1<ops.size) (i:Nat):(swp k ops)[sw k i]?=(ops[i]?).map (swO k):=by
 by_cases hi:i<ops.size
 ·have h1:sw k i<ops.size:=(C84 hk).2 hi;unfold swp;simp [h1,hi,C85]
 ·have h1:¬ sw k i<ops.size:=fun h=>hi ((C84 hk).1 h)
  rw [Array.getElem?_eq_none (by rw [swp_size];omega),Array.getElem?_eq_none (by omega)];rfl
theorem B7Q (k:Nat) (o:Oper):U7 (swO k o)=(U7 o).map (sw k):=by
 unfold U7 swO;simp only [Array.toList_map];rw [List.filter_map,List.map_map,List.map_map]
 congr 1
theorem C8e {k:Nat} {ops:Array Oper} (hk:k+1<ops.size) (o:Oper) (t:Array Value):Region.wanted (swO k o) (yielded (swp k ops) t)=Region.wanted o (yielded ops t):=by
 unfold Region.wanted swO;cases hg:o.guard with
 | none=>rfl
 | some g =>
  obtain ⟨j,b⟩:=g;simp only [Option.map_some];unfold yielded;rw [C8f hk];cases ops[j]?<;>rfl
theorem D3S {P:Program} {k:Nat} {ops:Array Oper} (hk:k+1<ops.size) {Q:Exit->Act->World->Prop} {i:Nat} {a:Act} {w:World} {K:Act->World->Prop}:wpOp P (swp k ops) Q (sw k i) K a w=wpOp P ops Q i K a w:=by
 unfold wpOp;rw [C8f hk];cases hi:ops[i]? with
 | none=>rfl
 | some o =>
  simp only [Option.map_some];rw [C8e hk];rfl
theorem C1k {k:Nat} {ops:Array Oper} (hk:k+1<ops.size) {l l':Array Bool} (hl:∀ i b,l'.getD (sw k i) b=l.getD i b) (i:Nat):sw k i∈Region.ready .any (swp k ops) l'↔i∈Region.ready .any ops l:=by
 rw [kI,kI,C8f hk];constructor
 ·rintro ⟨o',h1,h2,h3⟩;cases ho:ops[i]? with
  | none=>rw [ho] at h1;cases h1
  | some o =>
   rw [ho] at h1;cases h1;refine ⟨o,rfl,by rw [<-hl];exact h2,fun p hp=>?_⟩;rw [<-hl];exact h3 _ (by rw [B7Q];exact List.mem_map.2 ⟨p,hp,rfl⟩)
 ·rintro ⟨o,h1,h2,h3⟩;refine ⟨swO k o,by rw [h1];rfl,by rw [hl];exact h2,fun p hp=>?_⟩;rw [B7Q] at hp;obtain ⟨q,hq,rfl⟩:=List.mem_map.1 hp;rw [hl];exact h3 q hq
theorem C43 {k:Nat} {ops:Array Oper} (hk:k+1<ops.size) {l l':Array Bool} (hl:∀ i b,l'.getD (sw k i) b=l.getD i b) (h:Region.ready .any ops l=[]):Region.ready .any (swp k ops) l'=[]:=by
 rw [List.eq_nil_iff_forall_not_mem];intro i hi;have:=(C1k hk hl (sw k i)).1 (by rw [C85];exact hi);rw [h] at this;cases this
theorem C65 {P:Program} {k:Nat} {ops:Array Oper} (hk:k+1<ops.size) {Q:Exit->Act->World->Prop}:∀ (fuel:Nat) (l l':Array Bool) (a:Act) (w:World),l.size=ops.size->l'.size=ops.size->(∀ i b,l'.getD (sw k i) b=l.getD i b) ->
  wpAny P .any (swp k ops) Q fuel l' a w->wpAny P .any ops Q fuel l a w
 | 0,l,l',a,w,s1,s2,hl,h=>by
  refine ⟨?_,h.2⟩;rw [List.eq_nil_iff_forall_not_mem];intro i hi;have:=(C1k hk hl i).2 hi;rw [h.1] at this;cases this
 | fuel+1,l,l',a,w,s1,s2,hl,h=>by
  refine ⟨fun he=>h.1 (C43 hk hl he),fun i hi=>?_⟩;have h1:=h.2 (sw k i) ((C1k hk hl i).2 hi);rw [D3S hk] at h1;have R0:i<ops.size:=by
   obtain ⟨o,ho,_⟩:=kI.1 hi;exact (Array.getElem?_eq_some_iff.1 ho).1
  have D6F:sw k i<l'.size:=by rw [s2];exact (C84 hk).2 R0
  refine wpOp_mono (fun a w hh=>C65 hk fuel _ _ a w (by simpa using s1) (by simpa using s2) (fun j b=>?_) hh) h1;by_cases e:j=i
  ·subst e;simp [Array.getD,D6F,show j<l.size by omega]
  ·have e2:sw k j≠sw k i:=fun h=>e (D5g h)
   rw [Array.getD_eq_getD_getElem?,Array.getD_eq_getD_getElem?,Array.getElem?_setIfInBounds_ne (Ne.symm e2),Array.getElem?_setIfInBounds_ne (Ne.symm e),<-Array.getD_eq_getD_getElem?,<-Array.getD_eq_getD_getElem?];exact hl j b
theorem D1f {P:Program} {N L:Nat} {ops:Array Oper} {m id:Nat} {l r:List AOper} {s:AOper} {chk:List (Nat × AOp)} {E:E2} (hE:eV P E) {e:Env} {h:A4} {R:Type} {k:Env->A4->Option R} {res:R}
  (hc:(A0o P N ops m l (s::r)&&C9l ops l s chk r)=true\/(decide (l.length<ops.size)&&decide (0<l.length)&&A0o P N (swp (l.length-1) ops) m l (s::r)&&C9l (swp (l.length-1) ops) l s chk r)=true) (hL:L<=h.length)
  (C6:B0X E h h.length l e (h++List.replicate m none) (fun e h=>S8 E false h 0 s e h fun v h2=>again chk e h2 (A8y E r (e.put s.dst v) h2 k))=some res) :
  ∃ e' h',k e' h'=some res/\L<=h'.length/\StepsTo P N L ((Code.region id ops true).wp P) e h .normal e' h':=by
 rcases hc with hc | hc
 ·rw [Bool.and_eq_true] at hc;obtain ⟨e',h',h1,h2,h3⟩:=C3d hE hc.1 hc.2 hL C6;exact ⟨e',h',h1,h2,fun Γ μ0 a w g1 g2 g3 g4 Q hq=>wp_region_any (A5W hc.1).follows (h3 Γ μ0 a w g1 g2 g3 g4 Q hq)⟩
 ·simp only [Bool.and_eq_true,decide_eq_true_eq] at hc;obtain ⟨⟨⟨hs,h0⟩,hc⟩,hcs⟩:=hc;obtain ⟨e',h',h1,h2,h3⟩:=C3d hE hc hcs hL C6;refine ⟨e',h',h1,h2,fun Γ μ0 a w g1 g2 g3 g4 Q hq=>wp_region_any (A5W hc).follows ?_⟩;have hk:l.length-1+1<ops.size:=by omega
  refine C65 hk _ _ (Array.replicate ops.size false) a _ (by simp) (by simp) (fun i b=>?_) ?_
  ·simp only [Array.getD,Array.size_replicate,C84 hk];split<;>simp
  ·have:=h3 Γ μ0 a w g1 g2 g3 g4 Q hq;simpa only [swp_size] using this
section
def B6i (P:Program) (N:Nat) (ops:Array Oper):List Oper->List AOper->Bool
 | [],[]=>true
 | o::r,a::l=>X0 P N ops o a&&decide (a.slot=none)&&B6i P N ops r l
 | _,_=>false
def U3 (P:Program) (N:Nat):Code->ACode->Bool
 | c,.skip=>(match c with | .skip=>true | _=>false)
 | c,.ops l=>(match c with | .region _ ops false=>B6i P N ops ops.toList l | _=>false)
 | c,.draw m l r=>(match c with | .region _ ops true=>A0o P N ops m l r&&B3T ops l.length r.length | _=>false)
 | c,.drawS m l s chk r=>(match c with | .region _ ops true=>(A0o P N ops m l (s::r)&&C9l ops l s chk r)||(decide (l.length<ops.size)&&decide (0<l.length)&&A0o P N (swp (l.length-1) ops) m l (s::r)&&C9l (swp (l.length-1) ops) l s chk r) | _=>false)
 | c,.seq _ a b=>(match c with | .seq x y=>U3 P N x a&&U3 P N y b | _=>false)
 | c,.cond q a b=>(match c with | .cond z x y=>E1 z q&&U3 P N x a&&U3 P N y b | _=>false)
 | c,.block id a=>(match c with | .block bP x=>decide (bP=id)&&U3 P N x a | _=>false)
 | c,.loop _ a=>(match c with | .loop x=>U3 P N x a | _=>false)
 | c,.exit id=>(match c with | .exit bP=>decide (bP=id) | _=>false)
 | c,.ret=>(match c with | .ret=>true | _=>false)
def Z1 (P:Program):List ResultVar->List ARes->Bool
 | [],[]=>true
 | .tmp t::r,.tmp t'::l=>decide (t=t')&&Z1 P r l
 | .cell t ty::r,.cell1 t'::l=>decide (t=t')&&decide (iN P ty=some false)&&Z1 P r l
 | .cell t ty::r,.cellN t' n::l=>decide (t=t')&&decide (iN P ty=some true)&&decide (K8 P ty=some n)&&Z1 P r l
 | _,_=>false
def C29 (P:Program) (fn:Func) (f:AFn):Bool :=
 (match fn.body with | some c => U3 P fn.ntmps c f.code | none => false) && Z1 P fn.results.toList f.res && !(fn.name == "runtime.NumGoroutine")
section
variable {P:Program} {R:Type}
theorem C28 {N:Nat} {ops:Array Oper}:∀ (pre:List Oper) (os:List Oper) (aos:List AOper),ops.toList=pre++os->B6i P N ops os aos=true ->
  All2 (fun i ao=>∃ o,ops[i]?=some o/\X0 P N ops o ao=true/\ao.slot=none) (List.range' pre.length os.length) aos
 | pre,[],[],_,_=>trivial
 | pre,o::os,ao::aos,he,hc=>by
  simp only [B6i,Bool.and_eq_true,decide_eq_true_eq] at hc;rw [List.length_cons,List.range'_succ];refine ⟨⟨o,?_,hc.1.1,hc.1.2⟩,?_⟩
  ·rw [<-Array.getElem?_toList,he];simp
  ·have:=C28 (pre++[o]) os aos (by rw [he];simp) hc.2;simpa using this
 | _,[],_::_,_,h=>by simp [B6i] at h
 | _,_::_,[],_,h=>by simp [B6i] at h
theorem StepsTo.keep {N L:Nat} {W:(Exit->Act->World->Prop)->Act->World->Prop} {e:Env} {h:A4} {x:AExit} {e':Env} {h':A4} (l:List Nat) (hs:StepsTo P N L W (e.keep l) h x e' h'):StepsTo P N L W e h x e' h' :=
 fun Γ μ a w h1=>hs Γ μ a w (h1.keep l)
theorem C7b {N L:Nat} {E:E2} (hE:eV P E) (n:Nat):∀ (ac:ACode) (c:Code) (k:AExit->Env->A4->Option R) (e:Env) (h:A4) (r:R),
  U3 P N c ac=true->aex E n ac k e h=some r->L<=h.length->∃ x e' h',k x e' h'=some r/\L<=h'.length/\StepsTo P N L (c.wp P) e h x e' h':=by
 intro ac
 induction ac with
 | skip =>
  intro c k e h r hc C6 hL;unfold U3 at hc;split at hc
  ·exact ⟨.normal,e,h,C6,hL,fun Γ μ a w hs hi hN hd Q hq=>wp_skip (hq μ a w (Mu.le_refl _) (fun _ _=>rfl) hs hi hN hd)⟩
  ·cases hc
 | ops l =>
  intro c k e h r hc C6 hL;unfold U3 at hc;split at hc
  ·rename_i id ops;simp only [aex,D2n] at C6;obtain ⟨e',h',hk,hL',xI⟩:=B8M hE _ l e h _ r (C28 [] ops.toList l rfl hc) C6 hL;refine ⟨.normal,e',h',hk,hL',fun Γ μ a w hs hi hN hd Q hq=>wp_region ?_⟩;have:=xI Γ μ a w hs hi hN hd Q hq;simpa [List.range_eq_range'] using this
  ·cases hc
 | draw m l r' =>
  intro c k e h r hc C6 hL;unfold U3 at hc;split at hc
  ·rename_i id ops;simp only [aex,C8c] at C6;rw [Bool.and_eq_true] at hc;obtain ⟨e',h',hk,hL',xI⟩:=D29 (id:=id) hE hc.1 hc.2 hL C6;exact ⟨.normal,e',h',hk,hL',xI⟩
  ·cases hc
 | drawS m l s chk r' =>
  intro c k e h r hc C6 hL;unfold U3 at hc;split at hc
  ·rename_i id ops;simp only [aex,C48] at C6;obtain ⟨e',h',hk,hL',xI⟩:=D1f (id:=id) hE (by simpa only [Bool.or_eq_true] using hc) hL C6;exact ⟨.normal,e',h',hk,hL',xI⟩
  ·cases hc
 | seq keep a b iha ihb =>
  intro c k e h r hc C6 hL;unfold U3 at hc;split at hc
  ·rename_i x y;simp only [Bool.and_eq_true] at hc;simp only [aex,C60,D4S] at C6;obtain ⟨x1,e1,h1,hk1,hL1,A7z⟩:=iha x _ e h r hc.1 C6 hL;cases x1 with
   | normal =>
    change hold (aex E n b k (e1.keep keep) h1)=some r at hk1;simp only [hold] at hk1;obtain ⟨x2,e2,h2,hk2,hL2,D4I⟩:=ihb y k (e1.keep keep) h1 r hc.2 hk1 hL1;refine ⟨x2,e2,h2,hk2,hL2,fun Γ μ a w hs hi hN hd Q hq=>wp_seq (A7z Γ μ a w hs hi hN hd _ ?_)⟩;intro μ1 a1 w1 g1 g2 g3 g4 g5 g6;exact D4I Γ μ1 a1 w1 (g3.keep keep) g4 g5 g6 Q fun μ2 a2 w2 f1 f2 f3 f4 f5 f6=>hq μ2 a2 w2 (Mu.le_trans g1 f1) (fun id hid=>(f2 id hid).trans (g2 id hid)) f3 f4 f5 f6
   | exit id=>exact ⟨.exit id,e1,h1,hk1,hL1,fun Γ μ a w hs hi hN hd Q hq=>wp_seq (A7z Γ μ a w hs hi hN hd _ hq)⟩
   | ret=>exact ⟨.ret,e1,h1,hk1,hL1,fun Γ μ a w hs hi hN hd Q hq=>wp_seq (A7z Γ μ a w hs hi hN hd _ hq)⟩
  ·cases hc
 | cond q a b iha ihb =>
  intro c k e h r hc C6 hL;unfold U3 at hc;split at hc
  ·rename_i z x y;simp only [Bool.and_eq_true] at hc;simp only [aex,C1o,cnd] at C6;split at C6
   ·rename_i t vJ;have hz:∀ {μ:Mu} {a:Act},SEnv μ e a->a.eval z=.bool t:=by
     intro μ a hs;have:RV μ _ _:=C5 hc.1.1 hs;rw [vJ] at this;exact this
    cases t with
    | true =>
     obtain ⟨x1,e1,h1,hk1,hL1,A7z⟩:=iha x k e h r hc.1.2 C6 hL;exact ⟨x1,e1,h1,hk1,hL1,fun Γ μ a w hs hi hN hd Q hq=>wp_cond_true (hz hs) (A7z Γ μ a w hs hi hN hd Q hq)⟩
    | false =>
     obtain ⟨x1,e1,h1,hk1,hL1,A7z⟩:=ihb y k e h r hc.2 C6 hL;exact ⟨x1,e1,h1,hk1,hL1,fun Γ μ a w hs hi hN hd Q hq=>wp_cond_false (hz hs) (A7z Γ μ a w hs hi hN hd Q hq)⟩
   ·cases C6
  ·cases hc
 | block id a iha =>
  intro c k e h r hc C6 hL;unfold U3 at hc;split at hc
  ·rename_i bP x;simp only [Bool.and_eq_true,decide_eq_true_eq] at hc;obtain ⟨rfl,hc⟩:=hc;simp only [aex,B4Z,F6] at C6;obtain ⟨x1,e1,h1,hk1,hL1,A7z⟩:=iha x _ e h r hc C6 hL;cases x1 with
   | normal=>exact ⟨.normal,e1,h1,hk1,hL1,fun Γ μ a w hs hi hN hd Q hq=>wp_block (A7z Γ μ a w hs hi hN hd _ hq)⟩
   | exit i =>
    change (bif Nat.beq i bP then k .normal e1 h1 else k (.exit i) e1 h1)=some r at hk1;cases hb:Nat.beq i bP with
    | true =>
     rw [hb] at hk1;have hi':=Nat.eq_of_beq_eq_true hb;subst hi';exact ⟨.normal,e1,h1,hk1,hL1,fun Γ μ a w hs hi hN hd Q hq=>wp_block (A7z Γ μ a w hs hi hN hd _ fun μ1 a1 w1 g1 g2 g3 g4 g5 g6=>by
      show (if i=i then Q .normal a1 w1 else _);rw [if_pos rfl];exact hq μ1 a1 w1 g1 g2 g3 g4 g5 g6)⟩
    | false =>
     rw [hb] at hk1;have cK:i≠bP:=by intro e;subst e;simp at hb
     exact ⟨.exit i,e1,h1,hk1,hL1,fun Γ μ a w hs hi hN hd Q hq=>wp_block (A7z Γ μ a w hs hi hN hd _ fun μ1 a1 w1 g1 g2 g3 g4 g5 g6=>by
      show (if i=bP then _ else Q (.exit i) a1 w1);rw [if_neg cK];exact hq μ1 a1 w1 g1 g2 g3 g4 g5 g6)⟩
   | ret=>exact ⟨.ret,e1,h1,hk1,hL1,fun Γ μ a w hs hi hN hd Q hq=>wp_block (A7z Γ μ a w hs hi hN hd _ hq)⟩
  ·cases hc
 | loop keep a iha =>
  intro c k e h r hc C6 hL;unfold U3 at hc;split at hc
  ·rename_i x;simp only [aex,C1p] at C6;have key:∀ (m:Nat) (e:Env) (h:A4),A5R (aex E n a) keep k m e h=some r->L<=h.length ->
     ∃ x1 e' h',k x1 e' h'=some r/\L<=h'.length/\StepsTo P N L (fun Q=>Code.rounds P x Q m) e h x1 e' h':=by
    intro m
    induction m with
    | zero=>intro e h C6;rw [B7d] at C6;cases C6
    | succ m ih =>
     intro e h C6 hL;rw [B7c] at C6;obtain ⟨x1,e1,h1,hk1,hL1,A7z⟩:=iha x _ e h r hc C6 hL;cases x1 with
     | normal =>
      simp only at hk1;obtain ⟨x2,e2,h2,hk2,hL2,D4I⟩:=ih (e1.keep keep) h1 hk1 hL1;refine ⟨x2,e2,h2,hk2,hL2,fun Γ μ a w hs hi hN hd Q hq=>?_⟩;show Code.rounds P x Q (m+1) a w;rw [rounds_succ];refine A7z Γ μ a w hs hi hN hd _ ?_;intro μ1 a1 w1 g1 g2 g3 g4 g5 g6;exact D4I Γ μ1 a1 w1 (g3.keep keep) g4 g5 g6 Q fun μ2 a2 w2 f1 f2 f3 f4 f5 f6=>hq μ2 a2 w2 (Mu.le_trans g1 f1) (fun id hid=>(f2 id hid).trans (g2 id hid)) f3 f4 f5 f6
     | exit id=>exact ⟨.exit id,e1,h1,hk1,hL1,fun Γ μ a w hs hi hN hd Q hq=>by
       show Code.rounds P x Q (m+1) a w;rw [rounds_succ];exact A7z Γ μ a w hs hi hN hd _ hq⟩
     | ret=>exact ⟨.ret,e1,h1,hk1,hL1,fun Γ μ a w hs hi hN hd Q hq=>by
       show Code.rounds P x Q (m+1) a w;rw [rounds_succ];exact A7z Γ μ a w hs hi hN hd _ hq⟩
   obtain ⟨x1,e1,h1,hk1,hL1,A7z⟩:=key n (e.keep keep) h C6 hL;exact ⟨x1,e1,h1,hk1,hL1,fun Γ μ a w hs hi hN hd Q hq=>wp_loop_rounds n (A7z Γ μ a w (hs.keep keep) hi hN hd Q hq)⟩
  ·cases hc
 | exit id =>
  intro c k e h r hc C6 hL;unfold U3 at hc;split at hc
  ·simp at hc;subst hc;exact ⟨.exit _,e,h,C6,hL,fun Γ μ a w hs hi hN hd Q hq=>wp_exit (hq μ a w (Mu.le_refl _) (fun _ _=>rfl) hs hi hN hd)⟩
  ·cases hc
 | ret =>
  intro c k e h r hc C6 hL;unfold U3 at hc;split at hc
  ·exact ⟨.ret,e,h,C6,hL,fun Γ μ a w hs hi hN hd Q hq=>wp_ret (hq μ a w (Mu.le_refl _) (fun _ _=>rfl) hs hi hN hd)⟩
  ·cases hc
def A9u (tmps:Array Value):ResultVar->Sem Value
 | .tmp t=>pure (tmps.getD t undef)
 | .cell a t=>do loadVar t (<-asAddr (tmps.getD a undef))
theorem C3w {Γ:Ctx} {μ:Mu} {e:Env} {h:A4} {a:Act} {w:World} {q:ResultVar} {q':ARes} {v:Val} (hs:SEnv μ e a) (hi:Inv Γ μ h w) (hc:Z1 P [q] [q']=true) (hv:C9f e h q'=some v) :
  ∃ V,(A9u a.tmps q).run P w=.ok V w/\RV μ v V:=by
 cases q with
 | tmp t =>
  cases q' with
  | tmp t' =>
   simp [Z1] at hc;subst hc;simp [C9f] at hv;subst hv;exact ⟨_,rfl,hs t⟩
  | cell1 t'=>simp [Z1] at hc
  | cellN t' n=>simp [Z1] at hc
 | cell t ty =>
  cases q' with
  | tmp t'=>simp [Z1] at hc
  | cell1 t' =>
   simp [Z1] at hc;obtain ⟨rfl,mX⟩:=hc;simp only [C9f] at hv;obtain ⟨V,h1,h2⟩:=C3F (P:=P) (w:=w) mX hi.rows (hs t) hv;refine ⟨V,?_,h2⟩;rw [<-h1];have:∃ b,a.tmps.getD t undef=.pointer (some b):=by
    unfold A7 at hv;split at hv
    ·rename_i vJ;have:=hs t;rw [vJ] at this;obtain ⟨b,n,_,h3⟩:=this;exact ⟨_,h3⟩
    ·cases hv
   obtain ⟨b,hb⟩:=this;simp only [A9u,hb,Instr.loadAt,asAddr,Instr.sureAddr,pure_bind]
  | cellN t' n =>
   simp [Z1] at hc;obtain ⟨⟨rfl,mX⟩,hsz⟩:=hc;simp only [C9f] at hv;obtain ⟨V,h1,h2⟩:=C3G (P:=P) (w:=w) mX hsz hi.rows (hs t) hv;refine ⟨V,?_,h2⟩;rw [<-h1];have:∃ b,a.tmps.getD t undef=.pointer (some b):=by
    unfold A8 at hv;split at hv
    ·rename_i vJ;have:=hs t;rw [vJ] at this;obtain ⟨b,n,_,h3⟩:=this;exact ⟨_,h3⟩
    ·cases hv
   obtain ⟨b,hb⟩:=this;simp only [A9u,hb,Instr.loadAt,asAddr,Instr.sureAddr,pure_bind]
theorem B7j {q:ResultVar} {r:List ResultVar} {q':ARes} {l:List ARes} (h:Z1 P (q::r) (q'::l)=true):Z1 P [q] [q']=true/\Z1 P r l=true:=by
 cases q<;>cases q'<;>simp_all [Z1]
theorem C2S {Γ:Ctx} {μ:Mu} {e:Env} {h:A4} {a:Act} {w:World} (hs:SEnv μ e a) (hi:Inv Γ μ h w):∀ {qs:List ResultVar} {ls:List ARes} {ps:List Part},Z1 P qs ls=true->B7b e h ls=some ps ->
  ∃ Vs:List Value,(qs.mapM (A9u a.tmps)).run P w=.ok Vs w/\All2 (RP μ) ps Vs
 | [],[],ps,_,hv=>by simp [B7b] at hv;subst hv;exact ⟨[],rfl,trivial⟩
 | q::qs,q'::ls,ps,hc,hv=>by
  simp only [B7b,Option.bind_eq_some_iff,Option.map_eq_some_iff] at hv;obtain ⟨v,hv1,p,hp,l,hl,rfl⟩:=hv;obtain ⟨h1,h2⟩:=B7j hc;obtain ⟨V,h3,h4⟩:=C3w hs hi h1 hv1;obtain ⟨Vs,h5,h6⟩:=C2S hs hi h2 hl;refine ⟨V::Vs,?_,RP.ofVal h4 hp,h6⟩;rw [List.mapM_cons];simp [h3,h5]
 | [],_::_,_,h,_=>by simp [Z1] at h
 | _::_,[],_,h,_=>by simp [Z1] at h
theorem C6L {fn:Func} {tmps:Array Value} {w:World}:(results fn tmps).run P w=((fn.results.toList.mapM (A9u tmps)).run P w).andThen fun vs w=>.ok (if h:vs.toArray.size=1 then vs.toArray[0] else .tuple vs.toArray) w:=by
 unfold results;rw [Array.mapM_eq_mapM_toList];simp only [Sem.run_bind,Sem.run_map];have key:∀ g:ResultVar->Sem Value,(∀ q,g q=A9u tmps q)->((((List.mapM g fn.results.toList).run P w).andThen fun a w'=>Result.ok a.toArray w').andThen fun a w'=>(pure (if h:a.size=1 then a[0] else Value.tuple a):Sem Value).run P w') =
   ((fn.results.toList.mapM (A9u tmps)).run P w).andThen fun vs w=>.ok (if h:vs.toArray.size=1 then vs.toArray[0] else .tuple vs.toArray) w:=by
  intro g hg;rw [funext hg];cases (fn.results.toList.mapM (A9u tmps)).run P w<;>rfl
 exact key _ fun q=>by cases q<;>rfl
theorem B2k {Γ:Ctx} {μ:Mu} {e:Env} {h h':A4} {a:Act} {w:World} {fn:Func} {rs:List ARes} {v:Val} (hs:SEnv μ e a) (hi:Inv Γ μ h w) (hc:Z1 P fn.results.toList rs=true) (hv:jX rs e h=some (v,h')) :
  ∃ V,(results fn a.tmps).run P w=.ok V w/\RV μ v V/\h'=h:=by
 rw [C6L];unfold jX at hv;split at hv
 ·rename_i q';simp only [Option.map_eq_some_iff,Prod.mk.injEq] at hv;obtain ⟨_,h1,rfl,rfl⟩:=hv;cases hq:fn.results.toList with
  | nil=>rw [hq] at hc;simp [Z1] at hc
  | cons q r =>
   cases r with
   | cons q2 r=>rw [hq] at hc;have:=(B7j hc).2;simp [Z1] at this
   | nil =>
    rw [hq] at hc;obtain ⟨V,h3,h4⟩:=C3w hs hi hc h1;refine ⟨V,?_,h4,rfl⟩;rw [List.mapM_cons];simp [h3]
 ·rename_i cK;simp only [Option.map_eq_some_iff,Prod.mk.injEq] at hv;obtain ⟨l,h1,rfl,rfl⟩:=hv;obtain ⟨Vs,h3,h4⟩:=C2S hs hi hc h1;refine ⟨.tuple Vs.toArray,?_,⟨Vs,rfl,h4⟩,rfl⟩;rw [h3];have hl:Vs.length≠1:=by
   rw [<-h4.length];intro h0;have:∀ (ls:List ARes) (ps:List Part),B7b e h ls=some ps->ls.length=ps.length:=by
    intro ls
    induction ls with
    | nil=>intro ps h;simp [B7b] at h;subst h;rfl
    | cons x r ih =>
     intro ps h;simp only [B7b,Option.bind_eq_some_iff,Option.map_eq_some_iff] at h;obtain ⟨_,_,_,_,l',hl',rfl⟩:=h;simp [ih l' hl']
   have h5:=this _ _ h1;rw [h0] at h5;cases rs with
   | nil=>simp at h5
   | cons q r =>
    cases r with
    | nil=>exact cK q rfl
    | cons _ _=>simp at h5
  simp [hl]
theorem C1a:∀ (args:List Val) (i t:Nat),(params i args).get t=if i<=t then (args[t-i]?).getD .un else .un
 | [],i,t=>by simp [params,Env.get]
 | v::r,i,t=>by
  simp only [params,Env.get];by_cases h:i=t
  ·subst h;simp
  ·have hb:Nat.beq i t=false:=by cases hb:Nat.beq i t with
    | false=>rfl
    | true=>exact absurd (Nat.eq_of_beq_eq_true hb) h
   rw [hb,cond_false,C1a r (i+1) t];by_cases h2:i<=t
   ·have:t-i=(t-(i+1))+1:=by omega
    rw [if_pos h2,if_pos (by omega),this,List.getElem?_cons_succ]
   ·rw [if_neg h2,if_neg (by omega)]
theorem Inv.ds {Γ:Ctx} {μ:Mu} {h:A4} {w:World} (ds:List Deferred) (hi:Inv Γ μ h w):Inv { Γ with ds:=ds } μ h w :=
 ⟨hi.rows,hi.sep,hi.own,hi.dom,⟨hi.ctx.os,hi.ctx.tape,hi.ctx.output,hi.ctx.block⟩⟩
theorem C5w {μ:Mu} {args:List Val} {V:List Value} (hargs:All2 (RV μ) args V) (n:Nat):SEnv μ (params 0 args) { tmps:=V.toArray++Array.replicate n undef,defers:=[] }:=by
 intro t;rw [C1a];simp only [Nat.zero_le,if_true,Nat.sub_zero];cases ha:args[t]? with
 | none=>trivial
 | some x =>
  obtain ⟨X,h2,h3⟩:=hargs.get t x ha;have R0:=(List.getElem?_eq_some_iff.1 h2).1;have:(V.toArray++Array.replicate n undef).getD t undef=X:=by
   rw [Array.getD_eq_getD_getElem?,Array.getElem?_append_left (by simpa using R0)];simp [h2]
  rw [this];exact h3
theorem D3V {E:E2} (hE:eV P E) {f:FuncId} {fn:Func} {af:AFn} (hf:P.funcs[f]?=some fn) (hc:C29 P fn af=true) {n:Nat} {args:List Val} {h h':A4} {v:Val} (C6:af.run E n args h=some (v,h')) :
  gK P f/\h.length<=h'.length/\∃ c,fn.body=some c/\∀ (Γ:Ctx) (μ:Mu) (w:World) (V:List Value),Inv Γ μ h w->All2 (RV μ) args V ->
   c.wp P (bodyPost P fn fun e w'=>∃ V' μ',e=.returned V' /\ μ.le μ'/\RV μ' v V'/\Inv Γ μ' h' w'/\∀ id,id<h.length -> μ' id = μ id) { tmps:=V.toArray++Array.replicate (fn.ntmps-V.toArray.size) undef,defers:=[] } w:=by
 simp only [C29,Bool.and_eq_true,Bool.not_eq_true'] at hc;obtain ⟨⟨hb,hr⟩,C6b⟩:=hc;cases B7B:fn.body with
 | none=>rw [B7B] at hb;cases hb
 | some c =>
  rw [B7B] at hb;unfold AFn.run at C6;obtain ⟨x,e',h1,hk,hL,xI⟩:=C7b (L:=h.length) hE n af.code c af.fin (params 0 args) h (v,h') hb C6 (Nat.le_refl _);have hlen:h.length<=h'.length:=by
   cases x with
   | normal=>simp only [AFn.fin] at hk;unfold jX at hk;split at hk<;>simp at hk<;>obtain ⟨_,_,_,rfl⟩:=hk<;>exact hL
   | ret=>simp only [AFn.fin] at hk;unfold jX at hk;split at hk<;>simp at hk<;>obtain ⟨_,_,_,rfl⟩:=hk<;>exact hL
   | exit=>simp [AFn.fin] at hk
  refine ⟨⟨fn,hf,C6b,by simp [B7B]⟩,hlen,c,rfl,?_⟩;intro Γ μ w V hi hargs;refine xI { Γ with ds:=[] } μ _ w (C5w hargs _) (hi.ds []) ?_ rfl _ ?_
  ·simp;omega
  ·intro μ' a' w' g1 g2 g3 g4 g5 g6;have fin:∀ hk:jX af.res e' h1=some (v,h'),a'.defers=[]/\∃ v_1,(results fn a'.tmps).run P w'=.ok v_1 w'/\∃ V' μ',Ending.returned v_1=.returned V' /\ μ.le μ'/\RV μ' v V'/\Inv Γ μ' h' w'/\∀ id,id<h.length -> μ' id = μ id:=by
    intro hk;obtain ⟨V',h2,h3,h4⟩:=B2k g3 g4 hr hk;subst h4;exact ⟨g6,V',h2,V',μ',rfl,g1,h3,g4.ds Γ.ds,g2⟩
   cases x with
   | normal=>exact fin hk
   | ret=>exact fin hk
   | exit=>simp [AFn.fin] at hk
theorem D5y {E:E2} (hE:eV P E) {f:FuncId} {fn:Func} {af:AFn} (hf:P.funcs[f]?=some fn) (hc:C29 P fn af=true) {n:Nat} {args:List Val} {h h':A4} {v:Val} (C6:af.run E n args h=some (v,h')) :
  gK P f/\CallOk P f args h v h'/\h.length<=h'.length:=by
 obtain ⟨h1,h2,c,hb,hw⟩:=D3V hE hf hc C6;exact ⟨h1,fun Γ μ w V hi hargs=>calls_of_wp hf hb (hw Γ μ w V hi hargs),h2⟩
end
end
end Go.Esc
namespace Go.Esc
open Go Go.ChangeShapes Go.WideShapes Go.ChangeAt Go.RowKit
section
def C0h (W:World):Ctx:=⟨fun b=>W.heap[b]?,W.os,W.tape,W.output,[]⟩
theorem C33 {W w:World} (h:(C0h W).ok w):Below W.heap.size W w:=by
 have hb:∀ k,k<W.heap.size->w.heap[k]?=W.heap[k]? := by
  intro k hk;have e:W.heap[k]?=some W.heap[k]:=by simp [hk]
  rw [e];exact h.block k _ e
 refine ⟨h.os,h.tape,h.output,?_,hb⟩;rcases Nat.eq_zero_or_pos W.heap.size with h0 | h0
 ·omega
 ·have:=hb (W.heap.size-1) (by omega);have e:W.heap[W.heap.size-1]?=some (W.heap[W.heap.size-1]'(by omega)):=by simp
  rw [e] at this;have:=(Array.getElem?_eq_some_iff.1 this).1;omega
theorem C2l {W w:World} {may:MemPlace->Prop} (h:Below W.heap.size W w):W.keptBut w may:=by
 refine ⟨h.os,h.output,fun i hi=>?_⟩;rw [h.block i hi];cases W.heap[i]? with
 | none=>rfl
 | some o=>cases o<;>simp
section
variable {H:Type} {enc:TypeId × Value->H} {P:Program}
theorem C2Y (hl:laidOutB P=true) {W W':World} (hb:Below W.heap.size W W'):∀ {ts:List TypeId} {vs:List Value} {ds:List (DataW H)} {ps:List MemPlace},
  (∀ t∈ts,P.readableRec t=true/\t<P.types.size)->(∀ x∈ps,x.block<W.heap.size)->DataW.TrodAll enc P W 0 (fun _=>true) true ts vs ds ps->DataW.TrodAll enc P W' 0 (fun b=>decide (b<W.heap.size)) true ts vs ds ps
 | [],[],[],_,_,_,h=>h
 | t::ts,v::vs,d::ds,_,hts,R0,⟨p,q,h1,h2,e⟩=>by
  subst e;exact ⟨p,q,Below.trod hl (hts t (by simp)).1 (hts t (by simp)).2 h1 hb (fun x hx=>R0 x (List.mem_append_left _ hx)),C2Y hl hb (fun t ht=>hts t (by simp [ht])) (fun x hx=>R0 x (List.mem_append_right _ hx)) h2,rfl⟩
 | [],_::_,_,_,_,_,h=>by cases h
 | [],[],_::_,_,_,_,h=>by cases h
 | _::_,[],_,_,_,_,h=>by cases h
 | _::_,_::_,[],_,_,_,h=>by cases h
theorem C90 {f:Func} {s:ChangeSpec} {apart:Bool} {tb:TypeId} {W W':World} {args:Array Value} {ds gs:List (DataW H)} {before:List MemPlace}
  (hl:laidOutB P=true) (hts:∀ t∈f.params.toList,P.readableRec t=true/\t<P.types.size) (hr:f.resultTypes = #[tb]) (hb:P.underlying tb=some .bool) (hv:s.vars=[])
  (hs:∀ ds:List (DataW H),ds.length=f.params.toList.length->s.fn H ds={ results:=[.lit (.bool true)],args:=ds })
  (hW:DataW.Whole enc P f.params.toList s.vars apart W args.toList ds gs before) (hB:Below W.heap.size W W') :
  s.post enc P f apart true false false W args (.bool true) W':=by
 have R0:=hW.lt;obtain ⟨p,q,h1,h2,h3,h4,h5⟩:=id hW;rw [hv] at h2;obtain ⟨rfl,rfl⟩:=trodVars_none h2;rw [List.append_nil] at h3;subst h3;have hd:ds.length=f.params.toList.length:=(trodAll_length h1).2;have hfn:s.fn H (ds++[])={ results:=[.lit (.bool true)],args:=ds }:=by rw [List.append_nil];exact hs ds hd
 refine ⟨ds,[],before,[],before,[],hW,?_,?_,?_,World.keptBut_mono (fun _ h=>h) (C2l hB),fun h=>by cases h⟩
 ·rw [hfn,hr];exact trodAll_mk1 (shut_bool hb true)
 ·rw [hfn];exact C2Y hl hB hts R0 h1
 ·rw [hfn,hv];exact rfl
end
theorem D13 {C:Checked} {os:Os} {H:Type} {enc:TypeId × Value->H} {f:FuncId} {fn:Func} {s:ChangeSpec} {conds:List PathCond} {tb:TypeId}
  (own:ownKnob C.prog.godebug=none) (started:os.Started) (D4Y:C.prog.inits.idxOf? f=none) (hfn:C.prog.funcs[f]?=some fn)
  (witness:∃ (w:World) (tape:Tape) (i:Input),w.os=os/\(w.forCall tape i).Shaped C.prog/\i.vars=[]/\Input.okWide C.prog (w.forCall tape i) .any w.heap.size f i /\
   s.pre6 enc C.prog fn conds false (w.forCall tape i).memory i.args/\Assume.holds {} C.prog (lone (Frame.enter C.prog f i.args .normal) [] (w.forCall tape i)))
  (hl:laidOutB C.prog=true) (hts:∀ t∈fn.params.toList,C.prog.readableRec t=true/\t<C.prog.types.size) (hr:fn.resultTypes = #[tb]) (hb:C.prog.underlying tb=some .bool) (hv:s.vars=[])
  (hs:∀ ds:List (DataW H),ds.length=fn.params.toList.length->s.fn H ds={ results:=[.lit (.bool true)],args:=ds })
  (walk:∀ (W:World) (base:Nat) (args:Array Value) (ds:List (DataW H)) (ps:List MemPlace),
   (∀ (j:Nat) t v,fn.params[j]?=some t->args[j]?=some v->Value.okWide C.prog W .any base t v) ->
   DataW.TrodAll enc C.prog W 0 (fun _=>true) true fn.params.toList args.toList ds ps ->
   ∃ vals h μ h',Inv (C0h W) μ h W/\All2 (RV μ) vals args.toList/\CallOk C.prog f vals h (.c (.b true)) h') :
  ReturnsInHanded {} C os f .any (s.pre6 enc C.prog fn conds false) (s.post enc C.prog fn false true false false):=by
 refine returnsInHanded_of_change own started D4Y hfn witness ?_;intro W base args ds gs before oE hW _ _;obtain ⟨p,q,hA,_⟩:=id hW;obtain ⟨vals,h,μ,h',hi,hv2,hc⟩:=walk W base args ds p (fun j t v h1 h2=>oE j t v h1 h2) hA;refine (hc (C0h W) μ W args.toList hi hv2).mono fun e W' ⟨V',μ',he,_,hV,hi',_⟩=>?_
 have:V'=.bool true:=hV;subst this;exact ⟨_,he,C90 hl hts hr hb hv hs hW (C33 hi'.ctx)⟩
theorem Inv.nought (W:World):Inv (C0h W) (fun _=>Option.none) [] W where
 rows:=fun id r h=>by simp [rd] at h
 sep:=fun id bP r r' x x' h=>by simp [rd] at h
 own:=fun id r x h=>by simp [rd] at h
 dom:=fun _ _=>rfl
 ctx:=⟨rfl,rfl,rfl,fun _ _ h=>h⟩
end
end Go.Esc
namespace Go.Esc
open Go
section
variable {R:Type} {E:E2}
theorem D0J {q:Bool} {hr:A4} {n0:Nat} {slot:Option Nat} {o:AOp} {e:Env} {h:A4} {k k':Val->A4->Option R} (hk:∀ v h p,k v h=some p->k' v h=some p) {p:R}
  (hp:aop E q hr n0 slot o e h k=some p):aop E q hr n0 slot o e h k'=some p:=by
 cases o<;>simp only [aop,Option.bind_eq_some_iff] at hp ⊢ <;> first | exact hk _ _ _ hp | (obtain ⟨x,hx,hp⟩:=hp;exact ⟨x,hx,hk _ _ _ hp⟩)
theorem B2j {q:Bool} {hr:A4} {n0:Nat} {o:AOper} {e:Env} {h:A4} {k k':Val->A4->Option R} (hk:∀ v h p,k v h=some p->k' v h=some p) {p:R}
  (hp:S8 E q hr n0 o e h k=some p):S8 E q hr n0 o e h k'=some p:=by
 unfold S8 at hp ⊢;cases hg:o.guard with
 | none=>rw [hg] at hp;exact D0J hk hp
 | some g =>
  rw [hg] at hp;simp only [Option.bind_eq_some_iff] at hp ⊢;obtain ⟨x,hx,hp⟩:=hp;exact ⟨x,hx,hk _ _ _ hp⟩
theorem A9S {k k':Env->A4->Option R} (hk:∀ e h p,k e h=some p->k' e h=some p):∀ {l:List AOper} {e:Env} {h:A4} {p:R},A8y E l e h k=some p->A8y E l e h k'=some p
 | [],_,_,_,hp=>hk _ _ _ hp
 | o::l,e,h,p,hp=>by
  rw [C2W] at hp ⊢;exact B2j (fun v h p=>A9S hk) hp
theorem B2h {hr:A4} {n0:Nat} {k k':Env->A4->Option R} (hk:∀ e h p,k e h=some p->k' e h=some p):∀ {l:List AOper} {e:Env} {h:A4} {p:R},B0X E hr n0 l e h k=some p->B0X E hr n0 l e h k'=some p
 | [],_,_,_,hp=>hk _ _ _ hp
 | o::l,e,h,p,hp=>by
  rw [B9P] at hp ⊢;exact B2j (fun v h p=>B2h hk) hp
def KLe (k k':A93 R):Prop:=∀ x e h p,k x e h=some p->k' x e h=some p
def D5p (s s':Sm R):Prop:=∀ k k':A93 R,KLe k k'->∀ e h p,s k e h=some p->s' k' e h=some p
theorem C2Z {c c':Sm R} (hc:D5p c c') {keep:List Nat} {k k':A93 R} (hk:KLe k k'):∀ {n n':Nat},n<=n'->∀ e h p,A5R c keep k n e h=some p->A5R c' keep k' n' e h=some p
 | 0,_,_,e,h,p,hp=>by rw [B7d] at hp;cases hp
 | n+1,0,hn,e,h,p,hp=>by omega
 | n+1,n'+1,hn,e,h,p,hp=>by
  rw [B7c] at hp ⊢;refine hc _ _ (fun x e h p hp=>?_) e h p hp;cases x with
  | normal=>exact C2Z hc hk (by omega) _ _ _ hp
  | exit id=>exact hk _ _ _ _ hp
  | ret=>exact hk _ _ _ _ hp
theorem B9U {e:Env} {h:A4} {k k':Option R} {p:R} (hk:k=some p->k'=some p):∀ {l:List (Nat × AOp)},again l e h k=some p->again l e h k'=some p
 | [],hp=>hk hp
 | c::l,hp=>by
  rw [B9T] at hp ⊢;unfold agn at hp ⊢;split at hp
  ·rename_i hc;rw [if_pos hc];exact B9U hk hp
  ·cases hp
theorem B2i {n n':Nat} (hn:n<=n'):∀ c:ACode,D5p (R:=R) (aex E n c) (aex E n' c)
 | .skip=>fun k k' hk e h p hp=>hk _ _ _ _ hp
 | .ops l=>fun k k' hk e h p hp=>A9S (fun e h p hp=>hk _ _ _ _ hp) hp
 | .draw m l r=>fun k k' hk e h p hp=>B2h (fun e h p hp=>A9S (fun e h p hp=>hk _ _ _ _ hp) hp) hp
 | .drawS m l s chk r=>fun k k' hk e h p hp=>B2h (fun e h p hp=>B2j (fun v h p hp=>B9U (fun hp=>A9S (fun e h p hp=>hk _ _ _ _ hp) hp) hp) hp) hp
 | .seq keep a b=>fun k k' hk e h p hp=>by
  refine B2i hn a _ _ (fun x e h p hp=>?_) e h p hp;cases x with
  | normal=>exact B2i hn b k k' hk _ _ _ hp
  | exit id=>exact hk _ _ _ _ hp
  | ret=>exact hk _ _ _ _ hp
 | .cond c a b=>fun k k' hk e h p hp=>by
  change cnd (e.ev c) (aex E n a k e h) (aex E n b k e h)=some p at hp;change cnd (e.ev c) (aex E n' a k' e h) (aex E n' b k' e h)=some p;unfold cnd at hp ⊢;split at hp
  ·rename_i x _;cases x
   ·exact B2i hn b k k' hk _ _ _ hp
   ·exact B2i hn a k k' hk _ _ _ hp
  ·cases hp
 | .block id a=>fun k k' hk e h p hp=>by
  refine B2i hn a _ _ (fun x e h p hp=>?_) e h p hp;cases x with
  | normal=>exact hk _ _ _ _ hp
  | ret=>exact hk _ _ _ _ hp
  | exit i =>
   change (bif Nat.beq i id then k .normal e h else k (.exit i) e h)=some p at hp;change (bif Nat.beq i id then k' .normal e h else k' (.exit i) e h)=some p;cases hb:Nat.beq i id with
   | true=>simp only [hb,cond_true] at hp ⊢;exact hk _ _ _ _ hp
   | false=>simp only [hb,cond_false] at hp ⊢;exact hk _ _ _ _ hp
 | .loop keep a=>fun k k' hk e h p hp=>C2Z (B2i hn a) hk hn _ _ _ hp
 | .exit id=>fun k k' hk e h p hp=>hk _ _ _ _ hp
 | .ret=>fun k k' hk e h p hp=>hk _ _ _ _ hp
theorem D2a {f:AFn} {n n':Nat} (hn:n<=n') {args:List Val} {h:A4} {p:Val × A4} (hp:f.run E n args h=some p):f.run E n' args h=some p :=
 B2i hn f.code _ _ (fun _ _ _ _ h=>h) _ _ _ hp
open Classical in
noncomputable def Lim (f:AFn) (E:E2) (args:List Val) (h:A4):Option (Val × A4) :=
 if H:∃ p n,f.run E n args h=some p then some H.choose else none
theorem D39 {f:AFn} {n:Nat} {args:List Val} {h:A4} {p:Val × A4} (hp:f.run E n args h=some p):Lim f E args h=some p:=by
 have H:∃ p n,f.run E n args h=some p:=⟨p,n,hp⟩;unfold Lim;rw [dif_pos H];obtain ⟨m,hm⟩:=H.choose_spec;have h1:=D2a (Nat.le_max_left n m) hp;have h2:=D2a (Nat.le_max_right n m) hm;rw [h1] at h2;exact h2.symm
theorem C8j {f:AFn} {args:List Val} {h:A4} {p:Val × A4} (hp:Lim f E args h=some p):∃ n,f.run E n args h=some p:=by
 unfold Lim at hp;split at hp
 ·rename_i H;cases hp;exact H.choose_spec
 ·cases hp
end
section
def bnd {α β:Type} (x:Option α) (f:α -> Option β):Option β:=x.bind f
def mp {α β:Type} (x:Option α) (f:α -> β):Option β:=x.map f
@[congr] theorem D6j {α β:Type} {x x':Option α} {f:α -> Option β} (h:x=x'):bnd x f=bnd x' f:=by rw [h]
@[congr] theorem D7g {α β:Type} {x x':Option α} {f:α -> β} (h:x=x'):mp x f=mp x' f:=by rw [h]
@[congr] theorem D6l {R:Type} {v v':Val} {a b:Option R} (h:v=v'):cnd v a b=cnd v' a b:=by rw [h]
@[congr] theorem D66 {v v':Val} {w:Bool} {a b:Option (Val × A4)} (h:v=v'):gd v w a b=gd v' w a b:=by rw [h]
@[congr] theorem D6h {R:Type} {x x':Option Val} {v v':Val} {k:Option R} (h:x=x') (h2:v=v'):agn x v k=agn x' v' k:=by rw [h,h2]
theorem D0E {R:Type} {v:Val} {k:Option R}:agn (some v) v k=k:=Eq.trans (if_pos rfl) rfl
@[simp] theorem V9 {α β:Type} {a:α} {f:α -> Option β}:bnd (some a) f=f a:=Eq.trans rfl rfl
@[simp] theorem D3p {α β:Type} {a:α} {f:α -> β}:mp (some a) f=some (f a):=Eq.trans rfl rfl
section
variable {R:Type} {k:IntKind} {a b:Int} {s t:List UInt8} {h:A4}
@[simp] theorem D2K:B0Z (.c (.s s))=some (.c (.i .i64 s.length)):=rfl
@[simp] theorem A9Q {id off len sz:Nat}:O0 (.c (.sl id off len sz))=some (.c (.i .i64 len)):=rfl
@[simp] theorem D2L:O0 (.c .ns)=some (.c (.i .i64 0)):=rfl
@[simp] theorem A1h:B5 .add (.c (.i k a)) (.c (.i k b))=some (.c (.i k (k.wrap (a+b)))):=by simp [B5,A83]
@[simp] theorem D0y:B5 .sub (.c (.i k a)) (.c (.i k b))=some (.c (.i k (k.wrap (a-b)))):=by simp [B5,A83]
@[simp] theorem D0v:B5 .mul (.c (.i k a)) (.c (.i k b))=some (.c (.i k (k.wrap (a*b)))):=by simp [B5,A83]
@[simp] theorem D0w (hb:b≠0):B5 .quo (.c (.i k a)) (.c (.i k b))=some (.c (.i k (k.wrap (a.tdiv b)))):=by simp [B5,A83,hb]
@[simp] theorem D0x (hb:b≠0):B5 .rem (.c (.i k a)) (.c (.i k b))=some (.c (.i k (a.tmod b))):=by simp [B5,A83,hb]
theorem C5p:B5 .and (.c (.i k a)) (.c (.i k b))=some (.c (.i k (k.wrap (BitVec.ofInt k.bits a &&& BitVec.ofInt k.bits b).toNat))):=by simp [B5,A83]
theorem C31:B5 .or (.c (.i k a)) (.c (.i k b))=some (.c (.i k (k.wrap (BitVec.ofInt k.bits a ||| BitVec.ofInt k.bits b).toNat))):=by simp [B5,A83]
theorem D0z:B5 .xor (.c (.i k a)) (.c (.i k b))=some (.c (.i k (k.wrap (BitVec.ofInt k.bits a ^^^ BitVec.ofInt k.bits b).toNat))):=by simp [B5,A83]
@[simp] theorem A1i:B5 .eql (.c (.i k a)) (.c (.i k b))=some (.c (.b (decide (a=b)))):=by simp [B5,A83];rfl
@[simp] theorem C5q:B5 .neq (.c (.i k a)) (.c (.i k b))=some (.c (.b (decide (a≠b)))):=by simp [B5,A83];by_cases h:a=b<;>simp [h]
@[simp] theorem A4z:B5 .lss (.c (.i k a)) (.c (.i k b))=some (.c (.b (decide (a<b)))):=by simp [B5,A83]
@[simp] theorem D0u:B5 .leq (.c (.i k a)) (.c (.i k b))=some (.c (.b (decide (a<=b)))):=by simp [B5,A83]
@[simp] theorem D0t:B5 .gtr (.c (.i k a)) (.c (.i k b))=some (.c (.b (decide (b<a)))):=by simp [B5,A83]
@[simp] theorem D0s:B5 .geq (.c (.i k a)) (.c (.i k b))=some (.c (.b (decide (b<=a)))):=by simp [B5,A83]
@[simp] theorem C9a:B5 .eql (.c (.s s)) (.c (.s t))=some (.c (.b (decide (s=t)))):=by simp [B5,D2g];by_cases h:s=t<;>simp [h]
@[simp] theorem C9c:B5 .neq (.c (.s s)) (.c (.s t))=some (.c (.b (decide (s≠t)))):=by simp [B5,D2g];by_cases h:s=t<;>simp [h]
@[simp] theorem C9b:B5 .lss (.c (.s s)) (.c (.s t))=some (.c (.b (Q9 s t))):=by simp [B5,D2g]
@[simp] theorem D2Y {x:Bool}:aun .not (.c (.b x))=some (.c (.b (!x))):=rfl
@[simp] theorem D2G {n:Bool}:B0k true n (.c .nf)=some (.c (.b (!n))):=Eq.trans rfl rfl
@[simp] theorem D4d {n:Bool} {f:Nat} {cs:List (Nat × Nat)}:B0k true n (.c (.f f cs))=some (.c (.b n)):=Eq.trans rfl rfl
@[simp] theorem D2H {n:Bool}:B0k false n (.c .np)=some (.c (.b (!n))):=Eq.trans rfl rfl
@[simp] theorem D4e {n:Bool} {id off:Nat}:B0k false n (.c (.p id off))=some (.c (.b n)):=Eq.trans rfl rfl
@[simp] theorem D2O {id off:Nat}:I5 (.c (.p id off))=some (.c (.p id off)):=Eq.trans rfl rfl
@[simp] theorem D2X:aun .neg (.c (.i k a))=some (.c (.i k (k.wrap (0-a)))):=rfl
@[simp] theorem D4c {x y:Bool}:C9d false (.c (.b x)) (.c (.b y))=some (.c (.b (x==y))):=rfl
@[simp] theorem D4b {x y:Bool}:C9d true (.c (.b x)) (.c (.b y))=some (.c (.b (!(x==y)))):=rfl
@[simp] theorem D2F {k':IntKind}:dJ k (.c (.i k' a))=some (.c (.i k (k.wrap a))):=rfl
@[simp] theorem D2Q {x:Bool} {u v:Val}:F0 (.c (.b x)) u v=some (bif x then u else v):=rfl
@[simp] theorem D5C {w:Bool} {u v:Option (Val × A4)}:gd .no w u v=v:=Eq.trans rfl rfl
@[simp] theorem D5E {u v:Option (Val × A4)}:gd (.c (.b true)) true u v=u:=Eq.trans rfl rfl
@[simp] theorem D5D {u v:Option (Val × A4)}:gd (.c (.b true)) false u v=v:=Eq.trans rfl rfl
@[simp] theorem D5B {u v:Option (Val × A4)}:gd (.c (.b false)) true u v=v:=Eq.trans rfl rfl
@[simp] theorem D5A {u v:Option (Val × A4)}:gd (.c (.b false)) false u v=u:=Eq.trans rfl rfl
@[simp] theorem C8w {u v:Option R}:cnd (.c (.b true)) u v=u:=Eq.trans rfl rfl
@[simp] theorem C5Q {u v:Option R}:cnd (.c (.b false)) u v=v:=Eq.trans rfl rfl
@[simp] theorem D2J {i:Nat}:B0Y (.c (.s s)) (.c (.i k i))=(s[i]?).map fun b=>.c (.i .u8 b.toNat):=by simp [B0Y]
@[simp] theorem D0B {l:List Part} {i:Nat}:H0 (.t l) i=(l[i]?).map ofPart:=rfl
@[simp] theorem C6A {x:Cell}:ofPart (.c x)=.c x:=rfl
@[simp] theorem C6z {l:List Cell}:ofPart (.a l)=.a l:=rfl
@[simp] theorem D3t {x:Cell}:oZ (.c x)=some (.c x):=rfl
@[simp] theorem C8T {l:List Cell}:oZ (.a l)=some (.a l):=rfl
@[simp] theorem C5D {x:Cell}:cells? (.c x)=some [x]:=rfl
@[simp] theorem A8H {l:List Cell}:cells? (.a l)=some l:=rfl
@[simp] theorem D5h {u v:Option Val}:I6 [u,v] h=bnd u fun u=>bnd (oZ u) fun p=>bnd v fun v=>bnd (oZ v) fun q=>some (.t [p,q],h):=by
 cases u with
 | none=>rfl
 | some u=>cases v with
  | none=>cases hu:oZ u<;>simp [I6,C1x,hu]<;>rfl
  | some v=>cases hu:oZ u<;>cases hv:oZ v<;>simp [I6,C1x,hu,hv]<;>rfl
@[simp] theorem D5i {u v w:Option Val}:I6 [u,v,w] h=bnd u fun u=>bnd (oZ u) fun p=>bnd v fun v=>bnd (oZ v) fun q=>bnd w fun w=>bnd (oZ w) fun r=>some (.t [p,q,r],h):=by
 cases u with
 | none=>rfl
 | some u=>cases v with
  | none=>cases hu:oZ u<;>simp [I6,C1x,hu]<;>rfl
  | some v=>cases w with
   | none=>cases hu:oZ u<;>cases hv:oZ v<;>simp [I6,C1x,hu,hv]<;>rfl
   | some w=>cases hu:oZ u<;>cases hv:oZ v<;>cases hw:oZ w<;>simp [I6,C1x,hu,hv,hw]<;>rfl
theorem wrap_i64 (h1:-9223372036854775808<=a) (h2:a<9223372036854775808):IntKind.wrap .i64 a=a:=by
 change (if (true&&decide (a%18446744073709551616>=9223372036854775808))=true then a%18446744073709551616-18446744073709551616 else a%18446744073709551616)=a;by_cases h:a%18446744073709551616>=9223372036854775808
 ·simp only [h,decide_true,Bool.true_and,if_true];omega
 ·simp only [h,decide_false,Bool.and_false,Bool.false_eq_true,if_false];omega
theorem wrap_u64 (h1:0<=a) (h2:a<18446744073709551616):IntKind.wrap .u64 a=a:=by
 simp only [IntKind.wrap,IntKind.bits,IntKind.signed,Bool.false_and];have e1:(2:Int) ^ 64=18446744073709551616:=rfl;rw [e1];simp only [Bool.false_eq_true,if_false];omega
theorem wrap_u32 (h1:0<=a) (h2:a<4294967296):IntKind.wrap .u32 a=a:=by
 simp only [IntKind.wrap,IntKind.bits,IntKind.signed,Bool.false_and];have e1:(2:Int) ^ 32=4294967296:=rfl;rw [e1];simp only [Bool.false_eq_true,if_false];omega
theorem wrap_u8 (h1:0<=a) (h2:a<256):IntKind.wrap .u8 a=a:=by
 simp only [IntKind.wrap,IntKind.bits,IntKind.signed,Bool.false_and];have e1:(2:Int) ^ 8=256:=rfl;rw [e1];simp only [Bool.false_eq_true,if_false];omega
end
theorem Grows.rfl' {h:A4}:Grows h h:=⟨List.prefix_refl _,fun id x hid hx=>by have:=E4 hx;omega⟩
theorem Grows.trans' {a b c:A4} (h1:Grows a b) (h2:Grows b c):Grows a c:=by
 refine ⟨h1.1.trans h2.1,fun id x hid hx=>?_⟩;by_cases hb:b.length<=id
 ·exact h2.2 id x hb hx
 ·refine h1.2 id x hid ?_;obtain ⟨t,rfl⟩:=h2.1;rw [<-hx];unfold rd;rw [List.getElem?_append_left (by omega)]
theorem Grows.rd {a b:A4} (h1:Grows a b) {id:Nat} {r:Row} (hr:rd a id=some r):rd b id=some r:=by
 obtain ⟨t,rfl⟩:=h1.1;rw [E3 (E4 hr)];exact hr
theorem Grows.len {a b:A4} (h1:Grows a b):a.length<=b.length:=h1.1.length_le
theorem Grows.new {a b:A4} (h1:Grows a b) (cs:List Cell):Grows a (b++[some ⟨cs,true⟩]):=by
 refine h1.trans' ⟨List.prefix_append _ _,fun id x hid hx=>?_⟩;unfold Go.Esc.rd at hx;rw [List.getElem?_append_right hid] at hx;cases hj:id-b.length with
 | zero=>rw [hj] at hx;simp at hx;subst hx;rfl
 | succ j=>rw [hj] at hx;simp at hx
theorem Grows.set {a b:A4} (h1:Grows a b) {id:Nat} (hid:a.length<=id) (cs:List Cell):Grows a (b.set id (some ⟨cs,true⟩)):=by
 obtain ⟨⟨t,rfl⟩,h2⟩:=h1;refine ⟨⟨t.set (id-a.length) (some ⟨cs,true⟩),by rw [List.set_append_right _ _ hid]⟩,fun i x hi hx=>?_⟩;by_cases e:id=i
 ·subst e;have hl:=E4 hx;simp at hl;rw [C8 (by simpa using hl)] at hx;cases hx;rfl
 ·rw [B7 e] at hx;exact h2 i x hi hx
theorem jF {h h':A4} {v:Val} (hg:Grows h h'):quiet h (some (v,h'))=some (v,h'):=by
 unfold quiet;simp only [Option.bind_some];rw [if_pos];exact hg
theorem V6 {h:A4} {r:Row}:rd (h++[some r]) h.length=some r:=by
 unfold rd;simp
section
variable {h:A4} {id off n sz:Nat} {cs xs:List Cell} {x:Cell} {k:IntKind} {rw:Bool}
theorem C1 (hr:rd h id=some ⟨cs,rw⟩) {c:Cell} (hc:cs[off]?=some c) (hd:(rw || !c.isX)=true):A7 h (.c (.p id off))=some (.c c):=by
 simp [A7,hr,hc,hd]
theorem T2 (hr:rd h id=some ⟨cs,rw⟩) (hl:off+n<=cs.length) (hd:(rw||noX ((cs.drop off).take n))=true):A8 h n (.c (.p id off))=some (.a ((cs.drop off).take n)):=by
 simp only [A8,hr,Option.bind_some];rw [if_pos ⟨hl,hd⟩]
theorem D4 (hr:rd h id=some ⟨cs,true⟩) (hl:cs.length=n):A8 h n (.c (.p id 0))=some (.a cs):=by
 rw [T2 hr (by omega) rfl,List.drop_zero,List.take_of_length_le (by omega)]
theorem G3 (hr:rd h id=some ⟨cs,true⟩) (hl:off<cs.length):D3 h (.c (.p id off)) (.c x)=some (h.set id (some ⟨cs.set off x,true⟩)):=by
 simp [D3,hr,hl]
theorem B6I (hr:rd h id=some ⟨cs,true⟩) (hx:xs.length=n) (hl:off+n<=cs.length):B4 h n (.c (.p id off)) (.a xs)=some (h.set id (some ⟨lay cs off xs,true⟩)):=by
 simp [B4,hr,hl,hx]
theorem lay_all (hx:xs.length=cs.length):lay cs 0 xs=xs:=by simp [lay,hx]
theorem storeAll (hr:rd h id=some ⟨cs,true⟩) (hl:cs.length=n) (hx:xs.length=n):B4 h n (.c (.p id 0)) (.a xs)=some (h.set id (some ⟨xs,true⟩)):=by
 rw [B6I hr hx (by omega),lay_all (by omega)]
theorem I7 {j:Nat} (hj:j<n):D8 n sz (.c (.p id off)) (.c (.i k j))=some (.c (.p id (off+j*sz))):=by
 simp only [D8];rw [if_pos ⟨by omega,by omega⟩];simp
theorem E5 {len j:Nat} (hj:j<len):C4 sz (.c (.sl id off len sz)) (.c (.i k j))=some (.c (.p id (off+j*sz))):=by
 simp only [C4];rw [if_pos ⟨by omega,by omega,trivial⟩];simp
theorem B4b {l:List Cell} {j:Nat} (hj:j<n):tQ n (.a l) (.c (.i k j))=(l[j]?).map .c:=by
 simp only [tQ];rw [if_pos ⟨by omega,by omega⟩];simp
end
theorem iU (l:List UInt8) (i:Nat) (x:UInt8):(A5 l).set i (.i .u8 x.toNat)=A5 (l.set i x):=by simp [A5,List.map_set]
theorem rM (l:List UInt8) (i:Nat):(A5 l)[i]?=(l[i]?).map fun x=>.i .u8 x.toNat:=by simp [A5]
theorem B7x (l m:List UInt8):A5 (l++m)=A5 l++A5 m:=by simp [A5]
theorem C9n (l:List UInt8) (n:Nat):(A5 l).drop n=A5 (l.drop n):=by simp [A5]
theorem C9o (l:List UInt8) (n:Nat):(A5 l).take n=A5 (l.take n):=by simp [A5]
def zeros (n:Nat):List UInt8:=List.replicate n 0
@[simp] theorem zeros_length {n:Nat}:(zeros n).length=n:=by simp [zeros]
theorem F5 (n:Nat):List.replicate n (Cell.i .u8 0)=A5 (zeros n):=by simp [A5,zeros]
theorem T4 (l:List UInt8):noX (A5 l)=true:=by simp [noX,A5,Cell.isX]
theorem D1h {l m:List UInt8}:A5 l=A5 m↔l=m:=by
 constructor
 ·intro h;refine List.map_inj_right (fun x y e=>?_) |>.1 h
  simp at e;exact UInt8.toNat_inj.1 (by omega)
 ·rintro rfl;rfl
end
section
def Cell.flat:Cell->Bool
 | .b _=>true
 | .i _ _=>true
 | .s _=>true
 | .np=>true
 | .ns=>true
 | .nf=>true
 | .nm=>true
 | _=>false
def I9 (l:List Cell):Bool:=l.all Cell.flat
def Row.dim (r:Row):List Cell:=bif r.head then r.cells.map fun _=>.dark else r.cells
def ro (h:A4):A4:=h.map fun r=>r.map fun r=>⟨r.dim,false⟩
theorem Row.dim_own (r:Row):(Row.mk r.dim false).own=false:=by
 obtain ⟨cs,w⟩:=r;unfold Row.dim;cases hh:Row.head ⟨cs,w⟩ with
 | false=>simpa [Row.own,Row.head] using hh
 | true =>
  cases cs with
  | nil=>rfl
  | cons c cs=>rfl
theorem I8 {h:A4}:(ro h).length=h.length:=by simp [ro]
theorem C6K {h:A4} {id:Nat}:rd (ro h) id=(rd h id).map fun r=>⟨r.dim,false⟩:=by
 unfold rd ro;rw [List.getElem?_map];cases h[id]? with
 | none=>rfl
 | some x=>cases x<;>rfl
theorem B4W {h:A4} {id:Nat} {r:Row} (hr:rd h id=some r) (hh:r.head=false):rd (ro h) id=some ⟨r.cells,false⟩:=by
 rw [C6K,hr];show some (Row.mk r.dim false)=_;unfold Row.dim;rw [hh];rfl
theorem D1u {cs:List Cell} {w:Bool} (h:noX cs=true):(Row.mk cs w).head=false:=by
 cases cs with
 | nil=>rfl
 | cons c cs=>cases c<;>first | rfl | (simp [noX,Cell.isX] at h)
theorem B4X {h:A4} {id:Nat} {cs:List Cell} {w:Bool} (hr:rd h id=some ⟨cs,w⟩) (hx:noX cs=true):rd (ro h) id=some ⟨cs,false⟩:=B4W hr (D1u hx)
def newRow (h:A4) (id:Nat):Bool :=
 match rd h id with
 | some r=>r.rw&&I9 r.cells
 | none=>false
def Cell.low (b:Nat):Cell->Bool
 | .p id _=>decide (id<b)
 | .sl id _ _ _=>decide (id<b)
 | .f _ caps=>caps.all fun q=>decide (q.1<b)
 | .m id=>decide (id<b)
 | c=>c.flat
def L7 (h:A4) (b:Nat):List Nat->List Cell->Option (List Cell × List Nat)
 | seen,[]=>some ([],seen)
 | seen,c::r=>if c.low b=true then (L7 h b seen r).map fun p=>(c::p.1,p.2) else
  match c with
  | .sl id off len sz=>if b<=id/\id ∉ seen/\newRow h id=true then (L7 h b (seen++[id]) r).map fun p=>(.sl (b+seen.length) off len sz::p.1,p.2) else none
  | _=>none
def dX (h:A4) (b:Nat):List Nat->List Part->Option (List Part × List Nat)
 | seen,[]=>some ([],seen)
 | seen,.c x::r=>(L7 h b seen [x]).bind fun p=>match p.1 with
  | [y]=>(dX h b p.2 r).map fun q=>(.c y::q.1,q.2)
  | _=>none
 | seen,.a l::r=>(L7 h b seen l).bind fun p=>(dX h b p.2 r).map fun q=>(.a p.1::q.1,q.2)
def S9 (h:A4) (b:Nat):Val->Option (Val × List Nat)
 | .c x=>(L7 h b [] [x]).bind fun p=>match p.1 with
  | [y]=>some (.c y,p.2)
  | _=>none
 | .a l=>(L7 h b [] l).map fun p=>(.a p.1,p.2)
 | .t l=>(dX h b [] l).map fun p=>(.t p.1,p.2)
 | _=>none
def C1v (F:List Val->A4->Option (Val × A4)) (args:List Val) (h:A4):Option (Val × A4) :=
 (F args (ro h)).bind fun p=>(S9 p.2 h.length p.1).map fun q=>(q.1,h++q.2.map (rd p.2))
def tidy (F:List Val->A4->Option (Val × A4)) (args:List Val) (h:A4):Option (Val × A4) :=
 match C1v F args h with
 | some r=>some r
 | none=>F args h
theorem RC.flat {μ μ':Mu} {c:Cell} {V:Value} (hf:c.flat=true) (h:RC μ c V):RC μ' c V:=by
 cases c<;>first | exact h | cases hf
theorem RC.low {μ μ':Mu} {b:Nat} (hb:∀ id,id<b -> μ' id = μ id) {c:Cell} {V:Value} (hf:c.low b=true) (h:RC μ c V):RC μ' c V:=by
 cases c with
 | p id off =>
  obtain ⟨x,n,h1,h2⟩:=h;exact ⟨x,n,by rw [hb id (of_decide_eq_true hf)];exact h1,h2⟩
 | sl id off len sz =>
  rcases h with ⟨x,n,cap,h1,h2⟩ | h
  ·exact .inl ⟨x,n,cap,by rw [hb id (of_decide_eq_true hf)];exact h1,h2⟩
  ·exact .inr h
 | f fn caps =>
  obtain ⟨cs,h1,h2⟩:=h;refine ⟨cs,h1,?_⟩;have hf':(caps.all fun q=>decide (q.1<b))=true:=hf
  clear h1 hf
  induction caps generalizing cs with
  | nil=>cases cs with
   | nil=>trivial
   | cons=>exact h2.elim
  | cons q r ih=>cases cs with
   | nil=>exact h2.elim
   | cons V vs =>
    rw [List.all_cons,Bool.and_eq_true] at hf';obtain ⟨x,n,g1,g2⟩:=h2.1;exact ⟨⟨x,n,by rw [hb q.1 (of_decide_eq_true hf'.1)];exact g1,g2⟩,ih vs h2.2 hf'.2⟩
 | m id =>
  obtain ⟨x,n,h1,h2⟩:=h;exact ⟨x,n,by rw [hb id (of_decide_eq_true hf)];exact h1,h2⟩
 | _=>exact RC.flat hf h
theorem Cell.low_of_flat {b:Nat} {c:Cell} (h:c.flat=true):c.low b=true:=by
 cases c<;>first | exact h | cases h
theorem B2y {c:Cell} {l:List Cell}:I9 (c::l)=(c.flat&&I9 l):=rfl
theorem All2.flat {μ μ':Mu}:∀ {l:List Cell} {vs:List Value},I9 l=true->All2 (RC μ) l vs->All2 (RC μ') l vs
 | [],[],_,_=>trivial
 | c::l,V::vs,hf,⟨h1,h2⟩=>by
  rw [B2y,Bool.and_eq_true] at hf;exact ⟨h1.flat hf.1,All2.flat hf.2 h2⟩
 | [],_::_,_,h=>h.elim
 | _::_,[],_,h=>h.elim
structure Good (h:A4) (b:Nat) (ids:List Nat):Prop where
 nd:ids.Nodup
 ok:∀ id∈ids,b<=id/\∃ r,rd h id=some r/\r.rw=true/\I9 r.cells=true
theorem Good.nil {h:A4} {b:Nat}:Good h b []:=⟨List.nodup_nil,fun _ h=>by cases h⟩
theorem Good.snoc {h:A4} {b:Nat} {ids:List Nat} (hg:Good h b ids) {id:Nat} (h1:b<=id) (h2:id ∉ ids) (h3:newRow h id=true):Good h b (ids++[id]):=by
 refine ⟨?_,fun i hi=>?_⟩
 ·rw [List.nodup_append];exact ⟨hg.nd,by simp,fun a ha c hc e=>by simp at hc;subst hc;subst e;exact h2 ha⟩
 ·rw [List.mem_append] at hi;rcases hi with hi | hi
  ·exact hg.ok i hi
  ·simp at hi;subst hi;refine ⟨h1,?_⟩;unfold newRow at h3;cases hr:rd h i with
   | none=>rw [hr] at h3;cases h3
   | some r=>rw [hr] at h3;rw [Bool.and_eq_true] at h3;exact ⟨r,rfl,h3.1,h3.2⟩
def nu (μ μ':Mu) (b:Nat) (ids:List Nat):Mu:=fun id=>if id<b then μ id else (ids[id-b]?).bind μ'
theorem A4H {h:A4} {b:Nat} {μ μ':Mu} (hlow:∀ id,id<b -> μ' id = μ id):∀ (l:List Cell) (seen:List Nat) (l2:List Cell) (fin:List Nat),L7 h b seen l=some (l2,fin)->Good h b seen ->
  Good h b fin/\seen <+: fin/\∀ ids,fin <+: ids->∀ vs:List Value,All2 (RC μ') l vs->All2 (RC (nu μ μ' b ids)) l2 vs:=by
 intro l
 induction l with
 | nil =>
  intro seen l2 fin hc hg;simp only [L7,Option.some.injEq,Prod.mk.injEq] at hc;obtain ⟨rfl,rfl⟩:=hc;exact ⟨hg,List.prefix_refl _,fun ids _ vs hv=>by cases vs with
   | nil=>trivial
   | cons=>exact hv.elim⟩
 | cons c r ih =>
  intro seen l2 fin hc hg;unfold L7 at hc;split at hc
  ·rename_i hf;simp only [Option.map_eq_some_iff,Prod.mk.injEq] at hc;obtain ⟨p,hp,rfl,rfl⟩:=hc;obtain ⟨h1,h2,h3⟩:=ih seen p.1 p.2 hp hg;refine ⟨h1,h2,fun ids hi vs hv=>?_⟩;cases vs with
   | nil=>exact hv.elim
   | cons V vs=>exact ⟨RC.low (b:=b) (fun id hid=>by unfold nu;rw [if_pos hid];exact (hlow id hid).symm) hf hv.1,h3 ids hi vs hv.2⟩
  ·split at hc
   ·rename_i id off len sz _;split at hc
    ·rename_i A1x;simp only [Option.map_eq_some_iff,Prod.mk.injEq] at hc;obtain ⟨p,hp,rfl,rfl⟩:=hc;obtain ⟨h1,h2,h3⟩:=ih _ p.1 p.2 hp (hg.snoc A1x.1 A1x.2.1 A1x.2.2);refine ⟨h1,(List.prefix_append _ _).trans h2,fun ids hi vs hv=>?_⟩;cases vs with
     | nil=>exact hv.elim
     | cons V vs =>
      refine ⟨?_,h3 ids hi vs hv.2⟩;have hn:nu μ μ' b ids (b+seen.length) = μ' id:=by
       unfold nu;rw [if_neg (by omega),Nat.add_sub_cancel_left];obtain ⟨t,ht⟩:=h2.trans hi;rw [<-ht,List.append_assoc,List.getElem?_append_right (Nat.le_refl _)];simp
      rcases hv.1 with ⟨x,n,cap,g1,g2⟩ | g
      ·exact .inl ⟨x,n,cap,by rw [hn];exact g1,g2⟩
      ·exact .inr g
    ·cases hc
   ·cases hc
theorem C9i {h:A4} {b:Nat} {μ μ':Mu} (hlow:∀ id,id<b -> μ' id = μ id):∀ (l:List Part) (seen:List Nat) (l2:List Part) (fin:List Nat),dX h b seen l=some (l2,fin)->Good h b seen ->
  Good h b fin/\seen <+: fin/\∀ ids,fin <+: ids->∀ vs:List Value,All2 (RP μ') l vs->All2 (RP (nu μ μ' b ids)) l2 vs:=by
 intro l
 induction l with
 | nil =>
  intro seen l2 fin hc hg;simp only [dX,Option.some.injEq,Prod.mk.injEq] at hc;obtain ⟨rfl,rfl⟩:=hc;exact ⟨hg,List.prefix_refl _,fun ids _ vs hv=>by cases vs with
   | nil=>trivial
   | cons=>exact hv.elim⟩
 | cons c r ih =>
  intro seen l2 fin hc hg;cases c with
  | c x =>
   simp only [dX,Option.bind_eq_some_iff] at hc;obtain ⟨⟨l3,f3⟩,hp,hc⟩:=hc;obtain ⟨h1,h2,h3⟩:=A4H (μ:=μ) (μ':=μ') hlow [x] seen l3 f3 hp hg;split at hc
   ·rename_i y vJ;simp only at vJ;subst vJ;simp only [Option.map_eq_some_iff,Prod.mk.injEq] at hc;obtain ⟨q,hq,rfl,rfl⟩:=hc;obtain ⟨g1,g2,g3⟩:=ih f3 q.1 q.2 hq h1;refine ⟨g1,h2.trans g2,fun ids hi vs hv=>?_⟩;cases vs with
    | nil=>exact hv.elim
    | cons V vs=>exact ⟨(h3 ids (g2.trans hi) [V] ⟨hv.1,trivial⟩).1,g3 ids hi vs hv.2⟩
   ·cases hc
  | a x =>
   simp only [dX,Option.bind_eq_some_iff] at hc;obtain ⟨⟨l3,f3⟩,hp,hc⟩:=hc;obtain ⟨h1,h2,h3⟩:=A4H (μ:=μ) (μ':=μ') hlow x seen l3 f3 hp hg;simp only [Option.map_eq_some_iff,Prod.mk.injEq] at hc;obtain ⟨q,hq,rfl,rfl⟩:=hc;obtain ⟨g1,g2,g3⟩:=ih f3 q.1 q.2 hq h1;refine ⟨g1,h2.trans g2,fun ids hi vs hv=>?_⟩;cases vs with
   | nil=>exact hv.elim
   | cons V vs =>
    obtain ⟨Vs,hV,h4⟩:=hv.1;exact ⟨⟨Vs,hV,h3 ids (g2.trans hi) Vs h4⟩,g3 ids hi vs hv.2⟩
theorem C9j {h:A4} {b:Nat} {μ μ':Mu} (hlow:∀ id,id<b -> μ' id = μ id) {v v2:Val} {fin:List Nat} (hc:S9 h b v=some (v2,fin)):Good h b fin/\∀ V,RV μ' v V->RV (nu μ μ' b fin) v2 V:=by
 cases v with
 | c x =>
  simp only [S9,Option.bind_eq_some_iff] at hc;obtain ⟨⟨l3,f3⟩,hp,hc⟩:=hc;obtain ⟨h1,h2,h3⟩:=A4H (μ:=μ) (μ':=μ') hlow [x] [] l3 f3 hp Good.nil;split at hc
  ·rename_i y vJ;simp only at vJ;subst vJ;simp only [Option.some.injEq,Prod.mk.injEq] at hc;obtain ⟨rfl,rfl⟩:=hc;exact ⟨h1,fun V hV=>(h3 _ (List.prefix_refl _) [V] ⟨hV,trivial⟩).1⟩
  ·cases hc
 | a l =>
  simp only [S9,Option.map_eq_some_iff,Prod.mk.injEq] at hc;obtain ⟨p,hp,rfl,rfl⟩:=hc;obtain ⟨h1,h2,h3⟩:=A4H (μ:=μ) (μ':=μ') hlow l [] p.1 p.2 hp Good.nil;refine ⟨h1,fun V hV=>?_⟩;obtain ⟨vs,e,h4⟩:=hV;exact ⟨vs,e,h3 _ (List.prefix_refl _) vs h4⟩
 | t l =>
  simp only [S9,Option.map_eq_some_iff,Prod.mk.injEq] at hc;obtain ⟨p,hp,rfl,rfl⟩:=hc;obtain ⟨h1,h2,h3⟩:=C9i (μ:=μ) (μ':=μ') hlow l [] p.1 p.2 hp Good.nil;refine ⟨h1,fun V hV=>?_⟩;obtain ⟨vs,e,h4⟩:=hV;exact ⟨vs,e,h3 _ (List.prefix_refl _) vs h4⟩
 | un=>simp [S9] at hc
 | no=>simp [S9] at hc
def C4X (μ:Mu) (h:A4) (b:Nat):Prop:=∃ id r n,rd h id=some r /\ μ id=some (b,n)
open Classical in
noncomputable def Ctx.hold (Γ:Ctx) (μ:Mu) (h:A4) (w:World):Ctx:={ Γ with F:=fun b=>if C4X μ h b then w.heap[b]? else Γ.F b }
theorem Inv.hold {Γ:Ctx} {μ:Mu} {h:A4} {w:World} (hi:Inv Γ μ h w):Inv (Γ.hold μ h w) μ (ro h) w where
 rows id r hr:=by
  rw [C6K,Option.map_eq_some_iff] at hr;obtain ⟨r0,h0,rfl⟩:=hr;have hth:=hi.rows id r0 h0;have this:=hth;unfold RowOk at this ⊢;cases hm:μ id with
  | none =>
   rw [hm] at this;show r0.dim=[];unfold Row.dim;rw [this];cases r0.head<;>rfl
  | some x =>
   rw [hm] at this;obtain ⟨o,ho⟩:=hth.there hm;have R0:=(Array.getElem?_eq_some_iff.1 ho).1;cases hh:r0.head with
   | true =>
    refine .inr (.inr ⟨rfl,R0,?_⟩);show r0.dim.all Cell.isD=true;unfold Row.dim;rw [hh];simp [Cell.isD]
   | false =>
    have hd:r0.dim=r0.cells:=by unfold Row.dim;rw [hh];rfl
    rw [hd];rcases this with ⟨C,elem,fz,h1,h2,h3,h4⟩ | ⟨es,E,h1,_⟩ | ⟨h1,h2,h3⟩
    ·refine .inl ⟨C,elem,fz,h1,h2,h3.mono fun c V hc=>?_,fun hf=>by cases hf⟩;rcases hc with hc | ⟨_,hc⟩
     ·exact .inl hc
     ·exact .inr ⟨rfl,hc⟩
    ·rw [h1,Row.head_mrow] at hh;cases hh
    ·exact .inr (.inr ⟨rfl,h2,h3⟩)
 sep id bP r r' x x' hr hr' hw:=by
  rw [C6K,Option.map_eq_some_iff] at hr;obtain ⟨r0,h0,rfl⟩:=hr;rw [Row.dim_own] at hw;cases hw
 own id r x hr hw:=by
  rw [C6K,Option.map_eq_some_iff] at hr;obtain ⟨r0,h0,rfl⟩:=hr;rw [Row.dim_own] at hw;cases hw
 dom id hl:=hi.dom id (by simpa [I8] using hl)
 ctx:=⟨hi.ctx.os,hi.ctx.tape,hi.ctx.output,fun b o ho=>by
  unfold Ctx.hold at ho;simp only at ho;split at ho
  ·exact ho
  ·exact hi.ctx.block b o ho⟩
theorem Inv.held {Γ:Ctx} {μ μ':Mu} {h h':A4} {w w':World} (hi:Inv Γ μ h w) (hj:Inv (Γ.hold μ h w) μ' h' w') {ids:List Nat} (hg:Good h' h.length ids) :
  Inv Γ (nu μ μ' h.length ids) (h++ids.map (rd h')) w':=by
 have same:∀ b,C4X μ h b->w'.heap[b]?=w.heap[b]? := by
  intro b hb;have hb':=hb;obtain ⟨id,r,n,hr,hm⟩:=hb;obtain ⟨o,h1⟩:=(hi.rows id r hr).there hm;have h2:(Γ.hold μ h w).F b=some o:=by
   unfold Ctx.hold;simp only;rw [if_pos hb'];exact h1
  rw [hj.ctx.block b _ h2,h1]
 have lo:∀ id,id<h.length->nu μ μ' h.length ids id = μ id:=fun id hl=>by unfold nu;rw [if_pos hl]
 have gI:μ.le (nu μ μ' h.length ids):=fun id x hx=>by
  by_cases hl:id<h.length
  ·rw [lo id hl];exact hx
  ·rw [hi.dom id (by omega)] at hx;cases hx
 have get:∀ id r,rd (h++ids.map (rd h')) id=some r->(id<h.length/\rd h id=some r)\/(∃ j,ids[id-h.length]?=some j/\h.length<=id/\rd h' j=some r/\nu μ μ' h.length ids id = μ' j/\j∈ids/\r.rw=true/\I9 r.cells=true):=by
  intro id r hr;by_cases hl:id<h.length
  ·rw [E3 hl] at hr;exact .inl ⟨hl,hr⟩
  ·right
   unfold rd at hr;rw [List.getElem?_append_right (by omega),List.getElem?_map] at hr;cases hj':ids[id-h.length]? with
   | none=>rw [hj'] at hr;cases hr
   | some j =>
    rw [hj'] at hr;change rd h' j=some r at hr;have A1S:j∈ids:=List.mem_of_getElem? hj';obtain ⟨_,r2,hr2,h1,h2⟩:=hg.ok j A1S;rw [hr] at hr2;cases hr2;refine ⟨j,rfl,by omega,hr,?_,A1S,h1,h2⟩;unfold nu;rw [if_neg hl,hj'];rfl
 have fnew:∀ j r x,rd h' j=some r->r.rw=true -> μ' j=some x->¬ C4X μ h x.1 /\ Γ.F x.1=none:=by
  intro j r x hr hw hx;have h1:=hj.own j r x hr (Row.own_rw hw) hx;unfold Ctx.hold at h1;simp only at h1;split at h1
  ·rename_i hb;obtain ⟨id,r0,n,hr0,hm⟩:=hb;obtain ⟨o,h2⟩:=(hi.rows id r0 hr0).there hm;rw [h2] at h1;cases h1
  ·exact ⟨‹_›,h1⟩
 refine ⟨?_,?_,?_,?_,?_⟩
 ·intro id r hr;rcases get id r hr with ⟨hl,hr⟩ | ⟨j,hj1,hl,hr,hn,A1S,hw,hf⟩
  ·exact (hi.rows id r hr).mono gI (lo id hl) fun x hx=>same _ ⟨id,r,x.2,hr,hx⟩
  ·have:=hj.rows j r hr;unfold RowOk at this ⊢;rw [hn];cases hm:μ' j with
   | none=>rw [hm] at this;exact this
   | some x =>
    obtain ⟨C,elem,fz,h1,h2,h3,h4⟩:=(hj.rows j r hr).mem hm hw;refine .inl ⟨C,elem,fz,h1,h2,?_,h4⟩;rw [hw] at h3 ⊢;have h5:=RL.all h3 (by simp);exact (All2.flat (μ':=nu μ μ' h.length ids) hf h5).mono fun _ _=>.inl
 ·intro id bP r r' x x' hr hr' hw cK hx hx';rcases get id r hr with ⟨hl,hr⟩ | ⟨j,hj1,hl,hr,hn,A1S,hw2,hf⟩
  ·rw [lo id hl] at hx;rcases get bP r' hr' with ⟨hl',hr'⟩ | ⟨j',D5P,hl',hr',hn',D5T,D5W,hf'⟩
   ·rw [lo bP hl'] at hx';exact hi.sep id bP r r' x x' hr hr' hw cK hx hx'
   ·rw [hn'] at hx';intro e;exact (fnew j' r' x' hr' D5W hx').1 (e ▸ ⟨id,r,x.2,hr,hx⟩)
  ·rw [hn] at hx;rcases get bP r' hr' with ⟨hl',hr'⟩ | ⟨j',D5P,hl',hr',hn',D5T,D5W,hf'⟩
   ·rw [lo bP hl'] at hx';intro e;exact (fnew j r x hr hw2 hx).1 (e ▸ ⟨bP,r',x'.2,hr',hx'⟩)
   ·rw [hn'] at hx';refine hj.sep j j' r r' x x' hr hr' hw (fun e=>?_) hx hx';subst e;have h1:=List.getElem?_eq_some_iff.1 hj1;have h2:=List.getElem?_eq_some_iff.1 D5P;have:=(List.getElem_inj hg.nd).1 (h1.2.trans h2.2.symm);omega
 ·intro id r x hr hw hx;rcases get id r hr with ⟨hl,hr⟩ | ⟨j,hj1,hl,hr,hn,A1S,hw2,hf⟩
  ·rw [lo id hl] at hx;exact hi.own id r x hr hw hx
  ·rw [hn] at hx;exact (fnew j r x hr hw2 hx).2
 ·intro id hl;simp only [List.length_append,List.length_map] at hl;unfold nu;rw [if_neg (by omega),List.getElem?_eq_none (by omega)];rfl
 ·refine ⟨hj.ctx.os,hj.ctx.tape,hj.ctx.output,fun b o ho=>?_⟩;by_cases hb:C4X μ h b
  ·rw [same b hb];exact hi.ctx.block b o ho
  ·refine hj.ctx.block b o ?_;unfold Ctx.hold;simp only;rw [if_neg hb];exact ho
theorem D0j {P:Program} {f:FuncId} {F:List Val->A4->Option (Val × A4)} (hF:∀ args h v h2,F args h=some (v,h2)->gK P f/\CallOk P f args h v h2/\h.length<=h2.length)
  {args:List Val} {h:A4} {v:Val} {h2:A4} (he:C1v F args h=some (v,h2)):gK P f/\CallOk P f args h v h2/\h.length<=h2.length:=by
 simp only [C1v,Option.bind_eq_some_iff,Option.map_eq_some_iff,Prod.mk.injEq] at he;obtain ⟨p,hp,q,hq,rfl,rfl⟩:=he;obtain ⟨h1,h2,h3⟩:=hF args (ro h) p.1 p.2 hp;refine ⟨h1,fun Γ μ w V hi hv=>?_,by simp⟩;refine (h2 (Γ.hold μ h w) μ w V hi.hold hv).mono fun e w' ⟨V',μ',he,_,hV,hi',hl⟩=>?_
 obtain ⟨hg,hR⟩:=C9j (μ:=μ) (μ':=μ') (fun id hid=>hl id (by simpa [I8] using hid)) (v2:=q.1) (fin:=q.2) hq;refine ⟨V',nu μ μ' h.length q.2,he,fun id x hx=>?_,hR V' hV,hi.held hi' hg,fun id hl=>by unfold nu;rw [if_pos hl]⟩;by_cases hl:id<h.length
 ·unfold nu;rw [if_pos hl];exact hx
 ·rw [hi.dom id (by omega)] at hx;cases hx
theorem D3O {P:Program} {f:FuncId} {F:List Val->A4->Option (Val × A4)} (hF:∀ args h v h2,F args h=some (v,h2)->gK P f/\CallOk P f args h v h2/\h.length<=h2.length)
  (args:List Val) (h:A4) (v:Val) (h2:A4) (he:tidy F args h=some (v,h2)):gK P f/\CallOk P f args h v h2/\h.length<=h2.length:=by
 unfold tidy at he;split at he
 ·rename_i r hr;cases he;exact D0j hF hr
 ·exact hF args h v h2 he
theorem B46 {F:List Val->A4->Option (Val × A4)} {args:List Val} {h h':A4} {v v2:Val} {ids:List Nat} (he:F args (ro h)=some (v,h')) (hc:S9 h' h.length v=some (v2,ids)) :
  tidy F args h=some (v2,h++ids.map (rd h')):=by
 have:C1v F args h=some (v2,h++ids.map (rd h')):=by
  unfold C1v;rw [he];simp [hc]
 unfold tidy;rw [this]
def Val.flat:Val->Bool
 | .c x=>x.flat
 | .a l=>I9 l
 | .t l=>l.all fun p=>match p with
  | .c x=>x.flat
  | .a l=>I9 l
 | _=>false
theorem bE {h:A4} {b:Nat} {seen:List Nat}:∀ {l:List Cell},I9 l=true->L7 h b seen l=some (l,seen)
 | [],_=>rfl
 | c::l,hf=>by
  rw [B2y,Bool.and_eq_true] at hf;have ih:=bE (h:=h) (b:=b) (seen:=seen) hf.2;unfold L7;rw [if_pos (Cell.low_of_flat hf.1),ih];rfl
theorem A8G {h:A4} {b:Nat} {seen:List Nat}:∀ {l:List Part},(l.all fun p=>match p with | .c x=>x.flat | .a l=>I9 l)=true->dX h b seen l=some (l,seen)
 | [],_=>rfl
 | .c x::l,hf=>by
  simp only [List.all_cons,Bool.and_eq_true] at hf;have ih:=A8G (h:=h) (b:=b) (seen:=seen) hf.2;have h1:L7 h b seen [x]=some ([x],seen):=bE (by simpa [I9] using hf.1);simp [dX,h1,ih]
 | .a x::l,hf=>by
  simp only [List.all_cons,Bool.and_eq_true] at hf;have ih:=A8G (h:=h) (b:=b) (seen:=seen) hf.2;have h1:L7 h b seen x=some (x,seen):=bE hf.1;simp [dX,h1,ih]
theorem C5C {h:A4} {b:Nat} {v:Val} (hf:v.flat=true):S9 h b v=some (v,[]):=by
 cases v with
 | c x =>
  have h1:L7 h b [] [x]=some ([x],[]):=bE (by simp only [I9,List.all_cons,List.all_nil,Bool.and_true];exact hf);simp [S9,h1]
 | a l =>
  have h1:L7 h b [] l=some (l,[]):=bE hf;simp [S9,h1]
 | t l =>
  have h1:dX h b [] l=some (l,[]):=A8G hf;simp [S9,h1]
 | un=>cases hf
 | no=>cases hf
theorem D0k {F:List Val->A4->Option (Val × A4)} {args:List Val} {h h':A4} {v:Val} (he:F args (ro h)=some (v,h')) (hf:v.flat=true):tidy F args h=some (v,h):=by
 have:=B46 he (C5C (h:=h') (b:=h.length) hf);simpa using this
def B8D (b:Nat) (l:List Cell):Bool:=l.all (Cell.low b)
def Val.low (b:Nat):Val->Bool
 | .c x=>x.low b
 | .a l=>B8D b l
 | .t l=>l.all fun p=>match p with
  | .c x=>x.low b
  | .a l=>B8D b l
 | _=>false
theorem A1n {h:A4} {b:Nat} {seen:List Nat}:∀ {l:List Cell},B8D b l=true->L7 h b seen l=some (l,seen)
 | [],_=>rfl
 | c::l,hf=>by
  have hf:(c.low b&&B8D b l)=true:=hf;rw [Bool.and_eq_true] at hf;have ih:=A1n (h:=h) (b:=b) (seen:=seen) hf.2;unfold L7;rw [if_pos hf.1,ih];rfl
theorem B2n {h:A4} {b:Nat} {seen:List Nat}:∀ {l:List Part},(l.all fun p=>match p with | .c x=>x.low b | .a l=>B8D b l)=true->dX h b seen l=some (l,seen)
 | [],_=>rfl
 | .c x::l,hf=>by
  simp only [List.all_cons,Bool.and_eq_true] at hf;have ih:=B2n (h:=h) (b:=b) (seen:=seen) hf.2;have h1:L7 h b seen [x]=some ([x],seen):=A1n (by simpa [B8D] using hf.1);simp [dX,h1,ih]
 | .a x::l,hf=>by
  simp only [List.all_cons,Bool.and_eq_true] at hf;have ih:=B2n (h:=h) (b:=b) (seen:=seen) hf.2;have h1:L7 h b seen x=some (x,seen):=A1n hf.1;simp [dX,h1,ih]
theorem D2s {F:List Val->A4->Option (Val × A4)} {args:List Val} {h h':A4} {v:Val} (he:F args (ro h)=some (v,h')) (hf:v.low h.length=true):tidy F args h=some (v,h):=by
 have hc:S9 h' h.length v=some (v,[]):=by
  cases v with
  | c x =>
   have h1:L7 h' h.length [] [x]=some ([x],[]):=A1n (by simp only [B8D,List.all_cons,List.all_nil,Bool.and_true];exact hf);simp [S9,h1]
  | a l =>
   have h1:L7 h' h.length [] l=some (l,[]):=A1n hf;simp [S9,h1]
  | t l =>
   have h1:dX h' h.length [] l=some (l,[]):=B2n hf;simp [S9,h1]
  | un=>cases hf
  | no=>cases hf
 have:=B46 he hc;simpa using this
@[simp] theorem D50 {b:Nat}:B8D b []=true:=rfl
@[simp] theorem D5j {b:Nat} {c:Cell} {l:List Cell}:B8D b (c::l)=(c.low b&&B8D b l):=rfl
@[simp] theorem D64 {b:Nat} {x:Cell}:(Val.c x).low b=x.low b:=rfl
@[simp] theorem D63 {b:Nat} {l:List Cell}:(Val.a l).low b=B8D b l:=rfl
@[simp] theorem D65 {b:Nat} {l:List Part}:(Val.t l).low b=l.all fun p=>match p with | .c x=>x.low b | .a l=>B8D b l:=rfl
@[simp] theorem D6V {b id off len sz:Nat}:(Cell.sl id off len sz).low b=decide (id<b):=rfl
@[simp] theorem D7e {b:Nat} {k:IntKind} {n:Int}:(Cell.i k n).low b=true:=rfl
@[simp] theorem D7d {b:Nat} {x:Bool}:(Cell.b x).low b=true:=rfl
@[simp] theorem D7f {b:Nat} {x:List UInt8}:(Cell.s x).low b=true:=rfl
@[simp] theorem D6U {b:Nat}:Cell.ns.low b=true:=rfl
@[simp] theorem C9z:I9 []=true:=rfl
@[simp] theorem C52 {c:Cell} {l:List Cell}:I9 (c::l)=(c.flat&&I9 l):=rfl
@[simp] theorem rQ {l m:List Cell}:I9 (l++m)=(I9 l&&I9 m):=by simp [I9]
@[simp] theorem C0p {l:List UInt8}:I9 (A5 l)=true:=by simp [I9,A5,Cell.flat]
@[simp] theorem D6o {x:Bool}:(Cell.b x).flat=true:=rfl
@[simp] theorem D6p {k:IntKind} {n:Int}:(Cell.i k n).flat=true:=rfl
@[simp] theorem D6q {x:List UInt8}:(Cell.s x).flat=true:=rfl
@[simp] theorem D6c:Cell.ns.flat=true:=rfl
@[simp] theorem D6b:Cell.np.flat=true:=rfl
@[simp] theorem D6e {x:Cell}:(Val.c x).flat=x.flat:=rfl
@[simp] theorem D6d {l:List Cell}:(Val.a l).flat=I9 l:=rfl
@[simp] theorem D6f {l:List Part}:(Val.t l).flat=l.all fun p=>match p with | .c x=>x.flat | .a l=>I9 l:=rfl
@[simp] theorem C72 {h:A4} {v:Val}:quiet h (some (v,h))=some (v,h):=jF Grows.rfl'
end
section
section
variable {h:A4} {l:List (Option Row)} {k id:Nat}
@[simp] theorem cG:rd (h++l) (h.length+k)=(l[k]?).join:=by
 unfold rd;rw [List.getElem?_append_right (by omega),Nat.add_sub_cancel_left]
@[simp] theorem H5:rd (h++l) h.length=(l[0]?).join:=cG (k:=0)
@[simp] theorem A34 {x:Option Row}:(h++l).set (h.length+k) x=h++l.set k x:=by
 rw [List.set_append_right _ _ (by omega),Nat.add_sub_cancel_left]
@[simp] theorem kJ {x:Option Row}:(h++l).set h.length x=h++l.set 0 x:=A34 (k:=0)
end
section
variable {h:A4} {id off n sz:Nat} {cs xs:List Cell} {x:Cell} {k:IntKind} {rw:Bool}
theorem D4a {j:Int} (h0:0<=j) (h1:j<n):D8 n sz (.c (.p id off)) (.c (.i k j))=some (.c (.p id (off+j.toNat*sz))):=by
 simp only [D8];rw [if_pos ⟨h0,h1⟩]
end
theorem take_append {l m:List Cell} {n:Nat} (hn:l.length=n):(l++m).take n=l:=by subst hn;simp
def Has (h:A4) (v:Val) (sz n:Nat) (cs:List Cell):Prop :=
 (v=.c .ns/\n=0/\cs=[])\/∃ id off r,v=.c (.sl id off n sz)/\rd h id=some r/\cs.length=n*sz/\off+n*sz<=r.cells.length/\(r.cells.drop off).take (n*sz)=cs/\noX cs=true
section
variable {h:A4} {v:Val} {sz n:Nat} {cs:List Cell}
theorem Has.length (hv:Has h v sz n cs):cs.length=n*sz:=by
 rcases hv with ⟨_,rfl,rfl⟩ | ⟨_,_,_,_,_,hl,_⟩
 ·simp
 ·exact hl
theorem Has.ro (hv:Has h v sz n cs):Has (ro h) v sz n cs:=by
 rcases hv with hv | ⟨id,off,r,rfl,hr,h1,h2,h3,h4⟩
 ·exact .inl hv
 ·cases hh:r.head with
  | false=>exact .inr ⟨id,off,⟨r.cells,false⟩,rfl,B4W hr hh,h1,h2,h3,h4⟩
  | true =>
   have hx:=Row.head_isX hh;have D5U:cs=[]:=by
    cases hcs:cs with
    | nil=>rfl
    | cons c cs' =>
     exfalso;have A1S:c∈r.cells:=List.mem_of_mem_drop (List.mem_of_mem_take (by rw [h3,hcs];simp));have h5:c.isX=false:=by
      have:=List.all_eq_true.1 h4 c (by rw [hcs];simp);simpa using this
     rw [hx c A1S] at h5;cases h5
   have hd:r.dim.length=r.cells.length:=by unfold Row.dim;rw [hh];simp
   have hn:n*sz=0:=by rw [<-h1,D5U];rfl
   exact .inr ⟨id,off,⟨r.dim,false⟩,rfl,by rw [C6K,hr];rfl,h1,by show off+n*sz<=r.dim.length;rw [hd];exact h2,by rw [hn,List.take_zero,D5U],h4⟩
theorem Has.more (hv:Has h v sz n cs) (l:A4):Has (h++l) v sz n cs:=by
 rcases hv with hv | ⟨id,off,r,rfl,hr,h1,h2,h3,h4⟩
 ·exact .inl hv
 ·exact .inr ⟨id,off,r,rfl,B6 hr,h1,h2,h3,h4⟩
theorem Has.len (hv:Has h v sz n cs):O0 v=some (.c (.i .i64 n)):=by
 rcases hv with ⟨rfl,rfl,rfl⟩ | ⟨id,off,r,rfl,_⟩<;>rfl
theorem Has.cells (hv:Has h v sz n cs):kK h v=some cs:=by
 rcases hv with ⟨rfl,rfl,rfl⟩ | ⟨id,off,r,rfl,hr,h1,h2,h3,h4⟩
 ·rfl
 ·simp only [kK,hr,Option.bind_some];rw [if_pos ⟨h2,by rw [h3,h4];simp⟩,h3]
theorem Has.add (hv:Has h v sz n cs):N6 h sz v=some cs:=by
 have:=hv.cells;rcases hv with ⟨rfl,rfl,rfl⟩ | ⟨id,off,r,rfl,_⟩
 ·rfl
 ·simp only [N6,if_true];exact this
theorem B7g:∀ l:List UInt8,bytes? (A5 l)=some l
 | []=>rfl
 | x::l=>by
  have h1:=x.toNat_lt;have e:C24 (.i .u8 x.toNat)=some x:=by
   simp only [C24];rw [if_pos ⟨by omega,by omega⟩];simp
  change (C24 (.i .u8 x.toNat)).bind (fun y=>(bytes? (A5 l)).map fun l=>y::l)=_;rw [e,B7g l];rfl
theorem Has.str {l:List UInt8} (hv:Has h v 1 n (A5 l)):A8w h v=some (.c (.s l)):=by
 have:=hv.cells;rcases hv with ⟨rfl,rfl,e⟩ | ⟨id,off,r,rfl,_⟩
 ·have:l=[]:=by simpa [A5] using e
  subst this;rfl
 ·simp only [A8w,if_true,this,Option.bind_some,B7g,Option.map_some]
theorem Has.sl (hv:Has h v sz n cs) (hn:0<n):∃ id off,v=.c (.sl id off n sz)/\id<h.length /\
  (∀ j c,cs[j]?=some c->A7 h (.c (.p id (off+j)))=some (.c c))/\∀ j m,j+m<=cs.length->A8 h m (.c (.p id (off+j)))=some (.a ((cs.drop j).take m)):=by
 rcases hv with ⟨rfl,rfl,rfl⟩ | ⟨id,off,r,rfl,hr,h1,h2,h3,h4⟩
 ·omega
 ·refine ⟨id,off,rfl,E4 hr,fun j c hc=>?_,fun j m hj=>?_⟩
  ·have R0:j<cs.length:=(List.getElem?_eq_some_iff.1 hc).1;have hx:c.isX=false:=by
    have:=List.all_eq_true.1 h4 c (List.mem_of_getElem? hc);simpa using this
   refine C1 (cs:=r.cells) (rw:=r.rw) hr ?_ (by simp [hx]);rw [<-h3,List.getElem?_take_of_lt (by omega),List.getElem?_drop] at hc;exact hc
  ·have e:((cs.drop j).take m)=(r.cells.drop (off+j)).take m:=by
    rw [<-h3,List.drop_take,List.take_take,List.drop_drop]
    congr 1
    omega
   rw [e];refine T2 (cs:=r.cells) (rw:=r.rw) hr (by omega) ?_;rw [<-e];have:noX ((cs.drop j).take m)=true:=by
    refine List.all_eq_true.2 fun c hc=>List.all_eq_true.1 h4 c ?_
    exact List.mem_of_mem_drop (List.mem_of_mem_take hc)
   simp [this]
end
theorem Has.row {h:A4} {id sz n:Nat} {cs:List Cell} {rw:Bool} (hr:rd h id=some ⟨cs,rw⟩) (hl:cs.length=n*sz) (hx:noX cs=true):Has h (.c (.sl id 0 n sz)) sz n cs :=
 .inr ⟨id,0,_,rfl,hr,hl,by simp [hl],by simp [<-hl],hx⟩
def Out (b:Nat) (h:A4) (v:Val) (sz n:Nat) (cs:List Cell):Prop :=
 cs.length=n*sz/\∃ id,v=.c (.sl id 0 n sz)/\b<=id/\rd h id=some ⟨cs,true⟩
theorem Out.more {b:Nat} {h:A4} {v:Val} {sz n:Nat} {cs:List Cell} (ho:Out b h v sz n cs) (l:A4):Out b (h++l) v sz n cs:=by
 obtain ⟨hl,id,rfl,hb,hr⟩:=ho;exact ⟨hl,id,rfl,hb,B6 hr⟩
def Low (b:Nat) (h h':A4):Prop:=b<=h.length/\h.length<=h'.length/\∀ id,id<b->rd h' id=rd h id
theorem Low.refl {b:Nat} {h:A4} (hb:b<=h.length):Low b h h:=⟨hb,Nat.le_refl _,fun _ _=>rfl⟩
theorem Low.trans {b:Nat} {h h' h'':A4} (h1:Low b h h') (h2:Low b h' h''):Low b h h'' :=
 ⟨h1.1,Nat.le_trans h1.2.1 h2.2.1,fun id hid=>(h2.2.2 id hid).trans (h1.2.2 id hid)⟩
theorem Low.new {b:Nat} {h h':A4} (h1:Low b h h') (l:A4):Low b h (h'++l) :=
 ⟨h1.1,by have:=h1.2.1;simp;omega,fun id hid=>by rw [E3 (by have:=h1.1;have:=h1.2.1;omega)];exact h1.2.2 id hid⟩
theorem Low.set {b:Nat} {h h':A4} (h1:Low b h h') {id:Nat} (hid:b<=id) (x:Option Row):Low b h (h'.set id x) :=
 ⟨h1.1,by simpa using h1.2.1,fun j hj=>by rw [B7 (by omega)];exact h1.2.2 j hj⟩
theorem Has.low {b:Nat} {h h':A4} {v:Val} {sz n:Nat} {cs:List Cell} (h1:Low b h h') (hv:Has h v sz n cs) (hb:∀ id off m,v=.c (.sl id off m sz)->id<b):Has h' v sz n cs:=by
 rcases hv with hv | ⟨id,off,r,rfl,hr,h2⟩
 ·exact .inl hv
 ·exact .inr ⟨id,off,r,rfl,by rw [h1.2.2 id (hb id off n rfl)];exact hr,h2⟩
theorem Out.app {b:Nat} {h:A4} {v y:Val} {sz n m:Nat} {cs ys:List Cell} (ho:Out b h v sz n cs) (hsz:0<sz) (hy:N6 h sz y=some ys) (hm:ys.length=m*sz) (hn:n+m<=1073741824) :
  ∃ id v' h',v=.c (.sl id 0 n sz)/\W7 h sz v y=some (v',h')/\Out b h' v' sz (n+m) (cs++ys)/\Low b h h'/\(∀ i r,rd h i=some r->i≠id->rd h' i=some r):=by
 have hd:ys.length/sz=m:=by rw [hm];exact Nat.mul_div_cancel m hsz
 obtain ⟨hl,id,rfl,D6v,hr⟩:=ho;have R0:=E4 hr;refine ⟨id,_,h.set id none++[some ⟨cs++ys,true⟩],rfl,by simp only [W7,hy,hr,Option.bind_some,hd];rw [if_pos ⟨trivial,trivial,hl.symm,trivial,hn⟩],⟨by simp [hl,hm,Nat.add_mul],h.length,rfl,by omega,?_⟩,((Low.refl (by omega)).set D6v none).new _,fun i r hi cK=>?_⟩
 ·have:=V6 (h:=h.set id none) (r:=⟨cs++ys,true⟩)
  rwa [List.length_set] at this
 ·have R0:=E4 hi;rw [E3 (by simpa using R0),B7 (Ne.symm cK)];exact hi
theorem A0L {h:A4} {id:Nat} {cs:List Cell} (hr:rd h id=some ⟨cs,true⟩) (hf:I9 cs=true):newRow h id=true:=by simp [newRow,hr,hf]
theorem D0U {h:A4} {b id off n sz:Nat} {cs:List Cell} (hb:b<=id) (hr:rd h id=some ⟨cs,true⟩) (hf:I9 cs=true):S9 h b (.c (.sl id off n sz))=some (.c (.sl b off n sz),[id]):=by
 have:¬ id<b:=by omega
 simp [S9,L7,hb,this,A0L hr hf]
theorem D2t {F:List Val->A4->Option (Val × A4)} {args:List Val} {h h':A4} {v:Val} {sz n:Nat} {cs:List Cell} (he:F args (ro h)=some (v,h')) (ho:Out h.length h' v sz n cs) (hf:I9 cs=true) :
  tidy F args h=some (.c (.sl h.length 0 n sz),h++[some ⟨cs,true⟩]):=by
 obtain ⟨hl,id,rfl,hb,hr⟩:=ho;rw [B46 he (D0U hb hr hf)];simp [hr]
theorem D0l {F:List Val->A4->Option (Val × A4)} {args:List Val} {h h':A4} {v':Nat} {c:Cell} {sz n:Nat} {cs:List Cell} (he:F args (ro h)=some (.t [.c (.sl v' 0 n sz),.c c],h')) (ho:Out h.length h' (.c (.sl v' 0 n sz)) sz n cs) (hf:I9 cs=true) (hc:c.flat=true) :
  tidy F args h=some (.t [.c (.sl h.length 0 n sz),.c c],h++[some ⟨cs,true⟩]):=by
 obtain ⟨hl,id,e,hb,hr⟩:=ho;cases e;have e2:L7 h' h.length [v'] [c]=some ([c],[v']):=bE (by simp [hc]);rw [B46 he (v2:=.t [.c (.sl h.length 0 n sz),.c c]) (ids:=[v']) (by simp [S9,dX,L7,hb,show ¬ v'<h.length by omega,A0L hr hf,e2,hc,Cell.low_of_flat hc])];simp [hr]
def encI (l:List Int):List Cell:=l.map fun n=>.i .i64 n
theorem B9 (l:List Int):(encI l).length=l.length:=by simp [encI]
theorem rP (l:List Int) (i:Nat) (x:Int):(encI l).set i (.i .i64 x)=encI (l.set i x):=by simp [encI,List.map_set]
theorem H9 (l:List Int) (i:Nat):(encI l)[i]?=(l[i]?).map fun x=>.i .i64 x:=by simp [encI]
theorem A2I (l m:List Int):encI (l++m)=encI l++encI m:=by simp [encI]
theorem A9s (l:List Int):noX (encI l)=true:=by simp [noX,encI,Cell.isX]
@[simp] theorem C7u {l:List Int}:I9 (encI l)=true:=by simp [I9,encI,Cell.flat]
theorem C5W {l m:List Int}:encI l=encI m↔l=m:=by
 constructor
 ·intro h;exact List.map_inj_right (fun x y e=>by simpa using e) |>.1 h
 ·rintro rfl;rfl
def encS (l:List (List UInt8)):List Cell:=l.map .s
theorem X9 (l:List (List UInt8)):(encS l).length=l.length:=by simp [encS]
theorem C6u (l:List (List UInt8)):noX (encS l)=true:=by simp [noX,encS,Cell.isX]
@[simp] theorem D4p {l:List (List UInt8)}:I9 (encS l)=true:=by simp [I9,encS,Cell.flat]
abbrev Fun:=List Val->A4->Option (Val × A4)
abbrev SmV:=Sm (Val × A4)
abbrev D6g:=Option (Val × A4)
def SOk (P:Program) (f:FuncId) (S:Fun):Prop:=∀ args h v h2,S args h=some (v,h2)->gK P f/\CallOk P f args h v h2/\h.length<=h2.length
def D6 (g:Nat) (S:Fun) (E:E2):E2:=fun f args h=>bif Nat.beq f g then S args h else E f args h
def E6:E2:=fun _ _ _=>none
theorem C9 {P:Program}:eV P E6:=fun _ _ _ _ _ h=>by cases h
theorem B8 {P:Program} {g:Nat} {S:Fun} {E:E2} (hs:SOk P g S) (hE:eV P E):eV P (D6 g S E):=by
 intro f args h v h2 he;unfold D6 at he;cases hb:Nat.beq f g with
 | true=>rw [hb] at he;have e:=Nat.eq_of_beq_eq_true hb;subst e;exact hs args h v h2 he
 | false=>rw [hb] at he;exact hE f args h v h2 he
structure FnK (P:Program) (f:FuncId) (A:AFn) (E:E2) (R:Nat->Fun):Prop where
 run:∀ n args h,A.run E n args h=R n args h
 ok:SOk P f (Lim A E)
theorem FnK.mk' {P:Program} {f:FuncId} {fn:Func} {A:AFn} {E:E2} {R:Nat->Fun} (hE:eV P E) (hf:P.funcs[f]?=some fn) (hc:C29 P fn A=true) (hr:∀ n args h,A.run E n args h=R n args h):FnK P f A E R :=
 ⟨hr,fun _ _ _ _ he=>(C8j he).elim fun _ e=>D5y hE hf hc e⟩
abbrev KV:=A93 (Val × A4)
abbrev AtH:=A4->D6g
def zE:List Nat->List Val->Env
 | t::l,x::r=>(t,x)::zE l r
 | _,_=>[]
noncomputable def rx (E:E2) (A:AFn) (n:Nat):Fun:=fun args h=>ax E n A.code A.fin (params 0 args) h
noncomputable def tl (A:AFn) (E:E2):Fun:=tidy (Lim A E)
noncomputable def ar' (s:SmV) (ks:List Nat) (k:KV) (m:Nat) (xs:List Val):AtH:=fun h=>A5R s ks k m (zE ks xs) h
noncomputable def kL' (s:SmV) (ks:List Nat) (k:KV) (m:Nat):KV:=D31 ks (A5R s ks k m) k
noncomputable def aj' (s:SmV) (k:KV) (ks:List Nat) (xs:List Val):AtH:=fun h=>hold (s k (zE ks xs) h)
noncomputable def ar (E:E2) (n:Nat) (c:ACode) (ks:List Nat) (k:KV) (m:Nat) (xs:List Val):AtH:=ar' (ax E n c) ks k m xs
noncomputable def kL (E:E2) (n:Nat) (c:ACode) (ks:List Nat) (k:KV) (m:Nat):KV:=kL' (ax E n c) ks k m
noncomputable def aj (E:E2) (n:Nat) (c:ACode) (k:KV) (ks:List Nat) (xs:List Val):AtH:=aj' (ax E n c) k ks xs
noncomputable def kQ (E:E2) (n:Nat) (c:ACode) (ks:List Nat) (k:KV):KV:=D4S ks (ax E n c) k
theorem FnK.mk2 {P:Program} {f:FuncId} {fn:Func} {A:AFn} {E:E2} (hE:eV P E) (hf:P.funcs[f]?=some fn) (hc:C29 P fn A=true):FnK P f A E (rx E A) :=
 .mk' hE hf hc fun _ _ _=>D4j
section
variable {P:Program} {f:FuncId} {A:AFn} {E:E2} {R:Nat->Fun}
theorem FnK.of (K:FnK P f A E R) {n:Nat} {args:List Val} {h:A4} {p:Val × A4} (he:R n args h=some p):Lim A E args h=some p:=D39 ((K.run ..).trans he)
theorem FnK.sok (K:FnK P f A E R):SOk P f (tidy (Lim A E)):=fun args h v h2 he=>D3O K.ok args h v h2 he
theorem FnK.flat (K:FnK P f A E R) {n:Nat} {args:List Val} {h h2:A4} {v:Val} (he:R n args (ro h)=some (v,h2)) (hf:v.flat=true):tidy (Lim A E) args h=some (v,h):=D0k (K.of he) hf
theorem FnK.low (K:FnK P f A E R) {n:Nat} {args:List Val} {h h2:A4} {v:Val} (he:R n args (ro h)=some (v,h2)) (hf:v.low h.length=true):tidy (Lim A E) args h=some (v,h):=D2s (K.of he) hf
theorem FnK.out (K:FnK P f A E R) {n:Nat} {args:List Val} {h h2:A4} {v:Val} {sz k:Nat} {cs:List Cell} (he:R n args (ro h)=some (v,h2)) (ho:Out h.length h2 v sz k cs) (hf:I9 cs=true):tidy (Lim A E) args h=some (.c (.sl h.length 0 k sz),h++[some ⟨cs,true⟩]):=D2t (K.of he) ho hf
theorem FnK.out2 (K:FnK P f A E R) {n:Nat} {args:List Val} {h h2:A4} {i:Nat} {c:Cell} {sz k:Nat} {cs:List Cell} (he:R n args (ro h)=some (.t [.c (.sl i 0 k sz),.c c],h2)) (ho:Out h.length h2 (.c (.sl i 0 k sz)) sz k cs) (hf:I9 cs=true) (hc:c.flat=true):Esc.tidy (Lim A E) args h=some (.t [.c (.sl h.length 0 k sz),.c c],h++[some ⟨cs,true⟩]):=D0l (K.of he) ho hf hc
theorem FnK.tidy (K:FnK P f A E R) {n:Nat} {args:List Val} {h h2:A4} {v v2:Val} {ids:List Nat} (he:R n args (ro h)=some (v,h2)) (hc:S9 h2 h.length v=some (v2,ids)):Esc.tidy (Lim A E) args h=some (v2,h++ids.map (rd h2)):=B46 (K.of he) hc
end
abbrev G0 (R:Nat->Fun) (S:Fun):Prop:=∀ {n:Nat} {args:List Val} {h h2:A4} {v:Val},R n args (ro h)=some (v,h2)->v.flat=true->S args h=some (v,h)
abbrev D5m (R:Nat->Fun) (S:Fun):Prop:=∀ {n:Nat} {args:List Val} {h h2:A4} {v:Val},R n args (ro h)=some (v,h2)->v.low h.length=true->S args h=some (v,h)
abbrev B5h (R:Nat->Fun) (S:Fun):Prop:=∀ {n:Nat} {args:List Val} {h h2:A4} {v:Val} {sz k:Nat} {cs:List Cell},R n args (ro h)=some (v,h2)->Out h.length h2 v sz k cs->I9 cs=true->S args h=some (.c (.sl h.length 0 k sz),h++[some ⟨cs,true⟩])
abbrev D5o (R:Nat->Fun) (S:Fun):Prop:=∀ {n:Nat} {args:List Val} {h h2:A4} {i:Nat} {c:Cell} {sz k:Nat} {cs:List Cell},R n args (ro h)=some (.t [.c (.sl i 0 k sz),.c c],h2)->Out h.length h2 (.c (.sl i 0 k sz)) sz k cs->I9 cs=true->c.flat=true->S args h=some (.t [.c (.sl h.length 0 k sz),.c c],h++[some ⟨cs,true⟩])
abbrev C8k (R:Nat->Fun) (S:Fun):Prop:=∀ {n:Nat} {args:List Val} {h h2:A4} {v v2:Val} {ids:List Nat},R n args (ro h)=some (v,h2)->S9 h2 h.length v=some (v2,ids)->S args h=some (v2,h++ids.map (rd h2))
abbrev OfT (R:Nat->Fun) (S:Fun):Prop:=∀ {n:Nat} {args:List Val} {h:A4} {p:Val × A4},R n args h=some p->S args h=some p
end
end Go.Esc
namespace Go.Esc
open Go Go.ChangeShapes Go.WideShapes Go.ChangeAt Go.RowKit
section
def wZ (P:Program) (g:TypeId->Option (List Sh)):List Field->Nat->Option (List Sh)
 | [],_=>some []
 | f::r,off=>if f.offset=off then (g f.type).bind fun l=>if l.length=P.cellsOf f.type then (wZ P g r (off+l.length)).map (l ++ ·) else none else none
def rZ (P:Program):Nat->TypeId->Option (List Sh)
 | 0,_=>none
 | n+1,t=>match P.underlying t with
  | some .bool=>some [.b]
  | some (.int k)=>some [.i k]
  | some .string=>some [.s]
  | some (.struct fs)=>(wZ P (rZ P n) fs.toList 0).bind fun l=>if l.length=P.cellsOf t then some l else none
  | some (.array m e)=>(rZ P n e).bind fun l=>if l.length=P.cellsOf e/\P.cellsOf t=m*l.length then some (List.replicate m l).flatten else none
  | _=>none
def okCell:Sh->Cell->Prop
 | .b,.b _=>True
 | .i k,.i k' n=>k'=k/\k.min<=n/\n<=k.max
 | .s,.s l=>l.length<=maxLen
 | _,_=>False
theorem okCell.flat {s:Sh} {c:Cell} (h:okCell s c):c.flat=true/\c.isX=false:=by
 cases s<;>cases c<;>simp_all [okCell,Cell.flat,Cell.isX]
theorem A3Z:∀ {l:List Sh} {cs:List Cell},All2 okCell l cs->I9 cs=true/\noX cs=true
 | [],[],_=>⟨rfl,rfl⟩
 | s::l,c::cs,⟨h1,h2⟩=>by
  have:=A3Z h2;have h3:=h1.flat;simp [this.1,h3.1,noX,h3.2];have:=this.2;simpa [noX] using this
 | [],_::_,h=>h.elim
 | _::_,[],h=>h.elim
section
variable {H:Type} {enc:TypeId × Value->H} {P:Program} {w:World} {base:Nat} {spare:Nat->Bool} {held:Bool} {fuel:Nat} {t:TypeId} {cs:List Value} {x:DataW H × List MemPlace}
theorem trod_array {n:Nat} {e:TypeId} (ht:P.underlying t=some (.array n e)) (h:DataW.trod enc P w base spare held fuel t cs=some x) :
  ∃ (m:Nat) (xs:List (DataW H × List MemPlace)),cs.length=P.cellsOf t/\∀ i,i<n->∃ y,DataW.trod enc P w base spare held m e ((cs.drop (i*P.cellsOf e)).take (P.cellsOf e))=some y:=by
 cases fuel with
 | zero=>simp [DataW.trod] at h
 | succ m =>
  unfold DataW.trod at h;rw [ht] at h;have h':cs.length=P.cellsOf t/\∃ xs,((List.range n).mapM fun i=>DataW.trod enc P w base spare held m e ((cs.drop (i*P.cellsOf e)).take (P.cellsOf e)))=some xs:=by
   split at h<;>simp_all
   obtain ⟨hl,xs,hp,hd⟩:=h;exact ⟨xs,hp⟩
  obtain ⟨hl,xs,hp⟩:=h';refine ⟨m,xs,hl,fun i hi=>?_⟩;have:=mapM_some_get hp i i (by simp [hi]);rw [this];have hxl:xs.length=n:=by simpa using mapM_some_length hp
  exact ⟨xs[i],List.getElem?_eq_getElem (by omega)⟩
theorem A2Y (μ:Mu):∀ (n:Nat) {t:TypeId} {fuel:Nat} {cs:List Value} {x:DataW H × List MemPlace} {sh:List Sh},DataW.trod enc P w base spare held fuel t cs=some x->rZ P n t=some sh ->
  ∃ cells,All2 (RC μ) cells cs/\All2 okCell sh cells
 | 0,_,_,_,_,_,_,hs=>by simp [rZ] at hs
 | n+1,t,fuel,cs,x,sh,h,hs=>by
  unfold rZ at hs;split at hs
  ·rename_i ht;cases hs;obtain ⟨b,rfl,_⟩:=DataW.trod_bool ht h;exact ⟨[.b b],⟨rfl,trivial⟩,⟨trivial,trivial⟩⟩
  ·rename_i k ht;cases hs;obtain ⟨m,rfl,_,hw⟩:=DataW.trod_int ht h;simp only [Lit.wf,Bool.and_eq_true,decide_eq_true_eq] at hw;exact ⟨[.i k m],⟨rfl,trivial⟩,⟨⟨rfl,hw⟩,trivial⟩⟩
  ·rename_i ht;cases hs;obtain ⟨s,rfl,_,hw⟩:=DataW.trod_string ht h;exact ⟨[.s s.data.toList],⟨by show Value.string s=.string ⟨s.data.toList.toArray⟩;simp,trivial⟩,⟨by show s.data.toList.length<=maxLen;simpa using hw,trivial⟩⟩
  ·rename_i fs ht;simp only [Option.bind_eq_some_iff] at hs;obtain ⟨l,hl,hs⟩:=hs;split at hs
   ·rename_i hlen;cases hs;obtain ⟨xs,m,_,_,xW,hxl,hf⟩:=DataW.trod_struct ht h;have key:∀ (r:List Field) (off:Nat) (l:List Sh),wZ P (rZ P n) r off=some l->(∀ f∈r,∃ y,DataW.trod enc P w base spare held m f.type ((cs.drop f.offset).take (P.cellsOf f.type))=some y) ->
      ∃ cells,All2 (RC μ) cells ((cs.drop off).take l.length)/\All2 okCell l cells:=by
     intro r
     induction r with
     | nil=>intro off l hl _;simp only [wZ,Option.some.injEq] at hl;subst hl;exact ⟨[],by simp,trivial⟩
     | cons f r ih =>
      intro off l hl mY;simp only [wZ] at hl;split at hl
      ·rename_i ho;simp only [Option.bind_eq_some_iff] at hl;obtain ⟨lf,hlf,hl⟩:=hl;split at hl
       ·rename_i hc;simp only [Option.map_eq_some_iff] at hl;obtain ⟨lr,hlr,rfl⟩:=hl;obtain ⟨y,hy⟩:=mY f (by simp);obtain ⟨c1,g1,g2⟩:=A2Y μ n hy hlf;obtain ⟨c2,g3,g4⟩:=ih (off+lf.length) lr hlr fun f' hf'=>mY f' (by simp [hf'])
        refine ⟨c1++c2,?_,g2.append g4⟩;have e:(cs.drop off).take (lf++lr).length=(cs.drop off).take lf.length++(cs.drop (off+lf.length)).take lr.length:=by
         rw [List.length_append,List.take_add,List.drop_drop]
        rw [e];rw [ho,<-hc] at g1;exact g1.append g3
       ·cases hl
      ·cases hl
    have h1:=key fs.toList 0 _ hl fun f hf'=>by
     obtain ⟨i,hi⟩:=List.mem_iff_getElem?.1 hf';have hi2:fs[i]?=some f:=by simpa using hi
     rw [hf i f hi2];have:i<fs.size:=(Array.getElem?_eq_some_iff.1 hi2).1;exact ⟨xs[i],List.getElem?_eq_getElem (by omega)⟩
    rw [List.drop_zero,List.take_of_length_le (by omega)] at h1;exact h1
   ·cases hs
  ·rename_i k e ht;simp only [Option.bind_eq_some_iff] at hs;obtain ⟨l,hl,hs⟩:=hs;split at hs
   ·rename_i hlen;cases hs;obtain ⟨m,xs,xW,mY⟩:=trod_array ht h;have key:∀ d j,j+d=k->∃ cells,All2 (RC μ) cells (cs.drop (j*l.length))/\All2 okCell (List.replicate d l).flatten cells:=by
     intro d
     induction d with
     | zero =>
      intro j hj;have:cs.drop (j*l.length)=[]:=List.drop_of_length_le (by rw [xW,hlen.2];have:j=k:=(by omega);subst this;exact Nat.le_refl _);rw [this];exact ⟨[],trivial,trivial⟩
     | succ d ih =>
      intro j hj;obtain ⟨y,hy⟩:=mY j (by omega);obtain ⟨c1,g1,g2⟩:=A2Y μ n hy hl;obtain ⟨c2,g3,g4⟩:=ih (j+1) (by omega);refine ⟨c1++c2,?_,?_⟩
      ·rw [<-hlen.1] at g1;have e2:cs.drop (j*l.length)=(cs.drop (j*l.length)).take l.length++cs.drop ((j+1)*l.length):=by
        rw [Nat.add_mul,Nat.one_mul,<-List.drop_drop,List.take_append_drop]
       rw [e2];exact g1.append g3
      ·rw [List.replicate_succ,List.flatten_cons];exact g2.append g4
    have h1:=key k 0 (by omega);simpa using h1
   ·cases hs
  ·cases hs
def C8m (P:Program) (t:TypeId):Bool :=
 match P.underlying t with
 | some (.struct _)=>true
 | some (.array _ _)=>true
 | _=>false
def C7W:List Cell->Val
 | [c]=>.c c
 | _=>.un
def flatVal (P:Program) (t:TypeId) (cells:List Cell):Val:=if C8m P t=true then .a cells else C7W cells
theorem C9X (μ:Mu) {r:Reach} {b0:Nat} {n:Nat} {v:Value} {d:DataW H} {ps:List MemPlace} {sh:List Sh} (oE:Value.okWide P w r b0 t v) (hd:DataW.Trod enc P w base spare held t v d ps) (hs:rZ P n t=some sh) :
  ∃ cells,All2 okCell sh cells/\RV μ (flatVal P t cells) v:=by
 obtain ⟨fuel,h⟩:=hd;obtain ⟨cells,h1,h2⟩:=A2Y μ n h hs;refine ⟨cells,h2,?_⟩;unfold flatVal C8m;unfold Value.okWide at oE;split at oE
 ·rename_i ht;obtain ⟨cs,rfl,_,_⟩:=oE;rw [ht];simp only [if_true];exact ⟨cs.toList,by simp,by simpa [Value.cells] using h1⟩
 ·rename_i ht;obtain ⟨cs,rfl,_,_⟩:=oE;rw [ht];simp only [if_true];exact ⟨cs.toList,by simp,by simpa [Value.cells] using h1⟩
 ·rename_i hn1 hn2;have e:(match P.underlying t with | some (.struct _)=>true | some (.array _ _)=>true | _=>false)=false:=by
   split
   ·rename_i hh;exact (hn1 _ hh).elim
   ·rename_i hh;exact (hn2 _ _ hh).elim
   ·rfl
  rw [e];simp only [Bool.false_eq_true,if_false];have one:∀ V,v.cells.toList=[V]->v=V->∃ c,cells=[c]/\RC μ c v:=by
   intro V hV e2;rw [hV] at h1;cases cells with
   | nil=>exact h1.elim
   | cons c r=>cases r with
    | nil=>exact ⟨c,rfl,e2 ▸ h1.1⟩
    | cons=>exact h1.2.elim
  have fin:∀ c,cells=[c]/\RC μ c v->RV μ (C7W cells) v:=by
   rintro c ⟨rfl,hc⟩;exact hc
  unfold rZ at hs;cases n with
  | zero=>simp at hs
  | succ n =>
   simp only at hs;split at hs
   ·rename_i ht;obtain ⟨b,hb,_⟩:=DataW.trod_bool ht h;unfold Cell.okWide at oE;rw [ht] at oE;have:∃ b,v=.bool b:=by
     cases v<;>simp_all [Cell.ok]
    obtain ⟨b,rfl⟩:=this;obtain ⟨c,hc⟩:=one (.bool b) (by simp [Value.cells]) rfl;exact fin c hc
   ·rename_i k ht;obtain ⟨m,rfl⟩:=okWide_int (P:=P) ht (by unfold Value.okWide;rw [ht];exact oE);obtain ⟨c,hc⟩:=one (.int k m) (by simp [Value.cells]) rfl;exact fin c hc
   ·rename_i ht;obtain ⟨b,hb,_⟩:=DataW.trod_string ht h;unfold Cell.okWide at oE;rw [ht] at oE;have:∃ b,v=.string b:=by
     cases v<;>simp_all [Cell.ok]
    obtain ⟨b,rfl⟩:=this;obtain ⟨c,hc⟩:=one (.string b) (by simp [Value.cells]) rfl;exact fin c hc
   ·rename_i fs ht;exact (hn1 _ ht).elim
   ·rename_i k e ht;exact (hn2 _ _ ht).elim
   ·cases hs
end
def Mu.set (μ:Mu) (id:Nat) (y:Option (Nat × Nat)):Mu:=fun j=>if j=id then y else μ j
theorem Mu.le_set {μ:Mu} {id:Nat} {y:Option (Nat × Nat)} (h:μ id=Option.none):μ.le (μ.set id y):=by
 intro j x hj;unfold Mu.set;by_cases e:j=id
 ·subst e;rw [h] at hj;cases hj
 ·simp [e,hj]
theorem Inv.addRow {W:World} {h:A4} {μ:Mu} (hi:Inv (C0h W) μ h W) (hro:∀ id r,rd h id=some r->r.own=false) {y:Option (Nat × Nat)} {cs:List Cell} (A1z:(Row.mk cs false).own=false) (hrow:RowOk (μ.set h.length y) W h.length ⟨cs,false⟩) :
  Inv (C0h W) (μ.set h.length y) (h++[some ⟨cs,false⟩]) W/\∀ id r,rd (h++[some ⟨cs,false⟩]) id=some r->r.own=false:=by
 have hm:μ h.length=Option.none:=hi.dom _ (Nat.le_refl _);have get:∀ id r,rd (h++[some ⟨cs,false⟩]) id=some r->(id<h.length/\rd h id=some r)\/(id=h.length/\r=⟨cs,false⟩):=by
  intro id r hr;by_cases hl:id<h.length
  ·rw [E3 hl] at hr;exact .inl ⟨hl,hr⟩
  ·have R0:=E4 hr;simp at R0;have:id=h.length:=by omega
   subst this;rw [V6] at hr;cases hr;exact .inr ⟨rfl,rfl⟩
 have ro':∀ id r,rd (h++[some ⟨cs,false⟩]) id=some r->r.own=false:=by
  intro id r hr;rcases get id r hr with ⟨_,h1⟩ | ⟨_,rfl⟩
  ·exact hro id r h1
  ·exact A1z
 refine ⟨⟨?_,?_,?_,?_,hi.ctx⟩,ro'⟩
 ·intro id r hr;rcases get id r hr with ⟨hl,h1⟩ | ⟨rfl,rfl⟩
  ·exact (hi.rows id r h1).mono (Mu.le_set hm) (by simp [Mu.set];omega) fun _ _=>rfl
  ·exact hrow
 ·intro id bP r r' x x' hr _ hw;rw [ro' id r hr] at hw;cases hw
 ·intro id r x hr hw;rw [ro' id r hr] at hw;cases hw
 ·intro id hl;simp at hl;have:id≠h.length:=by omega
  simp only [Mu.set,this,if_false];exact hi.dom id (by omega)
theorem D1X {μ:Mu} {k:Nat} {cs:List Cell} {vs:List Value} (h:All2 (RC μ) cs vs):(Row.mk (List.replicate k .dark++cs) false).own=false:=by
 cases k with
 | succ k=>rfl
 | zero =>
  cases cs with
  | nil=>rfl
  | cons c cs =>
   cases vs with
   | nil=>exact h.elim
   | cons v vs =>
    have h1:=h.1;cases c<;>first | rfl | exact h1.elim
def Opened (W:World) (μ:Mu) (h:A4):Prop:=Inv (C0h W) μ h W/\∀ id r,rd h id=some r->r.own=false
theorem Opened.nought (W:World):Opened W (fun _=>Option.none) []:=⟨Inv.nought W,fun id r h=>by simp [rd] at h⟩
section
variable {H:Type} {enc:TypeId × Value->H} {P:Program} {W:World} {base:Nat} {held:Bool} {t:TypeId}
theorem D0V {W:World} {a:Addr} {C:Array Value} {elem:TypeId} {fz:Nat × Nat} {k:Nat} (hC:W.heap[a.block]?=some (.cells C elem fz)) (hs:a.spot=none):W.cell? (a.add k)=C[a.off+k]? := by
 have h1:(a.add k).block=a.block:=by unfold Addr.add;split<;>rfl
 have h2:(a.add k).spot=none:=by unfold Addr.add;split<;>simp_all
 have h3:(a.add k).off=a.off+k:=by unfold Addr.add;split<;>simp_all
 unfold World.cell?;rw [h1,hC,h3];simp [h2]
theorem C08 {μ:Mu} {h:A4} (ho:Opened W μ h) {r:Reach} {b0 n:Nat} {e:TypeId} {v:Value} {d:DataW H} {ps:List MemPlace} {sh:List Sh} (ht:P.underlying t=some (.slice e)) (hs:rZ P n e=some sh) (sY:sh.length=P.cellsOf e) (B6t:0<sh.length)
  (oE:Value.okWide P W r b0 t v) (hd:DataW.Trod enc P W base (fun _=>true) held t v d ps) :
  ∃ v' μ' l len cells,μ.le μ'/\Opened W μ' (h++l)/\RV μ' v' v/\Has (h++l) v' sh.length len cells/\All2 okCell (List.replicate len sh).flatten cells/\len<=maxLen:=by
 obtain ⟨fuel,hf⟩:=hd;have hv:∃ a len cap,v=.slice a len cap:=by
  unfold Value.okWide at oE;rw [ht] at oE;unfold Cell.okWide at oE;rw [ht] at oE;cases v<;>simp_all [Cell.ok]
 obtain ⟨a0,len0,cap0,rfl⟩:=hv;have D4v:(Value.slice a0 len0 cap0).cells.toList=[.slice a0 len0 cap0]:=by simp [Value.cells]
 rw [D4v] at hf;rcases Deep.open_slice ht hf with ⟨hc,_⟩ | ⟨a,len,cap,m,k,D,Pl,hc,hb,hl,hm,hmm,hx,hel⟩
 ·simp only [List.cons.injEq,Value.slice.injEq,and_true] at hc;obtain ⟨rfl,rfl,rfl⟩:=hc;exact ⟨.c .ns,μ,[],0,[],Mu.le_refl _,by simpa using ho,rfl,.inl ⟨rfl,rfl,rfl⟩,by simp,Nat.zero_le _⟩
 ·simp only [List.cons.injEq,Value.slice.injEq,and_true] at hc;obtain ⟨rfl,rfl,rfl⟩:=hc;simp only [if_true] at hmm;subst hmm;rw [<-sY] at hel;by_cases hm0:m=0
  ·subst hm0;have:len0=0:=by omega
   subst this;obtain ⟨g1,g2⟩:=Inv.addRow ho.1 ho.2 (y:=Option.none) (cs:=[]) rfl (by unfold RowOk;simp [Mu.set]);exact ⟨.c (.sl h.length 0 0 sh.length),_,[some ⟨[],false⟩],0,[],Mu.le_set (ho.1.dom _ (Nat.le_refl _)),⟨g1,g2⟩,.inr ⟨rfl,_,rfl⟩,.inr ⟨h.length,0,⟨[],false⟩,rfl,V6,by simp,by simp,by simp,rfl⟩,by simp,Nat.zero_le _⟩
  ·obtain ⟨cs0,hc0,hr0⟩:=hel 0 (by omega);obtain ⟨_,D7a,D4u⟩:=World.cells?_some hc0;have sH:∃ C elem fz,W.heap[a.block]?=some (.cells C elem fz)/\a.spot=none:=by
    have:=D4u 0 B6t;rw [List.getElem?_eq_getElem (by omega)] at this;unfold World.cell? at this;have hb0:((a.add (0*sh.length)).add 0)=a:=by simp [Addr.add]
    rw [hb0] at this;split at this
    ·rename_i C elem fz hh;refine ⟨C,elem,fz,hh,?_⟩;split at this
     ·cases this
     ·rename_i hs2;cases hsp:a.spot with
      | none=>rfl
      | some s=>simp [hsp] at hs2
    ·cases this
   obtain ⟨C,elem,fz,hC,hsp⟩:=sH;have ha:a=⟨a.block,a.off,none⟩:=by cases a;simp_all
   have D1t:∀ i j,i<m->j<sh.length->W.cell? ((a.add (i*sh.length)).add j)=C[a.off+(i*sh.length+j)]? := by
    intro i j _ _;rw [Deep.add_add];exact D0V hC hsp
   have D5V:a.off+m*sh.length<=C.size:=by
    obtain ⟨cs1,hc1,_⟩:=hel (m-1) (by omega);obtain ⟨_,D5R,C7C⟩:=World.cells?_some hc1;have h1:=C7C (sh.length-1) (by omega);rw [D1t _ _ (by omega) (by omega),List.getElem?_eq_getElem (by omega)] at h1;have h2:=(Array.getElem?_eq_some_iff.1 h1).1;have e:(m-1)*sh.length+(sh.length-1)+1=m*sh.length:=by
     obtain ⟨q,rfl⟩:∃ q,m=q+1:=⟨m-1,by omega⟩;rw [Nat.add_sub_cancel,Nat.add_mul];omega
    omega
   have key:∀ d j,j+d=len0->∃ cells,All2 (RC μ) cells ((C.toList.drop (a.off+j*sh.length)).take (d*sh.length))/\All2 okCell (List.replicate d sh).flatten cells:=by
    intro d
    induction d with
    | zero=>intro j _;exact ⟨[],by simp,trivial⟩
    | succ d ih =>
     intro j hj;obtain ⟨cs1,hc1,hr1⟩:=hel j (by omega);obtain ⟨_,D5R,C7C⟩:=World.cells?_some hc1;obtain ⟨c1,g1,g2⟩:=A2Y μ n hr1 hs;obtain ⟨c2,g3,g4⟩:=ih (j+1) (by omega);refine ⟨c1++c2,?_,by rw [List.replicate_succ,List.flatten_cons];exact g2.append g4⟩;have e1:(C.toList.drop (a.off+j*sh.length)).take sh.length=cs1:=by
      refine List.ext_getElem? fun i=>?_
      by_cases hi:i<sh.length
      ·rw [List.getElem?_take_of_lt hi,List.getElem?_drop,<-C7C i hi,D1t j i (by omega) hi];simp [Nat.add_assoc]
      ·rw [List.getElem?_eq_none (by simp;omega),List.getElem?_eq_none (by omega)]
     have e2:(C.toList.drop (a.off+j*sh.length)).take ((d+1)*sh.length)=cs1++(C.toList.drop (a.off+(j+1)*sh.length)).take (d*sh.length):=by
      rw [Nat.add_mul d 1,Nat.one_mul,Nat.add_comm (d*sh.length),List.take_add,e1,List.drop_drop,Nat.add_mul,Nat.one_mul,Nat.add_assoc]
     rw [e2];exact g1.append g3
   obtain ⟨cells,k1,k2⟩:=key len0 0 (by omega);rw [Nat.zero_mul,Nat.add_zero] at k1;have xW:cells.length=len0*sh.length:=by
    have h1:=k1.length;simp at h1;have:len0*sh.length<=m*sh.length:=Nat.mul_le_mul_right _ hl;omega
   have hmul:len0*sh.length<=m*sh.length:=Nat.mul_le_mul_right _ hl;have hm':μ h.length=none:=ho.1.dom _ (Nat.le_refl _);obtain ⟨g1,g2⟩:=Inv.addRow ho.1 ho.2 (y:=some (a.block,C.size)) (cs:=List.replicate a.off .dark++cells) (D1X k1) (by
    unfold RowOk;simp only [Mu.set,if_true];refine .inl ⟨C,elem,fz,hC,rfl,?_,fun hf=>by cases hf⟩;have e3:C.toList.take (List.replicate a.off Cell.dark++cells).length=C.toList.take a.off++(C.toList.drop a.off).take (len0*sh.length):=by
     rw [List.length_append,List.length_replicate,List.take_add,xW]
    rw [e3];refine All2.append ?_ (k1.mono fun c V hc=>.inl (hc.mono (Mu.le_set hm')));refine All2.of_get (by simp;omega) fun i c V hc hV=>.inr ⟨rfl,?_⟩
    have:=List.mem_of_getElem? hc;rw [List.mem_replicate] at this;rw [this.2];rfl)
   refine ⟨.c (.sl h.length a.off len0 sh.length),_,[some ⟨List.replicate a.off .dark++cells,false⟩],len0,cells,Mu.le_set hm',⟨g1,g2⟩,.inl ⟨a.block,C.size,m,by simp [Mu.set],hl,D5V,by rw [<-ha]⟩,.inr ⟨h.length,a.off,_,rfl,V6,xW,?_,?_,(A3Z k2).2⟩,k2,by omega⟩
   ·simp [xW]
   ·rw [List.drop_left' (by simp),List.take_of_length_le (by omega)]
end
theorem RV.flatVal {μ μ':Mu} {P:Program} {t:TypeId} {cells:List Cell} {v:Value} (hf:I9 cells=true) (h:RV μ (flatVal P t cells) v):RV μ' (flatVal P t cells) v:=by
 unfold Go.Esc.flatVal at h ⊢;split
 ·rename_i ha;rw [if_pos ha] at h;obtain ⟨vs,e,h2⟩:=h;exact ⟨vs,e,All2.flat hf h2⟩
 ·rename_i ha;rw [if_neg ha] at h;unfold C7W at h ⊢;split
  ·rename_i c;simp only [C52,C9z,Bool.and_true] at hf;exact RC.flat hf h
  ·trivial
def C4j (k:IntKind) (n:Int):Prop:=k.min<=n/\n<=k.max
theorem C9B {n:Int}:C4j .u8 n↔0<=n/\n<=255:=Iff.rfl
theorem C6B:∀ {n:Nat} {cells:List Cell},All2 okCell (List.replicate n (.i .u8)) cells->∃ l:List UInt8,cells=A5 l/\l.length=n
 | 0,[],_=>⟨[],rfl,rfl⟩
 | n+1,c::cs,h=>by
  rw [List.replicate_succ] at h;obtain ⟨l,rfl,hl⟩:=C6B h.2;have h1:=h.1;cases c with
  | i k m =>
   obtain ⟨rfl,h2⟩:=h1;have h3:=C9B.1 h2;refine ⟨UInt8.ofNat m.toNat::l,?_,by simp [hl]⟩;simp only [A5,List.map_cons,List.cons.injEq,Cell.i.injEq,true_and,and_true];rw [UInt8.toNat_ofNat'];omega
  | _=>exact h1.elim
 | 0,_::_,h=>h.elim
 | n+1,[],h=>by rw [List.replicate_succ] at h;exact h.elim
theorem C8Q {k:IntKind}:∀ {n:Nat} {cells:List Cell},All2 okCell (List.replicate n (.i k)) cells->∃ l:List Int,cells=l.map (.i k)/\l.length=n/\∀ x∈l,C4j k x
 | 0,[],_=>⟨[],rfl,rfl,fun _ h=>by cases h⟩
 | n+1,c::cs,h=>by
  rw [List.replicate_succ] at h;obtain ⟨l,rfl,hl,hx⟩:=C8Q h.2;have h1:=h.1;cases c with
  | i k' m =>
   obtain ⟨rfl,h2⟩:=h1;exact ⟨m::l,rfl,by simp [hl],fun x hx'=>by
    rcases List.mem_cons.1 hx' with rfl | hx'
    ·exact h2
    ·exact hx x hx'⟩
  | _=>exact h1.elim
 | 0,_::_,h=>h.elim
 | n+1,[],h=>by rw [List.replicate_succ] at h;exact h.elim
section
variable {H:Type} {enc:TypeId × Value->H} {P:Program} {W:World} {base:Nat} {spare:Nat->Bool} {held:Bool} {t:TypeId} {r:Reach} {b0 n:Nat} {v:Value} {d:DataW H} {ps:List MemPlace}
theorem D2T {s:Sh} (oE:Value.okWide P W r b0 t v) (hd:DataW.Trod enc P W base spare held t v d ps) (hs:rZ P n t=some [s]) (ha:C8m P t=false):∃ c,okCell s c/\∀ μ,RV μ (.c c) v:=by
 obtain ⟨cells,h1,h2⟩:=C9X (fun _=>none) oE hd hs;cases cells with
 | nil=>exact h1.elim
 | cons c l=>cases l with
  | cons=>exact h1.2.elim
  | nil =>
   refine ⟨c,h1.1,fun μ=>?_⟩;have:=RV.flatVal (μ':=μ) (A3Z h1).1 h2;unfold flatVal at this
   rwa [if_neg (by rw [ha];simp)] at this
theorem D2S {k:IntKind} (oE:Value.okWide P W r b0 t v) (hd:DataW.Trod enc P W base spare held t v d ps) (hs:rZ P n t=some [.i k]) (ha:C8m P t=false):∃ m,C4j k m/\∀ μ,RV μ (.c (.i k m)) v:=by
 obtain ⟨c,h1,h2⟩:=D2T oE hd hs ha;cases c with
 | i k' m=>obtain ⟨rfl,h1⟩:=h1;exact ⟨m,h1,h2⟩
 | _=>exact h1.elim
theorem D0M {e:TypeId} {sh:List Sh} {μ:Mu} {h:A4} (ho:Opened W μ h) (oE:Value.okWide P W r b0 t v) (hd:DataW.Trod enc P W base (fun _=>true) held t v d ps) (ht:P.underlying t=some (.slice e)) (hs:rZ P n e=some sh) (sY:sh.length=P.cellsOf e) (B6t:0<sh.length) :
  ∃ v' μ' l len cells,μ.le μ'/\Opened W μ' (h++l)/\RV μ' v' v/\Has (h++l) v' sh.length len cells/\All2 okCell (List.replicate len sh).flatten cells/\len<=maxLen :=
 C08 ho ht hs sY B6t oE hd
theorem D2U {e:TypeId} {μ:Mu} {h:A4} (ho:Opened W μ h) (oE:Value.okWide P W r b0 t v) (hd:DataW.Trod enc P W base (fun _=>true) held t v d ps) (ht:P.underlying t=some (.slice e)) (hs:rZ P n e=some [.i .u8]) (sY:P.cellsOf e=1) :
  ∃ v' μ' l len data,μ.le μ'/\Opened W μ' (h++l)/\RV μ' v' v/\Has (h++l) v' 1 len (A5 data)/\data.length<=9223372036854775807:=by
 obtain ⟨v',μ',l,len,cells,h1,h2,h3,h4,h5,h6⟩:=D0M ho oE hd ht hs (by rw [sY];rfl) (by simp);have e:(List.replicate len [Sh.i .u8]).flatten=List.replicate len (.i .u8):=by
  clear h4 h5 h6
  induction len with
  | zero=>rfl
  | succ n ih=>rw [List.replicate_succ,List.flatten_cons,ih,List.replicate_succ];rfl
 rw [e] at h5;obtain ⟨data,rfl,hl⟩:=C6B h5;exact ⟨v',μ',l,len,data,h1,h2,h3,h4,by rw [hl];exact h6⟩
theorem D2V {e:TypeId} {μ:Mu} {h:A4} (ho:Opened W μ h) (oE:Value.okWide P W r b0 t v) (hd:DataW.Trod enc P W base (fun _=>true) held t v d ps) (ht:P.underlying t=some (.slice e)) (hs:rZ P n e=some [.i .i64]) (sY:P.cellsOf e=1) :
  ∃ v' μ' l len data,μ.le μ'/\Opened W μ' (h++l)/\RV μ' v' v/\Has (h++l) v' 1 len (encI data)/\data.length<=9223372036854775807/\∀ x∈data,C4j .i64 x:=by
 obtain ⟨v',μ',l,len,cells,h1,h2,h3,h4,h5,h6⟩:=D0M ho oE hd ht hs (by rw [sY];rfl) (by simp);have e:(List.replicate len [Sh.i .i64]).flatten=List.replicate len (.i .i64):=by
  clear h4 h5 h6
  induction len with
  | zero=>rfl
  | succ n ih=>rw [List.replicate_succ,List.flatten_cons,ih,List.replicate_succ];rfl
 rw [e] at h5;obtain ⟨data,rfl,hl,hx⟩:=C8Q h5;exact ⟨v',μ',l,len,data,h1,h2,h3,h4,by rw [hl];exact h6,hx⟩
end
end
end Go.Esc
section
namespace Go.Esc
open Go
theorem Has.tr {h:A4} {id sz n:Nat} {cs:List Cell} (hr:rd h id=some ⟨cs,true⟩) (hl:cs.length=n*sz) (hx:noX cs=true):Has h (.c (.sl id 0 n sz)) sz n cs:=Has.row hr hl hx
theorem Has.since {g h:A4} {v:Val} {sz n:Nat} {cs:List Cell} (hv:Has g v sz n cs) (h1:Low g.length g h):Has h v sz n cs:=by
 rcases hv with hv | ⟨id,off,r,rfl,hr,h2⟩
 ·exact .inl hv
 ·exact .inr ⟨id,off,r,rfl,by rw [h1.2.2 id (E4 hr)];exact hr,h2⟩
theorem Low.rd {g h:A4} (h1:Low g.length g h) {id:Nat} {r:Row} (hr:rd g id=some r):rd h id=some r:=by
 rw [h1.2.2 id (E4 hr)];exact hr
theorem push {g h:A4} {id n sz:Nat} {cs ys:List Cell} (hlow:Low g.length g h) (hr:rd h id=some ⟨cs,true⟩) (hl:cs.length=n*sz) (hb:g.length<=id) (hy:ys.length=sz) (hsz:0<sz) (hn:n+1<=1073741824) :
  ∃ h',W7 (h++[some ⟨ys,true⟩]) sz (.c (.sl id 0 n sz)) (.c (.sl h.length 0 1 sz))=some (.c (.sl (h.length+1) 0 (n+1) sz),h')/\rd h' (h.length+1)=some ⟨cs++ys,true⟩/\Low g.length g h'/\g.length<=h.length+1/\(cs++ys).length=(n+1)*sz:=by
 have R0:=E4 hr;have h1:rd (h++[some ⟨ys,true⟩]) id=some ⟨cs,true⟩:=B6 hr;have h2:N6 (h++[some ⟨ys,true⟩]) sz (.c (.sl h.length 0 1 sz))=some ys:=by
  have:=(Has.row (h:=h++[some ⟨ys,true⟩]) (id:=h.length) (sz:=sz) (n:=1) (cs:=ys) (rw:=true) (by simp) (by omega));simp [N6,kK,hy,List.take_of_length_le (Nat.le_of_eq hy)]
 refine ⟨(h++[some (Row.mk ys true)]).set id none++[some (Row.mk (cs++ys) true)],?_,?_,((hlow.new _).set hb none).new _,by have:=hlow.2.1;omega,by simp [hl,hy,Nat.add_mul]⟩
 ·simp only [W7,h2,h1,Option.bind_some,hy,Nat.div_self hsz];rw [if_pos ⟨trivial,trivial,hl.symm,trivial,hn⟩];simp
 ·have:=V6 (h:=(h++[some (Row.mk ys true)]).set id none) (r:=Row.mk (cs++ys) true);rw [List.length_set] at this;simpa using this
def ldN (r:Option Row) (off n:Nat):Option Val:=r.bind fun r=>if off+n<=r.cells.length/\(r.rw||noX ((r.cells.drop off).take n))=true then some (.a ((r.cells.drop off).take n)) else none
def ld1 (r:Option Row) (off:Nat):Option Val:=r.bind fun r=>(r.cells[off]?).bind fun c=>bif r.rw || !c.isX then some (.c c) else none
def stN (r:Option Row) (off n:Nat) (xs:List Cell):Option Row:=r.bind fun r=>if r.rw=true/\xs.length=n/\off+n<=r.cells.length then some ⟨lay r.cells off xs,true⟩ else none
def st1 (r:Option Row) (off:Nat) (x:Cell):Option Row:=r.bind fun r=>if r.rw=true/\off<r.cells.length then some ⟨r.cells.set off x,true⟩ else none
def slr (r:Option Row) (id off n sz:Nat):Option Val:=r.bind fun r=>if off+n*sz<=r.cells.length/\(r.rw=true\/Option.any (fun c=>!c.isX) r.cells[off]?=true) then some (.c (.sl id off n sz)) else none
section
variable {h:A4} {l:List (Option Row)} {k off n sz:Nat} {cs xs:List Cell} {x:Cell} {kd:IntKind}
theorem Y7:A8 (h++l) n (.c (.p (h.length+k) off))=ldN (l[k]?).join off n:=by simp [A8,ldN]
theorem K3:A8 (h++l) n (.c (.p h.length off))=ldN (l[0]?).join off n:=by simp [A8,ldN]
theorem fB:A7 (h++l) (.c (.p (h.length+k) off))=ld1 (l[k]?).join off:=by simp [A7,ld1]
theorem O4:A7 (h++l) (.c (.p h.length off))=ld1 (l[0]?).join off:=by simp [A7,ld1]
theorem Q1:B4 (h++l) n (.c (.p (h.length+k) off)) (.a xs)=mp (stN (l[k]?).join off n xs) fun r=>h++l.set k (some r):=by
 simp only [B4,stN,cG];cases (l[k]?).join with
 | none=>rfl
 | some r=>simp only [Option.bind_some];split<;>simp [mp]
theorem H7:B4 (h++l) n (.c (.p h.length off)) (.a xs)=mp (stN (l[0]?).join off n xs) fun r=>h++l.set 0 (some r):=Q1 (k:=0)
theorem A5S:D3 (h++l) (.c (.p (h.length+k) off)) (.c x)=mp (st1 (l[k]?).join off x) fun r=>h++l.set k (some r):=by
 simp only [D3,st1,cG];cases (l[k]?).join with
 | none=>rfl
 | some r=>simp only [Option.bind_some];split<;>simp [mp]
theorem A8A:D3 (h++l) (.c (.p h.length off)) (.c x)=mp (st1 (l[0]?).join off x) fun r=>h++l.set 0 (some r):=A5S (k:=0)
theorem C8t:B8u (h++l) n sz (.c (.p (h.length+k) off)) none none=slr (l[k]?).join (h.length+k) off n sz:=by
 simp [B8u,slr,bound]
theorem D0N:B8u (h++l) n sz (.c (.p h.length off)) none none=slr (l[0]?).join h.length off n sz:=C8t (k:=0)
theorem gG (hl:cs.length=n):ldN (some ⟨cs,true⟩) 0 n=some (.a cs):=by
 subst hl;simp [ldN]
theorem A6f:ld1 (some ⟨cs,true⟩) off=(cs[off]?).map .c:=by
 simp only [ld1,Option.bind_some,Bool.true_or,cond_true];cases cs[off]?<;>rfl
theorem kM (hl:cs.length=n) (hx:xs.length=n):stN (some ⟨cs,true⟩) 0 n xs=some ⟨xs,true⟩:=by
 simp only [stN,Option.bind_some];rw [if_pos ⟨trivial,hx,by omega⟩,lay_all (by omega)]
theorem C83 (ho:off<cs.length):st1 (some ⟨cs,true⟩) off x=some ⟨cs.set off x,true⟩:=by
 simp only [st1,Option.bind_some];rw [if_pos ⟨trivial,ho⟩]
theorem D3N (hl:cs.length=n) {id:Nat}:slr (some ⟨cs,true⟩) id 0 n 1=some (.c (.sl id 0 n 1)):=by
 simp only [slr,Option.bind_some];rw [if_pos ⟨by show 0+n*1<=cs.length;omega,.inl trivial⟩]
end
section
variable {k:IntKind} {a b:Int}
theorem B3M {k':IntKind} (hb:0<=b):B5 .shl (.c (.i k a)) (.c (.i k' b))=some (.c (.i k (k.wrap (a*2 ^ (Nat.min b.toNat k.bits))))):=by
 simp only [B5,D4Q];rw [if_neg (by omega)];rfl
theorem B9N {k':IntKind} (hb:0<=b):B5 .shr (.c (.i k a)) (.c (.i k' b))=some (.c (.i k (a/(2 ^ (Nat.min b.toNat k.bits))))):=by
 simp only [B5,D4R];rw [if_neg (by omega),Int.fdiv_eq_ediv_of_nonneg _ (Int.pow_nonneg (by omega))];rfl
end
theorem D43 {a b:Nat} (ha:a<18446744073709551616) (hb:b<18446744073709551616):B5 .or (.c (.i .u64 a)) (.c (.i .u64 b))=some (.c (.i .u64 ((a ||| b:Nat):Int))):=by
 rw [C31]
 congr 3
 have h1:(IntKind.u64).bits=64:=rfl;have h2:(a ||| b)<2 ^ 64:=Nat.or_lt_two_pow (by simpa using ha) (by simpa using hb);rw [h1];simp only [BitVec.ofInt_natCast,BitVec.toNat_or,BitVec.toNat_ofNat];rw [Nat.mod_eq_of_lt (by simpa using ha),Nat.mod_eq_of_lt (by simpa using hb)];exact wrap_u64 (by omega) (by omega)
theorem D41 {a b:Nat} (ha:a<9223372036854775808) (hb:b<9223372036854775808):B5 .or (.c (.i .i64 a)) (.c (.i .i64 b))=some (.c (.i .i64 ((a ||| b:Nat):Int))):=by
 rw [C31]
 congr 3
 have h1:(IntKind.i64).bits=64:=rfl;have h2:(a ||| b)<2 ^ 63:=Nat.or_lt_two_pow (by simpa using ha) (by simpa using hb);rw [h1];simp only [BitVec.ofInt_natCast,BitVec.toNat_or,BitVec.toNat_ofNat];rw [Nat.mod_eq_of_lt (by omega),Nat.mod_eq_of_lt (by omega)];exact wrap_i64 (by omega) (by omega)
theorem D3T {a b:Nat} (ha:a<4294967296) (hb:b<4294967296):B5 .xor (.c (.i .u32 a)) (.c (.i .u32 b))=some (.c (.i .u32 ((a ^^^ b:Nat):Int))):=by
 rw [D0z]
 congr 3
 have h1:(IntKind.u32).bits=32:=rfl;have h2:(a ^^^ b)<2 ^ 32:=Nat.xor_lt_two_pow (by simpa using ha) (by simpa using hb);rw [h1];simp only [BitVec.ofInt_natCast,BitVec.toNat_xor,BitVec.toNat_ofNat];rw [Nat.mod_eq_of_lt (by omega),Nat.mod_eq_of_lt (by omega)];exact wrap_u32 (by omega) (by omega)
theorem D2N {a b:Nat} (ha:a<4294967296) (hb:b<4294967296):B5 .and (.c (.i .u32 a)) (.c (.i .u32 b))=some (.c (.i .u32 ((a &&& b:Nat):Int))):=by
 rw [C5p]
 congr 3
 have h1:(IntKind.u32).bits=32:=rfl;have h2:(a &&& b)<=a:=Nat.and_le_left;rw [h1];simp only [BitVec.ofInt_natCast,BitVec.toNat_and,BitVec.toNat_ofNat];rw [Nat.mod_eq_of_lt (by omega),Nat.mod_eq_of_lt (by omega)];exact wrap_u32 (by omega) (by omega)
theorem B7R {a:Int}:IntKind.wrap .u8 a=a%256:=by
 simp only [IntKind.wrap,IntKind.bits,IntKind.signed,Bool.false_and];rfl
theorem D4Z {a b i:Nat} (ha:a<2 ^ i):(a ||| b*2 ^ i)=a+b*2 ^ i:=by
 rw [Nat.mul_comm b,Nat.or_comm,<-Nat.two_pow_add_eq_or_of_lt ha];omega
theorem A38 {a b:Nat} (h:a+b<9223372036854775808):IntKind.wrap .i64 ((a:Int)+b)=((a+b:Nat):Int):=by rw [wrap_i64 (by omega) (by omega)];omega
theorem E8 {a:Nat} (h:a+1<9223372036854775808):IntKind.wrap .i64 ((a:Int)+1)=((a+1:Nat):Int):=by rw [wrap_i64 (by omega) (by omega)];omega
theorem C6V {k:IntKind} {x:UInt8} {i:Nat} (hi:i<8) (hk:IntKind.wrap k ((x.toNat*256 ^ i:Nat):Int)=((x.toNat*256 ^ i:Nat):Int)) (hb:k.bits=64) :
  B5 .shl (.c (.i k x.toNat)) (.c (.i .u64 (8*(i:Int))))=some (.c (.i k ((x.toNat*256 ^ i:Nat):Int))):=by
 rw [B3M (by omega),hb];have:Nat.min (8*(i:Int)).toNat 64=8*i:=by
  have:(8*(i:Int)).toNat=8*i:=by omega
  rw [this];exact Nat.min_eq_left (by omega)
 rw [this];have hp:(256:Nat) ^ i=2 ^ (8*i):=by rw [Nat.pow_mul]
 have e:(x.toNat:Int)*2 ^ (8*i)=((x.toNat*256 ^ i:Nat):Int):=by rw [hp];simp
 rw [e,hk]
theorem A9Y {i n:Nat} (h:i<=n):256 ^ i<=256 ^ n:=Nat.pow_le_pow_right (by omega) h
theorem B7f {x:UInt8} {i n:Nat} (h:i<n):x.toNat*256 ^ i<256 ^ n:=by
 have h1:=x.toNat_lt;have h2:x.toNat*256 ^ i<=255*256 ^ i:=Nat.mul_le_mul_right _ (by omega);have h3:256 ^ (i+1)<=256 ^ n:=A9Y h;have h4:0<256 ^ i:=Nat.pow_pos (by omega);rw [Nat.pow_succ] at h3;omega
def byI (v:Int) (i:Nat):UInt8:=UInt8.ofNat ((v/256 ^ i)%256).toNat
theorem C34 (v:Int) (i:Nat):((byI v i).toNat:Int)=v/256 ^ i%256:=by
 have h1:0<=v/256 ^ i%256:=Int.emod_nonneg _ (by omega);have h2:v/256 ^ i%256<256:=Int.emod_lt_of_pos _ (by omega);unfold byI;rw [UInt8.toNat_ofNat'];omega
def D9 (w:Nat) (v:Int):List UInt8:=(List.range w).map (byI v)
@[simp] theorem X8 {w:Nat} {v:Int}:(D9 w v).length=w:=by simp [D9]
theorem B7h {w:Nat} {v:Int}:D9 (w+1) v=D9 w v++[byI v w]:=by simp [D9,List.range_succ]
def le:List UInt8->Nat
 | []=>0
 | x::r=>x.toNat+256*le r
theorem C6l:∀ l:List UInt8,le l<256 ^ l.length
 | []=>by simp [le]
 | x::r=>by
  have h1:=C6l r;have h2:=x.toNat_lt;simp only [le,List.length_cons,Nat.pow_succ];omega
theorem C9I (l m:List UInt8):le (l++m)=le l+256 ^ l.length*le m:=by
 induction l with
 | nil=>simp [le]
 | cons x r ih =>
  simp only [List.cons_append,le,ih,List.length_cons,Nat.pow_succ,Nat.mul_add];rw [Nat.mul_comm (256 ^ r.length) 256,Nat.mul_assoc];omega
theorem D3k (l:List UInt8) (x:UInt8):le (l++[x])=le l+x.toNat*256 ^ l.length:=by
 rw [C9I];simp [le,Nat.mul_comm]
theorem C8R {l:List UInt8} {x:UInt8}:(le l ||| x.toNat*256 ^ l.length)=le (l++[x]):=by
 have hp:(256:Nat) ^ l.length=2 ^ (8*l.length):=by rw [Nat.pow_mul]
 rw [D3k,hp,D4Z (by rw [<-hp];exact C6l l)]
theorem C25 {v:Int} {i:Nat} (hi:i<8):IntKind.wrap .u8 (v/2 ^ (Nat.min (8*(i:Int)).toNat 64))=((byI v i).toNat:Int):=by
 have:Nat.min (8*(i:Int)).toNat 64=8*i:=by
  have:(8*(i:Int)).toNat=8*i:=by omega
  rw [this];exact Nat.min_eq_left (by omega)
 rw [this,B7R,C34]
 congr 2
 rw [Int.pow_mul];rfl
theorem A37 {α:Type} {l:List α} {a i:Nat} (h:a+i<l.length):(l.drop a).take (i+1)=(l.drop a).take i++[l[a+i]]:=by
 have h2:i<(l.drop a).length:=by simp;omega
 rw [List.take_succ_eq_append_getElem h2];simp
def I1 (l:List UInt8) (a:Nat) (xs:List UInt8):List UInt8:=l.take a++(xs++l.drop (a+xs.length))
theorem L8 {l xs:List UInt8} {a:Nat} (h:a+xs.length<=l.length):(I1 l a xs).length=l.length:=by
 simp [I1];omega
theorem B4w {l:List UInt8} {a:Nat}:I1 l a []=l:=by simp [I1]
theorem A9U {l xs:List UInt8} {a:Nat} {x:UInt8} (h:a+xs.length<l.length):(I1 l a xs).set (a+xs.length) x=I1 l a (xs++[x]):=by
 unfold I1;have h1:(l.take a).length=a:=by simp;omega
 rw [List.set_append_right _ _ (by rw [h1];omega),h1,Nat.add_sub_cancel_left,List.set_append_right _ _ (Nat.le_refl _),Nat.sub_self,List.append_assoc]
 congr 2
 rw [List.drop_eq_getElem_cons (by omega)];simp [Nat.add_assoc]
theorem B4c {s:List UInt8} {i:Nat} (hi:i<s.length) {k:IntKind}:B0Y (.c (.s s)) (.c (.i k i))=some (.c (.i .u8 s[i].toNat)):=by
 rw [D2J,List.getElem?_eq_getElem hi];rfl
theorem C8z (l:List UInt8):(A5 l).map Cell.sh=(List.replicate l.length (Sh.i .u8)).map some:=by
 induction l with
 | nil=>rfl
 | cons x l ih=>simp only [A5,List.map_cons,List.length_cons,List.replicate_succ] at ih ⊢;rw [ih];rfl
theorem B8Q (l:List Int):(encI l).map Cell.sh=(List.replicate l.length (Sh.i .i64)).map some:=by
 induction l with
 | nil=>rfl
 | cons x l ih=>simp only [encI,List.map_cons,List.length_cons,List.replicate_succ] at ih ⊢;rw [ih];rfl
theorem B9Q {l m:List UInt8} {n:Nat} (hl:l.length=n) (hm:m.length=n):aeq true (List.replicate n (.i .u8)) (.a (A5 l)) (.a (A5 m))=some (.c (.b (!decide (l=m)))):=by
 simp only [aeq];rw [if_pos ⟨by rw [C8z,hl],by rw [C8z,hm]⟩];simp [D1h]
theorem D0A {l m:List Int} {n:Nat} (hl:l.length=n) (hm:m.length=n):aeq true (List.replicate n (.i .i64)) (.a (encI l)) (.a (encI m))=some (.c (.b (!decide (l=m)))):=by
 simp only [aeq];rw [if_pos ⟨by rw [B8Q,hl],by rw [B8Q,hm]⟩];simp [C5W]
theorem C7a {l m:List Int} {n:Nat} (hl:l.length=n) (hm:m.length=n):aeq false (List.replicate n (.i .i64)) (.a (encI l)) (.a (encI m))=some (.c (.b (decide (l=m)))):=by
 simp only [aeq];rw [if_pos ⟨by rw [B8Q,hl],by rw [B8Q,hm]⟩];simp [C5W]
theorem D5c {h:A4} {l:List (Option Row)} {k n a b:Nat} {cs:List Cell} (hk:(l[k]?).join=some ⟨cs,true⟩) (hl:cs.length=n) (hab:a<=b) (hb:b<=n) :
  B8u (h++l) n 1 (.c (.p (h.length+k) 0)) (some (.c (.i .i64 (a:Int)))) (some (.c (.i .i64 (b:Int))))=some (.c (.sl (h.length+k) a (b-a) 1)):=by
 simp only [B8u,cG,hk,Option.bind_some,bound];rw [if_pos (by omega),if_pos (by omega)];simp only [Option.bind_some,Int.toNat_natCast];rw [if_pos ⟨hab,hb,by omega,rfl⟩];simp
theorem Has.part {h:A4} {id sz off n:Nat} {cs xs:List Cell} {rw:Bool} (hr:rd h id=some ⟨cs,rw⟩) (ho:off+n*sz<=cs.length) (he:(cs.drop off).take (n*sz)=xs) (hx:noX xs=true):Has h (.c (.sl id off n sz)) sz n xs :=
 .inr ⟨id,off,_,rfl,hr,by rw [<-he];simp;omega,ho,he,hx⟩
def C3r:Option Row->Bool
 | some r=>r.own
 | none=>true
theorem C0X {cs:List Cell}:C3r (some ⟨cs,true⟩)=true:=rfl
theorem C9R {es:P6}:C3r (some (J3 es))=true:=Row.own_mrow es
theorem C3A {g l l':A4} {v:Val} (hp:l <+: l') (hn:(l'.drop l.length).all C3r=true):quiet (g++l) (some (v,g++l'))=some (v,g++l'):=by
 obtain ⟨t,rfl⟩:=hp;rw [List.drop_left] at hn;refine jF ⟨⟨t,by rw [List.append_assoc]⟩,fun id x hid hx=>?_⟩;have hx:=rd_some.1 hx;rw [<-List.append_assoc,List.getElem?_append_right hid] at hx;exact List.all_eq_true.1 hn _ (List.mem_of_getElem? hx)
theorem D0C {id o off:Nat}:A9 (.c (.p id o)) off=some (.c (.p id (o+off))):=Eq.trans rfl rfl
theorem C8U {a b:Int} {k:IntKind} (ha:0<=a) (hb:0<b):B5 .rem (.c (.i k a)) (.c (.i k b))=some (.c (.i k (a%b))):=by
 rw [D0x (by omega),Int.tmod_eq_emod_of_nonneg ha]
theorem A9Z {a b:Int} (ha:0<=a) (ha2:a<9223372036854775808) (hb:0<b):B5 .quo (.c (.i .i64 a)) (.c (.i .i64 b))=some (.c (.i .i64 (a/b))):=by
 have h1:0<=a/b:=Int.ediv_nonneg ha (by omega);have h2:a/b<=a:=Int.ediv_le_self _ ha;rw [D0w (by omega),Int.tdiv_eq_ediv_of_nonneg ha,wrap_i64 (by omega) (by omega)]
theorem A8z {h:A4} {id jd n m sz:Nat} {cs ys:List Cell} {rw:Bool} (hr:rd h id=some ⟨cs,true⟩) (hl:cs.length=n*sz) (hy:rd h jd=some ⟨ys,rw⟩) (hyl:ys.length=m*sz) (hx:(rw||noX ys)=true) (hsz:0<sz) (hn:n+m<=1073741824) :
  W7 h sz (.c (.sl id 0 n sz)) (.c (.sl jd 0 m sz))=some (.c (.sl h.length 0 (n+m) sz),h.set id none++[some ⟨cs++ys,true⟩]):=by
 have h2:N6 h sz (.c (.sl jd 0 m sz))=some ys:=by
  simp only [N6,if_true,kK,hy,Option.bind_some,List.drop_zero,Nat.zero_add];rw [<-hyl,List.take_length,if_pos ⟨Nat.le_refl _,hx⟩]
 have hd:ys.length/sz=m:=by rw [hyl];exact Nat.mul_div_cancel m hsz
 simp only [W7,h2,hr,Option.bind_some,hd];rw [if_pos ⟨trivial,trivial,hl.symm,trivial,hn⟩]
end Go.Esc
end
namespace Go.Esc
def esc:=And.intro @D0C (And.intro @List.append_nil.{0} (And.intro @if_true.{1} (And.intro @if_false.{1} (And.intro @V9 (And.intro @D3p (And.intro @C8w (And.intro @C5Q (And.intro @D5C (And.intro @D5E (And.intro @D5D (And.intro @D5B (And.intro @D5A (And.intro @D2K (And.intro @A9Q (And.intro @D2L (And.intro @A1h (And.intro @D0y (And.intro @D0v (And.intro @A1i (And.intro @C5q (And.intro @A4z (And.intro @D0u (And.intro @D0t (And.intro @D0s (And.intro @C9a (And.intro @C9c (And.intro @C9b (And.intro @D2Y (And.intro @D2X (And.intro @D0E (And.intro @D2G (And.intro @D4d (And.intro @D2H (And.intro @D4e (And.intro @D2O (And.intro @D4c (And.intro @D4b (And.intro @D2F (And.intro @D2Q (And.intro @cond_true.{1} (And.intro @cond_false.{1} (And.intro @decide_true (And.intro @decide_false (And.intro @Bool.not_true (And.intro @Bool.not_false (And.intro @D0B (And.intro @C6A (And.intro @C6z (And.intro @D3t (And.intro @C8T (And.intro @C5D (And.intro @A8H (And.intro @D5h (And.intro @D5i (And.intro @Option.map_some.{0,0} (And.intro @Option.some.injEq.{0} (And.intro @List.getElem?_cons_zero.{0} (And.intro @List.getElem?_cons_succ.{0} (And.intro @not_true_eq_false (And.intro @not_false_eq_true (And.intro @C72 (And.intro @X8 (And.intro @Option.join_some.{0} (And.intro @List.append_assoc.{0} (And.intro @List.cons_append.{0} (And.intro @List.nil_append.{0} (And.intro @List.length_append.{0} (And.intro @List.length_cons.{0} (And.intro @List.length_nil.{0} (And.intro @Nat.zero_add (And.intro @Nat.add_zero (And.intro @cG (And.intro @H5 (And.intro @A34 (And.intro @kJ (And.intro @List.set_cons_zero.{0} (And.intro @List.set_cons_succ.{0} (And.intro @ne_eq.{1} (And.intro @decide_not (And.intro @C3A (And.intro @C0X (And.intro @List.cons_prefix_cons.{0} (And.intro @List.nil_prefix.{0} (And.intro @List.drop_succ_cons.{0} (And.intro @List.drop_zero.{0} (And.intro @List.all_cons.{0} (And.intro @List.all_nil.{0} (And.intro @Bool.and_true (And.intro @true_and (@and_true))))))))))))))))))))))))))))))))))))))))))))))))))))))))))))))))))))))))))))))))))))))))))
def esh:=And.intro @Y7 (And.intro @K3 (And.intro @fB (And.intro @O4 (And.intro @Q1 (And.intro @H7 (And.intro @A5S (And.intro @A8A (And.intro @C8t (And.intro @D0N (And.intro @gG (And.intro @A6f (And.intro @kM (And.intro @C83 (@D3N))))))))))))))
end Go.Esc
section
namespace Go.Proofs.YteckncopbicmcaaGreat
open Go Go.Esc
abbrev Dev:=List (List UInt8)
def D7 (D:Dev):List Cell:=(D.map A5).flatten
def okD (D:Dev):Prop:=∀ b∈D,b.length=256
theorem okD.cons {b:List UInt8} {D:Dev} (h:okD (b::D)):b.length=256/\okD D:=⟨h b (List.mem_cons_self ..),fun x hx=>h x (List.mem_cons_of_mem _ hx)⟩
theorem okD.at {D:Dev} (h:okD D) {i:Nat} (hi:i<D.length):D[i].length=256:=h _ (List.getElem_mem hi)
theorem okD.take {D:Dev} (h:okD D) (i:Nat):okD (D.take i):=fun b hb=>h b (List.mem_of_mem_take hb)
theorem bF {b:List UInt8} {D:Dev}:D7 (b::D)=A5 b++D7 D:=rfl
theorem C11 {D E:Dev}:D7 (D++E)=D7 D++D7 E:=by simp [D7]
theorem F7:∀ {D:Dev},okD D->(D7 D).length=D.length*256
 | [],_=>rfl
 | b::D,h=>by
  rw [bF,List.length_append,A6,h.cons.1,F7 h.cons.2,List.length_cons];omega
theorem cD:∀ (D:Dev),noX (D7 D)=true
 | []=>rfl
 | b::D=>by
  rw [bF];have h1:=T4 b;have h2:=cD D;simp only [noX,List.all_append,Bool.and_eq_true] at h1 h2 ⊢;exact ⟨h1,h2⟩
theorem eD:∀ {D:Dev},I9 (D7 D)=true
 | []=>rfl
 | b::D=>by rw [bF,rQ,eD,C0p];rfl
theorem fC:∀ {D:Dev} {i:Nat} (h:okD D) (hi:i<D.length),((D7 D).drop (i*256)).take 256=A5 D[i]
 | b::D,0,h,hi=>by
  have hb:(A5 b).length=256:=by rw [A6,h.cons.1]
  rw [bF,Nat.zero_mul,List.drop_zero,<-hb,List.take_left']
  ·rfl
  ·rfl
 | b::D,i+1,h,hi=>by
  have hb:(A5 b).length=256:=by rw [A6,h.cons.1]
  have e:(i+1)*256=256+i*256:=by omega
  rw [bF,e,<-List.drop_drop,<-hb,List.drop_left',hb]
  ·exact fC h.cons.2 (by simpa using hi)
  ·rfl
theorem C8I:∀ {D:Dev} {i:Nat} {b:List UInt8} (h:okD D) (hb:b.length=256) (hi:i<D.length),lay (D7 D) (i*256) (A5 b)=D7 (D.set i b)
 | c::D,0,b,h,hb,hi=>by
  have e:(A5 c).length=256+0:=by rw [A6,h.cons.1]
  unfold lay;rw [bF,List.set_cons_zero,bF,Nat.zero_mul,A6,hb,Nat.zero_add,List.take_zero,List.drop_left' (by rw [A6,h.cons.1])];rfl
 | c::D,i+1,b,h,hb,hi=>by
  have ih:=C8I (i:=i) h.cons.2 hb (by simpa using hi);have hc:(A5 c).length=256:=by rw [A6,h.cons.1]
  unfold lay at ih ⊢;rw [bF,List.set_cons_succ,bF,show (i+1)*256=256+i*256 by omega,List.take_append,List.drop_append,List.take_of_length_le (by omega),List.drop_of_length_le (by omega),hc,show 256+i*256-256=i*256 by omega,show 256+i*256+(A5 b).length-256=i*256+(A5 b).length by omega,<-ih];simp only [List.append_assoc,List.nil_append]
theorem C6N (n:Nat):rows (List.replicate 256 (Cell.i .u8 0)) n=D7 (List.replicate n (zeros 256)):=by
 rw [F5];unfold rows D7;rw [List.map_replicate]
theorem B6D (n:Nat):okD (List.replicate n (zeros 256)):=fun b hb=>by rw [List.eq_of_mem_replicate hb];exact zeros_length
theorem okD.set {D:Dev} (h:okD D) {i:Nat} {b:List UInt8} (hb:b.length=256):okD (D.set i b):=fun x hx=>by
 rcases List.mem_or_eq_of_mem_set hx with hx | rfl
 ·exact h x hx
 ·exact hb
theorem A0N {h:A4} {id i:Nat} {D:Dev} {b:List UInt8} (hr:rd h id=some ⟨D7 D,true⟩) (hD:okD D) (hb:b.length=256) (hi:i<D.length) :
  B4 h 256 (.c (.p id (i*256))) (.a (A5 b))=some (h.set id (some ⟨D7 (D.set i b),true⟩)):=by
 rw [B6I hr (by rw [A6,hb]) (by rw [F7 hD];omega),C8I hD hb hi]
def blk (D:Dev) (i:Int):List UInt8:=if 0<=i then D.getD i.toNat (zeros 256) else zeros 256
theorem V4 {D:Dev} (h:okD D) {i:Int}:(blk D i).length=256:=by
 unfold blk;split
 ·rw [List.getD_eq_getElem?_getD];rcases Nat.lt_or_ge i.toNat D.length with hl | hl
  ·rw [List.getElem?_eq_getElem hl];exact h.at hl
  ·rw [List.getElem?_eq_none hl];exact zeros_length
 ·exact zeros_length
theorem C7l {D:Dev} {i:Nat} (hi:i<D.length):blk D (i:Int)=D[i]:=by
 unfold blk;rw [if_pos (by omega),Int.toNat_natCast,List.getD_eq_getElem?_getD,List.getElem?_eq_getElem hi];rfl
theorem D0S {D:Dev} {i:Int} (hi:i<0\/(D.length:Int)<=i):blk D i=zeros 256:=by
 unfold blk;split
 ·rw [List.getD_eq_getElem?_getD,List.getElem?_eq_none (by omega)];rfl
 ·rfl
end Go.Proofs.YteckncopbicmcaaGreat
end
namespace Go.Esc
open Go
section
def D2D (P:Program) (f:FuncId) (args:List Val) (h:A4) (h':A4):Prop :=
 ∀ (Γ:Ctx) (μ:Mu) (w:World) (V:List Value) (u:FrameMode),Inv Γ μ h w->All2 (RV μ) args V ->
  CallsD P f V.toArray u w fun e u' w'=>u'=u/\∃ V' μ',e=.returned V' /\ μ.le μ'/\Inv Γ μ' h' w'/\∀ id,id<h.length -> μ' id = μ id
def D0r (P:Program) (f:FuncId) (S:Fun):Prop:=∀ args h v h2,S args h=some (v,h2)->gK P f/\D2D P f args h h2/\h.length<=h2.length
theorem C8K {P:Program} {E:E2} (hE:eV P E) {f:FuncId} {fn:Func} {af:AFn} (hf:P.funcs[f]?=some fn) (hc:C29 P fn af=true):D0r P f (Lim af E):=by
 intro args h v h2 he;obtain ⟨n,hn⟩:=C8j he;obtain ⟨h1,h3,c,hb,hw⟩:=D3V hE hf hc hn;exact ⟨h1,fun Γ μ w V u hi hargs=>(callsD_of_wp hf hb (hw Γ μ w V hi hargs)).mono fun e u' w' ⟨hu,V',μ',he,h4,_,h5,h6⟩=>⟨hu,V',μ',he,h4,h5,h6⟩,h3⟩
structure DFn where
 pre:List (List Nat × ACode)
 keep:List Nat
 tm:Nat
 fn:Nat
 caps:List Opd
 body:ACode
 res:List ARes
def B3R (G:Fun) (c:Val) (h:A4):Option (Val × A4):=match c with
 | .c (.f _ caps)=>G (B8N caps) h
 | _=>none
def DFn.fin (f:DFn) (G:Fun) (c:Val):A93 (Val × A4):=fun x e h =>
 match x with
 | .exit _=>none
 | _=>(B3R G c h).bind fun p=>jX f.res e p.2
def DFn.out (f:DFn) (k:Env->A4->Option (Val × A4)):A93 (Val × A4):=fun x e h =>
 match x with
 | .normal=>k e h
 | .ret=>jX f.res e h
 | .exit _=>none
noncomputable def DFn.go (f:DFn) (E:E2) (G:Fun) (n:Nat) (l:List (List Nat × ACode)):Env->A4->Option (Val × A4) :=
 List.rec (motive:=fun _=>Env->A4->Option (Val × A4))
  (fun e h=>(A5Q f.fn (f.caps.map e.ev)).bind fun c=>ax E n f.body (f.fin G c) ((e.put (some f.tm) c).keep f.keep) h)
  (fun q _ ih e h=>ax E n q.2 (f.out fun e h=>ih (e.keep q.1) h) e h) l
theorem DFn.go_nil (f:DFn) (E:E2) (G:Fun) (n:Nat) (e:Env) (h:A4):f.go E G n [] e h=(A5Q f.fn (f.caps.map e.ev)).bind fun c=>ax E n f.body (f.fin G c) ((e.put (some f.tm) c).keep f.keep) h:=rfl
theorem DFn.go_cons (f:DFn) (E:E2) (G:Fun) (n:Nat) (q:List Nat × ACode) (l:List (List Nat × ACode)) (e:Env) (h:A4):f.go E G n (q::l) e h=ax E n q.2 (f.out fun e h=>f.go E G n l (e.keep q.1) h) e h:=rfl
noncomputable def DFn.run (f:DFn) (E:E2) (G:Fun) (n:Nat) (args:List Val) (h:A4):Option (Val × A4):=f.go E G n f.pre (params 0 args) h
def C5F (P:Program) (N:Nat) (f:DFn):Code->Bool
 | .region _ ops false=>(match ops.toList with
  | [o1,o2]=>X0 P N ops o1 (aO f.tm (.mkf f.fn f.caps))&&decide (o2.dst=none)&&decide (o2.guard=none)&&(match o2.op with
   | .defer c=>(match c.callee with | .value (.tmp t)=>decide (t=f.tm)&&c.args.isEmpty | _=>false)
   | _=>false)
  | _=>false)
 | _=>false
def A8K (P:Program) (N:Nat) (f:DFn):List (List Nat × ACode)->Code->Bool
 | [],c=>(match c with | .seq d y=>C5F P N f d&&U3 P N y f.body | _=>false)
 | q::l,c=>(match c with | .seq x y=>U3 P N x q.2&&A8K P N f l y | _=>false)
def D0W (P:Program) (fn:Func) (f:DFn):Bool :=
 (match fn.body with | some c => A8K P fn.ntmps f f.pre c | none => false) && Z1 P fn.results.toList f.res && !(fn.name == "runtime.NumGoroutine")
section
variable {P:Program}
theorem B3O {rs:List ARes} {e:Env} {h h':A4} {v:Val} (hk:jX rs e h=some (v,h')):h'=h:=by
 unfold jX at hk;split at hk<;>simp at hk<;>obtain ⟨_,_,_,rfl⟩:=hk<;>rfl
theorem C5S {E:E2} (hE:eV P E) {G:Fun} {f:DFn} (hG:D0r P f.fn G) {fn:Func} (hr:Z1 P fn.results.toList f.res=true) {L:Nat} (n:Nat) {v:Val} {h':A4}:∀ (l:List (List Nat × ACode)) (c:Code) (e:Env) (h:A4),
  A8K P fn.ntmps f l c=true->f.go E G n l e h=some (v,h')->L<=h.length ->
  L<=h'.length/\∀ (Γ:Ctx) (μ:Mu) (a:Act) (w:World),Γ.ds=[]->SEnv μ e a->Inv Γ μ h w->fn.ntmps<=a.tmps.size->a.defers=[]->∀ R:Ending->World->Prop,
   (∀ V' μ' w',μ.le μ'->RV μ' v V'->Inv Γ μ' h' w'->(∀ id,id<L -> μ' id = μ id)->R (.returned V') w')->c.wp P (bodyPostD P fn R) a w
 | [],c,e,h,hc,C6,hL=>by
  unfold A8K at hc;split at hc
  ·rename_i d y;rw [Bool.and_eq_true] at hc;obtain ⟨hd,hy⟩:=hc;rw [DFn.go_nil] at C6;simp only [Option.bind_eq_some_iff] at C6;obtain ⟨cv,hcv,C6⟩:=C6;have D4w:=hcv;unfold A5Q at D4w;rw [Option.map_eq_some_iff] at D4w;obtain ⟨caps,D68,rfl⟩:=D4w;rw [B3P] at C6;obtain ⟨x,e2,h2,hk,hL2,xI⟩:=C7b (L:=L) hE n f.body y _ _ h (v,h') hy C6 hL;have D6z:(x=.normal\/x=.ret)/\∃ p:Val × A4,G (B8N caps) h2=some p/\jX f.res e2 p.2=some (v,h'):=by
    unfold DFn.fin at hk;cases x with
    | normal=>exact ⟨.inl rfl,by simpa only [Option.bind_eq_some_iff,B3R] using hk⟩
    | ret=>exact ⟨.inr rfl,by simpa only [Option.bind_eq_some_iff,B3R] using hk⟩
    | exit=>cases hk
   obtain ⟨hx,⟨pv,ph⟩,hG1,D3Z⟩:=D6z;obtain ⟨D1s,hdc,hlen⟩:=hG _ _ _ _ hG1;have hh':=B3O D3Z;dsimp only at hh';subst hh';refine ⟨Nat.le_trans hL2 hlen,fun Γ μ a w hds hs hi hN had R hR=>?_⟩;unfold C5F at hd;split at hd
   ·rename_i rid ops;split at hd
    ·rename_i o1 o2 D4D;simp only [Bool.and_eq_true,decide_eq_true_eq] at hd;obtain ⟨⟨⟨hd1,hd2⟩,hd3⟩,hd4⟩:=hd;split at hd4
     ·rename_i cl hop;split at hd4
      ·rename_i t C7B;simp only [Bool.and_eq_true,decide_eq_true_eq] at hd4;obtain ⟨rfl,hargs⟩:=hd4;refine wp_seq (wp_region ?_);have hsz:ops.size=2:=by rw [<-Array.length_toList,D4D];rfl
       have g0:ops[0]?=some o1:=by rw [<-Array.getElem?_toList,D4D];rfl
       have g1:ops[1]?=some o2:=by rw [<-Array.getElem?_toList,D4D];rfl
       rw [hsz];show wpOps P ops _ [0,1] a w;rw [wpOps_cons];unfold wpOp;rw [g0];have A0s:o1.dst=some f.tm/\yK fn.ntmps o1.dst=true:=by
        simp only [X0,aO,Bool.and_eq_true,decide_eq_true_eq] at hd1;exact ⟨of_decide_eq_true hd1.1.1.1,hd1.1.1.2⟩
       have htm:f.tm<fn.ntmps:=by
        have:=A0s.2;rw [A0s.1] at this;simpa [yK] using this
       have B4a:S8 E false h 0 (aO f.tm (.mkf f.fn f.caps)) e h (fun v h=>some (v,h))=some (.c (.f f.fn caps),h):=by
        unfold S8 aO;simp only [aop,hcv,Option.bind_some]
       refine A4A (hr:=h) (n0:=0) hE hd1 B4a hs hi (fun _ _ h=>h) trivial ?_;intro V w1 μ1 gI hv hi1 aI;rw [wpOps_cons];unfold wpOp;rw [g1];have hv0:RC μ1 (.f f.fn caps) V:=hv;have hv2:=hv;obtain ⟨cs,rfl,hcs⟩:=hv2;obtain ⟨a1,ha1⟩:∃ a1,a1=a.put o1.dst (.func (.func f.fn) #[] cs.toArray):=⟨_,rfl⟩;have hs1:SEnv μ1 (e.put (some f.tm) (.c (.f f.fn caps))) a1:=by
        rw [ha1,A0s.1];exact (hs.mono gI).put (fun t ht=>by cases ht;omega) hv
       have sH:a1.eval (.tmp f.tm)=.func (.func f.fn) #[] cs.toArray:=by
        have:=hs1 f.tm;rw [Env.get_put_same] at this;obtain ⟨cs',h1,h2⟩:=this;show a1.tmps.getD f.tm undef=_;rw [ha1,A0s.1];show (a.put (some f.tm) _).tmps.getD f.tm undef=_;simp only [Act.put];rw [Array.getD_eq_getD_getElem?];simp [show f.tm<a.tmps.size by omega]
       rw [<-ha1];obtain ⟨dd,hdd⟩:∃ dd:Deferred,dd={ target:=.fn (.func f.fn) cs.toArray,args:=#[] }:=⟨_,rfl⟩;have A7y:(execOp a1.eval o2).run P w1=.ok (.defer dd) w1:=by
        have ea:cl.args = #[]:=by simpa using hargs
        rw [hdd];simp [execOp,hop,resolve,C7B,sH,Deferred.ofValue,ea]
       have hw:Region.wanted o2 (yielded ops a1.tmps)=true:=by simp [Region.wanted,hd3]
       simp only [hw,if_true]
       left
       unfold Oper.wp;rw [A7y,Oper.upon_defer];have D4G:∀ b:Act,b.put o2.dst undef=b:=fun b=>by rw [hd2];rfl
       rw [D4G];have D5I:a1.defers=[]:=by rw [ha1,put_defers];exact had
       show y.wp P (bodyPostD P fn R) { a1 with defers:=dd::a1.defers } w1;rw [D5I];refine xI { Γ with ds:=[dd] } μ1 { a1 with defers:=[dd] } w1 (SEnv.keep (fun t=>hs1 t) f.keep) (hi1.ds [dd]) (by show fn.ntmps<=a1.tmps.size;rw [ha1,Act.size_put];exact hN) rfl _ ?_;intro μ' a' w' k1 k2 k3 k4 k5 k6;have fin:Leaves P fn a'.tmps R a'.defers .returning w':=by
        rw [k6];show Leaves P fn a'.tmps R [dd] .returning w';rw [hdd];have hv3:RC μ' (.f f.fn caps) (.func (.func f.fn) #[] cs.toArray):=RC.mono k1 hv0;obtain ⟨cs2,e3,D6x⟩:=hv3;have:cs2=cs:=by
         injection e3 with _ _ e4
         have:=congrArg Array.toList e4;simpa using this.symm
        subst this;refine leaves_cons (by simp) (f:=f.fn) (args:=cs2.toArray) (by
         show (callFunc f.fn (#[]++cs2.toArray)).run P w'=_;rw [Array.empty_append];exact B3S D1s _ _) ?_
        refine (hdc Γ μ' w' cs2 .returning (k4.ds Γ.ds) (B2o D6x)).mono ?_;rintro en u' w2 ⟨rfl,V',μ2,rfl,m1,m2,m3⟩;show Leaves P fn a'.tmps R [] .returning w2;obtain ⟨V2,q1,q2,_⟩:=B2k (a:=a') (w:=w2) (fun t=>(k3.mono m1) t) m2 hr D3Z;refine ⟨V2,q1,hR V2 μ2 w2 (Mu.le_trans gI (Mu.le_trans k1 m1)) q2 m2 fun id hid=>?_⟩;rw [m3 id (by omega),k2 id hid];exact aI id (by omega) (fun j hj=>by cases hj)
       rcases hx with rfl | rfl
       ·exact fin
       ·exact fin
      ·cases hd4
     ·cases hd4
    ·cases hd
   ·cases hd
  ·cases hc
 | q::l,c,e,h,hc,C6,hL=>by
  unfold A8K at hc;split at hc
  ·rename_i x y;rw [Bool.and_eq_true] at hc;rw [DFn.go_cons,B3P] at C6;obtain ⟨x1,e1,h1,hk,hL1,xI⟩:=C7b (L:=L) hE n q.2 x _ e h (v,h') hc.1 C6 hL;cases x1 with
   | normal =>
    obtain ⟨g1,g2⟩:=C5S hE hG hr n l y (e1.keep q.1) h1 hc.2 hk hL1;refine ⟨g1,fun Γ μ a w hds hs hi hN had R hR=>wp_seq (xI Γ μ a w hs hi hN (by rw [hds];exact had) _ ?_)⟩;intro μ1 a1 w1 f1 f2 f3 f4 f5 f6;exact g2 Γ μ1 a1 w1 hds (f3.keep q.1) f4 f5 (by rw [f6,hds]) R fun V' μ' w' k2 k3 k4 k5=>hR V' μ' w' (Mu.le_trans f1 k2) k3 k4 fun id hid=>(k5 id hid).trans (f2 id hid)
   | ret =>
    have hk':jX f.res e1 h1=some (v,h'):=hk;have hh':=B3O hk';subst hh';refine ⟨hL1,fun Γ μ a w hds hs hi hN had R hR=>wp_seq (xI Γ μ a w hs hi hN (by rw [hds];exact had) _ ?_)⟩;intro μ1 a1 w1 f1 f2 f3 f4 f5 f6;obtain ⟨V',k1,k2,_⟩:=B2k f3 f4 hr hk';show Leaves P fn a1.tmps _ a1.defers .returning w1;rw [f6,hds];exact ⟨V',k1,hR V' μ1 w1 f1 k2 f4 f2⟩
   | exit id=>exact (by cases hk)
  ·cases hc
theorem D07 {E:E2} (hE:eV P E) {G:Fun} {f:DFn} (hG:D0r P f.fn G) {g:FuncId} {fn:Func} (hf:P.funcs[g]?=some fn) (hc:D0W P fn f=true) {n:Nat}:SOk P g (f.run E G n):=by
 intro args h v h' C6;simp only [D0W,Bool.and_eq_true,Bool.not_eq_true'] at hc;obtain ⟨⟨hb,hr⟩,C6b⟩:=hc;cases B7B:fn.body with
 | none=>rw [B7B] at hb;cases hb
 | some c =>
  rw [B7B] at hb;obtain ⟨h1,h2⟩:=C5S hE hG hr (L:=h.length) n f.pre c (params 0 args) h hb C6 (Nat.le_refl _);refine ⟨⟨fn,hf,C6b,by simp [B7B]⟩,fun Γ μ w V hi hargs=>?_,h1⟩;refine calls_of_wp_defers hf B7B (h2 { Γ with ds:=[] } μ _ w rfl (C5w hargs _) (hi.ds []) (by simp;omega) rfl _ ?_);intro V' μ' w' k1 k2 k3 k4;exact ⟨V',μ',rfl,k1,k2,k3.ds Γ.ds,k4⟩
end
end
end Go.Esc
namespace Go.Proofs.YteckncopbicmcaaGreat
open Go Go.Esc
set_option maxRecDepth 100000
noncomputable section
def C05:ACode:=sO [1,3,6,16,17,18,19] [aO 19 (.bin .lss (.t 18) (.t 17))] (.seq [1,3,6,16,17,18] (.cond (.t 19) .skip (.exit 0)) (.seq [1,3,6,16,17,18] (.block 1 (sO [1,3,6,7,8,16,17,18] [aM 20 18,aO 21 (.iAddrL 1 (.t 16) (.t 18)),aL 22 21,aM 7 20,aM 8 22] (.seq [1,3,6,7,8,16,17,18] (sO [1,3,6,7,8,16,17,18,26] [aM 23 7,aM 24 1,aO 25 (.bin .sub (.v (.c (.i .i64 256))) (.t 24)),aO 26 (.bin .geq (.t 23) (.t 25))] (.cond (.t 26) (.exit 0) .skip)) (.ops [aM 27 1,aM 28 7,aO 29 (.bin .add (.t 27) (.t 28)),aM 30 8,aO 31 (.iAddrA 256 1 (.t 3) (.t 29)),aN (.store1 (.t 31) (.t 30))])))) (.ops [aO 32 (.bin .add (.t 18) (.v (.c (.i .i64 1)))),aM 18 32])))
def B2J:ACode:=sO [6] [aL' 33 256 3,aN (.storeN 256 (.t 6) (.t 33))] .ret
def A39:AFn:=⟨sO [1,2,3,6] [aB 3 0,aO 6 (.alloc (List.replicate 256 (.i .u8 0)))] (.seq [1,2,3,6] (sO [1,2,3,6,14] [aM 9 1,aO 10 (.bin .lss (.t 9) (.v (.c (.i .i64 0)))),aM 11 10,gM 12 11 false 1,aG 13 11 false (.bin .geq (.t 12) (.v (.c (.i .i64 256)))),aO 14 (.pick (.t 11) (.v (.c (.b true))) (.t 13))] (.cond (.t 14) (sO [6] [aL' 15 256 3,aN (.storeN 256 (.t 6) (.t 15))] .ret) .skip)) (.seq [3,6] (sO [1,3,6,16,17,18] [aM 16 2,aO 17 (.len (.t 16)),aO 18 (.mv (.v (.c (.i .i64 0))))] (.block 0 (.loop [1,3,6,16,17,18] C05))) B2J)),[.cellN 6 256]⟩
def A0H:E2:=E6
def C7R (n:Nat):KV:=kQ A0H n B2J [3,6] A39.fin
def C7S (n:Nat):KV:=F6 0 (C7R n)
def A6q (n m:Nat) (x1 x3 x6 x16 x17 x18:Val):AtH:=ar A0H n C05 [1,3,6,16,17,18] (C7S n) m [x1,x3,x6,x16,x17,x18]
def A9O:=rx A0H A39
def A6p (n:Nat) (x3 x6:Val):AtH:=aj A0H n B2J A39.fin [3,6] [x3,x6]
theorem C3U (n:Nat) (a0 a1 a2:Val) (h:A4):A9O n [a0,a1,a2] h=bnd (cells? a0) fun c1=>bnd (B5 .lss a1 (.c (.i .i64 0))) fun v2=>bnd (gd v2 false (some (a1,((h++[some (Row.mk (c1) true)])++[some (Row.mk (List.replicate 256 (.i .u8 0)) true)]))) (some (.no,((h++[some (Row.mk (c1) true)])++[some (Row.mk (List.replicate 256 (.i .u8 0)) true)])))) fun p3=>bnd (gd v2 false (bnd (B5 .geq p3.1 (.c (.i .i64 256))) fun v4=>some (v4,p3.2)) (some (.no,p3.2))) fun p5=>bnd (F0 v2 (.c (.b true)) p5.1) fun v6=>cnd v6 (bnd (A8 p5.2 256 (.c (.p h.length 0))) fun v7=>bnd (B4 p5.2 256 (.c (.p (h++[some (Row.mk (c1) true)]).length 0)) v7) fun h8=>mp (A8 h8 256 (.c (.p (h++[some (Row.mk (c1) true)]).length 0))) fun v=>(v,h8)) (bnd (O0 a2) fun v9=>A6q n n a1 (.c (.p h.length 0)) (.c (.p (h++[some (Row.mk (c1) true)]).length 0)) a2 v9 (.c (.i .i64 0)) p5.2):=by kernel_rfl
theorem C2B (n m:Nat) (x1 x3 x6 x16 x17 x18:Val) (h:A4):A6q n (m+1) x1 x3 x6 x16 x17 x18 h=bnd (B5 .lss x18 x17) fun T6=>cnd T6 (bnd (C4 1 x16 x18) fun v11=>bnd (A7 h v11) fun v12=>bnd (B5 .sub (.c (.i .i64 256)) x1) fun v13=>bnd (B5 .geq x18 v13) fun cE=>cnd cE (A6p n x3 x6 h) (bnd (B5 .add x1 x18) fun dE=>bnd (D8 256 1 x3 dE) fun T7=>bnd (D3 h T7 v12) fun h17=>bnd (B5 .add x18 (.c (.i .i64 1))) fun dN=>A6q n m x1 x3 x6 x16 x17 dN h17)) (A6p n x3 x6 h):=by kernel_rfl
theorem C2A (n:Nat) (x3 x6:Val) (h:A4):A6p n x3 x6 h=bnd (A8 h 256 x3) fun dO=>bnd (B4 h 256 x6 dO) fun h20=>mp (A8 h20 256 x6) fun v=>(v,h20):=by kernel_rfl
theorem C2M:FnK Tryz.prog 215 A39 A0H A9O:=.mk2 C9 Tryz.func215 (by kernel_rfl)
def jW:=tl A39 A0H
theorem A5O:SOk Tryz.prog 215 jW:=C2M.sok
theorem B9H:G0 A9O jW:=C2M.flat
def B8W:AFn:=⟨sO [0,2] [aO 2 (.alloc (List.replicate 256 (.i .u8 0)))] (sO [2] [aO 3 (.build (List.replicate 256 (.i .u8 0)) []),aM 4 0,aO 5 (.call 215 [(.t 3),(.v (.c (.i .i64 0))),(.t 4)]),aN (.storeN 256 (.t 2) (.t 5))] .ret),[.cellN 2 256]⟩
def B8Y:E2:=D6 215 jW E6
def B3j:=rx B8Y B8W
theorem C5n (n:Nat) (a0:Val) (h:A4):B3j n [a0] h=bnd (C7 (List.replicate 256 (.i .u8 0)) []) fun c1=>bnd (jW [(.a c1),.c (.i .i64 0),a0] (h++[some (Row.mk (List.replicate 256 (.i .u8 0)) true)])) fun p2=>bnd (B4 p2.2 256 (.c (.p h.length 0)) p2.1) fun h3=>mp (A8 h3 256 (.c (.p h.length 0))) fun v=>(v,h3):=by kernel_rfl
theorem C5k:FnK Tryz.prog 212 B8W B8Y B3j:=.mk2 (B8 A5O C9) Tryz.func212 (by kernel_rfl)
def iG:=tl B8W B8Y
theorem A2v:SOk Tryz.prog 212 iG:=C5k.sok
theorem C1U:G0 B3j iG:=C5k.flat
def A7I:AFn:=⟨sO [0,1,2] [aO 6 (.mv (.v (.c (.b false))))] (sO [6] [aM 7 0,aO 8 (.bin .geq (.t 7) (.v (.c (.i .i64 0)))),aM 9 8,gM 10 9 true 1,aG 11 9 true (.bin .geq (.t 10) (.v (.c (.i .i64 1)))),aO 12 (.pick (.t 9) (.t 11) (.v (.c (.b false)))),aM 13 12,gM 14 13 true 1,gM 15 13 true 2,aG 16 13 true (.bin .leq (.t 14) (.t 15)),aO 17 (.pick (.t 13) (.t 16) (.v (.c (.b false)))),aM 18 17,gM 19 18 true 0,gM 20 18 true 2,gM 21 18 true 1,aG 22 18 true (.bin .sub (.t 20) (.t 21)),aG 23 18 true (.bin .leq (.t 19) (.t 22)),aO 24 (.pick (.t 18) (.t 23) (.v (.c (.b false)))),aM 6 24] .ret),[.tmp 6]⟩
def A7S:E2:=E6
def A79:=rx A7S A7I
theorem B9n (n:Nat) (a0 a1 a2:Val) (h:A4):A79 n [a0,a1,a2] h=bnd (B5 .geq a0 (.c (.i .i64 0))) fun v1=>bnd (gd v1 true (some (a1,h)) (some (.no,h))) fun p2=>bnd (gd v1 true (bnd (B5 .geq p2.1 (.c (.i .i64 1))) fun v3=>some (v3,p2.2)) (some (.no,p2.2))) fun p4=>bnd (F0 v1 p4.1 (.c (.b false))) fun v5=>bnd (gd v5 true (some (a1,p4.2)) (some (.no,p4.2))) fun p6=>bnd (gd v5 true (some (a2,p6.2)) (some (.no,p6.2))) fun p7=>bnd (gd v5 true (bnd (B5 .leq p6.1 p7.1) fun v8=>some (v8,p7.2)) (some (.no,p7.2))) fun p9=>bnd (F0 v5 p9.1 (.c (.b false))) fun T6=>bnd (gd T6 true (some (a0,p9.2)) (some (.no,p9.2))) fun p11=>bnd (gd T6 true (some (a2,p11.2)) (some (.no,p11.2))) fun p12=>bnd (gd T6 true (some (a1,p12.2)) (some (.no,p12.2))) fun p13=>bnd (gd T6 true (bnd (B5 .sub p12.1 p13.1) fun cE=>some (cE,p13.2)) (some (.no,p13.2))) fun lU=>bnd (gd T6 true (bnd (B5 .leq p11.1 lU.1) fun T7=>some (T7,lU.2)) (some (.no,lU.2))) fun xQ=>bnd (F0 T6 xQ.1 (.c (.b false))) fun dN=>some (dN,xQ.2):=by kernel_rfl
theorem B61:FnK Tryz.prog 221 A7I A7S A79:=.mk2 C9 Tryz.func221 (by kernel_rfl)
def S6:=tl A7I A7S
theorem qU:SOk Tryz.prog 221 S6:=B61.sok
theorem B5Z:G0 A79 S6:=B61.flat
def B7K:ACode:=sO [1,3,4,8,19,20,21] [aO 21 (.bin .lss (.t 20) (.t 19))] (.seq [1,3,4,8,19,20] (.cond (.t 21) .skip (.exit 0)) (.seq [1,3,4,8,19,20] (.block 1 (sO [1,3,4,8,9,19,20] [aM 22 20,aM 9 22] (.ops [aM 23 1,aM 24 9,aO 25 (.bin .add (.t 23) (.t 24)),aM 26 3,aM 27 9,aO 28 (.bin .mul (.v (.c (.i .i64 8))) (.t 27)),aO 29 (.conv .u64 (.t 28)),aO 30 (.bin .shr (.t 26) (.t 29)),aO 31 (.conv .u8 (.t 30)),aO 32 (.iAddrA 256 1 (.t 4) (.t 25)),aN (.store1 (.t 32) (.t 31))]))) (.ops [aO 33 (.bin .add (.t 20) (.v (.c (.i .i64 1)))),aM 20 33])))
def B7L:ACode:=sO [8] [aL' 34 256 4,aN (.storeN 256 (.t 8) (.t 34))] .ret
def A5l:AFn:=⟨sO [1,2,3,4,8] [aB 4 0,aO 8 (.alloc (List.replicate 256 (.i .u8 0)))] (.seq [1,2,3,4,8] (sO [1,2,3,4,8,17] [aM 10 2,aO 11 (.bin .gtr (.t 10) (.v (.c (.i .i64 4)))),aM 12 11,gM 13 12 false 1,gM 14 12 false 2,aG 15 12 false (.call 221 [(.t 13),(.t 14),(.v (.c (.i .i64 256)))]),aG 16 12 false (.un .not (.t 15)),aO 17 (.pick (.t 12) (.v (.c (.b true))) (.t 16))] (.cond (.t 17) (sO [8] [aL' 18 256 4,aN (.storeN 256 (.t 8) (.t 18))] .ret) .skip)) (.seq [4,8] (sO [1,3,4,8,19,20] [aM 19 2,aO 20 (.mv (.v (.c (.i .i64 0))))] (.block 0 (.loop [1,3,4,8,19,20] B7K))) B7L)),[.cellN 8 256]⟩
def A0X:E2:=D6 221 S6 E6
def C6x (n:Nat):KV:=kQ A0X n B7L [4,8] A5l.fin
def C6y (n:Nat):KV:=F6 0 (C6x n)
def A2X (n m:Nat) (x1 x3 x4 x8 x19 x20:Val):AtH:=ar A0X n B7K [1,3,4,8,19,20] (C6y n) m [x1,x3,x4,x8,x19,x20]
def A5F:=rx A0X A5l
theorem C1L (n:Nat) (a0 a1 a2 a3:Val) (h:A4):A5F n [a0,a1,a2,a3] h=bnd (cells? a0) fun c1=>bnd (B5 .gtr a2 (.c (.i .i64 4))) fun v2=>bnd (gd v2 false (some (a1,((h++[some (Row.mk (c1) true)])++[some (Row.mk (List.replicate 256 (.i .u8 0)) true)]))) (some (.no,((h++[some (Row.mk (c1) true)])++[some (Row.mk (List.replicate 256 (.i .u8 0)) true)])))) fun p3=>bnd (gd v2 false (some (a2,p3.2)) (some (.no,p3.2))) fun p4=>bnd (gd v2 false (bnd (S6 [p3.1,p4.1,.c (.i .i64 256)] p4.2) fun p5=>some (p5.1,p5.2)) (some (.no,p4.2))) fun p6=>bnd (gd v2 false (bnd (aun .not p6.1) fun v7=>some (v7,p6.2)) (some (.no,p6.2))) fun p8=>bnd (F0 v2 (.c (.b true)) p8.1) fun v9=>cnd v9 (bnd (A8 p8.2 256 (.c (.p h.length 0))) fun T6=>bnd (B4 p8.2 256 (.c (.p (h++[some (Row.mk (c1) true)]).length 0)) T6) fun h11=>mp (A8 h11 256 (.c (.p (h++[some (Row.mk (c1) true)]).length 0))) fun v=>(v,h11)) (A2X n n a1 a3 (.c (.p h.length 0)) (.c (.p (h++[some (Row.mk (c1) true)]).length 0)) a2 (.c (.i .i64 0)) p8.2):=by kernel_rfl
theorem A9t (n m:Nat) (x1 x3 x4 x8 x19 x20:Val) (h:A4):A2X n (m+1) x1 x3 x4 x8 x19 x20 h=bnd (B5 .lss x20 x19) fun v12=>cnd v12 (bnd (B5 .add x1 x20) fun v13=>bnd (B5 .mul (.c (.i .i64 8)) x20) fun cE=>bnd (dJ .u64 cE) fun dE=>bnd (B5 .shr x3 dE) fun T7=>bnd (dJ .u8 T7) fun W3=>bnd (D8 256 1 x4 v13) fun dN=>bnd (D3 h dN W3) fun h19=>bnd (B5 .add x20 (.c (.i .i64 1))) fun jN=>A2X n m x1 x3 x4 x8 x19 jN h19) (bnd (A8 h 256 x4) fun v21=>bnd (B4 h 256 x8 v21) fun h22=>mp (A8 h22 256 x8) fun v=>(v,h22)):=by kernel_rfl
theorem B86:FnK Tryz.prog 213 A5l A0X A5F:=.mk2 (B8 qU C9) Tryz.func213 (by kernel_rfl)
def J5:=tl A5l A0X
theorem vD:SOk Tryz.prog 213 J5:=B86.sok
theorem B8s:G0 A5F J5:=B86.flat
def C06:ACode:=sO [1,3,10,25,26,27] [aO 27 (.bin .lss (.t 26) (.t 25))] (.seq [1,3,10,25,26] (.cond (.t 27) .skip (.exit 0)) (.seq [1,3,10,25,26] (.block 1 (sO [1,3,10,11,25,26] [aM 28 26,aM 11 28] (.ops [aM 29 10,aM 30 1,aM 31 11,aO 32 (.bin .add (.t 30) (.t 31)),aM 33 3,aM 34 11,aO 35 (.bin .mul (.v (.c (.i .i64 8))) (.t 34)),aO 36 (.conv .u64 (.t 35)),aO 37 (.bin .shr (.t 33) (.t 36)),aO 38 (.conv .u8 (.t 37)),aO 39 (.iAddrL 1 (.t 29) (.t 32)),aN (.store1 (.t 39) (.t 38))]))) (.ops [aO 40 (.bin .add (.t 26) (.v (.c (.i .i64 1)))),aM 26 40])))
def C07:ACode:=sO [8,9] [aM 41 10,aM 8 41,aO 9 (.mv (.v (.c (.b true))))] .ret
def A9K:AFn:=⟨sO [0,1,2,3] [aO 8 (.nilrow 1),aO 9 (.mv (.v (.c (.b false))))] (.seq [0,1,2,3] (sO [0,1,2,3,21] [aM 12 2,aO 13 (.bin .gtr (.t 12) (.v (.c (.i .i64 8)))),aM 14 13,gM 15 14 false 1,gM 16 14 false 2,gM 17 14 false 0,aG 18 14 false (.len (.t 17)),aG 19 14 false (.call 221 [(.t 15),(.t 16),(.t 18)]),aG 20 14 false (.un .not (.t 19)),aO 21 (.pick (.t 14) (.v (.c (.b true))) (.t 20))] (.cond (.t 21) (sO [8,9] [aO 8 (.nilrow 1),aO 9 (.mv (.v (.c (.b false))))] .ret) .skip)) (sO [1,2,3,10] [aO 22 (.buildSl 1 0 ([]) []),aM 23 0,aO 24 (.app 1 (.t 22) (.t 23)),aM 10 24] (.seq [10] (sO [1,3,10,25,26] [aM 25 2,aO 26 (.mv (.v (.c (.i .i64 0))))] (.block 0 (.loop [1,3,10,25,26] C06))) C07))),[.tmp 8,.tmp 9]⟩
def A4c:E2:=D6 221 S6 E6
def C7U (n:Nat):KV:=kQ A4c n C07 [10] A9K.fin
def C7V (n:Nat):KV:=F6 0 (C7U n)
def A6r (n m:Nat) (x1 x3 x10 x25 x26:Val):AtH:=ar A4c n C06 [1,3,10,25,26] (C7V n) m [x1,x3,x10,x25,x26]
def A9P:=rx A4c A9K
theorem C3V (n:Nat) (a0 a1 a2 a3:Val) (h:A4):A9P n [a0,a1,a2,a3] h=bnd (B5 .gtr a2 (.c (.i .i64 8))) fun v1=>bnd (gd v1 false (some (a1,(h++[some (Row.mk ([]) true)]))) (some (.no,(h++[some (Row.mk ([]) true)])))) fun p2=>bnd (gd v1 false (some (a2,p2.2)) (some (.no,p2.2))) fun p3=>bnd (gd v1 false (some (a0,p3.2)) (some (.no,p3.2))) fun p4=>bnd (gd v1 false (bnd (O0 p4.1) fun v5=>some (v5,p4.2)) (some (.no,p4.2))) fun p6=>bnd (gd v1 false (bnd (S6 [p2.1,p3.1,p6.1] p6.2) fun p7=>some (p7.1,p7.2)) (some (.no,p6.2))) fun p8=>bnd (gd v1 false (bnd (aun .not p8.1) fun v9=>some (v9,p8.2)) (some (.no,p8.2))) fun p10=>bnd (F0 v1 (.c (.b true)) p10.1) fun v11=>cnd v11 (I6 [some (.c (.sl p10.2.length 0 0 1)),some (.c (.b false))] (p10.2++[some (Row.mk ([]) true)])) (bnd (C7 ([]) []) fun c12=>bnd (W7 (p10.2++[some (Row.mk (c12) true)]) 1 (.c (.sl p10.2.length 0 0 1)) a0) fun p13=>A6r n n a1 a3 p13.1 a2 (.c (.i .i64 0)) p13.2):=by kernel_rfl
theorem B1B (n m:Nat) (x1 x3 x10 x25 x26:Val) (h:A4):A6r n (m+1) x1 x3 x10 x25 x26 h=bnd (B5 .lss x26 x25) fun cE=>cnd cE (bnd (B5 .add x1 x26) fun dE=>bnd (B5 .mul (.c (.i .i64 8)) x26) fun T7=>bnd (dJ .u64 T7) fun W3=>bnd (B5 .shr x3 W3) fun dN=>bnd (dJ .u8 dN) fun dO=>bnd (C4 1 x10 dE) fun jN=>bnd (D3 h jN dO) fun h21=>bnd (B5 .add x26 (.c (.i .i64 1))) fun v22=>A6r n m x1 x3 x10 x25 v22 h21) (I6 [some x10,some (.c (.b true))] h):=by kernel_rfl
theorem C2N:FnK Tryz.prog 214 A9K A4c A9P:=.mk2 (B8 qU C9) Tryz.func214 (by kernel_rfl)
def A4y:=tl A9K A4c
theorem C3Z:SOk Tryz.prog 214 A4y:=C2N.sok
theorem B9I:C8k A9P A4y:=C2N.tidy
def C01:ACode:=sO [1,3,7,25,26,27] [aO 27 (.bin .lss (.t 26) (.t 25))] (.seq [1,3,7,25,26] (.cond (.t 27) .skip (.exit 0)) (.seq [1,3,7,25,26] (.block 1 (sO [1,3,7,8,25,26] [aM 28 26,aM 8 28] (.ops [aM 29 7,aM 30 8,aM 31 1,aM 32 8,aO 33 (.bin .add (.t 31) (.t 32)),aO 34 (.iAddrA 256 1 (.t 3) (.t 33)),aL 35 34,aO 36 (.iAddrL 1 (.t 29) (.t 30)),aN (.store1 (.t 36) (.t 35))]))) (.ops [aO 37 (.bin .add (.t 26) (.v (.c (.i .i64 1)))),aM 26 37])))
def C02:ACode:=sO [6] [aM 38 7,aM 6 38] .ret
def A9I:AFn:=⟨sO [1,2,3] [aB 3 0,aO 6 (.nilrow 1)] (.seq [1,2,3] (sO [1,2,3,18] [aM 9 1,aO 10 (.bin .lss (.t 9) (.v (.c (.i .i64 0)))),aM 11 10,gM 12 11 false 1,aG 13 11 false (.bin .geq (.t 12) (.v (.c (.i .i64 256)))),aO 14 (.pick (.t 11) (.v (.c (.b true))) (.t 13)),aM 15 14,gM 16 15 false 2,aG 17 15 false (.bin .lss (.t 16) (.v (.c (.i .i64 1)))),aO 18 (.pick (.t 15) (.v (.c (.b true))) (.t 17))] (.cond (.t 18) (sO [6] [aO 6 (.nilrow 1)] .ret) .skip)) (sO [1,2,3] [aM 19 2,aM 20 1,aO 21 (.bin .sub (.v (.c (.i .i64 256))) (.t 20)),aO 22 (.min (.t 19) (.t 21)),aM 2 22] (sO [1,2,3,7] [aM 23 2,aO 24 (.mkSl 1 ([.i .u8 0]) (.t 23) (.t 23)),aM 7 24] (.seq [7] (sO [1,3,7,25,26] [aM 25 2,aO 26 (.mv (.v (.c (.i .i64 0))))] (.block 0 (.loop [1,3,7,25,26] C01))) C02)))),[.tmp 6]⟩
def A4a:E2:=E6
def C7M (n:Nat):KV:=kQ A4a n C02 [7] A9I.fin
def C7N (n:Nat):KV:=F6 0 (C7M n)
def A6n (n m:Nat) (x1 x3 x7 x25 x26:Val):AtH:=ar A4a n C01 [1,3,7,25,26] (C7N n) m [x1,x3,x7,x25,x26]
def A9N:=rx A4a A9I
theorem C3S (n:Nat) (a0 a1 a2:Val) (h:A4):A9N n [a0,a1,a2] h=bnd (cells? a0) fun c1=>bnd (B5 .lss a1 (.c (.i .i64 0))) fun v2=>bnd (gd v2 false (some (a1,((h++[some (Row.mk (c1) true)])++[some (Row.mk ([]) true)]))) (some (.no,((h++[some (Row.mk (c1) true)])++[some (Row.mk ([]) true)])))) fun p3=>bnd (gd v2 false (bnd (B5 .geq p3.1 (.c (.i .i64 256))) fun v4=>some (v4,p3.2)) (some (.no,p3.2))) fun p5=>bnd (F0 v2 (.c (.b true)) p5.1) fun v6=>bnd (gd v6 false (some (a2,p5.2)) (some (.no,p5.2))) fun p7=>bnd (gd v6 false (bnd (B5 .lss p7.1 (.c (.i .i64 1))) fun v8=>some (v8,p7.2)) (some (.no,p7.2))) fun p9=>bnd (F0 v6 (.c (.b true)) p9.1) fun T6=>cnd T6 (some ((.c (.sl p9.2.length 0 0 1)),(p9.2++[some (Row.mk ([]) true)]))) (bnd (B5 .sub (.c (.i .i64 256)) a1) fun v11=>bnd (A7r a2 v11) fun v12=>bnd (A8x v12 v12) fun n13=>A6n n n a1 (.c (.p h.length 0)) (.c (.sl p9.2.length 0 n13 1)) v12 (.c (.i .i64 0)) (p9.2++[some (Row.mk (rows ([.i .u8 0]) n13) true)])):=by kernel_rfl
theorem B1z (n m:Nat) (x1 x3 x7 x25 x26:Val) (h:A4):A6n n (m+1) x1 x3 x7 x25 x26 h=bnd (B5 .lss x26 x25) fun cE=>cnd cE (bnd (B5 .add x1 x26) fun dE=>bnd (D8 256 1 x3 dE) fun T7=>bnd (A7 h T7) fun W3=>bnd (C4 1 x7 x26) fun dN=>bnd (D3 h dN W3) fun h19=>bnd (B5 .add x26 (.c (.i .i64 1))) fun jN=>A6n n m x1 x3 x7 x25 jN h19) (some (x7,h)):=by kernel_rfl
theorem C2K:FnK Tryz.prog 141 A9I A4a A9N:=.mk2 C9 Tryz.func141 (by kernel_rfl)
def jV:=tl A9I A4a
theorem A5N:SOk Tryz.prog 141 jV:=C2K.sok
theorem C1T:B5h A9N jV:=C2K.out
def C3t:ACode:=sO [1,3,7,17,18,19] [aO 19 (.bin .lss (.t 18) (.t 17))] (.seq [1,3,7,17,18] (.cond (.t 19) .skip (.exit 0)) (.seq [1,3,7,17,18] (.block 1 (sO [1,3,7,8,17,18] [aM 20 18,aM 8 20] (.ops [aM 21 7,aM 22 1,aM 23 8,aO 24 (.bin .add (.t 22) (.t 23)),aO 25 (.iAddrA 256 1 (.t 3) (.t 24)),aL 26 25,aO 27 (.conv .i64 (.t 26)),aM 28 8,aO 29 (.bin .mul (.v (.c (.i .i64 8))) (.t 28)),aO 30 (.conv .u64 (.t 29)),aO 31 (.bin .shl (.t 27) (.t 30)),aO 32 (.bin .or (.t 21) (.t 31)),aM 7 32]))) (.ops [aO 33 (.bin .add (.t 18) (.v (.c (.i .i64 1)))),aM 18 33])))
def C3u:ACode:=sO [6] [aM 34 7,aM 6 34] .ret
def B2T:AFn:=⟨sO [1,2,3] [aB 3 0,aO 6 (.mv (.v (.c (.i .i64 0))))] (.seq [1,2,3] (sO [1,2,3,16] [aM 9 2,aO 10 (.bin .gtr (.t 9) (.v (.c (.i .i64 4)))),aM 11 10,gM 12 11 false 1,gM 13 11 false 2,aG 14 11 false (.call 221 [(.t 12),(.t 13),(.v (.c (.i .i64 256)))]),aG 15 11 false (.un .not (.t 14)),aO 16 (.pick (.t 11) (.v (.c (.b true))) (.t 15))] (.cond (.t 16) (sO [6] [aO 6 (.mv (.v (.c (.i .i64 0))))] .ret) .skip)) (sO [1,2,3,7] [aO 7 (.mv (.v (.c (.i .i64 0))))] (.seq [7] (sO [1,3,7,17,18] [aM 17 2,aO 18 (.mv (.v (.c (.i .i64 0))))] (.block 0 (.loop [1,3,7,17,18] C3t))) C3u))),[.tmp 6]⟩
def A7R:E2:=D6 221 S6 E6
def C9V (n:Nat):KV:=kQ A7R n C3u [7] B2T.fin
def C9W (n:Nat):KV:=F6 0 (C9V n)
def A9W (n m:Nat) (x1 x3 x7 x17 x18:Val):AtH:=ar A7R n C3t [1,3,7,17,18] (C9W n) m [x1,x3,x7,x17,x18]
def B9m:=rx A7R B2T
theorem C5m (n:Nat) (a0 a1 a2:Val) (h:A4):B9m n [a0,a1,a2] h=bnd (cells? a0) fun c1=>bnd (B5 .gtr a2 (.c (.i .i64 4))) fun v2=>bnd (gd v2 false (some (a1,(h++[some (Row.mk (c1) true)]))) (some (.no,(h++[some (Row.mk (c1) true)])))) fun p3=>bnd (gd v2 false (some (a2,p3.2)) (some (.no,p3.2))) fun p4=>bnd (gd v2 false (bnd (S6 [p3.1,p4.1,.c (.i .i64 256)] p4.2) fun p5=>some (p5.1,p5.2)) (some (.no,p4.2))) fun p6=>bnd (gd v2 false (bnd (aun .not p6.1) fun v7=>some (v7,p6.2)) (some (.no,p6.2))) fun p8=>bnd (F0 v2 (.c (.b true)) p8.1) fun v9=>cnd v9 (some ((.c (.i .i64 0)),p8.2)) (A9W n n a1 (.c (.p h.length 0)) (.c (.i .i64 0)) a2 (.c (.i .i64 0)) p8.2):=by kernel_rfl
theorem B4J (n m:Nat) (x1 x3 x7 x17 x18:Val) (h:A4):A9W n (m+1) x1 x3 x7 x17 x18 h=bnd (B5 .lss x18 x17) fun T6=>cnd T6 (bnd (B5 .add x1 x18) fun v11=>bnd (D8 256 1 x3 v11) fun v12=>bnd (A7 h v12) fun v13=>bnd (dJ .i64 v13) fun cE=>bnd (B5 .mul (.c (.i .i64 8)) x18) fun dE=>bnd (dJ .u64 dE) fun T7=>bnd (B5 .shl cE T7) fun W3=>bnd (B5 .or x7 W3) fun dN=>bnd (B5 .add x18 (.c (.i .i64 1))) fun dO=>A9W n m x1 x3 dN x17 dO h) (some (x7,h)):=by kernel_rfl
theorem C5j:FnK Tryz.prog 142 B2T A7R B9m:=.mk2 (B8 qU C9) Tryz.func142 (by kernel_rfl)
def N5:=tl B2T A7R
theorem wN:SOk Tryz.prog 142 N5:=C5j.sok
theorem C1S:G0 B9m N5:=C5j.flat
def C03:ACode:=sO [0,1,8,20,21,22] [aO 22 (.bin .lss (.t 21) (.t 20))] (.seq [0,1,8,20,21] (.cond (.t 22) .skip (.exit 0)) (.seq [0,1,8,20,21] (.block 1 (sO [0,1,8,9,20,21] [aM 23 21,aM 9 23] (.ops [aM 24 8,aM 25 0,aM 26 1,aM 27 9,aO 28 (.bin .add (.t 26) (.t 27)),aO 29 (.iAddrL 1 (.t 25) (.t 28)),aL 30 29,aO 31 (.conv .u64 (.t 30)),aM 32 9,aO 33 (.bin .mul (.v (.c (.i .i64 8))) (.t 32)),aO 34 (.conv .u64 (.t 33)),aO 35 (.bin .shl (.t 31) (.t 34)),aO 36 (.bin .or (.t 24) (.t 35)),aM 8 36]))) (.ops [aO 37 (.bin .add (.t 21) (.v (.c (.i .i64 1)))),aM 21 37])))
def C04:ACode:=sO [6,7] [aM 38 8,aM 6 38,aO 7 (.mv (.v (.c (.b true))))] .ret
def A9J:AFn:=⟨sO [0,1,2] [aO 6 (.mv (.v (.c (.i .u64 0)))),aO 7 (.mv (.v (.c (.b false))))] (.seq [0,1,2] (sO [0,1,2,19] [aM 10 2,aO 11 (.bin .gtr (.t 10) (.v (.c (.i .i64 8)))),aM 12 11,gM 13 12 false 1,gM 14 12 false 2,gM 15 12 false 0,aG 16 12 false (.len (.t 15)),aG 17 12 false (.call 221 [(.t 13),(.t 14),(.t 16)]),aG 18 12 false (.un .not (.t 17)),aO 19 (.pick (.t 12) (.v (.c (.b true))) (.t 18))] (.cond (.t 19) (sO [6,7] [aO 6 (.mv (.v (.c (.i .u64 0)))),aO 7 (.mv (.v (.c (.b false))))] .ret) .skip)) (sO [0,1,2,8] [aO 8 (.mv (.v (.c (.i .u64 0))))] (.seq [8] (sO [0,1,8,20,21] [aM 20 2,aO 21 (.mv (.v (.c (.i .i64 0))))] (.block 0 (.loop [0,1,8,20,21] C03))) C04))),[.tmp 6,.tmp 7]⟩
def A4b:E2:=D6 221 S6 E6
def C7P (n:Nat):KV:=kQ A4b n C04 [8] A9J.fin
def C7Q (n:Nat):KV:=F6 0 (C7P n)
def A6o (n m:Nat) (x0 x1 x8 x20 xU:Val):AtH:=ar A4b n C03 [0,1,8,20,21] (C7Q n) m [x0,x1,x8,x20,xU]
def B5x:=rx A4b A9J
theorem C3T (n:Nat) (a0 a1 a2:Val) (h:A4):B5x n [a0,a1,a2] h=bnd (B5 .gtr a2 (.c (.i .i64 8))) fun v1=>bnd (gd v1 false (some (a1,h)) (some (.no,h))) fun p2=>bnd (gd v1 false (some (a2,p2.2)) (some (.no,p2.2))) fun p3=>bnd (gd v1 false (some (a0,p3.2)) (some (.no,p3.2))) fun p4=>bnd (gd v1 false (bnd (O0 p4.1) fun v5=>some (v5,p4.2)) (some (.no,p4.2))) fun p6=>bnd (gd v1 false (bnd (S6 [p2.1,p3.1,p6.1] p6.2) fun p7=>some (p7.1,p7.2)) (some (.no,p6.2))) fun p8=>bnd (gd v1 false (bnd (aun .not p8.1) fun v9=>some (v9,p8.2)) (some (.no,p8.2))) fun p10=>bnd (F0 v1 (.c (.b true)) p10.1) fun v11=>cnd v11 (I6 [some (.c (.i .u64 0)),some (.c (.b false))] p10.2) (A6o n n a0 a1 (.c (.i .u64 0)) a2 (.c (.i .i64 0)) p10.2):=by kernel_rfl
theorem B1A (n m:Nat) (x0 x1 x8 x20 xU:Val) (h:A4):A6o n (m+1) x0 x1 x8 x20 xU h=bnd (B5 .lss xU x20) fun v12=>cnd v12 (bnd (B5 .add x1 xU) fun v13=>bnd (C4 1 x0 v13) fun cE=>bnd (A7 h cE) fun dE=>bnd (dJ .u64 dE) fun T7=>bnd (B5 .mul (.c (.i .i64 8)) xU) fun W3=>bnd (dJ .u64 W3) fun dN=>bnd (B5 .shl T7 dN) fun dO=>bnd (B5 .or x8 dO) fun jN=>bnd (B5 .add xU (.c (.i .i64 1))) fun v21=>A6o n m x0 x1 jN x20 v21 h) (I6 [some x8,some (.c (.b true))] h):=by kernel_rfl
theorem C2L:FnK Tryz.prog 140 A9J A4b B5x:=.mk2 (B8 qU C9) Tryz.func140 (by kernel_rfl)
def A4x:=tl A9J A4b
theorem C3Y:SOk Tryz.prog 140 A4x:=C2L.sok
theorem B9G:G0 B5x A4x:=C2L.flat
end
end Go.Proofs.YteckncopbicmcaaGreat
namespace Go.Proofs.YteckncopbicmcaaGreat
open Go Go.Esc
def yQ (at' width all:Int):Bool:=decide (0<=at')&&decide (1<=width)&&decide (width<=all)&&decide (at'<=all-width)
theorem Q5 {a w n:Int}:yQ a w n=true↔0<=a/\1<=w/\w<=n/\a<=n-w:=by
 unfold yQ;simp [and_assoc]
theorem xT {a w n:Int} {h:A4} (hn:n<9223372036854775808) :
  S6 [.c (.i .i64 a),.c (.i .i64 w),.c (.i .i64 n)] h=some (.c (.b (yQ a w n)),h):=by
 refine B5Z (n:=0) (h2:=ro h) ?_ rfl;rw [B9n];unfold yQ;by_cases h1:0<=a
 ·by_cases h2:1<=w
  ·by_cases h3:w<=n
   ·have e:IntKind.wrap .i64 (n-w)=n-w:=wrap_i64 (by omega) (by omega);simp [h1,h2,h3,e]
   ·simp [h1,h2,h3]
  ·simp [h1,h2]
 ·simp [h1]
def D1n (l:List UInt8) (a w:Int):Option Nat:=if w<=8/\yQ a w l.length=true then some (le ((l.drop a.toNat).take w.toNat)) else none
theorem B7J {l:List UInt8} {h:A4} {a w k:Nat} (hw:w<=4) (haw:a+w<=256) (hl:l.length=256):∀ d i m,i+d=w->d<m ->
  A9W k m (.c (.i .i64 a)) (.c (.p h.length 0)) (.c (.i .i64 (le ((l.drop a).take i)))) (.c (.i .i64 w)) (.c (.i .i64 i)) (h++[some ⟨A5 l,true⟩])=some (.c (.i .i64 (le ((l.drop a).take w))),h++[some ⟨A5 l,true⟩])
 | d,i,0,_,hm=>by omega
 | 0,i,m+1,hi,hm=>by
  have e:i=w:=by omega
  subst e;rw [B4J];simp
 | d+1,i,m+1,hi,hm=>by
  have ih:=B7J (h:=h) (k:=k) hw haw hl d (i+1) m (by omega) (by omega);have hx:=C1 (h:=h++[some ⟨A5 l,true⟩]) (id:=h.length) (off:=a+i) (c:=.i .u8 l[a+i].toNat) V6 (by rw [rM,List.getElem?_eq_getElem (by omega)];rfl) rfl;have hb:=l[a+i].toNat_lt;have hlen:((l.drop a).take i).length=i:=by simp;omega
  have gI:=C6l ((l.drop a).take i);rw [hlen] at gI;have hp:=A9Y (show i<=4 by omega);have hbp:=B7f (x:=l[a+i]) (show i<4 by omega);have e2:IntKind.wrap .i64 (8*(i:Int))=8*i:=wrap_i64 (by omega) (by omega);have e3:IntKind.wrap .u64 (8*(i:Int))=8*i:=wrap_u64 (by omega) (by omega);have e5:IntKind.wrap .i64 (l[a+i].toNat:Int)=l[a+i].toNat:=wrap_i64 (by omega) (by omega);have e6:=C6V (k:=.i64) (x:=l[a+i]) (show i<8 by omega) (wrap_i64 (by omega) (by omega)) rfl;have e7:B5 .or (.c (.i .i64 (le ((l.drop a).take i):Nat))) (.c (.i .i64 ((l[a+i].toNat*256 ^ i:Nat):Int)))=some (.c (.i .i64 (le ((l.drop a).take (i+1)):Nat))):=by
   rw [D41 (by omega) (by omega),A37 (by omega),<-C8R,hlen]
  have ea:D8 256 1 (.c (.p h.length 0)) (.c (.i .i64 ((a+i:Nat):Int)))=some (.c (.p h.length (a+i))):=by rw [I7 (by omega)];simp
  have h1':(i:Int)<w:=by omega
  rw [B4J];simp only [esc,h1',A38 (show a+i<9223372036854775808 by omega),e2,e3,ea,hx,e5,e6,e7,E8 (show i+1<9223372036854775808 by omega)];exact ih
def atN (l:List UInt8) (a w:Int):Nat:=if w<=4/\yQ a w 256=true then le ((l.drop a.toNat).take w.toNat) else 0
theorem kF {l:List UInt8} {h:A4} (hl:l.length=256) {a w:Int} :
  N5 [.a (A5 l),.c (.i .i64 a),.c (.i .i64 w)] h=some (.c (.i .i64 (atN l a w)),h):=by
 refine C1S (n:=w.toNat+1) (h2:=ro h++[some ⟨A5 l,true⟩]) ?_ (by simp);rw [C5m];unfold atN;by_cases c1:4<w
 ·have c1':¬ w<=4:=by omega
  simp [c1,c1']
 ·have c1':w<=4:=by omega
  cases c2:yQ a w 256 with
  | false=>simp [c1,xT (show (256:Int)<9223372036854775808 by omega),c2]
  | true =>
   simp [c1,c1',xT (show (256:Int)<9223372036854775808 by omega),c2];rw [Q5] at c2;have:=B7J (h:=ro h) (a:=a.toNat) (w:=w.toNat) (k:=w.toNat+1) (by omega) (by omega) hl w.toNat 0 (w.toNat+1) (by omega) (by omega);simp only [show ((a.toNat:Nat):Int)=a by omega,show ((w.toNat:Nat):Int)=w by omega] at this;simpa [le] using this
theorem B1C {l:List UInt8} {z:List Cell} {h:A4} {a w k:Nat} {v:Int} (hw:w<=4) (haw:a+w<=256) (hl:l.length=256) (hz:z.length=256):∀ d i m,i+d=w->d<m ->
  A2X k m (.c (.i .i64 a)) (.c (.i .i64 v)) (.c (.p h.length 0)) (.c (.p (h.length+1) 0)) (.c (.i .i64 w)) (.c (.i .i64 i)) (h++[some ⟨A5 (I1 l a (D9 i v)),true⟩,some ⟨z,true⟩]) =
   some (.a (A5 (I1 l a (D9 w v))),h++[some ⟨A5 (I1 l a (D9 w v)),true⟩,some ⟨A5 (I1 l a (D9 w v)),true⟩])
 | d,i,0,_,hm=>by omega
 | 0,i,m+1,hi,hm=>by
  have e:i=w:=by omega
  subst e;have gI:(A5 (I1 l a (D9 i v))).length=256:=by rw [A6,L8 (by simp;omega),hl]
  have s1:=D4 (h:=h++[some ⟨A5 (I1 l a (D9 i v)),true⟩,some ⟨z,true⟩]) (id:=h.length) (cs:=A5 (I1 l a (D9 i v))) (by simp) gI;have s2:=storeAll (h:=h++[some ⟨A5 (I1 l a (D9 i v)),true⟩,some ⟨z,true⟩]) (id:=h.length+1) (cs:=z) (xs:=A5 (I1 l a (D9 i v))) (by simp) hz gI;have s3:=D4 (h:=h++[some ⟨A5 (I1 l a (D9 i v)),true⟩,some ⟨A5 (I1 l a (D9 i v)),true⟩]) (id:=h.length+1) (cs:=A5 (I1 l a (D9 i v))) (by simp) gI;have h1':¬ (i:Int)<i:=by omega
  rw [A9t];simp only [esc,h1',s1,s2,s3]
 | d+1,i,m+1,hi,hm=>by
  have ih:=B1C (h:=h) (k:=k) (v:=v) hw haw hl hz d (i+1) m (by omega) (by omega);have e2:IntKind.wrap .i64 (8*(i:Int))=8*i:=wrap_i64 (by omega) (by omega);have e3:IntKind.wrap .u64 (8*(i:Int))=8*i:=wrap_u64 (by omega) (by omega);have e4:B5 .shr (.c (.i .i64 v)) (.c (.i .u64 (8*(i:Int))))=some (.c (.i .i64 (v/2 ^ (Nat.min (8*(i:Int)).toNat 64)))):=B9N (by omega);have ea:D8 256 1 (.c (.p h.length 0)) (.c (.i .i64 ((a+i:Nat):Int)))=some (.c (.p h.length (a+i))):=by rw [I7 (by omega)];simp
  have xI:=G3 (h:=h++[some ⟨A5 (I1 l a (D9 i v)),true⟩,some ⟨z,true⟩]) (id:=h.length) (off:=a+i) (cs:=A5 (I1 l a (D9 i v))) (x:=.i .u8 (byI v i).toNat) (by simp)
   (by rw [A6,L8 (by simp;omega)];omega)
  have e5:(I1 l a (D9 i v)).set (a+i) (byI v i)=I1 l a (D9 (i+1) v):=by
   rw [B7h];have:=A9U (l:=l) (xs:=D9 i v) (a:=a) (x:=byI v i) (by simp;omega);simpa using this
  rw [iU,e5] at xI;have h1':(i:Int)<w:=by omega
  rw [A9t];simp only [esc,h1',A38 (show a+i<9223372036854775808 by omega),e2,e3,e4,C25 (v:=v) (show i<8 by omega),ea,xI,E8 (show i+1<9223372036854775808 by omega)];exact ih
def eZ (l:List UInt8) (a w v:Int):List UInt8:=if w<=4/\yQ a w 256=true then I1 l a.toNat (D9 w.toNat v) else l
theorem O2 {l:List UInt8} {a w v:Int} (hl:l.length=256):(eZ l a w v).length=256:=by
 unfold eZ;split
 ·rename_i h;rw [Q5] at h;rw [L8 (by simp;omega),hl]
 ·exact hl
theorem C4V {l:List UInt8} {g:A4} (hl:l.length=256) {a w v:Int} :
  ∃ g',A5F (w.toNat+1) [.a (A5 l),.c (.i .i64 a),.c (.i .i64 w),.c (.i .i64 v)] g=some (.a (A5 (eZ l a w v)),g'):=by
 have gI:(A5 l).length=256:=by rw [A6,hl]
 have hz:(List.replicate 256 (Cell.i .u8 0)).length=256:=List.length_replicate;rw [C1L];generalize List.replicate 256 (Cell.i .u8 0)=z at *;have s1:=D4 (h:=g++[some ⟨A5 l,true⟩,some ⟨z,true⟩]) (id:=g.length) (cs:=A5 l) (n:=256) (by simp) gI;have s2:=storeAll (h:=g++[some ⟨A5 l,true⟩,some ⟨z,true⟩]) (id:=g.length+1) (cs:=z) (xs:=A5 l) (by simp) hz gI;have s3:=D4 (h:=g++[some ⟨A5 l,true⟩,some ⟨A5 l,true⟩]) (id:=g.length+1) (cs:=A5 l) (n:=256) (by simp) gI;unfold eZ;by_cases c1:4<w
 ·rw [if_neg (by omega)];exact ⟨_,by simp only [esc,c1,s1,s2,s3];rfl⟩
 ·have c1':w<=4:=by omega
  cases c2:yQ a w 256 with
  | false =>
   rw [if_neg (by simp)];exact ⟨_,by simp only [esc,c1,xT (show (256:Int)<9223372036854775808 by omega),c2,s1,s2,s3];rfl⟩
  | true =>
   rw [if_pos ⟨c1',rfl⟩];have c3:=Q5.1 c2;have:=B1C (h:=g) (a:=a.toNat) (w:=w.toNat) (k:=w.toNat+1) (v:=v) (z:=z) (by omega) (by omega) hl hz w.toNat 0 (w.toNat+1) (by omega) (by omega);simp only [show ((a.toNat:Nat):Int)=a by omega,show ((w.toNat:Nat):Int)=w by omega,show D9 0 v=[] from rfl,B4w] at this;exact ⟨_,by simp only [esc,c1,xT (show (256:Int)<9223372036854775808 by omega),c2];exact this⟩
theorem T5 {l:List UInt8} {h:A4} (hl:l.length=256) {a w v:Int} :
  J5 [.a (A5 l),.c (.i .i64 a),.c (.i .i64 w),.c (.i .i64 v)] h=some (.a (A5 (eZ l a w v)),h):=by
 obtain ⟨g,e⟩:=C4V (g:=ro h) hl (a:=a) (w:=w) (v:=v);exact B8s e (by simp)
theorem B4K {l:List UInt8} {h:A4} {b id a n k:Nat} (haw:a+n<=256) (hl:l.length=256):∀ d i m,i+d=n->d<m ->
  A6n k m (.c (.i .i64 a)) (.c (.p h.length 0)) (.c (.sl (h.length+2) 0 n 1)) (.c (.i .i64 n)) (.c (.i .i64 i)) (h++[some ⟨A5 l,true⟩,some ⟨[],true⟩,some ⟨A5 ((l.drop a).take i++zeros (n-i)),true⟩]) =
   some (.c (.sl (h.length+2) 0 n 1),h++[some ⟨A5 l,true⟩,some ⟨[],true⟩,some ⟨A5 ((l.drop a).take n),true⟩])
 | d,i,0,_,hm=>by omega
 | 0,i,m+1,hi,hm=>by
  have e:i=n:=by omega
  subst e;have h1':¬ (i:Int)<i:=by omega
  rw [B1z];simp only [esc,h1'];simp [zeros]
 | d+1,i,m+1,hi,hm=>by
  have ih:=B4K (h:=h) (b:=b) (id:=id) (k:=k) haw hl d (i+1) m (by omega) (by omega);have ea:D8 256 1 (.c (.p h.length 0)) (.c (.i .i64 ((a+i:Nat):Int)))=some (.c (.p h.length (a+i))):=by rw [I7 (by omega)];simp
  have eb:C4 1 (.c (.sl (h.length+2) 0 n 1)) (.c (.i .i64 (i:Int)))=some (.c (.p (h.length+2) i)):=by rw [E5 (by omega)];simp
  have hx:=C1 (h:=h++[some ⟨A5 l,true⟩,some ⟨[],true⟩,some ⟨A5 ((l.drop a).take i++zeros (n-i)),true⟩]) (id:=h.length) (off:=a+i) (c:=.i .u8 l[a+i].toNat) (cs:=A5 l) (rw:=true) (by simp) (by rw [rM,List.getElem?_eq_getElem (by omega)];rfl) rfl;have xI:=G3 (h:=h++[some ⟨A5 l,true⟩,some ⟨[],true⟩,some ⟨A5 ((l.drop a).take i++zeros (n-i)),true⟩]) (id:=h.length+2) (off:=i) (cs:=A5 ((l.drop a).take i++zeros (n-i))) (x:=.i .u8 l[a+i].toNat) (by simp)
   (by rw [A6];simp;omega)
  have e5:((l.drop a).take i++zeros (n-i)).set i l[a+i]=(l.drop a).take (i+1)++zeros (n-(i+1)):=by
   have hlen:((l.drop a).take i).length=i:=by simp;omega
   rw [List.set_append_right _ _ (by omega),hlen,Nat.sub_self,A37 (by omega),List.append_assoc];refine congrArg ((l.drop a).take i ++ ·) ?_;have:n-i=n-(i+1)+1:=by omega
   rw [this];unfold zeros;rw [List.replicate_succ,List.set_cons_zero];rfl
  rw [iU,e5] at xI;have h1':(i:Int)<n:=by omega
  rw [B1z];simp only [esc,h1',A38 (show a+i<9223372036854775808 by omega),ea,hx,eb,xI,E8 (show i+1<9223372036854775808 by omega)];exact ih
def B0t (l:List UInt8) (a n:Int):List UInt8:=if 0<=a then (l.drop a.toNat).take n.toNat else []
theorem C3D (n:Nat):rows [Cell.i .u8 0] n=A5 (zeros n):=by
 unfold rows zeros
 induction n with
 | zero=>rfl
 | succ n ih=>rw [List.replicate_succ,List.flatten_cons,ih,List.replicate_succ];rfl
theorem C6v {l:List UInt8} {g:A4} (hl:l.length=256) {a n:Int} :
  ∃ v g',A9N ((min n (256-a)).toNat+1) [.a (A5 l),.c (.i .i64 a),.c (.i .i64 n)] g=some (v,g')/\Out g.length g' v 1 (B0t l a n).length (A5 (B0t l a n)):=by
 have gI:(A5 l).length=256:=by rw [A6,hl]
 rw [C3S];unfold B0t;by_cases c1:a<0
 ·rw [if_neg (by omega)];exact ⟨_,_,by simp only [esc,c1];rfl,by simp [A6],_,rfl,by simp,by simp;rfl⟩
 ·rw [if_pos (by omega)];by_cases c2:256<=a
  ·have e:l.drop a.toNat=[]:=List.drop_of_length_le (by omega);rw [e,List.take_nil];exact ⟨_,_,by simp only [esc,c1,c2];rfl,by simp [A6],_,rfl,by simp,by simp;rfl⟩
  ·by_cases c3:n<1
   ·have e:n.toNat=0:=by omega
    rw [e];exact ⟨_,_,by simp only [esc,c1,c2,c3];rfl,by simp [A6],_,rfl,by simp,by simp;rfl⟩
   ·have e1:IntKind.wrap .i64 (256-a)=256-a:=wrap_i64 (by omega) (by omega);have e2:A7r (.c (.i .i64 n)) (.c (.i .i64 (256-a)))=some (.c (.i .i64 ((min n (256-a)).toNat:Nat))):=by
     simp only [A7r]
     congr 3
     by_cases h:256-a<n
     ·rw [if_pos h];omega
     ·rw [if_neg h];omega
    generalize hN:(min n (256-a)).toNat=N at *;have e3:A8x (.c (.i .i64 (N:Int))) (.c (.i .i64 (N:Int)))=some N:=by
     have:B4I (.c (.i .i64 (N:Int)))=some N:=by simp only [B4I];rw [if_pos (by omega)];simp
     simp [A8x,this]
    have e4:(l.drop a.toNat).take n.toNat=(l.drop a.toNat).take N:=by
     by_cases h:256-a<n
     ·rw [List.take_of_length_le (by simp;omega),List.take_of_length_le (by simp;omega)]
     ·have:n.toNat=N:=by omega
      rw [this]
    have e5:((l.drop a.toNat).take N).length=N:=by simp;omega
    rw [e4,e5];have:=B4K (h:=g) (b:=0) (id:=0) (a:=a.toNat) (n:=N) (k:=N+1) (by omega) hl N 0 (N+1) (by omega) (by omega);simp only [show ((a.toNat:Nat):Int)=a by omega,List.take_zero,List.nil_append,Nat.sub_zero] at this;exact ⟨_,_,by simp only [esc,c1,c2,c3,e1,e2,e3,C3D];exact this,by simp [A6,e5],_,rfl,by omega,by simp⟩
theorem B2I {l:List UInt8} {h:A4} (hl:l.length=256) {a n:Int} :
  jV [.a (A5 l),.c (.i .i64 a),.c (.i .i64 n)] h=some (.c (.sl h.length 0 (B0t l a n).length 1),h++[some ⟨A5 (B0t l a n),true⟩]):=by
 obtain ⟨v,g,e,ho⟩:=C6v (g:=ro h) hl (a:=a) (n:=n);exact C1T e (by simpa [I8] using ho) (by simp)
theorem B4M {v:Val} {nv:Nat} {data l:List UInt8} {z:List Cell} {h:A4} (hv:Has h v 1 nv (A5 data)) {a k:Nat} (ha:a<256) (hl:l.length=256) (hz:z.length=256) (hd:data.length<9223372036854775808):∀ d i m,i+d=data.length->d<m->i<=256-a ->
  A6q k m (.c (.i .i64 a)) (.c (.p h.length 0)) (.c (.p (h.length+1) 0)) v (.c (.i .i64 data.length)) (.c (.i .i64 i)) (h++[some ⟨A5 (I1 l a (data.take i)),true⟩,some ⟨z,true⟩]) =
   some (.a (A5 (I1 l a (data.take (256-a)))),h++[some ⟨A5 (I1 l a (data.take (256-a))),true⟩,some ⟨A5 (I1 l a (data.take (256-a))),true⟩])
 | d,i,0,_,hm,_=>by omega
 | d,i,m+1,hi,hm,hia=>by
  have hll:∀ i,i<=256-a->(A5 (I1 l a (data.take i))).length=256:=fun i hi=>by rw [A6,L8 (by simp;omega),hl]
  have fin:data.take i=data.take (256-a)->A6p k (.c (.p h.length 0)) (.c (.p (h.length+1) 0)) (h++[some ⟨A5 (I1 l a (data.take i)),true⟩,some ⟨z,true⟩]) =
   some (.a (A5 (I1 l a (data.take (256-a)))),h++[some ⟨A5 (I1 l a (data.take (256-a))),true⟩,some ⟨A5 (I1 l a (data.take (256-a))),true⟩]):=fun e=>by
   rw [e];have gI:=hll (256-a) (Nat.le_refl _);have s1:=D4 (h:=h++[some ⟨A5 (I1 l a (data.take (256-a))),true⟩,some ⟨z,true⟩]) (id:=h.length) (cs:=A5 (I1 l a (data.take (256-a)))) (by simp) gI;have s2:=storeAll (h:=h++[some ⟨A5 (I1 l a (data.take (256-a))),true⟩,some ⟨z,true⟩]) (id:=h.length+1) (cs:=z) (xs:=A5 (I1 l a (data.take (256-a)))) (by simp) hz gI;have s3:=D4 (h:=h++[some ⟨A5 (I1 l a (data.take (256-a))),true⟩,some ⟨A5 (I1 l a (data.take (256-a))),true⟩]) (id:=h.length+1) (cs:=A5 (I1 l a (data.take (256-a)))) (by simp) gI;rw [C2A];simp only [esc,s1,s2,s3]
  rw [C2B];by_cases c1:i<data.length
  ·obtain ⟨d,rfl⟩:∃ e,d=e+1:=⟨d-1,by omega⟩;have hnv:data.length=nv:=by simpa [A6] using hv.length
   obtain ⟨id,off,rfl,hid,h1,h2⟩:=(hv.more [some ⟨A5 (I1 l a (data.take i)),true⟩,some ⟨z,true⟩]).sl (by omega);have hx:=h1 i (.i .u8 data[i].toNat) (by rw [rM,List.getElem?_eq_getElem (by omega)];rfl);have eb:C4 1 (.c (.sl id off nv 1)) (.c (.i .i64 (i:Int)))=some (.c (.p id (off+i))):=by rw [E5 (by omega)];simp
   have e1:IntKind.wrap .i64 (256-(a:Int))=256-a:=wrap_i64 (by omega) (by omega);have c1':(i:Int)<data.length:=by omega
   by_cases c2:256-a<=i
   ·have c2':(256:Int)-a<=i:=by omega
    simp only [esc,c1',eb,hx,e1,c2'];exact fin (by rw [show i=256-a by omega])
   ·have c2':¬ (256:Int)-a<=i:=by omega
    have ih:=B4M hv (l:=l) (z:=z) (k:=k) ha hl hz hd d (i+1) m (by omega) (by omega) (by omega);have ea:D8 256 1 (.c (.p h.length 0)) (.c (.i .i64 ((a+i:Nat):Int)))=some (.c (.p h.length (a+i))):=by rw [I7 (by omega)];simp
    have xI:=G3 (h:=h++[some ⟨A5 (I1 l a (data.take i)),true⟩,some ⟨z,true⟩]) (id:=h.length) (off:=a+i) (cs:=A5 (I1 l a (data.take i))) (x:=.i .u8 data[i].toNat) (by simp)
     (by rw [hll i hia];omega)
    have e5:(I1 l a (data.take i)).set (a+i) data[i]=I1 l a (data.take (i+1)):=by
     have:=A9U (l:=l) (xs:=data.take i) (a:=a) (x:=data[i]) (by simp;omega);rw [List.length_take,Nat.min_eq_left (by omega)] at this;rw [this,List.take_succ_eq_append_getElem c1]
    rw [iU,e5] at xI;simp only [esc,c1',eb,hx,e1,c2',A38 (show a+i<9223372036854775808 by omega),ea,xI,E8 (show i+1<9223372036854775808 by omega)];exact ih
  ·have c1':¬ (i:Int)<data.length:=by omega
   simp only [esc,c1'];exact fin (by rw [List.take_of_length_le (by omega),List.take_of_length_le (by omega)])
def A9m (l:List UInt8) (a:Int) (data:List UInt8):List UInt8:=if 0<=a/\a<256 then I1 l a.toNat (data.take (256-a.toNat)) else l
theorem C6j {l:List UInt8} {a:Int} {data:List UInt8} (hl:l.length=256):(A9m l a data).length=256:=by
 unfold A9m;split
 ·rw [L8 (by simp;omega),hl]
 ·exact hl
theorem C6w {v:Val} {nv:Nat} {data l:List UInt8} {g:A4} (hv:Has g v 1 nv (A5 data)) (hl:l.length=256) (hd:data.length<9223372036854775808) {a:Int} :
  ∃ g',A9O (data.length+1) [.a (A5 l),.c (.i .i64 a),v] g=some (.a (A5 (A9m l a data)),g'):=by
 have gI:(A5 l).length=256:=by rw [A6,hl]
 have hz:(List.replicate 256 (Cell.i .u8 0)).length=256:=List.length_replicate;have hnv:data.length=nv:=by simpa [A6] using hv.length
 rw [C3U];generalize List.replicate 256 (Cell.i .u8 0)=z at *;have s1:=D4 (h:=g++[some ⟨A5 l,true⟩,some ⟨z,true⟩]) (id:=g.length) (cs:=A5 l) (n:=256) (by simp) gI;have s2:=storeAll (h:=g++[some ⟨A5 l,true⟩,some ⟨z,true⟩]) (id:=g.length+1) (cs:=z) (xs:=A5 l) (by simp) hz gI;have s3:=D4 (h:=g++[some ⟨A5 l,true⟩,some ⟨A5 l,true⟩]) (id:=g.length+1) (cs:=A5 l) (n:=256) (by simp) gI;unfold A9m;by_cases c1:a<0
 ·rw [if_neg (by omega)];exact ⟨_,by simp only [esc,c1,s1,s2,s3];rfl⟩
 ·by_cases c2:256<=a
  ·rw [if_neg (by omega)];exact ⟨_,by simp only [esc,c1,c2,s1,s2,s3];rfl⟩
  ·rw [if_pos (by omega)];have:=B4M hv (l:=l) (a:=a.toNat) (k:=data.length+1) (z:=z) (by omega) hl hz hd data.length 0 (data.length+1) (by omega) (by omega) (by omega);simp only [show ((a.toNat:Nat):Int)=a by omega,List.take_zero,B4w] at this;exact ⟨_,by simp only [esc,c1,c2,hv.len,<-hnv];exact this⟩
theorem B2K {v:Val} {nv:Nat} {data l:List UInt8} {h:A4} (hv:Has h v 1 nv (A5 data)) (hl:l.length=256) (hd:data.length<9223372036854775808) {a:Int} :
  jW [.a (A5 l),.c (.i .i64 a),v] h=some (.a (A5 (A9m l a data)),h):=by
 obtain ⟨g,e⟩:=C6w hv.ro hl hd (a:=a);exact B9H e (by simp)
theorem A9X {v:Val} {nv:Nat} {data:List UInt8} {h:A4} (hv:Has h v 1 nv (A5 data)) (hd:data.length<9223372036854775808) :
  iG [v] h=some (.a (A5 (A9m (zeros 256) 0 data)),h):=by
 have key:∀ g,Has g v 1 nv (A5 data)->∃ g',B3j 0 [v] g=some (.a (A5 (A9m (zeros 256) 0 data)),g'):=by
  intro g hv;rw [C5n];have hz:(A5 (zeros 256)).length=256:=by rw [A6];exact zeros_length
  have hz0:(zeros 256).length=256:=zeros_length;rw [F5];generalize zeros 256=Z at *;have e:=B2K (hv.more [some ⟨A5 Z,true⟩]) hz0 hd (a:=0);have hl2:(A5 (A9m Z 0 data)).length=256:=by rw [A6,C6j hz0]
  have s2:=storeAll (h:=g++[some ⟨A5 Z,true⟩]) (id:=g.length) (cs:=A5 Z) (xs:=A5 (A9m Z 0 data)) (by simp) hz hl2;have s3:=D4 (h:=g++[some ⟨A5 (A9m Z 0 data),true⟩]) (id:=g.length) (cs:=A5 (A9m Z 0 data)) (n:=256) (by simp) hl2;exact ⟨_,by simp only [esc,C7,e,s2,s3];rfl⟩
 obtain ⟨g,e⟩:=key _ hv.ro;exact C1U e (by simp)
theorem B4L {v:Val} {nv:Nat} {l:List UInt8} {h:A4} (hv:Has h v 1 nv (A5 l)) {a w k:Nat} (hw:w<=8) (haw:a+w<=l.length) (hl:l.length<9223372036854775808):∀ d i m,i+d=w->d<m ->
  A6o k m v (.c (.i .i64 a)) (.c (.i .u64 (le ((l.drop a).take i)))) (.c (.i .i64 w)) (.c (.i .i64 i)) h=some (.t [.c (.i .u64 (le ((l.drop a).take w))),.c (.b true)],h)
 | d,i,0,_,hm=>by omega
 | 0,i,m+1,hi,hm=>by
  have e:i=w:=by omega
  subst e;rw [B1A];simp
 | d+1,i,m+1,hi,hm=>by
  have ih:=B4L hv (k:=k) hw haw hl d (i+1) m (by omega) (by omega);have hnv:l.length=nv:=by simpa [A6] using hv.length
  obtain ⟨id,off,rfl,hid,h1,h2⟩:=hv.sl (by omega);have hx:=h1 (a+i) (.i .u8 l[a+i].toNat) (by rw [rM,List.getElem?_eq_getElem (by omega)];rfl);have hb:=l[a+i].toNat_lt;have hlen:((l.drop a).take i).length=i:=by simp;omega
  have gI:=C6l ((l.drop a).take i);rw [hlen] at gI;have hp:=A9Y (show i<=8 by omega);have hbp:=B7f (x:=l[a+i]) (show i<8 by omega);have e2:IntKind.wrap .i64 (8*(i:Int))=8*i:=wrap_i64 (by omega) (by omega);have e3:IntKind.wrap .u64 (8*(i:Int))=8*i:=wrap_u64 (by omega) (by omega);have e5:IntKind.wrap .u64 (l[a+i].toNat:Int)=l[a+i].toNat:=wrap_u64 (by omega) (by omega);have e6:=C6V (k:=.u64) (x:=l[a+i]) (show i<8 by omega) (wrap_u64 (by omega) (by omega)) rfl;have e7:B5 .or (.c (.i .u64 (le ((l.drop a).take i):Nat))) (.c (.i .u64 ((l[a+i].toNat*256 ^ i:Nat):Int)))=some (.c (.i .u64 (le ((l.drop a).take (i+1)):Nat))):=by
   rw [D43 (by omega) (by omega),A37 (by omega),<-C8R,hlen]
  have ea:C4 1 (.c (.sl id off nv 1)) (.c (.i .i64 ((a+i:Nat):Int)))=some (.c (.p id (off+(a+i)))):=by rw [E5 (by omega)];simp
  have h1':(i:Int)<w:=by omega
  rw [B1A];simp only [esc,h1',A38 (show a+i<9223372036854775808 by omega),e2,e3,ea,hx,e5,e6,e7,E8 (show i+1<9223372036854775808 by omega)];exact ih
theorem C7O {v:Val} {nv:Nat} {l:List UInt8} {h:A4} (hv:Has h v 1 nv (A5 l)) {a w:Int} (hl:l.length<9223372036854775808) :
  A4x [v,.c (.i .i64 a),.c (.i .i64 w)] h=some (.t [.c (.i .u64 ((D1n l a w).getD 0:Nat)),.c (.b (D1n l a w).isSome)],h):=by
 refine B9G (n:=w.toNat+1) (h2:=ro h) ?_ (by simp);rw [C3T];have hv':=hv.ro;have hnv:l.length=nv:=by simpa [A6] using hv.length
 unfold D1n;by_cases c1:8<w
 ·have c1':¬ w<=8:=by omega
  simp [c1,c1']
 ·have c1':w<=8:=by omega
  cases c2:yQ a w l.length with
  | false=>simp [c1,hv'.len,<-hnv,xT (show (l.length:Int)<9223372036854775808 by omega),c2]
  | true =>
   simp [c1,c1',hv'.len,<-hnv,xT (show (l.length:Int)<9223372036854775808 by omega),c2];rw [Q5] at c2;have:=B4L hv' (a:=a.toNat) (w:=w.toNat) (k:=w.toNat+1) (by omega) (by omega) hl w.toNat 0 (w.toNat+1) (by omega) (by omega);simp only [show ((a.toNat:Nat):Int)=a by omega,show ((w.toNat:Nat):Int)=w by omega] at this;simpa [le] using this
theorem B4N {l:List UInt8} {b id a w k:Nat} {v:Int} (hw:w<=8) (haw:a+w<=l.length) (hl:l.length<9223372036854775808):∀ d i m (h:A4),i+d=w->d<m->b<=id->b<=h.length->rd h id=some ⟨A5 (I1 l a (D9 i v)),true⟩ ->
  ∃ h',A6r k m (.c (.i .i64 a)) (.c (.i .u64 v)) (.c (.sl id 0 l.length 1)) (.c (.i .i64 w)) (.c (.i .i64 i)) h=some (.t [.c (.sl id 0 l.length 1),.c (.b true)],h')/\rd h' id=some ⟨A5 (I1 l a (D9 w v)),true⟩
 | d,i,0,h,_,hm,_,_,_=>by omega
 | 0,i,m+1,h,hi,hm,_,_,hr=>by
  have e:i=w:=by omega
  subst e;have h1':¬ (i:Int)<i:=by omega
  rw [B1B];exact ⟨h,by simp only [esc,h1'],hr⟩
 | d+1,i,m+1,h,hi,hm,hb,hbl,hr=>by
  have e2:IntKind.wrap .i64 (8*(i:Int))=8*i:=wrap_i64 (by omega) (by omega);have e3:IntKind.wrap .u64 (8*(i:Int))=8*i:=wrap_u64 (by omega) (by omega);have e4:B5 .shr (.c (.i .u64 v)) (.c (.i .u64 (8*(i:Int))))=some (.c (.i .u64 (v/2 ^ (Nat.min (8*(i:Int)).toNat 64)))):=B9N (by omega);have ea:C4 1 (.c (.sl id 0 l.length 1)) (.c (.i .i64 ((a+i:Nat):Int)))=some (.c (.p id (a+i))):=by rw [E5 (by omega)];simp
  have xI:=G3 (off:=a+i) (x:=.i .u8 (byI v i).toNat) hr (by rw [A6,L8 (by simp;omega)];omega);have e5:(I1 l a (D9 i v)).set (a+i) (byI v i)=I1 l a (D9 (i+1) v):=by
   rw [B7h];have:=A9U (l:=l) (xs:=D9 i v) (a:=a) (x:=byI v i) (by simp;omega);simpa using this
  rw [iU,e5] at xI;obtain ⟨h',ih,hr'⟩:=B4N (b:=b) (k:=k) (v:=v) hw haw hl d (i+1) m (h.set id (some ⟨A5 (I1 l a (D9 (i+1) v)),true⟩)) (by omega) (by omega) hb (by simpa using hbl) (C8 (E4 hr));have h1':(i:Int)<w:=by omega
  rw [B1B];exact ⟨h',by simp only [esc,h1',A38 (show a+i<9223372036854775808 by omega),e2,e3,e4,C25 (v:=v) (show i<8 by omega),ea,xI,E8 (show i+1<9223372036854775808 by omega)];exact ih,hr'⟩
def B4V (l:List UInt8) (a w v:Int):Option (List UInt8):=if w<=8/\yQ a w l.length=true then some (I1 l a.toNat (D9 w.toNat v)) else none
theorem C7T {x:Val} {nv:Nat} {l:List UInt8} {h:A4} (hv:Has h x 1 nv (A5 l)) {a w v:Int} (hl:l.length<=1073741824) :
  A4y [x,.c (.i .i64 a),.c (.i .i64 w),.c (.i .u64 v)] h=some (.t [.c (.sl h.length 0 ((B4V l a w v).getD []).length 1),.c (.b (B4V l a w v).isSome)],h++[some ⟨A5 ((B4V l a w v).getD []),true⟩]):=by
 have hnv:l.length=nv:=by simpa [A6] using hv.length
 have key:∀ g,Has g x 1 nv (A5 l)->∃ id g',A9P (w.toNat+1) [x,.c (.i .i64 a),.c (.i .i64 w),.c (.i .u64 v)] g=some (.t [.c (.sl id 0 ((B4V l a w v).getD []).length 1),.c (.b (B4V l a w v).isSome)],g')/\g.length<=id/\rd g' id=some ⟨A5 ((B4V l a w v).getD []),true⟩:=by
  intro g hv;rw [C3V];have hvm:=hv.more [some ⟨[],true⟩];unfold B4V;by_cases c1:8<w
  ·rw [if_neg (by omega)];exact ⟨_,_,by simp only [esc,c1];rfl,by simp,by simp;rfl⟩
  ·cases c2:yQ a w l.length with
   | false =>
    rw [if_neg (by simp)];exact ⟨_,_,by simp only [esc,c1,hvm.len,<-hnv,xT (show (l.length:Int)<9223372036854775808 by omega),c2];rfl,by simp,by simp;rfl⟩
   | true =>
    rw [if_pos ⟨by omega,rfl⟩];have c3:=Q5.1 c2;have hvm2:=hv.more [some ⟨[],true⟩,some ⟨[],true⟩];have e1:W7 (g++[some ⟨[],true⟩,some ⟨[],true⟩]) 1 (.c (.sl (g.length+1) 0 0 1)) x=some (.c (.sl (g.length+2) 0 l.length 1),g++[some ⟨[],true⟩,none,some ⟨A5 l,true⟩]):=by
     simp [W7,hvm2.add,A6];exact hl
    obtain ⟨g',e2,hr⟩:=B4N (l:=l) (b:=g.length) (id:=g.length+2) (a:=a.toNat) (w:=w.toNat) (k:=w.toNat+1) (v:=v) (by omega) (by omega) (by omega) w.toNat 0 (w.toNat+1) (g++[some ⟨[],true⟩,none,some ⟨A5 l,true⟩]) (by omega) (by omega) (by omega) (by simp) (by simp [D9,B4w]);simp only [show ((a.toNat:Nat):Int)=a by omega,show ((w.toNat:Nat):Int)=w by omega] at e2;have hlen:((some (I1 l a.toNat (D9 w.toNat v))).getD []).length=l.length:=by
     simp only [Option.getD_some];rw [L8 (by simp;omega)]
    rw [hlen];exact ⟨g.length+2,g',by simp only [esc,c1,hvm.len,<-hnv,xT (show (l.length:Int)<9223372036854775808 by omega),c2,C7,e1];exact e2,by omega,hr⟩
 obtain ⟨id,g',e,hb,hr⟩:=key _ hv.ro;have hb':h.length<=id:=by simpa [I8] using hb
 have:=B9I e (v2:=.t [.c (.sl h.length 0 ((B4V l a w v).getD []).length 1),.c (.b (B4V l a w v).isSome)]) (ids:=[id]) (by
  have e2:L7 g' h.length [id] [.b (B4V l a w v).isSome]=some ([.b (B4V l a w v).isSome],[id]):=bE (by simp);simp [S9,dX,L7,hb',show ¬ id<h.length by omega,A0L hr (by simp:I9 (A5 ((B4V l a w v).getD []))=true)])
 rw [this];simp [hr]
def K7 (n:Nat) (l:List UInt8):List UInt8:=l++zeros (n-l.length)
theorem F8 {n:Nat} {l:List UInt8} (h:l.length<=n):(K7 n l).length=n:=by
 unfold K7;rw [List.length_append,zeros_length];omega
theorem D1Y {n:Nat}:K7 n []=zeros n:=by simp [K7]
theorem C6E {l xs:List UInt8} {a:Nat} (h1:l.length<=a) (h2:a+xs.length<=256):I1 (K7 256 l) a xs=K7 256 (l++zeros (a-l.length)++xs):=by
 unfold I1 K7;have e1:(l++zeros (256-l.length)).take a=l++zeros (a-l.length):=by
  rw [List.take_append,List.take_of_length_le h1];unfold zeros;rw [List.take_replicate,Nat.min_eq_left (by omega)]
 have e2:(l++zeros (256-l.length)).drop (a+xs.length)=zeros (256-(l++zeros (a-l.length)++xs).length):=by
  rw [List.drop_append,List.drop_of_length_le (by omega),List.nil_append];unfold zeros;rw [List.drop_replicate]
  congr 1
  simp;omega
 rw [e1,e2];simp only [List.append_assoc]
theorem fE {l:List UInt8} {a w:Nat} {v:Int} (h1:l.length<=a) (h2:a+w<=256) (hw:1<=w) (hw4:w<=4):eZ (K7 256 l) a w v=K7 256 (l++zeros (a-l.length)++D9 w v):=by
 unfold eZ;rw [if_pos ⟨by omega,Q5.2 (by omega)⟩];simp only [Int.toNat_natCast];exact C6E h1 (by simp;exact h2)
def fieldN (b:List UInt8) (a w:Nat):Int:=((le ((b.drop a).take w):Nat):Int)
theorem C4Y {b:List UInt8} (hb:b.length<=256):A9m (zeros 256) 0 b=K7 256 b:=by
 unfold A9m I1 K7;rw [if_pos (by omega)];simp only [Int.toNat_zero,List.take_zero,List.nil_append,Nat.sub_zero,Nat.zero_add];rw [List.take_of_length_le hb];unfold zeros;rw [List.drop_replicate]
theorem C7h {b:List UInt8} {a w:Nat} (h1:a+w<=b.length) (h2:b.length<=256) (hw:1<=w) (hw4:w<=4):((atN (K7 256 b) a w:Nat):Int)=fieldN b a w:=by
 unfold atN fieldN K7;rw [if_pos ⟨by omega,Q5.2 (by omega)⟩];simp only [Int.toNat_natCast];rw [List.drop_append_of_le_length (by omega),List.take_append_of_le_length (by simp;omega)]
end Go.Proofs.YteckncopbicmcaaGreat
namespace Go.Proofs.YteckncopbicmcaaGreat
open Go Go.Esc
set_option maxRecDepth 100000
noncomputable section
def B7G:ACode:=sO [0,1,7,8,9] [aO 9 (.bin .lss (.t 8) (.t 7))] (.seq [0,1,7,8] (.cond (.t 9) .skip (.exit 0)) (.seq [0,1,7,8] (.block 1 (sO [0,1,5,7,8] [aM 10 8,aM 5 10] (.ops [aM 11 0,aM 12 1,aM 13 5,aO 14 (.idxS (.t 12) (.t 13)),aO 15 (.conv .u32 (.t 14)),aO 16 (.bin .xor (.t 11) (.t 15)),aO 17 (.bin .mul (.t 16) (.v (.c (.i .u32 16777619)))),aM 0 17]))) (.ops [aO 18 (.bin .add (.t 8) (.v (.c (.i .i64 1)))),aM 8 18])))
def B7H:ACode:=sO [4] [aM 19 0,aM 4 19] .ret
def A5k:AFn:=⟨sO [0,1] [aO 4 (.mv (.v (.c (.i .u32 0))))] (.seq [0] (sO [0,1,7,8] [aM 6 1,aO 7 (.lenS (.t 6)),aO 8 (.mv (.v (.c (.i .i64 0))))] (.block 0 (.loop [0,1,7,8] B7G))) B7H),[.tmp 4]⟩
def A0W:E2:=E6
def C6q (n:Nat):KV:=kQ A0W n B7H [0] A5k.fin
def C6r (n:Nat):KV:=F6 0 (C6q n)
def A2U (n m:Nat) (x0 x1 x7 x8:Val):AtH:=ar A0W n B7G [0,1,7,8] (C6r n) m [x0,x1,x7,x8]
def B1V:=rx A0W A5k
theorem C1K (n:Nat) (a0 a1:Val) (h:A4):B1V n [a0,a1] h=bnd (B0Z a1) fun v1=>A2U n n a0 a1 v1 (.c (.i .i64 0)) h:=by kernel_rfl
theorem A9r (n m:Nat) (x0 x1 x7 x8:Val) (h:A4):A2U n (m+1) x0 x1 x7 x8 h=bnd (B5 .lss x8 x7) fun v2=>cnd v2 (bnd (B0Y x1 x8) fun v3=>bnd (dJ .u32 v3) fun v4=>bnd (B5 .xor x0 v4) fun v5=>bnd (B5 .mul v5 (.c (.i .u32 16777619))) fun v6=>bnd (B5 .add x8 (.c (.i .i64 1))) fun v7=>A2U n m v6 x1 x7 v7 h) (some (x0,h)):=by kernel_rfl
theorem B85:FnK Tryz.prog 157 A5k A0W B1V:=.mk2 C9 Tryz.func157 (by kernel_rfl)
def A1f:=tl A5k A0W
theorem C1Q:SOk Tryz.prog 157 A1f:=B85.sok
theorem B8p:G0 B1V A1f:=B85.flat
def B8V:AFn:=⟨sO [0] [aO 2 (.mv (.v (.c (.i .u32 0))))] (sO [2] [aM 3 0,aO 4 (.call 157 [(.v (.c (.i .u32 2166136261))),(.t 3)]),aM 2 4] .ret),[.tmp 2]⟩
def B8X:E2:=D6 157 A1f E6
def B9i:=rx B8X B8V
theorem C5l (n:Nat) (a0:Val) (h:A4):B9i n [a0] h=bnd (A1f [.c (.i .u32 2166136261),a0] h) fun p1=>some (p1.1,p1.2):=by kernel_rfl
theorem C5i:FnK Tryz.prog 78 B8V B8X B9i:=.mk2 (B8 C1Q C9) Tryz.func78 (by kernel_rfl)
def A1g:=tl B8V B8X
theorem B68:SOk Tryz.prog 78 A1g:=C5i.sok
theorem C1R:G0 B9i A1g:=C5i.flat
def B5a:AFn:=⟨sO [0,1] [aO 4 (.mv (.v (.c (.i .i64 0))))] (.seq [0,1] (.block 0 (sO [0,1,5] [aM 6 1,aO 7 (.bin .lss (.t 6) (.v (.c (.i .i64 1)))),aM 5 7] (.cond (.t 5) (sO [4] [aO 4 (.mv (.v (.c (.i .i64 0))))] .ret) (sO [0,1,8] [aM 9 1,aO 10 (.bin .geq (.t 9) (.v (.c (.i .i64 32)))),aM 8 10] (.cond (.t 8) (sO [4] [aM 11 0,aO 12 (.conv .i64 (.t 11)),aM 4 12] .ret) .skip))))) (sO [4] [aM 13 0,aM 14 1,aO 15 (.conv .u64 (.t 14)),aO 16 (.bin .shl (.v (.c (.i .u32 1))) (.t 15)),aO 17 (.bin .sub (.t 16) (.v (.c (.i .u32 1)))),aO 18 (.bin .and (.t 13) (.t 17)),aO 19 (.conv .i64 (.t 18)),aM 4 19] .ret)),[.tmp 4]⟩
def B5f:E2:=E6
def A9M:=rx B5f B5a
theorem C3R (n:Nat) (a0 a1:Val) (h:A4):A9M n [a0,a1] h=bnd (B5 .lss a1 (.c (.i .i64 1))) fun v1=>cnd v1 (some ((.c (.i .i64 0)),h)) (bnd (B5 .geq a1 (.c (.i .i64 32))) fun v2=>cnd v2 (bnd (dJ .i64 a0) fun v3=>some (v3,h)) (bnd (dJ .u64 a1) fun v4=>bnd (B5 .shl (.c (.i .u32 1)) v4) fun v5=>bnd (B5 .sub v5 (.c (.i .u32 1))) fun v6=>bnd (B5 .and a0 v6) fun v7=>bnd (dJ .i64 v7) fun v8=>some (v8,h))):=by kernel_rfl
theorem C2J:FnK Tryz.prog 155 B5a B5f A9M:=.mk2 C9 Tryz.func155 (by kernel_rfl)
def A4w:=tl B5a B5f
theorem C3X:SOk Tryz.prog 155 A4w:=C2J.sok
theorem B9D:G0 A9M A4w:=C2J.flat
end
end Go.Proofs.YteckncopbicmcaaGreat
namespace Go.Proofs.YteckncopbicmcaaGreat
open Go Go.Esc
def D1M (h:Nat) (c:UInt8):Nat:=((h ^^^ c.toNat)*16777619)%4294967296
def B8T (h:Nat) (s:List UInt8):Nat:=s.foldl D1M h
def C0U (s:List UInt8):Nat:=B8T 2166136261 s
theorem C8O {h:Nat} {c:UInt8}:D1M h c<4294967296:=Nat.mod_lt _ (by omega)
theorem C7I {s:List UInt8}:∀ {h:Nat},h<4294967296->B8T h s<4294967296:=by
 induction s with
 | nil=>intro h hh;exact hh
 | cons c s ih=>intro h _;exact ih C8O
theorem C8N {s:List UInt8}:C0U s<4294967296:=C7I (by omega)
theorem C5g {a:Int}:IntKind.wrap .u32 a=a%4294967296:=by
 simp only [IntKind.wrap,IntKind.bits,IntKind.signed,Bool.false_and];rfl
theorem B1u {s:List UInt8} (hs:s.length<9223372036854775807) {q:Nat} {h:A4}:∀ (d i m H:Nat),i+d=s.length->d<m->H<4294967296 ->
  A2U q m (.c (.i .u32 H)) (.c (.s s)) (.c (.i .i64 s.length)) (.c (.i .i64 i)) h=some (.c (.i .u32 ((B8T H (s.drop i):Nat):Int)),h)
 | d,i,0,H,_,hm,_=>by omega
 | 0,i,m+1,H,hi,hm,hH=>by
  have c0:¬ (i:Int)<s.length:=by omega
  rw [A9r,List.drop_of_length_le (by omega)];simp only [esc,c0,B8T,List.foldl_nil]
 | d+1,i,m+1,H,hi,hm,hH=>by
  have h2:i<s.length:=by omega
  have hb:=s[i].toNat_lt;have ih:=B1u hs (q:=q) (h:=h) d (i+1) m (D1M H s[i]) (by omega) (by omega) C8O;have c0:(i:Int)<s.length:=by omega
  have e1:IntKind.wrap .u32 (s[i].toNat:Int)=s[i].toNat:=wrap_u32 (by omega) (by omega);have e2:=D3T (a:=H) (b:=s[i].toNat) hH (by omega);have e3:IntKind.wrap .u32 (((H ^^^ s[i].toNat:Nat):Int)*16777619)=((D1M H s[i]:Nat):Int):=by
   rw [C5g];unfold D1M;omega
  rw [A9r,List.drop_eq_getElem_cons h2];simp only [esc,c0,B4c h2,e1,e2,e3,E8 (show i+1<9223372036854775808 by omega)];exact ih
theorem C3q {s:List UInt8} (hs:s.length<9223372036854775807) {h:A4}:A1g [.c (.s s)] h=some (.c (.i .u32 ((C0U s:Nat):Int)),h):=by
 have hm:∀ h,A1f [.c (.i .u32 2166136261),.c (.s s)] h=some (.c (.i .u32 ((C0U s:Nat):Int)),h):=fun h=>by
  refine B8p (n:=s.length+1) (h2:=ro h) ?_ rfl;rw [C1K];have:=B1u hs (q:=s.length+1) (h:=ro h) s.length 0 (s.length+1) 2166136261 (by omega) (by omega) (by omega);simp only [esc];exact this
 refine C1R (n:=0) (h2:=ro h) ?_ rfl;rw [C5l];simp only [esc,hm]
end Go.Proofs.YteckncopbicmcaaGreat
namespace Go.Proofs.YteckncopbicmcaaGreat
open Go Go.Esc
set_option maxRecDepth 100000
noncomputable section
def A9E:ACode:=.cond (.t 10) (sO [2] [aO 2 (.mv (.v (.c (.i .i64 1))))] .ret) (sO [21] [aF 22 1 1,aL 23 22,aO 24 (.bin .quo (.t 23) (.v (.c (.i .i64 8)))),aO 25 (.bin .add (.v (.c (.i .i64 2))) (.t 24)),aF 26 1 0,aL 27 26,aO 28 (.bin .geq (.t 25) (.t 27)),aM 21 28] (.cond (.t 21) (sO [2] [aO 2 (.mv (.v (.c (.i .i64 1))))] .ret) .skip))
def A9D:ACode:=.cond (.t 3) (sO [2] [aO 2 (.mv (.v (.c (.i .i64 1))))] .ret) (.seq [1,10] (sO [1,10] [aF 11 1 1,aL 12 11,aO 13 (.bin .lss (.t 12) (.v (.c (.i .i64 8)))),aM 10 13] (.cond (.t 10) .skip (sO [1,10] [aF 14 1 1,aL 15 14,aO 16 (.bin .gtr (.t 15) (.v (.c (.i .i64 128)))),aM 10 16] (.cond (.t 10) .skip (.ops [aF 17 1 1,aL 18 17,aO 19 (.bin .rem (.t 18) (.v (.c (.i .i64 8)))),aO 20 (.bin .neq (.t 19) (.v (.c (.i .i64 0)))),aM 10 20]))))) A9E)
def A9C:ACode:=sO [2] [aO 2 (.mv (.v (.c (.i .i64 0))))] .ret
def uL:AFn:=⟨sO [1] [aB 1 0,aO 2 (.mv (.v (.c (.i .i64 0))))] (.seq [] (.block 0 (.seq [1,3] (sO [1,3] [aF 4 1 0,aL 5 4,aO 6 (.bin .lss (.t 5) (.v (.c (.i .i64 16)))),aM 3 6] (.cond (.t 3) .skip (.ops [aF 7 1 0,aL 8 7,aO 9 (.bin .gtr (.t 8) (.v (.c (.i .i64 512)))),aM 3 9]))) A9D)) A9C),[.tmp 2]⟩
def fA:E2:=E6
def C1t (n:Nat):KV:=kQ fA n A9C [] uL.fin
def A9F (n:Nat):KV:=F6 0 (C1t n)
def A1K (n:Nat) (x1 x3:Val):AtH:=aj fA n A9D (A9F n) [1,3] [x1,x3]
def vA:=rx fA uL
def sC (n:Nat) (x1 x10:Val):AtH:=aj fA n A9E (A9F n) [1,10] [x1,x10]
theorem B5A (n:Nat) (a0:Val) (h:A4):vA n [a0] h=bnd (cells? a0) fun c1=>bnd (A9 (.c (.p h.length 0)) 0) fun v2=>bnd (A7 (h++[some (Row.mk (c1) true)]) v2) fun v3=>bnd (B5 .lss v3 (.c (.i .i64 16))) fun v4=>cnd v4 (A1K n (.c (.p h.length 0)) v4 (h++[some (Row.mk (c1) true)])) (bnd (A9 (.c (.p h.length 0)) 0) fun v5=>bnd (A7 (h++[some (Row.mk (c1) true)]) v5) fun v6=>bnd (B5 .gtr v6 (.c (.i .i64 512))) fun v7=>A1K n (.c (.p h.length 0)) v7 (h++[some (Row.mk (c1) true)])):=by kernel_rfl
theorem Q3 (n:Nat) (x1 x3:Val) (h:A4):A1K n x1 x3 h=cnd x3 (some ((.c (.i .i64 1)),h)) (bnd (A9 x1 1) fun v8=>bnd (A7 h v8) fun v9=>bnd (B5 .lss v9 (.c (.i .i64 8))) fun T6=>cnd T6 (sC n x1 T6 h) (bnd (A9 x1 1) fun v11=>bnd (A7 h v11) fun v12=>bnd (B5 .gtr v12 (.c (.i .i64 128))) fun v13=>cnd v13 (sC n x1 v13 h) (bnd (A9 x1 1) fun cE=>bnd (A7 h cE) fun dE=>bnd (B5 .rem dE (.c (.i .i64 8))) fun T7=>bnd (B5 .neq T7 (.c (.i .i64 0))) fun W3=>sC n x1 W3 h))):=by kernel_rfl
theorem bO (n:Nat) (x1 x10:Val) (h:A4):sC n x1 x10 h=cnd x10 (some ((.c (.i .i64 1)),h)) (bnd (A9 x1 1) fun dN=>bnd (A7 h dN) fun dO=>bnd (B5 .quo dO (.c (.i .i64 8))) fun jN=>bnd (B5 .add (.c (.i .i64 2)) jN) fun v21=>bnd (A9 x1 0) fun v22=>bnd (A7 h v22) fun v23=>bnd (B5 .geq v21 v23) fun v24=>cnd v24 (some ((.c (.i .i64 1)),h)) (some ((.c (.i .i64 0)),h))):=by kernel_rfl
theorem B0T:FnK Tryz.prog 104 uL fA vA:=.mk2 C9 Tryz.func104 (by kernel_rfl)
def K0:=tl uL fA
theorem cP:SOk Tryz.prog 104 K0:=B0T.sok
theorem B2e:G0 vA K0:=B0T.flat
def A7K:AFn:=⟨sO [1,2] [aB 1 0,aO 2 (.alloc (List.replicate 256 (.i .u8 0))),aO 3 (.mv (.v (.c (.i .i64 0))))] (.seq [1,2] (sO [1,2,4] [aL' 9 3 1,aO 10 (.call 104 [(.t 9)]),aM 4 10] (sO [1,2,4,12] [aM 11 4,aO 12 (.bin .neq (.t 11) (.v (.c (.i .i64 0))))] (.cond (.t 12) (sO [2,3] [aO 13 (.build (List.replicate 256 (.i .u8 0)) []),aM 14 4,aN (.storeN 256 (.t 2) (.t 13)),aM 3 14] .ret) .skip))) (sO [1,2,5] [aO 15 (.buildSl 1 8 ([.i .u8 0,.i .u8 0,.i .u8 0,.i .u8 0,.i .u8 0,.i .u8 0,.i .u8 0,.i .u8 0]) [(0,1,(.v (.c (.i .u8 101)))),(1,1,(.v (.c (.i .u8 115)))),(2,1,(.v (.c (.i .u8 99)))),(3,1,(.v (.c (.i .u8 104)))),(4,1,(.v (.c (.i .u8 101)))),(5,1,(.v (.c (.i .u8 97)))),(6,1,(.v (.c (.i .u8 116)))),(7,1,(.v (.c (.i .u8 49))))]),aO 16 (.mark (.t 15)),aO 17 (.call 212 [(.t 16)]),aO 5 (.alloc (List.replicate 256 (.i .u8 0))),aN (.storeN 256 (.t 5) (.t 17))] (sO [1,2,5] [aL' 18 256 5,aF 19 1 0,aL 20 19,aO 21 (.call 213 [(.t 18),(.v (.c (.i .i64 8))),(.v (.c (.i .i64 2))),(.t 20)]),aN (.storeN 256 (.t 5) (.t 21))] (sO [1,2,5] [aL' 22 256 5,aF 23 1 1,aL 24 23,aO 25 (.call 213 [(.t 22),(.v (.c (.i .i64 10))),(.v (.c (.i .i64 2))),(.t 24)]),aN (.storeN 256 (.t 5) (.t 25))] (.seq [2,5,6] (.draw 1 [aS 27 0 (.mkSl 1 ([.i .u8 0]) (.v (.c (.i .i64 8))) (.v (.c (.i .i64 8)))),aF 28 1 2,aL 29 28,aO 30 (.call 214 [(.t 27),(.v (.c (.i .i64 0))),(.v (.c (.i .i64 8))),(.t 29)]),aM 26 30,aE 31 26 0,aE 32 26 1,aM 6 31] [aM 7 32]) (sO [2,5] [aL' 33 256 5,aM 34 6,aO 35 (.call 215 [(.t 33),(.v (.c (.i .i64 12))),(.t 34)]),aN (.storeN 256 (.t 5) (.t 35))] (sO [2,5,8] [aL' 36 256 5,aO 37 (.call 141 [(.t 36),(.v (.c (.i .i64 0))),(.v (.c (.i .i64 20)))]),aO 38 (.b2s (.t 37)),aO 39 (.call 78 [(.t 38)]),aM 8 39] (sO [2,3] [aL' 40 256 5,aM 41 8,aO 42 (.conv .i64 (.t 41)),aO 43 (.call 213 [(.t 40),(.v (.c (.i .i64 20))),(.v (.c (.i .i64 4))),(.t 42)]),aN (.storeN 256 (.t 2) (.t 43)),aO 3 (.mv (.v (.c (.i .i64 0))))] .ret)))))))),[.cellN 2 256,.tmp 3]⟩
def A7U:E2:=D6 104 K0 (D6 212 iG (D6 213 J5 (D6 214 A4y (D6 215 jW (D6 141 jV (D6 78 A1g E6))))))
def A2q:=rx A7U A7K
theorem B9q (n:Nat) (a0:Val) (h:A4):A2q n [a0] h=bnd (cells? a0) fun c1=>bnd (A8 ((h++[some (Row.mk (c1) true)])++[some (Row.mk (List.replicate 256 (.i .u8 0)) true)]) 3 (.c (.p h.length 0))) fun v2=>bnd (K0 [v2] ((h++[some (Row.mk (c1) true)])++[some (Row.mk (List.replicate 256 (.i .u8 0)) true)])) fun p3=>bnd (B5 .neq p3.1 (.c (.i .i64 0))) fun v4=>cnd v4 (bnd (C7 (List.replicate 256 (.i .u8 0)) []) fun c5=>bnd (B4 p3.2 256 (.c (.p (h++[some (Row.mk (c1) true)]).length 0)) (.a c5)) fun h6=>I6 [A8 h6 256 (.c (.p (h++[some (Row.mk (c1) true)]).length 0)),some p3.1] h6) (bnd (C7 ([.i .u8 0,.i .u8 0,.i .u8 0,.i .u8 0,.i .u8 0,.i .u8 0,.i .u8 0,.i .u8 0]) [(0,1,.c (.i .u8 101)),(1,1,.c (.i .u8 115)),(2,1,.c (.i .u8 99)),(3,1,.c (.i .u8 104)),(4,1,.c (.i .u8 101)),(5,1,.c (.i .u8 97)),(6,1,.c (.i .u8 116)),(7,1,.c (.i .u8 49))]) fun c7=>bnd (A2w (p3.2++[some (Row.mk (c7) true)]) (.c (.sl p3.2.length 0 8 1))) fun v8=>bnd (iG [v8] (p3.2++[some (Row.mk (c7) true)])) fun p9=>bnd (B4 (p9.2++[some (Row.mk (List.replicate 256 (.i .u8 0)) true)]) 256 (.c (.p p9.2.length 0)) p9.1) fun h10=>bnd (A8 h10 256 (.c (.p p9.2.length 0))) fun v11=>bnd (A9 (.c (.p h.length 0)) 0) fun v12=>bnd (A7 h10 v12) fun v13=>bnd (J5 [v11,.c (.i .i64 8),.c (.i .i64 2),v13] h10) fun dG=>bnd (B4 dG.2 256 (.c (.p p9.2.length 0)) dG.1) fun h15=>bnd (A8 h15 256 (.c (.p p9.2.length 0))) fun T7=>bnd (A9 (.c (.p h.length 0)) 1) fun W3=>bnd (A7 h15 W3) fun dN=>bnd (J5 [T7,.c (.i .i64 10),.c (.i .i64 2),dN] h15) fun oY=>bnd (B4 oY.2 256 (.c (.p p9.2.length 0)) oY.1) fun h20=>bnd (A8x (.c (.i .i64 8)) (.c (.i .i64 8))) fun n21=>bnd (A9 (.c (.p h.length 0)) 2) fun v22=>bnd (A7 h20 v22) fun v23=>bnd (quiet ((h20++[none]).set (h20.length+0) (some (Row.mk (rows ([.i .u8 0]) n21) true))) (A4y [(.c (.sl (h20.length+0) 0 n21 1)),.c (.i .i64 0),.c (.i .i64 8),v23] ((h20++[none]).set (h20.length+0) (some (Row.mk (rows ([.i .u8 0]) n21) true))))) fun fU=>bnd (H0 fU.1 0) fun v25=>bnd (H0 fU.1 1) fun v26=>bnd (A8 fU.2 256 (.c (.p p9.2.length 0))) fun v27=>bnd (jW [v27,.c (.i .i64 12),v25] fU.2) fun p28=>bnd (B4 p28.2 256 (.c (.p p9.2.length 0)) p28.1) fun h29=>bnd (A8 h29 256 (.c (.p p9.2.length 0))) fun v30=>bnd (jV [v30,.c (.i .i64 0),.c (.i .i64 20)] h29) fun p31=>bnd (A8w p31.2 p31.1) fun v32=>bnd (A1g [v32] p31.2) fun p33=>bnd (A8 p33.2 256 (.c (.p p9.2.length 0))) fun v34=>bnd (dJ .i64 p33.1) fun v35=>bnd (J5 [v34,.c (.i .i64 20),.c (.i .i64 4),v35] p33.2) fun p36=>bnd (B4 p36.2 256 (.c (.p (h++[some (Row.mk (c1) true)]).length 0)) p36.1) fun h37=>I6 [A8 h37 256 (.c (.p (h++[some (Row.mk (c1) true)]).length 0)),some (.c (.i .i64 0))] h37):=by kernel_rfl
theorem B64:FnK Tryz.prog 137 A7K A7U A2q:=.mk2 (B8 cP (B8 A2v (B8 vD (B8 C3Z (B8 A5O (B8 A5N (B8 B68 C9))))))) Tryz.func137 (by kernel_rfl)
def iL:=tl A7K A7U
theorem A8t:SOk Tryz.prog 137 iL:=B64.sok
theorem B55:G0 A2q iL:=B64.flat
def A7J:AFn:=⟨sO [1,2] [aB 1 0,aO 2 (.alloc ([.i .i64 0,.i .i64 0,.i .u64 0])),aO 3 (.mv (.v (.c (.i .i64 0))))] (sO [1,2,4] [aL' 10 256 1,aO 11 (.call 141 [(.t 10),(.v (.c (.i .i64 12))),(.v (.c (.i .i64 8)))]),aO 12 (.call 140 [(.t 11),(.v (.c (.i .i64 0))),(.v (.c (.i .i64 8)))]),aM 9 12,aE 13 9 0,aE 14 9 1,aM 4 13,aM 5 14] (.seq [1,2,6] (.draw 1 [aL' 15 256 1,aO 16 (.call 142 [(.t 15),(.v (.c (.i .i64 8))),(.v (.c (.i .i64 2)))]),aL' 17 256 1,aO 18 (.call 142 [(.t 17),(.v (.c (.i .i64 10))),(.v (.c (.i .i64 2)))]),aM 19 4,aO 20 (.build ([.i .i64 0,.i .i64 0,.i .u64 0]) [(0,1,(.t 16)),(1,1,(.t 18)),(2,1,(.t 19))]),aS 6 0 (.alloc ([.i .i64 0,.i .i64 0,.i .u64 0]))] [aN (.storeN 3 (.t 6) (.t 20))]) (.seq [2,6] (sO [1,2,6,7,8] [aL' 22 3 6,aO 23 (.call 137 [(.t 22)]),aM 21 23,aE 24 21 0,aE 25 21 1,aO 7 (.alloc (List.replicate 256 (.i .u8 0))),aN (.storeN 256 (.t 7) (.t 24)),aM 8 25] (sO [2,6,32] [aM 26 8,aO 27 (.bin .neq (.t 26) (.v (.c (.i .i64 0)))),aM 28 27,aG 29 28 false (.loadN 256 (.t 7)),aG 30 28 false (.loadN 256 (.t 1)),aG 31 28 false (.eqA true (List.replicate 256 (.i .u8)) (.t 29) (.t 30)),aO 32 (.pick (.t 28) (.v (.c (.b true))) (.t 31))] (.cond (.t 32) (sO [2,3] [aO 33 (.build ([.i .i64 0,.i .i64 0,.i .u64 0]) []),aN (.storeN 3 (.t 2) (.t 33)),aO 3 (.mv (.v (.c (.i .i64 13))))] .ret) .skip))) (sO [2,3] [aL' 34 3 6,aN (.storeN 3 (.t 2) (.t 34)),aO 3 (.mv (.v (.c (.i .i64 0))))] .ret)))),[.cellN 2 3,.tmp 3]⟩
def A7T:E2:=D6 141 jV (D6 140 A4x (D6 142 N5 (D6 137 iL E6)))
def A2p:=rx A7T A7J
theorem B9p (n:Nat) (a0:Val) (h:A4):A2p n [a0] h=bnd (cells? a0) fun c1=>bnd (A8 ((h++[some (Row.mk (c1) true)])++[some (Row.mk ([.i .i64 0,.i .i64 0,.i .u64 0]) true)]) 256 (.c (.p h.length 0))) fun v2=>bnd (jV [v2,.c (.i .i64 12),.c (.i .i64 8)] ((h++[some (Row.mk (c1) true)])++[some (Row.mk ([.i .i64 0,.i .i64 0,.i .u64 0]) true)])) fun p3=>bnd (A4x [p3.1,.c (.i .i64 0),.c (.i .i64 8)] p3.2) fun p4=>bnd (H0 p4.1 0) fun v5=>bnd (H0 p4.1 1) fun v6=>bnd (A8 p4.2 256 (.c (.p h.length 0))) fun v7=>bnd (quiet (p4.2++[none]) (N5 [v7,.c (.i .i64 8),.c (.i .i64 2)] (p4.2++[none]))) fun p8=>bnd (A8 p4.2 256 (.c (.p h.length 0))) fun v9=>bnd (quiet p8.2 (N5 [v9,.c (.i .i64 10),.c (.i .i64 2)] p8.2)) fun p10=>bnd (C7 ([.i .i64 0,.i .i64 0,.i .u64 0]) [(0,1,p8.1),(1,1,p10.1),(2,1,v5)]) fun c11=>bnd (B4 (p10.2.set (p4.2.length+0) (some (Row.mk ([.i .i64 0,.i .i64 0,.i .u64 0]) true))) 3 (.c (.p (p4.2.length+0) 0)) (.a c11)) fun h12=>bnd (A8 h12 3 (.c (.p (p4.2.length+0) 0))) fun v13=>bnd (iL [v13] h12) fun dG=>bnd (H0 dG.1 0) fun dE=>bnd (H0 dG.1 1) fun T7=>bnd (B4 (dG.2++[some (Row.mk (List.replicate 256 (.i .u8 0)) true)]) 256 (.c (.p dG.2.length 0)) dE) fun h17=>bnd (B5 .neq T7 (.c (.i .i64 0))) fun dN=>bnd (gd dN false (bnd (A8 h17 256 (.c (.p dG.2.length 0))) fun dO=>some (dO,h17)) (some (.no,h17))) fun gH=>bnd (gd dN false (bnd (A8 gH.2 256 (.c (.p h.length 0))) fun v21=>some (v21,gH.2)) (some (.no,gH.2))) fun p22=>bnd (gd dN false (bnd (aeq true (List.replicate 256 (.i .u8)) gH.1 p22.1) fun v23=>some (v23,p22.2)) (some (.no,p22.2))) fun fU=>bnd (F0 dN (.c (.b true)) fU.1) fun v25=>cnd v25 (bnd (C7 ([.i .i64 0,.i .i64 0,.i .u64 0]) []) fun c26=>bnd (B4 fU.2 3 (.c (.p (h++[some (Row.mk (c1) true)]).length 0)) (.a c26)) fun h27=>I6 [A8 h27 3 (.c (.p (h++[some (Row.mk (c1) true)]).length 0)),some (.c (.i .i64 13))] h27) (bnd (A8 fU.2 3 (.c (.p (p4.2.length+0) 0))) fun v28=>bnd (B4 fU.2 3 (.c (.p (h++[some (Row.mk (c1) true)]).length 0)) v28) fun h29=>I6 [A8 h29 3 (.c (.p (h++[some (Row.mk (c1) true)]).length 0)),some (.c (.i .i64 0))] h29):=by kernel_rfl
theorem B63:FnK Tryz.prog 66 A7J A7T A2p:=.mk2 (B8 A5N (B8 C3Y (B8 wN (B8 A8t C9)))) Tryz.func66 (by kernel_rfl)
def iK:=tl A7J A7T
theorem A8s:SOk Tryz.prog 66 iK:=B63.sok
theorem B54:G0 A2p iK:=B63.flat
end
noncomputable section
def B49:AFn:=⟨sO [1] [aB 1 0,aO 2 (.mv (.v (.c (.b false))))] (sO [2] [aL' 3 3 1,aO 4 (.call 104 [(.t 3)]),aO 5 (.bin .eql (.t 4) (.v (.c (.i .i64 0)))),aM 2 5] .ret),[.tmp 2]⟩
def B5e:E2:=D6 104 K0 E6
def A9L:=rx B5e B49
theorem C3Q (n:Nat) (a0:Val) (h:A4):A9L n [a0] h=bnd (cells? a0) fun c1=>bnd (A8 (h++[some (Row.mk (c1) true)]) 3 (.c (.p h.length 0))) fun v2=>bnd (K0 [v2] (h++[some (Row.mk (c1) true)])) fun p3=>bnd (B5 .eql p3.1 (.c (.i .i64 0))) fun v4=>some (v4,p3.2):=by kernel_rfl
theorem C2I:FnK Tryz.prog 150 B49 B5e A9L:=.mk2 (B8 cP C9) Tryz.func150 (by kernel_rfl)
def jT:=tl B49 B5e
theorem A5L:SOk Tryz.prog 150 jT:=C2I.sok
theorem B9z:G0 A9L jT:=C2I.flat
def A0P:AFn:=⟨sO [1,2] [aB 2 0,aO 4 (.mv (.v (.c (.b false))))] (sO [4] [aL' 5 3 2,aO 6 (.call 150 [(.t 5)]),aM 7 6,gM 8 7 true 1,aG 9 7 true (.bin .geq (.t 8) (.v (.c (.i .i64 1)))),aO 10 (.pick (.t 7) (.t 9) (.v (.c (.b false)))),aM 11 10,gM 12 11 true 1,aG 13 11 true (.fAddr (.t 2) 1),aG 14 11 true (.load1 (.t 13)),aG 15 11 true (.bin .leq (.t 12) (.t 14)),aO 16 (.pick (.t 11) (.t 15) (.v (.c (.b false)))),aM 4 16] .ret),[.tmp 4]⟩
def A0T:E2:=D6 150 jT E6
def qF:=rx A0T A0P
theorem B3g (n:Nat) (a0 a1:Val) (h:A4):qF n [a0,a1] h=bnd (cells? a0) fun c1=>bnd (A8 (h++[some (Row.mk (c1) true)]) 3 (.c (.p h.length 0))) fun v2=>bnd (jT [v2] (h++[some (Row.mk (c1) true)])) fun p3=>bnd (gd p3.1 true (some (a1,p3.2)) (some (.no,p3.2))) fun p4=>bnd (gd p3.1 true (bnd (B5 .geq p4.1 (.c (.i .i64 1))) fun v5=>some (v5,p4.2)) (some (.no,p4.2))) fun p6=>bnd (F0 p3.1 p6.1 (.c (.b false))) fun v7=>bnd (gd v7 true (some (a1,p6.2)) (some (.no,p6.2))) fun p8=>bnd (gd v7 true (bnd (A9 (.c (.p h.length 0)) 1) fun v9=>some (v9,p8.2)) (some (.no,p8.2))) fun p10=>bnd (gd v7 true (bnd (A7 p10.2 p10.1) fun v11=>some (v11,p10.2)) (some (.no,p10.2))) fun p12=>bnd (gd v7 true (bnd (B5 .leq p8.1 p12.1) fun v13=>some (v13,p12.2)) (some (.no,p12.2))) fun dG=>bnd (F0 v7 dG.1 (.c (.b false))) fun dE=>some (dE,dG.2):=by kernel_rfl
theorem A7Y:FnK Tryz.prog 146 A0P A0T qF:=.mk2 (B8 A5L C9) Tryz.func146 (by kernel_rfl)
def gY:=tl A0P A0T
theorem B3w:SOk Tryz.prog 146 gY:=A7Y.sok
theorem B0f:G0 qF gY:=A7Y.flat
def B1I:AFn:=⟨sO [] [aO 0 (.mv (.v (.c (.i .i64 0))))] (sO [0] [aO 0 (.mv (.v (.c (.i .i64 1))))] .ret),[.tmp 0]⟩
def B1M:E2:=E6
def B1R:=rx B1M B1I
theorem C1H (n:Nat) (h:A4):B1R n [] h=some ((.c (.i .i64 1)),h):=by kernel_rfl
theorem B82:FnK Tryz.prog 116 B1I B1M B1R:=.mk2 C9 Tryz.func116 (by kernel_rfl)
def R6:=tl B1I B1M
theorem vC:SOk Tryz.prog 116 R6:=B82.sok
theorem B8k:G0 B1R R6:=B82.flat
def A5g:AFn:=⟨sO [1] [aB 1 0,aO 2 (.mv (.v (.c (.i .i64 0)))),aO 3 (.mv (.v (.c (.i .i64 0))))] (.seq [1] (sO [1,6] [aL' 4 3 1,aO 5 (.call 150 [(.t 4)]),aO 6 (.un .not (.t 5))] (.cond (.t 6) (sO [2,3] [aO 2 (.mv (.v (.c (.i .i64 0)))),aO 3 (.mv (.v (.c (.i .i64 0))))] .ret) .skip)) (.seq [2,3] (.draw 0 [aO 7 (.call 116 []),aO 8 (.bin .add (.t 7) (.v (.c (.i .i64 1)))),aF 9 1 1,aL 10 9,aO 11 (.bin .quo (.t 10) (.v (.c (.i .i64 8)))),aM 2 8] [aM 3 11]) .ret)),[.tmp 2,.tmp 3]⟩
def A5s:E2:=D6 150 jT (D6 116 R6 E6)
def A0f:=rx A5s A5g
theorem B71 (n:Nat) (a0:Val) (h:A4):A0f n [a0] h=bnd (cells? a0) fun c1=>bnd (A8 (h++[some (Row.mk (c1) true)]) 3 (.c (.p h.length 0))) fun v2=>bnd (jT [v2] (h++[some (Row.mk (c1) true)])) fun p3=>bnd (aun .not p3.1) fun v4=>cnd v4 (I6 [some (.c (.i .i64 0)),some (.c (.i .i64 0))] p3.2) (bnd (quiet (p3.2++[]) (R6 [] (p3.2++[]))) fun p5=>bnd (B5 .add p5.1 (.c (.i .i64 1))) fun v6=>bnd (A9 (.c (.p h.length 0)) 1) fun v7=>bnd (A7 p3.2 v7) fun v8=>bnd (B5 .quo v8 (.c (.i .i64 8))) fun v9=>I6 [some v6,some v9] p5.2):=by kernel_rfl
theorem B24:FnK Tryz.prog 114 A5g A5s A0f:=.mk2 (B8 A5L (B8 vC C9)) Tryz.func114 (by kernel_rfl)
def W6:=tl A5g A5s
theorem yI:SOk Tryz.prog 114 W6:=B24.sok
theorem B3x:G0 A0f W6:=B24.flat
def A5h:AFn:=⟨sO [1,2] [aB 2 0,aO 4 (.mv (.v (.c (.i .i64 0)))),aO 5 (.mv (.v (.c (.i .i64 0)))),aO 6 (.mv (.v (.c (.b false))))] (.seq [1,2] (sO [1,2,12] [aL' 9 3 2,aM 10 1,aO 11 (.call 146 [(.t 9),(.t 10)]),aO 12 (.un .not (.t 11))] (.cond (.t 12) (sO [4,5,6] [aO 4 (.mv (.v (.c (.i .i64 0)))),aO 5 (.mv (.v (.c (.i .i64 0)))),aO 6 (.mv (.v (.c (.b false))))] .ret) .skip)) (sO [1,7] [aL' 14 3 2,aO 15 (.call 114 [(.t 14)]),aM 13 15,aE 16 13 0,aE 17 13 1,aM 7 16,aM 8 17] (sO [4,5,6] [aM 18 7,aM 19 1,aO 20 (.bin .sub (.t 19) (.v (.c (.i .i64 1)))),aO 21 (.bin .quo (.t 20) (.v (.c (.i .i64 8)))),aO 22 (.bin .add (.t 18) (.t 21)),aM 23 1,aO 24 (.bin .sub (.t 23) (.v (.c (.i .i64 1)))),aO 25 (.bin .rem (.t 24) (.v (.c (.i .i64 8)))),aM 4 22,aM 5 25,aO 6 (.mv (.v (.c (.b true))))] .ret))),[.tmp 4,.tmp 5,.tmp 6]⟩
def A5t:E2:=D6 146 gY (D6 114 W6 E6)
def A0g:=rx A5t A5h
theorem B72 (n:Nat) (a0 a1:Val) (h:A4):A0g n [a0,a1] h=bnd (cells? a0) fun c1=>bnd (A8 (h++[some (Row.mk (c1) true)]) 3 (.c (.p h.length 0))) fun v2=>bnd (gY [v2,a1] (h++[some (Row.mk (c1) true)])) fun p3=>bnd (aun .not p3.1) fun v4=>cnd v4 (I6 [some (.c (.i .i64 0)),some (.c (.i .i64 0)),some (.c (.b false))] p3.2) (bnd (A8 p3.2 3 (.c (.p h.length 0))) fun v5=>bnd (W6 [v5] p3.2) fun p6=>bnd (H0 p6.1 0) fun v7=>bnd (H0 p6.1 1) fun v8=>bnd (B5 .sub a1 (.c (.i .i64 1))) fun v9=>bnd (B5 .quo v9 (.c (.i .i64 8))) fun T6=>bnd (B5 .add v7 T6) fun v11=>bnd (B5 .sub a1 (.c (.i .i64 1))) fun v12=>bnd (B5 .rem v12 (.c (.i .i64 8))) fun v13=>I6 [some v11,some v13,some (.c (.b true))] p6.2):=by kernel_rfl
theorem B25:FnK Tryz.prog 69 A5h A5t A0g:=.mk2 (B8 B3w (B8 yI C9)) Tryz.func69 (by kernel_rfl)
def dU:=tl A5h A5t
theorem A6M:SOk Tryz.prog 69 dU:=B25.sok
theorem B3y:G0 A0g dU:=B25.flat
def A7G:AFn:=⟨sO [1] [aB 1 0,aO 2 (.mv (.v (.c (.i .i64 0))))] (sO [3,4] [aL' 6 3 1,aO 7 (.call 114 [(.t 6)]),aM 5 7,aE 8 5 0,aE 9 5 1,aM 3 8,aM 4 9] (sO [2] [aM 10 3,aM 11 4,aO 12 (.bin .add (.t 10) (.t 11)),aM 2 12] .ret)),[.tmp 2]⟩
def A7P:E2:=D6 114 W6 E6
def A2f:=rx A7P A7G
theorem B9b (n:Nat) (a0:Val) (h:A4):A2f n [a0] h=bnd (cells? a0) fun c1=>bnd (A8 (h++[some (Row.mk (c1) true)]) 3 (.c (.p h.length 0))) fun v2=>bnd (W6 [v2] (h++[some (Row.mk (c1) true)])) fun p3=>bnd (H0 p3.1 0) fun v4=>bnd (H0 p3.1 1) fun v5=>bnd (B5 .add v4 v5) fun v6=>some (v6,p3.2):=by kernel_rfl
theorem B6R:FnK Tryz.prog 151 A7G A7P A2f:=.mk2 (B8 yI C9) Tryz.func151 (by kernel_rfl)
def X7:=tl A7G A7P
theorem A1d:SOk Tryz.prog 151 X7:=B6R.sok
theorem B5H:G0 A2f X7:=B6R.flat
def A3a:AFn:=⟨sO [1,2] [aB 2 0,aO 4 (.mv (.v (.c (.b false))))] (sO [4] [aL' 5 3 2,aO 6 (.call 150 [(.t 5)]),aM 7 6,gM 8 7 true 1,aG 9 7 true (.loadN 3 (.t 2)),aG 10 7 true (.call 151 [(.t 9)]),aG 11 7 true (.bin .geq (.t 8) (.t 10)),aO 12 (.pick (.t 7) (.t 11) (.v (.c (.b false)))),aM 13 12,gM 14 13 true 1,aG 15 13 true (.fAddr (.t 2) 0),aG 16 13 true (.load1 (.t 15)),aG 17 13 true (.bin .lss (.t 14) (.t 16)),aO 18 (.pick (.t 13) (.t 17) (.v (.c (.b false)))),aM 4 18] .ret),[.tmp 4]⟩
def A3o:E2:=D6 150 jT (D6 151 X7 E6)
def uQ:=rx A3o A3a
theorem B5n (n:Nat) (a0 a1:Val) (h:A4):uQ n [a0,a1] h=bnd (cells? a0) fun c1=>bnd (A8 (h++[some (Row.mk (c1) true)]) 3 (.c (.p h.length 0))) fun v2=>bnd (jT [v2] (h++[some (Row.mk (c1) true)])) fun p3=>bnd (gd p3.1 true (some (a1,p3.2)) (some (.no,p3.2))) fun p4=>bnd (gd p3.1 true (bnd (A8 p4.2 3 (.c (.p h.length 0))) fun v5=>some (v5,p4.2)) (some (.no,p4.2))) fun p6=>bnd (gd p3.1 true (bnd (X7 [p6.1] p6.2) fun p7=>some (p7.1,p7.2)) (some (.no,p6.2))) fun p8=>bnd (gd p3.1 true (bnd (B5 .geq p4.1 p8.1) fun v9=>some (v9,p8.2)) (some (.no,p8.2))) fun p10=>bnd (F0 p3.1 p10.1 (.c (.b false))) fun v11=>bnd (gd v11 true (some (a1,p10.2)) (some (.no,p10.2))) fun p12=>bnd (gd v11 true (bnd (A9 (.c (.p h.length 0)) 0) fun v13=>some (v13,p12.2)) (some (.no,p12.2))) fun dG=>bnd (gd v11 true (bnd (A7 dG.2 dG.1) fun dE=>some (dE,dG.2)) (some (.no,dG.2))) fun sF=>bnd (gd v11 true (bnd (B5 .lss p12.1 sF.1) fun W3=>some (W3,sF.2)) (some (.no,sF.2))) fun pB=>bnd (F0 v11 pB.1 (.c (.b false))) fun dO=>some (dO,pB.2):=by kernel_rfl
theorem B0H:FnK Tryz.prog 72 A3a A3o uQ:=.mk2 (B8 A5L (B8 A1d C9)) Tryz.func72 (by kernel_rfl)
def mH:=tl A3a A3o
theorem B5I:SOk Tryz.prog 72 mH:=B0H.sok
theorem B12:G0 uQ mH:=B0H.flat
def B7y:ACode:=sO [3,6,7,8] [aO 8 (.bin .lss (.t 7) (.t 6))] (.seq [3,6,7] (.cond (.t 8) .skip (.exit 0)) (.seq [3,6,7] (.block 1 (sO [3,4,6,7] [aM 9 7,aM 4 9] (.ops [aM 10 3,aM 11 4,aO 12 (.buildSl 1 1 ([.i .i64 0]) [(0,1,(.t 11))]),aO 13 (.app 1 (.t 10) (.t 12)),aM 3 13]))) (.ops [aO 14 (.bin .add (.t 7) (.v (.c (.i .i64 1)))),aM 7 14])))
def B7z:ACode:=sO [2] [aM 15 3,aM 2 15] .ret
def A5f:AFn:=⟨sO [1] [aB 1 0,aO 2 (.nilrow 1)] (sO [1,3] [aO 3 (.nilrow 1)] (.seq [3] (sO [3,6,7] [aL' 5 3 1,aO 6 (.call 151 [(.t 5)]),aO 7 (.mv (.v (.c (.i .i64 0))))] (.block 0 (.loop [3,6,7] B7y))) B7z)),[.tmp 2]⟩
def A0U:E2:=D6 151 X7 E6
def C54 (n:Nat):KV:=kQ A0U n B7z [3] A5f.fin
def C55 (n:Nat):KV:=F6 0 (C54 n)
def A2K (n m:Nat) (x3 x6 x7:Val):AtH:=ar A0U n B7y [3,6,7] (C55 n) m [x3,x6,x7]
def B1S:=rx A0U A5f
theorem C1I (n:Nat) (a0:Val) (h:A4):B1S n [a0] h=bnd (cells? a0) fun c1=>bnd (A8 (((h++[some (Row.mk (c1) true)])++[some (Row.mk ([]) true)])++[some (Row.mk ([]) true)]) 3 (.c (.p h.length 0))) fun v2=>bnd (X7 [v2] (((h++[some (Row.mk (c1) true)])++[some (Row.mk ([]) true)])++[some (Row.mk ([]) true)])) fun p3=>A2K n n (.c (.sl ((h++[some (Row.mk (c1) true)])++[some (Row.mk ([]) true)]).length 0 0 1)) p3.1 (.c (.i .i64 0)) p3.2:=by kernel_rfl
theorem A80 (n m:Nat) (x3 x6 x7:Val) (h:A4):A2K n (m+1) x3 x6 x7 h=bnd (B5 .lss x7 x6) fun v4=>cnd v4 (bnd (C7 ([.i .i64 0]) [(0,1,x7)]) fun c5=>bnd (W7 (h++[some (Row.mk (c5) true)]) 1 x3 (.c (.sl h.length 0 1 1))) fun p6=>bnd (B5 .add x7 (.c (.i .i64 1))) fun v7=>A2K n m p6.1 x6 v7 p6.2) (some (x3,h)):=by kernel_rfl
theorem B83:FnK Tryz.prog 105 A5f A0U B1S:=.mk2 (B8 A1d C9) Tryz.func105 (by kernel_rfl)
def nX:=tl A5f A0U
theorem B0W:SOk Tryz.prog 105 nX:=B83.sok
theorem B9y:B5h B1S nX:=B83.out
end
end Go.Proofs.YteckncopbicmcaaGreat
namespace Go.Proofs.YteckncopbicmcaaGreat
open Go Go.Esc
def T3 (b n:Int):Bool:=decide (16<=b)&&decide (b<=512)&&decide (8<=n)&&decide (n<=128)&&decide (n%8=0)&&decide (2+n/8<b)
theorem N4 {b n:Int}:T3 b n=true↔16<=b/\b<=512/\8<=n/\n<=128/\n%8=0/\2+n/8<b:=by
 unfold T3;simp [and_assoc]
theorem uC {b n:Int}:T3 b n=false↔¬ (16<=b/\b<=512/\8<=n/\n<=128/\n%8=0/\2+n/8<b):=by
 rw [<-N4];simp
abbrev J1 (b n m:Int):List Cell:=[.i .i64 b,.i .i64 n,.i .u64 m]
theorem Z6 {b n m:Int} {h:A4}:K0 [.a (J1 b n m)] h=some (.c (.i .i64 (bif T3 b n then 0 else 1)),h):=by
 have key:∀ g,∃ g',vA 0 [.a (J1 b n m)] g=some (.c (.i .i64 (bif T3 b n then 0 else 1)),g'):=by
  intro g;rw [B5A];have bad:T3 b n=false->(some (Val.c (.i .i64 1),g++[some ⟨J1 b n m,true⟩]))=some (.c (.i .i64 (bif T3 b n then 0 else 1)),g++[some ⟨J1 b n m,true⟩]):=fun h=>by rw [h];rfl
  by_cases c1:b<16
  ·rw [uC.2 (by omega)];exact ⟨_,by simp only [esc,esh,Nat.reduceAdd,Nat.reduceMul,Nat.reduceLT,c1,Q3]<;>rfl⟩
  ·by_cases c2:512<b
   ·rw [uC.2 (by omega)];exact ⟨_,by simp only [esc,esh,Nat.reduceAdd,Nat.reduceMul,Nat.reduceLT,c1,c2,Q3]<;>rfl⟩
   ·by_cases c3:n<8
    ·rw [uC.2 (by omega)];exact ⟨_,by simp only [esc,esh,Nat.reduceAdd,Nat.reduceMul,Nat.reduceLT,c1,c2,c3,Q3,bO]<;>rfl⟩
    ·by_cases c4:128<n
     ·rw [uC.2 (by omega)];exact ⟨_,by simp only [esc,esh,Nat.reduceAdd,Nat.reduceMul,Nat.reduceLT,c1,c2,c3,c4,Q3,bO]<;>rfl⟩
     ·have e1:=C8U (a:=n) (b:=8) (k:=.i64) (by omega) (by omega);by_cases c5:n%8=0
      ·have e2:=A9Z (a:=n) (b:=8) (by omega) (by omega) (by omega);have e3:IntKind.wrap .i64 (2+n/8)=2+n/8:=wrap_i64 (by omega) (by omega);by_cases c6:b<=2+n/8
       ·rw [uC.2 (by omega)];exact ⟨_,by simp only [esc,esh,Nat.reduceAdd,Nat.reduceMul,Nat.reduceLT,c1,c2,c3,c4,e1,c5,e2,e3,c6,Q3,bO]<;>rfl⟩
       ·rw [N4.2 (by omega)];exact ⟨_,by simp only [esc,esh,Nat.reduceAdd,Nat.reduceMul,Nat.reduceLT,c1,c2,c3,c4,e1,c5,e2,e3,c6,Q3,bO]<;>rfl⟩
      ·rw [uC.2 (by omega)];exact ⟨_,by simp only [esc,esh,Nat.reduceAdd,Nat.reduceMul,Nat.reduceLT,c1,c2,c3,c4,e1,c5,Q3,bO]<;>rfl⟩
 obtain ⟨g',e⟩:=key (ro h);exact B2e e (by simp)
theorem iX {b n m:Int} {h:A4}:jT [.a (J1 b n m)] h=some (.c (.b (T3 b n)),h):=by
 have key:∀ g,∃ g',A9L 0 [.a (J1 b n m)] g=some (.c (.b (T3 b n)),g'):=by
  intro g;rw [C3Q];cases c:T3 b n with
  | true=>exact ⟨_,by simp only [esc,esh,Nat.reduceAdd,Nat.reduceMul,Nat.reduceLT,Z6,c]<;>rfl⟩
  | false=>exact ⟨_,by simp only [esc,esh,Nat.reduceAdd,Nat.reduceMul,Nat.reduceLT,Z6,c,Int.reduceEq]<;>rfl⟩
 obtain ⟨g',e⟩:=key (ro h);exact B9z e (by simp)
theorem oV {h:A4}:R6 [] h=some (.c (.i .i64 1),h) :=
 B8k (n:=0) (h2:=ro h) (by rw [C1H]) rfl
def A1U (b n:Int):Int:=bif T3 b n then 2 else 0
def A9G (b n:Int):Int:=bif T3 b n then n/8 else 0
def tU (b n:Int):Int:=A1U b n+A9G b n
theorem A3Q {b n m:Int} {h:A4}:W6 [.a (J1 b n m)] h=some (.t [.c (.i .i64 (A1U b n)),.c (.i .i64 (A9G b n))],h):=by
 have key:∀ g,∃ g',A0f 0 [.a (J1 b n m)] g=some (.t [.c (.i .i64 (A1U b n)),.c (.i .i64 (A9G b n))],g'):=by
  intro g;rw [B71];unfold A1U A9G;cases c:T3 b n with
  | true =>
   have c':=N4.1 c;have e2:=A9Z (a:=n) (b:=8) (by omega) (by omega) (by omega);have e3:IntKind.wrap .i64 (1+1)=2:=wrap_i64 (by omega) (by omega);exact ⟨_,by simp only [esc,esh,Nat.reduceAdd,Nat.reduceMul,Nat.reduceLT,iX,c,oV,e2,e3]<;>rfl⟩
  | false=>exact ⟨_,by simp only [esc,esh,Nat.reduceAdd,Nat.reduceMul,Nat.reduceLT,iX,c]<;>rfl⟩
 obtain ⟨g',e⟩:=key (ro h);exact B3x e (by simp)
theorem A52 {b n:Int}:0<=tU b n/\tU b n<=18:=by
 unfold tU A1U A9G;cases c:T3 b n with
 | true=>have:=N4.1 c;simp only [cond_true];omega
 | false=>simp only [cond_false];omega
theorem A0r {b n m:Int} {h:A4}:X7 [.a (J1 b n m)] h=some (.c (.i .i64 (tU b n)),h):=by
 have key:∀ g,∃ g',A2f 0 [.a (J1 b n m)] g=some (.c (.i .i64 (tU b n)),g'):=by
  intro g;rw [B9b];have hr:=A52 (b:=b) (n:=n);have e3:IntKind.wrap .i64 (A1U b n+A9G b n)=tU b n:=wrap_i64 (by unfold tU at hr;omega) (by unfold tU at hr;omega);exact ⟨_,by simp only [esc,esh,Nat.reduceAdd,Nat.reduceMul,Nat.reduceLT,A3Q,e3]<;>rfl⟩
 obtain ⟨g',e⟩:=key (ro h);exact B5H e (by simp)
def aJ (b n i:Int):Bool:=T3 b n&&decide (1<=i)&&decide (i<=n)
def uA (b n i:Int):Bool:=T3 b n&&decide (tU b n<=i)&&decide (i<b)
theorem A6U {b n m i:Int} {h:A4}:gY [.a (J1 b n m),.c (.i .i64 i)] h=some (.c (.b (aJ b n i)),h):=by
 have key:∀ g,∃ g',qF 0 [.a (J1 b n m),.c (.i .i64 i)] g=some (.c (.b (aJ b n i)),g'):=by
  intro g;rw [B3g];unfold aJ;cases c:T3 b n with
  | true =>
   by_cases c1:1<=i
   ·exact ⟨_,by simp only [esc,esh,Nat.reduceAdd,Nat.reduceMul,Nat.reduceLT,iX,c,c1]<;>rfl⟩
   ·exact ⟨_,by simp only [esc,esh,Nat.reduceAdd,Nat.reduceMul,Nat.reduceLT,iX,c,c1]<;>rfl⟩
  | false=>exact ⟨_,by simp only [esc,esh,Nat.reduceAdd,Nat.reduceMul,Nat.reduceLT,iX,c]<;>rfl⟩
 obtain ⟨g',e⟩:=key (ro h);exact B0f e (by simp)
theorem C0r {b n m i:Int} {h:A4}:mH [.a (J1 b n m),.c (.i .i64 i)] h=some (.c (.b (uA b n i)),h):=by
 have key:∀ g,∃ g',uQ 0 [.a (J1 b n m),.c (.i .i64 i)] g=some (.c (.b (uA b n i)),g'):=by
  intro g;rw [B5n];unfold uA;cases c:T3 b n with
  | true =>
   by_cases c1:tU b n<=i
   ·exact ⟨_,by simp only [esc,esh,Nat.reduceAdd,Nat.reduceMul,Nat.reduceLT,iX,A0r,c,c1]<;>rfl⟩
   ·exact ⟨_,by simp only [esc,esh,Nat.reduceAdd,Nat.reduceMul,Nat.reduceLT,iX,A0r,c,c1]<;>rfl⟩
  | false=>exact ⟨_,by simp only [esc,esh,Nat.reduceAdd,Nat.reduceMul,Nat.reduceLT,iX,c]<;>rfl⟩
 obtain ⟨g',e⟩:=key (ro h);exact B12 e (by simp)
def uE (b n i:Int):Int:=bif aJ b n i then 2+(i-1)/8 else 0
def uF (b n i:Int):Int:=bif aJ b n i then (i-1)%8 else 0
theorem A9k {b n i:Int}:aJ b n i=true↔T3 b n=true/\1<=i/\i<=n:=by
 unfold aJ;simp [and_assoc]
theorem A3R {b n m i:Int} {h:A4}:dU [.a (J1 b n m),.c (.i .i64 i)] h=some (.t [.c (.i .i64 (uE b n i)),.c (.i .i64 (uF b n i)),.c (.b (aJ b n i))],h):=by
 have key:∀ g,∃ g',A0g 0 [.a (J1 b n m),.c (.i .i64 i)] g=some (.t [.c (.i .i64 (uE b n i)),.c (.i .i64 (uF b n i)),.c (.b (aJ b n i))],g'):=by
  intro g;rw [B72];unfold uE uF;cases c:aJ b n i with
  | true =>
   obtain ⟨c1,c2,c3⟩:=A9k.1 c;have c':=N4.1 c1;have e0:A1U b n=2:=by unfold A1U;rw [c1];rfl
   have e1:IntKind.wrap .i64 (i-1)=i-1:=wrap_i64 (by omega) (by omega);have e2:=A9Z (a:=i-1) (b:=8) (by omega) (by omega) (by omega);have e3:IntKind.wrap .i64 (2+(i-1)/8)=2+(i-1)/8:=wrap_i64 (by omega) (by omega);have e4:=C8U (a:=i-1) (b:=8) (k:=.i64) (by omega) (by omega);exact ⟨_,by simp only [esc,esh,Nat.reduceAdd,Nat.reduceMul,Nat.reduceLT,A6U,c,A3Q,e0,e1,e2,e3,e4]<;>rfl⟩
  | false=>exact ⟨_,by simp only [esc,esh,Nat.reduceAdd,Nat.reduceMul,Nat.reduceLT,A6U,c]<;>rfl⟩
 obtain ⟨g',e⟩:=key (ro h);exact B3y e (by simp)
theorem D0h {b n:Int}:0<=A1U b n/\A1U b n<=2/\0<=A9G b n/\A9G b n<=16:=by
 unfold A1U A9G;cases c:T3 b n with
 | true=>have:=N4.1 c;simp only [cond_true];omega
 | false=>simp only [cond_false];omega
def upto (d:Nat):List Int:=(List.range d).map fun (i:Nat)=>(i:Int)
theorem upto_length {d:Nat}:(upto d).length=d:=by simp [upto]
theorem upto_succ {d:Nat}:upto (d+1)=upto d++[(d:Int)]:=by simp [upto,List.range_succ]
theorem B1b {g:A4} {D k:Nat} (hD:D<=18):∀ d i m h id,i+d=D->d<m->Low g.length g h->g.length<=id->rd h id=some ⟨encI (upto i),true⟩ ->
  ∃ v' h',A2K k m (.c (.sl id 0 i 1)) (.c (.i .i64 D)) (.c (.i .i64 i)) h=some (v',h')/\Out g.length h' v' 1 D (encI (upto D))
 | d,i,0,h,id,_,hm,_,_,_=>by omega
 | 0,i,m+1,h,id,hi,hm,hlow,hb,hr=>by
  have e:i=D:=by omega
  subst e;have h1':¬ (i:Int)<i:=by omega
  rw [A80];exact ⟨_,_,by simp only [esc,h1']<;>rfl,by rw [B9,upto_length];omega,id,rfl,hb,hr⟩
 | d+1,i,m+1,h,id,hi,hm,hlow,hb,hr=>by
  obtain ⟨h',a1,a2,a3,a4,a5⟩:=push (ys:=[.i .i64 (i:Int)]) (sz:=1) (n:=i) hlow hr (by rw [B9,upto_length];omega) hb rfl (by omega) (by omega);have e4:encI (upto i)++[Cell.i .i64 (i:Int)]=encI (upto (i+1)):=by rw [upto_succ,A2I];rfl
  rw [e4] at a2;obtain ⟨v',h'',b1,b2⟩:=B1b (k:=k) hD d (i+1) m h' (h.length+1) (by omega) (by omega) a3 a4 a2;have h1':(i:Int)<D:=by omega
  have e5:C7 [Cell.i .i64 0] [(0,1,.c (.i .i64 (i:Int)))]=some [.i .i64 (i:Int)]:=rfl;rw [A80];exact ⟨v',h'',by simp only [esc,h1',e5,a1,E8 (show i+1<9223372036854775808 by omega)];exact b1,b2⟩
theorem B7A {b n m:Int} {h:A4}:nX [.a (J1 b n m)] h=some (.c (.sl h.length 0 (tU b n).toNat 1),h++[some ⟨encI (upto (tU b n).toNat),true⟩]):=by
 have hr:=A52 (b:=b) (n:=n);obtain ⟨v',h',e,ho⟩:=B1b (g:=ro h) (D:=(tU b n).toNat) (k:=(tU b n).toNat+1) (by omega) (tU b n).toNat 0 ((tU b n).toNat+1) (ro h++[some ⟨J1 b n m,true⟩,some ⟨[],true⟩,some ⟨[],true⟩]) ((ro h).length+2) (by omega) (by omega) ((Low.refl (Nat.le_refl _)).new _) (by omega) (by simp;rfl);refine B9y (n:=(tU b n).toNat+1) (v:=v') (h2:=h') ?_ (by simpa [I8] using ho) (by simp);rw [C1I];rw [show (((tU b n).toNat:Nat):Int)=tU b n by omega] at e;simp only [esc,esh,Nat.reduceAdd,Nat.reduceMul,Nat.reduceLT,A0r];exact e
end Go.Proofs.YteckncopbicmcaaGreat
