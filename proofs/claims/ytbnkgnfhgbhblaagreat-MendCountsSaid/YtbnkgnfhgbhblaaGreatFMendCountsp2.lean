/- What the proof of this claim leans on, part 2. -/
import Derived.Test.YtbnkgnfhgbhblaaGreatFMendCountsp1
set_option linter.all false
set_option maxRecDepth 100000
open Go Go.Esc
noncomputable section
open Bool renaming and_eq_true→E5S,and_false→E6T,false_and→E51,not_eq_true'→E6I,or_eq_true→E6S,true_and→E55,false→A6,true→A5
open Int renaming toNat_natCast→E6c
open IntKind renaming wrap→E5U
open List renaming all_cons→E6B,all_eq_true→E6M,append_assoc→E5Y,append_nil→E6m,cons_append→E6q,drop_drop→E6P,drop_eq_getElem_cons→E5X,drop_of_length_le→E56,drop_zero→E6a,getD_eq_getElem?_getD→E5Z,getElem?_append_left→E6t,getElem?_append_right→E57,getElem?_cons_succ→E6F,getElem?_drop→E6J,getElem?_eq_getElem→E5P,getElem?_eq_none→E6x,getElem?_take_of_lt→E6s,getElem_mem→E6v,length_append→E5T,length_cons→E52,length_replicate→E6n,length_set→E6o,length_take→E6l,map_cons→E6X,mem_cons_of_mem→E6f,mem_cons_self→E6g,mem_of_getElem?→E6j,mem_or_eq_of_mem_set→E6A,nil_append→E59,range→E6p,range'→E6y,replicate→E5R,replicate_succ→E6k,set_append_right→E6u,set_cons_succ→E6H,set_cons_zero→E6G,take_of_length_le→E53,take_succ_eq_append_getElem→E58,take_zero→E6U
open Nat renaming add_mul→E6W,add_zero→E6E,le_refl→E5V,le_trans→E6w,min_eq_left→E6R,mod_eq_of_lt→E6K,sub_self→E6D,zero_add→E6e
open Option renaming bind_eq_some_iff→E5Q,bind_some→E54,getD_none→E6L,getD_some→E6z,isSome_none→E6i,isSome_some→E6b,map_eq_some_iff→E6d,none→A7,some→A4
open Option.some renaming injEq→E5W
open Prod.mk renaming injEq→E50
open Go.Proofs.Tryz renaming prog→A8
namespace Go.Esc
section
variable {P:Program} {R:Type}
def A2k {h:B5} {n0:Nat} {slot:Option Nat} {r:Row}:h.length<=(dZ h n0 slot r).2.length:=by
 cases slot<;>simp [dZ]
def D52 {E:O3} (hE:gP P E) {q:Bool} {hr:B5} {n0:Nat} {slot:Option Nat} {o:AOp} {e:Env} {h h':B5} {v:Val}
  (D8:aop E q hr n0 slot o e h (λv h=>A4 (v,h))=A4 (v,h')):h.length<=h'.length:=by
 cases o<;>simp only [aop] at D8
 case store1 a x =>
  simp only [E5Q,E5W,E50] at D8;obtain ⟨h2,hp,_,rfl⟩:=D8;unfold I5 at hp;split at hp
  ·simp only [E5Q] at hp;obtain ⟨r,_,hp⟩:=hp;split at hp<;>cases hp
   simp
  ·cases hp
 case storeN n a x =>
  simp only [E5Q,E5W,E50] at D8;obtain ⟨h2,hp,_,rfl⟩:=D8;unfold E5 at hp;split at hp
  ·simp only [E5Q] at hp;obtain ⟨r,_,hp⟩:=hp;split at hp<;>cases hp
   simp
  ·cases hp
 case app sz a x =>
  simp only [E5Q,E5W] at D8;obtain ⟨⟨v',h2⟩,hp,hpe⟩:=D8;cases hpe;simp only [kV,E5Q] at hp;obtain ⟨ys,_,hp⟩:=hp;split at hp
  ·split at hp<;>cases hp
   simp
  ·simp only [E5Q] at hp;obtain ⟨r,_,hp⟩:=hp;split at hp<;>cases hp
   simp
  ·cases hp
 case copy sz a x =>
  simp only [E5Q,E5W] at D8;obtain ⟨⟨v',h2⟩,hp,hpe⟩:=D8;cases hpe;simp only [C6b] at hp;split at hp
  ·cases hp
  simp only [E5Q] at hp;obtain ⟨ys,_,hp⟩:=hp;split at hp
  ·simp only [E5Q] at hp;obtain ⟨r,_,hp⟩:=hp;split at hp<;>cases hp
   simp
  ·cases hp
 case appZ sz zero x y =>
  simp only [E5Q,E5W] at D8;obtain ⟨⟨v',h2⟩,hp,hpe⟩:=D8;cases hpe;unfold B7O at hp;simp only [E5Q] at hp;obtain ⟨n,_,hp⟩:=hp;split at hp
  ·cases hp;simp
  ·simp only [E5Q] at hp;obtain ⟨r,_,hp⟩:=hp;split at hp<;>cases hp
   simp
  ·cases hp
 case call f args =>
  simp only [E5Q,E5W] at D8;obtain ⟨⟨v',h2⟩,hp,hpe⟩:=D8;cases hpe;have hE1:E f (args.map e.ev) h=A4 (v',h2):=by
   cases q with
   | false=>simpa using hp
   | true =>
    simp only [cond_true,quiet,E5Q] at hp;obtain ⟨p',g1,g2⟩:=hp;split at g2
    ·cases g2;exact g1
    ·cases g2
  exact (hE _ _ _ _ _ hE1).2.2
 case callV f args =>
  simp only [E5Q,E5W] at D8;obtain ⟨⟨v',h2⟩,hp,hpe⟩:=D8;cases hpe;have hE0:A3R E (e.ev f) (args.map e.ev) h=A4 (v',h2):=by
   cases q with
   | false=>simpa using hp
   | true =>
    simp only [cond_true,quiet,E5Q] at hp;obtain ⟨p',g1,g2⟩:=hp;split at g2
    ·cases g2;exact g1
    ·cases g2
  unfold A3R at hE0;split at hE0
  ·exact (hE _ _ _ _ _ hE0).2.2
  ·cases hE0
 case mv=>cases D8;exact E5V _
 case nilrow=>cases D8;exact A2k
 case alloc=>cases D8;exact A2k
 case mkMap=>cases D8;exact A2k
 case mput =>
  simp only [E5Q,E5W,E50] at D8;obtain ⟨w,hp,_,rfl⟩:=D8;unfold A3O at hp;split at hp
  ·simp only [E5Q] at hp;obtain ⟨_,_,_,_,_,_,_,_,hp⟩:=hp;split at hp
   ·cases hp;simp
   ·cases hp
  ·cases hp
 case mset =>
  simp only [E5Q,E5W,E50] at D8;obtain ⟨w,hp,_,rfl⟩:=D8;unfold D22 at hp;split at hp
  ·simp only [E5Q] at hp;obtain ⟨_,_,_,_,_,_,hp⟩:=hp;split at hp
   ·simp only [E5Q,E5W] at hp;obtain ⟨_,_,rfl⟩:=hp;simp
   ·cases hp
  ·cases hp
 case ment =>
  simp only [E5Q,E5W] at D8;obtain ⟨w,hp,hpe⟩:=D8;cases hpe;unfold D21 at hp;split at hp
  ·simp only [E5Q] at hp;obtain ⟨_,_,_,_,_,_,hp⟩:=hp;split at hp
   ·simp only [E5W] at hp;split at hp
    ·cases hp;exact E5V _
    ·cases hp;simp
   ·cases hp
  ·cases hp
 case box =>
  simp only [E5Q,E5W,E50] at D8;obtain ⟨_,_,_,rfl⟩:=D8;exact A2k
 case buildSl =>
  simp only [E5Q,E5W,E50] at D8;obtain ⟨_,_,_,rfl⟩:=D8;exact A2k
 case s2b =>
  simp only [E5Q,E5W,E50] at D8;obtain ⟨_,_,_,rfl⟩:=D8;exact A2k
 case mkSl =>
  simp only [E5Q,E5W,E50] at D8;obtain ⟨_,_,_,rfl⟩:=D8;exact A2k
 all_goals
  simp only [E5Q,E5W,E50] at D8;obtain ⟨_,_,_,rfl⟩:=D8;exact E5V _
def D0b {E:O3} (hE:gP P E) {q:Bool} {hr:B5} {n0:Nat} {o:AOper} {e:Env} {h h':B5} {v:Val}
  (D8:Y7 E q hr n0 o e h (λv h=>A4 (v,h))=A4 (v,h')):h.length<=h'.length:=by
 unfold Y7 at D8;split at D8
 ·exact D52 hE D8
 ·simp only [E5Q,E5W] at D8;obtain ⟨⟨v',h2⟩,hp,hpe⟩:=D8;cases hpe;unfold gd at hp;split at hp
  ·rename_i x _;cases hx:(x==_) with
   | true=>rw [hx] at hp;exact D52 hE hp
   | false=>rw [hx] at hp;cases hp;exact E5V _
  ·cases hp;exact E5V _
  ·cases hp
def put_defers (a:Act) (d:Option Nat) (V:Value):(a.put d V).defers=a.defers:=by cases d<;>rfl
def C4e {N L:Nat} {ops:Array Oper} {E:O3} (hE:gP P E):∀ (l:List Nat) (aos:List AOper) (e:Env) (h:B5) (k:Env->B5->Option R) (r:R),
  All2 (λi ao=>∃ o,ops[i]?=A4 o/\bF P N ops o ao=A5/\ao.slot=A7) l aos->B1c E aos e h k=A4 r->L<=h.length ->
  ∃ e' h',k e' h'=A4 r/\L<=h'.length/\B2Q P N L (λQ=>wpOps P ops Q l) e h .normal e' h'
 | [],[],e,h,k,r,_,D8,hL=>⟨e,h,D8,hL,fun Γ μ a w hs hi hN hd Q hq=>hq μ a w (Mu.le_refl _) (λ_ _=>rfl) hs hi hN hd⟩
 | i::l,ao::aos,e,h,k,r,⟨⟨o,ho,hc,D3P⟩,D3N⟩,D8,hL=>by
  rw [D0c] at D8;obtain ⟨v,h1,hk,B8l⟩:=D8q hE hc D8;have hl1:=D0b hE B8l;obtain ⟨e',h',hk',hL',hst⟩:=C4e hE l aos (e.put ao.dst v) h1 k r D3N hk (E6w hL hl1);refine ⟨e',h',hk',hL',fun Γ μ a w hs hi hN hd Q hq=>?_⟩;show wpOps P ops Q (i::l) a w;rw [wpOps_cons];unfold wpOp;rw [ho];have A1p:o.dst=ao.dst/\A0w N o.dst=A5:=by
   simp only [bF,E5S,decide_eq_true_eq] at hc;exact ⟨hc.1.1.1,hc.1.1.2⟩
  have V7:∀ t,o.dst=A4 t->t<a.tmps.size:=by
   intro t ht;have:=A1p.2;rw [ht] at this;simp [A0w] at this;exact Nat.lt_of_lt_of_le this hN
  refine A5V (hr:=h) (n0:=0) hE hc B8l hs hi (λ_ _ h=>h) (by rw [D3P];trivial) ?_;intro V w' μ' dF hv hi' cQ;rw [D3P] at cQ;refine hst Γ μ' (a.put o.dst V) w' ?_ hi' (by rw [Act.size_put];exact hN) (by rw [put_defers];exact hd) Q ?_
  ·rw [<-A1p.1];exact (hs.mono dF).put V7 hv
  ·intro μ2 a2 w2 h2 h3 h4 h5 h6 h7;exact hq μ2 a2 w2 (Mu.le_trans dF h2) (λid hid=>by rw [h3 id hid];exact cQ id (by omega) (λ_ h=>by cases h)) h4 h5 h6 h7
 | [],_::_,_,_,_,_,h,_,_=>h.elim
 | _::_,[],_,_,_,_,h,_,_=>h.elim
end
def C2j {o:Oper} {p:Nat}:p∈aH o↔∃ e∈o.after,Region.binds .any e=A5/\e.on=p:=by
 unfold aH;simp only [List.mem_map,List.mem_filter,Array.mem_toList_iff];constructor
 ·rintro ⟨e,⟨h1,h2⟩,rfl⟩;exact ⟨e,h1,h2,rfl⟩
 ·rintro ⟨e,h1,h2,rfl⟩;exact ⟨e,⟨h1,h2⟩,rfl⟩
def oR {ops:Array Oper} {listed:Array Bool} {i:Nat}:i∈Region.ready .any ops listed↔∃ o,ops[i]?=A4 o/\listed.getD i A5=A6/\∀ p∈aH o,listed.getD p A6=A5:=by
 unfold Region.ready;simp only [List.mem_filter,List.mem_range,E5S,E6I];constructor
 ·rintro ⟨h1,h2,h3⟩;have ho:ops[i]?=A4 ops[i]:=by simp [h1]
  refine ⟨ops[i],ho,h2,λp hp=>?_⟩;rw [ho] at h3;simp only [Option.map_some,E6z,Array.all_eq_true_iff_forall_mem] at h3;obtain ⟨e,he,hb,rfl⟩:=C2j.1 hp;have:=h3 e he;rw [hb] at this;simpa using this
 ·rintro ⟨o,ho,h2,h3⟩;refine ⟨(Array.getElem?_eq_some_iff.1 ho).1,h2,?_⟩;rw [ho];simp only [Option.map_some,E6z,Array.all_eq_true_iff_forall_mem];intro e he;cases hb:Region.binds .any e with
  | false=>rfl
  | true=>simpa using h3 e.on (C2j.2 ⟨e,he,hb,rfl⟩)
def S5 {listed:Array Bool} {i:Nat} (hi:i<listed.size):(λk=>(listed.setIfInBounds i A5).getD k A6)=pH (λk=>listed.getD k A6) i:=by
 funext k
 unfold pH;by_cases h:k=i
 ·subst h;simp [Array.getD,hi]
 ·simp [Array.getElem?_setIfInBounds_ne (Ne.symm h),h]
def getD_both {listed:Array Bool} {i:Nat} (hi:i<listed.size):listed.getD i A5=listed.getD i A6:=by simp [Array.getD,hi]
def A8A {ops:Array Oper} {listed:Array Bool} (V7:∀ (i:Nat) (o:Oper),ops[i]?=A4 o->∀ p∈aH o,p<i) (hs:listed.size=ops.size):∀ (i:Nat),i<ops.size->listed.getD i A6=A6->Region.ready .any ops listed≠[]:=by
 intro i
 induction i using Nat.strongRecOn with
 | _ i ih =>
  intro hi hu;have ho:ops[i]?=A4 ops[i]:=by simp [hi]
  by_cases h:∀ p∈aH ops[i],listed.getD p A6=A5
  ·have:i∈Region.ready .any ops listed:=oR.2 ⟨_,ho,by rw [getD_both (by omega)];exact hu,h⟩;intro e;rw [e] at this;cases this
  ·have:∃ p,p∈aH ops[i]/\listed.getD p A6=A6:=by
    false_or_by_contra
    rename_i hn;exact h λp hp=>by
     cases hv:listed.getD p A6 with
     | true=>rfl
     | false=>exact absurd ⟨p,hp,hv⟩ hn
   obtain ⟨p,hp,hv⟩:=this;have hpi:=V7 i _ ho p hp;exact ih p hpi (by omega) hv
def left (n:Nat) (listed:Array Bool):Nat:=((E6p n).filter λi=>!listed.getD i A6).length
def B8B {n:Nat} {listed:Array Bool} {i:Nat} (hi:i<n) (hs:listed.size=n) (hu:listed.getD i A6=A6):left n (listed.setIfInBounds i A5)+1<=left n listed:=by
 unfold left;have e:(E6p n).filter (λk=>!(listed.setIfInBounds i A5).getD k A6)=((E6p n).filter λk=>!listed.getD k A6).filter (λk=>decide (k≠i)):=by
  rw [List.filter_filter];apply List.filter_congr;intro k hk;have:=congrFun (S5 (listed:=listed) (i:=i) (by omega)) k
  try simp only at this
  rw [this];unfold pH;by_cases h:k=i<;>simp [h]
 rw [e];have hm:i∈(E6p n).filter λk=>!listed.getD k A6:=by
  rw [List.mem_filter];exact ⟨by simpa using hi,by rw [hu];rfl⟩
 have:=List.length_filter_lt_length_iff_exists (l:=(E6p n).filter λk=>!listed.getD k A6) (p:=λk=>decide (k≠i));have h2:=this.2 ⟨i,hm,by simp⟩;omega
section
variable {P:Program} {ops:Array Oper} {Q:Exit->Act->World->Prop}
def A2l (V7:∀ (i:Nat) (o:Oper),ops[i]?=A4 o->∀ p∈aH o,p<i) {A:Nat} (E11:∀ i,A<=i->i<ops.size->∀ j,j<i->((R5 ops).getD i 0).testBit j=A5) :
  ∀ (k i fuel:Nat) (listed:Array Bool) (a:Act) (w:World),i+k=ops.size->A<=i->listed.size=ops.size->(∀ j,j<ops.size->listed.getD j A6=decide (j<i))->k<=fuel ->
   wpOps P ops Q (E6y i k) a w->wpAny P .any ops Q fuel listed a w
 | 0,i,fuel,listed,a,w,hik,hA,hs,hl,hf,h=>by
  have hr:Region.ready .any ops listed=[]:=by
   apply List.eq_nil_iff_forall_not_mem.2;intro x hx;obtain ⟨o,ho,h2,_⟩:=oR.1 hx;have V7:=(Array.getElem?_eq_some_iff.1 ho).1;rw [getD_both (by omega),hl x V7] at h2;simp at h2;omega
  cases fuel with
  | zero=>exact ⟨hr,h⟩
  | succ f=>exact ⟨λ_=>h,λx hx=>by rw [hr] at hx;cases hx⟩
 | k+1,i,fuel,listed,a,w,hik,hA,hs,hl,hf,h=>by
  obtain ⟨f,rfl⟩:∃ f,fuel=f+1:=⟨fuel-1,by omega⟩;refine ⟨λhe=>absurd he (A8A V7 hs i (by omega) (by rw [hl i (by omega)];simp)),λx hx=>?_⟩;obtain ⟨o,ho,h2,h3⟩:=oR.1 hx;have hxn:=(Array.getElem?_eq_some_iff.1 ho).1;rw [getD_both (by omega),hl x hxn] at h2;simp at h2;have hxi:x=i:=by
   by_cases e:x=i
   ·exact e
   ·have hd:=wX (done:=λj=>listed.getD j A6) V7 (λj oj hj hdj p hp=>by
     have hjn:=(Array.getElem?_eq_some_iff.1 hj).1
     try simp only at hdj
     rw [hl j hjn] at hdj;have:=V7 j oj hj p hp;show listed.getD p A6=A5;rw [hl p (by omega)];simp at hdj ⊢;omega) x o ho h3 i (E11 x (by omega) hxn i (by omega))
    try simp only at hd
    rw [hl i (by omega)] at hd;simp at hd
  subst hxi;rw [List.range'_succ,wpOps_cons] at h;refine wpOp_mono (λa' w' h'=>?_) h;refine A2l V7 E11 k (x+1) f _ a' w' (by omega) (by omega) (by simpa using hs) (λj hj=>?_) (by omega) h';have:=congrFun (S5 (listed:=listed) (i:=x) (by omega)) j
  try simp only at this
  rw [this];unfold pH;show (decide (j=x)||listed.getD j A6)=_;rw [hl j hj];by_cases e:j=x
  ·subst e;simp
  ·simp only [e,decide_false,Bool.false_or];have:(j<x)↔(j<x+1):=by omega
   simp only [this]
end
def Inv.pad {Γ:Ctx} {μ:Mu} {h:B5} {w:World} (hi:Inv Γ μ h w) (m:Nat):Inv Γ μ (h++E5R m A7) w:=by
 have uU:∀ id x,rd (h++E5R m A7) id=A4 x->rd h id=A4 x:=by
  intro id x hx;by_cases hl:id<h.length
  ·rwa [E1 hl] at hx
  ·unfold rd at hx;rw [E57 (by omega),List.getElem?_replicate] at hx;split at hx<;>cases hx
 exact ⟨λid x hx=>hi.rows id x (uU id x hx),λi j x y z z' hx hy=>hi.sep i j x y z z' (uU _ _ hx) (uU _ _ hy),λi x y hx=>hi.own i x y (uU _ _ hx),λid hid=>hi.dom id (by simp at hid;omega),hi.ctx⟩
def E0S {P:Program} {N L:Nat} {ops:Array Oper} {m id:Nat} {l r:List AOper} {E:O3} (hE:gP P E) {e:Env} {h:B5} {R:Type} {k:Env->B5->Option R} {res:R}
  (hc:A1i P N ops m l r=A5) (hc2:B70 ops l.length r.length=A5) (hL:L<=h.length)
  (D8:B3T E h h.length l e (h++E5R m A7) (λe h=>B1c E r e h k)=A4 res) :
  ∃ e' h',k e' h'=A4 res/\L<=h'.length/\B2Q P N L ((Code.region id ops A5).wp P) e h .normal e' h':=by
 have D:=A71 hc;have last:=C6A hc2 D.size;obtain ⟨es,hs,vs,he,h0,ht,hk⟩:=C8g l _ _ D8;have D5d:All2 (λi ao=>∃ o,ops[i]?=A4 o/\bF P N ops o ao=A5/\ao.slot=A7) (E6y l.length r.length) r:=by
  refine All2.of_get (by simp) λi x ao hx hao=>?_
  have hi:i<r.length:=(List.getElem?_eq_some_iff.1 hao).1;rw [List.getElem?_range' hi] at hx;simp at hx;subst hx;have V7:l.length+i<ops.size:=by rw [D.size];omega
  refine ⟨ops[l.length+i],by simp [V7],?_,D.rslot ao (E6j hao)⟩;refine D.oper (l.length+i) _ ao (by simp [V7]) ?_;rw [E57 (by omega)];simpa using hao
 have hbl:=mH D ht h0 (k:=l.length) (E5V _);obtain ⟨e',h',hk',hL',hst⟩:=C4e (L:=L) hE _ r (es l.length) (hs l.length) k res D5d hk (by omega);refine ⟨e',h',hk',hL',fun Γ μ0 a w hs0 hi hN hd Q hq=>wp_region_any D.follows ?_⟩;have whole:∀ (listed:Array Bool) (a:Act) (w:World) (q:Nat) (μ:Mu),Sim Γ l h.length N e es hs vs μ0 (λi=>listed.getD i A6) q μ a w->(∀ j,j<l.length->listed.getD j A6=A5)->wpOps P ops Q (E6y l.length r.length) a w:=by
  intro listed a w q μ S pL;have C9m:SEnv μ (es l.length) a:=by
   intro t;by_cases hw:∃ (j:Nat) (aj:AOper),l[j]?=A4 aj/\aj.dst=A4 t
   ·obtain ⟨j,aj,pF,hdj⟩:=hw;have hjl:=(List.getElem?_eq_some_iff.1 pF).1;rw [rU D ht pF hdj l.length hjl (E5V _)];exact S.envD j aj t pF (pL j hjl) hdj
   ·have cU:∀ (j:Nat) (aj:AOper),l[j]?=A4 aj->aj.dst≠A4 t:=λj aj pF hdj=>hw ⟨j,aj,pF,hdj⟩
    rw [zY ht he l.length (E5V _) λj aj _ pF=>cU j aj pF];exact S.envO t λj aj pF _=>cU j aj pF
  have hlen:(hs l.length).length=(hs q).length:=by
   have hql:=S.qle;have:=A0f D ht (q:=q) (l.length-q) (by omega) λk ak h1 h2 qO=>by
    cases hck:Z4 ak.op with
    | false=>rfl
    | true =>
     have:=(S.calls k ak qO hck).1 (pL k (by omega));omega
   rwa [show q+(l.length-q)=l.length by omega] at this
  have D0z:HD (hs l.length) (und l h.length λi=>listed.getD i A6) (hs q).length=hs l.length:=by
   refine A0c (by rw [L6,hlen]) λid hid=>?_
   rw [L6] at hid;have hu:und l h.length (λi=>listed.getD i A6) id=A6:=by
    cases hu:und l h.length (λi=>listed.getD i A6) id with
    | false=>rfl
    | true =>
     obtain ⟨k,hk,ao,j,qO,_⟩:=aP.1 hu;have:=pL k (List.getElem?_eq_some_iff.1 qO).1;rw [this] at hk;cases hk
   rw [vS,if_pos ⟨hid,hu⟩]
  have hinv:=S.inv;rw [D0z] at hinv;exact hst Γ μ a w C9m hinv S.size S.defers Q fun μ' a' w' g1 g2 g3 g4 g5 g6=>hq μ' a' w' (Mu.le_trans S.le g1) (λid hid=>(g2 id hid).trans (S.keep id (by omega))) g3 g4 g5 g6
 have main:∀ (fuel:Nat) (listed:Array Bool) (a:Act) (w:World) (q:Nat) (μ:Mu),listed.size=ops.size->left ops.size listed<=fuel ->
   (∀ j,l.length<=j->j<ops.size->listed.getD j A6=A6)->(∀ (i:Nat) (o:Oper),ops[i]?=A4 o->listed.getD i A6=A5->∀ p∈aH o,listed.getD p A6=A5) ->
   Sim Γ l h.length N e es hs vs μ0 (λi=>listed.getD i A6) q μ a w->wpAny P .any ops Q fuel listed a w:=by
  intro fuel
  induction fuel with
  | zero =>
   intro listed a w q μ hsz B4m dO dP S;have pL:∀ j,j<ops.size->listed.getD j A6=A5:=by
    intro j hj;cases hv:listed.getD j A6 with
    | true=>rfl
    | false =>
     have hm:j∈(E6p ops.size).filter λi=>!listed.getD i A6:=by rw [List.mem_filter];exact ⟨by simpa using hj,by rw [hv];rfl⟩
     have:=List.length_pos_of_mem hm;unfold left at B4m;omega
   have hr0:r.length=0:=by
    cases hr:r.length with
    | zero=>rfl
    | succ x =>
     have h1:=pL l.length (by rw [D.size];omega);have h2:=dO l.length (E5V _) (by rw [D.size];omega);rw [h1] at h2;cases h2
   refine A2l D.dir last 0 l.length 0 listed a w (by rw [D.size];omega) (E5V _) hsz (λj hj=>?_) (E5V _) ?_
   ·rw [pL j hj];have:j<l.length:=by rw [D.size] at hj;omega
    simp [this]
   ·have:=whole listed a w q μ S λj hj=>pL j (by rw [D.size];omega)
    rw [hr0] at this;exact this
  | succ fuel ih =>
   intro listed a w q μ hsz B4m dO dP S;by_cases pL:∀ j,j<l.length->listed.getD j A6=A5
   ·refine A2l D.dir last r.length l.length (fuel+1) listed a w D.size.symm (E5V _) hsz (λj hj=>?_) ?_ (whole listed a w q μ S pL)
    ·by_cases hjl:j<l.length
     ·rw [pL j hjl];simp [hjl]
     ·rw [dO j (by omega) hj];simp [hjl]
    ·refine E6w ?_ B4m;unfold left;have:((E6p ops.size).filter λi=>!listed.getD i A6)=E6y l.length r.length:=by
      rw [D.size,List.range_add,List.filter_append];have e1:(E6p l.length).filter (λi=>!listed.getD i A6)=[]:=by
       rw [List.filter_eq_nil_iff];intro j hj;rw [pL j (by simpa using hj)];simp
      rw [e1,E59,List.range'_eq_map_range,List.filter_eq_self.2];intro j hj;obtain ⟨x,hx,rfl⟩:=List.mem_map.1 hj;rw [dO _ (by omega) (by rw [D.size];simp at hx;omega)];rfl
     rw [this];simp
   ·have hex:∃ j,j<l.length/\listed.getD j A6=A6:=by
     false_or_by_contra
     rename_i hn;exact pL λj hj=>by
      cases hv:listed.getD j A6 with
      | true=>rfl
      | false=>exact absurd ⟨j,hj,hv⟩ hn
    obtain ⟨j,hj,hv⟩:=hex;refine ⟨λhre=>absurd hre (A8A D.dir hsz j (by rw [D.size];omega) hv),λi hi=>?_⟩;obtain ⟨o,ho,h2,h3⟩:=oR.1 hi;have hin:=(Array.getElem?_eq_some_iff.1 ho).1;rw [getD_both (by omega)] at h2;have hah:=wX (done:=λi=>listed.getD i A6) D.dir dP i o ho h3;have P6:i<l.length:=by
     by_cases e1:i<l.length
     ·exact e1
     ·have:=hah j (last i (by omega) hin j (by omega))
      try simp only at this
      rw [hv] at this;cases this
    have hcl:∀ k,listed.getD k A6=A5->∀ b,((R5 ops).getD k 0).testBit b=A5->listed.getD b A6=A5:=by
     intro k hk b hb;by_cases hkn:k<ops.size
     ·have hok:ops[k]?=A4 ops[k]:=by simp [hkn]
      exact wX (done:=λi=>listed.getD i A6) D.dir dP k _ hok (dP k _ hok hk) b hb
     ·have:listed.getD k A6=A6:=by simp [Array.getD,show ¬ k<listed.size by omega]
      rw [this] at hk;cases hk
    have mX:=D4v D hE ht h0 he S (i:=i) (ao:=l[i]) (o:=o) (E5P P6) ho h2 hah hcl
     (next:=wpAny P .any ops Q fuel (listed.setIfInBounds i A5)) (Q:=Q) (by
      intro V w' μ' q' S';rw [<-S5 (by omega)] at S';refine ih (listed.setIfInBounds i A5) _ w' q' μ' (by simpa using hsz) (by have:=B8B hin hsz h2;omega) ?_ ?_ S'
      ·intro k hk hkn;have:=congrFun (S5 (listed:=listed) (i:=i) (by omega)) k
       try simp only at this
       rw [this,aD _ _ (by omega)];exact dO k hk hkn
      ·intro k ok hok hdk p hp;have e1:=congrFun (S5 (listed:=listed) (i:=i) (by omega)) k;have e2:=congrFun (S5 (listed:=listed) (i:=i) (by omega)) p
       try simp only at e1 e2
       rw [e1] at hdk;rw [e2];have B4l:listed.getD p A6=A5:=by
        by_cases e3:k=i
        ·subst e3;rw [ho] at hok;cases hok;exact h3 p hp
        ·rw [aD _ _ e3] at hdk;exact dP k ok hok hdk p hp
       unfold pH;show (decide (p=i)||listed.getD p A6)=A5;rw [B4l];simp)
    unfold wpOp;rw [ho];exact mX
 have hgd:∀ i:Nat,(Array.replicate ops.size A6).getD i A6=A6:=by intro i;simp [Array.getD]
 have E2G:(λi=>(Array.replicate ops.size A6).getD i A6)=λ_=>A6:=funext hgd
 refine main ops.size (Array.replicate ops.size A6) a _ 0 μ0 (by simp) ?_ (λj _ _=>hgd j) (λi o _ hd=>by rw [hgd] at hd;cases hd) ?_
 ·unfold left;exact E6w (List.length_filter_le _ _) (by simp)
 ·rw [E2G];have E2L:HD (hs l.length) (und l h.length λ_=>A6) (hs 0).length=h++E5R m A7:=by
   rw [h0];refine A0c (by rw [L6]) λid hid=>?_
   rw [L6] at hid;rw [vS];by_cases ho:∃ i,A2R l h.length i id
   ·obtain ⟨i,ho⟩:=ho;have hu:und l h.length (λ_=>A6) id=A5:=aP.2 ⟨i,rfl,ho⟩;rw [hu];have:=A6D D ht h0 ho 0 (Nat.zero_le _);rw [h0] at this;rw [this];simp
   ·have cU:∀ i,0<=i->¬ A2R l h.length i id:=λi _ hi=>ho ⟨i,hi⟩
    have hu:und l h.length (λ_=>A6) id=A6:=by
     cases hu:und l h.length (λ_=>A6) id with
     | false=>rfl
     | true=>obtain ⟨i,_,hi⟩:=aP.1 hu;exact absurd ⟨i,hi⟩ ho
    rw [if_pos ⟨hid,hu⟩];have:=pM D ht (k:=0) (id:=id) (by rw [h0];exact hid) cU l.length (by omega);rw [E6e,h0] at this;exact this
  refine ⟨Nat.zero_le _,λi ao _ _=>⟨λh=>(by cases h),λh=>(by omega)⟩,λi ao d _ h=>(by cases h),λt _=>hs0 t,?_,λid hid=>?_,Mu.le_refl _,λ_ _=>rfl,hN,hd⟩
  ·rw [E2L];exact (hi.pad m).world rfl rfl rfl λ_ _=>rfl
  ·obtain ⟨i,_,ao,j,_,_,rfl⟩:=aP.1 hid;exact hi.dom _ (by omega)
def C4m:AOp->Bool
 | .mv _ | .pick .. | .bin .. | .eqA .. | .eqB .. | .eqN .. | .nilc _ | .un .. | .conv .. | .convS _ | .fAddr .. | .iAddrA .. | .iAddrL .. | .fld1 .. | .fldN .. | .idxA1 .. | .idxAN .. | .idxS .. | .ext .. | .len _ | .lenS _ | .max .. | .min ..=>A5
 | _=>A6
def E0B {E:O3} {q:Bool} {hr:B5} {n0:Nat} {slot:Option Nat} {o:AOp} {e:Env} {h h':B5} {v:Val} (hp:C4m o=A5)
  (D8:aop E q hr n0 slot o e h (λv h=>A4 (v,h))=A4 (v,h')):∀ (q2:Bool) (hr2:B5) (n2:Nat) (slot2:Option Nat) (h2:B5),aop E q2 hr2 n2 slot2 o e h2 (λv h=>A4 (v,h))=A4 (v,h2):=by
 intro q2 hr2 n2 slot2 h2;cases o<;>simp [C4m] at hp<;>simp only [aop] at D8 ⊢
 case mv=>cases D8;rfl
 all_goals
  simp only [E5Q,E5W,E50] at D8;obtain ⟨_,h1,rfl,rfl⟩:=D8;rw [h1];rfl
def D10:AOp->Bool
 | .load1 _ | .loadN ..=>A5
 | _=>A6
def D8n {E:O3} {q:Bool} {n0:Nat} {slot:Option Nat} {o:AOp} {e:Env} {h:B5} {v:Val} (hp:D10 o=A5) (hr:A8w h o e=A4 v):aop E q h n0 slot o e h (λv h=>A4 (v,h))=A4 (v,h):=by
 cases o<;>simp [D10] at hp<;>simp only [A8w] at hr<;>simp only [aop,hr]<;>rfl
def D5D {o:AOp} {e e':Env} {h:B5} (he:∀ x∈o.opds,e.ev x=e'.ev x):A8w h o e=A8w h o e':=by
 cases o<;>simp only [AOp.opds] at he<;>simp only [A8w]
 ·rw [he _ (by simp)]
 ·rw [he _ (by simp)]
def C72:AOp->AOp->Bool
 | .load1 (.t a),.load1 (.t b)=>decide (a=b)
 | .loadN n (.t a),.loadN m (.t b)=>decide (n=m)&&decide (a=b)
 | _,_=>A6
def D4s {o p:AOp} (h:C72 o p=A5):o=p/\D10 p=A5:=by
 unfold C72 at h;split at h
 ·have:=of_decide_eq_true h;subst this;exact ⟨rfl,rfl⟩
 ·rw [E5S] at h;have h1:=of_decide_eq_true h.1;have h2:=of_decide_eq_true h.2;subst h1 h2;exact ⟨rfl,rfl⟩
 ·cases h
def C6y (s:AOper) (chk:List (Nat × AOp)) (o:AOper):Bool :=
 decide (o.guard=A7)&&decide (o.slot=A7) && !Z4 o.op && !Y3 o.op &&
 (match o.dst with
  | some d=>!(s.reads.contains d)&&(C4m o.op||chk.any λc=>decide (c.1=d)&&C72 c.2 o.op)
  | none=>A6) &&
 (match s.dst with | some d=>!(o.reads.contains d) | none=>A5)
def D64 (ops:Array Oper) (l:List AOper) (s:AOper) (chk:List (Nat × AOp)) (r:List AOper):Bool :=
 let cl:=R5 ops
 l.zipIdx.all (λp=>(cl.getD l.length 0).testBit p.2||C6y s chk p.1) &&
 l.all (λo=>match s.dst with | some d=>decide (o.dst≠A4 d) | none=>A5) &&
 l.zipIdx.all (λp=>l.zipIdx.all λq=>match q.1.dst with | some d=>!(p.1.reads.contains d)||((cl.getD p.2 0).testBit q.2&&decide (q.2<p.2)) | none=>A5) &&
 B70 ops (l.length+1) r.length
def D8c (ops:Array Oper) (l:List AOper):Prop:=∀ (i j:Nat) ai aj d,l[i]?=A4 ai->l[j]?=A4 aj->aj.dst=A4 d->d∈ai.reads->((R5 ops).getD i 0).testBit j=A5/\j<i
structure Float1 (s:AOper) (chk:List (Nat × AOp)) (o:AOper):Prop where
 guard:o.guard=A7
 slot:o.slot=A7
 call:Z4 o.op=A6
 Y3:Y3 o.op=A6
 dst:∃ d,o.dst=A4 d/\d ∉ s.reads/\(C4m o.op=A5\/(D10 o.op=A5/\(d,o.op)∈chk))
 reads:∀ d,s.dst=A4 d->d ∉ o.reads
def D3m {s:AOper} {chk:List (Nat × AOp)} {o:AOper} (h:C6y s chk o=A5):Float1 s chk o:=by
 simp only [C6y,E5S,decide_eq_true_eq,E6I] at h;obtain ⟨⟨⟨⟨⟨h1,h2⟩,h3⟩,h4⟩,h5⟩,h6⟩:=h;refine ⟨h1,h2,h3,h4,?_,λd hd=>?_⟩
 ·split at h5
  ·rename_i d hd;simp only [E5S,E6I,E6S] at h5;refine ⟨d,hd,λhm=>?_,?_⟩
   ·have:=h5.1;rw [List.contains_iff_mem.2 hm] at this;cases this
   ·rcases h5.2 with h | h
    ·exact .inl h
    ·right
     rw [List.any_eq_true] at h;obtain ⟨c,hc,h⟩:=h;simp only [E5S,decide_eq_true_eq] at h;obtain ⟨e1,e2⟩:=D4s h.2;refine ⟨e2,?_⟩;have:c=(d,o.op):=by cases c;simp at h e1;simp [h.1,e1]
     rw [<-this];exact hc
  ·cases h5
 ·rw [hd] at h6;simp only [E6I] at h6;intro hm;rw [List.contains_iff_mem.2 hm] at h6;cases h6
def D2X {R:Type} {e:Env} {h:B5} {k:Option R} {res:R}:∀ {l:List (Nat × AOp)},again l e h k=A4 res->k=A4 res/\∀ c∈l,A8w h c.2 e=A4 (e.get c.1)
 | [],hr=>⟨hr,by simp⟩
 | c::l,hr=>by
  rw [C6e] at hr;unfold agn at hr;split at hr
  ·rename_i hc;obtain ⟨h1,h2⟩:=D2X hr;exact ⟨h1,λx hx=>by rcases List.mem_cons.1 hx with e | hx;subst e;exact hc;exact h2 x hx⟩
  ·cases hr
structure Sim2 (Γ:Ctx) (l:List AOper) (s:AOper) (n0 N:Nat) (e:Env) (vs:Nat->Val) (v:Val) (μ0:Mu) (done:Nat->Bool) (h2:B5) (μ:Mu) (a:Act) (w:World):Prop where
 envD:∀ (i:Nat) ao d,l[i]?=A4 ao->done i=A5->ao.dst=A4 d->RV μ (vs i) (a.tmps.getD d undef)
 envO:∀ t,(∀ (i:Nat) ao,l[i]?=A4 ao->done i=A5->ao.dst≠A4 t)->s.dst≠A4 t->RV μ (e.get t) (a.tmps.getD t undef)
 envS:∀ d,s.dst=A4 d->RV μ v (a.tmps.getD d undef)
 inv:Inv Γ μ h2 w
 le:μ0.le μ
 keep:∀ id,id<n0 -> μ id = μ0 id
 size:N<=a.tmps.size
 defers:a.defers = Γ.ds
def B1U {a:Act} {dst:Option Nat} {V:Value} {t:Nat} (h:dst≠A4 t):(a.put dst V).tmps.getD t undef=a.tmps.getD t undef:=by
 cases hd:dst with
 | none=>rfl
 | some d =>
  rw [hd] at h;simp [Act.put,Array.getElem?_setIfInBounds_ne (show d≠t from λe=>h (by rw [e]))]
def B4k {a:Act} {d N:Nat} {V:Value} (h:A0w N (A4 d)=A5) (hN:N<=a.tmps.size):(a.put (A4 d) V).tmps.getD d undef=V:=by
 have V7:d<a.tmps.size:=by
  simp [A0w] at h;exact Nat.lt_of_lt_of_le h hN
 simp [Act.put,Array.getD,V7]
section
variable {P:Program} {N m:Nat} {ops:Array Oper} {l r:List AOper} {s:AOper} {chk:List (Nat × AOp)} {E:O3} {hr:B5} {e:Env} {es:Nat->Env} {hs:Nat->B5} {vs:Nat->Val} {Γ:Ctx} {μ0:Mu}
def E0T (D:DrawOk P N ops m l (s::r)) (hR:D8c ops l) (ht:Trace E hr hr.length l es hs vs) (he:es 0=e) {i t:Nat} {ao:AOper} (ha:l[i]?=A4 ao) (hm:t∈ao.reads):(es l.length).get t=(es i).get t:=by
 have P6:i<l.length:=(List.getElem?_eq_some_iff.1 ha).1;by_cases hw:∃ (j:Nat) (aj:AOper),l[j]?=A4 aj/\aj.dst=A4 t
 ·obtain ⟨j,aj,pF,hd⟩:=hw;obtain ⟨_,h2⟩:=hR i j ao aj t ha pF hd hm;rw [rU D ht pF hd i h2 (by omega),rU D ht pF hd l.length (by omega) (E5V _)]
 ·have cU:∀ (j:Nat) (aj:AOper),l[j]?=A4 aj->aj.dst≠A4 t:=λj aj pF hd=>hw ⟨j,aj,pF,hd⟩
  rw [zY ht he i (by omega) λj aj _ pF=>cU j aj pF,zY ht he l.length (E5V _) λj aj _ pF=>cU j aj pF]
def D7Y (D:DrawOk P N ops m l (s::r)) (hR:D8c ops l) (hE:gP P E) (ht:Trace E hr hr.length l es hs vs) (he:es 0=e) {v:Val} {h2:B5} (hag:∀ c∈chk,A8w h2 c.2 (es l.length)=A4 ((es l.length).get c.1))
  {done:Nat->Bool} {μ:Mu} {a:Act} {w:World} (S:Sim2 Γ l s hr.length N e vs v μ0 done h2 μ a w) {i:Nat} {ao:AOper} {o:Oper} (ha:l[i]?=A4 ao) (ho:ops[i]?=A4 o) (hnd:done i=A6) (hf:Float1 s chk ao)
  (D6h:∀ (k:Nat) ak d,l[k]?=A4 ak->s.dst=A4 d->ak.dst≠A4 d)
  (hah:∀ b,((R5 ops).getD i 0).testBit b=A5->done b=A5)
  {next:Act->World->Prop} {Q:Exit->Act->World->Prop} (hn:∀ V w' μ',Sim2 Γ l s hr.length N e vs v μ0 (pH done i) h2 μ' (a.put o.dst V) w'->next (a.put o.dst V) w') :
  if Region.wanted o (yielded ops a.tmps) then o.wp P a w next Q\/(o.asks P a w/\LetsOut Q) else next (a.put o.dst undef) w:=by
 have P6:i<l.length:=(List.getElem?_eq_some_iff.1 ha).1;have hco:bF P N ops o ao=A5:=D.oper i o ao ho (by rw [E6t P6];exact ha);have A1p:o.dst=ao.dst/\A0w N o.dst=A5:=by
  simp only [bF,E5S,decide_eq_true_eq] at hco;exact ⟨hco.1.1.1,hco.1.1.2⟩
 obtain ⟨d,hd,hds,E3X⟩:=hf.dst;have C9m:SEnv μ ((es i).keep ao.reads) a:=by
  intro t;rw [Env.get_keep_mem];split
  ·rename_i A0d;by_cases hw:∃ (j:Nat) (aj:AOper),l[j]?=A4 aj/\aj.dst=A4 t
   ·obtain ⟨j,aj,pF,hdj⟩:=hw;obtain ⟨h1,h3⟩:=hR i j ao aj t ha pF hdj A0d;rw [rU D ht pF hdj i h3 (by omega)];exact S.envD j aj t pF (hah j h1) hdj
   ·have cU:∀ (j:Nat) (aj:AOper),l[j]?=A4 aj->aj.dst≠A4 t:=λj aj pF hd=>hw ⟨j,aj,pF,hd⟩
    rw [zY ht he i (by omega) λj aj _ pF=>cU j aj pF];exact S.envO t (λj aj pF _=>cU j aj pF) λhst=>hf.reads t hst A0d
  ·trivial
 have mX:=ht.step i ao ha;have B8l:Y7 E A5 h2 hr.length ao (es i) h2 (λv h=>A4 (v,h))=A4 (vs i,h2):=by
  unfold Y7 at mX ⊢;rw [hf.guard] at mX ⊢;simp only at mX ⊢;rcases E3X with hp | ⟨hp,A0d⟩
  ·exact E0B hp mX _ _ _ _ _
  ·refine D8n hp ?_;have h1:=hag _ A0d;simp only at h1;rw [rU D ht ha hd l.length P6 (E5V _)] at h1;rw [<-h1];refine D5D λx hx=>?_
   cases x with
   | v x=>rfl
   | t n=>exact (E0T D hR ht he ha (List.mem_append_left _ (List.mem_filterMap.2 ⟨.t n,hx,rfl⟩))).symm
 rw [C0C (e':=(es i).keep ao.reads) λt ht'=>by rw [Env.get_keep_mem,if_pos ht']] at B8l;refine A5V (hr:=h2) (n0:=hr.length) hE hco B8l C9m S.inv (λ_ _ h=>h) (by rw [hf.slot];trivial) ?_;intro V w' μ' dF hv hinv cQ;rw [hf.slot] at cQ;refine hn V w' μ' ⟨?_,?_,?_,hinv,Mu.le_trans S.le dF,?_,by rw [Act.size_put];exact S.size,by rw [put_defers];exact S.defers⟩
 ·intro k ak d' qO hdk hd';by_cases e1:k=i
  ·subst e1;rw [ha] at qO;cases qO;rw [A1p.1,hd'];rw [B4k (by rw [<-hd',<-A1p.1];exact A1p.2) S.size];exact hv
  ·rw [aD _ _ e1] at hdk;rw [B1U (by rw [A1p.1];exact λh=>(D.apart i k ao ak ha qO (Ne.symm e1)).1 d' h hd')];exact (S.envD k ak d' qO hdk hd').mono dF
 ·intro t cU hst;have h1:=cU i ao ha (wZ _ _);rw [B1U (by rw [A1p.1];exact h1)];refine (S.envO t (λk ak qO hdk=>?_) hst).mono dF;by_cases e1:k=i
  ·subst e1;rw [hnd] at hdk;cases hdk
  ·exact cU k ak qO (by rw [aD _ _ e1];exact hdk)
 ·intro d' hd';rw [B1U (by rw [A1p.1];exact D6h i ao d' ha hd')];exact (S.envS d' hd').mono dF
 ·intro id hid;by_cases hl:id<h2.length
  ·rw [<-S.keep id hid];exact cQ id hl λj hj=>by cases hj
  ·have h1:=S.inv.dom id (by omega);have h3:=S.keep id hid;rw [h1] at h3;have h4:=hinv.dom id (by omega);rw [h4,<-h3]
end
def D0o {P:Program} {N L:Nat} {ops:Array Oper} {m:Nat} {l r:List AOper} {s:AOper} {chk:List (Nat × AOp)} {E:O3} (hE:gP P E) {e:Env} {h:B5} {R:Type} {k:Env->B5->Option R} {res:R}
  (hc:A1i P N ops m l (s::r)=A5) (hcs:D64 ops l s chk r=A5) (hL:L<=h.length)
  (D8:B3T E h h.length l e (h++E5R m A7) (λe h=>Y7 E A6 h 0 s e h λv h2=>again chk e h2 (B1c E r (e.put s.dst v) h2 k))=A4 res) :
  ∃ e' h',k e' h'=A4 res/\L<=h'.length/\B2Q P N L (λQ a w=>wpAny P .any ops Q ops.size (Array.replicate ops.size A6) a { w with drawn:=w.drawn+1 }) e h .normal e' h':=by
 have D:=A71 hc;simp only [D64,E5S,E6M] at hcs;obtain ⟨⟨⟨hfl,hdi⟩,E5c⟩,hla⟩:=hcs;have hR:D8c ops l:=by
  intro i j ai aj d hi hj hd hr;have:=E5c (ai,i) (mem_zipIdx hi) (aj,j) (mem_zipIdx hj);simp only [hd,E6S,E6I,E5S,decide_eq_true_eq] at this;rcases this with this | this
  ·have hc:ai.reads.contains d=A5:=by simpa using hr
   rw [hc] at this;cases this
  ·exact this
 have hsz:ops.size=l.length+(r.length+1):=by rw [D.size];simp
 have last:=C6A hla (by rw [hsz];omega);have E2F:∀ (i:Nat) ao,l[i]?=A4 ao->((R5 ops).getD l.length 0).testBit i=A6->Float1 s chk ao:=by
  intro i ao ha hb;have:=hfl (ao,i) (mem_zipIdx ha);simp only [E6S] at this;rcases this with h | h
  ·rw [hb] at h;cases h
  ·exact D3m h
 have D6h:∀ (k:Nat) ak d,l[k]?=A4 ak->s.dst=A4 d->ak.dst≠A4 d:=by
  intro k ak d qO hd;have:=hdi ak (E6j qO);rw [hd] at this;simpa using this
 obtain ⟨es,hs,vs,he,h0,ht,hk⟩:=C8g l _ _ D8;rw [C6j] at hk;simp only [E5Q] at hk;obtain ⟨⟨v,h2⟩,B8l,hk⟩:=hk;obtain ⟨hk,hag⟩:=D2X hk;simp only at hk hag;have hnl:l.length<ops.size:=by omega
 have hos:ops[l.length]?=A4 ops[l.length]:=by simp [hnl]
 have E3O:bF P N ops ops[l.length] s=A5:=D.oper l.length _ s hos (by rw [E57 (E5V _)];simp);have D9f:s.slot=A7:=D.rslot s (by simp);have D3O:ops[l.length].dst=s.dst/\A0w N ops[l.length].dst=A5:=by
  have:=E3O;simp only [bF,E5S,decide_eq_true_eq] at this;exact ⟨this.1.1.1,this.1.1.2⟩
 have D5d:All2 (λi ao=>∃ o,ops[i]?=A4 o/\bF P N ops o ao=A5/\ao.slot=A7) (E6y (l.length+1) r.length) r:=by
  refine All2.of_get (by simp) λi x ao hx hao=>?_
  have hi:i<r.length:=(List.getElem?_eq_some_iff.1 hao).1;rw [List.getElem?_range' hi] at hx;simp at hx;subst hx;have V7:l.length+1+i<ops.size:=by omega
  refine ⟨ops[l.length+1+i],by simp [V7],?_,D.rslot ao (E6f _ (E6j hao))⟩;refine D.oper (l.length+1+i) _ ao (by simp [V7]) ?_;rw [E57 (by omega),show l.length+1+i-l.length=i+1 by omega];simpa using hao
 have hbl:=mH D ht h0 (k:=l.length) (E5V _);have hl2:=D0b hE B8l;obtain ⟨e',h',hk',hL',hst⟩:=C4e (L:=L) hE _ r ((es l.length).put s.dst v) h2 k res D5d hk (by omega);refine ⟨e',h',hk',hL',fun Γ μ0 a w hs0 hi hN hd Q hq=>?_⟩;have whole:∀ (listed:Array Bool) (a:Act) (w:World) (μ:Mu),Sim2 Γ l s h.length N e vs v μ0 (λi=>listed.getD i A6) h2 μ a w->(∀ j,j<l.length->listed.getD j A6=A5)->wpOps P ops Q (E6y (l.length+1) r.length) a w:=by
  intro listed a w μ S pL;have C9m:SEnv μ ((es l.length).put s.dst v) a:=by
   intro t;have main:s.dst≠A4 t->RV μ ((es l.length).get t) (a.tmps.getD t undef):=by
    intro T1;by_cases hw:∃ (j:Nat) (aj:AOper),l[j]?=A4 aj/\aj.dst=A4 t
    ·obtain ⟨j,aj,pF,hdj⟩:=hw;have hjl:=(List.getElem?_eq_some_iff.1 pF).1;rw [rU D ht pF hdj l.length hjl (E5V _)];exact S.envD j aj t pF (pL j hjl) hdj
    ·have cU:∀ (j:Nat) (aj:AOper),l[j]?=A4 aj->aj.dst≠A4 t:=λj aj pF hdj=>hw ⟨j,aj,pF,hdj⟩
     rw [zY ht he l.length (E5V _) λj aj _ pF=>cU j aj pF];exact S.envO t (λj aj pF _=>cU j aj pF) T1
   cases hsd:s.dst with
   | none=>exact main (by rw [hsd];simp)
   | some d =>
    by_cases e1:d=t
    ·subst e1;rw [Env.get_put_same];exact S.envS d hsd
    ·rw [Env.get_put_other _ _ _ _ e1];exact main (by rw [hsd];simpa using e1)
  exact hst Γ μ a w C9m S.inv S.size S.defers Q fun μ' a' w' g1 g2 g3 g4 g5 g6=>hq μ' a' w' (Mu.le_trans S.le g1) (λid hid=>(g2 id hid).trans (S.keep id (by omega))) g3 g4 g5 g6
 have main2:∀ (fuel:Nat) (listed:Array Bool) (a:Act) (w:World) (μ:Mu),listed.size=ops.size->left ops.size listed<=fuel->listed.getD l.length A6=A5 ->
   (∀ j,l.length<j->j<ops.size->listed.getD j A6=A6)->(∀ (j:Nat) ao,l[j]?=A4 ao->listed.getD j A6=A6->Float1 s chk ao) ->
   (∀ (i:Nat) (o:Oper),ops[i]?=A4 o->listed.getD i A6=A5->∀ p∈aH o,listed.getD p A6=A5) ->
   Sim2 Γ l s h.length N e vs v μ0 (λi=>listed.getD i A6) h2 μ a w->wpAny P .any ops Q fuel listed a w:=by
  intro fuel
  induction fuel with
  | zero =>
   intro listed a w μ hls B4m hsd dO E2E dP S;have pL:∀ j,j<ops.size->listed.getD j A6=A5:=by
    intro j hj;cases hv:listed.getD j A6 with
    | true=>rfl
    | false =>
     have hm:j∈(E6p ops.size).filter λi=>!listed.getD i A6:=by rw [List.mem_filter];exact ⟨by simpa using hj,by rw [hv];rfl⟩
     have:=List.length_pos_of_mem hm;unfold left at B4m;omega
   have hr0:r.length=0:=by
    cases hr:r.length with
    | zero=>rfl
    | succ x =>
     have h1:=pL (l.length+1) (by omega);have h3:=dO (l.length+1) (by omega) (by omega);rw [h1] at h3;cases h3
   refine A2l D.dir last 0 (l.length+1) 0 listed a w (by omega) (E5V _) hls (λj hj=>?_) (E5V _) ?_
   ·rw [pL j hj];have:j<l.length+1:=by omega
    simp [this]
   ·have:=whole listed a w μ S λj hj=>pL j (by omega)
    rw [hr0] at this;exact this
  | succ fuel ih =>
   intro listed a w μ hls B4m hsd dO E2E dP S;by_cases pL:∀ j,j<l.length->listed.getD j A6=A5
   ·refine A2l D.dir last r.length (l.length+1) (fuel+1) listed a w (by omega) (E5V _) hls (λj hj=>?_) ?_ (whole listed a w μ S pL)
    ·by_cases hjl:j<l.length+1
     ·have:listed.getD j A6=A5:=by
       by_cases e1:j=l.length
       ·subst e1;exact hsd
       ·exact pL j (by omega)
      rw [this];simp [hjl]
     ·rw [dO j (by omega) hj];simp [hjl]
    ·refine E6w ?_ B4m;unfold left;have:((E6p ops.size).filter λi=>!listed.getD i A6)=E6y (l.length+1) r.length:=by
      rw [show ops.size=(l.length+1)+r.length by omega,List.range_add,List.filter_append];have e1:(E6p (l.length+1)).filter (λi=>!listed.getD i A6)=[]:=by
       rw [List.filter_eq_nil_iff];intro j hj;have hj:j<l.length+1:=by simpa using hj
       have:listed.getD j A6=A5:=by
        by_cases e1:j=l.length
        ·subst e1;exact hsd
        ·exact pL j (by omega)
       rw [this];simp
      rw [e1,E59,List.range'_eq_map_range,List.filter_eq_self.2];intro j hj;obtain ⟨x,hx,rfl⟩:=List.mem_map.1 hj;rw [dO _ (by omega) (by simp at hx;omega)];rfl
     rw [this];simp
   ·have hex:∃ j,j<l.length/\listed.getD j A6=A6:=by
     false_or_by_contra
     rename_i hn;exact pL λj hj=>by
      cases hv:listed.getD j A6 with
      | true=>rfl
      | false=>exact absurd ⟨j,hj,hv⟩ hn
    obtain ⟨j,hj,hv⟩:=hex;refine ⟨λhre=>absurd hre (A8A D.dir hls j (by omega) hv),λi hi=>?_⟩;obtain ⟨o,ho,h3,h4⟩:=oR.1 hi;have hin:=(Array.getElem?_eq_some_iff.1 ho).1;rw [getD_both (by omega)] at h3;have hah:=wX (done:=λi=>listed.getD i A6) D.dir dP i o ho h4;have P6:i<l.length:=by
     by_cases e1:i<l.length
     ·exact e1
     ·by_cases e2:i=l.length
      ·subst e2;rw [hsd] at h3;cases h3
      ·have:=hah j (last i (by omega) hin j (by omega))
       try simp only at this
       rw [hv] at this;cases this
    have hao:=E5P P6;have mX:=D7Y D hR hE ht he hag S (i:=i) (ao:=l[i]) (o:=o) hao ho h3 (E2E i l[i] hao h3) D6h hah
     (next:=wpAny P .any ops Q fuel (listed.setIfInBounds i A5)) (Q:=Q) (by
      intro V w' μ' S';rw [<-S5 (by omega)] at S';refine ih (listed.setIfInBounds i A5) _ w' μ' (by simpa using hls) (by have:=B8B hin hls h3;omega) ?_ ?_ ?_ ?_ S'
      ·have:=congrFun (S5 (listed:=listed) (i:=i) (by omega)) l.length
       try simp only at this
       rw [this,aD _ _ (by omega)];exact hsd
      ·intro k hk hkn;have:=congrFun (S5 (listed:=listed) (i:=i) (by omega)) k
       try simp only at this
       rw [this,aD _ _ (by omega)];exact dO k hk hkn
      ·intro k ak qO hdk;have e1:=congrFun (S5 (listed:=listed) (i:=i) (by omega)) k
       try simp only at e1
       rw [e1] at hdk;by_cases e2:k=i
       ·subst e2;rw [wZ] at hdk;cases hdk
       ·rw [aD _ _ e2] at hdk;exact E2E k ak qO hdk
      ·intro k ok hok hdk p hp;have e1:=congrFun (S5 (listed:=listed) (i:=i) (by omega)) k;have e2:=congrFun (S5 (listed:=listed) (i:=i) (by omega)) p
       try simp only at e1 e2
       rw [e1] at hdk;rw [e2];have B4l:listed.getD p A6=A5:=by
        by_cases e3:k=i
        ·subst e3;rw [ho] at hok;cases hok;exact h4 p hp
        ·rw [aD _ _ e3] at hdk;exact dP k ok hok hdk p hp
       unfold pH;show (decide (p=i)||listed.getD p A6)=A5;rw [B4l];simp)
    unfold wpOp;rw [ho];exact mX
 have main:∀ (fuel:Nat) (listed:Array Bool) (a:Act) (w:World) (q:Nat) (μ:Mu),listed.size=ops.size->left ops.size listed<=fuel ->
   (∀ j,l.length<=j->j<ops.size->listed.getD j A6=A6)->(∀ (i:Nat) (o:Oper),ops[i]?=A4 o->listed.getD i A6=A5->∀ p∈aH o,listed.getD p A6=A5) ->
   Sim Γ l h.length N e es hs vs μ0 (λi=>listed.getD i A6) q μ a w->wpAny P .any ops Q fuel listed a w:=by
  intro fuel
  induction fuel with
  | zero =>
   intro listed a w q μ hls B4m dO dP S;have hv:=dO l.length (E5V _) hnl;have hm:l.length∈(E6p ops.size).filter λi=>!listed.getD i A6:=by rw [List.mem_filter];exact ⟨by simpa using hnl,by rw [hv];rfl⟩
   have:=List.length_pos_of_mem hm;unfold left at B4m;omega
  | succ fuel ih =>
   intro listed a w q μ hls B4m dO dP S;have hv:=dO l.length (E5V _) hnl;refine ⟨λhre=>absurd hre (A8A D.dir hls l.length hnl hv),λi hi=>?_⟩;obtain ⟨o,ho,h3,h4⟩:=oR.1 hi;have hin:=(Array.getElem?_eq_some_iff.1 ho).1;rw [getD_both (by omega)] at h3;have hah:=wX (done:=λi=>listed.getD i A6) D.dir dP i o ho h4;have hcl:∀ k,listed.getD k A6=A5->∀ b,((R5 ops).getD k 0).testBit b=A5->listed.getD b A6=A5:=by
    intro k hk b hb;by_cases hkn:k<ops.size
    ·have hok:ops[k]?=A4 ops[k]:=by simp [hkn]
     exact wX (done:=λi=>listed.getD i A6) D.dir dP k _ hok (dP k _ hok hk) b hb
    ·have:listed.getD k A6=A6:=by simp [Array.getD,show ¬ k<listed.size by omega]
     rw [this] at hk;cases hk
   have D3K:∀ k ok,ops[k]?=A4 ok->(listed.setIfInBounds i A5).getD k A6=A5->∀ p∈aH ok,(listed.setIfInBounds i A5).getD p A6=A5:=by
    intro k ok hok hdk p hp;have e1:=congrFun (S5 (listed:=listed) (i:=i) (by omega)) k;have e2:=congrFun (S5 (listed:=listed) (i:=i) (by omega)) p
    try simp only at e1 e2
    rw [e1] at hdk;rw [e2];have B4l:listed.getD p A6=A5:=by
     by_cases e3:k=i
     ·subst e3;rw [ho] at hok;cases hok;exact h4 p hp
     ·rw [aD _ _ e3] at hdk;exact dP k ok hok hdk p hp
    unfold pH;show (decide (p=i)||listed.getD p A6)=A5;rw [B4l];simp
   by_cases P6:i<l.length
   ·have mX:=D4v D hE ht h0 he S (i:=i) (ao:=l[i]) (o:=o) (E5P P6) ho h3 hah hcl
     (next:=wpAny P .any ops Q fuel (listed.setIfInBounds i A5)) (Q:=Q) (by
      intro V w' μ' q' S';rw [<-S5 (by omega)] at S';refine ih (listed.setIfInBounds i A5) _ w' q' μ' (by simpa using hls) (by have:=B8B hin hls h3;omega) ?_ D3K S';intro k hk hkn;have:=congrFun (S5 (listed:=listed) (i:=i) (by omega)) k
      try simp only at this
      rw [this,aD _ _ (by omega)];exact dO k hk hkn)
    unfold wpOp;rw [ho];exact mX
   ·have hie:i=l.length:=by
     by_cases e1:i=l.length
     ·exact e1
     ·have:=hah l.length (last i (by omega) hin l.length (by omega))
      try simp only at this
      rw [hv] at this;cases this
    subst hie;have hoo:o=ops[l.length]:=by rw [hos] at ho;cases ho;rfl
    have B4l:∀ (j:Nat) aj,l[j]?=A4 aj->listed.getD j A6=A6->Float1 s chk aj:=by
     intro j aj pF hdj;refine E2F j aj pF ?_;cases hb:((R5 ops).getD l.length 0).testBit j with
     | false=>rfl
     | true =>
      have:=hah j hb
      try simp only at this
      rw [hdj] at this;cases this
    have hlen:(hs l.length).length=(hs q).length:=by
     have hql:=S.qle;have:=A0f D ht (q:=q) (l.length-q) (by omega) λk ak h1 h2 qO=>by
      cases hck:Z4 ak.op with
      | false=>rfl
      | true =>
       have hd1:listed.getD k A6=A5:=by
        cases hd2:listed.getD k A6 with
        | true=>rfl
        | false=>have:=(B4l k ak qO hd2).call;rw [hck] at this;cases this
       have:=(S.calls k ak qO hck).1 hd1;omega
     rwa [show q+(l.length-q)=l.length by omega] at this
    have D0z:HD (hs l.length) (und l h.length λi=>listed.getD i A6) (hs q).length=hs l.length:=by
     refine A0c (by rw [L6,hlen]) λid hid=>?_
     rw [L6] at hid;have hu:und l h.length (λi=>listed.getD i A6) id=A6:=by
      cases hu:und l h.length (λi=>listed.getD i A6) id with
      | false=>rfl
      | true =>
       obtain ⟨k,hk,ao,j,qO,hj,_⟩:=aP.1 hu;have:=(B4l k ao qO hk).slot;rw [hj] at this;cases this
     rw [vS,if_pos ⟨hid,hu⟩]
    have hinv:=S.inv;rw [D0z] at hinv;have C9m:SEnv μ ((es l.length).keep s.reads) a:=by
     intro t;rw [Env.get_keep_mem];split
     ·rename_i A0d;by_cases hw:∃ (j:Nat) (aj:AOper),l[j]?=A4 aj/\aj.dst=A4 t
      ·obtain ⟨j,aj,pF,hdj⟩:=hw;have hjl:=(List.getElem?_eq_some_iff.1 pF).1;rw [rU D ht pF hdj l.length hjl (E5V _)];refine S.envD j aj t pF ?_ hdj;cases hd2:listed.getD j A6 with
       | true=>rfl
       | false =>
        obtain ⟨d,h5,h6,_⟩:=(B4l j aj pF hd2).dst;rw [hdj] at h5;cases h5;exact absurd A0d h6
      ·have cU:∀ (j:Nat) (aj:AOper),l[j]?=A4 aj->aj.dst≠A4 t:=λj aj pF hdj=>hw ⟨j,aj,pF,hdj⟩
       rw [zY ht he l.length (E5V _) λj aj _ pF=>cU j aj pF];exact S.envO t λj aj pF _=>cU j aj pF
     ·trivial
    have E12:=B8l;rw [C0C (e':=(es l.length).keep s.reads) λt ht'=>by rw [Env.get_keep_mem,if_pos ht']] at E12;unfold wpOp;rw [ho];subst hoo;refine A5V (hr:=hs l.length) (n0:=0) hE E3O E12 C9m hinv (λ_ _ h=>h) (by rw [D9f];trivial) ?_;intro V w' μ' dF hv' E3V cQ;rw [D9f] at cQ;have D6g:=S5 (listed:=listed) (i:=l.length) (by omega);refine main2 fuel (listed.setIfInBounds l.length A5) _ w' μ' (by simpa using hls) (by have:=B8B hin hls h3;omega) ?_ ?_ ?_ D3K ?_
    ·have:=congrFun D6g l.length
     try simp only at this
     rw [this];exact wZ _ _
    ·intro k hk hkn;have:=congrFun D6g k
     try simp only at this
     rw [this,aD _ _ (by omega)];exact dO k (by omega) hkn
    ·intro k ak qO hdk;have hkl:=(List.getElem?_eq_some_iff.1 qO).1;have:=congrFun D6g k
     try simp only at this
     rw [this,aD _ _ (by omega)] at hdk;exact B4l k ak qO hdk
    ·have hsame:∀ k:Nat,k<l.length->(listed.setIfInBounds l.length A5).getD k A6=listed.getD k A6:=by
      intro k hkl;have:=congrFun D6g k
      try simp only at this
      rw [this,aD _ _ (by omega)]
     refine ⟨?_,?_,?_,E3V,Mu.le_trans S.le dF,?_,by rw [Act.size_put];exact S.size,by rw [put_defers];exact S.defers⟩
     ·intro k ak d qO hdk hd;have hkl:=(List.getElem?_eq_some_iff.1 qO).1
      try simp only at hdk
      rw [hsame k hkl] at hdk;rw [B1U (by rw [D3O.1];exact λh=>D6h k ak d qO h hd)];exact (S.envD k ak d qO hdk hd).mono dF
     ·intro t cU hst;rw [B1U (by rw [D3O.1];exact hst)];refine (S.envO t λk ak qO hdk=>cU k ak qO ?_).mono dF;have hkl:=(List.getElem?_eq_some_iff.1 qO).1
      try simp only
      rw [hsame k hkl];exact hdk
     ·intro d hd;rw [D3O.1,hd,B4k (by rw [<-hd,<-D3O.1];exact D3O.2) S.size];exact hv'
     ·intro id hid;rw [<-S.keep id hid];exact cQ id (by omega) λj hj=>by cases hj
 have hgd:∀ i:Nat,(Array.replicate ops.size A6).getD i A6=A6:=by intro i;simp [Array.getD]
 have E2G:(λi=>(Array.replicate ops.size A6).getD i A6)=λ_=>A6:=funext hgd
 refine main ops.size (Array.replicate ops.size A6) a _ 0 μ0 (by simp) ?_ (λj _ _=>hgd j) (λi o _ hd=>by rw [hgd] at hd;cases hd) ?_
 ·unfold left;exact E6w (List.length_filter_le _ _) (by simp)
 ·rw [E2G];have E2L:HD (hs l.length) (und l h.length λ_=>A6) (hs 0).length=h++E5R m A7:=by
   rw [h0];refine A0c (by rw [L6]) λid hid=>?_
   rw [L6] at hid;rw [vS];by_cases ho:∃ i,A2R l h.length i id
   ·obtain ⟨i,ho⟩:=ho;have hu:und l h.length (λ_=>A6) id=A5:=aP.2 ⟨i,rfl,ho⟩;rw [hu];have:=A6D D ht h0 ho 0 (Nat.zero_le _);rw [h0] at this;rw [this];simp
   ·have cU:∀ i,0<=i->¬ A2R l h.length i id:=λi _ hi=>ho ⟨i,hi⟩
    have hu:und l h.length (λ_=>A6) id=A6:=by
     cases hu:und l h.length (λ_=>A6) id with
     | false=>rfl
     | true=>obtain ⟨i,_,hi⟩:=aP.1 hu;exact absurd ⟨i,hi⟩ ho
    rw [if_pos ⟨hid,hu⟩];have:=pM D ht (k:=0) (id:=id) (by rw [h0];exact hid) cU l.length (by omega);rw [E6e,h0] at this;exact this
  refine ⟨Nat.zero_le _,λi ao _ _=>⟨λh=>(by cases h),λh=>(by omega)⟩,λi ao d _ h=>(by cases h),λt _=>hs0 t,?_,λid hid=>?_,Mu.le_refl _,λ_ _=>rfl,hN,hd⟩
  ·rw [E2L];exact (hi.pad m).world rfl rfl rfl λ_ _=>rfl
  ·obtain ⟨i,_,ao,j,_,_,rfl⟩:=aP.1 hid;exact hi.dom _ (by omega)
def sw (k i:Nat):Nat:=if i=k then k+1 else if i=k+1 then k else i
def D6O (k i:Nat):sw k (sw k i)=i:=by unfold sw;split<;>(try split)<;>(try split)<;>omega
def D6N {k i n:Nat} (hk:k+1<n):sw k i<n↔i<n:=by unfold sw;split<;>(try split)<;>omega
def E3x {k i j:Nat} (h:sw k i=sw k j):i=j:=by rw [<-D6O k i,h,D6O]
def swO (k:Nat) (o:Oper):Oper:={ o with after:=o.after.map λe=>{ e with on:=sw k e.on },guard:=o.guard.map λg=>(sw k g.1,g.2) }
def swp (k:Nat) (ops:Array Oper):Array Oper:=((E6p ops.size).map λi=>swO k (ops.getD (sw k i) default)).toArray
def swp_size (k:Nat) (ops:Array Oper):(swp k ops).size=ops.size:=by simp [swp]
def D5Q {k:Nat} {ops:Array Oper} (hk:k+1<ops.size) (i:Nat):(swp k ops)[sw k i]?=(ops[i]?).map (swO k):=by
 by_cases hi:i<ops.size
 ·have h1:sw k i<ops.size:=(D6N hk).2 hi;unfold swp;simp [h1,hi,D6O]
 ·have h1:¬ sw k i<ops.size:=λh=>hi ((D6N hk).1 h)
  rw [Array.getElem?_eq_none (by rw [swp_size];omega),Array.getElem?_eq_none (by omega)];rfl
def C2P (k:Nat) (o:Oper):aH (swO k o)=(aH o).map (sw k):=by
 unfold aH swO;simp only [Array.toList_map];rw [List.filter_map,List.map_map,List.map_map]
 congr 1
def D5P {k:Nat} {ops:Array Oper} (hk:k+1<ops.size) (o:Oper) (t:Array Value):Region.wanted (swO k o) (yielded (swp k ops) t)=Region.wanted o (yielded ops t):=by
 unfold Region.wanted swO;cases hg:o.guard with
 | none=>rfl
 | some g =>
  obtain ⟨j,b⟩:=g;simp only [Option.map_some];unfold yielded;rw [D5Q hk];cases ops[j]?<;>rfl
def E1O {P:Program} {k:Nat} {ops:Array Oper} (hk:k+1<ops.size) {Q:Exit->Act->World->Prop} {i:Nat} {a:Act} {w:World} {K:Act->World->Prop}:wpOp P (swp k ops) Q (sw k i) K a w=wpOp P ops Q i K a w:=by
 unfold wpOp;rw [D5Q hk];cases hi:ops[i]? with
 | none=>rfl
 | some o =>
  simp only [Option.map_some];rw [D5P hk];rfl
def C7T {k:Nat} {ops:Array Oper} (hk:k+1<ops.size) {l l':Array Bool} (hl:∀ i b,l'.getD (sw k i) b=l.getD i b) (i:Nat):sw k i∈Region.ready .any (swp k ops) l'↔i∈Region.ready .any ops l:=by
 rw [oR,oR,D5Q hk];constructor
 ·rintro ⟨o',h1,h2,h3⟩;cases ho:ops[i]? with
  | none=>rw [ho] at h1;cases h1
  | some o =>
   rw [ho] at h1;cases h1;refine ⟨o,rfl,by rw [<-hl];exact h2,λp hp=>?_⟩;rw [<-hl];exact h3 _ (by rw [C2P];exact List.mem_map.2 ⟨p,hp,rfl⟩)
 ·rintro ⟨o,h1,h2,h3⟩;refine ⟨swO k o,by rw [h1];rfl,by rw [hl];exact h2,λp hp=>?_⟩;rw [C2P] at hp;obtain ⟨q,hq,rfl⟩:=List.mem_map.1 hp;rw [hl];exact h3 q hq
def D2k {k:Nat} {ops:Array Oper} (hk:k+1<ops.size) {l l':Array Bool} (hl:∀ i b,l'.getD (sw k i) b=l.getD i b) (h:Region.ready .any ops l=[]):Region.ready .any (swp k ops) l'=[]:=by
 rw [List.eq_nil_iff_forall_not_mem];intro i hi;have:=(C7T hk hl (sw k i)).1 (by rw [D6O];exact hi);rw [h] at this;cases this
def D4E {P:Program} {k:Nat} {ops:Array Oper} (hk:k+1<ops.size) {Q:Exit->Act->World->Prop}:∀ (fuel:Nat) (l l':Array Bool) (a:Act) (w:World),l.size=ops.size->l'.size=ops.size->(∀ i b,l'.getD (sw k i) b=l.getD i b) ->
  wpAny P .any (swp k ops) Q fuel l' a w->wpAny P .any ops Q fuel l a w
 | 0,l,l',a,w,s1,s2,hl,h=>by
  refine ⟨?_,h.2⟩;rw [List.eq_nil_iff_forall_not_mem];intro i hi;have:=(C7T hk hl i).2 hi;rw [h.1] at this;cases this
 | fuel+1,l,l',a,w,s1,s2,hl,h=>by
  refine ⟨λhe=>h.1 (D2k hk hl he),λi hi=>?_⟩;have h1:=h.2 (sw k i) ((C7T hk hl i).2 hi);rw [E1O hk] at h1;have V7:i<ops.size:=by
   obtain ⟨o,ho,_⟩:=oR.1 hi;exact (Array.getElem?_eq_some_iff.1 ho).1
  have E43:sw k i<l'.size:=by rw [s2];exact (D6N hk).2 V7
  refine wpOp_mono (λa w hh=>D4E hk fuel _ _ a w (by simpa using s1) (by simpa using s2) (λj b=>?_) hh) h1;by_cases e:j=i
  ·subst e;simp [Array.getD,E43,show j<l.size by omega]
  ·have e2:sw k j≠sw k i:=λh=>e (E3x h)
   rw [Array.getD_eq_getD_getElem?,Array.getD_eq_getD_getElem?,Array.getElem?_setIfInBounds_ne (Ne.symm e2),Array.getElem?_setIfInBounds_ne (Ne.symm e),<-Array.getD_eq_getD_getElem?,<-Array.getD_eq_getD_getElem?];exact hl j b
def D8W {P:Program} {N L:Nat} {ops:Array Oper} {m id:Nat} {l r:List AOper} {s:AOper} {chk:List (Nat × AOp)} {E:O3} (hE:gP P E) {e:Env} {h:B5} {R:Type} {k:Env->B5->Option R} {res:R}
  (hc:(A1i P N ops m l (s::r)&&D64 ops l s chk r)=A5\/(decide (l.length<ops.size)&&decide (0<l.length)&&A1i P N (swp (l.length-1) ops) m l (s::r)&&D64 (swp (l.length-1) ops) l s chk r)=A5) (hL:L<=h.length)
  (D8:B3T E h h.length l e (h++E5R m A7) (λe h=>Y7 E A6 h 0 s e h λv h2=>again chk e h2 (B1c E r (e.put s.dst v) h2 k))=A4 res) :
  ∃ e' h',k e' h'=A4 res/\L<=h'.length/\B2Q P N L ((Code.region id ops A5).wp P) e h .normal e' h':=by
 rcases hc with hc | hc
 ·rw [E5S] at hc;obtain ⟨e',h',h1,h2,h3⟩:=D0o hE hc.1 hc.2 hL D8;exact ⟨e',h',h1,h2,fun Γ μ0 a w g1 g2 g3 g4 Q hq=>wp_region_any (A71 hc.1).follows (h3 Γ μ0 a w g1 g2 g3 g4 Q hq)⟩
 ·simp only [E5S,decide_eq_true_eq] at hc;obtain ⟨⟨⟨hs,h0⟩,hc⟩,hcs⟩:=hc;obtain ⟨e',h',h1,h2,h3⟩:=D0o hE hc hcs hL D8;refine ⟨e',h',h1,h2,fun Γ μ0 a w g1 g2 g3 g4 Q hq=>wp_region_any (A71 hc).follows ?_⟩;have hk:l.length-1+1<ops.size:=by omega
  refine D4E hk _ _ (Array.replicate ops.size A6) a _ (by simp) (by simp) (λi b=>?_) ?_
  ·simp only [Array.getD,Array.size_replicate,D6N hk];split<;>simp
  ·have:=h3 Γ μ0 a w g1 g2 g3 g4 Q hq;simpa only [swp_size] using this
def C0K (P:Program) (N:Nat) (ops:Array Oper):List Oper->List AOper->Bool
 | [],[]=>A5
 | o::r,a::l=>bF P N ops o a&&decide (a.slot=A7)&&C0K P N ops r l
 | _,_=>A6
def aE (P:Program) (N:Nat):Code->ACode->Bool
 | c,.skip=>(match c with | .skip=>A5 | _=>A6)
 | c,.ops l=>(match c with | .region _ ops false=>C0K P N ops ops.toList l | _=>A6)
 | c,.draw m l r=>(match c with | .region _ ops true=>A1i P N ops m l r&&B70 ops l.length r.length | _=>A6)
 | c,.drawS m l s chk r=>(match c with | .region _ ops true=>(A1i P N ops m l (s::r)&&D64 ops l s chk r)||(decide (l.length<ops.size)&&decide (0<l.length)&&A1i P N (swp (l.length-1) ops) m l (s::r)&&D64 (swp (l.length-1) ops) l s chk r) | _=>A6)
 | c,.seq _ a b=>(match c with | .seq x y=>aE P N x a&&aE P N y b | _=>A6)
 | c,.cond q a b=>(match c with | .cond z x y=>F0 z q&&aE P N x a&&aE P N y b | _=>A6)
 | c,.block id a=>(match c with | .block bT x=>decide (bT=id)&&aE P N x a | _=>A6)
 | c,.loop _ a=>(match c with | .loop x=>aE P N x a | _=>A6)
 | c,.exit id=>(match c with | .exit bT=>decide (bT=id) | _=>A6)
 | c,.ret=>(match c with | .ret=>A5 | _=>A6)
def cA (P:Program):List ResultVar->List ARes->Bool
 | [],[]=>A5
 | .tmp t::r,.tmp t'::l=>decide (t=t')&&cA P r l
 | .cell t ty::r,.cell1 t'::l=>decide (t=t')&&decide (mD P ty=A4 A6)&&cA P r l
 | .cell t ty::r,.cellN t' n::l=>decide (t=t')&&decide (mD P ty=A4 A5)&&decide (R9 P ty=A4 n)&&cA P r l
 | _,_=>A6
def C6z (P:Program) (fn:Func) (f:AFn):Bool :=
 (match fn.body with | some c => aE P fn.ntmps c f.code | none => false) && cA P fn.results.toList f.res && !(fn.name == "runtime.NumGoroutine")
section
variable {P:Program} {R:Type}
def D0j {N:Nat} {ops:Array Oper}:∀ (pre:List Oper) (os:List Oper) (aos:List AOper),ops.toList=pre++os->C0K P N ops os aos=A5 ->
  All2 (λi ao=>∃ o,ops[i]?=A4 o/\bF P N ops o ao=A5/\ao.slot=A7) (E6y pre.length os.length) aos
 | pre,[],[],_,_=>trivial
 | pre,o::os,ao::aos,he,hc=>by
  simp only [C0K,E5S,decide_eq_true_eq] at hc;rw [E52,List.range'_succ];refine ⟨⟨o,?_,hc.1.1,hc.1.2⟩,?_⟩
  ·rw [<-Array.getElem?_toList,he];simp
  ·have:=D0j (pre++[o]) os aos (by rw [he];simp) hc.2;simpa using this
 | _,[],_::_,_,h=>by simp [C0K] at h
 | _,_::_,[],_,h=>by simp [C0K] at h
def D4M {N L:Nat} {E:O3} (hE:gP P E) (n:Nat):∀ (ac:ACode) (c:Code) (k:AExit->Env->B5->Option R) (e:Env) (h:B5) (r:R),
  aE P N c ac=A5->aex E n ac k e h=A4 r->L<=h.length->∃ x e' h',k x e' h'=A4 r/\L<=h'.length/\B2Q P N L (c.wp P) e h x e' h':=by
 intro ac
 induction ac with
 | skip =>
  intro c k e h r hc D8 hL;unfold aE at hc;split at hc
  ·exact ⟨.normal,e,h,D8,hL,fun Γ μ a w hs hi hN hd Q hq=>wp_skip (hq μ a w (Mu.le_refl _) (λ_ _=>rfl) hs hi hN hd)⟩
  ·cases hc
 | ops l =>
  intro c k e h r hc D8 hL;unfold aE at hc;split at hc
  ·rename_i id ops;simp only [aex,E0f] at D8;obtain ⟨e',h',hk,hL',hst⟩:=C4e hE _ l e h _ r (D0j [] ops.toList l rfl hc) D8 hL;refine ⟨.normal,e',h',hk,hL',fun Γ μ a w hs hi hN hd Q hq=>wp_region ?_⟩;have:=hst Γ μ a w hs hi hN hd Q hq;simpa [List.range_eq_range'] using this
  ·cases hc
 | draw m l r' =>
  intro c k e h r hc D8 hL;unfold aE at hc;split at hc
  ·rename_i id ops;simp only [aex,D5L] at D8;rw [E5S] at hc;obtain ⟨e',h',hk,hL',hst⟩:=E0S (id:=id) hE hc.1 hc.2 hL D8;exact ⟨.normal,e',h',hk,hL',hst⟩
  ·cases hc
 | drawS m l s chk r' =>
  intro c k e h r hc D8 hL;unfold aE at hc;split at hc
  ·rename_i id ops;simp only [aex,D2A] at D8;obtain ⟨e',h',hk,hL',hst⟩:=D8W (id:=id) hE (by simpa only [E6S] using hc) hL D8;exact ⟨.normal,e',h',hk,hL',hst⟩
  ·cases hc
 | seq keep a b iha ihb =>
  intro c k e h r hc D8 hL;unfold aE at hc;split at hc
  ·rename_i x y;simp only [E5S] at hc;simp only [aex,D4y,E03] at D8;obtain ⟨x1,e1,h1,hk1,hL1,A9D⟩:=iha x _ e h r hc.1 D8 hL;cases x1 with
   | normal =>
    change hold (aex E n b k (e1.keep keep) h1)=A4 r at hk1;simp only [hold] at hk1;obtain ⟨x2,e2,h2,hk2,hL2,E2O⟩:=ihb y k (e1.keep keep) h1 r hc.2 hk1 hL1;refine ⟨x2,e2,h2,hk2,hL2,fun Γ μ a w hs hi hN hd Q hq=>wp_seq (A9D Γ μ a w hs hi hN hd _ ?_)⟩;intro μ1 a1 w1 g1 g2 g3 g4 g5 g6;exact E2O Γ μ1 a1 w1 (g3.keep keep) g4 g5 g6 Q fun μ2 a2 w2 f1 f2 f3 f4 f5 f6=>hq μ2 a2 w2 (Mu.le_trans g1 f1) (λid hid=>(f2 id hid).trans (g2 id hid)) f3 f4 f5 f6
   | exit id=>exact ⟨.exit id,e1,h1,hk1,hL1,fun Γ μ a w hs hi hN hd Q hq=>wp_seq (A9D Γ μ a w hs hi hN hd _ hq)⟩
   | ret=>exact ⟨.ret,e1,h1,hk1,hL1,fun Γ μ a w hs hi hN hd Q hq=>wp_seq (A9D Γ μ a w hs hi hN hd _ hq)⟩
  ·cases hc
 | cond q a b iha ihb =>
  intro c k e h r hc D8 hL;unfold aE at hc;split at hc
  ·rename_i z x y;simp only [E5S] at hc;simp only [aex,C76,cnd] at D8;split at D8
   ·rename_i t zA;have hz:∀ {μ:Mu} {a:Act},SEnv μ e a->a.eval z=.bool t:=by
     intro μ a hs;have:RV μ _ _:=D6 hc.1.1 hs;rw [zA] at this;exact this
    cases t with
    | true =>
     obtain ⟨x1,e1,h1,hk1,hL1,A9D⟩:=iha x k e h r hc.1.2 D8 hL;exact ⟨x1,e1,h1,hk1,hL1,fun Γ μ a w hs hi hN hd Q hq=>wp_cond_true (hz hs) (A9D Γ μ a w hs hi hN hd Q hq)⟩
    | false =>
     obtain ⟨x1,e1,h1,hk1,hL1,A9D⟩:=ihb y k e h r hc.2 D8 hL;exact ⟨x1,e1,h1,hk1,hL1,fun Γ μ a w hs hi hN hd Q hq=>wp_cond_false (hz hs) (A9D Γ μ a w hs hi hN hd Q hq)⟩
   ·cases D8
  ·cases hc
 | block id a iha =>
  intro c k e h r hc D8 hL;unfold aE at hc;split at hc
  ·rename_i bT x;simp only [E5S,decide_eq_true_eq] at hc;obtain ⟨rfl,hc⟩:=hc;simp only [aex,B88,D5e] at D8;obtain ⟨x1,e1,h1,hk1,hL1,A9D⟩:=iha x _ e h r hc D8 hL;cases x1 with
   | normal=>exact ⟨.normal,e1,h1,hk1,hL1,fun Γ μ a w hs hi hN hd Q hq=>wp_block (A9D Γ μ a w hs hi hN hd _ hq)⟩
   | exit i =>
    change (bif Nat.beq i bT then k .normal e1 h1 else k (.exit i) e1 h1)=A4 r at hk1;cases hb:Nat.beq i bT with
    | true =>
     rw [hb] at hk1;have hi':=Nat.eq_of_beq_eq_true hb;subst hi';exact ⟨.normal,e1,h1,hk1,hL1,fun Γ μ a w hs hi hN hd Q hq=>wp_block (A9D Γ μ a w hs hi hN hd _ fun μ1 a1 w1 g1 g2 g3 g4 g5 g6=>by
      show (if i=i then Q .normal a1 w1 else _);rw [if_pos rfl];exact hq μ1 a1 w1 g1 g2 g3 g4 g5 g6)⟩
    | false =>
     rw [hb] at hk1;have T1:i≠bT:=by intro e;subst e;simp at hb
     exact ⟨.exit i,e1,h1,hk1,hL1,fun Γ μ a w hs hi hN hd Q hq=>wp_block (A9D Γ μ a w hs hi hN hd _ fun μ1 a1 w1 g1 g2 g3 g4 g5 g6=>by
      show (if i=bT then _ else Q (.exit i) a1 w1);rw [if_neg T1];exact hq μ1 a1 w1 g1 g2 g3 g4 g5 g6)⟩
   | ret=>exact ⟨.ret,e1,h1,hk1,hL1,fun Γ μ a w hs hi hN hd Q hq=>wp_block (A9D Γ μ a w hs hi hN hd _ hq)⟩
  ·cases hc
 | loop keep a iha =>
  intro c k e h r hc D8 hL;unfold aE at hc;split at hc
  ·rename_i x;simp only [aex,C77] at D8;have key:∀ (m:Nat) (e:Env) (h:B5),A7Y (aex E n a) keep k m e h=A4 r->L<=h.length ->
     ∃ x1 e' h',k x1 e' h'=A4 r/\L<=h'.length/\B2Q P N L (λQ=>Code.rounds P x Q m) e h x1 e' h':=by
    intro m
    induction m with
    | zero=>intro e h D8;rw [C16] at D8;cases D8
    | succ m ih =>
     intro e h D8 hL;rw [C15] at D8;obtain ⟨x1,e1,h1,hk1,hL1,A9D⟩:=iha x _ e h r hc D8 hL;cases x1 with
     | normal =>
      simp only at hk1;obtain ⟨x2,e2,h2,hk2,hL2,E2O⟩:=ih (e1.keep keep) h1 hk1 hL1;refine ⟨x2,e2,h2,hk2,hL2,fun Γ μ a w hs hi hN hd Q hq=>?_⟩;show Code.rounds P x Q (m+1) a w;rw [rounds_succ];refine A9D Γ μ a w hs hi hN hd _ ?_;intro μ1 a1 w1 g1 g2 g3 g4 g5 g6;exact E2O Γ μ1 a1 w1 (g3.keep keep) g4 g5 g6 Q fun μ2 a2 w2 f1 f2 f3 f4 f5 f6=>hq μ2 a2 w2 (Mu.le_trans g1 f1) (λid hid=>(f2 id hid).trans (g2 id hid)) f3 f4 f5 f6
     | exit id=>exact ⟨.exit id,e1,h1,hk1,hL1,fun Γ μ a w hs hi hN hd Q hq=>by
       show Code.rounds P x Q (m+1) a w;rw [rounds_succ];exact A9D Γ μ a w hs hi hN hd _ hq⟩
     | ret=>exact ⟨.ret,e1,h1,hk1,hL1,fun Γ μ a w hs hi hN hd Q hq=>by
       show Code.rounds P x Q (m+1) a w;rw [rounds_succ];exact A9D Γ μ a w hs hi hN hd _ hq⟩
   obtain ⟨x1,e1,h1,hk1,hL1,A9D⟩:=key n (e.keep keep) h D8 hL;exact ⟨x1,e1,h1,hk1,hL1,fun Γ μ a w hs hi hN hd Q hq=>wp_loop_rounds n (A9D Γ μ a w (hs.keep keep) hi hN hd Q hq)⟩
  ·cases hc
 | exit id =>
  intro c k e h r hc D8 hL;unfold aE at hc;split at hc
  ·simp at hc;subst hc;exact ⟨.exit _,e,h,D8,hL,fun Γ μ a w hs hi hN hd Q hq=>wp_exit (hq μ a w (Mu.le_refl _) (λ_ _=>rfl) hs hi hN hd)⟩
  ·cases hc
 | ret =>
  intro c k e h r hc D8 hL;unfold aE at hc;split at hc
  ·exact ⟨.ret,e,h,D8,hL,fun Γ μ a w hs hi hN hd Q hq=>wp_ret (hq μ a w (Mu.le_refl _) (λ_ _=>rfl) hs hi hN hd)⟩
  ·cases hc
def B2f (tmps:Array Value):ResultVar->Sem Value
 | .tmp t=>pure (tmps.getD t undef)
 | .cell a t=>do loadVar t (<-asAddr (tmps.getD a undef))
def D0O {Γ:Ctx} {μ:Mu} {e:Env} {h:B5} {a:Act} {w:World} {q:ResultVar} {q':ARes} {v:Val} (hs:SEnv μ e a) (hi:Inv Γ μ h w) (hc:cA P [q] [q']=A5) (hv:D6W e h q'=A4 v) :
  ∃ V,(B2f a.tmps q).run P w=.ok V w/\RV μ v V:=by
 cases q with
 | tmp t =>
  cases q' with
  | tmp t' =>
   simp [cA] at hc;subst hc;simp [D6W] at hv;subst hv;exact ⟨_,rfl,hs t⟩
  | cell1 t'=>simp [cA] at hc
  | cellN t' n=>simp [cA] at hc
 | cell t ty =>
  cases q' with
  | tmp t'=>simp [cA] at hc
  | cell1 t' =>
   simp [cA] at hc;obtain ⟨rfl,pK⟩:=hc;simp only [D6W] at hv;obtain ⟨V,h1,h2⟩:=D03 (P:=P) (w:=w) pK hi.rows (hs t) hv;refine ⟨V,?_,h2⟩;rw [<-h1];have:∃ b,a.tmps.getD t undef=.pointer (A4 b):=by
    unfold B8 at hv;split at hv
    ·rename_i zA;have:=hs t;rw [zA] at this;obtain ⟨b,n,_,h3⟩:=this;exact ⟨_,h3⟩
    ·cases hv
   obtain ⟨b,hb⟩:=this;simp only [B2f,hb,Instr.loadAt,asAddr,Instr.sureAddr,pure_bind]
  | cellN t' n =>
   simp [cA] at hc;obtain ⟨⟨rfl,pK⟩,hsz⟩:=hc;simp only [D6W] at hv;obtain ⟨V,h1,h2⟩:=D04 (P:=P) (w:=w) pK hsz hi.rows (hs t) hv;refine ⟨V,?_,h2⟩;rw [<-h1];have:∃ b,a.tmps.getD t undef=.pointer (A4 b):=by
    unfold D4 at hv;split at hv
    ·rename_i zA;have:=hs t;rw [zA] at this;obtain ⟨b,n,_,h3⟩:=this;exact ⟨_,h3⟩
    ·cases hv
   obtain ⟨b,hb⟩:=this;simp only [B2f,hb,Instr.loadAt,asAddr,Instr.sureAddr,pure_bind]
def C2b {q:ResultVar} {r:List ResultVar} {q':ARes} {l:List ARes} (h:cA P (q::r) (q'::l)=A5):cA P [q] [q']=A5/\cA P r l=A5:=by
 cases q<;>cases q'<;>simp_all [cA]
def C99 {Γ:Ctx} {μ:Mu} {e:Env} {h:B5} {a:Act} {w:World} (hs:SEnv μ e a) (hi:Inv Γ μ h w):∀ {qs:List ResultVar} {ls:List ARes} {ps:List Part},cA P qs ls=A5->C14 e h ls=A4 ps ->
  ∃ Vs:List Value,(qs.mapM (B2f a.tmps)).run P w=.ok Vs w/\All2 (RP μ) ps Vs
 | [],[],ps,_,hv=>by simp [C14] at hv;subst hv;exact ⟨[],rfl,trivial⟩
 | q::qs,q'::ls,ps,hc,hv=>by
  simp only [C14,E5Q,E6d] at hv;obtain ⟨v,hv1,p,hp,l,hl,rfl⟩:=hv;obtain ⟨h1,h2⟩:=C2b hc;obtain ⟨V,h3,h4⟩:=D0O hs hi h1 hv1;obtain ⟨Vs,h5,h6⟩:=C99 hs hi h2 hl;refine ⟨V::Vs,?_,RP.ofVal h4 hp,h6⟩;rw [List.mapM_cons];simp [h3,h5]
 | [],_::_,_,h,_=>by simp [cA] at h
 | _::_,[],_,h,_=>by simp [cA] at h
def D4i {fn:Func} {tmps:Array Value} {w:World}:(results fn tmps).run P w=((fn.results.toList.mapM (B2f tmps)).run P w).andThen λvs w=>.ok (if h:vs.toArray.size=1 then vs.toArray[0] else .tuple vs.toArray) w:=by
 unfold results;rw [Array.mapM_eq_mapM_toList];simp only [Sem.run_bind,Sem.run_map];have key:∀ g:ResultVar->Sem Value,(∀ q,g q=B2f tmps q)->((((List.mapM g fn.results.toList).run P w).andThen λa w'=>Result.ok a.toArray w').andThen λa w'=>(pure (if h:a.size=1 then a[0] else Value.tuple a):Sem Value).run P w') =
   ((fn.results.toList.mapM (B2f tmps)).run P w).andThen λvs w=>.ok (if h:vs.toArray.size=1 then vs.toArray[0] else .tuple vs.toArray) w:=by
  intro g hg;rw [funext hg];cases (fn.results.toList.mapM (B2f tmps)).run P w<;>rfl
 exact key _ λq=>by cases q<;>rfl
def B5W {Γ:Ctx} {μ:Mu} {e:Env} {h h':B5} {a:Act} {w:World} {fn:Func} {rs:List ARes} {v:Val} (hs:SEnv μ e a) (hi:Inv Γ μ h w) (hc:cA P fn.results.toList rs=A5) (hv:oD rs e h=A4 (v,h')) :
  ∃ V,(results fn a.tmps).run P w=.ok V w/\RV μ v V/\h'=h:=by
 rw [D4i];unfold oD at hv;split at hv
 ·rename_i q';simp only [E6d,E50] at hv;obtain ⟨_,h1,rfl,rfl⟩:=hv;cases hq:fn.results.toList with
  | nil=>rw [hq] at hc;simp [cA] at hc
  | cons q r =>
   cases r with
   | cons q2 r=>rw [hq] at hc;have:=(C2b hc).2;simp [cA] at this
   | nil =>
    rw [hq] at hc;obtain ⟨V,h3,h4⟩:=D0O hs hi hc h1;refine ⟨V,?_,h4,rfl⟩;rw [List.mapM_cons];simp [h3]
 ·rename_i T1;simp only [E6d,E50] at hv;obtain ⟨l,h1,rfl,rfl⟩:=hv;obtain ⟨Vs,h3,h4⟩:=C99 hs hi hc h1;refine ⟨.tuple Vs.toArray,?_,⟨Vs,rfl,h4⟩,rfl⟩;rw [h3];have hl:Vs.length≠1:=by
   rw [<-h4.length];intro h0;have:∀ (ls:List ARes) (ps:List Part),C14 e h ls=A4 ps->ls.length=ps.length:=by
    intro ls
    induction ls with
    | nil=>intro ps h;simp [C14] at h;subst h;rfl
    | cons x r ih =>
     intro ps h;simp only [C14,E5Q,E6d] at h;obtain ⟨_,_,_,_,l',hl',rfl⟩:=h;simp [ih l' hl']
   have h5:=this _ _ h1;rw [h0] at h5;cases rs with
   | nil=>simp at h5
   | cons q r =>
    cases r with
    | nil=>exact T1 q rfl
    | cons _ _=>simp at h5
  simp [hl]
def C7K:∀ (args:List Val) (i t:Nat),(params i args).get t=if i<=t then (args[t-i]?).getD .un else .un
 | [],i,t=>by simp [params,Env.get]
 | v::r,i,t=>by
  simp only [params,Env.get];by_cases h:i=t
  ·subst h;simp
  ·have hb:Nat.beq i t=A6:=by cases hb:Nat.beq i t with
    | false=>rfl
    | true=>exact absurd (Nat.eq_of_beq_eq_true hb) h
   rw [hb,cond_false,C7K r (i+1) t];by_cases h2:i<=t
   ·have:t-i=(t-(i+1))+1:=by omega
    rw [if_pos h2,if_pos (by omega),this,E6F]
   ·rw [if_neg h2,if_neg (by omega)]
def Inv.ds {Γ:Ctx} {μ:Mu} {h:B5} {w:World} (ds:List Deferred) (hi:Inv Γ μ h w):Inv { Γ with ds:=ds } μ h w :=
 ⟨hi.rows,hi.sep,hi.own,hi.dom,⟨hi.ctx.os,hi.ctx.tape,hi.ctx.output,hi.ctx.block⟩⟩
def D28 {μ:Mu} {args:List Val} {V:List Value} (hargs:All2 (RV μ) args V) (n:Nat):SEnv μ (params 0 args) { tmps:=V.toArray++Array.replicate n undef,defers:=[] }:=by
 intro t;rw [C7K];simp only [Nat.zero_le,if_true,Nat.sub_zero];cases ha:args[t]? with
 | none=>trivial
 | some x =>
  obtain ⟨X,h2,h3⟩:=hargs.get t x ha;have V7:=(List.getElem?_eq_some_iff.1 h2).1;have:(V.toArray++Array.replicate n undef).getD t undef=X:=by
   rw [Array.getD_eq_getD_getElem?,Array.getElem?_append_left (by simpa using V7)];simp [h2]
  rw [this];exact h3
def E1Y {E:O3} (hE:gP P E) {f:FuncId} {fn:Func} {af:AFn} (hf:P.funcs[f]?=A4 fn) (hc:C6z P fn af=A5) {n:Nat} {args:List Val} {h h':B5} {v:Val} (D8:af.run E n args h=A4 (v,h')) :
  kX P f/\h.length<=h'.length/\∃ c,fn.body=A4 c/\∀ (Γ:Ctx) (μ:Mu) (w:World) (V:List Value),Inv Γ μ h w->All2 (RV μ) args V ->
   c.wp P (bodyPost P fn λe w'=>∃ V' μ',e=.returned V' /\ μ.le μ'/\RV μ' v V'/\Inv Γ μ' h' w'/\∀ id,id<h.length -> μ' id = μ id) { tmps:=V.toArray++Array.replicate (fn.ntmps-V.toArray.size) undef,defers:=[] } w:=by
 simp only [C6z,E5S,E6I] at hc;obtain ⟨⟨hb,hr⟩,D3L⟩:=hc;cases C2A:fn.body with
 | none=>rw [C2A] at hb;cases hb
 | some c =>
  rw [C2A] at hb;unfold AFn.run at D8;obtain ⟨x,e',h1,hk,hL,hst⟩:=D4M (L:=h.length) hE n af.code c af.fin (params 0 args) h (v,h') hb D8 (E5V _);have hlen:h.length<=h'.length:=by
   cases x with
   | normal=>simp only [AFn.fin] at hk;unfold oD at hk;split at hk<;>simp at hk<;>obtain ⟨_,_,_,rfl⟩:=hk<;>exact hL
   | ret=>simp only [AFn.fin] at hk;unfold oD at hk;split at hk<;>simp at hk<;>obtain ⟨_,_,_,rfl⟩:=hk<;>exact hL
   | exit=>simp [AFn.fin] at hk
  refine ⟨⟨fn,hf,D3L,by simp [C2A]⟩,hlen,c,rfl,?_⟩;intro Γ μ w V hi hargs;refine hst { Γ with ds:=[] } μ _ w (D28 hargs _) (hi.ds []) ?_ rfl _ ?_
  ·simp;omega
  ·intro μ' a' w' g1 g2 g3 g4 g5 g6;have fin:∀ hk:oD af.res e' h1=A4 (v,h'),a'.defers=[]/\∃ v_1,(results fn a'.tmps).run P w'=.ok v_1 w'/\∃ V' μ',Ending.returned v_1=.returned V' /\ μ.le μ'/\RV μ' v V'/\Inv Γ μ' h' w'/\∀ id,id<h.length -> μ' id = μ id:=by
    intro hk;obtain ⟨V',h2,h3,h4⟩:=B5W g3 g4 hr hk;subst h4;exact ⟨g6,V',h2,V',μ',rfl,g1,h3,g4.ds Γ.ds,g2⟩
   cases x with
   | normal=>exact fin hk
   | ret=>exact fin hk
   | exit=>simp [AFn.fin] at hk
def E3H {E:O3} (hE:gP P E) {f:FuncId} {fn:Func} {af:AFn} (hf:P.funcs[f]?=A4 fn) (hc:C6z P fn af=A5) {n:Nat} {args:List Val} {h h':B5} {v:Val} (D8:af.run E n args h=A4 (v,h')) :
  kX P f/\CallOk P f args h v h'/\h.length<=h'.length:=by
 obtain ⟨h1,h2,c,hb,hw⟩:=E1Y hE hf hc D8;exact ⟨h1,fun Γ μ w V hi hargs=>calls_of_wp hf hb (hw Γ μ w V hi hargs),h2⟩
end
end Go.Esc
namespace Go.Esc
open Go Go.ChangeShapes Go.WideShapes Go.ChangeAt Go.RowKit
def C6I (W:World):Ctx:=⟨λb=>W.heap[b]?,W.os,W.tape,W.output,[]⟩
def D1G {W w:World} (h:(C6I W).ok w):Below W.heap.size W w:=by
 have hb:∀ k,k<W.heap.size->w.heap[k]?=W.heap[k]? := by
  intro k hk;have e:W.heap[k]?=A4 W.heap[k]:=by simp [hk]
  rw [e];exact h.block k _ e
 refine ⟨h.os,h.tape,h.output,?_,hb⟩;rcases Nat.eq_zero_or_pos W.heap.size with h0 | h0
 ·omega
 ·have:=hb (W.heap.size-1) (by omega);have e:W.heap[W.heap.size-1]?=A4 (W.heap[W.heap.size-1]'(by omega)):=by simp
  rw [e] at this;have:=(Array.getElem?_eq_some_iff.1 this).1;omega
def C9p {W w:World} {may:MemPlace->Prop} (h:Below W.heap.size W w):W.keptBut w may:=by
 refine ⟨h.os,h.output,λi hi=>?_⟩;rw [h.block i hi];cases W.heap[i]? with
 | none=>rfl
 | some o=>cases o<;>simp
section
variable {H:Type} {enc:TypeId × Value->H} {P:Program}
def D0d (hl:laidOutB P=A5) {W W':World} (hb:Below W.heap.size W W'):∀ {ts:List TypeId} {vs:List Value} {ds:List (DataW H)} {ps:List MemPlace},
  (∀ t∈ts,P.readableRec t=A5/\t<P.types.size)->(∀ x∈ps,x.block<W.heap.size)->DataW.TrodAll enc P W 0 (λ_=>A5) A5 ts vs ds ps->DataW.TrodAll enc P W' 0 (λb=>decide (b<W.heap.size)) A5 ts vs ds ps
 | [],[],[],_,_,_,h=>h
 | t::ts,v::vs,d::ds,_,hts,V7,⟨p,q,h1,h2,e⟩=>by
  subst e;exact ⟨p,q,Below.trod hl (hts t (by simp)).1 (hts t (by simp)).2 h1 hb (λx hx=>V7 x (List.mem_append_left _ hx)),D0d hl hb (λt ht=>hts t (by simp [ht])) (λx hx=>V7 x (List.mem_append_right _ hx)) h2,rfl⟩
 | [],_::_,_,_,_,_,h=>by cases h
 | [],[],_::_,_,_,_,h=>by cases h
 | _::_,[],_,_,_,_,h=>by cases h
 | _::_,_::_,[],_,_,_,h=>by cases h
def D7K {f:Func} {s:ChangeSpec} {apart:Bool} {tb:TypeId} {W W':World} {args:Array Value} {ds gs:List (DataW H)} {before:List MemPlace}
  (hl:laidOutB P=A5) (hts:∀ t∈f.params.toList,P.readableRec t=A5/\t<P.types.size) (hr:f.resultTypes = #[tb]) (hb:P.underlying tb=A4 .bool) (hv:s.vars=[])
  (hs:∀ ds:List (DataW H),ds.length=f.params.toList.length->s.fn H ds={ results:=[.lit (.bool A5)],args:=ds })
  (hW:DataW.Whole enc P f.params.toList s.vars apart W args.toList ds gs before) (hB:Below W.heap.size W W') :
  s.post enc P f apart A5 A6 A6 W args (.bool A5) W':=by
 have V7:=hW.lt;obtain ⟨p,q,h1,h2,h3,h4,h5⟩:=id hW;rw [hv] at h2;obtain ⟨rfl,rfl⟩:=trodVars_none h2;rw [E6m] at h3;subst h3;have hd:ds.length=f.params.toList.length:=(trodAll_length h1).2;have hfn:s.fn H (ds++[])={ results:=[.lit (.bool A5)],args:=ds }:=by rw [E6m];exact hs ds hd
 refine ⟨ds,[],before,[],before,[],hW,?_,?_,?_,World.keptBut_mono (λ_ h=>h) (C9p hB),λh=>by cases h⟩
 ·rw [hfn,hr];exact trodAll_mk1 (shut_bool hb A5)
 ·rw [hfn];exact D0d hl hB hts V7 h1
 ·rw [hfn,hv];exact rfl
end
def D9V {C:Checked} {os:Os} {H:Type} {enc:TypeId × Value->H} {f:FuncId} {fn:Func} {s:ChangeSpec} {conds:List PathCond} {tb:TypeId}
  (own:ownKnob C.prog.godebug=A7) (started:os.Started) (E26:C.prog.inits.idxOf? f=A7) (hfn:C.prog.funcs[f]?=A4 fn)
  (witness:∃ (w:World) (tape:Tape) (i:Input),w.os=os/\(w.forCall tape i).Shaped C.prog/\i.vars=[]/\Input.okWide C.prog (w.forCall tape i) .any w.heap.size f i /\
   s.pre6 enc C.prog fn conds A6 (w.forCall tape i).memory i.args/\Assume.holds {} C.prog (lone (Frame.enter C.prog f i.args .normal) [] (w.forCall tape i)))
  (hl:laidOutB C.prog=A5) (hts:∀ t∈fn.params.toList,C.prog.readableRec t=A5/\t<C.prog.types.size) (hr:fn.resultTypes = #[tb]) (hb:C.prog.underlying tb=A4 .bool) (hv:s.vars=[])
  (hs:∀ ds:List (DataW H),ds.length=fn.params.toList.length->s.fn H ds={ results:=[.lit (.bool A5)],args:=ds })
  (walk:∀ (W:World) (base:Nat) (args:Array Value) (ds:List (DataW H)) (ps:List MemPlace),
   (∀ (j:Nat) t v,fn.params[j]?=A4 t->args[j]?=A4 v->Value.okWide C.prog W .any base t v) ->
   DataW.TrodAll enc C.prog W 0 (λ_=>A5) A5 fn.params.toList args.toList ds ps ->
   ∃ vals h μ h',Inv (C6I W) μ h W/\All2 (RV μ) vals args.toList/\CallOk C.prog f vals h (.c (.b A5)) h') :
  ReturnsInHanded {} C os f .any (s.pre6 enc C.prog fn conds A6) (s.post enc C.prog fn A6 A5 A6 A6):=by
 refine returnsInHanded_of_change own started E26 hfn witness ?_;intro W base args ds gs before C69 hW _ _;obtain ⟨p,q,hA,_⟩:=id hW;obtain ⟨vals,h,μ,h',hi,hv2,hc⟩:=walk W base args ds p (λj t v h1 h2=>C69 j t v h1 h2) hA;refine (hc (C6I W) μ W args.toList hi hv2).mono λe W' ⟨V',μ',he,_,hV,hi',_⟩=>?_
 have:V'=.bool A5:=hV;subst this;exact ⟨_,he,D7K hl hts hr hb hv hs hW (D1G hi'.ctx)⟩
def Inv.nought (W:World):Inv (C6I W) (λ_=>Option.none) [] W where
 rows:=λid r h=>by simp [rd] at h
 sep:=λid bT r r' x x' h=>by simp [rd] at h
 own:=λid r x h=>by simp [rd] at h
 dom:=λ_ _=>rfl
 ctx:=⟨rfl,rfl,rfl,λ_ _ h=>h⟩
end Go.Esc
namespace Go.Esc
section
variable {R:Type} {E:O3}
def D8o {q:Bool} {hr:B5} {n0:Nat} {slot:Option Nat} {o:AOp} {e:Env} {h:B5} {k k':Val->B5->Option R} (hk:∀ v h p,k v h=A4 p->k' v h=A4 p) {p:R}
  (hp:aop E q hr n0 slot o e h k=A4 p):aop E q hr n0 slot o e h k'=A4 p:=by
 cases o<;>simp only [aop,E5Q] at hp ⊢ <;> first | exact hk _ _ _ hp | (obtain ⟨x,hx,hp⟩:=hp;exact ⟨x,hx,hk _ _ _ hp⟩)
def B5V {q:Bool} {hr:B5} {n0:Nat} {o:AOper} {e:Env} {h:B5} {k k':Val->B5->Option R} (hk:∀ v h p,k v h=A4 p->k' v h=A4 p) {p:R}
  (hp:Y7 E q hr n0 o e h k=A4 p):Y7 E q hr n0 o e h k'=A4 p:=by
 unfold Y7 at hp ⊢;cases hg:o.guard with
 | none=>rw [hg] at hp;exact D8o hk hp
 | some g =>
  rw [hg] at hp;simp only [E5Q] at hp ⊢;obtain ⟨x,hx,hp⟩:=hp;exact ⟨x,hx,hk _ _ _ hp⟩
def B2S {k k':Env->B5->Option R} (hk:∀ e h p,k e h=A4 p->k' e h=A4 p):∀ {l:List AOper} {e:Env} {h:B5} {p:R},B1c E l e h k=A4 p->B1c E l e h k'=A4 p
 | [],_,_,_,hp=>hk _ _ _ hp
 | o::l,e,h,p,hp=>by
  rw [D0c] at hp ⊢;exact B5V (λv h p=>B2S hk) hp
def B5R {hr:B5} {n0:Nat} {k k':Env->B5->Option R} (hk:∀ e h p,k e h=A4 p->k' e h=A4 p):∀ {l:List AOper} {e:Env} {h:B5} {p:R},B3T E hr n0 l e h k=A4 p->B3T E hr n0 l e h k'=A4 p
 | [],_,_,_,hp=>hk _ _ _ hp
 | o::l,e,h,p,hp=>by
  rw [C6c] at hp ⊢;exact B5V (λv h p=>B5R hk) hp
def KLe (k k':B3d R):Prop:=∀ x e h p,k x e h=A4 p->k' x e h=A4 p
def E3E (s s':Sm R):Prop:=∀ k k':B3d R,KLe k k'->∀ e h p,s k e h=A4 p->s' k' e h=A4 p
def D0e {c c':Sm R} (hc:E3E c c') {keep:List Nat} {k k':B3d R} (hk:KLe k k'):∀ {n n':Nat},n<=n'->∀ e h p,A7Y c keep k n e h=A4 p->A7Y c' keep k' n' e h=A4 p
 | 0,_,_,e,h,p,hp=>by rw [C16] at hp;cases hp
 | n+1,0,hn,e,h,p,hp=>by omega
 | n+1,n'+1,hn,e,h,p,hp=>by
  rw [C15] at hp ⊢;refine hc _ _ (λx e h p hp=>?_) e h p hp;cases x with
  | normal=>exact D0e hc hk (by omega) _ _ _ hp
  | exit id=>exact hk _ _ _ _ hp
  | ret=>exact hk _ _ _ _ hp
def C6f {e:Env} {h:B5} {k k':Option R} {p:R} (hk:k=A4 p->k'=A4 p):∀ {l:List (Nat × AOp)},again l e h k=A4 p->again l e h k'=A4 p
 | [],hp=>hk hp
 | c::l,hp=>by
  rw [C6e] at hp ⊢;unfold agn at hp ⊢;split at hp
  ·rename_i hc;rw [if_pos hc];exact C6f hk hp
  ·cases hp
def B5S {n n':Nat} (hn:n<=n'):∀ c:ACode,E3E (R:=R) (aex E n c) (aex E n' c)
 | .skip=>λk k' hk e h p hp=>hk _ _ _ _ hp
 | .ops l=>λk k' hk e h p hp=>B2S (λe h p hp=>hk _ _ _ _ hp) hp
 | .draw m l r=>λk k' hk e h p hp=>B5R (λe h p hp=>B2S (λe h p hp=>hk _ _ _ _ hp) hp) hp
 | .drawS m l s chk r=>λk k' hk e h p hp=>B5R (λe h p hp=>B5V (λv h p hp=>C6f (λhp=>B2S (λe h p hp=>hk _ _ _ _ hp) hp) hp) hp) hp
 | .seq keep a b=>λk k' hk e h p hp=>by
  refine B5S hn a _ _ (λx e h p hp=>?_) e h p hp;cases x with
  | normal=>exact B5S hn b k k' hk _ _ _ hp
  | exit id=>exact hk _ _ _ _ hp
  | ret=>exact hk _ _ _ _ hp
 | .cond c a b=>λk k' hk e h p hp=>by
  change cnd (e.ev c) (aex E n a k e h) (aex E n b k e h)=A4 p at hp;change cnd (e.ev c) (aex E n' a k' e h) (aex E n' b k' e h)=A4 p;unfold cnd at hp ⊢;split at hp
  ·rename_i x _;cases x
   ·exact B5S hn b k k' hk _ _ _ hp
   ·exact B5S hn a k k' hk _ _ _ hp
  ·cases hp
 | .block id a=>λk k' hk e h p hp=>by
  refine B5S hn a _ _ (λx e h p hp=>?_) e h p hp;cases x with
  | normal=>exact hk _ _ _ _ hp
  | ret=>exact hk _ _ _ _ hp
  | exit i =>
   change (bif Nat.beq i id then k .normal e h else k (.exit i) e h)=A4 p at hp;change (bif Nat.beq i id then k' .normal e h else k' (.exit i) e h)=A4 p;cases hb:Nat.beq i id with
   | true=>simp only [hb,cond_true] at hp ⊢;exact hk _ _ _ _ hp
   | false=>simp only [hb,cond_false] at hp ⊢;exact hk _ _ _ _ hp
 | .loop keep a=>λk k' hk e h p hp=>D0e (B5S hn a) hk hn _ _ _ hp
 | .exit id=>λk k' hk e h p hp=>hk _ _ _ _ hp
 | .ret=>λk k' hk e h p hp=>hk _ _ _ _ hp
def D95 {f:AFn} {n n':Nat} (hn:n<=n') {args:List Val} {h:B5} {p:Val × B5} (hp:f.run E n args h=A4 p):f.run E n' args h=A4 p :=
 B5S hn f.code _ _ (λ_ _ _ _ h=>h) _ _ _ hp
open Classical in
def Lim (f:AFn) (E:O3) (args:List Val) (h:B5):Option (Val × B5) :=
 if H:∃ p n,f.run E n args h=A4 p then A4 H.choose else A7
def E2d {f:AFn} {n:Nat} {args:List Val} {h:B5} {p:Val × B5} (hp:f.run E n args h=A4 p):Lim f E args h=A4 p:=by
 have H:∃ p n,f.run E n args h=A4 p:=⟨p,n,hp⟩;unfold Lim;rw [dif_pos H];obtain ⟨m,hm⟩:=H.choose_spec;have h1:=D95 (Nat.le_max_left n m) hp;have h2:=D95 (Nat.le_max_right n m) hm;rw [h1] at h2;exact h2.symm
def D5W {f:AFn} {args:List Val} {h:B5} {p:Val × B5} (hp:Lim f E args h=A4 p):∃ n,f.run E n args h=A4 p:=by
 unfold Lim at hp;split at hp
 ·rename_i H;cases hp;exact H.choose_spec
 ·cases hp
end
def bnd {α β:Type} (x:Option α) (f:α -> Option β):Option β:=x.bind f
def mp {α β:Type} (x:Option α) (f:α -> β):Option β:=x.map f
@[congr] theorem E4D {α β:Type} {x x':Option α} {f:α -> Option β} (h:x=x'):bnd x f=bnd x' f:=by rw [h]
@[congr] theorem E5F {α β:Type} {x x':Option α} {f:α -> β} (h:x=x'):mp x f=mp x' f:=by rw [h]
@[congr] theorem E4G {R:Type} {v v':Val} {a b:Option R} (h:v=v'):cnd v a b=cnd v' a b:=by rw [h]
@[congr] theorem E5v {v v':Val} {w:Bool} {a b:Option (Val × B5)} (h:v=v'):gd v w a b=gd v' w a b:=by rw [h]
@[congr] theorem E4C {R:Type} {x x':Option Val} {v v':Val} {k:Option R} (h:x=x') (h2:v=v'):agn x v k=agn x' v' k:=by rw [h,h2]
def B7R {R:Type} {v:Val} {k:Option R}:agn (A4 v) v k=k:=Eq.trans (if_pos rfl) rfl
@[simp] theorem M9 {α β:Type} {a:α} {f:α -> Option β}:bnd (A4 a) f=f a:=Eq.trans rfl rfl
@[simp] theorem E09 {α β:Type} {a:α} {f:α -> β}:mp (A4 a) f=A4 (f a):=Eq.trans rfl rfl
section
variable {R:Type} {k:IntKind} {a b:Int} {s t:List UInt8} {h:B5}
@[simp] theorem E0w:D2Y (.c (.s s))=A4 (.c (.i .i64 s.length)):=rfl
@[simp] theorem B7S {id off len sz:Nat}:D1E (.c (.sl id off len sz))=A4 (.c (.i .i64 len)):=rfl
@[simp] theorem E0x:D1E (.c .ns)=A4 (.c (.i .i64 0)):=rfl
@[simp] theorem zR:N4 .add (.c (.i k a)) (.c (.i k b))=A4 (.c (.i k (k.wrap (a+b)))):=by simp [N4,B1W]
@[simp] theorem D8g:N4 .sub (.c (.i k a)) (.c (.i k b))=A4 (.c (.i k (k.wrap (a-b)))):=by simp [N4,B1W]
@[simp] theorem D8f:N4 .mul (.c (.i k a)) (.c (.i k b))=A4 (.c (.i k (k.wrap (a*b)))):=by simp [N4,B1W]
@[simp] theorem D2S (hb:b≠0):N4 .quo (.c (.i k a)) (.c (.i k b))=A4 (.c (.i k (k.wrap (a.tdiv b)))):=by simp [N4,B1W,hb]
@[simp] theorem D2T (hb:b≠0):N4 .rem (.c (.i k a)) (.c (.i k b))=A4 (.c (.i k (a.tmod b))):=by simp [N4,B1W,hb]
def D2Q:N4 .and (.c (.i k a)) (.c (.i k b))=A4 (.c (.i k (k.wrap (BitVec.ofInt k.bits a &&& BitVec.ofInt k.bits b).toNat))):=by simp [N4,B1W]
def D1z:N4 .or (.c (.i k a)) (.c (.i k b))=A4 (.c (.i k (k.wrap (BitVec.ofInt k.bits a ||| BitVec.ofInt k.bits b).toNat))):=by simp [N4,B1W]
def D2U:N4 .xor (.c (.i k a)) (.c (.i k b))=A4 (.c (.i k (k.wrap (BitVec.ofInt k.bits a ^^^ BitVec.ofInt k.bits b).toNat))):=by simp [N4,B1W]
@[simp] theorem tW:N4 .eql (.c (.i k a)) (.c (.i k b))=A4 (.c (.b (decide (a=b)))):=by simp [N4,B1W];rfl
@[simp] theorem D2R:N4 .neq (.c (.i k a)) (.c (.i k b))=A4 (.c (.b (decide (a≠b)))):=by simp [N4,B1W];by_cases h:a=b<;>simp [h]
@[simp] theorem tX:N4 .lss (.c (.i k a)) (.c (.i k b))=A4 (.c (.b (decide (a<b)))):=by simp [N4,B1W]
@[simp] theorem B7P:N4 .leq (.c (.i k a)) (.c (.i k b))=A4 (.c (.b (decide (a<=b)))):=by simp [N4,B1W]
@[simp] theorem D8e:N4 .gtr (.c (.i k a)) (.c (.i k b))=A4 (.c (.b (decide (b<a)))):=by simp [N4,B1W]
@[simp] theorem C59:N4 .geq (.c (.i k a)) (.c (.i k b))=A4 (.c (.b (decide (b<=a)))):=by simp [N4,B1W]
@[simp] theorem C0A:N4 .eql (.c (.s s)) (.c (.s t))=A4 (.c (.b (decide (s=t)))):=by simp [N4,E0b];by_cases h:s=t<;>simp [h]
@[simp] theorem D6T:N4 .neq (.c (.s s)) (.c (.s t))=A4 (.c (.b (decide (s≠t)))):=by simp [N4,E0b];by_cases h:s=t<;>simp [h]
@[simp] theorem D6S:N4 .lss (.c (.s s)) (.c (.s t))=A4 (.c (.b (N2 s t))):=by simp [N4,E0b]
@[simp] theorem D57 {x:Bool}:aun .not (.c (.b x))=A4 (.c (.b (!x))):=rfl
@[simp] theorem E0t {n:Bool}:D1C A5 n (.c .nf)=A4 (.c (.b (!n))):=Eq.trans rfl rfl
@[simp] theorem E2h {n:Bool} {f:Nat} {cs:List (Nat × Nat)}:D1C A5 n (.c (.f f cs))=A4 (.c (.b n)):=Eq.trans rfl rfl
@[simp] theorem E0u {n:Bool}:D1C A6 n (.c .np)=A4 (.c (.b (!n))):=Eq.trans rfl rfl
@[simp] theorem E2i {n:Bool} {id off:Nat}:D1C A6 n (.c (.p id off))=A4 (.c (.b n)):=Eq.trans rfl rfl
@[simp] theorem E0A {id off:Nat}:A5U (.c (.p id off))=A4 (.c (.p id off)):=Eq.trans rfl rfl
@[simp] theorem E0H:aun .neg (.c (.i k a))=A4 (.c (.i k (k.wrap (0-a)))):=rfl
@[simp] theorem E2g {x y:Bool}:D4L A6 (.c (.b x)) (.c (.b y))=A4 (.c (.b (x==y))):=rfl
@[simp] theorem E2f {x y:Bool}:D4L A5 (.c (.b x)) (.c (.b y))=A4 (.c (.b (!(x==y)))):=rfl
@[simp] theorem E0r {k':IntKind}:D2V k (.c (.i k' a))=A4 (.c (.i k (k.wrap a))):=rfl
@[simp] theorem D54 {x:Bool} {u v:Val}:D26 (.c (.b x)) u v=A4 (bif x then u else v):=rfl
@[simp] theorem E3K {w:Bool} {u v:Option (Val × B5)}:gd .no w u v=v:=Eq.trans rfl rfl
@[simp] theorem E3M {u v:Option (Val × B5)}:gd (.c (.b A5)) A5 u v=u:=Eq.trans rfl rfl
@[simp] theorem E3L {u v:Option (Val × B5)}:gd (.c (.b A5)) A6 u v=v:=Eq.trans rfl rfl
@[simp] theorem E3J {u v:Option (Val × B5)}:gd (.c (.b A6)) A5 u v=v:=Eq.trans rfl rfl
@[simp] theorem E1Z {u v:Option (Val × B5)}:gd (.c (.b A6)) A6 u v=u:=Eq.trans rfl rfl
@[simp] theorem C2i {u v:Option R}:cnd (.c (.b A5)) u v=u:=Eq.trans rfl rfl
@[simp] theorem B73 {u v:Option R}:cnd (.c (.b A6)) u v=v:=Eq.trans rfl rfl
@[simp] theorem E0v {i:Nat}:C6g (.c (.s s)) (.c (.i k i))=(s[i]?).map λb=>.c (.i .u8 b.toNat):=by simp [C6g]
@[simp] theorem D8j {l:List Part} {i:Nat}:D4N (.t l) i=(l[i]?).map ofPart:=rfl
@[simp] theorem D36 {x:Cell}:ofPart (.c x)=.c x:=rfl
@[simp] theorem D35 {l:List Cell}:ofPart (.a l)=.a l:=rfl
@[simp] theorem E1d {x:Cell}:rZ (.c x)=A4 (.c x):=rfl
@[simp] theorem D6x {l:List Cell}:rZ (.a l)=A4 (.a l):=rfl
@[simp] theorem D3j {x:Cell}:cells? (.c x)=A4 [x]:=rfl
@[simp] theorem B1j {l:List Cell}:cells? (.a l)=A4 l:=rfl
@[simp] theorem E3y {u v:Option Val}:C8h [u,v] h=bnd u λu=>bnd (rZ u) λp=>bnd v λv=>bnd (rZ v) λq=>A4 (.t [p,q],h):=by
 cases u with
 | none=>rfl
 | some u=>cases v with
  | none=>cases hu:rZ u<;>simp [C8h,C8i,hu]<;>rfl
  | some v=>cases hu:rZ u<;>cases hv:rZ v<;>simp [C8h,C8i,hu,hv]<;>rfl
@[simp] theorem E3z {u v w:Option Val}:C8h [u,v,w] h=bnd u λu=>bnd (rZ u) λp=>bnd v λv=>bnd (rZ v) λq=>bnd w λw=>bnd (rZ w) λr=>A4 (.t [p,q,r],h):=by
 cases u with
 | none=>rfl
 | some u=>cases v with
  | none=>cases hu:rZ u<;>simp [C8h,C8i,hu]<;>rfl
  | some v=>cases w with
   | none=>cases hu:rZ u<;>cases hv:rZ v<;>simp [C8h,C8i,hu,hv]<;>rfl
   | some w=>cases hu:rZ u<;>cases hv:rZ v<;>cases hw:rZ w<;>simp [C8h,C8i,hu,hv,hw]<;>rfl
def wrap_i64 (h1:-9223372036854775808<=a) (h2:a<9223372036854775808):E5U .i64 a=a:=by
 change (if (A5&&decide (a%18446744073709551616>=9223372036854775808))=A5 then a%18446744073709551616-18446744073709551616 else a%18446744073709551616)=a;by_cases h:a%18446744073709551616>=9223372036854775808
 ·simp only [h,decide_true,E55,if_true];omega
 ·simp only [h,decide_false,E6T,Bool.false_eq_true,if_false];omega
def wrap_u64 (h1:0<=a) (h2:a<18446744073709551616):E5U .u64 a=a:=by
 simp only [E5U,IntKind.bits,IntKind.signed,E51];have e1:(2:Int) ^ 64=18446744073709551616:=rfl;rw [e1];simp only [Bool.false_eq_true,if_false];omega
def wrap_u32 (h1:0<=a) (h2:a<4294967296):E5U .u32 a=a:=by
 simp only [E5U,IntKind.bits,IntKind.signed,E51];have e1:(2:Int) ^ 32=4294967296:=rfl;rw [e1];simp only [Bool.false_eq_true,if_false];omega
def wrap_u8 (h1:0<=a) (h2:a<256):E5U .u8 a=a:=by
 simp only [E5U,IntKind.bits,IntKind.signed,E51];have e1:(2:Int) ^ 8=256:=rfl;rw [e1];simp only [Bool.false_eq_true,if_false];omega
end
def Grows.rfl' {h:B5}:Grows h h:=⟨List.prefix_refl _,λid x hid hx=>by have:=C8 hx;omega⟩
def Grows.trans' {a b c:B5} (h1:Grows a b) (h2:Grows b c):Grows a c:=by
 refine ⟨h1.1.trans h2.1,λid x hid hx=>?_⟩;by_cases hb:b.length<=id
 ·exact h2.2 id x hb hx
 ·refine h1.2 id x hid ?_;obtain ⟨t,rfl⟩:=h2.1;rw [<-hx];unfold rd;rw [E6t (by omega)]
def Grows.rd {a b:B5} (h1:Grows a b) {id:Nat} {r:Row} (hr:rd a id=A4 r):rd b id=A4 r:=by
 obtain ⟨t,rfl⟩:=h1.1;rw [E1 (C8 hr)];exact hr
def Grows.len {a b:B5} (h1:Grows a b):a.length<=b.length:=h1.1.length_le
def Grows.new {a b:B5} (h1:Grows a b) (cs:List Cell):Grows a (b++[A4 ⟨cs,A5⟩]):=by
 refine h1.trans' ⟨List.prefix_append _ _,λid x hid hx=>?_⟩;unfold Go.Esc.rd at hx;rw [E57 hid] at hx;cases hj:id-b.length with
 | zero=>rw [hj] at hx;simp at hx;subst hx;rfl
 | succ j=>rw [hj] at hx;simp at hx
def Grows.set {a b:B5} (h1:Grows a b) {id:Nat} (hid:a.length<=id) (cs:List Cell):Grows a (b.set id (A4 ⟨cs,A5⟩)):=by
 obtain ⟨⟨t,rfl⟩,h2⟩:=h1;refine ⟨⟨t.set (id-a.length) (A4 ⟨cs,A5⟩),by rw [E6u _ _ hid]⟩,λi x hi hx=>?_⟩;by_cases e:id=i
 ·subst e;have hl:=C8 hx;simp at hl;rw [C6 (by simpa using hl)] at hx;cases hx;rfl
 ·rw [B6 e] at hx;exact h2 i x hi hx
def U9 {h h':B5} {v:Val} (hg:Grows h h'):quiet h (A4 (v,h'))=A4 (v,h'):=by
 unfold quiet;simp only [E54];rw [if_pos];exact hg
def U5 {h:B5} {r:Row}:rd (h++[A4 r]) h.length=A4 r:=by
 unfold rd;simp
section
variable {h:B5} {id off n sz:Nat} {cs xs:List Cell} {x:Cell} {k:IntKind} {rw:Bool}
def B9 (hr:rd h id=A4 ⟨cs,rw⟩) {c:Cell} (hc:cs[off]?=A4 c) (hd:(rw || !c.isX)=A5):B8 h (.c (.p id off))=A4 (.c c):=by
 simp [B8,hr,hc,hd]
def dR (hr:rd h id=A4 ⟨cs,rw⟩) (hl:off+n<=cs.length) (hd:(rw||noX ((cs.drop off).take n))=A5):D4 h n (.c (.p id off))=A4 (.a ((cs.drop off).take n)):=by
 simp only [D4,hr,E54];rw [if_pos ⟨hl,hd⟩]
def C7 (hr:rd h id=A4 ⟨cs,A5⟩) (hl:cs.length=n):D4 h n (.c (.p id 0))=A4 (.a cs):=by
 rw [dR hr (by omega) rfl,E6a,E53 (by omega)]
def G8 (hr:rd h id=A4 ⟨cs,A5⟩) (hl:off<cs.length):I5 h (.c (.p id off)) (.c x)=A4 (h.set id (A4 ⟨cs.set off x,A5⟩)):=by
 simp [I5,hr,hl]
def B3b (hr:rd h id=A4 ⟨cs,A5⟩) (hx:xs.length=n) (hl:off+n<=cs.length):E5 h n (.c (.p id off)) (.a xs)=A4 (h.set id (A4 ⟨lay cs off xs,A5⟩)):=by
 simp [E5,hr,hl,hx]
def lay_all (hx:xs.length=cs.length):lay cs 0 xs=xs:=by simp [lay,hx]
def storeAll (hr:rd h id=A4 ⟨cs,A5⟩) (hl:cs.length=n) (hx:xs.length=n):E5 h n (.c (.p id 0)) (.a xs)=A4 (h.set id (A4 ⟨xs,A5⟩)):=by
 rw [B3b hr hx (by omega),lay_all (by omega)]
def J5 {j:Nat} (hj:j<n):I3 n sz (.c (.p id off)) (.c (.i k j))=A4 (.c (.p id (off+j*sz))):=by
 simp only [I3];rw [if_pos ⟨by omega,by omega⟩];simp
def C9 {len j:Nat} (hj:j<len):D9 sz (.c (.sl id off len sz)) (.c (.i k j))=A4 (.c (.p id (off+j*sz))):=by
 simp only [D9];rw [if_pos ⟨by omega,by omega,trivial⟩];simp
def B8m {l:List Cell} {j:Nat} (hj:j<n):A45 n (.a l) (.c (.i k j))=(l[j]?).map .c:=by
 simp only [A45];rw [if_pos ⟨by omega,by omega⟩];simp
end
def iY (l:List UInt8) (i:Nat) (x:UInt8):(B4 l).set i (.i .u8 x.toNat)=B4 (l.set i x):=by simp [B4,List.map_set]
def Z0 (l:List UInt8) (i:Nat):(B4 l)[i]?=(l[i]?).map λx=>.i .u8 x.toNat:=by simp [B4]
def N1 (l m:List UInt8):B4 (l++m)=B4 l++B4 m:=by simp [B4]
def D0p (l:List UInt8) (n:Nat):(B4 l).drop n=B4 (l.drop n):=by simp [B4]
def D0q (l:List UInt8) (n:Nat):(B4 l).take n=B4 (l.take n):=by simp [B4]
def zeros (n:Nat):List UInt8:=E5R n 0
@[simp] theorem zeros_length {n:Nat}:(zeros n).length=n:=by simp [zeros]
def I9 (n:Nat):E5R n (Cell.i .u8 0)=B4 (zeros n):=by simp [B4,zeros]
def G9 (l:List UInt8):noX (B4 l)=A5:=by simp [noX,B4,Cell.isX]
def D8Y {l m:List UInt8}:B4 l=B4 m↔l=m:=by
 constructor
 ·intro h;refine List.map_inj_right (λx y e=>?_) |>.1 h
  simp at e;exact UInt8.toNat_inj.1 (by omega)
 ·rintro rfl;rfl
def Cell.flat:Cell->Bool
 | .b _=>A5
 | .i _ _=>A5
 | .s _=>A5
 | .np=>A5
 | .ns=>A5
 | .nf=>A5
 | .nm=>A5
 | _=>A6
def O5 (l:List Cell):Bool:=l.all Cell.flat
def Row.dim (r:Row):List Cell:=bif r.head then r.cells.map λ_=>.dark else r.cells
def ro (h:B5):B5:=h.map λr=>r.map λr=>⟨r.dim,A6⟩
def Row.dim_own (r:Row):(Row.mk r.dim A6).own=A6:=by
 obtain ⟨cs,w⟩:=r;unfold Row.dim;cases hh:Row.head ⟨cs,w⟩ with
 | false=>simpa [Row.own,Row.head] using hh
 | true =>
  cases cs with
  | nil=>rfl
  | cons c cs=>rfl
def F7 {h:B5}:(ro h).length=h.length:=by simp [ro]
def D0U {h:B5} {id:Nat}:rd (ro h) id=(rd h id).map λr=>⟨r.dim,A6⟩:=by
 unfold rd ro;rw [List.getElem?_map];cases h[id]? with
 | none=>rfl
 | some x=>cases x<;>rfl
def B8Y {h:B5} {id:Nat} {r:Row} (hr:rd h id=A4 r) (hh:r.head=A6):rd (ro h) id=A4 ⟨r.cells,A6⟩:=by
 rw [D0U,hr];show A4 (Row.mk r.dim A6)=_;unfold Row.dim;rw [hh];rfl
def D89 {cs:List Cell} {w:Bool} (h:noX cs=A5):(Row.mk cs w).head=A6:=by
 cases cs with
 | nil=>rfl
 | cons c cs=>cases c<;>first | rfl | (simp [noX,Cell.isX] at h)
def B8Z {h:B5} {id:Nat} {cs:List Cell} {w:Bool} (hr:rd h id=A4 ⟨cs,w⟩) (hx:noX cs=A5):rd (ro h) id=A4 ⟨cs,A6⟩:=B8Y hr (D89 hx)
def newRow (h:B5) (id:Nat):Bool :=
 match rd h id with
 | some r=>r.rw&&O5 r.cells
 | none=>A6
def Cell.low (b:Nat):Cell->Bool
 | .p id _=>decide (id<b)
 | .sl id _ _ _=>decide (id<b)
 | .f _ caps=>caps.all λq=>decide (q.1<b)
 | .m id=>decide (id<b)
 | c=>c.flat
def S8 (h:B5) (b:Nat):List Nat->List Cell->Option (List Cell × List Nat)
 | seen,[]=>A4 ([],seen)
 | seen,c::r=>if c.low b=A5 then (S8 h b seen r).map λp=>(c::p.1,p.2) else
  match c with
  | .sl id off len sz=>if b<=id/\id ∉ seen/\newRow h id=A5 then (S8 h b (seen++[id]) r).map λp=>(.sl (b+seen.length) off len sz::p.1,p.2) else A7
  | _=>A7
def iK (h:B5) (b:Nat):List Nat->List Part->Option (List Part × List Nat)
 | seen,[]=>A4 ([],seen)
 | seen,.c x::r=>(S8 h b seen [x]).bind λp=>match p.1 with
  | [y]=>(iK h b p.2 r).map λq=>(.c y::q.1,q.2)
  | _=>A7
 | seen,.a l::r=>(S8 h b seen l).bind λp=>(iK h b p.2 r).map λq=>(.a p.1::q.1,q.2)
def Y8 (h:B5) (b:Nat):Val->Option (Val × List Nat)
 | .c x=>(S8 h b [] [x]).bind λp=>match p.1 with
  | [y]=>A4 (.c y,p.2)
  | _=>A7
 | .a l=>(S8 h b [] l).map λp=>(.a p.1,p.2)
 | .t l=>(iK h b [] l).map λp=>(.t p.1,p.2)
 | _=>A7
def C8f (F:List Val->B5->Option (Val × B5)) (args:List Val) (h:B5):Option (Val × B5) :=
 (F args (ro h)).bind λp=>(Y8 p.2 h.length p.1).map λq=>(q.1,h++q.2.map (rd p.2))
def tidy (F:List Val->B5->Option (Val × B5)) (args:List Val) (h:B5):Option (Val × B5) :=
 match C8f F args h with
 | some r=>A4 r
 | none=>F args h
def RC.flat {μ μ':Mu} {c:Cell} {V:Value} (hf:c.flat=A5) (h:RC μ c V):RC μ' c V:=by
 cases c<;>first | exact h | cases hf
def RC.low {μ μ':Mu} {b:Nat} (hb:∀ id,id<b -> μ' id = μ id) {c:Cell} {V:Value} (hf:c.low b=A5) (h:RC μ c V):RC μ' c V:=by
 cases c with
 | p id off =>
  obtain ⟨x,n,h1,h2⟩:=h;exact ⟨x,n,by rw [hb id (of_decide_eq_true hf)];exact h1,h2⟩
 | sl id off len sz =>
  rcases h with ⟨x,n,cap,h1,h2⟩ | h
  ·exact .inl ⟨x,n,cap,by rw [hb id (of_decide_eq_true hf)];exact h1,h2⟩
  ·exact .inr h
 | f fn caps =>
  obtain ⟨cs,h1,h2⟩:=h;refine ⟨cs,h1,?_⟩;have hf':(caps.all λq=>decide (q.1<b))=A5:=hf
  clear h1 hf
  induction caps generalizing cs with
  | nil=>cases cs with
   | nil=>trivial
   | cons=>exact h2.elim
  | cons q r ih=>cases cs with
   | nil=>exact h2.elim
   | cons V vs =>
    rw [E6B,E5S] at hf';obtain ⟨x,n,g1,g2⟩:=h2.1;exact ⟨⟨x,n,by rw [hb q.1 (of_decide_eq_true hf'.1)];exact g1,g2⟩,ih vs h2.2 hf'.2⟩
 | m id =>
  obtain ⟨x,n,h1,h2⟩:=h;exact ⟨x,n,by rw [hb id (of_decide_eq_true hf)];exact h1,h2⟩
 | _=>exact RC.flat hf h
def Cell.low_of_flat {b:Nat} {c:Cell} (h:c.flat=A5):c.low b=A5:=by
 cases c<;>first | exact h | cases h
def B6d {c:Cell} {l:List Cell}:O5 (c::l)=(c.flat&&O5 l):=rfl
def All2.flat {μ μ':Mu}:∀ {l:List Cell} {vs:List Value},O5 l=A5->All2 (RC μ) l vs->All2 (RC μ') l vs
 | [],[],_,_=>trivial
 | c::l,V::vs,hf,⟨h1,h2⟩=>by
  rw [B6d,E5S] at hf;exact ⟨h1.flat hf.1,All2.flat hf.2 h2⟩
 | [],_::_,_,h=>h.elim
 | _::_,[],_,h=>h.elim
structure Good (h:B5) (b:Nat) (ids:List Nat):Prop where
 nd:ids.Nodup
 ok:∀ id∈ids,b<=id/\∃ r,rd h id=A4 r/\r.rw=A5/\O5 r.cells=A5
def Good.nil {h:B5} {b:Nat}:Good h b []:=⟨List.nodup_nil,λ_ h=>by cases h⟩
def Good.snoc {h:B5} {b:Nat} {ids:List Nat} (hg:Good h b ids) {id:Nat} (h1:b<=id) (h2:id ∉ ids) (h3:newRow h id=A5):Good h b (ids++[id]):=by
 refine ⟨?_,λi hi=>?_⟩
 ·rw [List.nodup_append];exact ⟨hg.nd,by simp,λa ha c hc e=>by simp at hc;subst hc;subst e;exact h2 ha⟩
 ·rw [List.mem_append] at hi;rcases hi with hi | hi
  ·exact hg.ok i hi
  ·simp at hi;subst hi;refine ⟨h1,?_⟩;unfold newRow at h3;cases hr:rd h i with
   | none=>rw [hr] at h3;cases h3
   | some r=>rw [hr] at h3;rw [E5S] at h3;exact ⟨r,rfl,h3.1,h3.2⟩
def nu (μ μ':Mu) (b:Nat) (ids:List Nat):Mu:=λid=>if id<b then μ id else (ids[id-b]?).bind μ'
def A5Y {h:B5} {b:Nat} {μ μ':Mu} (hlow:∀ id,id<b -> μ' id = μ id):∀ (l:List Cell) (seen:List Nat) (l2:List Cell) (fin:List Nat),S8 h b seen l=A4 (l2,fin)->Good h b seen ->
  Good h b fin/\seen <+: fin/\∀ ids,fin <+: ids->∀ vs:List Value,All2 (RC μ') l vs->All2 (RC (nu μ μ' b ids)) l2 vs:=by
 intro l
 induction l with
 | nil =>
  intro seen l2 fin hc hg;simp only [S8,E5W,E50] at hc;obtain ⟨rfl,rfl⟩:=hc;exact ⟨hg,List.prefix_refl _,λids _ vs hv=>by cases vs with
   | nil=>trivial
   | cons=>exact hv.elim⟩
 | cons c r ih =>
  intro seen l2 fin hc hg;unfold S8 at hc;split at hc
  ·rename_i hf;simp only [E6d,E50] at hc;obtain ⟨p,hp,rfl,rfl⟩:=hc;obtain ⟨h1,h2,h3⟩:=ih seen p.1 p.2 hp hg;refine ⟨h1,h2,λids hi vs hv=>?_⟩;cases vs with
   | nil=>exact hv.elim
   | cons V vs=>exact ⟨RC.low (b:=b) (λid hid=>by unfold nu;rw [if_pos hid];exact (hlow id hid).symm) hf hv.1,h3 ids hi vs hv.2⟩
  ·split at hc
   ·rename_i id off len sz _;split at hc
    ·rename_i A2x;simp only [E6d,E50] at hc;obtain ⟨p,hp,rfl,rfl⟩:=hc;obtain ⟨h1,h2,h3⟩:=ih _ p.1 p.2 hp (hg.snoc A2x.1 A2x.2.1 A2x.2.2);refine ⟨h1,(List.prefix_append _ _).trans h2,λids hi vs hv=>?_⟩;cases vs with
     | nil=>exact hv.elim
     | cons V vs =>
      refine ⟨?_,h3 ids hi vs hv.2⟩;have hn:nu μ μ' b ids (b+seen.length) = μ' id:=by
       unfold nu;rw [if_neg (by omega),Nat.add_sub_cancel_left];obtain ⟨t,ht⟩:=h2.trans hi;rw [<-ht,E5Y,E57 (E5V _)];simp
      rcases hv.1 with ⟨x,n,cap,g1,g2⟩ | g
      ·exact .inl ⟨x,n,cap,by rw [hn];exact g1,g2⟩
      ·exact .inr g
    ·cases hc
   ·cases hc
def D61 {h:B5} {b:Nat} {μ μ':Mu} (hlow:∀ id,id<b -> μ' id = μ id):∀ (l:List Part) (seen:List Nat) (l2:List Part) (fin:List Nat),iK h b seen l=A4 (l2,fin)->Good h b seen ->
  Good h b fin/\seen <+: fin/\∀ ids,fin <+: ids->∀ vs:List Value,All2 (RP μ') l vs->All2 (RP (nu μ μ' b ids)) l2 vs:=by
 intro l
 induction l with
 | nil =>
  intro seen l2 fin hc hg;simp only [iK,E5W,E50] at hc;obtain ⟨rfl,rfl⟩:=hc;exact ⟨hg,List.prefix_refl _,λids _ vs hv=>by cases vs with
   | nil=>trivial
   | cons=>exact hv.elim⟩
 | cons c r ih =>
  intro seen l2 fin hc hg;cases c with
  | c x =>
   simp only [iK,E5Q] at hc;obtain ⟨⟨l3,f3⟩,hp,hc⟩:=hc;obtain ⟨h1,h2,h3⟩:=A5Y (μ:=μ) (μ':=μ') hlow [x] seen l3 f3 hp hg;split at hc
   ·rename_i y zA;simp only at zA;subst zA;simp only [E6d,E50] at hc;obtain ⟨q,hq,rfl,rfl⟩:=hc;obtain ⟨g1,g2,g3⟩:=ih f3 q.1 q.2 hq h1;refine ⟨g1,h2.trans g2,λids hi vs hv=>?_⟩;cases vs with
    | nil=>exact hv.elim
    | cons V vs=>exact ⟨(h3 ids (g2.trans hi) [V] ⟨hv.1,trivial⟩).1,g3 ids hi vs hv.2⟩
   ·cases hc
  | a x =>
   simp only [iK,E5Q] at hc;obtain ⟨⟨l3,f3⟩,hp,hc⟩:=hc;obtain ⟨h1,h2,h3⟩:=A5Y (μ:=μ) (μ':=μ') hlow x seen l3 f3 hp hg;simp only [E6d,E50] at hc;obtain ⟨q,hq,rfl,rfl⟩:=hc;obtain ⟨g1,g2,g3⟩:=ih f3 q.1 q.2 hq h1;refine ⟨g1,h2.trans g2,λids hi vs hv=>?_⟩;cases vs with
   | nil=>exact hv.elim
   | cons V vs =>
    obtain ⟨Vs,hV,h4⟩:=hv.1;exact ⟨⟨Vs,hV,h3 ids (g2.trans hi) Vs h4⟩,g3 ids hi vs hv.2⟩
def D62 {h:B5} {b:Nat} {μ μ':Mu} (hlow:∀ id,id<b -> μ' id = μ id) {v v2:Val} {fin:List Nat} (hc:Y8 h b v=A4 (v2,fin)):Good h b fin/\∀ V,RV μ' v V->RV (nu μ μ' b fin) v2 V:=by
 cases v with
 | c x =>
  simp only [Y8,E5Q] at hc;obtain ⟨⟨l3,f3⟩,hp,hc⟩:=hc;obtain ⟨h1,h2,h3⟩:=A5Y (μ:=μ) (μ':=μ') hlow [x] [] l3 f3 hp Good.nil;split at hc
  ·rename_i y zA;simp only at zA;subst zA;simp only [E5W,E50] at hc;obtain ⟨rfl,rfl⟩:=hc;exact ⟨h1,λV hV=>(h3 _ (List.prefix_refl _) [V] ⟨hV,trivial⟩).1⟩
  ·cases hc
 | a l =>
  simp only [Y8,E6d,E50] at hc;obtain ⟨p,hp,rfl,rfl⟩:=hc;obtain ⟨h1,h2,h3⟩:=A5Y (μ:=μ) (μ':=μ') hlow l [] p.1 p.2 hp Good.nil;refine ⟨h1,λV hV=>?_⟩;obtain ⟨vs,e,h4⟩:=hV;exact ⟨vs,e,h3 _ (List.prefix_refl _) vs h4⟩
 | t l =>
  simp only [Y8,E6d,E50] at hc;obtain ⟨p,hp,rfl,rfl⟩:=hc;obtain ⟨h1,h2,h3⟩:=D61 (μ:=μ) (μ':=μ') hlow l [] p.1 p.2 hp Good.nil;refine ⟨h1,λV hV=>?_⟩;obtain ⟨vs,e,h4⟩:=hV;exact ⟨vs,e,h3 _ (List.prefix_refl _) vs h4⟩
 | un=>simp [Y8] at hc
 | no=>simp [Y8] at hc
def D2g (μ:Mu) (h:B5) (b:Nat):Prop:=∃ id r n,rd h id=A4 r /\ μ id=A4 (b,n)
open Classical in
def Ctx.hold (Γ:Ctx) (μ:Mu) (h:B5) (w:World):Ctx:={ Γ with F:=λb=>if D2g μ h b then w.heap[b]? else Γ.F b }
def Inv.hold {Γ:Ctx} {μ:Mu} {h:B5} {w:World} (hi:Inv Γ μ h w):Inv (Γ.hold μ h w) μ (ro h) w where
 rows id r hr:=by
  rw [D0U,E6d] at hr;obtain ⟨r0,h0,rfl⟩:=hr;have hth:=hi.rows id r0 h0;have this:=hth;unfold RowOk at this ⊢;cases hm:μ id with
  | none =>
   rw [hm] at this;show r0.dim=[];unfold Row.dim;rw [this];cases r0.head<;>rfl
  | some x =>
   rw [hm] at this;obtain ⟨o,ho⟩:=hth.there hm;have V7:=(Array.getElem?_eq_some_iff.1 ho).1;cases hh:r0.head with
   | true =>
    refine .inr (.inr ⟨rfl,V7,?_⟩);show r0.dim.all Cell.isD=A5;unfold Row.dim;rw [hh];simp [Cell.isD]
   | false =>
    have hd:r0.dim=r0.cells:=by unfold Row.dim;rw [hh];rfl
    rw [hd];rcases this with ⟨C,elem,fz,h1,h2,h3,h4⟩ | ⟨es,E,h1,_⟩ | ⟨h1,h2,h3⟩
    ·refine .inl ⟨C,elem,fz,h1,h2,h3.mono λc V hc=>?_,λhf=>by cases hf⟩;rcases hc with hc | ⟨_,hc⟩
     ·exact .inl hc
     ·exact .inr ⟨rfl,hc⟩
    ·rw [h1,Row.head_mrow] at hh;cases hh
    ·exact .inr (.inr ⟨rfl,h2,h3⟩)
 sep id bT r r' x x' hr hr' hw:=by
  rw [D0U,E6d] at hr;obtain ⟨r0,h0,rfl⟩:=hr;rw [Row.dim_own] at hw;cases hw
 own id r x hr hw:=by
  rw [D0U,E6d] at hr;obtain ⟨r0,h0,rfl⟩:=hr;rw [Row.dim_own] at hw;cases hw
 dom id hl:=hi.dom id (by simpa [F7] using hl)
 ctx:=⟨hi.ctx.os,hi.ctx.tape,hi.ctx.output,λb o ho=>by
  unfold Ctx.hold at ho;simp only at ho;split at ho
  ·exact ho
  ·exact hi.ctx.block b o ho⟩
def Inv.held {Γ:Ctx} {μ μ':Mu} {h h':B5} {w w':World} (hi:Inv Γ μ h w) (hj:Inv (Γ.hold μ h w) μ' h' w') {ids:List Nat} (hg:Good h' h.length ids) :
  Inv Γ (nu μ μ' h.length ids) (h++ids.map (rd h')) w':=by
 have same:∀ b,D2g μ h b->w'.heap[b]?=w.heap[b]? := by
  intro b hb;have hb':=hb;obtain ⟨id,r,n,hr,hm⟩:=hb;obtain ⟨o,h1⟩:=(hi.rows id r hr).there hm;have h2:(Γ.hold μ h w).F b=A4 o:=by
   unfold Ctx.hold;simp only;rw [if_pos hb'];exact h1
  rw [hj.ctx.block b _ h2,h1]
 have lo:∀ id,id<h.length->nu μ μ' h.length ids id = μ id:=λid hl=>by unfold nu;rw [if_pos hl]
 have dF:μ.le (nu μ μ' h.length ids):=λid x hx=>by
  by_cases hl:id<h.length
  ·rw [lo id hl];exact hx
  ·rw [hi.dom id (by omega)] at hx;cases hx
 have get:∀ id r,rd (h++ids.map (rd h')) id=A4 r->(id<h.length/\rd h id=A4 r)\/(∃ j,ids[id-h.length]?=A4 j/\h.length<=id/\rd h' j=A4 r/\nu μ μ' h.length ids id = μ' j/\j∈ids/\r.rw=A5/\O5 r.cells=A5):=by
  intro id r hr;by_cases hl:id<h.length
  ·rw [E1 hl] at hr;exact .inl ⟨hl,hr⟩
  ·right
   unfold rd at hr;rw [E57 (by omega),List.getElem?_map] at hr;cases hj':ids[id-h.length]? with
   | none=>rw [hj'] at hr;cases hr
   | some j =>
    rw [hj'] at hr;change rd h' j=A4 r at hr;have A0d:j∈ids:=E6j hj';obtain ⟨_,r2,hr2,h1,h2⟩:=hg.ok j A0d;rw [hr] at hr2;cases hr2;refine ⟨j,rfl,by omega,hr,?_,A0d,h1,h2⟩;unfold nu;rw [if_neg hl,hj'];rfl
 have fnew:∀ j r x,rd h' j=A4 r->r.rw=A5 -> μ' j=A4 x->¬ D2g μ h x.1 /\ Γ.F x.1=A7:=by
  intro j r x hr hw hx;have h1:=hj.own j r x hr (Row.own_rw hw) hx;unfold Ctx.hold at h1;simp only at h1;split at h1
  ·rename_i hb;obtain ⟨id,r0,n,hr0,hm⟩:=hb;obtain ⟨o,h2⟩:=(hi.rows id r0 hr0).there hm;rw [h2] at h1;cases h1
  ·exact ⟨‹_›,h1⟩
 refine ⟨?_,?_,?_,?_,?_⟩
 ·intro id r hr;rcases get id r hr with ⟨hl,hr⟩ | ⟨j,hj1,hl,hr,hn,A0d,hw,hf⟩
  ·exact (hi.rows id r hr).mono dF (lo id hl) λx hx=>same _ ⟨id,r,x.2,hr,hx⟩
  ·have:=hj.rows j r hr;unfold RowOk at this ⊢;rw [hn];cases hm:μ' j with
   | none=>rw [hm] at this;exact this
   | some x =>
    obtain ⟨C,elem,fz,h1,h2,h3,h4⟩:=(hj.rows j r hr).mem hm hw;refine .inl ⟨C,elem,fz,h1,h2,?_,h4⟩;rw [hw] at h3 ⊢;have h5:=RL.all h3 (by simp);exact (All2.flat (μ':=nu μ μ' h.length ids) hf h5).mono λ_ _=>.inl
 ·intro id bT r r' x x' hr hr' hw T1 hx hx';rcases get id r hr with ⟨hl,hr⟩ | ⟨j,hj1,hl,hr,hn,A0d,hw2,hf⟩
  ·rw [lo id hl] at hx;rcases get bT r' hr' with ⟨hl',hr'⟩ | ⟨j',E3W,hl',hr',hn',E34,E39,hf'⟩
   ·rw [lo bT hl'] at hx';exact hi.sep id bT r r' x x' hr hr' hw T1 hx hx'
   ·rw [hn'] at hx';intro e;exact (fnew j' r' x' hr' E39 hx').1 (e ▸ ⟨id,r,x.2,hr,hx⟩)
  ·rw [hn] at hx;rcases get bT r' hr' with ⟨hl',hr'⟩ | ⟨j',E3W,hl',hr',hn',E34,E39,hf'⟩
   ·rw [lo bT hl'] at hx';intro e;exact (fnew j r x hr hw2 hx).1 (e ▸ ⟨bT,r',x'.2,hr',hx'⟩)
   ·rw [hn'] at hx';refine hj.sep j j' r r' x x' hr hr' hw (λe=>?_) hx hx';subst e;have h1:=List.getElem?_eq_some_iff.1 hj1;have h2:=List.getElem?_eq_some_iff.1 E3W;have:=(List.getElem_inj hg.nd).1 (h1.2.trans h2.2.symm);omega
 ·intro id r x hr hw hx;rcases get id r hr with ⟨hl,hr⟩ | ⟨j,hj1,hl,hr,hn,A0d,hw2,hf⟩
  ·rw [lo id hl] at hx;exact hi.own id r x hr hw hx
  ·rw [hn] at hx;exact (fnew j r x hr hw2 hx).2
 ·intro id hl;simp only [E5T,List.length_map] at hl;unfold nu;rw [if_neg (by omega),E6x (by omega)];rfl
 ·refine ⟨hj.ctx.os,hj.ctx.tape,hj.ctx.output,λb o ho=>?_⟩;by_cases hb:D2g μ h b
  ·rw [same b hb];exact hi.ctx.block b o ho
  ·refine hj.ctx.block b o ?_;unfold Ctx.hold;simp only;rw [if_neg hb];exact ho
def D75 {P:Program} {f:FuncId} {F:List Val->B5->Option (Val × B5)} (hF:∀ args h v h2,F args h=A4 (v,h2)->kX P f/\CallOk P f args h v h2/\h.length<=h2.length)
  {args:List Val} {h:B5} {v:Val} {h2:B5} (he:C8f F args h=A4 (v,h2)):kX P f/\CallOk P f args h v h2/\h.length<=h2.length:=by
 simp only [C8f,E5Q,E6d,E50] at he;obtain ⟨p,hp,q,hq,rfl,rfl⟩:=he;obtain ⟨h1,h2,h3⟩:=hF args (ro h) p.1 p.2 hp;refine ⟨h1,fun Γ μ w V hi hv=>?_,by simp⟩;refine (h2 (Γ.hold μ h w) μ w V hi.hold hv).mono λe w' ⟨V',μ',he,_,hV,hi',hl⟩=>?_
 obtain ⟨hg,hR⟩:=D62 (μ:=μ) (μ':=μ') (λid hid=>hl id (by simpa [F7] using hid)) (v2:=q.1) (fin:=q.2) hq;refine ⟨V',nu μ μ' h.length q.2,he,λid x hx=>?_,hR V' hV,hi.held hi' hg,λid hl=>by unfold nu;rw [if_pos hl]⟩;by_cases hl:id<h.length
 ·unfold nu;rw [if_pos hl];exact hx
 ·rw [hi.dom id (by omega)] at hx;cases hx
def E1K {P:Program} {f:FuncId} {F:List Val->B5->Option (Val × B5)} (hF:∀ args h v h2,F args h=A4 (v,h2)->kX P f/\CallOk P f args h v h2/\h.length<=h2.length)
  (args:List Val) (h:B5) (v:Val) (h2:B5) (he:tidy F args h=A4 (v,h2)):kX P f/\CallOk P f args h v h2/\h.length<=h2.length:=by
 unfold tidy at he;split at he
 ·rename_i r hr;cases he;exact D75 hF hr
 ·exact hF args h v h2 he
def B9b {F:List Val->B5->Option (Val × B5)} {args:List Val} {h h':B5} {v v2:Val} {ids:List Nat} (he:F args (ro h)=A4 (v,h')) (hc:Y8 h' h.length v=A4 (v2,ids)) :
  tidy F args h=A4 (v2,h++ids.map (rd h')):=by
 have:C8f F args h=A4 (v2,h++ids.map (rd h')):=by
  unfold C8f;rw [he];simp [hc]
 unfold tidy;rw [this]
def Val.flat:Val->Bool
 | .c x=>x.flat
 | .a l=>O5 l
 | .t l=>l.all λp=>match p with
  | .c x=>x.flat
  | .a l=>O5 l
 | _=>A6
def gR {h:B5} {b:Nat} {seen:List Nat}:∀ {l:List Cell},O5 l=A5->S8 h b seen l=A4 (l,seen)
 | [],_=>rfl
 | c::l,hf=>by
  rw [B6d,E5S] at hf;have ih:=gR (h:=h) (b:=b) (seen:=seen) hf.2;unfold S8;rw [if_pos (Cell.low_of_flat hf.1),ih];rfl
def B1i {h:B5} {b:Nat} {seen:List Nat}:∀ {l:List Part},(l.all λp=>match p with | .c x=>x.flat | .a l=>O5 l)=A5->iK h b seen l=A4 (l,seen)
 | [],_=>rfl
 | .c x::l,hf=>by
  simp only [E6B,E5S] at hf;have ih:=B1i (h:=h) (b:=b) (seen:=seen) hf.2;have h1:S8 h b seen [x]=A4 ([x],seen):=gR (by simpa [O5] using hf.1);simp [iK,h1,ih]
 | .a x::l,hf=>by
  simp only [E6B,E5S] at hf;have ih:=B1i (h:=h) (b:=b) (seen:=seen) hf.2;have h1:S8 h b seen x=A4 (x,seen):=gR hf.1;simp [iK,h1,ih]
def D3i {h:B5} {b:Nat} {v:Val} (hf:v.flat=A5):Y8 h b v=A4 (v,[]):=by
 cases v with
 | c x =>
  have h1:S8 h b [] [x]=A4 ([x],[]):=gR (by simp only [O5,E6B,List.all_nil,Bool.and_true];exact hf);simp [Y8,h1]
 | a l =>
  have h1:S8 h b [] l=A4 (l,[]):=gR hf;simp [Y8,h1]
 | t l =>
  have h1:iK h b [] l=A4 (l,[]):=B1i hf;simp [Y8,h1]
 | un=>cases hf
 | no=>cases hf
def D76 {F:List Val->B5->Option (Val × B5)} {args:List Val} {h h':B5} {v:Val} (he:F args (ro h)=A4 (v,h')) (hf:v.flat=A5):tidy F args h=A4 (v,h):=by
 have:=B9b he (D3i (h:=h') (b:=h.length) hf);simpa using this
def C35 (b:Nat) (l:List Cell):Bool:=l.all (Cell.low b)
def Val.low (b:Nat):Val->Bool
 | .c x=>x.low b
 | .a l=>C35 b l
 | .t l=>l.all λp=>match p with
  | .c x=>x.low b
  | .a l=>C35 b l
 | _=>A6
def A2m {h:B5} {b:Nat} {seen:List Nat}:∀ {l:List Cell},C35 b l=A5->S8 h b seen l=A4 (l,seen)
 | [],_=>rfl
 | c::l,hf=>by
  have hf:(c.low b&&C35 b l)=A5:=hf;rw [E5S] at hf;have ih:=A2m (h:=h) (b:=b) (seen:=seen) hf.2;unfold S8;rw [if_pos hf.1,ih];rfl
def B51 {h:B5} {b:Nat} {seen:List Nat}:∀ {l:List Part},(l.all λp=>match p with | .c x=>x.low b | .a l=>C35 b l)=A5->iK h b seen l=A4 (l,seen)
 | [],_=>rfl
 | .c x::l,hf=>by
  simp only [E6B,E5S] at hf;have ih:=B51 (h:=h) (b:=b) (seen:=seen) hf.2;have h1:S8 h b seen [x]=A4 ([x],seen):=A2m (by simpa [C35] using hf.1);simp [iK,h1,ih]
 | .a x::l,hf=>by
  simp only [E6B,E5S] at hf;have ih:=B51 (h:=h) (b:=b) (seen:=seen) hf.2;have h1:S8 h b seen x=A4 (x,seen):=A2m hf.1;simp [iK,h1,ih]
def E0j {F:List Val->B5->Option (Val × B5)} {args:List Val} {h h':B5} {v:Val} (he:F args (ro h)=A4 (v,h')) (hf:v.low h.length=A5):tidy F args h=A4 (v,h):=by
 have hc:Y8 h' h.length v=A4 (v,[]):=by
  cases v with
  | c x =>
   have h1:S8 h' h.length [] [x]=A4 ([x],[]):=A2m (by simp only [C35,E6B,List.all_nil,Bool.and_true];exact hf);simp [Y8,h1]
  | a l =>
   have h1:S8 h' h.length [] l=A4 (l,[]):=A2m hf;simp [Y8,h1]
  | t l =>
   have h1:iK h' h.length [] l=A4 (l,[]):=B51 hf;simp [Y8,h1]
  | un=>cases hf
  | no=>cases hf
 have:=B9b he hc;simpa using this
@[simp] theorem E4b {b:Nat}:C35 b []=A5:=rfl
@[simp] theorem E3C {b:Nat} {c:Cell} {l:List Cell}:C35 b (c::l)=(c.low b&&C35 b l):=rfl
@[simp] theorem E5t {b:Nat} {x:Cell}:(Val.c x).low b=x.low b:=rfl
@[simp] theorem E5s {b:Nat} {l:List Cell}:(Val.a l).low b=C35 b l:=rfl
@[simp] theorem E5u {b:Nat} {l:List Part}:(Val.t l).low b=l.all λp=>match p with | .c x=>x.low b | .a l=>C35 b l:=rfl
@[simp] theorem E5m {b id off len sz:Nat}:(Cell.sl id off len sz).low b=decide (id<b):=rfl
@[simp] theorem E5D {b:Nat} {k:IntKind} {n:Int}:(Cell.i k n).low b=A5:=rfl
@[simp] theorem E5C {b:Nat} {x:Bool}:(Cell.b x).low b=A5:=rfl
@[simp] theorem E5E {b:Nat} {x:List UInt8}:(Cell.s x).low b=A5:=rfl
@[simp] theorem E5l {b:Nat}:Cell.ns.low b=A5:=rfl
@[simp] theorem E3B:O5 []=A5:=rfl
@[simp] theorem E1X {c:Cell} {l:List Cell}:O5 (c::l)=(c.flat&&O5 l):=rfl
@[simp] theorem uI {l m:List Cell}:O5 (l++m)=(O5 l&&O5 m):=by simp [O5]
@[simp] theorem C6X {l:List UInt8}:O5 (B4 l)=A5:=by simp [O5,B4,Cell.flat]
@[simp] theorem E4H {x:Bool}:(Cell.b x).flat=A5:=rfl
@[simp] theorem E4I {k:IntKind} {n:Int}:(Cell.i k n).flat=A5:=rfl
@[simp] theorem E4J {x:List UInt8}:(Cell.s x).flat=A5:=rfl
@[simp] theorem E4y:Cell.ns.flat=A5:=rfl
@[simp] theorem E4x:Cell.np.flat=A5:=rfl
@[simp] theorem E4A {x:Cell}:(Val.c x).flat=x.flat:=rfl
@[simp] theorem E4z {l:List Cell}:(Val.a l).flat=O5 l:=rfl
@[simp] theorem E4B {l:List Part}:(Val.t l).flat=l.all λp=>match p with | .c x=>x.flat | .a l=>O5 l:=rfl
@[simp] theorem B6q {h:B5} {v:Val}:quiet h (A4 (v,h))=A4 (v,h):=U9 Grows.rfl'
section
variable {h:B5} {l:List (Option Row)} {k id:Nat}
@[simp] theorem K9:rd (h++l) (h.length+k)=(l[k]?).join:=by
 unfold rd;rw [E57 (by omega),Nat.add_sub_cancel_left]
@[simp] theorem E9:rd (h++l) h.length=(l[0]?).join:=K9 (k:=0)
@[simp] theorem nF {x:Option Row}:(h++l).set (h.length+k) x=h++l.set k x:=by
 rw [E6u _ _ (by omega),Nat.add_sub_cancel_left]
@[simp] theorem S3 {x:Option Row}:(h++l).set h.length x=h++l.set 0 x:=nF (k:=0)
end
section
variable {h:B5} {id off n sz:Nat} {cs xs:List Cell} {x:Cell} {k:IntKind} {rw:Bool}
def D8h {j:Int} (h0:0<=j) (h1:j<n):I3 n sz (.c (.p id off)) (.c (.i k j))=A4 (.c (.p id (off+j.toNat*sz))):=by
 simp only [I3];rw [if_pos ⟨h0,h1⟩]
end
def Has (h:B5) (v:Val) (sz n:Nat) (cs:List Cell):Prop :=
 (v=.c .ns/\n=0/\cs=[])\/∃ id off r,v=.c (.sl id off n sz)/\rd h id=A4 r/\cs.length=n*sz/\off+n*sz<=r.cells.length/\(r.cells.drop off).take (n*sz)=cs/\noX cs=A5
section
variable {h:B5} {v:Val} {sz n:Nat} {cs:List Cell}
def Has.length (hv:Has h v sz n cs):cs.length=n*sz:=by
 rcases hv with ⟨_,rfl,rfl⟩ | ⟨_,_,_,_,_,hl,_⟩
 ·simp
 ·exact hl
def D2y {r:Row} {off m j:Nat} (h3:(r.cells.drop off).take m=cs) (h4:noX cs=A5) (hj:j<m) (hl:off+m<=r.cells.length):(r.rw||(r.cells[off+j]?).any λc=>!c.isX)=A5:=by
 have V7:off+j<r.cells.length:=by omega
 have hc:cs[j]?=A4 r.cells[off+j]:=by
  rw [<-h3,E6s hj,E6J,E5P V7]
 have:=List.all_eq_true.1 h4 _ (E6j hc);rw [E5P V7];simp only [Option.any_some,this,Bool.or_true]
def Has.ro (hv:Has h v sz n cs):Has (ro h) v sz n cs:=by
 rcases hv with hv | ⟨id,off,r,rfl,hr,h1,h2,h3,h4⟩
 ·exact .inl hv
 ·cases hh:r.head with
  | false=>exact .inr ⟨id,off,⟨r.cells,A6⟩,rfl,B8Y hr hh,h1,h2,h3,h4⟩
  | true =>
   have hx:=Row.head_isX hh;have E36:cs=[]:=by
    cases hcs:cs with
    | nil=>rfl
    | cons c cs' =>
     exfalso;have A0d:c∈r.cells:=List.mem_of_mem_drop (List.mem_of_mem_take (by rw [h3,hcs];simp));have h5:c.isX=A6:=by
      have:=List.all_eq_true.1 h4 c (by rw [hcs];simp);simpa using this
     rw [hx c A0d] at h5;cases h5
   have hd:r.dim.length=r.cells.length:=by unfold Row.dim;rw [hh];simp
   have hn:n*sz=0:=by rw [<-h1,E36];rfl
   exact .inr ⟨id,off,⟨r.dim,A6⟩,rfl,by rw [D0U,hr];rfl,h1,by show off+n*sz<=r.dim.length;rw [hd];exact h2,by rw [hn,E6U,E36],h4⟩
def Has.more (hv:Has h v sz n cs) (l:B5):Has (h++l) v sz n cs:=by
 rcases hv with hv | ⟨id,off,r,rfl,hr,h1,h2,h3,h4⟩
 ·exact .inl hv
 ·exact .inr ⟨id,off,r,rfl,C5 hr,h1,h2,h3,h4⟩
def Has.grows {h':B5} (hv:Has h v sz n cs) (hg:Grows h h'):Has h' v sz n cs:=by
 rcases hv with hv | ⟨id,off,r,rfl,hr,h1,h2,h3,h4⟩
 ·exact .inl hv
 ·exact .inr ⟨id,off,r,rfl,hg.rd hr,h1,h2,h3,h4⟩
def Has.len (hv:Has h v sz n cs):D1E v=A4 (.c (.i .i64 n)):=by
 rcases hv with ⟨rfl,rfl,rfl⟩ | ⟨id,off,r,rfl,_⟩<;>rfl
def Has.cells (hv:Has h v sz n cs):iW h v=A4 cs:=by
 rcases hv with ⟨rfl,rfl,rfl⟩ | ⟨id,off,r,rfl,hr,h1,h2,h3,h4⟩
 ·rfl
 ·simp only [iW,hr,E54];rw [if_pos ⟨h2,by rw [h3,h4];simp⟩,h3]
def Has.add (hv:Has h v sz n cs):Q6 h sz v=A4 cs:=by
 have:=hv.cells;rcases hv with ⟨rfl,rfl,rfl⟩ | ⟨id,off,r,rfl,_⟩
 ·rfl
 ·simp only [Q6,if_true];exact this
def C19:∀ l:List UInt8,bytes? (B4 l)=A4 l
 | []=>rfl
 | x::l=>by
  have h1:=x.toNat_lt;have e:D0f (.i .u8 x.toNat)=A4 x:=by
   simp only [D0f];rw [if_pos ⟨by omega,by omega⟩];simp
  change (D0f (.i .u8 x.toNat)).bind (λy=>(bytes? (B4 l)).map λl=>y::l)=_;rw [e,C19 l];rfl
def Has.str {l:List UInt8} (hv:Has h v 1 n (B4 l)):B5P h v=A4 (.c (.s l)):=by
 have:=hv.cells;rcases hv with ⟨rfl,rfl,e⟩ | ⟨id,off,r,rfl,_⟩
 ·have:l=[]:=by simpa [B4] using e
  subst this;rfl
 ·simp only [B5P,if_true,this,E54,C19,Option.map_some]
def Has.sl (hv:Has h v sz n cs) (hn:0<n):∃ id off,v=.c (.sl id off n sz)/\id<h.length /\
  (∀ j c,cs[j]?=A4 c->B8 h (.c (.p id (off+j)))=A4 (.c c))/\∀ j m,j+m<=cs.length->D4 h m (.c (.p id (off+j)))=A4 (.a ((cs.drop j).take m)):=by
 rcases hv with ⟨rfl,rfl,rfl⟩ | ⟨id,off,r,rfl,hr,h1,h2,h3,h4⟩
 ·omega
 ·refine ⟨id,off,rfl,C8 hr,λj c hc=>?_,λj m hj=>?_⟩
  ·have V7:j<cs.length:=(List.getElem?_eq_some_iff.1 hc).1;have hx:c.isX=A6:=by
    have:=List.all_eq_true.1 h4 c (E6j hc);simpa using this
   refine B9 (cs:=r.cells) (rw:=r.rw) hr ?_ (by simp [hx]);rw [<-h3,E6s (by omega),E6J] at hc;exact hc
  ·have e:((cs.drop j).take m)=(r.cells.drop (off+j)).take m:=by
    rw [<-h3,List.drop_take,List.take_take,E6P]
    congr 1
    omega
   rw [e];refine dR (cs:=r.cells) (rw:=r.rw) hr (by omega) ?_;rw [<-e];have:noX ((cs.drop j).take m)=A5:=by
    refine List.all_eq_true.2 λc hc=>List.all_eq_true.1 h4 c ?_
    exact List.mem_of_mem_drop (List.mem_of_mem_take hc)
   simp [this]
end
def Has.row {h:B5} {id sz n:Nat} {cs:List Cell} {rw:Bool} (hr:rd h id=A4 ⟨cs,rw⟩) (hl:cs.length=n*sz) (hx:noX cs=A5):Has h (.c (.sl id 0 n sz)) sz n cs :=
 .inr ⟨id,0,_,rfl,hr,hl,by simp [hl],by simp [<-hl],hx⟩
def Out (b:Nat) (h:B5) (v:Val) (sz n:Nat) (cs:List Cell):Prop :=
 cs.length=n*sz/\∃ id,v=.c (.sl id 0 n sz)/\b<=id/\rd h id=A4 ⟨cs,A5⟩
def Low (b:Nat) (h h':B5):Prop:=b<=h.length/\h.length<=h'.length/\∀ id,id<b->rd h' id=rd h id
def Low.refl {b:Nat} {h:B5} (hb:b<=h.length):Low b h h:=⟨hb,E5V _,λ_ _=>rfl⟩
def Low.trans {b:Nat} {h h' h'':B5} (h1:Low b h h') (h2:Low b h' h''):Low b h h'' :=
 ⟨h1.1,E6w h1.2.1 h2.2.1,λid hid=>(h2.2.2 id hid).trans (h1.2.2 id hid)⟩
def Low.new {b:Nat} {h h':B5} (h1:Low b h h') (l:B5):Low b h (h'++l) :=
 ⟨h1.1,by have:=h1.2.1;simp;omega,λid hid=>by rw [E1 (by have:=h1.1;have:=h1.2.1;omega)];exact h1.2.2 id hid⟩
def Low.set {b:Nat} {h h':B5} (h1:Low b h h') {id:Nat} (hid:b<=id) (x:Option Row):Low b h (h'.set id x) :=
 ⟨h1.1,by simpa using h1.2.1,λj hj=>by rw [B6 (by omega)];exact h1.2.2 j hj⟩
def Has.low {b:Nat} {h h':B5} {v:Val} {sz n:Nat} {cs:List Cell} (h1:Low b h h') (hv:Has h v sz n cs) (hb:∀ id off m,v=.c (.sl id off m sz)->id<b):Has h' v sz n cs:=by
 rcases hv with hv | ⟨id,off,r,rfl,hr,h2⟩
 ·exact .inl hv
 ·exact .inr ⟨id,off,r,rfl,by rw [h1.2.2 id (hb id off n rfl)];exact hr,h2⟩
def Out.app {b:Nat} {h:B5} {v y:Val} {sz n m:Nat} {cs ys:List Cell} (ho:Out b h v sz n cs) (hsz:0<sz) (hy:Q6 h sz y=A4 ys) (hm:ys.length=m*sz) (hn:n+m<=1073741824) :
  ∃ id v' h',v=.c (.sl id 0 n sz)/\kV h sz v y=A4 (v',h')/\Out b h' v' sz (n+m) (cs++ys)/\Low b h h'/\(∀ i r,rd h i=A4 r->i≠id->rd h' i=A4 r):=by
 have hd:ys.length/sz=m:=by rw [hm];exact Nat.mul_div_cancel m hsz
 obtain ⟨hl,id,rfl,E4R,hr⟩:=ho;have V7:=C8 hr;refine ⟨id,_,h.set id A7++[A4 ⟨cs++ys,A5⟩],rfl,by simp only [kV,hy,hr,E54,hd];rw [if_pos ⟨trivial,trivial,hl.symm,trivial,hn⟩],⟨by simp [hl,hm,E6W],h.length,rfl,by omega,?_⟩,((Low.refl (by omega)).set E4R A7).new _,λi r hi T1=>?_⟩
 ·have:=U5 (h:=h.set id A7) (r:=⟨cs++ys,A5⟩)
  rwa [E6o] at this
 ·have V7:=C8 hi;rw [E1 (by simpa using V7),B6 (Ne.symm T1)];exact hi
def A1K {h:B5} {id:Nat} {cs:List Cell} (hr:rd h id=A4 ⟨cs,A5⟩) (hf:O5 cs=A5):newRow h id=A5:=by simp [newRow,hr,hf]
def D8z {h:B5} {b id off n sz:Nat} {cs:List Cell} (hb:b<=id) (hr:rd h id=A4 ⟨cs,A5⟩) (hf:O5 cs=A5):Y8 h b (.c (.sl id off n sz))=A4 (.c (.sl b off n sz),[id]):=by
 have:¬ id<b:=by omega
 simp [Y8,S8,hb,this,A1K hr hf]
def E0k {F:List Val->B5->Option (Val × B5)} {args:List Val} {h h':B5} {v:Val} {sz n:Nat} {cs:List Cell} (he:F args (ro h)=A4 (v,h')) (ho:Out h.length h' v sz n cs) (hf:O5 cs=A5) :
  tidy F args h=A4 (.c (.sl h.length 0 n sz),h++[A4 ⟨cs,A5⟩]):=by
 obtain ⟨hl,id,rfl,hb,hr⟩:=ho;rw [B9b he (D8z hb hr hf)];simp [hr]
def D77 {F:List Val->B5->Option (Val × B5)} {args:List Val} {h h':B5} {v':Nat} {c:Cell} {sz n:Nat} {cs:List Cell} (he:F args (ro h)=A4 (.t [.c (.sl v' 0 n sz),.c c],h')) (ho:Out h.length h' (.c (.sl v' 0 n sz)) sz n cs) (hf:O5 cs=A5) (hc:c.flat=A5) :
  tidy F args h=A4 (.t [.c (.sl h.length 0 n sz),.c c],h++[A4 ⟨cs,A5⟩]):=by
 obtain ⟨hl,id,e,hb,hr⟩:=ho;cases e;have e2:S8 h' h.length [v'] [c]=A4 ([c],[v']):=gR (by simp [hc]);rw [B9b he (v2:=.t [.c (.sl h.length 0 n sz),.c c]) (ids:=[v']) (by simp [Y8,iK,S8,hb,show ¬ v'<h.length by omega,A1K hr hf,e2,hc,Cell.low_of_flat hc])];simp [hr]
def encI (l:List Int):List Cell:=l.map λn=>.i .i64 n
def B7 (l:List Int):(encI l).length=l.length:=by simp [encI]
def X5 (l:List Int) (i:Nat) (x:Int):(encI l).set i (.i .i64 x)=encI (l.set i x):=by simp [encI,List.map_set]
def I1 (l:List Int) (i:Nat):(encI l)[i]?=(l[i]?).map λx=>.i .i64 x:=by simp [encI]
def A3X (l m:List Int):encI (l++m)=encI l++encI m:=by simp [encI]
def cG (l:List Int):noX (encI l)=A5:=by simp [noX,encI,Cell.isX]
@[simp] theorem B6e {l:List Int}:O5 (encI l)=A5:=by simp [O5,encI,Cell.flat]
def D3A {l m:List Int}:encI l=encI m↔l=m:=by
 constructor
 ·intro h;exact List.map_inj_right (λx y e=>by simpa using e) |>.1 h
 ·rintro rfl;rfl
def encS (l:List (List UInt8)):List Cell:=l.map .s
def N8 (l:List (List UInt8)):(encS l).length=l.length:=by simp [encS]
def B8H (l:List (List UInt8)):noX (encS l)=A5:=by simp [noX,encS,Cell.isX]
@[simp] theorem E2s {l:List (List UInt8)}:O5 (encS l)=A5:=by simp [O5,encS,Cell.flat]
abbrev Fun:=List Val->B5->Option (Val × B5)
abbrev SmV:=Sm (Val × B5)
abbrev B4O:=Option (Val × B5)
def SOk (P:Program) (f:FuncId) (S:Fun):Prop:=∀ args h v h2,S args h=A4 (v,h2)->kX P f/\CallOk P f args h v h2/\h.length<=h2.length
def D8V (g:Nat) (S:Fun) (E:O3):O3:=λf args h=>bif Nat.beq f g then S args h else E f args h
def D3y:O3:=λ_ _ _=>A7
def D5M {P:Program}:gP P D3y:=λ_ _ _ _ _ h=>by cases h
def D5N {P:Program} {g:Nat} {S:Fun} {E:O3} (hs:SOk P g S) (hE:gP P E):gP P (D8V g S E):=by
 intro f args h v h2 he;unfold D8V at he;cases hb:Nat.beq f g with
 | true=>rw [hb] at he;have e:=Nat.eq_of_beq_eq_true hb;subst e;exact hs args h v h2 he
 | false=>rw [hb] at he;exact hE f args h v h2 he
structure FnK (P:Program) (f:FuncId) (A:AFn) (E:O3) (R:Nat->Fun):Prop where
 run:∀ n args h,A.run E n args h=R n args h
 ok:SOk P f (Lim A E)
def FnK.mk' {P:Program} {f:FuncId} {fn:Func} {A:AFn} {E:O3} {R:Nat->Fun} (hE:gP P E) (hf:P.funcs[f]?=A4 fn) (hc:C6z P fn A=A5) (hr:∀ n args h,A.run E n args h=R n args h):FnK P f A E R :=
 ⟨hr,λ_ _ _ _ he=>(D5W he).elim λ_ e=>E3H hE hf hc e⟩
abbrev KV:=B3d (Val × B5)
abbrev AtH:=B5->B4O
def zE:List Nat->List Val->Env
 | t::l,x::r=>(t,x)::zE l r
 | _,_=>[]
def rx (E:O3) (A:AFn) (n:Nat):Fun:=λargs h=>ax E n A.code A.fin (params 0 args) h
def tl (A:AFn) (E:O3):Fun:=tidy (Lim A E)
def aj' (s:SmV) (k:KV) (ks:List Nat) (xs:List Val):AtH:=λh=>hold (s k (zE ks xs) h)
def aj (E:O3) (n:Nat) (c:ACode) (k:KV) (ks:List Nat) (xs:List Val):AtH:=aj' (ax E n c) k ks xs
def FnK.mk2 {P:Program} {f:FuncId} {fn:Func} {A:AFn} {E:O3} (hE:gP P E) (hf:P.funcs[f]?=A4 fn) (hc:C6z P fn A=A5):FnK P f A E (rx E A) :=
 .mk' hE hf hc λ_ _ _=>E2n
section
variable {P:Program} {f:FuncId} {A:AFn} {E:O3} {R:Nat->Fun}
def FnK.of (K:FnK P f A E R) {n:Nat} {args:List Val} {h:B5} {p:Val × B5} (he:R n args h=A4 p):Lim A E args h=A4 p:=E2d ((K.run ..).trans he)
def FnK.sok (K:FnK P f A E R):SOk P f (tidy (Lim A E)):=λargs h v h2 he=>E1K K.ok args h v h2 he
def FnK.flat (K:FnK P f A E R) {n:Nat} {args:List Val} {h h2:B5} {v:Val} (he:R n args (ro h)=A4 (v,h2)) (hf:v.flat=A5):tidy (Lim A E) args h=A4 (v,h):=D76 (K.of he) hf
def FnK.low (K:FnK P f A E R) {n:Nat} {args:List Val} {h h2:B5} {v:Val} (he:R n args (ro h)=A4 (v,h2)) (hf:v.low h.length=A5):tidy (Lim A E) args h=A4 (v,h):=E0j (K.of he) hf
def FnK.out (K:FnK P f A E R) {n:Nat} {args:List Val} {h h2:B5} {v:Val} {sz k:Nat} {cs:List Cell} (he:R n args (ro h)=A4 (v,h2)) (ho:Out h.length h2 v sz k cs) (hf:O5 cs=A5):tidy (Lim A E) args h=A4 (.c (.sl h.length 0 k sz),h++[A4 ⟨cs,A5⟩]):=E0k (K.of he) ho hf
def FnK.out2 (K:FnK P f A E R) {n:Nat} {args:List Val} {h h2:B5} {i:Nat} {c:Cell} {sz k:Nat} {cs:List Cell} (he:R n args (ro h)=A4 (.t [.c (.sl i 0 k sz),.c c],h2)) (ho:Out h.length h2 (.c (.sl i 0 k sz)) sz k cs) (hf:O5 cs=A5) (hc:c.flat=A5):Esc.tidy (Lim A E) args h=A4 (.t [.c (.sl h.length 0 k sz),.c c],h++[A4 ⟨cs,A5⟩]):=D77 (K.of he) ho hf hc
def FnK.tidy (K:FnK P f A E R) {n:Nat} {args:List Val} {h h2:B5} {v v2:Val} {ids:List Nat} (he:R n args (ro h)=A4 (v,h2)) (hc:Y8 h2 h.length v=A4 (v2,ids)):Esc.tidy (Lim A E) args h=A4 (v2,h++ids.map (rd h2)):=B9b (K.of he) hc
end
abbrev F6 (R:Nat->Fun) (S:Fun):Prop:=∀ {n:Nat} {args:List Val} {h h2:B5} {v:Val},R n args (ro h)=A4 (v,h2)->v.flat=A5->S args h=A4 (v,h)
abbrev E2e (R:Nat->Fun) (S:Fun):Prop:=∀ {n:Nat} {args:List Val} {h h2:B5} {v:Val},R n args (ro h)=A4 (v,h2)->v.low h.length=A5->S args h=A4 (v,h)
abbrev pY (R:Nat->Fun) (S:Fun):Prop:=∀ {n:Nat} {args:List Val} {h h2:B5} {v:Val} {sz k:Nat} {cs:List Cell},R n args (ro h)=A4 (v,h2)->Out h.length h2 v sz k cs->O5 cs=A5->S args h=A4 (.c (.sl h.length 0 k sz),h++[A4 ⟨cs,A5⟩])
abbrev E1V (R:Nat->Fun) (S:Fun):Prop:=∀ {n:Nat} {args:List Val} {h h2:B5} {i:Nat} {c:Cell} {sz k:Nat} {cs:List Cell},R n args (ro h)=A4 (.t [.c (.sl i 0 k sz),.c c],h2)->Out h.length h2 (.c (.sl i 0 k sz)) sz k cs->O5 cs=A5->c.flat=A5->S args h=A4 (.t [.c (.sl h.length 0 k sz),.c c],h++[A4 ⟨cs,A5⟩])
abbrev D5X (R:Nat->Fun) (S:Fun):Prop:=∀ {n:Nat} {args:List Val} {h h2:B5} {v v2:Val} {ids:List Nat},R n args (ro h)=A4 (v,h2)->Y8 h2 h.length v=A4 (v2,ids)->S args h=A4 (v2,h++ids.map (rd h2))
abbrev OfT (R:Nat->Fun) (S:Fun):Prop:=∀ {n:Nat} {args:List Val} {h:B5} {p:Val × B5},R n args h=A4 p->S args h=A4 p
end Go.Esc
namespace Go.Esc
open Go Go.ChangeShapes Go.WideShapes Go.ChangeAt Go.RowKit
def zZ (P:Program) (g:TypeId->Option (List Sh)):List Field->Nat->Option (List Sh)
 | [],_=>A4 []
 | f::r,off=>if f.offset=off then (g f.type).bind λl=>if l.length=P.cellsOf f.type then (zZ P g r (off+l.length)).map (l ++ ·) else A7 else A7
def B2x (P:Program):Nat->TypeId->Option (List Sh)
 | 0,_=>A7
 | n+1,t=>match P.underlying t with
  | some .bool=>A4 [.b]
  | some (.int k)=>A4 [.i k]
  | some .string=>A4 [.s]
  | some (.struct fs)=>(zZ P (B2x P n) fs.toList 0).bind λl=>if l.length=P.cellsOf t then A4 l else A7
  | some (.array m e)=>(B2x P n e).bind λl=>if l.length=P.cellsOf e/\P.cellsOf t=m*l.length then A4 (E5R m l).flatten else A7
  | _=>A7
def okCell:Sh->Cell->Prop
 | .b,.b _=>True
 | .i k,.i k' n=>k'=k/\k.min<=n/\n<=k.max
 | .s,.s l=>l.length<=maxLen
 | _,_=>False
def okCell.flat {s:Sh} {c:Cell} (h:okCell s c):c.flat=A5/\c.isX=A6:=by
 cases s<;>cases c<;>simp_all [okCell,Cell.flat,Cell.isX]
def B4z:∀ {l:List Sh} {cs:List Cell},All2 okCell l cs->O5 cs=A5/\noX cs=A5
 | [],[],_=>⟨rfl,rfl⟩
 | s::l,c::cs,⟨h1,h2⟩=>by
  have:=B4z h2;have h3:=h1.flat;simp [this.1,h3.1,noX,h3.2];have:=this.2;simpa [noX] using this
 | [],_::_,h=>h.elim
 | _::_,[],h=>h.elim
section
variable {H:Type} {enc:TypeId × Value->H} {P:Program} {w:World} {base:Nat} {spare:Nat->Bool} {held:Bool} {fuel:Nat} {t:TypeId} {cs:List Value} {x:DataW H × List MemPlace}
def trod_array {n:Nat} {e:TypeId} (ht:P.underlying t=A4 (.array n e)) (h:DataW.trod enc P w base spare held fuel t cs=A4 x) :
  ∃ (m:Nat) (xs:List (DataW H × List MemPlace)),cs.length=P.cellsOf t/\∀ i,i<n->∃ y,DataW.trod enc P w base spare held m e ((cs.drop (i*P.cellsOf e)).take (P.cellsOf e))=A4 y:=by
 cases fuel with
 | zero=>simp [DataW.trod] at h
 | succ m =>
  unfold DataW.trod at h;rw [ht] at h;have h':cs.length=P.cellsOf t/\∃ xs,((E6p n).mapM λi=>DataW.trod enc P w base spare held m e ((cs.drop (i*P.cellsOf e)).take (P.cellsOf e)))=A4 xs:=by
   split at h<;>simp_all
   obtain ⟨hl,xs,hp,hd⟩:=h;exact ⟨xs,hp⟩
  obtain ⟨hl,xs,hp⟩:=h';refine ⟨m,xs,hl,λi hi=>?_⟩;have:=mapM_some_get hp i i (by simp [hi]);rw [this];have hxl:xs.length=n:=by simpa using mapM_some_length hp
  exact ⟨xs[i],E5P (by omega)⟩
def B2g (μ:Mu):∀ (n:Nat) {t:TypeId} {fuel:Nat} {cs:List Value} {x:DataW H × List MemPlace} {sh:List Sh},DataW.trod enc P w base spare held fuel t cs=A4 x->B2x P n t=A4 sh ->
  ∃ cells,All2 (RC μ) cells cs/\All2 okCell sh cells
 | 0,_,_,_,_,_,_,hs=>by simp [B2x] at hs
 | n+1,t,fuel,cs,x,sh,h,hs=>by
  unfold B2x at hs;split at hs
  ·rename_i ht;cases hs;obtain ⟨b,rfl,_⟩:=DataW.trod_bool ht h;exact ⟨[.b b],⟨rfl,trivial⟩,⟨trivial,trivial⟩⟩
  ·rename_i k ht;cases hs;obtain ⟨m,rfl,_,hw⟩:=DataW.trod_int ht h;simp only [Lit.wf,E5S,decide_eq_true_eq] at hw;exact ⟨[.i k m],⟨rfl,trivial⟩,⟨⟨rfl,hw⟩,trivial⟩⟩
  ·rename_i ht;cases hs;obtain ⟨s,rfl,_,hw⟩:=DataW.trod_string ht h;exact ⟨[.s s.data.toList],⟨by show Value.string s=.string ⟨s.data.toList.toArray⟩;simp,trivial⟩,⟨by show s.data.toList.length<=maxLen;simpa using hw,trivial⟩⟩
  ·rename_i fs ht;simp only [E5Q] at hs;obtain ⟨l,hl,hs⟩:=hs;split at hs
   ·rename_i hlen;cases hs;obtain ⟨xs,m,_,_,hcl,hxl,hf⟩:=DataW.trod_struct ht h;have key:∀ (r:List Field) (off:Nat) (l:List Sh),zZ P (B2x P n) r off=A4 l->(∀ f∈r,∃ y,DataW.trod enc P w base spare held m f.type ((cs.drop f.offset).take (P.cellsOf f.type))=A4 y) ->
      ∃ cells,All2 (RC μ) cells ((cs.drop off).take l.length)/\All2 okCell l cells:=by
     intro r
     induction r with
     | nil=>intro off l hl _;simp only [zZ,E5W] at hl;subst hl;exact ⟨[],by simp,trivial⟩
     | cons f r ih =>
      intro off l hl pL;simp only [zZ] at hl;split at hl
      ·rename_i ho;simp only [E5Q] at hl;obtain ⟨lf,hlf,hl⟩:=hl;split at hl
       ·rename_i hc;simp only [E6d] at hl;obtain ⟨lr,hlr,rfl⟩:=hl;obtain ⟨y,hy⟩:=pL f (by simp);obtain ⟨c1,g1,g2⟩:=B2g μ n hy hlf;obtain ⟨c2,g3,g4⟩:=ih (off+lf.length) lr hlr λf' hf'=>pL f' (by simp [hf'])
        refine ⟨c1++c2,?_,g2.append g4⟩;have e:(cs.drop off).take (lf++lr).length=(cs.drop off).take lf.length++(cs.drop (off+lf.length)).take lr.length:=by
         rw [E5T,List.take_add,E6P]
        rw [e];rw [ho,<-hc] at g1;exact g1.append g3
       ·cases hl
      ·cases hl
    have h1:=key fs.toList 0 _ hl λf hf'=>by
     obtain ⟨i,hi⟩:=List.mem_iff_getElem?.1 hf';have hi2:fs[i]?=A4 f:=by simpa using hi
     rw [hf i f hi2];have:i<fs.size:=(Array.getElem?_eq_some_iff.1 hi2).1;exact ⟨xs[i],E5P (by omega)⟩
    rw [E6a,E53 (by omega)] at h1;exact h1
   ·cases hs
  ·rename_i k e ht;simp only [E5Q] at hs;obtain ⟨l,hl,hs⟩:=hs;split at hs
   ·rename_i hlen;cases hs;obtain ⟨m,xs,hcl,pL⟩:=trod_array ht h;have key:∀ d j,j+d=k->∃ cells,All2 (RC μ) cells (cs.drop (j*l.length))/\All2 okCell (E5R d l).flatten cells:=by
     intro d
     induction d with
     | zero =>
      intro j hj;have:cs.drop (j*l.length)=[]:=E56 (by rw [hcl,hlen.2];have:j=k:=(by omega);subst this;exact E5V _);rw [this];exact ⟨[],trivial,trivial⟩
     | succ d ih =>
      intro j hj;obtain ⟨y,hy⟩:=pL j (by omega);obtain ⟨c1,g1,g2⟩:=B2g μ n hy hl;obtain ⟨c2,g3,g4⟩:=ih (j+1) (by omega);refine ⟨c1++c2,?_,?_⟩
      ·rw [<-hlen.1] at g1;have e2:cs.drop (j*l.length)=(cs.drop (j*l.length)).take l.length++cs.drop ((j+1)*l.length):=by
        rw [E6W,Nat.one_mul,<-E6P,List.take_append_drop]
       rw [e2];exact g1.append g3
      ·rw [E6k,List.flatten_cons];exact g2.append g4
    have h1:=key k 0 (by omega);simpa using h1
   ·cases hs
  ·cases hs
end
def Mu.set (μ:Mu) (id:Nat) (y:Option (Nat × Nat)):Mu:=λj=>if j=id then y else μ j
def Mu.le_set {μ:Mu} {id:Nat} {y:Option (Nat × Nat)} (h:μ id=Option.none):μ.le (μ.set id y):=by
 intro j x hj;unfold Mu.set;by_cases e:j=id
 ·subst e;rw [h] at hj;cases hj
 ·simp [e,hj]
def Inv.addRow {W:World} {h:B5} {μ:Mu} (hi:Inv (C6I W) μ h W) (hro:∀ id r,rd h id=A4 r->r.own=A6) {y:Option (Nat × Nat)} {cs:List Cell} (xS:(Row.mk cs A6).own=A6) (hrow:RowOk (μ.set h.length y) W h.length ⟨cs,A6⟩) :
  Inv (C6I W) (μ.set h.length y) (h++[A4 ⟨cs,A6⟩]) W/\∀ id r,rd (h++[A4 ⟨cs,A6⟩]) id=A4 r->r.own=A6:=by
 have hm:μ h.length=Option.none:=hi.dom _ (E5V _);have get:∀ id r,rd (h++[A4 ⟨cs,A6⟩]) id=A4 r->(id<h.length/\rd h id=A4 r)\/(id=h.length/\r=⟨cs,A6⟩):=by
  intro id r hr;by_cases hl:id<h.length
  ·rw [E1 hl] at hr;exact .inl ⟨hl,hr⟩
  ·have V7:=C8 hr;simp at V7;have:id=h.length:=by omega
   subst this;rw [U5] at hr;cases hr;exact .inr ⟨rfl,rfl⟩
 have ro':∀ id r,rd (h++[A4 ⟨cs,A6⟩]) id=A4 r->r.own=A6:=by
  intro id r hr;rcases get id r hr with ⟨_,h1⟩ | ⟨_,rfl⟩
  ·exact hro id r h1
  ·exact xS
 refine ⟨⟨?_,?_,?_,?_,hi.ctx⟩,ro'⟩
 ·intro id r hr;rcases get id r hr with ⟨hl,h1⟩ | ⟨rfl,rfl⟩
  ·exact (hi.rows id r h1).mono (Mu.le_set hm) (by simp [Mu.set];omega) λ_ _=>rfl
  ·exact hrow
 ·intro id bT r r' x x' hr _ hw;rw [ro' id r hr] at hw;cases hw
 ·intro id r x hr hw;rw [ro' id r hr] at hw;cases hw
 ·intro id hl;simp at hl;have:id≠h.length:=by omega
  simp only [Mu.set,this,if_false];exact hi.dom id (by omega)
def D9J {μ:Mu} {k:Nat} {cs:List Cell} {vs:List Value} (h:All2 (RC μ) cs vs):(Row.mk (E5R k .dark++cs) A6).own=A6:=by
 cases k with
 | succ k=>rfl
 | zero =>
  cases cs with
  | nil=>rfl
  | cons c cs =>
   cases vs with
   | nil=>exact h.elim
   | cons v vs =>
    have h1:=h.1;cases c<;>first | rfl | exact h1.elim
def Opened (W:World) (μ:Mu) (h:B5):Prop:=Inv (C6I W) μ h W/\∀ id r,rd h id=A4 r->r.own=A6
def Opened.nought (W:World):Opened W (λ_=>Option.none) []:=⟨Inv.nought W,λid r h=>by simp [rd] at h⟩
section
variable {H:Type} {enc:TypeId × Value->H} {P:Program} {W:World} {base:Nat} {held:Bool} {t:TypeId}
def D8A {W:World} {a:Addr} {C:Array Value} {elem:TypeId} {fz:Nat × Nat} {k:Nat} (hC:W.heap[a.block]?=A4 (.cells C elem fz)) (hs:a.spot=A7):W.cell? (a.add k)=C[a.off+k]? := by
 have h1:(a.add k).block=a.block:=by unfold Addr.add;split<;>rfl
 have h2:(a.add k).spot=A7:=by unfold Addr.add;split<;>simp_all
 have h3:(a.add k).off=a.off+k:=by unfold Addr.add;split<;>simp_all
 unfold World.cell?;rw [h1,hC,h3];simp [h2]
def C7I {μ:Mu} {h:B5} (ho:Opened W μ h) {r:Reach} {b0 n:Nat} {e:TypeId} {v:Value} {d:DataW H} {ps:List MemPlace} {sh:List Sh} (ht:P.underlying t=A4 (.slice e)) (hs:B2x P n e=A4 sh) (oL:sh.length=P.cellsOf e) (B6f:0<sh.length)
  (C69:Value.okWide P W r b0 t v) (hd:DataW.Trod enc P W base (λ_=>A5) held t v d ps) :
  ∃ v' μ' l len cells,μ.le μ'/\Opened W μ' (h++l)/\RV μ' v' v/\Has (h++l) v' sh.length len cells/\All2 okCell (E5R len sh).flatten cells/\len<=maxLen:=by
 obtain ⟨fuel,hf⟩:=hd;have hv:∃ a len cap,v=.slice a len cap:=by
  unfold Value.okWide at C69;rw [ht] at C69;unfold Cell.okWide at C69;rw [ht] at C69;cases v<;>simp_all [Cell.ok]
 obtain ⟨a0,len0,cap0,rfl⟩:=hv;have E2A:(Value.slice a0 len0 cap0).cells.toList=[.slice a0 len0 cap0]:=by simp [Value.cells]
 rw [E2A] at hf;rcases Deep.open_slice ht hf with ⟨hc,_⟩ | ⟨a,len,cap,m,k,D,Pl,hc,hb,hl,hm,hmm,hx,hel⟩
 ·simp only [List.cons.injEq,Value.slice.injEq,and_true] at hc;obtain ⟨rfl,rfl,rfl⟩:=hc;exact ⟨.c .ns,μ,[],0,[],Mu.le_refl _,by simpa using ho,rfl,.inl ⟨rfl,rfl,rfl⟩,by simp,Nat.zero_le _⟩
 ·simp only [List.cons.injEq,Value.slice.injEq,and_true] at hc;obtain ⟨rfl,rfl,rfl⟩:=hc;simp only [if_true] at hmm;subst hmm;rw [<-oL] at hel;by_cases hm0:m=0
  ·subst hm0;have:len0=0:=by omega
   subst this;obtain ⟨g1,g2⟩:=Inv.addRow ho.1 ho.2 (y:=Option.none) (cs:=[]) rfl (by unfold RowOk;simp [Mu.set]);exact ⟨.c (.sl h.length 0 0 sh.length),_,[A4 ⟨[],A6⟩],0,[],Mu.le_set (ho.1.dom _ (E5V _)),⟨g1,g2⟩,.inr ⟨rfl,_,rfl⟩,.inr ⟨h.length,0,⟨[],A6⟩,rfl,U5,by simp,by simp,by simp,rfl⟩,by simp,Nat.zero_le _⟩
  ·obtain ⟨cs0,hc0,hr0⟩:=hel 0 (by omega);obtain ⟨_,E5z,E2z⟩:=World.cells?_some hc0;have uU:∃ C elem fz,W.heap[a.block]?=A4 (.cells C elem fz)/\a.spot=A7:=by
    have:=E2z 0 B6f;rw [E5P (by omega)] at this;unfold World.cell? at this;have hb0:((a.add (0*sh.length)).add 0)=a:=by simp [Addr.add]
    rw [hb0] at this;split at this
    ·rename_i C elem fz hh;refine ⟨C,elem,fz,hh,?_⟩;split at this
     ·cases this
     ·rename_i hs2;cases hsp:a.spot with
      | none=>rfl
      | some s=>simp [hsp] at hs2
    ·cases this
   obtain ⟨C,elem,fz,hC,hsp⟩:=uU;have ha:a=⟨a.block,a.off,A7⟩:=by cases a;simp_all
   have D87:∀ i j,i<m->j<sh.length->W.cell? ((a.add (i*sh.length)).add j)=C[a.off+(i*sh.length+j)]? := by
    intro i j _ _;rw [Deep.add_add];exact D8A hC hsp
   have E38:a.off+m*sh.length<=C.size:=by
    obtain ⟨cs1,hc1,_⟩:=hel (m-1) (by omega);obtain ⟨_,E3Y,D5c⟩:=World.cells?_some hc1;have h1:=D5c (sh.length-1) (by omega);rw [D87 _ _ (by omega) (by omega),E5P (by omega)] at h1;have h2:=(Array.getElem?_eq_some_iff.1 h1).1;have e:(m-1)*sh.length+(sh.length-1)+1=m*sh.length:=by
     obtain ⟨q,rfl⟩:∃ q,m=q+1:=⟨m-1,by omega⟩;rw [Nat.add_sub_cancel,E6W];omega
    omega
   have key:∀ d j,j+d=len0->∃ cells,All2 (RC μ) cells ((C.toList.drop (a.off+j*sh.length)).take (d*sh.length))/\All2 okCell (E5R d sh).flatten cells:=by
    intro d
    induction d with
    | zero=>intro j _;exact ⟨[],by simp,trivial⟩
    | succ d ih =>
     intro j hj;obtain ⟨cs1,hc1,hr1⟩:=hel j (by omega);obtain ⟨_,E3Y,D5c⟩:=World.cells?_some hc1;obtain ⟨c1,g1,g2⟩:=B2g μ n hr1 hs;obtain ⟨c2,g3,g4⟩:=ih (j+1) (by omega);refine ⟨c1++c2,?_,by rw [E6k,List.flatten_cons];exact g2.append g4⟩;have e1:(C.toList.drop (a.off+j*sh.length)).take sh.length=cs1:=by
      refine List.ext_getElem? λi=>?_
      by_cases hi:i<sh.length
      ·rw [E6s hi,E6J,<-D5c i hi,D87 j i (by omega) hi];simp [Nat.add_assoc]
      ·rw [E6x (by simp;omega),E6x (by omega)]
     have e2:(C.toList.drop (a.off+j*sh.length)).take ((d+1)*sh.length)=cs1++(C.toList.drop (a.off+(j+1)*sh.length)).take (d*sh.length):=by
      rw [E6W d 1,Nat.one_mul,Nat.add_comm (d*sh.length),List.take_add,e1,E6P,E6W,Nat.one_mul,Nat.add_assoc]
     rw [e2];exact g1.append g3
   obtain ⟨cells,k1,k2⟩:=key len0 0 (by omega);rw [Nat.zero_mul,E6E] at k1;have hcl:cells.length=len0*sh.length:=by
    have h1:=k1.length;simp at h1;have:len0*sh.length<=m*sh.length:=Nat.mul_le_mul_right _ hl;omega
   have hmul:len0*sh.length<=m*sh.length:=Nat.mul_le_mul_right _ hl;have hm':μ h.length=A7:=ho.1.dom _ (E5V _);obtain ⟨g1,g2⟩:=Inv.addRow ho.1 ho.2 (y:=A4 (a.block,C.size)) (cs:=E5R a.off .dark++cells) (D9J k1) (by
    unfold RowOk;simp only [Mu.set,if_true];refine .inl ⟨C,elem,fz,hC,rfl,?_,λhf=>by cases hf⟩;have e3:C.toList.take (E5R a.off Cell.dark++cells).length=C.toList.take a.off++(C.toList.drop a.off).take (len0*sh.length):=by
     rw [E5T,E6n,List.take_add,hcl]
    rw [e3];refine All2.append ?_ (k1.mono λc V hc=>.inl (hc.mono (Mu.le_set hm')));refine All2.of_get (by simp;omega) λi c V hc hV=>.inr ⟨rfl,?_⟩
    have:=E6j hc;rw [List.mem_replicate] at this;rw [this.2];rfl)
   refine ⟨.c (.sl h.length a.off len0 sh.length),_,[A4 ⟨E5R a.off .dark++cells,A6⟩],len0,cells,Mu.le_set hm',⟨g1,g2⟩,.inl ⟨a.block,C.size,m,by simp [Mu.set],hl,E38,by rw [<-ha]⟩,.inr ⟨h.length,a.off,_,rfl,U5,hcl,?_,?_,(B4z k2).2⟩,k2,by omega⟩
   ·simp [hcl]
   ·rw [List.drop_left' (by simp),E53 (by omega)]
end
def E2W (k:IntKind) (n:Int):Prop:=k.min<=n/\n<=k.max
def D7i {n:Int}:E2W .u8 n↔0<=n/\n<=255:=Iff.rfl
def D37:∀ {n:Nat} {cells:List Cell},All2 okCell (E5R n (.i .u8)) cells->∃ l:List UInt8,cells=B4 l/\l.length=n
 | 0,[],_=>⟨[],rfl,rfl⟩
 | n+1,c::cs,h=>by
  rw [E6k] at h;obtain ⟨l,rfl,hl⟩:=D37 h.2;have h1:=h.1;cases c with
  | i k m =>
   obtain ⟨rfl,h2⟩:=h1;have h3:=D7i.1 h2;refine ⟨UInt8.ofNat m.toNat::l,?_,by simp [hl]⟩;simp only [B4,E6X,List.cons.injEq,Cell.i.injEq,true_and,and_true];rw [UInt8.toNat_ofNat'];omega
  | _=>exact h1.elim
 | 0,_::_,h=>h.elim
 | n+1,[],h=>by rw [E6k] at h;exact h.elim
section
variable {H:Type} {enc:TypeId × Value->H} {P:Program} {W:World} {base:Nat} {spare:Nat->Bool} {held:Bool} {t:TypeId} {r:Reach} {b0 n:Nat} {v:Value} {d:DataW H} {ps:List MemPlace}
def E2l {e:TypeId} {sh:List Sh} {μ:Mu} {h:B5} (ho:Opened W μ h) (C69:Value.okWide P W r b0 t v) (hd:DataW.Trod enc P W base (λ_=>A5) held t v d ps) (ht:P.underlying t=A4 (.slice e)) (hs:B2x P n e=A4 sh) (oL:sh.length=P.cellsOf e) (B6f:0<sh.length) :
  ∃ v' μ' l len cells,μ.le μ'/\Opened W μ' (h++l)/\RV μ' v' v/\Has (h++l) v' sh.length len cells/\All2 okCell (E5R len sh).flatten cells/\len<=maxLen :=
 C7I ho ht hs oL B6f C69 hd
end
end Go.Esc
section
namespace Go.Esc
open Go
def Has.tr {h:B5} {id sz n:Nat} {cs:List Cell} (hr:rd h id=A4 ⟨cs,A5⟩) (hl:cs.length=n*sz) (hx:noX cs=A5):Has h (.c (.sl id 0 n sz)) sz n cs:=Has.row hr hl hx
def Has.since {g h:B5} {v:Val} {sz n:Nat} {cs:List Cell} (hv:Has g v sz n cs) (h1:Low g.length g h):Has h v sz n cs:=by
 rcases hv with hv | ⟨id,off,r,rfl,hr,h2⟩
 ·exact .inl hv
 ·exact .inr ⟨id,off,r,rfl,by rw [h1.2.2 id (C8 hr)];exact hr,h2⟩
def Low.rd {g h:B5} (h1:Low g.length g h) {id:Nat} {r:Row} (hr:rd g id=A4 r):rd h id=A4 r:=by
 rw [h1.2.2 id (C8 hr)];exact hr
def push {g h:B5} {id n sz:Nat} {cs ys:List Cell} (hlow:Low g.length g h) (hr:rd h id=A4 ⟨cs,A5⟩) (hl:cs.length=n*sz) (hb:g.length<=id) (hy:ys.length=sz) (hsz:0<sz) (hn:n+1<=1073741824) :
  ∃ h',kV (h++[A4 ⟨ys,A5⟩]) sz (.c (.sl id 0 n sz)) (.c (.sl h.length 0 1 sz))=A4 (.c (.sl (h.length+1) 0 (n+1) sz),h')/\rd h' (h.length+1)=A4 ⟨cs++ys,A5⟩/\Low g.length g h'/\g.length<=h.length+1/\(cs++ys).length=(n+1)*sz:=by
 have V7:=C8 hr;have h1:rd (h++[A4 ⟨ys,A5⟩]) id=A4 ⟨cs,A5⟩:=C5 hr;have h2:Q6 (h++[A4 ⟨ys,A5⟩]) sz (.c (.sl h.length 0 1 sz))=A4 ys:=by
  have:=(Has.row (h:=h++[A4 ⟨ys,A5⟩]) (id:=h.length) (sz:=sz) (n:=1) (cs:=ys) (rw:=A5) (by simp) (by omega));simp [Q6,iW,hy,E53 (Nat.le_of_eq hy)]
 refine ⟨(h++[A4 (Row.mk ys A5)]).set id A7++[A4 (Row.mk (cs++ys) A5)],?_,?_,((hlow.new _).set hb A7).new _,by have:=hlow.2.1;omega,by simp [hl,hy,E6W]⟩
 ·simp only [kV,h2,h1,E54,hy,Nat.div_self hsz];rw [if_pos ⟨trivial,trivial,hl.symm,trivial,hn⟩];simp
 ·have:=U5 (h:=(h++[A4 (Row.mk ys A5)]).set id A7) (r:=Row.mk (cs++ys) A5);rw [E6o] at this;simpa using this
def ldN (r:Option Row) (off n:Nat):Option Val:=r.bind λr=>if off+n<=r.cells.length/\(r.rw||noX ((r.cells.drop off).take n))=A5 then A4 (.a ((r.cells.drop off).take n)) else A7
def ld1 (r:Option Row) (off:Nat):Option Val:=r.bind λr=>(r.cells[off]?).bind λc=>bif r.rw || !c.isX then A4 (.c c) else A7
def stN (r:Option Row) (off n:Nat) (xs:List Cell):Option Row:=r.bind λr=>if r.rw=A5/\xs.length=n/\off+n<=r.cells.length then A4 ⟨lay r.cells off xs,A5⟩ else A7
def st1 (r:Option Row) (off:Nat) (x:Cell):Option Row:=r.bind λr=>if r.rw=A5/\off<r.cells.length then A4 ⟨r.cells.set off x,A5⟩ else A7
def slr (r:Option Row) (id off n sz:Nat):Option Val:=r.bind λr=>if off+n*sz<=r.cells.length/\(r.rw=A5\/Option.any (λc=>!c.isX) r.cells[off]?=A5) then A4 (.c (.sl id off n sz)) else A7
section
variable {h:B5} {l:List (Option Row)} {k off n sz:Nat} {cs xs:List Cell} {x:Cell} {kd:IntKind}
def bQ:D4 (h++l) n (.c (.p (h.length+k) off))=ldN (l[k]?).join off n:=by simp [D4,ldN]
def R4:D4 (h++l) n (.c (.p h.length off))=ldN (l[0]?).join off n:=by simp [D4,ldN]
def fN:B8 (h++l) (.c (.p (h.length+k) off))=ld1 (l[k]?).join off:=by simp [B8,ld1]
def U4:B8 (h++l) (.c (.p h.length off))=ld1 (l[0]?).join off:=by simp [B8,ld1]
def W2:E5 (h++l) n (.c (.p (h.length+k) off)) (.a xs)=mp (stN (l[k]?).join off n xs) λr=>h++l.set k (A4 r):=by
 simp only [E5,stN,K9];cases (l[k]?).join with
 | none=>rfl
 | some r=>simp only [E54];split<;>simp [mp]
def M6:E5 (h++l) n (.c (.p h.length off)) (.a xs)=mp (stN (l[0]?).join off n xs) λr=>h++l.set 0 (A4 r):=W2 (k:=0)
def xD:I5 (h++l) (.c (.p (h.length+k) off)) (.c x)=mp (st1 (l[k]?).join off x) λr=>h++l.set k (A4 r):=by
 simp only [I5,st1,K9];cases (l[k]?).join with
 | none=>rfl
 | some r=>simp only [E54];split<;>simp [mp]
def B1d:I5 (h++l) (.c (.p h.length off)) (.c x)=mp (st1 (l[0]?).join off x) λr=>h++l.set 0 (A4 r):=xD (k:=0)
def D55:B5X (h++l) n sz (.c (.p (h.length+k) off)) A7 A7=slr (l[k]?).join (h.length+k) off n sz:=by
 simp [B5X,slr,bound]
def D8r:B5X (h++l) n sz (.c (.p h.length off)) A7 A7=slr (l[0]?).join h.length off n sz:=D55 (k:=0)
def kU (hl:cs.length=n):ldN (A4 ⟨cs,A5⟩) 0 n=A4 (.a cs):=by
 subst hl;simp [ldN]
def A39:ld1 (A4 ⟨cs,A5⟩) off=(cs[off]?).map .c:=by
 simp only [ld1,E54,Bool.true_or,cond_true];cases cs[off]?<;>rfl
def oU (hl:cs.length=n) (hx:xs.length=n):stN (A4 ⟨cs,A5⟩) 0 n xs=A4 ⟨xs,A5⟩:=by
 simp only [stN,E54];rw [if_pos ⟨trivial,hx,by omega⟩,lay_all (by omega)]
def C4n (ho:off<cs.length):st1 (A4 ⟨cs,A5⟩) off x=A4 ⟨cs.set off x,A5⟩:=by
 simp only [st1,E54];rw [if_pos ⟨trivial,ho⟩]
def E1J (hl:cs.length=n) {id:Nat}:slr (A4 ⟨cs,A5⟩) id 0 n 1=A4 (.c (.sl id 0 n 1)):=by
 simp only [slr,E54];rw [if_pos ⟨by show 0+n*1<=cs.length;omega,.inl trivial⟩]
end
section
variable {k:IntKind} {a b:Int}
def B7Q {k':IntKind} (hb:0<=b):N4 .shl (.c (.i k a)) (.c (.i k' b))=A4 (.c (.i k (k.wrap (a*2 ^ (Nat.min b.toNat k.bits))))):=by
 simp only [N4,E2X];rw [if_neg (by omega)];rfl
def C6a {k':IntKind} (hb:0<=b):N4 .shr (.c (.i k a)) (.c (.i k' b))=A4 (.c (.i k (a/(2 ^ (Nat.min b.toNat k.bits))))):=by
 simp only [N4,E2Y];rw [if_neg (by omega),Int.fdiv_eq_ediv_of_nonneg _ (Int.pow_nonneg (by omega))];rfl
end
def E3c {a b:Nat} (ha:a<18446744073709551616) (hb:b<18446744073709551616):N4 .or (.c (.i .u64 a)) (.c (.i .u64 b))=A4 (.c (.i .u64 ((a ||| b:Nat):Int))):=by
 rw [D1z]
 congr 3
 have h1:(IntKind.u64).bits=64:=rfl;have h2:(a ||| b)<2 ^ 64:=Nat.or_lt_two_pow (by simpa using ha) (by simpa using hb);rw [h1];simp only [BitVec.ofInt_natCast,BitVec.toNat_or,BitVec.toNat_ofNat];rw [E6K (by simpa using ha),E6K (by simpa using hb)];exact wrap_u64 (by omega) (by omega)
def E3b {a b:Nat} (ha:a<9223372036854775808) (hb:b<9223372036854775808):N4 .or (.c (.i .i64 a)) (.c (.i .i64 b))=A4 (.c (.i .i64 ((a ||| b:Nat):Int))):=by
 rw [D1z]
 congr 3
 have h1:(IntKind.i64).bits=64:=rfl;have h2:(a ||| b)<2 ^ 63:=Nat.or_lt_two_pow (by simpa using ha) (by simpa using hb);rw [h1];simp only [BitVec.ofInt_natCast,BitVec.toNat_or,BitVec.toNat_ofNat];rw [E6K (by omega),E6K (by omega)];exact wrap_i64 (by omega) (by omega)
def E1T {a b:Nat} (ha:a<4294967296) (hb:b<4294967296):N4 .xor (.c (.i .u32 a)) (.c (.i .u32 b))=A4 (.c (.i .u32 ((a ^^^ b:Nat):Int))):=by
 rw [D2U]
 congr 3
 have h1:(IntKind.u32).bits=32:=rfl;have h2:(a ^^^ b)<2 ^ 32:=Nat.xor_lt_two_pow (by simpa using ha) (by simpa using hb);rw [h1];simp only [BitVec.ofInt_natCast,BitVec.toNat_xor,BitVec.toNat_ofNat];rw [E6K (by omega),E6K (by omega)];exact wrap_u32 (by omega) (by omega)
def E0z {a b:Nat} (ha:a<4294967296) (hb:b<4294967296):N4 .and (.c (.i .u32 a)) (.c (.i .u32 b))=A4 (.c (.i .u32 ((a &&& b:Nat):Int))):=by
 rw [D2Q]
 congr 3
 have h1:(IntKind.u32).bits=32:=rfl;have h2:(a &&& b)<=a:=Nat.and_le_left;rw [h1];simp only [BitVec.ofInt_natCast,BitVec.toNat_and,BitVec.toNat_ofNat];rw [E6K (by omega),E6K (by omega)];exact wrap_u32 (by omega) (by omega)
def sE {a:Int}:E5U .u8 a=a%256:=by
 simp only [E5U,IntKind.bits,IntKind.signed,E51];rfl
def E3a {a b i:Nat} (ha:a<2 ^ i):(a ||| b*2 ^ i)=a+b*2 ^ i:=by
 rw [Nat.mul_comm b,Nat.or_comm,<-Nat.two_pow_add_eq_or_of_lt ha];omega
def A2O {a b:Nat} (h:a+b<9223372036854775808):E5U .i64 ((a:Int)+b)=((a+b:Nat):Int):=by rw [wrap_i64 (by omega) (by omega)];omega
def D3 {a:Nat} (h:a+1<9223372036854775808):E5U .i64 ((a:Int)+1)=((a+1:Nat):Int):=by rw [wrap_i64 (by omega) (by omega)];omega
def D4t {k:IntKind} {x:UInt8} {i:Nat} (hi:i<8) (hk:E5U k ((x.toNat*256 ^ i:Nat):Int)=((x.toNat*256 ^ i:Nat):Int)) (hb:k.bits=64) :
  N4 .shl (.c (.i k x.toNat)) (.c (.i .u64 (8*(i:Int))))=A4 (.c (.i k ((x.toNat*256 ^ i:Nat):Int))):=by
 rw [B7Q (by omega),hb];have:Nat.min (8*(i:Int)).toNat 64=8*i:=by
  have:(8*(i:Int)).toNat=8*i:=by omega
  rw [this];exact E6R (by omega)
 rw [this];have hp:(256:Nat) ^ i=2 ^ (8*i):=by rw [Nat.pow_mul]
 have e:(x.toNat:Int)*2 ^ (8*i)=((x.toNat*256 ^ i:Nat):Int):=by rw [hp];simp
 rw [e,hk]
def xX {i n:Nat} (h:i<=n):256 ^ i<=256 ^ n:=Nat.pow_le_pow_right (by omega) h
def C17 {x:UInt8} {i n:Nat} (h:i<n):x.toNat*256 ^ i<256 ^ n:=by
 have h1:=x.toNat_lt;have h2:x.toNat*256 ^ i<=255*256 ^ i:=Nat.mul_le_mul_right _ (by omega);have h3:256 ^ (i+1)<=256 ^ n:=xX h;have h4:0<256 ^ i:=Nat.pow_pos (by omega);rw [Nat.pow_succ] at h3;omega
def byI (v:Int) (i:Nat):UInt8:=UInt8.ofNat ((v/256 ^ i)%256).toNat
def A1h (v:Int) (i:Nat):((byI v i).toNat:Int)=v/256 ^ i%256:=by
 have h1:0<=v/256 ^ i%256:=Int.emod_nonneg _ (by omega);have h2:v/256 ^ i%256<256:=Int.emod_lt_of_pos _ (by omega);unfold byI;rw [UInt8.toNat_ofNat'];omega
def C4 (w:Nat) (v:Int):List UInt8:=(E6p w).map (byI v)
@[simp] theorem Q8 {w:Nat} {v:Int}:(C4 w v).length=w:=by simp [C4]
def A3Q {w:Nat} {v:Int}:C4 (w+1) v=C4 w v++[byI v w]:=by simp [C4,List.range_succ]
def le:List UInt8->Nat
 | []=>0
 | x::r=>x.toNat+256*le r
def C2D:∀ l:List UInt8,le l<256 ^ l.length
 | []=>by simp [le]
 | x::r=>by
  have h1:=C2D r;have h2:=x.toNat_lt;simp only [le,E52,Nat.pow_succ];omega
def D7q (l m:List UInt8):le (l++m)=le l+256 ^ l.length*le m:=by
 induction l with
 | nil=>simp [le]
 | cons x r ih =>
  simp only [E6q,le,ih,E52,Nat.pow_succ,Nat.mul_add];rw [Nat.mul_comm (256 ^ r.length) 256,Nat.mul_assoc];omega
def D6p (l:List UInt8) (x:UInt8):le (l++[x])=le l+x.toNat*256 ^ l.length:=by
 rw [D7q];simp [le,Nat.mul_comm]
def D6v {l:List UInt8} {x:UInt8}:(le l ||| x.toNat*256 ^ l.length)=le (l++[x]):=by
 have hp:(256:Nat) ^ l.length=2 ^ (8*l.length):=by rw [Nat.pow_mul]
 rw [D6p,hp,E3a (by rw [<-hp];exact C2D l)]
def D0g {v:Int} {i:Nat} (hi:i<8):E5U .u8 (v/2 ^ (Nat.min (8*(i:Int)).toNat 64))=((byI v i).toNat:Int):=by
 have:Nat.min (8*(i:Int)).toNat 64=8*i:=by
  have:(8*(i:Int)).toNat=8*i:=by omega
  rw [this];exact E6R (by omega)
 rw [this,sE,A1h]
 congr 2
 rw [Int.pow_mul];rfl
def A5y {α:Type} {l:List α} {a i:Nat} (h:a+i<l.length):(l.drop a).take (i+1)=(l.drop a).take i++[l[a+i]]:=by
 have h2:i<(l.drop a).length:=by simp;omega
 rw [E58 h2];simp
def D0F (w:Nat) (v:Int):(le (C4 w v):Int)=v%256 ^ w:=by
 induction w with
 | zero=>simp [C4,le,Int.emod_one]
 | succ w ih =>
  rw [A3Q,D6p];simp only [Q8,Int.natCast_add,Int.natCast_mul,A1h,ih];have h1:(((256:Nat) ^ w:Nat):Int)=(256:Int) ^ w:=by simp
  rw [h1];have hp:(0:Int)<256 ^ w:=Int.pow_pos (by omega);have h2:=Int.mul_ediv_add_emod v (256 ^ w);have h3:=Int.mul_ediv_add_emod (v/256 ^ w) 256;have h4:v%256 ^ w+v/256 ^ w%256*256 ^ w=v-(256 ^ (w+1))*(v/256 ^ w/256):=by
   rw [Int.pow_succ,Int.mul_assoc];have e:256 ^ w*(256*(v/256 ^ w/256))+v/256 ^ w%256*256 ^ w=256 ^ w*(v/256 ^ w):=by
    rw [Int.mul_comm (v/256 ^ w%256),<-Int.mul_add,h3]
   omega
  have h5:v/256 ^ w/256=v/256 ^ (w+1):=by rw [Int.ediv_ediv_of_nonneg (Int.le_of_lt hp),Int.pow_succ]
  rw [h4,h5];have:=Int.mul_ediv_add_emod v (256 ^ (w+1));omega
def J7 (l:List UInt8) (a:Nat) (xs:List UInt8):List UInt8:=l.take a++(xs++l.drop (a+xs.length))
def P9 {l xs:List UInt8} {a:Nat} (h:a+xs.length<=l.length):(J7 l a xs).length=l.length:=by
 simp [J7];omega
def B8A {l:List UInt8} {a:Nat}:J7 l a []=l:=by simp [J7]
def B21 {l xs:List UInt8} {a:Nat} {x:UInt8} (h:a+xs.length<l.length):(J7 l a xs).set (a+xs.length) x=J7 l a (xs++[x]):=by
 unfold J7;have h1:(l.take a).length=a:=by simp;omega
 rw [E6u _ _ (by rw [h1];omega),h1,Nat.add_sub_cancel_left,E6u _ _ (E5V _),E6D,E5Y]
 congr 2
 rw [E5X (by omega)];simp [Nat.add_assoc]
def D9m {l xs:List UInt8} {a j:Nat} (h:a+xs.length<=l.length):(J7 l a xs)[j]?=if a<=j/\j<a+xs.length then xs[j-a]? else l[j]? := by
 unfold J7;have h1:(l.take a).length=a:=by simp;omega
 by_cases h2:j<a
 ·rw [E6t (by omega),if_neg (by omega),E6s h2]
 ·rw [E57 (by omega),h1];by_cases h3:j<a+xs.length
  ·rw [if_pos ⟨by omega,h3⟩,E6t (by omega)]
  ·rw [if_neg (by omega),E57 (by omega),E6J]
   congr 1;omega
def D9l {l xs:List UInt8} {a:Nat} (h:a+xs.length<=l.length):((J7 l a xs).drop a).take xs.length=xs:=by
 unfold J7;have h1:(l.take a).length=a:=by simp;omega
 rw [List.drop_left' h1,List.take_left' rfl]
def kR {s:List UInt8} {i:Nat} (hi:i<s.length) {k:IntKind}:C6g (.c (.s s)) (.c (.i k i))=A4 (.c (.i .u8 s[i].toNat)):=by
 rw [E0v,E5P hi];rfl
def D6d (l:List UInt8):(B4 l).map Cell.sh=(E5R l.length (Sh.i .u8)).map A4:=by
 induction l with
 | nil=>rfl
 | cons x l ih=>simp only [B4,E6X,E52,E6k] at ih ⊢;rw [ih];rfl
def C4h (l:List Int):(encI l).map Cell.sh=(E5R l.length (Sh.i .i64)).map A4:=by
 induction l with
 | nil=>rfl
 | cons x l ih=>simp only [encI,E6X,E52,E6k] at ih ⊢;rw [ih];rfl
def D2W {l m:List UInt8} {n:Nat} (hl:l.length=n) (hm:m.length=n):aeq A5 (E5R n (.i .u8)) (.a (B4 l)) (.a (B4 m))=A4 (.c (.b (!decide (l=m)))):=by
 simp only [aeq];rw [if_pos ⟨by rw [D6d,hl],by rw [D6d,hm]⟩];simp [D8Y]
def D8i {l m:List Int} {n:Nat} (hl:l.length=n) (hm:m.length=n):aeq A5 (E5R n (.i .i64)) (.a (encI l)) (.a (encI m))=A4 (.c (.b (!decide (l=m)))):=by
 simp only [aeq];rw [if_pos ⟨by rw [C4h,hl],by rw [C4h,hm]⟩];simp [D3A]
def C6d {l m:List Int} {n:Nat} (hl:l.length=n) (hm:m.length=n):aeq A6 (E5R n (.i .i64)) (.a (encI l)) (.a (encI m))=A4 (.c (.b (decide (l=m)))):=by
 simp only [aeq];rw [if_pos ⟨by rw [C4h,hl],by rw [C4h,hm]⟩];simp [D3A]
def E3r {h:B5} {l:List (Option Row)} {k n a b:Nat} {cs:List Cell} (hk:(l[k]?).join=A4 ⟨cs,A5⟩) (hl:cs.length=n) (hab:a<=b) (hb:b<=n) :
  B5X (h++l) n 1 (.c (.p (h.length+k) 0)) (A4 (.c (.i .i64 (a:Int)))) (A4 (.c (.i .i64 (b:Int))))=A4 (.c (.sl (h.length+k) a (b-a) 1)):=by
 simp only [B5X,K9,hk,E54,bound];rw [if_pos (by omega),if_pos (by omega)];simp only [E54,E6c];rw [if_pos ⟨hab,hb,by omega,rfl⟩];simp
def Has.part {h:B5} {id sz off n:Nat} {cs xs:List Cell} {rw:Bool} (hr:rd h id=A4 ⟨cs,rw⟩) (ho:off+n*sz<=cs.length) (he:(cs.drop off).take (n*sz)=xs) (hx:noX xs=A5):Has h (.c (.sl id off n sz)) sz n xs :=
 .inr ⟨id,off,_,rfl,hr,by rw [<-he];simp;omega,ho,he,hx⟩
def E3t {id off n sz a b:Nat} (hab:a<=b) (hb:b<=n):D29 sz (.c (.sl id off n sz)) (A4 (.c (.i .i64 (a:Int)))) (A4 (.c (.i .i64 (b:Int))))=A4 (.c (.sl id (off+a*sz) (b-a) sz)):=by
 simp only [D29,bound];rw [if_pos (by omega),if_pos (by omega)];simp only [E54,E6c];rw [if_pos ⟨hab,hb,trivial⟩]
def B8G:Option Row->Bool
 | some r=>r.own
 | none=>A5
def C7w {cs:List Cell}:B8G (A4 ⟨cs,A5⟩)=A5:=rfl
def D7B {es:Y0}:B8G (A4 (T8 es))=A5:=Row.own_mrow es
def D0T {g l l':B5} {v:Val} (hp:l <+: l') (hn:(l'.drop l.length).all B8G=A5):quiet (g++l) (A4 (v,g++l'))=A4 (v,g++l'):=by
 obtain ⟨t,rfl⟩:=hp;rw [List.drop_left] at hn;refine U9 ⟨⟨t,by rw [E5Y]⟩,λid x hid hx=>?_⟩;have hx:=rd_some.1 hx;rw [<-E5Y,E57 hid] at hx;exact List.all_eq_true.1 hn _ (E6j hx)
def B1a {id o off:Nat}:tY (.c (.p id o)) off=A4 (.c (.p id (o+off))):=Eq.trans rfl rfl
def A2G {a b:Int} {k:IntKind} (ha:0<=a) (hb:0<b):N4 .rem (.c (.i k a)) (.c (.i k b))=A4 (.c (.i k (a%b))):=by
 rw [D2T (by omega),Int.tmod_eq_emod_of_nonneg ha]
def uQ {a b:Int} (ha:0<=a) (ha2:a<9223372036854775808) (hb:0<b):N4 .quo (.c (.i .i64 a)) (.c (.i .i64 b))=A4 (.c (.i .i64 (a/b))):=by
 have h1:0<=a/b:=Int.ediv_nonneg ha (by omega);have h2:a/b<=a:=Int.ediv_le_self _ ha;rw [D2S (by omega),Int.tdiv_eq_ediv_of_nonneg ha,wrap_i64 (by omega) (by omega)]
def mE {h:B5} {id jd n m sz:Nat} {cs ys:List Cell} {rw:Bool} (hr:rd h id=A4 ⟨cs,A5⟩) (hl:cs.length=n*sz) (hy:rd h jd=A4 ⟨ys,rw⟩) (hyl:ys.length=m*sz) (hx:(rw||noX ys)=A5) (hsz:0<sz) (hn:n+m<=1073741824) :
  kV h sz (.c (.sl id 0 n sz)) (.c (.sl jd 0 m sz))=A4 (.c (.sl h.length 0 (n+m) sz),h.set id A7++[A4 ⟨cs++ys,A5⟩]):=by
 have h2:Q6 h sz (.c (.sl jd 0 m sz))=A4 ys:=by
  simp only [Q6,if_true,iW,hy,E54,E6a,E6e];rw [<-hyl,List.take_length,if_pos ⟨E5V _,hx⟩]
 have hd:ys.length/sz=m:=by rw [hyl];exact Nat.mul_div_cancel m hsz
 simp only [kV,h2,hr,E54,hd];rw [if_pos ⟨trivial,trivial,hl.symm,trivial,hn⟩]
def D6y {g h:B5} {id n m sz:Nat} {cs ys:List Cell} (hlow:Low g.length g h) (hr:rd h id=A4 ⟨cs,A5⟩) (hl:cs.length=n*sz) (hb:g.length<=id) (hy:ys.length=m*sz) (hsz:0<sz) (hn:n+m<=1073741824) :
  ∃ h',kV (h++[A4 ⟨ys,A5⟩]) sz (.c (.sl id 0 n sz)) (.c (.sl h.length 0 m sz))=A4 (.c (.sl (h.length+1) 0 (n+m) sz),h')/\rd h' (h.length+1)=A4 ⟨cs++ys,A5⟩/\Low g.length g h'/\g.length<=h.length+1/\(cs++ys).length=(n+m)*sz:=by
 have V7:=C8 hr;refine ⟨(h++[A4 (Row.mk ys A5)]).set id A7++[A4 (Row.mk (cs++ys) A5)],?_,?_,((hlow.new _).set hb A7).new _,by have:=hlow.2.1;omega,by simp [hl,hy,E6W]⟩
 ·rw [mE (h:=h++[A4 ⟨ys,A5⟩]) (C5 hr) hl U5 hy rfl hsz hn];simp
 ·have:=U5 (h:=(h++[A4 (Row.mk ys A5)]).set id A7) (r:=Row.mk (cs++ys) A5);rw [E6o] at this;simpa using this
def E4h {g h:B5} {id n m:Nat} {cs:List Cell} (hlow:Low g.length g h) (hr:rd h id=A4 ⟨cs,A5⟩) (hl:cs.length=n) (hb:g.length<=id) (hn:n+m<=1073741824) :
  ∃ h',B7O h 1 [.i .u8 0] (.c (.sl id 0 n 1)) (.c (.i .i64 (m:Int)))=A4 (.c (.sl h.length 0 (n+m) 1),h')/\rd h' h.length=A4 ⟨cs++B4 (zeros m),A5⟩/\Low g.length g h'/\g.length<=h.length:=by
 have V7:=C8 hr;have hm:A6B (.c (.i .i64 (m:Int)))=A4 m:=by simp only [A6B];rw [if_pos (by omega)];simp
 have hz:rows [Cell.i .u8 0] m=B4 (zeros m):=by
  unfold rows zeros
  clear hm hn
  induction m with
  | zero=>rfl
  | succ n ih=>rw [E6k,List.flatten_cons,ih,E6k];rfl
 refine ⟨h.set id A7++[A4 (Row.mk (cs++B4 (zeros m)) A5)],?_,?_,(hlow.set hb A7).new _,by have:=hlow.2.1;omega⟩
 ·simp only [B7O,hm,E54,hr,hz];rw [if_pos ⟨trivial,trivial,by omega,trivial,hn⟩]
 ·have:=U5 (h:=h.set id A7) (r:=Row.mk (cs++B4 (zeros m)) A5);rw [E6o] at this;exact this
end Go.Esc
end
namespace Go.Esc
def esc:=And.intro @B1a (And.intro @List.append_nil.{0} (And.intro @if_true.{1} (And.intro @if_false.{1} (And.intro @M9 (And.intro @E09 (And.intro @C2i (And.intro @B73 (And.intro @E3K (And.intro @E3M (And.intro @E3L (And.intro @E3J (And.intro @E1Z (And.intro @E0w (And.intro @B7S (And.intro @E0x (And.intro @zR (And.intro @D8g (And.intro @D8f (And.intro @tW (And.intro @D2R (And.intro @tX (And.intro @B7P (And.intro @D8e (And.intro @C59 (And.intro @C0A (And.intro @D6T (And.intro @D6S (And.intro @D57 (And.intro @E0H (And.intro @B7R (And.intro @E0t (And.intro @E2h (And.intro @E0u (And.intro @E2i (And.intro @E0A (And.intro @E2g (And.intro @E2f (And.intro @E0r (And.intro @D54 (And.intro @cond_true.{1} (And.intro @cond_false.{1} (And.intro @decide_true (And.intro @decide_false (And.intro @Bool.not_true (And.intro @Bool.not_false (And.intro @D8j (And.intro @D36 (And.intro @D35 (And.intro @E1d (And.intro @D6x (And.intro @D3j (And.intro @B1j (And.intro @E3y (And.intro @E3z (And.intro @Option.map_some.{0,0} (And.intro @Option.some.injEq.{0} (And.intro @List.getElem?_cons_zero.{0} (And.intro @List.getElem?_cons_succ.{0} (And.intro @not_true_eq_false (And.intro @not_false_eq_true (And.intro @B6q (And.intro @Q8 (And.intro @Option.join_some.{0} (And.intro @List.append_assoc.{0} (And.intro @List.cons_append.{0} (And.intro @List.nil_append.{0} (And.intro @List.length_append.{0} (And.intro @List.length_cons.{0} (And.intro @List.length_nil.{0} (And.intro @Nat.zero_add (And.intro @Nat.add_zero (And.intro @K9 (And.intro @E9 (And.intro @nF (And.intro @S3 (And.intro @List.set_cons_zero.{0} (And.intro @List.set_cons_succ.{0} (And.intro @ne_eq.{1} (And.intro @decide_not (And.intro @D0T (And.intro @C7w (And.intro @List.cons_prefix_cons.{0} (And.intro @List.nil_prefix.{0} (And.intro @List.drop_succ_cons.{0} (And.intro @List.drop_zero.{0} (And.intro @List.all_cons.{0} (And.intro @List.all_nil.{0} (And.intro @Bool.and_true (And.intro @true_and (@and_true))))))))))))))))))))))))))))))))))))))))))))))))))))))))))))))))))))))))))))))))))))))))))
def esh:=And.intro @bQ (And.intro @R4 (And.intro @fN (And.intro @U4 (And.intro @W2 (And.intro @M6 (And.intro @xD (And.intro @B1d (And.intro @D55 (And.intro @D8r (And.intro @kU (And.intro @A39 (And.intro @oU (And.intro @C4n (@E1J))))))))))))))
end Go.Esc
namespace Go.Esc
@[match_pattern] abbrev iV (x:Int):Val:=.c (.i .i64 x)
@[match_pattern] abbrev pV (a b:Nat):Val:=.c (.p a b)
@[match_pattern] abbrev sV (a b c d:Nat):Val:=.c (.sl a b c d)
@[match_pattern] abbrev bV (x:Bool):Val:=.c (.b x)
@[match_pattern] abbrev rT (l:List Cell):Option Row:=some (Row.mk l true)
@[match_pattern] abbrev o0:Cell:=.i .i64 0
abbrev gS (g:Val) (w:Bool) (h:B5) (o:Option Val):Option (Val × B5):=gd g w (bnd o λa=>A4 (a,h)) (A4 (.no,h))
abbrev gV (g:Val) (w:Bool) (h:B5) (x:Val):Option (Val × B5):=gd g w (A4 (x,h)) (A4 (.no,h))
end Go.Esc
section
namespace Go.Proofs.YtbnkgnfhgbhblaaGreat
open Go Go.Esc
abbrev Dev:=List (List UInt8)
def D5 (D:Dev):List Cell:=(D.map B4).flatten
def okD (D:Dev):Prop:=∀ b∈D,b.length=256
def okD.cons {b:List UInt8} {D:Dev} (h:okD (b::D)):b.length=256/\okD D:=⟨h b (E6g ..),λx hx=>h x (E6f _ hx)⟩
def okD.at {D:Dev} (h:okD D) {i:Nat} (hi:i<D.length):D[i].length=256:=h _ (E6v hi)
def okD.take {D:Dev} (h:okD D) (i:Nat):okD (D.take i):=λb hb=>h b (List.mem_of_mem_take hb)
def bL {b:List UInt8} {D:Dev}:D5 (b::D)=B4 b++D5 D:=rfl
def C81 {D E:Dev}:D5 (D++E)=D5 D++D5 E:=by simp [D5]
def D4V {b:List UInt8}:D5 [b]=B4 b:=by simp [D5]
def J4:∀ {D:Dev},okD D->(D5 D).length=D.length*256
 | [],_=>rfl
 | b::D,h=>by
  rw [bL,E5T,A9,h.cons.1,J4 h.cons.2,E52];omega
def eZ:∀ (D:Dev),noX (D5 D)=A5
 | []=>rfl
 | b::D=>by
  rw [bL];have h1:=G9 b;have h2:=eZ D;simp only [noX,List.all_append,E5S] at h1 h2 ⊢;exact ⟨h1,h2⟩
def iR:∀ {D:Dev},O5 (D5 D)=A5
 | []=>rfl
 | b::D=>by rw [bL,uI,iR,C6X];rfl
def dD:∀ {D:Dev} {i:Nat} (h:okD D) (hi:i<D.length),((D5 D).drop (i*256)).take 256=B4 D[i]
 | b::D,0,h,hi=>by
  have hb:(B4 b).length=256:=by rw [A9,h.cons.1]
  rw [bL,Nat.zero_mul,E6a,<-hb,List.take_left']
  ·rfl
  ·rfl
 | b::D,i+1,h,hi=>by
  have hb:(B4 b).length=256:=by rw [A9,h.cons.1]
  have e:(i+1)*256=256+i*256:=by omega
  rw [bL,e,<-E6P,<-hb,List.drop_left',hb]
  ·exact dD h.cons.2 (by simpa using hi)
  ·rfl
def D6o:∀ {D:Dev} {i:Nat} {b:List UInt8} (h:okD D) (hb:b.length=256) (hi:i<D.length),lay (D5 D) (i*256) (B4 b)=D5 (D.set i b)
 | c::D,0,b,h,hb,hi=>by
  unfold lay;rw [bL,E6G,bL,Nat.zero_mul,A9,hb,E6e,E6U,List.drop_left' (by rw [A9,h.cons.1])];rfl
 | c::D,i+1,b,h,hb,hi=>by
  have ih:=D6o (i:=i) h.cons.2 hb (by simpa using hi);have hc:(B4 c).length=256:=by rw [A9,h.cons.1]
  unfold lay at ih ⊢;rw [bL,E6H,bL,show (i+1)*256=256+i*256 by omega,List.take_append,List.drop_append,E53 (by omega),E56 (by omega),hc,show 256+i*256-256=i*256 by omega,show 256+i*256+(B4 b).length-256=i*256+(B4 b).length by omega,<-ih];simp only [E5Y,E59]
def D4o (n:Nat):rows (E5R 256 (Cell.i .u8 0)) n=D5 (E5R n (zeros 256)):=by
 rw [I9];unfold rows D5;rw [List.map_replicate]
def C04 (n:Nat):okD (E5R n (zeros 256)):=λb hb=>by rw [List.eq_of_mem_replicate hb];exact zeros_length
def okD.set {D:Dev} (h:okD D) {i:Nat} {b:List UInt8} (hb:b.length=256):okD (D.set i b):=λx hx=>by
 rcases E6A hx with hx | rfl
 ·exact h x hx
 ·exact hb
def A6K {h:B5} {id i:Nat} {D:Dev} {b:List UInt8} (hr:rd h id=rT (D5 D)) (hD:okD D) (hb:b.length=256) (hi:i<D.length) :
  E5 h 256 (pV id (i*256)) (.a (B4 b))=A4 (h.set id (rT (D5 (D.set i b)))):=by
 rw [B3b hr (by rw [A9,hb]) (by rw [J4 hD];omega),D6o hD hb hi]
def blk (D:Dev) (i:Int):List UInt8:=if 0<=i then D.getD i.toNat (zeros 256) else zeros 256
def O9 {D:Dev} (h:okD D) {i:Int}:(blk D i).length=256:=by
 unfold blk;split
 ·rw [E5Z];rcases Nat.lt_or_ge i.toNat D.length with hl | hl
  ·rw [E5P hl];exact h.at hl
  ·rw [E6x hl];exact zeros_length
 ·exact zeros_length
def B5Z {D:Dev} {i:Nat} (hi:i<D.length):blk D (i:Int)=D[i]:=by
 unfold blk;rw [if_pos (by omega),E6c,E5Z,E5P hi];rfl
def D3g {D:Dev} {i:Int} (hi:i<0\/(D.length:Int)<=i):blk D i=zeros 256:=by
 unfold blk;split
 ·rw [E5Z,E6x (by omega)];rfl
 ·rfl
def E29:∀ (n:Nat) (cells:List Cell),All2 okCell ((E5R n (E5R 256 (Sh.i .u8))).flatten) cells->∃ D:Dev,okD D/\cells=D5 D/\D.length=n:=by
 intro n
 induction n with
 | zero =>
  intro cells h;cases cells with
  | nil=>exact ⟨[],λ_ h=>by simp at h,rfl,rfl⟩
  | cons c cs=>simp [All2] at h
 | succ n ih =>
  intro cells h;rw [E6k,List.flatten_cons] at h;have h1:=All2.take 256 h;have h2:=All2.drop 256 h;rw [List.take_left' E6n] at h1;rw [List.drop_left' E6n] at h2;obtain ⟨b,e1,hb⟩:=D37 h1;obtain ⟨D,hD,e2,hl⟩:=ih _ h2;refine ⟨b::D,?_,by rw [bL,<-e1,<-e2,List.take_append_drop],by rw [E52,hl]⟩;intro x hx;rcases List.mem_cons.1 hx with rfl | hx
  ·exact hb
  ·exact hD x hx
end Go.Proofs.YtbnkgnfhgbhblaaGreat
end
namespace Go.Esc
def E0p (P:Program) (f:FuncId) (args:List Val) (h:B5) (h':B5):Prop :=
 ∀ (Γ:Ctx) (μ:Mu) (w:World) (V:List Value) (u:FrameMode),Inv Γ μ h w->All2 (RV μ) args V ->
  CallsD P f V.toArray u w λe u' w'=>u'=u/\∃ V' μ',e=.returned V' /\ μ.le μ'/\Inv Γ μ' h' w'/\∀ id,id<h.length -> μ' id = μ id
def D8d (P:Program) (f:FuncId) (S:Fun):Prop:=∀ args h v h2,S args h=A4 (v,h2)->kX P f/\E0p P f args h h2/\h.length<=h2.length
def D6r {P:Program} {E:O3} (hE:gP P E) {f:FuncId} {fn:Func} {af:AFn} (hf:P.funcs[f]?=A4 fn) (hc:C6z P fn af=A5):D8d P f (Lim af E):=by
 intro args h v h2 he;obtain ⟨n,hn⟩:=D5W he;obtain ⟨h1,h3,c,hb,hw⟩:=E1Y hE hf hc hn;exact ⟨h1,fun Γ μ w V u hi hargs=>(callsD_of_wp hf hb (hw Γ μ w V hi hargs)).mono λe u' w' ⟨hu,V',μ',he,h4,_,h5,h6⟩=>⟨hu,V',μ',he,h4,h5,h6⟩,h3⟩
structure DFn where
 pre:List (List Nat × ACode)
 keep:List Nat
 tm:Nat
 fn:Nat
 caps:List Opd
 body:ACode
 res:List ARes
def B7Y (G:Fun) (c:Val) (h:B5):Option (Val × B5):=match c with
 | .c (.f _ caps)=>G (C4f caps) h
 | _=>A7
def DFn.fin (f:DFn) (G:Fun) (c:Val):B3d (Val × B5):=λx e h =>
 match x with
 | .exit _=>A7
 | _=>(B7Y G c h).bind λp=>oD f.res e p.2
def DFn.out (f:DFn) (k:Env->B5->Option (Val × B5)):B3d (Val × B5):=λx e h =>
 match x with
 | .normal=>k e h
 | .ret=>oD f.res e h
 | .exit _=>A7
def DFn.go (f:DFn) (E:O3) (G:Fun) (n:Nat) (l:List (List Nat × ACode)):Env->B5->Option (Val × B5) :=
 List.rec (motive:=λ_=>Env->B5->Option (Val × B5))
  (λe h=>(B5U f.fn (f.caps.map e.ev)).bind λc=>ax E n f.body (f.fin G c) ((e.put (A4 f.tm) c).keep f.keep) h)
  (λq _ ih e h=>ax E n q.2 (f.out λe h=>ih (e.keep q.1) h) e h) l
def DFn.go_nil (f:DFn) (E:O3) (G:Fun) (n:Nat) (e:Env) (h:B5):f.go E G n [] e h=(B5U f.fn (f.caps.map e.ev)).bind λc=>ax E n f.body (f.fin G c) ((e.put (A4 f.tm) c).keep f.keep) h:=rfl
def DFn.go_cons (f:DFn) (E:O3) (G:Fun) (n:Nat) (q:List Nat × ACode) (l:List (List Nat × ACode)) (e:Env) (h:B5):f.go E G n (q::l) e h=ax E n q.2 (f.out λe h=>f.go E G n l (e.keep q.1) h) e h:=rfl
def DFn.run (f:DFn) (E:O3) (G:Fun) (n:Nat) (args:List Val) (h:B5):Option (Val × B5):=f.go E G n f.pre (params 0 args) h
def D3l (P:Program) (N:Nat) (f:DFn):Code->Bool
 | .region _ ops false=>(match ops.toList with
  | [o1,o2]=>bF P N ops o1 (aO f.tm (.mkf f.fn f.caps))&&decide (o2.dst=A7)&&decide (o2.guard=A7)&&(match o2.op with
   | .defer c=>(match c.callee with | .value (.tmp t)=>decide (t=f.tm)&&c.args.isEmpty | _=>A6)
   | _=>A6)
  | _=>A6)
 | _=>A6
def B1m (P:Program) (N:Nat) (f:DFn):List (List Nat × ACode)->Code->Bool
 | [],c=>(match c with | .seq d y=>D3l P N f d&&aE P N y f.body | _=>A6)
 | q::l,c=>(match c with | .seq x y=>aE P N x q.2&&B1m P N f l y | _=>A6)
def D8B (P:Program) (fn:Func) (f:DFn):Bool :=
 (match fn.body with | some c => B1m P fn.ntmps f f.pre c | none => false) && cA P fn.results.toList f.res && !(fn.name == "runtime.NumGoroutine")
section
variable {P:Program}
def B7U {rs:List ARes} {e:Env} {h h':B5} {v:Val} (hk:oD rs e h=A4 (v,h')):h'=h:=by
 unfold oD at hk;split at hk<;>simp at hk<;>obtain ⟨_,_,_,rfl⟩:=hk<;>rfl
def D3v {E:O3} (hE:gP P E) {G:Fun} {f:DFn} (hG:D8d P f.fn G) {fn:Func} (hr:cA P fn.results.toList f.res=A5) {L:Nat} (n:Nat) {v:Val} {h':B5}:∀ (l:List (List Nat × ACode)) (c:Code) (e:Env) (h:B5),
  B1m P fn.ntmps f l c=A5->f.go E G n l e h=A4 (v,h')->L<=h.length ->
  L<=h'.length/\∀ (Γ:Ctx) (μ:Mu) (a:Act) (w:World),Γ.ds=[]->SEnv μ e a->Inv Γ μ h w->fn.ntmps<=a.tmps.size->a.defers=[]->∀ R:Ending->World->Prop,
   (∀ V' μ' w',μ.le μ'->RV μ' v V'->Inv Γ μ' h' w'->(∀ id,id<L -> μ' id = μ id)->R (.returned V') w')->c.wp P (bodyPostD P fn R) a w
 | [],c,e,h,hc,D8,hL=>by
  unfold B1m at hc;split at hc
  ·rename_i d y;rw [E5S] at hc;obtain ⟨hd,hy⟩:=hc;rw [DFn.go_nil] at D8;simp only [E5Q] at D8;obtain ⟨cv,hcv,D8⟩:=D8;have E2B:=hcv;unfold B5U at E2B;rw [E6d] at E2B;obtain ⟨caps,E5x,rfl⟩:=E2B;rw [B7W] at D8;obtain ⟨x,e2,h2,hk,hL2,hst⟩:=D4M (L:=L) hE n f.body y _ _ h (v,h') hy D8 hL;have E4V:(x=.normal\/x=.ret)/\∃ p:Val × B5,G (C4f caps) h2=A4 p/\oD f.res e2 p.2=A4 (v,h'):=by
    unfold DFn.fin at hk;cases x with
    | normal=>exact ⟨.inl rfl,by simpa only [E5Q,B7Y] using hk⟩
    | ret=>exact ⟨.inr rfl,by simpa only [E5Q,B7Y] using hk⟩
    | exit=>cases hk
   obtain ⟨hx,⟨pv,ph⟩,hG1,E13⟩:=E4V;obtain ⟨D86,hdc,hlen⟩:=hG _ _ _ _ hG1;have hh':=B7U E13;dsimp only at hh';subst hh';refine ⟨E6w hL2 hlen,fun Γ μ a w hds hs hi hN had R hR=>?_⟩;unfold D3l at hd;split at hd
   ·rename_i rid ops;split at hd
    ·rename_i o1 o2 E2J;simp only [E5S,decide_eq_true_eq] at hd;obtain ⟨⟨⟨hd1,hd2⟩,hd3⟩,hd4⟩:=hd;split at hd4
     ·rename_i cl hop;split at hd4
      ·rename_i t D5b;simp only [E5S,decide_eq_true_eq] at hd4;obtain ⟨rfl,hargs⟩:=hd4;refine wp_seq (wp_region ?_);have hsz:ops.size=2:=by rw [<-Array.length_toList,E2J];rfl
       have g0:ops[0]?=A4 o1:=by rw [<-Array.getElem?_toList,E2J];rfl
       have g1:ops[1]?=A4 o2:=by rw [<-Array.getElem?_toList,E2J];rfl
       rw [hsz];show wpOps P ops _ [0,1] a w;rw [wpOps_cons];unfold wpOp;rw [g0];have A1p:o1.dst=A4 f.tm/\A0w fn.ntmps o1.dst=A5:=by
        simp only [bF,aO,E5S,decide_eq_true_eq] at hd1;exact ⟨of_decide_eq_true hd1.1.1.1,hd1.1.1.2⟩
       have htm:f.tm<fn.ntmps:=by
        have:=A1p.2;rw [A1p.1] at this;simpa [A0w] using this
       have B8l:Y7 E A6 h 0 (aO f.tm (.mkf f.fn f.caps)) e h (λv h=>A4 (v,h))=A4 (.c (.f f.fn caps),h):=by
        unfold Y7 aO;simp only [aop,hcv,E54]
       refine A5V (hr:=h) (n0:=0) hE hd1 B8l hs hi (λ_ _ h=>h) trivial ?_;intro V w1 μ1 dF hv hi1 cQ;rw [wpOps_cons];unfold wpOp;rw [g1];have hv0:RC μ1 (.f f.fn caps) V:=hv;have hv2:=hv;obtain ⟨cs,rfl,hcs⟩:=hv2;obtain ⟨a1,ha1⟩:∃ a1,a1=a.put o1.dst (.func (.func f.fn) #[] cs.toArray):=⟨_,rfl⟩;have hs1:SEnv μ1 (e.put (A4 f.tm) (.c (.f f.fn caps))) a1:=by
        rw [ha1,A1p.1];exact (hs.mono dF).put (λt ht=>by cases ht;omega) hv
       have uU:a1.eval (.tmp f.tm)=.func (.func f.fn) #[] cs.toArray:=by
        have:=hs1 f.tm;rw [Env.get_put_same] at this;obtain ⟨cs',h1,h2⟩:=this;show a1.tmps.getD f.tm undef=_;rw [ha1,A1p.1];show (a.put (A4 f.tm) _).tmps.getD f.tm undef=_;simp only [Act.put];rw [Array.getD_eq_getD_getElem?];simp [show f.tm<a.tmps.size by omega]
       rw [<-ha1];obtain ⟨dd,hdd⟩:∃ dd:Deferred,dd={ target:=.fn (.func f.fn) cs.toArray,args:=#[] }:=⟨_,rfl⟩;have A9C:(execOp a1.eval o2).run P w1=.ok (.defer dd) w1:=by
        have ea:cl.args = #[]:=by simpa using hargs
        rw [hdd];simp [execOp,hop,resolve,D5b,uU,Deferred.ofValue,ea]
       have hw:Region.wanted o2 (yielded ops a1.tmps)=A5:=by simp [Region.wanted,hd3]
       simp only [hw,if_true]
       left
       unfold Oper.wp;rw [A9C,Oper.upon_defer];have E2M:∀ b:Act,b.put o2.dst undef=b:=λb=>by rw [hd2];rfl
       rw [E2M];have E3Q:a1.defers=[]:=by rw [ha1,put_defers];exact had
       show y.wp P (bodyPostD P fn R) { a1 with defers:=dd::a1.defers } w1;rw [E3Q];refine hst { Γ with ds:=[dd] } μ1 { a1 with defers:=[dd] } w1 (SEnv.keep (λt=>hs1 t) f.keep) (hi1.ds [dd]) (by show fn.ntmps<=a1.tmps.size;rw [ha1,Act.size_put];exact hN) rfl _ ?_;intro μ' a' w' k1 k2 k3 k4 k5 k6;have fin:Leaves P fn a'.tmps R a'.defers .returning w':=by
        rw [k6];show Leaves P fn a'.tmps R [dd] .returning w';rw [hdd];have hv3:RC μ' (.f f.fn caps) (.func (.func f.fn) #[] cs.toArray):=RC.mono k1 hv0;obtain ⟨cs2,e3,E4T⟩:=hv3;have:cs2=cs:=by
         injection e3 with _ _ e4
         have:=congrArg Array.toList e4;simpa using this.symm
        subst this;refine leaves_cons (by simp) (f:=f.fn) (args:=cs2.toArray) (by
         show (callFunc f.fn (#[]++cs2.toArray)).run P w'=_;rw [Array.empty_append];exact B7Z D86 _ _) ?_
        refine (hdc Γ μ' w' cs2 .returning (k4.ds Γ.ds) (B52 E4T)).mono ?_;rintro en u' w2 ⟨rfl,V',μ2,rfl,m1,m2,m3⟩;show Leaves P fn a'.tmps R [] .returning w2;obtain ⟨V2,q1,q2,_⟩:=B5W (a:=a') (w:=w2) (λt=>(k3.mono m1) t) m2 hr E13;refine ⟨V2,q1,hR V2 μ2 w2 (Mu.le_trans dF (Mu.le_trans k1 m1)) q2 m2 λid hid=>?_⟩;rw [m3 id (by omega),k2 id hid];exact cQ id (by omega) (λj hj=>by cases hj)
       rcases hx with rfl | rfl
       ·exact fin
       ·exact fin
      ·cases hd4
     ·cases hd4
    ·cases hd
   ·cases hd
  ·cases hc
 | q::l,c,e,h,hc,D8,hL=>by
  unfold B1m at hc;split at hc
  ·rename_i x y;rw [E5S] at hc;rw [DFn.go_cons,B7W] at D8;obtain ⟨x1,e1,h1,hk,hL1,hst⟩:=D4M (L:=L) hE n q.2 x _ e h (v,h') hc.1 D8 hL;cases x1 with
   | normal =>
    obtain ⟨g1,g2⟩:=D3v hE hG hr n l y (e1.keep q.1) h1 hc.2 hk hL1;refine ⟨g1,fun Γ μ a w hds hs hi hN had R hR=>wp_seq (hst Γ μ a w hs hi hN (by rw [hds];exact had) _ ?_)⟩;intro μ1 a1 w1 f1 f2 f3 f4 f5 f6;exact g2 Γ μ1 a1 w1 hds (f3.keep q.1) f4 f5 (by rw [f6,hds]) R λV' μ' w' k2 k3 k4 k5=>hR V' μ' w' (Mu.le_trans f1 k2) k3 k4 λid hid=>(k5 id hid).trans (f2 id hid)
   | ret =>
    have hk':oD f.res e1 h1=A4 (v,h'):=hk;have hh':=B7U hk';subst hh';refine ⟨hL1,fun Γ μ a w hds hs hi hN had R hR=>wp_seq (hst Γ μ a w hs hi hN (by rw [hds];exact had) _ ?_)⟩;intro μ1 a1 w1 f1 f2 f3 f4 f5 f6;obtain ⟨V',k1,k2,_⟩:=B5W f3 f4 hr hk';show Leaves P fn a1.tmps _ a1.defers .returning w1;rw [f6,hds];exact ⟨V',k1,hR V' μ1 w1 f1 k2 f4 f2⟩
   | exit id=>exact (by cases hk)
  ·cases hc
def D8M {E:O3} (hE:gP P E) {G:Fun} {f:DFn} (hG:D8d P f.fn G) {g:FuncId} {fn:Func} (hf:P.funcs[g]?=A4 fn) (hc:D8B P fn f=A5) {n:Nat}:SOk P g (f.run E G n):=by
 intro args h v h' D8;simp only [D8B,E5S,E6I] at hc;obtain ⟨⟨hb,hr⟩,D3L⟩:=hc;cases C2A:fn.body with
 | none=>rw [C2A] at hb;cases hb
 | some c =>
  rw [C2A] at hb;obtain ⟨h1,h2⟩:=D3v hE hG hr (L:=h.length) n f.pre c (params 0 args) h hb D8 (E5V _);refine ⟨⟨fn,hf,D3L,by simp [C2A]⟩,fun Γ μ w V hi hargs=>?_,h1⟩;refine calls_of_wp_defers hf C2A (h2 { Γ with ds:=[] } μ _ w rfl (D28 hargs _) (hi.ds []) (by simp;omega) rfl _ ?_);intro V' μ' w' k1 k2 k3 k4;exact ⟨V',μ',rfl,k1,k2,k3.ds Γ.ds,k4⟩
end
inductive PP where
 | o (x:AOper)
 | call (d:Option Nat) (g:Option (Nat × Bool)) (k:Nat) (args:List Opd)
inductive PC where
 | skip
 | ret
 | exit (id:Nat)
 | ops (l:List PP)
 | draw (n:Nat) (l r:List PP)
 | drawS (n:Nat) (l:List PP) (s:PP) (chk:List (Nat × AOp)) (r:List PP)
 | seq (keep:List Nat) (a b:PC)
 | jn (j:Nat) (keep:List Nat) (a b:PC)
 | cond (c:Opd) (a b:PC)
 | block (id:Nat) (a:PC)
 | loop (j:Nat) (keep:List Nat) (a:PC)
def erp (F:Nat->Nat):PP->AOper
 | .o x=>x
 | .call d g k args=>⟨d,.call (F k) args,g,A7⟩
def ers (F:Nat->Nat) (l:List PP):List AOper:=List.rec [] (λx _ r=>erp F x::r) l
def er (F:Nat->Nat) (p:PC):ACode :=
 PC.rec (motive:=λ_=>ACode) .skip .ret (λi=>.exit i) (λl=>.ops (ers F l)) (λn l r=>.draw n (ers F l) (ers F r)) (λn l s k r=>.drawS n (ers F l) (erp F s) k (ers F r)) (λk _ _ a b=>.seq k a b) (λ_ k _ _ a b=>.seq k a b) (λc _ _ a b=>.cond c a b) (λi _ a=>.block i a) (λ_ k _ a=>.loop k a) p
def nx:Nat->Nat->Nat × Nat
 | 0,s=>(0,s)
 | f+1,s=>bif Nat.blt (s%16) 8 then (s%16,s/16) else match nx f (s/16) with | (a,r)=>(s%16-8+8*a,r)
abbrev Dst:=(Nat × List Nat) × Nat
def rdn (s:Dst):Nat × Dst:=match nx 9 s.2 with | (a,r)=>(a,(s.1,r))
section
variable {α β γ δ ε ζ:Type}
def E18 (g:Dst -> α × Dst):Nat->Dst->List α × Dst
 | 0,s=>([],s)
 | k+1,s=>match g s with | (a,s)=>match E18 g k s with | (l,s)=>(a::l,s)
def A9r (g:Dst -> α × Dst) (s:Dst):List α × Dst:=match rdn s with | (k,s)=>E18 g k s
def qA (f:α -> β) (a:Dst -> α × Dst) (s:Dst):β × Dst:=match a s with | (x,s)=>(f x,s)
def qB (f:α -> β -> γ) (a:Dst -> α × Dst) (b:Dst -> β × Dst) (s:Dst):γ × Dst:=match a s with | (x,s)=>qA (f x) b s
def qC (f:α -> β -> γ -> δ) (a:Dst -> α × Dst) (b:Dst -> β × Dst) (c:Dst -> γ × Dst) (s:Dst):δ × Dst:=match a s with | (x,s)=>qB (f x) b c s
def qD (f:α -> β -> γ -> δ -> ε) (a:Dst -> α × Dst) (b:Dst -> β × Dst) (c:Dst -> γ × Dst) (d:Dst -> δ × Dst) (s:Dst):ε × Dst:=match a s with | (x,s)=>qC (f x) b c d s
def qE (f:α -> β -> γ -> δ -> ε -> ζ) (a:Dst -> α × Dst) (b:Dst -> β × Dst) (c:Dst -> γ × Dst) (d:Dst -> δ × Dst) (e:Dst -> ε × Dst) (s:Dst):ζ × Dst:=match a s with | (x,s)=>qD (f x) b c d e s
end
def nth {α:Type} (z:α):List α -> Nat -> α
 | [],_=>z
 | a::_,0=>a
 | _::l,i+1=>nth z l i
def del:Nat->List Nat->List Nat
 | _,[]=>[]
 | 0,_::l=>l
 | k+1,x::l=>x::del k l
def ins (x:Nat):List Nat->List Nat
 | []=>[x]
 | y::l=>bif Nat.blt x y then x::y::l else y::ins x l
def E4k:Nat->Dst->Dst
 | 0,s=>s
 | k+1,s=>match rdn s with | (i,s)=>E4k k ((s.1.1,del i s.1.2),s.2)
def E4l:Nat->Dst->Dst
 | 0,s=>s
 | k+1,s=>match rdn s with | (v,s)=>E4l k ((s.1.1,ins (match v%2 with | 0=>s.1.1-v/2 | _=>v/2) s.1.2),s.2)
def rkp (s:Dst):List Nat × Dst:=match rdn s with
 | (h,s)=>match (match h%4 with | 3=>qA (λx=>x+3) rdn s | r=>(r,s)) with
  | (r,s)=>match E4l (h/4) (E4k r s) with | s=>(s.1.2,s)
section
variable (V I:Nat->Val) (O:Nat->AOp) (Z:Nat->List Cell)
def gA (s:Dst):Opd × Dst:=match rdn s with
 | (v,s)=>(match v%2 with
  | 0=>.t (s.1.1-(match v/2 with | 0=>1 | 1=>0 | d=>d))
  | _=>match v/2%2 with
   | 0=>.v (I (v/4))
   | _=>match v/4%2 with
    | 0=>.v (V (v/8))
    | _=>.t (v/8),s)
def E19 (s:Dst):(Nat × Nat × Opd) × Dst:=qC (λa b x=>(a,b,x)) rdn rdn (gA V I) s
def E4j:Nat->Dst->AOp × Dst
 | 0=>qA .mv (gA V I)
 | 1=>qA .load1 (gA V I)
 | 2=>qB .loadN rdn (gA V I)
 | 3=>qB .fAddr (gA V I) rdn
 | 4=>qB .ext (gA V I) rdn
 | 5=>qC (λn=>.bin (nth .andNot [.add,.lss,.eql,.neq,.geq,.gtr,.mul,.sub,.rem,.leq,.quo,.shl,.shr,.or,.and,.xor] n)) rdn (gA V I) (gA V I)
 | 6=>qC .iAddrL rdn (gA V I) (gA V I)
 | 8=>qA .len (gA V I)
 | 9=>qC .storeN rdn (gA V I) (gA V I)
 | 10=>qB .store1 (gA V I) (gA V I)
 | 11=>qD .iAddrA rdn rdn (gA V I) (gA V I)
 | 12=>qC .pick (gA V I) (gA V I) (gA V I)
 | 13=>qA (.un .not) (gA V I)
 | 14=>qA (λz=>.alloc (Z z)) rdn
 | 15=>qA .box (gA V I)
 | 16=>qA .lenS (gA V I)
 | 17=>qA .nilc (gA V I)
 | 18=>qA .nilrow rdn
 | 19=>qC .app rdn (gA V I) (gA V I)
 | 20=>qB (λz=>.build (Z z)) rdn (A9r (E19 V I))
 | 21=>qD (λa b z=>.buildSl a b (Z z)) rdn rdn rdn (A9r (E19 V I))
 | 22=>qC .idxA1 rdn (gA V I) (gA V I)
 | 23=>qA .mark (gA V I)
 | 24=>qA (.conv .u64) (gA V I)
 | 25=>qA (.conv .i64) (gA V I)
 | 26=>qA (.conv .u8) (gA V I)
 | 27=>qB .fld1 (gA V I) rdn
 | 28=>qC .fldN (gA V I) rdn rdn
 | 29=>qD (λz n=>.mkSl n (Z z)) rdn rdn (gA V I) (gA V I)
 | 30=>qB .mkf rdn (A9r (gA V I))
 | 31=>qB .callV (gA V I) (A9r (gA V I))
 | _=>qA O rdn
def rpp (s:Dst):PP × Dst:=match qA (nth 0 [1,0,60,84,12,36,110,3,24,144,63,169,25,72,15,39,48,96,122,37,49,132,181,87,384,228,180,240,27,204,252,156,217,61,216,99,168,159,387,75,288,13,175,192,85,253,360,372,300,312,135,348,207,243,375,386,276,324,264,147,354,385,349,258,327,361,195,174,133,259,241,355,390,255]) rdn s with
 | (h,s)=>match (match h%3 with | 0=>(A4 (s.1.1+1),((s.1.1+1,s.1.2),s.2)) | 1=>(match rdn s with | (d,s)=>(A4 d,((d,s.1.2),s.2))) | _=>((A7:Option Nat),s)) with
  | (d,s)=>match (match h/3%2 with | 0=>((A7:Option (Nat × Bool)),s) | _=>qA (λg=>A4 (g/2,Nat.beq (g%2) 1)) rdn s) with
   | (g,s)=>match (match h/6%2 with | 0=>((A7:Option Nat),s) | _=>qA A4 rdn s) with
    | (l,s)=>match h/12 with
     | 7=>qB (.call d g) rdn (A9r (gA V I)) s
     | t=>qA (λo=>.o ⟨d,o,g,l⟩) (E4j V I O Z t) s
def E5q (s:Dst):(Nat × AOp) × Dst:=match rdn s with | (d,s)=>match rdn s with | (t,s)=>qA (λo=>(d,o)) (E4j V I O Z t) s
def B4B:Nat->Dst->PC × Dst
 | 0,s=>(.skip,s)
 | f+1,s=>match rdn s with
  | (0,s)=>(.skip,s)
  | (1,s)=>(.ret,s)
  | (2,s)=>qC (λk l b=>.seq k (.ops l) b) rkp (A9r (rpp V I O Z)) (B4B f) s
  | (3,s)=>qC .seq rkp (B4B f) (B4B f) s
  | (4,s)=>qC .cond (gA V I) (B4B f) (B4B f) s
  | (5,s)=>qB .block rdn (B4B f) s
  | (6,s)=>qC .loop rdn rkp (B4B f) s
  | (7,s)=>qA .exit rdn s
  | (8,s)=>qA .ops (A9r (rpp V I O Z)) s
  | (9,s)=>qC .draw rdn (A9r (rpp V I O Z)) (A9r (rpp V I O Z)) s
  | (10,s)=>qD .jn rdn rkp (B4B f) (B4B f) s
  | (_,s)=>qE .drawS rdn (A9r (rpp V I O Z)) (rpp V I O Z) (A9r (E5q V I O Z)) (A9r (rpp V I O Z)) s
end
abbrev PT:=(Nat->Val)->(Nat->Val)->(Nat->AOp)->(Nat->List Cell)->PC
def dcp (x:Nat):PT:=λV I O Z=>(B4B V I O Z 99 ((0,[]),x)).1
def px (x:Nat) {p:PT} (hp:p=dcp x:=by conv=>{ rhs;reduce }):PT:=p
def D6j (n:Nat):Val:=iV n
def E1U:List (List Cell):=[[],[o0],[.ns],[.s []],[.b A6],[.nm],[.nf],[.i .u8 0],[.i .u8 0,.i .u8 0],[.i .u8 0,.i .u8 0,.i .u8 0,.i .u8 0],[.i .u8 0,.i .u8 0,.i .u8 0,.i .u8 0,.i .u8 0],[.i .u8 0,.i .u8 0,.i .u8 0,.i .u8 0,.i .u8 0,.i .u8 0,.i .u8 0,.i .u8 0],E5R 256 (.i .u8 0),E5R 32 (.i .u8 0),E5R 25 (.i .u8 0),[o0]++E5R 32 o0,[o0]++E5R 256 (.i .u8 0),[.s [],o0],[o0,o0,.i .u64 0],[o0,o0,o0],[o0,.s [],o0],[o0,.ns],[o0,o0,.i .u64 0,.nf],[o0,o0,.s [],o0],[o0,o0,o0,o0,o0,o0],[o0,o0,o0,o0,o0,o0,o0],[o0,o0,o0,o0,o0,o0,o0,o0],[o0,o0,o0,o0,o0,o0,o0,o0,o0,o0,o0],[o0,o0,o0,o0,o0,.ns,.ns],[.ns,.ns,.ns,.ns,.ns,o0,.ns,.ns],[.ns,.ns,.ns,.ns,.ns,o0]]
structure Cal (P:Program) where
 f:FuncId
 S:Fun
 ok:SOk P f S
def cal {P:Program} {f:FuncId} {S:Fun} (ok:SOk P f S):Cal P:=⟨f,S,ok⟩
def E3 {P:Program} {f:FuncId} {A:AFn} {E:O3} {R:Nat->Fun} (S:Fun) (K:FnK P f A E R) (e:S=tl A E:=by exact rfl):Cal P:=⟨f,S,by rw [e];exact K.sok⟩
def iJ {P:Program} {f:FuncId} {A:AFn} {E:O3} {R:Nat->Fun} (S:Fun) (K:FnK P f A E R) (e:S=Lim A E:=by exact rfl):Cal P:=⟨f,S,by rw [e];exact K.ok⟩
def el {P:Program}:List (Cal P)->O3
 | []=>D3y
 | c::l=>D8V c.f c.S (el l)
def D6b {P:Program}:∀ l:List (Cal P),gP P (el l)
 | []=>D5M
 | c::l=>D5N c.ok (D6b l)
def E28 {P:Program}:List (Cal P)->Nat->Nat
 | [],_=>0
 | c::_,0=>c.f
 | _::l,k+1=>E28 l k
def C0T {P:Program}:List (Cal P)->Nat->Fun
 | [],_=>λ_ _=>A7
 | c::_,0=>c.S
 | _::l,k+1=>C0T l k
structure FD (P:Program) where
 p:PT
 V:List Val
 O:List AOp
 res:List ARes
 L:List (Cal P)
inductive Fr where
 | seq (keep:List Nat) (b:PC)
 | jn (j:Nat) (keep:List Nat) (b:PC)
 | blk (id:Nat)
 | lp (j:Nat) (keep:List Nat) (a:PC) (m:Nat)
section
variable {P:Program} (d:FD P)
def FD.code:PC:=d.p (nth .no (bV A6::bV A5::d.V)) D6j (nth (.nilrow 0) d.O) (nth [] E1U)
def FD.A:AFn:=⟨er (E28 d.L) d.code,d.res⟩
def FD.E:O3:=el d.L
def FD.R (n:Nat):Fun:=rx d.E d.A n
def FD.S:Fun:=tl d.A d.E
def FD.Q:Fun:=Lim d.A d.E
def FD.K {f:FuncId} {fn:Func} (hf:P.funcs[f]?=A4 fn) (hc:C6z P fn d.A=A5:=by kernel_rfl):FnK P f d.A d.E d.R:=.mk2 (D6b _) hf hc
end
def fd:PC->Nat->List Nat->List Fr->Option (Bool × List Nat × PC × List Fr × Nat)
 | .seq k a b,j,ns,s=>(fd a j ns (.seq k b::s)).or (fd b j ns s)
 | .jn i k a b,j,ns,s=>bif Nat.beq i j then A4 (A6,k,b,s,0) else (fd a j ns (.jn i k b::s)).or (fd b j ns s)
 | .cond _ a b,j,ns,s=>(fd a j ns s).or (fd b j ns s)
 | .block i a,j,ns,s=>fd a j ns (.blk i::s)
 | .loop i k a,j,m::ns,s=>bif Nat.beq i j then A4 (A5,k,a,s,m) else fd a j ns (.lp i k a m::s)
 | _,_,_,_=>A7
def kof (E:O3) (n:Nat) (F:Nat->Nat) (fin:KV):List Fr->KV
 | []=>fin
 | .seq k b::s=>E03 k (ax E n (er F b)) (kof E n F fin s)
 | .jn _ k b::s=>E03 k (ax E n (er F b)) (kof E n F fin s)
 | .blk i::s=>D5e i (kof E n F fin s)
 | .lp _ k a m::s=>E15 k (A7Y (ax E n (er F a)) k (kof E n F fin s) m) (kof E n F fin s)
def lj' (E:O3) (n:Nat) (F:Nat->Nat) (fin:KV) (xs:List Val) (h:B5):Option (Bool × List Nat × PC × List Fr × Nat)->B4O
 | some (A5,k,a,s,m)=>A7Y (ax E n (er F a)) k (kof E n F fin s) m (zE k xs) h
 | some (A6,k,b,s,_)=>hold (ax E n (er F b) (kof E n F fin s) (zE k xs) h)
 | none=>A7
def FD.lj {P:Program} (d:FD P) (j n:Nat) (ns:List Nat) (xs:List Val):AtH:=λh=>lj' d.E n (E28 d.L) d.A.fin xs h (fd d.code j ns [])
def AN (X:Type):Nat->Type
 | 0=>X
 | a+1=>Nat->AN X a
def AV:Nat->Type
 | 0=>AtH
 | b+1=>Val->AV b
def C12 {X:Type}:(a:Nat)->AN X a->List Nat->X
 | 0,f,_=>f
 | a+1,f,[]=>C12 a (f 0) []
 | a+1,f,n::l=>C12 a (f n) l
def C13:(b:Nat)->AV b->List Val->AtH
 | 0,f,_=>f
 | b+1,f,[]=>C13 b (f .no) []
 | b+1,f,x::l=>C13 b (f x) l
structure TE where
 a:Nat
 b:Nat
 f:AN (AV b) a
structure TT where
 E:O3
 l:List TE
def tT (l:List TE):TT:=⟨D3y,l⟩
def C8e:List TE->Nat->List Nat->List Val->AtH
 | [],_,_,_=>λ_=>A7
 | t::_,0,ns,xs=>C13 t.b (C12 t.a t.f ns) xs
 | _::l,j+1,ns,xs=>C8e l j ns xs
inductive Rs:Type 1 where
 | v (x:Val)
 | n (x:Val) (h:B5)
 | b (x:Option Val)
 | g (x:Option B5)
 | p (x:Option (Val × B5))
 | l {α:Type} (x:Option α) (v:α -> Val) (h:α -> B5)
inductive Ct:Type 1 where
 | code (p:PC)
 | ops (l:List PP)
 | dr (l:List PP) (hr:B5) (c:Ct)
 | ds (x:PP) (chk:List (Nat × AOp)) (r:List PP)
 | ag (chk:List (Nat × AOp)) (e0:Env) (c:Ct)
 | rs (r:Rs) (d:Option Nat) (c:Ct)
 | nrm
 | ex (id:Nat)
def B6o:Env->Nat->Val
 | [],_=>.un
 | (d,v)::r,t=>bif d==t then v else B6o r t
def Q5 (e:Env):Opd->Val
 | .t n=>B6o e n
 | .v x=>x
def D9L (e:Env):List Nat->Env
 | []=>[]
 | t::r=>(t,B6o e t)::D9L e r
def D5A (e:Env):List Nat->List Val
 | []=>[]
 | t::r=>B6o e t::D5A e r
def C7S (e:Env):List Opd->List Val
 | []=>[]
 | x::l=>Q5 e x::C7S e l
def B8X (e:Env):Option Opd->Option Val
 | none=>A7
 | some x=>A4 (Q5 e x)
def D0Q (e:Env):List (Nat × Nat × Opd)->List (Nat × Nat × Val)
 | []=>[]
 | (a,b,x)::l=>(a,b,Q5 e x)::D0Q e l
def D2j (e:Env):Option Nat->Val->Env
 | none,_=>e
 | some d,v=>(d,v)::e
def D9N:Nat->List Val->Env
 | _,[]=>[]
 | i,v::l=>(i,v)::D9N (i+1) l
def B26:Nat->B5
 | 0=>[]
 | n+1=>A7::B26 n
def D7C (hr h:B5) (r:Row) (v:Nat->Val):Option Nat->Rs
 | none=>.n (v h.length) (h++[A4 r])
 | some j=>.n (v (hr.length+j)) (h.set (hr.length+j) (A4 r))
def D5n {α:Type} (hr h:B5) (x:Option α) (r:α -> Row) (v:Nat -> α -> Val):Option Nat->Rs
 | none=>.l x (λa=>v h.length a) (λa=>h++[A4 (r a)])
 | some j=>.l x (λa=>v (hr.length+j) a) (λa=>h.set (hr.length+j) (A4 (r a)))
def D9O (q:Bool) (h:B5) (x:B4O):B4O:=match q with
 | true=>quiet h x
 | false=>x
def E1e (E:O3) (q:Bool) (hr:B5) (sl:Option Nat) (e:Env) (h:B5):AOp->Rs
 | .mv x=>.v (Q5 e x)
 | .nilrow n=>D7C hr h (Row.mk [] A5) (λi=>.c (.sl i 0 0 n)) sl
 | .pick c a b=>.b (D26 (Q5 e c) (Q5 e a) (Q5 e b))
 | .alloc z=>D7C hr h (Row.mk z A5) (λi=>.c (.p i 0)) sl
 | .box x=>D5n hr h (cells? (Q5 e x)) (λc=>Row.mk c A5) (λi _=>.c (.p i 0)) sl
 | .build z l=>.l (E6 z (D0Q e l)) (λc=>.a c) (λ_=>h)
 | .buildSl n k z l=>D5n hr h (E6 z (D0Q e l)) (λc=>Row.mk c A5) (λi _=>.c (.sl i 0 k n)) sl
 | .load1 x=>.b (B8 hr (Q5 e x))
 | .loadN n x=>.b (D4 hr n (Q5 e x))
 | .store1 a x=>.g (I5 h (Q5 e a) (Q5 e x))
 | .storeN n a x=>.g (E5 h n (Q5 e a) (Q5 e x))
 | .bin o x y=>.b (N4 o (Q5 e x) (Q5 e y))
 | .eqA n s x y=>.b (aeq n s (Q5 e x) (Q5 e y))
 | .eqB n x y=>.b (D4L n (Q5 e x) (Q5 e y))
 | .eqN f n x=>.b (D1C f n (Q5 e x))
 | .nilc x=>.b (A5U (Q5 e x))
 | .un o x=>.b (aun o (Q5 e x))
 | .conv k x=>.b (D2V k (Q5 e x))
 | .convS x=>.b (D1A (Q5 e x))
 | .s2b x=>D5n hr h (E2m (Q5 e x)) (λs=>Row.mk (B4 s) A5) (λi s=>.c (.sl i 0 s.length 1)) sl
 | .b2s x=>.b (B5P hr (Q5 e x))
 | .b2sN A7 x=>.b (B5P h (Q5 e x))
 | .b2sN (A4 o) x=>.b (C1X h hr.length (A4 o) (Q5 e x))
 | .mark x=>.b (A0J h (Q5 e x))
 | .mkf f l=>.b (B5U f (C7S e l))
 | .mkSl n z x y=>D5n hr h (A2T (Q5 e x) (Q5 e y)) (λk=>Row.mk (rows z k) A5) (λi k=>.c (.sl i 0 k n)) sl
 | .slS x a b=>.b (E0F (Q5 e x) (B8X e a) (B8X e b))
 | .slL n x a b=>.b (D29 n (Q5 e x) (B8X e a) (B8X e b))
 | .slA n k x a b=>.b (B5X hr n k (Q5 e x) (B8X e a) (B8X e b))
 | .fAddr x n=>.b (tY (Q5 e x) n)
 | .iAddrA n k x y=>.b (I3 n k (Q5 e x) (Q5 e y))
 | .iAddrL n x y=>.b (D9 n (Q5 e x) (Q5 e y))
 | .fld1 x n=>.b (C11 (Q5 e x) n)
 | .fldN x n k=>.b (D5Z (Q5 e x) n k)
 | .idxA1 n x y=>.b (A45 n (Q5 e x) (Q5 e y))
 | .idxAN n k x y=>.b (D1D n k (Q5 e x) (Q5 e y))
 | .idxS x y=>.b (C6g (Q5 e x) (Q5 e y))
 | .ext x n=>.b (D4N (Q5 e x) n)
 | .call _ _=>.b A7
 | .callV f l=>.p (D9O q h (A3R E (Q5 e f) (C7S e l) h))
 | .len x=>.b (D1E (Q5 e x))
 | .lenS x=>.b (D2Y (Q5 e x))
 | .app n x y=>.p (kV h n (Q5 e x) (Q5 e y))
 | .appZ n z x y=>.p (B7O h n z (Q5 e x) (Q5 e y))
 | .max x y=>.b (C6i (Q5 e x) (Q5 e y))
 | .min x y=>.b (B7T (Q5 e x) (Q5 e y))
 | .copy n x y=>.p (C6b h n (Q5 e x) (Q5 e y))
 | .mkMap=>D7C hr h (T8 []) (λi=>.c (.m i)) sl
 | .look k z o m x=>.b (A8T hr k z o (Q5 e m) (Q5 e x))
 | .mput k m x y=>.g (A3O h k (Q5 e m) (Q5 e x) (Q5 e y))
 | .ment k z m x=>.p (D21 h k z (Q5 e m) (Q5 e x))
 | .mset m x y=>.g (D22 h (Q5 e m) (Q5 e x) (Q5 e y))
def E1m (h:B5):Rs->B4O
 | .v x=>A4 (x,h)
 | .n x g=>A4 (x,g)
 | .b x=>bnd x λv=>A4 (v,h)
 | .g x=>bnd x λh=>A4 (.un,h)
 | .p x=>bnd x λp=>A4 (p.1,p.2)
 | .l x v g=>bnd x λa=>A4 (v a,g a)
def D39 (e:Env) (h:B5) (r:Rs):Option (Nat × Bool)->Rs
 | none=>r
 | some (g,w)=>.p (gd (B6o e g) w (E1m h r) (A4 (.no,h)))
def D7L (E:O3) (L:Nat->Fun) (q:Bool) (hr:B5) (e:Env) (h:B5):PP->Rs
 | .o ⟨_,o,g,s⟩=>D39 e h (E1e E q hr s e h o) g
 | .call _ g k l=>D39 e h (.p (D9O q h (L k (C7S e l) h))) g
def D7H:PP->Option Nat
 | .o x=>x.dst
 | .call d _ _ _=>d
def C7M (e:Env) (h:B5):List ARes->List (Option Val)
 | []=>[]
 | .tmp t::l=>A4 (B6o e t)::C7M e h l
 | .cell1 t::l=>B8 h (B6o e t)::C7M e h l
 | .cellN t n::l=>D4 h n (B6o e t)::C7M e h l
def D9K (e:Env) (h:B5):List ARes->B4O
 | []=>C8h [] h
 | [.tmp t]=>A4 (B6o e t,h)
 | [.cell1 t]=>mp (B8 h (B6o e t)) λv=>(v,h)
 | [.cellN t n]=>mp (D4 h n (B6o e t)) λv=>(v,h)
 | a::b::l=>C8h (C7M e h (a::b::l)) h
def B4u (n:Nat):List Fr->List Nat->List Nat
 | [],l=>n::l
 | .lp _ _ _ m::s,l=>B4u n s (m::l)
 | .seq _ _::s,l=>B4u n s l
 | .jn _ _ _::s,l=>B4u n s l
 | .blk _::s,l=>B4u n s l
def E1r (h:B5) (e:Env):AOp->Option Val
 | .load1 x=>B8 h (Q5 e x)
 | .loadN n x=>D4 h n (Q5 e x)
 | _=>A7
section
variable (n:Nat) (E:O3) (L:Nat->Fun) (T:List TE) (res:List ARes)
def kW:Nat->Ct->List Fr->Env->B5->B4O
 | 0,_,_,_,_=>A7
 | f+1,.code .skip,s,e,h=>kW f .nrm s e h
 | _+1,.code .ret,_,e,h=>D9K e h res
 | f+1,.code (.exit i),s,e,h=>kW f (.ex i) s e h
 | f+1,.code (.ops l),s,e,h=>kW f (.ops l) s e h
 | f+1,.code (.draw k l r),s,e,h=>kW f (.dr l h (.ops r)) s e (h++B26 k)
 | f+1,.code (.drawS k l x c r),s,e,h=>kW f (.dr l h (.ds x c r)) s e (h++B26 k)
 | f+1,.code (.seq k a b),s,e,h=>kW f (.code a) (.seq k b::s) e h
 | f+1,.code (.jn j k a b),s,e,h=>kW f (.code a) (.jn j k b::s) e h
 | f+1,.code (.cond c a b),s,e,h=>cnd (Q5 e c) (kW f (.code a) s e h) (kW f (.code b) s e h)
 | f+1,.code (.block i a),s,e,h=>kW f (.code a) (.blk i::s) e h
 | _+1,.code (.loop j k _),s,e,h=>C8e T j (B4u n s [n]) (D5A e k) h
 | _+1,.nrm,[],e,h=>D9K e h res
 | f+1,.nrm,.seq k b::s,e,h=>kW f (.code b) s (D9L e k) h
 | _+1,.nrm,.jn j k _::s,e,h=>C8e T j (B4u n s []) (D5A e k) h
 | f+1,.nrm,.blk _::s,e,h=>kW f .nrm s e h
 | _+1,.nrm,.lp j k _ m::s,e,h=>C8e T j (B4u n s [m]) (D5A e k) h
 | f+1,.ex i,.blk j::s,e,h=>bif j==i then kW f .nrm s e h else kW f (.ex i) s e h
 | f+1,.ex i,.seq _ _::s,e,h=>kW f (.ex i) s e h
 | f+1,.ex i,.jn _ _ _::s,e,h=>kW f (.ex i) s e h
 | f+1,.ex i,.lp _ _ _ _::s,e,h=>kW f (.ex i) s e h
 | _+1,.ex _,[],_,_=>A7
 | f+1,.ops [],s,e,h=>kW f .nrm s e h
 | f+1,.ops (x::l),s,e,h=>kW f (.rs (D7L E L A6 h e h x) (D7H x) (.ops l)) s e h
 | f+1,.dr [] _ c,s,e,h=>kW f c s e h
 | f+1,.dr (x::l) hr c,s,e,h=>kW f (.rs (D7L E L A5 hr e h x) (D7H x) (.dr l hr c)) s e h
 | f+1,.ds x c r,s,e,h=>kW f (.rs (D7L E L A6 h e h x) (D7H x) (.ag c e (.ops r))) s e h
 | f+1,.ag [] _ c,s,e,h=>kW f c s e h
 | f+1,.ag ((d,o)::k) e0 c,s,e,h=>agn (E1r h e0 o) (B6o e0 d) (kW f (.ag k e0 c) s e h)
 | f+1,.rs (.v x) d c,s,e,h=>kW f c s (D2j e d x) h
 | f+1,.rs (.n x g) d c,s,e,_=>kW f c s (D2j e d x) g
 | f+1,.rs (.b x) d c,s,e,h=>bnd x λv=>kW f c s (D2j e d v) h
 | f+1,.rs (.g x) d c,s,e,_=>bnd x λh=>kW f c s (D2j e d .un) h
 | f+1,.rs (.p x) d c,s,e,_=>bnd x λp=>kW f c s (D2j e d p.1) p.2
 | f+1,.rs (.l x v g) d c,s,e,_=>bnd x λa=>kW f c s (D2j e d (v a)) (g a)
end
def E4g {P:Program} (d:FD P) (T:TT) (n:Nat) (args:List Val) (h:B5):B4O :=
 kW n T.E (C0T d.L) T.l d.res 9999 (.code d.code) [] (D9N 0 args) h
def D6z (j n:Nat) (E:O3) (L:Nat->Fun) (T:List TE) (res:List ARes) (xs:List Val) (h:B5):Option (Bool × List Nat × PC × List Fr × Nat)->B4O
 | some (A5,k,a,s,m)=>kW n E L T res 9999 (.code a) (.lp j k a m::s) (zE k xs) h
 | some (A6,k,b,s,_)=>kW n E L T res 9999 (.code b) s (zE k xs) h
 | none=>A7
def E1c {P:Program} (d:FD P) (T:TT) (j n:Nat) (ns:List Nat) (xs:List Val) (h:B5):B4O :=
 D6z j n T.E (C0T d.L) T.l d.res xs h (fd d.code j ns [])
def Nrm (a b:B4O):Prop:=a=b
def D32 (a:B4O):Nrm a a:=rfl
def D4U:List Nat->List Nat
 | []=>[]
 | [m]=>[m+1]
 | m::k::l=>m::D4U (k::l)
section
variable {P:Program}
def mR (R:Nat->Fun) (d:FD P) (T:TT) (n:Nat) (args:List Val) (h:B5) {c:B4O} (hc:Nrm (E4g d T n args h) c:=by (conv=>{ arg 1;arg 1;whnf });(conv=>{ arg 1;arg 2;whnf });dsimp only [E4g,FD.code];(conv=>{ arg 1;arg 7;arg 1;whnf });dsimp only [kW,D7L,D7H,E1e,D39,E1m,D7C,D5n,D9O,B6o,Q5,D9L,D5A,C7S,B8X,D0Q,D2j,D9N,B26,B4u,C8e,C12,C13,D9K,C7M,E1r,D6j,nth,E1U,C0T,cal,E3,iJ,D6z,zE,Nat.reduceBEq,Nat.reduceAdd,cond_true,cond_false,Int.cast_ofNat_Int];exact D32 _) (e:R n args h=c:=by kernel_rfl):R n args h=c:=e
def mJ (d:FD P) (T:TT) (j n:Nat) (ns:List Nat) (xs:List Val) (h:B5) {a c:B4O} (ha:Nrm (C8e T.l j (n::ns) xs h) a:=by (conv=>{ arg 1;arg 1;arg 1;whnf });dsimp only [C8e,C12,C13];exact D32 _) (hc:Nrm (E1c d T j n ns xs h) c:=by (conv=>{ arg 1;arg 1;whnf });(conv=>{ arg 1;arg 2;whnf });dsimp only [E1c];(conv=>{ arg 1;arg 9;whnf });dsimp only [kW,D7L,D7H,E1e,D39,E1m,D7C,D5n,D9O,B6o,Q5,D9L,D5A,C7S,B8X,D0Q,D2j,D9N,B26,B4u,C8e,C12,C13,D9K,C7M,E1r,D6j,nth,E1U,C0T,cal,E3,iJ,D6z,zE,Nat.reduceBEq,Nat.reduceAdd,cond_true,cond_false,Int.cast_ofNat_Int];exact D32 _) (e:a=c:=by kernel_rfl):a=c:=e
def mL (d:FD P) (T:TT) (j n:Nat) (ns:List Nat) (xs:List Val) (h:B5) {a c:B4O} (ha:Nrm (C8e T.l j (n::D4U ns) xs h) a:=by (conv=>{ arg 1;arg 1;arg 1;whnf });dsimp only [C8e,C12,C13,D4U];exact D32 _) (hc:Nrm (E1c d T j n ns xs h) c:=by (conv=>{ arg 1;arg 1;whnf });(conv=>{ arg 1;arg 2;whnf });dsimp only [E1c];(conv=>{ arg 1;arg 9;whnf });dsimp only [kW,D7L,D7H,E1e,D39,E1m,D7C,D5n,D9O,B6o,Q5,D9L,D5A,C7S,B8X,D0Q,D2j,D9N,B26,B4u,C8e,C12,C13,D9K,C7M,E1r,D6j,nth,E1U,C0T,cal,E3,iJ,D6z,zE,Nat.reduceBEq,Nat.reduceAdd,cond_true,cond_false,Int.cast_ofNat_Int];exact D32 _) (e:a=c:=by kernel_rfl):a=c:=e
end
end Go.Esc
namespace Go.Proofs.YtbnkgnfhgbhblaaGreat
section
variable (n m m2:Nat) (a0 a1 a2 a3 x0 x1 x3 x4 x6 x7 x8 x10 x16 x17 x18 x19 x20 x21 x25 x26:Val) (h:B5)
def rA:FD A8:=⟨px 0X126e48867c488491c21111110053248f2a053c02218022a47814882d5c104025a16c161800724064202889725e1482f046d42032ef12cf700461a11d4152e38182150307024613401214f4200605110293c134d4b4932827411a0122a48863848818210001322401b6192889042e1a2e2e70110122819063d42031c61b632e21d753282,[],[],[.cellN 6 256],[]⟩
def B9K:=rA.R
def C7C:AtH:=rA.lj 0 n [m] [x1,x3,x6,x16,x17,x18]
def C7B:AtH:=rA.lj 1 n [] [x3,x6]
def C0z:=tT [⟨2,6,C7C⟩,⟨1,2,C7B⟩]
def D1s:=mR B9K rA C0z n [a0,a1,a2] h
def C9y:=mL rA C0z 0 n [m] [x1,x3,x6,x16,x17,x18] h
def C9x:=mJ rA C0z 1 n [] [x3,x6] h
def B2M:=rA.K Tryz.func161
def A5P:=rA.S
def D1x:SOk A8 161 A5P:=B2M.sok
def C5U:F6 B9K A5P:=B2M.flat
def B6C:FD A8:=⟨px 0X12648860143037101c3b40121c21b150182,[],[],[.cellN 2 256],[E3 A5P B2M]⟩
def C5h:=B6C.R
def D2K:=mR C5h B6C (tT []) n [a0] h
def A9W:=B6C.K Tryz.func158
def A5Q:=B6C.S
def D2N:SOk A8 158 A5Q:=A9W.sok
def C8X:F6 C5h A5Q:=A9W.flat
def A3b:FD A8:=⟨px 0X138f60301c19018194d1a0474d1a584d74c4d774d70130181904193b1a3a3b73a3b701306195042b1a2a2b7011042712b000007236015301c2,[],[],[.tmp 6],[]⟩
def C1M:=A3b.R
def C5i:=mR C1M A3b (tT []) n [a0,a1,a2] h
def zH:=A3b.K Tryz.func157
def rH:=A3b.S
def C0r:F6 C1M rH:=zH.flat
def wG:FD A8:=⟨px 0X126c48867c4884a1c211100033249f2c053a02218022a1e7814882d0690181c2058049624c15e104023e15c2f01b182ef1904123842150307024613401215b4200605114a12594f732823c430122c48863c488182100002322401b1a190384d28890430382f38387383870129052281a0184b42031c181b742e229197532c2,[],[],[.cellN 8 256],[E3 rH zH]⟩
def B5a:=wG.R
def C2J:AtH:=wG.lj 0 n [m] [x1,x3,x4,x8,x19,x20]
def C58:=tT [⟨2,6,C2J⟩]
def C8M:=mR B5a wG C58 n [a0,a1,a2,a3] h
def B2e:=mL wG C58 0 n [m] [x1,x3,x4,x8,x19,x20] h
def A1Q:=wG.K Tryz.func159
def qJ:=wG.S
def C8Y:SOk A8 159 qJ:=A1Q.sok
def C3T:F6 B5a qJ:=A1Q.flat
def A1A:FD A8:=⟨px 0X11b159f1807e59034a4c00000031b258f3a053c02218022a1e2c11d0690181c2058049625e17c104025817a14e3d01c183cf1b04124842150307024513401216f4200605115e39026d6b7328200003338f1a0041397100012e5d42d753002a20131118482383a0000021b22401b1e1903c4d0618303c2f03c4b73c73c3c73c3c701490522c1c01a5b4203311184827530282,[],[],[.tmp 8,.tmp 9],[E3 rH zH]⟩
def B9L:=A1A.R
def C7D:AtH:=A1A.lj 0 n [m] [x1,x3,x10,x25,x26]
def C96:=tT [⟨2,5,C7D⟩]
def D1t:=mR B9L A1A C96 n [a0,a1,a2,a3] h
def B4x:=mL A1A C96 0 n [m] [x1,x3,x10,x25,x26] h
def C9T:=A1A.K Tryz.func160
def C0q:=A1A.S
def D1y:SOk A8 160 C0q:=C9T.sok
def C5V:D5X B9L C0q:=C9T.tidy
def A1y:FD A8:=⟨px 0X14ef607e4e02580000003724df3a052e02218022a1c1e11d0407e14882d04026817c15c15c3d019183cf1804124e42150307024513401216f4200605115e39026d6b7328200003338f7000176b5a2f031f422ef2003802889724e14a2b0565301d201164813800001722401b6195013e1a3c3e70101b6192889042e1a2e2e7011012281901a4d42031648632e27531c2,[],[.min (.t 19) (.t 21)],[.tmp 6],[]⟩
def B9J:=A1y.R
def C7z:AtH:=A1y.lj 0 n [m] [x1,x3,x7,x25,x26]
def C94:=tT [⟨2,5,C7z⟩]
def D1q:=mR B9J A1y C94 n [a0,a1,a2] h
def B4v:=mL A1y C94 0 n [m] [x1,x3,x7,x25,x26] h
def B9i:=A1y.K Tryz.func86
def B2P:=A1y.S
def B7B:SOk A8 86 B2P:=B9i.sok
def C8W:pY B9J B2P:=B9i.out
def A1z:FD A8:=⟨px 0X11b14ef607c4e033c3e00000031b24df2d054804d492184cf1800381d20181b2058049625e10580401811d04024c16a171483801e182ff1904123a42150307024513401215d4200605114c2c025b59312820000332b1129531002a201312b602383a000011b22401b1e190384d061830382f0384b738738387383870149052281a01a4f4203312b6025301c2,[.c (.i .u64 0)],[],[.tmp 6,.tmp 7],[E3 rH zH]⟩
def C9Z:=A1z.R
def C7A:AtH:=A1z.lj 0 n [m] [x0,x1,x8,x20,x21]
def C95:=tT [⟨2,5,C7A⟩]
def D1r:=mR C9Z A1z C95 n [a0,a1,a2] h
def B4w:=mL A1z C95 0 n [m] [x0,x1,x8,x20,x21] h
def C9S:=A1z.K Tryz.func85
def C0p:=A1z.S
def D1w:SOk A8 85 C0p:=C9S.sok
def C5T:F6 C9Z C0p:=C9S.flat
def A5z:FD A8:=⟨px 0X14af606e4a023800000037249f2a053e0494921848f7002e1d20181b2058049625810680405c14882d04023e15a13c2d01d182cf1804122e42150307024513401214f4200605113e29024d4b732820000331111f65302920116012c00001722401b1a1902e4d288904302e2f2e2e72e2e701290521e19018494203160632e27531c2,[],[],[.tmp 6],[E3 rH zH]⟩
def D2I:=A5z.R
def D0M:AtH:=A5z.lj 0 n [m] [x1,x3,x7,x17,x18]
def D2O:=tT [⟨2,5,D0M⟩]
def D2J:=mR D2I A5z D2O n [a0,a1,a2] h
def B8I:=mL A5z D2O 0 n [m] [x1,x3,x7,x17,x18] h
def A5C:=A5z.K Tryz.func87
def zP:=A5z.S
def D2M:SOk A8 87 zP:=A5C.sok
def C8V:F6 D2I zP:=A5C.flat
end
def uS (at' width all:Int):Bool:=decide (0<=at')&&decide (1<=width)&&decide (width<=all)&&decide (at'<=all-width)
def O7 {a w n:Int}:uS a w n=A5↔0<=a/\1<=w/\w<=n/\a<=n-w:=by
 unfold uS;simp [and_assoc]
def A0m {a w n:Int} {h:B5} (hn:n<9223372036854775808) :
  rH [iV a,iV w,iV n] h=A4 (bV (uS a w n),h):=by
 refine C0r (n:=0) (h2:=ro h) ?_ rfl;rw [C5i];unfold uS;by_cases h1:0<=a
 ·by_cases h2:1<=w
  ·by_cases h3:w<=n
   ·have e:E5U .i64 (n-w)=n-w:=wrap_i64 (by omega) (by omega);simp [h1,h2,h3,e]
   ·simp [h1,h2,h3]
  ·simp [h1,h2]
 ·simp [h1]
def C62 (l:List UInt8) (a w:Int):Option Nat:=if w<=8/\uS a w l.length=A5 then A4 (le ((l.drop a.toNat).take w.toNat)) else A7
def C2I {l:List UInt8} {h:B5} {a w k:Nat} (hw:w<=4) (haw:a+w<=256) (hl:l.length=256):∀ d i m,i+d=w->d<m ->
  D0M k m (iV a) (pV h.length 0) (iV (le ((l.drop a).take i))) (iV w) (iV i) (h++[rT (B4 l)])=A4 (iV (le ((l.drop a).take w)),h++[rT (B4 l)])
 | d,i,0,_,hm=>by omega
 | 0,i,m+1,hi,hm=>by
  have e:i=w:=by omega
  subst e;rw [B8I];simp
 | d+1,i,m+1,hi,hm=>by
  have ih:=C2I (h:=h) (k:=k) hw haw hl d (i+1) m (by omega) (by omega);have hx:=B9 (h:=h++[rT (B4 l)]) (id:=h.length) (off:=a+i) (c:=.i .u8 l[a+i].toNat) U5 (by rw [Z0,E5P (by omega)];rfl) rfl;have hb:=l[a+i].toNat_lt;have hlen:((l.drop a).take i).length=i:=by simp;omega
  have dF:=C2D ((l.drop a).take i);rw [hlen] at dF;have hp:=xX (show i<=4 by omega);have hbp:=C17 (x:=l[a+i]) (show i<4 by omega);have e2:E5U .i64 (8*(i:Int))=8*i:=wrap_i64 (by omega) (by omega);have e3:E5U .u64 (8*(i:Int))=8*i:=wrap_u64 (by omega) (by omega);have e5:E5U .i64 (l[a+i].toNat:Int)=l[a+i].toNat:=wrap_i64 (by omega) (by omega);have e6:=D4t (k:=.i64) (x:=l[a+i]) (show i<8 by omega) (wrap_i64 (by omega) (by omega)) rfl;have e7:N4 .or (iV (le ((l.drop a).take i):Nat)) (iV ((l[a+i].toNat*256 ^ i:Nat):Int))=A4 (iV (le ((l.drop a).take (i+1)):Nat)):=by
   rw [E3b (by omega) (by omega),A5y (by omega),<-D6v,hlen]
  have ea:I3 256 1 (pV h.length 0) (iV ((a+i:Nat):Int))=A4 (pV h.length (a+i)):=by rw [J5 (by omega)];simp
  have h1':(i:Int)<w:=by omega
  rw [B8I];simp only [esc,h1',A2O (show a+i<9223372036854775808 by omega),e2,e3,ea,hx,e5,e6,e7,D3 (show i+1<9223372036854775808 by omega)];exact ih
def atN (l:List UInt8) (a w:Int):Nat:=if w<=4/\uS a w 256=A5 then le ((l.drop a.toNat).take w.toNat) else 0
def oP {l:List UInt8} {h:B5} (hl:l.length=256) {a w:Int} :
  zP [.a (B4 l),iV a,iV w] h=A4 (iV (atN l a w),h):=by
 refine C8V (n:=w.toNat+1) (h2:=ro h++[rT (B4 l)]) ?_ (by simp);rw [D2J];unfold atN;by_cases c1:4<w
 ·have c1':¬ w<=4:=by omega
  simp [c1,c1']
 ·have c1':w<=4:=by omega
  cases c2:uS a w 256 with
  | false=>simp [c1,A0m (show (256:Int)<9223372036854775808 by omega),c2]
  | true =>
   simp [c1,c1',A0m (show (256:Int)<9223372036854775808 by omega),c2];rw [O7] at c2;have:=C2I (h:=ro h) (a:=a.toNat) (w:=w.toNat) (k:=w.toNat+1) (by omega) (by omega) hl w.toNat 0 (w.toNat+1) (by omega) (by omega);simp only [show ((a.toNat:Nat):Int)=a by omega,show ((w.toNat:Nat):Int)=w by omega] at this;simpa [le] using this
def B4y {l:List UInt8} {z:List Cell} {h:B5} {a w k:Nat} {v:Int} (hw:w<=4) (haw:a+w<=256) (hl:l.length=256) (hz:z.length=256):∀ d i m,i+d=w->d<m ->
  C2J k m (iV a) (iV v) (pV h.length 0) (pV (h.length+1) 0) (iV w) (iV i) (h++[rT (B4 (J7 l a (C4 i v))),rT z]) =
   A4 (.a (B4 (J7 l a (C4 w v))),h++[rT (B4 (J7 l a (C4 w v))),rT (B4 (J7 l a (C4 w v)))])
 | d,i,0,_,hm=>by omega
 | 0,i,m+1,hi,hm=>by
  have e:i=w:=by omega
  subst e;have dF:(B4 (J7 l a (C4 i v))).length=256:=by rw [A9,P9 (by simp;omega),hl]
  have s1:=C7 (h:=h++[rT (B4 (J7 l a (C4 i v))),rT z]) (id:=h.length) (cs:=B4 (J7 l a (C4 i v))) (by simp) dF;have s2:=storeAll (h:=h++[rT (B4 (J7 l a (C4 i v))),rT z]) (id:=h.length+1) (cs:=z) (xs:=B4 (J7 l a (C4 i v))) (by simp) hz dF;have s3:=C7 (h:=h++[rT (B4 (J7 l a (C4 i v))),rT (B4 (J7 l a (C4 i v)))]) (id:=h.length+1) (cs:=B4 (J7 l a (C4 i v))) (by simp) dF;have h1':¬ (i:Int)<i:=by omega
  rw [B2e];simp only [esc,h1',s1,s2,s3]
 | d+1,i,m+1,hi,hm=>by
  have ih:=B4y (h:=h) (k:=k) (v:=v) hw haw hl hz d (i+1) m (by omega) (by omega);have e2:E5U .i64 (8*(i:Int))=8*i:=wrap_i64 (by omega) (by omega);have e3:E5U .u64 (8*(i:Int))=8*i:=wrap_u64 (by omega) (by omega);have e4:N4 .shr (iV v) (.c (.i .u64 (8*(i:Int))))=A4 (iV (v/2 ^ (Nat.min (8*(i:Int)).toNat 64))):=C6a (by omega);have ea:I3 256 1 (pV h.length 0) (iV ((a+i:Nat):Int))=A4 (pV h.length (a+i)):=by rw [J5 (by omega)];simp
  have hst:=G8 (h:=h++[rT (B4 (J7 l a (C4 i v))),rT z]) (id:=h.length) (off:=a+i) (cs:=B4 (J7 l a (C4 i v))) (x:=.i .u8 (byI v i).toNat) (by simp)
   (by rw [A9,P9 (by simp;omega)];omega)
  have e5:(J7 l a (C4 i v)).set (a+i) (byI v i)=J7 l a (C4 (i+1) v):=by
   rw [A3Q];have:=B21 (l:=l) (xs:=C4 i v) (a:=a) (x:=byI v i) (by simp;omega);simpa using this
  rw [iY,e5] at hst;have h1':(i:Int)<w:=by omega
  rw [B2e];simp only [esc,h1',A2O (show a+i<9223372036854775808 by omega),e2,e3,e4,D0g (v:=v) (show i<8 by omega),ea,hst,D3 (show i+1<9223372036854775808 by omega)];exact ih
def jG (l:List UInt8) (a w v:Int):List UInt8:=if w<=4/\uS a w 256=A5 then J7 l a.toNat (C4 w.toNat v) else l
def U3 {l:List UInt8} {a w v:Int} (hl:l.length=256):(jG l a w v).length=256:=by
 unfold jG;split
 ·rename_i h;rw [O7] at h;rw [P9 (by simp;omega),hl]
 ·exact hl
def D2e {l:List UInt8} {g:B5} (hl:l.length=256) {a w v:Int} :
  ∃ g',B5a (w.toNat+1) [.a (B4 l),iV a,iV w,iV v] g=A4 (.a (B4 (jG l a w v)),g'):=by
 have dF:(B4 l).length=256:=by rw [A9,hl]
 have hz:(E5R 256 (Cell.i .u8 0)).length=256:=E6n;rw [C8M];generalize E5R 256 (Cell.i .u8 0)=z at *;have s1:=C7 (h:=g++[rT (B4 l),rT z]) (id:=g.length) (cs:=B4 l) (n:=256) (by simp) dF;have s2:=storeAll (h:=g++[rT (B4 l),rT z]) (id:=g.length+1) (cs:=z) (xs:=B4 l) (by simp) hz dF;have s3:=C7 (h:=g++[rT (B4 l),rT (B4 l)]) (id:=g.length+1) (cs:=B4 l) (n:=256) (by simp) dF;unfold jG;by_cases c1:4<w
 ·rw [if_neg (by omega)];exact ⟨_,by simp only [esc,c1,s1,s2,s3];rfl⟩
 ·have c1':w<=4:=by omega
  cases c2:uS a w 256 with
  | false =>
   rw [if_neg (by simp)];exact ⟨_,by simp only [esc,c1,A0m (show (256:Int)<9223372036854775808 by omega),c2,s1,s2,s3];rfl⟩
  | true =>
   rw [if_pos ⟨c1',rfl⟩];have c3:=O7.1 c2;have:=B4y (h:=g) (a:=a.toNat) (w:=w.toNat) (k:=w.toNat+1) (v:=v) (z:=z) (by omega) (by omega) hl hz w.toNat 0 (w.toNat+1) (by omega) (by omega);simp only [show ((a.toNat:Nat):Int)=a by omega,show ((w.toNat:Nat):Int)=w by omega,show C4 0 v=[] from rfl,B8A] at this;exact ⟨_,by simp only [esc,c1,A0m (show (256:Int)<9223372036854775808 by omega),c2];exact this⟩
def Z5 {l:List UInt8} {h:B5} (hl:l.length=256) {a w v:Int} :
  qJ [.a (B4 l),iV a,iV w,iV v] h=A4 (.a (B4 (jG l a w v)),h):=by
 obtain ⟨g,e⟩:=D2e (g:=ro h) hl (a:=a) (w:=w) (v:=v);exact C3T e (by simp)
def B8J {l:List UInt8} {h:B5} {b id a n k:Nat} (haw:a+n<=256) (hl:l.length=256):∀ d i m,i+d=n->d<m ->
  C7z k m (iV a) (pV h.length 0) (sV (h.length+2) 0 n 1) (iV n) (iV i) (h++[rT (B4 l),rT [],rT (B4 ((l.drop a).take i++zeros (n-i)))]) =
   A4 (sV (h.length+2) 0 n 1,h++[rT (B4 l),rT [],rT (B4 ((l.drop a).take n))])
 | d,i,0,_,hm=>by omega
 | 0,i,m+1,hi,hm=>by
  have e:i=n:=by omega
  subst e;have h1':¬ (i:Int)<i:=by omega
  rw [B4v];simp only [esc,h1'];simp [zeros]
 | d+1,i,m+1,hi,hm=>by
  have ih:=B8J (h:=h) (b:=b) (id:=id) (k:=k) haw hl d (i+1) m (by omega) (by omega);have ea:I3 256 1 (pV h.length 0) (iV ((a+i:Nat):Int))=A4 (pV h.length (a+i)):=by rw [J5 (by omega)];simp
  have eb:D9 1 (sV (h.length+2) 0 n 1) (iV (i:Int))=A4 (pV (h.length+2) i):=by rw [C9 (by omega)];simp
  have hx:=B9 (h:=h++[rT (B4 l),rT [],rT (B4 ((l.drop a).take i++zeros (n-i)))]) (id:=h.length) (off:=a+i) (c:=.i .u8 l[a+i].toNat) (cs:=B4 l) (rw:=A5) (by simp) (by rw [Z0,E5P (by omega)];rfl) rfl;have hst:=G8 (h:=h++[rT (B4 l),rT [],rT (B4 ((l.drop a).take i++zeros (n-i)))]) (id:=h.length+2) (off:=i) (cs:=B4 ((l.drop a).take i++zeros (n-i))) (x:=.i .u8 l[a+i].toNat) (by simp)
   (by rw [A9];simp;omega)
  have e5:((l.drop a).take i++zeros (n-i)).set i l[a+i]=(l.drop a).take (i+1)++zeros (n-(i+1)):=by
   have hlen:((l.drop a).take i).length=i:=by simp;omega
   rw [E6u _ _ (by omega),hlen,E6D,A5y (by omega),E5Y];refine congrArg ((l.drop a).take i ++ ·) ?_;have:n-i=n-(i+1)+1:=by omega
   rw [this];unfold zeros;rw [E6k,E6G];rfl
  rw [iY,e5] at hst;have h1':(i:Int)<n:=by omega
  rw [B4v];simp only [esc,h1',A2O (show a+i<9223372036854775808 by omega),ea,hx,eb,hst,D3 (show i+1<9223372036854775808 by omega)];exact ih
def cV (l:List UInt8) (a n:Int):List UInt8:=if 0<=a then (l.drop a.toNat).take n.toNat else []
def oT (n:Nat):rows [Cell.i .u8 0] n=B4 (zeros n):=by
 unfold rows zeros
 induction n with
 | zero=>rfl
 | succ n ih=>rw [E6k,List.flatten_cons,ih,E6k];rfl
def D33 {l:List UInt8} {g:B5} (hl:l.length=256) {a n:Int} :
  ∃ v g',B9J ((min n (256-a)).toNat+1) [.a (B4 l),iV a,iV n] g=A4 (v,g')/\Out g.length g' v 1 (cV l a n).length (B4 (cV l a n)):=by
 rw [D1q];unfold cV;by_cases c1:a<0
 ·rw [if_neg (by omega)];exact ⟨_,_,by simp only [esc,c1];rfl,by simp [A9],_,rfl,by simp,by simp;rfl⟩
 ·rw [if_pos (by omega)];by_cases c2:256<=a
  ·have e:l.drop a.toNat=[]:=E56 (by omega);rw [e,List.take_nil];exact ⟨_,_,by simp only [esc,c1,c2];rfl,by simp [A9],_,rfl,by simp,by simp;rfl⟩
  ·by_cases c3:n<1
   ·have e:n.toNat=0:=by omega
    rw [e];exact ⟨_,_,by simp only [esc,c1,c2,c3];rfl,by simp [A9],_,rfl,by simp,by simp;rfl⟩
   ·have e1:E5U .i64 (256-a)=256-a:=wrap_i64 (by omega) (by omega);have e2:B7T (iV n) (iV (256-a))=A4 (iV ((min n (256-a)).toNat:Nat)):=by
     simp only [B7T]
     congr 3
     by_cases h:256-a<n
     ·rw [if_pos h];omega
     ·rw [if_neg h];omega
    generalize hN:(min n (256-a)).toNat=N at *;have e3:A2T (iV (N:Int)) (iV (N:Int))=A4 N:=by
     have:A6B (iV (N:Int))=A4 N:=by simp only [A6B];rw [if_pos (by omega)];simp
     simp [A2T,this]
    have e4:(l.drop a.toNat).take n.toNat=(l.drop a.toNat).take N:=by
     by_cases h:256-a<n
     ·rw [E53 (by simp;omega),E53 (by simp;omega)]
     ·have:n.toNat=N:=by omega
      rw [this]
    have e5:((l.drop a.toNat).take N).length=N:=by simp;omega
    rw [e4,e5];have:=B8J (h:=g) (b:=0) (id:=0) (a:=a.toNat) (n:=N) (k:=N+1) (by omega) hl N 0 (N+1) (by omega) (by omega);simp only [show ((a.toNat:Nat):Int)=a by omega,E6U,E59,Nat.sub_zero] at this;exact ⟨_,_,by simp only [esc,c1,c2,c3,e1,e2,e3,oT];exact this,by simp [A9,e5],_,rfl,by omega,by simp⟩
def B6m {l:List UInt8} {h:B5} (hl:l.length=256) {a n:Int} :
  B2P [.a (B4 l),iV a,iV n] h=A4 (sV h.length 0 (cV l a n).length 1,h++[rT (B4 (cV l a n))]):=by
 obtain ⟨v,g,e,ho⟩:=D33 (g:=ro h) hl (a:=a) (n:=n);exact C8W e (by simpa [F7] using ho) (by simp)
def B8L {v:Val} {nv:Nat} {data l:List UInt8} {z:List Cell} {h:B5} (hv:Has h v 1 nv (B4 data)) {a k:Nat} (ha:a<256) (hl:l.length=256) (hz:z.length=256) (hd:data.length<9223372036854775808):∀ d i m,i+d=data.length->d<m->i<=256-a ->
  C7C k m (iV a) (pV h.length 0) (pV (h.length+1) 0) v (iV data.length) (iV i) (h++[rT (B4 (J7 l a (data.take i))),rT z]) =
   A4 (.a (B4 (J7 l a (data.take (256-a)))),h++[rT (B4 (J7 l a (data.take (256-a)))),rT (B4 (J7 l a (data.take (256-a))))])
 | d,i,0,_,hm,_=>by omega
 | d,i,m+1,hi,hm,hia=>by
  have hll:∀ i,i<=256-a->(B4 (J7 l a (data.take i))).length=256:=λi hi=>by rw [A9,P9 (by simp;omega),hl]
  have fin:data.take i=data.take (256-a)->C7B k (pV h.length 0) (pV (h.length+1) 0) (h++[rT (B4 (J7 l a (data.take i))),rT z]) =
   A4 (.a (B4 (J7 l a (data.take (256-a)))),h++[rT (B4 (J7 l a (data.take (256-a)))),rT (B4 (J7 l a (data.take (256-a))))]):=λe=>by
   rw [e];have dF:=hll (256-a) (E5V _);have s1:=C7 (h:=h++[rT (B4 (J7 l a (data.take (256-a)))),rT z]) (id:=h.length) (cs:=B4 (J7 l a (data.take (256-a)))) (by simp) dF;have s2:=storeAll (h:=h++[rT (B4 (J7 l a (data.take (256-a)))),rT z]) (id:=h.length+1) (cs:=z) (xs:=B4 (J7 l a (data.take (256-a)))) (by simp) hz dF;have s3:=C7 (h:=h++[rT (B4 (J7 l a (data.take (256-a)))),rT (B4 (J7 l a (data.take (256-a))))]) (id:=h.length+1) (cs:=B4 (J7 l a (data.take (256-a)))) (by simp) dF;rw [C9x];simp only [esc,s1,s2,s3]
  rw [C9y];by_cases c1:i<data.length
  ·obtain ⟨d,rfl⟩:∃ e,d=e+1:=⟨d-1,by omega⟩;have hnv:data.length=nv:=by simpa [A9] using hv.length
   obtain ⟨id,off,rfl,hid,h1,h2⟩:=(hv.more [rT (B4 (J7 l a (data.take i))),rT z]).sl (by omega);have hx:=h1 i (.i .u8 data[i].toNat) (by rw [Z0,E5P (by omega)];rfl);have eb:D9 1 (sV id off nv 1) (iV (i:Int))=A4 (pV id (off+i)):=by rw [C9 (by omega)];simp
   have e1:E5U .i64 (256-(a:Int))=256-a:=wrap_i64 (by omega) (by omega);have c1':(i:Int)<data.length:=by omega
   by_cases c2:256-a<=i
   ·have c2':(256:Int)-a<=i:=by omega
    simp only [esc,c1',eb,hx,e1,c2'];exact fin (by rw [show i=256-a by omega])
   ·have c2':¬ (256:Int)-a<=i:=by omega
    have ih:=B8L hv (l:=l) (z:=z) (k:=k) ha hl hz hd d (i+1) m (by omega) (by omega) (by omega);have ea:I3 256 1 (pV h.length 0) (iV ((a+i:Nat):Int))=A4 (pV h.length (a+i)):=by rw [J5 (by omega)];simp
    have hst:=G8 (h:=h++[rT (B4 (J7 l a (data.take i))),rT z]) (id:=h.length) (off:=a+i) (cs:=B4 (J7 l a (data.take i))) (x:=.i .u8 data[i].toNat) (by simp)
     (by rw [hll i hia];omega)
    have e5:(J7 l a (data.take i)).set (a+i) data[i]=J7 l a (data.take (i+1)):=by
     have:=B21 (l:=l) (xs:=data.take i) (a:=a) (x:=data[i]) (by simp;omega);rw [E6l,E6R (by omega)] at this;rw [this,E58 c1]
    rw [iY,e5] at hst;simp only [esc,c1',eb,hx,e1,c2',A2O (show a+i<9223372036854775808 by omega),ea,hst,D3 (show i+1<9223372036854775808 by omega)];exact ih
  ·have c1':¬ (i:Int)<data.length:=by omega
   simp only [esc,c1'];exact fin (by rw [E53 (by omega),E53 (by omega)])
def A9E (l:List UInt8) (a:Int) (data:List UInt8):List UInt8:=if 0<=a/\a<256 then J7 l a.toNat (data.take (256-a.toNat)) else l
def D3S {l:List UInt8} {a:Int} {data:List UInt8} (hl:l.length=256):(A9E l a data).length=256:=by
 unfold A9E;split
 ·rw [P9 (by simp;omega),hl]
 ·exact hl
def D34 {v:Val} {nv:Nat} {data l:List UInt8} {g:B5} (hv:Has g v 1 nv (B4 data)) (hl:l.length=256) (hd:data.length<9223372036854775808) {a:Int} :
  ∃ g',B9K (data.length+1) [.a (B4 l),iV a,v] g=A4 (.a (B4 (A9E l a data)),g'):=by
 have dF:(B4 l).length=256:=by rw [A9,hl]
 have hz:(E5R 256 (Cell.i .u8 0)).length=256:=E6n;have hnv:data.length=nv:=by simpa [A9] using hv.length
 rw [D1s];generalize E5R 256 (Cell.i .u8 0)=z at *;have s1:=C7 (h:=g++[rT (B4 l),rT z]) (id:=g.length) (cs:=B4 l) (n:=256) (by simp) dF;have s2:=storeAll (h:=g++[rT (B4 l),rT z]) (id:=g.length+1) (cs:=z) (xs:=B4 l) (by simp) hz dF;have s3:=C7 (h:=g++[rT (B4 l),rT (B4 l)]) (id:=g.length+1) (cs:=B4 l) (n:=256) (by simp) dF;unfold A9E;by_cases c1:a<0
 ·rw [if_neg (by omega)];exact ⟨_,by simp only [esc,c1,s1,s2,s3];rfl⟩
 ·by_cases c2:256<=a
  ·rw [if_neg (by omega)];exact ⟨_,by simp only [esc,c1,c2,s1,s2,s3];rfl⟩
  ·rw [if_pos (by omega)];have:=B8L hv (l:=l) (a:=a.toNat) (k:=data.length+1) (z:=z) (by omega) hl hz hd data.length 0 (data.length+1) (by omega) (by omega) (by omega);simp only [show ((a.toNat:Nat):Int)=a by omega,E6U,B8A] at this;exact ⟨_,by simp only [esc,c1,c2,hv.len,<-hnv];exact this⟩
def B6n {v:Val} {nv:Nat} {data l:List UInt8} {h:B5} (hv:Has h v 1 nv (B4 data)) (hl:l.length=256) (hd:data.length<9223372036854775808) {a:Int} :
  A5P [.a (B4 l),iV a,v] h=A4 (.a (B4 (A9E l a data)),h):=by
 obtain ⟨g,e⟩:=D34 hv.ro hl hd (a:=a);exact C5U e (by simp)
def B27 {v:Val} {nv:Nat} {data:List UInt8} {h:B5} (hv:Has h v 1 nv (B4 data)) (hd:data.length<9223372036854775808) :
  A5Q [v] h=A4 (.a (B4 (A9E (zeros 256) 0 data)),h):=by
 have key:∀ g,Has g v 1 nv (B4 data)->∃ g',C5h 0 [v] g=A4 (.a (B4 (A9E (zeros 256) 0 data)),g'):=by
  intro g hv;rw [D2K];have hz:(B4 (zeros 256)).length=256:=by rw [A9];exact zeros_length
  have hz0:(zeros 256).length=256:=zeros_length;rw [I9];generalize zeros 256=Z at *;have e:=B6n (hv.more [rT (B4 Z)]) hz0 hd (a:=0);have hl2:(B4 (A9E Z 0 data)).length=256:=by rw [A9,D3S hz0]
  have s2:=storeAll (h:=g++[rT (B4 Z)]) (id:=g.length) (cs:=B4 Z) (xs:=B4 (A9E Z 0 data)) (by simp) hz hl2;have s3:=C7 (h:=g++[rT (B4 (A9E Z 0 data))]) (id:=g.length) (cs:=B4 (A9E Z 0 data)) (n:=256) (by simp) hl2;exact ⟨_,by simp only [esc,E6,e,s2,s3];rfl⟩
 obtain ⟨g,e⟩:=key _ hv.ro;exact C8X e (by simp)
section
variable (n m m2:Nat) (a0 a1 a2 x0 x1 x2 x5 x6 x7 x8 x9:Val) (h:B5)
def vV:FD A8:=⟨px 0X11b15cf601985c0346000011b249f19050725e4803185bf180028020580401811d04027a11f1713b0626c4a01b18154130702410425a3e027f4203006053df19050726c3c032b311c20000332b1129531002a201312b602585a000011b22401b1e1901a5581a047581a5c5870584b7587585870101b619101481a484870101b6194905381a2e387015012281a02a6f4203312b6025301c2,[.c (.i .u64 0),.c (.i .u64 256)],[],[.tmp 6,.tmp 7],[]⟩
def C4K:=vV.R
def C2l:AtH:=vV.lj 0 n [m] [x0,x1,x8,x9]
def C5Y:=tT [⟨2,4,C2l⟩]
def C8q:=mR C4K vV C5Y n [a0,a1,a2] h
def B1y:=mL vV C5Y 0 n [m] [x0,x1,x8,x9] h
def B4J:=vV.K Tryz.func89
def A7F:=vV.S
def C3q:F6 C4K A7F:=B4J.flat
def B2C:FD A8:=⟨px 0X12bf600682e2a03405229f128f7011c2801a282c1ff1b004630338138171c0191f05201160118000017224290521e19022d420316015301c2,[],[],[.tmp 6],[E3 A7F B4J]⟩
def B9q:=B2C.R
def D1f:=mR B9q B2C (tT []) n [a0,a1,a2] h
def A1B:=B2C.K Tryz.func90
def oC:=B2C.S
def C5r:F6 B9q oC:=A1B.flat
def nP:FD A8:=⟨px 0X12cf403e2c02400001721bf605002181a03182bf102b01a24a2a031829f5001a13901017113e0692b01823811e1c070215413070240412710132b4203006051111d311c2002314a11b421448130182,[.c (.i .u64 256)],[],[.tmp 4],[]⟩
def B6V:=nP.R
def B30:AtH:=nP.lj 0 n [m] [x0,x1,x5,x6]
def B7I:=tT [⟨2,4,B30⟩]
def C2Z:=mR B6V nP B7I n [a0,a1] h
def A57:=mL nP B7I 0 n [m] [x0,x1,x5,x6] h
def nY:=nP.K Tryz.func123
def dK:=nP.S
def B9T:pY B6V dK:=nY.out
def kY:FD A8:=⟨px 0X15df607f5d02400000004721ff18050021c1e03185cf700613901017113e18a17f590518058f1900401811d04721f17812f171824301e190616f1a06f4b7a6f70476f1a786f7586f7013018190445d1a5e5d73e5d70110424e2c01f18d42011a2bf190040411d2a1728051842155130702406120297141a043b4203006051112953128200003314a11f42164815301c2,[],[],[.tmp 6],[]⟩
def C4L:=kY.R
def C2n:AtH:=kY.lj 0 n [m] [x0,x1,x2,x7,x8]
def C2m:AtH:=kY.lj 1 n [m] [x0,x1,x2,x7,x8,x9]
def B5N:=tT [⟨2,5,C2n⟩,⟨2,6,C2m⟩]
def C8r:=mR C4L kY B5N n [a0,a1,a2] h
def B1z:=mL kY B5N 0 n [m] [x0,x1,x2,x7,x8] h
def C6Q:=mJ kY B5N 1 n [m] [x0,x1,x2,x7,x8,x9] h
def pX:=kY.K Tryz.func58
def lZ:=kY.S
def C5s:pY C4L lZ:=pX.out
def qS:FD A8:=⟨px 0X11b4010228f5050022c1f03180134015a00001722401a321040411d4a1581040411d3a17290180196b4315313070240612029711c1b043d4203006051111b611c20130134011c0000722406320291e102976052d4203340130182,[],[],[.tmp 4],[]⟩
def C1B:=qS.R
def B79:AtH:=qS.lj 0 n [m] [x0,x1,x5]
def C1N:=tT [⟨2,3,B79⟩]
def C4M:=mR C1B qS C1N n [a0,a1] h
def A8W:=mL qS C1N 0 n [m] [x0,x1,x5] h
def lA:=qS.K Tryz.func20
def gO:=qS.S
def B9U:F6 C1B gO:=lA.flat
def vU:FD A8:=⟨px 0X14af606e4a024000002723af18050024a39031849f7001c13901017113e040411d5a171583b018181551307024301c190414d1a584d70474d1a4e4d72e4d701301a19061391a0394b73971a3970110422a1a01f6942030060519f1802819022953128200003314a11f42164815301c2,[],[],[.tmp 6],[]⟩
def C4J:=vU.R
def B1x:AtH:=vU.lj 0 n [m] [x0,x1,x2,x7,x8]
def C5X:=tT [⟨2,5,B1x⟩]
def B3L:=mR C4J vU C5X n [a0,a1,a2] h
def uG:=mL vU C5X 0 n [m] [x0,x1,x2,x7,x8] h
def B4I:=vU.K Tryz.func221
def A7E:=vU.S
def B0J:pY C4J A7E:=B4I.out
end
def A9o {v u:Val} {nv nu:Nat} {l r:List UInt8} {h:B5} (hv:Has h v 1 nv (B4 l)) (hu:Has h u 1 nu (B4 r)) (hlr:l.length=r.length) (hl:l.length<9223372036854775807) {k:Nat}:∀ d i m,i+d=l.length->d<m ->
  B79 k m v u (iV i) h=A4 (bV (decide (l.drop i=r.drop i)),h)
 | d,i,0,_,hm=>by omega
 | 0,i,m+1,hi,hm=>by
  have hnv:l.length=nv:=by simpa [A9] using hv.length
  have e1:l.drop i=[]:=E56 (by omega);have e2:r.drop i=[]:=E56 (by omega);have h1':¬ (i:Int)<l.length:=by omega
  rw [A8W];simp only [esc,hv.len,<-hnv,h1',e1,e2]
 | d+1,i,m+1,hi,hm=>by
  have ih:=A9o hv hu hlr hl (k:=k) d (i+1) m (by omega) (by omega);have hnv:l.length=nv:=by simpa [A9] using hv.length
  have hnu:r.length=nu:=by simpa [A9] using hu.length
  have hlen:=hv.len;obtain ⟨id,off,rfl,hid,h1,h2⟩:=hv.sl (by omega);obtain ⟨bT,off',rfl,E5L,h1',h2'⟩:=hu.sl (by omega);have hx:=h1 i (.i .u8 l[i].toNat) (by rw [Z0,E5P (by omega)];rfl);have hy:=h1' i (.i .u8 r[i].toNat) (by rw [Z0,E5P (by omega)];rfl);have ea:D9 1 (sV id off nv 1) (iV (i:Int))=A4 (pV id (off+i)):=by rw [C9 (by omega)];simp
  have eb:D9 1 (sV bT off' nu 1) (iV (i:Int))=A4 (pV bT (off'+i)):=by rw [C9 (by omega)];simp
  have c1:(i:Int)<nv:=by omega
  rw [A8W,E5X (by omega:i<l.length),E5X (by omega:i<r.length)];by_cases c:l[i]=r[i]
  ·simp only [esc,c1,ea,eb,hx,hy,c,D3 (show i+1<9223372036854775808 by omega),List.cons.injEq,true_and];exact ih
  ·have c':¬ (l[i].toNat:Int)=r[i].toNat:=λe=>c (UInt8.toNat_inj.1 (by omega))
   simp only [esc,c1,ea,eb,hx,hy,c',c,List.cons.injEq,false_and]
def jO {v u:Val} {nv nu:Nat} {l r:List UInt8} {h:B5} (hv:Has h v 1 nv (B4 l)) (hu:Has h u 1 nu (B4 r)) (hl:l.length<9223372036854775807) :
  gO [v,u] h=A4 (bV (decide (l=r)),h):=by
 refine B9U (n:=l.length+1) (h2:=ro h) ?_ (by simp);have hnv:l.length=nv:=by simpa [A9] using hv.length
 have hnu:r.length=nu:=by simpa [A9] using hu.length
 rw [C4M];by_cases c:l.length=r.length
 ·have:=A9o hv.ro hu.ro c hl (k:=l.length+1) l.length 0 (l.length+1) (by omega) (by omega);simp only [E6a] at this;have c':(nv:Int)=nu:=by omega
  simp only [esc,hv.len,hu.len,c'];exact this
 ·have c':¬ (nv:Int)=nu:=by omega
  have c2:¬ l=r:=λe=>c (by rw [e])
  simp only [esc,hv.len,hu.len,c',c2]
def B2o {v:Val} {nv:Nat} {l:List UInt8} {h:B5} (hv:Has h v 1 nv (B4 l)) {a w k:Nat} (hw:w<=8) (haw:a+w<=l.length) (hl:l.length<9223372036854775808):∀ j m,j<=w->j<m ->
  C2l k m v (iV a) (.c (.i .u64 (le ((l.drop (a+j)).take (w-j))))) (iV ((j:Int)-1)) h=A4 (.t [.c (.i .u64 (le ((l.drop a).take w))),.c (.b A5)],h)
 | j,0,_,hm=>by omega
 | 0,m+1,hj,hm=>by
  rw [B1y];have h1':¬ (0:Int)<=((0:Nat):Int)-1:=by omega
  simp only [esc,h1',Nat.sub_zero]
 | j+1,m+1,hj,hm=>by
  have ih:=B2o hv (k:=k) hw haw hl j m (by omega) (by omega);have hnv:l.length=nv:=by simpa [A9] using hv.length
  obtain ⟨id,off,rfl,hid,h1,h2⟩:=hv.sl (by omega);have hx:=h1 (a+j) (.i .u8 l[a+j].toNat) (by rw [Z0,E5P (by omega)];rfl);have hb:=l[a+j].toNat_lt;have ea:D9 1 (sV id off nv 1) (iV ((a+j:Nat):Int))=A4 (pV id (off+(a+j))):=by rw [C9 (by omega)];simp
  have e0:((j+1:Nat):Int)-1=j:=by omega
  have e5:E5U .u64 (l[a+j].toNat:Int)=l[a+j].toNat:=wrap_u64 (by omega) (by omega);have e6:E5U .i64 ((j:Int)-1)=(j:Int)-1:=wrap_i64 (by omega) (by omega);have hlen:((l.drop (a+(j+1))).take (w-(j+1))).length=w-(j+1):=by simp;omega
  have dF:=C2D ((l.drop (a+(j+1))).take (w-(j+1)));rw [hlen] at dF;have hp:256 ^ (w-(j+1))<=256 ^ 7:=xX (by omega);have e7:(l.drop (a+j)).take (w-j)=l[a+j]::(l.drop (a+(j+1))).take (w-(j+1)):=by
   rw [E5X (by omega),show w-j=(w-(j+1))+1 by omega,List.take_succ_cons];rfl
  rw [e7] at ih;have e8:E5U .u64 ((le ((l.drop (a+(j+1))).take (w-(j+1))):Nat)*256)=((le ((l.drop (a+(j+1))).take (w-(j+1)))*256:Nat):Int):=by
   rw [wrap_u64 (by omega) (by omega)];omega
  have e9:E5U .u64 (((le ((l.drop (a+(j+1))).take (w-(j+1)))*256:Nat):Int)+l[a+j].toNat)=((le (l[a+j]::(l.drop (a+(j+1))).take (w-(j+1))):Nat):Int):=by
   simp only [le];rw [wrap_u64 (by omega) (by omega)];omega
  have h1':(0:Int)<=j:=by omega
  rw [B1y,e0];simp only [esc,h1',A2O (show a+j<9223372036854775808 by omega),ea,hx,e5,e8,e9,e6];exact ih
def B80 {v:Val} {nv:Nat} {l:List UInt8} {h:B5} (hv:Has h v 1 nv (B4 l)) {a w:Int} (hl:l.length<9223372036854775808) :
  A7F [v,iV a,iV w] h=A4 (.t [.c (.i .u64 ((C62 l a w).getD 0:Nat)),.c (.b (C62 l a w).isSome)],h):=by
 refine C3q (n:=w.toNat+1) (h2:=ro h) ?_ (by simp);rw [C8q];have hv':=hv.ro;have hnv:l.length=nv:=by simpa [A9] using hv.length
 unfold C62;by_cases c1:w<1
 ·rw [if_neg (by rw [O7];omega)];simp only [esc,c1,E6L,E6i]<;>rfl
 ·by_cases c2:8<w
  ·rw [if_neg (by omega)];simp only [esc,c1,c2,E6L,E6i]<;>rfl
  ·by_cases c3:a<0
   ·rw [if_neg (by rw [O7];omega)];simp only [esc,c1,c2,c3,E6L,E6i]<;>rfl
   ·have e1:E5U .i64 ((nv:Int)-w)=nv-w:=wrap_i64 (by omega) (by omega);by_cases c4:(nv:Int)-w<a
    ·rw [if_neg (by rw [O7];omega)];simp only [esc,c1,c2,c3,c4,hv'.len,e1,E6L,E6i]<;>rfl
    ·rw [if_pos (by rw [O7];omega)];have:=B2o hv' (a:=a.toNat) (w:=w.toNat) (k:=w.toNat+1) (by omega) (by omega) hl w.toNat (w.toNat+1) (by omega) (by omega);simp only [show ((a.toNat:Nat):Int)=a by omega,show ((w.toNat:Nat):Int)=w by omega,E6D,E6U,le] at this;have e2:E5U .i64 (w-1)=w-1:=wrap_i64 (by omega) (by omega);simp only [esc,c1,c2,c3,c4,hv'.len,e1,e2,E6z,E6b];exact this
def A6F {g:B5} {w k:Nat} {v:Int} (hw:w<=8) (hv:0<=v) (hv2:v<18446744073709551616):∀ d i m h id,i+d=w->d<m->Low g.length g h->g.length<=id->rd h id=rT (B4 (C4 i v)) ->
  ∃ v' h',B30 k m (iV w) (.c (.i .u64 (v/256 ^ i))) (sV id 0 i 1) (iV i) h=A4 (v',h')/\Out g.length h' v' 1 w (B4 (C4 w v))
 | d,i,0,h,id,_,hm,_,_,_=>by omega
 | 0,i,m+1,h,id,hi,hm,hlow,hb,hr=>by
  have e:i=w:=by omega
  subst e;have h1':¬ (i:Int)<i:=by omega
  rw [A57];exact ⟨_,_,by simp only [esc,h1']<;>rfl,by simp [A9],id,rfl,hb,hr⟩
 | d+1,i,m+1,h,id,hi,hm,hlow,hb,hr=>by
  have hq:0<=v/256 ^ i:=Int.ediv_nonneg hv (Int.pow_nonneg (by omega));have e1:N4 .rem (.c (.i .u64 (v/256 ^ i))) (.c (.i .u64 256))=A4 (.c (.i .u64 (v/256 ^ i%256))):=by
   rw [D2T (by omega),Int.tmod_eq_emod_of_nonneg hq]
  have e2:E5U .u8 (v/256 ^ i%256)=((byI v i).toNat:Int):=by rw [sE,A1h];omega
  have e3:N4 .quo (.c (.i .u64 (v/256 ^ i))) (.c (.i .u64 256))=A4 (.c (.i .u64 (v/256 ^ (i+1)))):=by
   have h0:v/256 ^ i/256=v/256 ^ (i+1):=by rw [Int.ediv_ediv_of_nonneg (Int.pow_nonneg (by omega)),Int.pow_succ]
   rw [D2S (by omega),Int.tdiv_eq_ediv_of_nonneg hq,h0];have h1:0<=v/256 ^ (i+1):=Int.ediv_nonneg hv (Int.pow_nonneg (by omega));have h2:v/256 ^ (i+1)<=v:=Int.ediv_le_self _ hv;exact congrArg A4 (congrArg Val.c (congrArg (Cell.i .u64) (wrap_u64 h1 (by omega))))
  obtain ⟨h',a1,a2,a3,a4,a5⟩:=push (ys:=[.i .u8 (byI v i).toNat]) (sz:=1) (n:=i) hlow hr (by simp [A9]) hb rfl (by omega) (by omega);have e4:B4 (C4 i v)++[Cell.i .u8 (byI v i).toNat]=B4 (C4 (i+1) v):=by rw [A3Q,N1];rfl
  rw [e4] at a2;obtain ⟨v',h'',b1,b2⟩:=A6F (k:=k) hw hv hv2 d (i+1) m h' (h.length+1) (by omega) (by omega) a3 a4 a2;have h1':(i:Int)<w:=by omega
  have e5:E6 [Cell.i .u8 0] [(0,1,.c (.i .u8 (byI v i).toNat))]=A4 [.i .u8 (byI v i).toNat]:=rfl;rw [A57];exact ⟨v',h'',by simp only [esc,h1',e1,e2,e5,a1,e3,D3 (show i+1<9223372036854775808 by omega)];exact b1,b2⟩
def A2F {w:Nat} {v:Int} {h:B5} (hw:w<=8) (hv:0<=v) (hv2:v<18446744073709551616) :
  dK [iV w,.c (.i .u64 v)] h=A4 (sV h.length 0 w 1,h++[rT (B4 (C4 w v))]):=by
 obtain ⟨v',h',e,ho⟩:=A6F (g:=ro h) (k:=w+1) hw hv hv2 w 0 (w+1) (ro h++[rT [],rT []]) ((ro h).length+1) (by omega) (by omega) ((Low.refl (E5V _)).new _) (by simp) (by simp [C4];rfl);refine B9T (n:=w+1) (v:=v') (h2:=h') ?_ (by simpa [F7] using ho) (by simp);rw [C2Z];simp only [Int.pow_zero,Int.ediv_one] at e;simp only [esc];exact e
def A9F (l:List UInt8) (a:Int) (data:List UInt8):List UInt8:=if 0<=a then l.take a.toNat++((data.take (l.length-a.toNat))++l.drop (a.toNat+data.length)) else l
def B15 {l data:List UInt8} {a:Int}:(A9F l a data).length=l.length:=by
 unfold A9F;split
 ·simp;omega
 ·rfl
def D9o {l data:List UInt8} {a:Int} {i:Nat} (hi:i<l.length):(A9F l a data)[i]?=if 0<=a/\a<=i/\i-a<data.length then data[i-a.toNat]? else l[i]? := by
 unfold A9F;by_cases c1:0<=a
 ·rw [if_pos c1];by_cases c2:a<=i
  ·rw [E57 (by simp;omega)];have e1:(l.take a.toNat).length=a.toNat:=by simp;omega
   rw [e1];by_cases c3:i-a<data.length
   ·rw [if_pos ⟨c1,c2,c3⟩,E6t (by simp;omega),E6s (by omega)]
   ·rw [if_neg (by omega),E57 (by simp;omega),E6J]
    congr 1
    simp;omega
  ·rw [if_neg (by omega),E6t (by simp;omega),E6s (by omega)]
 ·rw [if_neg c1,if_neg (by omega)]
def B2p {g:B5} {v u:Val} {nv nu:Nat} {l data:List UInt8} (hv:Has g v 1 nv (B4 l)) (hu:Has g u 1 nu (B4 data)) {a:Int} (ha:a<9223372036854775808) {k:Nat} (hl:l.length<=1073741824):∀ d i m h id,i+d=l.length->d<m->Low g.length g h->g.length<=id->rd h id=rT (B4 ((A9F l a data).take i)) ->
  ∃ v' h',C2n k m v (iV a) u (sV id 0 i 1) (iV i) h=A4 (v',h')/\Out g.length h' v' 1 l.length (B4 (A9F l a data))
 | d,i,0,h,id,_,hm,_,_,_=>by omega
 | 0,i,m+1,h,id,hi,hm,hlow,hb,hr=>by
  have hnv:l.length=nv:=by simpa [A9] using hv.length
  have e:i=nv:=by omega
  subst e;have h1':¬ (i:Int)<i:=by omega
  rw [E53 (by rw [B15];omega)] at hr;rw [B1z];exact ⟨_,_,by simp only [esc,(hv.since hlow).len,h1']<;>rfl,by simp [A9,B15],id,by rw [hnv],hb,hr⟩
 | d+1,i,m+1,h,id,hi,hm,hlow,hb,hr=>by
  have hnv:l.length=nv:=by simpa [A9] using hv.length
  have hnu:data.length=nu:=by simpa [A9] using hu.length
  have hvl:=(hv.since hlow).len;have hul:=(hu.since hlow).len;obtain ⟨idv,offv,rfl,-,hv1,-⟩:=(hv.since hlow).sl (by omega);have hx:=hv1 i (.i .u8 l[i].toNat) (by rw [Z0,E5P (by omega)];rfl);have ea:D9 1 (sV idv offv nv 1) (iV (i:Int))=A4 (pV idv (offv+i)):=by rw [C9 (by omega)];simp
  have c1:(i:Int)<nv:=by omega
  have step:∀ x:UInt8,(A9F l a data)[i]?=A4 x->∃ v' h',C2m k m (sV idv offv nv 1) (iV a) u (sV id 0 i 1) (iV i) (.c (.i .u8 x.toNat)) h=A4 (v',h')/\Out g.length h' v' 1 l.length (B4 (A9F l a data)):=by
   intro x hx;obtain ⟨h',a1,a2,a3,a4,a5⟩:=push (ys:=[.i .u8 x.toNat]) (sz:=1) (n:=i) hlow hr (by rw [A9,E6l,B15];omega) hb rfl (by omega) (by omega);have e4:B4 ((A9F l a data).take i)++[Cell.i .u8 x.toNat]=B4 ((A9F l a data).take (i+1)):=by
    rw [List.take_add_one,hx,N1];rfl
   rw [e4] at a2;obtain ⟨v',h'',b1,b2⟩:=B2p (k:=k) hv hu ha hl d (i+1) m h' (h.length+1) (by omega) (by omega) a3 a4 a2;have e5:E6 [Cell.i .u8 0] [(0,1,.c (.i .u8 x.toNat))]=A4 [.i .u8 x.toNat]:=rfl;rw [C6Q];exact ⟨v',h'',by simp only [esc,e5,a1,D3 (show i+1<9223372036854775808 by omega)];exact b1,b2⟩
  have hg:=D9o (l:=l) (data:=data) (a:=a) (i:=i) (by omega);have hli:l[i]?=A4 l[i]:=E5P (by omega);rw [B1z];by_cases c2:0<=a
  ·by_cases c3:a<=i
   ·have e6:E5U .i64 ((i:Int)-a)=((i-a.toNat:Nat):Int):=by rw [wrap_i64 (by omega) (by omega)];omega
    by_cases c4:i-a.toNat<data.length
    ·rw [if_pos (by omega),E5P c4] at hg;obtain ⟨idu,offu,rfl,-,hu1,-⟩:=(hu.since hlow).sl (by omega);have hy:=hu1 (i-a.toNat) (.i .u8 (data[i-a.toNat]'(by omega)).toNat) (by rw [Z0,E5P c4];rfl);have eb:D9 1 (sV idu offu nu 1) (iV ((i-a.toNat:Nat):Int))=A4 (pV idu (offu+(i-a.toNat))):=by rw [C9 (by omega)];simp
     have c4':((i-a.toNat:Nat):Int)<nu:=by omega
     simp only [esc,hvl,c1,ea,hx,c2,c3,e6,hul,c4',eb,hy];exact step _ hg
    ·rw [if_neg (by omega),hli] at hg;have c4':¬ ((i-a.toNat:Nat):Int)<nu:=by omega
     simp only [esc,hvl,c1,ea,hx,c2,c3,e6,hul,c4'];exact step _ hg
   ·rw [if_neg (by omega),hli] at hg;simp only [esc,hvl,c1,ea,hx,c2,c3];exact step _ hg
  ·rw [if_neg (by omega),hli] at hg;simp only [esc,hvl,c1,ea,hx,c2];exact step _ hg
def oS {v u:Val} {nv nu:Nat} {l data:List UInt8} {h:B5} (hv:Has h v 1 nv (B4 l)) (hu:Has h u 1 nu (B4 data)) {a:Int} (ha:a<9223372036854775808) (hl:l.length<=1073741824) :
  lZ [v,iV a,u] h=A4 (sV h.length 0 l.length 1,h++[rT (B4 (A9F l a data))]):=by
 obtain ⟨v',h',e,ho⟩:=B2p (k:=l.length+1) hv.ro hu.ro ha hl l.length 0 (l.length+1) (ro h++[rT [],rT []]) ((ro h).length+1) (by omega) (by omega) ((Low.refl (E5V _)).new _) (by simp) (by simp;rfl);refine C5s (n:=l.length+1) (v:=v') (h2:=h') ?_ (by simpa [F7] using ho) (by simp);rw [C8r];simp only [esc];exact e
def A1H {l xs:List UInt8} {a:Nat} (h:a+xs.length<=l.length):A9F l a xs=J7 l a xs:=by
 unfold A9F J7;rw [if_pos (by omega)];simp only [E6c];rw [E53 (l:=xs) (by omega)]
def atG (l:List UInt8) (a w:Int):Nat:=if w<=4/\uS a w l.length=A5 then le ((l.drop a.toNat).take w.toNat) else 0
def E0G {l:List UInt8} {a w:Int} (hl:l.length=256):atG l a w=atN l a w:=by
 unfold atG atN;rw [hl];rfl
def D0W {v:Val} {nv:Nat} {l:List UInt8} {h:B5} (hv:Has h v 1 nv (B4 l)) {a w:Int} (hl:l.length<9223372036854775808) :
  oC [v,iV a,iV w] h=A4 (iV (atG l a w),h):=by
 have key:∀ g,Has g v 1 nv (B4 l)->B9q 0 [v,iV a,iV w] g=A4 (iV (atG l a w),g):=by
  intro g hv;rw [D1f];unfold atG;by_cases c1:4<w
  ·rw [if_neg (by omega)];simp only [esc,c1]<;>rfl
  ·have e:=B80 hv (a:=a) (w:=w) hl;unfold C62 at e;by_cases c2:uS a w l.length=A5
   ·have c3:=O7.1 c2;rw [if_pos ⟨by omega,c2⟩] at e;rw [if_pos ⟨by omega,c2⟩];have dF:=C2D ((l.drop a.toNat).take w.toNat);have hlen:((l.drop a.toNat).take w.toNat).length=w.toNat:=by simp;omega
    rw [hlen] at dF;have hp:256 ^ w.toNat<=256 ^ 4:=xX (by omega);simp only [E6z,E6b] at e;have e2:E5U .i64 ((le ((l.drop a.toNat).take w.toNat):Nat):Int)=le ((l.drop a.toNat).take w.toNat):=wrap_i64 (by omega) (by omega);simp only [esc,c1,e,e2]
   ·rw [if_neg (λh=>c2 h.2)] at e;rw [if_neg (λh=>c2 h.2)];simp only [E6L,E6i] at e;simp only [esc,c1,e]<;>rfl
 exact C5r (key _ hv.ro) (by simp)
def sC {v:Val} {nv:Nat} {l:List UInt8} {h:B5} (hv:Has h v 1 nv (B4 l)) {a w:Int} (hl:l.length=256) :
  oC [v,iV a,iV w] h=A4 (iV (atN l a w),h):=by
 rw [D0W hv (by omega),E0G hl]
def D8w {v:Int} {i:Nat} (hi:i<8):byI (E5U .u64 v) i=byI v i:=by
 have hw:E5U .u64 v=v%18446744073709551616:=by
  simp only [E5U,IntKind.bits,IntKind.signed,E51];rfl
 apply UInt8.toNat_inj.1;have h1:((byI (E5U .u64 v) i).toNat:Int)=(v%18446744073709551616)/256 ^ i%256:=by rw [A1h,hw]
 have h2:=A1h v i;have h3:(v%18446744073709551616)/256 ^ i%256=v/256 ^ i%256:=by
  have:i=0\/i=1\/i=2\/i=3\/i=4\/i=5\/i=6\/i=7:=by omega
  rcases this with rfl | rfl | rfl | rfl | rfl | rfl | rfl | rfl<;>simp only [Int.reducePow]<;>omega
 omega
def D3h {v:Int} {w:Nat} (hw:w<=8):C4 w (E5U .u64 v)=C4 w v:=by
 unfold C4;refine List.map_congr_left λi hi=>D8w ?_
 have:=List.mem_range.1 hi;omega
def B2n {g:B5} {v:Val} {nv:Nat} {l:List UInt8} (hv:Has g v 1 nv (B4 l)) {a n:Int} (h0:0<=a) (h1:a<9223372036854775808) {k:Nat} (hl:l.length<=1073741824):∀ d i m h id,i+d=(cV l a n).length->d<m->Low g.length g h->g.length<=id->rd h id=rT (B4 ((cV l a n).take i)) ->
  ∃ v' h',B1x k m v (iV a) (iV n) (sV id 0 i 1) (iV (a+i)) h=A4 (v',h')/\Out g.length h' v' 1 (cV l a n).length (B4 (cV l a n))
 | d,i,0,h,id,_,hm,_,_,_=>by omega
 | 0,i,m+1,h,id,hi,hm,hlow,hb,hr=>by
  have hnv:l.length=nv:=by simpa [A9] using hv.length
  have e:i=(cV l a n).length:=by omega
  rw [E53 (by omega)] at hr;have hc:(cV l a n).length=min n.toNat (l.length-a.toNat):=by unfold cV;rw [if_pos h0];simp
  rw [uG];subst e;by_cases c1:a+((cV l a n).length:Int)<nv
  ·have c2:¬ ((cV l a n).length:Int)<n:=by omega
   have e1:E5U .i64 (a+((cV l a n).length:Int)-a)=(cV l a n).length:=by rw [wrap_i64 (by omega) (by omega)];omega
   exact ⟨_,_,by simp only [esc,(hv.since hlow).len,h0,c1,e1,c2]<;>rfl,by simp [A9],id,rfl,hb,hr⟩
  ·exact ⟨_,_,by simp only [esc,(hv.since hlow).len,h0,c1]<;>rfl,by simp [A9],id,rfl,hb,hr⟩
 | d+1,i,m+1,h,id,hi,hm,hlow,hb,hr=>by
  have hnv:l.length=nv:=by simpa [A9] using hv.length
  have hc:(cV l a n).length=min n.toNat (l.length-a.toNat):=by unfold cV;rw [if_pos h0];simp
  have hvl:=(hv.since hlow).len;obtain ⟨idv,offv,rfl,-,hv1,-⟩:=(hv.since hlow).sl (by omega);have hx:=hv1 (a.toNat+i) (.i .u8 (l[a.toNat+i]'(by omega)).toNat) (by rw [Z0,E5P (by omega)];rfl);have e0:(a+(i:Int))=((a.toNat+i:Nat):Int):=by omega
  have ea:D9 1 (sV idv offv nv 1) (iV ((a.toNat+i:Nat):Int))=A4 (pV idv (offv+(a.toNat+i))):=by rw [C9 (by omega)];simp
  have c1:((a.toNat+i:Nat):Int)<nv:=by omega
  have e1:E5U .i64 (((a.toNat+i:Nat):Int)-a)=i:=by rw [wrap_i64 (by omega) (by omega)];omega
  have c2:(i:Int)<n:=by omega
  obtain ⟨h',a1,a2,a3,a4,a5⟩:=push (ys:=[.i .u8 (l[a.toNat+i]'(by omega)).toNat]) (sz:=1) (n:=i) hlow hr (by rw [A9,E6l];omega) hb rfl (by omega) (by omega);have e4:B4 ((cV l a n).take i)++[Cell.i .u8 (l[a.toNat+i]'(by omega)).toNat]=B4 ((cV l a n).take (i+1)):=by
   have:(cV l a n)[i]?=A4 (l[a.toNat+i]'(by omega)):=by
    unfold cV;rw [if_pos h0,E6s (by omega),E6J,E5P (by omega)]
   rw [List.take_add_one,this,N1];rfl
  rw [e4] at a2;obtain ⟨v',h'',b1,b2⟩:=B2n (k:=k) hv h0 h1 hl d (i+1) m h' (h.length+1) (by omega) (by omega) a3 a4 a2;have e6:a+((i+1:Nat):Int)=((a.toNat+i+1:Nat):Int):=by omega
  rw [e6] at b1;have e5:E6 [Cell.i .u8 0] [(0,1,.c (.i .u8 (l[a.toNat+i]'(by omega)).toNat))]=A4 [.i .u8 (l[a.toNat+i]'(by omega)).toNat]:=rfl;rw [uG,e0];exact ⟨v',h'',by simp only [esc,hvl,h0,c1,e1,c2,ea,hx,e5,a1,D3 (show a.toNat+i+1<9223372036854775808 by omega)];exact b1,b2⟩
def A8u {v:Val} {nv:Nat} {l:List UInt8} {h:B5} (hv:Has h v 1 nv (B4 l)) {a n:Int} (h1:a<9223372036854775808) (hl:l.length<=1073741824) :
  A7E [v,iV a,iV n] h=A4 (sV h.length 0 (cV l a n).length 1,h++[rT (B4 (cV l a n))]):=by
 by_cases h0:0<=a
 ·obtain ⟨v',h',e,ho⟩:=B2n (k:=(cV l a n).length+1) (n:=n) hv.ro h0 h1 hl (cV l a n).length 0 ((cV l a n).length+1) (ro h++[rT [],rT []]) ((ro h).length+1) (by omega) (by omega) ((Low.refl (E5V _)).new _) (by simp) (by simp;rfl);refine B0J (n:=(cV l a n).length+1) (v:=v') (h2:=h') ?_ (by simpa [F7] using ho) (by simp);rw [B3L];simp only [esc];simpa using e
 ·have e:cV l a n=[]:=by unfold cV;rw [if_neg h0]
  rw [e];refine B0J (n:=1) (v:=sV ((ro h).length+1) 0 0 1) (h2:=ro h++[rT [],rT []]) ?_ ⟨by simp [A9],_,rfl,by rw [F7];omega,by simp;rfl⟩ (by simp);rw [B3L];have:∀ n:Nat,∀ x h,B1x n 1 v (iV a) x (sV ((ro h).length+1) 0 0 1) (iV a) h=A4 (sV ((ro h).length+1) 0 0 1,h):=by
   intro n x h;rw [uG n 0];simp only [esc,h0]
  simp only [esc];have e2:=uG 1 0 v (iV a) (iV n) (sV ((ro h).length+1) 0 0 1) (iV a) (ro h++[rT [],rT []]);rw [e2];simp only [esc,h0]
def B8K {v:Val} {nv:Nat} {l:List UInt8} {h:B5} (hv:Has h v 1 nv (B4 l)) {a w k:Nat} (hw:w<=8) (haw:a+w<=l.length) (hl:l.length<9223372036854775808):∀ d i m,i+d=w->d<m ->
  C7A k m v (iV a) (.c (.i .u64 (le ((l.drop a).take i)))) (iV w) (iV i) h=A4 (.t [.c (.i .u64 (le ((l.drop a).take w))),.c (.b A5)],h)
 | d,i,0,_,hm=>by omega
 | 0,i,m+1,hi,hm=>by
  have e:i=w:=by omega
  subst e;rw [B4w];simp
 | d+1,i,m+1,hi,hm=>by
  have ih:=B8K hv (k:=k) hw haw hl d (i+1) m (by omega) (by omega);have hnv:l.length=nv:=by simpa [A9] using hv.length
  obtain ⟨id,off,rfl,hid,h1,h2⟩:=hv.sl (by omega);have hx:=h1 (a+i) (.i .u8 l[a+i].toNat) (by rw [Z0,E5P (by omega)];rfl);have hb:=l[a+i].toNat_lt;have hlen:((l.drop a).take i).length=i:=by simp;omega
  have dF:=C2D ((l.drop a).take i);rw [hlen] at dF;have hp:=xX (show i<=8 by omega);have hbp:=C17 (x:=l[a+i]) (show i<8 by omega);have e2:E5U .i64 (8*(i:Int))=8*i:=wrap_i64 (by omega) (by omega);have e3:E5U .u64 (8*(i:Int))=8*i:=wrap_u64 (by omega) (by omega);have e5:E5U .u64 (l[a+i].toNat:Int)=l[a+i].toNat:=wrap_u64 (by omega) (by omega);have e6:=D4t (k:=.u64) (x:=l[a+i]) (show i<8 by omega) (wrap_u64 (by omega) (by omega)) rfl;have e7:N4 .or (.c (.i .u64 (le ((l.drop a).take i):Nat))) (.c (.i .u64 ((l[a+i].toNat*256 ^ i:Nat):Int)))=A4 (.c (.i .u64 (le ((l.drop a).take (i+1)):Nat))):=by
   rw [E3c (by omega) (by omega),A5y (by omega),<-D6v,hlen]
  have ea:D9 1 (sV id off nv 1) (iV ((a+i:Nat):Int))=A4 (pV id (off+(a+i))):=by rw [C9 (by omega)];simp
  have h1':(i:Int)<w:=by omega
  rw [B4w];simp only [esc,h1',A2O (show a+i<9223372036854775808 by omega),e2,e3,ea,hx,e5,e6,e7,D3 (show i+1<9223372036854775808 by omega)];exact ih
def D5p {v:Val} {nv:Nat} {l:List UInt8} {h:B5} (hv:Has h v 1 nv (B4 l)) {a w:Int} (hl:l.length<9223372036854775808) :
  C0p [v,iV a,iV w] h=A4 (.t [.c (.i .u64 ((C62 l a w).getD 0:Nat)),.c (.b (C62 l a w).isSome)],h):=by
 refine C5T (n:=w.toNat+1) (h2:=ro h) ?_ (by simp);rw [D1r];have hv':=hv.ro;have hnv:l.length=nv:=by simpa [A9] using hv.length
 unfold C62;by_cases c1:8<w
 ·have c1':¬ w<=8:=by omega
  simp [c1,c1']
 ·have c1':w<=8:=by omega
  cases c2:uS a w l.length with
  | false=>simp [c1,hv'.len,<-hnv,A0m (show (l.length:Int)<9223372036854775808 by omega),c2]
  | true =>
   simp [c1,c1',hv'.len,<-hnv,A0m (show (l.length:Int)<9223372036854775808 by omega),c2];rw [O7] at c2;have:=B8K hv' (a:=a.toNat) (w:=w.toNat) (k:=w.toNat+1) (by omega) (by omega) hl w.toNat 0 (w.toNat+1) (by omega) (by omega);simp only [show ((a.toNat:Nat):Int)=a by omega,show ((w.toNat:Nat):Int)=w by omega] at this;simpa [le] using this
def B8M {l:List UInt8} {b id a w k:Nat} {v:Int} (hw:w<=8) (haw:a+w<=l.length) (hl:l.length<9223372036854775808):∀ d i m (h:B5),i+d=w->d<m->b<=id->b<=h.length->rd h id=rT (B4 (J7 l a (C4 i v))) ->
  ∃ h',C7D k m (iV a) (.c (.i .u64 v)) (sV id 0 l.length 1) (iV w) (iV i) h=A4 (.t [.c (.sl id 0 l.length 1),.c (.b A5)],h')/\rd h' id=rT (B4 (J7 l a (C4 w v)))
 | d,i,0,h,_,hm,_,_,_=>by omega
 | 0,i,m+1,h,hi,hm,_,_,hr=>by
  have e:i=w:=by omega
  subst e;have h1':¬ (i:Int)<i:=by omega
  rw [B4x];exact ⟨h,by simp only [esc,h1'],hr⟩
 | d+1,i,m+1,h,hi,hm,hb,hbl,hr=>by
  have e2:E5U .i64 (8*(i:Int))=8*i:=wrap_i64 (by omega) (by omega);have e3:E5U .u64 (8*(i:Int))=8*i:=wrap_u64 (by omega) (by omega);have e4:N4 .shr (.c (.i .u64 v)) (.c (.i .u64 (8*(i:Int))))=A4 (.c (.i .u64 (v/2 ^ (Nat.min (8*(i:Int)).toNat 64)))):=C6a (by omega);have ea:D9 1 (sV id 0 l.length 1) (iV ((a+i:Nat):Int))=A4 (pV id (a+i)):=by rw [C9 (by omega)];simp
  have hst:=G8 (off:=a+i) (x:=.i .u8 (byI v i).toNat) hr (by rw [A9,P9 (by simp;omega)];omega);have e5:(J7 l a (C4 i v)).set (a+i) (byI v i)=J7 l a (C4 (i+1) v):=by
   rw [A3Q];have:=B21 (l:=l) (xs:=C4 i v) (a:=a) (x:=byI v i) (by simp;omega);simpa using this
  rw [iY,e5] at hst;obtain ⟨h',ih,hr'⟩:=B8M (b:=b) (k:=k) (v:=v) hw haw hl d (i+1) m (h.set id (rT (B4 (J7 l a (C4 (i+1) v))))) (by omega) (by omega) hb (by simpa using hbl) (C6 (C8 hr));have h1':(i:Int)<w:=by omega
  rw [B4x];exact ⟨h',by simp only [esc,h1',A2O (show a+i<9223372036854775808 by omega),e2,e3,e4,D0g (v:=v) (show i<8 by omega),ea,hst,D3 (show i+1<9223372036854775808 by omega)];exact ih,hr'⟩
def C37 (l:List UInt8) (a w v:Int):Option (List UInt8):=if w<=8/\uS a w l.length=A5 then A4 (J7 l a.toNat (C4 w.toNat v)) else A7
def D5q {x:Val} {nv:Nat} {l:List UInt8} {h:B5} (hv:Has h x 1 nv (B4 l)) {a w v:Int} (hl:l.length<=1073741824) :
  C0q [x,iV a,iV w,.c (.i .u64 v)] h=A4 (.t [.c (.sl h.length 0 ((C37 l a w v).getD []).length 1),.c (.b (C37 l a w v).isSome)],h++[rT (B4 ((C37 l a w v).getD []))]):=by
 have hnv:l.length=nv:=by simpa [A9] using hv.length
 have key:∀ g,Has g x 1 nv (B4 l)->∃ id g',B9L (w.toNat+1) [x,iV a,iV w,.c (.i .u64 v)] g=A4 (.t [.c (.sl id 0 ((C37 l a w v).getD []).length 1),.c (.b (C37 l a w v).isSome)],g')/\g.length<=id/\rd g' id=rT (B4 ((C37 l a w v).getD [])):=by
  intro g hv;rw [D1t];have hvm:=hv.more [rT []];unfold C37;by_cases c1:8<w
  ·rw [if_neg (by omega)];exact ⟨_,_,by simp only [esc,c1];rfl,by simp,by simp;rfl⟩
  ·cases c2:uS a w l.length with
   | false =>
    rw [if_neg (by simp)];exact ⟨_,_,by simp only [esc,c1,hvm.len,<-hnv,A0m (show (l.length:Int)<9223372036854775808 by omega),c2];rfl,by simp,by simp;rfl⟩
   | true =>
    rw [if_pos ⟨by omega,rfl⟩];have c3:=O7.1 c2;have hvm2:=hv.more [rT [],rT []];have e1:kV (g++[rT [],rT []]) 1 (sV (g.length+1) 0 0 1) x=A4 (sV (g.length+2) 0 l.length 1,g++[rT [],A7,rT (B4 l)]):=by
     simp [kV,hvm2.add,A9];exact hl
    obtain ⟨g',e2,hr⟩:=B8M (l:=l) (b:=g.length) (id:=g.length+2) (a:=a.toNat) (w:=w.toNat) (k:=w.toNat+1) (v:=v) (by omega) (by omega) (by omega) w.toNat 0 (w.toNat+1) (g++[rT [],A7,rT (B4 l)]) (by omega) (by omega) (by omega) (by simp) (by simp [C4,B8A]);simp only [show ((a.toNat:Nat):Int)=a by omega,show ((w.toNat:Nat):Int)=w by omega] at e2;have hlen:((A4 (J7 l a.toNat (C4 w.toNat v))).getD []).length=l.length:=by
     simp only [E6z];rw [P9 (by simp;omega)]
    rw [hlen];exact ⟨g.length+2,g',by simp only [esc,c1,hvm.len,<-hnv,A0m (show (l.length:Int)<9223372036854775808 by omega),c2,E6,e1];exact e2,by omega,hr⟩
 obtain ⟨id,g',e,hb,hr⟩:=key _ hv.ro;have hb':h.length<=id:=by simpa [F7] using hb
 have:=C5V e (v2:=.t [.c (.sl h.length 0 ((C37 l a w v).getD []).length 1),.c (.b (C37 l a w v).isSome)]) (ids:=[id]) (by
  simp [Y8,iK,S8,hb',show ¬ id<h.length by omega,A1K hr (by simp:O5 (B4 ((C37 l a w v).getD []))=A5)])
 rw [this];simp [hr]
def P7 (n:Nat) (l:List UInt8):List UInt8:=l++zeros (n-l.length)
def I6 {n:Nat} {l:List UInt8} (h:l.length<=n):(P7 n l).length=n:=by
 unfold P7;rw [E5T,zeros_length];omega
def B8R {n:Nat}:P7 n []=zeros n:=by simp [P7]
def B2i {l xs:List UInt8} {a:Nat} (h1:l.length<=a) (h2:a+xs.length<=256):J7 (P7 256 l) a xs=P7 256 (l++zeros (a-l.length)++xs):=by
 unfold J7 P7;have e1:(l++zeros (256-l.length)).take a=l++zeros (a-l.length):=by
  rw [List.take_append,E53 h1];unfold zeros;rw [List.take_replicate,E6R (by omega)]
 have e2:(l++zeros (256-l.length)).drop (a+xs.length)=zeros (256-(l++zeros (a-l.length)++xs).length):=by
  rw [List.drop_append,E56 (by omega),E59];unfold zeros;rw [List.drop_replicate]
  congr 1
  simp;omega
 rw [e1,e2];simp only [E5Y]
def jP {l:List UInt8} {a w:Nat} {v:Int} (h1:l.length<=a) (h2:a+w<=256) (hw:1<=w) (hw4:w<=4):jG (P7 256 l) a w v=P7 256 (l++zeros (a-l.length)++C4 w v):=by
 unfold jG;rw [if_pos ⟨by omega,O7.2 (by omega)⟩];simp only [E6c];exact B2i h1 (by simp;exact h2)
def fieldN (b:List UInt8) (a w:Nat):Int:=((le ((b.drop a).take w):Nat):Int)
def C7F {b:List UInt8} (hb:b.length<=256):A9E (zeros 256) 0 b=P7 256 b:=by
 unfold A9E J7 P7;rw [if_pos (by omega)];simp only [Int.toNat_zero,E6U,E59,Nat.sub_zero,E6e];rw [E53 hb];unfold zeros;rw [List.drop_replicate]
def D4Q {b:List UInt8} {a w:Nat} (h1:a+w<=b.length) (h2:b.length<=256) (hw:1<=w) (hw4:w<=4):((atN (P7 256 b) a w:Nat):Int)=fieldN b a w:=by
 unfold atN fieldN P7;rw [if_pos ⟨by omega,O7.2 (by omega)⟩];simp only [E6c];rw [List.drop_append_of_le_length (by omega),List.take_append_of_le_length (by simp;omega)]
section
variable (n m m2:Nat) (a0 a1 x0 x1 x7 x8:Val) (h:B5)
def wF:FD A8:=⟨px 0X12bf4072b0218000002722af18052c02a4921829f003b06201a1f21380382812e171b018181af504121842150307024413401212b42006051105b1a603291f61c21132b40130182,[.c (.i .u32 0),.c (.i .u32 16777619)],[.idxS (.t 12) (.t 13),.conv .u32 (.t 14)],[.tmp 4],[]⟩
def C5d:=wF.R
def C2G:AtH:=wF.lj 0 n [m] [x0,x1,x7,x8]
def C57:=tT [⟨2,4,C2G⟩]
def C8L:=mR C5d wF C57 n [a0,a1] h
def B2d:=mL wF C57 0 n [m] [x0,x1,x7,x8] h
def C4D:=wF.K Tryz.func202
def B5I:=wF.S
def C3Q:F6 C5d B5I:=C4D.flat
def B6B:FD A8:=⟨px 0X14f2003b20361300522b201042,[.c (.i .u32 0),.c (.i .u32 2166136261)],[],[.tmp 2],[E3 B5I C4D]⟩
def D2G:=B6B.R
def D2H:=mR D2G B6B (tT []) n [a0] h
def C4E:=B6B.K Tryz.func149
def B7y:=B6B.S
def D2L:SOk A8 149 B7y:=C4E.sok
def C8U:F6 D2G B7y:=C4E.flat
def B2J:FD A8:=⟨px 0X12bf4006801a1e22b07202b1b20583a171d01802011cf4006871b0318000072241af180289042281903296101d2114012000072247f5050121a6031b420503140130182,[.c (.i .u32 1)],[],[.tmp 4],[]⟩
def B9H:=B2J.R
def D1p:=mR B9H B2J (tT []) n [a0,a1] h
def C9R:=B2J.K Tryz.func201
def C0l:=B2J.S
def C5Q:F6 B9H C0l:=C9R.flat
end
section
variable (n m m2:Nat) (a0 a1 x0 x1 x5 x6:Val) (h:B5)
def qT:FD A8:=⟨px 0X13cf4073c02200001721cf5050021c1b03183bf005b01824b06204024c106723b01827172c019182bf6001a1f20580382e13c13b018271d01818421531307024061205b1e147042d4203006051111b61821132b40130182,[.c (.i .u64 0),.c (.i .u64 256),.c (.i .u64 16777619),.c (.i .u64 4294967296)],[.idxS (.t 15) (.t 16)],[.tmp 4],[]⟩
def C1C:=qT.R
def B8a:AtH:=qT.lj 0 n [m] [x0,x1,x5]
def C1O:=tT [⟨2,3,B8a⟩]
def C4O:=mR C1C qT C1O n [a0,a1] h
def A8X:=mL qT C1O 0 n [m] [x0,x1,x5] h
def C1h:=qT.K Tryz.func208
def B0K:=qT.S
def B9V:F6 C1C B0K:=C1h.flat
def B2D:FD A8:=⟨px 0X14f2003b20361300522b201042,[.c (.i .u64 0),.c (.i .u64 2166136261)],[],[.tmp 2],[E3 B0K C1h]⟩
def C9U:=B2D.R
def D1g:=mR C9U B2D (tT []) n [a0] h
def B9f:=B2D.K Tryz.func162
def B2N:=B2D.S
def D1u:SOk A8 162 B2N:=B9f.sok
def C5t:F6 C9U B2N:=B9f.flat
def vW:FD A8:=⟨px 0X12df40068041823c172a05400001721ff605002281e031829f503b0622e280318154130702430619289012d1a1a2d70104121e10173b4203006051111d31821132b111b42140130182,[.c (.i .u64 1),.c (.i .u64 2)],[],[.tmp 4],[]⟩
def C4N:=vW.R
def C2o:AtH:=vW.lj 0 n [m] [x0,x1,x5,x6]
def C5Z:=tT [⟨2,4,C2o⟩]
def C8s:=mR C4N vW C5Z n [a0,a1] h
def B1A:=mL vW C5Z 0 n [m] [x0,x1,x5,x6] h
def C4q:=vW.K Tryz.func225
def B5g:=vW.S
def C3r:F6 C4N B5g:=C4q.flat
end
end Go.Proofs.YtbnkgnfhgbhblaaGreat
