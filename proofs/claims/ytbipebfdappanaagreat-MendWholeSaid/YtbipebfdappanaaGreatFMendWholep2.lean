/- What the proof of this claim leans on, part 2. -/
import Derived.Test.YtbipebfdappanaaGreatFMendWholep1
set_option linter.all false
set_option maxRecDepth 100000
open Go Go.Esc
noncomputable section
open List renaming length->l_,all_cons->E9p,all_eq_true->E8O,append_assoc->E8t,append_nil->E8C,drop_drop->E9D,drop_eq_getElem_cons->E8s,drop_left'->E9C,drop_of_length_le->E8x,drop_zero->E8y,filter_append->E9x,flatten_cons->E9v,getD_eq_getElem?_getD->E8k,getElem?_append_left->E88,getElem?_append_right->E8L,getElem?_eq_getElem->E8h,getElem?_eq_none->E8P,getElem?_eq_some_iff->E8p,getElem?_take_of_lt->E86,length_append->E8o,length_cons->E8w,length_filter_le->E9f,length_replicate->E8S,length_set->E80,map_cons->E9c,mem_append_left->E8W,mem_cons->E8J,mem_cons_of_mem->E8q,mem_filter->E8Z,mem_map->E8N,mem_of_getElem?->E8H,nil_append->E8I,prefix_refl->E9j,range->E8T,range'->E8Q,replicate->E8l,replicate_succ->E81,set_append_right->E9a,set_cons_zero->E9A,take_of_length_le->E8B,take_succ_eq_append_getElem->E8R,take_zero->E9i
open Bool renaming and_eq_true->E8j,false_and->E8E,not_eq_true'->E9b,false->A6,true->A5
open Int renaming cast_ofNat_Int->E9B,toNat_natCast->E8D
open IntKind renaming wrap->E8r
open Nat renaming add_mul->E9E,le_refl->E8m,le_trans->E83,sub_self->E9t,zero_add->E8A
open Option renaming bind_eq_some_iff->E8i,bind_some->E8z,isSome_some->E87,map_eq_some_iff->E8G,map_some->E85,none->A7,some->A4
open Option.some renaming injEq->E8n
open Prod.mk renaming injEq->E8v
open Go.Proofs.Tryz renaming prog->A8
namespace Go.Esc
section
variable {P:Program} {R:Type}
def A5l{h:A9}{n0:Nat}{slot:Option Nat}{r:Row}:h.length<=(gF h n0 slot r).2.length:=by
 cases slot<;>simp [gF]
def D7N{E:K7}(hE:jK P E){q:Bool}{hr:A9}{n0:Nat}{slot:Option Nat}{o:AOp}{e:Env}{h h':A9}{v:Val}
  (D7:aop E q hr n0 slot o e h (λv h=>A4 (v,h))=A4 (v,h')):h.length<=h'.length:=by
 cases o<;>simp only [aop] at D7
 case store1 a x =>
  simp only [E8i,E8n,E8v] at D7;obtain ⟨h2,hp,_,rfl⟩:=D7;unfold I8 at hp;split at hp
  ·simp only [E8i] at hp;obtain ⟨r,_,hp⟩:=hp;split at hp<;>cases hp
   simp
  ·cases hp
 case storeN n a x =>
  simp only [E8i,E8n,E8v] at D7;obtain ⟨h2,hp,_,rfl⟩:=D7;unfold F7 at hp;split at hp
  ·simp only [E8i] at hp;obtain ⟨r,_,hp⟩:=hp;split at hp<;>cases hp
   simp
  ·cases hp
 case app sz a x =>
  simp only [E8i,E8n] at D7;obtain ⟨⟨v',h2⟩,hp,hpe⟩:=D7;cases hpe;simp only [uR,E8i] at hp;obtain ⟨ys,_,hp⟩:=hp;split at hp
  ·split at hp<;>cases hp
   simp
  ·simp only [E8i] at hp;obtain ⟨r,_,hp⟩:=hp;split at hp<;>cases hp
   simp
  ·cases hp
 case copy sz a x =>
  simp only [E8i,E8n] at D7;obtain ⟨⟨v',h2⟩,hp,hpe⟩:=D7;cases hpe;simp only [C6J] at hp;split at hp
  ·cases hp
  simp only [E8i] at hp;obtain ⟨ys,_,hp⟩:=hp;split at hp
  ·simp only [E8i] at hp;obtain ⟨r,_,hp⟩:=hp;split at hp<;>cases hp
   simp
  ·cases hp
 case appZ sz zero x y =>
  simp only [E8i,E8n] at D7;obtain ⟨⟨v',h2⟩,hp,hpe⟩:=D7;cases hpe;unfold C6F at hp;simp only [E8i] at hp;obtain ⟨n,_,hp⟩:=hp;split at hp
  ·cases hp;simp
  ·simp only [E8i] at hp;obtain ⟨r,_,hp⟩:=hp;split at hp<;>cases hp
   simp
  ·cases hp
 case call f args =>
  simp only [E8i,E8n] at D7;obtain ⟨⟨v',h2⟩,hp,hpe⟩:=D7;cases hpe;have hE1:E f (args.map e.ev) h=A4 (v',h2):=by
   cases q with
   | false=>simpa using hp
   | true =>
    simp only [cond_true,quiet,E8i] at hp;obtain ⟨p',g1,g2⟩:=hp;split at g2
    ·cases g2;exact g1
    ·cases g2
  exact (hE _ _ _ _ _ hE1).2.2
 case callV f args =>
  simp only [E8i,E8n] at D7;obtain ⟨⟨v',h2⟩,hp,hpe⟩:=D7;cases hpe;have hE0:aQ E (e.ev f) (args.map e.ev) h=A4 (v',h2):=by
   cases q with
   | false=>simpa using hp
   | true =>
    simp only [cond_true,quiet,E8i] at hp;obtain ⟨p',g1,g2⟩:=hp;split at g2
    ·cases g2;exact g1
    ·cases g2
  unfold aQ at hE0;split at hE0
  ·exact (hE _ _ _ _ _ hE0).2.2
  ·exact (hE _ _ _ _ _ hE0).2.2
  ·cases hE0
 case mv=>cases D7;exact E8m _
 case nilrow=>cases D7;exact A5l
 case alloc=>cases D7;exact A5l
 case mkMap=>cases D7;exact A5l
 case mput =>
  simp only [E8i,E8n,E8v] at D7;obtain ⟨w,hp,_,rfl⟩:=D7;unfold A3k at hp;split at hp
  ·simp only [E8i] at hp;obtain ⟨_,_,_,_,_,_,_,_,hp⟩:=hp;split at hp
   ·cases hp;simp
   ·cases hp
  ·cases hp
 case mset =>
  simp only [E8i,E8n,E8v] at D7;obtain ⟨w,hp,_,rfl⟩:=D7;unfold D3C at hp;split at hp
  ·simp only [E8i] at hp;obtain ⟨_,_,_,_,_,_,hp⟩:=hp;split at hp
   ·simp only [E8i,E8n] at hp;obtain ⟨_,_,rfl⟩:=hp;simp
   ·cases hp
  ·cases hp
 case ment =>
  simp only [E8i,E8n] at D7;obtain ⟨w,hp,hpe⟩:=D7;cases hpe;unfold D3B at hp;split at hp
  ·simp only [E8i] at hp;obtain ⟨_,_,_,_,_,_,hp⟩:=hp;split at hp
   ·simp only [E8n] at hp;split at hp
    ·cases hp;exact E8m _
    ·cases hp;simp
   ·cases hp
  ·cases hp
 case box =>
  simp only [E8i,E8n,E8v] at D7;obtain ⟨_,_,_,rfl⟩:=D7;exact A5l
 case buildSl =>
  simp only [E8i,E8n,E8v] at D7;obtain ⟨_,_,_,rfl⟩:=D7;exact A5l
 case s2b =>
  simp only [E8i,E8n,E8v] at D7;obtain ⟨_,_,_,rfl⟩:=D7;exact A5l
 case mkSl =>
  simp only [E8i,E8n,E8v] at D7;obtain ⟨_,_,_,rfl⟩:=D7;exact A5l
 all_goals
  simp only [E8i,E8n,E8v] at D7;obtain ⟨_,_,_,rfl⟩:=D7;exact E8m _
def D0y{E:K7}(hE:jK P E){q:Bool}{hr:A9}{n0:Nat}{o:AOper}{e:Env}{h h':A9}{v:Val}
  (D7:aK E q hr n0 o e h (λv h=>A4 (v,h))=A4 (v,h')):h.length<=h'.length:=by
 unfold aK at D7;split at D7
 ·exact D7N hE D7
 ·simp only [E8i,E8n] at D7;obtain ⟨⟨v',h2⟩,hp,hpe⟩:=D7;cases hpe;unfold gd at hp;split at hp
  ·rename_i x _;cases hx:(x==_) with
   | true=>rw [hx] at hp;exact D7N hE hp
   | false=>rw [hx] at hp;cases hp;exact E8m _
  ·cases hp;exact E8m _
  ·cases hp
def put_defers(a:Act)(d:Option Nat)(V:Value):(a.put d V).defers=a.defers:=by cases d<;>rfl
def C5C{N L:Nat}{ops:Array Oper}{E:K7}(hE:jK P E):∀ (l:List Nat) (aos:List AOper) (e:Env) (h:A9) (k:Env->A9->Option R) (r:R),
  All2 (λi ao=>∃ o,ops[i]?=A4 o/\cA P N ops o ao=A5/\ao.slot=A7) l aos->B4b E aos e h k=A4 r->L<=h.length ->
  ∃ e' h',k e' h'=A4 r/\L<=h'.length/\B5K P N L (λQ=>wpOps P ops Q l) e h .normal e' h'
 | [],[],e,h,k,r,_,D7,hL=>⟨e,h,D7,hL,fun J U a w hs hi hN hd Q hq=>hq U a w (Mu.le_refl _) (λ_ _=>rfl) hs hi hN hd⟩
 | i::l,ao::aos,e,h,k,r,⟨⟨o,ho,hc,D4z⟩,D4x⟩,D7,hL=>by
  rw [D0z] at D7;obtain ⟨v,h1,hk,C0t⟩:=E0R hE hc D7;have hl1:=D0y hE C0t;obtain ⟨e',h',hk',hL',nJ⟩:=C5C hE l aos (e.put ao.dst v) h1 k r D4x hk (E83 hL hl1);refine ⟨e',h',hk',hL',fun J U a w hs hi hN hd Q hq=>?_⟩;show wpOps P ops Q (i::l) a w;rw [wpOps_cons];unfold wpOp;rw [ho];have A39:o.dst=ao.dst/\A2X N o.dst=A5:=by
   simp only [cA,E8j,decide_eq_true_eq] at hc;exact ⟨hc.1.1.1,hc.1.1.2⟩
  have W4:∀ t,o.dst=A4 t->t<a.tmps.size:=by
   intro t ht;have:=A39.2;rw [ht] at this;simp [A2X] at this;exact Nat.lt_of_lt_of_le this hN
  refine A9i (hr:=h) (n0:=0) hE hc C0t hs hi (λ_ _ h=>h) (by rw [D4z];trivial) ?_;intro V w' U' mI hv hi' Z0;rw [D4z] at Z0;refine nJ J U' (a.put o.dst V) w' ?_ hi' (by rw [Act.size_put];exact hN) (by rw [put_defers];exact hd) Q ?_
  ·rw [<-A39.1];exact (hs.mono mI).put W4 hv
  ·intro μ2 a2 w2 h2 h3 h4 h5 h6 h7;exact hq μ2 a2 w2 (Mu.le_trans mI h2) (λid hid=>by rw [h3 id hid];exact Z0 id (by omega) (λ_ h=>by cases h)) h4 h5 h6 h7
 | [],_::_,_,_,_,_,h,_,_=>h.elim
 | _::_,[],_,_,_,_,h,_,_=>h.elim
end
def C38{o:Oper}{p:Nat}:p∈bG o↔∃ e∈o.after,Region.binds .any e=A5/\e.on=p:=by
 unfold bG;simp only [E8N,E8Z,Array.mem_toList_iff];constructor
 ·rintro ⟨e,⟨h1,h2⟩,rfl⟩;exact ⟨e,h1,h2,rfl⟩
 ·rintro ⟨e,h1,h2,rfl⟩;exact ⟨e,⟨h1,h2⟩,rfl⟩
def rE{ops:Array Oper}{listed:Array Bool}{i:Nat}:i∈Region.ready .any ops listed↔∃ o,ops[i]?=A4 o/\listed.getD i A5=A6/\∀ p∈bG o,listed.getD p A6=A5:=by
 unfold Region.ready;simp only [E8Z,List.mem_range,E8j,E9b];constructor
 ·rintro ⟨h1,h2,h3⟩;have ho:ops[i]?=A4 ops[i]:=by simp [h1]
  refine ⟨ops[i],ho,h2,λp hp=>?_⟩;rw [ho] at h3;simp only [E85,Option.getD_some,Array.all_eq_true_iff_forall_mem] at h3;obtain ⟨e,he,hb,rfl⟩:=C38.1 hp;have:=h3 e he;rw [hb] at this;simpa using this
 ·rintro ⟨o,ho,h2,h3⟩;refine ⟨(Array.getElem?_eq_some_iff.1 ho).1,h2,?_⟩;rw [ho];simp only [E85,Option.getD_some,Array.all_eq_true_iff_forall_mem];intro e he;cases hb:Region.binds .any e with
  | false=>rfl
  | true=>simpa using h3 e.on (C38.2 ⟨e,he,hb,rfl⟩)
def T4{listed:Array Bool}{i:Nat}(hi:i<listed.size):(λk=>(listed.setIfInBounds i A5).getD k A6)=sZ (λk=>listed.getD k A6) i:=by
 funext k
 unfold sZ;by_cases h:k=i
 ·subst h;simp [Array.getD,hi]
 ·simp [Array.getElem?_setIfInBounds_ne (Ne.symm h),h]
def getD_both{listed:Array Bool}{i:Nat}(hi:i<listed.size):listed.getD i A5=listed.getD i A6:=by simp [Array.getD,hi]
def B1R{ops:Array Oper}{listed:Array Bool}(W4:∀ (i:Nat) (o:Oper),ops[i]?=A4 o->∀ p∈bG o,p<i)(hs:listed.size=ops.size):∀ (i:Nat),i<ops.size->listed.getD i A6=A6->Region.ready .any ops listed≠[]:=by
 intro i
 induction i using Nat.strongRecOn with
 | _ i ih =>
  intro hi hu;have ho:ops[i]?=A4 ops[i]:=by simp [hi]
  by_cases h:∀ p∈bG ops[i],listed.getD p A6=A5
  ·have:i∈Region.ready .any ops listed:=rE.2 ⟨_,ho,by rw [getD_both (by omega)];exact hu,h⟩;intro e;rw [e] at this;cases this
  ·have:∃ p,p∈bG ops[i]/\listed.getD p A6=A6:=by
    false_or_by_contra
    rename_i hn;exact h λp hp=>by
     cases hv:listed.getD p A6 with
     | true=>rfl
     | false=>exact absurd ⟨p,hp,hv⟩ hn
   obtain ⟨p,hp,hv⟩:=this;have hpi:=W4 i _ ho p hp;exact ih p hpi (by omega) hv
def left(n:Nat)(listed:Array Bool):Nat:=((E8T n).filter λi=>!listed.getD i A6).length
def C0M{n:Nat}{listed:Array Bool}{i:Nat}(hi:i<n)(hs:listed.size=n)(hu:listed.getD i A6=A6):left n (listed.setIfInBounds i A5)+1<=left n listed:=by
 unfold left;have e:(E8T n).filter (λk=>!(listed.setIfInBounds i A5).getD k A6)=((E8T n).filter λk=>!listed.getD k A6).filter (λk=>decide (k≠i)):=by
  rw [List.filter_filter];apply List.filter_congr;intro k hk;have:=congrFun (T4 (listed:=listed) (i:=i) (by omega)) k
  try simp only at this
  rw [this];unfold sZ;by_cases h:k=i<;>simp [h]
 rw [e];have hm:i∈(E8T n).filter λk=>!listed.getD k A6:=by
  rw [E8Z];exact ⟨by simpa using hi,by rw [hu];rfl⟩
 have:=List.length_filter_lt_length_iff_exists (l:=(E8T n).filter λk=>!listed.getD k A6) (p:=λk=>decide (k≠i));have h2:=this.2 ⟨i,hm,by simp⟩;omega
section
variable {P:Program} {ops:Array Oper} {Q:Exit->Act->World->Prop}
def A5m(W4:∀ (i:Nat) (o:Oper),ops[i]?=A4 o->∀ p∈bG o,p<i){A:Nat}(E4O:∀ i,A<=i->i<ops.size->∀ j,j<i->((S6 ops).getD i 0).testBit j=A5) :
  ∀ (k i fuel:Nat) (listed:Array Bool) (a:Act) (w:World),i+k=ops.size->A<=i->listed.size=ops.size->(∀ j,j<ops.size->listed.getD j A6=decide (j<i))->k<=fuel ->
   wpOps P ops Q (E8Q i k) a w->wpAny P .any ops Q fuel listed a w
 | 0,i,fuel,listed,a,w,hik,hA,hs,hl,hf,h=>by
  have hr:Region.ready .any ops listed=[]:=by
   apply List.eq_nil_iff_forall_not_mem.2;intro x hx;obtain ⟨o,ho,h2,_⟩:=rE.1 hx;have W4:=(Array.getElem?_eq_some_iff.1 ho).1;rw [getD_both (by omega),hl x W4] at h2;simp at h2;omega
  cases fuel with
  | zero=>exact ⟨hr,h⟩
  | succ f=>exact ⟨λ_=>h,λx hx=>by rw [hr] at hx;cases hx⟩
 | k+1,i,fuel,listed,a,w,hik,hA,hs,hl,hf,h=>by
  obtain ⟨f,rfl⟩:∃ f,fuel=f+1:=⟨fuel-1,by omega⟩;refine ⟨λhe=>absurd he (B1R W4 hs i (by omega) (by rw [hl i (by omega)];simp)),λx hx=>?_⟩;obtain ⟨o,ho,h2,h3⟩:=rE.1 hx;have hxn:=(Array.getElem?_eq_some_iff.1 ho).1;rw [getD_both (by omega),hl x hxn] at h2;simp at h2;have hxi:x=i:=by
   by_cases e:x=i
   ·exact e
   ·have hd:=A02 (done:=λj=>listed.getD j A6) W4 (λj oj hj hdj p hp=>by
     have hjn:=(Array.getElem?_eq_some_iff.1 hj).1
     try simp only at hdj
     rw [hl j hjn] at hdj;have:=W4 j oj hj p hp;show listed.getD p A6=A5;rw [hl p (by omega)];simp at hdj ⊢;omega) x o ho h3 i (E4O x (by omega) hxn i (by omega))
    try simp only at hd
    rw [hl i (by omega)] at hd;simp at hd
  subst hxi;rw [List.range'_succ,wpOps_cons] at h;refine wpOp_mono (λa' w' h'=>?_) h;refine A5m W4 E4O k (x+1) f _ a' w' (by omega) (by omega) (by simpa using hs) (λj hj=>?_) (by omega) h';have:=congrFun (T4 (listed:=listed) (i:=x) (by omega)) j
  try simp only at this
  rw [this];unfold sZ;show (decide (j=x)||listed.getD j A6)=_;rw [hl j hj];by_cases e:j=x
  ·subst e;simp
  ·simp only [e,decide_false,Bool.false_or];have:(j<x)↔(j<x+1):=by omega
   simp only [this]
end
def Inv.pad{J:Ctx}{U:Mu}{h:A9}{w:World}(hi:Inv J U h w)(m:Nat):Inv J U (h++E8l m A7) w:=by
 have A0a:∀ id x,rd (h++E8l m A7) id=A4 x->rd h id=A4 x:=by
  intro id x hx;by_cases hl:id<h.length
  ·rwa [D5 hl] at hx
  ·unfold rd at hx;rw [E8L (by omega),List.getElem?_replicate] at hx;split at hx<;>cases hx
 exact ⟨λid x hx=>hi.rows id x (A0a id x hx),λi j x y z z' hx hy=>hi.sep i j x y z z' (A0a _ _ hx) (A0a _ _ hy),λi x y hx=>hi.own i x y (A0a _ _ hx),λid hid=>hi.dom id (by simp at hid;omega),hi.ctx⟩
def E3I{P:Program}{N L:Nat}{ops:Array Oper}{m id:Nat}{l r:List AOper}{E:K7}(hE:jK P E){e:Env}{h:A9}{R:Type}{k:Env->A9->Option R}{res:R}
  (hc:A34 P N ops m l r=A5) (hc2:C0d ops l.length r.length=A5) (hL:L<=h.length)
  (D7:B7a E h h.length l e (h++E8l m A7) (λe h=>B4b E r e h k)=A4 res) :
  ∃ e' h',k e' h'=A4 res/\L<=h'.length/\B5K P N L ((Code.region id ops A5).wp P) e h .normal e' h':=by
 have D:=B1m hc;have last:=C64 hc2 D.size;obtain ⟨es,hs,vs,he,h0,ht,hk⟩:=C80 l _ _ D7;have D6N:All2 (λi ao=>∃ o,ops[i]?=A4 o/\cA P N ops o ao=A5/\ao.slot=A7) (E8Q l.length r.length) r:=by
  refine All2.of_get (by simp) λi x ao hx hao=>?_
  have hi:i<r.length:=(E8p.1 hao).1;rw [List.getElem?_range' hi] at hx;simp at hx;subst hx;have W4:l.length+i<ops.size:=by rw [D.size];omega
  refine ⟨ops[l.length+i],by simp [W4],?_,D.rslot ao (E8H hao)⟩;refine D.oper (l.length+i) _ ao (by simp [W4]) ?_;rw [E8L (by omega)];simpa using hao
 have hbl:=oO D ht h0 (k:=l.length) (E8m _);obtain ⟨e',h',hk',hL',nJ⟩:=C5C (L:=L) hE _ r (es l.length) (hs l.length) k res D6N hk (by omega);refine ⟨e',h',hk',hL',fun J μ0 a w hs0 hi hN hd Q hq=>wp_region_any D.follows ?_⟩;have whole:∀ (listed:Array Bool) (a:Act) (w:World) (q:Nat) (U:Mu),Sim J l h.length N e es hs vs μ0 (λi=>listed.getD i A6) q U a w->(∀ j,j<l.length->listed.getD j A6=A5)->wpOps P ops Q (E8Q l.length r.length) a w:=by
  intro listed a w q U S kR;have C9O:SEnv U (es l.length) a:=by
   intro t;by_cases hw:∃ (j:Nat) (aj:AOper),l[j]?=A4 aj/\aj.dst=A4 t
   ·obtain ⟨j,aj,sN,hdj⟩:=hw;have hjl:=(E8p.1 sN).1;rw [vU D ht sN hdj l.length hjl (E8m _)];exact S.envD j aj t sN (kR j hjl) hdj
   ·have Y8:∀ (j:Nat) (aj:AOper),l[j]?=A4 aj->aj.dst≠A4 t:=λj aj sN hdj=>hw ⟨j,aj,sN,hdj⟩
    rw [A2n ht he l.length (E8m _) λj aj _ sN=>Y8 j aj sN];exact S.envO t λj aj sN _=>Y8 j aj sN
  have hlen:(hs l.length).length=(hs q).length:=by
   have hql:=S.qle;have:=A2z D ht (q:=q) (l.length-q) (by omega) λk ak h1 h2 uX=>by
    cases hck:aU ak.op with
    | false=>rfl
    | true =>
     have:=(S.calls k ak uX hck).1 (kR k (by omega));omega
   rwa [show q+(l.length-q)=l.length by omega] at this
  have D04:HD (hs l.length) (und l h.length λi=>listed.getD i A6) (hs q).length=hs l.length:=by
   refine A2t (by rw [K1,hlen]) λid hid=>?_
   rw [K1] at hid;have hu:und l h.length (λi=>listed.getD i A6) id=A6:=by
    cases hu:und l h.length (λi=>listed.getD i A6) id with
    | false=>rfl
    | true =>
     obtain ⟨k,hk,ao,j,uX,_⟩:=bI.1 hu;have:=kR k (E8p.1 uX).1;rw [this] at hk;cases hk
   rw [A0B,if_pos ⟨hid,hu⟩]
  have hinv:=S.inv;rw [D04] at hinv;exact nJ J U a w C9O hinv S.size S.defers Q fun U' a' w' g1 g2 g3 g4 g5 g6=>hq U' a' w' (Mu.le_trans S.le g1) (λid hid=>(g2 id hid).trans (S.keep id (by omega))) g3 g4 g5 g6
 have main:∀ (fuel:Nat) (listed:Array Bool) (a:Act) (w:World) (q:Nat) (U:Mu),listed.size=ops.size->left ops.size listed<=fuel ->
   (∀ j,l.length<=j->j<ops.size->listed.getD j A6=A6)->(∀ (i:Nat) (o:Oper),ops[i]?=A4 o->listed.getD i A6=A5->∀ p∈bG o,listed.getD p A6=A5) ->
   Sim J l h.length N e es hs vs μ0 (λi=>listed.getD i A6) q U a w->wpAny P .any ops Q fuel listed a w:=by
  intro fuel
  induction fuel with
  | zero =>
   intro listed a w q U hsz B7p fV fW S;have kR:∀ j,j<ops.size->listed.getD j A6=A5:=by
    intro j hj;cases hv:listed.getD j A6 with
    | true=>rfl
    | false =>
     have hm:j∈(E8T ops.size).filter λi=>!listed.getD i A6:=by rw [E8Z];exact ⟨by simpa using hj,by rw [hv];rfl⟩
     have:=List.length_pos_of_mem hm;unfold left at B7p;omega
   have hr0:r.length=0:=by
    cases hr:r.length with
    | zero=>rfl
    | succ x =>
     have h1:=kR l.length (by rw [D.size];omega);have h2:=fV l.length (E8m _) (by rw [D.size];omega);rw [h1] at h2;cases h2
   refine A5m D.dir last 0 l.length 0 listed a w (by rw [D.size];omega) (E8m _) hsz (λj hj=>?_) (E8m _) ?_
   ·rw [kR j hj];have:j<l.length:=by rw [D.size] at hj;omega
    simp [this]
   ·have:=whole listed a w q U S λj hj=>kR j (by rw [D.size];omega)
    rw [hr0] at this;exact this
  | succ fuel ih =>
   intro listed a w q U hsz B7p fV fW S;by_cases kR:∀ j,j<l.length->listed.getD j A6=A5
   ·refine A5m D.dir last r.length l.length (fuel+1) listed a w D.size.symm (E8m _) hsz (λj hj=>?_) ?_ (whole listed a w q U S kR)
    ·by_cases hjl:j<l.length
     ·rw [kR j hjl];simp [hjl]
     ·rw [fV j (by omega) hj];simp [hjl]
    ·refine E83 ?_ B7p;unfold left;have:((E8T ops.size).filter λi=>!listed.getD i A6)=E8Q l.length r.length:=by
      rw [D.size,List.range_add,E9x];have e1:(E8T l.length).filter (λi=>!listed.getD i A6)=[]:=by
       rw [List.filter_eq_nil_iff];intro j hj;rw [kR j (by simpa using hj)];simp
      rw [e1,E8I,List.range'_eq_map_range,List.filter_eq_self.2];intro j hj;obtain ⟨x,hx,rfl⟩:=E8N.1 hj;rw [fV _ (by omega) (by rw [D.size];simp at hx;omega)];rfl
     rw [this];simp
   ·have hex:∃ j,j<l.length/\listed.getD j A6=A6:=by
     false_or_by_contra
     rename_i hn;exact kR λj hj=>by
      cases hv:listed.getD j A6 with
      | true=>rfl
      | false=>exact absurd ⟨j,hj,hv⟩ hn
    obtain ⟨j,hj,hv⟩:=hex;refine ⟨λhre=>absurd hre (B1R D.dir hsz j (by rw [D.size];omega) hv),λi hi=>?_⟩;obtain ⟨o,ho,h2,h3⟩:=rE.1 hi;have hin:=(Array.getElem?_eq_some_iff.1 ho).1;rw [getD_both (by omega)] at h2;have hah:=A02 (done:=λi=>listed.getD i A6) D.dir fW i o ho h3;have K6:i<l.length:=by
     by_cases e1:i<l.length
     ·exact e1
     ·have:=hah j (last i (by omega) hin j (by omega))
      try simp only at this
      rw [hv] at this;cases this
    have pE:∀ k,listed.getD k A6=A5->∀ b,((S6 ops).getD k 0).testBit b=A5->listed.getD b A6=A5:=by
     intro k hk b hb;by_cases hkn:k<ops.size
     ·have tI:ops[k]?=A4 ops[k]:=by simp [hkn]
      exact A02 (done:=λi=>listed.getD i A6) D.dir fW k _ tI (fW k _ tI hk) b hb
     ·have:listed.getD k A6=A6:=by simp [Array.getD,show ¬ k<listed.size by omega]
      rw [this] at hk;cases hk
    have pG:=D5E D hE ht h0 he S (i:=i) (ao:=l[i]) (o:=o) (E8h K6) ho h2 hah pE
     (next:=wpAny P .any ops Q fuel (listed.setIfInBounds i A5)) (Q:=Q) (by
      intro V w' U' q' S';rw [<-T4 (by omega)] at S';refine ih (listed.setIfInBounds i A5) _ w' q' U' (by simpa using hsz) (by have:=C0M hin hsz h2;omega) ?_ ?_ S'
      ·intro k hk hkn;have:=congrFun (T4 (listed:=listed) (i:=i) (by omega)) k
       try simp only at this
       rw [this,bD _ _ (by omega)];exact fV k hk hkn
      ·intro k ok tI hdk p hp;have e1:=congrFun (T4 (listed:=listed) (i:=i) (by omega)) k;have e2:=congrFun (T4 (listed:=listed) (i:=i) (by omega)) p
       try simp only at e1 e2
       rw [e1] at hdk;rw [e2];have B7o:listed.getD p A6=A5:=by
        by_cases e3:k=i
        ·subst e3;rw [ho] at tI;cases tI;exact h3 p hp
        ·rw [bD _ _ e3] at hdk;exact fW k ok tI hdk p hp
       unfold sZ;show (decide (p=i)||listed.getD p A6)=A5;rw [B7o];simp)
    unfold wpOp;rw [ho];exact pG
 have hgd:∀ i:Nat,(Array.replicate ops.size A6).getD i A6=A6:=by intro i;simp [Array.getD]
 have E5y:(λi=>(Array.replicate ops.size A6).getD i A6)=λ_=>A6:=funext hgd
 refine main ops.size (Array.replicate ops.size A6) a _ 0 μ0 (by simp) ?_ (λj _ _=>hgd j) (λi o _ hd=>by rw [hgd] at hd;cases hd) ?_
 ·unfold left;exact E83 (E9f _ _) (by simp)
 ·rw [E5y];have E5C:HD (hs l.length) (und l h.length λ_=>A6) (hs 0).length=h++E8l m A7:=by
   rw [h0];refine A2t (by rw [K1]) λid hid=>?_
   rw [K1] at hid;rw [A0B];by_cases ho:∃ i,A51 l h.length i id
   ·obtain ⟨i,ho⟩:=ho;have hu:und l h.length (λ_=>A6) id=A5:=bI.2 ⟨i,rfl,ho⟩;rw [hu];have:=A98 D ht h0 ho 0 (Nat.zero_le _);rw [h0] at this;rw [this];simp
   ·have Y8:∀ i,0<=i->¬ A51 l h.length i id:=λi _ hi=>ho ⟨i,hi⟩
    have hu:und l h.length (λ_=>A6) id=A6:=by
     cases hu:und l h.length (λ_=>A6) id with
     | false=>rfl
     | true=>obtain ⟨i,_,hi⟩:=bI.1 hu;exact absurd ⟨i,hi⟩ ho
    rw [if_pos ⟨hid,hu⟩];have:=tL D ht (k:=0) (id:=id) (by rw [h0];exact hid) Y8 l.length (by omega);rw [E8A,h0] at this;exact this
  refine ⟨Nat.zero_le _,λi ao _ _=>⟨λh=>(by cases h),λh=>(by omega)⟩,λi ao d _ h=>(by cases h),λt _=>hs0 t,?_,λid hid=>?_,Mu.le_refl _,λ_ _=>rfl,hN,hd⟩
  ·rw [E5C];exact (hi.pad m).world rfl rfl rfl λ_ _=>rfl
  ·obtain ⟨i,_,ao,j,_,_,rfl⟩:=bI.1 hid;exact hi.dom _ (by omega)
def C5Q:AOp->Bool
 | .mv _ | .pick .. | .bin .. | .eqA .. | .eqB .. | .eqN .. | .nilc _ | .un .. | .conv .. | .convS _ | .fAddr .. | .iAddrA .. | .iAddrL .. | .fld1 .. | .fldN .. | .idxA1 .. | .idxAN .. | .idxS .. | .ext .. | .len _ | .lenS _ | .max .. | .min ..=>A5
 | _=>A6
def E3q{E:K7}{q:Bool}{hr:A9}{n0:Nat}{slot:Option Nat}{o:AOp}{e:Env}{h h':A9}{v:Val}(hp:C5Q o=A5)
  (D7:aop E q hr n0 slot o e h (λv h=>A4 (v,h))=A4 (v,h')):∀ (q2:Bool) (hr2:A9) (n2:Nat) (slot2:Option Nat) (h2:A9),aop E q2 hr2 n2 slot2 o e h2 (λv h=>A4 (v,h))=A4 (v,h2):=by
 intro q2 hr2 n2 slot2 h2;cases o<;>simp [C5Q] at hp<;>simp only [aop] at D7 ⊢
 case mv=>cases D7;rfl
 all_goals
  simp only [E8i,E8n,E8v] at D7;obtain ⟨_,h1,rfl,rfl⟩:=D7;rw [h1];rfl
def D2x:AOp->Bool
 | .load1 _ | .loadN ..=>A5
 | _=>A6
def E0O{E:K7}{q:Bool}{n0:Nat}{slot:Option Nat}{o:AOp}{e:Env}{h:A9}{v:Val}(hp:D2x o=A5)(hr:B1N h o e=A4 v):aop E q h n0 slot o e h (λv h=>A4 (v,h))=A4 (v,h):=by
 cases o<;>simp [D2x] at hp<;>simp only [B1N] at hr<;>simp only [aop,hr]<;>rfl
def D7h{o:AOp}{e e':Env}{h:A9}(he:∀ x∈o.opds,e.ev x=e'.ev x):B1N h o e=B1N h o e':=by
 cases o<;>simp only [AOp.opds] at he<;>simp only [B1N]
 ·rw [he _ (by simp)]
 ·rw [he _ (by simp)]
def C8G:AOp->AOp->Bool
 | .load1 (.t a),.load1 (.t b)=>decide (a=b)
 | .loadN n (.t a),.loadN m (.t b)=>decide (n=m)&&decide (a=b)
 | _,_=>A6
def D5y{o p:AOp}(h:C8G o p=A5):o=p/\D2x p=A5:=by
 unfold C8G at h;split at h
 ·have:=of_decide_eq_true h;subst this;exact ⟨rfl,rfl⟩
 ·rw [E8j] at h;have h1:=of_decide_eq_true h.1;have h2:=of_decide_eq_true h.2;subst h1 h2;exact ⟨rfl,rfl⟩
 ·cases h
def C62(s:AOper)(chk:List (Nat × AOp))(o:AOper):Bool :=
 decide (o.guard=A7)&&decide (o.slot=A7) && !aU o.op && !aC o.op &&
 (match o.dst with
  | some d=>!(s.reads.contains d)&&(C5Q o.op||chk.any λc=>decide (c.1=d)&&C8G c.2 o.op)
  | none=>A6) &&
 (match s.dst with | some d=>!(o.reads.contains d) | none=>A5)
def D8V(ops:Array Oper)(l:List AOper)(s:AOper)(chk:List (Nat × AOp))(r:List AOper):Bool :=
 let cl:=S6 ops
 l.zipIdx.all (λp=>(cl.getD l.length 0).testBit p.2||C62 s chk p.1) &&
 l.all (λo=>match s.dst with | some d=>decide (o.dst≠A4 d) | none=>A5) &&
 l.zipIdx.all (λp=>l.zipIdx.all λq=>match q.1.dst with | some d=>!(p.1.reads.contains d)||((cl.getD p.2 0).testBit q.2&&decide (q.2<p.2)) | none=>A5) &&
 C0d ops (l.length+1) r.length
def E0v(ops:Array Oper)(l:List AOper):Prop:=∀ (i j:Nat) ai aj d,l[i]?=A4 ai->l[j]?=A4 aj->aj.dst=A4 d->d∈ai.reads->((S6 ops).getD i 0).testBit j=A5/\j<i
structure Float1(s:AOper)(chk:List (Nat × AOp))(o:AOper):Prop where
 guard:o.guard=A7
 slot:o.slot=A7
 call:aU o.op=A6
 aC:aC o.op=A6
 dst:∃ d,o.dst=A4 d/\d ∉ s.reads/\(C5Q o.op=A5\/(D2x o.op=A5/\(d,o.op)∈chk))
 reads:∀ d,s.dst=A4 d->d ∉ o.reads
def D3V{s:AOper}{chk:List (Nat × AOp)}{o:AOper}(h:C62 s chk o=A5):Float1 s chk o:=by
 simp only [C62,E8j,decide_eq_true_eq,E9b] at h;obtain ⟨⟨⟨⟨⟨h1,h2⟩,h3⟩,h4⟩,h5⟩,h6⟩:=h;refine ⟨h1,h2,h3,h4,?_,λd hd=>?_⟩
 ·split at h5
  ·rename_i d hd;simp only [E8j,E9b,Bool.or_eq_true] at h5;refine ⟨d,hd,λhm=>?_,?_⟩
   ·have:=h5.1;rw [List.contains_iff_mem.2 hm] at this;cases this
   ·rcases h5.2 with h | h
    ·exact .inl h
    ·right
     rw [List.any_eq_true] at h;obtain ⟨c,hc,h⟩:=h;simp only [E8j,decide_eq_true_eq] at h;obtain ⟨e1,e2⟩:=D5y h.2;refine ⟨e2,?_⟩;have:c=(d,o.op):=by cases c;simp at h e1;simp [h.1,e1]
     rw [<-this];exact hc
  ·cases h5
 ·rw [hd] at h6;simp only [E9b] at h6;intro hm;rw [List.contains_iff_mem.2 hm] at h6;cases h6
def D3y{R:Type}{e:Env}{h:A9}{k:Option R}{res:R}:∀ {l:List (Nat × AOp)},again l e h k=A4 res->k=A4 res/\∀ c∈l,B1N h c.2 e=A4 (e.get c.1)
 | [],hr=>⟨hr,by simp⟩
 | c::l,hr=>by
  rw [C6N] at hr;unfold agn at hr;split at hr
  ·rename_i hc;obtain ⟨h1,h2⟩:=D3y hr;exact ⟨h1,λx hx=>by rcases E8J.1 hx with e | hx;subst e;exact hc;exact h2 x hx⟩
  ·cases hr
structure Sim2(J:Ctx)(l:List AOper)(s:AOper)(n0 N:Nat)(e:Env)(vs:Nat->Val)(v:Val)(μ0:Mu)(done:Nat->Bool)(h2:A9)(U:Mu)(a:Act)(w:World):Prop where
 envD:∀ (i:Nat) ao d,l[i]?=A4 ao->done i=A5->ao.dst=A4 d->RV U (vs i) (a.tmps.getD d undef)
 envO:∀ t,(∀ (i:Nat) ao,l[i]?=A4 ao->done i=A5->ao.dst≠A4 t)->s.dst≠A4 t->RV U (e.get t) (a.tmps.getD t undef)
 envS:∀ d,s.dst=A4 d->RV U v (a.tmps.getD d undef)
 inv:Inv J U h2 w
 le:μ0.le U
 keep:∀ id,id<n0 -> U id = μ0 id
 size:N<=a.tmps.size
 defers:a.defers = J.ds
def B4M{a:Act}{dst:Option Nat}{V:Value}{t:Nat}(h:dst≠A4 t):(a.put dst V).tmps.getD t undef=a.tmps.getD t undef:=by
 cases hd:dst with
 | none=>rfl
 | some d =>
  rw [hd] at h;simp [Act.put,Array.getElem?_setIfInBounds_ne (show d≠t from λe=>h (by rw [e]))]
def B7n{a:Act}{d N:Nat}{V:Value}(h:A2X N (A4 d)=A5)(hN:N<=a.tmps.size):(a.put (A4 d) V).tmps.getD d undef=V:=by
 have W4:d<a.tmps.size:=by
  simp [A2X] at h;exact Nat.lt_of_lt_of_le h hN
 simp [Act.put,Array.getD,W4]
section
variable {P:Program} {N m:Nat} {ops:Array Oper} {l r:List AOper} {s:AOper} {chk:List (Nat × AOp)} {E:K7} {hr:A9} {e:Env} {es:Nat->Env} {hs:Nat->A9} {vs:Nat->Val} {J:Ctx} {μ0:Mu}
def E3J(D:DrawOk P N ops m l (s::r))(hR:E0v ops l)(ht:Trace E hr hr.length l es hs vs)(he:es 0=e){i t:Nat}{ao:AOper}(ha:l[i]?=A4 ao)(hm:t∈ao.reads):(es l.length).get t=(es i).get t:=by
 have K6:i<l.length:=(E8p.1 ha).1;by_cases hw:∃ (j:Nat) (aj:AOper),l[j]?=A4 aj/\aj.dst=A4 t
 ·obtain ⟨j,aj,sN,hd⟩:=hw;obtain ⟨_,h2⟩:=hR i j ao aj t ha sN hd hm;rw [vU D ht sN hd i h2 (by omega),vU D ht sN hd l.length (by omega) (E8m _)]
 ·have Y8:∀ (j:Nat) (aj:AOper),l[j]?=A4 aj->aj.dst≠A4 t:=λj aj sN hd=>hw ⟨j,aj,sN,hd⟩
  rw [A2n ht he i (by omega) λj aj _ sN=>Y8 j aj sN,A2n ht he l.length (E8m _) λj aj _ sN=>Y8 j aj sN]
def E0e(D:DrawOk P N ops m l (s::r))(hR:E0v ops l)(hE:jK P E)(ht:Trace E hr hr.length l es hs vs)(he:es 0=e){v:Val}{h2:A9}(hag:∀ c∈chk,B1N h2 c.2 (es l.length)=A4 ((es l.length).get c.1))
  {done:Nat->Bool} {U:Mu} {a:Act} {w:World} (S:Sim2 J l s hr.length N e vs v μ0 done h2 U a w) {i:Nat} {ao:AOper} {o:Oper} (ha:l[i]?=A4 ao) (ho:ops[i]?=A4 o) (hnd:done i=A6) (hf:Float1 s chk ao)
  (D73:∀ (k:Nat) ak d,l[k]?=A4 ak->s.dst=A4 d->ak.dst≠A4 d)
  (hah:∀ b,((S6 ops).getD i 0).testBit b=A5->done b=A5)
  {next:Act->World->Prop} {Q:Exit->Act->World->Prop} (hn:∀ V w' U',Sim2 J l s hr.length N e vs v μ0 (sZ done i) h2 U' (a.put o.dst V) w'->next (a.put o.dst V) w') :
  if Region.wanted o (yielded ops a.tmps) then o.wp P a w next Q\/(o.asks P a w/\LetsOut Q) else next (a.put o.dst undef) w:=by
 have K6:i<l.length:=(E8p.1 ha).1;have hco:cA P N ops o ao=A5:=D.oper i o ao ho (by rw [E88 K6];exact ha);have A39:o.dst=ao.dst/\A2X N o.dst=A5:=by
  simp only [cA,E8j,decide_eq_true_eq] at hco;exact ⟨hco.1.1.1,hco.1.1.2⟩
 obtain ⟨d,hd,hds,E1R⟩:=hf.dst;have C9O:SEnv U ((es i).keep ao.reads) a:=by
  intro t;rw [Env.get_keep_mem];split
  ·rename_i mK;by_cases hw:∃ (j:Nat) (aj:AOper),l[j]?=A4 aj/\aj.dst=A4 t
   ·obtain ⟨j,aj,sN,hdj⟩:=hw;obtain ⟨h1,h3⟩:=hR i j ao aj t ha sN hdj mK;rw [vU D ht sN hdj i h3 (by omega)];exact S.envD j aj t sN (hah j h1) hdj
   ·have Y8:∀ (j:Nat) (aj:AOper),l[j]?=A4 aj->aj.dst≠A4 t:=λj aj sN hd=>hw ⟨j,aj,sN,hd⟩
    rw [A2n ht he i (by omega) λj aj _ sN=>Y8 j aj sN];exact S.envO t (λj aj sN _=>Y8 j aj sN) λnJ=>hf.reads t nJ mK
  ·trivial
 have pG:=ht.step i ao ha;have C0t:aK E A5 h2 hr.length ao (es i) h2 (λv h=>A4 (v,h))=A4 (vs i,h2):=by
  unfold aK at pG ⊢;rw [hf.guard] at pG ⊢;simp only at pG ⊢;rcases E1R with hp | ⟨hp,mK⟩
  ·exact E3q hp pG _ _ _ _ _
  ·refine E0O hp ?_;have h1:=hag _ mK;simp only at h1;rw [vU D ht ha hd l.length K6 (E8m _)] at h1;rw [<-h1];refine D7h λx hx=>?_
   cases x with
   | v x=>rfl
   | t n=>exact (E3J D hR ht he ha (E8W _ (List.mem_filterMap.2 ⟨.t n,hx,rfl⟩))).symm
 rw [C2B (e':=(es i).keep ao.reads) λt ht'=>by rw [Env.get_keep_mem,if_pos ht']] at C0t;refine A9i (hr:=h2) (n0:=hr.length) hE hco C0t C9O S.inv (λ_ _ h=>h) (by rw [hf.slot];trivial) ?_;intro V w' U' mI hv hinv Z0;rw [hf.slot] at Z0;refine hn V w' U' ⟨?_,?_,?_,hinv,Mu.le_trans S.le mI,?_,by rw [Act.size_put];exact S.size,by rw [put_defers];exact S.defers⟩
 ·intro k ak d' uX hdk hd';by_cases e1:k=i
  ·subst e1;rw [ha] at uX;cases uX;rw [A39.1,hd'];rw [B7n (by rw [<-hd',<-A39.1];exact A39.2) S.size];exact hv
  ·rw [bD _ _ e1] at hdk;rw [B4M (by rw [A39.1];exact λh=>(D.apart i k ao ak ha uX (Ne.symm e1)).1 d' h hd')];exact (S.envD k ak d' uX hdk hd').mono mI
 ·intro t Y8 nJ;have h1:=Y8 i ao ha (A03 _ _);rw [B4M (by rw [A39.1];exact h1)];refine (S.envO t (λk ak uX hdk=>?_) nJ).mono mI;by_cases e1:k=i
  ·subst e1;rw [hnd] at hdk;cases hdk
  ·exact Y8 k ak uX (by rw [bD _ _ e1];exact hdk)
 ·intro d' hd';rw [B4M (by rw [A39.1];exact D73 i ao d' ha hd')];exact (S.envS d' hd').mono mI
 ·intro id hid;by_cases hl:id<h2.length
  ·rw [<-S.keep id hid];exact Z0 id hl λj hj=>by cases hj
  ·have h1:=S.inv.dom id (by omega);have h3:=S.keep id hid;rw [h1] at h3;have h4:=hinv.dom id (by omega);rw [h4,<-h3]
end
def D0S{P:Program}{N L:Nat}{ops:Array Oper}{m:Nat}{l r:List AOper}{s:AOper}{chk:List (Nat × AOp)}{E:K7}(hE:jK P E){e:Env}{h:A9}{R:Type}{k:Env->A9->Option R}{res:R}
  (hc:A34 P N ops m l (s::r)=A5) (hcs:D8V ops l s chk r=A5) (hL:L<=h.length)
  (D7:B7a E h h.length l e (h++E8l m A7) (λe h=>aK E A6 h 0 s e h λv h2=>again chk e h2 (B4b E r (e.put s.dst v) h2 k))=A4 res) :
  ∃ e' h',k e' h'=A4 res/\L<=h'.length/\B5K P N L (λQ a w=>wpAny P .any ops Q ops.size (Array.replicate ops.size A6) a { w with drawn:=w.drawn+1 }) e h .normal e' h':=by
 have D:=B1m hc;simp only [D8V,E8j,E8O] at hcs;obtain ⟨⟨⟨hfl,hdi⟩,E7H⟩,hla⟩:=hcs;have hR:E0v ops l:=by
  intro i j ai aj d hi hj hd hr;have:=E7H (ai,i) (mem_zipIdx hi) (aj,j) (mem_zipIdx hj);simp only [hd,Bool.or_eq_true,E9b,E8j,decide_eq_true_eq] at this;rcases this with this | this
  ·have hc:ai.reads.contains d=A5:=by simpa using hr
   rw [hc] at this;cases this
  ·exact this
 have hsz:ops.size=l.length+(r.length+1):=by rw [D.size];simp
 have last:=C64 hla (by rw [hsz];omega);have E5x:∀ (i:Nat) ao,l[i]?=A4 ao->((S6 ops).getD l.length 0).testBit i=A6->Float1 s chk ao:=by
  intro i ao ha hb;have:=hfl (ao,i) (mem_zipIdx ha);simp only [Bool.or_eq_true] at this;rcases this with h | h
  ·rw [hb] at h;cases h
  ·exact D3V h
 have D73:∀ (k:Nat) ak d,l[k]?=A4 ak->s.dst=A4 d->ak.dst≠A4 d:=by
  intro k ak d uX hd;have:=hdi ak (E8H uX);rw [hd] at this;simpa using this
 obtain ⟨es,hs,vs,he,h0,ht,hk⟩:=C80 l _ _ D7;rw [C6S] at hk;simp only [E8i] at hk;obtain ⟨⟨v,h2⟩,C0t,hk⟩:=hk;obtain ⟨hk,hag⟩:=D3y hk;simp only at hk hag;have hnl:l.length<ops.size:=by omega
 have hos:ops[l.length]?=A4 ops[l.length]:=by simp [hnl]
 have E6t:cA P N ops ops[l.length] s=A5:=D.oper l.length _ s hos (by rw [E8L (E8m _)];simp);have E1W:s.slot=A7:=D.rslot s (by simp);have D4y:ops[l.length].dst=s.dst/\A2X N ops[l.length].dst=A5:=by
  have:=E6t;simp only [cA,E8j,decide_eq_true_eq] at this;exact ⟨this.1.1.1,this.1.1.2⟩
 have D6N:All2 (λi ao=>∃ o,ops[i]?=A4 o/\cA P N ops o ao=A5/\ao.slot=A7) (E8Q (l.length+1) r.length) r:=by
  refine All2.of_get (by simp) λi x ao hx hao=>?_
  have hi:i<r.length:=(E8p.1 hao).1;rw [List.getElem?_range' hi] at hx;simp at hx;subst hx;have W4:l.length+1+i<ops.size:=by omega
  refine ⟨ops[l.length+1+i],by simp [W4],?_,D.rslot ao (E8q _ (E8H hao))⟩;refine D.oper (l.length+1+i) _ ao (by simp [W4]) ?_;rw [E8L (by omega),show l.length+1+i-l.length=i+1 by omega];simpa using hao
 have hbl:=oO D ht h0 (k:=l.length) (E8m _);have hl2:=D0y hE C0t;obtain ⟨e',h',hk',hL',nJ⟩:=C5C (L:=L) hE _ r ((es l.length).put s.dst v) h2 k res D6N hk (by omega);refine ⟨e',h',hk',hL',fun J μ0 a w hs0 hi hN hd Q hq=>?_⟩;have whole:∀ (listed:Array Bool) (a:Act) (w:World) (U:Mu),Sim2 J l s h.length N e vs v μ0 (λi=>listed.getD i A6) h2 U a w->(∀ j,j<l.length->listed.getD j A6=A5)->wpOps P ops Q (E8Q (l.length+1) r.length) a w:=by
  intro listed a w U S kR;have C9O:SEnv U ((es l.length).put s.dst v) a:=by
   intro t;have main:s.dst≠A4 t->RV U ((es l.length).get t) (a.tmps.getD t undef):=by
    intro aZ;by_cases hw:∃ (j:Nat) (aj:AOper),l[j]?=A4 aj/\aj.dst=A4 t
    ·obtain ⟨j,aj,sN,hdj⟩:=hw;have hjl:=(E8p.1 sN).1;rw [vU D ht sN hdj l.length hjl (E8m _)];exact S.envD j aj t sN (kR j hjl) hdj
    ·have Y8:∀ (j:Nat) (aj:AOper),l[j]?=A4 aj->aj.dst≠A4 t:=λj aj sN hdj=>hw ⟨j,aj,sN,hdj⟩
     rw [A2n ht he l.length (E8m _) λj aj _ sN=>Y8 j aj sN];exact S.envO t (λj aj sN _=>Y8 j aj sN) aZ
   cases hsd:s.dst with
   | none=>exact main (by rw [hsd];simp)
   | some d =>
    by_cases e1:d=t
    ·subst e1;rw [Env.get_put_same];exact S.envS d hsd
    ·rw [Env.get_put_other _ _ _ _ e1];exact main (by rw [hsd];simpa using e1)
  exact nJ J U a w C9O S.inv S.size S.defers Q fun U' a' w' g1 g2 g3 g4 g5 g6=>hq U' a' w' (Mu.le_trans S.le g1) (λid hid=>(g2 id hid).trans (S.keep id (by omega))) g3 g4 g5 g6
 have main2:∀ (fuel:Nat) (listed:Array Bool) (a:Act) (w:World) (U:Mu),listed.size=ops.size->left ops.size listed<=fuel->listed.getD l.length A6=A5 ->
   (∀ j,l.length<j->j<ops.size->listed.getD j A6=A6)->(∀ (j:Nat) ao,l[j]?=A4 ao->listed.getD j A6=A6->Float1 s chk ao) ->
   (∀ (i:Nat) (o:Oper),ops[i]?=A4 o->listed.getD i A6=A5->∀ p∈bG o,listed.getD p A6=A5) ->
   Sim2 J l s h.length N e vs v μ0 (λi=>listed.getD i A6) h2 U a w->wpAny P .any ops Q fuel listed a w:=by
  intro fuel
  induction fuel with
  | zero =>
   intro listed a w U hls B7p hsd fV E5w fW S;have kR:∀ j,j<ops.size->listed.getD j A6=A5:=by
    intro j hj;cases hv:listed.getD j A6 with
    | true=>rfl
    | false =>
     have hm:j∈(E8T ops.size).filter λi=>!listed.getD i A6:=by rw [E8Z];exact ⟨by simpa using hj,by rw [hv];rfl⟩
     have:=List.length_pos_of_mem hm;unfold left at B7p;omega
   have hr0:r.length=0:=by
    cases hr:r.length with
    | zero=>rfl
    | succ x =>
     have h1:=kR (l.length+1) (by omega);have h3:=fV (l.length+1) (by omega) (by omega);rw [h1] at h3;cases h3
   refine A5m D.dir last 0 (l.length+1) 0 listed a w (by omega) (E8m _) hls (λj hj=>?_) (E8m _) ?_
   ·rw [kR j hj];have:j<l.length+1:=by omega
    simp [this]
   ·have:=whole listed a w U S λj hj=>kR j (by omega)
    rw [hr0] at this;exact this
  | succ fuel ih =>
   intro listed a w U hls B7p hsd fV E5w fW S;by_cases kR:∀ j,j<l.length->listed.getD j A6=A5
   ·refine A5m D.dir last r.length (l.length+1) (fuel+1) listed a w (by omega) (E8m _) hls (λj hj=>?_) ?_ (whole listed a w U S kR)
    ·by_cases hjl:j<l.length+1
     ·have:listed.getD j A6=A5:=by
       by_cases e1:j=l.length
       ·subst e1;exact hsd
       ·exact kR j (by omega)
      rw [this];simp [hjl]
     ·rw [fV j (by omega) hj];simp [hjl]
    ·refine E83 ?_ B7p;unfold left;have:((E8T ops.size).filter λi=>!listed.getD i A6)=E8Q (l.length+1) r.length:=by
      rw [show ops.size=(l.length+1)+r.length by omega,List.range_add,E9x];have e1:(E8T (l.length+1)).filter (λi=>!listed.getD i A6)=[]:=by
       rw [List.filter_eq_nil_iff];intro j hj;have hj:j<l.length+1:=by simpa using hj
       have:listed.getD j A6=A5:=by
        by_cases e1:j=l.length
        ·subst e1;exact hsd
        ·exact kR j (by omega)
       rw [this];simp
      rw [e1,E8I,List.range'_eq_map_range,List.filter_eq_self.2];intro j hj;obtain ⟨x,hx,rfl⟩:=E8N.1 hj;rw [fV _ (by omega) (by simp at hx;omega)];rfl
     rw [this];simp
   ·have hex:∃ j,j<l.length/\listed.getD j A6=A6:=by
     false_or_by_contra
     rename_i hn;exact kR λj hj=>by
      cases hv:listed.getD j A6 with
      | true=>rfl
      | false=>exact absurd ⟨j,hj,hv⟩ hn
    obtain ⟨j,hj,hv⟩:=hex;refine ⟨λhre=>absurd hre (B1R D.dir hls j (by omega) hv),λi hi=>?_⟩;obtain ⟨o,ho,h3,h4⟩:=rE.1 hi;have hin:=(Array.getElem?_eq_some_iff.1 ho).1;rw [getD_both (by omega)] at h3;have hah:=A02 (done:=λi=>listed.getD i A6) D.dir fW i o ho h4;have K6:i<l.length:=by
     by_cases e1:i<l.length
     ·exact e1
     ·by_cases e2:i=l.length
      ·subst e2;rw [hsd] at h3;cases h3
      ·have:=hah j (last i (by omega) hin j (by omega))
       try simp only at this
       rw [hv] at this;cases this
    have hao:=E8h K6;have pG:=E0e D hR hE ht he hag S (i:=i) (ao:=l[i]) (o:=o) hao ho h3 (E5w i l[i] hao h3) D73 hah
     (next:=wpAny P .any ops Q fuel (listed.setIfInBounds i A5)) (Q:=Q) (by
      intro V w' U' S';rw [<-T4 (by omega)] at S';refine ih (listed.setIfInBounds i A5) _ w' U' (by simpa using hls) (by have:=C0M hin hls h3;omega) ?_ ?_ ?_ ?_ S'
      ·have:=congrFun (T4 (listed:=listed) (i:=i) (by omega)) l.length
       try simp only at this
       rw [this,bD _ _ (by omega)];exact hsd
      ·intro k hk hkn;have:=congrFun (T4 (listed:=listed) (i:=i) (by omega)) k
       try simp only at this
       rw [this,bD _ _ (by omega)];exact fV k hk hkn
      ·intro k ak uX hdk;have e1:=congrFun (T4 (listed:=listed) (i:=i) (by omega)) k
       try simp only at e1
       rw [e1] at hdk;by_cases e2:k=i
       ·subst e2;rw [A03] at hdk;cases hdk
       ·rw [bD _ _ e2] at hdk;exact E5w k ak uX hdk
      ·intro k ok tI hdk p hp;have e1:=congrFun (T4 (listed:=listed) (i:=i) (by omega)) k;have e2:=congrFun (T4 (listed:=listed) (i:=i) (by omega)) p
       try simp only at e1 e2
       rw [e1] at hdk;rw [e2];have B7o:listed.getD p A6=A5:=by
        by_cases e3:k=i
        ·subst e3;rw [ho] at tI;cases tI;exact h4 p hp
        ·rw [bD _ _ e3] at hdk;exact fW k ok tI hdk p hp
       unfold sZ;show (decide (p=i)||listed.getD p A6)=A5;rw [B7o];simp)
    unfold wpOp;rw [ho];exact pG
 have main:∀ (fuel:Nat) (listed:Array Bool) (a:Act) (w:World) (q:Nat) (U:Mu),listed.size=ops.size->left ops.size listed<=fuel ->
   (∀ j,l.length<=j->j<ops.size->listed.getD j A6=A6)->(∀ (i:Nat) (o:Oper),ops[i]?=A4 o->listed.getD i A6=A5->∀ p∈bG o,listed.getD p A6=A5) ->
   Sim J l h.length N e es hs vs μ0 (λi=>listed.getD i A6) q U a w->wpAny P .any ops Q fuel listed a w:=by
  intro fuel
  induction fuel with
  | zero =>
   intro listed a w q U hls B7p fV fW S;have hv:=fV l.length (E8m _) hnl;have hm:l.length∈(E8T ops.size).filter λi=>!listed.getD i A6:=by rw [E8Z];exact ⟨by simpa using hnl,by rw [hv];rfl⟩
   have:=List.length_pos_of_mem hm;unfold left at B7p;omega
  | succ fuel ih =>
   intro listed a w q U hls B7p fV fW S;have hv:=fV l.length (E8m _) hnl;refine ⟨λhre=>absurd hre (B1R D.dir hls l.length hnl hv),λi hi=>?_⟩;obtain ⟨o,ho,h3,h4⟩:=rE.1 hi;have hin:=(Array.getElem?_eq_some_iff.1 ho).1;rw [getD_both (by omega)] at h3;have hah:=A02 (done:=λi=>listed.getD i A6) D.dir fW i o ho h4;have pE:∀ k,listed.getD k A6=A5->∀ b,((S6 ops).getD k 0).testBit b=A5->listed.getD b A6=A5:=by
    intro k hk b hb;by_cases hkn:k<ops.size
    ·have tI:ops[k]?=A4 ops[k]:=by simp [hkn]
     exact A02 (done:=λi=>listed.getD i A6) D.dir fW k _ tI (fW k _ tI hk) b hb
    ·have:listed.getD k A6=A6:=by simp [Array.getD,show ¬ k<listed.size by omega]
     rw [this] at hk;cases hk
   have D4u:∀ k ok,ops[k]?=A4 ok->(listed.setIfInBounds i A5).getD k A6=A5->∀ p∈bG ok,(listed.setIfInBounds i A5).getD p A6=A5:=by
    intro k ok tI hdk p hp;have e1:=congrFun (T4 (listed:=listed) (i:=i) (by omega)) k;have e2:=congrFun (T4 (listed:=listed) (i:=i) (by omega)) p
    try simp only at e1 e2
    rw [e1] at hdk;rw [e2];have B7o:listed.getD p A6=A5:=by
     by_cases e3:k=i
     ·subst e3;rw [ho] at tI;cases tI;exact h4 p hp
     ·rw [bD _ _ e3] at hdk;exact fW k ok tI hdk p hp
    unfold sZ;show (decide (p=i)||listed.getD p A6)=A5;rw [B7o];simp
   by_cases K6:i<l.length
   ·have pG:=D5E D hE ht h0 he S (i:=i) (ao:=l[i]) (o:=o) (E8h K6) ho h3 hah pE
     (next:=wpAny P .any ops Q fuel (listed.setIfInBounds i A5)) (Q:=Q) (by
      intro V w' U' q' S';rw [<-T4 (by omega)] at S';refine ih (listed.setIfInBounds i A5) _ w' q' U' (by simpa using hls) (by have:=C0M hin hls h3;omega) ?_ D4u S';intro k hk hkn;have:=congrFun (T4 (listed:=listed) (i:=i) (by omega)) k
      try simp only at this
      rw [this,bD _ _ (by omega)];exact fV k hk hkn)
    unfold wpOp;rw [ho];exact pG
   ·have hie:i=l.length:=by
     by_cases e1:i=l.length
     ·exact e1
     ·have:=hah l.length (last i (by omega) hin l.length (by omega))
      try simp only at this
      rw [hv] at this;cases this
    subst hie;have hoo:o=ops[l.length]:=by rw [hos] at ho;cases ho;rfl
    have B7o:∀ (j:Nat) aj,l[j]?=A4 aj->listed.getD j A6=A6->Float1 s chk aj:=by
     intro j aj sN hdj;refine E5x j aj sN ?_;cases hb:((S6 ops).getD l.length 0).testBit j with
     | false=>rfl
     | true =>
      have:=hah j hb
      try simp only at this
      rw [hdj] at this;cases this
    have hlen:(hs l.length).length=(hs q).length:=by
     have hql:=S.qle;have:=A2z D ht (q:=q) (l.length-q) (by omega) λk ak h1 h2 uX=>by
      cases hck:aU ak.op with
      | false=>rfl
      | true =>
       have hd1:listed.getD k A6=A5:=by
        cases hd2:listed.getD k A6 with
        | true=>rfl
        | false=>have:=(B7o k ak uX hd2).call;rw [hck] at this;cases this
       have:=(S.calls k ak uX hck).1 hd1;omega
     rwa [show q+(l.length-q)=l.length by omega] at this
    have D04:HD (hs l.length) (und l h.length λi=>listed.getD i A6) (hs q).length=hs l.length:=by
     refine A2t (by rw [K1,hlen]) λid hid=>?_
     rw [K1] at hid;have hu:und l h.length (λi=>listed.getD i A6) id=A6:=by
      cases hu:und l h.length (λi=>listed.getD i A6) id with
      | false=>rfl
      | true =>
       obtain ⟨k,hk,ao,j,uX,hj,_⟩:=bI.1 hu;have:=(B7o k ao uX hk).slot;rw [hj] at this;cases this
     rw [A0B,if_pos ⟨hid,hu⟩]
    have hinv:=S.inv;rw [D04] at hinv;have C9O:SEnv U ((es l.length).keep s.reads) a:=by
     intro t;rw [Env.get_keep_mem];split
     ·rename_i mK;by_cases hw:∃ (j:Nat) (aj:AOper),l[j]?=A4 aj/\aj.dst=A4 t
      ·obtain ⟨j,aj,sN,hdj⟩:=hw;have hjl:=(E8p.1 sN).1;rw [vU D ht sN hdj l.length hjl (E8m _)];refine S.envD j aj t sN ?_ hdj;cases hd2:listed.getD j A6 with
       | true=>rfl
       | false =>
        obtain ⟨d,h5,h6,_⟩:=(B7o j aj sN hd2).dst;rw [hdj] at h5;cases h5;exact absurd mK h6
      ·have Y8:∀ (j:Nat) (aj:AOper),l[j]?=A4 aj->aj.dst≠A4 t:=λj aj sN hdj=>hw ⟨j,aj,sN,hdj⟩
       rw [A2n ht he l.length (E8m _) λj aj _ sN=>Y8 j aj sN];exact S.envO t λj aj sN _=>Y8 j aj sN
     ·trivial
    have E4R:=C0t;rw [C2B (e':=(es l.length).keep s.reads) λt ht'=>by rw [Env.get_keep_mem,if_pos ht']] at E4R;unfold wpOp;rw [ho];subst hoo;refine A9i (hr:=hs l.length) (n0:=0) hE E6t E4R C9O hinv (λ_ _ h=>h) (by rw [E1W];trivial) ?_;intro V w' U' mI hv' E6B Z0;rw [E1W] at Z0;have D72:=T4 (listed:=listed) (i:=l.length) (by omega);refine main2 fuel (listed.setIfInBounds l.length A5) _ w' U' (by simpa using hls) (by have:=C0M hin hls h3;omega) ?_ ?_ ?_ D4u ?_
    ·have:=congrFun D72 l.length
     try simp only at this
     rw [this];exact A03 _ _
    ·intro k hk hkn;have:=congrFun D72 k
     try simp only at this
     rw [this,bD _ _ (by omega)];exact fV k (by omega) hkn
    ·intro k ak uX hdk;have hkl:=(E8p.1 uX).1;have:=congrFun D72 k
     try simp only at this
     rw [this,bD _ _ (by omega)] at hdk;exact B7o k ak uX hdk
    ·have hsame:∀ k:Nat,k<l.length->(listed.setIfInBounds l.length A5).getD k A6=listed.getD k A6:=by
      intro k hkl;have:=congrFun D72 k
      try simp only at this
      rw [this,bD _ _ (by omega)]
     refine ⟨?_,?_,?_,E6B,Mu.le_trans S.le mI,?_,by rw [Act.size_put];exact S.size,by rw [put_defers];exact S.defers⟩
     ·intro k ak d uX hdk hd;have hkl:=(E8p.1 uX).1
      try simp only at hdk
      rw [hsame k hkl] at hdk;rw [B4M (by rw [D4y.1];exact λh=>D73 k ak d uX h hd)];exact (S.envD k ak d uX hdk hd).mono mI
     ·intro t Y8 nJ;rw [B4M (by rw [D4y.1];exact nJ)];refine (S.envO t λk ak uX hdk=>Y8 k ak uX ?_).mono mI;have hkl:=(E8p.1 uX).1
      try simp only
      rw [hsame k hkl];exact hdk
     ·intro d hd;rw [D4y.1,hd,B7n (by rw [<-hd,<-D4y.1];exact D4y.2) S.size];exact hv'
     ·intro id hid;rw [<-S.keep id hid];exact Z0 id (by omega) λj hj=>by cases hj
 have hgd:∀ i:Nat,(Array.replicate ops.size A6).getD i A6=A6:=by intro i;simp [Array.getD]
 have E5y:(λi=>(Array.replicate ops.size A6).getD i A6)=λ_=>A6:=funext hgd
 refine main ops.size (Array.replicate ops.size A6) a _ 0 μ0 (by simp) ?_ (λj _ _=>hgd j) (λi o _ hd=>by rw [hgd] at hd;cases hd) ?_
 ·unfold left;exact E83 (E9f _ _) (by simp)
 ·rw [E5y];have E5C:HD (hs l.length) (und l h.length λ_=>A6) (hs 0).length=h++E8l m A7:=by
   rw [h0];refine A2t (by rw [K1]) λid hid=>?_
   rw [K1] at hid;rw [A0B];by_cases ho:∃ i,A51 l h.length i id
   ·obtain ⟨i,ho⟩:=ho;have hu:und l h.length (λ_=>A6) id=A5:=bI.2 ⟨i,rfl,ho⟩;rw [hu];have:=A98 D ht h0 ho 0 (Nat.zero_le _);rw [h0] at this;rw [this];simp
   ·have Y8:∀ i,0<=i->¬ A51 l h.length i id:=λi _ hi=>ho ⟨i,hi⟩
    have hu:und l h.length (λ_=>A6) id=A6:=by
     cases hu:und l h.length (λ_=>A6) id with
     | false=>rfl
     | true=>obtain ⟨i,_,hi⟩:=bI.1 hu;exact absurd ⟨i,hi⟩ ho
    rw [if_pos ⟨hid,hu⟩];have:=tL D ht (k:=0) (id:=id) (by rw [h0];exact hid) Y8 l.length (by omega);rw [E8A,h0] at this;exact this
  refine ⟨Nat.zero_le _,λi ao _ _=>⟨λh=>(by cases h),λh=>(by omega)⟩,λi ao d _ h=>(by cases h),λt _=>hs0 t,?_,λid hid=>?_,Mu.le_refl _,λ_ _=>rfl,hN,hd⟩
  ·rw [E5C];exact (hi.pad m).world rfl rfl rfl λ_ _=>rfl
  ·obtain ⟨i,_,ao,j,_,_,rfl⟩:=bI.1 hid;exact hi.dom _ (by omega)
def sw(k i:Nat):Nat:=if i=k then k+1 else if i=k+1 then k else i
def D8A(k i:Nat):sw k (sw k i)=i:=by unfold sw;split<;>(try split)<;>(try split)<;>omega
def D8z{k i n:Nat}(hk:k+1<n):sw k i<n↔i<n:=by unfold sw;split<;>(try split)<;>omega
def E6d{k i j:Nat}(h:sw k i=sw k j):i=j:=by rw [<-D8A k i,h,D8A]
def swO(k:Nat)(o:Oper):Oper:={ o with after:=o.after.map λe=>{ e with on:=sw k e.on },guard:=o.guard.map λg=>(sw k g.1,g.2) }
def swp(k:Nat)(ops:Array Oper):Array Oper:=((E8T ops.size).map λi=>swO k (ops.getD (sw k i) default)).toArray
def swp_size(k:Nat)(ops:Array Oper):(swp k ops).size=ops.size:=by simp [swp]
def D7y{k:Nat}{ops:Array Oper}(hk:k+1<ops.size)(i:Nat):(swp k ops)[sw k i]?=(ops[i]?).map (swO k):=by
 by_cases hi:i<ops.size
 ·have h1:sw k i<ops.size:=(D8z hk).2 hi;unfold swp;simp [h1,hi,D8A]
 ·have h1:¬ sw k i<ops.size:=λh=>hi ((D8z hk).1 h)
  rw [Array.getElem?_eq_none (by rw [swp_size];omega),Array.getElem?_eq_none (by omega)];rfl
def C4x(k:Nat)(o:Oper):bG (swO k o)=(bG o).map (sw k):=by
 unfold bG swO;simp only [Array.toList_map];rw [List.filter_map,List.map_map,List.map_map]
 congr 1
def D7x{k:Nat}{ops:Array Oper}(hk:k+1<ops.size)(o:Oper)(t:Array Value):Region.wanted (swO k o) (yielded (swp k ops) t)=Region.wanted o (yielded ops t):=by
 unfold Region.wanted swO;cases hg:o.guard with
 | none=>rfl
 | some g =>
  obtain ⟨j,b⟩:=g;simp only [E85];unfold yielded;rw [D7y hk];cases ops[j]?<;>rfl
def E4E{P:Program}{k:Nat}{ops:Array Oper}(hk:k+1<ops.size){Q:Exit->Act->World->Prop}{i:Nat}{a:Act}{w:World}{K:Act->World->Prop}:wpOp P (swp k ops) Q (sw k i) K a w=wpOp P ops Q i K a w:=by
 unfold wpOp;rw [D7y hk];cases hi:ops[i]? with
 | none=>rfl
 | some o =>
  simp only [E85];rw [D7x hk];rfl
def C8F{k:Nat}{ops:Array Oper}(hk:k+1<ops.size){l l':Array Bool}(hl:∀ i b,l'.getD (sw k i) b=l.getD i b)(i:Nat):sw k i∈Region.ready .any (swp k ops) l'↔i∈Region.ready .any ops l:=by
 rw [rE,rE,D7y hk];constructor
 ·rintro ⟨o',h1,h2,h3⟩;cases ho:ops[i]? with
  | none=>rw [ho] at h1;cases h1
  | some o =>
   rw [ho] at h1;cases h1;refine ⟨o,rfl,by rw [<-hl];exact h2,λp hp=>?_⟩;rw [<-hl];exact h3 _ (by rw [C4x];exact E8N.2 ⟨p,hp,rfl⟩)
 ·rintro ⟨o,h1,h2,h3⟩;refine ⟨swO k o,by rw [h1];rfl,by rw [hl];exact h2,λp hp=>?_⟩;rw [C4x] at hp;obtain ⟨q,hq,rfl⟩:=E8N.1 hp;rw [hl];exact h3 q hq
def D27{k:Nat}{ops:Array Oper}(hk:k+1<ops.size){l l':Array Bool}(hl:∀ i b,l'.getD (sw k i) b=l.getD i b)(h:Region.ready .any ops l=[]):Region.ready .any (swp k ops) l'=[]:=by
 rw [List.eq_nil_iff_forall_not_mem];intro i hi;have:=(C8F hk hl (sw k i)).1 (by rw [D8A];exact hi);rw [h] at this;cases this
def D5Z{P:Program}{k:Nat}{ops:Array Oper}(hk:k+1<ops.size){Q:Exit->Act->World->Prop}:∀ (fuel:Nat) (l l':Array Bool) (a:Act) (w:World),l.size=ops.size->l'.size=ops.size->(∀ i b,l'.getD (sw k i) b=l.getD i b) ->
  wpAny P .any (swp k ops) Q fuel l' a w->wpAny P .any ops Q fuel l a w
 | 0,l,l',a,w,s1,s2,hl,h=>by
  refine ⟨?_,h.2⟩;rw [List.eq_nil_iff_forall_not_mem];intro i hi;have:=(C8F hk hl i).2 hi;rw [h.1] at this;cases this
 | fuel+1,l,l',a,w,s1,s2,hl,h=>by
  refine ⟨λhe=>h.1 (D27 hk hl he),λi hi=>?_⟩;have h1:=h.2 (sw k i) ((C8F hk hl i).2 hi);rw [E4E hk] at h1;have W4:i<ops.size:=by
   obtain ⟨o,ho,_⟩:=rE.1 hi;exact (Array.getElem?_eq_some_iff.1 ho).1
  have E7z:sw k i<l'.size:=by rw [s2];exact (D8z hk).2 W4
  refine wpOp_mono (λa w hh=>D5Z hk fuel _ _ a w (by simpa using s1) (by simpa using s2) (λj b=>?_) hh) h1;by_cases e:j=i
  ·subst e;simp [Array.getD,E7z,show j<l.size by omega]
  ·have e2:sw k j≠sw k i:=λh=>e (E6d h)
   rw [Array.getD_eq_getD_getElem?,Array.getD_eq_getD_getElem?,Array.getElem?_setIfInBounds_ne (Ne.symm e2),Array.getElem?_setIfInBounds_ne (Ne.symm e),<-Array.getD_eq_getD_getElem?,<-Array.getD_eq_getD_getElem?];exact hl j b
def E1t{P:Program}{N L:Nat}{ops:Array Oper}{m id:Nat}{l r:List AOper}{s:AOper}{chk:List (Nat × AOp)}{E:K7}(hE:jK P E){e:Env}{h:A9}{R:Type}{k:Env->A9->Option R}{res:R}
  (hc:(A34 P N ops m l (s::r)&&D8V ops l s chk r)=A5\/(decide (l.length<ops.size)&&decide (0<l.length)&&A34 P N (swp (l.length-1) ops) m l (s::r)&&D8V (swp (l.length-1) ops) l s chk r)=A5) (hL:L<=h.length)
  (D7:B7a E h h.length l e (h++E8l m A7) (λe h=>aK E A6 h 0 s e h λv h2=>again chk e h2 (B4b E r (e.put s.dst v) h2 k))=A4 res) :
  ∃ e' h',k e' h'=A4 res/\L<=h'.length/\B5K P N L ((Code.region id ops A5).wp P) e h .normal e' h':=by
 rcases hc with hc | hc
 ·rw [E8j] at hc;obtain ⟨e',h',h1,h2,h3⟩:=D0S hE hc.1 hc.2 hL D7;exact ⟨e',h',h1,h2,fun J μ0 a w g1 g2 g3 g4 Q hq=>wp_region_any (B1m hc.1).follows (h3 J μ0 a w g1 g2 g3 g4 Q hq)⟩
 ·simp only [E8j,decide_eq_true_eq] at hc;obtain ⟨⟨⟨hs,h0⟩,hc⟩,hcs⟩:=hc;obtain ⟨e',h',h1,h2,h3⟩:=D0S hE hc hcs hL D7;refine ⟨e',h',h1,h2,fun J μ0 a w g1 g2 g3 g4 Q hq=>wp_region_any (B1m hc).follows ?_⟩;have hk:l.length-1+1<ops.size:=by omega
  refine D5Z hk _ _ (Array.replicate ops.size A6) a _ (by simp) (by simp) (λi b=>?_) ?_
  ·simp only [Array.getD,Array.size_replicate,D8z hk];split<;>simp
  ·have:=h3 J μ0 a w g1 g2 g3 g4 Q hq;simpa only [swp_size] using this
def C2J(P:Program)(N:Nat)(ops:Array Oper):List Oper->List AOper->Bool
 | [],[]=>A5
 | o::r,a::l=>cA P N ops o a&&decide (a.slot=A7)&&C2J P N ops r l
 | _,_=>A6
def bF(P:Program)(N:Nat):Code->ACode->Bool
 | c,.skip=>(match c with | .skip=>A5 | _=>A6)
 | c,.ops l=>(match c with | .region _ ops false=>C2J P N ops ops.toList l | _=>A6)
 | c,.draw m l r=>(match c with | .region _ ops true=>A34 P N ops m l r&&C0d ops l.length r.length | _=>A6)
 | c,.drawS m l s chk r=>(match c with | .region _ ops true=>(A34 P N ops m l (s::r)&&D8V ops l s chk r)||(decide (l.length<ops.size)&&decide (0<l.length)&&A34 P N (swp (l.length-1) ops) m l (s::r)&&D8V (swp (l.length-1) ops) l s chk r) | _=>A6)
 | c,.seq _ a b=>(match c with | .seq x y=>bF P N x a&&bF P N y b | _=>A6)
 | c,.cond q a b=>(match c with | .cond z x y=>E9 z q&&bF P N x a&&bF P N y b | _=>A6)
 | c,.block id a=>(match c with | .block cP x=>decide (cP=id)&&bF P N x a | _=>A6)
 | c,.loop _ a=>(match c with | .loop x=>bF P N x a | _=>A6)
 | c,.exit id=>(match c with | .exit cP=>decide (cP=id) | _=>A6)
 | c,.ret=>(match c with | .ret=>A5 | _=>A6)
def dH(P:Program):List ResultVar->List ARes->Bool
 | [],[]=>A5
 | .tmp t::r,.tmp t'::l=>decide (t=t')&&dH P r l
 | .cell t ty::r,.cell1 t'::l=>decide (t=t')&&decide (oM P ty=A4 A6)&&dH P r l
 | .cell t ty::r,.cellN t' n::l=>decide (t=t')&&decide (oM P ty=A4 A5)&&decide (T0 P ty=A4 n)&&dH P r l
 | _,_=>A6
def C63(P:Program)(fn:Func)(f:AFn):Bool :=
 (match fn.body with | some c => bF P fn.ntmps c f.code | none => false) && dH P fn.results.toList f.res && !(fn.name == "runtime.NumGoroutine")
section
variable {P:Program} {R:Type}
def D0M{N:Nat}{ops:Array Oper}:∀ (pre:List Oper) (os:List Oper) (aos:List AOper),ops.toList=pre++os->C2J P N ops os aos=A5 ->
  All2 (λi ao=>∃ o,ops[i]?=A4 o/\cA P N ops o ao=A5/\ao.slot=A7) (E8Q pre.length os.length) aos
 | pre,[],[],_,_=>trivial
 | pre,o::os,ao::aos,he,hc=>by
  simp only [C2J,E8j,decide_eq_true_eq] at hc;rw [E8w,List.range'_succ];refine ⟨⟨o,?_,hc.1.1,hc.1.2⟩,?_⟩
  ·rw [<-Array.getElem?_toList,he];simp
  ·have:=D0M (pre++[o]) os aos (by rw [he];simp) hc.2;simpa using this
 | _,[],_::_,_,h=>by simp [C2J] at h
 | _,_::_,[],_,h=>by simp [C2J] at h
def D56{N L:Nat}{E:K7}(hE:jK P E)(n:Nat):∀ (ac:ACode) (c:Code) (k:AExit->Env->A9->Option R) (e:Env) (h:A9) (r:R),
  bF P N c ac=A5->aex E n ac k e h=A4 r->L<=h.length->∃ x e' h',k x e' h'=A4 r/\L<=h'.length/\B5K P N L (c.wp P) e h x e' h':=by
 intro ac
 induction ac with
 | skip =>
  intro c k e h r hc D7 hL;unfold bF at hc;split at hc
  ·exact ⟨.normal,e,h,D7,hL,fun J U a w hs hi hN hd Q hq=>wp_skip (hq U a w (Mu.le_refl _) (λ_ _=>rfl) hs hi hN hd)⟩
  ·cases hc
 | ops l =>
  intro c k e h r hc D7 hL;unfold bF at hc;split at hc
  ·rename_i id ops;simp only [aex,E2W] at D7;obtain ⟨e',h',hk,hL',nJ⟩:=C5C hE _ l e h _ r (D0M [] ops.toList l rfl hc) D7 hL;refine ⟨.normal,e',h',hk,hL',fun J U a w hs hi hN hd Q hq=>wp_region ?_⟩;have:=nJ J U a w hs hi hN hd Q hq;simpa [List.range_eq_range'] using this
  ·cases hc
 | draw m l r' =>
  intro c k e h r hc D7 hL;unfold bF at hc;split at hc
  ·rename_i id ops;simp only [aex,D7q] at D7;rw [E8j] at hc;obtain ⟨e',h',hk,hL',nJ⟩:=E3I (id:=id) hE hc.1 hc.2 hL D7;exact ⟨.normal,e',h',hk,hL',nJ⟩
  ·cases hc
 | drawS m l s chk r' =>
  intro c k e h r hc D7 hL;unfold bF at hc;split at hc
  ·rename_i id ops;simp only [aex,D3b] at D7;obtain ⟨e',h',hk,hL',nJ⟩:=E1t (id:=id) hE (by simpa only [Bool.or_eq_true] using hc) hL D7;exact ⟨.normal,e',h',hk,hL',nJ⟩
  ·cases hc
 | seq keep a b iha ihb =>
  intro c k e h r hc D7 hL;unfold bF at hc;split at hc
  ·rename_i x y;simp only [E8j] at hc;simp only [aex,D5I,E10] at D7;obtain ⟨x1,e1,h1,hk1,hL1,B2V⟩:=iha x _ e h r hc.1 D7 hL;cases x1 with
   | normal =>
    change hold (aex E n b k (e1.keep keep) h1)=A4 r at hk1;simp only [hold] at hk1;obtain ⟨x2,e2,h2,hk2,hL2,E5E⟩:=ihb y k (e1.keep keep) h1 r hc.2 hk1 hL1;refine ⟨x2,e2,h2,hk2,hL2,fun J U a w hs hi hN hd Q hq=>wp_seq (B2V J U a w hs hi hN hd _ ?_)⟩;intro μ1 a1 w1 g1 g2 g3 g4 g5 g6;exact E5E J μ1 a1 w1 (g3.keep keep) g4 g5 g6 Q fun μ2 a2 w2 f1 f2 f3 f4 f5 f6=>hq μ2 a2 w2 (Mu.le_trans g1 f1) (λid hid=>(f2 id hid).trans (g2 id hid)) f3 f4 f5 f6
   | exit id=>exact ⟨.exit id,e1,h1,hk1,hL1,fun J U a w hs hi hN hd Q hq=>wp_seq (B2V J U a w hs hi hN hd _ hq)⟩
   | ret=>exact ⟨.ret,e1,h1,hk1,hL1,fun J U a w hs hi hN hd Q hq=>wp_seq (B2V J U a w hs hi hN hd _ hq)⟩
  ·cases hc
 | cond q a b iha ihb =>
  intro c k e h r hc D7 hL;unfold bF at hc;split at hc
  ·rename_i z x y;simp only [E8j] at hc;simp only [aex,C8K,cnd] at D7;split at D7
   ·rename_i t tH;have hz:∀ {U:Mu} {a:Act},SEnv U e a->a.eval z=.bool t:=by
     intro U a hs;have:RV U _ _:=D4 hc.1.1 hs;rw [tH] at this;exact this
    cases t with
    | true =>
     obtain ⟨x1,e1,h1,hk1,hL1,B2V⟩:=iha x k e h r hc.1.2 D7 hL;exact ⟨x1,e1,h1,hk1,hL1,fun J U a w hs hi hN hd Q hq=>wp_cond_true (hz hs) (B2V J U a w hs hi hN hd Q hq)⟩
    | false =>
     obtain ⟨x1,e1,h1,hk1,hL1,B2V⟩:=ihb y k e h r hc.2 D7 hL;exact ⟨x1,e1,h1,hk1,hL1,fun J U a w hs hi hN hd Q hq=>wp_cond_false (hz hs) (B2V J U a w hs hi hN hd Q hq)⟩
   ·cases D7
  ·cases hc
 | block id a iha =>
  intro c k e h r hc D7 hL;unfold bF at hc;split at hc
  ·rename_i cP x;simp only [E8j,decide_eq_true_eq] at hc;obtain ⟨rfl,hc⟩:=hc;simp only [aex,C1k,D6Q] at D7;obtain ⟨x1,e1,h1,hk1,hL1,B2V⟩:=iha x _ e h r hc D7 hL;cases x1 with
   | normal=>exact ⟨.normal,e1,h1,hk1,hL1,fun J U a w hs hi hN hd Q hq=>wp_block (B2V J U a w hs hi hN hd _ hq)⟩
   | exit i =>
    change (bif Nat.beq i cP then k .normal e1 h1 else k (.exit i) e1 h1)=A4 r at hk1;cases hb:Nat.beq i cP with
    | true =>
     rw [hb] at hk1;have hi':=Nat.eq_of_beq_eq_true hb;subst hi';exact ⟨.normal,e1,h1,hk1,hL1,fun J U a w hs hi hN hd Q hq=>wp_block (B2V J U a w hs hi hN hd _ fun μ1 a1 w1 g1 g2 g3 g4 g5 g6=>by
      show (if i=i then Q .normal a1 w1 else _);rw [if_pos rfl];exact hq μ1 a1 w1 g1 g2 g3 g4 g5 g6)⟩
    | false =>
     rw [hb] at hk1;have aZ:i≠cP:=by intro e;subst e;simp at hb
     exact ⟨.exit i,e1,h1,hk1,hL1,fun J U a w hs hi hN hd Q hq=>wp_block (B2V J U a w hs hi hN hd _ fun μ1 a1 w1 g1 g2 g3 g4 g5 g6=>by
      show (if i=cP then _ else Q (.exit i) a1 w1);rw [if_neg aZ];exact hq μ1 a1 w1 g1 g2 g3 g4 g5 g6)⟩
   | ret=>exact ⟨.ret,e1,h1,hk1,hL1,fun J U a w hs hi hN hd Q hq=>wp_block (B2V J U a w hs hi hN hd _ hq)⟩
  ·cases hc
 | loop keep a iha =>
  intro c k e h r hc D7 hL;unfold bF at hc;split at hc
  ·rename_i x;simp only [aex,C8L] at D7;have key:∀ (m:Nat) (e:Env) (h:A9),A8i (aex E n a) keep k m e h=A4 r->L<=h.length ->
     ∃ x1 e' h',k x1 e' h'=A4 r/\L<=h'.length/\B5K P N L (λQ=>Code.rounds P x Q m) e h x1 e' h':=by
    intro m
    induction m with
    | zero=>intro e h D7;rw [C3X] at D7;cases D7
    | succ m ih =>
     intro e h D7 hL;rw [C3W] at D7;obtain ⟨x1,e1,h1,hk1,hL1,B2V⟩:=iha x _ e h r hc D7 hL;cases x1 with
     | normal =>
      simp only at hk1;obtain ⟨x2,e2,h2,hk2,hL2,E5E⟩:=ih (e1.keep keep) h1 hk1 hL1;refine ⟨x2,e2,h2,hk2,hL2,fun J U a w hs hi hN hd Q hq=>?_⟩;show Code.rounds P x Q (m+1) a w;rw [rounds_succ];refine B2V J U a w hs hi hN hd _ ?_;intro μ1 a1 w1 g1 g2 g3 g4 g5 g6;exact E5E J μ1 a1 w1 (g3.keep keep) g4 g5 g6 Q fun μ2 a2 w2 f1 f2 f3 f4 f5 f6=>hq μ2 a2 w2 (Mu.le_trans g1 f1) (λid hid=>(f2 id hid).trans (g2 id hid)) f3 f4 f5 f6
     | exit id=>exact ⟨.exit id,e1,h1,hk1,hL1,fun J U a w hs hi hN hd Q hq=>by
       show Code.rounds P x Q (m+1) a w;rw [rounds_succ];exact B2V J U a w hs hi hN hd _ hq⟩
     | ret=>exact ⟨.ret,e1,h1,hk1,hL1,fun J U a w hs hi hN hd Q hq=>by
       show Code.rounds P x Q (m+1) a w;rw [rounds_succ];exact B2V J U a w hs hi hN hd _ hq⟩
   obtain ⟨x1,e1,h1,hk1,hL1,B2V⟩:=key n (e.keep keep) h D7 hL;exact ⟨x1,e1,h1,hk1,hL1,fun J U a w hs hi hN hd Q hq=>wp_loop_rounds n (B2V J U a w (hs.keep keep) hi hN hd Q hq)⟩
  ·cases hc
 | exit id =>
  intro c k e h r hc D7 hL;unfold bF at hc;split at hc
  ·simp at hc;subst hc;exact ⟨.exit _,e,h,D7,hL,fun J U a w hs hi hN hd Q hq=>wp_exit (hq U a w (Mu.le_refl _) (λ_ _=>rfl) hs hi hN hd)⟩
  ·cases hc
 | ret =>
  intro c k e h r hc D7 hL;unfold bF at hc;split at hc
  ·exact ⟨.ret,e,h,D7,hL,fun J U a w hs hi hN hd Q hq=>wp_ret (hq U a w (Mu.le_refl _) (λ_ _=>rfl) hs hi hN hd)⟩
  ·cases hc
def B5g(tmps:Array Value):ResultVar->Sem Value
 | .tmp t=>pure (tmps.getD t undef)
 | .cell a t=>do loadVar t (<-asAddr (tmps.getD a undef))
def D1k{J:Ctx}{U:Mu}{e:Env}{h:A9}{a:Act}{w:World}{q:ResultVar}{q':ARes}{v:Val}(hs:SEnv U e a)(hi:Inv J U h w)(hc:dH P [q] [q']=A5)(hv:D8L e h q'=A4 v) :
  ∃ V,(B5g a.tmps q).run P w=.ok V w/\RV U v V:=by
 cases q with
 | tmp t =>
  cases q' with
  | tmp t' =>
   simp [dH] at hc;subst hc;simp [D8L] at hv;subst hv;exact ⟨_,rfl,hs t⟩
  | cell1 t'=>simp [dH] at hc
  | cellN t' n=>simp [dH] at hc
 | cell t ty =>
  cases q' with
  | tmp t'=>simp [dH] at hc
  | cell1 t' =>
   simp [dH] at hc;obtain ⟨rfl,tG⟩:=hc;simp only [D8L] at hv;obtain ⟨V,h1,h2⟩:=D1v (P:=P) (w:=w) tG hi.rows (hs t) hv;refine ⟨V,?_,h2⟩;rw [<-h1];have:∃ b,a.tmps.getD t undef=.pointer (A4 b):=by
    unfold B9 at hv;split at hv
    ·rename_i tH;have:=hs t;rw [tH] at this;obtain ⟨b,n,_,h3⟩:=this;exact ⟨_,h3⟩
    ·cases hv
   obtain ⟨b,hb⟩:=this;simp only [B5g,hb,Instr.loadAt,asAddr,Instr.sureAddr,pure_bind]
  | cellN t' n =>
   simp [dH] at hc;obtain ⟨⟨rfl,tG⟩,hsz⟩:=hc;simp only [D8L] at hv;obtain ⟨V,h1,h2⟩:=D1w (P:=P) (w:=w) tG hsz hi.rows (hs t) hv;refine ⟨V,?_,h2⟩;rw [<-h1];have:∃ b,a.tmps.getD t undef=.pointer (A4 b):=by
    unfold C9 at hv;split at hv
    ·rename_i tH;have:=hs t;rw [tH] at this;obtain ⟨b,n,_,h3⟩:=this;exact ⟨_,h3⟩
    ·cases hv
   obtain ⟨b,hb⟩:=this;simp only [B5g,hb,Instr.loadAt,asAddr,Instr.sureAddr,pure_bind]
def C31{q:ResultVar}{r:List ResultVar}{q':ARes}{l:List ARes}(h:dH P (q::r) (q'::l)=A5):dH P [q] [q']=A5/\dH P r l=A5:=by
 cases q<;>cases q'<;>simp_all [dH]
def D0v{J:Ctx}{U:Mu}{e:Env}{h:A9}{a:Act}{w:World}(hs:SEnv U e a)(hi:Inv J U h w):∀ {qs:List ResultVar} {ls:List ARes} {ps:List Part},dH P qs ls=A5->C3V e h ls=A4 ps ->
  ∃ Vs:List Value,(qs.mapM (B5g a.tmps)).run P w=.ok Vs w/\All2 (RP U) ps Vs
 | [],[],ps,_,hv=>by simp [C3V] at hv;subst hv;exact ⟨[],rfl,trivial⟩
 | q::qs,q'::ls,ps,hc,hv=>by
  simp only [C3V,E8i,E8G] at hv;obtain ⟨v,hv1,p,hp,l,hl,rfl⟩:=hv;obtain ⟨h1,h2⟩:=C31 hc;obtain ⟨V,h3,h4⟩:=D1k hs hi h1 hv1;obtain ⟨Vs,h5,h6⟩:=D0v hs hi h2 hl;refine ⟨V::Vs,?_,RP.ofVal h4 hp,h6⟩;rw [List.mapM_cons];simp [h3,h5]
 | [],_::_,_,h,_=>by simp [dH] at h
 | _::_,[],_,h,_=>by simp [dH] at h
def D5o{fn:Func}{tmps:Array Value}{w:World}:(results fn tmps).run P w=((fn.results.toList.mapM (B5g tmps)).run P w).andThen λvs w=>.ok (if h:vs.toArray.size=1 then vs.toArray[0] else .tuple vs.toArray) w:=by
 unfold results;rw [Array.mapM_eq_mapM_toList];simp only [Sem.run_bind,Sem.run_map];have key:∀ g:ResultVar->Sem Value,(∀ q,g q=B5g tmps q)->((((List.mapM g fn.results.toList).run P w).andThen λa w'=>Result.ok a.toArray w').andThen λa w'=>(pure (if h:a.size=1 then a[0] else Value.tuple a):Sem Value).run P w') =
   ((fn.results.toList.mapM (B5g tmps)).run P w).andThen λvs w=>.ok (if h:vs.toArray.size=1 then vs.toArray[0] else .tuple vs.toArray) w:=by
  intro g hg;rw [funext hg];cases (fn.results.toList.mapM (B5g tmps)).run P w<;>rfl
 exact key _ λq=>by cases q<;>rfl
def B8q{J:Ctx}{U:Mu}{e:Env}{h h':A9}{a:Act}{w:World}{fn:Func}{rs:List ARes}{v:Val}(hs:SEnv U e a)(hi:Inv J U h w)(hc:dH P fn.results.toList rs=A5)(hv:qR rs e h=A4 (v,h')) :
  ∃ V,(results fn a.tmps).run P w=.ok V w/\RV U v V/\h'=h:=by
 rw [D5o];unfold qR at hv;split at hv
 ·rename_i q';simp only [E8G,E8v] at hv;obtain ⟨_,h1,rfl,rfl⟩:=hv;cases hq:fn.results.toList with
  | nil=>rw [hq] at hc;simp [dH] at hc
  | cons q r =>
   cases r with
   | cons q2 r=>rw [hq] at hc;have:=(C31 hc).2;simp [dH] at this
   | nil =>
    rw [hq] at hc;obtain ⟨V,h3,h4⟩:=D1k hs hi hc h1;refine ⟨V,?_,h4,rfl⟩;rw [List.mapM_cons];simp [h3]
 ·rename_i aZ;simp only [E8G,E8v] at hv;obtain ⟨l,h1,rfl,rfl⟩:=hv;obtain ⟨Vs,h3,h4⟩:=D0v hs hi hc h1;refine ⟨.tuple Vs.toArray,?_,⟨Vs,rfl,h4⟩,rfl⟩;rw [h3];have hl:Vs.length≠1:=by
   rw [<-h4.length];intro h0;have:∀ (ls:List ARes) (ps:List Part),C3V e h ls=A4 ps->ls.length=ps.length:=by
    intro ls
    induction ls with
    | nil=>intro ps h;simp [C3V] at h;subst h;rfl
    | cons x r ih =>
     intro ps h;simp only [C3V,E8i,E8G] at h;obtain ⟨_,_,_,_,l',hl',rfl⟩:=h;simp [ih l' hl']
   have h5:=this _ _ h1;rw [h0] at h5;cases rs with
   | nil=>simp at h5
   | cons q r =>
    cases r with
    | nil=>exact aZ q rfl
    | cons _ _=>simp at h5
  simp [hl]
def C8x:∀ (args:List Val) (i t:Nat),(params i args).get t=if i<=t then (args[t-i]?).getD .un else .un
 | [],i,t=>by simp [params,Env.get]
 | v::r,i,t=>by
  simp only [params,Env.get];by_cases h:i=t
  ·subst h;simp
  ·have hb:Nat.beq i t=A6:=by cases hb:Nat.beq i t with
    | false=>rfl
    | true=>exact absurd (Nat.eq_of_beq_eq_true hb) h
   rw [hb,cond_false,C8x r (i+1) t];by_cases h2:i<=t
   ·have:t-i=(t-(i+1))+1:=by omega
    rw [if_pos h2,if_pos (by omega),this,List.getElem?_cons_succ]
   ·rw [if_neg h2,if_neg (by omega)]
def Inv.ds{J:Ctx}{U:Mu}{h:A9}{w:World}(ds:List Deferred)(hi:Inv J U h w):Inv { J with ds:=ds } U h w :=
 ⟨hi.rows,hi.sep,hi.own,hi.dom,⟨hi.ctx.os,hi.ctx.tape,hi.ctx.output,hi.ctx.block⟩⟩
def D3G{U:Mu}{args:List Val}{V:List Value}(hargs:All2 (RV U) args V)(n:Nat):SEnv U (params 0 args) { tmps:=V.toArray++Array.replicate n undef,defers:=[] }:=by
 intro t;rw [C8x];simp only [Nat.zero_le,if_true,Nat.sub_zero];cases ha:args[t]? with
 | none=>trivial
 | some x =>
  obtain ⟨X,h2,h3⟩:=hargs.get t x ha;have W4:=(E8p.1 h2).1;have:(V.toArray++Array.replicate n undef).getD t undef=X:=by
   rw [Array.getD_eq_getD_getElem?,Array.getElem?_append_left (by simpa using W4)];simp [h2]
  rw [this];exact h3
def E4L{E:K7}(hE:jK P E){f:FuncId}{fn:Func}{af:AFn}(hf:P.funcs[f]?=A4 fn)(hc:C63 P fn af=A5){n:Nat}{args:List Val}{h h':A9}{v:Val}(D7:af.run E n args h=A4 (v,h')) :
  nO P f/\h.length<=h'.length/\∃ c,fn.body=A4 c/\∀ (J:Ctx) (U:Mu) (w:World) (V:List Value),Inv J U h w->All2 (RV U) args V ->
   c.wp P (bodyPost P fn λe w'=>∃ V' U',e=.returned V' /\ U.le U'/\RV U' v V'/\Inv J U' h' w'/\∀ id,id<h.length -> U' id = U id) { tmps:=V.toArray++Array.replicate (fn.ntmps-V.toArray.size) undef,defers:=[] } w:=by
 simp only [C63,E8j,E9b] at hc;obtain ⟨⟨hb,hr⟩,D4v⟩:=hc;cases A9O:fn.body with
 | none=>rw [A9O] at hb;cases hb
 | some c =>
  rw [A9O] at hb;unfold AFn.run at D7;obtain ⟨x,e',h1,hk,hL,nJ⟩:=D56 (L:=h.length) hE n af.code c af.fin (params 0 args) h (v,h') hb D7 (E8m _);have hlen:h.length<=h'.length:=by
   cases x with
   | normal=>simp only [AFn.fin] at hk;unfold qR at hk;split at hk<;>simp at hk<;>obtain ⟨_,_,_,rfl⟩:=hk<;>exact hL
   | ret=>simp only [AFn.fin] at hk;unfold qR at hk;split at hk<;>simp at hk<;>obtain ⟨_,_,_,rfl⟩:=hk<;>exact hL
   | exit=>simp [AFn.fin] at hk
  refine ⟨⟨fn,hf,D4v,by simp [A9O]⟩,hlen,c,rfl,?_⟩;intro J U w V hi hargs;refine nJ { J with ds:=[] } U _ w (D3G hargs _) (hi.ds []) ?_ rfl _ ?_
  ·simp;omega
  ·intro U' a' w' g1 g2 g3 g4 g5 g6;have fin:∀ hk:qR af.res e' h1=A4 (v,h'),a'.defers=[]/\∃ v_1,(results fn a'.tmps).run P w'=.ok v_1 w'/\∃ V' U',Ending.returned v_1=.returned V' /\ U.le U'/\RV U' v V'/\Inv J U' h' w'/\∀ id,id<h.length -> U' id = U id:=by
    intro hk;obtain ⟨V',h2,h3,h4⟩:=B8q g3 g4 hr hk;subst h4;exact ⟨g6,V',h2,V',U',rfl,g1,h3,g4.ds J.ds,g2⟩
   cases x with
   | normal=>exact fin hk
   | ret=>exact fin hk
   | exit=>simp [AFn.fin] at hk
def E6p{E:K7}(hE:jK P E){f:FuncId}{fn:Func}{af:AFn}(hf:P.funcs[f]?=A4 fn)(hc:C63 P fn af=A5){n:Nat}{args:List Val}{h h':A9}{v:Val}(D7:af.run E n args h=A4 (v,h')) :
  nO P f/\CallOk P f args h v h'/\h.length<=h'.length:=by
 obtain ⟨h1,h2,c,hb,hw⟩:=E4L hE hf hc D7;exact ⟨h1,fun J U w V hi hargs=>calls_of_wp hf hb (hw J U w V hi hargs),h2⟩
end
end Go.Esc
namespace Go.Esc
open Go Go.ChangeShapes Go.WideShapes Go.ChangeAt Go.RowKit
def C7h(W:World):Ctx:=⟨λb=>W.heap[b]?,W.os,W.tape,W.output,[]⟩
def D2b{W w:World}(h:(C7h W).ok w):Below W.heap.size W w:=by
 have hb:∀ k,k<W.heap.size->w.heap[k]?=W.heap[k]? := by
  intro k hk;have e:W.heap[k]?=A4 W.heap[k]:=by simp [hk]
  rw [e];exact h.block k _ e
 refine ⟨h.os,h.tape,h.output,?_,hb⟩;rcases Nat.eq_zero_or_pos W.heap.size with h0 | h0
 ·omega
 ·have:=hb (W.heap.size-1) (by omega);have e:W.heap[W.heap.size-1]?=A4 (W.heap[W.heap.size-1]'(by omega)):=by simp
  rw [e] at this;have:=(Array.getElem?_eq_some_iff.1 this).1;omega
def C9T{W w:World}{may:MemPlace->Prop}(h:Below W.heap.size W w):W.keptBut w may:=by
 refine ⟨h.os,h.output,λi hi=>?_⟩;rw [h.block i hi];cases W.heap[i]? with
 | none=>rfl
 | some o=>cases o<;>simp
section
variable {H:Type} {enc:TypeId × Value->H} {P:Program}
def D0C(hl:laidOutB P=A5){W W':World}(hb:Below W.heap.size W W'):∀ {ts:List TypeId} {vs:List Value} {ds:List (DataW H)} {ps:List MemPlace},
  (∀ t∈ts,P.readableRec t=A5/\t<P.types.size)->(∀ x∈ps,x.block<W.heap.size)->DataW.TrodAll enc P W 0 (λ_=>A5) A5 ts vs ds ps->DataW.TrodAll enc P W' 0 (λb=>decide (b<W.heap.size)) A5 ts vs ds ps
 | [],[],[],_,_,_,h=>h
 | t::ts,v::vs,d::ds,_,hts,W4,⟨p,q,h1,h2,e⟩=>by
  subst e;exact ⟨p,q,Below.trod hl (hts t (by simp)).1 (hts t (by simp)).2 h1 hb (λx hx=>W4 x (E8W _ hx)),D0C hl hb (λt ht=>hts t (by simp [ht])) (λx hx=>W4 x (List.mem_append_right _ hx)) h2,rfl⟩
 | [],_::_,_,_,_,_,h=>by cases h
 | [],[],_::_,_,_,_,h=>by cases h
 | _::_,[],_,_,_,_,h=>by cases h
 | _::_,_::_,[],_,_,_,h=>by cases h
def D91{f:Func}{s:ChangeSpec}{apart:Bool}{tb:TypeId}{W W':World}{args:Array Value}{ds gs:List (DataW H)}{before:List MemPlace}
  (hl:laidOutB P=A5) (hts:∀ t∈f.params.toList,P.readableRec t=A5/\t<P.types.size) (hr:f.resultTypes = #[tb]) (hb:P.underlying tb=A4 .bool) (hv:s.vars=[])
  (hs:∀ ds:List (DataW H),ds.length=f.params.toList.length->s.fn H ds={ results:=[.lit (.bool A5)],args:=ds })
  (hW:DataW.Whole enc P f.params.toList s.vars apart W args.toList ds gs before) (hB:Below W.heap.size W W') :
  s.post enc P f apart A5 A6 A6 W args (.bool A5) W':=by
 have W4:=hW.lt;obtain ⟨p,q,h1,h2,h3,h4,h5⟩:=id hW;rw [hv] at h2;obtain ⟨rfl,rfl⟩:=trodVars_none h2;rw [E8C] at h3;subst h3;have hd:ds.length=f.params.toList.length:=(trodAll_length h1).2;have hfn:s.fn H (ds++[])={ results:=[.lit (.bool A5)],args:=ds }:=by rw [E8C];exact hs ds hd
 refine ⟨ds,[],before,[],before,[],hW,?_,?_,?_,World.keptBut_mono (λ_ h=>h) (C9T hB),λh=>by cases h⟩
 ·rw [hfn,hr];exact trodAll_mk1 (shut_bool hb A5)
 ·rw [hfn];exact D0C hl hB hts W4 h1
 ·rw [hfn,hv];exact rfl
end
def E2C{C:Checked}{os:Os}{H:Type}{enc:TypeId × Value->H}{f:FuncId}{fn:Func}{s:ChangeSpec}{conds:List PathCond}{tb:TypeId}
  (own:ownKnob C.prog.godebug=A7) (started:os.Started) (E5T:C.prog.inits.idxOf? f=A7) (hfn:C.prog.funcs[f]?=A4 fn)
  (witness:∃ (w:World) (tape:Tape) (i:Input),w.os=os/\(w.forCall tape i).Shaped C.prog/\i.vars=[]/\Input.okWide C.prog (w.forCall tape i) .any w.heap.size f i /\
   s.pre6 enc C.prog fn conds A6 (w.forCall tape i).memory i.args/\Assume.holds {} C.prog (lone (Frame.enter C.prog f i.args .normal) [] (w.forCall tape i)))
  (hl:laidOutB C.prog=A5) (hts:∀ t∈fn.params.toList,C.prog.readableRec t=A5/\t<C.prog.types.size) (hr:fn.resultTypes = #[tb]) (hb:C.prog.underlying tb=A4 .bool) (hv:s.vars=[])
  (hs:∀ ds:List (DataW H),ds.length=fn.params.toList.length->s.fn H ds={ results:=[.lit (.bool A5)],args:=ds })
  (walk:∀ (W:World) (base:Nat) (args:Array Value) (ds:List (DataW H)) (ps:List MemPlace),
   (∀ (j:Nat) t v,fn.params[j]?=A4 t->args[j]?=A4 v->Value.okWide C.prog W .any base t v) ->
   DataW.TrodAll enc C.prog W 0 (λ_=>A5) A5 fn.params.toList args.toList ds ps ->
   ∃ vals h U h',Inv (C7h W) U h W/\All2 (RV U) vals args.toList/\CallOk C.prog f vals h (.c (.b A5)) h') :
  ReturnsInHanded {} C os f .any (s.pre6 enc C.prog fn conds A6) (s.post enc C.prog fn A6 A5 A6 A6):=by
 refine returnsInHanded_of_change own started E5T hfn witness ?_;intro W base args ds gs before C7S hW _ _;obtain ⟨p,q,hA,_⟩:=id hW;obtain ⟨vals,h,U,h',hi,hv2,hc⟩:=walk W base args ds p (λj t v h1 h2=>C7S j t v h1 h2) hA;refine (hc (C7h W) U W args.toList hi hv2).mono λe W' ⟨V',U',he,_,hV,hi',_⟩=>?_
 have:V'=.bool A5:=hV;subst this;exact ⟨_,he,D91 hl hts hr hb hv hs hW (D2b hi'.ctx)⟩
def Inv.nought(W:World):Inv (C7h W) (λ_=>Option.none) [] W where
 rows:=λid r h=>by simp [rd] at h
 sep:=λid cP r r' x x' h=>by simp [rd] at h
 own:=λid r x h=>by simp [rd] at h
 dom:=λ_ _=>rfl
 ctx:=⟨rfl,rfl,rfl,λ_ _ h=>h⟩
end Go.Esc
namespace Go.Esc
section
variable {R:Type} {E:K7}
def E0P{q:Bool}{hr:A9}{n0:Nat}{slot:Option Nat}{o:AOp}{e:Env}{h:A9}{k k':Val->A9->Option R}(hk:∀ v h p,k v h=A4 p->k' v h=A4 p){p:R}
  (hp:aop E q hr n0 slot o e h k=A4 p):aop E q hr n0 slot o e h k'=A4 p:=by
 cases o<;>simp only [aop,E8i] at hp ⊢ <;> first | exact hk _ _ _ hp | (obtain ⟨x,hx,hp⟩:=hp;exact ⟨x,hx,hk _ _ _ hp⟩)
def B8p{q:Bool}{hr:A9}{n0:Nat}{o:AOper}{e:Env}{h:A9}{k k':Val->A9->Option R}(hk:∀ v h p,k v h=A4 p->k' v h=A4 p){p:R}
  (hp:aK E q hr n0 o e h k=A4 p):aK E q hr n0 o e h k'=A4 p:=by
 unfold aK at hp ⊢;cases hg:o.guard with
 | none=>rw [hg] at hp;exact E0P hk hp
 | some g =>
  rw [hg] at hp;simp only [E8i] at hp ⊢;obtain ⟨x,hx,hp⟩:=hp;exact ⟨x,hx,hk _ _ _ hp⟩
def B5M{k k':Env->A9->Option R}(hk:∀ e h p,k e h=A4 p->k' e h=A4 p):∀ {l:List AOper} {e:Env} {h:A9} {p:R},B4b E l e h k=A4 p->B4b E l e h k'=A4 p
 | [],_,_,_,hp=>hk _ _ _ hp
 | o::l,e,h,p,hp=>by
  rw [D0z] at hp ⊢;exact B8p (λv h p=>B5M hk) hp
def B8n{hr:A9}{n0:Nat}{k k':Env->A9->Option R}(hk:∀ e h p,k e h=A4 p->k' e h=A4 p):∀ {l:List AOper} {e:Env} {h:A9} {p:R},B7a E hr n0 l e h k=A4 p->B7a E hr n0 l e h k'=A4 p
 | [],_,_,_,hp=>hk _ _ _ hp
 | o::l,e,h,p,hp=>by
  rw [C6K] at hp ⊢;exact B8p (λv h p=>B8n hk) hp
def KLe(k k':B6f R):Prop:=∀ x e h p,k x e h=A4 p->k' x e h=A4 p
def E6l(s s':Sm R):Prop:=∀ k k':B6f R,KLe k k'->∀ e h p,s k e h=A4 p->s' k' e h=A4 p
def D0D{c c':Sm R}(hc:E6l c c'){keep:List Nat}{k k':B6f R}(hk:KLe k k'):∀ {n n':Nat},n<=n'->∀ e h p,A8i c keep k n e h=A4 p->A8i c' keep k' n' e h=A4 p
 | 0,_,_,e,h,p,hp=>by rw [C3X] at hp;cases hp
 | n+1,0,hn,e,h,p,hp=>by omega
 | n+1,n'+1,hn,e,h,p,hp=>by
  rw [C3W] at hp ⊢;refine hc _ _ (λx e h p hp=>?_) e h p hp;cases x with
  | normal=>exact D0D hc hk (by omega) _ _ _ hp
  | exit id=>exact hk _ _ _ _ hp
  | ret=>exact hk _ _ _ _ hp
def C6O{e:Env}{h:A9}{k k':Option R}{p:R}(hk:k=A4 p->k'=A4 p):∀ {l:List (Nat × AOp)},again l e h k=A4 p->again l e h k'=A4 p
 | [],hp=>hk hp
 | c::l,hp=>by
  rw [C6N] at hp ⊢;unfold agn at hp ⊢;split at hp
  ·rename_i hc;rw [if_pos hc];exact C6O hk hp
  ·cases hp
def B8o{n n':Nat}(hn:n<=n'):∀ c:ACode,E6l (R:=R) (aex E n c) (aex E n' c)
 | .skip=>λk k' hk e h p hp=>hk _ _ _ _ hp
 | .ops l=>λk k' hk e h p hp=>B5M (λe h p hp=>hk _ _ _ _ hp) hp
 | .draw m l r=>λk k' hk e h p hp=>B8n (λe h p hp=>B5M (λe h p hp=>hk _ _ _ _ hp) hp) hp
 | .drawS m l s chk r=>λk k' hk e h p hp=>B8n (λe h p hp=>B8p (λv h p hp=>C6O (λhp=>B5M (λe h p hp=>hk _ _ _ _ hp) hp) hp) hp) hp
 | .seq keep a b=>λk k' hk e h p hp=>by
  refine B8o hn a _ _ (λx e h p hp=>?_) e h p hp;cases x with
  | normal=>exact B8o hn b k k' hk _ _ _ hp
  | exit id=>exact hk _ _ _ _ hp
  | ret=>exact hk _ _ _ _ hp
 | .cond c a b=>λk k' hk e h p hp=>by
  change cnd (e.ev c) (aex E n a k e h) (aex E n b k e h)=A4 p at hp;change cnd (e.ev c) (aex E n' a k' e h) (aex E n' b k' e h)=A4 p;unfold cnd at hp ⊢;split at hp
  ·rename_i x _;cases x
   ·exact B8o hn b k k' hk _ _ _ hp
   ·exact B8o hn a k k' hk _ _ _ hp
  ·cases hp
 | .block id a=>λk k' hk e h p hp=>by
  refine B8o hn a _ _ (λx e h p hp=>?_) e h p hp;cases x with
  | normal=>exact hk _ _ _ _ hp
  | ret=>exact hk _ _ _ _ hp
  | exit i =>
   change (bif Nat.beq i id then k .normal e h else k (.exit i) e h)=A4 p at hp;change (bif Nat.beq i id then k' .normal e h else k' (.exit i) e h)=A4 p;cases hb:Nat.beq i id with
   | true=>simp only [hb,cond_true] at hp ⊢;exact hk _ _ _ _ hp
   | false=>simp only [hb,cond_false] at hp ⊢;exact hk _ _ _ _ hp
 | .loop keep a=>λk k' hk e h p hp=>D0D (B8o hn a) hk hn _ _ _ hp
 | .exit id=>λk k' hk e h p hp=>hk _ _ _ _ hp
 | .ret=>λk k' hk e h p hp=>hk _ _ _ _ hp
def E2J{f:AFn}{n n':Nat}(hn:n<=n'){args:List Val}{h:A9}{p:Val × A9}(hp:f.run E n args h=A4 p):f.run E n' args h=A4 p :=
 B8o hn f.code _ _ (λ_ _ _ _ h=>h) _ _ _ hp
open Classical in
def Lim (f:AFn) (E:K7) (args:List Val) (h:A9):Option (Val × A9) :=
 if H:∃ p n,f.run E n args h=A4 p then A4 H.choose else A7
def E44{f:AFn}{n:Nat}{args:List Val}{h:A9}{p:Val × A9}(hp:f.run E n args h=A4 p):Lim f E args h=A4 p:=by
 have H:∃ p n,f.run E n args h=A4 p:=⟨p,n,hp⟩;unfold Lim;rw [dif_pos H];obtain ⟨m,hm⟩:=H.choose_spec;have h1:=E2J (Nat.le_max_left n m) hp;have h2:=E2J (Nat.le_max_right n m) hm;rw [h1] at h2;exact h2.symm
def D7J{f:AFn}{args:List Val}{h:A9}{p:Val × A9}(hp:Lim f E args h=A4 p):∃ n,f.run E n args h=A4 p:=by
 unfold Lim at hp;split at hp
 ·rename_i H;cases hp;exact H.choose_spec
 ·cases hp
end
def bnd{α β:Type}(x:Option α)(f:α -> Option β):Option β:=x.bind f
def mp{α β:Type}(x:Option α)(f:α -> β):Option β:=x.map f
@[congr] theorem E68 {α β:Type} {x x':Option α} {f:α -> Option β} (h:x=x'):bnd x f=bnd x' f:=by rw [h]
@[congr] theorem E79 {α β:Type} {x x':Option α} {f:α -> β} (h:x=x'):mp x f=mp x' f:=by rw [h]
@[congr] theorem E69 {R:Type} {v v':Val} {a b:Option R} (h:v=v'):cnd v a b=cnd v' a b:=by rw [h]
@[congr] theorem E7Y {v v':Val} {w:Bool} {a b:Option (Val × A9)} (h:v=v'):gd v w a b=gd v' w a b:=by rw [h]
@[congr] theorem E67 {R:Type} {x x':Option Val} {v v':Val} {k:Option R} (h:x=x') (h2:v=v'):agn x v k=agn x' v' k:=by rw [h,h2]
def E0J{R:Type}{v:Val}{k:Option R}:agn (A4 v) v k=k:=Eq.trans (if_pos rfl) rfl
@[simp] theorem C7 {α β:Type} {a:α} {f:α -> Option β}:bnd (A4 a) f=f a:=Eq.trans rfl rfl
@[simp] theorem D2O {α β:Type} {a:α} {f:α -> β}:mp (A4 a) f=A4 (f a):=Eq.trans rfl rfl
section
variable {R:Type} {k:IntKind} {a b:Int} {s t:List UInt8} {h:A9}
@[simp] theorem E3j:D3z (.c (.s s))=A4 (.c (.i .i64 s.length)):=rfl
@[simp] theorem A6U {id off len sz:Nat}:B6y (.c (.sl id off len sz))=A4 (.c (.i .i64 len)):=rfl
@[simp] theorem E3k:B6y (.c .ns)=A4 (.c (.i .i64 0)):=rfl
@[simp] theorem L8:N4 .add (.c (.i k a)) (.c (.i k b))=A4 (.c (.i k (k.wrap (a+b)))):=by simp [N4,B4R]
@[simp] theorem E0D:N4 .sub (.c (.i k a)) (.c (.i k b))=A4 (.c (.i k (k.wrap (a-b)))):=by simp [N4,B4R]
@[simp] theorem E0A:N4 .mul (.c (.i k a)) (.c (.i k b))=A4 (.c (.i k (k.wrap (a*b)))):=by simp [N4,B4R]
@[simp] theorem E0B (hb:b≠0):N4 .quo (.c (.i k a)) (.c (.i k b))=A4 (.c (.i k (k.wrap (a.tdiv b)))):=by simp [N4,B4R,hb]
@[simp] theorem E0C (hb:b≠0):N4 .rem (.c (.i k a)) (.c (.i k b))=A4 (.c (.i k (a.tmod b))):=by simp [N4,B4R,hb]
def D3v:N4 .and (.c (.i k a)) (.c (.i k b))=A4 (.c (.i k (k.wrap (BitVec.ofInt k.bits a &&& BitVec.ofInt k.bits b).toNat))):=by simp [N4,B4R]
def D14:N4 .or (.c (.i k a)) (.c (.i k b))=A4 (.c (.i k (k.wrap (BitVec.ofInt k.bits a ||| BitVec.ofInt k.bits b).toNat))):=by simp [N4,B4R]
def E0E:N4 .xor (.c (.i k a)) (.c (.i k b))=A4 (.c (.i k (k.wrap (BitVec.ofInt k.bits a ^^^ BitVec.ofInt k.bits b).toNat))):=by simp [N4,B4R]
@[simp] theorem dG:N4 .eql (.c (.i k a)) (.c (.i k b))=A4 (.c (.b (decide (a=b)))):=by simp [N4,B4R];rfl
@[simp] theorem A9g:N4 .neq (.c (.i k a)) (.c (.i k b))=A4 (.c (.b (decide (a≠b)))):=by simp [N4,B4R];by_cases h:a=b<;>simp [h]
@[simp] theorem G4:N4 .lss (.c (.i k a)) (.c (.i k b))=A4 (.c (.b (decide (a<b)))):=by simp [N4,B4R]
@[simp] theorem E0z:N4 .leq (.c (.i k a)) (.c (.i k b))=A4 (.c (.b (decide (a<=b)))):=by simp [N4,B4R]
@[simp] theorem C6H:N4 .gtr (.c (.i k a)) (.c (.i k b))=A4 (.c (.b (decide (b<a)))):=by simp [N4,B4R]
@[simp] theorem C6G:N4 .geq (.c (.i k a)) (.c (.i k b))=A4 (.c (.b (decide (b<=a)))):=by simp [N4,B4R]
@[simp] theorem D8G:N4 .eql (.c (.s s)) (.c (.s t))=A4 (.c (.b (decide (s=t)))):=by simp [N4,E2P];by_cases h:s=t<;>simp [h]
@[simp] theorem D8I:N4 .neq (.c (.s s)) (.c (.s t))=A4 (.c (.b (decide (s≠t)))):=by simp [N4,E2P];by_cases h:s=t<;>simp [h]
@[simp] theorem D8H:N4 .lss (.c (.s s)) (.c (.s t))=A4 (.c (.b (Y5 s t))):=by simp [N4,E2P]
@[simp] theorem yT {x:Bool}:aun .not (.c (.b x))=A4 (.c (.b (!x))):=rfl
@[simp] theorem E3e {n:Bool}:D16 A5 n (.c .nf)=A4 (.c (.b (!n))):=Eq.trans rfl rfl
@[simp] theorem E48 {n:Bool} {f:Nat} {cs:List (Nat × Nat)}:D16 A5 n (.c (.f f cs))=A4 (.c (.b n)):=Eq.trans rfl rfl
@[simp] theorem E3f {n:Bool}:D16 A6 n (.c .np)=A4 (.c (.b (!n))):=Eq.trans rfl rfl
@[simp] theorem E49 {n:Bool} {id off:Nat}:D16 A6 n (.c (.p id off))=A4 (.c (.b n)):=Eq.trans rfl rfl
@[simp] theorem A6W {id off:Nat}:A6V (.c (.p id off))=A4 (.c (.p id off)):=Eq.trans rfl rfl
@[simp] theorem E3u:aun .neg (.c (.i k a))=A4 (.c (.i k (k.wrap (0-a)))):=rfl
@[simp] theorem E47 {x y:Bool}:D54 A6 (.c (.b x)) (.c (.b y))=A4 (.c (.b (x==y))):=rfl
@[simp] theorem E46 {x y:Bool}:D54 A5 (.c (.b x)) (.c (.b y))=A4 (.c (.b (!(x==y)))):=rfl
@[simp] theorem E3d {k':IntKind}:D3w k (.c (.i k' a))=A4 (.c (.i k (k.wrap a))):=rfl
@[simp] theorem qQ {x:Bool} {u v:Val}:D0A (.c (.b x)) u v=A4 (bif x then u else v):=rfl
@[simp] theorem E4M {w:Bool} {u v:Option (Val × A9)}:gd .no w u v=v:=Eq.trans rfl rfl
@[simp] theorem D03 {u v:Option (Val × A9)}:gd (.c (.b A5)) A5 u v=u:=Eq.trans rfl rfl
@[simp] theorem E1G {u v:Option (Val × A9)}:gd (.c (.b A5)) A6 u v=v:=Eq.trans rfl rfl
@[simp] theorem E1F {u v:Option (Val × A9)}:gd (.c (.b A6)) A5 u v=v:=Eq.trans rfl rfl
@[simp] theorem D4p {u v:Option (Val × A9)}:gd (.c (.b A6)) A6 u v=u:=Eq.trans rfl rfl
@[simp] theorem X6 {u v:Option R}:cnd (.c (.b A5)) u v=u:=Eq.trans rfl rfl
@[simp] theorem Y6 {u v:Option R}:cnd (.c (.b A6)) u v=v:=Eq.trans rfl rfl
@[simp] theorem E3i {i:Nat}:C6P (.c (.s s)) (.c (.i k i))=(s[i]?).map λb=>.c (.i .u8 b.toNat):=by simp [C6P]
@[simp] theorem uS {l:List Part} {i:Nat}:E0H (.t l) i=(l[i]?).map ofPart:=rfl
@[simp] theorem dQ {x:Cell}:ofPart (.c x)=.c x:=rfl
@[simp] theorem dP {l:List Cell}:ofPart (.a l)=.a l:=rfl
@[simp] theorem D21 {x:Cell}:wA (.c x)=A4 (.c x):=rfl
@[simp] theorem D20 {l:List Cell}:wA (.a l)=A4 (.a l):=rfl
@[simp] theorem D3S {x:Cell}:cells? (.c x)=A4 [x]:=rfl
@[simp] theorem bQ {l:List Cell}:cells? (.a l)=A4 l:=rfl
@[simp] theorem D7D {u v:Option Val}:C3t [u,v] h=bnd u λu=>bnd (wA u) λp=>bnd v λv=>bnd (wA v) λq=>A4 (.t [p,q],h):=by
 cases u with
 | none=>rfl
 | some u=>cases v with
  | none=>cases hu:wA u<;>simp [C3t,C85,hu]<;>rfl
  | some v=>cases hu:wA u<;>cases hv:wA v<;>simp [C3t,C85,hu,hv]<;>rfl
@[simp] theorem E6e {u v w:Option Val}:C3t [u,v,w] h=bnd u λu=>bnd (wA u) λp=>bnd v λv=>bnd (wA v) λq=>bnd w λw=>bnd (wA w) λr=>A4 (.t [p,q,r],h):=by
 cases u with
 | none=>rfl
 | some u=>cases v with
  | none=>cases hu:wA u<;>simp [C3t,C85,hu]<;>rfl
  | some v=>cases w with
   | none=>cases hu:wA u<;>cases hv:wA v<;>simp [C3t,C85,hu,hv]<;>rfl
   | some w=>cases hu:wA u<;>cases hv:wA v<;>cases hw:wA w<;>simp [C3t,C85,hu,hv,hw]<;>rfl
def wrap_i64(h1:-9223372036854775808<=a)(h2:a<9223372036854775808):E8r .i64 a=a:=by
 change (if (A5&&decide (a%18446744073709551616>=9223372036854775808))=A5 then a%18446744073709551616-18446744073709551616 else a%18446744073709551616)=a;by_cases h:a%18446744073709551616>=9223372036854775808
 ·simp only [h,decide_true,Bool.true_and,if_true];omega
 ·simp only [h,decide_false,Bool.and_false,Bool.false_eq_true,if_false];omega
def wrap_u64(h1:0<=a)(h2:a<18446744073709551616):E8r .u64 a=a:=by
 simp only [E8r,IntKind.bits,IntKind.signed,E8E];have e1:(2:Int) ^ 64=18446744073709551616:=rfl;rw [e1];simp only [Bool.false_eq_true,if_false];omega
def wrap_u32(h1:0<=a)(h2:a<4294967296):E8r .u32 a=a:=by
 simp only [E8r,IntKind.bits,IntKind.signed,E8E];have e1:(2:Int) ^ 32=4294967296:=rfl;rw [e1];simp only [Bool.false_eq_true,if_false];omega
def wrap_u8(h1:0<=a)(h2:a<256):E8r .u8 a=a:=by
 simp only [E8r,IntKind.bits,IntKind.signed,E8E];have e1:(2:Int) ^ 8=256:=rfl;rw [e1];simp only [Bool.false_eq_true,if_false];omega
end
def Grows.rfl'{h:A9}:Grows h h:=⟨E9j _,λid x hid hx=>by have:=E1 hx;omega⟩
def Grows.trans'{a b c:A9}(h1:Grows a b)(h2:Grows b c):Grows a c:=by
 refine ⟨h1.1.trans h2.1,λid x hid hx=>?_⟩;by_cases hb:b.length<=id
 ·exact h2.2 id x hb hx
 ·refine h1.2 id x hid ?_;obtain ⟨t,rfl⟩:=h2.1;rw [<-hx];unfold rd;rw [E88 (by omega)]
def Grows.len{a b:A9}(h1:Grows a b):a.length<=b.length:=h1.1.length_le
def Grows.new{a b:A9}(h1:Grows a b)(cs:List Cell):Grows a (b++[A4 ⟨cs,A5⟩]):=by
 refine h1.trans' ⟨List.prefix_append _ _,λid x hid hx=>?_⟩;unfold Go.Esc.rd at hx;rw [E8L hid] at hx;cases hj:id-b.length with
 | zero=>rw [hj] at hx;simp at hx;subst hx;rfl
 | succ j=>rw [hj] at hx;simp at hx
def U9{h h':A9}{v:Val}(hg:Grows h h'):quiet h (A4 (v,h'))=A4 (v,h'):=by
 unfold quiet;simp only [E8z];rw [if_pos];exact hg
def N8{h:A9}{r:Row}:rd (h++[A4 r]) h.length=A4 r:=by
 unfold rd;simp
section
variable {h:A9} {id off n sz:Nat} {cs xs:List Cell} {x:Cell} {k:IntKind} {rw:Bool}
def B8(hr:rd h id=A4 ⟨cs,rw⟩){c:Cell}(hc:cs[off]?=A4 c)(hd:(rw || !c.isX)=A5):B9 h (.c (.p id off))=A4 (.c c):=by
 simp [B9,hr,hc,hd]
def S7(hr:rd h id=A4 ⟨cs,rw⟩)(hl:off+n<=cs.length)(hd:(rw||noX ((cs.drop off).take n))=A5):C9 h n (.c (.p id off))=A4 (.a ((cs.drop off).take n)):=by
 simp only [C9,hr,E8z];rw [if_pos ⟨hl,hd⟩]
def C8(hr:rd h id=A4 ⟨cs,A5⟩)(hl:cs.length=n):C9 h n (.c (.p id 0))=A4 (.a cs):=by
 rw [S7 hr (by omega) rfl,E8y,E8B (by omega)]
def I9(hr:rd h id=A4 ⟨cs,A5⟩)(hl:off<cs.length):I8 h (.c (.p id off)) (.c x)=A4 (h.set id (A4 ⟨cs.set off x,A5⟩)):=by
 simp [I8,hr,hl]
def C3o(hr:rd h id=A4 ⟨cs,A5⟩)(hx:xs.length=n)(hl:off+n<=cs.length):F7 h n (.c (.p id off)) (.a xs)=A4 (h.set id (A4 ⟨lay cs off xs,A5⟩)):=by
 simp [F7,hr,hl,hx]
def lay_all(hx:xs.length=cs.length):lay cs 0 xs=xs:=by simp [lay,hx]
def storeAll(hr:rd h id=A4 ⟨cs,A5⟩)(hl:cs.length=n)(hx:xs.length=n):F7 h n (.c (.p id 0)) (.a xs)=A4 (h.set id (A4 ⟨xs,A5⟩)):=by
 rw [C3o hr hx (by omega),lay_all (by omega)]
def O2{j:Nat}(hj:j<n):K2 n sz (.c (.p id off)) (.c (.i k j))=A4 (.c (.p id (off+j*sz))):=by
 simp only [K2];rw [if_pos ⟨by omega,by omega⟩];simp
def E4{len j:Nat}(hj:j<len):F0 sz (.c (.sl id off len sz)) (.c (.i k j))=A4 (.c (.p id (off+j*sz))):=by
 simp only [F0];rw [if_pos ⟨by omega,by omega,trivial⟩];simp
def B4S{l:List Cell}{j:Nat}(hj:j<n):A5j n (.a l) (.c (.i k j))=(l[j]?).map .c:=by
 simp only [A5j];rw [if_pos ⟨by omega,by omega⟩];simp
end
def oZ(l:List UInt8)(i:Nat)(x:UInt8):(B4 l).set i (.i .u8 x.toNat)=B4 (l.set i x):=by simp [B4,List.map_set]
def zG(l:List UInt8)(i:Nat):(B4 l)[i]?=(l[i]?).map λx=>.i .u8 x.toNat:=by simp [B4]
def A64(l m:List UInt8):B4 (l++m)=B4 l++B4 m:=by simp [B4]
def D80(l:List UInt8)(n:Nat):(B4 l).drop n=B4 (l.drop n):=by simp [B4]
def D81(l:List UInt8)(n:Nat):(B4 l).take n=B4 (l.take n):=by simp [B4]
def zeros(n:Nat):List UInt8:=E8l n 0
@[simp] theorem zeros_length {n:Nat}:(zeros n).length=n:=by simp [zeros]
def G9(n:Nat):E8l n (Cell.i .u8 0)=B4 (zeros n):=by simp [B4,zeros]
def V6(l:List UInt8):noX (B4 l)=A5:=by simp [noX,B4,Cell.isX]
def D4d{l m:List UInt8}:B4 l=B4 m↔l=m:=by
 constructor
 ·intro h;refine List.map_inj_right (λx y e=>?_) |>.1 h
  simp at e;exact UInt8.toNat_inj.1 (by omega)
 ·rintro rfl;rfl
def Cell.flat:Cell->Bool
 | .b _=>A5
 | .i _ _=>A5
 | .s _=>A5
 | .np=>A5
 | .ns=>A5
 | .nf=>A5
 | .nm=>A5
 | _=>A6
def M9(l:List Cell):Bool:=l.all Cell.flat
def Row.dim(r:Row):List Cell:=bif r.head then r.cells.map λ_=>.dark else r.cells
def ro(h:A9):A9:=h.map λr=>r.map λr=>⟨r.dim,A6⟩
def Row.dim_own(r:Row):(Row.mk r.dim A6).own=A6:=by
 obtain ⟨cs,w⟩:=r;unfold Row.dim;cases hh:Row.head ⟨cs,w⟩ with
 | false=>simpa [Row.own,Row.head] using hh
 | true =>
  cases cs with
  | nil=>rfl
  | cons c cs=>rfl
def G8{h:A9}:(ro h).length=h.length:=by simp [ro]
def D5l{h:A9}{id:Nat}:rd (ro h) id=(rd h id).map λr=>⟨r.dim,A6⟩:=by
 unfold rd ro;rw [List.getElem?_map];cases h[id]? with
 | none=>rfl
 | some x=>cases x<;>rfl
def C1f{h:A9}{id:Nat}{r:Row}(hr:rd h id=A4 r)(hh:r.head=A6):rd (ro h) id=A4 ⟨r.cells,A6⟩:=by
 rw [D5l,hr];show A4 (Row.mk r.dim A6)=_;unfold Row.dim;rw [hh];rfl
def E1P{cs:List Cell}{w:Bool}(h:noX cs=A5):(Row.mk cs w).head=A6:=by
 cases cs with
 | nil=>rfl
 | cons c cs=>cases c<;>first | rfl | (simp [noX,Cell.isX] at h)
def uD{h:A9}{id:Nat}{cs:List Cell}{w:Bool}(hr:rd h id=A4 ⟨cs,w⟩)(hx:noX cs=A5):rd (ro h) id=A4 ⟨cs,A6⟩:=C1f hr (E1P hx)
def newRow(h:A9)(id:Nat):Bool :=
 match rd h id with
 | some r=>r.rw&&M9 r.cells
 | none=>A6
def Cell.low(b:Nat):Cell->Bool
 | .p id _=>decide (id<b)
 | .sl id _ _ _=>decide (id<b)
 | .f _ caps=>caps.all λq=>decide (q.1<b)
 | .fb _ id _=>decide (id<b)
 | .m id=>decide (id<b)
 | c=>c.flat
def P8(h:A9)(b:Nat):List Nat->List Cell->Option (List Cell × List Nat)
 | seen,[]=>A4 ([],seen)
 | seen,c::r=>if c.low b=A5 then (P8 h b seen r).map λp=>(c::p.1,p.2) else
  match c with
  | .sl id off len sz=>if b<=id/\id ∉ seen/\newRow h id=A5 then (P8 h b (seen++[id]) r).map λp=>(.sl (b+seen.length) off len sz::p.1,p.2) else A7
  | _=>A7
def iJ(h:A9)(b:Nat):List Nat->List Part->Option (List Part × List Nat)
 | seen,[]=>A4 ([],seen)
 | seen,.c x::r=>(P8 h b seen [x]).bind λp=>match p.1 with
  | [y]=>(iJ h b p.2 r).map λq=>(.c y::q.1,q.2)
  | _=>A7
 | seen,.a l::r=>(P8 h b seen l).bind λp=>(iJ h b p.2 r).map λq=>(.a p.1::q.1,q.2)
def X5(h:A9)(b:Nat):Val->Option (Val × List Nat)
 | .c x=>(P8 h b [] [x]).bind λp=>match p.1 with
  | [y]=>A4 (.c y,p.2)
  | _=>A7
 | .a l=>(P8 h b [] l).map λp=>(.a p.1,p.2)
 | .t l=>(iJ h b [] l).map λp=>(.t p.1,p.2)
 | _=>A7
def C8Z(F:List Val->A9->Option (Val × A9))(args:List Val)(h:A9):Option (Val × A9) :=
 (F args (ro h)).bind λp=>(X5 p.2 h.length p.1).map λq=>(q.1,h++q.2.map (rd p.2))
def tidy(F:List Val->A9->Option (Val × A9))(args:List Val)(h:A9):Option (Val × A9) :=
 match C8Z F args h with
 | some r=>A4 r
 | none=>F args h
def RC.flat{U U':Mu}{c:Cell}{V:Value}(hf:c.flat=A5)(h:RC U c V):RC U' c V:=by
 cases c<;>first | exact h | cases hf
def RC.low{U U':Mu}{b:Nat}(hb:∀ id,id<b -> U' id = U id){c:Cell}{V:Value}(hf:c.low b=A5)(h:RC U c V):RC U' c V:=by
 cases c with
 | p id off =>
  obtain ⟨x,n,h1,h2⟩:=h;exact ⟨x,n,by rw [hb id (of_decide_eq_true hf)];exact h1,h2⟩
 | sl id off len sz =>
  rcases h with ⟨x,n,cap,h1,h2⟩ | h
  ·exact .inl ⟨x,n,cap,by rw [hb id (of_decide_eq_true hf)];exact h1,h2⟩
  ·exact .inr h
 | f fn caps =>
  obtain ⟨cs,h1,h2⟩:=h;refine ⟨cs,h1,?_⟩;have hf':(caps.all λq=>decide (q.1<b))=A5:=hf
  clear h1 hf
  induction caps generalizing cs with
  | nil=>cases cs with
   | nil=>trivial
   | cons=>exact h2.elim
  | cons q r ih=>cases cs with
   | nil=>exact h2.elim
   | cons V vs =>
    rw [E9p,E8j] at hf';obtain ⟨x,n,g1,g2⟩:=h2.1;exact ⟨⟨x,n,by rw [hb q.1 (of_decide_eq_true hf'.1)];exact g1,g2⟩,ih vs h2.2 hf'.2⟩
 | fb fn id off =>
  obtain ⟨V,⟨x,n,h1,h2⟩,h3⟩:=h;exact ⟨V,⟨x,n,by rw [hb id (of_decide_eq_true hf)];exact h1,h2⟩,h3⟩
 | m id =>
  obtain ⟨x,n,h1,h2⟩:=h;exact ⟨x,n,by rw [hb id (of_decide_eq_true hf)];exact h1,h2⟩
 | _=>exact RC.flat hf h
def Cell.low_of_flat{b:Nat}{c:Cell}(h:c.flat=A5):c.low b=A5:=by
 cases c<;>first | exact h | cases h
def B8C{c:Cell}{l:List Cell}:M9 (c::l)=(c.flat&&M9 l):=rfl
def All2.flat{U U':Mu}:∀ {l:List Cell} {vs:List Value},M9 l=A5->All2 (RC U) l vs->All2 (RC U') l vs
 | [],[],_,_=>trivial
 | c::l,V::vs,hf,⟨h1,h2⟩=>by
  rw [B8C,E8j] at hf;exact ⟨h1.flat hf.1,All2.flat hf.2 h2⟩
 | [],_::_,_,h=>h.elim
 | _::_,[],_,h=>h.elim
structure Good(h:A9)(b:Nat)(ids:List Nat):Prop where
 nd:ids.Nodup
 ok:∀ id∈ids,b<=id/\∃ r,rd h id=A4 r/\r.rw=A5/\M9 r.cells=A5
def Good.nil{h:A9}{b:Nat}:Good h b []:=⟨List.nodup_nil,λ_ h=>by cases h⟩
def Good.snoc{h:A9}{b:Nat}{ids:List Nat}(hg:Good h b ids){id:Nat}(h1:b<=id)(h2:id ∉ ids)(h3:newRow h id=A5):Good h b (ids++[id]):=by
 refine ⟨?_,λi hi=>?_⟩
 ·rw [List.nodup_append];exact ⟨hg.nd,by simp,λa ha c hc e=>by simp at hc;subst hc;subst e;exact h2 ha⟩
 ·rw [List.mem_append] at hi;rcases hi with hi | hi
  ·exact hg.ok i hi
  ·simp at hi;subst hi;refine ⟨h1,?_⟩;unfold newRow at h3;cases hr:rd h i with
   | none=>rw [hr] at h3;cases h3
   | some r=>rw [hr] at h3;rw [E8j] at h3;exact ⟨r,rfl,h3.1,h3.2⟩
def nu(U U':Mu)(b:Nat)(ids:List Nat):Mu:=λid=>if id<b then U id else (ids[id-b]?).bind U'
def A9p{h:A9}{b:Nat}{U U':Mu}(hlow:∀ id,id<b -> U' id = U id):∀ (l:List Cell) (seen:List Nat) (l2:List Cell) (fin:List Nat),P8 h b seen l=A4 (l2,fin)->Good h b seen ->
  Good h b fin/\seen <+: fin/\∀ ids,fin <+: ids->∀ vs:List Value,All2 (RC U') l vs->All2 (RC (nu U U' b ids)) l2 vs:=by
 intro l
 induction l with
 | nil =>
  intro seen l2 fin hc hg;simp only [P8,E8n,E8v] at hc;obtain ⟨rfl,rfl⟩:=hc;exact ⟨hg,E9j _,λids _ vs hv=>by cases vs with
   | nil=>trivial
   | cons=>exact hv.elim⟩
 | cons c r ih =>
  intro seen l2 fin hc hg;unfold P8 at hc;split at hc
  ·rename_i hf;simp only [E8G,E8v] at hc;obtain ⟨p,hp,rfl,rfl⟩:=hc;obtain ⟨h1,h2,h3⟩:=ih seen p.1 p.2 hp hg;refine ⟨h1,h2,λids hi vs hv=>?_⟩;cases vs with
   | nil=>exact hv.elim
   | cons V vs=>exact ⟨RC.low (b:=b) (λid hid=>by unfold nu;rw [if_pos hid];exact (hlow id hid).symm) hf hv.1,h3 ids hi vs hv.2⟩
  ·split at hc
   ·rename_i id off len sz _;split at hc
    ·rename_i A5B;simp only [E8G,E8v] at hc;obtain ⟨p,hp,rfl,rfl⟩:=hc;obtain ⟨h1,h2,h3⟩:=ih _ p.1 p.2 hp (hg.snoc A5B.1 A5B.2.1 A5B.2.2);refine ⟨h1,(List.prefix_append _ _).trans h2,λids hi vs hv=>?_⟩;cases vs with
     | nil=>exact hv.elim
     | cons V vs =>
      refine ⟨?_,h3 ids hi vs hv.2⟩;have hn:nu U U' b ids (b+seen.length) = U' id:=by
       unfold nu;rw [if_neg (by omega),Nat.add_sub_cancel_left];obtain ⟨t,ht⟩:=h2.trans hi;rw [<-ht,E8t,E8L (E8m _)];simp
      rcases hv.1 with ⟨x,n,cap,g1,g2⟩ | g
      ·exact .inl ⟨x,n,cap,by rw [hn];exact g1,g2⟩
      ·exact .inr g
    ·cases hc
   ·cases hc
def D8S{h:A9}{b:Nat}{U U':Mu}(hlow:∀ id,id<b -> U' id = U id):∀ (l:List Part) (seen:List Nat) (l2:List Part) (fin:List Nat),iJ h b seen l=A4 (l2,fin)->Good h b seen ->
  Good h b fin/\seen <+: fin/\∀ ids,fin <+: ids->∀ vs:List Value,All2 (RP U') l vs->All2 (RP (nu U U' b ids)) l2 vs:=by
 intro l
 induction l with
 | nil =>
  intro seen l2 fin hc hg;simp only [iJ,E8n,E8v] at hc;obtain ⟨rfl,rfl⟩:=hc;exact ⟨hg,E9j _,λids _ vs hv=>by cases vs with
   | nil=>trivial
   | cons=>exact hv.elim⟩
 | cons c r ih =>
  intro seen l2 fin hc hg;cases c with
  | c x =>
   simp only [iJ,E8i] at hc;obtain ⟨⟨l3,f3⟩,hp,hc⟩:=hc;obtain ⟨h1,h2,h3⟩:=A9p (U:=U) (U':=U') hlow [x] seen l3 f3 hp hg;split at hc
   ·rename_i y tH;simp only at tH;subst tH;simp only [E8G,E8v] at hc;obtain ⟨q,hq,rfl,rfl⟩:=hc;obtain ⟨g1,g2,g3⟩:=ih f3 q.1 q.2 hq h1;refine ⟨g1,h2.trans g2,λids hi vs hv=>?_⟩;cases vs with
    | nil=>exact hv.elim
    | cons V vs=>exact ⟨(h3 ids (g2.trans hi) [V] ⟨hv.1,trivial⟩).1,g3 ids hi vs hv.2⟩
   ·cases hc
  | a x =>
   simp only [iJ,E8i] at hc;obtain ⟨⟨l3,f3⟩,hp,hc⟩:=hc;obtain ⟨h1,h2,h3⟩:=A9p (U:=U) (U':=U') hlow x seen l3 f3 hp hg;simp only [E8G,E8v] at hc;obtain ⟨q,hq,rfl,rfl⟩:=hc;obtain ⟨g1,g2,g3⟩:=ih f3 q.1 q.2 hq h1;refine ⟨g1,h2.trans g2,λids hi vs hv=>?_⟩;cases vs with
   | nil=>exact hv.elim
   | cons V vs =>
    obtain ⟨Vs,hV,h4⟩:=hv.1;exact ⟨⟨Vs,hV,h3 ids (g2.trans hi) Vs h4⟩,g3 ids hi vs hv.2⟩
def D8T{h:A9}{b:Nat}{U U':Mu}(hlow:∀ id,id<b -> U' id = U id){v v2:Val}{fin:List Nat}(hc:X5 h b v=A4 (v2,fin)):Good h b fin/\∀ V,RV U' v V->RV (nu U U' b fin) v2 V:=by
 cases v with
 | c x =>
  simp only [X5,E8i] at hc;obtain ⟨⟨l3,f3⟩,hp,hc⟩:=hc;obtain ⟨h1,h2,h3⟩:=A9p (U:=U) (U':=U') hlow [x] [] l3 f3 hp Good.nil;split at hc
  ·rename_i y tH;simp only at tH;subst tH;simp only [E8n,E8v] at hc;obtain ⟨rfl,rfl⟩:=hc;exact ⟨h1,λV hV=>(h3 _ (E9j _) [V] ⟨hV,trivial⟩).1⟩
  ·cases hc
 | a l =>
  simp only [X5,E8G,E8v] at hc;obtain ⟨p,hp,rfl,rfl⟩:=hc;obtain ⟨h1,h2,h3⟩:=A9p (U:=U) (U':=U') hlow l [] p.1 p.2 hp Good.nil;refine ⟨h1,λV hV=>?_⟩;obtain ⟨vs,e,h4⟩:=hV;exact ⟨vs,e,h3 _ (E9j _) vs h4⟩
 | t l =>
  simp only [X5,E8G,E8v] at hc;obtain ⟨p,hp,rfl,rfl⟩:=hc;obtain ⟨h1,h2,h3⟩:=D8S (U:=U) (U':=U') hlow l [] p.1 p.2 hp Good.nil;refine ⟨h1,λV hV=>?_⟩;obtain ⟨vs,e,h4⟩:=hV;exact ⟨vs,e,h3 _ (E9j _) vs h4⟩
 | un=>simp [X5] at hc
 | no=>simp [X5] at hc
def D2W(U:Mu)(h:A9)(b:Nat):Prop:=∃ id r n,rd h id=A4 r /\ U id=A4 (b,n)
open Classical in
def Ctx.hold (J:Ctx) (U:Mu) (h:A9) (w:World):Ctx:={ J with F:=λb=>if D2W U h b then w.heap[b]? else J.F b }
def Inv.hold{J:Ctx}{U:Mu}{h:A9}{w:World}(hi:Inv J U h w):Inv (J.hold U h w) U (ro h) w where
 rows id r hr:=by
  rw [D5l,E8G] at hr;obtain ⟨r0,h0,rfl⟩:=hr;have hth:=hi.rows id r0 h0;have this:=hth;unfold RowOk at this ⊢;cases hm:U id with
  | none =>
   rw [hm] at this;show r0.dim=[];unfold Row.dim;rw [this];cases r0.head<;>rfl
  | some x =>
   rw [hm] at this;obtain ⟨o,ho⟩:=hth.there hm;have W4:=(Array.getElem?_eq_some_iff.1 ho).1;cases hh:r0.head with
   | true =>
    refine .inr (.inr ⟨rfl,W4,?_⟩);show r0.dim.all Cell.isD=A5;unfold Row.dim;rw [hh];simp [Cell.isD]
   | false =>
    have hd:r0.dim=r0.cells:=by unfold Row.dim;rw [hh];rfl
    rw [hd];rcases this with ⟨C,elem,fz,h1,h2,h3,h4⟩ | ⟨es,E,h1,_⟩ | ⟨h1,h2,h3⟩
    ·refine .inl ⟨C,elem,fz,h1,h2,h3.mono λc V hc=>?_,λhf=>by cases hf⟩;rcases hc with hc | ⟨_,hc⟩
     ·exact .inl hc
     ·exact .inr ⟨rfl,hc⟩
    ·rw [h1,Row.head_mrow] at hh;cases hh
    ·exact .inr (.inr ⟨rfl,h2,h3⟩)
 sep id cP r r' x x' hr hr' hw:=by
  rw [D5l,E8G] at hr;obtain ⟨r0,h0,rfl⟩:=hr;rw [Row.dim_own] at hw;cases hw
 own id r x hr hw:=by
  rw [D5l,E8G] at hr;obtain ⟨r0,h0,rfl⟩:=hr;rw [Row.dim_own] at hw;cases hw
 dom id hl:=hi.dom id (by simpa [G8] using hl)
 ctx:=⟨hi.ctx.os,hi.ctx.tape,hi.ctx.output,λb o ho=>by
  unfold Ctx.hold at ho;simp only at ho;split at ho
  ·exact ho
  ·exact hi.ctx.block b o ho⟩
def Inv.held{J:Ctx}{U U':Mu}{h h':A9}{w w':World}(hi:Inv J U h w)(hj:Inv (J.hold U h w) U' h' w'){ids:List Nat}(hg:Good h' h.length ids) :
  Inv J (nu U U' h.length ids) (h++ids.map (rd h')) w':=by
 have same:∀ b,D2W U h b->w'.heap[b]?=w.heap[b]? := by
  intro b hb;have hb':=hb;obtain ⟨id,r,n,hr,hm⟩:=hb;obtain ⟨o,h1⟩:=(hi.rows id r hr).there hm;have h2:(J.hold U h w).F b=A4 o:=by
   unfold Ctx.hold;simp only;rw [if_pos hb'];exact h1
  rw [hj.ctx.block b _ h2,h1]
 have lo:∀ id,id<h.length->nu U U' h.length ids id = U id:=λid hl=>by unfold nu;rw [if_pos hl]
 have mI:U.le (nu U U' h.length ids):=λid x hx=>by
  by_cases hl:id<h.length
  ·rw [lo id hl];exact hx
  ·rw [hi.dom id (by omega)] at hx;cases hx
 have get:∀ id r,rd (h++ids.map (rd h')) id=A4 r->(id<h.length/\rd h id=A4 r)\/(∃ j,ids[id-h.length]?=A4 j/\h.length<=id/\rd h' j=A4 r/\nu U U' h.length ids id = U' j/\j∈ids/\r.rw=A5/\M9 r.cells=A5):=by
  intro id r hr;by_cases hl:id<h.length
  ·rw [D5 hl] at hr;exact .inl ⟨hl,hr⟩
  ·right
   unfold rd at hr;rw [E8L (by omega),List.getElem?_map] at hr;cases hj':ids[id-h.length]? with
   | none=>rw [hj'] at hr;cases hr
   | some j =>
    rw [hj'] at hr;change rd h' j=A4 r at hr;have mK:j∈ids:=E8H hj';obtain ⟨_,r2,hr2,h1,h2⟩:=hg.ok j mK;rw [hr] at hr2;cases hr2;refine ⟨j,rfl,by omega,hr,?_,mK,h1,h2⟩;unfold nu;rw [if_neg hl,hj'];rfl
 have fnew:∀ j r x,rd h' j=A4 r->r.rw=A5 -> U' j=A4 x->¬ D2W U h x.1 /\ J.F x.1=A7:=by
  intro j r x hr hw hx;have h1:=hj.own j r x hr (Row.own_rw hw) hx;unfold Ctx.hold at h1;simp only at h1;split at h1
  ·rename_i hb;obtain ⟨id,r0,n,hr0,hm⟩:=hb;obtain ⟨o,h2⟩:=(hi.rows id r0 hr0).there hm;rw [h2] at h1;cases h1
  ·exact ⟨‹_›,h1⟩
 refine ⟨?_,?_,?_,?_,?_⟩
 ·intro id r hr;rcases get id r hr with ⟨hl,hr⟩ | ⟨j,hj1,hl,hr,hn,mK,hw,hf⟩
  ·exact (hi.rows id r hr).mono mI (lo id hl) λx hx=>same _ ⟨id,r,x.2,hr,hx⟩
  ·have:=hj.rows j r hr;unfold RowOk at this ⊢;rw [hn];cases hm:U' j with
   | none=>rw [hm] at this;exact this
   | some x =>
    obtain ⟨C,elem,fz,h1,h2,h3,h4⟩:=(hj.rows j r hr).mem hm hw;refine .inl ⟨C,elem,fz,h1,h2,?_,h4⟩;rw [hw] at h3 ⊢;have h5:=RL.all h3 (by simp);exact (All2.flat (U':=nu U U' h.length ids) hf h5).mono λ_ _=>.inl
 ·intro id cP r r' x x' hr hr' hw aZ hx hx';rcases get id r hr with ⟨hl,hr⟩ | ⟨j,hj1,hl,hr,hn,mK,hw2,hf⟩
  ·rw [lo id hl] at hx;rcases get cP r' hr' with ⟨hl',hr'⟩ | ⟨j',E6C,hl',hr',hn',E6F,E6L,hf'⟩
   ·rw [lo cP hl'] at hx';exact hi.sep id cP r r' x x' hr hr' hw aZ hx hx'
   ·rw [hn'] at hx';intro e;exact (fnew j' r' x' hr' E6L hx').1 (e ▸ ⟨id,r,x.2,hr,hx⟩)
  ·rw [hn] at hx;rcases get cP r' hr' with ⟨hl',hr'⟩ | ⟨j',E6C,hl',hr',hn',E6F,E6L,hf'⟩
   ·rw [lo cP hl'] at hx';intro e;exact (fnew j r x hr hw2 hx).1 (e ▸ ⟨cP,r',x'.2,hr',hx'⟩)
   ·rw [hn'] at hx';refine hj.sep j j' r r' x x' hr hr' hw (λe=>?_) hx hx';subst e;have h1:=E8p.1 hj1;have h2:=E8p.1 E6C;have:=(List.getElem_inj hg.nd).1 (h1.2.trans h2.2.symm);omega
 ·intro id r x hr hw hx;rcases get id r hr with ⟨hl,hr⟩ | ⟨j,hj1,hl,hr,hn,mK,hw2,hf⟩
  ·rw [lo id hl] at hx;exact hi.own id r x hr hw hx
  ·rw [hn] at hx;exact (fnew j r x hr hw2 hx).2
 ·intro id hl;simp only [E8o,List.length_map] at hl;unfold nu;rw [if_neg (by omega),E8P (by omega)];rfl
 ·refine ⟨hj.ctx.os,hj.ctx.tape,hj.ctx.output,λb o ho=>?_⟩;by_cases hb:D2W U h b
  ·rw [same b hb];exact hi.ctx.block b o ho
  ·refine hj.ctx.block b o ?_;unfold Ctx.hold;simp only;rw [if_neg hb];exact ho
def E0q{P:Program}{f:FuncId}{F:List Val->A9->Option (Val × A9)}(hF:∀ args h v h2,F args h=A4 (v,h2)->nO P f/\CallOk P f args h v h2/\h.length<=h2.length)
  {args:List Val} {h:A9} {v:Val} {h2:A9} (he:C8Z F args h=A4 (v,h2)):nO P f/\CallOk P f args h v h2/\h.length<=h2.length:=by
 simp only [C8Z,E8i,E8G,E8v] at he;obtain ⟨p,hp,q,hq,rfl,rfl⟩:=he;obtain ⟨h1,h2,h3⟩:=hF args (ro h) p.1 p.2 hp;refine ⟨h1,fun J U w V hi hv=>?_,by simp⟩;refine (h2 (J.hold U h w) U w V hi.hold hv).mono λe w' ⟨V',U',he,_,hV,hi',hl⟩=>?_
 obtain ⟨hg,hR⟩:=D8T (U:=U) (U':=U') (λid hid=>hl id (by simpa [G8] using hid)) (v2:=q.1) (fin:=q.2) hq;refine ⟨V',nu U U' h.length q.2,he,λid x hx=>?_,hR V' hV,hi.held hi' hg,λid hl=>by unfold nu;rw [if_pos hl]⟩;by_cases hl:id<h.length
 ·unfold nu;rw [if_pos hl];exact hx
 ·rw [hi.dom id (by omega)] at hx;cases hx
def E4A{P:Program}{f:FuncId}{F:List Val->A9->Option (Val × A9)}(hF:∀ args h v h2,F args h=A4 (v,h2)->nO P f/\CallOk P f args h v h2/\h.length<=h2.length)
  (args:List Val) (h:A9) (v:Val) (h2:A9) (he:tidy F args h=A4 (v,h2)):nO P f/\CallOk P f args h v h2/\h.length<=h2.length:=by
 unfold tidy at he;split at he
 ·rename_i r hr;cases he;exact E0q hF hr
 ·exact hF args h v h2 he
def C1r{F:List Val->A9->Option (Val × A9)}{args:List Val}{h h':A9}{v v2:Val}{ids:List Nat}(he:F args (ro h)=A4 (v,h'))(hc:X5 h' h.length v=A4 (v2,ids)) :
  tidy F args h=A4 (v2,h++ids.map (rd h')):=by
 have:C8Z F args h=A4 (v2,h++ids.map (rd h')):=by
  unfold C8Z;rw [he];simp [hc]
 unfold tidy;rw [this]
def Val.flat:Val->Bool
 | .c x=>x.flat
 | .a l=>M9 l
 | .t l=>l.all λp=>match p with
  | .c x=>x.flat
  | .a l=>M9 l
 | _=>A6
def fM{h:A9}{b:Nat}{seen:List Nat}:∀ {l:List Cell},M9 l=A5->P8 h b seen l=A4 (l,seen)
 | [],_=>rfl
 | c::l,hf=>by
  rw [B8C,E8j] at hf;have ih:=fM (h:=h) (b:=b) (seen:=seen) hf.2;unfold P8;rw [if_pos (Cell.low_of_flat hf.1),ih];rfl
def B4k{h:A9}{b:Nat}{seen:List Nat}:∀ {l:List Part},(l.all λp=>match p with | .c x=>x.flat | .a l=>M9 l)=A5->iJ h b seen l=A4 (l,seen)
 | [],_=>rfl
 | .c x::l,hf=>by
  simp only [E9p,E8j] at hf;have ih:=B4k (h:=h) (b:=b) (seen:=seen) hf.2;have h1:P8 h b seen [x]=A4 ([x],seen):=fM (by simpa [M9] using hf.1);simp [iJ,h1,ih]
 | .a x::l,hf=>by
  simp only [E9p,E8j] at hf;have ih:=B4k (h:=h) (b:=b) (seen:=seen) hf.2;have h1:P8 h b seen x=A4 (x,seen):=fM hf.1;simp [iJ,h1,ih]
def D3R{h:A9}{b:Nat}{v:Val}(hf:v.flat=A5):X5 h b v=A4 (v,[]):=by
 cases v with
 | c x =>
  have h1:P8 h b [] [x]=A4 ([x],[]):=fM (by simp only [M9,E9p,List.all_nil,Bool.and_true];exact hf);simp [X5,h1]
 | a l =>
  have h1:P8 h b [] l=A4 (l,[]):=fM hf;simp [X5,h1]
 | t l =>
  have h1:iJ h b [] l=A4 (l,[]):=B4k hf;simp [X5,h1]
 | un=>cases hf
 | no=>cases hf
def E0r{F:List Val->A9->Option (Val × A9)}{args:List Val}{h h':A9}{v:Val}(he:F args (ro h)=A4 (v,h'))(hf:v.flat=A5):tidy F args h=A4 (v,h):=by
 have:=C1r he (D3R (h:=h') (b:=h.length) hf);simpa using this
def C5q(b:Nat)(l:List Cell):Bool:=l.all (Cell.low b)
def Val.low(b:Nat):Val->Bool
 | .c x=>x.low b
 | .a l=>C5q b l
 | .t l=>l.all λp=>match p with
  | .c x=>x.low b
  | .a l=>C5q b l
 | _=>A6
def A5p{h:A9}{b:Nat}{seen:List Nat}:∀ {l:List Cell},C5q b l=A5->P8 h b seen l=A4 (l,seen)
 | [],_=>rfl
 | c::l,hf=>by
  have hf:(c.low b&&C5q b l)=A5:=hf;rw [E8j] at hf;have ih:=A5p (h:=h) (b:=b) (seen:=seen) hf.2;unfold P8;rw [if_pos hf.1,ih];rfl
def B8u{h:A9}{b:Nat}{seen:List Nat}:∀ {l:List Part},(l.all λp=>match p with | .c x=>x.low b | .a l=>C5q b l)=A5->iJ h b seen l=A4 (l,seen)
 | [],_=>rfl
 | .c x::l,hf=>by
  simp only [E9p,E8j] at hf;have ih:=B8u (h:=h) (b:=b) (seen:=seen) hf.2;have h1:P8 h b seen [x]=A4 ([x],seen):=A5p (by simpa [C5q] using hf.1);simp [iJ,h1,ih]
 | .a x::l,hf=>by
  simp only [E9p,E8j] at hf;have ih:=B8u (h:=h) (b:=b) (seen:=seen) hf.2;have h1:P8 h b seen x=A4 (x,seen):=A5p hf.1;simp [iJ,h1,ih]
def E23{F:List Val->A9->Option (Val × A9)}{args:List Val}{h h':A9}{v:Val}(he:F args (ro h)=A4 (v,h'))(hf:v.low h.length=A5):tidy F args h=A4 (v,h):=by
 have hc:X5 h' h.length v=A4 (v,[]):=by
  cases v with
  | c x =>
   have h1:P8 h' h.length [] [x]=A4 ([x],[]):=A5p (by simp only [C5q,E9p,List.all_nil,Bool.and_true];exact hf);simp [X5,h1]
  | a l =>
   have h1:P8 h' h.length [] l=A4 (l,[]):=A5p hf;simp [X5,h1]
  | t l =>
   have h1:iJ h' h.length [] l=A4 (l,[]):=B8u hf;simp [X5,h1]
  | un=>cases hf
  | no=>cases hf
 have:=C1r he hc;simpa using this
@[simp] theorem E6O {b:Nat}:C5q b []=A5:=rfl
@[simp] theorem E6h {b:Nat} {c:Cell} {l:List Cell}:C5q b (c::l)=(c.low b&&C5q b l):=rfl
@[simp] theorem E7W {b:Nat} {x:Cell}:(Val.c x).low b=x.low b:=rfl
@[simp] theorem E7V {b:Nat} {l:List Cell}:(Val.a l).low b=C5q b l:=rfl
@[simp] theorem E7X {b:Nat} {l:List Part}:(Val.t l).low b=l.all λp=>match p with | .c x=>x.low b | .a l=>C5q b l:=rfl
@[simp] theorem E7Q {b id off len sz:Nat}:(Cell.sl id off len sz).low b=decide (id<b):=rfl
@[simp] theorem E77 {b:Nat} {k:IntKind} {n:Int}:(Cell.i k n).low b=A5:=rfl
@[simp] theorem E76 {b:Nat} {x:Bool}:(Cell.b x).low b=A5:=rfl
@[simp] theorem E78 {b:Nat} {x:List UInt8}:(Cell.s x).low b=A5:=rfl
@[simp] theorem E7P {b:Nat}:Cell.ns.low b=A5:=rfl
@[simp] theorem E6g:M9 []=A5:=rfl
@[simp] theorem E4K {c:Cell} {l:List Cell}:M9 (c::l)=(c.flat&&M9 l):=rfl
@[simp] theorem kD {l m:List Cell}:M9 (l++m)=(M9 l&&M9 m):=by simp [M9]
@[simp] theorem C7E {l:List UInt8}:M9 (B4 l)=A5:=by simp [M9,B4,Cell.flat]
@[simp] theorem E7a {x:Bool}:(Cell.b x).flat=A5:=rfl
@[simp] theorem E7b {k:IntKind} {n:Int}:(Cell.i k n).flat=A5:=rfl
@[simp] theorem E7c {x:List UInt8}:(Cell.s x).flat=A5:=rfl
@[simp] theorem E62:Cell.ns.flat=A5:=rfl
@[simp] theorem E61:Cell.np.flat=A5:=rfl
@[simp] theorem E64 {x:Cell}:(Val.c x).flat=x.flat:=rfl
@[simp] theorem E63 {l:List Cell}:(Val.a l).flat=M9 l:=rfl
@[simp] theorem E65 {l:List Part}:(Val.t l).flat=l.all λp=>match p with | .c x=>x.flat | .a l=>M9 l:=rfl
@[simp] theorem dR {h:A9} {v:Val}:quiet h (A4 (v,h))=A4 (v,h):=U9 Grows.rfl'
section
variable {h:A9} {l:List (Option Row)} {k id:Nat}
@[simp] theorem gP:rd (h++l) (h.length+k)=(l[k]?).join:=by
 unfold rd;rw [E8L (by omega),Nat.add_sub_cancel_left]
@[simp] theorem G3:rd (h++l) h.length=(l[0]?).join:=gP (k:=0)
@[simp] theorem B5r {x:Option Row}:(h++l).set (h.length+k) x=h++l.set k x:=by
 rw [E9a _ _ (by omega),Nat.add_sub_cancel_left]
@[simp] theorem fX {x:Option Row}:(h++l).set h.length x=h++l.set 0 x:=B5r (k:=0)
end
section
variable {h:A9} {id off n sz:Nat} {cs xs:List Cell} {x:Cell} {k:IntKind} {rw:Bool}
def E0G{j:Int}(h0:0<=j)(h1:j<n):K2 n sz (.c (.p id off)) (.c (.i k j))=A4 (.c (.p id (off+j.toNat*sz))):=by
 simp only [K2];rw [if_pos ⟨h0,h1⟩]
end
def Has(h:A9)(v:Val)(sz n:Nat)(cs:List Cell):Prop :=
 (v=.c .ns/\n=0/\cs=[])\/∃ id off r,v=.c (.sl id off n sz)/\rd h id=A4 r/\cs.length=n*sz/\off+n*sz<=r.cells.length/\(r.cells.drop off).take (n*sz)=cs/\noX cs=A5
section
variable {h:A9} {v:Val} {sz n:Nat} {cs:List Cell}
def Has.length(hv:Has h v sz n cs):cs.length=n*sz:=by
 rcases hv with ⟨_,rfl,rfl⟩ | ⟨_,_,_,_,_,hl,_⟩
 ·simp
 ·exact hl
def Has.ro(hv:Has h v sz n cs):Has (ro h) v sz n cs:=by
 rcases hv with hv | ⟨id,off,r,rfl,hr,h1,h2,h3,h4⟩
 ·exact .inl hv
 ·cases hh:r.head with
  | false=>exact .inr ⟨id,off,⟨r.cells,A6⟩,rfl,C1f hr hh,h1,h2,h3,h4⟩
  | true =>
   have hx:=Row.head_isX hh;have E6H:cs=[]:=by
    cases hcs:cs with
    | nil=>rfl
    | cons c cs' =>
     exfalso;have mK:c∈r.cells:=List.mem_of_mem_drop (List.mem_of_mem_take (by rw [h3,hcs];simp));have h5:c.isX=A6:=by
      have:=E8O.1 h4 c (by rw [hcs];simp);simpa using this
     rw [hx c mK] at h5;cases h5
   have hd:r.dim.length=r.cells.length:=by unfold Row.dim;rw [hh];simp
   have hn:n*sz=0:=by rw [<-h1,E6H];rfl
   exact .inr ⟨id,off,⟨r.dim,A6⟩,rfl,by rw [D5l,hr];rfl,h1,by show off+n*sz<=r.dim.length;rw [hd];exact h2,by rw [hn,E9i,E6H],h4⟩
def Has.more(hv:Has h v sz n cs)(l:A9):Has (h++l) v sz n cs:=by
 rcases hv with hv | ⟨id,off,r,rfl,hr,h1,h2,h3,h4⟩
 ·exact .inl hv
 ·exact .inr ⟨id,off,r,rfl,B6 hr,h1,h2,h3,h4⟩
def Has.len(hv:Has h v sz n cs):B6y v=A4 (.c (.i .i64 n)):=by
 rcases hv with ⟨rfl,rfl,rfl⟩ | ⟨id,off,r,rfl,_⟩<;>rfl
def Has.cells(hv:Has h v sz n cs):rJ h v=A4 cs:=by
 rcases hv with ⟨rfl,rfl,rfl⟩ | ⟨id,off,r,rfl,hr,h1,h2,h3,h4⟩
 ·rfl
 ·simp only [rJ,hr,E8z];rw [if_pos ⟨h2,by rw [h3,h4];simp⟩,h3]
def Has.add(hv:Has h v sz n cs):V0 h sz v=A4 cs:=by
 have:=hv.cells;rcases hv with ⟨rfl,rfl,rfl⟩ | ⟨id,off,r,rfl,_⟩
 ·rfl
 ·simp only [V0,if_true];exact this
def C3Z:∀ l:List UInt8,bytes? (B4 l)=A4 l
 | []=>rfl
 | x::l=>by
  have h1:=x.toNat_lt;have e:D0I (.i .u8 x.toNat)=A4 x:=by
   simp only [D0I];rw [if_pos ⟨by omega,by omega⟩];simp
  change (D0I (.i .u8 x.toNat)).bind (λy=>(bytes? (B4 l)).map λl=>y::l)=_;rw [e,C3Z l];rfl
def Has.str{l:List UInt8}(hv:Has h v 1 n (B4 l)):B8l h v=A4 (.c (.s l)):=by
 have:=hv.cells;rcases hv with ⟨rfl,rfl,e⟩ | ⟨id,off,r,rfl,_⟩
 ·have:l=[]:=by simpa [B4] using e
  subst this;rfl
 ·simp only [B8l,if_true,this,E8z,C3Z,E85]
def Has.sl(hv:Has h v sz n cs)(hn:0<n):∃ id off,v=.c (.sl id off n sz)/\id<h.length /\
  (∀ j c,cs[j]?=A4 c->B9 h (.c (.p id (off+j)))=A4 (.c c))/\∀ j m,j+m<=cs.length->C9 h m (.c (.p id (off+j)))=A4 (.a ((cs.drop j).take m)):=by
 rcases hv with ⟨rfl,rfl,rfl⟩ | ⟨id,off,r,rfl,hr,h1,h2,h3,h4⟩
 ·omega
 ·refine ⟨id,off,rfl,E1 hr,λj c hc=>?_,λj m hj=>?_⟩
  ·have W4:j<cs.length:=(E8p.1 hc).1;have hx:c.isX=A6:=by
    have:=E8O.1 h4 c (E8H hc);simpa using this
   refine B8 (cs:=r.cells) (rw:=r.rw) hr ?_ (by simp [hx]);rw [<-h3,E86 (by omega),List.getElem?_drop] at hc;exact hc
  ·have e:((cs.drop j).take m)=(r.cells.drop (off+j)).take m:=by
    rw [<-h3,List.drop_take,List.take_take,E9D]
    congr 1
    omega
   rw [e];refine S7 (cs:=r.cells) (rw:=r.rw) hr (by omega) ?_;rw [<-e];have:noX ((cs.drop j).take m)=A5:=by
    refine E8O.2 λc hc=>E8O.1 h4 c ?_
    exact List.mem_of_mem_drop (List.mem_of_mem_take hc)
   simp [this]
end
def Has.row{h:A9}{id sz n:Nat}{cs:List Cell}{rw:Bool}(hr:rd h id=A4 ⟨cs,rw⟩)(hl:cs.length=n*sz)(hx:noX cs=A5):Has h (.c (.sl id 0 n sz)) sz n cs :=
 .inr ⟨id,0,_,rfl,hr,hl,by simp [hl],by simp [<-hl],hx⟩
def Out(b:Nat)(h:A9)(v:Val)(sz n:Nat)(cs:List Cell):Prop :=
 cs.length=n*sz/\∃ id,v=.c (.sl id 0 n sz)/\b<=id/\rd h id=A4 ⟨cs,A5⟩
def Low(b:Nat)(h h':A9):Prop:=b<=h.length/\h.length<=h'.length/\∀ id,id<b->rd h' id=rd h id
def Low.refl{b:Nat}{h:A9}(hb:b<=h.length):Low b h h:=⟨hb,E8m _,λ_ _=>rfl⟩
def Low.trans{b:Nat}{h h' h'':A9}(h1:Low b h h')(h2:Low b h' h''):Low b h h'' :=
 ⟨h1.1,E83 h1.2.1 h2.2.1,λid hid=>(h2.2.2 id hid).trans (h1.2.2 id hid)⟩
def Low.new{b:Nat}{h h':A9}(h1:Low b h h')(l:A9):Low b h (h'++l) :=
 ⟨h1.1,by have:=h1.2.1;simp;omega,λid hid=>by rw [D5 (by have:=h1.1;have:=h1.2.1;omega)];exact h1.2.2 id hid⟩
def Low.set{b:Nat}{h h':A9}(h1:Low b h h'){id:Nat}(hid:b<=id)(x:Option Row):Low b h (h'.set id x) :=
 ⟨h1.1,by simpa using h1.2.1,λj hj=>by rw [B7 (by omega)];exact h1.2.2 j hj⟩
def Has.low{b:Nat}{h h':A9}{v:Val}{sz n:Nat}{cs:List Cell}(h1:Low b h h')(hv:Has h v sz n cs)(hb:∀ id off m,v=.c (.sl id off m sz)->id<b):Has h' v sz n cs:=by
 rcases hv with hv | ⟨id,off,r,rfl,hr,h2⟩
 ·exact .inl hv
 ·exact .inr ⟨id,off,r,rfl,by rw [h1.2.2 id (hb id off n rfl)];exact hr,h2⟩
def Out.app{b:Nat}{h:A9}{v y:Val}{sz n m:Nat}{cs ys:List Cell}(ho:Out b h v sz n cs)(hsz:0<sz)(hy:V0 h sz y=A4 ys)(hm:ys.length=m*sz)(hn:n+m<=1073741824) :
  ∃ id v' h',v=.c (.sl id 0 n sz)/\uR h sz v y=A4 (v',h')/\Out b h' v' sz (n+m) (cs++ys)/\Low b h h'/\(∀ i r,rd h i=A4 r->i≠id->rd h' i=A4 r):=by
 have hd:ys.length/sz=m:=by rw [hm];exact Nat.mul_div_cancel m hsz
 obtain ⟨hl,id,rfl,E7j,hr⟩:=ho;have W4:=E1 hr;refine ⟨id,_,h.set id A7++[A4 ⟨cs++ys,A5⟩],rfl,by simp only [uR,hy,hr,E8z,hd];rw [if_pos ⟨trivial,trivial,hl.symm,trivial,hn⟩],⟨by simp [hl,hm,E9E],h.length,rfl,by omega,?_⟩,((Low.refl (by omega)).set E7j A7).new _,λi r hi aZ=>?_⟩
 ·have:=N8 (h:=h.set id A7) (r:=⟨cs++ys,A5⟩)
  rwa [E80] at this
 ·have W4:=E1 hi;rw [D5 (by simpa using W4),B7 (Ne.symm aZ)];exact hi
def lQ{h:A9}{id:Nat}{cs:List Cell}(hr:rd h id=A4 ⟨cs,A5⟩)(hf:M9 cs=A5):newRow h id=A5:=by simp [newRow,hr,hf]
def E02{h:A9}{b id off n sz:Nat}{cs:List Cell}(hb:b<=id)(hr:rd h id=A4 ⟨cs,A5⟩)(hf:M9 cs=A5):X5 h b (.c (.sl id off n sz))=A4 (.c (.sl b off n sz),[id]):=by
 have:¬ id<b:=by omega
 simp [X5,P8,hb,this,lQ hr hf]
def E24{F:List Val->A9->Option (Val × A9)}{args:List Val}{h h':A9}{v:Val}{sz n:Nat}{cs:List Cell}(he:F args (ro h)=A4 (v,h'))(ho:Out h.length h' v sz n cs)(hf:M9 cs=A5) :
  tidy F args h=A4 (.c (.sl h.length 0 n sz),h++[A4 ⟨cs,A5⟩]):=by
 obtain ⟨hl,id,rfl,hb,hr⟩:=ho;rw [C1r he (E02 hb hr hf)];simp [hr]
def E0s{F:List Val->A9->Option (Val × A9)}{args:List Val}{h h':A9}{v':Nat}{c:Cell}{sz n:Nat}{cs:List Cell}(he:F args (ro h)=A4 (.t [.c (.sl v' 0 n sz),.c c],h'))(ho:Out h.length h' (.c (.sl v' 0 n sz)) sz n cs)(hf:M9 cs=A5)(hc:c.flat=A5) :
  tidy F args h=A4 (.t [.c (.sl h.length 0 n sz),.c c],h++[A4 ⟨cs,A5⟩]):=by
 obtain ⟨hl,id,e,hb,hr⟩:=ho;cases e;have e2:P8 h' h.length [v'] [c]=A4 ([c],[v']):=fM (by simp [hc]);rw [C1r he (v2:=.t [.c (.sl h.length 0 n sz),.c c]) (ids:=[v']) (by simp [X5,iJ,P8,hb,show ¬ v'<h.length by omega,lQ hr hf,e2,hc,Cell.low_of_flat hc])];simp [hr]
def encI(l:List Int):List Cell:=l.map λn=>.i .i64 n
def C1(l:List Int):(encI l).length=l.length:=by simp [encI]
def zH(l:List Int)(i:Nat)(x:Int):(encI l).set i (.i .i64 x)=encI (l.set i x):=by simp [encI,List.map_set]
def G6(l:List Int)(i:Nat):(encI l)[i]?=(l[i]?).map λx=>.i .i64 x:=by simp [encI]
def jM(l m:List Int):encI (l++m)=encI l++encI m:=by simp [encI]
def A5K(l:List Int):noX (encI l)=A5:=by simp [noX,encI,Cell.isX]
@[simp] theorem B8D {l:List Int}:M9 (encI l)=A5:=by simp [M9,encI,Cell.flat]
def D4e{l m:List Int}:encI l=encI m↔l=m:=by
 constructor
 ·intro h;exact List.map_inj_right (λx y e=>by simpa using e) |>.1 h
 ·rintro rfl;rfl
def encS(l:List (List UInt8)):List Cell:=l.map .s
def cO(l:List (List UInt8)):(encS l).length=l.length:=by simp [encS]
def C8l(l:List (List UInt8)):noX (encS l)=A5:=by simp [noX,encS,Cell.isX]
@[simp] theorem E5k {l:List (List UInt8)}:M9 (encS l)=A5:=by simp [M9,encS,Cell.flat]
abbrev Fun:=List Val->A9->Option (Val × A9)
abbrev SmV:=Sm (Val × A9)
abbrev zW:=Option (Val × A9)
def SOk(P:Program)(f:FuncId)(S:Fun):Prop:=∀ args h v h2,S args h=A4 (v,h2)->nO P f/\CallOk P f args h v h2/\h.length<=h2.length
def E1s(g:Nat)(S:Fun)(E:K7):K7:=λf args h=>bif Nat.beq f g then S args h else E f args h
def D4b:K7:=λ_ _ _=>A7
def D7r{P:Program}:jK P D4b:=λ_ _ _ _ _ h=>by cases h
def D7s{P:Program}{g:Nat}{S:Fun}{E:K7}(hs:SOk P g S)(hE:jK P E):jK P (E1s g S E):=by
 intro f args h v h2 he;unfold E1s at he;cases hb:Nat.beq f g with
 | true=>rw [hb] at he;have e:=Nat.eq_of_beq_eq_true hb;subst e;exact hs args h v h2 he
 | false=>rw [hb] at he;exact hE f args h v h2 he
structure FnK(P:Program)(f:FuncId)(A:AFn)(E:K7)(R:Nat->Fun):Prop where
 run:∀ n args h,A.run E n args h=R n args h
 ok:SOk P f (Lim A E)
def FnK.mk'{P:Program}{f:FuncId}{fn:Func}{A:AFn}{E:K7}{R:Nat->Fun}(hE:jK P E)(hf:P.funcs[f]?=A4 fn)(hc:C63 P fn A=A5)(hr:∀ n args h,A.run E n args h=R n args h):FnK P f A E R :=
 ⟨hr,λ_ _ _ _ he=>(D7J he).elim λ_ e=>E6p hE hf hc e⟩
abbrev KV:=B6f (Val × A9)
abbrev AtH:=A9->zW
def zE:List Nat->List Val->Env
 | t::l,x::r=>(t,x)::zE l r
 | _,_=>[]
def rx (E:K7) (A:AFn) (n:Nat):Fun:=λargs h=>ax E n A.code A.fin (params 0 args) h
def tl (A:AFn) (E:K7):Fun:=tidy (Lim A E)
def kL' (s:SmV) (ks:List Nat) (k:KV) (m:Nat):KV:=E1Z ks (A8i s ks k m) k
def aj' (s:SmV) (k:KV) (ks:List Nat) (xs:List Val):AtH:=λh=>hold (s k (zE ks xs) h)
def kL (E:K7) (n:Nat) (c:ACode) (ks:List Nat) (k:KV) (m:Nat):KV:=kL' (ax E n c) ks k m
def aj (E:K7) (n:Nat) (c:ACode) (k:KV) (ks:List Nat) (xs:List Val):AtH:=aj' (ax E n c) k ks xs
def kQ (E:K7) (n:Nat) (c:ACode) (ks:List Nat) (k:KV):KV:=E10 ks (ax E n c) k
def FnK.mk2{P:Program}{f:FuncId}{fn:Func}{A:AFn}{E:K7}(hE:jK P E)(hf:P.funcs[f]?=A4 fn)(hc:C63 P fn A=A5):FnK P f A E (rx E A) :=
 .mk' hE hf hc λ_ _ _=>E5f
section
variable {P:Program} {f:FuncId} {A:AFn} {E:K7} {R:Nat->Fun}
def FnK.of(K:FnK P f A E R){n:Nat}{args:List Val}{h:A9}{p:Val × A9}(he:R n args h=A4 p):Lim A E args h=A4 p:=E44 ((K.run ..).trans he)
def FnK.sok(K:FnK P f A E R):SOk P f (tidy (Lim A E)):=λargs h v h2 he=>E4A K.ok args h v h2 he
def FnK.flat(K:FnK P f A E R){n:Nat}{args:List Val}{h h2:A9}{v:Val}(he:R n args (ro h)=A4 (v,h2))(hf:v.flat=A5):tidy (Lim A E) args h=A4 (v,h):=E0r (K.of he) hf
def FnK.low(K:FnK P f A E R){n:Nat}{args:List Val}{h h2:A9}{v:Val}(he:R n args (ro h)=A4 (v,h2))(hf:v.low h.length=A5):tidy (Lim A E) args h=A4 (v,h):=E23 (K.of he) hf
def FnK.out(K:FnK P f A E R){n:Nat}{args:List Val}{h h2:A9}{v:Val}{sz k:Nat}{cs:List Cell}(he:R n args (ro h)=A4 (v,h2))(ho:Out h.length h2 v sz k cs)(hf:M9 cs=A5):tidy (Lim A E) args h=A4 (.c (.sl h.length 0 k sz),h++[A4 ⟨cs,A5⟩]):=E24 (K.of he) ho hf
def FnK.out2(K:FnK P f A E R){n:Nat}{args:List Val}{h h2:A9}{i:Nat}{c:Cell}{sz k:Nat}{cs:List Cell}(he:R n args (ro h)=A4 (.t [.c (.sl i 0 k sz),.c c],h2))(ho:Out h.length h2 (.c (.sl i 0 k sz)) sz k cs)(hf:M9 cs=A5)(hc:c.flat=A5):Esc.tidy (Lim A E) args h=A4 (.t [.c (.sl h.length 0 k sz),.c c],h++[A4 ⟨cs,A5⟩]):=E0s (K.of he) ho hf hc
def FnK.tidy(K:FnK P f A E R){n:Nat}{args:List Val}{h h2:A9}{v v2:Val}{ids:List Nat}(he:R n args (ro h)=A4 (v,h2))(hc:X5 h2 h.length v=A4 (v2,ids)):Esc.tidy (Lim A E) args h=A4 (v2,h++ids.map (rd h2)):=C1r (K.of he) hc
end
abbrev G0(R:Nat->Fun)(S:Fun):Prop:=∀ {n:Nat} {args:List Val} {h h2:A9} {v:Val},R n args (ro h)=A4 (v,h2)->v.flat=A5->S args h=A4 (v,h)
abbrev E3b(R:Nat->Fun)(S:Fun):Prop:=∀ {n:Nat} {args:List Val} {h h2:A9} {v:Val},R n args (ro h)=A4 (v,h2)->v.low h.length=A5->S args h=A4 (v,h)
abbrev A3Q(R:Nat->Fun)(S:Fun):Prop:=∀ {n:Nat} {args:List Val} {h h2:A9} {v:Val} {sz k:Nat} {cs:List Cell},R n args (ro h)=A4 (v,h2)->Out h.length h2 v sz k cs->M9 cs=A5->S args h=A4 (.c (.sl h.length 0 k sz),h++[A4 ⟨cs,A5⟩])
abbrev E6k(R:Nat->Fun)(S:Fun):Prop:=∀ {n:Nat} {args:List Val} {h h2:A9} {i:Nat} {c:Cell} {sz k:Nat} {cs:List Cell},R n args (ro h)=A4 (.t [.c (.sl i 0 k sz),.c c],h2)->Out h.length h2 (.c (.sl i 0 k sz)) sz k cs->M9 cs=A5->c.flat=A5->S args h=A4 (.t [.c (.sl h.length 0 k sz),.c c],h++[A4 ⟨cs,A5⟩])
abbrev D0q(R:Nat->Fun)(S:Fun):Prop:=∀ {n:Nat} {args:List Val} {h h2:A9} {v v2:Val} {ids:List Nat},R n args (ro h)=A4 (v,h2)->X5 h2 h.length v=A4 (v2,ids)->S args h=A4 (v2,h++ids.map (rd h2))
abbrev OfT(R:Nat->Fun)(S:Fun):Prop:=∀ {n:Nat} {args:List Val} {h:A9} {p:Val × A9},R n args h=A4 p->S args h=A4 p
end Go.Esc
namespace Go.Esc
open Go Go.ChangeShapes Go.WideShapes Go.ChangeAt Go.RowKit
def A2o(P:Program)(g:TypeId->Option (List Sh)):List Field->Nat->Option (List Sh)
 | [],_=>A4 []
 | f::r,off=>if f.offset=off then (g f.type).bind λl=>if l.length=P.cellsOf f.type then (A2o P g r (off+l.length)).map (l ++ ·) else A7 else A7
def B5t(P:Program):Nat->TypeId->Option (List Sh)
 | 0,_=>A7
 | n+1,t=>match P.underlying t with
  | some .bool=>A4 [.b]
  | some (.int k)=>A4 [.i k]
  | some .string=>A4 [.s]
  | some (.struct fs)=>(A2o P (B5t P n) fs.toList 0).bind λl=>if l.length=P.cellsOf t then A4 l else A7
  | some (.array m e)=>(B5t P n e).bind λl=>if l.length=P.cellsOf e/\P.cellsOf t=m*l.length then A4 (E8l m l).flatten else A7
  | _=>A7
def okCell:Sh->Cell->Prop
 | .b,.b _=>True
 | .i k,.i k' n=>k'=k/\k.min<=n/\n<=k.max
 | .s,.s l=>l.length<=maxLen
 | _,_=>False
def okCell.flat{s:Sh}{c:Cell}(h:okCell s c):c.flat=A5/\c.isX=A6:=by
 cases s<;>cases c<;>simp_all [okCell,Cell.flat,Cell.isX]
def B7D:∀ {l:List Sh} {cs:List Cell},All2 okCell l cs->M9 cs=A5/\noX cs=A5
 | [],[],_=>⟨rfl,rfl⟩
 | s::l,c::cs,⟨h1,h2⟩=>by
  have:=B7D h2;have h3:=h1.flat;simp [this.1,h3.1,noX,h3.2];have:=this.2;simpa [noX] using this
 | [],_::_,h=>h.elim
 | _::_,[],h=>h.elim
section
variable {H:Type} {enc:TypeId × Value->H} {P:Program} {w:World} {base:Nat} {spare:Nat->Bool} {held:Bool} {fuel:Nat} {t:TypeId} {cs:List Value} {x:DataW H × List MemPlace}
def trod_array{n:Nat}{e:TypeId}(ht:P.underlying t=A4 (.array n e))(h:DataW.trod enc P w base spare held fuel t cs=A4 x) :
  ∃ (m:Nat) (xs:List (DataW H × List MemPlace)),cs.length=P.cellsOf t/\∀ i,i<n->∃ y,DataW.trod enc P w base spare held m e ((cs.drop (i*P.cellsOf e)).take (P.cellsOf e))=A4 y:=by
 cases fuel with
 | zero=>simp [DataW.trod] at h
 | succ m =>
  unfold DataW.trod at h;rw [ht] at h;have h':cs.length=P.cellsOf t/\∃ xs,((E8T n).mapM λi=>DataW.trod enc P w base spare held m e ((cs.drop (i*P.cellsOf e)).take (P.cellsOf e)))=A4 xs:=by
   split at h<;>simp_all
   obtain ⟨hl,xs,hp,hd⟩:=h;exact ⟨xs,hp⟩
  obtain ⟨hl,xs,hp⟩:=h';refine ⟨m,xs,hl,λi hi=>?_⟩;have:=mapM_some_get hp i i (by simp [hi]);rw [this];have hxl:xs.length=n:=by simpa using mapM_some_length hp
  exact ⟨xs[i],E8h (by omega)⟩
def B5h(U:Mu):∀ (n:Nat) {t:TypeId} {fuel:Nat} {cs:List Value} {x:DataW H × List MemPlace} {sh:List Sh},DataW.trod enc P w base spare held fuel t cs=A4 x->B5t P n t=A4 sh ->
  ∃ cells,All2 (RC U) cells cs/\All2 okCell sh cells
 | 0,_,_,_,_,_,_,hs=>by simp [B5t] at hs
 | n+1,t,fuel,cs,x,sh,h,hs=>by
  unfold B5t at hs;split at hs
  ·rename_i ht;cases hs;obtain ⟨b,rfl,_⟩:=DataW.trod_bool ht h;exact ⟨[.b b],⟨rfl,trivial⟩,⟨trivial,trivial⟩⟩
  ·rename_i k ht;cases hs;obtain ⟨m,rfl,_,hw⟩:=DataW.trod_int ht h;simp only [Lit.wf,E8j,decide_eq_true_eq] at hw;exact ⟨[.i k m],⟨rfl,trivial⟩,⟨⟨rfl,hw⟩,trivial⟩⟩
  ·rename_i ht;cases hs;obtain ⟨s,rfl,_,hw⟩:=DataW.trod_string ht h;exact ⟨[.s s.data.toList],⟨by show Value.string s=.string ⟨s.data.toList.toArray⟩;simp,trivial⟩,⟨by show s.data.toList.length<=maxLen;simpa using hw,trivial⟩⟩
  ·rename_i fs ht;simp only [E8i] at hs;obtain ⟨l,hl,hs⟩:=hs;split at hs
   ·rename_i hlen;cases hs;obtain ⟨xs,m,_,_,pE,hxl,hf⟩:=DataW.trod_struct ht h;have key:∀ (r:List Field) (off:Nat) (l:List Sh),A2o P (B5t P n) r off=A4 l->(∀ f∈r,∃ y,DataW.trod enc P w base spare held m f.type ((cs.drop f.offset).take (P.cellsOf f.type))=A4 y) ->
      ∃ cells,All2 (RC U) cells ((cs.drop off).take l.length)/\All2 okCell l cells:=by
     intro r
     induction r with
     | nil=>intro off l hl _;simp only [A2o,E8n] at hl;subst hl;exact ⟨[],by simp,trivial⟩
     | cons f r ih =>
      intro off l hl kR;simp only [A2o] at hl;split at hl
      ·rename_i ho;simp only [E8i] at hl;obtain ⟨lf,hlf,hl⟩:=hl;split at hl
       ·rename_i hc;simp only [E8G] at hl;obtain ⟨lr,hlr,rfl⟩:=hl;obtain ⟨y,hy⟩:=kR f (by simp);obtain ⟨c1,g1,g2⟩:=B5h U n hy hlf;obtain ⟨c2,g3,g4⟩:=ih (off+lf.length) lr hlr λf' hf'=>kR f' (by simp [hf'])
        refine ⟨c1++c2,?_,g2.append g4⟩;have e:(cs.drop off).take (lf++lr).length=(cs.drop off).take lf.length++(cs.drop (off+lf.length)).take lr.length:=by
         rw [E8o,List.take_add,E9D]
        rw [e];rw [ho,<-hc] at g1;exact g1.append g3
       ·cases hl
      ·cases hl
    have h1:=key fs.toList 0 _ hl λf hf'=>by
     obtain ⟨i,hi⟩:=List.mem_iff_getElem?.1 hf';have hi2:fs[i]?=A4 f:=by simpa using hi
     rw [hf i f hi2];have:i<fs.size:=(Array.getElem?_eq_some_iff.1 hi2).1;exact ⟨xs[i],E8h (by omega)⟩
    rw [E8y,E8B (by omega)] at h1;exact h1
   ·cases hs
  ·rename_i k e ht;simp only [E8i] at hs;obtain ⟨l,hl,hs⟩:=hs;split at hs
   ·rename_i hlen;cases hs;obtain ⟨m,xs,pE,kR⟩:=trod_array ht h;have key:∀ d j,j+d=k->∃ cells,All2 (RC U) cells (cs.drop (j*l.length))/\All2 okCell (E8l d l).flatten cells:=by
     intro d
     induction d with
     | zero =>
      intro j hj;have:cs.drop (j*l.length)=[]:=E8x (by rw [pE,hlen.2];have:j=k:=(by omega);subst this;exact E8m _);rw [this];exact ⟨[],trivial,trivial⟩
     | succ d ih =>
      intro j hj;obtain ⟨y,hy⟩:=kR j (by omega);obtain ⟨c1,g1,g2⟩:=B5h U n hy hl;obtain ⟨c2,g3,g4⟩:=ih (j+1) (by omega);refine ⟨c1++c2,?_,?_⟩
      ·rw [<-hlen.1] at g1;have e2:cs.drop (j*l.length)=(cs.drop (j*l.length)).take l.length++cs.drop ((j+1)*l.length):=by
        rw [E9E,Nat.one_mul,<-E9D,List.take_append_drop]
       rw [e2];exact g1.append g3
      ·rw [E81,E9v];exact g2.append g4
    have h1:=key k 0 (by omega);simpa using h1
   ·cases hs
  ·cases hs
end
def Mu.set(U:Mu)(id:Nat)(y:Option (Nat × Nat)):Mu:=λj=>if j=id then y else U j
def Mu.le_set{U:Mu}{id:Nat}{y:Option (Nat × Nat)}(h:U id=Option.none):U.le (U.set id y):=by
 intro j x hj;unfold Mu.set;by_cases e:j=id
 ·subst e;rw [h] at hj;cases hj
 ·simp [e,hj]
def Inv.addRow{W:World}{h:A9}{U:Mu}(hi:Inv (C7h W) U h W)(hro:∀ id r,rd h id=A4 r->r.own=A6){y:Option (Nat × Nat)}{cs:List Cell}(A5D:(Row.mk cs A6).own=A6)(hrow:RowOk (U.set h.length y) W h.length ⟨cs,A6⟩) :
  Inv (C7h W) (U.set h.length y) (h++[A4 ⟨cs,A6⟩]) W/\∀ id r,rd (h++[A4 ⟨cs,A6⟩]) id=A4 r->r.own=A6:=by
 have hm:U h.length=Option.none:=hi.dom _ (E8m _);have get:∀ id r,rd (h++[A4 ⟨cs,A6⟩]) id=A4 r->(id<h.length/\rd h id=A4 r)\/(id=h.length/\r=⟨cs,A6⟩):=by
  intro id r hr;by_cases hl:id<h.length
  ·rw [D5 hl] at hr;exact .inl ⟨hl,hr⟩
  ·have W4:=E1 hr;simp at W4;have:id=h.length:=by omega
   subst this;rw [N8] at hr;cases hr;exact .inr ⟨rfl,rfl⟩
 have ro':∀ id r,rd (h++[A4 ⟨cs,A6⟩]) id=A4 r->r.own=A6:=by
  intro id r hr;rcases get id r hr with ⟨_,h1⟩ | ⟨_,rfl⟩
  ·exact hro id r h1
  ·exact A5D
 refine ⟨⟨?_,?_,?_,?_,hi.ctx⟩,ro'⟩
 ·intro id r hr;rcases get id r hr with ⟨hl,h1⟩ | ⟨rfl,rfl⟩
  ·exact (hi.rows id r h1).mono (Mu.le_set hm) (by simp [Mu.set];omega) λ_ _=>rfl
  ·exact hrow
 ·intro id cP r r' x x' hr _ hw;rw [ro' id r hr] at hw;cases hw
 ·intro id r x hr hw;rw [ro' id r hr] at hw;cases hw
 ·intro id hl;simp at hl;have:id≠h.length:=by omega
  simp only [Mu.set,this,if_false];exact hi.dom id (by omega)
def E2o{U:Mu}{k:Nat}{cs:List Cell}{vs:List Value}(h:All2 (RC U) cs vs):(Row.mk (E8l k .dark++cs) A6).own=A6:=by
 cases k with
 | succ k=>rfl
 | zero =>
  cases cs with
  | nil=>rfl
  | cons c cs =>
   cases vs with
   | nil=>exact h.elim
   | cons v vs =>
    have h1:=h.1;cases c<;>first | rfl | exact h1.elim
def Opened(W:World)(U:Mu)(h:A9):Prop:=Inv (C7h W) U h W/\∀ id r,rd h id=A4 r->r.own=A6
def Opened.nought(W:World):Opened W (λ_=>Option.none) []:=⟨Inv.nought W,λid r h=>by simp [rd] at h⟩
section
variable {H:Type} {enc:TypeId × Value->H} {P:Program} {W:World} {base:Nat} {held:Bool} {t:TypeId}
def E03{W:World}{a:Addr}{C:Array Value}{elem:TypeId}{fz:Nat × Nat}{k:Nat}(hC:W.heap[a.block]?=A4 (.cells C elem fz))(hs:a.spot=A7):W.cell? (a.add k)=C[a.off+k]? := by
 have h1:(a.add k).block=a.block:=by unfold Addr.add;split<;>rfl
 have h2:(a.add k).spot=A7:=by unfold Addr.add;split<;>simp_all
 have h3:(a.add k).off=a.off+k:=by unfold Addr.add;split<;>simp_all
 unfold World.cell?;rw [h1,hC,h3];simp [h2]
def C8u{U:Mu}{h:A9}(ho:Opened W U h){r:Reach}{b0 n:Nat}{e:TypeId}{v:Value}{d:DataW H}{ps:List MemPlace}{sh:List Sh}(ht:P.underlying t=A4 (.slice e))(hs:B5t P n e=A4 sh)(hsl:sh.length=P.cellsOf e)(B8E:0<sh.length)
  (C7S:Value.okWide P W r b0 t v) (hd:DataW.Trod enc P W base (λ_=>A5) held t v d ps) :
  ∃ v' U' l len cells,U.le U'/\Opened W U' (h++l)/\RV U' v' v/\Has (h++l) v' sh.length len cells/\All2 okCell (E8l len sh).flatten cells/\len<=maxLen:=by
 obtain ⟨fuel,hf⟩:=hd;have hv:∃ a len cap,v=.slice a len cap:=by
  unfold Value.okWide at C7S;rw [ht] at C7S;unfold Cell.okWide at C7S;rw [ht] at C7S;cases v<;>simp_all [Cell.ok]
 obtain ⟨a0,len0,cap0,rfl⟩:=hv;have E5s:(Value.slice a0 len0 cap0).cells.toList=[.slice a0 len0 cap0]:=by simp [Value.cells]
 rw [E5s] at hf;rcases Deep.open_slice ht hf with ⟨hc,_⟩ | ⟨a,len,cap,m,k,D,Pl,hc,hb,hl,hm,hmm,hx,hel⟩
 ·simp only [List.cons.injEq,Value.slice.injEq,and_true] at hc;obtain ⟨rfl,rfl,rfl⟩:=hc;exact ⟨.c .ns,U,[],0,[],Mu.le_refl _,by simpa using ho,rfl,.inl ⟨rfl,rfl,rfl⟩,by simp,Nat.zero_le _⟩
 ·simp only [List.cons.injEq,Value.slice.injEq,and_true] at hc;obtain ⟨rfl,rfl,rfl⟩:=hc;simp only [if_true] at hmm;subst hmm;rw [<-hsl] at hel;by_cases hm0:m=0
  ·subst hm0;have:len0=0:=by omega
   subst this;obtain ⟨g1,g2⟩:=Inv.addRow ho.1 ho.2 (y:=Option.none) (cs:=[]) rfl (by unfold RowOk;simp [Mu.set]);exact ⟨.c (.sl h.length 0 0 sh.length),_,[A4 ⟨[],A6⟩],0,[],Mu.le_set (ho.1.dom _ (E8m _)),⟨g1,g2⟩,.inr ⟨rfl,_,rfl⟩,.inr ⟨h.length,0,⟨[],A6⟩,rfl,N8,by simp,by simp,by simp,rfl⟩,by simp,Nat.zero_le _⟩
  ·obtain ⟨cs0,hc0,hr0⟩:=hel 0 (by omega);obtain ⟨_,E73,E5r⟩:=World.cells?_some hc0;have A0a:∃ C elem fz,W.heap[a.block]?=A4 (.cells C elem fz)/\a.spot=A7:=by
    have:=E5r 0 B8E;rw [E8h (by omega)] at this;unfold World.cell? at this;have hb0:((a.add (0*sh.length)).add 0)=a:=by simp [Addr.add]
    rw [hb0] at this;split at this
    ·rename_i C elem fz hh;refine ⟨C,elem,fz,hh,?_⟩;split at this
     ·cases this
     ·rename_i hs2;cases hsp:a.spot with
      | none=>rfl
      | some s=>simp [hsp] at hs2
    ·cases this
   obtain ⟨C,elem,fz,hC,hsp⟩:=A0a;have ha:a=⟨a.block,a.off,A7⟩:=by cases a;simp_all
   have E1O:∀ i j,i<m->j<sh.length->W.cell? ((a.add (i*sh.length)).add j)=C[a.off+(i*sh.length+j)]? := by
    intro i j _ _;rw [Deep.add_add];exact E03 hC hsp
   have E6J:a.off+m*sh.length<=C.size:=by
    obtain ⟨cs1,hc1,_⟩:=hel (m-1) (by omega);obtain ⟨_,E6D,D6M⟩:=World.cells?_some hc1;have h1:=D6M (sh.length-1) (by omega);rw [E1O _ _ (by omega) (by omega),E8h (by omega)] at h1;have h2:=(Array.getElem?_eq_some_iff.1 h1).1;have e:(m-1)*sh.length+(sh.length-1)+1=m*sh.length:=by
     obtain ⟨q,rfl⟩:∃ q,m=q+1:=⟨m-1,by omega⟩;rw [Nat.add_sub_cancel,E9E];omega
    omega
   have key:∀ d j,j+d=len0->∃ cells,All2 (RC U) cells ((C.toList.drop (a.off+j*sh.length)).take (d*sh.length))/\All2 okCell (E8l d sh).flatten cells:=by
    intro d
    induction d with
    | zero=>intro j _;exact ⟨[],by simp,trivial⟩
    | succ d ih =>
     intro j hj;obtain ⟨cs1,hc1,hr1⟩:=hel j (by omega);obtain ⟨_,E6D,D6M⟩:=World.cells?_some hc1;obtain ⟨c1,g1,g2⟩:=B5h U n hr1 hs;obtain ⟨c2,g3,g4⟩:=ih (j+1) (by omega);refine ⟨c1++c2,?_,by rw [E81,E9v];exact g2.append g4⟩;have e1:(C.toList.drop (a.off+j*sh.length)).take sh.length=cs1:=by
      refine List.ext_getElem? λi=>?_
      by_cases hi:i<sh.length
      ·rw [E86 hi,List.getElem?_drop,<-D6M i hi,E1O j i (by omega) hi];simp [Nat.add_assoc]
      ·rw [E8P (by simp;omega),E8P (by omega)]
     have e2:(C.toList.drop (a.off+j*sh.length)).take ((d+1)*sh.length)=cs1++(C.toList.drop (a.off+(j+1)*sh.length)).take (d*sh.length):=by
      rw [E9E d 1,Nat.one_mul,Nat.add_comm (d*sh.length),List.take_add,e1,E9D,E9E,Nat.one_mul,Nat.add_assoc]
     rw [e2];exact g1.append g3
   obtain ⟨cells,k1,k2⟩:=key len0 0 (by omega);rw [Nat.zero_mul,Nat.add_zero] at k1;have pE:cells.length=len0*sh.length:=by
    have h1:=k1.length;simp at h1;have:len0*sh.length<=m*sh.length:=Nat.mul_le_mul_right _ hl;omega
   have hmul:len0*sh.length<=m*sh.length:=Nat.mul_le_mul_right _ hl;have hm':U h.length=A7:=ho.1.dom _ (E8m _);obtain ⟨g1,g2⟩:=Inv.addRow ho.1 ho.2 (y:=A4 (a.block,C.size)) (cs:=E8l a.off .dark++cells) (E2o k1) (by
    unfold RowOk;simp only [Mu.set,if_true];refine .inl ⟨C,elem,fz,hC,rfl,?_,λhf=>by cases hf⟩;have e3:C.toList.take (E8l a.off Cell.dark++cells).length=C.toList.take a.off++(C.toList.drop a.off).take (len0*sh.length):=by
     rw [E8o,E8S,List.take_add,pE]
    rw [e3];refine All2.append ?_ (k1.mono λc V hc=>.inl (hc.mono (Mu.le_set hm')));refine All2.of_get (by simp;omega) λi c V hc hV=>.inr ⟨rfl,?_⟩
    have:=E8H hc;rw [List.mem_replicate] at this;rw [this.2];rfl)
   refine ⟨.c (.sl h.length a.off len0 sh.length),_,[A4 ⟨E8l a.off .dark++cells,A6⟩],len0,cells,Mu.le_set hm',⟨g1,g2⟩,.inl ⟨a.block,C.size,m,by simp [Mu.set],hl,E6J,by rw [<-ha]⟩,.inr ⟨h.length,a.off,_,rfl,N8,pE,?_,?_,(B7D k2).2⟩,k2,by omega⟩
   ·simp [pE]
   ·rw [E9C (by simp),E8B (by omega)]
end
def E5L(k:IntKind)(n:Int):Prop:=k.min<=n/\n<=k.max
def D9k{n:Int}:E5L .u8 n↔0<=n/\n<=255:=Iff.rfl
def D41:∀ {n:Nat} {cells:List Cell},All2 okCell (E8l n (.i .u8)) cells->∃ l:List UInt8,cells=B4 l/\l.length=n
 | 0,[],_=>⟨[],rfl,rfl⟩
 | n+1,c::cs,h=>by
  rw [E81] at h;obtain ⟨l,rfl,hl⟩:=D41 h.2;have h1:=h.1;cases c with
  | i k m =>
   obtain ⟨rfl,h2⟩:=h1;have h3:=D9k.1 h2;refine ⟨UInt8.ofNat m.toNat::l,?_,by simp [hl]⟩;simp only [B4,E9c,List.cons.injEq,Cell.i.injEq,true_and,and_true];rw [UInt8.toNat_ofNat'];omega
  | _=>exact h1.elim
 | 0,_::_,h=>h.elim
 | n+1,[],h=>by rw [E81] at h;exact h.elim
section
variable {H:Type} {enc:TypeId × Value->H} {P:Program} {W:World} {base:Nat} {spare:Nat->Bool} {held:Bool} {t:TypeId} {r:Reach} {b0 n:Nat} {v:Value} {d:DataW H} {ps:List MemPlace}
def E5d{e:TypeId}{sh:List Sh}{U:Mu}{h:A9}(ho:Opened W U h)(C7S:Value.okWide P W r b0 t v)(hd:DataW.Trod enc P W base (λ_=>A5) held t v d ps)(ht:P.underlying t=A4 (.slice e))(hs:B5t P n e=A4 sh)(hsl:sh.length=P.cellsOf e)(B8E:0<sh.length) :
  ∃ v' U' l len cells,U.le U'/\Opened W U' (h++l)/\RV U' v' v/\Has (h++l) v' sh.length len cells/\All2 okCell (E8l len sh).flatten cells/\len<=maxLen :=
 C8u ho ht hs hsl B8E C7S hd
end
end Go.Esc
section
namespace Go.Esc
open Go
def Has.tr{h:A9}{id sz n:Nat}{cs:List Cell}(hr:rd h id=A4 ⟨cs,A5⟩)(hl:cs.length=n*sz)(hx:noX cs=A5):Has h (.c (.sl id 0 n sz)) sz n cs:=Has.row hr hl hx
def Has.since{g h:A9}{v:Val}{sz n:Nat}{cs:List Cell}(hv:Has g v sz n cs)(h1:Low (l_ g) g h):Has h v sz n cs:=by
 rcases hv with hv | ⟨id,off,r,rfl,hr,h2⟩
 ·exact .inl hv
 ·exact .inr ⟨id,off,r,rfl,by rw [h1.2.2 id (E1 hr)];exact hr,h2⟩
def Low.rd{g h:A9}(h1:Low (l_ g) g h){id:Nat}{r:Row}(hr:rd g id=A4 r):rd h id=A4 r:=by
 rw [h1.2.2 id (E1 hr)];exact hr
def push{g h:A9}{id n sz:Nat}{cs ys:List Cell}(hlow:Low (l_ g) g h)(hr:rd h id=A4 ⟨cs,A5⟩)(hl:cs.length=n*sz)(hb:l_ g<=id)(hy:ys.length=sz)(hsz:0<sz)(hn:n+1<=1073741824) :
  ∃ h',uR (h++[A4 ⟨ys,A5⟩]) sz (.c (.sl id 0 n sz)) (.c (.sl h.length 0 1 sz))=A4 (.c (.sl (h.length+1) 0 (n+1) sz),h')/\rd h' (h.length+1)=A4 ⟨cs++ys,A5⟩/\Low (l_ g) g h'/\(l_ g)<=h.length+1/\(cs++ys).length=(n+1)*sz:=by
 have W4:=E1 hr;have h1:rd (h++[A4 ⟨ys,A5⟩]) id=A4 ⟨cs,A5⟩:=B6 hr;have h2:V0 (h++[A4 ⟨ys,A5⟩]) sz (.c (.sl h.length 0 1 sz))=A4 ys:=by
  have:=(Has.row (h:=h++[A4 ⟨ys,A5⟩]) (id:=h.length) (sz:=sz) (n:=1) (cs:=ys) (rw:=A5) (by simp) (by omega));simp [V0,rJ,hy,E8B (Nat.le_of_eq hy)]
 refine ⟨(h++[A4 (Row.mk ys A5)]).set id A7++[A4 (Row.mk (cs++ys) A5)],?_,?_,((hlow.new _).set hb A7).new _,by have:=hlow.2.1;omega,by simp [hl,hy,E9E]⟩
 ·simp only [uR,h2,h1,E8z,hy,Nat.div_self hsz];rw [if_pos ⟨trivial,trivial,hl.symm,trivial,hn⟩];simp
 ·have:=N8 (h:=(h++[A4 (Row.mk ys A5)]).set id A7) (r:=Row.mk (cs++ys) A5);rw [E80] at this;simpa using this
def ldN(r:Option Row)(off n:Nat):Option Val:=r.bind λr=>if off+n<=r.cells.length/\(r.rw||noX ((r.cells.drop off).take n))=A5 then A4 (.a ((r.cells.drop off).take n)) else A7
def ld1(r:Option Row)(off:Nat):Option Val:=r.bind λr=>(r.cells[off]?).bind λc=>bif r.rw || !c.isX then A4 (.c c) else A7
def stN(r:Option Row)(off n:Nat)(xs:List Cell):Option Row:=r.bind λr=>if r.rw=A5/\xs.length=n/\off+n<=r.cells.length then A4 ⟨lay r.cells off xs,A5⟩ else A7
def st1(r:Option Row)(off:Nat)(x:Cell):Option Row:=r.bind λr=>if r.rw=A5/\off<r.cells.length then A4 ⟨r.cells.set off x,A5⟩ else A7
def slr(r:Option Row)(id off n sz:Nat):Option Val:=r.bind λr=>if off+n*sz<=r.cells.length/\(r.rw=A5\/Option.any (λc=>!c.isX) r.cells[off]?=A5) then A4 (.c (.sl id off n sz)) else A7
section
variable {h:A9} {l:List (Option Row)} {k off n sz:Nat} {cs xs:List Cell} {x:Cell} {kd:IntKind}
def P7:C9 (h++l) n (.c (.p (h.length+k) off))=ldN (l[k]?).join off n:=by simp [C9,ldN]
def H6:C9 (h++l) n (.c (.p h.length off))=ldN (l[0]?).join off n:=by simp [C9,ldN]
def Z4:B9 (h++l) (.c (.p (h.length+k) off))=ld1 (l[k]?).join off:=by simp [B9,ld1]
def J0:B9 (h++l) (.c (.p h.length off))=ld1 (l[0]?).join off:=by simp [B9,ld1]
def S5:F7 (h++l) n (.c (.p (h.length+k) off)) (.a xs)=mp (stN (l[k]?).join off n xs) λr=>h++l.set k (A4 r):=by
 simp only [F7,stN,gP];cases (l[k]?).join with
 | none=>rfl
 | some r=>simp only [E8z];split<;>simp [mp]
def I3:F7 (h++l) n (.c (.p h.length off)) (.a xs)=mp (stN (l[0]?).join off n xs) λr=>h++l.set 0 (A4 r):=S5 (k:=0)
def oN:I8 (h++l) (.c (.p (h.length+k) off)) (.c x)=mp (st1 (l[k]?).join off x) λr=>h++l.set k (A4 r):=by
 simp only [I8,st1,gP];cases (l[k]?).join with
 | none=>rfl
 | some r=>simp only [E8z];split<;>simp [mp]
def A6X:I8 (h++l) (.c (.p h.length off)) (.c x)=mp (st1 (l[0]?).join off x) λr=>h++l.set 0 (A4 r):=oN (k:=0)
def D7P:D2a (h++l) n sz (.c (.p (h.length+k) off)) A7 A7=slr (l[k]?).join (h.length+k) off n sz:=by
 simp [D2a,slr,bound]
def E0S:D2a (h++l) n sz (.c (.p h.length off)) A7 A7=slr (l[0]?).join h.length off n sz:=D7P (k:=0)
def K9(hl:cs.length=n):ldN (A4 ⟨cs,A5⟩) 0 n=A4 (.a cs):=by
 subst hl;simp [ldN]
def zN:ld1 (A4 ⟨cs,A5⟩) off=(cs[off]?).map .c:=by
 simp only [ld1,E8z,Bool.true_or,cond_true];cases cs[off]?<;>rfl
def fZ(hl:cs.length=n)(hx:xs.length=n):stN (A4 ⟨cs,A5⟩) 0 n xs=A4 ⟨xs,A5⟩:=by
 simp only [stN,E8z];rw [if_pos ⟨trivial,hx,by omega⟩,lay_all (by omega)]
def D8y(ho:off<cs.length):st1 (A4 ⟨cs,A5⟩) off x=A4 ⟨cs.set off x,A5⟩:=by
 simp only [st1,E8z];rw [if_pos ⟨trivial,ho⟩]
def E4y(hl:cs.length=n){id:Nat}:slr (A4 ⟨cs,A5⟩) id 0 n 1=A4 (.c (.sl id 0 n 1)):=by
 simp only [slr,E8z];rw [if_pos ⟨by show 0+n*1<=cs.length;omega,.inl trivial⟩]
end
section
variable {k:IntKind} {a b:Int}
def B96{k':IntKind}(hb:0<=b):N4 .shl (.c (.i k a)) (.c (.i k' b))=A4 (.c (.i k (k.wrap (a*2 ^ (Nat.min b.toNat k.bits))))):=by
 simp only [N4,E5M];rw [if_neg (by omega)];rfl
def C6I{k':IntKind}(hb:0<=b):N4 .shr (.c (.i k a)) (.c (.i k' b))=A4 (.c (.i k (a/(2 ^ (Nat.min b.toNat k.bits))))):=by
 simp only [N4,E5N];rw [if_neg (by omega),Int.fdiv_eq_ediv_of_nonneg _ (Int.pow_nonneg (by omega))];rfl
end
def E5Y{a b:Nat}(ha:a<18446744073709551616)(hb:b<18446744073709551616):N4 .or (.c (.i .u64 a)) (.c (.i .u64 b))=A4 (.c (.i .u64 ((a ||| b:Nat):Int))):=by
 rw [D14]
 congr 3
 have h1:(IntKind.u64).bits=64:=rfl;have h2:(a ||| b)<2 ^ 64:=Nat.or_lt_two_pow (by simpa using ha) (by simpa using hb);rw [h1];simp only [BitVec.ofInt_natCast,BitVec.toNat_or,BitVec.toNat_ofNat];rw [Nat.mod_eq_of_lt (by simpa using ha),Nat.mod_eq_of_lt (by simpa using hb)];exact wrap_u64 (by omega) (by omega)
def E5X{a b:Nat}(ha:a<9223372036854775808)(hb:b<9223372036854775808):N4 .or (.c (.i .i64 a)) (.c (.i .i64 b))=A4 (.c (.i .i64 ((a ||| b:Nat):Int))):=by
 rw [D14]
 congr 3
 have h1:(IntKind.i64).bits=64:=rfl;have h2:(a ||| b)<2 ^ 63:=Nat.or_lt_two_pow (by simpa using ha) (by simpa using hb);rw [h1];simp only [BitVec.ofInt_natCast,BitVec.toNat_or,BitVec.toNat_ofNat];rw [Nat.mod_eq_of_lt (by omega),Nat.mod_eq_of_lt (by omega)];exact wrap_i64 (by omega) (by omega)
def E4I{a b:Nat}(ha:a<4294967296)(hb:b<4294967296):N4 .xor (.c (.i .u32 a)) (.c (.i .u32 b))=A4 (.c (.i .u32 ((a ^^^ b:Nat):Int))):=by
 rw [E0E]
 congr 3
 have h1:(IntKind.u32).bits=32:=rfl;have h2:(a ^^^ b)<2 ^ 32:=Nat.xor_lt_two_pow (by simpa using ha) (by simpa using hb);rw [h1];simp only [BitVec.ofInt_natCast,BitVec.toNat_xor,BitVec.toNat_ofNat];rw [Nat.mod_eq_of_lt (by omega),Nat.mod_eq_of_lt (by omega)];exact wrap_u32 (by omega) (by omega)
def E3n{a b:Nat}(ha:a<4294967296)(hb:b<4294967296):N4 .and (.c (.i .u32 a)) (.c (.i .u32 b))=A4 (.c (.i .u32 ((a &&& b:Nat):Int))):=by
 rw [D3v]
 congr 3
 have h1:(IntKind.u32).bits=32:=rfl;have h2:(a &&& b)<=a:=Nat.and_le_left;rw [h1];simp only [BitVec.ofInt_natCast,BitVec.toNat_and,BitVec.toNat_ofNat];rw [Nat.mod_eq_of_lt (by omega),Nat.mod_eq_of_lt (by omega)];exact wrap_u32 (by omega) (by omega)
def C4A{a:Int}:E8r .u8 a=a%256:=by
 simp only [E8r,IntKind.bits,IntKind.signed,E8E];rfl
def E5W{a b i:Nat}(ha:a<2 ^ i):(a ||| b*2 ^ i)=a+b*2 ^ i:=by
 rw [Nat.mul_comm b,Nat.or_comm,<-Nat.two_pow_add_eq_or_of_lt ha];omega
def A50{a b:Nat}(h:a+b<9223372036854775808):E8r .i64 ((a:Int)+b)=((a+b:Nat):Int):=by rw [wrap_i64 (by omega) (by omega)];omega
def E2{a:Nat}(h:a+1<9223372036854775808):E8r .i64 ((a:Int)+1)=((a+1:Nat):Int):=by rw [wrap_i64 (by omega) (by omega)];omega
def D5C{k:IntKind}{x:UInt8}{i:Nat}(hi:i<8)(hk:E8r k ((x.toNat*256 ^ i:Nat):Int)=((x.toNat*256 ^ i:Nat):Int))(hb:k.bits=64) :
  N4 .shl (.c (.i k x.toNat)) (.c (.i .u64 (8*(i:Int))))=A4 (.c (.i k ((x.toNat*256 ^ i:Nat):Int))):=by
 rw [B96 (by omega),hb];have:Nat.min (8*(i:Int)).toNat 64=8*i:=by
  have:(8*(i:Int)).toNat=8*i:=by omega
  rw [this];exact Nat.min_eq_left (by omega)
 rw [this];have hp:(256:Nat) ^ i=2 ^ (8*i):=by rw [Nat.pow_mul]
 have e:(x.toNat:Int)*2 ^ (8*i)=((x.toNat*256 ^ i:Nat):Int):=by rw [hp];simp
 rw [e,hk]
def B58{i n:Nat}(h:i<=n):256 ^ i<=256 ^ n:=Nat.pow_le_pow_right (by omega) h
def C3Y{x:UInt8}{i n:Nat}(h:i<n):x.toNat*256 ^ i<256 ^ n:=by
 have h1:=x.toNat_lt;have h2:x.toNat*256 ^ i<=255*256 ^ i:=Nat.mul_le_mul_right _ (by omega);have h3:256 ^ (i+1)<=256 ^ n:=B58 h;have h4:0<256 ^ i:=Nat.pow_pos (by omega);rw [Nat.pow_succ] at h3;omega
def byI(v:Int)(i:Nat):UInt8:=UInt8.ofNat ((v/256 ^ i)%256).toNat
def C5F(v:Int)(i:Nat):((byI v i).toNat:Int)=v/256 ^ i%256:=by
 have h1:0<=v/256 ^ i%256:=Int.emod_nonneg _ (by omega);have h2:v/256 ^ i%256<256:=Int.emod_lt_of_pos _ (by omega);unfold byI;rw [UInt8.toNat_ofNat'];omega
def D6(w:Nat)(v:Int):List UInt8:=(E8T w).map (byI v)
@[simp] theorem R4 {w:Nat} {v:Int}:(D6 w v).length=w:=by simp [D6]
def B4j{w:Nat}{v:Int}:D6 (w+1) v=D6 w v++[byI v w]:=by simp [D6,List.range_succ]
def le:List UInt8->Nat
 | []=>0
 | x::r=>x.toNat+256*le r
def D4F:∀ l:List UInt8,le l<256 ^ l.length
 | []=>by simp [le]
 | x::r=>by
  have h1:=D4F r;have h2:=x.toNat_lt;simp only [le,E8w,Nat.pow_succ];omega
def D9t(l m:List UInt8):le (l++m)=le l+256 ^ l.length*le m:=by
 induction l with
 | nil=>simp [le]
 | cons x r ih =>
  simp only [List.cons_append,le,ih,E8w,Nat.pow_succ,Nat.mul_add];rw [Nat.mul_comm (256 ^ r.length) 256,Nat.mul_assoc];omega
def D8a(l:List UInt8)(x:UInt8):le (l++[x])=le l+x.toNat*256 ^ l.length:=by
 rw [D9t];simp [le,Nat.mul_comm]
def D8k{l:List UInt8}{x:UInt8}:(le l ||| x.toNat*256 ^ l.length)=le (l++[x]):=by
 have hp:(256:Nat) ^ l.length=2 ^ (8*l.length):=by rw [Nat.pow_mul]
 rw [D8a,hp,E5W (by rw [<-hp];exact D4F l)]
def D0J{v:Int}{i:Nat}(hi:i<8):E8r .u8 (v/2 ^ (Nat.min (8*(i:Int)).toNat 64))=((byI v i).toNat:Int):=by
 have:Nat.min (8*(i:Int)).toNat 64=8*i:=by
  have:(8*(i:Int)).toNat=8*i:=by omega
  rw [this];exact Nat.min_eq_left (by omega)
 rw [this,C4A,C5F]
 congr 2
 rw [Int.pow_mul];rfl
def A8A{α:Type}{l:List α}{a i:Nat}(h:a+i<l.length):(l.drop a).take (i+1)=(l.drop a).take i++[l[a+i]]:=by
 have h2:i<(l.drop a).length:=by simp;omega
 rw [E8R h2];simp
def B52(w:Nat)(v:Int):(le (D6 w v):Int)=v%256 ^ w:=by
 induction w with
 | zero=>simp [D6,le,Int.emod_one]
 | succ w ih =>
  rw [B4j,D8a];simp only [R4,Int.natCast_add,Int.natCast_mul,C5F,ih];have h1:(((256:Nat) ^ w:Nat):Int)=(256:Int) ^ w:=by simp
  rw [h1];have hp:(0:Int)<256 ^ w:=Int.pow_pos (by omega);have h2:=Int.mul_ediv_add_emod v (256 ^ w);have h3:=Int.mul_ediv_add_emod (v/256 ^ w) 256;have h4:v%256 ^ w+v/256 ^ w%256*256 ^ w=v-(256 ^ (w+1))*(v/256 ^ w/256):=by
   rw [Int.pow_succ,Int.mul_assoc];have e:256 ^ w*(256*(v/256 ^ w/256))+v/256 ^ w%256*256 ^ w=256 ^ w*(v/256 ^ w):=by
    rw [Int.mul_comm (v/256 ^ w%256),<-Int.mul_add,h3]
   omega
  have h5:v/256 ^ w/256=v/256 ^ (w+1):=by rw [Int.ediv_ediv_of_nonneg (Int.le_of_lt hp),Int.pow_succ]
  rw [h4,h5];have:=Int.mul_ediv_add_emod v (256 ^ (w+1));omega
def H7(l:List UInt8)(a:Nat)(xs:List UInt8):List UInt8:=l.take a++(xs++l.drop (a+xs.length))
def O6{l xs:List UInt8}{a:Nat}(h:a+xs.length<=l.length):(H7 l a xs).length=l.length:=by
 simp [H7];omega
def C0L{l:List UInt8}{a:Nat}:H7 l a []=l:=by simp [H7]
def B51{l xs:List UInt8}{a:Nat}{x:UInt8}(h:a+xs.length<l.length):(H7 l a xs).set (a+xs.length) x=H7 l a (xs++[x]):=by
 unfold H7;have h1:(l.take a).length=a:=by simp;omega
 rw [E9a _ _ (by rw [h1];omega),h1,Nat.add_sub_cancel_left,E9a _ _ (E8m _),E9t,E8t]
 congr 2
 rw [E8s (by omega)];simp [Nat.add_assoc]
def C76{l xs:List UInt8}{a j:Nat}(h:a+xs.length<=l.length):(H7 l a xs)[j]?=if a<=j/\j<a+xs.length then xs[j-a]? else l[j]? := by
 unfold H7;have h1:(l.take a).length=a:=by simp;omega
 by_cases h2:j<a
 ·rw [E88 (by omega),if_neg (by omega),E86 h2]
 ·rw [E8L (by omega),h1];by_cases h3:j<a+xs.length
  ·rw [if_pos ⟨by omega,h3⟩,E88 (by omega)]
  ·rw [if_neg (by omega),E8L (by omega),List.getElem?_drop]
   congr 1;omega
def D4C{l xs:List UInt8}{a:Nat}(h:a+xs.length<=l.length):((H7 l a xs).drop a).take xs.length=xs:=by
 unfold H7;have h1:(l.take a).length=a:=by simp;omega
 rw [E9C h1,List.take_left' rfl]
def C0u{s:List UInt8}{i:Nat}(hi:i<s.length){k:IntKind}:C6P (.c (.s s)) (.c (.i k i))=A4 (.c (.i .u8 s[i].toNat)):=by
 rw [E3i,E8h hi];rfl
def C5I(l:List UInt8):(B4 l).map Cell.sh=(E8l l.length (Sh.i .u8)).map A4:=by
 induction l with
 | nil=>rfl
 | cons x l ih=>simp only [B4,E9c,E8w,E81] at ih ⊢;rw [ih];rfl
def C5J(l:List Int):(encI l).map Cell.sh=(E8l l.length (Sh.i .i64)).map A4:=by
 induction l with
 | nil=>rfl
 | cons x l ih=>simp only [encI,E9c,E8w,E81] at ih ⊢;rw [ih];rfl
def D0r{l m:List UInt8}{n:Nat}(hl:l.length=n)(hm:m.length=n):aeq A5 (E8l n (.i .u8)) (.a (B4 l)) (.a (B4 m))=A4 (.c (.b (!decide (l=m)))):=by
 simp only [aeq];rw [if_pos ⟨by rw [C5I,hl],by rw [C5I,hm]⟩];simp [D4d]
def D55{l m:List Int}{n:Nat}(hl:l.length=n)(hm:m.length=n):aeq A5 (E8l n (.i .i64)) (.a (encI l)) (.a (encI m))=A4 (.c (.b (!decide (l=m)))):=by
 simp only [aeq];rw [if_pos ⟨by rw [C5J,hl],by rw [C5J,hm]⟩];simp [D4e]
def C6L{l m:List Int}{n:Nat}(hl:l.length=n)(hm:m.length=n):aeq A6 (E8l n (.i .i64)) (.a (encI l)) (.a (encI m))=A4 (.c (.b (decide (l=m)))):=by
 simp only [aeq];rw [if_pos ⟨by rw [C5J,hl],by rw [C5J,hm]⟩];simp [D4e]
def E59{h:A9}{l:List (Option Row)}{k n a b:Nat}{cs:List Cell}(hk:(l[k]?).join=A4 ⟨cs,A5⟩)(hl:cs.length=n)(hab:a<=b)(hb:b<=n) :
  D2a (h++l) n 1 (.c (.p (h.length+k) 0)) (A4 (.c (.i .i64 (a:Int)))) (A4 (.c (.i .i64 (b:Int))))=A4 (.c (.sl (h.length+k) a (b-a) 1)):=by
 simp only [D2a,gP,hk,E8z,bound];rw [if_pos (by omega),if_pos (by omega)];simp only [E8z,E8D];rw [if_pos ⟨hab,hb,by omega,rfl⟩];simp
def Has.part{h:A9}{id sz off n:Nat}{cs xs:List Cell}{rw:Bool}(hr:rd h id=A4 ⟨cs,rw⟩)(ho:off+n*sz<=cs.length)(he:(cs.drop off).take (n*sz)=xs)(hx:noX xs=A5):Has h (.c (.sl id off n sz)) sz n xs :=
 .inr ⟨id,off,_,rfl,hr,by rw [<-he];simp;omega,ho,he,hx⟩
def B7x:Option Row->Bool
 | some r=>r.own
 | none=>A5
def C8i{cs:List Cell}:B7x (A4 ⟨cs,A5⟩)=A5:=rfl
def D1g{es:V8}:B7x (A4 (Q1 es))=A5:=Row.own_mrow es
def D1q{g l l':A9}{v:Val}(hp:l <+: l')(hn:(l'.drop l.length).all B7x=A5):quiet (g++l) (A4 (v,g++l'))=A4 (v,g++l'):=by
 obtain ⟨t,rfl⟩:=hp;rw [List.drop_left] at hn;refine U9 ⟨⟨t,by rw [E8t]⟩,λid x hid hx=>?_⟩;have hx:=rd_some.1 hx;rw [<-E8t,E8L hid] at hx;exact E8O.1 hn _ (E8H hx)
def R1{id o off:Nat}:U2 (.c (.p id o)) off=A4 (.c (.p id (o+off))):=Eq.trans rfl rfl
def D5n{a b:Int}{k:IntKind}(ha:0<=a)(hb:0<b):N4 .rem (.c (.i k a)) (.c (.i k b))=A4 (.c (.i k (a%b))):=by
 rw [E0C (by omega),Int.tmod_eq_emod_of_nonneg ha]
def B1M{a b:Int}(ha:0<=a)(ha2:a<9223372036854775808)(hb:0<b):N4 .quo (.c (.i .i64 a)) (.c (.i .i64 b))=A4 (.c (.i .i64 (a/b))):=by
 have h1:0<=a/b:=Int.ediv_nonneg ha (by omega);have h2:a/b<=a:=Int.ediv_le_self _ ha;rw [E0B (by omega),Int.tdiv_eq_ediv_of_nonneg ha,wrap_i64 (by omega) (by omega)]
def A8h{h:A9}{id jd n m sz:Nat}{cs ys:List Cell}{rw:Bool}(hr:rd h id=A4 ⟨cs,A5⟩)(hl:cs.length=n*sz)(hy:rd h jd=A4 ⟨ys,rw⟩)(hyl:ys.length=m*sz)(hx:(rw||noX ys)=A5)(hsz:0<sz)(hn:n+m<=1073741824) :
  uR h sz (.c (.sl id 0 n sz)) (.c (.sl jd 0 m sz))=A4 (.c (.sl h.length 0 (n+m) sz),h.set id A7++[A4 ⟨cs++ys,A5⟩]):=by
 have h2:V0 h sz (.c (.sl jd 0 m sz))=A4 ys:=by
  simp only [V0,if_true,rJ,hy,E8z,E8y,E8A];rw [<-hyl,List.take_length,if_pos ⟨E8m _,hx⟩]
 have hd:ys.length/sz=m:=by rw [hyl];exact Nat.mul_div_cancel m hsz
 simp only [uR,h2,hr,E8z,hd];rw [if_pos ⟨trivial,trivial,hl.symm,trivial,hn⟩]
end Go.Esc
end
namespace Go.Esc
def esc:=And.intro @R1 (And.intro @List.append_nil.{0} (And.intro @if_true.{1} (And.intro @if_false.{1} (And.intro @C7 (And.intro @D2O (And.intro @X6 (And.intro @Y6 (And.intro @E4M (And.intro @D03 (And.intro @E1G (And.intro @E1F (And.intro @D4p (And.intro @E3j (And.intro @A6U (And.intro @E3k (And.intro @L8 (And.intro @E0D (And.intro @E0A (And.intro @dG (And.intro @A9g (And.intro @G4 (And.intro @E0z (And.intro @C6H (And.intro @C6G (And.intro @D8G (And.intro @D8I (And.intro @D8H (And.intro @yT (And.intro @E3u (And.intro @E0J (And.intro @E3e (And.intro @E48 (And.intro @E3f (And.intro @E49 (And.intro @A6W (And.intro @E47 (And.intro @E46 (And.intro @E3d (And.intro @qQ (And.intro @cond_true.{1} (And.intro @cond_false.{1} (And.intro @decide_true (And.intro @decide_false (And.intro @Bool.not_true (And.intro @Bool.not_false (And.intro @uS (And.intro @dQ (And.intro @dP (And.intro @D21 (And.intro @D20 (And.intro @D3S (And.intro @bQ (And.intro @D7D (And.intro @E6e (And.intro @Option.map_some.{0,0} (And.intro @Option.some.injEq.{0} (And.intro @List.getElem?_cons_zero.{0} (And.intro @List.getElem?_cons_succ.{0} (And.intro @not_true_eq_false (And.intro @not_false_eq_true (And.intro @dR (And.intro @R4 (And.intro @Option.join_some.{0} (And.intro @List.append_assoc.{0} (And.intro @List.cons_append.{0} (And.intro @List.nil_append.{0} (And.intro @List.length_append.{0} (And.intro @List.length_cons.{0} (And.intro @List.length_nil.{0} (And.intro @Nat.zero_add (And.intro @Nat.add_zero (And.intro @gP (And.intro @G3 (And.intro @B5r (And.intro @fX (And.intro @List.set_cons_zero.{0} (And.intro @List.set_cons_succ.{0} (And.intro @ne_eq.{1} (And.intro @decide_not (And.intro @D1q (And.intro @C8i (And.intro @List.cons_prefix_cons.{0} (And.intro @List.nil_prefix.{0} (And.intro @List.drop_succ_cons.{0} (And.intro @List.drop_zero.{0} (And.intro @List.all_cons.{0} (And.intro @List.all_nil.{0} (And.intro @Bool.and_true (And.intro @true_and (@and_true))))))))))))))))))))))))))))))))))))))))))))))))))))))))))))))))))))))))))))))))))))))))))
def esh:=And.intro @P7 (And.intro @H6 (And.intro @Z4 (And.intro @J0 (And.intro @S5 (And.intro @I3 (And.intro @oN (And.intro @A6X (And.intro @D7P (And.intro @E0S (And.intro @K9 (And.intro @zN (And.intro @fZ (And.intro @D8y (@E4y))))))))))))))
end Go.Esc
namespace Go.Esc
@[match_pattern] abbrev iV (x:Int):Val:=.c (.i .i64 x)
@[match_pattern] abbrev pV (a b:Nat):Val:=.c (.p a b)
@[match_pattern] abbrev sV (a b c d:Nat):Val:=.c (.sl a b c d)
@[match_pattern] abbrev bV (x:Bool):Val:=.c (.b x)
@[match_pattern] abbrev rT (l:List Cell):Option Row:=some (Row.mk l true)
@[match_pattern] abbrev o0:Cell:=.i .i64 0
def C4.{u}{c:Prop}{h:Decidable c}(hc:c){α:Sort u}{t e:α}:(ite c t e)=t:=if_pos hc
def C5.{u}{c:Prop}{h:Decidable c}(hc:¬c){α:Sort u}{t e:α}:(ite c t e)=e:=if_neg hc
def O4{p:Prop}[inst:Decidable p](h:p):decide p=A5:=decide_eq_true h
def W3{p:Prop}[inst:Decidable p](h:¬p):decide p=A6:=decide_eq_false h
def S8.{u}{α:Sort u}(a b:α):(bif A5 then a else b)=a:=rfl
def bZ.{u}{α:Sort u}(a b:α):(bif A6 then a else b)=b:=rfl
def X0(M:Nat)(h:0<M):∃ m,M=m+1:=⟨M-1,by omega⟩
@[match_pattern] abbrev cI (x:Int):Cell:=.i .i64 x
def xEq{α:Sort _}(a:α):∃ x,x=a:=⟨a,rfl⟩
abbrev gS(g:Val)(w:Bool)(h:A9)(o:Option Val):Option (Val × A9):=gd g w (bnd o λa=>A4 (a,h)) (A4 (.no,h))
abbrev gV(g:Val)(w:Bool)(h:A9)(x:Val):Option (Val × A9):=gd g w (A4 (x,h)) (A4 (.no,h))
end Go.Esc
namespace Go.Proofs.YtbipebfdappanaaGreat
variable {h g:A9}{n b a m w i v:Int}{l data s:List UInt8}{k nv:Nat}
abbrev Dev:=List (List UInt8)
def E3(D:Dev):List Cell:=(D.map B4).flatten
def okD(D:Dev):Prop:=∀ b∈D,l_ b=256
def okD.cons{b:List UInt8}{D:Dev}(h:okD (b::D)):l_ b=256/\okD D:=⟨h b (List.mem_cons_self ..),λx hx=>h x (E8q _ hx)⟩
def okD.at{D:Dev}(h:okD D){i:Nat}(hi:i<l_ D):D[i].length=256:=h _ (List.getElem_mem hi)
def okD.take{D:Dev}(h:okD D)(i:Nat):okD (D.take i):=λb hb=>h b (List.mem_of_mem_take hb)
def cM{b:List UInt8}{D:Dev}:E3 (b::D)=B4 b++E3 D:=rfl
def C9A{D E:Dev}:E3 (D++E)=E3 D++E3 E:=by simp [E3]
def D6n{b:List UInt8}:E3 [b]=B4 b:=by simp [E3]
def H9:∀ {D:Dev},okD D->(E3 D).length=l_ D*256
 | [],_=>rfl
 | b::D,h=>by
  rw [cM,E8o,B5,h.cons.1,H9 h.cons.2,E8w];omega
def dO:∀ (D:Dev),noX (E3 D)=A5
 | []=>rfl
 | b::D=>by
  rw [cM];have h1:=V6 b;have h2:=dO D;simp only [noX,List.all_append,E8j] at h1 h2 ⊢;exact ⟨h1,h2⟩
def fQ:∀ {D:Dev},M9 (E3 D)=A5
 | []=>rfl
 | b::D=>by rw [cM,kD,fQ,C7E];rfl
def qS:∀ {D:Dev} {i:Nat} (h:okD D) (hi:i<l_ D),((E3 D).drop (i*256)).take 256=B4 D[i]
 | b::D,0,h,hi=>by
  have hb:(B4 b).length=256:=by rw [B5,h.cons.1]
  rw [cM,Nat.zero_mul,E8y,<-hb,List.take_left']
  ·rfl
  ·rfl
 | b::D,i+1,h,hi=>by
  have hb:(B4 b).length=256:=by rw [B5,h.cons.1]
  have e:(i+1)*256=256+i*256:=by omega
  rw [cM,e,<-E9D,<-hb,E9C,hb]
  ·exact qS h.cons.2 (by simpa using hi)
  ·rfl
def D79:∀ {D:Dev} {i:Nat} {b:List UInt8} (h:okD D) (hb:l_ b=256) (hi:i<l_ D),lay (E3 D) (i*256) (B4 b)=E3 (D.set i b)
 | c::D,0,b,h,hb,hi=>by
  unfold lay;rw [cM,E9A,cM,Nat.zero_mul,B5,hb,E8A,E9i,E9C (by rw [B5,h.cons.1])];rfl
 | c::D,i+1,b,h,hb,hi=>by
  have ih:=D79 (i:=i) h.cons.2 hb (by simpa using hi);have hc:(B4 c).length=256:=by rw [B5,h.cons.1]
  unfold lay at ih ⊢;rw [cM,List.set_cons_succ,cM,show (i+1)*256=256+i*256 by omega,List.take_append,List.drop_append,E8B (by omega),E8x (by omega),hc,show 256+i*256-256=i*256 by omega,show 256+i*256+(B4 b).length-256=i*256+(B4 b).length by omega,<-ih];simp only [E8t,E8I]
def D5u(n:Nat):rows (E8l 256 (Cell.i .u8 0)) n=E3 (E8l n (zeros 256)):=by
 rw [G9];unfold rows E3;rw [List.map_replicate]
def C3d(n:Nat):okD (E8l n (zeros 256)):=λb hb=>by rw [List.eq_of_mem_replicate hb];exact zeros_length
def okD.set{D:Dev}(h:okD D){i:Nat}{b:List UInt8}(hb:l_ b=256):okD (D.set i b):=λx hx=>by
 rcases List.mem_or_eq_of_mem_set hx with hx | rfl
 ·exact h x hx
 ·exact hb
def A4w{id i:Nat}{D:Dev}{b:List UInt8}(hr:rd h id=rT (E3 D))(hD:okD D)(hb:l_ b=256)(hi:i<l_ D) :
  F7 h 256 (pV id (i*256)) (.a (B4 b))=A4 (h.set id (rT (E3 (D.set i b)))):=by
 rw [C3o hr (by rw [B5,hb]) (by rw [H9 hD];omega),D79 hD hb hi]
def blk(D:Dev)(i:Int):List UInt8:=if 0<=i then D.getD i.toNat (zeros 256) else zeros 256
def J6{D:Dev}(h:okD D):(blk D i).length=256:=by
 unfold blk;split
 ·rw [E8k];rcases Nat.lt_or_ge i.toNat (l_ D) with hl | hl
  ·rw [E8h hl];exact h.at hl
  ·rw [E8P hl];exact zeros_length
 ·exact zeros_length
def B4e{D:Dev}{i:Nat}(hi:i<l_ D):blk D (i:Int)=D[i]:=by
 unfold blk;rw [C4 (by omega),E8D,E8k,E8h hi];rfl
def E0Y{D:Dev}(hi:i<0\/(l_ D:Int)<=i):blk D i=zeros 256:=by
 unfold blk;split
 ·rw [E8k,E8P (by omega)];rfl
 ·rfl
def E5V:∀ (n:Nat) (cells:List Cell),All2 okCell ((E8l n (E8l 256 (Sh.i .u8))).flatten) cells->∃ D:Dev,okD D/\cells=E3 D/\(l_ D)=n:=by
 intro n
 induction n with
 | zero =>
  intro cells h;cases cells with
  | nil=>exact ⟨[],λ_ h=>by simp at h,rfl,rfl⟩
  | cons c cs=>simp [All2] at h
 | succ n ih =>
  intro cells h;rw [E81,E9v] at h;have h1:=All2.take 256 h;have h2:=All2.drop 256 h;rw [List.take_left' E8S] at h1;rw [E9C E8S] at h2;obtain ⟨b,e1,hb⟩:=D41 h1;obtain ⟨D,hD,e2,hl⟩:=ih _ h2;refine ⟨b::D,?_,by rw [cM,<-e1,<-e2,List.take_append_drop],by rw [E8w,hl]⟩;intro x hx;rcases E8J.1 hx with rfl | hx
  ·exact hb
  ·exact hD x hx
end Go.Proofs.YtbipebfdappanaaGreat
namespace Go.Esc
def E3a(P:Program)(f:FuncId)(args:List Val)(h:A9)(h':A9):Prop :=
 ∀ (J:Ctx) (U:Mu) (w:World) (V:List Value) (u:FrameMode),Inv J U h w->All2 (RV U) args V ->
  CallsD P f V.toArray u w λe u' w'=>u'=u/\∃ V' U',e=.returned V' /\ U.le U'/\Inv J U' h' w'/\∀ id,id<(l_ h) -> U' id = U id
def E0y(P:Program)(f:FuncId)(S:Fun):Prop:=∀ args h v h2,S args h=A4 (v,h2)->nO P f/\E3a P f args h h2/\(l_ h)<=h2.length
def D8c{P:Program}{E:K7}(hE:jK P E){f:FuncId}{fn:Func}{af:AFn}(hf:P.funcs[f]?=A4 fn)(hc:C63 P fn af=A5):E0y P f (Lim af E):=by
 intro args h v h2 he;obtain ⟨n,hn⟩:=D7J he;obtain ⟨h1,h3,c,hb,hw⟩:=E4L hE hf hc hn;exact ⟨h1,fun J U w V u hi hargs=>(callsD_of_wp hf hb (hw J U w V hi hargs)).mono λe u' w' ⟨hu,V',U',he,h4,_,h5,h6⟩=>⟨hu,V',U',he,h4,h5,h6⟩,h3⟩
structure DFn where
 pre:List (List Nat × ACode)
 keep:List Nat
 tm:Nat
 fn:Nat
 caps:List Opd
 body:ACode
 res:List ARes
def C0b(G:Fun)(c:Val)(h:A9):Option (Val × A9):=match c with
 | .c (.f _ caps)=>G (C5G caps) h
 | _=>A7
def DFn.fin(f:DFn)(G:Fun)(c:Val):B6f (Val × A9):=λx e h =>
 match x with
 | .exit _=>A7
 | _=>(C0b G c h).bind λp=>qR f.res e p.2
def DFn.out(f:DFn)(k:Env->A9->Option (Val × A9)):B6f (Val × A9):=λx e h =>
 match x with
 | .normal=>k e h
 | .ret=>qR f.res e h
 | .exit _=>A7
def DFn.go (f:DFn) (E:K7) (G:Fun) (n:Nat) (l:List (List Nat × ACode)):Env->A9->Option (Val × A9) :=
 List.rec (motive:=λ_=>Env->A9->Option (Val × A9))
  (λe h=>(A32 f.fn (f.caps.map e.ev)).bind λc=>ax E n f.body (f.fin G c) ((e.put (A4 f.tm) c).keep f.keep) h)
  (λq _ ih e h=>ax E n q.2 (f.out λe h=>ih (e.keep q.1) h) e h) l
def DFn.go_nil(f:DFn)(E:K7)(G:Fun)(n:Nat)(e:Env)(h:A9):f.go E G n [] e h=(A32 f.fn (f.caps.map e.ev)).bind λc=>ax E n f.body (f.fin G c) ((e.put (A4 f.tm) c).keep f.keep) h:=rfl
def DFn.go_cons(f:DFn)(E:K7)(G:Fun)(n:Nat)(q:List Nat × ACode)(l:List (List Nat × ACode))(e:Env)(h:A9):f.go E G n (q::l) e h=ax E n q.2 (f.out λe h=>f.go E G n l (e.keep q.1) h) e h:=rfl
def DFn.run (f:DFn) (E:K7) (G:Fun) (n:Nat) (args:List Val) (h:A9):Option (Val × A9):=f.go E G n f.pre (params 0 args) h
def D3U(P:Program)(N:Nat)(f:DFn):Code->Bool
 | .region _ ops false=>(match ops.toList with
  | [o1,o2]=>cA P N ops o1 (aO f.tm (.mkf f.fn f.caps))&&decide (o2.dst=A7)&&decide (o2.guard=A7)&&(match o2.op with
   | .defer c=>(match c.callee with | .value (.tmp t)=>decide (t=f.tm)&&c.args.isEmpty | _=>A6)
   | _=>A6)
  | _=>A6)
 | _=>A6
def B4n(P:Program)(N:Nat)(f:DFn):List (List Nat × ACode)->Code->Bool
 | [],c=>(match c with | .seq d y=>D3U P N f d&&bF P N y f.body | _=>A6)
 | q::l,c=>(match c with | .seq x y=>bF P N x q.2&&B4n P N f l y | _=>A6)
def E04(P:Program)(fn:Func)(f:DFn):Bool :=
 (match fn.body with | some c => B4n P fn.ntmps f f.pre c | none => false) && dH P fn.results.toList f.res && !(fn.name == "runtime.NumGoroutine")
section
variable {P:Program}
def B97{rs:List ARes}{e:Env}{h h':A9}{v:Val}(hk:qR rs e h=A4 (v,h')):h'=h:=by
 unfold qR at hk;split at hk<;>simp at hk<;>obtain ⟨_,_,_,rfl⟩:=hk<;>rfl
def D33{E:K7}(hE:jK P E){G:Fun}{f:DFn}(hG:E0y P f.fn G){fn:Func}(hr:dH P fn.results.toList f.res=A5){L:Nat}(n:Nat){v:Val}{h':A9}:∀ (l:List (List Nat × ACode)) (c:Code) (e:Env) (h:A9),
  B4n P fn.ntmps f l c=A5->f.go E G n l e h=A4 (v,h')->L<=(l_ h) ->
  L<=l_ h'/\∀ (J:Ctx) (U:Mu) (a:Act) (w:World),J.ds=[]->SEnv U e a->Inv J U h w->fn.ntmps<=a.tmps.size->a.defers=[]->∀ R:Ending->World->Prop,
   (∀ V' U' w',U.le U'->RV U' v V'->Inv J U' h' w'->(∀ id,id<L -> U' id = U id)->R (.returned V') w')->c.wp P (bodyPostD P fn R) a w
 | [],c,e,h,hc,D7,hL=>by
  unfold B4n at hc;split at hc
  ·rename_i d y;rw [E8j] at hc;obtain ⟨hd,hy⟩:=hc;rw [DFn.go_nil] at D7;simp only [E8i] at D7;obtain ⟨cv,hcv,D7⟩:=D7;have E5t:=hcv;unfold A32 at E5t;rw [E8G] at E5t;obtain ⟨caps,E71,rfl⟩:=E5t;rw [B98] at D7;obtain ⟨x,e2,h2,hk,hL2,nJ⟩:=D56 (L:=L) hE n f.body y _ _ h (v,h') hy D7 hL;have E7o:(x=.normal\/x=.ret)/\∃ p:Val × A9,G (C5G caps) h2=A4 p/\qR f.res e2 p.2=A4 (v,h'):=by
    unfold DFn.fin at hk;cases x with
    | normal=>exact ⟨.inl rfl,by simpa only [E8i,C0b] using hk⟩
    | ret=>exact ⟨.inr rfl,by simpa only [E8i,C0b] using hk⟩
    | exit=>cases hk
   obtain ⟨hx,⟨pv,ph⟩,hG1,E4S⟩:=E7o;obtain ⟨D4t,hdc,hlen⟩:=hG _ _ _ _ hG1;have hh':=B97 E4S;dsimp only at hh';subst hh';refine ⟨E83 hL2 hlen,fun J U a w hds hs hi hN had R hR=>?_⟩;unfold D3U at hd;split at hd
   ·rename_i rid ops;split at hd
    ·rename_i o1 o2 E5A;simp only [E8j,decide_eq_true_eq] at hd;obtain ⟨⟨⟨hd1,hd2⟩,hd3⟩,hd4⟩:=hd;split at hd4
     ·rename_i cl hop;split at hd4
      ·rename_i t D2q;simp only [E8j,decide_eq_true_eq] at hd4;obtain ⟨rfl,hargs⟩:=hd4;refine wp_seq (wp_region ?_);have hsz:ops.size=2:=by rw [<-Array.length_toList,E5A];rfl
       have g0:ops[0]?=A4 o1:=by rw [<-Array.getElem?_toList,E5A];rfl
       have g1:ops[1]?=A4 o2:=by rw [<-Array.getElem?_toList,E5A];rfl
       rw [hsz];show wpOps P ops _ [0,1] a w;rw [wpOps_cons];unfold wpOp;rw [g0];have A39:o1.dst=A4 f.tm/\A2X fn.ntmps o1.dst=A5:=by
        simp only [cA,aO,E8j,decide_eq_true_eq] at hd1;exact ⟨of_decide_eq_true hd1.1.1.1,hd1.1.1.2⟩
       have htm:f.tm<fn.ntmps:=by
        have:=A39.2;rw [A39.1] at this;simpa [A2X] using this
       have C0t:aK E A6 h 0 (aO f.tm (.mkf f.fn f.caps)) e h (λv h=>A4 (v,h))=A4 (.c (.f f.fn caps),h):=by
        unfold aK aO;simp only [aop,hcv,E8z]
       refine A9i (hr:=h) (n0:=0) hE hd1 C0t hs hi (λ_ _ h=>h) trivial ?_;intro V w1 μ1 mI hv hi1 Z0;rw [wpOps_cons];unfold wpOp;rw [g1];have hv0:RC μ1 (.f f.fn caps) V:=hv;have hv2:=hv;obtain ⟨cs,rfl,hcs⟩:=hv2;obtain ⟨a1,ha1⟩:∃ a1,a1=a.put o1.dst (.func (.func f.fn) #[] cs.toArray):=⟨_,rfl⟩;have hs1:SEnv μ1 (e.put (A4 f.tm) (.c (.f f.fn caps))) a1:=by
        rw [ha1,A39.1];exact (hs.mono mI).put (λt ht=>by cases ht;omega) hv
       have A0a:a1.eval (.tmp f.tm)=.func (.func f.fn) #[] cs.toArray:=by
        have:=hs1 f.tm;rw [Env.get_put_same] at this;obtain ⟨cs',h1,h2⟩:=this;show a1.tmps.getD f.tm undef=_;rw [ha1,A39.1];show (a.put (A4 f.tm) _).tmps.getD f.tm undef=_;simp only [Act.put];rw [Array.getD_eq_getD_getElem?];simp [show f.tm<a.tmps.size by omega]
       rw [<-ha1];obtain ⟨dd,hdd⟩:∃ dd:Deferred,dd={ target:=.fn (.func f.fn) cs.toArray,args:=#[] }:=⟨_,rfl⟩;have B1z:(execOp a1.eval o2).run P w1=.ok (.defer dd) w1:=by
        have ea:cl.args = #[]:=by simpa using hargs
        rw [hdd];simp [execOp,hop,resolve,D2q,A0a,Deferred.ofValue,ea]
       have hw:Region.wanted o2 (yielded ops a1.tmps)=A5:=by simp [Region.wanted,hd3]
       simp only [hw,if_true]
       left
       unfold Oper.wp;rw [B1z,Oper.upon_defer];have C9Q:∀ b:Act,b.put o2.dst undef=b:=λb=>by rw [hd2];rfl
       rw [C9Q];have E6u:a1.defers=[]:=by rw [ha1,put_defers];exact had
       show y.wp P (bodyPostD P fn R) { a1 with defers:=dd::a1.defers } w1;rw [E6u];refine nJ { J with ds:=[dd] } μ1 { a1 with defers:=[dd] } w1 (SEnv.keep (λt=>hs1 t) f.keep) (hi1.ds [dd]) (by show fn.ntmps<=a1.tmps.size;rw [ha1,Act.size_put];exact hN) rfl _ ?_;intro U' a' w' k1 k2 k3 k4 k5 k6;have fin:Leaves P fn a'.tmps R a'.defers .returning w':=by
        rw [k6];show Leaves P fn a'.tmps R [dd] .returning w';rw [hdd];have hv3:RC U' (.f f.fn caps) (.func (.func f.fn) #[] cs.toArray):=RC.mono k1 hv0;obtain ⟨cs2,e3,E7l⟩:=hv3;have:cs2=cs:=by
         injection e3 with _ _ e4
         have:=congrArg Array.toList e4;simpa using this.symm
        subst this;refine leaves_cons (by simp) (f:=f.fn) (args:=cs2.toArray) (by
         show (callFunc f.fn (#[]++cs2.toArray)).run P w'=_;rw [Array.empty_append];exact C0c D4t _ _) ?_
        refine (hdc J U' w' cs2 .returning (k4.ds J.ds) (B8v E7l)).mono ?_;rintro en u' w2 ⟨rfl,V',μ2,rfl,m1,m2,m3⟩;show Leaves P fn a'.tmps R [] .returning w2;obtain ⟨V2,q1,q2,_⟩:=B8q (a:=a') (w:=w2) (λt=>(k3.mono m1) t) m2 hr E4S;refine ⟨V2,q1,hR V2 μ2 w2 (Mu.le_trans mI (Mu.le_trans k1 m1)) q2 m2 λid hid=>?_⟩;rw [m3 id (by omega),k2 id hid];exact Z0 id (by omega) (λj hj=>by cases hj)
       rcases hx with rfl | rfl
       ·exact fin
       ·exact fin
      ·cases hd4
     ·cases hd4
    ·cases hd
   ·cases hd
  ·cases hc
 | q::l,c,e,h,hc,D7,hL=>by
  unfold B4n at hc;split at hc
  ·rename_i x y;rw [E8j] at hc;rw [DFn.go_cons,B98] at D7;obtain ⟨x1,e1,h1,hk,hL1,nJ⟩:=D56 (L:=L) hE n q.2 x _ e h (v,h') hc.1 D7 hL;cases x1 with
   | normal =>
    obtain ⟨g1,g2⟩:=D33 hE hG hr n l y (e1.keep q.1) h1 hc.2 hk hL1;refine ⟨g1,fun J U a w hds hs hi hN had R hR=>wp_seq (nJ J U a w hs hi hN (by rw [hds];exact had) _ ?_)⟩;intro μ1 a1 w1 f1 f2 f3 f4 f5 f6;exact g2 J μ1 a1 w1 hds (f3.keep q.1) f4 f5 (by rw [f6,hds]) R λV' U' w' k2 k3 k4 k5=>hR V' U' w' (Mu.le_trans f1 k2) k3 k4 λid hid=>(k5 id hid).trans (f2 id hid)
   | ret =>
    have hk':qR f.res e1 h1=A4 (v,h'):=hk;have hh':=B97 hk';subst hh';refine ⟨hL1,fun J U a w hds hs hi hN had R hR=>wp_seq (nJ J U a w hs hi hN (by rw [hds];exact had) _ ?_)⟩;intro μ1 a1 w1 f1 f2 f3 f4 f5 f6;obtain ⟨V',k1,k2,_⟩:=B8q f3 f4 hr hk';show Leaves P fn a1.tmps _ a1.defers .returning w1;rw [f6,hds];exact ⟨V',k1,hR V' μ1 w1 f1 k2 f4 f2⟩
   | exit id=>exact (by cases hk)
  ·cases hc
def E1h{E:K7}(hE:jK P E){G:Fun}{f:DFn}(hG:E0y P f.fn G){g:FuncId}{fn:Func}(hf:P.funcs[g]?=A4 fn)(hc:E04 P fn f=A5){n:Nat}:SOk P g (f.run E G n):=by
 intro args h v h' D7;simp only [E04,E8j,E9b] at hc;obtain ⟨⟨hb,hr⟩,D4v⟩:=hc;cases A9O:fn.body with
 | none=>rw [A9O] at hb;cases hb
 | some c =>
  rw [A9O] at hb;obtain ⟨h1,h2⟩:=D33 hE hG hr (L:=l_ h) n f.pre c (params 0 args) h hb D7 (E8m _);refine ⟨⟨fn,hf,D4v,by simp [A9O]⟩,fun J U w V hi hargs=>?_,h1⟩;refine calls_of_wp_defers hf A9O (h2 { J with ds:=[] } U _ w rfl (D3G hargs _) (hi.ds []) (by simp;omega) rfl _ ?_);intro V' U' w' k1 k2 k3 k4;exact ⟨V',U',rfl,k1,k2,k3.ds J.ds,k4⟩
end
inductive PP where
 | o (x:AOper)
 | call (d:Option Nat) (g:Option (Nat × Bool)) (k:Nat) (args:List Opd)
inductive PC where
 | skip
 | ret
 | exit (id:Nat)
 | ops (l:List PP)
 | draw (n:Nat) (l r:List PP)
 | drawS (n:Nat) (l:List PP) (s:PP) (chk:List (Nat × AOp)) (r:List PP)
 | seq (keep:List Nat) (a b:PC)
 | jn (j:Nat) (keep:List Nat) (a b:PC)
 | cond (c:Opd) (a b:PC)
 | block (id:Nat) (a:PC)
 | loop (j:Nat) (keep:List Nat) (a:PC)
def erp(F:Nat->Nat):PP->AOper
 | .o x=>x
 | .call d g k args=>⟨d,.call (F k) args,g,A7⟩
def ers (F:Nat->Nat) (l:List PP):List AOper:=List.rec [] (λx _ r=>erp F x::r) l
def er (F:Nat->Nat) (p:PC):ACode :=
 PC.rec (motive:=λ_=>ACode) .skip .ret (λi=>.exit i) (λl=>.ops (ers F l)) (λn l r=>.draw n (ers F l) (ers F r)) (λn l s k r=>.drawS n (ers F l) (erp F s) k (ers F r)) (λk _ _ a b=>.seq k a b) (λ_ k _ _ a b=>.seq k a b) (λc _ _ a b=>.cond c a b) (λi _ a=>.block i a) (λ_ k _ a=>.loop k a) p
def nx:Nat->Nat->Nat × Nat
 | 0,s=>(0,s)
 | f+1,s=>bif Nat.blt (s%16) 8 then (s%16,s/16) else match nx f (s/16) with | (a,r)=>(s%16-8+8*a,r)
abbrev Dst:=(Nat × List Nat) × Nat
def rdn(s:Dst):Nat × Dst:=match nx 9 s.2 with | (a,r)=>(a,(s.1,r))
section
variable {α β γ δ ε ζ:Type}
def E4W(g:Dst -> α × Dst):Nat->Dst->List α × Dst
 | 0,s=>([],s)
 | k+1,s=>match g s with | (a,s)=>match E4W g k s with | (l,s)=>(a::l,s)
def B2w(g:Dst -> α × Dst)(s:Dst):List α × Dst:=match rdn s with | (k,s)=>E4W g k s
def qA(f:α -> β)(a:Dst -> α × Dst)(s:Dst):β × Dst:=match a s with | (x,s)=>(f x,s)
def qB(f:α -> β -> γ)(a:Dst -> α × Dst)(b:Dst -> β × Dst)(s:Dst):γ × Dst:=match a s with | (x,s)=>qA (f x) b s
def qC(f:α -> β -> γ -> δ)(a:Dst -> α × Dst)(b:Dst -> β × Dst)(c:Dst -> γ × Dst)(s:Dst):δ × Dst:=match a s with | (x,s)=>qB (f x) b c s
def qD(f:α -> β -> γ -> δ -> ε)(a:Dst -> α × Dst)(b:Dst -> β × Dst)(c:Dst -> γ × Dst)(d:Dst -> δ × Dst)(s:Dst):ε × Dst:=match a s with | (x,s)=>qC (f x) b c d s
def qE(f:α -> β -> γ -> δ -> ε -> ζ)(a:Dst -> α × Dst)(b:Dst -> β × Dst)(c:Dst -> γ × Dst)(d:Dst -> δ × Dst)(e:Dst -> ε × Dst)(s:Dst):ζ × Dst:=match a s with | (x,s)=>qD (f x) b c d e s
end
def nth{α:Type}(z:α):List α -> Nat -> α
 | [],_=>z
 | a::_,0=>a
 | _::l,i+1=>nth z l i
def del:Nat->List Nat->List Nat
 | _,[]=>[]
 | 0,_::l=>l
 | k+1,x::l=>x::del k l
def ins(x:Nat):List Nat->List Nat
 | []=>[x]
 | y::l=>bif Nat.blt x y then x::y::l else y::ins x l
def E6U:Nat->Dst->Dst
 | 0,s=>s
 | k+1,s=>match rdn s with | (i,s)=>E6U k ((s.1.1,del i s.1.2),s.2)
def E6V:Nat->Dst->Dst
 | 0,s=>s
 | k+1,s=>match rdn s with | (v,s)=>E6V k ((s.1.1,ins (match v%2 with | 0=>s.1.1-v/2 | _=>v/2) s.1.2),s.2)
def rkp(s:Dst):List Nat × Dst:=match rdn s with
 | (h,s)=>match (match h%4 with | 3=>qA (λx=>x+3) rdn s | r=>(r,s)) with
  | (r,s)=>match E6V (h/4) (E6U r s) with | s=>(s.1.2,s)
section
variable (V I:Nat->Val) (O:Nat->AOp) (Z:Nat->List Cell)
def jA(s:Dst):Opd × Dst:=match rdn s with
 | (v,s)=>(match v%2 with
  | 0=>.t (s.1.1-(match v/2 with | 0=>1 | 1=>0 | d=>d))
  | _=>match v/2%2 with
   | 0=>.v (I (v/4))
   | _=>match v/4%2 with
    | 0=>.v (V (v/8))
    | _=>.t (v/8),s)
def E4X(s:Dst):(Nat × Nat × Opd) × Dst:=qC (λa b x=>(a,b,x)) rdn rdn (jA V I) s
def E6T:Nat->Dst->AOp × Dst
 | 0=>qA .mv (jA V I)
 | 1=>qA .load1 (jA V I)
 | 2=>qB .loadN rdn (jA V I)
 | 3=>qB .fAddr (jA V I) rdn
 | 4=>qB .ext (jA V I) rdn
 | 5=>qC (λn=>.bin (nth .andNot [.add,.lss,.eql,.neq,.geq,.gtr,.mul,.sub,.rem,.leq,.quo,.shl,.shr,.or,.and,.xor] n)) rdn (jA V I) (jA V I)
 | 6=>qC .iAddrL rdn (jA V I) (jA V I)
 | 8=>qA .len (jA V I)
 | 9=>qC .storeN rdn (jA V I) (jA V I)
 | 10=>qB .store1 (jA V I) (jA V I)
 | 11=>qD .iAddrA rdn rdn (jA V I) (jA V I)
 | 12=>qC .pick (jA V I) (jA V I) (jA V I)
 | 13=>qA (.un .not) (jA V I)
 | 14=>qA (λz=>.alloc (Z z)) rdn
 | 15=>qA .box (jA V I)
 | 16=>qA .lenS (jA V I)
 | 17=>qA .nilc (jA V I)
 | 18=>qA .nilrow rdn
 | 19=>qC .app rdn (jA V I) (jA V I)
 | 20=>qB (λz=>.build (Z z)) rdn (B2w (E4X V I))
 | 21=>qD (λa b z=>.buildSl a b (Z z)) rdn rdn rdn (B2w (E4X V I))
 | 22=>qC .idxA1 rdn (jA V I) (jA V I)
 | 23=>qA .mark (jA V I)
 | 24=>qA (.conv .u64) (jA V I)
 | 25=>qA (.conv .i64) (jA V I)
 | 26=>qA (.conv .u8) (jA V I)
 | 27=>qB .fld1 (jA V I) rdn
 | 28=>qC .fldN (jA V I) rdn rdn
 | 29=>qD (λz n=>.mkSl n (Z z)) rdn rdn (jA V I) (jA V I)
 | 30=>qB .mkf rdn (B2w (jA V I))
 | 31=>qB .callV (jA V I) (B2w (jA V I))
 | _=>qA O rdn
def rpp(s:Dst):PP × Dst:=match qA (nth 0 [1,0,60,84,12,36,110,3,24,144,63,169,25,72,15,39,48,96,122,37,49,132,181,87,384,228,180,240,27,204,252,156,217,61,216,99,168,159,387,75,288,13,175,192,85,253,360,372,300,312,135,348,207,243,375,386,276,324,264,147,354,385,349,258,327,361,195,174,133,259,241,355,390,255]) rdn s with
 | (h,s)=>match (match h%3 with | 0=>(A4 (s.1.1+1),((s.1.1+1,s.1.2),s.2)) | 1=>(match rdn s with | (d,s)=>(A4 d,((d,s.1.2),s.2))) | _=>((A7:Option Nat),s)) with
  | (d,s)=>match (match h/3%2 with | 0=>((A7:Option (Nat × Bool)),s) | _=>qA (λg=>A4 (g/2,Nat.beq (g%2) 1)) rdn s) with
   | (g,s)=>match (match h/6%2 with | 0=>((A7:Option Nat),s) | _=>qA A4 rdn s) with
    | (l,s)=>match h/12 with
     | 7=>qB (.call d g) rdn (B2w (jA V I)) s
     | t=>qA (λo=>.o ⟨d,o,g,l⟩) (E6T V I O Z t) s
def E7T(s:Dst):(Nat × AOp) × Dst:=match rdn s with | (d,s)=>match rdn s with | (t,s)=>qA (λo=>(d,o)) (E6T V I O Z t) s
def B7E:Nat->Dst->PC × Dst
 | 0,s=>(.skip,s)
 | f+1,s=>match rdn s with
  | (0,s)=>(.skip,s)
  | (1,s)=>(.ret,s)
  | (2,s)=>qC (λk l b=>.seq k (.ops l) b) rkp (B2w (rpp V I O Z)) (B7E f) s
  | (3,s)=>qC .seq rkp (B7E f) (B7E f) s
  | (4,s)=>qC .cond (jA V I) (B7E f) (B7E f) s
  | (5,s)=>qB .block rdn (B7E f) s
  | (6,s)=>qC .loop rdn rkp (B7E f) s
  | (7,s)=>qA .exit rdn s
  | (8,s)=>qA .ops (B2w (rpp V I O Z)) s
  | (9,s)=>qC .draw rdn (B2w (rpp V I O Z)) (B2w (rpp V I O Z)) s
  | (10,s)=>qD .jn rdn rkp (B7E f) (B7E f) s
  | (_,s)=>qE .drawS rdn (B2w (rpp V I O Z)) (rpp V I O Z) (B2w (E7T V I O Z)) (B2w (rpp V I O Z)) s
end
abbrev PT:=(Nat->Val)->(Nat->Val)->(Nat->AOp)->(Nat->List Cell)->PC
def dcp(x:Nat):PT:=λV I O Z=>(B7E V I O Z 99 ((0,[]),x)).1
def px(x:Nat){p:PT}(hp:p=dcp x:=by conv=>{ rhs;reduce }):PT:=p
def D76(n:Nat):Val:=iV n
def E4J:List (List Cell):=[[],[o0],[.ns],[.s []],[.b A6],[.nm],[.nf],[.i .u8 0],[.i .u8 0,.i .u8 0],[.i .u8 0,.i .u8 0,.i .u8 0,.i .u8 0],[.i .u8 0,.i .u8 0,.i .u8 0,.i .u8 0,.i .u8 0],[.i .u8 0,.i .u8 0,.i .u8 0,.i .u8 0,.i .u8 0,.i .u8 0,.i .u8 0,.i .u8 0],E8l 256 (.i .u8 0),E8l 32 (.i .u8 0),E8l 25 (.i .u8 0),[o0]++E8l 32 o0,[o0]++E8l 256 (.i .u8 0),[.s [],o0],[o0,o0,.i .u64 0],[o0,o0,o0],[o0,.s [],o0],[o0,.ns],[o0,o0,.i .u64 0,.nf],[o0,o0,.s [],o0],[o0,o0,o0,o0,o0,o0],[o0,o0,o0,o0,o0,o0,o0],[o0,o0,o0,o0,o0,o0,o0,o0],[o0,o0,o0,o0,o0,o0,o0,o0,o0,o0,o0],[o0,o0,o0,o0,o0,.ns,.ns],[.ns,.ns,.ns,.ns,.ns,o0,.ns,.ns],[.ns,.ns,.ns,.ns,.ns,o0]]
structure Cal(P:Program) where
 f:FuncId
 S:Fun
 ok:SOk P f S
def cal{P:Program}{f:FuncId}{S:Fun}(ok:SOk P f S):Cal P:=⟨f,S,ok⟩
def D8{P:Program}{f:FuncId}{A:AFn}{E:K7}{R:Nat->Fun}(S:Fun)(K:FnK P f A E R)(e:S=tl A E:=by exact rfl):Cal P:=⟨f,S,by rw [e];exact K.sok⟩
def gG{P:Program}{f:FuncId}{A:AFn}{E:K7}{R:Nat->Fun}(S:Fun)(K:FnK P f A E R)(e:S=Lim A E:=by exact rfl):Cal P:=⟨f,S,by rw [e];exact K.ok⟩
def el{P:Program}:List (Cal P)->K7
 | []=>D4b
 | c::l=>E1s c.f c.S (el l)
def D7W{P:Program}:∀ l:List (Cal P),jK P (el l)
 | []=>D7r
 | c::l=>D7s c.ok (D7W l)
def E5U{P:Program}:List (Cal P)->Nat->Nat
 | [],_=>0
 | c::_,0=>c.f
 | _::l,k+1=>E5U l k
def C2X{P:Program}:List (Cal P)->Nat->Fun
 | [],_=>λ_ _=>A7
 | c::_,0=>c.S
 | _::l,k+1=>C2X l k
structure FD(P:Program) where
 p:PT
 V:List Val
 O:List AOp
 res:List ARes
 L:List (Cal P)
inductive Fr where
 | seq (keep:List Nat) (b:PC)
 | jn (j:Nat) (keep:List Nat) (b:PC)
 | blk (id:Nat)
 | lp (j:Nat) (keep:List Nat) (a:PC) (m:Nat)
section
variable {P:Program} (d:FD P)
def FD.code:PC:=d.p (nth .no (bV A6::bV A5::d.V)) D76 (nth (.nilrow 0) d.O) (nth [] E4J)
def FD.A:AFn:=⟨er (E5U d.L) d.code,d.res⟩
def FD.E:K7:=el d.L
def FD.R (n:Nat):Fun:=rx d.E d.A n
def FD.S:Fun:=tl d.A d.E
def FD.Q:Fun:=Lim d.A d.E
def FD.K{f:FuncId}{fn:Func}(hf:P.funcs[f]?=A4 fn)(hc:C63 P fn d.A=A5:=by kernel_rfl):FnK P f d.A d.E d.R:=.mk2 (D7W _) hf hc
end
def fd:PC->Nat->List Nat->List Fr->Option (Bool × List Nat × PC × List Fr × Nat)
 | .seq k a b,j,ns,s=>(fd a j ns (.seq k b::s)).or (fd b j ns s)
 | .jn i k a b,j,ns,s=>bif Nat.beq i j then A4 (A6,k,b,s,0) else (fd a j ns (.jn i k b::s)).or (fd b j ns s)
 | .cond _ a b,j,ns,s=>(fd a j ns s).or (fd b j ns s)
 | .block i a,j,ns,s=>fd a j ns (.blk i::s)
 | .loop i k a,j,m::ns,s=>bif Nat.beq i j then A4 (A5,k,a,s,m) else fd a j ns (.lp i k a m::s)
 | _,_,_,_=>A7
def kof (E:K7) (n:Nat) (F:Nat->Nat) (fin:KV):List Fr->KV
 | []=>fin
 | .seq k b::s=>E10 k (ax E n (er F b)) (kof E n F fin s)
 | .jn _ k b::s=>E10 k (ax E n (er F b)) (kof E n F fin s)
 | .blk i::s=>D6Q i (kof E n F fin s)
 | .lp _ k a m::s=>E1Z k (A8i (ax E n (er F a)) k (kof E n F fin s) m) (kof E n F fin s)
def lj' (E:K7) (n:Nat) (F:Nat->Nat) (fin:KV) (xs:List Val) (h:A9):Option (Bool × List Nat × PC × List Fr × Nat)->zW
 | some (A5,k,a,s,m)=>A8i (ax E n (er F a)) k (kof E n F fin s) m (zE k xs) h
 | some (A6,k,b,s,_)=>hold (ax E n (er F b) (kof E n F fin s) (zE k xs) h)
 | none=>A7
def FD.lj {P:Program} (d:FD P) (j n:Nat) (ns:List Nat) (xs:List Val):AtH:=λh=>lj' d.E n (E5U d.L) d.A.fin xs h (fd d.code j ns [])
def AN(X:Type):Nat->Type
 | 0=>X
 | a+1=>Nat->AN X a
def AV:Nat->Type
 | 0=>AtH
 | b+1=>Val->AV b
def C3T{X:Type}:(a:Nat)->AN X a->List Nat->X
 | 0,f,_=>f
 | a+1,f,[]=>C3T a (f 0) []
 | a+1,f,n::l=>C3T a (f n) l
def C3U:(b:Nat)->AV b->List Val->AtH
 | 0,f,_=>f
 | b+1,f,[]=>C3U b (f .no) []
 | b+1,f,x::l=>C3U b (f x) l
structure TE where
 a:Nat
 b:Nat
 f:AN (AV b) a
structure TT where
 E:K7
 l:List TE
def tT(l:List TE):TT:=⟨D4b,l⟩
def C8U:List TE->Nat->List Nat->List Val->AtH
 | [],_,_,_=>λ_=>A7
 | t::_,0,ns,xs=>C3U t.b (C3T t.a t.f ns) xs
 | _::l,j+1,ns,xs=>C8U l j ns xs
inductive Rs:Type 1 where
 | v (x:Val)
 | n (x:Val) (h:A9)
 | b (x:Option Val)
 | g (x:Option A9)
 | p (x:Option (Val × A9))
 | l {α:Type} (x:Option α) (v:α -> Val) (h:α -> A9)
inductive Ct:Type 1 where
 | code (p:PC)
 | ops (l:List PP)
 | dr (l:List PP) (hr:A9) (c:Ct)
 | ds (x:PP) (chk:List (Nat × AOp)) (r:List PP)
 | ag (chk:List (Nat × AOp)) (e0:Env) (c:Ct)
 | rs (r:Rs) (d:Option Nat) (c:Ct)
 | nrm
 | ex (id:Nat)
def B8N:Env->Nat->Val
 | [],_=>.un
 | (d,v)::r,t=>bif d==t then v else B8N r t
def Q6(e:Env):Opd->Val
 | .t n=>B8N e n
 | .v x=>x
def E2t(e:Env):List Nat->Env
 | []=>[]
 | t::r=>(t,B8N e t)::E2t e r
def D7d(e:Env):List Nat->List Val
 | []=>[]
 | t::r=>B8N e t::D7d e r
def C8E(e:Env):List Opd->List Val
 | []=>[]
 | x::l=>Q6 e x::C8E e l
def C1e(e:Env):Option Opd->Option Val
 | none=>A7
 | some x=>A4 (Q6 e x)
def D1n(e:Env):List (Nat × Nat × Opd)->List (Nat × Nat × Val)
 | []=>[]
 | (a,b,x)::l=>(a,b,Q6 e x)::D1n e l
def D24(e:Env):Option Nat->Val->Env
 | none,_=>e
 | some d,v=>(d,v)::e
def E2w:Nat->List Val->Env
 | _,[]=>[]
 | i,v::l=>(i,v)::E2w (i+1) l
def B54:Nat->A9
 | 0=>[]
 | n+1=>A7::B54 n
def D9N(hr h:A9)(r:Row)(v:Nat->Val):Option Nat->Rs
 | none=>.n (v (l_ h)) (h++[A4 r])
 | some j=>.n (v (hr.length+j)) (h.set (hr.length+j) (A4 r))
def D60{α:Type}(hr h:A9)(x:Option α)(r:α -> Row)(v:Nat -> α -> Val):Option Nat->Rs
 | none=>.l x (λa=>v (l_ h) a) (λa=>h++[A4 (r a)])
 | some j=>.l x (λa=>v (hr.length+j) a) (λa=>h.set (hr.length+j) (A4 (r a)))
def E2x (q:Bool) (h:A9) (x:zW):zW:=match q with
 | true=>quiet h x
 | false=>x
def E4a (E:K7) (q:Bool) (hr:A9) (sl:Option Nat) (e:Env) (h:A9):AOp->Rs
 | .mv x=>.v (Q6 e x)
 | .nilrow n=>D9N hr h (Row.mk [] A5) (λi=>.c (.sl i 0 0 n)) sl
 | .pick c a b=>.b (D0A (Q6 e c) (Q6 e a) (Q6 e b))
 | .alloc z=>D9N hr h (Row.mk z A5) (λi=>.c (.p i 0)) sl
 | .box x=>D60 hr h (cells? (Q6 e x)) (λc=>Row.mk c A5) (λi _=>.c (.p i 0)) sl
 | .build z l=>.l (F6 z (D1n e l)) (λc=>.a c) (λ_=>h)
 | .buildSl n k z l=>D60 hr h (F6 z (D1n e l)) (λc=>Row.mk c A5) (λi _=>.c (.sl i 0 k n)) sl
 | .load1 x=>.b (B9 hr (Q6 e x))
 | .loadN n x=>.b (C9 hr n (Q6 e x))
 | .store1 a x=>.g (I8 h (Q6 e a) (Q6 e x))
 | .storeN n a x=>.g (F7 h n (Q6 e a) (Q6 e x))
 | .bin o x y=>.b (N4 o (Q6 e x) (Q6 e y))
 | .eqA n s x y=>.b (aeq n s (Q6 e x) (Q6 e y))
 | .eqB n x y=>.b (D54 n (Q6 e x) (Q6 e y))
 | .eqN f n x=>.b (D16 f n (Q6 e x))
 | .nilc x=>.b (A6V (Q6 e x))
 | .un o x=>.b (aun o (Q6 e x))
 | .conv k x=>.b (D3w k (Q6 e x))
 | .convS x=>.b (D15 (Q6 e x))
 | .s2b x=>D60 hr h (E5e (Q6 e x)) (λs=>Row.mk (B4 s) A5) (λi s=>.c (.sl i 0 (l_ s) 1)) sl
 | .b2s x=>.b (B8l hr (Q6 e x))
 | .b2sN A7 x=>.b (B8l h (Q6 e x))
 | .b2sN (A4 o) x=>.b (C3Q h hr.length (A4 o) (Q6 e x))
 | .mark x=>.b (B2a h (Q6 e x))
 | .mkf f l=>.b (A32 f (C8E e l))
 | .mkb f x=>.b (E3l f (Q6 e x))
 | .mkSl n z x y=>D60 hr h (C5h (Q6 e x) (Q6 e y)) (λk=>Row.mk (rows z k) A5) (λi k=>.c (.sl i 0 k n)) sl
 | .slS x a b=>.b (E3r (Q6 e x) (C1e e a) (C1e e b))
 | .slL n x a b=>.b (D8M n (Q6 e x) (C1e e a) (C1e e b))
 | .slA n k x a b=>.b (D2a hr n k (Q6 e x) (C1e e a) (C1e e b))
 | .fAddr x n=>.b (U2 (Q6 e x) n)
 | .iAddrA n k x y=>.b (K2 n k (Q6 e x) (Q6 e y))
 | .iAddrL n x y=>.b (F0 n (Q6 e x) (Q6 e y))
 | .fld1 x n=>.b (B7b (Q6 e x) n)
 | .fldN x n k=>.b (D7K (Q6 e x) n k)
 | .idxA1 n x y=>.b (A5j n (Q6 e x) (Q6 e y))
 | .idxAN n k x y=>.b (D17 n k (Q6 e x) (Q6 e y))
 | .idxS x y=>.b (C6P (Q6 e x) (Q6 e y))
 | .ext x n=>.b (E0H (Q6 e x) n)
 | .call _ _=>.b A7
 | .callV f l=>.p (E2x q h (aQ E (Q6 e f) (C8E e l) h))
 | .len x=>.b (B6y (Q6 e x))
 | .lenS x=>.b (D3z (Q6 e x))
 | .app n x y=>.p (uR h n (Q6 e x) (Q6 e y))
 | .appZ n z x y=>.p (C6F h n z (Q6 e x) (Q6 e y))
 | .max x y=>.b (C5g (Q6 e x) (Q6 e y))
 | .min x y=>.b (B6z (Q6 e x) (Q6 e y))
 | .copy n x y=>.p (C6J h n (Q6 e x) (Q6 e y))
 | .mkMap=>D9N hr h (Q1 []) (λi=>.c (.m i)) sl
 | .look k z o m x=>.b (yS hr k z o (Q6 e m) (Q6 e x))
 | .mput k m x y=>.g (A3k h k (Q6 e m) (Q6 e x) (Q6 e y))
 | .ment k z m x=>.p (D3B h k z (Q6 e m) (Q6 e x))
 | .mset m x y=>.g (D3C h (Q6 e m) (Q6 e x) (Q6 e y))
def E4d(h:A9):Rs->zW
 | .v x=>A4 (x,h)
 | .n x g=>A4 (x,g)
 | .b x=>bnd x λv=>A4 (v,h)
 | .g x=>bnd x λh=>A4 (.un,h)
 | .p x=>bnd x λp=>A4 (p.1,p.2)
 | .l x v g=>bnd x λa=>A4 (v a,g a)
def D5b(e:Env)(h:A9)(r:Rs):Option (Nat × Bool)->Rs
 | none=>r
 | some (g,w)=>.p (gd (B8N e g) w (E4d h r) (A4 (.no,h)))
def D92 (E:K7) (L:Nat->Fun) (q:Bool) (hr:A9) (e:Env) (h:A9):PP->Rs
 | .o ⟨_,o,g,s⟩=>D5b e h (E4a E q hr s e h o) g
 | .call _ g k l=>D5b e h (.p (E2x q h (L k (C8E e l) h))) g
def D9X:PP->Option Nat
 | .o x=>x.dst
 | .call d _ _ _=>d
def C8z(e:Env)(h:A9):List ARes->List (Option Val)
 | []=>[]
 | .tmp t::l=>A4 (B8N e t)::C8z e h l
 | .cell1 t::l=>B9 h (B8N e t)::C8z e h l
 | .cellN t n::l=>C9 h n (B8N e t)::C8z e h l
def E2s(e:Env)(h:A9):List ARes->zW
 | []=>C3t [] h
 | [.tmp t]=>A4 (B8N e t,h)
 | [.cell1 t]=>mp (B9 h (B8N e t)) λv=>(v,h)
 | [.cellN t n]=>mp (C9 h n (B8N e t)) λv=>(v,h)
 | a::b::l=>C3t (C8z e h (a::b::l)) h
def B7y(n:Nat):List Fr->List Nat->List Nat
 | [],l=>n::l
 | .lp _ _ _ m::s,l=>B7y n s (m::l)
 | .seq _ _::s,l=>B7y n s l
 | .jn _ _ _::s,l=>B7y n s l
 | .blk _::s,l=>B7y n s l
def E4e(h:A9)(e:Env):AOp->Option Val
 | .load1 x=>B9 h (Q6 e x)
 | .loadN n x=>C9 h n (Q6 e x)
 | _=>A7
section
variable (n:Nat) (E:K7) (L:Nat->Fun) (T:List TE) (res:List ARes)
def nM:Nat->Ct->List Fr->Env->A9->zW
 | 0,_,_,_,_=>A7
 | f+1,.code .skip,s,e,h=>nM f .nrm s e h
 | _+1,.code .ret,_,e,h=>E2s e h res
 | f+1,.code (.exit i),s,e,h=>nM f (.ex i) s e h
 | f+1,.code (.ops l),s,e,h=>nM f (.ops l) s e h
 | f+1,.code (.draw k l r),s,e,h=>nM f (.dr l h (.ops r)) s e (h++B54 k)
 | f+1,.code (.drawS k l x c r),s,e,h=>nM f (.dr l h (.ds x c r)) s e (h++B54 k)
 | f+1,.code (.seq k a b),s,e,h=>nM f (.code a) (.seq k b::s) e h
 | f+1,.code (.jn j k a b),s,e,h=>nM f (.code a) (.jn j k b::s) e h
 | f+1,.code (.cond c a b),s,e,h=>cnd (Q6 e c) (nM f (.code a) s e h) (nM f (.code b) s e h)
 | f+1,.code (.block i a),s,e,h=>nM f (.code a) (.blk i::s) e h
 | _+1,.code (.loop j k _),s,e,h=>C8U T j (B7y n s [n]) (D7d e k) h
 | _+1,.nrm,[],e,h=>E2s e h res
 | f+1,.nrm,.seq k b::s,e,h=>nM f (.code b) s (E2t e k) h
 | _+1,.nrm,.jn j k _::s,e,h=>C8U T j (B7y n s []) (D7d e k) h
 | f+1,.nrm,.blk _::s,e,h=>nM f .nrm s e h
 | _+1,.nrm,.lp j k _ m::s,e,h=>C8U T j (B7y n s [m]) (D7d e k) h
 | f+1,.ex i,.blk j::s,e,h=>bif j==i then nM f .nrm s e h else nM f (.ex i) s e h
 | f+1,.ex i,.seq _ _::s,e,h=>nM f (.ex i) s e h
 | f+1,.ex i,.jn _ _ _::s,e,h=>nM f (.ex i) s e h
 | f+1,.ex i,.lp _ _ _ _::s,e,h=>nM f (.ex i) s e h
 | _+1,.ex _,[],_,_=>A7
 | f+1,.ops [],s,e,h=>nM f .nrm s e h
 | f+1,.ops (x::l),s,e,h=>nM f (.rs (D92 E L A6 h e h x) (D9X x) (.ops l)) s e h
 | f+1,.dr [] _ c,s,e,h=>nM f c s e h
 | f+1,.dr (x::l) hr c,s,e,h=>nM f (.rs (D92 E L A5 hr e h x) (D9X x) (.dr l hr c)) s e h
 | f+1,.ds x c r,s,e,h=>nM f (.rs (D92 E L A6 h e h x) (D9X x) (.ag c e (.ops r))) s e h
 | f+1,.ag [] _ c,s,e,h=>nM f c s e h
 | f+1,.ag ((d,o)::k) e0 c,s,e,h=>agn (E4e h e0 o) (B8N e0 d) (nM f (.ag k e0 c) s e h)
 | f+1,.rs (.v x) d c,s,e,h=>nM f c s (D24 e d x) h
 | f+1,.rs (.n x g) d c,s,e,_=>nM f c s (D24 e d x) g
 | f+1,.rs (.b x) d c,s,e,h=>bnd x λv=>nM f c s (D24 e d v) h
 | f+1,.rs (.g x) d c,s,e,_=>bnd x λh=>nM f c s (D24 e d .un) h
 | f+1,.rs (.p x) d c,s,e,_=>bnd x λp=>nM f c s (D24 e d p.1) p.2
 | f+1,.rs (.l x v g) d c,s,e,_=>bnd x λa=>nM f c s (D24 e d (v a)) (g a)
end
def E6R {P:Program} (d:FD P) (T:TT) (n:Nat) (args:List Val) (h:A9):zW :=
 nM n T.E (C2X d.L) T.l d.res 9999 (.code d.code) [] (E2w 0 args) h
def D8n (j n:Nat) (E:K7) (L:Nat->Fun) (T:List TE) (res:List ARes) (xs:List Val) (h:A9):Option (Bool × List Nat × PC × List Fr × Nat)->zW
 | some (A5,k,a,s,m)=>nM n E L T res 9999 (.code a) (.lp j k a m::s) (zE k xs) h
 | some (A6,k,b,s,_)=>nM n E L T res 9999 (.code b) s (zE k xs) h
 | none=>A7
def E39 {P:Program} (d:FD P) (T:TT) (j n:Nat) (ns:List Nat) (xs:List Val) (h:A9):zW :=
 D8n j n T.E (C2X d.L) T.l d.res xs h (fd d.code j ns [])
def Nrm(a b:zW):Prop:=a=b
def D4U(a:zW):Nrm a a:=rfl
def D6m:List Nat->List Nat
 | []=>[]
 | [m]=>[m+1]
 | m::k::l=>m::D6m (k::l)
section
variable {P:Program}
def mR(R:Nat->Fun)(d:FD P)(T:TT)(n:Nat)(args:List Val)(h:A9){c:zW}(hc:Nrm (E6R d T n args h) c:=by (conv=>{ arg 1;arg 1;whnf });(conv=>{ arg 1;arg 2;whnf });dsimp only [E6R,FD.code];(conv=>{ arg 1;arg 7;arg 1;whnf });dsimp only [nM,D92,D9X,E4a,D5b,E4d,D9N,D60,E2x,B8N,Q6,E2t,D7d,C8E,C1e,D1n,D24,E2w,B54,B7y,C8U,C3T,C3U,E2s,C8z,E4e,D76,nth,E4J,C2X,cal,D8,gG,D8n,zE,Nat.reduceBEq,Nat.reduceAdd,cond_true,cond_false,Int.cast_ofNat_Int];exact D4U _)(e:R n args h=c:=by kernel_rfl):R n args h=c:=e
def mJ(d:FD P)(T:TT)(j n:Nat)(ns:List Nat)(xs:List Val)(h:A9){a c:zW}(ha:Nrm (C8U T.l j (n::ns) xs h) a:=by (conv=>{ arg 1;arg 1;arg 1;whnf });dsimp only [C8U,C3T,C3U];exact D4U _)(hc:Nrm (E39 d T j n ns xs h) c:=by (conv=>{ arg 1;arg 1;whnf });(conv=>{ arg 1;arg 2;whnf });dsimp only [E39];(conv=>{ arg 1;arg 9;whnf });dsimp only [nM,D92,D9X,E4a,D5b,E4d,D9N,D60,E2x,B8N,Q6,E2t,D7d,C8E,C1e,D1n,D24,E2w,B54,B7y,C8U,C3T,C3U,E2s,C8z,E4e,D76,nth,E4J,C2X,cal,D8,gG,D8n,zE,Nat.reduceBEq,Nat.reduceAdd,cond_true,cond_false,Int.cast_ofNat_Int];exact D4U _)(e:a=c:=by kernel_rfl):a=c:=e
def mL(d:FD P)(T:TT)(j n:Nat)(ns:List Nat)(xs:List Val)(h:A9){a c:zW}(ha:Nrm (C8U T.l j (n::D6m ns) xs h) a:=by (conv=>{ arg 1;arg 1;arg 1;whnf });dsimp only [C8U,C3T,C3U,D6m];exact D4U _)(hc:Nrm (E39 d T j n ns xs h) c:=by (conv=>{ arg 1;arg 1;whnf });(conv=>{ arg 1;arg 2;whnf });dsimp only [E39];(conv=>{ arg 1;arg 9;whnf });dsimp only [nM,D92,D9X,E4a,D5b,E4d,D9N,D60,E2x,B8N,Q6,E2t,D7d,C8E,C1e,D1n,D24,E2w,B54,B7y,C8U,C3T,C3U,E2s,C8z,E4e,D76,nth,E4J,C2X,cal,D8,gG,D8n,zE,Nat.reduceBEq,Nat.reduceAdd,cond_true,cond_false,Int.cast_ofNat_Int];exact D4U _)(e:a=c:=by kernel_rfl):a=c:=e
end
end Go.Esc
namespace Go.Proofs.YtbipebfdappanaaGreat
variable {h g:A9}{n b a m w i v:Int}{l data s:List UInt8}{k nv:Nat}
section
variable (n m m2:Nat) (a0 a1 a2 a3 x0 x1 x3 x4 x6 x7 x8 x10 x16 x17 x18 x19 x20 x21 x25 x26:Val) (h:A9)
def vG:FD A8:=⟨px 0X126e48867c488491c21111110053248f2a053c02218022a47814882d5c104025a16c161800724064202889725e1482f046d42032ef12cf700461a11d4152e38182150307024613401214f4200605110293c134d4b4932827411a0122a48863848818210001322401b6192889042e1a2e2e70110122819063d42031c61b632e21d753282,[],[],[.cellN 6 256],[]⟩
def C1Y:=vG.R
def C8r:AtH:=vG.lj 0 n [m] [x1,x3,x6,x16,x17,x18]
def C8q:AtH:=vG.lj 1 n [] [x3,x6]
def C2z:=tT [⟨2,6,C8r⟩,⟨1,2,C8q⟩]
def D1Y:=mR C1Y vG C2z n [a0,a1,a2] h
def C92:=mL vG C2z 0 n [m] [x1,x3,x6,x16,x17,x18] h
def C91:=mJ vG C2z 1 n [] [x3,x6] h
def A8H:=vG.K Tryz.func118
def A4p:=vG.S
def D12:SOk A8 118 A4p:=A8H.sok
def C6z:G0 C1Y A4p:=A8H.flat
def B84:FD A8:=⟨px 0X12648860143037101c3b40121c21b150182,[],[],[.cellN 2 256],[D8 A4p A8H]⟩
def C6e:=B84.R
def D3p:=mR C6e B84 (tT []) n [a0] h
def B27:=B84.K Tryz.func115
def A85:=B84.S
def D3s:SOk A8 115 A85:=B27.sok
def C9v:G0 C6e A85:=B27.flat
def A6f:FD A8:=⟨px 0X138f60301c19018194d1a0474d1a584d74c4d774d70130181904193b1a3a3b73a3b701306195042b1a2a2b7011042712b000007236015301c2,[],[],[.tmp 6],[]⟩
def C3I:=A6f.R
def C6f:=mR C3I A6f (tT []) n [a0,a1,a2] h
def A1Z:=A6f.K Tryz.func114
def vM:=A6f.S
def C2p:G0 C3I vM:=A1Z.flat
def A0L:FD A8:=⟨px 0X126c48867c4884a1c211100033249f2c053a02218022a1e7814882d0690181c2058049624c15e104023e15c2f01b182ef1904123842150307024613401215b4200605114a12594f732823c430122c48863c488182100002322401b1a190384d28890430382f38387383870129052281a0184b42031c181b742e229197532c2,[],[],[.cellN 8 256],[D8 vM A1Z]⟩
def B7T:=A0L.R
def C4p:AtH:=A0L.lj 0 n [m] [x1,x3,x4,x8,x19,x20]
def C6E:=tT [⟨2,6,C4p⟩]
def C9p:=mR B7T A0L C6E n [a0,a1,a2,a3] h
def B5f:=mL A0L C6E 0 n [m] [x1,x3,x4,x8,x19,x20] h
def A4B:=A0L.K Tryz.func116
def uJ:=A0L.S
def C9w:SOk A8 116 uJ:=A4B.sok
def C5d:G0 B7T uJ:=A4B.flat
def A4o:FD A8:=⟨px 0X11b159f1807e59034a4c00000031b258f3a053c02218022a1e2c11d0690181c2058049625e17c104025817a14e3d01c183cf1b04124842150307024513401216f4200605115e39026d6b7328200003338f1a0041397100012e5d42d753002a20131118482383a0000021b22401b1e1903c4d0618303c2f03c4b73c73c3c73c3c701490522c1c01a5b4203311184827530282,[],[],[.tmp 8,.tmp 9],[D8 vM A1Z]⟩
def C1Z:=A4o.R
def C8s:AtH:=A4o.lj 0 n [m] [x1,x3,x10,x25,x26]
def D0p:=tT [⟨2,5,C8s⟩]
def D1Z:=mR C1Z A4o D0p n [a0,a1,a2,a3] h
def B7B:=mL A4o D0p 0 n [m] [x1,x3,x10,x25,x26] h
def D0i:=A4o.K Tryz.func117
def C2o:=A4o.S
def D13:SOk A8 117 C2o:=D0i.sok
def C6A:D0q C1Z C2o:=D0i.tidy
def A4m:FD A8:=⟨px 0X14ef607e4e02580000003724df3a052e02218022a1c1e11d0407e14882d04026817c15c15c3d019183cf1804124e42150307024513401216f4200605115e39026d6b7328200003338f7000176b5a2f031f422ef2003802889724e14a2b0565301d201164813800001722401b6195013e1a3c3e70101b6192889042e1a2e2e7011012281901a4d42031648632e27531c2,[],[.min (.t 19) (.t 21)],[.tmp 6],[]⟩
def C1X:=A4m.R
def C8o:AtH:=A4m.lj 0 n [m] [x1,x3,x7,x25,x26]
def D0n:=tT [⟨2,5,C8o⟩]
def D1W:=mR C1X A4m D0n n [a0,a1,a2] h
def B7z:=mL A4m D0n 0 n [m] [x1,x3,x7,x25,x26] h
def B5I:=A4m.K Tryz.func63
def A84:=A4m.S
def B9U:SOk A8 63 A84:=B5I.sok
def C9u:A3Q C1X A84:=B5I.out
def A4n:FD A8:=⟨px 0X11b14ef607c4e033c3e00000031b24df2d054804d492184cf1800381d20181b2058049625e10580401811d04024c16a171483801e182ff1904123a42150307024513401215d4200605114c2c025b59312820000332b1129531002a201312b602383a000011b22401b1e190384d061830382f0384b738738387383870149052281a01a4f4203312b6025301c2,[.c (.i .u64 0)],[],[.tmp 6,.tmp 7],[D8 vM A1Z]⟩
def D0j:=A4n.R
def C8p:AtH:=A4n.lj 0 n [m] [x0,x1,x8,x20,x21]
def D0o:=tT [⟨2,5,C8p⟩]
def D1X:=mR D0j A4n D0o n [a0,a1,a2] h
def B7A:=mL A4n D0o 0 n [m] [x0,x1,x8,x20,x21] h
def D0h:=A4n.K Tryz.func62
def C2n:=A4n.S
def D11:SOk A8 62 C2n:=D0h.sok
def C6y:G0 D0j C2n:=D0h.flat
def A8C:FD A8:=⟨px 0X14af606e4a023800000037249f2a053e0494921848f7002e1d20181b2058049625810680405c14882d04023e15a13c2d01d182cf1804122e42150307024513401214f4200605113e29024d4b732820000331111f65302920116012c00001722401b1a1902e4d288904302e2f2e2e72e2e701290521e19018494203160632e27531c2,[],[],[.tmp 6],[D8 vM A1Z]⟩
def D3n:=A8C.R
def D1i:AtH:=A8C.lj 0 n [m] [x1,x3,x7,x17,x18]
def D3t:=tT [⟨2,5,D1i⟩]
def D3o:=mR D3n A8C D3t n [a0,a1,a2] h
def C0Y:=mL A8C D3t 0 n [m] [x1,x3,x7,x17,x18] h
def A8G:=A8C.K Tryz.func64
def A2e:=A8C.S
def D3r:SOk A8 64 A2e:=A8G.sok
def C9t:G0 D3n A2e:=A8G.flat
end
def A22(at' width all:Int):Bool:=decide (0<=at')&&decide (1<=width)&&decide (width<=all)&&decide (at'<=all-width)
def Y7:A22 a w n=A5↔0<=a/\1<=w/\w<=n/\a<=n-w:=by
 unfold A22;simp [and_assoc]
def A2J(hn:n<9223372036854775808):
  vM [iV a,iV w,iV n] h=A4 (bV (A22 a w n),h):=by
 refine C2p (n:=0) (h2:=ro h) ?_ rfl;rw [C6f];unfold A22;by_cases h1:0<=a
 ·by_cases h2:1<=w
  ·by_cases h3:w<=n
   ·have e:E8r .i64 (n-w)=n-w:=wrap_i64 (by omega) (by omega);simp [h1,h2,h3,e]
   ·simp [h1,h2,h3]
  ·simp [h1,h2]
 ·simp [h1]
def E1H(l:List UInt8)(a w:Int):Option Nat:=if w<=8/\A22 a w (l_ l)=A5 then A4 (le ((l.drop a.toNat).take w.toNat)) else A7
def C4o{h:A9}{a w k:Nat}(hw:w<=4)(haw:a+w<=256)(hl:l_ l=256):∀ d i m,i+d=w->d<m ->
  D1i k m (iV a) (pV (l_ h) 0) (iV (le ((l.drop a).take i))) (iV w) (iV i) (h++[rT (B4 l)])=A4 (iV (le ((l.drop a).take w)),h++[rT (B4 l)])
 | d,i,0,_,hm=>by omega
 | 0,i,m+1,hi,hm=>by
  have e:i=w:=by omega
  subst e;rw [C0Y];simp
 | d+1,i,m+1,hi,hm=>by
  have ih:=C4o (h:=h) (k:=k) hw haw hl d (i+1) m (by omega) (by omega);have hx:=B8 (h:=h++[rT (B4 l)]) (id:=l_ h) (off:=a+i) (c:=.i .u8 l[a+i].toNat) N8 (by rw [zG,E8h (by omega)];rfl) rfl;have hb:=l[a+i].toNat_lt;have hlen:((l.drop a).take i).length=i:=by simp;omega
  have mI:=D4F ((l.drop a).take i);rw [hlen] at mI;have hp:=B58 (show i<=4 by omega);have hbp:=C3Y (x:=l[a+i]) (show i<4 by omega);have e2:E8r .i64 (8*(i:Int))=8*i:=wrap_i64 (by omega) (by omega);have e3:E8r .u64 (8*(i:Int))=8*i:=wrap_u64 (by omega) (by omega);have e5:E8r .i64 (l[a+i].toNat:Int)=l[a+i].toNat:=wrap_i64 (by omega) (by omega);have e6:=D5C (k:=.i64) (x:=l[a+i]) (show i<8 by omega) (wrap_i64 (by omega) (by omega)) rfl;have e7:N4 .or (iV (le ((l.drop a).take i):Nat)) (iV ((l[a+i].toNat*256 ^ i:Nat):Int))=A4 (iV (le ((l.drop a).take (i+1)):Nat)):=by
   rw [E5X (by omega) (by omega),A8A (by omega),<-D8k,hlen]
  have ea:K2 256 1 (pV (l_ h) 0) (iV ((a+i:Nat):Int))=A4 (pV (l_ h) (a+i)):=by rw [O2 (by omega)];simp
  have h1':(i:Int)<w:=by omega
  rw [C0Y];simp only [esc,h1',A50 (show a+i<9223372036854775808 by omega),e2,e3,ea,hx,e5,e6,e7,E2 (a:=i) (by omega)];exact ih
def atN(l:List UInt8)(a w:Int):Nat:=if w<=4/\A22 a w 256=A5 then le ((l.drop a.toNat).take w.toNat) else 0
def rA(hl:l_ l=256) :
  A2e [.a (B4 l),iV a,iV w] h=A4 (iV (atN l a w),h):=by
 refine C9t (n:=w.toNat+1) (h2:=ro h++[rT (B4 l)]) ?_ (by simp);rw [D3o];unfold atN;by_cases c1:4<w
 ·have c1':¬ w<=4:=by omega
  simp [c1,c1']
 ·have c1':w<=4:=by omega
  cases c2:A22 a w 256 with
  | false=>simp [c1,A2J (show (256:Int)<9223372036854775808 by omega),c2]
  | true =>
   simp [c1,c1',A2J (show (256:Int)<9223372036854775808 by omega),c2];rw [Y7] at c2;have:=C4o (h:=ro h) (a:=a.toNat) (w:=w.toNat) (k:=w.toNat+1) (by omega) (by omega) hl w.toNat 0 (w.toNat+1) (by omega) (by omega);simp only [show ((a.toNat:Nat):Int)=a by omega,show ((w.toNat:Nat):Int)=w by omega] at this;simpa [le] using this
def B7C{l:List UInt8}{z:List Cell}{h:A9}{a w k:Nat}{v:Int}(hw:w<=4)(haw:a+w<=256)(hl:l_ l=256)(hz:z.length=256):∀ d i m,i+d=w->d<m ->
  C4p k m (iV a) (iV v) (pV (l_ h) 0) (pV (l_ h+1) 0) (iV w) (iV i) (h++[rT (B4 (H7 l a (D6 i v))),rT z]) =
   A4 (.a (B4 (H7 l a (D6 w v))),h++[rT (B4 (H7 l a (D6 w v))),rT (B4 (H7 l a (D6 w v)))])
 | d,i,0,_,hm=>by omega
 | 0,i,m+1,hi,hm=>by
  have e:i=w:=by omega
  subst e;have mI:(B4 (H7 l a (D6 i v))).length=256:=by rw [B5,O6 (by simp;omega),hl]
  have s1:=C8 (h:=h++[rT (B4 (H7 l a (D6 i v))),rT z]) (id:=l_ h) (cs:=B4 (H7 l a (D6 i v))) (by simp) mI;have s2:=storeAll (h:=h++[rT (B4 (H7 l a (D6 i v))),rT z]) (id:=l_ h+1) (cs:=z) (xs:=B4 (H7 l a (D6 i v))) (by simp) hz mI;have s3:=C8 (h:=h++[rT (B4 (H7 l a (D6 i v))),rT (B4 (H7 l a (D6 i v)))]) (id:=l_ h+1) (cs:=B4 (H7 l a (D6 i v))) (by simp) mI;have h1':¬ (i:Int)<i:=by omega
  rw [B5f];simp only [esc,h1',s1,s2,s3]
 | d+1,i,m+1,hi,hm=>by
  have ih:=B7C (h:=h) (k:=k) (v:=v) hw haw hl hz d (i+1) m (by omega) (by omega);have e2:E8r .i64 (8*(i:Int))=8*i:=wrap_i64 (by omega) (by omega);have e3:E8r .u64 (8*(i:Int))=8*i:=wrap_u64 (by omega) (by omega);have e4:N4 .shr (iV v) (.c (.i .u64 (8*(i:Int))))=A4 (iV (v/2 ^ (Nat.min (8*(i:Int)).toNat 64))):=C6I (by omega);have ea:K2 256 1 (pV (l_ h) 0) (iV ((a+i:Nat):Int))=A4 (pV (l_ h) (a+i)):=by rw [O2 (by omega)];simp
  have nJ:=I9 (h:=h++[rT (B4 (H7 l a (D6 i v))),rT z]) (id:=l_ h) (off:=a+i) (cs:=B4 (H7 l a (D6 i v))) (x:=.i .u8 (byI v i).toNat) (by simp)
   (by rw [B5,O6 (by simp;omega)];omega)
  have e5:(H7 l a (D6 i v)).set (a+i) (byI v i)=H7 l a (D6 (i+1) v):=by
   rw [B4j];have:=B51 (l:=l) (xs:=D6 i v) (a:=a) (x:=byI v i) (by simp;omega);simpa using this
  rw [oZ,e5] at nJ;have h1':(i:Int)<w:=by omega
  rw [B5f];simp only [esc,h1',A50 (show a+i<9223372036854775808 by omega),e2,e3,e4,D0J (v:=v) (show i<8 by omega),ea,nJ,E2 (a:=i) (by omega)];exact ih
def kV(l:List UInt8)(a w v:Int):List UInt8:=if w<=4/\A22 a w 256=A5 then H7 l a.toNat (D6 w.toNat v) else l
def W1(hl:l_ l=256):(kV l a w v).length=256:=by
 unfold kV;split
 ·rename_i h;rw [Y7] at h;rw [O6 (by simp;omega),hl]
 ·exact hl
def D2U(hl:l_ l=256) :
  ∃ g',B7T (w.toNat+1) [.a (B4 l),iV a,iV w,iV v] g=A4 (.a (B4 (kV l a w v)),g'):=by
 have mI:(B4 l).length=256:=by rw [B5,hl]
 have hz:(E8l 256 (Cell.i .u8 0)).length=256:=E8S;rw [C9p];generalize E8l 256 (Cell.i .u8 0)=z at *;have s1:=C8 (h:=g++[rT (B4 l),rT z]) (id:=l_ g) (cs:=B4 l) (n:=256) (by simp) mI;have s2:=storeAll (h:=g++[rT (B4 l),rT z]) (id:=l_ g+1) (cs:=z) (xs:=B4 l) (by simp) hz mI;have s3:=C8 (h:=g++[rT (B4 l),rT (B4 l)]) (id:=l_ g+1) (cs:=B4 l) (n:=256) (by simp) mI;unfold kV;by_cases c1:4<w
 ·rw [C5 (by omega)];exact ⟨_,by simp only [esc,c1,s1,s2,s3];rfl⟩
 ·have c1':w<=4:=by omega
  cases c2:A22 a w 256 with
  | false =>
   rw [C5 (by simp)];exact ⟨_,by simp only [esc,c1,A2J (show (256:Int)<9223372036854775808 by omega),c2,s1,s2,s3];rfl⟩
  | true =>
   rw [C4 ⟨c1',rfl⟩];have c3:=Y7.1 c2;have:=B7C (h:=g) (a:=a.toNat) (w:=w.toNat) (k:=w.toNat+1) (v:=v) (z:=z) (by omega) (by omega) hl hz w.toNat 0 (w.toNat+1) (by omega) (by omega);simp only [show ((a.toNat:Nat):Int)=a by omega,show ((w.toNat:Nat):Int)=w by omega,show D6 0 v=[] from rfl,C0L] at this;exact ⟨_,by simp only [esc,c1,A2J (show (256:Int)<9223372036854775808 by omega),c2];exact this⟩
def aW(hl:l_ l=256) :
  uJ [.a (B4 l),iV a,iV w,iV v] h=A4 (.a (B4 (kV l a w v)),h):=by
 obtain ⟨g,e⟩:=D2U (g:=ro h) hl (a:=a) (w:=w) (v:=v);exact C5d e (by simp)
def C0Z{h:A9}{b id a n k:Nat}(haw:a+n<=256)(hl:l_ l=256):∀ d i m,i+d=n->d<m ->
  C8o k m (iV a) (pV (l_ h) 0) (sV (l_ h+2) 0 n 1) (iV n) (iV i) (h++[rT (B4 l),rT [],rT (B4 ((l.drop a).take i++zeros (n-i)))]) =
   A4 (sV (l_ h+2) 0 n 1,h++[rT (B4 l),rT [],rT (B4 ((l.drop a).take n))])
 | d,i,0,_,hm=>by omega
 | 0,i,m+1,hi,hm=>by
  have e:i=n:=by omega
  subst e;have h1':¬ (i:Int)<i:=by omega
  rw [B7z];simp only [esc,h1'];simp [zeros]
 | d+1,i,m+1,hi,hm=>by
  have ih:=C0Z (h:=h) (b:=b) (id:=id) (k:=k) haw hl d (i+1) m (by omega) (by omega);have ea:K2 256 1 (pV (l_ h) 0) (iV ((a+i:Nat):Int))=A4 (pV (l_ h) (a+i)):=by rw [O2 (by omega)];simp
  have eb:F0 1 (sV (l_ h+2) 0 n 1) (iV (i:Int))=A4 (pV (l_ h+2) i):=by rw [E4 (by omega)];simp
  have hx:=B8 (h:=h++[rT (B4 l),rT [],rT (B4 ((l.drop a).take i++zeros (n-i)))]) (id:=l_ h) (off:=a+i) (c:=.i .u8 l[a+i].toNat) (cs:=B4 l) (rw:=A5) (by simp) (by rw [zG,E8h (by omega)];rfl) rfl;have nJ:=I9 (h:=h++[rT (B4 l),rT [],rT (B4 ((l.drop a).take i++zeros (n-i)))]) (id:=l_ h+2) (off:=i) (cs:=B4 ((l.drop a).take i++zeros (n-i))) (x:=.i .u8 l[a+i].toNat) (by simp)
   (by rw [B5];simp;omega)
  have e5:((l.drop a).take i++zeros (n-i)).set i l[a+i]=(l.drop a).take (i+1)++zeros (n-(i+1)):=by
   have hlen:((l.drop a).take i).length=i:=by simp;omega
   rw [E9a _ _ (by omega),hlen,E9t,A8A (by omega),E8t];refine congrArg ((l.drop a).take i ++ ·) ?_;have:n-i=n-(i+1)+1:=by omega
   rw [this];unfold zeros;rw [E81,E9A];rfl
  rw [oZ,e5] at nJ;have h1':(i:Int)<n:=by omega
  rw [B7z];simp only [esc,h1',A50 (show a+i<9223372036854775808 by omega),ea,hx,eb,nJ,E2 (a:=i) (by omega)];exact ih
def B2T(l:List UInt8)(a n:Int):List UInt8:=if 0<=a then (l.drop a.toNat).take n.toNat else []
def C3k(n:Nat):rows [Cell.i .u8 0] n=B4 (zeros n):=by
 unfold rows zeros
 induction n with
 | zero=>rfl
 | succ n ih=>rw [E81,E9v,ih,E81];rfl
def D4W(hl:l_ l=256) :
  ∃ v g',C1X ((min n (256-a)).toNat+1) [.a (B4 l),iV a,iV n] g=A4 (v,g')/\Out (l_ g) g' v 1 (B2T l a n).length (B4 (B2T l a n)):=by
 rw [D1W];unfold B2T;by_cases c1:a<0
 ·rw [C5 (by omega)];exact ⟨_,_,by simp only [esc,c1];rfl,by simp [B5],_,rfl,by simp,by simp;rfl⟩
 ·rw [C4 (by omega)];by_cases c2:256<=a
  ·have e:l.drop a.toNat=[]:=E8x (by omega);rw [e,List.take_nil];exact ⟨_,_,by simp only [esc,c1,c2];rfl,by simp [B5],_,rfl,by simp,by simp;rfl⟩
  ·by_cases c3:n<1
   ·have e:n.toNat=0:=by omega
    rw [e];exact ⟨_,_,by simp only [esc,c1,c2,c3];rfl,by simp [B5],_,rfl,by simp,by simp;rfl⟩
   ·have e1:E8r .i64 (256-a)=256-a:=wrap_i64 (by omega) (by omega);have e2:B6z (iV n) (iV (256-a))=A4 (iV ((min n (256-a)).toNat:Nat)):=by
     simp only [B6z]
     congr 3
     by_cases h:256-a<n
     ·rw [C4 h];omega
     ·rw [C5 h];omega
    generalize hN:(min n (256-a)).toNat=N at *;have e3:C5h (iV (N:Int)) (iV (N:Int))=A4 N:=by
     have:B6G (iV (N:Int))=A4 N:=by simp only [B6G];rw [C4 (by omega)];simp
     simp [C5h,this]
    have e4:(l.drop a.toNat).take n.toNat=(l.drop a.toNat).take N:=by
     by_cases h:256-a<n
     ·rw [E8B (by simp;omega),E8B (by simp;omega)]
     ·have:n.toNat=N:=by omega
      rw [this]
    have e5:((l.drop a.toNat).take N).length=N:=by simp;omega
    rw [e4,e5];have:=C0Z (h:=g) (b:=0) (id:=0) (a:=a.toNat) (n:=N) (k:=N+1) (by omega) hl N 0 (N+1) (by omega) (by omega);simp only [show ((a.toNat:Nat):Int)=a by omega,E9i,E8I,Nat.sub_zero] at this;exact ⟨_,_,by simp only [esc,c1,c2,c3,e1,e2,e3,C3k];exact this,by simp [B5,e5],_,rfl,by omega,by simp⟩
def B1G(hl:l_ l=256) :
  A84 [.a (B4 l),iV a,iV n] h=A4 (sV (l_ h) 0 (B2T l a n).length 1,h++[rT (B4 (B2T l a n))]):=by
 obtain ⟨v,g,e,ho⟩:=D4W (g:=ro h) hl (a:=a) (n:=n);exact C9u e (by simpa [G8] using ho) (by simp)
def C01{v:Val}{l:List UInt8}{z:List Cell}{h:A9}(hv:Has h v 1 nv (B4 data)){a k:Nat}(ha:a<256)(hl:l_ l=256)(hz:z.length=256)(hd:data.length<9223372036854775808):∀ d i m,i+d=data.length->d<m->i<=256-a ->
  C8r k m (iV a) (pV (l_ h) 0) (pV (l_ h+1) 0) v (iV data.length) (iV i) (h++[rT (B4 (H7 l a (data.take i))),rT z]) =
   A4 (.a (B4 (H7 l a (data.take (256-a)))),h++[rT (B4 (H7 l a (data.take (256-a)))),rT (B4 (H7 l a (data.take (256-a))))])
 | d,i,0,_,hm,_=>by omega
 | d,i,m+1,hi,hm,hia=>by
  have hll:∀ i,i<=256-a->(B4 (H7 l a (data.take i))).length=256:=λi hi=>by rw [B5,O6 (by simp;omega),hl]
  have fin:data.take i=data.take (256-a)->C8q k (pV (l_ h) 0) (pV (l_ h+1) 0) (h++[rT (B4 (H7 l a (data.take i))),rT z]) =
   A4 (.a (B4 (H7 l a (data.take (256-a)))),h++[rT (B4 (H7 l a (data.take (256-a)))),rT (B4 (H7 l a (data.take (256-a))))]):=λe=>by
   rw [e];have mI:=hll (256-a) (E8m _);have s1:=C8 (h:=h++[rT (B4 (H7 l a (data.take (256-a)))),rT z]) (id:=l_ h) (cs:=B4 (H7 l a (data.take (256-a)))) (by simp) mI;have s2:=storeAll (h:=h++[rT (B4 (H7 l a (data.take (256-a)))),rT z]) (id:=l_ h+1) (cs:=z) (xs:=B4 (H7 l a (data.take (256-a)))) (by simp) hz mI;have s3:=C8 (h:=h++[rT (B4 (H7 l a (data.take (256-a)))),rT (B4 (H7 l a (data.take (256-a))))]) (id:=l_ h+1) (cs:=B4 (H7 l a (data.take (256-a)))) (by simp) mI;rw [C91];simp only [esc,s1,s2,s3]
  rw [C92];by_cases c1:i<data.length
  ·obtain ⟨d,rfl⟩:∃ e,d=e+1:=⟨d-1,by omega⟩;have hnv:data.length=nv:=by simpa [B5] using hv.length
   obtain ⟨id,off,rfl,hid,h1,h2⟩:=(hv.more [rT (B4 (H7 l a (data.take i))),rT z]).sl (by omega);have hx:=h1 i (.i .u8 data[i].toNat) (by rw [zG,E8h (by omega)];rfl);have eb:F0 1 (sV id off nv 1) (iV (i:Int))=A4 (pV id (off+i)):=by rw [E4 (by omega)];simp
   have e1:E8r .i64 (256-(a:Int))=256-a:=wrap_i64 (by omega) (by omega);have c1':(i:Int)<data.length:=by omega
   by_cases c2:256-a<=i
   ·have c2':(256:Int)-a<=i:=by omega
    simp only [esc,c1',eb,hx,e1,c2'];exact fin (by rw [show i=256-a by omega])
   ·have c2':¬ (256:Int)-a<=i:=by omega
    have ih:=C01 hv (l:=l) (z:=z) (k:=k) ha hl hz hd d (i+1) m (by omega) (by omega) (by omega);have ea:K2 256 1 (pV (l_ h) 0) (iV ((a+i:Nat):Int))=A4 (pV (l_ h) (a+i)):=by rw [O2 (by omega)];simp
    have nJ:=I9 (h:=h++[rT (B4 (H7 l a (data.take i))),rT z]) (id:=l_ h) (off:=a+i) (cs:=B4 (H7 l a (data.take i))) (x:=.i .u8 data[i].toNat) (by simp)
     (by rw [hll i hia];omega)
    have e5:(H7 l a (data.take i)).set (a+i) data[i]=H7 l a (data.take (i+1)):=by
     have:=B51 (l:=l) (xs:=data.take i) (a:=a) (x:=data[i]) (by simp;omega);rw [List.length_take,Nat.min_eq_left (by omega)] at this;rw [this,E8R c1]
    rw [oZ,e5] at nJ;simp only [esc,c1',eb,hx,e1,c2',A50 (show a+i<9223372036854775808 by omega),ea,nJ,E2 (a:=i) (by omega)];exact ih
  ·have c1':¬ (i:Int)<data.length:=by omega
   simp only [esc,c1'];exact fin (by rw [E8B (by omega),E8B (by omega)])
def B1F(l:List UInt8)(a:Int)(data:List UInt8):List UInt8:=if 0<=a/\a<256 then H7 l a.toNat (data.take (256-a.toNat)) else l
def D4D(hl:l_ l=256):(B1F l a data).length=256:=by
 unfold B1F;split
 ·rw [O6 (by simp;omega),hl]
 ·exact hl
def D4X{v:Val}(hv:Has g v 1 nv (B4 data))(hl:l_ l=256)(hd:data.length<9223372036854775808) :
  ∃ g',C1Y (data.length+1) [.a (B4 l),iV a,v] g=A4 (.a (B4 (B1F l a data)),g'):=by
 have mI:(B4 l).length=256:=by rw [B5,hl]
 have hz:(E8l 256 (Cell.i .u8 0)).length=256:=E8S;have hnv:data.length=nv:=by simpa [B5] using hv.length
 rw [D1Y];generalize E8l 256 (Cell.i .u8 0)=z at *;have s1:=C8 (h:=g++[rT (B4 l),rT z]) (id:=l_ g) (cs:=B4 l) (n:=256) (by simp) mI;have s2:=storeAll (h:=g++[rT (B4 l),rT z]) (id:=l_ g+1) (cs:=z) (xs:=B4 l) (by simp) hz mI;have s3:=C8 (h:=g++[rT (B4 l),rT (B4 l)]) (id:=l_ g+1) (cs:=B4 l) (n:=256) (by simp) mI;unfold B1F;by_cases c1:a<0
 ·rw [C5 (by omega)];exact ⟨_,by simp only [esc,c1,s1,s2,s3];rfl⟩
 ·by_cases c2:256<=a
  ·rw [C5 (by omega)];exact ⟨_,by simp only [esc,c1,c2,s1,s2,s3];rfl⟩
  ·rw [C4 (by omega)];have:=C01 hv (l:=l) (a:=a.toNat) (k:=data.length+1) (z:=z) (by omega) hl hz hd data.length 0 (data.length+1) (by omega) (by omega) (by omega);simp only [show ((a.toNat:Nat):Int)=a by omega,E9i,C0L] at this;exact ⟨_,by simp only [esc,c1,c2,hv.len,<-hnv];exact this⟩
def B1H{v:Val}(hv:Has h v 1 nv (B4 data))(hl:l_ l=256)(hd:data.length<9223372036854775808) :
  A4p [.a (B4 l),iV a,v] h=A4 (.a (B4 (B1F l a data)),h):=by
 obtain ⟨g,e⟩:=D4X hv.ro hl hd (a:=a);exact C6z e (by simp)
def B55{v:Val}(hv:Has h v 1 nv (B4 data))(hd:data.length<9223372036854775808) :
  A85 [v] h=A4 (.a (B4 (B1F (zeros 256) 0 data)),h):=by
 have key:∀ g,Has g v 1 nv (B4 data)->∃ g',C6e 0 [v] g=A4 (.a (B4 (B1F (zeros 256) 0 data)),g'):=by
  intro g hv;rw [D3p];have hz:(B4 (zeros 256)).length=256:=by rw [B5];exact zeros_length
  have hz0:(zeros 256).length=256:=zeros_length;rw [G9];generalize zeros 256=Z at *;have e:=B1H (hv.more [rT (B4 Z)]) hz0 hd (a:=0);have hl2:(B4 (B1F Z 0 data)).length=256:=by rw [B5,D4D hz0]
  have s2:=storeAll (h:=g++[rT (B4 Z)]) (id:=l_ g) (cs:=B4 Z) (xs:=B4 (B1F Z 0 data)) (by simp) hz hl2;have s3:=C8 (h:=g++[rT (B4 (B1F Z 0 data))]) (id:=l_ g) (cs:=B4 (B1F Z 0 data)) (n:=256) (by simp) hl2;exact ⟨_,by simp only [esc,F6,e,s2,s3];rfl⟩
 obtain ⟨g,e⟩:=key _ hv.ro;exact C9v e (by simp)
def C00{v:Val}(hv:Has h v 1 nv (B4 l)){a w k:Nat}(hw:w<=8)(haw:a+w<=l_ l)(hl:l_ l<9223372036854775808):∀ d i m,i+d=w->d<m ->
  C8p k m v (iV a) (.c (.i .u64 (le ((l.drop a).take i)))) (iV w) (iV i) h=A4 (.t [.c (.i .u64 (le ((l.drop a).take w))),.c (.b A5)],h)
 | d,i,0,_,hm=>by omega
 | 0,i,m+1,hi,hm=>by
  have e:i=w:=by omega
  subst e;rw [B7A];simp
 | d+1,i,m+1,hi,hm=>by
  have ih:=C00 hv (k:=k) hw haw hl d (i+1) m (by omega) (by omega);have hnv:l_ l=nv:=by simpa [B5] using hv.length
  obtain ⟨id,off,rfl,hid,h1,h2⟩:=hv.sl (by omega);have hx:=h1 (a+i) (.i .u8 l[a+i].toNat) (by rw [zG,E8h (by omega)];rfl);have hb:=l[a+i].toNat_lt;have hlen:((l.drop a).take i).length=i:=by simp;omega
  have mI:=D4F ((l.drop a).take i);rw [hlen] at mI;have hp:=B58 (show i<=8 by omega);have hbp:=C3Y (x:=l[a+i]) (show i<8 by omega);have e2:E8r .i64 (8*(i:Int))=8*i:=wrap_i64 (by omega) (by omega);have e3:E8r .u64 (8*(i:Int))=8*i:=wrap_u64 (by omega) (by omega);have e5:E8r .u64 (l[a+i].toNat:Int)=l[a+i].toNat:=wrap_u64 (by omega) (by omega);have e6:=D5C (k:=.u64) (x:=l[a+i]) (show i<8 by omega) (wrap_u64 (by omega) (by omega)) rfl;have e7:N4 .or (.c (.i .u64 (le ((l.drop a).take i):Nat))) (.c (.i .u64 ((l[a+i].toNat*256 ^ i:Nat):Int)))=A4 (.c (.i .u64 (le ((l.drop a).take (i+1)):Nat))):=by
   rw [E5Y (by omega) (by omega),A8A (by omega),<-D8k,hlen]
  have ea:F0 1 (sV id off nv 1) (iV ((a+i:Nat):Int))=A4 (pV id (off+(a+i))):=by rw [E4 (by omega)];simp
  have h1':(i:Int)<w:=by omega
  rw [B7A];simp only [esc,h1',A50 (show a+i<9223372036854775808 by omega),e2,e3,ea,hx,e5,e6,e7,E2 (a:=i) (by omega)];exact ih
def D63{v:Val}(hv:Has h v 1 nv (B4 l))(hl:l_ l<9223372036854775808) :
  C2n [v,iV a,iV w] h=A4 (.t [.c (.i .u64 ((E1H l a w).getD 0:Nat)),.c (.b (E1H l a w).isSome)],h):=by
 refine C6y (n:=w.toNat+1) (h2:=ro h) ?_ (by simp);rw [D1X];have hv':=hv.ro;have hnv:l_ l=nv:=by simpa [B5] using hv.length
 unfold E1H;by_cases c1:8<w
 ·have c1':¬ w<=8:=by omega
  simp [c1,c1']
 ·have c1':w<=8:=by omega
  cases c2:A22 a w (l_ l) with
  | false=>simp [c1,hv'.len,<-hnv,A2J (show (l_ l:Int)<9223372036854775808 by omega),c2]
  | true =>
   simp [c1,c1',hv'.len,<-hnv,A2J (show (l_ l:Int)<9223372036854775808 by omega),c2];rw [Y7] at c2;have:=C00 hv' (a:=a.toNat) (w:=w.toNat) (k:=w.toNat+1) (by omega) (by omega) hl w.toNat 0 (w.toNat+1) (by omega) (by omega);simp only [show ((a.toNat:Nat):Int)=a by omega,show ((w.toNat:Nat):Int)=w by omega] at this;simpa [le] using this
def C02{l:List UInt8}{b id a w k:Nat}{v:Int}(hw:w<=8)(haw:a+w<=l_ l)(hl:l_ l<9223372036854775808):∀ d i m (h:A9),i+d=w->d<m->b<=id->b<=l_ h->rd h id=rT (B4 (H7 l a (D6 i v))) ->
  ∃ h',C8s k m (iV a) (.c (.i .u64 v)) (sV id 0 (l_ l) 1) (iV w) (iV i) h=A4 (.t [.c (.sl id 0 (l_ l) 1),.c (.b A5)],h')/\rd h' id=rT (B4 (H7 l a (D6 w v)))
 | d,i,0,h,_,hm,_,_,_=>by omega
 | 0,i,m+1,h,hi,hm,_,_,hr=>by
  have e:i=w:=by omega
  subst e;have h1':¬ (i:Int)<i:=by omega
  rw [B7B];exact ⟨h,by simp only [esc,h1'],hr⟩
 | d+1,i,m+1,h,hi,hm,hb,hbl,hr=>by
  have e2:E8r .i64 (8*(i:Int))=8*i:=wrap_i64 (by omega) (by omega);have e3:E8r .u64 (8*(i:Int))=8*i:=wrap_u64 (by omega) (by omega);have e4:N4 .shr (.c (.i .u64 v)) (.c (.i .u64 (8*(i:Int))))=A4 (.c (.i .u64 (v/2 ^ (Nat.min (8*(i:Int)).toNat 64)))):=C6I (by omega);have ea:F0 1 (sV id 0 (l_ l) 1) (iV ((a+i:Nat):Int))=A4 (pV id (a+i)):=by rw [E4 (by omega)];simp
  have nJ:=I9 (off:=a+i) (x:=.i .u8 (byI v i).toNat) hr (by rw [B5,O6 (by simp;omega)];omega);have e5:(H7 l a (D6 i v)).set (a+i) (byI v i)=H7 l a (D6 (i+1) v):=by
   rw [B4j];have:=B51 (l:=l) (xs:=D6 i v) (a:=a) (x:=byI v i) (by simp;omega);simpa using this
  rw [oZ,e5] at nJ;obtain ⟨h',ih,hr'⟩:=C02 (b:=b) (k:=k) (v:=v) hw haw hl d (i+1) m (h.set id (rT (B4 (H7 l a (D6 (i+1) v))))) (by omega) (by omega) hb (by simpa using hbl) (D3 (E1 hr));have h1':(i:Int)<w:=by omega
  rw [B7B];exact ⟨h',by simp only [esc,h1',A50 (show a+i<9223372036854775808 by omega),e2,e3,e4,D0J (v:=v) (show i<8 by omega),ea,nJ,E2 (a:=i) (by omega)];exact ih,hr'⟩
def C5u(l:List UInt8)(a w v:Int):Option (List UInt8):=if w<=8/\A22 a w (l_ l)=A5 then A4 (H7 l a.toNat (D6 w.toNat v)) else A7
def D64{x:Val}(hv:Has h x 1 nv (B4 l))(hl:l_ l<=1073741824) :
  C2o [x,iV a,iV w,.c (.i .u64 v)] h=A4 (.t [.c (.sl (l_ h) 0 ((C5u l a w v).getD []).length 1),.c (.b (C5u l a w v).isSome)],h++[rT (B4 ((C5u l a w v).getD []))]):=by
 have hnv:l_ l=nv:=by simpa [B5] using hv.length
 have key:∀ g,Has g x 1 nv (B4 l)->∃ id g',C1Z (w.toNat+1) [x,iV a,iV w,.c (.i .u64 v)] g=A4 (.t [.c (.sl id 0 ((C5u l a w v).getD []).length 1),.c (.b (C5u l a w v).isSome)],g')/\(l_ g)<=id/\rd g' id=rT (B4 ((C5u l a w v).getD [])):=by
  intro g hv;rw [D1Z];have hvm:=hv.more [rT []];unfold C5u;by_cases c1:8<w
  ·rw [C5 (by omega)];exact ⟨_,_,by simp only [esc,c1];rfl,by simp,by simp;rfl⟩
  ·cases c2:A22 a w (l_ l) with
   | false =>
    rw [C5 (by simp)];exact ⟨_,_,by simp only [esc,c1,hvm.len,<-hnv,A2J (show (l_ l:Int)<9223372036854775808 by omega),c2];rfl,by simp,by simp;rfl⟩
   | true =>
    rw [C4 ⟨by omega,rfl⟩];have c3:=Y7.1 c2;have hvm2:=hv.more [rT [],rT []];have e1:uR (g++[rT [],rT []]) 1 (sV (l_ g+1) 0 0 1) x=A4 (sV (l_ g+2) 0 (l_ l) 1,g++[rT [],A7,rT (B4 l)]):=by
     simp [uR,hvm2.add,B5];exact hl
    obtain ⟨g',e2,hr⟩:=C02 (l:=l) (b:=l_ g) (id:=l_ g+2) (a:=a.toNat) (w:=w.toNat) (k:=w.toNat+1) (v:=v) (by omega) (by omega) (by omega) w.toNat 0 (w.toNat+1) (g++[rT [],A7,rT (B4 l)]) (by omega) (by omega) (by omega) (by simp) (by simp [D6,C0L]);simp only [show ((a.toNat:Nat):Int)=a by omega,show ((w.toNat:Nat):Int)=w by omega] at e2;have hlen:((A4 (H7 l a.toNat (D6 w.toNat v))).getD []).length=(l_ l):=by
     simp only [Option.getD_some];rw [O6 (by simp;omega)]
    rw [hlen];exact ⟨l_ g+2,g',by simp only [esc,c1,hvm.len,<-hnv,A2J (show (l_ l:Int)<9223372036854775808 by omega),c2,F6,e1];exact e2,by omega,hr⟩
 obtain ⟨id,g',e,hb,hr⟩:=key _ hv.ro;have hb':l_ h<=id:=by simpa [G8] using hb
 have:=C6A e (v2:=.t [.c (.sl (l_ h) 0 ((C5u l a w v).getD []).length 1),.c (.b (C5u l a w v).isSome)]) (ids:=[id]) (by
  simp [X5,iJ,P8,hb',show ¬ id<(l_ h) by omega,lQ hr (by simp:M9 (B4 ((C5u l a w v).getD []))=A5)])
 rw [this];simp [hr]
def R2(n:Nat)(l:List UInt8):List UInt8:=l++zeros (n-l_ l)
def I7{n:Nat}(h:l_ l<=n):(R2 n l).length=n:=by
 unfold R2;rw [E8o,zeros_length];omega
def E2q{n:Nat}:R2 n []=zeros n:=by simp [R2]
def D5a{xs:List UInt8}{a:Nat}(h1:l_ l<=a)(h2:a+l_ xs<=256):H7 (R2 256 l) a xs=R2 256 (l++zeros (a-l_ l)++xs):=by
 unfold H7 R2;have e1:(l++zeros (256-l_ l)).take a=l++zeros (a-l_ l):=by
  rw [List.take_append,E8B h1];unfold zeros;rw [List.take_replicate,Nat.min_eq_left (by omega)]
 have e2:(l++zeros (256-l_ l)).drop (a+l_ xs)=zeros (256-(l++zeros (a-l_ l)++xs).length):=by
  rw [List.drop_append,E8x (by omega),E8I];unfold zeros;rw [List.drop_replicate]
  congr 1
  simp;omega
 rw [e1,e2];simp only [E8t]
def lU{a w:Nat}(h1:l_ l<=a)(h2:a+w<=256)(hw:1<=w)(hw4:w<=4):kV (R2 256 l) a w v=R2 256 (l++zeros (a-l_ l)++D6 w v):=by
 unfold kV;rw [C4 ⟨by omega,Y7.2 (by omega)⟩];simp only [E8D];exact D5a h1 (by simp;exact h2)
def fieldN(b:List UInt8)(a w:Nat):Int:=((le ((b.drop a).take w):Nat):Int)
def D2X{b:List UInt8}(hb:l_ b<=256):B1F (zeros 256) 0 b=R2 256 b:=by
 unfold B1F H7 R2;rw [C4 (by omega)];simp only [Int.toNat_zero,E9i,E8I,Nat.sub_zero,E8A];rw [E8B hb];unfold zeros;rw [List.drop_replicate]
def D6d{b:List UInt8}{a w:Nat}(h1:a+w<=l_ b)(h2:l_ b<=256)(hw:1<=w)(hw4:w<=4):((atN (R2 256 b) a w:Nat):Int)=fieldN b a w:=by
 unfold atN fieldN R2;rw [C4 ⟨by omega,Y7.2 (by omega)⟩];simp only [E8D];rw [List.drop_append_of_le_length (by omega),List.take_append_of_le_length (by simp;omega)]
section
variable (n m m2:Nat) (a0 a1 x0 x1 x7 x8:Val) (h:A9)
def A0K:FD A8:=⟨px 0X12bf4072b0218000002722af18052c02a4921829f003b06201a1f21380382812e171b018181af504121842150307024413401212b42006051105b1a603291f61c21132b40130182,[.c (.i .u32 0),.c (.i .u32 16777619)],[.idxS (.t 12) (.t 13),.conv .u32 (.t 14)],[.tmp 4],[]⟩
def C6a:=A0K.R
def C4l:AtH:=A0K.lj 0 n [m] [x0,x1,x7,x8]
def C6D:=tT [⟨2,4,C4l⟩]
def C9o:=mR C6a A0K C6D n [a0,a1] h
def B5e:=mL A0K C6D 0 n [m] [x0,x1,x7,x8] h
def C5W:=A0K.K Tryz.func142
def B8d:=A0K.S
def C5a:G0 C6a B8d:=C5W.flat
def B83:FD A8:=⟨px 0X14f2003b20361300522b201042,[.c (.i .u32 0),.c (.i .u32 2166136261)],[],[.tmp 2],[D8 B8d C5W]⟩
def D3l:=B83.R
def D3m:=mR D3l B83 (tT []) n [a0] h
def B9e:=B83.K Tryz.func104
def B3Z:=B83.S
def D3q:SOk A8 104 B3Z:=B9e.sok
def C9s:G0 D3l B3Z:=B9e.flat
def B5F:FD A8:=⟨px 0X12bf4006801a1e22b07202b1b20583a171d01802011cf4006871b0318000072241af180289042281903296101d2114012000072247f5050121a6031b420503140130182,[.c (.i .u32 1)],[],[.tmp 4],[]⟩
def C1V:=B5F.R
def D1V:=mR C1V B5F (tT []) n [a0,a1] h
def D0g:=B5F.K Tryz.func141
def C2j:=B5F.S
def C6v:G0 C1V C2j:=D0g.flat
end
def E2a(h:Nat)(c:UInt8):Nat:=((h ^^^ c.toNat)*16777619)%4294967296
def C5O(h:Nat)(s:List UInt8):Nat:=s.foldl E2a h
def C5r(s:List UInt8):Nat:=C5O 2166136261 s
def D8h{h:Nat}{c:UInt8}:E2a h c<4294967296:=Nat.mod_lt _ (by omega)
def D6X:∀ {h:Nat},h<4294967296->C5O h s<4294967296:=by
 induction s with
 | nil=>intro h hh;exact hh
 | cons c s ih=>intro h _;exact ih D8h
def D2N:C5r s<4294967296:=D6X (by omega)
def D3k:E8r .u32 a=a%4294967296:=by
 simp only [E8r,IntKind.bits,IntKind.signed,E8E];rfl
def B7v(hs:l_ s<9223372036854775807){q:Nat}{h:A9}:∀ (d i m H:Nat),i+d=l_ s->d<m->H<4294967296 ->
  C4l q m (.c (.i .u32 H)) (.c (.s s)) (iV (l_ s)) (iV i) h=A4 (.c (.i .u32 ((C5O H (s.drop i):Nat):Int)),h)
 | d,i,0,H,_,hm,_=>by omega
 | 0,i,m+1,H,hi,hm,hH=>by
  have c0:¬ (i:Int)<(l_ s):=by omega
  rw [B5e,E8x (by omega)];simp only [esc,c0,C5O,List.foldl_nil]
 | d+1,i,m+1,H,hi,hm,hH=>by
  have h2:i<(l_ s):=by omega
  have hb:=s[i].toNat_lt;have ih:=B7v hs (q:=q) (h:=h) d (i+1) m (E2a H s[i]) (by omega) (by omega) D8h;have c0:(i:Int)<(l_ s):=by omega
  have e1:E8r .u32 (s[i].toNat:Int)=s[i].toNat:=wrap_u32 (by omega) (by omega);have e2:=E4I (a:=H) (b:=s[i].toNat) hH (by omega);have e3:E8r .u32 (((H ^^^ s[i].toNat:Nat):Int)*16777619)=((E2a H s[i]:Nat):Int):=by
   rw [D3k];unfold E2a;omega
  rw [B5e,E8s h2];simp only [esc,c0,C0u h2,e1,e2,e3,E2 (a:=i) (by omega)];exact ih
def C26(hs:l_ s<9223372036854775807):B3Z [.c (.s s)] h=A4 (.c (.i .u32 ((C5r s:Nat):Int)),h):=by
 have hm:∀ h,B8d [.c (.i .u32 2166136261),.c (.s s)] h=A4 (.c (.i .u32 ((C5r s:Nat):Int)),h):=λh=>by
  refine C5a (n:=l_ s+1) (h2:=ro h) ?_ rfl;rw [C9o];have:=B7v hs (q:=l_ s+1) (h:=ro h) (l_ s) 0 (l_ s+1) 2166136261 (by omega) (by omega) (by omega);simp only [esc];exact this
 refine C9s (n:=0) (h2:=ro h) ?_ rfl;rw [D3m];simp only [esc,hm]
section
variable (n m m2:Nat) (a0 x1 x3 x10:Val) (h:A9)
def cJ:FD A8:=⟨px 0X11201020152015052243cf2d006420406a5019024901a20415a2e2b185b0521520150062242cf1a0103249018204148292b51802428f1a018890520413a1e2b4020241df1a0490120412c1b2b4022d201911a15201200622419f3048890520401c72b4180246f30189012040642b402721801a050131103a2342,[],[],[.tmp 2],[]⟩
def A7S:=cJ.R
def C8Q:AtH:=cJ.lj 0 n [] [x1,x3]
def C8R:AtH:=cJ.lj 1 n [] [x1,x10]
def A8g:=tT [⟨1,2,C8Q⟩,⟨1,2,C8R⟩]
def C12:=mR A7S cJ A8g n [a0] h
def X9:=mJ cJ A8g 0 n [] [x1,x3] h
def gA:=mJ cJ A8g 1 n [] [x1,x10] h
def gD:=cJ.K Tryz.func35
def cL:=cJ.S
def B8g:G0 A7S cL:=gD.flat
def A6h:FD A8:=⟨px 0X113022f48860291a9642306818a15f488581c6711624ff18001630381a9103537e4881856e4227c4886069434378178488491c421248f113ff6011c2801a3f2c3ef3a0049164330426e549491703b18f181194e05325848860195964230415c54a4881850224848860194964230404c53a4882a1c50229f248861c51b011307818b177b166b152b145b134b123b112b10181b1811f5d51b41192011ef3003848862c101c3b471100722410321e1b0239421af400103283191c3194203111c4c03a353182,[.c (.i .u8 101),.c (.i .u8 115),.c (.i .u8 99),.c (.i .u8 104),.c (.i .u8 97),.c (.i .u8 116),.c (.i .u8 49)],[.b2s (.t 37)],[.cellN 2 256,.tmp 3],[D8 cL gD,cal D3s,cal C9w,cal D13,cal D12,cal B9U,cal D3q]⟩
def B3z:=A6h.R
def C6i:=mR B3z A6h (tT []) n [a0] h
def B3c:=A6h.K Tryz.func65
def A6N:=A6h.S
def C2t:G0 B3z A6N:=B3c.flat
def A6g:FD A8:=⟨px 0X113022f367834a1c302016d3027e3602a3b3711622401b18190784e7a488783c5c488783c0110324c3a0718922007239f138f248861c71b1182806382c2ff2d001334832e1c18291f31c20132cf23612a065a012411181032a3b3e1195903234848818194903233c4881f1c71191d2531ef11df4011a280181d2c1cf1904910313496903032a4881a1c181942112a4c03a353182,[],[.eqA A5 (E8l 256 (.i .u8)) (.t 29) (.t 30)],[.cellN 2 3,.tmp 3],[cal B9U,cal D11,cal D3r,D8 A6N B3c]⟩
def B3y:=A6g.R
def C6h:=mR B3y A6g (tT []) n [a0] h
def B3b:=A6g.K Tryz.func26
def A6M:=A6g.S
def C2s:G0 B3y A6M:=B3b.flat
end
section
variable (n m m2:Nat) (a0 a1 x3 x6 x7:Val) (h:A9)
def B0k:FD A8:=⟨px 0X15001042100102,[],[],[.tmp 0],[]⟩
def C53:=B0k.R
def C9l:=mR C53 B0k (tT []) n [] h
def A0N:=B0k.K Tryz.func33
def oD:=B0k.S
def C48:G0 C53 oD:=A0N.flat
def B5E:FD A8:=⟨px 0X15f20102201034318400523103a2342,[],[],[.tmp 2],[D8 cL gD]⟩
def C1L:=B5E.R
def D1U:=mR C1L B5E (tT []) n [a0] h
def B5H:=B5E.K Tryz.func66
def A82:=B5E.S
def C6r:G0 C1L A82:=B5H.flat
def A3G:FD A8:=⟨px 0X11bf1118f204901a204128550020175c6019030111120265001a22403f0103631831d4203111103a3342,[],[],[.tmp 2,.tmp 3],[D8 A82 B5H,D8 oD A0N]⟩
def B0J:=A3G.R
def C4O:=mR B0J A3G (tT []) n [a0] h
def xI:=A3G.K Tryz.func30
def qO:=A3G.S
def B9M:G0 B0J qO:=xI.flat
def A6d:FD A8:=⟨px 0X11cf2004021e11e1a044006219f118f301182806182c7f5001031a361c719701921103a2342,[],[],[.tmp 2],[D8 qO xI]⟩
def B3m:=A6d.R
def C52:=mR B3m A6d (tT []) n [a0] h
def A6o:=A6d.K Tryz.func71
def vK:=A6d.S
def C2b:G0 B3m vK:=A6o.flat
def A0J:FD A8:=⟨px 0X11ff20381f02500001721ef7051e01e492181df300613901011113e1e11e1a051819f4041218421503070243134012129420060511010318351c31f1d18201314a174214a03a2342,[],[],[.tmp 2],[D8 vK A6o]⟩
def C54:=A0J.R
def C4h:AtH:=A0J.lj 0 n [m] [x3,x6,x7]
def C6C:=tT [⟨2,3,C4h⟩]
def C9m:=mR C54 A0J C6C n [a0] h
def B4L:=mL A0J C6C 0 n [m] [x3,x6,x7] h
def B0p:=A0J.K Tryz.func36
def A5a:=A0J.S
def C6q:A3Q C54 A5a:=B0p.out
def wV:FD A8:=⟨px 0X128f40301a1906192f1a02f1e12e2f1f2e2f701306195041f1a1e1f701010363181d00062340422e253182,[],[],[.tmp 4],[D8 A82 B5H]⟩
def A4S:=wV.R
def B9n:=mR A4S wV (tT []) n [a0,a1] h
def B20:=wV.K Tryz.func67
def A49:=wV.S
def B6u:G0 A4S A49:=B20.flat
def A3H:FD A8:=⟨px 0X11b139f12ef4049018250725c1018024901a250724c12e2a01b4618001e229f128f701182806282c1ff1d001133831e1c71f300001b201311114031c1e2800001f22403f042032a11e3191c43942033111140422e453182,[],[],[.tmp 4,.tmp 5,.tmp 6],[D8 A49 B20,D8 qO xI]⟩
def B0K:=A3H.R
def C4P:=mR B0K A3H (tT []) n [a0,a1] h
def B0q:=A3H.K Tryz.func31
def A3U:=A3H.S
def B9N:G0 B0K A3U:=B0q.flat
def A1z:FD A8:=⟨px 0X12af40301a190613b1a03b1e03a3b1f3a3b701301a190641f1a0111f2f1e31f3c1e1f701010363181f00062340422e253182,[],[],[.tmp 4],[D8 A82 B5H,D8 vK A6o]⟩
def A7G:=A1z.R
def C1K:=mR A7G A1z (tT []) n [a0,a1] h
def Z7:=A1z.K Tryz.func54
def X1:=A1z.S
def B71:G0 A7G X1:=Z7.flat
end
def P6(b n:Int):Bool:=decide (16<=b)&&decide (b<=512)&&decide (8<=n)&&decide (n<=128)&&decide (n%8=0)&&decide (2+n/8<b)
def H8:P6 b n=A5↔16<=b/\b<=512/\8<=n/\n<=128/\n%8=0/\2+n/8<b:=by
 unfold P6;simp [and_assoc]
def A1e:P6 b n=A6↔¬ (16<=b/\b<=512/\8<=n/\n<=128/\n%8=0/\2+n/8<b):=by
 rw [<-H8];simp
abbrev L5(b n m:Int):List Cell:=[cI b,cI n,.i .u64 m]
def aX:cL [.a (L5 b n m)] h=A4 (iV (bif P6 b n then 0 else 1),h):=by
 have key:∀ g,∃ g',A7S 0 [.a (L5 b n m)] g=A4 (iV (bif P6 b n then 0 else 1),g'):=by
  intro g;rw [C12];have bad:P6 b n=A6->(A4 (iV 1,g++[rT (L5 b n m)]))=A4 (iV (bif P6 b n then 0 else 1),g++[rT (L5 b n m)]):=λh=>by rw [h];rfl
  by_cases c1:b<16
  ·rw [A1e.2 (by omega)];exact ⟨_,by simp only [esc,esh,c1,X9]<;>rfl⟩
  ·by_cases c2:512<b
   ·rw [A1e.2 (by omega)];exact ⟨_,by simp only [esc,esh,c1,c2,X9]<;>rfl⟩
   ·by_cases c3:n<8
    ·rw [A1e.2 (by omega)];exact ⟨_,by simp only [esc,esh,c1,c2,c3,X9,gA]<;>rfl⟩
    ·by_cases c4:128<n
     ·rw [A1e.2 (by omega)];exact ⟨_,by simp only [esc,esh,c1,c2,c3,c4,X9,gA]<;>rfl⟩
     ·have e1:=D5n (a:=n) (b:=8) (k:=.i64) (by omega) (by omega);by_cases c5:n%8=0
      ·have e2:=B1M (a:=n) (b:=8) (by omega) (by omega) (by omega);have e3:E8r .i64 (2+n/8)=2+n/8:=wrap_i64 (by omega) (by omega);by_cases c6:b<=2+n/8
       ·rw [A1e.2 (by omega)];exact ⟨_,by simp only [esc,esh,c1,c2,c3,c4,e1,c5,e2,e3,c6,X9,gA]<;>rfl⟩
       ·rw [H8.2 (by omega)];exact ⟨_,by simp only [esc,esh,c1,c2,c3,c4,e1,c5,e2,e3,c6,X9,gA]<;>rfl⟩
      ·rw [A1e.2 (by omega)];exact ⟨_,by simp only [esc,esh,c1,c2,c3,c4,e1,c5,X9,gA]<;>rfl⟩
 obtain ⟨g',e⟩:=key (ro h);exact B8g e (by simp)
def pD:A82 [.a (L5 b n m)] h=A4 (bV (P6 b n),h):=by
 have key:∀ g,∃ g',C1L 0 [.a (L5 b n m)] g=A4 (bV (P6 b n),g'):=by
  intro g;rw [D1U];cases c:P6 b n with
  | true=>exact ⟨_,by simp only [esc,esh,Nat.reduceAdd,aX,c]<;>rfl⟩
  | false=>exact ⟨_,by simp only [esc,esh,Nat.reduceAdd,aX,c,Int.reduceEq]<;>rfl⟩
 obtain ⟨g',e⟩:=key (ro h);exact C6r e (by simp)
def pC:oD [] h=A4 (iV 1,h) :=
 C48 (n:=0) (h2:=ro h) (by rw [C9l]) rfl
def bO(b n:Int):Int:=bif P6 b n then 2 else 0
def nN(b n:Int):Int:=bif P6 b n then n/8 else 0
def aR(b n:Int):Int:=bO b n+nN b n
def A1R:qO [.a (L5 b n m)] h=A4 (.t [.c (cI (bO b n)),.c (cI (nN b n))],h):=by
 have key:∀ g,∃ g',B0J 0 [.a (L5 b n m)] g=A4 (.t [.c (cI (bO b n)),.c (cI (nN b n))],g'):=by
  intro g;rw [C4O];unfold bO nN;cases c:P6 b n with
  | true =>
   have c':=H8.1 c;have e2:=B1M (a:=n) (b:=8) (by omega) (by omega) (by omega);have e3:E8r .i64 (1+1)=2:=wrap_i64 (by omega) (by omega);exact ⟨_,by simp only [esc,esh,Nat.reduceAdd,pD,c,pC,e2,e3]<;>rfl⟩
  | false=>exact ⟨_,by simp only [esc,esh,Nat.reduceAdd,pD,c]<;>rfl⟩
 obtain ⟨g',e⟩:=key (ro h);exact B9M e (by simp)
def oX:0<=aR b n/\aR b n<=18:=by
 unfold aR bO nN;cases c:P6 b n with
 | true=>have:=H8.1 c;simp only [S8];omega
 | false=>simp only [bZ];omega
def A38:vK [.a (L5 b n m)] h=A4 (iV (aR b n),h):=by
 have key:∀ g,∃ g',B3m 0 [.a (L5 b n m)] g=A4 (iV (aR b n),g'):=by
  intro g;rw [C52];have hr:=oX (b:=b) (n:=n);have e3:E8r .i64 (bO b n+nN b n)=aR b n:=wrap_i64 (by unfold aR at hr;omega) (by unfold aR at hr;omega);exact ⟨_,by simp only [esc,esh,Nat.reduceAdd,A1R,e3]<;>rfl⟩
 obtain ⟨g',e⟩:=key (ro h);exact C2b e (by simp)
def Q2(b n i:Int):Bool:=P6 b n&&decide (1<=i)&&decide (i<=n)
def G7(b n i:Int):Bool:=P6 b n&&decide (aR b n<=i)&&decide (i<b)
def B2e:A49 [.a (L5 b n m),iV i] h=A4 (bV (Q2 b n i),h):=by
 have key:∀ g,∃ g',A4S 0 [.a (L5 b n m),iV i] g=A4 (bV (Q2 b n i),g'):=by
  intro g;rw [B9n];unfold Q2;cases c:P6 b n with
  | true =>
   by_cases c1:1<=i
   ·exact ⟨_,by simp only [esc,esh,Nat.reduceAdd,pD,c,c1]<;>rfl⟩
   ·exact ⟨_,by simp only [esc,esh,Nat.reduceAdd,pD,c,c1]<;>rfl⟩
  | false=>exact ⟨_,by simp only [esc,esh,Nat.reduceAdd,pD,c]<;>rfl⟩
 obtain ⟨g',e⟩:=key (ro h);exact B6u e (by simp)
def X8:X1 [.a (L5 b n m),iV i] h=A4 (bV (G7 b n i),h):=by
 have key:∀ g,∃ g',A7G 0 [.a (L5 b n m),iV i] g=A4 (bV (G7 b n i),g'):=by
  intro g;rw [C1K];unfold G7;cases c:P6 b n with
  | true =>
   by_cases c1:aR b n<=i
   ·exact ⟨_,by simp only [esc,esh,Nat.reduceAdd,pD,A38,c,c1]<;>rfl⟩
   ·exact ⟨_,by simp only [esc,esh,Nat.reduceAdd,pD,A38,c,c1]<;>rfl⟩
  | false=>exact ⟨_,by simp only [esc,esh,Nat.reduceAdd,pD,c]<;>rfl⟩
 obtain ⟨g',e⟩:=key (ro h);exact B71 e (by simp)
def aY(b n i:Int):Int:=bif Q2 b n i then 2+(i-1)/8 else 0
def kI(b n i:Int):Int:=bif Q2 b n i then (i-1)%8 else 0
def M8:Q2 b n i=A5↔P6 b n=A5/\1<=i/\i<=n:=by
 unfold Q2;simp [and_assoc]
def vX:G7 b n i=A5↔P6 b n=A5/\aR b n<=i/\i<b:=by
 unfold G7;simp [and_assoc]
def A8q:A3U [.a (L5 b n m),iV i] h=A4 (.t [.c (cI (aY b n i)),.c (cI (kI b n i)),.c (.b (Q2 b n i))],h):=by
 have key:∀ g,∃ g',B0K 0 [.a (L5 b n m),iV i] g=A4 (.t [.c (cI (aY b n i)),.c (cI (kI b n i)),.c (.b (Q2 b n i))],g'):=by
  intro g;rw [C4P];unfold aY kI;cases c:Q2 b n i with
  | true =>
   obtain ⟨c1,c2,c3⟩:=M8.1 c;have c':=H8.1 c1;have e0:bO b n=2:=by unfold bO;rw [c1];rfl
   have e1:E8r .i64 (i-1)=i-1:=wrap_i64 (by omega) (by omega);have e2:=B1M (a:=i-1) (b:=8) (by omega) (by omega) (by omega);have e3:E8r .i64 (2+(i-1)/8)=2+(i-1)/8:=wrap_i64 (by omega) (by omega);have e4:=D5n (a:=i-1) (b:=8) (k:=.i64) (by omega) (by omega);exact ⟨_,by simp only [esc,esh,Nat.reduceAdd,B2e,c,A1R,e0,e1,e2,e3,e4]<;>rfl⟩
  | false=>exact ⟨_,by simp only [esc,esh,Nat.reduceAdd,B2e,c]<;>rfl⟩
 obtain ⟨g',e⟩:=key (ro h);exact B9N e (by simp)
def C3p:0<=bO b n/\bO b n<=2/\0<=nN b n/\nN b n<=16:=by
 unfold bO nN;cases c:P6 b n with
 | true=>have:=H8.1 c;simp only [S8];omega
 | false=>simp only [bZ];omega
def upto(d:Nat):List Int:=(E8T d).map λ(i:Nat)=>(i:Int)
def upto_length{d:Nat}:(upto d).length=d:=by simp [upto]
def upto_succ{d:Nat}:upto (d+1)=upto d++[(d:Int)]:=by simp [upto,List.range_succ]
def B7m{D k:Nat}(hD:D<=18):∀ d i m h id,i+d=D->d<m->Low (l_ g) g h->l_ g<=id->rd h id=rT (encI (upto i)) ->
  ∃ v' h',C4h k m (sV id 0 i 1) (iV D) (iV i) h=A4 (v',h')/\Out (l_ g) h' v' 1 D (encI (upto D))
 | d,i,0,h,id,_,hm,_,_,_=>by omega
 | 0,i,m+1,h,id,hi,hm,hlow,hb,hr=>by
  have e:i=D:=by omega
  subst e;have h1':¬ (i:Int)<i:=by omega
  rw [B4L];exact ⟨_,_,by simp only [esc,h1']<;>rfl,by rw [C1,upto_length];omega,id,rfl,hb,hr⟩
 | d+1,i,m+1,h,id,hi,hm,hlow,hb,hr=>by
  obtain ⟨h',a1,a2,a3,a4,a5⟩:=push (ys:=[cI (i:Int)]) (sz:=1) (n:=i) hlow hr (by rw [C1,upto_length];omega) hb rfl (by omega) (by omega);have e4:encI (upto i)++[cI (i:Int)]=encI (upto (i+1)):=by rw [upto_succ,jM];rfl
  rw [e4] at a2;obtain ⟨v',h'',b1,b2⟩:=B7m (k:=k) hD d (i+1) m h' (l_ h+1) (by omega) (by omega) a3 a4 a2;have h1':(i:Int)<D:=by omega
  have e5:F6 [o0] [(0,1,iV (i:Int))]=A4 [cI (i:Int)]:=rfl;rw [B4L];exact ⟨v',h'',by simp only [esc,h1',e5,a1,E2 (a:=i) (by omega)];exact b1,b2⟩
def B4K:A5a [.a (L5 b n m)] h=A4 (sV (l_ h) 0 (aR b n).toNat 1,h++[rT (encI (upto (aR b n).toNat))]):=by
 have hr:=oX (b:=b) (n:=n);obtain ⟨v',h',e,ho⟩:=B7m (g:=ro h) (D:=(aR b n).toNat) (k:=(aR b n).toNat+1) (by omega) (aR b n).toNat 0 ((aR b n).toNat+1) (ro h++[rT (L5 b n m),rT [],rT []]) ((ro h).length+2) (by omega) (by omega) ((Low.refl (E8m _)).new _) (by omega) (by simp;rfl);refine C6q (n:=(aR b n).toNat+1) (v:=v') (h2:=h') ?_ (by simpa [G8] using ho) (by simp);rw [C9m];rw [show (((aR b n).toNat:Nat):Int)=aR b n by omega] at e;simp only [esc,esh,Nat.reduceAdd,A38];exact e
def B7c(b n no:Int):Int:=if P6 b n=A5/\0<=no/\no<b then (if no<2 then no+1 else if (no-2)*8<n then 3 else 4) else 0
def E0L{id off len sz:Nat}{cs:List Cell}(hr:rd h id=rT cs)(hn:0<len):B2a h (sV id off len sz)=A4 (sV id off len sz):=by
 simp [B2a,hr,hn]
def magicB:List UInt8:=[101,115,99,104,101,97,116,49]
def A8z(b n m:Int):List UInt8:=magicB++D6 2 b++D6 2 n++D6 8 m
def wO(b n m:Int):List UInt8:=R2 256 (A8z b n m++D6 4 (C5r (A8z b n m):Nat))
def cU:(A8z b n m).length=20:=by simp [A8z,magicB]
def cS:(wO b n m).length=256:=I7 (by rw [E8o,cU,R4];omega)
def E13{xs:List UInt8}{a:Nat}(h1:l_ l<=a)(h2:a+l_ xs<=256)(h3:a<256):B1F (R2 256 l) a xs=R2 256 (l++zeros (a-l_ l)++xs):=by
 unfold B1F;rw [C4 (by omega)];simp only [E8D];rw [E8B (by omega),D5a h1 h2]
def C1n(hm0:0<=m)(hm1:m<18446744073709551616):
  A6N [.a (L5 b n m)] h=A4 (.t [.a (B4 (bif P6 b n then wO b n m else zeros 256)),.c (cI (bif P6 b n then 0 else 1))],h):=by
 have key:∀ g,∃ g',B3z 0 [.a (L5 b n m)] g=A4 (.t [.a (B4 (bif P6 b n then wO b n m else zeros 256)),.c (cI (bif P6 b n then 0 else 1))],g'):=by
  intro g;have hz:(B4 (zeros 256)).length=256:=by rw [B5];exact zeros_length
  have haf:F6 (E8l 256 (Cell.i .u8 0)) []=A4 (E8l 256 (Cell.i .u8 0)):=rfl;rw [G9] at haf;rw [C6i,G9];cases c:P6 b n with
  | false =>
   simp only [bZ];generalize zeros 256=z at *;exact ⟨_,by simp only [esc,esh,Nat.reduceAdd,aX,c,haf,hz,Int.reduceEq]<;>rfl⟩
  | true =>
   simp only [S8];have e7:F6 [Cell.i .u8 0,.i .u8 0,.i .u8 0,.i .u8 0,.i .u8 0,.i .u8 0,.i .u8 0,.i .u8 0] [(0,1,.c (.i .u8 101)),(1,1,.c (.i .u8 115)),(2,1,.c (.i .u8 99)),(3,1,.c (.i .u8 104)),(4,1,.c (.i .u8 101)),(5,1,.c (.i .u8 97)),(6,1,.c (.i .u8 116)),(7,1,.c (.i .u8 49))]=A4 (B4 magicB):=rfl;have hmk:=E0L (h:=g++[rT (L5 b n m),rT (B4 (zeros 256)),rT (B4 magicB)]) (id:=l_ g+2) (off:=0) (len:=8) (sz:=1) (cs:=B4 magicB) (by simp) (by omega);have ho:=B55 (h:=g++[rT (L5 b n m),rT (B4 (zeros 256)),rT (B4 magicB)]) (v:=sV (l_ g+2) 0 8 1) (nv:=8) (data:=magicB) (Has.tr (by simp) (by simp [B5,magicB]) (V6 _)) (by decide);rw [D2X (by decide)] at ho;have lm:magicB.length=8:=rfl;have w1:=λh=>aW (h:=h) (l:=R2 256 magicB) (I7 (by decide)) (a:=8) (w:=2) (v:=b)
   have e1:=lU (l:=magicB) (a:=8) (w:=2) (v:=b) (by decide) (by omega) (by omega) (by omega);simp only [lm,E9t,show zeros 0=[] from rfl,E8C,E9B] at e1;simp only [e1] at w1;have l1:(magicB++D6 2 b).length=10:=by simp [lm]
   have w2:=λh=>aW (h:=h) (l:=R2 256 (magicB++D6 2 b)) (I7 (by omega)) (a:=10) (w:=2) (v:=n)
   have e2:=lU (l:=magicB++D6 2 b) (a:=10) (w:=2) (v:=n) (by omega) (by omega) (by omega) (by omega);simp only [l1,E9t,show zeros 0=[] from rfl,E8C,E9B] at e2;simp only [e2] at w2;have l2:(magicB++D6 2 b++D6 2 n).length=12:=by simp [lm]
   have L0:(B4 (R2 256 magicB)).length=256:=by rw [B5,I7 (by decide)]
   have L1:(B4 (R2 256 (magicB++D6 2 b))).length=256:=by rw [B5,I7 (by omega)]
   have L2:(B4 (R2 256 (magicB++D6 2 b++D6 2 n))).length=256:=by rw [B5,I7 (by omega)]
   have L3:(B4 (R2 256 (A8z b n m))).length=256:=by rw [B5,I7 (by rw [cU];omega)]
   have L4:(B4 (wO b n m)).length=256:=by rw [B5,cS]
   have mk8:C5h (iV 8) (iV 8)=A4 8:=rfl;have hp:=D64 (h:=g++[rT (L5 b n m),rT (B4 (zeros 256)),rT (B4 magicB),rT (B4 (R2 256 (magicB++D6 2 b++D6 2 n))),rT (B4 (zeros 8))]) (x:=sV (l_ g+4) 0 8 1) (nv:=8) (l:=zeros 8) (a:=0) (w:=8) (v:=m) (Has.tr (by simp) (by simp [B5]) (V6 _)) (by simp);have ep:C5u (zeros 8) 0 8 m=A4 (D6 8 m):=by
    unfold C5u;rw [C4 ⟨by omega,by decide⟩];unfold H7;simp [zeros]
   rw [ep] at hp;simp only [Option.getD_some,E87,R4] at hp;have hl:=B1H (h:=g++[rT (L5 b n m),rT (B4 (zeros 256)),rT (B4 magicB),rT (B4 (R2 256 (magicB++D6 2 b++D6 2 n))),rT (B4 (zeros 8)),rT (B4 (D6 8 m))]) (v:=sV (l_ g+5) 0 8 1) (nv:=8) (data:=D6 8 m) (l:=R2 256 (magicB++D6 2 b++D6 2 n)) (a:=12) (Has.tr (by simp) (by simp [B5]) (V6 _)) (I7 (by omega)) (by simp);have e3:=E13 (l:=magicB++D6 2 b++D6 2 n) (xs:=D6 8 m) (a:=12) (by omega) (by simp) (by omega);simp only [l2,E9t,show zeros 0=[] from rfl,E8C,E9B] at e3;rw [e3] at hl;have hc:=λh=>B1G (h:=h) (l:=R2 256 (A8z b n m)) (I7 (by rw [cU];omega)) (a:=0) (n:=20)
   have e4:B2T (R2 256 (A8z b n m)) 0 20=A8z b n m:=by
    unfold B2T R2;rw [C4 (by omega)];simp only [Int.toNat_zero,E8y];exact List.take_left' cU
   simp only [e4,cU] at hc;have E7L:=(Has.tr (h:=g++[rT (L5 b n m),rT (B4 (zeros 256)),rT (B4 magicB),rT (B4 (R2 256 (A8z b n m))),rT (B4 (zeros 8)),rT (B4 (D6 8 m)),rT (B4 (A8z b n m))]) (id:=l_ g+6) (sz:=1) (n:=20) (cs:=B4 (A8z b n m)) (by simp) (by rw [B5,cU]) (V6 _)).str;have hmx:=λh=>C26 (s:=A8z b n m) (h:=h) (by rw [cU];omega)
   have E8f:=D2N (s:=A8z b n m);have e5:E8r .i64 ((C5r (A8z b n m):Nat):Int)=(C5r (A8z b n m):Nat):=wrap_i64 (by omega) (by omega);have w3:=λh=>aW (h:=h) (l:=R2 256 (A8z b n m)) (I7 (by rw [cU];omega)) (a:=20) (w:=4) (v:=(C5r (A8z b n m):Nat))
   have e6:=lU (l:=A8z b n m) (a:=20) (w:=4) (v:=(C5r (A8z b n m):Nat)) (by rw [cU];omega) (by omega) (by omega) (by omega);simp only [cU,E9t,show zeros 0=[] from rfl,E8C,E9B] at e6;simp only [e6] at w3;have eS:magicB++D6 2 b++D6 2 n++D6 8 m=A8z b n m:=rfl;rw [eS] at hl;have rz:=C3k 8;change ∀ h,uJ [_,_,_,_] h=A4 (.a (B4 (wO b n m)),h) at w3;generalize wO b n m=SB at *;generalize R2 256 magicB=P0 at *;generalize R2 256 (magicB++D6 2 b)=P1 at *;generalize R2 256 (magicB++D6 2 b++D6 2 n)=P2 at *;generalize R2 256 (A8z b n m)=P3 at *;simp only [esc] at hp;generalize zeros 256=z at *;generalize zeros 8=z8 at *;exact ⟨_,by simp only [esc,esh,Nat.reduceAdd,aX,c,e7,hmk,ho,hz,L0,w1,L1,w2,L2,mk8,rz,hp,hl,L3,hc,E7L,hmx,e5,w3,L4]<;>rfl⟩
 obtain ⟨g',e⟩:=key (ro h);exact C2t e (by simp)
def D3I{b:List UInt8}{a w:Nat}(hb:l_ b=256)(h1:a+w<=256)(hw:1<=w)(hw4:w<=4):((atN b a w:Nat):Int)=fieldN b a w:=by
 unfold atN fieldN;rw [C4 ⟨by omega,Y7.2 (by omega)⟩];simp only [E8D]
def E1I{b:List UInt8}(hb:l_ b=256):E1H (B2T b 12 8) 0 8=A4 (le ((b.drop 12).take 8)):=by
 have hc:B2T b 12 8=(b.drop 12).take 8:=by
  unfold B2T;rw [C4 (by omega)];rfl
 have hl:((b.drop 12).take 8).length=8:=by simp;omega
 unfold E1H;rw [hc,hl,C4 ⟨by omega,by decide⟩];simp only [Int.toNat_zero,E8y];rw [E8B (by rw [hl];decide)]
def okS(b:List UInt8):Bool:=P6 (fieldN b 8 2) (fieldN b 10 2)&&decide (wO (fieldN b 8 2) (fieldN b 10 2) (fieldN b 12 8)=b)
def D2C(b:List UInt8):List Cell:=bif okS b then L5 (fieldN b 8 2) (fieldN b 10 2) (fieldN b 12 8) else L5 0 0 0
def C0k(b:List UInt8):0<=fieldN b 12 8/\fieldN b 12 8<18446744073709551616:=by
 unfold fieldN;have h1:=D4F ((b.drop 12).take 8);have h2:((b.drop 12).take 8).length<=8:=by simp;omega
 have h3:=B58 h2;have h4:(256:Nat) ^ 8=18446744073709551616:=by decide
 omega
def B1V{b:List UInt8}(hb:l_ b=256):A6M [.a (B4 b)] h=A4 (.t [.a (D2C b),.c (cI (bif okS b then 0 else 13))],h):=by
 have key:∀ g,∃ g',B3y 0 [.a (B4 b)] g=A4 (.t [.a (D2C b),.c (cI (bif okS b then 0 else 13))],g'):=by
  intro g;have hl:(B4 b).length=256:=by rw [B5,hb]
  have hc:=B1G (h:=g++[rT (B4 b),rT (L5 0 0 0)]) hb (a:=12) (n:=8);have pE:(B2T b 12 8).length=8:=by unfold B2T;rw [C4 (by omega)];simp;omega
  rw [pE] at hc;have hg:=D63 (h:=g++[rT (B4 b),rT (L5 0 0 0),rT (B4 (B2T b 12 8))]) (v:=sV (l_ g+2) 0 8 1) (nv:=8) (l:=B2T b 12 8) (Has.tr (by simp) (by rw [B5,pE]) (V6 _)) (a:=0) (w:=8) (by rw [pE];omega);rw [E1I hb] at hg;simp only [Option.getD_some,E87] at hg;have a1:=λh=>rA (h:=h) hb (a:=8) (w:=2)
  have a2:=λh=>rA (h:=h) hb (a:=10) (w:=2)
  have f1:=D3I (a:=8) (w:=2) hb (by omega) (by omega) (by omega);have f2:=D3I (a:=10) (w:=2) hb (by omega) (by omega) (by omega);simp only [E9B] at f1 f2;simp only [f1] at a1;simp only [f2] at a2;have e12:((le ((b.drop 12).take 8):Nat):Int)=fieldN b 12 8:=rfl;rw [e12] at hg;have ef:∀ x y z:Int,F6 (L5 0 0 0) [(0,1,iV x),(1,1,iV y),(2,1,.c (.i .u64 z))]=A4 (L5 x y z):=λ_ _ _=>rfl
  have ef0:F6 (L5 0 0 0) []=A4 (L5 0 0 0):=rfl;have hp:=λh=>C1n (b:=fieldN b 8 2) (n:=fieldN b 10 2) (m:=fieldN b 12 8) (h:=h) (C0k b).1 (C0k b).2
  have hz:(E8l 256 (Cell.i .u8 0)).length=256:=E8S;have hS:(B4 (wO (fieldN b 8 2) (fieldN b 10 2) (fieldN b 12 8))).length=256:=by rw [B5,cS]
  have hZ:(B4 (zeros 256)).length=256:=by rw [B5];exact zeros_length
  have hq:=D0r (l:=wO (fieldN b 8 2) (fieldN b 10 2) (fieldN b 12 8)) (m:=b) (n:=256) cS hb;simp only [esc] at hc;rw [C6h];unfold D2C okS;generalize E8l 256 (Cell.i .u8 0)=z at *;cases c:P6 (fieldN b 8 2) (fieldN b 10 2) with
  | false =>
   simp only [c,bZ] at hp;generalize zeros 256=zz at *;exact ⟨_,by simp only [esc,esh,Nat.reduceAdd,hl,hc,hg,a1,a2,ef,ef0,hp,hz,hZ,E8E,Int.reduceEq]<;>rfl⟩
  | true =>
   simp only [c,S8] at hp;cases c2:decide (wO (fieldN b 8 2) (fieldN b 10 2) (fieldN b 12 8)=b) with
   | false =>
    rw [c2] at hq;exact ⟨_,by simp only [esc,esh,Nat.reduceAdd,hl,hc,hg,a1,a2,ef,ef0,hp,hz,hS,hq,Bool.and_false]<;>rfl⟩
   | true =>
    rw [c2] at hq;exact ⟨_,by simp only [esc,esh,Nat.reduceAdd,hl,hc,hg,a1,a2,ef,ef0,hp,hz,hS,hq]<;>rfl⟩
 obtain ⟨g',e⟩:=key (ro h);refine C2s e ?_;unfold D2C;cases okS b<;>simp
section
variable (n m m2:Nat) (a0 a1 a2 x2 x3 x6 x7 x8:Val) (h:A9)
def A1w:FD A8:=⟨px 0X11b128f11cf2003b1b2058490182714901a271b0190201312b112031c75001e22401b61928889041e1a71e70110127162d4203312b11203042,[.c (.i .u8 0),.c (.i .u8 1)],[],[.tmp 2,.tmp 3,.tmp 4],[]⟩
def B6Y:=A1w.R
def A8L:=mR B6Y A1w (tT []) n [a0] h
def A7s:=A1w.K Tryz.func121
def sU:=A1w.S
def A45:G0 B6Y sU:=A7s.flat
def pT:FD A8:=⟨px 0X126e48867c488491c21110132022a1a4c14882d042822e10403c14882d2a280718022a1a7a14882d041d25c10406a14882d583b0718243af390683a026b406202438f2e003f3c2f035d2452820522201301a1ff11ef11df7021a2811828061d2c1cf1a001032c1b0192b291f01d21c61b632e21d753282,[],[],[.cellN 6 256],[D8 sU A7s]⟩
def B0A:=pT.R
def C9C:AtH:=pT.lj 0 n [] [x3,x6]
def B90:=tT [⟨1,2,C9C⟩]
def C4G:=mR B0A pT B90 n [a0,a1,a2] h
def C2I:=mJ pT B90 0 n [] [x3,x6] h
def B88:=pT.K Tryz.func70
def B0Z:=pT.S
def B9E:G0 B0A B0Z:=B88.flat
def pS:FD A8:=⟨px 0X123c48863a488281c2111112321ff18051e0221822e48861b043032812a4881c1c4181bf500441811d31842150307024513401212b4200605110297603291f1d1c20131c4c17421c21b150182,[],[],[.cellN 2 256],[D8 B0Z B88]⟩
def B0z:=pS.R
def B7f:AtH:=pS.lj 0 n [m] [x2,x3,x6,x7,x8]
def B9Z:=tT [⟨2,5,B7f⟩]
def C4F:=mR B0z pS B9Z n [a0] h
def A9q:=mL pS B9Z 0 n [m] [x2,x3,x6,x7,x8] h
def A3O:=pS.K Tryz.func34
def qK:=pS.S
def B9D:G0 B0z qK:=A3O.flat
def A6b:FD A8:=⟨px 0X12ef40301e192b033f1a041e3f1a3a3f703f1e03e14883f6a2e3f7011e1e01a600001721df11cf11bf5021a2811828061b2c1af180010328190191f1d1b01d2340422e253182,[.c (.i .u8 0)],[],[.tmp 4],[D8 sU A7s]⟩
def B3f:=A6b.R
def C5Z:=mR B3f A6b (tT []) n [a0,a1] h
def C3y:=A6b.K Tryz.func110
def B3P:=A6b.S
def C17:G0 B3f B3P:=C3y.flat
end
section
variable (n m m2:Nat) (a0 x1 x2 x3 x4 x6 x7 x8 x17 x33 x34 x44 x45:Val) (h:A9)
def A1E:FD A8:=⟨px 0X118f20306197ffffd0191b1a71b701104261700523201042,[],[],[.tmp 2],[]⟩
def B60:=A1E.R
def C1U:=mR B60 A1E (tT []) n [a0] h
def B6R:=A1E.K Tryz.func169
def A75:=A1E.S
def B8b:G0 B60 A75:=B6R.flat
def eW:FD A8:=⟨px 0X124a76487182112022a393e172d041a3e282b4222202321ff18051e02218022a42e172d281281c04181bf11af4061867a414181a1821503070245133901212b420060511061841a62b3291f18203394c1742394c03a253182,[],[],[.cellN 2 7],[]⟩
def A2S:=eW.R
def A9S:AtH:=eW.lj 0 n [m] [x1,x2,x3,x7,x8]
def B19:=tT [⟨2,5,A9S⟩]
def B7R:=mR A2S eW B19 n [a0] h
def A3o:=mL eW B19 0 n [m] [x1,x2,x3,x7,x8] h
def tZ:=eW.K Tryz.func109
def eX:=eW.S
def B3Y:G0 A2S eX:=tZ.flat
def lC:FD A8:=⟨px 0X11201026bf5d051c06b4921801520150000722403f01034f68031cd0525ff404677a219421503070242133d01211bd42006051101131f1b5b1c31bb1b9182013015201500622401b181949c8890519c1a019c1e21f19c1f0101b181910118a1a018a1e21f18a1f0101b1a1906e4d0106e2f06e1e36e6e1f0103f01030415c2f2b2c1ad422053015201500622401b2a1930183a7b04b4e03b4b6d4a1b4b3c03a71023a1a03a1e03a3a1f0101b18191905281a0281e028281f0110120401852b2a5d42031103a2342,[],[.eqA A5 ([.i .i64,.i .i64,.i .i64,.i .i64,.i .i64,.i .i64,.i .i64,.i .i64,.i .i64,.i .i64,.i .i64]) (.t 18) (.t 19)],[.tmp 2],[D8 A75 B6R,D8 eX tZ]⟩
def A7N:=lC.R
def B40:AtH:=lC.lj 0 n [m] [x44,x45]
def B68:=tT [⟨2,2,B40⟩]
def C1S:=mR A7N lC B68 n [a0] h
def A7h:=mL lC B68 0 n [m] [x44,x45] h
def B6P:=lC.K Tryz.func148
def A73:=lC.S
def B79:G0 A7N A73:=B6P.flat
def jG:FD A8:=⟨px 0X113022f4864f486e1c3711111726df5d052802218022a184f1482d0406f14882d1a8119e6806185ff1904122b4235032702441328901211bd420162515d011bb78182222222335cf4a052c0221826f488601941a41318c105902019627f16f4884e1c7184df14cf7061877a4146e781821503070245133d012118f42006051101237e1b18318d18b18201326a48860194964130437855c4881850225a48860292964130426854c4881850224a48860191964130415853c4881850223a488605164130404852c488281c5021c61b11d19411d2011ff3003a4862c12c48184711101722410321e1c023b421bf5001032a1b1a1c31b42031d4c11942111d4c03a353182,[],[],[.cellN 2 32,.tmp 3],[D8 A73 B6P,D8 uJ A4B,D8 eX tZ]⟩
def B3s:=jG.R
def C0F:AtH:=jG.lj 0 n [m] [x2,x4,x6,x33,x34]
def C0G:AtH:=jG.lj 1 n [m] [x2,x4,x6,x45]
def B37:=tT [⟨2,5,C0F⟩,⟨2,4,C0G⟩]
def C59:=mR B3s jG B37 n [a0] h
def B2n:=mL jG B37 0 n [m] [x2,x4,x6,x33,x34] h
def B2o:=mL jG B37 1 n [m] [x2,x4,x6,x45] h
def B24:=jG.K Tryz.func119
def A6I:=jG.S
def C2h:G0 B3s A6I:=B24.flat
def vE:FD A8:=⟨px 0X127c1b6781b182112022a1a6e5191b903136c4883d1c42210323cf29052e02218422a1e0162d45c51901831305902019624a14c488183e2c019182bf504123a421503070244133901214d4200605129014b420328f21b613b045a0136121a111e1043b3b194903132e48818292903132a48818191903131e488185103131a488181c1a11919437f248861c31b0103067d470523b4c03a253182,[],[.slA 32 1 (.t 1) A7 A7],[.cellN 2 11],[D8 A85 B27,D8 A2e A8G]⟩
def B3r:=vE.R
def C0D:AtH:=vE.lj 0 n [m] [x2,x3,x4,x17]
def C3L:=tT [⟨2,4,C0D⟩]
def C58:=mR B3r vE C3L n [a0] h
def B2m:=mL vE C3L 0 n [m] [x2,x3,x4,x17] h
def C3A:=vE.K Tryz.func140
def B3X:=vE.S
def C2g:G0 B3r B3X:=C3A.flat
def A1D:FD A8:=⟨px 0X11b302581b64c1b2e1c3020133024e1b603b3b3711622401b18190484e4a48483c3848483c011032281e07592200721df11cf24861d51b11828061c2c1bf19001131c1b1a1c181d1b61c201318f21b63b41b01031c4871c41942313b4c03a353182,[],[.eqA A5 (E8l 32 (.i .u8)) (.t 17) (.t 18)],[.cellN 2 11,.tmp 3],[D8 B3X C3A,D8 A6I B24]⟩
def A7O:=A1D.R
def C1T:=mR A7O A1D (tT []) n [a0] h
def B6Q:=A1D.K Tryz.func99
def A74:=A1D.S
def B8a:G0 A7O A74:=B6Q.flat
def wW:FD A8:=⟨px 0X11cf20288901a25072288900271905020118b9201500622418f6049c88905277031d401921120120062245f305012740374205031201042,[],[],[.tmp 2],[]⟩
def B3q:=wW.R
def B9q:=mR B3q wW (tT []) n [a0] h
def A4A:=wW.K Tryz.func72
def yF:=wW.S
def B6w:G0 B3q yF:=A4A.flat
end
section
variable (n m m2:Nat) (a0 a1 x2 x3 x4 x12 x13 x14:Val) (h:A9)
def A1G:FD A8:=⟨px 0X1120102011920150522401b1c190654c1a0288974c1a4c4c704c1e04c4c1f0101b18191013a1a03a1e03a3a1f0101b6192889052a1a1e2a701501218702a694200236f30029041642b47421103a2342,[],[],[.tmp 2],[]⟩
def A7Q:=A1G.R
def C10:=mR A7Q A1G (tT []) n [a0] h
def B6T:=A1G.K Tryz.func120
def A77:=A1G.S
def B8f:G0 A7Q A77:=B6T.flat
def vH:FD A8:=⟨px 0X125c4886684883a1c2111110043239f1e052e02218022a45c14882d4a10402481040482b2b7182af128f500461a11d4152a2c182150307024613401213f42006051102904128543d3b3972825430121c488628488182100032241032010318271c32b42031c4c43a422e319751c2,[],[],[.cellN 4 256],[D8 A77 B6T]⟩
def B3w:=vH.R
def C1b:AtH:=vH.lj 0 n [m] [x2,x3,x4,x12,x13,x14]
def C3N:=tT [⟨2,6,C1b⟩]
def C6g:=mR B3w vH C3N n [a0,a1] h
def B2u:=mL vH C3N 0 n [m] [x2,x3,x4,x12,x13,x14] h
def B28:=vH.K Tryz.func69
def A6L:=vH.S
def C6B:SOk A8 69 A6L:=B28.sok
def C2q:G0 B3w A6L:=B28.flat
end
section
variable (n m m2:Nat) (a0 a1 a2 x1 x2 x4 x5 x6 x14:Val) (h:A9)
def A1I:FD A8:=⟨px 0X115026a26011181022d3b0413903800013e28906273801802012ff5004e2648102d3b44811101722410323a2c025b01823132bf12af24861d61b11828062a2c29f1f001033a1b281c181f1d111d201195022c2602d3b3281000722401b61949042c1a72c7011012718063b4203112d4c432e319701c2,[],[.slA 32 1 (.t 6) A7 A7],[.cellN 4 2,.tmp 5],[D8 A6I B24]⟩
def A7U:=A1I.R
def C14:=mR A7U A1I (tT []) n [a0,a1] h
def B6W:=A1I.K Tryz.func68
def A8b:=A1I.S
def B8i:D0q A7U A8b:=B6W.tidy
def A3L:FD A8:=⟨px 0X11702484886042133a2184a4882c1c502012bf7003a48862c13e4881842c11101722410321e28024b01823131ff11ef2262d181b11a280181e2c1df1a0042031e1b182c1b0192b29101a2111c4c652e632e41d1b73282,[],[],[.cellN 6 256,.tmp 7],[D8 A8b B6W,cal C6B]⟩
def B0R:=A3L.R
def C4Y:=mR B0R A3L (tT []) n [a0,a1,a2] h
def B0u:=A3L.K Tryz.func32
def yH:=A3L.S
def B9X:G0 B0R yH:=B0u.flat
def vI:FD A8:=⟨px 0X125c4865a483a1c21110023239f1e052e02218022a1e4e1482d0405814882d04023c12890624a12e290191828f604122a4215030702451328901213f42006051113d531c228430122a486284818211001322401b61949042a1a2a2a70110121c7063942031d4c11b421d41b422e219531c2,[],[],[.cellN 4 32],[]⟩
def B3B:=vI.R
def C1p:AtH:=vI.lj 0 n [m] [x1,x2,x4,x5,x14]
def C3O:=tT [⟨2,5,C1p⟩]
def C6k:=mR B3B vI C3O n [a0,a1] h
def B2x:=mL vI C3O 0 n [m] [x1,x2,x4,x5,x14] h
def C3C:=vI.K Tryz.func100
def B31:=vI.S
def C2v:G0 B3B B31:=C3C.flat
def A6i:FD A8:=⟨px 0X12af5003c1b6142800280113042033a12e4881d1c1802013502281b603b3b31c1000722401b6194904281a282870110121a162f4203313b41b422e319531c2,[],[],[.cellN 4 11,.tmp 5],[D8 B31 C3C,D8 A74 B6Q]⟩
def B3A:=A6i.R
def C6j:=mR B3A A6i (tT []) n [a0,a1] h
def B3d:=A6i.K Tryz.func51
def A6O:=A6i.S
def C2u:G0 B3A A6O:=B3d.flat
def lD:FD A8:=⟨px 0X11b2010229f6052e0294921801320150000722403f2c1f02491521ef11df21b63b41b11a280181d2c1cf190042032812a4881a1c191b15218f304127421503070242134901211f420060516011d21820133103a2342,[],[],[.tmp 2],[D8 A6O B3d]⟩
def A7T:=lD.R
def B5w:AtH:=lD.lj 0 n [m] [x1,x6]
def B69:=tT [⟨2,2,B5w⟩]
def C13:=mR A7T lD B69 n [a0] h
def A7o:=mL lD B69 0 n [m] [x1,x6] h
def B6V:=lD.K Tryz.func84
def A8a:=lD.S
def B8h:G0 A7T A8a:=B6V.flat
end
end Go.Proofs.YtbipebfdappanaaGreat
