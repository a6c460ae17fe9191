/- What the proof of this claim leans on, part 2. -/
import Derived.Test.YtbipebfdappanaaGreatFClaimRightp1
set_option linter.all false
set_option maxRecDepth 100000
open Go Go.Esc
noncomputable section
open List renaming length→l_,all_cons→E62,all_eq_true→E6X,append_assoc→E6d,append_nil→E6k,cons_append→E6Y,drop_drop→E7e,drop_eq_getElem_cons→E6b,drop_of_length_le→E6f,drop_zero→E6i,ext_getElem?→E7b,filter_append→E66,flatten_cons→E65,getD_eq_getElem?_getD→E54,getElem?_append_left→E6H,getElem?_append_right→E6r,getElem?_cons_succ→E6o,getElem?_eq_getElem→E51,getElem?_eq_none→E6u,getElem?_take_of_lt→E6L,getElem_mem→E6w,length_append→E58,length_cons→E6g,length_filter_le→E6R,length_replicate→E6y,length_set→E6F,length_take→E6A,map_cons→E6N,mem_append_left→E6C,mem_append_right→E6B,mem_cons_of_mem→E59,mem_cons_self→E6e,mem_of_getElem?→E6n,nil_append→E6s,prefix_refl→E6T,range→E6z,range'→E6v,replicate→E55,replicate_succ→E6D,set_append_right→E6O,set_cons_zero→E7c,take_of_length_le→E6l,take_succ_eq_append_getElem→E6x,take_zero→E6S
open Bool renaming and_eq_true→E53,false_and→E6p,false_or→E6U,not_eq_true'→E6M,true_and→E6t,true_or→E6P,false→A6,true→A5
open Int renaming cast_ofNat_Int→E7d,toNat_natCast→E6q
open IntKind renaming wrap→E6a
open Nat renaming add_mul→E7f,add_zero→E7a,le_refl→E56,le_trans→E6J,sub_self→E67,zero_add→E6j
open Option renaming bind_eq_some_iff→E52,bind_some→E6h,isSome_some→E6G,map_eq_some_iff→E6m,map_some→E6I,none→A7,some→A4
open Option.some renaming injEq→E57
open Prod.mk renaming injEq→E6c
open Go.Proofs.Tryz renaming prog→A8
namespace Go.Esc
section
variable {P:Program} {R:Type}
def A4v{h:A9}{n0:Nat}{slot:Option Nat}{r:Row}:h.length<=(fK h n0 slot r).2.length:=by
 cases slot<;>simp [fK]
def D5M{E:K6}(hE:iK P E){q:Bool}{hr:A9}{n0:Nat}{slot:Option Nat}{o:AOp}{e:Env}{h h':A9}{v:Val}
  (D5:aop E q hr n0 slot o e h (λv h=>A4 (v,h))=A4 (v,h')):h.length<=h'.length:=by
 cases o<;>simp only [aop] at D5
 case store1 a x =>
  simp only [E52,E57,E6c] at D5;obtain ⟨h2,hp,_,rfl⟩:=D5;unfold I8 at hp;split at hp
  ·simp only [E52] at hp;obtain ⟨r,_,hp⟩:=hp;split at hp<;>cases hp
   simp
  ·cases hp
 case storeN n a x =>
  simp only [E52,E57,E6c] at D5;obtain ⟨h2,hp,_,rfl⟩:=D5;unfold F9 at hp;split at hp
  ·simp only [E52] at hp;obtain ⟨r,_,hp⟩:=hp;split at hp<;>cases hp
   simp
  ·cases hp
 case app sz a x =>
  simp only [E52,E57] at D5;obtain ⟨⟨v',h2⟩,hp,hpe⟩:=D5;cases hpe;simp only [tJ,E52] at hp;obtain ⟨ys,_,hp⟩:=hp;split at hp
  ·split at hp<;>cases hp
   simp
  ·simp only [E52] at hp;obtain ⟨r,_,hp⟩:=hp;split at hp<;>cases hp
   simp
  ·cases hp
 case copy sz a x =>
  simp only [E52,E57] at D5;obtain ⟨⟨v',h2⟩,hp,hpe⟩:=D5;cases hpe;simp only [C5c] at hp;split at hp
  ·cases hp
  simp only [E52] at hp;obtain ⟨ys,_,hp⟩:=hp;split at hp
  ·simp only [E52] at hp;obtain ⟨r,_,hp⟩:=hp;split at hp<;>cases hp
   simp
  ·cases hp
 case appZ sz zero x y =>
  simp only [E52,E57] at D5;obtain ⟨⟨v',h2⟩,hp,hpe⟩:=D5;cases hpe;unfold C48 at hp;simp only [E52] at hp;obtain ⟨n,_,hp⟩:=hp;split at hp
  ·cases hp;simp
  ·simp only [E52] at hp;obtain ⟨r,_,hp⟩:=hp;split at hp<;>cases hp
   simp
  ·cases hp
 case call f args =>
  simp only [E52,E57] at D5;obtain ⟨⟨v',h2⟩,hp,hpe⟩:=D5;cases hpe;have hE1:E f (args.map e.ev) h=A4 (v',h2):=by
   cases q with
   | false=>simpa using hp
   | true =>
    simp only [cond_true,quiet,E52] at hp;obtain ⟨p',g1,g2⟩:=hp;split at g2
    ·cases g2;exact g1
    ·cases g2
  exact (hE _ _ _ _ _ hE1).2.2
 case callV f args =>
  simp only [E52,E57] at D5;obtain ⟨⟨v',h2⟩,hp,hpe⟩:=D5;cases hpe;have hE0:aD E (e.ev f) (args.map e.ev) h=A4 (v',h2):=by
   cases q with
   | false=>simpa using hp
   | true =>
    simp only [cond_true,quiet,E52] at hp;obtain ⟨p',g1,g2⟩:=hp;split at g2
    ·cases g2;exact g1
    ·cases g2
  unfold aD at hE0;split at hE0
  ·exact (hE _ _ _ _ _ hE0).2.2
  ·exact (hE _ _ _ _ _ hE0).2.2
  ·cases hE0
 case mv=>cases D5;exact E56 _
 case nilrow=>cases D5;exact A4v
 case alloc=>cases D5;exact A4v
 case mkMap=>cases D5;exact A4v
 case mput =>
  simp only [E52,E57,E6c] at D5;obtain ⟨w,hp,_,rfl⟩:=D5;unfold A2A at hp;split at hp
  ·simp only [E52] at hp;obtain ⟨_,_,_,_,_,_,_,_,hp⟩:=hp;split at hp
   ·cases hp;simp
   ·cases hp
  ·cases hp
 case mset =>
  simp only [E52,E57,E6c] at D5;obtain ⟨w,hp,_,rfl⟩:=D5;unfold D1F at hp;split at hp
  ·simp only [E52] at hp;obtain ⟨_,_,_,_,_,_,hp⟩:=hp;split at hp
   ·simp only [E52,E57] at hp;obtain ⟨_,_,rfl⟩:=hp;simp
   ·cases hp
  ·cases hp
 case ment =>
  simp only [E52,E57] at D5;obtain ⟨w,hp,hpe⟩:=D5;cases hpe;unfold D1E at hp;split at hp
  ·simp only [E52] at hp;obtain ⟨_,_,_,_,_,_,hp⟩:=hp;split at hp
   ·simp only [E57] at hp;split at hp
    ·cases hp;exact E56 _
    ·cases hp;simp
   ·cases hp
  ·cases hp
 case box =>
  simp only [E52,E57,E6c] at D5;obtain ⟨_,_,_,rfl⟩:=D5;exact A4v
 case buildSl =>
  simp only [E52,E57,E6c] at D5;obtain ⟨_,_,_,rfl⟩:=D5;exact A4v
 case s2b =>
  simp only [E52,E57,E6c] at D5;obtain ⟨_,_,_,rfl⟩:=D5;exact A4v
 case mkSl =>
  simp only [E52,E57,E6c] at D5;obtain ⟨_,_,_,rfl⟩:=D5;exact A4v
 all_goals
  simp only [E52,E57,E6c] at D5;obtain ⟨_,_,_,rfl⟩:=D5;exact E56 _
def C8N{E:K6}(hE:iK P E){q:Bool}{hr:A9}{n0:Nat}{o:AOper}{e:Env}{h h':A9}{v:Val}
  (D5:aA E q hr n0 o e h (λv h=>A4 (v,h))=A4 (v,h')):h.length<=h'.length:=by
 unfold aA at D5;split at D5
 ·exact D5M hE D5
 ·simp only [E52,E57] at D5;obtain ⟨⟨v',h2⟩,hp,hpe⟩:=D5;cases hpe;unfold gd at hp;split at hp
  ·rename_i x _;cases hx:(x==_) with
   | true=>rw [hx] at hp;exact D5M hE hp
   | false=>rw [hx] at hp;cases hp;exact E56 _
  ·cases hp;exact E56 _
  ·cases hp
def put_defers(a:Act)(d:Option Nat)(V:Value):(a.put d V).defers=a.defers:=by cases d<;>rfl
def C37{N L:Nat}{ops:Array Oper}{E:K6}(hE:iK P E):∀ (l:List Nat) (aos:List AOper) (e:Env) (h:A9) (k:Env->A9->Option R) (r:R),
  All2 (λi ao=>∃ o,ops[i]?=A4 o/\bN P N ops o ao=A5/\ao.slot=A7) l aos->B23 E aos e h k=A4 r->L<=h.length ->
  ∃ e' h',k e' h'=A4 r/\L<=h'.length/\B4t P N L (λQ=>wpOps P ops Q l) e h .normal e' h'
 | [],[],e,h,k,r,_,D5,hL=>⟨e,h,D5,hL,fun Γ μ a w hs hi hN hd Q hq=>hq μ a w (Mu.le_refl _) (λ_ _=>rfl) hs hi hN hd⟩
 | i::l,ao::aos,e,h,k,r,⟨⟨o,ho,hc,D2B⟩,D2z⟩,D5,hL=>by
  rw [C8O] at D5;obtain ⟨v,h1,hk,B83⟩:=D8M hE hc D5;have hl1:=C8N hE B83;obtain ⟨e',h',hk',hL',mM⟩:=C37 hE l aos (e.put ao.dst v) h1 k r D2z hk (E6J hL hl1);refine ⟨e',h',hk',hL',fun Γ μ a w hs hi hN hd Q hq=>?_⟩;show wpOps P ops Q (i::l) a w;rw [wpOps_cons];unfold wpOp;rw [ho];have A3l:o.dst=ao.dst/\A2g N o.dst=A5:=by
   simp only [bN,E53,decide_eq_true_eq] at hc;exact ⟨hc.1.1.1,hc.1.1.2⟩
  have W5:∀ t,o.dst=A4 t->t<a.tmps.size:=by
   intro t ht;have:=A3l.2;rw [ht] at this;simp [A2g] at this;exact Nat.lt_of_lt_of_le this hN
  refine A8l (hr:=h) (n0:=0) hE hc B83 hs hi (λ_ _ h=>h) (by rw [D2B];trivial) ?_;intro V w' μ' kX hv hi' Y5;rw [D2B] at Y5;refine mM Γ μ' (a.put o.dst V) w' ?_ hi' (by rw [Act.size_put];exact hN) (by rw [put_defers];exact hd) Q ?_
  ·rw [<-A3l.1];exact (hs.mono kX).put W5 hv
  ·intro μ2 a2 w2 h2 h3 h4 h5 h6 h7;exact hq μ2 a2 w2 (Mu.le_trans kX h2) (λid hid=>by rw [h3 id hid];exact Y5 id (by omega) (λ_ h=>by cases h)) h4 h5 h6 h7
 | [],_::_,_,_,_,_,h,_,_=>h.elim
 | _::_,[],_,_,_,_,h,_,_=>h.elim
end
def C2E{o:Oper}{p:Nat}:p∈aZ o↔∃ e∈o.after,Region.binds .any e=A5/\e.on=p:=by
 unfold aZ;simp only [List.mem_map,List.mem_filter,Array.mem_toList_iff];constructor
 ·rintro ⟨e,⟨h1,h2⟩,rfl⟩;exact ⟨e,h1,h2,rfl⟩
 ·rintro ⟨e,h1,h2,rfl⟩;exact ⟨e,⟨h1,h2⟩,rfl⟩
def pT{ops:Array Oper}{listed:Array Bool}{i:Nat}:i∈Region.ready .any ops listed↔∃ o,ops[i]?=A4 o/\listed.getD i A5=A6/\∀ p∈aZ o,listed.getD p A6=A5:=by
 unfold Region.ready;simp only [List.mem_filter,List.mem_range,E53,E6M];constructor
 ·rintro ⟨h1,h2,h3⟩;have ho:ops[i]?=A4 ops[i]:=by simp [h1]
  refine ⟨ops[i],ho,h2,λp hp=>?_⟩;rw [ho] at h3;simp only [E6I,Option.getD_some,Array.all_eq_true_iff_forall_mem] at h3;obtain ⟨e,he,hb,rfl⟩:=C2E.1 hp;have:=h3 e he;rw [hb] at this;simpa using this
 ·rintro ⟨o,ho,h2,h3⟩;refine ⟨(Array.getElem?_eq_some_iff.1 ho).1,h2,?_⟩;rw [ho];simp only [E6I,Option.getD_some,Array.all_eq_true_iff_forall_mem];intro e he;cases hb:Region.binds .any e with
  | false=>rfl
  | true=>simpa using h3 e.on (C2E.2 ⟨e,he,hb,rfl⟩)
def T0{listed:Array Bool}{i:Nat}(hi:i<listed.size):(λk=>(listed.setIfInBounds i A5).getD k A6)=rP (λk=>listed.getD k A6) i:=by
 funext k
 unfold rP;by_cases h:k=i
 ·subst h;simp [Array.getD,hi]
 ·simp [Array.getElem?_setIfInBounds_ne (Ne.symm h),h]
def getD_both{listed:Array Bool}{i:Nat}(hi:i<listed.size):listed.getD i A5=listed.getD i A6:=by simp [Array.getD,hi]
def B0J{ops:Array Oper}{listed:Array Bool}(W5:∀ (i:Nat) (o:Oper),ops[i]?=A4 o->∀ p∈aZ o,p<i)(hs:listed.size=ops.size):∀ (i:Nat),i<ops.size->listed.getD i A6=A6->Region.ready .any ops listed≠[]:=by
 intro i
 induction i using Nat.strongRecOn with
 | _ i ih =>
  intro hi hu;have ho:ops[i]?=A4 ops[i]:=by simp [hi]
  by_cases h:∀ p∈aZ ops[i],listed.getD p A6=A5
  ·have:i∈Region.ready .any ops listed:=pT.2 ⟨_,ho,by rw [getD_both (by omega)];exact hu,h⟩;intro e;rw [e] at this;cases this
  ·have:∃ p,p∈aZ ops[i]/\listed.getD p A6=A6:=by
    false_or_by_contra
    rename_i hn;exact h λp hp=>by
     cases hv:listed.getD p A6 with
     | true=>rfl
     | false=>exact absurd ⟨p,hp,hv⟩ hn
   obtain ⟨p,hp,hv⟩:=this;have hpi:=W5 i _ ho p hp;exact ih p hpi (by omega) hv
def left(n:Nat)(listed:Array Bool):Nat:=((E6z n).filter λi=>!listed.getD i A6).length
def B9l{n:Nat}{listed:Array Bool}{i:Nat}(hi:i<n)(hs:listed.size=n)(hu:listed.getD i A6=A6):left n (listed.setIfInBounds i A5)+1<=left n listed:=by
 unfold left;have e:(E6z n).filter (λk=>!(listed.setIfInBounds i A5).getD k A6)=((E6z n).filter λk=>!listed.getD k A6).filter (λk=>decide (k≠i)):=by
  rw [List.filter_filter];apply List.filter_congr;intro k hk;have:=congrFun (T0 (listed:=listed) (i:=i) (by omega)) k
  try simp only at this
  rw [this];unfold rP;by_cases h:k=i<;>simp [h]
 rw [e];have hm:i∈(E6z n).filter λk=>!listed.getD k A6:=by
  rw [List.mem_filter];exact ⟨by simpa using hi,by rw [hu];rfl⟩
 have:=List.length_filter_lt_length_iff_exists (l:=(E6z n).filter λk=>!listed.getD k A6) (p:=λk=>decide (k≠i));have h2:=this.2 ⟨i,hm,by simp⟩;omega
section
variable {P:Program} {ops:Array Oper} {Q:Exit->Act->World->Prop}
def A4w(W5:∀ (i:Nat) (o:Oper),ops[i]?=A4 o->∀ p∈aZ o,p<i){A:Nat}(E2C:∀ i,A<=i->i<ops.size->∀ j,j<i->((S4 ops).getD i 0).testBit j=A5) :
  ∀ (k i fuel:Nat) (listed:Array Bool) (a:Act) (w:World),i+k=ops.size->A<=i->listed.size=ops.size->(∀ j,j<ops.size->listed.getD j A6=decide (j<i))->k<=fuel ->
   wpOps P ops Q (E6v i k) a w->wpAny P .any ops Q fuel listed a w
 | 0,i,fuel,listed,a,w,hik,hA,hs,hl,hf,h=>by
  have hr:Region.ready .any ops listed=[]:=by
   apply List.eq_nil_iff_forall_not_mem.2;intro x hx;obtain ⟨o,ho,h2,_⟩:=pT.1 hx;have W5:=(Array.getElem?_eq_some_iff.1 ho).1;rw [getD_both (by omega),hl x W5] at h2;simp at h2;omega
  cases fuel with
  | zero=>exact ⟨hr,h⟩
  | succ f=>exact ⟨λ_=>h,λx hx=>by rw [hr] at hx;cases hx⟩
 | k+1,i,fuel,listed,a,w,hik,hA,hs,hl,hf,h=>by
  obtain ⟨f,rfl⟩:∃ f,fuel=f+1:=⟨fuel-1,by omega⟩;refine ⟨λhe=>absurd he (B0J W5 hs i (by omega) (by rw [hl i (by omega)];simp)),λx hx=>?_⟩;obtain ⟨o,ho,h2,h3⟩:=pT.1 hx;have hxn:=(Array.getElem?_eq_some_iff.1 ho).1;rw [getD_both (by omega),hl x hxn] at h2;simp at h2;have hxi:x=i:=by
   by_cases e:x=i
   ·exact e
   ·have hd:=A0p (done:=λj=>listed.getD j A6) W5 (λj oj hj hdj p hp=>by
     have hjn:=(Array.getElem?_eq_some_iff.1 hj).1
     try simp only at hdj
     rw [hl j hjn] at hdj;have:=W5 j oj hj p hp;show listed.getD p A6=A5;rw [hl p (by omega)];simp at hdj ⊢;omega) x o ho h3 i (E2C x (by omega) hxn i (by omega))
    try simp only at hd
    rw [hl i (by omega)] at hd;simp at hd
  subst hxi;rw [List.range'_succ,wpOps_cons] at h;refine wpOp_mono (λa' w' h'=>?_) h;refine A4w W5 E2C k (x+1) f _ a' w' (by omega) (by omega) (by simpa using hs) (λj hj=>?_) (by omega) h';have:=congrFun (T0 (listed:=listed) (i:=x) (by omega)) j
  try simp only at this
  rw [this];unfold rP;show (decide (j=x)||listed.getD j A6)=_;rw [hl j hj];by_cases e:j=x
  ·subst e;simp
  ·simp only [e,decide_false,E6U];have:(j<x)↔(j<x+1):=by omega
   simp only [this]
end
def Inv.pad{Γ:Ctx}{μ:Mu}{h:A9}{w:World}(hi:Inv Γ μ h w)(m:Nat):Inv Γ μ (h++E55 m A7) w:=by
 have yO:∀ id x,rd (h++E55 m A7) id=A4 x->rd h id=A4 x:=by
  intro id x hx;by_cases hl:id<h.length
  ·rwa [D3 hl] at hx
  ·unfold rd at hx;rw [E6r (by omega),List.getElem?_replicate] at hx;split at hx<;>cases hx
 exact ⟨λid x hx=>hi.rows id x (yO id x hx),λi j x y z z' hx hy=>hi.sep i j x y z z' (yO _ _ hx) (yO _ _ hy),λi x y hx=>hi.own i x y (yO _ _ hx),λid hid=>hi.dom id (by simp at hid;omega),hi.ctx⟩
def E1v{P:Program}{N L:Nat}{ops:Array Oper}{m id:Nat}{l r:List AOper}{E:K6}(hE:iK P E){e:Env}{h:A9}{R:Type}{k:Env->A9->Option R}{res:R}
  (hc:A3h P N ops m l r=A5) (hc2:B8O ops l.length r.length=A5) (hL:L<=h.length)
  (D5:B5R E h h.length l e (h++E55 m A7) (λe h=>B23 E r e h k)=A4 res) :
  ∃ e' h',k e' h'=A4 res/\L<=h'.length/\B4t P N L ((Code.region id ops A5).wp P) e h .normal e' h':=by
 have D:=B0e hc;have last:=C5x hc2 D.size;obtain ⟨es,hs,vs,he,h0,ht,hk⟩:=C7o l _ _ D5;have D4K:All2 (λi ao=>∃ o,ops[i]?=A4 o/\bN P N ops o ao=A5/\ao.slot=A7) (E6v l.length r.length) r:=by
  refine All2.of_get (by simp) λi x ao hx hao=>?_
  have hi:i<r.length:=(List.getElem?_eq_some_iff.1 hao).1;rw [List.getElem?_range' hi] at hx;simp at hx;subst hx;have W5:l.length+i<ops.size:=by rw [D.size];omega
  refine ⟨ops[l.length+i],by simp [W5],?_,D.rslot ao (E6n hao)⟩;refine D.oper (l.length+i) _ ao (by simp [W5]) ?_;rw [E6r (by omega)];simpa using hao
 have hbl:=nR D ht h0 (k:=l.length) (E56 _);obtain ⟨e',h',hk',hL',mM⟩:=C37 (L:=L) hE _ r (es l.length) (hs l.length) k res D4K hk (by omega);refine ⟨e',h',hk',hL',fun Γ μ0 a w hs0 hi hN hd Q hq=>wp_region_any D.follows ?_⟩;have whole:∀ (listed:Array Bool) (a:Act) (w:World) (q:Nat) (μ:Mu),Sim Γ l h.length N e es hs vs μ0 (λi=>listed.getD i A6) q μ a w->(∀ j,j<l.length->listed.getD j A6=A5)->wpOps P ops Q (E6v l.length r.length) a w:=by
  intro listed a w q μ S jP;have C78:SEnv μ (es l.length) a:=by
   intro t;by_cases hw:∃ (j:Nat) (aj:AOper),l[j]?=A4 aj/\aj.dst=A4 t
   ·obtain ⟨j,aj,qZ,hdj⟩:=hw;have hjl:=(List.getElem?_eq_some_iff.1 qZ).1;rw [uL D ht qZ hdj l.length hjl (E56 _)];exact S.envD j aj t qZ (jP j hjl) hdj
   ·have Y3:∀ (j:Nat) (aj:AOper),l[j]?=A4 aj->aj.dst≠A4 t:=λj aj qZ hdj=>hw ⟨j,aj,qZ,hdj⟩
    rw [A1I ht he l.length (E56 _) λj aj _ qZ=>Y3 j aj qZ];exact S.envO t λj aj qZ _=>Y3 j aj qZ
  have hlen:(hs l.length).length=(hs q).length:=by
   have hql:=S.qle;have:=A1U D ht (q:=q) (l.length-q) (by omega) λk ak h1 h2 tO=>by
    cases hck:aI ak.op with
    | false=>rfl
    | true =>
     have:=(S.calls k ak tO hck).1 (jP k (by omega));omega
   rwa [show q+(l.length-q)=l.length by omega] at this
  have C9e:HD (hs l.length) (und l h.length λi=>listed.getD i A6) (hs q).length=hs l.length:=by
   refine A1O (by rw [K0,hlen]) λid hid=>?_
   rw [K0] at hid;have hu:und l h.length (λi=>listed.getD i A6) id=A6:=by
    cases hu:und l h.length (λi=>listed.getD i A6) id with
    | false=>rfl
    | true =>
     obtain ⟨k,hk,ao,j,tO,_⟩:=bA.1 hu;have:=jP k (List.getElem?_eq_some_iff.1 tO).1;rw [this] at hk;cases hk
   rw [zT,if_pos ⟨hid,hu⟩]
  have hinv:=S.inv;rw [C9e] at hinv;exact mM Γ μ a w C78 hinv S.size S.defers Q fun μ' a' w' g1 g2 g3 g4 g5 g6=>hq μ' a' w' (Mu.le_trans S.le g1) (λid hid=>(g2 id hid).trans (S.keep id (by omega))) g3 g4 g5 g6
 have main:∀ (fuel:Nat) (listed:Array Bool) (a:Act) (w:World) (q:Nat) (μ:Mu),listed.size=ops.size->left ops.size listed<=fuel ->
   (∀ j,l.length<=j->j<ops.size->listed.getD j A6=A6)->(∀ (i:Nat) (o:Oper),ops[i]?=A4 o->listed.getD i A6=A5->∀ p∈aZ o,listed.getD p A6=A5) ->
   Sim Γ l h.length N e es hs vs μ0 (λi=>listed.getD i A6) q μ a w->wpAny P .any ops Q fuel listed a w:=by
  intro fuel
  induction fuel with
  | zero =>
   intro listed a w q μ hsz B57 eW eX S;have jP:∀ j,j<ops.size->listed.getD j A6=A5:=by
    intro j hj;cases hv:listed.getD j A6 with
    | true=>rfl
    | false =>
     have hm:j∈(E6z ops.size).filter λi=>!listed.getD i A6:=by rw [List.mem_filter];exact ⟨by simpa using hj,by rw [hv];rfl⟩
     have:=List.length_pos_of_mem hm;unfold left at B57;omega
   have hr0:r.length=0:=by
    cases hr:r.length with
    | zero=>rfl
    | succ x =>
     have h1:=jP l.length (by rw [D.size];omega);have h2:=eW l.length (E56 _) (by rw [D.size];omega);rw [h1] at h2;cases h2
   refine A4w D.dir last 0 l.length 0 listed a w (by rw [D.size];omega) (E56 _) hsz (λj hj=>?_) (E56 _) ?_
   ·rw [jP j hj];have:j<l.length:=by rw [D.size] at hj;omega
    simp [this]
   ·have:=whole listed a w q μ S λj hj=>jP j (by rw [D.size];omega)
    rw [hr0] at this;exact this
  | succ fuel ih =>
   intro listed a w q μ hsz B57 eW eX S;by_cases jP:∀ j,j<l.length->listed.getD j A6=A5
   ·refine A4w D.dir last r.length l.length (fuel+1) listed a w D.size.symm (E56 _) hsz (λj hj=>?_) ?_ (whole listed a w q μ S jP)
    ·by_cases hjl:j<l.length
     ·rw [jP j hjl];simp [hjl]
     ·rw [eW j (by omega) hj];simp [hjl]
    ·refine E6J ?_ B57;unfold left;have:((E6z ops.size).filter λi=>!listed.getD i A6)=E6v l.length r.length:=by
      rw [D.size,List.range_add,E66];have e1:(E6z l.length).filter (λi=>!listed.getD i A6)=[]:=by
       rw [List.filter_eq_nil_iff];intro j hj;rw [jP j (by simpa using hj)];simp
      rw [e1,E6s,List.range'_eq_map_range,List.filter_eq_self.2];intro j hj;obtain ⟨x,hx,rfl⟩:=List.mem_map.1 hj;rw [eW _ (by omega) (by rw [D.size];simp at hx;omega)];rfl
     rw [this];simp
   ·have hex:∃ j,j<l.length/\listed.getD j A6=A6:=by
     false_or_by_contra
     rename_i hn;exact jP λj hj=>by
      cases hv:listed.getD j A6 with
      | true=>rfl
      | false=>exact absurd ⟨j,hj,hv⟩ hn
    obtain ⟨j,hj,hv⟩:=hex;refine ⟨λhre=>absurd hre (B0J D.dir hsz j (by rw [D.size];omega) hv),λi hi=>?_⟩;obtain ⟨o,ho,h2,h3⟩:=pT.1 hi;have hin:=(Array.getElem?_eq_some_iff.1 ho).1;rw [getD_both (by omega)] at h2;have hah:=A0p (done:=λi=>listed.getD i A6) D.dir eX i o ho h3;have K7:i<l.length:=by
     by_cases e1:i<l.length
     ·exact e1
     ·have:=hah j (last i (by omega) hin j (by omega))
      try simp only at this
      rw [hv] at this;cases this
    have oG:∀ k,listed.getD k A6=A5->∀ b,((S4 ops).getD k 0).testBit b=A5->listed.getD b A6=A5:=by
     intro k hk b hb;by_cases hkn:k<ops.size
     ·have vA:ops[k]?=A4 ops[k]:=by simp [hkn]
      exact A0p (done:=λi=>listed.getD i A6) D.dir eX k _ vA (eX k _ vA hk) b hb
     ·have:listed.getD k A6=A6:=by simp [Array.getD,show ¬ k<listed.size by omega]
      rw [this] at hk;cases hk
    have oI:=D3F D hE ht h0 he S (i:=i) (ao:=l[i]) (o:=o) (E51 K7) ho h2 hah oG
     (next:=wpAny P .any ops Q fuel (listed.setIfInBounds i A5)) (Q:=Q) (by
      intro V w' μ' q' S';rw [<-T0 (by omega)] at S';refine ih (listed.setIfInBounds i A5) _ w' q' μ' (by simpa using hsz) (by have:=B9l hin hsz h2;omega) ?_ ?_ S'
      ·intro k hk hkn;have:=congrFun (T0 (listed:=listed) (i:=i) (by omega)) k
       try simp only at this
       rw [this,aW _ _ (by omega)];exact eW k hk hkn
      ·intro k ok vA hdk p hp;have e1:=congrFun (T0 (listed:=listed) (i:=i) (by omega)) k;have e2:=congrFun (T0 (listed:=listed) (i:=i) (by omega)) p
       try simp only at e1 e2
       rw [e1] at hdk;rw [e2];have B56:listed.getD p A6=A5:=by
        by_cases e3:k=i
        ·subst e3;rw [ho] at vA;cases vA;exact h3 p hp
        ·rw [aW _ _ e3] at hdk;exact eX k ok vA hdk p hp
       unfold rP;show (decide (p=i)||listed.getD p A6)=A5;rw [B56];simp)
    unfold wpOp;rw [ho];exact oI
 have hgd:∀ i:Nat,(Array.replicate ops.size A6).getD i A6=A6:=by intro i;simp [Array.getD]
 have E3l:(λi=>(Array.replicate ops.size A6).getD i A6)=λ_=>A6:=funext hgd
 refine main ops.size (Array.replicate ops.size A6) a _ 0 μ0 (by simp) ?_ (λj _ _=>hgd j) (λi o _ hd=>by rw [hgd] at hd;cases hd) ?_
 ·unfold left;exact E6J (E6R _ _) (by simp)
 ·rw [E3l];have E3o:HD (hs l.length) (und l h.length λ_=>A6) (hs 0).length=h++E55 m A7:=by
   rw [h0];refine A1O (by rw [K0]) λid hid=>?_
   rw [K0] at hid;rw [zT];by_cases ho:∃ i,A5b l h.length i id
   ·obtain ⟨i,ho⟩:=ho;have hu:und l h.length (λ_=>A6) id=A5:=bA.2 ⟨i,rfl,ho⟩;rw [hu];have:=A87 D ht h0 ho 0 (Nat.zero_le _);rw [h0] at this;rw [this];simp
   ·have Y3:∀ i,0<=i->¬ A5b l h.length i id:=λi _ hi=>ho ⟨i,hi⟩
    have hu:und l h.length (λ_=>A6) id=A6:=by
     cases hu:und l h.length (λ_=>A6) id with
     | false=>rfl
     | true=>obtain ⟨i,_,hi⟩:=bA.1 hu;exact absurd ⟨i,hi⟩ ho
    rw [if_pos ⟨hid,hu⟩];have:=sA D ht (k:=0) (id:=id) (by rw [h0];exact hid) Y3 l.length (by omega);rw [E6j,h0] at this;exact this
  refine ⟨Nat.zero_le _,λi ao _ _=>⟨λh=>(by cases h),λh=>(by omega)⟩,λi ao d _ h=>(by cases h),λt _=>hs0 t,?_,λid hid=>?_,Mu.le_refl _,λ_ _=>rfl,hN,hd⟩
  ·rw [E3o];exact (hi.pad m).world rfl rfl rfl λ_ _=>rfl
  ·obtain ⟨i,_,ao,j,_,_,rfl⟩:=bA.1 hid;exact hi.dom _ (by omega)
def C4j:AOp->Bool
 | .mv _ | .pick .. | .bin .. | .eqA .. | .eqB .. | .eqN .. | .nilc _ | .un .. | .conv .. | .convS _ | .fAddr .. | .iAddrA .. | .iAddrL .. | .fld1 .. | .fldN .. | .idxA1 .. | .idxAN .. | .idxS .. | .ext .. | .len _ | .lenS _ | .max .. | .min ..=>A5
 | _=>A6
def E1e{E:K6}{q:Bool}{hr:A9}{n0:Nat}{slot:Option Nat}{o:AOp}{e:Env}{h h':A9}{v:Val}(hp:C4j o=A5)
  (D5:aop E q hr n0 slot o e h (λv h=>A4 (v,h))=A4 (v,h')):∀ (q2:Bool) (hr2:A9) (n2:Nat) (slot2:Option Nat) (h2:A9),aop E q2 hr2 n2 slot2 o e h2 (λv h=>A4 (v,h))=A4 (v,h2):=by
 intro q2 hr2 n2 slot2 h2;cases o<;>simp [C4j] at hp<;>simp only [aop] at D5 ⊢
 case mv=>cases D5;rfl
 all_goals
  simp only [E52,E57,E6c] at D5;obtain ⟨_,h1,rfl,rfl⟩:=D5;rw [h1];rfl
def D0G:AOp->Bool
 | .load1 _ | .loadN ..=>A5
 | _=>A6
def D8J{E:K6}{q:Bool}{n0:Nat}{slot:Option Nat}{o:AOp}{e:Env}{h:A9}{v:Val}(hp:D0G o=A5)(hr:B0G h o e=A4 v):aop E q h n0 slot o e h (λv h=>A4 (v,h))=A4 (v,h):=by
 cases o<;>simp [D0G] at hp<;>simp only [B0G] at hr<;>simp only [aop,hr]<;>rfl
def D5g{o:AOp}{e e':Env}{h:A9}(he:∀ x∈o.opds,e.ev x=e'.ev x):B0G h o e=B0G h o e':=by
 cases o<;>simp only [AOp.opds] at he<;>simp only [B0G]
 ·rw [he _ (by simp)]
 ·rw [he _ (by simp)]
def C63:AOp->AOp->Bool
 | .load1 (.t a),.load1 (.t b)=>decide (a=b)
 | .loadN n (.t a),.loadN m (.t b)=>decide (n=m)&&decide (a=b)
 | _,_=>A6
def D3z{o p:AOp}(h:C63 o p=A5):o=p/\D0G p=A5:=by
 unfold C63 at h;split at h
 ·have:=of_decide_eq_true h;subst this;exact ⟨rfl,rfl⟩
 ·rw [E53] at h;have h1:=of_decide_eq_true h.1;have h2:=of_decide_eq_true h.2;subst h1 h2;exact ⟨rfl,rfl⟩
 ·cases h
def C5v(s:AOper)(chk:List (Nat × AOp))(o:AOper):Bool :=
 decide (o.guard=A7)&&decide (o.slot=A7) && !aI o.op && !Z5 o.op &&
 (match o.dst with
  | some d=>!(s.reads.contains d)&&(C4j o.op||chk.any λc=>decide (c.1=d)&&C63 c.2 o.op)
  | none=>A6) &&
 (match s.dst with | some d=>!(o.reads.contains d) | none=>A5)
def D6T(ops:Array Oper)(l:List AOper)(s:AOper)(chk:List (Nat × AOp))(r:List AOper):Bool :=
 let cl:=S4 ops
 l.zipIdx.all (λp=>(cl.getD l.length 0).testBit p.2||C5v s chk p.1) &&
 l.all (λo=>match s.dst with | some d=>decide (o.dst≠A4 d) | none=>A5) &&
 l.zipIdx.all (λp=>l.zipIdx.all λq=>match q.1.dst with | some d=>!(p.1.reads.contains d)||((cl.getD p.2 0).testBit q.2&&decide (q.2<p.2)) | none=>A5) &&
 B8O ops (l.length+1) r.length
def D8o(ops:Array Oper)(l:List AOper):Prop:=∀ (i j:Nat) ai aj d,l[i]?=A4 ai->l[j]?=A4 aj->aj.dst=A4 d->d∈ai.reads->((S4 ops).getD i 0).testBit j=A5/\j<i
structure Float1(s:AOper)(chk:List (Nat × AOp))(o:AOper):Prop where
 guard:o.guard=A7
 slot:o.slot=A7
 call:aI o.op=A6
 Z5:Z5 o.op=A6
 dst:∃ d,o.dst=A4 d/\d ∉ s.reads/\(C4j o.op=A5\/(D0G o.op=A5/\(d,o.op)∈chk))
 reads:∀ d,s.dst=A4 d->d ∉ o.reads
def D1X{s:AOper}{chk:List (Nat × AOp)}{o:AOper}(h:C5v s chk o=A5):Float1 s chk o:=by
 simp only [C5v,E53,decide_eq_true_eq,E6M] at h;obtain ⟨⟨⟨⟨⟨h1,h2⟩,h3⟩,h4⟩,h5⟩,h6⟩:=h;refine ⟨h1,h2,h3,h4,?_,λd hd=>?_⟩
 ·split at h5
  ·rename_i d hd;simp only [E53,E6M,Bool.or_eq_true] at h5;refine ⟨d,hd,λhm=>?_,?_⟩
   ·have:=h5.1;rw [List.contains_iff_mem.2 hm] at this;cases this
   ·rcases h5.2 with h | h
    ·exact .inl h
    ·right
     rw [List.any_eq_true] at h;obtain ⟨c,hc,h⟩:=h;simp only [E53,decide_eq_true_eq] at h;obtain ⟨e1,e2⟩:=D3z h.2;refine ⟨e2,?_⟩;have:c=(d,o.op):=by cases c;simp at h e1;simp [h.1,e1]
     rw [<-this];exact hc
  ·cases h5
 ·rw [hd] at h6;simp only [E6M] at h6;intro hm;rw [List.contains_iff_mem.2 hm] at h6;cases h6
def D1B{R:Type}{e:Env}{h:A9}{k:Option R}{res:R}:∀ {l:List (Nat × AOp)},again l e h k=A4 res->k=A4 res/\∀ c∈l,B0G h c.2 e=A4 (e.get c.1)
 | [],hr=>⟨hr,by simp⟩
 | c::l,hr=>by
  rw [C5f] at hr;unfold agn at hr;split at hr
  ·rename_i hc;obtain ⟨h1,h2⟩:=D1B hr;exact ⟨h1,λx hx=>by rcases List.mem_cons.1 hx with e | hx;subst e;exact hc;exact h2 x hx⟩
  ·cases hr
structure Sim2(Γ:Ctx)(l:List AOper)(s:AOper)(n0 N:Nat)(e:Env)(vs:Nat->Val)(v:Val)(μ0:Mu)(done:Nat->Bool)(h2:A9)(μ:Mu)(a:Act)(w:World):Prop where
 envD:∀ (i:Nat) ao d,l[i]?=A4 ao->done i=A5->ao.dst=A4 d->RV μ (vs i) (a.tmps.getD d undef)
 envO:∀ t,(∀ (i:Nat) ao,l[i]?=A4 ao->done i=A5->ao.dst≠A4 t)->s.dst≠A4 t->RV μ (e.get t) (a.tmps.getD t undef)
 envS:∀ d,s.dst=A4 d->RV μ v (a.tmps.getD d undef)
 inv:Inv Γ μ h2 w
 le:μ0.le μ
 keep:∀ id,id<n0 -> μ id = μ0 id
 size:N<=a.tmps.size
 defers:a.defers = Γ.ds
def B3C{a:Act}{dst:Option Nat}{V:Value}{t:Nat}(h:dst≠A4 t):(a.put dst V).tmps.getD t undef=a.tmps.getD t undef:=by
 cases hd:dst with
 | none=>rfl
 | some d =>
  rw [hd] at h;simp [Act.put,Array.getElem?_setIfInBounds_ne (show d≠t from λe=>h (by rw [e]))]
def B55{a:Act}{d N:Nat}{V:Value}(h:A2g N (A4 d)=A5)(hN:N<=a.tmps.size):(a.put (A4 d) V).tmps.getD d undef=V:=by
 have W5:d<a.tmps.size:=by
  simp [A2g] at h;exact Nat.lt_of_lt_of_le h hN
 simp [Act.put,Array.getD,W5]
section
variable {P:Program} {N m:Nat} {ops:Array Oper} {l r:List AOper} {s:AOper} {chk:List (Nat × AOp)} {E:K6} {hr:A9} {e:Env} {es:Nat->Env} {hs:Nat->A9} {vs:Nat->Val} {Γ:Ctx} {μ0:Mu}
def E1w(D:DrawOk P N ops m l (s::r))(hR:D8o ops l)(ht:Trace E hr hr.length l es hs vs)(he:es 0=e){i t:Nat}{ao:AOper}(ha:l[i]?=A4 ao)(hm:t∈ao.reads):(es l.length).get t=(es i).get t:=by
 have K7:i<l.length:=(List.getElem?_eq_some_iff.1 ha).1;by_cases hw:∃ (j:Nat) (aj:AOper),l[j]?=A4 aj/\aj.dst=A4 t
 ·obtain ⟨j,aj,qZ,hd⟩:=hw;obtain ⟨_,h2⟩:=hR i j ao aj t ha qZ hd hm;rw [uL D ht qZ hd i h2 (by omega),uL D ht qZ hd l.length (by omega) (E56 _)]
 ·have Y3:∀ (j:Nat) (aj:AOper),l[j]?=A4 aj->aj.dst≠A4 t:=λj aj qZ hd=>hw ⟨j,aj,qZ,hd⟩
  rw [A1I ht he i (by omega) λj aj _ qZ=>Y3 j aj qZ,A1I ht he l.length (E56 _) λj aj _ qZ=>Y3 j aj qZ]
def D79(D:DrawOk P N ops m l (s::r))(hR:D8o ops l)(hE:iK P E)(ht:Trace E hr hr.length l es hs vs)(he:es 0=e){v:Val}{h2:A9}(hag:∀ c∈chk,B0G h2 c.2 (es l.length)=A4 ((es l.length).get c.1))
  {done:Nat->Bool} {μ:Mu} {a:Act} {w:World} (S:Sim2 Γ l s hr.length N e vs v μ0 done h2 μ a w) {i:Nat} {ao:AOper} {o:Oper} (ha:l[i]?=A4 ao) (ho:ops[i]?=A4 o) (hnd:done i=A6) (hf:Float1 s chk ao)
  (D52:∀ (k:Nat) ak d,l[k]?=A4 ak->s.dst=A4 d->ak.dst≠A4 d)
  (hah:∀ b,((S4 ops).getD i 0).testBit b=A5->done b=A5)
  {next:Act->World->Prop} {Q:Exit->Act->World->Prop} (hn:∀ V w' μ',Sim2 Γ l s hr.length N e vs v μ0 (rP done i) h2 μ' (a.put o.dst V) w'->next (a.put o.dst V) w') :
  if Region.wanted o (yielded ops a.tmps) then o.wp P a w next Q\/(o.asks P a w/\LetsOut Q) else next (a.put o.dst undef) w:=by
 have K7:i<l.length:=(List.getElem?_eq_some_iff.1 ha).1;have hco:bN P N ops o ao=A5:=D.oper i o ao ho (by rw [E6H K7];exact ha);have A3l:o.dst=ao.dst/\A2g N o.dst=A5:=by
  simp only [bN,E53,decide_eq_true_eq] at hco;exact ⟨hco.1.1.1,hco.1.1.2⟩
 obtain ⟨d,hd,hds,D9J⟩:=hf.dst;have C78:SEnv μ ((es i).keep ao.reads) a:=by
  intro t;rw [Env.get_keep_mem];split
  ·rename_i kY;by_cases hw:∃ (j:Nat) (aj:AOper),l[j]?=A4 aj/\aj.dst=A4 t
   ·obtain ⟨j,aj,qZ,hdj⟩:=hw;obtain ⟨h1,h3⟩:=hR i j ao aj t ha qZ hdj kY;rw [uL D ht qZ hdj i h3 (by omega)];exact S.envD j aj t qZ (hah j h1) hdj
   ·have Y3:∀ (j:Nat) (aj:AOper),l[j]?=A4 aj->aj.dst≠A4 t:=λj aj qZ hd=>hw ⟨j,aj,qZ,hd⟩
    rw [A1I ht he i (by omega) λj aj _ qZ=>Y3 j aj qZ];exact S.envO t (λj aj qZ _=>Y3 j aj qZ) λmM=>hf.reads t mM kY
  ·trivial
 have oI:=ht.step i ao ha;have B83:aA E A5 h2 hr.length ao (es i) h2 (λv h=>A4 (v,h))=A4 (vs i,h2):=by
  unfold aA at oI ⊢;rw [hf.guard] at oI ⊢;simp only at oI ⊢;rcases D9J with hp | ⟨hp,kY⟩
  ·exact E1e hp oI _ _ _ _ _
  ·refine D8J hp ?_;have h1:=hag _ kY;simp only at h1;rw [uL D ht ha hd l.length K7 (E56 _)] at h1;rw [<-h1];refine D5g λx hx=>?_
   cases x with
   | v x=>rfl
   | t n=>exact (E1w D hR ht he ha (E6C _ (List.mem_filterMap.2 ⟨.t n,hx,rfl⟩))).symm
 rw [C06 (e':=(es i).keep ao.reads) λt ht'=>by rw [Env.get_keep_mem,if_pos ht']] at B83;refine A8l (hr:=h2) (n0:=hr.length) hE hco B83 C78 S.inv (λ_ _ h=>h) (by rw [hf.slot];trivial) ?_;intro V w' μ' kX hv hinv Y5;rw [hf.slot] at Y5;refine hn V w' μ' ⟨?_,?_,?_,hinv,Mu.le_trans S.le kX,?_,by rw [Act.size_put];exact S.size,by rw [put_defers];exact S.defers⟩
 ·intro k ak d' tO hdk hd';by_cases e1:k=i
  ·subst e1;rw [ha] at tO;cases tO;rw [A3l.1,hd'];rw [B55 (by rw [<-hd',<-A3l.1];exact A3l.2) S.size];exact hv
  ·rw [aW _ _ e1] at hdk;rw [B3C (by rw [A3l.1];exact λh=>(D.apart i k ao ak ha tO (Ne.symm e1)).1 d' h hd')];exact (S.envD k ak d' tO hdk hd').mono kX
 ·intro t Y3 mM;have h1:=Y3 i ao ha (A0q _ _);rw [B3C (by rw [A3l.1];exact h1)];refine (S.envO t (λk ak tO hdk=>?_) mM).mono kX;by_cases e1:k=i
  ·subst e1;rw [hnd] at hdk;cases hdk
  ·exact Y3 k ak tO (by rw [aW _ _ e1];exact hdk)
 ·intro d' hd';rw [B3C (by rw [A3l.1];exact D52 i ao d' ha hd')];exact (S.envS d' hd').mono kX
 ·intro id hid;by_cases hl:id<h2.length
  ·rw [<-S.keep id hid];exact Y5 id hl λj hj=>by cases hj
  ·have h1:=S.inv.dom id (by omega);have h3:=S.keep id hid;rw [h1] at h3;have h4:=hinv.dom id (by omega);rw [h4,<-h3]
end
def C85{P:Program}{N L:Nat}{ops:Array Oper}{m:Nat}{l r:List AOper}{s:AOper}{chk:List (Nat × AOp)}{E:K6}(hE:iK P E){e:Env}{h:A9}{R:Type}{k:Env->A9->Option R}{res:R}
  (hc:A3h P N ops m l (s::r)=A5) (hcs:D6T ops l s chk r=A5) (hL:L<=h.length)
  (D5:B5R E h h.length l e (h++E55 m A7) (λe h=>aA E A6 h 0 s e h λv h2=>again chk e h2 (B23 E r (e.put s.dst v) h2 k))=A4 res) :
  ∃ e' h',k e' h'=A4 res/\L<=h'.length/\B4t P N L (λQ a w=>wpAny P .any ops Q ops.size (Array.replicate ops.size A6) a { w with drawn:=w.drawn+1 }) e h .normal e' h':=by
 have D:=B0e hc;simp only [D6T,E53,E6X] at hcs;obtain ⟨⟨⟨hfl,hdi⟩,E5s⟩,hla⟩:=hcs;have hR:D8o ops l:=by
  intro i j ai aj d hi hj hd hr;have:=E5s (ai,i) (mem_zipIdx hi) (aj,j) (mem_zipIdx hj);simp only [hd,Bool.or_eq_true,E6M,E53,decide_eq_true_eq] at this;rcases this with this | this
  ·have hc:ai.reads.contains d=A5:=by simpa using hr
   rw [hc] at this;cases this
  ·exact this
 have hsz:ops.size=l.length+(r.length+1):=by rw [D.size];simp
 have last:=C5x hla (by rw [hsz];omega);have E3k:∀ (i:Nat) ao,l[i]?=A4 ao->((S4 ops).getD l.length 0).testBit i=A6->Float1 s chk ao:=by
  intro i ao ha hb;have:=hfl (ao,i) (mem_zipIdx ha);simp only [Bool.or_eq_true] at this;rcases this with h | h
  ·rw [hb] at h;cases h
  ·exact D1X h
 have D52:∀ (k:Nat) ak d,l[k]?=A4 ak->s.dst=A4 d->ak.dst≠A4 d:=by
  intro k ak d tO hd;have:=hdi ak (E6n tO);rw [hd] at this;simpa using this
 obtain ⟨es,hs,vs,he,h0,ht,hk⟩:=C7o l _ _ D5;rw [C5k] at hk;simp only [E52] at hk;obtain ⟨⟨v,h2⟩,B83,hk⟩:=hk;obtain ⟨hk,hag⟩:=D1B hk;simp only at hk hag;have hnl:l.length<ops.size:=by omega
 have hos:ops[l.length]?=A4 ops[l.length]:=by simp [hnl]
 have E4d:bN P N ops ops[l.length] s=A5:=D.oper l.length _ s hos (by rw [E6r (E56 _)];simp);have D9N:s.slot=A7:=D.rslot s (by simp);have D2A:ops[l.length].dst=s.dst/\A2g N ops[l.length].dst=A5:=by
  have:=E4d;simp only [bN,E53,decide_eq_true_eq] at this;exact ⟨this.1.1.1,this.1.1.2⟩
 have D4K:All2 (λi ao=>∃ o,ops[i]?=A4 o/\bN P N ops o ao=A5/\ao.slot=A7) (E6v (l.length+1) r.length) r:=by
  refine All2.of_get (by simp) λi x ao hx hao=>?_
  have hi:i<r.length:=(List.getElem?_eq_some_iff.1 hao).1;rw [List.getElem?_range' hi] at hx;simp at hx;subst hx;have W5:l.length+1+i<ops.size:=by omega
  refine ⟨ops[l.length+1+i],by simp [W5],?_,D.rslot ao (E59 _ (E6n hao))⟩;refine D.oper (l.length+1+i) _ ao (by simp [W5]) ?_;rw [E6r (by omega),show l.length+1+i-l.length=i+1 by omega];simpa using hao
 have hbl:=nR D ht h0 (k:=l.length) (E56 _);have hl2:=C8N hE B83;obtain ⟨e',h',hk',hL',mM⟩:=C37 (L:=L) hE _ r ((es l.length).put s.dst v) h2 k res D4K hk (by omega);refine ⟨e',h',hk',hL',fun Γ μ0 a w hs0 hi hN hd Q hq=>?_⟩;have whole:∀ (listed:Array Bool) (a:Act) (w:World) (μ:Mu),Sim2 Γ l s h.length N e vs v μ0 (λi=>listed.getD i A6) h2 μ a w->(∀ j,j<l.length->listed.getD j A6=A5)->wpOps P ops Q (E6v (l.length+1) r.length) a w:=by
  intro listed a w μ S jP;have C78:SEnv μ ((es l.length).put s.dst v) a:=by
   intro t;have main:s.dst≠A4 t->RV μ ((es l.length).get t) (a.tmps.getD t undef):=by
    intro aR;by_cases hw:∃ (j:Nat) (aj:AOper),l[j]?=A4 aj/\aj.dst=A4 t
    ·obtain ⟨j,aj,qZ,hdj⟩:=hw;have hjl:=(List.getElem?_eq_some_iff.1 qZ).1;rw [uL D ht qZ hdj l.length hjl (E56 _)];exact S.envD j aj t qZ (jP j hjl) hdj
    ·have Y3:∀ (j:Nat) (aj:AOper),l[j]?=A4 aj->aj.dst≠A4 t:=λj aj qZ hdj=>hw ⟨j,aj,qZ,hdj⟩
     rw [A1I ht he l.length (E56 _) λj aj _ qZ=>Y3 j aj qZ];exact S.envO t (λj aj qZ _=>Y3 j aj qZ) aR
   cases hsd:s.dst with
   | none=>exact main (by rw [hsd];simp)
   | some d =>
    by_cases e1:d=t
    ·subst e1;rw [Env.get_put_same];exact S.envS d hsd
    ·rw [Env.get_put_other _ _ _ _ e1];exact main (by rw [hsd];simpa using e1)
  exact mM Γ μ a w C78 S.inv S.size S.defers Q fun μ' a' w' g1 g2 g3 g4 g5 g6=>hq μ' a' w' (Mu.le_trans S.le g1) (λid hid=>(g2 id hid).trans (S.keep id (by omega))) g3 g4 g5 g6
 have main2:∀ (fuel:Nat) (listed:Array Bool) (a:Act) (w:World) (μ:Mu),listed.size=ops.size->left ops.size listed<=fuel->listed.getD l.length A6=A5 ->
   (∀ j,l.length<j->j<ops.size->listed.getD j A6=A6)->(∀ (j:Nat) ao,l[j]?=A4 ao->listed.getD j A6=A6->Float1 s chk ao) ->
   (∀ (i:Nat) (o:Oper),ops[i]?=A4 o->listed.getD i A6=A5->∀ p∈aZ o,listed.getD p A6=A5) ->
   Sim2 Γ l s h.length N e vs v μ0 (λi=>listed.getD i A6) h2 μ a w->wpAny P .any ops Q fuel listed a w:=by
  intro fuel
  induction fuel with
  | zero =>
   intro listed a w μ hls B57 hsd eW E3j eX S;have jP:∀ j,j<ops.size->listed.getD j A6=A5:=by
    intro j hj;cases hv:listed.getD j A6 with
    | true=>rfl
    | false =>
     have hm:j∈(E6z ops.size).filter λi=>!listed.getD i A6:=by rw [List.mem_filter];exact ⟨by simpa using hj,by rw [hv];rfl⟩
     have:=List.length_pos_of_mem hm;unfold left at B57;omega
   have hr0:r.length=0:=by
    cases hr:r.length with
    | zero=>rfl
    | succ x =>
     have h1:=jP (l.length+1) (by omega);have h3:=eW (l.length+1) (by omega) (by omega);rw [h1] at h3;cases h3
   refine A4w D.dir last 0 (l.length+1) 0 listed a w (by omega) (E56 _) hls (λj hj=>?_) (E56 _) ?_
   ·rw [jP j hj];have:j<l.length+1:=by omega
    simp [this]
   ·have:=whole listed a w μ S λj hj=>jP j (by omega)
    rw [hr0] at this;exact this
  | succ fuel ih =>
   intro listed a w μ hls B57 hsd eW E3j eX S;by_cases jP:∀ j,j<l.length->listed.getD j A6=A5
   ·refine A4w D.dir last r.length (l.length+1) (fuel+1) listed a w (by omega) (E56 _) hls (λj hj=>?_) ?_ (whole listed a w μ S jP)
    ·by_cases hjl:j<l.length+1
     ·have:listed.getD j A6=A5:=by
       by_cases e1:j=l.length
       ·subst e1;exact hsd
       ·exact jP j (by omega)
      rw [this];simp [hjl]
     ·rw [eW j (by omega) hj];simp [hjl]
    ·refine E6J ?_ B57;unfold left;have:((E6z ops.size).filter λi=>!listed.getD i A6)=E6v (l.length+1) r.length:=by
      rw [show ops.size=(l.length+1)+r.length by omega,List.range_add,E66];have e1:(E6z (l.length+1)).filter (λi=>!listed.getD i A6)=[]:=by
       rw [List.filter_eq_nil_iff];intro j hj;have hj:j<l.length+1:=by simpa using hj
       have:listed.getD j A6=A5:=by
        by_cases e1:j=l.length
        ·subst e1;exact hsd
        ·exact jP j (by omega)
       rw [this];simp
      rw [e1,E6s,List.range'_eq_map_range,List.filter_eq_self.2];intro j hj;obtain ⟨x,hx,rfl⟩:=List.mem_map.1 hj;rw [eW _ (by omega) (by simp at hx;omega)];rfl
     rw [this];simp
   ·have hex:∃ j,j<l.length/\listed.getD j A6=A6:=by
     false_or_by_contra
     rename_i hn;exact jP λj hj=>by
      cases hv:listed.getD j A6 with
      | true=>rfl
      | false=>exact absurd ⟨j,hj,hv⟩ hn
    obtain ⟨j,hj,hv⟩:=hex;refine ⟨λhre=>absurd hre (B0J D.dir hls j (by omega) hv),λi hi=>?_⟩;obtain ⟨o,ho,h3,h4⟩:=pT.1 hi;have hin:=(Array.getElem?_eq_some_iff.1 ho).1;rw [getD_both (by omega)] at h3;have hah:=A0p (done:=λi=>listed.getD i A6) D.dir eX i o ho h4;have K7:i<l.length:=by
     by_cases e1:i<l.length
     ·exact e1
     ·by_cases e2:i=l.length
      ·subst e2;rw [hsd] at h3;cases h3
      ·have:=hah j (last i (by omega) hin j (by omega))
       try simp only at this
       rw [hv] at this;cases this
    have hao:=E51 K7;have oI:=D79 D hR hE ht he hag S (i:=i) (ao:=l[i]) (o:=o) hao ho h3 (E3j i l[i] hao h3) D52 hah
     (next:=wpAny P .any ops Q fuel (listed.setIfInBounds i A5)) (Q:=Q) (by
      intro V w' μ' S';rw [<-T0 (by omega)] at S';refine ih (listed.setIfInBounds i A5) _ w' μ' (by simpa using hls) (by have:=B9l hin hls h3;omega) ?_ ?_ ?_ ?_ S'
      ·have:=congrFun (T0 (listed:=listed) (i:=i) (by omega)) l.length
       try simp only at this
       rw [this,aW _ _ (by omega)];exact hsd
      ·intro k hk hkn;have:=congrFun (T0 (listed:=listed) (i:=i) (by omega)) k
       try simp only at this
       rw [this,aW _ _ (by omega)];exact eW k hk hkn
      ·intro k ak tO hdk;have e1:=congrFun (T0 (listed:=listed) (i:=i) (by omega)) k
       try simp only at e1
       rw [e1] at hdk;by_cases e2:k=i
       ·subst e2;rw [A0q] at hdk;cases hdk
       ·rw [aW _ _ e2] at hdk;exact E3j k ak tO hdk
      ·intro k ok vA hdk p hp;have e1:=congrFun (T0 (listed:=listed) (i:=i) (by omega)) k;have e2:=congrFun (T0 (listed:=listed) (i:=i) (by omega)) p
       try simp only at e1 e2
       rw [e1] at hdk;rw [e2];have B56:listed.getD p A6=A5:=by
        by_cases e3:k=i
        ·subst e3;rw [ho] at vA;cases vA;exact h4 p hp
        ·rw [aW _ _ e3] at hdk;exact eX k ok vA hdk p hp
       unfold rP;show (decide (p=i)||listed.getD p A6)=A5;rw [B56];simp)
    unfold wpOp;rw [ho];exact oI
 have main:∀ (fuel:Nat) (listed:Array Bool) (a:Act) (w:World) (q:Nat) (μ:Mu),listed.size=ops.size->left ops.size listed<=fuel ->
   (∀ j,l.length<=j->j<ops.size->listed.getD j A6=A6)->(∀ (i:Nat) (o:Oper),ops[i]?=A4 o->listed.getD i A6=A5->∀ p∈aZ o,listed.getD p A6=A5) ->
   Sim Γ l h.length N e es hs vs μ0 (λi=>listed.getD i A6) q μ a w->wpAny P .any ops Q fuel listed a w:=by
  intro fuel
  induction fuel with
  | zero =>
   intro listed a w q μ hls B57 eW eX S;have hv:=eW l.length (E56 _) hnl;have hm:l.length∈(E6z ops.size).filter λi=>!listed.getD i A6:=by rw [List.mem_filter];exact ⟨by simpa using hnl,by rw [hv];rfl⟩
   have:=List.length_pos_of_mem hm;unfold left at B57;omega
  | succ fuel ih =>
   intro listed a w q μ hls B57 eW eX S;have hv:=eW l.length (E56 _) hnl;refine ⟨λhre=>absurd hre (B0J D.dir hls l.length hnl hv),λi hi=>?_⟩;obtain ⟨o,ho,h3,h4⟩:=pT.1 hi;have hin:=(Array.getElem?_eq_some_iff.1 ho).1;rw [getD_both (by omega)] at h3;have hah:=A0p (done:=λi=>listed.getD i A6) D.dir eX i o ho h4;have oG:∀ k,listed.getD k A6=A5->∀ b,((S4 ops).getD k 0).testBit b=A5->listed.getD b A6=A5:=by
    intro k hk b hb;by_cases hkn:k<ops.size
    ·have vA:ops[k]?=A4 ops[k]:=by simp [hkn]
     exact A0p (done:=λi=>listed.getD i A6) D.dir eX k _ vA (eX k _ vA hk) b hb
    ·have:listed.getD k A6=A6:=by simp [Array.getD,show ¬ k<listed.size by omega]
     rw [this] at hk;cases hk
   have D2v:∀ k ok,ops[k]?=A4 ok->(listed.setIfInBounds i A5).getD k A6=A5->∀ p∈aZ ok,(listed.setIfInBounds i A5).getD p A6=A5:=by
    intro k ok vA hdk p hp;have e1:=congrFun (T0 (listed:=listed) (i:=i) (by omega)) k;have e2:=congrFun (T0 (listed:=listed) (i:=i) (by omega)) p
    try simp only at e1 e2
    rw [e1] at hdk;rw [e2];have B56:listed.getD p A6=A5:=by
     by_cases e3:k=i
     ·subst e3;rw [ho] at vA;cases vA;exact h4 p hp
     ·rw [aW _ _ e3] at hdk;exact eX k ok vA hdk p hp
    unfold rP;show (decide (p=i)||listed.getD p A6)=A5;rw [B56];simp
   by_cases K7:i<l.length
   ·have oI:=D3F D hE ht h0 he S (i:=i) (ao:=l[i]) (o:=o) (E51 K7) ho h3 hah oG
     (next:=wpAny P .any ops Q fuel (listed.setIfInBounds i A5)) (Q:=Q) (by
      intro V w' μ' q' S';rw [<-T0 (by omega)] at S';refine ih (listed.setIfInBounds i A5) _ w' q' μ' (by simpa using hls) (by have:=B9l hin hls h3;omega) ?_ D2v S';intro k hk hkn;have:=congrFun (T0 (listed:=listed) (i:=i) (by omega)) k
      try simp only at this
      rw [this,aW _ _ (by omega)];exact eW k hk hkn)
    unfold wpOp;rw [ho];exact oI
   ·have hie:i=l.length:=by
     by_cases e1:i=l.length
     ·exact e1
     ·have:=hah l.length (last i (by omega) hin l.length (by omega))
      try simp only at this
      rw [hv] at this;cases this
    subst hie;have hoo:o=ops[l.length]:=by rw [hos] at ho;cases ho;rfl
    have B56:∀ (j:Nat) aj,l[j]?=A4 aj->listed.getD j A6=A6->Float1 s chk aj:=by
     intro j aj qZ hdj;refine E3k j aj qZ ?_;cases hb:((S4 ops).getD l.length 0).testBit j with
     | false=>rfl
     | true =>
      have:=hah j hb
      try simp only at this
      rw [hdj] at this;cases this
    have hlen:(hs l.length).length=(hs q).length:=by
     have hql:=S.qle;have:=A1U D ht (q:=q) (l.length-q) (by omega) λk ak h1 h2 tO=>by
      cases hck:aI ak.op with
      | false=>rfl
      | true =>
       have hd1:listed.getD k A6=A5:=by
        cases hd2:listed.getD k A6 with
        | true=>rfl
        | false=>have:=(B56 k ak tO hd2).call;rw [hck] at this;cases this
       have:=(S.calls k ak tO hck).1 hd1;omega
     rwa [show q+(l.length-q)=l.length by omega] at this
    have C9e:HD (hs l.length) (und l h.length λi=>listed.getD i A6) (hs q).length=hs l.length:=by
     refine A1O (by rw [K0,hlen]) λid hid=>?_
     rw [K0] at hid;have hu:und l h.length (λi=>listed.getD i A6) id=A6:=by
      cases hu:und l h.length (λi=>listed.getD i A6) id with
      | false=>rfl
      | true =>
       obtain ⟨k,hk,ao,j,tO,hj,_⟩:=bA.1 hu;have:=(B56 k ao tO hk).slot;rw [hj] at this;cases this
     rw [zT,if_pos ⟨hid,hu⟩]
    have hinv:=S.inv;rw [C9e] at hinv;have C78:SEnv μ ((es l.length).keep s.reads) a:=by
     intro t;rw [Env.get_keep_mem];split
     ·rename_i kY;by_cases hw:∃ (j:Nat) (aj:AOper),l[j]?=A4 aj/\aj.dst=A4 t
      ·obtain ⟨j,aj,qZ,hdj⟩:=hw;have hjl:=(List.getElem?_eq_some_iff.1 qZ).1;rw [uL D ht qZ hdj l.length hjl (E56 _)];refine S.envD j aj t qZ ?_ hdj;cases hd2:listed.getD j A6 with
       | true=>rfl
       | false =>
        obtain ⟨d,h5,h6,_⟩:=(B56 j aj qZ hd2).dst;rw [hdj] at h5;cases h5;exact absurd kY h6
      ·have Y3:∀ (j:Nat) (aj:AOper),l[j]?=A4 aj->aj.dst≠A4 t:=λj aj qZ hdj=>hw ⟨j,aj,qZ,hdj⟩
       rw [A1I ht he l.length (E56 _) λj aj _ qZ=>Y3 j aj qZ];exact S.envO t λj aj qZ _=>Y3 j aj qZ
     ·trivial
    have E2F:=B83;rw [C06 (e':=(es l.length).keep s.reads) λt ht'=>by rw [Env.get_keep_mem,if_pos ht']] at E2F;unfold wpOp;rw [ho];subst hoo;refine A8l (hr:=hs l.length) (n0:=0) hE E4d E2F C78 hinv (λ_ _ h=>h) (by rw [D9N];trivial) ?_;intro V w' μ' kX hv' E4l Y5;rw [D9N] at Y5;have D51:=T0 (listed:=listed) (i:=l.length) (by omega);refine main2 fuel (listed.setIfInBounds l.length A5) _ w' μ' (by simpa using hls) (by have:=B9l hin hls h3;omega) ?_ ?_ ?_ D2v ?_
    ·have:=congrFun D51 l.length
     try simp only at this
     rw [this];exact A0q _ _
    ·intro k hk hkn;have:=congrFun D51 k
     try simp only at this
     rw [this,aW _ _ (by omega)];exact eW k (by omega) hkn
    ·intro k ak tO hdk;have hkl:=(List.getElem?_eq_some_iff.1 tO).1;have:=congrFun D51 k
     try simp only at this
     rw [this,aW _ _ (by omega)] at hdk;exact B56 k ak tO hdk
    ·have hsame:∀ k:Nat,k<l.length->(listed.setIfInBounds l.length A5).getD k A6=listed.getD k A6:=by
      intro k hkl;have:=congrFun D51 k
      try simp only at this
      rw [this,aW _ _ (by omega)]
     refine ⟨?_,?_,?_,E4l,Mu.le_trans S.le kX,?_,by rw [Act.size_put];exact S.size,by rw [put_defers];exact S.defers⟩
     ·intro k ak d tO hdk hd;have hkl:=(List.getElem?_eq_some_iff.1 tO).1
      try simp only at hdk
      rw [hsame k hkl] at hdk;rw [B3C (by rw [D2A.1];exact λh=>D52 k ak d tO h hd)];exact (S.envD k ak d tO hdk hd).mono kX
     ·intro t Y3 mM;rw [B3C (by rw [D2A.1];exact mM)];refine (S.envO t λk ak tO hdk=>Y3 k ak tO ?_).mono kX;have hkl:=(List.getElem?_eq_some_iff.1 tO).1
      try simp only
      rw [hsame k hkl];exact hdk
     ·intro d hd;rw [D2A.1,hd,B55 (by rw [<-hd,<-D2A.1];exact D2A.2) S.size];exact hv'
     ·intro id hid;rw [<-S.keep id hid];exact Y5 id (by omega) λj hj=>by cases hj
 have hgd:∀ i:Nat,(Array.replicate ops.size A6).getD i A6=A6:=by intro i;simp [Array.getD]
 have E3l:(λi=>(Array.replicate ops.size A6).getD i A6)=λ_=>A6:=funext hgd
 refine main ops.size (Array.replicate ops.size A6) a _ 0 μ0 (by simp) ?_ (λj _ _=>hgd j) (λi o _ hd=>by rw [hgd] at hd;cases hd) ?_
 ·unfold left;exact E6J (E6R _ _) (by simp)
 ·rw [E3l];have E3o:HD (hs l.length) (und l h.length λ_=>A6) (hs 0).length=h++E55 m A7:=by
   rw [h0];refine A1O (by rw [K0]) λid hid=>?_
   rw [K0] at hid;rw [zT];by_cases ho:∃ i,A5b l h.length i id
   ·obtain ⟨i,ho⟩:=ho;have hu:und l h.length (λ_=>A6) id=A5:=bA.2 ⟨i,rfl,ho⟩;rw [hu];have:=A87 D ht h0 ho 0 (Nat.zero_le _);rw [h0] at this;rw [this];simp
   ·have Y3:∀ i,0<=i->¬ A5b l h.length i id:=λi _ hi=>ho ⟨i,hi⟩
    have hu:und l h.length (λ_=>A6) id=A6:=by
     cases hu:und l h.length (λ_=>A6) id with
     | false=>rfl
     | true=>obtain ⟨i,_,hi⟩:=bA.1 hu;exact absurd ⟨i,hi⟩ ho
    rw [if_pos ⟨hid,hu⟩];have:=sA D ht (k:=0) (id:=id) (by rw [h0];exact hid) Y3 l.length (by omega);rw [E6j,h0] at this;exact this
  refine ⟨Nat.zero_le _,λi ao _ _=>⟨λh=>(by cases h),λh=>(by omega)⟩,λi ao d _ h=>(by cases h),λt _=>hs0 t,?_,λid hid=>?_,Mu.le_refl _,λ_ _=>rfl,hN,hd⟩
  ·rw [E3o];exact (hi.pad m).world rfl rfl rfl λ_ _=>rfl
  ·obtain ⟨i,_,ao,j,_,_,rfl⟩:=bA.1 hid;exact hi.dom _ (by omega)
def sw(k i:Nat):Nat:=if i=k then k+1 else if i=k+1 then k else i
def D6B(k i:Nat):sw k (sw k i)=i:=by unfold sw;split<;>(try split)<;>(try split)<;>omega
def D6A{k i n:Nat}(hk:k+1<n):sw k i<n↔i<n:=by unfold sw;split<;>(try split)<;>omega
def E3Y{k i j:Nat}(h:sw k i=sw k j):i=j:=by rw [<-D6B k i,h,D6B]
def swO(k:Nat)(o:Oper):Oper:={ o with after:=o.after.map λe=>{ e with on:=sw k e.on },guard:=o.guard.map λg=>(sw k g.1,g.2) }
def swp(k:Nat)(ops:Array Oper):Array Oper:=((E6z ops.size).map λi=>swO k (ops.getD (sw k i) default)).toArray
def swp_size(k:Nat)(ops:Array Oper):(swp k ops).size=ops.size:=by simp [swp]
def D5x{k:Nat}{ops:Array Oper}(hk:k+1<ops.size)(i:Nat):(swp k ops)[sw k i]?=(ops[i]?).map (swO k):=by
 by_cases hi:i<ops.size
 ·have h1:sw k i<ops.size:=(D6A hk).2 hi;unfold swp;simp [h1,hi,D6B]
 ·have h1:¬ sw k i<ops.size:=λh=>hi ((D6A hk).1 h)
  rw [Array.getElem?_eq_none (by rw [swp_size];omega),Array.getElem?_eq_none (by omega)];rfl
def C24(k:Nat)(o:Oper):aZ (swO k o)=(aZ o).map (sw k):=by
 unfold aZ swO;simp only [Array.toList_map];rw [List.filter_map,List.map_map,List.map_map]
 congr 1
def D5w{k:Nat}{ops:Array Oper}(hk:k+1<ops.size)(o:Oper)(t:Array Value):Region.wanted (swO k o) (yielded (swp k ops) t)=Region.wanted o (yielded ops t):=by
 unfold Region.wanted swO;cases hg:o.guard with
 | none=>rfl
 | some g =>
  obtain ⟨j,b⟩:=g;simp only [E6I];unfold yielded;rw [D5x hk];cases ops[j]?<;>rfl
def E2r{P:Program}{k:Nat}{ops:Array Oper}(hk:k+1<ops.size){Q:Exit->Act->World->Prop}{i:Nat}{a:Act}{w:World}{K:Act->World->Prop}:wpOp P (swp k ops) Q (sw k i) K a w=wpOp P ops Q i K a w:=by
 unfold wpOp;rw [D5x hk];cases hi:ops[i]? with
 | none=>rfl
 | some o =>
  simp only [E6I];rw [D5w hk];rfl
def C62{k:Nat}{ops:Array Oper}(hk:k+1<ops.size){l l':Array Bool}(hl:∀ i b,l'.getD (sw k i) b=l.getD i b)(i:Nat):sw k i∈Region.ready .any (swp k ops) l'↔i∈Region.ready .any ops l:=by
 rw [pT,pT,D5x hk];constructor
 ·rintro ⟨o',h1,h2,h3⟩;cases ho:ops[i]? with
  | none=>rw [ho] at h1;cases h1
  | some o =>
   rw [ho] at h1;cases h1;refine ⟨o,rfl,by rw [<-hl];exact h2,λp hp=>?_⟩;rw [<-hl];exact h3 _ (by rw [C24];exact List.mem_map.2 ⟨p,hp,rfl⟩)
 ·rintro ⟨o,h1,h2,h3⟩;refine ⟨swO k o,by rw [h1];rfl,by rw [hl];exact h2,λp hp=>?_⟩;rw [C24] at hp;obtain ⟨q,hq,rfl⟩:=List.mem_map.1 hp;rw [hl];exact h3 q hq
def D1d{k:Nat}{ops:Array Oper}(hk:k+1<ops.size){l l':Array Bool}(hl:∀ i b,l'.getD (sw k i) b=l.getD i b)(h:Region.ready .any ops l=[]):Region.ready .any (swp k ops) l'=[]:=by
 rw [List.eq_nil_iff_forall_not_mem];intro i hi;have:=(C62 hk hl (sw k i)).1 (by rw [D6B];exact hi);rw [h] at this;cases this
def D3Y{P:Program}{k:Nat}{ops:Array Oper}(hk:k+1<ops.size){Q:Exit->Act->World->Prop}:∀ (fuel:Nat) (l l':Array Bool) (a:Act) (w:World),l.size=ops.size->l'.size=ops.size->(∀ i b,l'.getD (sw k i) b=l.getD i b) ->
  wpAny P .any (swp k ops) Q fuel l' a w->wpAny P .any ops Q fuel l a w
 | 0,l,l',a,w,s1,s2,hl,h=>by
  refine ⟨?_,h.2⟩;rw [List.eq_nil_iff_forall_not_mem];intro i hi;have:=(C62 hk hl i).2 hi;rw [h.1] at this;cases this
 | fuel+1,l,l',a,w,s1,s2,hl,h=>by
  refine ⟨λhe=>h.1 (D1d hk hl he),λi hi=>?_⟩;have h1:=h.2 (sw k i) ((C62 hk hl i).2 hi);rw [E2r hk] at h1;have W5:i<ops.size:=by
   obtain ⟨o,ho,_⟩:=pT.1 hi;exact (Array.getElem?_eq_some_iff.1 ho).1
  have E5l:sw k i<l'.size:=by rw [s2];exact (D6A hk).2 W5
  refine wpOp_mono (λa w hh=>D3Y hk fuel _ _ a w (by simpa using s1) (by simpa using s2) (λj b=>?_) hh) h1;by_cases e:j=i
  ·subst e;simp [Array.getD,E5l,show j<l.size by omega]
  ·have e2:sw k j≠sw k i:=λh=>e (E3Y h)
   rw [Array.getD_eq_getD_getElem?,Array.getD_eq_getD_getElem?,Array.getElem?_setIfInBounds_ne (Ne.symm e2),Array.getElem?_setIfInBounds_ne (Ne.symm e),<-Array.getD_eq_getD_getElem?,<-Array.getD_eq_getD_getElem?];exact hl j b
def D9l{P:Program}{N L:Nat}{ops:Array Oper}{m id:Nat}{l r:List AOper}{s:AOper}{chk:List (Nat × AOp)}{E:K6}(hE:iK P E){e:Env}{h:A9}{R:Type}{k:Env->A9->Option R}{res:R}
  (hc:(A3h P N ops m l (s::r)&&D6T ops l s chk r)=A5\/(decide (l.length<ops.size)&&decide (0<l.length)&&A3h P N (swp (l.length-1) ops) m l (s::r)&&D6T (swp (l.length-1) ops) l s chk r)=A5) (hL:L<=h.length)
  (D5:B5R E h h.length l e (h++E55 m A7) (λe h=>aA E A6 h 0 s e h λv h2=>again chk e h2 (B23 E r (e.put s.dst v) h2 k))=A4 res) :
  ∃ e' h',k e' h'=A4 res/\L<=h'.length/\B4t P N L ((Code.region id ops A5).wp P) e h .normal e' h':=by
 rcases hc with hc | hc
 ·rw [E53] at hc;obtain ⟨e',h',h1,h2,h3⟩:=C85 hE hc.1 hc.2 hL D5;exact ⟨e',h',h1,h2,fun Γ μ0 a w g1 g2 g3 g4 Q hq=>wp_region_any (B0e hc.1).follows (h3 Γ μ0 a w g1 g2 g3 g4 Q hq)⟩
 ·simp only [E53,decide_eq_true_eq] at hc;obtain ⟨⟨⟨hs,h0⟩,hc⟩,hcs⟩:=hc;obtain ⟨e',h',h1,h2,h3⟩:=C85 hE hc hcs hL D5;refine ⟨e',h',h1,h2,fun Γ μ0 a w g1 g2 g3 g4 Q hq=>wp_region_any (B0e hc).follows ?_⟩;have hk:l.length-1+1<ops.size:=by omega
  refine D3Y hk _ _ (Array.replicate ops.size A6) a _ (by simp) (by simp) (λi b=>?_) ?_
  ·simp only [Array.getD,Array.size_replicate,D6A hk];split<;>simp
  ·have:=h3 Γ μ0 a w g1 g2 g3 g4 Q hq;simpa only [swp_size] using this
def C1e(P:Program)(N:Nat)(ops:Array Oper):List Oper->List AOper->Bool
 | [],[]=>A5
 | o::r,a::l=>bN P N ops o a&&decide (a.slot=A7)&&C1e P N ops r l
 | _,_=>A6
def aY(P:Program)(N:Nat):Code->ACode->Bool
 | c,.skip=>(match c with | .skip=>A5 | _=>A6)
 | c,.ops l=>(match c with | .region _ ops false=>C1e P N ops ops.toList l | _=>A6)
 | c,.draw m l r=>(match c with | .region _ ops true=>A3h P N ops m l r&&B8O ops l.length r.length | _=>A6)
 | c,.drawS m l s chk r=>(match c with | .region _ ops true=>(A3h P N ops m l (s::r)&&D6T ops l s chk r)||(decide (l.length<ops.size)&&decide (0<l.length)&&A3h P N (swp (l.length-1) ops) m l (s::r)&&D6T (swp (l.length-1) ops) l s chk r) | _=>A6)
 | c,.seq _ a b=>(match c with | .seq x y=>aY P N x a&&aY P N y b | _=>A6)
 | c,.cond q a b=>(match c with | .cond z x y=>E6 z q&&aY P N x a&&aY P N y b | _=>A6)
 | c,.block id a=>(match c with | .block dM x=>decide (dM=id)&&aY P N x a | _=>A6)
 | c,.loop _ a=>(match c with | .loop x=>aY P N x a | _=>A6)
 | c,.exit id=>(match c with | .exit dM=>decide (dM=id) | _=>A6)
 | c,.ret=>(match c with | .ret=>A5 | _=>A6)
def cM(P:Program):List ResultVar->List ARes->Bool
 | [],[]=>A5
 | .tmp t::r,.tmp t'::l=>decide (t=t')&&cM P r l
 | .cell t ty::r,.cell1 t'::l=>decide (t=t')&&decide (nP P ty=A4 A6)&&cM P r l
 | .cell t ty::r,.cellN t' n::l=>decide (t=t')&&decide (nP P ty=A4 A5)&&decide (S6 P ty=A4 n)&&cM P r l
 | _,_=>A6
def C5w(P:Program)(fn:Func)(f:AFn):Bool :=
 (match fn.body with | some c => aY P fn.ntmps c f.code | none => false) && cM P fn.results.toList f.res && !(fn.name == "runtime.NumGoroutine")
section
variable {P:Program} {R:Type}
def C80{N:Nat}{ops:Array Oper}:∀ (pre:List Oper) (os:List Oper) (aos:List AOper),ops.toList=pre++os->C1e P N ops os aos=A5 ->
  All2 (λi ao=>∃ o,ops[i]?=A4 o/\bN P N ops o ao=A5/\ao.slot=A7) (E6v pre.length os.length) aos
 | pre,[],[],_,_=>trivial
 | pre,o::os,ao::aos,he,hc=>by
  simp only [C1e,E53,decide_eq_true_eq] at hc;rw [E6g,List.range'_succ];refine ⟨⟨o,?_,hc.1.1,hc.1.2⟩,?_⟩
  ·rw [<-Array.getElem?_toList,he];simp
  ·have:=C80 (pre++[o]) os aos (by rw [he];simp) hc.2;simpa using this
 | _,[],_::_,_,h=>by simp [C1e] at h
 | _,_::_,[],_,h=>by simp [C1e] at h
def D34{N L:Nat}{E:K6}(hE:iK P E)(n:Nat):∀ (ac:ACode) (c:Code) (k:AExit->Env->A9->Option R) (e:Env) (h:A9) (r:R),
  aY P N c ac=A5->aex E n ac k e h=A4 r->L<=h.length->∃ x e' h',k x e' h'=A4 r/\L<=h'.length/\B4t P N L (c.wp P) e h x e' h':=by
 intro ac
 induction ac with
 | skip =>
  intro c k e h r hc D5 hL;unfold aY at hc;split at hc
  ·exact ⟨.normal,e,h,D5,hL,fun Γ μ a w hs hi hN hd Q hq=>wp_skip (hq μ a w (Mu.le_refl _) (λ_ _=>rfl) hs hi hN hd)⟩
  ·cases hc
 | ops l =>
  intro c k e h r hc D5 hL;unfold aY at hc;split at hc
  ·rename_i id ops;simp only [aex,E0K] at D5;obtain ⟨e',h',hk,hL',mM⟩:=C37 hE _ l e h _ r (C80 [] ops.toList l rfl hc) D5 hL;refine ⟨.normal,e',h',hk,hL',fun Γ μ a w hs hi hN hd Q hq=>wp_region ?_⟩;have:=mM Γ μ a w hs hi hN hd Q hq;simpa [List.range_eq_range'] using this
  ·cases hc
 | draw m l r' =>
  intro c k e h r hc D5 hL;unfold aY at hc;split at hc
  ·rename_i id ops;simp only [aex,D5p] at D5;rw [E53] at hc;obtain ⟨e',h',hk,hL',mM⟩:=E1v (id:=id) hE hc.1 hc.2 hL D5;exact ⟨.normal,e',h',hk,hL',mM⟩
  ·cases hc
 | drawS m l s chk r' =>
  intro c k e h r hc D5 hL;unfold aY at hc;split at hc
  ·rename_i id ops;simp only [aex,D1h] at D5;obtain ⟨e',h',hk,hL',mM⟩:=D9l (id:=id) hE (by simpa only [Bool.or_eq_true] using hc) hL D5;exact ⟨.normal,e',h',hk,hL',mM⟩
  ·cases hc
 | seq keep a b iha ihb =>
  intro c k e h r hc D5 hL;unfold aY at hc;split at hc
  ·rename_i x y;simp only [E53] at hc;simp only [aex,D3J,D9R] at D5;obtain ⟨x1,e1,h1,hk1,hL1,B1N⟩:=iha x _ e h r hc.1 D5 hL;cases x1 with
   | normal =>
    change hold (aex E n b k (e1.keep keep) h1)=A4 r at hk1;simp only [hold] at hk1;obtain ⟨x2,e2,h2,hk2,hL2,E3q⟩:=ihb y k (e1.keep keep) h1 r hc.2 hk1 hL1;refine ⟨x2,e2,h2,hk2,hL2,fun Γ μ a w hs hi hN hd Q hq=>wp_seq (B1N Γ μ a w hs hi hN hd _ ?_)⟩;intro μ1 a1 w1 g1 g2 g3 g4 g5 g6;exact E3q Γ μ1 a1 w1 (g3.keep keep) g4 g5 g6 Q fun μ2 a2 w2 f1 f2 f3 f4 f5 f6=>hq μ2 a2 w2 (Mu.le_trans g1 f1) (λid hid=>(f2 id hid).trans (g2 id hid)) f3 f4 f5 f6
   | exit id=>exact ⟨.exit id,e1,h1,hk1,hL1,fun Γ μ a w hs hi hN hd Q hq=>wp_seq (B1N Γ μ a w hs hi hN hd _ hq)⟩
   | ret=>exact ⟨.ret,e1,h1,hk1,hL1,fun Γ μ a w hs hi hN hd Q hq=>wp_seq (B1N Γ μ a w hs hi hN hd _ hq)⟩
  ·cases hc
 | cond q a b iha ihb =>
  intro c k e h r hc D5 hL;unfold aY at hc;split at hc
  ·rename_i z x y;simp only [E53] at hc;simp only [aex,C68,cnd] at D5;split at D5
   ·rename_i t rX;have hz:∀ {μ:Mu} {a:Act},SEnv μ e a->a.eval z=.bool t:=by
     intro μ a hs;have:RV μ _ _:=C9 hc.1.1 hs;rw [rX] at this;exact this
    cases t with
    | true =>
     obtain ⟨x1,e1,h1,hk1,hL1,B1N⟩:=iha x k e h r hc.1.2 D5 hL;exact ⟨x1,e1,h1,hk1,hL1,fun Γ μ a w hs hi hN hd Q hq=>wp_cond_true (hz hs) (B1N Γ μ a w hs hi hN hd Q hq)⟩
    | false =>
     obtain ⟨x1,e1,h1,hk1,hL1,B1N⟩:=ihb y k e h r hc.2 D5 hL;exact ⟨x1,e1,h1,hk1,hL1,fun Γ μ a w hs hi hN hd Q hq=>wp_cond_false (hz hs) (B1N Γ μ a w hs hi hN hd Q hq)⟩
   ·cases D5
  ·cases hc
 | block id a iha =>
  intro c k e h r hc D5 hL;unfold aY at hc;split at hc
  ·rename_i dM x;simp only [E53,decide_eq_true_eq] at hc;obtain ⟨rfl,hc⟩:=hc;simp only [aex,B9S,D4N] at D5;obtain ⟨x1,e1,h1,hk1,hL1,B1N⟩:=iha x _ e h r hc D5 hL;cases x1 with
   | normal=>exact ⟨.normal,e1,h1,hk1,hL1,fun Γ μ a w hs hi hN hd Q hq=>wp_block (B1N Γ μ a w hs hi hN hd _ hq)⟩
   | exit i =>
    change (bif Nat.beq i dM then k .normal e1 h1 else k (.exit i) e1 h1)=A4 r at hk1;cases hb:Nat.beq i dM with
    | true =>
     rw [hb] at hk1;have hi':=Nat.eq_of_beq_eq_true hb;subst hi';exact ⟨.normal,e1,h1,hk1,hL1,fun Γ μ a w hs hi hN hd Q hq=>wp_block (B1N Γ μ a w hs hi hN hd _ fun μ1 a1 w1 g1 g2 g3 g4 g5 g6=>by
      show (if i=i then Q .normal a1 w1 else _);rw [if_pos rfl];exact hq μ1 a1 w1 g1 g2 g3 g4 g5 g6)⟩
    | false =>
     rw [hb] at hk1;have aR:i≠dM:=by intro e;subst e;simp at hb
     exact ⟨.exit i,e1,h1,hk1,hL1,fun Γ μ a w hs hi hN hd Q hq=>wp_block (B1N Γ μ a w hs hi hN hd _ fun μ1 a1 w1 g1 g2 g3 g4 g5 g6=>by
      show (if i=dM then _ else Q (.exit i) a1 w1);rw [if_neg aR];exact hq μ1 a1 w1 g1 g2 g3 g4 g5 g6)⟩
   | ret=>exact ⟨.ret,e1,h1,hk1,hL1,fun Γ μ a w hs hi hN hd Q hq=>wp_block (B1N Γ μ a w hs hi hN hd _ hq)⟩
  ·cases hc
 | loop keep a iha =>
  intro c k e h r hc D5 hL;unfold aY at hc;split at hc
  ·rename_i x;simp only [aex,C69] at D5;have key:∀ (m:Nat) (e:Env) (h:A9),A7q (aex E n a) keep k m e h=A4 r->L<=h.length ->
     ∃ x1 e' h',k x1 e' h'=A4 r/\L<=h'.length/\B4t P N L (λQ=>Code.rounds P x Q m) e h x1 e' h':=by
    intro m
    induction m with
    | zero=>intro e h D5;rw [C2u] at D5;cases D5
    | succ m ih =>
     intro e h D5 hL;rw [C2t] at D5;obtain ⟨x1,e1,h1,hk1,hL1,B1N⟩:=iha x _ e h r hc D5 hL;cases x1 with
     | normal =>
      simp only at hk1;obtain ⟨x2,e2,h2,hk2,hL2,E3q⟩:=ih (e1.keep keep) h1 hk1 hL1;refine ⟨x2,e2,h2,hk2,hL2,fun Γ μ a w hs hi hN hd Q hq=>?_⟩;show Code.rounds P x Q (m+1) a w;rw [rounds_succ];refine B1N Γ μ a w hs hi hN hd _ ?_;intro μ1 a1 w1 g1 g2 g3 g4 g5 g6;exact E3q Γ μ1 a1 w1 (g3.keep keep) g4 g5 g6 Q fun μ2 a2 w2 f1 f2 f3 f4 f5 f6=>hq μ2 a2 w2 (Mu.le_trans g1 f1) (λid hid=>(f2 id hid).trans (g2 id hid)) f3 f4 f5 f6
     | exit id=>exact ⟨.exit id,e1,h1,hk1,hL1,fun Γ μ a w hs hi hN hd Q hq=>by
       show Code.rounds P x Q (m+1) a w;rw [rounds_succ];exact B1N Γ μ a w hs hi hN hd _ hq⟩
     | ret=>exact ⟨.ret,e1,h1,hk1,hL1,fun Γ μ a w hs hi hN hd Q hq=>by
       show Code.rounds P x Q (m+1) a w;rw [rounds_succ];exact B1N Γ μ a w hs hi hN hd _ hq⟩
   obtain ⟨x1,e1,h1,hk1,hL1,B1N⟩:=key n (e.keep keep) h D5 hL;exact ⟨x1,e1,h1,hk1,hL1,fun Γ μ a w hs hi hN hd Q hq=>wp_loop_rounds n (B1N Γ μ a w (hs.keep keep) hi hN hd Q hq)⟩
  ·cases hc
 | exit id =>
  intro c k e h r hc D5 hL;unfold aY at hc;split at hc
  ·simp at hc;subst hc;exact ⟨.exit _,e,h,D5,hL,fun Γ μ a w hs hi hN hd Q hq=>wp_exit (hq μ a w (Mu.le_refl _) (λ_ _=>rfl) hs hi hN hd)⟩
  ·cases hc
 | ret =>
  intro c k e h r hc D5 hL;unfold aY at hc;split at hc
  ·exact ⟨.ret,e,h,D5,hL,fun Γ μ a w hs hi hN hd Q hq=>wp_ret (hq μ a w (Mu.le_refl _) (λ_ _=>rfl) hs hi hN hd)⟩
  ·cases hc
def B35(tmps:Array Value):ResultVar->Sem Value
 | .tmp t=>pure (tmps.getD t undef)
 | .cell a t=>do loadVar t (<-asAddr (tmps.getD a undef))
def C9w{Γ:Ctx}{μ:Mu}{e:Env}{h:A9}{a:Act}{w:World}{q:ResultVar}{q':ARes}{v:Val}(hs:SEnv μ e a)(hi:Inv Γ μ h w)(hc:cM P [q] [q']=A5)(hv:D6J e h q'=A4 v) :
  ∃ V,(B35 a.tmps q).run P w=.ok V w/\RV μ v V:=by
 cases q with
 | tmp t =>
  cases q' with
  | tmp t' =>
   simp [cM] at hc;subst hc;simp [D6J] at hv;subst hv;exact ⟨_,rfl,hs t⟩
  | cell1 t'=>simp [cM] at hc
  | cellN t' n=>simp [cM] at hc
 | cell t ty =>
  cases q' with
  | tmp t'=>simp [cM] at hc
  | cell1 t' =>
   simp [cM] at hc;obtain ⟨rfl,rW⟩:=hc;simp only [D6J] at hv;obtain ⟨V,h1,h2⟩:=C9G (P:=P) (w:=w) rW hi.rows (hs t) hv;refine ⟨V,?_,h2⟩;rw [<-h1];have:∃ b,a.tmps.getD t undef=.pointer (A4 b):=by
    unfold B9 at hv;split at hv
    ·rename_i rX;have:=hs t;rw [rX] at this;obtain ⟨b,n,_,h3⟩:=this;exact ⟨_,h3⟩
    ·cases hv
   obtain ⟨b,hb⟩:=this;simp only [B35,hb,Instr.loadAt,asAddr,Instr.sureAddr,pure_bind]
  | cellN t' n =>
   simp [cM] at hc;obtain ⟨⟨rfl,rW⟩,hsz⟩:=hc;simp only [D6J] at hv;obtain ⟨V,h1,h2⟩:=C9H (P:=P) (w:=w) rW hsz hi.rows (hs t) hv;refine ⟨V,?_,h2⟩;rw [<-h1];have:∃ b,a.tmps.getD t undef=.pointer (A4 b):=by
    unfold D1 at hv;split at hv
    ·rename_i rX;have:=hs t;rw [rX] at this;obtain ⟨b,n,_,h3⟩:=this;exact ⟨_,h3⟩
    ·cases hv
   obtain ⟨b,hb⟩:=this;simp only [B35,hb,Instr.loadAt,asAddr,Instr.sureAddr,pure_bind]
def C2y{q:ResultVar}{r:List ResultVar}{q':ARes}{l:List ARes}(h:cM P (q::r) (q'::l)=A5):cM P [q] [q']=A5/\cM P r l=A5:=by
 cases q<;>cases q'<;>simp_all [cM]
def C8K{Γ:Ctx}{μ:Mu}{e:Env}{h:A9}{a:Act}{w:World}(hs:SEnv μ e a)(hi:Inv Γ μ h w):∀ {qs:List ResultVar} {ls:List ARes} {ps:List Part},cM P qs ls=A5->C2s e h ls=A4 ps ->
  ∃ Vs:List Value,(qs.mapM (B35 a.tmps)).run P w=.ok Vs w/\All2 (RP μ) ps Vs
 | [],[],ps,_,hv=>by simp [C2s] at hv;subst hv;exact ⟨[],rfl,trivial⟩
 | q::qs,q'::ls,ps,hc,hv=>by
  simp only [C2s,E52,E6m] at hv;obtain ⟨v,hv1,p,hp,l,hl,rfl⟩:=hv;obtain ⟨h1,h2⟩:=C2y hc;obtain ⟨V,h3,h4⟩:=C9w hs hi h1 hv1;obtain ⟨Vs,h5,h6⟩:=C8K hs hi h2 hl;refine ⟨V::Vs,?_,RP.ofVal h4 hp,h6⟩;rw [List.mapM_cons];simp [h3,h5]
 | [],_::_,_,h,_=>by simp [cM] at h
 | _::_,[],_,h,_=>by simp [cM] at h
def D3p{fn:Func}{tmps:Array Value}{w:World}:(results fn tmps).run P w=((fn.results.toList.mapM (B35 tmps)).run P w).andThen λvs w=>.ok (if h:vs.toArray.size=1 then vs.toArray[0] else .tuple vs.toArray) w:=by
 unfold results;rw [Array.mapM_eq_mapM_toList];simp only [Sem.run_bind,Sem.run_map];have key:∀ g:ResultVar->Sem Value,(∀ q,g q=B35 tmps q)->((((List.mapM g fn.results.toList).run P w).andThen λa w'=>Result.ok a.toArray w').andThen λa w'=>(pure (if h:a.size=1 then a[0] else Value.tuple a):Sem Value).run P w') =
   ((fn.results.toList.mapM (B35 tmps)).run P w).andThen λvs w=>.ok (if h:vs.toArray.size=1 then vs.toArray[0] else .tuple vs.toArray) w:=by
  intro g hg;rw [funext hg];cases (fn.results.toList.mapM (B35 tmps)).run P w<;>rfl
 exact key _ λq=>by cases q<;>rfl
def B62{Γ:Ctx}{μ:Mu}{e:Env}{h h':A9}{a:Act}{w:World}{fn:Func}{rs:List ARes}{v:Val}(hs:SEnv μ e a)(hi:Inv Γ μ h w)(hc:cM P fn.results.toList rs=A5)(hv:pK rs e h=A4 (v,h')) :
  ∃ V,(results fn a.tmps).run P w=.ok V w/\RV μ v V/\h'=h:=by
 rw [D3p];unfold pK at hv;split at hv
 ·rename_i q';simp only [E6m,E6c] at hv;obtain ⟨_,h1,rfl,rfl⟩:=hv;cases hq:fn.results.toList with
  | nil=>rw [hq] at hc;simp [cM] at hc
  | cons q r =>
   cases r with
   | cons q2 r=>rw [hq] at hc;have:=(C2y hc).2;simp [cM] at this
   | nil =>
    rw [hq] at hc;obtain ⟨V,h3,h4⟩:=C9w hs hi hc h1;refine ⟨V,?_,h4,rfl⟩;rw [List.mapM_cons];simp [h3]
 ·rename_i aR;simp only [E6m,E6c] at hv;obtain ⟨l,h1,rfl,rfl⟩:=hv;obtain ⟨Vs,h3,h4⟩:=C8K hs hi hc h1;refine ⟨.tuple Vs.toArray,?_,⟨Vs,rfl,h4⟩,rfl⟩;rw [h3];have hl:Vs.length≠1:=by
   rw [<-h4.length];intro h0;have:∀ (ls:List ARes) (ps:List Part),C2s e h ls=A4 ps->ls.length=ps.length:=by
    intro ls
    induction ls with
    | nil=>intro ps h;simp [C2s] at h;subst h;rfl
    | cons x r ih =>
     intro ps h;simp only [C2s,E52,E6m] at h;obtain ⟨_,_,_,_,l',hl',rfl⟩:=h;simp [ih l' hl']
   have h5:=this _ _ h1;rw [h0] at h5;cases rs with
   | nil=>simp at h5
   | cons q r =>
    cases r with
    | nil=>exact aR q rfl
    | cons _ _=>simp at h5
  simp [hl]
def C6V:∀ (args:List Val) (i t:Nat),(params i args).get t=if i<=t then (args[t-i]?).getD .un else .un
 | [],i,t=>by simp [params,Env.get]
 | v::r,i,t=>by
  simp only [params,Env.get];by_cases h:i=t
  ·subst h;simp
  ·have hb:Nat.beq i t=A6:=by cases hb:Nat.beq i t with
    | false=>rfl
    | true=>exact absurd (Nat.eq_of_beq_eq_true hb) h
   rw [hb,cond_false,C6V r (i+1) t];by_cases h2:i<=t
   ·have:t-i=(t-(i+1))+1:=by omega
    rw [if_pos h2,if_pos (by omega),this,E6o]
   ·rw [if_neg h2,if_neg (by omega)]
def Inv.ds{Γ:Ctx}{μ:Mu}{h:A9}{w:World}(ds:List Deferred)(hi:Inv Γ μ h w):Inv { Γ with ds:=ds } μ h w :=
 ⟨hi.rows,hi.sep,hi.own,hi.dom,⟨hi.ctx.os,hi.ctx.tape,hi.ctx.output,hi.ctx.block⟩⟩
def D1J{μ:Mu}{args:List Val}{V:List Value}(hargs:All2 (RV μ) args V)(n:Nat):SEnv μ (params 0 args) { tmps:=V.toArray++Array.replicate n undef,defers:=[] }:=by
 intro t;rw [C6V];simp only [Nat.zero_le,if_true,Nat.sub_zero];cases ha:args[t]? with
 | none=>trivial
 | some x =>
  obtain ⟨X,h2,h3⟩:=hargs.get t x ha;have W5:=(List.getElem?_eq_some_iff.1 h2).1;have:(V.toArray++Array.replicate n undef).getD t undef=X:=by
   rw [Array.getD_eq_getD_getElem?,Array.getElem?_append_left (by simpa using W5)];simp [h2]
  rw [this];exact h3
def E2z{E:K6}(hE:iK P E){f:FuncId}{fn:Func}{af:AFn}(hf:P.funcs[f]?=A4 fn)(hc:C5w P fn af=A5){n:Nat}{args:List Val}{h h':A9}{v:Val}(D5:af.run E n args h=A4 (v,h')) :
  mQ P f/\h.length<=h'.length/\∃ c,fn.body=A4 c/\∀ (Γ:Ctx) (μ:Mu) (w:World) (V:List Value),Inv Γ μ h w->All2 (RV μ) args V ->
   c.wp P (bodyPost P fn λe w'=>∃ V' μ',e=.returned V' /\ μ.le μ'/\RV μ' v V'/\Inv Γ μ' h' w'/\∀ id,id<h.length -> μ' id = μ id) { tmps:=V.toArray++Array.replicate (fn.ntmps-V.toArray.size) undef,defers:=[] } w:=by
 simp only [C5w,E53,E6M] at hc;obtain ⟨⟨hb,hr⟩,D2w⟩:=hc;cases A8Q:fn.body with
 | none=>rw [A8Q] at hb;cases hb
 | some c =>
  rw [A8Q] at hb;unfold AFn.run at D5;obtain ⟨x,e',h1,hk,hL,mM⟩:=D34 (L:=h.length) hE n af.code c af.fin (params 0 args) h (v,h') hb D5 (E56 _);have hlen:h.length<=h'.length:=by
   cases x with
   | normal=>simp only [AFn.fin] at hk;unfold pK at hk;split at hk<;>simp at hk<;>obtain ⟨_,_,_,rfl⟩:=hk<;>exact hL
   | ret=>simp only [AFn.fin] at hk;unfold pK at hk;split at hk<;>simp at hk<;>obtain ⟨_,_,_,rfl⟩:=hk<;>exact hL
   | exit=>simp [AFn.fin] at hk
  refine ⟨⟨fn,hf,D2w,by simp [A8Q]⟩,hlen,c,rfl,?_⟩;intro Γ μ w V hi hargs;refine mM { Γ with ds:=[] } μ _ w (D1J hargs _) (hi.ds []) ?_ rfl _ ?_
  ·simp;omega
  ·intro μ' a' w' g1 g2 g3 g4 g5 g6;have fin:∀ hk:pK af.res e' h1=A4 (v,h'),a'.defers=[]/\∃ v_1,(results fn a'.tmps).run P w'=.ok v_1 w'/\∃ V' μ',Ending.returned v_1=.returned V' /\ μ.le μ'/\RV μ' v V'/\Inv Γ μ' h' w'/\∀ id,id<h.length -> μ' id = μ id:=by
    intro hk;obtain ⟨V',h2,h3,h4⟩:=B62 g3 g4 hr hk;subst h4;exact ⟨g6,V',h2,V',μ',rfl,g1,h3,g4.ds Γ.ds,g2⟩
   cases x with
   | normal=>exact fin hk
   | ret=>exact fin hk
   | exit=>simp [AFn.fin] at hk
def E39{E:K6}(hE:iK P E){f:FuncId}{fn:Func}{af:AFn}(hf:P.funcs[f]?=A4 fn)(hc:C5w P fn af=A5){n:Nat}{args:List Val}{h h':A9}{v:Val}(D5:af.run E n args h=A4 (v,h')) :
  mQ P f/\CallOk P f args h v h'/\h.length<=h'.length:=by
 obtain ⟨h1,h2,c,hb,hw⟩:=E2z hE hf hc D5;exact ⟨h1,fun Γ μ w V hi hargs=>calls_of_wp hf hb (hw Γ μ w V hi hargs),h2⟩
end
end Go.Esc
namespace Go.Esc
open Go Go.ChangeShapes Go.WideShapes Go.ChangeAt Go.RowKit
def C5K(W:World):Ctx:=⟨λb=>W.heap[b]?,W.os,W.tape,W.output,[]⟩
def D0l{W w:World}(h:(C5K W).ok w):Below W.heap.size W w:=by
 have hb:∀ k,k<W.heap.size->w.heap[k]?=W.heap[k]? := by
  intro k hk;have e:W.heap[k]?=A4 W.heap[k]:=by simp [hk]
  rw [e];exact h.block k _ e
 refine ⟨h.os,h.tape,h.output,?_,hb⟩;rcases Nat.eq_zero_or_pos W.heap.size with h0 | h0
 ·omega
 ·have:=hb (W.heap.size-1) (by omega);have e:W.heap[W.heap.size-1]?=A4 (W.heap[W.heap.size-1]'(by omega)):=by simp
  rw [e] at this;have:=(Array.getElem?_eq_some_iff.1 this).1;omega
def C8c{W w:World}{may:MemPlace->Prop}(h:Below W.heap.size W w):W.keptBut w may:=by
 refine ⟨h.os,h.output,λi hi=>?_⟩;rw [h.block i hi];cases W.heap[i]? with
 | none=>rfl
 | some o=>cases o<;>simp
section
variable {H:Type} {enc:TypeId × Value->H} {P:Program}
def C8Q(hl:laidOutB P=A5){W W':World}(hb:Below W.heap.size W W'):∀ {ts:List TypeId} {vs:List Value} {ds:List (DataW H)} {ps:List MemPlace},
  (∀ t∈ts,P.readableRec t=A5/\t<P.types.size)->(∀ x∈ps,x.block<W.heap.size)->DataW.TrodAll enc P W 0 (λ_=>A5) A5 ts vs ds ps->DataW.TrodAll enc P W' 0 (λb=>decide (b<W.heap.size)) A5 ts vs ds ps
 | [],[],[],_,_,_,h=>h
 | t::ts,v::vs,d::ds,_,hts,W5,⟨p,q,h1,h2,e⟩=>by
  subst e;exact ⟨p,q,Below.trod hl (hts t (by simp)).1 (hts t (by simp)).2 h1 hb (λx hx=>W5 x (E6C _ hx)),C8Q hl hb (λt ht=>hts t (by simp [ht])) (λx hx=>W5 x (E6B _ hx)) h2,rfl⟩
 | [],_::_,_,_,_,_,h=>by cases h
 | [],[],_::_,_,_,_,h=>by cases h
 | _::_,[],_,_,_,_,h=>by cases h
 | _::_,_::_,[],_,_,_,h=>by cases h
def D7X{f:Func}{s:ChangeSpec}{apart:Bool}{tb:TypeId}{W W':World}{args:Array Value}{ds gs:List (DataW H)}{before:List MemPlace}
  (hl:laidOutB P=A5) (hts:∀ t∈f.params.toList,P.readableRec t=A5/\t<P.types.size) (hr:f.resultTypes = #[tb]) (hb:P.underlying tb=A4 .bool) (hv:s.vars=[])
  (hs:∀ ds:List (DataW H),ds.length=f.params.toList.length->s.fn H ds={ results:=[.lit (.bool A5)],args:=ds })
  (hW:DataW.Whole enc P f.params.toList s.vars apart W args.toList ds gs before) (hB:Below W.heap.size W W') :
  s.post enc P f apart A5 A6 A6 W args (.bool A5) W':=by
 have W5:=hW.lt;obtain ⟨p,q,h1,h2,h3,h4,h5⟩:=id hW;rw [hv] at h2;obtain ⟨rfl,rfl⟩:=trodVars_none h2;rw [E6k] at h3;subst h3;have hd:ds.length=f.params.toList.length:=(trodAll_length h1).2;have hfn:s.fn H (ds++[])={ results:=[.lit (.bool A5)],args:=ds }:=by rw [E6k];exact hs ds hd
 refine ⟨ds,[],before,[],before,[],hW,?_,?_,?_,World.keptBut_mono (λ_ h=>h) (C8c hB),λh=>by cases h⟩
 ·rw [hfn,hr];exact trodAll_mk1 (shut_bool hb A5)
 ·rw [hfn];exact C8Q hl hB hts W5 h1
 ·rw [hfn,hv];exact rfl
end
def E0r{C:Checked}{os:Os}{H:Type}{enc:TypeId × Value->H}{f:FuncId}{fn:Func}{s:ChangeSpec}{conds:List PathCond}{tb:TypeId}
  (own:ownKnob C.prog.godebug=A7) (started:os.Started) (E3G:C.prog.inits.idxOf? f=A7) (hfn:C.prog.funcs[f]?=A4 fn)
  (witness:∃ (w:World) (tape:Tape) (i:Input),w.os=os/\(w.forCall tape i).Shaped C.prog/\i.vars=[]/\Input.okWide C.prog (w.forCall tape i) .any w.heap.size f i /\
   s.pre6 enc C.prog fn conds A6 (w.forCall tape i).memory i.args/\Assume.holds {} C.prog (lone (Frame.enter C.prog f i.args .normal) [] (w.forCall tape i)))
  (hl:laidOutB C.prog=A5) (hts:∀ t∈fn.params.toList,C.prog.readableRec t=A5/\t<C.prog.types.size) (hr:fn.resultTypes = #[tb]) (hb:C.prog.underlying tb=A4 .bool) (hv:s.vars=[])
  (hs:∀ ds:List (DataW H),ds.length=fn.params.toList.length->s.fn H ds={ results:=[.lit (.bool A5)],args:=ds })
  (walk:∀ (W:World) (base:Nat) (args:Array Value) (ds:List (DataW H)) (ps:List MemPlace),
   (∀ (j:Nat) t v,fn.params[j]?=A4 t->args[j]?=A4 v->Value.okWide C.prog W .any base t v) ->
   DataW.TrodAll enc C.prog W 0 (λ_=>A5) A5 fn.params.toList args.toList ds ps ->
   ∃ vals h μ h',Inv (C5K W) μ h W/\All2 (RV μ) vals args.toList/\CallOk C.prog f vals h (.c (.b A5)) h') :
  ReturnsInHanded {} C os f .any (s.pre6 enc C.prog fn conds A6) (s.post enc C.prog fn A6 A5 A6 A6):=by
 refine returnsInHanded_of_change own started E3G hfn witness ?_;intro W base args ds gs before C6i hW _ _;obtain ⟨p,q,hA,_⟩:=id hW;obtain ⟨vals,h,μ,h',hi,hv2,hc⟩:=walk W base args ds p (λj t v h1 h2=>C6i j t v h1 h2) hA;refine (hc (C5K W) μ W args.toList hi hv2).mono λe W' ⟨V',μ',he,_,hV,hi',_⟩=>?_
 have:V'=.bool A5:=hV;subst this;exact ⟨_,he,D7X hl hts hr hb hv hs hW (D0l hi'.ctx)⟩
def Inv.nought(W:World):Inv (C5K W) (λ_=>Option.none) [] W where
 rows:=λid r h=>by simp [rd] at h
 sep:=λid dM r r' x x' h=>by simp [rd] at h
 own:=λid r x h=>by simp [rd] at h
 dom:=λ_ _=>rfl
 ctx:=⟨rfl,rfl,rfl,λ_ _ h=>h⟩
end Go.Esc
namespace Go.Esc
section
variable {R:Type} {E:K6}
def D8K{q:Bool}{hr:A9}{n0:Nat}{slot:Option Nat}{o:AOp}{e:Env}{h:A9}{k k':Val->A9->Option R}(hk:∀ v h p,k v h=A4 p->k' v h=A4 p){p:R}
  (hp:aop E q hr n0 slot o e h k=A4 p):aop E q hr n0 slot o e h k'=A4 p:=by
 cases o<;>simp only [aop,E52] at hp ⊢ <;> first | exact hk _ _ _ hp | (obtain ⟨x,hx,hp⟩:=hp;exact ⟨x,hx,hk _ _ _ hp⟩)
def B61{q:Bool}{hr:A9}{n0:Nat}{o:AOper}{e:Env}{h:A9}{k k':Val->A9->Option R}(hk:∀ v h p,k v h=A4 p->k' v h=A4 p){p:R}
  (hp:aA E q hr n0 o e h k=A4 p):aA E q hr n0 o e h k'=A4 p:=by
 unfold aA at hp ⊢;cases hg:o.guard with
 | none=>rw [hg] at hp;exact D8K hk hp
 | some g =>
  rw [hg] at hp;simp only [E52] at hp ⊢;obtain ⟨x,hx,hp⟩:=hp;exact ⟨x,hx,hk _ _ _ hp⟩
def B4v{k k':Env->A9->Option R}(hk:∀ e h p,k e h=A4 p->k' e h=A4 p):∀ {l:List AOper} {e:Env} {h:A9} {p:R},B23 E l e h k=A4 p->B23 E l e h k'=A4 p
 | [],_,_,_,hp=>hk _ _ _ hp
 | o::l,e,h,p,hp=>by
  rw [C8O] at hp ⊢;exact B61 (λv h p=>B4v hk) hp
def B6Z{hr:A9}{n0:Nat}{k k':Env->A9->Option R}(hk:∀ e h p,k e h=A4 p->k' e h=A4 p):∀ {l:List AOper} {e:Env} {h:A9} {p:R},B5R E hr n0 l e h k=A4 p->B5R E hr n0 l e h k'=A4 p
 | [],_,_,_,hp=>hk _ _ _ hp
 | o::l,e,h,p,hp=>by
  rw [C5d] at hp ⊢;exact B61 (λv h p=>B6Z hk) hp
def KLe(k k':B42 R):Prop:=∀ x e h p,k x e h=A4 p->k' x e h=A4 p
def E35(s s':Sm R):Prop:=∀ k k':B42 R,KLe k k'->∀ e h p,s k e h=A4 p->s' k' e h=A4 p
def C8R{c c':Sm R}(hc:E35 c c'){keep:List Nat}{k k':B42 R}(hk:KLe k k'):∀ {n n':Nat},n<=n'->∀ e h p,A7q c keep k n e h=A4 p->A7q c' keep k' n' e h=A4 p
 | 0,_,_,e,h,p,hp=>by rw [C2u] at hp;cases hp
 | n+1,0,hn,e,h,p,hp=>by omega
 | n+1,n'+1,hn,e,h,p,hp=>by
  rw [C2t] at hp ⊢;refine hc _ _ (λx e h p hp=>?_) e h p hp;cases x with
  | normal=>exact C8R hc hk (by omega) _ _ _ hp
  | exit id=>exact hk _ _ _ _ hp
  | ret=>exact hk _ _ _ _ hp
def C5g{e:Env}{h:A9}{k k':Option R}{p:R}(hk:k=A4 p->k'=A4 p):∀ {l:List (Nat × AOp)},again l e h k=A4 p->again l e h k'=A4 p
 | [],hp=>hk hp
 | c::l,hp=>by
  rw [C5f] at hp ⊢;unfold agn at hp ⊢;split at hp
  ·rename_i hc;rw [if_pos hc];exact C5g hk hp
  ·cases hp
def B60{n n':Nat}(hn:n<=n'):∀ c:ACode,E35 (R:=R) (aex E n c) (aex E n' c)
 | .skip=>λk k' hk e h p hp=>hk _ _ _ _ hp
 | .ops l=>λk k' hk e h p hp=>B4v (λe h p hp=>hk _ _ _ _ hp) hp
 | .draw m l r=>λk k' hk e h p hp=>B6Z (λe h p hp=>B4v (λe h p hp=>hk _ _ _ _ hp) hp) hp
 | .drawS m l s chk r=>λk k' hk e h p hp=>B6Z (λe h p hp=>B61 (λv h p hp=>C5g (λhp=>B4v (λe h p hp=>hk _ _ _ _ hp) hp) hp) hp) hp
 | .seq keep a b=>λk k' hk e h p hp=>by
  refine B60 hn a _ _ (λx e h p hp=>?_) e h p hp;cases x with
  | normal=>exact B60 hn b k k' hk _ _ _ hp
  | exit id=>exact hk _ _ _ _ hp
  | ret=>exact hk _ _ _ _ hp
 | .cond c a b=>λk k' hk e h p hp=>by
  change cnd (e.ev c) (aex E n a k e h) (aex E n b k e h)=A4 p at hp;change cnd (e.ev c) (aex E n' a k' e h) (aex E n' b k' e h)=A4 p;unfold cnd at hp ⊢;split at hp
  ·rename_i x _;cases x
   ·exact B60 hn b k k' hk _ _ _ hp
   ·exact B60 hn a k k' hk _ _ _ hp
  ·cases hp
 | .block id a=>λk k' hk e h p hp=>by
  refine B60 hn a _ _ (λx e h p hp=>?_) e h p hp;cases x with
  | normal=>exact hk _ _ _ _ hp
  | ret=>exact hk _ _ _ _ hp
  | exit i =>
   change (bif Nat.beq i id then k .normal e h else k (.exit i) e h)=A4 p at hp;change (bif Nat.beq i id then k' .normal e h else k' (.exit i) e h)=A4 p;cases hb:Nat.beq i id with
   | true=>simp only [hb,cond_true] at hp ⊢;exact hk _ _ _ _ hp
   | false=>simp only [hb,cond_false] at hp ⊢;exact hk _ _ _ _ hp
 | .loop keep a=>λk k' hk e h p hp=>C8R (B60 hn a) hk hn _ _ _ hp
 | .exit id=>λk k' hk e h p hp=>hk _ _ _ _ hp
 | .ret=>λk k' hk e h p hp=>hk _ _ _ _ hp
def E0y{f:AFn}{n n':Nat}(hn:n<=n'){args:List Val}{h:A9}{p:Val × A9}(hp:f.run E n args h=A4 p):f.run E n' args h=A4 p :=
 B60 hn f.code _ _ (λ_ _ _ _ h=>h) _ _ _ hp
open Classical in
def Lim (f:AFn) (E:K6) (args:List Val) (h:A9):Option (Val × A9) :=
 if H:∃ p n,f.run E n args h=A4 p then A4 H.choose else A7
def E2R{f:AFn}{n:Nat}{args:List Val}{h:A9}{p:Val × A9}(hp:f.run E n args h=A4 p):Lim f E args h=A4 p:=by
 have H:∃ p n,f.run E n args h=A4 p:=⟨p,n,hp⟩;unfold Lim;rw [dif_pos H];obtain ⟨m,hm⟩:=H.choose_spec;have h1:=E0y (Nat.le_max_left n m) hp;have h2:=E0y (Nat.le_max_right n m) hm;rw [h1] at h2;exact h2.symm
def D5I{f:AFn}{args:List Val}{h:A9}{p:Val × A9}(hp:Lim f E args h=A4 p):∃ n,f.run E n args h=A4 p:=by
 unfold Lim at hp;split at hp
 ·rename_i H;cases hp;exact H.choose_spec
 ·cases hp
end
def bnd{α β:Type}(x:Option α)(f:α -> Option β):Option β:=x.bind f
def mp{α β:Type}(x:Option α)(f:α -> β):Option β:=x.map f
@[congr] theorem E4U {α β:Type} {x x':Option α} {f:α -> Option β} (h:x=x'):bnd x f=bnd x' f:=by rw [h]
@[congr] theorem E5T {α β:Type} {x x':Option α} {f:α -> β} (h:x=x'):mp x f=mp x' f:=by rw [h]
@[congr] theorem E4V {R:Type} {v v':Val} {a b:Option R} (h:v=v'):cnd v a b=cnd v' a b:=by rw [h]
@[congr] theorem E5J {v v':Val} {w:Bool} {a b:Option (Val × A9)} (h:v=v'):gd v w a b=gd v' w a b:=by rw [h]
@[congr] theorem E4T {R:Type} {x x':Option Val} {v v':Val} {k:Option R} (h:x=x') (h2:v=v'):agn x v k=agn x' v' k:=by rw [h,h2]
def D8E{R:Type}{v:Val}{k:Option R}:agn (A4 v) v k=k:=Eq.trans (if_pos rfl) rfl
@[simp] theorem C6 {α β:Type} {a:α} {f:α -> Option β}:bnd (A4 a) f=f a:=Eq.trans rfl rfl
@[simp] theorem D0U {α β:Type} {a:α} {f:α -> β}:mp (A4 a) f=A4 (f a):=Eq.trans rfl rfl
section
variable {R:Type} {k:IntKind} {a b:Int} {s t:List UInt8} {h:A9}
@[simp] theorem E08:D1C (.c (.s s))=A4 (.c (.i .i64 s.length)):=rfl
@[simp] theorem B0c {id off len sz:Nat}:B8H (.c (.sl id off len sz))=A4 (.c (.i .i64 len)):=rfl
@[simp] theorem E09:B8H (.c .ns)=A4 (.c (.i .i64 0)):=rfl
@[simp] theorem L7:N5 .add (.c (.i k a)) (.c (.i k b))=A4 (.c (.i k (k.wrap (a+b)))):=by simp [N5,B3H]
@[simp] theorem D8x:N5 .sub (.c (.i k a)) (.c (.i k b))=A4 (.c (.i k (k.wrap (a-b)))):=by simp [N5,B3H]
@[simp] theorem D8u:N5 .mul (.c (.i k a)) (.c (.i k b))=A4 (.c (.i k (k.wrap (a*b)))):=by simp [N5,B3H]
@[simp] theorem D8v (hb:b≠0):N5 .quo (.c (.i k a)) (.c (.i k b))=A4 (.c (.i k (k.wrap (a.tdiv b)))):=by simp [N5,B3H,hb]
@[simp] theorem D8w (hb:b≠0):N5 .rem (.c (.i k a)) (.c (.i k b))=A4 (.c (.i k (a.tmod b))):=by simp [N5,B3H,hb]
def D8s:N5 .and (.c (.i k a)) (.c (.i k b))=A4 (.c (.i k (k.wrap (BitVec.ofInt k.bits a &&& BitVec.ofInt k.bits b).toNat))):=by simp [N5,B3H]
def D0e:N5 .or (.c (.i k a)) (.c (.i k b))=A4 (.c (.i k (k.wrap (BitVec.ofInt k.bits a ||| BitVec.ofInt k.bits b).toNat))):=by simp [N5,B3H]
def D8y:N5 .xor (.c (.i k a)) (.c (.i k b))=A4 (.c (.i k (k.wrap (BitVec.ofInt k.bits a ^^^ BitVec.ofInt k.bits b).toNat))):=by simp [N5,B3H]
@[simp] theorem gH:N5 .eql (.c (.i k a)) (.c (.i k b))=A4 (.c (.b (decide (a=b)))):=by simp [N5,B3H];rfl
@[simp] theorem B22:N5 .neq (.c (.i k a)) (.c (.i k b))=A4 (.c (.b (decide (a≠b)))):=by simp [N5,B3H];by_cases h:a=b<;>simp [h]
@[simp] theorem G3:N5 .lss (.c (.i k a)) (.c (.i k b))=A4 (.c (.b (decide (a<b)))):=by simp [N5,B3H]
@[simp] theorem D8t:N5 .leq (.c (.i k a)) (.c (.i k b))=A4 (.c (.b (decide (a<=b)))):=by simp [N5,B3H]
@[simp] theorem C5a:N5 .gtr (.c (.i k a)) (.c (.i k b))=A4 (.c (.b (decide (b<a)))):=by simp [N5,B3H]
@[simp] theorem C49:N5 .geq (.c (.i k a)) (.c (.i k b))=A4 (.c (.b (decide (b<=a)))):=by simp [N5,B3H]
@[simp] theorem D6F:N5 .eql (.c (.s s)) (.c (.s t))=A4 (.c (.b (decide (s=t)))):=by simp [N5,E0E];by_cases h:s=t<;>simp [h]
@[simp] theorem D6H:N5 .neq (.c (.s s)) (.c (.s t))=A4 (.c (.b (decide (s≠t)))):=by simp [N5,E0E];by_cases h:s=t<;>simp [h]
@[simp] theorem D6G:N5 .lss (.c (.s s)) (.c (.s t))=A4 (.c (.b (X9 s t))):=by simp [N5,E0E]
@[simp] theorem xK {x:Bool}:aun .not (.c (.b x))=A4 (.c (.b (!x))):=rfl
@[simp] theorem E03 {n:Bool}:D0g A5 n (.c .nf)=A4 (.c (.b (!n))):=Eq.trans rfl rfl
@[simp] theorem E2V {n:Bool} {f:Nat} {cs:List (Nat × Nat)}:D0g A5 n (.c (.f f cs))=A4 (.c (.b n)):=Eq.trans rfl rfl
@[simp] theorem E04 {n:Bool}:D0g A6 n (.c .np)=A4 (.c (.b (!n))):=Eq.trans rfl rfl
@[simp] theorem E2W {n:Bool} {id off:Nat}:D0g A6 n (.c (.p id off))=A4 (.c (.b n)):=Eq.trans rfl rfl
@[simp] theorem A55 {id off:Nat}:A54 (.c (.p id off))=A4 (.c (.p id off)):=Eq.trans rfl rfl
@[simp] theorem E1i:aun .neg (.c (.i k a))=A4 (.c (.i k (k.wrap (0-a)))):=rfl
@[simp] theorem E2U {x y:Bool}:D33 A6 (.c (.b x)) (.c (.b y))=A4 (.c (.b (x==y))):=rfl
@[simp] theorem E2T {x y:Bool}:D33 A5 (.c (.b x)) (.c (.b y))=A4 (.c (.b (!(x==y)))):=rfl
@[simp] theorem E02 {k':IntKind}:D1z k (.c (.i k' a))=A4 (.c (.i k (k.wrap a))):=rfl
@[simp] theorem pJ {x:Bool} {u v:Val}:C8P (.c (.b x)) u v=A4 (bif x then u else v):=rfl
@[simp] theorem E2A {w:Bool} {u v:Option (Val × A9)}:gd .no w u v=v:=Eq.trans rfl rfl
@[simp] theorem C9d {u v:Option (Val × A9)}:gd (.c (.b A5)) A5 u v=u:=Eq.trans rfl rfl
@[simp] theorem D9y {u v:Option (Val × A9)}:gd (.c (.b A5)) A6 u v=v:=Eq.trans rfl rfl
@[simp] theorem D9x {u v:Option (Val × A9)}:gd (.c (.b A6)) A5 u v=v:=Eq.trans rfl rfl
@[simp] theorem D2q {u v:Option (Val × A9)}:gd (.c (.b A6)) A6 u v=u:=Eq.trans rfl rfl
@[simp] theorem W9 {u v:Option R}:cnd (.c (.b A5)) u v=u:=Eq.trans rfl rfl
@[simp] theorem Y0 {u v:Option R}:cnd (.c (.b A6)) u v=v:=Eq.trans rfl rfl
@[simp] theorem E07 {i:Nat}:C5h (.c (.s s)) (.c (.i k i))=(s[i]?).map λb=>.c (.i .u8 b.toNat):=by simp [C5h]
@[simp] theorem xH {l:List Part} {i:Nat}:D8D (.t l) i=(l[i]?).map ofPart:=rfl
@[simp] theorem eZ {x:Cell}:ofPart (.c x)=.c x:=rfl
@[simp] theorem eY {l:List Cell}:ofPart (.a l)=.a l:=rfl
@[simp] theorem D07 {x:Cell}:uT (.c x)=A4 (.c x):=rfl
@[simp] theorem D06 {l:List Cell}:uT (.a l)=A4 (.a l):=rfl
@[simp] theorem D8Z {x:Cell}:cells? (.c x)=A4 [x]:=rfl
@[simp] theorem eH {l:List Cell}:cells? (.a l)=A4 l:=rfl
@[simp] theorem D5C {u v:Option Val}:C1Y [u,v] h=bnd u λu=>bnd (uT u) λp=>bnd v λv=>bnd (uT v) λq=>A4 (.t [p,q],h):=by
 cases u with
 | none=>rfl
 | some u=>cases v with
  | none=>cases hu:uT u<;>simp [C1Y,C7t,hu]<;>rfl
  | some v=>cases hu:uT u<;>cases hv:uT v<;>simp [C1Y,C7t,hu,hv]<;>rfl
@[simp] theorem E3Z {u v w:Option Val}:C1Y [u,v,w] h=bnd u λu=>bnd (uT u) λp=>bnd v λv=>bnd (uT v) λq=>bnd w λw=>bnd (uT w) λr=>A4 (.t [p,q,r],h):=by
 cases u with
 | none=>rfl
 | some u=>cases v with
  | none=>cases hu:uT u<;>simp [C1Y,C7t,hu]<;>rfl
  | some v=>cases w with
   | none=>cases hu:uT u<;>cases hv:uT v<;>simp [C1Y,C7t,hu,hv]<;>rfl
   | some w=>cases hu:uT u<;>cases hv:uT v<;>cases hw:uT w<;>simp [C1Y,C7t,hu,hv,hw]<;>rfl
def wrap_i64(h1:-9223372036854775808<=a)(h2:a<9223372036854775808):E6a .i64 a=a:=by
 change (if (A5&&decide (a%18446744073709551616>=9223372036854775808))=A5 then a%18446744073709551616-18446744073709551616 else a%18446744073709551616)=a;by_cases h:a%18446744073709551616>=9223372036854775808
 ·simp only [h,decide_true,E6t,if_true];omega
 ·simp only [h,decide_false,Bool.and_false,Bool.false_eq_true,if_false];omega
def wrap_u64(h1:0<=a)(h2:a<18446744073709551616):E6a .u64 a=a:=by
 simp only [E6a,IntKind.bits,IntKind.signed,E6p];have e1:(2:Int) ^ 64=18446744073709551616:=rfl;rw [e1];simp only [Bool.false_eq_true,if_false];omega
def wrap_u32(h1:0<=a)(h2:a<4294967296):E6a .u32 a=a:=by
 simp only [E6a,IntKind.bits,IntKind.signed,E6p];have e1:(2:Int) ^ 32=4294967296:=rfl;rw [e1];simp only [Bool.false_eq_true,if_false];omega
def wrap_u8(h1:0<=a)(h2:a<256):E6a .u8 a=a:=by
 simp only [E6a,IntKind.bits,IntKind.signed,E6p];have e1:(2:Int) ^ 8=256:=rfl;rw [e1];simp only [Bool.false_eq_true,if_false];omega
end
def Grows.rfl'{h:A9}:Grows h h:=⟨E6T _,λid x hid hx=>by have:=E1 hx;omega⟩
def Grows.trans'{a b c:A9}(h1:Grows a b)(h2:Grows b c):Grows a c:=by
 refine ⟨h1.1.trans h2.1,λid x hid hx=>?_⟩;by_cases hb:b.length<=id
 ·exact h2.2 id x hb hx
 ·refine h1.2 id x hid ?_;obtain ⟨t,rfl⟩:=h2.1;rw [<-hx];unfold rd;rw [E6H (by omega)]
def Grows.len{a b:A9}(h1:Grows a b):a.length<=b.length:=h1.1.length_le
def Grows.new{a b:A9}(h1:Grows a b)(cs:List Cell):Grows a (b++[A4 ⟨cs,A5⟩]):=by
 refine h1.trans' ⟨List.prefix_append _ _,λid x hid hx=>?_⟩;unfold Go.Esc.rd at hx;rw [E6r hid] at hx;cases hj:id-b.length with
 | zero=>rw [hj] at hx;simp at hx;subst hx;rfl
 | succ j=>rw [hj] at hx;simp at hx
def W2{h h':A9}{v:Val}(hg:Grows h h'):quiet h (A4 (v,h'))=A4 (v,h'):=by
 unfold quiet;simp only [E6h];rw [if_pos];exact hg
def N6{h:A9}{r:Row}:rd (h++[A4 r]) h.length=A4 r:=by
 unfold rd;simp
section
variable {h:A9} {id off n sz:Nat} {cs xs:List Cell} {x:Cell} {k:IntKind} {rw:Bool}
def C4(hr:rd h id=A4 ⟨cs,rw⟩){c:Cell}(hc:cs[off]?=A4 c)(hd:(rw || !c.isX)=A5):B9 h (.c (.p id off))=A4 (.c c):=by
 simp [B9,hr,hc,hd]
def T1(hr:rd h id=A4 ⟨cs,rw⟩)(hl:off+n<=cs.length)(hd:(rw||noX ((cs.drop off).take n))=A5):D1 h n (.c (.p id off))=A4 (.a ((cs.drop off).take n)):=by
 simp only [D1,hr,E6h];rw [if_pos ⟨hl,hd⟩]
def C7(hr:rd h id=A4 ⟨cs,A5⟩)(hl:cs.length=n):D1 h n (.c (.p id 0))=A4 (.a cs):=by
 rw [T1 hr (by omega) rfl,E6i,E6l (by omega)]
def I9(hr:rd h id=A4 ⟨cs,A5⟩)(hl:off<cs.length):I8 h (.c (.p id off)) (.c x)=A4 (h.set id (A4 ⟨cs.set off x,A5⟩)):=by
 simp [I8,hr,hl]
def C1T(hr:rd h id=A4 ⟨cs,A5⟩)(hx:xs.length=n)(hl:off+n<=cs.length):F9 h n (.c (.p id off)) (.a xs)=A4 (h.set id (A4 ⟨lay cs off xs,A5⟩)):=by
 simp [F9,hr,hl,hx]
def lay_all(hx:xs.length=cs.length):lay cs 0 xs=xs:=by simp [lay,hx]
def storeAll(hr:rd h id=A4 ⟨cs,A5⟩)(hl:cs.length=n)(hx:xs.length=n):F9 h n (.c (.p id 0)) (.a xs)=A4 (h.set id (A4 ⟨xs,A5⟩)):=by
 rw [C1T hr hx (by omega),lay_all (by omega)]
def Q1{j:Nat}(hj:j<n):K5 n sz (.c (.p id off)) (.c (.i k j))=A4 (.c (.p id (off+j*sz))):=by
 simp only [K5];rw [if_pos ⟨by omega,by omega⟩];simp
def E3{len j:Nat}(hj:j<len):E9 sz (.c (.sl id off len sz)) (.c (.i k j))=A4 (.c (.p id (off+j*sz))):=by
 simp only [E9];rw [if_pos ⟨by omega,by omega,trivial⟩];simp
def B3I{l:List Cell}{j:Nat}(hj:j<n):A4t n (.a l) (.c (.i k j))=(l[j]?).map .c:=by
 simp only [A4t];rw [if_pos ⟨by omega,by omega⟩];simp
end
def oC(l:List UInt8)(i:Nat)(x:UInt8):(B5 l).set i (.i .u8 x.toNat)=B5 (l.set i x):=by simp [B5,List.map_set]
def A1G(l:List UInt8)(i:Nat):(B5 l)[i]?=(l[i]?).map λx=>.i .u8 x.toNat:=by simp [B5]
def A6d(l m:List UInt8):B5 (l++m)=B5 l++B5 m:=by simp [B5]
def D6Y(l:List UInt8)(n:Nat):(B5 l).drop n=B5 (l.drop n):=by simp [B5]
def D6Z(l:List UInt8)(n:Nat):(B5 l).take n=B5 (l.take n):=by simp [B5]
def zeros(n:Nat):List UInt8:=E55 n 0
@[simp] theorem zeros_length {n:Nat}:(zeros n).length=n:=by simp [zeros]
def J3(n:Nat):E55 n (Cell.i .u8 0)=B5 (zeros n):=by simp [B5,zeros]
def W1(l:List UInt8):noX (B5 l)=A5:=by simp [noX,B5,Cell.isX]
def C5U{l m:List UInt8}:B5 l=B5 m↔l=m:=by
 constructor
 ·intro h;refine List.map_inj_right (λx y e=>?_) |>.1 h
  simp at e;exact UInt8.toNat_inj.1 (by omega)
 ·rintro rfl;rfl
def Cell.flat:Cell->Bool
 | .b _=>A5
 | .i _ _=>A5
 | .s _=>A5
 | .np=>A5
 | .ns=>A5
 | .nf=>A5
 | .nm=>A5
 | _=>A6
def N8(l:List Cell):Bool:=l.all Cell.flat
def Row.dim(r:Row):List Cell:=bif r.head then r.cells.map λ_=>.dark else r.cells
def ro(h:A9):A9:=h.map λr=>r.map λr=>⟨r.dim,A6⟩
def Row.dim_own(r:Row):(Row.mk r.dim A6).own=A6:=by
 obtain ⟨cs,w⟩:=r;unfold Row.dim;cases hh:Row.head ⟨cs,w⟩ with
 | false=>simpa [Row.own,Row.head] using hh
 | true =>
  cases cs with
  | nil=>rfl
  | cons c cs=>rfl
def H6{h:A9}:(ro h).length=h.length:=by simp [ro]
def D3m{h:A9}{id:Nat}:rd (ro h) id=(rd h id).map λr=>⟨r.dim,A6⟩:=by
 unfold rd ro;rw [List.getElem?_map];cases h[id]? with
 | none=>rfl
 | some x=>cases x<;>rfl
def B9N{h:A9}{id:Nat}{r:Row}(hr:rd h id=A4 r)(hh:r.head=A6):rd (ro h) id=A4 ⟨r.cells,A6⟩:=by
 rw [D3m,hr];show A4 (Row.mk r.dim A6)=_;unfold Row.dim;rw [hh];rfl
def D9H{cs:List Cell}{w:Bool}(h:noX cs=A5):(Row.mk cs w).head=A6:=by
 cases cs with
 | nil=>rfl
 | cons c cs=>cases c<;>first | rfl | (simp [noX,Cell.isX] at h)
def sR{h:A9}{id:Nat}{cs:List Cell}{w:Bool}(hr:rd h id=A4 ⟨cs,w⟩)(hx:noX cs=A5):rd (ro h) id=A4 ⟨cs,A6⟩:=B9N hr (D9H hx)
def newRow(h:A9)(id:Nat):Bool :=
 match rd h id with
 | some r=>r.rw&&N8 r.cells
 | none=>A6
def Cell.low(b:Nat):Cell->Bool
 | .p id _=>decide (id<b)
 | .sl id _ _ _=>decide (id<b)
 | .f _ caps=>caps.all λq=>decide (q.1<b)
 | .fb _ id _=>decide (id<b)
 | .m id=>decide (id<b)
 | c=>c.flat
def Q2(h:A9)(b:Nat):List Nat->List Cell->Option (List Cell × List Nat)
 | seen,[]=>A4 ([],seen)
 | seen,c::r=>if c.low b=A5 then (Q2 h b seen r).map λp=>(c::p.1,p.2) else
  match c with
  | .sl id off len sz=>if b<=id/\id ∉ seen/\newRow h id=A5 then (Q2 h b (seen++[id]) r).map λp=>(.sl (b+seen.length) off len sz::p.1,p.2) else A7
  | _=>A7
def jB(h:A9)(b:Nat):List Nat->List Part->Option (List Part × List Nat)
 | seen,[]=>A4 ([],seen)
 | seen,.c x::r=>(Q2 h b seen [x]).bind λp=>match p.1 with
  | [y]=>(jB h b p.2 r).map λq=>(.c y::q.1,q.2)
  | _=>A7
 | seen,.a l::r=>(Q2 h b seen l).bind λp=>(jB h b p.2 r).map λq=>(.a p.1::q.1,q.2)
def Y2(h:A9)(b:Nat):Val->Option (Val × List Nat)
 | .c x=>(Q2 h b [] [x]).bind λp=>match p.1 with
  | [y]=>A4 (.c y,p.2)
  | _=>A7
 | .a l=>(Q2 h b [] l).map λp=>(.a p.1,p.2)
 | .t l=>(jB h b [] l).map λp=>(.t p.1,p.2)
 | _=>A7
def C7n(F:List Val->A9->Option (Val × A9))(args:List Val)(h:A9):Option (Val × A9) :=
 (F args (ro h)).bind λp=>(Y2 p.2 h.length p.1).map λq=>(q.1,h++q.2.map (rd p.2))
def tidy(F:List Val->A9->Option (Val × A9))(args:List Val)(h:A9):Option (Val × A9) :=
 match C7n F args h with
 | some r=>A4 r
 | none=>F args h
def RC.flat{μ μ':Mu}{c:Cell}{V:Value}(hf:c.flat=A5)(h:RC μ c V):RC μ' c V:=by
 cases c<;>first | exact h | cases hf
def RC.low{μ μ':Mu}{b:Nat}(hb:∀ id,id<b -> μ' id = μ id){c:Cell}{V:Value}(hf:c.low b=A5)(h:RC μ c V):RC μ' c V:=by
 cases c with
 | p id off =>
  obtain ⟨x,n,h1,h2⟩:=h;exact ⟨x,n,by rw [hb id (of_decide_eq_true hf)];exact h1,h2⟩
 | sl id off len sz =>
  rcases h with ⟨x,n,cap,h1,h2⟩ | h
  ·exact .inl ⟨x,n,cap,by rw [hb id (of_decide_eq_true hf)];exact h1,h2⟩
  ·exact .inr h
 | f fn caps =>
  obtain ⟨cs,h1,h2⟩:=h;refine ⟨cs,h1,?_⟩;have hf':(caps.all λq=>decide (q.1<b))=A5:=hf
  clear h1 hf
  induction caps generalizing cs with
  | nil=>cases cs with
   | nil=>trivial
   | cons=>exact h2.elim
  | cons q r ih=>cases cs with
   | nil=>exact h2.elim
   | cons V vs =>
    rw [E62,E53] at hf';obtain ⟨x,n,g1,g2⟩:=h2.1;exact ⟨⟨x,n,by rw [hb q.1 (of_decide_eq_true hf'.1)];exact g1,g2⟩,ih vs h2.2 hf'.2⟩
 | fb fn id off =>
  obtain ⟨V,⟨x,n,h1,h2⟩,h3⟩:=h;exact ⟨V,⟨x,n,by rw [hb id (of_decide_eq_true hf)];exact h1,h2⟩,h3⟩
 | m id =>
  obtain ⟨x,n,h1,h2⟩:=h;exact ⟨x,n,by rw [hb id (of_decide_eq_true hf)];exact h1,h2⟩
 | _=>exact RC.flat hf h
def Cell.low_of_flat{b:Nat}{c:Cell}(h:c.flat=A5):c.low b=A5:=by
 cases c<;>first | exact h | cases h
def C55{c:Cell}{l:List Cell}:N8 (c::l)=(c.flat&&N8 l):=rfl
def All2.flat{μ μ':Mu}:∀ {l:List Cell} {vs:List Value},N8 l=A5->All2 (RC μ) l vs->All2 (RC μ') l vs
 | [],[],_,_=>trivial
 | c::l,V::vs,hf,⟨h1,h2⟩=>by
  rw [C55,E53] at hf;exact ⟨h1.flat hf.1,All2.flat hf.2 h2⟩
 | [],_::_,_,h=>h.elim
 | _::_,[],_,h=>h.elim
structure Good(h:A9)(b:Nat)(ids:List Nat):Prop where
 nd:ids.Nodup
 ok:∀ id∈ids,b<=id/\∃ r,rd h id=A4 r/\r.rw=A5/\N8 r.cells=A5
def Good.nil{h:A9}{b:Nat}:Good h b []:=⟨List.nodup_nil,λ_ h=>by cases h⟩
def Good.snoc{h:A9}{b:Nat}{ids:List Nat}(hg:Good h b ids){id:Nat}(h1:b<=id)(h2:id ∉ ids)(h3:newRow h id=A5):Good h b (ids++[id]):=by
 refine ⟨?_,λi hi=>?_⟩
 ·rw [List.nodup_append];exact ⟨hg.nd,by simp,λa ha c hc e=>by simp at hc;subst hc;subst e;exact h2 ha⟩
 ·rw [List.mem_append] at hi;rcases hi with hi | hi
  ·exact hg.ok i hi
  ·simp at hi;subst hi;refine ⟨h1,?_⟩;unfold newRow at h3;cases hr:rd h i with
   | none=>rw [hr] at h3;cases h3
   | some r=>rw [hr] at h3;rw [E53] at h3;exact ⟨r,rfl,h3.1,h3.2⟩
def nu(μ μ':Mu)(b:Nat)(ids:List Nat):Mu:=λid=>if id<b then μ id else (ids[id-b]?).bind μ'
def A8s{h:A9}{b:Nat}{μ μ':Mu}(hlow:∀ id,id<b -> μ' id = μ id):∀ (l:List Cell) (seen:List Nat) (l2:List Cell) (fin:List Nat),Q2 h b seen l=A4 (l2,fin)->Good h b seen ->
  Good h b fin/\seen <+: fin/\∀ ids,fin <+: ids->∀ vs:List Value,All2 (RC μ') l vs->All2 (RC (nu μ μ' b ids)) l2 vs:=by
 intro l
 induction l with
 | nil =>
  intro seen l2 fin hc hg;simp only [Q2,E57,E6c] at hc;obtain ⟨rfl,rfl⟩:=hc;exact ⟨hg,E6T _,λids _ vs hv=>by cases vs with
   | nil=>trivial
   | cons=>exact hv.elim⟩
 | cons c r ih =>
  intro seen l2 fin hc hg;unfold Q2 at hc;split at hc
  ·rename_i hf;simp only [E6m,E6c] at hc;obtain ⟨p,hp,rfl,rfl⟩:=hc;obtain ⟨h1,h2,h3⟩:=ih seen p.1 p.2 hp hg;refine ⟨h1,h2,λids hi vs hv=>?_⟩;cases vs with
   | nil=>exact hv.elim
   | cons V vs=>exact ⟨RC.low (b:=b) (λid hid=>by unfold nu;rw [if_pos hid];exact (hlow id hid).symm) hf hv.1,h3 ids hi vs hv.2⟩
  ·split at hc
   ·rename_i id off len sz _;split at hc
    ·rename_i A4M;simp only [E6m,E6c] at hc;obtain ⟨p,hp,rfl,rfl⟩:=hc;obtain ⟨h1,h2,h3⟩:=ih _ p.1 p.2 hp (hg.snoc A4M.1 A4M.2.1 A4M.2.2);refine ⟨h1,(List.prefix_append _ _).trans h2,λids hi vs hv=>?_⟩;cases vs with
     | nil=>exact hv.elim
     | cons V vs =>
      refine ⟨?_,h3 ids hi vs hv.2⟩;have hn:nu μ μ' b ids (b+seen.length) = μ' id:=by
       unfold nu;rw [if_neg (by omega),Nat.add_sub_cancel_left];obtain ⟨t,ht⟩:=h2.trans hi;rw [<-ht,E6d,E6r (E56 _)];simp
      rcases hv.1 with ⟨x,n,cap,g1,g2⟩ | g
      ·exact .inl ⟨x,n,cap,by rw [hn];exact g1,g2⟩
      ·exact .inr g
    ·cases hc
   ·cases hc
def D6Q{h:A9}{b:Nat}{μ μ':Mu}(hlow:∀ id,id<b -> μ' id = μ id):∀ (l:List Part) (seen:List Nat) (l2:List Part) (fin:List Nat),jB h b seen l=A4 (l2,fin)->Good h b seen ->
  Good h b fin/\seen <+: fin/\∀ ids,fin <+: ids->∀ vs:List Value,All2 (RP μ') l vs->All2 (RP (nu μ μ' b ids)) l2 vs:=by
 intro l
 induction l with
 | nil =>
  intro seen l2 fin hc hg;simp only [jB,E57,E6c] at hc;obtain ⟨rfl,rfl⟩:=hc;exact ⟨hg,E6T _,λids _ vs hv=>by cases vs with
   | nil=>trivial
   | cons=>exact hv.elim⟩
 | cons c r ih =>
  intro seen l2 fin hc hg;cases c with
  | c x =>
   simp only [jB,E52] at hc;obtain ⟨⟨l3,f3⟩,hp,hc⟩:=hc;obtain ⟨h1,h2,h3⟩:=A8s (μ:=μ) (μ':=μ') hlow [x] seen l3 f3 hp hg;split at hc
   ·rename_i y rX;simp only at rX;subst rX;simp only [E6m,E6c] at hc;obtain ⟨q,hq,rfl,rfl⟩:=hc;obtain ⟨g1,g2,g3⟩:=ih f3 q.1 q.2 hq h1;refine ⟨g1,h2.trans g2,λids hi vs hv=>?_⟩;cases vs with
    | nil=>exact hv.elim
    | cons V vs=>exact ⟨(h3 ids (g2.trans hi) [V] ⟨hv.1,trivial⟩).1,g3 ids hi vs hv.2⟩
   ·cases hc
  | a x =>
   simp only [jB,E52] at hc;obtain ⟨⟨l3,f3⟩,hp,hc⟩:=hc;obtain ⟨h1,h2,h3⟩:=A8s (μ:=μ) (μ':=μ') hlow x seen l3 f3 hp hg;simp only [E6m,E6c] at hc;obtain ⟨q,hq,rfl,rfl⟩:=hc;obtain ⟨g1,g2,g3⟩:=ih f3 q.1 q.2 hq h1;refine ⟨g1,h2.trans g2,λids hi vs hv=>?_⟩;cases vs with
   | nil=>exact hv.elim
   | cons V vs =>
    obtain ⟨Vs,hV,h4⟩:=hv.1;exact ⟨⟨Vs,hV,h3 ids (g2.trans hi) Vs h4⟩,g3 ids hi vs hv.2⟩
def D6R{h:A9}{b:Nat}{μ μ':Mu}(hlow:∀ id,id<b -> μ' id = μ id){v v2:Val}{fin:List Nat}(hc:Y2 h b v=A4 (v2,fin)):Good h b fin/\∀ V,RV μ' v V->RV (nu μ μ' b fin) v2 V:=by
 cases v with
 | c x =>
  simp only [Y2,E52] at hc;obtain ⟨⟨l3,f3⟩,hp,hc⟩:=hc;obtain ⟨h1,h2,h3⟩:=A8s (μ:=μ) (μ':=μ') hlow [x] [] l3 f3 hp Good.nil;split at hc
  ·rename_i y rX;simp only at rX;subst rX;simp only [E57,E6c] at hc;obtain ⟨rfl,rfl⟩:=hc;exact ⟨h1,λV hV=>(h3 _ (E6T _) [V] ⟨hV,trivial⟩).1⟩
  ·cases hc
 | a l =>
  simp only [Y2,E6m,E6c] at hc;obtain ⟨p,hp,rfl,rfl⟩:=hc;obtain ⟨h1,h2,h3⟩:=A8s (μ:=μ) (μ':=μ') hlow l [] p.1 p.2 hp Good.nil;refine ⟨h1,λV hV=>?_⟩;obtain ⟨vs,e,h4⟩:=hV;exact ⟨vs,e,h3 _ (E6T _) vs h4⟩
 | t l =>
  simp only [Y2,E6m,E6c] at hc;obtain ⟨p,hp,rfl,rfl⟩:=hc;obtain ⟨h1,h2,h3⟩:=D6Q (μ:=μ) (μ':=μ') hlow l [] p.1 p.2 hp Good.nil;refine ⟨h1,λV hV=>?_⟩;obtain ⟨vs,e,h4⟩:=hV;exact ⟨vs,e,h3 _ (E6T _) vs h4⟩
 | un=>simp [Y2] at hc
 | no=>simp [Y2] at hc
def D02(μ:Mu)(h:A9)(b:Nat):Prop:=∃ id r n,rd h id=A4 r /\ μ id=A4 (b,n)
open Classical in
def Ctx.hold (Γ:Ctx) (μ:Mu) (h:A9) (w:World):Ctx:={ Γ with F:=λb=>if D02 μ h b then w.heap[b]? else Γ.F b }
def Inv.hold{Γ:Ctx}{μ:Mu}{h:A9}{w:World}(hi:Inv Γ μ h w):Inv (Γ.hold μ h w) μ (ro h) w where
 rows id r hr:=by
  rw [D3m,E6m] at hr;obtain ⟨r0,h0,rfl⟩:=hr;have hth:=hi.rows id r0 h0;have this:=hth;unfold RowOk at this ⊢;cases hm:μ id with
  | none =>
   rw [hm] at this;show r0.dim=[];unfold Row.dim;rw [this];cases r0.head<;>rfl
  | some x =>
   rw [hm] at this;obtain ⟨o,ho⟩:=hth.there hm;have W5:=(Array.getElem?_eq_some_iff.1 ho).1;cases hh:r0.head with
   | true =>
    refine .inr (.inr ⟨rfl,W5,?_⟩);show r0.dim.all Cell.isD=A5;unfold Row.dim;rw [hh];simp [Cell.isD]
   | false =>
    have hd:r0.dim=r0.cells:=by unfold Row.dim;rw [hh];rfl
    rw [hd];rcases this with ⟨C,elem,fz,h1,h2,h3,h4⟩ | ⟨es,E,h1,_⟩ | ⟨h1,h2,h3⟩
    ·refine .inl ⟨C,elem,fz,h1,h2,h3.mono λc V hc=>?_,λhf=>by cases hf⟩;rcases hc with hc | ⟨_,hc⟩
     ·exact .inl hc
     ·exact .inr ⟨rfl,hc⟩
    ·rw [h1,Row.head_mrow] at hh;cases hh
    ·exact .inr (.inr ⟨rfl,h2,h3⟩)
 sep id dM r r' x x' hr hr' hw:=by
  rw [D3m,E6m] at hr;obtain ⟨r0,h0,rfl⟩:=hr;rw [Row.dim_own] at hw;cases hw
 own id r x hr hw:=by
  rw [D3m,E6m] at hr;obtain ⟨r0,h0,rfl⟩:=hr;rw [Row.dim_own] at hw;cases hw
 dom id hl:=hi.dom id (by simpa [H6] using hl)
 ctx:=⟨hi.ctx.os,hi.ctx.tape,hi.ctx.output,λb o ho=>by
  unfold Ctx.hold at ho;simp only at ho;split at ho
  ·exact ho
  ·exact hi.ctx.block b o ho⟩
def Inv.held{Γ:Ctx}{μ μ':Mu}{h h':A9}{w w':World}(hi:Inv Γ μ h w)(hj:Inv (Γ.hold μ h w) μ' h' w'){ids:List Nat}(hg:Good h' h.length ids) :
  Inv Γ (nu μ μ' h.length ids) (h++ids.map (rd h')) w':=by
 have same:∀ b,D02 μ h b->w'.heap[b]?=w.heap[b]? := by
  intro b hb;have hb':=hb;obtain ⟨id,r,n,hr,hm⟩:=hb;obtain ⟨o,h1⟩:=(hi.rows id r hr).there hm;have h2:(Γ.hold μ h w).F b=A4 o:=by
   unfold Ctx.hold;simp only;rw [if_pos hb'];exact h1
  rw [hj.ctx.block b _ h2,h1]
 have lo:∀ id,id<h.length->nu μ μ' h.length ids id = μ id:=λid hl=>by unfold nu;rw [if_pos hl]
 have kX:μ.le (nu μ μ' h.length ids):=λid x hx=>by
  by_cases hl:id<h.length
  ·rw [lo id hl];exact hx
  ·rw [hi.dom id (by omega)] at hx;cases hx
 have get:∀ id r,rd (h++ids.map (rd h')) id=A4 r->(id<h.length/\rd h id=A4 r)\/(∃ j,ids[id-h.length]?=A4 j/\h.length<=id/\rd h' j=A4 r/\nu μ μ' h.length ids id = μ' j/\j∈ids/\r.rw=A5/\N8 r.cells=A5):=by
  intro id r hr;by_cases hl:id<h.length
  ·rw [D3 hl] at hr;exact .inl ⟨hl,hr⟩
  ·right
   unfold rd at hr;rw [E6r (by omega),List.getElem?_map] at hr;cases hj':ids[id-h.length]? with
   | none=>rw [hj'] at hr;cases hr
   | some j =>
    rw [hj'] at hr;change rd h' j=A4 r at hr;have kY:j∈ids:=E6n hj';obtain ⟨_,r2,hr2,h1,h2⟩:=hg.ok j kY;rw [hr] at hr2;cases hr2;refine ⟨j,rfl,by omega,hr,?_,kY,h1,h2⟩;unfold nu;rw [if_neg hl,hj'];rfl
 have fnew:∀ j r x,rd h' j=A4 r->r.rw=A5 -> μ' j=A4 x->¬ D02 μ h x.1 /\ Γ.F x.1=A7:=by
  intro j r x hr hw hx;have h1:=hj.own j r x hr (Row.own_rw hw) hx;unfold Ctx.hold at h1;simp only at h1;split at h1
  ·rename_i hb;obtain ⟨id,r0,n,hr0,hm⟩:=hb;obtain ⟨o,h2⟩:=(hi.rows id r0 hr0).there hm;rw [h2] at h1;cases h1
  ·exact ⟨‹_›,h1⟩
 refine ⟨?_,?_,?_,?_,?_⟩
 ·intro id r hr;rcases get id r hr with ⟨hl,hr⟩ | ⟨j,hj1,hl,hr,hn,kY,hw,hf⟩
  ·exact (hi.rows id r hr).mono kX (lo id hl) λx hx=>same _ ⟨id,r,x.2,hr,hx⟩
  ·have:=hj.rows j r hr;unfold RowOk at this ⊢;rw [hn];cases hm:μ' j with
   | none=>rw [hm] at this;exact this
   | some x =>
    obtain ⟨C,elem,fz,h1,h2,h3,h4⟩:=(hj.rows j r hr).mem hm hw;refine .inl ⟨C,elem,fz,h1,h2,?_,h4⟩;rw [hw] at h3 ⊢;have h5:=RL.all h3 (by simp);exact (All2.flat (μ':=nu μ μ' h.length ids) hf h5).mono λ_ _=>.inl
 ·intro id dM r r' x x' hr hr' hw aR hx hx';rcases get id r hr with ⟨hl,hr⟩ | ⟨j,hj1,hl,hr,hn,kY,hw2,hf⟩
  ·rw [lo id hl] at hx;rcases get dM r' hr' with ⟨hl',hr'⟩ | ⟨j',E4m,hl',hr',hn',E4p,E4v,hf'⟩
   ·rw [lo dM hl'] at hx';exact hi.sep id dM r r' x x' hr hr' hw aR hx hx'
   ·rw [hn'] at hx';intro e;exact (fnew j' r' x' hr' E4v hx').1 (e ▸ ⟨id,r,x.2,hr,hx⟩)
  ·rw [hn] at hx;rcases get dM r' hr' with ⟨hl',hr'⟩ | ⟨j',E4m,hl',hr',hn',E4p,E4v,hf'⟩
   ·rw [lo dM hl'] at hx';intro e;exact (fnew j r x hr hw2 hx).1 (e ▸ ⟨dM,r',x'.2,hr',hx'⟩)
   ·rw [hn'] at hx';refine hj.sep j j' r r' x x' hr hr' hw (λe=>?_) hx hx';subst e;have h1:=List.getElem?_eq_some_iff.1 hj1;have h2:=List.getElem?_eq_some_iff.1 E4m;have:=(List.getElem_inj hg.nd).1 (h1.2.trans h2.2.symm);omega
 ·intro id r x hr hw hx;rcases get id r hr with ⟨hl,hr⟩ | ⟨j,hj1,hl,hr,hn,kY,hw2,hf⟩
  ·rw [lo id hl] at hx;exact hi.own id r x hr hw hx
  ·rw [hn] at hx;exact (fnew j r x hr hw2 hx).2
 ·intro id hl;simp only [E58,List.length_map] at hl;unfold nu;rw [if_neg (by omega),E6u (by omega)];rfl
 ·refine ⟨hj.ctx.os,hj.ctx.tape,hj.ctx.output,λb o ho=>?_⟩;by_cases hb:D02 μ h b
  ·rw [same b hb];exact hi.ctx.block b o ho
  ·refine hj.ctx.block b o ?_;unfold Ctx.hold;simp only;rw [if_neg hb];exact ho
def D8k{P:Program}{f:FuncId}{F:List Val->A9->Option (Val × A9)}(hF:∀ args h v h2,F args h=A4 (v,h2)->mQ P f/\CallOk P f args h v h2/\h.length<=h2.length)
  {args:List Val} {h:A9} {v:Val} {h2:A9} (he:C7n F args h=A4 (v,h2)):mQ P f/\CallOk P f args h v h2/\h.length<=h2.length:=by
 simp only [C7n,E52,E6m,E6c] at he;obtain ⟨p,hp,q,hq,rfl,rfl⟩:=he;obtain ⟨h1,h2,h3⟩:=hF args (ro h) p.1 p.2 hp;refine ⟨h1,fun Γ μ w V hi hv=>?_,by simp⟩;refine (h2 (Γ.hold μ h w) μ w V hi.hold hv).mono λe w' ⟨V',μ',he,_,hV,hi',hl⟩=>?_
 obtain ⟨hg,hR⟩:=D6R (μ:=μ) (μ':=μ') (λid hid=>hl id (by simpa [H6] using hid)) (v2:=q.1) (fin:=q.2) hq;refine ⟨V',nu μ μ' h.length q.2,he,λid x hx=>?_,hR V' hV,hi.held hi' hg,λid hl=>by unfold nu;rw [if_pos hl]⟩;by_cases hl:id<h.length
 ·unfold nu;rw [if_pos hl];exact hx
 ·rw [hi.dom id (by omega)] at hx;cases hx
def E2n{P:Program}{f:FuncId}{F:List Val->A9->Option (Val × A9)}(hF:∀ args h v h2,F args h=A4 (v,h2)->mQ P f/\CallOk P f args h v h2/\h.length<=h2.length)
  (args:List Val) (h:A9) (v:Val) (h2:A9) (he:tidy F args h=A4 (v,h2)):mQ P f/\CallOk P f args h v h2/\h.length<=h2.length:=by
 unfold tidy at he;split at he
 ·rename_i r hr;cases he;exact D8k hF hr
 ·exact hF args h v h2 he
def C4k{F:List Val->A9->Option (Val × A9)}{args:List Val}{h h':A9}{v v2:Val}{ids:List Nat}(he:F args (ro h)=A4 (v,h'))(hc:Y2 h' h.length v=A4 (v2,ids)) :
  tidy F args h=A4 (v2,h++ids.map (rd h')):=by
 have:C7n F args h=A4 (v2,h++ids.map (rd h')):=by
  unfold C7n;rw [he];simp [hc]
 unfold tidy;rw [this]
def Val.flat:Val->Bool
 | .c x=>x.flat
 | .a l=>N8 l
 | .t l=>l.all λp=>match p with
  | .c x=>x.flat
  | .a l=>N8 l
 | _=>A6
def iM{h:A9}{b:Nat}{seen:List Nat}:∀ {l:List Cell},N8 l=A5->Q2 h b seen l=A4 (l,seen)
 | [],_=>rfl
 | c::l,hf=>by
  rw [C55,E53] at hf;have ih:=iM (h:=h) (b:=b) (seen:=seen) hf.2;unfold Q2;rw [if_pos (Cell.low_of_flat hf.1),ih];rfl
def B3c{h:A9}{b:Nat}{seen:List Nat}:∀ {l:List Part},(l.all λp=>match p with | .c x=>x.flat | .a l=>N8 l)=A5->jB h b seen l=A4 (l,seen)
 | [],_=>rfl
 | .c x::l,hf=>by
  simp only [E62,E53] at hf;have ih:=B3c (h:=h) (b:=b) (seen:=seen) hf.2;have h1:Q2 h b seen [x]=A4 ([x],seen):=iM (by simpa [N8] using hf.1);simp [jB,h1,ih]
 | .a x::l,hf=>by
  simp only [E62,E53] at hf;have ih:=B3c (h:=h) (b:=b) (seen:=seen) hf.2;have h1:Q2 h b seen x=A4 (x,seen):=iM hf.1;simp [jB,h1,ih]
def D1U{h:A9}{b:Nat}{v:Val}(hf:v.flat=A5):Y2 h b v=A4 (v,[]):=by
 cases v with
 | c x =>
  have h1:Q2 h b [] [x]=A4 ([x],[]):=iM (by simp only [N8,E62,List.all_nil,Bool.and_true];exact hf);simp [Y2,h1]
 | a l =>
  have h1:Q2 h b [] l=A4 (l,[]):=iM hf;simp [Y2,h1]
 | t l =>
  have h1:jB h b [] l=A4 (l,[]):=B3c hf;simp [Y2,h1]
 | un=>cases hf
 | no=>cases hf
def D8l{F:List Val->A9->Option (Val × A9)}{args:List Val}{h h':A9}{v:Val}(he:F args (ro h)=A4 (v,h'))(hf:v.flat=A5):tidy F args h=A4 (v,h):=by
 have:=C4k he (D1U (h:=h') (b:=h.length) hf);simpa using this
def C3V(b:Nat)(l:List Cell):Bool:=l.all (Cell.low b)
def Val.low(b:Nat):Val->Bool
 | .c x=>x.low b
 | .a l=>C3V b l
 | .t l=>l.all λp=>match p with
  | .c x=>x.low b
  | .a l=>C3V b l
 | _=>A6
def A4z{h:A9}{b:Nat}{seen:List Nat}:∀ {l:List Cell},C3V b l=A5->Q2 h b seen l=A4 (l,seen)
 | [],_=>rfl
 | c::l,hf=>by
  have hf:(c.low b&&C3V b l)=A5:=hf;rw [E53] at hf;have ih:=A4z (h:=h) (b:=b) (seen:=seen) hf.2;unfold Q2;rw [if_pos hf.1,ih];rfl
def B66{h:A9}{b:Nat}{seen:List Nat}:∀ {l:List Part},(l.all λp=>match p with | .c x=>x.low b | .a l=>C3V b l)=A5->jB h b seen l=A4 (l,seen)
 | [],_=>rfl
 | .c x::l,hf=>by
  simp only [E62,E53] at hf;have ih:=B66 (h:=h) (b:=b) (seen:=seen) hf.2;have h1:Q2 h b seen [x]=A4 ([x],seen):=A4z (by simpa [C3V] using hf.1);simp [jB,h1,ih]
 | .a x::l,hf=>by
  simp only [E62,E53] at hf;have ih:=B66 (h:=h) (b:=b) (seen:=seen) hf.2;have h1:Q2 h b seen x=A4 (x,seen):=A4z hf.1;simp [jB,h1,ih]
def E0R{F:List Val->A9->Option (Val × A9)}{args:List Val}{h h':A9}{v:Val}(he:F args (ro h)=A4 (v,h'))(hf:v.low h.length=A5):tidy F args h=A4 (v,h):=by
 have hc:Y2 h' h.length v=A4 (v,[]):=by
  cases v with
  | c x =>
   have h1:Q2 h' h.length [] [x]=A4 ([x],[]):=A4z (by simp only [C3V,E62,List.all_nil,Bool.and_true];exact hf);simp [Y2,h1]
  | a l =>
   have h1:Q2 h' h.length [] l=A4 (l,[]):=A4z hf;simp [Y2,h1]
  | t l =>
   have h1:jB h' h.length [] l=A4 (l,[]):=B66 hf;simp [Y2,h1]
  | un=>cases hf
  | no=>cases hf
 have:=C4k he hc;simpa using this
@[simp] theorem E4z {b:Nat}:C3V b []=A5:=rfl
@[simp] theorem E32 {b:Nat} {c:Cell} {l:List Cell}:C3V b (c::l)=(c.low b&&C3V b l):=rfl
@[simp] theorem E5H {b:Nat} {x:Cell}:(Val.c x).low b=x.low b:=rfl
@[simp] theorem E5G {b:Nat} {l:List Cell}:(Val.a l).low b=C3V b l:=rfl
@[simp] theorem E5I {b:Nat} {l:List Part}:(Val.t l).low b=l.all λp=>match p with | .c x=>x.low b | .a l=>C3V b l:=rfl
@[simp] theorem E5B {b id off len sz:Nat}:(Cell.sl id off len sz).low b=decide (id<b):=rfl
@[simp] theorem E5R {b:Nat} {k:IntKind} {n:Int}:(Cell.i k n).low b=A5:=rfl
@[simp] theorem E5Q {b:Nat} {x:Bool}:(Cell.b x).low b=A5:=rfl
@[simp] theorem E5S {b:Nat} {x:List UInt8}:(Cell.s x).low b=A5:=rfl
@[simp] theorem E5A {b:Nat}:Cell.ns.low b=A5:=rfl
@[simp] theorem E31:N8 []=A5:=rfl
@[simp] theorem E2y {c:Cell} {l:List Cell}:N8 (c::l)=(c.flat&&N8 l):=rfl
@[simp] theorem pM {l m:List Cell}:N8 (l++m)=(N8 l&&N8 m):=by simp [N8]
@[simp] theorem D4B {l:List UInt8}:N8 (B5 l)=A5:=by simp [N8,B5,Cell.flat]
@[simp] theorem E4W {x:Bool}:(Cell.b x).flat=A5:=rfl
@[simp] theorem E4X {k:IntKind} {n:Int}:(Cell.i k n).flat=A5:=rfl
@[simp] theorem E4Y {x:List UInt8}:(Cell.s x).flat=A5:=rfl
@[simp] theorem E4O:Cell.ns.flat=A5:=rfl
@[simp] theorem E4N:Cell.np.flat=A5:=rfl
@[simp] theorem E4Q {x:Cell}:(Val.c x).flat=x.flat:=rfl
@[simp] theorem E4P {l:List Cell}:(Val.a l).flat=N8 l:=rfl
@[simp] theorem E4R {l:List Part}:(Val.t l).flat=l.all λp=>match p with | .c x=>x.flat | .a l=>N8 l:=rfl
@[simp] theorem cX {h:A9} {v:Val}:quiet h (A4 (v,h))=A4 (v,h):=W2 Grows.rfl'
section
variable {h:A9} {l:List (Option Row)} {k id:Nat}
@[simp] theorem qK:rd (h++l) (h.length+k)=(l[k]?).join:=by
 unfold rd;rw [E6r (by omega),Nat.add_sub_cancel_left]
@[simp] theorem I5:rd (h++l) h.length=(l[0]?).join:=qK (k:=0)
@[simp] theorem B7w {x:Option Row}:(h++l).set (h.length+k) x=h++l.set k x:=by
 rw [E6O _ _ (by omega),Nat.add_sub_cancel_left]
@[simp] theorem yD {x:Option Row}:(h++l).set h.length x=h++l.set 0 x:=B7w (k:=0)
end
section
variable {h:A9} {id off n sz:Nat} {cs xs:List Cell} {x:Cell} {k:IntKind} {rw:Bool}
def D8A{j:Int}(h0:0<=j)(h1:j<n):K5 n sz (.c (.p id off)) (.c (.i k j))=A4 (.c (.p id (off+j.toNat*sz))):=by
 simp only [K5];rw [if_pos ⟨h0,h1⟩]
end
def Has(h:A9)(v:Val)(sz n:Nat)(cs:List Cell):Prop :=
 (v=.c .ns/\n=0/\cs=[])\/∃ id off r,v=.c (.sl id off n sz)/\rd h id=A4 r/\cs.length=n*sz/\off+n*sz<=r.cells.length/\(r.cells.drop off).take (n*sz)=cs/\noX cs=A5
section
variable {h:A9} {v:Val} {sz n:Nat} {cs:List Cell}
def Has.length(hv:Has h v sz n cs):cs.length=n*sz:=by
 rcases hv with ⟨_,rfl,rfl⟩ | ⟨_,_,_,_,_,hl,_⟩
 ·simp
 ·exact hl
def Has.ro(hv:Has h v sz n cs):Has (ro h) v sz n cs:=by
 rcases hv with hv | ⟨id,off,r,rfl,hr,h1,h2,h3,h4⟩
 ·exact .inl hv
 ·cases hh:r.head with
  | false=>exact .inr ⟨id,off,⟨r.cells,A6⟩,rfl,B9N hr hh,h1,h2,h3,h4⟩
  | true =>
   have hx:=Row.head_isX hh;have E4r:cs=[]:=by
    cases hcs:cs with
    | nil=>rfl
    | cons c cs' =>
     exfalso;have kY:c∈r.cells:=List.mem_of_mem_drop (List.mem_of_mem_take (by rw [h3,hcs];simp));have h5:c.isX=A6:=by
      have:=List.all_eq_true.1 h4 c (by rw [hcs];simp);simpa using this
     rw [hx c kY] at h5;cases h5
   have hd:r.dim.length=r.cells.length:=by unfold Row.dim;rw [hh];simp
   have hn:n*sz=0:=by rw [<-h1,E4r];rfl
   exact .inr ⟨id,off,⟨r.dim,A6⟩,rfl,by rw [D3m,hr];rfl,h1,by show off+n*sz<=r.dim.length;rw [hd];exact h2,by rw [hn,E6S,E4r],h4⟩
def Has.more(hv:Has h v sz n cs)(l:A9):Has (h++l) v sz n cs:=by
 rcases hv with hv | ⟨id,off,r,rfl,hr,h1,h2,h3,h4⟩
 ·exact .inl hv
 ·exact .inr ⟨id,off,r,rfl,B7 hr,h1,h2,h3,h4⟩
def Has.len(hv:Has h v sz n cs):B8H v=A4 (.c (.i .i64 n)):=by
 rcases hv with ⟨rfl,rfl,rfl⟩ | ⟨id,off,r,rfl,_⟩<;>rfl
def Has.cells(hv:Has h v sz n cs):pW h v=A4 cs:=by
 rcases hv with ⟨rfl,rfl,rfl⟩ | ⟨id,off,r,rfl,hr,h1,h2,h3,h4⟩
 ·rfl
 ·simp only [pW,hr,E6h];rw [if_pos ⟨h2,by rw [h3,h4];simp⟩,h3]
def Has.add(hv:Has h v sz n cs):U5 h sz v=A4 cs:=by
 have:=hv.cells;rcases hv with ⟨rfl,rfl,rfl⟩ | ⟨id,off,r,rfl,_⟩
 ·rfl
 ·simp only [U5,if_true];exact this
def C2w:∀ l:List UInt8,bytes? (B5 l)=A4 l
 | []=>rfl
 | x::l=>by
  have h1:=x.toNat_lt;have e:C8W (.i .u8 x.toNat)=A4 x:=by
   simp only [C8W];rw [if_pos ⟨by omega,by omega⟩];simp
  change (C8W (.i .u8 x.toNat)).bind (λy=>(bytes? (B5 l)).map λl=>y::l)=_;rw [e,C2w l];rfl
def Has.str{l:List UInt8}(hv:Has h v 1 n (B5 l)):B6X h v=A4 (.c (.s l)):=by
 have:=hv.cells;rcases hv with ⟨rfl,rfl,e⟩ | ⟨id,off,r,rfl,_⟩
 ·have:l=[]:=by simpa [B5] using e
  subst this;rfl
 ·simp only [B6X,if_true,this,E6h,C2w,E6I]
def Has.sl(hv:Has h v sz n cs)(hn:0<n):∃ id off,v=.c (.sl id off n sz)/\id<h.length /\
  (∀ j c,cs[j]?=A4 c->B9 h (.c (.p id (off+j)))=A4 (.c c))/\∀ j m,j+m<=cs.length->D1 h m (.c (.p id (off+j)))=A4 (.a ((cs.drop j).take m)):=by
 rcases hv with ⟨rfl,rfl,rfl⟩ | ⟨id,off,r,rfl,hr,h1,h2,h3,h4⟩
 ·omega
 ·refine ⟨id,off,rfl,E1 hr,λj c hc=>?_,λj m hj=>?_⟩
  ·have W5:j<cs.length:=(List.getElem?_eq_some_iff.1 hc).1;have hx:c.isX=A6:=by
    have:=List.all_eq_true.1 h4 c (E6n hc);simpa using this
   refine C4 (cs:=r.cells) (rw:=r.rw) hr ?_ (by simp [hx]);rw [<-h3,E6L (by omega),List.getElem?_drop] at hc;exact hc
  ·have e:((cs.drop j).take m)=(r.cells.drop (off+j)).take m:=by
    rw [<-h3,List.drop_take,List.take_take,E7e]
    congr 1
    omega
   rw [e];refine T1 (cs:=r.cells) (rw:=r.rw) hr (by omega) ?_;rw [<-e];have:noX ((cs.drop j).take m)=A5:=by
    refine List.all_eq_true.2 λc hc=>List.all_eq_true.1 h4 c ?_
    exact List.mem_of_mem_drop (List.mem_of_mem_take hc)
   simp [this]
end
def Has.row{h:A9}{id sz n:Nat}{cs:List Cell}{rw:Bool}(hr:rd h id=A4 ⟨cs,rw⟩)(hl:cs.length=n*sz)(hx:noX cs=A5):Has h (.c (.sl id 0 n sz)) sz n cs :=
 .inr ⟨id,0,_,rfl,hr,hl,by simp [hl],by simp [<-hl],hx⟩
def Out(b:Nat)(h:A9)(v:Val)(sz n:Nat)(cs:List Cell):Prop :=
 cs.length=n*sz/\∃ id,v=.c (.sl id 0 n sz)/\b<=id/\rd h id=A4 ⟨cs,A5⟩
def Low(b:Nat)(h h':A9):Prop:=b<=h.length/\h.length<=h'.length/\∀ id,id<b->rd h' id=rd h id
def Low.refl{b:Nat}{h:A9}(hb:b<=h.length):Low b h h:=⟨hb,E56 _,λ_ _=>rfl⟩
def Low.trans{b:Nat}{h h' h'':A9}(h1:Low b h h')(h2:Low b h' h''):Low b h h'' :=
 ⟨h1.1,E6J h1.2.1 h2.2.1,λid hid=>(h2.2.2 id hid).trans (h1.2.2 id hid)⟩
def Low.new{b:Nat}{h h':A9}(h1:Low b h h')(l:A9):Low b h (h'++l) :=
 ⟨h1.1,by have:=h1.2.1;simp;omega,λid hid=>by rw [D3 (by have:=h1.1;have:=h1.2.1;omega)];exact h1.2.2 id hid⟩
def Low.set{b:Nat}{h h':A9}(h1:Low b h h'){id:Nat}(hid:b<=id)(x:Option Row):Low b h (h'.set id x) :=
 ⟨h1.1,by simpa using h1.2.1,λj hj=>by rw [B8 (by omega)];exact h1.2.2 j hj⟩
def Has.low{b:Nat}{h h':A9}{v:Val}{sz n:Nat}{cs:List Cell}(h1:Low b h h')(hv:Has h v sz n cs)(hb:∀ id off m,v=.c (.sl id off m sz)->id<b):Has h' v sz n cs:=by
 rcases hv with hv | ⟨id,off,r,rfl,hr,h2⟩
 ·exact .inl hv
 ·exact .inr ⟨id,off,r,rfl,by rw [h1.2.2 id (hb id off n rfl)];exact hr,h2⟩
def Out.app{b:Nat}{h:A9}{v y:Val}{sz n m:Nat}{cs ys:List Cell}(ho:Out b h v sz n cs)(hsz:0<sz)(hy:U5 h sz y=A4 ys)(hm:ys.length=m*sz)(hn:n+m<=1073741824) :
  ∃ id v' h',v=.c (.sl id 0 n sz)/\tJ h sz v y=A4 (v',h')/\Out b h' v' sz (n+m) (cs++ys)/\Low b h h'/\(∀ i r,rd h i=A4 r->i≠id->rd h' i=A4 r):=by
 have hd:ys.length/sz=m:=by rw [hm];exact Nat.mul_div_cancel m hsz
 obtain ⟨hl,id,rfl,E46,hr⟩:=ho;have W5:=E1 hr;refine ⟨id,_,h.set id A7++[A4 ⟨cs++ys,A5⟩],rfl,by simp only [tJ,hy,hr,E6h,hd];rw [if_pos ⟨trivial,trivial,hl.symm,trivial,hn⟩],⟨by simp [hl,hm,E7f],h.length,rfl,by omega,?_⟩,((Low.refl (by omega)).set E46 A7).new _,λi r hi aR=>?_⟩
 ·have:=N6 (h:=h.set id A7) (r:=⟨cs++ys,A5⟩)
  rwa [E6F] at this
 ·have W5:=E1 hi;rw [D3 (by simpa using W5),B8 (Ne.symm aR)];exact hi
def pP{h:A9}{id:Nat}{cs:List Cell}(hr:rd h id=A4 ⟨cs,A5⟩)(hf:N8 cs=A5):newRow h id=A5:=by simp [newRow,hr,hf]
def D8X{h:A9}{b id off n sz:Nat}{cs:List Cell}(hb:b<=id)(hr:rd h id=A4 ⟨cs,A5⟩)(hf:N8 cs=A5):Y2 h b (.c (.sl id off n sz))=A4 (.c (.sl b off n sz),[id]):=by
 have:¬ id<b:=by omega
 simp [Y2,Q2,hb,this,pP hr hf]
def E0S{F:List Val->A9->Option (Val × A9)}{args:List Val}{h h':A9}{v:Val}{sz n:Nat}{cs:List Cell}(he:F args (ro h)=A4 (v,h'))(ho:Out h.length h' v sz n cs)(hf:N8 cs=A5) :
  tidy F args h=A4 (.c (.sl h.length 0 n sz),h++[A4 ⟨cs,A5⟩]):=by
 obtain ⟨hl,id,rfl,hb,hr⟩:=ho;rw [C4k he (D8X hb hr hf)];simp [hr]
def encI(l:List Int):List Cell:=l.map λn=>.i .i64 n
def C1(l:List Int):(encI l).length=l.length:=by simp [encI]
def A1H(l:List Int)(i:Nat)(x:Int):(encI l).set i (.i .i64 x)=encI (l.set i x):=by simp [encI,List.map_set]
def G6(l:List Int)(i:Nat):(encI l)[i]?=(l[i]?).map λx=>.i .i64 x:=by simp [encI]
def iN(l m:List Int):encI (l++m)=encI l++encI m:=by simp [encI]
def A4U(l:List Int):noX (encI l)=A5:=by simp [noX,encI,Cell.isX]
@[simp] theorem B7g {l:List Int}:N8 (encI l)=A5:=by simp [N8,encI,Cell.flat]
def D2f{l m:List Int}:encI l=encI m↔l=m:=by
 constructor
 ·intro h;exact List.map_inj_right (λx y e=>by simpa using e) |>.1 h
 ·rintro rfl;rfl
def encS(l:List (List UInt8)):List Cell:=l.map .s
def bY(l:List (List UInt8)):(encS l).length=l.length:=by simp [encS]
def C6K(l:List (List UInt8)):noX (encS l)=A5:=by simp [noX,encS,Cell.isX]
@[simp] theorem E28 {l:List (List UInt8)}:N8 (encS l)=A5:=by simp [N8,encS,Cell.flat]
abbrev Fun:=List Val->A9->Option (Val × A9)
abbrev SmV:=Sm (Val × A9)
abbrev yK:=Option (Val × A9)
def SOk(P:Program)(f:FuncId)(S:Fun):Prop:=∀ args h v h2,S args h=A4 (v,h2)->mQ P f/\CallOk P f args h v h2/\h.length<=h2.length
def D9k(g:Nat)(S:Fun)(E:K6):K6:=λf args h=>bif Nat.beq f g then S args h else E f args h
def D2d:K6:=λ_ _ _=>A7
def D5q{P:Program}:iK P D2d:=λ_ _ _ _ _ h=>by cases h
def D5r{P:Program}{g:Nat}{S:Fun}{E:K6}(hs:SOk P g S)(hE:iK P E):iK P (D9k g S E):=by
 intro f args h v h2 he;unfold D9k at he;cases hb:Nat.beq f g with
 | true=>rw [hb] at he;have e:=Nat.eq_of_beq_eq_true hb;subst e;exact hs args h v h2 he
 | false=>rw [hb] at he;exact hE f args h v h2 he
structure FnK(P:Program)(f:FuncId)(A:AFn)(E:K6)(R:Nat->Fun):Prop where
 run:∀ n args h,A.run E n args h=R n args h
 ok:SOk P f (Lim A E)
def FnK.mk'{P:Program}{f:FuncId}{fn:Func}{A:AFn}{E:K6}{R:Nat->Fun}(hE:iK P E)(hf:P.funcs[f]?=A4 fn)(hc:C5w P fn A=A5)(hr:∀ n args h,A.run E n args h=R n args h):FnK P f A E R :=
 ⟨hr,λ_ _ _ _ he=>(D5I he).elim λ_ e=>E39 hE hf hc e⟩
abbrev KV:=B42 (Val × A9)
abbrev AtH:=A9->yK
def zE:List Nat->List Val->Env
 | t::l,x::r=>(t,x)::zE l r
 | _,_=>[]
def rx (E:K6) (A:AFn) (n:Nat):Fun:=λargs h=>ax E n A.code A.fin (params 0 args) h
def tl (A:AFn) (E:K6):Fun:=tidy (Lim A E)
def kL' (s:SmV) (ks:List Nat) (k:KV) (m:Nat):KV:=D9Q ks (A7q s ks k m) k
def aj' (s:SmV) (k:KV) (ks:List Nat) (xs:List Val):AtH:=λh=>hold (s k (zE ks xs) h)
def kL (E:K6) (n:Nat) (c:ACode) (ks:List Nat) (k:KV) (m:Nat):KV:=kL' (ax E n c) ks k m
def aj (E:K6) (n:Nat) (c:ACode) (k:KV) (ks:List Nat) (xs:List Val):AtH:=aj' (ax E n c) k ks xs
def kQ (E:K6) (n:Nat) (c:ACode) (ks:List Nat) (k:KV):KV:=D9R ks (ax E n c) k
def FnK.mk2{P:Program}{f:FuncId}{fn:Func}{A:AFn}{E:K6}(hE:iK P E)(hf:P.funcs[f]?=A4 fn)(hc:C5w P fn A=A5):FnK P f A E (rx E A) :=
 .mk' hE hf hc λ_ _ _=>E21
section
variable {P:Program} {f:FuncId} {A:AFn} {E:K6} {R:Nat->Fun}
def FnK.of(K:FnK P f A E R){n:Nat}{args:List Val}{h:A9}{p:Val × A9}(he:R n args h=A4 p):Lim A E args h=A4 p:=E2R ((K.run ..).trans he)
def FnK.sok(K:FnK P f A E R):SOk P f (tidy (Lim A E)):=λargs h v h2 he=>E2n K.ok args h v h2 he
def FnK.flat(K:FnK P f A E R){n:Nat}{args:List Val}{h h2:A9}{v:Val}(he:R n args (ro h)=A4 (v,h2))(hf:v.flat=A5):tidy (Lim A E) args h=A4 (v,h):=D8l (K.of he) hf
def FnK.low(K:FnK P f A E R){n:Nat}{args:List Val}{h h2:A9}{v:Val}(he:R n args (ro h)=A4 (v,h2))(hf:v.low h.length=A5):tidy (Lim A E) args h=A4 (v,h):=E0R (K.of he) hf
def FnK.out(K:FnK P f A E R){n:Nat}{args:List Val}{h h2:A9}{v:Val}{sz k:Nat}{cs:List Cell}(he:R n args (ro h)=A4 (v,h2))(ho:Out h.length h2 v sz k cs)(hf:N8 cs=A5):tidy (Lim A E) args h=A4 (.c (.sl h.length 0 k sz),h++[A4 ⟨cs,A5⟩]):=E0S (K.of he) ho hf
def FnK.tidy(K:FnK P f A E R){n:Nat}{args:List Val}{h h2:A9}{v v2:Val}{ids:List Nat}(he:R n args (ro h)=A4 (v,h2))(hc:Y2 h2 h.length v=A4 (v2,ids)):Esc.tidy (Lim A E) args h=A4 (v2,h++ids.map (rd h2)):=C4k (K.of he) hc
end
abbrev G0(R:Nat->Fun)(S:Fun):Prop:=∀ {n:Nat} {args:List Val} {h h2:A9} {v:Val},R n args (ro h)=A4 (v,h2)->v.flat=A5->S args h=A4 (v,h)
abbrev E00(R:Nat->Fun)(S:Fun):Prop:=∀ {n:Nat} {args:List Val} {h h2:A9} {v:Val},R n args (ro h)=A4 (v,h2)->v.low h.length=A5->S args h=A4 (v,h)
abbrev A3T(R:Nat->Fun)(S:Fun):Prop:=∀ {n:Nat} {args:List Val} {h h2:A9} {v:Val} {sz k:Nat} {cs:List Cell},R n args (ro h)=A4 (v,h2)->Out h.length h2 v sz k cs->N8 cs=A5->S args h=A4 (.c (.sl h.length 0 k sz),h++[A4 ⟨cs,A5⟩])
abbrev C8F(R:Nat->Fun)(S:Fun):Prop:=∀ {n:Nat} {args:List Val} {h h2:A9} {v v2:Val} {ids:List Nat},R n args (ro h)=A4 (v,h2)->Y2 h2 h.length v=A4 (v2,ids)->S args h=A4 (v2,h++ids.map (rd h2))
abbrev OfT(R:Nat->Fun)(S:Fun):Prop:=∀ {n:Nat} {args:List Val} {h:A9} {p:Val × A9},R n args h=A4 p->S args h=A4 p
end Go.Esc
namespace Go.Esc
open Go Go.ChangeShapes Go.WideShapes Go.ChangeAt Go.RowKit
def A1J(P:Program)(g:TypeId->Option (List Sh)):List Field->Nat->Option (List Sh)
 | [],_=>A4 []
 | f::r,off=>if f.offset=off then (g f.type).bind λl=>if l.length=P.cellsOf f.type then (A1J P g r (off+l.length)).map (l ++ ·) else A7 else A7
def B4d(P:Program):Nat->TypeId->Option (List Sh)
 | 0,_=>A7
 | n+1,t=>match P.underlying t with
  | some .bool=>A4 [.b]
  | some (.int k)=>A4 [.i k]
  | some .string=>A4 [.s]
  | some (.struct fs)=>(A1J P (B4d P n) fs.toList 0).bind λl=>if l.length=P.cellsOf t then A4 l else A7
  | some (.array m e)=>(B4d P n e).bind λl=>if l.length=P.cellsOf e/\P.cellsOf t=m*l.length then A4 (E55 m l).flatten else A7
  | _=>A7
def okCell:Sh->Cell->Prop
 | .b,.b _=>True
 | .i k,.i k' n=>k'=k/\k.min<=n/\n<=k.max
 | .s,.s l=>l.length<=maxLen
 | _,_=>False
def okCell.flat{s:Sh}{c:Cell}(h:okCell s c):c.flat=A5/\c.isX=A6:=by
 cases s<;>cases c<;>simp_all [okCell,Cell.flat,Cell.isX]
def B6h:∀ {l:List Sh} {cs:List Cell},All2 okCell l cs->N8 cs=A5/\noX cs=A5
 | [],[],_=>⟨rfl,rfl⟩
 | s::l,c::cs,⟨h1,h2⟩=>by
  have:=B6h h2;have h3:=h1.flat;simp [this.1,h3.1,noX,h3.2];have:=this.2;simpa [noX] using this
 | [],_::_,h=>h.elim
 | _::_,[],h=>h.elim
section
variable {H:Type} {enc:TypeId × Value->H} {P:Program} {w:World} {base:Nat} {spare:Nat->Bool} {held:Bool} {fuel:Nat} {t:TypeId} {cs:List Value} {x:DataW H × List MemPlace}
def trod_array{n:Nat}{e:TypeId}(ht:P.underlying t=A4 (.array n e))(h:DataW.trod enc P w base spare held fuel t cs=A4 x) :
  ∃ (m:Nat) (xs:List (DataW H × List MemPlace)),cs.length=P.cellsOf t/\∀ i,i<n->∃ y,DataW.trod enc P w base spare held m e ((cs.drop (i*P.cellsOf e)).take (P.cellsOf e))=A4 y:=by
 cases fuel with
 | zero=>simp [DataW.trod] at h
 | succ m =>
  unfold DataW.trod at h;rw [ht] at h;have h':cs.length=P.cellsOf t/\∃ xs,((E6z n).mapM λi=>DataW.trod enc P w base spare held m e ((cs.drop (i*P.cellsOf e)).take (P.cellsOf e)))=A4 xs:=by
   split at h<;>simp_all
   obtain ⟨hl,xs,hp,hd⟩:=h;exact ⟨xs,hp⟩
  obtain ⟨hl,xs,hp⟩:=h';refine ⟨m,xs,hl,λi hi=>?_⟩;have:=mapM_some_get hp i i (by simp [hi]);rw [this];have hxl:xs.length=n:=by simpa using mapM_some_length hp
  exact ⟨xs[i],E51 (by omega)⟩
def B36(μ:Mu):∀ (n:Nat) {t:TypeId} {fuel:Nat} {cs:List Value} {x:DataW H × List MemPlace} {sh:List Sh},DataW.trod enc P w base spare held fuel t cs=A4 x->B4d P n t=A4 sh ->
  ∃ cells,All2 (RC μ) cells cs/\All2 okCell sh cells
 | 0,_,_,_,_,_,_,hs=>by simp [B4d] at hs
 | n+1,t,fuel,cs,x,sh,h,hs=>by
  unfold B4d at hs;split at hs
  ·rename_i ht;cases hs;obtain ⟨b,rfl,_⟩:=DataW.trod_bool ht h;exact ⟨[.b b],⟨rfl,trivial⟩,⟨trivial,trivial⟩⟩
  ·rename_i k ht;cases hs;obtain ⟨m,rfl,_,hw⟩:=DataW.trod_int ht h;simp only [Lit.wf,E53,decide_eq_true_eq] at hw;exact ⟨[.i k m],⟨rfl,trivial⟩,⟨⟨rfl,hw⟩,trivial⟩⟩
  ·rename_i ht;cases hs;obtain ⟨s,rfl,_,hw⟩:=DataW.trod_string ht h;exact ⟨[.s s.data.toList],⟨by show Value.string s=.string ⟨s.data.toList.toArray⟩;simp,trivial⟩,⟨by show s.data.toList.length<=maxLen;simpa using hw,trivial⟩⟩
  ·rename_i fs ht;simp only [E52] at hs;obtain ⟨l,hl,hs⟩:=hs;split at hs
   ·rename_i hlen;cases hs;obtain ⟨xs,m,_,_,oG,hxl,hf⟩:=DataW.trod_struct ht h;have key:∀ (r:List Field) (off:Nat) (l:List Sh),A1J P (B4d P n) r off=A4 l->(∀ f∈r,∃ y,DataW.trod enc P w base spare held m f.type ((cs.drop f.offset).take (P.cellsOf f.type))=A4 y) ->
      ∃ cells,All2 (RC μ) cells ((cs.drop off).take l.length)/\All2 okCell l cells:=by
     intro r
     induction r with
     | nil=>intro off l hl _;simp only [A1J,E57] at hl;subst hl;exact ⟨[],by simp,trivial⟩
     | cons f r ih =>
      intro off l hl jP;simp only [A1J] at hl;split at hl
      ·rename_i ho;simp only [E52] at hl;obtain ⟨lf,hlf,hl⟩:=hl;split at hl
       ·rename_i hc;simp only [E6m] at hl;obtain ⟨lr,hlr,rfl⟩:=hl;obtain ⟨y,hy⟩:=jP f (by simp);obtain ⟨c1,g1,g2⟩:=B36 μ n hy hlf;obtain ⟨c2,g3,g4⟩:=ih (off+lf.length) lr hlr λf' hf'=>jP f' (by simp [hf'])
        refine ⟨c1++c2,?_,g2.append g4⟩;have e:(cs.drop off).take (lf++lr).length=(cs.drop off).take lf.length++(cs.drop (off+lf.length)).take lr.length:=by
         rw [E58,List.take_add,E7e]
        rw [e];rw [ho,<-hc] at g1;exact g1.append g3
       ·cases hl
      ·cases hl
    have h1:=key fs.toList 0 _ hl λf hf'=>by
     obtain ⟨i,hi⟩:=List.mem_iff_getElem?.1 hf';have hi2:fs[i]?=A4 f:=by simpa using hi
     rw [hf i f hi2];have:i<fs.size:=(Array.getElem?_eq_some_iff.1 hi2).1;exact ⟨xs[i],E51 (by omega)⟩
    rw [E6i,E6l (by omega)] at h1;exact h1
   ·cases hs
  ·rename_i k e ht;simp only [E52] at hs;obtain ⟨l,hl,hs⟩:=hs;split at hs
   ·rename_i hlen;cases hs;obtain ⟨m,xs,oG,jP⟩:=trod_array ht h;have key:∀ d j,j+d=k->∃ cells,All2 (RC μ) cells (cs.drop (j*l.length))/\All2 okCell (E55 d l).flatten cells:=by
     intro d
     induction d with
     | zero =>
      intro j hj;have:cs.drop (j*l.length)=[]:=E6f (by rw [oG,hlen.2];have:j=k:=(by omega);subst this;exact E56 _);rw [this];exact ⟨[],trivial,trivial⟩
     | succ d ih =>
      intro j hj;obtain ⟨y,hy⟩:=jP j (by omega);obtain ⟨c1,g1,g2⟩:=B36 μ n hy hl;obtain ⟨c2,g3,g4⟩:=ih (j+1) (by omega);refine ⟨c1++c2,?_,?_⟩
      ·rw [<-hlen.1] at g1;have e2:cs.drop (j*l.length)=(cs.drop (j*l.length)).take l.length++cs.drop ((j+1)*l.length):=by
        rw [E7f,Nat.one_mul,<-E7e,List.take_append_drop]
       rw [e2];exact g1.append g3
      ·rw [E6D,E65];exact g2.append g4
    have h1:=key k 0 (by omega);simpa using h1
   ·cases hs
  ·cases hs
end
def Mu.set(μ:Mu)(id:Nat)(y:Option (Nat × Nat)):Mu:=λj=>if j=id then y else μ j
def Mu.le_set{μ:Mu}{id:Nat}{y:Option (Nat × Nat)}(h:μ id=Option.none):μ.le (μ.set id y):=by
 intro j x hj;unfold Mu.set;by_cases e:j=id
 ·subst e;rw [h] at hj;cases hj
 ·simp [e,hj]
def Inv.addRow{W:World}{h:A9}{μ:Mu}(hi:Inv (C5K W) μ h W)(hro:∀ id r,rd h id=A4 r->r.own=A6){y:Option (Nat × Nat)}{cs:List Cell}(A4O:(Row.mk cs A6).own=A6)(hrow:RowOk (μ.set h.length y) W h.length ⟨cs,A6⟩) :
  Inv (C5K W) (μ.set h.length y) (h++[A4 ⟨cs,A6⟩]) W/\∀ id r,rd (h++[A4 ⟨cs,A6⟩]) id=A4 r->r.own=A6:=by
 have hm:μ h.length=Option.none:=hi.dom _ (E56 _);have get:∀ id r,rd (h++[A4 ⟨cs,A6⟩]) id=A4 r->(id<h.length/\rd h id=A4 r)\/(id=h.length/\r=⟨cs,A6⟩):=by
  intro id r hr;by_cases hl:id<h.length
  ·rw [D3 hl] at hr;exact .inl ⟨hl,hr⟩
  ·have W5:=E1 hr;simp at W5;have:id=h.length:=by omega
   subst this;rw [N6] at hr;cases hr;exact .inr ⟨rfl,rfl⟩
 have ro':∀ id r,rd (h++[A4 ⟨cs,A6⟩]) id=A4 r->r.own=A6:=by
  intro id r hr;rcases get id r hr with ⟨_,h1⟩ | ⟨_,rfl⟩
  ·exact hro id r h1
  ·exact A4O
 refine ⟨⟨?_,?_,?_,?_,hi.ctx⟩,ro'⟩
 ·intro id r hr;rcases get id r hr with ⟨hl,h1⟩ | ⟨rfl,rfl⟩
  ·exact (hi.rows id r h1).mono (Mu.le_set hm) (by simp [Mu.set];omega) λ_ _=>rfl
  ·exact hrow
 ·intro id dM r r' x x' hr _ hw;rw [ro' id r hr] at hw;cases hw
 ·intro id r x hr hw;rw [ro' id r hr] at hw;cases hw
 ·intro id hl;simp at hl;have:id≠h.length:=by omega
  simp only [Mu.set,this,if_false];exact hi.dom id (by omega)
def E0e{μ:Mu}{k:Nat}{cs:List Cell}{vs:List Value}(h:All2 (RC μ) cs vs):(Row.mk (E55 k .dark++cs) A6).own=A6:=by
 cases k with
 | succ k=>rfl
 | zero =>
  cases cs with
  | nil=>rfl
  | cons c cs =>
   cases vs with
   | nil=>exact h.elim
   | cons v vs =>
    have h1:=h.1;cases c<;>first | rfl | exact h1.elim
def Opened(W:World)(μ:Mu)(h:A9):Prop:=Inv (C5K W) μ h W/\∀ id r,rd h id=A4 r->r.own=A6
def Opened.nought(W:World):Opened W (λ_=>Option.none) []:=⟨Inv.nought W,λid r h=>by simp [rd] at h⟩
section
variable {H:Type} {enc:TypeId × Value->H} {P:Program} {W:World} {base:Nat} {held:Bool} {t:TypeId}
def D8Y{W:World}{a:Addr}{C:Array Value}{elem:TypeId}{fz:Nat × Nat}{k:Nat}(hC:W.heap[a.block]?=A4 (.cells C elem fz))(hs:a.spot=A7):W.cell? (a.add k)=C[a.off+k]? := by
 have h1:(a.add k).block=a.block:=by unfold Addr.add;split<;>rfl
 have h2:(a.add k).spot=A7:=by unfold Addr.add;split<;>simp_all
 have h3:(a.add k).off=a.off+k:=by unfold Addr.add;split<;>simp_all
 unfold World.cell?;rw [h1,hC,h3];simp [h2]
def C6S{μ:Mu}{h:A9}(ho:Opened W μ h){r:Reach}{b0 n:Nat}{e:TypeId}{v:Value}{d:DataW H}{ps:List MemPlace}{sh:List Sh}(ht:P.underlying t=A4 (.slice e))(hs:B4d P n e=A4 sh)(hsl:sh.length=P.cellsOf e)(B7h:0<sh.length)
  (C6i:Value.okWide P W r b0 t v) (hd:DataW.Trod enc P W base (λ_=>A5) held t v d ps) :
  ∃ v' μ' l len cells,μ.le μ'/\Opened W μ' (h++l)/\RV μ' v' v/\Has (h++l) v' sh.length len cells/\All2 okCell (E55 len sh).flatten cells/\len<=maxLen:=by
 obtain ⟨fuel,hf⟩:=hd;have hv:∃ a len cap,v=.slice a len cap:=by
  unfold Value.okWide at C6i;rw [ht] at C6i;unfold Cell.okWide at C6i;rw [ht] at C6i;cases v<;>simp_all [Cell.ok]
 obtain ⟨a0,len0,cap0,rfl⟩:=hv;have E3f:(Value.slice a0 len0 cap0).cells.toList=[.slice a0 len0 cap0]:=by simp [Value.cells]
 rw [E3f] at hf;rcases Deep.open_slice ht hf with ⟨hc,_⟩ | ⟨a,len,cap,m,k,D,Pl,hc,hb,hl,hm,hmm,hx,hel⟩
 ·simp only [List.cons.injEq,Value.slice.injEq,and_true] at hc;obtain ⟨rfl,rfl,rfl⟩:=hc;exact ⟨.c .ns,μ,[],0,[],Mu.le_refl _,by simpa using ho,rfl,.inl ⟨rfl,rfl,rfl⟩,by simp,Nat.zero_le _⟩
 ·simp only [List.cons.injEq,Value.slice.injEq,and_true] at hc;obtain ⟨rfl,rfl,rfl⟩:=hc;simp only [if_true] at hmm;subst hmm;rw [<-hsl] at hel;by_cases hm0:m=0
  ·subst hm0;have:len0=0:=by omega
   subst this;obtain ⟨g1,g2⟩:=Inv.addRow ho.1 ho.2 (y:=Option.none) (cs:=[]) rfl (by unfold RowOk;simp [Mu.set]);exact ⟨.c (.sl h.length 0 0 sh.length),_,[A4 ⟨[],A6⟩],0,[],Mu.le_set (ho.1.dom _ (E56 _)),⟨g1,g2⟩,.inr ⟨rfl,_,rfl⟩,.inr ⟨h.length,0,⟨[],A6⟩,rfl,N6,by simp,by simp,by simp,rfl⟩,by simp,Nat.zero_le _⟩
  ·obtain ⟨cs0,hc0,hr0⟩:=hel 0 (by omega);obtain ⟨_,E5O,E3e⟩:=World.cells?_some hc0;have yO:∃ C elem fz,W.heap[a.block]?=A4 (.cells C elem fz)/\a.spot=A7:=by
    have:=E3e 0 B7h;rw [E51 (by omega)] at this;unfold World.cell? at this;have hb0:((a.add (0*sh.length)).add 0)=a:=by simp [Addr.add]
    rw [hb0] at this;split at this
    ·rename_i C elem fz hh;refine ⟨C,elem,fz,hh,?_⟩;split at this
     ·cases this
     ·rename_i hs2;cases hsp:a.spot with
      | none=>rfl
      | some s=>simp [hsp] at hs2
    ·cases this
   obtain ⟨C,elem,fz,hC,hsp⟩:=yO;have ha:a=⟨a.block,a.off,A7⟩:=by cases a;simp_all
   have D9G:∀ i j,i<m->j<sh.length->W.cell? ((a.add (i*sh.length)).add j)=C[a.off+(i*sh.length+j)]? := by
    intro i j _ _;rw [Deep.add_add];exact D8Y hC hsp
   have E4t:a.off+m*sh.length<=C.size:=by
    obtain ⟨cs1,hc1,_⟩:=hel (m-1) (by omega);obtain ⟨_,E4n,D4J⟩:=World.cells?_some hc1;have h1:=D4J (sh.length-1) (by omega);rw [D9G _ _ (by omega) (by omega),E51 (by omega)] at h1;have h2:=(Array.getElem?_eq_some_iff.1 h1).1;have e:(m-1)*sh.length+(sh.length-1)+1=m*sh.length:=by
     obtain ⟨q,rfl⟩:∃ q,m=q+1:=⟨m-1,by omega⟩;rw [Nat.add_sub_cancel,E7f];omega
    omega
   have key:∀ d j,j+d=len0->∃ cells,All2 (RC μ) cells ((C.toList.drop (a.off+j*sh.length)).take (d*sh.length))/\All2 okCell (E55 d sh).flatten cells:=by
    intro d
    induction d with
    | zero=>intro j _;exact ⟨[],by simp,trivial⟩
    | succ d ih =>
     intro j hj;obtain ⟨cs1,hc1,hr1⟩:=hel j (by omega);obtain ⟨_,E4n,D4J⟩:=World.cells?_some hc1;obtain ⟨c1,g1,g2⟩:=B36 μ n hr1 hs;obtain ⟨c2,g3,g4⟩:=ih (j+1) (by omega);refine ⟨c1++c2,?_,by rw [E6D,E65];exact g2.append g4⟩;have e1:(C.toList.drop (a.off+j*sh.length)).take sh.length=cs1:=by
      refine E7b λi=>?_
      by_cases hi:i<sh.length
      ·rw [E6L hi,List.getElem?_drop,<-D4J i hi,D9G j i (by omega) hi];simp [Nat.add_assoc]
      ·rw [E6u (by simp;omega),E6u (by omega)]
     have e2:(C.toList.drop (a.off+j*sh.length)).take ((d+1)*sh.length)=cs1++(C.toList.drop (a.off+(j+1)*sh.length)).take (d*sh.length):=by
      rw [E7f d 1,Nat.one_mul,Nat.add_comm (d*sh.length),List.take_add,e1,E7e,E7f,Nat.one_mul,Nat.add_assoc]
     rw [e2];exact g1.append g3
   obtain ⟨cells,k1,k2⟩:=key len0 0 (by omega);rw [Nat.zero_mul,E7a] at k1;have oG:cells.length=len0*sh.length:=by
    have h1:=k1.length;simp at h1;have:len0*sh.length<=m*sh.length:=Nat.mul_le_mul_right _ hl;omega
   have hmul:len0*sh.length<=m*sh.length:=Nat.mul_le_mul_right _ hl;have hm':μ h.length=A7:=ho.1.dom _ (E56 _);obtain ⟨g1,g2⟩:=Inv.addRow ho.1 ho.2 (y:=A4 (a.block,C.size)) (cs:=E55 a.off .dark++cells) (E0e k1) (by
    unfold RowOk;simp only [Mu.set,if_true];refine .inl ⟨C,elem,fz,hC,rfl,?_,λhf=>by cases hf⟩;have e3:C.toList.take (E55 a.off Cell.dark++cells).length=C.toList.take a.off++(C.toList.drop a.off).take (len0*sh.length):=by
     rw [E58,E6y,List.take_add,oG]
    rw [e3];refine All2.append ?_ (k1.mono λc V hc=>.inl (hc.mono (Mu.le_set hm')));refine All2.of_get (by simp;omega) λi c V hc hV=>.inr ⟨rfl,?_⟩
    have:=E6n hc;rw [List.mem_replicate] at this;rw [this.2];rfl)
   refine ⟨.c (.sl h.length a.off len0 sh.length),_,[A4 ⟨E55 a.off .dark++cells,A6⟩],len0,cells,Mu.le_set hm',⟨g1,g2⟩,.inl ⟨a.block,C.size,m,by simp [Mu.set],hl,E4t,by rw [<-ha]⟩,.inr ⟨h.length,a.off,_,rfl,N6,oG,?_,?_,(B6h k2).2⟩,k2,by omega⟩
   ·simp [oG]
   ·rw [List.drop_left' (by simp),E6l (by omega)]
end
def E3y(k:IntKind)(n:Int):Prop:=k.min<=n/\n<=k.max
def D7j{n:Int}:E3y .u8 n↔0<=n/\n<=255:=Iff.rfl
def D23:∀ {n:Nat} {cells:List Cell},All2 okCell (E55 n (.i .u8)) cells->∃ l:List UInt8,cells=B5 l/\l.length=n
 | 0,[],_=>⟨[],rfl,rfl⟩
 | n+1,c::cs,h=>by
  rw [E6D] at h;obtain ⟨l,rfl,hl⟩:=D23 h.2;have h1:=h.1;cases c with
  | i k m =>
   obtain ⟨rfl,h2⟩:=h1;have h3:=D7j.1 h2;refine ⟨UInt8.ofNat m.toNat::l,?_,by simp [hl]⟩;simp only [B5,E6N,List.cons.injEq,Cell.i.injEq,true_and,and_true];rw [UInt8.toNat_ofNat'];omega
  | _=>exact h1.elim
 | 0,_::_,h=>h.elim
 | n+1,[],h=>by rw [E6D] at h;exact h.elim
section
variable {H:Type} {enc:TypeId × Value->H} {P:Program} {W:World} {base:Nat} {spare:Nat->Bool} {held:Bool} {t:TypeId} {r:Reach} {b0 n:Nat} {v:Value} {d:DataW H} {ps:List MemPlace}
def E2Z{e:TypeId}{sh:List Sh}{μ:Mu}{h:A9}(ho:Opened W μ h)(C6i:Value.okWide P W r b0 t v)(hd:DataW.Trod enc P W base (λ_=>A5) held t v d ps)(ht:P.underlying t=A4 (.slice e))(hs:B4d P n e=A4 sh)(hsl:sh.length=P.cellsOf e)(B7h:0<sh.length) :
  ∃ v' μ' l len cells,μ.le μ'/\Opened W μ' (h++l)/\RV μ' v' v/\Has (h++l) v' sh.length len cells/\All2 okCell (E55 len sh).flatten cells/\len<=maxLen :=
 C6S ho ht hs hsl B7h C6i hd
end
end Go.Esc
section
namespace Go.Esc
open Go
def Has.tr{h:A9}{id sz n:Nat}{cs:List Cell}(hr:rd h id=A4 ⟨cs,A5⟩)(hl:cs.length=n*sz)(hx:noX cs=A5):Has h (.c (.sl id 0 n sz)) sz n cs:=Has.row hr hl hx
def Has.since{g h:A9}{v:Val}{sz n:Nat}{cs:List Cell}(hv:Has g v sz n cs)(h1:Low (l_ g) g h):Has h v sz n cs:=by
 rcases hv with hv | ⟨id,off,r,rfl,hr,h2⟩
 ·exact .inl hv
 ·exact .inr ⟨id,off,r,rfl,by rw [h1.2.2 id (E1 hr)];exact hr,h2⟩
def Low.rd{g h:A9}(h1:Low (l_ g) g h){id:Nat}{r:Row}(hr:rd g id=A4 r):rd h id=A4 r:=by
 rw [h1.2.2 id (E1 hr)];exact hr
def push{g h:A9}{id n sz:Nat}{cs ys:List Cell}(hlow:Low (l_ g) g h)(hr:rd h id=A4 ⟨cs,A5⟩)(hl:cs.length=n*sz)(hb:l_ g<=id)(hy:ys.length=sz)(hsz:0<sz)(hn:n+1<=1073741824) :
  ∃ h',tJ (h++[A4 ⟨ys,A5⟩]) sz (.c (.sl id 0 n sz)) (.c (.sl h.length 0 1 sz))=A4 (.c (.sl (h.length+1) 0 (n+1) sz),h')/\rd h' (h.length+1)=A4 ⟨cs++ys,A5⟩/\Low (l_ g) g h'/\(l_ g)<=h.length+1/\(cs++ys).length=(n+1)*sz:=by
 have W5:=E1 hr;have h1:rd (h++[A4 ⟨ys,A5⟩]) id=A4 ⟨cs,A5⟩:=B7 hr;have h2:U5 (h++[A4 ⟨ys,A5⟩]) sz (.c (.sl h.length 0 1 sz))=A4 ys:=by
  have:=(Has.row (h:=h++[A4 ⟨ys,A5⟩]) (id:=h.length) (sz:=sz) (n:=1) (cs:=ys) (rw:=A5) (by simp) (by omega));simp [U5,pW,hy,E6l (Nat.le_of_eq hy)]
 refine ⟨(h++[A4 (Row.mk ys A5)]).set id A7++[A4 (Row.mk (cs++ys) A5)],?_,?_,((hlow.new _).set hb A7).new _,by have:=hlow.2.1;omega,by simp [hl,hy,E7f]⟩
 ·simp only [tJ,h2,h1,E6h,hy,Nat.div_self hsz];rw [if_pos ⟨trivial,trivial,hl.symm,trivial,hn⟩];simp
 ·have:=N6 (h:=(h++[A4 (Row.mk ys A5)]).set id A7) (r:=Row.mk (cs++ys) A5);rw [E6F] at this;simpa using this
def ldN(r:Option Row)(off n:Nat):Option Val:=r.bind λr=>if off+n<=r.cells.length/\(r.rw||noX ((r.cells.drop off).take n))=A5 then A4 (.a ((r.cells.drop off).take n)) else A7
def ld1(r:Option Row)(off:Nat):Option Val:=r.bind λr=>(r.cells[off]?).bind λc=>bif r.rw || !c.isX then A4 (.c c) else A7
def stN(r:Option Row)(off n:Nat)(xs:List Cell):Option Row:=r.bind λr=>if r.rw=A5/\xs.length=n/\off+n<=r.cells.length then A4 ⟨lay r.cells off xs,A5⟩ else A7
def st1(r:Option Row)(off:Nat)(x:Cell):Option Row:=r.bind λr=>if r.rw=A5/\off<r.cells.length then A4 ⟨r.cells.set off x,A5⟩ else A7
def slr(r:Option Row)(id off n sz:Nat):Option Val:=r.bind λr=>if off+n*sz<=r.cells.length/\(r.rw=A5\/Option.any (λc=>!c.isX) r.cells[off]?=A5) then A4 (.c (.sl id off n sz)) else A7
section
variable {h:A9} {l:List (Option Row)} {k off n sz:Nat} {cs xs:List Cell} {x:Cell} {kd:IntKind}
def O7:D1 (h++l) n (.c (.p (h.length+k) off))=ldN (l[k]?).join off n:=by simp [D1,ldN]
def G8:D1 (h++l) n (.c (.p h.length off))=ldN (l[0]?).join off n:=by simp [D1,ldN]
def Y9:B9 (h++l) (.c (.p (h.length+k) off))=ld1 (l[k]?).join off:=by simp [B9,ld1]
def I7:B9 (h++l) (.c (.p h.length off))=ld1 (l[0]?).join off:=by simp [B9,ld1]
def S3:F9 (h++l) n (.c (.p (h.length+k) off)) (.a xs)=mp (stN (l[k]?).join off n xs) λr=>h++l.set k (A4 r):=by
 simp only [F9,stN,qK];cases (l[k]?).join with
 | none=>rfl
 | some r=>simp only [E6h];split<;>simp [mp]
def G9:F9 (h++l) n (.c (.p h.length off)) (.a xs)=mp (stN (l[0]?).join off n xs) λr=>h++l.set 0 (A4 r):=S3 (k:=0)
def nQ:I8 (h++l) (.c (.p (h.length+k) off)) (.c x)=mp (st1 (l[k]?).join off x) λr=>h++l.set k (A4 r):=by
 simp only [I8,st1,qK];cases (l[k]?).join with
 | none=>rfl
 | some r=>simp only [E6h];split<;>simp [mp]
def A56:I8 (h++l) (.c (.p h.length off)) (.c x)=mp (st1 (l[0]?).join off x) λr=>h++l.set 0 (A4 r):=nQ (k:=0)
def D5O:D0k (h++l) n sz (.c (.p (h.length+k) off)) A7 A7=slr (l[k]?).join (h.length+k) off n sz:=by
 simp [D0k,slr,bound]
def D8N:D0k (h++l) n sz (.c (.p h.length off)) A7 A7=slr (l[0]?).join h.length off n sz:=D5O (k:=0)
def K8(hl:cs.length=n):ldN (A4 ⟨cs,A5⟩) 0 n=A4 (.a cs):=by
 subst hl;simp [ldN]
def yB:ld1 (A4 ⟨cs,A5⟩) off=(cs[off]?).map .c:=by
 simp only [ld1,E6h,E6P,cond_true];cases cs[off]?<;>rfl
def fD(hl:cs.length=n)(hx:xs.length=n):stN (A4 ⟨cs,A5⟩) 0 n xs=A4 ⟨xs,A5⟩:=by
 simp only [stN,E6h];rw [if_pos ⟨trivial,hx,by omega⟩,lay_all (by omega)]
def D6z(ho:off<cs.length):st1 (A4 ⟨cs,A5⟩) off x=A4 ⟨cs.set off x,A5⟩:=by
 simp only [st1,E6h];rw [if_pos ⟨trivial,ho⟩]
def E2l(hl:cs.length=n){id:Nat}:slr (A4 ⟨cs,A5⟩) id 0 n 1=A4 (.c (.sl id 0 n 1)):=by
 simp only [slr,E6h];rw [if_pos ⟨by show 0+n*1<=cs.length;omega,.inl trivial⟩]
end
section
variable {k:IntKind} {a b:Int}
def B8G{k':IntKind}(hb:0<=b):N5 .shl (.c (.i k a)) (.c (.i k' b))=A4 (.c (.i k (k.wrap (a*2 ^ (Nat.min b.toNat k.bits))))):=by
 simp only [N5,E3z];rw [if_neg (by omega)];rfl
def C5b{k':IntKind}(hb:0<=b):N5 .shr (.c (.i k a)) (.c (.i k' b))=A4 (.c (.i k (a/(2 ^ (Nat.min b.toNat k.bits))))):=by
 simp only [N5,E3A];rw [if_neg (by omega),Int.fdiv_eq_ediv_of_nonneg _ (Int.pow_nonneg (by omega))];rfl
end
def E3L{a b:Nat}(ha:a<18446744073709551616)(hb:b<18446744073709551616):N5 .or (.c (.i .u64 a)) (.c (.i .u64 b))=A4 (.c (.i .u64 ((a ||| b:Nat):Int))):=by
 rw [D0e]
 congr 3
 have h1:(IntKind.u64).bits=64:=rfl;have h2:(a ||| b)<2 ^ 64:=Nat.or_lt_two_pow (by simpa using ha) (by simpa using hb);rw [h1];simp only [BitVec.ofInt_natCast,BitVec.toNat_or,BitVec.toNat_ofNat];rw [Nat.mod_eq_of_lt (by simpa using ha),Nat.mod_eq_of_lt (by simpa using hb)];exact wrap_u64 (by omega) (by omega)
def E3K{a b:Nat}(ha:a<9223372036854775808)(hb:b<9223372036854775808):N5 .or (.c (.i .i64 a)) (.c (.i .i64 b))=A4 (.c (.i .i64 ((a ||| b:Nat):Int))):=by
 rw [D0e]
 congr 3
 have h1:(IntKind.i64).bits=64:=rfl;have h2:(a ||| b)<2 ^ 63:=Nat.or_lt_two_pow (by simpa using ha) (by simpa using hb);rw [h1];simp only [BitVec.ofInt_natCast,BitVec.toNat_or,BitVec.toNat_ofNat];rw [Nat.mod_eq_of_lt (by omega),Nat.mod_eq_of_lt (by omega)];exact wrap_i64 (by omega) (by omega)
def E2v{a b:Nat}(ha:a<4294967296)(hb:b<4294967296):N5 .xor (.c (.i .u32 a)) (.c (.i .u32 b))=A4 (.c (.i .u32 ((a ^^^ b:Nat):Int))):=by
 rw [D8y]
 congr 3
 have h1:(IntKind.u32).bits=32:=rfl;have h2:(a ^^^ b)<2 ^ 32:=Nat.xor_lt_two_pow (by simpa using ha) (by simpa using hb);rw [h1];simp only [BitVec.ofInt_natCast,BitVec.toNat_xor,BitVec.toNat_ofNat];rw [Nat.mod_eq_of_lt (by omega),Nat.mod_eq_of_lt (by omega)];exact wrap_u32 (by omega) (by omega)
def E1b{a b:Nat}(ha:a<4294967296)(hb:b<4294967296):N5 .and (.c (.i .u32 a)) (.c (.i .u32 b))=A4 (.c (.i .u32 ((a &&& b:Nat):Int))):=by
 rw [D8s]
 congr 3
 have h1:(IntKind.u32).bits=32:=rfl;have h2:(a &&& b)<=a:=Nat.and_le_left;rw [h1];simp only [BitVec.ofInt_natCast,BitVec.toNat_and,BitVec.toNat_ofNat];rw [Nat.mod_eq_of_lt (by omega),Nat.mod_eq_of_lt (by omega)];exact wrap_u32 (by omega) (by omega)
def C28{a:Int}:E6a .u8 a=a%256:=by
 simp only [E6a,IntKind.bits,IntKind.signed,E6p];rfl
def E3J{a b i:Nat}(ha:a<2 ^ i):(a ||| b*2 ^ i)=a+b*2 ^ i:=by
 rw [Nat.mul_comm b,Nat.or_comm,<-Nat.two_pow_add_eq_or_of_lt ha];omega
def A5a{a b:Nat}(h:a+b<9223372036854775808):E6a .i64 ((a:Int)+b)=((a+b:Nat):Int):=by rw [wrap_i64 (by omega) (by omega)];omega
def D9{a:Nat}(h:a+1<9223372036854775808):E6a .i64 ((a:Int)+1)=((a+1:Nat):Int):=by rw [wrap_i64 (by omega) (by omega)];omega
def D3D{k:IntKind}{x:UInt8}{i:Nat}(hi:i<8)(hk:E6a k ((x.toNat*256 ^ i:Nat):Int)=((x.toNat*256 ^ i:Nat):Int))(hb:k.bits=64) :
  N5 .shl (.c (.i k x.toNat)) (.c (.i .u64 (8*(i:Int))))=A4 (.c (.i k ((x.toNat*256 ^ i:Nat):Int))):=by
 rw [B8G (by omega),hb];have:Nat.min (8*(i:Int)).toNat 64=8*i:=by
  have:(8*(i:Int)).toNat=8*i:=by omega
  rw [this];exact Nat.min_eq_left (by omega)
 rw [this];have hp:(256:Nat) ^ i=2 ^ (8*i):=by rw [Nat.pow_mul]
 have e:(x.toNat:Int)*2 ^ (8*i)=((x.toNat*256 ^ i:Nat):Int):=by rw [hp];simp
 rw [e,hk]
def B4U{i n:Nat}(h:i<=n):256 ^ i<=256 ^ n:=Nat.pow_le_pow_right (by omega) h
def C2v{x:UInt8}{i n:Nat}(h:i<n):x.toNat*256 ^ i<256 ^ n:=by
 have h1:=x.toNat_lt;have h2:x.toNat*256 ^ i<=255*256 ^ i:=Nat.mul_le_mul_right _ (by omega);have h3:256 ^ (i+1)<=256 ^ n:=B4U h;have h4:0<256 ^ i:=Nat.pow_pos (by omega);rw [Nat.pow_succ] at h3;omega
def byI(v:Int)(i:Nat):UInt8:=UInt8.ofNat ((v/256 ^ i)%256).toNat
def C4a(v:Int)(i:Nat):((byI v i).toNat:Int)=v/256 ^ i%256:=by
 have h1:0<=v/256 ^ i%256:=Int.emod_nonneg _ (by omega);have h2:v/256 ^ i%256<256:=Int.emod_lt_of_pos _ (by omega);unfold byI;rw [UInt8.toNat_ofNat'];omega
def D4(w:Nat)(v:Int):List UInt8:=(E6z w).map (byI v)
@[simp] theorem R2 {w:Nat} {v:Int}:(D4 w v).length=w:=by simp [D4]
def B3b{w:Nat}{v:Int}:D4 (w+1) v=D4 w v++[byI v w]:=by simp [D4,List.range_succ]
def le:List UInt8->Nat
 | []=>0
 | x::r=>x.toNat+256*le r
def D2I:∀ l:List UInt8,le l<256 ^ l.length
 | []=>by simp [le]
 | x::r=>by
  have h1:=D2I r;have h2:=x.toNat_lt;simp only [le,E6g,Nat.pow_succ];omega
def D7s(l m:List UInt8):le (l++m)=le l+256 ^ l.length*le m:=by
 induction l with
 | nil=>simp [le]
 | cons x r ih =>
  simp only [E6Y,le,ih,E6g,Nat.pow_succ,Nat.mul_add];rw [Nat.mul_comm (256 ^ r.length) 256,Nat.mul_assoc];omega
def D6a(l:List UInt8)(x:UInt8):le (l++[x])=le l+x.toNat*256 ^ l.length:=by
 rw [D7s];simp [le,Nat.mul_comm]
def D6k{l:List UInt8}{x:UInt8}:(le l ||| x.toNat*256 ^ l.length)=le (l++[x]):=by
 have hp:(256:Nat) ^ l.length=2 ^ (8*l.length):=by rw [Nat.pow_mul]
 rw [D6a,hp,E3J (by rw [<-hp];exact D2I l)]
def C8X{v:Int}{i:Nat}(hi:i<8):E6a .u8 (v/2 ^ (Nat.min (8*(i:Int)).toNat 64))=((byI v i).toNat:Int):=by
 have:Nat.min (8*(i:Int)).toNat 64=8*i:=by
  have:(8*(i:Int)).toNat=8*i:=by omega
  rw [this];exact Nat.min_eq_left (by omega)
 rw [this,C28,C4a]
 congr 2
 rw [Int.pow_mul];rfl
def A7I{α:Type}{l:List α}{a i:Nat}(h:a+i<l.length):(l.drop a).take (i+1)=(l.drop a).take i++[l[a+i]]:=by
 have h2:i<(l.drop a).length:=by simp;omega
 rw [E6x h2];simp
def B4M(w:Nat)(v:Int):(le (D4 w v):Int)=v%256 ^ w:=by
 induction w with
 | zero=>simp [D4,le,Int.emod_one]
 | succ w ih =>
  rw [B3b,D6a];simp only [R2,Int.natCast_add,Int.natCast_mul,C4a,ih];have h1:(((256:Nat) ^ w:Nat):Int)=(256:Int) ^ w:=by simp
  rw [h1];have hp:(0:Int)<256 ^ w:=Int.pow_pos (by omega);have h2:=Int.mul_ediv_add_emod v (256 ^ w);have h3:=Int.mul_ediv_add_emod (v/256 ^ w) 256;have h4:v%256 ^ w+v/256 ^ w%256*256 ^ w=v-(256 ^ (w+1))*(v/256 ^ w/256):=by
   rw [Int.pow_succ,Int.mul_assoc];have e:256 ^ w*(256*(v/256 ^ w/256))+v/256 ^ w%256*256 ^ w=256 ^ w*(v/256 ^ w):=by
    rw [Int.mul_comm (v/256 ^ w%256),<-Int.mul_add,h3]
   omega
  have h5:v/256 ^ w/256=v/256 ^ (w+1):=by rw [Int.ediv_ediv_of_nonneg (Int.le_of_lt hp),Int.pow_succ]
  rw [h4,h5];have:=Int.mul_ediv_add_emod v (256 ^ (w+1));omega
def H5(l:List UInt8)(a:Nat)(xs:List UInt8):List UInt8:=l.take a++(xs++l.drop (a+xs.length))
def O2{l xs:List UInt8}{a:Nat}(h:a+xs.length<=l.length):(H5 l a xs).length=l.length:=by
 simp [H5];omega
def B9k{l:List UInt8}{a:Nat}:H5 l a []=l:=by simp [H5]
def B4L{l xs:List UInt8}{a:Nat}{x:UInt8}(h:a+xs.length<l.length):(H5 l a xs).set (a+xs.length) x=H5 l a (xs++[x]):=by
 unfold H5;have h1:(l.take a).length=a:=by simp;omega
 rw [E6O _ _ (by rw [h1];omega),h1,Nat.add_sub_cancel_left,E6O _ _ (E56 _),E67,E6d]
 congr 2
 rw [E6b (by omega)];simp [Nat.add_assoc]
def C6u{l xs:List UInt8}{a j:Nat}(h:a+xs.length<=l.length):(H5 l a xs)[j]?=if a<=j/\j<a+xs.length then xs[j-a]? else l[j]? := by
 unfold H5;have h1:(l.take a).length=a:=by simp;omega
 by_cases h2:j<a
 ·rw [E6H (by omega),if_neg (by omega),E6L h2]
 ·rw [E6r (by omega),h1];by_cases h3:j<a+xs.length
  ·rw [if_pos ⟨by omega,h3⟩,E6H (by omega)]
  ·rw [if_neg (by omega),E6r (by omega),List.getElem?_drop]
   congr 1;omega
def D2F{l xs:List UInt8}{a:Nat}(h:a+xs.length<=l.length):((H5 l a xs).drop a).take xs.length=xs:=by
 unfold H5;have h1:(l.take a).length=a:=by simp;omega
 rw [List.drop_left' h1,List.take_left' rfl]
def B84{s:List UInt8}{i:Nat}(hi:i<s.length){k:IntKind}:C5h (.c (.s s)) (.c (.i k i))=A4 (.c (.i .u8 s[i].toNat)):=by
 rw [E07,E51 hi];rfl
def B4I(l:List UInt8):(B5 l).map Cell.sh=(E55 l.length (Sh.i .u8)).map A4:=by
 induction l with
 | nil=>rfl
 | cons x l ih=>simp only [B5,E6N,E6g,E6D] at ih ⊢;rw [ih];rfl
def C4d(l:List Int):(encI l).map Cell.sh=(E55 l.length (Sh.i .i64)).map A4:=by
 induction l with
 | nil=>rfl
 | cons x l ih=>simp only [encI,E6N,E6g,E6D] at ih ⊢;rw [ih];rfl
def C8G{l m:List UInt8}{n:Nat}(hl:l.length=n)(hm:m.length=n):aeq A5 (E55 n (.i .u8)) (.a (B5 l)) (.a (B5 m))=A4 (.c (.b (!decide (l=m)))):=by
 simp only [aeq];rw [if_pos ⟨by rw [B4I,hl],by rw [B4I,hm]⟩];simp [C5U]
def E2x{l m:List UInt8}{n:Nat}(hl:l.length=n)(hm:m.length=n):aeq A6 (E55 n (.i .u8)) (.a (B5 l)) (.a (B5 m))=A4 (.c (.b (decide (l=m)))):=by
 simp only [aeq];rw [if_pos ⟨by rw [B4I,hl],by rw [B4I,hm]⟩];simp [C5U]
def D8C{l m:List Int}{n:Nat}(hl:l.length=n)(hm:m.length=n):aeq A5 (E55 n (.i .i64)) (.a (encI l)) (.a (encI m))=A4 (.c (.b (!decide (l=m)))):=by
 simp only [aeq];rw [if_pos ⟨by rw [C4d,hl],by rw [C4d,hm]⟩];simp [D2f]
def D8B{l m:List Int}{n:Nat}(hl:l.length=n)(hm:m.length=n):aeq A6 (E55 n (.i .i64)) (.a (encI l)) (.a (encI m))=A4 (.c (.b (decide (l=m)))):=by
 simp only [aeq];rw [if_pos ⟨by rw [C4d,hl],by rw [C4d,hm]⟩];simp [D2f]
def E3U{h:A9}{l:List (Option Row)}{k n a b:Nat}{cs:List Cell}(hk:(l[k]?).join=A4 ⟨cs,A5⟩)(hl:cs.length=n)(hab:a<=b)(hb:b<=n) :
  D0k (h++l) n 1 (.c (.p (h.length+k) 0)) (A4 (.c (.i .i64 (a:Int)))) (A4 (.c (.i .i64 (b:Int))))=A4 (.c (.sl (h.length+k) a (b-a) 1)):=by
 simp only [D0k,qK,hk,E6h,bound];rw [if_pos (by omega),if_pos (by omega)];simp only [E6h,E6q];rw [if_pos ⟨hab,hb,by omega,rfl⟩];simp
def Has.part{h:A9}{id sz off n:Nat}{cs xs:List Cell}{rw:Bool}(hr:rd h id=A4 ⟨cs,rw⟩)(ho:off+n*sz<=cs.length)(he:(cs.drop off).take (n*sz)=xs)(hx:noX xs=A5):Has h (.c (.sl id off n sz)) sz n xs :=
 .inr ⟨id,off,_,rfl,hr,by rw [<-he];simp;omega,ho,he,hx⟩
def B33:Option Row->Bool
 | some r=>r.own
 | none=>A5
def C6H{cs:List Cell}:B33 (A4 ⟨cs,A5⟩)=A5:=rfl
def C9s{es:V3}:B33 (A4 (P6 es))=A5:=Row.own_mrow es
def C9C{g l l':A9}{v:Val}(hp:l <+: l')(hn:(l'.drop l.length).all B33=A5):quiet (g++l) (A4 (v,g++l'))=A4 (v,g++l'):=by
 obtain ⟨t,rfl⟩:=hp;rw [List.drop_left] at hn;refine W2 ⟨⟨t,by rw [E6d]⟩,λid x hid hx=>?_⟩;have hx:=rd_some.1 hx;rw [<-E6d,E6r hid] at hx;exact List.all_eq_true.1 hn _ (E6n hx)
def Q8{id o off:Nat}:T8 (.c (.p id o)) off=A4 (.c (.p id (o+off))):=Eq.trans rfl rfl
def D3o{a b:Int}{k:IntKind}(ha:0<=a)(hb:0<b):N5 .rem (.c (.i k a)) (.c (.i k b))=A4 (.c (.i k (a%b))):=by
 rw [D8w (by omega),Int.tmod_eq_emod_of_nonneg ha]
def B0F{a b:Int}(ha:0<=a)(ha2:a<9223372036854775808)(hb:0<b):N5 .quo (.c (.i .i64 a)) (.c (.i .i64 b))=A4 (.c (.i .i64 (a/b))):=by
 have h1:0<=a/b:=Int.ediv_nonneg ha (by omega);have h2:a/b<=a:=Int.ediv_le_self _ ha;rw [D8v (by omega),Int.tdiv_eq_ediv_of_nonneg ha,wrap_i64 (by omega) (by omega)]
def A7p{h:A9}{id jd n m sz:Nat}{cs ys:List Cell}{rw:Bool}(hr:rd h id=A4 ⟨cs,A5⟩)(hl:cs.length=n*sz)(hy:rd h jd=A4 ⟨ys,rw⟩)(hyl:ys.length=m*sz)(hx:(rw||noX ys)=A5)(hsz:0<sz)(hn:n+m<=1073741824) :
  tJ h sz (.c (.sl id 0 n sz)) (.c (.sl jd 0 m sz))=A4 (.c (.sl h.length 0 (n+m) sz),h.set id A7++[A4 ⟨cs++ys,A5⟩]):=by
 have h2:U5 h sz (.c (.sl jd 0 m sz))=A4 ys:=by
  simp only [U5,if_true,pW,hy,E6h,E6i,E6j];rw [<-hyl,List.take_length,if_pos ⟨E56 _,hx⟩]
 have hd:ys.length/sz=m:=by rw [hyl];exact Nat.mul_div_cancel m hsz
 simp only [tJ,h2,hr,E6h,hd];rw [if_pos ⟨trivial,trivial,hl.symm,trivial,hn⟩]
end Go.Esc
end
namespace Go.Esc
def esc:=And.intro @Q8 (And.intro @List.append_nil.{0} (And.intro @if_true.{1} (And.intro @if_false.{1} (And.intro @C6 (And.intro @D0U (And.intro @W9 (And.intro @Y0 (And.intro @E2A (And.intro @C9d (And.intro @D9y (And.intro @D9x (And.intro @D2q (And.intro @E08 (And.intro @B0c (And.intro @E09 (And.intro @L7 (And.intro @D8x (And.intro @D8u (And.intro @gH (And.intro @B22 (And.intro @G3 (And.intro @D8t (And.intro @C5a (And.intro @C49 (And.intro @D6F (And.intro @D6H (And.intro @D6G (And.intro @xK (And.intro @E1i (And.intro @D8E (And.intro @E03 (And.intro @E2V (And.intro @E04 (And.intro @E2W (And.intro @A55 (And.intro @E2U (And.intro @E2T (And.intro @E02 (And.intro @pJ (And.intro @cond_true.{1} (And.intro @cond_false.{1} (And.intro @decide_true (And.intro @decide_false (And.intro @Bool.not_true (And.intro @Bool.not_false (And.intro @xH (And.intro @eZ (And.intro @eY (And.intro @D07 (And.intro @D06 (And.intro @D8Z (And.intro @eH (And.intro @D5C (And.intro @E3Z (And.intro @Option.map_some.{0,0} (And.intro @Option.some.injEq.{0} (And.intro @List.getElem?_cons_zero.{0} (And.intro @List.getElem?_cons_succ.{0} (And.intro @not_true_eq_false (And.intro @not_false_eq_true (And.intro @cX (And.intro @R2 (And.intro @Option.join_some.{0} (And.intro @List.append_assoc.{0} (And.intro @List.cons_append.{0} (And.intro @List.nil_append.{0} (And.intro @List.length_append.{0} (And.intro @List.length_cons.{0} (And.intro @List.length_nil.{0} (And.intro @Nat.zero_add (And.intro @Nat.add_zero (And.intro @qK (And.intro @I5 (And.intro @B7w (And.intro @yD (And.intro @List.set_cons_zero.{0} (And.intro @List.set_cons_succ.{0} (And.intro @ne_eq.{1} (And.intro @decide_not (And.intro @C9C (And.intro @C6H (And.intro @List.cons_prefix_cons.{0} (And.intro @List.nil_prefix.{0} (And.intro @List.drop_succ_cons.{0} (And.intro @List.drop_zero.{0} (And.intro @List.all_cons.{0} (And.intro @List.all_nil.{0} (And.intro @Bool.and_true (And.intro @true_and (@and_true))))))))))))))))))))))))))))))))))))))))))))))))))))))))))))))))))))))))))))))))))))))))))
def esh:=And.intro @O7 (And.intro @G8 (And.intro @Y9 (And.intro @I7 (And.intro @S3 (And.intro @G9 (And.intro @nQ (And.intro @A56 (And.intro @D5O (And.intro @D8N (And.intro @K8 (And.intro @yB (And.intro @fD (And.intro @D6z (@E2l))))))))))))))
end Go.Esc
namespace Go.Esc
@[match_pattern] abbrev iV (x:Int):Val:=.c (.i .i64 x)
@[match_pattern] abbrev pV (a b:Nat):Val:=.c (.p a b)
@[match_pattern] abbrev sV (a b c d:Nat):Val:=.c (.sl a b c d)
@[match_pattern] abbrev bV (x:Bool):Val:=.c (.b x)
@[match_pattern] abbrev rT (l:List Cell):Option Row:=some (Row.mk l true)
@[match_pattern] abbrev o0:Cell:=.i .i64 0
def aP(M:Nat)(h:0<M):∃ m,M=m+1:=⟨M-1,by omega⟩
@[match_pattern] abbrev cI (x:Int):Cell:=.i .i64 x
def xEq{α:Sort _}(a:α):∃ x,x=a:=⟨a,rfl⟩
abbrev gS(g:Val)(w:Bool)(h:A9)(o:Option Val):Option (Val × A9):=gd g w (bnd o λa=>A4 (a,h)) (A4 (.no,h))
abbrev gV(g:Val)(w:Bool)(h:A9)(x:Val):Option (Val × A9):=gd g w (A4 (x,h)) (A4 (.no,h))
end Go.Esc
namespace Go.Proofs.YtbipebfdappanaaGreat
variable {h:A9}{n b a m w i v:Int}{l data:List UInt8}{nv:Nat}
abbrev Dev:=List (List UInt8)
def E8(D:Dev):List Cell:=(D.map B5).flatten
def okD(D:Dev):Prop:=∀ b∈D,l_ b=256
def okD.cons{b:List UInt8}{D:Dev}(h:okD (b::D)):l_ b=256/\okD D:=⟨h b (E6e ..),λx hx=>h x (E59 _ hx)⟩
def okD.at{D:Dev}(h:okD D){i:Nat}(hi:i<l_ D):D[i].length=256:=h _ (E6w hi)
def okD.take{D:Dev}(h:okD D)(i:Nat):okD (D.take i):=λb hb=>h b (List.mem_of_mem_take hb)
def bW{b:List UInt8}{D:Dev}:E8 (b::D)=B5 b++E8 D:=rfl
def C7W{D E:Dev}:E8 (D++E)=E8 D++E8 E:=by simp [E8]
def D4j{b:List UInt8}:E8 [b]=B5 b:=by simp [E8]
def I6:∀ {D:Dev},okD D->(E8 D).length=l_ D*256
 | [],_=>rfl
 | b::D,h=>by
  rw [bW,E58,B6,h.cons.1,I6 h.cons.2,E6g];omega
def cV:∀ (D:Dev),noX (E8 D)=A5
 | []=>rfl
 | b::D=>by
  rw [bW];have h1:=W1 b;have h2:=cV D;simp only [noX,List.all_append,E53] at h1 h2 ⊢;exact ⟨h1,h2⟩
def jG:∀ {D:Dev},N8 (E8 D)=A5
 | []=>rfl
 | b::D=>by rw [bW,pM,jG,D4B];rfl
def pL:∀ {D:Dev} {i:Nat} (h:okD D) (hi:i<l_ D),((E8 D).drop (i*256)).take 256=B5 D[i]
 | b::D,0,h,hi=>by
  have hb:(B5 b).length=256:=by rw [B6,h.cons.1]
  rw [bW,Nat.zero_mul,E6i,<-hb,List.take_left']
  ·rfl
  ·rfl
 | b::D,i+1,h,hi=>by
  have hb:(B5 b).length=256:=by rw [B6,h.cons.1]
  have e:(i+1)*256=256+i*256:=by omega
  rw [bW,e,<-E7e,<-hb,List.drop_left',hb]
  ·exact pL h.cons.2 (by simpa using hi)
  ·rfl
def D59:∀ {D:Dev} {i:Nat} {b:List UInt8} (h:okD D) (hb:l_ b=256) (hi:i<l_ D),lay (E8 D) (i*256) (B5 b)=E8 (D.set i b)
 | c::D,0,b,h,hb,hi=>by
  unfold lay;rw [bW,E7c,bW,Nat.zero_mul,B6,hb,E6j,E6S,List.drop_left' (by rw [B6,h.cons.1])];rfl
 | c::D,i+1,b,h,hb,hi=>by
  have ih:=D59 (i:=i) h.cons.2 hb (by simpa using hi);have hc:(B5 c).length=256:=by rw [B6,h.cons.1]
  unfold lay at ih ⊢;rw [bW,List.set_cons_succ,bW,show (i+1)*256=256+i*256 by omega,List.take_append,List.drop_append,E6l (by omega),E6f (by omega),hc,show 256+i*256-256=i*256 by omega,show 256+i*256+(B5 b).length-256=i*256+(B5 b).length by omega,<-ih];simp only [E6d,E6s]
def D3v(n:Nat):rows (E55 256 (Cell.i .u8 0)) n=E8 (E55 n (zeros 256)):=by
 rw [J3];unfold rows E8;rw [List.map_replicate]
def C1I(n:Nat):okD (E55 n (zeros 256)):=λb hb=>by rw [List.eq_of_mem_replicate hb];exact zeros_length
def okD.set{D:Dev}(h:okD D){i:Nat}{b:List UInt8}(hb:l_ b=256):okD (D.set i b):=λx hx=>by
 rcases List.mem_or_eq_of_mem_set hx with hx | rfl
 ·exact h x hx
 ·exact hb
def B4Z{id i:Nat}{D:Dev}{b:List UInt8}(hr:rd h id=rT (E8 D))(hD:okD D)(hb:l_ b=256)(hi:i<l_ D) :
  F9 h 256 (pV id (i*256)) (.a (B5 b))=A4 (h.set id (rT (E8 (D.set i b)))):=by
 rw [C1T hr (by rw [B6,hb]) (by rw [I6 hD];omega),D59 hD hb hi]
def blk(D:Dev)(i:Int):List UInt8:=if 0<=i then D.getD i.toNat (zeros 256) else zeros 256
def J9{D:Dev}(h:okD D):(blk D i).length=256:=by
 unfold blk;split
 ·rw [E54];rcases Nat.lt_or_ge i.toNat (l_ D) with hl | hl
  ·rw [E51 hl];exact h.at hl
  ·rw [E6u hl];exact zeros_length
 ·exact zeros_length
def B26{D:Dev}{i:Nat}(hi:i<l_ D):blk D (i:Int)=D[i]:=by
 unfold blk;rw [if_pos (by omega),E6q,E54,E51 hi];rfl
def D8T{D:Dev}(hi:i<0\/(l_ D:Int)<=i):blk D i=zeros 256:=by
 unfold blk;split
 ·rw [E54,E6u (by omega)];rfl
 ·rfl
def E3I:∀ (n:Nat) (cells:List Cell),All2 okCell ((E55 n (E55 256 (Sh.i .u8))).flatten) cells->∃ D:Dev,okD D/\cells=E8 D/\(l_ D)=n:=by
 intro n
 induction n with
 | zero =>
  intro cells h;cases cells with
  | nil=>exact ⟨[],λ_ h=>by simp at h,rfl,rfl⟩
  | cons c cs=>simp [All2] at h
 | succ n ih =>
  intro cells h;rw [E6D,E65] at h;have h1:=All2.take 256 h;have h2:=All2.drop 256 h;rw [List.take_left' E6y] at h1;rw [List.drop_left' E6y] at h2;obtain ⟨b,e1,hb⟩:=D23 h1;obtain ⟨D,hD,e2,hl⟩:=ih _ h2;refine ⟨b::D,?_,by rw [bW,<-e1,<-e2,List.take_append_drop],by rw [E6g,hl]⟩;intro x hx;rcases List.mem_cons.1 hx with rfl | hx
  ·exact hb
  ·exact hD x hx
end Go.Proofs.YtbipebfdappanaaGreat
namespace Go.Esc
def E0Z(P:Program)(f:FuncId)(args:List Val)(h:A9)(h':A9):Prop :=
 ∀ (Γ:Ctx) (μ:Mu) (w:World) (V:List Value) (u:FrameMode),Inv Γ μ h w->All2 (RV μ) args V ->
  CallsD P f V.toArray u w λe u' w'=>u'=u/\∃ V' μ',e=.returned V' /\ μ.le μ'/\Inv Γ μ' h' w'/\∀ id,id<(l_ h) -> μ' id = μ id
def D8r(P:Program)(f:FuncId)(S:Fun):Prop:=∀ args h v h2,S args h=A4 (v,h2)->mQ P f/\E0Z P f args h h2/\(l_ h)<=h2.length
def D6c{P:Program}{E:K6}(hE:iK P E){f:FuncId}{fn:Func}{af:AFn}(hf:P.funcs[f]?=A4 fn)(hc:C5w P fn af=A5):D8r P f (Lim af E):=by
 intro args h v h2 he;obtain ⟨n,hn⟩:=D5I he;obtain ⟨h1,h3,c,hb,hw⟩:=E2z hE hf hc hn;exact ⟨h1,fun Γ μ w V u hi hargs=>(callsD_of_wp hf hb (hw Γ μ w V hi hargs)).mono λe u' w' ⟨hu,V',μ',he,h4,_,h5,h6⟩=>⟨hu,V',μ',he,h4,h5,h6⟩,h3⟩
structure DFn where
 pre:List (List Nat × ACode)
 keep:List Nat
 tm:Nat
 fn:Nat
 caps:List Opd
 body:ACode
 res:List ARes
def B8M(G:Fun)(c:Val)(h:A9):Option (Val × A9):=match c with
 | .c (.f _ caps)=>G (C4b caps) h
 | _=>A7
def DFn.fin(f:DFn)(G:Fun)(c:Val):B42 (Val × A9):=λx e h =>
 match x with
 | .exit _=>A7
 | _=>(B8M G c h).bind λp=>pK f.res e p.2
def DFn.out(f:DFn)(k:Env->A9->Option (Val × A9)):B42 (Val × A9):=λx e h =>
 match x with
 | .normal=>k e h
 | .ret=>pK f.res e h
 | .exit _=>A7
def DFn.go (f:DFn) (E:K6) (G:Fun) (n:Nat) (l:List (List Nat × ACode)):Env->A9->Option (Val × A9) :=
 List.rec (motive:=λ_=>Env->A9->Option (Val × A9))
  (λe h=>(A3f f.fn (f.caps.map e.ev)).bind λc=>ax E n f.body (f.fin G c) ((e.put (A4 f.tm) c).keep f.keep) h)
  (λq _ ih e h=>ax E n q.2 (f.out λe h=>ih (e.keep q.1) h) e h) l
def DFn.go_nil(f:DFn)(E:K6)(G:Fun)(n:Nat)(e:Env)(h:A9):f.go E G n [] e h=(A3f f.fn (f.caps.map e.ev)).bind λc=>ax E n f.body (f.fin G c) ((e.put (A4 f.tm) c).keep f.keep) h:=rfl
def DFn.go_cons(f:DFn)(E:K6)(G:Fun)(n:Nat)(q:List Nat × ACode)(l:List (List Nat × ACode))(e:Env)(h:A9):f.go E G n (q::l) e h=ax E n q.2 (f.out λe h=>f.go E G n l (e.keep q.1) h) e h:=rfl
def DFn.run (f:DFn) (E:K6) (G:Fun) (n:Nat) (args:List Val) (h:A9):Option (Val × A9):=f.go E G n f.pre (params 0 args) h
def D1W(P:Program)(N:Nat)(f:DFn):Code->Bool
 | .region _ ops false=>(match ops.toList with
  | [o1,o2]=>bN P N ops o1 (aO f.tm (.mkf f.fn f.caps))&&decide (o2.dst=A7)&&decide (o2.guard=A7)&&(match o2.op with
   | .defer c=>(match c.callee with | .value (.tmp t)=>decide (t=f.tm)&&c.args.isEmpty | _=>A6)
   | _=>A6)
  | _=>A6)
 | _=>A6
def B3e(P:Program)(N:Nat)(f:DFn):List (List Nat × ACode)->Code->Bool
 | [],c=>(match c with | .seq d y=>D1W P N f d&&aY P N y f.body | _=>A6)
 | q::l,c=>(match c with | .seq x y=>aY P N x q.2&&B3e P N f l y | _=>A6)
def D80(P:Program)(fn:Func)(f:DFn):Bool :=
 (match fn.body with | some c => B3e P fn.ntmps f f.pre c | none => false) && cM P fn.results.toList f.res && !(fn.name == "runtime.NumGoroutine")
section
variable {P:Program}
def B8I{rs:List ARes}{e:Env}{h h':A9}{v:Val}(hk:pK rs e h=A4 (v,h')):h'=h:=by
 unfold pK at hk;split at hk<;>simp at hk<;>obtain ⟨_,_,_,rfl⟩:=hk<;>rfl
def D15{E:K6}(hE:iK P E){G:Fun}{f:DFn}(hG:D8r P f.fn G){fn:Func}(hr:cM P fn.results.toList f.res=A5){L:Nat}(n:Nat){v:Val}{h':A9}:∀ (l:List (List Nat × ACode)) (c:Code) (e:Env) (h:A9),
  B3e P fn.ntmps f l c=A5->f.go E G n l e h=A4 (v,h')->L<=(l_ h) ->
  L<=l_ h'/\∀ (Γ:Ctx) (μ:Mu) (a:Act) (w:World),Γ.ds=[]->SEnv μ e a->Inv Γ μ h w->fn.ntmps<=a.tmps.size->a.defers=[]->∀ R:Ending->World->Prop,
   (∀ V' μ' w',μ.le μ'->RV μ' v V'->Inv Γ μ' h' w'->(∀ id,id<L -> μ' id = μ id)->R (.returned V') w')->c.wp P (bodyPostD P fn R) a w
 | [],c,e,h,hc,D5,hL=>by
  unfold B3e at hc;split at hc
  ·rename_i d y;rw [E53] at hc;obtain ⟨hd,hy⟩:=hc;rw [DFn.go_nil] at D5;simp only [E52] at D5;obtain ⟨cv,hcv,D5⟩:=D5;have E3g:=hcv;unfold A3f at E3g;rw [E6m] at E3g;obtain ⟨caps,E5M,rfl⟩:=E3g;rw [B8J] at D5;obtain ⟨x,e2,h2,hk,hL2,mM⟩:=D34 (L:=L) hE n f.body y _ _ h (v,h') hy D5 hL;have E5b:(x=.normal\/x=.ret)/\∃ p:Val × A9,G (C4b caps) h2=A4 p/\pK f.res e2 p.2=A4 (v,h'):=by
    unfold DFn.fin at hk;cases x with
    | normal=>exact ⟨.inl rfl,by simpa only [E52,B8M] using hk⟩
    | ret=>exact ⟨.inr rfl,by simpa only [E52,B8M] using hk⟩
    | exit=>cases hk
   obtain ⟨hx,⟨pv,ph⟩,hG1,E2G⟩:=E5b;obtain ⟨D2u,hdc,hlen⟩:=hG _ _ _ _ hG1;have hh':=B8I E2G;dsimp only at hh';subst hh';refine ⟨E6J hL2 hlen,fun Γ μ a w hds hs hi hN had R hR=>?_⟩;unfold D1W at hd;split at hd
   ·rename_i rid ops;split at hd
    ·rename_i o1 o2 E3m;simp only [E53,decide_eq_true_eq] at hd;obtain ⟨⟨⟨hd1,hd2⟩,hd3⟩,hd4⟩:=hd;split at hd4
     ·rename_i cl hop;split at hd4
      ·rename_i t D0y;simp only [E53,decide_eq_true_eq] at hd4;obtain ⟨rfl,hargs⟩:=hd4;refine wp_seq (wp_region ?_);have hsz:ops.size=2:=by rw [<-Array.length_toList,E3m];rfl
       have g0:ops[0]?=A4 o1:=by rw [<-Array.getElem?_toList,E3m];rfl
       have g1:ops[1]?=A4 o2:=by rw [<-Array.getElem?_toList,E3m];rfl
       rw [hsz];show wpOps P ops _ [0,1] a w;rw [wpOps_cons];unfold wpOp;rw [g0];have A3l:o1.dst=A4 f.tm/\A2g fn.ntmps o1.dst=A5:=by
        simp only [bN,aO,E53,decide_eq_true_eq] at hd1;exact ⟨of_decide_eq_true hd1.1.1.1,hd1.1.1.2⟩
       have htm:f.tm<fn.ntmps:=by
        have:=A3l.2;rw [A3l.1] at this;simpa [A2g] using this
       have B83:aA E A6 h 0 (aO f.tm (.mkf f.fn f.caps)) e h (λv h=>A4 (v,h))=A4 (.c (.f f.fn caps),h):=by
        unfold aA aO;simp only [aop,hcv,E6h]
       refine A8l (hr:=h) (n0:=0) hE hd1 B83 hs hi (λ_ _ h=>h) trivial ?_;intro V w1 μ1 kX hv hi1 Y5;rw [wpOps_cons];unfold wpOp;rw [g1];have hv0:RC μ1 (.f f.fn caps) V:=hv;have hv2:=hv;obtain ⟨cs,rfl,hcs⟩:=hv2;obtain ⟨a1,ha1⟩:∃ a1,a1=a.put o1.dst (.func (.func f.fn) #[] cs.toArray):=⟨_,rfl⟩;have hs1:SEnv μ1 (e.put (A4 f.tm) (.c (.f f.fn caps))) a1:=by
        rw [ha1,A3l.1];exact (hs.mono kX).put (λt ht=>by cases ht;omega) hv
       have yO:a1.eval (.tmp f.tm)=.func (.func f.fn) #[] cs.toArray:=by
        have:=hs1 f.tm;rw [Env.get_put_same] at this;obtain ⟨cs',h1,h2⟩:=this;show a1.tmps.getD f.tm undef=_;rw [ha1,A3l.1];show (a.put (A4 f.tm) _).tmps.getD f.tm undef=_;simp only [Act.put];rw [Array.getD_eq_getD_getElem?];simp [show f.tm<a.tmps.size by omega]
       rw [<-ha1];obtain ⟨dd,hdd⟩:∃ dd:Deferred,dd={ target:=.fn (.func f.fn) cs.toArray,args:=#[] }:=⟨_,rfl⟩;have B0s:(execOp a1.eval o2).run P w1=.ok (.defer dd) w1:=by
        have ea:cl.args = #[]:=by simpa using hargs
        rw [hdd];simp [execOp,hop,resolve,D0y,yO,Deferred.ofValue,ea]
       have hw:Region.wanted o2 (yielded ops a1.tmps)=A5:=by simp [Region.wanted,hd3]
       simp only [hw,if_true]
       left
       unfold Oper.wp;rw [B0s,Oper.upon_defer];have C79:∀ b:Act,b.put o2.dst undef=b:=λb=>by rw [hd2];rfl
       rw [C79];have E4e:a1.defers=[]:=by rw [ha1,put_defers];exact had
       show y.wp P (bodyPostD P fn R) { a1 with defers:=dd::a1.defers } w1;rw [E4e];refine mM { Γ with ds:=[dd] } μ1 { a1 with defers:=[dd] } w1 (SEnv.keep (λt=>hs1 t) f.keep) (hi1.ds [dd]) (by show fn.ntmps<=a1.tmps.size;rw [ha1,Act.size_put];exact hN) rfl _ ?_;intro μ' a' w' k1 k2 k3 k4 k5 k6;have fin:Leaves P fn a'.tmps R a'.defers .returning w':=by
        rw [k6];show Leaves P fn a'.tmps R [dd] .returning w';rw [hdd];have hv3:RC μ' (.f f.fn caps) (.func (.func f.fn) #[] cs.toArray):=RC.mono k1 hv0;obtain ⟨cs2,e3,E1E⟩:=hv3;have:cs2=cs:=by
         injection e3 with _ _ e4
         have:=congrArg Array.toList e4;simpa using this.symm
        subst this;refine leaves_cons (by simp) (f:=f.fn) (args:=cs2.toArray) (by
         show (callFunc f.fn (#[]++cs2.toArray)).run P w'=_;rw [Array.empty_append];exact B8N D2u _ _) ?_
        refine (hdc Γ μ' w' cs2 .returning (k4.ds Γ.ds) (B67 E1E)).mono ?_;rintro en u' w2 ⟨rfl,V',μ2,rfl,m1,m2,m3⟩;show Leaves P fn a'.tmps R [] .returning w2;obtain ⟨V2,q1,q2,_⟩:=B62 (a:=a') (w:=w2) (λt=>(k3.mono m1) t) m2 hr E2G;refine ⟨V2,q1,hR V2 μ2 w2 (Mu.le_trans kX (Mu.le_trans k1 m1)) q2 m2 λid hid=>?_⟩;rw [m3 id (by omega),k2 id hid];exact Y5 id (by omega) (λj hj=>by cases hj)
       rcases hx with rfl | rfl
       ·exact fin
       ·exact fin
      ·cases hd4
     ·cases hd4
    ·cases hd
   ·cases hd
  ·cases hc
 | q::l,c,e,h,hc,D5,hL=>by
  unfold B3e at hc;split at hc
  ·rename_i x y;rw [E53] at hc;rw [DFn.go_cons,B8J] at D5;obtain ⟨x1,e1,h1,hk,hL1,mM⟩:=D34 (L:=L) hE n q.2 x _ e h (v,h') hc.1 D5 hL;cases x1 with
   | normal =>
    obtain ⟨g1,g2⟩:=D15 hE hG hr n l y (e1.keep q.1) h1 hc.2 hk hL1;refine ⟨g1,fun Γ μ a w hds hs hi hN had R hR=>wp_seq (mM Γ μ a w hs hi hN (by rw [hds];exact had) _ ?_)⟩;intro μ1 a1 w1 f1 f2 f3 f4 f5 f6;exact g2 Γ μ1 a1 w1 hds (f3.keep q.1) f4 f5 (by rw [f6,hds]) R λV' μ' w' k2 k3 k4 k5=>hR V' μ' w' (Mu.le_trans f1 k2) k3 k4 λid hid=>(k5 id hid).trans (f2 id hid)
   | ret =>
    have hk':pK f.res e1 h1=A4 (v,h'):=hk;have hh':=B8I hk';subst hh';refine ⟨hL1,fun Γ μ a w hds hs hi hN had R hR=>wp_seq (mM Γ μ a w hs hi hN (by rw [hds];exact had) _ ?_)⟩;intro μ1 a1 w1 f1 f2 f3 f4 f5 f6;obtain ⟨V',k1,k2,_⟩:=B62 f3 f4 hr hk';show Leaves P fn a1.tmps _ a1.defers .returning w1;rw [f6,hds];exact ⟨V',k1,hR V' μ1 w1 f1 k2 f4 f2⟩
   | exit id=>exact (by cases hk)
  ·cases hc
def D89{E:K6}(hE:iK P E){G:Fun}{f:DFn}(hG:D8r P f.fn G){g:FuncId}{fn:Func}(hf:P.funcs[g]?=A4 fn)(hc:D80 P fn f=A5){n:Nat}:SOk P g (f.run E G n):=by
 intro args h v h' D5;simp only [D80,E53,E6M] at hc;obtain ⟨⟨hb,hr⟩,D2w⟩:=hc;cases A8Q:fn.body with
 | none=>rw [A8Q] at hb;cases hb
 | some c =>
  rw [A8Q] at hb;obtain ⟨h1,h2⟩:=D15 hE hG hr (L:=l_ h) n f.pre c (params 0 args) h hb D5 (E56 _);refine ⟨⟨fn,hf,D2w,by simp [A8Q]⟩,fun Γ μ w V hi hargs=>?_,h1⟩;refine calls_of_wp_defers hf A8Q (h2 { Γ with ds:=[] } μ _ w rfl (D1J hargs _) (hi.ds []) (by simp;omega) rfl _ ?_);intro V' μ' w' k1 k2 k3 k4;exact ⟨V',μ',rfl,k1,k2,k3.ds Γ.ds,k4⟩
end
inductive PP where
 | o (x:AOper)
 | call (d:Option Nat) (g:Option (Nat × Bool)) (k:Nat) (args:List Opd)
inductive PC where
 | skip
 | ret
 | exit (id:Nat)
 | ops (l:List PP)
 | draw (n:Nat) (l r:List PP)
 | drawS (n:Nat) (l:List PP) (s:PP) (chk:List (Nat × AOp)) (r:List PP)
 | seq (keep:List Nat) (a b:PC)
 | jn (j:Nat) (keep:List Nat) (a b:PC)
 | cond (c:Opd) (a b:PC)
 | block (id:Nat) (a:PC)
 | loop (j:Nat) (keep:List Nat) (a:PC)
def erp(F:Nat->Nat):PP->AOper
 | .o x=>x
 | .call d g k args=>⟨d,.call (F k) args,g,A7⟩
def ers (F:Nat->Nat) (l:List PP):List AOper:=List.rec [] (λx _ r=>erp F x::r) l
def er (F:Nat->Nat) (p:PC):ACode :=
 PC.rec (motive:=λ_=>ACode) .skip .ret (λi=>.exit i) (λl=>.ops (ers F l)) (λn l r=>.draw n (ers F l) (ers F r)) (λn l s k r=>.drawS n (ers F l) (erp F s) k (ers F r)) (λk _ _ a b=>.seq k a b) (λ_ k _ _ a b=>.seq k a b) (λc _ _ a b=>.cond c a b) (λi _ a=>.block i a) (λ_ k _ a=>.loop k a) p
def nx:Nat->Nat->Nat × Nat
 | 0,s=>(0,s)
 | f+1,s=>bif Nat.blt (s%16) 8 then (s%16,s/16) else match nx f (s/16) with | (a,r)=>(s%16-8+8*a,r)
abbrev Dst:=(Nat × List Nat) × Nat
def rdn(s:Dst):Nat × Dst:=match nx 9 s.2 with | (a,r)=>(a,(s.1,r))
section
variable {α β γ δ ε ζ:Type}
def E2K(g:Dst -> α × Dst):Nat->Dst->List α × Dst
 | 0,s=>([],s)
 | k+1,s=>match g s with | (a,s)=>match E2K g k s with | (l,s)=>(a::l,s)
def B1q(g:Dst -> α × Dst)(s:Dst):List α × Dst:=match rdn s with | (k,s)=>E2K g k s
def qA(f:α -> β)(a:Dst -> α × Dst)(s:Dst):β × Dst:=match a s with | (x,s)=>(f x,s)
def qB(f:α -> β -> γ)(a:Dst -> α × Dst)(b:Dst -> β × Dst)(s:Dst):γ × Dst:=match a s with | (x,s)=>qA (f x) b s
def qC(f:α -> β -> γ -> δ)(a:Dst -> α × Dst)(b:Dst -> β × Dst)(c:Dst -> γ × Dst)(s:Dst):δ × Dst:=match a s with | (x,s)=>qB (f x) b c s
def qD(f:α -> β -> γ -> δ -> ε)(a:Dst -> α × Dst)(b:Dst -> β × Dst)(c:Dst -> γ × Dst)(d:Dst -> δ × Dst)(s:Dst):ε × Dst:=match a s with | (x,s)=>qC (f x) b c d s
def qE(f:α -> β -> γ -> δ -> ε -> ζ)(a:Dst -> α × Dst)(b:Dst -> β × Dst)(c:Dst -> γ × Dst)(d:Dst -> δ × Dst)(e:Dst -> ε × Dst)(s:Dst):ζ × Dst:=match a s with | (x,s)=>qD (f x) b c d e s
end
def nth{α:Type}(z:α):List α -> Nat -> α
 | [],_=>z
 | a::_,0=>a
 | _::l,i+1=>nth z l i
def del:Nat->List Nat->List Nat
 | _,[]=>[]
 | 0,_::l=>l
 | k+1,x::l=>x::del k l
def ins(x:Nat):List Nat->List Nat
 | []=>[x]
 | y::l=>bif Nat.blt x y then x::y::l else y::ins x l
def E4F:Nat->Dst->Dst
 | 0,s=>s
 | k+1,s=>match rdn s with | (i,s)=>E4F k ((s.1.1,del i s.1.2),s.2)
def E4G:Nat->Dst->Dst
 | 0,s=>s
 | k+1,s=>match rdn s with | (v,s)=>E4G k ((s.1.1,ins (match v%2 with | 0=>s.1.1-v/2 | _=>v/2) s.1.2),s.2)
def rkp(s:Dst):List Nat × Dst:=match rdn s with
 | (h,s)=>match (match h%4 with | 3=>qA (λx=>x+3) rdn s | r=>(r,s)) with
  | (r,s)=>match E4G (h/4) (E4F r s) with | s=>(s.1.2,s)
section
variable (V I:Nat->Val) (O:Nat->AOp) (Z:Nat->List Cell)
def gW(s:Dst):Opd × Dst:=match rdn s with
 | (v,s)=>(match v%2 with
  | 0=>.t (s.1.1-(match v/2 with | 0=>1 | 1=>0 | d=>d))
  | _=>match v/2%2 with
   | 0=>.v (I (v/4))
   | _=>match v/4%2 with
    | 0=>.v (V (v/8))
    | _=>.t (v/8),s)
def E2L(s:Dst):(Nat × Nat × Opd) × Dst:=qC (λa b x=>(a,b,x)) rdn rdn (gW V I) s
def E4E:Nat->Dst->AOp × Dst
 | 0=>qA .mv (gW V I)
 | 1=>qA .load1 (gW V I)
 | 2=>qB .loadN rdn (gW V I)
 | 3=>qB .fAddr (gW V I) rdn
 | 4=>qB .ext (gW V I) rdn
 | 5=>qC (λn=>.bin (nth .andNot [.add,.lss,.eql,.neq,.geq,.gtr,.mul,.sub,.rem,.leq,.quo,.shl,.shr,.or,.and,.xor] n)) rdn (gW V I) (gW V I)
 | 6=>qC .iAddrL rdn (gW V I) (gW V I)
 | 8=>qA .len (gW V I)
 | 9=>qC .storeN rdn (gW V I) (gW V I)
 | 10=>qB .store1 (gW V I) (gW V I)
 | 11=>qD .iAddrA rdn rdn (gW V I) (gW V I)
 | 12=>qC .pick (gW V I) (gW V I) (gW V I)
 | 13=>qA (.un .not) (gW V I)
 | 14=>qA (λz=>.alloc (Z z)) rdn
 | 15=>qA .box (gW V I)
 | 16=>qA .lenS (gW V I)
 | 17=>qA .nilc (gW V I)
 | 18=>qA .nilrow rdn
 | 19=>qC .app rdn (gW V I) (gW V I)
 | 20=>qB (λz=>.build (Z z)) rdn (B1q (E2L V I))
 | 21=>qD (λa b z=>.buildSl a b (Z z)) rdn rdn rdn (B1q (E2L V I))
 | 22=>qC .idxA1 rdn (gW V I) (gW V I)
 | 23=>qA .mark (gW V I)
 | 24=>qA (.conv .u64) (gW V I)
 | 25=>qA (.conv .i64) (gW V I)
 | 26=>qA (.conv .u8) (gW V I)
 | 27=>qB .fld1 (gW V I) rdn
 | 28=>qC .fldN (gW V I) rdn rdn
 | 29=>qD (λz n=>.mkSl n (Z z)) rdn rdn (gW V I) (gW V I)
 | 30=>qB .mkf rdn (B1q (gW V I))
 | 31=>qB .callV (gW V I) (B1q (gW V I))
 | _=>qA O rdn
def rpp(s:Dst):PP × Dst:=match qA (nth 0 [1,0,60,84,12,36,110,3,24,144,63,169,25,72,15,39,48,96,122,37,49,132,181,87,384,228,180,240,27,204,252,156,217,61,216,99,168,159,387,75,288,13,175,192,85,253,360,372,300,312,135,348,207,243,375,386,276,324,264,147,354,385,349,258,327,361,195,174,133,259,241,355,390,255]) rdn s with
 | (h,s)=>match (match h%3 with | 0=>(A4 (s.1.1+1),((s.1.1+1,s.1.2),s.2)) | 1=>(match rdn s with | (d,s)=>(A4 d,((d,s.1.2),s.2))) | _=>((A7:Option Nat),s)) with
  | (d,s)=>match (match h/3%2 with | 0=>((A7:Option (Nat × Bool)),s) | _=>qA (λg=>A4 (g/2,Nat.beq (g%2) 1)) rdn s) with
   | (g,s)=>match (match h/6%2 with | 0=>((A7:Option Nat),s) | _=>qA A4 rdn s) with
    | (l,s)=>match h/12 with
     | 7=>qB (.call d g) rdn (B1q (gW V I)) s
     | t=>qA (λo=>.o ⟨d,o,g,l⟩) (E4E V I O Z t) s
def E5E(s:Dst):(Nat × AOp) × Dst:=match rdn s with | (d,s)=>match rdn s with | (t,s)=>qA (λo=>(d,o)) (E4E V I O Z t) s
def B6i:Nat->Dst->PC × Dst
 | 0,s=>(.skip,s)
 | f+1,s=>match rdn s with
  | (0,s)=>(.skip,s)
  | (1,s)=>(.ret,s)
  | (2,s)=>qC (λk l b=>.seq k (.ops l) b) rkp (B1q (rpp V I O Z)) (B6i f) s
  | (3,s)=>qC .seq rkp (B6i f) (B6i f) s
  | (4,s)=>qC .cond (gW V I) (B6i f) (B6i f) s
  | (5,s)=>qB .block rdn (B6i f) s
  | (6,s)=>qC .loop rdn rkp (B6i f) s
  | (7,s)=>qA .exit rdn s
  | (8,s)=>qA .ops (B1q (rpp V I O Z)) s
  | (9,s)=>qC .draw rdn (B1q (rpp V I O Z)) (B1q (rpp V I O Z)) s
  | (10,s)=>qD .jn rdn rkp (B6i f) (B6i f) s
  | (_,s)=>qE .drawS rdn (B1q (rpp V I O Z)) (rpp V I O Z) (B1q (E5E V I O Z)) (B1q (rpp V I O Z)) s
end
abbrev PT:=(Nat->Val)->(Nat->Val)->(Nat->AOp)->(Nat->List Cell)->PC
def dcp(x:Nat):PT:=λV I O Z=>(B6i V I O Z 99 ((0,[]),x)).1
def px(x:Nat){p:PT}(hp:p=dcp x:=by conv=>{ rhs;reduce }):PT:=p
def D55(n:Nat):Val:=iV n
def E2w:List (List Cell):=[[],[o0],[.ns],[.s []],[.b A6],[.nm],[.nf],[.i .u8 0],[.i .u8 0,.i .u8 0],[.i .u8 0,.i .u8 0,.i .u8 0,.i .u8 0],[.i .u8 0,.i .u8 0,.i .u8 0,.i .u8 0,.i .u8 0],[.i .u8 0,.i .u8 0,.i .u8 0,.i .u8 0,.i .u8 0,.i .u8 0,.i .u8 0,.i .u8 0],E55 256 (.i .u8 0),E55 32 (.i .u8 0),E55 25 (.i .u8 0),[o0]++E55 32 o0,[o0]++E55 256 (.i .u8 0),[.s [],o0],[o0,o0,.i .u64 0],[o0,o0,o0],[o0,.s [],o0],[o0,.ns],[o0,o0,.i .u64 0,.nf],[o0,o0,.s [],o0],[o0,o0,o0,o0,o0,o0],[o0,o0,o0,o0,o0,o0,o0],[o0,o0,o0,o0,o0,o0,o0,o0],[o0,o0,o0,o0,o0,o0,o0,o0,o0,o0,o0],[o0,o0,o0,o0,o0,.ns,.ns],[.ns,.ns,.ns,.ns,.ns,o0,.ns,.ns],[.ns,.ns,.ns,.ns,.ns,o0]]
structure Cal(P:Program) where
 f:FuncId
 S:Fun
 ok:SOk P f S
def cal{P:Program}{f:FuncId}{S:Fun}(ok:SOk P f S):Cal P:=⟨f,S,ok⟩
def D7{P:Program}{f:FuncId}{A:AFn}{E:K6}{R:Nat->Fun}(S:Fun)(K:FnK P f A E R)(e:S=tl A E:=by exact rfl):Cal P:=⟨f,S,by rw [e];exact K.sok⟩
def fU{P:Program}{f:FuncId}{A:AFn}{E:K6}{R:Nat->Fun}(S:Fun)(K:FnK P f A E R)(e:S=Lim A E:=by exact rfl):Cal P:=⟨f,S,by rw [e];exact K.ok⟩
def el{P:Program}:List (Cal P)->K6
 | []=>D2d
 | c::l=>D9k c.f c.S (el l)
def D5V{P:Program}:∀ l:List (Cal P),iK P (el l)
 | []=>D5q
 | c::l=>D5r c.ok (D5V l)
def E3H{P:Program}:List (Cal P)->Nat->Nat
 | [],_=>0
 | c::_,0=>c.f
 | _::l,k+1=>E3H l k
def C1s{P:Program}:List (Cal P)->Nat->Fun
 | [],_=>λ_ _=>A7
 | c::_,0=>c.S
 | _::l,k+1=>C1s l k
structure FD(P:Program) where
 p:PT
 V:List Val
 O:List AOp
 res:List ARes
 L:List (Cal P)
inductive Fr where
 | seq (keep:List Nat) (b:PC)
 | jn (j:Nat) (keep:List Nat) (b:PC)
 | blk (id:Nat)
 | lp (j:Nat) (keep:List Nat) (a:PC) (m:Nat)
section
variable {P:Program} (d:FD P)
def FD.code:PC:=d.p (nth .no (bV A6::bV A5::d.V)) D55 (nth (.nilrow 0) d.O) (nth [] E2w)
def FD.A:AFn:=⟨er (E3H d.L) d.code,d.res⟩
def FD.E:K6:=el d.L
def FD.R (n:Nat):Fun:=rx d.E d.A n
def FD.S:Fun:=tl d.A d.E
def FD.Q:Fun:=Lim d.A d.E
def FD.K{f:FuncId}{fn:Func}(hf:P.funcs[f]?=A4 fn)(hc:C5w P fn d.A=A5:=by kernel_rfl):FnK P f d.A d.E d.R:=.mk2 (D5V _) hf hc
end
def fd:PC->Nat->List Nat->List Fr->Option (Bool × List Nat × PC × List Fr × Nat)
 | .seq k a b,j,ns,s=>(fd a j ns (.seq k b::s)).or (fd b j ns s)
 | .jn i k a b,j,ns,s=>bif Nat.beq i j then A4 (A6,k,b,s,0) else (fd a j ns (.jn i k b::s)).or (fd b j ns s)
 | .cond _ a b,j,ns,s=>(fd a j ns s).or (fd b j ns s)
 | .block i a,j,ns,s=>fd a j ns (.blk i::s)
 | .loop i k a,j,m::ns,s=>bif Nat.beq i j then A4 (A5,k,a,s,m) else fd a j ns (.lp i k a m::s)
 | _,_,_,_=>A7
def kof (E:K6) (n:Nat) (F:Nat->Nat) (fin:KV):List Fr->KV
 | []=>fin
 | .seq k b::s=>D9R k (ax E n (er F b)) (kof E n F fin s)
 | .jn _ k b::s=>D9R k (ax E n (er F b)) (kof E n F fin s)
 | .blk i::s=>D4N i (kof E n F fin s)
 | .lp _ k a m::s=>D9Q k (A7q (ax E n (er F a)) k (kof E n F fin s) m) (kof E n F fin s)
def lj' (E:K6) (n:Nat) (F:Nat->Nat) (fin:KV) (xs:List Val) (h:A9):Option (Bool × List Nat × PC × List Fr × Nat)->yK
 | some (A5,k,a,s,m)=>A7q (ax E n (er F a)) k (kof E n F fin s) m (zE k xs) h
 | some (A6,k,b,s,_)=>hold (ax E n (er F b) (kof E n F fin s) (zE k xs) h)
 | none=>A7
def FD.lj {P:Program} (d:FD P) (j n:Nat) (ns:List Nat) (xs:List Val):AtH:=λh=>lj' d.E n (E3H d.L) d.A.fin xs h (fd d.code j ns [])
def AN(X:Type):Nat->Type
 | 0=>X
 | a+1=>Nat->AN X a
def AV:Nat->Type
 | 0=>AtH
 | b+1=>Val->AV b
def C2q{X:Type}:(a:Nat)->AN X a->List Nat->X
 | 0,f,_=>f
 | a+1,f,[]=>C2q a (f 0) []
 | a+1,f,n::l=>C2q a (f n) l
def C2r:(b:Nat)->AV b->List Val->AtH
 | 0,f,_=>f
 | b+1,f,[]=>C2r b (f .no) []
 | b+1,f,x::l=>C2r b (f x) l
structure TE where
 a:Nat
 b:Nat
 f:AN (AV b) a
structure TT where
 E:K6
 l:List TE
def tT(l:List TE):TT:=⟨D2d,l⟩
def C7i:List TE->Nat->List Nat->List Val->AtH
 | [],_,_,_=>λ_=>A7
 | t::_,0,ns,xs=>C2r t.b (C2q t.a t.f ns) xs
 | _::l,j+1,ns,xs=>C7i l j ns xs
inductive Rs:Type 1 where
 | v (x:Val)
 | n (x:Val) (h:A9)
 | b (x:Option Val)
 | g (x:Option A9)
 | p (x:Option (Val × A9))
 | l {α:Type} (x:Option α) (v:α -> Val) (h:α -> A9)
inductive Ct:Type 1 where
 | code (p:PC)
 | ops (l:List PP)
 | dr (l:List PP) (hr:A9) (c:Ct)
 | ds (x:PP) (chk:List (Nat × AOp)) (r:List PP)
 | ag (chk:List (Nat × AOp)) (e0:Env) (c:Ct)
 | rs (r:Rs) (d:Option Nat) (c:Ct)
 | nrm
 | ex (id:Nat)
def B7q:Env->Nat->Val
 | [],_=>.un
 | (d,v)::r,t=>bif d==t then v else B7q r t
def Q3(e:Env):Opd->Val
 | .t n=>B7q e n
 | .v x=>x
def E0j(e:Env):List Nat->Env
 | []=>[]
 | t::r=>(t,B7q e t)::E0j e r
def D5c(e:Env):List Nat->List Val
 | []=>[]
 | t::r=>B7q e t::D5c e r
def C61(e:Env):List Opd->List Val
 | []=>[]
 | x::l=>Q3 e x::C61 e l
def B9M(e:Env):Option Opd->Option Val
 | none=>A7
 | some x=>A4 (Q3 e x)
def C9z(e:Env):List (Nat × Nat × Opd)->List (Nat × Nat × Val)
 | []=>[]
 | (a,b,x)::l=>(a,b,Q3 e x)::C9z e l
def D1a(e:Env):Option Nat->Val->Env
 | none,_=>e
 | some d,v=>(d,v)::e
def E0m:Nat->List Val->Env
 | _,[]=>[]
 | i,v::l=>(i,v)::E0m (i+1) l
def B4Q:Nat->A9
 | 0=>[]
 | n+1=>A7::B4Q n
def D7L(hr h:A9)(r:Row)(v:Nat->Val):Option Nat->Rs
 | none=>.n (v (l_ h)) (h++[A4 r])
 | some j=>.n (v (hr.length+j)) (h.set (hr.length+j) (A4 r))
def D4W{α:Type}(hr h:A9)(x:Option α)(r:α -> Row)(v:Nat -> α -> Val):Option Nat->Rs
 | none=>.l x (λa=>v (l_ h) a) (λa=>h++[A4 (r a)])
 | some j=>.l x (λa=>v (hr.length+j) a) (λa=>h.set (hr.length+j) (A4 (r a)))
def E0n (q:Bool) (h:A9) (x:yK):yK:=match q with
 | true=>quiet h x
 | false=>x
def E1X (E:K6) (q:Bool) (hr:A9) (sl:Option Nat) (e:Env) (h:A9):AOp->Rs
 | .mv x=>.v (Q3 e x)
 | .nilrow n=>D7L hr h (Row.mk [] A5) (λi=>.c (.sl i 0 0 n)) sl
 | .pick c a b=>.b (C8P (Q3 e c) (Q3 e a) (Q3 e b))
 | .alloc z=>D7L hr h (Row.mk z A5) (λi=>.c (.p i 0)) sl
 | .box x=>D4W hr h (cells? (Q3 e x)) (λc=>Row.mk c A5) (λi _=>.c (.p i 0)) sl
 | .build z l=>.l (F5 z (C9z e l)) (λc=>.a c) (λ_=>h)
 | .buildSl n k z l=>D4W hr h (F5 z (C9z e l)) (λc=>Row.mk c A5) (λi _=>.c (.sl i 0 k n)) sl
 | .load1 x=>.b (B9 hr (Q3 e x))
 | .loadN n x=>.b (D1 hr n (Q3 e x))
 | .store1 a x=>.g (I8 h (Q3 e a) (Q3 e x))
 | .storeN n a x=>.g (F9 h n (Q3 e a) (Q3 e x))
 | .bin o x y=>.b (N5 o (Q3 e x) (Q3 e y))
 | .eqA n s x y=>.b (aeq n s (Q3 e x) (Q3 e y))
 | .eqB n x y=>.b (D33 n (Q3 e x) (Q3 e y))
 | .eqN f n x=>.b (D0g f n (Q3 e x))
 | .nilc x=>.b (A54 (Q3 e x))
 | .un o x=>.b (aun o (Q3 e x))
 | .conv k x=>.b (D1z k (Q3 e x))
 | .convS x=>.b (D0f (Q3 e x))
 | .s2b x=>D4W hr h (E20 (Q3 e x)) (λs=>Row.mk (B5 s) A5) (λi s=>.c (.sl i 0 (l_ s) 1)) sl
 | .b2s x=>.b (B6X hr (Q3 e x))
 | .b2sN A7 x=>.b (B6X h (Q3 e x))
 | .b2sN (A4 o) x=>.b (C2n h hr.length (A4 o) (Q3 e x))
 | .mark x=>.b (B03 h (Q3 e x))
 | .mkf f l=>.b (A3f f (C61 e l))
 | .mkb f x=>.b (E1a f (Q3 e x))
 | .mkSl n z x y=>D4W hr h (C3M (Q3 e x) (Q3 e y)) (λk=>Row.mk (rows z k) A5) (λi k=>.c (.sl i 0 k n)) sl
 | .slS x a b=>.b (E1f (Q3 e x) (B9M e a) (B9M e b))
 | .slL n x a b=>.b (D6K n (Q3 e x) (B9M e a) (B9M e b))
 | .slA n k x a b=>.b (D0k hr n k (Q3 e x) (B9M e a) (B9M e b))
 | .fAddr x n=>.b (T8 (Q3 e x) n)
 | .iAddrA n k x y=>.b (K5 n k (Q3 e x) (Q3 e y))
 | .iAddrL n x y=>.b (E9 n (Q3 e x) (Q3 e y))
 | .fld1 x n=>.b (B5S (Q3 e x) n)
 | .fldN x n k=>.b (D5J (Q3 e x) n k)
 | .idxA1 n x y=>.b (A4t n (Q3 e x) (Q3 e y))
 | .idxAN n k x y=>.b (D0h n k (Q3 e x) (Q3 e y))
 | .idxS x y=>.b (C5h (Q3 e x) (Q3 e y))
 | .ext x n=>.b (D8D (Q3 e x) n)
 | .call _ _=>.b A7
 | .callV f l=>.p (E0n q h (aD E (Q3 e f) (C61 e l) h))
 | .len x=>.b (B8H (Q3 e x))
 | .lenS x=>.b (D1C (Q3 e x))
 | .app n x y=>.p (tJ h n (Q3 e x) (Q3 e y))
 | .appZ n z x y=>.p (C48 h n z (Q3 e x) (Q3 e y))
 | .max x y=>.b (C3L (Q3 e x) (Q3 e y))
 | .min x y=>.b (B5i (Q3 e x) (Q3 e y))
 | .copy n x y=>.p (C5c h n (Q3 e x) (Q3 e y))
 | .mkMap=>D7L hr h (P6 []) (λi=>.c (.m i)) sl
 | .look k z o m x=>.b (xJ hr k z o (Q3 e m) (Q3 e x))
 | .mput k m x y=>.g (A2A h k (Q3 e m) (Q3 e x) (Q3 e y))
 | .ment k z m x=>.p (D1E h k z (Q3 e m) (Q3 e x))
 | .mset m x y=>.g (D1F h (Q3 e m) (Q3 e x) (Q3 e y))
def E10(h:A9):Rs->yK
 | .v x=>A4 (x,h)
 | .n x g=>A4 (x,g)
 | .b x=>bnd x λv=>A4 (v,h)
 | .g x=>bnd x λh=>A4 (.un,h)
 | .p x=>bnd x λp=>A4 (p.1,p.2)
 | .l x v g=>bnd x λa=>A4 (v a,g a)
def D3c(e:Env)(h:A9)(r:Rs):Option (Nat × Bool)->Rs
 | none=>r
 | some (g,w)=>.p (gd (B7q e g) w (E10 h r) (A4 (.no,h)))
def D7Y (E:K6) (L:Nat->Fun) (q:Bool) (hr:A9) (e:Env) (h:A9):PP->Rs
 | .o ⟨_,o,g,s⟩=>D3c e h (E1X E q hr s e h o) g
 | .call _ g k l=>D3c e h (.p (E0n q h (L k (C61 e l) h))) g
def D7V:PP->Option Nat
 | .o x=>x.dst
 | .call d _ _ _=>d
def C6X(e:Env)(h:A9):List ARes->List (Option Val)
 | []=>[]
 | .tmp t::l=>A4 (B7q e t)::C6X e h l
 | .cell1 t::l=>B9 h (B7q e t)::C6X e h l
 | .cellN t n::l=>D1 h n (B7q e t)::C6X e h l
def E0i(e:Env)(h:A9):List ARes->yK
 | []=>C1Y [] h
 | [.tmp t]=>A4 (B7q e t,h)
 | [.cell1 t]=>mp (B9 h (B7q e t)) λv=>(v,h)
 | [.cellN t n]=>mp (D1 h n (B7q e t)) λv=>(v,h)
 | a::b::l=>C1Y (C6X e h (a::b::l)) h
def B6c(n:Nat):List Fr->List Nat->List Nat
 | [],l=>n::l
 | .lp _ _ _ m::s,l=>B6c n s (m::l)
 | .seq _ _::s,l=>B6c n s l
 | .jn _ _ _::s,l=>B6c n s l
 | .blk _::s,l=>B6c n s l
def E11(h:A9)(e:Env):AOp->Option Val
 | .load1 x=>B9 h (Q3 e x)
 | .loadN n x=>D1 h n (Q3 e x)
 | _=>A7
section
variable (n:Nat) (E:K6) (L:Nat->Fun) (T:List TE) (res:List ARes)
def mO:Nat->Ct->List Fr->Env->A9->yK
 | 0,_,_,_,_=>A7
 | f+1,.code .skip,s,e,h=>mO f .nrm s e h
 | _+1,.code .ret,_,e,h=>E0i e h res
 | f+1,.code (.exit i),s,e,h=>mO f (.ex i) s e h
 | f+1,.code (.ops l),s,e,h=>mO f (.ops l) s e h
 | f+1,.code (.draw k l r),s,e,h=>mO f (.dr l h (.ops r)) s e (h++B4Q k)
 | f+1,.code (.drawS k l x c r),s,e,h=>mO f (.dr l h (.ds x c r)) s e (h++B4Q k)
 | f+1,.code (.seq k a b),s,e,h=>mO f (.code a) (.seq k b::s) e h
 | f+1,.code (.jn j k a b),s,e,h=>mO f (.code a) (.jn j k b::s) e h
 | f+1,.code (.cond c a b),s,e,h=>cnd (Q3 e c) (mO f (.code a) s e h) (mO f (.code b) s e h)
 | f+1,.code (.block i a),s,e,h=>mO f (.code a) (.blk i::s) e h
 | _+1,.code (.loop j k _),s,e,h=>C7i T j (B6c n s [n]) (D5c e k) h
 | _+1,.nrm,[],e,h=>E0i e h res
 | f+1,.nrm,.seq k b::s,e,h=>mO f (.code b) s (E0j e k) h
 | _+1,.nrm,.jn j k _::s,e,h=>C7i T j (B6c n s []) (D5c e k) h
 | f+1,.nrm,.blk _::s,e,h=>mO f .nrm s e h
 | _+1,.nrm,.lp j k _ m::s,e,h=>C7i T j (B6c n s [m]) (D5c e k) h
 | f+1,.ex i,.blk j::s,e,h=>bif j==i then mO f .nrm s e h else mO f (.ex i) s e h
 | f+1,.ex i,.seq _ _::s,e,h=>mO f (.ex i) s e h
 | f+1,.ex i,.jn _ _ _::s,e,h=>mO f (.ex i) s e h
 | f+1,.ex i,.lp _ _ _ _::s,e,h=>mO f (.ex i) s e h
 | _+1,.ex _,[],_,_=>A7
 | f+1,.ops [],s,e,h=>mO f .nrm s e h
 | f+1,.ops (x::l),s,e,h=>mO f (.rs (D7Y E L A6 h e h x) (D7V x) (.ops l)) s e h
 | f+1,.dr [] _ c,s,e,h=>mO f c s e h
 | f+1,.dr (x::l) hr c,s,e,h=>mO f (.rs (D7Y E L A5 hr e h x) (D7V x) (.dr l hr c)) s e h
 | f+1,.ds x c r,s,e,h=>mO f (.rs (D7Y E L A6 h e h x) (D7V x) (.ag c e (.ops r))) s e h
 | f+1,.ag [] _ c,s,e,h=>mO f c s e h
 | f+1,.ag ((d,o)::k) e0 c,s,e,h=>agn (E11 h e0 o) (B7q e0 d) (mO f (.ag k e0 c) s e h)
 | f+1,.rs (.v x) d c,s,e,h=>mO f c s (D1a e d x) h
 | f+1,.rs (.n x g) d c,s,e,_=>mO f c s (D1a e d x) g
 | f+1,.rs (.b x) d c,s,e,h=>bnd x λv=>mO f c s (D1a e d v) h
 | f+1,.rs (.g x) d c,s,e,_=>bnd x λh=>mO f c s (D1a e d .un) h
 | f+1,.rs (.p x) d c,s,e,_=>bnd x λp=>mO f c s (D1a e d p.1) p.2
 | f+1,.rs (.l x v g) d c,s,e,_=>bnd x λa=>mO f c s (D1a e d (v a)) (g a)
end
def E4C {P:Program} (d:FD P) (T:TT) (n:Nat) (args:List Val) (h:A9):yK :=
 mO n T.E (C1s d.L) T.l d.res 9999 (.code d.code) [] (E0m 0 args) h
def D6n (j n:Nat) (E:K6) (L:Nat->Fun) (T:List TE) (res:List ARes) (xs:List Val) (h:A9):Option (Bool × List Nat × PC × List Fr × Nat)->yK
 | some (A5,k,a,s,m)=>mO n E L T res 9999 (.code a) (.lp j k a m::s) (zE k xs) h
 | some (A6,k,b,s,_)=>mO n E L T res 9999 (.code b) s (zE k xs) h
 | none=>A7
def E1W {P:Program} (d:FD P) (T:TT) (j n:Nat) (ns:List Nat) (xs:List Val) (h:A9):yK :=
 D6n j n T.E (C1s d.L) T.l d.res xs h (fd d.code j ns [])
def Nrm(a b:yK):Prop:=a=b
def D2X(a:yK):Nrm a a:=rfl
def D4i:List Nat->List Nat
 | []=>[]
 | [m]=>[m+1]
 | m::k::l=>m::D4i (k::l)
section
variable {P:Program}
def mR(R:Nat->Fun)(d:FD P)(T:TT)(n:Nat)(args:List Val)(h:A9){c:yK}(hc:Nrm (E4C d T n args h) c:=by (conv=>{ arg 1;arg 1;whnf });(conv=>{ arg 1;arg 2;whnf });dsimp only [E4C,FD.code];(conv=>{ arg 1;arg 7;arg 1;whnf });dsimp only [mO,D7Y,D7V,E1X,D3c,E10,D7L,D4W,E0n,B7q,Q3,E0j,D5c,C61,B9M,C9z,D1a,E0m,B4Q,B6c,C7i,C2q,C2r,E0i,C6X,E11,D55,nth,E2w,C1s,cal,D7,fU,D6n,zE,Nat.reduceBEq,Nat.reduceAdd,cond_true,cond_false,Int.cast_ofNat_Int];exact D2X _)(e:R n args h=c:=by kernel_rfl):R n args h=c:=e
def mJ(d:FD P)(T:TT)(j n:Nat)(ns:List Nat)(xs:List Val)(h:A9){a c:yK}(ha:Nrm (C7i T.l j (n::ns) xs h) a:=by (conv=>{ arg 1;arg 1;arg 1;whnf });dsimp only [C7i,C2q,C2r];exact D2X _)(hc:Nrm (E1W d T j n ns xs h) c:=by (conv=>{ arg 1;arg 1;whnf });(conv=>{ arg 1;arg 2;whnf });dsimp only [E1W];(conv=>{ arg 1;arg 9;whnf });dsimp only [mO,D7Y,D7V,E1X,D3c,E10,D7L,D4W,E0n,B7q,Q3,E0j,D5c,C61,B9M,C9z,D1a,E0m,B4Q,B6c,C7i,C2q,C2r,E0i,C6X,E11,D55,nth,E2w,C1s,cal,D7,fU,D6n,zE,Nat.reduceBEq,Nat.reduceAdd,cond_true,cond_false,Int.cast_ofNat_Int];exact D2X _)(e:a=c:=by kernel_rfl):a=c:=e
def mL(d:FD P)(T:TT)(j n:Nat)(ns:List Nat)(xs:List Val)(h:A9){a c:yK}(ha:Nrm (C7i T.l j (n::D4i ns) xs h) a:=by (conv=>{ arg 1;arg 1;arg 1;whnf });dsimp only [C7i,C2q,C2r,D4i];exact D2X _)(hc:Nrm (E1W d T j n ns xs h) c:=by (conv=>{ arg 1;arg 1;whnf });(conv=>{ arg 1;arg 2;whnf });dsimp only [E1W];(conv=>{ arg 1;arg 9;whnf });dsimp only [mO,D7Y,D7V,E1X,D3c,E10,D7L,D4W,E0n,B7q,Q3,E0j,D5c,C61,B9M,C9z,D1a,E0m,B4Q,B6c,C7i,C2q,C2r,E0i,C6X,E11,D55,nth,E2w,C1s,cal,D7,fU,D6n,zE,Nat.reduceBEq,Nat.reduceAdd,cond_true,cond_false,Int.cast_ofNat_Int];exact D2X _)(e:a=c:=by kernel_rfl):a=c:=e
end
end Go.Esc
namespace Go.Proofs.YtbipebfdappanaaGreat
variable {h:A9}{n b a m w i v:Int}{l data:List UInt8}{nv:Nat}
section
variable (n m m2:Nat) (a0 a1 a2 a3 x0 x1 x3 x4 x6 x7 x8 x10 x16 x17 x18 x19 x20 x21 x25 x26:Val) (h:A9)
def tX:FD A8:=⟨px 0X126e48867c488491c21111110053248f2a053c02218022a47814882d5c104025a16c161800724064202889725e1482f046d42032ef12cf700461a11d4152e38182150307024613401214f4200605110293c134d4b4932827411a0122a48863848818210001322401b6192889042e1a2e2e70110122819063d42031c61b632e21d753282,[],[],[.cellN 6 256],[]⟩
def C0v:=tX.R
def C6P:AtH:=tX.lj 0 n [m] [x1,x3,x6,x16,x17,x18]
def C6O:AtH:=tX.lj 1 n [] [x3,x6]
def C04:=tT [⟨2,6,C6P⟩,⟨1,2,C6O⟩]
def C98:=mR C0v tX C04 n [a0,a1,a2] h
def C8g:=mL tX C04 0 n [m] [x1,x3,x6,x16,x17,x18] h
def C8f:=mJ tX C04 1 n [] [x3,x6] h
def A7O:=tX.K Tryz.func118
def A3z:=tX.S
def D0c:SOk A8 118 A3z:=A7O.sok
def C42:G0 C0v A3z:=A7O.flat
def B7G:FD A8:=⟨px 0X12648860143037101c3b40121c21b150182,[],[],[.cellN 2 256],[D7 A3z A7O]⟩
def C4H:=B7G.R
def D1t:=mR C4H B7G (tT []) n [a0] h
def B1Z:=B7G.K Tryz.func115
def A79:=B7G.S
def D1w:SOk A8 115 A79:=B1Z.sok
def C7R:G0 C4H A79:=B1Z.flat
def A5p:FD A8:=⟨px 0X138f60301c19018194d1a0474d1a584d74c4d774d70130181904193b1a3a3b73a3b701306195042b1a2a2b7011042712b000007236015301c2,[],[],[.tmp 6],[]⟩
def C2e:=A5p.R
def C4I:=mR C2e A5p (tT []) n [a0,a1,a2] h
def A1i:=A5p.K Tryz.func114
def uC:=A5p.S
def C0U:G0 C2e uC:=A1i.flat
def A0d:FD A8:=⟨px 0X126c48867c4884a1c211100033249f2c053a02218022a1e7814882d0690181c2058049624c15e104023e15c2f01b182ef1904123842150307024613401215b4200605114a12594f732823c430122c48863c488182100002322401b1a190384d28890430382f38387383870129052281a0184b42031c181b742e229197532c2,[],[],[.cellN 8 256],[D7 uC A1i]⟩
def B6w:=A0d.R
def C2V:AtH:=A0d.lj 0 n [m] [x1,x3,x4,x8,x19,x20]
def C47:=tT [⟨2,6,C2V⟩]
def C7L:=mR B6w A0d C47 n [a0,a1,a2,a3] h
def B34:=mL A0d C47 0 n [m] [x1,x3,x4,x8,x19,x20] h
def A3K:=A0d.K Tryz.func116
def sZ:=A0d.S
def C7S:SOk A8 116 sZ:=A3K.sok
def C3I:G0 B6w sZ:=A3K.flat
def A3y:FD A8:=⟨px 0X11b159f1807e59034a4c00000031b258f3a053c02218022a1e2c11d0690181c2058049625e17c104025817a14e3d01c183cf1b04124842150307024513401216f4200605115e39026d6b7328200003338f1a0041397100012e5d42d753002a20131118482383a0000021b22401b1e1903c4d0618303c2f03c4b73c73c3c73c3c701490522c1c01a5b4203311184827530282,[],[],[.tmp 8,.tmp 9],[D7 uC A1i]⟩
def C0w:=A3y.R
def C6Q:AtH:=A3y.lj 0 n [m] [x1,x3,x10,x25,x26]
def C8E:=tT [⟨2,5,C6Q⟩]
def C99:=mR C0w A3y C8E n [a0,a1,a2,a3] h
def B6f:=mL A3y C8E 0 n [m] [x1,x3,x10,x25,x26] h
def C8x:=A3y.K Tryz.func117
def C0T:=A3y.S
def D0d:SOk A8 117 C0T:=C8x.sok
def C43:C8F C0w C0T:=C8x.tidy
def A3w:FD A8:=⟨px 0X14ef607e4e02580000003724df3a052e02218022a1c1e11d0407e14882d04026817c15c15c3d019183cf1804124e42150307024513401216f4200605115e39026d6b7328200003338f7000176b5a2f031f422ef2003802889724e14a2b0565301d201164813800001722401b6195013e1a3c3e70101b6192889042e1a2e2e7011012281901a4d42031648632e27531c2,[],[.min (.t 19) (.t 21)],[.tmp 6],[]⟩
def C0u:=A3w.R
def C6M:AtH:=A3w.lj 0 n [m] [x1,x3,x7,x25,x26]
def C8C:=tT [⟨2,5,C6M⟩]
def C96:=mR C0u A3w C8C n [a0,a1,a2] h
def B6d:=mL A3w C8C 0 n [m] [x1,x3,x7,x25,x26] h
def B4r:=A3w.K Tryz.func63
def A78:=A3w.S
def B8u:SOk A8 63 A78:=B4r.sok
def C7Q:A3T C0u A78:=B4r.out
def A3x:FD A8:=⟨px 0X11b14ef607c4e033c3e00000031b24df2d054804d492184cf1800381d20181b2058049625e10580401811d04024c16a171483801e182ff1904123a42150307024513401215d4200605114c2c025b59312820000332b1129531002a201312b602383a000011b22401b1e190384d061830382f0384b738738387383870149052281a01a4f4203312b6025301c2,[.c (.i .u64 0)],[],[.tmp 6,.tmp 7],[D7 uC A1i]⟩
def C8y:=A3x.R
def C6N:AtH:=A3x.lj 0 n [m] [x0,x1,x8,x20,x21]
def C8D:=tT [⟨2,5,C6N⟩]
def C97:=mR C8y A3x C8D n [a0,a1,a2] h
def B6e:=mL A3x C8D 0 n [m] [x0,x1,x8,x20,x21] h
def C8w:=A3x.K Tryz.func62
def C0S:=A3x.S
def D0b:SOk A8 62 C0S:=C8w.sok
def C41:G0 C8y C0S:=C8w.flat
def A7K:FD A8:=⟨px 0X14af606e4a023800000037249f2a053e0494921848f7002e1d20181b2058049625810680405c14882d04023e15a13c2d01d182cf1804122e42150307024513401214f4200605113e29024d4b732820000331111f65302920116012c00001722401b1a1902e4d288904302e2f2e2e72e2e701290521e19018494203160632e27531c2,[],[],[.tmp 6],[D7 uC A1i]⟩
def D1r:=A7K.R
def C9u:AtH:=A7K.lj 0 n [m] [x1,x3,x7,x17,x18]
def D1x:=tT [⟨2,5,C9u⟩]
def D1s:=mR D1r A7K D1x n [a0,a1,a2] h
def B9x:=mL A7K D1x 0 n [m] [x1,x3,x7,x17,x18] h
def A7N:=A7K.K Tryz.func64
def A1x:=A7K.S
def D1v:SOk A8 64 A1x:=A7N.sok
def C7P:G0 D1r A1x:=A7N.flat
end
def A2k(at' width all:Int):Bool:=decide (0<=at')&&decide (1<=width)&&decide (width<=all)&&decide (at'<=all-width)
def Y1:A2k a w n=A5↔0<=a/\1<=w/\w<=n/\a<=n-w:=by
 unfold A2k;simp [and_assoc]
def A11(hn:n<9223372036854775808):
  uC [iV a,iV w,iV n] h=A4 (bV (A2k a w n),h):=by
 refine C0U (n:=0) (h2:=ro h) ?_ rfl;rw [C4I];unfold A2k;by_cases h1:0<=a
 ·by_cases h2:1<=w
  ·by_cases h3:w<=n
   ·have e:E6a .i64 (n-w)=n-w:=wrap_i64 (by omega) (by omega);simp [h1,h2,h3,e]
   ·simp [h1,h2,h3]
  ·simp [h1,h2]
 ·simp [h1]
def D9z(l:List UInt8)(a w:Int):Option Nat:=if w<=8/\A2k a w (l_ l)=A5 then A4 (le ((l.drop a.toNat).take w.toNat)) else A7
def C2U{l:List UInt8}{h:A9}{a w k:Nat}(hw:w<=4)(haw:a+w<=256)(hl:l_ l=256):∀ d i m,i+d=w->d<m ->
  C9u k m (iV a) (pV (l_ h) 0) (iV (le ((l.drop a).take i))) (iV w) (iV i) (h++[rT (B5 l)])=A4 (iV (le ((l.drop a).take w)),h++[rT (B5 l)])
 | d,i,0,_,hm=>by omega
 | 0,i,m+1,hi,hm=>by
  have e:i=w:=by omega
  subst e;rw [B9x];simp
 | d+1,i,m+1,hi,hm=>by
  have ih:=C2U (h:=h) (k:=k) hw haw hl d (i+1) m (by omega) (by omega);have hx:=C4 (h:=h++[rT (B5 l)]) (id:=l_ h) (off:=a+i) (c:=.i .u8 l[a+i].toNat) N6 (by rw [A1G,E51 (by omega)];rfl) rfl;have hb:=l[a+i].toNat_lt;have hlen:((l.drop a).take i).length=i:=by simp;omega
  have kX:=D2I ((l.drop a).take i);rw [hlen] at kX;have hp:=B4U (show i<=4 by omega);have hbp:=C2v (x:=l[a+i]) (show i<4 by omega);have e2:E6a .i64 (8*(i:Int))=8*i:=wrap_i64 (by omega) (by omega);have e3:E6a .u64 (8*(i:Int))=8*i:=wrap_u64 (by omega) (by omega);have e5:E6a .i64 (l[a+i].toNat:Int)=l[a+i].toNat:=wrap_i64 (by omega) (by omega);have e6:=D3D (k:=.i64) (x:=l[a+i]) (show i<8 by omega) (wrap_i64 (by omega) (by omega)) rfl;have e7:N5 .or (iV (le ((l.drop a).take i):Nat)) (iV ((l[a+i].toNat*256 ^ i:Nat):Int))=A4 (iV (le ((l.drop a).take (i+1)):Nat)):=by
   rw [E3K (by omega) (by omega),A7I (by omega),<-D6k,hlen]
  have ea:K5 256 1 (pV (l_ h) 0) (iV ((a+i:Nat):Int))=A4 (pV (l_ h) (a+i)):=by rw [Q1 (by omega)];simp
  have h1':(i:Int)<w:=by omega
  rw [B9x];simp only [esc,h1',A5a (show a+i<9223372036854775808 by omega),e2,e3,ea,hx,e5,e6,e7,D9 (a:=i) (by omega)];exact ih
def atN(l:List UInt8)(a w:Int):Nat:=if w<=4/\A2k a w 256=A5 then le ((l.drop a.toNat).take w.toNat) else 0
def pQ(hl:l_ l=256) :
  A1x [.a (B5 l),iV a,iV w] h=A4 (iV (atN l a w),h):=by
 refine C7P (n:=w.toNat+1) (h2:=ro h++[rT (B5 l)]) ?_ (by simp);rw [D1s];unfold atN;by_cases c1:4<w
 ·have c1':¬ w<=4:=by omega
  simp [c1,c1']
 ·have c1':w<=4:=by omega
  cases c2:A2k a w 256 with
  | false=>simp [c1,A11 (show (256:Int)<9223372036854775808 by omega),c2]
  | true =>
   simp [c1,c1',A11 (show (256:Int)<9223372036854775808 by omega),c2];rw [Y1] at c2;have:=C2U (h:=ro h) (a:=a.toNat) (w:=w.toNat) (k:=w.toNat+1) (by omega) (by omega) hl w.toNat 0 (w.toNat+1) (by omega) (by omega);simp only [show ((a.toNat:Nat):Int)=a by omega,show ((w.toNat:Nat):Int)=w by omega] at this;simpa [le] using this
def B6g{l:List UInt8}{z:List Cell}{h:A9}{a w k:Nat}{v:Int}(hw:w<=4)(haw:a+w<=256)(hl:l_ l=256)(hz:z.length=256):∀ d i m,i+d=w->d<m ->
  C2V k m (iV a) (iV v) (pV (l_ h) 0) (pV (l_ h+1) 0) (iV w) (iV i) (h++[rT (B5 (H5 l a (D4 i v))),rT z]) =
   A4 (.a (B5 (H5 l a (D4 w v))),h++[rT (B5 (H5 l a (D4 w v))),rT (B5 (H5 l a (D4 w v)))])
 | d,i,0,_,hm=>by omega
 | 0,i,m+1,hi,hm=>by
  have e:i=w:=by omega
  subst e;have kX:(B5 (H5 l a (D4 i v))).length=256:=by rw [B6,O2 (by simp;omega),hl]
  have s1:=C7 (h:=h++[rT (B5 (H5 l a (D4 i v))),rT z]) (id:=l_ h) (cs:=B5 (H5 l a (D4 i v))) (by simp) kX;have s2:=storeAll (h:=h++[rT (B5 (H5 l a (D4 i v))),rT z]) (id:=l_ h+1) (cs:=z) (xs:=B5 (H5 l a (D4 i v))) (by simp) hz kX;have s3:=C7 (h:=h++[rT (B5 (H5 l a (D4 i v))),rT (B5 (H5 l a (D4 i v)))]) (id:=l_ h+1) (cs:=B5 (H5 l a (D4 i v))) (by simp) kX;have h1':¬ (i:Int)<i:=by omega
  rw [B34];simp only [esc,h1',s1,s2,s3]
 | d+1,i,m+1,hi,hm=>by
  have ih:=B6g (h:=h) (k:=k) (v:=v) hw haw hl hz d (i+1) m (by omega) (by omega);have e2:E6a .i64 (8*(i:Int))=8*i:=wrap_i64 (by omega) (by omega);have e3:E6a .u64 (8*(i:Int))=8*i:=wrap_u64 (by omega) (by omega);have e4:N5 .shr (iV v) (.c (.i .u64 (8*(i:Int))))=A4 (iV (v/2 ^ (Nat.min (8*(i:Int)).toNat 64))):=C5b (by omega);have ea:K5 256 1 (pV (l_ h) 0) (iV ((a+i:Nat):Int))=A4 (pV (l_ h) (a+i)):=by rw [Q1 (by omega)];simp
  have mM:=I9 (h:=h++[rT (B5 (H5 l a (D4 i v))),rT z]) (id:=l_ h) (off:=a+i) (cs:=B5 (H5 l a (D4 i v))) (x:=.i .u8 (byI v i).toNat) (by simp)
   (by rw [B6,O2 (by simp;omega)];omega)
  have e5:(H5 l a (D4 i v)).set (a+i) (byI v i)=H5 l a (D4 (i+1) v):=by
   rw [B3b];have:=B4L (l:=l) (xs:=D4 i v) (a:=a) (x:=byI v i) (by simp;omega);simpa using this
  rw [oC,e5] at mM;have h1':(i:Int)<w:=by omega
  rw [B34];simp only [esc,h1',A5a (show a+i<9223372036854775808 by omega),e2,e3,e4,C8X (v:=v) (show i<8 by omega),ea,mM,D9 (a:=i) (by omega)];exact ih
def jR(l:List UInt8)(a w v:Int):List UInt8:=if w<=4/\A2k a w 256=A5 then H5 l a.toNat (D4 w.toNat v) else l
def V5(hl:l_ l=256):(jR l a w v).length=256:=by
 unfold jR;split
 ·rename_i h;rw [Y1] at h;rw [O2 (by simp;omega),hl]
 ·exact hl
def D00{g:A9}(hl:l_ l=256) :
  ∃ g',B6w (w.toNat+1) [.a (B5 l),iV a,iV w,iV v] g=A4 (.a (B5 (jR l a w v)),g'):=by
 have kX:(B5 l).length=256:=by rw [B6,hl]
 have hz:(E55 256 (Cell.i .u8 0)).length=256:=E6y;rw [C7L];generalize E55 256 (Cell.i .u8 0)=z at *;have s1:=C7 (h:=g++[rT (B5 l),rT z]) (id:=l_ g) (cs:=B5 l) (n:=256) (by simp) kX;have s2:=storeAll (h:=g++[rT (B5 l),rT z]) (id:=l_ g+1) (cs:=z) (xs:=B5 l) (by simp) hz kX;have s3:=C7 (h:=g++[rT (B5 l),rT (B5 l)]) (id:=l_ g+1) (cs:=B5 l) (n:=256) (by simp) kX;unfold jR;by_cases c1:4<w
 ·rw [if_neg (by omega)];exact ⟨_,by simp only [esc,c1,s1,s2,s3];rfl⟩
 ·have c1':w<=4:=by omega
  cases c2:A2k a w 256 with
  | false =>
   rw [if_neg (by simp)];exact ⟨_,by simp only [esc,c1,A11 (show (256:Int)<9223372036854775808 by omega),c2,s1,s2,s3];rfl⟩
  | true =>
   rw [if_pos ⟨c1',rfl⟩];have c3:=Y1.1 c2;have:=B6g (h:=g) (a:=a.toNat) (w:=w.toNat) (k:=w.toNat+1) (v:=v) (z:=z) (by omega) (by omega) hl hz w.toNat 0 (w.toNat+1) (by omega) (by omega);simp only [show ((a.toNat:Nat):Int)=a by omega,show ((w.toNat:Nat):Int)=w by omega,show D4 0 v=[] from rfl,B9k] at this;exact ⟨_,by simp only [esc,c1,A11 (show (256:Int)<9223372036854775808 by omega),c2];exact this⟩
def aK(hl:l_ l=256) :
  sZ [.a (B5 l),iV a,iV w,iV v] h=A4 (.a (B5 (jR l a w v)),h):=by
 obtain ⟨g,e⟩:=D00 (g:=ro h) hl (a:=a) (w:=w) (v:=v);exact C3I e (by simp)
def B9y{l:List UInt8}{h:A9}{b id a n k:Nat}(haw:a+n<=256)(hl:l_ l=256):∀ d i m,i+d=n->d<m ->
  C6M k m (iV a) (pV (l_ h) 0) (sV (l_ h+2) 0 n 1) (iV n) (iV i) (h++[rT (B5 l),rT [],rT (B5 ((l.drop a).take i++zeros (n-i)))]) =
   A4 (sV (l_ h+2) 0 n 1,h++[rT (B5 l),rT [],rT (B5 ((l.drop a).take n))])
 | d,i,0,_,hm=>by omega
 | 0,i,m+1,hi,hm=>by
  have e:i=n:=by omega
  subst e;have h1':¬ (i:Int)<i:=by omega
  rw [B6d];simp only [esc,h1'];simp [zeros]
 | d+1,i,m+1,hi,hm=>by
  have ih:=B9y (h:=h) (b:=b) (id:=id) (k:=k) haw hl d (i+1) m (by omega) (by omega);have ea:K5 256 1 (pV (l_ h) 0) (iV ((a+i:Nat):Int))=A4 (pV (l_ h) (a+i)):=by rw [Q1 (by omega)];simp
  have eb:E9 1 (sV (l_ h+2) 0 n 1) (iV (i:Int))=A4 (pV (l_ h+2) i):=by rw [E3 (by omega)];simp
  have hx:=C4 (h:=h++[rT (B5 l),rT [],rT (B5 ((l.drop a).take i++zeros (n-i)))]) (id:=l_ h) (off:=a+i) (c:=.i .u8 l[a+i].toNat) (cs:=B5 l) (rw:=A5) (by simp) (by rw [A1G,E51 (by omega)];rfl) rfl;have mM:=I9 (h:=h++[rT (B5 l),rT [],rT (B5 ((l.drop a).take i++zeros (n-i)))]) (id:=l_ h+2) (off:=i) (cs:=B5 ((l.drop a).take i++zeros (n-i))) (x:=.i .u8 l[a+i].toNat) (by simp)
   (by rw [B6];simp;omega)
  have e5:((l.drop a).take i++zeros (n-i)).set i l[a+i]=(l.drop a).take (i+1)++zeros (n-(i+1)):=by
   have hlen:((l.drop a).take i).length=i:=by simp;omega
   rw [E6O _ _ (by omega),hlen,E67,A7I (by omega),E6d];refine congrArg ((l.drop a).take i ++ ·) ?_;have:n-i=n-(i+1)+1:=by omega
   rw [this];unfold zeros;rw [E6D,E7c];rfl
  rw [oC,e5] at mM;have h1':(i:Int)<n:=by omega
  rw [B6d];simp only [esc,h1',A5a (show a+i<9223372036854775808 by omega),ea,hx,eb,mM,D9 (a:=i) (by omega)];exact ih
def B1L(l:List UInt8)(a n:Int):List UInt8:=if 0<=a then (l.drop a.toNat).take n.toNat else []
def C1P(n:Nat):rows [Cell.i .u8 0] n=B5 (zeros n):=by
 unfold rows zeros
 induction n with
 | zero=>rfl
 | succ n ih=>rw [E6D,E65,ih,E6D];rfl
def D2Z{g:A9}(hl:l_ l=256) :
  ∃ v g',C0u ((min n (256-a)).toNat+1) [.a (B5 l),iV a,iV n] g=A4 (v,g')/\Out (l_ g) g' v 1 (B1L l a n).length (B5 (B1L l a n)):=by
 rw [C96];unfold B1L;by_cases c1:a<0
 ·rw [if_neg (by omega)];exact ⟨_,_,by simp only [esc,c1];rfl,by simp [B6],_,rfl,by simp,by simp;rfl⟩
 ·rw [if_pos (by omega)];by_cases c2:256<=a
  ·have e:l.drop a.toNat=[]:=E6f (by omega);rw [e,List.take_nil];exact ⟨_,_,by simp only [esc,c1,c2];rfl,by simp [B6],_,rfl,by simp,by simp;rfl⟩
  ·by_cases c3:n<1
   ·have e:n.toNat=0:=by omega
    rw [e];exact ⟨_,_,by simp only [esc,c1,c2,c3];rfl,by simp [B6],_,rfl,by simp,by simp;rfl⟩
   ·have e1:E6a .i64 (256-a)=256-a:=wrap_i64 (by omega) (by omega);have e2:B5i (iV n) (iV (256-a))=A4 (iV ((min n (256-a)).toNat:Nat)):=by
     simp only [B5i]
     congr 3
     by_cases h:256-a<n
     ·rw [if_pos h];omega
     ·rw [if_neg h];omega
    generalize hN:(min n (256-a)).toNat=N at *;have e3:C3M (iV (N:Int)) (iV (N:Int))=A4 N:=by
     have:B5o (iV (N:Int))=A4 N:=by simp only [B5o];rw [if_pos (by omega)];simp
     simp [C3M,this]
    have e4:(l.drop a.toNat).take n.toNat=(l.drop a.toNat).take N:=by
     by_cases h:256-a<n
     ·rw [E6l (by simp;omega),E6l (by simp;omega)]
     ·have:n.toNat=N:=by omega
      rw [this]
    have e5:((l.drop a.toNat).take N).length=N:=by simp;omega
    rw [e4,e5];have:=B9y (h:=g) (b:=0) (id:=0) (a:=a.toNat) (n:=N) (k:=N+1) (by omega) hl N 0 (N+1) (by omega) (by omega);simp only [show ((a.toNat:Nat):Int)=a by omega,E6S,E6s,Nat.sub_zero] at this;exact ⟨_,_,by simp only [esc,c1,c2,c3,e1,e2,e3,C1P];exact this,by simp [B6,e5],_,rfl,by omega,by simp⟩
def B0z(hl:l_ l=256) :
  A78 [.a (B5 l),iV a,iV n] h=A4 (sV (l_ h) 0 (B1L l a n).length 1,h++[rT (B5 (B1L l a n))]):=by
 obtain ⟨v,g,e,ho⟩:=D2Z (g:=ro h) hl (a:=a) (n:=n);exact C7Q e (by simpa [H6] using ho) (by simp)
def B9A{v:Val}{nv:Nat}{data l:List UInt8}{z:List Cell}{h:A9}(hv:Has h v 1 nv (B5 data)){a k:Nat}(ha:a<256)(hl:l_ l=256)(hz:z.length=256)(hd:data.length<9223372036854775808):∀ d i m,i+d=data.length->d<m->i<=256-a ->
  C6P k m (iV a) (pV (l_ h) 0) (pV (l_ h+1) 0) v (iV data.length) (iV i) (h++[rT (B5 (H5 l a (data.take i))),rT z]) =
   A4 (.a (B5 (H5 l a (data.take (256-a)))),h++[rT (B5 (H5 l a (data.take (256-a)))),rT (B5 (H5 l a (data.take (256-a))))])
 | d,i,0,_,hm,_=>by omega
 | d,i,m+1,hi,hm,hia=>by
  have hll:∀ i,i<=256-a->(B5 (H5 l a (data.take i))).length=256:=λi hi=>by rw [B6,O2 (by simp;omega),hl]
  have fin:data.take i=data.take (256-a)->C6O k (pV (l_ h) 0) (pV (l_ h+1) 0) (h++[rT (B5 (H5 l a (data.take i))),rT z]) =
   A4 (.a (B5 (H5 l a (data.take (256-a)))),h++[rT (B5 (H5 l a (data.take (256-a)))),rT (B5 (H5 l a (data.take (256-a))))]):=λe=>by
   rw [e];have kX:=hll (256-a) (E56 _);have s1:=C7 (h:=h++[rT (B5 (H5 l a (data.take (256-a)))),rT z]) (id:=l_ h) (cs:=B5 (H5 l a (data.take (256-a)))) (by simp) kX;have s2:=storeAll (h:=h++[rT (B5 (H5 l a (data.take (256-a)))),rT z]) (id:=l_ h+1) (cs:=z) (xs:=B5 (H5 l a (data.take (256-a)))) (by simp) hz kX;have s3:=C7 (h:=h++[rT (B5 (H5 l a (data.take (256-a)))),rT (B5 (H5 l a (data.take (256-a))))]) (id:=l_ h+1) (cs:=B5 (H5 l a (data.take (256-a)))) (by simp) kX;rw [C8f];simp only [esc,s1,s2,s3]
  rw [C8g];by_cases c1:i<data.length
  ·obtain ⟨d,rfl⟩:∃ e,d=e+1:=⟨d-1,by omega⟩;have hnv:data.length=nv:=by simpa [B6] using hv.length
   obtain ⟨id,off,rfl,hid,h1,h2⟩:=(hv.more [rT (B5 (H5 l a (data.take i))),rT z]).sl (by omega);have hx:=h1 i (.i .u8 data[i].toNat) (by rw [A1G,E51 (by omega)];rfl);have eb:E9 1 (sV id off nv 1) (iV (i:Int))=A4 (pV id (off+i)):=by rw [E3 (by omega)];simp
   have e1:E6a .i64 (256-(a:Int))=256-a:=wrap_i64 (by omega) (by omega);have c1':(i:Int)<data.length:=by omega
   by_cases c2:256-a<=i
   ·have c2':(256:Int)-a<=i:=by omega
    simp only [esc,c1',eb,hx,e1,c2'];exact fin (by rw [show i=256-a by omega])
   ·have c2':¬ (256:Int)-a<=i:=by omega
    have ih:=B9A hv (l:=l) (z:=z) (k:=k) ha hl hz hd d (i+1) m (by omega) (by omega) (by omega);have ea:K5 256 1 (pV (l_ h) 0) (iV ((a+i:Nat):Int))=A4 (pV (l_ h) (a+i)):=by rw [Q1 (by omega)];simp
    have mM:=I9 (h:=h++[rT (B5 (H5 l a (data.take i))),rT z]) (id:=l_ h) (off:=a+i) (cs:=B5 (H5 l a (data.take i))) (x:=.i .u8 data[i].toNat) (by simp)
     (by rw [hll i hia];omega)
    have e5:(H5 l a (data.take i)).set (a+i) data[i]=H5 l a (data.take (i+1)):=by
     have:=B4L (l:=l) (xs:=data.take i) (a:=a) (x:=data[i]) (by simp;omega);rw [E6A,Nat.min_eq_left (by omega)] at this;rw [this,E6x c1]
    rw [oC,e5] at mM;simp only [esc,c1',eb,hx,e1,c2',A5a (show a+i<9223372036854775808 by omega),ea,mM,D9 (a:=i) (by omega)];exact ih
  ·have c1':¬ (i:Int)<data.length:=by omega
   simp only [esc,c1'];exact fin (by rw [E6l (by omega),E6l (by omega)])
def B0y(l:List UInt8)(a:Int)(data:List UInt8):List UInt8:=if 0<=a/\a<256 then H5 l a.toNat (data.take (256-a.toNat)) else l
def D2G(hl:l_ l=256):(B0y l a data).length=256:=by
 unfold B0y;split
 ·rw [O2 (by simp;omega),hl]
 ·exact hl
def D20{v:Val}{g:A9}(hv:Has g v 1 nv (B5 data))(hl:l_ l=256)(hd:data.length<9223372036854775808) :
  ∃ g',C0v (data.length+1) [.a (B5 l),iV a,v] g=A4 (.a (B5 (B0y l a data)),g'):=by
 have kX:(B5 l).length=256:=by rw [B6,hl]
 have hz:(E55 256 (Cell.i .u8 0)).length=256:=E6y;have hnv:data.length=nv:=by simpa [B6] using hv.length
 rw [C98];generalize E55 256 (Cell.i .u8 0)=z at *;have s1:=C7 (h:=g++[rT (B5 l),rT z]) (id:=l_ g) (cs:=B5 l) (n:=256) (by simp) kX;have s2:=storeAll (h:=g++[rT (B5 l),rT z]) (id:=l_ g+1) (cs:=z) (xs:=B5 l) (by simp) hz kX;have s3:=C7 (h:=g++[rT (B5 l),rT (B5 l)]) (id:=l_ g+1) (cs:=B5 l) (n:=256) (by simp) kX;unfold B0y;by_cases c1:a<0
 ·rw [if_neg (by omega)];exact ⟨_,by simp only [esc,c1,s1,s2,s3];rfl⟩
 ·by_cases c2:256<=a
  ·rw [if_neg (by omega)];exact ⟨_,by simp only [esc,c1,c2,s1,s2,s3];rfl⟩
  ·rw [if_pos (by omega)];have:=B9A hv (l:=l) (a:=a.toNat) (k:=data.length+1) (z:=z) (by omega) hl hz hd data.length 0 (data.length+1) (by omega) (by omega) (by omega);simp only [show ((a.toNat:Nat):Int)=a by omega,E6S,B9k] at this;exact ⟨_,by simp only [esc,c1,c2,hv.len,<-hnv];exact this⟩
def B0A{v:Val}(hv:Has h v 1 nv (B5 data))(hl:l_ l=256)(hd:data.length<9223372036854775808) :
  A3z [.a (B5 l),iV a,v] h=A4 (.a (B5 (B0y l a data)),h):=by
 obtain ⟨g,e⟩:=D20 hv.ro hl hd (a:=a);exact C42 e (by simp)
def B4R{v:Val}(hv:Has h v 1 nv (B5 data))(hd:data.length<9223372036854775808) :
  A79 [v] h=A4 (.a (B5 (B0y (zeros 256) 0 data)),h):=by
 have key:∀ g,Has g v 1 nv (B5 data)->∃ g',C4H 0 [v] g=A4 (.a (B5 (B0y (zeros 256) 0 data)),g'):=by
  intro g hv;rw [D1t];have hz:(B5 (zeros 256)).length=256:=by rw [B6];exact zeros_length
  have hz0:(zeros 256).length=256:=zeros_length;rw [J3];generalize zeros 256=Z at *;have e:=B0A (hv.more [rT (B5 Z)]) hz0 hd (a:=0);have hl2:(B5 (B0y Z 0 data)).length=256:=by rw [B6,D2G hz0]
  have s2:=storeAll (h:=g++[rT (B5 Z)]) (id:=l_ g) (cs:=B5 Z) (xs:=B5 (B0y Z 0 data)) (by simp) hz hl2;have s3:=C7 (h:=g++[rT (B5 (B0y Z 0 data))]) (id:=l_ g) (cs:=B5 (B0y Z 0 data)) (n:=256) (by simp) hl2;exact ⟨_,by simp only [esc,F5,e,s2,s3];rfl⟩
 obtain ⟨g,e⟩:=key _ hv.ro;exact C7R e (by simp)
def B9z{v:Val}{nv:Nat}{l:List UInt8}{h:A9}(hv:Has h v 1 nv (B5 l)){a w k:Nat}(hw:w<=8)(haw:a+w<=l_ l)(hl:l_ l<9223372036854775808):∀ d i m,i+d=w->d<m ->
  C6N k m v (iV a) (.c (.i .u64 (le ((l.drop a).take i)))) (iV w) (iV i) h=A4 (.t [.c (.i .u64 (le ((l.drop a).take w))),.c (.b A5)],h)
 | d,i,0,_,hm=>by omega
 | 0,i,m+1,hi,hm=>by
  have e:i=w:=by omega
  subst e;rw [B6e];simp
 | d+1,i,m+1,hi,hm=>by
  have ih:=B9z hv (k:=k) hw haw hl d (i+1) m (by omega) (by omega);have hnv:l_ l=nv:=by simpa [B6] using hv.length
  obtain ⟨id,off,rfl,hid,h1,h2⟩:=hv.sl (by omega);have hx:=h1 (a+i) (.i .u8 l[a+i].toNat) (by rw [A1G,E51 (by omega)];rfl);have hb:=l[a+i].toNat_lt;have hlen:((l.drop a).take i).length=i:=by simp;omega
  have kX:=D2I ((l.drop a).take i);rw [hlen] at kX;have hp:=B4U (show i<=8 by omega);have hbp:=C2v (x:=l[a+i]) (show i<8 by omega);have e2:E6a .i64 (8*(i:Int))=8*i:=wrap_i64 (by omega) (by omega);have e3:E6a .u64 (8*(i:Int))=8*i:=wrap_u64 (by omega) (by omega);have e5:E6a .u64 (l[a+i].toNat:Int)=l[a+i].toNat:=wrap_u64 (by omega) (by omega);have e6:=D3D (k:=.u64) (x:=l[a+i]) (show i<8 by omega) (wrap_u64 (by omega) (by omega)) rfl;have e7:N5 .or (.c (.i .u64 (le ((l.drop a).take i):Nat))) (.c (.i .u64 ((l[a+i].toNat*256 ^ i:Nat):Int)))=A4 (.c (.i .u64 (le ((l.drop a).take (i+1)):Nat))):=by
   rw [E3L (by omega) (by omega),A7I (by omega),<-D6k,hlen]
  have ea:E9 1 (sV id off nv 1) (iV ((a+i:Nat):Int))=A4 (pV id (off+(a+i))):=by rw [E3 (by omega)];simp
  have h1':(i:Int)<w:=by omega
  rw [B6e];simp only [esc,h1',A5a (show a+i<9223372036854775808 by omega),e2,e3,ea,hx,e5,e6,e7,D9 (a:=i) (by omega)];exact ih
def D4Z{v:Val}(hv:Has h v 1 nv (B5 l))(hl:l_ l<9223372036854775808) :
  C0S [v,iV a,iV w] h=A4 (.t [.c (.i .u64 ((D9z l a w).getD 0:Nat)),.c (.b (D9z l a w).isSome)],h):=by
 refine C41 (n:=w.toNat+1) (h2:=ro h) ?_ (by simp);rw [C97];have hv':=hv.ro;have hnv:l_ l=nv:=by simpa [B6] using hv.length
 unfold D9z;by_cases c1:8<w
 ·have c1':¬ w<=8:=by omega
  simp [c1,c1']
 ·have c1':w<=8:=by omega
  cases c2:A2k a w (l_ l) with
  | false=>simp [c1,hv'.len,<-hnv,A11 (show (l_ l:Int)<9223372036854775808 by omega),c2]
  | true =>
   simp [c1,c1',hv'.len,<-hnv,A11 (show (l_ l:Int)<9223372036854775808 by omega),c2];rw [Y1] at c2;have:=B9z hv' (a:=a.toNat) (w:=w.toNat) (k:=w.toNat+1) (by omega) (by omega) hl w.toNat 0 (w.toNat+1) (by omega) (by omega);simp only [show ((a.toNat:Nat):Int)=a by omega,show ((w.toNat:Nat):Int)=w by omega] at this;simpa [le] using this
def B9B{l:List UInt8}{b id a w k:Nat}{v:Int}(hw:w<=8)(haw:a+w<=l_ l)(hl:l_ l<9223372036854775808):∀ d i m (h:A9),i+d=w->d<m->b<=id->b<=l_ h->rd h id=rT (B5 (H5 l a (D4 i v))) ->
  ∃ h',C6Q k m (iV a) (.c (.i .u64 v)) (sV id 0 (l_ l) 1) (iV w) (iV i) h=A4 (.t [.c (.sl id 0 (l_ l) 1),.c (.b A5)],h')/\rd h' id=rT (B5 (H5 l a (D4 w v)))
 | d,i,0,h,_,hm,_,_,_=>by omega
 | 0,i,m+1,h,hi,hm,_,_,hr=>by
  have e:i=w:=by omega
  subst e;have h1':¬ (i:Int)<i:=by omega
  rw [B6f];exact ⟨h,by simp only [esc,h1'],hr⟩
 | d+1,i,m+1,h,hi,hm,hb,hbl,hr=>by
  have e2:E6a .i64 (8*(i:Int))=8*i:=wrap_i64 (by omega) (by omega);have e3:E6a .u64 (8*(i:Int))=8*i:=wrap_u64 (by omega) (by omega);have e4:N5 .shr (.c (.i .u64 v)) (.c (.i .u64 (8*(i:Int))))=A4 (.c (.i .u64 (v/2 ^ (Nat.min (8*(i:Int)).toNat 64)))):=C5b (by omega);have ea:E9 1 (sV id 0 (l_ l) 1) (iV ((a+i:Nat):Int))=A4 (pV id (a+i)):=by rw [E3 (by omega)];simp
  have mM:=I9 (off:=a+i) (x:=.i .u8 (byI v i).toNat) hr (by rw [B6,O2 (by simp;omega)];omega);have e5:(H5 l a (D4 i v)).set (a+i) (byI v i)=H5 l a (D4 (i+1) v):=by
   rw [B3b];have:=B4L (l:=l) (xs:=D4 i v) (a:=a) (x:=byI v i) (by simp;omega);simpa using this
  rw [oC,e5] at mM;obtain ⟨h',ih,hr'⟩:=B9B (b:=b) (k:=k) (v:=v) hw haw hl d (i+1) m (h.set id (rT (B5 (H5 l a (D4 (i+1) v))))) (by omega) (by omega) hb (by simpa using hbl) (D6 (E1 hr));have h1':(i:Int)<w:=by omega
  rw [B6f];exact ⟨h',by simp only [esc,h1',A5a (show a+i<9223372036854775808 by omega),e2,e3,e4,C8X (v:=v) (show i<8 by omega),ea,mM,D9 (a:=i) (by omega)];exact ih,hr'⟩
def C30(l:List UInt8)(a w v:Int):Option (List UInt8):=if w<=8/\A2k a w (l_ l)=A5 then A4 (H5 l a.toNat (D4 w.toNat v)) else A7
def D41{x:Val}(hv:Has h x 1 nv (B5 l))(hl:l_ l<=1073741824) :
  C0T [x,iV a,iV w,.c (.i .u64 v)] h=A4 (.t [.c (.sl (l_ h) 0 ((C30 l a w v).getD []).length 1),.c (.b (C30 l a w v).isSome)],h++[rT (B5 ((C30 l a w v).getD []))]):=by
 have hnv:l_ l=nv:=by simpa [B6] using hv.length
 have key:∀ g,Has g x 1 nv (B5 l)->∃ id g',C0w (w.toNat+1) [x,iV a,iV w,.c (.i .u64 v)] g=A4 (.t [.c (.sl id 0 ((C30 l a w v).getD []).length 1),.c (.b (C30 l a w v).isSome)],g')/\(l_ g)<=id/\rd g' id=rT (B5 ((C30 l a w v).getD [])):=by
  intro g hv;rw [C99];have hvm:=hv.more [rT []];unfold C30;by_cases c1:8<w
  ·rw [if_neg (by omega)];exact ⟨_,_,by simp only [esc,c1];rfl,by simp,by simp;rfl⟩
  ·cases c2:A2k a w (l_ l) with
   | false =>
    rw [if_neg (by simp)];exact ⟨_,_,by simp only [esc,c1,hvm.len,<-hnv,A11 (show (l_ l:Int)<9223372036854775808 by omega),c2];rfl,by simp,by simp;rfl⟩
   | true =>
    rw [if_pos ⟨by omega,rfl⟩];have c3:=Y1.1 c2;have hvm2:=hv.more [rT [],rT []];have e1:tJ (g++[rT [],rT []]) 1 (sV (l_ g+1) 0 0 1) x=A4 (sV (l_ g+2) 0 (l_ l) 1,g++[rT [],A7,rT (B5 l)]):=by
     simp [tJ,hvm2.add,B6];exact hl
    obtain ⟨g',e2,hr⟩:=B9B (l:=l) (b:=l_ g) (id:=l_ g+2) (a:=a.toNat) (w:=w.toNat) (k:=w.toNat+1) (v:=v) (by omega) (by omega) (by omega) w.toNat 0 (w.toNat+1) (g++[rT [],A7,rT (B5 l)]) (by omega) (by omega) (by omega) (by simp) (by simp [D4,B9k]);simp only [show ((a.toNat:Nat):Int)=a by omega,show ((w.toNat:Nat):Int)=w by omega] at e2;have hlen:((A4 (H5 l a.toNat (D4 w.toNat v))).getD []).length=(l_ l):=by
     simp only [Option.getD_some];rw [O2 (by simp;omega)]
    rw [hlen];exact ⟨l_ g+2,g',by simp only [esc,c1,hvm.len,<-hnv,A11 (show (l_ l:Int)<9223372036854775808 by omega),c2,F5,e1];exact e2,by omega,hr⟩
 obtain ⟨id,g',e,hb,hr⟩:=key _ hv.ro;have hb':l_ h<=id:=by simpa [H6] using hb
 have:=C43 e (v2:=.t [.c (.sl (l_ h) 0 ((C30 l a w v).getD []).length 1),.c (.b (C30 l a w v).isSome)]) (ids:=[id]) (by
  simp [Y2,jB,Q2,hb',show ¬ id<(l_ h) by omega,pP hr (by simp:N8 (B5 ((C30 l a w v).getD []))=A5)])
 rw [this];simp [hr]
def R0(n:Nat)(l:List UInt8):List UInt8:=l++zeros (n-l_ l)
def I3{n:Nat}(h:l_ l<=n):(R0 n l).length=n:=by
 unfold R0;rw [E58,zeros_length];omega
def E0g{n:Nat}:R0 n []=zeros n:=by simp [R0]
def D3b{xs:List UInt8}{a:Nat}(h1:l_ l<=a)(h2:a+l_ xs<=256):H5 (R0 256 l) a xs=R0 256 (l++zeros (a-l_ l)++xs):=by
 unfold H5 R0;have e1:(l++zeros (256-l_ l)).take a=l++zeros (a-l_ l):=by
  rw [List.take_append,E6l h1];unfold zeros;rw [List.take_replicate,Nat.min_eq_left (by omega)]
 have e2:(l++zeros (256-l_ l)).drop (a+l_ xs)=zeros (256-(l++zeros (a-l_ l)++xs).length):=by
  rw [List.drop_append,E6f (by omega),E6s];unfold zeros;rw [List.drop_replicate]
  congr 1
  simp;omega
 rw [e1,e2];simp only [E6d]
def kF{a w:Nat}(h1:l_ l<=a)(h2:a+w<=256)(hw:1<=w)(hw4:w<=4):jR (R0 256 l) a w v=R0 256 (l++zeros (a-l_ l)++D4 w v):=by
 unfold jR;rw [if_pos ⟨by omega,Y1.2 (by omega)⟩];simp only [E6q];exact D3b h1 (by simp;exact h2)
def fieldN(b:List UInt8)(a w:Nat):Int:=((le ((b.drop a).take w):Nat):Int)
def D03{b:List UInt8}(hb:l_ b<=256):B0y (zeros 256) 0 b=R0 256 b:=by
 unfold B0y H5 R0;rw [if_pos (by omega)];simp only [Int.toNat_zero,E6S,E6s,Nat.sub_zero,E6j];rw [E6l hb];unfold zeros;rw [List.drop_replicate]
def D39{b:List UInt8}{a w:Nat}(h1:a+w<=l_ b)(h2:l_ b<=256)(hw:1<=w)(hw4:w<=4):((atN (R0 256 b) a w:Nat):Int)=fieldN b a w:=by
 unfold atN fieldN R0;rw [if_pos ⟨by omega,Y1.2 (by omega)⟩];simp only [E6q];rw [List.drop_append_of_le_length (by omega),List.take_append_of_le_length (by simp;omega)]
section
variable (n m m2:Nat) (a0 a1 x0 x1 x7 x8:Val) (h:A9)
def A0c:FD A8:=⟨px 0X12bf4072b0218000002722af18052c02a4921829f003b06201a1f21380382812e171b018181af504121842150307024413401212b42006051105b1a603291f61c21132b40130182,[.c (.i .u32 0),.c (.i .u32 16777619)],[.idxS (.t 12) (.t 13),.conv .u32 (.t 14)],[.tmp 4],[]⟩
def C4D:=A0c.R
def C2R:AtH:=A0c.lj 0 n [m] [x0,x1,x7,x8]
def C46:=tT [⟨2,4,C2R⟩]
def C7K:=mR C4D A0c C46 n [a0,a1] h
def B32:=mL A0c C46 0 n [m] [x0,x1,x7,x8] h
def C4p:=A0c.K Tryz.func142
def B6Q:=A0c.S
def C3F:G0 C4D B6Q:=C4p.flat
def B7F:FD A8:=⟨px 0X14f2003b20361300522b201042,[.c (.i .u32 0),.c (.i .u32 2166136261)],[],[.tmp 2],[D7 B6Q C4p]⟩
def D1p:=B7F.R
def D1q:=mR D1p B7F (tT []) n [a0] h
def B7P:=B7F.K Tryz.func104
def B2R:=B7F.S
def D1u:SOk A8 104 B2R:=B7P.sok
def C7O:G0 D1p B2R:=B7P.flat
def B4o:FD A8:=⟨px 0X12bf4006801a1e22b07202b1b20583a171d01802011cf4006871b0318000072241af180289042281903296101d2114012000072247f5050121a6031b420503140130182,[.c (.i .u32 1)],[],[.tmp 4],[]⟩
def C0s:=B4o.R
def C95:=mR C0s B4o (tT []) n [a0,a1] h
def C8v:=B4o.K Tryz.func141
def C0O:=B4o.S
def C4Y:G0 C0s C0O:=C8v.flat
end
def D91(h:Nat)(c:UInt8):Nat:=((h ^^^ c.toNat)*16777619)%4294967296
def C4i(h:Nat)(s:List UInt8):Nat:=s.foldl D91 h
def C3W(s:List UInt8):Nat:=C4i 2166136261 s
def D6h{h:Nat}{c:UInt8}:D91 h c<4294967296:=Nat.mod_lt _ (by omega)
def D4T{s:List UInt8}:∀ {h:Nat},h<4294967296->C4i h s<4294967296:=by
 induction s with
 | nil=>intro h hh;exact hh
 | cons c s ih=>intro h _;exact ih D6h
def D0S{s:List UInt8}:C3W s<4294967296:=D4T (by omega)
def D1o:E6a .u32 a=a%4294967296:=by
 simp only [E6a,IntKind.bits,IntKind.signed,E6p];rfl
def B6a{s:List UInt8}(hs:l_ s<9223372036854775807){q:Nat}{h:A9}:∀ (d i m H:Nat),i+d=l_ s->d<m->H<4294967296 ->
  C2R q m (.c (.i .u32 H)) (.c (.s s)) (iV (l_ s)) (iV i) h=A4 (.c (.i .u32 ((C4i H (s.drop i):Nat):Int)),h)
 | d,i,0,H,_,hm,_=>by omega
 | 0,i,m+1,H,hi,hm,hH=>by
  have c0:¬ (i:Int)<(l_ s):=by omega
  rw [B32,E6f (by omega)];simp only [esc,c0,C4i,List.foldl_nil]
 | d+1,i,m+1,H,hi,hm,hH=>by
  have h2:i<(l_ s):=by omega
  have hb:=s[i].toNat_lt;have ih:=B6a hs (q:=q) (h:=h) d (i+1) m (D91 H s[i]) (by omega) (by omega) D6h;have c0:(i:Int)<(l_ s):=by omega
  have e1:E6a .u32 (s[i].toNat:Int)=s[i].toNat:=wrap_u32 (by omega) (by omega);have e2:=E2v (a:=H) (b:=s[i].toNat) hH (by omega);have e3:E6a .u32 (((H ^^^ s[i].toNat:Nat):Int)*16777619)=((D91 H s[i]:Nat):Int):=by
   rw [D1o];unfold D91;omega
  rw [B32,E6b h2];simp only [esc,c0,B84 h2,e1,e2,e3,D9 (a:=i) (by omega)];exact ih
def C1B{s:List UInt8}(hs:l_ s<9223372036854775807):B2R [.c (.s s)] h=A4 (.c (.i .u32 ((C3W s:Nat):Int)),h):=by
 have hm:∀ h,B6Q [.c (.i .u32 2166136261),.c (.s s)] h=A4 (.c (.i .u32 ((C3W s:Nat):Int)),h):=λh=>by
  refine C3F (n:=l_ s+1) (h2:=ro h) ?_ rfl;rw [C7K];have:=B6a hs (q:=l_ s+1) (h:=ro h) (l_ s) 0 (l_ s+1) 2166136261 (by omega) (by omega) (by omega);simp only [esc];exact this
 refine C7O (n:=0) (h2:=ro h) ?_ rfl;rw [D1q];simp only [esc,hm]
section
variable (n m m2:Nat) (a0 x1 x3 x10:Val) (h:A9)
def bT:FD A8:=⟨px 0X11201020152015052243cf2d006420406a5019024901a20415a2e2b185b0521520150062242cf1a0103249018204148292b51802428f1a018890520413a1e2b4020241df1a0490120412c1b2b4022d201911a15201200622419f3048890520401c72b4180246f30189012040642b402721801a050131103a2342,[],[],[.tmp 2],[]⟩
def A60:=bT.R
def C7e:AtH:=bT.lj 0 n [] [x1,x3]
def C7f:AtH:=bT.lj 1 n [] [x1,x10]
def A7o:=tT [⟨1,2,C7e⟩,⟨1,2,C7f⟩]
def C0z:=mR A60 bT A7o n [a0] h
def X4:=mJ bT A7o 0 n [] [x1,x3] h
def fE:=mJ bT A7o 1 n [] [x1,x10] h
def jZ:=bT.K Tryz.func35
def fJ:=bT.S
def B6T:G0 A60 fJ:=jZ.flat
def A5r:FD A8:=⟨px 0X113022f48860291a9642306818a15f488581c6711624ff18001630381a9103537e4881856e4227c4886069434378178488491c421248f113ff6011c2801a3f2c3ef3a0049164330426e549491703b18f181194e05325848860195964230415c54a4881850224848860194964230404c53a4882a1c50229f248861c51b011307818b177b166b152b145b134b123b112b10181b1811f5d51b41192011ef3003848862c101c3b471100722410321e1b0239421af400103283191c3194203111c4c03a353182,[.c (.i .u8 101),.c (.i .u8 115),.c (.i .u8 99),.c (.i .u8 104),.c (.i .u8 97),.c (.i .u8 116),.c (.i .u8 49)],[.b2s (.t 37)],[.cellN 2 256,.tmp 3],[D7 fJ jZ,cal D1w,cal C7S,cal D0d,cal D0c,cal B8u,cal D1u]⟩
def B2q:=A5r.R
def C4L:=mR B2q A5r (tT []) n [a0] h
def B14:=A5r.K Tryz.func65
def A5W:=A5r.S
def C0Y:G0 B2q A5W:=B14.flat
def A5q:FD A8:=⟨px 0X113022f367834a1c302016d3027e3602a3b3711622401b18190784e7a488783c5c488783c0110324c3a0718922007239f138f248861c71b1182806382c2ff2d001334832e1c18291f31c20132cf23612a065a012411181032a3b3e1195903234848818194903233c4881f1c71191d2531ef11df4011a280181d2c1cf1904910313496903032a4881a1c181942112a4c03a353182,[],[.eqA A5 (E55 256 (.i .u8)) (.t 29) (.t 30)],[.cellN 2 3,.tmp 3],[cal B8u,cal D0b,cal D1v,D7 A5W B14]⟩
def B2p:=A5q.R
def C4K:=mR B2p A5q (tT []) n [a0] h
def B13:=A5q.K Tryz.func26
def A5V:=A5q.S
def C0X:G0 B2p A5V:=B13.flat
end
section
variable (n m m2:Nat) (a0 a1 x3 x6 x7:Val) (h:A9)
def A9g:FD A8:=⟨px 0X15001042100102,[],[],[.tmp 0],[]⟩
def C4w:=A9g.R
def C7I:=mR C4w A9g (tT []) n [] h
def A3H:=A9g.K Tryz.func33
def sX:=A9g.S
def C3E:G0 C4w sX:=A3H.flat
def B4n:FD A8:=⟨px 0X15f20102201034318400523103a2342,[],[],[.tmp 2],[D7 fJ jZ]⟩
def C0i:=B4n.R
def C94:=mR C0i B4n (tT []) n [a0] h
def B4q:=B4n.K Tryz.func66
def A77:=B4n.S
def C4U:G0 C0i A77:=B4q.flat
def A2W:FD A8:=⟨px 0X11bf1118f204901a204128550020175c6019030111120265001a22403f0103631831d4203111103a3342,[],[],[.tmp 2,.tmp 3],[D7 A77 B4q,D7 sX A3H]⟩
def A9D:=A2W.R
def C3m:=mR A9D A2W (tT []) n [a0] h
def vP:=A2W.K Tryz.func30
def pH:=A2W.S
def B8n:G0 A9D pH:=vP.flat
def A5n:FD A8:=⟨px 0X11cf2004021e11e1a044006219f118f301182806182c7f5001031a361c719701921103a2342,[],[],[.tmp 2],[D7 pH vP]⟩
def B2e:=A5n.R
def C4v:=mR B2e A5n (tT []) n [a0] h
def A5z:=A5n.K Tryz.func71
def uB:=A5n.S
def C0H:G0 B2e uB:=A5z.flat
def A0b:FD A8:=⟨px 0X11ff20381f02500001721ef7051e01e492181df300613901011113e1e11e1a051819f4041218421503070243134012129420060511010318351c31f1d18201314a174214a03a2342,[],[],[.tmp 2],[D7 uB A5z]⟩
def C4x:=A0b.R
def C2N:AtH:=A0b.lj 0 n [m] [x3,x6,x7]
def C45:=tT [⟨2,3,C2N⟩]
def C7J:=mR C4x A0b C45 n [a0] h
def B3B:=mL A0b C45 0 n [m] [x3,x6,x7] h
def A9k:=A0b.K Tryz.func36
def A4k:=A0b.S
def C4T:A3T C4x A4k:=A9k.out
def vI:FD A8:=⟨px 0X128f40301a1906192f1a02f1e12e2f1f2e2f701306195041f1a1e1f701010363181d00062340422e253182,[],[],[.tmp 4],[D7 A77 B4q]⟩
def A32:=vI.R
def B7Y:=mR A32 vI (tT []) n [a0,a1] h
def B1S:=vI.K Tryz.func67
def A4j:=vI.S
def B5e:G0 A32 A4j:=B1S.flat
def A2X:FD A8:=⟨px 0X11b139f12ef4049018250725c1018024901a250724c12e2a01b4618001e229f128f701182806282c1ff1d001133831e1c71f300001b201311114031c1e2800001f22403f042032a11e3191c43942033111140422e453182,[],[],[.tmp 4,.tmp 5,.tmp 6],[D7 A4j B1S,D7 pH vP]⟩
def A9E:=A2X.R
def C3n:=mR A9E A2X (tT []) n [a0,a1] h
def A9l:=A2X.K Tryz.func31
def A29:=A2X.S
def B8o:G0 A9E A29:=A9l.flat
def A0U:FD A8:=⟨px 0X12af40301a190613b1a03b1e03a3b1f3a3b701301a190641f1a0111f2f1e31f3c1e1f701010363181f00062340422e253182,[],[],[.tmp 4],[D7 A77 B4q,D7 uB A5z]⟩
def A6O:=A0U.R
def C0h:=mR A6O A0U (tT []) n [a0,a1] h
def Z2:=A0U.K Tryz.func54
def W4:=A0U.S
def B6F:G0 A6O W4:=Z2.flat
end
def P7(b n:Int):Bool:=decide (16<=b)&&decide (b<=512)&&decide (8<=n)&&decide (n<=128)&&decide (n%8=0)&&decide (2+n/8<b)
def I1:P7 b n=A5↔16<=b/\b<=512/\8<=n/\n<=128/\n%8=0/\2+n/8<b:=by
 unfold P7;simp [and_assoc]
def A0B:P7 b n=A6↔¬ (16<=b/\b<=512/\8<=n/\n<=128/\n%8=0/\2+n/8<b):=by
 rw [<-I1];simp
abbrev K9(b n m:Int):List Cell:=[cI b,cI n,.i .u64 m]
def cY:fJ [.a (K9 b n m)] h=A4 (iV (bif P7 b n then 0 else 1),h):=by
 have key:∀ g,∃ g',A60 0 [.a (K9 b n m)] g=A4 (iV (bif P7 b n then 0 else 1),g'):=by
  intro g;rw [C0z];have bad:P7 b n=A6->(A4 (iV 1,g++[rT (K9 b n m)]))=A4 (iV (bif P7 b n then 0 else 1),g++[rT (K9 b n m)]):=λh=>by rw [h];rfl
  by_cases c1:b<16
  ·rw [A0B.2 (by omega)];exact ⟨_,by simp only [esc,esh,c1,X4]<;>rfl⟩
  ·by_cases c2:512<b
   ·rw [A0B.2 (by omega)];exact ⟨_,by simp only [esc,esh,c1,c2,X4]<;>rfl⟩
   ·by_cases c3:n<8
    ·rw [A0B.2 (by omega)];exact ⟨_,by simp only [esc,esh,c1,c2,c3,X4,fE]<;>rfl⟩
    ·by_cases c4:128<n
     ·rw [A0B.2 (by omega)];exact ⟨_,by simp only [esc,esh,c1,c2,c3,c4,X4,fE]<;>rfl⟩
     ·have e1:=D3o (a:=n) (b:=8) (k:=.i64) (by omega) (by omega);by_cases c5:n%8=0
      ·have e2:=B0F (a:=n) (b:=8) (by omega) (by omega) (by omega);have e3:E6a .i64 (2+n/8)=2+n/8:=wrap_i64 (by omega) (by omega);by_cases c6:b<=2+n/8
       ·rw [A0B.2 (by omega)];exact ⟨_,by simp only [esc,esh,c1,c2,c3,c4,e1,c5,e2,e3,c6,X4,fE]<;>rfl⟩
       ·rw [I1.2 (by omega)];exact ⟨_,by simp only [esc,esh,c1,c2,c3,c4,e1,c5,e2,e3,c6,X4,fE]<;>rfl⟩
      ·rw [A0B.2 (by omega)];exact ⟨_,by simp only [esc,esh,c1,c2,c3,c4,e1,c5,X4,fE]<;>rfl⟩
 obtain ⟨g',e⟩:=key (ro h);exact B6T e (by simp)
def oF:A77 [.a (K9 b n m)] h=A4 (bV (P7 b n),h):=by
 have key:∀ g,∃ g',C0i 0 [.a (K9 b n m)] g=A4 (bV (P7 b n),g'):=by
  intro g;rw [C94];cases c:P7 b n with
  | true=>exact ⟨_,by simp only [esc,esh,Nat.reduceAdd,cY,c]<;>rfl⟩
  | false=>exact ⟨_,by simp only [esc,esh,Nat.reduceAdd,cY,c,Int.reduceEq]<;>rfl⟩
 obtain ⟨g',e⟩:=key (ro h);exact C4U e (by simp)
def uM:sX [] h=A4 (iV 1,h) :=
 C3E (n:=0) (h2:=ro h) (by rw [C7I]) rfl
def bH(b n:Int):Int:=bif P7 b n then 2 else 0
def mP(b n:Int):Int:=bif P7 b n then n/8 else 0
def bD(b n:Int):Int:=bH b n+mP b n
def A1b:pH [.a (K9 b n m)] h=A4 (.t [.c (cI (bH b n)),.c (cI (mP b n))],h):=by
 have key:∀ g,∃ g',A9D 0 [.a (K9 b n m)] g=A4 (.t [.c (cI (bH b n)),.c (cI (mP b n))],g'):=by
  intro g;rw [C3m];unfold bH mP;cases c:P7 b n with
  | true =>
   have c':=I1.1 c;have e2:=B0F (a:=n) (b:=8) (by omega) (by omega) (by omega);have e3:E6a .i64 (1+1)=2:=wrap_i64 (by omega) (by omega);exact ⟨_,by simp only [esc,esh,Nat.reduceAdd,oF,c,uM,e2,e3]<;>rfl⟩
  | false=>exact ⟨_,by simp only [esc,esh,Nat.reduceAdd,oF,c]<;>rfl⟩
 obtain ⟨g',e⟩:=key (ro h);exact B8n e (by simp)
def oA:0<=bD b n/\bD b n<=18:=by
 unfold bD bH mP;cases c:P7 b n with
 | true=>have:=I1.1 c;simp only [cond_true];omega
 | false=>simp only [cond_false];omega
def A3k:uB [.a (K9 b n m)] h=A4 (iV (bD b n),h):=by
 have key:∀ g,∃ g',B2e 0 [.a (K9 b n m)] g=A4 (iV (bD b n),g'):=by
  intro g;rw [C4v];have hr:=oA (b:=b) (n:=n);have e3:E6a .i64 (bH b n+mP b n)=bD b n:=wrap_i64 (by unfold bD at hr;omega) (by unfold bD at hr;omega);exact ⟨_,by simp only [esc,esh,Nat.reduceAdd,A1b,e3]<;>rfl⟩
 obtain ⟨g',e⟩:=key (ro h);exact C0H e (by simp)
def Q9(b n i:Int):Bool:=P7 b n&&decide (1<=i)&&decide (i<=n)
def G5(b n i:Int):Bool:=P7 b n&&decide (bD b n<=i)&&decide (i<b)
def B08:A4j [.a (K9 b n m),iV i] h=A4 (bV (Q9 b n i),h):=by
 have key:∀ g,∃ g',A32 0 [.a (K9 b n m),iV i] g=A4 (bV (Q9 b n i),g'):=by
  intro g;rw [B7Y];unfold Q9;cases c:P7 b n with
  | true =>
   by_cases c1:1<=i
   ·exact ⟨_,by simp only [esc,esh,Nat.reduceAdd,oF,c,c1]<;>rfl⟩
   ·exact ⟨_,by simp only [esc,esh,Nat.reduceAdd,oF,c,c1]<;>rfl⟩
  | false=>exact ⟨_,by simp only [esc,esh,Nat.reduceAdd,oF,c]<;>rfl⟩
 obtain ⟨g',e⟩:=key (ro h);exact B5e e (by simp)
def X3:W4 [.a (K9 b n m),iV i] h=A4 (bV (G5 b n i),h):=by
 have key:∀ g,∃ g',A6O 0 [.a (K9 b n m),iV i] g=A4 (bV (G5 b n i),g'):=by
  intro g;rw [C0h];unfold G5;cases c:P7 b n with
  | true =>
   by_cases c1:bD b n<=i
   ·exact ⟨_,by simp only [esc,esh,Nat.reduceAdd,oF,A3k,c,c1]<;>rfl⟩
   ·exact ⟨_,by simp only [esc,esh,Nat.reduceAdd,oF,A3k,c,c1]<;>rfl⟩
  | false=>exact ⟨_,by simp only [esc,esh,Nat.reduceAdd,oF,c]<;>rfl⟩
 obtain ⟨g',e⟩:=key (ro h);exact B6F e (by simp)
def aQ(b n i:Int):Int:=bif Q9 b n i then 2+(i-1)/8 else 0
def jK(b n i:Int):Int:=bif Q9 b n i then (i-1)%8 else 0
def O1:Q9 b n i=A5↔P7 b n=A5/\1<=i/\i<=n:=by
 unfold Q9;simp [and_assoc]
def uP:G5 b n i=A5↔P7 b n=A5/\bD b n<=i/\i<b:=by
 unfold G5;simp [and_assoc]
def A7z:A29 [.a (K9 b n m),iV i] h=A4 (.t [.c (cI (aQ b n i)),.c (cI (jK b n i)),.c (.b (Q9 b n i))],h):=by
 have key:∀ g,∃ g',A9E 0 [.a (K9 b n m),iV i] g=A4 (.t [.c (cI (aQ b n i)),.c (cI (jK b n i)),.c (.b (Q9 b n i))],g'):=by
  intro g;rw [C3n];unfold aQ jK;cases c:Q9 b n i with
  | true =>
   obtain ⟨c1,c2,c3⟩:=O1.1 c;have c':=I1.1 c1;have e0:bH b n=2:=by unfold bH;rw [c1];rfl
   have e1:E6a .i64 (i-1)=i-1:=wrap_i64 (by omega) (by omega);have e2:=B0F (a:=i-1) (b:=8) (by omega) (by omega) (by omega);have e3:E6a .i64 (2+(i-1)/8)=2+(i-1)/8:=wrap_i64 (by omega) (by omega);have e4:=D3o (a:=i-1) (b:=8) (k:=.i64) (by omega) (by omega);exact ⟨_,by simp only [esc,esh,Nat.reduceAdd,B08,c,A1b,e0,e1,e2,e3,e4]<;>rfl⟩
  | false=>exact ⟨_,by simp only [esc,esh,Nat.reduceAdd,B08,c]<;>rfl⟩
 obtain ⟨g',e⟩:=key (ro h);exact B8o e (by simp)
def C1U:0<=bH b n/\bH b n<=2/\0<=mP b n/\mP b n<=16:=by
 unfold bH mP;cases c:P7 b n with
 | true=>have:=I1.1 c;simp only [cond_true];omega
 | false=>simp only [cond_false];omega
def upto(d:Nat):List Int:=(E6z d).map λ(i:Nat)=>(i:Int)
def upto_length{d:Nat}:(upto d).length=d:=by simp [upto]
def upto_succ{d:Nat}:upto (d+1)=upto d++[(d:Int)]:=by simp [upto,List.range_succ]
def B54{g:A9}{D k:Nat}(hD:D<=18):∀ d i m h id,i+d=D->d<m->Low (l_ g) g h->l_ g<=id->rd h id=rT (encI (upto i)) ->
  ∃ v' h',C2N k m (sV id 0 i 1) (iV D) (iV i) h=A4 (v',h')/\Out (l_ g) h' v' 1 D (encI (upto D))
 | d,i,0,h,id,_,hm,_,_,_=>by omega
 | 0,i,m+1,h,id,hi,hm,hlow,hb,hr=>by
  have e:i=D:=by omega
  subst e;have h1':¬ (i:Int)<i:=by omega
  rw [B3B];exact ⟨_,_,by simp only [esc,h1']<;>rfl,by rw [C1,upto_length];omega,id,rfl,hb,hr⟩
 | d+1,i,m+1,h,id,hi,hm,hlow,hb,hr=>by
  obtain ⟨h',a1,a2,a3,a4,a5⟩:=push (ys:=[cI (i:Int)]) (sz:=1) (n:=i) hlow hr (by rw [C1,upto_length];omega) hb rfl (by omega) (by omega);have e4:encI (upto i)++[cI (i:Int)]=encI (upto (i+1)):=by rw [upto_succ,iN];rfl
  rw [e4] at a2;obtain ⟨v',h'',b1,b2⟩:=B54 (k:=k) hD d (i+1) m h' (l_ h+1) (by omega) (by omega) a3 a4 a2;have h1':(i:Int)<D:=by omega
  have e5:F5 [o0] [(0,1,iV (i:Int))]=A4 [cI (i:Int)]:=rfl;rw [B3B];exact ⟨v',h'',by simp only [esc,h1',e5,a1,D9 (a:=i) (by omega)];exact b1,b2⟩
def B3A:A4k [.a (K9 b n m)] h=A4 (sV (l_ h) 0 (bD b n).toNat 1,h++[rT (encI (upto (bD b n).toNat))]):=by
 have hr:=oA (b:=b) (n:=n);obtain ⟨v',h',e,ho⟩:=B54 (g:=ro h) (D:=(bD b n).toNat) (k:=(bD b n).toNat+1) (by omega) (bD b n).toNat 0 ((bD b n).toNat+1) (ro h++[rT (K9 b n m),rT [],rT []]) ((ro h).length+2) (by omega) (by omega) ((Low.refl (E56 _)).new _) (by omega) (by simp;rfl);refine C4T (n:=(bD b n).toNat+1) (v:=v') (h2:=h') ?_ (by simpa [H6] using ho) (by simp);rw [C7J];rw [show (((bD b n).toNat:Nat):Int)=bD b n by omega] at e;simp only [esc,esh,Nat.reduceAdd,A3k];exact e
def B5T(b n no:Int):Int:=if P7 b n=A5/\0<=no/\no<b then (if no<2 then no+1 else if (no-2)*8<n then 3 else 4) else 0
def D8G{id off len sz:Nat}{cs:List Cell}(hr:rd h id=rT cs)(hn:0<len):B03 h (sV id off len sz)=A4 (sV id off len sz):=by
 simp [B03,hr,hn]
def magicB:List UInt8:=[101,115,99,104,101,97,116,49]
def A7H(b n m:Int):List UInt8:=magicB++D4 2 b++D4 2 n++D4 8 m
def vC(b n m:Int):List UInt8:=R0 256 (A7H b n m++D4 4 (C3W (A7H b n m):Nat))
def cA:(A7H b n m).length=20:=by simp [A7H,magicB]
def bZ:(vC b n m).length=256:=I3 (by rw [E58,cA,R2];omega)
def D9U{xs:List UInt8}{a:Nat}(h1:l_ l<=a)(h2:a+l_ xs<=256)(h3:a<256):B0y (R0 256 l) a xs=R0 256 (l++zeros (a-l_ l)++xs):=by
 unfold B0y;rw [if_pos (by omega)];simp only [E6q];rw [E6l (by omega),D3b h1 h2]
def B9V(hm0:0<=m)(hm1:m<18446744073709551616):
  A5W [.a (K9 b n m)] h=A4 (.t [.a (B5 (bif P7 b n then vC b n m else zeros 256)),.c (cI (bif P7 b n then 0 else 1))],h):=by
 have key:∀ g,∃ g',B2q 0 [.a (K9 b n m)] g=A4 (.t [.a (B5 (bif P7 b n then vC b n m else zeros 256)),.c (cI (bif P7 b n then 0 else 1))],g'):=by
  intro g;have hz:(B5 (zeros 256)).length=256:=by rw [B6];exact zeros_length
  have haf:F5 (E55 256 (Cell.i .u8 0)) []=A4 (E55 256 (Cell.i .u8 0)):=rfl;rw [J3] at haf;rw [C4L,J3];cases c:P7 b n with
  | false =>
   simp only [cond_false];generalize zeros 256=z at *;exact ⟨_,by simp only [esc,esh,Nat.reduceAdd,cY,c,haf,hz,Int.reduceEq]<;>rfl⟩
  | true =>
   simp only [cond_true];have e7:F5 [Cell.i .u8 0,.i .u8 0,.i .u8 0,.i .u8 0,.i .u8 0,.i .u8 0,.i .u8 0,.i .u8 0] [(0,1,.c (.i .u8 101)),(1,1,.c (.i .u8 115)),(2,1,.c (.i .u8 99)),(3,1,.c (.i .u8 104)),(4,1,.c (.i .u8 101)),(5,1,.c (.i .u8 97)),(6,1,.c (.i .u8 116)),(7,1,.c (.i .u8 49))]=A4 (B5 magicB):=rfl;have hmk:=D8G (h:=g++[rT (K9 b n m),rT (B5 (zeros 256)),rT (B5 magicB)]) (id:=l_ g+2) (off:=0) (len:=8) (sz:=1) (cs:=B5 magicB) (by simp) (by omega);have ho:=B4R (h:=g++[rT (K9 b n m),rT (B5 (zeros 256)),rT (B5 magicB)]) (v:=sV (l_ g+2) 0 8 1) (nv:=8) (data:=magicB) (Has.tr (by simp) (by simp [B6,magicB]) (W1 _)) (by decide);rw [D03 (by decide)] at ho;have lm:magicB.length=8:=rfl;have w1:=λh=>aK (h:=h) (l:=R0 256 magicB) (I3 (by decide)) (a:=8) (w:=2) (v:=b)
   have e1:=kF (l:=magicB) (a:=8) (w:=2) (v:=b) (by decide) (by omega) (by omega) (by omega);simp only [lm,E67,show zeros 0=[] from rfl,E6k,E7d] at e1;simp only [e1] at w1;have l1:(magicB++D4 2 b).length=10:=by simp [lm]
   have w2:=λh=>aK (h:=h) (l:=R0 256 (magicB++D4 2 b)) (I3 (by omega)) (a:=10) (w:=2) (v:=n)
   have e2:=kF (l:=magicB++D4 2 b) (a:=10) (w:=2) (v:=n) (by omega) (by omega) (by omega) (by omega);simp only [l1,E67,show zeros 0=[] from rfl,E6k,E7d] at e2;simp only [e2] at w2;have l2:(magicB++D4 2 b++D4 2 n).length=12:=by simp [lm]
   have L0:(B5 (R0 256 magicB)).length=256:=by rw [B6,I3 (by decide)]
   have L1:(B5 (R0 256 (magicB++D4 2 b))).length=256:=by rw [B6,I3 (by omega)]
   have L2:(B5 (R0 256 (magicB++D4 2 b++D4 2 n))).length=256:=by rw [B6,I3 (by omega)]
   have L3:(B5 (R0 256 (A7H b n m))).length=256:=by rw [B6,I3 (by rw [cA];omega)]
   have L4:(B5 (vC b n m)).length=256:=by rw [B6,bZ]
   have mk8:C3M (iV 8) (iV 8)=A4 8:=rfl;have hp:=D41 (h:=g++[rT (K9 b n m),rT (B5 (zeros 256)),rT (B5 magicB),rT (B5 (R0 256 (magicB++D4 2 b++D4 2 n))),rT (B5 (zeros 8))]) (x:=sV (l_ g+4) 0 8 1) (nv:=8) (l:=zeros 8) (a:=0) (w:=8) (v:=m) (Has.tr (by simp) (by simp [B6]) (W1 _)) (by simp);have ep:C30 (zeros 8) 0 8 m=A4 (D4 8 m):=by
    unfold C30;rw [if_pos ⟨by omega,by decide⟩];unfold H5;simp [zeros]
   rw [ep] at hp;simp only [Option.getD_some,E6G,R2] at hp;have hl:=B0A (h:=g++[rT (K9 b n m),rT (B5 (zeros 256)),rT (B5 magicB),rT (B5 (R0 256 (magicB++D4 2 b++D4 2 n))),rT (B5 (zeros 8)),rT (B5 (D4 8 m))]) (v:=sV (l_ g+5) 0 8 1) (nv:=8) (data:=D4 8 m) (l:=R0 256 (magicB++D4 2 b++D4 2 n)) (a:=12) (Has.tr (by simp) (by simp [B6]) (W1 _)) (I3 (by omega)) (by simp);have e3:=D9U (l:=magicB++D4 2 b++D4 2 n) (xs:=D4 8 m) (a:=12) (by omega) (by simp) (by omega);simp only [l2,E67,show zeros 0=[] from rfl,E6k,E7d] at e3;rw [e3] at hl;have hc:=λh=>B0z (h:=h) (l:=R0 256 (A7H b n m)) (I3 (by rw [cA];omega)) (a:=0) (n:=20)
   have e4:B1L (R0 256 (A7H b n m)) 0 20=A7H b n m:=by
    unfold B1L R0;rw [if_pos (by omega)];simp only [Int.toNat_zero,E6i];exact List.take_left' cA
   simp only [e4,cA] at hc;have E5w:=(Has.tr (h:=g++[rT (K9 b n m),rT (B5 (zeros 256)),rT (B5 magicB),rT (B5 (R0 256 (A7H b n m))),rT (B5 (zeros 8)),rT (B5 (D4 8 m)),rT (B5 (A7H b n m))]) (id:=l_ g+6) (sz:=1) (n:=20) (cs:=B5 (A7H b n m)) (by simp) (by rw [B6,cA]) (W1 _)).str;have hmx:=λh=>C1B (s:=A7H b n m) (h:=h) (by rw [cA];omega)
   have E5Z:=D0S (s:=A7H b n m);have e5:E6a .i64 ((C3W (A7H b n m):Nat):Int)=(C3W (A7H b n m):Nat):=wrap_i64 (by omega) (by omega);have w3:=λh=>aK (h:=h) (l:=R0 256 (A7H b n m)) (I3 (by rw [cA];omega)) (a:=20) (w:=4) (v:=(C3W (A7H b n m):Nat))
   have e6:=kF (l:=A7H b n m) (a:=20) (w:=4) (v:=(C3W (A7H b n m):Nat)) (by rw [cA];omega) (by omega) (by omega) (by omega);simp only [cA,E67,show zeros 0=[] from rfl,E6k,E7d] at e6;simp only [e6] at w3;have eS:magicB++D4 2 b++D4 2 n++D4 8 m=A7H b n m:=rfl;rw [eS] at hl;have rz:=C1P 8;change ∀ h,sZ [_,_,_,_] h=A4 (.a (B5 (vC b n m)),h) at w3;generalize vC b n m=SB at *;generalize R0 256 magicB=P0 at *;generalize R0 256 (magicB++D4 2 b)=P1 at *;generalize R0 256 (magicB++D4 2 b++D4 2 n)=P2 at *;generalize R0 256 (A7H b n m)=P3 at *;simp only [esc] at hp;generalize zeros 256=z at *;generalize zeros 8=z8 at *;exact ⟨_,by simp only [esc,esh,Nat.reduceAdd,cY,c,e7,hmk,ho,hz,L0,w1,L1,w2,L2,mk8,rz,hp,hl,L3,hc,E5w,hmx,e5,w3,L4]<;>rfl⟩
 obtain ⟨g',e⟩:=key (ro h);exact C0Y e (by simp)
def D1L{b:List UInt8}{a w:Nat}(hb:l_ b=256)(h1:a+w<=256)(hw:1<=w)(hw4:w<=4):((atN b a w:Nat):Int)=fieldN b a w:=by
 unfold atN fieldN;rw [if_pos ⟨by omega,Y1.2 (by omega)⟩];simp only [E6q]
def D9A{b:List UInt8}(hb:l_ b=256):D9z (B1L b 12 8) 0 8=A4 (le ((b.drop 12).take 8)):=by
 have hc:B1L b 12 8=(b.drop 12).take 8:=by
  unfold B1L;rw [if_pos (by omega)];rfl
 have hl:((b.drop 12).take 8).length=8:=by simp;omega
 unfold D9z;rw [hc,hl,if_pos ⟨by omega,by decide⟩];simp only [Int.toNat_zero,E6i];rw [E6l (by rw [hl];decide)]
def okS(b:List UInt8):Bool:=P7 (fieldN b 8 2) (fieldN b 10 2)&&decide (vC (fieldN b 8 2) (fieldN b 10 2) (fieldN b 12 8)=b)
def D0K(b:List UInt8):List Cell:=bif okS b then K9 (fieldN b 8 2) (fieldN b 10 2) (fieldN b 12 8) else K9 0 0 0
def B8W(b:List UInt8):0<=fieldN b 12 8/\fieldN b 12 8<18446744073709551616:=by
 unfold fieldN;have h1:=D2I ((b.drop 12).take 8);have h2:((b.drop 12).take 8).length<=8:=by simp;omega
 have h3:=B4U h2;have h4:(256:Nat) ^ 8=18446744073709551616:=by decide
 omega
def B0N{b:List UInt8}(hb:l_ b=256):A5V [.a (B5 b)] h=A4 (.t [.a (D0K b),.c (cI (bif okS b then 0 else 13))],h):=by
 have key:∀ g,∃ g',B2p 0 [.a (B5 b)] g=A4 (.t [.a (D0K b),.c (cI (bif okS b then 0 else 13))],g'):=by
  intro g;have hl:(B5 b).length=256:=by rw [B6,hb]
  have hc:=B0z (h:=g++[rT (B5 b),rT (K9 0 0 0)]) hb (a:=12) (n:=8);have oG:(B1L b 12 8).length=8:=by unfold B1L;rw [if_pos (by omega)];simp;omega
  rw [oG] at hc;have hg:=D4Z (h:=g++[rT (B5 b),rT (K9 0 0 0),rT (B5 (B1L b 12 8))]) (v:=sV (l_ g+2) 0 8 1) (nv:=8) (l:=B1L b 12 8) (Has.tr (by simp) (by rw [B6,oG]) (W1 _)) (a:=0) (w:=8) (by rw [oG];omega);rw [D9A hb] at hg;simp only [Option.getD_some,E6G] at hg;have a1:=λh=>pQ (h:=h) hb (a:=8) (w:=2)
  have a2:=λh=>pQ (h:=h) hb (a:=10) (w:=2)
  have f1:=D1L (a:=8) (w:=2) hb (by omega) (by omega) (by omega);have f2:=D1L (a:=10) (w:=2) hb (by omega) (by omega) (by omega);simp only [E7d] at f1 f2;simp only [f1] at a1;simp only [f2] at a2;have e12:((le ((b.drop 12).take 8):Nat):Int)=fieldN b 12 8:=rfl;rw [e12] at hg;have ef:∀ x y z:Int,F5 (K9 0 0 0) [(0,1,iV x),(1,1,iV y),(2,1,.c (.i .u64 z))]=A4 (K9 x y z):=λ_ _ _=>rfl
  have ef0:F5 (K9 0 0 0) []=A4 (K9 0 0 0):=rfl;have hp:=λh=>B9V (b:=fieldN b 8 2) (n:=fieldN b 10 2) (m:=fieldN b 12 8) (h:=h) (B8W b).1 (B8W b).2
  have hz:(E55 256 (Cell.i .u8 0)).length=256:=E6y;have hS:(B5 (vC (fieldN b 8 2) (fieldN b 10 2) (fieldN b 12 8))).length=256:=by rw [B6,bZ]
  have hZ:(B5 (zeros 256)).length=256:=by rw [B6];exact zeros_length
  have hq:=C8G (l:=vC (fieldN b 8 2) (fieldN b 10 2) (fieldN b 12 8)) (m:=b) (n:=256) bZ hb;simp only [esc] at hc;rw [C4K];unfold D0K okS;generalize E55 256 (Cell.i .u8 0)=z at *;cases c:P7 (fieldN b 8 2) (fieldN b 10 2) with
  | false =>
   simp only [c,cond_false] at hp;generalize zeros 256=zz at *;exact ⟨_,by simp only [esc,esh,Nat.reduceAdd,hl,hc,hg,a1,a2,ef,ef0,hp,hz,hZ,E6p,Int.reduceEq]<;>rfl⟩
  | true =>
   simp only [c,cond_true] at hp;cases c2:decide (vC (fieldN b 8 2) (fieldN b 10 2) (fieldN b 12 8)=b) with
   | false =>
    rw [c2] at hq;exact ⟨_,by simp only [esc,esh,Nat.reduceAdd,hl,hc,hg,a1,a2,ef,ef0,hp,hz,hS,hq,Bool.and_false]<;>rfl⟩
   | true =>
    rw [c2] at hq;exact ⟨_,by simp only [esc,esh,Nat.reduceAdd,hl,hc,hg,a1,a2,ef,ef0,hp,hz,hS,hq]<;>rfl⟩
 obtain ⟨g',e⟩:=key (ro h);refine C0X e ?_;unfold D0K;cases okS b<;>simp
section
variable (n m m2:Nat) (a0 a1 a2 x2 x3 x6 x7 x8:Val) (h:A9)
def A0R:FD A8:=⟨px 0X11b128f11cf2003b1b2058490182714901a271b0190201312b112031c75001e22401b61928889041e1a71e70110127162d4203312b11203042,[.c (.i .u8 0),.c (.i .u8 1)],[],[.tmp 2,.tmp 3,.tmp 4],[]⟩
def B5G:=A0R.R
def C0b:=mR B5G A0R (tT []) n [a0] h
def B5s:=A0R.K Tryz.func121
def A66:=A0R.S
def B6A:G0 B5G A66:=B5s.flat
def oU:FD A8:=⟨px 0X126e48867c488491c21110132022a1a4c14882d042822e10403c14882d2a280718022a1a7a14882d041d25c10406a14882d583b0718243af390683a026b406202438f2e003f3c2f035d2452820522201301a1ff11ef11df7021a2811828061d2c1cf1a001032c1b0192b291f01d21c61b632e21d753282,[],[],[.cellN 6 256],[D7 A66 B5s]⟩
def A9u:=oU.R
def C7Y:AtH:=oU.lj 0 n [] [x3,x6]
def B8A:=tT [⟨1,2,C7Y⟩]
def C3e:=mR A9u oU B8A n [a0,a1,a2] h
def C1d:=mJ oU B8A 0 n [] [x3,x6] h
def B7K:=oU.K Tryz.func70
def A9R:=oU.S
def B8f:G0 A9u A9R:=B7K.flat
def oT:FD A8:=⟨px 0X123c48863a488281c2111112321ff18051e0221822e48861b043032812a4881c1c4181bf500441811d31842150307024513401212b4200605110297603291f1d1c20131c4c17421c21b150182,[],[],[.cellN 2 256],[D7 A9R B7K]⟩
def A9t:=oT.R
def B5W:AtH:=oT.lj 0 n [m] [x2,x3,x6,x7,x8]
def B8z:=tT [⟨2,5,B5W⟩]
def C3d:=mR A9t oT B8z n [a0] h
def A8t:=mL oT B8z 0 n [m] [x2,x3,x6,x7,x8] h
def A24:=oT.K Tryz.func34
def pD:=oT.S
def B8e:G0 A9t pD:=A24.flat
end
section
variable (n m m2:Nat) (a0 x1 x2 x3 x4 x6 x7 x8 x17 x33 x34 x44 x45:Val) (h:A9)
def A0Z:FD A8:=⟨px 0X118f20306197ffffd0191b1a71b701104261700523201042,[],[],[.tmp 2],[]⟩
def B5I:=A0Z.R
def C0r:=mR B5I A0Z (tT []) n [a0] h
def B5A:=A0Z.K Tryz.func169
def A7e:=A0Z.S
def B6P:G0 B5I A7e:=B5A.flat
def dQ:FD A8:=⟨px 0X124a76487182112022a393e172d041a3e282b4222202321ff18051e02218022a42e172d281281c04181bf11af4061867a414181a1821503070245133901212b420060511061841a62b3291f18203394c1742394c03a253182,[],[],[.cellN 2 7],[]⟩
def A2b:=dQ.R
def A8T:AtH:=dQ.lj 0 n [m] [x1,x2,x3,x7,x8]
def B02:=tT [⟨2,5,A8T⟩]
def B6v:=mR A2b dQ B02 n [a0] h
def A2E:=mL dQ B02 0 n [m] [x1,x2,x3,x7,x8] h
def A17:=dQ.K Tryz.func109
def sQ:=dQ.S
def B2Q:G0 A2b sQ:=A17.flat
def jX:FD A8:=⟨px 0X11201026bf5d051c06b4921801520150000722403f01034f68031cd0525ff404677a219421503070242133d01211bd42006051101131f1b5b1c31bb1b9182013015201500622401b181949c8890519c1a019c1e21f19c1f0101b181910118a1a018a1e21f18a1f0101b1a1906e4d0106e2f06e1e36e6e1f0103f01030415c2f2b2c1ad422053015201500622401b2a1930183a7b04b4e03b4b6d4a1b4b3c03a71023a1a03a1e03a3a1f0101b18191905281a0281e028281f0110120401852b2a5d42031103a2342,[],[.eqA A5 ([.i .i64,.i .i64,.i .i64,.i .i64,.i .i64,.i .i64,.i .i64,.i .i64,.i .i64,.i .i64,.i .i64]) (.t 18) (.t 19)],[.tmp 2],[D7 A7e B5A,D7 sQ A17]⟩
def A6V:=jX.R
def B3Q:AtH:=jX.lj 0 n [m] [x44,x45]
def B5P:=tT [⟨2,2,B3Q⟩]
def C0p:=mR A6V jX B5P n [a0] h
def A6q:=mL jX B5P 0 n [m] [x44,x45] h
def B5y:=jX.K Tryz.func148
def A7c:=jX.S
def B6N:G0 A6V A7c:=B5y.flat
def iH:FD A8:=⟨px 0X113022f4864f486e1c3711111726df5d052802218022a184f1482d0406f14882d1a8119e6806185ff1904122b4235032702441328901211bd420162515d011bb78182222222335cf4a052c0221826f488601941a41318c105902019627f16f4884e1c7184df14cf7061877a4146e781821503070245133d012118f42006051101237e1b18318d18b18201326a48860194964130437855c4881850225a48860292964130426854c4881850224a48860191964130415853c4881850223a488605164130404852c488281c5021c61b11d19411d2011ff3003a4862c12c48184711101722410321e1c023b421bf5001032a1b1a1c31b42031d4c11942111d4c03a353182,[],[],[.cellN 2 32,.tmp 3],[D7 A7c B5y,D7 sZ A3K,D7 sQ A17]⟩
def B2k:=iH.R
def B9e:AtH:=iH.lj 0 n [m] [x2,x4,x6,x33,x34]
def B9f:AtH:=iH.lj 1 n [m] [x2,x4,x6,x45]
def B2Z:=tT [⟨2,5,B9e⟩,⟨2,4,B9f⟩]
def C4C:=mR B2k iH B2Z n [a0] h
def B1h:=mL iH B2Z 0 n [m] [x2,x4,x6,x33,x34] h
def B1i:=mL iH B2Z 1 n [m] [x2,x4,x6,x45] h
def B1W:=iH.K Tryz.func119
def A5R:=iH.S
def C0N:G0 B2k A5R:=B1W.flat
def tV:FD A8:=⟨px 0X127c1b6781b182112022a1a6e5191b903136c4883d1c42210323cf29052e02218422a1e0162d45c51901831305902019624a14c488183e2c019182bf504123a421503070244133901214d4200605129014b420328f21b613b045a0136121a111e1043b3b194903132e48818292903132a48818191903131e488185103131a488181c1a11919437f248861c31b0103067d470523b4c03a253182,[],[.slA 32 1 (.t 1) A7 A7],[.cellN 2 11],[D7 A79 B1Z,D7 A1x A7N]⟩
def B2j:=tV.R
def B9c:AtH:=tV.lj 0 n [m] [x2,x3,x4,x17]
def C2i:=tT [⟨2,4,B9c⟩]
def C4B:=mR B2j tV C2i n [a0] h
def B1g:=mL tV C2i 0 n [m] [x2,x3,x4,x17] h
def C15:=tV.K Tryz.func140
def B2P:=tV.S
def C0M:G0 B2j B2P:=C15.flat
def A0Y:FD A8:=⟨px 0X11b302581b64c1b2e1c3020133024e1b603b3b3711622401b18190484e4a48483c3848483c011032281e07592200721df11cf24861d51b11828061c2c1bf19001131c1b1a1c181d1b61c201318f21b63b41b01031c4871c41942313b4c03a353182,[],[.eqA A5 (E55 32 (.i .u8)) (.t 17) (.t 18)],[.cellN 2 11,.tmp 3],[D7 B2P C15,D7 A5R B1W]⟩
def A6W:=A0Y.R
def C0q:=mR A6W A0Y (tT []) n [a0] h
def B5z:=A0Y.K Tryz.func99
def A7d:=A0Y.S
def B6O:G0 A6W A7d:=B5z.flat
def vJ:FD A8:=⟨px 0X11cf20288901a25072288900271905020118b9201500622418f6049c88905277031d401921120120062245f305012740374205031201042,[],[],[.tmp 2],[]⟩
def B2i:=vJ.R
def B71:=mR B2i vJ (tT []) n [a0] h
def A3J:=vJ.K Tryz.func72
def wR:=vJ.S
def B5g:G0 B2i wR:=A3J.flat
end
section
variable (n m m2:Nat) (a0 a1 x2 x3 x4 x12 x13 x14:Val) (h:A9)
def A01:FD A8:=⟨px 0X1120102011920150522401b1c190654c1a0288974c1a4c4c704c1e04c4c1f0101b18191013a1a03a1e03a3a1f0101b6192889052a1a1e2a701501218702a694200236f30029041642b47421103a2342,[],[],[.tmp 2],[]⟩
def A6Y:=A01.R
def C0x:=mR A6Y A01 (tT []) n [a0] h
def B5C:=A01.K Tryz.func120
def A7g:=A01.S
def B6S:G0 A6Y A7g:=B5C.flat
def tY:FD A8:=⟨px 0X125c4886684883a1c2111110043239f1e052e02218022a45c14882d4a10402481040482b2b7182af128f500461a11d4152a2c182150307024613401213f42006051102904128543d3b3972825430121c488628488182100032241032010318271c32b42031c4c43a422e319751c2,[],[],[.cellN 4 256],[D7 A7g B5C]⟩
def B2n:=tY.R
def B9K:AtH:=tY.lj 0 n [m] [x2,x3,x4,x12,x13,x14]
def C2k:=tT [⟨2,6,B9K⟩]
def C4J:=mR B2n tY C2k n [a0,a1] h
def B1n:=mL tY C2k 0 n [m] [x2,x3,x4,x12,x13,x14] h
def B10:=tY.K Tryz.func69
def A5U:=tY.S
def C44:SOk A8 69 A5U:=B10.sok
def C0V:G0 B2n A5U:=B10.flat
end
section
variable (n m m2:Nat) (a0 a1 a2 x1 x2 x4 x5 x6 x14:Val) (h:A9)
def A03:FD A8:=⟨px 0X115026a26011181022d3b0413903800013e28906273801802012ff5004e2648102d3b44811101722410323a2c025b01823132bf12af24861d61b11828062a2c29f1f001033a1b281c181f1d111d201195022c2602d3b3281000722401b61949042c1a72c7011012718063b4203112d4c432e319701c2,[],[.slA 32 1 (.t 6) A7 A7],[.cellN 4 2,.tmp 5],[D7 A5R B1W]⟩
def A62:=A03.R
def C0B:=mR A62 A03 (tT []) n [a0,a1] h
def B5F:=A03.K Tryz.func68
def A7k:=A03.S
def B6V:C8F A62 A7k:=B5F.tidy
def A21:FD A8:=⟨px 0X11702484886042133a2184a4882c1c502012bf7003a48862c13e4881842c11101722410321e28024b01823131ff11ef2262d181b11a280181e2c1df1a0042031e1b182c1b0192b29101a2111c4c652e632e41d1b73282,[],[],[.cellN 6 256,.tmp 7],[D7 A7k B5F,cal C44]⟩
def A9J:=A21.R
def C3u:=mR A9J A21 (tT []) n [a0,a1,a2] h
def A9o:=A21.K Tryz.func32
def wS:=A21.S
def B8x:G0 A9J wS:=A9o.flat
def tZ:FD A8:=⟨px 0X125c4865a483a1c21110023239f1e052e02218022a1e4e1482d0405814882d04023c12890624a12e290191828f604122a4215030702451328901213f42006051113d531c228430122a486284818211001322401b61949042a1a2a2a70110121c7063942031d4c11b421d41b422e219531c2,[],[],[.cellN 4 32],[]⟩
def B2s:=tZ.R
def B9X:AtH:=tZ.lj 0 n [m] [x1,x2,x4,x5,x14]
def C2l:=tT [⟨2,5,B9X⟩]
def C4N:=mR B2s tZ C2l n [a0,a1] h
def B1r:=mL tZ C2l 0 n [m] [x1,x2,x4,x5,x14] h
def C17:=tZ.K Tryz.func100
def B2T:=tZ.S
def C00:G0 B2s B2T:=C17.flat
def A5s:FD A8:=⟨px 0X12af5003c1b6142800280113042033a12e4881d1c1802013502281b603b3b31c1000722401b6194904281a282870110121a162f4203313b41b422e319531c2,[],[],[.cellN 4 11,.tmp 5],[D7 B2T C17,D7 A7d B5z]⟩
def B2r:=A5s.R
def C4M:=mR B2r A5s (tT []) n [a0,a1] h
def B15:=A5s.K Tryz.func51
def A5X:=A5s.S
def C0Z:G0 B2r A5X:=B15.flat
def jY:FD A8:=⟨px 0X11b2010229f6052e0294921801320150000722403f2c1f02491521ef11df21b63b41b11a280181d2c1cf190042032812a4881a1c191b15218f304127421503070242134901211f420060516011d21820133103a2342,[],[],[.tmp 2],[D7 A5X B15]⟩
def A61:=jY.R
def B4g:AtH:=jY.lj 0 n [m] [x1,x6]
def B5Q:=tT [⟨2,2,B4g⟩]
def C0A:=mR A61 jY B5Q n [a0] h
def A6x:=mL jY B5Q 0 n [m] [x1,x6] h
def B5E:=jY.K Tryz.func84
def A7j:=jY.S
def B6U:G0 A61 A7j:=B5E.flat
end
end Go.Proofs.YtbipebfdappanaaGreat
