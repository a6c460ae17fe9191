/- What the proof of this claim leans on, part 6. -/
import Derived.Test.YtbnkgnfhgbhblaaGreatFClaimImagep5
set_option linter.all false
open Bool renaming and_eq_true→E42,and_false→E5Y,false_and→E48,not_eq_true'→E5O,or_eq_true→E5V,true_and→E5d
open Int renaming eq_ofNat_of_zero_le→E5I,toNat_natCast→E5j
open List renaming all_cons→E5J,all_eq_true→E5S,append_assoc→E45,append_nil→E5t,cons_append→E5x,drop_eq_getElem_cons→E46,drop_of_length_le→E5c,drop_zero→E5k,getD_eq_getElem?_getD→E47,getElem?_append_right→E5e,getElem?_cons_succ→E5N,getElem?_eq_getElem→E40,getElem?_eq_none→E5C,getElem_mem→E5F,length_append→E43,length_cons→E5a,length_nil→E5u,length_replicate→E5r,length_set→E5w,mem_cons_of_mem→E5m,mem_cons_self→E5n,mem_of_getElem?→E5s,mem_or_eq_of_mem_set→E5H,nil_append→E5g,range→E5v,range'→E5D,replicate→E41,set_cons_succ→E5M,take_of_length_le→E5b
open Nat renaming le_refl→E44,le_trans→E5E,zero_add→E5l
open Option renaming bind_some→E49,getD_none→E5Q,getD_some→E5G,isSome_none→E5o,isSome_some→E5h
namespace Go.Proofs.YtbnkgnfhgbhblaaGreat
open Go Go.Esc
def jE (o:V0) (x:List UInt8):Bool:=match o.getLast? with | none=>true | some y=>K9 y x
def gO (o:V0) (a:Option (List UInt8)) (x:List UInt8):Option (List UInt8) :=
 bif jE o x then (match a with | none=>some x | some y=>bif K9 x y then some x else some y) else a
def A3O (o:V0) (l:V0) (a:Option (List UInt8)):Option (List UInt8):=l.foldl (gO o) a
theorem B3b {v:Val} {nv q m id:Nat} {l o:V0} {h:A6} (hv:Has h v 1 nv (encS l)) (hn:l.length=nv) (h62:nv<1073741824) (hb:∀ x∈l,x.length<9223372036854775807) (hr:rd h id=rT (encS o)) (hol:o.length<9223372036854775808) (hob:∀ x∈o,x.length<9223372036854775807) :
  ∀ (e i m2:Nat) (a:Option (List UInt8)),i+e=nv->e<m2 ->
  B6U q m m2 v (sV id 0 o.length 1) (bV a.isSome) (.c (.s (a.getD []))) (iV i) h =
   match A3O o (l.drop i) a with
   | none=>some (sV id 0 o.length 1,h)
   | some y=>bnd (jK (h++[rT [.s y]]) 1 (sV id 0 o.length 1) (sV h.length 0 1 1)) λp=>A6r q m v p.1 p.2
 | e,i,0,a,_,hm=>by omega
 | 0,i,m2+1,a,hi,hm=>by
  have e0:i=nv:=by omega
  subst e0;have c0:¬ (i:Int)<i:=by omega
  rw [A7m,E5c (by omega)];unfold A3O;rw [List.foldl_nil];cases a with
  | none=>simp only [esc,hv.len,c0,E5o]
  | some y =>
   have ef:D9 [Cell.s []] [(0,1,.c (.s y))]=some [.s y]:=rfl;simp only [esc,hv.len,c0,E5h,E5G,ef]
 | e+1,i,m2+1,a,hi,hm=>by
  have ih:=λa=>B3b (q:=q) (m:=m) hv hn h62 hb hr hol hob e (i+1) m2 a (by omega) (by omega)
  have c0:(i:Int)<nv:=by omega
  have hlen:=hv.len;obtain ⟨jd,off,ev,hjd,k1,k2⟩:=hv.sl (by omega);have hx:=k1 i (.s l[i]) (by rw [A4u,E40 (by omega)];rfl);have eb:D5 1 v (iV (i:Int))=some (pV jd (off+i)):=by rw [ev,C4 (by omega)];simp
  have w1:=C6 (show i+1<9223372036854775808 by omega);have hxb:=hb l[i] (E5F (by omega));have ed:A3O o (l.drop i) a=A3O o (l.drop (i+1)) (gO o a l[i]):=by
   unfold A3O;rw [E46 (by omega:i<l.length),List.foldl_cons]
  rw [ed,A7m];generalize l[i]=s at *;rcases Nat.eq_zero_or_pos o.length with h0 | h0
  ·have eo:o=[]:=List.eq_nil_of_length_eq_zero h0;subst eo;have ea:jE [] s=true:=rfl;have c1:¬ (0:Int)<((0:Nat):Int):=by omega
   cases a with
   | none =>
    have es:gO [] none s=some s:=rfl;have ih:=ih (some s);rw [es];simp only [E5h,E5G,E5o,E5Q] at ih ⊢;simp only [esc,hlen,c0,c1,eb,hx,Z1,w1] at ih ⊢;exact ih
   | some y =>
    have hL:=λh=>B4Y (s:=s) (t:=y) hxb h
    cases cb:K9 s y with
    | true =>
     have es:gO [] (some y) s=some s:=by unfold gO;rw [ea,cond_true];simp only;rw [cb,cond_true]
     have ih:=ih (some s);rw [cb] at hL;rw [es];simp only [E5h,E5G] at ih ⊢;simp only [esc,hlen,c0,c1,eb,hx,hL,Z1,w1] at ih ⊢;exact ih
    | false =>
     have es:gO [] (some y) s=some y:=by unfold gO;rw [ea,cond_true];simp only;rw [cb,cond_false]
     have ih:=ih (some y);rw [cb] at hL;rw [es];simp only [E5h,E5G] at ih ⊢;simp only [esc,hlen,c0,c1,eb,hx,hL,Z1,w1] at ih ⊢;exact ih
  ·have c1:(0:Int)<(o.length:Nat):=by omega
   have w2:IntKind.wrap .i64 ((o.length:Int)-1)=((o.length-1:Nat):Int):=by rw [wrap_i64 (by omega) (by omega)];omega
   have eg:o.getLast?=some o[o.length-1]:=by rw [List.getLast?_eq_getElem?,E40 (by omega)]
   have ea2:D5 1 (sV id 0 o.length 1) (iV ((o.length-1:Nat):Int))=some (pV id (o.length-1)):=by rw [C4 (by omega)];simp
   have hy:B4 h (pV id (o.length-1))=some (.c (.s o[o.length-1])):=B5 hr (by rw [A4u,E40 (by omega)];rfl) rfl;have hL:=λh=>B4Y (s:=o[o.length-1]) (t:=s) (hob _ (E5F (by omega))) h
   have eab:jE o s=K9 o[o.length-1] s:=by unfold jE;rw [eg]
   generalize o[o.length-1]=z at *;generalize o.length-1=k at *;cases ca:K9 z s with
   | false =>
    rw [ca] at hL eab;have es:gO o a s=a:=by unfold gO;rw [eab,cond_false]
    rw [es];have ih:=ih a;simp only [esc,hlen,c0,c1,w2,ea2,hy,eb,hx,hL,Z1,w1] at ih ⊢;exact ih
   | true =>
    rw [ca] at hL eab;cases a with
    | none =>
     have es:gO o none s=some s:=by unfold gO;rw [eab,cond_true]
     have ih:=ih (some s);rw [es];simp only [E5h,E5G,E5o,E5Q] at ih ⊢;simp only [esc,hlen,c0,c1,w2,ea2,hy,eb,hx,hL,Z1,w1] at ih ⊢;exact ih
    | some y =>
     have hL2:=λh=>B4Y (s:=s) (t:=y) hxb h
     cases cb:K9 s y with
     | true =>
      have es:gO o (some y) s=some s:=by unfold gO;rw [eab,cond_true];simp only;rw [cb,cond_true]
      have ih:=ih (some s);rw [cb] at hL2;rw [es];simp only [E5h,E5G] at ih ⊢;simp only [esc,hlen,c0,c1,w2,ea2,hy,eb,hx,hL,hL2,Z1,w1] at ih ⊢;exact ih
     | false =>
      have es:gO o (some y) s=some y:=by unfold gO;rw [eab,cond_true];simp only;rw [cb,cond_false]
      have ih:=ih (some y);rw [cb] at hL2;rw [es];simp only [E5h,E5G] at ih ⊢;simp only [esc,hlen,c0,c1,w2,ea2,hy,eb,hx,hL,hL2,Z1,w1] at ih ⊢;exact ih
theorem A2t (o:V0):∀ (l:V0) (y:List UInt8),∃ z,A3O o l (some y)=some z/\(z=y\/(z∈l/\jE o z=true/\K9 z y=true))/\∀ x∈l,jE o x=true->K9 x z=false
 | [],y=>⟨y,rfl,.inl rfl,by simp⟩
 | x::l,y=>by
  unfold A3O;rw [List.foldl_cons];cases ca:jE o x with
  | false =>
   have es:gO o (some y) x=some y:=by unfold gO;rw [ca,cond_false]
   obtain ⟨z,h1,h2,h3⟩:=A2t o l y;rw [es];refine ⟨z,h1,?_,λw hw haw=>?_⟩
   ·rcases h2 with h2 | ⟨h2,h4⟩
    ·exact .inl h2
    ·exact .inr ⟨E5m _ h2,h4⟩
   ·rcases List.mem_cons.1 hw with e | hw
    ·subst e;rw [ca] at haw;cases haw
    ·exact h3 w hw haw
  | true =>
   cases cb:K9 x y with
   | true =>
    have es:gO o (some y) x=some x:=by unfold gO;rw [ca,cond_true];simp only;rw [cb,cond_true]
    obtain ⟨z,h1,h2,h3⟩:=A2t o l x;rw [es];refine ⟨z,h1,.inr ?_,λw hw haw=>?_⟩
    ·rcases h2 with h2 | ⟨h2,h4,h5⟩
     ·subst h2;exact ⟨E5n ..,ca,cb⟩
     ·exact ⟨E5m _ h2,h4,jZ h5 cb⟩
    ·rcases List.mem_cons.1 hw with e | hw
     ·subst e;rcases h2 with h2 | ⟨_,_,h5⟩
      ·subst h2;exact oR _
      ·cases c:K9 w z with
       | false=>rfl
       | true=>have:=jZ c h5;rw [oR] at this;cases this
     ·exact h3 w hw haw
   | false =>
    have es:gO o (some y) x=some y:=by unfold gO;rw [ca,cond_true];simp only;rw [cb,cond_false]
    obtain ⟨z,h1,h2,h3⟩:=A2t o l y;rw [es];refine ⟨z,h1,?_,λw hw haw=>?_⟩
    ·rcases h2 with h2 | ⟨h2,h4⟩
     ·exact .inl h2
     ·exact .inr ⟨E5m _ h2,h4⟩
    ·rcases List.mem_cons.1 hw with e | hw
     ·subst e;rcases h2 with h2 | ⟨_,_,h5⟩
      ·subst h2;exact cb
      ·cases c:K9 w z with
       | false=>rfl
       | true=>have:=jZ c h5;rw [cb] at this;cases this
     ·exact h3 w hw haw
theorem C1G (o:V0):∀ l:V0,(A3O o l none=none/\∀ x∈l,jE o x=false)\/∃ z,A3O o l none=some z/\z∈l/\jE o z=true/\∀ x∈l,jE o x=true->K9 x z=false
 | []=>.inl ⟨rfl,by simp⟩
 | x::l=>by
  unfold A3O;rw [List.foldl_cons];cases ca:jE o x with
  | false =>
   have es:gO o none x=none:=by unfold gO;rw [ca,cond_false]
   rw [es];rcases C1G o l with ⟨h1,h2⟩ | ⟨z,h1,h2,h3,h4⟩
   ·exact .inl ⟨h1,λw hw=>by rcases List.mem_cons.1 hw with e | hw;subst e;exact ca;exact h2 w hw⟩
   ·exact .inr ⟨z,h1,E5m _ h2,h3,λw hw haw=>by
     rcases List.mem_cons.1 hw with e | hw
     ·subst e;rw [ca] at haw;cases haw
     ·exact h4 w hw haw⟩
  | true =>
   have es:gO o none x=some x:=by unfold gO;rw [ca,cond_true]
   rw [es];obtain ⟨z,h1,h2,h3⟩:=A2t o l x;refine .inr ⟨z,h1,?_⟩;rcases h2 with h2 | ⟨h2,h4,h5⟩
   ·subst h2;exact ⟨E5n ..,ca,λw hw haw=>by
     rcases List.mem_cons.1 hw with e | hw
     ·subst e;exact oR _
     ·exact h3 w hw haw⟩
   ·exact ⟨E5m _ h2,h4,λw hw haw=>by
     rcases List.mem_cons.1 hw with e | hw
     ·subst e;cases c:K9 w z with
      | false=>rfl
      | true=>have:=jZ c h5;rw [oR] at this;cases this
     ·exact h3 w hw haw⟩
def Part (l o:V0):Prop:=Up o/\(∀ x∈o,x∈l)/\∀ x∈l,jE o x=false->x∈o
theorem B4p {o:V0} {z x:List UInt8}:jE (o++[z]) x=K9 z x:=by unfold jE;simp
theorem E02 {o:V0} {z x:List UInt8} (ho:Up o) (ha:jE o z=true) (hx:x∈o):K9 x z=true:=by
 unfold jE at ha;cases hg:o.getLast? with
 | none=>rw [List.getLast?_eq_none_iff] at hg;subst hg;cases hx
 | some y =>
  rw [hg] at ha;obtain ⟨ini,rfl⟩:=List.getLast?_eq_some_iff.1 hg;rcases List.mem_append.1 hx with h | h
  ·have:=(List.pairwise_append.1 ho).2.2 x h y (by simp);exact jZ this ha
  ·simp at h;subst h;exact ha
theorem D64 {l o:V0} {z:List UInt8} (hp:Part l o) (hz:z∈l) (ha:jE o z=true) (hm:∀ x∈l,jE o x=true->K9 x z=false):Part l (o++[z]):=by
 obtain ⟨h1,h2,h3⟩:=hp;refine ⟨?_,?_,?_⟩
 ·show List.Pairwise _ _;rw [List.pairwise_append];exact ⟨h1,by simp,λx hx y hy=>by simp at hy;subst hy;exact E02 h1 ha hx⟩
 ·intro x hx;rcases List.mem_append.1 hx with h | h
  ·exact h2 x h
  ·simp at h;subst h;exact hz
 ·intro x hx hab;rw [B4p] at hab;cases c:jE o x with
  | false=>exact List.mem_append_left _ (h3 x hx c)
  | true =>
   have k:=hm x hx c;rcases B9x x z with h | h | h
   ·rw [h] at k;cases k
   ·subst h;simp
   ·rw [h] at hab;cases hab
def C99 (l o:V0):Nat:=(l.filter (jE o)).length
theorem filter_lt {α:Type} {p r:α -> Bool}:∀ {l:List α} {z:α},(∀ x∈l,p x=true->r x=true)->z∈l->p z=false->r z=true->(l.filter p).length<(l.filter r).length
 | [],z,_,hz,_,_=>by cases hz
 | x::l,z,h,hz,hp,hr=>by
  have bO:∀ {l:List α},(∀ x∈l,p x=true->r x=true)->(l.filter p).length<=(l.filter r).length:=by
   intro l
   induction l with
   | nil=>intro _;simp
   | cons y l ih =>
    intro h;have h1:=ih λx hx=>h x (E5m _ hx)
    have h2:=h y (E5n ..);simp only [List.filter_cons];cases hy:p y with
    | true=>rw [h2 hy];simpa using h1
    | false=>cases r y<;>simp<;>omega
  have h1:=h x (E5n ..);have h':∀ y∈l,p y=true->r y=true:=λy hy=>h y (E5m _ hy)
  rcases List.mem_cons.1 hz with e | hz
  ·subst e;have:=bO h';simp only [List.filter_cons,hp,hr,if_true,E5a];simp;omega
  ·have ih:=filter_lt h' hz hp hr;simp only [List.filter_cons];cases hx:p x with
   | true=>rw [h1 hx];simpa using ih
   | false=>cases r x<;>simp<;>omega
theorem D4F {l o:V0} {z:List UInt8} (hz:z∈l) (ha:jE o z=true):C99 l (o++[z])<C99 l o:=by
 refine filter_lt (z:=z) (λx hx h=>?_) hz (by rw [B4p,oR]) ha;rw [B4p] at h;unfold jE at ha ⊢;cases hg:o.getLast? with
 | none=>rfl
 | some y=>rw [hg] at ha;exact jZ ha h
theorem B3c {v:Val} {nv q:Nat} {l:V0} {g:A6} (hq:nv<q) (hv:Has g v 1 nv (encS l)) (hn:l.length=nv) (h62:nv<1073741824) (hb:∀ x∈l,x.length<9223372036854775807) :
  ∀ (f m:Nat) (o:V0) (h:A6) (id:Nat),C99 l o<=f->f<m->o.length+C99 l o<=nv->Part l o->Low g.length g h->g.length<=id->rd h id=rT (encS o) ->
  ∃ v2 h2,A6r q m v (.c (.sl id 0 o.length 1)) h=some (v2,h2)/\Out g.length h2 v2 1 (fM l).length (encS (fM l))
 | f,0,o,h,id,_,hm,_,_,_,_,_=>by omega
 | f,m+1,o,h,id,hf,hm,hol,hp,hlow,hid,hr=>by
  have e1:=B3b (q:=q) (m:=m) (hv.since hlow) hn h62 hb hr (by omega) (λx hx=>hb x (hp.2.1 x hx)) nv 0 q none (by omega) hq;rw [E5k] at e1;rw [C26];simp only [E5o,E5Q] at e1;rw [show (((0:Nat):Int))=0 from rfl] at e1;rcases C1G o l with ⟨k1,k2⟩ | ⟨z,k1,k2,k3,k4⟩
  ·rw [k1] at e1;have eo:o=fM l:=E2M hp.1 (D9z l) λx=>by
    rw [B1v];exact ⟨hp.2.1 x,λhx=>hp.2.2 x hx (k2 x hx)⟩
   rw [<-eo];exact ⟨_,_,e1,by rw [L9];omega,_,rfl,hid,hr⟩
  ·rw [k1] at e1;have U8:=D4F k2 k3 (o:=o);obtain ⟨h1,a1,a2,a3,a4,a5⟩:=push (ys:=[.s z]) (sz:=1) (n:=o.length) hlow hr (by rw [L9];omega) hid rfl (by omega) (by omega);have he:encS o++[.s z]=encS (o++[z]):=by simp [encS]
   rw [he] at a2;have el:(o++[z]).length=o.length+1:=by simp
   obtain ⟨v2,h2,f1,f2⟩:=B3c hq hv hn h62 hb (f-1) m (o++[z]) h1 (h.length+1) (by omega) (by omega) (by omega) (D64 hp k2 k3 k4) a3 a4 a2;rw [el] at f1;refine ⟨v2,h2,?_,f2⟩;rw [e1];simp only [a1,Q5];exact f1
theorem C8S {v:Val} {nv:Nat} {l:V0} {h:A6} (hv:Has h v 1 nv (encS l)) (h62:nv<1073741824) (hb:∀ x∈l,x.length<9223372036854775807) :
  A8X [v] h=some (sV h.length 0 (fM l).length 1,h++[rT (encS (fM l))]):=by
 have hn:l.length=nv:=by simpa [L9] using hv.length
 have key:∀ N,nv<N->∀ g,Has g v 1 nv (encS l)->∃ v2 g',A8g N [v] g=some (v2,g')/\Out g.length g' v2 1 (fM l).length (encS (fM l)):=by
  intro N hN g hv;have hf:C99 l []=nv:=by
   unfold C99;have e:l.filter (jE [])=l:=List.filter_eq_self.2 λx _=>rfl
   rw [e,hn]
  obtain ⟨v2,g',f1,f2⟩:=B3c (q:=N) hN hv hn h62 hb nv N [] ((g++[rT []])++[rT []]) (g.length+1) (by omega) hN (by simp;omega)
   ⟨List.Pairwise.nil,by simp,λx _ h=>by cases h⟩ (((Low.refl (E44 _)).new _).new _) (by omega) (by simp [encS])
  rw [C32];refine ⟨v2,g',?_,f2⟩;simpa using f1
 obtain ⟨v2,g',e,ho⟩:=key (nv+1) (by omega) (ro h) hv.ro;exact C2z e (by simpa [E7] using ho) (by simp)
section
theorem D8P:aU []=hdB:=by decide +kernel
theorem D8r {h:A6}:A1V [] h=some (sV h.length 0 256 1,h++[rT (A5 (aU []))]):=by rw [D8P];exact C8W
section
variable {D:Dev} {n m:Int} {v:Val}
theorem D5T {lo:Nat} {P:Nat->Prop} {h H:A6} {Q:Nat->Prop} {c:Cl} {cs:List Cell} {y:Cell} {b:List UInt8} {no:Int} {x6:Nat} (G:Grows h H) (e6:h.length<=x6) (K:IsRC n Q H cs c) (nq:¬ Q x6) (toP:∀ id,Q id->P id\/lo<=id) (hlo:lo<=H.length) (r6:rd H x6=rT cs) (hY:Has H (.c y) 1 256 (A5 b)) (hy:∀ id,nmC y=some id->lo<=id/\id≠x6) (hyx:y.isX=false) (h1:c.blocks.length<=100000) (h2:c.made.length<=100000) :
  ∃ cs' H1 H2 Q',A1X [.a cs,iV no,.c y] H=some (.a cs',H1)/\E1 H1 8 (pV x6 0) (.a cs')=some H2/\Grows h H2/\H.length<=H2.length/\IsRC n Q' H2 cs' (R5 c no b)/\¬ Q' x6/\(∀ id,Q' id->P id\/lo<=id)/\rd H2 x6=rT cs'/\(∀ j,j<H.length->j≠x6->rd H2 j=rd H j):=by
 have K1:IsRC n (λid=>Q id\/nmC y=some id) H cs c:=K.mono λ_=>.inl
 obtain ⟨cs',H1,m1,m2,m3⟩:=D3O (no:=no) K1 hY (λid hid=>.inr hid) h1 h2 hyx;have q6:=m2.rd r6;have b6:=C5 r6;obtain ⟨H2,hH2⟩:∃ H2,H2=H1.set x6 (rT cs'):=⟨_,rfl⟩;have hgl:=G.len;have hHl:=m2.len;have nq':¬ ((Q x6\/nmC y=some x6)\/H.length<=x6):=by
  intro hh;rcases hh with (hh | hh) | hh
  ·exact nq hh
  ·exact (hy _ hh).2 rfl
  ·omega
 refine ⟨cs',H1,H2,_,m1,by rw [storeAll (n:=8) q6 K.length m3.length,hH2],by rw [hH2];exact (G.trans' m2).set e6 _,by rw [hH2];simp;omega,by rw [hH2];exact m3.set (.inr nq'),nq',λid hid=>?_,by rw [hH2];exact B7 (by omega),λj hj T5=>?_⟩
 ·rcases hid with (hh | hh) | hh
  ·exact toP id hh
  ·exact .inr (hy _ hh).1
  ·exact .inr (by omega)
 ·rw [hH2,A7 (Ne.symm T5)];obtain ⟨tt,hh⟩:=m2.1;rw [<-hh,D4 hj]
theorem E3z {lo:Nat} {P:Nat->Prop} {h:A6} {d:Int} {t L:List Int} {x6 x11 x12 bid kid q:Nat} {kl:V0} {KK:List UInt8->Option Int} {r8:List Cell} (hv:Has h v 256 D.length (D1 D)) (hD:okD D) (ht:t.length=32) (h5:d<=5) (hLl:L.length<=32) (bM:∀ no∈L,no≠0) (hq:8<=q)
  (e6:h.length<=x6) (n2:x6≠x11) (n3:x6≠x12) (n4:x6≠bid) (n5:x6≠kid) (KR:KeptR D (d::t) KK kl) (hkl:kl.length<=300) :
  ∀ (e i M:Nat) (c:Cl) (cs:List Cell) (Q:Nat->Prop) (H:A6),i+e=L.length->e<M->Grows h H->IsRC n Q H cs c->¬ Q x6->(∀ id,Q id->P id\/lo<=id)->lo<=H.length->0<=c.lost/\c.lost+7*e<=900000->c.blocks.length+e<=100000->c.made.length+e<=100000 ->
   rd H x6=rT cs->rd H x11=rT (encI (d::t))->rd H x12=rT r8->rd H bid=rT (encI L)->rd H kid=rT (encS kl) ->
  ∃ cs' Q' H' M',A3E q M v (pV x6 0) (pV x11 0) (pV x12 0) (sV bid 0 L.length 1) (sV kid 0 kl.length 1) (iV (i:Int)) H =
    A3E q (M'+1) v (pV x6 0) (pV x11 0) (pV x12 0) (sV bid 0 L.length 1) (sV kid 0 kl.length 1) (iV (L.length:Nat)) H' /\
   Grows h H'/\IsRC n Q' H' cs' (M9 D (d::t) KK c (L.drop i))/\¬ Q' x6/\(∀ id,Q' id->P id\/lo<=id)/\rd H' x6=rT cs'/\(∀ j,j<H.length->j≠x6->rd H' j=rd H j):=by
 intro e
 induction e with
 | zero =>
  intro i M c cs Q H hi hM G K nq toP hlow hlo hb hmd r6 r11 r12 rb rk;obtain ⟨M,rfl⟩:∃ M',M=M'+1:=⟨M-1,by omega⟩;have ei:i=L.length:=by omega
  subst ei;rw [List.drop_length];exact ⟨cs,Q,H,M,rfl,G,K,nq,toP,r6,λ_ _ _=>rfl⟩
 | succ e ih =>
  intro i M c cs Q H hi hM G K nq toP hlow hlo hb hmd r6 r11 r12 rb rk;obtain ⟨M,rfl⟩:∃ M',M=M'+1:=⟨M-1,by omega⟩;have P6:i<L.length:=by omega
  have c0:(i:Int)<(L.length:Nat):=by omega
  have w1:=C6 (show i+1<9223372036854775808 by omega);have hHd:=D8r (h:=H);obtain ⟨K1,hK1⟩:∃ K1,K1=H++[rT (A5 (aU []))]:=⟨_,rfl⟩;rw [<-hK1] at hHd;have G1:Grows H K1:=by rw [hK1];exact (Grows.rfl').new _
  have b6:=C5 r6;have b11:=C5 r11;have bb:=C5 rb;have bk:=C5 rk;have hgl:=G.len;have lK1:K1.length=H.length+1:=by rw [hK1];simp
  obtain ⟨cs1,y,H2,M2,f1,f2,f3,f4,f5,f6,f7,f8,f9⟩:=E3A (lo:=lo) (P:=P) (n:=n) (Q:=Q) (M0:=M) (q:=q) (i:=i) (x12:=pV x12 0) (KK:=KK) hv hD ht h5 P6 (bM _ (E5F P6)) e6 n2 n4 n5 KR hkl 7 0 q (c,aU []) cs (.sl H.length 0 256 1) K1 (by omega) (by omega) (G.trans' G1) (K.grows G1) nq (by omega) (λid hid=>by cases hid;exact ⟨by omega,by omega,by omega,by omega,by omega⟩) rfl (by rw [hK1];exact Has.row (rw:=true) (by rw [E9];rfl) (by rw [A4,oY]) (F0 _)) (oY (l:=[])) ⟨hlo.1,by have:=hlo.2;dsimp only;omega⟩ (G1.rd r6) (G1.rd r11) (G1.rd rb) (G1.rd rk);have eX:M6 (blk D L[i]) 7 0=N1 (blk D L[i]):=rfl;rw [eX] at f4 f7;have hs:=oU (D:=D) (X:=d::t) (no:=L[i]) (K:=KK) (l:=N1 (blk D L[i])) (s:=(c,aU []));have E3c:=A2f (D:=D) (X:=d::t) (no:=L[i]) (K:=KK) (l:=N1 (blk D L[i])) (s:=(c,aU []));have h7:=dI (blk D L[i]);obtain ⟨S,hS⟩:∃ S,S=T4 D (d::t) L[i] KK (c,aU []) (N1 (blk D L[i])):=⟨_,rfl⟩;rw [<-hS] at f4 f7 hs E3c;dsimp only at E3c;have same2:∀ j,j<H.length->j≠x6->rd H2 j=rd H j:=λj hj T5=>by rw [f9 j (by omega) T5,hK1,D4 hj]
  have q11:rd H2 x11=rT (encI (d::t)):=by rw [same2 _ b11 (Ne.symm n2)];exact r11
  have q12:rd H2 x12=rT r8:=by rw [same2 _ (C5 r12) (Ne.symm n3)];exact r12
  have qb:rd H2 bid=rT (encI L):=by rw [same2 _ bb (Ne.symm n4)];exact rb
  have qk:rd H2 kid=rT (encS kl):=by rw [same2 _ bk (Ne.symm n5)];exact rk
  obtain ⟨cs2,H3,H4,Q2,m1,m2,m3,m4,m5,m6,m7,m8,m9⟩:=D5T (lo:=lo) (no:=L[i]) (P:=P) f2 e6 f4 nq toP (by omega) f8 f7 (λid hid=>⟨(f5 id hid).1,(f5 id hid).2.1⟩) f6 (by rw [hs.blocks];dsimp only;omega) (by rw [hs.made];dsimp only;omega);have ec:M9 D (d::t) KK c (L.drop i)=M9 D (d::t) KK (R5 S.1 L[i] S.2) (L.drop (i+1)):=by
   rw [E46 P6,hS];rfl
  rw [ec];have lb:(R5 S.1 L[i] S.2).blocks.length=c.blocks.length+1:=by show (S.1.blocks++[L[i]]).length=_;rw [E43,hs.blocks];rfl
  have lm:(R5 S.1 L[i] S.2).made.length=c.made.length+1:=by show (S.1.made++[S.2]).length=_;rw [E43,hs.made];rfl
  have ll:(R5 S.1 L[i] S.2).lost=S.1.lost:=rfl;obtain ⟨cs',Q',H',M',g1,g2,g3,g4,g5,g6,g7⟩:=ih (i+1) M (R5 S.1 L[i] S.2) cs2 Q2 H4 (by omega) (by omega) m3 m5 m6 m7 (by omega) (by rw [ll];omega) (by rw [lb];omega) (by rw [lm];omega) m8 (by rw [m9 _ (C5 q11) (Ne.symm n2)];exact q11) (by rw [m9 _ (C5 q12) (Ne.symm n3)];exact q12) (by rw [m9 _ (C5 qb) (Ne.symm n4)];exact qb) (by rw [m9 _ (C5 qk) (Ne.symm n5)];exact qk);refine ⟨cs',Q',H',M',?_,g2,g3,g4,g5,g6,λj hj T5=>by rw [g7 j (by omega) T5,m9 j (by omega) T5,same2 j hj T5]⟩;have l6:C8 H2 8 (pV x6 0)=some (.a cs1):=B8 f8 f4.length;have aL:D5 1 (sV bid 0 L.length 1) (iV (i:Int))=some (pV bid i):=by rw [C4 P6];simp
  have lL:B4 H2 (pV bid i)=some (iV L[i]):=B5 qb (by rw [F6,E40 P6];rfl) rfl;have c77:¬ (7:Int)<7:=by decide
  have c00:((0:Nat):Int)=0:=rfl;rw [c00] at f1;rw [A4L];simp only [esc,c0,hHd];refine f1.trans ?_;rw [mH];simp only [esc,c77,l6,aL,lL,m1,m2,w1];exact g1
theorem D7a {P:Nat->Prop} {h:A6} {c:Cl} {cs:List Cell} {d ino at_:Int} {t:List Int} (hv:Has h v 256 D.length (D1 D)) (hD:okD D) (K:IsRC n P h cs c) (ht:t.length=32) (h5:d<=5) (hok:okX d t=true) (hn:n<=128) (hR:RowW n c) {Rr B S Lo:Nat} (sm:Small c Rr B S Lo) (hRr:Rr<=700) (hB:B<=500000) (hSs:S<=50000) (hLo:Lo<=500000) :
  ∃ cs' H',A5Z [.a cs,v,.a (D3 D.length n m),.c (.i .i64 ino),.c (.i .i64 at_),.a (encI (d::t))] h=some (.a cs',H')/\Grows h H' /\
   IsRC n (λid=>P id\/h.length<=id) H' cs' (M9 D (d::t) (Z9 D n ino (c,λ_=>none) (mW D (d::t) (J6 t (B9 d)))).2 (R5 (Z9 D n ino (c,λ_=>none) (mW D (d::t) (J6 t (B9 d)))).1 at_ (bif okX d t then eZ d t else zeros 256)) (J6 t (B9 d))):=by
 have c8:=K.length;have h33:(encI (d::t)).length=33:=by rw [A8];simp [ht]
 obtain ⟨L,hL⟩:∃ L,L=J6 t (B9 d):=⟨_,rfl⟩;have hLl:L.length<=32:=by rw [hL];exact E5E (fI ..) (N8 d)
 have bM:∀ no∈L,no≠0:=by rw [hL];exact D5A
 rw [<-hL];obtain ⟨g1,hg1⟩:∃ g1,g1=h++[rT cs,rT (D3 D.length n m),rT (encI (d::t)),rT Z8]:=⟨_,rfl⟩;have lg1:g1.length=h.length+4:=by rw [hg1];simp
 have hB1:=A42 (d:=d) (t:=t) (h:=g1) ht;rw [<-hL] at hB1;obtain ⟨g2,hg2⟩:∃ g2,g2=g1++[rT (encI L)]:=⟨_,rfl⟩;rw [<-hg2] at hB1;have lg2:g2.length=h.length+5:=by rw [hg2];simp [lg1]
 have G2:Grows h g2:=by rw [hg2,hg1];exact (Q4 Grows.rfl' rfl).new _
 have r6:rd g2 h.length=rT cs:=by rw [hg2];refine B6 ?_;rw [hg1,E9];rfl
 have r8:rd g2 (h.length+1)=rT (D3 D.length n m):=by rw [hg2];refine B6 ?_;rw [hg1,K0];rfl
 have r11:rd g2 (h.length+2)=rT (encI (d::t)):=by rw [hg2];refine B6 ?_;rw [hg1,K0];rfl
 have r12:rd g2 (h.length+3)=rT Z8:=by rw [hg2];refine B6 ?_;rw [hg1,K0];rfl
 have rb:rd g2 (h.length+4)=rT (encI L):=by rw [hg2,<-lg1,E9];rfl
 obtain ⟨nid,H1,M1,f1,f2,f3,f4⟩:=E3w (x3:=.c (.i .i64 ino)) (x4:=.c (.i .i64 at_)) (x6:=.c (.p h.length 0)) (x8:=.c (.p (h.length+1) 0)) (x12:=.c (.p (h.length+3) 0)) (x11:=h.length+2) (bid:=h.length+4) (q:=400) (hv.grows G2) hD r11 ht h5 rb hLl bM (by omega) L.length 0 400 [] g2.length (g2++[rT []]) (by omega) (by omega) (Q4 Grows.rfl' rfl) (E44 _) (by rw [E9];rfl) (by simp;omega);rw [E5k,E5g] at f1 f4;have hNl:(F8 D (d::t) (tO D L)).length<=224:=by
  have h1:=A9H (D:=D) (L:=L);have h2:=A4U (D:=D) (X:=d::t) (s:=tO D L);omega
 obtain ⟨N,hN⟩:∃ N,N=F8 D (d::t) (tO D L):=⟨_,rfl⟩;rw [<-hN] at f1 f4 hNl;have hNs:∀ x∈N,x.length<9223372036854775807:=λx hx=>by
  rw [hN] at hx;obtain ⟨no,y,_,hy,_,_,e⟩:=D8u (D:=D) (X:=d::t) (L:=L) (s:=x) (by rw [B1v];exact hx);have:=A0k (B1n hy).1;rw [e] at this;omega
 have hSt:=C8S (v:=.c (.sl nid 0 N.length 1)) (nv:=N.length) (l:=N) (h:=H1) (Has.row f4 (by rw [L9];omega) (B7n _)) (by omega) hNs;obtain ⟨S0,hS0⟩:∃ S0,S0=fM N:=⟨_,rfl⟩;rw [<-hS0] at hSt;have hSl:S0.length<=300:=by rw [hS0];have:=A6P N;omega
 obtain ⟨H2,hH2⟩:∃ H2,H2=H1++[rT (encS S0)]:=⟨_,rfl⟩;rw [<-hH2] at hSt;obtain ⟨H3,xR⟩:∃ H3,H3=H2++[rT []]:=⟨_,rfl⟩;have lH2:H2.length=H1.length+1:=by rw [hH2];simp
 have lH3:H3.length=H2.length+1:=by rw [xR];simp
 have G13:Grows g2 H3:=by rw [xR,hH2];exact (f2.new _).new _
 have E4S:=f2.len;have to3:∀ {id r},rd g2 id=some r->rd H3 id=some r:=λhr=>G13.rd hr
 have GH3:Grows h H3:=G2.trans' G13;obtain ⟨Q0,hQ0⟩:∃ Q0:Nat->Prop,Q0=λid=>P id/\id<h.length:=⟨_,rfl⟩
 have K3:IsRC n Q0 H3 cs c:=by rw [hQ0];exact K.low.grows GH3
 have nq0:∀ id,h.length<=id->¬ Q0 id:=λid hid=>by rw [hQ0];intro hh;omega
 have rs3:rd H3 H1.length=rT (encS S0):=by rw [xR,hH2];refine B6 ?_;rw [E9];rfl
 have rk3:rd H3 H2.length=rT (encS []):=by rw [xR,E9];rfl
 have E4R:=GH3.len;obtain ⟨cs1,kl,kid,Q1,H4,M4,k1,k2,k3,k4,k5,k6,k6b,k7,k8,k9,k10,k11,k12,k13,k14,k15,k16,k17,k18⟩:=E3y (lo:=h.length+5) (P:=λid=>P id/\id<h.length) (m:=m) (n:=n) (ino:=ino) (x4:=.c (.i .i64 at_)) (x6:=h.length) (x8:=h.length+1) (x11:=h.length+2) (x12:=h.length+3) (bid:=h.length+4) (sid:=H1.length) (q:=400) (r8:=Z8) (L:=L) hv hD ht h5 bM hn (E44 _) (by omega) (by omega) (by omega) (by omega) (by omega) (S:=S0) (by rw [hS0,hN]) hSl
  S0.length 0 400 B (c,λ_=>none) cs [] H2.length Q0 H3 (by omega) (by omega) GH3 K3 (nq0 _ (E44 _)) (nq0 _ (by omega)) (λid hid=>by rw [hQ0] at hid;exact .inl hid) (by omega) (λid hid=>by rw [hQ0] at hid;omega) hR (by have:=sm.row;dsimp only;omega) sm.lnk (by omega) (to3 r6) (to3 r8) (to3 r11) (to3 r12) (to3 rb) rs3 rk3 (by omega) (by omega) (by omega) (by omega) (by omega) (by omega) (by omega) (by simp) ⟨λs=>by simp,λs a ha=>by cases ha⟩
 rw [E5k] at k3 k18;have eLH:S0.map (λx=>(x,B0o D (d::t) x))=mW D (d::t) L:=by unfold mW;rw [hS0,hN]
 rw [eLH] at k3 k18;obtain ⟨T,hT⟩:∃ T,T=Z9 D n ino (c,λ_=>none) (mW D (d::t) L):=⟨_,rfl⟩;rw [<-hT] at k3 k18 ⊢;have hTs:SameT c T.1:=by
  rw [hT];have:∀ (l:List Ent) (s:Cl × (List UInt8->Option Int)) (Bx:Int),BndL s.1 Bx->SameT s.1 (Z9 D n ino s l).1:=by
   intro l
   induction l with
   | nil=>intro s Bx _;exact ⟨rfl,rfl,rfl,rfl,rfl⟩
   | cons x l ih =>
    intro s Bx hb;obtain ⟨a1,a2,_⟩:=A2z (D:=D) (n:=n) (ino:=ino) (e:=x) hb;have a3:=ih (Y7 D n ino s x) _ a2;exact ⟨a3.ino.trans a1.ino,a3.blocks.trans a1.blocks,a3.made.trans a1.made,a3.taken.trans a1.taken,a3.lost.trans a1.lost⟩
  exact this _ (c,λ_=>none) _ sm.lnk
 have hP:=B7I (d:=d) (t:=t) (h:=H4) ht;rw [hok] at hP;simp only [cond_true] at hP;obtain ⟨H5,hH5⟩:∃ H5,H5=H4++[rT (A5 (eZ d t))]:=⟨_,rfl⟩;rw [<-hH5] at hP;have il:=kP (d:=d) ht;have G45:Grows H4 H5:=by rw [hH5];exact (Grows.rfl').new _
 have E4V:=k2.len;obtain ⟨cs2,H6,H7,Q2,m1,m2,m3,m4,m5,m6,m7,m8,m9⟩:=D5T (lo:=h.length+5) (n:=n) (P:=λid=>P id/\id<h.length) (no:=at_) (b:=eZ d t) (y:=.sl H4.length 0 256 1) (k2.trans' G45) (E44 _) (k3.grows G45) k4 k6 (by have:=G45.len;omega) (G45.rd k8) (by rw [hH5];exact Has.row (rw:=true) (by rw [E9];rfl) (by rw [A4,il]) (F0 _)) (λid hid=>by cases hid;exact ⟨by omega,by have:=C5 k8;omega⟩) rfl (by rw [hTs.blocks];have:=sm.blocks;omega) (by rw [hTs.made];have:=sm.made;omega);have lH5:H5.length=H4.length+1:=by rw [hH5];simp
 have keep7:∀ {id r},rd H4 id=some r->id≠h.length->rd H7 id=some r:=λhr T5=>by
  rw [m9 _ (by have:=C5 hr;omega) T5];exact G45.rd hr
 have lbm:(R5 T.1 at_ (eZ d t)).blocks.length=c.blocks.length+1:=by show (T.1.blocks++[at_]).length=_;rw [E43,hTs.blocks];rfl
 have lmm:(R5 T.1 at_ (eZ d t)).made.length=c.made.length+1:=by show (T.1.made++[_]).length=_;rw [E43,hTs.made];rfl
 have llm:(R5 T.1 at_ (eZ d t)).lost=c.lost:=hTs.lost;obtain ⟨cs3,Q3,H8,M8,o1,o2,o3,o4,o5,o6,o7⟩:=E3z (lo:=h.length+5) (n:=n) (P:=λid=>P id/\id<h.length) (x6:=h.length) (x11:=h.length+2) (x12:=h.length+3) (bid:=h.length+4) (kid:=kid) (q:=400) (r8:=Z8) (L:=L) hv hD ht h5 hLl bM (by omega) (E44 _) (by omega) (by omega) (by omega) (Ne.symm k13) k18 k17 L.length 0 400 (R5 T.1 at_ (eZ d t)) cs2 Q2 H7 (by omega) (by omega) m3 m5 m6 m7 (by omega) (by rw [llm];have:=sm.lost0;have:=sm.lost;omega) (by rw [lbm];have:=sm.blocks;omega) (by rw [lmm];have:=sm.made;omega) m8 (keep7 k9 (by omega)) (keep7 k10 (by omega)) (keep7 k11 (by omega)) (keep7 k12 k13);rw [E5k] at o3;have q12:rd H8 (h.length+3)=rT Z8:=by rw [o7 _ (C5 (keep7 k10 (by omega))) (by omega)];exact keep7 k10 (by omega)
 obtain ⟨H9,hH9⟩:∃ H9,H9=H8.set (h.length+3) (rT cs3):=⟨_,rfl⟩;have s9:E1 H8 8 (.c (.p (h.length+3) 0)) (.a cs3)=some H9:=by rw [storeAll (n:=8) q12 rfl o3.length,hH9]
 have l9:C8 H9 8 (.c (.p (h.length+3) 0))=some (.a cs3):=B8 (by rw [hH9];exact B7 (C5 q12)) o3.length;have l8:C8 H8 8 (.c (.p h.length 0))=some (.a cs3):=B8 o6 o3.length;have o3':IsRC n (λid=>P id\/h.length<=id) H9 cs3 (M9 D (d::t) T.2 (R5 T.1 at_ (eZ d t)) L):=by
  rw [hH9];refine (o3.set (.inr λhh=>?_)).mono λid hid=>?_
  ·rcases o5 _ hh with hh | hh<;>omega
  ·rcases o5 id hid with hh | hh
   ·exact .inl hh.1
   ·exact .inr (by omega)
 refine ⟨cs3,H9,C2T (n:=400) ?_,by rw [hH9];exact o2.set (by omega) _,by rw [hok];exact o3'⟩;have cl1:cells? (.a cs)=some cs:=rfl;have cl2:cells? (.a (D3 D.length n m))=some (D3 D.length n m):=rfl;have cl3:cells? (.a (encI (d::t)))=some (encI (d::t)):=rfl;have l33:C8 g1 33 (.c (.p (h.length+2) 0))=some (.a (encI (d::t))):=B8 (by rw [hg1,K0];rfl) h33;have l33':C8 H4 33 (.c (.p (h.length+2) 0))=some (.a (encI (d::t))):=B8 k9 h33;have l84:C8 H5 8 (.c (.p h.length 0))=some (.a cs1):=B8 (G45.rd k8) k3.length;have cL:¬ ((L.length:Nat):Int)<(L.length:Nat):=by omega
 have cS:¬ ((S0.length:Nat):Int)<(S0.length:Nat):=by omega
 have c00:((0:Nat):Int)=0:=rfl;have l0:([]:V0).length=0:=rfl;rw [c00,l0] at f1 k1;rw [c00] at o1;rw [lg1] at hB1;rw [C2d,A4g];generalize hXX:encI (d::t)=X at *;generalize Z8=E8 at *;simp only [cl1,cl2,cl3,Q5,E45,E5x,E5g,E43,E5a,E5u,E5l,Nat.reduceAdd,<-hg1];simp only [esc,Nat.reduceAdd,l33,hB1];refine f1.trans ?_;rw [A4K];simp only [esc,cL,hSt,<-xR];refine k1.trans ?_;rw [tW];simp only [esc,cS,l33',hP,l84,m1,m2];refine o1.trans ?_;rw [A4L];simp only [esc,cL,l8,s9,l9]
end
end
section
theorem set_self {h:A6} {id:Nat} {r:Row} (hr:rd h id=some r):h.set id (some r)=h:=by
 refine List.ext_getElem? λi=>?_
 rw [List.getElem?_set];by_cases e:id=i
 ·subst e;rw [if_pos rfl,if_pos (C5 hr)];unfold rd at hr;cases hh:h[id]? with
  | none=>rw [hh] at hr;cases hr
  | some x=>rw [hh] at hr;exact congrArg some hr.symm
 ·rw [if_neg e]
theorem D6E {d:Int} {t:List Int}:(eY d t).all uA=true:=by
 have z:∀ k,(zI k).all uA=true:=λk=>List.all_eq_true.2 λx hx=>by rw [List.eq_of_mem_replicate hx];rfl
 unfold eY;split
 ·unfold pG;rw [List.all_append,z,Bool.and_true,E5S];intro x hx;obtain ⟨i,_,rfl⟩:=List.mem_map.1 hx;unfold rJ;cases hk:A2r d t i with
  | true=>exact (D6N.1 hk).2.1
  | false=>rfl
 ·exact z 32
theorem C7F {no:Int}:∀ {e i:Nat} {t:List Int},t.all uA=true->(wX no e i t).all uA=true
 | 0,_,_,h=>h
 | e+1,i,t,h=>by
  rw [wX];refine C7F ?_;split
  ·rw [E5S] at h ⊢;intro x hx;rcases E5H hx with h1 | h1
   ·exact h x h1
   ·rw [h1];rfl
  ·exact h
theorem C5H {D:Dev} {n:Int}:∀ {L:List Int} {s:Cl × List Int},s.2.all uA=true->(mT D n s L).2.all uA=true
 | [],_,h=>h
 | no::L,s,h=>by
  show (mT D n (kA D n s no) L).2.all uA=true;refine C5H ?_;unfold kA;dsimp only;split
  ·exact C7F h
  ·exact h
theorem C6e {d:Int} {t:List Int}:0<=V7 d t/\V7 d t<=5:=by unfold V7;split<;>omega
theorem D9Z {D:Dev} {n:Int} {c:Cl} {d:Int} {t:List Int}:okX (V7 d t) (T7 D n c d t).2=true:=by
 have h1:=C6e (d:=d) (t:=t);have h2:(T7 D n c d t).2.all uA=true:=C5H D6E;unfold okX;rw [decide_eq_true h1.1,decide_eq_true h1.2,h2];rfl
theorem A9K {D:Dev} {n:Int}:∀ {L:List Int} {s:Cl × List Int},(mT D n s L).1.taken.length=s.1.taken.length
 | [],_=>rfl
 | no::L,s=>by
  show (mT D n (kA D n s no) L).1.taken.length=_;rw [A9K];exact fX
section
variable {D:Dev} {n m:Int} {P Q:Nat->Prop} {g h:A6} {v:Val}
theorem B40 {L:List Int} {no d:Int} {k q M x11 bid:Nat} {x1 x3 x4 x6 x8 x9:Val} (hk:k<L.length) (bM:L[k]=no) (hL:L.length<=32) (nb:bid≠x11) :
  ∀ (e i M2:Nat) (t:List Int) (H:A6),i+e=32->e<M2->t.length=32->rd H x11=rT (encI (d::t))->rd H bid=rT (encI L) ->
   B0j q M M2 x1 x3 x4 x6 x8 x9 (pV x11 0) (sV bid 0 L.length 1) (iV (k:Int)) (iV 0) (iV (i:Int)) H =
    wD q M x1 x3 x4 x6 x8 x9 (pV x11 0) (sV bid 0 L.length 1) (iV ((k+1:Nat):Int)) (H.set x11 (rT (encI (d::wX no e i t))))
 | e,i,0,t,H,_,hM,_,_,_=>by omega
 | 0,i,M2+1,t,H,hi,hM,ht,hx,hb=>by
  have c0:¬ ((i:Int)<32):=by omega
  have wk:=C6 (show k+1<9223372036854775808 by omega);rw [wX,set_self hx,qU];simp only [esc,c0,wk]
 | e+1,i,M2+1,t,H,hi,hM,ht,hx,hb=>by
  have c0:((i:Int)<32):=by omega
  have E1Y:i<32:=by omega
  have ad:J3 32 1 (pV x11 1) (iV (i:Int))=some (pV x11 (1+i)):=by rw [J4 E1Y];simp
  have l1:B4 H (pV x11 (1+i))=some (iV (t.getD i 0)):=by
   refine B5 hx ?_ rfl;rw [Nat.add_comm,F6,E5N,E47,E40 (by omega)];rfl
  have w1:=C6 (show i+1<9223372036854775808 by omega);have aL:D5 1 (sV bid 0 L.length 1) (iV (k:Int))=some (pV bid k):=by rw [C4 hk];simp
  have lL:B4 H (pV bid k)=some (iV no):=B5 hb (by rw [F6,E40 hk,bM];rfl) rfl;have c00:((0:Int)=0):=rfl;by_cases cz:t.getD i 0=no
  ·have s1:=F5 (x:=o0) (off:=1+i) hx (by simp [A8,ht];omega);have es:(encI (d::t)).set (1+i) o0=encI (d::t.set i 0):=by rw [bC,Nat.add_comm,E5M]
   rw [es] at s1;have ih:=B40 (x1:=x1) (x3:=x3) (x4:=x4) (x6:=x6) (x8:=x8) (x9:=x9) (q:=q) (M:=M) (d:=d) hk bM hL nb e (i+1) M2 (t.set i 0) (H.set x11 (rT (encI (d::t.set i 0)))) (by omega) (by omega) (by simp [ht]) (B7 (C5 hx)) (by rw [A7 (Ne.symm nb)];exact hb);rw [List.set_set] at ih;rw [wX,if_pos cz,<-ih,qU];simp only [esc,Nat.reduceAdd,c0,ad,l1,aL,lL,cz,E5t,s1,B0h,w1]
  ·have ih:=B40 (x1:=x1) (x3:=x3) (x4:=x4) (x6:=x6) (x8:=x8) (x9:=x9) (q:=q) (M:=M) (d:=d) hk bM hL nb e (i+1) M2 t H (by omega) (by omega) ht hx hb;rw [wX,if_neg cz,<-ih,qU];simp only [esc,Nat.reduceAdd,c0,ad,l1,aL,lL,cz,E5t,B0h,w1]
theorem E0A {L:List Int} {d:Int} {x4 x6 x8 x9 x11 bid q:Nat} {x1 x3:Val} (hL:L.length<=32) (hq:33<=q) (hg:g.length<=x4/\g.length<=x11) (hx4:¬ Q x4) (C6u:¬ Q x11) (hl:D.length<=1000) (n1:x4≠x11) (n2:x4≠x6) (n3:x4≠bid) (n4:x11≠x6) (n5:x11≠bid) :
  ∀ (e i M:Nat) (s:Cl × List Int) (cs:List Cell) (H:A6),i+e=L.length->e<M->s.2.length=32->Grows g H->(∀ id,H.length<=id->Q id)->IsRC n Q H cs s.1->s.1.taken.length=D.length->rd H x4=rT cs->rd H x6=rT (D3 D.length n m)->rd H x11=rT (encI (d::s.2))->rd H bid=rT (encI L) ->
  ∃ cs' H' M',wD q M x1 x3 (pV x4 0) (pV x6 0) (pV x8 0) (pV x9 0) (pV x11 0) (sV bid 0 L.length 1) (iV (i:Int)) H =
    wD q (M'+1) x1 x3 (pV x4 0) (pV x6 0) (pV x8 0) (pV x9 0) (pV x11 0) (sV bid 0 L.length 1) (iV (L.length:Nat)) H' /\
   Grows g H'/\(∀ id,H'.length<=id->Q id)/\IsRC n Q H' cs' (mT D n s (L.drop i)).1/\rd H' x4=rT cs'/\rd H' x11=rT (encI (d::(mT D n s (L.drop i)).2))/\H.length<=H'.length/\(∀ j,j<H.length->j≠x4->j≠x11->rd H' j=rd H j):=by
 intro e
 induction e with
 | zero =>
  intro i M s cs H hi hM hs G hQ K ht r4 r6 r11 rb;obtain ⟨M,rfl⟩:∃ M',M=M'+1:=⟨M-1,by omega⟩;have ei:i=L.length:=by omega
  subst ei;rw [List.drop_length];exact ⟨cs,H,M,rfl,G,hQ,K,r4,r11,E44 _,λ_ _ _ _=>rfl⟩
 | succ e ih =>
  intro i M s cs H hi hM hs G hQ K ht r4 r6 r11 rb;obtain ⟨M,rfl⟩:∃ M',M=M'+1:=⟨M-1,by omega⟩;have P6:i<L.length:=by omega
  have c0:(i:Int)<(L.length:Nat):=by omega
  have w1:=C6 (show i+1<9223372036854775808 by omega);have l4:C8 H 8 (pV x4 0)=some (.a cs):=B8 r4 K.length;have l6:C8 H 3 (pV x6 0)=some (.a (D3 D.length n m)):=B8 r6 rfl;have aL:D5 1 (sV bid 0 L.length 1) (iV (i:Int))=some (pV bid i):=by rw [C4 P6];simp
  have lL:B4 H (pV bid i)=some (iV L[i]):=B5 rb (by rw [F6,E40 P6];rfl) rfl;obtain ⟨cs',K1,H1,H2,a1,a2,a3,a4,a5,a6,a7,a8,a9⟩:=D8y (m:=m) (no:=L[i]) G hg.1 K r4 K.length (λid h=>hQ id (by omega)) hx4 ht hl;have q11:rd H2 x11=rT (encI (d::s.2)):=by rw [a9 _ (C5 r11) (Ne.symm n1)];exact r11
  have qb:rd H2 bid=rT (encI L):=by rw [a9 _ (C5 rb) (Ne.symm n3)];exact rb
  have q6:rd H2 x6=rT (D3 D.length n m):=by rw [a9 _ (C5 r6) (Ne.symm n2)];exact r6
  have eB:mT D n s (L.drop i)=mT D n (kA D n s L[i]) (L.drop (i+1)):=by rw [E46 P6];rfl
  rw [eB];have b1:(kA D n s L[i]).1=dG D n s.1 L[i]:=rfl;obtain ⟨H3,xR⟩:∃ H3,H3=H2.set x11 (rT (encI (d::(kA D n s L[i]).2))):=⟨_,rfl⟩;have lH3:H3.length=H2.length:=by rw [xR];simp
  have o3:∀ j,j≠x11->rd H3 j=rd H2 j:=λj hj=>by rw [xR,A7 (Ne.symm hj)]
  obtain ⟨cs2,H',M',f1,f2,f3,f4,f5,f6,f7,f8⟩:=ih (i+1) M (kA D n s L[i]) cs' H3 (by omega) (by omega) (by rw [B9z];exact hs) (by rw [xR];exact a5.set hg.2 _) (λid h=>hQ id (by omega)) (by rw [xR];exact a6.set (.inr C6u)) (by rw [b1,fX];exact ht) (by rw [o3 _ n1];exact a7) (by rw [o3 _ (Ne.symm n4)];exact q6) (by rw [xR];exact B7 (C5 q11)) (by rw [o3 _ (Ne.symm n5)];exact qb);refine ⟨cs2,H',M',?_,f2,f3,f4,f5,f6,by omega,λj hj h1 h2=>by rw [f8 j (by omega) h1 h2,o3 j h2,a9 j hj h1]⟩;have step:B0j q M q x1 x3 (pV x4 0) (pV x6 0) (pV x8 0) (pV x9 0) (pV x11 0) (sV bid 0 L.length 1) (iV (i:Int)) (iV (T0 D n s.1 L[i])) (iV 0) H2 =
    wD q M x1 x3 (pV x4 0) (pV x6 0) (pV x8 0) (pV x9 0) (pV x11 0) (sV bid 0 L.length 1) (iV ((i+1:Nat):Int)) H3:=by
   by_cases cz:T0 D n s.1 L[i]=0
   ·have eb2:(kA D n s L[i]).2=wX L[i] 32 0 s.2:=by unfold kA;dsimp only;rw [if_pos cz]
    have:=B40 (x1:=x1) (x3:=x3) (x4:=pV x4 0) (x6:=pV x6 0) (x8:=pV x8 0) (x9:=pV x9 0) (q:=q) (M:=M) (d:=d) P6 rfl hL (Ne.symm n5) 32 0 q s.2 H2 (by omega) (by omega) hs q11 qb;rw [cz,xR,eb2];exact this
   ·have eb2:(kA D n s L[i]).2=s.2:=by unfold kA;dsimp only;rw [if_neg cz]
    obtain ⟨q',rfl⟩:∃ q',q=q'+1:=⟨q-1,by omega⟩;have E3Q:(0:Int)<32:=by decide
    rw [xR,eb2,set_self q11,qU];simp only [esc,E3Q,cz,w1]
  rw [B0i,A4g];simp only [esc,Nat.reduceAdd,c0,l4,l6,aL,lL,a1,a2,a3,a4];exact step.trans f1
end
end
theorem D2G {d:Int} {t:List Int} {i c:Nat} (h:C22 (B9 d) t i c=true):bJ d t i<=c:=by
 false_or_by_contra
 have:=D2H (d:=d) (t:=t) (p:=i) (c:=c) (by omega);rw [h] at this;cases this
theorem D9D {d:Int} {t:List Int} {i c:Nat} (hi:i<B9 d) (hc:C22 (B9 d) t i c=true\/V1 d<=c) (h:∀ k,k<B9 d->toX t k=toX t i->k%2 ^ c=i%2 ^ c):A2A d t i=true:=by
 have hb:bJ d t i<=c:=by
  rcases hc with hc | hc
  ·exact D2G hc
  ·exact E5E C5D hc
 rw [D0C hi];exact λk hk hs=>D4J hb (h k hk hs)
def C9M (t:List Int) (no:Int) (f b i:Nat):Bool:=decide (toX t i=no)==(i%2 ^ b==f%2 ^ b)
def B9F (n:Nat) (t:List Int) (no:Int) (f b:Nat):Bool:=(E5D 0 n).all (C9M t no f b)
def zD (n:Nat) (t:List Int) (no:Int) (f b:Nat):Nat->Bool
 | 0=>false
 | e+1=>B9F n t no f b||zD n t no f (b+1) e
theorem C1i {d no:Int} {t:List Int} {g:A6} {f b q m:Nat} (ht:t.length=32) (hb:b<=5):∀ (e i m2:Nat) (a:Bool),i+e=B9 d->e<m2 ->
  B2K q m m2 (iV no) (pV g.length 0) (iV (f:Int)) (iV (b:Int)) (bV a) (iV (i:Int)) (g++[rT (encI (d::t))]) =
   bif a&&(E5D i e).all (C9M t no f b) then some (.t [.c (.i .i64 (b:Int)),.c (.b true)],g++[rT (encI (d::t))])
   else A3z q m (iV no) (pV g.length 0) (iV (f:Int)) (iV ((b+1:Nat):Int)) (g++[rT (encI (d::t))])
 | e,i,0,a,_,hm=>by omega
 | 0,i,m2+1,a,hi,hm=>by
  have c0:¬ (i:Int)<(B9 d:Nat):=by omega
  have w1:=C6 (show b+1<9223372036854775808 by omega);have hB:=D6 (d:=d) ht;have hD:=λh=>aP (d:=d) (t:=t) (h:=h)
  have hP:=λh=>aQ (d:=d) (h:=h)
  rw [A4D,List.range'_zero,List.all_nil,Bool.and_true];generalize encI (d::t)=y at *;cases a<;>simp only [esc,esh,Nat.reduceAdd,Nat.reduceMul,Nat.reduceLT,hB,hD,hP,c0,w1]
 | e+1,i,m2+1,a,hi,hm=>by
  have ih:=λa=>C1i (d:=d) (no:=no) (g:=g) (f:=f) (q:=q) (m:=m) ht hb e (i+1) m2 a (by omega) (by omega)
  have c0:(i:Int)<(B9 d:Nat):=by omega
  have C6r:=N8 d;have hB:=D6 (d:=d) ht;have hD:=λh=>aP (d:=d) (t:=t) (h:=h)
  have hP:=λh=>aQ (d:=d) (h:=h)
  have hI:=λh=>D3I (i:=i) (p:=f) (b:=b) (h:=h) (by omega)
  have a1:=adX (id:=g.length) (i:=i) (by omega);have x1:=C57 (d:=d) (i:=i) ht (by omega);have w1:=C6 (show i+1<9223372036854775808 by omega);rw [A4D,List.range'_succ,E5J];cases a with
  | false =>
   have ih:=ih false;rw [E48,cond_false] at ih ⊢;generalize encI (d::t)=y at *;simp only [esc,esh,Nat.reduceAdd,Nat.reduceMul,Nat.reduceLT,hB,hD,hP,c0,w1];exact ih
  | true =>
   rw [E5d];have ih:=ih (C9M t no f b i);rw [<-ih];unfold C9M;by_cases ce:toX t i=no
   ·rw [decide_eq_true ce];generalize (i%2 ^ b==f%2 ^ b)=C at *;generalize encI (d::t)=y at *;cases C<;>simp only [esc,esh,Nat.reduceAdd,Nat.reduceMul,Nat.reduceLT,hB,hD,hP,c0,hI,a1,x1,ce,w1]<;>rfl
   ·rw [decide_eq_false ce];generalize (i%2 ^ b==f%2 ^ b)=C at *;generalize encI (d::t)=y at *;cases C<;>simp only [esc,esh,Nat.reduceAdd,Nat.reduceMul,Nat.reduceLT,hB,hD,hP,c0,hI,a1,x1,ce,w1]<;>rfl
theorem C1j {d no:Int} {t:List Int} {g:A6} {f q:Nat} (ht:t.length=32) (hq:32<q):∀ (e b m:Nat),b+e=V1 d+1->e<m ->
  ∃ w:Int,A3z q m (iV no) (pV g.length 0) (iV (f:Int)) (iV (b:Int)) (g++[rT (encI (d::t))])=some (.t [.c (.i .i64 w),.c (.b (zD (B9 d) t no f b e))],g++[rT (encI (d::t))])
 | e,b,0,_,hm=>by omega
 | 0,b,m+1,hb,hm=>by
  have c0:¬ (b:Int)<=(V1 d:Nat):=by omega
  have hB:=D6 (d:=d) ht;have hD:=λh=>aP (d:=d) (t:=t) (h:=h)
  have e0:zD (B9 d) t no f b 0=false:=rfl;rw [A4C,e0];generalize encI (d::t)=y at *;exact ⟨0,by simp only [esc,esh,Nat.reduceAdd,Nat.reduceMul,Nat.reduceLT,hB,hD,c0]⟩
 | e+1,b,m+1,hb,hm=>by
  have hdl:=qS d;have C6r:=N8 d;have c0:(b:Int)<=(V1 d:Nat):=by omega
  have c1:(f:Int)>=0:=by omega
  have hB:=D6 (d:=d) ht;have hD:=λh=>aP (d:=d) (t:=t) (h:=h)
  obtain ⟨w,ih⟩:=C1j (d:=d) (no:=no) (t:=t) (g:=g) (f:=f) (q:=q) ht hq e (b+1) m (by omega) (by omega);have hI:=C1i (d:=d) (no:=no) (g:=g) (f:=f) (b:=b) (q:=q) (m:=m) ht (by omega) (B9 d) 0 q true (by omega) (by omega);rw [E5d,show (((0:Nat):Int))=0 from rfl,show (E5D 0 (B9 d)).all (C9M t no f b)=B9F (B9 d) t no f b from rfl] at hI;rw [zD,A4C];cases ca:B9F (B9 d) t no f b with
  | true =>
   rw [ca,cond_true] at hI;rw [Bool.true_or];refine ⟨b,?_⟩;generalize encI (d::t)=y at *;simp only [esc,esh,Nat.reduceAdd,Nat.reduceMul,Nat.reduceLT,hB,hD,c0,c1];exact hI
  | false =>
   rw [ca,cond_false] at hI;rw [Bool.false_or];refine ⟨w,?_⟩;rw [<-ih];generalize encI (d::t)=y at *;simp only [esc,esh,Nat.reduceAdd,Nat.reduceMul,Nat.reduceLT,hB,hD,c0,c1];exact hI
theorem A2e {d no:Int} {t:List Int} {g:A6} {f q:Nat} (ht:t.length=32) (hq:32<q) (hf:f<B9 d) (he:toX t f=no) (hn:∀ k,k<f->toX t k≠no):∀ (e i m:Nat) (x:Int),i+e=B9 d->e<m->x=(if i<=f then -1 else (f:Int)) ->
  ∃ w:Int,B2J q m (iV no) (pV g.length 0) (iV x) (iV (i:Int)) (g++[rT (encI (d::t))])=some (.t [.c (.i .i64 w),.c (.b (zD (B9 d) t no f 0 (V1 d+1)))],g++[rT (encI (d::t))])
 | e,i,0,x,_,hm,_=>by omega
 | 0,i,m+1,x,hi,hm,hx=>by
  have c0:¬ (i:Int)<(B9 d:Nat):=by omega
  rw [if_neg (by omega)] at hx;subst hx;have hB:=D6 (d:=d) ht;have hD:=λh=>aP (d:=d) (t:=t) (h:=h)
  have hP:=λh=>aQ (d:=d) (h:=h)
  have hdl:=qS d;obtain ⟨w,e⟩:=C1j (d:=d) (no:=no) (t:=t) (g:=g) (f:=f) (q:=q) ht hq (V1 d+1) 0 q (by omega) (by omega);rw [A4B];refine ⟨w,?_⟩;generalize encI (d::t)=y at *;simp only [esc,esh,Nat.reduceAdd,Nat.reduceMul,Nat.reduceLT,hB,hD,hP,c0];exact e
 | e+1,i,m+1,x,hi,hm,hx=>by
  have c0:(i:Int)<(B9 d:Nat):=by omega
  have C6r:=N8 d;have hB:=D6 (d:=d) ht;have hD:=λh=>aP (d:=d) (t:=t) (h:=h)
  have hP:=λh=>aQ (d:=d) (h:=h)
  have a1:=adX (id:=g.length) (i:=i) (by omega);have x1:=C57 (d:=d) (i:=i) ht (by omega);have w1:=C6 (show i+1<9223372036854775808 by omega);rw [A4B];by_cases ce:toX t i=no
  ·by_cases cx:i<=f
   ·rw [if_pos cx] at hx;subst hx;have:i=f:=by
     by_cases c:i<f
     ·exact absurd ce (hn i c)
     ·omega
    subst this;have c1:(-1:Int)<0:=by omega
    obtain ⟨w,ih⟩:=A2e (d:=d) (no:=no) (t:=t) (f:=i) (q:=q) (g:=g) ht hq hf he hn e (i+1) m (i:Int) (by omega) (by omega) (by rw [if_neg (by omega)]);refine ⟨w,?_⟩;generalize encI (d::t)=y at *;simp only [esc,esh,Nat.reduceAdd,Nat.reduceMul,Nat.reduceLT,hB,hD,hP,c0,a1,x1,ce,c1,tU,w1];exact ih
   ·rw [if_neg cx] at hx;subst hx;have c1:¬ (f:Int)<0:=by omega
    obtain ⟨w,ih⟩:=A2e (d:=d) (no:=no) (t:=t) (f:=f) (q:=q) (g:=g) ht hq hf he hn e (i+1) m (f:Int) (by omega) (by omega) (by rw [if_neg (by omega)]);refine ⟨w,?_⟩;generalize encI (d::t)=y at *;simp only [esc,esh,Nat.reduceAdd,Nat.reduceMul,Nat.reduceLT,hB,hD,hP,c0,a1,x1,ce,c1,tU,w1];exact ih
  ·have:(i+1<=f)↔i<=f:=by
    constructor
    ·omega
    ·intro h;by_cases c:i=f
     ·rw [c] at ce;exact absurd he ce
     ·omega
   obtain ⟨w,ih⟩:=A2e (d:=d) (no:=no) (t:=t) (f:=f) (q:=q) (g:=g) ht hq hf he hn e (i+1) m x (by omega) (by omega) (by rw [hx];by_cases c:i<=f;rw [if_pos c,if_pos (this.2 c)];rw [if_neg c,if_neg (λh=>c (this.1 h))]);refine ⟨w,?_⟩;generalize encI (d::t)=y at *;simp only [esc,esh,Nat.reduceAdd,Nat.reduceMul,Nat.reduceLT,hB,hD,hP,c0,a1,x1,ce,tU,w1];exact ih
theorem D8k {t:List Int}:∀ i,∃ f,f<=i/\toX t f=toX t i/\∀ k,k<f->toX t k≠toX t i:=by
 intro i
 induction i using Nat.strongRecOn with
 | ind i ih =>
  by_cases c:∃ k,k<i/\toX t k=toX t i
  ·obtain ⟨k,hk,he⟩:=c;obtain ⟨f,h1,h2,h3⟩:=ih k hk;exact ⟨f,by omega,h2.trans he,λj hj=>by rw [<-he];exact h3 j hj⟩
  ·exact ⟨i,E44 _,rfl,λk hk he=>c ⟨k,hk,he⟩⟩
theorem C5X {n:Nat} {t:List Int} {no:Int} {f b:Nat}:B9F n t no f b=true↔∀ k,k<n->(toX t k=no↔k%2 ^ b=f%2 ^ b):=by
 unfold B9F C9M;rw [<-List.range_eq_range',E5S];constructor
 ·intro h k hk;have:=h k (List.mem_range.2 hk);rw [beq_iff_eq,Bool.eq_iff_iff,decide_eq_true_eq,beq_iff_eq] at this;exact this
 ·intro h k hk;rw [beq_iff_eq,Bool.eq_iff_iff,decide_eq_true_eq,beq_iff_eq];exact h k (List.mem_range.1 hk)
theorem C1l {n:Nat} {t:List Int} {no:Int} {f:Nat}:∀ e b,zD n t no f b e=true↔∃ c,b<=c/\c<b+e/\B9F n t no f c=true
 | 0,b=>by
  unfold zD;constructor
  ·intro h;cases h
  ·rintro ⟨c,h1,h2,_⟩;omega
 | e+1,b=>by
  unfold zD;rw [E5V,C1l e (b+1)];constructor
  ·rintro (h | ⟨c,h1,h2,h3⟩)
   ·exact ⟨b,E44 _,by omega,h⟩
   ·exact ⟨c,by omega,by omega,h3⟩
  ·rintro ⟨c,h1,h2,h3⟩;by_cases e:c=b
   ·rw [e] at h3;exact .inl h3
   ·exact .inr ⟨c,by omega,by omega,h3⟩
theorem D2S {d:Int} {t:List Int} {i f:Nat} (hi:i<B9 d) (hz:toX t i≠0) (he:toX t f=toX t i) (hf:f<B9 d):zD (B9 d) t (toX t i) f 0 (V1 d+1)=A2A d t i:=by
 rw [Bool.eq_iff_iff,C1l];constructor
 ·rintro ⟨c,_,hc,h⟩;have h:=C5X.1 h;have hif:=(h i hi).1 rfl;refine D9D (c:=c) hi (.inl (D2s.2 ⟨hz,λk hk hm=>(h k hk).2 (hm.trans hif)⟩)) λk hk hs=>((h k hk).1 hs).trans hif.symm
 ·intro h;have h:=(D0C hi).1 h;refine ⟨bJ d t i,Nat.zero_le _,by have:=C5D (d:=d) (t:=t) (p:=i);omega,C5X.2 λk hk=>?_⟩;have hfi:=h f hf he;constructor
  ·intro hs;exact (h k hk hs).trans hfi.symm
  ·intro hm;exact C5Y hi hk (hm.trans hfi)
theorem C7h {d:Int} {t:List Int} {i:Nat} {h:A6} (ht:t.length=32) (hi:i<B9 d) (hz:toX t i≠0):∃ w:Int,A5U [.a (encI (d::t)),iV (toX t i)] h=some (.t [.c (.i .i64 w),.c (.b (A2A d t i))],h):=by
 obtain ⟨f,h1,h2,h3⟩:=D8k (t:=t) i;have hm:=N8 d;obtain ⟨w,e⟩:=A2e (d:=d) (no:=toX t i) (t:=t) (g:=ro h) (f:=f) (q:=33) ht (by omega) (by omega) h2 h3 (B9 d) 0 33 (-1) (by omega) (by omega) (by rw [if_pos (by omega)]);rw [D2S hi hz h2 (by omega)] at e;refine ⟨w,B57 (n:=33) (h2:=ro h++[rT (encI (d::t))]) ?_ rfl⟩;rw [C19];exact e
theorem B0W {d:Int} {t:List Int} {g h:A6} {i q m:Nat} {x3:Val} {x6:Bool} (ht:t.length=32) (hi:i<32) (hrd:rd h g.length=rT (encI (d::t))):∀ (e k m2:Nat) (a:Bool),k+e=i->e<m2 ->
  ∃ a2:Bool,a2=(a&&(E5D k e).all λk=>!decide (toX t k=toX t i)) /\
  A2j q m m2 (pV g.length 0) (pV (g.length+1) 0) x3 (iV (i:Int)) (bV x6) (bV a) (iV (k:Int)) h =
   A2j q m 1 (pV g.length 0) (pV (g.length+1) 0) x3 (iV (i:Int)) (bV x6) (bV a2) (iV (i:Int)) h
 | e,k,0,a,_,hm=>by omega
 | 0,k,m2+1,a,hk,hm=>by
  have e0:k=i:=by omega
  subst e0;have c0:¬ (k:Int)<k:=by omega
  refine ⟨a,by rw [List.range'_zero,List.all_nil,Bool.and_true],?_⟩;rw [kK,kK];cases a<;>cases x6<;>simp only [esc,c0]
 | e+1,k,m2+1,a,hk,hm=>by
  have c0:(k:Int)<i:=by omega
  have a1:=adX (id:=g.length) (i:=k) (by omega);have l1:=ldX (h:=h) (id:=g.length) hrd ht (i:=k) (by omega);have a2:=adX (id:=g.length) (i:=i) (by omega);have l2:=ldX (h:=h) (id:=g.length) hrd ht (i:=i) (by omega);have w1:=C6 (show k+1<9223372036854775808 by omega);cases a with
  | false =>
   obtain ⟨b,hb,ih⟩:=B0W (q:=q) (m:=m) (x3:=x3) (x6:=x6) ht hi hrd e (k+1) m2 false (by omega) (by omega);refine ⟨b,by rw [hb,E48,E48],?_⟩;rw [<-ih]
   conv=>lhs;rw [kK]
   simp only [esc,c0,w1]
  | true =>
   obtain ⟨b,hb,ih⟩:=B0W (q:=q) (m:=m) (x3:=x3) (x6:=x6) ht hi hrd e (k+1) m2 (!decide (toX t k=toX t i)) (by omega) (by omega);refine ⟨b,by rw [hb,List.range'_succ,E5J,E5d],?_⟩;rw [<-ih]
   conv=>lhs;rw [kK]
   by_cases c:toX t k=toX t i
   ·rw [decide_eq_true c];rw [c] at l1;simp only [esc,c0,a1,l1,a2,l2,w1]
   ·rw [decide_eq_false c];simp only [esc,c0,a1,l1,a2,l2,c,w1]
theorem B9X {d:Int} {t:List Int} {g:A6} {q:Nat} (ht:t.length=32) (h0:0<=d) (h5:d<=5) (hq:32<q):∀ (e i m:Nat) (h:A6),i+e=B9 d->e<m->Low (g++[rT (encI (d::t)),rT (encI (0::zI 32))]).length (g++[rT (encI (d::t)),rT (encI (0::zI 32))]) h->rd h (g.length+2)=rT (encI (d::pG d t i)) ->
  ∃ h',A2i q m (pV g.length 0) (pV (g.length+1) 0) (pV (g.length+2) 0) (iV (i:Int)) h=some (.a (encI (d::pG d t (B9 d))),h')
 | e,i,0,h,_,hm,_,_=>by omega
 | 0,i,m+1,h,hi,hm,hlow,hr=>by
  have e0:i=B9 d:=by omega
  subst e0;have c0:¬ ((B9 d:Nat):Int)<(B9 d:Nat):=by omega
  have hF:=D6 (d:=d) (wG (d:=d) (t:=t) (N8 d));have hz:(encI (0::zI 32)).length=33:=D6 (d:=0) G9;have hrd:rd h g.length=rT (encI (d::t)):=hlow.rd (by simp);have hr1:rd h (g.length+1)=rT (encI (0::zI 32)):=hlow.rd (by simp);have ld:B4 h (pV g.length 0)=some (iV d):=B5 (off:=0) (c:=.i .i64 d) hrd rfl (by simp [Cell.isX]);have hP:=λh=>aQ (d:=d) (h:=h)
  rw [B1g h0 h5] at hP;have s1:=B8 (h:=h) (id:=g.length+2) hr hF;have s2:=storeAll (h:=h) (id:=g.length+1) (xs:=encI (d::pG d t (B9 d))) hr1 hz hF;have s3:=B8 (h:=h.set (g.length+1) (rT (encI (d::pG d t (B9 d))))) (id:=g.length+1) (B7 (C5 hr1)) hF;rw [B0a];generalize encI (d::pG d t (B9 d))=z at *;exact ⟨_,by simp only [esc,ld,hP,c0,s1,s2,s3]<;>rfl⟩
 | e+1,i,m+1,h,hi,hm,hlow,hr=>by
  have C6r:=N8 d;have c0:(i:Int)<(B9 d:Nat):=by omega
  have hB:=D6 (d:=d) ht;have hrd:rd h g.length=rT (encI (d::t)):=hlow.rd (by simp);have ld:B4 h (pV g.length 0)=some (iV d):=B5 (off:=0) (c:=.i .i64 d) hrd rfl (by simp [Cell.isX]);have hP:=λh=>aQ (d:=d) (h:=h)
  rw [B1g h0 h5] at hP;have s1:=B8 (h:=h) (id:=g.length) (cs:=encI (d::t)) hrd hB;have a1:=adX (id:=g.length) (i:=i) (by omega);have l1:=ldX (h:=h) (id:=g.length) hrd ht (i:=i) (by omega);have hFi:=λh=>B3a (n:=toX t i) (h:=h)
  have w1:=C6 (show i+1<9223372036854775808 by omega);have hk:i<32:=by omega
  have skip:rJ d t i=0 ->
    ∃ h',A2i q m (pV g.length 0) (pV (g.length+1) 0) (pV (g.length+2) 0) (iV ((i+1:Nat):Int)) h=some (.a (encI (d::pG d t (B9 d))),h'):=by
   intro hf;exact B9X (q:=q) ht h0 h5 hq e (i+1) m h (by omega) (by omega) hlow (by rw [C9V hk hf];exact hr)
  have a3:=adX (id:=g.length+2) (i:=i) hk;have put:rJ d t i=toX t i ->
    ∃ h3,F9 h (pV (g.length+2) (1+i)) (iV (toX t i))=some h3/\∃ h',A2i q m (pV g.length 0) (pV (g.length+1) 0) (pV (g.length+2) 0) (iV ((i+1:Nat):Int)) h3=some (.a (encI (d::pG d t (B9 d))),h'):=by
   intro hf;have hF:=D6 (d:=d) (wG (d:=d) (t:=t) (k:=i) (by omega));have t1:=F5 (x:=.i .i64 (toX t i)) (off:=1+i) hr (by rw [hF];omega);rw [B6M,<-hf,<-C9W hk,hf] at t1;refine ⟨_,t1,B9X (q:=q) ht h0 h5 hq e (i+1) m _ (by omega) (by omega) (hlow.set (by simp) _) (B7 (C5 hr))⟩
  rw [B0a];by_cases cz:toX t i=0
  ·have hf:rJ d t i=0:=by unfold rJ A2r;rw [decide_eq_true cz];rfl
   obtain ⟨h',ih⟩:=skip hf;rw [cz] at l1;refine ⟨h',?_⟩;generalize encI (d::t)=z at *;simp only [esc,ld,hP,c0,a1,l1,kJ,w1];exact ih
  ·cases cf:uA (toX t i) with
   | false =>
    rw [cf] at hFi;have hf:rJ d t i=0:=by unfold rJ A2r;rw [cf,E48,E5Y,cond_false]
    obtain ⟨h',ih⟩:=skip hf;refine ⟨h',?_⟩;generalize encI (d::t)=z at *;simp only [esc,ld,hP,c0,a1,l1,cz,hFi,kJ,w1];exact ih
   | true =>
    rw [cf] at hFi;obtain ⟨wb,hC⟩:=C7h (d:=d) (t:=t) (i:=i) (h:=h) ht (by omega) cz;have hq2:=U9 (Grows.rfl' (h:=h)) (v:=.t [.c (.i .i64 wb),.c (.b (A2A d t i))]);obtain ⟨a2,ha2,hL⟩:=B0W (d:=d) (t:=t) (g:=g) (h:=h) (i:=i) (q:=q) (m:=m) (x3:=pV (g.length+2) 0) (x6:=A2A d t i) ht hk hrd i 0 q true (by omega) (by omega);rw [E5d,<-List.range_eq_range',show (E5v i).all (λk=>!decide (toX t k=toX t i))=nA t i from rfl] at ha2;subst ha2;rw [kK q m 0] at hL;have ci:¬ (i:Int)<i:=by omega
    rw [show (((0:Nat):Int))=0 from rfl] at hL;have fin:∃ h',A2j q m q (pV g.length 0) (pV (g.length+1) 0) (pV (g.length+2) 0) (iV (i:Int)) (bV (A2A d t i)) (bV true) (iV 0) h=some (.a (encI (d::pG d t (B9 d))),h'):=by
     rw [hL];cases cw:A2A d t i with
     | true =>
      have hf:rJ d t i=toX t i:=by unfold rJ A2r;rw [cf,cw,decide_eq_false cz,Bool.or_true];rfl
      obtain ⟨h3,st,h',ih⟩:=put hf;refine ⟨h',?_⟩;simp only [esc,ci,a1,l1,a3,st,kJ,w1];exact ih
     | false =>
      cases cs:nA t i with
      | true =>
       have hf:rJ d t i=toX t i:=by unfold rJ A2r;rw [cf,cs,decide_eq_false cz];rfl
       obtain ⟨h3,st,h',ih⟩:=put hf;refine ⟨h',?_⟩;simp only [esc,ci,a1,l1,a3,st,kJ,w1];exact ih
      | false =>
       have hf:rJ d t i=0:=by unfold rJ A2r;rw [cf,cs,cw,decide_eq_false cz];rfl
       obtain ⟨h',ih⟩:=skip hf;refine ⟨h',?_⟩;simp only [esc,ci,kJ,w1];exact ih
    obtain ⟨h',e⟩:=fin;refine ⟨h',?_⟩;generalize encI (d::t)=z at *;simp only [esc,ld,hP,c0,a1,l1,cz,hFi,s1,hC,hq2];exact e
theorem D10 {d:Int} {t:List Int} {h:A6} (ht:t.length=32):B3Y [.a (encI (d::t))] h=some (.a (encI (C8H d t)),h):=by
 have key:∀ N,32<N->∀ g,∃ g',B3s N [.a (encI (d::t))] g=some (.a (encI (C8H d t)),g'):=by
  intro N hN g;have hB:=D6 (d:=d) ht;have hz:(encI (0::zI 32)).length=33:=D6 (d:=0) G9;have l0:(encI (d::t))[0]?=some (.i .i64 d):=rfl;have haf:D9 (encI (0::zI 32)) []=some (encI (0::zI 32)):=rfl;rw [C7V,B01];unfold C8H;by_cases c1:d<0
  ·rw [if_neg (by omega)];generalize encI (0::zI 32)=z at *;generalize encI (d::t)=y at *;exact ⟨_,by simp only [esc,esh,Nat.reduceAdd,Nat.reduceMul,Nat.reduceLT,hB,hz,l0,c1,haf]<;>rfl⟩
  ·by_cases c2:5<d
   ·rw [if_neg (by omega)];generalize encI (0::zI 32)=z at *;generalize encI (d::t)=y at *;exact ⟨_,by simp only [esc,esh,Nat.reduceAdd,Nat.reduceMul,Nat.reduceLT,hB,hz,l0,c1,c2,haf]<;>rfl⟩
   ·rw [if_pos (by omega)];have es:(encI (0::zI 32)).set 0 (.i .i64 d)=encI (d::zI 32):=rfl;have hz2:(encI (d::zI 32)).length=33:=D6 (d:=d) G9;have U8:0<(encI (0::zI 32)).length:=by rw [hz];omega
    obtain ⟨h',e⟩:=B9X (g:=g) (d:=d) (t:=t) (q:=N) ht (by omega) (by omega) hN (B9 d) 0 N (g++[rT (encI (d::t)),rT (encI (0::zI 32)),rT (encI (d::zI 32))]) (by omega) (by have:=N8 d;omega)
     (by have:=(Low.refl (h:=g++[rT (encI (d::t)),rT (encI (0::zI 32))]) (E44 _)).new [rT (encI (d::zI 32))];simpa using this) (by rw [C9X];simp)
    refine ⟨h',?_⟩;generalize encI (d::zI 32)=z2 at *;generalize encI (0::zI 32)=z at *;generalize encI (d::t)=y at *;simp only [esc,esh,Nat.reduceAdd,Nat.reduceMul,Nat.reduceLT,hB,hz,l0,c1,c2,haf,U8,es,hz2];exact e
 obtain ⟨g',e⟩:=key (h.length+33) (by omega) (ro h);exact C2M e (by simp)
section
section
variable {D:Dev} {n m:Int} {P:Nat->Prop} {h:A6} {c:Cl} {cs:List Cell} {v:Val}
theorem E0z {x4 x6 x8 x9 x11 ino:Nat} {no p0 d:Int} {t:List Int} {Q:Nat->Prop} {H:A6} {Rr B S Lo:Nat} (hv:Has h v 256 D.length (D1 D)) (hD:okD D) (e4:x4=h.length) (e6:x6=h.length+1) (e8:x8=h.length+2) (e9:x9=h.length+3) (e11:h.length+4<x11)
  (hQ0:Q=λid=>(P id/\id<h.length)\/x11+1<=id) (hHl:x11+1<=H.length) (G:Grows h H) (K:IsRC n Q H cs c) (ht:c.taken.length=D.length) (hl:D.length<=1000) (h32:t.length=32) (hn:n<=128)
  (r4:rd H x4=rT cs) (r6:rd H x6=rT (D3 D.length n m)) (r8:rd H x8=rT Z8) (r9:rd H x9=rT (encI (2::1::0::p0::no::zI 6))) (r11:rd H x11=rT (encI (d::t))) (hin:ino<c.ino.length) (P6:∀ x∈c.ino,x.length=11) (hc:c.ino.length<=1000)
  (hR:RowW n c) (sm:Small c Rr B S Lo) (hRr:Rr<=700) (hB:B<=500000) (hSs:S<=50000) (hLo:Lo<=500000) :
  ∃ cs' H',B0f 200 v (iV (ino:Int)) (pV x4 0) (pV x6 0) (pV x8 0) (pV x9 0) (pV x11 0) H=some (.a cs',H')/\Grows h H'/\IsRC n (λid=>P id\/h.length<=id) H' cs'
   (if no=0 then { c with ino:=c.ino.set ino (2::1::0::p0::no::zI 6) } else vX D n { c with ino:=c.ino.set ino (2::1::0::p0::no::zI 6) } ino no d t):=by
 obtain ⟨ii,hii⟩:∃ ii,ii=2::1::0::p0::no::zI 6:=⟨_,rfl⟩;rw [<-hii] at r9 ⊢;have iil:ii.length=11:=by rw [hii];rfl
 have i4:ii.getD 4 0=no:=by rw [hii];rfl
 have hQ:∀ id,H.length<=id->Q id:=λid hid=>by rw [hQ0];exact .inr (by omega)
 have nQ4:¬ Q x4:=by rw [hQ0];intro hh;rcases hh with hh | hh<;>omega
 have nQ8:¬ Q x8:=by rw [hQ0];intro hh;rcases hh with hh | hh<;>omega
 have E3o:¬ Q x11:=by rw [hQ0];intro hh;rcases hh with hh | hh<;>omega
 obtain ⟨v49,p50,H1,cs1,H2,b1,b2,b3,b4,b5,b6,b7,b8,b9,b10,b11⟩:=D0q (g:=h) G (by omega) K r4 hQ nQ4 r9 iil hin P6 hc (by omega);have ef:D9 [] []=some []:=rfl;have q9:rd H2 x9=rT (encI ii):=by rw [b11 _ (C5 r9) (by omega)];exact r9
 have q8:rd H2 x8=rT Z8:=by rw [b11 _ (C5 r8) (by omega)];exact r8
 have q6:rd H2 x6=rT (D3 D.length n m):=by rw [b11 _ (C5 r6) (by omega)];exact r6
 have q11:rd H2 x11=rT (encI (d::t)):=by rw [b11 _ (C5 r11) (by omega)];exact r11
 have l9:B4 H2 (pV x9 4)=some (iV no):=by rw [eU q9 (by omega),i4]
 have l8c:C8 H2 8 (pV x4 0)=some (.a cs1):=B8 b9 b8.length;have ad0:∀ x,J3 6 1 (pV x 4) (iV 0)=some (pV x 4):=λx=>J4 (j:=0) (by omega)
 have toP:∀ id,Q id->P id\/h.length<=id:=λid hid=>by
  rw [hQ0] at hid;rcases hid with hid | hid
  ·exact .inl hid.1
  ·exact .inr (by omega)
 by_cases hz:no=0
 ·rw [if_pos hz];obtain ⟨H3,xR⟩:∃ H3,H3=H2.set x8 (rT cs1):=⟨_,rfl⟩;have s8:E1 H2 8 (pV x8 0) (.a cs1)=some H3:=by rw [storeAll (n:=8) q8 rfl b8.length,xR]
  have l8:C8 H3 8 (pV x8 0)=some (.a cs1):=B8 (by rw [xR];exact B7 (C5 q8)) b8.length;refine ⟨cs1,H3,?_,by rw [xR];exact b7.set (by omega) _,by rw [xR];exact (b8.set (.inr nQ8)).mono toP⟩;rw [hz] at l9;rw [B0g];simp only [esc,Nat.reduceAdd,ef,b1,b2,b3,b4,b5,b6,ad0,l9,l8c,s8,l8]
 ·rw [if_neg hz];have h33:(encI (d::t)).length=33:=by simp [A8,h32]
  have l11:C8 H2 33 (pV x11 0)=some (.a (encI (d::t))):=B8 q11 h33;have hF:=D10 (d:=d) (t:=t) (h:=H2) h32;rw [B4K] at hF;have f32:=wH (d:=d) (t:=t);obtain ⟨d',hd'⟩:∃ d',d'=V7 d t:=⟨_,rfl⟩;obtain ⟨t0,ht0⟩:∃ t0,t0=eY d t:=⟨_,rfl⟩;rw [<-hd',<-ht0] at hF;rw [<-ht0] at f32;have C6q:(encI (d'::t0)).length=33:=by simp [A8,f32]
  obtain ⟨H3,xR⟩:∃ H3,H3=H2.set x11 (rT (encI (d'::t0))):=⟨_,rfl⟩;have s11:E1 H2 33 (pV x11 0) (.a (encI (d'::t0)))=some H3:=by rw [storeAll q11 h33 C6q,xR]
  have q311:rd H3 x11=rT (encI (d'::t0)):=by rw [xR];exact B7 (C5 q11)
  have l311:C8 H3 33 (pV x11 0)=some (.a (encI (d'::t0))):=B8 q311 C6q;have o3:∀ j,j≠x11->rd H3 j=rd H2 j:=λj hj=>by rw [xR,A7 (Ne.symm hj)]
  have lH3:H3.length=H2.length:=by rw [xR];simp
  have hBu:=A42 (d:=d') (t:=t0) (h:=H3) f32;obtain ⟨L,hL⟩:∃ L,L=J6 t0 (B9 d'):=⟨_,rfl⟩;have hLl:L.length<=32:=by rw [hL];exact E5E (fI ..) (N8 d')
  rw [<-hL] at hBu;obtain ⟨H4,hH4⟩:∃ H4,H4=H3++[rT (encI L)]:=⟨_,rfl⟩;rw [<-hH4] at hBu;have lH4:H4.length=H3.length+1:=by rw [hH4];simp
  have G3:Grows h H3:=by rw [xR];exact b7.set (by omega) _
  have G34:Grows H3 H4:=by rw [hH4];exact (Grows.rfl').new _
  obtain ⟨Q2,hQ2⟩:∃ Q2:Nat->Prop,Q2=λid=>(Q id/\id<H2.length)\/H2.length+1<=id:=⟨_,rfl⟩
  have K4:IsRC n Q2 H4 cs1 { c with ino:=c.ino.set ino ii }:=by
   have k2:=b8.low;have k3:IsRC n (λid=>Q id/\id<H2.length) H3 cs1 { c with ino:=c.ino.set ino ii }:=by
    rw [xR];exact k2.set (.inr λhh=>E3o hh.1)
   exact (k3.grows G34).mono λid hid=>by rw [hQ2];exact .inl hid
  have E2j:¬ Q2 x4:=by rw [hQ2];intro hh;rcases hh with hh | hh;exact nQ4 hh.1;have:=C5 b9;omega
  have E2k:¬ Q2 x8:=by rw [hQ2];intro hh;rcases hh with hh | hh;exact nQ8 hh.1;have:=C5 q8;omega
  have E3p:¬ Q2 x11:=by rw [hQ2];intro hh;rcases hh with hh | hh;exact E3o hh.1;have:=C5 q11;omega
  have to4:∀ {id r},rd H2 id=some r->id≠x11->rd H4 id=some r:=λhr T5=>G34.rd (by rw [o3 _ T5];exact hr)
  have lt8:=C5 q8;have lt9:=C5 q9;have lt11:=C5 q11;have lt4:=C5 b9;have lt6:=C5 q6;obtain ⟨cs2,H5,M5,f1,f2,f3,f4,f5,f6,f7,f8⟩:=E0A (D:=D) (m:=m) (g:=h) (Q:=Q2) (n:=n) (L:=L) (d:=d') (x1:=v) (x3:=iV (ino:Int)) (x4:=x4) (x6:=x6) (x8:=x8) (x9:=x9) (x11:=x11) (bid:=H2.length) (q:=200) hLl (by omega) ⟨by omega,by omega⟩ E2j E3p hl (by omega) (by omega) (by omega) (by omega) (by omega) L.length 0 200 ({ c with ino:=c.ino.set ino ii },t0) cs1 H4 (by omega) (by omega) f32 (G3.trans' G34) (λid hid=>by rw [hQ2];exact .inr (by omega)) K4 ht (to4 b9 (by omega)) (to4 q6 (by omega)) (G34.rd q311) (by rw [hH4,<-lH3,E9];rfl);rw [E5k] at f4 f6;obtain ⟨c1,hc1⟩:∃ c1:Cl,c1={ c with ino:=c.ino.set ino ii }:=⟨_,rfl⟩;have eb:mT D n (c1,t0) L=T7 D n c1 d t:=by unfold T7;rw [hL,ht0,hd']
  rw [<-hc1] at f4 f6 ⊢;rw [eb] at f4 f6;have hbs:SameC c1 (T7 D n c1 d t).1:=fS (D:=D) (n:=n) (L:=J6 (eY d t) (B9 (V7 d t))) (s:=(c1,eY d t));have hbT:(T7 D n c1 d t).2.length=32:=(B1f (D:=D) (n:=n) (L:=J6 (eY d t) (B9 (V7 d t))) (s:=(c1,eY d t))).trans wH;have hok:=D9Z (D:=D) (n:=n) (c:=c1) (d:=d) (t:=t);have hdr:=C6e (d:=d) (t:=t);have eC:vX D n c1 ino no d t=M9 D (d'::(T7 D n c1 d t).2) (Z9 D n ino ((T7 D n c1 d t).1,λ_=>none) (mW D (d'::(T7 D n c1 d t).2) (J6 (T7 D n c1 d t).2 (B9 d')))).2 (R5 (Z9 D n ino ((T7 D n c1 d t).1,λ_=>none) (mW D (d'::(T7 D n c1 d t).2) (J6 (T7 D n c1 d t).2 (B9 d')))).1 no (bif okX d' (T7 D n c1 d t).2 then eZ d' (T7 D n c1 d t).2 else zeros 256)) (J6 (T7 D n c1 d t).2 (B9 d')):=by
   rw [hd'];rfl
  rw [<-hd'] at hok hdr;have r1:c1.row=c.row:=by rw [hc1]
  have r2:c1.lnk=c.lnk:=by rw [hc1]
  have r3:c1.blocks=c.blocks:=by rw [hc1]
  have r4':c1.made=c.made:=by rw [hc1]
  have r5:c1.lost=c.lost:=by rw [hc1]
  have r6':c1.par=c.par:=by rw [hc1]
  have sm2:Small (T7 D n c1 d t).1 Rr B S Lo:=⟨by rw [hbs.row,r1];exact sm.row,λi=>by rw [hbs.lnk,r2];exact sm.lnk i,by rw [hbs.blocks,r3];exact sm.blocks,by rw [hbs.made,r4'];exact sm.made,by rw [hbs.lost,r5];exact sm.lost0,by rw [hbs.lost,r5];exact sm.lost⟩;have hR2:RowW n (T7 D n c1 d t).1:=hR.same (by rw [hbs.row,r1]) (by rw [hbs.par,r6']);rw [eC];obtain ⟨s2,hs2⟩:∃ s2,s2=T7 D n c1 d t:=⟨_,rfl⟩;rw [<-hs2] at f4 f6 hbT hok sm2 hR2 ⊢;obtain ⟨cs3,H6,g1,g2,g3⟩:=D7a (m:=m) (ino:=ino) (at_:=no) (hv.grows f2) hD f4 hbT hdr.2 hok hn hR2 sm2 hRr hB hSs hLo;have lt5:=f2.len;have k8:rd H5 x8=rT Z8:=by rw [f8 _ (by omega) (by omega) (by omega)];exact to4 q8 (by omega)
  have k9:rd H5 x9=rT (encI ii):=by rw [f8 _ (by omega) (by omega) (by omega)];exact to4 q9 (by omega)
  have k6:rd H5 x6=rT (D3 D.length n m):=by rw [f8 _ (by omega) (by omega) (by omega)];exact to4 q6 (by omega)
  have q86:rd H6 x8=rT Z8:=g2.rd k8;obtain ⟨H7,hH7⟩:∃ H7,H7=H6.set x8 (rT cs3):=⟨_,rfl⟩;have s8:E1 H6 8 (pV x8 0) (.a cs3)=some H7:=by rw [storeAll (n:=8) q86 rfl g3.length,hH7]
  have l8:C8 H7 8 (pV x8 0)=some (.a cs3):=B8 (by rw [hH7];exact B7 (C5 q86)) g3.length;have G6:Grows h H6:=f2.trans' g2;refine ⟨cs3,H7,?_,by rw [hH7];exact G6.set (by omega) _,?_⟩
  ·have l45:C8 H5 8 (pV x4 0)=some (.a cs2):=B8 f5 f4.length;have l65:C8 H5 3 (pV x6 0)=some (.a (D3 D.length n m)):=B8 k6 rfl;have l95:B4 H5 (pV x9 4)=some (iV no):=by rw [eU k9 (by omega),i4]
   have l115:C8 H5 33 (pV x11 0)=some (.a (encI (d'::s2.2))):=B8 f6 (by simp [A8,hbT]);have cL:¬ ((L.length:Nat):Int)<(L.length:Nat):=by omega
   have c00:((0:Nat):Int)=0:=rfl;rw [c00] at f1;rw [lH3] at hBu;rw [B0g];generalize encI (d::t)=X at *;generalize encI (d'::t0)=X0 at *;generalize encI (d'::s2.2)=X2 at *;generalize hLL:D3 D.length n m=LC at *;simp only [esc,Nat.reduceAdd,ef,b1,b2,b3,b4,b5,b6,ad0,l9,hz,l11,hF,s11,l311,hBu];refine f1.trans ?_;rw [B0i];simp only [esc,Nat.reduceAdd,cL,l45,l65,ad0,l95,l115,g1,s8,l8]
  ·rw [hH7];refine (g3.set (.inr ?_)).mono ?_
   ·intro hh;rcases hh with hh | hh
    ·exact E2k hh
    ·have:=C5 k8;omega
   ·intro id hid;rcases hid with hid | hid
    ·rw [hQ2] at hid;rcases hid with hid | hid
     ·exact toP _ hid.1
     ·exact .inr (by omega)
    ·exact .inr (by omega)
theorem D50 {ino:Int} {Rr B S Lo:Nat} (hv:Has h v 256 D.length (D1 D)) (hD:okD D) (K:IsRC n P h cs c) (ht:c.taken.length=D.length) (hl:D.length<=1000) (hn:n<=128) (i0:0<=ino) (i1:ino.toNat<c.ino.length) (i2:ino<=n) (P6:∀ x∈c.ino,x.length=11) (hc:c.ino.length<=1000)
  (hR:RowW n c) (sm:Small c Rr B S Lo) (hRr:Rr<=700) (hB:B<=500000) (hSs:S<=50000) (hLo:Lo<=500000) :
  ∃ cs' H',B33 [.a cs,v,.a (D3 D.length n m),iV ino] h=some (.a cs',H')/\Grows h H'/\IsRC n (λid=>P id\/h.length<=id) H' cs' (pF D n c ino):=by
 obtain ⟨k,rfl⟩:=E5I i0;rw [E5j] at i1;have c8:=K.length;obtain ⟨p0,hp0⟩:∃ p0,p0=(c.par k).getD 0:=⟨_,rfl⟩;obtain ⟨d0,hd0⟩:∃ d0,d0=(drV D n k).getD 0 0:=⟨_,rfl⟩;obtain ⟨b,hb⟩:∃ b,b=blk D d0:=⟨_,rfl⟩;have hbl:b.length=256:=by rw [hb];exact O2 hD
 obtain ⟨was,ew⟩:∃ was,was=D9e D n (k:Int):=⟨_,rfl⟩;have hwl:was.length=11:=by rw [ew];exact C1Q
 have was0:was.getD 0 0=kdV D n k:=by rw [ew];rfl
 have was4:was.getD 4 0=d0:=by rw [ew,hd0];rfl
 obtain ⟨X0,hX0⟩:∃ X0:List Int,X0=(bif T8 b then getD b::N0 b 32 else 0::zI 32):=⟨_,rfl⟩;have X0l:X0.length=33:=by rw [hX0];cases T8 b<;>simp [kM,G9]
 obtain ⟨G3,hG3⟩:∃ G3,G3=h++[rT cs,rT (D3 D.length n m),rT Z8]:=⟨_,rfl⟩;obtain ⟨G4,hG4⟩:∃ G4,G4=h++[rT cs,rT (D3 D.length n m),rT Z8,rT (encI (2::1::0::p0::0::zI 6))]:=⟨_,rfl⟩;obtain ⟨G5,hG5⟩:∃ G5,G5=h++[rT cs,rT (D3 D.length n m),rT Z8,rT (encI (2::1::0::p0::0::zI 6)),rT (encI was)]:=⟨_,rfl⟩;have lG3:G3.length=h.length+3:=by rw [hG3];simp
 have lG4:G4.length=h.length+4:=by rw [hG4];simp
 have lG5:G5.length=h.length+5:=by rw [hG5];simp
 have G05:Grows h G5:=by rw [hG5];exact Q4 Grows.rfl' rfl
 have hI:=rC (v:=v) (n:=n) (m:=m) (i:=(k:Int)) (h:=G4) (by rw [hG4];exact hv.more _) hD;rw [<-D3P,<-ew] at hI;obtain ⟨u,tb,d1,d2,d3,_⟩:=A0j (no:=d0) (hv.grows G05) hD;rw [<-hb] at d3;have B6Z:=D11 hbl d3;rw [<-hX0] at B6Z;obtain ⟨H6,hH6⟩:∃ H6,H6=(G5++tb)++[rT (encI X0)]:=⟨_,rfl⟩;obtain ⟨x11,C6u⟩:∃ x11,x11=(G5++tb).length:=⟨_,rfl⟩;have lx11:h.length+5<=x11:=by rw [C6u];simp [lG5]
 have lH6:H6.length=x11+1:=by rw [hH6,C6u,E43];rfl
 have G06:Grows h H6:=by rw [hH6];exact (G05.trans' (Q4 Grows.rfl' d2)).new _
 obtain ⟨Q,hQ0⟩:∃ Q:Nat->Prop,Q=λid=>(P id/\id<h.length)\/x11+1<=id:=⟨_,rfl⟩
 have K6:IsRC n Q H6 cs c:=(K.low.grows G06).mono λid hid=>by rw [hQ0];exact .inl hid
 have lift:∀ {id r},rd G5 id=some r->rd H6 id=some r:=λhr=>by rw [hH6];exact B6 (B6 hr)
 have s4:rd H6 h.length=rT cs:=lift (by rw [hG5,E9];rfl);have s6:rd H6 (h.length+1)=rT (D3 D.length n m):=lift (by rw [hG5,K0];rfl);have s8:rd H6 (h.length+2)=rT Z8:=lift (by rw [hG5,K0];rfl);have s9:rd H6 (h.length+3)=rT (encI (2::1::0::p0::0::zI 6)):=lift (by rw [hG5,K0];rfl);have s10:rd H6 (h.length+4)=rT (encI was):=lift (by rw [hG5,K0];rfl);have s11:rd H6 x11=rT (encI X0):=by rw [hH6,C6u,E9];rfl
 have nQ4:¬ Q h.length:=by rw [hQ0];intro hh;rcases hh with hh | hh<;>omega
 have nQ9:¬ Q (h.length+3):=by rw [hQ0];intro hh;rcases hh with hh | hh<;>omega
 have eO:fY D n c k=(bif decide (kdV D n k=2)&&T8 b then (dG D n c d0,T0 D n c d0) else (c,0)):=by unfold fY;rw [<-hd0,<-hb]
 have eC:∀ s:Cl × Int,fY D n c k=s->(s.2≠0->T8 b=true)->pF D n c k=(if s.2=0 then { s.1 with ino:=s.1.ino.set k (2::1::0::p0::s.2::zI 6) } else vX D n { s.1 with ino:=s.1.ino.set k (2::1::0::p0::s.2::zI 6) } k s.2 (X0.getD 0 0) (X0.drop 1)):=by
  intro s es hg;have eI:W9 D n c k={ s.1 with ino:=s.1.ino.set k (2::1::0::p0::s.2::zI 6) }:=by unfold W9;rw [es,<-hp0];rfl
  unfold pF;rw [es,eI,<-hd0,<-hb];by_cases hz:s.2=0
  ·rw [if_pos hz,if_pos hz]
  ·rw [if_neg hz,if_neg hz,hX0,hg hz];rfl
 have X0c:X0=X0.getD 0 0::X0.drop 1:=by
  cases hx:X0 with
  | nil=>rw [hx] at X0l;cases X0l
  | cons a l=>rfl
 have X0d:(X0.drop 1).length=32:=by rw [List.length_drop,X0l]
 have fin:∀ (s:Cl × Int) (cs2:List Cell) (H7:A6),fY D n c k=s->(s.2≠0->T8 b=true)->SameC c s.1->s.1.taken.length=D.length->Grows h H7->x11+1<=H7.length->IsRC n Q H7 cs2 s.1->rd H7 h.length=rT cs2->rd H7 (h.length+3)=rT (encI (2::1::0::p0::s.2::zI 6))->(∀ j,j<x11+1->j≠h.length->j≠h.length+3->rd H7 j=rd H6 j) ->
   ∃ cs' H',B0f 200 v (iV (k:Int)) (pV h.length 0) (pV (h.length+1) 0) (pV (h.length+2) 0) (pV (h.length+3) 0) (pV x11 0) H7=some (.a cs',H')/\Grows h H'/\IsRC n (λid=>P id\/h.length<=id) H' cs' (pF D n c k):=by
  intro s cs2 H7 es hg ss tl G7 hl7 K7 q4 q9 same;rw [eC s es hg];exact E0z (m:=m) hv hD rfl rfl rfl rfl (by omega) hQ0 hl7 G7 K7 tl hl X0d hn q4 (by rw [same _ (by omega) (by omega) (by omega)];exact s6) (by rw [same _ (by omega) (by omega) (by omega)];exact s8) q9 (by rw [same _ (by omega) (by omega) (by omega),<-X0c];exact s11) (by rw [ss.ino];exact i1) (by rw [ss.ino];exact P6) (by rw [ss.ino];exact hc) (hR.same ss.row ss.par) ⟨by rw [ss.row];exact sm.row,λi=>by rw [ss.lnk];exact sm.lnk i,by rw [ss.blocks];exact sm.blocks,by rw [ss.made];exact sm.made,by rw [ss.lost];exact sm.lost0,by rw [ss.lost];exact sm.lost⟩ hRr hB hSs hLo
 have key:∃ cs' H',B3v 200 [.a cs,v,.a (D3 D.length n m),iV (k:Int)] h=some (.a cs',H')/\Grows h H'/\IsRC n (λid=>P id\/h.length<=id) H' cs' (pF D n c k):=by
  have z11:[o0,o0,o0,o0,o0,o0,o0,o0,o0,o0,o0]=encI (zI 11):=rfl;have cl1:cells? (.a cs)=some cs:=rfl;have cl2:cells? (.a (D3 D.length n m))=some (D3 D.length n m):=rfl;have l3:C8 G4 3 (pV (h.length+1) 0)=some (.a (D3 D.length n m)):=B8 (by rw [hG4,K0];rfl) rfl;have wl:(encI was).length=11:=by rw [A8,hwl]
  have ef:D9 (encI (zI 11)) [(0,1,iV 2),(1,1,iV 1),(3,1,iV p0)]=some (encI (2::1::0::p0::0::zI 6)):=rfl;have st4:E1 (G3++[rT (encI (zI 11))]) 11 (pV (h.length+3) 0) (.a (encI (2::1::0::p0::0::zI 6)))=some G4:=by
   rw [<-lG3,storeAll (by rw [E9];rfl) (by rfl) (by rfl),cU,hG3,hG4];simp
  have st5:E1 (G4++[rT (encI (zI 11))]) 11 (pV (h.length+4) 0) (.a (encI was))=some G5:=by
   rw [<-lG4,storeAll (by rw [E9];rfl) (by rfl) wl,cU,hG4,hG5];simp
  have ad0:∀ x,J3 6 1 (pV x 4) (iV 0)=some (pV x 4):=λx=>J4 (j:=0) (by omega)
  have w5:B4 G5 (pV (h.length+4) 4)=some (iV d0):=by
   have:=eU (h:=G5) (id:=h.length+4) (x:=was) (by rw [hG5,K0];rfl) (k:=4) (by omega);rw [was4] at this;exact this
  have e0:D4e (.t [.a (encI X0),.c (.b (T8 b))]) 0=some (.a (encI X0)):=rfl;have e1:D4e (.t [.a (encI X0),.c (.b (T8 b))]) 1=some (bV (T8 b)):=rfl;have z33:([o0]++E41 32 o0).length=33:=rfl;have xl:(encI X0).length=33:=by rw [A8,X0l]
  have st6:E1 ((G5++tb)++[rT ([o0]++E41 32 o0)]) 33 (pV (G5++tb).length 0) (.a (encI X0))=some H6:=by
   rw [storeAll (by rw [E9];rfl) z33 xl,cU,hH6];rfl
  have w60:B4 H6 (pV (h.length+4) 0)=some (iV (kdV D n k)):=by rw [eU s10 (by omega),was0]
  have w64:B4 H6 (pV (h.length+4) 4)=some (iV d0):=by rw [eU s10 (by omega),was4]
  obtain ⟨v4,v5,y1,y2,y3⟩:∃ v4 v5,B4 G3 (pV h.length 7)=some v4/\D5 1 v4 (iV (k:Int))=some v5/\B4 G3 v5=some (iV p0):=by
   obtain ⟨xr,xi,xt,xb,xm,xl,xy,ys,rfl,kk⟩:=K;have hk1:k<(eK n c.par).length:=by rw [Q9];omega
   have lky:B4 G3 (pV h.length 7)=some (.c xy):=B5 (cs:=rcC xr xi xt xb xm c.lost xl xy) (by rw [hG3,E9];rfl) rfl rfl;obtain ⟨it,ot,et,_,hA,_⟩:=(kk.par.more [rT (rcC xr xi xt xb xm c.lost xl xy),rT (D3 D.length n m),rT Z8]).sl (by omega);cases et;rw [<-hG3] at hA;exact ⟨_,_,lky,by rw [C4 (by omega),Nat.mul_one],hA k _ (by rw [F6,A4R (by rw [Q9] at hk1;exact hk1),hp0];rfl)⟩
  by_cases ck:kdV D n k=2
  ·cases cg:T8 b with
   | true =>
    rw [ck,cg] at eO;have eO:fY D n c k=(dG D n c d0,T0 D n c d0):=eO;obtain ⟨cs',K1,H7,H8,a1,a2,a3,a4,a5,a6,a7,a8,a9⟩:=D8z (m:=m) (no:=d0) (g:=h) G06 (E44 _) K6 s4 c8 (λid hid=>by rw [hQ0];exact .inr (by omega)) nQ4 ht hl;have q9:rd H8 (h.length+3)=rT (encI (2::1::0::p0::0::zI 6)):=by rw [a9 _ (by omega) (by omega)];exact s9
    have es:(encI (2::1::0::p0::0::zI 6)).set 4 (.i .i64 (T0 D n c d0))=encI (2::1::0::p0::T0 D n c d0::zI 6):=rfl;obtain ⟨H9,hH9⟩:∃ H9,H9=H8.set (h.length+3) (rT (encI (2::1::0::p0::T0 D n c d0::zI 6))):=⟨_,rfl⟩;have st9:F9 H8 (pV (h.length+3) 4) (iV (T0 D n c d0))=some H9:=by rw [F5 q9 (by rw [A8];simp [G9]),es,hH9]
    obtain ⟨cs2,H',j1,j2,j3⟩:=fin (dG D n c d0,T0 D n c d0) cs' H9 eO (λ_=>cg) (oV ..) (by rw [fX];exact ht) (by rw [hH9];exact a5.set (by omega) _) (by rw [hH9];simp;omega) (by rw [hH9];exact a6.set (.inr nQ9)) (by rw [hH9,A7 (by omega)];exact a7) (by rw [hH9];exact B7 (C5 q9)) (λj hj h1 h2=>by rw [hH9,A7 (Ne.symm h2),a9 j (by omega) h1]);refine ⟨cs2,H',?_,j2,j3⟩;have l46:C8 H6 8 (pV h.length 0)=some (.a cs):=B8 s4 c8;have l66:C8 H6 3 (pV (h.length+1) 0)=some (.a (D3 D.length n m)):=B8 s6 rfl;rw [cg] at e0 e1 B6Z;rw [ck] at w60;rw [<-C6u,E45] at st6;rw [A2L,z11,A4g];generalize encI (zI 11)=Z at *;generalize encI (2::1::0::p0::0::zI 6)=I0 at *;generalize encI was=W at *;generalize encI X0=XX at *;generalize [o0]++E41 32 o0=Z33 at *;generalize hLL:D3 D.length n m=LC at *;generalize Z8=E8 at *;simp only [cl1,cl2,Q5,E45,E5x,E5g,E43,E5a,E5u,E5l,Nat.reduceAdd,<-hG3];simp only [esc,Nat.reduceAdd,y1,y2,y3,ef,lG3,st4,l3,hI,lG4,st5,ad0,w5,d1,B6Z,e0,e1,<-C6u,st6,w60,l46,l66,w64,a1,a2,a3,a4,st9];exact j1
   | false =>
    rw [ck,cg] at eO;have eO:fY D n c k=(c,0):=eO;obtain ⟨cs2,H',j1,j2,j3⟩:=fin (c,0) cs H6 eO (λhh=>absurd rfl hh) (.rfl' _) ht G06 (by omega) K6 s4 s9 (λ_ _ _ _=>rfl);refine ⟨cs2,H',?_,j2,j3⟩;rw [cg] at e0 e1 B6Z;rw [ck] at w60;rw [<-C6u,E45] at st6;rw [A2L,z11,A4g];generalize encI (zI 11)=Z at *;generalize encI (2::1::0::p0::0::zI 6)=I0 at *;generalize encI was=W at *;generalize encI X0=XX at *;generalize [o0]++E41 32 o0=Z33 at *;generalize hLL:D3 D.length n m=LC at *;generalize Z8=E8 at *;simp only [cl1,cl2,Q5,E45,E5x,E5g,E43,E5a,E5u,E5l,Nat.reduceAdd,<-hG3];simp only [esc,Nat.reduceAdd,y1,y2,y3,ef,lG3,st4,l3,hI,lG4,st5,ad0,w5,d1,B6Z,e0,e1,<-C6u,st6,w60];exact j1
  ·have eO:fY D n c k=(c,0):=by rw [eO];simp [ck]
   obtain ⟨cs2,H',j1,j2,j3⟩:=fin (c,0) cs H6 eO (λhh=>absurd rfl hh) (.rfl' _) ht G06 (by omega) K6 s4 s9 (λ_ _ _ _=>rfl);refine ⟨cs2,H',?_,j2,j3⟩;rw [<-C6u,E45] at st6;rw [A2L,z11,A4g];generalize encI (zI 11)=Z at *;generalize encI (2::1::0::p0::0::zI 6)=I0 at *;generalize encI was=W at *;generalize encI X0=XX at *;generalize [o0]++E41 32 o0=Z33 at *;generalize hLL:D3 D.length n m=LC at *;generalize Z8=E8 at *;simp only [cl1,cl2,Q5,E45,E5x,E5g,E43,E5a,E5u,E5l,Nat.reduceAdd,<-hG3];simp only [esc,Nat.reduceAdd,y1,y2,y3,ef,lG3,st4,l3,hI,lG4,st5,ad0,w5,d1,B6Z,e0,e1,<-C6u,st6,w60,ck];exact j1
 obtain ⟨cs',H',e1,e2,e3⟩:=key;exact ⟨cs',H',C8i e1,e2,e3⟩
end
end
section
section
variable {D:Dev} {n:Int}
theorem B4H {d:List Int}:∀ {e k:Nat} {s:Cl × List Int},(A6o D n d e k s).1.taken.length=s.1.taken.length
 | 0,_,_=>rfl
 | e+1,k,s=>by rw [A6o,B4H];exact fX
theorem D28 {c:Cl} {ino:Int}:(dM D n c ino).1.taken.length=c.taken.length:=by
 unfold dM B64;split
 ·rw [fX,B4H]
 ·rw [B4H]
theorem D26 {c:Cl} {ino:Int}:(gK D n c ino).taken.length=c.taken.length:=by
 have h1:(Y6 D n c ino).taken.length=c.taken.length:=D28;unfold gK;split
 ·exact h1
 ·have hs:=B0k (D:=D) (n:=n) (many:=A3w (szV D n ino)) (e:=128) (k:=0) (s:=(Y6 D n c ino,blk D ((dM D n c ino).2.getD 6 0)));dsimp only at hs;generalize bK D n (A3w (szV D n ino)) 128 0 (Y6 D n c ino,blk D ((dM D n c ino).2.getD 6 0))=s at *;exact hs.trans h1
theorem D6A {c:Cl} {ino:Int}:(gK D n c ino).ino=c.ino.set ino.toNat (1::1::szV D n ino::0::(dM D n c ino).2):=by
 have h1:(Y6 D n c ino).ino=c.ino.set ino.toNat (1::1::szV D n ino::0::(dM D n c ino).2):=by unfold Y6;rw [A04.1.ino]
 unfold gK;split
 ·exact h1
 ·have hs:=tZ (D:=D) (n:=n) (many:=A3w (szV D n ino)) (e:=128) (k:=0) (s:=(Y6 D n c ino,blk D ((dM D n c ino).2.getD 6 0)));dsimp only at hs;generalize bK D n (A3w (szV D n ino)) 128 0 (Y6 D n c ino,blk D ((dM D n c ino).2.getD 6 0))=s at *;exact hs.ino.trans h1
theorem C1T {ino:Int}:∀ {L:List Ent} {s:Cl × (List UInt8->Option Int)} {B:Int},BndL s.1 B->SameT s.1 (Z9 D n ino s L).1/\BndL (Z9 D n ino s L).1 (B+L.length)/\(Z9 D n ino s L).1.row.length<=s.1.row.length+L.length
 | [],s,B,hb=>⟨⟨rfl,rfl,rfl,rfl,rfl⟩,by have h2:BndL s.1 (B+(([]:List Ent).length:Int)):=hb.mono (by simp);exact h2,E44 _⟩
 | x::L,s,B,hb=>by
  obtain ⟨a1,a2,a3⟩:=A2z (D:=D) (n:=n) (ino:=ino) (e:=x) hb;obtain ⟨b1,b2,b3⟩:=C1T (L:=L) (s:=Y7 D n ino s x) a2;refine ⟨⟨b1.ino.trans a1.ino,b1.blocks.trans a1.blocks,b1.made.trans a1.made,b1.taken.trans a1.taken,b1.lost.trans a1.lost⟩,?_,?_⟩
  ·rw [E5a];exact b2.mono (by omega)
  ·rw [E5a];show (Z9 D n ino (Y7 D n ino s x) L).1.row.length<=_;omega
theorem vE {X:List Int} {K:List UInt8->Option Int}:∀ {L:List Int} {c:Cl},(M9 D X K c L).row=c.row/\(M9 D X K c L).lnk=c.lnk/\(M9 D X K c L).taken=c.taken/\(M9 D X K c L).ino=c.ino/\(M9 D X K c L).blocks.length=c.blocks.length+L.length/\(M9 D X K c L).made.length=c.made.length+L.length/\c.lost<=(M9 D X K c L).lost/\(M9 D X K c L).lost<=c.lost+7*L.length
 | [],c=>⟨rfl,rfl,rfl,rfl,rfl,rfl,Int.le_refl _,by show c.lost<=_;simp⟩
 | no::L,c=>by
  have hs:=oU (D:=D) (X:=X) (no:=no) (K:=K) (l:=N1 (blk D no)) (s:=(c,aU []));have hl:=A2f (D:=D) (X:=X) (no:=no) (K:=K) (l:=N1 (blk D no)) (s:=(c,aU []));have h7:=dI (blk D no);obtain ⟨a1,a2,a3,a4,a5,a6,a7,a8⟩:=vE (X:=X) (K:=K) (L:=L) (c:=uG D X K c no);have e1:(uG D X K c no).blocks.length=c.blocks.length+1:=by show (_++[no]).length=_;rw [E43,hs.blocks];rfl
  have e2:(uG D X K c no).made.length=c.made.length+1:=by show (_++[_]).length=_;rw [E43,hs.made];rfl
  have e3:(uG D X K c no).lost=(T4 D X no K (c,aU []) (N1 (blk D no))).1.lost:=rfl;dsimp only at hl;refine ⟨a1.trans hs.row,a2.trans hs.lnk,a3.trans hs.taken,a4.trans hs.ino,?_,?_,?_,?_⟩
  ·rw [E5a];show (M9 D X K (uG D X K c no) L).blocks.length=_;omega
  ·rw [E5a];show (M9 D X K (uG D X K c no) L).made.length=_;omega
  ·show _<=(M9 D X K (uG D X K c no) L).lost;omega
  ·rw [E5a];show (M9 D X K (uG D X K c no) L).lost<=_;omega
theorem C54 {c:Cl} {ino:Int}:(fY D n c ino).1.taken.length=c.taken.length:=by
 unfold fY;cases (decide (kdV D n ino=2)&&T8 (blk D ((drV D n ino).getD 0 0))) with
 | true=>exact fX
 | false=>rfl
theorem D32 {ino:Int}:∀ {L:List Ent} {s:Cl × (List UInt8->Option Int)},(Z9 D n ino s L).1.ino=s.1.ino/\(Z9 D n ino s L).1.taken=s.1.taken
 | [],_=>⟨rfl,rfl⟩
 | x::L,s=>by
  have ih:=D32 (ino:=ino) (L:=L) (s:=Y7 D n ino s x);have h1:(Y7 D n ino s x).1.ino=s.1.ino/\(Y7 D n ino s x).1.taken=s.1.taken:=by
   unfold Y7 cX;cases gR D n s.1 x.2 with
   | false=>exact ⟨rfl,rfl⟩
   | true =>
    simp only [cond_true];cases (s.1.par x.2).isSome with
    | true=>exact ⟨rfl,rfl⟩
    | false=>exact ⟨rfl,rfl⟩
  exact ⟨ih.1.trans h1.1,ih.2.trans h1.2⟩
theorem D77 {c:Cl} {ino:Int}:(pF D n c ino).ino=c.ino.set ino.toNat (2::1::0::(c.par ino).getD 0::(fY D n c ino).2::zI 6)/\(pF D n c ino).taken.length=c.taken.length:=by
 have hs:=A0d (D:=D) (n:=n) (ino:=ino) (c:=c);have eI:(W9 D n c ino).ino=c.ino.set ino.toNat (2::1::0::(c.par ino).getD 0::(fY D n c ino).2::zI 6):=by unfold W9;rw [hs.ino]
 have tI:(W9 D n c ino).taken.length=c.taken.length:=C54;unfold pF;split
 ·exact ⟨eI,tI⟩
 ·obtain ⟨d,hd⟩:∃ d,d=getD (blk D ((drV D n ino).getD 0 0)):=⟨_,rfl⟩;obtain ⟨t,ht⟩:∃ t,t=N0 (blk D ((drV D n ino).getD 0 0)) 32:=⟨_,rfl⟩;rw [<-hd,<-ht];unfold vX;have hb:SameC (W9 D n c ino) (T7 D n (W9 D n c ino) d t).1:=fS (D:=D) (n:=n) (L:=J6 (eY d t) (B9 (V7 d t))) (s:=(W9 D n c ino,eY d t));have tb:(T7 D n (W9 D n c ino) d t).1.taken.length=(W9 D n c ino).taken.length:=A9K (D:=D) (n:=n) (L:=J6 (eY d t) (B9 (V7 d t))) (s:=(W9 D n c ino,eY d t));obtain ⟨s1,hs1⟩:∃ s1,s1=T7 D n (W9 D n c ino) d t:=⟨_,rfl⟩;have eT:bodyT D n (W9 D n c ino) ino d t=Z9 D n ino (s1.1,λ_=>none) (mW D (V7 d t::s1.2) (J6 s1.2 (B9 (V7 d t)))):=by rw [hs1];rfl
  rw [eT];rw [<-hs1] at hb tb ⊢;have q:=D32 (D:=D) (n:=n) (ino:=ino) (L:=mW D (V7 d t::s1.2) (J6 s1.2 (B9 (V7 d t)))) (s:=(s1.1,λ_=>none));dsimp only at q;generalize Z9 D n ino (s1.1,λ_=>none) (mW D (V7 d t::s1.2) (J6 s1.2 (B9 (V7 d t))))=s2 at *;generalize (bif okX (V7 d t) s1.2 then eZ (V7 d t) s1.2 else zeros 256)=ib;obtain ⟨a1,a2,a3,a4,a5,a6,a7,a8⟩:=vE (D:=D) (X:=V7 d t::s1.2) (K:=s2.2) (L:=J6 s1.2 (B9 (V7 d t))) (c:=R5 s2.1 (fY D n c ino).2 ib);generalize M9 D (V7 d t::s1.2) s2.2 (R5 s2.1 (fY D n c ino).2 ib) (J6 s1.2 (B9 (V7 d t)))=z at *;have m3:(R5 s2.1 (fY D n c ino).2 ib).taken=s2.1.taken:=rfl;have m4:(R5 s2.1 (fY D n c ino).2 ib).ino=s2.1.ino:=rfl;exact ⟨by rw [a4,m4,q.1,hb.ino,eI],by rw [a3,m3,q.2,tb,tI]⟩
theorem D4s {c:Cl} {ino:Int} {R B S Lo:Nat} (sm:Small c R B S Lo):Small (pF D n c ino) (R+224) (B+224) (S+33) (Lo+224)/\(pF D n c ino).ino=c.ino.set ino.toNat (2::1::0::(c.par ino).getD 0::(fY D n c ino).2::zI 6)/\(pF D n c ino).taken.length=c.taken.length:=by
 have hs:=A0d (D:=D) (n:=n) (ino:=ino) (c:=c);have eI:(W9 D n c ino).ino=c.ino.set ino.toNat (2::1::0::(c.par ino).getD 0::(fY D n c ino).2::zI 6):=by unfold W9;rw [hs.ino]
 have tI:(W9 D n c ino).taken.length=c.taken.length:=C54;have i1:(W9 D n c ino).row=c.row:=hs.row;have i2:(W9 D n c ino).lnk=c.lnk:=hs.lnk;have i3:(W9 D n c ino).blocks=c.blocks:=hs.blocks;have i4:(W9 D n c ino).made=c.made:=hs.made;have i5:(W9 D n c ino).lost=c.lost:=hs.lost;have b1:=sm.row;have b2:=sm.blocks;have b3:=sm.made;have b4:=sm.lost0;have b5:=sm.lost;unfold pF;split
 ·exact ⟨⟨by rw [i1];omega,by intro i;rw [i2];have:=sm.lnk i;omega,by rw [i3];omega,by rw [i4];omega,by rw [i5];omega,by rw [i5];omega⟩,eI,tI⟩
 ·obtain ⟨d,hd⟩:∃ d,d=getD (blk D ((drV D n ino).getD 0 0)):=⟨_,rfl⟩;obtain ⟨t,ht⟩:∃ t,t=N0 (blk D ((drV D n ino).getD 0 0)) 32:=⟨_,rfl⟩;rw [<-hd,<-ht];unfold vX;have hb:SameC (W9 D n c ino) (T7 D n (W9 D n c ino) d t).1:=fS (D:=D) (n:=n) (L:=J6 (eY d t) (B9 (V7 d t))) (s:=(W9 D n c ino,eY d t));have tb:(T7 D n (W9 D n c ino) d t).1.taken.length=(W9 D n c ino).taken.length:=A9K (D:=D) (n:=n) (L:=J6 (eY d t) (B9 (V7 d t))) (s:=(W9 D n c ino,eY d t));obtain ⟨s1,hs1⟩:∃ s1,s1=T7 D n (W9 D n c ino) d t:=⟨_,rfl⟩;have eT:bodyT D n (W9 D n c ino) ino d t=Z9 D n ino (s1.1,λ_=>none) (mW D (V7 d t::s1.2) (J6 s1.2 (B9 (V7 d t)))):=by rw [hs1];rfl
  rw [eT];rw [<-hs1] at hb tb ⊢;obtain ⟨L,hL⟩:∃ L,L=J6 s1.2 (B9 (V7 d t)):=⟨_,rfl⟩;have hLl:L.length<=32:=by rw [hL];exact E5E (fI ..) (N8 _)
  rw [<-hL];have hNl:=B7j (D:=D) (X:=V7 d t::s1.2) (L:=L);generalize mW D (V7 d t::s1.2) L=N at *;obtain ⟨t1,t2,t3⟩:=C1T (D:=D) (n:=n) (ino:=ino) (L:=N) (s:=(s1.1,λ_=>none)) (B:=B) (by intro i;show 0<=(s1.1.lnk i).getD 0/\(s1.1.lnk i).getD 0<=_;rw [hb.lnk,i2];exact sm.lnk i);dsimp only at t1 t2 t3;generalize Z9 D n ino (s1.1,λ_=>none) N=s2 at *;generalize (bif okX (V7 d t) s1.2 then eZ (V7 d t) s1.2 else zeros 256)=ib;obtain ⟨a1,a2,a3,a4,a5,a6,a7,a8⟩:=vE (D:=D) (X:=V7 d t::s1.2) (K:=s2.2) (L:=L) (c:=R5 s2.1 (fY D n c ino).2 ib);generalize M9 D (V7 d t::s1.2) s2.2 (R5 s2.1 (fY D n c ino).2 ib) L=z at *;have m1:(R5 s2.1 (fY D n c ino).2 ib).row=s2.1.row:=rfl;have m2:(R5 s2.1 (fY D n c ino).2 ib).lnk=s2.1.lnk:=rfl;have m3:(R5 s2.1 (fY D n c ino).2 ib).taken=s2.1.taken:=rfl;have m4:(R5 s2.1 (fY D n c ino).2 ib).ino=s2.1.ino:=rfl;have m5:(R5 s2.1 (fY D n c ino).2 ib).blocks.length=s2.1.blocks.length+1:=by show (_++[_]).length=_;simp
  have m6:(R5 s2.1 (fY D n c ino).2 ib).made.length=s2.1.made.length+1:=by show (_++[_]).length=_;simp
  have m7:(R5 s2.1 (fY D n c ino).2 ib).lost=s2.1.lost:=rfl;have u1:s2.1.blocks.length=c.blocks.length:=by rw [t1.blocks,hb.blocks,i3]
  have u2:s2.1.made.length=c.made.length:=by rw [t1.made,hb.made,i4]
  have u3:s2.1.lost=c.lost:=by rw [t1.lost,hb.lost,i5]
  have u4:s1.1.row.length=c.row.length:=by rw [hb.row,i1]
  refine ⟨⟨by rw [a1,m1];omega,λi=>?_,by omega,by omega,by omega,by omega⟩,by rw [a4,m4,t1.ino,hb.ino,eI],by rw [a3,m3,t1.taken,tb,tI]⟩;rw [a2,m2];have:=t2 i;omega
structure InoW (D:Dev) (n:Int) (c:Cl):Prop where
 il:∀ x∈c.ino,x.length=11
 ilen:c.ino.length=(n+1).toNat
 tlen:c.taken.length=D.length
 kd:∀ k:Nat,(k:Int) ∉ c.row\/k=1->(c.ino.getD k []).getD 0 0≠1
theorem C6l {α:Type} {l:List α} {i k:Nat} {x d:α}:(l.set i x).getD k d=if i=k/\i<l.length then x else l.getD k d:=by
 simp only [E47,List.getElem?_set];by_cases e:i=k
 ·subst e;by_cases hl:i<l.length
  ·simp [hl]
  ·simp [hl]
 ·simp [e]
theorem D1h {c:Cl} {ino:Int}:∀ {x:Int},x∈c.row->x∈(pF D n c ino).row:=by
 have tsub:∀ (L:List Ent) (s:Cl × (List UInt8->Option Int)) (x:Int),x∈s.1.row->x∈(Z9 D n ino s L).1.row:=by
  intro L
  induction L with
  | nil=>intro s x hx;exact hx
  | cons e L ih =>
   intro s x hx;refine ih (Y7 D n ino s e) x ?_;unfold Y7 cX;cases gR D n s.1 e.2 with
   | false=>exact hx
   | true =>
    simp only [cond_true];cases (s.1.par e.2).isSome with
    | true=>exact hx
    | false=>exact List.mem_append_left _ hx
 intro x hx;have i1:(W9 D n c ino).row=c.row:=(A0d (D:=D) (n:=n) (ino:=ino) (c:=c)).row;unfold pF;split
 ·rw [i1];exact hx
 ·obtain ⟨d,hd⟩:∃ d,d=getD (blk D ((drV D n ino).getD 0 0)):=⟨_,rfl⟩;obtain ⟨t,ht⟩:∃ t,t=N0 (blk D ((drV D n ino).getD 0 0)) 32:=⟨_,rfl⟩;rw [<-hd,<-ht];have hb:SameC (W9 D n c ino) (T7 D n (W9 D n c ino) d t).1:=fS (D:=D) (n:=n) (L:=J6 (eY d t) (B9 (V7 d t))) (s:=(W9 D n c ino,eY d t));unfold vX;rw [vE.1,D0b];unfold bodyT;refine tsub _ _ x ?_;show x∈(T7 D n (W9 D n c ino) d t).1.row;rw [hb.row,i1];exact hx
theorem D4P {c:Cl} {ino:Int} (i0:0<=ino) (hi:ino∈c.row) (w:InoW D n c):InoW D n (gP D n c ino):=by
 by_cases hf:ino≠1/\kdV D n ino=1
 ·have e:gP D n c ino=gK D n c ino:=by unfold gP;rw [if_pos hf]
  rw [e];have e1:=D6A (D:=D) (n:=n) (c:=c) (ino:=ino);have l7:=(A04 (D:=D) (n:=n) (ino:=ino) (c:=c)).2;refine ⟨λx hx=>?_,by rw [e1,E5w];exact w.ilen,by rw [D26];exact w.tlen,λk hk=>?_⟩
  ·rw [e1] at hx;rcases E5H hx with h1 | h1
   ·exact w.il x h1
   ·rw [h1];simp [l7]
  ·rw [tY.1] at hk;rw [e1,C6l];split
   ·rename_i h2;exfalso;have:(k:Int)=ino:=by omega
    rcases hk with hk | hk
    ·exact hk (by rw [this];exact hi)
    ·exact hf.1 (by omega)
   ·exact w.kd k hk
 ·have e:gP D n c ino=pF D n c ino:=by unfold gP;rw [if_neg hf]
  rw [e];have e1:=D77 (D:=D) (n:=n) (c:=c) (ino:=ino);refine ⟨λx hx=>?_,by rw [e1.1,E5w];exact w.ilen,by rw [e1.2];exact w.tlen,λk hk=>?_⟩
  ·rw [e1.1] at hx;rcases E5H hx with h1 | h1
   ·exact w.il x h1
   ·rw [h1];simp [G9]
  ·rw [e1.1,C6l];split
   ·show (2:Int)≠1;decide
   ·refine w.kd k (hk.imp (λhh hx=>hh (D1h hx)) id)
theorem D4Q {c:Cl} {ino:Int} {R B S Lo:Nat} (sm:Small c R B S Lo):Small (gP D n c ino) (R+224) (B+224) (S+33) (Lo+224):=by
 unfold gP;split
 ·have hs:=tY (D:=D) (n:=n) (ino:=ino) (c:=c);have b1:=sm.row;have b2:=sm.blocks;have b3:=sm.made;have b4:=sm.lost0;have b5:=sm.lost;exact ⟨by rw [hs.1];omega,λj=>by rw [hs.2.2.1];have:=sm.lnk j;omega,by have:=hs.2.2.2.2.2.1;omega,by have:=hs.2.2.2.2.2.2;omega,by rw [hs.2.2.2.1];omega,by rw [hs.2.2.2.1];omega⟩
 ·exact (D4s sm).1
def lk1 (c:Cl) (k:Nat) (x:List Int):List Int:=if x.getD 0 0=1 then x.set 1 ((c.lnk (k:Int)).getD 0) else x
theorem D6S {c:Cl} {k:Nat} {x:List Int}:lk1 c k (lk1 c k x)=lk1 c k x:=by
 unfold lk1;by_cases h:x.getD 0 0=1
 ·rw [if_pos h];have:(x.set 1 ((c.lnk (k:Int)).getD 0)).getD 0 0=1:=by rw [C6l,if_neg (by omega)];exact h
  rw [if_pos this,List.set_set]
 ·rw [if_neg h,if_neg h]
theorem B4P:∀ {L:List Int} {c:Cl},(∀ a∈L,0<=a)->∀ k:Nat,(S3 c L).ino[k]?=(c.ino[k]?).map λx=>if (k:Int)∈L then lk1 c k x else x
 | [],c,_,k=>by simp [S3]
 | a::L,c,h0,k=>by
  have ih:=B4P (L:=L) (c:=Z7 c a) (λb hb=>h0 b (E5m _ hb)) k;have ha:=h0 a (E5n ..);have elk:(Z7 c a).lnk=c.lnk:=A6E.2.2.2.2.2.1;have lke:∀ x,lk1 (Z7 c a) k x=lk1 c k x:=λx=>by unfold lk1;rw [elk]
  show (S3 (Z7 c a) L).ino[k]?=_;rw [ih];have eL:(Z7 c a).ino[k]?=(c.ino[k]?).map λx=>if (k:Int)=a then lk1 c k x else x:=by
   unfold Z7;by_cases hk:(k:Int)=a
   ·have hk2:a.toNat=k:=by omega
    rw [hk2];cases hx:c.ino[k]? with
    | none =>
     have hg:c.ino.getD k []=[]:=by rw [E47,hx];rfl
     have:(c.ino.getD k []).getD 0 0≠1:=by rw [hg];decide
     rw [if_neg this,hx];rfl
    | some x =>
     have hg:c.ino.getD k []=x:=by rw [E47,hx];rfl
     have hkl:=(List.getElem?_eq_some_iff.1 hx).1;rw [hg,Option.map_some,if_pos hk];unfold lk1;by_cases h1:x.getD 0 0=1
     ·rw [if_pos h1,if_pos h1];show (c.ino.set k _)[k]?=_;rw [List.getElem?_set_self hkl,hk]
     ·rw [if_neg h1,if_neg h1,hx]
   ·have:∀ y,(c.ino.set a.toNat y)[k]?=c.ino[k]? := λy=>by rw [List.getElem?_set];rw [if_neg (by omega)]
    split
    ·rw [this];cases c.ino[k]?<;>simp [hk]
    ·cases c.ino[k]?<;>simp [hk]
  rw [eL,Option.map_map];cases c.ino[k]? with
  | none=>rfl
  | some x =>
   simp only [Option.map_some,Function.comp]
   congr 1
   by_cases h1:(k:Int)=a
   ·rw [if_pos h1,lke,D6S];have:(k:Int)∈a::L:=by rw [h1];exact E5n ..
    rw [if_pos this];split<;>rfl
   ·rw [if_neg h1,lke];simp [h1]
theorem D4G {c:Cl} (w:InoW D n c) (hr:∀ i∈c.row,1<=i/\i<=n) {L:List Int} (hL:∀ a,a∈L↔2<=a/\a<=n):S3 c L=S3 c c.row:=by
 obtain ⟨a1,a2,a3,a4,a5,a6,a7⟩:=wQ (L:=L) (c:=c);obtain ⟨b1,b2,b3,b4,b5,b6,b7⟩:=wQ (L:=c.row) (c:=c);have e:(S3 c L).ino=(S3 c c.row).ino:=by
  refine List.ext_getElem? λk=>?_
  rw [B4P (λa ha=>by have:=(hL a).1 ha;omega),B4P (λa ha=>by have:=hr a ha;omega)];cases hx:c.ino[k]? with
  | none=>rfl
  | some x =>
   have hg:c.ino.getD k []=x:=by rw [E47,hx];rfl
   have hkl:=(List.getElem?_eq_some_iff.1 hx).1;simp only [Option.map_some]
   congr 1
   by_cases h1:x.getD 0 0=1
   ·have hk:(k:Int)∈c.row/\k≠1:=by
     refine ⟨Classical.byContradiction λhh=>?_,λhh=>?_⟩
     ·exact w.kd k (.inl hh) (by rw [hg];exact h1)
     ·exact w.kd k (.inr hh) (by rw [hg];exact h1)
    have h2:=hr _ hk.1;rw [if_pos hk.1,if_pos ((hL _).2 (by omega))]
   ·have:lk1 c k x=x:=by unfold lk1;rw [if_neg h1]
    rw [this];simp
 cases h1:S3 c L;cases h2:S3 c c.row;rw [h1] at a1 a2 a3 a4 a5 a6 a7 e;rw [h2] at b1 b2 b3 b4 b5 b6 b7 e
 simp_all
theorem D3z {c:Cl}:∀ {k i:Nat},(pI c k).taken[i]?=if i<k then (c.taken[i]?).map λ_=>true else c.taken[i]?
 | 0,i=>by simp [pI]
 | k+1,i=>by
  have ih:=D3z (c:=c) (k:=k) (i:=i);show ((pI c k).taken.set k true)[i]?=_;rw [List.getElem?_set];have hl:(pI c k).taken.length=c.taken.length:=by
   have:∀ j:Nat,(pI c j).taken.length=c.taken.length:=by
    intro j;induction j with
    | zero=>rfl
    | succ j ih=>show ((pI c j).taken.set j true).length=_;rw [E5w];exact ih
   exact this k
  by_cases e:k=i
  ·subst e;rw [if_pos rfl,hl,if_pos (show k<k+1 by omega)];by_cases h:k<c.taken.length
   ·rw [if_pos h,E40 h];rfl
   ·rw [if_neg h,E5C (by omega)];rfl
  ·rw [if_neg e,ih];by_cases h:i<k
   ·rw [if_pos h,if_pos (by omega)]
   ·rw [if_neg h,if_neg (by omega)]
end
end
section
def B0J (D:Dev) (n:Int) (i:Nat):List Bool:=(E5v i).map λk:Nat=>!decide (sE D.length n (k:Int)=4)
theorem wR {D:Dev} {n:Int} {i:Nat}:(B0J D n i).length=i:=by simp [B0J]
theorem D62 {D:Dev} {n:Int} {i:Nat}:B0J D n (i+1)=B0J D n i++[!decide (sE D.length n (i:Int)=4)]:=by simp [B0J,List.range_succ]
theorem B6F {l:List Bool}:(I7 l).length=l.length:=by simp [I7]
theorem D80 {D:Dev} {n:Int} (hm:R4 D.length n=true):(pI (G8 D n) (kI D.length n).toNat).taken=B0J D n D.length:=by
 have hr:=A0Z (b:=(D.length:Int)) (n:=n);refine List.ext_getElem? λi=>?_
 rw [D3z];have e0:(G8 D n).taken=E41 D.length false:=rfl;rw [e0];by_cases hi:i<D.length
 ·have e1:(E41 D.length false)[i]?=some false:=by simp [hi]
  have e2:(B0J D n D.length)[i]?=some (!decide (sE D.length n (i:Int)=4)):=by simp [B0J,hi]
  rw [e1,e2,D2A];unfold iP;rw [hm];by_cases hk:i<(kI D.length n).toNat
  ·rw [if_pos hk,decide_eq_false (show ¬ kI D.length n<=(i:Int) by omega)];rfl
  ·rw [if_neg hk,decide_eq_true (show kI D.length n<=(i:Int) by omega),decide_eq_true (show (i:Int)<(D.length:Int) by omega)];rfl
 ·rw [E5C (l:=E41 D.length false) (by simp;omega),E5C (l:=B0J D n D.length) (by rw [wR];omega)];split<;>rfl
theorem E2n {K:A6} {id n sz:Nat} {ys:List Cell} (hy:ys.length=sz) (hsz:0<sz) :
  jK (K++[rT ys]) sz (.c .ns) (sV K.length 0 1 sz)=some (sV (K.length+1) 0 1 sz,K++[rT ys,rT ys]):=by
 have h2:O5 (K++[rT ys]) sz (sV K.length 0 1 sz)=some ys:=by
  simp [O5,gF,hy,E5b (Nat.le_of_eq hy)]
 simp only [jK,h2,E49,hy,Nat.div_self hsz];simp
section
variable {D:Dev} {n m:Int} {P Q:Nat->Prop} {g h:A6} {v:Val}
theorem D7b {x3 x5 q lo:Nat} {xr xi xb xm xl xy:Cell} {lost:Int} {x4:Val} (hg:g.length<=x5) (h3:x3<lo) (h5:x5<lo) (n35:x3≠x5) (E4T:g.length<=lo) (hl:D.length<=1000) :
  ∀ (e i M:Nat) (xt:Cell) (H:A6),i+e=D.length->e<M->Grows g H->lo<=H.length->rd H x5=rT (rcC xr xi xt xb xm lost xl xy)->rd H x3=rT (D3 D.length n m)->((i=0/\xt=.ns)\/∃ tid,xt=.sl tid 0 i 1/\lo<=tid/\rd H tid=rT (I7 (B0J D n i))) ->
  ∃ xt' H',C6c q M v (pV x3 0) x4 (pV x5 0) (iV (i:Int)) H=tX q q v (pV x3 0) x4 (pV x5 0) (iV 0) H'/\Grows g H'/\lo<=H'.length/\rd H' x5=rT (rcC xr xi xt' xb xm lost xl xy) /\
   ((D.length=0/\xt'=.ns)\/∃ tid,xt'=.sl tid 0 D.length 1/\lo<=tid/\rd H' tid=rT (I7 (B0J D n D.length)))/\(∀ j,j<lo->j≠x5->rd H' j=rd H j):=by
 intro e
 induction e with
 | zero =>
  intro i M xt H hi hM G hlo r5 r3 hx;obtain ⟨M,rfl⟩:∃ M',M=M'+1:=⟨M-1,by omega⟩;have ei:i=D.length:=by omega
  subst ei;have l3:B4 H (pV x3 0)=some (iV (D.length:Nat)):=B5 r3 rfl rfl;have cL:¬ ((D.length:Nat):Int)<(D.length:Nat):=by omega
  refine ⟨xt,H,?_,G,hlo,r5,hx,λ_ _ _=>rfl⟩;rw [B2Q];simp only [esc,l3,cL]
 | succ e ih =>
  intro i M xt H hi hM G hlo r5 r3 hx;obtain ⟨M,rfl⟩:∃ M',M=M'+1:=⟨M-1,by omega⟩;have l3:B4 H (pV x3 0)=some (iV (D.length:Nat)):=B5 r3 rfl rfl;have l3N:C8 H 3 (pV x3 0)=some (.a (D3 D.length n m)):=B8 r3 rfl;have c0:(i:Int)<(D.length:Nat):=by omega
  have w1:=C6 (show i+1<9223372036854775808 by omega);have l5:B4 H (pV x5 2)=some (.c xt):=B5 r5 rfl rfl;have hA:=A3S (b:=(D.length:Int)) (n:=n) (m:=m) (no:=(i:Int)) (h:=H++[none]);have hq:=U9 (h:=H++[none]) (h':=H++[none]) (v:=iV (sE D.length n (i:Int))) Grows.rfl';obtain ⟨w,hw⟩:∃ w,w = !decide (sE D.length n (i:Int)=4):=⟨_,rfl⟩;have st0:(H++[none]).set H.length (rT [.b w])=H++[rT [.b w]]:=by rw [cU];rfl
  have ew:N5 .neq (iV (sE D.length n (i:Int))) (iV 4)=some (bV w):=by rw [hw];rfl
  have ef:D9 [.b false] [(0,1,bV w)]=some [.b w]:=rfl;have hbo:I7 (B0J D n (i+1))=I7 (B0J D n i)++[.b w]:=by rw [D62,hw];simp [I7]
  have h5l:=C5 r5;obtain ⟨tid,K2,a1,a2,a3,a4,a5⟩:∃ tid K2,jK (H++[rT [.b w]]) 1 (.c xt) (sV H.length 0 1 1)=some (sV tid 0 (i+1) 1,K2)/\lo<=tid/\rd K2 tid=rT (I7 (B0J D n (i+1)))/\Grows g K2/\(lo<=K2.length/\∀ j,j<lo->rd K2 j=rd H j):=by
   rcases hx with ⟨hi0,rfl⟩ | ⟨tid,rfl,t1,t2⟩
   ·subst hi0;refine ⟨H.length+1,_,E2n (id:=0) (n:=0) rfl (by omega),by omega,?_,Q4 G rfl,by simp;omega,λj hj=>D4 (by omega)⟩;rw [K0,hbo];rfl
   ·have o:=one_app (ys:=[Cell.b w]) t2 (n:=i) (sz:=1) (by rw [B6F,wR];omega) rfl (by omega) (by omega);refine ⟨H.length+1,_,o,by omega,?_,(A6x (G.new _) (by omega)).new _,by simp;omega,λj hj=>?_⟩
    ·have:rd ((H++[rT [Cell.b w]]).set tid none++[rT (I7 (B0J D n i)++[Cell.b w])]) ((H++[rT [Cell.b w]]).set tid none).length=rT (I7 (B0J D n i)++[Cell.b w]):=S8;rw [E5w,E43] at this;rw [hbo];exact this
    ·rw [D4 (by simp;omega),A7 (by omega),D4 (by omega)]
  have r52:rd K2 x5=rT (rcC xr xi xt xb xm lost xl xy):=by rw [a5.2 _ h5];exact r5
  obtain ⟨K3,hK3⟩:∃ K3,K3=K2.set x5 (rT (rcC xr xi (.sl tid 0 (i+1) 1) xb xm lost xl xy)):=⟨_,rfl⟩;have s3:F9 K2 (pV x5 2) (sV tid 0 (i+1) 1)=some K3:=by rw [F5 r52 (by simp [rcC]),hK3];rfl
  have o3:∀ j,j≠x5->rd K3 j=rd K2 j:=λj hj=>by rw [hK3,A7 (Ne.symm hj)]
  obtain ⟨xt',H',f1,f2,f3,f4,f5,f6⟩:=ih (i+1) M (.sl tid 0 (i+1) 1) K3 (by omega) (by omega) (by rw [hK3];exact a4.set hg _) (by rw [hK3];simp;exact a5.1) (by rw [hK3];exact B7 (C5 r52)) (by rw [o3 _ n35,a5.2 _ h3];exact r3) (.inr ⟨tid,rfl,a2,by rw [o3 _ (by omega)];exact a3⟩);refine ⟨xt',H',?_,f2,f3,f4,f5,λj hj T5=>by rw [f6 j hj T5,o3 j T5,a5.2 j hj]⟩;rw [B2Q];simp only [esc,Nat.reduceAdd,l3,c0,l5,l3N,hA,hq,ew,ef,st0,a1,s3,w1];exact f1
theorem D9d {x3 x5 q:Nat} {x4:Val} (hv:Has g v 256 D.length (D1 D)) (hD:okD D) (hn:n<=128) (n8:1<=n) (hl:D.length<=1000) (hg:g.length<=x5) (n35:x3≠x5) (nQ:¬ Q x5) :
  ∀ (e i M:Nat) (c:Cl) (cs:List Cell) (H:A6),i+e=129->e<M->i<=c.row.length->RowW n c->Small c 128 (224*i) (33*i) (224*i)->InoW D n c->Grows g H->IsRC n Q H cs c->(∀ id,H.length<=id->Q id)->rd H x5=rT cs->rd H x3=rT (D3 D.length n m) ->
  ∃ cs' H' M',tX q M v (pV x3 0) x4 (pV x5 0) (iV (i:Int)) H=tX q (M'+1) v (pV x3 0) x4 (pV x5 0) (iV ((ofR D n e i c).row.length:Nat)) H' /\
   Grows g H'/\IsRC n Q H' cs' (ofR D n e i c)/\(∀ id,H'.length<=id->Q id)/\rd H' x5=rT cs'/\InoW D n (ofR D n e i c)/\H.length<=H'.length/\(∀ j,j<H.length->j≠x5->rd H' j=rd H j):=by
 intro e
 induction e with
 | zero =>
  intro i M c cs H hi hM bO hR;have:=B7L hR.nd λa ha=>⟨(hR.rg a ha).1,by have:=(hR.rg a ha).2;omega⟩
  omega
 | succ e ih =>
  intro i M c cs H hi hM bO hR sm w G K hQ r5 r3;obtain ⟨M,rfl⟩:∃ M',M=M'+1:=⟨M-1,by omega⟩;unfold ofR;cases hc:c.row[i]? with
  | none =>
   have hlen:=List.getElem?_eq_none_iff.1 hc;have ei:i=c.row.length:=by omega
   dsimp only;rw [<-ei];exact ⟨cs,H,M,rfl,G,K,hQ,r5,w,E44 _,λ_ _ _=>rfl⟩
  | some a =>
   dsimp only;have P6:i<c.row.length:=(List.getElem?_eq_some_iff.1 hc).1;have ha:a∈c.row:=E5s hc;obtain ⟨ra1,ra2⟩:=hR.rg a ha;have w1:=C6 (show i+1<9223372036854775808 by omega);have c0:((i:Int)<(c.row.length:Nat)):=by omega
   have hvH:=hv.grows G;have hR':=C60 (D:=D) (ino:=a) hR;have r128:=B7L hR'.nd λa ha=>⟨(hR'.rg a ha).1,by have:=(hR'.rg a ha).2;omega⟩
   have sm':=D4Q (D:=D) (n:=n) (ino:=a) sm;have sm2:Small (gP D n c a) 128 (224*(i+1)) (33*(i+1)) (224*(i+1)):=⟨r128,sm'.lnk.mono (by omega),by have:=sm'.blocks;omega,by have:=sm'.made;omega,sm'.lost0,by have:=sm'.lost;omega⟩;have w2:=D4P (D:=D) (n:=n) (c:=c) (ino:=a) (by omega) ha w;have il:c.ino.length<=1000:=by rw [w.ilen];omega
   have i1:a.toNat<c.ino.length:=by rw [w.ilen];omega
   have sb:=sm.blocks;have sd:=sm.made;have K8:=K.length;obtain ⟨v35,v40,y1,y2,y3,y4⟩:∃ v35 v40,B4 H (pV x5 0)=some v35/\D1a v35=some (iV (c.row.length:Nat))/\D5 1 v35 (iV (i:Int))=some v40/\B4 H v40=some (iV a):=by
    obtain ⟨xr,xi,xt,xb,xm,xl,xy,ys,rfl,kk⟩:=id K;have l0:B4 H (pV x5 0)=some (.c xr):=B5 r5 rfl rfl;have hlen:=kk.row.len;obtain ⟨it,ot,et,_,hA,_⟩:=kk.row.sl (by omega);cases et;exact ⟨_,_,l0,hlen,by rw [C4 P6,Nat.mul_one],hA i _ (by rw [F6,hc];rfl)⟩
   have l3N:C8 H 3 (pV x3 0)=some (.a (D3 D.length n m)):=B8 r3 rfl;have l5N:C8 H 8 (pV x5 0)=some (.a cs):=B8 r5 K8;have hI:=rC (v:=v) (n:=n) (m:=m) (i:=a) (h:=H) hvH hD;rw [A6B] at hI;have f0:∀ k l s p d,C06 (.a (E6 k l s p d)) 0=some (iV k):=λ_ _ _ _ _=>rfl
   have step:∃ cs1 H1 H2,Grows H H1/\IsRC n (λid=>Q id\/H.length<=id) H1 cs1 (gP D n c a)/\E1 H1 8 (pV x5 0) (.a cs1)=some H2/\H2=H1.set x5 (rT cs1) /\
     tX q (M+1) v (pV x3 0) x4 (pV x5 0) (iV (i:Int)) H=tX q M v (pV x3 0) x4 (pV x5 0) (iV ((i+1:Nat):Int)) H2:=by
    rw [B2R];by_cases c1:a=1
    ·obtain ⟨cs1,H1,f1,f2,f3⟩:=D50 (m:=m) (ino:=a) hvH hD K w.tlen hl hn (by omega) i1 ra2 w.il il hR sm (by omega) (by omega) (by omega) (by omega);have eo:gP D n c a=pF D n c a:=by unfold gP;rw [if_neg (by simp [c1])]
     have s5:E1 H1 8 (pV x5 0) (.a cs1)=some (H1.set x5 (rT cs1)):=storeAll (f2.rd r5) K8 f3.length;refine ⟨cs1,H1,_,f2,by rw [eo];exact f3,s5,rfl,?_⟩;rw [c1] at y4 f1;generalize D3 D.length n m=LC at *;simp only [esc,Nat.reduceAdd,y1,y2,c0,y3,y4,eq_self,l5N,l3N,f1,s5,A3G,w1]
    ·by_cases c2:kdV D n a=1
     ·obtain ⟨cs1,H1,f1,f2,f3⟩:=D89 (m:=m) (ino:=a) hvH hD K w.tlen hl (by omega) i1 w.il il (by omega) (by omega);have eo:gP D n c a=gK D n c a:=by unfold gP;rw [if_pos ⟨c1,c2⟩]
      have s5:E1 H1 8 (pV x5 0) (.a cs1)=some (H1.set x5 (rT cs1)):=storeAll (f2.rd r5) K8 f3.length;refine ⟨cs1,H1,_,f2,by rw [eo];exact f3,s5,rfl,?_⟩;generalize D3 D.length n m=LC at *;simp only [esc,Nat.reduceAdd,y1,y2,c0,y3,y4,c1,hI,f0,c2,l5N,l3N,f1,s5,A3G,w1]
     ·obtain ⟨cs1,H1,f1,f2,f3⟩:=D50 (m:=m) (ino:=a) hvH hD K w.tlen hl hn (by omega) i1 ra2 w.il il hR sm (by omega) (by omega) (by omega) (by omega);have eo:gP D n c a=pF D n c a:=by unfold gP;rw [if_neg (by simp [c2])]
      have s5:E1 H1 8 (pV x5 0) (.a cs1)=some (H1.set x5 (rT cs1)):=storeAll (f2.rd r5) K8 f3.length;refine ⟨cs1,H1,_,f2,by rw [eo];exact f3,s5,rfl,?_⟩;generalize D3 D.length n m=LC at *;simp only [esc,Nat.reduceAdd,y1,y2,c0,y3,y4,c1,hI,f0,c2,l5N,l3N,f1,s5,A3G,w1]
   obtain ⟨cs1,H1,H2,s1,s2,s3,s4,s5⟩:=step;have lH1:=s1.len;have h5l:=C5 r5;have lH2:H2.length=H1.length:=by rw [s4];simp
   have same:∀ j,j<H.length->j≠x5->rd H2 j=rd H j:=λj hj T5=>by
    rw [s4,A7 (Ne.symm T5)];obtain ⟨tt,hh⟩:=s1.1;rw [<-hh,D4 hj]
   have K2:IsRC n Q H2 cs1 (gP D n c a):=by
    have:IsRC n Q H1 cs1 (gP D n c a):=s2.mono λid hid=>hid.elim (λx=>x) (hQ id)
    rw [s4];exact this.set (.inr nQ)
   have hlen:i+1<=(gP D n c a).row.length:=by
    have:c.row.length<=(gP D n c a).row.length:=C61;omega
   obtain ⟨cs',H',M',e1,e2,e3,e4,e5,e6,e7,e8⟩:=ih (i+1) M (gP D n c a) cs1 H2 (by omega) (by omega) hlen hR' sm2 w2 (by rw [s4];exact (G.trans' s1).set hg _) K2 (λid hid=>hQ id (by omega)) (by rw [s4];exact B7 (by omega)) (by rw [same _ (C5 r3) n35];exact r3);exact ⟨cs',H',M',s5.trans e1,e2,e3,e4,e5,e6,by omega,λj hj T5=>by rw [e8 j (by omega) T5,same j hj T5]⟩
theorem D45 {x3 x5 nid q:Nat} {x4:Val} {c:Cl} {xr xi xt xb xm xl xy:Cell} {lost:Int} {N:Nat} (eN:(n+1)=(N:Int)) (hN:N<=1000) (n3:nid≠x3) (n5:nid≠x5) :
  ∀ (e k M:Nat) (c:Cl) (H:A6),k+e=N->e<M->(∀ x∈c.ino,x.length=11)->c.ino.length=N->rd H x5=rT (rcC xr xi xt xb xm lost xl xy)->rd H x3=rT (D3 D.length n m)->rd H nid=rT (T1 c.ino)->Has H (.c xl) 1 N (encI (eK n c.lnk))->nmC xl≠some nid ->
  ∃ H' M',B4I q M (pV x3 0) x4 (pV x5 0) (sV nid 0 N 11) (iV (k:Int)) H=B4I q (M'+1) (pV x3 0) x4 (pV x5 0) (sV nid 0 N 11) (iV (N:Int)) H' /\
   rd H' nid=rT (T1 (S3 c ((E5D k e).map λi:Nat=>(i:Int))).ino)/\((∀ x∈(S3 c ((E5D k e).map λi:Nat=>(i:Int))).ino,x.length=11)/\(S3 c ((E5D k e).map λi:Nat=>(i:Int))).ino.length=N)/\∃ y:List Cell,H'=H.set nid (rT y):=by
 intro e
 induction e with
 | zero =>
  intro k M c H hk hM il ilen r5 r3 rn hx hnx;obtain ⟨M,rfl⟩:∃ M',M=M'+1:=⟨M-1,by omega⟩;have ek:k=N:=by omega
  subst ek;exact ⟨H,M,rfl,rn,⟨il,ilen⟩,_,(set_self rn).symm⟩
 | succ e ih =>
  intro k M c H hk hM il ilen r5 r3 rn hx hnx;obtain ⟨M,rfl⟩:∃ M',M=M'+1:=⟨M-1,by omega⟩;have hkN:k<N:=by omega
  have c0:(k:Int)<=n:=by omega
  have w1:=C6 (show k+1<9223372036854775808 by omega);have l3:B4 H (pV x3 1)=some (iV n):=B5 r3 rfl rfl;have ad:D5 11 (sV nid 0 N 11) (iV (k:Int))=some (pV nid (k*11)):=by rw [C4 hkN];simp
  have gi:=C6n (l:=c.ino) (i:=k) (k:=0) il (by omega) (by omega);have lk:B4 H (pV nid (k*11))=some (iV ((c.ino.getD k []).getD 0 0)):=B5 rn gi rfl;have l6:B4 H (pV x5 6)=some (.c xl):=B5 r5 rfl rfl;obtain ⟨it,ot,et,_,hA,_⟩:=hx.sl (by omega);cases et;have aL:D5 1 (sV it ot N 1) (iV (k:Int))=some (pV it (ot+k)):=by rw [C4 hkN,Nat.mul_one]
  have lL:B4 H (pV it (ot+k))=some (iV ((c.lnk (k:Int)).getD 0)):=hA k _ (by rw [F6,A4R (by omega)];rfl);have er:(E5D k (e+1)).map (λi:Nat=>(i:Int))=(k:Int)::(E5D (k+1) e).map (λi:Nat=>(i:Int)):=rfl;rw [er];have el:S3 c ((k:Int)::(E5D (k+1) e).map (λi:Nat=>(i:Int)))=S3 (Z7 c (k:Int)) ((E5D (k+1) e).map (λi:Nat=>(i:Int))):=rfl;rw [el];have elk:(Z7 c (k:Int)).lnk=c.lnk:=A6E.2.2.2.2.2.1;by_cases h1:(c.ino.getD k []).getD 0 0=1
  ·have ec:(Z7 c (k:Int)).ino=c.ino.set k ((c.ino.getD k []).set 1 ((c.lnk (k:Int)).getD 0)):=by unfold Z7;rw [E5j,if_pos h1]
   obtain ⟨H1,hH1⟩:∃ H1,H1=H.set nid (rT (T1 (Z7 c (k:Int)).ino)):=⟨_,rfl⟩;have s1:F9 H (pV nid (k*11+1)) (iV ((c.lnk (k:Int)).getD 0))=some H1:=by
    rw [F5 rn (by rw [U4 il];omega),C7o il (by omega) (by omega),hH1,ec]
   have il2:∀ x∈(Z7 c (k:Int)).ino,x.length=11:=λx hx=>by
    rw [ec] at hx;rcases E5H hx with h2 | h2
    ·exact il x h2
    ·rw [h2,E5w,E47,E40 (by omega)];exact il _ (E5F _)
   obtain ⟨H',M',f1,f2,f3,y,f4⟩:=ih (k+1) M (Z7 c (k:Int)) H1 (by omega) (by omega) il2 (by rw [ec,E5w];exact ilen) (by rw [hH1,A7 n5];exact r5) (by rw [hH1,A7 n3];exact r3) (by rw [hH1];exact B7 (C5 rn)) (by rw [hH1,elk];exact has_set hx (.inr hnx)) hnx;refine ⟨H',M',?_,f2,f3,y,by rw [f4,hH1,List.set_set]⟩;rw [h1] at lk;rw [A3H];simp only [esc,Nat.reduceAdd,l3,c0,ad,lk,l6,aL,lL,s1,B2P,w1];exact f1
  ·have ec:Z7 c (k:Int)=c:=by unfold Z7;rw [E5j,if_neg h1]
   rw [ec];obtain ⟨H',M',f1,f2,f3,y,f4⟩:=ih (k+1) M c H (by omega) (by omega) il ilen r5 r3 rn hx hnx;refine ⟨H',M',?_,f2,f3,y,f4⟩;rw [A3H];simp only [esc,Nat.reduceAdd,l3,c0,ad,lk,h1,B2P,w1];exact f1
end
end
section
section
variable {D:Dev} {n m:Int} {h:A6} {v:Val}
theorem E2z (hv:Has h v 256 D.length (D1 D)) (hD:okD D) (hm:R4 D.length n=true) :
  ∃ cs' H',B1b [v,.a (D3 D.length n m)] h=some (.a cs',H')/\Grows h H'/\IsRC n (λid=>h.length<=id) H' cs' (U1 D n):=by
 obtain ⟨b16,b512,n8,n128,_,_⟩:=J5.1 hm;obtain ⟨N,hN⟩:∃ N:Nat,n+1=(N:Int):=E5I (by omega);have hNn:(n+1).toNat=N:=by omega
 obtain ⟨xl,hxl⟩:∃ xl,xl=Cell.sl (h.length+4) 0 N 1:=⟨_,rfl⟩;obtain ⟨xy,hxy⟩:∃ xy,xy=Cell.sl (h.length+5) 0 N 1:=⟨_,rfl⟩;obtain ⟨xr,hxr⟩:∃ xr,xr=Cell.sl (h.length+2) 0 1 1:=⟨_,rfl⟩;obtain ⟨xi,hxi⟩:∃ xi,xi=Cell.sl (h.length+3) 0 N 11:=⟨_,rfl⟩;obtain ⟨C0,hC0⟩:∃ C0,C0=rcC xr xi .ns .ns .ns 0 xl xy:=⟨_,rfl⟩;obtain ⟨H0,hH0⟩:∃ H0,H0=h++[rT (D3 D.length n m),rT Z8,rT [.i .i64 1],rT (T1 (E41 N (zI 11))),rT (encI (eK n λ_=>none)),rT (encI (eK n λ_=>none)),rT C0]:=⟨_,rfl⟩;obtain ⟨H1,hH1⟩:∃ H1,H1=h++[rT (D3 D.length n m),rT Z8,rT [.i .i64 1],rT (T1 (E41 N (zI 11))),rT (encI (eK n λ_=>none)),rT (encI (eK n (G8 D n).par)),rT C0]:=⟨_,rfl⟩;have lH1:H1.length=h.length+7:=by rw [hH1];simp
 have G1:Grows h H1:=by rw [hH1];exact Q4 Grows.rfl' rfl
 have at1:∀ (k:Nat) (x:Option Row),[rT (D3 D.length n m),rT Z8,rT [.i .i64 1],rT (T1 (E41 N (zI 11))),rT (encI (eK n λ_=>none)),rT (encI (eK n (G8 D n).par)),rT C0][k]?=some x->rd H1 (h.length+k)=x:=λk x hk=>by
  rw [hH1];unfold rd;rw [E5e (by omega),show h.length+k-h.length=k by omega,hk];rfl
 have r3:rd H1 h.length=rT (D3 D.length n m):=at1 0 _ rfl;have r4:rd H1 (h.length+1)=rT Z8:=at1 1 _ rfl;have rr:rd H1 (h.length+2)=rT [.i .i64 1]:=at1 2 _ rfl;have ri:rd H1 (h.length+3)=rT (T1 (E41 N (zI 11))):=at1 3 _ rfl;have rl:rd H1 (h.length+4)=rT (encI (eK n λ_=>none)):=at1 4 _ rfl;have ry:rd H1 (h.length+5)=rT (encI (eK n (G8 D n).par)):=at1 5 _ rfl;have r5:rd H1 (h.length+6)=rT C0:=at1 6 _ rfl;have P6:∀ x∈E41 N (zI 11),x.length=11:=λx hx=>by rw [List.eq_of_mem_replicate hx];simp [zI]
 obtain ⟨Q,hQ⟩:∃ Q:Nat->Prop,Q=λid=>h.length<=id/\id≠h.length/\id≠h.length+1/\id≠h.length+6:=⟨_,rfl⟩
 have nQ5:¬ Q (h.length+6):=by rw [hQ];intro hh;omega
 have nQ3:¬ Q h.length:=by rw [hQ];intro hh;omega
 have nQ4:¬ Q (h.length+1):=by rw [hQ];intro hh;omega
 have Qhi:∀ id,h.length+7<=id->Q id:=λid hid=>by rw [hQ];exact ⟨by omega,by omega,by omega,by omega⟩
 rw [hC0] at r5;obtain ⟨xt,H2,f1,f2,f3,f4,f5,f6⟩:=D7b (D:=D) (n:=n) (m:=m) (v:=v) (g:=h) (x3:=h.length) (x5:=h.length+6) (q:=1200) (lo:=h.length+7) (xr:=xr) (xi:=xi) (xb:=.ns) (xm:=.ns) (xl:=xl) (xy:=xy) (lost:=0) (x4:=pV (h.length+1) 0) (by omega) (by omega) (by omega) (by omega) (by omega) (by omega) D.length 0 1200 .ns H1 (by omega) (by omega) G1 (by omega) r5 r3 (.inl ⟨rfl,rfl⟩);obtain ⟨tid,rfl,t1,t2⟩:∃ tid,xt=.sl tid 0 D.length 1/\h.length+7<=tid/\rd H2 tid=rT (I7 (B0J D n D.length)):=by
  rcases f5 with ⟨h0,_⟩ | hh
  ·omega
  ·exact hh
 obtain ⟨K,hK⟩:∃ K,K=(kI D.length n).toNat:=⟨_,rfl⟩;have hsO:=ownR_same (c:=G8 D n) (k:=K);have uC:=D80 hm;rw [<-hK] at uC;have low:∀ j,j<h.length+7->j≠h.length+6->rd H2 j=rd H1 j:=f6;have lz:(E41 N (zI 11)).length=N:=by simp
 have K2:IsRC n Q H2 (rcC xr xi (.sl tid 0 D.length 1) .ns .ns 0 xl xy) (pI (G8 D n) K):=by
  refine ⟨xr,xi,.sl tid 0 D.length 1,.ns,.ns,xl,xy,[],by rw [hsO.lost];rfl,⟨?_,?_,?_,?_,?_,⟨by rw [hsO.made];rfl,rfl,λi y hy=>by simp at hy⟩,?_,?_,?_,?_,?_,?_,?_,?_,?_⟩⟩
  ·rw [hsO.row,hxr];exact Has.row (rw:=true) (by rw [low _ (by omega) (by omega)];exact rr) rfl rfl
  ·have e:(pI (G8 D n) K).ino=E41 N (zI 11):=by rw [hsO.ino];show E41 (n+1).toNat (zI 11)=_;rw [hNn]
   rw [e,hxi,lz];exact Has.row (rw:=true) (by rw [low _ (by omega) (by omega)];exact ri) (by rw [U4 P6,lz]) (B1q _)
  ·rw [uC,wR];refine Has.row (rw:=true) t2 (by rw [B6F,wR];omega) ?_;exact List.all_eq_true.2 λx hx=>by obtain ⟨y,_,rfl⟩:=List.mem_map.1 hx;rfl
  ·rw [hsO.blocks];exact .inl ⟨rfl,rfl,rfl⟩
  ·rw [hsO.made];exact .inl ⟨rfl,rfl,rfl⟩
  ·rw [hsO.lnk,hNn,hxl];exact Has.row (rw:=true) (by rw [low _ (by omega) (by omega)];exact rl) (by rw [A8,Q9];omega) (bF _)
  ·rw [hsO.par,hNn,hxy];exact Has.row (rw:=true) (by rw [low _ (by omega) (by omega)];exact ry) (by rw [A8,Q9];omega) (bF _)
  ·intro id hi;rw [hxr] at hi;cases hi;rw [hQ];exact ⟨by omega,by omega,by omega,by omega⟩
  ·intro id hi;rw [hxi] at hi;cases hi;rw [hQ];exact ⟨by omega,by omega,by omega,by omega⟩
  ·intro id hi;cases hi;exact Qhi _ t1
  ·intro id hi;cases hi
  ·intro id hi;cases hi
  ·intro id hi;rw [hxl] at hi;cases hi;rw [hQ];exact ⟨by omega,by omega,by omega,by omega⟩
  ·intro id hi;rw [hxy] at hi;cases hi;rw [hQ];exact ⟨by omega,by omega,by omega,by omega⟩
 have rI:RowW n (pI (G8 D n) K):=by
  refine RowW.same (c:=G8 D n) ⟨by simp [G8],λi=>?_,λi hi=>?_⟩ hsO.row hsO.par
  ·by_cases c1:i=1
   ·subst c1;simp [G8,uI]
   ·simp [G8,uI,c1]
  ·simp [G8] at hi;omega
 have smI:Small (pI (G8 D n) K) 128 (224*0) (33*0) (224*0):=⟨by rw [hsO.row];simp [G8],λi=>by rw [hsO.lnk];simp [G8],by rw [hsO.blocks];simp [G8],by rw [hsO.made];simp [G8],by rw [hsO.lost];simp [G8],by rw [hsO.lost];simp [G8]⟩;have wI:InoW D n (pI (G8 D n) K):=by
  have e:(pI (G8 D n) K).ino=E41 N (zI 11):=by rw [hsO.ino];show E41 (n+1).toNat (zI 11)=_;rw [hNn]
  refine ⟨by rw [e];exact P6,by rw [e,lz,hNn],by rw [uC,wR],λk _=>?_⟩;rw [e];cases hx:(E41 N (zI 11))[k]? with
  | none=>rw [show (E41 N (zI 11)).getD k []=[] by rw [E47,hx];rfl];decide
  | some x=>rw [show (E41 N (zI 11)).getD k []=x by rw [E47,hx];rfl,List.eq_of_mem_replicate (E5s hx)];decide
 obtain ⟨cs3,H3,M3,g1,g2,g3,g4,g5,g6,g7,g8⟩:=D9d (D:=D) (n:=n) (m:=m) (v:=v) (g:=h) (Q:=Q) (x3:=h.length) (x5:=h.length+6) (q:=1200) (x4:=pV (h.length+1) 0) hv hD n128 (by omega) (by omega) (by omega) (by omega) nQ5 129 0 1200 (pI (G8 D n) K) _ H2 (by omega) (by omega) (by omega) rI smI wI f2 K2 (λid hid=>Qhi id (by omega)) f4 (by rw [low _ (by omega) (by omega)];exact r3);have ecO:ofR D n 129 0 (pI (G8 D n) K)=iL D n:=by unfold iL;rw [<-hK]
 rw [ecO] at g1 g3 g6;obtain ⟨c,hc⟩:∃ c,c=iL D n:=⟨_,rfl⟩;have hcr:=(zC hD hm).1;rw [<-hc] at g1 g3 g6 hcr;have q3:rd H3 h.length=rT (D3 D.length n m):=by rw [g8 _ (by omega) (by omega),low _ (by omega) (by omega)];exact r3
 have q4:rd H3 (h.length+1)=rT Z8:=by rw [g8 _ (by omega) (by omega),low _ (by omega) (by omega)];exact r4
 obtain ⟨yr,yi,yt,yb,ym,yl,yy,ys,rfl,k3⟩:=id g3;have ilen:c.ino.length=N:=by rw [g6.ilen,hNn]
 have cp:=B4G (H:=H3) k3.ino (by omega) (by omega);obtain ⟨H4,hH4⟩:∃ H4,H4=H3++[none,rT (T1 c.ino)]:=⟨_,rfl⟩;rw [<-hH4,ilen] at cp;have lH4:H4.length=H3.length+2:=by rw [hH4];simp
 have G34:Grows H3 H4:=by rw [hH4];exact Q4 Grows.rfl' rfl
 have rn:rd H4 (H3.length+1)=rT (T1 c.ino):=by rw [hH4,K0];rfl
 have hl3:=g2.len;have h73:h.length+7<=H3.length:=by omega
 have k4:=k3.low.grows G34;have lL:Has H4 (.c yl) 1 N (encI (eK n c.lnk)):=by have:=k4.tol;rw [hNn] at this;exact this
 obtain ⟨L,hL⟩:∃ L,L=(E5D 2 (N-2)).map λi:Nat=>(i:Int):=⟨_,rfl⟩
 obtain ⟨H5,M5,o1,o2,o3,y,o4⟩:=D45 (D:=D) (n:=n) (m:=m) (x3:=h.length) (x5:=h.length+6) (nid:=H3.length+1) (q:=1200) (x4:=pV (h.length+1) 0) (c:=c) (xr:=yr) (xi:=yi) (xt:=yt) (xb:=yb) (xm:=ym) (xl:=yl) (xy:=yy) (lost:=c.lost) (N:=N) hN (by omega) (by omega) (by omega) (N-2) 2 1200 c H4 (by omega) (by omega) g6.il ilen (G34.rd g5) (G34.rd q3) rn lL (λhh=>by have:=k4.pl _ hh;omega);rw [<-hL] at o2 o3;have eF:S3 c L=U1 D n:=by
  have h1:S3 c L=S3 c c.row:=D4G g6 hcr.rg λa=>by
   rw [hL,List.mem_map];constructor
   ·rintro ⟨i,hi,rfl⟩;have:=List.mem_range'_1.1 hi;omega
   ·intro ha;exact ⟨a.toNat,List.mem_range'_1.2 (by omega),by omega⟩
  rw [h1,hc];rfl
 have q55:rd H5 (h.length+6)=rT (rcC yr yi yt yb ym c.lost yl yy):=by rw [o4,A7 (by omega)];exact G34.rd g5
 obtain ⟨C',hC'⟩:∃ C',C'=rcC yr (.sl (H3.length+1) 0 N 11) yt yb ym c.lost yl yy:=⟨_,rfl⟩;obtain ⟨H6,hH6⟩:∃ H6,H6=H5.set (h.length+6) (rT C'):=⟨_,rfl⟩;have s6:F9 H5 (pV (h.length+6) 1) (sV (H3.length+1) 0 N 11)=some H6:=by rw [F5 q55 (by simp [rcC]),hH6,hC'];rfl
 have l6:C8 H6 8 (pV (h.length+6) 0)=some (.a C'):=B8 (by rw [hH6];exact B7 (C5 q55)) (by rw [hC'];rfl);have q46:rd H6 (h.length+1)=rT Z8:=by rw [hH6,A7 (by omega),o4,A7 (by omega)];exact G34.rd q4
 obtain ⟨H7,hH7⟩:∃ H7,H7=H6.set (h.length+1) (rT C'):=⟨_,rfl⟩;have s7:E1 H6 8 (pV (h.length+1) 0) (.a C')=some H7:=by rw [storeAll (n:=8) q46 rfl (by rw [hC'];rfl),hH7]
 have l7:C8 H7 8 (pV (h.length+1) 0)=some (.a C'):=B8 (by rw [hH7];exact B7 (C5 q46)) (by rw [hC'];rfl);have G4:Grows h H4:=g2.trans' G34;have G7:Grows h H7:=by rw [hH7,hH6,o4];exact ((G4.set (show h.length<=H3.length+1 by omega) _).set (show h.length<=h.length+6 by omega) _).set (show h.length<=h.length+1 by omega) _
 obtain ⟨a1,a2,a3,a4,a5,a6,a7⟩:=wQ (L:=L) (c:=c);rw [eF] at a1 a2 a3 a4 a5 a6 a7 o2 o3;have k7:RCF n (λid=>h.length<=id) H7 c yr yi yt yb ym yl yy ys:=by
  rw [hH7,hH6,o4];have nn:∀ j,¬ Q j->¬ (Q j/\j<H3.length):=λj hj hh=>hj hh.1
  exact (((k4.set (.inr (by omega))).set (.inr (nn _ nQ5))).set (.inr (nn _ nQ4))).mono λid hid=>by have:=hid.1;rw [hQ] at this;exact this.1
 have rn7:rd H7 (H3.length+1)=rT (T1 (U1 D n).ino):=by rw [hH7,A7 (by omega),hH6,A7 (by omega)];exact o2
 refine ⟨C',H7,D00 (n:=1200) ?_,G7,yr,.sl (H3.length+1) 0 N 11,yt,yb,ym,yl,yy,ys,by rw [hC',a5],
  ⟨by rw [a1];exact k7.row,?_,by rw [a2];exact k7.tak,by rw [a3];exact k7.blk,by rw [a4];exact k7.mad,by rw [a4];exact k7.mds,by rw [a6];exact k7.tol,by rw [a7];exact k7.par,k7.pr,λid hi=>by cases hi;omega,k7.pt,k7.pb,k7.pm,k7.pl,k7.py⟩⟩
 rotate_left
 ·rw [o3.2];exact Has.row (rw:=true) rn7 (by rw [U4 o3.1,o3.2]) (B1q _)
 have z11:[o0,o0,o0,o0,o0,o0,o0,o0,o0,o0,o0]=encI (zI 11):=rfl;have cl1:cells? (.a (D3 D.length n m))=some (D3 D.length n m):=rfl;have ef1:D9 [o0] [(0,1,iV 1)]=some [.i .i64 1]:=rfl;have wn:IntKind.wrap .i64 (n+1)=(N:Int):=by rw [wrap_i64 (by omega) (by omega),hN]
 have nt:∀ k:Nat,k<=1000->A4V (iV (k:Int))=some k:=λk hk=>by
  simp only [A4V];rw [if_pos (by omega)];simp
 have am1:A1m (iV (N:Int)) (iV (N:Int))=some N:=by simp only [A1m,nt N (by omega),E49];rw [if_pos (E44 _)]
 have rz1:rows (encI (zI 11)) N=T1 (E41 N (zI 11)):=by unfold rows T1;rw [List.map_replicate]
 have rz2:rows [o0] N=encI (eK n λ_=>none):=by
  have e:eK n (λ_=>none)=zI N:=by
   unfold eK;rw [hNn];refine List.ext_getElem? λi=>?_
   simp [zI,List.getElem?_replicate];split<;>simp_all
  rw [e];unfold rows;rw [List.flatten_replicate_singleton];simp [encI,zI]
 have ef2:D9 Z8 [(0,1,sV (h.length+2) 0 1 1),(1,1,sV (h.length+3) 0 N 11),(6,1,sV (h.length+4) 0 N 1),(7,1,sV (h.length+5) 0 N 1)]=some C0:=by rw [hC0,hxr,hxi,hxl,hxy];rfl
 have lay1:B4 (h++[rT (D3 D.length n m),rT Z8]) (pV h.length 1)=some (iV n):=B5 (cs:=D3 D.length n m) (by rw [E9];rfl) rfl rfl;obtain ⟨Hs,hHs⟩:∃ Hs,Hs=h++[rT (D3 D.length n m),rT Z8,rT [.i .i64 1],rT (T1 (E41 N (zI 11))),rT (encI (eK n λ_=>none)),rT (encI (eK n λ_=>none)),rT Z8]:=⟨_,rfl⟩;have sH0:E1 Hs 8 (pV (h.length+6) 0) (.a C0)=some H0:=by
  rw [storeAll (cs:=Z8) (n:=8) (by rw [hHs,K0];rfl) rfl (by rw [hC0];rfl),hHs,rD,hH0];rfl
 have lY:B4 H0 (pV (h.length+6) 7)=some (sV (h.length+5) 0 N 1):=B5 (cs:=C0) (by rw [hH0,K0];rfl) (by rw [hC0,hxy];rfl) rfl;have aY:D5 1 (sV (h.length+5) 0 N 1) (iV 1)=some (pV (h.length+5) 1):=C4 (j:=1) (by omega);have sY:F9 H0 (pV (h.length+5) 1) (iV 1)=some H1:=by
  rw [F5 (cs:=encI (eK n λ_=>none)) (by rw [hH0,K0];rfl) (by rw [A8,Q9];omega),bC,C6K,hH0,rD,hH1];rfl
 have c00:((0:Nat):Int)=0:=rfl;rw [c00] at f1 g1;have c2:((2:Nat):Int)=2:=rfl;rw [c2] at o1;have l35:B4 H3 (pV (h.length+6) 0)=some (.c yr):=B5 g5 rfl rfl;have alr:=k3.row.len;have cR:¬ ((c.row.length:Nat):Int)<(c.row.length:Nat):=by omega
 have l63:B4 (H3++[rT []]) (pV (h.length+6) 1)=some (.c yi):=B5 (B6 g5) rfl rfl;have efN:D9 [] []=some []:=rfl;have l25:B4 H5 (pV h.length 1)=some (iV n):=B5 (cs:=D3 D.length n m) (by rw [o4,A7 (by omega)];exact G34.rd q3) rfl rfl;have cN:¬ ((N:Int)<=n):=by omega
 rw [D0N,z11,A4g];generalize encI (zI 11)=Z at *;generalize hLL:D3 D.length n m=LC at *;generalize hZ8:Z8=E8 at *;simp only [cl1,Q5,E45,E5x,E5g,E43,E5a,E5u,E5l,Nat.reduceAdd];simp only [esc,Nat.reduceAdd,lay1,wn,am1,ef1,rz1,rz2,ef2,Nat.add_assoc,<-hHs];simp only [esc,sH0,lY,aY,sY];refine f1.trans (g1.trans ?_);rw [B2R];simp only [esc,l35,alr,cR,efN,l63,cp];refine o1.trans ?_;rw [A3H];simp only [esc,l25,cN,s6,l6,s7,l7]
end
end
end Go.Proofs.YtbnkgnfhgbhblaaGreat
namespace Go.Proofs.YtbnkgnfhgbhblaaGreat
open Go Go.Esc
set_option maxRecDepth 100000
noncomputable section
variable (n m m2:Nat) (a0 a1 a2:Val) (h:A6)
def A45:FD Tryz.prog:=⟨px 0X14c2162ec2688664881c5bc06152122c01168806880040123211012,[.c .np],[.min (.t 3) (.v (.c (.i .i64 512))),.max (.v (.c (.i .i64 16))) (.t 4),.build ([.ns,o0,.b false,.b false,o0,o0]) [(0,1,(.t 7))]],[.tmp 2],[]⟩
def C3T:=A45.R
def C7H:=mR C3T A45 (tT []) n [a0] h
def C3s:=A45.K Tryz.func154
def B3H:=A45.Q
theorem C75:SOk Tryz.prog 154 B3H:=C3s.ok
theorem C74:OfT C3T B3H:=C3s.of
def lF:FD Tryz.prog:=⟨px 0X14c2161c861c064c639c051621201121121224068800240220131211012,[],[.eqN false false (.t 3)],[.tmp 2],[]⟩
def tC:=lF.R
def B1C:=mR tC lF (tT []) n [a0] h
def A30:=lF.K Tryz.func204
def tH:=lF.S
theorem xX:SOk Tryz.prog 204 tH:=A30.sok
theorem A7T:E5 tC tH:=A30.flat
def nM:FD Tryz.prog:=⟨px 0X114114120119411412241c81d1634a2a863a4487f6481cb6481f06484f64839f04834483601617c41e11c1d12169411412246818161c364c639c0191518103215411412243c510688061351032050314111022,[.c (.b true)],[.eqN false false (.t 6)],[.tmp 4],[]⟩
def wZ:=nM.R
def B3h:=mR wZ nM (tT []) n [a0,a1] h
def A6Y:=nM.K Tryz.func238
def Z0:=nM.S
theorem A0B:SOk Tryz.prog 238 Z0:=A6Y.sok
theorem A8O:E5 wZ Z0:=A6Y.flat
def dP:FD Tryz.prog:=⟨px 0X1a21fa464c2e39c5607c61c464c639c41c1818241627c021d23122,[],[],[],[]⟩
def xW:=dP.R
def A5m:=mR xW dP (tT []) n [a0,a1] h
def B1y:=dP.K Tryz.func239
def O8:=dP.Q
theorem A4c:D7z Tryz.prog 239 O8:=D5R (D5D _) Tryz.func239 (by kernel_rfl)
theorem A5K:OfT xW O8:=B1y.of
def B45:DFn:=⟨[([1,3,5,6],(.ops [aB 3 0,aB 5 2,aO 6 (.alloc ([o0]))])),([1,3,5,6],(sO [1,3,5,6] [aL 7 3,aM 8 1,aO 9 (.call 238 [(.t 7),(.t 8)]),aN (.store1 (.t 6) (.t 9))] (sO [1,3,5,6,11] [aL 10 6,aO 11 (.bin .neq (.t 10) (.v (iV 0)))] (.cond (.t 11) (sO [6] [aL 12 6,aN (.store1 (.t 6) (.t 12))] .ret) .skip))))],[1,3,5,6],13,239,[(.t 6),(.t 3)],(.seq [1,3,5,6] (sO [1,3,5,6,24] [aL 14 3,aO 15 (.nilc (.t 14)),aF 16 15 2,aL 17 16,aM 18 17,aG 19 18 true (.load1 (.t 3)),aG 20 18 true (.nilc (.t 19)),aG 21 18 true (.fAddr (.t 20) 1),aG 22 18 true (.load1 (.t 21)),aG 23 18 true (.bin .eql (.t 22) (.v (iV 0))),aO 24 (.pick (.t 18) (.t 23) (.v (bV false)))] (.cond (.t 24) (sO [6] [aL 25 3,aO 26 (.nilc (.t 25)),aF 27 26 3,aN (.store1 (.t 27) (.v (bV true)))] (sO [6] [aN (.store1 (.t 6) (.v (iV 12)))] .ret)) .skip)) (.seq [1,3,5,6] (sO [1,3,5,6,31] [aL 28 3,aO 29 (.nilc (.t 28)),aF 30 29 2,aL 31 30] (.cond (.t 31) (.ops [aL 32 3,aO 33 (.nilc (.t 32)),aF 34 33 1,aL 35 34,aO 36 (.bin .sub (.t 35) (.v (iV 1))),aO 37 (.nilc (.t 32)),aF 38 37 1,aN (.store1 (.t 38) (.t 36))]) .skip)) (.seq [6] (.draw 0 [aL 39 3,aO 40 (.nilc (.t 39)),aF 41 40 0,aL 42 41,aM 43 1,aL' 44 256 5] [aO 45 (.iAddrL 256 (.t 42) (.t 43)),aN (.storeN 256 (.t 45) (.t 44))]) (sO [6] [aN (.store1 (.t 6) (.v (iV 0)))] .ret)))),[.cell1 6]⟩
def B46:N4:=D8f 238 Z0 D20
def qB:Fun:=B45.run B46 O8 0
theorem A8N:SOk Tryz.prog 205 qB:=D76 (D5e A0B D5d) A4c Tryz.func205 (by kernel_rfl)
theorem A8M:qB [a0,a1,a2] h=bnd (cells? a0) λc1=>bnd (cells? a2) λc2=>bnd (B4 (((h++[rT (c1)])++[rT (c2)])++[rT ([o0])]) (pV h.length 0)) λv3=>bnd (Z0 [v3,a1] (((h++[rT (c1)])++[rT (c2)])++[rT ([o0])])) λp4=>bnd (F9 p4.2 (pV ((h++[rT (c1)])++[rT (c2)]).length 0) p4.1) λh5=>bnd (B4 h5 (pV ((h++[rT (c1)])++[rT (c2)]).length 0)) λv6=>bnd (N5 .neq v6 (iV 0)) λv7=>cnd v7 (bnd (B4 h5 (pV ((h++[rT (c1)])++[rT (c2)]).length 0)) λv8=>bnd (F9 h5 (pV ((h++[rT (c1)])++[rT (c2)]).length 0) v8) λh9=>mp (B4 h9 (pV ((h++[rT (c1)])++[rT (c2)]).length 0)) λv=>(v,h9)) (bnd (B4t 239 [(pV ((h++[rT (c1)])++[rT (c2)]).length 0),(pV h.length 0)]) λv10=>bnd (B4 h5 (pV h.length 0)) λv11=>bnd (A4i v11) λv12=>bnd (qL v12 2) λv13=>bnd (B4 h5 v13) λv14=>bnd (gd v14 true (bnd (B4 h5 (pV h.length 0)) λv15=>some (v15,h5)) (some (.no,h5))) λp16=>bnd (gd v14 true (bnd (A4i p16.1) λv17=>some (v17,p16.2)) (some (.no,p16.2))) λp18=>bnd (gd v14 true (bnd (qL p18.1 1) λv19=>some (v19,p18.2)) (some (.no,p18.2))) λp20=>bnd (gd v14 true (bnd (B4 p20.2 p20.1) λv21=>some (v21,p20.2)) (some (.no,p20.2))) λp22=>bnd (gd v14 true (bnd (N5 .eql p22.1 (iV 0)) λv23=>some (v23,p22.2)) (some (.no,p22.2))) λp24=>bnd (D2z v14 p24.1 (bV false)) λv25=>cnd v25 (bnd (B4 p24.2 (pV h.length 0)) λv26=>bnd (A4i v26) λv27=>bnd (qL v27 3) λv28=>bnd (F9 p24.2 v28 (bV true)) λh29=>bnd (F9 h29 (pV ((h++[rT (c1)])++[rT (c2)]).length 0) (iV 12)) λh30=>bnd (B6G O8 v10 h30) λp31=>mp (B4 p31.2 (pV ((h++[rT (c1)])++[rT (c2)]).length 0)) λv=>(v,p31.2)) (bnd (B4 p24.2 (pV h.length 0)) λv32=>bnd (A4i v32) λv33=>bnd (qL v33 2) λv34=>bnd (B4 p24.2 v34) λv35=>cnd v35 (bnd (B4 p24.2 (pV h.length 0)) λv36=>bnd (A4i v36) λv37=>bnd (qL v37 1) λv38=>bnd (B4 p24.2 v38) λv39=>bnd (N5 .sub v39 (iV 1)) λv40=>bnd (A4i v36) λv41=>bnd (qL v41 1) λv42=>bnd (F9 p24.2 v42 v40) λh43=>bnd (B4 h43 (pV h.length 0)) λv44=>bnd (A4i v44) λv45=>bnd (qL v45 0) λv46=>bnd (B4 h43 v46) λv47=>bnd (C8 h43 256 (pV (h++[rT (c1)]).length 0)) λv48=>bnd (D5 256 v47 a1) λv49=>bnd (E1 (h43++[]) 256 v49 v48) λh50=>bnd (F9 h50 (pV ((h++[rT (c1)])++[rT (c2)]).length 0) (iV 0)) λh51=>bnd (B6G O8 v10 h51) λp52=>mp (B4 p52.2 (pV ((h++[rT (c1)])++[rT (c2)]).length 0)) λv=>(v,p52.2)) (bnd (B4 p24.2 (pV h.length 0)) λv53=>bnd (A4i v53) λv54=>bnd (qL v54 0) λv55=>bnd (B4 p24.2 v55) λv56=>bnd (C8 p24.2 256 (pV (h++[rT (c1)]).length 0)) λv57=>bnd (D5 256 v56 a1) λv58=>bnd (E1 (p24.2++[]) 256 v58 v57) λh59=>bnd (F9 h59 (pV ((h++[rT (c1)])++[rT (c2)]).length 0) (iV 0)) λh60=>bnd (B6G O8 v10 h60) λp61=>mp (B4 p61.2 (pV ((h++[rT (c1)])++[rT (c2)]).length 0)) λv=>(v,p61.2)))):=by kernel_rfl
def fN:FD Tryz.prog:=⟨px 0X1a21fa564c439c5607c61c564c639c61c1818,[],[],[],[]⟩
def A0q:=fN.R
def A7P:=mR A0q fN (tT []) n [a0] h
def B3f:=fN.K Tryz.func240
def V6:=fN.Q
theorem A5J:D7z Tryz.prog 240 V6:=D5R (D5D _) Tryz.func240 (by kernel_rfl)
theorem A7S:OfT A0q V6:=B3f.of
def B7S:DFn:=⟨[([1,2,4],(.ops [aB 2 0,aO 4 (.alloc (E41 256 (.i .u8 0))),aO 5 (.mv (.v (iV 0)))])),([1,2,4],(sO [1,2,4,5] [aL 6 2,aM 7 1,aO 8 (.call 238 [(.t 6),(.t 7)]),aM 5 8] (sO [1,2,4,5,10] [aM 9 5,aO 10 (.bin .neq (.t 9) (.v (iV 0)))] (.cond (.t 10) (sO [4,5] [aL' 11 256 4,aM 12 5,aN (.storeN 256 (.t 4) (.t 11)),aM 5 12] .ret) .skip))))],[1,2,4],13,240,[(.t 2)],(sO [4,5] [aL 14 2,aO 15 (.nilc (.t 14)),aF 16 15 0,aL 17 16,aM 18 1,aO 19 (.iAddrL 256 (.t 17) (.t 18)),aL' 20 256 19,aN (.storeN 256 (.t 4) (.t 20)),aO 5 (.mv (.v (iV 0)))] .ret),[.cellN 4 256,.tmp 5]⟩
def B7T:N4:=D8f 238 Z0 D20
def tG:Fun:=B7S.run B7T V6 0
theorem B1I:SOk Tryz.prog 206 tG:=D76 (D5e A0B D5d) A5J Tryz.func206 (by kernel_rfl)
theorem B1H:tG [a0,a1] h=bnd (cells? a0) λc1=>bnd (B4 ((h++[rT (c1)])++[rT (E41 256 (.i .u8 0))]) (pV h.length 0)) λv2=>bnd (Z0 [v2,a1] ((h++[rT (c1)])++[rT (E41 256 (.i .u8 0))])) λp3=>bnd (N5 .neq p3.1 (iV 0)) λv4=>cnd v4 (bnd (C8 p3.2 256 (pV (h++[rT (c1)]).length 0)) λv5=>bnd (E1 p3.2 256 (pV (h++[rT (c1)]).length 0) v5) λh6=>C7B [C8 h6 256 (pV (h++[rT (c1)]).length 0),some p3.1] h6) (bnd (B4t 240 [(pV h.length 0)]) λv7=>bnd (B4 p3.2 (pV h.length 0)) λv8=>bnd (A4i v8) λv9=>bnd (qL v9 0) λv10=>bnd (B4 p3.2 v10) λv11=>bnd (D5 256 v11 a1) λv12=>bnd (C8 p3.2 256 v12) λv13=>bnd (E1 p3.2 256 (pV (h++[rT (c1)]).length 0) v13) λh14=>bnd (B6G V6 v7 h14) λp15=>C7B [C8 p15.2 256 (pV (h++[rT (c1)]).length 0),some (iV 0)] p15.2):=by kernel_rfl
def iW:FD Tryz.prog:=⟨px 0X1582162e4883cc61c064c639c0000048853fd72120148823b91212240688002402201348823b91012,[],[.eqN false false (.t 3)],[.tmp 2],[]⟩
def pR:=iW.R
def A8e:=mR pR iW (tT []) n [a0] h
def A1L:=iW.K Tryz.func84
def qA:=iW.S
theorem A8L:SOk Tryz.prog 84 qA:=A1L.sok
theorem A7R:pE pR qA:=A1L.out
end
end Go.Proofs.YtbnkgnfhgbhblaaGreat
namespace Go.Proofs.YtbnkgnfhgbhblaaGreat
open Go Go.Esc
section
def dkC (q len:Nat) (w r:Int):List Cell:=[.sl q 0 len 256,o0,.b false,.b false,.i .i64 w,.i .i64 r]
structure IsDk (h:A6) (p q:Nat) (D:Dev) (w r:Int):Prop where
 ne:p≠q
 row:rd h p=rT (dkC q D.length w r)
 blk:rd h q=rT (D1 D)
def But (p q:Nat) (h h':A6):Prop:=h.length<=h'.length/\∀ id,id<h.length->id≠p->id≠q->rd h' id=rd h id
theorem But.refl (p q:Nat) (h:A6):But p q h h:=⟨E44 _,λ_ _ _ _=>rfl⟩
theorem But.trans {p q:Nat} {h h' h'':A6} (a:But p q h h') (b:But p q h' h''):But p q h h'' :=
 ⟨E5E a.1 b.1,λid hid h1 h2=>(b.2 id (by have:=a.1;omega) h1 h2).trans (a.2 id hid h1 h2)⟩
theorem But.more {p q:Nat} {h h':A6} (a:But p q h h') (t:A6):But p q h (h'++t) :=
 ⟨by have:=a.1;simp;omega,λid hid h1 h2=>by rw [D4 (by have:=a.1;omega)];exact a.2 id hid h1 h2⟩
theorem But.set {p q id:Nat} {h h':A6} {x:Option Row} (a:But p q h h') (hid:h.length<=id\/id=p\/id=q):But p q h (h'.set id x) :=
 ⟨by simpa using a.1,λj hj h1 h2=>by rw [A7 (by omega)];exact a.2 j hj h1 h2⟩
theorem IsDk.more {h:A6} {p q:Nat} {D:Dev} {w r:Int} (k:IsDk h p q D w r) (t:A6):IsDk (h++t) p q D w r:=⟨k.ne,B6 k.row,B6 k.blk⟩
theorem IsDk.setO {h:A6} {p q id:Nat} {D:Dev} {w r:Int} {x:Option Row} (k:IsDk h p q D w r) (h1:id≠p) (h2:id≠q):IsDk (h.set id x) p q D w r :=
 ⟨k.ne,by rw [A7 h1];exact k.row,by rw [A7 h2];exact k.blk⟩
theorem IsDk.ro {h:A6} {p q:Nat} {D:Dev} {w r:Int} (k:IsDk h p q D w r):rd (ro h) p=some ⟨dkC q D.length w r,false⟩/\rd (ro h) q=some ⟨D1 D,false⟩:=by
 have e1:(Row.mk (dkC q D.length w r) true).head=false:=rfl;refine ⟨B7E k.row e1,B7E k.blk ?_⟩;cases hD:D1 D with
 | nil=>rfl
 | cons c l =>
  have:=dJ D;rw [hD] at this;cases c<;>first | rfl | (simp [noX,Cell.isX] at this)
theorem D2Z {N:Nat} {h:A6} (h1:16<=N) (h2:N<=512):B3H [iV (N:Int)] h=some (pV (h.length+1) 0,h++[rT (D1 (E41 N (zeros 256))),rT (dkC h.length N 0 0)]):=by
 refine C74 (n:=0) ?_;have m1:B6B (iV (N:Int)) (iV 512)=some (iV (N:Int)):=by simp only [B6B];simp;omega
 have m2:C5A (iV 16) (iV (N:Int))=some (iV (N:Int)):=by simp only [C5A];simp;omega
 have mk:=D7I (N:=N) (by omega);have ef:D9 [.ns,o0,.b false,.b false,o0,o0] [(0,1,sV h.length 0 N 256)]=some (dkC h.length N 0 0):=rfl;rw [C7H];simp only [esc,m1,m2,mk,ef,D3Q]
section
variable {h:A6} {p q:Nat} {D:Dev} {w r:Int}
theorem B6L (k:IsDk h p q D w r):tH [pV p 0] h=some (iV (D.length:Nat),h):=by
 have l0:B4 (ro h) (pV p 0)=some (sV q 0 D.length 256):=B5 k.ro.1 rfl rfl;have key:tC 0 [pV p 0] (ro h)=some (iV (D.length:Nat),ro h):=by
  rw [B1C];simp only [esc,l0]
 exact A7T key rfl
theorem C1n {no:Nat} (k:IsDk h p q D w r) (bM:no<D.length):Z0 [pV p 0,iV (no:Int)] h=some (iV 0,h):=by
 have l0:B4 (ro h) (pV p 0)=some (sV q 0 D.length 256):=B5 k.ro.1 rfl rfl;have l3:B4 (ro h) (pV p 3)=some (bV false):=B5 k.ro.1 rfl rfl;have c0:¬ (no:Int)<0:=by omega
 have c1:¬ (no:Int)>=(D.length:Nat):=by omega
 have key:wZ 0 [pV p 0,iV (no:Int)] (ro h)=some (iV 0,ro h):=by
  rw [B3h];simp only [esc,Nat.reduceAdd,l0,l3,c0,c1]
 exact A8O key rfl
theorem C24 {a b:Nat} (k:IsDk h p q D w r) (ha:rd h a=rT [o0]) (hb:rd h b=rT [.p p 0]) (hw:0<=w/\w<1000) :
  O8 [pV a 0,pV b 0] h=some (.t [],h.set p (rT (dkC q D.length (w+1) r))):=by
 refine A5K (n:=0) ?_;have l1:B4 h (pV a 0)=some (iV 0):=B5 ha rfl rfl;have l2:B4 h (pV b 0)=some (pV p 0):=B5 hb rfl rfl;have l3:B4 h (pV p 4)=some (iV w):=B5 k.row rfl rfl;have s1:F9 h (pV p 4) (iV (w+1))=some (h.set p (rT (dkC q D.length (w+1) r))):=by rw [F5 k.row (by simp [dkC])];rfl
 have ww:IntKind.wrap .i64 (w+1)=w+1:=wrap_i64 (by omega) (by omega);rw [A5m];simp only [esc,Nat.reduceAdd,l1,l2,l3,ww,s1];rfl
theorem A3y {no:Nat} {b:List UInt8} (k:IsDk h p q D w r) (hD:okD D) (hb:b.length=256) (bM:no<D.length) (hw:0<=w/\w<1000) :
  ∃ h',qB [pV p 0,iV (no:Int),.a (A5 b)] h=some (iV 0,h')/\IsDk h' p q (D.set no b) (w+1) r/\But p q h h':=by
 have kp:=C5 k.row;have kq:=C5 k.blk;obtain ⟨G,hG⟩:∃ G,G=h++[rT [.p p 0],rT (A5 b),rT [o0]]:=⟨_,rfl⟩;have kG:IsDk G p q D w r:=by rw [hG];exact k.more _
 have lG:G.length=h.length+3:=by rw [hG];simp
 have r0:rd G h.length=rT [.p p 0]:=by rw [hG,E9];rfl
 have r1:rd G (h.length+1)=rT (A5 b):=by rw [hG,K0];rfl
 have r2:rd G (h.length+2)=rT [o0]:=by rw [hG,K0];rfl
 have hm:=C1n kG bM;have l0:B4 G (pV h.length 0)=some (pV p 0):=B5 r0 rfl rfl;have lb:C8 G 256 (pV (h.length+1) 0)=some (.a (A5 b)):=B8 r1 (by rw [A4,hb]);have l2:B4 G (pV (h.length+2) 0)=some (iV 0):=B5 r2 rfl rfl;have s2:F9 G (pV (h.length+2) 0) (iV 0)=some G:=by
  rw [F5 r2 (by simp),hG];simp
 have d0:B4 G (pV p 0)=some (sV q 0 D.length 256):=B5 kG.row rfl rfl;have d2:B4 G (pV p 2)=some (bV false):=B5 kG.row rfl rfl;have ad:D5 256 (sV q 0 D.length 256) (iV (no:Int))=some (pV q (no*256)):=by rw [C4 bM];simp
 have sd:E1 G 256 (pV q (no*256)) (.a (A5 b))=some (G.set q (rT (D1 (D.set no b)))):=B1x kG.blk hD hb bM;have n2:h.length+2≠q:=by omega
 have n2p:h.length+2≠p:=by omega
 obtain ⟨H,hH⟩:∃ H,H=G.set q (rT (D1 (D.set no b))):=⟨_,rfl⟩;have kH:IsDk H p q (D.set no b) w r:=by
  rw [hH];refine ⟨k.ne,?_,?_⟩
  ·rw [A7 (Ne.symm k.ne),E5w];exact kG.row
  ·rw [B7 (by omega)]
 have q0:rd H h.length=rT [.p p 0]:=by rw [hH,A7 (by omega)];exact r0
 have q2:rd H (h.length+2)=rT [o0]:=by rw [hH,A7 (by omega)];exact r2
 have s3:F9 H (pV (h.length+2) 0) (iV 0)=some H:=by
  rw [F5 q2 (by simp)];have:H.set (h.length+2) (rT ([o0].set 0 o0))=H:=by
   rw [rd_some] at q2;refine List.ext_getElem? λi=>?_
   rw [List.getElem?_set];split
   ·rename_i e;subst e;have hl:=(List.getElem?_eq_some_iff.1 q2).1;rw [if_pos hl,q2];rfl
   ·rfl
  rw [this]
 have hW:=C24 kH q2 q0 hw;have hcd:B6G O8 (.c (.f 239 [(h.length+2,0),(h.length,0)])) H=some (.t [],H.set p (rT (dkC q (D.set no b).length (w+1) r))):=hW;have l4:B4 (H.set p (rT (dkC q (D.set no b).length (w+1) r))) (pV (h.length+2) 0)=some (iV 0):=B5 (by rw [A7 (by omega)];exact q2) rfl rfl;refine ⟨H.set p (rT (dkC q (D.set no b).length (w+1) r)),?_,⟨k.ne,?_,?_⟩,?_⟩
 ·rw [A8M];have e1:cells? (pV p 0)=some [.p p 0]:=rfl;have e2:cells? (.a (A5 b))=some (A5 b):=rfl;have mf:B4t 239 [pV (h.length+2) 0,pV h.length 0]=some (.c (.f 239 [(h.length+2,0),(h.length,0)])):=rfl;simp only [e1,e2,Q5,E45,E5x,E5g,E43,E5a,E5u,E5l,Nat.reduceAdd,<-hG];simp only [esc,Nat.reduceAdd,l0,hm,s2,l2,mf,d0,d2,lb,ad,sd,<-hH,s3,hcd,l4]
 ·rw [B7 (by rw [hH];simp;omega)]
 ·rw [A7 k.ne];exact kH.blk
 ·refine But.set ?_ (.inr (.inl rfl));rw [hH];refine But.set ?_ (.inr (.inr rfl));rw [hG];exact (But.refl p q h).more _
theorem D1i {no:Nat} (k:IsDk h p q D w r) (hD:okD D) (bM:no<D.length) (hr:0<=r/\r<1000) :
  ∃ h',tG [pV p 0,iV (no:Int)] h=some (.t [.a (A5 D[no]),.c o0],h')/\IsDk h' p q D w (r+1)/\But p q h h':=by
 have kp:=C5 k.row;have kq:=C5 k.blk;obtain ⟨G,hG⟩:∃ G,G=h++[rT [.p p 0],rT (A5 (zeros 256))]:=⟨_,rfl⟩;have kG:IsDk G p q D w r:=by rw [hG];exact k.more _
 have lG:G.length=h.length+2:=by rw [hG];simp
 have r0:rd G h.length=rT [.p p 0]:=by rw [hG,E9];rfl
 have r1:rd G (h.length+1)=rT (A5 (zeros 256)):=by rw [hG,K0];rfl
 have hm:=C1n kG bM;have l0:B4 G (pV h.length 0)=some (pV p 0):=B5 r0 rfl rfl;have d0:B4 G (pV p 0)=some (sV q 0 D.length 256):=B5 kG.row rfl rfl;have ad:D5 256 (sV q 0 D.length 256) (iV (no:Int))=some (pV q (no*256)):=by rw [C4 bM];simp
 have ld:C8 G 256 (pV q (no*256))=some (.a (A5 D[no])):=by
  rw [cP kG.blk (by rw [I3 hD];omega) rfl,bW hD bM]
 have sb:E1 G 256 (pV (h.length+1) 0) (.a (A5 D[no]))=some (G.set (h.length+1) (rT (A5 D[no]))):=storeAll r1 (by rw [A4,zeros_length]) (by rw [A4,hD.at bM]);obtain ⟨H,hH⟩:∃ H,H=G.set (h.length+1) (rT (A5 D[no])):=⟨_,rfl⟩;have kH:IsDk H p q D w r:=by rw [hH];exact kG.setO (by omega) (by omega)
 have q0:rd H h.length=rT [.p p 0]:=by rw [hH,A7 (by omega)];exact r0
 have q1:rd H (h.length+1)=rT (A5 D[no]):=by rw [hH,B7 (by omega)]
 have ww:IntKind.wrap .i64 (r+1)=r+1:=wrap_i64 (by omega) (by omega);have h1:V6 [pV h.length 0] H=some (.t [],H.set p (rT (dkC q D.length w (r+1)))):=by
  refine A7S (n:=0) ?_;have l1:B4 H (pV h.length 0)=some (pV p 0):=B5 q0 rfl rfl;have l3:B4 H (pV p 5)=some (iV r):=B5 kH.row rfl rfl;have s1:F9 H (pV p 5) (iV (r+1))=some (H.set p (rT (dkC q D.length w (r+1)))):=by rw [F5 kH.row (by simp [dkC])];rfl
  rw [A7P];simp only [esc,Nat.reduceAdd,l1,l3,ww,s1];rfl
 have hcd:B6G V6 (.c (.f 240 [(h.length,0)])) H=some (.t [],H.set p (rT (dkC q D.length w (r+1)))):=h1;have l4:C8 (H.set p (rT (dkC q D.length w (r+1)))) 256 (pV (h.length+1) 0)=some (.a (A5 D[no])):=B8 (by rw [A7 (by omega)];exact q1) (by rw [A4,hD.at bM]);refine ⟨H.set p (rT (dkC q D.length w (r+1))),?_,⟨k.ne,?_,?_⟩,?_⟩
 ·rw [B1H];have e1:cells? (pV p 0)=some [.p p 0]:=rfl;have mf:B4t 240 [pV h.length 0]=some (.c (.f 240 [(h.length,0)])):=rfl;have ez:E41 256 (Cell.i .u8 0)=A5 (zeros 256):=I5 256;simp only [e1,ez,Q5,E45,E5x,E5g,E43,E5a,E5u,E5l,Nat.reduceAdd,<-hG];simp only [esc,Nat.reduceAdd,l0,hm,mf,d0,ad,ld,sb,<-hH,hcd,l4,D5X]
 ·rw [B7 (by rw [hH];simp;omega)]
 ·rw [A7 k.ne];exact kH.blk
 ·refine But.set ?_ (.inr (.inl rfl));rw [hH];refine But.set ?_ (.inl (by omega));rw [hG];exact (But.refl p q h).more _
theorem C8x (k:IsDk h p q D w r) (hD:okD D) (hl:D.length<=512):qA [pV p 0] h=some (sV h.length 0 D.length 256,h++[rT (D1 D)]):=by
 obtain ⟨G,hG⟩:∃ G,G=ro h++[rT [],rT []]:=⟨_,rfl⟩;have d0:B4 G (pV p 0)=some (sV q 0 D.length 256):=by rw [hG];exact B5 (B6 k.ro.1) rfl rfl
 have hQ:Has G (sV q 0 D.length 256) 256 D.length (D1 D):=by
  rw [hG];exact Has.row (B6 k.ro.2) (I3 hD) (dJ D)
 have rI:rd G ((ro h).length+1)=rT []:=by rw [hG,K0];rfl
 have ho:Out (ro h).length G (sV ((ro h).length+1) 0 0 256) 256 0 []:=⟨rfl,(ro h).length+1,rfl,by omega,rI⟩;obtain ⟨id,v',h',e1,e2,e3,_⟩:=ho.app (m:=D.length) (by omega) hQ.add (by rw [I3 hD]) (by omega);have key:pR 0 [pV p 0] (ro h)=some (v',h'):=by
  rw [A8e];have ef:D9 [] []=some []:=rfl;simp only [E45,E5x,E5g,E43,E5a,E5u,E5l,Nat.reduceAdd,ef,Q5,<-hG];simp only [esc,Nat.reduceAdd,d0,e2]
 rw [E5l,E5g] at e3;exact A7R key (by rw [E7] at e3;exact e3) fZ
end
end
end Go.Proofs.YtbnkgnfhgbhblaaGreat
namespace Go.Proofs.YtbnkgnfhgbhblaaGreat
open Go Go.Esc
set_option maxRecDepth 100000
noncomputable section
variable (n m m2:Nat) (a0:Val) (h:A6)
def A1q:FD Tryz.prog:=⟨px 0X1482162ec26881688051521201321121224068800240220133211012,[.c .np],[.eqN false false (.t 3),.mkMap,.build ([.np,.nm,.ns,o0]) [(0,1,(.t 5)),(1,1,(.t 6))]],[.tmp 2],[]⟩
def C0D:=A1q.R
def C3S:=mR C0D A1q (tT []) n [a0] h
def B94:=A1q.K Tryz.func207
def A8G:=A1q.Q
theorem C4B:SOk Tryz.prog 207 A8G:=B94.ok
theorem C4A:OfT C0D A8G:=B94.of
end
noncomputable section
variable (n m m2:Nat) (a0 a1 x0 x3 x5 x7 x8:Val) (h:A6)
def W5:FD Tryz.prog:=⟨px 0X13fc41611a351ac2c4883807d14412013e8415802412241637c587a127b1a50423cc1a162a2e351ac26171ac6161ac1c338021ac06c150191a50335023298715607c3c4913180139c414c02412241637c4c69126a1975306238819161a1e351ac48488383c00051975305206484881de12e6802a5b692d84f1611a341ac513511191033b3e84848858397182461e27c5607c021ac3c4b144e18753062187530511a1c182d9118753052157530430702461e17c6131ac1c3383c3d14487530527530437530406051e8715607c023b1ad37530425303301194114122461e37c161c01c4c6111ac02e140193a530435303301541141224631e2a81634c7f6e4c3600688028162d53042530337c07824881de1c52d912a6801e1e696c1b16101ac4e31c391865304210432ed23022,[.c (.b true)],[.eqN false false (.t 16)],[.tmp 4],[cal A9u,cal xX,cal A3d,cal A0H,cal A7c,cal A8N,cal B2n,cal A65]⟩
def A8x:=W5.R
def C3h:AtH:=W5.lj 0 n [m] [x0,x3,x5,x7]
def C3g:AtH:=W5.lj 1 n [m] [x0,x3,x5,x7,x8]
def A0Q:=tT [⟨2,4,C3h⟩,⟨2,5,C3g⟩]
def B5R:=mR A8x W5 A0Q n [a0,a1] h
def A1h:=mL W5 A0Q 0 n [m] [x0,x3,x5,x7] h
def B42:=mJ W5 A0Q 1 n [m] [x0,x3,x5,x7,x8] h
def A8a:=W5.K Tryz.func155
def A0N:=W5.Q
theorem B6n:SOk Tryz.prog 155 A0N:=A8a.ok
theorem B6m:OfT A8x A0N:=A8a.of
def uX:FD Tryz.prog:=⟨px 0X1102a82162ec268841068e383386131ac03f141193223016d03212322224673a2a861e3687f2612681af06836681f038684f601637c2c2e170193e603360231ac511a8231de2a62d912a6801e2c6919c2916111ac7a4882a3918650320118803215e033222241637c4e1e121f5404240236c06824881de1c42d912a6801e1c695c19116201ac01a11854032015032123222240688071218022013103212012,[.c .np,.c (.b true)],[.eqN false false (.t 7),.mkMap,.build ([.np,o0,o0,.i .u64 0,o0,.nm]) [(0,1,(.t 32)),(1,3,(.t 33)),(5,1,(.t 34))]],[.tmp 2,.tmp 3],[cal B1I,cal A9s,cal xX,cal C4B]⟩
def B2h:=uX.R
def B8o:=mR B2h uX (tT []) n [a0] h
def B2a:=uX.K Tryz.func156
def A3q:=uX.Q
theorem B9l:SOk Tryz.prog 156 A3q:=B2a.ok
theorem B9k:OfT B2h A3q:=B2a.of
end
noncomputable section
variable (n m m2:Nat) (a0:Val) (h:A6)
def yH:FD Tryz.prog:=⟨px 0X11ac01a8212c0282c14322219c01985112a6801e2a6918c1f16121ac6a28175422013078215a033222241637c61a211ac43383a1a141d4224134c416101ac61c0474d44122303062ec3112,[.c .np],[],[.tmp 2,.tmp 3],[cal C75,cal B6n,cal B9l]⟩
def B5C:=yH.R
def C10:=mR B5C yH (tT []) n [a0] h
def B5f:=yH.K Tryz.func83
def A5L:=yH.Q
theorem A66:SOk Tryz.prog 83 A5L:=B5f.ok
theorem C2t:OfT B5C A5L:=B5f.of
end
noncomputable section
variable (n m m2:Nat) (h:A6)
def A46:FD Tryz.prog:=⟨px 0X12631de49111891022a3e820122a02d91012,[],[],[.cellN 0 3],[]⟩
def B3i:=A46.R
def C7I:=mR B3i A46 (tT []) n [] h
def C3t:=A46.K Tryz.func39
def B3I:=A46.S
theorem C77:SOk Tryz.prog 39 B3I:=C3t.sok
theorem C2u:E5 B3i B3I:=C3t.flat
end
noncomputable section
variable (n m m2:Nat) (a0:Val) (h:A6)
def lJ:FD Tryz.prog:=⟨px 0X15c216111ac3e1a132124c0483112a6801e18693c516101ac4363973124883b862ec2112,[],[],[.tmp 2],[cal A66,cal A8L]⟩
def tD:=lJ.R
def B1D:=mR tD lJ (tT []) n [a0] h
def A31:=lJ.K Tryz.func38
def tJ:=lJ.S
theorem B1J:SOk Tryz.prog 38 tJ:=A31.sok
theorem A8P:pE tD tJ:=A31.out
end
end Go.Proofs.YtbnkgnfhgbhblaaGreat
namespace Go.Proofs.YtbnkgnfhgbhblaaGreat
open Go Go.Esc
def map40:List UInt8:=eQ [0,1,2]
def tab40:List UInt8:=I6 (zeros 256) (32*0) (gA 2 1 0 1 (zI 7))
def D40a:Dev:=(E41 16 (zeros 256)).set 2 tab40
def D40b:Dev:=D40a.set 1 map40
def D40:Dev:=D40b.set 0 (iR 16 8 0)
theorem B7k:map40.length=256:=by unfold map40 eQ;rw [cK,zeros_length]
theorem zR:tab40.length=256:=by decide +kernel
theorem okD40a:okD D40a:=(B9T 16).set zR
theorem okD40b:okD D40b:=okD40a.set B7k
theorem okD40:okD D40:=okD40b.set T2
theorem E0l:D40a.length=16:=by unfold D40a;rw [E5w,E5r]
theorem E0m:D40b.length=16:=by unfold D40b;rw [E5w,E0l]
theorem gC:D40.length=16:=by unfold D40;rw [E5w,E0m]
theorem D0l {h t:A6} {v:Val} (hn:t.all B21=true):quiet h (some (v,h++t))=some (v,h++t):=by
 have:=D0m (g:=h) (l:=[]) (l':=t) (v:=v) (List.nil_prefix) (by simpa using hn);simpa using this
theorem D8B (h:A6):B3I [] h=some (.a (D3 16 8 0),h):=by
 have key:∀ g,∃ g',B3i 0 [] g=some (.a (D3 16 8 0),g'):=λg=>by
  have ef:D9 [o0,o0,.i .u64 0] [(0,1,iV 16),(1,1,iV 8)]=some (D3 16 8 0):=rfl;have st:E1 (g++[rT [o0,o0,.i .u64 0]]) 3 (pV g.length 0) (.a (D3 16 8 0))=some (g++[rT (D3 16 8 0)]):=by rw [J1];rfl
  have ll:ldN (rT (D3 16 8 0)) 0 3=some (.a (D3 16 8 0)):=rfl;rw [C7I];generalize D3 16 8 0=L at *;exact ⟨_,by simp only [esc,ef,st,N6,ll]<;>rfl⟩
 obtain ⟨g',e⟩:=key (ro h);exact C2u e rfl
theorem C3f {p q:Nat} {h:A6} (k:IsDk h p q (E41 16 (zeros 256)) 0 0) :
  ∃ h',A0N [pV p 0,.a (D3 16 8 0)] h=some (iV 0,h')/\IsDk h' p q D40 3 0/\But p q h h':=by
 have kp:=C5 k.row;have kq:=C5 k.blk;have hm:R4 16 8=true:=by decide
 have hp:=λh=>B7O (b:=16) (n:=8) (m:=0) (h:=h) (by omega) (by omega)
 simp only [hm,cond_true] at hp;have E22:∀ h,A1Z [.a (D3 16 8 0)] h=some (iV 3,h):=λh=>zL
 have uC:=λh=>C1A (b:=16) (n:=8) (m:=0) (h:=h)
 have ed:(kI 16 8).toNat=3:=by decide
 rw [ed] at uC;have hT:∀ h,yX [.a (A5 (zeros 256)),iV 0,.a (E6 2 1 0 1 (zI 7))] h=some (.t [.a (A5 tab40),.c o0],h):=λh=>B3d (j:=0) (k:=2) (l:=1) (s:=0) (p:=1) (d:=zI 7) (b:=zeros 256) (h:=h) zeros_length rfl (by omega) (by decide)
 obtain ⟨G,hG⟩:∃ G,G=h++[rT (D3 16 8 0),rT (A5 (iR 16 8 0))]:=⟨_,rfl⟩;have lG:G.length=h.length+2:=by rw [hG];simp
 have kG:IsDk G p q (E41 16 (zeros 256)) 0 0:=by rw [hG];exact k.more _
 have r0:rd G h.length=rT (D3 16 8 0):=by rw [hG,E9];rfl
 have r1:rd G (h.length+1)=rT (A5 (iR 16 8 0)):=by rw [hG,K0];rfl
 obtain ⟨h1,w1,k1,b1⟩:=A3y (no:=2) (b:=tab40) (kG.more [rT (A5 tab40)]) (B9T 16) zR (by simp) (by omega);have x1:rd h1 h.length=rT (D3 16 8 0):=by rw [b1.2 _ (by simp;omega) (by omega) (by omega)];exact B6 r0
 have y1:rd h1 (h.length+1)=rT (A5 (iR 16 8 0)):=by rw [b1.2 _ (by simp;omega) (by omega) (by omega)];exact B6 r1
 have lh1:=b1.1;rw [E43] at lh1;have kO:=k1.more [rT (encI (upto 3))];obtain ⟨h2,w2,k2,b2⟩:=A3y (no:=1) (b:=map40) kO okD40a B7k (by simp) (by omega);have y2:rd h2 (h.length+1)=rT (A5 (iR 16 8 0)):=by rw [b2.2 _ (by simp;omega) (by omega) (by omega)];exact B6 y1
 have lh2:=b2.1;rw [E43] at lh2;obtain ⟨h3,w3,k3,b3⟩:=A3y (no:=0) (b:=iR 16 8 0) k2 okD40b T2 (by simp) (by omega);have hC:=B2w (v:=sV h1.length 0 3 1) (nv:=3) (l:=[0,1,2]) (h:=h1++[rT (encI (upto 3))]) (by decide) (by decide) (Has.tr (cs:=encI (upto 3)) (by simp) rfl rfl);have eC:eQ [0,1,2]=map40:=rfl;rw [eC] at hC;refine ⟨h3,?_,k3,?_⟩
 ·refine B6m (n:=9) ?_;have hSz:=B6L kG;have lR:((E41 16 (zeros 256)).length:Int)=16:=rfl;rw [lR] at hSz;have eS:E1 (h++[rT (D3 16 8 0),rT (A5 (zeros 256))]) 256 (pV (h.length+1) 0) (.a (A5 (iR 16 8 0)))=some G:=by
   rw [storeAll (cs:=A5 (zeros 256)) (by rw [K0];rfl) (by rw [A4,zeros_length]) (by rw [A4,T2]),hG,rD];rfl
  have l3:C8 (h++[rT (D3 16 8 0)]) 3 (pV h.length 0)=some (.a (D3 16 8 0)):=by rw [N6];rfl
  have g0:B4 G (pV h.length 0)=some (iV 16):=B5 r0 rfl rfl;have g3:C8 G 3 (pV h.length 0)=some (.a (D3 16 8 0)):=B8 r0 rfl;have ef:D9 [o0,o0,o0,o0,o0,o0,o0,o0,o0,o0,o0] [(0,1,iV 2),(1,1,iV 1),(3,1,iV 1)]=some (E6 2 1 0 1 (zI 7)):=rfl;have lz:C8 (G++[rT (A5 (zeros 256))]) 256 (pV G.length 0)=some (.a (A5 (zeros 256))):=B8 (by rw [E9];rfl) (by rw [A4,zeros_length]);have sz:E1 (G++[rT (A5 (zeros 256))]) 256 (pV G.length 0) (.a (A5 tab40))=some (G++[rT (A5 tab40)]):=by
   rw [storeAll (cs:=A5 (zeros 256)) (by rw [E9];rfl) (by rw [A4,zeros_length]) (by rw [A4,zR]),cU];rfl
  have lt:C8 (G++[rT (A5 tab40)]) 256 (pV G.length 0)=some (.a (A5 tab40)):=B8 (by rw [E9];rfl) (by rw [A4,zR]);have h13:C8 h1 3 (pV h.length 0)=some (.a (D3 16 8 0)):=B8 x1 rfl;have h26:C8 h2 256 (pV (h.length+1) 0)=some (.a (A5 (iR 16 8 0))):=B8 y2 (by rw [A4,T2]);have cl:cells? (.a (D3 16 8 0))=some (D3 16 8 0):=rfl;have c2:((2:Nat):Int)=2:=rfl;have c1:((1:Nat):Int)=1:=rfl;have c0:((0:Nat):Int)=0:=rfl;rw [c2] at w1;rw [c1] at w2;rw [c0] at w3;have wr2:IntKind.wrap .i64 (1+1)=2:=rfl;have wr3:IntKind.wrap .i64 (2+1)=3:=rfl;have n1:¬ (1:Int)=0:=by decide
  have l23:(2:Int)<3:=by decide
  have l33:¬ (3:Int)<3:=by decide
  have e4:G++[rT (A5 (zeros 256))]=G++[rT (A5 (zeros 256))]:=rfl;rw [B5R,I5];generalize A5 tab40=T at *;generalize A5 map40=M at *;generalize A5 (iR 16 8 0)=S at *;generalize hZ:A5 (zeros 256)=Z at *;generalize encI (upto 3)=U at *;generalize E6 2 1 0 1 (zI 7)=I at *;generalize D3 16 8 0=L at *;simp only [esc,Nat.reduceAdd,cl,l3,hp,eS,hSz,g0,wJ,wr2];rw [A1h,I5,hZ];simp only [esc,Nat.reduceAdd,g3,E22,l23,wJ,wr2,lz,ef,hT,sz,lt,B42,w1,wr3];rw [A1h,I5,hZ];have hq:=D0l (h:=h1) (t:=[rT U]) (v:=sV h1.length 0 3 1) rfl;simp only [esc,Nat.reduceAdd,h13,E22,l33,wJ,uC,hq,hC,w2,h26,w3]
 ·refine But.trans (h':=h1) ?_ (But.trans (h':=h2) ?_ b3)
  ·refine But.trans (h':=G++[rT (A5 tab40)]) ?_ b1;rw [hG];exact ((But.refl p q h).more _).more _
  ·refine But.trans (h':=h1++[rT (encI (upto 3))]) ((But.refl p q h1).more _) b2
theorem E3q:okS (iR 16 8 0)=true:=by decide +kernel
theorem E2i:B9P (iR 16 8 0)=D3 16 8 0:=by decide +kernel
theorem C7s {p q:Nat} {h:A6} (k:IsDk h p q D40 3 0) :
  ∃ v h',A3q [.c (.p p 0)] h=some (.t [.c v,.c o0],h')/\IsDk h' p q D40 3 1:=by
 obtain ⟨h1,e1,k1,b1⟩:=D1i (no:=0) k okD40 (by rw [gC];omega) (by omega);have kp:=C5 k1.row;have kq:=C5 k1.blk;have e0:D40[0]'(by rw [gC];omega)=iR 16 8 0:=by unfold D40;rw [List.getElem_set_self]
 rw [e0] at e1;have hG:=λh=>A6R (b:=iR 16 8 0) (h:=h) T2
 rw [E3q,cond_true,E2i] at hG;have c0:((0:Nat):Int)=0:=rfl;rw [c0] at e1;obtain ⟨T,hT⟩:∃ T:A6,T=[rT (A5 (iR 16 8 0)),rT (D3 16 8 0)]:=⟨_,rfl⟩;obtain ⟨H,hH⟩:∃ H,H=h1++T:=⟨_,rfl⟩;have kH:IsDk H p q D40 3 (0+1):=by rw [hH];exact k1.more _
 have lH:H.length=h1.length+2:=by rw [hH,hT];simp
 have hS:=B6L kH;have e16:(D40.length:Int)=16:=by rw [gC];rfl
 rw [e16] at hS;have hN:∀ g,A8G [.c (.p p 0)] g=some (.c (.p (g.length+1) 0),g++[some (S4 []),rT [.p p 0,.m g.length,.ns,o0]]):=λg=>by
  refine C4A (n:=0) ?_;have ef:D9 [Cell.np,.nm,.ns,o0] [(0,1,.c (.p p 0)),(1,1,.c (.m g.length))]=some [.p p 0,.m g.length,.ns,o0]:=rfl;rw [C3S];simp only [esc,ef]
 have s1:E1 (h1++[rT (A5 (zeros 256))]) 256 (.c (.p h1.length 0)) (.a (A5 (iR 16 8 0)))=some (h1++[rT (A5 (iR 16 8 0))]):=by
  rw [storeAll (cs:=A5 (zeros 256)) (by rw [E9];rfl) (by rw [A4,zeros_length]) (by rw [A4,T2]),cU];rfl
 have l1:C8 (h1++[rT (A5 (iR 16 8 0))]) 256 (.c (.p h1.length 0))=some (.a (A5 (iR 16 8 0))):=B8 (by rw [E9];rfl) (by rw [A4,T2]);have s2:E1 (h1++[rT (A5 (iR 16 8 0)),rT [o0,o0,.i .u64 0]]) 3 (.c (.p (h1.length+1) 0)) (.a (D3 16 8 0))=some H:=by
  rw [storeAll (n:=3) (cs:=[o0,o0,.i .u64 0]) (by rw [K0];rfl) rfl rfl,rD,hH,hT];rfl
 have l2:B4 H (.c (.p (h1.length+1) 0))=some (.c (.i .i64 16)):=B5 (cs:=D3 16 8 0) (rw:=true) (by rw [hH,hT,K0];rfl) rfl rfl;have l3:C8 H 3 (.c (.p (h1.length+1) 0))=some (.a (D3 16 8 0)):=B8 (by rw [hH,hT,K0];rfl) rfl;obtain ⟨H2,hH2⟩:∃ H2,H2=(H++[some (S4 []),some (S4 []),rT [.p p 0,.m (H.length+1),.ns,o0]])++[rT [.p (H.length+2) 0,.i .i64 16,.i .i64 8,.i .u64 0,o0,.m H.length]]:=⟨_,rfl⟩;refine ⟨.p (H.length+3) 0,H2,?_,by rw [hH2];exact (kH.more _).more _⟩
 ·refine B9k (n:=0) ?_;have hNH:=hN (H++[none]);have qs:(H++[none]).length+1=H.length+2:=by simp
  rw [qs] at hNH;have n1:¬ (0:Int)≠0:=by decide
  have ef:D9 [Cell.np,o0,o0,.i .u64 0,o0,.nm] [(0,1,.c (.p (H.length+2) 0)),(1,3,.a (D3 16 8 0)),(5,1,.c (.m H.length))]=some [.p (H.length+2) 0,.i .i64 16,.i .i64 8,.i .u64 0,o0,.m H.length]:=rfl;rw [B8o,I5];generalize A5 (iR 16 8 0)=S at *;generalize hZ:A5 (zeros 256)=Z at *;generalize D3 16 8 0=L at *;simp only [esc,Nat.reduceAdd,e1,s1,l1,hG,s2,l2,hS,eq_self];have hq:=D0l (h:=H++[none]) (t:=[some (S4 []),rT [.p p 0,.m (H++[none]).length,.ns,o0]]) (v:=.c (.p (H.length+2) 0)) (by simp [C6P,D6Z]);simp only [E43,E5a,E5u,E5l] at hq hNH;simp only [esc,Nat.reduceAdd] at hq hNH;simp only [esc,Nat.reduceAdd,hNH,hq,l3,ef,cU,rD,hH2]
theorem D4i {h:A6}:∃ p q v h',A5L [.a (D3 16 8 0)] h=some (.t [.c (.p p 0),.c v],h')/\IsDk h' p q D40 3 1/\h.length<=q/\h.length<=p:=by
 obtain ⟨G,hG⟩:∃ G,G=h++[rT (D3 16 8 0)]:=⟨_,rfl⟩;have lG:G.length=h.length+1:=by rw [hG];simp
 have hN:=D2Z (N:=16) (h:=G) (by omega) (by omega);obtain ⟨H,hH⟩:∃ H,H=G++[rT (D1 (E41 16 (zeros 256))),rT (dkC G.length 16 0 0)]:=⟨_,rfl⟩;rw [<-hH] at hN;have kH:IsDk H (G.length+1) G.length (E41 16 (zeros 256)) 0 0:=by
  refine ⟨by omega,?_,?_⟩
  ·rw [hH,K0];rfl
  ·rw [hH,E9];rfl
 obtain ⟨h1,e1,k1,b1⟩:=C3f kH;obtain ⟨v,h2,e2,k2⟩:=C7s k1;refine ⟨G.length+1,G.length,v,h2,?_,k2,by omega,by omega⟩;refine C2t (n:=0) ?_;have l0:B4 G (pV h.length 0)=some (iV 16):=B5 (cs:=D3 16 8 0) (rw:=true) (by rw [hG,E9];rfl) rfl rfl;have l3:C8 H 3 (pV h.length 0)=some (.a (D3 16 8 0)):=B8 (by rw [hH];refine B6 ?_;rw [hG,E9];rfl) rfl;have cl:cells? (.a (D3 16 8 0))=some (D3 16 8 0):=rfl;have c16:((16:Nat):Int)=16:=rfl;rw [c16] at hN;rw [C10];generalize D3 16 8 0=L at *;simp only [esc,cl,<-hG,l0,hN,l3,e1,eq_self,e2]
theorem D1p (h:A6):tJ [.a (D3 16 8 0)] h=some (sV h.length 0 16 256,h++[rT (D1 D40)]):=by
 have key:∀ g,∃ v g',tD 0 [.a (D3 16 8 0)] g=some (v,g')/\Out g.length g' v 256 16 (D1 D40):=λg=>by
  obtain ⟨G,hG⟩:∃ G,G=g++[rT (D3 16 8 0),rT []]:=⟨_,rfl⟩;have lG:G.length=g.length+2:=by rw [hG];simp
  obtain ⟨p,q,v,h',e1,k,_,_⟩:=D4i (h:=G);have hI:=C8x k okD40 (by rw [gC];omega);have l3:C8 G 3 (pV g.length 0)=some (.a (D3 16 8 0)):=B8 (by rw [hG,E9];rfl) rfl;have cl:cells? (.a (D3 16 8 0))=some (D3 16 8 0):=rfl;have hl:G.length<=h'.length:=(A66 _ _ _ _ e1).2.2;refine ⟨sV h'.length 0 16 256,h'++[rT (D1 D40)],?_,by rw [I3 okD40,gC],h'.length,rfl,by omega,S8⟩;have ll:D40.length=16:=gC;rw [ll] at hI;rw [B1D];generalize D3 16 8 0=L at *;simp only [esc,cl,<-hG,l3,e1,hI]
 obtain ⟨v,g',e,ho⟩:=key (ro h);exact A8P e (by rw [E7] at ho;exact ho) fZ
theorem C95 {v u:Val} {nv nu:Nat} {l r:List Int} {h:A6} (hv:Has h v 1 nv (encI l)) (hu:Has h u 1 nu (encI r)) (hlr:l.length=r.length) (hl:l.length<9223372036854775807) {k:Nat}:∀ d i m,i+d=l.length->d<m ->
  B6V k m v u (iV i) h=some (bV (decide (l.drop i=r.drop i)),h)
 | d,i,0,_,hm=>by omega
 | 0,i,m+1,hi,hm=>by
  have hnv:l.length=nv:=by simpa [A8] using hv.length
  have e1:l.drop i=[]:=E5c (by omega);have e2:r.drop i=[]:=E5c (by omega);have h1':¬ (i:Int)<l.length:=by omega
  rw [A7n];simp only [esc,hv.len,<-hnv,h1',e1,e2]
 | d+1,i,m+1,hi,hm=>by
  have ih:=C95 hv hu hlr hl (k:=k) d (i+1) m (by omega) (by omega);have hnv:l.length=nv:=by simpa [A8] using hv.length
  have hnu:r.length=nu:=by simpa [A8] using hu.length
  have hlen:=hv.len;obtain ⟨id,off,rfl,hid,h1,h2⟩:=hv.sl (by omega);obtain ⟨gG,off',rfl,E38,h1',h2'⟩:=hu.sl (by omega);have hx:=h1 i (.i .i64 l[i]) (by rw [F6,E40 (by omega)];rfl);have hy:=h1' i (.i .i64 r[i]) (by rw [F6,E40 (by omega)];rfl);have ea:D5 1 (sV id off nv 1) (iV (i:Int))=some (pV id (off+i)):=by rw [C4 (by omega)];simp
  have eb:D5 1 (sV gG off' nu 1) (iV (i:Int))=some (pV gG (off'+i)):=by rw [C4 (by omega)];simp
  have c1:(i:Int)<nv:=by omega
  rw [A7n,E46 (by omega:i<l.length),E46 (by omega:i<r.length)];by_cases c:l[i]=r[i]
  ·simp only [esc,c1,ea,eb,hx,hy,c,C6 (show i+1<9223372036854775808 by omega),List.cons.injEq,true_and];exact ih
  ·simp only [esc,c1,ea,eb,hx,hy,c,List.cons.injEq,false_and]
theorem C8T {v u:Val} {nv nu:Nat} {l r:List Int} {h:A6} (hv:Has h v 1 nv (encI l)) (hu:Has h u 1 nu (encI r)) (hl:l.length<9223372036854775807) :
  A8Y [v,u] h=some (bV (decide (l=r)),h):=by
 refine B8C (n:=l.length+1) (h2:=ro h) ?_ (by simp);have hnv:l.length=nv:=by simpa [A8] using hv.length
 have hnu:r.length=nu:=by simpa [A8] using hu.length
 rw [C33];by_cases c:l.length=r.length
 ·have:=C95 hv.ro hu.ro c hl (k:=l.length+1) l.length 0 (l.length+1) (by omega) (by omega);simp only [E5k] at this;have c':(nv:Int)=nu:=by omega
  simp only [esc,hv.len,hu.len,c'];exact this
 ·have c':¬ (nv:Int)=nu:=by omega
  have c2:¬ l=r:=λe=>c (by rw [e])
  simp only [esc,hv.len,hu.len,c',c2]
end Go.Proofs.YtbnkgnfhgbhblaaGreat
namespace Go.Proofs.YtbnkgnfhgbhblaaGreat
open Go Go.Esc
set_option maxRecDepth 100000
noncomputable section
variable (n m m2:Nat) (h:A6)
def yI:FD Tryz.prog:=⟨px 0X13c801364a2a811c968b364881c93b1964881c919b41c9364881c93b1964881c919b2c1c936006886488385648819840648838564881982c5911e01901301301101224671e2a81962619a1af28619a3b60672a2a861882bf56261881af2861883b60673a2a866a2bf61a256a1af51011116a3ff66a1f0286a4f60672a2a818963587f6581cb2c583601637c7e2a12f585132512318c5161a241ac6a6386e41f39454314278261de3e42d96131ac5e41d3944321426805c241de2e22d912a6801e1b69581816121ac419118321323c116111ac0061ad3112301102,[.c (.b false),.c (.b true)],[.eqA false (E41 256 (.i .u8)) (.t 43) (.t 46),.eqA false (E41 256 (.i .u8)) (.t 51) (.t 54)],[.tmp 0],[cal C77,cal B1J,cal B6p,cal B2i,cal mS,cal C4I,cal C2q]⟩
def A5n:=yI.R
def C11:=mR A5n yI (tT []) n [] h
def B5g:=yI.K Tryz.func11
def A5N:=yI.S
theorem C2v:SOk Tryz.prog 11 A5N:=B5g.sok
theorem B51:E5 A5n A5N:=B5g.flat
end
end Go.Proofs.YtbnkgnfhgbhblaaGreat
namespace Go.Proofs.YtbnkgnfhgbhblaaGreat
open Go Go.Esc
theorem E1I:A90 D40=true:=by decide +kernel
theorem E1K:D1g D40=8:=by decide +kernel
theorem E1J:D2Y D40=0:=by decide +kernel
theorem D54:(U1 D40 8).row=[1]:=by decide +kernel
theorem E3l:B4M D40 8 (U1 D40 8)=D40:=by decide +kernel
theorem B43 (h:A6):A5N [] h=some (bV true,h):=by
 have key:∀ g,∃ g',A5n 0 [] g=some (bV true,g'):=λg=>by
  have hm:R4 D40.length 8=true:=by rw [gC];decide
  have hF:=D1p g;obtain ⟨G,hG⟩:∃ G,G=g++[rT (D1 D40)]:=⟨_,rfl⟩;rw [<-hG] at hF;have hH:Has G (sV g.length 0 D40.length 256) 256 D40.length (D1 D40):=by rw [hG];exact Has.tr (by simp) (I3 okD40) (dJ _)
  obtain ⟨f,t,hO,hV⟩:=C7D hH okD40 E1I (by rw [gC];omega);obtain ⟨H,hHe⟩:∃ H,H=G++t:=⟨_,rfl⟩;rw [<-hHe,E1K,E1J] at hO;rw [<-hHe] at hV;have hH1:Has H (sV g.length 0 D40.length 256) 256 D40.length (D1 D40):=by rw [hHe];exact hH.more _
  have hS5:E1 (H++[rT [o0,o0,.i .u64 0,.nf]]) 4 (pV H.length 0) (.a (vwC D40.length 8 0 f))=some (H++[rT (vwC D40.length 8 0 f)]):=by rw [J1];rfl
  obtain ⟨K,hK⟩:∃ K,K=H++[rT (vwC D40.length 8 0 f)]:=⟨_,rfl⟩;rw [<-hK] at hS5;have l4:C8 K 4 (pV H.length 0)=some (.a (vwC D40.length 8 0 f)):=B8 (by rw [hK,E9];rfl) rfl;have rv:rd K H.length=rT (vwC D40.length 8 0 f):=by rw [hK,E9];rfl
  obtain ⟨cs,t2,hC,hI,_⟩:=C1g (h:=K) okD40 (by rw [hK];exact hV.more _) hm;obtain ⟨L,hL⟩:∃ L,L=K++t2:=⟨_,rfl⟩;rw [<-hL] at hC hI;have wL:cs.length=6:=by obtain ⟨_,_,_,_,_,rfl,_⟩:=hI.form;rfl
  obtain ⟨M,hM⟩:∃ M,M=L++[rT cs]:=⟨_,rfl⟩;have hS6:E1 (L++[rT [.ns,.ns,.ns,.ns,.ns,o0]]) 6 (pV L.length 0) (.a cs)=some M:=by
   rw [storeAll (n:=6) (cs:=[.ns,.ns,.ns,.ns,.ns,o0]) (by rw [E9];rfl) rfl wL,cU,hM];rfl
  have hIM:IsCl M cs (U1 D40 8):=by
   obtain ⟨xr,xi,xt,xb,xm,e,h1,h2,h3,h4,h5⟩:=hI.form;rw [hM];exact ⟨xr,xi,xt,xb,xm,e,h1.more _,h2.more _,h3.more _,h4.more _,h5.more _⟩
  have hVM:IsView M f D40:=by rw [hM,hL,hK];exact ((hV.more _).more _).more _
  have m4:C8 M 4 (pV H.length 0)=some (.a (vwC D40.length 8 0 f)):=B8 (by rw [hM,hL];exact B6 (B6 rv)) rfl;have m6:C8 M 6 (pV L.length 0)=some (.a cs):=B8 (by rw [hM,E9];rfl) wL;have hIm:=B2y (m:=0) okD40 hVM hm hIM;rw [E3l] at hIm;obtain ⟨N,hN⟩:∃ N,N=M++[rT (D1 D40)]:=⟨_,rfl⟩;rw [<-hN] at hIm;obtain ⟨xr,xi,xt,xb,xm,e,h1,_⟩:=hIM.form;rw [D54] at h1;have ef:D9 [o0] [(0,1,iV 1)]=some (encI [1]):=rfl;have n0:B4 N (pV L.length 0)=some (.c xr):=B5 (cs:=cs) (rw:=true) (by rw [hN,hM];refine B6 ?_;rw [E9];rfl) (by rw [e];rfl) rfl;have hQ:=C8T (h:=N++[rT (encI [1])]) (v:=.c xr) (nv:=1) (u:=sV N.length 0 1 1) (nu:=1) (l:=[1]) (r:=[1]) (by rw [hN];exact (h1.more _).more _) (Has.tr (by simp) rfl rfl) (by decide);obtain ⟨Q,hQe⟩:∃ Q,Q=N++[rT (encI [1])]:=⟨_,rfl⟩;rw [<-hQe] at hQ;have hIQ:IsCl Q cs (U1 D40 8):=by
   obtain ⟨xr,xi,xt,xb,xm,e,h1,h2,h3,h4,h5⟩:=hIM.form;rw [hQe,hN];exact ⟨xr,xi,xt,xb,xm,e,(h1.more _).more _,(h2.more _).more _,(h3.more _).more _,(h4.more _).more _,(h5.more _).more _⟩
  have q6:C8 Q 6 (pV L.length 0)=some (.a cs):=B8 (by rw [hQe,hN,hM];refine B6 (B6 ?_);rw [E9];rfl) wL;have k1:=B2z (a:=1) hIQ (by rw [D54];decide);have k2:=B2z (a:=2) hIQ (by rw [D54];decide);rw [D54] at k1 k2;have d1:decide ((1:Int)∈[(1:Int)])=true:=by decide
  have d2:decide ((2:Int)∈[(1:Int)])=false:=by decide
  rw [d1] at k1;rw [d2] at k2;have hHQ:Has Q (sV g.length 0 D40.length 256) 256 D40.length (D1 D40):=by rw [hQe,hN,hM,hL,hK];exact ((((hH1.more _).more _).more _).more _).more _
  have hIH:Has Q (sV M.length 0 D40.length 256) 256 D40.length (D1 D40):=by rw [hQe,hN];exact (Has.tr (h:=M++[rT (D1 D40)]) (by simp) (I3 okD40) (dJ _)).more _
  obtain ⟨_,_,e1,_,a1,b1⟩:=B60 (i:=1) hHQ okD40 (by rw [gC];omega);cases e1;obtain ⟨_,_,e2,_,a2,b2⟩:=B60 (i:=2) hHQ okD40 (by rw [gC];omega);cases e2;obtain ⟨_,_,e3,_,a3,b3⟩:=B60 (i:=1) hIH okD40 (by rw [gC];omega);cases e3;obtain ⟨_,_,e4,_,a4,b4⟩:=B60 (i:=2) hIH okD40 (by rw [gC];omega);cases e4;have q1:=E1a (l:=D40[1]'(by rw [gC];omega)) (m:=D40[1]'(by rw [gC];omega)) (n:=256) (okD40.at _) (okD40.at _);have q2:=E1a (l:=D40[2]'(by rw [gC];omega)) (m:=D40[2]'(by rw [gC];omega)) (n:=256) (okD40.at _) (okD40.at _);rw [decide_eq_true rfl] at q1 q2;rw [gC] at hO a1 a2 a3 a4 hIm hS5 l4 hC m4;have c1:((1:Nat):Int)=1:=rfl;have c2:((2:Nat):Int)=2:=rfl;have c16:((16:Nat):Int)=16:=rfl;rw [c1] at a1 a3;rw [c2] at a2 a4;rw [c16] at hO hIm hS5 l4 hC m4;have dd:decide ([(1:Int)]=[1])=true:=by decide
  rw [dd] at hQ;rw [C11];generalize A5 (D40[1]'(by rw [gC];omega))=X1 at *;generalize A5 (D40[2]'(by rw [gC];omega))=X2 at *;generalize vwC 16 8 0 f=V at *;exact ⟨Q,by simp only [esc,D8B,hF,hO,hS5,l4,hC,hS6,m4,m6,hIm,eq_self,c16,n0,ef,<-hQe,hQ,q6,k1,k2,a1,a2,a3,a4,b1,b2,b3,b4,q1,q2]⟩
 obtain ⟨g',e⟩:=key (ro h);exact B51 e rfl
end Go.Proofs.YtbnkgnfhgbhblaaGreat
namespace Go.Proofs.YtbnkgnfhgbhblaaGreat
open Go Go.Esc
set_option maxRecDepth 100000
noncomputable section
variable (n m m2:Nat) (a0 x7 x8 x9:Val) (h:A6)
def X9:FD Tryz.prog:=⟨px 0X14fc210019f1ad22123ec1915607c4c7c131801321121224675e2a8628e2bf62e21828e1af3628e1f61a128e19b4c28e34828e3128e68b61a48828e19b4c28e33c28e36061e37c61c848061c83c7e11e01919e19187431519187330702461e17c61c84804c78147b1918742191873319187306051011918732033bc038c7162a2e371ac361a261ac2c338002c3380061e251ac6141ac1c4381c45e391901918723012ec21361a2a8001af1af60363e2a816218f7f618f1cb61e2518f1af1861418f1af1c418f3b1c418f3b6006881627c2803801801921324671e2a81636e7f286e36062bc3839163e6543062530331c801bc231de2a52d912a6801e2f691b82c16131ac02d118654305219c0198241de2e32d912e6802a2a6918c1e16121ac6111ac01f11943032016c21001ac2212243e9657c61c801a131c0220133211012,[.c (.b false),.c (.b true)],[.eqB false (.t 31) (.t 33),.slA 256 1 (.t 70) none none],[.tmp 2],[cal C2v,cal D0U,cal B6p,cal B8Q,cal B2i,cal mS,cal D01,cal C2S,cal dV]⟩
def pS:=X9.R
def A00:AtH:=X9.lj 0 n [m] [x7,x8,x9]
def A14:=tT [⟨2,3,A00⟩]
def A8f:=mR pS X9 A14 n [a0] h
def sJ:=mL X9 A14 0 n [m] [x7,x8,x9] h
def A1M:=X9.K Tryz.func4
def qC:=X9.S
theorem A8Q:SOk Tryz.prog 4 qC:=A1M.sok
theorem A5M:E5 pS qC:=A1M.flat
end
end Go.Proofs.YtbnkgnfhgbhblaaGreat
namespace Go.Proofs.YtbnkgnfhgbhblaaGreat
open Go Go.Esc
section
theorem C23 {a b e f:Cell} {h:A6}:R3 [.a [a,b,e,f],.a [.ns,.ns,.ns,.ns,.ns,o0]] h=some (sV h.length 0 0 256,h++[rT []]):=by
 obtain ⟨g,hg⟩:∃ g,g=ro h:=⟨_,rfl⟩;obtain ⟨G,hG⟩:∃ G,G=g++[rT [a,b,e,f],rT [.ns,.ns,.ns,.ns,.ns,o0],rT []]:=⟨_,rfl⟩;have lG:G.length=g.length+3:=by rw [hG];simp
 refine jQ (n:=0) (h2:=G++[rT []]) (v:=sV G.length 0 0 256) ?_ ⟨rfl,G.length,rfl,by rw [lG,hg,E7];omega,by rw [E9];rfl⟩ rfl;have cl1:cells? (.a [a,b,e,f])=some [a,b,e,f]:=rfl;have cl2:cells? (.a [Cell.ns,.ns,.ns,.ns,.ns,o0])=some [Cell.ns,.ns,.ns,.ns,.ns,o0]:=rfl;have l0:B4 G (pV (g.length+1) 0)=some (.c .ns):=B5 (by rw [hG,K0];rfl) rfl rfl;rw [<-hg,mQ];generalize [Cell.ns,.ns,.ns,.ns,.ns,o0]=C at *;generalize [a,b,e,f]=V at *;simp only [esc,cl1,cl2,<-hG,l0,eq_self]
section
variable {D I:Dev} {X:A6} {q:Nat} {x7:Val}
theorem E1H {id:Nat} {ys:List Cell} (h7:Has X x7 256 I.length (D1 I)) (hI:okD I) (ry:rd X id=rT ys) (md:D39 (λ_=>True) X ys I) (hl:I.length<=512) :
  ∀ e i M:Nat,i+e=I.length->e<M->∃ g',A00 q M x7 (sV id 0 I.length 1) (iV (i:Int)) X=some (bV true,g'):=by
 intro e
 induction e with
 | zero =>
  intro i M hi hM;obtain ⟨M,rfl⟩:∃ M',M=M'+1:=⟨M-1,by omega⟩;have ei:i=I.length:=by omega
  subst ei;have cL:¬ ((I.length:Nat):Int)<(I.length:Nat):=by omega
  rw [sJ];exact ⟨_,by simp only [esc,cL,B43]<;>rfl⟩
 | succ e ih =>
  intro i M hi hM;obtain ⟨M,rfl⟩:∃ M',M=M'+1:=⟨M-1,by omega⟩;have P6:i<I.length:=by omega
  have c0:(i:Int)<(I.length:Nat):=by omega
  have w1:=C6 (show i+1<9223372036854775808 by omega);obtain ⟨ad,u,d1,d2,d3⟩:=D1q h7 hI P6;have a7:=h7.len;have a2:D5 1 (sV id 0 I.length 1) (iV (i:Int))=some (pV id i):=by rw [C4 P6];simp
  have hyl:=md.1;have hy:ys[i]?=some (ys[i]'(by omega)):=E40 _;obtain ⟨_,bb,y1,y2,y3⟩:=md.2.2 i _ hy;rw [E40 P6] at y1;cases y1;have b2:B4 X (pV id i)=some (.c (ys[i]'(by omega))):=B5 ry hy rfl;have hS:=iE d3 y3 (by rw [y2];omega);rw [decide_eq_true rfl] at hS;obtain ⟨g',f1⟩:=ih (i+1) M (by omega) (by omega);refine ⟨g',?_⟩;rw [sJ];simp only [esc,E5t,eq_self,c0,a7,d1,d2,a2,b2,hS,w1];exact f1
end
theorem C8v {v:Val} {D:Dev} {h:A6} (hv:Has h v 256 D.length (D1 D)) (hD:okD D):qC [v] h=some (bV true,h):=by
 have key:∀ g,Has g v 256 D.length (D1 D)->∃ g',pS 600 [v] g=some (bV true,g'):=by
  intro g hv;have hl:=hv.len;have n13:¬ (13:Int)=0:=by decide
  rw [A8f];by_cases c0:(60:Int)<(D.length:Nat)
  ·exact ⟨_,by simp only [esc,hl,c0,B43]<;>rfl⟩
  ·have hT:=E3D hv hD (by omega);have hH:Has (g++[rT (D1 D)]) (sV g.length 0 D.length 256) 256 D.length (D1 D):=Has.tr (by simp) (I3 hD) (dJ D);have z3:[o0,o0,.i .u64 0].length=3:=rfl;cases cd:A90 D with
   | false =>
    obtain ⟨t,hO⟩:=D33 hH hD cd;obtain ⟨H,hHe⟩:∃ H,H=g++[rT (D1 D)]++t:=⟨_,rfl⟩;have hvH:Has H v 256 D.length (D1 D):=by rw [hHe];exact (hv.more _).more _
    rw [<-hHe] at hO;have hS5:E1 (H++[rT [o0,o0,.i .u64 0,.nf]]) 4 (pV H.length 0) (.a (vwC 0 0 0 .nf))=some (H++[rT (vwC 0 0 0 .nf)]):=by rw [J1];rfl
    have hLy:=A7L (h:=H++[rT (vwC 0 0 0 .nf)]) (hvH.more _) hD;rw [cd,cond_false] at hLy;have hLl:(D3 0 0 0).length=3:=rfl;have hVl:(vwC 0 0 0 .nf).length=4:=rfl;have hm0:R4 0 0=false:=by decide
    have hCb:=λh=>D1f (b:=0) (n:=0) (m:=0) (f:=.nf) (h:=h) hm0
    have hIb:=λh=>C23 (a:=o0) (b:=o0) (e:=.i .u64 0) (f:=.nf) (h:=h)
    have eV:[o0,o0,.i .u64 0,.nf]=vwC 0 0 0 .nf:=rfl;rw [eV] at hIb;have y0:∀ t,C8 (H++rT (vwC 0 0 0 .nf)::t) 4 (pV H.length 0)=some (.a (vwC 0 0 0 .nf)):=λt=>by rw [N6];exact gB rfl
    have E3P:((0:Nat):Int)=0:=rfl;generalize vwC 0 0 0 .nf=V at *;generalize hL0:D3 0 0 0=L at *;exact ⟨_,by simp only [esc,esh,Nat.reduceAdd,Nat.reduceMul,Nat.reduceLT,eq_self,hl,c0,hT,hO,hS5,hLy,hLl,z3,n13,y0,hVl,hCb,hIb,E3P,beq_self_eq_true,B43]<;>rfl⟩
   | true =>
    obtain ⟨f,t,hO,hV⟩:=C7D hH hD cd (by omega);obtain ⟨H,hHe⟩:∃ H,H=g++[rT (D1 D)]++t:=⟨_,rfl⟩;have hvH:Has H v 256 D.length (D1 D):=by rw [hHe];exact (hv.more _).more _
    rw [<-hHe] at hO hV;have hm:=D74 cd;have hLy:=A7L (h:=H++[rT (vwC D.length (D1g D) (D2Y D) f)]) (hvH.more _) hD;rw [cd,cond_true] at hLy;generalize D1g D=n at *;generalize D2Y D=m at *;have hS5:E1 (H++[rT [o0,o0,.i .u64 0,.nf]]) 4 (pV H.length 0) (.a (vwC D.length n m f))=some (H++[rT (vwC D.length n m f)]):=by rw [J1];rfl
    obtain ⟨B,hB⟩:∃ B,B=H++[rT (vwC D.length n m f),rT (D3 D.length n m)]:=⟨_,rfl⟩;have hs3:E1 (H++[rT (vwC D.length n m f),rT [o0,o0,.i .u64 0]]) 3 (pV (H.length+1) 0) (.a (D3 D.length n m))=some B:=by
     rw [R6,hB];change mp (stN (rT [o0,o0,.i .u64 0]) 0 3 (D3 D.length n m)) _=_;rw [jJ (by rfl) (by rfl)];rfl
    have y4:C8 B 4 (pV H.length 0)=some (.a (vwC D.length n m f)):=B8 (by rw [hB,E9];rfl) rfl;have y3:C8 B 3 (pV (H.length+1) 0)=some (.a (D3 D.length n m)):=B8 (by rw [hB,K0];rfl) rfl;have hVB:IsView B f D:=by rw [hB];exact hV.more _
    obtain ⟨cs,tc,p1,p2,p3⟩:=C1g (n:=n) (m:=m) (f:=f) (h:=B) hD hVB hm;have q1:=D41 (h:=B) (v:=.a cs) p3;rw [<-p1] at q1;have q1':quiet B (tF [.a (vwC D.length n m f)] B)=some (.a cs,B++tc):=by rw [q1,p1]
    obtain ⟨E,hE⟩:∃ E,E=B++tc:=⟨_,rfl⟩;rw [<-hE] at p2 q1';have hI:=B2y (m:=m) hD (by rw [hE];exact hVB.more _) hm p2;have ok:=C9K hD hm;obtain ⟨I,eI⟩:∃ I,I=B4M D n (U1 D n):=⟨_,rfl⟩;have lI:I.length=D.length/\okD I:=by
     have hx:∀ x∈(U1 D n).ino,x.length=11:=λx hx=>(ok.ino x hx).1
     obtain ⟨_,_,_,n128,_⟩:=J5.1 hm;obtain ⟨ok1,l1⟩:=B0N (l:=(U1 D n).blocks) (m:=(U1 D n).made) hD ok.md;obtain ⟨ok2,l2⟩:=A44 (e:=(A1i D.length n).toNat) (no:=rQ D.length n) ok1;obtain ⟨ok3,l3⟩:=B0x (n:=n) n128 (l:=(U1 D n).ino) (i:=0) ok2 hx;rw [eI];unfold B4M;refine ⟨by rw [cQ,l3,l2,l1],ok3.put ?_⟩;unfold eQ;rw [cK,zeros_length]
    rw [<-eI] at hI;obtain ⟨J,hJ⟩:∃ J,J=E++[rT (D1 I)]:=⟨_,rfl⟩;rw [<-hJ] at hI;have GEJ:Grows E J:=by rw [hJ];exact (Grows.rfl').new _
    have q3:=U9 (v:=sV E.length 0 D.length 256) GEJ;rw [<-hI] at q3;have q3':quiet E (R3 [.a (vwC D.length n m f),.a cs] E)=some (sV E.length 0 D.length 256,J):=by rw [q3,hI]
    have GBJ:Grows B J:=(by rw [hE];exact Q4 Grows.rfl' p3:Grows B E).trans' GEJ;have hvJ:Has J v 256 D.length (D1 D):=by
     refine Has.grows ?_ GBJ;rw [hB];exact hvH.more _
    obtain ⟨cs',F,r1,r2,r3⟩:=E2z (n:=n) (m:=m) hvJ hD hm;have q2:=U9 (v:=.a cs') r2;rw [<-r1] at q2;have q2':quiet J (B1b [v,.a (D3 D.length n m)] J)=some (.a cs',F):=by rw [q2,r1]
    obtain ⟨_,_,_,hfl,_⟩:=zC hD hm;obtain ⟨id,ys,Y,s1,s2,s3,s4⟩:=E0C (n:=n) (m:=m) (hvJ.grows r2) hD hm r3.low (λid hid=>hid.2) ok hfl;rw [<-eI] at s4;have h7:Has Y (sV E.length 0 I.length 256) 256 I.length (D1 I):=by
     refine ((?_:Has J _ _ _ _).grows r2).grows s2;rw [hJ];exact Has.row (rw:=true) (by rw [E9];rfl) (I3 lI.2) (dJ _)
    obtain ⟨g',e1⟩:=E1H (q:=600) h7 lI.2 s3 s4 (by rw [lI.1];omega) I.length 0 600 (by omega) (by rw [lI.1];omega);have z0:((0:Nat):Int)=0:=rfl;rw [z0,lI.1] at e1;refine ⟨g',?_⟩;generalize hVV:vwC D.length n m f=V at *;generalize hLL:D3 D.length n m=Ly at *;simp only [esc,Nat.reduceAdd,hl,c0,hT,hO,hS5,hLy];simp only [esc,Nat.reduceAdd,eq_self,hs3,y4,q1',y3,q3',q2',s1];exact e1
 obtain ⟨g',e⟩:=key (ro h) hv.ro;exact A5M e rfl
end
end Go.Proofs.YtbnkgnfhgbhblaaGreat
namespace Go.Proofs.YtbnkgnfhgbhblaaGreat
open Go
section
def A6Q:List Char:=(([104,97,114,110,101,115,115,32,56,100,99,52,54,56,52,49,50,50,98,56,100,56,57,54,55,55,57,56,55,57,56,97,56,55,97,99,49,97,56,54,53,57,102,48,52,55,97,57,97,50,51,49,56,55,101,102,53,55,49,51,51,97,53,52,102,98,56,99,49,101,56,100,32,99,117,116,32,97,116,32,101,115,99,104,101,97,116,47,101,115,99,104,101,97,116,108,97,119,52,49,46,67,108,97,105,109,79,102,32,101,115,99,104,101,97,116,47,101,115,99,104,101,97,116,108,97,119,52,49,46,67,108,97,105,109,73,109,97,103,101,32,101,115,99,104,101,97,116,47,101,115,99,104,101,97,116,108,97,119,52,50,46,77,101,110,100,80,108,97,110,115,32,101,115,99,104,101,97,116,47,101,115,99,104,101,97,116,108,97,119,52,50,46,77,101,110,100,67,111,117,110,116,115,32,101,115,99,104,101,97,116,47,101,115,99,104,101,97,116,108,97,119,52,50,46,77,101,110,100,67,117,116,115,32,101,115,99,104,101,97,116,47,101,115,99,104,101,97,116,108,97,119,52,49,46,67,108,97,105,109,82,105,103,104,116,32,101,115,99,104,101,97,116,47,101,115,99,104,101,97,116,108,97,119,52,49,46,67,108,97,105,109,75,101,101,112,115,32,101,115,99,104,101,97,116,47,101,115,99,104,101,97,116,108,97,119,52,50,46,77,101,110,100,87,104,111,108,101]:List Nat).map Char.ofNat)
set_option maxRecDepth 100000
theorem E2t:ownKnob Tryz.prog.godebug=none:=by kernel_rfl
theorem E0k:laidOutB Tryz.prog=true:=by kernel_rfl
theorem start_eq:Tryz.prog.initOrder=String.ofList A6Q:=by kernel_rfl
theorem D5f:Tryz.prog.initOrder.toList=A6Q:=by rw [start_eq,String.toList_ofList]
def startRest:List (List Char):=(([[99,117,116],[97,116],[101,115,99,104,101,97,116,47,101,115,99,104,101,97,116,108,97,119,52,49,46,67,108,97,105,109,79,102],[101,115,99,104,101,97,116,47,101,115,99,104,101,97,116,108,97,119,52,49,46,67,108,97,105,109,73,109,97,103,101],[101,115,99,104,101,97,116,47,101,115,99,104,101,97,116,108,97,119,52,50,46,77,101,110,100,80,108,97,110,115],[101,115,99,104,101,97,116,47,101,115,99,104,101,97,116,108,97,119,52,50,46,77,101,110,100,67,111,117,110,116,115],[101,115,99,104,101,97,116,47,101,115,99,104,101,97,116,108,97,119,52,50,46,77,101,110,100,67,117,116,115],[101,115,99,104,101,97,116,47,101,115,99,104,101,97,116,108,97,119,52,49,46,67,108,97,105,109,82,105,103,104,116],[101,115,99,104,101,97,116,47,101,115,99,104,101,97,116,108,97,119,52,49,46,67,108,97,105,109,75,101,101,112,115],[101,115,99,104,101,97,116,47,101,115,99,104,101,97,116,108,97,119,52,50,46,77,101,110,100,87,104,111,108,101]]:List (List Nat)).map (λl=>l.map Char.ofNat))
theorem D9A:wordsSigns A6Q=(([104,97,114,110,101,115,115]:List Nat).map Char.ofNat)::(([56,100,99,52,54,56,52,49,50,50,98,56,100,56,57,54,55,55,57,56,55,57,56,97,56,55,97,99,49,97,56,54,53,57,102,48,52,55,97,57,97,50,51,49,56,55,101,102,53,55,49,51,51,97,53,52,102,98,56,99,49,101,56,100]:List Nat).map Char.ofNat)::startRest:=by kernel_rfl
theorem E2I:isSumSigns ((([56,100,99,52,54,56,52,49,50,50,98,56,100,56,57,54,55,55,57,56,55,57,56,97,56,55,97,99,49,97,56,54,53,57,102,48,52,55,97,57,97,50,51,49,56,55,101,102,53,55,49,51,51,97,53,52,102,98,56,99,49,101,56,100]:List Nat).map Char.ofNat))=true:=by decide +kernel
theorem D4z : ((([104, 97, 114, 110, 101, 115, 115] : List Nat).map Char.ofNat) == "harness".toList) = true := by decide +kernel
theorem D4j (h s : List Char) (r : List (List Char)) (h1 : (h == "harness".toList) = true) (h2 : isSumSigns s = true) : behindMainWord (h :: s :: r) = r := by
 unfold behindMainWord;simp only [h1,h2,Bool.true_or,E5d,if_true]
theorem D6n:behindMainWord (wordsSigns A6Q)=startRest:=by rw [D9A];exact D4j _ _ _ D4z E2I
theorem start_words:behindMainWord (wordsSigns Tryz.prog.initOrder.toList)=startRest:=by rw [D5f];exact D6n
def D7n:List (List Char):=startRest.drop 1
theorem D13 : startRest = "cut".toList :: D7n := by decide +kernel
theorem D8L {P : Program} {rest : List (List Char)} (h : behindMainWord (wordsSigns P.initOrder.toList) = "cut".toList :: rest) : P.make = some .cut := by
 have e1 : ("cut".toList == "gc".toList) = false := by decide +kernel
 have e2 : ("cut".toList == "spec".toList) = false := by decide +kernel
 have e3 : ("cut".toList == "cut".toList) = true := by decide +kernel
 unfold Program.make;rw [h];simp only [e1,e2,e3,Bool.or_self,Bool.true_or,Bool.false_eq_true,if_false,if_true]
theorem E0n:Tryz.prog.make=some .cut:=D8L (start_words.trans D13)
theorem C7u {w:List Char} {ws:List (List Char)}:∀ os:List String,(os.all λo=>!(w==o.toList))=true->stripLifts os (w::ws)=([],w::ws)
 | [],_=>rfl
 | o::os,h=>by
  simp only [E5J,E42,E5O] at h;unfold stripLifts;rw [h.1,if_neg (by simp)];exact C7u os h.2
theorem D0z (rest : List (List Char)) : stripLifts liftWords ("cut".toList :: rest) = ([], "cut".toList :: rest) := C7u _ (by decide +kernel)
theorem D8A:Tryz.prog.laysLater=false:=by kernel_rfl
theorem D43:Tryz.prog.bearsReflect=false:=by kernel_rfl
theorem D96:Tryz.prog.doorFits []=true:=by kernel_rfl
theorem D6x {P : Program} {rest : List (List Char)} (h : behindMainWord (wordsSigns P.initOrder.toList) = "cut".toList :: rest) (h1 : P.laysLater = false) (h2 : P.bearsReflect = false) (h3 : P.doorFits [] = true) : P.mayEnter = true := by
 unfold Program.mayEnter;rw [h];simp only [D0z,h1,h2,h3];simp
theorem D3o:Tryz.prog.mayEnter=true:=D6x (start_words.trans D13) D8A D43 D96
theorem D6P {P : Program} {rest : List (List Char)} (h : behindMainWord (wordsSigns P.initOrder.toList) = "cut".toList :: rest) : P.liftsFinal = false := by
 unfold Program.liftsFinal Program.headLifts;rw [h];simp only [D0z];simp
theorem D8H:Tryz.prog.liftsFinal=false:=D6P (start_words.trans D13)
end
end Go.Proofs.YtbnkgnfhgbhblaaGreat
