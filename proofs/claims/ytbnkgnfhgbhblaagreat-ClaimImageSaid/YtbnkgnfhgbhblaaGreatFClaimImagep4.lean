/- What the proof of this claim leans on, part 4. -/
import Derived.Test.YtbnkgnfhgbhblaaGreatFClaimImagep3
set_option linter.all false
open Bool renaming and_eq_true→E42,and_false→E5Y,false_and→E48,not_eq_true'→E5O,or_eq_true→E5V,true_and→E5d
open Int renaming cast_ofNat_Int→E5y,eq_ofNat_of_zero_le→E5I,toNat_natCast→E5j
open List renaming all_cons→E5J,all_eq_true→E5S,append_assoc→E45,append_nil→E5t,cons_append→E5x,drop_drop→E5W,drop_eq_getElem_cons→E46,drop_of_length_le→E5c,drop_zero→E5k,getD_eq_getElem?_getD→E47,getElem?_append_right→E5e,getElem?_cons_succ→E5N,getElem?_drop→E5R,getElem?_eq_getElem→E40,getElem?_eq_none→E5C,getElem?_take_of_lt→E5B,getElem_mem→E5F,length_append→E43,length_cons→E5a,length_nil→E5u,length_replicate→E5r,length_set→E5w,length_take→E5q,map_append→E5T,map_cons→E50,mem_cons_of_mem→E5m,mem_cons_self→E5n,mem_of_getElem?→E5s,mem_or_eq_of_mem_set→E5H,nil_append→E5g,range→E5v,range'→E5D,replicate→E41,replicate_succ→E5p,set_append_right→E5A,set_cons_succ→E5M,set_cons_zero→E5L,take_of_length_le→E5b,take_succ_eq_append_getElem→E5f,take_zero→E5X
open Nat renaming add_mul→E5Z,le_refl→E44,le_trans→E5E,min_eq_left→E5U,mod_eq_of_lt→E5P,sub_self→E5K,zero_add→E5l
open Option renaming bind_some→E49,getD_some→E5G,isSome_none→E5o,isSome_some→E5h
namespace Go.Proofs.YtbnkgnfhgbhblaaGreat
open Go Go.Esc
theorem D5L {v:Val} {nv q:Nat} {l:List Int} {x:Int} {h:A6} (hv:Has h v 1 nv (encI l)) (hn:l.length=nv) (h62:nv<9223372036854775808):∀ e i m:Nat,i+e=nv->e<m ->
  C6a q m v (iV x) (iV (i:Int)) h=some (bV (decide (x∈l.drop i)),h)
 | e,i,0,_,hm=>by omega
 | 0,i,m+1,hi,hm=>by
  have e0:i=nv:=by omega
  subst e0;have c0:¬ (i:Int)<i:=by omega
  rw [B2H,E5c (by omega)];simp only [esc,hv.len,c0,List.not_mem_nil]
 | e+1,i,m+1,hi,hm=>by
  have ih:=D5L (q:=q) (x:=x) hv hn h62 e (i+1) m (by omega) (by omega);have hlen:=hv.len;have c0:(i:Int)<nv:=by omega
  obtain ⟨id,off,ev,hid,k1,k2⟩:=hv.sl (by omega);have hx:=k1 i (.i .i64 l[i]) (by rw [F6,E40 (by omega)];rfl);have eb:D5 1 v (iV (i:Int))=some (pV id (off+i)):=by rw [ev,C4 (by omega)];simp
  rw [B2H,E46 (by omega:i<l.length)];by_cases c:l[i]=x
  ·have:decide (x∈l[i]::l.drop (i+1))=true:=decide_eq_true (by rw [c];exact E5n ..);rw [this];simp only [esc,hlen,c0,eb,hx,c]
  ·have:decide (x∈l[i]::l.drop (i+1))=decide (x∈l.drop (i+1)):=by
    refine decide_eq_decide.2 ?_;rw [List.mem_cons];exact ⟨λh=>by rcases h with h | h;exact absurd h.symm c;exact h,λh=>.inr h⟩
   rw [this];simp only [esc,hlen,c0,eb,hx,c,C6 (show i+1<9223372036854775808 by omega)];exact ih
theorem C1O {v:Val} {nv:Nat} {l:List Int} {x:Int} {h:A6} (hv:Has h v 1 nv (encI l)) (h62:nv<9223372036854775808):B8D [v,iV x] h=some (bV (decide (x∈l)),h):=by
 have hn:l.length=nv:=by simpa [A8] using hv.length
 have e:=D5L (q:=nv+1) (x:=x) hv.ro hn h62 nv 0 (nv+1) (by omega) (by omega);exact C4K (n:=nv+1) (h2:=ro h) (by rw [D0H];exact e) rfl
theorem C6M {t:List Int} {x:Int} (hx:x≠0):∀ k,x∈J6 t k↔∃ j,j<k/\toX t j=x
 | 0=>by simp [J6]
 | k+1=>by
  rw [A0b,List.mem_append,C6M hx k];constructor
  ·rintro (⟨j,h1,h2⟩ | h)
   ·exact ⟨j,by omega,h2⟩
   ·split at h
    ·simp at h;exact ⟨k,by omega,h.symm⟩
    ·cases h
  ·rintro ⟨j,h1,h2⟩;by_cases c:∃ j,j<k/\toX t j=x
   ·exact .inl c
   ·right
    have:j=k:=by
     by_cases e:j=k
     ·exact e
     ·exact absurd ⟨j,by omega,h2⟩ c
    subst this;have hb:vY t j=true:=by
     unfold vY;rw [E42];refine ⟨by rw [h2];simp [hx],?_⟩;rw [B4J];intro k hk he;exact c ⟨k,hk,he.trans h2⟩
    rw [if_pos hb,h2];simp
theorem E0f {t:List Int} {i:Nat} (h:toX t i≠0):decide (toX t i∈J6 t i) = !nA t i:=by
 cases c:nA t i with
 | true =>
  rw [Bool.not_true,decide_eq_false];rw [C6M h];rintro ⟨j,h1,h2⟩;exact B4J.1 c j h1 h2
 | false =>
  rw [Bool.not_false,decide_eq_true];rw [C6M h]
  false_or_by_contra
  rename_i hn;have:nA t i=true:=B4J.2 λk hk he=>hn ⟨k,hk,he⟩
  rw [c] at this;cases this
theorem A3R {d:Int} {t:List Int} {g:A6} {q:Nat} (ht:t.length=32):∀ (e i m:Nat) (h:A6) (id:Nat),i+e=B9 d->e<m->Low (g++[rT (encI (d::t))]).length (g++[rT (encI (d::t))]) h->(g++[rT (encI (d::t))]).length<=id->rd h id=rT (encI (J6 t i)) ->
  ∃ v h',xO q m (pV g.length 0) (sV id 0 (J6 t i).length 1) (iV (i:Int)) h=some (v,h')/\Out g.length h' v 1 (J6 t (B9 d)).length (encI (J6 t (B9 d)))
 | e,i,0,h,id,_,hm,_,_,_=>by omega
 | 0,i,m+1,h,id,hi,hm,hlow,hid,hr=>by
  have e0:i=B9 d:=by omega
  subst e0;have c0:¬ ((B9 d:Nat):Int)<(B9 d:Nat):=by omega
  have hB:=D6 (d:=d) ht;have s1:=B8 (h:=h) (id:=g.length) (cs:=encI (d::t)) (hlow.rd (by simp)) hB;have hD:=λh=>aP (d:=d) (t:=t) (h:=h)
  have hP:=λh=>aQ (d:=d) (h:=h)
  rw [E43] at hid;rw [A02];generalize encI (d::t)=y at *;exact ⟨_,_,by simp only [esc,s1,hD,hP,c0]<;>rfl,by rw [A8];omega,_,rfl,by omega,hr⟩
 | e+1,i,m+1,h,id,hi,hm,hlow,hid,hr=>by
  have c0:(i:Int)<(B9 d:Nat):=by omega
  have C6r:=N8 d;have hB:=D6 (d:=d) ht;have hrd:rd h g.length=rT (encI (d::t)):=hlow.rd (by simp);have s1:=B8 (h:=h) (id:=g.length) (cs:=encI (d::t)) hrd hB;have hD:=λh=>aP (d:=d) (t:=t) (h:=h)
  have hP:=λh=>aQ (d:=d) (h:=h)
  have a1:=adX (id:=g.length) (i:=i) (by omega);have l1:=ldX (h:=h) (id:=g.length) hrd ht (i:=i) (by omega);have w1:=C6 (show i+1<9223372036854775808 by omega);have hul:=fI t i;have hIn:=C1O (x:=toX t i) (Has.row (sz:=1) (n:=(J6 t i).length) hr (by rw [A8];omega) (bF _)) (by omega);rw [A02];have skip:vY t i=false->∃ v h',xO q m (pV g.length 0) (sV id 0 (J6 t i).length 1) (iV ((i+1:Nat):Int)) h=some (v,h')/\Out g.length h' v 1 (J6 t (B9 d)).length (encI (J6 t (B9 d))):=by
   intro c;have hu:J6 t (i+1)=J6 t i:=by rw [A0b,c];simp
   have:=A3R (d:=d) (q:=q) ht e (i+1) m h id (by omega) (by omega) hlow hid (by rw [hu];exact hr);rw [hu] at this;exact this
  by_cases cz:toX t i=0
  ·obtain ⟨v,h',f1,f2⟩:=skip (by unfold vY;rw [decide_eq_true cz];rfl);rw [cz] at l1;refine ⟨v,h',?_,f2⟩;generalize encI (d::t)=z at *;simp only [esc,s1,hD,hP,c0,a1,l1,oA,w1];exact f1
  ·rw [E0f cz] at hIn;cases cs:nA t i with
   | false =>
    obtain ⟨v,h',f1,f2⟩:=skip (by unfold vY;rw [cs,E5Y]);rw [cs] at hIn;refine ⟨v,h',?_,f2⟩;generalize encI (d::t)=z at *;simp only [esc,s1,hD,hP,c0,a1,l1,cz,hIn,oA,w1];exact f1
   | true =>
    rw [cs] at hIn;have cb:vY t i=true:=by unfold vY;rw [cs,decide_eq_false cz];rfl
    have hu:J6 t (i+1)=J6 t i++[toX t i]:=by rw [A0b,if_pos cb]
    obtain ⟨h1,b1,b2,b3,b4,b5⟩:=push (ys:=[.i .i64 (toX t i)]) (sz:=1) (n:=(J6 t i).length) hlow hr (by rw [A8];omega) hid rfl (by omega) (by omega);have he:encI (J6 t i)++[.i .i64 (toX t i)]=encI (J6 t (i+1)):=by rw [hu];simp [encI]
    rw [he] at b2;obtain ⟨v,h',f1,f2⟩:=A3R (d:=d) (q:=q) ht e (i+1) m h1 (h.length+1) (by omega) (by omega) b3 b4 b2;have hl1:(J6 t (i+1)).length=(J6 t i).length+1:=by rw [hu];simp
    rw [hl1] at f1;have ef:D9 [o0] [(0,1,iV (toX t i))]=some [.i .i64 (toX t i)]:=rfl;refine ⟨v,h',?_,f2⟩;generalize encI (d::t)=z at *;simp only [esc,s1,hD,hP,c0,a1,l1,cz,hIn,ef,b1,oA,w1];exact f1
theorem A42 {d:Int} {t:List Int} {h:A6} (ht:t.length=32):A0D [.a (encI (d::t))] h=some (sV h.length 0 (J6 t (B9 d)).length 1,h++[rT (encI (J6 t (B9 d)))]):=by
 have key:∀ N,32<N->∀ g,∃ v g',A0r N [.a (encI (d::t))] g=some (v,g')/\Out g.length g' v 1 (J6 t (B9 d)).length (encI (J6 t (B9 d))):=by
  intro N hN g;have hm:=N8 d;obtain ⟨v,g',f1,f2⟩:=A3R (g:=g) (d:=d) (q:=N) ht (B9 d) 0 N (g++[rT (encI (d::t)),rT [],rT []]) (g.length+2) (by omega) (by omega)
   (by have:=(Low.refl (h:=g++[rT (encI (d::t))]) (E44 _)).new [rT [],rT []];simpa using this) (by simp) (by simp [J6,encI])
  rw [show J6 t 0=[] from rfl] at f1;rw [B5G];refine ⟨v,g',?_,f2⟩;generalize encI (d::t)=z at *;simp only [esc] at f1 ⊢;exact f1
 obtain ⟨v,g',e,ho⟩:=key (h.length+33) (by omega) (ro h);exact B3X e (by simpa [E7] using ho) (by simp)
theorem D0r {x k q:Nat} {b:Int} {h:A6} (hx:x<4294967296) (hk:(k:Int)=max 0 (min b 32)):∀ e i m:Nat,i+e=k->e<m ->
  C1r q m (.c (.i .u64 (x:Int))) (iV b) (.c (.i .u64 ((2 ^ i:Nat):Int))) (iV (i:Int)) h=some (iV ((x%2 ^ k:Nat):Int),h)
 | e,i,0,_,hm=>by omega
 | 0,i,m+1,hi,hm=>by
  have e0:i=k:=by omega
  subst e0;have hp0:0<2 ^ i:=Nat.pow_pos (by omega);have hm2:x%2 ^ i<=x:=Nat.mod_le _ _;rw [A95];generalize 2 ^ i=s at *;have e1:N5 .rem (.c (.i .u64 (x:Int))) (.c (.i .u64 (s:Int)))=some (.c (.i .u64 ((x%s:Nat):Int))):=by rw [A7M (a:=(x:Int)) (b:=(s:Int)) (by omega) (by omega)];simp
  have w1:IntKind.wrap .i64 ((x%s:Nat):Int)=((x%s:Nat):Int):=wrap_i64 (by omega) (by omega);generalize x%s=y at *;by_cases c1:(i:Int)<b
  ·have c2:¬ (i:Int)<32:=by omega
   simp only [esc,c1,c2,e1,w1]
  ·simp only [esc,c1,e1,w1]
 | e+1,i,m+1,hi,hm=>by
  have ih:=D0r (q:=q) (h:=h) hx hk e (i+1) m (by omega) (by omega);have c1:(i:Int)<b:=by omega
  have c2:(i:Int)<32:=by omega
  have hp:2 ^ i<=2 ^ 32:=Nat.pow_le_pow_right (by omega) (by omega);have w1:IntKind.wrap .u64 (((2 ^ i:Nat):Int)*2)=((2 ^ (i+1):Nat):Int):=by
   rw [Nat.pow_succ];generalize 2 ^ i=y at hp ⊢;rw [wrap_u64 (by omega) (by omega)];omega
  rw [A95];generalize ((2 ^ (i+1):Nat):Int)=y1 at *;generalize ((2 ^ i:Nat):Int)=y at *;simp only [esc,c1,c2,w1,C6 (show i+1<9223372036854775808 by omega)];exact ih
theorem D1S {x:Nat} {b:Int} {h:A6} (hx:x<4294967296):B3M [.c (.i .u64 (x:Int)),iV b] h=some (iV (C8M x b:Nat),h):=by
 have e:=D0r (q:=33) (b:=b) (h:=ro h) (k:=(max 0 (min b 32)).toNat) hx (by omega) (max 0 (min b 32)).toNat 0 33 (by omega) (by omega);have e2:x%2 ^ (max 0 (min b 32)).toNat=C8M x b:=by
  unfold C8M;by_cases c1:b<1
  ·have:(max 0 (min b 32)).toNat=0:=by omega
   rw [if_pos c1,this];simp [Nat.mod_one]
  ·rw [if_neg c1];by_cases c2:32<=b
   ·have:(max 0 (min b 32)).toNat=32:=by omega
    rw [if_pos c2,this];exact E5P (by omega)
   ·have:(max 0 (min b 32)).toNat=b.toNat:=by omega
    rw [if_neg c2,this]
 rw [e2] at e;exact C2x (n:=33) (h2:=ro h) (by rw [C7L];exact e) rfl
def A3w (s:Int):Int:=if s<1 then 0 else if 34304<s then 134 else (s+255)/256
end Go.Proofs.YtbnkgnfhgbhblaaGreat
namespace Go.Proofs.YtbnkgnfhgbhblaaGreat
open Go Go.Esc
set_option maxRecDepth 100000
noncomputable section
variable (n m m2:Nat) (a0 x0 x3 x4:Val) (h:A6)
def zT:FD Tryz.prog:=⟨px 0X1198217e2a1221258415607c2e19131818c3163a4883cc6488011c14883fc64883861a4881984e0004a1b1181815430330702461e17c61c80060418430424303343030605101430323134883b81302248823b91012,[],[],[.tmp 2],[]⟩
def B70:=zT.R
def C56:AtH:=zT.lj 0 n [m] [x0,x3,x4]
def C9r:=tT [⟨2,3,C56⟩]
def D0E:=mR B70 zT C9r n [a0] h
def B2B:=mL zT C9r 0 n [m] [x0,x3,x4] h
def C83:=zT.K Tryz.func13
def B8u:=zT.S
theorem D0U:SOk Tryz.prog 13 B8u:=C83.sok
theorem C76:pE B70 B8u:=C83.out
end
end Go.Proofs.YtbnkgnfhgbhblaaGreat
namespace Go.Proofs.YtbnkgnfhgbhblaaGreat
open Go Go.Esc
theorem B60 {h:A6} {v:Val} {D:Dev} (hv:Has h v 256 D.length (D1 D)) (hD:okD D) {i:Nat} (hi:i<D.length) :
  ∃ id off,v=sV id off D.length 256/\id<h.length/\D5 256 v (iV (i:Int))=some (pV id (off+i*256))/\C8 h 256 (pV id (off+i*256))=some (.a (A5 D[i])):=by
 obtain ⟨id,off,rfl,hid,_,h2⟩:=hv.sl (by omega);refine ⟨id,off,rfl,hid,C4 hi,?_⟩;rw [h2 (i*256) 256 (by rw [I3 hD];omega),bW hD hi]
theorem C9x {b:List UInt8} (hb:b.length=256):D9 (E41 256 (Cell.i .u8 0)) [(0,256,.a (A5 b))]=some (A5 b):=by
 have hl:(A5 b).length=256:=by rw [A4,hb]
 have hz:(E41 256 (Cell.i .u8 0)).length=256:=E5r;generalize E41 256 (Cell.i .u8 0)=z at *;generalize A5 b=y at *;simp only [D9,C5M,E49];rw [if_pos ⟨hl,by omega⟩];simp only [lay_all (by omega:y.length=z.length)]
theorem D6g {g:A6} {D:Dev} {v:Val} {q:Nat} (hv:Has g v 256 D.length (D1 D)) (hD:okD D) (h60:D.length<=1073741823):∀ (e i m id:Nat) (h:A6),i+e=D.length->e<m->Low g.length g h->g.length<=id->rd h id=rT (D1 (D.take i)) ->
  ∃ v' h',C56 q m v (sV id 0 i 256) (iV (i:Int)) h=some (v',h')/\Out g.length h' v' 256 D.length (D1 D)
 | e,i,0,id,h,_,hm,_,_,_=>by omega
 | 0,i,m+1,id,h,hi,hm,hlow,hid,hr=>by
  have e0:i=D.length:=by omega
  have c0:¬ (i:Int)<(D.length:Nat):=by omega
  have hl:=(hv.since hlow).len;rw [e0,List.take_length] at hr;rw [B2B];exact ⟨_,_,by simp only [esc,hl,c0]<;>rfl,I3 hD,id,by rw [e0],hid,hr⟩
 | e+1,i,m+1,id,h,hi,hm,hlow,hid,hr=>by
  have P6:i<D.length:=by omega
  have c0:(i:Int)<(D.length:Nat):=by omega
  have hvh:=hv.since hlow;have hl:=hvh.len;obtain ⟨jd,off,e1,hj,a1,l1⟩:=B60 hvh hD P6;have ef:=C9x (hD.at P6);have htl:(D.take i).length=i:=by rw [E5q];omega
  obtain ⟨h',p1,p2,p3,p4,p5⟩:=push (ys:=A5 D[i]) hlow hr (by rw [I3 (hD.take i),htl]) hid (by rw [A4,hD.at P6]) (by omega) (by omega);have et:D1 (D.take i)++A5 D[i]=D1 (D.take (i+1)):=by
   rw [E5f P6,C8s,D4m]
  rw [et] at p2;obtain ⟨v',h'',f1,f2⟩:=D6g (q:=q) hv hD h60 e (i+1) m (h.length+1) h' (by omega) (by omega) p3 p4 p2;refine ⟨v',h'',?_,f2⟩;rw [B2B];generalize A5 D[i]=y at *;simp only [esc,hl,c0,a1,l1,ef,p1,C6 (show i+1<9223372036854775808 by omega)];exact f1
theorem E3D {v:Val} {D:Dev} {h:A6} (hv:Has h v 256 D.length (D1 D)) (hD:okD D) (h60:D.length<=1073741823):B8u [v] h=some (sV h.length 0 D.length 256,h++[rT (D1 D)]):=by
 have key:∀ g,Has g v 256 D.length (D1 D)->∃ v' g',B70 (D.length+1) [v] g=some (v',g')/\Out g.length g' v' 256 D.length (D1 D):=by
  intro g hv;obtain ⟨v',h',f1,f2⟩:=D6g (q:=D.length+1) hv hD h60 D.length 0 (D.length+1) (g.length+1) (g++[rT [],rT []]) (by omega) (by omega) ((Low.refl (E44 _)).new _) (by omega) (by simp [D1]);rw [D0E];exact ⟨v',h',by simp only [esc];exact f1,f2⟩
 obtain ⟨v',g',e,ho⟩:=key (ro h) hv.ro;exact C76 e (by simpa [E7] using ho) fZ
theorem C65 {x:Cell} {a n:Nat} {cs:List Cell} {h:A6} (hv:Has h (.c x) 1 n cs) (hn:1<=n) (han:a+n<=256) :
  A3n [.a [.i .i64 a,x]] h=some (iV 0,h):=by
 have key:∀ g,Has g (.c x) 1 n cs->∃ g',A2V 0 [.a [.i .i64 a,x]] g=some (iV 0,g'):=by
  intro g hv;have c1:¬ (n:Int)<1:=by omega
  have c2:¬ (256:Int)<n:=by omega
  have c3:¬ (a:Int)<0:=by omega
  have e1:IntKind.wrap .i64 (256-(n:Int))=256-n:=wrap_i64 (by omega) (by omega);have c4:¬ (256:Int)-n<a:=by omega
  rw [B8n];exact ⟨_,by simp only [esc,esh,Nat.reduceAdd,Nat.reduceMul,Nat.reduceLT,hv.len,c1,c2,c3,e1,c4]<;>rfl⟩
 obtain ⟨g',e⟩:=key (ro h) hv.ro;exact B4j e rfl
theorem B0L {x:Cell} {n:Nat} {data l:List UInt8} {z:List Cell} {g:A6} (hv:Has g (.c x) 1 n (A5 data)) {a q:Nat} (han:a+n<=256) (hl:l.length=256) (hz:z.length=256) (hn:data.length=n):∀ d i m,i+d=n->d<m ->
  B7A q m (pV g.length 0) (pV (g.length+1) 0) (pV (g.length+2) 0) (.c x) (iV n) (iV i) (g++[rT (A5 (I6 l a (data.take i))),rT [.i .i64 a,x],rT z]) =
   some (.a (A5 (I6 l a data)),g++[rT (A5 (I6 l a data)),rT [.i .i64 a,x],rT (A5 (I6 l a data))])
 | d,i,0,_,hm=>by omega
 | 0,i,m+1,hi,hm=>by
  have e0:i=n:=by omega
  subst e0;have c0:¬ (i:Int)<i:=by omega
  have hE:(A5 (I6 l a data)).length=256:=by rw [A4,O1 (by omega),hl]
  rw [A7I,E5b (by omega)];simp only [esc,esh,Nat.reduceAdd,Nat.reduceMul,Nat.reduceLT,c0,hE,hz]
 | d+1,i,m+1,hi,hm=>by
  have ih:=B0L hv (z:=z) (q:=q) han hl hz hn d (i+1) m (by omega) (by omega);obtain ⟨id,off,e,hid,h1,h2⟩:=(hv.more [rT (A5 (I6 l a (data.take i))),rT [.i .i64 a,x],rT z]).sl (by omega);cases e;have c0:(i:Int)<n:=by omega
  have hx:=h1 i (.i .u8 data[i].toNat) (by rw [bB,E40 (by omega)];rfl);have eb:D5 1 (sV id off n 1) (iV (i:Int))=some (pV id (off+i)):=by rw [C4 (by omega)];simp
  have ea:J3 256 1 (pV g.length 0) (iV ((a+i:Nat):Int))=some (pV g.length (a+i)):=by rw [J4 (by omega)];simp
  have hE:(A5 (I6 l a (data.take i))).length=256:=by rw [A4,O1 (by simp;omega),hl]
  have ho:a+i<256:=by omega
  have e5:(I6 l a (data.take i)).set (a+i) data[i]=I6 l a (data.take (i+1)):=by
   have:=B1m (l:=l) (xs:=data.take i) (a:=a) (x:=data[i]) (by simp;omega);rw [E5q,E5U (by omega)] at this;rw [this,E5f (by omega)]
  have es:(A5 (I6 l a (data.take i))).set (a+i) (.i .u8 data[i].toNat)=A5 (I6 l a (data.take (i+1))):=by rw [gJ,e5]
  rw [A7I];simp only [esc,esh,Nat.reduceAdd,Nat.reduceMul,Nat.reduceLT,c0,eb,hx,A1k (show a+i<9223372036854775808 by omega),ea,hE,ho,es,C6 (show i+1<9223372036854775808 by omega)];exact ih
theorem B7z {x:Cell} {n a:Nat} {data l:List UInt8} {h:A6} (hv:Has h (.c x) 1 n (A5 data)) (hn:1<=n) (han:a+n<=256) (hl:l.length=256) :
  A9p [.a (A5 l),.a [.i .i64 a,x]] h=some (.a (A5 (I6 l a data)),h):=by
 have hd:data.length=n:=by simpa [A4] using hv.length
 have key:∀ N,n<N->∀ g,Has g (.c x) 1 n (A5 data)->∃ g',A8w N [.a (A5 l),.a [.i .i64 a,x]] g=some (.a (A5 (I6 l a data)),g'):=by
  intro N hN g hv;have hz:(E41 256 (Cell.i .u8 0)).length=256:=E5r;have hE:(A5 l).length=256:=by rw [A4,hl]
  rw [C4u];generalize E41 256 (Cell.i .u8 0)=z at *;have e:=B0L hv (l:=l) (z:=z) (q:=N) han hl hz hd n 0 N (by omega) (by omega);simp only [E5X,B7h] at e;have hc:=C65 (hv.more [rT (A5 l),rT [.i .i64 a,x],rT z]) hn han;exact ⟨_,by simp only [esc,esh,Nat.reduceAdd,Nat.reduceMul,Nat.reduceLT,hE,hz,hc,hv.len];exact e⟩
 obtain ⟨g',e⟩:=key (n+1) (by omega) (ro h) hv.ro;exact B9j e (by simp)
theorem D6k {a:Int} {x:Cell}:D9 [o0,.ns] [(0,1,iV a),(1,1,.c x)]=some [.i .i64 a,x]:=rfl
theorem D4f:D9 ([]:List Cell) []=some []:=rfl
theorem C7x {j:Nat} {k l s p:Int} {d:List Int} {h:A6} (hd:d.length=7) (h8:j<8) (c:A1p k l s p d=true) :
  A3s [iV j,.a (E6 k l s p d)] h=some (.t [.a [.i .i64 ((32*j:Nat):Int),.sl h.length 0 32 1],.c o0],h++[rT (A5 (gA k l s p d))]):=by
 have key:∀ g,∃ g',A2Y 0 [iV j,.a (E6 k l s p d)] g=some (.t [.a [.i .i64 ((32*j:Nat):Int),.sl (g.length+4) 0 32 1],.c o0],g')/\rd g' (g.length+4)=rT (A5 (gA k l s p d)):=by
  intro g;have c1:¬ (j:Int)<0:=by omega
  have c2:¬ (8:Int)<=j:=by omega
  have hP:=λh=>B7c (k:=k) (l:=l) (s:=s) (p:=p) (h:=h) hd
  simp only [c,cond_true] at hP;have hE:(encI d).length=7:=by rw [A8,hd]
  have hz:(E41 32 (Cell.i .u8 0)).length=32:=E5r;have hB:(A5 (gA k l s p d)).length=32:=by rw [A4,kQ hd]
  have w1:IntKind.wrap .i64 ((j:Int)*32)=((32*j:Nat):Int):=by rw [wrap_i64 (by omega) (by omega)];omega
  have p1:=jX (h:=g++[rT (E6 k l s p d),rT [o0,.ns],rT (A5 (gA k l s p d)),rT []]) (id:=g.length+3) (jd:=g.length+2) (n:=0) (m:=32) (sz:=1) (cs:=[]) (ys:=A5 (gA k l s p d)) (rw:=true) (by simp) (by simp) (by simp) (by rw [hB]) rfl (by omega) (by omega);generalize A5 (gA k l s p d)=B at *;simp only [esc] at p1;rw [B8q];generalize E41 32 (Cell.i .u8 0)=z at *;exact ⟨_,by simp only [esc,esh,Nat.reduceAdd,Nat.reduceMul,Nat.reduceLT,c1,c2,hE,hP,hz,hB,w1,D4f,p1,D6k,E5y]<;>rfl,by simp⟩
 obtain ⟨g',e,hr⟩:=key (ro h);have hr':=hr;rw [E7] at hr';have hc1:Q6 g' h.length [] [.i .i64 ((32*j:Nat):Int),.sl ((ro h).length+4) 0 32 1]=some ([.i .i64 ((32*j:Nat):Int),.sl h.length 0 32 1],[h.length+4]):=by
  rw [E7];simp [Q6,Cell.low,Cell.flat,A0i hr' (by simp:N7 (A5 (gA k l s p d))=true)]
 have hc2:Q6 g' h.length [h.length+4] [o0]=some ([o0],[h.length+4]):=cJ (by simp);have:=B4l e (v2:=.t [.a [.i .i64 ((32*j:Nat):Int),.sl h.length 0 32 1],.c o0]) (ids:=[h.length+4]) (by
  simp only [W8,fT,hc1,hc2,E49,Option.map_some])
 rw [this];simp [hr']
theorem B3d {j:Nat} {k l s p:Int} {d:List Int} {b:List UInt8} {h:A6} (hb:b.length=256) (hd:d.length=7) (h8:j<8) (c:A1p k l s p d=true) :
  yX [.a (A5 b),iV j,.a (E6 k l s p d)] h=some (.t [.a (A5 (I6 b (32*j) (gA k l s p d))),.c o0],h):=by
 have key:∀ g,∃ g',A5z 0 [.a (A5 b),iV j,.a (E6 k l s p d)] g=some (.t [.a (A5 (I6 b (32*j) (gA k l s p d))),.c o0],g'):=by
  intro g;have hB:(A5 b).length=256:=by rw [A4,hb]
  have hE:(encI d).length=7:=by rw [A8,hd]
  have hI:(A5 (gA k l s p d)).length=32:=by rw [A4,kQ hd]
  have hz:(E41 256 (Cell.i .u8 0)).length=256:=E5r;have hP:=λh=>C7x (h:=h) hd h8 c
  rw [C2m];generalize E41 256 (Cell.i .u8 0)=z at *;have hL:=B7z (h:=g++[rT (A5 b),rT (E6 k l s p d),rT z,rT (A5 (gA k l s p d)),rT [.i .i64 ((32*j:Nat):Int),.sl (g.length+3) 0 32 1]]) (x:=.sl (g.length+3) 0 32 1) (n:=32) (a:=32*j) (data:=gA k l s p d) (l:=b) (Has.tr (by simp) (by rw [hI]) (F0 _)) (by omega) (by omega) hb;have hR:(A5 (I6 b (32*j) (gA k l s p d))).length=256:=by rw [A4,O1 (by rw [kQ hd];omega),hb]
  exact ⟨_,by simp only [esc,esh,Nat.reduceAdd,Nat.reduceMul,Nat.reduceLT,hB,hE,hz,hP,hL,hR]<;>rfl⟩
 obtain ⟨g',e⟩:=key (ro h);exact B6o e (by simp)
def dK (b:List UInt8) (j:Nat):List UInt8:=(b.drop (32*j)).take 32
theorem pB {b:List UInt8} {j:Nat} (hb:b.length=256) (hj:j<8):(dK b j).length=32:=by unfold dK;simp;omega
theorem D3H {g:A6} {b:List UInt8} {z:List Cell} {j q:Nat} (hb:b.length=256) (hz:z.length=32) (hj:j<8):∀ e i m:Nat,i+e=32->e<m ->
  B7P q m (iV j) (pV g.length 0) (pV (g.length+1) 0) (pV (g.length+2) 0) (iV i) (g++[rT (A5 b),rT z,rT (A5 ((dK b j).take i++zeros (32-i)))]) =
   some (.a (A5 (dK b j)),g++[rT (A5 b),rT (A5 (dK b j)),rT (A5 (dK b j))])
 | e,i,0,_,hm=>by omega
 | 0,i,m+1,hi,hm=>by
  have e0:i=32:=by omega
  subst e0;have h1':¬ ((32:Nat):Int)<32:=by omega
  have hR:=pB hb hj;have hl:(A5 (dK b j)).length=32:=by rw [A4,hR]
  have e1:A5 ((dK b j).take 32++zeros (32-32))=A5 (dK b j):=by rw [E5b (by omega)];simp [zeros]
  rw [A7N,e1];simp only [esc,esh,Nat.reduceAdd,Nat.reduceMul,Nat.reduceLT,h1',hl,hz]
 | e+1,i,m+1,hi,hm=>by
  have ih:=D3H (g:=g) (q:=q) hb hz hj e (i+1) m (by omega) (by omega);have hR:=pB hb hj;have h1':(i:Int)<32:=by omega
  have w1:IntKind.wrap .i64 ((j:Int)*32)=((32*j:Nat):Int):=by rw [wrap_i64 (by omega) (by omega)];omega
  have a1:J3 256 1 (pV g.length 0) (iV ((32*j+i:Nat):Int))=some (pV g.length (32*j+i)):=by rw [J4 (by omega)];simp
  have a2:J3 32 1 (pV (g.length+2) 0) (iV (i:Int))=some (pV (g.length+2) i):=by rw [J4 (by omega)];simp
  have l1:(A5 b)[32*j+i]?=some (.i .u8 (dK b j)[i].toNat):=by
   rw [bB,E40 (by omega)];have:(dK b j)[i]=b[32*j+i]'(by omega):=by simp [dK]
   rw [this];rfl
  have ho:i<(A5 ((dK b j).take i++zeros (32-i))).length:=by rw [A4,E43,zeros_length,E5q];omega
  have es:(A5 ((dK b j).take i++zeros (32-i))).set i (.i .u8 (dK b j)[i].toNat)=A5 ((dK b j).take (i+1)++zeros (32-(i+1))):=by
   rw [gJ];refine congrArg A5 ?_;have h6:((dK b j).take i).length=i:=by simp;omega
   rw [E5A _ _ (by omega),h6,E5K,E5f (by omega),E45];refine congrArg ((dK b j).take i ++ ·) ?_;rw [show 32-i=32-(i+1)+1 by omega];unfold zeros;rw [E5p,E5L];rfl
  rw [A7N];simp only [esc,esh,Nat.reduceAdd,Nat.reduceMul,Nat.reduceLT,h1',w1,A1k (show 32*j+i<9223372036854775808 by omega),a1,a2,l1,ho,es,C6 (show i+1<9223372036854775808 by omega)];exact ih
theorem D18 {b:List UInt8} {j:Nat} {h:A6} (hb:b.length=256) (hj:j<8):A9w [.a (A5 b),iV j] h=some (.a (A5 (dK b j)),h):=by
 have key:∀ N,32<N->∀ g,∃ g',A8B N [.a (A5 b),iV j] g=some (.a (A5 (dK b j)),g'):=by
  intro N hN g;have c1:¬ (j:Int)<0:=by omega
  have c2:¬ (8:Int)<=j:=by omega
  have hz:(A5 (zeros 32)).length=32:=by rw [A4];exact zeros_length
  have e:=D3H (g:=g) (z:=A5 (zeros 32)) (q:=N) hb hz hj 32 0 N (by omega) (by omega);simp only [E5X,E5g,Nat.sub_zero] at e;rw [C4y,I5];generalize zeros 32=zz at *;exact ⟨_,by simp only [esc,esh,Nat.reduceAdd,Nat.reduceMul,Nat.reduceLT,c1,c2];exact e⟩
 obtain ⟨g',e⟩:=key (h.length+33) (by omega) (ro h);exact B9q e (by simp)
theorem wO:(E6 0 0 0 0 (zI 7)).length=11:=rfl
theorem B69:[o0,o0,o0,o0,o0,o0,o0,o0,o0,o0,o0]=E6 0 0 0 0 (zI 7):=rfl
theorem B4s:D9 (E6 0 0 0 0 (zI 7)) []=some (E6 0 0 0 0 (zI 7)):=rfl
theorem D17 {b:List UInt8} {j:Nat} {h:A6} (hb:b.length=256) (hj:j<8):A9v [.a (A5 b),iV j] h=some (.t [.a (dF (dK b j)),.c (.b (iO (dK b j)))],h):=by
 have key:∀ g,∃ g',A8A 0 [.a (A5 b),iV j] g=some (.t [.a (dF (dK b j)),.c (.b (iO (dK b j)))],g'):=by
  intro g;have c1:¬ (j:Int)<0:=by omega
  have c2:¬ (8:Int)<=j:=by omega
  have hB:(A5 b).length=256:=by rw [A4,hb]
  have hR:=λh=>D18 (h:=h) hb hj
  have hC:=λh=>C6A (b:=dK b j) (h:=h) (pB hb hj)
  have hl:=wO;have wL:=vD (b:=dK b j);rw [C4x,B69];generalize E6 0 0 0 0 (zI 7)=z at *;exact ⟨_,by simp only [esc,esh,Nat.reduceAdd,Nat.reduceMul,Nat.reduceLT,c1,c2,hB,hR,hC,hl,wL]<;>rfl⟩
 obtain ⟨g',e⟩:=key (ro h);exact B9o e (by simp [zK])
def A72 (D:Dev) (n i:Int):List UInt8:=dK (blk D (V4 D.length n i)) (bR D.length n i).toNat
def A1n (D:Dev) (n i:Int):List Cell:=bif Q7 D.length n i then dF (A72 D n i) else E6 0 0 0 0 (zI 7)
def kdV (D:Dev) (n i:Int):Int:=bif Q7 D.length n i then (bif iO (A72 D n i) then pH (A72 D n i) else 0) else 0
theorem D6K (D:Dev) (n i:Int):∃ l s p d,A1n D n i=E6 (kdV D n i) l s p d/\d.length=7:=by
 unfold A1n kdV;cases Q7 D.length n i with
 | false=>exact ⟨0,0,0,zI 7,rfl,G9⟩
 | true =>
  unfold dF;cases iO (A72 D n i) with
  | false=>exact ⟨0,0,0,zI 7,rfl,G9⟩
  | true=>exact ⟨_,_,_,_,rfl,E3⟩
theorem C6i (D:Dev) (n i:Int):N7 (A1n D n i)=true:=by
 obtain ⟨l,s,p,d,e,hd⟩:=D6K D n i;rw [e];exact C6h (l:=_::_::_::_::d)
theorem C81 {b n m i:Int} {f:Cell} {h:A6} (hi:Q7 b n i=false):jD [.a (vwC b n m f),iV i] h=some (.a (E6 0 0 0 0 (zI 7)),h):=by
 have key:∀ g,∃ g',iZ 0 [.a (vwC b n m f),iV i] g=some (.a (E6 0 0 0 0 (zI 7)),g'):=by
  intro g;have l3:=D35 (b:=b) (n:=n) (m:=m) (f:=f);have hW:=λh=>A3L (b:=b) (n:=n) (m:=m) (i:=i) (h:=h)
  simp only [hi] at hW;have hf:=B4s;have hl:=wO;rw [vQ,B69];generalize vwC b n m f=V at *;generalize E6 0 0 0 0 (zI 7)=z at *;exact ⟨_,by simp only [esc,esh,Nat.reduceAdd,Nat.reduceMul,Nat.reduceLT,l3,hW,hf,hl]<;>rfl⟩
 obtain ⟨g',e⟩:=key (ro h);exact qH e rfl
theorem vL {n m i:Int} {f:Cell} {D:Dev} {h:A6} (hD:okD D) (hv:IsView h f D):jD [.a (vwC D.length n m f),iV i] h=some (.a (A1n D n i),h):=by
 cases hi:Q7 D.length n i with
 | false =>
  rw [C81 hi];unfold A1n;rw [hi];rfl
 | true =>
  have key:∀ g,IsView g f D->∃ g',iZ 0 [.a (vwC D.length n m f),iV i] g=some (.a (A1n D n i),g'):=by
   intro g hv;have l3:=D35 (b:=D.length) (n:=n) (m:=m) (f:=f);have l4:=E1q (b:=D.length) (n:=n) (m:=m) (f:=f);have hW:=λh=>A3L (b:=D.length) (n:=n) (m:=m) (i:=i) (h:=h)
   simp only [hi] at hW;have hf:=B4s;have hl:=wO;have hK:∃ j:Nat,bR D.length n i=j/\j<8:=by
    refine ⟨(bR D.length n i).toNat,?_,?_⟩<;>unfold bR<;>rw [hi,cond_true]<;>omega
   obtain ⟨j,hj,hj8⟩:=hK;have hB:=dL (n:=n) (m:=m) (no:=V4 D.length n i) (h:=g++[rT (vwC D.length n m f),rT (E6 0 0 0 0 (zI 7))]) hD (hv.more _);have hG:=λh=>D17 (b:=blk D (V4 D.length n i)) (j:=j) (h:=h) (O2 hD) hj8
   have er:dK (blk D (V4 D.length n i)) j=A72 D n i:=by unfold A72;rw [hj,E5j]
   simp only [er] at hG;simp only [hj] at hW;have wL:=vD (b:=A72 D n i);have ei:A1n D n i=dF (A72 D n i):=by unfold A1n;rw [hi];rfl
   rw [vQ,B69,ei];generalize vwC D.length n m f=V at *;generalize E6 0 0 0 0 (zI 7)=z at *;generalize dF (A72 D n i)=y at *;exact ⟨_,by simp only [esc,esh,Nat.reduceAdd,Nat.reduceMul,Nat.reduceLT,l3,l4,hW,hB,hG,hf,hl,wL]<;>rfl⟩
  obtain ⟨g',e⟩:=key (ro h) hv.ro;exact qH e (C6i D n i)
def A1b (i:Nat):Nat:=2 ^ (i%8)
theorem B0D (i:Nat):A1b i<256:=by
 have h:i%8<8:=by omega
 unfold A1b;generalize i%8=j at *;have:j=0\/j=1\/j=2\/j=3\/j=4\/j=5\/j=6\/j=7:=by omega
 rcases this with rfl | rfl | rfl | rfl | rfl | rfl | rfl | rfl<;>decide
theorem C5N {i:Nat} {h:A6} (hi:i<2048):A27 [iV (i:Int)] h=some (.t [.c (.i .i64 ((i/8:Nat):Int)),.c (.i .u8 (A1b i:Int)),.c (.b true)],h):=by
 refine B3F (n:=0) (h2:=ro h) ?_ rfl;have c1:¬ (i:Int)<0:=by omega
 have c2:¬ (2048:Int)<=i:=by omega
 have q1:N5 .quo (iV (i:Int)) (iV 8)=some (iV ((i/8:Nat):Int)):=by
  rw [zQ (by omega) (by omega) (by omega)];congr 3
 have r1:N5 .rem (iV (i:Int)) (iV 8)=some (iV ((i%8:Nat):Int)):=by
  rw [A7M (by omega) (by omega)];congr 3
 have w1:IntKind.wrap .u64 ((i%8:Nat):Int)=((i%8:Nat):Int):=wrap_u64 (by omega) (by omega);have s1:N5 .shl (.c (.i .u8 1)) (.c (.i .u64 ((i%8:Nat):Int)))=some (.c (.i .u8 (A1b i:Int))):=by
  have hm:=B0D i;rw [B6A (by omega),E5j];have e1:Nat.min (i%8) IntKind.u8.bits=i%8:=by
   have:IntKind.u8.bits=8:=rfl;rw [this];exact E5U (by omega)
  have e2:(1:Int)*2 ^ (i%8)=(A1b i:Int):=by unfold A1b;rw [Int.natCast_pow];simp
  rw [e1,e2,wrap_u8 (by omega) (by omega)]
 rw [B7Z];simp only [esc,c1,c2,q1,r1,w1,s1]
theorem E3r {a b:Nat} (ha:a<256) (hb:b<256):N5 .or (.c (.i .u8 a)) (.c (.i .u8 b))=some (.c (.i .u8 ((a ||| b:Nat):Int))):=by
 have h1:a ||| b<2 ^ 8:=Nat.or_lt_two_pow ha hb
 rw [D05];have e:(BitVec.ofInt IntKind.u8.bits (a:Int) ||| BitVec.ofInt IntKind.u8.bits (b:Int)).toNat=a ||| b:=by
  have h8:IntKind.u8.bits=8:=rfl;rw [BitVec.toNat_or,BitVec.toNat_ofInt,BitVec.toNat_ofInt,h8];have e1:((a:Int)%(2 ^ 8:Nat)).toNat=a:=by omega
  have e2:((b:Int)%(2 ^ 8:Nat)).toNat=b:=by omega
  rw [e1,e2]
 rw [e,wrap_u8 (by omega) (by omega)]
theorem D7I {N:Nat} (hN:N<=1073741823):A1m (iV (N:Int)) (iV (N:Int))=some N:=by
 have:A4V (iV (N:Int))=some N:=by simp only [A4V];rw [if_pos (by omega)];simp
 simp [A1m,this]
theorem D9u {D:Dev} {i:Nat} {z:List UInt8} (hi:i<D.length):(D.take i++E41 (D.length-i) z).set i D[i]=D.take (i+1)++E41 (D.length-(i+1)) z:=by
 have hl:(D.take i).length=i:=by rw [E5q];omega
 rw [E5A _ _ (by omega),hl,E5K,show D.length-i=D.length-(i+1)+1 by omega,E5p,E5L,E5f hi,E45];rfl
theorem D8W {D:Dev} (hD:okD D) (i:Nat):okD (D.take i++E41 (D.length-i) (zeros 256)):=λb hb=>by
 rcases List.mem_append.1 hb with hb | hb
 ·exact hD.take i b hb
 ·exact B9T _ b hb
theorem C6v {n m:Int} {f:Cell} {D:Dev} {g:A6} {p q id:Nat} (hD:okD D) (h60:D.length<=1073741823) (h1:rd g p=rT (vwC D.length n m f)) (hv:IsView g f D) (hid:g.length<=id):∀ (e i M:Nat) (h:A6),i+e=D.length->e<M->Low g.length g h ->
  rd h id=rT (D1 (D.take i++E41 (D.length-i) (zeros 256))) ->
  ∃ h',A1j q M (pV p 0) (sV id 0 D.length 256) (iV (D.length:Int)) (iV (i:Int)) h=some (sV id 0 D.length 256,h')/\rd h' id=rT (D1 D)
 | e,i,0,h,_,hm,_,_=>by omega
 | 0,i,M+1,h,hi,hm,hlow,hr=>by
  have e0:i=D.length:=by omega
  have c0:¬ (i:Int)<(D.length:Nat):=by omega
  rw [e0,List.take_length,E5K,List.replicate_zero,E5t] at hr;rw [sM];exact ⟨h,by simp only [esc,c0],hr⟩
 | e+1,i,M+1,h,hi,hm,hlow,hr=>by
  have P6:i<D.length:=by omega
  have c0:(i:Int)<(D.length:Nat):=by omega
  have hV:=B8 (h:=h) (id:=p) (hlow.rd h1) (n:=4) rfl;have hB:=dL (n:=n) (m:=m) (no:=(i:Int)) hD (hv.since hlow);rw [B9y P6] at hB;have ad:D5 256 (sV id 0 D.length 256) (iV (i:Int))=some (pV id (i*256)):=by rw [C4 P6,E5l]
  have hl:(D.take i).length=i:=by rw [E5q];omega
  have hs:=B1x (i:=i) (b:=D[i]) hr (D8W hD i) (hD.at P6) (by rw [E43,hl,E5r];omega);rw [D9u P6] at hs;have U8:=C5 hr;obtain ⟨h',g1,g2⟩:=C6v (q:=q) hD h60 h1 hv hid e (i+1) M (h.set id (rT (D1 (D.take (i+1)++E41 (D.length-(i+1)) (zeros 256))))) (by omega) (by omega) (hlow.set hid _) (B7 U8);refine ⟨h',?_,g2⟩;rw [sM];generalize vwC D.length n m f=V at *;generalize A5 D[i]=y at *;simp only [Q5,A0S,c0,decide_true,D5C,hV,hB,ad,hs,A0R,C6 (show i+1<9223372036854775808 by omega)];exact g1
theorem C80 {n m:Int} {f:Cell} {D:Dev} {h:A6} (hD:okD D) (hv:IsView h f D) (hm:R4 D.length n=true):qG [.a (vwC D.length n m f)] h=some (sV h.length 0 D.length 256,h++[rT (D1 D)]):=by
 have key:∀ g,IsView g f D->∃ v g',pT (D.length+1) [.a (vwC D.length n m f)] g=some (v,g')/\Out g.length g' v 256 D.length (D1 D):=by
  intro g hv;have h60:D.length<=512:=by
   unfold R4 at hm;simp only [E42,decide_eq_true_eq] at hm;omega
  have l3:=D35 (b:=D.length) (n:=n) (m:=m) (f:=f);have l0:(vwC D.length n m f)[0]?=some (.i .i64 (D.length:Int)):=rfl;have hC:=λh=>bG (b:=D.length) (n:=n) (m:=m) (h:=h)
  simp only [hm] at hC;have mk:=D7I (N:=D.length) (by omega);obtain ⟨h',g1,g2⟩:=C6v (n:=n) (m:=m) (p:=g.length) (q:=D.length+1) (id:=g.length+2) (g:=g++[rT (vwC D.length n m f),rT []]) hD (by omega) (by simp) (hv.more _) (by simp) D.length 0 (D.length+1) (g++[rT (vwC D.length n m f),rT [],rT (D1 (E41 D.length (zeros 256)))]) (by omega) (by omega)
   (by
    have:=(Low.refl (h:=g++[rT (vwC D.length n m f),rT []]) (E44 _)).new [rT (D1 (E41 D.length (zeros 256)))];simpa using this) (by simp)
  rw [A8D];simp only [D3Q];refine ⟨_,h',?_,I3 hD,g.length+2,rfl,by omega,g2⟩;generalize vwC D.length n m f=V at *;simp only [esc,esh,Nat.reduceAdd,Nat.reduceMul,Nat.reduceLT,l3,hC,eq_self,l0,mk];exact g1
 obtain ⟨v,g',e,ho⟩:=key (ro h) hv.ro;exact A7U e (by simpa [E7] using ho) fZ
end Go.Proofs.YtbnkgnfhgbhblaaGreat
namespace Go.Proofs.YtbnkgnfhgbhblaaGreat
open Go Go.Esc
set_option maxRecDepth 100000
noncomputable section
variable (n m m2:Nat) (a0 a1 x0 x1 x3 x4 x5 x6:Val) (h:A6)
def oG:FD Tryz.prog:=⟨px 0X17411412188515607c5a1f13180134114122462e37c161c61a11982c04061c61a11986e0029118019395104315510330702461e17c61c8003a1b141e51042510335103060510151032030134114122461e37c61c84061c806151a1032102334111022,[.c (.b false),.c (.b true)],[],[.tmp 4],[]⟩
def C0I:=oG.R
def B6V:AtH:=oG.lj 0 n [m] [x0,x1,x5]
def C0U:=tT [⟨2,3,B6V⟩]
def C33:=mR C0I oG C0U n [a0,a1] h
def A7n:=mL oG C0U 0 n [m] [x0,x1,x5] h
def C0a:=oG.K Tryz.func17
def A8Y:=oG.S
theorem C4I:SOk Tryz.prog 17 A8Y:=C0a.sok
theorem B8C:E5 C0I A8Y:=C0a.flat
def W1:FD Tryz.prog:=⟨px 0X12cc211c5912212188415607c5e1f13180621fa4e5e119861e07c64f82c061c61e11984961a7c2801c04961a7c2801c3d11d181d8615607c383913181e85119667c2c3b13183565430532702461e17c496187c2807e2d1438654306265430536543051625101654305254304355115430422461c61a11987a0029142c4304215430321a0702461e17c61c8003e1b141e43042430334303060510143032313583166175bc4961a7c61c807153022123b91012,[],[],[.tmp 2],[]⟩
def B5F:=W1.R
def B2F:AtH:=W1.lj 0 n [m] [x0,x3,x4]
def B2G:AtH:=W1.lj 1 n [m,m2] [x0,x3,x4,x5,x6]
def B2E:AtH:=W1.lj 2 n [m] [x0,x3,x4]
def yZ:=tT [⟨2,3,B2F⟩,⟨3,5,B2G⟩,⟨2,3,B2E⟩]
def C14:=mR B5F W1 yZ n [a0] h
def tS:=mL W1 yZ 0 n [m] [x0,x3,x4] h
def A4y:=mL W1 yZ 1 n [m,m2] [x0,x3,x4,x5,x6] h
def A4x:=mJ W1 yZ 2 n [m] [x0,x3,x4] h
def B5j:=W1.K Tryz.func124
def A5P:=W1.S
theorem C2A:SOk Tryz.prog 124 A5P:=B5j.sok
theorem B8B:pE B5F A5P:=B5j.out
def fC:FD Tryz.prog:=⟨px 0X11fc216101ac1c3e132125c415607c3a1a13180721fa62e119861c61a1198280001c071824363a2a828889614b7f64b1f61a14b19b7e4b304b3601647c61c61a11984e001c11c2f4304215430311a0702461e17c61c8001a61419430424303343030605101430323132c3128889288891455bd23022123b91012,[.c (.b false),.c (.b true)],[],[.tmp 2],[cal C2A]⟩
def C0J:=fC.R
def B6W:AtH:=fC.lj 0 n [m] [x0,x3,x4]
def D1l:AtH:=fC.lj 1 n [m] [x0,x3,x4]
def A9A:=tT [⟨2,3,B6W⟩,⟨2,3,D1l⟩]
def C34:=mR C0J fC A9A n [a0] h
def A7o:=mL fC A9A 0 n [m] [x0,x3,x4] h
def C27:=mJ fC A9A 1 n [m] [x0,x3,x4] h
def C0b:=fC.K Tryz.func60
def A8Z:=fC.S
theorem C4J:SOk Tryz.prog 60 A8Z:=C0b.sok
theorem C2B:pE C0J A8Z:=C0b.out
end
end Go.Proofs.YtbnkgnfhgbhblaaGreat
namespace Go.Proofs.YtbnkgnfhgbhblaaGreat
open Go Go.Esc
def rP (b:List UInt8) (i:Nat):List UInt8:=b.set (i/8) (UInt8.ofNat ((b.getD (i/8) 0).toNat ||| A1b i))
theorem C1R {b:List UInt8} {i:Nat}:(rP b i).length=b.length:=by simp [rP]
theorem C8t {b:List UInt8} {i:Nat} {h:A6} (hb:b.length=256) (hi:i<2048):A5E [.a (A5 b),iV (i:Int),bV true] h=some (.a (A5 (rP b i)),h):=by
 have key:∀ g,∃ g',A5k 0 [.a (A5 b),iV (i:Int),bV true] g=some (.a (A5 (rP b i)),g'):=by
  intro g;have hW:=λh=>C5N (h:=h) hi
  have U8:i/8<b.length:=by omega
  have ad:=J4 (k:=.i64) (id:=g.length) (off:=0) (sz:=1) (j:=i/8) (n:=256) (by omega);rw [Nat.mul_one,E5l] at ad;have l1:(A5 b)[i/8]?=some (.i .u8 b[i/8].toNat):=by rw [bB,E40 U8];rfl
  have a1:=E3r (a:=b[i/8].toNat) (b:=A1b i) b[i/8].toNat_lt (B0D i);have hor:b[i/8].toNat ||| A1b i<2 ^ 8:=Nat.or_lt_two_pow b[i/8].toNat_lt (B0D i)
  have es:(A5 b).set (i/8) (.i .u8 ((b[i/8].toNat ||| A1b i:Nat):Int))=A5 (rP b i):=by
   have ew:(b[i/8].toNat ||| A1b i)=(UInt8.ofNat (b[i/8].toNat ||| A1b i)).toNat:=by rw [UInt8.toNat_ofNat',E5P hor]
   unfold rP;rw [E47,E40 U8,E5G,<-gJ,<-ew]
  have hB:(A5 b).length=256:=by rw [A4,hb]
  have hC:(A5 (rP b i)).length=256:=by rw [A4,C1R,hb]
  have s1:=C3r (cs:=A5 b) (off:=i/8) (x:=.i .u8 ((b[i/8].toNat ||| A1b i:Nat):Int)) (by omega);rw [es] at s1;have hz:(E41 256 (Cell.i .u8 0)).length=256:=E5r;rw [C1Y];generalize E41 256 (Cell.i .u8 0)=z at *;generalize A5 b=y at *;generalize A5 (rP b i)=y2 at *;exact ⟨_,by simp only [esc,Y2,N6,dY,S7,R6,J1,tQ,A9J,gB,A2s,jJ,hW,ad,l1,a1,s1,B9D,hB,hC,hz]<;>rfl⟩
 obtain ⟨g',e⟩:=key (ro h);exact B5Z e (by simp [Val.flat])
def eQ (l:List Nat):List UInt8:=l.foldl rP (zeros 256)
theorem cK {l:List Nat}:∀ {b:List UInt8},(l.foldl rP b).length=b.length:=by
 induction l with
 | nil=>intro b;rfl
 | cons x l ih=>intro b;rw [List.foldl_cons,ih,C1R]
theorem C5Z {g:A6} {l:List Nat} {q p:Nat} {v:Val} {nv:Nat} (hl:∀ x∈l,x<2048) (h60:l.length<=2048) (hv:Has g v 1 nv (encI (l.map λx:Nat=>(x:Int)))) (hp:p=g.length):∀ (e i m:Nat),i+e=l.length->e<m ->
  B2x q m (pV p 0) (pV (p+1) 0) v (iV (l.length:Int)) (iV (i:Int)) (g++[rT (A5 (zeros 256)),rT (A5 ((l.take i).foldl rP (zeros 256)))]) =
   some (.a (A5 (eQ l)),g++[rT (A5 (eQ l)),rT (A5 (eQ l))])
 | e,i,0,_,hm=>by omega
 | 0,i,m+1,hi,hm=>by
  have e0:i=l.length:=by omega
  subst e0 hp;have c0:¬ (l.length:Int)<(l.length:Nat):=by omega
  have hB:(A5 (eQ l)).length=256:=by rw [A4];unfold eQ;rw [cK];exact zeros_length
  have hz:(A5 (zeros 256)).length=256:=by rw [A4];exact zeros_length
  rw [A4n,List.take_length];have em:l.foldl rP (zeros 256)=eQ l:=rfl;rw [em];generalize A5 (zeros 256)=z at *;generalize A5 (eQ l)=y at *;simp only [esc,esh,Nat.reduceAdd,Nat.reduceMul,Nat.reduceLT,c0,hB,hz]
 | e+1,i,m+1,hi,hm=>by
  have P6:i<l.length:=by omega
  have ih:=C5Z (q:=q) hl h60 hv hp e (i+1) m (by omega) (by omega);subst hp;have c0:(i:Int)<(l.length:Nat):=by omega
  have hnv:l.length=nv:=by
   have:=hv.length;rw [A8,List.length_map] at this;omega
  obtain ⟨id,off,rfl,hid,h1,_⟩:=(hv.more [rT (A5 (zeros 256)),rT (A5 ((l.take i).foldl rP (zeros 256)))]).sl (by omega);have hx:=h1 i (.i .i64 (l[i]:Int)) (by rw [F6,List.getElem?_map,E40 P6];rfl);have ea:D5 1 (sV id off nv 1) (iV (i:Int))=some (pV id (off+i)):=by rw [C4 (by omega)];simp
  have hfl:((l.take i).foldl rP (zeros 256)).length=256:=by rw [cK];exact zeros_length
  have hW:=λh=>C8t (h:=h) hfl (hl _ (E5F P6))
  have et:rP ((l.take i).foldl rP (zeros 256)) l[i]=(l.take (i+1)).foldl rP (zeros 256):=by
   rw [E5f P6,List.foldl_append];rfl
  rw [et] at hW;have hB:(A5 ((l.take i).foldl rP (zeros 256))).length=256:=by rw [A4,hfl]
  have hB2:(A5 ((l.take (i+1)).foldl rP (zeros 256))).length=256:=by rw [A4,cK];exact zeros_length
  rw [A4n];generalize A5 (zeros 256)=z at *;generalize A5 ((l.take i).foldl rP (zeros 256))=y at *;generalize A5 ((l.take (i+1)).foldl rP (zeros 256))=y2 at *;simp only [esc,esh,Nat.reduceAdd,Nat.reduceMul,Nat.reduceLT,c0,ea,hx,hW,hB,hB2,C6 (show i+1<9223372036854775808 by omega)];exact ih
theorem B2w {v:Val} {nv:Nat} {l:List Nat} {h:A6} (hl:∀ x∈l,x<2048) (h60:l.length<=2048) (hv:Has h v 1 nv (encI (l.map λx:Nat=>(x:Int)))):A5D [v] h=some (.a (A5 (eQ l)),h):=by
 have key:∀ g,Has g v 1 nv (encI (l.map λx:Nat=>(x:Int)))->∃ g',A5j (l.length+1) [v] g=some (.a (A5 (eQ l)),g'):=by
  intro g hv;have hnv:l.length=nv:=by
   have:=hv.length;rw [A8,List.length_map] at this;omega
  have hL:=C5Z (q:=l.length+1) hl h60 hv rfl l.length 0 (l.length+1) (by omega) (by omega);have hlen:=hv.len;rw [<-hnv] at hlen;rw [C1X,I5];rw [E5X,List.foldl_nil] at hL;generalize A5 (zeros 256)=z at *;exact ⟨_,by simp only [esc,hlen];exact hL⟩
 obtain ⟨g',e⟩:=key (ro h) hv.ro;exact B5Y e (by simp [Val.flat])
theorem D1U {b n m:Int} {h:A6} (hm0:0<=m) (hm1:m<18446744073709551616):B3Q [.a (D3 b n m)] h=some (sV h.length 0 256 1,h++[rT (A5 (iR b n m))]):=by
 have key:∀ g,∃ v g',B3l 0 [.a (D3 b n m)] g=some (v,g')/\Out g.length g' v 1 256 (A5 (iR b n m)):=by
  intro g;have e7:D9 [Cell.i .u8 0,.i .u8 0,.i .u8 0,.i .u8 0,.i .u8 0,.i .u8 0,.i .u8 0,.i .u8 0] [(0,1,.c (.i .u8 101)),(1,1,.c (.i .u8 115)),(2,1,.c (.i .u8 99)),(3,1,.c (.i .u8 104)),(4,1,.c (.i .u8 101)),(5,1,.c (.i .u8 97)),(6,1,.c (.i .u8 116)),(7,1,.c (.i .u8 49))]=some (A5 magicB):=rfl;have lm:magicB.length=8:=rfl;obtain ⟨c0,hc0⟩:∃ c0:Option Row,c0=rT (D3 b n m):=⟨_,rfl⟩;have hmk:=D2t (h:=g++[rT (D3 b n m),rT [],rT (A5 magicB)]) (id:=g.length+2) (off:=0) (len:=8) (sz:=1) (cs:=A5 magicB) (by simp) (by omega);have b1:=λh=>dB (w:=2) (v:=b) (h:=h) (by omega)
  have b2:=λh=>dB (w:=2) (v:=n) (h:=h) (by omega)
  have b3:=λh=>A1c (w:=8) (v:=m) (h:=h) (by omega) hm0 hm1
  have E4g:=C3o (s:=bQ b n m);have b4:=λh=>A1c (w:=4) (v:=(xT (bQ b n m):Nat)) (h:=h) (by omega) (by omega) (by omega)
  have p1:=jX (h:=g++[rT (D3 b n m),rT [],rT (A5 magicB),rT (A5 (A9 2 b))]) (id:=g.length+2) (jd:=g.length+3) (n:=8) (m:=2) (sz:=1) (cs:=A5 magicB) (ys:=A5 (A9 2 b)) (rw:=true) (by simp) (by simp [A4,lm]) (by simp) (by simp [A4]) rfl (by omega) (by omega);have p2:=jX (h:=g++[rT (D3 b n m),rT [],none,rT (A5 (A9 2 b)),rT (A5 magicB++A5 (A9 2 b)),rT (A5 (A9 2 n))]) (id:=g.length+4) (jd:=g.length+5) (n:=10) (m:=2) (sz:=1) (cs:=A5 magicB++A5 (A9 2 b)) (ys:=A5 (A9 2 n)) (rw:=true) (by simp) (by simp [A4,lm]) (by simp) (by simp [A4]) rfl (by omega) (by omega);have p3:=jX (h:=g++[rT (D3 b n m),rT [],none,rT (A5 (A9 2 b)),none,rT (A5 (A9 2 n)),rT (A5 magicB++A5 (A9 2 b)++A5 (A9 2 n)),rT (A5 (A9 8 m))]) (id:=g.length+6) (jd:=g.length+7) (n:=12) (m:=8) (sz:=1) (cs:=A5 magicB++A5 (A9 2 b)++A5 (A9 2 n)) (ys:=A5 (A9 8 m)) (rw:=true) (by simp) (by simp [A4,lm]) (by simp) (by simp [A4]) rfl (by omega) (by omega);have eS:A5 magicB++A5 (A9 2 b)++A5 (A9 2 n)++A5 (A9 8 m)=A5 (bQ b n m):=by unfold bQ;simp only [J9]
  rw [eS] at p3;have E16:=(Has.tr (h:=g++[rT (D3 b n m),rT [],none,rT (A5 (A9 2 b)),none,rT (A5 (A9 2 n)),none,rT (A5 (A9 8 m)),rT (A5 (bQ b n m))]) (id:=g.length+8) (sz:=1) (n:=20) (cs:=A5 (bQ b n m)) (by simp) (by rw [A4,R8]) (F0 _)).str;have hmx:=λh=>C1N (s:=bQ b n m) (h:=h) (by rw [R8];omega)
  have p4:=jX (h:=g++[rT (D3 b n m),rT [],none,rT (A5 (A9 2 b)),none,rT (A5 (A9 2 n)),none,rT (A5 (A9 8 m)),rT (A5 (bQ b n m)),rT (A5 (A9 4 (xT (bQ b n m):Nat)))]) (id:=g.length+8) (jd:=g.length+9) (n:=20) (m:=4) (sz:=1) (cs:=A5 (bQ b n m)) (ys:=A5 (A9 4 (xT (bQ b n m):Nat))) (rw:=true) (by simp) (by rw [A4,R8]) (by simp) (by simp [A4]) rfl (by omega) (by omega);rw [<-J9] at p4;have mk:A1m (iV 256) (iV 256)=some 256:=rfl;have rz:=mP 256;have l24:(bQ b n m++A9 4 (xT (bQ b n m):Nat)).length=24:=by rw [E43,R8,O7]
  have hL:=mO (h:=g++[rT (D3 b n m),rT [],none,rT (A5 (A9 2 b)),none,rT (A5 (A9 2 n)),none,rT (A5 (A9 8 m)),none,rT (A5 (A9 4 (xT (bQ b n m):Nat))),rT (A5 (bQ b n m++A9 4 (xT (bQ b n m):Nat))),rT (A5 (zeros 256))]) (v:=sV (g.length+11) 0 256 1) (nv:=256) (l:=zeros 256) (u:=sV (g.length+10) 0 24 1) (nu:=24) (data:=bQ b n m++A9 4 (xT (bQ b n m):Nat)) (Has.tr (by simp) (by rw [A4];exact zeros_length) (F0 _)) (Has.tr (by simp) (by rw [A4,l24]) (F0 _)) (a:=0) (by omega) (by rw [zeros_length];omega);have eL:A70 (zeros 256) 0 (bQ b n m++A9 4 (xT (bQ b n m):Nat))=iR b n m:=by
   have h1:=A0f (l:=zeros 256) (xs:=bQ b n m++A9 4 (xT (bQ b n m):Nat)) (a:=0) (by rw [l24,zeros_length];omega);have h2:=B0K (l:=[]) (xs:=bQ b n m++A9 4 (xT (bQ b n m):Nat)) (a:=0) (by simp) (by rw [l24];omega);rw [show ((0:Nat):Int)=0 from rfl] at h1;rw [h1,<-B7x,h2,E5u,E5K,show zeros 0=[] from rfl,E5t,E5g,iR]
  have zl:(zeros 256).length=256:=zeros_length;rw [eL,zl] at hL;simp only [esc,E5y] at p1 p2 p3 p4 hL b1 b2 b3 b4;rw [C7O];generalize zeros 256=z at *;exact ⟨_,_,by simp only [esc,esh,Nat.reduceAdd,Nat.reduceMul,Nat.reduceLT,e7,hmk,b1,p1,b2,p2,b3,p3,E16,hmx,b4,p4,mk,rz,hL]<;>rfl,by rw [A4,T2],_,rfl,by omega,by simp⟩
 obtain ⟨v,g',e,ho⟩:=key (ro h);exact C4L e (by simpa [E7] using ho) (by simp)
theorem D1T {v:Val} {nv:Nat} {b:List UInt8} {h:A6} (hv:Has h v 1 nv (A5 b)) (hb:b.length=256):B3O [v] h=some (.t [.a (B9P b),.c (.b (okS b))],h):=by
 have key:∀ g,Has g v 1 nv (A5 b)->∃ g',B3j 0 [v] g=some (.t [.a (B9P b),.c (.b (okS b))],g'):=by
  intro g hv;have hv1:=hv.more [rT (D3 0 0 0)];have hg:=B7G hv1 (a:=12) (w:=8) (by omega);have gN:C6m b 12 8=some (le ((b.drop 12).take 8)):=by
   unfold C6m;rw [hb,if_pos ⟨by omega,by decide⟩];rfl
  rw [gN] at hg;simp only [E5G,E5h] at hg;have e12:((le ((b.drop 12).take 8):Nat):Int)=fieldN b 12 8:=rfl;rw [e12] at hg;have a1:=pC hv1 (a:=8) (w:=2) hb;have a2:=pC hv1 (a:=10) (w:=2) hb;have f1:=B6D (a:=8) (w:=2) hb (by omega) (by omega) (by omega);have f2:=B6D (a:=10) (w:=2) hb (by omega) (by omega) (by omega);simp only [E5y] at f1 f2;rw [f1] at a1;rw [f2] at a2;have ef:∀ x y z:Int,D9 (D3 0 0 0) [(0,1,iV x),(1,1,iV y),(2,1,.c (.i .u64 z))]=some (D3 x y z):=λ_ _ _=>rfl
  have ef0:D9 (D3 0 0 0) []=some (D3 0 0 0):=rfl;have hm:=λh=>W2 (b:=fieldN b 8 2) (n:=fieldN b 10 2) (m:=fieldN b 12 8) (h:=h)
  have hp:=λh=>D1U (b:=fieldN b 8 2) (n:=fieldN b 10 2) (m:=fieldN b 12 8) (h:=h) (zH b).1 (zH b).2
  have hS:=iE (h:=g++[rT (D3 0 0 0),rT (D3 (fieldN b 8 2) (fieldN b 10 2) (fieldN b 12 8)),rT (A5 (iR (fieldN b 8 2) (fieldN b 10 2) (fieldN b 12 8)))]) (v:=sV (g.length+2) 0 256 1) (nv:=256) (u:=v) (nu:=nv) (l:=iR (fieldN b 8 2) (fieldN b 10 2) (fieldN b 12 8)) (r:=b)
   (Has.tr (by simp) (by rw [A4,T2]) (F0 _)) (hv.more _) (by rw [T2];omega)
  rw [C7M];unfold B9P okS;cases c:R4 (fieldN b 8 2) (fieldN b 10 2) with
  | false =>
   simp only [c] at hm;exact ⟨_,by simp only [esc,esh,Nat.reduceAdd,Nat.reduceMul,Nat.reduceLT,hg,a1,a2,ef,ef0,hm,E48]<;>rfl⟩
  | true =>
   simp only [c] at hm;cases c2:decide (iR (fieldN b 8 2) (fieldN b 10 2) (fieldN b 12 8)=b) with
   | false =>
    rw [c2] at hS;exact ⟨_,by simp only [esc,esh,Nat.reduceAdd,Nat.reduceMul,Nat.reduceLT,hg,a1,a2,ef,ef0,hm,hp,hS,E5Y]<;>rfl⟩
   | true =>
    rw [c2] at hS;exact ⟨_,by simp only [esc,esh,Nat.reduceAdd,Nat.reduceMul,Nat.reduceLT,hg,a1,a2,ef,ef0,hm,hp,hS,Bool.and_true]<;>rfl⟩
 obtain ⟨g',e⟩:=key (ro h) hv.ro;refine C2C e ?_;unfold B9P;cases okS b<;>simp
end Go.Proofs.YtbnkgnfhgbhblaaGreat
namespace Go.Proofs.YtbnkgnfhgbhblaaGreat
open Go Go.Esc
set_option maxRecDepth 100000
noncomputable section
variable (n m m2:Nat) (a0 a1 x0 x1 x2 x3 x4:Val) (h:A6)
def sR:FD Tryz.prog:=⟨px 0X12181b1de1c1b382212621fa1a1c4c191b96301ac03a14322218c415607c6a2813181a21fa3e61628c41c4c1962a301ac65907c61967c280007a2a11918154320430702439617c5a1e121f432052432043432040605101432042320336c21b1de3b32d96131e122e113e1043b3e819496301ac0029296301ac0019196301ac00516301ac0511b320323b22d912022,[],[],[.cellN 2 11],[cal qD]⟩
def B3m:=sR.R
def C1s:AtH:=sR.lj 0 n [m] [x0,x2,x3,x4]
def C5k:=tT [⟨2,4,C1s⟩]
def C7P:=mR B3m sR C5k n [a0] h
def A97:=mL sR C5k 0 n [m] [x0,x2,x3,x4] h
def C3B:=sR.K Tryz.func219
def B3S:=sR.S
theorem C8b:SOk Tryz.prog 219 B3S:=C3B.sok
theorem C2G:E5 B3m B3S:=C3B.flat
def B05:FD Tryz.prog:=⟨px 0X15c41362a2a861a191f7f41f301f3601647c001841234111022,[.c (.b false)],[],[.tmp 4],[]⟩
def C9m:=B05.R
def D0J:=mR C9m B05 (tT []) n [a0,a1] h
def C88:=B05.K Tryz.func245
def B8H:=B05.S
theorem D0W:SOk Tryz.prog 245 B8H:=C88.sok
theorem C4N:E5 C9m B8H:=C88.flat
def sS:FD Tryz.prog:=⟨px 0X12d821362a2a87ffffd62019d1af619d1f1a419d4f60362a2a87ffffd62018b1af618b1f3418b4f60362a2a849c889620791af6791f24794f60362a2a87ffffd6205f1af65f1f145f4f60196201ac61c042c4d382126c315607c4e1c13180132112122462bc7ffffd6201ac61c1a61628c444c5e1e162b31321531230702439617c3e1a121b3132312331206051013122113014c21068803b3e841b384212241627c61c0444d361221133062ec2112,[.c (.b false)],[.eqA false ([.i .i64,.i .i64,.i .i64,.i .i64,.i .i64,.i .i64,.i .i64,.i .i64,.i .i64,.i .i64,.i .i64]) (.t 7) (.t 8)],[.tmp 2],[cal D0W]⟩
def B3n:=sS.R
def C1t:AtH:=sS.lj 0 n [m] [x1,x3]
def C5l:=tT [⟨2,2,C1t⟩]
def C7Q:=mR B3n sS C5l n [a0] h
def A98:=mL sS C5l 0 n [m] [x1,x3] h
def C3C:=sS.K Tryz.func220
def B3T:=sS.S
theorem C8c:SOk Tryz.prog 220 B3T:=C3C.sok
theorem C2H:E5 B3n B3T:=C3C.flat
def sT:FD Tryz.prog:=⟨px 0X12f82106881c5d132122e83162e13cc619201ac64c861c1a44c1c4f173121f8415607c283d13182b83163e13cc619201ac64c861c1a61628c444c2801c3f1191815431330702439617c283b123c4314243133431306051014313231231d83162e13cc619201ac64c861c344c1c2d1731221a83162e13cc629201ac64c861c244c6a1f173122783162e13cc619201ac64c861c144c3a191731224831311610218213fc64f861c0454d5312213b862ec2112,[.c (.i .u8 0)],[.appZ 1 ([.i .u8 0]) (.t 45) (.v (.c (.i .i64 8)))],[.tmp 2],[cal gI]⟩
def B3o:=sT.R
def C1u:AtH:=sT.lj 0 n [m] [x1,x3,x4]
def C5m:=tT [⟨2,3,C1u⟩]
def C7R:=mR B3o sT C5m n [a0] h
def A99:=mL sT C5m 0 n [m] [x1,x3,x4] h
def C3D:=sT.K Tryz.func59
def A5S:=sT.S
theorem B2l:SOk Tryz.prog 59 A5S:=C3D.sok
theorem C4O:pE B3o A5S:=C3D.out
def yJ:FD Tryz.prog:=⟨px 0X17312181b1de7a1b2a39332220133127e1b1de03b3e83322224673a2a862c2bf61a232c1af02c36122c1af3e1b2c3b6062bc6111ac1e1b7391a28423242233821b1de3b42d96101ac051442032303b22d922022,[.c (.b false),.c (.b true)],[],[.cellN 2 11,.tmp 3],[cal C8b,cal C8c,cal B2l,cal dV]⟩
def A5p:=yJ.R
def C16:=mR A5p yJ (tT []) n [a0] h
def B5l:=yJ.K Tryz.func174
def A5R:=yJ.S
theorem C2F:SOk Tryz.prog 174 A5R:=B5l.sok
theorem B56:E5 A5p A5R:=B5l.flat
def gW:FD Tryz.prog:=⟨px 0X178215e1e122126c315607c4e03181507024362e2a861e51d7f6288961d7f2e1d301d36018b9617c60181b30323023302060531310130221211012,[.c (.b false)],[],[.tmp 2],[]⟩
def A2J:=gW.R
def A96:AtH:=gW.lj 0 n [m] [x0,x3]
def B2p:=tT [⟨2,2,A96⟩]
def B74:=mR A2J gW B2p n [a0] h
def A2h:=mL gW B2p 0 n [m] [x0,x3] h
def B1X:=gW.K Tryz.func108
def A3a:=gW.S
theorem B8G:SOk Tryz.prog 108 A3a:=B1X.sok
theorem B3R:E5 A2J A3a:=B1X.flat
end
end Go.Proofs.YtbnkgnfhgbhblaaGreat
namespace Go.Proofs.YtbnkgnfhgbhblaaGreat
open Go Go.Esc
def inI (n top:Int):Bool:=decide (0<=n)&&decide (n<=top)
theorem kV {n top:Int} {h:A6}:B8H [iV n,iV top] h=some (bV (inI n top),h):=by
 refine C4N (n:=0) (h2:=ro h) ?_ rfl;rw [D0J];unfold inI;by_cases c:0<=n
 ·simp only [esc,c,E5d]
 ·simp only [esc,c,E48]
theorem A0e {n:Int}:inI n 65535=M7 n:=rfl
theorem A2u {x:Int} {h:A6} {q:Nat}:∀ e i m:Nat,i+e=134->e<m->(i=0\/256*((i:Int)-1)<x) ->
  A96 q m (iV x) (iV i) h=some (iV (if x<1 then 0 else if 34304<x then 134 else (x+255)/256),h)
 | e,i,0,_,hm,_=>by omega
 | 0,i,m+1,hi,hm,hx=>by
  have c0:¬ (i:Int)<134:=by omega
  have hv:(if x<1 then 0 else if 34304<x then 134 else (x+255)/256)=(i:Int):=by
   rw [if_neg (by omega)];by_cases c:34304<x
   ·rw [if_pos c];omega
   ·rw [if_neg c];omega
  rw [A2h,hv];simp only [esc,c0]
 | e+1,i,m+1,hi,hm,hx=>by
  have c0:(i:Int)<134:=by omega
  have e1:IntKind.wrap .i64 (256*(i:Int))=256*i:=wrap_i64 (by omega) (by omega);rw [A2h];by_cases c1:256*(i:Int)<x
  ·have ih:=A2u (x:=x) (h:=h) (q:=q) e (i+1) m (by omega) (by omega) (.inr (by omega));simp only [esc,c0,e1,c1,C6 (show i+1<9223372036854775808 by omega)];exact ih
  ·have hv:(if x<1 then 0 else if 34304<x then 134 else (x+255)/256)=(i:Int):=by
    by_cases c:x<1
    ·rw [if_pos c];omega
    ·rw [if_neg c,if_neg (by omega)];omega
   rw [hv];simp only [esc,c0,e1,c1]
theorem C3d {x:Int} {h:A6}:A3a [iV x] h=some (iV (if x<1 then 0 else if 34304<x then 134 else (x+255)/256),h):=by
 have key:∀ N,135<N->∀ g,∃ g',A2J N [iV x] g=some (iV (if x<1 then 0 else if 34304<x then 134 else (x+255)/256),g'):=by
  intro N hN g;have:=A2u (x:=x) (h:=g) (q:=N) 134 0 N (by omega) (by omega) (.inl rfl);rw [B74];exact ⟨_,this⟩
 obtain ⟨g',e⟩:=key (h.length+136) (by omega) (ro h);exact B3R e rfl
theorem B0T {g:A6} {k l s p:Int} {d:List Int} {q:Nat} (hd:d.length=7) (hk:k≠0):∀ e i m:Nat,i+e=6->e<m ->
  C1t q m (pV g.length 0) (iV i) (g++[rT (E6 k l s p d)])=some (bV ((d.drop i).all M7&&A2v k l s p []),g++[rT (E6 k l s p d)])
 | e,i,0,_,hm=>by omega
 | 0,i,m+1,hi,hm=>by
  have e0:i=6:=by omega
  subst e0;have c0:¬ ((6:Nat):Int)<6:=by omega
  have l1:(encI d)[6]?=some (.i .i64 d[6]):=by rw [F6,E40 (by omega)];rfl
  have e1:(d.drop 6).all M7=M7 d[6]:=by
   rw [E46 (by omega),E5c (by omega)];simp
  have e2:A2v k l s p []=(inI k 2&&(M7 l&&(M7 p&&inI s 34304))):=by
   unfold A2v inI;by_cases a:0<=k<;>by_cases b:k<=2<;>by_cases c:0<=s<;>by_cases f:s<=34304<;>simp [a,b,c,f]
  rw [A98,e1,e2];cases h1:inI k 2 with
  | false=>simp only [esc,esh,Nat.reduceAdd,Nat.reduceMul,Nat.reduceLT,c0,kV,h1,E48,E5Y]
  | true =>
   cases h2:M7 l with
   | false=>simp only [esc,esh,Nat.reduceAdd,Nat.reduceMul,Nat.reduceLT,c0,kV,h1,A0e,h2,E48,E5Y,E5d]
   | true =>
    cases h3:inI s 34304 with
    | false=>simp only [esc,esh,Nat.reduceAdd,Nat.reduceMul,Nat.reduceLT,c0,kV,h1,A0e,h2,h3,E48,E5Y,E5d]
    | true =>
     cases h4:M7 p with
     | false=>simp only [esc,esh,Nat.reduceAdd,Nat.reduceMul,Nat.reduceLT,c0,kV,h1,A0e,h2,h3,h4,E48,E5Y,E5d]
     | true=>simp only [esc,esh,Nat.reduceAdd,Nat.reduceMul,Nat.reduceLT,c0,kV,h1,A0e,h2,h3,h4,l1,E48,Bool.and_true,E5d]
 | e+1,i,m+1,hi,hm=>by
  have ih:=B0T (g:=g) (l:=l) (s:=s) (p:=p) (q:=q) hd hk e (i+1) m (by omega) (by omega);have c0:(i:Int)<6:=by omega
  have a1:J3 6 1 (pV g.length 4) (iV (i:Int))=some (pV g.length (i+1+1+1+1)):=by rw [J4 (by omega)];congr 3;omega
  have l1:(encI d)[i]?=some (.i .i64 d[i]):=by rw [F6,E40 (by omega)];rfl
  rw [A98,E46 (by omega),E5J];cases c1:M7 d[i] with
  | true =>
   simp only [esc,esh,Nat.reduceAdd,Nat.reduceMul,Nat.reduceLT,c0,a1,l1,kV,A0e,c1,E5d,C6 (show i+1<9223372036854775808 by omega)];exact ih
  | false=>simp only [esc,esh,Nat.reduceAdd,Nat.reduceMul,Nat.reduceLT,c0,a1,l1,kV,A0e,c1,E48]
theorem D1W {k l s p:Int} {d:List Int} {h:A6} (hd:d.length=7):B3T [.a (E6 k l s p d)] h=some (bV (A1p k l s p d),h):=by
 have hlen:(E6 k l s p d).length=11:=by simp [A8,hd]
 have key:∀ N,7<N->∀ g,∃ g',B3n N [.a (E6 k l s p d)] g=some (bV (A1p k l s p d),g'):=by
  intro N hN g;rw [C7Q];unfold A1p;by_cases k0:k=0
  ·subst k0;rw [if_pos rfl];have hq:=D5p (k:=0) (l:=l) (s:=s) (p:=p) (k':=0) (l':=0) (s':=0) (p':=0) (neg:=false) hd (G9 (n:=7));simp only [cond_false,D38] at hq;exact ⟨_,by simp only [esc,esh,Nat.reduceAdd,Nat.reduceMul,Nat.reduceLT,hlen,A4h,hq]<;>rfl⟩
  ·rw [if_neg k0];have:=B0T (g:=g) (l:=l) (s:=s) (p:=p) (q:=N) hd k0 6 0 N (by omega) (by omega);have e1:((d.drop 0).all M7&&A2v k l s p [])=A2v k l s p d:=by
    unfold A2v;simp only [E5k,List.all_nil,Bool.and_true];cases d.all M7<;>simp
   rw [e1] at this;exact ⟨_,by simp only [esc,esh,Nat.reduceAdd,Nat.reduceMul,Nat.reduceLT,k0];exact this⟩
 obtain ⟨g',e⟩:=key (h.length+8) (by omega) (ro h);exact C2H e rfl
theorem B0U {g:A6} {k l s p:Int} {d:List Int} {q:Nat} (hd:d.length=7):∀ e i m h id,i+e=6->e<m->Low (g++[rT (E6 k l s p d)]).length (g++[rT (E6 k l s p d)]) h->(g++[rT (E6 k l s p d)]).length<=id->rd h id=rT (A5 (rN k l s p++qZ (d.take i))) ->
  ∃ v' h',C1u q m (pV g.length 0) (sV id 0 (10+2*i) 1) (iV i) h=some (v',h')/\Out g.length h' v' 1 32 (A5 (gA k l s p d))
 | e,i,0,h,id,_,hm,_,_,_=>by omega
 | 0,i,m+1,h,id,hi,hm,hlow,hb,hr=>by
  have e0:i=6:=by omega
  subst e0;have c0:¬ ((6:Nat):Int)<6:=by omega
  have hrow:rd h g.length=rT (E6 k l s p d):=hlow.rd S8;have l1:=B5 (off:=10) (c:=.i .i64 d[6]) hrow (by
   have:(encI d)[6]?=some (.i .i64 d[6]):=by rw [F6,E40 (by omega)];rfl
   exact this) rfl
  have eb:=dB (w:=2) (v:=d[6]) (h:=h) (by omega);rw [show ((2:Nat):Int)=2 from rfl] at eb;have hlen:(A5 (rN k l s p++qZ (d.take 6))).length=(10+2*6)*1:=by rw [A4,E43,fK,kR,E5q];omega
  obtain ⟨h1,a1,a2,a3,a4,a5⟩:=D5Y (ys:=A5 (A9 2 d[6])) (m:=2) (sz:=1) (n:=10+2*6) hlow hr hlen hb (by simp [A4]) (by omega) (by omega);obtain ⟨h2,b1,b2,b3,b4⟩:=E3t (m:=8) (n:=24) a3 a2 (by rw [a5]) a4 (by omega);rw [show ((8:Nat):Int)=8 from rfl] at b1;have eB:A5 (rN k l s p++qZ (d.take 6))++A5 (A9 2 d[6])++A5 (zeros 8)=A5 (gA k l s p d):=by
   rw [<-J9,<-J9];unfold gA;refine congrArg (λx=>A5 (x++zeros 8)) ?_;rw [E45];refine congrArg (rN k l s p ++ ·) ?_;rw [<-B9N,<-E5f (by omega),E5b (by omega)]
  rw [eB] at b2;simp only [Nat.reduceMul,Nat.reduceAdd] at a1 b1;rw [A99];have hg:g.length<=h1.length:=by simp at b4;omega
  exact ⟨_,_,by simp only [esc,c0,l1,eb,Nat.reduceMul,a1,b1]<;>rfl,by rw [A4,kQ hd],_,rfl,hg,b2⟩
 | e+1,i,m+1,h,id,hi,hm,hlow,hb,hr=>by
  have c0:(i:Int)<6:=by omega
  have hrow:rd h g.length=rT (E6 k l s p d):=hlow.rd S8;have ea:J3 6 1 (pV g.length 4) (iV (i:Int))=some (pV g.length (i+1+1+1+1)):=by rw [J4 (by omega)];congr 3;omega
  have l1:=B5 (off:=i+1+1+1+1) (c:=.i .i64 d[i]) hrow (by
   have:(encI d)[i]?=some (.i .i64 d[i]):=by rw [F6,E40 (by omega)];rfl
   exact this) rfl
  have eb:=dB (w:=2) (v:=d[i]) (h:=h) (by omega);rw [show ((2:Nat):Int)=2 from rfl] at eb;have hlen:(A5 (rN k l s p++qZ (d.take i))).length=(10+2*i)*1:=by rw [A4,E43,fK,kR,E5q];omega
  obtain ⟨h1,a1,a2,a3,a4,a5⟩:=D5Y (ys:=A5 (A9 2 d[i])) (m:=2) (sz:=1) (n:=10+2*i) hlow hr hlen hb (by simp [A4]) (by omega) (by omega);have eB:A5 (rN k l s p++qZ (d.take i))++A5 (A9 2 d[i])=A5 (rN k l s p++qZ (d.take (i+1))):=by
   rw [<-J9,E45,<-B9N,<-E5f (by omega)]
  rw [eB] at a2;obtain ⟨v',h',b1,b2⟩:=B0U (q:=q) hd e (i+1) m h1 (h.length+1) (by omega) (by omega) a3 a4 a2;rw [show 10+2*(i+1)=10+2*i+2 by omega] at b1;rw [A99];exact ⟨v',h',by simp only [esc,c0,ea,l1,eb,a1,C6 (show i+1<9223372036854775808 by omega)];exact b1,b2⟩
theorem B7H {k l s p:Int} {d:List Int} {h:A6} (hd:d.length=7):A5S [.a (E6 k l s p d)] h=some (sV h.length 0 32 1,h++[rT (A5 (gA k l s p d))]):=by
 have key:∀ N,7<N->∀ g,∃ v g',B3o N [.a (E6 k l s p d)] g=some (v,g')/\Out g.length g' v 1 32 (A5 (gA k l s p d)):=by
  intro N hN g;have e0:IntKind.wrap .u8 k=((byI k 0).toNat:Int):=by rw [pD,zA];simp
  have ef:D9 [Cell.i .u8 0,.i .u8 0] [(0,1,.c (.i .u8 (byI k 0).toNat)),(1,1,.c (.i .u8 0))]=some (A5 (A9 1 k++zeros 1)):=rfl;have b1:=dB (w:=2) (v:=l) (h:=g++[rT (E6 k l s p d),rT [],rT (A5 (A9 1 k++zeros 1))]) (by omega);have p1:=jX (h:=g++[rT (E6 k l s p d),rT [],rT (A5 (A9 1 k++zeros 1)),rT (A5 (A9 2 l))]) (id:=g.length+2) (jd:=g.length+3) (n:=2) (m:=2) (sz:=1) (cs:=A5 (A9 1 k++zeros 1)) (ys:=A5 (A9 2 l)) (rw:=true) (by simp) (by simp [A4]) (by simp) (by simp [A4]) rfl (by omega) (by omega);have b2:=dB (w:=4) (v:=s) (h:=g++[rT (E6 k l s p d),rT [],none,rT (A5 (A9 2 l)),rT (A5 (A9 1 k++zeros 1)++A5 (A9 2 l))]) (by omega);have p2:=jX (h:=g++[rT (E6 k l s p d),rT [],none,rT (A5 (A9 2 l)),rT (A5 (A9 1 k++zeros 1)++A5 (A9 2 l)),rT (A5 (A9 4 s))]) (id:=g.length+4) (jd:=g.length+5) (n:=4) (m:=4) (sz:=1) (cs:=A5 (A9 1 k++zeros 1)++A5 (A9 2 l)) (ys:=A5 (A9 4 s)) (rw:=true) (by simp) (by simp [A4]) (by simp) (by simp [A4]) rfl (by omega) (by omega);have b3:=dB (w:=2) (v:=p) (h:=g++[rT (E6 k l s p d),rT [],none,rT (A5 (A9 2 l)),none,rT (A5 (A9 4 s)),rT (A5 (A9 1 k++zeros 1)++A5 (A9 2 l)++A5 (A9 4 s))]) (by omega);have p3:=jX (h:=g++[rT (E6 k l s p d),rT [],none,rT (A5 (A9 2 l)),none,rT (A5 (A9 4 s)),rT (A5 (A9 1 k++zeros 1)++A5 (A9 2 l)++A5 (A9 4 s)),rT (A5 (A9 2 p))]) (id:=g.length+6) (jd:=g.length+7) (n:=8) (m:=2) (sz:=1) (cs:=A5 (A9 1 k++zeros 1)++A5 (A9 2 l)++A5 (A9 4 s)) (ys:=A5 (A9 2 p)) (rw:=true) (by simp) (by simp [A4]) (by simp) (by simp [A4]) rfl (by omega) (by omega);have eh:A5 (A9 1 k++zeros 1)++A5 (A9 2 l)++A5 (A9 4 s)++A5 (A9 2 p)=A5 (rN k l s p++qZ (d.take 0)):=by
   rw [<-J9,<-J9,<-J9];simp [rN,qZ]
  rw [eh] at p3;obtain ⟨v',h',f1,f2⟩:=B0U (g:=g) (k:=k) (l:=l) (s:=s) (p:=p) (q:=N) hd 6 0 N (g++[rT (E6 k l s p d),rT [],none,rT (A5 (A9 2 l)),none,rT (A5 (A9 4 s)),none,rT (A5 (A9 2 p)),rT (A5 (rN k l s p++qZ (d.take 0)))]) (g.length+8) (by omega) (by omega)
   (by have:=(Low.refl (h:=g++[rT (E6 k l s p d)]) (E44 _)).new [rT [],none,rT (A5 (A9 2 l)),none,rT (A5 (A9 4 s)),none,rT (A5 (A9 2 p)),rT (A5 (rN k l s p++qZ (d.take 0)))];simpa using this) (by simp) (by simp)
  simp only [esc,E5y] at b1 b2 b3 p1 p2 p3;rw [C7R];exact ⟨v',h',by simp only [esc,esh,Nat.reduceAdd,Nat.reduceMul,Nat.reduceLT,e0,ef,b1,p1,b2,p2,b3,p3];exact f1,f2⟩
 obtain ⟨v,g',e,ho⟩:=key (h.length+8) (by omega) (ro h);exact C4O e (by simpa [E7] using ho) (by simp)
theorem D6m {b:List UInt8} {a w:Nat} (h1:a+w<=b.length) (hw:1<=w) (hw4:w<=4):((atG b a w:Nat):Int)=fieldN b a w:=by
 unfold atG fieldN;rw [if_pos ⟨by omega,N2.2 (by omega)⟩];simp only [E5j]
theorem A41 {v:Val} {nv:Nat} {b:List UInt8} {h:A6} (hv:Has h v 1 nv (A5 b)) (hb:b.length=32) (a w:Nat) (h1:a+w<=32) (hw:1<=w) (hw4:w<=4) :
  A4d [v,iV a,iV w] h=some (iV (fieldN b a w),h):=by
 rw [D0p hv (by omega),D6m (by omega) hw hw4]
theorem B0S {g:A6} {v:Val} {nv:Nat} {b:List UInt8} {k l s p:Int} {z:List Cell} {q:Nat} (hv:Has g v 1 nv (A5 b)) (hb:b.length=32) (hz:z.length=11):∀ e i m:Nat,i+e=6->e<m ->
  C1s q m v (pV g.length 0) (pV (g.length+1) 0) (iV i) (g++[rT z,rT (E6 k l s p ((L5 b).take i++zI (7-i)))]) =
   some (.a (E6 k l s p (L5 b)),g++[rT (E6 k l s p (L5 b)),rT (E6 k l s p (L5 b))])
 | e,i,0,_,hm=>by omega
 | 0,i,m+1,hi,hm=>by
  have e0:i=6:=by omega
  subst e0;have h1':¬ ((6:Nat):Int)<6:=by omega
  have ha:=A41 (hv.more [rT z,rT (E6 k l s p ((L5 b).take 6++zI (7-6)))]) hb 22 2 (by omega) (by omega) (by omega);simp only [E5y] at ha;have ho:(encI ((L5 b).take 6++zI (7-6))).length=7:=by simp [A8,E3,G9]
  have hg6:(L5 b)[6]'(by rw [E3];omega)=fieldN b 22 2:=by
   have:=B1l (b:=b) (i:=6) (by omega);rw [E40 (by rw [E3];omega)] at this;exact Option.some.inj this
  have es:(E6 k l s p ((L5 b).take 6++zI (7-6))).set 10 (.i .i64 (fieldN b 22 2))=E6 k l s p (L5 b):=by
   have h1:=B7a (k:=k) (l:=l) (s:=s) (p:=p) (x:=fieldN b 22 2) (d:=(L5 b).take 6++zI (7-6)) (i:=6);rw [show 4+6=10 from rfl] at h1;rw [h1,<-hg6,zS E3 (by omega)];have:(L5 b).take (6+1)++zI (7-(6+1))=L5 b:=by rw [E5b (by rw [E3];omega)];simp [zI]
   rw [this]
  rw [A97];simp only [esc,esh,Nat.reduceAdd,Nat.reduceMul,Nat.reduceLT,h1',ha,ho,es,hz,A8,E3]
 | e+1,i,m+1,hi,hm=>by
  have ih:=B0S (k:=k) (l:=l) (s:=s) (p:=p) (q:=q) hv hb hz e (i+1) m (by omega) (by omega);have h1':(i:Int)<6:=by omega
  have e2:IntKind.wrap .i64 (2*(i:Int))=((2*i:Nat):Int):=by rw [wrap_i64 (by omega) (by omega)];omega
  have e3:IntKind.wrap .i64 (10+((2*i:Nat):Int))=((10+2*i:Nat):Int):=by rw [wrap_i64 (by omega) (by omega)];omega
  have ha:=A41 (hv.more [rT z,rT (E6 k l s p ((L5 b).take i++zI (7-i)))]) hb (10+2*i) 2 (by omega) (by omega) (by omega);rw [show ((2:Nat):Int)=2 from rfl] at ha;have a1:J3 6 1 (pV (g.length+1) 4) (iV (i:Int))=some (pV (g.length+1) (4+i)):=by rw [J4 (by omega)];simp
  have ho:(encI ((L5 b).take i++zI (7-i))).length=7:=by simp [A8,E3,G9];omega
  have ho2:4+i<11:=by omega
  have hgi:(L5 b)[i]'(by rw [E3];omega)=fieldN b (10+2*i) 2:=by
   have:=B1l (b:=b) (i:=i) (by omega);rw [E40 (by rw [E3];omega)] at this;exact Option.some.inj this
  have es:(E6 k l s p ((L5 b).take i++zI (7-i))).set (4+i) (.i .i64 (fieldN b (10+2*i) 2))=E6 k l s p ((L5 b).take (i+1)++zI (7-(i+1))):=by
   rw [B7a,<-hgi,zS E3 (by omega)]
  rw [A97];simp only [esc,esh,Nat.reduceAdd,Nat.reduceMul,Nat.reduceLT,h1',e2,e3,ha,a1,ho,ho2,es,C6 (show i+1<9223372036854775808 by omega)];exact ih
theorem D1V {v:Val} {nv:Nat} {b:List UInt8} {h:A6} (hv:Has h v 1 nv (A5 b)) (hb:b.length=32):B3S [v] h=some (.a (E6 (pH b) (qW b) (qY b) (qX b) (L5 b)),h):=by
 have key:∀ N,7<N->∀ g,Has g v 1 nv (A5 b)->∃ g',B3m N [v] g=some (.a (E6 (pH b) (qW b) (qY b) (qX b) (L5 b)),g'):=by
  intro N hN g hv;have z11:[o0,o0,o0,o0,o0,o0,o0,o0,o0,o0,o0]=E6 0 0 0 0 (zI 7):=rfl;have l11:(E6 0 0 0 0 (zI 7)).length=11:=rfl;have hv1:=hv.more [rT (E6 0 0 0 0 (zI 7))];have a1:=A41 hv1 hb 0 1 (by omega) (by omega) (by omega);have a2:=A41 hv1 hb 2 2 (by omega) (by omega) (by omega);have a3:=A41 hv1 hb 4 4 (by omega) (by omega) (by omega);have a4:=A41 hv1 hb 8 2 (by omega) (by omega) (by omega);simp only [E5y] at a1 a2 a3 a4;have ef:D9 (E6 0 0 0 0 (zI 7)) [(0,1,iV (fieldN b 0 1)),(1,1,iV (fieldN b 2 2)),(2,1,iV (fieldN b 4 4)),(3,1,iV (fieldN b 8 2))]=some (E6 (pH b) (qW b) (qY b) (qX b) (zI 7)):=rfl;have lf:(E6 (pH b) (qW b) (qY b) (qX b) (zI 7)).length=11:=rfl;have:=B0S (k:=pH b) (l:=qW b) (s:=qY b) (p:=qX b) (z:=E6 0 0 0 0 (zI 7)) (q:=N) hv hb l11 6 0 N (by omega) (by omega);simp only [E5X,E5g,Nat.sub_zero] at this;rw [C7P,z11];generalize E6 0 0 0 0 (zI 7)=y at *;exact ⟨_,by simp only [esc,esh,Nat.reduceAdd,Nat.reduceMul,Nat.reduceLT,a1,a2,a3,a4,ef,l11,lf];exact this⟩
 obtain ⟨g',e⟩:=key (h.length+8) (by omega) (ro h) hv.ro;exact C2G e (by simp)
theorem C7g {v:Val} {nv:Nat} {b:List UInt8} {h:A6} (hv:Has h v 1 nv (A5 b)) (hb:b.length=32):A5R [v] h=some (.t [.a (dF b),.c (.b (iO b))],h):=by
 have key:∀ g,Has g v 1 nv (A5 b)->∃ g',A5p 0 [v] g=some (.t [.a (dF b),.c (.b (iO b))],g'):=by
  intro g hv;have hI:(E6 (pH b) (qW b) (qY b) (qX b) (L5 b)).length=11:=by simp [A8,E3]
  have z11:[o0,o0,o0,o0,o0,o0,o0,o0,o0,o0,o0]=E6 0 0 0 0 (zI 7):=rfl;have l11:(E6 0 0 0 0 (zI 7)).length=11:=rfl;have af:=A4h;rw [z11] at af;have hg:=D1V (hv.more [rT (E6 0 0 0 0 (zI 7))]) hb;have hm:=λh=>D1W (h:=h) (k:=pH b) (l:=qW b) (s:=qY b) (p:=qX b) (d:=L5 b) E3
  have hp:=λh=>B7H (h:=h) (k:=pH b) (l:=qW b) (s:=qY b) (p:=qX b) (d:=L5 b) E3
  have hB:(gA (pH b) (qW b) (qY b) (qX b) (L5 b)).length=32:=kQ E3;rw [C16,z11];unfold dF iO;cases c:A1p (pH b) (qW b) (qY b) (qX b) (L5 b) with
  | false =>
   simp only [c] at hm;generalize E6 0 0 0 0 (zI 7)=y at *;exact ⟨_,by simp only [esc,esh,Nat.reduceAdd,Nat.reduceMul,Nat.reduceLT,hg,hI,l11,hm,af,E48]<;>rfl⟩
  | true =>
   simp only [c] at hm;have hS:=iE (h:=g++[rT (E6 0 0 0 0 (zI 7)),rT (E6 (pH b) (qW b) (qY b) (qX b) (L5 b)),rT (A5 (gA (pH b) (qW b) (qY b) (qX b) (L5 b)))]) (v:=sV (g.length+2) 0 32 1) (nv:=32) (u:=v) (nu:=nv) (l:=gA (pH b) (qW b) (qY b) (qX b) (L5 b)) (r:=b)
    (Has.tr (by simp) (by rw [A4,hB]) (F0 _)) (hv.more _) (by rw [hB];omega)
   generalize E6 0 0 0 0 (zI 7)=y at *;cases c2:decide (gA (pH b) (qW b) (qY b) (qX b) (L5 b)=b) with
   | false =>
    rw [c2] at hS;exact ⟨_,by simp only [esc,esh,Nat.reduceAdd,Nat.reduceMul,Nat.reduceLT,hg,hI,l11,hm,hp,hS,af,E5Y]<;>rfl⟩
   | true =>
    rw [c2] at hS;exact ⟨_,by simp only [esc,esh,Nat.reduceAdd,Nat.reduceMul,Nat.reduceLT,hg,hI,l11,hm,hp,hS,Bool.and_true]<;>rfl⟩
 obtain ⟨g',e⟩:=key (ro h) hv.ro;exact B56 e (by simp [zK])
end Go.Proofs.YtbnkgnfhgbhblaaGreat
namespace Go.Proofs.YtbnkgnfhgbhblaaGreat
open Go Go.Esc
set_option maxRecDepth 100000
noncomputable section
variable (n m m2:Nat) (a0 a1:Val) (h:A6)
def A5b:FD Tryz.prog:=⟨px 0X1784128961e301ac628967c4001b1541201143b9141224631e2a83d651e7f41e3601617c4061a10321023143b911022,[.c (.b true)],[],[.tmp 4],[cal B2j]⟩
def B3q:=A5b.R
def C7T:=mR B3q A5b (tT []) n [a0,a1] h
def C3F:=A5b.K Tryz.func175
def B3V:=A5b.S
theorem C8e:SOk Tryz.prog 175 B3V:=C3F.sok
theorem C4P:pE B3q B3V:=C3F.out
def A5a:FD Tryz.prog:=⟨px 0X11985167a1b1de11a6806686111ac61a201ac4001d11854220135124a1b1de03b3e83542224671e2a83d65287f4283601617c4061b4104241033303b42d9241032,[.c (.b false),.c (.b true)],[],[.cellN 4 11,.tmp 5],[cal C8e,cal C2F]⟩
def B3p:=A5a.R
def C7S:=mR B3p A5a (tT []) n [a0,a1] h
def C3E:=A5a.K Tryz.func107
def B3U:=A5a.S
theorem C8d:SOk Tryz.prog 107 B3U:=C3E.sok
theorem C2I:E5 B3p B3U:=C3E.flat
end
end Go.Proofs.YtbnkgnfhgbhblaaGreat
namespace Go.Proofs.YtbnkgnfhgbhblaaGreat
open Go Go.Esc
theorem D94 {b:List UInt8} {j:Nat}:bN b ((32*j:Nat):Int) 32=dK b j:=by
 unfold bN dK;rw [if_pos (by omega)];rfl
theorem D1Y {x:Val} {n j:Nat} {b:List UInt8} {h:A6} (hv:Has h x 1 n (A5 b)) (hb:b.length=256) (hj:j<8):B3V [x,iV j] h=some (sV h.length 0 32 1,h++[rT (A5 (dK b j))]):=by
 have hR:=pB hb hj;have key:∀ g,Has g x 1 n (A5 b)->∃ v g',B3q 0 [x,iV j] g=some (v,g')/\Out g.length g' v 1 32 (A5 (dK b j)):=by
  intro g hv;have c1:¬ (j:Int)<0:=by omega
  have c2:¬ (7:Int)<j:=by omega
  have w1:IntKind.wrap .i64 (32*(j:Int))=((32*j:Nat):Int):=by rw [wrap_i64 (by omega) (by omega)];omega
  have hC:=A6J (h:=g++[rT []]) (hv.more _) (a:=((32*j:Nat):Int)) (n:=32) (by omega) (by omega);rw [D94,hR] at hC;simp only [esc] at hC;rw [C7T];exact ⟨_,_,by simp only [esc,esh,Nat.reduceAdd,Nat.reduceMul,Nat.reduceLT,c1,c2,w1,hC]<;>rfl,by rw [A4,hR],_,rfl,by omega,by simp⟩
 obtain ⟨v,g',e,ho⟩:=key (ro h) hv.ro;exact C4P e (by simpa [E7] using ho) (by simp)
theorem D1X {x:Val} {n j:Nat} {b:List UInt8} {h:A6} (hv:Has h x 1 n (A5 b)) (hb:b.length=256) (hj:j<8):B3U [x,iV j] h=some (.t [.a (dF (dK b j)),.c (.b (iO (dK b j)))],h):=by
 have key:∀ g,Has g x 1 n (A5 b)->∃ g',B3p 0 [x,iV j] g=some (.t [.a (dF (dK b j)),.c (.b (iO (dK b j)))],g'):=by
  intro g hv;have c1:¬ (j:Int)<0:=by omega
  have c2:¬ (7:Int)<j:=by omega
  have hl:=wO;have wL:=vD (b:=dK b j);rw [C7S,B69];generalize E6 0 0 0 0 (zI 7)=z at *;have hR:=D1Y (h:=g++[rT z]) (hv.more _) hb hj;have hC:=C7g (h:=g++[rT z,rT (A5 (dK b j))]) (v:=sV (g.length+1) 0 32 1) (nv:=32) (b:=dK b j) (Has.tr (by simp) (by rw [A4,pB hb hj]) (F0 _)) (pB hb hj);simp only [esc] at hR;exact ⟨_,by simp only [esc,esh,Nat.reduceAdd,Nat.reduceMul,Nat.reduceLT,c1,c2,hR,hC,hl,wL]<;>rfl⟩
 obtain ⟨g',e⟩:=key (ro h) hv.ro;exact C2I e (by simp [zK])
end Go.Proofs.YtbnkgnfhgbhblaaGreat
namespace Go.Proofs.YtbnkgnfhgbhblaaGreat
open Go Go.Esc
set_option maxRecDepth 100000
noncomputable section
variable (n m m2:Nat) (a0 a1 a2:Val) (h:A6)
def uP:FD Tryz.prog:=⟨px 0X173121831de2833b39332220133121831de02a3e83322224673a2a861e34e7f64e1cb04e364e1f0284e4f6062bc6a29119394232422318807c231de2a42d913a6802e1f69781a16101ac06881648819801b11a5420420133123e31de02a3e833222241627c61c806131820322023302a22d922022,[.c (.b false),.c (.b true)],[.slA 256 1 (.t 12) none none],[.cellN 2 3,.tmp 3],[cal C79]⟩
def A2K:=uP.R
def B76:=mR A2K uP (tT []) n [a0] h
def B1Y:=uP.K Tryz.func14
def A3b:=uP.S
theorem B8Q:SOk Tryz.prog 14 A3b:=B1Y.sok
theorem B32:E5 A2K A3b:=B1Y.flat
def yL:FD Tryz.prog:=⟨px 0X12381b1de581b4d3926122a8029c21b1de3b1a2d914a6803e4b692983c161a211ac480068861a4881983c003d11c1a622012381b1de03b3e8261224632e2a861e45a7f65a1cb05a37e5a36062bc5a2b1183a18760521876043198018c01887123a6812e6802a28697c1c161a201ac6a04e31d391a1918760523b62d9442ed2642042,[.c (.b true)],[.slA 256 1 (.t 31) none none],[.cellN 6 11],[cal C2E,cal C8d]⟩
def A5s:=yL.R
def C2b:=mR A5s yL (tT []) n [a0,a1,a2] h
def B5p:=yL.K Tryz.func48
def A5X:=yL.S
theorem nP:SOk Tryz.prog 48 A5X:=B5p.sok
theorem B59:E5 A5s A5X:=B5p.flat
def A1w:FD Tryz.prog:=⟨px 0X1484129627c61a201ac401e3385412341022ed22122,[.c (.b false)],[],[.tmp 4],[cal A0C]⟩
def A8l:=A1w.R
def C4d:=mR A8l A1w (tT []) n [a0,a1] h
def C0i:=A1w.K Tryz.func176
def A88:=A1w.S
theorem C4T:SOk Tryz.prog 176 A88:=C0i.sok
theorem B8P:E5 A8l A88:=C0i.flat
end
end Go.Proofs.YtbnkgnfhgbhblaaGreat
namespace Go.Proofs.YtbnkgnfhgbhblaaGreat
open Go Go.Esc
theorem D1q {h:A6} {v:Val} {D:Dev} (hv:Has h v 256 D.length (D1 D)) (hD:okD D) {i:Nat} (hi:i<D.length) :
  ∃ a u,D5 256 v (iV (i:Int))=some a/\B4w h 256 1 a none none=some u/\Has h u 1 256 (A5 D[i]):=by
 rcases hv with ⟨_,h0,_⟩ | ⟨id,off,r,rfl,hr,h1,h2,h3,h4⟩
 ·omega
 ·have bO:off+i*256+256*1<=r.cells.length:=by omega
  refine ⟨pV id (off+i*256),sV id (off+i*256) 256 1,C4 hi,?_,?_⟩
  ·simp only [B4w,hr,E49,bound];rw [if_pos ⟨by omega,by omega,bO,D14 h3 h4 (show i*256<D.length*256 by omega) h2⟩];simp
  ·refine Has.part (cs:=r.cells) (rw:=r.rw) hr bO ?_ (F0 _);rw [<-bW hD hi,<-h3,List.drop_take,List.take_take,E5W]
   congr 1
   omega
theorem D75:A90 []=false:=by decide +kernel
theorem A7L {v:Val} {D:Dev} {h:A6} (hv:Has h v 256 D.length (D1 D)) (hD:okD D) :
  A3b [v] h=some (.t [.a (bif A90 D then D3 D.length (D1g D) (D2Y D) else D3 0 0 0),.c (.b (A90 D))],h):=by
 have key:∀ g,Has g v 256 D.length (D1 D)->∃ g',A2K 0 [v] g=some (.t [.a (bif A90 D then D3 D.length (D1g D) (D2Y D) else D3 0 0 0),.c (.b (A90 D))],g'):=by
  intro g hv;have hl:=hv.len;have ef:D9 [o0,o0,.i .u64 0] []=some [o0,o0,.i .u64 0]:=rfl;rw [B76];cases D with
  | nil =>
   rw [D75];have z0:((([]:Dev).length:Nat):Int)=0:=rfl;exact ⟨_,by simp only [esc,esh,Nat.reduceAdd,Nat.reduceMul,Nat.reduceLT,hl,z0,eq_self,ef,D3]<;>rfl⟩
  | cons b E =>
   have h0:0<(b::E).length:=by simp
   have c0:¬ (((b::E).length:Nat):Int)=0:=by omega
   have hv2:=hv.more [rT [o0,o0,.i .u64 0]];obtain ⟨a,u,a1,s1,hu⟩:=D1q hv2 hD h0;have z0:((0:Nat):Int)=0:=rfl;rw [z0] at a1;have hG:=D1T (h:=g++[rT [o0,o0,.i .u64 0]]) hu (hD.at h0);rw [List.getElem_cons_zero] at hG
   clear hu
   have ed:A90 (b::E)=(okS b&&decide (fieldN b 8 2=(((b::E).length:Nat):Int))):=rfl;have en:D1g (b::E)=fieldN b 10 2:=rfl;have em:D2Y (b::E)=fieldN b 12 8:=rfl;rw [ed,en,em];generalize hN:(b::E).length=N at *;cases ho:okS b with
   | false =>
    rw [ho,D5N ho] at hG;unfold D3 at *;exact ⟨_,by simp only [esc,esh,Nat.reduceAdd,Nat.reduceMul,Nat.reduceLT,hl,c0,a1,s1,hG,ef,E48]<;>rfl⟩
   | true =>
    rw [ho,D1A ho] at hG;by_cases c1:fieldN b 8 2=(N:Int)
    ·unfold D3 at *;rw [c1] at hG ⊢;exact ⟨_,by simp only [esc,esh,Nat.reduceAdd,Nat.reduceMul,Nat.reduceLT,hl,c0,a1,s1,hG,ef,eq_self]<;>rfl⟩
    ·unfold D3 at *;exact ⟨_,by simp only [esc,esh,Nat.reduceAdd,Nat.reduceMul,Nat.reduceLT,hl,c0,a1,s1,hG,ef,c1,E5d]<;>rfl⟩
 obtain ⟨g',e⟩:=key (ro h) hv.ro;refine B32 e ?_;cases A90 D<;>rfl
theorem D7x {D:Dev} {n i:Int} (hi:Q7 D.length n i=true):∃ k:Nat,V4 D.length n i=k/\k<D.length:=by
 have h:=hi;unfold Q7 R4 at h;simp only [E42,decide_eq_true_eq] at h;have e:V4 D.length n i=2+(i-1)/8:=by unfold V4;rw [hi];rfl
 refine ⟨(V4 D.length n i).toNat,?_,?_⟩<;>rw [e]<;>omega
theorem rC {v:Val} {D:Dev} {n m i:Int} {h:A6} (hv:Has h v 256 D.length (D1 D)) (hD:okD D):A5X [v,.a (D3 D.length n m),iV i] h=some (.a (A1n D n i),h):=by
 have key:∀ g,Has g v 256 D.length (D1 D)->∃ g',A5s 0 [v,.a (D3 D.length n m),iV i] g=some (.a (A1n D n i),g'):=by
  intro g hv;have hlen:=hv.len;have l3:(D3 D.length n m).length=3:=rfl;have hW:=λh=>C7f (b:=D.length) (n:=n) (m:=m) (i:=i) (h:=h)
  have hf:=B4s;have hl:=wO;rw [C2b,B69];cases hi:Q7 D.length n i with
  | false =>
   have ei:A1n D n i=E6 0 0 0 0 (zI 7):=by unfold A1n;rw [hi];rfl
   rw [ei];simp only [hi] at hW;generalize D3 D.length n m=L at *;generalize E6 0 0 0 0 (zI 7)=z at *;exact ⟨_,by simp only [esc,esh,Nat.reduceAdd,Nat.reduceMul,Nat.reduceLT,l3,hW,hf,hl]<;>rfl⟩
  | true =>
   simp only [hi] at hW;obtain ⟨k,hk,hkl⟩:=D7x hi;have hK:∃ j:Nat,bR D.length n i=j/\j<8:=by
    refine ⟨(bR D.length n i).toNat,?_,?_⟩<;>unfold bR<;>rw [hi,cond_true]<;>omega
   obtain ⟨j,hj,hj8⟩:=hK;have er:dK D[k] j=A72 D n i:=by unfold A72;rw [hj,hk,E5j,B9y hkl]
   have ei:A1n D n i=dF (dK D[k] j):=by unfold A1n;rw [hi,er];rfl
   have wL:=vD (b:=dK D[k] j);have hv2:=hv.more [rT (D3 D.length n m),rT (E6 0 0 0 0 (zI 7))];obtain ⟨a,u,a1,s1,hu⟩:=D1q hv2 hD hkl;have hG:=D1X hu (hD.at hkl) hj8;have c1:¬ ((D.length:Nat):Int)<=(k:Int):=by omega
   simp only [hk,hj] at hW;rw [ei];generalize D3 D.length n m=L at *;generalize E6 0 0 0 0 (zI 7)=z at *;generalize dF (dK D[k] j)=y at *;exact ⟨_,by simp only [esc,esh,Nat.reduceAdd,Nat.reduceMul,Nat.reduceLT,l3,hW,hlen,c1,a1,s1,hG,hl,wL]<;>rfl⟩
 obtain ⟨g',e⟩:=key (ro h) hv.ro;exact B59 e (C6i D n i)
theorem B3a {n:Int} {h:A6}:A86 [iV n] h=some (bV (uA n),h):=by
 refine B8M (n:=0) (h2:=ro h) ?_ rfl;rw [C4b];unfold uA;by_cases c:0<=n
 ·simp only [esc,c,E5d]
 ·simp only [esc,c,E48]
theorem D9R {h:A6} {id n m:Nat} {cs:List Cell} (hr:rd h id=rT cs) (hl:cs.length=n) (hn:n+m<=1073741824) :
  B6z h 1 [.i .u8 0] (sV id 0 n 1) (iV (m:Int))=some (sV h.length 0 (n+m) 1,h.set id none++[rT (cs++A5 (zeros m))]):=by
 have hm:A4V (iV (m:Int))=some m:=by simp only [A4V];rw [if_pos (by omega)];simp
 have hz:=mP m;simp only [B6z,hm,E49,hr,hz];rw [if_pos ⟨trivial,trivial,by omega,trivial,hn⟩]
theorem D0s {d:Int} {t:List Int} {g:A6} {q:Nat} (ht:t.length=32):∀ (e i m:Nat) (h:A6) (id:Nat),i+e=32->e<m->Low (g++[rT (encI (d::t))]).length (g++[rT (encI (d::t))]) h->(g++[rT (encI (d::t))]).length<=id->rd h id=rT (A5 (xS d++rA (t.take i))) ->
  ∃ j h',C1y q m (pV g.length 0) (sV id 0 (32+2*i) 1) (iV (i:Int)) h=some (.t [.c (.sl j 0 (bif (t.drop i).all uA then 256 else 0) 1),.c (.b ((t.drop i).all uA))],h') /\
   Out g.length h' (sV j 0 (bif (t.drop i).all uA then 256 else 0) 1) 1 (bif (t.drop i).all uA then 256 else 0) (A5 (bif (t.drop i).all uA then eZ d t else []))
 | e,i,0,h,id,_,hm,_,_,_=>by omega
 | 0,i,m+1,h,id,hi,hm,hlow,hid,hr=>by
  have e0:i=32:=by omega
  subst e0;have c0:¬ ((32:Nat):Int)<32:=by omega
  have mk:A1m (iV 256) (iV 256)=some 256:=rfl;have rz:=mP 256;have zl:(zeros 256).length=256:=zeros_length;rw [E5b (by omega)] at hr;have hnl:(xS d++rA t).length=96:=by rw [E43,oX,oZ];omega
  have hL:=mO (h:=h++[rT (A5 (zeros 256))]) (v:=sV h.length 0 256 1) (nv:=256) (l:=zeros 256) (u:=sV id 0 (32+2*32) 1) (nu:=32+2*32) (data:=xS d++rA t) (Has.tr (by simp) (by rw [A4];exact zeros_length) (F0 _)) (Has.tr (B6 hr) (by rw [A4,hnl]) (F0 _)) (a:=0) (by omega) (by omega);have eL:A70 (zeros 256) 0 (xS d++rA t)=eZ d t:=by
   have h1:=A0f (l:=zeros 256) (xs:=xS d++rA t) (a:=0) (by omega);have h2:=B0K (l:=[]) (xs:=xS d++rA t) (a:=0) (by simp) (by omega);rw [show ((0:Nat):Int)=0 from rfl] at h1;rw [h1,<-B7x,h2,E5u,E5K,show zeros 0=[] from rfl,E5t,E5g];rfl
  rw [eL,zl] at hL;have P6:=kP (d:=d) ht;rw [B0e,E5c (by omega),List.all_nil];simp only [cond_true];rw [E43] at hid;have hll:=hlow.2.1;rw [E43] at hll;simp only [E5a,E5u] at hll hid;refine ⟨h.length+1,h++[rT (A5 (zeros 256)),rT (A5 (eZ d t))],?_,by rw [A4,P6],_,rfl,by omega,by simp⟩;generalize eZ d t=P at *;generalize zeros 256=z at *;simp only [esc] at hL;simp only [esc,esh,Nat.reduceAdd,Nat.reduceMul,Nat.reduceLT,c0,mk,rz,hL]
 | e+1,i,m+1,h,id,hi,hm,hlow,hid,hr=>by
  have c0:(i:Int)<32:=by omega
  have hrd:rd h g.length=rT (encI (d::t)):=hlow.rd (by simp);have a1:=adX (id:=g.length) (i:=i) (by omega);have l1:=ldX (h:=h) (id:=g.length) hrd ht (i:=i) (by omega);have et:toX t i=t[i]:=by unfold toX;rw [E47,E40 (by omega)];rfl
  rw [et] at l1;have hF:=λh=>B3a (n:=t[i]) (h:=h)
  rw [B0e,E46 (by omega:i<t.length),E5J];have hll:=hlow.2.1;rw [E43] at hll;simp only [E5a,E5u] at hll;cases c:uA t[i] with
  | false =>
   rw [c] at hF;rw [E48];simp only [cond_false];refine ⟨h.length,h++[rT []],?_,rfl,_,rfl,by omega,by simp [A5]⟩;generalize encI (d::t)=y at *;simp only [esc,c0,a1,l1,hF]
  | true =>
   rw [c] at hF;rw [E5d];have hnl:(xS d++rA (t.take i)).length=32+2*i:=by rw [E43,oX,oZ,E5q];omega
   have hb:=λh=>dB (w:=2) (v:=t[i]) (h:=h) (by omega)
   simp only [E5y] at hb;obtain ⟨h1',b1,b2,b3,b4,b5⟩:=D5Y (ys:=A5 (A9 2 t[i])) (m:=2) (sz:=1) (n:=32+2*i) hlow hr (by rw [A4,hnl];omega) hid (by simp [A4]) (by omega) (by omega);rw [<-J9,E45,<-D0e,<-E5f (by omega)] at b2;obtain ⟨j,h',f1,f2⟩:=D0s (q:=q) ht e (i+1) m h1' (h.length+1) (by omega) (by omega) b3 b4 b2;rw [show 32+2*(i+1)=32+2*i+2 by omega] at f1;refine ⟨j,h',?_,f2⟩;generalize encI (d::t)=y at *;simp only [esc,c0,a1,l1,hF,hb,b1,C6 (show i+1<9223372036854775808 by omega)];exact f1
theorem B7I {d:Int} {t:List Int} {h:A6} (ht:t.length=32):B30 [.a (encI (d::t))] h=some (.t [.c (.sl h.length 0 (bif okX d t then 256 else 0) 1),.c (.b (okX d t))],h++[rT (A5 (bif okX d t then eZ d t else []))]):=by
 have key:∀ N,32<N->∀ g,∃ j g',B3u N [.a (encI (d::t))] g=some (.t [.c (.sl j 0 (bif okX d t then 256 else 0) 1),.c (.b (okX d t))],g')/\Out g.length g' (sV j 0 (bif okX d t then 256 else 0) 1) 1 (bif okX d t then 256 else 0) (A5 (bif okX d t then eZ d t else [])):=by
  intro N hN g;have l0:(encI (d::t))[0]?=some (.i .i64 d):=rfl;rw [C7Y];unfold okX;by_cases c1:d<0
  ·rw [decide_eq_false (show ¬ 0<=d by omega),E48];simp only [cond_false];refine ⟨g.length+2,g++[rT (encI (d::t)),rT [],rT []],?_,rfl,_,rfl,by omega,by simp [A5]⟩;generalize encI (d::t)=y at *;simp only [esc,esh,Nat.reduceAdd,Nat.reduceMul,Nat.reduceLT,l0,c1]
  ·rw [decide_eq_true (show 0<=d by omega),E5d];by_cases c2:5<d
   ·rw [decide_eq_false (show ¬ d<=5 by omega),E48];simp only [cond_false];refine ⟨g.length+2,g++[rT (encI (d::t)),rT [],rT []],?_,rfl,_,rfl,by omega,by simp [A5]⟩;generalize encI (d::t)=y at *;simp only [esc,esh,Nat.reduceAdd,Nat.reduceMul,Nat.reduceLT,l0,c1,c2]
   ·rw [decide_eq_true (show d<=5 by omega),E5d];have ef:D9 [Cell.i .u8 0,.i .u8 0,.i .u8 0,.i .u8 0] [(0,1,.c (.i .u8 105)),(1,1,.c (.i .u8 100)),(2,1,.c (.i .u8 120)),(3,1,.c (.i .u8 33))]=some (A5 magX):=rfl;have b0:IntKind.wrap .u8 d=((byI d 0).toNat:Int):=by rw [pD,zA];simp
    have ef1:D9 [Cell.i .u8 0] [(0,1,.c (.i .u8 ((byI d 0).toNat:Int)))]=some (A5 (A9 1 d)):=rfl;have hM:xY (g++[rT (encI (d::t)),rT [],rT (A5 magX)]) (sV (g.length+2) 0 4 1)=some (sV (g.length+2) 0 4 1):=by simp [xY]
    have hA:=jX (h:=g++[rT (encI (d::t)),rT [],rT (A5 magX),rT (A5 (A9 1 d))]) (id:=g.length+2) (jd:=g.length+3) (n:=4) (m:=1) (sz:=1) (cs:=A5 magX) (ys:=A5 (A9 1 d)) (rw:=true) (by simp) rfl (by simp) (by simp [A4]) rfl (by omega) (by omega);simp only [E43,E5a,E5u,E5l,E45,E5x,E5g,rD,E5M,E5L,Nat.reduceAdd,<-J9] at hA;have hZ:=D9R (h:=g++[rT (encI (d::t)),rT [],none,rT (A5 (A9 1 d)),rT (A5 (magX++A9 1 d))]) (id:=g.length+4) (n:=5) (m:=27) (cs:=A5 (magX++A9 1 d)) (by simp) (by rw [A4];simp [magX]) (by omega);simp only [E43,E5a,E5u,E5l,E45,E5x,E5g,rD,E5M,E5L,Nat.reduceAdd,<-J9] at hZ;rw [show ((27:Nat):Int)=27 from rfl] at hZ;obtain ⟨j,g',f1,f2⟩:=D0s (g:=g) (d:=d) (t:=t) (q:=N) ht 32 0 N (g++[rT (encI (d::t)),rT [],none,rT (A5 (A9 1 d)),none,rT (A5 (magX++(A9 1 d++zeros 27)))]) (g.length+5) (by omega) hN
     (by have:=(Low.refl (h:=g++[rT (encI (d::t))]) (E44 _)).new [rT [],none,rT (A5 (A9 1 d)),none,rT (A5 (magX++(A9 1 d++zeros 27)))];simpa using this) (by simp) (by simp [xS,rA])
    rw [E5k] at f1 f2;refine ⟨j,g',?_,f2⟩;generalize magX++(A9 1 d++zeros 27)=P3 at *;generalize magX++A9 1 d=P2 at *;generalize A5 (A9 1 d)=P1 at *;generalize A5 magX=mg at *;generalize encI (d::t)=y at *;simp only [esc,esh,Nat.reduceAdd,Nat.reduceMul,Nat.reduceLT,l0,c1,c2,ef,hM,b0,ef1,hA,hZ];exact f1
 obtain ⟨j,g',e,ho⟩:=key (h.length+33) (by omega) (ro h);exact C2P e (by simpa [E7] using ho) (by simp) rfl
theorem D52 {d:Int} {t:List Int} {ix iz q:Nat} {h:A6} (ht:t.length=32) (hx:rd h ix=rT (encI (d::t))) (hz:rd h iz=rT (encI (0::zI 32))):∀ e i m:Nat,i+e=32->e<m ->
  ∃ h',C1w q m (pV iz 0) (pV ix 0) (iV (i:Int)) h=some (.t [.a (encI (bif A1d t i e then d::t else 0::zI 32)),.c (.b (A1d t i e))],h')
 | e,i,0,_,hm=>by omega
 | 0,i,m+1,hi,hm=>by
  have e0:i=32:=by omega
  subst e0;have c0:¬ ((32:Nat):Int)<32:=by omega
  have hX:=D6 (d:=d) ht;have hZ:(encI (0::zI 32)).length=33:=D6 (d:=0) G9;have s1:=B8 (h:=h) (id:=ix) hx hX;have s2:=storeAll (h:=h) (id:=iz) (xs:=encI (d::t)) hz hZ hX;have s3:=B8 (h:=h.set iz (rT (encI (d::t)))) (id:=iz) (B7 (C5 hz)) hX;have er:A1d t 32 0=true:=rfl;rw [B0c,er,cond_true];generalize encI (d::t)=y at *;exact ⟨_,by simp only [esc,c0,s1,s2,s3]<;>rfl⟩
 | e+1,i,m+1,hi,hm=>by
  obtain ⟨h',ih⟩:=D52 (q:=q) ht hx hz e (i+1) m (by omega) (by omega);have c0:(i:Int)<32:=by omega
  have hZ:(encI (0::zI 32)).length=33:=D6 (d:=0) G9;have a1:=adX (id:=ix) (i:=i) (by omega);have l1:=ldX (h:=h) (id:=ix) hx ht (i:=i) (by omega);have haf:D9 (encI (0::zI 32)) []=some (encI (0::zI 32)):=rfl;have s2:=storeAll (h:=h) (id:=iz) (xs:=encI (0::zI 32)) hz hZ hZ;have s3:=B8 (h:=h.set iz (rT (encI (0::zI 32)))) (id:=iz) (B7 (C5 hz)) hZ;have er:A1d t i (e+1)=(decide (toX t i=0)&&A1d t (i+1) e):=by unfold A1d;rw [List.range'_succ,E5J]
  rw [B0c,er,B01];by_cases c:toX t i=0
  ·rw [decide_eq_true c,E5d];rw [c] at l1;generalize encI (0::zI 32)=z at *;exact ⟨h',by simp only [esc,c0,a1,l1,C6 (show i+1<9223372036854775808 by omega)];exact ih⟩
  ·rw [decide_eq_false c,E48,cond_false];generalize encI (0::zI 32)=z at *;exact ⟨_,by simp only [esc,c0,a1,l1,c,haf,s2,s3]<;>rfl⟩
theorem D61 {d:Int} {t:List Int} (h:okX d t=true):0<=d/\d<=5:=by
 unfold okX at h;simp only [E42,decide_eq_true_eq] at h;exact ⟨h.1,h.2.1⟩
theorem D51 {v:Val} {nv:Nat} {b:List UInt8} {g:A6} {q:Nat} (hb:b.length=256) (hv:Has g v 1 nv (A5 b)) (hq:32<q):∀ e i m:Nat,i+e=32->e<m ->
  ∃ h',C1v q m v (pV g.length 0) (pV (g.length+1) 0) (iV (i:Int)) (g++[rT (encI (0::zI 32)),rT (encI (getD b::N0 b i))]) =
   some (.t [.a (encI (bif T8 b then getD b::N0 b 32 else 0::zI 32)),.c (.b (T8 b))],h')
 | e,i,0,_,hm=>by omega
 | 0,i,m+1,hi,hm=>by
  have e0:i=32:=by omega
  subst e0;have c0:¬ ((32:Nat):Int)<32:=by omega
  have ht:=kM (b:=b) (n:=32) (E44 _);have hX:=D6 (d:=getD b) ht;have hZ:(encI (0::zI 32)).length=33:=D6 (d:=0) G9;have hP:=B7I (d:=getD b) (t:=N0 b 32) (h:=g++[rT (encI (0::zI 32)),rT (encI (getD b::N0 b 32))]) ht;simp only [E43,E5a,E5u,E5l,E45,E5x,E5g] at hP;have haf:D9 (encI (0::zI 32)) []=some (encI (0::zI 32)):=rfl;have C6r:=N8 (getD b);unfold T8;rw [B0b,B01];cases co:okX (getD b) (N0 b 32) with
  | false =>
   rw [co] at hP;simp only [cond_false] at hP;rw [E48,cond_false];generalize encI (0::zI 32)=z at *;generalize encI (getD b::N0 b 32)=y at *;exact ⟨_,by simp only [esc,esh,Nat.reduceAdd,Nat.reduceMul,Nat.reduceLT,c0,hX,hP,haf,hZ]<;>rfl⟩
  | true =>
   rw [co] at hP;simp only [cond_true] at hP;rw [E5d];have P6:=kP (d:=getD b) ht;have l0:(encI (getD b::N0 b 32))[0]?=some (.i .i64 (getD b)):=rfl;have hS:=iE (l:=eZ (getD b) (N0 b 32)) (r:=b) (h:=g++[rT (encI (0::zI 32)),rT (encI (getD b::N0 b 32)),rT (A5 (eZ (getD b) (N0 b 32)))]) (v:=sV (g.length+2) 0 256 1) (u:=v) (nv:=256) (nu:=nv) (Has.row (rw:=true) (by simp) (by rw [A4,P6]) (F0 _)) (hv.more _) (by omega);by_cases ce:eZ (getD b) (N0 b 32)=b
   ·rw [decide_eq_true ce,E5d];rw [decide_eq_true ce] at hS;have hd:=D61 co;have hPw:=λh=>A6K (k:=V1 (getD b)) (h:=h) (by have:=qS (getD b);omega)
    rw [B1g hd.1 hd.2] at hPw;rw [show 2 ^ V1 (getD b)=B9 (getD b) from rfl] at hPw;obtain ⟨h',e⟩:=D52 (d:=getD b) (t:=N0 b 32) (ix:=g.length+1) (iz:=g.length) (q:=q) (h:=g++[rT (encI (0::zI 32)),rT (encI (getD b::N0 b 32)),rT (A5 (eZ (getD b) (N0 b 32)))]) ht (by simp) (by simp) (32-B9 (getD b)) (B9 (getD b)) q (by omega) (by omega);refine ⟨h',?_⟩;generalize A1d (N0 b 32) (B9 (getD b)) (32-B9 (getD b))=R at *;generalize encI (getD b::N0 b 32)=Y at *;generalize eZ (getD b) (N0 b 32)=I at *;generalize encI (0::zI 32)=z at *;simp only [esc,esh,Nat.reduceAdd,Nat.reduceMul,Nat.reduceLT,c0,hX,hP,hS,l0,hPw];exact e
   ·rw [decide_eq_false ce,E48,cond_false];rw [decide_eq_false ce] at hS;generalize eZ (getD b) (N0 b 32)=I at *;generalize encI (0::zI 32)=z at *;generalize encI (getD b::N0 b 32)=y at *;exact ⟨_,by simp only [esc,esh,Nat.reduceAdd,Nat.reduceMul,Nat.reduceLT,c0,hX,hP,hS,haf,hZ]<;>rfl⟩
 | e+1,i,m+1,hi,hm=>by
  obtain ⟨h',ih⟩:=D51 (q:=q) hb hv hq e (i+1) m (by omega) (by omega);have c0:(i:Int)<32:=by omega
  have ht:=kM (b:=b) (n:=i) (by omega);have hX:=D6 (d:=getD b) ht;have hA:=λl=>pC (hv.more l) hb (a:=((32+2*i:Nat):Int)) (w:=2)
  have ea:=D1c (b:=b) (a:=32+2*i) (w:=2) (by omega) (by omega) (by omega);rw [show ((2:Nat):Int)=2 from rfl] at ea;rw [ea] at hA;have w1:IntKind.wrap .i64 (2*(i:Int))=((2*i:Nat):Int):=by rw [wrap_i64 (by omega) (by omega)];omega
  have w2:IntKind.wrap .i64 (32+((2*i:Nat):Int))=((32+2*i:Nat):Int):=by rw [wrap_i64 (by omega) (by omega)];omega
  have a1:=adX (id:=g.length+1) (i:=i) (by omega);have hs:(encI (getD b::N0 b i)).set (1+i) (.i .i64 (fieldN b (32+2*i) 2))=encI (getD b::N0 b (i+1)):=by rw [B6M,C90 (by omega)];rfl
  have U8:1+i<(encI (getD b::N0 b i)).length:=by rw [hX];omega
  rw [B0b];generalize T8 b=G at *;generalize getD b::N0 b 32=Y at *;generalize encI (getD b::N0 b (i+1))=y1 at *;generalize encI (getD b::N0 b i)=y at *;generalize encI (0::zI 32)=z at *;refine ⟨h',?_⟩;simp only [esc,esh,Nat.reduceAdd,Nat.reduceMul,Nat.reduceLT,c0,w1,w2,hA,a1,U8,hs,C6 (show i+1<9223372036854775808 by omega)];exact ih
theorem D11 {v:Val} {nv:Nat} {b:List UInt8} {h:A6} (hb:b.length=256) (hv:Has h v 1 nv (A5 b)):B3Z [v] h=some (.t [.a (encI (bif T8 b then getD b::N0 b 32 else 0::zI 32)),.c (.b (T8 b))],h):=by
 have key:∀ N,32<N->∀ g,Has g v 1 nv (A5 b)->∃ g',B3t N [v] g=some (.t [.a (encI (bif T8 b then getD b::N0 b 32 else 0::zI 32)),.c (.b (T8 b))],g'):=by
  intro N hN g hv;have hZ:(encI (0::zI 32)).length=33:=D6 (d:=0) G9;have hA:=λl=>pC (hv.more l) hb (a:=4) (w:=1)
  have ea:=D1c (b:=b) (a:=4) (w:=1) (by omega) (by omega) (by omega);rw [show ((4:Nat):Int)=4 from rfl,show ((1:Nat):Int)=1 from rfl] at ea;rw [ea] at hA;have ef:D9 (encI (0::zI 32)) [(0,1,iV (fieldN b 4 1))]=some (encI (getD b::N0 b 0)):=by
   have e1:(0+1<=(encI (0::zI 32)).length):=by rw [hZ];omega
   simp only [D9,cells?];rw [if_pos ⟨rfl,e1⟩];rfl
  have hX:=D6 (d:=getD b) (kM (b:=b) (n:=0) (by omega));obtain ⟨h',e⟩:=D51 (g:=g) (q:=N) hb hv hN 32 0 N (by omega) hN;rw [C7W,B01];generalize T8 b=G at *;generalize getD b::N0 b 32=Y at *;generalize encI (getD b::N0 b 0)=y at *;generalize encI (0::zI 32)=z at *;exact ⟨h',by simp only [esc,esh,Nat.reduceAdd,Nat.reduceMul,Nat.reduceLT,hZ,hA,ef,hX];exact e⟩
 obtain ⟨g',e⟩:=key (h.length+33) (by omega) (ro h) hv.ro;refine C2N e ?_;cases T8 b<;>simp
theorem D8G:∀ {l m:List UInt8},l.length=m.length->le l=le m->l=m
 | [],[],_,_=>rfl
 | [],_::_,h,_=>by simp at h
 | _::_,[],h,_=>by simp at h
 | x::r,y::s,h,e=>by
  have h1:=x.toNat_lt;have h2:=y.toNat_lt;simp only [le] at e;have e1:x.toNat=y.toNat:=by omega
  have e2:le r=le s:=by omega
  rw [UInt8.toNat_inj.1 e1,D8G (by simpa using h) e2]
theorem D7V {b:List UInt8} {i:Nat} (hb:b.length=256) (hi:i<128):A9 2 (ptP b i)=(b.drop (2*i)).take 2:=by
 have hr:=D69 b i;refine D8G (by simp;omega) ?_;have h1:=C98 2 (ptP b i);have h2:ptP b i%256 ^ 2=ptP b i:=Int.emod_eq_of_lt hr.1 (by omega);rw [h2] at h1;have h3:ptP b i=((le ((b.drop (2*i)).take 2):Nat):Int):=rfl;omega
def aK (b:List UInt8):Nat->List Int
 | 0=>[]
 | i+1=>aK b i++[ptP b i]
theorem qV {b:List UInt8}:∀ i,(aK b i).length=i
 | 0=>rfl
 | i+1=>by rw [aK,E43,qV i];rfl
theorem C1z {b:List UInt8} (hb:b.length=256):∀ i,i<=128->mX (aK b i)=b.take (2*i)
 | 0,_=>by simp [aK,mX]
 | i+1,h=>by
  rw [aK,C6Y,C1z hb i (by omega),D7V hb (by omega),show 2*(i+1)=2*i+2 by omega,List.take_add]
theorem D6F {b:List UInt8} (hb:b.length=256):N9 256 (mX (aK b 128))=b:=by
 rw [C1z hb 128 (by omega),E5b (by omega)];unfold N9;rw [hb,E5K,show zeros 0=[] from rfl,E5t]
theorem B1k {b:List UInt8}:∀ n,aK b n=(E5v n).map (ptP b)
 | 0=>rfl
 | n+1=>by rw [aK,B1k n,List.range_succ,E5T];rfl
theorem C6G {l xs:List UInt8} {a c n:Nat} (h:a+xs.length<=l.length) (hd:c+n<=a\/a+xs.length<=c):((I6 l a xs).drop c).take n=(l.drop c).take n:=by
 apply List.ext_getElem?;intro j;by_cases hj:j<n
 ·rw [E5B hj,E5B hj,E5R,E5R,D8D h,if_neg (by omega)]
 ·rw [E5C (by simp;omega),E5C (by simp;omega)]
theorem D9E {b:List UInt8} {n:Nat} {v:Int} (hn:n<128):gT b ((2*n:Nat):Int) 2 v=I6 b (2*n) (A9 2 v):=by
 unfold gT;rw [if_pos ⟨by omega,N2.2 (by omega)⟩,E5j];rfl
theorem C3p {b:List UInt8} {n i:Nat} {v:Int} (hb:b.length=256) (hn:n<128) (hi:i<128):ptP (I6 b (2*n) (A9 2 v)) i=if i=n then v%65536 else ptP b i:=by
 unfold ptP fieldN;by_cases c:i=n
 ·subst c;rw [if_pos rfl];have:=D8C (l:=b) (xs:=A9 2 v) (a:=2*i) (by simp;omega);rw [O7] at this;rw [this,C98];rfl
 ·rw [if_neg c,C6G (by simp;omega) (by simp;omega)]
end Go.Proofs.YtbnkgnfhgbhblaaGreat
namespace Go.Proofs.YtbnkgnfhgbhblaaGreat
open Go Go.Esc
set_option maxRecDepth 100000
noncomputable section
variable (n m m2:Nat) (a0 x0 x3 x4:Val) (h:A6)
def dR:FD Tryz.prog:=⟨px 0X1188216e281221248415607c1e713187c3163a13cc61011113fc1961e301ac61967c3e0003a19118181543033070241889617c60264304243033430306051014303231313b813022123b91012,[],[],[.tmp 2],[cal qD]⟩
def A0s:=dR.R
def A7q:AtH:=dR.lj 0 n [m] [x0,x3,x4]
def A9B:=tT [⟨2,3,A7q⟩]
def B5I:=mR A0s dR A9B n [a0] h
def A03:=mL dR A9B 0 n [m] [x0,x3,x4] h
def A75:=dR.K Tryz.func110
def A0E:=dR.S
theorem B58:SOk Tryz.prog 110 A0E:=A75.sok
theorem B31:pE A0s A0E:=A75.out
def lQ:FD Tryz.prog:=⟨px 0X11ac21611a311ac1c028892889172b5bd421258415607c2e1913181983163e13cc619201ac64c861c61a11984e0004a1b1191815430330702461e17c61c800604184304243033430306051014303231313b813022123b91012,[],[],[.tmp 2],[cal gI,cal iD]⟩
def A5r:=lQ.R
def B2L:AtH:=lQ.lj 0 n [m] [x0,x3,x4]
def B6v:=tT [⟨2,3,B2L⟩]
def C2a:=mR A5r lQ B6v n [a0] h
def A4E:=mL lQ B6v 0 n [m] [x0,x3,x4] h
def B5o:=lQ.K Tryz.func113
def A5W:=lQ.S
theorem C2Q:SOk Tryz.prog 113 A5W:=B5o.sok
theorem B8O:pE A5r A5W:=B5o.out
end
end Go.Proofs.YtbnkgnfhgbhblaaGreat
namespace Go.Proofs.YtbnkgnfhgbhblaaGreat
open Go Go.Esc
theorem pD {a:Int}:IntKind.wrap .u8 a=a%256:=by
 simp only [IntKind.wrap,IntKind.bits,IntKind.signed,E48];rfl
theorem C5F {v:Val} {nv:Nat} {l:List Int} {g:A6} {q:Nat} (hv:Has g v 1 nv (encI l)) (hn:l.length=nv) (hl:nv<=128):∀ (e i m:Nat) (h:A6) (id:Nat),i+e=nv->e<m->Low g.length g h->g.length<=id->rd h id=rT (A5 (mX (l.take i))) ->
  ∃ w h',B2L q m v (sV id 0 (2*i) 1) (iV i) h=some (w,h')/\Out g.length h' w 1 256 (A5 (N9 256 (mX l)))
 | e,i,0,h,id,_,hm,_,_,_=>by omega
 | 0,i,m+1,h,id,hi,hm,hlow,hid,hr=>by
  have e0:i=nv:=by omega
  subst e0;have c0:¬ (i:Int)<i:=by omega
  have hlen:=hv.len;have mk:A1m (iV 256) (iV 256)=some 256:=rfl;have rz:=mP 256;have zl:(zeros 256).length=256:=zeros_length;rw [E5b (by omega)] at hr;have hnl:(mX l).length=2*i:=by rw [B7u];omega
  have hL:=mO (h:=h++[rT (A5 (zeros 256))]) (v:=sV h.length 0 256 1) (nv:=256) (l:=zeros 256) (u:=sV id 0 (2*i) 1) (nu:=2*i) (data:=mX l) (Has.tr (by simp) (by rw [A4];exact zeros_length) (F0 _)) (Has.tr (B6 hr) (by rw [A4,hnl];omega) (F0 _)) (a:=0) (by omega) (by omega);have eL:A70 (zeros 256) 0 (mX l)=N9 256 (mX l):=by
   have h1:=A0f (l:=zeros 256) (xs:=mX l) (a:=0) (by omega);have h2:=B0K (l:=[]) (xs:=mX l) (a:=0) (by simp) (by omega);rw [show ((0:Nat):Int)=0 from rfl] at h1;rw [h1,<-B7x,h2,E5u,E5K,show zeros 0=[] from rfl,E5t,E5g]
  rw [eL,zl] at hL;have hp:(A5 (N9 256 (mX l))).length=256:=by rw [A4,F7 (by omega)]
  rw [A4E];generalize N9 256 (mX l)=P at *;generalize zeros 256=z at *;simp only [esc] at hL;exact ⟨_,_,by simp only [esc,esh,Nat.reduceAdd,Nat.reduceMul,Nat.reduceLT,hlen,c0,mk,rz,hL]<;>rfl,by omega,_,rfl,by have:=hlow.2.1;omega,by simp⟩
 | e+1,i,m+1,h,id,hi,hm,hlow,hid,hr=>by
  obtain ⟨jd,off,ev,hjd,h1,h2⟩:=(hv.since hlow).sl (by omega);have hlen:=hv.len;have c0:(i:Int)<nv:=by omega
  have hx:=h1 i (.i .i64 l[i]) (by rw [F6,E40 (by omega)];rfl);have eb:D5 1 v (iV (i:Int))=some (pV jd (off+i)):=by rw [ev,C4 (by omega)];simp
  have hb:=λh=>dB (w:=2) (v:=l[i]) (h:=h) (by omega)
  have hnl:(mX (l.take i)).length=2*i:=by rw [B7u,E5q];omega
  obtain ⟨h1',a1,a2,a3,a4,a5⟩:=D5Y (ys:=A5 (A9 2 l[i])) (m:=2) (sz:=1) (n:=2*i) hlow hr (by rw [A4,hnl];omega) hid (by simp [A4]) (by omega) (by omega);rw [<-J9,<-C6Y,<-E5f (by omega)] at a2;obtain ⟨w,h',f1,f2⟩:=C5F (q:=q) hv hn hl e (i+1) m h1' (h.length+1) (by omega) (by omega) a3 a4 a2;rw [show 2*(i+1)=2*i+2 by omega] at f1;simp only [E5y] at hb;rw [A4E];refine ⟨w,h',?_,f2⟩;simp only [esc,hlen,c0,eb,hx,hb,a1,C6 (show i+1<9223372036854775808 by omega)];exact f1
theorem C7i {v:Val} {nv:Nat} {l:List Int} {h:A6} (hv:Has h v 1 nv (encI l)) (hl:nv<=128):A5W [v] h=some (sV h.length 0 256 1,h++[rT (A5 (N9 256 (mX l)))]):=by
 have hn:l.length=nv:=by simpa [A8] using hv.length
 have key:∀ N,nv<N->∀ g,Has g v 1 nv (encI l)->∃ w g',A5r N [v] g=some (w,g')/\Out g.length g' w 1 256 (A5 (N9 256 (mX l))):=by
  intro N hN g hv;obtain ⟨w,g',f1,f2⟩:=C5F (g:=g) (q:=N) hv hn hl nv 0 N (g++[rT [],rT []]) (g.length+1) (by omega) (by omega) ((Low.refl (E44 _)).new _) (by omega) (by simp [mX,A5]);rw [C2a];exact ⟨w,g',by simp only [esc,esh,Nat.reduceAdd,Nat.reduceMul,Nat.reduceLT];exact f1,f2⟩
 obtain ⟨w,g',e,ho⟩:=key (nv+1) (by omega) (ro h) hv.ro;exact B8O e (by simpa [E7] using ho) (by simp)
theorem B28 {v:Val} {nv:Nat} {b:List UInt8} {g:A6} {q:Nat} (hv:Has g v 1 nv (A5 b)) (hb:b.length=256):∀ (e i m:Nat) (h:A6) (id:Nat),i+e=128->e<m->Low g.length g h->g.length<=id->rd h id=rT (encI (aK b i)) ->
  ∃ v2 h',A7q q m v (sV id 0 i 1) (iV (i:Int)) h=some (v2,h')/\Out g.length h' v2 1 128 (encI (aK b 128))
 | e,i,0,h,id,_,hm,_,_,_=>by omega
 | 0,i,m+1,h,id,hi,hm,hlow,hid,hr=>by
  have e0:i=128:=by omega
  subst e0;have c0:¬ ((128:Nat):Int)<128:=by omega
  rw [A03];exact ⟨_,_,by simp only [esc,c0]<;>rfl,by rw [A8,qV],_,rfl,hid,hr⟩
 | e+1,i,m+1,h,id,hi,hm,hlow,hid,hr=>by
  have c0:(i:Int)<128:=by omega
  have hA:=pC (hv.since hlow) (a:=((2*i:Nat):Int)) (w:=2) hb;rw [E1b hb (by omega)] at hA;obtain ⟨h1,a1,a2,a3,a4,a5⟩:=push (ys:=[.i .i64 (ptP b i)]) (sz:=1) (n:=i) hlow hr (by rw [A8,qV];omega) hid rfl (by omega) (by omega);have he:encI (aK b i)++[.i .i64 (ptP b i)]=encI (aK b (i+1)):=by rw [aK];simp [encI]
  rw [he] at a2;obtain ⟨v2,h',f1,f2⟩:=B28 (q:=q) hv hb e (i+1) m h1 (h.length+1) (by omega) (by omega) a3 a4 a2;have ef:D9 [o0] [(0,1,iV (ptP b i))]=some [.i .i64 (ptP b i)]:=rfl;rw [A03];refine ⟨v2,h',?_,f2⟩;simp only [esc,c0,D5j (show i<128 by omega),hA,ef,a1,C6 (show i+1<9223372036854775808 by omega)];exact f1
theorem B9W {v:Val} {nv:Nat} {b:List UInt8} {h:A6} (hv:Has h v 1 nv (A5 b)) (hb:b.length=256):A0E [v] h=some (sV h.length 0 128 1,h++[rT (encI (aK b 128))]):=by
 have key:∀ N,128<N->∀ g,Has g v 1 nv (A5 b)->∃ v2 g',A0s N [v] g=some (v2,g')/\Out g.length g' v2 1 128 (encI (aK b 128)):=by
  intro N hN g hv;obtain ⟨v2,g',f1,f2⟩:=B28 (q:=N) hv hb 128 0 N ((g++[rT []])++[rT []]) (g.length+1) (by omega) hN (((Low.refl (E44 _)).new _).new _) (by omega) (by simp [aK,encI]);rw [B5I];refine ⟨v2,g',?_,f2⟩;simpa using f1
 obtain ⟨v2,g',e,ho⟩:=key (h.length+129) (by omega) (ro h) hv.ro;exact B31 e (by simpa [E7] using ho) (by simp)
end Go.Proofs.YtbnkgnfhgbhblaaGreat
namespace Go.Proofs.YtbnkgnfhgbhblaaGreat
open Go Go.Esc
set_option maxRecDepth 100000
noncomputable section
variable (n m m2:Nat) (a0 a1:Val) (h:A6)
def yM:FD Tryz.prog:=⟨px 0X118c41068861a4881984001e15412016c4128892889175bc241224632e2a861e41e7f61e1cb01e341e3601617c40181c10321023143b911022,[.c (.b true)],[.slA 256 1 (.t 16) none none],[.tmp 4],[]⟩
def yT:=yM.R
def A64:=mR yT yM (tT []) n [a0,a1] h
def A5f:=yM.K Tryz.func111
def qE:=yM.S
theorem nR:SOk Tryz.prog 111 qE:=A5f.sok
theorem B8R:E1u yT qE:=A5f.low
theorem B8S:pE yT qE:=A5f.out
end
end Go.Proofs.YtbnkgnfhgbhblaaGreat
namespace Go.Proofs.YtbnkgnfhgbhblaaGreat
open Go Go.Esc
section
theorem D2A {b n i:Int}:decide (sE b n i=4)=iP b n i:=by
 unfold iP sE kI rQ A1i;cases c:R4 b n with
 | false =>
  rw [if_neg (by simp),E48,E48];rfl
 | true =>
  have h:=c;unfold R4 at h;simp only [E42,decide_eq_true_eq] at h;simp only [cond_true,E5d,true_and];by_cases c1:2+n/8<=i
  ·by_cases c2:i<b
   ·rw [if_pos (by omega),if_neg (by omega),if_neg (by omega),decide_eq_true c1,decide_eq_true c2];rfl
   ·rw [if_neg (by omega),decide_eq_true c1,decide_eq_false c2];rfl
  ·rw [decide_eq_false c1,E48];split
   ·split
    ·exact decide_eq_false (by omega)
    ·rw [if_pos (by omega)];rfl
   ·rfl
theorem C8X {b n m i:Int} {h:A6}:A88 [.a (D3 b n m),iV i] h=some (bV (iP b n i),h):=by
 have key:∀ g,∃ g',A8l 0 [.a (D3 b n m),iV i] g=some (bV (iP b n i),g'):=by
  intro g;have l3:(D3 b n m).length=3:=rfl;have hA:=λh=>A3S (b:=b) (n:=n) (m:=m) (no:=i) (h:=h)
  rw [C4d,<-D2A];generalize D3 b n m=L at *;exact ⟨_,by simp only [esc,esh,Nat.reduceAdd,Nat.reduceMul,Nat.reduceLT,l3,hA]<;>rfl⟩
 obtain ⟨g',e⟩:=key (ro h);exact B8P e rfl
theorem C7j {h:A6} {v:Val} {D:Dev} (hv:Has h v 256 D.length (D1 D)) (hD:okD D) {i:Nat} (hi:i<D.length):∃ u,qE [v,iV (i:Int)] h=some (u,h)/\Has h u 1 256 (A5 D[i]):=by
 have hlen:=hv.len;rcases hv with ⟨_,h0,_⟩ | ⟨id,off,r,rfl,hr,h1,h2,h3,h4⟩
 ·omega
 ·have bO:off+i*256+256*1<=r.cells.length:=by omega
  have U8:=C5 hr;refine ⟨sV id (off+i*256) 256 1,?_,?_⟩
  ·have c1:¬ (i:Int)<0:=by omega
   have c2:¬ ((D.length:Nat):Int)<=(i:Int):=by omega
   have a1:D5 256 (sV id off D.length 256) (iV (i:Int))=some (pV id (off+i*256)):=C4 hi;have zN:rd (ro h++[rT []]) id=some ⟨r.dim,false⟩:=B6 (by rw [D0n,hr];rfl);have E4K:=D14 h3 h4 (show i*256<D.length*256 by omega) h2;have E24:r.dim=r.cells:=by
    unfold Row.dim;cases hh:r.head with
    | false=>rfl
    | true =>
     exfalso;have wN:r.cells[off+i*256]?=some r.cells[off+i*256]:=E40 (by omega);have hxx:=Row.head_isX hh _ (E5s wN);have h5:=List.all_eq_true.1 h4 r.cells[off+i*256] (by
      rw [<-h3];have:((r.cells.drop off).take (D.length*256))[i*256]?=some r.cells[off+i*256]:=by rw [E5B (by omega),E5R];exact wN
      exact E5s this)
     rw [hxx] at h5;cases h5
   have hdl:r.dim.length=r.cells.length:=by rw [E24]
   have E4o:((false:Bool)||(r.dim[off+i*256]?).any λc=>!c.isX)=true:=by
    rw [E24,Bool.false_or];have wN:r.cells[off+i*256]?=some r.cells[off+i*256]:=E40 (by omega);have h5:=List.all_eq_true.1 h4 r.cells[off+i*256] (by
      rw [<-h3];have:((r.cells.drop off).take (D.length*256))[i*256]?=some r.cells[off+i*256]:=by rw [E5B (by omega),E5R];exact wN
      exact E5s this)
    rw [wN];simp only [Option.any_some,h5]
   have s1:B4w (ro h++[rT []]) 256 1 (pV id (off+i*256)) none none=some (sV id (off+i*256) 256 1):=by
    simp only [B4w,zN,E49,bound];rw [if_pos ⟨by omega,by omega,by rw [hdl];exact bO,E4o⟩];simp
   refine B8R (n:=0) (h2:=ro h++[rT []]) ?_ (by simp [Val.low,Cell.low,U8]);rw [A64];simp only [Q5,A0S,c1,decide_false,E1e,hlen,C5s,c2,D5w,cond_false,C50,a1,s1]
  ·refine Has.part (cs:=r.cells) (rw:=r.rw) hr bO ?_ (F0 _);rw [<-bW hD hi,<-h3,List.drop_take,List.take_take,E5W]
   congr 1
   omega
section
variable {v:Val} {D:Dev} {n m k l s p:Int} {d:List Int} {h:A6}
end
end
def C8w (D:Dev) (n i:Int):Bool:=Q7 D.length n i&&iO (A72 D n i)
def lnV (D:Dev) (n i:Int):Int:=bif C8w D n i then qW (A72 D n i) else 0
def szV (D:Dev) (n i:Int):Int:=bif C8w D n i then qY (A72 D n i) else 0
def paV (D:Dev) (n i:Int):Int:=bif C8w D n i then qX (A72 D n i) else 0
def drV (D:Dev) (n i:Int):List Int:=bif C8w D n i then L5 (A72 D n i) else zI 7
theorem tR {D:Dev} {n i:Int}:(drV D n i).length=7:=by
 unfold drV;cases C8w D n i with
 | false=>exact G9
 | true=>exact E3
theorem E0j {D:Dev} {n i:Int}:kdV D n i=bif C8w D n i then pH (A72 D n i) else 0:=by
 unfold kdV C8w;cases Q7 D.length n i<;>rfl
theorem A6B (D:Dev) (n i:Int):A1n D n i=E6 (kdV D n i) (lnV D n i) (szV D n i) (paV D n i) (drV D n i):=by
 rw [E0j];unfold A1n lnV szV paV drV C8w;cases Q7 D.length n i with
 | false=>rfl
 | true =>
  rw [E5d,cond_true];unfold dF;cases iO (A72 D n i)<;>rfl
theorem D4E {D:Dev} {n i:Int} (h:kdV D n i≠0):R4 D.length n=true/\1<=i/\i<=n:=by
 rw [<-kT];unfold kdV at h;cases hi:Q7 D.length n i with
 | false=>rw [hi] at h;exact absurd rfl h
 | true=>rfl
theorem B7L {R:List Int} (hn:R.Nodup) (hr:∀ a∈R,1<=a/\a<=128):R.length<=128:=by
 have:(R.map Int.toNat).Nodup:=by
  rw [List.Nodup,List.pairwise_map];refine hn.imp_of_mem λ{a b} ha hb hab e=>?_
  have:=hr a ha;have:=hr b hb;omega
 have hs:∀ x∈R.map Int.toNat,x∈E5D 1 128:=by
  intro x hx;rw [List.mem_map] at hx;obtain ⟨a,ha,rfl⟩:=hx;have:=hr a ha;rw [List.mem_range'_1];omega
 have:=List.Nodup.length_le_of_subset this hs;simpa using this
theorem B1i {l:List Ent}:(U2 l).length=l.length*2:=by
 induction l with
 | nil=>rfl
 | cons x l ih=>simp only [U2,E50,List.flatten_cons,E43,E5a,V3,E5u] at ih ⊢;omega
theorem D4t {l:List Ent}:N7 (U2 l)=true:=by
 induction l with
 | nil=>rfl
 | cons x l ih =>
  have:U2 (x::l)=V3 (some x)++U2 l:=rfl;rw [this,zJ,ih];rfl
theorem D6y {l:List Ent}:noX (U2 l)=true:=by
 induction l with
 | nil=>rfl
 | cons x l ih =>
  have:U2 (x::l)=[.s x.1,.i .i64 x.2]++U2 l:=rfl;rw [this];simp [noX,Cell.isX] at ih ⊢;exact ih
theorem D6z {h:A6} {y:Cell} {l:List Ent} (hy:Has h (.c y) 2 l.length (U2 l)) {i:Nat} (hi:i<l.length):∃ a,D5 2 (.c y) (.c (.i .i64 (i:Int)))=some a/\C8 h 2 a=some (.a (V3 (some l[i]))):=by
 obtain ⟨id,off,e,hid,_,hB⟩:=hy.sl (by omega);cases e;refine ⟨.c (.p id (off+i*2)),C4 hi,?_⟩;rw [hB (i*2) 2 (by rw [B1i];omega),B6O l i hi]
theorem E2H {h:A6} {x:Ent}:E1 (h++[rT [.s [],o0]]) 2 (.c (.p h.length 0)) (.a (V3 (some x)))=some (h++[rT (V3 (some x))]):=by rw [J1];rfl
def HeldX (h:A6) (x:Cell) (cs:List Cell) (n sz r:Nat):Prop:=(n=0/\cs=[]/\x=.ns)\/∃ id,x=.sl id 0 n sz/\rd h id=rT cs/\cs.length=n*sz/\id≠r
theorem HeldX.keep {h h':A6} {x:Cell} {cs:List Cell} {n sz r:Nat} (hx:HeldX h x cs n sz r) (hk:∀ id m,x=.sl id 0 m sz->rd h' id=rd h id):HeldX h' x cs n sz r:=by
 rcases hx with hx | ⟨id,e,hr,hl,T5⟩
 ·exact .inl hx
 ·exact .inr ⟨id,e,by rw [hk id n e];exact hr,hl,T5⟩
theorem E2V {h:A6} {x:Cell} {cs0 cs ys:List Cell} {r off n sz:Nat} (hr:rd h r=rT cs0) (hx:cs0[off]?=some x) (hd:HeldX h x cs n sz r) (hl:n<=100000) (hy:ys.length=sz) (hsz:0<sz) :
  ∃ id h2 h3,B4 h (pV r off)=some (.c x)/\jK (h++[rT ys]) sz (.c x) (sV h.length 0 1 sz)=some (sV id 0 (n+1) sz,h2)/\F9 h2 (pV r off) (sV id 0 (n+1) sz)=some h3 /\
   rd h3 r=rT (cs0.set off (.sl id 0 (n+1) sz))/\h.length<id/\rd h3 id=rT (cs++ys)/\(cs++ys).length=(n+1)*sz/\(∀ j,j<h.length->j≠r->(∀ m,x≠.sl j 0 m sz)->rd h3 j=rd h j)/\h.length<h3.length:=by
 have hrl:=C5 hr;have l1:B4 h (pV r off)=some (.c x):=B5 hr hx (by simp);have hof:off<cs0.length:=(List.getElem?_eq_some_iff.1 hx).1;have e1:(h++[rT ys]).length=h.length+1:=by simp
 rcases hd with ⟨rfl,rfl,rfl⟩ | ⟨id,rfl,hi,wL,T5⟩
 ·have hA:=D9T (h:=h++[rT ys]) (jd:=h.length) (m:=1) (sz:=sz) (ys:=ys) (by simp) (by omega) hsz (by omega);rw [e1] at hA;have zN:rd (h++[rT ys]++[rT ys]) r=rT cs0:=B6 (B6 hr);have s1:=F5 (x:=.sl (h.length+1) 0 1 sz) (off:=off) zN hof;refine ⟨h.length+1,_,_,l1,hA,s1,B7 (C5 zN),by omega,?_,by simp [hy],λj hj hjr _=>?_,by simp⟩
  ·rw [A7 (by omega)];have:=S8 (h:=h++[rT ys]) (r:=⟨ys,true⟩);rw [e1] at this;exact this
  ·rw [A7 (Ne.symm hjr),D4 (by simp;omega),D4 hj]
 ·have P6:=C5 hi;have hA:=jX (h:=h++[rT ys]) (id:=id) (jd:=h.length) (n:=n) (m:=1) (sz:=sz) (cs:=cs) (ys:=ys) (rw:=true) (B6 hi) wL (by simp) (by omega) rfl hsz (by omega);rw [e1] at hA;have zN:rd ((h++[rT ys]).set id none++[rT (cs++ys)]) r=rT cs0:=by
   refine B6 ?_;rw [A7 T5];exact B6 hr
  have s1:=F5 (x:=.sl (h.length+1) 0 (n+1) sz) (off:=off) zN hof;refine ⟨h.length+1,_,_,l1,hA,s1,B7 (C5 zN),by omega,?_,by simp [wL,hy,E5Z],λj hj hjr hjx=>?_,by simp;omega⟩
  ·rw [A7 (by omega)];have:=S8 (h:=(h++[rT ys]).set id none) (r:=⟨cs++ys,true⟩);rw [E5w,e1] at this;exact this
  ·have hji:j≠id:=λe=>hjx n (by rw [e])
   rw [A7 (Ne.symm hjr),D4 (by simp;omega),A7 (Ne.symm hji),D4 hj]
def nmC:Cell->Option Nat
 | .sl id _ _ _=>some id
 | .m id=>some id
 | _=>none
def Nam (h:A6) (r id:Nat):Prop:=∃ R x,rd h r=some R/\x∈R.cells/\nmC x=some id
structure Fr (r:Nat) (h h':A6):Prop where
 size:h.length<=h'.length
 keep:∀ id,id<h.length->id≠r->¬ Nam h r id->rd h' id=rd h id
 nam:∀ id,Nam h' r id->Nam h r id\/h.length<=id
theorem Fr.refl (r:Nat) (h:A6):Fr r h h:=⟨E44 _,λ_ _ _ _=>rfl,λ_ hn=>.inl hn⟩
theorem Fr.trans {r:Nat} {h h' h'':A6} (a:Fr r h h') (b:Fr r h' h''):Fr r h h'':=by
 refine ⟨E5E a.size b.size,λid hid hr hn=>?_,λid hn=>?_⟩
 ·rw [b.keep id (by have:=a.size;omega) hr λhm=>?_,a.keep id hid hr hn];rcases a.nam id hm with h1 | h1
  ·exact hn h1
  ·omega
 ·rcases b.nam id hn with h1 | h1
  ·exact a.nam id h1
  ·exact .inr (by have:=a.size;omega)
theorem Nam.same {h h':A6} {r id:Nat} (e:rd h' r=rd h r):Nam h' r id↔Nam h r id:=by unfold Nam;rw [e]
theorem Fr.low {r:Nat} {h h':A6} (hl:Low h.length h h') (hr:r<h.length):Fr r h h' :=
 ⟨hl.2.1,λid hid _ _=>hl.2.2 id hid,λid hn=>.inl ((Nam.same (hl.2.2 r hr)).1 hn)⟩
def Loc (h:A6) (r id:Nat):Prop:=id<h.length/\id≠r/\¬ Nam h r id
theorem Fr.loc {r id:Nat} {h h':A6} (a:Fr r h h') (hl:Loc h r id):Loc h' r id/\rd h' id=rd h id:=by
 refine ⟨⟨Nat.lt_of_lt_of_le hl.1 a.size,hl.2.1,λhn=>?_⟩,a.keep id hl.1 hl.2.1 hl.2.2⟩;rcases a.nam id hn with h1 | h1
 ·exact hl.2.2 h1
 ·have:=hl.1;omega
def Apt (cs:List Cell) (r:Nat):Prop:=(∀ (i j a:Nat) (x y:Cell),cs[i]?=some x->cs[j]?=some y->nmC x=some a->nmC y=some a->i=j)/\∀ x∈cs,nmC x≠some r
theorem Apt.set {cs:List Cell} {r:Nat} (ha:Apt cs r) (off:Nat) {x:Cell} (hx:∀ id,nmC x=some id->id≠r/\∀ (j:Nat) y,j≠off->cs[j]?=some y->nmC y≠some id):Apt (cs.set off x) r:=by
 have look:∀ (j:Nat) (y:Cell),(cs.set off x)[j]?=some y->(j=off/\y=x)\/(j≠off/\cs[j]?=some y):=by
  intro j y hj;by_cases e:j=off
  ·subst e
   left
   rw [List.getElem?_set] at hj;simp only [if_true] at hj;split at hj
   ·cases hj;exact ⟨rfl,rfl⟩
   ·cases hj
  ·right
   rw [List.getElem?_set_ne (Ne.symm e)] at hj;exact ⟨e,hj⟩
 refine ⟨λi j a y z hi hj hy hz=>?_,λy hy=>?_⟩
 ·rcases look i y hi with ⟨e1,e2⟩ | ⟨e1,e2⟩<;>rcases look j z hj with ⟨e3,e4⟩ | ⟨e3,e4⟩
  ·rw [e1,e3]
  ·subst e2;exact absurd hz ((hx a hy).2 j z e3 e4)
  ·subst e4;exact absurd hy ((hx a hz).2 i y e1 e2)
  ·exact ha.1 i j a y z e2 e4 hy hz
 ·obtain ⟨j,hj⟩:=List.mem_iff_getElem?.1 hy;rcases look j y hj with ⟨e1,e2⟩ | ⟨e1,e2⟩
  ·subst e2;intro e;exact (hx r e).1 rfl
  ·exact ha.2 y (E5s e2)
theorem Apt.ne {cs:List Cell} {r:Nat} (ha:Apt cs r) {i j a b:Nat} {x y:Cell} (hi:cs[i]?=some x) (hj:cs[j]?=some y) (hx:nmC x=some a) (hy:nmC y=some b) (T5:i≠j):a≠b:=by
 intro e;subst e;exact T5 (ha.1 i j a x y hi hj hx hy)
theorem HeldX.nm {h:A6} {x:Cell} {cs:List Cell} {n sz r:Nat} (hx:HeldX h x cs n sz r) {id:Nat} (e:nmC x=some id):x=.sl id 0 n sz/\rd h id=rT cs/\cs.length=n*sz/\id≠r:=by
 rcases hx with ⟨_,_,e2⟩ | ⟨gG,e2,h1,h2,h3⟩
 ·rw [e2] at e;cases e
 ·subst e2;cases e;exact ⟨rfl,h1,h2,h3⟩
theorem HeldX.kept {h h':A6} {x:Cell} {cs:List Cell} {n sz r:Nat} (hx:HeldX h x cs n sz r) (hk:∀ id,nmC x=some id->rd h' id=rd h id):HeldX h' x cs n sz r :=
 hx.keep λid m e=>hk id (by rw [e];rfl)
section
structure Cl where
 row:List Int
 ino:List (List Int)
 taken:List Bool
 blocks:List Int
 made:List (List UInt8)
 lost:Int
 lnk:Int->Option Int
 par:Int->Option Int
def MapI (es:W0) (F:Int->Option Int):Prop:=(∀ e∈es,∃ i,e.1=Cell.i .i64 i)/\∀ i,(B0E (.i .i64 i) es).map (·.2)=(F i).map λv=>Part.c (.i .i64 v)
def uI (F:Int->Option Int) (a v:Int):Int->Option Int:=λi=>if i=a then some v else F i
theorem E1l {es:W0} {a:Int} (h:∀ e∈es,∃ i,e.1=Cell.i .i64 i):A3N (some .i64) (.i .i64 a) es=true:=by
 simp only [A3N,sK,decide_true,E5d,E5S];intro e he;obtain ⟨x,hx⟩:=h e he;rw [hx];simp
theorem MapI.nil:MapI [] λ_=>none:=⟨λe he=>by simp at he,λi=>rfl⟩
theorem MapI.put {es:W0} {F:Int->Option Int} (hm:MapI es F) (a v:Int):MapI (A71 (.i .i64 a) (.c (.i .i64 v)) es) (uI F a v):=by
 refine ⟨B9Q (Q:=λc=>∃ i,c=.i .i64 i) ⟨a,rfl⟩ hm.1,λi=>?_⟩;unfold uI;by_cases c:i=a
 ·subst c;rw [if_pos rfl,(A0h (k':=.mh)).1];rfl
 ·rw [if_neg c,(A0h (k:=.i .i64 a) (k':=.i .i64 i)).2 (by simpa using c)];exact hm.2 i
theorem E1m {h:A6} {mid:Nat} {es:W0} {F:Int->Option Int} {a:Int} {ok:Bool} (hr:rd h mid=some (S4 es)) (hm:MapI es F):A7f h (some .i64) (.c o0) ok (.c (.m mid)) (.c (.i .i64 a))=some (A4Y ok (.c (.i .i64 ((F a).getD 0))) (F a).isSome):=by
 simp only [A7f,C6F,D6U,hr,E49,A0g];rw [if_pos (E1l hm.1)];have h2:=hm.2 a;cases hg:B0E (.i .i64 a) es with
 | none =>
  rw [hg] at h2;cases hF:F a with
  | none=>rfl
  | some v=>rw [hF] at h2;cases h2
 | some ip =>
  obtain ⟨i,p⟩:=ip;rw [hg] at h2;cases hF:F a with
  | none=>rw [hF] at h2;cases h2
  | some v=>rw [hF] at h2;simp at h2;subst h2;rfl
theorem E2u {h:A6} {mid:Nat} {es:W0} {F:Int->Option Int} {a x:Int} (hr:rd h mid=some (S4 es)) (hm:MapI es F):A17 h (some .i64) (.c (.m mid)) (.c (.i .i64 a)) (.c (.i .i64 x))=some (h.set mid (some (S4 (A71 (.i .i64 a) (.c (.i .i64 x)) es)))):=by
 simp only [A17,C6F,C7a,hr,E49,A0g];rw [if_pos (E1l hm.1)]
def wkC (D:Dev) (n m:Int) (f xr xi xt xb xm:Cell) (lost:Int) (ml mp:Nat):List Cell:=[.i .i64 D.length,.i .i64 n,.i .u64 m,f,xr,xi,xt,xb,xm,.i .i64 lost,.m ml,.m mp]
def T1 (l:List (List Int)):List Cell:=(l.map encI).flatten
def I7 (l:List Bool):List Cell:=l.map .b
structure WP (D:Dev) (n m:Int) (f:Cell) (g:A6) (r:Nat) (c:Cl) (h:A6):Prop where
 lo:Low g.length g h
 ge:g.length<=r
 low:∀ id,Nam h r id->g.length<=id
 il:∀ x∈c.ino,x.length=11
 ilen:c.ino.length=(n+1).toNat
 tlen:c.taken.length=D.length
 row:∃ xr xi xt xb xm ml mp es1 es2,rd h r=rT (wkC D n m f xr xi xt xb xm c.lost ml mp)/\Apt (wkC D n m f xr xi xt xb xm c.lost ml mp) r /\
  HeldX h xr (encI c.row) c.row.length 1 r/\HeldX h xi (T1 c.ino) c.ino.length 11 r/\HeldX h xt (I7 c.taken) c.taken.length 1 r /\
  HeldX h xb (encI c.blocks) c.blocks.length 1 r/\HeldX h xm (D1 c.made) c.made.length 256 r /\
  rd h ml=some (S4 es1)/\MapI es1 c.lnk/\rd h mp=some (S4 es2)/\MapI es2 c.par
section
variable {D:Dev} {n m:Int} {f:Cell} {g:A6} {r:Nat} {c:Cl} {h:A6}
theorem WP.rlt (P:WP D n m f g r c h):r<h.length:=by
 obtain ⟨_,_,_,_,_,_,_,_,_,h1,_⟩:=P.row;exact C5 h1
theorem B4R {R:Row} {i id:Nat} {x:Cell} (hr:rd h r=some R) (hi:R.cells[i]?=some x) (hx:nmC x=some id):Nam h r id:=⟨R,x,hr,E5s hi,hx⟩
theorem B9R (hv:∃ id cs,f=.f id cs) (P:WP D n m f g r c h) {id:Nat} (hn:Nam h r id):id<h.length:=by
 obtain ⟨xr,xi,xt,xb,xm,ml,mp,es1,es2,h1,h2,h3,h4,h5,h6,h7,h8,h9,h10,h11⟩:=P.row;obtain ⟨R,x,hR,hx,hnm⟩:=hn;rw [h1] at hR;cases hR;obtain ⟨fi,fc,rfl⟩:=hv;simp only [wkC,List.mem_cons,List.not_mem_nil,or_false] at hx;rcases hx with rfl | rfl | rfl | rfl | rfl | rfl | rfl | rfl | rfl | rfl | rfl | rfl
 ·cases hnm
 ·cases hnm
 ·cases hnm
 ·cases hnm
 ·exact C5 (h3.nm hnm).2.1
 ·exact C5 (h4.nm hnm).2.1
 ·exact C5 (h5.nm hnm).2.1
 ·exact C5 (h6.nm hnm).2.1
 ·exact C5 (h7.nm hnm).2.1
 ·cases hnm
 ·cases hnm;exact C5 h8
 ·cases hnm;exact C5 h10
theorem WP.keep {h':A6} (P:WP D n m f g r c h) (hlo:Low g.length g h') (hr:rd h' r=rd h r) (hk:∀ id,Nam h r id->rd h' id=rd h id):WP D n m f g r c h':=by
 obtain ⟨xr,xi,xt,xb,xm,ml,mp,es1,es2,h1,h2,h3,h4,h5,h6,h7,h8,h9,h10,h11⟩:=P.row;have k:∀ (i:Nat) (x:Cell) (id:Nat),(wkC D n m f xr xi xt xb xm c.lost ml mp)[i]?=some x->nmC x=some id->rd h' id=rd h id:=λi x id hi hx=>hk id (B4R h1 hi hx)
 refine ⟨hlo,P.ge,λid hn=>P.low id ((Nam.same hr).1 hn),P.il,P.ilen,P.tlen,xr,xi,xt,xb,xm,ml,mp,es1,es2,by rw [hr];exact h1,h2,h3.kept λid e=>k 4 _ _ rfl e,h4.kept λid e=>k 5 _ _ rfl e,h5.kept λid e=>k 6 _ _ rfl e,h6.kept λid e=>k 7 _ _ rfl e,h7.kept λid e=>k 8 _ _ rfl e,?_,h9,?_,h11⟩
 ·rw [k 10 (.m ml) ml rfl rfl];exact h8
 ·rw [k 11 (.m mp) mp rfl rfl];exact h10
theorem WP.since {h':A6} (hv:∃ id cs,f=.f id cs) (P:WP D n m f g r c h) (hl:Low h.length h h'):WP D n m f g r c h' :=
 P.keep ⟨P.lo.1,E5E P.lo.2.1 hl.2.1,λid hid=>by rw [hl.2.2 id (by have:=P.lo.2.1;omega)];exact P.lo.2.2 id hid⟩ (hl.2.2 r P.rlt) λid hn=>hl.2.2 id (B9R hv P hn)
theorem WP.more (hv:∃ id cs,f=.f id cs) (P:WP D n m f g r c h) (t:A6):WP D n m f g r c (h++t):=P.since hv ((Low.refl (E44 _)).new t)
theorem WP.set {id:Nat} {x:Option Row} (P:WP D n m f g r c h) (hl:Loc h r id) (hg:g.length<=id):WP D n m f g r c (h.set id x):=by
 refine P.keep (P.lo.set hg x) (A7 hl.2.1) λj hj=>A7 λe=>hl.2.2 (by rw [e];exact hj)
theorem Fr.set {id:Nat} {x:Option Row} {h0:A6} (a:Fr r h0 h) (hl:Loc h r id) (h0l:h0.length<=id):Fr r h0 (h.set id x):=by
 have e:rd (h.set id x) r=rd h r:=A7 hl.2.1;exact ⟨by simpa using a.size,λj hj h1 h2=>by rw [A7 (by omega)];exact a.keep j hj h1 h2,λj hj=>a.nam j ((Nam.same e).1 hj)⟩
end
end
end Go.Proofs.YtbnkgnfhgbhblaaGreat
namespace Go.Proofs.YtbnkgnfhgbhblaaGreat
open Go Go.Esc
set_option maxRecDepth 100000
noncomputable section
variable (n m m2:Nat) (a0 a1 a2 a3 x0 x1 x2 x3 x4 x5 x6 x7 x8 x9 x10 x11 x12 x13 x17 x18 x19 x20 x21 x22 x27 x28 x29 x30 x31 x32 x37 x38 x39 x72 x73 x74 x75 x76 x77 x78 x79 x88 x89 x90 E3E E3F E3G E04 E05 E06:Val) (h:A6)
def iT:FD Tryz.prog:=⟨px 0X11f841402412321fa61a11984061c264c464c639c02f11811201141141224634e2a863a1f61a13a19b43a363a1f263a4f463a4f63a39f03a36062bc61a201ac406338064c064c639c002a2e1032102314111022,[.c (.b true)],[],[.tmp 4],[cal B8W]⟩
def A1R:=iT.R
def jP:=mR A1R iT (tT []) n [a0,a1] h
def A1I:=iT.K Tryz.func95
def jB:=iT.Q
theorem cF:SOk Tryz.prog 95 jB:=A1I.ok
theorem jS:OfT A1R jB:=A1I.of
def dO:FD Tryz.prog:=⟨px 0X118861362e2a81632f7f61a202f1af42f34e2f1f6061a17c3e1c39607c001b6123611321042,[.c (.b false)],[],[.tmp 6],[cal cF]⟩
def xV:=dO.R
def pP:=mR xV dO (tT []) n [a0,a1,a2,a3] h
def xU:=dO.K Tryz.func98
def dQ:=dO.Q
theorem A5G:SOk Tryz.prog 98 dQ:=xU.ok
theorem pX:OfT xV dQ:=xU.of
def J8:FD Tryz.prog:=⟨px 0X12284881de184883f3924121f87153c07c21802184881de11961e411ac61967c2c0184883851824363a2a864f2bf61a21e4f5ef384f32c4f344f360361e2a803f68b43f3601637c3e1d11d397542162686161a201ac3a04a4881a394765421624c511a027542152157421411a070247421431889617c118742152742140605171174214242231c42d9022ed242132,[.c (.b false)],[.eqN true true (.t 16)],[.cellN 4 256],[cal C21,cal vB,cal A5G]⟩
def sA:=J8.R
def rU:N4:=J8.E
def rB:AtH:=J8.lj 0 n [m] [x1,x2,x4,x7]
def A6H:AtH:=J8.lj 1 n [m] [x1,x2,x4,x7]
def iK:TT:=⟨rU,[⟨2,4,rB⟩,⟨2,4,A6H⟩]⟩
def A2W:=mR sA J8 iK n [a0,a1] h
def mY:=mL J8 iK 0 n [m] [x1,x2,x4,x7] h
def bP:=mJ J8 iK 1 n [m] [x1,x2,x4,x7] h
def rX:=J8.K Tryz.func97
def iJ:=J8.Q
theorem A3p:SOk Tryz.prog 97 iJ:=rX.ok
theorem A3o:OfT sA iJ:=rX.of
def iU:FD Tryz.prog:=⟨px 0X1e21fa464c464c4e39c4061e4883cc6488011c1488048a2c4883861c464c464c639c00001811b1e21fa364c464c4e39c61e13cc61011113fc4061c364c464c639c00001d50221e52ed151032,[],[],[],[]⟩
def A1S:=iU.R
def A8d:=mR A1S iU (tT []) n [a0,a1,a2] h
def A1J:=iU.K Tryz.func96
def pZ:=iU.Q
theorem vS:SOk Tryz.prog 96 pZ:=A1J.ok
theorem A8J:OfT A1S pZ:=A1J.of
def R7:FD Tryz.prog:=⟨px 0X65a6a351ac15a16f1816d261a241ac183821ca5d861e231ac61c1a2c4c6438064c639c181c61c1a2c4c181c1b01b01241627c61c1a2c4c36c6524265233621b1de1a1e1b19822c1b384061c164c464c639c181c7019652330621fa1a2c4c61e221ac61c1a284c181c6182439657c384b1d24c65421626521411a2982e156a07c2181a21fa4a6164928d2062e223f1ad42c484d61c1a61628c4284c3c0181c3c391701b1c8711a022e2d765421182152e2d6542173070242e2d65421731a617c12f2e2d654211822e2d65421706051006887a2c1d32e2d6542172654215319c21fa162d96111ac61c26e294d5654215218821b1de3b52d961251151033b3e861c25a1e4d55421426c21b1de3b42d961a201ac406438064c639c3a181d1842132022ed12122,[],[.min (.t 20) (.v (.c (.i .i64 6)))],[],[cal cG,cal B6g,cal cF,cal J7,cal A3p,cal vS]⟩
def A1Q:=R7.R
def fV:AtH:=R7.lj 0 n [m] [x1,x2,x4,x5,x6,x21,x22]
def nZ:AtH:=R7.lj 1 n [] [x1,x2,x5,x6]
def qJ:=tT [⟨2,7,fV⟩,⟨1,4,nZ⟩]
def A8b:=mR A1Q R7 qJ n [a0,a1] h
def iM:=mL R7 qJ 0 n [m] [x1,x2,x4,x5,x6,x21,x22] h
def sI:=mJ R7 qJ 1 n [] [x1,x2,x5,x6] h
def A1G:=R7.K Tryz.func45
def jA:=R7.Q
theorem A8I:SOk Tryz.prog 45 jA:=A1G.ok
theorem A8H:OfT A1Q jA:=A1G.of
def I1:FD Tryz.prog:=⟨px 0X1228491de1c494b3924122981d156c04a7d21828c2d156a07c2180121fa1a614828c11c4c3c04182461a27c38061c1a614828c11c4c3c38163d2d1d1c1b764301a21bc711a022d1d1c1b76430192352d1d1c1b64301831a270242d1d1c1b6430183289617c12e2d1d1c1b64301922d1d1c1b64301826251012d1d1c1b6430182017241637c61a221ac6a0029142c1d1c1b64301821d1c1b6430731886161c1a2a119831d1c1b643072151d1c1b430611a070241d1c1b430631a617c11e1d1c1b430721d1c1b430606051061c86111ac3e493841d1c1b43062432323a491de6101ac2e4918393430321f2d8432ed243032,[],[],[.cellN 4 33],[cal C43,cal nW,cal cF]⟩
def vO:=I1.R
def sG:AtH:=I1.lj 0 n [m] [x0,x3,x4,x11,x12,x13]
def sF:AtH:=I1.lj 1 n [m] [x0,x3,x4,x11,x12,x13]
def sH:AtH:=I1.lj 2 n [m,m2] [x0,x3,x4,x6,x11,x12,x13,x21]
def A7V:AtH:=I1.lj 3 n [m,m2] [x0,x3,x4,x6,x11,x12,x13,x21]
def W6:=tT [⟨2,6,sG⟩,⟨2,6,sF⟩,⟨3,8,sH⟩,⟨3,8,A7V⟩]
def A32:=mR vO I1 W6 n [a0,a1] h
def dC:=mL I1 W6 0 n [m] [x0,x3,x4,x11,x12,x13] h
def nF:=mJ I1 W6 1 n [m] [x0,x3,x4,x11,x12,x13] h
def dD:=mL I1 W6 2 n [m,m2] [x0,x3,x4,x6,x11,x12,x13,x21] h
def nG:=mJ I1 W6 3 n [m,m2] [x0,x3,x4,x6,x11,x12,x13,x21] h
def vM:=I1.K Tryz.func100
def cE:=I1.Q
theorem A39:SOk Tryz.prog 100 cE:=vM.ok
theorem A38:OfT vO cE:=vM.of
def iS:FD Tryz.prog:=⟨px 0X129c7163841de5806311a1022f3e84c33848481676221fc01f8231de2c192d915a6804e3e691ec2d161a231ac18061a221ac4806438064c639c02e11e1a19186420137127a41de02f3e837622241627c5a2a122b1862052186204318c18161c1a614828c315e4c61e211ac6101ac5a03e491b3950191862043302f62d9442ed3642042,[.c (.b false)],[],[.cellN 6 4,.tmp 7],[cal C0Q,cal B80,cal J7,cal A35]⟩
def pQ:=iS.R
def A8c:=mR pQ iS (tT []) n [a0,a1,a2] h
def A1H:=iS.K Tryz.func166
def pY:=iS.S
theorem vR:SOk Tryz.prog 166 pY:=A1H.sok
theorem A5H:E5 pQ pY:=A1H.flat
def J0:FD Tryz.prog:=⟨px 0X15cc416c1b9124125c819c156a01b87d2185bc1d163e23cc620129123fc6112a102293e836887c02c07c06c1a8119184fc1f161c1a2a1198319c19b19a1f1d5625519c19b19a1d5534702419c19b19a1d5531a617c119d19c19b19a1d56219c19b19a1d5526451061c86141ac381991419c19b19a1d5521d1321d3b911d65324c82c153aa01987d2184bc48152be018f7d21804b86162e13cc61013113fc61c064c1584c380718268a61c164c1584c61c064c1584c2c018483f3e2c2b2a1a1865301c224362e2a811d968b5831d93b631d93b15c1d94f60362e2a861a21bd7f481bd361bd1f05c1bd4f60685d11d79483f3e2c2b2a1a1865301d22e802dc241de2f1b2d914a6803e5b692d84c162a2e331ac61c064c1584c1c493804d11c483f3e2c2b2a1c1b1a1865301e229c231de2c1a2d963381a2a31984483f3e2c2b2a1a1865301c235483f3e2c2b2a1865301b31a27024483f3e2c2b2a1865301b31a617c149483f3e2c2b2a1865301c2483f3e2c2b2a1865301b16251061c86121ac61a211ac4806438064c639c038119483f3e2c2b2a1865301b21bc18161c1a2a119832c2b2a186530182152c2b2a653073070242c2b2a6530731a617c12d2c2b2a65301822c2b2a6530706051061c86101ac7a49293942c2b2a653072652313b816530421885102868925303223b8432ed23022,[.c (.b false)],[.mkMap,.eqA false ([.i .i64,.s,.i .i64]) (.t 54) (.t 55),.mput none (.t 58) (.t 61) (.t 64),.look none (.c o0) false (.t 82) (.t 83)],[.tmp 4],[cal nW,cal J7,cal A36,cal vR,cal C49]⟩
def nU:=J0.R
def Z4:AtH:=J0.lj 0 n [m] [x0,x3,x5,x6,x18,x19,x20]
def Z5:AtH:=J0.lj 1 n [m,m2] [x0,x3,x5,x6,x8,x18,x19,x20,x30,x31,x32]
def yA:AtH:=J0.lj 2 n [m] [x5,x13,x74,x75,x76]
def B1Q:AtH:=J0.lj 3 n [m,m2] [x0,x3,x5,x6,x8,x18,x19,x20,x30,x31,x32]
def aV:=tT [⟨2,7,Z4⟩,⟨3,11,Z5⟩,⟨2,5,yA⟩,⟨3,11,B1Q⟩]
def A7O:=mR nU J0 aV n [a0,a1] h
def qP:=mL J0 aV 0 n [m] [x0,x3,x5,x6,x18,x19,x20] h
def fW:=mL J0 aV 1 n [m,m2] [x0,x3,x5,x6,x8,x18,x19,x20,x30,x31,x32] h
def qQ:=mL J0 aV 2 n [m] [x5,x13,x74,x75,x76] h
def aD:=mJ J0 aV 3 n [m,m2] [x0,x3,x5,x6,x8,x18,x19,x20,x30,x31,x32] h
def A0l:=J0.K Tryz.func101
def fP:=J0.S
theorem A7Q:SOk Tryz.prog 101 fP:=A0l.sok
theorem A5I:pE nU fP:=A0l.out
def X8:FD Tryz.prog:=⟨px 0X1761161201e21fa064c464c4e39c61e13cc61011113fc18061c064c464c639c00001d18368a4018061c1b64c639c00720222462bc4c025f21042001a268a5607c168818061c1a64c639c04f118192104201361161224673a2a8361a1882ab4c18f36188319621887f3c188360671e2a8162787f3c783605627c183a11d4e192105219210431cc01c818114a6803e38691bc291068818061c1b64c639c02a11b19721052188710658c61a201ac6a06438064c639c01a118721042361121032,[.c (.b false),.c (.b true)],[.look (some .i64) (.c o0) true (.t 21) (.t 22),.look (some .i64) (.c o0) false (.t 42) (.t 43),.mput (some .i64) (.t 42) (.t 43) (.t 45),.mput (some .i64) (.t 51) (.t 52) (.t 53)],[.tmp 6],[cal cG]⟩
def A1T:=X8.R
def B4C:AtH:=X8.lj 0 n [] []
def A13:=tT [⟨1,0,B4C⟩]
def cD:=mR A1T X8 A13 n [a0,a1,a2] h
def iN:=mJ X8 A13 0 n [] [] h
def A1K:=X8.K Tryz.func102
def jC:=X8.Q
theorem A8K:SOk Tryz.prog 102 jC:=A1K.ok
theorem jT:OfT A1T jC:=A1K.of
def O0:FD Tryz.prog:=⟨px 0X12484881de4c4881b839218125bc3d153da07c21824c4881de61a251ac7c2384c4881ac3941859c0598221de2d1f2d913e6803a1aa6958c19c161e241ac62381684c61c06819d4d1b3d3c3b1f191853201a20171e21fa564c464c3a39c5607c61c564c464c639c001a3d3c3b1918532019224675a2a862a31e87f61e81f161e84f1681e84f11e868b61e81f061e84f1681e84f1c1e8360672e2a801cc68b6831cc3b631cc3b16c1cc4f60672e2a861a31b87f181b8361b81f06c1b84f6062bc785a13918a3d3c3b1c191853201b23d3c3b1c191853201a32cc02c8241de2f1d2d914a6803e58692bc49162a2e331ac61c064c1684c2c493804a11c3d3c3b1e1d1c191853201c2288231de2c1c2d963381a2a319843d3c3b1c191853201a2153d3c3b191853201911a070243d3c3b191853201931a617c13e3d3c3b191853201a23d3c3b191853201906051061c86121ac61a211ac1806438064c639c02d1193d3c3b191853201921918231a8019c24881de1c192d911e6801a2b691982913102a1ad719185320621c182d9452ed218532052,[.c .ns,.c (.b true)],[.eqA true ([.i .i64,.s,.i .i64]) (.t 52) (.t 53),.look none (.c o0) false (.t 57) (.t 60)],[.cellN 8 256],[cal C2n,cal J7,cal A36,cal vR,cal C2o,cal A9q]⟩
def vP:=O0.R
def bH:AtH:=O0.lj 0 n [m] [x0,x2,x3,x5,x8,x9,x27,x28,x29]
def A7W:AtH:=O0.lj 1 n [m] [x0,x2,x3,x5,x8,x9,x27,x28,x29]
def jU:=tT [⟨2,9,bH⟩,⟨2,9,A7W⟩]
def A33:=mR vP O0 jU n [a0,a1,a2,a3] h
def dE:=mL O0 jU 0 n [m] [x0,x2,x3,x5,x8,x9,x27,x28,x29] h
def R9:=mJ O0 jU 1 n [m] [x0,x2,x3,x5,x8,x9,x27,x28,x29] h
def vN:=O0.K Tryz.func105
def jR:=O0.Q
theorem A4b:SOk Tryz.prog 105 jR:=vN.ok
theorem A4a:OfT vP jR:=vN.of
def L7:FD Tryz.prog:=⟨px 0X79c1cf156a07c21863a3e3181ac61a1e2a41a1ac4807803849380078001db118186d81e161c1a2a119831cf1ce1cd1e186072351cf1ce1cd186063270241cf1ce1cd1860631a617c11d81cf1ce1cd1860721cf1ce1cd1860636251061c861191ac38493841cf1ce1cd18606261a2e3181ac5c4883861c161628c4284c01be161860325ec05e824881de1c1b2d912a6801e1bc695dc1b916171ac38491ba39181b18640525c819a157a07c2180268a61c1584c61c0584c4806182461e2a361ac61c1584c40019e151aa19a1991981a1864101a24ec221de291a2d962381a2a2198419a1991981a1864101921519a1991981864101821a0702419a1991981864101831a617c119b19a19919818641019219a1991981864101816051061c861a251ac384938018e1519a19919818641018218640434ac1811688218641052238491de61a241ac38493800464104201241627c61c161628c4284c4189641052641043621b1de1a1e1b1982281b384061c164c464c639c00701964104301a21fa161628c4284c62a231ac61c161628c42c4c00181824361e2a81621af7f3c1af36019627c61c02c584d75e65410626410401a2bc0102b82491de1f062df15e6805a4e692ac3c16121ac62a211ac61c161628c42c4c6438064c639c03d11d11b765410631dc21b1de3b52d961a201ac406438064c639c02e1185410421ac21b1de3b42d9613511191033b3e806884061c1b64c639c01f11941032,[.c (.b false)],[.look (some .i64) (.c o0) false (.t 18) (.t 19),.mkMap,.mput none (.t 83) (.t 85) (.t 87)],[],[cal cG,cal J7,cal C44,cal cF,cal A39,cal A7Q,cal A8K,cal A9f,cal vS,cal nW,cal A4b]⟩
def A34:=L7.R
def jG:AtH:=L7.lj 0 n [] [x0,x1,x4,x6]
def jH:AtH:=L7.lj 1 n [m] [x0,x1,x4,x6,x8,x72,x73,x74]
def B6J:AtH:=L7.lj 2 n [m] [x0,x1,x4,x6,x8,x72,x73,x74]
def A2d:AtH:=L7.lj 3 n [m] [x0,x6,x8,E3E,E3F,E3G]
def dX:=tT [⟨1,4,jG⟩,⟨2,8,jH⟩,⟨2,8,B6J⟩,⟨2,6,A2d⟩]
def B1B:=mR A34 L7 dX n [a0,a1] h
def A9Z:=mJ L7 dX 0 n [] [x0,x1,x4,x6] h
def kF:=mL L7 dX 1 n [m] [x0,x1,x4,x6,x8,x72,x73,x74] h
def wA:=mJ L7 dX 2 n [m] [x0,x1,x4,x6,x8,x72,x73,x74] h
def wC:=mL L7 dX 3 n [m] [x0,x6,x8,E3E,E3F,E3G] h
def A3Z:=L7.K Tryz.func46
def mA:=L7.Q
theorem B1G:SOk Tryz.prog 46 mA:=A3Z.ok
theorem B1F:OfT A34 mA:=A3Z.of
def T9:FD Tryz.prog:=⟨px 0X121861de6638464c639c1c1ef152127b81ba151ea07c21801a21fa164c3e4a1b198336884c061c1a64c639c1c04c061c164c464c639c1c01c019245627c61c064c61a1b1984c061c164c464c639c1c1be11a1cf1ba1b91b81932725ec19161c1a2a119831ba1b91b8193262551ba1b91b832541a470241ba1b91b832531a617c11bb1ba1b91b832621ba1b91b832536451061c861c064c464c639c1c1ac171ba1b91b8325232233e8615607c387b131861a241ac3c01c031861a231ac3c01c031824763a2a856229f7f0629f58f61a2229f1af3c29f34429f3b605637c3c18d11919d76321624a87161c61a119838061c064c464c639c1c7d1197632152356321421a2702463e17c61c861c064c464c639c1c0386b1187a632152632143632141625161163214232233984f155e07c218321fa61a11982c061c264c464c639c1c5b118182d85161c1a2a119834f4e4d532172154f4e4d32163070244f4e4d321631a617c1584f4e4d321724f4e4d321606051061c86111ac6338044c54f4e4d32162321331a261de464c6a39c36122e115a1033e3e8661425ca61c064c044c661b3b15ca5607c61c164c044c5101111048a1c2d11c319321331a83162ec268860168a06880688443818321320126a61de03e3e82212241637c6101ac6338041a4d41d213221233e2d862ec22122,[.c (.b true),.c (.b false)],[.mkMap,.mput (some .i64) (.t 17) (.v (.c (.i .i64 1))) (.v (.c (.i .i64 1))),.build ([o0,o0,.i .u64 0,.nf,.ns,.ns,.ns,.ns,.ns,o0,.nm,.nm]) [(0,4,(.t 15)),(10,1,(.t 16)),(11,1,(.t 18))],.look (some .i64) (.c o0) false (.t 113) (.t 114)],[.cellN 2 6],[cal mB,cal B2n,cal cG,cal A8I,cal B1G]⟩
def A0p:=T9.R
def C1h:AtH:=T9.lj 0 n [m] [x1,x2,x3,x37,x38,x39]
def oT:AtH:=T9.lj 1 n [m] [x1,x2,x3,x6]
def D2Q:AtH:=T9.lj 2 n [m] [x1,x2,x3,x6]
def A9X:AtH:=T9.lj 3 n [m] [x2,x3,x88,x89,x90]
def D2R:AtH:=T9.lj 4 n [m] [x2,x3,x88,x89,x90]
def tL:=tT [⟨2,6,C1h⟩,⟨2,4,oT⟩,⟨2,4,D2Q⟩,⟨2,5,A9X⟩,⟨2,5,D2R⟩]
def B2e:=mR A0p T9 tL n [a0] h
def A9V:=mL T9 tL 0 n [m] [x1,x2,x3,x37,x38,x39] h
def A9W:=mL T9 tL 1 n [m] [x1,x2,x3,x6] h
def A0Y:=mJ T9 tL 2 n [m] [x1,x2,x3,x6] h
def A9Y:=mL T9 tL 3 n [m] [x2,x3,x88,x89,x90] h
def A9U:=mJ T9 tL 4 n [m] [x2,x3,x88,x89,x90] h
def B3e:=T9.K Tryz.func15
def tF:=T9.S
theorem B2i:SOk Tryz.prog 15 tF:=B3e.sok
theorem C2r:E5 A0p tF:=B3e.flat
theorem C2s:D5o A0p tF:=B3e.tidy
def nL:FD Tryz.prog:=⟨px 0X624881de1a1e4881985e48838005e1c51824362e2a861e11f7f61f1cb3e1f1f01f3601647c00181c42042442ed142032,[.c (.b false)],[],[],[]⟩
def A63:=nL.R
def nT:=mR A63 nL (tT []) n [a0,a1,a2] h
def A6X:=nL.K Tryz.func52
def nO:=nL.Q
theorem B3G:SOk Tryz.prog 52 nO:=A6X.ok
theorem nV:OfT A63 nO:=A6X.of
def D7:FD Tryz.prog:=⟨px 0X118a8412c1c241261e22a5ec6151ac78a0041ac381ff155127f81ec155a01fe7d21807ec29161e13cc61011113fc6ce06ce0518246ba1f9111f91ec1eb1ea2a29651827c807b82a161c1e2e11981a051ec1eb1ea2b2a2965182751ec1eb1ea2965661a670241ec1eb1ea2965631a617c11ed1ec1eb1ea2965721ec1eb1ea2965656651061c861c21c1e94d41ec1eb1ea2965622965331293b91296534278819f1528e07c2180001a24881de5a5e48819815e6805a1dd696e81cb161a1e331ac6c1b387c064883861a4881987802c1c7802c1cc1d1d01b24762e2a861e12fb7f62fb1cb2c2fb1f782fb3604ea1bc171ca19f19e19d1f1e1d65321b25dc05d805cc1e123e6813a6802e1b9695c81ac161a221ac68063380181ad4d1b19f19e19d281f1e1d65321b259c6c1b1de58c1c13b1d2d961b381e2e1b1981a0619f19e19d1d1c65321925519f19e19d6532741a4702419f19e19d6532731a617c11a819f19e19d653218219f19e19d6532736451061c861c11c19c4d419f19e19d653272653334bc1b15607c5c18e131861a21e5ec01c3e85c0381981418351b1a196532732702462a17c61a07c5804c05c1891518d1b1a1965321821b1a196532731b1a196532726254881b14c188121b1a196532726532433fc03f819112e6802a7e693ec7a16111ac63380187b4d181a196532623cc4f1519a07c218063a23e5ec64883861a4881983c061c41c4c48038018182462a17c61c861c41c4c3c5c15684f4e4d18765321a22dc02cc7161c1e2e11981a054f4e4d1876532192154f4e4d6532711a070244f4e4d6532731a617c1584f4e4d65321824f4e4d6532706051061c861c31c4c4d44f4e4d65327265324329c612c16c4b5d9265324229821fa252d96101ac18449394532320148843b9141224634a2a862a3687f6681f06684f018684f6681cb6681f21c684f601627c61c861c01c2c4d1d48323232234883b842ec022ed33222,[.c (.b true),.c (.b false)],[],[.tmp 4],[cal A9x,cal xI,cal A69,cal A7c,cal A3d,cal A65,cal B3G]⟩
def fO:=D7.R
def pJ:N4:=D7.E
def dZ:AtH:=D7.lj 0 n [m] [x2,x3,x5,x6,x37,x38,x39]
def A4p:AtH:=D7.lj 1 n [m] [x2,x3,x5,x6,x37,x38,x39]
def eG:AtH:=D7.lj 2 n [m] [x2,x3,x5,x6,x9,x10,x11]
def eH:AtH:=D7.lj 3 n [m] [x2,x3,x5,x6,x77,x78,x79]
def A4q:AtH:=D7.lj 4 n [m] [x2,x3,x5,x6,x77,x78,x79]
def oS:AtH:=D7.lj 5 n [m] [x5,x6,x17,E04,E05,E06]
def A4r:AtH:=D7.lj 6 n [m] [x5,x6,x17,E04,E05,E06]
def L8:TT:=⟨pJ,[⟨2,7,dZ⟩,⟨2,7,A4p⟩,⟨2,7,eG⟩,⟨2,7,eH⟩,⟨2,7,A4q⟩,⟨2,6,oS⟩,⟨2,6,A4r⟩]⟩
def mQ:=mR fO D7 L8 n [a0,a1] h
def kD:=mL D7 L8 0 n [m] [x2,x3,x5,x6,x37,x38,x39] h
def A0X:=mJ D7 L8 1 n [m] [x2,x3,x5,x6,x37,x38,x39] h
def kE:=mL D7 L8 2 n [m] [x2,x3,x5,x6,x9,x10,x11] h
def aZ:=mL D7 L8 3 n [m] [x2,x3,x5,x6,x77,x78,x79] h
def kB:=mJ D7 L8 4 n [m] [x2,x3,x5,x6,x77,x78,x79] h
def bA:=mL D7 L8 5 n [m] [x5,x6,x17,E04,E05,E06] h
def kC:=mJ D7 L8 6 n [m] [x5,x6,x17,E04,E05,E06] h
def pO:=D7.K Tryz.func21
def R3:=D7.S
theorem mS:SOk Tryz.prog 21 R3:=pO.sok
theorem jQ:pE fO R3:=pO.out
def lD:FD Tryz.prog:=⟨px 0X1341141218c1a153e0297d2180174114122461a27c404a1e13281a19181526c6161c1a2a119831a19186152151a1918143070241a19181431a617c11b1a19181521a19181406051061c861c02e74d41a191814203341022ed22122,[.c (.b false),.c (.b true)],[],[.tmp 4],[]⟩
def A5l:=lD.R
def B2A:AtH:=lD.lj 0 n [m] [x1,x8,x9,x10]
def B6s:=tT [⟨2,4,B2A⟩]
def C1Z:=mR A5l lD B6s n [a0,a1] h
def A4s:=mL lD B6s 0 n [m] [x1,x8,x9,x10] h
def B5e:=lD.K Tryz.func18
def A5F:=lD.S
theorem C2q:SOk Tryz.prog 18 A5F:=B5e.sok
theorem B50:E5 A5l A5F:=B5e.flat
end
end Go.Proofs.YtbnkgnfhgbhblaaGreat
namespace Go.Proofs.YtbnkgnfhgbhblaaGreat
open Go Go.Esc
section
def B4E (D:Dev) (n:Int) (c:Cl) (no:Int):Bool:=iP D.length n no && !(c.taken.getD no.toNat true)
def T0 (D:Dev) (n:Int) (c:Cl) (no:Int):Int:=bif B4E D n c no then no else 0
def dG (D:Dev) (n:Int) (c:Cl) (no:Int):Cl:=bif B4E D n c no then { c with taken:=c.taken.set no.toNat true } else c
theorem C6C {b n i:Int} (h:iP b n i=true):0<=i/\i<b:=by
 unfold iP at h;simp only [E42,decide_eq_true_eq] at h;have:=A0Z (b:=b) (n:=n);omega
section
variable {D:Dev} {n m:Int} {f:Cell} {g:A6} {r:Nat} {c:Cl} {h:A6}
theorem WP.take (P:WP D n m f g r c h) {k:Nat} {v:Bool} {xr xi xt xb xm:Cell} {ml mp:Nat} (h1:rd h r=rT (wkC D n m f xr xi xt xb xm c.lost ml mp)) (h0:D.length≠0) :
  ∃ t,xt=.sl t 0 D.length 1/\rd h t=rT (I7 c.taken)/\WP D n m f g r { c with taken:=c.taken.set k v } (h.set t (rT (I7 (c.taken.set k v))))/\Fr r h (h.set t (rT (I7 (c.taken.set k v)))):=by
 obtain ⟨xr',xi',xt',xb',xm',ml',mp',es1,es2,g1,g2,g3,g4,g5,g6,g7,g8,g9,g10,g11⟩:=P.row;have:=h1.symm.trans g1;simp only [Option.some.injEq,Row.mk.injEq,and_true,wkC,List.cons.injEq,true_and,Cell.m.injEq] at this;obtain ⟨rfl,rfl,rfl,rfl,rfl,rfl,rfl⟩:=this;rcases g5 with ⟨e,_,_⟩ | ⟨t,rfl,t1,t2,t3⟩
 ·rw [P.tlen] at e;exact absurd e h0
 ·rw [P.tlen] at t2 ⊢;have nt:Nam h r t:=B4R (i:=6) g1 rfl rfl;have tg:=P.low t nt;have hr':rd (h.set t (rT (I7 (c.taken.set k v)))) r=rd h r:=A7 t3;have oth:∀ (i:Nat) (x:Cell) (id:Nat),(wkC D n m f xr xi (.sl t 0 c.taken.length 1) xb xm c.lost ml mp)[i]?=some x->nmC x=some id->i≠6->rd (h.set t (rT (I7 (c.taken.set k v)))) id=rd h id:=by
   intro i x id hi hx T5;exact A7 (λe=>(g2.ne hi (show (wkC D n m f xr xi (.sl t 0 c.taken.length 1) xb xm c.lost ml mp)[6]?=some (.sl t 0 c.taken.length 1) from rfl) hx rfl T5) e.symm)
  refine ⟨t,rfl,t1,⟨P.lo.set tg _,P.ge,λid hn=>P.low id ((Nam.same hr').1 hn),P.il,P.ilen,by simpa using P.tlen,xr,xi,.sl t 0 c.taken.length 1,xb,xm,ml,mp,es1,es2,by rw [hr'];exact g1,g2,g3.kept λid e=>oth 4 _ _ rfl e (by decide),g4.kept λid e=>oth 5 _ _ rfl e (by decide),.inr ⟨t,by simp,B7 (C5 t1),by simp [I7],t3⟩,g6.kept λid e=>oth 7 _ _ rfl e (by decide),g7.kept λid e=>oth 8 _ _ rfl e (by decide),?_,g9,?_,g11⟩,by simp,λid hid h1 h2=>A7 λe=>h2 (by rw [<-e];exact nt),λid hn=>.inl ((Nam.same hr').1 hn)⟩
  ·rw [oth 10 (.m ml) ml rfl rfl (by decide)];exact g8
  ·rw [oth 11 (.m mp) mp rfl rfl (by decide)];exact g10
theorem B7g {no:Int} (P:WP D n m f g r c h):∃ h',jB [pV r 0,iV no] h=some (iV (T0 D n c no),h')/\WP D n m f g r (dG D n c no) h'/\Fr r h h':=by
 obtain ⟨xr,xi,xt,xb,xm,ml,mp,es1,es2,g1,g2,g3,g4,g5,g6,g7,g8,g9,g10,g11⟩:=id P.row;have lL:C8 h 3 (pV r 0)=some (.a (D3 D.length n m)):=cP g1 (by simp [wkC]) rfl;have lT:B4 h (pV r 6)=some (.c xt):=B5 g1 rfl rfl;have hD:=C6k (b:=D.length) (n:=n) (m:=m) (i:=no) (h:=h);unfold T0 dG B4E;cases hd:iP D.length n no with
 | false =>
  rw [hd] at hD;refine ⟨h,jS (n:=0) ?_,P,Fr.refl r h⟩;rw [jP];simp only [esc,Nat.reduceAdd,lL,hD,E48,cond_false]
 | true =>
  rw [hd] at hD;obtain ⟨i0,i1⟩:=C6C hd;obtain ⟨k,rfl⟩:=E5I i0;have hk:k<D.length:=by omega
  obtain ⟨t,rfl,t1,t2,t3⟩:=P.take (k:=k) (v:=true) g1 (by omega);have hkt:k<c.taken.length:=by rw [P.tlen];exact hk
  have ad:=C4 (sz:=1) (id:=t) (off:=0) (k:=.i64) hk;have l1:B4 h (pV t (0+k*1))=some (bV c.taken[k]):=B5 t1 (by simp [I7,hkt]) rfl;have s1:F9 h (pV t (0+k*1)) (bV true)=some (h.set t (rT (I7 (c.taken.set k true)))):=by
   rw [F5 t1 (by simp [I7,hkt])];simp [I7,List.map_set]
  rw [E5l,Nat.mul_one] at ad l1 s1;have eg:c.taken.getD (Int.toNat (k:Int)) true=c.taken[k]:=by simp [List.getD,hkt]
  rw [eg,E5j];cases hb:c.taken[k] with
  | true =>
   rw [hb] at l1;refine ⟨h,jS (n:=0) ?_,P,Fr.refl r h⟩;rw [jP];simp only [esc,Nat.reduceAdd,lL,lT,ad,l1,hD,Bool.not_true,E5Y,cond_false]
  | false =>
   rw [hb] at l1;refine ⟨_,jS (n:=0) ?_,t2,t3⟩;rw [jP];simp only [esc,Nat.reduceAdd,lL,lT,ad,l1,s1,hD,Bool.not_true,Bool.not_false,Bool.and_true,cond_true]
end
end
section
section
variable {D:Dev} {n m:Int} {f:Cell} {g:A6} {r:Nat} {c:Cl} {h:A6}
theorem WP.apt (P:WP D n m f g r c h) {cs:List Cell} (g1:rd h r=rT cs):Apt cs r:=by
 obtain ⟨xr,xi,xt,xb,xm,ml,mp,es1,es2,h1,h2,_⟩:=P.row;rw [h1] at g1;cases g1;exact h2
theorem WP.pushed {off:Nat} {x y:Cell} {cs:List Cell} {h3:A6} (hv:∃ id cs,f=.f id cs) (P:WP D n m f g r c h) (g1:rd h r=rT cs) (hx:cs[off]?=some x) (r3:rd h3 r=rT (cs.set off y))
  (hid:∀ id,nmC y=some id->h.length<=id) (hk:∀ j,j<h.length->j≠r->nmC x≠some j->rd h3 j=rd h j) (hl:h.length<=h3.length) :
  Fr r h h3/\Low g.length g h3/\Apt (cs.set off y) r/\(∀ id,Nam h3 r id->g.length<=id)/\∀ (i:Nat) (z:Cell) (j:Nat),i≠off->cs[i]?=some z->nmC z=some j->rd h3 j=rd h j:=by
 have ha:=P.apt g1;have lt:∀ (i:Nat) (z:Cell) (j:Nat),cs[i]?=some z->nmC z=some j->j<h.length:=λi z j hi hz=>B9R hv P (B4R g1 hi hz)
 have nam3:∀ id,Nam h3 r id->Nam h r id\/h.length<=id:=by
  intro id hn;obtain ⟨R,z,hR,hz,hnm⟩:=hn;rw [r3] at hR;cases hR;rcases E5H hz with h1 | h1
  ·exact .inl ⟨_,z,g1,h1,hnm⟩
  ·subst h1;exact .inr (hid id hnm)
 have lg:=P.lo.2.1;refine ⟨⟨hl,λid hid hr hn=>hk id hid hr λe=>hn (B4R g1 hx e),nam3⟩,⟨P.lo.1,by omega,λid hid=>?_⟩,ha.set off λid e=>?_,λid hn=>?_,λi z j hi hz hj=>?_⟩
 ·rw [hk id (by omega) (by have:=P.ge;omega) λe=>?_]
  ·exact P.lo.2.2 id hid
  ·have:=P.low id (B4R g1 hx e);omega
 ·have h1:=hid id e;exact ⟨by have:=P.rlt;omega,λj z _ hz hj=>by have:=lt j z id hz hj;omega⟩
 ·rcases nam3 id hn with h1 | h1
  ·exact P.low id h1
  ·omega
 ·exact hk j (lt i z j hz hj) (λe=>ha.2 z (E5s hz) (by rw [hj,e])) λe=>ha.ne hz hx hj e hi rfl
theorem WP.mod {off t:Nat} {x:Cell} {cs:List Cell} (P:WP D n m f g r c h) (hv:∃ id cs,f=.f id cs) (g1:rd h r=rT cs) (hx:cs[off]?=some x) (hn:nmC x=some t) (R:Option Row) :
  Fr r h (h.set t R)/\Low g.length g (h.set t R)/\rd (h.set t R) r=rd h r/\(∀ (i:Nat) (z:Cell) (j:Nat),i≠off->cs[i]?=some z->nmC z=some j->rd (h.set t R) j=rd h j)/\rd (h.set t R) t=R:=by
 have nt:=B4R g1 hx hn;have tne:t≠r:=λe=>(P.apt g1).2 x (E5s hx) (by rw [hn,e])
 have hr':rd (h.set t R) r=rd h r:=A7 tne;exact ⟨⟨by simp,λid hid h1 h2=>A7 λe=>h2 (by rw [<-e];exact nt),λid hn=>.inl ((Nam.same hr').1 hn)⟩,P.lo.set (P.low t nt) _,hr',λi z j hi hz hj=>A7 λe=>(P.apt g1).ne hx hz hn hj (Ne.symm hi) e,B7 (B9R hv P nt)⟩
theorem WP.push (hv:∃ id cs,f=.f id cs) (P:WP D n m f g r c h) {off nn sz:Nat} {x:Cell} {cs l ys:List Cell} (g1:rd h r=rT cs) (hx:cs[off]?=some x) (hd:HeldX h x l nn sz r) (hl:nn<=100000) (hy:ys.length=sz) (hsz:0<sz) :
  ∃ id h2 h3,B4 h (pV r off)=some (.c x)/\jK (h++[rT ys]) sz (.c x) (sV h.length 0 1 sz)=some (sV id 0 (nn+1) sz,h2)/\F9 h2 (pV r off) (sV id 0 (nn+1) sz)=some h3 /\
   rd h3 r=rT (cs.set off (.sl id 0 (nn+1) sz))/\HeldX h3 (.sl id 0 (nn+1) sz) (l++ys) (nn+1) sz r /\
   Fr r h h3/\Low g.length g h3/\Apt (cs.set off (.sl id 0 (nn+1) sz)) r/\(∀ id,Nam h3 r id->g.length<=id)/\∀ (i:Nat) (z:Cell) (j:Nat),i≠off->cs[i]?=some z->nmC z=some j->rd h3 j=rd h j:=by
 obtain ⟨id,h2,h3,p1,p2,p3,p4,p5,p6,p7,p8,p9⟩:=E2V g1 hx hd hl hy hsz;obtain ⟨q1,q2,q3,q4,q5⟩:=P.pushed (h3:=h3) (y:=.sl id 0 (nn+1) sz) hv g1 hx p4 (λj e=>by cases e;omega) (λj hj hr hn=>p8 j hj hr λmm e=>hn (by rw [e];rfl)) (by omega);exact ⟨id,h2,h3,p1,p2,p3,p4,.inr ⟨id,rfl,p6,p7,by have:=P.rlt;omega⟩,q1,q2,q3,q4,q5⟩
theorem WP.pushRow (hv:∃ id cs,f=.f id cs) (P:WP D n m f g r c h) (a:Int) (hl:c.row.length<=100000) :
  ∃ x id h2 h3,B4 h (pV r 4)=some (.c x)/\jK (h++[rT [.i .i64 a]]) 1 (.c x) (sV h.length 0 1 1)=some (sV id 0 (c.row.length+1) 1,h2)/\F9 h2 (pV r 4) (sV id 0 (c.row.length+1) 1)=some h3 /\
   WP D n m f g r { c with row:=c.row++[a] } h3/\Fr r h h3:=by
 obtain ⟨xr,xi,xt,xb,xm,ml,mp,es1,es2,g1,g2,g3,g4,g5,g6,g7,g8,g9,g10,g11⟩:=id P.row;obtain ⟨id,h2,h3,p1,p2,p3,p4,p5,q1,q2,q3,q4,q5⟩:=P.push (off:=4) (ys:=[.i .i64 a]) hv g1 rfl g3 hl rfl (by decide);refine ⟨xr,id,h2,h3,p1,p2,p3,⟨q2,P.ge,q4,P.il,P.ilen,P.tlen,_,xi,xt,xb,xm,ml,mp,es1,es2,p4,q3,?_,g4.kept λid e=>q5 5 _ _ (by decide) rfl e,g5.kept λid e=>q5 6 _ _ (by decide) rfl e,g6.kept λid e=>q5 7 _ _ (by decide) rfl e,g7.kept λid e=>q5 8 _ _ (by decide) rfl e,?_,g9,?_,g11⟩,q1⟩
 ·have e1:encI (c.row++[a])=encI c.row++[.i .i64 a]:=A2g _ _;rw [e1,E43];exact p5
 ·rw [q5 10 (.m ml) ml (by decide) rfl rfl];exact g8
 ·rw [q5 11 (.m mp) mp (by decide) rfl rfl];exact g10
theorem WP.pushBlk (hv:∃ id cs,f=.f id cs) (P:WP D n m f g r c h) (a:Int) (hl:c.blocks.length<=100000) :
  ∃ x id h2 h3,B4 h (pV r 7)=some (.c x)/\jK (h++[rT [.i .i64 a]]) 1 (.c x) (sV h.length 0 1 1)=some (sV id 0 (c.blocks.length+1) 1,h2)/\F9 h2 (pV r 7) (sV id 0 (c.blocks.length+1) 1)=some h3 /\
   WP D n m f g r { c with blocks:=c.blocks++[a] } h3/\Fr r h h3:=by
 obtain ⟨xr,xi,xt,xb,xm,ml,mp,es1,es2,g1,g2,g3,g4,g5,g6,g7,g8,g9,g10,g11⟩:=id P.row;obtain ⟨id,h2,h3,p1,p2,p3,p4,p5,q1,q2,q3,q4,q5⟩:=P.push (off:=7) (ys:=[.i .i64 a]) hv g1 rfl g6 hl rfl (by decide);refine ⟨xb,id,h2,h3,p1,p2,p3,⟨q2,P.ge,q4,P.il,P.ilen,P.tlen,xr,xi,xt,_,xm,ml,mp,es1,es2,p4,q3,g3.kept λid e=>q5 4 _ _ (by decide) rfl e,g4.kept λid e=>q5 5 _ _ (by decide) rfl e,g5.kept λid e=>q5 6 _ _ (by decide) rfl e,?_,g7.kept λid e=>q5 8 _ _ (by decide) rfl e,?_,g9,?_,g11⟩,q1⟩
 ·have e1:encI (c.blocks++[a])=encI c.blocks++[.i .i64 a]:=A2g _ _;rw [e1,E43];exact p5
 ·rw [q5 10 (.m ml) ml (by decide) rfl rfl];exact g8
 ·rw [q5 11 (.m mp) mp (by decide) rfl rfl];exact g10
theorem WP.pushMade (hv:∃ id cs,f=.f id cs) (P:WP D n m f g r c h) {b:List UInt8} (hb:b.length=256) (hl:c.made.length<=100000) :
  ∃ x id h2 h3,B4 h (pV r 8)=some (.c x)/\jK (h++[rT (A5 b)]) 256 (.c x) (sV h.length 0 1 256)=some (sV id 0 (c.made.length+1) 256,h2)/\F9 h2 (pV r 8) (sV id 0 (c.made.length+1) 256)=some h3 /\
   WP D n m f g r { c with made:=c.made++[b] } h3/\Fr r h h3:=by
 obtain ⟨xr,xi,xt,xb,xm,ml,mp,es1,es2,g1,g2,g3,g4,g5,g6,g7,g8,g9,g10,g11⟩:=id P.row;obtain ⟨id,h2,h3,p1,p2,p3,p4,p5,q1,q2,q3,q4,q5⟩:=P.push (off:=8) (ys:=A5 b) hv g1 rfl g7 hl (by rw [A4,hb]) (by decide);refine ⟨xm,id,h2,h3,p1,p2,p3,⟨q2,P.ge,q4,P.il,P.ilen,P.tlen,xr,xi,xt,xb,_,ml,mp,es1,es2,p4,q3,g3.kept λid e=>q5 4 _ _ (by decide) rfl e,g4.kept λid e=>q5 5 _ _ (by decide) rfl e,g5.kept λid e=>q5 6 _ _ (by decide) rfl e,g6.kept λid e=>q5 7 _ _ (by decide) rfl e,?_,?_,g9,?_,g11⟩,q1⟩
 ·have e1:D1 (c.made++[b])=D1 c.made++A5 b:=by simp [D1]
  rw [e1,E43];exact p5
 ·rw [q5 10 (.m ml) ml (by decide) rfl rfl];exact g8
 ·rw [q5 11 (.m mp) mp (by decide) rfl rfl];exact g10
def R5 (c:Cl) (no:Int) (b:List UInt8):Cl:={ c with blocks:=c.blocks++[no],made:=c.made++[b] }
theorem D1B {no:Int} {b:List UInt8} (hv:∃ id cs,f=.f id cs) (P:WP D n m f g r c h) (hb:b.length=256) (h1:c.blocks.length<=100000) (h2:c.made.length<=100000) :
  ∃ h',pZ [pV r 0,iV no,.a (A5 b)] h=some (.t [],h')/\WP D n m f g r (R5 c no b) h'/\Fr r h h':=by
 have hbl:(A5 b).length=256:=by rw [A4,hb]
 have P1:=P.more hv [rT (A5 b)];have F1:Fr r h (h++[rT (A5 b)]):=Fr.low ((Low.refl (E44 _)).new _) P.rlt;obtain ⟨G,hG⟩:∃ G,G=h++[rT (A5 b)]:=⟨_,rfl⟩;have hl0:Loc G r h.length:=by
  rw [hG];refine ⟨by simp,by have:=P.rlt;omega,λhn=>?_⟩;have:=B9R hv P ((Nam.same (D4 P.rlt)).1 hn);omega
 have hr0:rd G h.length=rT (A5 b):=by rw [hG];exact S8
 rw [<-hG] at P1 F1;obtain ⟨x,id,g2,g3,a1,a2,a3,a4,a5⟩:=P1.pushBlk hv no h1;obtain ⟨l1,l2⟩:=a5.loc hl0;rw [hr0] at l2;have lB:C8 g3 256 (pV h.length 0)=some (.a (A5 b)):=B8 l2 hbl;obtain ⟨x',gG,g4,g5,b1,b2,b3,b4,b5⟩:=a4.pushMade hv hb h2;refine ⟨g5,A8J (n:=0) ?_,b4,F1.trans (a5.trans b5)⟩;rw [A8d];have ef:D9 (E41 256 (Cell.i .u8 0)) [(0,256,.a (A5 b))]=some (A5 b):=C9x hb;have ef0:D9 [o0] [(0,1,iV no)]=some [.i .i64 no]:=rfl;have es:(g3++[none]).set g3.length (rT (A5 b))=g3++[rT (A5 b)]:=by simp
 rw [hG] at a1 a2;simp only [E45,E5x,E5g,E43,E5a,E5u,E5l] at a2;generalize A5 b=B at *;generalize E41 256 (Cell.i .u8 0)=Z at *;simp only [esc,Nat.reduceAdd,Nat.add_zero,ef0,a1,a2,a3,lB,ef,es,b1,b2,b3];rfl
end
end
section
def gR (D:Dev) (n:Int) (c:Cl) (ino:Int):Bool:=!(decide (ino=1)||decide (kdV D n ino=0)||decide (kdV D n ino=2)&&(c.par ino).isSome)
def B0B (c:Cl) (ino:Int):Cl:={ c with lnk:=uI c.lnk ino ((c.lnk ino).getD 0+1) }
def D4T (c:Cl) (dir ino:Int):Cl:={ c with par:=uI c.par ino dir,row:=c.row++[ino] }
def cX (D:Dev) (n:Int) (c:Cl) (dir ino:Int):Cl:=bif gR D n c ino then (bif (c.par ino).isSome then B0B c ino else D4T (B0B c ino) dir ino) else c
section
variable {D:Dev} {n m:Int} {f:Cell} {g:A6} {r:Nat} {c:Cl} {h:A6}
theorem WP.setLnk (hv:∃ id cs,f=.f id cs) (P:WP D n m f g r c h) (a v:Int):∃ ml h',B4 h (.c (.p r 10))=some (.c (.m ml))/\(∀ ok i,A7f h (some .i64) (.c o0) ok (.c (.m ml)) (.c (.i .i64 i))=some (A4Y ok (.c (.i .i64 ((c.lnk i).getD 0))) (c.lnk i).isSome)) /\
  A17 h (some .i64) (.c (.m ml)) (.c (.i .i64 a)) (.c (.i .i64 v))=some h'/\WP D n m f g r { c with lnk:=uI c.lnk a v } h'/\Fr r h h':=by
 obtain ⟨xr,xi,xt,xb,xm,ml,mp,es1,es2,g1,g2,g3,g4,g5,g6,g7,g8,g9,g10,g11⟩:=id P.row;have l1:B4 h (.c (.p r 10))=some (.c (.m ml)):=B5 g1 rfl rfl;obtain ⟨q1,q2,q3,q4,q5⟩:=P.mod (off:=10) (x:=.m ml) hv g1 rfl rfl (some (S4 (A71 (.i .i64 a) (.c (.i .i64 v)) es1)));refine ⟨ml,_,l1,λok i=>E1m g8 g9,E2u g8 g9,⟨q2,P.ge,λid hn=>P.low id ((Nam.same q3).1 hn),P.il,P.ilen,P.tlen,xr,xi,xt,xb,xm,ml,mp,_,es2,by rw [q3];exact g1,g2,g3.kept λid e=>q4 4 _ _ (by decide) rfl e,g4.kept λid e=>q4 5 _ _ (by decide) rfl e,g5.kept λid e=>q4 6 _ _ (by decide) rfl e,g6.kept λid e=>q4 7 _ _ (by decide) rfl e,g7.kept λid e=>q4 8 _ _ (by decide) rfl e,q5,g9.put a v,?_,g11⟩,q1⟩;rw [q4 11 (.m mp) mp (by decide) rfl rfl];exact g10
theorem WP.setPar (hv:∃ id cs,f=.f id cs) (P:WP D n m f g r c h) (a v:Int):∃ mp h',B4 h (.c (.p r 11))=some (.c (.m mp))/\(∀ ok i,A7f h (some .i64) (.c o0) ok (.c (.m mp)) (.c (.i .i64 i))=some (A4Y ok (.c (.i .i64 ((c.par i).getD 0))) (c.par i).isSome)) /\
  A17 h (some .i64) (.c (.m mp)) (.c (.i .i64 a)) (.c (.i .i64 v))=some h'/\WP D n m f g r { c with par:=uI c.par a v } h'/\Fr r h h':=by
 obtain ⟨xr,xi,xt,xb,xm,ml,mp,es1,es2,g1,g2,g3,g4,g5,g6,g7,g8,g9,g10,g11⟩:=id P.row;have l1:B4 h (.c (.p r 11))=some (.c (.m mp)):=B5 g1 rfl rfl;obtain ⟨q1,q2,q3,q4,q5⟩:=P.mod (off:=11) (x:=.m mp) hv g1 rfl rfl (some (S4 (A71 (.i .i64 a) (.c (.i .i64 v)) es2)));refine ⟨mp,_,l1,λok i=>E1m g10 g11,E2u g10 g11,⟨q2,P.ge,λid hn=>P.low id ((Nam.same q3).1 hn),P.il,P.ilen,P.tlen,xr,xi,xt,xb,xm,ml,mp,es1,_,by rw [q3];exact g1,g2,g3.kept λid e=>q4 4 _ _ (by decide) rfl e,g4.kept λid e=>q4 5 _ _ (by decide) rfl e,g5.kept λid e=>q4 6 _ _ (by decide) rfl e,g6.kept λid e=>q4 7 _ _ (by decide) rfl e,g7.kept λid e=>q4 8 _ _ (by decide) rfl e,?_,g9,q5,g11.put a v⟩,q1⟩;rw [q4 10 (.m ml) ml (by decide) rfl rfl];exact g8
theorem WP.view (P:WP D n m f g r c h):C8 h 4 (pV r 0)=some (.a (vwC D.length n m f)):=by
 obtain ⟨xr,xi,xt,xb,xm,ml,mp,es1,es2,g1,_⟩:=P.row;exact cP g1 (by simp [wkC]) rfl
theorem E01 {dir ino:Int} (hD:okD D) (hv:IsView g f D) (P:WP D n m f g r c h) (hl:c.row.length<=100000) (hk:0<=(c.lnk ino).getD 0/\(c.lnk ino).getD 0<1000000) :
  ∃ h',jC [pV r 0,iV dir,iV ino] h=some (bV (gR D n c ino),h')/\WP D n m f g r (cX D n c dir ino) h'/\Fr r h h':=by
 have hv2:=hv.get;have lV:=P.view;have hI:=vL (n:=n) (m:=m) (i:=ino) hD (hv.since P.lo);rw [A6B] at hI;have f0:∀ k l s p d,C06 (.a (E6 k l s p d)) 0=some (iV k):=λ_ _ _ _ _=>rfl
 obtain ⟨mp,h9,b1,b2,b3,b4,b5⟩:=P.setPar hv2 ino dir;have b2':=b2 true ino;obtain ⟨ml,h1,a1,a2,a3,a4,a5⟩:=P.setLnk hv2 ino ((c.lnk ino).getD 0+1);have a2':=a2 false ino;have w1:IntKind.wrap .i64 ((c.lnk ino).getD 0+1)=(c.lnk ino).getD 0+1:=wrap_i64 (by omega) (by omega);have no:gR D n c ino=false->∃ h',jC [pV r 0,iV dir,iV ino] h=some (bV false,h')/\WP D n m f g r c h'/\Fr r h h':=by
  intro hb;refine ⟨h,jT (n:=0) ?_,P,Fr.refl r h⟩;rw [cD];unfold gR at hb;simp only [Bool.not_eq_false',E5V,E42,decide_eq_true_eq] at hb;by_cases c1:ino=1
  ·have n1:(1:Int)=1:=rfl;subst c1;generalize vwC D.length n m f=V at *;simp only [esc,Nat.reduceAdd,lV,hI,f0,b1,b2',A4Y,vW,decide_true]
  ·by_cases c2:kdV D n ino=0
   ·generalize vwC D.length n m f=V at *;simp only [esc,Nat.reduceAdd,lV,hI,f0,b1,b2',A4Y,vW,c1,c2,decide_true,decide_false]
   ·have c3:kdV D n ino=2/\(c.par ino).isSome=true:=by
     rcases hb with (h | h) | h
     ·exact absurd h c1
     ·exact absurd h c2
     ·exact h
    obtain ⟨c3,c4⟩:=c3;have n20:¬ (2:Int)=0:=by decide
    generalize vwC D.length n m f=V at *;simp only [esc,Nat.reduceAdd,lV,hI,f0,b1,b2',A4Y,vW,c1,c3,c4,n20,decide_true,decide_false]
 cases hb:gR D n c ino with
 | false =>
  obtain ⟨h',e1,e2,e3⟩:=no hb;exact ⟨h',e1,by unfold cX;rw [hb];exact e2,e3⟩
 | true =>
  unfold cX;rw [hb];unfold gR at hb;simp only [E5O,Bool.or_eq_false_iff,Bool.and_eq_false_iff,decide_eq_false_iff_not] at hb;obtain ⟨⟨c1,c2⟩,c3⟩:=hb;have P1:WP D n m f g r (B0B c ino) h1:=a4;cases hs:(c.par ino).isSome with
  | true =>
   have c4:¬ kdV D n ino=2:=by
    rcases c3 with h | h
    ·exact h
    ·rw [hs] at h;cases h
   refine ⟨h1,jT (n:=0) ?_,P1,a5⟩;rw [cD];rw [hs] at b2';generalize vwC D.length n m f=V at *;simp only [esc,Nat.reduceAdd,lV,hI,f0,b1,b2',A4Y,vW,c1,c2,c4,decide_false,a1,a2',A0R,w1,a3,cD,iN]
  | false =>
   obtain ⟨mp',h2,d1,d2,d3,d4,d5⟩:=P1.setPar hv2 ino dir;obtain ⟨x,id,g2,g3,e1,e2,e3,e4,e5⟩:=d4.pushRow hv2 ino hl;have e4':WP D n m f g r (D4T (B0B c ino) dir ino) g3:=e4;refine ⟨g3,jT (n:=0) ?_,e4',(a5.trans d5).trans e5⟩;rw [cD];rw [hs] at b2';have ef0:D9 [o0] [(0,1,iV ino)]=some [.i .i64 ino]:=rfl;generalize vwC D.length n m f=V at *;by_cases c4:kdV D n ino=2
   ·have n20:¬ (2:Int)=0:=by decide
    simp only [esc,Nat.reduceAdd,lV,hI,f0,b1,b2',A4Y,vW,c1,c4,n20,decide_true,decide_false,a1,a2',A0R,w1,a3,d1,d3,ef0,e1,e2,e3,iN]
   ·simp only [esc,Nat.reduceAdd,lV,hI,f0,b1,b2',A4Y,vW,c1,c2,c4,decide_true,decide_false,a1,a2',A0R,w1,a3,d1,d3,ef0,e1,e2,e3,iN]
end
end
section
def hmS (D:Dev) (X:List Int) (nm:List UInt8):Option Slt:=if P8 X nm=0 then none else V8 (blk D (P8 X nm)) nm
def B9Z (no:Int) (o:Option Slt):List Cell:=.i .i64 no::slC o
theorem E0q {D:Dev} {n m:Int} {f xr xi xt xb xm:Cell} {lost:Int} {ml mp:Nat} (hf:f.isX=false) (h1:xr.isX=false) (h2:xi.isX=false) (h3:xt.isX=false) (h4:xb.isX=false) (h5:xm.isX=false):noX (wkC D n m f xr xi xt xb xm lost ml mp)=true:=by
 simp only [noX,wkC,E5J,List.all_nil,hf,h1,h2,h3,h4,h5];rfl
theorem HeldX.isX {h:A6} {x:Cell} {cs:List Cell} {n sz r:Nat} (hx:HeldX h x cs n sz r):x.isX=false:=by
 rcases hx with ⟨_,_,rfl⟩ | ⟨id,rfl,_⟩<;>rfl
section
variable {D:Dev} {n m:Int} {f:Cell} {g:A6} {r:Nat} {c:Cl} {h:A6}
def VwR (h:A6) (r:Nat) (V:List Cell):Prop:=∃ cs w,rd h r=some ⟨cs,w⟩/\cs.take 4=V/\4<=cs.length/\noX cs=true
theorem VwR.ro {V:List Cell} (a:VwR h r V):VwR (ro h) r V:=by
 obtain ⟨cs,w,h1,h2,h3,h4⟩:=a;exact ⟨cs,false,B7F h1 h4,h2,h3,h4⟩
theorem VwR.more {V:List Cell} (a:VwR h r V) (t:A6):VwR (h++t) r V:=by
 obtain ⟨cs,w,h1,h2⟩:=a;exact ⟨cs,w,B6 h1,h2⟩
theorem VwR.since {V:List Cell} {h':A6} (a:VwR h r V) (hl:Low h.length h h'):VwR h' r V:=by
 obtain ⟨cs,w,h1,h2⟩:=a;exact ⟨cs,w,hl.rd h1,h2⟩
theorem VwR.load {V:List Cell} (a:VwR h r V):C8 h 4 (pV r 0)=some (.a V):=by
 obtain ⟨cs,w,h1,h2,h3,h4⟩:=a;rw [cP h1 (by omega) (by
  rw [E5k];have:noX (cs.take 4)=true:=by
   unfold noX at h4 ⊢;rw [E5S] at h4 ⊢;exact λx hx=>h4 x (List.mem_of_mem_take hx)
  rw [this];simp),E5k,h2]
theorem WP.vw (hv:∃ id cs,f=.f id cs) (P:WP D n m f g r c h):VwR h r (vwC D.length n m f):=by
 obtain ⟨xr,xi,xt,xb,xm,ml,mp,es1,es2,g1,g2,g3,g4,g5,g6,g7,_⟩:=P.row;obtain ⟨_,_,rfl⟩:=hv;exact ⟨_,true,g1,rfl,by simp [wkC],E0q rfl g3.isX g4.isX g5.isX g6.isX g7.isX⟩
theorem D5J {d:Int} {t:List Int} {nm:List UInt8} (hD:okD D) (hv:IsView h f D) (hr:VwR h r (vwC D.length n m f)) (ht:t.length=32) (hs:nm.length<9223372036854775807) :
  pY [pV r 0,.a (encI (d::t)),.c (.s nm)] h=some (.t [.a (B9Z (P8 (d::t) nm) (hmS D (d::t) nm)),.c (.b (hmS D (d::t) nm).isSome)],h):=by
 have hX:(encI (d::t)).length=33:=by simp [A8,ht]
 have hv1:=hv.ro;have lV:=λtt=>(hr.ro.more tt).load
 have key:∃ g',pQ 0 [pV r 0,.a (encI (d::t)),.c (.s nm)] (ro h)=some (.t [.a (B9Z (P8 (d::t) nm) (hmS D (d::t) nm)),.c (.b (hmS D (d::t) nm).isSome)],g'):=by
  generalize ro h=g at *;have hM:=λh=>D0c (s:=nm) hs (h:=h)
  have hP:=λh=>C6w (d:=d) (h:=h) ht (C3o (s:=nm))
  have U8:=D3g (d::t) nm;have eP:xT nm%B9 d=A07 (d::t) nm:=rfl;rw [eP] at hP;have ad:∀ q,J3 32 1 (pV q 1) (iV (A07 (d::t) nm:Nat))=some (pV q (1+A07 (d::t) nm)):=λq=>by
   rw [D7G (by omega) (by omega)];simp
  have l1:ld1 (rT (encI (d::t))) (1+A07 (d::t) nm)=some (iV (P8 (d::t) nm)):=by
   rw [A2s];have:(encI (d::t))[1+A07 (d::t) nm]?=some (.i .i64 (P8 (d::t) nm)):=by
    rw [F6,Nat.add_comm,E5N,E40 (by omega)];unfold P8;rw [List.tail_cons,E47,E40 (by omega)];rfl
   rw [this];rfl
  have ef0:D9 [o0,o0,.s [],o0] []=some (B9Z 0 none):=rfl;have ef1:∀ (no:Int) (o:Option Slt),D9 [o0,o0,.s [],o0] [(0,1,iV no),(1,3,.a (slC o))]=some (B9Z no o):=λno o=>by cases o<;>rfl
  have z4:∀ o no,stN (rT [o0,o0,.s [],o0]) 0 4 (B9Z no o)=rT (B9Z no o):=λo no=>by cases o<;>rfl
  have l4:∀ o no,ldN (rT (B9Z no o)) 0 4=some (.a (B9Z no o)):=λo no=>by cases o<;>rfl
  have s3:∀ o,stN (rT [o0,.s [],o0]) 0 3 (slC o)=rT (slC o):=λo=>by cases o<;>rfl
  have l3:∀ o,ldN (rT (slC o)) 0 3=some (.a (slC o)):=λo=>by cases o<;>rfl
  have l33:ldN (rT (encI (d::t))) 0 33=some (.a (encI (d::t))):=gB hX;rw [A8c];unfold hmS;have hB:=λtt=>dL (n:=n) (m:=m) (no:=P8 (d::t) nm) (h:=g++tt) hD (hv1.more _)
  have hF:=λh=>A9L (b:=blk D (P8 (d::t) nm)) (nm:=nm) (h:=h) (O2 hD)
  generalize P8 (d::t) nm=B at *;generalize A07 (d::t) nm=P at *;by_cases c0:B=0
  ·rw [if_pos c0,c0];rw [c0] at l1;generalize encI (d::t)=X at *;generalize vwC D.length n m f=V at *;exact ⟨_,by simp only [esc,Y2,N6,dY,S7,R6,J1,gB,jJ,Nat.reduceAdd,hX,hM,hP,ad,l1,l33,decide_true,ef0,z4,l4,E5o]<;>rfl⟩
  ·rw [if_neg c0];generalize V8 (blk D B) nm=o at *;generalize A5 (blk D B)=y at *;generalize encI (d::t)=X at *;generalize vwC D.length n m f=V at *;exact ⟨_,by simp only [esc,Y2,N6,dY,S7,R6,J1,gB,jJ,Nat.reduceAdd,hX,hM,hP,ad,l1,l33,c0,decide_false,lV,hB,hF,ef1,z4,l4,s3,l3]<;>rfl⟩
 obtain ⟨g',e⟩:=key;exact A5H e (by cases hmS D (d::t) nm<;>rfl)
end
end
section
def LocV (h:A6) (r id:Nat) (cs:List Cell):Prop:=Loc h r id/\rd h id=rT cs
section
variable {D:Dev} {n m:Int} {f:Cell} {g:A6} {r:Nat} {c:Cl} {h:A6}
theorem LocV.fr {h':A6} {id:Nat} {cs:List Cell} (a:LocV h r id cs) (b:Fr r h h'):LocV h' r id cs:=by
 obtain ⟨h1,h2⟩:=b.loc a.1;exact ⟨h1,by rw [h2];exact a.2⟩
theorem LocV.set {id j:Nat} {cs:List Cell} {x:Option Row} (a:LocV h r id cs) (hj:j≠id) (hl:j≠r):LocV (h.set j x) r id cs:=by
 refine ⟨⟨by simpa using a.1.1,a.1.2.1,λhn=>a.1.2.2 ((Nam.same (A7 hl)).1 hn)⟩,by rw [A7 hj];exact a.2⟩
theorem LocV.self {id:Nat} {cs cs':List Cell} (a:LocV h r id cs):LocV (h.set id (rT cs')) r id cs' :=
 ⟨⟨by simpa using a.1.1,a.1.2.1,λhn=>a.1.2.2 ((Nam.same (A7 a.1.2.1)).1 hn)⟩,B7 a.1.1⟩
theorem LocV.new (hv:∃ id cs,f=.f id cs) (P:WP D n m f g r c h) {t:A6} {k:Nat} {cs:List Cell} (hk:t[k]?=some (rT cs)):LocV (h++t) r (h.length+k) cs:=by
 have hk2:=(List.getElem?_eq_some_iff.1 hk).1;refine ⟨⟨by simp;omega,by have:=P.rlt;omega,λhn=>?_⟩,?_⟩
 ·have:=B9R hv P ((Nam.same (D4 P.rlt)).1 hn);omega
 ·unfold rd;rw [E5e (by omega),show h.length+k-h.length=k by omega,hk];rfl
theorem D8i {k:Nat} {x many:Int} {pm pw:Nat} (P:WP D n m f g r c h) (hm:LocV h r pm [.i .i64 many]) (hw:LocV h r pw [.p r 0]) (hk:k<128) :
  ∃ h',dQ [iV (k:Int),iV x,pV pm 0,pV pw 0] h=some (bV (decide ((k:Int)+6<many) && !decide (T0 D n c x=0)),h') /\
   WP D n m f g r (if (k:Int)+6<many then dG D n c x else c) h'/\Fr r h h':=by
 have l1:B4 h (pV pm 0)=some (iV many):=B5 hm.2 rfl rfl;have l2:B4 h (pV pw 0)=some (pV r 0):=B5 hw.2 rfl rfl;have w1:IntKind.wrap .i64 ((k:Int)+6)=(k:Int)+6:=wrap_i64 (by omega) (by omega);by_cases c1:(k:Int)+6<many
 ·obtain ⟨h',e1,e2,e3⟩:=B7g (no:=x) P;refine ⟨h',pX (n:=0) ?_,by rw [if_pos c1];exact e2,e3⟩;rw [pP];simp only [esc,w1,l1,l2,c1,e1,E5d]
 ·refine ⟨h,pX (n:=0) ?_,by rw [if_neg c1];exact P,Fr.refl r h⟩;rw [pP];simp only [esc,w1,l1,l2,c1,E48]
def gL (D:Dev) (n many:Int) (s:Cl × List UInt8) (k:Nat):Cl × List UInt8 :=
 if ptP s.2 k=0 then s else
  (if (k:Int)+6<many then dG D n s.1 (ptP s.2 k) else s.1,bif decide ((k:Int)+6<many) && !decide (T0 D n s.1 (ptP s.2 k)=0) then s.2 else I6 s.2 (2*k) (A9 2 0))
def bK (D:Dev) (n many:Int):Nat->Nat->Cl × List UInt8->Cl × List UInt8
 | 0,_,s=>s
 | e+1,k,s=>bK D n many e (k+1) (gL D n many s k)
theorem B9I {D:Dev} {n many:Int} {s:Cl × List UInt8} {k:Nat} (hs:s.2.length=256) (hk:k<128):(gL D n many s k).2.length=256:=by
 unfold gL;split
 ·exact hs
 ·dsimp only;cases (decide ((k:Int)+6<many) && !decide (T0 D n s.1 (ptP s.2 k)=0)) with
  | true=>exact hs
  | false=>rw [cond_false,O1 (by rw [hs,O7];omega)];exact hs
theorem B1j {D:Dev} {n many:Int}:∀ {e k:Nat} {s:Cl × List UInt8},k+e<=128->s.2.length=256->(bK D n many e k s).2.length=256
 | 0,_,s,_,hs=>hs
 | e+1,k,s,hk,hs=>by
  rw [bK];exact B1j (by omega) (B9I hs (by omega))
theorem D3D {many:Int} {pm pw q0 q1 q:Nat} {h0:A6} (h0g:g.length<=h0.length) (a0:h0.length<=q0) (a1:h0.length<=q1) (n1:q0≠q1) (n2:q0≠pm) (n3:q0≠pw):∀ (e k M:Nat) (s:Cl × List UInt8) (h:A6),k+e=128->e<M->s.2.length=256 ->
  WP D n m f g r s.1 h->Fr r h0 h->LocV h r pm [.i .i64 many]->LocV h r pw [.p r 0]->LocV h r q0 (A5 s.2)->(∃ z,z.length=256/\LocV h r q1 z) ->
  ∃ h',rB q M (.c (.f 98 [(pm,0),(pw,0)])) (pV q0 0) (pV q1 0) (iV (k:Int)) h=some (.a (A5 (bK D n many e k s).2),h')/\WP D n m f g r (bK D n many e k s).1 h'/\Fr r h0 h'
 | e,k,0,s,h,_,hM,_,_,_,_,_,_,_=>by omega
 | 0,k,M+1,s,h,hk,hM,hs,P,F,hm,hw,hb,hz=>by
  have c0:¬ ((k:Int)<128):=by omega
  obtain ⟨z,wY,hz⟩:=hz;have hl:(A5 s.2).length=256:=by rw [A4,hs]
  have l1:=B8 (n:=256) hb.2 hl;have s1:=storeAll (n:=256) (xs:=A5 s.2) hz.2 wY hl;have hz2:=hz.self (cs':=A5 s.2);have l2:=B8 (n:=256) hz2.2 hl;refine ⟨h.set q1 (rT (A5 s.2)),?_,P.set hz.1 (by omega),F.set hz.1 a1⟩;rw [mY];unfold bK;generalize A5 s.2=B at *;simp only [esc,c0,l1,s1,l2]
 | e+1,k,M+1,s,h,hk,hM,hs,P,F,hm,hw,hb,hz=>by
  have c0:((k:Int)<128):=by omega
  have hk1:k<128:=by omega
  have hl:(A5 s.2).length=256:=by rw [A4,hs]
  have l1:=B8 (n:=256) hb.2 hl;have hG:=C8R (h:=h) hs hk1;have w1:=C6 (show k+1<9223372036854775808 by omega);have hfs:=B9I (D:=D) (n:=n) (many:=many) hs hk1;have ih:=λh=>D3D (q:=q) (many:=many) h0g a0 a1 n1 n2 n3 e (k+1) M (gL D n many s k) h (by omega) (by omega) hfs
  have hcv:∀ (k x:Val) (h:A6),A2a rU (.c (.f 98 [(pm,0),(pw,0)])) [k,x] h=dQ [k,x,pV pm 0,pV pw 0] h:=λ_ _ _=>Eq.trans rfl rfl
  rw [mY,bK];by_cases cz:ptP s.2 k=0
  ·have ef:gL D n many s k=s:=by unfold gL;rw [if_pos cz]
   rw [ef] at ih ⊢;obtain ⟨h',e1,e2⟩:=ih h P F hm hw hb hz;refine ⟨h',?_,e2⟩;rw [cz] at hG;generalize A5 s.2=B at *;simp only [esc,c0,l1,hG,bP,w1];exact e1
  ·obtain ⟨h1,f1,f2,f3⟩:=D8i (x:=ptP s.2 k) P hm hw hk1;have hb1:=hb.fr f3;have hm1:=hm.fr f3;have hw1:=hw.fr f3;obtain ⟨z,wY,hz⟩:=hz;have hz1:=hz.fr f3;cases hok:(decide ((k:Int)+6<many) && !decide (T0 D n s.1 (ptP s.2 k)=0)) with
   | true =>
    have ef:gL D n many s k=(if (k:Int)+6<many then dG D n s.1 (ptP s.2 k) else s.1,s.2):=by unfold gL;rw [if_neg cz,hok];rfl
    rw [ef] at ih ⊢;obtain ⟨h',e1,e2⟩:=ih h1 f2 (F.trans f3) hm1 hw1 hb1 ⟨z,wY,hz1⟩;refine ⟨h',?_,e2⟩;rw [hok] at f1
    try dsimp only at e1
    generalize A5 s.2=B at *;simp only [esc,c0,l1,hG,cz,hcv,f1,bP,w1];exact e1
   | false =>
    have ef:gL D n many s k=(if (k:Int)+6<many then dG D n s.1 (ptP s.2 k) else s.1,I6 s.2 (2*k) (A9 2 0)):=by unfold gL;rw [if_neg cz,hok];rfl
    rw [ef] at ih hfs ⊢;have hW:=λh=>X7 (h:=h) (l:=s.2) hs (a:=((2*k:Nat):Int)) (w:=2) (v:=0)
    rw [D9E (by omega)] at hW;have lb1:=B8 (n:=256) hb1.2 hl;have hl2:(A5 (I6 s.2 (2*k) (A9 2 0))).length=256:=by rw [A4];exact hfs
    have sb1:=storeAll (n:=256) (xs:=A5 (I6 s.2 (2*k) (A9 2 0))) hb1.2 hl hl2;obtain ⟨h',e1,e2⟩:=ih _ (f2.set hb1.1 (by omega)) ((F.trans f3).set hb1.1 a0) (hm1.set n2 hb1.1.2.1) (hw1.set n3 hb1.1.2.1) hb1.self ⟨z,wY,hz1.set n1 hb1.1.2.1⟩;refine ⟨h',?_,e2⟩;rw [hok] at f1
    try dsimp only at e1
    generalize A5 (I6 s.2 (2*k) (A9 2 0))=B2 at *;generalize A5 s.2=B at *;simp only [esc,c0,l1,hG,cz,hcv,f1,lb1,D5j (show k<128 by omega),hW,sb1,bP,w1];exact e1
end
end
section
theorem Z2 {x:List Int} {l:List (List Int)}:T1 (x::l)=encI x++T1 l:=rfl
theorem U4:∀ {l:List (List Int)},(∀ x∈l,x.length=11)->(T1 l).length=l.length*11
 | [],_=>rfl
 | x::l,h=>by
  rw [Z2,E43,A8,h x (E5n ..),U4 λy hy=>h y (E5m _ hy),E5a];omega
theorem B1q (l:List (List Int)):noX (T1 l)=true:=by
 induction l with
 | nil=>rfl
 | cons x l ih =>
  rw [Z2];have h1:=bF x;simp only [noX,List.all_append,E42] at h1 ih ⊢;exact ⟨h1,ih⟩
theorem C6B:∀ {l:List (List Int)} {i:Nat} (h:∀ x∈l,x.length=11) (hi:i<l.length),((T1 l).drop (i*11)).take 11=encI l[i]
 | x::l,0,h,_=>by
  have:=h x (E5n ..);rw [Z2,Nat.zero_mul,E5k,List.take_left' (by rw [A8,this])];rfl
 | x::l,i+1,h,hi=>by
  have:=h x (E5n ..);rw [Z2,show (i+1)*11=11+i*11 by omega,<-E5W,List.drop_left' (by rw [A8,this])];exact C6B (λy hy=>h y (E5m _ hy)) (by simpa using hi)
theorem C6H:∀ {l:List (List Int)} {i:Nat} {y:List Int} (h:∀ x∈l,x.length=11) (hy:y.length=11) (hi:i<l.length),lay (T1 l) (i*11) (encI y)=T1 (l.set i y)
 | x::l,0,y,h,hy,_=>by
  have:=h x (E5n ..);unfold lay;rw [Z2,Nat.zero_mul,E5X,E5g,A8,E5l,hy,List.drop_left' (by rw [A8,this])];rfl
 | x::l,i+1,y,h,hy,hi=>by
  have hx:=h x (E5n ..);have ih:=C6H (l:=l) (i:=i) (y:=y) (λy hy=>h y (E5m _ hy)) hy (by simpa using hi);rw [E5M,Z2,Z2,<-ih];unfold lay;rw [show (i+1)*11=(encI x).length+i*11 by rw [A8,hx];omega,List.take_length_add_append,Nat.add_assoc,List.drop_length_add_append,E45]
section
variable {D:Dev} {n m:Int} {f:Cell} {g:A6} {r:Nat} {c:Cl} {h:A6}
theorem WP.setIno (hv:∃ id cs,f=.f id cs) (P:WP D n m f g r c h) {k:Nat} {l:List Int} (hk:k<c.ino.length) (hl:l.length=11) :
  ∃ id h',B4 h (pV r 5)=some (sV id 0 c.ino.length 11)/\rd h id=rT (T1 c.ino)/\E1 h 11 (pV id (k*11)) (.a (encI l))=some h'/\WP D n m f g r { c with ino:=c.ino.set k l } h'/\Fr r h h':=by
 obtain ⟨xr,xi,xt,xb,xm,ml,mp,es1,es2,g1,g2,g3,g4,g5,g6,g7,g8,g9,g10,g11⟩:=id P.row;rcases g4 with ⟨e,_,_⟩ | ⟨t,rfl,t1,t2,t3⟩
 ·omega
 ·have l1:B4 h (pV r 5)=some (sV t 0 c.ino.length 11):=B5 g1 rfl rfl;have st:=B1w (n:=11) (off:=k*11) (xs:=encI l) t1 (by rw [A8,hl]) (by rw [t2];omega);rw [C6H P.il hl hk] at st;obtain ⟨q1,q2,q3,q4,q5⟩:=P.mod (off:=5) (x:=.sl t 0 c.ino.length 11) hv g1 rfl rfl (rT (T1 (c.ino.set k l)));have P6:∀ x∈c.ino.set k l,x.length=11:=λx hx=>by
   rcases E5H hx with h1 | h1
   ·exact P.il x h1
   ·rw [h1];exact hl
  refine ⟨t,_,l1,t1,st,⟨q2,P.ge,λid hn=>P.low id ((Nam.same q3).1 hn),P6,by simpa using P.ilen,P.tlen,xr,_,xt,xb,xm,ml,mp,es1,es2,by rw [q3];exact g1,g2,g3.kept λid e=>q4 4 _ _ (by decide) rfl e,.inr ⟨t,by simp,q5,by rw [U4 P6],t3⟩,g5.kept λid e=>q4 6 _ _ (by decide) rfl e,g6.kept λid e=>q4 7 _ _ (by decide) rfl e,g7.kept λid e=>q4 8 _ _ (by decide) rfl e,?_,g9,?_,g11⟩,q1⟩
  ·rw [q4 10 (.m ml) ml (by decide) rfl rfl];exact g8
  ·rw [q4 11 (.m mp) mp (by decide) rfl rfl];exact g10
theorem WP.setLost (hv:∃ id cs,f=.f id cs) (P:WP D n m f g r c h) (a:Int):∃ h',B4 h (pV r 9)=some (iV c.lost)/\F9 h (pV r 9) (iV a)=some h'/\WP D n m f g r { c with lost:=a } h'/\Fr r h h':=by
 obtain ⟨xr,xi,xt,xb,xm,ml,mp,es1,es2,g1,g2,g3,g4,g5,g6,g7,g8,g9,g10,g11⟩:=id P.row;have l1:B4 h (pV r 9)=some (iV c.lost):=B5 g1 rfl rfl;have s1:=F5 (x:=.i .i64 a) (off:=9) g1 (by simp [wkC]);obtain ⟨q1,q2,q3,q4,q5⟩:=P.pushed (off:=9) (y:=.i .i64 a) (h3:=h.set r (rT ((wkC D n m f xr xi xt xb xm c.lost ml mp).set 9 (.i .i64 a)))) hv g1 rfl (B7 (C5 g1)) (λj e=>by cases e) (λj hj hr hn=>A7 (Ne.symm hr)) (by simp);refine ⟨_,l1,s1,⟨q2,P.ge,q4,P.il,P.ilen,P.tlen,xr,xi,xt,xb,xm,ml,mp,es1,es2,B7 (C5 g1),q3,g3.kept λid e=>q5 4 _ _ (by decide) rfl e,g4.kept λid e=>q5 5 _ _ (by decide) rfl e,g5.kept λid e=>q5 6 _ _ (by decide) rfl e,g6.kept λid e=>q5 7 _ _ (by decide) rfl e,g7.kept λid e=>q5 8 _ _ (by decide) rfl e,?_,g9,?_,g11⟩,q1⟩
 ·rw [q5 10 (.m ml) ml (by decide) rfl rfl];exact g8
 ·rw [q5 11 (.m mp) mp (by decide) rfl rfl];exact g10
theorem E0v {many:Int} {pm pw:Nat} {b:List UInt8} (hv:∃ id cs,f=.f id cs) (P:WP D n m f g r c h) (hm:LocV h r pm [.i .i64 many]) (hw:LocV h r pw [.p r 0]) (hb:b.length=256) :
  ∃ h',iJ [.a (A5 b),.c (.f 98 [(pm,0),(pw,0)])] h=some (.a (A5 (bK D n many 128 0 (c,b)).2),h')/\WP D n m f g r (bK D n many 128 0 (c,b)).1 h'/\Fr r h h':=by
 have hl:(A5 b).length=256:=by rw [A4,hb]
 have P1:=P.more hv [rT (A5 b),rT (A5 (zeros 256))];have F1:Fr r h (h++[rT (A5 b),rT (A5 (zeros 256))]):=Fr.low ((Low.refl (E44 _)).new _) P.rlt;obtain ⟨h',e1,e2,e3⟩:=D3D (q:=200) (many:=many) (h0:=h) (q0:=h.length) (q1:=h.length+1) (pm:=pm) (pw:=pw) P.lo.2.1 (E44 _) (by omega) (by omega) (by have:=hm.1.1;omega) (by have:=hw.1.1;omega) 128 0 200 (c,b) _ (by omega) (by omega) hb P1 F1 (hm.fr F1) (hw.fr F1) (LocV.new (k:=0) hv P rfl) ⟨A5 (zeros 256),by rw [A4];exact zeros_length,LocV.new (k:=1) hv P rfl⟩;refine ⟨h',A3o (n:=200) ?_,e2,e3⟩;rw [A2W,I5];generalize zeros 256=z at *;simp only [esc];exact e1
end
end
section
def A6o (D:Dev) (n:Int) (d:List Int):Nat->Nat->Cl × List Int->Cl × List Int
 | 0,_,s=>s
 | e+1,k,s=>A6o D n d e (k+1) (dG D n s.1 (d.getD k 0),s.2.set k (T0 D n s.1 (d.getD k 0)))
def B64 (D:Dev) (n:Int) (d:List Int) (many:Int) (s:Cl × List Int):Cl × List Int :=
 if 6<many then (dG D n s.1 (d.getD 6 0),s.2.set 6 (T0 D n s.1 (d.getD 6 0))) else s
def dM (D:Dev) (n:Int) (c:Cl) (ino:Int):Cl × List Int:=B64 D n (drV D n ino) (A3w (szV D n ino)) (A6o D n (drV D n ino) (min (A3w (szV D n ino)) 6).toNat 0 (c,zI 7))
def Y6 (D:Dev) (n:Int) (c:Cl) (ino:Int):Cl:={ (dM D n c ino).1 with ino:=(dM D n c ino).1.ino.set ino.toNat (1::1::szV D n ino::0::(dM D n c ino).2) }
def gK (D:Dev) (n:Int) (c:Cl) (ino:Int):Cl :=
 if (dM D n c ino).2.getD 6 0=0 then Y6 D n c ino else
  R5 (bK D n (A3w (szV D n ino)) 128 0 (Y6 D n c ino,blk D ((dM D n c ino).2.getD 6 0))).1 ((dM D n c ino).2.getD 6 0) (bK D n (A3w (szV D n ino)) 128 0 (Y6 D n c ino,blk D ((dM D n c ino).2.getD 6 0))).2
structure SameC (c c':Cl):Prop where
 row:c'.row=c.row
 ino:c'.ino=c.ino
 blocks:c'.blocks=c.blocks
 made:c'.made=c.made
 lost:c'.lost=c.lost
 lnk:c'.lnk=c.lnk
 par:c'.par=c.par
theorem SameC.rfl' (c:Cl):SameC c c:=⟨rfl,rfl,rfl,rfl,rfl,rfl,rfl⟩
theorem SameC.trans {a b c:Cl} (x:SameC a b) (y:SameC b c):SameC a c:=⟨y.row.trans x.row,y.ino.trans x.ino,y.blocks.trans x.blocks,y.made.trans x.made,y.lost.trans x.lost,y.lnk.trans x.lnk,y.par.trans x.par⟩
theorem oV (D:Dev) (n:Int) (c:Cl) (no:Int):SameC c (dG D n c no):=by
 unfold dG;cases B4E D n c no<;>exact ⟨rfl,rfl,rfl,rfl,rfl,rfl,rfl⟩
theorem C6j {D:Dev} {n many:Int} {s:Cl × List UInt8} {k:Nat}:SameC s.1 (gL D n many s k).1:=by
 unfold gL;split
 ·exact .rfl' _
 ·dsimp only;split
  ·exact oV ..
  ·exact .rfl' _
theorem tZ {D:Dev} {n many:Int}:∀ {e k:Nat} {s:Cl × List UInt8},SameC s.1 (bK D n many e k s).1
 | 0,_,s=>.rfl' _
 | e+1,k,s=>by
  rw [bK];exact (C6j).trans tZ
theorem B1h {D:Dev} {n:Int} {d:List Int}:∀ {e k:Nat} {s:Cl × List Int},SameC s.1 (A6o D n d e k s).1/\(A6o D n d e k s).2.length=s.2.length
 | 0,_,s=>⟨.rfl' _,rfl⟩
 | e+1,k,s=>by
  rw [A6o];have:=B1h (D:=D) (n:=n) (d:=d) (e:=e) (k:=k+1) (s:=(dG D n s.1 (d.getD k 0),s.2.set k (T0 D n s.1 (d.getD k 0))));exact ⟨(oV ..).trans this.1,by rw [this.2];simp⟩
theorem D6I {D:Dev} {n many:Int} {d:List Int} {s:Cl × List Int}:SameC s.1 (B64 D n d many s).1/\(B64 D n d many s).2.length=s.2.length:=by
 unfold B64;split
 ·exact ⟨oV ..,by simp⟩
 ·exact ⟨.rfl' _,rfl⟩
theorem A04 {D:Dev} {n ino:Int} {c:Cl}:SameC c (dM D n c ino).1/\(dM D n c ino).2.length=7:=by
 unfold dM;have h1:=B1h (D:=D) (n:=n) (d:=drV D n ino) (e:=(min (A3w (szV D n ino)) 6).toNat) (k:=0) (s:=(c,zI 7));have h2:=D6I (D:=D) (n:=n) (d:=drV D n ino) (many:=A3w (szV D n ino)) (s:=A6o D n (drV D n ino) (min (A3w (szV D n ino)) 6).toNat 0 (c,zI 7));exact ⟨h1.1.trans h2.1,by rw [h2.2,h1.2];rfl⟩
section
variable {D:Dev} {n m:Int} {f:Cell} {g:A6} {r:Nat} {c:Cl} {h:A6}
theorem C9O {ino lim kd ln sz pa many:Int} {d:List Int} {pb pw pi pm q:Nat} {h0:A6} (h0g:g.length<=h0.length) (a0:h0.length<=pi) (n1:pi≠pb) (n2:pi≠pw) (n3:pi≠pm) (hd:d.length=7) (E4d:lim<=6) :
  ∀ (e k M:Nat) (s:Cl × List Int) (h:A6),(k:Int)+e=lim->e<M->s.2.length=7->WP D n m f g r s.1 h->Fr r h0 h->LocV h r pb [.p r 0]->LocV h r pw (E6 kd ln sz pa d)->LocV h r pi (E6 1 1 sz 0 s.2)->LocV h r pm [.i .i64 many] ->
  ∃ M' h',fV q M (iV ino) (pV pb 0) (pV pw 0) (pV pi 0) (pV pm 0) (iV lim) (iV (k:Int)) h=fV q (M'+1) (iV ino) (pV pb 0) (pV pw 0) (pV pi 0) (pV pm 0) (iV lim) (iV lim) h' /\
   WP D n m f g r (A6o D n d e k s).1 h'/\Fr r h0 h'/\LocV h' r pb [.p r 0]/\LocV h' r pw (E6 kd ln sz pa d)/\LocV h' r pi (E6 1 1 sz 0 (A6o D n d e k s).2)/\LocV h' r pm [.i .i64 many]
 | e,k,0,s,h,_,hM,_,_,_,_,_,_,_=>by omega
 | 0,k,M+1,s,h,hk,hM,hs,P,F,hb,hw,hi,hm=>by
  have:(k:Int)=lim:=by omega
  rw [this];exact ⟨M,h,rfl,P,F,hb,hw,hi,hm⟩
 | e+1,k,M+1,s,h,hk,hM,hs,P,F,hb,hw,hi,hm=>by
  have c0:(k:Int)<lim:=by omega
  have hk6:k<6:=by omega
  have w1:=C6 (show k+1<9223372036854775808 by omega);have lb:B4 h (pV pb 0)=some (pV r 0):=B5 hb.2 rfl rfl;have ad:∀ p,J3 6 1 (pV p 4) (iV (k:Int))=some (pV p (4+k)):=λp=>by
   rw [J4 hk6];simp
  have lw:B4 h (pV pw (4+k))=some (iV (d.getD k 0)):=by
   refine B5 hw.2 ?_ rfl;rw [Nat.add_comm];simp only [E6,E5N];rw [F6,E47,E40 (by omega)];rfl
  obtain ⟨h1,f1,f2,f3⟩:=B7g (no:=d.getD k 0) P;have hb1:=hb.fr f3;have hw1:=hw.fr f3;have hm1:=hm.fr f3;have hi1:=hi.fr f3;have P6:(E6 1 1 sz 0 s.2).length=11:=by simp [E6,A8,hs]
  have s1:=F5 (x:=.i .i64 (T0 D n s.1 (d.getD k 0))) (off:=4+k) hi1.2 (by rw [P6];omega);have es:(E6 1 1 sz 0 s.2).set (4+k) (.i .i64 (T0 D n s.1 (d.getD k 0)))=E6 1 1 sz 0 (s.2.set k (T0 D n s.1 (d.getD k 0))):=by
   rw [Nat.add_comm];simp only [E6,E5M,bC]
  rw [es] at s1;obtain ⟨M',h',e1,e2⟩:=C9O (q:=q) (ino:=ino) (lim:=lim) (kd:=kd) (ln:=ln) (sz:=sz) (pa:=pa) (many:=many) h0g a0 n1 n2 n3 hd E4d e (k+1) M (dG D n s.1 (d.getD k 0),s.2.set k (T0 D n s.1 (d.getD k 0))) _ (by omega) (by omega) (by simp [hs]) (f2.set hi1.1 (by omega)) ((F.trans f3).set hi1.1 a0) (hb1.set n1 hi1.1.2.1) (hw1.set n2 hi1.1.2.1) hi1.self (hm1.set n3 hi1.1.2.1);refine ⟨M',h',?_,e2⟩;rw [iM];simp only [esc,c0,lb,ad,lw,f1,s1,w1];exact e1
theorem D99 {ino:Int} (hD:okD D) (hv:IsView g f D) (P:WP D n m f g r c h) (h1:c.blocks.length<=100000) (h2:c.made.length<=100000) (i0:0<=ino) (i1:ino.toNat<c.ino.length) :
  ∃ h',jA [pV r 0,iV ino] h=some (.t [],h')/\WP D n m f g r (gK D n c ino) h'/\Fr r h h':=by
 have hv2:=hv.get;obtain ⟨k,rfl⟩:=E5I i0;rw [E5j] at i1;obtain ⟨I,hI⟩:∃ I,I=E6 (kdV D n k) (lnV D n k) (szV D n k) (paV D n k) (drV D n k):=⟨_,rfl⟩;have hIl:I.length=11:=by rw [hI];simp [E6,A8,tR]
 have hVI:=λt=>vL (n:=n) (m:=m) (i:=(k:Int)) (h:=h++t) hD ((hv.since P.lo).more t)
 rw [A6B,<-hI] at hVI;have lV:=(P.more hv2 [rT [Cell.p r 0]]).view;obtain ⟨z,hz⟩:∃ z,z=E6 1 1 (szV D n k) 0 (zI 7):=⟨_,rfl⟩;have wY:z.length=11:=by rw [hz];rfl
 have z11:[o0,o0,o0,o0,o0,o0,o0,o0,o0,o0,o0].length=11:=rfl;have ef:D9 [o0,o0,o0,o0,o0,o0,o0,o0,o0,o0,o0] [(0,1,iV 1),(1,1,iV 1),(2,1,iV (szV D n k))]=some z:=by rw [hz];rfl
 have I2:I[2]?=some (.i .i64 (szV D n k)):=by rw [hI];rfl
 have hBl:=λh=>C29 (n:=szV D n k) (h:=h)
 have eB:(if szV D n k<1 then (0:Int) else if 34304<szV D n k then 134 else (szV D n k+255)/256)=A3w (szV D n k):=rfl;rw [eB] at hBl;have hmr:0<=A3w (szV D n k):=by unfold A3w;split<;>(try split)<;>omega
 obtain ⟨many,C92⟩:∃ many,many=A3w (szV D n k):=⟨_,rfl⟩;rw [<-C92] at hBl hmr;have E4f:B6B (iV many) (iV 6)=some (iV (min many 6)):=by
  simp only [B6B];rw [show (if (6:Int)<many then 6 else many)=min many 6 by split<;>omega]
 obtain ⟨T,hT⟩:∃ T,T=[rT [Cell.p r 0],rT I,rT z,rT [Cell.i .i64 many]]:=⟨_,rfl⟩;have P1:=P.more hv2 T;have F1:Fr r h (h++T):=Fr.low ((Low.refl (E44 _)).new _) P.rlt;have L0:LocV (h++T) r h.length [.p r 0]:=LocV.new (k:=0) hv2 P (by rw [hT];rfl);have L1:LocV (h++T) r (h.length+1) I:=LocV.new (k:=1) hv2 P (by rw [hT];rfl);have L2:LocV (h++T) r (h.length+2) z:=LocV.new (k:=2) hv2 P (by rw [hT];rfl);have L3:LocV (h++T) r (h.length+3) [.i .i64 many]:=LocV.new (k:=3) hv2 P (by rw [hT];rfl);rw [hI] at L1;rw [hz] at L2;obtain ⟨M',hA,e1,PA,FA,A0,A1,A2,A3⟩:=C9O (q:=200) (ino:=(k:Int)) (lim:=min many 6) P.lo.2.1 (show h.length<=h.length+2 by omega) (by omega) (by omega) (by omega) tR (by omega) (min many 6).toNat 0 200 (c,zI 7) (h++T) (by omega) (by omega) rfl P1 F1 L0 L1 L2 L3;obtain ⟨s,hs⟩:∃ s,s=A6o D n (drV D n k) (min many 6).toNat 0 (c,zI 7):=⟨_,rfl⟩;have hsame:=B1h (D:=D) (n:=n) (d:=drV D n k) (e:=(min many 6).toNat) (k:=0) (s:=(c,zI 7));rw [<-hs] at PA A2 hsame;have hs7:s.2.length=7:=hsame.2;have lb:B4 hA (pV h.length 0)=some (pV r 0):=B5 A0.2 rfl rfl;have lm:B4 hA (pV (h.length+3) 0)=some (iV many):=B5 A3.2 rfl rfl;have step:∃ hB,fV 200 (M'+1) (iV (k:Int)) (pV h.length 0) (pV (h.length+1) 0) (pV (h.length+2) 0) (pV (h.length+3) 0) (iV (min many 6)) (iV (min many 6)) hA =
   nZ 200 (iV (k:Int)) (pV h.length 0) (pV (h.length+2) 0) (pV (h.length+3) 0) hB/\WP D n m f g r (B64 D n (drV D n k) many s).1 hB/\Fr r h hB/\LocV hB r h.length [.p r 0]/\LocV hB r (h.length+2) (E6 1 1 (szV D n k) 0 (B64 D n (drV D n k) many s).2)/\LocV hB r (h.length+3) [.i .i64 many]:=by
  have c0:¬ (min many 6<min many 6):=by omega
  unfold B64;by_cases c6:6<many
  ·rw [if_pos c6];have lw:B4 hA (pV (h.length+1) 10)=some (iV ((drV D n k).getD 6 0)):=by
    refine B5 A1.2 ?_ rfl;simp only [E6,E5N];rw [F6,E47,E40 (by rw [tR];omega)];rfl
   obtain ⟨h1,f1,f2,f3⟩:=B7g (no:=(drV D n k).getD 6 0) PA;have B0:=A0.fr f3;have B2:=A2.fr f3;have B3:=A3.fr f3;have P6:(E6 1 1 (szV D n k) 0 s.2).length=11:=by simp [E6,A8,hs7]
   have s1:=F5 (x:=.i .i64 (T0 D n s.1 ((drV D n k).getD 6 0))) (off:=10) B2.2 (by rw [P6];omega);have es:(E6 1 1 (szV D n k) 0 s.2).set 10 (.i .i64 (T0 D n s.1 ((drV D n k).getD 6 0)))=E6 1 1 (szV D n k) 0 (s.2.set 6 (T0 D n s.1 ((drV D n k).getD 6 0))):=by
    simp only [E6,E5M,bC]
   rw [es] at s1;refine ⟨_,?_,f2.set B2.1 (by have:=P.lo.2.1;omega),(FA.trans f3).set B2.1 (by omega),B0.set (by omega) B2.1.2.1,B2.self,B3.set (by omega) B2.1.2.1⟩;rw [iM];simp only [esc,Nat.reduceAdd,c0,lm,c6,lb,lw,f1,s1]
  ·rw [if_neg c6];refine ⟨hA,?_,PA,FA,A0,A2,A3⟩;rw [iM];simp only [esc,Nat.reduceAdd,c0,lm,c6]
 obtain ⟨hB,e2,PB,FB,B0,B2,B3⟩:=step;have hfd:dM D n c k=B64 D n (drV D n k) many s:=by unfold dM;rw [<-C92,<-hs]
 have hfs:=A04 (D:=D) (n:=n) (ino:=(k:Int)) (c:=c);rw [<-hfd] at PB B2;obtain ⟨S,hS⟩:∃ S,S=dM D n c k:=⟨_,rfl⟩;rw [<-hS] at PB B2 hfs;have kin:k<S.1.ino.length:=by rw [hfs.1.ino];exact i1
 obtain ⟨id,hC,c1,c2,c3,PC,FC⟩:=PB.setIno hv2 (k:=k) (l:=1::1::szV D n k::0::S.2) kin (by simp [hfs.2]);have C0:=B0.fr FC;have C2:=B2.fr FC;have C3:=B3.fr FC;have lB0:B4 hB (pV h.length 0)=some (pV r 0):=B5 B0.2 rfl rfl;have lB2:C8 hB 11 (pV (h.length+2) 0)=some (.a (encI (1::1::szV D n k::0::S.2))):=B8 B2.2 (by simp [E6,A8,hfs.2]);have adI:D5 11 (sV id 0 S.1.ino.length 11) (iV (k:Int))=some (pV id (k*11)):=by rw [C4 kin];simp
 have E2h:B4 hC (pV (h.length+2) 10)=some (iV (S.2.getD 6 0)):=by
  refine B5 C2.2 ?_ rfl;simp only [E6,E5N];rw [F6,E47,E40 (by rw [hfs.2];omega)];rfl
 have hfi:Y6 D n c k={ S.1 with ino:=S.1.ino.set k (1::1::szV D n k::0::S.2) }:=by unfold Y6;rw [<-hS,E5j]
 rw [<-hfi] at PC;have run:∀ {v:Val} {h':A6},nZ 200 (iV (k:Int)) (pV h.length 0) (pV (h.length+2) 0) (pV (h.length+3) 0) hB=some (v,h')->jA [pV r 0,iV (k:Int)] h=some (v,h'):=by
  intro v h' hj;refine A8H (n:=200) ?_;rw [A8b];have eT:=e1.trans (e2.trans hj);rw [hT] at eT;have hB0:=hVI [rT [Cell.p r 0]];have l2:ld1 (rT I) 2=some (iV (szV D n k)):=by rw [A2s,I2];rfl
  have lm1:ld1 (rT [Cell.i .i64 many]) 0=some (iV many):=rfl;have lp:ld1 (rT [Cell.p r 0]) 0=some (pV r 0):=rfl;have sm:st1 (rT [o0]) 0 (.i .i64 many)=rT [.i .i64 many]:=rfl;generalize [o0,o0,o0,o0,o0,o0,o0,o0,o0,o0,o0]=zz at *;generalize vwC D.length n m f=V at *;simp only [esc,Y2,N6,dY,S7,R6,J1,tQ,A9J,gB,jJ,Nat.reduceAdd,lV,hB0,hIl,wY,z11,l2,lp,sm,lm1,ef,hBl,E4f];exact eT
 unfold gK;rw [<-hS,<-C92];by_cases cz:S.2.getD 6 0=0
 ·rw [if_pos cz];refine ⟨hC,run ?_,PC,FB.trans FC⟩;rw [sI];rw [cz] at E2h;simp only [esc,Nat.reduceAdd,lB0,c1,lB2,adI,c3,E2h];rfl
 ·rw [if_neg cz];have hBk:=dL (n:=n) (m:=m) (no:=S.2.getD 6 0) (h:=hC) hD (hv.since PC.lo);obtain ⟨hE,f1,f2,f3⟩:=E0v (many:=many) (b:=blk D (S.2.getD 6 0)) hv2 PC C3 C0 (O2 hD);have D0:=C0.fr f3;have D2:=C2.fr f3;have hsm:=tZ (D:=D) (n:=n) (many:=many) (e:=128) (k:=0) (s:=(Y6 D n c k,blk D (S.2.getD 6 0)));have bl:(bK D n many 128 0 (Y6 D n c k,blk D (S.2.getD 6 0))).1.blocks.length<=100000:=by
   rw [hsm.blocks];dsimp only;rw [hfi];dsimp only;rw [hfs.1.blocks];exact h1
  have ml:(bK D n many 128 0 (Y6 D n c k,blk D (S.2.getD 6 0))).1.made.length<=100000:=by
   rw [hsm.made];dsimp only;rw [hfi];dsimp only;rw [hfs.1.made];exact h2
  obtain ⟨hF,g1,g2,g3⟩:=D1B (no:=S.2.getD 6 0) hv2 f2 (B1j (e:=128) (k:=0) (s:=(Y6 D n c k,blk D (S.2.getD 6 0))) (by omega) (O2 hD)) bl ml;refine ⟨hF,run ?_,g2,((FB.trans FC).trans f3).trans g3⟩;have lC0:B4 hC (pV h.length 0)=some (pV r 0):=B5 C0.2 rfl rfl;have lE0:B4 hE (pV h.length 0)=some (pV r 0):=B5 D0.2 rfl rfl;have E4t:B4 hE (pV (h.length+2) 10)=some (iV (S.2.getD 6 0)):=by
   refine B5 D2.2 ?_ rfl;simp only [E6,E5N];rw [F6,E47,E40 (by rw [hfs.2];omega)];rfl
  have lCV:=PC.view;have emk:B4t 98 [pV (h.length+3) 0,pV h.length 0]=some (.c (.f 98 [(h.length+3,0),(h.length,0)])):=rfl;rw [sI];generalize S.2.getD 6 0=no at *;generalize A5 (bK D n many 128 0 (Y6 D n c k,blk D no)).2=B2 at *;generalize A5 (blk D no)=B1 at *;generalize vwC D.length n m f=V at *;simp only [esc,Nat.reduceAdd,lB0,c1,lB2,adI,c3,E2h,cz,lC0,lCV,hBk,emk,f1,lE0,E4t,g1];rfl
end
end
section
def wX (no:Int):Nat->Nat->List Int->List Int
 | 0,_,t=>t
 | e+1,i,t=>wX no e (i+1) (if t.getD i 0=no then t.set i 0 else t)
theorem A6U {no:Int}:∀ {e i:Nat} {t:List Int},(wX no e i t).length=t.length
 | 0,_,_=>rfl
 | e+1,i,t=>by
  rw [wX,A6U];split<;>simp
def kA (D:Dev) (n:Int) (s:Cl × List Int) (no:Int):Cl × List Int:=(dG D n s.1 no,if T0 D n s.1 no=0 then wX no 32 0 s.2 else s.2)
def mT (D:Dev) (n:Int) (s:Cl × List Int) (L:List Int):Cl × List Int:=L.foldl (kA D n) s
theorem B9z {D:Dev} {n no:Int} {s:Cl × List Int}:(kA D n s no).2.length=s.2.length:=by
 unfold kA;dsimp only;split
 ·exact A6U
 ·rfl
theorem B1f {D:Dev} {n:Int}:∀ {L:List Int} {s:Cl × List Int},(mT D n s L).2.length=s.2.length
 | [],_=>rfl
 | no::L,s=>by
  show (mT D n (kA D n s no) L).2.length=_;rw [B1f,B9z]
theorem fS {D:Dev} {n:Int}:∀ {L:List Int} {s:Cl × List Int},SameC s.1 (mT D n s L).1
 | [],_=>.rfl' _
 | no::L,s=>by
  show SameC s.1 (mT D n (kA D n s no) L).1;have h2:SameC (dG D n s.1 no) (mT D n (kA D n s no) L).1:=fS (D:=D) (n:=n) (L:=L) (s:=kA D n s no);exact (oV ..).trans h2
section
variable {D:Dev} {n m:Int} {f:Cell} {g:A6} {r:Nat} {c:Cl} {h:A6}
theorem B93 {no d:Int} {px q M:Nat} {w x4 v11 v12 v13:Val} {h0:A6} (h0g:g.length<=h0.length) (a0:h0.length<=px):∀ (e i M2:Nat) (t:List Int) (h:A6),i+e=32->e<M2->t.length=32->WP D n m f g r c h->Fr r h0 h->LocV h r px (encI (d::t)) ->
  ∃ h',sH q M M2 w (pV px 0) x4 (iV no) v11 v12 v13 (iV (i:Int)) h=sF q M w (pV px 0) x4 v11 v12 v13 h'/\WP D n m f g r c h'/\Fr r h0 h'/\LocV h' r px (encI (d::wX no e i t))/\h'.length=h.length/\∀ j,j≠px->rd h' j=rd h j
 | e,i,0,t,h,_,hM,_,_,_,_=>by omega
 | 0,i,M2+1,t,h,hi,hM,ht,P,F,hx=>by
  have c0:¬ ((i:Int)<32):=by omega
  refine ⟨h,?_,P,F,hx,rfl,λ_ _=>rfl⟩;rw [dD];simp only [esc,c0]
 | e+1,i,M2+1,t,h,hi,hM,ht,P,F,hx=>by
  have c0:((i:Int)<32):=by omega
  have E1Y:i<32:=by omega
  have ad:J3 32 1 (pV px 1) (iV (i:Int))=some (pV px (1+i)):=by rw [J4 E1Y];simp
  have l1:B4 h (pV px (1+i))=some (iV (t.getD i 0)):=by
   refine B5 hx.2 ?_ rfl;rw [Nat.add_comm,F6,E5N,E47,E40 (by omega)];rfl
  have w1:=C6 (show i+1<9223372036854775808 by omega);by_cases cz:t.getD i 0=no
  ·have s1:=F5 (x:=o0) (off:=1+i) hx.2 (by simp [A8,ht];omega);have es:(encI (d::t)).set (1+i) o0=encI (d::t.set i 0):=by rw [bC,Nat.add_comm,E5M]
   rw [es] at s1;obtain ⟨h',e1,e2,e3,e4,e5,e6⟩:=B93 (no:=no) (d:=d) (q:=q) (M:=M) (w:=w) (x4:=x4) (v11:=v11) (v12:=v12) (v13:=v13) h0g a0 e (i+1) M2 (t.set i 0) _ (by omega) (by omega) (by simp [ht]) (P.set hx.1 (by omega)) (F.set hx.1 a0) hx.self;refine ⟨h',?_,e2,e3,by rw [wX,if_pos cz];exact e4,by rw [e5];simp,λj hj=>by rw [e6 j hj,A7 (Ne.symm hj)]⟩;rw [dD];simp only [esc,Nat.reduceAdd,c0,ad,l1,cz,s1,nG,w1];exact e1
  ·obtain ⟨h',e1,e2,e3,e4,e5,e6⟩:=B93 (no:=no) (d:=d) (q:=q) (M:=M) (w:=w) (x4:=x4) (v11:=v11) (v12:=v12) (v13:=v13) h0g a0 e (i+1) M2 t h (by omega) (by omega) ht P F hx;refine ⟨h',?_,e2,e3,by rw [wX,if_neg cz];exact e4,e5,e6⟩;rw [dD];simp only [esc,Nat.reduceAdd,c0,ad,l1,cz,nG,w1];exact e1
theorem B9A {d:Int} {L:List Int} {px p4 sid q:Nat} {h0:A6} (h0g:g.length<=h0.length) (a0:h0.length<=px) (a1:h0.length<=p4) (n1:px≠p4) (n2:px≠sid) (hq:40<=q) (hL:L.length<1000000):∀ (e i M:Nat) (s:Cl × List Int) (h:A6),i+e=L.length->e<M->s.2.length=32->WP D n m f g r s.1 h->Fr r h0 h->LocV h r px (encI (d::s.2))->(∃ z,z.length=33/\LocV h r p4 z)->LocV h r sid (encI L) ->
  ∃ h',sG q M (pV r 0) (pV px 0) (pV p4 0) (sV sid 0 L.length 1) (iV (L.length:Nat)) (iV (i:Int)) h=some (.a (encI (d::(mT D n s (L.drop i)).2)),h')/\WP D n m f g r (mT D n s (L.drop i)).1 h'/\Fr r h0 h'
 | e,i,0,s,h,_,hM,_,_,_,_,_,_=>by omega
 | 0,i,M+1,s,h,hi,hM,hs,P,F,hx,hz,hl=>by
  have c0:¬ ((i:Int)<(L.length:Nat)):=by omega
  obtain ⟨z,wY,hz⟩:=hz;have h33:(encI (d::s.2)).length=33:=by simp [A8,hs]
  have l1:=B8 (n:=33) hx.2 h33;have s1:=storeAll (n:=33) (xs:=encI (d::s.2)) hz.2 wY h33;have hz2:=hz.self (cs':=encI (d::s.2));have l2:=B8 (n:=33) hz2.2 h33;rw [E5c (by omega)];refine ⟨h.set p4 (rT (encI (d::s.2))),?_,P.set hz.1 (by omega),F.set hz.1 a1⟩;rw [dC];show _=some (Val.a (encI (d::s.2)),_);generalize encI (d::s.2)=B at *;simp only [esc,c0,l1,s1,l2]
 | e+1,i,M+1,s,h,hi,hM,hs,P,F,hx,hz,hl=>by
  have c0:((i:Int)<(L.length:Nat)):=by omega
  have P6:i<L.length:=by omega
  have ad:D5 1 (sV sid 0 L.length 1) (iV (i:Int))=some (pV sid i):=by rw [C4 P6];simp
  have l1:B4 h (pV sid i)=some (iV L[i]):=B5 hl.2 (by rw [F6,E40 P6];rfl) rfl;have w1:=C6 (show i+1<9223372036854775808 by omega);obtain ⟨h1,f1,f2,f3⟩:=B7g (no:=L[i]) P;have hx1:=hx.fr f3;have hl1:=hl.fr f3;obtain ⟨z,wY,hz⟩:=hz;have hz1:=hz.fr f3;rw [E46 P6];have eb:∀ T,mT D n s (L[i]::T)=mT D n (kA D n s L[i]) T:=λT=>rfl
  rw [eb];have hbl:=B9z (D:=D) (n:=n) (s:=s) (no:=L[i]);by_cases cz:T0 D n s.1 L[i]=0
  ·have eB:kA D n s L[i]=(dG D n s.1 L[i],wX L[i] 32 0 s.2):=by unfold kA;rw [if_pos cz]
   obtain ⟨h2,e1,e2,e3,e4,e5,e6⟩:=B93 (no:=L[i]) (d:=d) (q:=q) (M:=M) (w:=pV r 0) (x4:=pV p4 0) (v11:=sV sid 0 L.length 1) (v12:=iV (L.length:Nat)) (v13:=iV (i:Int)) h0g a0 32 0 q s.2 h1 (by omega) (by omega) hs f2 (F.trans f3) hx1;have keep:∀ {id:Nat} {cs:List Cell},LocV h1 r id cs->px≠id->LocV h2 r id cs:=λ{id cs} a T5=>by
    have er:rd h2 r=rd h1 r:=e6 r (Ne.symm hx1.1.2.1);exact ⟨⟨by rw [e5];exact a.1.1,a.1.2.1,λhn=>a.1.2.2 ((Nam.same er).1 hn)⟩,by rw [e6 id (Ne.symm T5)];exact a.2⟩
   have E4s:(wX L[i] 32 0 s.2).length=32:=by rw [A6U];exact hs
   rw [eB];generalize wX L[i] 32 0 s.2=Z at *;obtain ⟨h',k1,k2⟩:=B9A (d:=d) (q:=q) h0g a0 a1 n1 n2 hq hL e (i+1) M (dG D n s.1 L[i],Z) h2 (by omega) (by omega) E4s e2 e3 e4 ⟨z,wY,keep hz1 n1⟩ (keep hl1 n2);refine ⟨h',?_,k2⟩;rw [dC];rw [cz] at f1;rw [nF] at e1;have c00:((0:Nat):Int)=0:=rfl;rw [c00] at e1;simp only [esc,c0,ad,l1,f1];refine e1.trans ?_;simp only [esc,w1];exact k1
  ·have eB:kA D n s L[i]=(dG D n s.1 L[i],s.2):=by unfold kA;rw [if_neg cz]
   rw [eB] at hbl ⊢;obtain ⟨h',k1,k2⟩:=B9A (d:=d) (q:=q) h0g a0 a1 n1 n2 hq hL e (i+1) M (dG D n s.1 L[i],s.2) h1 (by omega) (by omega) hs f2 (F.trans f3) hx1 ⟨z,wY,hz1⟩ hl1;refine ⟨h',?_,k2⟩;rw [dC];simp only [esc,c0,ad,l1,f1,cz,nF,w1];exact k1
def V7 (d:Int) (t:List Int):Int:=if 0<=d/\d<=5 then d else 0
def eY (d:Int) (t:List Int):List Int:=if 0<=d/\d<=5 then pG d t (B9 d) else zI 32
theorem B4K (d:Int) (t:List Int):C8H d t=V7 d t::eY d t:=by
 unfold C8H V7 eY;split<;>rfl
theorem wH {d:Int} {t:List Int}:(eY d t).length=32:=by
 have:=D29 (d:=d) (t:=t);rw [B4K] at this;simpa using this
theorem D4k {d:Int} {t:List Int} (hv:∃ id cs,f=.f id cs) (P:WP D n m f g r c h) (ht:t.length=32) :
  ∃ h',cE [pV r 0,.a (encI (d::t))] h=some (.a (encI (V7 d t::(mT D n (c,eY d t) (J6 (eY d t) (B9 (V7 d t)))).2)),h')/\WP D n m f g r (mT D n (c,eY d t) (J6 (eY d t) (B9 (V7 d t)))).1 h'/\Fr r h h':=by
 have hft:=wH (d:=d) (t:=t);have h33:(encI (d::t)).length=33:=by simp [A8,ht]
 have hF:=λh=>D1t (d:=d) (h:=h) ht
 rw [B4K] at hF;have C6q:(encI (V7 d t::eY d t)).length=33:=by simp [A8,hft]
 have E18:(o0::E41 32 o0).length=33:=by simp
 obtain ⟨z,hz⟩:∃ z,z=o0::E41 32 o0:=⟨_,rfl⟩;obtain ⟨d',hd'⟩:∃ d',d'=V7 d t:=⟨_,rfl⟩;obtain ⟨t',ht'⟩:∃ t',t'=eY d t:=⟨_,rfl⟩;rw [<-hd',<-ht'] at hF C6q ⊢;rw [<-ht'] at hft;have hB:=uD (d:=d') (t:=t') (h:=h++[rT (encI (d'::t')),rT z]) hft;obtain ⟨L,hL⟩:∃ L,L=J6 t' (B9 d'):=⟨_,rfl⟩;rw [<-hL] at hB ⊢;obtain ⟨T,hT⟩:∃ T,T=[rT (encI (d'::t')),rT z,rT (encI L)]:=⟨_,rfl⟩;have P1:=P.more hv T;have F1:Fr r h (h++T):=Fr.low ((Low.refl (E44 _)).new _) P.rlt;have L0:LocV (h++T) r h.length (encI (d'::t')):=LocV.new (k:=0) hv P (by rw [hT];rfl);have L1:LocV (h++T) r (h.length+1) z:=LocV.new (k:=1) hv P (by rw [hT];rfl);have L2:LocV (h++T) r (h.length+2) (encI L):=LocV.new (k:=2) hv P (by rw [hT];rfl);have hLl:L.length<=32:=by rw [hL];exact E5E (fI _ _) (N8 _)
 obtain ⟨h',e1,e2,e3⟩:=B9A (q:=100) P.lo.2.1 (E44 _) (show h.length<=h.length+1 by omega) (by omega) (show h.length≠h.length+2 by omega) (by omega) (by omega) L.length 0 100 (c,t') (h++T) (by omega) (by omega) hft P1 F1 L0 ⟨z,by rw [hz];exact E18,L1⟩ L2;rw [E5k] at e1 e2;refine ⟨h',A38 (n:=100) ?_,e2,e3⟩;rw [A32];have ez:([o0]++E41 32 o0)=z:=by rw [hz];rfl
 rw [ez];rw [hT] at e1;have l33:ldN (rT (encI (d::t))) 0 33=some (.a (encI (d::t))):=gB h33;have l33':ldN (rT (encI (d'::t'))) 0 33=some (.a (encI (d'::t'))):=gB C6q;have s33:stN (rT (encI (d::t))) 0 33 (encI (d'::t'))=rT (encI (d'::t')):=jJ h33 C6q;generalize encI (d::t)=X at *;generalize encI (d'::t')=X' at *;simp only [esc,Y2,N6,R6,J1,Nat.reduceAdd,l33,l33',s33,hF];simp only [esc] at hB;simp only [esc,hB];exact e1
end
end
section
abbrev Spt:=Int × Slt
def tO (D:Dev) (L:List Int):List Spt:=L.flatMap λno=>(N1 (blk D no)).map λs=>(no,s)
def atH (D:Dev) (X:List Int) (e:Spt):Bool:=decide (P8 X e.2.2.1=e.1)&&decide (hmS D X e.2.2.1=some e.2)
def F8 (D:Dev) (X:List Int) (l:List Spt):V0:=(l.filter (atH D X)).map (·.2.2.1)
def B0o (D:Dev) (X:List Int) (nm:List UInt8):Int:=((hmS D X nm).getD (0,[],0)).2.2
def mW (D:Dev) (X:List Int) (L:List Int):List Ent:=(fM (F8 D X (tO D L))).map λs=>(s,B0o D X s)
theorem D6d {neg:Bool} (p q:Slt):aeq neg [.i .i64,.s,.i .i64] (.a (slC (some p))) (.a (slC (some q)))=some (bV (bif neg then !(decide (some p=some q)) else decide (some p=some q))):=by
 simp only [aeq];rw [if_pos ⟨rfl,rfl⟩];have:decide (slC (some p)=slC (some q))=decide (some p=some q):=by
  apply Bool.eq_iff_iff.2;simp only [decide_eq_true_eq,slC,List.cons.injEq,Cell.i.injEq,Cell.s.injEq,true_and,and_true,Option.some.injEq];obtain ⟨p1,p2,p3⟩:=p;obtain ⟨q1,q2,q3⟩:=q;simp only [Prod.mk.injEq];constructor
  ·rintro ⟨h1,h2,h3⟩;exact ⟨by omega,h2,h3⟩
  ·rintro ⟨h1,h2,h3⟩;exact ⟨by omega,h2,h3⟩
 rw [this]
theorem C1I {D:Dev} {X:List Int} {s:List Spt} {e:Spt}:F8 D X (s++[e])=F8 D X s++(if atH D X e=true then [e.2.2.1] else []):=by
 unfold F8;rw [List.filter_append,E5T,List.filter_cons];by_cases c:atH D X e=true<;>simp [c]
structure NmS (D:Dev) (X L:List Int) (g:A6) (s:List Spt) (id:Nat) (h:A6):Prop where
 low:Low g.length g h
 rx:rd h g.length=rT (encI X)
 rm:∃ es,rd h (g.length+2)=some (S4 es)/\MapN es (B0o D X) (F8 D X s)
 rs:rd h (g.length+4)=rT (encI L)
 rl:rd h id=rT (encS (F8 D X s))
 idg:id=g.length+3\/g.length+5<=id
theorem NmS.more {D:Dev} {X L:List Int} {g h:A6} {s:List Spt} {id:Nat} (S:NmS D X L g s id h) (t:A6):NmS D X L g s id (h++t) :=
 ⟨S.low.new _,B6 S.rx,by obtain ⟨es,h1,h2⟩:=S.rm;exact ⟨es,B6 h1,h2⟩,B6 S.rs,B6 S.rl,S.idg⟩
section
variable {D:Dev} {n m:Int} {f:Cell} {g:A6} {r:Nat} {h:A6}
theorem E2l {d:Int} {t L:List Int} {s:List Spt} {id lst j q m0 M:Nat} {l:List Slt} {x:Slt} {no:Int} {x18 x19 x20:Val} (hD:okD D) (hv:IsView g f D) (hw:VwR g r (vwC D.length n m f)) (ht:t.length=32) (S:NmS D (d::t) L g s id h) (hN:(F8 D (d::t) s).length<=1000000) (hs:x.2.1.length<=24)
  (hl:rd h lst=rT (rF l)) (hx:l[j]?=some x) (hl5:g.length+5<=lst) (T5:lst≠id) (hj:l.length<=7) :
  ∃ gG h',Z5 q m0 (M+1) (.c (.p r 0)) (.c (.p g.length 0)) (.c (.m (g.length+2))) (.c (.sl id 0 (F8 D (d::t) s).length 1)) (.c (.i .i64 no)) x18 x19 x20 (.c (.sl lst 0 l.length 3)) (.c (.i .i64 (l.length:Nat))) (.c (.i .i64 (j:Int))) h =
   Z5 q m0 M (.c (.p r 0)) (.c (.p g.length 0)) (.c (.m (g.length+2))) (.c (.sl gG 0 (F8 D (d::t) (s++[(no,x)])).length 1)) (.c (.i .i64 no)) x18 x19 x20 (.c (.sl lst 0 l.length 3)) (.c (.i .i64 (l.length:Nat))) (.c (.i .i64 ((j+1:Nat):Int))) h' /\
   NmS D (d::t) L g (s++[(no,x)]) gG h'/\rd h' lst=rT (rF l)/\lst≠gG:=by
 have hjl:j<l.length:=(List.getElem?_eq_some_iff.1 hx).1;have c0:((j:Int)<(l.length:Nat)):=by omega
 have ad:D5 3 (.c (.sl lst 0 l.length 3)) (.c (.i .i64 (j:Int)))=some (.c (.p lst (j*3))):=by rw [C4 hjl];simp
 have hlen:=wU (l:=l);have l3:C8 h 3 (.c (.p lst (j*3)))=some (.a (slC (some x))):=by rw [cP hl (by rw [hlen];omega) rfl,D6c hx]
 obtain ⟨k,nm,i⟩:=x;have w1:=C6 (show j+1<9223372036854775808 by omega);obtain ⟨h1,e1⟩:∃ h1,h1=h++[rT (slC (some (k,nm,i)))]:=⟨_,rfl⟩;have s3:E1 (h++[rT [o0,.s [],o0]]) 3 (.c (.p h.length 0)) (.a (slC (some (k,nm,i))))=some h1:=by rw [J1,e1];rfl
 have S1:NmS D (d::t) L g s id h1:=e1 ▸ S.more _;have lX:C8 h1 33 (.c (.p g.length 0))=some (.a (encI (d::t))):=B8 S1.rx (by simp [A8,ht]);have lN:B4 h1 (.c (.p h.length 1))=some (.c (.s nm)):=by rw [e1,S7];rfl
 have hH:=D5J (n:=n) (m:=m) (f:=f) (r:=r) (d:=d) (t:=t) (nm:=nm) (h:=h1) hD (hv.since S1.low) (hw.since S1.low) ht (by dsimp only at hs;omega);obtain ⟨h2,e2⟩:∃ h2,h2=h1++[rT (B9Z (P8 (d::t) nm) (hmS D (d::t) nm))]:=⟨_,rfl⟩;have s4:E1 (h1++[rT [o0,o0,.s [],o0]]) 4 (.c (.p h1.length 0)) (.a (B9Z (P8 (d::t) nm) (hmS D (d::t) nm)))=some h2:=by
  rw [J1,e2];cases hmS D (d::t) nm<;>rfl
 have S2:NmS D (d::t) L g s id h2:=e2 ▸ S1.more _;have lB:B4 h2 (.c (.p h1.length 0))=some (.c (.i .i64 (P8 (d::t) nm))):=by rw [e2,S7];rfl
 have lS:C8 h2 3 (.c (.p h1.length 1))=some (.a (slC (hmS D (d::t) nm))):=by rw [e2,N6];cases hmS D (d::t) nm<;>rfl
 have rp:rd h2 h.length=rT (slC (some (k,nm,i))):=by rw [e2,e1];simp
 have lP:C8 h2 3 (.c (.p h.length 0))=some (.a (slC (some (k,nm,i)))):=B8 rp rfl;have lP1:B4 h2 (.c (.p h.length 1))=some (.c (.s nm)):=B5 rp rfl rfl;have lP2:B4 h2 (.c (.p h.length 2))=some (.c (.i .i64 i)):=B5 rp rfl rfl;have rl2:rd h2 lst=rT (rF l):=by rw [e2,e1];exact B6 (B6 hl)
 have no1:atH D (d::t) (no,k,nm,i)=false->NmS D (d::t) L g (s++[(no,k,nm,i)]) id h2/\(F8 D (d::t) (s++[(no,k,nm,i)])).length=(F8 D (d::t) s).length:=by
  intro hb;have en:F8 D (d::t) (s++[(no,k,nm,i)])=F8 D (d::t) s:=by rw [C1I,hb];simp
  exact ⟨{ S2 with rm:=by rw [en];exact S2.rm,rl:=by rw [en];exact S2.rl },by rw [en]⟩
 rw [fW];cases ho:hmS D (d::t) nm with
 | none =>
  obtain ⟨n1,n2⟩:=no1 (by unfold atH;simp only [ho];simp);refine ⟨id,h2,?_,n1,rl2,T5⟩;rw [n2];rw [ho] at hH s4 lS;generalize encI (d::t)=X at *;simp only [esc,Nat.reduceAdd,c0,ad,l3,s3,lX,lN,hH,E5o,s4,aD,w1]
 | some p =>
  rw [ho] at hH s4 lS;have ea:=D6d (neg:=false) p (k,nm,i);by_cases c1:P8 (d::t) nm=no
  ·rw [c1] at hH s4 lB;by_cases c2:p=(k,nm,i)
   ·have hb:atH D (d::t) (no,k,nm,i)=true:=by unfold atH;simp only [ho,c1,c2];simp
    have en:F8 D (d::t) (s++[(no,k,nm,i)])=F8 D (d::t) s++[nm]:=by rw [C1I,if_pos hb]
    have hin:B0o D (d::t) nm=i:=by unfold B0o;rw [ho,c2];rfl
    obtain ⟨es,r4,hm⟩:=S2.rm;have mp:=E0w (s:=nm) (x:=i) r4 hm;have hm':=hm.put nm;rw [hin] at hm';have lt2:=C5 r4;have idr:id≠g.length+2:=by have:=S.idg;omega
    obtain ⟨h3,e3⟩:∃ h3,h3=h2.set (g.length+2) (some (S4 (A71 (.s nm) (.c (.i .i64 i)) es))):=⟨_,rfl⟩;rw [<-e3] at mp;have hh:h2.length=h.length+2:=by rw [e2,e1];simp
    have q1:B4 h3 (.c (.p h.length 1))=some (.c (.s nm)):=B5 (by rw [e3,A7 (by have:=C5 hl;omega)];exact rp) rfl rfl;have ef:D9 [Cell.s []] [(0,1,.c (.s nm))]=some [.s nm]:=rfl;have ril:rd h3 id=rT (encS (F8 D (d::t) s)):=by rw [e3,A7 (Ne.symm idr)];exact S2.rl
    obtain ⟨h4,b1,b2,b3,b4⟩:=D4Y (n:=(F8 D (d::t) s).length) (sz:=1) (ys:=[Cell.s nm]) ril (by rw [L9];omega) rfl (by omega) (by omega);have h3l:h3.length=h.length+2:=by rw [e3];simp [hh]
    have gl:=S.low.2.1;have gS:=C5 S.rs;have ea2:aeq false [.i .i64,.s,.i .i64] (.a (slC (some p))) (.a (slC (some (k,nm,i))))=some (.c (.b true)):=by rw [ea,c2];simp
    refine ⟨h3.length+1,h4,?_,⟨?_,?_,⟨_,?_,by rw [en];exact hm'⟩,?_,?_,by omega⟩,?_,by have:=C5 hl;omega⟩
    ·rw [en,E43];generalize encI (d::t)=X at *;simp only [esc,Nat.reduceAdd,c0,ad,l3,s3,lX,lN,hH,E5h,s4,lB,eq_self,lS,lP,ea2,lP1,lP2,mp,q1,ef,b1,aD,w1]
    ·have l3':Low g.length g h3:=by rw [e3];exact S2.low.set (by omega) _
     exact l3'.trans (b4 _ (by have:=S.idg;omega) (by omega))
    ·exact b3 _ _ (by have:=S.idg;omega) (by rw [e3,A7 (by omega)];exact S2.rx)
    ·exact b3 _ _ (Ne.symm idr) (by rw [e3];exact B7 lt2)
    ·exact b3 _ _ (by have:=S.idg;intro e;omega) (by rw [e3,A7 (by omega)];exact S2.rs)
    ·rw [en,show encS (F8 D (d::t) s++[nm])=encS (F8 D (d::t) s)++[Cell.s nm] by simp [encS]];exact b2
    ·exact b3 _ _ T5 (by rw [e3,A7 (by omega)];exact rl2)
   ·obtain ⟨n1,n2⟩:=no1 (by unfold atH;simp only [ho];simp [c2]);have ea2:aeq false [.i .i64,.s,.i .i64] (.a (slC (some p))) (.a (slC (some (k,nm,i))))=some (.c (.b false)):=by rw [ea];simp [c2]
    refine ⟨id,h2,?_,n1,rl2,T5⟩;rw [n2];generalize encI (d::t)=X at *;simp only [esc,Nat.reduceAdd,c0,ad,l3,s3,lX,lN,hH,E5h,s4,lB,eq_self,lS,lP,ea2,aD,w1]
  ·obtain ⟨n1,n2⟩:=no1 (by unfold atH;simp only [ho];simp [c1]);refine ⟨id,h2,?_,n1,rl2,T5⟩;rw [n2];generalize encI (d::t)=X at *;simp only [esc,Nat.reduceAdd,c0,ad,l3,s3,lX,lN,hH,E5h,s4,lB,c1,aD,w1]
end
end
section
theorem A4U {D:Dev} {X:List Int} {s:List Spt}:(F8 D X s).length<=s.length:=by
 unfold F8;rw [List.length_map];exact List.length_filter_le _ _
theorem B9u {D:Dev} {no:Int} {L:List Int}:tO D (no::L)=(N1 (blk D no)).map (λs=>(no,s))++tO D L:=by simp [tO]
section
variable {D:Dev} {n m:Int} {f:Cell} {g:A6} {r:Nat} {h:A6}
theorem D3t {d:Int} {t L:List Int} {lst q m0:Nat} {l:List Slt} {no:Int} {x18 x19 x20:Val} (hD:okD D) (hv:IsView g f D) (hw:VwR g r (vwC D.length n m f)) (ht:t.length=32) (hl7:l.length<=7) (mI:∀ x∈l,x.2.1.length<=24) (hl5:g.length+5<=lst) :
  ∀ (e j M:Nat) (s:List Spt) (id:Nat) (h:A6),j+e=l.length->e<M->s.length+e<=100000->NmS D (d::t) L g s id h->rd h lst=rT (rF l)->lst≠id ->
  ∃ gG h',Z5 q m0 M (pV r 0) (pV g.length 0) (.c (.m (g.length+2))) (sV id 0 (F8 D (d::t) s).length 1) (iV no) x18 x19 x20 (sV lst 0 l.length 3) (iV (l.length:Nat)) (iV (j:Int)) h =
   bnd (N5 .add x20 (iV 1)) (λv=>Z4 q m0 (pV r 0) (pV g.length 0) (.c (.m (g.length+2))) (sV gG 0 (F8 D (d::t) (s++(l.drop j).map λx=>(no,x))).length 1) x18 x19 v h')/\NmS D (d::t) L g (s++(l.drop j).map λx=>(no,x)) gG h'
 | e,j,0,s,id,h,_,hM,_,_,_,_=>by omega
 | 0,j,M+1,s,id,h,hj,hM,hn,S,hr,T5=>by
  have c0:¬ ((j:Int)<(l.length:Nat)):=by omega
  rw [E5c (by omega),List.map_nil,E5t];refine ⟨id,h,?_,S⟩;rw [fW];simp only [Q5,A0S,c0,decide_false,C50]
 | e+1,j,M+1,s,id,h,hj,hM,hn,S,hr,T5=>by
  have hjl:j<l.length:=by omega
  have bO:=A4U (D:=D) (X:=d::t) (s:=s);obtain ⟨id1,h1,e1,e2,e3,e4⟩:=E2l (q:=q) (m0:=m0) (M:=M) (no:=no) (x18:=x18) (x19:=x19) (x20:=x20) hD hv hw ht S (by omega) (mI _ (E5F hjl)) hr (E40 hjl) hl5 T5 hl7;obtain ⟨gG,h',f1,f2⟩:=D3t (q:=q) (m0:=m0) (no:=no) (x18:=x18) (x19:=x19) (x20:=x20) hD hv hw ht hl7 mI hl5 e (j+1) M (s++[(no,l[j])]) id1 h1 (by omega) (by omega) (by simp;omega) e2 e3 e4;rw [E45,List.singleton_append] at f1 f2;rw [E46 hjl,E50];exact ⟨gG,h',e1.trans f1,f2⟩
theorem D4M {d:Int} {t L:List Int} {q:Nat} (hD:okD D) (hv:IsView g f D) (hw:VwR g r (vwC D.length n m f)) (ht:t.length=32) (hq:8<=q) (hL:L.length<=32) :
  ∀ (e i M:Nat) (s:List Spt) (id:Nat) (h:A6),i+e=L.length->e<M->s.length<=7*i->NmS D (d::t) L g s id h ->
  ∃ M' gG h',Z4 q M (pV r 0) (pV g.length 0) (.c (.m (g.length+2))) (sV id 0 (F8 D (d::t) s).length 1) (sV (g.length+4) 0 L.length 1) (iV (L.length:Nat)) (iV (i:Int)) h =
   Z4 q (M'+1) (pV r 0) (pV g.length 0) (.c (.m (g.length+2))) (sV gG 0 (F8 D (d::t) (s++tO D (L.drop i))).length 1) (sV (g.length+4) 0 L.length 1) (iV (L.length:Nat)) (iV (L.length:Nat)) h'/\NmS D (d::t) L g (s++tO D (L.drop i)) gG h'/\(s++tO D (L.drop i)).length<=7*L.length:=by
 intro e
 induction e with
 | zero =>
  intro i M s id h hi hM hn S;obtain ⟨M,rfl⟩:∃ M',M=M'+1:=⟨M-1,by omega⟩;have ei:i=L.length:=by omega
  subst ei;rw [List.drop_length,show tO D []=[] from rfl,E5t];exact ⟨M,id,h,rfl,S,hn⟩
 | succ e ih =>
  intro i M s id h hi hM hn S;obtain ⟨M,rfl⟩:∃ M',M=M'+1:=⟨M-1,by omega⟩;have P6:i<L.length:=by omega
  have c0:(i:Int)<(L.length:Nat):=by omega
  have ad:D5 1 (sV (g.length+4) 0 L.length 1) (iV (i:Int))=some (pV (g.length+4) i):=by rw [C4 P6];simp
  have l1:B4 h (pV (g.length+4) i)=some (iV L[i]):=B5 S.rs (by rw [F6,E40 P6];rfl) rfl;have lV:=(hw.since S.low).load;have hB:=dL (n:=n) (m:=m) (no:=L[i]) hD (hv.since S.low);obtain ⟨v,tt,b1,b2,b3⟩:=A7h (b:=blk D L[i]) (h:=h) (O2 hD);have hlen:=b2.len;have h7:=dI (blk D L[i]);have w1:=C6 (show i+1<9223372036854775808 by omega);have mI:∀ x∈N1 (blk D L[i]),x.2.1.length<=24:=λx hx=>by
   have:=A0k (B1n hx).1;exact this
  have main:∃ id1 h1,Z5 q M q (pV r 0) (pV g.length 0) (.c (.m (g.length+2))) (sV id 0 (F8 D (d::t) s).length 1) (iV L[i]) (sV (g.length+4) 0 L.length 1) (iV (L.length:Nat)) (iV (i:Int)) v (iV ((N1 (blk D L[i])).length:Nat)) (iV ((0:Nat):Int)) (h++tt) =
    bnd (N5 .add (iV (i:Int)) (iV 1)) (λv=>Z4 q M (pV r 0) (pV g.length 0) (.c (.m (g.length+2))) (sV id1 0 (F8 D (d::t) (s++(N1 (blk D L[i])).map λx=>(L[i],x))).length 1) (sV (g.length+4) 0 L.length 1) (iV (L.length:Nat)) v h1)/\NmS D (d::t) L g (s++(N1 (blk D L[i])).map λx=>(L[i],x)) id1 h1:=by
   rcases b3 with ⟨rfl,rfl,b3⟩ | ⟨rfl,rfl⟩
   ·rw [b3];refine ⟨id,h,?_,by simpa using S⟩;obtain ⟨q',rfl⟩:∃ q',q=q'+1:=⟨q-1,by omega⟩;have c00:¬ ((0:Nat):Int)<((([]:List Slt).length:Nat):Int):=by simp
    rw [fW,E5t,List.map_nil,E5t];simp only [Q5,A0S,c00,decide_false,C50]
   ·have gS:=C5 S.rs;have idl:=C5 S.rl;obtain ⟨gG,h',f1,f2⟩:=D3t (lst:=h.length) (q:=q) (m0:=M) (no:=L[i]) (x18:=sV (g.length+4) 0 L.length 1) (x19:=iV (L.length:Nat)) (x20:=iV (i:Int)) (l:=N1 (blk D L[i])) hD hv hw ht h7 mI (by omega) (N1 (blk D L[i])).length 0 q s id (h++[rT (rF (N1 (blk D L[i])))]) (by omega) (by omega) (by omega) (S.more _) (by simp) (by omega);rw [E5k] at f1 f2;exact ⟨gG,h',f1,f2⟩
  obtain ⟨id1,h1,m1,m2⟩:=main;obtain ⟨M',gG,h',f1,f2,f3⟩:=ih (i+1) M _ id1 h1 (by omega) (by omega) (by simp;omega) m2;rw [E45,<-B9u,<-E46 P6] at f1 f2 f3;refine ⟨M',gG,h',?_,f2,f3⟩;rw [qP];have e00:((0:Nat):Int)=0:=rfl;rw [e00] at m1;generalize vwC D.length n m f=V at *;simp only [esc,Nat.add_zero,c0,ad,l1,lV,hB,b1,hlen];simp only [A0R,Q5,w1] at m1;exact m1.trans f1
theorem D8S {F:List UInt8->Int} {B:A6} {b q mid sid:Nat} {S:V0} {es:W0} (hm:MapN es F S) (hb:b<=B.length) (hs:rd B sid=rT (encS S)) (h4:rd B mid=some (S4 es)) (h62:S.length<1000000) :
  ∀ (e i M id:Nat) (h:A6),i+e=S.length->e<M->Low b B h->id≠sid->id≠mid->b<=id->(∀ j r,j=sid\/j=mid->rd B j=some r->rd h j=some r)->rd h id=rT (U2 ((S.take i).map λs=>(s,F s)))->B.length<=h.length ->
   ∃ v' h',yA q M (.c (.m mid)) (.c (.sl id 0 i 2)) (.c (.sl sid 0 S.length 1)) (.c (.i .i64 (S.length:Int))) (.c (.i .i64 (i:Int))) h=some (v',h')/\Out b h' v' 2 S.length (U2 (S.map λs=>(s,F s)))
 | e,i,0,id,h,_,hm,_,_,_,_,_,_,_=>by omega
 | 0,i,M+1,id,h,hi,hm0,hlow,ns,n4,hbi,hk,hr,hl=>by
  have c0:¬ (i:Int)<(S.length:Nat):=by omega
  have ei:i=S.length:=by omega
  subst ei;rw [qQ];rw [List.take_length] at hr;refine ⟨.c (.sl id 0 S.length 2),h,by simp only [Q5,A0S,c0,decide_false,C50],by rw [B1i];simp,id,rfl,hbi,hr⟩
 | e+1,i,M+1,id,h,hi,hm0,hlow,ns,n4,hbi,hk,hr,hl=>by
  have P6:i<S.length:=by omega
  have c0:(i:Int)<(S.length:Nat):=by omega
  have ad:D5 1 (.c (.sl sid 0 S.length 1)) (.c (.i .i64 (i:Int)))=some (.c (.p sid i)):=by rw [C4 P6];simp
  have l1:B4 h (.c (.p sid i))=some (.c (.s S[i])):=B5 (hk sid _ (.inl rfl) hs) (by rw [A4u,E40 P6];rfl) rfl;have lk:=D8J (s:=S[i]) (hk _ _ (.inr rfl) h4) hm (E5F P6);have ef:D9 [Cell.s [],o0] [(0,1,.c (.s S[i])),(1,1,.c (.i .i64 (F S[i])))]=some (V3 (some (S[i],F S[i]))):=rfl;have ef2:D9 [Cell.s [],o0] [(0,2,.a (V3 (some (S[i],F S[i]))))]=some (V3 (some (S[i],F S[i]))):=rfl;have el:((S.take i).map λs=>(s,F s)).length=i:=by simp;omega
  obtain ⟨h2,a1,a2,a3,a4⟩:=D4Y (n:=i) (sz:=2) (ys:=V3 (some (S[i],F S[i]))) hr (by rw [B1i,el]) rfl (by omega) (by omega);have et:U2 ((S.take i).map λs=>(s,F s))++V3 (some (S[i],F S[i]))=U2 ((S.take (i+1)).map λs=>(s,F s)):=by
   rw [List.take_add_one,E40 P6,E5T,U2];simp [U2]
  rw [et] at a2;have w1:=C6 (show i+1<9223372036854775808 by omega);have E4X:=C5 a2;obtain ⟨v',h',f1,f2⟩:=D8S (q:=q) hm hb hs h4 h62 e (i+1) M (h.length+1) h2 (by omega) (by omega) (hlow.trans (a4 _ hbi (by omega)))
   (λe1=>by have:=C5 hs;omega) (λe1=>by have:=C5 h4;omega) (by omega) (λj r hj hjr=>a3 _ _ (by rcases hj with rfl | rfl<;>omega) (hk j r hj hjr)) a2 (by omega)
  rw [qQ];refine ⟨v',h',?_,f2⟩;simp only [Q5,A0S,c0,decide_true,D5C,ad,l1,lk,ef,ef2,a1,A0R,w1];exact f1
theorem D8O {d:Int} {t:List Int} (hD:okD D) (hv:IsView h f D) (hr:VwR h r (vwC D.length n m f)) (ht:t.length=32) :
  fP [.c (.p r 0),.a (encI (d::t))] h=some (.c (.sl h.length 0 (mW D (d::t) (J6 t (B9 d))).length 2),h++[rT (U2 (mW D (d::t) (J6 t (B9 d))))]):=by
 have h33:(encI (d::t)).length=33:=by simp [A8,ht]
 have hLl:(J6 t (B9 d)).length<=32:=E5E (fI _ _) (N8 _);have key:∀ g,IsView g f D->VwR g r (vwC D.length n m f)->∃ v g',nU 300 [.c (.p r 0),.a (encI (d::t))] g=some (v,g')/\Out g.length g' v 2 (mW D (d::t) (J6 t (B9 d))).length (U2 (mW D (d::t) (J6 t (B9 d)))):=by
  intro g hv hw;have hB:=uD (d:=d) (t:=t) (h:=g++[rT (encI (d::t)),rT [],some (S4 []),rT []]) ht;obtain ⟨L,hL⟩:∃ L,L=J6 t (B9 d):=⟨_,rfl⟩;rw [<-hL] at hB hLl ⊢;obtain ⟨G,hG⟩:∃ G,G=g++[rT (encI (d::t)),rT [],some (S4 []),rT [],rT (encI L)]:=⟨_,rfl⟩;have S0:NmS D (d::t) L g [] (g.length+3) G:=by
   rw [hG];exact ⟨(Low.refl (E44 _)).new _,by simp,⟨[],by simp,MapN.nil _⟩,by simp,by simp [F8,encS],.inl rfl⟩
  obtain ⟨M',id,H,e1,S,hn⟩:=D4M (q:=300) hD hv hw ht (by omega) hLl L.length 0 300 [] (g.length+3) G (by omega) (by omega) (by simp) S0;rw [E5k,E5g] at e1 S hn;obtain ⟨N,hN⟩:∃ N,N=F8 D (d::t) (tO D L):=⟨_,rfl⟩;have bO:=A4U (D:=D) (X:=d::t) (s:=tO D L);have hrl:=S.rl;rw [<-hN] at e1 bO hrl;have hH:Has (H++[rT []]) (.c (.sl id 0 N.length 1)) 1 N.length (encS N):=Has.row (rw:=true) (B6 hrl) (by rw [L9];omega) (B7n _);have hSo:=D1I hH (by omega);obtain ⟨es,r4,hm⟩:=S.rm;rw [<-hN] at hm;have hm2:MapN es (B0o D (d::t)) (fM N):=⟨hm.1,λs hs=>hm.2 s ((B1v _ _).1 hs)⟩;have mI:=A6P N;have lh:(H++[rT []]).length=H.length+1:=by simp
  rw [lh] at hSo;have U8:=C5 r4;have gl:=S.low.2.1;obtain ⟨v',g',o1,o2⟩:=D8S (F:=B0o D (d::t)) (B:=H++[rT []]++[rT (encS (fM N))]) (b:=g.length) (q:=300) (mid:=g.length+2) (sid:=H.length+1) (S:=fM N) hm2 (by simp;omega) (by rw [<-lh];exact S8) (B6 (B6 r4)) (by omega)
   (fM N).length 0 300 H.length (H++[rT []]++[rT (encS (fM N))]) (by omega) (by omega) (Low.refl (by simp;omega)) (by omega) (by omega) (by omega) (λj r _ hj=>hj) (by simp [U2]) (E44 _)
  have eL:mW D (d::t) L=(fM N).map λs=>(s,B0o D (d::t) s):=by unfold mW;rw [<-hN]
  refine ⟨v',g',?_,by rw [eL,List.length_map];exact o2⟩;have c0:¬ ((L.length:Nat):Int)<(L.length:Nat):=by omega
  have l33:ldN (rT (encI (d::t))) 0 33=some (.a (encI (d::t))):=gB h33;have n0:(F8 D (d::t) ([]:List Spt)).length=0:=rfl;have e00:((0:Nat):Int)=0:=rfl;rw [n0,e00] at e1;rw [hG] at e1;rw [e00] at o1;rw [A7O];simp only [esc] at hB;rw [qP 300 M'] at e1;simp only [esc,c0,hSo] at e1 o1;generalize encI (d::t)=X at *;simp only [esc,Y2,N6,Nat.reduceAdd,l33,hB];refine e1.trans ?_;exact o1
 obtain ⟨v,g',e,ho⟩:=key (ro h) hv.ro hr.ro;exact A5I e (by simpa [E7] using ho) D4t
end
end
theorem D0o {b:List UInt8} {k:Nat} {x:Ent} (hx:R0 b k=some x):A1o x.1 x.2=true:=by
 unfold R0 at hx;cases hu:cY (nameB b k) with
 | none=>rw [hu] at hx;cases hx
 | some s' =>
  rw [hu,E49] at hx;split at hx
  ·rename_i hc;cases hx;unfold isE at hc;rw [E42] at hc;exact hc.1
  ·cases hx
theorem D6s {h:A6} {b id n:Nat} {a:Int} {cs:List Cell} (hb:b<=id) (hr:rd h id=rT cs) (hf:N7 cs=true) :
  W8 h b (.t [.a [.i .i64 a,.sl id 0 n 1],.c o0])=some (.t [.a [.i .i64 a,.sl b 0 n 1],.c o0],[id]):=by
 have h1:¬ id<b:=by omega
 have hc1:Q6 h b [] [.i .i64 a,.sl id 0 n 1]=some ([.i .i64 a,.sl b 0 n 1],[id]):=by
  simp [Q6,Cell.low,Cell.flat,A0i hr hf,h1,hb]
 have hc2:Q6 h b [id] [o0]=some ([o0],[id]):=cJ (by simp);simp only [W8,fT,hc1,hc2,E49,Option.map_some]
theorem E1L {a:Int} {x:Cell}:D9 [o0,.ns] [(0,1,iV a),(1,1,.c x)]=some [.i .i64 a,x]:=rfl
theorem C5J {k id n:Nat} {h:A6} (hk:k<7) (hid:id<h.length):A25 [iV (k:Int),iV 0,sV id 0 n 1] h=some (.t [.a [.i .i64 (J2 k:Nat),.sl id 0 n 1],.c o0],h):=by
 have key:∀ g,∃ g',A2G 0 [iV (k:Int),iV 0,sV id 0 n 1] g=some (.t [.a [.i .i64 (J2 k:Nat),.sl id 0 n 1],.c o0],g'):=by
  intro g;have c1:¬ (k:Int)<0:=by omega
  have c2:¬ 7<=(k:Int):=by omega
  have hF:=λh=>nS (h:=h) hk
  have w1:IntKind.wrap .i64 (((J2 k:Nat):Int)+0)=((J2 k:Nat):Int):=by unfold J2;rw [wrap_i64 (by omega) (by omega)];omega
  rw [B7X];exact ⟨_,by simp only [esc,esh,Nat.reduceAdd,Nat.reduceMul,Nat.reduceLT,c1,c2,hF,w1,E1L]<;>rfl⟩
 obtain ⟨g',e⟩:=key (ro h);exact B5W e (by simp [Val.low,Cell.low,Cell.flat,hid])
theorem C8r {k:Nat} {s:List UInt8} {n:Int} {h:A6} (hs:s.length<9223372036854775807) (hk:k<7) (hm:A1o s n=true):A5B [iV (k:Int),.a [.s s,.i .i64 n]] h=some (.t [.a [.i .i64 (J2 k:Nat),.sl h.length 0 32 1],.c o0],h++[rT (A5 (X3 s n))]):=by
 have key:∀ g,∃ g',A5h 0 [iV (k:Int),.a [.s s,.i .i64 n]] g=some (.t [.a [.i .i64 (J2 k:Nat),.sl (g.length+2) 0 32 1],.c o0],g')/\rd g' (g.length+2)=rT (A5 (X3 s n)):=by
  intro g;have c1:0<=(k:Int):=by omega
  have c2:(k:Int)<7:=by omega
  have hM:=λh=>A3x (s:=s) (n:=n) (h:=h) hs
  rw [hm] at hM;have hW:=λh=>qO (s:=s) (n:=n) (h:=h) hs
  have hL:=C5J (k:=k) (id:=g.length+2) (n:=32) (h:=g++[rT [.s s,.i .i64 n],rT [o0,.ns],rT (A5 (X3 s n))]) hk (by simp);rw [C1V];generalize X3 s n=E at *;exact ⟨_,by simp only [esc,esh,Nat.reduceAdd,Nat.reduceMul,Nat.reduceLT,c1,c2,hM,hW,hL]<;>rfl,by simp⟩
 obtain ⟨g',e,hr⟩:=key (ro h);rw [E7] at hr;have:=B5V e (D6s (b:=h.length) (by rw [E7];omega) (by rw [E7];exact hr) (by simp));rw [this,E7];simp [hr]
section
def MapK (es:W0) (K:List UInt8->Option Int):Prop:=(∀ e∈es,∃ s,e.1=Cell.s s)/\∀ s,(B0E (.s s) es).map (·.2)=(K s).map λv=>Part.c (.i .i64 v)
def C8Z (K:List UInt8->Option Int) (a:List UInt8) (v:Int):List UInt8->Option Int:=λs=>if s=a then some v else K s
theorem MapK.nil:MapK [] λ_=>none:=⟨λe he=>by simp at he,λs=>rfl⟩
theorem MapK.put {es:W0} {K:List UInt8->Option Int} (hm:MapK es K) (a:List UInt8) (v:Int):MapK (A71 (.s a) (.c (.i .i64 v)) es) (C8Z K a v):=by
 refine ⟨B9Q (Q:=λc=>∃ s,c=.s s) ⟨a,rfl⟩ hm.1,λs=>?_⟩;unfold C8Z;by_cases c:s=a
 ·subst c;rw [if_pos rfl,(A0h (k':=.mh)).1];rfl
 ·rw [if_neg c,(A0h (k:=.s a) (k':=.s s)).2 (by simpa using c)];exact hm.2 s
theorem E3m {h:A6} {mid:Nat} {es:W0} {K:List UInt8->Option Int} {a:List UInt8} (hr:rd h mid=some (S4 es)) (hm:MapK es K):A7f h none (.c o0) false (.c (.m mid)) (.c (.s a))=some (.c (.i .i64 ((K a).getD 0))):=by
 simp only [A7f,C6F,D6U,hr,E49,A0g];rw [if_pos (D5M hm.1)];have h2:=hm.2 a;cases hg:B0E (.s a) es with
 | none =>
  rw [hg] at h2;cases hF:K a with
  | none=>rfl
  | some v=>rw [hF] at h2;cases h2
 | some ip =>
  obtain ⟨i,p⟩:=ip;rw [hg] at h2;cases hF:K a with
  | none=>rw [hF] at h2;cases h2
  | some v=>rw [hF] at h2;simp at h2;subst h2;rfl
theorem E4x {h:A6} {mid:Nat} {es:W0} {K:List UInt8->Option Int} {a:List UInt8} {x:Int} (hr:rd h mid=some (S4 es)) (hm:MapK es K):A17 h none (.c (.m mid)) (.c (.s a)) (.c (.i .i64 x))=some (h.set mid (some (S4 (A71 (.s a) (.c (.i .i64 x)) es)))):=by
 simp only [A17,C6F,C7a,hr,E49,A0g];rw [if_pos (D5M hm.1)]
def A2q (D:Dev) (X:List Int) (no:Int) (K:List UInt8->Option Int) (x:Slt):Bool:=atH D X (no,x)&&decide ((K x.2.1).getD 0=x.2.2)
def fJ (D:Dev) (X:List Int) (no:Int) (K:List UInt8->Option Int) (s:Cl × List UInt8) (x:Slt):Cl × List UInt8 :=
 bif A2q D X no K x then (s.1,I6 s.2 (J2 x.1) (X3 x.2.1 x.2.2)) else ({ s.1 with lost:=s.1.lost+1 },s.2)
def T4 (D:Dev) (X:List Int) (no:Int) (K:List UInt8->Option Int) (s:Cl × List UInt8) (l:List Slt):Cl × List UInt8:=l.foldl (fJ D X no K) s
theorem C9N {D:Dev} {X:List Int} {no:Int} {K:List UInt8->Option Int} {s:Cl × List UInt8} {x:Slt} (hs:s.2.length=256) (hk:x.1<7):(fJ D X no K s x).2.length=256:=by
 unfold fJ;cases A2q D X no K x with
 | false=>exact hs
 | true=>rw [cond_true];dsimp only;rw [O1 (by rw [hs,X4];unfold J2;omega)];exact hs
theorem C52 {D:Dev} {X:List Int} {no:Int} {K:List UInt8->Option Int} {s:Cl × List UInt8} {x:Slt}:s.1.lost<=(fJ D X no K s x).1.lost/\(fJ D X no K s x).1.lost<=s.1.lost+1:=by
 unfold fJ;cases A2q D X no K x<;>simp<;>omega
section
variable {D:Dev} {n m:Int} {f:Cell} {g:A6} {r:Nat} {h:A6}
theorem LocV.more {t:A6} {id:Nat} {cs:List Cell} (hr:r<h.length) (a:LocV h r id cs):LocV (h++t) r id cs :=
 a.fr (Fr.low ((Low.refl (E44 _)).new _) hr)
def LocM (h:A6) (r id:Nat) (es:W0):Prop:=Loc h r id/\rd h id=some (S4 es)
theorem LocM.fr {h':A6} {id:Nat} {es:W0} (a:LocM h r id es) (b:Fr r h h'):LocM h' r id es:=by
 obtain ⟨h1,h2⟩:=b.loc a.1;exact ⟨h1,by rw [h2];exact a.2⟩
theorem LocM.set {id j:Nat} {es:W0} {x:Option Row} (a:LocM h r id es) (hj:j≠id) (hl:j≠r):LocM (h.set j x) r id es:=by
 refine ⟨⟨by simpa using a.1.1,a.1.2.1,λhn=>a.1.2.2 ((Nam.same (A7 hl)).1 hn)⟩,by rw [A7 hj];exact a.2⟩
theorem D4p {d:Int} {t:List Int} {no:Int} {K:List UInt8->Option Int} {es:W0} {l:List Slt} {mk px p8 p9 lst q:Nat} {h0:A6} (hD:okD D) (hv:IsView g f D) (ht:t.length=32) (hK:MapK es K) (h0g:g.length<=h0.length) (a8:h0.length<=p8) (a9:h0.length<=p9)
  (n1:p9≠mk) (n2:p9≠px) (n3:p9≠p8) (n4:p9≠lst) (hl7:l.length<=7) (mI:∀ x∈l,x.1<7/\x.2.1.length<=24/\A1o x.2.1 x.2.2=true) :
  ∀ (e j M:Nat) (s:Cl × List UInt8) (h:A6),j+e=l.length->e<M->s.2.length=256->0<=s.1.lost->s.1.lost+e<=1000000->WP D n m f g r s.1 h->Fr r h0 h->LocM h r mk es->LocV h r px (encI (d::t))->(∃ z,z.length=256/\LocV h r p8 z)->LocV h r p9 (A5 s.2)->LocV h r lst (rF l) ->
  ∃ h',bH q M (.c (.p r 0)) (.c (.i .i64 no)) (.c (.m mk)) (.c (.p px 0)) (.c (.p p8 0)) (.c (.p p9 0)) (.c (.sl lst 0 l.length 3)) (.c (.i .i64 (l.length:Nat))) (.c (.i .i64 (j:Int))) h=some (.a (A5 (T4 D (d::t) no K s (l.drop j)).2),h')/\WP D n m f g r (T4 D (d::t) no K s (l.drop j)).1 h'/\Fr r h0 h':=by
 intro e
 induction e with
 | zero =>
  intro j M s h hj hM hs l0 l1 P F hm hx hz hb hl;obtain ⟨M,rfl⟩:∃ M',M=M'+1:=⟨M-1,by omega⟩;have c0:¬ ((j:Int)<(l.length:Nat)):=by omega
  obtain ⟨z,wY,hz⟩:=hz;have hbl:(A5 s.2).length=256:=by rw [A4,hs]
  have q1:=B8 (n:=256) hb.2 hbl;have s1:=storeAll (n:=256) (xs:=A5 s.2) hz.2 wY hbl;have hz2:=hz.self (cs':=A5 s.2);have q2:=B8 (n:=256) hz2.2 hbl;rw [E5c (by omega)];refine ⟨h.set p8 (rT (A5 s.2)),?_,P.set hz.1 (by omega),F.set hz.1 a8⟩;rw [dE];show _=some (Val.a (A5 s.2),_);generalize A5 s.2=B at *;simp only [esc,c0,q1,s1,q2]
 | succ e ih =>
  intro j M s h hj hM hs l0 l1 P F hm hx hz hb hl;obtain ⟨M,rfl⟩:∃ M',M=M'+1:=⟨M-1,by omega⟩;have hjl:j<l.length:=by omega
  have c0:((j:Int)<(l.length:Nat)):=by omega
  have hv2:=hv.get;have ad:D5 3 (.c (.sl lst 0 l.length 3)) (.c (.i .i64 (j:Int)))=some (.c (.p lst (j*3))):=by rw [C4 hjl];simp
  have hlen:=wU (l:=l);have w1:=C6 (show j+1<9223372036854775808 by omega);obtain ⟨x,hxe⟩:∃ x,x=l[j]:=⟨_,rfl⟩;have hxj:l[j]?=some x:=by rw [hxe];exact E40 hjl
  obtain ⟨x7,x24,xm⟩:=mI x (by rw [hxe];exact E5F hjl);have l3:C8 h 3 (.c (.p lst (j*3)))=some (.a (slC (some x))):=by rw [cP hl.2 (by rw [hlen];omega) rfl,D6c hxj]
  have wL:=C9N (D:=D) (X:=d::t) (no:=no) (K:=K) (s:=s) (x:=x) hs x7;have hlo:=C52 (D:=D) (X:=d::t) (no:=no) (K:=K) (s:=s) (x:=x);rw [E46 hjl,<-hxe];have er:∀ T,T4 D (d::t) no K s (x::T)=T4 D (d::t) no K (fJ D (d::t) no K s x) T:=λT=>rfl
  rw [er];obtain ⟨k,nm,i⟩:=x;dsimp only at x7 x24 xm;obtain ⟨h1,e1⟩:∃ h1,h1=h++[rT (slC (some (k,nm,i)))]:=⟨_,rfl⟩;have s3:E1 (h++[rT [o0,.s [],o0]]) 3 (.c (.p h.length 0)) (.a (slC (some (k,nm,i))))=some h1:=by rw [J1,e1];rfl
  have P1:WP D n m f g r s.1 h1:=e1 ▸ P.more hv2 _;have hx1:LocV h1 r px (encI (d::t)):=e1 ▸ hx.more P.rlt;have lX:C8 h1 33 (.c (.p px 0))=some (.a (encI (d::t))):=B8 hx1.2 (by simp [A8,ht]);have lN:B4 h1 (.c (.p h.length 1))=some (.c (.s nm)):=by rw [e1,S7];rfl
  have hH:=D5J (n:=n) (m:=m) (f:=f) (r:=r) (d:=d) (t:=t) (nm:=nm) (h:=h1) hD (hv.since P1.lo) (P1.vw hv2) ht (by omega);obtain ⟨h2,e2⟩:∃ h2,h2=h1++[rT (B9Z (P8 (d::t) nm) (hmS D (d::t) nm))]:=⟨_,rfl⟩;have s4:E1 (h1++[rT [o0,o0,.s [],o0]]) 4 (.c (.p h1.length 0)) (.a (B9Z (P8 (d::t) nm) (hmS D (d::t) nm)))=some h2:=by
   rw [J1,e2];cases hmS D (d::t) nm<;>rfl
  have e12:h2=h++[rT (slC (some (k,nm,i))),rT (B9Z (P8 (d::t) nm) (hmS D (d::t) nm))]:=by rw [e2,e1];simp
  have F2:Fr r h h2:=by rw [e12];exact Fr.low ((Low.refl (E44 _)).new _) P.rlt
  have P2:WP D n m f g r s.1 h2:=by rw [e12];exact P.more hv2 _
  have m2:=hm.fr F2;have x2:=hx.fr F2;have b2:=hb.fr F2;have ls2:=hl.fr F2;obtain ⟨z,wY,hz⟩:=hz;have z2:=hz.fr F2;have lB:B4 h2 (.c (.p h1.length 0))=some (.c (.i .i64 (P8 (d::t) nm))):=by rw [e2,S7];rfl
  have lS:C8 h2 3 (.c (.p h1.length 1))=some (.a (slC (hmS D (d::t) nm))):=by rw [e2,N6];cases hmS D (d::t) nm<;>rfl
  have rp:rd h2 h.length=rT (slC (some (k,nm,i))):=by rw [e2,e1];simp
  have lP:C8 h2 3 (.c (.p h.length 0))=some (.a (slC (some (k,nm,i)))):=B8 rp rfl;have lP0:B4 h2 (.c (.p h.length 0))=some (.c (.i .i64 (k:Int))):=B5 rp rfl rfl;have lP1:B4 h2 (.c (.p h.length 1))=some (.c (.s nm)):=B5 rp rfl rfl;have lP2:B4 h2 (.c (.p h.length 2))=some (.c (.i .i64 i)):=B5 rp rfl rfl;have lPE:C8 h2 2 (.c (.p h.length 1))=some (.a [.s nm,.i .i64 i]):=by rw [cP rp (by simp [slC]) rfl];rfl
  have lk:=E3m (a:=nm) m2.2 hK;have lose:A2q D (d::t) no K (k,nm,i)=false->∃ h3 h',B4 h2 (.c (.p r 9))=some (.c (.i .i64 s.1.lost))/\IntKind.wrap .i64 (s.1.lost+1)=s.1.lost+1/\F9 h2 (.c (.p r 9)) (.c (.i .i64 (s.1.lost+1)))=some h3 /\
    bH q M (.c (.p r 0)) (.c (.i .i64 no)) (.c (.m mk)) (.c (.p px 0)) (.c (.p p8 0)) (.c (.p p9 0)) (.c (.sl lst 0 l.length 3)) (.c (.i .i64 (l.length:Nat))) (.c (.i .i64 ((j+1:Nat):Int))) h3=some (.a (A5 (T4 D (d::t) no K (fJ D (d::t) no K s (k,nm,i)) (l.drop (j+1))).2),h')/\WP D n m f g r (T4 D (d::t) no K (fJ D (d::t) no K s (k,nm,i)) (l.drop (j+1))).1 h'/\Fr r h0 h':=by
   intro hk;have ec:fJ D (d::t) no K s (k,nm,i)=({ s.1 with lost:=s.1.lost+1 },s.2):=by unfold fJ;rw [hk];rfl
   obtain ⟨h3,f1,f2,f3,f4⟩:=P2.setLost hv2 (s.1.lost+1);have Fa:=F2.trans f4;obtain ⟨h',g1,g2⟩:=ih (j+1) M ({ s.1 with lost:=s.1.lost+1 },s.2) h3 (by omega) (by omega) hs (by dsimp only;omega) (by dsimp only;omega) f3 (F.trans Fa) (m2.fr f4) (x2.fr f4) ⟨z,wY,z2.fr f4⟩ (b2.fr f4) (ls2.fr f4);rw [ec];exact ⟨h3,h',f1,wrap_i64 (by omega) (by omega),f2,g1,g2⟩
  rw [dE];cases ho:hmS D (d::t) nm with
  | none =>
   obtain ⟨h3,h',f1,f2,f3,f4,f5⟩:=lose (by unfold A2q atH;simp only [ho];simp);refine ⟨h',?_,f5⟩;rw [ho] at hH s4 lS;generalize encI (d::t)=X at *;simp only [esc,Nat.reduceAdd,c0,ad,l3,s3,lX,lN,hH,E5o,s4,f1,f2,f3,R9,w1];exact f4
  | some p =>
   rw [ho] at hH s4 lS;have ea:=D6d (neg:=true) p (k,nm,i);by_cases c1:P8 (d::t) nm=no
   ·rw [c1] at hH s4 lB;by_cases c2:p=(k,nm,i)
    ·have ea2:aeq true [.i .i64,.s,.i .i64] (.a (slC (some p))) (.a (slC (some (k,nm,i))))=some (.c (.b false)):=by rw [ea,c2];simp
     by_cases c3:(K nm).getD 0=i
     ·have hk:A2q D (d::t) no K (k,nm,i)=true:=by unfold A2q atH;simp only [ho,c1,c2,c3];simp
      have ec:fJ D (d::t) no K s (k,nm,i)=(s.1,I6 s.2 (J2 k) (X3 nm i)):=by unfold fJ;rw [hk];rfl
      rw [ec] at wL ⊢;have E0b:=C8r (k:=k) (s:=nm) (n:=i) (h:=h2) (by omega) x7 xm;obtain ⟨h3,e3⟩:∃ h3,h3=h2++[rT (A5 (X3 nm i)),rT [.i .i64 (J2 k:Nat),.sl h2.length 0 32 1]]:=⟨_,rfl⟩;have s5:E1 (h2++[rT (A5 (X3 nm i)),rT [o0,.ns]]) 2 (.c (.p (h2.length+1) 0)) (.a [.i .i64 (J2 k:Nat),.sl h2.length 0 32 1])=some h3:=by rw [R6,e3];rfl
      have F3:Fr r h2 h3:=by rw [e3];exact Fr.low ((Low.refl (E44 _)).new _) P2.rlt
      have P3:WP D n m f g r s.1 h3:=by rw [e3];exact P2.more hv2 _
      have b3:=b2.fr F3;have hbl:(A5 s.2).length=256:=by rw [A4,hs]
      have q1:=B8 (n:=256) b3.2 hbl;have q2:C8 h3 2 (.c (.p (h2.length+1) 0))=some (.a [.i .i64 (J2 k:Nat),.sl h2.length 0 32 1]):=by rw [e3,Y2];rfl
      have E1N:Has h3 (.c (.sl h2.length 0 32 1)) 1 32 (A5 (X3 nm i)):=Has.row (rw:=true) (by rw [e3];simp) (by rw [A4,X4]) (F0 _);have E3Y:=B7z (a:=J2 k) (l:=s.2) E1N (by omega) (by unfold J2;omega) hs;have hl2:(A5 (I6 s.2 (J2 k) (X3 nm i))).length=256:=by rw [A4];exact wL
      have sb:=storeAll (n:=256) (xs:=A5 (I6 s.2 (J2 k) (X3 nm i))) b3.2 hbl hl2;have Fa:=F2.trans F3;obtain ⟨h',g1,g2⟩:=ih (j+1) M (s.1,I6 s.2 (J2 k) (X3 nm i)) _ (by omega) (by omega) wL l0 (by dsimp only;omega) (P3.set b3.1 (by omega)) ((F.trans Fa).set b3.1 a9) ((m2.fr F3).set n1 b3.1.2.1) ((x2.fr F3).set n2 b3.1.2.1) ⟨z,wY,(z2.fr F3).set n3 b3.1.2.1⟩ b3.self ((ls2.fr F3).set n4 b3.1.2.1);refine ⟨h',?_,g2⟩
      try dsimp only at g1
      have f0:(3:Nat)=3:=rfl;generalize A5 (I6 s.2 (J2 k) (X3 nm i))=B2 at *;generalize A5 s.2=B at *;generalize encI (d::t)=X at *;generalize A5 (X3 nm i)=E at *;simp only [esc,Nat.reduceAdd,c0,ad,l3,s3,lX,lN,hH,E5h,s4,lB,eq_self,lS,lP,ea2,lP0,lP1,lP2,lPE,lk,c3,E0b,s5,q1,q2,E3Y,sb,R9,w1];exact g1
     ·obtain ⟨h3,h',f1,f2,f3,f4,f5⟩:=lose (by unfold A2q;simp [c3]);refine ⟨h',?_,f5⟩;generalize encI (d::t)=X at *;simp only [esc,Nat.reduceAdd,c0,ad,l3,s3,lX,lN,hH,E5h,s4,lB,eq_self,lS,lP,ea2,lP1,lP2,lk,c3,f1,f2,f3,R9,w1];exact f4
    ·have ea2:aeq true [.i .i64,.s,.i .i64] (.a (slC (some p))) (.a (slC (some (k,nm,i))))=some (.c (.b true)):=by rw [ea];simp [c2]
     obtain ⟨h3,h',f1,f2,f3,f4,f5⟩:=lose (by unfold A2q atH;simp only [ho];simp [c2]);refine ⟨h',?_,f5⟩;generalize encI (d::t)=X at *;simp only [esc,Nat.reduceAdd,c0,ad,l3,s3,lX,lN,hH,E5h,s4,lB,eq_self,lS,lP,ea2,f1,f2,f3,R9,w1];exact f4
   ·obtain ⟨h3,h',f1,f2,f3,f4,f5⟩:=lose (by unfold A2q atH;simp only [ho];simp [c1]);refine ⟨h',?_,f5⟩;generalize encI (d::t)=X at *;simp only [esc,Nat.reduceAdd,c0,ad,l3,s3,lX,lN,hH,E5h,s4,lB,c1,f1,f2,f3,R9,w1];exact f4
end
end
section
theorem B4D {D:Dev} {X:List Int} {no:Int} {K:List UInt8->Option Int}:∀ {l:List Slt} {s:Cl × List UInt8},s.2.length=256->(∀ x∈l,x.1<7)->(T4 D X no K s l).2.length=256
 | [],_,hs,_=>hs
 | x::l,s,hs,h=>B4D (l:=l) (s:=fJ D X no K s x) (C9N hs (h x (E5n ..))) λy hy=>h y (E5m _ hy)
theorem A2f {D:Dev} {X:List Int} {no:Int} {K:List UInt8->Option Int}:∀ {l:List Slt} {s:Cl × List UInt8},s.1.lost<=(T4 D X no K s l).1.lost/\(T4 D X no K s l).1.lost<=s.1.lost+l.length
 | [],s=>⟨Int.le_refl _,by show s.1.lost<=_;simp⟩
 | x::l,s=>by
  have h1:=C52 (D:=D) (X:=X) (no:=no) (K:=K) (s:=s) (x:=x);have h2:=A2f (D:=D) (X:=X) (no:=no) (K:=K) (l:=l) (s:=fJ D X no K s x);show s.1.lost<=(T4 D X no K (fJ D X no K s x) l).1.lost/\_<=_;rw [E5a];refine ⟨by omega,?_⟩;show (T4 D X no K (fJ D X no K s x) l).1.lost<=_;omega
structure SameL (c c':Cl):Prop where
 row:c'.row=c.row
 ino:c'.ino=c.ino
 blocks:c'.blocks=c.blocks
 made:c'.made=c.made
 taken:c'.taken=c.taken
 lnk:c'.lnk=c.lnk
 par:c'.par=c.par
theorem oU {D:Dev} {X:List Int} {no:Int} {K:List UInt8->Option Int}:∀ {l:List Slt} {s:Cl × List UInt8},SameL s.1 (T4 D X no K s l).1
 | [],_=>⟨rfl,rfl,rfl,rfl,rfl,rfl,rfl⟩
 | x::l,s=>by
  have h2:=oU (D:=D) (X:=X) (no:=no) (K:=K) (l:=l) (s:=fJ D X no K s x);have h1:SameL s.1 (fJ D X no K s x).1:=by
   unfold fJ;cases A2q D X no K x<;>exact ⟨rfl,rfl,rfl,rfl,rfl,rfl,rfl⟩
  show SameL s.1 (T4 D X no K (fJ D X no K s x) l).1;exact ⟨h2.row.trans h1.row,h2.ino.trans h1.ino,h2.blocks.trans h1.blocks,h2.made.trans h1.made,h2.taken.trans h1.taken,h2.lnk.trans h1.lnk,h2.par.trans h1.par⟩
theorem C7p {b:List UInt8}:∀ x∈N1 b,x.1<7/\x.2.1.length<=24/\A1o x.2.1 x.2.2=true:=λx hx=>by
 have h1:=B1n hx;exact ⟨h1.2,A0k h1.1,D0o h1.1⟩
section
variable {D:Dev} {n m:Int} {f:Cell} {g:A6} {r:Nat} {c:Cl} {h:A6}
theorem D4q {d:Int} {t:List Int} {no:Int} {K:List UInt8->Option Int} {es:W0} {mk:Nat} (hD:okD D) (hv:IsView g f D) (P:WP D n m f g r c h) (ht:t.length=32) (hK:MapK es K) (hm:LocM h r mk es) (l0:0<=c.lost) (l1:c.lost<=900000) :
  ∃ h',jR [.c (.p r 0),.a (encI (d::t)),.c (.i .i64 no),.c (.m mk)] h=some (.a (A5 (T4 D (d::t) no K (c,aU []) (N1 (blk D no))).2),h')/\WP D n m f g r (T4 D (d::t) no K (c,aU []) (N1 (blk D no))).1 h'/\Fr r h h':=by
 have hv2:=hv.get;have h33:(encI (d::t)).length=33:=by simp [A8,ht]
 have E3Z:=λh=>C8q (v:=.c .ns) (nv:=0) (l:=[]) (h:=h) (.inl ⟨rfl,rfl,rfl⟩) (by simp)
 have hNl:(A5 (aU [])).length=256:=by rw [A4];exact oY
 have hZl:(A5 (zeros 256)).length=256:=by rw [A4];exact zeros_length
 obtain ⟨T,hT⟩:∃ T,T=[rT (encI (d::t)),rT (A5 (zeros 256)),rT (A5 (aU []))]:=⟨_,rfl⟩;have F1:Fr r h (h++T):=Fr.low ((Low.refl (E44 _)).new _) P.rlt;have P1:=P.more hv2 T;have lV:=P1.view;have hB:=dL (n:=n) (m:=m) (no:=no) hD (hv.since P1.lo);obtain ⟨v,tt,b1,b2,b3⟩:=A7h (b:=blk D no) (h:=h++T) (O2 hD);have hlen:=b2.len;have h7:=dI (blk D no);have F2:Fr r (h++T) (h++T++tt):=Fr.low ((Low.refl (E44 _)).new _) P1.rlt;have P2:=P1.more hv2 tt;have L0:LocV (h++T) r h.length (encI (d::t)):=LocV.new (k:=0) hv2 P (by rw [hT];rfl);have L1:LocV (h++T) r (h.length+1) (A5 (zeros 256)):=LocV.new (k:=1) hv2 P (by rw [hT];rfl);have L2:LocV (h++T) r (h.length+2) (A5 (aU [])):=LocV.new (k:=2) hv2 P (by rw [hT];rfl);have main:∃ h',bH 100 100 (.c (.p r 0)) (.c (.i .i64 no)) (.c (.m mk)) (.c (.p h.length 0)) (.c (.p (h.length+1) 0)) (.c (.p (h.length+2) 0)) v (.c (.i .i64 ((N1 (blk D no)).length:Nat))) (.c o0) (h++T++tt)=some (.a (A5 (T4 D (d::t) no K (c,aU []) (N1 (blk D no))).2),h')/\WP D n m f g r (T4 D (d::t) no K (c,aU []) (N1 (blk D no))).1 h'/\Fr r h h':=by
  rcases b3 with ⟨rfl,rfl,b3⟩ | ⟨rfl,rfl⟩
  ·rw [b3,E5t];have c00:decide ((0:Int)<((0:Nat):Int))=false:=by decide
   have q1:=B8 (n:=256) L2.2 hNl;have s1:=storeAll (n:=256) (xs:=A5 (aU [])) L1.2 hZl hNl;have z2:=L1.self (cs':=A5 (aU []));have q2:=B8 (n:=256) z2.2 hNl;refine ⟨(h++T).set (h.length+1) (rT (A5 (aU []))),?_,P1.set L1.1 (by have:=P.lo.2.1;omega),F1.set L1.1 (by omega)⟩;rw [dE];show _=some (Val.a (A5 (aU [])),_);generalize A5 (aU [])=B at *;generalize h++T=G at *;simp only [esc,c00,q1,s1,q2]
  ·have hT3:(h++T).length=h.length+3:=by rw [hT];simp
   have L3:LocV (h++T++[rT (rF (N1 (blk D no)))]) r ((h++T).length+0) (rF (N1 (blk D no))):=LocV.new (k:=0) hv2 P1 rfl;rw [Nat.add_zero] at L3;have hml:=hm.1.1;obtain ⟨h',e1,e2,e3⟩:=D4p (n:=n) (m:=m) (q:=100) (no:=no) (h0:=h) (mk:=mk) (px:=h.length) (p8:=h.length+1) (p9:=h.length+2) (lst:=(h++T).length) (l:=N1 (blk D no)) hD hv ht hK P.lo.2.1 (by omega) (by omega) (by omega) (by omega) (by omega) (by omega) h7 C7p (N1 (blk D no)).length 0 100 (c,aU []) _ (by omega) (by omega) (oY (l:=[])) l0 (by dsimp only;omega) P2 (F1.trans F2) (hm.fr (F1.trans F2)) (L0.fr F2) ⟨_,hZl,L1.fr F2⟩ (L2.fr F2) L3;rw [E5k] at e1 e2;exact ⟨h',e1,e2,e3⟩
 obtain ⟨h',e1,e2,e3⟩:=main;refine ⟨h',A4a (n:=100) ?_,e2,e3⟩;rw [A33,I5];rw [hT] at e1 lV hB b1;have sB:stN (rT (A5 (zeros 256))) 0 256 (A5 (aU []))=rT (A5 (aU [])):=jJ hZl hNl;generalize A5 (T4 D (d::t) no K (c,aU []) (N1 (blk D no))).2=BR at *;generalize A5 (aU [])=B at *;generalize A5 (zeros 256)=Z at *;generalize encI (d::t)=X at *;generalize vwC D.length n m f=V at *;generalize A5 (blk D no)=Y at *;simp only [esc,E3Z,R6,Nat.reduceAdd,sB,lV,hB,b1,hlen];simp only [esc] at e1;exact e1
end
end
section
def Y7 (D:Dev) (n ino:Int) (s:Cl × (List UInt8->Option Int)) (e:Ent):Cl × (List UInt8->Option Int):=bif gR D n s.1 e.2 then (cX D n s.1 ino e.2,C8Z s.2 e.1 e.2) else s
def Z9 (D:Dev) (n ino:Int) (s:Cl × (List UInt8->Option Int)) (L:List Ent):Cl × (List UInt8->Option Int):=L.foldl (Y7 D n ino) s
def uG (D:Dev) (X:List Int) (K:List UInt8->Option Int) (c:Cl) (no:Int):Cl:=R5 (T4 D X no K (c,aU []) (N1 (blk D no))).1 no (T4 D X no K (c,aU []) (N1 (blk D no))).2
def M9 (D:Dev) (X:List Int) (K:List UInt8->Option Int) (c:Cl) (L:List Int):Cl:=L.foldl (uG D X K) c
def BndL (c:Cl) (B:Int):Prop:=∀ i,0<=(c.lnk i).getD 0/\(c.lnk i).getD 0<=B
theorem BndL.mono {c:Cl} {B B':Int} (h:BndL c B) (hb:B<=B'):BndL c B':=λi=>⟨(h i).1,Int.le_trans (h i).2 hb⟩
structure SameT (c c':Cl):Prop where
 ino:c'.ino=c.ino
 blocks:c'.blocks=c.blocks
 made:c'.made=c.made
 taken:c'.taken=c.taken
 lost:c'.lost=c.lost
theorem A2z {D:Dev} {n ino B:Int} {s:Cl × (List UInt8->Option Int)} {e:Ent} (hb:BndL s.1 B):SameT s.1 (Y7 D n ino s e).1/\BndL (Y7 D n ino s e).1 (B+1)/\(Y7 D n ino s e).1.row.length<=s.1.row.length+1:=by
 have hl:BndL (B0B s.1 e.2) (B+1):=by
  intro i;have h1:=hb i;have h2:=hb e.2;unfold B0B uI;dsimp only;by_cases c:i=e.2
  ·rw [if_pos c];simp;omega
  ·rw [if_neg c];omega
 unfold Y7 cX;cases gR D n s.1 e.2 with
 | false=>exact ⟨⟨rfl,rfl,rfl,rfl,rfl⟩,hb.mono (by omega),by simp⟩
 | true =>
  simp only [cond_true];cases (s.1.par e.2).isSome with
  | true=>exact ⟨⟨rfl,rfl,rfl,rfl,rfl⟩,hl,by simp [B0B]⟩
  | false=>exact ⟨⟨rfl,rfl,rfl,rfl,rfl⟩,λi=>hl i,by simp [D4T,B0B]⟩
section
variable {D:Dev} {n m:Int} {f:Cell} {g:A6} {r:Nat} {h:A6}
theorem LocM.self {id:Nat} {es es':W0} (a:LocM h r id es):LocM (h.set id (some (S4 es'))) r id es' :=
 ⟨⟨by simpa using a.1.1,a.1.2.1,λhn=>a.1.2.2 ((Nam.same (A7 a.1.2.1)).1 hn)⟩,B7 a.1.1⟩
theorem D5k {ino:Int} {L:List Ent} {pi px mk lst q:Nat} {ci cx:List Cell} {h0:A6} (hD:okD D) (hv:IsView g f D) (h0g:g.length<=h0.length) (am:h0.length<=mk) (n1:mk≠pi) (n2:mk≠px) (n3:mk≠lst) (hL:L.length<=10000) :
  ∀ (e j M:Nat) (B:Int) (s:Cl × (List UInt8->Option Int)) (es:W0) (h:A6),j+e=L.length->e<M->s.1.row.length+e<=100000->B+e<900000->BndL s.1 B->WP D n m f g r s.1 h->Fr r h0 h->LocM h r mk es->MapK es s.2->LocV h r pi ci->LocV h r px cx->LocV h r lst (U2 L) ->
  ∃ M' es' h',jH q M (.c (.p r 0)) (.c (.i .i64 ino)) (.c (.p pi 0)) (.c (.p px 0)) (.c (.m mk)) (.c (.sl lst 0 L.length 2)) (.c (.i .i64 (L.length:Nat))) (.c (.i .i64 (j:Int))) h =
   jH q (M'+1) (.c (.p r 0)) (.c (.i .i64 ino)) (.c (.p pi 0)) (.c (.p px 0)) (.c (.m mk)) (.c (.sl lst 0 L.length 2)) (.c (.i .i64 (L.length:Nat))) (.c (.i .i64 (L.length:Nat))) h' /\
   WP D n m f g r (Z9 D n ino s (L.drop j)).1 h'/\Fr r h0 h'/\LocM h' r mk es'/\MapK es' (Z9 D n ino s (L.drop j)).2/\LocV h' r pi ci/\LocV h' r px cx/\BndL (Z9 D n ino s (L.drop j)).1 (B+e)/\(Z9 D n ino s (L.drop j)).1.row.length<=s.1.row.length+e/\SameT s.1 (Z9 D n ino s (L.drop j)).1:=by
 intro e
 induction e with
 | zero =>
  intro j M B s es h hj hM hr hB hb P F hm hK hi hx hl;obtain ⟨M,rfl⟩:∃ M',M=M'+1:=⟨M-1,by omega⟩;have ej:j=L.length:=by omega
  subst ej;rw [List.drop_length];exact ⟨M,es,h,rfl,P,F,hm,hK,hi,hx,hb.mono (by omega),by show s.1.row.length<=_;omega,⟨rfl,rfl,rfl,rfl,rfl⟩⟩
 | succ e ih =>
  intro j M B s es h hj hM hr hB hb P F hm hK hi hx hl;obtain ⟨M,rfl⟩:∃ M',M=M'+1:=⟨M-1,by omega⟩;have hjl:j<L.length:=by omega
  have c0:((j:Int)<(L.length:Nat)):=by omega
  have hv2:=hv.get;have w1:=C6 (show j+1<9223372036854775808 by omega);have E1N:Has h (.c (.sl lst 0 L.length 2)) 2 L.length (U2 L):=Has.row hl.2 B1i D6y;obtain ⟨ad,a1,a2⟩:=D6z E1N hjl;rw [E46 hjl];obtain ⟨x,hxe⟩:∃ x,x=L[j]:=⟨_,rfl⟩;rw [<-hxe] at a2 ⊢;have er:∀ T,Z9 D n ino s (x::T)=Z9 D n ino (Y7 D n ino s x) T:=λT=>rfl
  rw [er];obtain ⟨tf1,tf2,tf3⟩:=A2z (D:=D) (n:=n) (ino:=ino) (s:=s) (e:=x) hb;obtain ⟨hh,hhe⟩:∃ hh,hh=h++[rT (V3 (some x))]:=⟨_,rfl⟩;have se:E1 (h++[rT [.s [],o0]]) 2 (.c (.p h.length 0)) (.a (V3 (some x)))=some hh:=by rw [hhe];exact E2H
  have F1:Fr r h hh:=by rw [hhe];exact Fr.low ((Low.refl (E44 _)).new _) P.rlt
  have P1:WP D n m f g r s.1 hh:=by rw [hhe];exact P.more hv2 _
  have L1:LocV hh r (h.length+0) (V3 (some x)):=by rw [hhe];exact LocV.new (k:=0) hv2 P rfl
  rw [Nat.add_zero] at L1;have e1:B4 hh (.c (.p h.length 1))=some (.c (.i .i64 x.2)):=B5 L1.2 rfl rfl;have hkl:=hb x.2;obtain ⟨h2,f1,f2,f3⟩:=E01 (dir:=ino) (ino:=x.2) hD hv P1 (by omega) (by omega);have Fa:=F1.trans f3;have m2:=hm.fr Fa;have i2:=hi.fr Fa;have x2:=hx.fr Fa;have l2:=hl.fr Fa;have L2:=L1.fr f3;have e2:B4 h2 (.c (.p h.length 0))=some (.c (.s x.1)):=B5 L2.2 rfl rfl;have e3:B4 h2 (.c (.p h.length 1))=some (.c (.i .i64 x.2)):=B5 L2.2 rfl rfl;cases hb2:gR D n s.1 x.2 with
  | true =>
   have et:Y7 D n ino s x=(cX D n s.1 ino x.2,C8Z s.2 x.1 x.2):=by unfold Y7;rw [hb2];rfl
   have mp:=E4x (a:=x.1) (x:=x.2) m2.2 hK;have U8:=hm.1.1;rw [et] at tf1 tf2 tf3 ⊢;obtain ⟨M',es',h',g1,g2,g3,g4,g5,g6,g7,g8,g9,g10⟩:=ih (j+1) M (B+1) (cX D n s.1 ino x.2,C8Z s.2 x.1 x.2) (A71 (.s x.1) (.c (.i .i64 x.2)) es) _ (by omega) (by omega) (by dsimp only at tf3 ⊢;omega) (by omega) tf2 (f2.set m2.1 (by omega)) ((F.trans Fa).set m2.1 am) m2.self (hK.put x.1 x.2) (i2.set n1 m2.1.2.1) (x2.set n2 m2.1.2.1) (l2.set n3 m2.1.2.1);refine ⟨M',es',h',?_,g2,g3,g4,g5,g6,g7,g8.mono (by omega),by dsimp only at tf3 g9;omega,⟨g10.ino.trans tf1.ino,g10.blocks.trans tf1.blocks,g10.made.trans tf1.made,g10.taken.trans tf1.taken,g10.lost.trans tf1.lost⟩⟩;rw [kF];rw [hb2] at f1;simp only [esc,c0,a1,a2,se,e1,f1,e2,e3,mp,wA,w1];exact g1
  | false =>
   have et:Y7 D n ino s x=s:=by unfold Y7;rw [hb2];rfl
   have ec:cX D n s.1 ino x.2=s.1:=by unfold cX;rw [hb2];rfl
   rw [ec] at f2;rw [et];obtain ⟨M',es',h',g1,g2,g3,g4,g5,g6,g7,g8,g9,g10⟩:=ih (j+1) M B s es h2 (by omega) (by omega) (by omega) (by omega) hb f2 (F.trans Fa) m2 hK i2 x2 l2;refine ⟨M',es',h',?_,g2,g3,g4,g5,g6,g7,g8.mono (by omega),by omega,g10⟩;rw [kF];rw [hb2] at f1;simp only [esc,c0,a1,a2,se,e1,f1,wA,w1];exact g1
theorem D2T {d:Int} {t L:List Int} {K:List UInt8->Option Int} {es:W0} {mk px sid q:Nat} {h0:A6} (hD:okD D) (hv:IsView g f D) (ht:t.length=32) (hK:MapK es K) (hL:L.length<=100) :
  ∀ (e j M:Nat) (c:Cl) (h:A6),j+e=L.length->e<M->0<=c.lost->c.lost+7*e<=900000->c.blocks.length+e<=100000->c.made.length+e<=100000->WP D n m f g r c h->Fr r h0 h->LocM h r mk es->LocV h r px (encI (d::t))->LocV h r sid (encI L) ->
  ∃ h',A2d q M (.c (.p r 0)) (.c (.p px 0)) (.c (.m mk)) (.c (.sl sid 0 L.length 1)) (.c (.i .i64 (L.length:Nat))) (.c (.i .i64 (j:Int))) h=some (.t [],h')/\WP D n m f g r (M9 D (d::t) K c (L.drop j)) h'/\Fr r h0 h' /\
   0<=(M9 D (d::t) K c (L.drop j)).lost/\(M9 D (d::t) K c (L.drop j)).lost<=c.lost+7*e/\(M9 D (d::t) K c (L.drop j)).blocks.length=c.blocks.length+e/\(M9 D (d::t) K c (L.drop j)).made.length=c.made.length+e/\(M9 D (d::t) K c (L.drop j)).row=c.row/\(M9 D (d::t) K c (L.drop j)).lnk=c.lnk/\(M9 D (d::t) K c (L.drop j)).ino=c.ino:=by
 intro e
 induction e with
 | zero =>
  intro j M c h hj hM l0 l1 b0 b1 P F hm hx hl;obtain ⟨M,rfl⟩:∃ M',M=M'+1:=⟨M-1,by omega⟩;have c0:¬ ((j:Int)<(L.length:Nat)):=by omega
  rw [E5c (by omega)];refine ⟨h,?_,P,F,l0,by show c.lost<=_;omega,rfl,rfl,rfl,rfl,rfl⟩;rw [wC];simp only [esc,c0];rfl
 | succ e ih =>
  intro j M c h hj hM l0 l1 b0 b1 P F hm hx hl;obtain ⟨M,rfl⟩:∃ M',M=M'+1:=⟨M-1,by omega⟩;have hjl:j<L.length:=by omega
  have c0:((j:Int)<(L.length:Nat)):=by omega
  have hv2:=hv.get;have w1:=C6 (show j+1<9223372036854775808 by omega);have ad:D5 1 (.c (.sl sid 0 L.length 1)) (.c (.i .i64 (j:Int)))=some (.c (.p sid j)):=by rw [C4 hjl];simp
  have a1:B4 h (.c (.p sid j))=some (.c (.i .i64 L[j])):=B5 hl.2 (by rw [F6,E40 hjl];rfl) rfl;have lX:C8 h 33 (.c (.p px 0))=some (.a (encI (d::t))):=B8 hx.2 (by simp [A8,ht]);obtain ⟨h1,f1,f2,f3⟩:=D4q (no:=L[j]) hD hv P ht hK hm l0 (by omega);have hlen:=B4D (D:=D) (X:=d::t) (no:=L[j]) (K:=K) (l:=N1 (blk D L[j])) (s:=(c,aU [])) (oY (l:=[])) λx hx=>(C7p x hx).1
  have hlo:=A2f (D:=D) (X:=d::t) (no:=L[j]) (K:=K) (l:=N1 (blk D L[j])) (s:=(c,aU []));have hsa:=oU (D:=D) (X:=d::t) (no:=L[j]) (K:=K) (l:=N1 (blk D L[j])) (s:=(c,aU []));have h7:=dI (blk D L[j]);have em:uG D (d::t) K c L[j]=R5 (T4 D (d::t) L[j] K (c,aU []) (N1 (blk D L[j]))).1 L[j] (T4 D (d::t) L[j] K (c,aU []) (N1 (blk D L[j]))).2:=rfl;obtain ⟨s,hs⟩:∃ s,s=T4 D (d::t) L[j] K (c,aU []) (N1 (blk D L[j])):=⟨_,rfl⟩;rw [<-hs] at f1 f2 hlen hlo hsa em;dsimp only at hlo hsa;have eb:=hsa.blocks;have emd:=hsa.made;obtain ⟨h2,g1,g2,g3⟩:=D1B (no:=L[j]) hv2 f2 hlen (by rw [eb];omega) (by rw [emd];omega);have Fa:=f3.trans g3;rw [E46 hjl];have er:∀ T,M9 D (d::t) K c (L[j]::T)=M9 D (d::t) K (uG D (d::t) K c L[j]) T:=λT=>rfl
  rw [er,em];have k1:(R5 s.1 L[j] s.2).blocks.length=c.blocks.length+1:=by show (s.1.blocks++[L[j]]).length=_;rw [eb];simp
  have k2:(R5 s.1 L[j] s.2).made.length=c.made.length+1:=by show (s.1.made++[s.2]).length=_;rw [emd];simp
  have k3:(R5 s.1 L[j] s.2).lost=s.1.lost:=rfl;obtain ⟨h',p1,p2,p3,p4,p5,p6,p7,p8,p9,p10⟩:=ih (j+1) M (R5 s.1 L[j] s.2) h2 (by omega) (by omega) (by rw [k3];omega) (by rw [k3];omega) (by omega) (by omega) g2 (F.trans Fa) (hm.fr Fa) (hx.fr Fa) (hl.fr Fa);refine ⟨h',?_,p2,p3,p4,by rw [k3] at p5;omega,by omega,by omega,p8.trans hsa.row,p9.trans hsa.lnk,p10.trans hsa.ino⟩;rw [wC];generalize A5 s.2=B2 at *;generalize encI (d::t)=X at *;simp only [esc,c0,ad,a1,lX,f1,g1,w1];exact p1
end
end
section
def fY (D:Dev) (n:Int) (c:Cl) (ino:Int):Cl × Int :=
 bif decide (kdV D n ino=2)&&T8 (blk D ((drV D n ino).getD 0 0)) then (dG D n c ((drV D n ino).getD 0 0),T0 D n c ((drV D n ino).getD 0 0)) else (c,0)
def W9 (D:Dev) (n:Int) (c:Cl) (ino:Int):Cl:={ (fY D n c ino).1 with ino:=(fY D n c ino).1.ino.set ino.toNat (2::1::0::(c.par ino).getD 0::(fY D n c ino).2::zI 6) }
def T7 (D:Dev) (n:Int) (c:Cl) (d:Int) (t:List Int):Cl × List Int:=mT D n (c,eY d t) (J6 (eY d t) (B9 (V7 d t)))
def bodyT (D:Dev) (n:Int) (c:Cl) (ino d:Int) (t:List Int):Cl × (List UInt8->Option Int) :=
 Z9 D n ino ((T7 D n c d t).1,λ_=>none) (mW D (V7 d t::(T7 D n c d t).2) (J6 (T7 D n c d t).2 (B9 (V7 d t))))
def vX (D:Dev) (n:Int) (c:Cl) (ino no d:Int) (t:List Int):Cl :=
 M9 D (V7 d t::(T7 D n c d t).2) (bodyT D n c ino d t).2 (R5 (bodyT D n c ino d t).1 no (bif okX (V7 d t) (T7 D n c d t).2 then eZ (V7 d t) (T7 D n c d t).2 else zeros 256)) (J6 (T7 D n c d t).2 (B9 (V7 d t)))
def pF (D:Dev) (n:Int) (c:Cl) (ino:Int):Cl :=
 if (fY D n c ino).2=0 then W9 D n c ino else
  vX D n (W9 D n c ino) ino (fY D n c ino).2 (getD (blk D ((drV D n ino).getD 0 0))) (N0 (blk D ((drV D n ino).getD 0 0)) 32)
theorem A9H {D:Dev}:∀ {L:List Int},(tO D L).length<=7*L.length
 | []=>by simp [tO]
 | no::L=>by
  have h1:=A9H (D:=D) (L:=L);have h2:=dI (blk D no);rw [B9u,E43,List.length_map,E5a];omega
theorem B7j {D:Dev} {X L:List Int}:(mW D X L).length<=7*L.length:=by
 have h1:=A9H (D:=D) (L:=L);have h2:=A4U (D:=D) (X:=X) (s:=tO D L);unfold mW;rw [List.length_map];have h3:=A6P (F8 D X (tO D L));omega
structure Small (c:Cl) (R B S L:Nat):Prop where
 row:c.row.length<=R
 lnk:BndL c B
 blocks:c.blocks.length<=S
 made:c.made.length<=S
 lost0:0<=c.lost
 lost:c.lost<=(L:Int)
section
variable {D:Dev} {n m:Int} {f:Cell} {g:A6} {r:Nat} {c:Cl} {h:A6}
theorem D8e {ino no d:Int} {t:List Int} {pi px q R B S Lo:Nat} {k l s p:Int} {tl:List Int} {h0:A6} (hD:okD D) (hv:IsView g f D) (ht:t.length=32) (hq:300<=q) (h0g:g.length<=h0.length) (ax:h0.length<=px) (npx:px≠pi)
  (hR:R<=50000) (hB:B<=500000) (hS:S<=50000) (hLo:Lo<=500000) (sm:Small c R B S Lo) (P:WP D n m f g r c h) (F:Fr r h0 h) (hi:LocV h r pi (E6 k l s p (no::tl))) (htl:tl.length=6) (hx:LocV h r px (encI (d::t))) :
  ∃ h',(bnd (C8 h 33 (.c (.p px 0))) λv48=>bnd (cE [.c (.p r 0),v48] h) λp49=>bnd (E1 p49.2 33 (.c (.p px 0)) p49.1) λh50=>bnd (C8 (h50++[some (S4 [])]) 33 (.c (.p px 0))) λv51=>bnd (fP [.c (.p r 0),v51] (h50++[some (S4 [])])) λp52=>bnd (D1a p52.1) λv53=>jH q q (.c (.p r 0)) (.c (.i .i64 ino)) (.c (.p pi 0)) (.c (.p px 0)) (.c (.m h50.length)) p52.1 v53 (.c o0) p52.2)=some (.t [],h') /\
   WP D n m f g r (vX D n c ino no d t) h'/\Fr r h0 h'/\Small (vX D n c ino no d t) (R+224) (B+224) (S+33) (Lo+224)/\(vX D n c ino no d t).ino=c.ino:=by
 have hv2:=hv.get;have h33:(encI (d::t)).length=33:=by simp [A8,ht]
 have l33:=B8 (n:=33) hx.2 h33;obtain ⟨hA,a1,a2,a3⟩:=D4k (d:=d) (t:=t) hv2 P ht;have hbs:=fS (D:=D) (n:=n) (L:=J6 (eY d t) (B9 (V7 d t))) (s:=(c,eY d t));have hbl:=B1f (D:=D) (n:=n) (L:=J6 (eY d t) (B9 (V7 d t))) (s:=(c,eY d t));have eb:mT D n (c,eY d t) (J6 (eY d t) (B9 (V7 d t)))=T7 D n c d t:=rfl;rw [eb] at a1 a2 hbs hbl;have hbT:(T7 D n c d t).2.length=32:=hbl.trans wH;obtain ⟨d',hd'⟩:∃ d',d'=V7 d t:=⟨_,rfl⟩;unfold vX bodyT;rw [<-hd'] at a1 ⊢;obtain ⟨s1,hs1⟩:∃ s1,s1=T7 D n c d t:=⟨_,rfl⟩;rw [<-hs1] at a1 a2 hbs hbT ⊢;dsimp only at hbs;have xA:=hx.fr a3;have iA:=hi.fr a3;have C6q:(encI (d'::s1.2)).length=33:=by simp [A8,hbT]
 have st:=storeAll (n:=33) (xs:=encI (d'::s1.2)) xA.2 h33 C6q;obtain ⟨hB',hBe⟩:∃ hB',hB'=hA.set px (rT (encI (d'::s1.2))):=⟨_,rfl⟩;rw [<-hBe] at st;have PB:WP D n m f g r s1.1 hB':=by rw [hBe];exact a2.set xA.1 (by omega)
 have FB:Fr r h0 hB':=by rw [hBe];exact (F.trans a3).set xA.1 ax
 have xB:LocV hB' r px (encI (d'::s1.2)):=by rw [hBe];exact xA.self
 have iB:LocV hB' r pi (E6 k l s p (no::tl)):=by rw [hBe];exact iA.set npx xA.1.2.1
 obtain ⟨L,hL⟩:∃ L,L=J6 s1.2 (B9 d'):=⟨_,rfl⟩;have hLl:L.length<=32:=by rw [hL];exact E5E (fI _ _) (N8 _)
 obtain ⟨N,hN⟩:∃ N,N=mW D (d'::s1.2) L:=⟨_,rfl⟩;have hNl:N.length<=224:=by
  have:=B7j (D:=D) (X:=d'::s1.2) (L:=L);rw [hN];omega
 have PC:=PB.more hv2 [some (S4 [])];have FC:Fr r hB' (hB'++[some (S4 [])]):=Fr.low ((Low.refl (E44 _)).new _) PB.rlt;have nmE:=D8O (n:=n) (m:=m) (f:=f) (r:=r) (d:=d') (t:=s1.2) (h:=hB'++[some (S4 [])]) hD (hv.since PC.lo) (PC.vw hv2) hbT;rw [<-hL,<-hN] at nmE;have PD:=PC.more hv2 [rT (U2 N)];have FD:Fr r (hB'++[some (S4 [])]) (hB'++[some (S4 [])]++[rT (U2 N)]):=Fr.low ((Low.refl (E44 _)).new _) PC.rlt;have hCl:(hB'++[some (S4 [])]).length=hB'.length+1:=by simp
 have LD:LocV (hB'++[some (S4 [])]++[rT (U2 N)]) r (hB'.length+1) (U2 N):=by
  have:=LocV.new (h:=hB'++[some (S4 [])]) (t:=[rT (U2 N)]) (k:=0) (cs:=U2 N) hv2 PC rfl;rw [hCl] at this;exact this
 have mkD:LocM (hB'++[some (S4 [])]++[rT (U2 N)]) r hB'.length []:=by
  refine LocM.fr (h:=hB'++[some (S4 [])]) ⟨⟨by simp,by have:=PB.rlt;omega,λhn=>?_⟩,by simp⟩ FD;have:=B9R hv2 PB ((Nam.same (D4 PB.rlt)).1 hn);omega
 have hpx:=xB.1.1;have hpi:=iB.1.1;have bl0:BndL s1.1 B:=λi=>by rw [hbs.lnk];exact sm.lnk i
 have r0:s1.1.row.length<=R:=by rw [hbs.row];exact sm.row
 have hh0:=FB.size;obtain ⟨M',es',hE,e1,e2,e3,e4,e5,e6,e7,e8,e9,e10⟩:=D5k (q:=q) (ino:=ino) (L:=N) (pi:=pi) (px:=px) (mk:=hB'.length) (lst:=hB'.length+1) (h0:=h0) hD hv h0g hh0 (by omega) (by omega) (by omega) (by omega) N.length 0 q B (s1.1,λ_=>none) [] _ (by omega) (by omega) (by dsimp only;omega) (by omega) bl0 PD (FB.trans (FC.trans FD)) mkD MapK.nil (iB.fr (FC.trans FD)) (xB.fr (FC.trans FD)) LD;rw [E5k] at e2 e5 e8 e9 e10;rw [<-hL,<-hN];obtain ⟨s2,hs2⟩:∃ s2,s2=Z9 D n ino (s1.1,λ_=>none) N:=⟨_,rfl⟩;rw [<-hs2] at e2 e5 e8 e9 e10 ⊢;dsimp only at e9 e10;have E0b:=B67 (d:=d') (t:=s1.2) (h:=hE) hbT;obtain ⟨ib,hib⟩:∃ ib,ib=(bif okX d' s1.2 then eZ d' s1.2 else zeros 256):=⟨_,rfl⟩;have E27:ib.length=256:=by
  rw [hib];cases okX d' s1.2 with
  | true=>exact kP hbT
  | false=>exact zeros_length
 rw [<-hib] at E0b ⊢;have hIl:(A5 ib).length=256:=by rw [A4,E27]
 have PF:=e2.more hv2 [rT (A5 ib)];have FF:Fr r hE (hE++[rT (A5 ib)]):=Fr.low ((Low.refl (E44 _)).new _) e2.rlt;have iF:=e6.fr FF;have xF:=e7.fr FF;have mF:=e4.fr FF;have lXE:C8 hE 33 (.c (.p px 0))=some (.a (encI (d'::s1.2))):=B8 e7.2 C6q;have li:B4 (hE++[rT (A5 ib)]) (.c (.p pi 4))=some (.c (.i .i64 no)):=B5 iF.2 rfl rfl;have lib:C8 (hE++[rT (A5 ib)]) 256 (.c (.p hE.length 0))=some (.a (A5 ib)):=by rw [N6];exact gB hIl
 have sib:E1 (hE++[rT (E41 256 (Cell.i .u8 0))]) 256 (.c (.p hE.length 0)) (.a (A5 ib))=some (hE++[rT (A5 ib)]):=by
  rw [J1];show mp (stN (rT (E41 256 (Cell.i .u8 0))) 0 256 (A5 ib)) _=_;rw [jJ E5r hIl];rfl
 obtain ⟨hG,g1,g2,g3⟩:=D1B (no:=no) hv2 PF E27 (by rw [e10.blocks,hbs.blocks];have:=sm.blocks;omega) (by rw [e10.made,hbs.made];have:=sm.made;omega);have xG:=xF.fr g3;have mG:=mF.fr g3;have lXG:C8 hG 33 (.c (.p px 0))=some (.a (encI (d'::s1.2))):=B8 xG.2 C6q;have hBu:=uD (d:=d') (t:=s1.2) (h:=hG) hbT;rw [<-hL] at hBu;have PH:=g2.more hv2 [rT (encI L)];have FH:Fr r hG (hG++[rT (encI L)]):=Fr.low ((Low.refl (E44 _)).new _) g2.rlt;have lH:LocV (hG++[rT (encI L)]) r (hG.length+0) (encI L):=LocV.new (k:=0) hv2 g2 rfl;rw [Nat.add_zero] at lH;have cb:(R5 s2.1 no ib).blocks.length=c.blocks.length+1:=by show (s2.1.blocks++[no]).length=_;rw [e10.blocks,hbs.blocks];simp
 have cm:(R5 s2.1 no ib).made.length=c.made.length+1:=by show (s2.1.made++[ib]).length=_;rw [e10.made,hbs.made];simp
 have cl:(R5 s2.1 no ib).lost=c.lost:=by show s2.1.lost=_;rw [e10.lost,hbs.lost]
 have sb:=sm.blocks;have smd:=sm.made;have sl0:=sm.lost0;have sl1:=sm.lost;obtain ⟨hZ,z1,z2,z3,z4,z5,z6,z7,z8,z9,z10⟩:=D2T (q:=q) (d:=d') (t:=s1.2) (L:=L) (K:=s2.2) (es:=es') (mk:=hB'.length) (px:=px) (sid:=hG.length) (h0:=h0) hD hv hbT e5 (by omega) L.length 0 q (R5 s2.1 no ib) _ (by omega) (by omega) (by rw [cl];omega) (by rw [cl];omega) (by omega) (by omega) PH (e3.trans (FF.trans (g3.trans FH))) (mG.fr FH) (xG.fr FH) lH;rw [E5k] at z2 z4 z5 z6 z7 z8 z9 z10;refine ⟨hZ,?_,z2,z3,⟨?_,?_,by omega,by omega,z4,by omega⟩,?_⟩
 ·have lXB:C8 (hB'++[some (S4 [])]) 33 (.c (.p px 0))=some (.a (encI (d'::s1.2))):=B8 (B6 xB.2) C6q;have e00:((0:Nat):Int)=0:=rfl;rw [e00] at e1 z1;have cN:¬ ((N.length:Nat):Int)<(N.length:Nat):=by omega
  rw [hCl] at nmE;rw [kF q M'] at e1;generalize encI (d::t)=X at *;generalize encI (d'::s1.2)=X' at *;generalize A5 ib=IB at *;generalize E41 256 (Cell.i .u8 0)=Z at *;simp only [Q5,l33,a1,st,lXB,nmE,D1b];refine e1.trans ?_;simp only [esc,Nat.reduceAdd,cN,lXE,E0b,sib,li,lib,g1,lXG,hBu];have ad0:∀ j,J3 6 1 (.c (.p j 4)) (.c o0)=some (.c (.p j 4)):=λj=>J4 (j:=0) (by omega)
  simp only [esc,Nat.reduceAdd,ad0,li,lib,g1,lXG,hBu];exact z1
 ·rw [z8];show s2.1.row.length<=_;omega
 ·intro i;have:=e8 i;rw [z9];show 0<=(s2.1.lnk i).getD 0/\(s2.1.lnk i).getD 0<=_;omega
 ·rw [z10];show s2.1.ino=_;rw [e10.ino,hbs.ino]
end
end
section
section
variable {D:Dev} {n m:Int} {f:Cell} {g:A6} {r:Nat} {c:Cl} {h:A6}
theorem D8d {ino:Nat} {no p0 d:Int} {t:List Int} {q R B S Lo:Nat} {h0:A6} (hD:okD D) (hv:IsView g f D) (ht:t.length=32) (hq:300<=q) (h0g:g.length<=h0.length) (i1:ino<c.ino.length)
  (hR:R<=50000) (hB:B<=500000) (hS:S<=50000) (hLo:Lo<=500000) (sm:Small c R B S Lo) (P:WP D n m f g r c h) (F:Fr r h0 h) (hi:LocV h r h0.length (E6 2 1 0 p0 (no::zI 6))) (hx:LocV h r (h0.length+2) (encI (d::t))) :
  ∃ h',jG q (pV r 0) (iV (ino:Int)) (pV h0.length 0) (pV (h0.length+2) 0) h=some (.t [],h') /\
   WP D n m f g r (if no=0 then { c with ino:=c.ino.set ino (2::1::0::p0::no::zI 6) } else vX D n { c with ino:=c.ino.set ino (2::1::0::p0::no::zI 6) } ino no d t) h'/\Fr r h0 h' /\
   Small (if no=0 then { c with ino:=c.ino.set ino (2::1::0::p0::no::zI 6) } else vX D n { c with ino:=c.ino.set ino (2::1::0::p0::no::zI 6) } ino no d t) (R+224) (B+224) (S+33) (Lo+224):=by
 have hv2:=hv.get;obtain ⟨id,hC,c1,c2,c3,PC,FC⟩:=P.setIno hv2 (k:=ino) (l:=2::1::0::p0::no::zI 6) i1 rfl;have iC:=hi.fr FC;have xC:=hx.fr FC;have lI:C8 h 11 (pV h0.length 0)=some (.a (encI (2::1::0::p0::no::zI 6))):=B8 hi.2 rfl;have adI:D5 11 (sV id 0 c.ino.length 11) (iV (ino:Int))=some (pV id (ino*11)):=by rw [C4 i1];simp
 have lC4:B4 hC (pV h0.length 4)=some (iV no):=B5 iC.2 rfl rfl;have ad0:∀ j,J3 6 1 (pV j 4) (iV 0)=some (pV j 4):=λj=>J4 (j:=0) (by omega)
 have sm':Small { c with ino:=c.ino.set ino (2::1::0::p0::no::zI 6) } R B S Lo:=⟨sm.row,sm.lnk,sm.blocks,sm.made,sm.lost0,sm.lost⟩;rw [A9Z];by_cases cz:no=0
 ·rw [if_pos cz];refine ⟨hC,?_,PC,F.trans FC,⟨E5E sm.row (by omega),sm'.lnk.mono (by omega),E5E sm.blocks (by omega),E5E sm.made (by omega),sm.lost0,by have:=sm.lost;show c.lost<=_;omega⟩⟩;rw [cz] at lC4;simp only [esc,Nat.reduceAdd,c1,lI,adI,c3,ad0,lC4];rfl
 ·rw [if_neg cz];obtain ⟨h',e1,e2,e3,e4,e5⟩:=D8e (ino:=(ino:Int)) (no:=no) (pi:=h0.length) (px:=h0.length+2) (q:=q) (h0:=h0) hD hv ht hq h0g (by omega) (by omega) hR hB hS hLo sm' PC (F.trans FC) iC (tl:=zI 6) rfl xC;refine ⟨h',?_,e2,e3,e4⟩;simp only [esc,Nat.reduceAdd,c1,lI,adI,c3,ad0,lC4,cz];exact e1
theorem D8c {ino:Int} {R B S Lo:Nat} (hD:okD D) (hv:IsView g f D) (P:WP D n m f g r c h) (i0:0<=ino) (i1:ino.toNat<c.ino.length) (hR:R<=50000) (hB:B<=500000) (hS:S<=50000) (hLo:Lo<=500000) (sm:Small c R B S Lo) :
  ∃ h',mA [pV r 0,iV ino] h=some (.t [],h')/\WP D n m f g r (pF D n c ino) h'/\Fr r h h'/\Small (pF D n c ino) (R+224) (B+224) (S+33) (Lo+224):=by
 have hv2:=hv.get;obtain ⟨k,rfl⟩:=E5I i0;rw [E5j] at i1;obtain ⟨mp,hq9,q1,q2,_⟩:=P.setPar hv2 0 0;have q2':=q2 false k;obtain ⟨p0,hp0⟩:∃ p0,p0=(c.par k).getD 0:=⟨_,rfl⟩;rw [<-hp0] at q2';obtain ⟨d0,hd0⟩:∃ d0,d0=(drV D n k).getD 0 0:=⟨_,rfl⟩;obtain ⟨b,hb⟩:∃ b,b=blk D d0:=⟨_,rfl⟩;have hbl:b.length=256:=by rw [hb];exact O2 hD
 obtain ⟨I,hI⟩:∃ I,I=E6 (kdV D n k) (lnV D n k) (szV D n k) (paV D n k) (drV D n k):=⟨_,rfl⟩;have hIl:I.length=11:=by rw [hI];simp [E6,A8,tR]
 have I0:I[0]?=some (.i .i64 (kdV D n k)):=by rw [hI];rfl
 have I4:I[4]?=some (.i .i64 d0):=by
  rw [hI];simp only [E6,E5N];rw [F6,hd0,E47,E40 (by rw [tR];omega)];rfl
 have hVI:=λt=>vL (n:=n) (m:=m) (i:=(k:Int)) (h:=h++t) hD ((hv.since P.lo).more t)
 rw [A6B,<-hI] at hVI;have lV:=λt=>(P.more hv2 t).view
 have hBk:=λt=>dL (n:=n) (m:=m) (no:=d0) (h:=h++t) hD ((hv.since P.lo).more t)
 rw [<-hb] at hBk;have B6Z:=λh=>D1v (b:=b) (h:=h) hbl
 obtain ⟨X,hX⟩:∃ X,X=(bif T8 b then getD b::N0 b 32 else 0::zI 32):=⟨_,rfl⟩;rw [<-hX] at B6Z;obtain ⟨dd,tt,hXt,htt⟩:∃ dd tt,X=dd::tt/\tt.length=32:=by
  rw [hX];cases T8 b with
  | true=>exact ⟨_,_,rfl,C8I b⟩
  | false=>exact ⟨_,_,rfl,G9⟩
 have hXl:(encI X).length=33:=by rw [hXt];simp [A8,htt]
 obtain ⟨z,hz⟩:∃ z,z=E6 2 1 0 p0 (0::zI 6):=⟨_,rfl⟩;have wY:z.length=11:=by rw [hz];rfl
 have z11:[o0,o0,o0,o0,o0,o0,o0,o0,o0,o0,o0].length=11:=rfl;have ef:D9 [o0,o0,o0,o0,o0,o0,o0,o0,o0,o0,o0] [(0,1,iV 2),(1,1,iV 1),(3,1,iV p0)]=some z:=by rw [hz];rfl
 obtain ⟨T,hT⟩:∃ T,T=[rT z,rT I,rT (encI X)]:=⟨_,rfl⟩;have P1:=P.more hv2 T;have F1:Fr r h (h++T):=Fr.low ((Low.refl (E44 _)).new _) P.rlt;have L0:LocV (h++T) r (h.length+0) z:=LocV.new (k:=0) hv2 P (by rw [hT];rfl);have L1:LocV (h++T) r (h.length+1) I:=LocV.new (k:=1) hv2 P (by rw [hT];rfl);have L2:LocV (h++T) r (h.length+2) (encI X):=LocV.new (k:=2) hv2 P (by rw [hT];rfl);rw [Nat.add_zero] at L0;have ad0:∀ j,J3 6 1 (pV j 4) (iV 0)=some (pV j 4):=λj=>J4 (j:=0) (by omega)
 have eO:fY D n c k=(bif decide (kdV D n k=2)&&T8 b then (dG D n c d0,T0 D n c d0) else (c,0)):=by unfold fY;rw [<-hd0,<-hb]
 have eI:∀ s:Cl × Int,fY D n c k=s->W9 D n c k={ s.1 with ino:=s.1.ino.set k (2::1::0::p0::s.2::zI 6) }:=by
  intro s hs;unfold W9;rw [hs,<-hp0,E5j]
 have eC:∀ s:Cl × Int,fY D n c k=s->(s.2≠0->T8 b=true)->pF D n c k=(if s.2=0 then { s.1 with ino:=s.1.ino.set k (2::1::0::p0::s.2::zI 6) } else vX D n { s.1 with ino:=s.1.ino.set k (2::1::0::p0::s.2::zI 6) } k s.2 dd tt):=by
  intro s hs hg;unfold pF;rw [hs,eI s hs,<-hd0,<-hb];split
  ·rfl
  ·rename_i T5;have h1:=hg T5;rw [h1,cond_true,hXt] at hX;cases hX;rfl
 have pre:∀ {v:Val} {h':A6},(cnd (bV (decide (kdV D n k=2)&&T8 b)) (bnd (jB [pV r 0,iV d0] (h++T)) λp33=>bnd (F9 p33.2 (pV h.length 4) p33.1) λh36=>jG 300 (pV r 0) (iV (k:Int)) (pV h.length 0) (pV (h.length+2) 0) h36)
   (jG 300 (pV r 0) (iV (k:Int)) (pV h.length 0) (pV (h.length+2) 0) (h++T)))=some (v,h')->mA [pV r 0,iV (k:Int)] h=some (v,h'):=by
  intro v h' hj;refine B1F (n:=300) ?_;rw [B1B];rw [hT] at hj;have l0:ld1 (rT I) 0=some (iV (kdV D n k)):=by rw [A2s,I0];rfl
  have l4:ld1 (rT I) 4=some (iV d0):=by rw [A2s,I4];rfl
  have E18:(o0::E41 32 o0).length=33:=by simp
  have s33:stN (rT (o0::E41 32 o0)) 0 33 (encI X)=rT (encI X):=jJ E18 hXl;generalize [o0,o0,o0,o0,o0,o0,o0,o0,o0,o0,o0]=zz at *;generalize E41 32 o0=z32 at *;generalize A5 b=BB at *;generalize encI X=XX at *;generalize vwC D.length n m f=V at *;cases hgd:T8 b with
  | true =>
   rw [hgd] at hj;simp only [hgd,cond_true] at B6Z;by_cases ck:kdV D n k=2
   ·simp only [esc,Y2,N6,dY,S7,R6,J1,gB,jJ,Nat.reduceAdd,q1,q2',A4Y,ef,wY,z11,lV,hVI,hIl,ad0,l4,hBk,B6Z,s33,l0,ck] at hj ⊢;exact hj
   ·simp only [esc,Y2,N6,dY,S7,R6,J1,gB,jJ,Nat.reduceAdd,q1,q2',A4Y,ef,wY,z11,lV,hVI,hIl,ad0,l4,hBk,B6Z,s33,l0,ck,E48] at hj ⊢;exact hj
  | false =>
   rw [hgd,E5Y] at hj;simp only [hgd,cond_false] at B6Z;have n14:¬ (14:Int)=0:=by decide
   by_cases ck:kdV D n k=2
   ·simp only [esc,Y2,N6,dY,S7,R6,J1,gB,jJ,Nat.reduceAdd,q1,q2',A4Y,ef,wY,z11,lV,hVI,hIl,ad0,l4,hBk,B6Z,s33,l0,ck,n14] at hj ⊢;exact hj
   ·simp only [esc,Y2,N6,dY,S7,R6,J1,gB,jJ,Nat.reduceAdd,q1,q2',A4Y,ef,wY,z11,lV,hVI,hIl,ad0,l4,hBk,B6Z,s33,l0,ck] at hj ⊢;exact hj
 cases hok:(decide (kdV D n k=2)&&T8 b) with
 | true =>
  rw [hok] at pre eO;rw [cond_true] at eO;obtain ⟨h1,f1,f2,f3⟩:=B7g (no:=d0) P1;have A0:=L0.fr f3;have A2:=L2.fr f3;have s1:=F5 (x:=.i .i64 (T0 D n c d0)) (off:=4) A0.2 (by rw [wY];omega);have es:z.set 4 (.i .i64 (T0 D n c d0))=E6 2 1 0 p0 (T0 D n c d0::zI 6):=by rw [hz];rfl
  rw [es] at s1;have hsame:=oV D n c d0;rw [hXt] at A2;have sm':Small (dG D n c d0) R B S Lo:=⟨by rw [hsame.row];exact sm.row,λi=>by rw [hsame.lnk];exact sm.lnk i,by rw [hsame.blocks];exact sm.blocks,by rw [hsame.made];exact sm.made,by rw [hsame.lost];exact sm.lost0,by rw [hsame.lost];exact sm.lost⟩;obtain ⟨h',e1,e2,e3,e4⟩:=D8d (ino:=k) (no:=T0 D n c d0) (q:=300) (h0:=h) hD hv htt (by omega) P.lo.2.1 (by rw [hsame.ino];exact i1) hR hB hS hLo sm' (f2.set A0.1 (by have:=P.lo.2.1;omega)) ((F1.trans f3).set A0.1 (E44 _)) A0.self (A2.set (by omega) A0.1.2.1);rw [eC _ eO (λ_=>by
   simp only [E42] at hok;exact hok.2)]
  refine ⟨h',pre ?_,e2,e3,e4⟩;simp only [D5C,f1,Q5,s1];exact e1
 | false =>
  rw [hok] at pre eO;rw [cond_false] at eO;rw [hz] at L0;rw [hXt] at L2;obtain ⟨h',e1,e2,e3,e4⟩:=D8d (ino:=k) (no:=0) (q:=300) (h0:=h) hD hv htt (by omega) P.lo.2.1 i1 hR hB hS hLo sm P1 F1 L0 L2;rw [eC _ eO (λT5=>absurd rfl T5)];refine ⟨h',pre ?_,e2,e3,e4⟩;simp only [C50];exact e1
end
end
end Go.Proofs.YtbnkgnfhgbhblaaGreat
