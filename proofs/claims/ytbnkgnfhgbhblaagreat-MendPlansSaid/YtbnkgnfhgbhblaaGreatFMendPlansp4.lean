/- What the proof of this claim leans on, part 4. -/
import Derived.Test.YtbnkgnfhgbhblaaGreatFMendPlansp3
set_option linter.all false
set_option maxRecDepth 100000
open Go Go.Esc
open Bool renaming and_eq_true→E69,and_false→E75,false_and→E7f,not_eq_true'→E7V,not_false→E77,not_true→E8a,or_eq_true→E74,true_and→E7j,false→A6,true→A5
open Int renaming cast_ofNat_Int→E7F,eq_ofNat_of_zero_le→E7Q,toNat_natCast→E7r
open List renaming all_cons→E7P,all_eq_true→E70,append_assoc→E7c,append_nil→E7w,cons_append→E7E,drop_drop→E7X,drop_eq_getElem_cons→E7d,drop_of_length_le→E7k,drop_zero→E7p,getD_eq_getElem?_getD→E7e,getElem?_append_right→E7l,getElem?_cons_succ→E7S,getElem?_drop→E7W,getElem?_eq_getElem→E66,getElem?_eq_none→E7L,getElem?_take_of_lt→E7G,getElem_mem→E7J,length_append→E7a,length_cons→E7g,length_nil→E7v,length_replicate→E7B,length_set→E7D,length_take→E7A,map_append→E71,map_cons→E79,mem_cons_of_mem→E7s,mem_cons_self→E7u,mem_of_getElem?→E7y,mem_or_eq_of_mem_set→E7O,nil_append→E7m,range→E7C,range'→E7M,replicate→E68,replicate_succ→E7z,set_append_right→E7I,set_cons_succ→E7U,set_cons_zero→E7T,take_of_length_le→E7i,take_succ_eq_append_getElem→E7n,take_zero→E76
open Nat renaming add_mul→E78,le_refl→E7b,le_trans→E7K,min_eq_left→E73,mod_eq_of_lt→E7Y,sub_self→E7R,zero_add→E7t
open Option renaming bind_some→E7h,getD_some→E7N,isSome_none→E7x,isSome_some→E7o,none→A7,some→A4
open Go.Proofs.Tryz renaming prog→A8
namespace Go.Proofs.YtbnkgnfhgbhblaaGreat
theorem D7B {v:Val} {nv q:Nat} {l:List Int} {x:Int} {h:B5} (hv:Has h v 1 nv (encI l)) (hn:l.length=nv) (h62:nv<9223372036854775808):∀ e i m:Nat,i+e=nv->e<m ->
  C7E q m v (iV x) (iV (i:Int)) h=A4 (bV (decide (x∈l.drop i)),h)
 | e,i,0,_,hm=>by omega
 | 0,i,m+1,hi,hm=>by
  have e0:i=nv:=by omega
  subst e0;have c0:¬ (i:Int)<i:=by omega
  rw [B3T,E7k (by omega)];simp only [esc,hv.len,c0,List.not_mem_nil]
 | e+1,i,m+1,hi,hm=>by
  have ih:=D7B (q:=q) (x:=x) hv hn h62 e (i+1) m (by omega) (by omega);have hlen:=hv.len;have c0:(i:Int)<nv:=by omega
  obtain ⟨id,off,ev,hid,k1,k2⟩:=hv.sl (by omega);have hx:=k1 i (.i .i64 l[i]) (by rw [G8,E66 (by omega)];rfl);have eb:E1 1 v (iV (i:Int))=A4 (pV id (off+i)):=by rw [ev,C9 (by omega)];simp
  rw [B3T,E7d (by omega:i<l.length)];by_cases c:l[i]=x
  ·have:decide (x∈l[i]::l.drop (i+1))=A5:=decide_eq_true (by rw [c];exact E7u ..);rw [this];simp only [esc,hlen,c0,eb,hx,c]
  ·have:decide (x∈l[i]::l.drop (i+1))=decide (x∈l.drop (i+1)):=by
    refine decide_eq_decide.2 ?_;rw [List.mem_cons];exact ⟨λh=>by rcases h with h | h;exact absurd h.symm c;exact h,λh=>.inr h⟩
   rw [this];simp only [esc,hlen,c0,eb,hx,c,D3 (show i+1<9223372036854775808 by omega)];exact ih
theorem C3c {v:Val} {nv:Nat} {l:List Int} {x:Int} {h:B5} (hv:Has h v 1 nv (encI l)) (h62:nv<9223372036854775808):B9W [v,iV x] h=A4 (bV (decide (x∈l)),h):=by
 have hn:l.length=nv:=by simpa [B7] using hv.length
 have e:=D7B (q:=nv+1) (x:=x) hv.ro hn h62 nv 0 (nv+1) (by omega) (by omega);exact C6d (n:=nv+1) (h2:=ro h) (by rw [D2p];exact e) rfl
theorem C8h {t:List Int} {x:Int} (hx:x≠0):∀ k,x∈L8 t k↔∃ j,j<k/\toX t j=x
 | 0=>by simp [L8]
 | k+1=>by
  rw [A0N,List.mem_append,C8h hx k];constructor
  ·rintro (⟨j,h1,h2⟩ | h)
   ·exact ⟨j,by omega,h2⟩
   ·split at h
    ·simp at h;exact ⟨k,by omega,h.symm⟩
    ·cases h
  ·rintro ⟨j,h1,h2⟩;by_cases c:∃ j,j<k/\toX t j=x
   ·exact .inl c
   ·right
    have:j=k:=by
     by_cases e:j=k
     ·exact e
     ·exact absurd ⟨j,by omega,h2⟩ c
    subst this;have hb:xO t j=A5:=by
     unfold xO;rw [E69];refine ⟨by rw [h2];simp [hx],?_⟩;rw [B5W];intro k hk he;exact c ⟨k,hk,he.trans h2⟩
    rw [if_pos hb,h2];simp
theorem E2m {t:List Int} {i:Nat} (h:toX t i≠0):decide (toX t i∈L8 t i) = !nV t i:=by
 cases c:nV t i with
 | true =>
  rw [E8a,decide_eq_false];rw [C8h h];rintro ⟨j,h1,h2⟩;exact B5W.1 c j h1 h2
 | false =>
  rw [E77,decide_eq_true];rw [C8h h]
  false_or_by_contra
  rename_i hn;have:nV t i=A5:=B5W.2 λk hk he=>hn ⟨k,hk,he⟩
  rw [c] at this;cases this
theorem A4A {d:Int} {t:List Int} {g:B5} {q:Nat} (ht:t.length=32):∀ (e i m:Nat) (h:B5) (id:Nat),i+e=D1 d->e<m->Low (g++[rT (encI (d::t))]).length (g++[rT (encI (d::t))]) h->(g++[rT (encI (d::t))]).length<=id->rd h id=rT (encI (L8 t i)) ->
  ∃ v h',yX q m (pV g.length 0) (sV id 0 (L8 t i).length 1) (iV (i:Int)) h=A4 (v,h')/\Out g.length h' v 1 (L8 t (D1 d)).length (encI (L8 t (D1 d)))
 | e,i,0,h,id,_,hm,_,_,_=>by omega
 | 0,i,m+1,h,id,hi,hm,hlow,hid,hr=>by
  have e0:i=D1 d:=by omega
  subst e0;have c0:¬ ((D1 d:Nat):Int)<(D1 d:Nat):=by omega
  have hB:=E3 (d:=d) ht;have s1:=C7 (h:=h) (id:=g.length) (cs:=encI (d::t)) (hlow.rd (by simp)) hB;have hD:=λh=>bG (d:=d) (t:=t) (h:=h)
  have hP:=λh=>bH (d:=d) (h:=h)
  rw [E7a] at hid;rw [A1F];generalize encI (d::t)=y at *;exact ⟨_,_,by simp only [esc,s1,hD,hP,c0]<;>rfl,by rw [B7];omega,_,rfl,by omega,hr⟩
 | e+1,i,m+1,h,id,hi,hm,hlow,hid,hr=>by
  have c0:(i:Int)<(D1 d:Nat):=by omega
  have C7W:=O6 d;have hB:=E3 (d:=d) ht;have hrd:rd h g.length=rT (encI (d::t)):=hlow.rd (by simp);have s1:=C7 (h:=h) (id:=g.length) (cs:=encI (d::t)) hrd hB;have hD:=λh=>bG (d:=d) (t:=t) (h:=h)
  have hP:=λh=>bH (d:=d) (h:=h)
  have a1:=adX (id:=g.length) (i:=i) (by omega);have l1:=ldX (h:=h) (id:=g.length) hrd ht (i:=i) (by omega);have w1:=D3 (show i+1<9223372036854775808 by omega);have hul:=gE t i;have hIn:=C3c (x:=toX t i) (Has.row (sz:=1) (n:=(L8 t i).length) hr (by rw [B7];omega) (aR _)) (by omega);rw [A1F];have skip:xO t i=A6->∃ v h',yX q m (pV g.length 0) (sV id 0 (L8 t i).length 1) (iV ((i+1:Nat):Int)) h=A4 (v,h')/\Out g.length h' v 1 (L8 t (D1 d)).length (encI (L8 t (D1 d))):=by
   intro c;have hu:L8 t (i+1)=L8 t i:=by rw [A0N,c];simp
   have:=A4A (d:=d) (q:=q) ht e (i+1) m h id (by omega) (by omega) hlow hid (by rw [hu];exact hr);rw [hu] at this;exact this
  by_cases cz:toX t i=0
  ·obtain ⟨v,h',f1,f2⟩:=skip (by unfold xO;rw [decide_eq_true cz];rfl);rw [cz] at l1;refine ⟨v,h',?_,f2⟩;generalize encI (d::t)=z at *;simp only [esc,s1,hD,hP,c0,a1,l1,oY,w1];exact f1
  ·rw [E2m cz] at hIn;cases cs:nV t i with
   | false =>
    obtain ⟨v,h',f1,f2⟩:=skip (by unfold xO;rw [cs,E75]);rw [cs] at hIn;refine ⟨v,h',?_,f2⟩;generalize encI (d::t)=z at *;simp only [esc,s1,hD,hP,c0,a1,l1,cz,hIn,oY,w1];exact f1
   | true =>
    rw [cs] at hIn;have cb:xO t i=A5:=by unfold xO;rw [cs,decide_eq_false cz];rfl
    have hu:L8 t (i+1)=L8 t i++[toX t i]:=by rw [A0N,if_pos cb]
    obtain ⟨h1,b1,b2,b3,b4,b5⟩:=push (ys:=[.i .i64 (toX t i)]) (sz:=1) (n:=(L8 t i).length) hlow hr (by rw [B7];omega) hid rfl (by omega) (by omega);have he:encI (L8 t i)++[.i .i64 (toX t i)]=encI (L8 t (i+1)):=by rw [hu];simp [encI]
    rw [he] at b2;obtain ⟨v,h',f1,f2⟩:=A4A (d:=d) (q:=q) ht e (i+1) m h1 (h.length+1) (by omega) (by omega) b3 b4 b2;have hl1:(L8 t (i+1)).length=(L8 t i).length+1:=by rw [hu];simp
    rw [hl1] at f1;have ef:E4 [o0] [(0,1,iV (toX t i))]=A4 [.i .i64 (toX t i)]:=rfl;refine ⟨v,h',?_,f2⟩;generalize encI (d::t)=z at *;simp only [esc,s1,hD,hP,c0,a1,l1,cz,hIn,ef,b1,oY,w1];exact f1
theorem A5W {d:Int} {t:List Int} {h:B5} (ht:t.length=32):A1h [.a (encI (d::t))] h=A4 (sV h.length 0 (L8 t (D1 d)).length 1,h++[rT (encI (L8 t (D1 d)))]):=by
 have key:∀ N,32<N->∀ g,∃ v g',A03 N [.a (encI (d::t))] g=A4 (v,g')/\Out g.length g' v 1 (L8 t (D1 d)).length (encI (L8 t (D1 d))):=by
  intro N hN g;have hm:=O6 d;obtain ⟨v,g',f1,f2⟩:=A4A (g:=g) (d:=d) (q:=N) ht (D1 d) 0 N (g++[rT (encI (d::t)),rT [],rT []]) (g.length+2) (by omega) (by omega)
   (by have:=(Low.refl (h:=g++[rT (encI (d::t))]) (E7b _)).new [rT [],rT []];simpa using this) (by simp) (by simp [L8,encI])
  rw [show L8 t 0=[] from rfl] at f1;rw [B6V];refine ⟨v,g',?_,f2⟩;generalize encI (d::t)=z at *;simp only [esc] at f1 ⊢;exact f1
 obtain ⟨v,g',e,ho⟩:=key (h.length+33) (by omega) (ro h);exact B5a e (by simpa [F7] using ho) (by simp)
theorem D16 {x k q:Nat} {b:Int} {h:B5} (hx:x<4294967296) (hk:(k:Int)=max 0 (min b 32)):∀ e i m:Nat,i+e=k->e<m ->
  C2P q m (.c (.i .u64 (x:Int))) (iV b) (.c (.i .u64 ((2 ^ i:Nat):Int))) (iV (i:Int)) h=A4 (iV ((x%2 ^ k:Nat):Int),h)
 | e,i,0,_,hm=>by omega
 | 0,i,m+1,hi,hm=>by
  have e0:i=k:=by omega
  subst e0;have hp0:0<2 ^ i:=Nat.pow_pos (by omega);have hm2:x%2 ^ i<=x:=Nat.mod_le _ _;rw [B1h];generalize 2 ^ i=s at *;have e1:O4 .rem (.c (.i .u64 (x:Int))) (.c (.i .u64 (s:Int)))=A4 (.c (.i .u64 ((x%s:Nat):Int))):=by rw [A8R (a:=(x:Int)) (b:=(s:Int)) (by omega) (by omega)];simp
  have w1:IntKind.wrap .i64 ((x%s:Nat):Int)=((x%s:Nat):Int):=wrap_i64 (by omega) (by omega);generalize x%s=y at *;by_cases c1:(i:Int)<b
  ·have c2:¬ (i:Int)<32:=by omega
   simp only [esc,c1,c2,e1,w1]
  ·simp only [esc,c1,e1,w1]
 | e+1,i,m+1,hi,hm=>by
  have ih:=D16 (q:=q) (h:=h) hx hk e (i+1) m (by omega) (by omega);have c1:(i:Int)<b:=by omega
  have c2:(i:Int)<32:=by omega
  have hp:2 ^ i<=2 ^ 32:=Nat.pow_le_pow_right (by omega) (by omega);have w1:IntKind.wrap .u64 (((2 ^ i:Nat):Int)*2)=((2 ^ (i+1):Nat):Int):=by
   rw [Nat.pow_succ];generalize 2 ^ i=y at hp ⊢;rw [wrap_u64 (by omega) (by omega)];omega
  rw [B1h];generalize ((2 ^ (i+1):Nat):Int)=y1 at *;generalize ((2 ^ i:Nat):Int)=y at *;simp only [esc,c1,c2,w1,D3 (show i+1<9223372036854775808 by omega)];exact ih
theorem D3B {x:Nat} {b:Int} {h:B5} (hx:x<4294967296):B4Z [.c (.i .u64 (x:Int)),iV b] h=A4 (iV (D0p x b:Nat),h):=by
 have e:=D16 (q:=33) (b:=b) (h:=ro h) (k:=(max 0 (min b 32)).toNat) hx (by omega) (max 0 (min b 32)).toNat 0 33 (by omega) (by omega);have e2:x%2 ^ (max 0 (min b 32)).toNat=D0p x b:=by
  unfold D0p;by_cases c1:b<1
  ·have:(max 0 (min b 32)).toNat=0:=by omega
   rw [if_pos c1,this];simp [Nat.mod_one]
  ·rw [if_neg c1];by_cases c2:32<=b
   ·have:(max 0 (min b 32)).toNat=32:=by omega
    rw [if_pos c2,this];exact E7Y (by omega)
   ·have:(max 0 (min b 32)).toNat=b.toNat:=by omega
    rw [if_neg c2,this]
 rw [e2] at e;exact C3T (n:=33) (h2:=ro h) (by rw [C9l];exact e) rfl
def A4d (s:Int):Int:=if s<1 then 0 else if 34304<s then 134 else (s+255)/256
noncomputable section
variable (n m m2:Nat) (a0 x0 x3 x4:Val) (h:B5)
def A0F:FD A8:=⟨px 0X1198217e2a1221258415607c2e19131818c3163a4883cc6488011c14883fc64883861a4881984e0004a1b1181815430330702461e17c61c80060418430424303343030605101430323134883b81302248823b91012,[],[],[.tmp 2],[]⟩
def B9k:=A0F.R
def C7z:AtH:=A0F.lj 0 n [m] [x0,x3,x4]
def D08:=tT [⟨2,3,C7z⟩]
def D2m:=mR B9k A0F D08 n [a0] h
def B3N:=mL A0F D08 0 n [m] [x0,x3,x4] h
def D0K:=A0F.K Tryz.func13
def B9O:=A0F.S
theorem D2C:SOk A8 13 B9O:=D0K.sok
theorem C9H:oP B9k B9O:=D0K.out
end
theorem D26 {h:B5} {v:Val} {D:Dev} (hv:Has h v 256 D.length (D5 D)) (hD:okD D) {i:Nat} (hi:i<D.length) :
  ∃ id off,v=sV id off D.length 256/\id<h.length/\E1 256 v (iV (i:Int))=A4 (pV id (off+i*256))/\D4 h 256 (pV id (off+i*256))=A4 (.a (B4 D[i])):=by
 obtain ⟨id,off,rfl,hid,_,h2⟩:=hv.sl (by omega);refine ⟨id,off,rfl,hid,C9 hi,?_⟩;rw [h2 (i*256) 256 (by rw [J0 hD];omega),cV hD hi]
theorem D1e {b:List UInt8} (hb:b.length=256):E4 (E68 256 (Cell.i .u8 0)) [(0,256,.a (B4 b))]=A4 (B4 b):=by
 have hl:(B4 b).length=256:=by rw [A9,hb]
 have hz:(E68 256 (Cell.i .u8 0)).length=256:=E7B;generalize E68 256 (Cell.i .u8 0)=z at *;generalize B4 b=y at *;simp only [E4,B00,E7h];rw [if_pos ⟨hl,by omega⟩];simp only [lay_all (by omega:y.length=z.length)]
theorem D77 {g:B5} {D:Dev} {v:Val} {q:Nat} (hv:Has g v 256 D.length (D5 D)) (hD:okD D) (h60:D.length<=1073741823):∀ (e i m id:Nat) (h:B5),i+e=D.length->e<m->Low g.length g h->g.length<=id->rd h id=rT (D5 (D.take i)) ->
  ∃ v' h',C7z q m v (sV id 0 i 256) (iV (i:Int)) h=A4 (v',h')/\Out g.length h' v' 256 D.length (D5 D)
 | e,i,0,id,h,_,hm,_,_,_=>by omega
 | 0,i,m+1,id,h,hi,hm,hlow,hid,hr=>by
  have e0:i=D.length:=by omega
  have c0:¬ (i:Int)<(D.length:Nat):=by omega
  have hl:=(hv.since hlow).len;rw [e0,List.take_length] at hr;rw [B3N];exact ⟨_,_,by simp only [esc,hl,c0]<;>rfl,J0 hD,id,by rw [e0],hid,hr⟩
 | e+1,i,m+1,id,h,hi,hm,hlow,hid,hr=>by
  have O9:i<D.length:=by omega
  have c0:(i:Int)<(D.length:Nat):=by omega
  have hvh:=hv.since hlow;have hl:=hvh.len;obtain ⟨jd,off,e1,hj,a1,l1⟩:=D26 hvh hD O9;have ef:=D1e (hD.at O9);have htl:(D.take i).length=i:=by rw [E7A];omega
  obtain ⟨h',p1,p2,p3,p4,p5⟩:=push (ys:=B4 D[i]) hlow hr (by rw [J0 (hD.take i),htl]) hid (by rw [A9,hD.at O9]) (by omega) (by omega);have et:D5 (D.take i)++B4 D[i]=D5 (D.take (i+1)):=by
   rw [E7n O9,C94,D6e]
  rw [et] at p2;obtain ⟨v',h'',f1,f2⟩:=D77 (q:=q) hv hD h60 e (i+1) m (h.length+1) h' (by omega) (by omega) p3 p4 p2;refine ⟨v',h'',?_,f2⟩;rw [B3N];generalize B4 D[i]=y at *;simp only [esc,hl,c0,a1,l1,ef,p1,D3 (show i+1<9223372036854775808 by omega)];exact f1
theorem E5G {v:Val} {D:Dev} {h:B5} (hv:Has h v 256 D.length (D5 D)) (hD:okD D) (h60:D.length<=1073741823):B9O [v] h=A4 (sV h.length 0 D.length 256,h++[rT (D5 D)]):=by
 have key:∀ g,Has g v 256 D.length (D5 D)->∃ v' g',B9k (D.length+1) [v] g=A4 (v',g')/\Out g.length g' v' 256 D.length (D5 D):=by
  intro g hv;obtain ⟨v',h',f1,f2⟩:=D77 (q:=D.length+1) hv hD h60 D.length 0 (D.length+1) (g.length+1) (g++[rT [],rT []]) (by omega) (by omega) ((Low.refl (E7b _)).new _) (by omega) (by simp [D5]);rw [D2m];exact ⟨v',h',by simp only [esc];exact f1,f2⟩
 obtain ⟨v',g',e,ho⟩:=key (ro h) hv.ro;exact C9H e (by simpa [F7] using ho) gY
theorem C8B {x:Cell} {a n:Nat} {cs:List Cell} {h:B5} (hv:Has h (.c x) 1 n cs) (hn:1<=n) (han:a+n<=256) :
  A34 [.a [.i .i64 a,x]] h=A4 (iV 0,h):=by
 have key:∀ g,Has g (.c x) 1 n cs->∃ g',A3E 0 [.a [.i .i64 a,x]] g=A4 (iV 0,g'):=by
  intro g hv;have c1:¬ (n:Int)<1:=by omega
  have c2:¬ (256:Int)<n:=by omega
  have c3:¬ (a:Int)<0:=by omega
  have e1:IntKind.wrap .i64 (256-(n:Int))=256-n:=wrap_i64 (by omega) (by omega);have c4:¬ (256:Int)-n<a:=by omega
  rw [B9H];exact ⟨_,by simp only [esc,esh,Nat.reduceAdd,Nat.reduceMul,Nat.reduceLT,hv.len,c1,c2,c3,e1,c4]<;>rfl⟩
 obtain ⟨g',e⟩:=key (ro h) hv.ro;exact B5x e rfl
theorem B1X {x:Cell} {n:Nat} {data l:List UInt8} {z:List Cell} {g:B5} (hv:Has g (.c x) 1 n (B4 data)) {a q:Nat} (han:a+n<=256) (hl:l.length=256) (hz:z.length=256) (hn:data.length=n):∀ d i m,i+d=n->d<m ->
  B8U q m (pV g.length 0) (pV (g.length+1) 0) (pV (g.length+2) 0) (.c x) (iV n) (iV i) (g++[rT (B4 (J1 l a (data.take i))),rT [.i .i64 a,x],rT z]) =
   A4 (.a (B4 (J1 l a data)),g++[rT (B4 (J1 l a data)),rT [.i .i64 a,x],rT (B4 (J1 l a data))])
 | d,i,0,_,hm=>by omega
 | 0,i,m+1,hi,hm=>by
  have e0:i=n:=by omega
  subst e0;have c0:¬ (i:Int)<i:=by omega
  have hE:(B4 (J1 l a data)).length=256:=by rw [A9,P5 (by omega),hl]
  rw [A8N,E7i (by omega)];simp only [esc,esh,Nat.reduceAdd,Nat.reduceMul,Nat.reduceLT,c0,hE,hz]
 | d+1,i,m+1,hi,hm=>by
  have ih:=B1X hv (z:=z) (q:=q) han hl hz hn d (i+1) m (by omega) (by omega);obtain ⟨id,off,e,hid,h1,h2⟩:=(hv.more [rT (B4 (J1 l a (data.take i))),rT [.i .i64 a,x],rT z]).sl (by omega);cases e;have c0:(i:Int)<n:=by omega
  have hx:=h1 i (.i .u8 data[i].toNat) (by rw [aJ,E66 (by omega)];rfl);have eb:E1 1 (sV id off n 1) (iV (i:Int))=A4 (pV id (off+i)):=by rw [C9 (by omega)];simp
  have ea:J8 256 1 (pV g.length 0) (iV ((a+i:Nat):Int))=A4 (pV g.length (a+i)):=by rw [J4 (by omega)];simp
  have hE:(B4 (J1 l a (data.take i))).length=256:=by rw [A9,P5 (by simp;omega),hl]
  have ho:a+i<256:=by omega
  have e5:(J1 l a (data.take i)).set (a+i) data[i]=J1 l a (data.take (i+1)):=by
   have:=B2y (l:=l) (xs:=data.take i) (a:=a) (x:=data[i]) (by simp;omega);rw [E7A,E73 (by omega)] at this;rw [this,E7n (by omega)]
  have es:(B4 (J1 l a (data.take i))).set (a+i) (.i .u8 data[i].toNat)=B4 (J1 l a (data.take (i+1))):=by rw [iI,e5]
  rw [A8N];simp only [esc,esh,Nat.reduceAdd,Nat.reduceMul,Nat.reduceLT,c0,eb,hx,A1Y (show a+i<9223372036854775808 by omega),ea,hE,ho,es,D3 (show i+1<9223372036854775808 by omega)];exact ih
theorem B8T {x:Cell} {n a:Nat} {data l:List UInt8} {h:B5} (hv:Has h (.c x) 1 n (B4 data)) (hn:1<=n) (han:a+n<=256) (hl:l.length=256) :
  B0x [.a (B4 l),.a [.i .i64 a,x]] h=A4 (.a (B4 (J1 l a data)),h):=by
 have hd:data.length=n:=by simpa [A9] using hv.length
 have key:∀ N,n<N->∀ g,Has g (.c x) 1 n (B4 data)->∃ g',A9E N [.a (B4 l),.a [.i .i64 a,x]] g=A4 (.a (B4 (J1 l a data)),g'):=by
  intro N hN g hv;have hz:(E68 256 (Cell.i .u8 0)).length=256:=E7B;have hE:(B4 l).length=256:=by rw [A9,hl]
  rw [C5X];generalize E68 256 (Cell.i .u8 0)=z at *;have e:=B1X hv (l:=l) (z:=z) (q:=N) han hl hz hd n 0 N (by omega) (by omega);simp only [E76,B8A] at e;have hc:=C8B (hv.more [rT (B4 l),rT [.i .i64 a,x],rT z]) hn han;exact ⟨_,by simp only [esc,esh,Nat.reduceAdd,Nat.reduceMul,Nat.reduceLT,hE,hz,hc,hv.len];exact e⟩
 obtain ⟨g',e⟩:=key (n+1) (by omega) (ro h) hv.ro;exact C0C e (by simp)
theorem D8b {a:Int} {x:Cell}:E4 [o0,.ns] [(0,1,iV a),(1,1,.c x)]=A4 [.i .i64 a,x]:=rfl
theorem D57:E4 ([]:List Cell) []=A4 []:=rfl
theorem C86 {j:Nat} {k l s p:Int} {d:List Int} {h:B5} (hd:d.length=7) (h8:j<8) (c:A1P k l s p d=A5) :
  A39 [iV j,.a (F8 k l s p d)] h=A4 (.t [.a [.i .i64 ((32*j:Nat):Int),.sl h.length 0 32 1],.c o0],h++[rT (B4 (gZ k l s p d))]):=by
 have key:∀ g,∃ g',A3H 0 [iV j,.a (F8 k l s p d)] g=A4 (.t [.a [.i .i64 ((32*j:Nat):Int),.sl (g.length+4) 0 32 1],.c o0],g')/\rd g' (g.length+4)=rT (B4 (gZ k l s p d)):=by
  intro g;have c1:¬ (j:Int)<0:=by omega
  have c2:¬ (8:Int)<=j:=by omega
  have hP:=λh=>B8u (k:=k) (l:=l) (s:=s) (p:=p) (h:=h) hd
  simp only [c,cond_true] at hP;have hE:(encI d).length=7:=by rw [B7,hd]
  have hz:(E68 32 (Cell.i .u8 0)).length=32:=E7B;have hB:(B4 (gZ k l s p d)).length=32:=by rw [A9,lM hd]
  have w1:IntKind.wrap .i64 ((j:Int)*32)=((32*j:Nat):Int):=by rw [wrap_i64 (by omega) (by omega)];omega
  have p1:=kN (h:=g++[rT (F8 k l s p d),rT [o0,.ns],rT (B4 (gZ k l s p d)),rT []]) (id:=g.length+3) (jd:=g.length+2) (n:=0) (m:=32) (sz:=1) (cs:=[]) (ys:=B4 (gZ k l s p d)) (rw:=A5) (by simp) (by simp) (by simp) (by rw [hB]) rfl (by omega) (by omega);generalize B4 (gZ k l s p d)=B at *;simp only [esc] at p1;rw [B9K];generalize E68 32 (Cell.i .u8 0)=z at *;exact ⟨_,by simp only [esc,esh,Nat.reduceAdd,Nat.reduceMul,Nat.reduceLT,c1,c2,hE,hP,hz,hB,w1,D57,p1,D8b,E7F]<;>rfl,by simp⟩
 obtain ⟨g',e,hr⟩:=key (ro h);have hr':=hr;rw [F7] at hr';have hc1:R5 g' h.length [] [.i .i64 ((32*j:Nat):Int),.sl ((ro h).length+4) 0 32 1]=A4 ([.i .i64 ((32*j:Nat):Int),.sl h.length 0 32 1],[h.length+4]):=by
  rw [F7];simp [R5,Cell.low,Cell.flat,A0U hr' (by simp:N8 (B4 (gZ k l s p d))=A5)]
 have hc2:R5 g' h.length [h.length+4] [o0]=A4 ([o0],[h.length+4]):=dE (by simp);have:=B5z e (v2:=.t [.a [.i .i64 ((32*j:Nat):Int),.sl h.length 0 32 1],.c o0]) (ids:=[h.length+4]) (by
  simp only [Y0,gP,hc1,hc2,E7h,Option.map_some])
 rw [this];simp [hr']
theorem B4p {j:Nat} {k l s p:Int} {d:List Int} {b:List UInt8} {h:B5} (hb:b.length=256) (hd:d.length=7) (h8:j<8) (c:A1P k l s p d=A5) :
  A0m [.a (B4 b),iV j,.a (F8 k l s p d)] h=A4 (.t [.a (B4 (J1 b (32*j) (gZ k l s p d))),.c o0],h):=by
 have key:∀ g,∃ g',A6z 0 [.a (B4 b),iV j,.a (F8 k l s p d)] g=A4 (.t [.a (B4 (J1 b (32*j) (gZ k l s p d))),.c o0],g'):=by
  intro g;have hB:(B4 b).length=256:=by rw [A9,hb]
  have hE:(encI d).length=7:=by rw [B7,hd]
  have hI:(B4 (gZ k l s p d)).length=32:=by rw [A9,lM hd]
  have hz:(E68 256 (Cell.i .u8 0)).length=256:=E7B;have hP:=λh=>C86 (h:=h) hd h8 c
  rw [C3J];generalize E68 256 (Cell.i .u8 0)=z at *;have hL:=B8T (h:=g++[rT (B4 b),rT (F8 k l s p d),rT z,rT (B4 (gZ k l s p d)),rT [.i .i64 ((32*j:Nat):Int),.sl (g.length+3) 0 32 1]]) (x:=.sl (g.length+3) 0 32 1) (n:=32) (a:=32*j) (data:=gZ k l s p d) (l:=b) (Has.tr (by simp) (by rw [hI]) (F9 _)) (by omega) (by omega) hb;have hR:(B4 (J1 b (32*j) (gZ k l s p d))).length=256:=by rw [A9,P5 (by rw [lM hd];omega),hb]
  exact ⟨_,by simp only [esc,esh,Nat.reduceAdd,Nat.reduceMul,Nat.reduceLT,hB,hE,hz,hP,hL,hR]<;>rfl⟩
 obtain ⟨g',e⟩:=key (ro h);exact B7F e (by simp)
def dY (b:List UInt8) (j:Nat):List UInt8:=(b.drop (32*j)).take 32
theorem qB {b:List UInt8} {j:Nat} (hb:b.length=256) (hj:j<8):(dY b j).length=32:=by unfold dY;simp;omega
theorem D5A {g:B5} {b:List UInt8} {z:List Cell} {j q:Nat} (hb:b.length=256) (hz:z.length=32) (hj:j<8):∀ e i m:Nat,i+e=32->e<m ->
  B9a q m (iV j) (pV g.length 0) (pV (g.length+1) 0) (pV (g.length+2) 0) (iV i) (g++[rT (B4 b),rT z,rT (B4 ((dY b j).take i++zeros (32-i)))]) =
   A4 (.a (B4 (dY b j)),g++[rT (B4 b),rT (B4 (dY b j)),rT (B4 (dY b j))])
 | e,i,0,_,hm=>by omega
 | 0,i,m+1,hi,hm=>by
  have e0:i=32:=by omega
  subst e0;have h1':¬ ((32:Nat):Int)<32:=by omega
  have hR:=qB hb hj;have hl:(B4 (dY b j)).length=32:=by rw [A9,hR]
  have e1:B4 ((dY b j).take 32++zeros (32-32))=B4 (dY b j):=by rw [E7i (by omega)];simp [zeros]
  rw [A8S,e1];simp only [esc,esh,Nat.reduceAdd,Nat.reduceMul,Nat.reduceLT,h1',hl,hz]
 | e+1,i,m+1,hi,hm=>by
  have ih:=D5A (g:=g) (q:=q) hb hz hj e (i+1) m (by omega) (by omega);have hR:=qB hb hj;have h1':(i:Int)<32:=by omega
  have w1:IntKind.wrap .i64 ((j:Int)*32)=((32*j:Nat):Int):=by rw [wrap_i64 (by omega) (by omega)];omega
  have a1:J8 256 1 (pV g.length 0) (iV ((32*j+i:Nat):Int))=A4 (pV g.length (32*j+i)):=by rw [J4 (by omega)];simp
  have a2:J8 32 1 (pV (g.length+2) 0) (iV (i:Int))=A4 (pV (g.length+2) i):=by rw [J4 (by omega)];simp
  have l1:(B4 b)[32*j+i]?=A4 (.i .u8 (dY b j)[i].toNat):=by
   rw [aJ,E66 (by omega)];have:(dY b j)[i]=b[32*j+i]'(by omega):=by simp [dY]
   rw [this];rfl
  have ho:i<(B4 ((dY b j).take i++zeros (32-i))).length:=by rw [A9,E7a,zeros_length,E7A];omega
  have es:(B4 ((dY b j).take i++zeros (32-i))).set i (.i .u8 (dY b j)[i].toNat)=B4 ((dY b j).take (i+1)++zeros (32-(i+1))):=by
   rw [iI];refine congrArg B4 ?_;have h6:((dY b j).take i).length=i:=by simp;omega
   rw [E7I _ _ (by omega),h6,E7R,E7n (by omega),E7c];refine congrArg ((dY b j).take i ++ ·) ?_;rw [show 32-i=32-(i+1)+1 by omega];unfold zeros;rw [E7z,E7T];rfl
  rw [A8S];simp only [esc,esh,Nat.reduceAdd,Nat.reduceMul,Nat.reduceLT,h1',w1,A1Y (show 32*j+i<9223372036854775808 by omega),a1,a2,l1,ho,es,D3 (show i+1<9223372036854775808 by omega)];exact ih
theorem D3Q {b:List UInt8} {j:Nat} {h:B5} (hb:b.length=256) (hj:j<8):B0E [.a (B4 b),iV j] h=A4 (.a (B4 (dY b j)),h):=by
 have key:∀ N,32<N->∀ g,∃ g',A9J N [.a (B4 b),iV j] g=A4 (.a (B4 (dY b j)),g'):=by
  intro N hN g;have c1:¬ (j:Int)<0:=by omega
  have c2:¬ (8:Int)<=j:=by omega
  have hz:(B4 (zeros 32)).length=32:=by rw [A9];exact zeros_length
  have e:=D5A (g:=g) (z:=B4 (zeros 32)) (q:=N) hb hz hj 32 0 N (by omega) (by omega);simp only [E76,E7m,Nat.sub_zero] at e;rw [C51,I7];generalize zeros 32=zz at *;exact ⟨_,by simp only [esc,esh,Nat.reduceAdd,Nat.reduceMul,Nat.reduceLT,c1,c2];exact e⟩
 obtain ⟨g',e⟩:=key (h.length+33) (by omega) (ro h);exact C0J e (by simp)
theorem yB:(F8 0 0 0 0 (zI 7)).length=11:=rfl
theorem B8r:[o0,o0,o0,o0,o0,o0,o0,o0,o0,o0,o0]=F8 0 0 0 0 (zI 7):=rfl
theorem B5G:E4 (F8 0 0 0 0 (zI 7)) []=A4 (F8 0 0 0 0 (zI 7)):=rfl
theorem D3P {b:List UInt8} {j:Nat} {h:B5} (hb:b.length=256) (hj:j<8):B0D [.a (B4 b),iV j] h=A4 (.t [.a (dT (dY b j)),.c (.b (gU (dY b j)))],h):=by
 have key:∀ g,∃ g',A9I 0 [.a (B4 b),iV j] g=A4 (.t [.a (dT (dY b j)),.c (.b (gU (dY b j)))],g'):=by
  intro g;have c1:¬ (j:Int)<0:=by omega
  have c2:¬ (8:Int)<=j:=by omega
  have hB:(B4 b).length=256:=by rw [A9,hb]
  have hR:=λh=>D3Q (h:=h) hb hj
  have hC:=λh=>C75 (b:=dY b j) (h:=h) (qB hb hj)
  have hl:=yB;have xY:=wO (b:=dY b j);rw [C50,B8r];generalize F8 0 0 0 0 (zI 7)=z at *;exact ⟨_,by simp only [esc,esh,Nat.reduceAdd,Nat.reduceMul,Nat.reduceLT,c1,c2,hB,hR,hC,hl,xY]<;>rfl⟩
 obtain ⟨g',e⟩:=key (ro h);exact C0H e (by simp [A0v])
def A89 (D:Dev) (n i:Int):List UInt8:=dY (blk D (W3 D.length n i)) (cO D.length n i).toNat
def A14 (D:Dev) (n i:Int):List Cell:=bif R6 D.length n i then dT (A89 D n i) else F8 0 0 0 0 (zI 7)
def kdV (D:Dev) (n i:Int):Int:=bif R6 D.length n i then (bif gU (A89 D n i) then qH (A89 D n i) else 0) else 0
theorem D8C (D:Dev) (n i:Int):∃ l s p d,A14 D n i=F8 (kdV D n i) l s p d/\d.length=7:=by
 unfold A14 kdV;cases R6 D.length n i with
 | false=>exact ⟨0,0,0,zI 7,rfl,I8⟩
 | true =>
  unfold dT;cases gU (A89 D n i) with
  | false=>exact ⟨0,0,0,zI 7,rfl,I8⟩
  | true=>exact ⟨_,_,_,_,rfl,F0⟩
theorem C7L (D:Dev) (n i:Int):N8 (A14 D n i)=A5:=by
 obtain ⟨l,s,p,d,e,hd⟩:=D8C D n i;rw [e];exact B5Z (l:=_::_::_::_::d)
theorem D0I {b n m i:Int} {f:Cell} {h:B5} (hi:R6 b n i=A6):jS [.a (vwC b n m f),iV i] h=A4 (.a (F8 0 0 0 0 (zI 7)),h):=by
 have key:∀ g,∃ g',jO 0 [.a (vwC b n m f),iV i] g=A4 (.a (F8 0 0 0 0 (zI 7)),g'):=by
  intro g;have l3:=D5X (b:=b) (n:=n) (m:=m) (f:=f);have hW:=λh=>A4t (b:=b) (n:=n) (m:=m) (i:=i) (h:=h)
  simp only [hi] at hW;have hf:=B5G;have hl:=yB;rw [xE,B8r];generalize vwC b n m f=V at *;generalize F8 0 0 0 0 (zI 7)=z at *;exact ⟨_,by simp only [esc,esh,Nat.reduceAdd,Nat.reduceMul,Nat.reduceLT,l3,hW,hf,hl]<;>rfl⟩
 obtain ⟨g',e⟩:=key (ro h);exact rM e rfl
theorem oF {n m i:Int} {f:Cell} {D:Dev} {h:B5} (hD:okD D) (hv:IsView h f D):jS [.a (vwC D.length n m f),iV i] h=A4 (.a (A14 D n i),h):=by
 cases hi:R6 D.length n i with
 | false =>
  rw [D0I hi];unfold A14;rw [hi];rfl
 | true =>
  have key:∀ g,IsView g f D->∃ g',jO 0 [.a (vwC D.length n m f),iV i] g=A4 (.a (A14 D n i),g'):=by
   intro g hv;have l3:=D5X (b:=D.length) (n:=n) (m:=m) (f:=f);have l4:=E1G (b:=D.length) (n:=n) (m:=m) (f:=f);have hW:=λh=>A4t (b:=D.length) (n:=n) (m:=m) (i:=i) (h:=h)
   simp only [hi] at hW;have hf:=B5G;have hl:=yB;have hK:∃ j:Nat,cO D.length n i=j/\j<8:=by
    refine ⟨(cO D.length n i).toNat,?_,?_⟩<;>unfold cO<;>rw [hi,cond_true]<;>omega
   obtain ⟨j,hj,hj8⟩:=hK;have hB:=bI (n:=n) (m:=m) (no:=W3 D.length n i) (h:=g++[rT (vwC D.length n m f),rT (F8 0 0 0 0 (zI 7))]) hD (hv.more _);have hG:=λh=>D3P (b:=blk D (W3 D.length n i)) (j:=j) (h:=h) (O5 hD) hj8
   have er:dY (blk D (W3 D.length n i)) j=A89 D n i:=by unfold A89;rw [hj,E7r]
   simp only [er] at hG;simp only [hj] at hW;have xY:=wO (b:=A89 D n i);have ei:A14 D n i=dT (A89 D n i):=by unfold A14;rw [hi];rfl
   rw [xE,B8r,ei];generalize vwC D.length n m f=V at *;generalize F8 0 0 0 0 (zI 7)=z at *;generalize dT (A89 D n i)=y at *;exact ⟨_,by simp only [esc,esh,Nat.reduceAdd,Nat.reduceMul,Nat.reduceLT,l3,l4,hW,hB,hG,hf,hl,xY]<;>rfl⟩
  obtain ⟨g',e⟩:=key (ro h) hv.ro;exact rM e (C7L D n i)
def D6r (b:List UInt8) (i:Int):Bool:=decide (0<=i)&&decide (i<2048)&&decide ((b.getD (i/8).toNat 0).toNat/2 ^ (i%8).toNat%2=1)
def tR (i:Nat):Nat:=2 ^ (i%8)
theorem A5K (i:Nat):tR i<256:=by
 have h:i%8<8:=by omega
 unfold tR;generalize i%8=j at *;have:j=0\/j=1\/j=2\/j=3\/j=4\/j=5\/j=6\/j=7:=by omega
 rcases this with rfl | rfl | rfl | rfl | rfl | rfl | rfl | rfl<;>decide
theorem B01 {i:Nat} {h:B5} (hi:i<2048):wJ [iV (i:Int)] h=A4 (.t [.c (.i .i64 ((i/8:Nat):Int)),.c (.i .u8 (tR i:Int)),.c (.b A5)],h):=by
 refine A1d (n:=0) (h2:=ro h) ?_ rfl;have c1:¬ (i:Int)<0:=by omega
 have c2:¬ (2048:Int)<=i:=by omega
 have q1:O4 .quo (iV (i:Int)) (iV 8)=A4 (iV ((i/8:Nat):Int)):=by
  rw [A0C (by omega) (by omega) (by omega)];congr 3
 have r1:O4 .rem (iV (i:Int)) (iV 8)=A4 (iV ((i%8:Nat):Int)):=by
  rw [A8R (by omega) (by omega)];congr 3
 have w1:IntKind.wrap .u64 ((i%8:Nat):Int)=((i%8:Nat):Int):=wrap_u64 (by omega) (by omega);have s1:O4 .shl (.c (.i .u8 1)) (.c (.i .u64 ((i%8:Nat):Int)))=A4 (.c (.i .u8 (tR i:Int))):=by
  have hm:=A5K i;rw [B7R (by omega),E7r];have e1:Nat.min (i%8) IntKind.u8.bits=i%8:=by
   have:IntKind.u8.bits=8:=rfl;rw [this];exact E73 (by omega)
  have e2:(1:Int)*2 ^ (i%8)=(tR i:Int):=by unfold tR;rw [Int.natCast_pow];simp
  rw [e1,e2,wrap_u8 (by omega) (by omega)]
 rw [A4O];simp only [esc,c1,c2,q1,r1,w1,s1]
theorem C4s {i:Int} {h:B5} (hi:i<0\/2048<=i):wJ [iV i] h=A4 (.t [.c o0,.c (.i .u8 0),.c (.b A6)],h):=by
 refine A1d (n:=0) (h2:=ro h) ?_ rfl;rw [A4O];by_cases c1:i<0
 ·simp only [esc,c1]
 ·have c2:2048<=i:=by omega
  simp only [esc,c1,c2]
theorem E3D {a b:Nat} (ha:a<256) (hb:b<256):O4 .and (.c (.i .u8 a)) (.c (.i .u8 b))=A4 (.c (.i .u8 ((a &&& b:Nat):Int))):=by
 have h1:a &&& b<2 ^ 8:=Nat.and_lt_two_pow _ hb;rw [D36];have e:(BitVec.ofInt IntKind.u8.bits (a:Int) &&& BitVec.ofInt IntKind.u8.bits (b:Int)).toNat=a &&& b:=by
  have h8:IntKind.u8.bits=8:=rfl;rw [BitVec.toNat_and,BitVec.toNat_ofInt,BitVec.toNat_ofInt,h8];have e1:((a:Int)%(2 ^ 8:Nat)).toNat=a:=by omega
  have e2:((b:Int)%(2 ^ 8:Nat)).toNat=b:=by omega
  rw [e1,e2]
 rw [e,wrap_u8 (by omega) (by omega)]
theorem E5u {a b:Nat} (ha:a<256) (hb:b<256):O4 .or (.c (.i .u8 a)) (.c (.i .u8 b))=A4 (.c (.i .u8 ((a ||| b:Nat):Int))):=by
 have h1:a ||| b<2 ^ 8:=Nat.or_lt_two_pow ha hb
 rw [D2M];have e:(BitVec.ofInt IntKind.u8.bits (a:Int) ||| BitVec.ofInt IntKind.u8.bits (b:Int)).toNat=a ||| b:=by
  have h8:IntKind.u8.bits=8:=rfl;rw [BitVec.toNat_or,BitVec.toNat_ofInt,BitVec.toNat_ofInt,h8];have e1:((a:Int)%(2 ^ 8:Nat)).toNat=a:=by omega
  have e2:((b:Int)%(2 ^ 8:Nat)).toNat=b:=by omega
  rw [e1,e2]
 rw [e,wrap_u8 (by omega) (by omega)]
theorem E1S {a j:Nat}:(a &&& 2 ^ j=0)↔¬ a/2 ^ j%2=1:=by
 have h:=Nat.testBit_eq_decide_div_mod_eq (x:=a) (i:=j);constructor
 ·intro h0 h1;rw [decide_eq_true h1] at h;have h2:(a &&& 2 ^ j).testBit j=A5:=by rw [Nat.testBit_and,h,Nat.testBit_two_pow,decide_eq_true rfl];rfl
  rw [h0,Nat.zero_testBit] at h2;cases h2
 ·intro h1;rw [decide_eq_false h1] at h;refine Nat.eq_of_testBit_eq λi=>?_
  rw [Nat.testBit_and,Nat.testBit_two_pow,Nat.zero_testBit];by_cases c:j=i
  ·subst c;rw [h];rfl
  ·rw [decide_eq_false c,E75]
theorem D2U {b:List UInt8} {i:Int} {h:B5} (hb:b.length=256):A9P [.a (B4 b),iV i] h=A4 (bV (D6r b i),h):=by
 have key:∀ g,∃ g',A9i 0 [.a (B4 b),iV i] g=A4 (bV (D6r b i),g'):=by
  intro g;rw [C5m];by_cases c:0<=i/\i<2048
  ·obtain ⟨k,rfl⟩:∃ k:Nat,i=k:=⟨i.toNat,by omega⟩;have hk:k<2048:=by omega
   have hW:=λh=>B01 (h:=h) hk
   have V5:k/8<b.length:=by omega
   have ad:=J4 (k:=.i64) (id:=g.length) (off:=0) (sz:=1) (j:=k/8) (n:=256) (by omega);rw [Nat.mul_one,E7t] at ad;have l1:(B4 b)[k/8]?=A4 (.i .u8 b[k/8].toNat):=by rw [aJ,E66 V5];rfl
   have a1:=E3D (a:=b[k/8].toNat) (b:=tR k) b[k/8].toNat_lt (A5K k);have e:D6r b k=decide (¬ (((b[k/8].toNat &&& tR k:Nat):Int)=0)):=by
    have h1:(k:Int)/8=((k/8:Nat):Int):=rfl;have h2:(k:Int)%8=((k%8:Nat):Int):=rfl;unfold D6r;rw [decide_eq_true c.1,decide_eq_true c.2,E7j,E7j,h1,h2,E7r,E7r,E7e,E66 V5,E7N];have:=E1S (a:=b[k/8].toNat) (j:=k%8);unfold tR;by_cases c:b[k/8].toNat/2 ^ (k%8)%2=1
    ·rw [decide_eq_true c,decide_eq_true];intro h;exact this.1 (by omega) c
    ·rw [decide_eq_false c,decide_eq_false];intro h;exact h (by have:=this.2 c;omega)
   rw [e];generalize B4 b=y at *;exact ⟨_,by simp only [esc,esh,Nat.reduceAdd,Nat.reduceMul,Nat.reduceLT,hW,ad,l1,a1]<;>rfl⟩
  ·have hW:=λh=>C4s (i:=i) (h:=h) (by omega)
   have e:D6r b i=A6:=by
    unfold D6r;rw [Bool.and_eq_false_iff,Bool.and_eq_false_iff,decide_eq_false_iff_not,decide_eq_false_iff_not];omega
   rw [e];generalize B4 b=y at *;exact ⟨_,by simp only [esc,esh,Nat.reduceAdd,Nat.reduceMul,Nat.reduceLT,hW]<;>rfl⟩
 obtain ⟨g',e⟩:=key (ro h);exact B9N e rfl
def D2i (D:Dev) (n i:Int):Bool:=S4 D.length n&&decide (0<=i)&&decide (i<D.length)&&D6r (blk D 1) i
theorem D3S {n m i:Int} {f:Cell} {D:Dev} {h:B5} (hD:okD D) (hv:IsView h f D):uQ [.a (vwC D.length n m f),iV i] h=A4 (bV (D2i D n i),h):=by
 have key:∀ g,IsView g f D->∃ g',uK 0 [.a (vwC D.length n m f),iV i] g=A4 (bV (D2i D n i),g'):=by
  intro g hv;have l3:=D5X (b:=D.length) (n:=n) (m:=m) (f:=f);have l4:=E1G (b:=D.length) (n:=n) (m:=m) (f:=f);have l0:(vwC D.length n m f)[0]?=A4 (.i .i64 (D.length:Int)):=rfl;have hC:=λh=>bY (b:=D.length) (n:=n) (m:=m) (h:=h)
  have n10:¬ (1:Int)=0:=by decide
  rw [B2Q];unfold D2i;cases c1:S4 D.length n with
  | false =>
   simp only [c1] at hC;generalize vwC D.length n m f=V at *;exact ⟨_,by simp only [esc,esh,Nat.reduceAdd,Nat.reduceMul,Nat.reduceLT,l3,hC,n10,eq_self,E7f]<;>rfl⟩
  | true =>
   simp only [c1] at hC;by_cases c2:0<=i
   ·by_cases c3:i<D.length
    ·have hB:=bI (n:=n) (m:=m) (no:=1) (h:=g++[rT (vwC D.length n m f)]) hD (hv.more _);have hH:=λh=>D2U (i:=i) (h:=h) (O5 hD (i:=1))
     generalize vwC D.length n m f=V at *;exact ⟨_,by simp only [esc,esh,Nat.reduceAdd,Nat.reduceMul,Nat.reduceLT,l3,l4,l0,hC,n10,eq_self,c2,c3,pW,hB,hH,E7j]<;>rfl⟩
    ·generalize vwC D.length n m f=V at *;exact ⟨_,by simp only [esc,esh,Nat.reduceAdd,Nat.reduceMul,Nat.reduceLT,l3,l4,l0,hC,n10,eq_self,c2,c3,E7j,E7f]<;>rfl⟩
   ·generalize vwC D.length n m f=V at *;exact ⟨_,by simp only [esc,esh,Nat.reduceAdd,Nat.reduceMul,Nat.reduceLT,l3,l4,l0,hC,n10,eq_self,c2,E7j,E7f]<;>rfl⟩
 obtain ⟨g',e⟩:=key (ro h) hv.ro;exact A81 e rfl
theorem D9E {N:Nat} (hN:N<=1073741823):A13 (iV (N:Int)) (iV (N:Int))=A4 N:=by
 have:A5P (iV (N:Int))=A4 N:=by simp only [A5P];rw [if_pos (by omega)];simp
 simp [A13,this]
theorem E1x {D:Dev} {i:Nat} {z:List UInt8} (hi:i<D.length):(D.take i++E68 (D.length-i) z).set i D[i]=D.take (i+1)++E68 (D.length-(i+1)) z:=by
 have hl:(D.take i).length=i:=by rw [E7A];omega
 rw [E7I _ _ (by omega),hl,E7R,show D.length-i=D.length-(i+1)+1 by omega,E7z,E7T,E7n hi,E7c];rfl
theorem E0X {D:Dev} (hD:okD D) (i:Nat):okD (D.take i++E68 (D.length-i) (zeros 256)):=λb hb=>by
 rcases List.mem_append.1 hb with hb | hb
 ·exact hD.take i b hb
 ·exact C1f _ b hb
theorem C70 {n m:Int} {f:Cell} {D:Dev} {g:B5} {p q id:Nat} (hD:okD D) (h60:D.length<=1073741823) (h1:rd g p=rT (vwC D.length n m f)) (hv:IsView g f D) (hid:g.length<=id):∀ (e i M:Nat) (h:B5),i+e=D.length->e<M->Low g.length g h ->
  rd h id=rT (D5 (D.take i++E68 (D.length-i) (zeros 256))) ->
  ∃ h',A1X q M (pV p 0) (sV id 0 D.length 256) (iV (D.length:Int)) (iV (i:Int)) h=A4 (sV id 0 D.length 256,h')/\rd h' id=rT (D5 D)
 | e,i,0,h,_,hm,_,_=>by omega
 | 0,i,M+1,h,hi,hm,hlow,hr=>by
  have e0:i=D.length:=by omega
  have c0:¬ (i:Int)<(D.length:Nat):=by omega
  rw [e0,List.take_length,E7R,List.replicate_zero,E7w] at hr;rw [tU];exact ⟨h,by simp only [esc,c0],hr⟩
 | e+1,i,M+1,h,hi,hm,hlow,hr=>by
  have O9:i<D.length:=by omega
  have c0:(i:Int)<(D.length:Nat):=by omega
  have hV:=C7 (h:=h) (id:=p) (hlow.rd h1) (n:=4) rfl;have hB:=bI (n:=n) (m:=m) (no:=(i:Int)) hD (hv.since hlow);rw [C0R O9] at hB;have ad:E1 256 (sV id 0 D.length 256) (iV (i:Int))=A4 (pV id (i*256)):=by rw [C9 O9,E7t]
  have hl:(D.take i).length=i:=by rw [E7A];omega
  have hs:=A50 (i:=i) (b:=D[i]) hr (E0X hD i) (hD.at O9) (by rw [E7a,hl,E7B];omega);rw [E1x O9] at hs;have V5:=C8 hr;obtain ⟨h',g1,g2⟩:=C70 (q:=q) hD h60 h1 hv hid e (i+1) M (h.set id (rT (D5 (D.take (i+1)++E68 (D.length-(i+1)) (zeros 256))))) (by omega) (by omega) (hlow.set hid _) (C6 V5);refine ⟨h',?_,g2⟩;rw [tU];generalize vwC D.length n m f=V at *;generalize B4 D[i]=y at *;simp only [P9,A1w,c0,decide_true,D7r,hV,hB,ad,hs,A1v,D3 (show i+1<9223372036854775808 by omega)];exact g1
theorem D0H {n m:Int} {f:Cell} {D:Dev} {h:B5} (hD:okD D) (hv:IsView h f D) (hm:S4 D.length n=A5):rJ [.a (vwC D.length n m f)] h=A4 (sV h.length 0 D.length 256,h++[rT (D5 D)]):=by
 have key:∀ g,IsView g f D->∃ v g',qU (D.length+1) [.a (vwC D.length n m f)] g=A4 (v,g')/\Out g.length g' v 256 D.length (D5 D):=by
  intro g hv;have h60:D.length<=512:=by
   unfold S4 at hm;simp only [E69,decide_eq_true_eq] at hm;omega
  have l3:=D5X (b:=D.length) (n:=n) (m:=m) (f:=f);have l0:(vwC D.length n m f)[0]?=A4 (.i .i64 (D.length:Int)):=rfl;have hC:=λh=>bY (b:=D.length) (n:=n) (m:=m) (h:=h)
  simp only [hm] at hC;have mk:=D9E (N:=D.length) (by omega);obtain ⟨h',g1,g2⟩:=C70 (n:=n) (m:=m) (p:=g.length) (q:=D.length+1) (id:=g.length+2) (g:=g++[rT (vwC D.length n m f),rT []]) hD (by omega) (by simp) (hv.more _) (by simp) D.length 0 (D.length+1) (g++[rT (vwC D.length n m f),rT [],rT (D5 (E68 D.length (zeros 256)))]) (by omega) (by omega)
   (by
    have:=(Low.refl (h:=g++[rT (vwC D.length n m f),rT []]) (E7b _)).new [rT (D5 (E68 D.length (zeros 256)))];simpa using this) (by simp)
  rw [A9L];simp only [D5I];refine ⟨_,h',?_,J0 hD,g.length+2,rfl,by omega,g2⟩;generalize vwC D.length n m f=V at *;simp only [esc,esh,Nat.reduceAdd,Nat.reduceMul,Nat.reduceLT,l3,hC,eq_self,l0,mk];exact g1
 obtain ⟨v,g',e,ho⟩:=key (ro h) hv.ro;exact A80 e (by simpa [F7] using ho) gY
noncomputable section
variable (n m m2:Nat) (a0 x0 x3 x4 x5 x6:Val) (h:B5)
def X1:FD A8:=⟨px 0X12cc211c5912212188415607c5e1f13180621fa4e5e119861e07c64f82c061c61e11984961a7c2801c04961a7c2801c3d11d181d8615607c383913181e85119667c2c3b13183565430532702461e17c496187c2807e2d1438654306265430536543051625101654305254304355115430422461c61a11987a0029142c4304215430321a0702461e17c61c8003e1b141e43042430334303060510143032313583166175bc4961a7c61c807153022123b91012,[],[],[.tmp 2],[]⟩
def B6U:=X1.R
def B3R:AtH:=X1.lj 0 n [m] [x0,x3,x4]
def B3S:AtH:=X1.lj 1 n [m,m2] [x0,x3,x4,x5,x6]
def B3Q:AtH:=X1.lj 2 n [m] [x0,x3,x4]
def A0o:=tT [⟨2,3,B3R⟩,⟨3,5,B3S⟩,⟨2,3,B3Q⟩]
def C3r:=mR B6U X1 A0o n [a0] h
def uY:=mL X1 A0o 0 n [m] [x0,x3,x4] h
def A5q:=mL X1 A0o 1 n [m,m2] [x0,x3,x4,x5,x6] h
def A5p:=mJ X1 A0o 2 n [m] [x0,x3,x4] h
def B6x:=X1.K Tryz.func124
def A6O:=X1.S
theorem C3W:SOk A8 124 A6O:=B6x.sok
theorem B9V:oP B6U A6O:=B6x.out
def fW:FD A8:=⟨px 0X11fc216101ac1c3e132125c415607c3a1a13180721fa62e119861c61a1198280001c071824363a2a828889614b7f64b1f61a14b19b7e4b304b3601647c61c61a11984e001c11c2f4304215430311a0702461e17c61c8001a61419430424303343030605101430323132c3128889288891455bd23022123b91012,[.c (.b A6),.c (.b A5)],[],[.tmp 2],[cal C3W]⟩
def C16:=fW.R
def B8c:AtH:=fW.lj 0 n [m] [x0,x3,x4]
def D20:AtH:=fW.lj 1 n [m] [x0,x3,x4]
def B0I:=tT [⟨2,3,B8c⟩,⟨2,3,D20⟩]
def C5x:=mR C16 fW B0I n [a0] h
def A8r:=mL fW B0I 0 n [m] [x0,x3,x4] h
def C4x:=mJ fW B0I 1 n [m] [x0,x3,x4] h
def C1x:=fW.K Tryz.func60
def A96:=fW.S
theorem C6c:SOk A8 60 A96:=C1x.sok
theorem C3X:oP C16 A96:=C1x.out
end
def sU (b:List UInt8) (i:Nat):List UInt8:=b.set (i/8) (UInt8.ofNat ((b.getD (i/8) 0).toNat ||| tR i))
theorem C3e {b:List UInt8} {i:Nat}:(sU b i).length=b.length:=by simp [sU]
theorem C95 {b:List UInt8} {i:Nat} {h:B5} (hb:b.length=256) (hi:i<2048):A6E [.a (B4 b),iV (i:Int),bV A5] h=A4 (.a (B4 (sU b i)),h):=by
 have key:∀ g,∃ g',A6j 0 [.a (B4 b),iV (i:Int),bV A5] g=A4 (.a (B4 (sU b i)),g'):=by
  intro g;have hW:=λh=>B01 (h:=h) hi
  have V5:i/8<b.length:=by omega
  have ad:=J4 (k:=.i64) (id:=g.length) (off:=0) (sz:=1) (j:=i/8) (n:=256) (by omega);rw [Nat.mul_one,E7t] at ad;have l1:(B4 b)[i/8]?=A4 (.i .u8 b[i/8].toNat):=by rw [aJ,E66 V5];rfl
  have a1:=E5u (a:=b[i/8].toNat) (b:=tR i) b[i/8].toNat_lt (A5K i);have hor:b[i/8].toNat ||| tR i<2 ^ 8:=Nat.or_lt_two_pow b[i/8].toNat_lt (A5K i)
  have es:(B4 b).set (i/8) (.i .u8 ((b[i/8].toNat ||| tR i:Nat):Int))=B4 (sU b i):=by
   have ew:(b[i/8].toNat ||| tR i)=(UInt8.ofNat (b[i/8].toNat ||| tR i)).toNat:=by rw [UInt8.toNat_ofNat',E7Y hor]
   unfold sU;rw [E7e,E66 V5,E7N,<-iI,<-ew]
  have hB:(B4 b).length=256:=by rw [A9,hb]
  have hC:(B4 (sU b i)).length=256:=by rw [A9,C3e,hb]
  have s1:=C4S (cs:=B4 b) (off:=i/8) (x:=.i .u8 ((b[i/8].toNat ||| tR i:Nat):Int)) (by omega);rw [es] at s1;have hz:(E68 256 (Cell.i .u8 0)).length=256:=E7B;rw [C3l];generalize E68 256 (Cell.i .u8 0)=z at *;generalize B4 b=y at *;generalize B4 (sU b i)=y2 at *;exact ⟨_,by simp only [esc,bL,Q9,fE,T7,V1,L7,uW,B0U,jY,A3a,nL,hW,ad,l1,a1,s1,C0W,hB,hC,hz]<;>rfl⟩
 obtain ⟨g',e⟩:=key (ro h);exact B7e e (by simp [Val.flat])
def fK (l:List Nat):List UInt8:=l.foldl sU (zeros 256)
theorem dF {l:List Nat}:∀ {b:List UInt8},(l.foldl sU b).length=b.length:=by
 induction l with
 | nil=>intro b;rfl
 | cons x l ih=>intro b;rw [List.foldl_cons,ih,C3e]
theorem C7r {g:B5} {l:List Nat} {q p:Nat} {v:Val} {nv:Nat} (hl:∀ x∈l,x<2048) (h60:l.length<=2048) (hv:Has g v 1 nv (encI (l.map λx:Nat=>(x:Int)))) (hp:p=g.length):∀ (e i m:Nat),i+e=l.length->e<m ->
  B3L q m (pV p 0) (pV (p+1) 0) v (iV (l.length:Int)) (iV (i:Int)) (g++[rT (B4 (zeros 256)),rT (B4 ((l.take i).foldl sU (zeros 256)))]) =
   A4 (.a (B4 (fK l)),g++[rT (B4 (fK l)),rT (B4 (fK l))])
 | e,i,0,_,hm=>by omega
 | 0,i,m+1,hi,hm=>by
  have e0:i=l.length:=by omega
  subst e0 hp;have c0:¬ (l.length:Int)<(l.length:Nat):=by omega
  have hB:(B4 (fK l)).length=256:=by rw [A9];unfold fK;rw [dF];exact zeros_length
  have hz:(B4 (zeros 256)).length=256:=by rw [A9];exact zeros_length
  rw [A5e,List.take_length];have em:l.foldl sU (zeros 256)=fK l:=rfl;rw [em];generalize B4 (zeros 256)=z at *;generalize B4 (fK l)=y at *;simp only [esc,esh,Nat.reduceAdd,Nat.reduceMul,Nat.reduceLT,c0,hB,hz]
 | e+1,i,m+1,hi,hm=>by
  have O9:i<l.length:=by omega
  have ih:=C7r (q:=q) hl h60 hv hp e (i+1) m (by omega) (by omega);subst hp;have c0:(i:Int)<(l.length:Nat):=by omega
  have hnv:l.length=nv:=by
   have:=hv.length;rw [B7,List.length_map] at this;omega
  obtain ⟨id,off,rfl,hid,h1,_⟩:=(hv.more [rT (B4 (zeros 256)),rT (B4 ((l.take i).foldl sU (zeros 256)))]).sl (by omega);have hx:=h1 i (.i .i64 (l[i]:Int)) (by rw [G8,List.getElem?_map,E66 O9];rfl);have ea:E1 1 (sV id off nv 1) (iV (i:Int))=A4 (pV id (off+i)):=by rw [C9 (by omega)];simp
  have hfl:((l.take i).foldl sU (zeros 256)).length=256:=by rw [dF];exact zeros_length
  have hW:=λh=>C95 (h:=h) hfl (hl _ (E7J O9))
  have et:sU ((l.take i).foldl sU (zeros 256)) l[i]=(l.take (i+1)).foldl sU (zeros 256):=by
   rw [E7n O9,List.foldl_append];rfl
  rw [et] at hW;have hB:(B4 ((l.take i).foldl sU (zeros 256))).length=256:=by rw [A9,hfl]
  have hB2:(B4 ((l.take (i+1)).foldl sU (zeros 256))).length=256:=by rw [A9,dF];exact zeros_length
  rw [A5e];generalize B4 (zeros 256)=z at *;generalize B4 ((l.take i).foldl sU (zeros 256))=y at *;generalize B4 ((l.take (i+1)).foldl sU (zeros 256))=y2 at *;simp only [esc,esh,Nat.reduceAdd,Nat.reduceMul,Nat.reduceLT,c0,ea,hx,hW,hB,hB2,D3 (show i+1<9223372036854775808 by omega)];exact ih
theorem B3K {v:Val} {nv:Nat} {l:List Nat} {h:B5} (hl:∀ x∈l,x<2048) (h60:l.length<=2048) (hv:Has h v 1 nv (encI (l.map λx:Nat=>(x:Int)))):A6D [v] h=A4 (.a (B4 (fK l)),h):=by
 have key:∀ g,Has g v 1 nv (encI (l.map λx:Nat=>(x:Int)))->∃ g',A6i (l.length+1) [v] g=A4 (.a (B4 (fK l)),g'):=by
  intro g hv;have hnv:l.length=nv:=by
   have:=hv.length;rw [B7,List.length_map] at this;omega
  have hL:=C7r (q:=l.length+1) hl h60 hv rfl l.length 0 (l.length+1) (by omega) (by omega);have hlen:=hv.len;rw [<-hnv] at hlen;rw [C3k,I7];rw [E76,List.foldl_nil] at hL;generalize B4 (zeros 256)=z at *;exact ⟨_,by simp only [esc,hlen];exact hL⟩
 obtain ⟨g',e⟩:=key (ro h) hv.ro;exact B7d e (by simp [Val.flat])
theorem D3D {b n m:Int} {h:B5} (hm0:0<=m) (hm1:m<18446744073709551616):B43 [.a (D8 b n m)] h=A4 (sV h.length 0 256 1,h++[rT (B4 (jH b n m))]):=by
 have key:∀ g,∃ v g',B4x 0 [.a (D8 b n m)] g=A4 (v,g')/\Out g.length g' v 1 256 (B4 (jH b n m)):=by
  intro g;have e7:E4 [Cell.i .u8 0,.i .u8 0,.i .u8 0,.i .u8 0,.i .u8 0,.i .u8 0,.i .u8 0,.i .u8 0] [(0,1,.c (.i .u8 101)),(1,1,.c (.i .u8 115)),(2,1,.c (.i .u8 99)),(3,1,.c (.i .u8 104)),(4,1,.c (.i .u8 101)),(5,1,.c (.i .u8 97)),(6,1,.c (.i .u8 116)),(7,1,.c (.i .u8 49))]=A4 (B4 magicB):=rfl;have lm:magicB.length=8:=rfl;obtain ⟨c0,hc0⟩:∃ c0:Option Row,c0=rT (D8 b n m):=⟨_,rfl⟩;have hmk:=D4h (h:=g++[rT (D8 b n m),rT [],rT (B4 magicB)]) (id:=g.length+2) (off:=0) (len:=8) (sz:=1) (cs:=B4 magicB) (by simp) (by omega);have b1:=λh=>dP (w:=2) (v:=b) (h:=h) (by omega)
  have b2:=λh=>dP (w:=2) (v:=n) (h:=h) (by omega)
  have b3:=λh=>A1Q (w:=8) (v:=m) (h:=h) (by omega) hm0 hm1
  have E6j:=C4O (s:=cM b n m);have b4:=λh=>A1Q (w:=4) (v:=(zF (cM b n m):Nat)) (h:=h) (by omega) (by omega) (by omega)
  have p1:=kN (h:=g++[rT (D8 b n m),rT [],rT (B4 magicB),rT (B4 (B9 2 b))]) (id:=g.length+2) (jd:=g.length+3) (n:=8) (m:=2) (sz:=1) (cs:=B4 magicB) (ys:=B4 (B9 2 b)) (rw:=A5) (by simp) (by simp [A9,lm]) (by simp) (by simp [A9]) rfl (by omega) (by omega);have p2:=kN (h:=g++[rT (D8 b n m),rT [],A7,rT (B4 (B9 2 b)),rT (B4 magicB++B4 (B9 2 b)),rT (B4 (B9 2 n))]) (id:=g.length+4) (jd:=g.length+5) (n:=10) (m:=2) (sz:=1) (cs:=B4 magicB++B4 (B9 2 b)) (ys:=B4 (B9 2 n)) (rw:=A5) (by simp) (by simp [A9,lm]) (by simp) (by simp [A9]) rfl (by omega) (by omega);have p3:=kN (h:=g++[rT (D8 b n m),rT [],A7,rT (B4 (B9 2 b)),A7,rT (B4 (B9 2 n)),rT (B4 magicB++B4 (B9 2 b)++B4 (B9 2 n)),rT (B4 (B9 8 m))]) (id:=g.length+6) (jd:=g.length+7) (n:=12) (m:=8) (sz:=1) (cs:=B4 magicB++B4 (B9 2 b)++B4 (B9 2 n)) (ys:=B4 (B9 8 m)) (rw:=A5) (by simp) (by simp [A9,lm]) (by simp) (by simp [A9]) rfl (by omega) (by omega);have eS:B4 magicB++B4 (B9 2 b)++B4 (B9 2 n)++B4 (B9 8 m)=B4 (cM b n m):=by unfold cM;simp only [M6]
  rw [eS] at p3;have E38:=(Has.tr (h:=g++[rT (D8 b n m),rT [],A7,rT (B4 (B9 2 b)),A7,rT (B4 (B9 2 n)),A7,rT (B4 (B9 8 m)),rT (B4 (cM b n m))]) (id:=g.length+8) (sz:=1) (n:=20) (cs:=B4 (cM b n m)) (by simp) (by rw [A9,S8]) (F9 _)).str;have hmx:=λh=>C3b (s:=cM b n m) (h:=h) (by rw [S8];omega)
  have p4:=kN (h:=g++[rT (D8 b n m),rT [],A7,rT (B4 (B9 2 b)),A7,rT (B4 (B9 2 n)),A7,rT (B4 (B9 8 m)),rT (B4 (cM b n m)),rT (B4 (B9 4 (zF (cM b n m):Nat)))]) (id:=g.length+8) (jd:=g.length+9) (n:=20) (m:=4) (sz:=1) (cs:=B4 (cM b n m)) (ys:=B4 (B9 4 (zF (cM b n m):Nat))) (rw:=A5) (by simp) (by rw [A9,S8]) (by simp) (by simp [A9]) rfl (by omega) (by omega);rw [<-M6] at p4;have mk:A13 (iV 256) (iV 256)=A4 256:=rfl;have rz:=nK 256;have l24:(cM b n m++B9 4 (zF (cM b n m):Nat)).length=24:=by rw [E7a,S8,Q5]
  have hL:=nJ (h:=g++[rT (D8 b n m),rT [],A7,rT (B4 (B9 2 b)),A7,rT (B4 (B9 2 n)),A7,rT (B4 (B9 8 m)),A7,rT (B4 (B9 4 (zF (cM b n m):Nat))),rT (B4 (cM b n m++B9 4 (zF (cM b n m):Nat))),rT (B4 (zeros 256))]) (v:=sV (g.length+11) 0 256 1) (nv:=256) (l:=zeros 256) (u:=sV (g.length+10) 0 24 1) (nu:=24) (data:=cM b n m++B9 4 (zF (cM b n m):Nat)) (Has.tr (by simp) (by rw [A9];exact zeros_length) (F9 _)) (Has.tr (by simp) (by rw [A9,l24]) (F9 _)) (a:=0) (by omega) (by rw [zeros_length];omega);have eL:A87 (zeros 256) 0 (cM b n m++B9 4 (zF (cM b n m):Nat))=jH b n m:=by
   have h1:=A0R (l:=zeros 256) (xs:=cM b n m++B9 4 (zF (cM b n m):Nat)) (a:=0) (by rw [l24,zeros_length];omega);have h2:=B1W (l:=[]) (xs:=cM b n m++B9 4 (zF (cM b n m):Nat)) (a:=0) (by simp) (by rw [l24];omega);rw [show ((0:Nat):Int)=0 from rfl] at h1;rw [h1,<-B8R,h2,E7v,E7R,show zeros 0=[] from rfl,E7w,E7m,jH]
  have zl:(zeros 256).length=256:=zeros_length;rw [eL,zl] at hL;simp only [esc,E7F] at p1 p2 p3 p4 hL b1 b2 b3 b4;rw [C9o];generalize zeros 256=z at *;exact ⟨_,_,by simp only [esc,esh,Nat.reduceAdd,Nat.reduceMul,Nat.reduceLT,e7,hmk,b1,p1,b2,p2,b3,p3,E38,hmx,b4,p4,mk,rz,hL]<;>rfl,by rw [A9,U4],_,rfl,by omega,by simp⟩
 obtain ⟨v,g',e,ho⟩:=key (ro h);exact C6e e (by simpa [F7] using ho) (by simp)
theorem D3C {v:Val} {nv:Nat} {b:List UInt8} {h:B5} (hv:Has h v 1 nv (B4 b)) (hb:b.length=256):B41 [v] h=A4 (.t [.a (C1b b),.c (.b (okS b))],h):=by
 have key:∀ g,Has g v 1 nv (B4 b)->∃ g',B4v 0 [v] g=A4 (.t [.a (C1b b),.c (.b (okS b))],g'):=by
  intro g hv;have hv1:=hv.more [rT (D8 0 0 0)];have hg:=B81 hv1 (a:=12) (w:=8) (by omega);have gN:C7Q b 12 8=A4 (le ((b.drop 12).take 8)):=by
   unfold C7Q;rw [hb,if_pos ⟨by omega,by decide⟩];rfl
  rw [gN] at hg;simp only [E7N,E7o] at hg;have e12:((le ((b.drop 12).take 8):Nat):Int)=fieldN b 12 8:=rfl;rw [e12] at hg;have a1:=qC hv1 (a:=8) (w:=2) hb;have a2:=qC hv1 (a:=10) (w:=2) hb;have f1:=B7U (a:=8) (w:=2) hb (by omega) (by omega) (by omega);have f2:=B7U (a:=10) (w:=2) hb (by omega) (by omega) (by omega);simp only [E7F] at f1 f2;rw [f1] at a1;rw [f2] at a2;have ef:∀ x y z:Int,E4 (D8 0 0 0) [(0,1,iV x),(1,1,iV y),(2,1,.c (.i .u64 z))]=A4 (D8 x y z):=λ_ _ _=>rfl
  have ef0:E4 (D8 0 0 0) []=A4 (D8 0 0 0):=rfl;have hm:=λh=>X3 (b:=fieldN b 8 2) (n:=fieldN b 10 2) (m:=fieldN b 12 8) (h:=h)
  have hp:=λh=>D3D (b:=fieldN b 8 2) (n:=fieldN b 10 2) (m:=fieldN b 12 8) (h:=h) (A0u b).1 (A0u b).2
  have hS:=dZ (h:=g++[rT (D8 0 0 0),rT (D8 (fieldN b 8 2) (fieldN b 10 2) (fieldN b 12 8)),rT (B4 (jH (fieldN b 8 2) (fieldN b 10 2) (fieldN b 12 8)))]) (v:=sV (g.length+2) 0 256 1) (nv:=256) (u:=v) (nu:=nv) (l:=jH (fieldN b 8 2) (fieldN b 10 2) (fieldN b 12 8)) (r:=b)
   (Has.tr (by simp) (by rw [A9,U4]) (F9 _)) (hv.more _) (by rw [U4];omega)
  rw [C9m];unfold C1b okS;cases c:S4 (fieldN b 8 2) (fieldN b 10 2) with
  | false =>
   simp only [c] at hm;exact ⟨_,by simp only [esc,esh,Nat.reduceAdd,Nat.reduceMul,Nat.reduceLT,hg,a1,a2,ef,ef0,hm,E7f]<;>rfl⟩
  | true =>
   simp only [c] at hm;cases c2:decide (jH (fieldN b 8 2) (fieldN b 10 2) (fieldN b 12 8)=b) with
   | false =>
    rw [c2] at hS;exact ⟨_,by simp only [esc,esh,Nat.reduceAdd,Nat.reduceMul,Nat.reduceLT,hg,a1,a2,ef,ef0,hm,hp,hS,E75]<;>rfl⟩
   | true =>
    rw [c2] at hS;exact ⟨_,by simp only [esc,esh,Nat.reduceAdd,Nat.reduceMul,Nat.reduceLT,hg,a1,a2,ef,ef0,hm,hp,hS,Bool.and_true]<;>rfl⟩
 obtain ⟨g',e⟩:=key (ro h) hv.ro;refine C3Y e ?_;unfold C1b;cases okS b<;>simp
noncomputable section
variable (n m m2:Nat) (a0 a1 x0 x1 x2 x3 x4:Val) (h:B5)
def tY:FD A8:=⟨px 0X12181b1de1c1b382212621fa1a1c4c191b96301ac03a14322218c415607c6a2813181a21fa3e61628c41c4c1962a301ac65907c61967c280007a2a11918154320430702439617c5a1e121f432052432043432040605101432042320336c21b1de3b32d96131e122e113e1043b3e819496301ac0029296301ac0019196301ac00516301ac0511b320323b22d912022,[],[],[.cellN 2 11],[cal rC]⟩
def B4y:=tY.R
def C2Q:AtH:=tY.lj 0 n [m] [x0,x2,x3,x4]
def C6O:=tT [⟨2,4,C2Q⟩]
def C9p:=mR B4y tY C6O n [a0] h
def B1j:=mL tY C6O 0 n [m] [x0,x2,x3,x4] h
def C43:=tY.K Tryz.func219
def B45:=tY.S
theorem C9M:SOk A8 219 B45:=C43.sok
theorem C32:F6 B4y B45:=C43.flat
def B2i:FD A8:=⟨px 0X15c41362a2a861a191f7f41f301f3601647c001841234111022,[.c (.b A6)],[],[.tmp 4],[]⟩
def D03:=B2i.R
def D2r:=mR D03 B2i (tT []) n [a0,a1] h
def D0P:=B2i.K Tryz.func245
def B90:=B2i.S
theorem D2E:SOk A8 245 B90:=D0P.sok
theorem C6g:F6 D03 B90:=D0P.flat
def tZ:FD A8:=⟨px 0X12d821362a2a87ffffd62019d1af619d1f1a419d4f60362a2a87ffffd62018b1af618b1f3418b4f60362a2a849c889620791af6791f24794f60362a2a87ffffd6205f1af65f1f145f4f60196201ac61c042c4d382126c315607c4e1c13180132112122462bc7ffffd6201ac61c1a61628c444c5e1e162b31321531230702439617c3e1a121b3132312331206051013122113014c21068803b3e841b384212241627c61c0444d361221133062ec2112,[.c (.b A6)],[.eqA A6 ([.i .i64,.i .i64,.i .i64,.i .i64,.i .i64,.i .i64,.i .i64,.i .i64,.i .i64,.i .i64,.i .i64]) (.t 7) (.t 8)],[.tmp 2],[cal D2E]⟩
def B4z:=tZ.R
def C2R:AtH:=tZ.lj 0 n [m] [x1,x3]
def C6P:=tT [⟨2,2,C2R⟩]
def C9q:=mR B4z tZ C6P n [a0] h
def B1k:=mL tZ C6P 0 n [m] [x1,x3] h
def C44:=tZ.K Tryz.func220
def B46:=tZ.S
theorem C9N:SOk A8 220 B46:=C44.sok
theorem C33:F6 B4z B46:=C44.flat
def uA:FD A8:=⟨px 0X12f82106881c5d132122e83162e13cc619201ac64c861c1a44c1c4f173121f8415607c283d13182b83163e13cc619201ac64c861c1a61628c444c2801c3f1191815431330702439617c283b123c4314243133431306051014313231231d83162e13cc619201ac64c861c344c1c2d1731221a83162e13cc629201ac64c861c244c6a1f173122783162e13cc619201ac64c861c144c3a191731224831311610218213fc64f861c0454d5312213b862ec2112,[.c (.i .u8 0)],[.appZ 1 ([.i .u8 0]) (.t 45) (.v (.c (.i .i64 8)))],[.tmp 2],[cal iH]⟩
def B4A:=uA.R
def C2S:AtH:=uA.lj 0 n [m] [x1,x3,x4]
def C6Q:=tT [⟨2,3,C2S⟩]
def C9r:=mR B4A uA C6Q n [a0] h
def B1l:=mL uA C6Q 0 n [m] [x1,x3,x4] h
def C45:=uA.K Tryz.func59
def A6R:=uA.S
theorem B3z:SOk A8 59 A6R:=C45.sok
theorem C6h:oP B4A A6R:=C45.out
def zY:FD A8:=⟨px 0X17312181b1de7a1b2a39332220133127e1b1de03b3e83322224673a2a862c2bf61a232c1af02c36122c1af3e1b2c3b6062bc6111ac1e1b7391a28423242233821b1de3b42d96101ac051442032303b22d922022,[.c (.b A6),.c (.b A5)],[],[.cellN 2 11,.tmp 3],[cal C9M,cal C9N,cal B3z,cal bO]⟩
def A6o:=zY.R
def C3t:=mR A6o zY (tT []) n [a0] h
def B6z:=zY.K Tryz.func174
def A6Q:=zY.S
theorem C31:SOk A8 174 A6Q:=B6z.sok
theorem B7l:F6 A6o A6Q:=B6z.flat
def iS:FD A8:=⟨px 0X178215e1e122126c315607c4e03181507024362e2a861e51d7f6288961d7f2e1d301d36018b9617c60181b30323023302060531310130221211012,[.c (.b A6)],[],[.tmp 2],[]⟩
def A3s:=iS.R
def B1i:AtH:=iS.lj 0 n [m] [x0,x3]
def B3D:=tT [⟨2,2,B1i⟩]
def B9o:=mR A3s iS B3D n [a0] h
def A2Z:=mL iS B3D 0 n [m] [x0,x3] h
def B3c:=iS.K Tryz.func108
def A3S:=iS.S
theorem B9Z:SOk A8 108 A3S:=B3c.sok
theorem B44:F6 A3s A3S:=B3c.flat
end
def inI (n top:Int):Bool:=decide (0<=n)&&decide (n<=top)
theorem mA {n top:Int} {h:B5}:B90 [iV n,iV top] h=A4 (bV (inI n top),h):=by
 refine C6g (n:=0) (h2:=ro h) ?_ rfl;rw [D2r];unfold inI;by_cases c:0<=n
 ·simp only [esc,c,E7j]
 ·simp only [esc,c,E7f]
theorem A0Q {n:Int}:inI n 65535=N5 n:=rfl
theorem A3c {x:Int} {h:B5} {q:Nat}:∀ e i m:Nat,i+e=134->e<m->(i=0\/256*((i:Int)-1)<x) ->
  B1i q m (iV x) (iV i) h=A4 (iV (if x<1 then 0 else if 34304<x then 134 else (x+255)/256),h)
 | e,i,0,_,hm,_=>by omega
 | 0,i,m+1,hi,hm,hx=>by
  have c0:¬ (i:Int)<134:=by omega
  have hv:(if x<1 then 0 else if 34304<x then 134 else (x+255)/256)=(i:Int):=by
   rw [if_neg (by omega)];by_cases c:34304<x
   ·rw [if_pos c];omega
   ·rw [if_neg c];omega
  rw [A2Z,hv];simp only [esc,c0]
 | e+1,i,m+1,hi,hm,hx=>by
  have c0:(i:Int)<134:=by omega
  have e1:IntKind.wrap .i64 (256*(i:Int))=256*i:=wrap_i64 (by omega) (by omega);rw [A2Z];by_cases c1:256*(i:Int)<x
  ·have ih:=A3c (x:=x) (h:=h) (q:=q) e (i+1) m (by omega) (by omega) (.inr (by omega));simp only [esc,c0,e1,c1,D3 (show i+1<9223372036854775808 by omega)];exact ih
  ·have hv:(if x<1 then 0 else if 34304<x then 134 else (x+255)/256)=(i:Int):=by
    by_cases c:x<1
    ·rw [if_pos c];omega
    ·rw [if_neg c,if_neg (by omega)];omega
   rw [hv];simp only [esc,c0,e1,c1]
theorem C4D {x:Int} {h:B5}:A3S [iV x] h=A4 (iV (if x<1 then 0 else if 34304<x then 134 else (x+255)/256),h):=by
 have key:∀ N,135<N->∀ g,∃ g',A3s N [iV x] g=A4 (iV (if x<1 then 0 else if 34304<x then 134 else (x+255)/256),g'):=by
  intro N hN g;have:=A3c (x:=x) (h:=g) (q:=N) 134 0 N (by omega) (by omega) (.inl rfl);rw [B9o];exact ⟨_,this⟩
 obtain ⟨g',e⟩:=key (h.length+136) (by omega) (ro h);exact B44 e rfl
theorem B15 {g:B5} {k l s p:Int} {d:List Int} {q:Nat} (hd:d.length=7) (hk:k≠0):∀ e i m:Nat,i+e=6->e<m ->
  C2R q m (pV g.length 0) (iV i) (g++[rT (F8 k l s p d)])=A4 (bV ((d.drop i).all N5&&A3d k l s p []),g++[rT (F8 k l s p d)])
 | e,i,0,_,hm=>by omega
 | 0,i,m+1,hi,hm=>by
  have e0:i=6:=by omega
  subst e0;have c0:¬ ((6:Nat):Int)<6:=by omega
  have l1:(encI d)[6]?=A4 (.i .i64 d[6]):=by rw [G8,E66 (by omega)];rfl
  have e1:(d.drop 6).all N5=N5 d[6]:=by
   rw [E7d (by omega),E7k (by omega)];simp
  have e2:A3d k l s p []=(inI k 2&&(N5 l&&(N5 p&&inI s 34304))):=by
   unfold A3d inI;by_cases a:0<=k<;>by_cases b:k<=2<;>by_cases c:0<=s<;>by_cases f:s<=34304<;>simp [a,b,c,f]
  rw [B1k,e1,e2];cases h1:inI k 2 with
  | false=>simp only [esc,esh,Nat.reduceAdd,Nat.reduceMul,Nat.reduceLT,c0,mA,h1,E7f,E75]
  | true =>
   cases h2:N5 l with
   | false=>simp only [esc,esh,Nat.reduceAdd,Nat.reduceMul,Nat.reduceLT,c0,mA,h1,A0Q,h2,E7f,E75,E7j]
   | true =>
    cases h3:inI s 34304 with
    | false=>simp only [esc,esh,Nat.reduceAdd,Nat.reduceMul,Nat.reduceLT,c0,mA,h1,A0Q,h2,h3,E7f,E75,E7j]
    | true =>
     cases h4:N5 p with
     | false=>simp only [esc,esh,Nat.reduceAdd,Nat.reduceMul,Nat.reduceLT,c0,mA,h1,A0Q,h2,h3,h4,E7f,E75,E7j]
     | true=>simp only [esc,esh,Nat.reduceAdd,Nat.reduceMul,Nat.reduceLT,c0,mA,h1,A0Q,h2,h3,h4,l1,E7f,Bool.and_true,E7j]
 | e+1,i,m+1,hi,hm=>by
  have ih:=B15 (g:=g) (l:=l) (s:=s) (p:=p) (q:=q) hd hk e (i+1) m (by omega) (by omega);have c0:(i:Int)<6:=by omega
  have a1:J8 6 1 (pV g.length 4) (iV (i:Int))=A4 (pV g.length (i+1+1+1+1)):=by rw [J4 (by omega)];congr 3;omega
  have l1:(encI d)[i]?=A4 (.i .i64 d[i]):=by rw [G8,E66 (by omega)];rfl
  rw [B1k,E7d (by omega),E7P];cases c1:N5 d[i] with
  | true =>
   simp only [esc,esh,Nat.reduceAdd,Nat.reduceMul,Nat.reduceLT,c0,a1,l1,mA,A0Q,c1,E7j,D3 (show i+1<9223372036854775808 by omega)];exact ih
  | false=>simp only [esc,esh,Nat.reduceAdd,Nat.reduceMul,Nat.reduceLT,c0,a1,l1,mA,A0Q,c1,E7f]
theorem D3F {k l s p:Int} {d:List Int} {h:B5} (hd:d.length=7):B46 [.a (F8 k l s p d)] h=A4 (bV (A1P k l s p d),h):=by
 have hlen:(F8 k l s p d).length=11:=by simp [B7,hd]
 have key:∀ N,7<N->∀ g,∃ g',B4z N [.a (F8 k l s p d)] g=A4 (bV (A1P k l s p d),g'):=by
  intro N hN g;rw [C9q];unfold A1P;by_cases k0:k=0
  ·subst k0;rw [if_pos rfl];have hq:=D7f (k:=0) (l:=l) (s:=s) (p:=p) (k':=0) (l':=0) (s':=0) (p':=0) (neg:=A6) hd (I8 (n:=7));simp only [cond_false,D50] at hq;exact ⟨_,by simp only [esc,esh,Nat.reduceAdd,Nat.reduceMul,Nat.reduceLT,hlen,A48,hq]<;>rfl⟩
  ·rw [if_neg k0];have:=B15 (g:=g) (l:=l) (s:=s) (p:=p) (q:=N) hd k0 6 0 N (by omega) (by omega);have e1:((d.drop 0).all N5&&A3d k l s p [])=A3d k l s p d:=by
    unfold A3d;simp only [E7p,List.all_nil,Bool.and_true];cases d.all N5<;>simp
   rw [e1] at this;exact ⟨_,by simp only [esc,esh,Nat.reduceAdd,Nat.reduceMul,Nat.reduceLT,k0];exact this⟩
 obtain ⟨g',e⟩:=key (h.length+8) (by omega) (ro h);exact C33 e rfl
theorem B16 {g:B5} {k l s p:Int} {d:List Int} {q:Nat} (hd:d.length=7):∀ e i m h id,i+e=6->e<m->Low (g++[rT (F8 k l s p d)]).length (g++[rT (F8 k l s p d)]) h->(g++[rT (F8 k l s p d)]).length<=id->rd h id=rT (B4 (sT k l s p++sK (d.take i))) ->
  ∃ v' h',C2S q m (pV g.length 0) (sV id 0 (10+2*i) 1) (iV i) h=A4 (v',h')/\Out g.length h' v' 1 32 (B4 (gZ k l s p d))
 | e,i,0,h,id,_,hm,_,_,_=>by omega
 | 0,i,m+1,h,id,hi,hm,hlow,hb,hr=>by
  have e0:i=6:=by omega
  subst e0;have c0:¬ ((6:Nat):Int)<6:=by omega
  have hrow:rd h g.length=rT (F8 k l s p d):=hlow.rd T9;have l1:=C4 (off:=10) (c:=.i .i64 d[6]) hrow (by
   have:(encI d)[6]?=A4 (.i .i64 d[6]):=by rw [G8,E66 (by omega)];rfl
   exact this) rfl
  have eb:=dP (w:=2) (v:=d[6]) (h:=h) (by omega);rw [show ((2:Nat):Int)=2 from rfl] at eb;have hlen:(B4 (sT k l s p++sK (d.take 6))).length=(10+2*6)*1:=by rw [A9,E7a,gG,lO,E7A];omega
  obtain ⟨h1,a1,a2,a3,a4,a5⟩:=D7P (ys:=B4 (B9 2 d[6])) (m:=2) (sz:=1) (n:=10+2*6) hlow hr hlen hb (by simp [A9]) (by omega) (by omega);obtain ⟨h2,b1,b2,b3,b4⟩:=E5w (m:=8) (n:=24) a3 a2 (by rw [a5]) a4 (by omega);rw [show ((8:Nat):Int)=8 from rfl] at b1;have eB:B4 (sT k l s p++sK (d.take 6))++B4 (B9 2 d[6])++B4 (zeros 8)=B4 (gZ k l s p d):=by
   rw [<-M6,<-M6];unfold gZ;refine congrArg (λx=>B4 (x++zeros 8)) ?_;rw [E7c];refine congrArg (sT k l s p ++ ·) ?_;rw [<-C08,<-E7n (by omega),E7i (by omega)]
  rw [eB] at b2;simp only [Nat.reduceMul,Nat.reduceAdd] at a1 b1;rw [B1l];have hg:g.length<=h1.length:=by simp at b4;omega
  exact ⟨_,_,by simp only [esc,c0,l1,eb,Nat.reduceMul,a1,b1]<;>rfl,by rw [A9,lM hd],_,rfl,hg,b2⟩
 | e+1,i,m+1,h,id,hi,hm,hlow,hb,hr=>by
  have c0:(i:Int)<6:=by omega
  have hrow:rd h g.length=rT (F8 k l s p d):=hlow.rd T9;have ea:J8 6 1 (pV g.length 4) (iV (i:Int))=A4 (pV g.length (i+1+1+1+1)):=by rw [J4 (by omega)];congr 3;omega
  have l1:=C4 (off:=i+1+1+1+1) (c:=.i .i64 d[i]) hrow (by
   have:(encI d)[i]?=A4 (.i .i64 d[i]):=by rw [G8,E66 (by omega)];rfl
   exact this) rfl
  have eb:=dP (w:=2) (v:=d[i]) (h:=h) (by omega);rw [show ((2:Nat):Int)=2 from rfl] at eb;have hlen:(B4 (sT k l s p++sK (d.take i))).length=(10+2*i)*1:=by rw [A9,E7a,gG,lO,E7A];omega
  obtain ⟨h1,a1,a2,a3,a4,a5⟩:=D7P (ys:=B4 (B9 2 d[i])) (m:=2) (sz:=1) (n:=10+2*i) hlow hr hlen hb (by simp [A9]) (by omega) (by omega);have eB:B4 (sT k l s p++sK (d.take i))++B4 (B9 2 d[i])=B4 (sT k l s p++sK (d.take (i+1))):=by
   rw [<-M6,E7c,<-C08,<-E7n (by omega)]
  rw [eB] at a2;obtain ⟨v',h',b1,b2⟩:=B16 (q:=q) hd e (i+1) m h1 (h.length+1) (by omega) (by omega) a3 a4 a2;rw [show 10+2*(i+1)=10+2*i+2 by omega] at b1;rw [B1l];exact ⟨v',h',by simp only [esc,c0,ea,l1,eb,a1,D3 (show i+1<9223372036854775808 by omega)];exact b1,b2⟩
theorem B82 {k l s p:Int} {d:List Int} {h:B5} (hd:d.length=7):A6R [.a (F8 k l s p d)] h=A4 (sV h.length 0 32 1,h++[rT (B4 (gZ k l s p d))]):=by
 have key:∀ N,7<N->∀ g,∃ v g',B4A N [.a (F8 k l s p d)] g=A4 (v,g')/\Out g.length g' v 1 32 (B4 (gZ k l s p d)):=by
  intro N hN g;have e0:IntKind.wrap .u8 k=((byI k 0).toNat:Int):=by rw [qD,A0p];simp
  have ef:E4 [Cell.i .u8 0,.i .u8 0] [(0,1,.c (.i .u8 (byI k 0).toNat)),(1,1,.c (.i .u8 0))]=A4 (B4 (B9 1 k++zeros 1)):=rfl;have b1:=dP (w:=2) (v:=l) (h:=g++[rT (F8 k l s p d),rT [],rT (B4 (B9 1 k++zeros 1))]) (by omega);have p1:=kN (h:=g++[rT (F8 k l s p d),rT [],rT (B4 (B9 1 k++zeros 1)),rT (B4 (B9 2 l))]) (id:=g.length+2) (jd:=g.length+3) (n:=2) (m:=2) (sz:=1) (cs:=B4 (B9 1 k++zeros 1)) (ys:=B4 (B9 2 l)) (rw:=A5) (by simp) (by simp [A9]) (by simp) (by simp [A9]) rfl (by omega) (by omega);have b2:=dP (w:=4) (v:=s) (h:=g++[rT (F8 k l s p d),rT [],A7,rT (B4 (B9 2 l)),rT (B4 (B9 1 k++zeros 1)++B4 (B9 2 l))]) (by omega);have p2:=kN (h:=g++[rT (F8 k l s p d),rT [],A7,rT (B4 (B9 2 l)),rT (B4 (B9 1 k++zeros 1)++B4 (B9 2 l)),rT (B4 (B9 4 s))]) (id:=g.length+4) (jd:=g.length+5) (n:=4) (m:=4) (sz:=1) (cs:=B4 (B9 1 k++zeros 1)++B4 (B9 2 l)) (ys:=B4 (B9 4 s)) (rw:=A5) (by simp) (by simp [A9]) (by simp) (by simp [A9]) rfl (by omega) (by omega);have b3:=dP (w:=2) (v:=p) (h:=g++[rT (F8 k l s p d),rT [],A7,rT (B4 (B9 2 l)),A7,rT (B4 (B9 4 s)),rT (B4 (B9 1 k++zeros 1)++B4 (B9 2 l)++B4 (B9 4 s))]) (by omega);have p3:=kN (h:=g++[rT (F8 k l s p d),rT [],A7,rT (B4 (B9 2 l)),A7,rT (B4 (B9 4 s)),rT (B4 (B9 1 k++zeros 1)++B4 (B9 2 l)++B4 (B9 4 s)),rT (B4 (B9 2 p))]) (id:=g.length+6) (jd:=g.length+7) (n:=8) (m:=2) (sz:=1) (cs:=B4 (B9 1 k++zeros 1)++B4 (B9 2 l)++B4 (B9 4 s)) (ys:=B4 (B9 2 p)) (rw:=A5) (by simp) (by simp [A9]) (by simp) (by simp [A9]) rfl (by omega) (by omega);have eh:B4 (B9 1 k++zeros 1)++B4 (B9 2 l)++B4 (B9 4 s)++B4 (B9 2 p)=B4 (sT k l s p++sK (d.take 0)):=by
   rw [<-M6,<-M6,<-M6];simp [sT,sK]
  rw [eh] at p3;obtain ⟨v',h',f1,f2⟩:=B16 (g:=g) (k:=k) (l:=l) (s:=s) (p:=p) (q:=N) hd 6 0 N (g++[rT (F8 k l s p d),rT [],A7,rT (B4 (B9 2 l)),A7,rT (B4 (B9 4 s)),A7,rT (B4 (B9 2 p)),rT (B4 (sT k l s p++sK (d.take 0)))]) (g.length+8) (by omega) (by omega)
   (by have:=(Low.refl (h:=g++[rT (F8 k l s p d)]) (E7b _)).new [rT [],A7,rT (B4 (B9 2 l)),A7,rT (B4 (B9 4 s)),A7,rT (B4 (B9 2 p)),rT (B4 (sT k l s p++sK (d.take 0)))];simpa using this) (by simp) (by simp)
  simp only [esc,E7F] at b1 b2 b3 p1 p2 p3;rw [C9r];exact ⟨v',h',by simp only [esc,esh,Nat.reduceAdd,Nat.reduceMul,Nat.reduceLT,e0,ef,b1,p1,b2,p2,b3,p3];exact f1,f2⟩
 obtain ⟨v,g',e,ho⟩:=key (h.length+8) (by omega) (ro h);exact C6h e (by simpa [F7] using ho) (by simp)
theorem D8e {b:List UInt8} {a w:Nat} (h1:a+w<=b.length) (hw:1<=w) (hw4:w<=4):((atG b a w:Nat):Int)=fieldN b a w:=by
 unfold atG fieldN;rw [if_pos ⟨by omega,O0.2 (by omega)⟩];simp only [E7r]
theorem A5V {v:Val} {nv:Nat} {b:List UInt8} {h:B5} (hv:Has h v 1 nv (B4 b)) (hb:b.length=32) (a w:Nat) (h1:a+w<=32) (hw:1<=w) (hw4:w<=4) :
  A41 [v,iV a,iV w] h=A4 (iV (fieldN b a w),h):=by
 rw [D14 hv (by omega),D8e (by omega) hw hw4]
theorem B14 {g:B5} {v:Val} {nv:Nat} {b:List UInt8} {k l s p:Int} {z:List Cell} {q:Nat} (hv:Has g v 1 nv (B4 b)) (hb:b.length=32) (hz:z.length=11):∀ e i m:Nat,i+e=6->e<m ->
  C2Q q m v (pV g.length 0) (pV (g.length+1) 0) (iV i) (g++[rT z,rT (F8 k l s p ((M9 b).take i++zI (7-i)))]) =
   A4 (.a (F8 k l s p (M9 b)),g++[rT (F8 k l s p (M9 b)),rT (F8 k l s p (M9 b))])
 | e,i,0,_,hm=>by omega
 | 0,i,m+1,hi,hm=>by
  have e0:i=6:=by omega
  subst e0;have h1':¬ ((6:Nat):Int)<6:=by omega
  have ha:=A5V (hv.more [rT z,rT (F8 k l s p ((M9 b).take 6++zI (7-6)))]) hb 22 2 (by omega) (by omega) (by omega);simp only [E7F] at ha;have ho:(encI ((M9 b).take 6++zI (7-6))).length=7:=by simp [B7,F0,I8]
  have hg6:(M9 b)[6]'(by rw [F0];omega)=fieldN b 22 2:=by
   have:=B2x (b:=b) (i:=6) (by omega);rw [E66 (by rw [F0];omega)] at this;exact Option.some.inj this
  have es:(F8 k l s p ((M9 b).take 6++zI (7-6))).set 10 (.i .i64 (fieldN b 22 2))=F8 k l s p (M9 b):=by
   have h1:=B8s (k:=k) (l:=l) (s:=s) (p:=p) (x:=fieldN b 22 2) (d:=(M9 b).take 6++zI (7-6)) (i:=6);rw [show 4+6=10 from rfl] at h1;rw [h1,<-hg6,A0E F0 (by omega)];have:(M9 b).take (6+1)++zI (7-(6+1))=M9 b:=by rw [E7i (by rw [F0];omega)];simp [zI]
   rw [this]
  rw [B1j];simp only [esc,esh,Nat.reduceAdd,Nat.reduceMul,Nat.reduceLT,h1',ha,ho,es,hz,B7,F0]
 | e+1,i,m+1,hi,hm=>by
  have ih:=B14 (k:=k) (l:=l) (s:=s) (p:=p) (q:=q) hv hb hz e (i+1) m (by omega) (by omega);have h1':(i:Int)<6:=by omega
  have e2:IntKind.wrap .i64 (2*(i:Int))=((2*i:Nat):Int):=by rw [wrap_i64 (by omega) (by omega)];omega
  have e3:IntKind.wrap .i64 (10+((2*i:Nat):Int))=((10+2*i:Nat):Int):=by rw [wrap_i64 (by omega) (by omega)];omega
  have ha:=A5V (hv.more [rT z,rT (F8 k l s p ((M9 b).take i++zI (7-i)))]) hb (10+2*i) 2 (by omega) (by omega) (by omega);rw [show ((2:Nat):Int)=2 from rfl] at ha;have a1:J8 6 1 (pV (g.length+1) 4) (iV (i:Int))=A4 (pV (g.length+1) (4+i)):=by rw [J4 (by omega)];simp
  have ho:(encI ((M9 b).take i++zI (7-i))).length=7:=by simp [B7,F0,I8];omega
  have ho2:4+i<11:=by omega
  have hgi:(M9 b)[i]'(by rw [F0];omega)=fieldN b (10+2*i) 2:=by
   have:=B2x (b:=b) (i:=i) (by omega);rw [E66 (by rw [F0];omega)] at this;exact Option.some.inj this
  have es:(F8 k l s p ((M9 b).take i++zI (7-i))).set (4+i) (.i .i64 (fieldN b (10+2*i) 2))=F8 k l s p ((M9 b).take (i+1)++zI (7-(i+1))):=by
   rw [B8s,<-hgi,A0E F0 (by omega)]
  rw [B1j];simp only [esc,esh,Nat.reduceAdd,Nat.reduceMul,Nat.reduceLT,h1',e2,e3,ha,a1,ho,ho2,es,D3 (show i+1<9223372036854775808 by omega)];exact ih
theorem D3E {v:Val} {nv:Nat} {b:List UInt8} {h:B5} (hv:Has h v 1 nv (B4 b)) (hb:b.length=32):B45 [v] h=A4 (.a (F8 (qH b) (sH b) (sJ b) (sI b) (M9 b)),h):=by
 have key:∀ N,7<N->∀ g,Has g v 1 nv (B4 b)->∃ g',B4y N [v] g=A4 (.a (F8 (qH b) (sH b) (sJ b) (sI b) (M9 b)),g'):=by
  intro N hN g hv;have z11:[o0,o0,o0,o0,o0,o0,o0,o0,o0,o0,o0]=F8 0 0 0 0 (zI 7):=rfl;have l11:(F8 0 0 0 0 (zI 7)).length=11:=rfl;have hv1:=hv.more [rT (F8 0 0 0 0 (zI 7))];have a1:=A5V hv1 hb 0 1 (by omega) (by omega) (by omega);have a2:=A5V hv1 hb 2 2 (by omega) (by omega) (by omega);have a3:=A5V hv1 hb 4 4 (by omega) (by omega) (by omega);have a4:=A5V hv1 hb 8 2 (by omega) (by omega) (by omega);simp only [E7F] at a1 a2 a3 a4;have ef:E4 (F8 0 0 0 0 (zI 7)) [(0,1,iV (fieldN b 0 1)),(1,1,iV (fieldN b 2 2)),(2,1,iV (fieldN b 4 4)),(3,1,iV (fieldN b 8 2))]=A4 (F8 (qH b) (sH b) (sJ b) (sI b) (zI 7)):=rfl;have lf:(F8 (qH b) (sH b) (sJ b) (sI b) (zI 7)).length=11:=rfl;have:=B14 (k:=qH b) (l:=sH b) (s:=sJ b) (p:=sI b) (z:=F8 0 0 0 0 (zI 7)) (q:=N) hv hb l11 6 0 N (by omega) (by omega);simp only [E76,E7m,Nat.sub_zero] at this;rw [C9p,z11];generalize F8 0 0 0 0 (zI 7)=y at *;exact ⟨_,by simp only [esc,esh,Nat.reduceAdd,Nat.reduceMul,Nat.reduceLT,a1,a2,a3,a4,ef,l11,lf];exact this⟩
 obtain ⟨g',e⟩:=key (h.length+8) (by omega) (ro h) hv.ro;exact C32 e (by simp)
theorem C8O {v:Val} {nv:Nat} {b:List UInt8} {h:B5} (hv:Has h v 1 nv (B4 b)) (hb:b.length=32):A6Q [v] h=A4 (.t [.a (dT b),.c (.b (gU b))],h):=by
 have key:∀ g,Has g v 1 nv (B4 b)->∃ g',A6o 0 [v] g=A4 (.t [.a (dT b),.c (.b (gU b))],g'):=by
  intro g hv;have hI:(F8 (qH b) (sH b) (sJ b) (sI b) (M9 b)).length=11:=by simp [B7,F0]
  have z11:[o0,o0,o0,o0,o0,o0,o0,o0,o0,o0,o0]=F8 0 0 0 0 (zI 7):=rfl;have l11:(F8 0 0 0 0 (zI 7)).length=11:=rfl;have af:=A48;rw [z11] at af;have hg:=D3E (hv.more [rT (F8 0 0 0 0 (zI 7))]) hb;have hm:=λh=>D3F (h:=h) (k:=qH b) (l:=sH b) (s:=sJ b) (p:=sI b) (d:=M9 b) F0
  have hp:=λh=>B82 (h:=h) (k:=qH b) (l:=sH b) (s:=sJ b) (p:=sI b) (d:=M9 b) F0
  have hB:(gZ (qH b) (sH b) (sJ b) (sI b) (M9 b)).length=32:=lM F0;rw [C3t,z11];unfold dT gU;cases c:A1P (qH b) (sH b) (sJ b) (sI b) (M9 b) with
  | false =>
   simp only [c] at hm;generalize F8 0 0 0 0 (zI 7)=y at *;exact ⟨_,by simp only [esc,esh,Nat.reduceAdd,Nat.reduceMul,Nat.reduceLT,hg,hI,l11,hm,af,E7f]<;>rfl⟩
  | true =>
   simp only [c] at hm;have hS:=dZ (h:=g++[rT (F8 0 0 0 0 (zI 7)),rT (F8 (qH b) (sH b) (sJ b) (sI b) (M9 b)),rT (B4 (gZ (qH b) (sH b) (sJ b) (sI b) (M9 b)))]) (v:=sV (g.length+2) 0 32 1) (nv:=32) (u:=v) (nu:=nv) (l:=gZ (qH b) (sH b) (sJ b) (sI b) (M9 b)) (r:=b)
    (Has.tr (by simp) (by rw [A9,hB]) (F9 _)) (hv.more _) (by rw [hB];omega)
   generalize F8 0 0 0 0 (zI 7)=y at *;cases c2:decide (gZ (qH b) (sH b) (sJ b) (sI b) (M9 b)=b) with
   | false =>
    rw [c2] at hS;exact ⟨_,by simp only [esc,esh,Nat.reduceAdd,Nat.reduceMul,Nat.reduceLT,hg,hI,l11,hm,hp,hS,af,E75]<;>rfl⟩
   | true =>
    rw [c2] at hS;exact ⟨_,by simp only [esc,esh,Nat.reduceAdd,Nat.reduceMul,Nat.reduceLT,hg,hI,l11,hm,hp,hS,Bool.and_true]<;>rfl⟩
 obtain ⟨g',e⟩:=key (ro h) hv.ro;exact B7l e (by simp [A0v])
noncomputable section
variable (n m m2:Nat) (a0 a1:Val) (h:B5)
def A59:FD A8:=⟨px 0X1784128961e301ac628967c4001b1541201143b9141224631e2a83d651e7f41e3601617c4061a10321023143b911022,[.c (.b A5)],[],[.tmp 4],[cal B3x]⟩
def B4C:=A59.R
def C9t:=mR B4C A59 (tT []) n [a0,a1] h
def C47:=A59.K Tryz.func175
def B48:=A59.S
theorem C9P:SOk A8 175 B48:=C47.sok
theorem C6i:oP B4C B48:=C47.out
def A58:FD A8:=⟨px 0X11985167a1b1de11a6806686111ac61a201ac4001d11854220135124a1b1de03b3e83542224671e2a83d65287f4283601617c4061b4104241033303b42d9241032,[.c (.b A6),.c (.b A5)],[],[.cellN 4 11,.tmp 5],[cal C9P,cal C31]⟩
def B4B:=A58.R
def C9s:=mR B4B A58 (tT []) n [a0,a1] h
def C46:=A58.K Tryz.func107
def B47:=A58.S
theorem C9O:SOk A8 107 B47:=C46.sok
theorem C34:F6 B4B B47:=C46.flat
end
theorem E2a {b:List UInt8} {j:Nat}:cJ b ((32*j:Nat):Int) 32=dY b j:=by
 unfold cJ dY;rw [if_pos (by omega)];rfl
theorem D3H {x:Val} {n j:Nat} {b:List UInt8} {h:B5} (hv:Has h x 1 n (B4 b)) (hb:b.length=256) (hj:j<8):B48 [x,iV j] h=A4 (sV h.length 0 32 1,h++[rT (B4 (dY b j))]):=by
 have hR:=qB hb hj;have key:∀ g,Has g x 1 n (B4 b)->∃ v g',B4C 0 [x,iV j] g=A4 (v,g')/\Out g.length g' v 1 32 (B4 (dY b j)):=by
  intro g hv;have c1:¬ (j:Int)<0:=by omega
  have c2:¬ (7:Int)<j:=by omega
  have w1:IntKind.wrap .i64 (32*(j:Int))=((32*j:Nat):Int):=by rw [wrap_i64 (by omega) (by omega)];omega
  have hC:=A7M (h:=g++[rT []]) (hv.more _) (a:=((32*j:Nat):Int)) (n:=32) (by omega) (by omega);rw [E2a,hR] at hC;simp only [esc] at hC;rw [C9t];exact ⟨_,_,by simp only [esc,esh,Nat.reduceAdd,Nat.reduceMul,Nat.reduceLT,c1,c2,w1,hC]<;>rfl,by rw [A9,hR],_,rfl,by omega,by simp⟩
 obtain ⟨v,g',e,ho⟩:=key (ro h) hv.ro;exact C6i e (by simpa [F7] using ho) (by simp)
theorem D3G {x:Val} {n j:Nat} {b:List UInt8} {h:B5} (hv:Has h x 1 n (B4 b)) (hb:b.length=256) (hj:j<8):B47 [x,iV j] h=A4 (.t [.a (dT (dY b j)),.c (.b (gU (dY b j)))],h):=by
 have key:∀ g,Has g x 1 n (B4 b)->∃ g',B4B 0 [x,iV j] g=A4 (.t [.a (dT (dY b j)),.c (.b (gU (dY b j)))],g'):=by
  intro g hv;have c1:¬ (j:Int)<0:=by omega
  have c2:¬ (7:Int)<j:=by omega
  have hl:=yB;have xY:=wO (b:=dY b j);rw [C9s,B8r];generalize F8 0 0 0 0 (zI 7)=z at *;have hR:=D3H (h:=g++[rT z]) (hv.more _) hb hj;have hC:=C8O (h:=g++[rT z,rT (B4 (dY b j))]) (v:=sV (g.length+1) 0 32 1) (nv:=32) (b:=dY b j) (Has.tr (by simp) (by rw [A9,qB hb hj]) (F9 _)) (qB hb hj);simp only [esc] at hR;exact ⟨_,by simp only [esc,esh,Nat.reduceAdd,Nat.reduceMul,Nat.reduceLT,c1,c2,hR,hC,hl,xY]<;>rfl⟩
 obtain ⟨g',e⟩:=key (ro h) hv.ro;exact C34 e (by simp [A0v])
noncomputable section
variable (n m m2:Nat) (a0 a1 a2:Val) (h:B5)
def vV:FD A8:=⟨px 0X173121831de2833b39332220133121831de02a3e83322224673a2a861e34e7f64e1cb04e364e1f0284e4f6062bc6a29119394232422318807c231de2a42d913a6802e1f69781a16101ac06881648819801b11a5420420133123e31de02a3e833222241627c61c806131820322023302a22d922022,[.c (.b A6),.c (.b A5)],[.slA 256 1 (.t 12) A7 A7],[.cellN 2 3,.tmp 3],[cal C9K]⟩
def A3t:=vV.R
def B9q:=mR A3t vV (tT []) n [a0] h
def B3d:=vV.K Tryz.func14
def A3T:=vV.S
theorem B99:SOk A8 14 A3T:=B3d.sok
theorem B5f:F6 A3t A3T:=B3d.flat
def A0a:FD A8:=⟨px 0X12381b1de581b4d3926122a8029c21b1de3b1a2d914a6803e4b692983c161a211ac480068861a4881983c003d11c1a622012381b1de03b3e8261224632e2a861e45a7f65a1cb05a37e5a36062bc5a2b1183a18760521876043198018c01887123a6812e6802a28697c1c161a201ac6a04e31d391a1918760523b62d9442ed2642042,[.c (.b A5)],[.slA 256 1 (.t 31) A7 A7],[.cellN 6 11],[cal C30,cal C9O]⟩
def A6r:=A0a.R
def C3x:=mR A6r A0a (tT []) n [a0,a1,a2] h
def B6D:=A0a.K Tryz.func48
def A6W:=A0a.S
theorem oL:SOk A8 48 A6W:=B6D.sok
theorem B7o:F6 A6r A6W:=B6D.flat
def A2d:FD A8:=⟨px 0X1484129627c61a201ac401e3385412341022ed22122,[.c (.b A6)],[],[.tmp 4],[cal A1g]⟩
def A9s:=A2d.R
def C5F:=mR A9s A2d (tT []) n [a0,a1] h
def C1E:=A2d.K Tryz.func176
def B0f:=A2d.S
theorem C6m:SOk A8 176 B0f:=C1E.sok
theorem B98:F6 A9s B0f:=C1E.flat
end
theorem D27 {h:B5} {v:Val} {D:Dev} (hv:Has h v 256 D.length (D5 D)) (hD:okD D) {i:Nat} (hi:i<D.length) :
  ∃ a u,E1 256 v (iV (i:Int))=A4 a/\B0T h 256 1 a A7 A7=A4 u/\Has h u 1 256 (B4 D[i]):=by
 rcases hv with ⟨_,h0,_⟩ | ⟨id,off,r,rfl,hr,h1,h2,h3,h4⟩
 ·omega
 ·have cC:off+i*256+256*1<=r.cells.length:=by omega
  refine ⟨pV id (off+i*256),sV id (off+i*256) 256 1,C9 hi,?_,?_⟩
  ·simp only [B0T,hr,E7h,bound];rw [if_pos ⟨by omega,by omega,cC,C4R h3 h4 (show i*256<D.length*256 by omega) h2⟩];simp
  ·refine Has.part (cs:=r.cells) (rw:=r.rw) hr cC ?_ (F9 _);rw [<-cV hD hi,<-h3,List.drop_take,List.take_take,E7X]
   congr 1
   omega
theorem D93:A4f []=A6:=by decide +kernel
theorem A8Q {v:Val} {D:Dev} {h:B5} (hv:Has h v 256 D.length (D5 D)) (hD:okD D) :
  A3T [v] h=A4 (.t [.a (bif A4f D then D8 D.length (A7p D) (D4O D) else D8 0 0 0),.c (.b (A4f D))],h):=by
 have key:∀ g,Has g v 256 D.length (D5 D)->∃ g',A3t 0 [v] g=A4 (.t [.a (bif A4f D then D8 D.length (A7p D) (D4O D) else D8 0 0 0),.c (.b (A4f D))],g'):=by
  intro g hv;have hl:=hv.len;have ef:E4 [o0,o0,.i .u64 0] []=A4 [o0,o0,.i .u64 0]:=rfl;rw [B9q];cases D with
  | nil =>
   rw [D93];have z0:((([]:Dev).length:Nat):Int)=0:=rfl;exact ⟨_,by simp only [esc,esh,Nat.reduceAdd,Nat.reduceMul,Nat.reduceLT,hl,z0,eq_self,ef,D8]<;>rfl⟩
  | cons b E =>
   have h0:0<(b::E).length:=by simp
   have c0:¬ (((b::E).length:Nat):Int)=0:=by omega
   have hv2:=hv.more [rT [o0,o0,.i .u64 0]];obtain ⟨a,u,a1,s1,hu⟩:=D27 hv2 hD h0;have z0:((0:Nat):Int)=0:=rfl;rw [z0] at a1;have hG:=D3C (h:=g++[rT [o0,o0,.i .u64 0]]) hu (hD.at h0);rw [List.getElem_cons_zero] at hG
   clear hu
   have ed:A4f (b::E)=(okS b&&decide (fieldN b 8 2=(((b::E).length:Nat):Int))):=rfl;have en:A7p (b::E)=fieldN b 10 2:=rfl;have em:D4O (b::E)=fieldN b 12 8:=rfl;rw [ed,en,em];generalize hN:(b::E).length=N at *;cases ho:okS b with
   | false =>
    rw [ho,D7E ho] at hG;unfold D8 at *;exact ⟨_,by simp only [esc,esh,Nat.reduceAdd,Nat.reduceMul,Nat.reduceLT,hl,c0,a1,s1,hG,ef,E7f]<;>rfl⟩
   | true =>
    rw [ho,D3h ho] at hG;by_cases c1:fieldN b 8 2=(N:Int)
    ·unfold D8 at *;rw [c1] at hG ⊢;exact ⟨_,by simp only [esc,esh,Nat.reduceAdd,Nat.reduceMul,Nat.reduceLT,hl,c0,a1,s1,hG,ef,eq_self]<;>rfl⟩
    ·unfold D8 at *;exact ⟨_,by simp only [esc,esh,Nat.reduceAdd,Nat.reduceMul,Nat.reduceLT,hl,c0,a1,s1,hG,ef,c1,E7j]<;>rfl⟩
 obtain ⟨g',e⟩:=key (ro h) hv.ro;refine B5f e ?_;cases A4f D<;>rfl
theorem D9r {D:Dev} {n i:Int} (hi:R6 D.length n i=A5):∃ k:Nat,W3 D.length n i=k/\k<D.length:=by
 have h:=hi;unfold R6 S4 at h;simp only [E69,decide_eq_true_eq] at h;have e:W3 D.length n i=2+(i-1)/8:=by unfold W3;rw [hi];rfl
 refine ⟨(W3 D.length n i).toNat,?_,?_⟩<;>rw [e]<;>omega
theorem sN {v:Val} {D:Dev} {n m i:Int} {h:B5} (hv:Has h v 256 D.length (D5 D)) (hD:okD D):A6W [v,.a (D8 D.length n m),iV i] h=A4 (.a (A14 D n i),h):=by
 have key:∀ g,Has g v 256 D.length (D5 D)->∃ g',A6r 0 [v,.a (D8 D.length n m),iV i] g=A4 (.a (A14 D n i),g'):=by
  intro g hv;have hlen:=hv.len;have l3:(D8 D.length n m).length=3:=rfl;have hW:=λh=>C8N (b:=D.length) (n:=n) (m:=m) (i:=i) (h:=h)
  have hf:=B5G;have hl:=yB;rw [C3x,B8r];cases hi:R6 D.length n i with
  | false =>
   have ei:A14 D n i=F8 0 0 0 0 (zI 7):=by unfold A14;rw [hi];rfl
   rw [ei];simp only [hi] at hW;generalize D8 D.length n m=L at *;generalize F8 0 0 0 0 (zI 7)=z at *;exact ⟨_,by simp only [esc,esh,Nat.reduceAdd,Nat.reduceMul,Nat.reduceLT,l3,hW,hf,hl]<;>rfl⟩
  | true =>
   simp only [hi] at hW;obtain ⟨k,hk,hkl⟩:=D9r hi;have hK:∃ j:Nat,cO D.length n i=j/\j<8:=by
    refine ⟨(cO D.length n i).toNat,?_,?_⟩<;>unfold cO<;>rw [hi,cond_true]<;>omega
   obtain ⟨j,hj,hj8⟩:=hK;have er:dY D[k] j=A89 D n i:=by unfold A89;rw [hj,hk,E7r,C0R hkl]
   have ei:A14 D n i=dT (dY D[k] j):=by unfold A14;rw [hi,er];rfl
   have xY:=wO (b:=dY D[k] j);have hv2:=hv.more [rT (D8 D.length n m),rT (F8 0 0 0 0 (zI 7))];obtain ⟨a,u,a1,s1,hu⟩:=D27 hv2 hD hkl;have hG:=D3G hu (hD.at hkl) hj8;have c1:¬ ((D.length:Nat):Int)<=(k:Int):=by omega
   simp only [hk,hj] at hW;rw [ei];generalize D8 D.length n m=L at *;generalize F8 0 0 0 0 (zI 7)=z at *;generalize dT (dY D[k] j)=y at *;exact ⟨_,by simp only [esc,esh,Nat.reduceAdd,Nat.reduceMul,Nat.reduceLT,l3,hW,hlen,c1,a1,s1,hG,hl,xY]<;>rfl⟩
 obtain ⟨g',e⟩:=key (ro h) hv.ro;exact B7o e (C7L D n i)
theorem B4m {n:Int} {h:B5}:B0d [iV n] h=A4 (bV (vF n),h):=by
 refine B95 (n:=0) (h2:=ro h) ?_ rfl;rw [C5D];unfold vF;by_cases c:0<=n
 ·simp only [esc,c,E7j]
 ·simp only [esc,c,E7f]
theorem E1W {h:B5} {id n m:Nat} {cs:List Cell} (hr:rd h id=rT cs) (hl:cs.length=n) (hn:n+m<=1073741824) :
  B7Q h 1 [.i .u8 0] (sV id 0 n 1) (iV (m:Int))=A4 (sV h.length 0 (n+m) 1,h.set id A7++[rT (cs++B4 (zeros m))]):=by
 have hm:A5P (iV (m:Int))=A4 m:=by simp only [A5P];rw [if_pos (by omega)];simp
 have hz:=nK m;simp only [B7Q,hm,E7h,hr,hz];rw [if_pos ⟨trivial,trivial,by omega,trivial,hn⟩]
theorem D18 {d:Int} {t:List Int} {g:B5} {q:Nat} (ht:t.length=32):∀ (e i m:Nat) (h:B5) (id:Nat),i+e=32->e<m->Low (g++[rT (encI (d::t))]).length (g++[rT (encI (d::t))]) h->(g++[rT (encI (d::t))]).length<=id->rd h id=rT (B4 (zC d++sL (t.take i))) ->
  ∃ j h',C2W q m (pV g.length 0) (sV id 0 (32+2*i) 1) (iV (i:Int)) h=A4 (.t [.c (.sl j 0 (bif (t.drop i).all vF then 256 else 0) 1),.c (.b ((t.drop i).all vF))],h') /\
   Out g.length h' (sV j 0 (bif (t.drop i).all vF then 256 else 0) 1) 1 (bif (t.drop i).all vF then 256 else 0) (B4 (bif (t.drop i).all vF then fU d t else []))
 | e,i,0,h,id,_,hm,_,_,_=>by omega
 | 0,i,m+1,h,id,hi,hm,hlow,hid,hr=>by
  have e0:i=32:=by omega
  subst e0;have c0:¬ ((32:Nat):Int)<32:=by omega
  have mk:A13 (iV 256) (iV 256)=A4 256:=rfl;have rz:=nK 256;have zl:(zeros 256).length=256:=zeros_length;rw [E7i (by omega)] at hr;have hnl:(zC d++sL t).length=96:=by rw [E7a,pX,pZ];omega
  have hL:=nJ (h:=h++[rT (B4 (zeros 256))]) (v:=sV h.length 0 256 1) (nv:=256) (l:=zeros 256) (u:=sV id 0 (32+2*32) 1) (nu:=32+2*32) (data:=zC d++sL t) (Has.tr (by simp) (by rw [A9];exact zeros_length) (F9 _)) (Has.tr (C5 hr) (by rw [A9,hnl]) (F9 _)) (a:=0) (by omega) (by omega);have eL:A87 (zeros 256) 0 (zC d++sL t)=fU d t:=by
   have h1:=A0R (l:=zeros 256) (xs:=zC d++sL t) (a:=0) (by omega);have h2:=B1W (l:=[]) (xs:=zC d++sL t) (a:=0) (by simp) (by omega);rw [show ((0:Nat):Int)=0 from rfl] at h1;rw [h1,<-B8R,h2,E7v,E7R,show zeros 0=[] from rfl,E7w,E7m];rfl
  rw [eL,zl] at hL;have O9:=lJ (d:=d) ht;rw [B1q,E7k (by omega),List.all_nil];simp only [cond_true];rw [E7a] at hid;have hll:=hlow.2.1;rw [E7a] at hll;simp only [E7g,E7v] at hll hid;refine ⟨h.length+1,h++[rT (B4 (zeros 256)),rT (B4 (fU d t))],?_,by rw [A9,O9],_,rfl,by omega,by simp⟩;generalize fU d t=P at *;generalize zeros 256=z at *;simp only [esc] at hL;simp only [esc,esh,Nat.reduceAdd,Nat.reduceMul,Nat.reduceLT,c0,mk,rz,hL]
 | e+1,i,m+1,h,id,hi,hm,hlow,hid,hr=>by
  have c0:(i:Int)<32:=by omega
  have hrd:rd h g.length=rT (encI (d::t)):=hlow.rd (by simp);have a1:=adX (id:=g.length) (i:=i) (by omega);have l1:=ldX (h:=h) (id:=g.length) hrd ht (i:=i) (by omega);have et:toX t i=t[i]:=by unfold toX;rw [E7e,E66 (by omega)];rfl
  rw [et] at l1;have hF:=λh=>B4m (n:=t[i]) (h:=h)
  rw [B1q,E7d (by omega:i<t.length),E7P];have hll:=hlow.2.1;rw [E7a] at hll;simp only [E7g,E7v] at hll;cases c:vF t[i] with
  | false =>
   rw [c] at hF;rw [E7f];simp only [cond_false];refine ⟨h.length,h++[rT []],?_,rfl,_,rfl,by omega,by simp [B4]⟩;generalize encI (d::t)=y at *;simp only [esc,c0,a1,l1,hF]
  | true =>
   rw [c] at hF;rw [E7j];have hnl:(zC d++sL (t.take i)).length=32+2*i:=by rw [E7a,pX,pZ,E7A];omega
   have hb:=λh=>dP (w:=2) (v:=t[i]) (h:=h) (by omega)
   simp only [E7F] at hb;obtain ⟨h1',b1,b2,b3,b4,b5⟩:=D7P (ys:=B4 (B9 2 t[i])) (m:=2) (sz:=1) (n:=32+2*i) hlow hr (by rw [A9,hnl];omega) hid (by simp [A9]) (by omega) (by omega);rw [<-M6,E7c,<-D1T,<-E7n (by omega)] at b2;obtain ⟨j,h',f1,f2⟩:=D18 (q:=q) ht e (i+1) m h1' (h.length+1) (by omega) (by omega) b3 b4 b2;rw [show 32+2*(i+1)=32+2*i+2 by omega] at f1;refine ⟨j,h',?_,f2⟩;generalize encI (d::t)=y at *;simp only [esc,c0,a1,l1,hF,hb,b1,D3 (show i+1<9223372036854775808 by omega)];exact f1
theorem B83 {d:Int} {t:List Int} {h:B5} (ht:t.length=32):B5d [.a (encI (d::t))] h=A4 (.t [.c (.sl h.length 0 (bif okX d t then 256 else 0) 1),.c (.b (okX d t))],h++[rT (B4 (bif okX d t then fU d t else []))]):=by
 have key:∀ N,32<N->∀ g,∃ j g',B4G N [.a (encI (d::t))] g=A4 (.t [.c (.sl j 0 (bif okX d t then 256 else 0) 1),.c (.b (okX d t))],g')/\Out g.length g' (sV j 0 (bif okX d t then 256 else 0) 1) 1 (bif okX d t then 256 else 0) (B4 (bif okX d t then fU d t else [])):=by
  intro N hN g;have l0:(encI (d::t))[0]?=A4 (.i .i64 d):=rfl;rw [C9y];unfold okX;by_cases c1:d<0
  ·rw [decide_eq_false (show ¬ 0<=d by omega),E7f];simp only [cond_false];refine ⟨g.length+2,g++[rT (encI (d::t)),rT [],rT []],?_,rfl,_,rfl,by omega,by simp [B4]⟩;generalize encI (d::t)=y at *;simp only [esc,esh,Nat.reduceAdd,Nat.reduceMul,Nat.reduceLT,l0,c1]
  ·rw [decide_eq_true (show 0<=d by omega),E7j];by_cases c2:5<d
   ·rw [decide_eq_false (show ¬ d<=5 by omega),E7f];simp only [cond_false];refine ⟨g.length+2,g++[rT (encI (d::t)),rT [],rT []],?_,rfl,_,rfl,by omega,by simp [B4]⟩;generalize encI (d::t)=y at *;simp only [esc,esh,Nat.reduceAdd,Nat.reduceMul,Nat.reduceLT,l0,c1,c2]
   ·rw [decide_eq_true (show d<=5 by omega),E7j];have ef:E4 [Cell.i .u8 0,.i .u8 0,.i .u8 0,.i .u8 0] [(0,1,.c (.i .u8 105)),(1,1,.c (.i .u8 100)),(2,1,.c (.i .u8 120)),(3,1,.c (.i .u8 33))]=A4 (B4 magX):=rfl;have b0:IntKind.wrap .u8 d=((byI d 0).toNat:Int):=by rw [qD,A0p];simp
    have ef1:E4 [Cell.i .u8 0] [(0,1,.c (.i .u8 ((byI d 0).toNat:Int)))]=A4 (B4 (B9 1 d)):=rfl;have hM:zN (g++[rT (encI (d::t)),rT [],rT (B4 magX)]) (sV (g.length+2) 0 4 1)=A4 (sV (g.length+2) 0 4 1):=by simp [zN]
    have hA:=kN (h:=g++[rT (encI (d::t)),rT [],rT (B4 magX),rT (B4 (B9 1 d))]) (id:=g.length+2) (jd:=g.length+3) (n:=4) (m:=1) (sz:=1) (cs:=B4 magX) (ys:=B4 (B9 1 d)) (rw:=A5) (by simp) rfl (by simp) (by simp [A9]) rfl (by omega) (by omega);simp only [E7a,E7g,E7v,E7t,E7c,E7E,E7m,pA,E7U,E7T,Nat.reduceAdd,<-M6] at hA;have hZ:=E1W (h:=g++[rT (encI (d::t)),rT [],A7,rT (B4 (B9 1 d)),rT (B4 (magX++B9 1 d))]) (id:=g.length+4) (n:=5) (m:=27) (cs:=B4 (magX++B9 1 d)) (by simp) (by rw [A9];simp [magX]) (by omega);simp only [E7a,E7g,E7v,E7t,E7c,E7E,E7m,pA,E7U,E7T,Nat.reduceAdd,<-M6] at hZ;rw [show ((27:Nat):Int)=27 from rfl] at hZ;obtain ⟨j,g',f1,f2⟩:=D18 (g:=g) (d:=d) (t:=t) (q:=N) ht 32 0 N (g++[rT (encI (d::t)),rT [],A7,rT (B4 (B9 1 d)),A7,rT (B4 (magX++(B9 1 d++zeros 27)))]) (g.length+5) (by omega) hN
     (by have:=(Low.refl (h:=g++[rT (encI (d::t))]) (E7b _)).new [rT [],A7,rT (B4 (B9 1 d)),A7,rT (B4 (magX++(B9 1 d++zeros 27)))];simpa using this) (by simp) (by simp [zC,sL])
    rw [E7p] at f1 f2;refine ⟨j,g',?_,f2⟩;generalize magX++(B9 1 d++zeros 27)=P3 at *;generalize magX++B9 1 d=P2 at *;generalize B4 (B9 1 d)=P1 at *;generalize B4 magX=mg at *;generalize encI (d::t)=y at *;simp only [esc,esh,Nat.reduceAdd,Nat.reduceMul,Nat.reduceLT,l0,c1,c2,ef,hM,b0,ef1,hA,hZ];exact f1
 obtain ⟨j,g',e,ho⟩:=key (h.length+33) (by omega) (ro h);exact C4c e (by simpa [F7] using ho) (by simp) rfl
theorem D7T {d:Int} {t:List Int} {ix iz q:Nat} {h:B5} (ht:t.length=32) (hx:rd h ix=rT (encI (d::t))) (hz:rd h iz=rT (encI (0::zI 32))):∀ e i m:Nat,i+e=32->e<m ->
  ∃ h',C2U q m (pV iz 0) (pV ix 0) (iV (i:Int)) h=A4 (.t [.a (encI (bif A1R t i e then d::t else 0::zI 32)),.c (.b (A1R t i e))],h')
 | e,i,0,_,hm=>by omega
 | 0,i,m+1,hi,hm=>by
  have e0:i=32:=by omega
  subst e0;have c0:¬ ((32:Nat):Int)<32:=by omega
  have hX:=E3 (d:=d) ht;have hZ:(encI (0::zI 32)).length=33:=E3 (d:=0) I8;have s1:=C7 (h:=h) (id:=ix) hx hX;have s2:=storeAll (h:=h) (id:=iz) (xs:=encI (d::t)) hz hZ hX;have s3:=C7 (h:=h.set iz (rT (encI (d::t)))) (id:=iz) (C6 (C8 hz)) hX;have er:A1R t 32 0=A5:=rfl;rw [B1o,er,cond_true];generalize encI (d::t)=y at *;exact ⟨_,by simp only [esc,c0,s1,s2,s3]<;>rfl⟩
 | e+1,i,m+1,hi,hm=>by
  obtain ⟨h',ih⟩:=D7T (q:=q) ht hx hz e (i+1) m (by omega) (by omega);have c0:(i:Int)<32:=by omega
  have hZ:(encI (0::zI 32)).length=33:=E3 (d:=0) I8;have a1:=adX (id:=ix) (i:=i) (by omega);have l1:=ldX (h:=h) (id:=ix) hx ht (i:=i) (by omega);have haf:E4 (encI (0::zI 32)) []=A4 (encI (0::zI 32)):=rfl;have s2:=storeAll (h:=h) (id:=iz) (xs:=encI (0::zI 32)) hz hZ hZ;have s3:=C7 (h:=h.set iz (rT (encI (0::zI 32)))) (id:=iz) (C6 (C8 hz)) hZ;have er:A1R t i (e+1)=(decide (toX t i=0)&&A1R t (i+1) e):=by unfold A1R;rw [List.range'_succ,E7P]
  rw [B1o,er,B2e];by_cases c:toX t i=0
  ·rw [decide_eq_true c,E7j];rw [c] at l1;generalize encI (0::zI 32)=z at *;exact ⟨h',by simp only [esc,c0,a1,l1,D3 (show i+1<9223372036854775808 by omega)];exact ih⟩
  ·rw [decide_eq_false c,E7f,cond_false];generalize encI (0::zI 32)=z at *;exact ⟨_,by simp only [esc,c0,a1,l1,c,haf,s2,s3]<;>rfl⟩
theorem D8U {d:Int} {t:List Int} (h:okX d t=A5):0<=d/\d<=5:=by
 unfold okX at h;simp only [E69,decide_eq_true_eq] at h;exact ⟨h.1,h.2.1⟩
theorem D7S {v:Val} {nv:Nat} {b:List UInt8} {g:B5} {q:Nat} (hb:b.length=256) (hv:Has g v 1 nv (B4 b)) (hq:32<q):∀ e i m:Nat,i+e=32->e<m ->
  ∃ h',C2T q m v (pV g.length 0) (pV (g.length+1) 0) (iV (i:Int)) (g++[rT (encI (0::zI 32)),rT (encI (getD b::N7 b i))]) =
   A4 (.t [.a (encI (bif U8 b then getD b::N7 b 32 else 0::zI 32)),.c (.b (U8 b))],h')
 | e,i,0,_,hm=>by omega
 | 0,i,m+1,hi,hm=>by
  have e0:i=32:=by omega
  subst e0;have c0:¬ ((32:Nat):Int)<32:=by omega
  have ht:=lD (b:=b) (n:=32) (E7b _);have hX:=E3 (d:=getD b) ht;have hZ:(encI (0::zI 32)).length=33:=E3 (d:=0) I8;have hP:=B83 (d:=getD b) (t:=N7 b 32) (h:=g++[rT (encI (0::zI 32)),rT (encI (getD b::N7 b 32))]) ht;simp only [E7a,E7g,E7v,E7t,E7c,E7E,E7m] at hP;have haf:E4 (encI (0::zI 32)) []=A4 (encI (0::zI 32)):=rfl;have C7W:=O6 (getD b);unfold U8;rw [B1n,B2e];cases co:okX (getD b) (N7 b 32) with
  | false =>
   rw [co] at hP;simp only [cond_false] at hP;rw [E7f,cond_false];generalize encI (0::zI 32)=z at *;generalize encI (getD b::N7 b 32)=y at *;exact ⟨_,by simp only [esc,esh,Nat.reduceAdd,Nat.reduceMul,Nat.reduceLT,c0,hX,hP,haf,hZ]<;>rfl⟩
  | true =>
   rw [co] at hP;simp only [cond_true] at hP;rw [E7j];have O9:=lJ (d:=getD b) ht;have l0:(encI (getD b::N7 b 32))[0]?=A4 (.i .i64 (getD b)):=rfl;have hS:=dZ (l:=fU (getD b) (N7 b 32)) (r:=b) (h:=g++[rT (encI (0::zI 32)),rT (encI (getD b::N7 b 32)),rT (B4 (fU (getD b) (N7 b 32)))]) (v:=sV (g.length+2) 0 256 1) (u:=v) (nv:=256) (nu:=nv) (Has.row (rw:=A5) (by simp) (by rw [A9,O9]) (F9 _)) (hv.more _) (by omega);by_cases ce:fU (getD b) (N7 b 32)=b
   ·rw [decide_eq_true ce,E7j];rw [decide_eq_true ce] at hS;have hd:=D8U co;have hPw:=λh=>A7N (k:=W1 (getD b)) (h:=h) (by have:=sC (getD b);omega)
    rw [B2s hd.1 hd.2] at hPw;rw [show 2 ^ W1 (getD b)=D1 (getD b) from rfl] at hPw;obtain ⟨h',e⟩:=D7T (d:=getD b) (t:=N7 b 32) (ix:=g.length+1) (iz:=g.length) (q:=q) (h:=g++[rT (encI (0::zI 32)),rT (encI (getD b::N7 b 32)),rT (B4 (fU (getD b) (N7 b 32)))]) ht (by simp) (by simp) (32-D1 (getD b)) (D1 (getD b)) q (by omega) (by omega);refine ⟨h',?_⟩;generalize A1R (N7 b 32) (D1 (getD b)) (32-D1 (getD b))=R at *;generalize encI (getD b::N7 b 32)=Y at *;generalize fU (getD b) (N7 b 32)=I at *;generalize encI (0::zI 32)=z at *;simp only [esc,esh,Nat.reduceAdd,Nat.reduceMul,Nat.reduceLT,c0,hX,hP,hS,l0,hPw];exact e
   ·rw [decide_eq_false ce,E7f,cond_false];rw [decide_eq_false ce] at hS;generalize fU (getD b) (N7 b 32)=I at *;generalize encI (0::zI 32)=z at *;generalize encI (getD b::N7 b 32)=y at *;exact ⟨_,by simp only [esc,esh,Nat.reduceAdd,Nat.reduceMul,Nat.reduceLT,c0,hX,hP,hS,haf,hZ]<;>rfl⟩
 | e+1,i,m+1,hi,hm=>by
  obtain ⟨h',ih⟩:=D7S (q:=q) hb hv hq e (i+1) m (by omega) (by omega);have c0:(i:Int)<32:=by omega
  have ht:=lD (b:=b) (n:=i) (by omega);have hX:=E3 (d:=getD b) ht;have hA:=λl=>qC (hv.more l) hb (a:=((32+2*i:Nat):Int)) (w:=2)
  have ea:=D2S (b:=b) (a:=32+2*i) (w:=2) (by omega) (by omega) (by omega);rw [show ((2:Nat):Int)=2 from rfl] at ea;rw [ea] at hA;have w1:IntKind.wrap .i64 (2*(i:Int))=((2*i:Nat):Int):=by rw [wrap_i64 (by omega) (by omega)];omega
  have w2:IntKind.wrap .i64 (32+((2*i:Nat):Int))=((32+2*i:Nat):Int):=by rw [wrap_i64 (by omega) (by omega)];omega
  have a1:=adX (id:=g.length+1) (i:=i) (by omega);have hs:(encI (getD b::N7 b i)).set (1+i) (.i .i64 (fieldN b (32+2*i) 2))=encI (getD b::N7 b (i+1)):=by rw [B73,D1G (by omega)];rfl
  have V5:1+i<(encI (getD b::N7 b i)).length:=by rw [hX];omega
  rw [B1n];generalize U8 b=G at *;generalize getD b::N7 b 32=Y at *;generalize encI (getD b::N7 b (i+1))=y1 at *;generalize encI (getD b::N7 b i)=y at *;generalize encI (0::zI 32)=z at *;refine ⟨h',?_⟩;simp only [esc,esh,Nat.reduceAdd,Nat.reduceMul,Nat.reduceLT,c0,w1,w2,hA,a1,V5,hs,D3 (show i+1<9223372036854775808 by omega)];exact ih
theorem D3K {v:Val} {nv:Nat} {b:List UInt8} {h:B5} (hb:b.length=256) (hv:Has h v 1 nv (B4 b)):B5c [v] h=A4 (.t [.a (encI (bif U8 b then getD b::N7 b 32 else 0::zI 32)),.c (.b (U8 b))],h):=by
 have key:∀ N,32<N->∀ g,Has g v 1 nv (B4 b)->∃ g',B4F N [v] g=A4 (.t [.a (encI (bif U8 b then getD b::N7 b 32 else 0::zI 32)),.c (.b (U8 b))],g'):=by
  intro N hN g hv;have hZ:(encI (0::zI 32)).length=33:=E3 (d:=0) I8;have hA:=λl=>qC (hv.more l) hb (a:=4) (w:=1)
  have ea:=D2S (b:=b) (a:=4) (w:=1) (by omega) (by omega) (by omega);rw [show ((4:Nat):Int)=4 from rfl,show ((1:Nat):Int)=1 from rfl] at ea;rw [ea] at hA;have ef:E4 (encI (0::zI 32)) [(0,1,iV (fieldN b 4 1))]=A4 (encI (getD b::N7 b 0)):=by
   have e1:(0+1<=(encI (0::zI 32)).length):=by rw [hZ];omega
   simp only [E4,cells?];rw [if_pos ⟨rfl,e1⟩];rfl
  have hX:=E3 (d:=getD b) (lD (b:=b) (n:=0) (by omega));obtain ⟨h',e⟩:=D7S (g:=g) (q:=N) hb hv hN 32 0 N (by omega) hN;rw [C9w,B2e];generalize U8 b=G at *;generalize getD b::N7 b 32=Y at *;generalize encI (getD b::N7 b 0)=y at *;generalize encI (0::zI 32)=z at *;exact ⟨h',by simp only [esc,esh,Nat.reduceAdd,Nat.reduceMul,Nat.reduceLT,hZ,hA,ef,hX];exact e⟩
 obtain ⟨g',e⟩:=key (h.length+33) (by omega) (ro h) hv.ro;refine C4a e ?_;cases U8 b<;>simp
theorem E0I:∀ {l m:List UInt8},l.length=m.length->le l=le m->l=m
 | [],[],_,_=>rfl
 | [],_::_,h,_=>by simp at h
 | _::_,[],h,_=>by simp at h
 | x::r,y::s,h,e=>by
  have h1:=x.toNat_lt;have h2:=y.toNat_lt;simp only [le] at e;have e1:x.toNat=y.toNat:=by omega
  have e2:le r=le s:=by omega
  rw [UInt8.toNat_inj.1 e1,E0I (by simpa using h) e2]
theorem D9R {b:List UInt8} {i:Nat} (hb:b.length=256) (hi:i<128):B9 2 (ptP b i)=(b.drop (2*i)).take 2:=by
 have hr:=D83 b i;refine E0I (by simp;omega) ?_;have h1:=D1N 2 (ptP b i);have h2:ptP b i%256 ^ 2=ptP b i:=Int.emod_eq_of_lt hr.1 (by omega);rw [h2] at h1;have h3:ptP b i=((le ((b.drop (2*i)).take 2):Nat):Int):=rfl;omega
def bE (b:List UInt8):Nat->List Int
 | 0=>[]
 | i+1=>bE b i++[ptP b i]
theorem sG {b:List UInt8}:∀ i,(bE b i).length=i
 | 0=>rfl
 | i+1=>by rw [bE,E7a,sG i];rfl
theorem C2X {b:List UInt8} (hb:b.length=256):∀ i,i<=128->nR (bE b i)=b.take (2*i)
 | 0,_=>by simp [bE,nR]
 | i+1,h=>by
  rw [bE,C8u,C2X hb i (by omega),D9R hb (by omega),show 2*(i+1)=2*i+2 by omega,List.take_add]
theorem D8x {b:List UInt8} (hb:b.length=256):O7 256 (nR (bE b 128))=b:=by
 rw [C2X hb 128 (by omega),E7i (by omega)];unfold O7;rw [hb,E7R,show zeros 0=[] from rfl,E7w]
theorem B2w {b:List UInt8}:∀ n,bE b n=(E7C n).map (ptP b)
 | 0=>rfl
 | n+1=>by rw [bE,B2w n,List.range_succ,E71];rfl
theorem C8b {l xs:List UInt8} {a c n:Nat} (h:a+xs.length<=l.length) (hd:c+n<=a\/a+xs.length<=c):((J1 l a xs).drop c).take n=(l.drop c).take n:=by
 apply List.ext_getElem?;intro j;by_cases hj:j<n
 ·rw [E7G hj,E7G hj,E7W,E7W,E0F h,if_neg (by omega)]
 ·rw [E7L (by simp;omega),E7L (by simp;omega)]
theorem E1I {b:List UInt8} {n:Nat} {v:Int} (hn:n<128):iQ b ((2*n:Nat):Int) 2 v=J1 b (2*n) (B9 2 v):=by
 unfold iQ;rw [if_pos ⟨by omega,O0.2 (by omega)⟩,E7r];rfl
theorem C4P {b:List UInt8} {n i:Nat} {v:Int} (hb:b.length=256) (hn:n<128) (hi:i<128):ptP (J1 b (2*n) (B9 2 v)) i=if i=n then v%65536 else ptP b i:=by
 unfold ptP fieldN;by_cases c:i=n
 ·subst c;rw [if_pos rfl];have:=E0E (l:=b) (xs:=B9 2 v) (a:=2*i) (by simp;omega);rw [Q5] at this;rw [this,D1N];rfl
 ·rw [if_neg c,C8b (by simp;omega) (by simp;omega)]
noncomputable section
variable (n m m2:Nat) (a0 x0 x3 x4:Val) (h:B5)
def eU:FD A8:=⟨px 0X1188216e281221248415607c1e713187c3163a13cc61011113fc1961e301ac61967c3e0003a19118181543033070241889617c60264304243033430306051014303231313b813022123b91012,[],[],[.tmp 2],[cal rC]⟩
def A04:=eU.R
def A8t:AtH:=eU.lj 0 n [m] [x0,x3,x4]
def B0J:=tT [⟨2,3,A8t⟩]
def B6X:=mR A04 eU B0J n [a0] h
def A1G:=mL eU B0J 0 n [m] [x0,x3,x4] h
def A9c:=eU.K Tryz.func110
def A1i:=eU.S
theorem B7n:SOk A8 110 A1i:=A9c.sok
theorem B5e:oP A04 A1i:=A9c.out
def mQ:FD A8:=⟨px 0X11ac21611a311ac1c028892889172b5bd421258415607c2e1913181983163e13cc619201ac64c861c61a11984e0004a1b1191815430330702461e17c61c800604184304243033430306051014303231313b813022123b91012,[],[],[.tmp 2],[cal iH,cal iX]⟩
def A6q:=mQ.R
def B3X:AtH:=mQ.lj 0 n [m] [x0,x3,x4]
def B7M:=tT [⟨2,3,B3X⟩]
def C3w:=mR A6q mQ B7M n [a0] h
def A5w:=mL mQ B7M 0 n [m] [x0,x3,x4] h
def B6C:=mQ.K Tryz.func113
def A6V:=mQ.S
theorem C4d:SOk A8 113 A6V:=B6C.sok
theorem B97:oP A6q A6V:=B6C.out
end
theorem qD {a:Int}:IntKind.wrap .u8 a=a%256:=by
 simp only [IntKind.wrap,IntKind.bits,IntKind.signed,E7f];rfl
theorem C69 {v:Val} {nv:Nat} {l:List Int} {g:B5} {q:Nat} (hv:Has g v 1 nv (encI l)) (hn:l.length=nv) (hl:nv<=128):∀ (e i m:Nat) (h:B5) (id:Nat),i+e=nv->e<m->Low g.length g h->g.length<=id->rd h id=rT (B4 (nR (l.take i))) ->
  ∃ w h',B3X q m v (sV id 0 (2*i) 1) (iV i) h=A4 (w,h')/\Out g.length h' w 1 256 (B4 (O7 256 (nR l)))
 | e,i,0,h,id,_,hm,_,_,_=>by omega
 | 0,i,m+1,h,id,hi,hm,hlow,hid,hr=>by
  have e0:i=nv:=by omega
  subst e0;have c0:¬ (i:Int)<i:=by omega
  have hlen:=hv.len;have mk:A13 (iV 256) (iV 256)=A4 256:=rfl;have rz:=nK 256;have zl:(zeros 256).length=256:=zeros_length;rw [E7i (by omega)] at hr;have hnl:(nR l).length=2*i:=by rw [B8O];omega
  have hL:=nJ (h:=h++[rT (B4 (zeros 256))]) (v:=sV h.length 0 256 1) (nv:=256) (l:=zeros 256) (u:=sV id 0 (2*i) 1) (nu:=2*i) (data:=nR l) (Has.tr (by simp) (by rw [A9];exact zeros_length) (F9 _)) (Has.tr (C5 hr) (by rw [A9,hnl];omega) (F9 _)) (a:=0) (by omega) (by omega);have eL:A87 (zeros 256) 0 (nR l)=O7 256 (nR l):=by
   have h1:=A0R (l:=zeros 256) (xs:=nR l) (a:=0) (by omega);have h2:=B1W (l:=[]) (xs:=nR l) (a:=0) (by simp) (by omega);rw [show ((0:Nat):Int)=0 from rfl] at h1;rw [h1,<-B8R,h2,E7v,E7R,show zeros 0=[] from rfl,E7w,E7m]
  rw [eL,zl] at hL;have hp:(B4 (O7 256 (nR l))).length=256:=by rw [A9,I1 (by omega)]
  rw [A5w];generalize O7 256 (nR l)=P at *;generalize zeros 256=z at *;simp only [esc] at hL;exact ⟨_,_,by simp only [esc,esh,Nat.reduceAdd,Nat.reduceMul,Nat.reduceLT,hlen,c0,mk,rz,hL]<;>rfl,by omega,_,rfl,by have:=hlow.2.1;omega,by simp⟩
 | e+1,i,m+1,h,id,hi,hm,hlow,hid,hr=>by
  obtain ⟨jd,off,ev,hjd,h1,h2⟩:=(hv.since hlow).sl (by omega);have hlen:=hv.len;have c0:(i:Int)<nv:=by omega
  have hx:=h1 i (.i .i64 l[i]) (by rw [G8,E66 (by omega)];rfl);have eb:E1 1 v (iV (i:Int))=A4 (pV jd (off+i)):=by rw [ev,C9 (by omega)];simp
  have hb:=λh=>dP (w:=2) (v:=l[i]) (h:=h) (by omega)
  have hnl:(nR (l.take i)).length=2*i:=by rw [B8O,E7A];omega
  obtain ⟨h1',a1,a2,a3,a4,a5⟩:=D7P (ys:=B4 (B9 2 l[i])) (m:=2) (sz:=1) (n:=2*i) hlow hr (by rw [A9,hnl];omega) hid (by simp [A9]) (by omega) (by omega);rw [<-M6,<-C8u,<-E7n (by omega)] at a2;obtain ⟨w,h',f1,f2⟩:=C69 (q:=q) hv hn hl e (i+1) m h1' (h.length+1) (by omega) (by omega) a3 a4 a2;rw [show 2*(i+1)=2*i+2 by omega] at f1;simp only [E7F] at hb;rw [A5w];refine ⟨w,h',?_,f2⟩;simp only [esc,hlen,c0,eb,hx,hb,a1,D3 (show i+1<9223372036854775808 by omega)];exact f1
theorem C8Q {v:Val} {nv:Nat} {l:List Int} {h:B5} (hv:Has h v 1 nv (encI l)) (hl:nv<=128):A6V [v] h=A4 (sV h.length 0 256 1,h++[rT (B4 (O7 256 (nR l)))]):=by
 have hn:l.length=nv:=by simpa [B7] using hv.length
 have key:∀ N,nv<N->∀ g,Has g v 1 nv (encI l)->∃ w g',A6q N [v] g=A4 (w,g')/\Out g.length g' w 1 256 (B4 (O7 256 (nR l))):=by
  intro N hN g hv;obtain ⟨w,g',f1,f2⟩:=C69 (g:=g) (q:=N) hv hn hl nv 0 N (g++[rT [],rT []]) (g.length+1) (by omega) (by omega) ((Low.refl (E7b _)).new _) (by omega) (by simp [nR,B4]);rw [C3w];exact ⟨w,g',by simp only [esc,esh,Nat.reduceAdd,Nat.reduceMul,Nat.reduceLT];exact f1,f2⟩
 obtain ⟨w,g',e,ho⟩:=key (nv+1) (by omega) (ro h) hv.ro;exact B97 e (by simpa [F7] using ho) (by simp)
theorem B4k {v:Val} {nv:Nat} {b:List UInt8} {g:B5} {q:Nat} (hv:Has g v 1 nv (B4 b)) (hb:b.length=256):∀ (e i m:Nat) (h:B5) (id:Nat),i+e=128->e<m->Low g.length g h->g.length<=id->rd h id=rT (encI (bE b i)) ->
  ∃ v2 h',A8t q m v (sV id 0 i 1) (iV (i:Int)) h=A4 (v2,h')/\Out g.length h' v2 1 128 (encI (bE b 128))
 | e,i,0,h,id,_,hm,_,_,_=>by omega
 | 0,i,m+1,h,id,hi,hm,hlow,hid,hr=>by
  have e0:i=128:=by omega
  subst e0;have c0:¬ ((128:Nat):Int)<128:=by omega
  rw [A1G];exact ⟨_,_,by simp only [esc,c0]<;>rfl,by rw [B7,sG],_,rfl,hid,hr⟩
 | e+1,i,m+1,h,id,hi,hm,hlow,hid,hr=>by
  have c0:(i:Int)<128:=by omega
  have hA:=qC (hv.since hlow) (a:=((2*i:Nat):Int)) (w:=2) hb;rw [E3g hb (by omega)] at hA;obtain ⟨h1,a1,a2,a3,a4,a5⟩:=push (ys:=[.i .i64 (ptP b i)]) (sz:=1) (n:=i) hlow hr (by rw [B7,sG];omega) hid rfl (by omega) (by omega);have he:encI (bE b i)++[.i .i64 (ptP b i)]=encI (bE b (i+1)):=by rw [bE];simp [encI]
  rw [he] at a2;obtain ⟨v2,h',f1,f2⟩:=B4k (q:=q) hv hb e (i+1) m h1 (h.length+1) (by omega) (by omega) a3 a4 a2;have ef:E4 [o0] [(0,1,iV (ptP b i))]=A4 [.i .i64 (ptP b i)]:=rfl;rw [A1G];refine ⟨v2,h',?_,f2⟩;simp only [esc,c0,D69 (show i<128 by omega),hA,ef,a1,D3 (show i+1<9223372036854775808 by omega)];exact f1
theorem C1i {v:Val} {nv:Nat} {b:List UInt8} {h:B5} (hv:Has h v 1 nv (B4 b)) (hb:b.length=256):A1i [v] h=A4 (sV h.length 0 128 1,h++[rT (encI (bE b 128))]):=by
 have key:∀ N,128<N->∀ g,Has g v 1 nv (B4 b)->∃ v2 g',A04 N [v] g=A4 (v2,g')/\Out g.length g' v2 1 128 (encI (bE b 128)):=by
  intro N hN g hv;obtain ⟨v2,g',f1,f2⟩:=B4k (q:=N) hv hb 128 0 N ((g++[rT []])++[rT []]) (g.length+1) (by omega) hN (((Low.refl (E7b _)).new _).new _) (by omega) (by simp [bE,encI]);rw [B6X];refine ⟨v2,g',?_,f2⟩;simpa using f1
 obtain ⟨v2,g',e,ho⟩:=key (h.length+129) (by omega) (ro h) hv.ro;exact B5e e (by simpa [F7] using ho) (by simp)
noncomputable section
variable (n m m2:Nat) (a0 a1:Val) (h:B5)
def A0b:FD A8:=⟨px 0X118c41068861a4881984001e15412016c4128892889175bc241224632e2a861e41e7f61e1cb01e341e3601617c40181c10321023143b911022,[.c (.b A5)],[.slA 256 1 (.t 16) A7 A7],[.tmp 4],[]⟩
def A0i:=A0b.R
def A77:=mR A0i A0b (tT []) n [a0,a1] h
def A6e:=A0b.K Tryz.func111
def rD:=A0b.S
theorem oM:SOk A8 111 rD:=A6e.sok
theorem C0a:E3y A0i rD:=A6e.low
theorem C0b:oP A0i rD:=A6e.out
end
theorem D4o {b n i:Int}:decide (tK b n i=4)=jF b n i:=by
 unfold jF tK kY sW A1W;cases c:S4 b n with
 | false =>
  rw [if_neg (by simp),E7f,E7f];rfl
 | true =>
  have h:=c;unfold S4 at h;simp only [E69,decide_eq_true_eq] at h;simp only [cond_true,E7j,true_and];by_cases c1:2+n/8<=i
  ·by_cases c2:i<b
   ·rw [if_pos (by omega),if_neg (by omega),if_neg (by omega),decide_eq_true c1,decide_eq_true c2];rfl
   ·rw [if_neg (by omega),decide_eq_true c1,decide_eq_false c2];rfl
  ·rw [decide_eq_false c1,E7f];split
   ·split
    ·exact decide_eq_false (by omega)
    ·rw [if_pos (by omega)];rfl
   ·rfl
theorem D0D {b n m i:Int} {h:B5}:B0f [.a (D8 b n m),iV i] h=A4 (bV (jF b n i),h):=by
 have key:∀ g,∃ g',A9s 0 [.a (D8 b n m),iV i] g=A4 (bV (jF b n i),g'):=by
  intro g;have l3:(D8 b n m).length=3:=rfl;have hA:=λh=>A4B (b:=b) (n:=n) (m:=m) (no:=i) (h:=h)
  rw [C5F,<-D4o];generalize D8 b n m=L at *;exact ⟨_,by simp only [esc,esh,Nat.reduceAdd,Nat.reduceMul,Nat.reduceLT,l3,hA]<;>rfl⟩
 obtain ⟨g',e⟩:=key (ro h);exact B98 e rfl
theorem C8R {h:B5} {v:Val} {D:Dev} (hv:Has h v 256 D.length (D5 D)) (hD:okD D) {i:Nat} (hi:i<D.length):∃ u,rD [v,iV (i:Int)] h=A4 (u,h)/\Has h u 1 256 (B4 D[i]):=by
 have hlen:=hv.len;rcases hv with ⟨_,h0,_⟩ | ⟨id,off,r,rfl,hr,h1,h2,h3,h4⟩
 ·omega
 ·have cC:off+i*256+256*1<=r.cells.length:=by omega
  have V5:=C8 hr;refine ⟨sV id (off+i*256) 256 1,?_,?_⟩
  ·have c1:¬ (i:Int)<0:=by omega
   have c2:¬ ((D.length:Nat):Int)<=(i:Int):=by omega
   have a1:E1 256 (sV id off D.length 256) (iV (i:Int))=A4 (pV id (off+i*256)):=C9 hi;have hr2:rd (ro h++[rT []]) id=A4 ⟨r.dim,A6⟩:=C5 (by rw [D12,hr];rfl);have E6Q:=C4R h3 h4 (show i*256<D.length*256 by omega) h2;have E47:r.dim=r.cells:=by
    unfold Row.dim;cases hh:r.head with
    | false=>rfl
    | true =>
     exfalso;have yA:r.cells[off+i*256]?=A4 r.cells[off+i*256]:=E66 (by omega);have hxx:=Row.head_isX hh _ (E7y yA);have h5:=List.all_eq_true.1 h4 r.cells[off+i*256] (by
      rw [<-h3];have:((r.cells.drop off).take (D.length*256))[i*256]?=A4 r.cells[off+i*256]:=by rw [E7G (by omega),E7W];exact yA
      exact E7y this)
     rw [hxx] at h5;cases h5
   have hdl:r.dim.length=r.cells.length:=by rw [E47]
   have E6t:((A6:Bool)||(r.dim[off+i*256]?).any λc=>!c.isX)=A5:=by
    rw [E47,Bool.false_or];have yA:r.cells[off+i*256]?=A4 r.cells[off+i*256]:=E66 (by omega);have h5:=List.all_eq_true.1 h4 r.cells[off+i*256] (by
      rw [<-h3];have:((r.cells.drop off).take (D.length*256))[i*256]?=A4 r.cells[off+i*256]:=by rw [E7G (by omega),E7W];exact yA
      exact E7y this)
    rw [yA];simp only [Option.any_some,h5]
   have s1:B0T (ro h++[rT []]) 256 1 (pV id (off+i*256)) A7 A7=A4 (sV id (off+i*256) 256 1):=by
    simp only [B0T,hr2,E7h,bound];rw [if_pos ⟨by omega,by omega,by rw [hdl];exact cC,E6t⟩];simp
   refine C0a (n:=0) (h2:=ro h++[rT []]) ?_ (by simp [Val.low,Cell.low,V5]);rw [A77];simp only [P9,A1w,c1,decide_false,E3j,hlen,C6W,c2,D7l,cond_false,C7s,a1,s1]
  ·refine Has.part (cs:=r.cells) (rw:=r.rw) hr cC ?_ (F9 _);rw [<-cV hD hi,<-h3,List.drop_take,List.take_take,E7X]
   congr 1
   omega
section
variable {v:Val} {D:Dev} {n m k l s p:Int} {d:List Int} {h:B5}
end
def C4t (D:Dev) (n i:Int):Bool:=R6 D.length n i&&gU (A89 D n i)
def lnV (D:Dev) (n i:Int):Int:=bif C4t D n i then sH (A89 D n i) else 0
def szV (D:Dev) (n i:Int):Int:=bif C4t D n i then sJ (A89 D n i) else 0
def paV (D:Dev) (n i:Int):Int:=bif C4t D n i then sI (A89 D n i) else 0
def drV (D:Dev) (n i:Int):List Int:=bif C4t D n i then M9 (A89 D n i) else zI 7
theorem uX {D:Dev} {n i:Int}:(drV D n i).length=7:=by
 unfold drV;cases C4t D n i with
 | false=>exact I8
 | true=>exact F0
theorem D7C {D:Dev} {n i:Int}:kdV D n i=bif C4t D n i then qH (A89 D n i) else 0:=by
 unfold kdV C4t;cases R6 D.length n i<;>rfl
theorem A7D (D:Dev) (n i:Int):A14 D n i=F8 (kdV D n i) (lnV D n i) (szV D n i) (paV D n i) (drV D n i):=by
 rw [D7C];unfold A14 lnV szV paV drV C4t;cases R6 D.length n i with
 | false=>rfl
 | true =>
  rw [E7j,cond_true];unfold dT;cases gU (A89 D n i)<;>rfl
theorem D6w {D:Dev} {n i:Int} (h:kdV D n i≠0):S4 D.length n=A5/\1<=i/\i<=n:=by
 rw [<-lQ];unfold kdV at h;cases hi:R6 D.length n i with
 | false=>rw [hi] at h;exact absurd rfl h
 | true=>rfl
theorem B86 {R:List Int} (hn:R.Nodup) (hr:∀ a∈R,1<=a/\a<=128):R.length<=128:=by
 have:(R.map Int.toNat).Nodup:=by
  rw [List.Nodup,List.pairwise_map];refine hn.imp_of_mem λ{a b} ha hb hab e=>?_
  have:=hr a ha;have:=hr b hb;omega
 have hs:∀ x∈R.map Int.toNat,x∈E7M 1 128:=by
  intro x hx;rw [List.mem_map] at hx;obtain ⟨a,ha,rfl⟩:=hx;have:=hr a ha;rw [List.mem_range'_1];omega
 have:=List.Nodup.length_le_of_subset this hs;simpa using this
theorem B2u {l:List Ent}:(V3 l).length=l.length*2:=by
 induction l with
 | nil=>rfl
 | cons x l ih=>simp only [V3,E79,List.flatten_cons,E7a,E7g,W2,E7v] at ih ⊢;omega
theorem D6l {l:List Ent}:N8 (V3 l)=A5:=by
 induction l with
 | nil=>rfl
 | cons x l ih =>
  have:V3 (x::l)=W2 (A4 x)++V3 l:=rfl;rw [this,sF,ih];rfl
theorem D8q {l:List Ent}:noX (V3 l)=A5:=by
 induction l with
 | nil=>rfl
 | cons x l ih =>
  have:V3 (x::l)=[.s x.1,.i .i64 x.2]++V3 l:=rfl;rw [this];simp [noX,Cell.isX] at ih ⊢;exact ih
theorem D8r {h:B5} {y:Cell} {l:List Ent} (hy:Has h (.c y) 2 l.length (V3 l)) {i:Nat} (hi:i<l.length):∃ a,E1 2 (.c y) (.c (.i .i64 (i:Int)))=A4 a/\D4 h 2 a=A4 (.a (W2 (A4 l[i]))):=by
 obtain ⟨id,off,e,hid,_,hB⟩:=hy.sl (by omega);cases e;refine ⟨.c (.p id (off+i*2)),C9 hi,?_⟩;rw [hB (i*2) 2 (by rw [B2u];omega),B75 l i hi]
theorem E4L {h:B5} {x:Ent}:E6 (h++[rT [.s [],o0]]) 2 (.c (.p h.length 0)) (.a (W2 (A4 x)))=A4 (h++[rT (W2 (A4 x))]):=by rw [L7];rfl
def HeldX (h:B5) (x:Cell) (cs:List Cell) (n sz r:Nat):Prop:=(n=0/\cs=[]/\x=.ns)\/∃ id,x=.sl id 0 n sz/\rd h id=rT cs/\cs.length=n*sz/\id≠r
theorem HeldX.keep {h h':B5} {x:Cell} {cs:List Cell} {n sz r:Nat} (hx:HeldX h x cs n sz r) (hk:∀ id m,x=.sl id 0 m sz->rd h' id=rd h id):HeldX h' x cs n sz r:=by
 rcases hx with hx | ⟨id,e,hr,hl,T8⟩
 ·exact .inl hx
 ·exact .inr ⟨id,e,by rw [hk id n e];exact hr,hl,T8⟩
theorem E4Y {h:B5} {x:Cell} {cs0 cs ys:List Cell} {r off n sz:Nat} (hr:rd h r=rT cs0) (hx:cs0[off]?=A4 x) (hd:HeldX h x cs n sz r) (hl:n<=100000) (hy:ys.length=sz) (hsz:0<sz) :
  ∃ id h2 h3,B8 h (pV r off)=A4 (.c x)/\jZ (h++[rT ys]) sz (.c x) (sV h.length 0 1 sz)=A4 (sV id 0 (n+1) sz,h2)/\I3 h2 (pV r off) (sV id 0 (n+1) sz)=A4 h3 /\
   rd h3 r=rT (cs0.set off (.sl id 0 (n+1) sz))/\h.length<id/\rd h3 id=rT (cs++ys)/\(cs++ys).length=(n+1)*sz/\(∀ j,j<h.length->j≠r->(∀ m,x≠.sl j 0 m sz)->rd h3 j=rd h j)/\h.length<h3.length:=by
 have hrl:=C8 hr;have l1:B8 h (pV r off)=A4 (.c x):=C4 hr hx (by simp);have hof:off<cs0.length:=(List.getElem?_eq_some_iff.1 hx).1;have e1:(h++[rT ys]).length=h.length+1:=by simp
 rcases hd with ⟨rfl,rfl,rfl⟩ | ⟨id,rfl,hi,xY,T8⟩
 ·have hA:=E1Y (h:=h++[rT ys]) (jd:=h.length) (m:=1) (sz:=sz) (ys:=ys) (by simp) (by omega) hsz (by omega);rw [e1] at hA;have hr2:rd (h++[rT ys]++[rT ys]) r=rT cs0:=C5 (C5 hr);have s1:=G9 (x:=.sl (h.length+1) 0 1 sz) (off:=off) hr2 hof;refine ⟨h.length+1,_,_,l1,hA,s1,C6 (C8 hr2),by omega,?_,by simp [hy],λj hj hjr _=>?_,by simp⟩
  ·rw [B6 (by omega)];have:=T9 (h:=h++[rT ys]) (r:=⟨ys,A5⟩);rw [e1] at this;exact this
  ·rw [B6 (Ne.symm hjr),D9 (by simp;omega),D9 hj]
 ·have O9:=C8 hi;have hA:=kN (h:=h++[rT ys]) (id:=id) (jd:=h.length) (n:=n) (m:=1) (sz:=sz) (cs:=cs) (ys:=ys) (rw:=A5) (C5 hi) xY (by simp) (by omega) rfl hsz (by omega);rw [e1] at hA;have hr2:rd ((h++[rT ys]).set id A7++[rT (cs++ys)]) r=rT cs0:=by
   refine C5 ?_;rw [B6 T8];exact C5 hr
  have s1:=G9 (x:=.sl (h.length+1) 0 (n+1) sz) (off:=off) hr2 hof;refine ⟨h.length+1,_,_,l1,hA,s1,C6 (C8 hr2),by omega,?_,by simp [xY,hy,E78],λj hj hjr hjx=>?_,by simp;omega⟩
  ·rw [B6 (by omega)];have:=T9 (h:=(h++[rT ys]).set id A7) (r:=⟨cs++ys,A5⟩);rw [E7D,e1] at this;exact this
  ·have hji:j≠id:=λe=>hjx n (by rw [e])
   rw [B6 (Ne.symm hjr),D9 (by simp;omega),B6 (Ne.symm hji),D9 hj]
def nmC:Cell->Option Nat
 | .sl id _ _ _=>A4 id
 | .m id=>A4 id
 | _=>A7
def Nam (h:B5) (r id:Nat):Prop:=∃ R x,rd h r=A4 R/\x∈R.cells/\nmC x=A4 id
structure Fr (r:Nat) (h h':B5):Prop where
 size:h.length<=h'.length
 keep:∀ id,id<h.length->id≠r->¬ Nam h r id->rd h' id=rd h id
 nam:∀ id,Nam h' r id->Nam h r id\/h.length<=id
theorem Fr.refl (r:Nat) (h:B5):Fr r h h:=⟨E7b _,λ_ _ _ _=>rfl,λ_ hn=>.inl hn⟩
theorem Fr.trans {r:Nat} {h h' h'':B5} (a:Fr r h h') (b:Fr r h' h''):Fr r h h'':=by
 refine ⟨E7K a.size b.size,λid hid hr hn=>?_,λid hn=>?_⟩
 ·rw [b.keep id (by have:=a.size;omega) hr λhm=>?_,a.keep id hid hr hn];rcases a.nam id hm with h1 | h1
  ·exact hn h1
  ·omega
 ·rcases b.nam id hn with h1 | h1
  ·exact a.nam id h1
  ·exact .inr (by have:=a.size;omega)
theorem Nam.same {h h':B5} {r id:Nat} (e:rd h' r=rd h r):Nam h' r id↔Nam h r id:=by unfold Nam;rw [e]
theorem Fr.low {r:Nat} {h h':B5} (hl:Low h.length h h') (hr:r<h.length):Fr r h h' :=
 ⟨hl.2.1,λid hid _ _=>hl.2.2 id hid,λid hn=>.inl ((Nam.same (hl.2.2 r hr)).1 hn)⟩
def Loc (h:B5) (r id:Nat):Prop:=id<h.length/\id≠r/\¬ Nam h r id
theorem Fr.loc {r id:Nat} {h h':B5} (a:Fr r h h') (hl:Loc h r id):Loc h' r id/\rd h' id=rd h id:=by
 refine ⟨⟨Nat.lt_of_lt_of_le hl.1 a.size,hl.2.1,λhn=>?_⟩,a.keep id hl.1 hl.2.1 hl.2.2⟩;rcases a.nam id hn with h1 | h1
 ·exact hl.2.2 h1
 ·have:=hl.1;omega
def Apt (cs:List Cell) (r:Nat):Prop:=(∀ (i j a:Nat) (x y:Cell),cs[i]?=A4 x->cs[j]?=A4 y->nmC x=A4 a->nmC y=A4 a->i=j)/\∀ x∈cs,nmC x≠A4 r
theorem Apt.set {cs:List Cell} {r:Nat} (ha:Apt cs r) (off:Nat) {x:Cell} (hx:∀ id,nmC x=A4 id->id≠r/\∀ (j:Nat) y,j≠off->cs[j]?=A4 y->nmC y≠A4 id):Apt (cs.set off x) r:=by
 have look:∀ (j:Nat) (y:Cell),(cs.set off x)[j]?=A4 y->(j=off/\y=x)\/(j≠off/\cs[j]?=A4 y):=by
  intro j y hj;by_cases e:j=off
  ·subst e
   left
   rw [List.getElem?_set] at hj;simp only [if_true] at hj;split at hj
   ·cases hj;exact ⟨rfl,rfl⟩
   ·cases hj
  ·right
   rw [List.getElem?_set_ne (Ne.symm e)] at hj;exact ⟨e,hj⟩
 refine ⟨λi j a y z hi hj hy hz=>?_,λy hy=>?_⟩
 ·rcases look i y hi with ⟨e1,e2⟩ | ⟨e1,e2⟩<;>rcases look j z hj with ⟨e3,e4⟩ | ⟨e3,e4⟩
  ·rw [e1,e3]
  ·subst e2;exact absurd hz ((hx a hy).2 j z e3 e4)
  ·subst e4;exact absurd hy ((hx a hz).2 i y e1 e2)
  ·exact ha.1 i j a y z e2 e4 hy hz
 ·obtain ⟨j,hj⟩:=List.mem_iff_getElem?.1 hy;rcases look j y hj with ⟨e1,e2⟩ | ⟨e1,e2⟩
  ·subst e2;intro e;exact (hx r e).1 rfl
  ·exact ha.2 y (E7y e2)
theorem Apt.ne {cs:List Cell} {r:Nat} (ha:Apt cs r) {i j a b:Nat} {x y:Cell} (hi:cs[i]?=A4 x) (hj:cs[j]?=A4 y) (hx:nmC x=A4 a) (hy:nmC y=A4 b) (T8:i≠j):a≠b:=by
 intro e;subst e;exact T8 (ha.1 i j a x y hi hj hx hy)
theorem HeldX.nm {h:B5} {x:Cell} {cs:List Cell} {n sz r:Nat} (hx:HeldX h x cs n sz r) {id:Nat} (e:nmC x=A4 id):x=.sl id 0 n sz/\rd h id=rT cs/\cs.length=n*sz/\id≠r:=by
 rcases hx with ⟨_,_,e2⟩ | ⟨bF,e2,h1,h2,h3⟩
 ·rw [e2] at e;cases e
 ·subst e2;cases e;exact ⟨rfl,h1,h2,h3⟩
theorem HeldX.kept {h h':B5} {x:Cell} {cs:List Cell} {n sz r:Nat} (hx:HeldX h x cs n sz r) (hk:∀ id,nmC x=A4 id->rd h' id=rd h id):HeldX h' x cs n sz r :=
 hx.keep λid m e=>hk id (by rw [e];rfl)
structure Cl where
 row:List Int
 ino:List (List Int)
 taken:List Bool
 blocks:List Int
 made:List (List UInt8)
 lost:Int
 lnk:Int->Option Int
 par:Int->Option Int
def MapI (es:W9) (F:Int->Option Int):Prop:=(∀ e∈es,∃ i,e.1=Cell.i .i64 i)/\∀ i,(B1Q (.i .i64 i) es).map (·.2)=(F i).map λv=>Part.c (.i .i64 v)
def vO (F:Int->Option Int) (a v:Int):Int->Option Int:=λi=>if i=a then A4 v else F i
theorem E3q {es:W9} {a:Int} (h:∀ e∈es,∃ i,e.1=Cell.i .i64 i):A4u (A4 .i64) (.i .i64 a) es=A5:=by
 simp only [A4u,tQ,decide_true,E7j,E70];intro e he;obtain ⟨x,hx⟩:=h e he;rw [hx];simp
theorem MapI.nil:MapI [] λ_=>A7:=⟨λe he=>by simp at he,λi=>rfl⟩
theorem MapI.put {es:W9} {F:Int->Option Int} (hm:MapI es F) (a v:Int):MapI (A88 (.i .i64 a) (.c (.i .i64 v)) es) (vO F a v):=by
 refine ⟨C1c (Q:=λc=>∃ i,c=.i .i64 i) ⟨a,rfl⟩ hm.1,λi=>?_⟩;unfold vO;by_cases c:i=a
 ·subst c;rw [if_pos rfl,(A0T (k':=.mh)).1];rfl
 ·rw [if_neg c,(A0T (k:=.i .i64 a) (k':=.i .i64 i)).2 (by simpa using c)];exact hm.2 i
theorem E3r {h:B5} {mid:Nat} {es:W9} {F:Int->Option Int} {a:Int} {ok:Bool} (hr:rd h mid=A4 (T1 es)) (hm:MapI es F):A8j h (A4 .i64) (.c o0) ok (.c (.m mid)) (.c (.i .i64 a))=A4 (A5S ok (.c (.i .i64 ((F a).getD 0))) (F a).isSome):=by
 simp only [A8j,C8a,D8N,hr,E7h,A0S];rw [if_pos (E3q hm.1)];have h2:=hm.2 a;cases hg:B1Q (.i .i64 a) es with
 | none =>
  rw [hg] at h2;cases hF:F a with
  | none=>rfl
  | some v=>rw [hF] at h2;cases h2
 | some ip =>
  obtain ⟨i,p⟩:=ip;rw [hg] at h2;cases hF:F a with
  | none=>rw [hF] at h2;cases h2
  | some v=>rw [hF] at h2;simp at h2;subst h2;rfl
theorem E4z {h:B5} {mid:Nat} {es:W9} {F:Int->Option Int} {a x:Int} (hr:rd h mid=A4 (T1 es)) (hm:MapI es F):A2O h (A4 .i64) (.c (.m mid)) (.c (.i .i64 a)) (.c (.i .i64 x))=A4 (h.set mid (A4 (T1 (A88 (.i .i64 a) (.c (.i .i64 x)) es)))):=by
 simp only [A2O,C8a,C8I,hr,E7h,A0S];rw [if_pos (E3q hm.1)]
def wkC (D:Dev) (n m:Int) (f xr xi xt xb xm:Cell) (lost:Int) (ml mp:Nat):List Cell:=[.i .i64 D.length,.i .i64 n,.i .u64 m,f,xr,xi,xt,xb,xm,.i .i64 lost,.m ml,.m mp]
def U2 (l:List (List Int)):List Cell:=(l.map encI).flatten
def J3 (l:List Bool):List Cell:=l.map .b
structure WP (D:Dev) (n m:Int) (f:Cell) (g:B5) (r:Nat) (c:Cl) (h:B5):Prop where
 lo:Low g.length g h
 ge:g.length<=r
 low:∀ id,Nam h r id->g.length<=id
 il:∀ x∈c.ino,x.length=11
 ilen:c.ino.length=(n+1).toNat
 tlen:c.taken.length=D.length
 row:∃ xr xi xt xb xm ml mp es1 es2,rd h r=rT (wkC D n m f xr xi xt xb xm c.lost ml mp)/\Apt (wkC D n m f xr xi xt xb xm c.lost ml mp) r /\
  HeldX h xr (encI c.row) c.row.length 1 r/\HeldX h xi (U2 c.ino) c.ino.length 11 r/\HeldX h xt (J3 c.taken) c.taken.length 1 r /\
  HeldX h xb (encI c.blocks) c.blocks.length 1 r/\HeldX h xm (D5 c.made) c.made.length 256 r /\
  rd h ml=A4 (T1 es1)/\MapI es1 c.lnk/\rd h mp=A4 (T1 es2)/\MapI es2 c.par
section
variable {D:Dev} {n m:Int} {f:Cell} {g:B5} {r:Nat} {c:Cl} {h:B5}
theorem WP.rlt (P:WP D n m f g r c h):r<h.length:=by
 obtain ⟨_,_,_,_,_,_,_,_,_,h1,_⟩:=P.row;exact C8 h1
theorem B55 {R:Row} {i id:Nat} {x:Cell} (hr:rd h r=A4 R) (hi:R.cells[i]?=A4 x) (hx:nmC x=A4 id):Nam h r id:=⟨R,x,hr,E7y hi,hx⟩
theorem C1d (hv:∃ id cs,f=.f id cs) (P:WP D n m f g r c h) {id:Nat} (hn:Nam h r id):id<h.length:=by
 obtain ⟨xr,xi,xt,xb,xm,ml,mp,es1,es2,h1,h2,h3,h4,h5,h6,h7,h8,h9,h10,h11⟩:=P.row;obtain ⟨R,x,hR,hx,hnm⟩:=hn;rw [h1] at hR;cases hR;obtain ⟨fi,fc,rfl⟩:=hv;simp only [wkC,List.mem_cons,List.not_mem_nil,or_false] at hx;rcases hx with rfl | rfl | rfl | rfl | rfl | rfl | rfl | rfl | rfl | rfl | rfl | rfl
 ·cases hnm
 ·cases hnm
 ·cases hnm
 ·cases hnm
 ·exact C8 (h3.nm hnm).2.1
 ·exact C8 (h4.nm hnm).2.1
 ·exact C8 (h5.nm hnm).2.1
 ·exact C8 (h6.nm hnm).2.1
 ·exact C8 (h7.nm hnm).2.1
 ·cases hnm
 ·cases hnm;exact C8 h8
 ·cases hnm;exact C8 h10
theorem WP.keep {h':B5} (P:WP D n m f g r c h) (hlo:Low g.length g h') (hr:rd h' r=rd h r) (hk:∀ id,Nam h r id->rd h' id=rd h id):WP D n m f g r c h':=by
 obtain ⟨xr,xi,xt,xb,xm,ml,mp,es1,es2,h1,h2,h3,h4,h5,h6,h7,h8,h9,h10,h11⟩:=P.row;have k:∀ (i:Nat) (x:Cell) (id:Nat),(wkC D n m f xr xi xt xb xm c.lost ml mp)[i]?=A4 x->nmC x=A4 id->rd h' id=rd h id:=λi x id hi hx=>hk id (B55 h1 hi hx)
 refine ⟨hlo,P.ge,λid hn=>P.low id ((Nam.same hr).1 hn),P.il,P.ilen,P.tlen,xr,xi,xt,xb,xm,ml,mp,es1,es2,by rw [hr];exact h1,h2,h3.kept λid e=>k 4 _ _ rfl e,h4.kept λid e=>k 5 _ _ rfl e,h5.kept λid e=>k 6 _ _ rfl e,h6.kept λid e=>k 7 _ _ rfl e,h7.kept λid e=>k 8 _ _ rfl e,?_,h9,?_,h11⟩
 ·rw [k 10 (.m ml) ml rfl rfl];exact h8
 ·rw [k 11 (.m mp) mp rfl rfl];exact h10
theorem WP.since {h':B5} (hv:∃ id cs,f=.f id cs) (P:WP D n m f g r c h) (hl:Low h.length h h'):WP D n m f g r c h' :=
 P.keep ⟨P.lo.1,E7K P.lo.2.1 hl.2.1,λid hid=>by rw [hl.2.2 id (by have:=P.lo.2.1;omega)];exact P.lo.2.2 id hid⟩ (hl.2.2 r P.rlt) λid hn=>hl.2.2 id (C1d hv P hn)
theorem WP.more (hv:∃ id cs,f=.f id cs) (P:WP D n m f g r c h) (t:B5):WP D n m f g r c (h++t):=P.since hv ((Low.refl (E7b _)).new t)
theorem WP.set {id:Nat} {x:Option Row} (P:WP D n m f g r c h) (hl:Loc h r id) (hg:g.length<=id):WP D n m f g r c (h.set id x):=by
 refine P.keep (P.lo.set hg x) (B6 hl.2.1) λj hj=>B6 λe=>hl.2.2 (by rw [e];exact hj)
theorem Fr.set {id:Nat} {x:Option Row} {h0:B5} (a:Fr r h0 h) (hl:Loc h r id) (h0l:h0.length<=id):Fr r h0 (h.set id x):=by
 have e:rd (h.set id x) r=rd h r:=B6 hl.2.1;exact ⟨by simpa using a.size,λj hj h1 h2=>by rw [B6 (by omega)];exact a.keep j hj h1 h2,λj hj=>a.nam j ((Nam.same e).1 hj)⟩
end
noncomputable section
variable (n m m2:Nat) (a0 a1 a2 a3 x0 x1 x2 x3 x4 x5 x6 x7 x8 x9 x10 x11 x12 x13 x17 x18 x19 x20 x21 x22 x27 x28 x29 x30 x31 x32 x37 x38 x39 x72 x73 x74 x75 x76 x77 x78 x79 x88 x89 x90 E5H E5I E5J E29 E3a E3b:Val) (h:B5)
def jJ:FD A8:=⟨px 0X11f841402412321fa61a11984061c264c464c639c02f11811201141141224634e2a863a1f61a13a19b43a363a1f263a4f463a4f63a39f03a36062bc61a201ac406338064c064c639c002a2e1032102314111022,[.c (.b A5)],[],[.tmp 4],[cal C0f]⟩
def A2x:=jJ.R
def kE:=mR A2x jJ (tT []) n [a0,a1] h
def A2p:=jJ.K Tryz.func95
def jQ:=jJ.Q
theorem dC:SOk A8 95 jQ:=A2p.ok
theorem kI:OfT A2x jQ:=A2p.of
def eJ:FD A8:=⟨px 0X118861362e2a81632f7f61a202f1af42f34e2f1f6061a17c3e1c39607c001b6123611321042,[.c (.b A6)],[],[.tmp 6],[cal dC]⟩
def zJ:=eJ.R
def qQ:=mR zJ eJ (tT []) n [a0,a1,a2,a3] h
def zG:=eJ.K Tryz.func98
def eR:=eJ.Q
theorem A6G:SOk A8 98 eR:=zG.ok
theorem qX:OfT zJ eR:=zG.of
def L9:FD A8:=⟨px 0X12284881de184883f3924121f87153c07c21802184881de11961e411ac61967c2c0184883851824363a2a864f2bf61a21e4f5ef384f32c4f344f360361e2a803f68b43f3601637c3e1d11d397542162686161a201ac3a04a4881a394765421624c511a027542152157421411a070247421431889617c118742152742140605171174214242231c42d9022ed242132,[.c (.b A6)],[.eqN A5 A5 (.t 16)],[.cellN 4 256],[cal C4q,cal wM,cal A6G]⟩
def tG:=L9.R
def tA:O3:=L9.E
def sM:AtH:=L9.lj 0 n [m] [x1,x2,x4,x7]
def A7K:AtH:=L9.lj 1 n [m] [x1,x2,x4,x7]
def jC:TT:=⟨tA,[⟨2,4,sM⟩,⟨2,4,A7K⟩]⟩
def A3F:=mR tG L9 jC n [a0,a1] h
def nS:=mL L9 jC 0 n [m] [x1,x2,x4,x7] h
def cK:=mJ L9 jC 1 n [m] [x1,x2,x4,x7] h
def tD:=L9.K Tryz.func97
def jB:=L9.Q
theorem A36:SOk A8 97 jB:=tD.ok
theorem A35:OfT tG jB:=tD.of
def jK:FD A8:=⟨px 0X1e21fa464c464c4e39c4061e4883cc6488011c1488048a2c4883861c464c464c639c00001811b1e21fa364c464c4e39c61e13cc61011113fc4061c364c464c639c00001d50221e52ed151032,[],[],[],[]⟩
def A2y:=jK.R
def A9l:=mR A2y jK (tT []) n [a0,a1,a2] h
def A2q:=jK.K Tryz.func96
def qZ:=jK.Q
theorem xI:SOk A8 96 qZ:=A2q.ok
theorem A9S:OfT A2y qZ:=A2q.of
def S6:FD A8:=⟨px 0X65a6a351ac15a16f1816d261a241ac183821ca5d861e231ac61c1a2c4c6438064c639c181c61c1a2c4c181c1b01b01241627c61c1a2c4c36c6524265233621b1de1a1e1b19822c1b384061c164c464c639c181c7019652330621fa1a2c4c61e221ac61c1a284c181c6182439657c384b1d24c65421626521411a2982e156a07c2181a21fa4a6164928d2062e223f1ad42c484d61c1a61628c4284c3c0181c3c391701b1c8711a022e2d765421182152e2d6542173070242e2d65421731a617c12f2e2d654211822e2d65421706051006887a2c1d32e2d6542172654215319c21fa162d96111ac61c26e294d5654215218821b1de3b52d961251151033b3e861c25a1e4d55421426c21b1de3b42d961a201ac406438064c639c3a181d1842132022ed12122,[],[.min (.t 20) (.v (.c (.i .i64 6)))],[],[cal X7,cal B7w,cal dC,cal J5,cal A36,cal xI]⟩
def A2w:=S6.R
def gR:AtH:=S6.lj 0 n [m] [x1,x2,x4,x5,x6,x21,x22]
def oX:AtH:=S6.lj 1 n [] [x1,x2,x5,x6]
def rQ:=tT [⟨2,7,gR⟩,⟨1,4,oX⟩]
def A9j:=mR A2w S6 rQ n [a0,a1] h
def jD:=mL S6 rQ 0 n [m] [x1,x2,x4,x5,x6,x21,x22] h
def tP:=mJ S6 rQ 1 n [] [x1,x2,x5,x6] h
def A2n:=S6.K Tryz.func45
def jP:=S6.Q
theorem A9R:SOk A8 45 jP:=A2n.ok
theorem A9Q:OfT A2w jP:=A2n.of
def I9:FD A8:=⟨px 0X1228491de1c494b3924122981d156c04a7d21828c2d156a07c2180121fa1a614828c11c4c3c04182461a27c38061c1a614828c11c4c3c38163d2d1d1c1b764301a21bc711a022d1d1c1b76430192352d1d1c1b64301831a270242d1d1c1b6430183289617c12e2d1d1c1b64301922d1d1c1b64301826251012d1d1c1b6430182017241637c61a221ac6a0029142c1d1c1b64301821d1c1b6430731886161c1a2a119831d1c1b643072151d1c1b430611a070241d1c1b430631a617c11e1d1c1b430721d1c1b430606051061c86111ac3e493841d1c1b43062432323a491de6101ac2e4918393430321f2d8432ed243032,[],[],[.cellN 4 33],[cal C6x,cal oT,cal dC]⟩
def wZ:=I9.R
def tM:AtH:=I9.lj 0 n [m] [x0,x3,x4,x11,x12,x13]
def tL:AtH:=I9.lj 1 n [m] [x0,x3,x4,x11,x12,x13]
def tO:AtH:=I9.lj 2 n [m,m2] [x0,x3,x4,x6,x11,x12,x13,x21]
def A82:AtH:=I9.lj 3 n [m,m2] [x0,x3,x4,x6,x11,x12,x13,x21]
def X8:=tT [⟨2,6,tM⟩,⟨2,6,tL⟩,⟨3,8,tO⟩,⟨3,8,A82⟩]
def A4P:=mR wZ I9 X8 n [a0,a1] h
def dQ:=mL I9 X8 0 n [m] [x0,x3,x4,x11,x12,x13] h
def oA:=mJ I9 X8 1 n [m] [x0,x3,x4,x11,x12,x13] h
def dR:=mL I9 X8 2 n [m,m2] [x0,x3,x4,x6,x11,x12,x13,x21] h
def oB:=mJ I9 X8 3 n [m,m2] [x0,x3,x4,x6,x11,x12,x13,x21] h
def wX:=I9.K Tryz.func100
def dB:=I9.Q
theorem A4X:SOk A8 100 dB:=wX.ok
theorem A4W:OfT wZ dB:=wX.of
def jI:FD A8:=⟨px 0X129c7163841de5806311a1022f3e84c33848481676221fc01f8231de2c192d915a6804e3e691ec2d161a231ac18061a221ac4806438064c639c02e11e1a19186420137127a41de02f3e837622241627c5a2a122b1862052186204318c18161c1a614828c315e4c61e211ac6101ac5a03e491b3950191862043302f62d9442ed3642042,[.c (.b A6)],[],[.cellN 6 4,.tmp 7],[cal C2f,cal C0j,cal J5,cal A4S]⟩
def qR:=jI.R
def A9k:=mR qR jI (tT []) n [a0,a1,a2] h
def A2o:=jI.K Tryz.func166
def qY:=jI.S
theorem xH:SOk A8 166 qY:=A2o.sok
theorem A6H:F6 qR qY:=A2o.flat
def K0:FD A8:=⟨px 0X15cc416c1b9124125c819c156a01b87d2185bc1d163e23cc620129123fc6112a102293e836887c02c07c06c1a8119184fc1f161c1a2a1198319c19b19a1f1d5625519c19b19a1d5534702419c19b19a1d5531a617c119d19c19b19a1d56219c19b19a1d5526451061c86141ac381991419c19b19a1d5521d1321d3b911d65324c82c153aa01987d2184bc48152be018f7d21804b86162e13cc61013113fc61c064c1584c380718268a61c164c1584c61c064c1584c2c018483f3e2c2b2a1a1865301c224362e2a811d968b5831d93b631d93b15c1d94f60362e2a861a21bd7f481bd361bd1f05c1bd4f60685d11d79483f3e2c2b2a1a1865301d22e802dc241de2f1b2d914a6803e5b692d84c162a2e331ac61c064c1584c1c493804d11c483f3e2c2b2a1c1b1a1865301e229c231de2c1a2d963381a2a31984483f3e2c2b2a1a1865301c235483f3e2c2b2a1865301b31a27024483f3e2c2b2a1865301b31a617c149483f3e2c2b2a1865301c2483f3e2c2b2a1865301b16251061c86121ac61a211ac4806438064c639c038119483f3e2c2b2a1865301b21bc18161c1a2a119832c2b2a186530182152c2b2a653073070242c2b2a6530731a617c12d2c2b2a65301822c2b2a6530706051061c86101ac7a49293942c2b2a653072652313b816530421885102868925303223b8432ed23022,[.c (.b A6)],[.mkMap,.eqA A6 ([.i .i64,.s,.i .i64]) (.t 54) (.t 55),.mput A7 (.t 58) (.t 61) (.t 64),.look A7 (.c o0) A6 (.t 82) (.t 83)],[.tmp 4],[cal oT,cal J5,cal A4T,cal xH,cal C6D]⟩
def oR:=K0.R
def aH:AtH:=K0.lj 0 n [m] [x0,x3,x5,x6,x18,x19,x20]
def aI:AtH:=K0.lj 1 n [m,m2] [x0,x3,x5,x6,x8,x18,x19,x20,x30,x31,x32]
def zP:AtH:=K0.lj 2 n [m] [x5,x13,x74,x75,x76]
def B25:AtH:=K0.lj 3 n [m,m2] [x0,x3,x5,x6,x8,x18,x19,x20,x30,x31,x32]
def bP:=tT [⟨2,7,aH⟩,⟨3,11,aI⟩,⟨2,5,zP⟩,⟨3,11,B25⟩]
def A8T:=mR oR K0 bP n [a0,a1] h
def rY:=mL K0 bP 0 n [m] [x0,x3,x5,x6,x18,x19,x20] h
def gT:=mL K0 bP 1 n [m,m2] [x0,x3,x5,x6,x8,x18,x19,x20,x30,x31,x32] h
def rZ:=mL K0 bP 2 n [m] [x5,x13,x74,x75,x76] h
def aZ:=mJ K0 bP 3 n [m,m2] [x0,x3,x5,x6,x8,x18,x19,x20,x30,x31,x32] h
def A0Y:=K0.K Tryz.func101
def gL:=K0.S
theorem A8V:SOk A8 101 gL:=A0Y.sok
theorem A6I:oP oR gL:=A0Y.out
def Y7:FD A8:=⟨px 0X1761161201e21fa064c464c4e39c61e13cc61011113fc18061c064c464c639c00001d18368a4018061c1b64c639c00720222462bc4c025f21042001a268a5607c168818061c1a64c639c04f118192104201361161224673a2a8361a1882ab4c18f36188319621887f3c188360671e2a8162787f3c783605627c183a11d4e192105219210431cc01c818114a6803e38691bc291068818061c1b64c639c02a11b19721052188710658c61a201ac6a06438064c639c01a118721042361121032,[.c (.b A6),.c (.b A5)],[.look (A4 .i64) (.c o0) A5 (.t 21) (.t 22),.look (A4 .i64) (.c o0) A6 (.t 42) (.t 43),.mput (A4 .i64) (.t 42) (.t 43) (.t 45),.mput (A4 .i64) (.t 51) (.t 52) (.t 53)],[.tmp 6],[cal X7]⟩
def A2z:=Y7.R
def B5P:AtH:=Y7.lj 0 n [] []
def A2L:=tT [⟨1,0,B5P⟩]
def dA:=mR A2z Y7 A2L n [a0,a1,a2] h
def jE:=mJ Y7 A2L 0 n [] [] h
def A2r:=Y7.K Tryz.func102
def jR:=Y7.Q
theorem A9T:SOk A8 102 jR:=A2r.ok
theorem kJ:OfT A2z jR:=A2r.of
def O8:FD A8:=⟨px 0X12484881de4c4881b839218125bc3d153da07c21824c4881de61a251ac7c2384c4881ac3941859c0598221de2d1f2d913e6803a1aa6958c19c161e241ac62381684c61c06819d4d1b3d3c3b1f191853201a20171e21fa564c464c3a39c5607c61c564c464c639c001a3d3c3b1918532019224675a2a862a31e87f61e81f161e84f1681e84f11e868b61e81f061e84f1681e84f1c1e8360672e2a801cc68b6831cc3b631cc3b16c1cc4f60672e2a861a31b87f181b8361b81f06c1b84f6062bc785a13918a3d3c3b1c191853201b23d3c3b1c191853201a32cc02c8241de2f1d2d914a6803e58692bc49162a2e331ac61c064c1684c2c493804a11c3d3c3b1e1d1c191853201c2288231de2c1c2d963381a2a319843d3c3b1c191853201a2153d3c3b191853201911a070243d3c3b191853201931a617c13e3d3c3b191853201a23d3c3b191853201906051061c86121ac61a211ac1806438064c639c02d1193d3c3b191853201921918231a8019c24881de1c192d911e6801a2b691982913102a1ad719185320621c182d9452ed218532052,[.c .ns,.c (.b A5)],[.eqA A5 ([.i .i64,.s,.i .i64]) (.t 52) (.t 53),.look A7 (.c o0) A6 (.t 57) (.t 60)],[.cellN 8 256],[cal C3K,cal J5,cal A4T,cal xH,cal C3L,cal B0y]⟩
def xD:=O8.R
def bZ:AtH:=O8.lj 0 n [m] [x0,x2,x3,x5,x8,x9,x27,x28,x29]
def A83:AtH:=O8.lj 1 n [m] [x0,x2,x3,x5,x8,x9,x27,x28,x29]
def kK:=tT [⟨2,9,bZ⟩,⟨2,9,A83⟩]
def A4Q:=mR xD O8 kK n [a0,a1,a2,a3] h
def dS:=mL O8 kK 0 n [m] [x0,x2,x3,x5,x8,x9,x27,x28,x29] h
def S9:=mJ O8 kK 1 n [m] [x0,x2,x3,x5,x8,x9,x27,x28,x29] h
def wY:=O8.K Tryz.func105
def kF:=O8.Q
theorem A4Z:SOk A8 105 kF:=wY.ok
theorem A4Y:OfT xD kF:=wY.of
def N1:FD A8:=⟨px 0X79c1cf156a07c21863a3e3181ac61a1e2a41a1ac4807803849380078001db118186d81e161c1a2a119831cf1ce1cd1e186072351cf1ce1cd186063270241cf1ce1cd1860631a617c11d81cf1ce1cd1860721cf1ce1cd1860636251061c861191ac38493841cf1ce1cd18606261a2e3181ac5c4883861c161628c4284c01be161860325ec05e824881de1c1b2d912a6801e1bc695dc1b916171ac38491ba39181b18640525c819a157a07c2180268a61c1584c61c0584c4806182461e2a361ac61c1584c40019e151aa19a1991981a1864101a24ec221de291a2d962381a2a2198419a1991981a1864101921519a1991981864101821a0702419a1991981864101831a617c119b19a19919818641019219a1991981864101816051061c861a251ac384938018e1519a19919818641018218640434ac1811688218641052238491de61a241ac38493800464104201241627c61c161628c4284c4189641052641043621b1de1a1e1b1982281b384061c164c464c639c00701964104301a21fa161628c4284c62a231ac61c161628c42c4c00181824361e2a81621af7f3c1af36019627c61c02c584d75e65410626410401a2bc0102b82491de1f062df15e6805a4e692ac3c16121ac62a211ac61c161628c42c4c6438064c639c03d11d11b765410631dc21b1de3b52d961a201ac406438064c639c02e1185410421ac21b1de3b42d9613511191033b3e806884061c1b64c639c01f11941032,[.c (.b A6)],[.look (A4 .i64) (.c o0) A6 (.t 18) (.t 19),.mkMap,.mput A7 (.t 83) (.t 85) (.t 87)],[],[cal X7,cal J5,cal C6y,cal dC,cal A4X,cal A8V,cal A9T,cal B0n,cal xI,cal oT,cal A4Z]⟩
def A4R:=N1.R
def jV:AtH:=N1.lj 0 n [] [x0,x1,x4,x6]
def jW:AtH:=N1.lj 1 n [m] [x0,x1,x4,x6,x8,x72,x73,x74]
def B70:AtH:=N1.lj 2 n [m] [x0,x1,x4,x6,x8,x72,x73,x74]
def A2U:AtH:=N1.lj 3 n [m] [x0,x6,x8,E5H,E5I,E5J]
def fD:=tT [⟨1,4,jV⟩,⟨2,8,jW⟩,⟨2,8,B70⟩,⟨2,6,A2U⟩]
def B2M:=mR A4R N1 fD n [a0,a1] h
def B1c:=mJ N1 fD 0 n [] [x0,x1,x4,x6] h
def kX:=mL N1 fD 1 n [m] [x0,x1,x4,x6,x8,x72,x73,x74] h
def xQ:=mJ N1 fD 2 n [m] [x0,x1,x4,x6,x8,x72,x73,x74] h
def xR:=mL N1 fD 3 n [m] [x0,x6,x8,E5H,E5I,E5J] h
def A4J:=N1.K Tryz.func46
def mW:=N1.Q
theorem B2T:SOk A8 46 mW:=A4J.ok
theorem B2S:OfT A4R mW:=A4J.of
def U9:FD A8:=⟨px 0X121861de6638464c639c1c1ef152127b81ba151ea07c21801a21fa164c3e4a1b198336884c061c1a64c639c1c04c061c164c464c639c1c01c019245627c61c064c61a1b1984c061c164c464c639c1c1be11a1cf1ba1b91b81932725ec19161c1a2a119831ba1b91b8193262551ba1b91b832541a470241ba1b91b832531a617c11bb1ba1b91b832621ba1b91b832536451061c861c064c464c639c1c1ac171ba1b91b8325232233e8615607c387b131861a241ac3c01c031861a231ac3c01c031824763a2a856229f7f0629f58f61a2229f1af3c29f34429f3b605637c3c18d11919d76321624a87161c61a119838061c064c464c639c1c7d1197632152356321421a2702463e17c61c861c064c464c639c1c0386b1187a632152632143632141625161163214232233984f155e07c218321fa61a11982c061c264c464c639c1c5b118182d85161c1a2a119834f4e4d532172154f4e4d32163070244f4e4d321631a617c1584f4e4d321724f4e4d321606051061c86111ac6338044c54f4e4d32162321331a261de464c6a39c36122e115a1033e3e8661425ca61c064c044c661b3b15ca5607c61c164c044c5101111048a1c2d11c319321331a83162ec268860168a06880688443818321320126a61de03e3e82212241637c6101ac6338041a4d41d213221233e2d862ec22122,[.c (.b A5),.c (.b A6)],[.mkMap,.mput (A4 .i64) (.t 17) (.v (.c (.i .i64 1))) (.v (.c (.i .i64 1))),.build ([o0,o0,.i .u64 0,.nf,.ns,.ns,.ns,.ns,.ns,o0,.nm,.nm]) [(0,4,(.t 15)),(10,1,(.t 16)),(11,1,(.t 18))],.look (A4 .i64) (.c o0) A6 (.t 113) (.t 114)],[.cellN 2 6],[cal fA,cal B3B,cal X7,cal A9R,cal B2T]⟩
def B4s:=U9.R
def C2F:AtH:=U9.lj 0 n [m] [x1,x2,x3,x37,x38,x39]
def pR:AtH:=U9.lj 1 n [m] [x1,x2,x3,x6]
def D4F:AtH:=U9.lj 2 n [m] [x1,x2,x3,x6]
def B1a:AtH:=U9.lj 3 n [m] [x2,x3,x88,x89,x90]
def D4G:AtH:=U9.lj 4 n [m] [x2,x3,x88,x89,x90]
def uS:=tT [⟨2,6,C2F⟩,⟨2,4,pR⟩,⟨2,4,D4F⟩,⟨2,5,B1a⟩,⟨2,5,D4G⟩]
def C9g:=mR B4s U9 uS n [a0] h
def B08:=mL U9 uS 0 n [m] [x1,x2,x3,x37,x38,x39] h
def B09:=mL U9 uS 1 n [m] [x1,x2,x3,x6] h
def A1C:=mJ U9 uS 2 n [m] [x1,x2,x3,x6] h
def B1b:=mL U9 uS 3 n [m] [x2,x3,x88,x89,x90] h
def B07:=mJ U9 uS 4 n [m] [x2,x3,x88,x89,x90] h
def C4T:=U9.K Tryz.func15
def B4T:=U9.S
theorem B3w:SOk A8 15 B4T:=C4T.sok
theorem C3O:D7e B4s B4T:=C4T.tidy
def oH:FD A8:=⟨px 0X624881de1a1e4881985e48838005e1c51824362e2a861e11f7f61f1cb3e1f1f01f3601647c00181c42042442ed142032,[.c (.b A6)],[],[],[]⟩
def A76:=oH.R
def oQ:=mR A76 oH (tT []) n [a0,a1,a2] h
def A70:=oH.K Tryz.func52
def oK:=oH.Q
theorem B4S:SOk A8 52 oK:=A70.ok
theorem oS:OfT A76 oK:=A70.of
def E5:FD A8:=⟨px 0X118a8412c1c241261e22a5ec6151ac78a0041ac381ff155127f81ec155a01fe7d21807ec29161e13cc61011113fc6ce06ce0518246ba1f9111f91ec1eb1ea2a29651827c807b82a161c1e2e11981a051ec1eb1ea2b2a2965182751ec1eb1ea2965661a670241ec1eb1ea2965631a617c11ed1ec1eb1ea2965721ec1eb1ea2965656651061c861c21c1e94d41ec1eb1ea2965622965331293b91296534278819f1528e07c2180001a24881de5a5e48819815e6805a1dd696e81cb161a1e331ac6c1b387c064883861a4881987802c1c7802c1cc1d1d01b24762e2a861e12fb7f62fb1cb2c2fb1f782fb3604ea1bc171ca19f19e19d1f1e1d65321b25dc05d805cc1e123e6813a6802e1b9695c81ac161a221ac68063380181ad4d1b19f19e19d281f1e1d65321b259c6c1b1de58c1c13b1d2d961b381e2e1b1981a0619f19e19d1d1c65321925519f19e19d6532741a4702419f19e19d6532731a617c11a819f19e19d653218219f19e19d6532736451061c861c11c19c4d419f19e19d653272653334bc1b15607c5c18e131861a21e5ec01c3e85c0381981418351b1a196532732702462a17c61a07c5804c05c1891518d1b1a1965321821b1a196532731b1a196532726254881b14c188121b1a196532726532433fc03f819112e6802a7e693ec7a16111ac63380187b4d181a196532623cc4f1519a07c218063a23e5ec64883861a4881983c061c41c4c48038018182462a17c61c861c41c4c3c5c15684f4e4d18765321a22dc02cc7161c1e2e11981a054f4e4d1876532192154f4e4d6532711a070244f4e4d6532731a617c1584f4e4d65321824f4e4d6532706051061c861c31c4c4d44f4e4d65327265324329c612c16c4b5d9265324229821fa252d96101ac18449394532320148843b9141224634a2a862a3687f6681f06684f018684f6681cb6681f21c684f601627c61c861c01c2c4d1d48323232234883b842ec022ed33222,[.c (.b A5),.c (.b A6)],[],[.tmp 4],[cal B0F,cal yS,cal A8d,cal A8g,cal wL,cal A78,cal B4S]⟩
def gK:=E5.R
def qK:O3:=E5.E
def fF:AtH:=E5.lj 0 n [m] [x2,x3,x5,x6,x37,x38,x39]
def A5h:AtH:=E5.lj 1 n [m] [x2,x3,x5,x6,x37,x38,x39]
def fG:AtH:=E5.lj 2 n [m] [x2,x3,x5,x6,x9,x10,x11]
def fH:AtH:=E5.lj 3 n [m] [x2,x3,x5,x6,x77,x78,x79]
def A5i:AtH:=E5.lj 4 n [m] [x2,x3,x5,x6,x77,x78,x79]
def pQ:AtH:=E5.lj 5 n [m] [x5,x6,x17,E29,E3a,E3b]
def A5j:AtH:=E5.lj 6 n [m] [x5,x6,x17,E29,E3a,E3b]
def N2:TT:=⟨qK,[⟨2,7,fF⟩,⟨2,7,A5h⟩,⟨2,7,fG⟩,⟨2,7,fH⟩,⟨2,7,A5i⟩,⟨2,6,pQ⟩,⟨2,6,A5j⟩]⟩
def A11:=mR gK E5 N2 n [a0,a1] h
def kV:=mL E5 N2 0 n [m] [x2,x3,x5,x6,x37,x38,x39] h
def A1B:=mJ E5 N2 1 n [m] [x2,x3,x5,x6,x37,x38,x39] h
def kW:=mL E5 N2 2 n [m] [x2,x3,x5,x6,x9,x10,x11] h
def bS:=mL E5 N2 3 n [m] [x2,x3,x5,x6,x77,x78,x79] h
def kT:=mJ E5 N2 4 n [m] [x2,x3,x5,x6,x77,x78,x79] h
def bT:=mL E5 N2 5 n [m] [x5,x6,x17,E29,E3a,E3b] h
def kU:=mJ E5 N2 6 n [m] [x5,x6,x17,E29,E3a,E3b] h
def qP:=E5.K Tryz.func21
def aU:=E5.S
theorem A12:SOk A8 21 aU:=qP.sok
theorem A1e:oP gK aU:=qP.out
def mK:FD A8:=⟨px 0X1341141218c1a153e0297d2180174114122461a27c404a1e13281a19181526c6161c1a2a119831a19186152151a1918143070241a19181431a617c11b1a19181521a19181406051061c861c02e74d41a191814203341022ed22122,[.c (.b A6),.c (.b A5)],[],[.tmp 4],[]⟩
def A6k:=mK.R
def B3M:AtH:=mK.lj 0 n [m] [x1,x8,x9,x10]
def B7J:=tT [⟨2,4,B3M⟩]
def C3m:=mR A6k mK B7J n [a0,a1] h
def A5k:=mL mK B7J 0 n [m] [x1,x8,x9,x10] h
def B6s:=mK.K Tryz.func18
def A6F:=mK.S
theorem C3N:SOk A8 18 A6F:=B6s.sok
theorem B7f:F6 A6k A6F:=B6s.flat
end
def B5R (D:Dev) (n:Int) (c:Cl) (no:Int):Bool:=jF D.length n no && !(c.taken.getD no.toNat A5)
def U1 (D:Dev) (n:Int) (c:Cl) (no:Int):Int:=bif B5R D n c no then no else 0
def dU (D:Dev) (n:Int) (c:Cl) (no:Int):Cl:=bif B5R D n c no then { c with taken:=c.taken.set no.toNat A5 } else c
theorem C77 {b n i:Int} (h:jF b n i=A5):0<=i/\i<b:=by
 unfold jF at h;simp only [E69,decide_eq_true_eq] at h;have:=A1D (b:=b) (n:=n);omega
section
variable {D:Dev} {n m:Int} {f:Cell} {g:B5} {r:Nat} {c:Cl} {h:B5}
theorem WP.take (P:WP D n m f g r c h) {k:Nat} {v:Bool} {xr xi xt xb xm:Cell} {ml mp:Nat} (h1:rd h r=rT (wkC D n m f xr xi xt xb xm c.lost ml mp)) (h0:D.length≠0) :
  ∃ t,xt=.sl t 0 D.length 1/\rd h t=rT (J3 c.taken)/\WP D n m f g r { c with taken:=c.taken.set k v } (h.set t (rT (J3 (c.taken.set k v))))/\Fr r h (h.set t (rT (J3 (c.taken.set k v)))):=by
 obtain ⟨xr',xi',xt',xb',xm',ml',mp',es1,es2,g1,g2,g3,g4,g5,g6,g7,g8,g9,g10,g11⟩:=P.row;have:=h1.symm.trans g1;simp only [Option.some.injEq,Row.mk.injEq,and_true,wkC,List.cons.injEq,true_and,Cell.m.injEq] at this;obtain ⟨rfl,rfl,rfl,rfl,rfl,rfl,rfl⟩:=this;rcases g5 with ⟨e,_,_⟩ | ⟨t,rfl,t1,t2,t3⟩
 ·rw [P.tlen] at e;exact absurd e h0
 ·rw [P.tlen] at t2 ⊢;have nt:Nam h r t:=B55 (i:=6) g1 rfl rfl;have tg:=P.low t nt;have hr':rd (h.set t (rT (J3 (c.taken.set k v)))) r=rd h r:=B6 t3;have oth:∀ (i:Nat) (x:Cell) (id:Nat),(wkC D n m f xr xi (.sl t 0 c.taken.length 1) xb xm c.lost ml mp)[i]?=A4 x->nmC x=A4 id->i≠6->rd (h.set t (rT (J3 (c.taken.set k v)))) id=rd h id:=by
   intro i x id hi hx T8;exact B6 (λe=>(g2.ne hi (show (wkC D n m f xr xi (.sl t 0 c.taken.length 1) xb xm c.lost ml mp)[6]?=A4 (.sl t 0 c.taken.length 1) from rfl) hx rfl T8) e.symm)
  refine ⟨t,rfl,t1,⟨P.lo.set tg _,P.ge,λid hn=>P.low id ((Nam.same hr').1 hn),P.il,P.ilen,by simpa using P.tlen,xr,xi,.sl t 0 c.taken.length 1,xb,xm,ml,mp,es1,es2,by rw [hr'];exact g1,g2,g3.kept λid e=>oth 4 _ _ rfl e (by decide),g4.kept λid e=>oth 5 _ _ rfl e (by decide),.inr ⟨t,by simp,C6 (C8 t1),by simp [J3],t3⟩,g6.kept λid e=>oth 7 _ _ rfl e (by decide),g7.kept λid e=>oth 8 _ _ rfl e (by decide),?_,g9,?_,g11⟩,by simp,λid hid h1 h2=>B6 λe=>h2 (by rw [<-e];exact nt),λid hn=>.inl ((Nam.same hr').1 hn)⟩
  ·rw [oth 10 (.m ml) ml rfl rfl (by decide)];exact g8
  ·rw [oth 11 (.m mp) mp rfl rfl (by decide)];exact g10
theorem B8z {no:Int} (P:WP D n m f g r c h):∃ h',jQ [pV r 0,iV no] h=A4 (iV (U1 D n c no),h')/\WP D n m f g r (dU D n c no) h'/\Fr r h h':=by
 obtain ⟨xr,xi,xt,xb,xm,ml,mp,es1,es2,g1,g2,g3,g4,g5,g6,g7,g8,g9,g10,g11⟩:=id P.row;have lL:D4 h 3 (pV r 0)=A4 (.a (D8 D.length n m)):=dI g1 (by simp [wkC]) rfl;have lT:B8 h (pV r 6)=A4 (.c xt):=C4 g1 rfl rfl;have hD:=C7O (b:=D.length) (n:=n) (m:=m) (i:=no) (h:=h);unfold U1 dU B5R;cases hd:jF D.length n no with
 | false =>
  rw [hd] at hD;refine ⟨h,kI (n:=0) ?_,P,Fr.refl r h⟩;rw [kE];simp only [esc,Nat.reduceAdd,lL,hD,E7f,cond_false]
 | true =>
  rw [hd] at hD;obtain ⟨i0,i1⟩:=C77 hd;obtain ⟨k,rfl⟩:=E7Q i0;have hk:k<D.length:=by omega
  obtain ⟨t,rfl,t1,t2,t3⟩:=P.take (k:=k) (v:=A5) g1 (by omega);have hkt:k<c.taken.length:=by rw [P.tlen];exact hk
  have ad:=C9 (sz:=1) (id:=t) (off:=0) (k:=.i64) hk;have l1:B8 h (pV t (0+k*1))=A4 (bV c.taken[k]):=C4 t1 (by simp [J3,hkt]) rfl;have s1:I3 h (pV t (0+k*1)) (bV A5)=A4 (h.set t (rT (J3 (c.taken.set k A5)))):=by
   rw [G9 t1 (by simp [J3,hkt])];simp [J3,List.map_set]
  rw [E7t,Nat.mul_one] at ad l1 s1;have eg:c.taken.getD (Int.toNat (k:Int)) A5=c.taken[k]:=by simp [List.getD,hkt]
  rw [eg,E7r];cases hb:c.taken[k] with
  | true =>
   rw [hb] at l1;refine ⟨h,kI (n:=0) ?_,P,Fr.refl r h⟩;rw [kE];simp only [esc,Nat.reduceAdd,lL,lT,ad,l1,hD,E8a,E75,cond_false]
  | false =>
   rw [hb] at l1;refine ⟨_,kI (n:=0) ?_,t2,t3⟩;rw [kE];simp only [esc,Nat.reduceAdd,lL,lT,ad,l1,s1,hD,E8a,E77,Bool.and_true,cond_true]
end
section
variable {D:Dev} {n m:Int} {f:Cell} {g:B5} {r:Nat} {c:Cl} {h:B5}
theorem WP.apt (P:WP D n m f g r c h) {cs:List Cell} (g1:rd h r=rT cs):Apt cs r:=by
 obtain ⟨xr,xi,xt,xb,xm,ml,mp,es1,es2,h1,h2,_⟩:=P.row;rw [h1] at g1;cases g1;exact h2
theorem WP.pushed {off:Nat} {x y:Cell} {cs:List Cell} {h3:B5} (hv:∃ id cs,f=.f id cs) (P:WP D n m f g r c h) (g1:rd h r=rT cs) (hx:cs[off]?=A4 x) (r3:rd h3 r=rT (cs.set off y))
  (hid:∀ id,nmC y=A4 id->h.length<=id) (hk:∀ j,j<h.length->j≠r->nmC x≠A4 j->rd h3 j=rd h j) (hl:h.length<=h3.length) :
  Fr r h h3/\Low g.length g h3/\Apt (cs.set off y) r/\(∀ id,Nam h3 r id->g.length<=id)/\∀ (i:Nat) (z:Cell) (j:Nat),i≠off->cs[i]?=A4 z->nmC z=A4 j->rd h3 j=rd h j:=by
 have ha:=P.apt g1;have lt:∀ (i:Nat) (z:Cell) (j:Nat),cs[i]?=A4 z->nmC z=A4 j->j<h.length:=λi z j hi hz=>C1d hv P (B55 g1 hi hz)
 have nam3:∀ id,Nam h3 r id->Nam h r id\/h.length<=id:=by
  intro id hn;obtain ⟨R,z,hR,hz,hnm⟩:=hn;rw [r3] at hR;cases hR;rcases E7O hz with h1 | h1
  ·exact .inl ⟨_,z,g1,h1,hnm⟩
  ·subst h1;exact .inr (hid id hnm)
 have lg:=P.lo.2.1;refine ⟨⟨hl,λid hid hr hn=>hk id hid hr λe=>hn (B55 g1 hx e),nam3⟩,⟨P.lo.1,by omega,λid hid=>?_⟩,ha.set off λid e=>?_,λid hn=>?_,λi z j hi hz hj=>?_⟩
 ·rw [hk id (by omega) (by have:=P.ge;omega) λe=>?_]
  ·exact P.lo.2.2 id hid
  ·have:=P.low id (B55 g1 hx e);omega
 ·have h1:=hid id e;exact ⟨by have:=P.rlt;omega,λj z _ hz hj=>by have:=lt j z id hz hj;omega⟩
 ·rcases nam3 id hn with h1 | h1
  ·exact P.low id h1
  ·omega
 ·exact hk j (lt i z j hz hj) (λe=>ha.2 z (E7y hz) (by rw [hj,e])) λe=>ha.ne hz hx hj e hi rfl
theorem WP.mod {off t:Nat} {x:Cell} {cs:List Cell} (P:WP D n m f g r c h) (hv:∃ id cs,f=.f id cs) (g1:rd h r=rT cs) (hx:cs[off]?=A4 x) (hn:nmC x=A4 t) (R:Option Row) :
  Fr r h (h.set t R)/\Low g.length g (h.set t R)/\rd (h.set t R) r=rd h r/\(∀ (i:Nat) (z:Cell) (j:Nat),i≠off->cs[i]?=A4 z->nmC z=A4 j->rd (h.set t R) j=rd h j)/\rd (h.set t R) t=R:=by
 have nt:=B55 g1 hx hn;have tne:t≠r:=λe=>(P.apt g1).2 x (E7y hx) (by rw [hn,e])
 have hr':rd (h.set t R) r=rd h r:=B6 tne;exact ⟨⟨by simp,λid hid h1 h2=>B6 λe=>h2 (by rw [<-e];exact nt),λid hn=>.inl ((Nam.same hr').1 hn)⟩,P.lo.set (P.low t nt) _,hr',λi z j hi hz hj=>B6 λe=>(P.apt g1).ne hx hz hn hj (Ne.symm hi) e,C6 (C1d hv P nt)⟩
theorem WP.push (hv:∃ id cs,f=.f id cs) (P:WP D n m f g r c h) {off nn sz:Nat} {x:Cell} {cs l ys:List Cell} (g1:rd h r=rT cs) (hx:cs[off]?=A4 x) (hd:HeldX h x l nn sz r) (hl:nn<=100000) (hy:ys.length=sz) (hsz:0<sz) :
  ∃ id h2 h3,B8 h (pV r off)=A4 (.c x)/\jZ (h++[rT ys]) sz (.c x) (sV h.length 0 1 sz)=A4 (sV id 0 (nn+1) sz,h2)/\I3 h2 (pV r off) (sV id 0 (nn+1) sz)=A4 h3 /\
   rd h3 r=rT (cs.set off (.sl id 0 (nn+1) sz))/\HeldX h3 (.sl id 0 (nn+1) sz) (l++ys) (nn+1) sz r /\
   Fr r h h3/\Low g.length g h3/\Apt (cs.set off (.sl id 0 (nn+1) sz)) r/\(∀ id,Nam h3 r id->g.length<=id)/\∀ (i:Nat) (z:Cell) (j:Nat),i≠off->cs[i]?=A4 z->nmC z=A4 j->rd h3 j=rd h j:=by
 obtain ⟨id,h2,h3,p1,p2,p3,p4,p5,p6,p7,p8,p9⟩:=E4Y g1 hx hd hl hy hsz;obtain ⟨q1,q2,q3,q4,q5⟩:=P.pushed (h3:=h3) (y:=.sl id 0 (nn+1) sz) hv g1 hx p4 (λj e=>by cases e;omega) (λj hj hr hn=>p8 j hj hr λmm e=>hn (by rw [e];rfl)) (by omega);exact ⟨id,h2,h3,p1,p2,p3,p4,.inr ⟨id,rfl,p6,p7,by have:=P.rlt;omega⟩,q1,q2,q3,q4,q5⟩
theorem WP.pushRow (hv:∃ id cs,f=.f id cs) (P:WP D n m f g r c h) (a:Int) (hl:c.row.length<=100000) :
  ∃ x id h2 h3,B8 h (pV r 4)=A4 (.c x)/\jZ (h++[rT [.i .i64 a]]) 1 (.c x) (sV h.length 0 1 1)=A4 (sV id 0 (c.row.length+1) 1,h2)/\I3 h2 (pV r 4) (sV id 0 (c.row.length+1) 1)=A4 h3 /\
   WP D n m f g r { c with row:=c.row++[a] } h3/\Fr r h h3:=by
 obtain ⟨xr,xi,xt,xb,xm,ml,mp,es1,es2,g1,g2,g3,g4,g5,g6,g7,g8,g9,g10,g11⟩:=id P.row;obtain ⟨id,h2,h3,p1,p2,p3,p4,p5,q1,q2,q3,q4,q5⟩:=P.push (off:=4) (ys:=[.i .i64 a]) hv g1 rfl g3 hl rfl (by decide);refine ⟨xr,id,h2,h3,p1,p2,p3,⟨q2,P.ge,q4,P.il,P.ilen,P.tlen,_,xi,xt,xb,xm,ml,mp,es1,es2,p4,q3,?_,g4.kept λid e=>q5 5 _ _ (by decide) rfl e,g5.kept λid e=>q5 6 _ _ (by decide) rfl e,g6.kept λid e=>q5 7 _ _ (by decide) rfl e,g7.kept λid e=>q5 8 _ _ (by decide) rfl e,?_,g9,?_,g11⟩,q1⟩
 ·have e1:encI (c.row++[a])=encI c.row++[.i .i64 a]:=A2Y _ _;rw [e1,E7a];exact p5
 ·rw [q5 10 (.m ml) ml (by decide) rfl rfl];exact g8
 ·rw [q5 11 (.m mp) mp (by decide) rfl rfl];exact g10
theorem WP.pushBlk (hv:∃ id cs,f=.f id cs) (P:WP D n m f g r c h) (a:Int) (hl:c.blocks.length<=100000) :
  ∃ x id h2 h3,B8 h (pV r 7)=A4 (.c x)/\jZ (h++[rT [.i .i64 a]]) 1 (.c x) (sV h.length 0 1 1)=A4 (sV id 0 (c.blocks.length+1) 1,h2)/\I3 h2 (pV r 7) (sV id 0 (c.blocks.length+1) 1)=A4 h3 /\
   WP D n m f g r { c with blocks:=c.blocks++[a] } h3/\Fr r h h3:=by
 obtain ⟨xr,xi,xt,xb,xm,ml,mp,es1,es2,g1,g2,g3,g4,g5,g6,g7,g8,g9,g10,g11⟩:=id P.row;obtain ⟨id,h2,h3,p1,p2,p3,p4,p5,q1,q2,q3,q4,q5⟩:=P.push (off:=7) (ys:=[.i .i64 a]) hv g1 rfl g6 hl rfl (by decide);refine ⟨xb,id,h2,h3,p1,p2,p3,⟨q2,P.ge,q4,P.il,P.ilen,P.tlen,xr,xi,xt,_,xm,ml,mp,es1,es2,p4,q3,g3.kept λid e=>q5 4 _ _ (by decide) rfl e,g4.kept λid e=>q5 5 _ _ (by decide) rfl e,g5.kept λid e=>q5 6 _ _ (by decide) rfl e,?_,g7.kept λid e=>q5 8 _ _ (by decide) rfl e,?_,g9,?_,g11⟩,q1⟩
 ·have e1:encI (c.blocks++[a])=encI c.blocks++[.i .i64 a]:=A2Y _ _;rw [e1,E7a];exact p5
 ·rw [q5 10 (.m ml) ml (by decide) rfl rfl];exact g8
 ·rw [q5 11 (.m mp) mp (by decide) rfl rfl];exact g10
theorem WP.pushMade (hv:∃ id cs,f=.f id cs) (P:WP D n m f g r c h) {b:List UInt8} (hb:b.length=256) (hl:c.made.length<=100000) :
  ∃ x id h2 h3,B8 h (pV r 8)=A4 (.c x)/\jZ (h++[rT (B4 b)]) 256 (.c x) (sV h.length 0 1 256)=A4 (sV id 0 (c.made.length+1) 256,h2)/\I3 h2 (pV r 8) (sV id 0 (c.made.length+1) 256)=A4 h3 /\
   WP D n m f g r { c with made:=c.made++[b] } h3/\Fr r h h3:=by
 obtain ⟨xr,xi,xt,xb,xm,ml,mp,es1,es2,g1,g2,g3,g4,g5,g6,g7,g8,g9,g10,g11⟩:=id P.row;obtain ⟨id,h2,h3,p1,p2,p3,p4,p5,q1,q2,q3,q4,q5⟩:=P.push (off:=8) (ys:=B4 b) hv g1 rfl g7 hl (by rw [A9,hb]) (by decide);refine ⟨xm,id,h2,h3,p1,p2,p3,⟨q2,P.ge,q4,P.il,P.ilen,P.tlen,xr,xi,xt,xb,_,ml,mp,es1,es2,p4,q3,g3.kept λid e=>q5 4 _ _ (by decide) rfl e,g4.kept λid e=>q5 5 _ _ (by decide) rfl e,g5.kept λid e=>q5 6 _ _ (by decide) rfl e,g6.kept λid e=>q5 7 _ _ (by decide) rfl e,?_,?_,g9,?_,g11⟩,q1⟩
 ·have e1:D5 (c.made++[b])=D5 c.made++B4 b:=by simp [D5]
  rw [e1,E7a];exact p5
 ·rw [q5 10 (.m ml) ml (by decide) rfl rfl];exact g8
 ·rw [q5 11 (.m mp) mp (by decide) rfl rfl];exact g10
def S5 (c:Cl) (no:Int) (b:List UInt8):Cl:={ c with blocks:=c.blocks++[no],made:=c.made++[b] }
theorem D3i {no:Int} {b:List UInt8} (hv:∃ id cs,f=.f id cs) (P:WP D n m f g r c h) (hb:b.length=256) (h1:c.blocks.length<=100000) (h2:c.made.length<=100000) :
  ∃ h',qZ [pV r 0,iV no,.a (B4 b)] h=A4 (.t [],h')/\WP D n m f g r (S5 c no b) h'/\Fr r h h':=by
 have hbl:(B4 b).length=256:=by rw [A9,hb]
 have P1:=P.more hv [rT (B4 b)];have F1:Fr r h (h++[rT (B4 b)]):=Fr.low ((Low.refl (E7b _)).new _) P.rlt;obtain ⟨G,hG⟩:∃ G,G=h++[rT (B4 b)]:=⟨_,rfl⟩;have hl0:Loc G r h.length:=by
  rw [hG];refine ⟨by simp,by have:=P.rlt;omega,λhn=>?_⟩;have:=C1d hv P ((Nam.same (D9 P.rlt)).1 hn);omega
 have hr0:rd G h.length=rT (B4 b):=by rw [hG];exact T9
 rw [<-hG] at P1 F1;obtain ⟨x,id,g2,g3,a1,a2,a3,a4,a5⟩:=P1.pushBlk hv no h1;obtain ⟨l1,l2⟩:=a5.loc hl0;rw [hr0] at l2;have lB:D4 g3 256 (pV h.length 0)=A4 (.a (B4 b)):=C7 l2 hbl;obtain ⟨x',bF,g4,g5,b1,b2,b3,b4,b5⟩:=a4.pushMade hv hb h2;refine ⟨g5,A9S (n:=0) ?_,b4,F1.trans (a5.trans b5)⟩;rw [A9l];have ef:E4 (E68 256 (Cell.i .u8 0)) [(0,256,.a (B4 b))]=A4 (B4 b):=D1e hb;have ef0:E4 [o0] [(0,1,iV no)]=A4 [.i .i64 no]:=rfl;have es:(g3++[A7]).set g3.length (rT (B4 b))=g3++[rT (B4 b)]:=by simp
 rw [hG] at a1 a2;simp only [E7c,E7E,E7m,E7a,E7g,E7v,E7t] at a2;generalize B4 b=B at *;generalize E68 256 (Cell.i .u8 0)=Z at *;simp only [esc,Nat.reduceAdd,Nat.add_zero,ef0,a1,a2,a3,lB,ef,es,b1,b2,b3];rfl
end
def iP (D:Dev) (n:Int) (c:Cl) (ino:Int):Bool:=!(decide (ino=1)||decide (kdV D n ino=0)||decide (kdV D n ino=2)&&(c.par ino).isSome)
def B1N (c:Cl) (ino:Int):Cl:={ c with lnk:=vO c.lnk ino ((c.lnk ino).getD 0+1) }
def D6M (c:Cl) (dir ino:Int):Cl:={ c with par:=vO c.par ino dir,row:=c.row++[ino] }
def dL (D:Dev) (n:Int) (c:Cl) (dir ino:Int):Cl:=bif iP D n c ino then (bif (c.par ino).isSome then B1N c ino else D6M (B1N c ino) dir ino) else c
section
variable {D:Dev} {n m:Int} {f:Cell} {g:B5} {r:Nat} {c:Cl} {h:B5}
theorem WP.setLnk (hv:∃ id cs,f=.f id cs) (P:WP D n m f g r c h) (a v:Int):∃ ml h',B8 h (.c (.p r 10))=A4 (.c (.m ml))/\(∀ ok i,A8j h (A4 .i64) (.c o0) ok (.c (.m ml)) (.c (.i .i64 i))=A4 (A5S ok (.c (.i .i64 ((c.lnk i).getD 0))) (c.lnk i).isSome)) /\
  A2O h (A4 .i64) (.c (.m ml)) (.c (.i .i64 a)) (.c (.i .i64 v))=A4 h'/\WP D n m f g r { c with lnk:=vO c.lnk a v } h'/\Fr r h h':=by
 obtain ⟨xr,xi,xt,xb,xm,ml,mp,es1,es2,g1,g2,g3,g4,g5,g6,g7,g8,g9,g10,g11⟩:=id P.row;have l1:B8 h (.c (.p r 10))=A4 (.c (.m ml)):=C4 g1 rfl rfl;obtain ⟨q1,q2,q3,q4,q5⟩:=P.mod (off:=10) (x:=.m ml) hv g1 rfl rfl (A4 (T1 (A88 (.i .i64 a) (.c (.i .i64 v)) es1)));refine ⟨ml,_,l1,λok i=>E3r g8 g9,E4z g8 g9,⟨q2,P.ge,λid hn=>P.low id ((Nam.same q3).1 hn),P.il,P.ilen,P.tlen,xr,xi,xt,xb,xm,ml,mp,_,es2,by rw [q3];exact g1,g2,g3.kept λid e=>q4 4 _ _ (by decide) rfl e,g4.kept λid e=>q4 5 _ _ (by decide) rfl e,g5.kept λid e=>q4 6 _ _ (by decide) rfl e,g6.kept λid e=>q4 7 _ _ (by decide) rfl e,g7.kept λid e=>q4 8 _ _ (by decide) rfl e,q5,g9.put a v,?_,g11⟩,q1⟩;rw [q4 11 (.m mp) mp (by decide) rfl rfl];exact g10
theorem WP.setPar (hv:∃ id cs,f=.f id cs) (P:WP D n m f g r c h) (a v:Int):∃ mp h',B8 h (.c (.p r 11))=A4 (.c (.m mp))/\(∀ ok i,A8j h (A4 .i64) (.c o0) ok (.c (.m mp)) (.c (.i .i64 i))=A4 (A5S ok (.c (.i .i64 ((c.par i).getD 0))) (c.par i).isSome)) /\
  A2O h (A4 .i64) (.c (.m mp)) (.c (.i .i64 a)) (.c (.i .i64 v))=A4 h'/\WP D n m f g r { c with par:=vO c.par a v } h'/\Fr r h h':=by
 obtain ⟨xr,xi,xt,xb,xm,ml,mp,es1,es2,g1,g2,g3,g4,g5,g6,g7,g8,g9,g10,g11⟩:=id P.row;have l1:B8 h (.c (.p r 11))=A4 (.c (.m mp)):=C4 g1 rfl rfl;obtain ⟨q1,q2,q3,q4,q5⟩:=P.mod (off:=11) (x:=.m mp) hv g1 rfl rfl (A4 (T1 (A88 (.i .i64 a) (.c (.i .i64 v)) es2)));refine ⟨mp,_,l1,λok i=>E3r g10 g11,E4z g10 g11,⟨q2,P.ge,λid hn=>P.low id ((Nam.same q3).1 hn),P.il,P.ilen,P.tlen,xr,xi,xt,xb,xm,ml,mp,es1,_,by rw [q3];exact g1,g2,g3.kept λid e=>q4 4 _ _ (by decide) rfl e,g4.kept λid e=>q4 5 _ _ (by decide) rfl e,g5.kept λid e=>q4 6 _ _ (by decide) rfl e,g6.kept λid e=>q4 7 _ _ (by decide) rfl e,g7.kept λid e=>q4 8 _ _ (by decide) rfl e,?_,g9,q5,g11.put a v⟩,q1⟩;rw [q4 10 (.m ml) ml (by decide) rfl rfl];exact g8
theorem WP.view (P:WP D n m f g r c h):D4 h 4 (pV r 0)=A4 (.a (vwC D.length n m f)):=by
 obtain ⟨xr,xi,xt,xb,xm,ml,mp,es1,es2,g1,_⟩:=P.row;exact dI g1 (by simp [wkC]) rfl
theorem E26 {dir ino:Int} (hD:okD D) (hv:IsView g f D) (P:WP D n m f g r c h) (hl:c.row.length<=100000) (hk:0<=(c.lnk ino).getD 0/\(c.lnk ino).getD 0<1000000) :
  ∃ h',jR [pV r 0,iV dir,iV ino] h=A4 (bV (iP D n c ino),h')/\WP D n m f g r (dL D n c dir ino) h'/\Fr r h h':=by
 have hv2:=hv.get;have lV:=P.view;have hI:=oF (n:=n) (m:=m) (i:=ino) hD (hv.since P.lo);rw [A7D] at hI;have f0:∀ k l s p d,C2u (.a (F8 k l s p d)) 0=A4 (iV k):=λ_ _ _ _ _=>rfl
 obtain ⟨mp,h9,b1,b2,b3,b4,b5⟩:=P.setPar hv2 ino dir;have b2':=b2 A5 ino;obtain ⟨ml,h1,a1,a2,a3,a4,a5⟩:=P.setLnk hv2 ino ((c.lnk ino).getD 0+1);have a2':=a2 A6 ino;have w1:IntKind.wrap .i64 ((c.lnk ino).getD 0+1)=(c.lnk ino).getD 0+1:=wrap_i64 (by omega) (by omega);have no:iP D n c ino=A6->∃ h',jR [pV r 0,iV dir,iV ino] h=A4 (bV A6,h')/\WP D n m f g r c h'/\Fr r h h':=by
  intro hb;refine ⟨h,kJ (n:=0) ?_,P,Fr.refl r h⟩;rw [dA];unfold iP at hb;simp only [Bool.not_eq_false',E74,E69,decide_eq_true_eq] at hb;by_cases c1:ino=1
  ·have n1:(1:Int)=1:=rfl;subst c1;generalize vwC D.length n m f=V at *;simp only [esc,Nat.reduceAdd,lV,hI,f0,b1,b2',A5S,xM,decide_true]
  ·by_cases c2:kdV D n ino=0
   ·generalize vwC D.length n m f=V at *;simp only [esc,Nat.reduceAdd,lV,hI,f0,b1,b2',A5S,xM,c1,c2,decide_true,decide_false]
   ·have c3:kdV D n ino=2/\(c.par ino).isSome=A5:=by
     rcases hb with (h | h) | h
     ·exact absurd h c1
     ·exact absurd h c2
     ·exact h
    obtain ⟨c3,c4⟩:=c3;have n20:¬ (2:Int)=0:=by decide
    generalize vwC D.length n m f=V at *;simp only [esc,Nat.reduceAdd,lV,hI,f0,b1,b2',A5S,xM,c1,c3,c4,n20,decide_true,decide_false]
 cases hb:iP D n c ino with
 | false =>
  obtain ⟨h',e1,e2,e3⟩:=no hb;exact ⟨h',e1,by unfold dL;rw [hb];exact e2,e3⟩
 | true =>
  unfold dL;rw [hb];unfold iP at hb;simp only [E7V,Bool.or_eq_false_iff,Bool.and_eq_false_iff,decide_eq_false_iff_not] at hb;obtain ⟨⟨c1,c2⟩,c3⟩:=hb;have P1:WP D n m f g r (B1N c ino) h1:=a4;cases hs:(c.par ino).isSome with
  | true =>
   have c4:¬ kdV D n ino=2:=by
    rcases c3 with h | h
    ·exact h
    ·rw [hs] at h;cases h
   refine ⟨h1,kJ (n:=0) ?_,P1,a5⟩;rw [dA];rw [hs] at b2';generalize vwC D.length n m f=V at *;simp only [esc,Nat.reduceAdd,lV,hI,f0,b1,b2',A5S,xM,c1,c2,c4,decide_false,a1,a2',A1v,w1,a3,dA,jE]
  | false =>
   obtain ⟨mp',h2,d1,d2,d3,d4,d5⟩:=P1.setPar hv2 ino dir;obtain ⟨x,id,g2,g3,e1,e2,e3,e4,e5⟩:=d4.pushRow hv2 ino hl;have e4':WP D n m f g r (D6M (B1N c ino) dir ino) g3:=e4;refine ⟨g3,kJ (n:=0) ?_,e4',(a5.trans d5).trans e5⟩;rw [dA];rw [hs] at b2';have ef0:E4 [o0] [(0,1,iV ino)]=A4 [.i .i64 ino]:=rfl;generalize vwC D.length n m f=V at *;by_cases c4:kdV D n ino=2
   ·have n20:¬ (2:Int)=0:=by decide
    simp only [esc,Nat.reduceAdd,lV,hI,f0,b1,b2',A5S,xM,c1,c4,n20,decide_true,decide_false,a1,a2',A1v,w1,a3,d1,d3,ef0,e1,e2,e3,jE]
   ·simp only [esc,Nat.reduceAdd,lV,hI,f0,b1,b2',A5S,xM,c1,c2,c4,decide_true,decide_false,a1,a2',A1v,w1,a3,d1,d3,ef0,e1,e2,e3,jE]
end
def hmS (D:Dev) (X:List Int) (nm:List UInt8):Option Slt:=if R3 X nm=0 then A7 else W7 (blk D (R3 X nm)) nm
def C1l (no:Int) (o:Option Slt):List Cell:=.i .i64 no::slC o
theorem E2w {D:Dev} {n m:Int} {f xr xi xt xb xm:Cell} {lost:Int} {ml mp:Nat} (hf:f.isX=A6) (h1:xr.isX=A6) (h2:xi.isX=A6) (h3:xt.isX=A6) (h4:xb.isX=A6) (h5:xm.isX=A6):noX (wkC D n m f xr xi xt xb xm lost ml mp)=A5:=by
 simp only [noX,wkC,E7P,List.all_nil,hf,h1,h2,h3,h4,h5];rfl
theorem HeldX.isX {h:B5} {x:Cell} {cs:List Cell} {n sz r:Nat} (hx:HeldX h x cs n sz r):x.isX=A6:=by
 rcases hx with ⟨_,_,rfl⟩ | ⟨id,rfl,_⟩<;>rfl
section
variable {D:Dev} {n m:Int} {f:Cell} {g:B5} {r:Nat} {c:Cl} {h:B5}
def VwR (h:B5) (r:Nat) (V:List Cell):Prop:=∃ cs w,rd h r=A4 ⟨cs,w⟩/\cs.take 4=V/\4<=cs.length/\noX cs=A5
theorem VwR.ro {V:List Cell} (a:VwR h r V):VwR (ro h) r V:=by
 obtain ⟨cs,w,h1,h2,h3,h4⟩:=a;exact ⟨cs,A6,B80 h1 h4,h2,h3,h4⟩
theorem VwR.more {V:List Cell} (a:VwR h r V) (t:B5):VwR (h++t) r V:=by
 obtain ⟨cs,w,h1,h2⟩:=a;exact ⟨cs,w,C5 h1,h2⟩
theorem VwR.since {V:List Cell} {h':B5} (a:VwR h r V) (hl:Low h.length h h'):VwR h' r V:=by
 obtain ⟨cs,w,h1,h2⟩:=a;exact ⟨cs,w,hl.rd h1,h2⟩
theorem VwR.load {V:List Cell} (a:VwR h r V):D4 h 4 (pV r 0)=A4 (.a V):=by
 obtain ⟨cs,w,h1,h2,h3,h4⟩:=a;rw [dI h1 (by omega) (by
  rw [E7p];have:noX (cs.take 4)=A5:=by
   unfold noX at h4 ⊢;rw [E70] at h4 ⊢;exact λx hx=>h4 x (List.mem_of_mem_take hx)
  rw [this];simp),E7p,h2]
theorem WP.vw (hv:∃ id cs,f=.f id cs) (P:WP D n m f g r c h):VwR h r (vwC D.length n m f):=by
 obtain ⟨xr,xi,xt,xb,xm,ml,mp,es1,es2,g1,g2,g3,g4,g5,g6,g7,_⟩:=P.row;obtain ⟨_,_,rfl⟩:=hv;exact ⟨_,A5,g1,rfl,by simp [wkC],E2w rfl g3.isX g4.isX g5.isX g6.isX g7.isX⟩
theorem D7z {d:Int} {t:List Int} {nm:List UInt8} (hD:okD D) (hv:IsView h f D) (hr:VwR h r (vwC D.length n m f)) (ht:t.length=32) (hs:nm.length<9223372036854775807) :
  qY [pV r 0,.a (encI (d::t)),.c (.s nm)] h=A4 (.t [.a (C1l (R3 (d::t) nm) (hmS D (d::t) nm)),.c (.b (hmS D (d::t) nm).isSome)],h):=by
 have hX:(encI (d::t)).length=33:=by simp [B7,ht]
 have hv1:=hv.ro;have lV:=λtt=>(hr.ro.more tt).load
 have key:∃ g',qR 0 [pV r 0,.a (encI (d::t)),.c (.s nm)] (ro h)=A4 (.t [.a (C1l (R3 (d::t) nm) (hmS D (d::t) nm)),.c (.b (hmS D (d::t) nm).isSome)],g'):=by
  generalize ro h=g at *;have hM:=λh=>D1R (s:=nm) hs (h:=h)
  have hP:=λh=>C71 (d:=d) (h:=h) ht (C4O (s:=nm))
  have V5:=D46 (d::t) nm;have eP:zF nm%D1 d=A1L (d::t) nm:=rfl;rw [eP] at hP;have ad:∀ q,J8 32 1 (pV q 1) (iV (A1L (d::t) nm:Nat))=A4 (pV q (1+A1L (d::t) nm)):=λq=>by
   rw [D9z (by omega) (by omega)];simp
  have l1:ld1 (rT (encI (d::t))) (1+A1L (d::t) nm)=A4 (iV (R3 (d::t) nm)):=by
   rw [A3a];have:(encI (d::t))[1+A1L (d::t) nm]?=A4 (.i .i64 (R3 (d::t) nm)):=by
    rw [G8,Nat.add_comm,E7S,E66 (by omega)];unfold R3;rw [List.tail_cons,E7e,E66 (by omega)];rfl
   rw [this];rfl
  have ef0:E4 [o0,o0,.s [],o0] []=A4 (C1l 0 A7):=rfl;have ef1:∀ (no:Int) (o:Option Slt),E4 [o0,o0,.s [],o0] [(0,1,iV no),(1,3,.a (slC o))]=A4 (C1l no o):=λno o=>by cases o<;>rfl
  have z4:∀ o no,stN (rT [o0,o0,.s [],o0]) 0 4 (C1l no o)=rT (C1l no o):=λo no=>by cases o<;>rfl
  have l4:∀ o no,ldN (rT (C1l no o)) 0 4=A4 (.a (C1l no o)):=λo no=>by cases o<;>rfl
  have s3:∀ o,stN (rT [o0,.s [],o0]) 0 3 (slC o)=rT (slC o):=λo=>by cases o<;>rfl
  have l3:∀ o,ldN (rT (slC o)) 0 3=A4 (.a (slC o)):=λo=>by cases o<;>rfl
  have l33:ldN (rT (encI (d::t))) 0 33=A4 (.a (encI (d::t))):=jY hX;rw [A9k];unfold hmS;have hB:=λtt=>bI (n:=n) (m:=m) (no:=R3 (d::t) nm) (h:=g++tt) hD (hv1.more _)
  have hF:=λh=>B0W (b:=blk D (R3 (d::t) nm)) (nm:=nm) (h:=h) (O5 hD)
  generalize R3 (d::t) nm=B at *;generalize A1L (d::t) nm=P at *;by_cases c0:B=0
  ·rw [if_pos c0,c0];rw [c0] at l1;generalize encI (d::t)=X at *;generalize vwC D.length n m f=V at *;exact ⟨_,by simp only [esc,bL,Q9,fE,T7,V1,L7,jY,nL,Nat.reduceAdd,hX,hM,hP,ad,l1,l33,decide_true,ef0,z4,l4,E7x]<;>rfl⟩
  ·rw [if_neg c0];generalize W7 (blk D B) nm=o at *;generalize B4 (blk D B)=y at *;generalize encI (d::t)=X at *;generalize vwC D.length n m f=V at *;exact ⟨_,by simp only [esc,bL,Q9,fE,T7,V1,L7,jY,nL,Nat.reduceAdd,hX,hM,hP,ad,l1,l33,c0,decide_false,lV,hB,hF,ef1,z4,l4,s3,l3]<;>rfl⟩
 obtain ⟨g',e⟩:=key;exact A6H e (by cases hmS D (d::t) nm<;>rfl)
end
def LocV (h:B5) (r id:Nat) (cs:List Cell):Prop:=Loc h r id/\rd h id=rT cs
section
variable {D:Dev} {n m:Int} {f:Cell} {g:B5} {r:Nat} {c:Cl} {h:B5}
theorem LocV.fr {h':B5} {id:Nat} {cs:List Cell} (a:LocV h r id cs) (b:Fr r h h'):LocV h' r id cs:=by
 obtain ⟨h1,h2⟩:=b.loc a.1;exact ⟨h1,by rw [h2];exact a.2⟩
theorem LocV.set {id j:Nat} {cs:List Cell} {x:Option Row} (a:LocV h r id cs) (hj:j≠id) (hl:j≠r):LocV (h.set j x) r id cs:=by
 refine ⟨⟨by simpa using a.1.1,a.1.2.1,λhn=>a.1.2.2 ((Nam.same (B6 hl)).1 hn)⟩,by rw [B6 hj];exact a.2⟩
theorem LocV.self {id:Nat} {cs cs':List Cell} (a:LocV h r id cs):LocV (h.set id (rT cs')) r id cs' :=
 ⟨⟨by simpa using a.1.1,a.1.2.1,λhn=>a.1.2.2 ((Nam.same (B6 a.1.2.1)).1 hn)⟩,C6 a.1.1⟩
theorem LocV.new (hv:∃ id cs,f=.f id cs) (P:WP D n m f g r c h) {t:B5} {k:Nat} {cs:List Cell} (hk:t[k]?=A4 (rT cs)):LocV (h++t) r (h.length+k) cs:=by
 have hk2:=(List.getElem?_eq_some_iff.1 hk).1;refine ⟨⟨by simp;omega,by have:=P.rlt;omega,λhn=>?_⟩,?_⟩
 ·have:=C1d hv P ((Nam.same (D9 P.rlt)).1 hn);omega
 ·unfold rd;rw [E7l (by omega),show h.length+k-h.length=k by omega,hk];rfl
theorem E0i {k:Nat} {x many:Int} {pm pw:Nat} (P:WP D n m f g r c h) (hm:LocV h r pm [.i .i64 many]) (hw:LocV h r pw [.p r 0]) (hk:k<128) :
  ∃ h',eR [iV (k:Int),iV x,pV pm 0,pV pw 0] h=A4 (bV (decide ((k:Int)+6<many) && !decide (U1 D n c x=0)),h') /\
   WP D n m f g r (if (k:Int)+6<many then dU D n c x else c) h'/\Fr r h h':=by
 have l1:B8 h (pV pm 0)=A4 (iV many):=C4 hm.2 rfl rfl;have l2:B8 h (pV pw 0)=A4 (pV r 0):=C4 hw.2 rfl rfl;have w1:IntKind.wrap .i64 ((k:Int)+6)=(k:Int)+6:=wrap_i64 (by omega) (by omega);by_cases c1:(k:Int)+6<many
 ·obtain ⟨h',e1,e2,e3⟩:=B8z (no:=x) P;refine ⟨h',qX (n:=0) ?_,by rw [if_pos c1];exact e2,e3⟩;rw [qQ];simp only [esc,w1,l1,l2,c1,e1,E7j]
 ·refine ⟨h,qX (n:=0) ?_,by rw [if_neg c1];exact P,Fr.refl r h⟩;rw [qQ];simp only [esc,w1,l1,l2,c1,E7f]
def iK (D:Dev) (n many:Int) (s:Cl × List UInt8) (k:Nat):Cl × List UInt8 :=
 if ptP s.2 k=0 then s else
  (if (k:Int)+6<many then dU D n s.1 (ptP s.2 k) else s.1,bif decide ((k:Int)+6<many) && !decide (U1 D n s.1 (ptP s.2 k)=0) then s.2 else J1 s.2 (2*k) (B9 2 0))
def cF (D:Dev) (n many:Int):Nat->Nat->Cl × List UInt8->Cl × List UInt8
 | 0,_,s=>s
 | e+1,k,s=>cF D n many e (k+1) (iK D n many s k)
theorem C03 {D:Dev} {n many:Int} {s:Cl × List UInt8} {k:Nat} (hs:s.2.length=256) (hk:k<128):(iK D n many s k).2.length=256:=by
 unfold iK;split
 ·exact hs
 ·dsimp only;cases (decide ((k:Int)+6<many) && !decide (U1 D n s.1 (ptP s.2 k)=0)) with
  | true=>exact hs
  | false=>rw [cond_false,P5 (by rw [hs,Q5];omega)];exact hs
theorem B2v {D:Dev} {n many:Int}:∀ {e k:Nat} {s:Cl × List UInt8},k+e<=128->s.2.length=256->(cF D n many e k s).2.length=256
 | 0,_,s,_,hs=>hs
 | e+1,k,s,hk,hs=>by
  rw [cF];exact B2v (by omega) (C03 hs (by omega))
theorem D5w {many:Int} {pm pw q0 q1 q:Nat} {h0:B5} (h0g:g.length<=h0.length) (a0:h0.length<=q0) (a1:h0.length<=q1) (n1:q0≠q1) (n2:q0≠pm) (n3:q0≠pw):∀ (e k M:Nat) (s:Cl × List UInt8) (h:B5),k+e=128->e<M->s.2.length=256 ->
  WP D n m f g r s.1 h->Fr r h0 h->LocV h r pm [.i .i64 many]->LocV h r pw [.p r 0]->LocV h r q0 (B4 s.2)->(∃ z,z.length=256/\LocV h r q1 z) ->
  ∃ h',sM q M (.c (.f 98 [(pm,0),(pw,0)])) (pV q0 0) (pV q1 0) (iV (k:Int)) h=A4 (.a (B4 (cF D n many e k s).2),h')/\WP D n m f g r (cF D n many e k s).1 h'/\Fr r h0 h'
 | e,k,0,s,h,_,hM,_,_,_,_,_,_,_=>by omega
 | 0,k,M+1,s,h,hk,hM,hs,P,F,hm,hw,hb,hz=>by
  have c0:¬ ((k:Int)<128):=by omega
  obtain ⟨z,yN,hz⟩:=hz;have hl:(B4 s.2).length=256:=by rw [A9,hs]
  have l1:=C7 (n:=256) hb.2 hl;have s1:=storeAll (n:=256) (xs:=B4 s.2) hz.2 yN hl;have hz2:=hz.self (cs':=B4 s.2);have l2:=C7 (n:=256) hz2.2 hl;refine ⟨h.set q1 (rT (B4 s.2)),?_,P.set hz.1 (by omega),F.set hz.1 a1⟩;rw [nS];unfold cF;generalize B4 s.2=B at *;simp only [esc,c0,l1,s1,l2]
 | e+1,k,M+1,s,h,hk,hM,hs,P,F,hm,hw,hb,hz=>by
  have c0:((k:Int)<128):=by omega
  have hk1:k<128:=by omega
  have hl:(B4 s.2).length=256:=by rw [A9,hs]
  have l1:=C7 (n:=256) hb.2 hl;have hG:=D0y (h:=h) hs hk1;have w1:=D3 (show k+1<9223372036854775808 by omega);have hfs:=C03 (D:=D) (n:=n) (many:=many) hs hk1;have ih:=λh=>D5w (q:=q) (many:=many) h0g a0 a1 n1 n2 n3 e (k+1) M (iK D n many s k) h (by omega) (by omega) hfs
  have hcv:∀ (k x:Val) (h:B5),A2R tA (.c (.f 98 [(pm,0),(pw,0)])) [k,x] h=eR [k,x,pV pm 0,pV pw 0] h:=λ_ _ _=>Eq.trans rfl rfl
  rw [nS,cF];by_cases cz:ptP s.2 k=0
  ·have ef:iK D n many s k=s:=by unfold iK;rw [if_pos cz]
   rw [ef] at ih ⊢;obtain ⟨h',e1,e2⟩:=ih h P F hm hw hb hz;refine ⟨h',?_,e2⟩;rw [cz] at hG;generalize B4 s.2=B at *;simp only [esc,c0,l1,hG,cK,w1];exact e1
  ·obtain ⟨h1,f1,f2,f3⟩:=E0i (x:=ptP s.2 k) P hm hw hk1;have hb1:=hb.fr f3;have hm1:=hm.fr f3;have hw1:=hw.fr f3;obtain ⟨z,yN,hz⟩:=hz;have hz1:=hz.fr f3;cases hok:(decide ((k:Int)+6<many) && !decide (U1 D n s.1 (ptP s.2 k)=0)) with
   | true =>
    have ef:iK D n many s k=(if (k:Int)+6<many then dU D n s.1 (ptP s.2 k) else s.1,s.2):=by unfold iK;rw [if_neg cz,hok];rfl
    rw [ef] at ih ⊢;obtain ⟨h',e1,e2⟩:=ih h1 f2 (F.trans f3) hm1 hw1 hb1 ⟨z,yN,hz1⟩;refine ⟨h',?_,e2⟩;rw [hok] at f1
    try dsimp only at e1
    generalize B4 s.2=B at *;simp only [esc,c0,l1,hG,cz,hcv,f1,cK,w1];exact e1
   | false =>
    have ef:iK D n many s k=(if (k:Int)+6<many then dU D n s.1 (ptP s.2 k) else s.1,J1 s.2 (2*k) (B9 2 0)):=by unfold iK;rw [if_neg cz,hok];rfl
    rw [ef] at ih hfs ⊢;have hW:=λh=>Y6 (h:=h) (l:=s.2) hs (a:=((2*k:Nat):Int)) (w:=2) (v:=0)
    rw [E1I (by omega)] at hW;have lb1:=C7 (n:=256) hb1.2 hl;have hl2:(B4 (J1 s.2 (2*k) (B9 2 0))).length=256:=by rw [A9];exact hfs
    have sb1:=storeAll (n:=256) (xs:=B4 (J1 s.2 (2*k) (B9 2 0))) hb1.2 hl hl2;obtain ⟨h',e1,e2⟩:=ih _ (f2.set hb1.1 (by omega)) ((F.trans f3).set hb1.1 a0) (hm1.set n2 hb1.1.2.1) (hw1.set n3 hb1.1.2.1) hb1.self ⟨z,yN,hz1.set n1 hb1.1.2.1⟩;refine ⟨h',?_,e2⟩;rw [hok] at f1
    try dsimp only at e1
    generalize B4 (J1 s.2 (2*k) (B9 2 0))=B2 at *;generalize B4 s.2=B at *;simp only [esc,c0,l1,hG,cz,hcv,f1,lb1,D69 (show k<128 by omega),hW,sb1,cK,w1];exact e1
end
theorem aC {x:List Int} {l:List (List Int)}:U2 (x::l)=encI x++U2 l:=rfl
theorem T5:∀ {l:List (List Int)},(∀ x∈l,x.length=11)->(U2 l).length=l.length*11
 | [],_=>rfl
 | x::l,h=>by
  rw [aC,E7a,B7,h x (E7u ..),T5 λy hy=>h y (E7s _ hy),E7g];omega
theorem B2C (l:List (List Int)):noX (U2 l)=A5:=by
 induction l with
 | nil=>rfl
 | cons x l ih =>
  rw [aC];have h1:=aR x;simp only [noX,List.all_append,E69] at h1 ih ⊢;exact ⟨h1,ih⟩
theorem B8x:∀ {l:List (List Int)} {i:Nat} (h:∀ x∈l,x.length=11) (hi:i<l.length),((U2 l).drop (i*11)).take 11=encI l[i]
 | x::l,0,h,_=>by
  have:=h x (E7u ..);rw [aC,Nat.zero_mul,E7p,List.take_left' (by rw [B7,this])];rfl
 | x::l,i+1,h,hi=>by
  have:=h x (E7u ..);rw [aC,show (i+1)*11=11+i*11 by omega,<-E7X,List.drop_left' (by rw [B7,this])];exact B8x (λy hy=>h y (E7s _ hy)) (by simpa using hi)
theorem C8c:∀ {l:List (List Int)} {i:Nat} {y:List Int} (h:∀ x∈l,x.length=11) (hy:y.length=11) (hi:i<l.length),lay (U2 l) (i*11) (encI y)=U2 (l.set i y)
 | x::l,0,y,h,hy,_=>by
  have:=h x (E7u ..);unfold lay;rw [aC,Nat.zero_mul,E76,E7m,B7,E7t,hy,List.drop_left' (by rw [B7,this])];rfl
 | x::l,i+1,y,h,hy,hi=>by
  have hx:=h x (E7u ..);have ih:=C8c (l:=l) (i:=i) (y:=y) (λy hy=>h y (E7s _ hy)) hy (by simpa using hi);rw [E7U,aC,aC,<-ih];unfold lay;rw [show (i+1)*11=(encI x).length+i*11 by rw [B7,hx];omega,List.take_length_add_append,Nat.add_assoc,List.drop_length_add_append,E7c]
section
variable {D:Dev} {n m:Int} {f:Cell} {g:B5} {r:Nat} {c:Cl} {h:B5}
theorem WP.setIno (hv:∃ id cs,f=.f id cs) (P:WP D n m f g r c h) {k:Nat} {l:List Int} (hk:k<c.ino.length) (hl:l.length=11) :
  ∃ id h',B8 h (pV r 5)=A4 (sV id 0 c.ino.length 11)/\rd h id=rT (U2 c.ino)/\E6 h 11 (pV id (k*11)) (.a (encI l))=A4 h'/\WP D n m f g r { c with ino:=c.ino.set k l } h'/\Fr r h h':=by
 obtain ⟨xr,xi,xt,xb,xm,ml,mp,es1,es2,g1,g2,g3,g4,g5,g6,g7,g8,g9,g10,g11⟩:=id P.row;rcases g4 with ⟨e,_,_⟩ | ⟨t,rfl,t1,t2,t3⟩
 ·omega
 ·have l1:B8 h (pV r 5)=A4 (sV t 0 c.ino.length 11):=C4 g1 rfl rfl;have st:=B2I (n:=11) (off:=k*11) (xs:=encI l) t1 (by rw [B7,hl]) (by rw [t2];omega);rw [C8c P.il hl hk] at st;obtain ⟨q1,q2,q3,q4,q5⟩:=P.mod (off:=5) (x:=.sl t 0 c.ino.length 11) hv g1 rfl rfl (rT (U2 (c.ino.set k l)));have O9:∀ x∈c.ino.set k l,x.length=11:=λx hx=>by
   rcases E7O hx with h1 | h1
   ·exact P.il x h1
   ·rw [h1];exact hl
  refine ⟨t,_,l1,t1,st,⟨q2,P.ge,λid hn=>P.low id ((Nam.same q3).1 hn),O9,by simpa using P.ilen,P.tlen,xr,_,xt,xb,xm,ml,mp,es1,es2,by rw [q3];exact g1,g2,g3.kept λid e=>q4 4 _ _ (by decide) rfl e,.inr ⟨t,by simp,q5,by rw [T5 O9],t3⟩,g5.kept λid e=>q4 6 _ _ (by decide) rfl e,g6.kept λid e=>q4 7 _ _ (by decide) rfl e,g7.kept λid e=>q4 8 _ _ (by decide) rfl e,?_,g9,?_,g11⟩,q1⟩
  ·rw [q4 10 (.m ml) ml (by decide) rfl rfl];exact g8
  ·rw [q4 11 (.m mp) mp (by decide) rfl rfl];exact g10
theorem WP.setLost (hv:∃ id cs,f=.f id cs) (P:WP D n m f g r c h) (a:Int):∃ h',B8 h (pV r 9)=A4 (iV c.lost)/\I3 h (pV r 9) (iV a)=A4 h'/\WP D n m f g r { c with lost:=a } h'/\Fr r h h':=by
 obtain ⟨xr,xi,xt,xb,xm,ml,mp,es1,es2,g1,g2,g3,g4,g5,g6,g7,g8,g9,g10,g11⟩:=id P.row;have l1:B8 h (pV r 9)=A4 (iV c.lost):=C4 g1 rfl rfl;have s1:=G9 (x:=.i .i64 a) (off:=9) g1 (by simp [wkC]);obtain ⟨q1,q2,q3,q4,q5⟩:=P.pushed (off:=9) (y:=.i .i64 a) (h3:=h.set r (rT ((wkC D n m f xr xi xt xb xm c.lost ml mp).set 9 (.i .i64 a)))) hv g1 rfl (C6 (C8 g1)) (λj e=>by cases e) (λj hj hr hn=>B6 (Ne.symm hr)) (by simp);refine ⟨_,l1,s1,⟨q2,P.ge,q4,P.il,P.ilen,P.tlen,xr,xi,xt,xb,xm,ml,mp,es1,es2,C6 (C8 g1),q3,g3.kept λid e=>q5 4 _ _ (by decide) rfl e,g4.kept λid e=>q5 5 _ _ (by decide) rfl e,g5.kept λid e=>q5 6 _ _ (by decide) rfl e,g6.kept λid e=>q5 7 _ _ (by decide) rfl e,g7.kept λid e=>q5 8 _ _ (by decide) rfl e,?_,g9,?_,g11⟩,q1⟩
 ·rw [q5 10 (.m ml) ml (by decide) rfl rfl];exact g8
 ·rw [q5 11 (.m mp) mp (by decide) rfl rfl];exact g10
theorem E2B {many:Int} {pm pw:Nat} {b:List UInt8} (hv:∃ id cs,f=.f id cs) (P:WP D n m f g r c h) (hm:LocV h r pm [.i .i64 many]) (hw:LocV h r pw [.p r 0]) (hb:b.length=256) :
  ∃ h',jB [.a (B4 b),.c (.f 98 [(pm,0),(pw,0)])] h=A4 (.a (B4 (cF D n many 128 0 (c,b)).2),h')/\WP D n m f g r (cF D n many 128 0 (c,b)).1 h'/\Fr r h h':=by
 have hl:(B4 b).length=256:=by rw [A9,hb]
 have P1:=P.more hv [rT (B4 b),rT (B4 (zeros 256))];have F1:Fr r h (h++[rT (B4 b),rT (B4 (zeros 256))]):=Fr.low ((Low.refl (E7b _)).new _) P.rlt;obtain ⟨h',e1,e2,e3⟩:=D5w (q:=200) (many:=many) (h0:=h) (q0:=h.length) (q1:=h.length+1) (pm:=pm) (pw:=pw) P.lo.2.1 (E7b _) (by omega) (by omega) (by have:=hm.1.1;omega) (by have:=hw.1.1;omega) 128 0 200 (c,b) _ (by omega) (by omega) hb P1 F1 (hm.fr F1) (hw.fr F1) (LocV.new (k:=0) hv P rfl) ⟨B4 (zeros 256),by rw [A9];exact zeros_length,LocV.new (k:=1) hv P rfl⟩;refine ⟨h',A35 (n:=200) ?_,e2,e3⟩;rw [A3F,I7];generalize zeros 256=z at *;simp only [esc];exact e1
end
def A7q (D:Dev) (n:Int) (d:List Int):Nat->Nat->Cl × List Int->Cl × List Int
 | 0,_,s=>s
 | e+1,k,s=>A7q D n d e (k+1) (dU D n s.1 (d.getD k 0),s.2.set k (U1 D n s.1 (d.getD k 0)))
def B8m (D:Dev) (n:Int) (d:List Int) (many:Int) (s:Cl × List Int):Cl × List Int :=
 if 6<many then (dU D n s.1 (d.getD 6 0),s.2.set 6 (U1 D n s.1 (d.getD 6 0))) else s
def eG (D:Dev) (n:Int) (c:Cl) (ino:Int):Cl × List Int:=B8m D n (drV D n ino) (A4d (szV D n ino)) (A7q D n (drV D n ino) (min (A4d (szV D n ino)) 6).toNat 0 (c,zI 7))
def Z3 (D:Dev) (n:Int) (c:Cl) (ino:Int):Cl:={ (eG D n c ino).1 with ino:=(eG D n c ino).1.ino.set ino.toNat (1::1::szV D n ino::0::(eG D n c ino).2) }
def iJ (D:Dev) (n:Int) (c:Cl) (ino:Int):Cl :=
 if (eG D n c ino).2.getD 6 0=0 then Z3 D n c ino else
  S5 (cF D n (A4d (szV D n ino)) 128 0 (Z3 D n c ino,blk D ((eG D n c ino).2.getD 6 0))).1 ((eG D n c ino).2.getD 6 0) (cF D n (A4d (szV D n ino)) 128 0 (Z3 D n c ino,blk D ((eG D n c ino).2.getD 6 0))).2
structure SameC (c c':Cl):Prop where
 row:c'.row=c.row
 ino:c'.ino=c.ino
 blocks:c'.blocks=c.blocks
 made:c'.made=c.made
 lost:c'.lost=c.lost
 lnk:c'.lnk=c.lnk
 par:c'.par=c.par
theorem SameC.rfl' (c:Cl):SameC c c:=⟨rfl,rfl,rfl,rfl,rfl,rfl,rfl⟩
theorem SameC.trans {a b c:Cl} (x:SameC a b) (y:SameC b c):SameC a c:=⟨y.row.trans x.row,y.ino.trans x.ino,y.blocks.trans x.blocks,y.made.trans x.made,y.lost.trans x.lost,y.lnk.trans x.lnk,y.par.trans x.par⟩
theorem pT (D:Dev) (n:Int) (c:Cl) (no:Int):SameC c (dU D n c no):=by
 unfold dU;cases B5R D n c no<;>exact ⟨rfl,rfl,rfl,rfl,rfl,rfl,rfl⟩
theorem C7N {D:Dev} {n many:Int} {s:Cl × List UInt8} {k:Nat}:SameC s.1 (iK D n many s k).1:=by
 unfold iK;split
 ·exact .rfl' _
 ·dsimp only;split
  ·exact pT ..
  ·exact .rfl' _
theorem vE {D:Dev} {n many:Int}:∀ {e k:Nat} {s:Cl × List UInt8},SameC s.1 (cF D n many e k s).1
 | 0,_,s=>.rfl' _
 | e+1,k,s=>by
  rw [cF];exact (C7N).trans vE
theorem B2t {D:Dev} {n:Int} {d:List Int}:∀ {e k:Nat} {s:Cl × List Int},SameC s.1 (A7q D n d e k s).1/\(A7q D n d e k s).2.length=s.2.length
 | 0,_,s=>⟨.rfl' _,rfl⟩
 | e+1,k,s=>by
  rw [A7q];have:=B2t (D:=D) (n:=n) (d:=d) (e:=e) (k:=k+1) (s:=(dU D n s.1 (d.getD k 0),s.2.set k (U1 D n s.1 (d.getD k 0))));exact ⟨(pT ..).trans this.1,by rw [this.2];simp⟩
theorem D8A {D:Dev} {n many:Int} {d:List Int} {s:Cl × List Int}:SameC s.1 (B8m D n d many s).1/\(B8m D n d many s).2.length=s.2.length:=by
 unfold B8m;split
 ·exact ⟨pT ..,by simp⟩
 ·exact ⟨.rfl' _,rfl⟩
theorem A1H {D:Dev} {n ino:Int} {c:Cl}:SameC c (eG D n c ino).1/\(eG D n c ino).2.length=7:=by
 unfold eG;have h1:=B2t (D:=D) (n:=n) (d:=drV D n ino) (e:=(min (A4d (szV D n ino)) 6).toNat) (k:=0) (s:=(c,zI 7));have h2:=D8A (D:=D) (n:=n) (d:=drV D n ino) (many:=A4d (szV D n ino)) (s:=A7q D n (drV D n ino) (min (A4d (szV D n ino)) 6).toNat 0 (c,zI 7));exact ⟨h1.1.trans h2.1,by rw [h2.2,h1.2];rfl⟩
section
variable {D:Dev} {n m:Int} {f:Cell} {g:B5} {r:Nat} {c:Cl} {h:B5}
theorem D1u {ino lim kd ln sz pa many:Int} {d:List Int} {pb pw pi pm q:Nat} {h0:B5} (h0g:g.length<=h0.length) (a0:h0.length<=pi) (n1:pi≠pb) (n2:pi≠pw) (n3:pi≠pm) (hd:d.length=7) (E6g:lim<=6) :
  ∀ (e k M:Nat) (s:Cl × List Int) (h:B5),(k:Int)+e=lim->e<M->s.2.length=7->WP D n m f g r s.1 h->Fr r h0 h->LocV h r pb [.p r 0]->LocV h r pw (F8 kd ln sz pa d)->LocV h r pi (F8 1 1 sz 0 s.2)->LocV h r pm [.i .i64 many] ->
  ∃ M' h',gR q M (iV ino) (pV pb 0) (pV pw 0) (pV pi 0) (pV pm 0) (iV lim) (iV (k:Int)) h=gR q (M'+1) (iV ino) (pV pb 0) (pV pw 0) (pV pi 0) (pV pm 0) (iV lim) (iV lim) h' /\
   WP D n m f g r (A7q D n d e k s).1 h'/\Fr r h0 h'/\LocV h' r pb [.p r 0]/\LocV h' r pw (F8 kd ln sz pa d)/\LocV h' r pi (F8 1 1 sz 0 (A7q D n d e k s).2)/\LocV h' r pm [.i .i64 many]
 | e,k,0,s,h,_,hM,_,_,_,_,_,_,_=>by omega
 | 0,k,M+1,s,h,hk,hM,hs,P,F,hb,hw,hi,hm=>by
  have:(k:Int)=lim:=by omega
  rw [this];exact ⟨M,h,rfl,P,F,hb,hw,hi,hm⟩
 | e+1,k,M+1,s,h,hk,hM,hs,P,F,hb,hw,hi,hm=>by
  have c0:(k:Int)<lim:=by omega
  have hk6:k<6:=by omega
  have w1:=D3 (show k+1<9223372036854775808 by omega);have lb:B8 h (pV pb 0)=A4 (pV r 0):=C4 hb.2 rfl rfl;have ad:∀ p,J8 6 1 (pV p 4) (iV (k:Int))=A4 (pV p (4+k)):=λp=>by
   rw [J4 hk6];simp
  have lw:B8 h (pV pw (4+k))=A4 (iV (d.getD k 0)):=by
   refine C4 hw.2 ?_ rfl;rw [Nat.add_comm];simp only [F8,E7S];rw [G8,E7e,E66 (by omega)];rfl
  obtain ⟨h1,f1,f2,f3⟩:=B8z (no:=d.getD k 0) P;have hb1:=hb.fr f3;have hw1:=hw.fr f3;have hm1:=hm.fr f3;have hi1:=hi.fr f3;have O9:(F8 1 1 sz 0 s.2).length=11:=by simp [F8,B7,hs]
  have s1:=G9 (x:=.i .i64 (U1 D n s.1 (d.getD k 0))) (off:=4+k) hi1.2 (by rw [O9];omega);have es:(F8 1 1 sz 0 s.2).set (4+k) (.i .i64 (U1 D n s.1 (d.getD k 0)))=F8 1 1 sz 0 (s.2.set k (U1 D n s.1 (d.getD k 0))):=by
   rw [Nat.add_comm];simp only [F8,E7U,aK]
  rw [es] at s1;obtain ⟨M',h',e1,e2⟩:=D1u (q:=q) (ino:=ino) (lim:=lim) (kd:=kd) (ln:=ln) (sz:=sz) (pa:=pa) (many:=many) h0g a0 n1 n2 n3 hd E6g e (k+1) M (dU D n s.1 (d.getD k 0),s.2.set k (U1 D n s.1 (d.getD k 0))) _ (by omega) (by omega) (by simp [hs]) (f2.set hi1.1 (by omega)) ((F.trans f3).set hi1.1 a0) (hb1.set n1 hi1.1.2.1) (hw1.set n2 hi1.1.2.1) hi1.self (hm1.set n3 hi1.1.2.1);refine ⟨M',h',?_,e2⟩;rw [jD];simp only [esc,c0,lb,ad,lw,f1,s1,w1];exact e1
theorem E2f {ino:Int} (hD:okD D) (hv:IsView g f D) (P:WP D n m f g r c h) (h1:c.blocks.length<=100000) (h2:c.made.length<=100000) (i0:0<=ino) (i1:ino.toNat<c.ino.length) :
  ∃ h',jP [pV r 0,iV ino] h=A4 (.t [],h')/\WP D n m f g r (iJ D n c ino) h'/\Fr r h h':=by
 have hv2:=hv.get;obtain ⟨k,rfl⟩:=E7Q i0;rw [E7r] at i1;obtain ⟨I,hI⟩:∃ I,I=F8 (kdV D n k) (lnV D n k) (szV D n k) (paV D n k) (drV D n k):=⟨_,rfl⟩;have hIl:I.length=11:=by rw [hI];simp [F8,B7,uX]
 have hVI:=λt=>oF (n:=n) (m:=m) (i:=(k:Int)) (h:=h++t) hD ((hv.since P.lo).more t)
 rw [A7D,<-hI] at hVI;have lV:=(P.more hv2 [rT [Cell.p r 0]]).view;obtain ⟨z,hz⟩:∃ z,z=F8 1 1 (szV D n k) 0 (zI 7):=⟨_,rfl⟩;have yN:z.length=11:=by rw [hz];rfl
 have z11:[o0,o0,o0,o0,o0,o0,o0,o0,o0,o0,o0].length=11:=rfl;have ef:E4 [o0,o0,o0,o0,o0,o0,o0,o0,o0,o0,o0] [(0,1,iV 1),(1,1,iV 1),(2,1,iV (szV D n k))]=A4 z:=by rw [hz];rfl
 have I2:I[2]?=A4 (.i .i64 (szV D n k)):=by rw [hI];rfl
 have hBl:=λh=>C4z (n:=szV D n k) (h:=h)
 have eB:(if szV D n k<1 then (0:Int) else if 34304<szV D n k then 134 else (szV D n k+255)/256)=A4d (szV D n k):=rfl;rw [eB] at hBl;have hmr:0<=A4d (szV D n k):=by unfold A4d;split<;>(try split)<;>omega
 obtain ⟨many,D1I⟩:∃ many,many=A4d (szV D n k):=⟨_,rfl⟩;rw [<-D1I] at hBl hmr;have E6i:B7S (iV many) (iV 6)=A4 (iV (min many 6)):=by
  simp only [B7S];rw [show (if (6:Int)<many then 6 else many)=min many 6 by split<;>omega]
 obtain ⟨T,hT⟩:∃ T,T=[rT [Cell.p r 0],rT I,rT z,rT [Cell.i .i64 many]]:=⟨_,rfl⟩;have P1:=P.more hv2 T;have F1:Fr r h (h++T):=Fr.low ((Low.refl (E7b _)).new _) P.rlt;have L0:LocV (h++T) r h.length [.p r 0]:=LocV.new (k:=0) hv2 P (by rw [hT];rfl);have L1:LocV (h++T) r (h.length+1) I:=LocV.new (k:=1) hv2 P (by rw [hT];rfl);have L2:LocV (h++T) r (h.length+2) z:=LocV.new (k:=2) hv2 P (by rw [hT];rfl);have L3:LocV (h++T) r (h.length+3) [.i .i64 many]:=LocV.new (k:=3) hv2 P (by rw [hT];rfl);rw [hI] at L1;rw [hz] at L2;obtain ⟨M',hA,e1,PA,FA,A0,A1,A2,A3⟩:=D1u (q:=200) (ino:=(k:Int)) (lim:=min many 6) P.lo.2.1 (show h.length<=h.length+2 by omega) (by omega) (by omega) (by omega) uX (by omega) (min many 6).toNat 0 200 (c,zI 7) (h++T) (by omega) (by omega) rfl P1 F1 L0 L1 L2 L3;obtain ⟨s,hs⟩:∃ s,s=A7q D n (drV D n k) (min many 6).toNat 0 (c,zI 7):=⟨_,rfl⟩;have hsame:=B2t (D:=D) (n:=n) (d:=drV D n k) (e:=(min many 6).toNat) (k:=0) (s:=(c,zI 7));rw [<-hs] at PA A2 hsame;have hs7:s.2.length=7:=hsame.2;have lb:B8 hA (pV h.length 0)=A4 (pV r 0):=C4 A0.2 rfl rfl;have lm:B8 hA (pV (h.length+3) 0)=A4 (iV many):=C4 A3.2 rfl rfl;have step:∃ hB,gR 200 (M'+1) (iV (k:Int)) (pV h.length 0) (pV (h.length+1) 0) (pV (h.length+2) 0) (pV (h.length+3) 0) (iV (min many 6)) (iV (min many 6)) hA =
   oX 200 (iV (k:Int)) (pV h.length 0) (pV (h.length+2) 0) (pV (h.length+3) 0) hB/\WP D n m f g r (B8m D n (drV D n k) many s).1 hB/\Fr r h hB/\LocV hB r h.length [.p r 0]/\LocV hB r (h.length+2) (F8 1 1 (szV D n k) 0 (B8m D n (drV D n k) many s).2)/\LocV hB r (h.length+3) [.i .i64 many]:=by
  have c0:¬ (min many 6<min many 6):=by omega
  unfold B8m;by_cases c6:6<many
  ·rw [if_pos c6];have lw:B8 hA (pV (h.length+1) 10)=A4 (iV ((drV D n k).getD 6 0)):=by
    refine C4 A1.2 ?_ rfl;simp only [F8,E7S];rw [G8,E7e,E66 (by rw [uX];omega)];rfl
   obtain ⟨h1,f1,f2,f3⟩:=B8z (no:=(drV D n k).getD 6 0) PA;have B0:=A0.fr f3;have B2:=A2.fr f3;have B3:=A3.fr f3;have O9:(F8 1 1 (szV D n k) 0 s.2).length=11:=by simp [F8,B7,hs7]
   have s1:=G9 (x:=.i .i64 (U1 D n s.1 ((drV D n k).getD 6 0))) (off:=10) B2.2 (by rw [O9];omega);have es:(F8 1 1 (szV D n k) 0 s.2).set 10 (.i .i64 (U1 D n s.1 ((drV D n k).getD 6 0)))=F8 1 1 (szV D n k) 0 (s.2.set 6 (U1 D n s.1 ((drV D n k).getD 6 0))):=by
    simp only [F8,E7U,aK]
   rw [es] at s1;refine ⟨_,?_,f2.set B2.1 (by have:=P.lo.2.1;omega),(FA.trans f3).set B2.1 (by omega),B0.set (by omega) B2.1.2.1,B2.self,B3.set (by omega) B2.1.2.1⟩;rw [jD];simp only [esc,Nat.reduceAdd,c0,lm,c6,lb,lw,f1,s1]
  ·rw [if_neg c6];refine ⟨hA,?_,PA,FA,A0,A2,A3⟩;rw [jD];simp only [esc,Nat.reduceAdd,c0,lm,c6]
 obtain ⟨hB,e2,PB,FB,B0,B2,B3⟩:=step;have hfd:eG D n c k=B8m D n (drV D n k) many s:=by unfold eG;rw [<-D1I,<-hs]
 have hfs:=A1H (D:=D) (n:=n) (ino:=(k:Int)) (c:=c);rw [<-hfd] at PB B2;obtain ⟨S,hS⟩:∃ S,S=eG D n c k:=⟨_,rfl⟩;rw [<-hS] at PB B2 hfs;have kin:k<S.1.ino.length:=by rw [hfs.1.ino];exact i1
 obtain ⟨id,hC,c1,c2,c3,PC,FC⟩:=PB.setIno hv2 (k:=k) (l:=1::1::szV D n k::0::S.2) kin (by simp [hfs.2]);have C0:=B0.fr FC;have C2:=B2.fr FC;have C3:=B3.fr FC;have lB0:B8 hB (pV h.length 0)=A4 (pV r 0):=C4 B0.2 rfl rfl;have lB2:D4 hB 11 (pV (h.length+2) 0)=A4 (.a (encI (1::1::szV D n k::0::S.2))):=C7 B2.2 (by simp [F8,B7,hfs.2]);have adI:E1 11 (sV id 0 S.1.ino.length 11) (iV (k:Int))=A4 (pV id (k*11)):=by rw [C9 kin];simp
 have E4j:B8 hC (pV (h.length+2) 10)=A4 (iV (S.2.getD 6 0)):=by
  refine C4 C2.2 ?_ rfl;simp only [F8,E7S];rw [G8,E7e,E66 (by rw [hfs.2];omega)];rfl
 have hfi:Z3 D n c k={ S.1 with ino:=S.1.ino.set k (1::1::szV D n k::0::S.2) }:=by unfold Z3;rw [<-hS,E7r]
 rw [<-hfi] at PC;have run:∀ {v:Val} {h':B5},oX 200 (iV (k:Int)) (pV h.length 0) (pV (h.length+2) 0) (pV (h.length+3) 0) hB=A4 (v,h')->jP [pV r 0,iV (k:Int)] h=A4 (v,h'):=by
  intro v h' hj;refine A9Q (n:=200) ?_;rw [A9j];have eT:=e1.trans (e2.trans hj);rw [hT] at eT;have hB0:=hVI [rT [Cell.p r 0]];have l2:ld1 (rT I) 2=A4 (iV (szV D n k)):=by rw [A3a,I2];rfl
  have lm1:ld1 (rT [Cell.i .i64 many]) 0=A4 (iV many):=rfl;have lp:ld1 (rT [Cell.p r 0]) 0=A4 (pV r 0):=rfl;have sm:st1 (rT [o0]) 0 (.i .i64 many)=rT [.i .i64 many]:=rfl;generalize [o0,o0,o0,o0,o0,o0,o0,o0,o0,o0,o0]=zz at *;generalize vwC D.length n m f=V at *;simp only [esc,bL,Q9,fE,T7,V1,L7,uW,B0U,jY,nL,Nat.reduceAdd,lV,hB0,hIl,yN,z11,l2,lp,sm,lm1,ef,hBl,E6i];exact eT
 unfold iJ;rw [<-hS,<-D1I];by_cases cz:S.2.getD 6 0=0
 ·rw [if_pos cz];refine ⟨hC,run ?_,PC,FB.trans FC⟩;rw [tP];rw [cz] at E4j;simp only [esc,Nat.reduceAdd,lB0,c1,lB2,adI,c3,E4j];rfl
 ·rw [if_neg cz];have hBk:=bI (n:=n) (m:=m) (no:=S.2.getD 6 0) (h:=hC) hD (hv.since PC.lo);obtain ⟨hE,f1,f2,f3⟩:=E2B (many:=many) (b:=blk D (S.2.getD 6 0)) hv2 PC C3 C0 (O5 hD);have D0:=C0.fr f3;have D2:=C2.fr f3;have hsm:=vE (D:=D) (n:=n) (many:=many) (e:=128) (k:=0) (s:=(Z3 D n c k,blk D (S.2.getD 6 0)));have bl:(cF D n many 128 0 (Z3 D n c k,blk D (S.2.getD 6 0))).1.blocks.length<=100000:=by
   rw [hsm.blocks];dsimp only;rw [hfi];dsimp only;rw [hfs.1.blocks];exact h1
  have ml:(cF D n many 128 0 (Z3 D n c k,blk D (S.2.getD 6 0))).1.made.length<=100000:=by
   rw [hsm.made];dsimp only;rw [hfi];dsimp only;rw [hfs.1.made];exact h2
  obtain ⟨hF,g1,g2,g3⟩:=D3i (no:=S.2.getD 6 0) hv2 f2 (B2v (e:=128) (k:=0) (s:=(Z3 D n c k,blk D (S.2.getD 6 0))) (by omega) (O5 hD)) bl ml;refine ⟨hF,run ?_,g2,((FB.trans FC).trans f3).trans g3⟩;have lC0:B8 hC (pV h.length 0)=A4 (pV r 0):=C4 C0.2 rfl rfl;have lE0:B8 hE (pV h.length 0)=A4 (pV r 0):=C4 D0.2 rfl rfl;have E6y:B8 hE (pV (h.length+2) 10)=A4 (iV (S.2.getD 6 0)):=by
   refine C4 D2.2 ?_ rfl;simp only [F8,E7S];rw [G8,E7e,E66 (by rw [hfs.2];omega)];rfl
  have lCV:=PC.view;have emk:B5H 98 [pV (h.length+3) 0,pV h.length 0]=A4 (.c (.f 98 [(h.length+3,0),(h.length,0)])):=rfl;rw [tP];generalize S.2.getD 6 0=no at *;generalize B4 (cF D n many 128 0 (Z3 D n c k,blk D no)).2=B2 at *;generalize B4 (blk D no)=B1 at *;generalize vwC D.length n m f=V at *;simp only [esc,Nat.reduceAdd,lB0,c1,lB2,adI,c3,E4j,cz,lC0,lCV,hBk,emk,f1,lE0,E6y,g1];rfl
end
def yM (no:Int):Nat->Nat->List Int->List Int
 | 0,_,t=>t
 | e+1,i,t=>yM no e (i+1) (if t.getD i 0=no then t.set i 0 else t)
theorem A7X {no:Int}:∀ {e i:Nat} {t:List Int},(yM no e i t).length=t.length
 | 0,_,_=>rfl
 | e+1,i,t=>by
  rw [yM,A7X];split<;>simp
def kR (D:Dev) (n:Int) (s:Cl × List Int) (no:Int):Cl × List Int:=(dU D n s.1 no,if U1 D n s.1 no=0 then yM no 32 0 s.2 else s.2)
def nM (D:Dev) (n:Int) (s:Cl × List Int) (L:List Int):Cl × List Int:=L.foldl (kR D n) s
theorem C0S {D:Dev} {n no:Int} {s:Cl × List Int}:(kR D n s no).2.length=s.2.length:=by
 unfold kR;dsimp only;split
 ·exact A7X
 ·rfl
theorem B2r {D:Dev} {n:Int}:∀ {L:List Int} {s:Cl × List Int},(nM D n s L).2.length=s.2.length
 | [],_=>rfl
 | no::L,s=>by
  show (nM D n (kR D n s no) L).2.length=_;rw [B2r,C0S]
theorem gO {D:Dev} {n:Int}:∀ {L:List Int} {s:Cl × List Int},SameC s.1 (nM D n s L).1
 | [],_=>.rfl' _
 | no::L,s=>by
  show SameC s.1 (nM D n (kR D n s no) L).1;have h2:SameC (dU D n s.1 no) (nM D n (kR D n s no) L).1:=gO (D:=D) (n:=n) (L:=L) (s:=kR D n s no);exact (pT ..).trans h2
section
variable {D:Dev} {n m:Int} {f:Cell} {g:B5} {r:Nat} {c:Cl} {h:B5}
theorem C1p {no d:Int} {px q M:Nat} {w x4 v11 v12 v13:Val} {h0:B5} (h0g:g.length<=h0.length) (a0:h0.length<=px):∀ (e i M2:Nat) (t:List Int) (h:B5),i+e=32->e<M2->t.length=32->WP D n m f g r c h->Fr r h0 h->LocV h r px (encI (d::t)) ->
  ∃ h',tO q M M2 w (pV px 0) x4 (iV no) v11 v12 v13 (iV (i:Int)) h=tL q M w (pV px 0) x4 v11 v12 v13 h'/\WP D n m f g r c h'/\Fr r h0 h'/\LocV h' r px (encI (d::yM no e i t))/\h'.length=h.length/\∀ j,j≠px->rd h' j=rd h j
 | e,i,0,t,h,_,hM,_,_,_,_=>by omega
 | 0,i,M2+1,t,h,hi,hM,ht,P,F,hx=>by
  have c0:¬ ((i:Int)<32):=by omega
  refine ⟨h,?_,P,F,hx,rfl,λ_ _=>rfl⟩;rw [dR];simp only [esc,c0]
 | e+1,i,M2+1,t,h,hi,hM,ht,P,F,hx=>by
  have c0:((i:Int)<32):=by omega
  have E30:i<32:=by omega
  have ad:J8 32 1 (pV px 1) (iV (i:Int))=A4 (pV px (1+i)):=by rw [J4 E30];simp
  have l1:B8 h (pV px (1+i))=A4 (iV (t.getD i 0)):=by
   refine C4 hx.2 ?_ rfl;rw [Nat.add_comm,G8,E7S,E7e,E66 (by omega)];rfl
  have w1:=D3 (show i+1<9223372036854775808 by omega);by_cases cz:t.getD i 0=no
  ·have s1:=G9 (x:=o0) (off:=1+i) hx.2 (by simp [B7,ht];omega);have es:(encI (d::t)).set (1+i) o0=encI (d::t.set i 0):=by rw [aK,Nat.add_comm,E7U]
   rw [es] at s1;obtain ⟨h',e1,e2,e3,e4,e5,e6⟩:=C1p (no:=no) (d:=d) (q:=q) (M:=M) (w:=w) (x4:=x4) (v11:=v11) (v12:=v12) (v13:=v13) h0g a0 e (i+1) M2 (t.set i 0) _ (by omega) (by omega) (by simp [ht]) (P.set hx.1 (by omega)) (F.set hx.1 a0) hx.self;refine ⟨h',?_,e2,e3,by rw [yM,if_pos cz];exact e4,by rw [e5];simp,λj hj=>by rw [e6 j hj,B6 (Ne.symm hj)]⟩;rw [dR];simp only [esc,Nat.reduceAdd,c0,ad,l1,cz,s1,oB,w1];exact e1
  ·obtain ⟨h',e1,e2,e3,e4,e5,e6⟩:=C1p (no:=no) (d:=d) (q:=q) (M:=M) (w:=w) (x4:=x4) (v11:=v11) (v12:=v12) (v13:=v13) h0g a0 e (i+1) M2 t h (by omega) (by omega) ht P F hx;refine ⟨h',?_,e2,e3,by rw [yM,if_neg cz];exact e4,e5,e6⟩;rw [dR];simp only [esc,Nat.reduceAdd,c0,ad,l1,cz,oB,w1];exact e1
theorem C0T {d:Int} {L:List Int} {px p4 sid q:Nat} {h0:B5} (h0g:g.length<=h0.length) (a0:h0.length<=px) (a1:h0.length<=p4) (n1:px≠p4) (n2:px≠sid) (hq:40<=q) (hL:L.length<1000000):∀ (e i M:Nat) (s:Cl × List Int) (h:B5),i+e=L.length->e<M->s.2.length=32->WP D n m f g r s.1 h->Fr r h0 h->LocV h r px (encI (d::s.2))->(∃ z,z.length=33/\LocV h r p4 z)->LocV h r sid (encI L) ->
  ∃ h',tM q M (pV r 0) (pV px 0) (pV p4 0) (sV sid 0 L.length 1) (iV (L.length:Nat)) (iV (i:Int)) h=A4 (.a (encI (d::(nM D n s (L.drop i)).2)),h')/\WP D n m f g r (nM D n s (L.drop i)).1 h'/\Fr r h0 h'
 | e,i,0,s,h,_,hM,_,_,_,_,_,_=>by omega
 | 0,i,M+1,s,h,hi,hM,hs,P,F,hx,hz,hl=>by
  have c0:¬ ((i:Int)<(L.length:Nat)):=by omega
  obtain ⟨z,yN,hz⟩:=hz;have h33:(encI (d::s.2)).length=33:=by simp [B7,hs]
  have l1:=C7 (n:=33) hx.2 h33;have s1:=storeAll (n:=33) (xs:=encI (d::s.2)) hz.2 yN h33;have hz2:=hz.self (cs':=encI (d::s.2));have l2:=C7 (n:=33) hz2.2 h33;rw [E7k (by omega)];refine ⟨h.set p4 (rT (encI (d::s.2))),?_,P.set hz.1 (by omega),F.set hz.1 a1⟩;rw [dQ];show _=A4 (Val.a (encI (d::s.2)),_);generalize encI (d::s.2)=B at *;simp only [esc,c0,l1,s1,l2]
 | e+1,i,M+1,s,h,hi,hM,hs,P,F,hx,hz,hl=>by
  have c0:((i:Int)<(L.length:Nat)):=by omega
  have O9:i<L.length:=by omega
  have ad:E1 1 (sV sid 0 L.length 1) (iV (i:Int))=A4 (pV sid i):=by rw [C9 O9];simp
  have l1:B8 h (pV sid i)=A4 (iV L[i]):=C4 hl.2 (by rw [G8,E66 O9];rfl) rfl;have w1:=D3 (show i+1<9223372036854775808 by omega);obtain ⟨h1,f1,f2,f3⟩:=B8z (no:=L[i]) P;have hx1:=hx.fr f3;have hl1:=hl.fr f3;obtain ⟨z,yN,hz⟩:=hz;have hz1:=hz.fr f3;rw [E7d O9];have eb:∀ T,nM D n s (L[i]::T)=nM D n (kR D n s L[i]) T:=λT=>rfl
  rw [eb];have hbl:=C0S (D:=D) (n:=n) (s:=s) (no:=L[i]);by_cases cz:U1 D n s.1 L[i]=0
  ·have eB:kR D n s L[i]=(dU D n s.1 L[i],yM L[i] 32 0 s.2):=by unfold kR;rw [if_pos cz]
   obtain ⟨h2,e1,e2,e3,e4,e5,e6⟩:=C1p (no:=L[i]) (d:=d) (q:=q) (M:=M) (w:=pV r 0) (x4:=pV p4 0) (v11:=sV sid 0 L.length 1) (v12:=iV (L.length:Nat)) (v13:=iV (i:Int)) h0g a0 32 0 q s.2 h1 (by omega) (by omega) hs f2 (F.trans f3) hx1;have keep:∀ {id:Nat} {cs:List Cell},LocV h1 r id cs->px≠id->LocV h2 r id cs:=λ{id cs} a T8=>by
    have er:rd h2 r=rd h1 r:=e6 r (Ne.symm hx1.1.2.1);exact ⟨⟨by rw [e5];exact a.1.1,a.1.2.1,λhn=>a.1.2.2 ((Nam.same er).1 hn)⟩,by rw [e6 id (Ne.symm T8)];exact a.2⟩
   have E6x:(yM L[i] 32 0 s.2).length=32:=by rw [A7X];exact hs
   rw [eB];generalize yM L[i] 32 0 s.2=Z at *;obtain ⟨h',k1,k2⟩:=C0T (d:=d) (q:=q) h0g a0 a1 n1 n2 hq hL e (i+1) M (dU D n s.1 L[i],Z) h2 (by omega) (by omega) E6x e2 e3 e4 ⟨z,yN,keep hz1 n1⟩ (keep hl1 n2);refine ⟨h',?_,k2⟩;rw [dQ];rw [cz] at f1;rw [oA] at e1;have c00:((0:Nat):Int)=0:=rfl;rw [c00] at e1;simp only [esc,c0,ad,l1,f1];refine e1.trans ?_;simp only [esc,w1];exact k1
  ·have eB:kR D n s L[i]=(dU D n s.1 L[i],s.2):=by unfold kR;rw [if_neg cz]
   rw [eB] at hbl ⊢;obtain ⟨h',k1,k2⟩:=C0T (d:=d) (q:=q) h0g a0 a1 n1 n2 hq hL e (i+1) M (dU D n s.1 L[i],s.2) h1 (by omega) (by omega) hs f2 (F.trans f3) hx1 ⟨z,yN,hz1⟩ hl1;refine ⟨h',?_,k2⟩;rw [dQ];simp only [esc,c0,ad,l1,f1,cz,oA,w1];exact k1
def W6 (d:Int) (t:List Int):Int:=if 0<=d/\d<=5 then d else 0
def fT (d:Int) (t:List Int):List Int:=if 0<=d/\d<=5 then qG d t (D1 d) else zI 32
theorem B5X (d:Int) (t:List Int):D0j d t=W6 d t::fT d t:=by
 unfold D0j W6 fT;split<;>rfl
theorem xX {d:Int} {t:List Int}:(fT d t).length=32:=by
 have:=D4Y (d:=d) (t:=t);rw [B5X] at this;simpa using this
theorem D6c {d:Int} {t:List Int} (hv:∃ id cs,f=.f id cs) (P:WP D n m f g r c h) (ht:t.length=32) :
  ∃ h',dB [pV r 0,.a (encI (d::t))] h=A4 (.a (encI (W6 d t::(nM D n (c,fT d t) (L8 (fT d t) (D1 (W6 d t)))).2)),h')/\WP D n m f g r (nM D n (c,fT d t) (L8 (fT d t) (D1 (W6 d t)))).1 h'/\Fr r h h':=by
 have hft:=xX (d:=d) (t:=t);have h33:(encI (d::t)).length=33:=by simp [B7,ht]
 have hF:=λh=>D3a (d:=d) (h:=h) ht
 rw [B5X] at hF;have C7U:(encI (W6 d t::fT d t)).length=33:=by simp [B7,hft]
 have E4a:(o0::E68 32 o0).length=33:=by simp
 obtain ⟨z,hz⟩:∃ z,z=o0::E68 32 o0:=⟨_,rfl⟩;obtain ⟨d',hd'⟩:∃ d',d'=W6 d t:=⟨_,rfl⟩;obtain ⟨t',ht'⟩:∃ t',t'=fT d t:=⟨_,rfl⟩;rw [<-hd',<-ht'] at hF C7U ⊢;rw [<-ht'] at hft;have hB:=vJ (d:=d') (t:=t') (h:=h++[rT (encI (d'::t')),rT z]) hft;obtain ⟨L,hL⟩:∃ L,L=L8 t' (D1 d'):=⟨_,rfl⟩;rw [<-hL] at hB ⊢;obtain ⟨T,hT⟩:∃ T,T=[rT (encI (d'::t')),rT z,rT (encI L)]:=⟨_,rfl⟩;have P1:=P.more hv T;have F1:Fr r h (h++T):=Fr.low ((Low.refl (E7b _)).new _) P.rlt;have L0:LocV (h++T) r h.length (encI (d'::t')):=LocV.new (k:=0) hv P (by rw [hT];rfl);have L1:LocV (h++T) r (h.length+1) z:=LocV.new (k:=1) hv P (by rw [hT];rfl);have L2:LocV (h++T) r (h.length+2) (encI L):=LocV.new (k:=2) hv P (by rw [hT];rfl);have hLl:L.length<=32:=by rw [hL];exact E7K (gE _ _) (O6 _)
 obtain ⟨h',e1,e2,e3⟩:=C0T (q:=100) P.lo.2.1 (E7b _) (show h.length<=h.length+1 by omega) (by omega) (show h.length≠h.length+2 by omega) (by omega) (by omega) L.length 0 100 (c,t') (h++T) (by omega) (by omega) hft P1 F1 L0 ⟨z,by rw [hz];exact E4a,L1⟩ L2;rw [E7p] at e1 e2;refine ⟨h',A4W (n:=100) ?_,e2,e3⟩;rw [A4P];have ez:([o0]++E68 32 o0)=z:=by rw [hz];rfl
 rw [ez];rw [hT] at e1;have l33:ldN (rT (encI (d::t))) 0 33=A4 (.a (encI (d::t))):=jY h33;have l33':ldN (rT (encI (d'::t'))) 0 33=A4 (.a (encI (d'::t'))):=jY C7U;have s33:stN (rT (encI (d::t))) 0 33 (encI (d'::t'))=rT (encI (d'::t')):=nL h33 C7U;generalize encI (d::t)=X at *;generalize encI (d'::t')=X' at *;simp only [esc,bL,Q9,V1,L7,Nat.reduceAdd,l33,l33',s33,hF];simp only [esc] at hB;simp only [esc,hB];exact e1
end
abbrev Spt:=Int × Slt
def uU (D:Dev) (L:List Int):List Spt:=L.flatMap λno=>(N9 (blk D no)).map λs=>(no,s)
def atH (D:Dev) (X:List Int) (e:Spt):Bool:=decide (R3 X e.2.2.1=e.1)&&decide (hmS D X e.2.2.1=A4 e.2)
def I5 (D:Dev) (X:List Int) (l:List Spt):W0:=(l.filter (atH D X)).map (·.2.2.1)
def B1A (D:Dev) (X:List Int) (nm:List UInt8):Int:=((hmS D X nm).getD (0,[],0)).2.2
def nP (D:Dev) (X:List Int) (L:List Int):List Ent:=(gI (I5 D X (uU D L))).map λs=>(s,B1A D X s)
theorem D74 {neg:Bool} (p q:Slt):aeq neg [.i .i64,.s,.i .i64] (.a (slC (A4 p))) (.a (slC (A4 q)))=A4 (bV (bif neg then !(decide (A4 p=A4 q)) else decide (A4 p=A4 q))):=by
 simp only [aeq];rw [if_pos ⟨rfl,rfl⟩];have:decide (slC (A4 p)=slC (A4 q))=decide (A4 p=A4 q):=by
  apply Bool.eq_iff_iff.2;simp only [decide_eq_true_eq,slC,List.cons.injEq,Cell.i.injEq,Cell.s.injEq,true_and,and_true,Option.some.injEq];obtain ⟨p1,p2,p3⟩:=p;obtain ⟨q1,q2,q3⟩:=q;simp only [Prod.mk.injEq];constructor
  ·rintro ⟨h1,h2,h3⟩;exact ⟨by omega,h2,h3⟩
  ·rintro ⟨h1,h2,h3⟩;exact ⟨by omega,h2,h3⟩
 rw [this]
theorem C26 {D:Dev} {X:List Int} {s:List Spt} {e:Spt}:I5 D X (s++[e])=I5 D X s++(if atH D X e=A5 then [e.2.2.1] else []):=by
 unfold I5;rw [List.filter_append,E71,List.filter_cons];by_cases c:atH D X e=A5<;>simp [c]
structure NmS (D:Dev) (X L:List Int) (g:B5) (s:List Spt) (id:Nat) (h:B5):Prop where
 low:Low g.length g h
 rx:rd h g.length=rT (encI X)
 rm:∃ es,rd h (g.length+2)=A4 (T1 es)/\MapN es (B1A D X) (I5 D X s)
 rs:rd h (g.length+4)=rT (encI L)
 rl:rd h id=rT (encS (I5 D X s))
 idg:id=g.length+3\/g.length+5<=id
theorem NmS.more {D:Dev} {X L:List Int} {g h:B5} {s:List Spt} {id:Nat} (S:NmS D X L g s id h) (t:B5):NmS D X L g s id (h++t) :=
 ⟨S.low.new _,C5 S.rx,by obtain ⟨es,h1,h2⟩:=S.rm;exact ⟨es,C5 h1,h2⟩,C5 S.rs,C5 S.rl,S.idg⟩
section
variable {D:Dev} {n m:Int} {f:Cell} {g:B5} {r:Nat} {h:B5}
theorem E4o {d:Int} {t L:List Int} {s:List Spt} {id lst j q m0 M:Nat} {l:List Slt} {x:Slt} {no:Int} {x18 x19 x20:Val} (hD:okD D) (hv:IsView g f D) (hw:VwR g r (vwC D.length n m f)) (ht:t.length=32) (S:NmS D (d::t) L g s id h) (hN:(I5 D (d::t) s).length<=1000000) (hs:x.2.1.length<=24)
  (hl:rd h lst=rT (sP l)) (hx:l[j]?=A4 x) (hl5:g.length+5<=lst) (T8:lst≠id) (hj:l.length<=7) :
  ∃ bF h',aI q m0 (M+1) (.c (.p r 0)) (.c (.p g.length 0)) (.c (.m (g.length+2))) (.c (.sl id 0 (I5 D (d::t) s).length 1)) (.c (.i .i64 no)) x18 x19 x20 (.c (.sl lst 0 l.length 3)) (.c (.i .i64 (l.length:Nat))) (.c (.i .i64 (j:Int))) h =
   aI q m0 M (.c (.p r 0)) (.c (.p g.length 0)) (.c (.m (g.length+2))) (.c (.sl bF 0 (I5 D (d::t) (s++[(no,x)])).length 1)) (.c (.i .i64 no)) x18 x19 x20 (.c (.sl lst 0 l.length 3)) (.c (.i .i64 (l.length:Nat))) (.c (.i .i64 ((j+1:Nat):Int))) h' /\
   NmS D (d::t) L g (s++[(no,x)]) bF h'/\rd h' lst=rT (sP l)/\lst≠bF:=by
 have hjl:j<l.length:=(List.getElem?_eq_some_iff.1 hx).1;have c0:((j:Int)<(l.length:Nat)):=by omega
 have ad:E1 3 (.c (.sl lst 0 l.length 3)) (.c (.i .i64 (j:Int)))=A4 (.c (.p lst (j*3))):=by rw [C9 hjl];simp
 have hlen:=yJ (l:=l);have l3:D4 h 3 (.c (.p lst (j*3)))=A4 (.a (slC (A4 x))):=by rw [dI hl (by rw [hlen];omega) rfl,D73 hx]
 obtain ⟨k,nm,i⟩:=x;have w1:=D3 (show j+1<9223372036854775808 by omega);obtain ⟨h1,e1⟩:∃ h1,h1=h++[rT (slC (A4 (k,nm,i)))]:=⟨_,rfl⟩;have s3:E6 (h++[rT [o0,.s [],o0]]) 3 (.c (.p h.length 0)) (.a (slC (A4 (k,nm,i))))=A4 h1:=by rw [L7,e1];rfl
 have S1:NmS D (d::t) L g s id h1:=e1 ▸ S.more _;have lX:D4 h1 33 (.c (.p g.length 0))=A4 (.a (encI (d::t))):=C7 S1.rx (by simp [B7,ht]);have lN:B8 h1 (.c (.p h.length 1))=A4 (.c (.s nm)):=by rw [e1,T7];rfl
 have hH:=D7z (n:=n) (m:=m) (f:=f) (r:=r) (d:=d) (t:=t) (nm:=nm) (h:=h1) hD (hv.since S1.low) (hw.since S1.low) ht (by dsimp only at hs;omega);obtain ⟨h2,e2⟩:∃ h2,h2=h1++[rT (C1l (R3 (d::t) nm) (hmS D (d::t) nm))]:=⟨_,rfl⟩;have s4:E6 (h1++[rT [o0,o0,.s [],o0]]) 4 (.c (.p h1.length 0)) (.a (C1l (R3 (d::t) nm) (hmS D (d::t) nm)))=A4 h2:=by
  rw [L7,e2];cases hmS D (d::t) nm<;>rfl
 have S2:NmS D (d::t) L g s id h2:=e2 ▸ S1.more _;have lB:B8 h2 (.c (.p h1.length 0))=A4 (.c (.i .i64 (R3 (d::t) nm))):=by rw [e2,T7];rfl
 have lS:D4 h2 3 (.c (.p h1.length 1))=A4 (.a (slC (hmS D (d::t) nm))):=by rw [e2,Q9];cases hmS D (d::t) nm<;>rfl
 have rp:rd h2 h.length=rT (slC (A4 (k,nm,i))):=by rw [e2,e1];simp
 have lP:D4 h2 3 (.c (.p h.length 0))=A4 (.a (slC (A4 (k,nm,i)))):=C7 rp rfl;have lP1:B8 h2 (.c (.p h.length 1))=A4 (.c (.s nm)):=C4 rp rfl rfl;have lP2:B8 h2 (.c (.p h.length 2))=A4 (.c (.i .i64 i)):=C4 rp rfl rfl;have rl2:rd h2 lst=rT (sP l):=by rw [e2,e1];exact C5 (C5 hl)
 have no1:atH D (d::t) (no,k,nm,i)=A6->NmS D (d::t) L g (s++[(no,k,nm,i)]) id h2/\(I5 D (d::t) (s++[(no,k,nm,i)])).length=(I5 D (d::t) s).length:=by
  intro hb;have en:I5 D (d::t) (s++[(no,k,nm,i)])=I5 D (d::t) s:=by rw [C26,hb];simp
  exact ⟨{ S2 with rm:=by rw [en];exact S2.rm,rl:=by rw [en];exact S2.rl },by rw [en]⟩
 rw [gT];cases ho:hmS D (d::t) nm with
 | none =>
  obtain ⟨n1,n2⟩:=no1 (by unfold atH;simp only [ho];simp);refine ⟨id,h2,?_,n1,rl2,T8⟩;rw [n2];rw [ho] at hH s4 lS;generalize encI (d::t)=X at *;simp only [esc,Nat.reduceAdd,c0,ad,l3,s3,lX,lN,hH,E7x,s4,aZ,w1]
 | some p =>
  rw [ho] at hH s4 lS;have ea:=D74 (neg:=A6) p (k,nm,i);by_cases c1:R3 (d::t) nm=no
  ·rw [c1] at hH s4 lB;by_cases c2:p=(k,nm,i)
   ·have hb:atH D (d::t) (no,k,nm,i)=A5:=by unfold atH;simp only [ho,c1,c2];simp
    have en:I5 D (d::t) (s++[(no,k,nm,i)])=I5 D (d::t) s++[nm]:=by rw [C26,if_pos hb]
    have hin:B1A D (d::t) nm=i:=by unfold B1A;rw [ho,c2];rfl
    obtain ⟨es,r4,hm⟩:=S2.rm;have mp:=E2C (s:=nm) (x:=i) r4 hm;have hm':=hm.put nm;rw [hin] at hm';have lt2:=C8 r4;have idr:id≠g.length+2:=by have:=S.idg;omega
    obtain ⟨h3,e3⟩:∃ h3,h3=h2.set (g.length+2) (A4 (T1 (A88 (.s nm) (.c (.i .i64 i)) es))):=⟨_,rfl⟩;rw [<-e3] at mp;have hh:h2.length=h.length+2:=by rw [e2,e1];simp
    have q1:B8 h3 (.c (.p h.length 1))=A4 (.c (.s nm)):=C4 (by rw [e3,B6 (by have:=C8 hl;omega)];exact rp) rfl rfl;have ef:E4 [Cell.s []] [(0,1,.c (.s nm))]=A4 [.s nm]:=rfl;have ril:rd h3 id=rT (encS (I5 D (d::t) s)):=by rw [e3,B6 (Ne.symm idr)];exact S2.rl
    obtain ⟨h4,b1,b2,b3,b4⟩:=C8H (n:=(I5 D (d::t) s).length) (sz:=1) (ys:=[Cell.s nm]) ril (by rw [N3];omega) rfl (by omega) (by omega);have h3l:h3.length=h.length+2:=by rw [e3];simp [hh]
    have gl:=S.low.2.1;have gS:=C8 S.rs;have ea2:aeq A6 [.i .i64,.s,.i .i64] (.a (slC (A4 p))) (.a (slC (A4 (k,nm,i))))=A4 (.c (.b A5)):=by rw [ea,c2];simp
    refine ⟨h3.length+1,h4,?_,⟨?_,?_,⟨_,?_,by rw [en];exact hm'⟩,?_,?_,by omega⟩,?_,by have:=C8 hl;omega⟩
    ·rw [en,E7a];generalize encI (d::t)=X at *;simp only [esc,Nat.reduceAdd,c0,ad,l3,s3,lX,lN,hH,E7o,s4,lB,eq_self,lS,lP,ea2,lP1,lP2,mp,q1,ef,b1,aZ,w1]
    ·have l3':Low g.length g h3:=by rw [e3];exact S2.low.set (by omega) _
     exact l3'.trans (b4 _ (by have:=S.idg;omega) (by omega))
    ·exact b3 _ _ (by have:=S.idg;omega) (by rw [e3,B6 (by omega)];exact S2.rx)
    ·exact b3 _ _ (Ne.symm idr) (by rw [e3];exact C6 lt2)
    ·exact b3 _ _ (by have:=S.idg;intro e;omega) (by rw [e3,B6 (by omega)];exact S2.rs)
    ·rw [en,show encS (I5 D (d::t) s++[nm])=encS (I5 D (d::t) s)++[Cell.s nm] by simp [encS]];exact b2
    ·exact b3 _ _ T8 (by rw [e3,B6 (by omega)];exact rl2)
   ·obtain ⟨n1,n2⟩:=no1 (by unfold atH;simp only [ho];simp [c2]);have ea2:aeq A6 [.i .i64,.s,.i .i64] (.a (slC (A4 p))) (.a (slC (A4 (k,nm,i))))=A4 (.c (.b A6)):=by rw [ea];simp [c2]
    refine ⟨id,h2,?_,n1,rl2,T8⟩;rw [n2];generalize encI (d::t)=X at *;simp only [esc,Nat.reduceAdd,c0,ad,l3,s3,lX,lN,hH,E7o,s4,lB,eq_self,lS,lP,ea2,aZ,w1]
  ·obtain ⟨n1,n2⟩:=no1 (by unfold atH;simp only [ho];simp [c1]);refine ⟨id,h2,?_,n1,rl2,T8⟩;rw [n2];generalize encI (d::t)=X at *;simp only [esc,Nat.reduceAdd,c0,ad,l3,s3,lX,lN,hH,E7o,s4,lB,c1,aZ,w1]
end
theorem A5O {D:Dev} {X:List Int} {s:List Spt}:(I5 D X s).length<=s.length:=by
 unfold I5;rw [List.length_map];exact List.length_filter_le _ _
theorem C0N {D:Dev} {no:Int} {L:List Int}:uU D (no::L)=(N9 (blk D no)).map (λs=>(no,s))++uU D L:=by simp [uU]
section
variable {D:Dev} {n m:Int} {f:Cell} {g:B5} {r:Nat} {h:B5}
theorem D5k {d:Int} {t L:List Int} {lst q m0:Nat} {l:List Slt} {no:Int} {x18 x19 x20:Val} (hD:okD D) (hv:IsView g f D) (hw:VwR g r (vwC D.length n m f)) (ht:t.length=32) (hl7:l.length<=7) (nC:∀ x∈l,x.2.1.length<=24) (hl5:g.length+5<=lst) :
  ∀ (e j M:Nat) (s:List Spt) (id:Nat) (h:B5),j+e=l.length->e<M->s.length+e<=100000->NmS D (d::t) L g s id h->rd h lst=rT (sP l)->lst≠id ->
  ∃ bF h',aI q m0 M (pV r 0) (pV g.length 0) (.c (.m (g.length+2))) (sV id 0 (I5 D (d::t) s).length 1) (iV no) x18 x19 x20 (sV lst 0 l.length 3) (iV (l.length:Nat)) (iV (j:Int)) h =
   bnd (O4 .add x20 (iV 1)) (λv=>aH q m0 (pV r 0) (pV g.length 0) (.c (.m (g.length+2))) (sV bF 0 (I5 D (d::t) (s++(l.drop j).map λx=>(no,x))).length 1) x18 x19 v h')/\NmS D (d::t) L g (s++(l.drop j).map λx=>(no,x)) bF h'
 | e,j,0,s,id,h,_,hM,_,_,_,_=>by omega
 | 0,j,M+1,s,id,h,hj,hM,hn,S,hr,T8=>by
  have c0:¬ ((j:Int)<(l.length:Nat)):=by omega
  rw [E7k (by omega),List.map_nil,E7w];refine ⟨id,h,?_,S⟩;rw [gT];simp only [P9,A1w,c0,decide_false,C7s]
 | e+1,j,M+1,s,id,h,hj,hM,hn,S,hr,T8=>by
  have hjl:j<l.length:=by omega
  have cC:=A5O (D:=D) (X:=d::t) (s:=s);obtain ⟨id1,h1,e1,e2,e3,e4⟩:=E4o (q:=q) (m0:=m0) (M:=M) (no:=no) (x18:=x18) (x19:=x19) (x20:=x20) hD hv hw ht S (by omega) (nC _ (E7J hjl)) hr (E66 hjl) hl5 T8 hl7;obtain ⟨bF,h',f1,f2⟩:=D5k (q:=q) (m0:=m0) (no:=no) (x18:=x18) (x19:=x19) (x20:=x20) hD hv hw ht hl7 nC hl5 e (j+1) M (s++[(no,l[j])]) id1 h1 (by omega) (by omega) (by simp;omega) e2 e3 e4;rw [E7c,List.singleton_append] at f1 f2;rw [E7d hjl,E79];exact ⟨bF,h',e1.trans f1,f2⟩
theorem D6F {d:Int} {t L:List Int} {q:Nat} (hD:okD D) (hv:IsView g f D) (hw:VwR g r (vwC D.length n m f)) (ht:t.length=32) (hq:8<=q) (hL:L.length<=32) :
  ∀ (e i M:Nat) (s:List Spt) (id:Nat) (h:B5),i+e=L.length->e<M->s.length<=7*i->NmS D (d::t) L g s id h ->
  ∃ M' bF h',aH q M (pV r 0) (pV g.length 0) (.c (.m (g.length+2))) (sV id 0 (I5 D (d::t) s).length 1) (sV (g.length+4) 0 L.length 1) (iV (L.length:Nat)) (iV (i:Int)) h =
   aH q (M'+1) (pV r 0) (pV g.length 0) (.c (.m (g.length+2))) (sV bF 0 (I5 D (d::t) (s++uU D (L.drop i))).length 1) (sV (g.length+4) 0 L.length 1) (iV (L.length:Nat)) (iV (L.length:Nat)) h'/\NmS D (d::t) L g (s++uU D (L.drop i)) bF h'/\(s++uU D (L.drop i)).length<=7*L.length:=by
 intro e
 induction e with
 | zero =>
  intro i M s id h hi hM hn S;obtain ⟨M,rfl⟩:∃ M',M=M'+1:=⟨M-1,by omega⟩;have ei:i=L.length:=by omega
  subst ei;rw [List.drop_length,show uU D []=[] from rfl,E7w];exact ⟨M,id,h,rfl,S,hn⟩
 | succ e ih =>
  intro i M s id h hi hM hn S;obtain ⟨M,rfl⟩:∃ M',M=M'+1:=⟨M-1,by omega⟩;have O9:i<L.length:=by omega
  have c0:(i:Int)<(L.length:Nat):=by omega
  have ad:E1 1 (sV (g.length+4) 0 L.length 1) (iV (i:Int))=A4 (pV (g.length+4) i):=by rw [C9 O9];simp
  have l1:B8 h (pV (g.length+4) i)=A4 (iV L[i]):=C4 S.rs (by rw [G8,E66 O9];rfl) rfl;have lV:=(hw.since S.low).load;have hB:=bI (n:=n) (m:=m) (no:=L[i]) hD (hv.since S.low);obtain ⟨v,tt,b1,b2,b3⟩:=A8l (b:=blk D L[i]) (h:=h) (O5 hD);have hlen:=b2.len;have h7:=dW (blk D L[i]);have w1:=D3 (show i+1<9223372036854775808 by omega);have nC:∀ x∈N9 (blk D L[i]),x.2.1.length<=24:=λx hx=>by
   have:=A0W (B2z hx).1;exact this
  have main:∃ id1 h1,aI q M q (pV r 0) (pV g.length 0) (.c (.m (g.length+2))) (sV id 0 (I5 D (d::t) s).length 1) (iV L[i]) (sV (g.length+4) 0 L.length 1) (iV (L.length:Nat)) (iV (i:Int)) v (iV ((N9 (blk D L[i])).length:Nat)) (iV ((0:Nat):Int)) (h++tt) =
    bnd (O4 .add (iV (i:Int)) (iV 1)) (λv=>aH q M (pV r 0) (pV g.length 0) (.c (.m (g.length+2))) (sV id1 0 (I5 D (d::t) (s++(N9 (blk D L[i])).map λx=>(L[i],x))).length 1) (sV (g.length+4) 0 L.length 1) (iV (L.length:Nat)) v h1)/\NmS D (d::t) L g (s++(N9 (blk D L[i])).map λx=>(L[i],x)) id1 h1:=by
   rcases b3 with ⟨rfl,rfl,b3⟩ | ⟨rfl,rfl⟩
   ·rw [b3];refine ⟨id,h,?_,by simpa using S⟩;obtain ⟨q',rfl⟩:∃ q',q=q'+1:=⟨q-1,by omega⟩;have c00:¬ ((0:Nat):Int)<((([]:List Slt).length:Nat):Int):=by simp
    rw [gT,E7w,List.map_nil,E7w];simp only [P9,A1w,c00,decide_false,C7s]
   ·have gS:=C8 S.rs;have idl:=C8 S.rl;obtain ⟨bF,h',f1,f2⟩:=D5k (lst:=h.length) (q:=q) (m0:=M) (no:=L[i]) (x18:=sV (g.length+4) 0 L.length 1) (x19:=iV (L.length:Nat)) (x20:=iV (i:Int)) (l:=N9 (blk D L[i])) hD hv hw ht h7 nC (by omega) (N9 (blk D L[i])).length 0 q s id (h++[rT (sP (N9 (blk D L[i])))]) (by omega) (by omega) (by omega) (S.more _) (by simp) (by omega);rw [E7p] at f1 f2;exact ⟨bF,h',f1,f2⟩
  obtain ⟨id1,h1,m1,m2⟩:=main;obtain ⟨M',bF,h',f1,f2,f3⟩:=ih (i+1) M _ id1 h1 (by omega) (by omega) (by simp;omega) m2;rw [E7c,<-C0N,<-E7d O9] at f1 f2 f3;refine ⟨M',bF,h',?_,f2,f3⟩;rw [rY];have e00:((0:Nat):Int)=0:=rfl;rw [e00] at m1;generalize vwC D.length n m f=V at *;simp only [esc,Nat.add_zero,c0,ad,l1,lV,hB,b1,hlen];simp only [A1v,P9,w1] at m1;exact m1.trans f1
theorem E0U {F:List UInt8->Int} {B:B5} {b q mid sid:Nat} {S:W0} {es:W9} (hm:MapN es F S) (hb:b<=B.length) (hs:rd B sid=rT (encS S)) (h4:rd B mid=A4 (T1 es)) (h62:S.length<1000000) :
  ∀ (e i M id:Nat) (h:B5),i+e=S.length->e<M->Low b B h->id≠sid->id≠mid->b<=id->(∀ j r,j=sid\/j=mid->rd B j=A4 r->rd h j=A4 r)->rd h id=rT (V3 ((S.take i).map λs=>(s,F s)))->B.length<=h.length ->
   ∃ v' h',zP q M (.c (.m mid)) (.c (.sl id 0 i 2)) (.c (.sl sid 0 S.length 1)) (.c (.i .i64 (S.length:Int))) (.c (.i .i64 (i:Int))) h=A4 (v',h')/\Out b h' v' 2 S.length (V3 (S.map λs=>(s,F s)))
 | e,i,0,id,h,_,hm,_,_,_,_,_,_,_=>by omega
 | 0,i,M+1,id,h,hi,hm0,hlow,ns,n4,hbi,hk,hr,hl=>by
  have c0:¬ (i:Int)<(S.length:Nat):=by omega
  have ei:i=S.length:=by omega
  subst ei;rw [rZ];rw [List.take_length] at hr;refine ⟨.c (.sl id 0 S.length 2),h,by simp only [P9,A1w,c0,decide_false,C7s],by rw [B2u];simp,id,rfl,hbi,hr⟩
 | e+1,i,M+1,id,h,hi,hm0,hlow,ns,n4,hbi,hk,hr,hl=>by
  have O9:i<S.length:=by omega
  have c0:(i:Int)<(S.length:Nat):=by omega
  have ad:E1 1 (.c (.sl sid 0 S.length 1)) (.c (.i .i64 (i:Int)))=A4 (.c (.p sid i)):=by rw [C9 O9];simp
  have l1:B8 h (.c (.p sid i))=A4 (.c (.s S[i])):=C4 (hk sid _ (.inl rfl) hs) (by rw [A5m,E66 O9];rfl) rfl;have lk:=E0L (s:=S[i]) (hk _ _ (.inr rfl) h4) hm (E7J O9);have ef:E4 [Cell.s [],o0] [(0,1,.c (.s S[i])),(1,1,.c (.i .i64 (F S[i])))]=A4 (W2 (A4 (S[i],F S[i]))):=rfl;have ef2:E4 [Cell.s [],o0] [(0,2,.a (W2 (A4 (S[i],F S[i]))))]=A4 (W2 (A4 (S[i],F S[i]))):=rfl;have el:((S.take i).map λs=>(s,F s)).length=i:=by simp;omega
  obtain ⟨h2,a1,a2,a3,a4⟩:=C8H (n:=i) (sz:=2) (ys:=W2 (A4 (S[i],F S[i]))) hr (by rw [B2u,el]) rfl (by omega) (by omega);have et:V3 ((S.take i).map λs=>(s,F s))++W2 (A4 (S[i],F S[i]))=V3 ((S.take (i+1)).map λs=>(s,F s)):=by
   rw [List.take_add_one,E66 O9,E71,V3];simp [V3]
  rw [et] at a2;have w1:=D3 (show i+1<9223372036854775808 by omega);have E64:=C8 a2;obtain ⟨v',h',f1,f2⟩:=E0U (q:=q) hm hb hs h4 h62 e (i+1) M (h.length+1) h2 (by omega) (by omega) (hlow.trans (a4 _ hbi (by omega)))
   (λe1=>by have:=C8 hs;omega) (λe1=>by have:=C8 h4;omega) (by omega) (λj r hj hjr=>a3 _ _ (by rcases hj with rfl | rfl<;>omega) (hk j r hj hjr)) a2 (by omega)
  rw [rZ];refine ⟨v',h',?_,f2⟩;simp only [P9,A1w,c0,decide_true,D7r,ad,l1,lk,ef,ef2,a1,A1v,w1];exact f1
theorem E0Q {d:Int} {t:List Int} (hD:okD D) (hv:IsView h f D) (hr:VwR h r (vwC D.length n m f)) (ht:t.length=32) :
  gL [.c (.p r 0),.a (encI (d::t))] h=A4 (.c (.sl h.length 0 (nP D (d::t) (L8 t (D1 d))).length 2),h++[rT (V3 (nP D (d::t) (L8 t (D1 d))))]):=by
 have h33:(encI (d::t)).length=33:=by simp [B7,ht]
 have hLl:(L8 t (D1 d)).length<=32:=E7K (gE _ _) (O6 _);have key:∀ g,IsView g f D->VwR g r (vwC D.length n m f)->∃ v g',oR 300 [.c (.p r 0),.a (encI (d::t))] g=A4 (v,g')/\Out g.length g' v 2 (nP D (d::t) (L8 t (D1 d))).length (V3 (nP D (d::t) (L8 t (D1 d)))):=by
  intro g hv hw;have hB:=vJ (d:=d) (t:=t) (h:=g++[rT (encI (d::t)),rT [],A4 (T1 []),rT []]) ht;obtain ⟨L,hL⟩:∃ L,L=L8 t (D1 d):=⟨_,rfl⟩;rw [<-hL] at hB hLl ⊢;obtain ⟨G,hG⟩:∃ G,G=g++[rT (encI (d::t)),rT [],A4 (T1 []),rT [],rT (encI L)]:=⟨_,rfl⟩;have S0:NmS D (d::t) L g [] (g.length+3) G:=by
   rw [hG];exact ⟨(Low.refl (E7b _)).new _,by simp,⟨[],by simp,MapN.nil _⟩,by simp,by simp [I5,encS],.inl rfl⟩
  obtain ⟨M',id,H,e1,S,hn⟩:=D6F (q:=300) hD hv hw ht (by omega) hLl L.length 0 300 [] (g.length+3) G (by omega) (by omega) (by simp) S0;rw [E7p,E7m] at e1 S hn;obtain ⟨N,hN⟩:∃ N,N=I5 D (d::t) (uU D L):=⟨_,rfl⟩;have cC:=A5O (D:=D) (X:=d::t) (s:=uU D L);have hrl:=S.rl;rw [<-hN] at e1 cC hrl;have hH:Has (H++[rT []]) (.c (.sl id 0 N.length 1)) 1 N.length (encS N):=Has.row (rw:=A5) (C5 hrl) (by rw [N3];omega) (B8H _);have hSo:=D3r hH (by omega);obtain ⟨es,r4,hm⟩:=S.rm;rw [<-hN] at hm;have hm2:MapN es (B1A D (d::t)) (gI N):=⟨hm.1,λs hs=>hm.2 s ((B2H _ _).1 hs)⟩;have nC:=A7S N;have lh:(H++[rT []]).length=H.length+1:=by simp
  rw [lh] at hSo;have V5:=C8 r4;have gl:=S.low.2.1;obtain ⟨v',g',o1,o2⟩:=E0U (F:=B1A D (d::t)) (B:=H++[rT []]++[rT (encS (gI N))]) (b:=g.length) (q:=300) (mid:=g.length+2) (sid:=H.length+1) (S:=gI N) hm2 (by simp;omega) (by rw [<-lh];exact T9) (C5 (C5 r4)) (by omega)
   (gI N).length 0 300 H.length (H++[rT []]++[rT (encS (gI N))]) (by omega) (by omega) (Low.refl (by simp;omega)) (by omega) (by omega) (by omega) (λj r _ hj=>hj) (by simp [V3]) (E7b _)
  have eL:nP D (d::t) L=(gI N).map λs=>(s,B1A D (d::t) s):=by unfold nP;rw [<-hN]
  refine ⟨v',g',?_,by rw [eL,List.length_map];exact o2⟩;have c0:¬ ((L.length:Nat):Int)<(L.length:Nat):=by omega
  have l33:ldN (rT (encI (d::t))) 0 33=A4 (.a (encI (d::t))):=jY h33;have n0:(I5 D (d::t) ([]:List Spt)).length=0:=rfl;have e00:((0:Nat):Int)=0:=rfl;rw [n0,e00] at e1;rw [hG] at e1;rw [e00] at o1;rw [A8T];simp only [esc] at hB;rw [rY 300 M'] at e1;simp only [esc,c0,hSo] at e1 o1;generalize encI (d::t)=X at *;simp only [esc,bL,Q9,Nat.reduceAdd,l33,hB];refine e1.trans ?_;exact o1
 obtain ⟨v,g',e,ho⟩:=key (ro h) hv.ro hr.ro;exact A6I e (by simpa [F7] using ho) D6l
end
theorem D13 {b:List UInt8} {k:Nat} {x:Ent} (hx:S3 b k=A4 x):A15 x.1 x.2=A5:=by
 unfold S3 at hx;cases hu:dM (nameB b k) with
 | none=>rw [hu] at hx;cases hx
 | some s' =>
  rw [hu,E7h] at hx;split at hx
  ·rename_i hc;cases hx;unfold isE at hc;rw [E69] at hc;exact hc.1
  ·cases hx
theorem D8k {h:B5} {b id n:Nat} {a:Int} {cs:List Cell} (hb:b<=id) (hr:rd h id=rT cs) (hf:N8 cs=A5) :
  Y0 h b (.t [.a [.i .i64 a,.sl id 0 n 1],.c o0])=A4 (.t [.a [.i .i64 a,.sl b 0 n 1],.c o0],[id]):=by
 have h1:¬ id<b:=by omega
 have hc1:R5 h b [] [.i .i64 a,.sl id 0 n 1]=A4 ([.i .i64 a,.sl b 0 n 1],[id]):=by
  simp [R5,Cell.low,Cell.flat,A0U hr hf,h1,hb]
 have hc2:R5 h b [id] [o0]=A4 ([o0],[id]):=dE (by simp);simp only [Y0,gP,hc1,hc2,E7h,Option.map_some]
theorem E3L {a:Int} {x:Cell}:E4 [o0,.ns] [(0,1,iV a),(1,1,.c x)]=A4 [.i .i64 a,x]:=rfl
theorem C7d {k id n:Nat} {h:B5} (hk:k<7) (hid:id<h.length):A3O [iV (k:Int),iV 0,sV id 0 n 1] h=A4 (.t [.a [.i .i64 (K9 k:Nat),.sl id 0 n 1],.c o0],h):=by
 have key:∀ g,∃ g',A3p 0 [iV (k:Int),iV 0,sV id 0 n 1] g=A4 (.t [.a [.i .i64 (K9 k:Nat),.sl id 0 n 1],.c o0],g'):=by
  intro g;have c1:¬ (k:Int)<0:=by omega
  have c2:¬ 7<=(k:Int):=by omega
  have hF:=λh=>oO (h:=h) hk
  have w1:IntKind.wrap .i64 (((K9 k:Nat):Int)+0)=((K9 k:Nat):Int):=by unfold K9;rw [wrap_i64 (by omega) (by omega)];omega
  rw [B9i];exact ⟨_,by simp only [esc,esh,Nat.reduceAdd,Nat.reduceMul,Nat.reduceLT,c1,c2,hF,w1,E3L]<;>rfl⟩
 obtain ⟨g',e⟩:=key (ro h);exact B7b e (by simp [Val.low,Cell.low,Cell.flat,hid])
theorem C93 {k:Nat} {s:List UInt8} {n:Int} {h:B5} (hs:s.length<9223372036854775807) (hk:k<7) (hm:A15 s n=A5):A6B [iV (k:Int),.a [.s s,.i .i64 n]] h=A4 (.t [.a [.i .i64 (K9 k:Nat),.sl h.length 0 32 1],.c o0],h++[rT (B4 (Y2 s n))]):=by
 have key:∀ g,∃ g',A6g 0 [iV (k:Int),.a [.s s,.i .i64 n]] g=A4 (.t [.a [.i .i64 (K9 k:Nat),.sl (g.length+2) 0 32 1],.c o0],g')/\rd g' (g.length+2)=rT (B4 (Y2 s n)):=by
  intro g;have c1:0<=(k:Int):=by omega
  have c2:(k:Int)<7:=by omega
  have hM:=λh=>A4e (s:=s) (n:=n) (h:=h) hs
  rw [hm] at hM;have hW:=λh=>rX (s:=s) (n:=n) (h:=h) hs
  have hL:=C7d (k:=k) (id:=g.length+2) (n:=32) (h:=g++[rT [.s s,.i .i64 n],rT [o0,.ns],rT (B4 (Y2 s n))]) hk (by simp);rw [C3i];generalize Y2 s n=E at *;exact ⟨_,by simp only [esc,esh,Nat.reduceAdd,Nat.reduceMul,Nat.reduceLT,c1,c2,hM,hW,hL]<;>rfl,by simp⟩
 obtain ⟨g',e,hr⟩:=key (ro h);rw [F7] at hr;have:=B7a e (D8k (b:=h.length) (by rw [F7];omega) (by rw [F7];exact hr) (by simp));rw [this,F7];simp [hr]
def MapK (es:W9) (K:List UInt8->Option Int):Prop:=(∀ e∈es,∃ s,e.1=Cell.s s)/\∀ s,(B1Q (.s s) es).map (·.2)=(K s).map λv=>Part.c (.i .i64 v)
def D0G (K:List UInt8->Option Int) (a:List UInt8) (v:Int):List UInt8->Option Int:=λs=>if s=a then A4 v else K s
theorem MapK.nil:MapK [] λ_=>A7:=⟨λe he=>by simp at he,λs=>rfl⟩
theorem MapK.put {es:W9} {K:List UInt8->Option Int} (hm:MapK es K) (a:List UInt8) (v:Int):MapK (A88 (.s a) (.c (.i .i64 v)) es) (D0G K a v):=by
 refine ⟨C1c (Q:=λc=>∃ s,c=.s s) ⟨a,rfl⟩ hm.1,λs=>?_⟩;unfold D0G;by_cases c:s=a
 ·subst c;rw [if_pos rfl,(A0T (k':=.mh)).1];rfl
 ·rw [if_neg c,(A0T (k:=.s a) (k':=.s s)).2 (by simpa using c)];exact hm.2 s
theorem E5p {h:B5} {mid:Nat} {es:W9} {K:List UInt8->Option Int} {a:List UInt8} (hr:rd h mid=A4 (T1 es)) (hm:MapK es K):A8j h A7 (.c o0) A6 (.c (.m mid)) (.c (.s a))=A4 (.c (.i .i64 ((K a).getD 0))):=by
 simp only [A8j,C8a,D8N,hr,E7h,A0S];rw [if_pos (D7D hm.1)];have h2:=hm.2 a;cases hg:B1Q (.s a) es with
 | none =>
  rw [hg] at h2;cases hF:K a with
  | none=>rfl
  | some v=>rw [hF] at h2;cases h2
 | some ip =>
  obtain ⟨i,p⟩:=ip;rw [hg] at h2;cases hF:K a with
  | none=>rw [hF] at h2;cases h2
  | some v=>rw [hF] at h2;simp at h2;subst h2;rfl
theorem E6C {h:B5} {mid:Nat} {es:W9} {K:List UInt8->Option Int} {a:List UInt8} {x:Int} (hr:rd h mid=A4 (T1 es)) (hm:MapK es K):A2O h A7 (.c (.m mid)) (.c (.s a)) (.c (.i .i64 x))=A4 (h.set mid (A4 (T1 (A88 (.s a) (.c (.i .i64 x)) es)))):=by
 simp only [A2O,C8a,C8I,hr,E7h,A0S];rw [if_pos (D7D hm.1)]
def A28 (D:Dev) (X:List Int) (no:Int) (K:List UInt8->Option Int) (x:Slt):Bool:=atH D X (no,x)&&decide ((K x.2.1).getD 0=x.2.2)
def gF (D:Dev) (X:List Int) (no:Int) (K:List UInt8->Option Int) (s:Cl × List UInt8) (x:Slt):Cl × List UInt8 :=
 bif A28 D X no K x then (s.1,J1 s.2 (K9 x.1) (Y2 x.2.1 x.2.2)) else ({ s.1 with lost:=s.1.lost+1 },s.2)
def U5 (D:Dev) (X:List Int) (no:Int) (K:List UInt8->Option Int) (s:Cl × List UInt8) (l:List Slt):Cl × List UInt8:=l.foldl (gF D X no K) s
theorem D1t {D:Dev} {X:List Int} {no:Int} {K:List UInt8->Option Int} {s:Cl × List UInt8} {x:Slt} (hs:s.2.length=256) (hk:x.1<7):(gF D X no K s x).2.length=256:=by
 unfold gF;cases A28 D X no K x with
 | false=>exact hs
 | true=>rw [cond_true];dsimp only;rw [P5 (by rw [hs,Y3];unfold K9;omega)];exact hs
theorem C7u {D:Dev} {X:List Int} {no:Int} {K:List UInt8->Option Int} {s:Cl × List UInt8} {x:Slt}:s.1.lost<=(gF D X no K s x).1.lost/\(gF D X no K s x).1.lost<=s.1.lost+1:=by
 unfold gF;cases A28 D X no K x<;>simp<;>omega
section
variable {D:Dev} {n m:Int} {f:Cell} {g:B5} {r:Nat} {h:B5}
theorem LocV.more {t:B5} {id:Nat} {cs:List Cell} (hr:r<h.length) (a:LocV h r id cs):LocV (h++t) r id cs :=
 a.fr (Fr.low ((Low.refl (E7b _)).new _) hr)
def LocM (h:B5) (r id:Nat) (es:W9):Prop:=Loc h r id/\rd h id=A4 (T1 es)
theorem LocM.fr {h':B5} {id:Nat} {es:W9} (a:LocM h r id es) (b:Fr r h h'):LocM h' r id es:=by
 obtain ⟨h1,h2⟩:=b.loc a.1;exact ⟨h1,by rw [h2];exact a.2⟩
theorem LocM.set {id j:Nat} {es:W9} {x:Option Row} (a:LocM h r id es) (hj:j≠id) (hl:j≠r):LocM (h.set j x) r id es:=by
 refine ⟨⟨by simpa using a.1.1,a.1.2.1,λhn=>a.1.2.2 ((Nam.same (B6 hl)).1 hn)⟩,by rw [B6 hj];exact a.2⟩
theorem D6h {d:Int} {t:List Int} {no:Int} {K:List UInt8->Option Int} {es:W9} {l:List Slt} {mk px p8 p9 lst q:Nat} {h0:B5} (hD:okD D) (hv:IsView g f D) (ht:t.length=32) (hK:MapK es K) (h0g:g.length<=h0.length) (a8:h0.length<=p8) (a9:h0.length<=p9)
  (n1:p9≠mk) (n2:p9≠px) (n3:p9≠p8) (n4:p9≠lst) (hl7:l.length<=7) (nC:∀ x∈l,x.1<7/\x.2.1.length<=24/\A15 x.2.1 x.2.2=A5) :
  ∀ (e j M:Nat) (s:Cl × List UInt8) (h:B5),j+e=l.length->e<M->s.2.length=256->0<=s.1.lost->s.1.lost+e<=1000000->WP D n m f g r s.1 h->Fr r h0 h->LocM h r mk es->LocV h r px (encI (d::t))->(∃ z,z.length=256/\LocV h r p8 z)->LocV h r p9 (B4 s.2)->LocV h r lst (sP l) ->
  ∃ h',bZ q M (.c (.p r 0)) (.c (.i .i64 no)) (.c (.m mk)) (.c (.p px 0)) (.c (.p p8 0)) (.c (.p p9 0)) (.c (.sl lst 0 l.length 3)) (.c (.i .i64 (l.length:Nat))) (.c (.i .i64 (j:Int))) h=A4 (.a (B4 (U5 D (d::t) no K s (l.drop j)).2),h')/\WP D n m f g r (U5 D (d::t) no K s (l.drop j)).1 h'/\Fr r h0 h':=by
 intro e
 induction e with
 | zero =>
  intro j M s h hj hM hs l0 l1 P F hm hx hz hb hl;obtain ⟨M,rfl⟩:∃ M',M=M'+1:=⟨M-1,by omega⟩;have c0:¬ ((j:Int)<(l.length:Nat)):=by omega
  obtain ⟨z,yN,hz⟩:=hz;have hbl:(B4 s.2).length=256:=by rw [A9,hs]
  have q1:=C7 (n:=256) hb.2 hbl;have s1:=storeAll (n:=256) (xs:=B4 s.2) hz.2 yN hbl;have hz2:=hz.self (cs':=B4 s.2);have q2:=C7 (n:=256) hz2.2 hbl;rw [E7k (by omega)];refine ⟨h.set p8 (rT (B4 s.2)),?_,P.set hz.1 (by omega),F.set hz.1 a8⟩;rw [dS];show _=A4 (Val.a (B4 s.2),_);generalize B4 s.2=B at *;simp only [esc,c0,q1,s1,q2]
 | succ e ih =>
  intro j M s h hj hM hs l0 l1 P F hm hx hz hb hl;obtain ⟨M,rfl⟩:∃ M',M=M'+1:=⟨M-1,by omega⟩;have hjl:j<l.length:=by omega
  have c0:((j:Int)<(l.length:Nat)):=by omega
  have hv2:=hv.get;have ad:E1 3 (.c (.sl lst 0 l.length 3)) (.c (.i .i64 (j:Int)))=A4 (.c (.p lst (j*3))):=by rw [C9 hjl];simp
  have hlen:=yJ (l:=l);have w1:=D3 (show j+1<9223372036854775808 by omega);obtain ⟨x,hxe⟩:∃ x,x=l[j]:=⟨_,rfl⟩;have hxj:l[j]?=A4 x:=by rw [hxe];exact E66 hjl
  obtain ⟨x7,x24,xm⟩:=nC x (by rw [hxe];exact E7J hjl);have l3:D4 h 3 (.c (.p lst (j*3)))=A4 (.a (slC (A4 x))):=by rw [dI hl.2 (by rw [hlen];omega) rfl,D73 hxj]
  have xY:=D1t (D:=D) (X:=d::t) (no:=no) (K:=K) (s:=s) (x:=x) hs x7;have hlo:=C7u (D:=D) (X:=d::t) (no:=no) (K:=K) (s:=s) (x:=x);rw [E7d hjl,<-hxe];have er:∀ T,U5 D (d::t) no K s (x::T)=U5 D (d::t) no K (gF D (d::t) no K s x) T:=λT=>rfl
  rw [er];obtain ⟨k,nm,i⟩:=x;dsimp only at x7 x24 xm;obtain ⟨h1,e1⟩:∃ h1,h1=h++[rT (slC (A4 (k,nm,i)))]:=⟨_,rfl⟩;have s3:E6 (h++[rT [o0,.s [],o0]]) 3 (.c (.p h.length 0)) (.a (slC (A4 (k,nm,i))))=A4 h1:=by rw [L7,e1];rfl
  have P1:WP D n m f g r s.1 h1:=e1 ▸ P.more hv2 _;have hx1:LocV h1 r px (encI (d::t)):=e1 ▸ hx.more P.rlt;have lX:D4 h1 33 (.c (.p px 0))=A4 (.a (encI (d::t))):=C7 hx1.2 (by simp [B7,ht]);have lN:B8 h1 (.c (.p h.length 1))=A4 (.c (.s nm)):=by rw [e1,T7];rfl
  have hH:=D7z (n:=n) (m:=m) (f:=f) (r:=r) (d:=d) (t:=t) (nm:=nm) (h:=h1) hD (hv.since P1.lo) (P1.vw hv2) ht (by omega);obtain ⟨h2,e2⟩:∃ h2,h2=h1++[rT (C1l (R3 (d::t) nm) (hmS D (d::t) nm))]:=⟨_,rfl⟩;have s4:E6 (h1++[rT [o0,o0,.s [],o0]]) 4 (.c (.p h1.length 0)) (.a (C1l (R3 (d::t) nm) (hmS D (d::t) nm)))=A4 h2:=by
   rw [L7,e2];cases hmS D (d::t) nm<;>rfl
  have e12:h2=h++[rT (slC (A4 (k,nm,i))),rT (C1l (R3 (d::t) nm) (hmS D (d::t) nm))]:=by rw [e2,e1];simp
  have F2:Fr r h h2:=by rw [e12];exact Fr.low ((Low.refl (E7b _)).new _) P.rlt
  have P2:WP D n m f g r s.1 h2:=by rw [e12];exact P.more hv2 _
  have m2:=hm.fr F2;have x2:=hx.fr F2;have b2:=hb.fr F2;have ls2:=hl.fr F2;obtain ⟨z,yN,hz⟩:=hz;have z2:=hz.fr F2;have lB:B8 h2 (.c (.p h1.length 0))=A4 (.c (.i .i64 (R3 (d::t) nm))):=by rw [e2,T7];rfl
  have lS:D4 h2 3 (.c (.p h1.length 1))=A4 (.a (slC (hmS D (d::t) nm))):=by rw [e2,Q9];cases hmS D (d::t) nm<;>rfl
  have rp:rd h2 h.length=rT (slC (A4 (k,nm,i))):=by rw [e2,e1];simp
  have lP:D4 h2 3 (.c (.p h.length 0))=A4 (.a (slC (A4 (k,nm,i)))):=C7 rp rfl;have lP0:B8 h2 (.c (.p h.length 0))=A4 (.c (.i .i64 (k:Int))):=C4 rp rfl rfl;have lP1:B8 h2 (.c (.p h.length 1))=A4 (.c (.s nm)):=C4 rp rfl rfl;have lP2:B8 h2 (.c (.p h.length 2))=A4 (.c (.i .i64 i)):=C4 rp rfl rfl;have lPE:D4 h2 2 (.c (.p h.length 1))=A4 (.a [.s nm,.i .i64 i]):=by rw [dI rp (by simp [slC]) rfl];rfl
  have lk:=E5p (a:=nm) m2.2 hK;have lose:A28 D (d::t) no K (k,nm,i)=A6->∃ h3 h',B8 h2 (.c (.p r 9))=A4 (.c (.i .i64 s.1.lost))/\IntKind.wrap .i64 (s.1.lost+1)=s.1.lost+1/\I3 h2 (.c (.p r 9)) (.c (.i .i64 (s.1.lost+1)))=A4 h3 /\
    bZ q M (.c (.p r 0)) (.c (.i .i64 no)) (.c (.m mk)) (.c (.p px 0)) (.c (.p p8 0)) (.c (.p p9 0)) (.c (.sl lst 0 l.length 3)) (.c (.i .i64 (l.length:Nat))) (.c (.i .i64 ((j+1:Nat):Int))) h3=A4 (.a (B4 (U5 D (d::t) no K (gF D (d::t) no K s (k,nm,i)) (l.drop (j+1))).2),h')/\WP D n m f g r (U5 D (d::t) no K (gF D (d::t) no K s (k,nm,i)) (l.drop (j+1))).1 h'/\Fr r h0 h':=by
   intro hk;have ec:gF D (d::t) no K s (k,nm,i)=({ s.1 with lost:=s.1.lost+1 },s.2):=by unfold gF;rw [hk];rfl
   obtain ⟨h3,f1,f2,f3,f4⟩:=P2.setLost hv2 (s.1.lost+1);have Fa:=F2.trans f4;obtain ⟨h',g1,g2⟩:=ih (j+1) M ({ s.1 with lost:=s.1.lost+1 },s.2) h3 (by omega) (by omega) hs (by dsimp only;omega) (by dsimp only;omega) f3 (F.trans Fa) (m2.fr f4) (x2.fr f4) ⟨z,yN,z2.fr f4⟩ (b2.fr f4) (ls2.fr f4);rw [ec];exact ⟨h3,h',f1,wrap_i64 (by omega) (by omega),f2,g1,g2⟩
  rw [dS];cases ho:hmS D (d::t) nm with
  | none =>
   obtain ⟨h3,h',f1,f2,f3,f4,f5⟩:=lose (by unfold A28 atH;simp only [ho];simp);refine ⟨h',?_,f5⟩;rw [ho] at hH s4 lS;generalize encI (d::t)=X at *;simp only [esc,Nat.reduceAdd,c0,ad,l3,s3,lX,lN,hH,E7x,s4,f1,f2,f3,S9,w1];exact f4
  | some p =>
   rw [ho] at hH s4 lS;have ea:=D74 (neg:=A5) p (k,nm,i);by_cases c1:R3 (d::t) nm=no
   ·rw [c1] at hH s4 lB;by_cases c2:p=(k,nm,i)
    ·have ea2:aeq A5 [.i .i64,.s,.i .i64] (.a (slC (A4 p))) (.a (slC (A4 (k,nm,i))))=A4 (.c (.b A6)):=by rw [ea,c2];simp
     by_cases c3:(K nm).getD 0=i
     ·have hk:A28 D (d::t) no K (k,nm,i)=A5:=by unfold A28 atH;simp only [ho,c1,c2,c3];simp
      have ec:gF D (d::t) no K s (k,nm,i)=(s.1,J1 s.2 (K9 k) (Y2 nm i)):=by unfold gF;rw [hk];rfl
      rw [ec] at xY ⊢;have E2h:=C93 (k:=k) (s:=nm) (n:=i) (h:=h2) (by omega) x7 xm;obtain ⟨h3,e3⟩:∃ h3,h3=h2++[rT (B4 (Y2 nm i)),rT [.i .i64 (K9 k:Nat),.sl h2.length 0 32 1]]:=⟨_,rfl⟩;have s5:E6 (h2++[rT (B4 (Y2 nm i)),rT [o0,.ns]]) 2 (.c (.p (h2.length+1) 0)) (.a [.i .i64 (K9 k:Nat),.sl h2.length 0 32 1])=A4 h3:=by rw [V1,e3];rfl
      have F3:Fr r h2 h3:=by rw [e3];exact Fr.low ((Low.refl (E7b _)).new _) P2.rlt
      have P3:WP D n m f g r s.1 h3:=by rw [e3];exact P2.more hv2 _
      have b3:=b2.fr F3;have hbl:(B4 s.2).length=256:=by rw [A9,hs]
      have q1:=C7 (n:=256) b3.2 hbl;have q2:D4 h3 2 (.c (.p (h2.length+1) 0))=A4 (.a [.i .i64 (K9 k:Nat),.sl h2.length 0 32 1]):=by rw [e3,bL];rfl
      have E3N:Has h3 (.c (.sl h2.length 0 32 1)) 1 32 (B4 (Y2 nm i)):=Has.row (rw:=A5) (by rw [e3];simp) (by rw [A9,Y3]) (F9 _);have E51:=B8T (a:=K9 k) (l:=s.2) E3N (by omega) (by unfold K9;omega) hs;have hl2:(B4 (J1 s.2 (K9 k) (Y2 nm i))).length=256:=by rw [A9];exact xY
      have sb:=storeAll (n:=256) (xs:=B4 (J1 s.2 (K9 k) (Y2 nm i))) b3.2 hbl hl2;have Fa:=F2.trans F3;obtain ⟨h',g1,g2⟩:=ih (j+1) M (s.1,J1 s.2 (K9 k) (Y2 nm i)) _ (by omega) (by omega) xY l0 (by dsimp only;omega) (P3.set b3.1 (by omega)) ((F.trans Fa).set b3.1 a9) ((m2.fr F3).set n1 b3.1.2.1) ((x2.fr F3).set n2 b3.1.2.1) ⟨z,yN,(z2.fr F3).set n3 b3.1.2.1⟩ b3.self ((ls2.fr F3).set n4 b3.1.2.1);refine ⟨h',?_,g2⟩
      try dsimp only at g1
      have f0:(3:Nat)=3:=rfl;generalize B4 (J1 s.2 (K9 k) (Y2 nm i))=B2 at *;generalize B4 s.2=B at *;generalize encI (d::t)=X at *;generalize B4 (Y2 nm i)=E at *;simp only [esc,Nat.reduceAdd,c0,ad,l3,s3,lX,lN,hH,E7o,s4,lB,eq_self,lS,lP,ea2,lP0,lP1,lP2,lPE,lk,c3,E2h,s5,q1,q2,E51,sb,S9,w1];exact g1
     ·obtain ⟨h3,h',f1,f2,f3,f4,f5⟩:=lose (by unfold A28;simp [c3]);refine ⟨h',?_,f5⟩;generalize encI (d::t)=X at *;simp only [esc,Nat.reduceAdd,c0,ad,l3,s3,lX,lN,hH,E7o,s4,lB,eq_self,lS,lP,ea2,lP1,lP2,lk,c3,f1,f2,f3,S9,w1];exact f4
    ·have ea2:aeq A5 [.i .i64,.s,.i .i64] (.a (slC (A4 p))) (.a (slC (A4 (k,nm,i))))=A4 (.c (.b A5)):=by rw [ea];simp [c2]
     obtain ⟨h3,h',f1,f2,f3,f4,f5⟩:=lose (by unfold A28 atH;simp only [ho];simp [c2]);refine ⟨h',?_,f5⟩;generalize encI (d::t)=X at *;simp only [esc,Nat.reduceAdd,c0,ad,l3,s3,lX,lN,hH,E7o,s4,lB,eq_self,lS,lP,ea2,f1,f2,f3,S9,w1];exact f4
   ·obtain ⟨h3,h',f1,f2,f3,f4,f5⟩:=lose (by unfold A28 atH;simp only [ho];simp [c1]);refine ⟨h',?_,f5⟩;generalize encI (d::t)=X at *;simp only [esc,Nat.reduceAdd,c0,ad,l3,s3,lX,lN,hH,E7o,s4,lB,c1,f1,f2,f3,S9,w1];exact f4
end
theorem B5Q {D:Dev} {X:List Int} {no:Int} {K:List UInt8->Option Int}:∀ {l:List Slt} {s:Cl × List UInt8},s.2.length=256->(∀ x∈l,x.1<7)->(U5 D X no K s l).2.length=256
 | [],_,hs,_=>hs
 | x::l,s,hs,h=>B5Q (l:=l) (s:=gF D X no K s x) (D1t hs (h x (E7u ..))) λy hy=>h y (E7s _ hy)
theorem A2W {D:Dev} {X:List Int} {no:Int} {K:List UInt8->Option Int}:∀ {l:List Slt} {s:Cl × List UInt8},s.1.lost<=(U5 D X no K s l).1.lost/\(U5 D X no K s l).1.lost<=s.1.lost+l.length
 | [],s=>⟨Int.le_refl _,by show s.1.lost<=_;simp⟩
 | x::l,s=>by
  have h1:=C7u (D:=D) (X:=X) (no:=no) (K:=K) (s:=s) (x:=x);have h2:=A2W (D:=D) (X:=X) (no:=no) (K:=K) (l:=l) (s:=gF D X no K s x);show s.1.lost<=(U5 D X no K (gF D X no K s x) l).1.lost/\_<=_;rw [E7g];refine ⟨by omega,?_⟩;show (U5 D X no K (gF D X no K s x) l).1.lost<=_;omega
structure SameL (c c':Cl):Prop where
 row:c'.row=c.row
 ino:c'.ino=c.ino
 blocks:c'.blocks=c.blocks
 made:c'.made=c.made
 taken:c'.taken=c.taken
 lnk:c'.lnk=c.lnk
 par:c'.par=c.par
theorem pS {D:Dev} {X:List Int} {no:Int} {K:List UInt8->Option Int}:∀ {l:List Slt} {s:Cl × List UInt8},SameL s.1 (U5 D X no K s l).1
 | [],_=>⟨rfl,rfl,rfl,rfl,rfl,rfl,rfl⟩
 | x::l,s=>by
  have h2:=pS (D:=D) (X:=X) (no:=no) (K:=K) (l:=l) (s:=gF D X no K s x);have h1:SameL s.1 (gF D X no K s x).1:=by
   unfold gF;cases A28 D X no K x<;>exact ⟨rfl,rfl,rfl,rfl,rfl,rfl,rfl⟩
  show SameL s.1 (U5 D X no K (gF D X no K s x) l).1;exact ⟨h2.row.trans h1.row,h2.ino.trans h1.ino,h2.blocks.trans h1.blocks,h2.made.trans h1.made,h2.taken.trans h1.taken,h2.lnk.trans h1.lnk,h2.par.trans h1.par⟩
theorem C8Y {b:List UInt8}:∀ x∈N9 b,x.1<7/\x.2.1.length<=24/\A15 x.2.1 x.2.2=A5:=λx hx=>by
 have h1:=B2z hx;exact ⟨h1.2,A0W h1.1,D13 h1.1⟩
section
variable {D:Dev} {n m:Int} {f:Cell} {g:B5} {r:Nat} {c:Cl} {h:B5}
theorem D6i {d:Int} {t:List Int} {no:Int} {K:List UInt8->Option Int} {es:W9} {mk:Nat} (hD:okD D) (hv:IsView g f D) (P:WP D n m f g r c h) (ht:t.length=32) (hK:MapK es K) (hm:LocM h r mk es) (l0:0<=c.lost) (l1:c.lost<=900000) :
  ∃ h',kF [.c (.p r 0),.a (encI (d::t)),.c (.i .i64 no),.c (.m mk)] h=A4 (.a (B4 (U5 D (d::t) no K (c,bN []) (N9 (blk D no))).2),h')/\WP D n m f g r (U5 D (d::t) no K (c,bN []) (N9 (blk D no))).1 h'/\Fr r h h':=by
 have hv2:=hv.get;have h33:(encI (d::t)).length=33:=by simp [B7,ht]
 have E53:=λh=>C92 (v:=.c .ns) (nv:=0) (l:=[]) (h:=h) (.inl ⟨rfl,rfl,rfl⟩) (by simp)
 have hNl:(B4 (bN [])).length=256:=by rw [A9];exact pY
 have hZl:(B4 (zeros 256)).length=256:=by rw [A9];exact zeros_length
 obtain ⟨T,hT⟩:∃ T,T=[rT (encI (d::t)),rT (B4 (zeros 256)),rT (B4 (bN []))]:=⟨_,rfl⟩;have F1:Fr r h (h++T):=Fr.low ((Low.refl (E7b _)).new _) P.rlt;have P1:=P.more hv2 T;have lV:=P1.view;have hB:=bI (n:=n) (m:=m) (no:=no) hD (hv.since P1.lo);obtain ⟨v,tt,b1,b2,b3⟩:=A8l (b:=blk D no) (h:=h++T) (O5 hD);have hlen:=b2.len;have h7:=dW (blk D no);have F2:Fr r (h++T) (h++T++tt):=Fr.low ((Low.refl (E7b _)).new _) P1.rlt;have P2:=P1.more hv2 tt;have L0:LocV (h++T) r h.length (encI (d::t)):=LocV.new (k:=0) hv2 P (by rw [hT];rfl);have L1:LocV (h++T) r (h.length+1) (B4 (zeros 256)):=LocV.new (k:=1) hv2 P (by rw [hT];rfl);have L2:LocV (h++T) r (h.length+2) (B4 (bN [])):=LocV.new (k:=2) hv2 P (by rw [hT];rfl);have main:∃ h',bZ 100 100 (.c (.p r 0)) (.c (.i .i64 no)) (.c (.m mk)) (.c (.p h.length 0)) (.c (.p (h.length+1) 0)) (.c (.p (h.length+2) 0)) v (.c (.i .i64 ((N9 (blk D no)).length:Nat))) (.c o0) (h++T++tt)=A4 (.a (B4 (U5 D (d::t) no K (c,bN []) (N9 (blk D no))).2),h')/\WP D n m f g r (U5 D (d::t) no K (c,bN []) (N9 (blk D no))).1 h'/\Fr r h h':=by
  rcases b3 with ⟨rfl,rfl,b3⟩ | ⟨rfl,rfl⟩
  ·rw [b3,E7w];have c00:decide ((0:Int)<((0:Nat):Int))=A6:=by decide
   have q1:=C7 (n:=256) L2.2 hNl;have s1:=storeAll (n:=256) (xs:=B4 (bN [])) L1.2 hZl hNl;have z2:=L1.self (cs':=B4 (bN []));have q2:=C7 (n:=256) z2.2 hNl;refine ⟨(h++T).set (h.length+1) (rT (B4 (bN []))),?_,P1.set L1.1 (by have:=P.lo.2.1;omega),F1.set L1.1 (by omega)⟩;rw [dS];show _=A4 (Val.a (B4 (bN [])),_);generalize B4 (bN [])=B at *;generalize h++T=G at *;simp only [esc,c00,q1,s1,q2]
  ·have hT3:(h++T).length=h.length+3:=by rw [hT];simp
   have L3:LocV (h++T++[rT (sP (N9 (blk D no)))]) r ((h++T).length+0) (sP (N9 (blk D no))):=LocV.new (k:=0) hv2 P1 rfl;rw [Nat.add_zero] at L3;have hml:=hm.1.1;obtain ⟨h',e1,e2,e3⟩:=D6h (n:=n) (m:=m) (q:=100) (no:=no) (h0:=h) (mk:=mk) (px:=h.length) (p8:=h.length+1) (p9:=h.length+2) (lst:=(h++T).length) (l:=N9 (blk D no)) hD hv ht hK P.lo.2.1 (by omega) (by omega) (by omega) (by omega) (by omega) (by omega) h7 C8Y (N9 (blk D no)).length 0 100 (c,bN []) _ (by omega) (by omega) (pY (l:=[])) l0 (by dsimp only;omega) P2 (F1.trans F2) (hm.fr (F1.trans F2)) (L0.fr F2) ⟨_,hZl,L1.fr F2⟩ (L2.fr F2) L3;rw [E7p] at e1 e2;exact ⟨h',e1,e2,e3⟩
 obtain ⟨h',e1,e2,e3⟩:=main;refine ⟨h',A4Y (n:=100) ?_,e2,e3⟩;rw [A4Q,I7];rw [hT] at e1 lV hB b1;have sB:stN (rT (B4 (zeros 256))) 0 256 (B4 (bN []))=rT (B4 (bN [])):=nL hZl hNl;generalize B4 (U5 D (d::t) no K (c,bN []) (N9 (blk D no))).2=BR at *;generalize B4 (bN [])=B at *;generalize B4 (zeros 256)=Z at *;generalize encI (d::t)=X at *;generalize vwC D.length n m f=V at *;generalize B4 (blk D no)=Y at *;simp only [esc,E53,V1,Nat.reduceAdd,sB,lV,hB,b1,hlen];simp only [esc] at e1;exact e1
end
def Z5 (D:Dev) (n ino:Int) (s:Cl × (List UInt8->Option Int)) (e:Ent):Cl × (List UInt8->Option Int):=bif iP D n s.1 e.2 then (dL D n s.1 ino e.2,D0G s.2 e.1 e.2) else s
def aT (D:Dev) (n ino:Int) (s:Cl × (List UInt8->Option Int)) (L:List Ent):Cl × (List UInt8->Option Int):=L.foldl (Z5 D n ino) s
def vM (D:Dev) (X:List Int) (K:List UInt8->Option Int) (c:Cl) (no:Int):Cl:=S5 (U5 D X no K (c,bN []) (N9 (blk D no))).1 no (U5 D X no K (c,bN []) (N9 (blk D no))).2
def N6 (D:Dev) (X:List Int) (K:List UInt8->Option Int) (c:Cl) (L:List Int):Cl:=L.foldl (vM D X K) c
def BndL (c:Cl) (B:Int):Prop:=∀ i,0<=(c.lnk i).getD 0/\(c.lnk i).getD 0<=B
theorem BndL.mono {c:Cl} {B B':Int} (h:BndL c B) (hb:B<=B'):BndL c B':=λi=>⟨(h i).1,Int.le_trans (h i).2 hb⟩
structure SameT (c c':Cl):Prop where
 ino:c'.ino=c.ino
 blocks:c'.blocks=c.blocks
 made:c'.made=c.made
 taken:c'.taken=c.taken
 lost:c'.lost=c.lost
theorem A3i {D:Dev} {n ino B:Int} {s:Cl × (List UInt8->Option Int)} {e:Ent} (hb:BndL s.1 B):SameT s.1 (Z5 D n ino s e).1/\BndL (Z5 D n ino s e).1 (B+1)/\(Z5 D n ino s e).1.row.length<=s.1.row.length+1:=by
 have hl:BndL (B1N s.1 e.2) (B+1):=by
  intro i;have h1:=hb i;have h2:=hb e.2;unfold B1N vO;dsimp only;by_cases c:i=e.2
  ·rw [if_pos c];simp;omega
  ·rw [if_neg c];omega
 unfold Z5 dL;cases iP D n s.1 e.2 with
 | false=>exact ⟨⟨rfl,rfl,rfl,rfl,rfl⟩,hb.mono (by omega),by simp⟩
 | true =>
  simp only [cond_true];cases (s.1.par e.2).isSome with
  | true=>exact ⟨⟨rfl,rfl,rfl,rfl,rfl⟩,hl,by simp [B1N]⟩
  | false=>exact ⟨⟨rfl,rfl,rfl,rfl,rfl⟩,λi=>hl i,by simp [D6M,B1N]⟩
section
variable {D:Dev} {n m:Int} {f:Cell} {g:B5} {r:Nat} {h:B5}
theorem LocM.self {id:Nat} {es es':W9} (a:LocM h r id es):LocM (h.set id (A4 (T1 es'))) r id es' :=
 ⟨⟨by simpa using a.1.1,a.1.2.1,λhn=>a.1.2.2 ((Nam.same (B6 a.1.2.1)).1 hn)⟩,C6 a.1.1⟩
theorem D7a {ino:Int} {L:List Ent} {pi px mk lst q:Nat} {ci cx:List Cell} {h0:B5} (hD:okD D) (hv:IsView g f D) (h0g:g.length<=h0.length) (am:h0.length<=mk) (n1:mk≠pi) (n2:mk≠px) (n3:mk≠lst) (hL:L.length<=10000) :
  ∀ (e j M:Nat) (B:Int) (s:Cl × (List UInt8->Option Int)) (es:W9) (h:B5),j+e=L.length->e<M->s.1.row.length+e<=100000->B+e<900000->BndL s.1 B->WP D n m f g r s.1 h->Fr r h0 h->LocM h r mk es->MapK es s.2->LocV h r pi ci->LocV h r px cx->LocV h r lst (V3 L) ->
  ∃ M' es' h',jW q M (.c (.p r 0)) (.c (.i .i64 ino)) (.c (.p pi 0)) (.c (.p px 0)) (.c (.m mk)) (.c (.sl lst 0 L.length 2)) (.c (.i .i64 (L.length:Nat))) (.c (.i .i64 (j:Int))) h =
   jW q (M'+1) (.c (.p r 0)) (.c (.i .i64 ino)) (.c (.p pi 0)) (.c (.p px 0)) (.c (.m mk)) (.c (.sl lst 0 L.length 2)) (.c (.i .i64 (L.length:Nat))) (.c (.i .i64 (L.length:Nat))) h' /\
   WP D n m f g r (aT D n ino s (L.drop j)).1 h'/\Fr r h0 h'/\LocM h' r mk es'/\MapK es' (aT D n ino s (L.drop j)).2/\LocV h' r pi ci/\LocV h' r px cx/\BndL (aT D n ino s (L.drop j)).1 (B+e)/\(aT D n ino s (L.drop j)).1.row.length<=s.1.row.length+e/\SameT s.1 (aT D n ino s (L.drop j)).1:=by
 intro e
 induction e with
 | zero =>
  intro j M B s es h hj hM hr hB hb P F hm hK hi hx hl;obtain ⟨M,rfl⟩:∃ M',M=M'+1:=⟨M-1,by omega⟩;have ej:j=L.length:=by omega
  subst ej;rw [List.drop_length];exact ⟨M,es,h,rfl,P,F,hm,hK,hi,hx,hb.mono (by omega),by show s.1.row.length<=_;omega,⟨rfl,rfl,rfl,rfl,rfl⟩⟩
 | succ e ih =>
  intro j M B s es h hj hM hr hB hb P F hm hK hi hx hl;obtain ⟨M,rfl⟩:∃ M',M=M'+1:=⟨M-1,by omega⟩;have hjl:j<L.length:=by omega
  have c0:((j:Int)<(L.length:Nat)):=by omega
  have hv2:=hv.get;have w1:=D3 (show j+1<9223372036854775808 by omega);have E3N:Has h (.c (.sl lst 0 L.length 2)) 2 L.length (V3 L):=Has.row hl.2 B2u D8q;obtain ⟨ad,a1,a2⟩:=D8r E3N hjl;rw [E7d hjl];obtain ⟨x,hxe⟩:∃ x,x=L[j]:=⟨_,rfl⟩;rw [<-hxe] at a2 ⊢;have er:∀ T,aT D n ino s (x::T)=aT D n ino (Z5 D n ino s x) T:=λT=>rfl
  rw [er];obtain ⟨tf1,tf2,tf3⟩:=A3i (D:=D) (n:=n) (ino:=ino) (s:=s) (e:=x) hb;obtain ⟨hh,hhe⟩:∃ hh,hh=h++[rT (W2 (A4 x))]:=⟨_,rfl⟩;have se:E6 (h++[rT [.s [],o0]]) 2 (.c (.p h.length 0)) (.a (W2 (A4 x)))=A4 hh:=by rw [hhe];exact E4L
  have F1:Fr r h hh:=by rw [hhe];exact Fr.low ((Low.refl (E7b _)).new _) P.rlt
  have P1:WP D n m f g r s.1 hh:=by rw [hhe];exact P.more hv2 _
  have L1:LocV hh r (h.length+0) (W2 (A4 x)):=by rw [hhe];exact LocV.new (k:=0) hv2 P rfl
  rw [Nat.add_zero] at L1;have e1:B8 hh (.c (.p h.length 1))=A4 (.c (.i .i64 x.2)):=C4 L1.2 rfl rfl;have hkl:=hb x.2;obtain ⟨h2,f1,f2,f3⟩:=E26 (dir:=ino) (ino:=x.2) hD hv P1 (by omega) (by omega);have Fa:=F1.trans f3;have m2:=hm.fr Fa;have i2:=hi.fr Fa;have x2:=hx.fr Fa;have l2:=hl.fr Fa;have L2:=L1.fr f3;have e2:B8 h2 (.c (.p h.length 0))=A4 (.c (.s x.1)):=C4 L2.2 rfl rfl;have e3:B8 h2 (.c (.p h.length 1))=A4 (.c (.i .i64 x.2)):=C4 L2.2 rfl rfl;cases hb2:iP D n s.1 x.2 with
  | true =>
   have et:Z5 D n ino s x=(dL D n s.1 ino x.2,D0G s.2 x.1 x.2):=by unfold Z5;rw [hb2];rfl
   have mp:=E6C (a:=x.1) (x:=x.2) m2.2 hK;have V5:=hm.1.1;rw [et] at tf1 tf2 tf3 ⊢;obtain ⟨M',es',h',g1,g2,g3,g4,g5,g6,g7,g8,g9,g10⟩:=ih (j+1) M (B+1) (dL D n s.1 ino x.2,D0G s.2 x.1 x.2) (A88 (.s x.1) (.c (.i .i64 x.2)) es) _ (by omega) (by omega) (by dsimp only at tf3 ⊢;omega) (by omega) tf2 (f2.set m2.1 (by omega)) ((F.trans Fa).set m2.1 am) m2.self (hK.put x.1 x.2) (i2.set n1 m2.1.2.1) (x2.set n2 m2.1.2.1) (l2.set n3 m2.1.2.1);refine ⟨M',es',h',?_,g2,g3,g4,g5,g6,g7,g8.mono (by omega),by dsimp only at tf3 g9;omega,⟨g10.ino.trans tf1.ino,g10.blocks.trans tf1.blocks,g10.made.trans tf1.made,g10.taken.trans tf1.taken,g10.lost.trans tf1.lost⟩⟩;rw [kX];rw [hb2] at f1;simp only [esc,c0,a1,a2,se,e1,f1,e2,e3,mp,xQ,w1];exact g1
  | false =>
   have et:Z5 D n ino s x=s:=by unfold Z5;rw [hb2];rfl
   have ec:dL D n s.1 ino x.2=s.1:=by unfold dL;rw [hb2];rfl
   rw [ec] at f2;rw [et];obtain ⟨M',es',h',g1,g2,g3,g4,g5,g6,g7,g8,g9,g10⟩:=ih (j+1) M B s es h2 (by omega) (by omega) (by omega) (by omega) hb f2 (F.trans Fa) m2 hK i2 x2 l2;refine ⟨M',es',h',?_,g2,g3,g4,g5,g6,g7,g8.mono (by omega),by omega,g10⟩;rw [kX];rw [hb2] at f1;simp only [esc,c0,a1,a2,se,e1,f1,xQ,w1];exact g1
theorem D4I {d:Int} {t L:List Int} {K:List UInt8->Option Int} {es:W9} {mk px sid q:Nat} {h0:B5} (hD:okD D) (hv:IsView g f D) (ht:t.length=32) (hK:MapK es K) (hL:L.length<=100) :
  ∀ (e j M:Nat) (c:Cl) (h:B5),j+e=L.length->e<M->0<=c.lost->c.lost+7*e<=900000->c.blocks.length+e<=100000->c.made.length+e<=100000->WP D n m f g r c h->Fr r h0 h->LocM h r mk es->LocV h r px (encI (d::t))->LocV h r sid (encI L) ->
  ∃ h',A2U q M (.c (.p r 0)) (.c (.p px 0)) (.c (.m mk)) (.c (.sl sid 0 L.length 1)) (.c (.i .i64 (L.length:Nat))) (.c (.i .i64 (j:Int))) h=A4 (.t [],h')/\WP D n m f g r (N6 D (d::t) K c (L.drop j)) h'/\Fr r h0 h' /\
   0<=(N6 D (d::t) K c (L.drop j)).lost/\(N6 D (d::t) K c (L.drop j)).lost<=c.lost+7*e/\(N6 D (d::t) K c (L.drop j)).blocks.length=c.blocks.length+e/\(N6 D (d::t) K c (L.drop j)).made.length=c.made.length+e/\(N6 D (d::t) K c (L.drop j)).row=c.row/\(N6 D (d::t) K c (L.drop j)).lnk=c.lnk/\(N6 D (d::t) K c (L.drop j)).ino=c.ino:=by
 intro e
 induction e with
 | zero =>
  intro j M c h hj hM l0 l1 b0 b1 P F hm hx hl;obtain ⟨M,rfl⟩:∃ M',M=M'+1:=⟨M-1,by omega⟩;have c0:¬ ((j:Int)<(L.length:Nat)):=by omega
  rw [E7k (by omega)];refine ⟨h,?_,P,F,l0,by show c.lost<=_;omega,rfl,rfl,rfl,rfl,rfl⟩;rw [xR];simp only [esc,c0];rfl
 | succ e ih =>
  intro j M c h hj hM l0 l1 b0 b1 P F hm hx hl;obtain ⟨M,rfl⟩:∃ M',M=M'+1:=⟨M-1,by omega⟩;have hjl:j<L.length:=by omega
  have c0:((j:Int)<(L.length:Nat)):=by omega
  have hv2:=hv.get;have w1:=D3 (show j+1<9223372036854775808 by omega);have ad:E1 1 (.c (.sl sid 0 L.length 1)) (.c (.i .i64 (j:Int)))=A4 (.c (.p sid j)):=by rw [C9 hjl];simp
  have a1:B8 h (.c (.p sid j))=A4 (.c (.i .i64 L[j])):=C4 hl.2 (by rw [G8,E66 hjl];rfl) rfl;have lX:D4 h 33 (.c (.p px 0))=A4 (.a (encI (d::t))):=C7 hx.2 (by simp [B7,ht]);obtain ⟨h1,f1,f2,f3⟩:=D6i (no:=L[j]) hD hv P ht hK hm l0 (by omega);have hlen:=B5Q (D:=D) (X:=d::t) (no:=L[j]) (K:=K) (l:=N9 (blk D L[j])) (s:=(c,bN [])) (pY (l:=[])) λx hx=>(C8Y x hx).1
  have hlo:=A2W (D:=D) (X:=d::t) (no:=L[j]) (K:=K) (l:=N9 (blk D L[j])) (s:=(c,bN []));have hsa:=pS (D:=D) (X:=d::t) (no:=L[j]) (K:=K) (l:=N9 (blk D L[j])) (s:=(c,bN []));have h7:=dW (blk D L[j]);have em:vM D (d::t) K c L[j]=S5 (U5 D (d::t) L[j] K (c,bN []) (N9 (blk D L[j]))).1 L[j] (U5 D (d::t) L[j] K (c,bN []) (N9 (blk D L[j]))).2:=rfl;obtain ⟨s,hs⟩:∃ s,s=U5 D (d::t) L[j] K (c,bN []) (N9 (blk D L[j])):=⟨_,rfl⟩;rw [<-hs] at f1 f2 hlen hlo hsa em;dsimp only at hlo hsa;have eb:=hsa.blocks;have emd:=hsa.made;obtain ⟨h2,g1,g2,g3⟩:=D3i (no:=L[j]) hv2 f2 hlen (by rw [eb];omega) (by rw [emd];omega);have Fa:=f3.trans g3;rw [E7d hjl];have er:∀ T,N6 D (d::t) K c (L[j]::T)=N6 D (d::t) K (vM D (d::t) K c L[j]) T:=λT=>rfl
  rw [er,em];have k1:(S5 s.1 L[j] s.2).blocks.length=c.blocks.length+1:=by show (s.1.blocks++[L[j]]).length=_;rw [eb];simp
  have k2:(S5 s.1 L[j] s.2).made.length=c.made.length+1:=by show (s.1.made++[s.2]).length=_;rw [emd];simp
  have k3:(S5 s.1 L[j] s.2).lost=s.1.lost:=rfl;obtain ⟨h',p1,p2,p3,p4,p5,p6,p7,p8,p9,p10⟩:=ih (j+1) M (S5 s.1 L[j] s.2) h2 (by omega) (by omega) (by rw [k3];omega) (by rw [k3];omega) (by omega) (by omega) g2 (F.trans Fa) (hm.fr Fa) (hx.fr Fa) (hl.fr Fa);refine ⟨h',?_,p2,p3,p4,by rw [k3] at p5;omega,by omega,by omega,p8.trans hsa.row,p9.trans hsa.lnk,p10.trans hsa.ino⟩;rw [xR];generalize B4 s.2=B2 at *;generalize encI (d::t)=X at *;simp only [esc,c0,ad,a1,lX,f1,g1,w1];exact p1
end
def gX (D:Dev) (n:Int) (c:Cl) (ino:Int):Cl × Int :=
 bif decide (kdV D n ino=2)&&U8 (blk D ((drV D n ino).getD 0 0)) then (dU D n c ((drV D n ino).getD 0 0),U1 D n c ((drV D n ino).getD 0 0)) else (c,0)
def Y1 (D:Dev) (n:Int) (c:Cl) (ino:Int):Cl:={ (gX D n c ino).1 with ino:=(gX D n c ino).1.ino.set ino.toNat (2::1::0::(c.par ino).getD 0::(gX D n c ino).2::zI 6) }
def U7 (D:Dev) (n:Int) (c:Cl) (d:Int) (t:List Int):Cl × List Int:=nM D n (c,fT d t) (L8 (fT d t) (D1 (W6 d t)))
def bodyT (D:Dev) (n:Int) (c:Cl) (ino d:Int) (t:List Int):Cl × (List UInt8->Option Int) :=
 aT D n ino ((U7 D n c d t).1,λ_=>A7) (nP D (W6 d t::(U7 D n c d t).2) (L8 (U7 D n c d t).2 (D1 (W6 d t))))
def xN (D:Dev) (n:Int) (c:Cl) (ino no d:Int) (t:List Int):Cl :=
 N6 D (W6 d t::(U7 D n c d t).2) (bodyT D n c ino d t).2 (S5 (bodyT D n c ino d t).1 no (bif okX (W6 d t) (U7 D n c d t).2 then fU (W6 d t) (U7 D n c d t).2 else zeros 256)) (L8 (U7 D n c d t).2 (D1 (W6 d t)))
def qF (D:Dev) (n:Int) (c:Cl) (ino:Int):Cl :=
 if (gX D n c ino).2=0 then Y1 D n c ino else
  xN D n (Y1 D n c ino) ino (gX D n c ino).2 (getD (blk D ((drV D n ino).getD 0 0))) (N7 (blk D ((drV D n ino).getD 0 0)) 32)
theorem B0R {D:Dev}:∀ {L:List Int},(uU D L).length<=7*L.length
 | []=>by simp [uU]
 | no::L=>by
  have h1:=B0R (D:=D) (L:=L);have h2:=dW (blk D no);rw [C0N,E7a,List.length_map,E7g];omega
theorem B8C {D:Dev} {X L:List Int}:(nP D X L).length<=7*L.length:=by
 have h1:=B0R (D:=D) (L:=L);have h2:=A5O (D:=D) (X:=X) (s:=uU D L);unfold nP;rw [List.length_map];have h3:=A7S (I5 D X (uU D L));omega
structure Small (c:Cl) (R B S L:Nat):Prop where
 row:c.row.length<=R
 lnk:BndL c B
 blocks:c.blocks.length<=S
 made:c.made.length<=S
 lost0:0<=c.lost
 lost:c.lost<=(L:Int)
section
variable {D:Dev} {n m:Int} {f:Cell} {g:B5} {r:Nat} {c:Cl} {h:B5}
theorem E0d {ino no d:Int} {t:List Int} {pi px q R B S Lo:Nat} {k l s p:Int} {tl:List Int} {h0:B5} (hD:okD D) (hv:IsView g f D) (ht:t.length=32) (hq:300<=q) (h0g:g.length<=h0.length) (ax:h0.length<=px) (npx:px≠pi)
  (hR:R<=50000) (hB:B<=500000) (hS:S<=50000) (hLo:Lo<=500000) (sm:Small c R B S Lo) (P:WP D n m f g r c h) (F:Fr r h0 h) (hi:LocV h r pi (F8 k l s p (no::tl))) (htl:tl.length=6) (hx:LocV h r px (encI (d::t))) :
  ∃ h',(bnd (D4 h 33 (.c (.p px 0))) λv48=>bnd (dB [.c (.p r 0),v48] h) λp49=>bnd (E6 p49.2 33 (.c (.p px 0)) p49.1) λh50=>bnd (D4 (h50++[A4 (T1 [])]) 33 (.c (.p px 0))) λv51=>bnd (gL [.c (.p r 0),v51] (h50++[A4 (T1 [])])) λp52=>bnd (D2R p52.1) λv53=>jW q q (.c (.p r 0)) (.c (.i .i64 ino)) (.c (.p pi 0)) (.c (.p px 0)) (.c (.m h50.length)) p52.1 v53 (.c o0) p52.2)=A4 (.t [],h') /\
   WP D n m f g r (xN D n c ino no d t) h'/\Fr r h0 h'/\Small (xN D n c ino no d t) (R+224) (B+224) (S+33) (Lo+224)/\(xN D n c ino no d t).ino=c.ino:=by
 have hv2:=hv.get;have h33:(encI (d::t)).length=33:=by simp [B7,ht]
 have l33:=C7 (n:=33) hx.2 h33;obtain ⟨hA,a1,a2,a3⟩:=D6c (d:=d) (t:=t) hv2 P ht;have hbs:=gO (D:=D) (n:=n) (L:=L8 (fT d t) (D1 (W6 d t))) (s:=(c,fT d t));have hbl:=B2r (D:=D) (n:=n) (L:=L8 (fT d t) (D1 (W6 d t))) (s:=(c,fT d t));have eb:nM D n (c,fT d t) (L8 (fT d t) (D1 (W6 d t)))=U7 D n c d t:=rfl;rw [eb] at a1 a2 hbs hbl;have hbT:(U7 D n c d t).2.length=32:=hbl.trans xX;obtain ⟨d',hd'⟩:∃ d',d'=W6 d t:=⟨_,rfl⟩;unfold xN bodyT;rw [<-hd'] at a1 ⊢;obtain ⟨s1,hs1⟩:∃ s1,s1=U7 D n c d t:=⟨_,rfl⟩;rw [<-hs1] at a1 a2 hbs hbT ⊢;dsimp only at hbs;have xA:=hx.fr a3;have iA:=hi.fr a3;have C7U:(encI (d'::s1.2)).length=33:=by simp [B7,hbT]
 have st:=storeAll (n:=33) (xs:=encI (d'::s1.2)) xA.2 h33 C7U;obtain ⟨hB',hBe⟩:∃ hB',hB'=hA.set px (rT (encI (d'::s1.2))):=⟨_,rfl⟩;rw [<-hBe] at st;have PB:WP D n m f g r s1.1 hB':=by rw [hBe];exact a2.set xA.1 (by omega)
 have FB:Fr r h0 hB':=by rw [hBe];exact (F.trans a3).set xA.1 ax
 have xB:LocV hB' r px (encI (d'::s1.2)):=by rw [hBe];exact xA.self
 have iB:LocV hB' r pi (F8 k l s p (no::tl)):=by rw [hBe];exact iA.set npx xA.1.2.1
 obtain ⟨L,hL⟩:∃ L,L=L8 s1.2 (D1 d'):=⟨_,rfl⟩;have hLl:L.length<=32:=by rw [hL];exact E7K (gE _ _) (O6 _)
 obtain ⟨N,hN⟩:∃ N,N=nP D (d'::s1.2) L:=⟨_,rfl⟩;have hNl:N.length<=224:=by
  have:=B8C (D:=D) (X:=d'::s1.2) (L:=L);rw [hN];omega
 have PC:=PB.more hv2 [A4 (T1 [])];have FC:Fr r hB' (hB'++[A4 (T1 [])]):=Fr.low ((Low.refl (E7b _)).new _) PB.rlt;have nmE:=E0Q (n:=n) (m:=m) (f:=f) (r:=r) (d:=d') (t:=s1.2) (h:=hB'++[A4 (T1 [])]) hD (hv.since PC.lo) (PC.vw hv2) hbT;rw [<-hL,<-hN] at nmE;have PD:=PC.more hv2 [rT (V3 N)];have FD:Fr r (hB'++[A4 (T1 [])]) (hB'++[A4 (T1 [])]++[rT (V3 N)]):=Fr.low ((Low.refl (E7b _)).new _) PC.rlt;have hCl:(hB'++[A4 (T1 [])]).length=hB'.length+1:=by simp
 have LD:LocV (hB'++[A4 (T1 [])]++[rT (V3 N)]) r (hB'.length+1) (V3 N):=by
  have:=LocV.new (h:=hB'++[A4 (T1 [])]) (t:=[rT (V3 N)]) (k:=0) (cs:=V3 N) hv2 PC rfl;rw [hCl] at this;exact this
 have mkD:LocM (hB'++[A4 (T1 [])]++[rT (V3 N)]) r hB'.length []:=by
  refine LocM.fr (h:=hB'++[A4 (T1 [])]) ⟨⟨by simp,by have:=PB.rlt;omega,λhn=>?_⟩,by simp⟩ FD;have:=C1d hv2 PB ((Nam.same (D9 PB.rlt)).1 hn);omega
 have hpx:=xB.1.1;have hpi:=iB.1.1;have bl0:BndL s1.1 B:=λi=>by rw [hbs.lnk];exact sm.lnk i
 have r0:s1.1.row.length<=R:=by rw [hbs.row];exact sm.row
 have hh0:=FB.size;obtain ⟨M',es',hE,e1,e2,e3,e4,e5,e6,e7,e8,e9,e10⟩:=D7a (q:=q) (ino:=ino) (L:=N) (pi:=pi) (px:=px) (mk:=hB'.length) (lst:=hB'.length+1) (h0:=h0) hD hv h0g hh0 (by omega) (by omega) (by omega) (by omega) N.length 0 q B (s1.1,λ_=>A7) [] _ (by omega) (by omega) (by dsimp only;omega) (by omega) bl0 PD (FB.trans (FC.trans FD)) mkD MapK.nil (iB.fr (FC.trans FD)) (xB.fr (FC.trans FD)) LD;rw [E7p] at e2 e5 e8 e9 e10;rw [<-hL,<-hN];obtain ⟨s2,hs2⟩:∃ s2,s2=aT D n ino (s1.1,λ_=>A7) N:=⟨_,rfl⟩;rw [<-hs2] at e2 e5 e8 e9 e10 ⊢;dsimp only at e9 e10;have E2h:=B8p (d:=d') (t:=s1.2) (h:=hE) hbT;obtain ⟨ib,hib⟩:∃ ib,ib=(bif okX d' s1.2 then fU d' s1.2 else zeros 256):=⟨_,rfl⟩;have E5b:ib.length=256:=by
  rw [hib];cases okX d' s1.2 with
  | true=>exact lJ hbT
  | false=>exact zeros_length
 rw [<-hib] at E2h ⊢;have hIl:(B4 ib).length=256:=by rw [A9,E5b]
 have PF:=e2.more hv2 [rT (B4 ib)];have FF:Fr r hE (hE++[rT (B4 ib)]):=Fr.low ((Low.refl (E7b _)).new _) e2.rlt;have iF:=e6.fr FF;have xF:=e7.fr FF;have mF:=e4.fr FF;have lXE:D4 hE 33 (.c (.p px 0))=A4 (.a (encI (d'::s1.2))):=C7 e7.2 C7U;have li:B8 (hE++[rT (B4 ib)]) (.c (.p pi 4))=A4 (.c (.i .i64 no)):=C4 iF.2 rfl rfl;have lib:D4 (hE++[rT (B4 ib)]) 256 (.c (.p hE.length 0))=A4 (.a (B4 ib)):=by rw [Q9];exact jY hIl
 have sib:E6 (hE++[rT (E68 256 (Cell.i .u8 0))]) 256 (.c (.p hE.length 0)) (.a (B4 ib))=A4 (hE++[rT (B4 ib)]):=by
  rw [L7];show mp (stN (rT (E68 256 (Cell.i .u8 0))) 0 256 (B4 ib)) _=_;rw [nL E7B hIl];rfl
 obtain ⟨hG,g1,g2,g3⟩:=D3i (no:=no) hv2 PF E5b (by rw [e10.blocks,hbs.blocks];have:=sm.blocks;omega) (by rw [e10.made,hbs.made];have:=sm.made;omega);have xG:=xF.fr g3;have mG:=mF.fr g3;have lXG:D4 hG 33 (.c (.p px 0))=A4 (.a (encI (d'::s1.2))):=C7 xG.2 C7U;have hBu:=vJ (d:=d') (t:=s1.2) (h:=hG) hbT;rw [<-hL] at hBu;have PH:=g2.more hv2 [rT (encI L)];have FH:Fr r hG (hG++[rT (encI L)]):=Fr.low ((Low.refl (E7b _)).new _) g2.rlt;have lH:LocV (hG++[rT (encI L)]) r (hG.length+0) (encI L):=LocV.new (k:=0) hv2 g2 rfl;rw [Nat.add_zero] at lH;have cb:(S5 s2.1 no ib).blocks.length=c.blocks.length+1:=by show (s2.1.blocks++[no]).length=_;rw [e10.blocks,hbs.blocks];simp
 have cm:(S5 s2.1 no ib).made.length=c.made.length+1:=by show (s2.1.made++[ib]).length=_;rw [e10.made,hbs.made];simp
 have cl:(S5 s2.1 no ib).lost=c.lost:=by show s2.1.lost=_;rw [e10.lost,hbs.lost]
 have sb:=sm.blocks;have smd:=sm.made;have sl0:=sm.lost0;have sl1:=sm.lost;obtain ⟨hZ,z1,z2,z3,z4,z5,z6,z7,z8,z9,z10⟩:=D4I (q:=q) (d:=d') (t:=s1.2) (L:=L) (K:=s2.2) (es:=es') (mk:=hB'.length) (px:=px) (sid:=hG.length) (h0:=h0) hD hv hbT e5 (by omega) L.length 0 q (S5 s2.1 no ib) _ (by omega) (by omega) (by rw [cl];omega) (by rw [cl];omega) (by omega) (by omega) PH (e3.trans (FF.trans (g3.trans FH))) (mG.fr FH) (xG.fr FH) lH;rw [E7p] at z2 z4 z5 z6 z7 z8 z9 z10;refine ⟨hZ,?_,z2,z3,⟨?_,?_,by omega,by omega,z4,by omega⟩,?_⟩
 ·have lXB:D4 (hB'++[A4 (T1 [])]) 33 (.c (.p px 0))=A4 (.a (encI (d'::s1.2))):=C7 (C5 xB.2) C7U;have e00:((0:Nat):Int)=0:=rfl;rw [e00] at e1 z1;have cN:¬ ((N.length:Nat):Int)<(N.length:Nat):=by omega
  rw [hCl] at nmE;rw [kX q M'] at e1;generalize encI (d::t)=X at *;generalize encI (d'::s1.2)=X' at *;generalize B4 ib=IB at *;generalize E68 256 (Cell.i .u8 0)=Z at *;simp only [P9,l33,a1,st,lXB,nmE,C4I];refine e1.trans ?_;simp only [esc,Nat.reduceAdd,cN,lXE,E2h,sib,li,lib,g1,lXG,hBu];have ad0:∀ j,J8 6 1 (.c (.p j 4)) (.c o0)=A4 (.c (.p j 4)):=λj=>J4 (j:=0) (by omega)
  simp only [esc,Nat.reduceAdd,ad0,li,lib,g1,lXG,hBu];exact z1
 ·rw [z8];show s2.1.row.length<=_;omega
 ·intro i;have:=e8 i;rw [z9];show 0<=(s2.1.lnk i).getD 0/\(s2.1.lnk i).getD 0<=_;omega
 ·rw [z10];show s2.1.ino=_;rw [e10.ino,hbs.ino]
end
end Go.Proofs.YtbnkgnfhgbhblaaGreat
