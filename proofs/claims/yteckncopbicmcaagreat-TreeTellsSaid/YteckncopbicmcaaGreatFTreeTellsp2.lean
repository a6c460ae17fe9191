/- What the proof of this claim leans on, part 2. -/
import Derived.Test.YteckncopbicmcaaGreatFTreeTellsp1
set_option linter.all false
section
namespace Go.Esc
open Go
theorem Env.get_keep_mem (e:Env) (l:List Nat) (t:Nat):(e.keep l).get t=if t ∈ l then e.get t else .un:=by
  induction l with
  | nil=>rfl
  | cons x r ih =>
    simp only [Env.keep,Env.get]
    by_cases h:x=t
    · subst h;simp
    · have:Nat.beq x t=false:=by cases hb:Nat.beq x t with
        | false=>rfl
        | true=>exact absurd (Nat.eq_of_beq_eq_true hb) h
      rw [this,cond_false,ih]
      have h':t ≠ x:=Ne.symm h
      simp [h']
section
variable {P:Program} {N m:Nat} {ops:Array Oper} {l r:List AOper} {E:B0} {hr:A0} {e:Env} {es:Nat → Env} {hs:Nat → A0} {vs:Nat → Val} {Γ:Ctx} {μ0:Mu}
theorem A1t (D:DrawOk P N ops m l r) (ht:Trace E hr hr.length l es hs vs) {j t:Nat} {aj:AOper} (haj:l[j]? = some aj) (hd:aj.dst=some t):∀ k,j < k → k ≤ l.length → (es k).get t=vs j:=by
  intro k
  induction k with
  | zero=>intro h;omega
  | succ k ih =>
    intro hjk hk
    rw [ht.env k l[k] (List.getElem?_eq_getElem (by omega))]
    by_cases e:j=k
    · subst e
      have:l[j]=aj:=by have h2:=List.getElem?_eq_getElem (l:=l) (i:=j) (by omega);rw [haj] at h2;cases h2;rfl
      rw [this,hd];exact Env.get_put_same _ _ _
    · have hne:=(D.apart j k aj l[k] haj (List.getElem?_eq_getElem (by omega)) e).1 t hd
      cases hdk:l[k].dst with
      | none=>exact ih (by omega) (by omega)
      | some d =>
        rw [hdk] at hne
        rw [Env.get_put_other _ _ _ _ (by intro h;subst h;exact hne rfl)]
        exact ih (by omega) (by omega)
theorem A1s (ht:Trace E hr hr.length l es hs vs) (he:es 0=e) {t:Nat}:∀ k,k ≤ l.length → (∀ (j:Nat) aj,j < k → l[j]? = some aj → aj.dst ≠ some t) → (es k).get t=e.get t:=by
  intro k
  induction k with
  | zero=>intro _ _;rw [he]
  | succ k ih =>
    intro hk hno
    rw [ht.env k l[k] (List.getElem?_eq_getElem (by omega))]
    have hne:=hno k l[k] (by omega) (List.getElem?_eq_getElem (by omega))
    cases hdk:l[k].dst with
    | none=>exact ih (by omega) fun j aj hj=>hno j aj (by omega)
    | some d =>
      rw [hdk] at hne
      rw [Env.get_put_other _ _ _ _ (by intro h;subst h;exact hne rfl)]
      exact ih (by omega) fun j aj hj=>hno j aj (by omega)
def I1 (done:Nat → Bool) (i:Nat):Nat → Bool:=fun k=>decide (k=i) || done k
theorem A2m (done:Nat → Bool) (i:Nat):I1 done i i=true:=by simp [I1]
theorem N2 (done:Nat → Bool) (i:Nat) {k:Nat} (h:k ≠ i):I1 done i k=done k:=by simp [I1,h]
theorem D2o (D:DrawOk P N ops m l r) (ht:Trace E hr hr.length l es hs vs) (he:es 0=e) {done:Nat → Bool} {q:Nat} {μ:Mu} {a:Act} {w:World}
    (S:Sim Γ l hr.length N e es hs vs μ0 done q μ a w) {i:Nat} {ao:AOper} (ha:l[i]? = some ao) (hnd:done i=false) (hah:∀ b,((K6 ops).getD i 0).testBit b=true → done b=true) (hcl:∀ j,done j=true → ∀ b,((K6 ops).getD j 0).testBit b=true → done b=true):SEnv μ ((es i).keep ao.reads) a:=by
  intro t
  rw [Env.get_keep_mem]
  split
  · rename_i hmem
    have hil:i < l.length:=(List.getElem?_eq_some_iff.1 ha).1
    by_cases hw:∃ (j:Nat) (aj:AOper),l[j]? = some aj ∧ aj.dst=some t
    · obtain ⟨j,aj,haj,hd⟩:=hw
      rcases D.reads i j ao aj t ha haj hd hmem with ⟨h1,h2⟩ | ⟨h1,h2⟩
      · rw [A1t D ht haj hd i h2 (by omega)]
        exact S.envD j aj t haj (hah j h1) hd
      · have hnj:done j=false:=by
          cases hdj:done j with
          | false=>rfl
          | true=>rw [hcl j hdj i h1] at hnd;cases hnd
        have huniq:∀ (k:Nat) (ak:AOper),l[k]? = some ak → ak.dst=some t → k=j:=fun k ak hak hk=>by
          by_cases e:k=j
          · exact e
          · exact absurd hd ((D.apart k j ak aj hak haj e).1 t hk)
        rw [A1s ht he i (by omega) fun k ak hk hak hkd=>by have:=huniq k ak hak hkd;omega]
        exact S.envO t fun k ak hak hk hkd=>by rw [huniq k ak hak hkd,hnj] at hk;cases hk
    · have hno:∀ (j:Nat) (aj:AOper),l[j]? = some aj → aj.dst ≠ some t:=fun j aj haj hd=>hw ⟨j,aj,haj,hd⟩
      rw [A1s ht he i (by omega) fun j aj _ haj=>hno j aj haj]
      exact S.envO t fun j aj haj _=>hno j aj haj
  · trivial
theorem B84 {n0 i id:Nat} (h:id < n0):¬ L5 l n0 i id:=by
  rintro ⟨ao,j,_,_,rfl⟩;omega
theorem Z4 (D:DrawOk P N ops m l r) (ht:Trace E hr hr.length l es hs vs) (h0:hs 0=hr ++ List.replicate m none) {k:Nat} (hk:k ≤ l.length):hr.length + m ≤ (hs k).length:=by
  have:=A5R D.quiet ht k 0 (by omega)
  rw [h0] at this
  simp at this
  omega
theorem A9c (D:DrawOk P N ops m l r) {n0 i id:Nat} (h:L5 l n0 i id):id < n0 + m:=by
  obtain ⟨ao,j,ha,hj,rfl⟩:=h
  have:=(D.quiet i ao ha).2.2 j hj
  omega
theorem A5Z (D:DrawOk P N ops m l r) {n0 i k id:Nat} (h:L5 l n0 i id) (h2:L5 l n0 k id):i=k:=by
  obtain ⟨ao,j,ha,hj,rfl⟩:=h
  obtain ⟨ao',j',ha',hj',he⟩:=h2
  by_cases e:i=k
  · exact e
  · have:j=j':=by omega
    subst this
    exact absurd hj' ((D.apart i k ao ao' ha ha' e).2 j hj)
theorem C0s (D:DrawOk P N ops m l r) (ht:Trace E hr hr.length l es hs vs) (h0:hs 0=hr ++ List.replicate m none) {done:Nat → Bool} {q:Nat} {μ:Mu} {a:Act} {w:World}
    (S:Sim Γ l hr.length N e es hs vs μ0 done q μ a w) {i:Nat} {ao:AOper} (ha:l[i]? = some ao) (hnd:done i=false) {V:Value} {w':World} {μ':Mu} {q':Nat} {dst:Option Nat} (hdst:dst=ao.dst) (hdlt:A0p N dst=true)
    (hle:μ.le μ') (hv:RV μ' (vs i) V) (hinv:Inv Γ μ' (HD (hs l.length) (und l hr.length (I1 done i)) (hs q').length) w') (hkeep:Keeps μ μ' (HD (hs l.length) (und l hr.length done) (hs q).length) hr.length ao.slot)
    (hq':q' ≤ l.length) (hcalls:∀ (k:Nat) ak,l[k]? = some ak → J6 ak.op=true → (I1 done i k=true ↔ k < q')):Sim Γ l hr.length N e es hs vs μ0 (I1 done i) q' μ' (a.put dst V) w':=by
  have hget:∀ t,dst ≠ some t → (a.put dst V).tmps.getD t undef=a.tmps.getD t undef:=by
    intro t h
    cases hd:dst with
    | none=>rfl
    | some d =>
      rw [hd] at h
      simp [Act.put,Array.getElem?_setIfInBounds_ne (show d ≠ t from fun e=>h (by rw [e]))]
  refine ⟨hq',hcalls,?_,?_,hinv,?_,Mu.le_trans S.le hle,?_,by rw [Act.size_put];exact S.size,?_⟩
  · intro k ak d hak hdk hd
    by_cases e:k=i
    · subst e
      rw [ha] at hak;cases hak
      rw [hdst,hd]
      have hlt:d < a.tmps.size:=by
        rw [hdst,hd] at hdlt
        simp [A0p] at hdlt
        exact Nat.lt_of_lt_of_le hdlt S.size
      have:(a.put (some d) V).tmps.getD d undef=V:=by simp [Act.put,Array.getD,hlt]
      rw [this];exact hv
    · rw [N2 _ _ e] at hdk
      rw [hget d (by rw [hdst];exact fun h=>(D.apart i k ao ak ha hak (Ne.symm e)).1 d h hd)]
      exact (S.envD k ak d hak hdk hd).mono hle
  · intro t hno
    have h1:=hno i ao ha (A2m _ _)
    rw [hget t (by rw [hdst];exact h1)]
    refine (S.envO t fun k ak hak hdk=>?_).mono hle
    by_cases e:k=i
    · subst e;rw [hnd] at hdk;cases hdk
    · exact hno k ak hak (by rw [N2 _ _ e];exact hdk)
  · intro id hid
    obtain ⟨k,hk,ho⟩:=N6.1 hid
    have e:k ≠ i:=by intro e;subst e;rw [A2m] at hk;cases hk
    rw [N2 _ _ e] at hk
    have h1:=S.free id (N6.2 ⟨k,hk,ho⟩)
    rw [← h1]
    refine hkeep id (by rw [I7];have:=Z4 D ht h0 S.qle;have:=A9c D ho;omega) fun j hj he=>e ?_
    exact A5Z D ho ⟨ao,j,ha,hj,he⟩
  · intro id hid
    rw [← S.keep id hid]
    exact hkeep id (by rw [I7];have:=Z4 D ht h0 S.qle;omega) fun j hj he=>by omega
  · have:∀ d:Option Nat,(a.put d V).defers=a.defers:=fun d=>by cases d <;> rfl
    rw [this];exact S.defers
theorem A9K (D:DrawOk P N ops m l r) {n0 i id:Nat} {done:Nat → Bool} (h:¬ L5 l n0 i id):und l n0 (I1 done i) id=und l n0 done id:=by
  rw [Bool.eq_iff_iff,N6,N6]
  constructor
  · rintro ⟨k,hk,ho⟩
    have e:k ≠ i:=by intro e;subst e;exact h ho
    exact ⟨k,by rw [N2 _ _ e] at hk;exact hk,ho⟩
  · rintro ⟨k,hk,ho⟩
    have e:k ≠ i:=by intro e;subst e;exact h ho
    exact ⟨k,by rw [N2 _ _ e];exact hk,ho⟩
theorem C1Q (D:DrawOk P N ops m l r) {n0 i id:Nat} {done:Nat → Bool} (h:L5 l n0 i id):und l n0 (I1 done i) id=false:=by
  cases hu:und l n0 (I1 done i) id with
  | false=>rfl
  | true =>
    obtain ⟨k,hk,ho⟩:=N6.1 hu
    have e:=A5Z D ho h
    subst e;rw [A2m] at hk;cases hk
theorem D2q (D:DrawOk P N ops m l r) (ht:Trace E hr hr.length l es hs vs) (h0:hs 0=hr ++ List.replicate m none) {done:Nat → Bool} {q:Nat} (hq:q ≤ l.length) (id:Nat) (x:Row) (hx:rd hr id=some x) :
    rd (HD (hs l.length) (und l hr.length done) (hs q).length) id=some x:=by
  have hlt:=B8 hx
  have hu:und l hr.length done id=false:=by
    cases hu:und l hr.length done id with
    | false=>rfl
    | true=>obtain ⟨k,_,ho⟩:=N6.1 hu;exact absurd ho (B84 hlt)
  rw [Q5,if_pos ⟨by have:=Z4 D ht h0 hq;omega,hu⟩]
  have:=A0B D ht (k:=0) (id:=id) (by rw [h0];simp;omega) (fun i _=>B84 hlt) l.length (by omega)
  rw [Nat.zero_add] at this
  rw [this,h0,G5 hlt]
  exact hx
theorem D2r (D:DrawOk P N ops m l r) (ht:Trace E hr hr.length l es hs vs) (h0:hs 0=hr ++ List.replicate m none) {done:Nat → Bool} {q:Nat} {μ:Mu} {a:Act} {w:World}
    (S:Sim Γ l hr.length N e es hs vs μ0 done q μ a w) {i:Nat} {ao:AOper} (ha:l[i]? = some ao) (hnd:done i=false):W0 μ (HD (hs l.length) (und l hr.length done) (hs q).length) hr.length ao.slot:=by
  cases hsl:ao.slot with
  | none=>trivial
  | some j =>
    refine ⟨S.free _ (N6.2 ⟨i,hnd,ao,j,ha,hsl,rfl⟩),?_⟩
    rw [I7]
    have:=Z4 D ht h0 S.qle
    have:=(D.quiet i ao ha).2.2 j hsl
    omega
theorem A5Q (D:DrawOk P N ops m l r) (ht:Trace E hr hr.length l es hs vs) {q:Nat}:∀ t,q + t ≤ l.length → (∀ (k:Nat) ak,q ≤ k → k < q + t → l[k]? = some ak → J6 ak.op=false) → (hs (q + t)).length=(hs q).length
  | 0,_,_=>rfl
  | t + 1,hl,hno=>by
    have ih:=A5Q D ht (q:=q) t (by omega) fun k ak h1 h2=>hno k ak h1 (by omega)
    rw [← ih]
    have hk:q + t < l.length:=by omega
    rcases A6b D.quiet ht (List.getElem?_eq_getElem hk) with ⟨h,_,_⟩ | ⟨_,h | ⟨j,row,_,h⟩⟩
    · have:=hno (q + t) l[q + t] (by omega) (by omega) (List.getElem?_eq_getElem hk)
      rw [h] at this;cases this
    · show (hs (q + t + 1)).length=_;rw [h]
    · show (hs (q + t + 1)).length=_;rw [h];simp
theorem D2s (D:DrawOk P N ops m l r) (ht:Trace E hr hr.length l es hs vs) (h0:hs 0=hr ++ List.replicate m none) {done:Nat → Bool} {q:Nat} {μ:Mu} {a:Act} {w:World}
    (S:Sim Γ l hr.length N e es hs vs μ0 done q μ a w) {i:Nat} {ao:AOper} (ha:l[i]? = some ao) (hah:∀ b,((K6 ops).getD i 0).testBit b=true → done b=true) (hl:J6 ao.op=true ∨ Z8 ao.op=true) :
    ∀ id x,rd (hs i) id=some x → rd (HD (hs l.length) (und l hr.length done) (hs q).length) id=some x:=by
  have hil:i < l.length:=(List.getElem?_eq_some_iff.1 ha).1
  have hql:=S.qle
  have hlen:(hs i).length ≤ (hs q).length:=by
    by_cases hiq:i ≤ q
    · have:=A5R D.quiet ht (q - i) i (by omega)
      rwa [show i + (q - i)=q by omega] at this
    · have:=A5Q D ht (q:=q) (i - q) (by omega) fun k ak h1 h2 hak=>by
        cases hck:J6 ak.op with
        | false=>rfl
        | true =>
          have h3:=hah k (D.calls i k ao ak ha hak hl (by omega) (.inl hck))
          have:=(S.calls k ak hak hck).1 h3
          omega
      rw [show q + (i - q)=i by omega] at this
      omega
  intro id x hx
  have hnolater:∀ k,i ≤ k → ¬ L5 l hr.length k id:=fun k hk ho'=>by
    have:=A3K D ht h0 ho' i hk
    rw [this] at hx;cases hx
  have hu:und l hr.length done id=false:=by
    cases hu:und l hr.length done id with
    | false=>rfl
    | true =>
      obtain ⟨k,hk,ho'⟩:=N6.1 hu
      by_cases e1:i ≤ k
      · exact absurd ho' (hnolater k e1)
      · obtain ⟨ak,j,hak,hj,_⟩:=ho'
        have hsk:N0 ak.op=true:=by have:=(D.quiet k ak hak).2.1;rw [hj] at this;exact this
        have:=hah k (D.calls i k ao ak ha hak hl (by omega) (.inr hsk))
        rw [hk] at this;cases this
  rw [Q5,if_pos ⟨by have:=B8 hx;omega,hu⟩]
  have:=A0B D ht (B8 hx) hnolater (l.length - i) (by omega)
  rw [show i + (l.length - i)=l.length by omega] at this
  rw [this];exact hx
theorem D2p (D:DrawOk P N ops m l r) (ht:Trace E hr hr.length l es hs vs) (h0:hs 0=hr ++ List.replicate m none) {done:Nat → Bool} {q:Nat} {μ:Mu} {a:Act} {w:World}
    (S:Sim Γ l hr.length N e es hs vs μ0 done q μ a w) {i j:Nat} {ao:AOper} (ha:l[i]? = some ao) (hah:∀ b,((K6 ops).getD i 0).testBit b=true → done b=true) (hown:A08 ao.op=some j) :
    ∀ x,rd (hs i) (hr.length + j)=some x → rd (HD (hs l.length) (und l hr.length done) (hs q).length) (hr.length + j)=some x:=by
  have hil:i < l.length:=(List.getElem?_eq_some_iff.1 ha).1
  have hql:=S.qle
  intro x hx
  obtain ⟨k,ak,hak,hsk,hbit⟩:=D.own i ao j ha hown
  have hO:L5 l hr.length k (hr.length + j):=⟨ak,j,hak,hsk,rfl⟩
  have hdk:=hah k hbit
  have hnolater:∀ k',i ≤ k' → ¬ L5 l hr.length k' (hr.length + j):=fun k' hk' ho'=>by
    have:=A3K D ht h0 ho' i hk'
    rw [this] at hx;cases hx
  have hu:und l hr.length done (hr.length + j)=false:=by
    cases hu:und l hr.length done (hr.length + j) with
    | false=>rfl
    | true =>
      obtain ⟨k',hk',ho'⟩:=N6.1 hu
      have:=A5Z D ho' hO
      subst this
      rw [hk'] at hdk;cases hdk
  rw [Q5,if_pos ⟨by have:=Z4 D ht h0 S.qle;have:=A9c D hO;omega,hu⟩]
  have:=A0B D ht (B8 hx) hnolater (l.length - i) (by omega)
  rw [show i + (l.length - i)=l.length by omega] at this
  rw [this];exact hx
open Classical in
theorem C0t (D:DrawOk P N ops m l r) (hE:N7 P E) (ht:Trace E hr hr.length l es hs vs) (h0:hs 0=hr ++ List.replicate m none) (he:es 0=e) {done:Nat → Bool} {q:Nat} {μ:Mu} {a:Act} {w:World}
    (S:Sim Γ l hr.length N e es hs vs μ0 done q μ a w) {i:Nat} {ao:AOper} {o:Oper} (ha:l[i]? = some ao) (ho:ops[i]? = some o) (hnd:done i=false)
    (hah:∀ b,((K6 ops).getD i 0).testBit b=true → done b=true) (hcl:∀ j,done j=true → ∀ b,((K6 ops).getD j 0).testBit b=true → done b=true)
    {next:Act → World → Prop} {Q:Exit → Act → World → Prop} (hn:∀ V w' μ' q',Sim Γ l hr.length N e es hs vs μ0 (I1 done i) q' μ' (a.put o.dst V) w' → next (a.put o.dst V) w') :
    if Region.wanted o (yielded ops a.tmps) then o.wp P a w next Q ∨ (o.asks P a w ∧ LetsOut Q) else next (a.put o.dst undef) w:=by
  have hil:i < l.length:=(List.getElem?_eq_some_iff.1 ha).1
  have hco:R1 P N ops o ao=true:=D.oper i o ao ho (by rw [List.getElem?_append_left hil];exact ha)
  have hdst:o.dst=ao.dst ∧ A0p N o.dst=true:=by
    simp only [R1,Bool.and_eq_true,decide_eq_true_eq] at hco
    exact ⟨hco.1.1.1,hco.1.1.2⟩
  have henv:=D2o D ht he S ha hnd hah hcl
  have hrd:=D2q D ht h0 (done:=done) S.qle
  have hslot:=D2r D ht h0 S ha hnd
  have hstep:=ht.step i ao ha
  have hcong:∀ (E:B0) (h:A0),I2 E true hr hr.length ao (es i) h (fun v h=>some (v,h))=I2 E true hr hr.length ao ((es i).keep ao.reads) h fun v h=>some (v,h) :=
    fun E h=>B1s fun t ht'=>by rw [Env.get_keep_mem,if_pos ht']
  have hqi:=D.quiet i ao ha
  have hbase:=Z4 D ht h0 S.qle
  cases hc:J6 ao.op with
  | false =>
    have key:∃ h2,I2 E true hr hr.length ao (es i) (HD (hs l.length) (und l hr.length done) (hs q).length) (fun v h=>some (v,h))=some (vs i,h2) ∧ h2=HD (hs l.length) (und l hr.length (I1 done i)) (hs q).length:=by
      have hskip:hs (i + 1)=hs i → HD (hs l.length) (und l hr.length done) (hs q).length=HD (hs l.length) (und l hr.length (I1 done i)) (hs q).length:=by
        intro hsame
        refine A1w (by rw [I7,I7]) fun id hid=>?_
        rw [I7] at hid
        rw [Q5,Q5]
        by_cases hown:L5 l hr.length i id
        · rw [C1Q D hown,N6.2 ⟨i,hnd,hown⟩]
          have h1:=A3K D ht h0 hown i (Nat.le_refl _)
          have h2:=A0B D ht (k:=i + 1) (id:=id) (by rw [hsame];have:=Z4 D ht h0 (k:=i) (by omega);have:=A9c D hown;omega)
            (fun k hk ho'=>by have:=A5Z D ho' hown;omega) (l.length - (i + 1)) (by omega)
          rw [show i + 1 + (l.length - (i + 1))=l.length by omega,hsame,h1] at h2
          simp [h2]
        · rw [A9K D hown]
      have hrun:∀ v h3,aop E true hr hr.length ao.slot ao.op (es i) (hs i) (fun v h=>some (v,h))=some (v,h3) → h3=hs (i + 1) →
          ∃ h2,aop E true hr hr.length ao.slot ao.op (es i) (HD (hs l.length) (und l hr.length done) (hs q).length) (fun v h=>some (v,h))=some (v,h2) ∧ h2=HD (hs l.length) (und l hr.length (I1 done i)) (hs q).length:=by
        intro v h3 hrun he3
        subst he3
        cases hsl:N0 ao.op with
        | false =>
          cases hmk:Z8 ao.op with
          | false =>
            cases hown:A08 ao.op with
            | none =>
              obtain ⟨h4,h5⟩:=B44 hqi.1 hmk hown hc hsl hrun
              exact ⟨_,h5 _,hskip h4⟩
            | some j =>
              obtain ⟨h4,h5⟩:=B43 hown hrun
              exact ⟨_,h5 _ (D2p D ht h0 S ha hah hown),hskip h4⟩
          | true =>
            obtain ⟨h4,h5⟩:=B41 hmk hrun
            exact ⟨_,h5 _ (D2s D ht h0 S ha hah (.inr hmk)),hskip h4⟩
        | true =>
          have h6:=hqi.2.1
          rw [hsl] at h6
          obtain ⟨j,hj⟩:=Option.isSome_iff_exists.1 h6.symm
          rw [hj] at hrun ⊢
          obtain ⟨row,h7,h8⟩:=B45 hsl hrun
          refine ⟨_,h8 _,?_⟩
          have hown:L5 l hr.length i (hr.length + j):=⟨ao,j,ha,hj,rfl⟩
          have hjm:=hqi.2.2 j hj
          have hbi:=Z4 D ht h0 (k:=i) (by omega)
          refine A1w (by rw [List.length_set,I7,I7]) fun id hid=>?_
          rw [List.length_set,I7] at hid
          by_cases e1:hr.length + j=id
          · subst e1
            rw [G3 (by rw [I7];omega),Q5,if_pos ⟨by omega,C1Q D hown⟩]
            have h9:=A0B D ht (k:=i + 1) (id:=hr.length + j) (by rw [h7];simp;omega) (fun k hk ho'=>by have:=A5Z D ho' hown;omega) (l.length - (i + 1)) (by omega)
            rw [show i + 1 + (l.length - (i + 1))=l.length by omega,h7,G3 (by omega)] at h9
            exact h9.symm
          · rw [C7 e1,Q5,Q5,A9K D]
            rintro ⟨ao',j',h10,h11,h12⟩
            rw [ha] at h10;cases h10
            rw [hj] at h11;cases h11
            exact e1 h12.symm
      unfold I2 at hstep ⊢
      cases hgu:ao.guard with
      | none=>rw [hgu] at hstep;exact hrun _ _ hstep rfl
      | some g =>
        rw [hgu] at hstep
        simp only [Option.bind_eq_some_iff,Option.some.injEq] at hstep
        obtain ⟨⟨v',h3⟩,hp,hpe⟩:=hstep
        simp only [Prod.mk.injEq] at hpe
        obtain ⟨hv',hh3⟩:=hpe
        unfold gd at hp ⊢
        split at hp
        · rename_i x heq
          simp only [heq]
          cases hx:(x == g.2) with
          | true =>
            rw [hx] at hp
            obtain ⟨h2,h4,h5⟩:=hrun _ _ hp hh3
            exact ⟨h2,by rw [cond_true,h4];simp [hv'],h5⟩
          | false =>
            rw [hx] at hp
            simp only [cond_false,Option.some.injEq,Prod.mk.injEq] at hp
            refine ⟨_,by rw [cond_false];simp [← hv',← hp.1],hskip ?_⟩
            rw [← hh3];exact hp.2.symm
        · rename_i heq
          simp only [heq]
          simp only [Option.some.injEq,Prod.mk.injEq] at hp
          refine ⟨_,by simp [← hv',← hp.1],hskip ?_⟩
          rw [← hh3];exact hp.2.symm
        · cases hp
    obtain ⟨h2,hk1,hk2⟩:=key
    rw [hcong] at hk1
    refine A5r hE hco hk1 henv S.inv hrd hslot ?_
    intro V w' μ' hle hv hinv hkeep
    subst hk2
    refine hn V w' μ' q (C0s D ht h0 S ha hnd hdst.1 hdst.2 hle hv hinv hkeep S.qle ?_)
    intro k ak hak hck
    have e1:k ≠ i:=by intro e1;subst e1;rw [ha] at hak;cases hak;rw [hc] at hck;cases hck
    rw [N2 _ _ e1]
    exact S.calls k ak hak hck
  | true =>
    have hsn:ao.slot=none:=by
      rcases A6b D.quiet ht ha with ⟨_,h,_⟩ | ⟨h,_⟩
      · exact h
      · rw [hc] at h;cases h
    have hqi':q ≤ i:=by
      have:=S.calls i ao ha hc
      rw [hnd] at this
      have:¬ i < q:=fun h=>by have:=this.2 h;cases this
      omega
    have hlen:(hs i).length=(hs q).length:=by
      have:=A5Q D ht (q:=q) (i - q) (by omega) fun k ak h1 h2 hak=>by
        cases hck:J6 ak.op with
        | false=>rfl
        | true =>
          have h3:=hah k (D.calls i k ao ak ha hak (.inl hc) (by omega) (.inl hck))
          have:=(S.calls k ak hak hck).1 h3
          omega
      rwa [show q + (i - q)=i by omega] at this
    have hnoown:∀ id,¬ L5 l hr.length i id:=by
      rintro id ⟨ao',j,h1,h2,_⟩
      rw [ha] at h1;cases h1
      rw [hsn] at h2;cases h2
    have hcalls':∀ (k:Nat) ak,l[k]? = some ak → J6 ak.op=true → (I1 done i k=true ↔ k < i + 1):=by
      intro k ak hak hck
      by_cases e1:k=i
      · subst e1;simp [A2m]
      · rw [N2 _ _ e1]
        constructor
        · intro hk
          have:¬ i < k:=fun h=>by
            have h2:=hcl k hk i (D.calls k i ak ao hak ha (.inl hck) h (.inl hc))
            rw [hnd] at h2;cases h2
          omega
        · intro hk
          exact hah k (D.calls i k ao ak ha hak (.inl hc) (by omega) (.inl hck))
    have hmono:=C0J D.quiet ht hil
    have hskip:hs (i + 1)=hs i → HD (hs l.length) (und l hr.length done) (hs q).length=HD (hs l.length) (und l hr.length (I1 done i)) (hs (i + 1)).length:=by
      intro hsame
      rw [hsame,hlen]
      refine A1w (by rw [I7,I7]) fun id hid=>?_
      rw [Q5,Q5,A9K D (hnoown id)]
    have hrun:∀ (g:Nat) (args:List Val),quiet (hs i) (E g args (hs i))=some (vs i,hs (i + 1)) →
        ∃ E':B0,N7 P E' ∧ quiet (HD (hs l.length) (und l hr.length done) (hs q).length) (E' g args (HD (hs l.length) (und l hr.length done) (hs q).length))=some (vs i,HD (hs l.length) (und l hr.length (I1 done i)) (hs (i + 1)).length):=by
      intro g args hcall
      obtain ⟨h1,h2⟩:=B28 hcall
      obtain ⟨hg,hk,_⟩:=hE _ _ _ _ _ h1
      have hsub:∀ id x,rd (hs i) id=some x → rd (HD (hs l.length) (und l hr.length done) (hs q).length) id=some x:=by
        intro id x hx
        have hnolater:∀ k,i ≤ k → ¬ L5 l hr.length k id:=fun k hk ho'=>by
          have:=A3K D ht h0 ho' i hk
          rw [this] at hx;cases hx
        have hu:und l hr.length done id=false:=by
          cases hu:und l hr.length done id with
          | false=>rfl
          | true =>
            obtain ⟨k,hk,ho'⟩:=N6.1 hu
            by_cases e1:i ≤ k
            · exact absurd ho' (hnolater k e1)
            · obtain ⟨ak,j,hak,hj,_⟩:=ho'
              have hsk:N0 ak.op=true:=by have:=(D.quiet k ak hak).2.1;rw [hj] at this;exact this
              have:=hah k (D.calls i k ao ak ha hak (.inl hc) (by omega) (.inr hsk))
              rw [hk] at this;cases this
        rw [Q5,if_pos ⟨by have:=B8 hx;omega,hu⟩]
        have:=A0B D ht (B8 hx) hnolater (l.length - i) (by omega)
        rw [show i + (l.length - i)=l.length by omega] at this
        rw [this];exact hx
      have hfr:=hk.frame h2 (hD:=HD (hs l.length) (und l hr.length done) (hs q).length) (by rw [I7,hlen]) hsub
      have heq:HD (hs l.length) (und l hr.length done) (hs q).length ++ (hs (i + 1)).drop (hs i).length=HD (hs l.length) (und l hr.length (I1 done i)) (hs (i + 1)).length:=by
        refine A1w (by rw [List.length_append,I7,I7,List.length_drop];omega) fun id hid=>?_
        rw [B3a (by rw [I7,hlen])]
        split
        · rw [Q5,Q5,A9K D (hnoown id)]
          have:id < (hs q).length:=by omega
          have:id < (hs (i + 1)).length:=by omega
          simp [*]
        · rename_i hge
          have hbi:=Z4 D ht h0 (k:=i) (by omega)
          have hno:∀ k,¬ L5 l hr.length k id:=fun k ho'=>by have:=A9c D ho';omega
          have hu:und l hr.length (I1 done i) id=false:=by
            cases hu:und l hr.length (I1 done i) id with
            | false=>rfl
            | true=>obtain ⟨k,_,ho'⟩:=N6.1 hu;exact absurd ho' (hno k)
          have hlt:id < (hs (i + 1)).length:=by
            rw [List.length_append,I7,List.length_drop] at hid;omega
          rw [Q5,if_pos ⟨hlt,hu⟩]
          have:=A0B D ht hlt (fun k _=>hno k) (l.length - (i + 1)) (by omega)
          rw [show i + 1 + (l.length - (i + 1))=l.length by omega] at this
          exact this.symm
      rw [heq] at hfr
      have hgr:Grows (HD (hs l.length) (und l hr.length done) (hs q).length) (HD (hs l.length) (und l hr.length (I1 done i)) (hs (i + 1)).length):=by
        rw [← heq]
        refine ⟨List.prefix_append _ _,fun id x hid hx=>?_⟩
        rw [I7] at hid
        rw [B3a (by rw [I7,hlen]),if_neg (by omega)] at hx
        exact h2.2 id x (by omega) hx
      refine ⟨fun f' a' h'=>if f'=g ∧ a'=args ∧ h'=HD (hs l.length) (und l hr.length done) (hs q).length then some (vs i,HD (hs l.length) (und l hr.length (I1 done i)) (hs (i + 1)).length) else none,?_,?_⟩
      · intro f' a' h' v' h'' hv'
        simp only at hv'
        split at hv'
        · rename_i hcond
          obtain ⟨rfl,rfl,rfl⟩:=hcond
          cases hv'
          exact ⟨hg,hfr,by rw [I7,I7];omega⟩
        · cases hv'
      · exact (congrArg (quiet _) (if_pos ⟨rfl,rfl,rfl⟩)).trans (quiet_of hgr)
    have key:∃ E':B0,N7 P E' ∧ I2 E' true hr hr.length ao (es i) (HD (hs l.length) (und l hr.length done) (hs q).length) (fun v h=>some (v,h))=some (vs i,HD (hs l.length) (und l hr.length (I1 done i)) (hs (i + 1)).length):=by
      have hop:∀ v h3,aop E true hr hr.length ao.slot ao.op (es i) (hs i) (fun v h=>some (v,h))=some (v,h3) → v=vs i → h3=hs (i + 1) →
          ∃ E':B0,N7 P E' ∧ aop E' true hr hr.length ao.slot ao.op (es i) (HD (hs l.length) (und l hr.length done) (hs q).length) (fun v h=>some (v,h))=some (vs i,HD (hs l.length) (und l hr.length (I1 done i)) (hs (i + 1)).length):=by
        intro v h3 hr1 hv1 he3
        subst hv1 he3
        cases hopk:ao.op <;> rw [hopk] at hc hr1 <;> simp [J6] at hc
        case call f args =>
          simp only [aop,cond_true,Option.bind_eq_some_iff,Option.some.injEq] at hr1
          obtain ⟨⟨v',h4⟩,hp,hpe⟩:=hr1
          cases hpe
          obtain ⟨E',h5,h6⟩:=hrun f _ hp
          exact ⟨E',h5,by simp only [aop,cond_true];rw [h6];rfl⟩
        case callV f args =>
          simp only [aop,cond_true,Option.bind_eq_some_iff,Option.some.injEq] at hr1
          obtain ⟨⟨v',h4⟩,hp,hpe⟩:=hr1
          cases hpe
          unfold L7 at hp
          split at hp
          · rename_i g caps heq
            obtain ⟨E',h5,h6⟩:=hrun g _ hp
            refine ⟨E',h5,?_⟩
            simp only [aop,cond_true]
            unfold L7
            rw [heq]
            simp only
            rw [h6];rfl
          · simp [quiet] at hp
      unfold I2 at hstep ⊢
      cases hgu:ao.guard with
      | none=>rw [hgu] at hstep;exact hop _ _ hstep rfl rfl
      | some g =>
        rw [hgu] at hstep
        simp only [Option.bind_eq_some_iff,Option.some.injEq] at hstep
        obtain ⟨⟨v',h3⟩,hp,hpe⟩:=hstep
        simp only [Prod.mk.injEq] at hpe
        obtain ⟨hv',hh3⟩:=hpe
        unfold gd at hp ⊢
        split at hp
        · rename_i x heq
          simp only [heq]
          cases hx:(x == g.2) with
          | true =>
            rw [hx] at hp
            obtain ⟨E',h2,h4⟩:=hop _ _ hp hv' hh3
            exact ⟨E',h2,by rw [cond_true,h4];rfl⟩
          | false =>
            rw [hx] at hp
            simp only [cond_false,Option.some.injEq,Prod.mk.injEq] at hp
            refine ⟨E,hE,?_⟩
            rw [cond_false,← hskip (by rw [← hh3];exact hp.2.symm)]
            simp [← hv',← hp.1]
        · rename_i heq
          simp only [heq]
          simp only [Option.some.injEq,Prod.mk.injEq] at hp
          refine ⟨E,hE,?_⟩
          rw [← hskip (by rw [← hh3];exact hp.2.symm)]
          simp [← hv',← hp.1]
        · cases hp
    obtain ⟨E',hE',hk1⟩:=key
    rw [hcong] at hk1
    refine A5r hE' hco hk1 henv S.inv hrd hslot ?_
    intro V w' μ' hle hv hinv hkeep
    exact hn V w' μ' (i + 1) (C0s D ht h0 S ha hnd hdst.1 hdst.2 hle hv hinv hkeep (by omega) hcalls')
end
end Go.Esc
end
section
namespace Go.Esc
open Go
section
variable {P:Program} {R:Type}
theorem A2n {h:A0} {n0:Nat} {slot:Option Nat} {r:Row}:h.length ≤ (F7 h n0 slot r).2.length:=by
  cases slot <;> simp [F7]
theorem B40 {E:B0} (hE:N7 P E) {q:Bool} {hr:A0} {n0:Nat} {slot:Option Nat} {o:AOp} {e:Env} {h h':A0} {v:Val}
    (hres:aop E q hr n0 slot o e h (fun v h=>some (v,h))=some (v,h')):h.length ≤ h'.length:=by
  cases o <;> simp only [aop] at hres
  case store1 a x =>
    simp only [Option.bind_eq_some_iff,Option.some.injEq,Prod.mk.injEq] at hres
    obtain ⟨h2,hp,_,rfl⟩:=hres
    unfold E7 at hp
    split at hp
    · simp only [Option.bind_eq_some_iff] at hp
      obtain ⟨r,_,hp⟩:=hp
      split at hp <;> cases hp
      simp
    · cases hp
  case storeN n a x =>
    simp only [Option.bind_eq_some_iff,Option.some.injEq,Prod.mk.injEq] at hres
    obtain ⟨h2,hp,_,rfl⟩:=hres
    unfold B4 at hp
    split at hp
    · simp only [Option.bind_eq_some_iff] at hp
      obtain ⟨r,_,hp⟩:=hp
      split at hp <;> cases hp
      simp
    · cases hp
  case app sz a x =>
    simp only [Option.bind_eq_some_iff,Option.some.injEq] at hres
    obtain ⟨⟨v',h2⟩,hp,hpe⟩:=hres
    cases hpe
    simp only [F0,Option.bind_eq_some_iff] at hp
    obtain ⟨ys,_,hp⟩:=hp
    split at hp
    · split at hp <;> cases hp
      simp
    · simp only [Option.bind_eq_some_iff] at hp
      obtain ⟨r,_,hp⟩:=hp
      split at hp <;> cases hp
      simp
    · cases hp
  case copy sz a x =>
    simp only [Option.bind_eq_some_iff,Option.some.injEq] at hres
    obtain ⟨⟨v',h2⟩,hp,hpe⟩:=hres
    cases hpe
    simp only [A2k] at hp
    split at hp
    · cases hp
    simp only [Option.bind_eq_some_iff] at hp
    obtain ⟨ys,_,hp⟩:=hp
    split at hp
    · simp only [Option.bind_eq_some_iff] at hp
      obtain ⟨r,_,hp⟩:=hp
      split at hp <;> cases hp
      simp
    · cases hp
  case appZ sz zero x y =>
    simp only [Option.bind_eq_some_iff,Option.some.injEq] at hres
    obtain ⟨⟨v',h2⟩,hp,hpe⟩:=hres
    cases hpe
    unfold A2i at hp
    simp only [Option.bind_eq_some_iff] at hp
    obtain ⟨n,_,hp⟩:=hp
    split at hp
    · cases hp
      simp
    · simp only [Option.bind_eq_some_iff] at hp
      obtain ⟨r,_,hp⟩:=hp
      split at hp <;> cases hp
      simp
    · cases hp
  case call f args =>
    simp only [Option.bind_eq_some_iff,Option.some.injEq] at hres
    obtain ⟨⟨v',h2⟩,hp,hpe⟩:=hres
    cases hpe
    have hE1:E f (args.map e.ev) h=some (v',h2):=by
      cases q with
      | false=>simpa using hp
      | true =>
        simp only [cond_true,quiet,Option.bind_eq_some_iff] at hp
        obtain ⟨p',g1,g2⟩:=hp
        split at g2
        · cases g2;exact g1
        · cases g2
    exact (hE _ _ _ _ _ hE1).2.2
  case callV f args =>
    simp only [Option.bind_eq_some_iff,Option.some.injEq] at hres
    obtain ⟨⟨v',h2⟩,hp,hpe⟩:=hres
    cases hpe
    have hE0:L7 E (e.ev f) (args.map e.ev) h=some (v',h2):=by
      cases q with
      | false=>simpa using hp
      | true =>
        simp only [cond_true,quiet,Option.bind_eq_some_iff] at hp
        obtain ⟨p',g1,g2⟩:=hp
        split at g2
        · cases g2;exact g1
        · cases g2
    unfold L7 at hE0
    split at hE0
    · exact (hE _ _ _ _ _ hE0).2.2
    · cases hE0
  case mv=>cases hres;exact Nat.le_refl _
  case nilrow=>cases hres;exact A2n
  case alloc=>cases hres;exact A2n
  case mkMap=>cases hres;exact A2n
  case mput =>
    simp only [Option.bind_eq_some_iff,Option.some.injEq,Prod.mk.injEq] at hres
    obtain ⟨w,hp,_,rfl⟩:=hres
    unfold U9 at hp
    split at hp
    · simp only [Option.bind_eq_some_iff] at hp
      obtain ⟨_,_,_,_,_,_,_,_,hp⟩:=hp
      split at hp
      · cases hp;simp
      · cases hp
    · cases hp
  case mset =>
    simp only [Option.bind_eq_some_iff,Option.some.injEq,Prod.mk.injEq] at hres
    obtain ⟨w,hp,_,rfl⟩:=hres
    unfold A7H at hp
    split at hp
    · simp only [Option.bind_eq_some_iff] at hp
      obtain ⟨_,_,_,_,_,_,hp⟩:=hp
      split at hp
      · simp only [Option.bind_eq_some_iff,Option.some.injEq] at hp
        obtain ⟨_,_,rfl⟩:=hp
        simp
      · cases hp
    · cases hp
  case ment =>
    simp only [Option.bind_eq_some_iff,Option.some.injEq] at hres
    obtain ⟨w,hp,hpe⟩:=hres
    cases hpe
    unfold A7F at hp
    split at hp
    · simp only [Option.bind_eq_some_iff] at hp
      obtain ⟨_,_,_,_,_,_,hp⟩:=hp
      split at hp
      · simp only [Option.some.injEq] at hp
        split at hp
        · cases hp;exact Nat.le_refl _
        · cases hp;simp
      · cases hp
    · cases hp
  case box =>
    simp only [Option.bind_eq_some_iff,Option.some.injEq,Prod.mk.injEq] at hres
    obtain ⟨_,_,_,rfl⟩:=hres
    exact A2n
  case buildSl =>
    simp only [Option.bind_eq_some_iff,Option.some.injEq,Prod.mk.injEq] at hres
    obtain ⟨_,_,_,rfl⟩:=hres
    exact A2n
  case s2b =>
    simp only [Option.bind_eq_some_iff,Option.some.injEq,Prod.mk.injEq] at hres
    obtain ⟨_,_,_,rfl⟩:=hres
    exact A2n
  case mkSl =>
    simp only [Option.bind_eq_some_iff,Option.some.injEq,Prod.mk.injEq] at hres
    obtain ⟨_,_,_,rfl⟩:=hres
    exact A2n
  all_goals
    simp only [Option.bind_eq_some_iff,Option.some.injEq,Prod.mk.injEq] at hres
    obtain ⟨_,_,_,rfl⟩:=hres
    exact Nat.le_refl _
theorem B47 {E:B0} (hE:N7 P E) {q:Bool} {hr:A0} {n0:Nat} {o:AOper} {e:Env} {h h':A0} {v:Val}
    (hres:I2 E q hr n0 o e h (fun v h=>some (v,h))=some (v,h')):h.length ≤ h'.length:=by
  unfold I2 at hres
  split at hres
  · exact B40 hE hres
  · simp only [Option.bind_eq_some_iff,Option.some.injEq] at hres
    obtain ⟨⟨v',h2⟩,hp,hpe⟩:=hres
    cases hpe
    unfold gd at hp
    split at hp
    · rename_i x _
      cases hx:(x == _) with
      | true=>rw [hx] at hp;exact B40 hE hp
      | false=>rw [hx] at hp;cases hp;exact Nat.le_refl _
    · cases hp;exact Nat.le_refl _
    · cases hp
theorem put_defers (a:Act) (d:Option Nat) (V:Value):(a.put d V).defers=a.defers:=by cases d <;> rfl
theorem A7J {N L:Nat} {ops:Array Oper} {E:B0} (hE:N7 P E):∀ (l:List Nat) (aos:List AOper) (e:Env) (h:A0) (k:Env → A0 → Option R) (r:R),
    All2 (fun i ao=>∃ o,ops[i]? = some o ∧ R1 P N ops o ao=true ∧ ao.slot=none) l aos → S8 E aos e h k=some r → L ≤ h.length →
    ∃ e' h',k e' h'=some r ∧ L ≤ h'.length ∧ StepsTo P N L (fun Q=>wpOps P ops Q l) e h .normal e' h'
  | [],[],e,h,k,r,_,hres,hL=>⟨e,h,hres,hL,fun Γ μ a w hs hi hN hd Q hq=>hq μ a w (Mu.le_refl _) (fun _ _=>rfl) hs hi hN hd⟩
  | i :: l,ao :: aos,e,h,k,r,⟨⟨o,ho,hc,hslot⟩,hrest⟩,hres,hL=>by
    rw [B48] at hres
    obtain ⟨v,h1,hk,hone⟩:=C6T hE hc hres
    have hl1:=B47 hE hone
    obtain ⟨e',h',hk',hL',hst⟩:=A7J hE l aos (e.put ao.dst v) h1 k r hrest hk (Nat.le_trans hL hl1)
    refine ⟨e',h',hk',hL',fun Γ μ a w hs hi hN hd Q hq=>?_⟩
    show wpOps P ops Q (i :: l) a w
    rw [wpOps_cons]
    unfold wpOp
    rw [ho]
    have hdst:o.dst=ao.dst ∧ A0p N o.dst=true:=by
      simp only [R1,Bool.and_eq_true,decide_eq_true_eq] at hc
      exact ⟨hc.1.1.1,hc.1.1.2⟩
    have hlt:∀ t,o.dst=some t → t < a.tmps.size:=by
      intro t ht
      have:=hdst.2
      rw [ht] at this
      simp [A0p] at this
      exact Nat.lt_of_lt_of_le this hN
    refine A5r (hr:=h) (n0:=0) hE hc hone hs hi (fun _ _ h=>h) (by rw [hslot];trivial) ?_
    intro V w' μ' hle hv hi' hkeep
    rw [hslot] at hkeep
    refine hst Γ μ' (a.put o.dst V) w' ?_ hi' (by rw [Act.size_put];exact hN) (by rw [put_defers];exact hd) Q ?_
    · rw [← hdst.1]
      exact (hs.mono hle).put hlt hv
    · intro μ2 a2 w2 h2 h3 h4 h5 h6 h7
      exact hq μ2 a2 w2 (Mu.le_trans hle h2) (fun id hid=>by rw [h3 id hid];exact hkeep id (by omega) (fun _ h=>by cases h)) h4 h5 h6 h7
  | [],_ :: _,_,_,_,_,h,_,_=>h.elim
  | _ :: _,[],_,_,_,_,h,_,_=>h.elim
end
theorem B56 {o:Oper} {p:Nat}:p ∈ R4 o ↔ ∃ e ∈ o.after,Region.binds .any e=true ∧ e.on=p:=by
  unfold R4
  simp only [List.mem_map,List.mem_filter,Array.mem_toList_iff]
  constructor
  · rintro ⟨e,⟨h1,h2⟩,rfl⟩;exact ⟨e,h1,h2,rfl⟩
  · rintro ⟨e,h1,h2,rfl⟩;exact ⟨e,⟨h1,h2⟩,rfl⟩
theorem A3M {ops:Array Oper} {listed:Array Bool} {i:Nat}:i ∈ Region.ready .any ops listed ↔ ∃ o,ops[i]? = some o ∧ listed.getD i true=false ∧ ∀ p ∈ R4 o,listed.getD p false=true:=by
  unfold Region.ready
  simp only [List.mem_filter,List.mem_range,Bool.and_eq_true,Bool.not_eq_true']
  constructor
  · rintro ⟨h1,h2,h3⟩
    have ho:ops[i]? = some ops[i]:=by simp [h1]
    refine ⟨ops[i],ho,h2,fun p hp=>?_⟩
    rw [ho] at h3
    simp only [Option.map_some,Option.getD_some,Array.all_eq_true_iff_forall_mem] at h3
    obtain ⟨e,he,hb,rfl⟩:=B56.1 hp
    have:=h3 e he
    rw [hb] at this
    simpa using this
  · rintro ⟨o,ho,h2,h3⟩
    refine ⟨(Array.getElem?_eq_some_iff.1 ho).1,h2,?_⟩
    rw [ho]
    simp only [Option.map_some,Option.getD_some,Array.all_eq_true_iff_forall_mem]
    intro e he
    cases hb:Region.binds .any e with
    | false=>rfl
    | true=>simpa using h3 e.on (B56.2 ⟨e,he,hb,rfl⟩)
theorem S3 {listed:Array Bool} {i:Nat} (hi:i < listed.size):(fun k=>(listed.setIfInBounds i true).getD k false)=I1 (fun k=>listed.getD k false) i:=by
  funext k
  unfold I1
  by_cases h:k=i
  · subst h;simp [Array.getD,hi]
  · simp [Array.getElem?_setIfInBounds_ne (Ne.symm h),h]
theorem getD_both {listed:Array Bool} {i:Nat} (hi:i < listed.size):listed.getD i true=listed.getD i false:=by simp [Array.getD,hi]
theorem A9o {ops:Array Oper} {listed:Array Bool} (hlt:∀ (i:Nat) (o:Oper),ops[i]? = some o → ∀ p ∈ R4 o,p < i) (hs:listed.size=ops.size):∀ (i:Nat),i < ops.size → listed.getD i false=false → Region.ready .any ops listed ≠ []:=by
  intro i
  induction i using Nat.strongRecOn with
  | _ i ih =>
    intro hi hu
    have ho:ops[i]? = some ops[i]:=by simp [hi]
    by_cases h:∀ p ∈ R4 ops[i],listed.getD p false=true
    · have:i ∈ Region.ready .any ops listed:=A3M.2 ⟨_,ho,by rw [getD_both (by omega)];exact hu,h⟩
      intro e;rw [e] at this;cases this
    · have:∃ p,p ∈ R4 ops[i] ∧ listed.getD p false=false:=by
        false_or_by_contra
        rename_i hn
        exact h fun p hp=>by
          cases hv:listed.getD p false with
          | true=>rfl
          | false=>exact absurd ⟨p,hp,hv⟩ hn
      obtain ⟨p,hp,hv⟩:=this
      have hpi:=hlt i _ ho p hp
      exact ih p hpi (by omega) hv
def left (n:Nat) (listed:Array Bool):Nat:=((List.range n).filter fun i=>!listed.getD i false).length
theorem A8K {n:Nat} {listed:Array Bool} {i:Nat} (hi:i < n) (hs:listed.size=n) (hu:listed.getD i false=false):left n (listed.setIfInBounds i true) + 1 ≤ left n listed:=by
  unfold left
  have e:(List.range n).filter (fun k=>!(listed.setIfInBounds i true).getD k false)=((List.range n).filter fun k=>!listed.getD k false).filter (fun k=>decide (k ≠ i)):=by
    rw [List.filter_filter]
    apply List.filter_congr
    intro k hk
    have:=congrFun (S3 (listed:=listed) (i:=i) (by omega)) k
    try simp only at this
    rw [this]
    unfold I1
    by_cases h:k=i <;> simp [h]
  rw [e]
  have hm:i ∈ (List.range n).filter fun k=>!listed.getD k false:=by
    rw [List.mem_filter];exact ⟨by simpa using hi,by rw [hu];rfl⟩
  have:=List.length_filter_lt_length_iff_exists (l:=(List.range n).filter fun k=>!listed.getD k false) (p:=fun k=>decide (k ≠ i))
  have h2:=this.2 ⟨i,hm,by simp⟩
  omega
section
variable {P:Program} {ops:Array Oper} {Q:Exit → Act → World → Prop}
theorem A5q (hlt:∀ (i:Nat) (o:Oper),ops[i]? = some o → ∀ p ∈ R4 o,p < i) {A:Nat} (hlast:∀ i,A ≤ i → i < ops.size → ∀ j,j < i → ((K6 ops).getD i 0).testBit j=true) :
    ∀ (k i fuel:Nat) (listed:Array Bool) (a:Act) (w:World),i + k=ops.size → A ≤ i → listed.size=ops.size → (∀ j,j < ops.size → listed.getD j false=decide (j < i)) → k ≤ fuel →
      wpOps P ops Q (List.range' i k) a w → wpAny P .any ops Q fuel listed a w
  | 0,i,fuel,listed,a,w,hik,hA,hs,hl,hf,h=>by
    have hr:Region.ready .any ops listed=[]:=by
      apply List.eq_nil_iff_forall_not_mem.2
      intro x hx
      obtain ⟨o,ho,h2,_⟩:=A3M.1 hx
      have hlt:=(Array.getElem?_eq_some_iff.1 ho).1
      rw [getD_both (by omega),hl x hlt] at h2
      simp at h2;omega
    cases fuel with
    | zero=>exact ⟨hr,h⟩
    | succ f=>exact ⟨fun _=>h,fun x hx=>by rw [hr] at hx;cases hx⟩
  | k + 1,i,fuel,listed,a,w,hik,hA,hs,hl,hf,h=>by
    obtain ⟨f,rfl⟩:∃ f,fuel=f + 1:=⟨fuel - 1,by omega⟩
    refine ⟨fun he=>absurd he (A9o hlt hs i (by omega) (by rw [hl i (by omega)];simp)),fun x hx=>?_⟩
    obtain ⟨o,ho,h2,h3⟩:=A3M.1 hx
    have hxn:=(Array.getElem?_eq_some_iff.1 ho).1
    rw [getD_both (by omega),hl x hxn] at h2
    simp at h2
    have hxi:x=i:=by
      by_cases e:x=i
      · exact e
      · have hd:=A3k (done:=fun j=>listed.getD j false) hlt (fun j oj hj hdj p hp=>by
          have hjn:=(Array.getElem?_eq_some_iff.1 hj).1
          try simp only at hdj
          rw [hl j hjn] at hdj
          have:=hlt j oj hj p hp
          show listed.getD p false=true
          rw [hl p (by omega)]
          simp at hdj ⊢;omega) x o ho h3 i (hlast x (by omega) hxn i (by omega))
        try simp only at hd
        rw [hl i (by omega)] at hd
        simp at hd
    subst hxi
    rw [List.range'_succ,wpOps_cons] at h
    refine wpOp_mono (fun a' w' h'=>?_) h
    refine A5q hlt hlast k (x + 1) f _ a' w' (by omega) (by omega) (by simpa using hs) (fun j hj=>?_) (by omega) h'
    have:=congrFun (S3 (listed:=listed) (i:=x) (by omega)) j
    try simp only at this
    rw [this]
    unfold I1
    show (decide (j=x) || listed.getD j false)=_
    rw [hl j hj]
    by_cases e:j=x
    · subst e;simp
    · simp only [e,decide_false,Bool.false_or]
      have:(j < x) ↔ (j < x + 1):=by omega
      simp only [this]
end
theorem Inv.pad {Γ:Ctx} {μ:Mu} {h:A0} {w:World} (hi:Inv Γ μ h w) (m:Nat):Inv Γ μ (h ++ List.replicate m none) w:=by
  have hget:∀ id x,rd (h ++ List.replicate m none) id=some x → rd h id=some x:=by
    intro id x hx
    by_cases hl:id < h.length
    · rwa [G5 hl] at hx
    · unfold rd at hx
      rw [List.getElem?_append_right (by omega),List.getElem?_replicate] at hx
      split at hx <;> cases hx
  exact ⟨fun id x hx=>hi.rows id x (hget id x hx),fun i j x y z z' hx hy=>hi.sep i j x y z z' (hget _ _ hx) (hget _ _ hy),fun i x y hx=>hi.own i x y (hget _ _ hx),fun id hid=>hi.dom id (by simp at hid;omega),hi.ctx⟩
theorem C7I {P:Program} {N L:Nat} {ops:Array Oper} {m id:Nat} {l r:List AOper} {E:B0} (hE:N7 P E) {e:Env} {h:A0} {R:Type} {k:Env → A0 → Option R} {res:R}
    (hc:A3p P N ops m l r=true) (hc2:A5y ops l.length r.length=true) (hL:L ≤ h.length)
    (hres:A0Q E h h.length l e (h ++ List.replicate m none) (fun e h=>S8 E r e h k)=some res) :
    ∃ e' h',k e' h'=some res ∧ L ≤ h'.length ∧ StepsTo P N L ((Code.region id ops true).wp P) e h .normal e' h':=by
  have D:=B5Y hc
  have last:=B50 hc2 D.size
  obtain ⟨es,hs,vs,he,h0,ht,hk⟩:=B3A l _ _ hres
  have hrlist:All2 (fun i ao=>∃ o,ops[i]? = some o ∧ R1 P N ops o ao=true ∧ ao.slot=none) (List.range' l.length r.length) r:=by
    refine All2.of_get (by simp) fun i x ao hx hao=>?_
    have hi:i < r.length:=(List.getElem?_eq_some_iff.1 hao).1
    rw [List.getElem?_range' hi] at hx
    simp at hx
    subst hx
    have hlt:l.length + i < ops.size:=by rw [D.size];omega
    refine ⟨ops[l.length + i],by simp [hlt],?_,D.rslot ao (List.mem_of_getElem? hao)⟩
    refine D.oper (l.length + i) _ ao (by simp [hlt]) ?_
    rw [List.getElem?_append_right (by omega)]
    simpa using hao
  have hbl:=Z4 D ht h0 (k:=l.length) (Nat.le_refl _)
  obtain ⟨e',h',hk',hL',hst⟩:=A7J (L:=L) hE _ r (es l.length) (hs l.length) k res hrlist hk (by omega)
  refine ⟨e',h',hk',hL',fun Γ μ0 a w hs0 hi hN hd Q hq=>wp_region_any D.follows ?_⟩
  have whole:∀ (listed:Array Bool) (a:Act) (w:World) (q:Nat) (μ:Mu),Sim Γ l h.length N e es hs vs μ0 (fun i=>listed.getD i false) q μ a w → (∀ j,j < l.length → listed.getD j false=true) → wpOps P ops Q (List.range' l.length r.length) a w:=by
    intro listed a w q μ S hall
    have henv:SEnv μ (es l.length) a:=by
      intro t
      by_cases hw:∃ (j:Nat) (aj:AOper),l[j]? = some aj ∧ aj.dst=some t
      · obtain ⟨j,aj,haj,hdj⟩:=hw
        have hjl:=(List.getElem?_eq_some_iff.1 haj).1
        rw [A1t D ht haj hdj l.length hjl (Nat.le_refl _)]
        exact S.envD j aj t haj (hall j hjl) hdj
      · have hno:∀ (j:Nat) (aj:AOper),l[j]? = some aj → aj.dst ≠ some t:=fun j aj haj hdj=>hw ⟨j,aj,haj,hdj⟩
        rw [A1s ht he l.length (Nat.le_refl _) fun j aj _ haj=>hno j aj haj]
        exact S.envO t fun j aj haj _=>hno j aj haj
    have hlen:(hs l.length).length=(hs q).length:=by
      have hql:=S.qle
      have:=A5Q D ht (q:=q) (l.length - q) (by omega) fun k ak h1 h2 hak=>by
        cases hck:J6 ak.op with
        | false=>rfl
        | true =>
          have:=(S.calls k ak hak hck).1 (hall k (by omega))
          omega
      rwa [show q + (l.length - q)=l.length by omega] at this
    have hheap:HD (hs l.length) (und l h.length fun i=>listed.getD i false) (hs q).length=hs l.length:=by
      refine A1w (by rw [I7,hlen]) fun id hid=>?_
      rw [I7] at hid
      have hu:und l h.length (fun i=>listed.getD i false) id=false:=by
        cases hu:und l h.length (fun i=>listed.getD i false) id with
        | false=>rfl
        | true =>
          obtain ⟨k,hk,ao,j,hak,_⟩:=N6.1 hu
          have:=hall k (List.getElem?_eq_some_iff.1 hak).1
          rw [this] at hk;cases hk
      rw [Q5,if_pos ⟨hid,hu⟩]
    have hinv:=S.inv
    rw [hheap] at hinv
    exact hst Γ μ a w henv hinv S.size S.defers Q fun μ' a' w' g1 g2 g3 g4 g5 g6=>hq μ' a' w' (Mu.le_trans S.le g1) (fun id hid=>(g2 id hid).trans (S.keep id (by omega))) g3 g4 g5 g6
  have main:∀ (fuel:Nat) (listed:Array Bool) (a:Act) (w:World) (q:Nat) (μ:Mu),listed.size=ops.size → left ops.size listed ≤ fuel →
      (∀ j,l.length ≤ j → j < ops.size → listed.getD j false=false) → (∀ (i:Nat) (o:Oper),ops[i]? = some o → listed.getD i false=true → ∀ p ∈ R4 o,listed.getD p false=true) →
      Sim Γ l h.length N e es hs vs μ0 (fun i=>listed.getD i false) q μ a w → wpAny P .any ops Q fuel listed a w:=by
    intro fuel
    induction fuel with
    | zero =>
      intro listed a w q μ hsz hleft hbeyond hclosed S
      have hall:∀ j,j < ops.size → listed.getD j false=true:=by
        intro j hj
        cases hv:listed.getD j false with
        | true=>rfl
        | false =>
          have hm:j ∈ (List.range ops.size).filter fun i=>!listed.getD i false:=by rw [List.mem_filter];exact ⟨by simpa using hj,by rw [hv];rfl⟩
          have:=List.length_pos_of_mem hm
          unfold left at hleft
          omega
      have hr0:r.length=0:=by
        cases hr:r.length with
        | zero=>rfl
        | succ x =>
          have h1:=hall l.length (by rw [D.size];omega)
          have h2:=hbeyond l.length (Nat.le_refl _) (by rw [D.size];omega)
          rw [h1] at h2;cases h2
      refine A5q D.dir last 0 l.length 0 listed a w (by rw [D.size];omega) (Nat.le_refl _) hsz (fun j hj=>?_) (Nat.le_refl _) ?_
      · rw [hall j hj]
        have:j < l.length:=by rw [D.size] at hj;omega
        simp [this]
      · have:=whole listed a w q μ S fun j hj=>hall j (by rw [D.size];omega)
        rw [hr0] at this
        exact this
    | succ fuel ih =>
      intro listed a w q μ hsz hleft hbeyond hclosed S
      by_cases hall:∀ j,j < l.length → listed.getD j false=true
      · refine A5q D.dir last r.length l.length (fuel + 1) listed a w D.size.symm (Nat.le_refl _) hsz (fun j hj=>?_) ?_ (whole listed a w q μ S hall)
        · by_cases hjl:j < l.length
          · rw [hall j hjl];simp [hjl]
          · rw [hbeyond j (by omega) hj];simp [hjl]
        · refine Nat.le_trans ?_ hleft
          unfold left
          have:((List.range ops.size).filter fun i=>!listed.getD i false)=List.range' l.length r.length:=by
            rw [D.size,List.range_add,List.filter_append]
            have e1:(List.range l.length).filter (fun i=>!listed.getD i false)=[]:=by
              rw [List.filter_eq_nil_iff]
              intro j hj
              rw [hall j (by simpa using hj)]
              simp
            rw [e1,List.nil_append,List.range'_eq_map_range,List.filter_eq_self.2]
            intro j hj
            obtain ⟨x,hx,rfl⟩:=List.mem_map.1 hj
            rw [hbeyond _ (by omega) (by rw [D.size];simp at hx;omega)]
            rfl
          rw [this];simp
      · have hex:∃ j,j < l.length ∧ listed.getD j false=false:=by
          false_or_by_contra
          rename_i hn
          exact hall fun j hj=>by
            cases hv:listed.getD j false with
            | true=>rfl
            | false=>exact absurd ⟨j,hj,hv⟩ hn
        obtain ⟨j,hj,hv⟩:=hex
        refine ⟨fun hre=>absurd hre (A9o D.dir hsz j (by rw [D.size];omega) hv),fun i hi=>?_⟩
        obtain ⟨o,ho,h2,h3⟩:=A3M.1 hi
        have hin:=(Array.getElem?_eq_some_iff.1 ho).1
        rw [getD_both (by omega)] at h2
        have hah:=A3k (done:=fun i=>listed.getD i false) D.dir hclosed i o ho h3
        have hil:i < l.length:=by
          by_cases e1:i < l.length
          · exact e1
          · have:=hah j (last i (by omega) hin j (by omega))
            try simp only at this
            rw [hv] at this;cases this
        have hcl:∀ k,listed.getD k false=true → ∀ b,((K6 ops).getD k 0).testBit b=true → listed.getD b false=true:=by
          intro k hk b hb
          by_cases hkn:k < ops.size
          · have hok:ops[k]? = some ops[k]:=by simp [hkn]
            exact A3k (done:=fun i=>listed.getD i false) D.dir hclosed k _ hok (hclosed k _ hok hk) b hb
          · have:listed.getD k false=false:=by simp [Array.getD,show ¬ k < listed.size by omega]
            rw [this] at hk;cases hk
        have hstep:=C0t D hE ht h0 he S (i:=i) (ao:=l[i]) (o:=o) (List.getElem?_eq_getElem hil) ho h2 hah hcl
          (next:=wpAny P .any ops Q fuel (listed.setIfInBounds i true)) (Q:=Q) (by
            intro V w' μ' q' S'
            rw [← S3 (by omega)] at S'
            refine ih (listed.setIfInBounds i true) _ w' q' μ' (by simpa using hsz) (by have:=A8K hin hsz h2;omega) ?_ ?_ S'
            · intro k hk hkn
              have:=congrFun (S3 (listed:=listed) (i:=i) (by omega)) k
              try simp only at this
              rw [this,N2 _ _ (by omega)]
              exact hbeyond k hk hkn
            · intro k ok hok hdk p hp
              have e1:=congrFun (S3 (listed:=listed) (i:=i) (by omega)) k
              have e2:=congrFun (S3 (listed:=listed) (i:=i) (by omega)) p
              try simp only at e1 e2
              rw [e1] at hdk
              rw [e2]
              have hdone:listed.getD p false=true:=by
                by_cases e3:k=i
                · subst e3;rw [ho] at hok;cases hok;exact h3 p hp
                · rw [N2 _ _ e3] at hdk
                  exact hclosed k ok hok hdk p hp
              unfold I1
              show (decide (p=i) || listed.getD p false)=true
              rw [hdone];simp)
        unfold wpOp
        rw [ho]
        exact hstep
  have hgd:∀ i:Nat,(Array.replicate ops.size false).getD i false=false:=by intro i;simp [Array.getD]
  have hfun:(fun i=>(Array.replicate ops.size false).getD i false)=fun _=>false:=funext hgd
  refine main ops.size (Array.replicate ops.size false) a _ 0 μ0 (by simp) ?_ (fun j _ _=>hgd j) (fun i o _ hd=>by rw [hgd] at hd;cases hd) ?_
  · unfold left;exact Nat.le_trans (List.length_filter_le _ _) (by simp)
  · rw [hfun]
    have hpad:HD (hs l.length) (und l h.length fun _=>false) (hs 0).length=h ++ List.replicate m none:=by
      rw [h0]
      refine A1w (by rw [I7]) fun id hid=>?_
      rw [I7] at hid
      rw [Q5]
      by_cases ho:∃ i,L5 l h.length i id
      · obtain ⟨i,ho⟩:=ho
        have hu:und l h.length (fun _=>false) id=true:=N6.2 ⟨i,rfl,ho⟩
        rw [hu]
        have:=A3K D ht h0 ho 0 (Nat.zero_le _)
        rw [h0] at this
        rw [this];simp
      · have hno:∀ i,0 ≤ i → ¬ L5 l h.length i id:=fun i _ hi=>ho ⟨i,hi⟩
        have hu:und l h.length (fun _=>false) id=false:=by
          cases hu:und l h.length (fun _=>false) id with
          | false=>rfl
          | true=>obtain ⟨i,_,hi⟩:=N6.1 hu;exact absurd ⟨i,hi⟩ ho
        rw [if_pos ⟨hid,hu⟩]
        have:=A0B D ht (k:=0) (id:=id) (by rw [h0];exact hid) hno l.length (by omega)
        rw [Nat.zero_add,h0] at this
        exact this
    refine ⟨Nat.zero_le _,fun i ao _ _=>⟨fun h=>(by cases h),fun h=>(by omega)⟩,fun i ao d _ h=>(by cases h),fun t _=>hs0 t,?_,fun id hid=>?_,Mu.le_refl _,fun _ _=>rfl,hN,hd⟩
    · rw [hpad]
      exact (hi.pad m).world rfl rfl rfl fun _ _=>rfl
    · obtain ⟨i,_,ao,j,_,_,rfl⟩:=N6.1 hid
      exact hi.dom _ (by omega)
end Go.Esc
end
section
namespace Go.Esc
open Go
def A9g:AOp → Bool
  | .mv _ | .pick .. | .bin .. | .eqA .. | .eqB .. | .eqN .. | .nilc _ | .un .. | .conv .. | .convS _ | .fAddr .. | .iAddrA .. | .iAddrL .. | .fld1 .. | .fldN .. | .idxA1 .. | .idxAN .. | .idxS .. | .ext .. | .len _ | .lenS _ | .max .. | .min ..=>true
  | _=>false
theorem C6S {E:B0} {q:Bool} {hr:A0} {n0:Nat} {slot:Option Nat} {o:AOp} {e:Env} {h h':A0} {v:Val} (hp:A9g o=true)
    (hres:aop E q hr n0 slot o e h (fun v h=>some (v,h))=some (v,h')):∀ (q2:Bool) (hr2:A0) (n2:Nat) (slot2:Option Nat) (h2:A0),aop E q2 hr2 n2 slot2 o e h2 (fun v h=>some (v,h))=some (v,h2):=by
  intro q2 hr2 n2 slot2 h2
  cases o <;> simp [A9g] at hp <;> simp only [aop] at hres ⊢
  case mv=>cases hres;rfl
  all_goals
    simp only [Option.bind_eq_some_iff,Option.some.injEq,Prod.mk.injEq] at hres
    obtain ⟨_,h1,rfl,rfl⟩:=hres
    rw [h1];rfl
def A8E:AOp → Bool
  | .load1 _ | .loadN ..=>true
  | _=>false
theorem C6Q {E:B0} {q:Bool} {n0:Nat} {slot:Option Nat} {o:AOp} {e:Env} {h:A0} {v:Val} (hp:A8E o=true) (hr:A1a h o e=some v):aop E q h n0 slot o e h (fun v h=>some (v,h))=some (v,h):=by
  cases o <;> simp [A8E] at hp <;> simp only [A1a] at hr <;> simp only [aop,hr] <;> rfl
theorem D1u {o:AOp} {e e':Env} {h:A0} (he:∀ x ∈ o.opds,e.ev x=e'.ev x):A1a h o e=A1a h o e':=by
  cases o <;> simp only [AOp.opds] at he <;> simp only [A1a]
  · rw [he _ (by simp)]
  · rw [he _ (by simp)]
def B3l:AOp → AOp → Bool
  | .load1 (.t a),.load1 (.t b)=>decide (a=b)
  | .loadN n (.t a),.loadN m (.t b)=>decide (n=m) && decide (a=b)
  | _,_=>false
theorem D2f {o p:AOp} (h:B3l o p=true):o=p ∧ A8E p=true:=by
  unfold B3l at h
  split at h
  · have:=of_decide_eq_true h;subst this;exact ⟨rfl,rfl⟩
  · rw [Bool.and_eq_true] at h
    have h1:=of_decide_eq_true h.1
    have h2:=of_decide_eq_true h.2
    subst h1 h2;exact ⟨rfl,rfl⟩
  · cases h
def B1L (s:AOper) (chk:List (Nat × AOp)) (o:AOper):Bool :=
  decide (o.guard=none) && decide (o.slot=none) && !J6 o.op && !N0 o.op &&
  (match o.dst with
   | some d=>!(s.reads.contains d) && (A9g o.op || chk.any fun c=>decide (c.1=d) && B3l c.2 o.op)
   | none=>false) &&
  (match s.dst with | some d=>!(o.reads.contains d) | none=>true)
def B1O (ops:Array Oper) (l:List AOper) (s:AOper) (chk:List (Nat × AOp)) (r:List AOper):Bool :=
  let cl:=K6 ops
  l.zipIdx.all (fun p=>(cl.getD l.length 0).testBit p.2 || B1L s chk p.1) &&
  l.all (fun o=>match s.dst with | some d=>decide (o.dst ≠ some d) | none=>true) &&
  l.zipIdx.all (fun p=>l.zipIdx.all fun q=>match q.1.dst with | some d=>!(p.1.reads.contains d) || ((cl.getD p.2 0).testBit q.2 && decide (q.2 < p.2)) | none=>true) &&
  A5y ops (l.length + 1) r.length
def B0C (ops:Array Oper) (l:List AOper):Prop:=∀ (i j:Nat) ai aj d,l[i]? = some ai → l[j]? = some aj → aj.dst=some d → d ∈ ai.reads → ((K6 ops).getD i 0).testBit j=true ∧ j < i
structure Float1 (s:AOper) (chk:List (Nat × AOp)) (o:AOper):Prop where
  guard:o.guard=none
  slot:o.slot=none
  call:J6 o.op=false
  N0:N0 o.op=false
  dst:∃ d,o.dst=some d ∧ d ∉ s.reads ∧ (A9g o.op=true ∨ (A8E o.op=true ∧ (d,o.op) ∈ chk))
  reads:∀ d,s.dst=some d → d ∉ o.reads
theorem C7r {s:AOper} {chk:List (Nat × AOp)} {o:AOper} (h:B1L s chk o=true):Float1 s chk o:=by
  simp only [B1L,Bool.and_eq_true,decide_eq_true_eq,Bool.not_eq_true'] at h
  obtain ⟨⟨⟨⟨⟨h1,h2⟩,h3⟩,h4⟩,h5⟩,h6⟩:=h
  refine ⟨h1,h2,h3,h4,?_,fun d hd=>?_⟩
  · split at h5
    · rename_i d hd
      simp only [Bool.and_eq_true,Bool.not_eq_true',Bool.or_eq_true] at h5
      refine ⟨d,hd,fun hm=>?_,?_⟩
      · have:=h5.1
        rw [List.contains_iff_mem.2 hm] at this;cases this
      · rcases h5.2 with h | h
        · exact .inl h
        · right
          rw [List.any_eq_true] at h
          obtain ⟨c,hc,h⟩:=h
          simp only [Bool.and_eq_true,decide_eq_true_eq] at h
          obtain ⟨e1,e2⟩:=D2f h.2
          refine ⟨e2,?_⟩
          have:c=(d,o.op):=by cases c;simp at h e1;simp [h.1,e1]
          rw [← this];exact hc
    · cases h5
  · rw [hd] at h6
    simp only [Bool.not_eq_true'] at h6
    intro hm
    rw [List.contains_iff_mem.2 hm] at h6;cases h6
theorem B4Q {R:Type} {e:Env} {h:A0} {k:Option R} {res:R}:∀ {l:List (Nat × AOp)},again l e h k=some res → k=some res ∧ ∀ c ∈ l,A1a h c.2 e=some (e.get c.1)
  | [],hr=>⟨hr,by simp⟩
  | c :: l,hr=>by
    rw [B4O] at hr
    unfold agn at hr
    split at hr
    · rename_i hc
      obtain ⟨h1,h2⟩:=B4Q hr
      exact ⟨h1,fun x hx=>by rcases List.mem_cons.1 hx with e | hx;subst e;exact hc;exact h2 x hx⟩
    · cases hr
structure Sim2 (Γ:Ctx) (l:List AOper) (s:AOper) (n0 N:Nat) (e:Env) (vs:Nat → Val) (v:Val) (μ0:Mu) (done:Nat → Bool) (h2:A0) (μ:Mu) (a:Act) (w:World):Prop where
  envD:∀ (i:Nat) ao d,l[i]? = some ao → done i=true → ao.dst=some d → RV μ (vs i) (a.tmps.getD d undef)
  envO:∀ t,(∀ (i:Nat) ao,l[i]? = some ao → done i=true → ao.dst ≠ some t) → s.dst ≠ some t → RV μ (e.get t) (a.tmps.getD t undef)
  envS:∀ d,s.dst=some d → RV μ v (a.tmps.getD d undef)
  inv:Inv Γ μ h2 w
  le:μ0.le μ
  keep:∀ id,id < n0 → μ id = μ0 id
  size:N ≤ a.tmps.size
  defers:a.defers=[]
theorem A5I {a:Act} {dst:Option Nat} {V:Value} {t:Nat} (h:dst ≠ some t):(a.put dst V).tmps.getD t undef=a.tmps.getD t undef:=by
  cases hd:dst with
  | none=>rfl
  | some d =>
    rw [hd] at h
    simp [Act.put,Array.getElem?_setIfInBounds_ne (show d ≠ t from fun e=>h (by rw [e]))]
theorem B7p {a:Act} {d N:Nat} {V:Value} (h:A0p N (some d)=true) (hN:N ≤ a.tmps.size):(a.put (some d) V).tmps.getD d undef=V:=by
  have hlt:d < a.tmps.size:=by
    simp [A0p] at h
    exact Nat.lt_of_lt_of_le h hN
  simp [Act.put,Array.getD,hlt]
section
variable {P:Program} {N m:Nat} {ops:Array Oper} {l r:List AOper} {s:AOper} {chk:List (Nat × AOp)} {E:B0} {hr:A0} {e:Env} {es:Nat → Env} {hs:Nat → A0} {vs:Nat → Val} {Γ:Ctx} {μ0:Mu}
theorem C8z (D:DrawOk P N ops m l (s :: r)) (hR:B0C ops l) (ht:Trace E hr hr.length l es hs vs) (he:es 0=e) {i t:Nat} {ao:AOper} (ha:l[i]? = some ao) (hm:t ∈ ao.reads):(es l.length).get t=(es i).get t:=by
  have hil:i < l.length:=(List.getElem?_eq_some_iff.1 ha).1
  by_cases hw:∃ (j:Nat) (aj:AOper),l[j]? = some aj ∧ aj.dst=some t
  · obtain ⟨j,aj,haj,hd⟩:=hw
    obtain ⟨_,h2⟩:=hR i j ao aj t ha haj hd hm
    rw [A1t D ht haj hd i h2 (by omega),A1t D ht haj hd l.length (by omega) (Nat.le_refl _)]
  · have hno:∀ (j:Nat) (aj:AOper),l[j]? = some aj → aj.dst ≠ some t:=fun j aj haj hd=>hw ⟨j,aj,haj,hd⟩
    rw [A1s ht he i (by omega) fun j aj _ haj=>hno j aj haj,A1s ht he l.length (Nat.le_refl _) fun j aj _ haj=>hno j aj haj]
theorem D2n (D:DrawOk P N ops m l (s :: r)) (hR:B0C ops l) (hE:N7 P E) (ht:Trace E hr hr.length l es hs vs) (he:es 0=e) {v:Val} {h2:A0} (hag:∀ c ∈ chk,A1a h2 c.2 (es l.length)=some ((es l.length).get c.1))
    {done:Nat → Bool} {μ:Mu} {a:Act} {w:World} (S:Sim2 Γ l s hr.length N e vs v μ0 done h2 μ a w) {i:Nat} {ao:AOper} {o:Oper} (ha:l[i]? = some ao) (ho:ops[i]? = some o) (hnd:done i=false) (hf:Float1 s chk ao)
    (hdist:∀ (k:Nat) ak d,l[k]? = some ak → s.dst=some d → ak.dst ≠ some d)
    (hah:∀ b,((K6 ops).getD i 0).testBit b=true → done b=true)
    {next:Act → World → Prop} {Q:Exit → Act → World → Prop} (hn:∀ V w' μ',Sim2 Γ l s hr.length N e vs v μ0 (I1 done i) h2 μ' (a.put o.dst V) w' → next (a.put o.dst V) w') :
    if Region.wanted o (yielded ops a.tmps) then o.wp P a w next Q ∨ (o.asks P a w ∧ LetsOut Q) else next (a.put o.dst undef) w:=by
  have hil:i < l.length:=(List.getElem?_eq_some_iff.1 ha).1
  have hco:R1 P N ops o ao=true:=D.oper i o ao ho (by rw [List.getElem?_append_left hil];exact ha)
  have hdst:o.dst=ao.dst ∧ A0p N o.dst=true:=by
    simp only [R1,Bool.and_eq_true,decide_eq_true_eq] at hco
    exact ⟨hco.1.1.1,hco.1.1.2⟩
  obtain ⟨d,hd,hds,hkind⟩:=hf.dst
  have henv:SEnv μ ((es i).keep ao.reads) a:=by
    intro t
    rw [Env.get_keep_mem]
    split
    · rename_i hmem
      by_cases hw:∃ (j:Nat) (aj:AOper),l[j]? = some aj ∧ aj.dst=some t
      · obtain ⟨j,aj,haj,hdj⟩:=hw
        obtain ⟨h1,h3⟩:=hR i j ao aj t ha haj hdj hmem
        rw [A1t D ht haj hdj i h3 (by omega)]
        exact S.envD j aj t haj (hah j h1) hdj
      · have hno:∀ (j:Nat) (aj:AOper),l[j]? = some aj → aj.dst ≠ some t:=fun j aj haj hd=>hw ⟨j,aj,haj,hd⟩
        rw [A1s ht he i (by omega) fun j aj _ haj=>hno j aj haj]
        exact S.envO t (fun j aj haj _=>hno j aj haj) fun hst=>hf.reads t hst hmem
    · trivial
  have hstep:=ht.step i ao ha
  have hone:I2 E true h2 hr.length ao (es i) h2 (fun v h=>some (v,h))=some (vs i,h2):=by
    unfold I2 at hstep ⊢
    rw [hf.guard] at hstep ⊢
    simp only at hstep ⊢
    rcases hkind with hp | ⟨hp,hmem⟩
    · exact C6S hp hstep _ _ _ _ _
    · refine C6Q hp ?_
      have h1:=hag _ hmem
      simp only at h1
      rw [A1t D ht ha hd l.length hil (Nat.le_refl _)] at h1
      rw [← h1]
      refine D1u fun x hx=>?_
      cases x with
      | v x=>rfl
      | t n=>exact (C8z D hR ht he ha (List.mem_append_left _ (List.mem_filterMap.2 ⟨.t n,hx,rfl⟩))).symm
  rw [B1s (e':=(es i).keep ao.reads) fun t ht'=>by rw [Env.get_keep_mem,if_pos ht']] at hone
  refine A5r (hr:=h2) (n0:=hr.length) hE hco hone henv S.inv (fun _ _ h=>h) (by rw [hf.slot];trivial) ?_
  intro V w' μ' hle hv hinv hkeep
  rw [hf.slot] at hkeep
  refine hn V w' μ' ⟨?_,?_,?_,hinv,Mu.le_trans S.le hle,?_,by rw [Act.size_put];exact S.size,by rw [put_defers];exact S.defers⟩
  · intro k ak d' hak hdk hd'
    by_cases e1:k=i
    · subst e1
      rw [ha] at hak;cases hak
      rw [hdst.1,hd']
      rw [B7p (by rw [← hd',← hdst.1];exact hdst.2) S.size]
      exact hv
    · rw [N2 _ _ e1] at hdk
      rw [A5I (by rw [hdst.1];exact fun h=>(D.apart i k ao ak ha hak (Ne.symm e1)).1 d' h hd')]
      exact (S.envD k ak d' hak hdk hd').mono hle
  · intro t hno hst
    have h1:=hno i ao ha (A2m _ _)
    rw [A5I (by rw [hdst.1];exact h1)]
    refine (S.envO t (fun k ak hak hdk=>?_) hst).mono hle
    by_cases e1:k=i
    · subst e1;rw [hnd] at hdk;cases hdk
    · exact hno k ak hak (by rw [N2 _ _ e1];exact hdk)
  · intro d' hd'
    rw [A5I (by rw [hdst.1];exact hdist i ao d' ha hd')]
    exact (S.envS d' hd').mono hle
  · intro id hid
    by_cases hl:id < h2.length
    · rw [← S.keep id hid]
      exact hkeep id hl fun j hj=>by cases hj
    · have h1:=S.inv.dom id (by omega)
      have h3:=S.keep id hid
      rw [h1] at h3
      have h4:=hinv.dom id (by omega)
      rw [h4,← h3]
end
theorem C7H {P:Program} {N L:Nat} {ops:Array Oper} {m id:Nat} {l r:List AOper} {s:AOper} {chk:List (Nat × AOp)} {E:B0} (hE:N7 P E) {e:Env} {h:A0} {R:Type} {k:Env → A0 → Option R} {res:R}
    (hc:A3p P N ops m l (s :: r)=true) (hcs:B1O ops l s chk r=true) (hL:L ≤ h.length)
    (hres:A0Q E h h.length l e (h ++ List.replicate m none) (fun e h=>I2 E false h 0 s e h fun v h2=>again chk e h2 (S8 E r (e.put s.dst v) h2 k))=some res) :
    ∃ e' h',k e' h'=some res ∧ L ≤ h'.length ∧ StepsTo P N L ((Code.region id ops true).wp P) e h .normal e' h':=by
  have D:=B5Y hc
  simp only [B1O,Bool.and_eq_true,List.all_eq_true] at hcs
  obtain ⟨⟨⟨hfl,hdi⟩,hrd0⟩,hla⟩:=hcs
  have hR:B0C ops l:=by
    intro i j ai aj d hi hj hd hr
    have:=hrd0 (ai,i) (mem_zipIdx hi) (aj,j) (mem_zipIdx hj)
    simp only [hd,Bool.or_eq_true,Bool.not_eq_true',Bool.and_eq_true,decide_eq_true_eq] at this
    rcases this with this | this
    · have hc:ai.reads.contains d=true:=by simpa using hr
      rw [hc] at this;cases this
    · exact this
  have hsz:ops.size=l.length + (r.length + 1):=by rw [D.size];simp
  have last:=B50 hla (by rw [hsz];omega)
  have hfloat:∀ (i:Nat) ao,l[i]? = some ao → ((K6 ops).getD l.length 0).testBit i=false → Float1 s chk ao:=by
    intro i ao ha hb
    have:=hfl (ao,i) (mem_zipIdx ha)
    simp only [Bool.or_eq_true] at this
    rcases this with h | h
    · rw [hb] at h;cases h
    · exact C7r h
  have hdist:∀ (k:Nat) ak d,l[k]? = some ak → s.dst=some d → ak.dst ≠ some d:=by
    intro k ak d hak hd
    have:=hdi ak (List.mem_of_getElem? hak)
    rw [hd] at this
    simpa using this
  obtain ⟨es,hs,vs,he,h0,ht,hk⟩:=B3A l _ _ hres
  rw [B46] at hk
  simp only [Option.bind_eq_some_iff] at hk
  obtain ⟨⟨v,h2⟩,hone,hk⟩:=hk
  obtain ⟨hk,hag⟩:=B4Q hk
  simp only at hk hag
  have hnl:l.length < ops.size:=by omega
  have hos:ops[l.length]? = some ops[l.length]:=by simp [hnl]
  have hcos:R1 P N ops ops[l.length] s=true:=D.oper l.length _ s hos (by rw [List.getElem?_append_right (Nat.le_refl _)];simp)
  have hsslot:s.slot=none:=D.rslot s (by simp)
  have hsdst:ops[l.length].dst=s.dst ∧ A0p N ops[l.length].dst=true:=by
    have:=hcos
    simp only [R1,Bool.and_eq_true,decide_eq_true_eq] at this
    exact ⟨this.1.1.1,this.1.1.2⟩
  have hrlist:All2 (fun i ao=>∃ o,ops[i]? = some o ∧ R1 P N ops o ao=true ∧ ao.slot=none) (List.range' (l.length + 1) r.length) r:=by
    refine All2.of_get (by simp) fun i x ao hx hao=>?_
    have hi:i < r.length:=(List.getElem?_eq_some_iff.1 hao).1
    rw [List.getElem?_range' hi] at hx
    simp at hx
    subst hx
    have hlt:l.length + 1 + i < ops.size:=by omega
    refine ⟨ops[l.length + 1 + i],by simp [hlt],?_,D.rslot ao (List.mem_cons_of_mem _ (List.mem_of_getElem? hao))⟩
    refine D.oper (l.length + 1 + i) _ ao (by simp [hlt]) ?_
    rw [List.getElem?_append_right (by omega),show l.length + 1 + i - l.length=i + 1 by omega]
    simpa using hao
  have hbl:=Z4 D ht h0 (k:=l.length) (Nat.le_refl _)
  have hl2:=B47 hE hone
  obtain ⟨e',h',hk',hL',hst⟩:=A7J (L:=L) hE _ r ((es l.length).put s.dst v) h2 k res hrlist hk (by omega)
  refine ⟨e',h',hk',hL',fun Γ μ0 a w hs0 hi hN hd Q hq=>wp_region_any D.follows ?_⟩
  have whole:∀ (listed:Array Bool) (a:Act) (w:World) (μ:Mu),Sim2 Γ l s h.length N e vs v μ0 (fun i=>listed.getD i false) h2 μ a w → (∀ j,j < l.length → listed.getD j false=true) → wpOps P ops Q (List.range' (l.length + 1) r.length) a w:=by
    intro listed a w μ S hall
    have henv:SEnv μ ((es l.length).put s.dst v) a:=by
      intro t
      have main:s.dst ≠ some t → RV μ ((es l.length).get t) (a.tmps.getD t undef):=by
        intro hne
        by_cases hw:∃ (j:Nat) (aj:AOper),l[j]? = some aj ∧ aj.dst=some t
        · obtain ⟨j,aj,haj,hdj⟩:=hw
          have hjl:=(List.getElem?_eq_some_iff.1 haj).1
          rw [A1t D ht haj hdj l.length hjl (Nat.le_refl _)]
          exact S.envD j aj t haj (hall j hjl) hdj
        · have hno:∀ (j:Nat) (aj:AOper),l[j]? = some aj → aj.dst ≠ some t:=fun j aj haj hdj=>hw ⟨j,aj,haj,hdj⟩
          rw [A1s ht he l.length (Nat.le_refl _) fun j aj _ haj=>hno j aj haj]
          exact S.envO t (fun j aj haj _=>hno j aj haj) hne
      cases hsd:s.dst with
      | none=>exact main (by rw [hsd];simp)
      | some d =>
        by_cases e1:d=t
        · subst e1
          rw [Env.get_put_same];exact S.envS d hsd
        · rw [Env.get_put_other _ _ _ _ e1]
          exact main (by rw [hsd];simpa using e1)
    exact hst Γ μ a w henv S.inv S.size S.defers Q fun μ' a' w' g1 g2 g3 g4 g5 g6=>hq μ' a' w' (Mu.le_trans S.le g1) (fun id hid=>(g2 id hid).trans (S.keep id (by omega))) g3 g4 g5 g6
  have main2:∀ (fuel:Nat) (listed:Array Bool) (a:Act) (w:World) (μ:Mu),listed.size=ops.size → left ops.size listed ≤ fuel → listed.getD l.length false=true →
      (∀ j,l.length < j → j < ops.size → listed.getD j false=false) → (∀ (j:Nat) ao,l[j]? = some ao → listed.getD j false=false → Float1 s chk ao) →
      (∀ (i:Nat) (o:Oper),ops[i]? = some o → listed.getD i false=true → ∀ p ∈ R4 o,listed.getD p false=true) →
      Sim2 Γ l s h.length N e vs v μ0 (fun i=>listed.getD i false) h2 μ a w → wpAny P .any ops Q fuel listed a w:=by
    intro fuel
    induction fuel with
    | zero =>
      intro listed a w μ hls hleft hsd hbeyond hfl2 hclosed S
      have hall:∀ j,j < ops.size → listed.getD j false=true:=by
        intro j hj
        cases hv:listed.getD j false with
        | true=>rfl
        | false =>
          have hm:j ∈ (List.range ops.size).filter fun i=>!listed.getD i false:=by rw [List.mem_filter];exact ⟨by simpa using hj,by rw [hv];rfl⟩
          have:=List.length_pos_of_mem hm
          unfold left at hleft
          omega
      have hr0:r.length=0:=by
        cases hr:r.length with
        | zero=>rfl
        | succ x =>
          have h1:=hall (l.length + 1) (by omega)
          have h3:=hbeyond (l.length + 1) (by omega) (by omega)
          rw [h1] at h3;cases h3
      refine A5q D.dir last 0 (l.length + 1) 0 listed a w (by omega) (Nat.le_refl _) hls (fun j hj=>?_) (Nat.le_refl _) ?_
      · rw [hall j hj]
        have:j < l.length + 1:=by omega
        simp [this]
      · have:=whole listed a w μ S fun j hj=>hall j (by omega)
        rw [hr0] at this
        exact this
    | succ fuel ih =>
      intro listed a w μ hls hleft hsd hbeyond hfl2 hclosed S
      by_cases hall:∀ j,j < l.length → listed.getD j false=true
      · refine A5q D.dir last r.length (l.length + 1) (fuel + 1) listed a w (by omega) (Nat.le_refl _) hls (fun j hj=>?_) ?_ (whole listed a w μ S hall)
        · by_cases hjl:j < l.length + 1
          · have:listed.getD j false=true:=by
              by_cases e1:j=l.length
              · subst e1;exact hsd
              · exact hall j (by omega)
            rw [this];simp [hjl]
          · rw [hbeyond j (by omega) hj];simp [hjl]
        · refine Nat.le_trans ?_ hleft
          unfold left
          have:((List.range ops.size).filter fun i=>!listed.getD i false)=List.range' (l.length + 1) r.length:=by
            rw [show ops.size=(l.length + 1) + r.length by omega,List.range_add,List.filter_append]
            have e1:(List.range (l.length + 1)).filter (fun i=>!listed.getD i false)=[]:=by
              rw [List.filter_eq_nil_iff]
              intro j hj
              have hj:j < l.length + 1:=by simpa using hj
              have:listed.getD j false=true:=by
                by_cases e1:j=l.length
                · subst e1;exact hsd
                · exact hall j (by omega)
              rw [this]
              simp
            rw [e1,List.nil_append,List.range'_eq_map_range,List.filter_eq_self.2]
            intro j hj
            obtain ⟨x,hx,rfl⟩:=List.mem_map.1 hj
            rw [hbeyond _ (by omega) (by simp at hx;omega)]
            rfl
          rw [this];simp
      · have hex:∃ j,j < l.length ∧ listed.getD j false=false:=by
          false_or_by_contra
          rename_i hn
          exact hall fun j hj=>by
            cases hv:listed.getD j false with
            | true=>rfl
            | false=>exact absurd ⟨j,hj,hv⟩ hn
        obtain ⟨j,hj,hv⟩:=hex
        refine ⟨fun hre=>absurd hre (A9o D.dir hls j (by omega) hv),fun i hi=>?_⟩
        obtain ⟨o,ho,h3,h4⟩:=A3M.1 hi
        have hin:=(Array.getElem?_eq_some_iff.1 ho).1
        rw [getD_both (by omega)] at h3
        have hah:=A3k (done:=fun i=>listed.getD i false) D.dir hclosed i o ho h4
        have hil:i < l.length:=by
          by_cases e1:i < l.length
          · exact e1
          · by_cases e2:i=l.length
            · subst e2;rw [hsd] at h3;cases h3
            · have:=hah j (last i (by omega) hin j (by omega))
              try simp only at this
              rw [hv] at this;cases this
        have hao:=List.getElem?_eq_getElem hil
        have hstep:=D2n D hR hE ht he hag S (i:=i) (ao:=l[i]) (o:=o) hao ho h3 (hfl2 i l[i] hao h3) hdist hah
          (next:=wpAny P .any ops Q fuel (listed.setIfInBounds i true)) (Q:=Q) (by
            intro V w' μ' S'
            rw [← S3 (by omega)] at S'
            refine ih (listed.setIfInBounds i true) _ w' μ' (by simpa using hls) (by have:=A8K hin hls h3;omega) ?_ ?_ ?_ ?_ S'
            · have:=congrFun (S3 (listed:=listed) (i:=i) (by omega)) l.length
              try simp only at this
              rw [this,N2 _ _ (by omega)]
              exact hsd
            · intro k hk hkn
              have:=congrFun (S3 (listed:=listed) (i:=i) (by omega)) k
              try simp only at this
              rw [this,N2 _ _ (by omega)]
              exact hbeyond k hk hkn
            · intro k ak hak hdk
              have e1:=congrFun (S3 (listed:=listed) (i:=i) (by omega)) k
              try simp only at e1
              rw [e1] at hdk
              by_cases e2:k=i
              · subst e2;rw [A2m] at hdk;cases hdk
              · rw [N2 _ _ e2] at hdk;exact hfl2 k ak hak hdk
            · intro k ok hok hdk p hp
              have e1:=congrFun (S3 (listed:=listed) (i:=i) (by omega)) k
              have e2:=congrFun (S3 (listed:=listed) (i:=i) (by omega)) p
              try simp only at e1 e2
              rw [e1] at hdk
              rw [e2]
              have hdone:listed.getD p false=true:=by
                by_cases e3:k=i
                · subst e3;rw [ho] at hok;cases hok;exact h4 p hp
                · rw [N2 _ _ e3] at hdk
                  exact hclosed k ok hok hdk p hp
              unfold I1
              show (decide (p=i) || listed.getD p false)=true
              rw [hdone];simp)
        unfold wpOp
        rw [ho]
        exact hstep
  have main:∀ (fuel:Nat) (listed:Array Bool) (a:Act) (w:World) (q:Nat) (μ:Mu),listed.size=ops.size → left ops.size listed ≤ fuel →
      (∀ j,l.length ≤ j → j < ops.size → listed.getD j false=false) → (∀ (i:Nat) (o:Oper),ops[i]? = some o → listed.getD i false=true → ∀ p ∈ R4 o,listed.getD p false=true) →
      Sim Γ l h.length N e es hs vs μ0 (fun i=>listed.getD i false) q μ a w → wpAny P .any ops Q fuel listed a w:=by
    intro fuel
    induction fuel with
    | zero =>
      intro listed a w q μ hls hleft hbeyond hclosed S
      have hv:=hbeyond l.length (Nat.le_refl _) hnl
      have hm:l.length ∈ (List.range ops.size).filter fun i=>!listed.getD i false:=by rw [List.mem_filter];exact ⟨by simpa using hnl,by rw [hv];rfl⟩
      have:=List.length_pos_of_mem hm
      unfold left at hleft
      omega
    | succ fuel ih =>
      intro listed a w q μ hls hleft hbeyond hclosed S
      have hv:=hbeyond l.length (Nat.le_refl _) hnl
      refine ⟨fun hre=>absurd hre (A9o D.dir hls l.length hnl hv),fun i hi=>?_⟩
      obtain ⟨o,ho,h3,h4⟩:=A3M.1 hi
      have hin:=(Array.getElem?_eq_some_iff.1 ho).1
      rw [getD_both (by omega)] at h3
      have hah:=A3k (done:=fun i=>listed.getD i false) D.dir hclosed i o ho h4
      have hcl:∀ k,listed.getD k false=true → ∀ b,((K6 ops).getD k 0).testBit b=true → listed.getD b false=true:=by
        intro k hk b hb
        by_cases hkn:k < ops.size
        · have hok:ops[k]? = some ops[k]:=by simp [hkn]
          exact A3k (done:=fun i=>listed.getD i false) D.dir hclosed k _ hok (hclosed k _ hok hk) b hb
        · have:listed.getD k false=false:=by simp [Array.getD,show ¬ k < listed.size by omega]
          rw [this] at hk;cases hk
      have hclosed':∀ k ok,ops[k]? = some ok → (listed.setIfInBounds i true).getD k false=true → ∀ p ∈ R4 ok,(listed.setIfInBounds i true).getD p false=true:=by
        intro k ok hok hdk p hp
        have e1:=congrFun (S3 (listed:=listed) (i:=i) (by omega)) k
        have e2:=congrFun (S3 (listed:=listed) (i:=i) (by omega)) p
        try simp only at e1 e2
        rw [e1] at hdk
        rw [e2]
        have hdone:listed.getD p false=true:=by
          by_cases e3:k=i
          · subst e3;rw [ho] at hok;cases hok;exact h4 p hp
          · rw [N2 _ _ e3] at hdk
            exact hclosed k ok hok hdk p hp
        unfold I1
        show (decide (p=i) || listed.getD p false)=true
        rw [hdone];simp
      by_cases hil:i < l.length
      · have hstep:=C0t D hE ht h0 he S (i:=i) (ao:=l[i]) (o:=o) (List.getElem?_eq_getElem hil) ho h3 hah hcl
          (next:=wpAny P .any ops Q fuel (listed.setIfInBounds i true)) (Q:=Q) (by
            intro V w' μ' q' S'
            rw [← S3 (by omega)] at S'
            refine ih (listed.setIfInBounds i true) _ w' q' μ' (by simpa using hls) (by have:=A8K hin hls h3;omega) ?_ hclosed' S'
            intro k hk hkn
            have:=congrFun (S3 (listed:=listed) (i:=i) (by omega)) k
            try simp only at this
            rw [this,N2 _ _ (by omega)]
            exact hbeyond k hk hkn)
        unfold wpOp
        rw [ho]
        exact hstep
      · have hie:i=l.length:=by
          by_cases e1:i=l.length
          · exact e1
          · have:=hah l.length (last i (by omega) hin l.length (by omega))
            try simp only at this
            rw [hv] at this;cases this
        subst hie
        have hoo:o=ops[l.length]:=by rw [hos] at ho;cases ho;rfl
        have hdone:∀ (j:Nat) aj,l[j]? = some aj → listed.getD j false=false → Float1 s chk aj:=by
          intro j aj haj hdj
          refine hfloat j aj haj ?_
          cases hb:((K6 ops).getD l.length 0).testBit j with
          | false=>rfl
          | true =>
            have:=hah j hb
            try simp only at this
            rw [hdj] at this;cases this
        have hlen:(hs l.length).length=(hs q).length:=by
          have hql:=S.qle
          have:=A5Q D ht (q:=q) (l.length - q) (by omega) fun k ak h1 h2 hak=>by
            cases hck:J6 ak.op with
            | false=>rfl
            | true =>
              have hd1:listed.getD k false=true:=by
                cases hd2:listed.getD k false with
                | true=>rfl
                | false=>have:=(hdone k ak hak hd2).call;rw [hck] at this;cases this
              have:=(S.calls k ak hak hck).1 hd1
              omega
          rwa [show q + (l.length - q)=l.length by omega] at this
        have hheap:HD (hs l.length) (und l h.length fun i=>listed.getD i false) (hs q).length=hs l.length:=by
          refine A1w (by rw [I7,hlen]) fun id hid=>?_
          rw [I7] at hid
          have hu:und l h.length (fun i=>listed.getD i false) id=false:=by
            cases hu:und l h.length (fun i=>listed.getD i false) id with
            | false=>rfl
            | true =>
              obtain ⟨k,hk,ao,j,hak,hj,_⟩:=N6.1 hu
              have:=(hdone k ao hak hk).slot
              rw [hj] at this;cases this
          rw [Q5,if_pos ⟨hid,hu⟩]
        have hinv:=S.inv
        rw [hheap] at hinv
        have henv:SEnv μ ((es l.length).keep s.reads) a:=by
          intro t
          rw [Env.get_keep_mem]
          split
          · rename_i hmem
            by_cases hw:∃ (j:Nat) (aj:AOper),l[j]? = some aj ∧ aj.dst=some t
            · obtain ⟨j,aj,haj,hdj⟩:=hw
              have hjl:=(List.getElem?_eq_some_iff.1 haj).1
              rw [A1t D ht haj hdj l.length hjl (Nat.le_refl _)]
              refine S.envD j aj t haj ?_ hdj
              cases hd2:listed.getD j false with
              | true=>rfl
              | false =>
                obtain ⟨d,h5,h6,_⟩:=(hdone j aj haj hd2).dst
                rw [hdj] at h5;cases h5
                exact absurd hmem h6
            · have hno:∀ (j:Nat) (aj:AOper),l[j]? = some aj → aj.dst ≠ some t:=fun j aj haj hdj=>hw ⟨j,aj,haj,hdj⟩
              rw [A1s ht he l.length (Nat.le_refl _) fun j aj _ haj=>hno j aj haj]
              exact S.envO t fun j aj haj _=>hno j aj haj
          · trivial
        have hone':=hone
        rw [B1s (e':=(es l.length).keep s.reads) fun t ht'=>by rw [Env.get_keep_mem,if_pos ht']] at hone'
        unfold wpOp
        rw [ho]
        subst hoo
        refine A5r (hr:=hs l.length) (n0:=0) hE hcos hone' henv hinv (fun _ _ h=>h) (by rw [hsslot];trivial) ?_
        intro V w' μ' hle hv' hinv' hkeep
        rw [hsslot] at hkeep
        have halso:=S3 (listed:=listed) (i:=l.length) (by omega)
        refine main2 fuel (listed.setIfInBounds l.length true) _ w' μ' (by simpa using hls) (by have:=A8K hin hls h3;omega) ?_ ?_ ?_ hclosed' ?_
        · have:=congrFun halso l.length
          try simp only at this
          rw [this];exact A2m _ _
        · intro k hk hkn
          have:=congrFun halso k
          try simp only at this
          rw [this,N2 _ _ (by omega)]
          exact hbeyond k (by omega) hkn
        · intro k ak hak hdk
          have hkl:=(List.getElem?_eq_some_iff.1 hak).1
          have:=congrFun halso k
          try simp only at this
          rw [this,N2 _ _ (by omega)] at hdk
          exact hdone k ak hak hdk
        · have hsame:∀ k:Nat,k < l.length → (listed.setIfInBounds l.length true).getD k false=listed.getD k false:=by
            intro k hkl
            have:=congrFun halso k
            try simp only at this
            rw [this,N2 _ _ (by omega)]
          refine ⟨?_,?_,?_,hinv',Mu.le_trans S.le hle,?_,by rw [Act.size_put];exact S.size,by rw [put_defers];exact S.defers⟩
          · intro k ak d hak hdk hd
            have hkl:=(List.getElem?_eq_some_iff.1 hak).1
            try simp only at hdk
            rw [hsame k hkl] at hdk
            rw [A5I (by rw [hsdst.1];exact fun h=>hdist k ak d hak h hd)]
            exact (S.envD k ak d hak hdk hd).mono hle
          · intro t hno hst
            rw [A5I (by rw [hsdst.1];exact hst)]
            refine (S.envO t fun k ak hak hdk=>hno k ak hak ?_).mono hle
            have hkl:=(List.getElem?_eq_some_iff.1 hak).1
            try simp only
            rw [hsame k hkl];exact hdk
          · intro d hd
            rw [hsdst.1,hd,B7p (by rw [← hd,← hsdst.1];exact hsdst.2) S.size]
            exact hv'
          · intro id hid
            rw [← S.keep id hid]
            exact hkeep id (by omega) fun j hj=>by cases hj
  have hgd:∀ i:Nat,(Array.replicate ops.size false).getD i false=false:=by intro i;simp [Array.getD]
  have hfun:(fun i=>(Array.replicate ops.size false).getD i false)=fun _=>false:=funext hgd
  refine main ops.size (Array.replicate ops.size false) a _ 0 μ0 (by simp) ?_ (fun j _ _=>hgd j) (fun i o _ hd=>by rw [hgd] at hd;cases hd) ?_
  · unfold left;exact Nat.le_trans (List.length_filter_le _ _) (by simp)
  · rw [hfun]
    have hpad:HD (hs l.length) (und l h.length fun _=>false) (hs 0).length=h ++ List.replicate m none:=by
      rw [h0]
      refine A1w (by rw [I7]) fun id hid=>?_
      rw [I7] at hid
      rw [Q5]
      by_cases ho:∃ i,L5 l h.length i id
      · obtain ⟨i,ho⟩:=ho
        have hu:und l h.length (fun _=>false) id=true:=N6.2 ⟨i,rfl,ho⟩
        rw [hu]
        have:=A3K D ht h0 ho 0 (Nat.zero_le _)
        rw [h0] at this
        rw [this];simp
      · have hno:∀ i,0 ≤ i → ¬ L5 l h.length i id:=fun i _ hi=>ho ⟨i,hi⟩
        have hu:und l h.length (fun _=>false) id=false:=by
          cases hu:und l h.length (fun _=>false) id with
          | false=>rfl
          | true=>obtain ⟨i,_,hi⟩:=N6.1 hu;exact absurd ⟨i,hi⟩ ho
        rw [if_pos ⟨hid,hu⟩]
        have:=A0B D ht (k:=0) (id:=id) (by rw [h0];exact hid) hno l.length (by omega)
        rw [Nat.zero_add,h0] at this
        exact this
    refine ⟨Nat.zero_le _,fun i ao _ _=>⟨fun h=>(by cases h),fun h=>(by omega)⟩,fun i ao d _ h=>(by cases h),fun t _=>hs0 t,?_,fun id hid=>?_,Mu.le_refl _,fun _ _=>rfl,hN,hd⟩
    · rw [hpad]
      exact (hi.pad m).world rfl rfl rfl fun _ _=>rfl
    · obtain ⟨i,_,ao,j,_,_,rfl⟩:=N6.1 hid
      exact hi.dom _ (by omega)
end Go.Esc
end
section
namespace Go.Esc
open Go
def A3o (P:Program) (N:Nat) (ops:Array Oper):List Oper → List AOper → Bool
  | [],[]=>true
  | o :: r,a :: l=>R1 P N ops o a && decide (a.slot=none) && A3o P N ops r l
  | _,_=>false
def P6 (P:Program) (N:Nat):Code → ACode → Bool
  | c,.skip=>(match c with | .skip=>true | _=>false)
  | c,.ops l=>(match c with | .region _ ops false=>A3o P N ops ops.toList l | _=>false)
  | c,.draw m l r=>(match c with | .region _ ops true=>A3p P N ops m l r && A5y ops l.length r.length | _=>false)
  | c,.drawS m l s chk r=>(match c with | .region _ ops true=>A3p P N ops m l (s :: r) && B1O ops l s chk r | _=>false)
  | c,.seq _ a b=>(match c with | .seq x y=>P6 P N x a && P6 P N y b | _=>false)
  | c,.cond q a b=>(match c with | .cond z x y=>C8 z q && P6 P N x a && P6 P N y b | _=>false)
  | c,.block id a=>(match c with | .block id' x=>decide (id'=id) && P6 P N x a | _=>false)
  | c,.loop _ a=>(match c with | .loop x=>P6 P N x a | _=>false)
  | c,.exit id=>(match c with | .exit id'=>decide (id'=id) | _=>false)
  | c,.ret=>(match c with | .ret=>true | _=>false)
def M5 (P:Program):List ResultVar → List ARes → Bool
  | [],[]=>true
  | .tmp t :: r,.tmp t' :: l=>decide (t=t') && M5 P r l
  | .cell t ty :: r,.cell1 t' :: l=>decide (t=t') && decide (H6 P ty=some false) && M5 P r l
  | .cell t ty :: r,.cellN t' n :: l=>decide (t=t') && decide (H6 P ty=some true) && decide (F2 P ty=some n) && M5 P r l
  | _,_=>false
def B1M (P:Program) (fn:Func) (f:AFn):Bool :=
  (match fn.body with | some c => P6 P fn.ntmps c f.code | none => false) && M5 P fn.results.toList f.res && !(fn.name == "runtime.NumGoroutine")
section
variable {P:Program} {R:Type}
theorem B5W {N:Nat} {ops:Array Oper}:∀ (pre:List Oper) (os:List Oper) (aos:List AOper),ops.toList=pre ++ os → A3o P N ops os aos=true →
    All2 (fun i ao=>∃ o,ops[i]? = some o ∧ R1 P N ops o ao=true ∧ ao.slot=none) (List.range' pre.length os.length) aos
  | pre,[],[],_,_=>trivial
  | pre,o :: os,ao :: aos,he,hc=>by
    simp only [A3o,Bool.and_eq_true,decide_eq_true_eq] at hc
    rw [List.length_cons,List.range'_succ]
    refine ⟨⟨o,?_,hc.1.1,hc.1.2⟩,?_⟩
    · rw [← Array.getElem?_toList,he];simp
    · have:=B5W (pre ++ [o]) os aos (by rw [he];simp) hc.2
      simpa using this
  | _,[],_ :: _,_,h=>by simp [A3o] at h
  | _,_ :: _,[],_,h=>by simp [A3o] at h
theorem StepsTo.keep {N L:Nat} {W:(Exit → Act → World → Prop) → Act → World → Prop} {e:Env} {h:A0} {x:AExit} {e':Env} {h':A0} (l:List Nat) (hs:StepsTo P N L W (e.keep l) h x e' h'):StepsTo P N L W e h x e' h' :=
  fun Γ μ a w h1=>hs Γ μ a w (h1.keep l)
theorem C6G {N L:Nat} {E:B0} (hE:N7 P E) (n:Nat):∀ (ac:ACode) (c:Code) (k:AExit → Env → A0 → Option R) (e:Env) (h:A0) (r:R),
    P6 P N c ac=true → aex E n ac k e h=some r → L ≤ h.length → ∃ x e' h',k x e' h'=some r ∧ L ≤ h'.length ∧ StepsTo P N L (c.wp P) e h x e' h':=by
  intro ac
  induction ac with
  | skip =>
    intro c k e h r hc hres hL
    unfold P6 at hc
    split at hc
    · exact ⟨.normal,e,h,hres,hL,fun Γ μ a w hs hi hN hd Q hq=>wp_skip (hq μ a w (Mu.le_refl _) (fun _ _=>rfl) hs hi hN hd)⟩
    · cases hc
  | ops l =>
    intro c k e h r hc hres hL
    unfold P6 at hc
    split at hc
    · rename_i id ops
      simp only [aex,B3s] at hres
      obtain ⟨e',h',hk,hL',hst⟩:=A7J hE _ l e h _ r (B5W [] ops.toList l rfl hc) hres hL
      refine ⟨.normal,e',h',hk,hL',fun Γ μ a w hs hi hN hd Q hq=>wp_region ?_⟩
      have:=hst Γ μ a w hs hi hN hd Q hq
      simpa [List.range_eq_range'] using this
    · cases hc
  | draw m l r' =>
    intro c k e h r hc hres hL
    unfold P6 at hc
    split at hc
    · rename_i id ops
      simp only [aex,B3q] at hres
      rw [Bool.and_eq_true] at hc
      obtain ⟨e',h',hk,hL',hst⟩:=C7I (id:=id) hE hc.1 hc.2 hL hres
      exact ⟨.normal,e',h',hk,hL',hst⟩
    · cases hc
  | drawS m l s chk r' =>
    intro c k e h r hc hres hL
    unfold P6 at hc
    split at hc
    · rename_i id ops
      simp only [aex,B3r] at hres
      rw [Bool.and_eq_true] at hc
      obtain ⟨e',h',hk,hL',hst⟩:=C7H (id:=id) hE hc.1 hc.2 hL hres
      exact ⟨.normal,e',h',hk,hL',hst⟩
    · cases hc
  | seq keep a b iha ihb =>
    intro c k e h r hc hres hL
    unfold P6 at hc
    split at hc
    · rename_i x y
      simp only [Bool.and_eq_true] at hc
      simp only [aex,A59,E4] at hres
      obtain ⟨x1,e1,h1,hk1,hL1,hst1⟩:=iha x _ e h r hc.1 hres hL
      cases x1 with
      | normal =>
        change hold (aex E n b k (e1.keep keep) h1)=some r at hk1
        simp only [hold] at hk1
        obtain ⟨x2,e2,h2,hk2,hL2,hst2⟩:=ihb y k (e1.keep keep) h1 r hc.2 hk1 hL1
        refine ⟨x2,e2,h2,hk2,hL2,fun Γ μ a w hs hi hN hd Q hq=>wp_seq (hst1 Γ μ a w hs hi hN hd _ ?_)⟩
        intro μ1 a1 w1 g1 g2 g3 g4 g5 g6
        exact hst2 Γ μ1 a1 w1 (g3.keep keep) g4 g5 g6 Q fun μ2 a2 w2 f1 f2 f3 f4 f5 f6=>hq μ2 a2 w2 (Mu.le_trans g1 f1) (fun id hid=>(f2 id hid).trans (g2 id hid)) f3 f4 f5 f6
      | exit id=>exact ⟨.exit id,e1,h1,hk1,hL1,fun Γ μ a w hs hi hN hd Q hq=>wp_seq (hst1 Γ μ a w hs hi hN hd _ hq)⟩
      | ret=>exact ⟨.ret,e1,h1,hk1,hL1,fun Γ μ a w hs hi hN hd Q hq=>wp_seq (hst1 Γ μ a w hs hi hN hd _ hq)⟩
    · cases hc
  | cond q a b iha ihb =>
    intro c k e h r hc hres hL
    unfold P6 at hc
    split at hc
    · rename_i z x y
      simp only [Bool.and_eq_true] at hc
      simp only [aex,A57,cnd] at hres
      split at hres
      · rename_i t heq
        have hz:∀ {μ:Mu} {a:Act},SEnv μ e a → a.eval z=.bool t:=by
          intro μ a hs
          have:RV μ _ _:=D1 hc.1.1 hs
          rw [heq] at this
          exact this
        cases t with
        | true =>
          obtain ⟨x1,e1,h1,hk1,hL1,hst1⟩:=iha x k e h r hc.1.2 hres hL
          exact ⟨x1,e1,h1,hk1,hL1,fun Γ μ a w hs hi hN hd Q hq=>wp_cond_true (hz hs) (hst1 Γ μ a w hs hi hN hd Q hq)⟩
        | false =>
          obtain ⟨x1,e1,h1,hk1,hL1,hst1⟩:=ihb y k e h r hc.2 hres hL
          exact ⟨x1,e1,h1,hk1,hL1,fun Γ μ a w hs hi hN hd Q hq=>wp_cond_false (hz hs) (hst1 Γ μ a w hs hi hN hd Q hq)⟩
      · cases hres
    · cases hc
  | block id a iha =>
    intro c k e h r hc hres hL
    unfold P6 at hc
    split at hc
    · rename_i id' x
      simp only [Bool.and_eq_true,decide_eq_true_eq] at hc
      obtain ⟨rfl,hc⟩:=hc
      simp only [aex,A56,D6] at hres
      obtain ⟨x1,e1,h1,hk1,hL1,hst1⟩:=iha x _ e h r hc hres hL
      cases x1 with
      | normal=>exact ⟨.normal,e1,h1,hk1,hL1,fun Γ μ a w hs hi hN hd Q hq=>wp_block (hst1 Γ μ a w hs hi hN hd _ hq)⟩
      | exit i =>
        change (bif Nat.beq i id' then k .normal e1 h1 else k (.exit i) e1 h1)=some r at hk1
        cases hb:Nat.beq i id' with
        | true =>
          rw [hb] at hk1
          have hi':=Nat.eq_of_beq_eq_true hb
          subst hi'
          exact ⟨.normal,e1,h1,hk1,hL1,fun Γ μ a w hs hi hN hd Q hq=>wp_block (hst1 Γ μ a w hs hi hN hd _ fun μ1 a1 w1 g1 g2 g3 g4 g5 g6=>by
            show (if i=i then Q .normal a1 w1 else _)
            rw [if_pos rfl]
            exact hq μ1 a1 w1 g1 g2 g3 g4 g5 g6)⟩
        | false =>
          rw [hb] at hk1
          have hne:i ≠ id':=by intro e;subst e;simp at hb
          exact ⟨.exit i,e1,h1,hk1,hL1,fun Γ μ a w hs hi hN hd Q hq=>wp_block (hst1 Γ μ a w hs hi hN hd _ fun μ1 a1 w1 g1 g2 g3 g4 g5 g6=>by
            show (if i=id' then _ else Q (.exit i) a1 w1)
            rw [if_neg hne]
            exact hq μ1 a1 w1 g1 g2 g3 g4 g5 g6)⟩
      | ret=>exact ⟨.ret,e1,h1,hk1,hL1,fun Γ μ a w hs hi hN hd Q hq=>wp_block (hst1 Γ μ a w hs hi hN hd _ hq)⟩
    · cases hc
  | loop keep a iha =>
    intro c k e h r hc hres hL
    unfold P6 at hc
    split at hc
    · rename_i x
      simp only [aex,A58] at hres
      have key:∀ (m:Nat) (e:Env) (h:A0),C6 (aex E n a) keep k m e h=some r → L ≤ h.length →
          ∃ x1 e' h',k x1 e' h'=some r ∧ L ≤ h'.length ∧ StepsTo P N L (fun Q=>Code.rounds P x Q m) e h x1 e' h':=by
        intro m
        induction m with
        | zero=>intro e h hres;rw [B5d] at hres;cases hres
        | succ m ih =>
          intro e h hres hL
          rw [B5c] at hres
          obtain ⟨x1,e1,h1,hk1,hL1,hst1⟩:=iha x _ e h r hc hres hL
          cases x1 with
          | normal =>
            simp only at hk1
            obtain ⟨x2,e2,h2,hk2,hL2,hst2⟩:=ih (e1.keep keep) h1 hk1 hL1
            refine ⟨x2,e2,h2,hk2,hL2,fun Γ μ a w hs hi hN hd Q hq=>?_⟩
            show Code.rounds P x Q (m + 1) a w
            rw [rounds_succ]
            refine hst1 Γ μ a w hs hi hN hd _ ?_
            intro μ1 a1 w1 g1 g2 g3 g4 g5 g6
            exact hst2 Γ μ1 a1 w1 (g3.keep keep) g4 g5 g6 Q fun μ2 a2 w2 f1 f2 f3 f4 f5 f6=>hq μ2 a2 w2 (Mu.le_trans g1 f1) (fun id hid=>(f2 id hid).trans (g2 id hid)) f3 f4 f5 f6
          | exit id=>exact ⟨.exit id,e1,h1,hk1,hL1,fun Γ μ a w hs hi hN hd Q hq=>by
              show Code.rounds P x Q (m + 1) a w
              rw [rounds_succ]
              exact hst1 Γ μ a w hs hi hN hd _ hq⟩
          | ret=>exact ⟨.ret,e1,h1,hk1,hL1,fun Γ μ a w hs hi hN hd Q hq=>by
              show Code.rounds P x Q (m + 1) a w
              rw [rounds_succ]
              exact hst1 Γ μ a w hs hi hN hd _ hq⟩
      obtain ⟨x1,e1,h1,hk1,hL1,hst1⟩:=key n (e.keep keep) h hres hL
      exact ⟨x1,e1,h1,hk1,hL1,fun Γ μ a w hs hi hN hd Q hq=>wp_loop_rounds n (hst1 Γ μ a w (hs.keep keep) hi hN hd Q hq)⟩
    · cases hc
  | exit id =>
    intro c k e h r hc hres hL
    unfold P6 at hc
    split at hc
    · simp at hc
      subst hc
      exact ⟨.exit _,e,h,hres,hL,fun Γ μ a w hs hi hN hd Q hq=>wp_exit (hq μ a w (Mu.le_refl _) (fun _ _=>rfl) hs hi hN hd)⟩
    · cases hc
  | ret =>
    intro c k e h r hc hres hL
    unfold P6 at hc
    split at hc
    · exact ⟨.ret,e,h,hres,hL,fun Γ μ a w hs hi hN hd Q hq=>wp_ret (hq μ a w (Mu.le_refl _) (fun _ _=>rfl) hs hi hN hd)⟩
    · cases hc
def A1F (tmps:Array Value):ResultVar → Sem Value
  | .tmp t=>pure (tmps.getD t undef)
  | .cell a t=>do loadVar t (← asAddr (tmps.getD a undef))
theorem B9z {Γ:Ctx} {μ:Mu} {e:Env} {h:A0} {a:Act} {w:World} {q:ResultVar} {q':ARes} {v:Val} (hs:SEnv μ e a) (hi:Inv Γ μ h w) (hc:M5 P [q] [q']=true) (hv:A3m e h q'=some v) :
    ∃ V,(A1F a.tmps q).run P w=.ok V w ∧ RV μ v V:=by
  cases q with
  | tmp t =>
    cases q' with
    | tmp t' =>
      simp [M5] at hc;subst hc
      simp [A3m] at hv;subst hv
      exact ⟨_,rfl,hs t⟩
    | cell1 t'=>simp [M5] at hc
    | cellN t' n=>simp [M5] at hc
  | cell t ty =>
    cases q' with
    | tmp t'=>simp [M5] at hc
    | cell1 t' =>
      simp [M5] at hc
      obtain ⟨rfl,hagg⟩:=hc
      simp only [A3m] at hv
      obtain ⟨V,h1,h2⟩:=C0c (P:=P) (w:=w) hagg hi.rows (hs t) hv
      refine ⟨V,?_,h2⟩
      rw [← h1]
      have:∃ b,a.tmps.getD t undef=.pointer (some b):=by
        unfold A3 at hv
        split at hv
        · rename_i heq
          have:=hs t
          rw [heq] at this
          obtain ⟨b,n,_,h3⟩:=this
          exact ⟨_,h3⟩
        · cases hv
      obtain ⟨b,hb⟩:=this
      simp only [A1F,hb,Instr.loadAt,asAddr,Instr.sureAddr,pure_bind]
    | cellN t' n =>
      simp [M5] at hc
      obtain ⟨⟨rfl,hagg⟩,hsz⟩:=hc
      simp only [A3m] at hv
      obtain ⟨V,h1,h2⟩:=C0d (P:=P) (w:=w) hagg hsz hi.rows (hs t) hv
      refine ⟨V,?_,h2⟩
      rw [← h1]
      have:∃ b,a.tmps.getD t undef=.pointer (some b):=by
        unfold A4 at hv
        split at hv
        · rename_i heq
          have:=hs t
          rw [heq] at this
          obtain ⟨b,n,_,h3⟩:=this
          exact ⟨_,h3⟩
        · cases hv
      obtain ⟨b,hb⟩:=this
      simp only [A1F,hb,Instr.loadAt,asAddr,Instr.sureAddr,pure_bind]
theorem B52 {q:ResultVar} {r:List ResultVar} {q':ARes} {l:List ARes} (h:M5 P (q :: r) (q' :: l)=true):M5 P [q] [q']=true ∧ M5 P r l=true:=by
  cases q <;> cases q' <;> simp_all [M5]
theorem B4W {Γ:Ctx} {μ:Mu} {e:Env} {h:A0} {a:Act} {w:World} (hs:SEnv μ e a) (hi:Inv Γ μ h w):∀ {qs:List ResultVar} {ls:List ARes} {ps:List Part},M5 P qs ls=true → A1m e h ls=some ps →
    ∃ Vs:List Value,(qs.mapM (A1F a.tmps)).run P w=.ok Vs w ∧ All2 (RP μ) ps Vs
  | [],[],ps,_,hv=>by simp [A1m] at hv;subst hv;exact ⟨[],rfl,trivial⟩
  | q :: qs,q' :: ls,ps,hc,hv=>by
    simp only [A1m,Option.bind_eq_some_iff,Option.map_eq_some_iff] at hv
    obtain ⟨v,hv1,p,hp,l,hl,rfl⟩:=hv
    obtain ⟨h1,h2⟩:=B52 hc
    obtain ⟨V,h3,h4⟩:=B9z hs hi h1 hv1
    obtain ⟨Vs,h5,h6⟩:=B4W hs hi h2 hl
    refine ⟨V :: Vs,?_,RP.ofVal h4 hp,h6⟩
    rw [List.mapM_cons]
    simp [h3,h5]
  | [],_ :: _,_,h,_=>by simp [M5] at h
  | _ :: _,[],_,h,_=>by simp [M5] at h
theorem D1v {fn:Func} {tmps:Array Value} {w:World}:(results fn tmps).run P w=((fn.results.toList.mapM (A1F tmps)).run P w).andThen fun vs w=>.ok (if h:vs.toArray.size=1 then vs.toArray[0] else .tuple vs.toArray) w:=by
  unfold results
  rw [Array.mapM_eq_mapM_toList]
  simp only [Sem.run_bind,Sem.run_map]
  have key:∀ g:ResultVar → Sem Value,(∀ q,g q=A1F tmps q) → ((((List.mapM g fn.results.toList).run P w).andThen fun a w'=>Result.ok a.toArray w').andThen fun a w'=>(pure (if h:a.size=1 then a[0] else Value.tuple a):Sem Value).run P w') =
      ((fn.results.toList.mapM (A1F tmps)).run P w).andThen fun vs w=>.ok (if h:vs.toArray.size=1 then vs.toArray[0] else .tuple vs.toArray) w:=by
    intro g hg
    rw [funext hg]
    cases (fn.results.toList.mapM (A1F tmps)).run P w <;> rfl
  exact key _ fun q=>by cases q <;> rfl
theorem C6V {Γ:Ctx} {μ:Mu} {e:Env} {h h':A0} {a:Act} {w:World} {fn:Func} {rs:List ARes} {v:Val} (hs:SEnv μ e a) (hi:Inv Γ μ h w) (hc:M5 P fn.results.toList rs=true) (hv:A2o rs e h=some (v,h')) :
    ∃ V,(results fn a.tmps).run P w=.ok V w ∧ RV μ v V ∧ h'=h:=by
  rw [D1v]
  unfold A2o at hv
  split at hv
  · rename_i q'
    simp only [Option.map_eq_some_iff,Prod.mk.injEq] at hv
    obtain ⟨_,h1,rfl,rfl⟩:=hv
    cases hq:fn.results.toList with
    | nil=>rw [hq] at hc;simp [M5] at hc
    | cons q r =>
      cases r with
      | cons q2 r=>rw [hq] at hc;have:=(B52 hc).2;simp [M5] at this
      | nil =>
        rw [hq] at hc
        obtain ⟨V,h3,h4⟩:=B9z hs hi hc h1
        refine ⟨V,?_,h4,rfl⟩
        rw [List.mapM_cons]
        simp [h3]
  · rename_i hne
    simp only [Option.map_eq_some_iff,Prod.mk.injEq] at hv
    obtain ⟨l,h1,rfl,rfl⟩:=hv
    obtain ⟨Vs,h3,h4⟩:=B4W hs hi hc h1
    refine ⟨.tuple Vs.toArray,?_,⟨Vs,rfl,h4⟩,rfl⟩
    rw [h3]
    have hl:Vs.length ≠ 1:=by
      rw [← h4.length]
      intro h0
      have:∀ (ls:List ARes) (ps:List Part),A1m e h ls=some ps → ls.length=ps.length:=by
        intro ls
        induction ls with
        | nil=>intro ps h;simp [A1m] at h;subst h;rfl
        | cons x r ih =>
          intro ps h
          simp only [A1m,Option.bind_eq_some_iff,Option.map_eq_some_iff] at h
          obtain ⟨_,_,_,_,l',hl',rfl⟩:=h
          simp [ih l' hl']
      have h5:=this _ _ h1
      rw [h0] at h5
      cases rs with
      | nil=>simp at h5
      | cons q r =>
        cases r with
        | nil=>exact hne q rfl
        | cons _ _=>simp at h5
    simp [hl]
theorem B9G:∀ (args:List Val) (i t:Nat),(params i args).get t=if i ≤ t then (args[t - i]?).getD .un else .un
  | [],i,t=>by simp [params,Env.get]
  | v :: r,i,t=>by
    simp only [params,Env.get]
    by_cases h:i=t
    · subst h;simp
    · have hb:Nat.beq i t=false:=by cases hb:Nat.beq i t with
        | false=>rfl
        | true=>exact absurd (Nat.eq_of_beq_eq_true hb) h
      rw [hb,cond_false,B9G r (i + 1) t]
      by_cases h2:i ≤ t
      · have:t - i=(t - (i + 1)) + 1:=by omega
        rw [if_pos h2,if_pos (by omega),this,List.getElem?_cons_succ]
      · rw [if_neg h2,if_neg (by omega)]
theorem C8P {E:B0} (hE:N7 P E) {f:FuncId} {fn:Func} {af:AFn} (hf:P.funcs[f]? = some fn) (hc:B1M P fn af=true) {n:Nat} {args:List Val} {h h':A0} {v:Val} (hres:af.run E n args h=some (v,h')) :
    A0H P f ∧ CallOk P f args h v h' ∧ h.length ≤ h'.length:=by
  simp only [B1M,Bool.and_eq_true,Bool.not_eq_true'] at hc
  obtain ⟨⟨hb,hr⟩,hname⟩:=hc
  cases hbody:fn.body with
  | none=>rw [hbody] at hb;cases hb
  | some c =>
    rw [hbody] at hb
    unfold AFn.run at hres
    obtain ⟨x,e',h1,hk,hL,hst⟩:=C6G (L:=h.length) hE n af.code c af.fin (params 0 args) h (v,h') hb hres (Nat.le_refl _)
    have hlen:h.length ≤ h'.length:=by
      cases x with
      | normal=>simp only [AFn.fin] at hk;unfold A2o at hk;split at hk <;> simp at hk <;> obtain ⟨_,_,_,rfl⟩:=hk <;> exact hL
      | ret=>simp only [AFn.fin] at hk;unfold A2o at hk;split at hk <;> simp at hk <;> obtain ⟨_,_,_,rfl⟩:=hk <;> exact hL
      | exit=>simp [AFn.fin] at hk
    refine ⟨⟨fn,hf,hname,by simp [hbody]⟩,?_,hlen⟩
    intro Γ μ w V hi hargs
    refine calls_of_wp hf hbody ?_
    refine hst Γ μ _ w ?_ hi ?_ rfl _ ?_
    · intro t
      rw [B9G]
      simp only [Nat.zero_le,if_true,Nat.sub_zero]
      cases ha:args[t]? with
      | none=>trivial
      | some x =>
        obtain ⟨X,h2,h3⟩:=hargs.get t x ha
        have hlt:=(List.getElem?_eq_some_iff.1 h2).1
        have:(V.toArray ++ Array.replicate (fn.ntmps - V.toArray.size) undef).getD t undef=X:=by
          rw [Array.getD_eq_getD_getElem?,Array.getElem?_append_left (by simpa using hlt)]
          simp [h2]
        rw [this]
        exact h3
    · simp;omega
    · intro μ' a' w' g1 g2 g3 g4 g5 g6
      have fin:∀ hk:A2o af.res e' h1=some (v,h'),a'.defers=[] ∧ ∃ v_1,(results fn a'.tmps).run P w'=.ok v_1 w' ∧ ∃ V' μ',Ending.returned v_1=.returned V' ∧ μ.le μ' ∧ RV μ' v V' ∧ Inv Γ μ' h' w' ∧ ∀ id,id < h.length → μ' id = μ id:=by
        intro hk
        obtain ⟨V',h2,h3,h4⟩:=C6V g3 g4 hr hk
        subst h4
        exact ⟨g6,V',h2,V',μ',rfl,g1,h3,g4,g2⟩
      cases x with
      | normal=>exact fin hk
      | ret=>exact fin hk
      | exit=>simp [AFn.fin] at hk
end
end Go.Esc
end
section
namespace Go.Esc
open Go Go.ChangeShapes Go.WideShapes Go.ChangeAt Go.RowKit
def A2B (W:World):Ctx:=⟨fun b=>W.heap[b]?,W.os,W.tape,W.output⟩
theorem C64 {W w:World} (h:(A2B W).ok w):Below W.heap.size W w:=by
  have hb:∀ k,k < W.heap.size → w.heap[k]? = W.heap[k]? := by
    intro k hk
    have e:W.heap[k]? = some W.heap[k]:=by simp [hk]
    rw [e]
    exact h.block k _ e
  refine ⟨h.os,h.tape,h.output,?_,hb⟩
  rcases Nat.eq_zero_or_pos W.heap.size with h0 | h0
  · omega
  · have:=hb (W.heap.size - 1) (by omega)
    have e:W.heap[W.heap.size - 1]? = some (W.heap[W.heap.size - 1]'(by omega)):=by simp
    rw [e] at this
    have:=(Array.getElem?_eq_some_iff.1 this).1
    omega
theorem C9F {W w:World} {may:MemPlace → Prop} (h:Below W.heap.size W w):W.keptBut w may:=by
  refine ⟨h.os,h.output,fun i hi=>?_⟩
  rw [h.block i hi]
  cases W.heap[i]? with
  | none=>rfl
  | some o=>cases o <;> simp
section
variable {H:Type} {enc:TypeId × Value → H} {P:Program}
theorem B5a (hl:laidOutB P=true) {W W':World} (hb:Below W.heap.size W W'):∀ {ts:List TypeId} {vs:List Value} {ds:List (DataW H)} {ps:List MemPlace},
    (∀ t ∈ ts,P.readableRec t=true ∧ t < P.types.size) → (∀ x ∈ ps,x.block < W.heap.size) → DataW.TrodAll enc P W 0 (fun _=>true) true ts vs ds ps → DataW.TrodAll enc P W' 0 (fun b=>decide (b < W.heap.size)) true ts vs ds ps
  | [],[],[],_,_,_,h=>h
  | t :: ts,v :: vs,d :: ds,_,hts,hlt,⟨p,q,h1,h2,e⟩=>by
    subst e
    exact ⟨p,q,Below.trod hl (hts t (by simp)).1 (hts t (by simp)).2 h1 hb (fun x hx=>hlt x (List.mem_append_left _ hx)),B5a hl hb (fun t ht=>hts t (by simp [ht])) (fun x hx=>hlt x (List.mem_append_right _ hx)) h2,rfl⟩
  | [],_ :: _,_,_,_,_,h=>by cases h
  | [],[],_ :: _,_,_,_,h=>by cases h
  | _ :: _,[],_,_,_,_,h=>by cases h
  | _ :: _,_ :: _,[],_,_,_,h=>by cases h
theorem D1b {f:Func} {s:ChangeSpec} {apart:Bool} {tb:TypeId} {W W':World} {args:Array Value} {ds gs:List (DataW H)} {before:List MemPlace}
    (hl:laidOutB P=true) (hts:∀ t ∈ f.params.toList,P.readableRec t=true ∧ t < P.types.size) (hr:f.resultTypes = #[tb]) (hb:P.underlying tb=some .bool) (hv:s.vars=[])
    (hs:∀ ds:List (DataW H),ds.length=f.params.toList.length → s.fn H ds = { results:=[.lit (.bool true)],args:=ds })
    (hW:DataW.Whole enc P f.params.toList s.vars apart W args.toList ds gs before) (hB:Below W.heap.size W W') :
    s.post enc P f apart true false false W args (.bool true) W':=by
  have hlt:=hW.lt
  obtain ⟨p,q,h1,h2,h3,h4,h5⟩:=id hW
  rw [hv] at h2
  obtain ⟨rfl,rfl⟩:=trodVars_none h2
  rw [List.append_nil] at h3
  subst h3
  have hd:ds.length=f.params.toList.length:=(trodAll_length h1).2
  have hfn:s.fn H (ds ++ []) = { results:=[.lit (.bool true)],args:=ds }:=by rw [List.append_nil];exact hs ds hd
  refine ⟨ds,[],before,[],before,[],hW,?_,?_,?_,World.keptBut_mono (fun _ h=>h) (C9F hB),fun h=>by cases h⟩
  · rw [hfn,hr]
    exact trodAll_mk1 (shut_bool hb true)
  · rw [hfn]
    exact B5a hl hB hts hlt h1
  · rw [hfn,hv]
    exact rfl
end
theorem D1x {C:Checked} {os:Os} {H:Type} {enc:TypeId × Value → H} {f:FuncId} {fn:Func} {s:ChangeSpec} {conds:List PathCond} {tb:TypeId}
    (own:ownKnob C.prog.godebug=none) (started:os.Started) (noInit:C.prog.inits.idxOf? f=none) (hfn:C.prog.funcs[f]? = some fn)
    (witness:∃ (w:World) (tape:Tape) (i:Input),w.os=os ∧ (w.forCall tape i).Shaped C.prog ∧ i.vars=[] ∧ Input.okWide C.prog (w.forCall tape i) .any w.heap.size f i ∧
      s.pre6 enc C.prog fn conds false (w.forCall tape i).memory i.args ∧ Assume.holds {} C.prog (lone (Frame.enter C.prog f i.args .normal) [] (w.forCall tape i)))
    (hl:laidOutB C.prog=true) (hts:∀ t ∈ fn.params.toList,C.prog.readableRec t=true ∧ t < C.prog.types.size) (hr:fn.resultTypes = #[tb]) (hb:C.prog.underlying tb=some .bool) (hv:s.vars=[])
    (hs:∀ ds:List (DataW H),ds.length=fn.params.toList.length → s.fn H ds = { results:=[.lit (.bool true)],args:=ds })
    (walk:∀ (W:World) (base:Nat) (args:Array Value) (ds:List (DataW H)) (ps:List MemPlace),
      (∀ (j:Nat) t v,fn.params[j]? = some t → args[j]? = some v → Value.okWide C.prog W .any base t v) →
      DataW.TrodAll enc C.prog W 0 (fun _=>true) true fn.params.toList args.toList ds ps →
      ∃ vals h μ h',Inv (A2B W) μ h W ∧ All2 (RV μ) vals args.toList ∧ CallOk C.prog f vals h (.c (.b true)) h') :
    ReturnsInHanded {} C os f .any (s.pre6 enc C.prog fn conds false) (s.post enc C.prog fn false true false false):=by
  refine returnsInHanded_of_change own started noInit hfn witness ?_
  intro W base args ds gs before hval hW _ _
  obtain ⟨p,q,hA,_⟩:=id hW
  obtain ⟨vals,h,μ,h',hi,hv2,hc⟩:=walk W base args ds p (fun j t v h1 h2=>hval j t v h1 h2) hA
  refine (hc (A2B W) μ W args.toList hi hv2).mono fun e W' ⟨V',μ',he,_,hV,hi',_⟩=>?_
  have:V'=.bool true:=hV
  subst this
  exact ⟨_,he,D1b hl hts hr hb hv hs hW (C64 hi'.ctx)⟩
theorem Inv.nought (W:World):Inv (A2B W) (fun _=>Option.none) [] W where
  rows:=fun id r h=>by simp [rd] at h
  sep:=fun id id' r r' x x' h=>by simp [rd] at h
  own:=fun id r x h=>by simp [rd] at h
  dom:=fun _ _=>rfl
  ctx:=⟨rfl,rfl,rfl,fun _ _ h=>h⟩
end Go.Esc
end
section
namespace Go.Esc
open Go
variable {R:Type} {E:B0}
theorem C6R {q:Bool} {hr:A0} {n0:Nat} {slot:Option Nat} {o:AOp} {e:Env} {h:A0} {k k':Val → A0 → Option R} (hk:∀ v h p,k v h=some p → k' v h=some p) {p:R}
    (hp:aop E q hr n0 slot o e h k=some p):aop E q hr n0 slot o e h k'=some p:=by
  cases o <;> simp only [aop,Option.bind_eq_some_iff] at hp ⊢ <;> first | exact hk _ _ _ hp | (obtain ⟨x,hx,hp⟩:=hp;exact ⟨x,hx,hk _ _ _ hp⟩)
theorem B1t {q:Bool} {hr:A0} {n0:Nat} {o:AOper} {e:Env} {h:A0} {k k':Val → A0 → Option R} (hk:∀ v h p,k v h=some p → k' v h=some p) {p:R}
    (hp:I2 E q hr n0 o e h k=some p):I2 E q hr n0 o e h k'=some p:=by
  unfold I2 at hp ⊢
  cases hg:o.guard with
  | none=>rw [hg] at hp;exact C6R hk hp
  | some g =>
    rw [hg] at hp
    simp only [Option.bind_eq_some_iff] at hp ⊢
    obtain ⟨x,hx,hp⟩:=hp
    exact ⟨x,hx,hk _ _ _ hp⟩
theorem A7I {k k':Env → A0 → Option R} (hk:∀ e h p,k e h=some p → k' e h=some p):∀ {l:List AOper} {e:Env} {h:A0} {p:R},S8 E l e h k=some p → S8 E l e h k'=some p
  | [],_,_,_,hp=>hk _ _ _ hp
  | o :: l,e,h,p,hp=>by
    rw [B48] at hp ⊢
    exact B1t (fun v h p=>A7I hk) hp
theorem B1k {hr:A0} {n0:Nat} {k k':Env → A0 → Option R} (hk:∀ e h p,k e h=some p → k' e h=some p):∀ {l:List AOper} {e:Env} {h:A0} {p:R},A0Q E hr n0 l e h k=some p → A0Q E hr n0 l e h k'=some p
  | [],_,_,_,hp=>hk _ _ _ hp
  | o :: l,e,h,p,hp=>by
    rw [B4M] at hp ⊢
    exact B1t (fun v h p=>B1k hk) hp
def KLe (k k':A9 R):Prop:=∀ x e h p,k x e h=some p → k' x e h=some p
def B4H (s s':Sm R):Prop:=∀ k k':A9 R,KLe k k' → ∀ e h p,s k e h=some p → s' k' e h=some p
theorem B5b {c c':Sm R} (hc:B4H c c') {keep:List Nat} {k k':A9 R} (hk:KLe k k'):∀ {n n':Nat},n ≤ n' → ∀ e h p,C6 c keep k n e h=some p → C6 c' keep k' n' e h=some p
  | 0,_,_,e,h,p,hp=>by rw [B5d] at hp;cases hp
  | n + 1,0,hn,e,h,p,hp=>by omega
  | n + 1,n' + 1,hn,e,h,p,hp=>by
    rw [B5c] at hp ⊢
    refine hc _ _ (fun x e h p hp=>?_) e h p hp
    cases x with
    | normal=>exact B5b hc hk (by omega) _ _ _ hp
    | exit id=>exact hk _ _ _ _ hp
    | ret=>exact hk _ _ _ _ hp
theorem B4P {e:Env} {h:A0} {k k':Option R} {p:R} (hk:k=some p → k'=some p):∀ {l:List (Nat × AOp)},again l e h k=some p → again l e h k'=some p
  | [],hp=>hk hp
  | c :: l,hp=>by
    rw [B4O] at hp ⊢
    unfold agn at hp ⊢
    split at hp
    · rename_i hc
      rw [if_pos hc];exact B4P hk hp
    · cases hp
theorem A2l {n n':Nat} (hn:n ≤ n'):∀ c:ACode,B4H (R:=R) (aex E n c) (aex E n' c)
  | .skip=>fun k k' hk e h p hp=>hk _ _ _ _ hp
  | .ops l=>fun k k' hk e h p hp=>A7I (fun e h p hp=>hk _ _ _ _ hp) hp
  | .draw m l r=>fun k k' hk e h p hp=>B1k (fun e h p hp=>A7I (fun e h p hp=>hk _ _ _ _ hp) hp) hp
  | .drawS m l s chk r=>fun k k' hk e h p hp=>B1k (fun e h p hp=>B1t (fun v h p hp=>B4P (fun hp=>A7I (fun e h p hp=>hk _ _ _ _ hp) hp) hp) hp) hp
  | .seq keep a b=>fun k k' hk e h p hp=>by
    refine A2l hn a _ _ (fun x e h p hp=>?_) e h p hp
    cases x with
    | normal=>exact A2l hn b k k' hk _ _ _ hp
    | exit id=>exact hk _ _ _ _ hp
    | ret=>exact hk _ _ _ _ hp
  | .cond c a b=>fun k k' hk e h p hp=>by
    change cnd (e.ev c) (aex E n a k e h) (aex E n b k e h)=some p at hp
    change cnd (e.ev c) (aex E n' a k' e h) (aex E n' b k' e h)=some p
    unfold cnd at hp ⊢
    split at hp
    · rename_i x _
      cases x
      · exact A2l hn b k k' hk _ _ _ hp
      · exact A2l hn a k k' hk _ _ _ hp
    · cases hp
  | .block id a=>fun k k' hk e h p hp=>by
    refine A2l hn a _ _ (fun x e h p hp=>?_) e h p hp
    cases x with
    | normal=>exact hk _ _ _ _ hp
    | ret=>exact hk _ _ _ _ hp
    | exit i =>
      change (bif Nat.beq i id then k .normal e h else k (.exit i) e h)=some p at hp
      change (bif Nat.beq i id then k' .normal e h else k' (.exit i) e h)=some p
      cases hb:Nat.beq i id with
      | true=>simp only [hb,cond_true] at hp ⊢;exact hk _ _ _ _ hp
      | false=>simp only [hb,cond_false] at hp ⊢;exact hk _ _ _ _ hp
  | .loop keep a=>fun k k' hk e h p hp=>B5b (A2l hn a) hk hn _ _ _ hp
  | .exit id=>fun k k' hk e h p hp=>hk _ _ _ _ hp
  | .ret=>fun k k' hk e h p hp=>hk _ _ _ _ hp
theorem C0b {f:AFn} {n n':Nat} (hn:n ≤ n') {args:List Val} {h:A0} {p:Val × A0} (hp:f.run E n args h=some p):f.run E n' args h=some p :=
  A2l hn f.code _ _ (fun _ _ _ _ h=>h) _ _ _ hp
open Classical in
noncomputable def Lim (f:AFn) (E:B0) (args:List Val) (h:A0):Option (Val × A0) :=
  if H:∃ p n,f.run E n args h=some p then some H.choose else none
theorem C1Y {f:AFn} {n:Nat} {args:List Val} {h:A0} {p:Val × A0} (hp:f.run E n args h=some p):Lim f E args h=some p:=by
  have H:∃ p n,f.run E n args h=some p:=⟨p,n,hp⟩
  unfold Lim
  rw [dif_pos H]
  obtain ⟨m,hm⟩:=H.choose_spec
  have h1:=C0b (Nat.le_max_left n m) hp
  have h2:=C0b (Nat.le_max_right n m) hm
  rw [h1] at h2
  exact h2.symm
theorem C1Z {f:AFn} {args:List Val} {h:A0} {p:Val × A0} (hp:Lim f E args h=some p):∃ n,f.run E n args h=some p:=by
  unfold Lim at hp
  split at hp
  · rename_i H
    cases hp
    exact H.choose_spec
  · cases hp
end Go.Esc
end
section
namespace Go.Esc
open Go
def bnd {α β:Type} (x:Option α) (f:α → Option β):Option β:=x.bind f
def mp {α β:Type} (x:Option α) (f:α → β):Option β:=x.map f
@[congr] theorem D30 {α β:Type} {x x':Option α} {f:α → Option β} (h:x=x'):bnd x f=bnd x' f:=by rw [h]
@[congr] theorem D4i {α β:Type} {x x':Option α} {f:α → β} (h:x=x'):mp x f=mp x' f:=by rw [h]
@[congr] theorem D31 {R:Type} {v v':Val} {a b:Option R} (h:v=v'):cnd v a b=cnd v' a b:=by rw [h]
@[congr] theorem D4a {v v':Val} {w:Bool} {a b:Option (Val × A0)} (h:v=v'):gd v w a b=gd v' w a b:=by rw [h]
@[congr] theorem D3Z {R:Type} {x x':Option Val} {v v':Val} {k:Option R} (h:x=x') (h2:v=v'):agn x v k=agn x' v' k:=by rw [h,h2]
theorem C6J {R:Type} {v:Val} {k:Option R}:agn (some v) v k=k:=Eq.trans (if_pos rfl) rfl
@[simp] theorem B9 {α β:Type} {a:α} {f:α → Option β}:bnd (some a) f=f a:=Eq.trans rfl rfl
@[simp] theorem B2Q {α β:Type} {a:α} {f:α → β}:mp (some a) f=some (f a):=Eq.trans rfl rfl
section
variable {R:Type} {k:IntKind} {a b:Int} {s t:List UInt8} {h:A0}
@[simp] theorem C6L:T7 (.c (.s s))=some (.c (.i .i64 s.length)):=rfl
@[simp] theorem A0m {id off len sz:Nat}:D5 (.c (.sl id off len sz))=some (.c (.i .i64 len)):=rfl
@[simp] theorem C6M:D5 (.c .ns)=some (.c (.i .i64 0)):=rfl
@[simp] theorem I0:A2 .add (.c (.i k a)) (.c (.i k b))=some (.c (.i k (k.wrap (a + b)))):=by simp [A2,R7]
@[simp] theorem C6u:A2 .sub (.c (.i k a)) (.c (.i k b))=some (.c (.i k (k.wrap (a - b)))):=by simp [A2,R7]
@[simp] theorem C6o:A2 .mul (.c (.i k a)) (.c (.i k b))=some (.c (.i k (k.wrap (a * b)))):=by simp [A2,R7]
@[simp] theorem C6q (hb:b ≠ 0):A2 .quo (.c (.i k a)) (.c (.i k b))=some (.c (.i k (k.wrap (a.tdiv b)))):=by simp [A2,R7,hb]
@[simp] theorem C6r (hb:b ≠ 0):A2 .rem (.c (.i k a)) (.c (.i k b))=some (.c (.i k (a.tmod b))):=by simp [A2,R7,hb]
theorem C6m:A2 .and (.c (.i k a)) (.c (.i k b))=some (.c (.i k (k.wrap (BitVec.ofInt k.bits a &&& BitVec.ofInt k.bits b).toNat))):=by simp [A2,R7]
theorem B4K:A2 .or (.c (.i k a)) (.c (.i k b))=some (.c (.i k (k.wrap (BitVec.ofInt k.bits a ||| BitVec.ofInt k.bits b).toNat))):=by simp [A2,R7]
theorem C6v:A2 .xor (.c (.i k a)) (.c (.i k b))=some (.c (.i k (k.wrap (BitVec.ofInt k.bits a ^^^ BitVec.ofInt k.bits b).toNat))):=by simp [A2,R7]
@[simp] theorem A0l:A2 .eql (.c (.i k a)) (.c (.i k b))=some (.c (.b (decide (a=b)))):=by simp [A2,R7];rfl
@[simp] theorem A1i:A2 .neq (.c (.i k a)) (.c (.i k b))=some (.c (.b (decide (a ≠ b)))):=by simp [A2,R7];by_cases h:a=b <;> simp [h]
@[simp] theorem D7:A2 .lss (.c (.i k a)) (.c (.i k b))=some (.c (.b (decide (a < b)))):=by simp [A2,R7]
@[simp] theorem C6n:A2 .leq (.c (.i k a)) (.c (.i k b))=some (.c (.b (decide (a ≤ b)))):=by simp [A2,R7]
@[simp] theorem B1e:A2 .gtr (.c (.i k a)) (.c (.i k b))=some (.c (.b (decide (b < a)))):=by simp [A2,R7]
@[simp] theorem B4J:A2 .geq (.c (.i k a)) (.c (.i k b))=some (.c (.b (decide (b ≤ a)))):=by simp [A2,R7]
@[simp] theorem B1f:A2 .eql (.c (.s s)) (.c (.s t))=some (.c (.b (decide (s=t)))):=by simp [A2,A3O];by_cases h:s=t <;> simp [h]
@[simp] theorem C6t:A2 .neq (.c (.s s)) (.c (.s t))=some (.c (.b (decide (s ≠ t)))):=by simp [A2,A3O];by_cases h:s=t <;> simp [h]
@[simp] theorem C6s:A2 .lss (.c (.s s)) (.c (.s t))=some (.c (.b (E5 s t))):=by simp [A2,A3O]
@[simp] theorem S9 {x:Bool}:aun .not (.c (.b x))=some (.c (.b (!x))):=rfl
@[simp] theorem C6C {n:Bool}:A0R true n (.c .nf)=some (.c (.b (!n))):=Eq.trans rfl rfl
@[simp] theorem C6B {n:Bool} {f:Nat} {cs:List (Nat × Nat)}:A0R true n (.c (.f f cs))=some (.c (.b n)):=Eq.trans rfl rfl
@[simp] theorem C6D {n:Bool}:A0R false n (.c .np)=some (.c (.b (!n))):=Eq.trans rfl rfl
@[simp] theorem C6E {n:Bool} {id off:Nat}:A0R false n (.c (.p id off))=some (.c (.b n)):=Eq.trans rfl rfl
@[simp] theorem C6P {id off:Nat}:B1r (.c (.p id off))=some (.c (.p id off)):=Eq.trans rfl rfl
@[simp] theorem C61:aun .neg (.c (.i k a))=some (.c (.i k (k.wrap (0 - a)))):=rfl
@[simp] theorem B1l {x y:Bool}:A1j false (.c (.b x)) (.c (.b y))=some (.c (.b (x == y))):=rfl
@[simp] theorem C6y {x y:Bool}:A1j true (.c (.b x)) (.c (.b y))=some (.c (.b (!(x == y)))):=rfl
@[simp] theorem C6w {k':IntKind}:L6 k (.c (.i k' a))=some (.c (.i k (k.wrap a))):=rfl
@[simp] theorem W2 {x:Bool} {u v:Val}:C4 (.c (.b x)) u v=some (bif x then u else v):=rfl
@[simp] theorem B7i {w:Bool} {u v:Option (Val × A0)}:gd .no w u v=v:=Eq.trans rfl rfl
@[simp] theorem A2I {u v:Option (Val × A0)}:gd (.c (.b true)) true u v=u:=Eq.trans rfl rfl
@[simp] theorem B7j {u v:Option (Val × A0)}:gd (.c (.b true)) false u v=v:=Eq.trans rfl rfl
@[simp] theorem A5G {u v:Option (Val × A0)}:gd (.c (.b false)) true u v=v:=Eq.trans rfl rfl
@[simp] theorem B2m {u v:Option (Val × A0)}:gd (.c (.b false)) false u v=u:=Eq.trans rfl rfl
@[simp] theorem F6 {u v:Option R}:cnd (.c (.b true)) u v=u:=Eq.trans rfl rfl
@[simp] theorem F1 {u v:Option R}:cnd (.c (.b false)) u v=v:=Eq.trans rfl rfl
@[simp] theorem C6K {i:Nat}:U7 (.c (.s s)) (.c (.i k i))=(s[i]?).map fun b=>.c (.i .u8 b.toNat):=by simp [U7]
@[simp] theorem O0 {l:List Part} {i:Nat}:C5 (.t l) i=(l[i]?).map ofPart:=rfl
@[simp] theorem O7 {x:Cell}:ofPart (.c x)=.c x:=rfl
@[simp] theorem S4 {l:List Cell}:ofPart (.a l)=.a l:=rfl
@[simp] theorem A09 {x:Cell}:N4 (.c x)=some (.c x):=rfl
@[simp] theorem B22 {l:List Cell}:N4 (.a l)=some (.a l):=rfl
@[simp] theorem C7p {x:Cell}:cells? (.c x)=some [x]:=rfl
@[simp] theorem Z6 {l:List Cell}:cells? (.a l)=some l:=rfl
@[simp] theorem A1e {u v:Option Val}:D3 [u,v] h=bnd u fun u=>bnd (N4 u) fun p=>bnd v fun v=>bnd (N4 v) fun q=>some (.t [p,q],h):=by
  cases u with
  | none=>rfl
  | some u=>cases v with
    | none=>cases hu:N4 u <;> simp [D3,A20,hu] <;> rfl
    | some v=>cases hu:N4 u <;> cases hv:N4 v <;> simp [D3,A20,hu,hv] <;> rfl
@[simp] theorem D3K {u v w:Option Val}:D3 [u,v,w] h=bnd u fun u=>bnd (N4 u) fun p=>bnd v fun v=>bnd (N4 v) fun q=>bnd w fun w=>bnd (N4 w) fun r=>some (.t [p,q,r],h):=by
  cases u with
  | none=>rfl
  | some u=>cases v with
    | none=>cases hu:N4 u <;> simp [D3,A20,hu] <;> rfl
    | some v=>cases w with
      | none=>cases hu:N4 u <;> cases hv:N4 v <;> simp [D3,A20,hu,hv] <;> rfl
      | some w=>cases hu:N4 u <;> cases hv:N4 v <;> cases hw:N4 w <;> simp [D3,A20,hu,hv,hw] <;> rfl
theorem wrap_i64 (h1:-9223372036854775808 ≤ a) (h2:a < 9223372036854775808):IntKind.wrap .i64 a=a:=by
  change (if (true && decide (a % 18446744073709551616 ≥ 9223372036854775808))=true then a % 18446744073709551616 - 18446744073709551616 else a % 18446744073709551616)=a
  by_cases h:a % 18446744073709551616 ≥ 9223372036854775808
  · simp only [h,decide_true,Bool.true_and,if_true];omega
  · simp only [h,decide_false,Bool.and_false,Bool.false_eq_true,if_false];omega
theorem wrap_u64 (h1:0 ≤ a) (h2:a < 18446744073709551616):IntKind.wrap .u64 a=a:=by
  simp only [IntKind.wrap,IntKind.bits,IntKind.signed,Bool.false_and]
  have e1:(2:Int) ^ 64=18446744073709551616:=rfl
  rw [e1]
  simp only [Bool.false_eq_true,if_false]
  omega
theorem wrap_u32 (h1:0 ≤ a) (h2:a < 4294967296):IntKind.wrap .u32 a=a:=by
  simp only [IntKind.wrap,IntKind.bits,IntKind.signed,Bool.false_and]
  have e1:(2:Int) ^ 32=4294967296:=rfl
  rw [e1]
  simp only [Bool.false_eq_true,if_false]
  omega
theorem wrap_u8 (h1:0 ≤ a) (h2:a < 256):IntKind.wrap .u8 a=a:=by
  simp only [IntKind.wrap,IntKind.bits,IntKind.signed,Bool.false_and]
  have e1:(2:Int) ^ 8=256:=rfl
  rw [e1]
  simp only [Bool.false_eq_true,if_false]
  omega
end
theorem Grows.rfl' {h:A0}:Grows h h:=⟨List.prefix_refl _,fun id x hid hx=>by have:=B8 hx;omega⟩
theorem Grows.trans' {a b c:A0} (h1:Grows a b) (h2:Grows b c):Grows a c:=by
  refine ⟨h1.1.trans h2.1,fun id x hid hx=>?_⟩
  by_cases hb:b.length ≤ id
  · exact h2.2 id x hb hx
  · refine h1.2 id x hid ?_
    obtain ⟨t,rfl⟩:=h2.1
    rw [← hx]
    unfold rd
    rw [List.getElem?_append_left (by omega)]
theorem Grows.rd {a b:A0} (h1:Grows a b) {id:Nat} {r:Row} (hr:rd a id=some r):rd b id=some r:=by
  obtain ⟨t,rfl⟩:=h1.1
  rw [G5 (B8 hr)];exact hr
theorem Grows.len {a b:A0} (h1:Grows a b):a.length ≤ b.length:=h1.1.length_le
theorem Grows.new {a b:A0} (h1:Grows a b) (cs:List Cell):Grows a (b ++ [some ⟨cs,true⟩]):=by
  refine h1.trans' ⟨List.prefix_append _ _,fun id x hid hx=>?_⟩
  unfold Go.Esc.rd at hx
  rw [List.getElem?_append_right hid] at hx
  cases hj:id - b.length with
  | zero=>rw [hj] at hx;simp at hx;subst hx;rfl
  | succ j=>rw [hj] at hx;simp at hx
theorem Grows.set {a b:A0} (h1:Grows a b) {id:Nat} (hid:a.length ≤ id) (cs:List Cell):Grows a (b.set id (some ⟨cs,true⟩)):=by
  obtain ⟨⟨t,rfl⟩,h2⟩:=h1
  refine ⟨⟨t.set (id - a.length) (some ⟨cs,true⟩),by rw [List.set_append_right _ _ hid]⟩,fun i x hi hx=>?_⟩
  by_cases e:id=i
  · subst e
    have hl:=B8 hx
    simp at hl
    rw [G3 (by simpa using hl)] at hx
    cases hx;rfl
  · rw [C7 e] at hx;exact h2 i x hi hx
theorem A51 {h h':A0} {v:Val} (hg:Grows h h'):quiet h (some (v,h'))=some (v,h'):=by
  unfold quiet
  simp only [Option.bind_some]
  rw [if_pos]
  exact hg
theorem E8 {h:A0} {r:Row}:rd (h ++ [some r]) h.length=some r:=by
  unfold rd;simp
section
variable {h:A0} {id off n sz:Nat} {cs xs:List Cell} {x:Cell} {k:IntKind} {rw:Bool}
theorem D8 (hr:rd h id=some ⟨cs,rw⟩) {c:Cell} (hc:cs[off]? = some c) (hd:(rw || !c.isX)=true):A3 h (.c (.p id off))=some (.c c):=by
  simp [A3,hr,hc,hd]
theorem A3C (hr:rd h id=some ⟨cs,rw⟩) (hl:off + n ≤ cs.length) (hd:(rw || noX ((cs.drop off).take n))=true):A4 h n (.c (.p id off))=some (.a ((cs.drop off).take n)):=by
  simp only [A4,hr,Option.bind_some]
  rw [if_pos ⟨hl,hd⟩]
theorem G0 (hr:rd h id=some ⟨cs,true⟩) (hl:cs.length=n):A4 h n (.c (.p id 0))=some (.a cs):=by
  rw [A3C hr (by omega) rfl,List.drop_zero,List.take_of_length_le (by omega)]
theorem N5 (hr:rd h id=some ⟨cs,true⟩) (hl:off < cs.length):E7 h (.c (.p id off)) (.c x)=some (h.set id (some ⟨cs.set off x,true⟩)):=by
  simp [E7,hr,hl]
theorem D2M (hr:rd h id=some ⟨cs,true⟩) (hx:xs.length=n) (hl:off + n ≤ cs.length):B4 h n (.c (.p id off)) (.a xs)=some (h.set id (some ⟨lay cs off xs,true⟩)):=by
  simp [B4,hr,hl,hx]
theorem lay_all (hx:xs.length=cs.length):lay cs 0 xs=xs:=by simp [lay,hx]
theorem storeAll (hr:rd h id=some ⟨cs,true⟩) (hl:cs.length=n) (hx:xs.length=n):B4 h n (.c (.p id 0)) (.a xs)=some (h.set id (some ⟨xs,true⟩)):=by
  rw [D2M hr hx (by omega),lay_all (by omega)]
theorem T3 {j:Nat} (hj:j < n):E1 n sz (.c (.p id off)) (.c (.i k j))=some (.c (.p id (off + j * sz))):=by
  simp only [E1]
  rw [if_pos ⟨by omega,by omega⟩];simp
theorem G8 {len j:Nat} (hj:j < len):B7 sz (.c (.sl id off len sz)) (.c (.i k j))=some (.c (.p id (off + j * sz))):=by
  simp only [B7]
  rw [if_pos ⟨by omega,by omega,trivial⟩];simp
theorem A8s {l:List Cell} {j:Nat} (hj:j < n):W1 n (.a l) (.c (.i k j))=(l[j]?).map .c:=by
  simp only [W1]
  rw [if_pos ⟨by omega,by omega⟩];simp
end
theorem A0r (l:List UInt8) (i:Nat) (x:UInt8):(A1 l).set i (.i .u8 x.toNat)=A1 (l.set i x):=by simp [A1,List.map_set]
theorem A00 (l:List UInt8) (i:Nat):(A1 l)[i]? = (l[i]?).map fun x=>.i .u8 x.toNat:=by simp [A1]
theorem A74 (l m:List UInt8):A1 (l ++ m)=A1 l ++ A1 m:=by simp [A1]
theorem C7Z (l:List UInt8) (n:Nat):(A1 l).drop n=A1 (l.drop n):=by simp [A1]
theorem C71 (l:List UInt8) (n:Nat):(A1 l).take n=A1 (l.take n):=by simp [A1]
def zeros (n:Nat):List UInt8:=List.replicate n 0
@[simp] theorem zeros_length {n:Nat}:(zeros n).length=n:=by simp [zeros]
theorem M1 (n:Nat):List.replicate n (Cell.i .u8 0)=A1 (zeros n):=by simp [A1,zeros]
theorem O6 (l:List UInt8):noX (A1 l)=true:=by simp [noX,A1,Cell.isX]
theorem C70 {l m:List UInt8}:A1 l=A1 m ↔ l=m:=by
  constructor
  · intro h
    refine List.map_inj_right (fun x y e=>?_) |>.1 h
    simp at e
    exact UInt8.toNat_inj.1 (by omega)
  · rintro rfl;rfl
end Go.Esc
end
section
namespace Go.Esc
open Go
def Cell.flat:Cell → Bool
  | .b _=>true
  | .i _ _=>true
  | .s _=>true
  | .np=>true
  | .ns=>true
  | .nf=>true
  | .nm=>true
  | _=>false
def F9 (l:List Cell):Bool:=l.all Cell.flat
def Row.dim (r:Row):List Cell:=bif r.head then r.cells.map fun _=>.dark else r.cells
def ro (h:A0):A0:=h.map fun r=>r.map fun r=>⟨r.dim,false⟩
theorem Row.dim_own (r:Row):(Row.mk r.dim false).own=false:=by
  obtain ⟨cs,w⟩:=r
  unfold Row.dim
  cases hh:Row.head ⟨cs,w⟩ with
  | false=>simpa [Row.own,Row.head] using hh
  | true =>
    cases cs with
    | nil=>rfl
    | cons c cs=>rfl
theorem M9 {h:A0}:(ro h).length=h.length:=by simp [ro]
theorem A53 {h:A0} {id:Nat}:rd (ro h) id=(rd h id).map fun r=>⟨r.dim,false⟩:=by
  unfold rd ro
  rw [List.getElem?_map]
  cases h[id]? with
  | none=>rfl
  | some x=>cases x <;> rfl
theorem B9U {h:A0} {id:Nat} {r:Row} (hr:rd h id=some r) (hh:r.head=false):rd (ro h) id=some ⟨r.cells,false⟩:=by
  rw [A53,hr]
  show some (Row.mk r.dim false)=_
  unfold Row.dim
  rw [hh];rfl
theorem C82 {cs:List Cell} {w:Bool} (h:noX cs=true):(Row.mk cs w).head=false:=by
  cases cs with
  | nil=>rfl
  | cons c cs=>cases c <;> first | rfl | (simp [noX,Cell.isX] at h)
theorem A9i {h:A0} {id:Nat} {cs:List Cell} {w:Bool} (hr:rd h id=some ⟨cs,w⟩) (hx:noX cs=true):rd (ro h) id=some ⟨cs,false⟩:=B9U hr (C82 hx)
def newRow (h:A0) (id:Nat):Bool :=
  match rd h id with
  | some r=>r.rw && F9 r.cells
  | none=>false
def Cell.low (b:Nat):Cell → Bool
  | .p id _=>decide (id < b)
  | .sl id _ _ _=>decide (id < b)
  | .f _ caps=>caps.all fun q=>decide (q.1 < b)
  | .m id=>decide (id < b)
  | c=>c.flat
def H7 (h:A0) (b:Nat):List Nat → List Cell → Option (List Cell × List Nat)
  | seen,[]=>some ([],seen)
  | seen,c :: r=>if c.low b=true then (H7 h b seen r).map fun p=>(c :: p.1,p.2) else
    match c with
    | .sl id off len sz=>if b ≤ id ∧ id ∉ seen ∧ newRow h id=true then (H7 h b (seen ++ [id]) r).map fun p=>(.sl (b + seen.length) off len sz :: p.1,p.2) else none
    | _=>none
def P5 (h:A0) (b:Nat):List Nat → List Part → Option (List Part × List Nat)
  | seen,[]=>some ([],seen)
  | seen,.c x :: r=>(H7 h b seen [x]).bind fun p=>match p.1 with
    | [y]=>(P5 h b p.2 r).map fun q=>(.c y :: q.1,q.2)
    | _=>none
  | seen,.a l :: r=>(H7 h b seen l).bind fun p=>(P5 h b p.2 r).map fun q=>(.a p.1 :: q.1,q.2)
def J9 (h:A0) (b:Nat):Val → Option (Val × List Nat)
  | .c x=>(H7 h b [] [x]).bind fun p=>match p.1 with
    | [y]=>some (.c y,p.2)
    | _=>none
  | .a l=>(H7 h b [] l).map fun p=>(.a p.1,p.2)
  | .t l=>(P5 h b [] l).map fun p=>(.t p.1,p.2)
  | _=>none
def A6f (F:List Val → A0 → Option (Val × A0)) (args:List Val) (h:A0):Option (Val × A0) :=
  (F args (ro h)).bind fun p=>(J9 p.2 h.length p.1).map fun q=>(q.1,h ++ q.2.map (rd p.2))
def tidy (F:List Val → A0 → Option (Val × A0)) (args:List Val) (h:A0):Option (Val × A0) :=
  match A6f F args h with
  | some r=>some r
  | none=>F args h
theorem RC.flat {μ μ':Mu} {c:Cell} {V:Value} (hf:c.flat=true) (h:RC μ c V):RC μ' c V:=by
  cases c <;> first | exact h | cases hf
theorem RC.low {μ μ':Mu} {b:Nat} (hb:∀ id,id < b → μ' id = μ id) {c:Cell} {V:Value} (hf:c.low b=true) (h:RC μ c V):RC μ' c V:=by
  cases c with
  | p id off =>
    obtain ⟨x,n,h1,h2⟩:=h
    exact ⟨x,n,by rw [hb id (of_decide_eq_true hf)];exact h1,h2⟩
  | sl id off len sz =>
    rcases h with ⟨x,n,cap,h1,h2⟩ | h
    · exact .inl ⟨x,n,cap,by rw [hb id (of_decide_eq_true hf)];exact h1,h2⟩
    · exact .inr h
  | f fn caps =>
    obtain ⟨cs,h1,h2⟩:=h
    refine ⟨cs,h1,?_⟩
    have hf':(caps.all fun q=>decide (q.1 < b))=true:=hf
    clear h1 hf
    induction caps generalizing cs with
    | nil=>cases cs with
      | nil=>trivial
      | cons=>exact h2.elim
    | cons q r ih=>cases cs with
      | nil=>exact h2.elim
      | cons V vs =>
        rw [List.all_cons,Bool.and_eq_true] at hf'
        obtain ⟨x,n,g1,g2⟩:=h2.1
        exact ⟨⟨x,n,by rw [hb q.1 (of_decide_eq_true hf'.1)];exact g1,g2⟩,ih vs h2.2 hf'.2⟩
  | m id =>
    obtain ⟨x,n,h1,h2⟩:=h
    exact ⟨x,n,by rw [hb id (of_decide_eq_true hf)];exact h1,h2⟩
  | _=>exact RC.flat hf h
theorem Cell.low_of_flat {b:Nat} {c:Cell} (h:c.flat=true):c.low b=true:=by
  cases c <;> first | exact h | cases h
theorem B6Z {c:Cell} {l:List Cell}:F9 (c :: l)=(c.flat && F9 l):=rfl
theorem All2.flat {μ μ':Mu}:∀ {l:List Cell} {vs:List Value},F9 l=true → All2 (RC μ) l vs → All2 (RC μ') l vs
  | [],[],_,_=>trivial
  | c :: l,V :: vs,hf,⟨h1,h2⟩=>by
    rw [B6Z,Bool.and_eq_true] at hf
    exact ⟨h1.flat hf.1,All2.flat hf.2 h2⟩
  | [],_ :: _,_,h=>h.elim
  | _ :: _,[],_,h=>h.elim
structure Good (h:A0) (b:Nat) (ids:List Nat):Prop where
  nd:ids.Nodup
  ok:∀ id ∈ ids,b ≤ id ∧ ∃ r,rd h id=some r ∧ r.rw=true ∧ F9 r.cells=true
theorem Good.nil {h:A0} {b:Nat}:Good h b []:=⟨List.nodup_nil,fun _ h=>by cases h⟩
theorem Good.snoc {h:A0} {b:Nat} {ids:List Nat} (hg:Good h b ids) {id:Nat} (h1:b ≤ id) (h2:id ∉ ids) (h3:newRow h id=true):Good h b (ids ++ [id]):=by
  refine ⟨?_,fun i hi=>?_⟩
  · rw [List.nodup_append]
    exact ⟨hg.nd,by simp,fun a ha c hc e=>by simp at hc;subst hc;subst e;exact h2 ha⟩
  · rw [List.mem_append] at hi
    rcases hi with hi | hi
    · exact hg.ok i hi
    · simp at hi;subst hi
      refine ⟨h1,?_⟩
      unfold newRow at h3
      cases hr:rd h i with
      | none=>rw [hr] at h3;cases h3
      | some r=>rw [hr] at h3;rw [Bool.and_eq_true] at h3;exact ⟨r,rfl,h3.1,h3.2⟩
def nu (μ μ':Mu) (b:Nat) (ids:List Nat):Mu:=fun id=>if id < b then μ id else (ids[id - b]?).bind μ'
theorem A7R {h:A0} {b:Nat} {μ μ':Mu} (hlow:∀ id,id < b → μ' id = μ id):∀ (l:List Cell) (seen:List Nat) (l2:List Cell) (fin:List Nat),H7 h b seen l=some (l2,fin) → Good h b seen →
    Good h b fin ∧ seen <+: fin ∧ ∀ ids,fin <+: ids → ∀ vs:List Value,All2 (RC μ') l vs → All2 (RC (nu μ μ' b ids)) l2 vs:=by
  intro l
  induction l with
  | nil =>
    intro seen l2 fin hc hg
    simp only [H7,Option.some.injEq,Prod.mk.injEq] at hc
    obtain ⟨rfl,rfl⟩:=hc
    exact ⟨hg,List.prefix_refl _,fun ids _ vs hv=>by cases vs with
      | nil=>trivial
      | cons=>exact hv.elim⟩
  | cons c r ih =>
    intro seen l2 fin hc hg
    unfold H7 at hc
    split at hc
    · rename_i hf
      simp only [Option.map_eq_some_iff,Prod.mk.injEq] at hc
      obtain ⟨p,hp,rfl,rfl⟩:=hc
      obtain ⟨h1,h2,h3⟩:=ih seen p.1 p.2 hp hg
      refine ⟨h1,h2,fun ids hi vs hv=>?_⟩
      cases vs with
      | nil=>exact hv.elim
      | cons V vs=>exact ⟨RC.low (b:=b) (fun id hid=>by unfold nu;rw [if_pos hid];exact (hlow id hid).symm) hf hv.1,h3 ids hi vs hv.2⟩
    · split at hc
      · rename_i id off len sz _
        split at hc
        · rename_i hcond
          simp only [Option.map_eq_some_iff,Prod.mk.injEq] at hc
          obtain ⟨p,hp,rfl,rfl⟩:=hc
          obtain ⟨h1,h2,h3⟩:=ih _ p.1 p.2 hp (hg.snoc hcond.1 hcond.2.1 hcond.2.2)
          refine ⟨h1,(List.prefix_append _ _).trans h2,fun ids hi vs hv=>?_⟩
          cases vs with
          | nil=>exact hv.elim
          | cons V vs =>
            refine ⟨?_,h3 ids hi vs hv.2⟩
            have hn:nu μ μ' b ids (b + seen.length) = μ' id:=by
              unfold nu
              rw [if_neg (by omega),Nat.add_sub_cancel_left]
              obtain ⟨t,ht⟩:=h2.trans hi
              rw [← ht,List.append_assoc,List.getElem?_append_right (Nat.le_refl _)]
              simp
            rcases hv.1 with ⟨x,n,cap,g1,g2⟩ | g
            · exact .inl ⟨x,n,cap,by rw [hn];exact g1,g2⟩
            · exact .inr g
        · cases hc
      · cases hc
theorem C7l {h:A0} {b:Nat} {μ μ':Mu} (hlow:∀ id,id < b → μ' id = μ id):∀ (l:List Part) (seen:List Nat) (l2:List Part) (fin:List Nat),P5 h b seen l=some (l2,fin) → Good h b seen →
    Good h b fin ∧ seen <+: fin ∧ ∀ ids,fin <+: ids → ∀ vs:List Value,All2 (RP μ') l vs → All2 (RP (nu μ μ' b ids)) l2 vs:=by
  intro l
  induction l with
  | nil =>
    intro seen l2 fin hc hg
    simp only [P5,Option.some.injEq,Prod.mk.injEq] at hc
    obtain ⟨rfl,rfl⟩:=hc
    exact ⟨hg,List.prefix_refl _,fun ids _ vs hv=>by cases vs with
      | nil=>trivial
      | cons=>exact hv.elim⟩
  | cons c r ih =>
    intro seen l2 fin hc hg
    cases c with
    | c x =>
      simp only [P5,Option.bind_eq_some_iff] at hc
      obtain ⟨⟨l3,f3⟩,hp,hc⟩:=hc
      obtain ⟨h1,h2,h3⟩:=A7R (μ:=μ) (μ':=μ') hlow [x] seen l3 f3 hp hg
      split at hc
      · rename_i y heq
        simp only at heq
        subst heq
        simp only [Option.map_eq_some_iff,Prod.mk.injEq] at hc
        obtain ⟨q,hq,rfl,rfl⟩:=hc
        obtain ⟨g1,g2,g3⟩:=ih f3 q.1 q.2 hq h1
        refine ⟨g1,h2.trans g2,fun ids hi vs hv=>?_⟩
        cases vs with
        | nil=>exact hv.elim
        | cons V vs=>exact ⟨(h3 ids (g2.trans hi) [V] ⟨hv.1,trivial⟩).1,g3 ids hi vs hv.2⟩
      · cases hc
    | a x =>
      simp only [P5,Option.bind_eq_some_iff] at hc
      obtain ⟨⟨l3,f3⟩,hp,hc⟩:=hc
      obtain ⟨h1,h2,h3⟩:=A7R (μ:=μ) (μ':=μ') hlow x seen l3 f3 hp hg
      simp only [Option.map_eq_some_iff,Prod.mk.injEq] at hc
      obtain ⟨q,hq,rfl,rfl⟩:=hc
      obtain ⟨g1,g2,g3⟩:=ih f3 q.1 q.2 hq h1
      refine ⟨g1,h2.trans g2,fun ids hi vs hv=>?_⟩
      cases vs with
      | nil=>exact hv.elim
      | cons V vs =>
        obtain ⟨Vs,hV,h4⟩:=hv.1
        exact ⟨⟨Vs,hV,h3 ids (g2.trans hi) Vs h4⟩,g3 ids hi vs hv.2⟩
theorem C7n {h:A0} {b:Nat} {μ μ':Mu} (hlow:∀ id,id < b → μ' id = μ id) {v v2:Val} {fin:List Nat} (hc:J9 h b v=some (v2,fin)):Good h b fin ∧ ∀ V,RV μ' v V → RV (nu μ μ' b fin) v2 V:=by
  cases v with
  | c x =>
    simp only [J9,Option.bind_eq_some_iff] at hc
    obtain ⟨⟨l3,f3⟩,hp,hc⟩:=hc
    obtain ⟨h1,h2,h3⟩:=A7R (μ:=μ) (μ':=μ') hlow [x] [] l3 f3 hp Good.nil
    split at hc
    · rename_i y heq
      simp only at heq
      subst heq
      simp only [Option.some.injEq,Prod.mk.injEq] at hc
      obtain ⟨rfl,rfl⟩:=hc
      exact ⟨h1,fun V hV=>(h3 _ (List.prefix_refl _) [V] ⟨hV,trivial⟩).1⟩
    · cases hc
  | a l =>
    simp only [J9,Option.map_eq_some_iff,Prod.mk.injEq] at hc
    obtain ⟨p,hp,rfl,rfl⟩:=hc
    obtain ⟨h1,h2,h3⟩:=A7R (μ:=μ) (μ':=μ') hlow l [] p.1 p.2 hp Good.nil
    refine ⟨h1,fun V hV=>?_⟩
    obtain ⟨vs,e,h4⟩:=hV
    exact ⟨vs,e,h3 _ (List.prefix_refl _) vs h4⟩
  | t l =>
    simp only [J9,Option.map_eq_some_iff,Prod.mk.injEq] at hc
    obtain ⟨p,hp,rfl,rfl⟩:=hc
    obtain ⟨h1,h2,h3⟩:=C7l (μ:=μ) (μ':=μ') hlow l [] p.1 p.2 hp Good.nil
    refine ⟨h1,fun V hV=>?_⟩
    obtain ⟨vs,e,h4⟩:=hV
    exact ⟨vs,e,h3 _ (List.prefix_refl _) vs h4⟩
  | un=>simp [J9] at hc
  | no=>simp [J9] at hc
def A88 (μ:Mu) (h:A0) (b:Nat):Prop:=∃ id r n,rd h id=some r ∧ μ id=some (b,n)
open Classical in
noncomputable def Ctx.hold (Γ:Ctx) (μ:Mu) (h:A0) (w:World):Ctx:={ Γ with F:=fun b=>if A88 μ h b then w.heap[b]? else Γ.F b }
theorem Inv.hold {Γ:Ctx} {μ:Mu} {h:A0} {w:World} (hi:Inv Γ μ h w):Inv (Γ.hold μ h w) μ (ro h) w where
  rows id r hr:=by
    rw [A53,Option.map_eq_some_iff] at hr
    obtain ⟨r0,h0,rfl⟩:=hr
    have hth:=hi.rows id r0 h0
    have this:=hth
    unfold RowOk at this ⊢
    cases hm:μ id with
    | none =>
      rw [hm] at this
      show r0.dim=[]
      unfold Row.dim
      rw [this];cases r0.head <;> rfl
    | some x =>
      rw [hm] at this
      obtain ⟨o,ho⟩:=hth.there hm
      have hlt:=(Array.getElem?_eq_some_iff.1 ho).1
      cases hh:r0.head with
      | true =>
        refine .inr (.inr ⟨rfl,hlt,?_⟩)
        show r0.dim.all Cell.isD=true
        unfold Row.dim
        rw [hh]
        simp [Cell.isD]
      | false =>
        have hd:r0.dim=r0.cells:=by unfold Row.dim;rw [hh];rfl
        rw [hd]
        rcases this with ⟨C,elem,fz,h1,h2,h3,h4⟩ | ⟨es,E,h1,_⟩ | ⟨h1,h2,h3⟩
        · refine .inl ⟨C,elem,fz,h1,h2,h3.mono fun c V hc=>?_,fun hf=>by cases hf⟩
          rcases hc with hc | ⟨_,hc⟩
          · exact .inl hc
          · exact .inr ⟨rfl,hc⟩
        · rw [h1,Row.head_mrow] at hh;cases hh
        · exact .inr (.inr ⟨rfl,h2,h3⟩)
  sep id id' r r' x x' hr hr' hw:=by
    rw [A53,Option.map_eq_some_iff] at hr
    obtain ⟨r0,h0,rfl⟩:=hr
    rw [Row.dim_own] at hw;cases hw
  own id r x hr hw:=by
    rw [A53,Option.map_eq_some_iff] at hr
    obtain ⟨r0,h0,rfl⟩:=hr
    rw [Row.dim_own] at hw;cases hw
  dom id hl:=hi.dom id (by simpa [M9] using hl)
  ctx:=⟨hi.ctx.os,hi.ctx.tape,hi.ctx.output,fun b o ho=>by
    unfold Ctx.hold at ho
    simp only at ho
    split at ho
    · exact ho
    · exact hi.ctx.block b o ho⟩
theorem Inv.held {Γ:Ctx} {μ μ':Mu} {h h':A0} {w w':World} (hi:Inv Γ μ h w) (hj:Inv (Γ.hold μ h w) μ' h' w') {ids:List Nat} (hg:Good h' h.length ids) :
    Inv Γ (nu μ μ' h.length ids) (h ++ ids.map (rd h')) w':=by
  have same:∀ b,A88 μ h b → w'.heap[b]? = w.heap[b]? := by
    intro b hb
    have hb':=hb
    obtain ⟨id,r,n,hr,hm⟩:=hb
    obtain ⟨o,h1⟩:=(hi.rows id r hr).there hm
    have h2:(Γ.hold μ h w).F b=some o:=by
      unfold Ctx.hold
      simp only
      rw [if_pos hb'];exact h1
    rw [hj.ctx.block b _ h2,h1]
  have lo:∀ id,id < h.length → nu μ μ' h.length ids id = μ id:=fun id hl=>by unfold nu;rw [if_pos hl]
  have hle:μ.le (nu μ μ' h.length ids):=fun id x hx=>by
    by_cases hl:id < h.length
    · rw [lo id hl];exact hx
    · rw [hi.dom id (by omega)] at hx;cases hx
  have get:∀ id r,rd (h ++ ids.map (rd h')) id=some r → (id < h.length ∧ rd h id=some r) ∨ (∃ j,ids[id - h.length]? = some j ∧ h.length ≤ id ∧ rd h' j=some r ∧ nu μ μ' h.length ids id = μ' j ∧ j ∈ ids ∧ r.rw=true ∧ F9 r.cells=true):=by
    intro id r hr
    by_cases hl:id < h.length
    · rw [G5 hl] at hr;exact .inl ⟨hl,hr⟩
    · right
      unfold rd at hr
      rw [List.getElem?_append_right (by omega),List.getElem?_map] at hr
      cases hj':ids[id - h.length]? with
      | none=>rw [hj'] at hr;cases hr
      | some j =>
        rw [hj'] at hr
        change rd h' j=some r at hr
        have hmem:j ∈ ids:=List.mem_of_getElem? hj'
        obtain ⟨_,r2,hr2,h1,h2⟩:=hg.ok j hmem
        rw [hr] at hr2;cases hr2
        refine ⟨j,rfl,by omega,hr,?_,hmem,h1,h2⟩
        unfold nu
        rw [if_neg hl,hj'];rfl
  have fnew:∀ j r x,rd h' j=some r → r.rw=true → μ' j=some x → ¬ A88 μ h x.1 ∧ Γ.F x.1=none:=by
    intro j r x hr hw hx
    have h1:=hj.own j r x hr (Row.own_rw hw) hx
    unfold Ctx.hold at h1
    simp only at h1
    split at h1
    · rename_i hb
      obtain ⟨id,r0,n,hr0,hm⟩:=hb
      obtain ⟨o,h2⟩:=(hi.rows id r0 hr0).there hm
      rw [h2] at h1;cases h1
    · exact ⟨‹_›,h1⟩
  refine ⟨?_,?_,?_,?_,?_⟩
  · intro id r hr
    rcases get id r hr with ⟨hl,hr⟩ | ⟨j,hj1,hl,hr,hn,hmem,hw,hf⟩
    · exact (hi.rows id r hr).mono hle (lo id hl) fun x hx=>same _ ⟨id,r,x.2,hr,hx⟩
    · have:=hj.rows j r hr
      unfold RowOk at this ⊢
      rw [hn]
      cases hm:μ' j with
      | none=>rw [hm] at this;exact this
      | some x =>
        obtain ⟨C,elem,fz,h1,h2,h3,h4⟩:=(hj.rows j r hr).mem hm hw
        refine .inl ⟨C,elem,fz,h1,h2,?_,h4⟩
        rw [hw] at h3 ⊢
        have h5:=RL.all h3 (by simp)
        exact (All2.flat (μ':=nu μ μ' h.length ids) hf h5).mono fun _ _=>.inl
  · intro id id' r r' x x' hr hr' hw hne hx hx'
    rcases get id r hr with ⟨hl,hr⟩ | ⟨j,hj1,hl,hr,hn,hmem,hw2,hf⟩
    · rw [lo id hl] at hx
      rcases get id' r' hr' with ⟨hl',hr'⟩ | ⟨j',hj1',hl',hr',hn',hmem',hw2',hf'⟩
      · rw [lo id' hl'] at hx'
        exact hi.sep id id' r r' x x' hr hr' hw hne hx hx'
      · rw [hn'] at hx'
        intro e
        exact (fnew j' r' x' hr' hw2' hx').1 (e ▸ ⟨id,r,x.2,hr,hx⟩)
    · rw [hn] at hx
      rcases get id' r' hr' with ⟨hl',hr'⟩ | ⟨j',hj1',hl',hr',hn',hmem',hw2',hf'⟩
      · rw [lo id' hl'] at hx'
        intro e
        exact (fnew j r x hr hw2 hx).1 (e ▸ ⟨id',r',x'.2,hr',hx'⟩)
      · rw [hn'] at hx'
        refine hj.sep j j' r r' x x' hr hr' hw (fun e=>?_) hx hx'
        subst e
        have h1:=List.getElem?_eq_some_iff.1 hj1
        have h2:=List.getElem?_eq_some_iff.1 hj1'
        have:=(List.getElem_inj hg.nd).1 (h1.2.trans h2.2.symm)
        omega
  · intro id r x hr hw hx
    rcases get id r hr with ⟨hl,hr⟩ | ⟨j,hj1,hl,hr,hn,hmem,hw2,hf⟩
    · rw [lo id hl] at hx;exact hi.own id r x hr hw hx
    · rw [hn] at hx;exact (fnew j r x hr hw2 hx).2
  · intro id hl
    simp only [List.length_append,List.length_map] at hl
    unfold nu
    rw [if_neg (by omega),List.getElem?_eq_none (by omega)];rfl
  · refine ⟨hj.ctx.os,hj.ctx.tape,hj.ctx.output,fun b o ho=>?_⟩
    by_cases hb:A88 μ h b
    · rw [same b hb];exact hi.ctx.block b o ho
    · refine hj.ctx.block b o ?_
      unfold Ctx.hold
      simp only
      rw [if_neg hb];exact ho
theorem D2X {P:Program} {f:FuncId} {F:List Val → A0 → Option (Val × A0)} (hF:∀ args h v h2,F args h=some (v,h2) → A0H P f ∧ CallOk P f args h v h2 ∧ h.length ≤ h2.length)
    {args:List Val} {h:A0} {v:Val} {h2:A0} (he:A6f F args h=some (v,h2)):A0H P f ∧ CallOk P f args h v h2 ∧ h.length ≤ h2.length:=by
  simp only [A6f,Option.bind_eq_some_iff,Option.map_eq_some_iff,Prod.mk.injEq] at he
  obtain ⟨p,hp,q,hq,rfl,rfl⟩:=he
  obtain ⟨h1,h2,h3⟩:=hF args (ro h) p.1 p.2 hp
  refine ⟨h1,fun Γ μ w V hi hv=>?_,by simp⟩
  refine (h2 (Γ.hold μ h w) μ w V hi.hold hv).mono fun e w' ⟨V',μ',he,_,hV,hi',hl⟩=>?_
  obtain ⟨hg,hR⟩:=C7n (μ:=μ) (μ':=μ') (fun id hid=>hl id (by simpa [M9] using hid)) (v2:=q.1) (fin:=q.2) hq
  refine ⟨V',nu μ μ' h.length q.2,he,fun id x hx=>?_,hR V' hV,hi.held hi' hg,fun id hl=>by unfold nu;rw [if_pos hl]⟩
  by_cases hl:id < h.length
  · unfold nu;rw [if_pos hl];exact hx
  · rw [hi.dom id (by omega)] at hx;cases hx
theorem D20 {P:Program} {f:FuncId} {F:List Val → A0 → Option (Val × A0)} (hF:∀ args h v h2,F args h=some (v,h2) → A0H P f ∧ CallOk P f args h v h2 ∧ h.length ≤ h2.length)
    (args:List Val) (h:A0) (v:Val) (h2:A0) (he:tidy F args h=some (v,h2)):A0H P f ∧ CallOk P f args h v h2 ∧ h.length ≤ h2.length:=by
  unfold tidy at he
  split at he
  · rename_i r hr
    cases he
    exact D2X hF hr
  · exact hF args h v h2 he
theorem A9x {F:List Val → A0 → Option (Val × A0)} {args:List Val} {h h':A0} {v v2:Val} {ids:List Nat} (he:F args (ro h)=some (v,h')) (hc:J9 h' h.length v=some (v2,ids)) :
    tidy F args h=some (v2,h ++ ids.map (rd h')):=by
  have:A6f F args h=some (v2,h ++ ids.map (rd h')):=by
    unfold A6f
    rw [he]
    simp [hc]
  unfold tidy
  rw [this]
def Val.flat:Val → Bool
  | .c x=>x.flat
  | .a l=>F9 l
  | .t l=>l.all fun p=>match p with
    | .c x=>x.flat
    | .a l=>F9 l
  | _=>false
theorem A1n {h:A0} {b:Nat} {seen:List Nat}:∀ {l:List Cell},F9 l=true → H7 h b seen l=some (l,seen)
  | [],_=>rfl
  | c :: l,hf=>by
    rw [B6Z,Bool.and_eq_true] at hf
    have ih:=A1n (h:=h) (b:=b) (seen:=seen) hf.2
    unfold H7
    rw [if_pos (Cell.low_of_flat hf.1),ih];rfl
theorem B1F {h:A0} {b:Nat} {seen:List Nat}:∀ {l:List Part},(l.all fun p=>match p with | .c x=>x.flat | .a l=>F9 l)=true → P5 h b seen l=some (l,seen)
  | [],_=>rfl
  | .c x :: l,hf=>by
    simp only [List.all_cons,Bool.and_eq_true] at hf
    have ih:=B1F (h:=h) (b:=b) (seen:=seen) hf.2
    have h1:H7 h b seen [x]=some ([x],seen):=A1n (by simpa [F9] using hf.1)
    simp [P5,h1,ih]
  | .a x :: l,hf=>by
    simp only [List.all_cons,Bool.and_eq_true] at hf
    have ih:=B1F (h:=h) (b:=b) (seen:=seen) hf.2
    have h1:H7 h b seen x=some (x,seen):=A1n hf.1
    simp [P5,h1,ih]
theorem C7m {h:A0} {b:Nat} {v:Val} (hf:v.flat=true):J9 h b v=some (v,[]):=by
  cases v with
  | c x =>
    have h1:H7 h b [] [x]=some ([x],[]):=A1n (by simp only [F9,List.all_cons,List.all_nil,Bool.and_true];exact hf)
    simp [J9,h1]
  | a l =>
    have h1:H7 h b [] l=some (l,[]):=A1n hf
    simp [J9,h1]
  | t l =>
    have h1:P5 h b [] l=some (l,[]):=B1F hf
    simp [J9,h1]
  | un=>cases hf
  | no=>cases hf
theorem D2Y {F:List Val → A0 → Option (Val × A0)} {args:List Val} {h h':A0} {v:Val} (he:F args (ro h)=some (v,h')) (hf:v.flat=true):tidy F args h=some (v,h):=by
  have:=A9x he (C7m (h:=h') (b:=h.length) hf)
  simpa using this
def X9 (b:Nat) (l:List Cell):Bool:=l.all (Cell.low b)
def Val.low (b:Nat):Val → Bool
  | .c x=>x.low b
  | .a l=>X9 b l
  | .t l=>l.all fun p=>match p with
    | .c x=>x.low b
    | .a l=>X9 b l
  | _=>false
theorem A5v {h:A0} {b:Nat} {seen:List Nat}:∀ {l:List Cell},X9 b l=true → H7 h b seen l=some (l,seen)
  | [],_=>rfl
  | c :: l,hf=>by
    have hf:(c.low b && X9 b l)=true:=hf
    rw [Bool.and_eq_true] at hf
    have ih:=A5v (h:=h) (b:=b) (seen:=seen) hf.2
    unfold H7
    rw [if_pos hf.1,ih];rfl
theorem B1G {h:A0} {b:Nat} {seen:List Nat}:∀ {l:List Part},(l.all fun p=>match p with | .c x=>x.low b | .a l=>X9 b l)=true → P5 h b seen l=some (l,seen)
  | [],_=>rfl
  | .c x :: l,hf=>by
    simp only [List.all_cons,Bool.and_eq_true] at hf
    have ih:=B1G (h:=h) (b:=b) (seen:=seen) hf.2
    have h1:H7 h b seen [x]=some ([x],seen):=A5v (by simpa [X9] using hf.1)
    simp [P5,h1,ih]
  | .a x :: l,hf=>by
    simp only [List.all_cons,Bool.and_eq_true] at hf
    have ih:=B1G (h:=h) (b:=b) (seen:=seen) hf.2
    have h1:H7 h b seen x=some (x,seen):=A5v hf.1
    simp [P5,h1,ih]
theorem D2Z {F:List Val → A0 → Option (Val × A0)} {args:List Val} {h h':A0} {v:Val} (he:F args (ro h)=some (v,h')) (hf:v.low h.length=true):tidy F args h=some (v,h):=by
  have hc:J9 h' h.length v=some (v,[]):=by
    cases v with
    | c x =>
      have h1:H7 h' h.length [] [x]=some ([x],[]):=A5v (by simp only [X9,List.all_cons,List.all_nil,Bool.and_true];exact hf)
      simp [J9,h1]
    | a l =>
      have h1:H7 h' h.length [] l=some (l,[]):=A5v hf
      simp [J9,h1]
    | t l =>
      have h1:P5 h' h.length [] l=some (l,[]):=B1G hf
      simp [J9,h1]
    | un=>cases hf
    | no=>cases hf
  have:=A9x he hc
  simpa using this
@[simp] theorem D4h {b:Nat}:X9 b []=true:=rfl
@[simp] theorem D4g {b:Nat} {c:Cell} {l:List Cell}:X9 b (c :: l)=(c.low b && X9 b l):=rfl
@[simp] theorem D4n {b:Nat} {x:Cell}:(Val.c x).low b=x.low b:=rfl
@[simp] theorem D4m {b:Nat} {l:List Cell}:(Val.a l).low b=X9 b l:=rfl
@[simp] theorem D4o {b:Nat} {l:List Part}:(Val.t l).low b=l.all fun p=>match p with | .c x=>x.low b | .a l=>X9 b l:=rfl
@[simp] theorem D4f {b id off len sz:Nat}:(Cell.sl id off len sz).low b=decide (id < b):=rfl
@[simp] theorem D4c {b:Nat} {k:IntKind} {n:Int}:(Cell.i k n).low b=true:=rfl
@[simp] theorem D4b {b:Nat} {x:Bool}:(Cell.b x).low b=true:=rfl
@[simp] theorem D4e {b:Nat} {x:List UInt8}:(Cell.s x).low b=true:=rfl
@[simp] theorem D4d {b:Nat}:Cell.ns.low b=true:=rfl
@[simp] theorem D39:F9 []=true:=rfl
@[simp] theorem D37 {c:Cell} {l:List Cell}:F9 (c :: l)=(c.flat && F9 l):=rfl
@[simp] theorem A8o {l m:List Cell}:F9 (l ++ m)=(F9 l && F9 m):=by simp [F9]
@[simp] theorem C8G {l:List UInt8}:F9 (A1 l)=true:=by simp [F9,A1,Cell.flat]
@[simp] theorem D32 {x:Bool}:(Cell.b x).flat=true:=rfl
@[simp] theorem D33 {k:IntKind} {n:Int}:(Cell.i k n).flat=true:=rfl
@[simp] theorem D36 {x:List UInt8}:(Cell.s x).flat=true:=rfl
@[simp] theorem D35:Cell.ns.flat=true:=rfl
@[simp] theorem D34:Cell.np.flat=true:=rfl
@[simp] theorem D4k {x:Cell}:(Val.c x).flat=x.flat:=rfl
@[simp] theorem D4j {l:List Cell}:(Val.a l).flat=F9 l:=rfl
@[simp] theorem D4l {l:List Part}:(Val.t l).flat=l.all fun p=>match p with | .c x=>x.flat | .a l=>F9 l:=rfl
@[simp] theorem B9S {h:A0} {v:Val}:quiet h (some (v,h))=some (v,h):=A51 Grows.rfl'
end Go.Esc
end
section
namespace Go.Esc
open Go
section
variable {h:A0} {l:List (Option Row)} {k id:Nat}
@[simp] theorem A2S:rd (h ++ l) (h.length + k)=(l[k]?).join:=by
  unfold rd;rw [List.getElem?_append_right (by omega),Nat.add_sub_cancel_left]
@[simp] theorem D1k:rd (h ++ l) h.length=(l[0]?).join:=A2S (k:=0)
@[simp] theorem A9m {x:Option Row}:(h ++ l).set (h.length + k) x=h ++ l.set k x:=by
  rw [List.set_append_right _ _ (by omega),Nat.add_sub_cancel_left]
@[simp] theorem D2l {x:Option Row}:(h ++ l).set h.length x=h ++ l.set 0 x:=A9m (k:=0)
end
section
variable {h:A0} {id off n sz:Nat} {cs xs:List Cell} {x:Cell} {k:IntKind} {rw:Bool}
theorem C6x {j:Int} (h0:0 ≤ j) (h1:j < n):E1 n sz (.c (.p id off)) (.c (.i k j))=some (.c (.p id (off + j.toNat * sz))):=by
  simp only [E1];rw [if_pos ⟨h0,h1⟩]
end
theorem take_append {l m:List Cell} {n:Nat} (hn:l.length=n):(l ++ m).take n=l:=by subst hn;simp
def Has (h:A0) (v:Val) (sz n:Nat) (cs:List Cell):Prop :=
  (v=.c .ns ∧ n=0 ∧ cs=[]) ∨ ∃ id off r,v=.c (.sl id off n sz) ∧ rd h id=some r ∧ cs.length=n * sz ∧ off + n * sz ≤ r.cells.length ∧ (r.cells.drop off).take (n * sz)=cs ∧ noX cs=true
section
variable {h:A0} {v:Val} {sz n:Nat} {cs:List Cell}
theorem Has.length (hv:Has h v sz n cs):cs.length=n * sz:=by
  rcases hv with ⟨_,rfl,rfl⟩ | ⟨_,_,_,_,_,hl,_⟩
  · simp
  · exact hl
theorem Has.ro (hv:Has h v sz n cs):Has (ro h) v sz n cs:=by
  rcases hv with hv | ⟨id,off,r,rfl,hr,h1,h2,h3,h4⟩
  · exact .inl hv
  · cases hh:r.head with
    | false=>exact .inr ⟨id,off,⟨r.cells,false⟩,rfl,B9U hr hh,h1,h2,h3,h4⟩
    | true =>
      have hx:=Row.head_isX hh
      have hnil:cs=[]:=by
        cases hcs:cs with
        | nil=>rfl
        | cons c cs' =>
          exfalso
          have hmem:c ∈ r.cells:=List.mem_of_mem_drop (List.mem_of_mem_take (by rw [h3,hcs];simp))
          have h5:c.isX=false:=by
            have:=List.all_eq_true.1 h4 c (by rw [hcs];simp)
            simpa using this
          rw [hx c hmem] at h5;cases h5
      have hd:r.dim.length=r.cells.length:=by unfold Row.dim;rw [hh];simp
      have hn:n * sz=0:=by rw [← h1,hnil];rfl
      exact .inr ⟨id,off,⟨r.dim,false⟩,rfl,by rw [A53,hr];rfl,h1,by show off + n * sz ≤ r.dim.length;rw [hd];exact h2,by rw [hn,List.take_zero,hnil],h4⟩
theorem Has.more (hv:Has h v sz n cs) (l:A0):Has (h ++ l) v sz n cs:=by
  rcases hv with hv | ⟨id,off,r,rfl,hr,h1,h2,h3,h4⟩
  · exact .inl hv
  · exact .inr ⟨id,off,r,rfl,B6 hr,h1,h2,h3,h4⟩
theorem Has.len (hv:Has h v sz n cs):D5 v=some (.c (.i .i64 n)):=by
  rcases hv with ⟨rfl,rfl,rfl⟩ | ⟨id,off,r,rfl,_⟩ <;> rfl
theorem Has.cells (hv:Has h v sz n cs):W7 h v=some cs:=by
  rcases hv with ⟨rfl,rfl,rfl⟩ | ⟨id,off,r,rfl,hr,h1,h2,h3,h4⟩
  · rfl
  · simp only [W7,hr,Option.bind_some]
    rw [if_pos ⟨h2,by rw [h3,h4];simp⟩,h3]
theorem Has.add (hv:Has h v sz n cs):M4 h sz v=some cs:=by
  have:=hv.cells
  rcases hv with ⟨rfl,rfl,rfl⟩ | ⟨id,off,r,rfl,_⟩
  · rfl
  · simp only [M4,if_true];exact this
theorem B5M:∀ l:List UInt8,bytes? (A1 l)=some l
  | []=>rfl
  | x :: l=>by
    have h1:=x.toNat_lt
    have e:A3n (.i .u8 x.toNat)=some x:=by
      simp only [A3n]
      rw [if_pos ⟨by omega,by omega⟩];simp
    change (A3n (.i .u8 x.toNat)).bind (fun y=>(bytes? (A1 l)).map fun l=>y :: l)=_
    rw [e,B5M l];rfl
theorem Has.str {l:List UInt8} (hv:Has h v 1 n (A1 l)):N8 h v=some (.c (.s l)):=by
  have:=hv.cells
  rcases hv with ⟨rfl,rfl,e⟩ | ⟨id,off,r,rfl,_⟩
  · have:l=[]:=by simpa [A1] using e
    subst this;rfl
  · simp only [N8,if_true,this,Option.bind_some,B5M,Option.map_some]
theorem Has.sl (hv:Has h v sz n cs) (hn:0 < n):∃ id off,v=.c (.sl id off n sz) ∧ id < h.length ∧
    (∀ j c,cs[j]? = some c → A3 h (.c (.p id (off + j)))=some (.c c)) ∧ ∀ j m,j + m ≤ cs.length → A4 h m (.c (.p id (off + j)))=some (.a ((cs.drop j).take m)):=by
  rcases hv with ⟨rfl,rfl,rfl⟩ | ⟨id,off,r,rfl,hr,h1,h2,h3,h4⟩
  · omega
  · refine ⟨id,off,rfl,B8 hr,fun j c hc=>?_,fun j m hj=>?_⟩
    · have hlt:j < cs.length:=(List.getElem?_eq_some_iff.1 hc).1
      have hx:c.isX=false:=by
        have:=List.all_eq_true.1 h4 c (List.mem_of_getElem? hc)
        simpa using this
      refine D8 (cs:=r.cells) (rw:=r.rw) hr ?_ (by simp [hx])
      rw [← h3,List.getElem?_take_of_lt (by omega),List.getElem?_drop] at hc
      exact hc
    · have e:((cs.drop j).take m)=(r.cells.drop (off + j)).take m:=by
        rw [← h3,List.drop_take,List.take_take,List.drop_drop]
        congr 1
        omega
      rw [e]
      refine A3C (cs:=r.cells) (rw:=r.rw) hr (by omega) ?_
      rw [← e]
      have:noX ((cs.drop j).take m)=true:=by
        refine List.all_eq_true.2 fun c hc=>List.all_eq_true.1 h4 c ?_
        exact List.mem_of_mem_drop (List.mem_of_mem_take hc)
      simp [this]
end
theorem Has.row {h:A0} {id sz n:Nat} {cs:List Cell} {rw:Bool} (hr:rd h id=some ⟨cs,rw⟩) (hl:cs.length=n * sz) (hx:noX cs=true):Has h (.c (.sl id 0 n sz)) sz n cs :=
  .inr ⟨id,0,_,rfl,hr,hl,by simp [hl],by simp [← hl],hx⟩
def Out (b:Nat) (h:A0) (v:Val) (sz n:Nat) (cs:List Cell):Prop :=
  cs.length=n * sz ∧ ∃ id,v=.c (.sl id 0 n sz) ∧ b ≤ id ∧ rd h id=some ⟨cs,true⟩
theorem Out.more {b:Nat} {h:A0} {v:Val} {sz n:Nat} {cs:List Cell} (ho:Out b h v sz n cs) (l:A0):Out b (h ++ l) v sz n cs:=by
  obtain ⟨hl,id,rfl,hb,hr⟩:=ho
  exact ⟨hl,id,rfl,hb,B6 hr⟩
def Low (b:Nat) (h h':A0):Prop:=b ≤ h.length ∧ h.length ≤ h'.length ∧ ∀ id,id < b → rd h' id=rd h id
theorem Low.refl {b:Nat} {h:A0} (hb:b ≤ h.length):Low b h h:=⟨hb,Nat.le_refl _,fun _ _=>rfl⟩
theorem Low.trans {b:Nat} {h h' h'':A0} (h1:Low b h h') (h2:Low b h' h''):Low b h h'' :=
  ⟨h1.1,Nat.le_trans h1.2.1 h2.2.1,fun id hid=>(h2.2.2 id hid).trans (h1.2.2 id hid)⟩
theorem Low.new {b:Nat} {h h':A0} (h1:Low b h h') (l:A0):Low b h (h' ++ l) :=
  ⟨h1.1,by have:=h1.2.1;simp;omega,fun id hid=>by rw [G5 (by have:=h1.1;have:=h1.2.1;omega)];exact h1.2.2 id hid⟩
theorem Low.set {b:Nat} {h h':A0} (h1:Low b h h') {id:Nat} (hid:b ≤ id) (x:Option Row):Low b h (h'.set id x) :=
  ⟨h1.1,by simpa using h1.2.1,fun j hj=>by rw [C7 (by omega)];exact h1.2.2 j hj⟩
theorem Has.low {b:Nat} {h h':A0} {v:Val} {sz n:Nat} {cs:List Cell} (h1:Low b h h') (hv:Has h v sz n cs) (hb:∀ id off m,v=.c (.sl id off m sz) → id < b):Has h' v sz n cs:=by
  rcases hv with hv | ⟨id,off,r,rfl,hr,h2⟩
  · exact .inl hv
  · exact .inr ⟨id,off,r,rfl,by rw [h1.2.2 id (hb id off n rfl)];exact hr,h2⟩
theorem Out.app {b:Nat} {h:A0} {v y:Val} {sz n m:Nat} {cs ys:List Cell} (ho:Out b h v sz n cs) (hsz:0 < sz) (hy:M4 h sz y=some ys) (hm:ys.length=m * sz) (hn:n + m ≤ 1073741824) :
    ∃ id v' h',v=.c (.sl id 0 n sz) ∧ F0 h sz v y=some (v',h') ∧ Out b h' v' sz (n + m) (cs ++ ys) ∧ Low b h h' ∧ (∀ i r,rd h i=some r → i ≠ id → rd h' i=some r):=by
  have hd:ys.length / sz=m:=by rw [hm];exact Nat.mul_div_cancel m hsz
  obtain ⟨hl,id,rfl,hbid,hr⟩:=ho
  have hlt:=B8 hr
  refine ⟨id,_,h.set id none ++ [some ⟨cs ++ ys,true⟩],rfl,by simp only [F0,hy,hr,Option.bind_some,hd];rw [if_pos ⟨trivial,trivial,hl.symm,trivial,hn⟩],⟨by simp [hl,hm,Nat.add_mul],h.length,rfl,by omega,?_⟩,((Low.refl (by omega)).set hbid none).new _,fun i r hi hne=>?_⟩
  · have:=E8 (h:=h.set id none) (r:=⟨cs ++ ys,true⟩)
    rwa [List.length_set] at this
  · have hlt:=B8 hi
    rw [G5 (by simpa using hlt),C7 (Ne.symm hne)]
    exact hi
theorem A2N {h:A0} {id:Nat} {cs:List Cell} (hr:rd h id=some ⟨cs,true⟩) (hf:F9 cs=true):newRow h id=true:=by simp [newRow,hr,hf]
theorem C7o {h:A0} {b id off n sz:Nat} {cs:List Cell} (hb:b ≤ id) (hr:rd h id=some ⟨cs,true⟩) (hf:F9 cs=true):J9 h b (.c (.sl id off n sz))=some (.c (.sl b off n sz),[id]):=by
  have:¬ id < b:=by omega
  simp [J9,H7,hb,this,A2N hr hf]
theorem D21 {F:List Val → A0 → Option (Val × A0)} {args:List Val} {h h':A0} {v:Val} {sz n:Nat} {cs:List Cell} (he:F args (ro h)=some (v,h')) (ho:Out h.length h' v sz n cs) (hf:F9 cs=true) :
    tidy F args h=some (.c (.sl h.length 0 n sz),h ++ [some ⟨cs,true⟩]):=by
  obtain ⟨hl,id,rfl,hb,hr⟩:=ho
  rw [A9x he (C7o hb hr hf)]
  simp [hr]
def encI (l:List Int):List Cell:=l.map fun n=>.i .i64 n
theorem G6 (l:List Int):(encI l).length=l.length:=by simp [encI]
theorem A75 (l:List Int) (i:Nat) (x:Int):(encI l).set i (.i .i64 x)=encI (l.set i x):=by simp [encI,List.map_set]
theorem R5 (l:List Int) (i:Nat):(encI l)[i]? = (l[i]?).map fun x=>.i .i64 x:=by simp [encI]
theorem A5A (l m:List Int):encI (l ++ m)=encI l ++ encI m:=by simp [encI]
theorem D0l (l:List Int):noX (encI l)=true:=by simp [noX,encI,Cell.isX]
@[simp] theorem C8H {l:List Int}:F9 (encI l)=true:=by simp [F9,encI,Cell.flat]
theorem B6k {l m:List Int}:encI l=encI m ↔ l=m:=by
  constructor
  · intro h
    exact List.map_inj_right (fun x y e=>by simpa using e) |>.1 h
  · rintro rfl;rfl
def encS (l:List (List UInt8)):List Cell:=l.map .s
theorem K0 (l:List (List UInt8)):(encS l).length=l.length:=by simp [encS]
theorem A3H (l:List (List UInt8)):noX (encS l)=true:=by simp [noX,encS,Cell.isX]
@[simp] theorem D38 {l:List (List UInt8)}:F9 (encS l)=true:=by simp [F9,encS,Cell.flat]
abbrev Fun:=List Val → A0 → Option (Val × A0)
abbrev A6:=Option (Val × A0)
def SOk (P:Program) (f:FuncId) (S:Fun):Prop:=∀ args h v h2,S args h=some (v,h2) → A0H P f ∧ CallOk P f args h v h2 ∧ h.length ≤ h2.length
def B1 (g:Nat) (S:Fun) (E:B0):B0:=fun f args h=>bif Nat.beq f g then S args h else E f args h
def C0:B0:=fun _ _ _=>none
theorem C2 {P:Program}:N7 P C0:=fun _ _ _ _ _ h=>by cases h
theorem B3 {P:Program} {g:Nat} {S:Fun} {E:B0} (hs:SOk P g S) (hE:N7 P E):N7 P (B1 g S E):=by
  intro f args h v h2 he
  unfold B1 at he
  cases hb:Nat.beq f g with
  | true=>rw [hb] at he;have e:=Nat.eq_of_beq_eq_true hb;subst e;exact hs args h v h2 he
  | false=>rw [hb] at he;exact hE f args h v h2 he
structure FnK (P:Program) (f:FuncId) (A:AFn) (E:B0) (R:Nat → Fun):Prop where
  run:∀ n args h,A.run E n args h=R n args h
  ok:SOk P f (Lim A E)
theorem FnK.mk' {P:Program} {f:FuncId} {fn:Func} {A:AFn} {E:B0} {R:Nat → Fun} (hE:N7 P E) (hf:P.funcs[f]? = some fn) (hc:B1M P fn A=true) (hr:∀ n args h,A.run E n args h=R n args h):FnK P f A E R :=
  ⟨hr,fun _ _ _ _ he=>(C1Z he).elim fun _ e=>C8P hE hf hc e⟩
section
variable {P:Program} {f:FuncId} {A:AFn} {E:B0} {R:Nat → Fun}
theorem FnK.of (K:FnK P f A E R) {n:Nat} {args:List Val} {h:A0} {p:Val × A0} (he:R n args h=some p):Lim A E args h=some p:=C1Y ((K.run ..).trans he)
theorem FnK.sok (K:FnK P f A E R):SOk P f (tidy (Lim A E)):=fun args h v h2 he=>D20 K.ok args h v h2 he
theorem FnK.flat (K:FnK P f A E R) {n:Nat} {args:List Val} {h h2:A0} {v:Val} (he:R n args (ro h)=some (v,h2)) (hf:v.flat=true):tidy (Lim A E) args h=some (v,h):=D2Y (K.of he) hf
theorem FnK.low (K:FnK P f A E R) {n:Nat} {args:List Val} {h h2:A0} {v:Val} (he:R n args (ro h)=some (v,h2)) (hf:v.low h.length=true):tidy (Lim A E) args h=some (v,h):=D2Z (K.of he) hf
theorem FnK.out (K:FnK P f A E R) {n:Nat} {args:List Val} {h h2:A0} {v:Val} {sz k:Nat} {cs:List Cell} (he:R n args (ro h)=some (v,h2)) (ho:Out h.length h2 v sz k cs) (hf:F9 cs=true):tidy (Lim A E) args h=some (.c (.sl h.length 0 k sz),h ++ [some ⟨cs,true⟩]):=D21 (K.of he) ho hf
theorem FnK.tidy (K:FnK P f A E R) {n:Nat} {args:List Val} {h h2:A0} {v v2:Val} {ids:List Nat} (he:R n args (ro h)=some (v,h2)) (hc:J9 h2 h.length v=some (v2,ids)):Esc.tidy (Lim A E) args h=some (v2,h ++ ids.map (rd h2)):=A9x (K.of he) hc
end
abbrev C9 (R:Nat → Fun) (S:Fun):Prop:=∀ {n:Nat} {args:List Val} {h h2:A0} {v:Val},R n args (ro h)=some (v,h2) → v.flat=true → S args h=some (v,h)
abbrev C10 (R:Nat → Fun) (S:Fun):Prop:=∀ {n:Nat} {args:List Val} {h h2:A0} {v:Val},R n args (ro h)=some (v,h2) → v.low h.length=true → S args h=some (v,h)
abbrev U6 (R:Nat → Fun) (S:Fun):Prop:=∀ {n:Nat} {args:List Val} {h h2:A0} {v:Val} {sz k:Nat} {cs:List Cell},R n args (ro h)=some (v,h2) → Out h.length h2 v sz k cs → F9 cs=true → S args h=some (.c (.sl h.length 0 k sz),h ++ [some ⟨cs,true⟩])
abbrev A7A (R:Nat → Fun) (S:Fun):Prop:=∀ {n:Nat} {args:List Val} {h h2:A0} {v v2:Val} {ids:List Nat},R n args (ro h)=some (v,h2) → J9 h2 h.length v=some (v2,ids) → S args h=some (v2,h ++ ids.map (rd h2))
abbrev OfT (R:Nat → Fun) (S:Fun):Prop:=∀ {n:Nat} {args:List Val} {h:A0} {p:Val × A0},R n args h=some p → S args h=some p
end Go.Esc
end
section
namespace Go.Esc
open Go Go.ChangeShapes Go.WideShapes Go.ChangeAt Go.RowKit
def A5E (P:Program) (g:TypeId → Option (List Sh)):List Field → Nat → Option (List Sh)
  | [],_=>some []
  | f :: r,off=>if f.offset=off then (g f.type).bind fun l=>if l.length=P.cellsOf f.type then (A5E P g r (off + l.length)).map (l ++ ·) else none else none
def A1c (P:Program):Nat → TypeId → Option (List Sh)
  | 0,_=>none
  | n + 1,t=>match P.underlying t with
    | some .bool=>some [.b]
    | some (.int k)=>some [.i k]
    | some .string=>some [.s]
    | some (.struct fs)=>(A5E P (A1c P n) fs.toList 0).bind fun l=>if l.length=P.cellsOf t then some l else none
    | some (.array m e)=>(A1c P n e).bind fun l=>if l.length=P.cellsOf e ∧ P.cellsOf t=m * l.length then some (List.replicate m l).flatten else none
    | _=>none
def okCell:Sh → Cell → Prop
  | .b,.b _=>True
  | .i k,.i k' n=>k'=k ∧ k.min ≤ n ∧ n ≤ k.max
  | .s,.s l=>l.length ≤ maxLen
  | _,_=>False
theorem okCell.flat {s:Sh} {c:Cell} (h:okCell s c):c.flat=true ∧ c.isX=false:=by
  cases s <;> cases c <;> simp_all [okCell,Cell.flat,Cell.isX]
theorem B9s:∀ {l:List Sh} {cs:List Cell},All2 okCell l cs → F9 cs=true ∧ noX cs=true
  | [],[],_=>⟨rfl,rfl⟩
  | s :: l,c :: cs,⟨h1,h2⟩=>by
    have:=B9s h2
    have h3:=h1.flat
    simp [this.1,h3.1,noX,h3.2]
    have:=this.2
    simpa [noX] using this
  | [],_ :: _,h=>h.elim
  | _ :: _,[],h=>h.elim
section
variable {H:Type} {enc:TypeId × Value → H} {P:Program} {w:World} {base:Nat} {spare:Nat → Bool} {held:Bool} {fuel:Nat} {t:TypeId} {cs:List Value} {x:DataW H × List MemPlace}
theorem trod_array {n:Nat} {e:TypeId} (ht:P.underlying t=some (.array n e)) (h:DataW.trod enc P w base spare held fuel t cs=some x) :
    ∃ (m:Nat) (xs:List (DataW H × List MemPlace)),cs.length=P.cellsOf t ∧ ∀ i,i < n → ∃ y,DataW.trod enc P w base spare held m e ((cs.drop (i * P.cellsOf e)).take (P.cellsOf e))=some y:=by
  cases fuel with
  | zero=>simp [DataW.trod] at h
  | succ m =>
    unfold DataW.trod at h
    rw [ht] at h
    have h':cs.length=P.cellsOf t ∧ ∃ xs,((List.range n).mapM fun i=>DataW.trod enc P w base spare held m e ((cs.drop (i * P.cellsOf e)).take (P.cellsOf e)))=some xs:=by
      split at h <;> simp_all
      obtain ⟨hl,xs,hp,hd⟩:=h
      exact ⟨xs,hp⟩
    obtain ⟨hl,xs,hp⟩:=h'
    refine ⟨m,xs,hl,fun i hi=>?_⟩
    have:=mapM_some_get hp i i (by simp [hi])
    rw [this]
    have hxl:xs.length=n:=by simpa using mapM_some_length hp
    exact ⟨xs[i],List.getElem?_eq_getElem (by omega)⟩
theorem A9b (μ:Mu):∀ (n:Nat) {t:TypeId} {fuel:Nat} {cs:List Value} {x:DataW H × List MemPlace} {sh:List Sh},DataW.trod enc P w base spare held fuel t cs=some x → A1c P n t=some sh →
    ∃ cells,All2 (RC μ) cells cs ∧ All2 okCell sh cells
  | 0,_,_,_,_,_,_,hs=>by simp [A1c] at hs
  | n + 1,t,fuel,cs,x,sh,h,hs=>by
    unfold A1c at hs
    split at hs
    · rename_i ht
      cases hs
      obtain ⟨b,rfl,_⟩:=DataW.trod_bool ht h
      exact ⟨[.b b],⟨rfl,trivial⟩,⟨trivial,trivial⟩⟩
    · rename_i k ht
      cases hs
      obtain ⟨m,rfl,_,hw⟩:=DataW.trod_int ht h
      simp only [Lit.wf,Bool.and_eq_true,decide_eq_true_eq] at hw
      exact ⟨[.i k m],⟨rfl,trivial⟩,⟨⟨rfl,hw⟩,trivial⟩⟩
    · rename_i ht
      cases hs
      obtain ⟨s,rfl,_,hw⟩:=DataW.trod_string ht h
      exact ⟨[.s s.data.toList],⟨by show Value.string s=.string ⟨s.data.toList.toArray⟩;simp,trivial⟩,⟨by show s.data.toList.length ≤ maxLen;simpa using hw,trivial⟩⟩
    · rename_i fs ht
      simp only [Option.bind_eq_some_iff] at hs
      obtain ⟨l,hl,hs⟩:=hs
      split at hs
      · rename_i hlen
        cases hs
        obtain ⟨xs,m,_,_,hcl,hxl,hf⟩:=DataW.trod_struct ht h
        have key:∀ (r:List Field) (off:Nat) (l:List Sh),A5E P (A1c P n) r off=some l → (∀ f ∈ r,∃ y,DataW.trod enc P w base spare held m f.type ((cs.drop f.offset).take (P.cellsOf f.type))=some y) →
            ∃ cells,All2 (RC μ) cells ((cs.drop off).take l.length) ∧ All2 okCell l cells:=by
          intro r
          induction r with
          | nil=>intro off l hl _;simp only [A5E,Option.some.injEq] at hl;subst hl;exact ⟨[],by simp,trivial⟩
          | cons f r ih =>
            intro off l hl hall
            simp only [A5E] at hl
            split at hl
            · rename_i ho
              simp only [Option.bind_eq_some_iff] at hl
              obtain ⟨lf,hlf,hl⟩:=hl
              split at hl
              · rename_i hc
                simp only [Option.map_eq_some_iff] at hl
                obtain ⟨lr,hlr,rfl⟩:=hl
                obtain ⟨y,hy⟩:=hall f (by simp)
                obtain ⟨c1,g1,g2⟩:=A9b μ n hy hlf
                obtain ⟨c2,g3,g4⟩:=ih (off + lf.length) lr hlr fun f' hf'=>hall f' (by simp [hf'])
                refine ⟨c1 ++ c2,?_,g2.append g4⟩
                have e:(cs.drop off).take (lf ++ lr).length=(cs.drop off).take lf.length ++ (cs.drop (off + lf.length)).take lr.length:=by
                  rw [List.length_append,List.take_add,List.drop_drop]
                rw [e]
                rw [ho,← hc] at g1
                exact g1.append g3
              · cases hl
            · cases hl
        have h1:=key fs.toList 0 _ hl fun f hf'=>by
          obtain ⟨i,hi⟩:=List.mem_iff_getElem?.1 hf'
          have hi2:fs[i]? = some f:=by simpa using hi
          rw [hf i f hi2]
          have:i < fs.size:=(Array.getElem?_eq_some_iff.1 hi2).1
          exact ⟨xs[i],List.getElem?_eq_getElem (by omega)⟩
        rw [List.drop_zero,List.take_of_length_le (by omega)] at h1
        exact h1
      · cases hs
    · rename_i k e ht
      simp only [Option.bind_eq_some_iff] at hs
      obtain ⟨l,hl,hs⟩:=hs
      split at hs
      · rename_i hlen
        cases hs
        obtain ⟨m,xs,hcl,hall⟩:=trod_array ht h
        have key:∀ d j,j + d=k → ∃ cells,All2 (RC μ) cells (cs.drop (j * l.length)) ∧ All2 okCell (List.replicate d l).flatten cells:=by
          intro d
          induction d with
          | zero =>
            intro j hj
            have:cs.drop (j * l.length)=[]:=List.drop_of_length_le (by rw [hcl,hlen.2];have:j=k:=(by omega);subst this;exact Nat.le_refl _)
            rw [this]
            exact ⟨[],trivial,trivial⟩
          | succ d ih =>
            intro j hj
            obtain ⟨y,hy⟩:=hall j (by omega)
            obtain ⟨c1,g1,g2⟩:=A9b μ n hy hl
            obtain ⟨c2,g3,g4⟩:=ih (j + 1) (by omega)
            refine ⟨c1 ++ c2,?_,?_⟩
            · rw [← hlen.1] at g1
              have e2:cs.drop (j * l.length)=(cs.drop (j * l.length)).take l.length ++ cs.drop ((j + 1) * l.length):=by
                rw [Nat.add_mul,Nat.one_mul,← List.drop_drop,List.take_append_drop]
              rw [e2]
              exact g1.append g3
            · rw [List.replicate_succ,List.flatten_cons];exact g2.append g4
        have h1:=key k 0 (by omega)
        simpa using h1
      · cases hs
    · cases hs
end
def Mu.set (μ:Mu) (id:Nat) (y:Option (Nat × Nat)):Mu:=fun j=>if j=id then y else μ j
theorem Mu.le_set {μ:Mu} {id:Nat} {y:Option (Nat × Nat)} (h:μ id=Option.none):μ.le (μ.set id y):=by
  intro j x hj
  unfold Mu.set
  by_cases e:j=id
  · subst e;rw [h] at hj;cases hj
  · simp [e,hj]
theorem Inv.addRow {W:World} {h:A0} {μ:Mu} (hi:Inv (A2B W) μ h W) (hro:∀ id r,rd h id=some r → r.own=false) {y:Option (Nat × Nat)} {cs:List Cell} (hown:(Row.mk cs false).own=false) (hrow:RowOk (μ.set h.length y) W h.length ⟨cs,false⟩) :
    Inv (A2B W) (μ.set h.length y) (h ++ [some ⟨cs,false⟩]) W ∧ ∀ id r,rd (h ++ [some ⟨cs,false⟩]) id=some r → r.own=false:=by
  have hm:μ h.length=Option.none:=hi.dom _ (Nat.le_refl _)
  have get:∀ id r,rd (h ++ [some ⟨cs,false⟩]) id=some r → (id < h.length ∧ rd h id=some r) ∨ (id=h.length ∧ r=⟨cs,false⟩):=by
    intro id r hr
    by_cases hl:id < h.length
    · rw [G5 hl] at hr;exact .inl ⟨hl,hr⟩
    · have hlt:=B8 hr
      simp at hlt
      have:id=h.length:=by omega
      subst this
      rw [E8] at hr
      cases hr
      exact .inr ⟨rfl,rfl⟩
  have ro':∀ id r,rd (h ++ [some ⟨cs,false⟩]) id=some r → r.own=false:=by
    intro id r hr
    rcases get id r hr with ⟨_,h1⟩ | ⟨_,rfl⟩
    · exact hro id r h1
    · exact hown
  refine ⟨⟨?_,?_,?_,?_,hi.ctx⟩,ro'⟩
  · intro id r hr
    rcases get id r hr with ⟨hl,h1⟩ | ⟨rfl,rfl⟩
    · exact (hi.rows id r h1).mono (Mu.le_set hm) (by simp [Mu.set];omega) fun _ _=>rfl
    · exact hrow
  · intro id id' r r' x x' hr _ hw
    rw [ro' id r hr] at hw;cases hw
  · intro id r x hr hw
    rw [ro' id r hr] at hw;cases hw
  · intro id hl
    simp at hl
    have:id ≠ h.length:=by omega
    simp only [Mu.set,this,if_false]
    exact hi.dom id (by omega)
theorem B9C {μ:Mu} {k:Nat} {cs:List Cell} {vs:List Value} (h:All2 (RC μ) cs vs):(Row.mk (List.replicate k .dark ++ cs) false).own=false:=by
  cases k with
  | succ k=>rfl
  | zero =>
    cases cs with
    | nil=>rfl
    | cons c cs =>
      cases vs with
      | nil=>exact h.elim
      | cons v vs =>
        have h1:=h.1
        cases c <;> first | rfl | exact h1.elim
def Opened (W:World) (μ:Mu) (h:A0):Prop:=Inv (A2B W) μ h W ∧ ∀ id r,rd h id=some r → r.own=false
theorem Opened.nought (W:World):Opened W (fun _=>Option.none) []:=⟨Inv.nought W,fun id r h=>by simp [rd] at h⟩
section
variable {H:Type} {enc:TypeId × Value → H} {P:Program} {W:World} {base:Nat} {held:Bool} {t:TypeId}
theorem B5T {W:World} {a:Addr} {C:Array Value} {elem:TypeId} {fz:Nat × Nat} {k:Nat} (hC:W.heap[a.block]? = some (.cells C elem fz)) (hs:a.spot=none):W.cell? (a.add k)=C[a.off + k]? := by
  have h1:(a.add k).block=a.block:=by unfold Addr.add;split <;> rfl
  have h2:(a.add k).spot=none:=by unfold Addr.add;split <;> simp_all
  have h3:(a.add k).off=a.off + k:=by unfold Addr.add;split <;> simp_all
  unfold World.cell?
  rw [h1,hC,h3]
  simp [h2]
end
def C84 (k:IntKind) (n:Int):Prop:=k.min ≤ n ∧ n ≤ k.max
theorem C85 {n:Int}:C84 .u8 n ↔ 0 ≤ n ∧ n ≤ 255:=Iff.rfl
theorem B9v:∀ {n:Nat} {cells:List Cell},All2 okCell (List.replicate n (.i .u8)) cells → ∃ l:List UInt8,cells=A1 l ∧ l.length=n
  | 0,[],_=>⟨[],rfl,rfl⟩
  | n + 1,c :: cs,h=>by
    rw [List.replicate_succ] at h
    obtain ⟨l,rfl,hl⟩:=B9v h.2
    have h1:=h.1
    cases c with
    | i k m =>
      obtain ⟨rfl,h2⟩:=h1
      have h3:=C85.1 h2
      refine ⟨UInt8.ofNat m.toNat :: l,?_,by simp [hl]⟩
      simp only [A1,List.map_cons,List.cons.injEq,Cell.i.injEq,true_and,and_true]
      rw [UInt8.toNat_ofNat'];omega
    | _=>exact h1.elim
  | 0,_ :: _,h=>h.elim
  | n + 1,[],h=>by rw [List.replicate_succ] at h;exact h.elim
section
variable {H:Type} {enc:TypeId × Value → H} {P:Program} {W:World} {base:Nat} {spare:Nat → Bool} {held:Bool} {t:TypeId} {r:Reach} {b0 n:Nat} {v:Value} {d:DataW H} {ps:List MemPlace}
end
end Go.Esc
end
section
namespace Go.Esc
open Go
theorem Has.tr {h:A0} {id sz n:Nat} {cs:List Cell} (hr:rd h id=some ⟨cs,true⟩) (hl:cs.length=n * sz) (hx:noX cs=true):Has h (.c (.sl id 0 n sz)) sz n cs:=Has.row hr hl hx
theorem Has.since {g h:A0} {v:Val} {sz n:Nat} {cs:List Cell} (hv:Has g v sz n cs) (h1:Low g.length g h):Has h v sz n cs:=by
  rcases hv with hv | ⟨id,off,r,rfl,hr,h2⟩
  · exact .inl hv
  · exact .inr ⟨id,off,r,rfl,by rw [h1.2.2 id (B8 hr)];exact hr,h2⟩
theorem Low.rd {g h:A0} (h1:Low g.length g h) {id:Nat} {r:Row} (hr:rd g id=some r):rd h id=some r:=by
  rw [h1.2.2 id (B8 hr)];exact hr
theorem push {g h:A0} {id n sz:Nat} {cs ys:List Cell} (hlow:Low g.length g h) (hr:rd h id=some ⟨cs,true⟩) (hl:cs.length=n * sz) (hb:g.length ≤ id) (hy:ys.length=sz) (hsz:0 < sz) (hn:n + 1 ≤ 1073741824) :
    ∃ h',F0 (h ++ [some ⟨ys,true⟩]) sz (.c (.sl id 0 n sz)) (.c (.sl h.length 0 1 sz))=some (.c (.sl (h.length + 1) 0 (n + 1) sz),h') ∧ rd h' (h.length + 1)=some ⟨cs ++ ys,true⟩ ∧ Low g.length g h' ∧ g.length ≤ h.length + 1 ∧ (cs ++ ys).length=(n + 1) * sz:=by
  have hlt:=B8 hr
  have h1:rd (h ++ [some ⟨ys,true⟩]) id=some ⟨cs,true⟩:=B6 hr
  have h2:M4 (h ++ [some ⟨ys,true⟩]) sz (.c (.sl h.length 0 1 sz))=some ys:=by
    have:=(Has.row (h:=h ++ [some ⟨ys,true⟩]) (id:=h.length) (sz:=sz) (n:=1) (cs:=ys) (rw:=true) (by simp) (by omega))
    simp [M4,W7,hy,List.take_of_length_le (Nat.le_of_eq hy)]
  refine ⟨(h ++ [some (Row.mk ys true)]).set id none ++ [some (Row.mk (cs ++ ys) true)],?_,?_,((hlow.new _).set hb none).new _,by have:=hlow.2.1;omega,by simp [hl,hy,Nat.add_mul]⟩
  · simp only [F0,h2,h1,Option.bind_some,hy,Nat.div_self hsz]
    rw [if_pos ⟨trivial,trivial,hl.symm,trivial,hn⟩]
    simp
  · have:=E8 (h:=(h ++ [some (Row.mk ys true)]).set id none) (r:=Row.mk (cs ++ ys) true)
    rw [List.length_set] at this
    simpa using this
def ldN (r:Option Row) (off n:Nat):Option Val:=r.bind fun r=>if off + n ≤ r.cells.length ∧ (r.rw || noX ((r.cells.drop off).take n))=true then some (.a ((r.cells.drop off).take n)) else none
def ld1 (r:Option Row) (off:Nat):Option Val:=r.bind fun r=>(r.cells[off]?).bind fun c=>bif r.rw || !c.isX then some (.c c) else none
def stN (r:Option Row) (off n:Nat) (xs:List Cell):Option Row:=r.bind fun r=>if r.rw=true ∧ xs.length=n ∧ off + n ≤ r.cells.length then some ⟨lay r.cells off xs,true⟩ else none
def st1 (r:Option Row) (off:Nat) (x:Cell):Option Row:=r.bind fun r=>if r.rw=true ∧ off < r.cells.length then some ⟨r.cells.set off x,true⟩ else none
def slr (r:Option Row) (id off n sz:Nat):Option Val:=r.bind fun r=>if off + n * sz ≤ r.cells.length ∧ (r.rw=true ∨ Option.any (fun c=>!c.isX) r.cells[off]? = true) then some (.c (.sl id off n sz)) else none
section
variable {h:A0} {l:List (Option Row)} {k off n sz:Nat} {cs xs:List Cell} {x:Cell} {kd:IntKind}
theorem A0T:A4 (h ++ l) n (.c (.p (h.length + k) off))=ldN (l[k]?).join off n:=by simp [A4,ldN]
theorem X1:A4 (h ++ l) n (.c (.p h.length off))=ldN (l[0]?).join off n:=by simp [A4,ldN]
theorem A7E:A3 (h ++ l) (.c (.p (h.length + k) off))=ld1 (l[k]?).join off:=by simp [A3,ld1]
theorem T8:A3 (h ++ l) (.c (.p h.length off))=ld1 (l[0]?).join off:=by simp [A3,ld1]
theorem A2s:B4 (h ++ l) n (.c (.p (h.length + k) off)) (.a xs)=mp (stN (l[k]?).join off n xs) fun r=>h ++ l.set k (some r):=by
  simp only [B4,stN,A2S]
  cases (l[k]?).join with
  | none=>rfl
  | some r=>simp only [Option.bind_some];split <;> simp [mp]
theorem A0o:B4 (h ++ l) n (.c (.p h.length off)) (.a xs)=mp (stN (l[0]?).join off n xs) fun r=>h ++ l.set 0 (some r):=A2s (k:=0)
theorem A2r:E7 (h ++ l) (.c (.p (h.length + k) off)) (.c x)=mp (st1 (l[k]?).join off x) fun r=>h ++ l.set k (some r):=by
  simp only [E7,st1,A2S]
  cases (l[k]?).join with
  | none=>rfl
  | some r=>simp only [Option.bind_some];split <;> simp [mp]
theorem C6X:E7 (h ++ l) (.c (.p h.length off)) (.c x)=mp (st1 (l[0]?).join off x) fun r=>h ++ l.set 0 (some r):=A2r (k:=0)
theorem B5f:X3 (h ++ l) n sz (.c (.p (h.length + k) off)) none none=slr (l[k]?).join (h.length + k) off n sz:=by
  simp [X3,slr,bound]
theorem C6W:X3 (h ++ l) n sz (.c (.p h.length off)) none none=slr (l[0]?).join h.length off n sz:=B5f (k:=0)
theorem Q0 (hl:cs.length=n):ldN (some ⟨cs,true⟩) 0 n=some (.a cs):=by
  subst hl;simp [ldN]
theorem B2H:ld1 (some ⟨cs,true⟩) off=(cs[off]?).map .c:=by
  simp only [ld1,Option.bind_some,Bool.true_or,cond_true]
  cases cs[off]? <;> rfl
theorem A9r (hl:cs.length=n) (hx:xs.length=n):stN (some ⟨cs,true⟩) 0 n xs=some ⟨xs,true⟩:=by
  simp only [stN,Option.bind_some]
  rw [if_pos ⟨trivial,hx,by omega⟩,lay_all (by omega)]
theorem D2I (ho:off < cs.length):st1 (some ⟨cs,true⟩) off x=some ⟨cs.set off x,true⟩:=by
  simp only [st1,Option.bind_some]
  rw [if_pos ⟨trivial,ho⟩]
theorem D2B (hl:cs.length=n) {id:Nat}:slr (some ⟨cs,true⟩) id 0 n 1=some (.c (.sl id 0 n 1)):=by
  simp only [slr,Option.bind_some]
  rw [if_pos ⟨by show 0 + n * 1 ≤ cs.length;omega,.inl trivial⟩]
end
section
variable {k:IntKind} {a b:Int}
theorem B1g {k':IntKind} (hb:0 ≤ b):A2 .shl (.c (.i k a)) (.c (.i k' b))=some (.c (.i k (k.wrap (a * 2 ^ (Nat.min b.toNat k.bits))))):=by
  simp only [A2,B2E];rw [if_neg (by omega)];rfl
theorem B1h {k':IntKind} (hb:0 ≤ b):A2 .shr (.c (.i k a)) (.c (.i k' b))=some (.c (.i k (a / (2 ^ (Nat.min b.toNat k.bits))))):=by
  simp only [A2,B2F];rw [if_neg (by omega),Int.fdiv_eq_ediv_of_nonneg _ (Int.pow_nonneg (by omega))];rfl
end
theorem D0O {a b:Nat} (ha:a < 18446744073709551616) (hb:b < 18446744073709551616):A2 .or (.c (.i .u64 a)) (.c (.i .u64 b))=some (.c (.i .u64 ((a ||| b:Nat):Int))):=by
  rw [B4K]
  congr 3
  have h1:(IntKind.u64).bits=64:=rfl
  have h2:(a ||| b) < 2 ^ 64:=Nat.or_lt_two_pow (by simpa using ha) (by simpa using hb)
  rw [h1]
  simp only [BitVec.ofInt_natCast,BitVec.toNat_or,BitVec.toNat_ofNat]
  rw [Nat.mod_eq_of_lt (by simpa using ha),Nat.mod_eq_of_lt (by simpa using hb)]
  exact wrap_u64 (by omega) (by omega)
theorem D0N {a b:Nat} (ha:a < 9223372036854775808) (hb:b < 9223372036854775808):A2 .or (.c (.i .i64 a)) (.c (.i .i64 b))=some (.c (.i .i64 ((a ||| b:Nat):Int))):=by
  rw [B4K]
  congr 3
  have h1:(IntKind.i64).bits=64:=rfl
  have h2:(a ||| b) < 2 ^ 63:=Nat.or_lt_two_pow (by simpa using ha) (by simpa using hb)
  rw [h1]
  simp only [BitVec.ofInt_natCast,BitVec.toNat_or,BitVec.toNat_ofNat]
  rw [Nat.mod_eq_of_lt (by omega),Nat.mod_eq_of_lt (by omega)]
  exact wrap_i64 (by omega) (by omega)
theorem D3V {a b:Nat} (ha:a < 4294967296) (hb:b < 4294967296):A2 .xor (.c (.i .u32 a)) (.c (.i .u32 b))=some (.c (.i .u32 ((a ^^^ b:Nat):Int))):=by
  rw [C6v]
  congr 3
  have h1:(IntKind.u32).bits=32:=rfl
  have h2:(a ^^^ b) < 2 ^ 32:=Nat.xor_lt_two_pow (by simpa using ha) (by simpa using hb)
  rw [h1]
  simp only [BitVec.ofInt_natCast,BitVec.toNat_xor,BitVec.toNat_ofNat]
  rw [Nat.mod_eq_of_lt (by omega),Nat.mod_eq_of_lt (by omega)]
  exact wrap_u32 (by omega) (by omega)
theorem C6O {a b:Nat} (ha:a < 4294967296) (hb:b < 4294967296):A2 .and (.c (.i .u32 a)) (.c (.i .u32 b))=some (.c (.i .u32 ((a &&& b:Nat):Int))):=by
  rw [C6m]
  congr 3
  have h1:(IntKind.u32).bits=32:=rfl
  have h2:(a &&& b) ≤ a:=Nat.and_le_left
  rw [h1]
  simp only [BitVec.ofInt_natCast,BitVec.toNat_and,BitVec.toNat_ofNat]
  rw [Nat.mod_eq_of_lt (by omega),Nat.mod_eq_of_lt (by omega)]
  exact wrap_u32 (by omega) (by omega)
theorem C1U {a:Int}:IntKind.wrap .u8 a=a % 256:=by
  simp only [IntKind.wrap,IntKind.bits,IntKind.signed,Bool.false_and]
  rfl
theorem D0M {a b i:Nat} (ha:a < 2 ^ i):(a ||| b * 2 ^ i)=a + b * 2 ^ i:=by
  rw [Nat.mul_comm b,Nat.or_comm,← Nat.two_pow_add_eq_or_of_lt ha];omega
theorem A0F {a b:Nat} (h:a + b < 9223372036854775808):IntKind.wrap .i64 ((a:Int) + b)=((a + b:Nat):Int):=by rw [wrap_i64 (by omega) (by omega)];omega
theorem E2 {a:Nat} (h:a + 1 < 9223372036854775808):IntKind.wrap .i64 ((a:Int) + 1)=((a + 1:Nat):Int):=by rw [wrap_i64 (by omega) (by omega)];omega
theorem C0r {k:IntKind} {x:UInt8} {i:Nat} (hi:i < 8) (hk:IntKind.wrap k ((x.toNat * 256 ^ i:Nat):Int)=((x.toNat * 256 ^ i:Nat):Int)) (hb:k.bits=64) :
    A2 .shl (.c (.i k x.toNat)) (.c (.i .u64 (8 * (i:Int))))=some (.c (.i k ((x.toNat * 256 ^ i:Nat):Int))):=by
  rw [B1g (by omega),hb]
  have:Nat.min (8 * (i:Int)).toNat 64=8 * i:=by
    have:(8 * (i:Int)).toNat=8 * i:=by omega
    rw [this];exact Nat.min_eq_left (by omega)
  rw [this]
  have hp:(256:Nat) ^ i=2 ^ (8 * i):=by rw [Nat.pow_mul]
  have e:(x.toNat:Int) * 2 ^ (8 * i)=((x.toNat * 256 ^ i:Nat):Int):=by rw [hp];simp
  rw [e,hk]
theorem A9f {i n:Nat} (h:i ≤ n):256 ^ i ≤ 256 ^ n:=Nat.pow_le_pow_right (by omega) h
theorem B5K {x:UInt8} {i n:Nat} (h:i < n):x.toNat * 256 ^ i < 256 ^ n:=by
  have h1:=x.toNat_lt
  have h2:x.toNat * 256 ^ i ≤ 255 * 256 ^ i:=Nat.mul_le_mul_right _ (by omega)
  have h3:256 ^ (i + 1) ≤ 256 ^ n:=A9f h
  have h4:0 < 256 ^ i:=Nat.pow_pos (by omega)
  rw [Nat.pow_succ] at h3
  omega
def byI (v:Int) (i:Nat):UInt8:=UInt8.ofNat ((v / 256 ^ i) % 256).toNat
theorem B1E (v:Int) (i:Nat):((byI v i).toNat:Int)=v / 256 ^ i % 256:=by
  have h1:0 ≤ v / 256 ^ i % 256:=Int.emod_nonneg _ (by omega)
  have h2:v / 256 ^ i % 256 < 256:=Int.emod_lt_of_pos _ (by omega)
  unfold byI
  rw [UInt8.toNat_ofNat']
  omega
def C3 (w:Nat) (v:Int):List UInt8:=(List.range w).map (byI v)
@[simp] theorem A2w {w:Nat} {v:Int}:(C3 w v).length=w:=by simp [C3]
theorem B5O {w:Nat} {v:Int}:C3 (w + 1) v=C3 w v ++ [byI v w]:=by simp [C3,List.range_succ]
def le:List UInt8 → Nat
  | []=>0
  | x :: r=>x.toNat + 256 * le r
theorem A5O:∀ l:List UInt8,le l < 256 ^ l.length
  | []=>by simp [le]
  | x :: r=>by
    have h1:=A5O r
    have h2:=x.toNat_lt
    simp only [le,List.length_cons,Nat.pow_succ]
    omega
theorem C9M (l m:List UInt8):le (l ++ m)=le l + 256 ^ l.length * le m:=by
  induction l with
  | nil=>simp [le]
  | cons x r ih =>
    simp only [List.cons_append,le,ih,List.length_cons,Nat.pow_succ,Nat.mul_add]
    rw [Nat.mul_comm (256 ^ r.length) 256,Nat.mul_assoc]
    omega
theorem C9N (l:List UInt8) (x:UInt8):le (l ++ [x])=le l + x.toNat * 256 ^ l.length:=by
  rw [C9M];simp [le,Nat.mul_comm]
theorem B9A {l:List UInt8} {x:UInt8}:(le l ||| x.toNat * 256 ^ l.length)=le (l ++ [x]):=by
  have hp:(256:Nat) ^ l.length=2 ^ (8 * l.length):=by rw [Nat.pow_mul]
  rw [C9N,hp,D0M (by rw [← hp];exact A5O l)]
theorem B5L {v:Int} {i:Nat} (hi:i < 8):IntKind.wrap .u8 (v / 2 ^ (Nat.min (8 * (i:Int)).toNat 64))=((byI v i).toNat:Int):=by
  have:Nat.min (8 * (i:Int)).toNat 64=8 * i:=by
    have:(8 * (i:Int)).toNat=8 * i:=by omega
    rw [this];exact Nat.min_eq_left (by omega)
  rw [this,C1U,B1E]
  congr 2
  rw [Int.pow_mul];rfl
theorem B3y {α:Type} {l:List α} {a i:Nat} (h:a + i < l.length):(l.drop a).take (i + 1)=(l.drop a).take i ++ [l[a + i]]:=by
  have h2:i < (l.drop a).length:=by simp;omega
  rw [List.take_succ_eq_append_getElem h2]
  simp
def D2 (l:List UInt8) (a:Nat) (xs:List UInt8):List UInt8:=l.take a ++ (xs ++ l.drop (a + xs.length))
theorem A0a {l xs:List UInt8} {a:Nat} (h:a + xs.length ≤ l.length):(D2 l a xs).length=l.length:=by
  simp [D2];omega
theorem A8H {l:List UInt8} {a:Nat}:D2 l a []=l:=by simp [D2]
theorem A8I {l xs:List UInt8} {a:Nat} {x:UInt8} (h:a + xs.length < l.length):(D2 l a xs).set (a + xs.length) x=D2 l a (xs ++ [x]):=by
  unfold D2
  have h1:(l.take a).length=a:=by simp;omega
  rw [List.set_append_right _ _ (by rw [h1];omega),h1,Nat.add_sub_cancel_left,List.set_append_right _ _ (Nat.le_refl _),Nat.sub_self,List.append_assoc]
  congr 2
  rw [List.drop_eq_getElem_cons (by omega)]
  simp [Nat.add_assoc]
theorem A03 {s:List UInt8} {i:Nat} (hi:i < s.length) {k:IntKind}:U7 (.c (.s s)) (.c (.i k i))=some (.c (.i .u8 s[i].toNat)):=by
  rw [C6K,List.getElem?_eq_getElem hi];rfl
theorem B6j (l:List UInt8):(A1 l).map Cell.sh=(List.replicate l.length (Sh.i .u8)).map some:=by
  induction l with
  | nil=>rfl
  | cons x l ih=>simp only [A1,List.map_cons,List.length_cons,List.replicate_succ] at ih ⊢;rw [ih];rfl
theorem A76 (l:List Int):(encI l).map Cell.sh=(List.replicate l.length (Sh.i .i64)).map some:=by
  induction l with
  | nil=>rfl
  | cons x l ih=>simp only [encI,List.map_cons,List.length_cons,List.replicate_succ] at ih ⊢;rw [ih];rfl
theorem A7D {l m:List UInt8} {n:Nat} (hl:l.length=n) (hm:m.length=n):aeq true (List.replicate n (.i .u8)) (.a (A1 l)) (.a (A1 m))=some (.c (.b (!decide (l=m)))):=by
  simp only [aeq]
  rw [if_pos ⟨by rw [B6j,hl],by rw [B6j,hm]⟩]
  simp [C70]
theorem C6A {l m:List Int} {n:Nat} (hl:l.length=n) (hm:m.length=n):aeq true (List.replicate n (.i .i64)) (.a (encI l)) (.a (encI m))=some (.c (.b (!decide (l=m)))):=by
  simp only [aeq]
  rw [if_pos ⟨by rw [A76,hl],by rw [A76,hm]⟩]
  simp [B6k]
theorem C6z {l m:List Int} {n:Nat} (hl:l.length=n) (hm:m.length=n):aeq false (List.replicate n (.i .i64)) (.a (encI l)) (.a (encI m))=some (.c (.b (decide (l=m)))):=by
  simp only [aeq]
  rw [if_pos ⟨by rw [A76,hl],by rw [A76,hm]⟩]
  simp [B6k]
theorem D2v {h:A0} {l:List (Option Row)} {k n a b:Nat} {cs:List Cell} (hk:(l[k]?).join=some ⟨cs,true⟩) (hl:cs.length=n) (hab:a ≤ b) (hb:b ≤ n) :
    X3 (h ++ l) n 1 (.c (.p (h.length + k) 0)) (some (.c (.i .i64 (a:Int)))) (some (.c (.i .i64 (b:Int))))=some (.c (.sl (h.length + k) a (b - a) 1)):=by
  simp only [X3,A2S,hk,Option.bind_some,bound]
  rw [if_pos (by omega),if_pos (by omega)]
  simp only [Option.bind_some,Int.toNat_natCast]
  rw [if_pos ⟨hab,hb,by omega,rfl⟩]
  simp
theorem Has.part {h:A0} {id sz off n:Nat} {cs xs:List Cell} {rw:Bool} (hr:rd h id=some ⟨cs,rw⟩) (ho:off + n * sz ≤ cs.length) (he:(cs.drop off).take (n * sz)=xs) (hx:noX xs=true):Has h (.c (.sl id off n sz)) sz n xs :=
  .inr ⟨id,off,_,rfl,hr,by rw [← he];simp;omega,ho,he,hx⟩
def B8Z:Option Row → Bool
  | some r=>r.rw
  | none=>true
theorem D0i {cs:List Cell}:B8Z (some ⟨cs,true⟩)=true:=rfl
theorem D1i {g l l':A0} {v:Val} (hp:l <+: l') (hn:(l'.drop l.length).all B8Z=true):quiet (g ++ l) (some (v,g ++ l'))=some (v,g ++ l'):=by
  obtain ⟨t,rfl⟩:=hp
  rw [List.drop_left] at hn
  refine A51 ⟨⟨t,by rw [List.append_assoc]⟩,fun id x hid hx=>?_⟩
  have hx:=rd_some.1 hx
  rw [← List.append_assoc,List.getElem?_append_right hid] at hx
  exact List.all_eq_true.1 hn _ (List.mem_of_getElem? hx)
theorem I9 {id o off:Nat}:A7 (.c (.p id o)) off=some (.c (.p id (o + off))):=Eq.trans rfl rfl
theorem B3d {a b:Int} {k:IntKind} (ha:0 ≤ a) (hb:0 < b):A2 .rem (.c (.i k a)) (.c (.i k b))=some (.c (.i k (a % b))):=by
  rw [C6r (by omega),Int.tmod_eq_emod_of_nonneg ha]
theorem A52 {a b:Int} (ha:0 ≤ a) (ha2:a < 9223372036854775808) (hb:0 < b):A2 .quo (.c (.i .i64 a)) (.c (.i .i64 b))=some (.c (.i .i64 (a / b))):=by
  have h1:0 ≤ a / b:=Int.ediv_nonneg ha (by omega)
  have h2:a / b ≤ a:=Int.ediv_le_self _ ha
  rw [C6q (by omega),Int.tdiv_eq_ediv_of_nonneg ha,wrap_i64 (by omega) (by omega)]
theorem A0V {h:A0} {id jd n m sz:Nat} {cs ys:List Cell} {rw:Bool} (hr:rd h id=some ⟨cs,true⟩) (hl:cs.length=n * sz) (hy:rd h jd=some ⟨ys,rw⟩) (hyl:ys.length=m * sz) (hx:(rw || noX ys)=true) (hsz:0 < sz) (hn:n + m ≤ 1073741824) :
    F0 h sz (.c (.sl id 0 n sz)) (.c (.sl jd 0 m sz))=some (.c (.sl h.length 0 (n + m) sz),h.set id none ++ [some ⟨cs ++ ys,true⟩]):=by
  have h2:M4 h sz (.c (.sl jd 0 m sz))=some ys:=by
    simp only [M4,if_true,W7,hy,Option.bind_some,List.drop_zero,Nat.zero_add]
    rw [← hyl,List.take_length,if_pos ⟨Nat.le_refl _,hx⟩]
  have hd:ys.length / sz=m:=by rw [hyl];exact Nat.mul_div_cancel m hsz
  simp only [F0,h2,hr,Option.bind_some,hd]
  rw [if_pos ⟨trivial,trivial,hl.symm,trivial,hn⟩]
end Go.Esc
end
namespace Go.Esc
def esc:=And.intro @I9 (And.intro @List.append_nil.{0} (And.intro @if_true.{1} (And.intro @if_false.{1} (And.intro @B9 (And.intro @B2Q (And.intro @F6 (And.intro @F1 (And.intro @B7i (And.intro @A2I (And.intro @B7j (And.intro @A5G (And.intro @B2m (And.intro @C6L (And.intro @A0m (And.intro @C6M (And.intro @I0 (And.intro @C6u (And.intro @C6o (And.intro @A0l (And.intro @A1i (And.intro @D7 (And.intro @C6n (And.intro @B1e (And.intro @B4J (And.intro @B1f (And.intro @C6t (And.intro @C6s (And.intro @S9 (And.intro @C61 (And.intro @C6J (And.intro @C6C (And.intro @C6B (And.intro @C6D (And.intro @C6E (And.intro @C6P (And.intro @B1l (And.intro @C6y (And.intro @C6w (And.intro @W2 (And.intro @cond_true.{1} (And.intro @cond_false.{1} (And.intro @decide_true (And.intro @decide_false (And.intro @Bool.not_true (And.intro @Bool.not_false (And.intro @O0 (And.intro @O7 (And.intro @S4 (And.intro @A09 (And.intro @B22 (And.intro @C7p (And.intro @Z6 (And.intro @A1e (And.intro @D3K (And.intro @Option.map_some.{0,0} (And.intro @Option.some.injEq.{0} (And.intro @List.getElem?_cons_zero.{0} (And.intro @List.getElem?_cons_succ.{0} (And.intro @not_true_eq_false (And.intro @not_false_eq_true (And.intro @B9S (And.intro @A2w (And.intro @Option.join_some.{0} (And.intro @List.append_assoc.{0} (And.intro @List.cons_append.{0} (And.intro @List.nil_append.{0} (And.intro @List.length_append.{0} (And.intro @List.length_cons.{0} (And.intro @List.length_nil.{0} (And.intro @Nat.zero_add (And.intro @Nat.add_zero (And.intro @A2S (And.intro @D1k (And.intro @A9m (And.intro @D2l (And.intro @List.set_cons_zero.{0} (And.intro @List.set_cons_succ.{0} (And.intro @ne_eq.{1} (And.intro @decide_not (And.intro @D1i (And.intro @D0i (And.intro @List.cons_prefix_cons.{0} (And.intro @List.nil_prefix.{0} (And.intro @List.drop_succ_cons.{0} (And.intro @List.drop_zero.{0} (And.intro @List.all_cons.{0} (And.intro @List.all_nil.{0} (And.intro @Bool.and_true (And.intro @true_and (@and_true))))))))))))))))))))))))))))))))))))))))))))))))))))))))))))))))))))))))))))))))))))))))))
def esh:=And.intro @A0T (And.intro @X1 (And.intro @A7E (And.intro @T8 (And.intro @A2s (And.intro @A0o (And.intro @A2r (And.intro @C6X (And.intro @B5f (And.intro @C6W (And.intro @Q0 (And.intro @B2H (And.intro @A9r (And.intro @D2I (@D2B))))))))))))))
end Go.Esc
section
namespace Go.Proofs.YteckncopbicmcaaGreat
open Go Go.Esc
abbrev Dev:=List (List UInt8)
def F8 (D:Dev):List Cell:=(D.map A1).flatten
def okD (D:Dev):Prop:=∀ b ∈ D,b.length=256
theorem okD.cons {b:List UInt8} {D:Dev} (h:okD (b :: D)):b.length=256 ∧ okD D:=⟨h b (List.mem_cons_self ..),fun x hx=>h x (List.mem_cons_of_mem _ hx)⟩
theorem okD.at {D:Dev} (h:okD D) {i:Nat} (hi:i < D.length):D[i].length=256:=h _ (List.getElem_mem hi)
theorem okD.take {D:Dev} (h:okD D) (i:Nat):okD (D.take i):=fun b hb=>h b (List.mem_of_mem_take hb)
theorem A0Y {b:List UInt8} {D:Dev}:F8 (b :: D)=A1 b ++ F8 D:=rfl
theorem A2x:∀ {D:Dev},okD D → (F8 D).length=D.length * 256
  | [],_=>rfl
  | b :: D,h=>by
    rw [A0Y,List.length_append,B5,h.cons.1,A2x h.cons.2,List.length_cons];omega
theorem A8X:∀ (D:Dev),noX (F8 D)=true
  | []=>rfl
  | b :: D=>by
    rw [A0Y]
    have h1:=O6 b
    have h2:=A8X D
    simp only [noX,List.all_append,Bool.and_eq_true] at h1 h2 ⊢
    exact ⟨h1,h2⟩
theorem B6X:∀ {D:Dev},F9 (F8 D)=true
  | []=>rfl
  | b :: D=>by rw [A0Y,A8o,B6X,C8G];rfl
theorem A5x:∀ {D:Dev} {i:Nat} (h:okD D) (hi:i < D.length),((F8 D).drop (i * 256)).take 256=A1 D[i]
  | b :: D,0,h,hi=>by
    have hb:(A1 b).length=256:=by rw [B5,h.cons.1]
    rw [A0Y,Nat.zero_mul,List.drop_zero,← hb,List.take_left']
    · rfl
    · rfl
  | b :: D,i + 1,h,hi=>by
    have hb:(A1 b).length=256:=by rw [B5,h.cons.1]
    have e:(i + 1) * 256=256 + i * 256:=by omega
    rw [A0Y,e,← List.drop_drop,← hb,List.drop_left',hb]
    · exact A5x h.cons.2 (by simpa using hi)
    · rfl
theorem B8g:∀ {D:Dev} {i:Nat} {b:List UInt8} (h:okD D) (hb:b.length=256) (hi:i < D.length),lay (F8 D) (i * 256) (A1 b)=F8 (D.set i b)
  | c :: D,0,b,h,hb,hi=>by
    have e:(A1 c).length=256 + 0:=by rw [B5,h.cons.1]
    unfold lay
    rw [A0Y,List.set_cons_zero,A0Y,Nat.zero_mul,B5,hb,Nat.zero_add,List.take_zero,List.drop_left' (by rw [B5,h.cons.1])]
    rfl
  | c :: D,i + 1,b,h,hb,hi=>by
    have ih:=B8g (i:=i) h.cons.2 hb (by simpa using hi)
    have hc:(A1 c).length=256:=by rw [B5,h.cons.1]
    unfold lay at ih ⊢
    rw [A0Y,List.set_cons_succ,A0Y,show (i + 1) * 256=256 + i * 256 by omega,List.take_append,List.drop_append,List.take_of_length_le (by omega),List.drop_of_length_le (by omega),hc,show 256 + i * 256 - 256=i * 256 by omega,show 256 + i * 256 + (A1 b).length - 256=i * 256 + (A1 b).length by omega,← ih]
    simp only [List.append_assoc,List.nil_append]
theorem D1y (n:Nat):rows (List.replicate 256 (Cell.i .u8 0)) n=F8 (List.replicate n (zeros 256)):=by
  rw [M1]
  unfold rows F8
  rw [List.map_replicate]
theorem B9t (n:Nat):okD (List.replicate n (zeros 256)):=fun b hb=>by rw [List.eq_of_mem_replicate hb];exact zeros_length
theorem okD.set {D:Dev} (h:okD D) {i:Nat} {b:List UInt8} (hb:b.length=256):okD (D.set i b):=fun x hx=>by
  rcases List.mem_or_eq_of_mem_set hx with hx | rfl
  · exact h x hx
  · exact hb
theorem D2J {i:Nat} {D:Dev} {b:List UInt8} (hD:okD D) (hb:b.length=256) (hi:i < D.length):stN (some ⟨F8 D,true⟩) (i * 256) 256 (A1 b)=some ⟨F8 (D.set i b),true⟩:=by
  simp only [stN,Option.bind_some]
  rw [if_pos ⟨trivial,by rw [B5,hb],by rw [A2x hD];omega⟩,B8g hD hb hi]
def blk (D:Dev) (i:Int):List UInt8:=if 0 ≤ i then D.getD i.toNat (zeros 256) else zeros 256
theorem A0X {D:Dev} (h:okD D) {i:Int}:(blk D i).length=256:=by
  unfold blk
  split
  · rw [List.getD_eq_getElem?_getD]
    rcases Nat.lt_or_ge i.toNat D.length with hl | hl
    · rw [List.getElem?_eq_getElem hl];exact h.at hl
    · rw [List.getElem?_eq_none hl];exact zeros_length
  · exact zeros_length
theorem C65 {D:Dev} {i:Nat} (hi:i < D.length):blk D (i:Int)=D[i]:=by
  unfold blk
  rw [if_pos (by omega),Int.toNat_natCast,List.getD_eq_getElem?_getD,List.getElem?_eq_getElem hi];rfl
theorem C66 {D:Dev} {i:Int} (hi:i < 0 ∨ (D.length:Int) ≤ i):blk D i=zeros 256:=by
  unfold blk
  split
  · rw [List.getD_eq_getElem?_getD,List.getElem?_eq_none (by omega)];rfl
  · rfl
end Go.Proofs.YteckncopbicmcaaGreat
end
noncomputable section
namespace Go.Proofs.YteckncopbicmcaaGreat
open Go Go.Esc
set_option maxRecDepth 100000
def B9h:ACode:=.seq [1,3,6,16,17,18,19] (.ops [aO 19 (.bin .lss (.t 18) (.t 17))]) (.seq [1,3,6,16,17,18] (.cond (.t 19) .skip (.exit 0)) (.seq [1,3,6,16,17,18] (.block 1 (.seq [1,3,6,7,8,16,17,18] (.ops [aO 20 (.mv (.t 18)),aO 21 (.iAddrL 1 (.t 16) (.t 18)),aO 22 (.load1 (.t 21)),aO 7 (.mv (.t 20)),aO 8 (.mv (.t 22))]) (.seq [1,3,6,7,8,16,17,18] (.seq [1,3,6,7,8,16,17,18,26] (.ops [aO 23 (.mv (.t 7)),aO 24 (.mv (.t 1)),aO 25 (.bin .sub (.v (.c (.i .i64 256))) (.t 24)),aO 26 (.bin .geq (.t 23) (.t 25))]) (.cond (.t 26) (.exit 0) .skip)) (.ops [aO 27 (.mv (.t 1)),aO 28 (.mv (.t 7)),aO 29 (.bin .add (.t 27) (.t 28)),aO 30 (.mv (.t 8)),aO 31 (.iAddrA 256 1 (.t 3) (.t 29)),aN (.store1 (.t 31) (.t 30))])))) (.ops [aO 32 (.bin .add (.t 18) (.v (.c (.i .i64 1)))),aO 18 (.mv (.t 32))])))
def B2X:ACode:=.seq [6] (.ops [aO 33 (.loadN 256 (.t 3)),aN (.storeN 256 (.t 6) (.t 33))]) .ret
def A_num_Lay:AFn:=⟨.seq [1,2,3,6] (.ops [aO 3 (.box (.t 0)),aO 6 (.alloc (List.replicate 256 (.i .u8 0)))]) (.seq [1,2,3,6] (.seq [1,2,3,6,14] (.ops [aO 9 (.mv (.t 1)),aO 10 (.bin .lss (.t 9) (.v (.c (.i .i64 0)))),aO 11 (.mv (.t 10)),aG 12 11 false (.mv (.t 1)),aG 13 11 false (.bin .geq (.t 12) (.v (.c (.i .i64 256)))),aO 14 (.pick (.t 11) (.v (.c (.b true))) (.t 13))]) (.cond (.t 14) (.seq [6] (.ops [aO 15 (.loadN 256 (.t 3)),aN (.storeN 256 (.t 6) (.t 15))]) .ret) .skip)) (.seq [3,6] (.seq [1,3,6,16,17,18] (.ops [aO 16 (.mv (.t 2)),aO 17 (.len (.t 16)),aO 18 (.mv (.v (.c (.i .i64 0))))]) (.block 0 (.loop [1,3,6,16,17,18] B9h))) B2X)),[.cellN 6 256]⟩
def A27:B0:=C0
def D0x (n:Nat):A9 (Val × A0):=E4 [3,6] (ax A27 n B2X) A_num_Lay.fin
def D0y (n:Nat):A9 (Val × A0):=D6 0 (D0x n)
def A84 (n m:Nat) (x1 x3 x6 x16 x17 x18:Val) (h:A0):A6:=C6 (ax A27 n B9h) [1,3,6,16,17,18] (D0y n) m [(1,x1),(3,x3),(6,x6),(16,x16),(17,x17),(18,x18)] h
def A68 (n:Nat) (args:List Val) (h:A0):A6:=ax A27 n A_num_Lay.code A_num_Lay.fin (params 0 args) h
def A83 (n:Nat) (x3 x6:Val) (h:A0):A6:=hold ((ax A27 n B2X) A_num_Lay.fin [(3,x3),(6,x6)] h)
theorem C28 (n:Nat) (a0 a1 a2:Val) (h:A0):A68 n [a0,a1,a2] h=bnd (cells? a0) fun c1=>bnd (A2 .lss a1 (.c (.i .i64 0))) fun v2=>bnd (gd v2 false (some (a1,((h ++ [some (Row.mk (c1) true)]) ++ [some (Row.mk (List.replicate 256 (.i .u8 0)) true)]))) (some (.no,((h ++ [some (Row.mk (c1) true)]) ++ [some (Row.mk (List.replicate 256 (.i .u8 0)) true)])))) fun p3=>bnd (gd v2 false (bnd (A2 .geq p3.1 (.c (.i .i64 256))) fun v4=>some (v4,p3.2)) (some (.no,p3.2))) fun p5=>bnd (C4 v2 (.c (.b true)) p5.1) fun v6=>cnd v6 (bnd (A4 p5.2 256 (.c (.p h.length 0))) fun v7=>bnd (B4 p5.2 256 (.c (.p (h ++ [some (Row.mk (c1) true)]).length 0)) v7) fun h8=>mp (A4 h8 256 (.c (.p (h ++ [some (Row.mk (c1) true)]).length 0))) fun v=>(v,h8)) (bnd (D5 a2) fun v9=>A84 n n a1 (.c (.p h.length 0)) (.c (.p (h ++ [some (Row.mk (c1) true)]).length 0)) a2 v9 (.c (.i .i64 0)) p5.2):=by kernel_rfl
theorem D0z (n m:Nat) (x1 x3 x6 x16 x17 x18:Val) (h:A0):A84 n (m + 1) x1 x3 x6 x16 x17 x18 h=bnd (A2 .lss x18 x17) fun v10=>cnd v10 (bnd (B7 1 x16 x18) fun v11=>bnd (A3 h v11) fun v12=>bnd (A2 .sub (.c (.i .i64 256)) x1) fun v13=>bnd (A2 .geq x18 v13) fun v14=>cnd v14 (A83 n x3 x6 h) (bnd (A2 .add x1 x18) fun v15=>bnd (E1 256 1 x3 v15) fun v16=>bnd (E7 h v16 v12) fun h17=>bnd (A2 .add x18 (.c (.i .i64 1))) fun v18=>A84 n m x1 x3 x6 x16 x17 v18 h17)) (A83 n x3 x6 h):=by kernel_rfl
theorem D0w (n:Nat) (x3 x6:Val) (h:A0):A83 n x3 x6 h=bnd (A4 h 256 x3) fun v19=>bnd (B4 h 256 x6 v19) fun h20=>mp (A4 h20 256 x6) fun v=>(v,h20):=by kernel_rfl
theorem K_num_Lay:FnK Tryz.prog 215 A_num_Lay A27 A68:=.mk' (C2) Tryz.func215 (by kernel_rfl) (fun _ _ _=>C1)
def A0O:Fun:=tidy (Lim A_num_Lay A27)
theorem B1c:SOk Tryz.prog 215 A0O:=K_num_Lay.sok
theorem C5w:C9 A68 A0O:=K_num_Lay.flat
def A_num_Of:AFn:=⟨.seq [0,2] (.ops [aO 2 (.alloc (List.replicate 256 (.i .u8 0)))]) (.seq [2] (.ops [aO 3 (.build (List.replicate 256 (.i .u8 0)) []),aO 4 (.mv (.t 0)),aO 5 (.call 215 [(.t 3),(.v (.c (.i .i64 0))),(.t 4)]),aN (.storeN 256 (.t 2) (.t 5))]) .ret),[.cellN 2 256]⟩
def B0n:B0:=B1 215 A0O C0
def A69 (n:Nat) (args:List Val) (h:A0):A6:=ax B0n n A_num_Of.code A_num_Of.fin (params 0 args) h
theorem C29 (n:Nat) (a0:Val) (h:A0):A69 n [a0] h=bnd (A8 (List.replicate 256 (.i .u8 0)) []) fun c1=>bnd (A0O [(.a c1),.c (.i .i64 0),a0] (h ++ [some (Row.mk (List.replicate 256 (.i .u8 0)) true)])) fun p2=>bnd (B4 p2.2 256 (.c (.p h.length 0)) p2.1) fun h3=>mp (A4 h3 256 (.c (.p h.length 0))) fun v=>(v,h3):=by kernel_rfl
theorem K_num_Of:FnK Tryz.prog 212 A_num_Of B0n A69:=.mk' (B3 B1c C2) Tryz.func212 (by kernel_rfl) (fun _ _ _=>C1)
def Z0:Fun:=tidy (Lim A_num_Of B0n)
theorem A7y:SOk Tryz.prog 212 Z0:=K_num_Of.sok
theorem C5x:C9 A69 Z0:=K_num_Of.flat
def A_num_there:AFn:=⟨.seq [0,1,2] (.ops [aO 6 (.mv (.v (.c (.b false))))]) (.seq [6] (.ops [aO 7 (.mv (.t 0)),aO 8 (.bin .geq (.t 7) (.v (.c (.i .i64 0)))),aO 9 (.mv (.t 8)),aG 10 9 true (.mv (.t 1)),aG 11 9 true (.bin .geq (.t 10) (.v (.c (.i .i64 1)))),aO 12 (.pick (.t 9) (.t 11) (.v (.c (.b false)))),aO 13 (.mv (.t 12)),aG 14 13 true (.mv (.t 1)),aG 15 13 true (.mv (.t 2)),aG 16 13 true (.bin .leq (.t 14) (.t 15)),aO 17 (.pick (.t 13) (.t 16) (.v (.c (.b false)))),aO 18 (.mv (.t 17)),aG 19 18 true (.mv (.t 0)),aG 20 18 true (.mv (.t 2)),aG 21 18 true (.mv (.t 1)),aG 22 18 true (.bin .sub (.t 20) (.t 21)),aG 23 18 true (.bin .leq (.t 19) (.t 22)),aO 24 (.pick (.t 18) (.t 23) (.v (.c (.b false)))),aO 6 (.mv (.t 24))]) .ret),[.tmp 6]⟩
def B0o:B0:=C0
def B02 (n:Nat) (args:List Val) (h:A0):A6:=ax B0o n A_num_there.code A_num_there.fin (params 0 args) h
theorem C3c (n:Nat) (a0 a1 a2:Val) (h:A0):B02 n [a0,a1,a2] h=bnd (A2 .geq a0 (.c (.i .i64 0))) fun v1=>bnd (gd v1 true (some (a1,h)) (some (.no,h))) fun p2=>bnd (gd v1 true (bnd (A2 .geq p2.1 (.c (.i .i64 1))) fun v3=>some (v3,p2.2)) (some (.no,p2.2))) fun p4=>bnd (C4 v1 p4.1 (.c (.b false))) fun v5=>bnd (gd v5 true (some (a1,p4.2)) (some (.no,p4.2))) fun p6=>bnd (gd v5 true (some (a2,p6.2)) (some (.no,p6.2))) fun p7=>bnd (gd v5 true (bnd (A2 .leq p6.1 p7.1) fun v8=>some (v8,p7.2)) (some (.no,p7.2))) fun p9=>bnd (C4 v5 p9.1 (.c (.b false))) fun v10=>bnd (gd v10 true (some (a0,p9.2)) (some (.no,p9.2))) fun p11=>bnd (gd v10 true (some (a2,p11.2)) (some (.no,p11.2))) fun p12=>bnd (gd v10 true (some (a1,p12.2)) (some (.no,p12.2))) fun p13=>bnd (gd v10 true (bnd (A2 .sub p12.1 p13.1) fun v14=>some (v14,p13.2)) (some (.no,p13.2))) fun p15=>bnd (gd v10 true (bnd (A2 .leq p11.1 p15.1) fun v16=>some (v16,p15.2)) (some (.no,p15.2))) fun p17=>bnd (C4 v10 p17.1 (.c (.b false))) fun v18=>some (v18,p17.2):=by kernel_rfl
theorem K_num_there:FnK Tryz.prog 221 A_num_there B0o B02:=.mk' (C2) Tryz.func221 (by kernel_rfl) (fun _ _ _=>C1)
def Z1:Fun:=tidy (Lim A_num_there B0o)
theorem A7z:SOk Tryz.prog 221 Z1:=K_num_there.sok
theorem C5B:C9 B02 Z1:=K_num_there.flat
def B9n:ACode:=.seq [1,3,4,8,19,20,21] (.ops [aO 21 (.bin .lss (.t 20) (.t 19))]) (.seq [1,3,4,8,19,20] (.cond (.t 21) .skip (.exit 0)) (.seq [1,3,4,8,19,20] (.block 1 (.seq [1,3,4,8,9,19,20] (.ops [aO 22 (.mv (.t 20)),aO 9 (.mv (.t 22))]) (.ops [aO 23 (.mv (.t 1)),aO 24 (.mv (.t 9)),aO 25 (.bin .add (.t 23) (.t 24)),aO 26 (.mv (.t 3)),aO 27 (.mv (.t 9)),aO 28 (.bin .mul (.v (.c (.i .i64 8))) (.t 27)),aO 29 (.conv .u64 (.t 28)),aO 30 (.bin .shr (.t 26) (.t 29)),aO 31 (.conv .u8 (.t 30)),aO 32 (.iAddrA 256 1 (.t 4) (.t 25)),aN (.store1 (.t 32) (.t 31))]))) (.ops [aO 33 (.bin .add (.t 20) (.v (.c (.i .i64 1)))),aO 20 (.mv (.t 33))])))
def B9o:ACode:=.seq [8] (.ops [aO 34 (.loadN 256 (.t 4)),aN (.storeN 256 (.t 8) (.t 34))]) .ret
def A_num_With:AFn:=⟨.seq [1,2,3,4,8] (.ops [aO 4 (.box (.t 0)),aO 8 (.alloc (List.replicate 256 (.i .u8 0)))]) (.seq [1,2,3,4,8] (.seq [1,2,3,4,8,17] (.ops [aO 10 (.mv (.t 2)),aO 11 (.bin .gtr (.t 10) (.v (.c (.i .i64 4)))),aO 12 (.mv (.t 11)),aG 13 12 false (.mv (.t 1)),aG 14 12 false (.mv (.t 2)),aG 15 12 false (.call 221 [(.t 13),(.t 14),(.v (.c (.i .i64 256)))]),aG 16 12 false (.un .not (.t 15)),aO 17 (.pick (.t 12) (.v (.c (.b true))) (.t 16))]) (.cond (.t 17) (.seq [8] (.ops [aO 18 (.loadN 256 (.t 4)),aN (.storeN 256 (.t 8) (.t 18))]) .ret) .skip)) (.seq [4,8] (.seq [1,3,4,8,19,20] (.ops [aO 19 (.mv (.t 2)),aO 20 (.mv (.v (.c (.i .i64 0))))]) (.block 0 (.loop [1,3,4,8,19,20] B9n))) B9o)),[.cellN 8 256]⟩
def A4j:B0:=B1 221 Z1 C0
def D0E (n:Nat):A9 (Val × A0):=E4 [4,8] (ax A4j n B9o) A_num_With.fin
def D0F (n:Nat):A9 (Val × A0):=D6 0 (D0E n)
def A87 (n m:Nat) (x1 x3 x4 x8 x19 x20:Val) (h:A0):A6:=C6 (ax A4j n B9n) [1,3,4,8,19,20] (D0F n) m [(1,x1),(3,x3),(4,x4),(8,x8),(19,x19),(20,x20)] h
def A7b (n:Nat) (args:List Val) (h:A0):A6:=ax A4j n A_num_With.code A_num_With.fin (params 0 args) h
theorem C3b (n:Nat) (a0 a1 a2 a3:Val) (h:A0):A7b n [a0,a1,a2,a3] h=bnd (cells? a0) fun c1=>bnd (A2 .gtr a2 (.c (.i .i64 4))) fun v2=>bnd (gd v2 false (some (a1,((h ++ [some (Row.mk (c1) true)]) ++ [some (Row.mk (List.replicate 256 (.i .u8 0)) true)]))) (some (.no,((h ++ [some (Row.mk (c1) true)]) ++ [some (Row.mk (List.replicate 256 (.i .u8 0)) true)])))) fun p3=>bnd (gd v2 false (some (a2,p3.2)) (some (.no,p3.2))) fun p4=>bnd (gd v2 false (bnd (Z1 [p3.1,p4.1,.c (.i .i64 256)] p4.2) fun p5=>some (p5.1,p5.2)) (some (.no,p4.2))) fun p6=>bnd (gd v2 false (bnd (aun .not p6.1) fun v7=>some (v7,p6.2)) (some (.no,p6.2))) fun p8=>bnd (C4 v2 (.c (.b true)) p8.1) fun v9=>cnd v9 (bnd (A4 p8.2 256 (.c (.p h.length 0))) fun v10=>bnd (B4 p8.2 256 (.c (.p (h ++ [some (Row.mk (c1) true)]).length 0)) v10) fun h11=>mp (A4 h11 256 (.c (.p (h ++ [some (Row.mk (c1) true)]).length 0))) fun v=>(v,h11)) (A87 n n a1 a3 (.c (.p h.length 0)) (.c (.p (h ++ [some (Row.mk (c1) true)]).length 0)) a2 (.c (.i .i64 0)) p8.2):=by kernel_rfl
theorem B9p (n m:Nat) (x1 x3 x4 x8 x19 x20:Val) (h:A0):A87 n (m + 1) x1 x3 x4 x8 x19 x20 h=bnd (A2 .lss x20 x19) fun v12=>cnd v12 (bnd (A2 .add x1 x20) fun v13=>bnd (A2 .mul (.c (.i .i64 8)) x20) fun v14=>bnd (L6 .u64 v14) fun v15=>bnd (A2 .shr x3 v15) fun v16=>bnd (L6 .u8 v16) fun v17=>bnd (E1 256 1 x4 v13) fun v18=>bnd (E7 h v18 v17) fun h19=>bnd (A2 .add x20 (.c (.i .i64 1))) fun v20=>A87 n m x1 x3 x4 x8 x19 v20 h19) (bnd (A4 h 256 x4) fun v21=>bnd (B4 h 256 x8 v21) fun h22=>mp (A4 h22 256 x8) fun v=>(v,h22)):=by kernel_rfl
theorem K_num_With:FnK Tryz.prog 213 A_num_With A4j A7b:=.mk' (B3 A7z C2) Tryz.func213 (by kernel_rfl) (fun _ _ _=>C1)
def Q9:Fun:=tidy (Lim A_num_With A4j)
theorem B1d:SOk Tryz.prog 213 Q9:=K_num_With.sok
theorem C5A:C9 A7b Q9:=K_num_With.flat
def B9j:ACode:=.seq [1,3,10,25,26,27] (.ops [aO 27 (.bin .lss (.t 26) (.t 25))]) (.seq [1,3,10,25,26] (.cond (.t 27) .skip (.exit 0)) (.seq [1,3,10,25,26] (.block 1 (.seq [1,3,10,11,25,26] (.ops [aO 28 (.mv (.t 26)),aO 11 (.mv (.t 28))]) (.ops [aO 29 (.mv (.t 10)),aO 30 (.mv (.t 1)),aO 31 (.mv (.t 11)),aO 32 (.bin .add (.t 30) (.t 31)),aO 33 (.mv (.t 3)),aO 34 (.mv (.t 11)),aO 35 (.bin .mul (.v (.c (.i .i64 8))) (.t 34)),aO 36 (.conv .u64 (.t 35)),aO 37 (.bin .shr (.t 33) (.t 36)),aO 38 (.conv .u8 (.t 37)),aO 39 (.iAddrL 1 (.t 29) (.t 32)),aN (.store1 (.t 39) (.t 38))]))) (.ops [aO 40 (.bin .add (.t 26) (.v (.c (.i .i64 1)))),aO 26 (.mv (.t 40))])))
def B9k:ACode:=.seq [8,9] (.ops [aO 41 (.mv (.t 10)),aO 8 (.mv (.t 41)),aO 9 (.mv (.v (.c (.b true))))]) .ret
def A_num_Put:AFn:=⟨.seq [0,1,2,3] (.ops [aO 8 (.nilrow 1),aO 9 (.mv (.v (.c (.b false))))]) (.seq [0,1,2,3] (.seq [0,1,2,3,21] (.ops [aO 12 (.mv (.t 2)),aO 13 (.bin .gtr (.t 12) (.v (.c (.i .i64 8)))),aO 14 (.mv (.t 13)),aG 15 14 false (.mv (.t 1)),aG 16 14 false (.mv (.t 2)),aG 17 14 false (.mv (.t 0)),aG 18 14 false (.len (.t 17)),aG 19 14 false (.call 221 [(.t 15),(.t 16),(.t 18)]),aG 20 14 false (.un .not (.t 19)),aO 21 (.pick (.t 14) (.v (.c (.b true))) (.t 20))]) (.cond (.t 21) (.seq [8,9] (.ops [aO 8 (.nilrow 1),aO 9 (.mv (.v (.c (.b false))))]) .ret) .skip)) (.seq [1,2,3,10] (.ops [aO 22 (.buildSl 1 0 ([]) []),aO 23 (.mv (.t 0)),aO 24 (.app 1 (.t 22) (.t 23)),aO 10 (.mv (.t 24))]) (.seq [10] (.seq [1,3,10,25,26] (.ops [aO 25 (.mv (.t 2)),aO 26 (.mv (.v (.c (.i .i64 0))))]) (.block 0 (.loop [1,3,10,25,26] B9j))) B9k))),[.tmp 8,.tmp 9]⟩
def A4i:B0:=B1 221 Z1 C0
def D0C (n:Nat):A9 (Val × A0):=E4 [10] (ax A4i n B9k) A_num_Put.fin
def D0D (n:Nat):A9 (Val × A0):=D6 0 (D0C n)
def A86 (n m:Nat) (x1 x3 x10 x25 x26:Val) (h:A0):A6:=C6 (ax A4i n B9j) [1,3,10,25,26] (D0D n) m [(1,x1),(3,x3),(10,x10),(25,x25),(26,x26)] h
def A7a (n:Nat) (args:List Val) (h:A0):A6:=ax A4i n A_num_Put.code A_num_Put.fin (params 0 args) h
theorem C3a (n:Nat) (a0 a1 a2 a3:Val) (h:A0):A7a n [a0,a1,a2,a3] h=bnd (A2 .gtr a2 (.c (.i .i64 8))) fun v1=>bnd (gd v1 false (some (a1,(h ++ [some (Row.mk ([]) true)]))) (some (.no,(h ++ [some (Row.mk ([]) true)])))) fun p2=>bnd (gd v1 false (some (a2,p2.2)) (some (.no,p2.2))) fun p3=>bnd (gd v1 false (some (a0,p3.2)) (some (.no,p3.2))) fun p4=>bnd (gd v1 false (bnd (D5 p4.1) fun v5=>some (v5,p4.2)) (some (.no,p4.2))) fun p6=>bnd (gd v1 false (bnd (Z1 [p2.1,p3.1,p6.1] p6.2) fun p7=>some (p7.1,p7.2)) (some (.no,p6.2))) fun p8=>bnd (gd v1 false (bnd (aun .not p8.1) fun v9=>some (v9,p8.2)) (some (.no,p8.2))) fun p10=>bnd (C4 v1 (.c (.b true)) p10.1) fun v11=>cnd v11 (D3 [some (.c (.sl p10.2.length 0 0 1)),some (.c (.b false))] (p10.2 ++ [some (Row.mk ([]) true)])) (bnd (A8 ([]) []) fun c12=>bnd (F0 (p10.2 ++ [some (Row.mk (c12) true)]) 1 (.c (.sl p10.2.length 0 0 1)) a0) fun p13=>A86 n n a1 a3 p13.1 a2 (.c (.i .i64 0)) p13.2):=by kernel_rfl
theorem B9l (n m:Nat) (x1 x3 x10 x25 x26:Val) (h:A0):A86 n (m + 1) x1 x3 x10 x25 x26 h=bnd (A2 .lss x26 x25) fun v14=>cnd v14 (bnd (A2 .add x1 x26) fun v15=>bnd (A2 .mul (.c (.i .i64 8)) x26) fun v16=>bnd (L6 .u64 v16) fun v17=>bnd (A2 .shr x3 v17) fun v18=>bnd (L6 .u8 v18) fun v19=>bnd (B7 1 x10 v15) fun v20=>bnd (E7 h v20 v19) fun h21=>bnd (A2 .add x26 (.c (.i .i64 1))) fun v22=>A86 n m x1 x3 x10 x25 v22 h21) (D3 [some x10,some (.c (.b true))] h):=by kernel_rfl
theorem K_num_Put:FnK Tryz.prog 214 A_num_Put A4i A7a:=.mk' (B3 A7z C2) Tryz.func214 (by kernel_rfl) (fun _ _ _=>C1)
def A49:Fun:=tidy (Lim A_num_Put A4i)
theorem C5y:SOk Tryz.prog 214 A49:=K_num_Put.sok
theorem C5z:A7A A7a A49:=K_num_Put.tidy
def B89:ACode:=.seq [1,3,7,25,26,27] (.ops [aO 27 (.bin .lss (.t 26) (.t 25))]) (.seq [1,3,7,25,26] (.cond (.t 27) .skip (.exit 0)) (.seq [1,3,7,25,26] (.block 1 (.seq [1,3,7,8,25,26] (.ops [aO 28 (.mv (.t 26)),aO 8 (.mv (.t 28))]) (.ops [aO 29 (.mv (.t 7)),aO 30 (.mv (.t 8)),aO 31 (.mv (.t 1)),aO 32 (.mv (.t 8)),aO 33 (.bin .add (.t 31) (.t 32)),aO 34 (.iAddrA 256 1 (.t 3) (.t 33)),aO 35 (.load1 (.t 34)),aO 36 (.iAddrL 1 (.t 29) (.t 30)),aN (.store1 (.t 36) (.t 35))]))) (.ops [aO 37 (.bin .add (.t 26) (.v (.c (.i .i64 1)))),aO 26 (.mv (.t 37))])))
def B9a:ACode:=.seq [6] (.ops [aO 38 (.mv (.t 7)),aO 6 (.mv (.t 38))]) .ret
def A_num_Cut:AFn:=⟨.seq [1,2,3] (.ops [aO 3 (.box (.t 0)),aO 6 (.nilrow 1)]) (.seq [1,2,3] (.seq [1,2,3,18] (.ops [aO 9 (.mv (.t 1)),aO 10 (.bin .lss (.t 9) (.v (.c (.i .i64 0)))),aO 11 (.mv (.t 10)),aG 12 11 false (.mv (.t 1)),aG 13 11 false (.bin .geq (.t 12) (.v (.c (.i .i64 256)))),aO 14 (.pick (.t 11) (.v (.c (.b true))) (.t 13)),aO 15 (.mv (.t 14)),aG 16 15 false (.mv (.t 2)),aG 17 15 false (.bin .lss (.t 16) (.v (.c (.i .i64 1)))),aO 18 (.pick (.t 15) (.v (.c (.b true))) (.t 17))]) (.cond (.t 18) (.seq [6] (.ops [aO 6 (.nilrow 1)]) .ret) .skip)) (.seq [1,2,3] (.ops [aO 19 (.mv (.t 2)),aO 20 (.mv (.t 1)),aO 21 (.bin .sub (.v (.c (.i .i64 256))) (.t 20)),aO 22 (.min (.t 19) (.t 21)),aO 2 (.mv (.t 22))]) (.seq [1,2,3,7] (.ops [aO 23 (.mv (.t 2)),aO 24 (.mkSl 1 ([.i .u8 0]) (.t 23) (.t 23)),aO 7 (.mv (.t 24))]) (.seq [7] (.seq [1,3,7,25,26] (.ops [aO 25 (.mv (.t 2)),aO 26 (.mv (.v (.c (.i .i64 0))))]) (.block 0 (.loop [1,3,7,25,26] B89))) B9a)))),[.tmp 6]⟩
def A4g:B0:=C0
def D0q (n:Nat):A9 (Val × A0):=E4 [7] (ax A4g n B9a) A_num_Cut.fin
def D0r (n:Nat):A9 (Val × A0):=D6 0 (D0q n)
def A81 (n m:Nat) (x1 x3 x7 x25 x26:Val) (h:A0):A6:=C6 (ax A4g n B89) [1,3,7,25,26] (D0r n) m [(1,x1),(3,x3),(7,x7),(25,x25),(26,x26)] h
def A67 (n:Nat) (args:List Val) (h:A0):A6:=ax A4g n A_num_Cut.code A_num_Cut.fin (params 0 args) h
theorem C26 (n:Nat) (a0 a1 a2:Val) (h:A0):A67 n [a0,a1,a2] h=bnd (cells? a0) fun c1=>bnd (A2 .lss a1 (.c (.i .i64 0))) fun v2=>bnd (gd v2 false (some (a1,((h ++ [some (Row.mk (c1) true)]) ++ [some (Row.mk ([]) true)]))) (some (.no,((h ++ [some (Row.mk (c1) true)]) ++ [some (Row.mk ([]) true)])))) fun p3=>bnd (gd v2 false (bnd (A2 .geq p3.1 (.c (.i .i64 256))) fun v4=>some (v4,p3.2)) (some (.no,p3.2))) fun p5=>bnd (C4 v2 (.c (.b true)) p5.1) fun v6=>bnd (gd v6 false (some (a2,p5.2)) (some (.no,p5.2))) fun p7=>bnd (gd v6 false (bnd (A2 .lss p7.1 (.c (.i .i64 1))) fun v8=>some (v8,p7.2)) (some (.no,p7.2))) fun p9=>bnd (C4 v6 (.c (.b true)) p9.1) fun v10=>cnd v10 (some ((.c (.sl p9.2.length 0 0 1)),(p9.2 ++ [some (Row.mk ([]) true)]))) (bnd (A2 .sub (.c (.i .i64 256)) a1) fun v11=>bnd (T9 a2 v11) fun v12=>bnd (A0U v12 v12) fun n13=>A81 n n a1 (.c (.p h.length 0)) (.c (.sl p9.2.length 0 n13 1)) v12 (.c (.i .i64 0)) (p9.2 ++ [some (Row.mk (rows ([.i .u8 0]) n13) true)])):=by kernel_rfl
theorem B9b (n m:Nat) (x1 x3 x7 x25 x26:Val) (h:A0):A81 n (m + 1) x1 x3 x7 x25 x26 h=bnd (A2 .lss x26 x25) fun v14=>cnd v14 (bnd (A2 .add x1 x26) fun v15=>bnd (E1 256 1 x3 v15) fun v16=>bnd (A3 h v16) fun v17=>bnd (B7 1 x7 x26) fun v18=>bnd (E7 h v18 v17) fun h19=>bnd (A2 .add x26 (.c (.i .i64 1))) fun v20=>A81 n m x1 x3 x7 x25 v20 h19) (some (x7,h)):=by kernel_rfl
theorem K_num_Cut:FnK Tryz.prog 141 A_num_Cut A4g A67:=.mk' (C2) Tryz.func141 (by kernel_rfl) (fun _ _ _=>C1)
def Y9:Fun:=tidy (Lim A_num_Cut A4g)
theorem A7x:SOk Tryz.prog 141 Y9:=K_num_Cut.sok
theorem C5t:U6 A67 Y9:=K_num_Cut.out
def B85:ACode:=.seq [1,3,7,17,18,19] (.ops [aO 19 (.bin .lss (.t 18) (.t 17))]) (.seq [1,3,7,17,18] (.cond (.t 19) .skip (.exit 0)) (.seq [1,3,7,17,18] (.block 1 (.seq [1,3,7,8,17,18] (.ops [aO 20 (.mv (.t 18)),aO 8 (.mv (.t 20))]) (.ops [aO 21 (.mv (.t 7)),aO 22 (.mv (.t 1)),aO 23 (.mv (.t 8)),aO 24 (.bin .add (.t 22) (.t 23)),aO 25 (.iAddrA 256 1 (.t 3) (.t 24)),aO 26 (.load1 (.t 25)),aO 27 (.conv .i64 (.t 26)),aO 28 (.mv (.t 8)),aO 29 (.bin .mul (.v (.c (.i .i64 8))) (.t 28)),aO 30 (.conv .u64 (.t 29)),aO 31 (.bin .shl (.t 27) (.t 30)),aO 32 (.bin .or (.t 21) (.t 31)),aO 7 (.mv (.t 32))]))) (.ops [aO 33 (.bin .add (.t 18) (.v (.c (.i .i64 1)))),aO 18 (.mv (.t 33))])))
def B86:ACode:=.seq [6] (.ops [aO 34 (.mv (.t 7)),aO 6 (.mv (.t 34))]) .ret
def A_num_At:AFn:=⟨.seq [1,2,3] (.ops [aO 3 (.box (.t 0)),aO 6 (.mv (.v (.c (.i .i64 0))))]) (.seq [1,2,3] (.seq [1,2,3,16] (.ops [aO 9 (.mv (.t 2)),aO 10 (.bin .gtr (.t 9) (.v (.c (.i .i64 4)))),aO 11 (.mv (.t 10)),aG 12 11 false (.mv (.t 1)),aG 13 11 false (.mv (.t 2)),aG 14 11 false (.call 221 [(.t 12),(.t 13),(.v (.c (.i .i64 256)))]),aG 15 11 false (.un .not (.t 14)),aO 16 (.pick (.t 11) (.v (.c (.b true))) (.t 15))]) (.cond (.t 16) (.seq [6] (.ops [aO 6 (.mv (.v (.c (.i .i64 0))))]) .ret) .skip)) (.seq [1,2,3,7] (.ops [aO 7 (.mv (.v (.c (.i .i64 0))))]) (.seq [7] (.seq [1,3,7,17,18] (.ops [aO 17 (.mv (.t 2)),aO 18 (.mv (.v (.c (.i .i64 0))))]) (.block 0 (.loop [1,3,7,17,18] B85))) B86))),[.tmp 6]⟩
def A4f:B0:=B1 221 Z1 C0
def D0o (n:Nat):A9 (Val × A0):=E4 [7] (ax A4f n B86) A_num_At.fin
def D0p (n:Nat):A9 (Val × A0):=D6 0 (D0o n)
def A8Z (n m:Nat) (x1 x3 x7 x17 x18:Val) (h:A0):A6:=C6 (ax A4f n B85) [1,3,7,17,18] (D0p n) m [(1,x1),(3,x3),(7,x7),(17,x17),(18,x18)] h
def B00 (n:Nat) (args:List Val) (h:A0):A6:=ax A4f n A_num_At.code A_num_At.fin (params 0 args) h
theorem C25 (n:Nat) (a0 a1 a2:Val) (h:A0):B00 n [a0,a1,a2] h=bnd (cells? a0) fun c1=>bnd (A2 .gtr a2 (.c (.i .i64 4))) fun v2=>bnd (gd v2 false (some (a1,(h ++ [some (Row.mk (c1) true)]))) (some (.no,(h ++ [some (Row.mk (c1) true)])))) fun p3=>bnd (gd v2 false (some (a2,p3.2)) (some (.no,p3.2))) fun p4=>bnd (gd v2 false (bnd (Z1 [p3.1,p4.1,.c (.i .i64 256)] p4.2) fun p5=>some (p5.1,p5.2)) (some (.no,p4.2))) fun p6=>bnd (gd v2 false (bnd (aun .not p6.1) fun v7=>some (v7,p6.2)) (some (.no,p6.2))) fun p8=>bnd (C4 v2 (.c (.b true)) p8.1) fun v9=>cnd v9 (some ((.c (.i .i64 0)),p8.2)) (A8Z n n a1 (.c (.p h.length 0)) (.c (.i .i64 0)) a2 (.c (.i .i64 0)) p8.2):=by kernel_rfl
theorem B87 (n m:Nat) (x1 x3 x7 x17 x18:Val) (h:A0):A8Z n (m + 1) x1 x3 x7 x17 x18 h=bnd (A2 .lss x18 x17) fun v10=>cnd v10 (bnd (A2 .add x1 x18) fun v11=>bnd (E1 256 1 x3 v11) fun v12=>bnd (A3 h v12) fun v13=>bnd (L6 .i64 v13) fun v14=>bnd (A2 .mul (.c (.i .i64 8)) x18) fun v15=>bnd (L6 .u64 v15) fun v16=>bnd (A2 .shl v14 v16) fun v17=>bnd (A2 .or x7 v17) fun v18=>bnd (A2 .add x18 (.c (.i .i64 1))) fun v19=>A8Z n m x1 x3 v18 x17 v19 h) (some (x7,h)):=by kernel_rfl
theorem K_num_At:FnK Tryz.prog 142 A_num_At A4f B00:=.mk' (B3 A7z C2) Tryz.func142 (by kernel_rfl) (fun _ _ _=>C1)
def M3:Fun:=tidy (Lim A_num_At A4f)
theorem A47:SOk Tryz.prog 142 M3:=K_num_At.sok
theorem C5s:C9 B00 M3:=K_num_At.flat
def B9d:ACode:=.seq [0,1,8,20,21,22] (.ops [aO 22 (.bin .lss (.t 21) (.t 20))]) (.seq [0,1,8,20,21] (.cond (.t 22) .skip (.exit 0)) (.seq [0,1,8,20,21] (.block 1 (.seq [0,1,8,9,20,21] (.ops [aO 23 (.mv (.t 21)),aO 9 (.mv (.t 23))]) (.ops [aO 24 (.mv (.t 8)),aO 25 (.mv (.t 0)),aO 26 (.mv (.t 1)),aO 27 (.mv (.t 9)),aO 28 (.bin .add (.t 26) (.t 27)),aO 29 (.iAddrL 1 (.t 25) (.t 28)),aO 30 (.load1 (.t 29)),aO 31 (.conv .u64 (.t 30)),aO 32 (.mv (.t 9)),aO 33 (.bin .mul (.v (.c (.i .i64 8))) (.t 32)),aO 34 (.conv .u64 (.t 33)),aO 35 (.bin .shl (.t 31) (.t 34)),aO 36 (.bin .or (.t 24) (.t 35)),aO 8 (.mv (.t 36))]))) (.ops [aO 37 (.bin .add (.t 21) (.v (.c (.i .i64 1)))),aO 21 (.mv (.t 37))])))
def B9e:ACode:=.seq [6,7] (.ops [aO 38 (.mv (.t 8)),aO 6 (.mv (.t 38)),aO 7 (.mv (.v (.c (.b true))))]) .ret
def A_num_Get:AFn:=⟨.seq [0,1,2] (.ops [aO 6 (.mv (.v (.c (.i .u64 0)))),aO 7 (.mv (.v (.c (.b false))))]) (.seq [0,1,2] (.seq [0,1,2,19] (.ops [aO 10 (.mv (.t 2)),aO 11 (.bin .gtr (.t 10) (.v (.c (.i .i64 8)))),aO 12 (.mv (.t 11)),aG 13 12 false (.mv (.t 1)),aG 14 12 false (.mv (.t 2)),aG 15 12 false (.mv (.t 0)),aG 16 12 false (.len (.t 15)),aG 17 12 false (.call 221 [(.t 13),(.t 14),(.t 16)]),aG 18 12 false (.un .not (.t 17)),aO 19 (.pick (.t 12) (.v (.c (.b true))) (.t 18))]) (.cond (.t 19) (.seq [6,7] (.ops [aO 6 (.mv (.v (.c (.i .u64 0)))),aO 7 (.mv (.v (.c (.b false))))]) .ret) .skip)) (.seq [0,1,2,8] (.ops [aO 8 (.mv (.v (.c (.i .u64 0))))]) (.seq [8] (.seq [0,1,8,20,21] (.ops [aO 20 (.mv (.t 2)),aO 21 (.mv (.v (.c (.i .i64 0))))]) (.block 0 (.loop [0,1,8,20,21] B9d))) B9e))),[.tmp 6,.tmp 7]⟩
def A4h:B0:=B1 221 Z1 C0
def D0u (n:Nat):A9 (Val × A0):=E4 [8] (ax A4h n B9e) A_num_Get.fin
def D0v (n:Nat):A9 (Val × A0):=D6 0 (D0u n)
def A82 (n m:Nat) (x0 x1 x8 x20 x21:Val) (h:A0):A6:=C6 (ax A4h n B9d) [0,1,8,20,21] (D0v n) m [(0,x0),(1,x1),(8,x8),(20,x20),(21,x21)] h
def B01 (n:Nat) (args:List Val) (h:A0):A6:=ax A4h n A_num_Get.code A_num_Get.fin (params 0 args) h
theorem C27 (n:Nat) (a0 a1 a2:Val) (h:A0):B01 n [a0,a1,a2] h=bnd (A2 .gtr a2 (.c (.i .i64 8))) fun v1=>bnd (gd v1 false (some (a1,h)) (some (.no,h))) fun p2=>bnd (gd v1 false (some (a2,p2.2)) (some (.no,p2.2))) fun p3=>bnd (gd v1 false (some (a0,p3.2)) (some (.no,p3.2))) fun p4=>bnd (gd v1 false (bnd (D5 p4.1) fun v5=>some (v5,p4.2)) (some (.no,p4.2))) fun p6=>bnd (gd v1 false (bnd (Z1 [p2.1,p3.1,p6.1] p6.2) fun p7=>some (p7.1,p7.2)) (some (.no,p6.2))) fun p8=>bnd (gd v1 false (bnd (aun .not p8.1) fun v9=>some (v9,p8.2)) (some (.no,p8.2))) fun p10=>bnd (C4 v1 (.c (.b true)) p10.1) fun v11=>cnd v11 (D3 [some (.c (.i .u64 0)),some (.c (.b false))] p10.2) (A82 n n a0 a1 (.c (.i .u64 0)) a2 (.c (.i .i64 0)) p10.2):=by kernel_rfl
theorem B9f (n m:Nat) (x0 x1 x8 x20 x21:Val) (h:A0):A82 n (m + 1) x0 x1 x8 x20 x21 h=bnd (A2 .lss x21 x20) fun v12=>cnd v12 (bnd (A2 .add x1 x21) fun v13=>bnd (B7 1 x0 v13) fun v14=>bnd (A3 h v14) fun v15=>bnd (L6 .u64 v15) fun v16=>bnd (A2 .mul (.c (.i .i64 8)) x21) fun v17=>bnd (L6 .u64 v17) fun v18=>bnd (A2 .shl v16 v18) fun v19=>bnd (A2 .or x8 v19) fun v20=>bnd (A2 .add x21 (.c (.i .i64 1))) fun v21=>A82 n m x0 x1 v20 x20 v21 h) (D3 [some x8,some (.c (.b true))] h):=by kernel_rfl
theorem K_num_Get:FnK Tryz.prog 140 A_num_Get A4h B01:=.mk' (B3 A7z C2) Tryz.func140 (by kernel_rfl) (fun _ _ _=>C1)
def A48:Fun:=tidy (Lim A_num_Get A4h)
theorem C5v:SOk Tryz.prog 140 A48:=K_num_Get.sok
theorem C5u:C9 B01 A48:=K_num_Get.flat
end Go.Proofs.YteckncopbicmcaaGreat
end
section
namespace Go.Proofs.YteckncopbicmcaaGreat
open Go Go.Esc
def Y5 (at' width all:Int):Bool:=decide (0 ≤ at') && decide (1 ≤ width) && decide (width ≤ all) && decide (at' ≤ all - width)
theorem A0i {a w n:Int}:Y5 a w n=true ↔ 0 ≤ a ∧ 1 ≤ w ∧ w ≤ n ∧ a ≤ n - w:=by
  unfold Y5;simp [and_assoc]
theorem A1N {a w n:Int} {h:A0} (hn:n < 9223372036854775808) :
    Z1 [.c (.i .i64 a),.c (.i .i64 w),.c (.i .i64 n)] h=some (.c (.b (Y5 a w n)),h):=by
  refine C5B (n:=0) (h2:=ro h) ?_ rfl
  rw [C3c]
  unfold Y5
  by_cases h1:0 ≤ a
  · by_cases h2:1 ≤ w
    · by_cases h3:w ≤ n
      · have e:IntKind.wrap .i64 (n - w)=n - w:=wrap_i64 (by omega) (by omega)
        simp [h1,h2,h3,e]
      · simp [h1,h2,h3]
    · simp [h1,h2]
  · simp [h1]
def A5J (l:List UInt8) (a w:Int):Option Nat:=if w ≤ 8 ∧ Y5 a w l.length=true then some (le ((l.drop a.toNat).take w.toNat)) else none
theorem B88 {l:List UInt8} {h:A0} {a w k:Nat} (hw:w ≤ 4) (haw:a + w ≤ 256) (hl:l.length=256):∀ d i m,i + d=w → d < m →
    A8Z k m (.c (.i .i64 a)) (.c (.p h.length 0)) (.c (.i .i64 (le ((l.drop a).take i)))) (.c (.i .i64 w)) (.c (.i .i64 i)) (h ++ [some ⟨A1 l,true⟩])=some (.c (.i .i64 (le ((l.drop a).take w))),h ++ [some ⟨A1 l,true⟩])
  | d,i,0,_,hm=>by omega
  | 0,i,m + 1,hi,hm=>by
    have e:i=w:=by omega
    subst e
    rw [B87]
    simp
  | d + 1,i,m + 1,hi,hm=>by
    have ih:=B88 (h:=h) (k:=k) hw haw hl d (i + 1) m (by omega) (by omega)
    have hx:=D8 (h:=h ++ [some ⟨A1 l,true⟩]) (id:=h.length) (off:=a + i) (c:=.i .u8 l[a + i].toNat) E8 (by rw [A00,List.getElem?_eq_getElem (by omega)];rfl) rfl
    have hb:=l[a + i].toNat_lt
    have hlen:((l.drop a).take i).length=i:=by simp;omega
    have hle:=A5O ((l.drop a).take i)
    rw [hlen] at hle
    have hp:=A9f (show i ≤ 4 by omega)
    have hbp:=B5K (x:=l[a + i]) (show i < 4 by omega)
    have e2:IntKind.wrap .i64 (8 * (i:Int))=8 * i:=wrap_i64 (by omega) (by omega)
    have e3:IntKind.wrap .u64 (8 * (i:Int))=8 * i:=wrap_u64 (by omega) (by omega)
    have e5:IntKind.wrap .i64 (l[a + i].toNat:Int)=l[a + i].toNat:=wrap_i64 (by omega) (by omega)
    have e6:=C0r (k:=.i64) (x:=l[a + i]) (show i < 8 by omega) (wrap_i64 (by omega) (by omega)) rfl
    have e7:A2 .or (.c (.i .i64 (le ((l.drop a).take i):Nat))) (.c (.i .i64 ((l[a + i].toNat * 256 ^ i:Nat):Int)))=some (.c (.i .i64 (le ((l.drop a).take (i + 1)):Nat))):=by
      rw [D0N (by omega) (by omega),B3y (by omega),← B9A,hlen]
    have ea:E1 256 1 (.c (.p h.length 0)) (.c (.i .i64 ((a + i:Nat):Int)))=some (.c (.p h.length (a + i))):=by rw [T3 (by omega)];simp
    have h1':(i:Int) < w:=by omega
    rw [B87]
    simp only [esc,h1',A0F (show a + i < 9223372036854775808 by omega),e2,e3,ea,hx,e5,e6,e7,E2 (show i + 1 < 9223372036854775808 by omega)]
    exact ih
def atN (l:List UInt8) (a w:Int):Nat:=if w ≤ 4 ∧ Y5 a w 256=true then le ((l.drop a.toNat).take w.toNat) else 0
theorem A06 {l:List UInt8} {h:A0} (hl:l.length=256) {a w:Int} :
    M3 [.a (A1 l),.c (.i .i64 a),.c (.i .i64 w)] h=some (.c (.i .i64 (atN l a w)),h):=by
  refine C5s (n:=w.toNat + 1) (h2:=ro h ++ [some ⟨A1 l,true⟩]) ?_ (by simp)
  rw [C25]
  unfold atN
  by_cases c1:4 < w
  · have c1':¬ w ≤ 4:=by omega
    simp [c1,c1']
  · have c1':w ≤ 4:=by omega
    cases c2:Y5 a w 256 with
    | false=>simp [c1,A1N (show (256:Int) < 9223372036854775808 by omega),c2]
    | true =>
      simp [c1,c1',A1N (show (256:Int) < 9223372036854775808 by omega),c2]
      rw [A0i] at c2
      have:=B88 (h:=ro h) (a:=a.toNat) (w:=w.toNat) (k:=w.toNat + 1) (by omega) (by omega) hl w.toNat 0 (w.toNat + 1) (by omega) (by omega)
      simp only [show ((a.toNat:Nat):Int)=a by omega,show ((w.toNat:Nat):Int)=w by omega] at this
      simpa [le] using this
theorem B9q {l:List UInt8} {z:List Cell} {h:A0} {a w k:Nat} {v:Int} (hw:w ≤ 4) (haw:a + w ≤ 256) (hl:l.length=256) (hz:z.length=256):∀ d i m,i + d=w → d < m →
    A87 k m (.c (.i .i64 a)) (.c (.i .i64 v)) (.c (.p h.length 0)) (.c (.p (h.length + 1) 0)) (.c (.i .i64 w)) (.c (.i .i64 i)) (h ++ [some ⟨A1 (D2 l a (C3 i v)),true⟩,some ⟨z,true⟩]) =
      some (.a (A1 (D2 l a (C3 w v))),h ++ [some ⟨A1 (D2 l a (C3 w v)),true⟩,some ⟨A1 (D2 l a (C3 w v)),true⟩])
  | d,i,0,_,hm=>by omega
  | 0,i,m + 1,hi,hm=>by
    have e:i=w:=by omega
    subst e
    have hle:(A1 (D2 l a (C3 i v))).length=256:=by rw [B5,A0a (by simp;omega),hl]
    have s1:=G0 (h:=h ++ [some ⟨A1 (D2 l a (C3 i v)),true⟩,some ⟨z,true⟩]) (id:=h.length) (cs:=A1 (D2 l a (C3 i v))) (by simp) hle
    have s2:=storeAll (h:=h ++ [some ⟨A1 (D2 l a (C3 i v)),true⟩,some ⟨z,true⟩]) (id:=h.length + 1) (cs:=z) (xs:=A1 (D2 l a (C3 i v))) (by simp) hz hle
    have s3:=G0 (h:=h ++ [some ⟨A1 (D2 l a (C3 i v)),true⟩,some ⟨A1 (D2 l a (C3 i v)),true⟩]) (id:=h.length + 1) (cs:=A1 (D2 l a (C3 i v))) (by simp) hle
    have h1':¬ (i:Int) < i:=by omega
    rw [B9p]
    simp only [esc,h1',s1,s2,s3]
  | d + 1,i,m + 1,hi,hm=>by
    have ih:=B9q (h:=h) (k:=k) (v:=v) hw haw hl hz d (i + 1) m (by omega) (by omega)
    have e2:IntKind.wrap .i64 (8 * (i:Int))=8 * i:=wrap_i64 (by omega) (by omega)
    have e3:IntKind.wrap .u64 (8 * (i:Int))=8 * i:=wrap_u64 (by omega) (by omega)
    have e4:A2 .shr (.c (.i .i64 v)) (.c (.i .u64 (8 * (i:Int))))=some (.c (.i .i64 (v / 2 ^ (Nat.min (8 * (i:Int)).toNat 64)))):=B1h (by omega)
    have ea:E1 256 1 (.c (.p h.length 0)) (.c (.i .i64 ((a + i:Nat):Int)))=some (.c (.p h.length (a + i))):=by rw [T3 (by omega)];simp
    have hst:=N5 (h:=h ++ [some ⟨A1 (D2 l a (C3 i v)),true⟩,some ⟨z,true⟩]) (id:=h.length) (off:=a + i) (cs:=A1 (D2 l a (C3 i v))) (x:=.i .u8 (byI v i).toNat) (by simp)
      (by rw [B5,A0a (by simp;omega)];omega)
    have e5:(D2 l a (C3 i v)).set (a + i) (byI v i)=D2 l a (C3 (i + 1) v):=by
      rw [B5O]
      have:=A8I (l:=l) (xs:=C3 i v) (a:=a) (x:=byI v i) (by simp;omega)
      simpa using this
    rw [A0r,e5] at hst
    have h1':(i:Int) < w:=by omega
    rw [B9p]
    simp only [esc,h1',A0F (show a + i < 9223372036854775808 by omega),e2,e3,e4,B5L (v:=v) (show i < 8 by omega),ea,hst,E2 (show i + 1 < 9223372036854775808 by omega)]
    exact ih
def K9 (l:List UInt8) (a w v:Int):List UInt8:=if w ≤ 4 ∧ Y5 a w 256=true then D2 l a.toNat (C3 w.toNat v) else l
theorem Y6 {l:List UInt8} {a w v:Int} (hl:l.length=256):(K9 l a w v).length=256:=by
  unfold K9
  split
  · rename_i h
    rw [A0i] at h
    rw [A0a (by simp;omega),hl]
  · exact hl
theorem D0G {l:List UInt8} {g:A0} (hl:l.length=256) {a w v:Int} :
    ∃ g',A7b (w.toNat + 1) [.a (A1 l),.c (.i .i64 a),.c (.i .i64 w),.c (.i .i64 v)] g=some (.a (A1 (K9 l a w v)),g'):=by
  have hle:(A1 l).length=256:=by rw [B5,hl]
  have hz:(List.replicate 256 (Cell.i .u8 0)).length=256:=List.length_replicate
  rw [C3b]
  generalize List.replicate 256 (Cell.i .u8 0)=z at *
  have s1:=G0 (h:=g ++ [some ⟨A1 l,true⟩,some ⟨z,true⟩]) (id:=g.length) (cs:=A1 l) (n:=256) (by simp) hle
  have s2:=storeAll (h:=g ++ [some ⟨A1 l,true⟩,some ⟨z,true⟩]) (id:=g.length + 1) (cs:=z) (xs:=A1 l) (by simp) hz hle
  have s3:=G0 (h:=g ++ [some ⟨A1 l,true⟩,some ⟨A1 l,true⟩]) (id:=g.length + 1) (cs:=A1 l) (n:=256) (by simp) hle
  unfold K9
  by_cases c1:4 < w
  · rw [if_neg (by omega)]
    exact ⟨_,by simp only [esc,c1,s1,s2,s3];rfl⟩
  · have c1':w ≤ 4:=by omega
    cases c2:Y5 a w 256 with
    | false =>
      rw [if_neg (by simp)]
      exact ⟨_,by simp only [esc,c1,A1N (show (256:Int) < 9223372036854775808 by omega),c2,s1,s2,s3];rfl⟩
    | true =>
      rw [if_pos ⟨c1',rfl⟩]
      have c3:=A0i.1 c2
      have:=B9q (h:=g) (a:=a.toNat) (w:=w.toNat) (k:=w.toNat + 1) (v:=v) (z:=z) (by omega) (by omega) hl hz w.toNat 0 (w.toNat + 1) (by omega) (by omega)
      simp only [show ((a.toNat:Nat):Int)=a by omega,show ((w.toNat:Nat):Int)=w by omega,show C3 0 v=[] from rfl,A8H] at this
      exact ⟨_,by simp only [esc,c1,A1N (show (256:Int) < 9223372036854775808 by omega),c2];exact this⟩
theorem A0A {l:List UInt8} {h:A0} (hl:l.length=256) {a w v:Int} :
    Q9 [.a (A1 l),.c (.i .i64 a),.c (.i .i64 w),.c (.i .i64 v)] h=some (.a (A1 (K9 l a w v)),h):=by
  obtain ⟨g,e⟩:=D0G (g:=ro h) hl (a:=a) (w:=w) (v:=v)
  exact C5A e (by simp)
theorem B9c {l:List UInt8} {h:A0} {b id a n k:Nat} (haw:a + n ≤ 256) (hl:l.length=256):∀ d i m,i + d=n → d < m →
    A81 k m (.c (.i .i64 a)) (.c (.p h.length 0)) (.c (.sl (h.length + 2) 0 n 1)) (.c (.i .i64 n)) (.c (.i .i64 i)) (h ++ [some ⟨A1 l,true⟩,some ⟨[],true⟩,some ⟨A1 ((l.drop a).take i ++ zeros (n - i)),true⟩]) =
      some (.c (.sl (h.length + 2) 0 n 1),h ++ [some ⟨A1 l,true⟩,some ⟨[],true⟩,some ⟨A1 ((l.drop a).take n),true⟩])
  | d,i,0,_,hm=>by omega
  | 0,i,m + 1,hi,hm=>by
    have e:i=n:=by omega
    subst e
    have h1':¬ (i:Int) < i:=by omega
    rw [B9b]
    simp only [esc,h1']
    simp [zeros]
  | d + 1,i,m + 1,hi,hm=>by
    have ih:=B9c (h:=h) (b:=b) (id:=id) (k:=k) haw hl d (i + 1) m (by omega) (by omega)
    have ea:E1 256 1 (.c (.p h.length 0)) (.c (.i .i64 ((a + i:Nat):Int)))=some (.c (.p h.length (a + i))):=by rw [T3 (by omega)];simp
    have eb:B7 1 (.c (.sl (h.length + 2) 0 n 1)) (.c (.i .i64 (i:Int)))=some (.c (.p (h.length + 2) i)):=by rw [G8 (by omega)];simp
    have hx:=D8 (h:=h ++ [some ⟨A1 l,true⟩,some ⟨[],true⟩,some ⟨A1 ((l.drop a).take i ++ zeros (n - i)),true⟩]) (id:=h.length) (off:=a + i) (c:=.i .u8 l[a + i].toNat) (cs:=A1 l) (rw:=true) (by simp) (by rw [A00,List.getElem?_eq_getElem (by omega)];rfl) rfl
    have hst:=N5 (h:=h ++ [some ⟨A1 l,true⟩,some ⟨[],true⟩,some ⟨A1 ((l.drop a).take i ++ zeros (n - i)),true⟩]) (id:=h.length + 2) (off:=i) (cs:=A1 ((l.drop a).take i ++ zeros (n - i))) (x:=.i .u8 l[a + i].toNat) (by simp)
      (by rw [B5];simp;omega)
    have e5:((l.drop a).take i ++ zeros (n - i)).set i l[a + i]=(l.drop a).take (i + 1) ++ zeros (n - (i + 1)):=by
      have hlen:((l.drop a).take i).length=i:=by simp;omega
      rw [List.set_append_right _ _ (by omega),hlen,Nat.sub_self,B3y (by omega),List.append_assoc]
      refine congrArg ((l.drop a).take i ++ ·) ?_
      have:n - i=n - (i + 1) + 1:=by omega
      rw [this]
      unfold zeros
      rw [List.replicate_succ,List.set_cons_zero];rfl
    rw [A0r,e5] at hst
    have h1':(i:Int) < n:=by omega
    rw [B9b]
    simp only [esc,h1',A0F (show a + i < 9223372036854775808 by omega),ea,hx,eb,hst,E2 (show i + 1 < 9223372036854775808 by omega)]
    exact ih
def P7 (l:List UInt8) (a n:Int):List UInt8:=if 0 ≤ a then (l.drop a.toNat).take n.toNat else []
theorem B3f (n:Nat):rows [Cell.i .u8 0] n=A1 (zeros n):=by
  unfold rows zeros
  induction n with
  | zero=>rfl
  | succ n ih=>rw [List.replicate_succ,List.flatten_cons,ih,List.replicate_succ];rfl
theorem D0s {l:List UInt8} {g:A0} (hl:l.length=256) {a n:Int} :
    ∃ v g',A67 ((min n (256 - a)).toNat + 1) [.a (A1 l),.c (.i .i64 a),.c (.i .i64 n)] g=some (v,g') ∧ Out g.length g' v 1 (P7 l a n).length (A1 (P7 l a n)):=by
  have hle:(A1 l).length=256:=by rw [B5,hl]
  rw [C26]
  unfold P7
  by_cases c1:a < 0
  · rw [if_neg (by omega)]
    exact ⟨_,_,by simp only [esc,c1];rfl,by simp [B5],_,rfl,by simp,by simp;rfl⟩
  · rw [if_pos (by omega)]
    by_cases c2:256 ≤ a
    · have e:l.drop a.toNat=[]:=List.drop_of_length_le (by omega)
      rw [e,List.take_nil]
      exact ⟨_,_,by simp only [esc,c1,c2];rfl,by simp [B5],_,rfl,by simp,by simp;rfl⟩
    · by_cases c3:n < 1
      · have e:n.toNat=0:=by omega
        rw [e]
        exact ⟨_,_,by simp only [esc,c1,c2,c3];rfl,by simp [B5],_,rfl,by simp,by simp;rfl⟩
      · have e1:IntKind.wrap .i64 (256 - a)=256 - a:=wrap_i64 (by omega) (by omega)
        have e2:T9 (.c (.i .i64 n)) (.c (.i .i64 (256 - a)))=some (.c (.i .i64 ((min n (256 - a)).toNat:Nat))):=by
          simp only [T9]
          congr 3
          by_cases h:256 - a < n
          · rw [if_pos h];omega
          · rw [if_neg h];omega
        generalize hN:(min n (256 - a)).toNat=N at *
        have e3:A0U (.c (.i .i64 (N:Int))) (.c (.i .i64 (N:Int)))=some N:=by
          have:Y2 (.c (.i .i64 (N:Int)))=some N:=by simp only [Y2];rw [if_pos (by omega)];simp
          simp [A0U,this]
        have e4:(l.drop a.toNat).take n.toNat=(l.drop a.toNat).take N:=by
          by_cases h:256 - a < n
          · rw [List.take_of_length_le (by simp;omega),List.take_of_length_le (by simp;omega)]
          · have:n.toNat=N:=by omega
            rw [this]
        have e5:((l.drop a.toNat).take N).length=N:=by simp;omega
        rw [e4,e5]
        have:=B9c (h:=g) (b:=0) (id:=0) (a:=a.toNat) (n:=N) (k:=N + 1) (by omega) hl N 0 (N + 1) (by omega) (by omega)
        simp only [show ((a.toNat:Nat):Int)=a by omega,List.take_zero,List.nil_append,Nat.sub_zero] at this
        exact ⟨_,_,by simp only [esc,c1,c2,c3,e1,e2,e3,B3f];exact this,by simp [B5,e5],_,rfl,by omega,by simp⟩
theorem A80 {l:List UInt8} {h:A0} (hl:l.length=256) {a n:Int} :
    Y9 [.a (A1 l),.c (.i .i64 a),.c (.i .i64 n)] h=some (.c (.sl h.length 0 (P7 l a n).length 1),h ++ [some ⟨A1 (P7 l a n),true⟩]):=by
  obtain ⟨v,g,e,ho⟩:=D0s (g:=ro h) hl (a:=a) (n:=n)
  exact C5t e (by simpa [M9] using ho) (by simp)
theorem B9i {v:Val} {nv:Nat} {data l:List UInt8} {z:List Cell} {h:A0} (hv:Has h v 1 nv (A1 data)) {a k:Nat} (ha:a < 256) (hl:l.length=256) (hz:z.length=256) (hd:data.length < 9223372036854775808):∀ d i m,i + d=data.length → d < m → i ≤ 256 - a →
    A84 k m (.c (.i .i64 a)) (.c (.p h.length 0)) (.c (.p (h.length + 1) 0)) v (.c (.i .i64 data.length)) (.c (.i .i64 i)) (h ++ [some ⟨A1 (D2 l a (data.take i)),true⟩,some ⟨z,true⟩]) =
      some (.a (A1 (D2 l a (data.take (256 - a)))),h ++ [some ⟨A1 (D2 l a (data.take (256 - a))),true⟩,some ⟨A1 (D2 l a (data.take (256 - a))),true⟩])
  | d,i,0,_,hm,_=>by omega
  | d,i,m + 1,hi,hm,hia=>by
    have hll:∀ i,i ≤ 256 - a → (A1 (D2 l a (data.take i))).length=256:=fun i hi=>by rw [B5,A0a (by simp;omega),hl]
    have fin:data.take i=data.take (256 - a) → A83 k (.c (.p h.length 0)) (.c (.p (h.length + 1) 0)) (h ++ [some ⟨A1 (D2 l a (data.take i)),true⟩,some ⟨z,true⟩]) =
      some (.a (A1 (D2 l a (data.take (256 - a)))),h ++ [some ⟨A1 (D2 l a (data.take (256 - a))),true⟩,some ⟨A1 (D2 l a (data.take (256 - a))),true⟩]):=fun e=>by
      rw [e]
      have hle:=hll (256 - a) (Nat.le_refl _)
      have s1:=G0 (h:=h ++ [some ⟨A1 (D2 l a (data.take (256 - a))),true⟩,some ⟨z,true⟩]) (id:=h.length) (cs:=A1 (D2 l a (data.take (256 - a)))) (by simp) hle
      have s2:=storeAll (h:=h ++ [some ⟨A1 (D2 l a (data.take (256 - a))),true⟩,some ⟨z,true⟩]) (id:=h.length + 1) (cs:=z) (xs:=A1 (D2 l a (data.take (256 - a)))) (by simp) hz hle
      have s3:=G0 (h:=h ++ [some ⟨A1 (D2 l a (data.take (256 - a))),true⟩,some ⟨A1 (D2 l a (data.take (256 - a))),true⟩]) (id:=h.length + 1) (cs:=A1 (D2 l a (data.take (256 - a)))) (by simp) hle
      rw [D0w]
      simp only [esc,s1,s2,s3]
    rw [D0z]
    by_cases c1:i < data.length
    · obtain ⟨d,rfl⟩:∃ e,d=e + 1:=⟨d - 1,by omega⟩
      have hnv:data.length=nv:=by simpa [B5] using hv.length
      obtain ⟨id,off,rfl,hid,h1,h2⟩:=(hv.more [some ⟨A1 (D2 l a (data.take i)),true⟩,some ⟨z,true⟩]).sl (by omega)
      have hx:=h1 i (.i .u8 data[i].toNat) (by rw [A00,List.getElem?_eq_getElem (by omega)];rfl)
      have eb:B7 1 (.c (.sl id off nv 1)) (.c (.i .i64 (i:Int)))=some (.c (.p id (off + i))):=by rw [G8 (by omega)];simp
      have e1:IntKind.wrap .i64 (256 - (a:Int))=256 - a:=wrap_i64 (by omega) (by omega)
      have c1':(i:Int) < data.length:=by omega
      by_cases c2:256 - a ≤ i
      · have c2':(256:Int) - a ≤ i:=by omega
        simp only [esc,c1',eb,hx,e1,c2']
        exact fin (by rw [show i=256 - a by omega])
      · have c2':¬ (256:Int) - a ≤ i:=by omega
        have ih:=B9i hv (l:=l) (z:=z) (k:=k) ha hl hz hd d (i + 1) m (by omega) (by omega) (by omega)
        have ea:E1 256 1 (.c (.p h.length 0)) (.c (.i .i64 ((a + i:Nat):Int)))=some (.c (.p h.length (a + i))):=by rw [T3 (by omega)];simp
        have hst:=N5 (h:=h ++ [some ⟨A1 (D2 l a (data.take i)),true⟩,some ⟨z,true⟩]) (id:=h.length) (off:=a + i) (cs:=A1 (D2 l a (data.take i))) (x:=.i .u8 data[i].toNat) (by simp)
          (by rw [hll i hia];omega)
        have e5:(D2 l a (data.take i)).set (a + i) data[i]=D2 l a (data.take (i + 1)):=by
          have:=A8I (l:=l) (xs:=data.take i) (a:=a) (x:=data[i]) (by simp;omega)
          rw [List.length_take,Nat.min_eq_left (by omega)] at this
          rw [this,List.take_succ_eq_append_getElem c1]
        rw [A0r,e5] at hst
        simp only [esc,c1',eb,hx,e1,c2',A0F (show a + i < 9223372036854775808 by omega),ea,hst,E2 (show i + 1 < 9223372036854775808 by omega)]
        exact ih
    · have c1':¬ (i:Int) < data.length:=by omega
      simp only [esc,c1']
      exact fin (by rw [List.take_of_length_le (by omega),List.take_of_length_le (by omega)])
def S2 (l:List UInt8) (a:Int) (data:List UInt8):List UInt8:=if 0 ≤ a ∧ a < 256 then D2 l a.toNat (data.take (256 - a.toNat)) else l
theorem C9J {l:List UInt8} {a:Int} {data:List UInt8} (hl:l.length=256):(S2 l a data).length=256:=by
  unfold S2
  split
  · rw [A0a (by simp;omega),hl]
  · exact hl
theorem D0A {v:Val} {nv:Nat} {data l:List UInt8} {g:A0} (hv:Has g v 1 nv (A1 data)) (hl:l.length=256) (hd:data.length < 9223372036854775808) {a:Int} :
    ∃ g',A68 (data.length + 1) [.a (A1 l),.c (.i .i64 a),v] g=some (.a (A1 (S2 l a data)),g'):=by
  have hle:(A1 l).length=256:=by rw [B5,hl]
  have hz:(List.replicate 256 (Cell.i .u8 0)).length=256:=List.length_replicate
  have hnv:data.length=nv:=by simpa [B5] using hv.length
  rw [C28]
  generalize List.replicate 256 (Cell.i .u8 0)=z at *
  have s1:=G0 (h:=g ++ [some ⟨A1 l,true⟩,some ⟨z,true⟩]) (id:=g.length) (cs:=A1 l) (n:=256) (by simp) hle
  have s2:=storeAll (h:=g ++ [some ⟨A1 l,true⟩,some ⟨z,true⟩]) (id:=g.length + 1) (cs:=z) (xs:=A1 l) (by simp) hz hle
  have s3:=G0 (h:=g ++ [some ⟨A1 l,true⟩,some ⟨A1 l,true⟩]) (id:=g.length + 1) (cs:=A1 l) (n:=256) (by simp) hle
  unfold S2
  by_cases c1:a < 0
  · rw [if_neg (by omega)]
    exact ⟨_,by simp only [esc,c1,s1,s2,s3];rfl⟩
  · by_cases c2:256 ≤ a
    · rw [if_neg (by omega)]
      exact ⟨_,by simp only [esc,c1,c2,s1,s2,s3];rfl⟩
    · rw [if_pos (by omega)]
      have:=B9i hv (l:=l) (a:=a.toNat) (k:=data.length + 1) (z:=z) (by omega) hl hz hd data.length 0 (data.length + 1) (by omega) (by omega) (by omega)
      simp only [show ((a.toNat:Nat):Int)=a by omega,List.take_zero,A8H] at this
      exact ⟨_,by simp only [esc,c1,c2,hv.len,← hnv];exact this⟩
theorem B2Y {v:Val} {nv:Nat} {data l:List UInt8} {h:A0} (hv:Has h v 1 nv (A1 data)) (hl:l.length=256) (hd:data.length < 9223372036854775808) {a:Int} :
    A0O [.a (A1 l),.c (.i .i64 a),v] h=some (.a (A1 (S2 l a data)),h):=by
  obtain ⟨g,e⟩:=D0A hv.ro hl hd (a:=a)
  exact C5w e (by simp)
theorem A85 {v:Val} {nv:Nat} {data:List UInt8} {h:A0} (hv:Has h v 1 nv (A1 data)) (hd:data.length < 9223372036854775808) :
    Z0 [v] h=some (.a (A1 (S2 (zeros 256) 0 data)),h):=by
  have key:∀ g,Has g v 1 nv (A1 data) → ∃ g',A69 0 [v] g=some (.a (A1 (S2 (zeros 256) 0 data)),g'):=by
    intro g hv
    rw [C29]
    have hz:(A1 (zeros 256)).length=256:=by rw [B5];exact zeros_length
    have hz0:(zeros 256).length=256:=zeros_length
    rw [M1]
    generalize zeros 256=Z at *
    have e:=B2Y (hv.more [some ⟨A1 Z,true⟩]) hz0 hd (a:=0)
    have hl2:(A1 (S2 Z 0 data)).length=256:=by rw [B5,C9J hz0]
    have s2:=storeAll (h:=g ++ [some ⟨A1 Z,true⟩]) (id:=g.length) (cs:=A1 Z) (xs:=A1 (S2 Z 0 data)) (by simp) hz hl2
    have s3:=G0 (h:=g ++ [some ⟨A1 (S2 Z 0 data),true⟩]) (id:=g.length) (cs:=A1 (S2 Z 0 data)) (n:=256) (by simp) hl2
    exact ⟨_,by simp only [esc,A8,e,s2,s3];rfl⟩
  obtain ⟨g,e⟩:=key _ hv.ro
  exact C5x e (by simp)
end Go.Proofs.YteckncopbicmcaaGreat
end
noncomputable section
namespace Go.Proofs.YteckncopbicmcaaGreat
open Go Go.Esc
set_option maxRecDepth 100000
def B6n:ACode:=.seq [0,1,5] (.seq [0,1,5,14] (.ops [aO 11 (.mv (.t 5)),aO 12 (.mv (.t 0)),aO 13 (.len (.t 12)),aO 14 (.bin .lss (.t 11) (.t 13))]) (.cond (.t 14) .skip (.exit 0))) (.seq [0,1,5] (.block 1 (.seq [0,1,5,25] (.draw 0 [aO 17 (.mv (.t 0)),aO 18 (.mv (.t 5)),aO 19 (.iAddrL 1 (.t 17) (.t 18)),aO 20 (.load1 (.t 19)),aO 21 (.mv (.t 1)),aO 22 (.mv (.t 5)),aO 23 (.iAddrL 1 (.t 21) (.t 22)),aO 24 (.load1 (.t 23))] [aO 25 (.bin .neq (.t 20) (.t 24))]) (.cond (.t 25) (.seq [4] (.ops [aO 4 (.mv (.v (.c (.b false))))]) .ret) .skip))) (.ops [aO 15 (.mv (.t 5)),aO 16 (.bin .add (.t 15) (.v (.c (.i .i64 1)))),aO 5 (.mv (.t 16))]))
def B6o:ACode:=.seq [4] (.ops [aO 4 (.mv (.v (.c (.b true))))]) .ret
def A_er01_Same:AFn:=⟨.seq [0,1] (.ops [aO 4 (.mv (.v (.c (.b false))))]) (.seq [0,1] (.seq [0,1,10] (.ops [aO 6 (.mv (.t 0)),aO 7 (.len (.t 6)),aO 8 (.mv (.t 1)),aO 9 (.len (.t 8)),aO 10 (.bin .neq (.t 7) (.t 9))]) (.cond (.t 10) (.seq [4] (.ops [aO 4 (.mv (.v (.c (.b false))))]) .ret) .skip)) (.seq [] (.seq [0,1,5] (.ops [aO 5 (.mv (.v (.c (.i .i64 0))))]) (.block 0 (.loop [0,1,5] B6n))) B6o)),[.tmp 4]⟩
def A3X:B0:=C0
def C8a (n:Nat):A9 (Val × A0):=E4 [] (ax A3X n B6o) A_er01_Same.fin
def C8b (n:Nat):A9 (Val × A0):=D6 0 (C8a n)
def A78 (n m:Nat) (x0 x1 x5:Val) (h:A0):A6:=C6 (ax A3X n B6n) [0,1,5] (C8b n) m [(0,x0),(1,x1),(5,x5)] h
def B0M (n:Nat) (args:List Val) (h:A0):A6:=ax A3X n A_er01_Same.code A_er01_Same.fin (params 0 args) h
theorem C2k (n:Nat) (a0 a1:Val) (h:A0):B0M n [a0,a1] h=bnd (D5 a0) fun v1=>bnd (D5 a1) fun v2=>bnd (A2 .neq v1 v2) fun v3=>cnd v3 (some ((.c (.b false)),h)) (A78 n n a0 a1 (.c (.i .i64 0)) h):=by kernel_rfl
theorem B6p (n m:Nat) (x0 x1 x5:Val) (h:A0):A78 n (m + 1) x0 x1 x5 h=bnd (D5 x0) fun v4=>bnd (A2 .lss x5 v4) fun v5=>cnd v5 (bnd (B7 1 x0 x5) fun v6=>bnd (A3 h v6) fun v7=>bnd (B7 1 x1 x5) fun v8=>bnd (A3 h v8) fun v9=>bnd (A2 .neq v7 v9) fun v10=>cnd v10 (some ((.c (.b false)),(h ++ []))) (bnd (A2 .add x5 (.c (.i .i64 1))) fun v11=>A78 n m x0 x1 v11 (h ++ []))) (some ((.c (.b true)),h)):=by kernel_rfl
theorem K_er01_Same:FnK Tryz.prog 49 A_er01_Same A3X B0M:=.mk' (C2) Tryz.func49 (by kernel_rfl) (fun _ _ _=>C1)
def A4G:Fun:=tidy (Lim A_er01_Same A3X)
theorem C4a:SOk Tryz.prog 49 A4G:=K_er01_Same.sok
theorem C39:C9 B0M A4G:=K_er01_Same.flat
end Go.Proofs.YteckncopbicmcaaGreat
end
section
namespace Go.Proofs.YteckncopbicmcaaGreat
open Go Go.Esc
theorem B9V {v u:Val} {nv nu:Nat} {l r:List UInt8} {h:A0} (hv:Has h v 1 nv (A1 l)) (hu:Has h u 1 nu (A1 r)) (hlr:l.length=r.length) (hl:l.length < 9223372036854775807) {k:Nat}:∀ d i m,i + d=l.length → d < m →
    A78 k m v u (.c (.i .i64 i)) h=some (.c (.b (decide (l.drop i=r.drop i))),h)
  | d,i,0,_,hm=>by omega
  | 0,i,m + 1,hi,hm=>by
    have hnv:l.length=nv:=by simpa [B5] using hv.length
    have e1:l.drop i=[]:=List.drop_of_length_le (by omega)
    have e2:r.drop i=[]:=List.drop_of_length_le (by omega)
    have h1':¬ (i:Int) < l.length:=by omega
    rw [B6p]
    simp only [esc,hv.len,← hnv,h1',e1,e2]
  | d + 1,i,m + 1,hi,hm=>by
    have ih:=B9V hv hu hlr hl (k:=k) d (i + 1) m (by omega) (by omega)
    have hnv:l.length=nv:=by simpa [B5] using hv.length
    have hnu:r.length=nu:=by simpa [B5] using hu.length
    have hlen:=hv.len
    obtain ⟨id,off,rfl,hid,h1,h2⟩:=hv.sl (by omega)
    obtain ⟨id',off',rfl,hid',h1',h2'⟩:=hu.sl (by omega)
    have hx:=h1 i (.i .u8 l[i].toNat) (by rw [A00,List.getElem?_eq_getElem (by omega)];rfl)
    have hy:=h1' i (.i .u8 r[i].toNat) (by rw [A00,List.getElem?_eq_getElem (by omega)];rfl)
    have ea:B7 1 (.c (.sl id off nv 1)) (.c (.i .i64 (i:Int)))=some (.c (.p id (off + i))):=by rw [G8 (by omega)];simp
    have eb:B7 1 (.c (.sl id' off' nu 1)) (.c (.i .i64 (i:Int)))=some (.c (.p id' (off' + i))):=by rw [G8 (by omega)];simp
    have c1:(i:Int) < nv:=by omega
    rw [B6p,List.drop_eq_getElem_cons (by omega:i < l.length),List.drop_eq_getElem_cons (by omega:i < r.length)]
    by_cases c:l[i]=r[i]
    · simp only [esc,c1,ea,eb,hx,hy,c,E2 (show i + 1 < 9223372036854775808 by omega),List.cons.injEq,true_and]
      exact ih
    · have c':¬ (l[i].toNat:Int)=r[i].toNat:=fun e=>c (UInt8.toNat_inj.1 (by omega))
      simp only [esc,c1,ea,eb,hx,hy,c',c,List.cons.injEq,false_and]
theorem D1m {v u:Val} {nv nu:Nat} {l r:List UInt8} {h:A0} (hv:Has h v 1 nv (A1 l)) (hu:Has h u 1 nu (A1 r)) (hl:l.length < 9223372036854775807) :
    A4G [v,u] h=some (.c (.b (decide (l=r))),h):=by
  refine C39 (n:=l.length + 1) (h2:=ro h) ?_ (by simp)
  have hnv:l.length=nv:=by simpa [B5] using hv.length
  have hnu:r.length=nu:=by simpa [B5] using hu.length
  rw [C2k]
  by_cases c:l.length=r.length
  · have:=B9V hv.ro hu.ro c hl (k:=l.length + 1) l.length 0 (l.length + 1) (by omega) (by omega)
    simp only [List.drop_zero] at this
    have c':(nv:Int)=nu:=by omega
    simp only [esc,hv.len,hu.len,c']
    exact this
  · have c':¬ (nv:Int)=nu:=by omega
    have c2:¬ l=r:=fun e=>c (by rw [e])
    simp only [esc,hv.len,hu.len,c',c2]
end Go.Proofs.YteckncopbicmcaaGreat
end
section
namespace Go.Proofs.YteckncopbicmcaaGreat
open Go Go.Esc
theorem B9g {v:Val} {nv:Nat} {l:List UInt8} {h:A0} (hv:Has h v 1 nv (A1 l)) {a w k:Nat} (hw:w ≤ 8) (haw:a + w ≤ l.length) (hl:l.length < 9223372036854775808):∀ d i m,i + d=w → d < m →
    A82 k m v (.c (.i .i64 a)) (.c (.i .u64 (le ((l.drop a).take i)))) (.c (.i .i64 w)) (.c (.i .i64 i)) h=some (.t [.c (.i .u64 (le ((l.drop a).take w))),.c (.b true)],h)
  | d,i,0,_,hm=>by omega
  | 0,i,m + 1,hi,hm=>by
    have e:i=w:=by omega
    subst e
    rw [B9f]
    simp
  | d + 1,i,m + 1,hi,hm=>by
    have ih:=B9g hv (k:=k) hw haw hl d (i + 1) m (by omega) (by omega)
    have hnv:l.length=nv:=by simpa [B5] using hv.length
    obtain ⟨id,off,rfl,hid,h1,h2⟩:=hv.sl (by omega)
    have hx:=h1 (a + i) (.i .u8 l[a + i].toNat) (by rw [A00,List.getElem?_eq_getElem (by omega)];rfl)
    have hb:=l[a + i].toNat_lt
    have hlen:((l.drop a).take i).length=i:=by simp;omega
    have hle:=A5O ((l.drop a).take i)
    rw [hlen] at hle
    have hp:=A9f (show i ≤ 8 by omega)
    have hbp:=B5K (x:=l[a + i]) (show i < 8 by omega)
    have e2:IntKind.wrap .i64 (8 * (i:Int))=8 * i:=wrap_i64 (by omega) (by omega)
    have e3:IntKind.wrap .u64 (8 * (i:Int))=8 * i:=wrap_u64 (by omega) (by omega)
    have e5:IntKind.wrap .u64 (l[a + i].toNat:Int)=l[a + i].toNat:=wrap_u64 (by omega) (by omega)
    have e6:=C0r (k:=.u64) (x:=l[a + i]) (show i < 8 by omega) (wrap_u64 (by omega) (by omega)) rfl
    have e7:A2 .or (.c (.i .u64 (le ((l.drop a).take i):Nat))) (.c (.i .u64 ((l[a + i].toNat * 256 ^ i:Nat):Int)))=some (.c (.i .u64 (le ((l.drop a).take (i + 1)):Nat))):=by
      rw [D0O (by omega) (by omega),B3y (by omega),← B9A,hlen]
    have ea:B7 1 (.c (.sl id off nv 1)) (.c (.i .i64 ((a + i:Nat):Int)))=some (.c (.p id (off + (a + i)))):=by rw [G8 (by omega)];simp
    have h1':(i:Int) < w:=by omega
    rw [B9f]
    simp only [esc,h1',A0F (show a + i < 9223372036854775808 by omega),e2,e3,ea,hx,e5,e6,e7,E2 (show i + 1 < 9223372036854775808 by omega)]
    exact ih
theorem D0t {v:Val} {nv:Nat} {l:List UInt8} {h:A0} (hv:Has h v 1 nv (A1 l)) {a w:Int} (hl:l.length < 9223372036854775808) :
    A48 [v,.c (.i .i64 a),.c (.i .i64 w)] h=some (.t [.c (.i .u64 ((A5J l a w).getD 0:Nat)),.c (.b (A5J l a w).isSome)],h):=by
  refine C5u (n:=w.toNat + 1) (h2:=ro h) ?_ (by simp)
  rw [C27]
  have hv':=hv.ro
  have hnv:l.length=nv:=by simpa [B5] using hv.length
  unfold A5J
  by_cases c1:8 < w
  · have c1':¬ w ≤ 8:=by omega
    simp [c1,c1']
  · have c1':w ≤ 8:=by omega
    cases c2:Y5 a w l.length with
    | false=>simp [c1,hv'.len,← hnv,A1N (show (l.length:Int) < 9223372036854775808 by omega),c2]
    | true =>
      simp [c1,c1',hv'.len,← hnv,A1N (show (l.length:Int) < 9223372036854775808 by omega),c2]
      rw [A0i] at c2
      have:=B9g hv' (a:=a.toNat) (w:=w.toNat) (k:=w.toNat + 1) (by omega) (by omega) hl w.toNat 0 (w.toNat + 1) (by omega) (by omega)
      simp only [show ((a.toNat:Nat):Int)=a by omega,show ((w.toNat:Nat):Int)=w by omega] at this
      simpa [le] using this
theorem B9m {l:List UInt8} {b id a w k:Nat} {v:Int} (hw:w ≤ 8) (haw:a + w ≤ l.length) (hl:l.length < 9223372036854775808):∀ d i m (h:A0),i + d=w → d < m → b ≤ id → b ≤ h.length → rd h id=some ⟨A1 (D2 l a (C3 i v)),true⟩ →
    ∃ h',A86 k m (.c (.i .i64 a)) (.c (.i .u64 v)) (.c (.sl id 0 l.length 1)) (.c (.i .i64 w)) (.c (.i .i64 i)) h=some (.t [.c (.sl id 0 l.length 1),.c (.b true)],h') ∧ rd h' id=some ⟨A1 (D2 l a (C3 w v)),true⟩
  | d,i,0,h,_,hm,_,_,_=>by omega
  | 0,i,m + 1,h,hi,hm,_,_,hr=>by
    have e:i=w:=by omega
    subst e
    have h1':¬ (i:Int) < i:=by omega
    rw [B9l]
    exact ⟨h,by simp only [esc,h1'],hr⟩
  | d + 1,i,m + 1,h,hi,hm,hb,hbl,hr=>by
    have e2:IntKind.wrap .i64 (8 * (i:Int))=8 * i:=wrap_i64 (by omega) (by omega)
    have e3:IntKind.wrap .u64 (8 * (i:Int))=8 * i:=wrap_u64 (by omega) (by omega)
    have e4:A2 .shr (.c (.i .u64 v)) (.c (.i .u64 (8 * (i:Int))))=some (.c (.i .u64 (v / 2 ^ (Nat.min (8 * (i:Int)).toNat 64)))):=B1h (by omega)
    have ea:B7 1 (.c (.sl id 0 l.length 1)) (.c (.i .i64 ((a + i:Nat):Int)))=some (.c (.p id (a + i))):=by rw [G8 (by omega)];simp
    have hst:=N5 (off:=a + i) (x:=.i .u8 (byI v i).toNat) hr (by rw [B5,A0a (by simp;omega)];omega)
    have e5:(D2 l a (C3 i v)).set (a + i) (byI v i)=D2 l a (C3 (i + 1) v):=by
      rw [B5O]
      have:=A8I (l:=l) (xs:=C3 i v) (a:=a) (x:=byI v i) (by simp;omega)
      simpa using this
    rw [A0r,e5] at hst
    obtain ⟨h',ih,hr'⟩:=B9m (b:=b) (k:=k) (v:=v) hw haw hl d (i + 1) m (h.set id (some ⟨A1 (D2 l a (C3 (i + 1) v)),true⟩)) (by omega) (by omega) hb (by simpa using hbl) (G3 (B8 hr))
    have h1':(i:Int) < w:=by omega
    rw [B9l]
    exact ⟨h',by simp only [esc,h1',A0F (show a + i < 9223372036854775808 by omega),e2,e3,e4,B5L (v:=v) (show i < 8 by omega),ea,hst,E2 (show i + 1 < 9223372036854775808 by omega)];exact ih,hr'⟩
def V7 (l:List UInt8) (a w v:Int):Option (List UInt8):=if w ≤ 8 ∧ Y5 a w l.length=true then some (D2 l a.toNat (C3 w.toNat v)) else none
theorem D0B {x:Val} {nv:Nat} {l:List UInt8} {h:A0} (hv:Has h x 1 nv (A1 l)) {a w v:Int} (hl:l.length ≤ 1073741824) :
    A49 [x,.c (.i .i64 a),.c (.i .i64 w),.c (.i .u64 v)] h=some (.t [.c (.sl h.length 0 ((V7 l a w v).getD []).length 1),.c (.b (V7 l a w v).isSome)],h ++ [some ⟨A1 ((V7 l a w v).getD []),true⟩]):=by
  have hnv:l.length=nv:=by simpa [B5] using hv.length
  have key:∀ g,Has g x 1 nv (A1 l) → ∃ id g',A7a (w.toNat + 1) [x,.c (.i .i64 a),.c (.i .i64 w),.c (.i .u64 v)] g=some (.t [.c (.sl id 0 ((V7 l a w v).getD []).length 1),.c (.b (V7 l a w v).isSome)],g') ∧ g.length ≤ id ∧ rd g' id=some ⟨A1 ((V7 l a w v).getD []),true⟩:=by
    intro g hv
    rw [C3a]
    have hvm:=hv.more [some ⟨[],true⟩]
    unfold V7
    by_cases c1:8 < w
    · rw [if_neg (by omega)]
      exact ⟨_,_,by simp only [esc,c1];rfl,by simp,by simp;rfl⟩
    · cases c2:Y5 a w l.length with
      | false =>
        rw [if_neg (by simp)]
        exact ⟨_,_,by simp only [esc,c1,hvm.len,← hnv,A1N (show (l.length:Int) < 9223372036854775808 by omega),c2];rfl,by simp,by simp;rfl⟩
      | true =>
        rw [if_pos ⟨by omega,rfl⟩]
        have c3:=A0i.1 c2
        have hvm2:=hv.more [some ⟨[],true⟩,some ⟨[],true⟩]
        have e1:F0 (g ++ [some ⟨[],true⟩,some ⟨[],true⟩]) 1 (.c (.sl (g.length + 1) 0 0 1)) x=some (.c (.sl (g.length + 2) 0 l.length 1),g ++ [some ⟨[],true⟩,none,some ⟨A1 l,true⟩]):=by
          simp [F0,hvm2.add,B5]
          exact hl
        obtain ⟨g',e2,hr⟩:=B9m (l:=l) (b:=g.length) (id:=g.length + 2) (a:=a.toNat) (w:=w.toNat) (k:=w.toNat + 1) (v:=v) (by omega) (by omega) (by omega) w.toNat 0 (w.toNat + 1) (g ++ [some ⟨[],true⟩,none,some ⟨A1 l,true⟩]) (by omega) (by omega) (by omega) (by simp) (by simp [C3,A8H])
        simp only [show ((a.toNat:Nat):Int)=a by omega,show ((w.toNat:Nat):Int)=w by omega] at e2
        have hlen:((some (D2 l a.toNat (C3 w.toNat v))).getD []).length=l.length:=by
          simp only [Option.getD_some];rw [A0a (by simp;omega)]
        rw [hlen]
        exact ⟨g.length + 2,g',by simp only [esc,c1,hvm.len,← hnv,A1N (show (l.length:Int) < 9223372036854775808 by omega),c2,A8,e1];exact e2,by omega,hr⟩
  obtain ⟨id,g',e,hb,hr⟩:=key _ hv.ro
  have hb':h.length ≤ id:=by simpa [M9] using hb
  have:=C5z e (v2:=.t [.c (.sl h.length 0 ((V7 l a w v).getD []).length 1),.c (.b (V7 l a w v).isSome)]) (ids:=[id]) (by
    have e2:H7 g' h.length [id] [.b (V7 l a w v).isSome]=some ([.b (V7 l a w v).isSome],[id]):=A1n (by simp)
    simp [J9,P5,H7,hb',show ¬ id < h.length by omega,A2N hr (by simp:F9 (A1 ((V7 l a w v).getD []))=true)])
  rw [this]
  simp [hr]
end Go.Proofs.YteckncopbicmcaaGreat
end
section
namespace Go.Proofs.YteckncopbicmcaaGreat
open Go Go.Esc
def D4 (n:Nat) (l:List UInt8):List UInt8:=l ++ zeros (n - l.length)
theorem J4 {n:Nat} {l:List UInt8} (h:l.length ≤ n):(D4 n l).length=n:=by
  unfold D4;rw [List.length_append,zeros_length];omega
theorem D0S {n:Nat}:D4 n []=zeros n:=by simp [D4]
theorem B9F {l xs:List UInt8} {a:Nat} (h1:l.length ≤ a) (h2:a + xs.length ≤ 256):D2 (D4 256 l) a xs=D4 256 (l ++ zeros (a - l.length) ++ xs):=by
  unfold D2 D4
  have e1:(l ++ zeros (256 - l.length)).take a=l ++ zeros (a - l.length):=by
    rw [List.take_append,List.take_of_length_le h1]
    unfold zeros
    rw [List.take_replicate,Nat.min_eq_left (by omega)]
  have e2:(l ++ zeros (256 - l.length)).drop (a + xs.length)=zeros (256 - (l ++ zeros (a - l.length) ++ xs).length):=by
    rw [List.drop_append,List.drop_of_length_le (by omega),List.nil_append]
    unfold zeros
    rw [List.drop_replicate]
    congr 1
    simp
    omega
  rw [e1,e2]
  simp only [List.append_assoc]
theorem A0G {l:List UInt8} {a w:Nat} {v:Int} (h1:l.length ≤ a) (h2:a + w ≤ 256) (hw:1 ≤ w) (hw4:w ≤ 4):K9 (D4 256 l) a w v=D4 256 (l ++ zeros (a - l.length) ++ C3 w v):=by
  unfold K9
  rw [if_pos ⟨by omega,A0i.2 (by omega)⟩]
  simp only [Int.toNat_natCast]
  exact B9F h1 (by simp;exact h2)
def fieldN (b:List UInt8) (a w:Nat):Int:=((le ((b.drop a).take w):Nat):Int)
theorem A89 {b:List UInt8} (hb:b.length ≤ 256):S2 (zeros 256) 0 b=D4 256 b:=by
  unfold S2 D2 D4
  rw [if_pos (by omega)]
  simp only [Int.toNat_zero,List.take_zero,List.nil_append,Nat.sub_zero,Nat.zero_add]
  rw [List.take_of_length_le hb]
  unfold zeros
  rw [List.drop_replicate]
theorem B1w {b:List UInt8} {a w:Nat} (h1:a + w ≤ b.length) (h2:b.length ≤ 256) (hw:1 ≤ w) (hw4:w ≤ 4):((atN (D4 256 b) a w:Nat):Int)=fieldN b a w:=by
  unfold atN fieldN D4
  rw [if_pos ⟨by omega,A0i.2 (by omega)⟩]
  simp only [Int.toNat_natCast]
  rw [List.drop_append_of_le_length (by omega),List.take_append_of_le_length (by simp;omega)]
end Go.Proofs.YteckncopbicmcaaGreat
end
noncomputable section
namespace Go.Proofs.YteckncopbicmcaaGreat
open Go Go.Esc
set_option maxRecDepth 100000
def B8z:ACode:=.seq [0,1,7,8,9] (.ops [aO 9 (.bin .lss (.t 8) (.t 7))]) (.seq [0,1,7,8] (.cond (.t 9) .skip (.exit 0)) (.seq [0,1,7,8] (.block 1 (.seq [0,1,5,7,8] (.ops [aO 10 (.mv (.t 8)),aO 5 (.mv (.t 10))]) (.ops [aO 11 (.mv (.t 0)),aO 12 (.mv (.t 1)),aO 13 (.mv (.t 5)),aO 14 (.idxS (.t 12) (.t 13)),aO 15 (.conv .u32 (.t 14)),aO 16 (.bin .xor (.t 11) (.t 15)),aO 17 (.bin .mul (.t 16) (.v (.c (.i .u32 16777619)))),aO 0 (.mv (.t 17))]))) (.ops [aO 18 (.bin .add (.t 8) (.v (.c (.i .i64 1)))),aO 8 (.mv (.t 18))])))
def B8A:ACode:=.seq [4] (.ops [aO 19 (.mv (.t 0)),aO 4 (.mv (.t 19))]) .ret
def A_mix_More:AFn:=⟨.seq [0,1] (.ops [aO 4 (.mv (.v (.c (.i .u32 0))))]) (.seq [0] (.seq [0,1,7,8] (.ops [aO 6 (.mv (.t 1)),aO 7 (.lenS (.t 6)),aO 8 (.mv (.v (.c (.i .i64 0))))]) (.block 0 (.loop [0,1,7,8] B8z))) B8A),[.tmp 4]⟩
def A4b:B0:=C0
def C94 (n:Nat):A9 (Val × A0):=E4 [0] (ax A4b n B8A) A_mix_More.fin
def C95 (n:Nat):A9 (Val × A0):=D6 0 (C94 n)
def A8R (n m:Nat) (x0 x1 x7 x8:Val) (h:A0):A6:=C6 (ax A4b n B8z) [0,1,7,8] (C95 n) m [(0,x0),(1,x1),(7,x7),(8,x8)] h
def B0W (n:Nat) (args:List Val) (h:A0):A6:=ax A4b n A_mix_More.code A_mix_More.fin (params 0 args) h
theorem C2X (n:Nat) (a0 a1:Val) (h:A0):B0W n [a0,a1] h=bnd (T7 a1) fun v1=>A8R n n a0 a1 v1 (.c (.i .i64 0)) h:=by kernel_rfl
theorem B8B (n m:Nat) (x0 x1 x7 x8:Val) (h:A0):A8R n (m + 1) x0 x1 x7 x8 h=bnd (A2 .lss x8 x7) fun v2=>cnd v2 (bnd (U7 x1 x8) fun v3=>bnd (L6 .u32 v3) fun v4=>bnd (A2 .xor x0 v4) fun v5=>bnd (A2 .mul v5 (.c (.i .u32 16777619))) fun v6=>bnd (A2 .add x8 (.c (.i .i64 1))) fun v7=>A8R n m v6 x1 x7 v7 h) (some (x0,h)):=by kernel_rfl
theorem K_mix_More:FnK Tryz.prog 157 A_mix_More A4b B0W:=.mk' (C2) Tryz.func157 (by kernel_rfl) (fun _ _ _=>C1)
def A44:Fun:=tidy (Lim A_mix_More A4b)
theorem C5h:SOk Tryz.prog 157 A44:=K_mix_More.sok
theorem C5g:C9 B0W A44:=K_mix_More.flat
def A_mix_Of:AFn:=⟨.seq [0] (.ops [aO 2 (.mv (.v (.c (.i .u32 0))))]) (.seq [2] (.ops [aO 3 (.mv (.t 0)),aO 4 (.call 157 [(.v (.c (.i .u32 2166136261))),(.t 3)]),aO 2 (.mv (.t 4))]) .ret),[.tmp 2]⟩
def B0k:B0:=B1 157 A44 C0
def B0X (n:Nat) (args:List Val) (h:A0):A6:=ax B0k n A_mix_Of.code A_mix_Of.fin (params 0 args) h
theorem C2Y (n:Nat) (a0:Val) (h:A0):B0X n [a0] h=bnd (A44 [.c (.i .u32 2166136261),a0] h) fun p1=>some (p1.1,p1.2):=by kernel_rfl
theorem K_mix_Of:FnK Tryz.prog 78 A_mix_Of B0k B0X:=.mk' (B3 C5h C2) Tryz.func78 (by kernel_rfl) (fun _ _ _=>C1)
def A2a:Fun:=tidy (Lim A_mix_Of B0k)
theorem B4t:SOk Tryz.prog 78 A2a:=K_mix_Of.sok
theorem C5i:C9 B0X A2a:=K_mix_Of.flat
def A_mix_Low:AFn:=⟨.seq [0,1] (.ops [aO 4 (.mv (.v (.c (.i .i64 0))))]) (.seq [0,1] (.block 0 (.seq [0,1,5] (.ops [aO 6 (.mv (.t 1)),aO 7 (.bin .lss (.t 6) (.v (.c (.i .i64 1)))),aO 5 (.mv (.t 7))]) (.cond (.t 5) (.seq [4] (.ops [aO 4 (.mv (.v (.c (.i .i64 0))))]) .ret) (.seq [0,1,8] (.ops [aO 9 (.mv (.t 1)),aO 10 (.bin .geq (.t 9) (.v (.c (.i .i64 32)))),aO 8 (.mv (.t 10))]) (.cond (.t 8) (.seq [4] (.ops [aO 11 (.mv (.t 0)),aO 12 (.conv .i64 (.t 11)),aO 4 (.mv (.t 12))]) .ret) .skip))))) (.seq [4] (.ops [aO 13 (.mv (.t 0)),aO 14 (.mv (.t 1)),aO 15 (.conv .u64 (.t 14)),aO 16 (.bin .shl (.v (.c (.i .u32 1))) (.t 15)),aO 17 (.bin .sub (.t 16) (.v (.c (.i .u32 1)))),aO 18 (.bin .and (.t 13) (.t 17)),aO 19 (.conv .i64 (.t 18)),aO 4 (.mv (.t 19))]) .ret)),[.tmp 4]⟩
def B0j:B0:=C0
def A62 (n:Nat) (args:List Val) (h:A0):A6:=ax B0j n A_mix_Low.code A_mix_Low.fin (params 0 args) h
theorem C2W (n:Nat) (a0 a1:Val) (h:A0):A62 n [a0,a1] h=bnd (A2 .lss a1 (.c (.i .i64 1))) fun v1=>cnd v1 (some ((.c (.i .i64 0)),h)) (bnd (A2 .geq a1 (.c (.i .i64 32))) fun v2=>cnd v2 (bnd (L6 .i64 a0) fun v3=>some (v3,h)) (bnd (L6 .u64 a1) fun v4=>bnd (A2 .shl (.c (.i .u32 1)) v4) fun v5=>bnd (A2 .sub v5 (.c (.i .u32 1))) fun v6=>bnd (A2 .and a0 v6) fun v7=>bnd (L6 .i64 v7) fun v8=>some (v8,h))):=by kernel_rfl
theorem K_mix_Low:FnK Tryz.prog 155 A_mix_Low B0j A62:=.mk' (C2) Tryz.func155 (by kernel_rfl) (fun _ _ _=>C1)
def A43:Fun:=tidy (Lim A_mix_Low B0j)
theorem C5f:SOk Tryz.prog 155 A43:=K_mix_Low.sok
theorem C5e:C9 A62 A43:=K_mix_Low.flat
end Go.Proofs.YteckncopbicmcaaGreat
end
noncomputable section
namespace Go.Proofs.YteckncopbicmcaaGreat
open Go Go.Esc
set_option maxRecDepth 100000
def B6q:ACode:=.seq [0,1,5] (.seq [0,1,5,14] (.ops [aO 11 (.mv (.t 5)),aO 12 (.mv (.t 0)),aO 13 (.len (.t 12)),aO 14 (.bin .lss (.t 11) (.t 13))]) (.cond (.t 14) .skip (.exit 0))) (.seq [0,1,5] (.block 1 (.seq [0,1,5,25] (.draw 0 [aO 17 (.mv (.t 0)),aO 18 (.mv (.t 5)),aO 19 (.iAddrL 1 (.t 17) (.t 18)),aO 20 (.load1 (.t 19)),aO 21 (.mv (.t 1)),aO 22 (.mv (.t 5)),aO 23 (.iAddrL 1 (.t 21) (.t 22)),aO 24 (.load1 (.t 23))] [aO 25 (.bin .neq (.t 20) (.t 24))]) (.cond (.t 25) (.seq [4] (.ops [aO 4 (.mv (.v (.c (.b false))))]) .ret) .skip))) (.ops [aO 15 (.mv (.t 5)),aO 16 (.bin .add (.t 15) (.v (.c (.i .i64 1)))),aO 5 (.mv (.t 16))]))
def B6r:ACode:=.seq [4] (.ops [aO 4 (.mv (.v (.c (.b true))))]) .ret
def A_er02_Texts:AFn:=⟨.seq [0,1] (.ops [aO 4 (.mv (.v (.c (.b false))))]) (.seq [0,1] (.seq [0,1,10] (.ops [aO 6 (.mv (.t 0)),aO 7 (.len (.t 6)),aO 8 (.mv (.t 1)),aO 9 (.len (.t 8)),aO 10 (.bin .neq (.t 7) (.t 9))]) (.cond (.t 10) (.seq [4] (.ops [aO 4 (.mv (.v (.c (.b false))))]) .ret) .skip)) (.seq [] (.seq [0,1,5] (.ops [aO 5 (.mv (.v (.c (.i .i64 0))))]) (.block 0 (.loop [0,1,5] B6q))) B6r)),[.tmp 4]⟩
def A3Y:B0:=C0
def C8c (n:Nat):A9 (Val × A0):=E4 [] (ax A3Y n B6r) A_er02_Texts.fin
def C8d (n:Nat):A9 (Val × A0):=D6 0 (C8c n)
def A79 (n m:Nat) (x0 x1 x5:Val) (h:A0):A6:=C6 (ax A3Y n B6q) [0,1,5] (C8d n) m [(0,x0),(1,x1),(5,x5)] h
def B0N (n:Nat) (args:List Val) (h:A0):A6:=ax A3Y n A_er02_Texts.code A_er02_Texts.fin (params 0 args) h
theorem C2l (n:Nat) (a0 a1:Val) (h:A0):B0N n [a0,a1] h=bnd (D5 a0) fun v1=>bnd (D5 a1) fun v2=>bnd (A2 .neq v1 v2) fun v3=>cnd v3 (some ((.c (.b false)),h)) (A79 n n a0 a1 (.c (.i .i64 0)) h):=by kernel_rfl
theorem B6s (n m:Nat) (x0 x1 x5:Val) (h:A0):A79 n (m + 1) x0 x1 x5 h=bnd (D5 x0) fun v4=>bnd (A2 .lss x5 v4) fun v5=>cnd v5 (bnd (B7 1 x0 x5) fun v6=>bnd (A3 h v6) fun v7=>bnd (B7 1 x1 x5) fun v8=>bnd (A3 h v8) fun v9=>bnd (A2 .neq v7 v9) fun v10=>cnd v10 (some ((.c (.b false)),(h ++ []))) (bnd (A2 .add x5 (.c (.i .i64 1))) fun v11=>A79 n m x0 x1 v11 (h ++ []))) (some ((.c (.b true)),h)):=by kernel_rfl
theorem K_er02_Texts:FnK Tryz.prog 40 A_er02_Texts A3Y B0N:=.mk' (C2) Tryz.func40 (by kernel_rfl) (fun _ _ _=>C1)
def A11:Fun:=tidy (Lim A_er02_Texts A3Y)
theorem B4l:SOk Tryz.prog 40 A11:=K_er02_Texts.sok
theorem C4b:C9 B0N A11:=K_er02_Texts.flat
end Go.Proofs.YteckncopbicmcaaGreat
end
