/- What the proof of this claim leans on, part 2. -/
import Derived.Test.YtdgggnlbdoiloaaFFreadOncep1
set_option linter.all false
section
namespace Go.Esc
open Go

theorem Env.get_keep_mem (e : Env) (l : List Nat) (t : Nat) : (e.keep l).get t = if t ∈ l then e.get t else .un := by
  induction l with
  | nil => rfl
  | cons x r ih =>
    simp only [Env.keep, Env.get]
    by_cases h : x = t
    · subst h; simp
    · have : Nat.beq x t = false := by cases hb : Nat.beq x t with
        | false => rfl
        | true => exact absurd (Nat.eq_of_beq_eq_true hb) h
      rw [this, cond_false, ih]
      have h' : t ≠ x := Ne.symm h
      simp [h']

section
variable {P : Program} {N m : Nat} {ops : Array Oper} {l r : List AOper} {E : Sums} {hr : Heap} {e : Env} {es : Nat → Env} {hs : Nat → Heap} {vs : Nat → Val} {Γ : Ctx} {μ0 : Mu}

theorem es_writer (D : DrawOk P N ops m l r) (ht : Trace E hr hr.length l es hs vs) {j t : Nat} {aj : AOper} (haj : l[j]? = some aj) (hd : aj.dst = some t) : ∀ k, j < k → k ≤ l.length → (es k).get t = vs j := by
  intro k
  induction k with
  | zero => intro h; omega
  | succ k ih =>
    intro hjk hk
    rw [ht.env k l[k] (List.getElem?_eq_getElem (by omega))]
    by_cases e : j = k
    · subst e
      have : l[j] = aj := by have h2 := List.getElem?_eq_getElem (l := l) (i := j) (by omega); rw [haj] at h2; cases h2; rfl
      rw [this, hd]; exact Env.get_put_same _ _ _
    · have hne := (D.apart j k aj l[k] haj (List.getElem?_eq_getElem (by omega)) e).1 t hd
      cases hdk : l[k].dst with
      | none => exact ih (by omega) (by omega)
      | some d =>
        rw [hdk] at hne
        rw [Env.get_put_other _ _ _ _ (by intro h; subst h; exact hne rfl)]
        exact ih (by omega) (by omega)

theorem es_other (ht : Trace E hr hr.length l es hs vs) (he : es 0 = e) {t : Nat} : ∀ k, k ≤ l.length → (∀ (j : Nat) aj, j < k → l[j]? = some aj → aj.dst ≠ some t) → (es k).get t = e.get t := by
  intro k
  induction k with
  | zero => intro _ _; rw [he]
  | succ k ih =>
    intro hk hno
    rw [ht.env k l[k] (List.getElem?_eq_getElem (by omega))]
    have hne := hno k l[k] (by omega) (List.getElem?_eq_getElem (by omega))
    cases hdk : l[k].dst with
    | none => exact ih (by omega) fun j aj hj => hno j aj (by omega)
    | some d =>
      rw [hdk] at hne
      rw [Env.get_put_other _ _ _ _ (by intro h; subst h; exact hne rfl)]
      exact ih (by omega) fun j aj hj => hno j aj (by omega)

def also (done : Nat → Bool) (i : Nat) : Nat → Bool := fun k => decide (k = i) || done k

theorem also_self (done : Nat → Bool) (i : Nat) : also done i i = true := by simp [also]
theorem also_of (done : Nat → Bool) (i : Nat) {k : Nat} (h : k ≠ i) : also done i k = done k := by simp [also, h]

theorem sim_env (D : DrawOk P N ops m l r) (ht : Trace E hr hr.length l es hs vs) (he : es 0 = e) {done : Nat → Bool} {q : Nat} {μ : Mu} {a : Act} {w : World}
    (S : Sim Γ l hr.length N e es hs vs μ0 done q μ a w) {i : Nat} {ao : AOper} (ha : l[i]? = some ao) (hnd : done i = false) (hah : ∀ b, ((closures ops).getD i 0).testBit b = true → done b = true) (hcl : ∀ j, done j = true → ∀ b, ((closures ops).getD j 0).testBit b = true → done b = true) : SEnv μ ((es i).keep ao.reads) a := by
  intro t
  rw [Env.get_keep_mem]
  split
  · rename_i hmem
    have hil : i < l.length := (List.getElem?_eq_some_iff.1 ha).1
    by_cases hw : ∃ (j : Nat) (aj : AOper), l[j]? = some aj ∧ aj.dst = some t
    · obtain ⟨j, aj, haj, hd⟩ := hw
      rcases D.reads i j ao aj t ha haj hd hmem with ⟨h1, h2⟩ | ⟨h1, h2⟩
      · rw [es_writer D ht haj hd i h2 (by omega)]
        exact S.envD j aj t haj (hah j h1) hd
      · have hnj : done j = false := by
          cases hdj : done j with
          | false => rfl
          | true => rw [hcl j hdj i h1] at hnd; cases hnd
        have huniq : ∀ (k : Nat) (ak : AOper), l[k]? = some ak → ak.dst = some t → k = j := fun k ak hak hk => by
          by_cases e : k = j
          · exact e
          · exact absurd hd ((D.apart k j ak aj hak haj e).1 t hk)
        rw [es_other ht he i (by omega) fun k ak hk hak hkd => by have := huniq k ak hak hkd; omega]
        exact S.envO t fun k ak hak hk hkd => by rw [huniq k ak hak hkd, hnj] at hk; cases hk
    · have hno : ∀ (j : Nat) (aj : AOper), l[j]? = some aj → aj.dst ≠ some t := fun j aj haj hd => hw ⟨j, aj, haj, hd⟩
      rw [es_other ht he i (by omega) fun j aj _ haj => hno j aj haj]
      exact S.envO t fun j aj haj _ => hno j aj haj
  · trivial

theorem noOwn_low {n0 i id : Nat} (h : id < n0) : ¬ Owns l n0 i id := by
  rintro ⟨ao, j, _, _, rfl⟩; omega

theorem base_len (D : DrawOk P N ops m l r) (ht : Trace E hr hr.length l es hs vs) (h0 : hs 0 = hr ++ List.replicate m none) {k : Nat} (hk : k ≤ l.length) : hr.length + m ≤ (hs k).length := by
  have := len_mono D.quiet ht k 0 (by omega)
  rw [h0] at this
  simp at this
  omega

theorem own_lt (D : DrawOk P N ops m l r) {n0 i id : Nat} (h : Owns l n0 i id) : id < n0 + m := by
  obtain ⟨ao, j, ha, hj, rfl⟩ := h
  have := (D.quiet i ao ha).2.2 j hj
  omega

theorem own_eq (D : DrawOk P N ops m l r) {n0 i k id : Nat} (h : Owns l n0 i id) (h2 : Owns l n0 k id) : i = k := by
  obtain ⟨ao, j, ha, hj, rfl⟩ := h
  obtain ⟨ao', j', ha', hj', he⟩ := h2
  by_cases e : i = k
  · exact e
  · have : j = j' := by omega
    subst this
    exact absurd hj' ((D.apart i k ao ao' ha ha' e).2 j hj)

theorem sim_next (D : DrawOk P N ops m l r) (ht : Trace E hr hr.length l es hs vs) (h0 : hs 0 = hr ++ List.replicate m none) {done : Nat → Bool} {q : Nat} {μ : Mu} {a : Act} {w : World}
    (S : Sim Γ l hr.length N e es hs vs μ0 done q μ a w) {i : Nat} {ao : AOper} (ha : l[i]? = some ao) (hnd : done i = false) {V : Value} {w' : World} {μ' : Mu} {q' : Nat} {dst : Option Nat} (hdst : dst = ao.dst) (hdlt : chkDst N dst = true)
    (hle : μ.le μ') (hv : RV μ' (vs i) V) (hinv : Inv Γ μ' (HD (hs l.length) (und l hr.length (also done i)) (hs q').length) w') (hkeep : Keeps μ μ' (HD (hs l.length) (und l hr.length done) (hs q).length) hr.length ao.slot)
    (hq' : q' ≤ l.length) (hcalls : ∀ (k : Nat) ak, l[k]? = some ak → isCall ak.op = true → (also done i k = true ↔ k < q')) : Sim Γ l hr.length N e es hs vs μ0 (also done i) q' μ' (a.put dst V) w' := by
  have hget : ∀ t, dst ≠ some t → (a.put dst V).tmps.getD t undef = a.tmps.getD t undef := by
    intro t h
    cases hd : dst with
    | none => rfl
    | some d =>
      rw [hd] at h
      simp [Act.put, Array.getElem?_setIfInBounds_ne (show d ≠ t from fun e => h (by rw [e]))]
  refine ⟨hq', hcalls, ?_, ?_, hinv, ?_, Mu.le_trans S.le hle, ?_, by rw [Act.size_put]; exact S.size, ?_⟩
  · intro k ak d hak hdk hd
    by_cases e : k = i
    · subst e
      rw [ha] at hak; cases hak
      rw [hdst, hd]
      have hlt : d < a.tmps.size := by
        rw [hdst, hd] at hdlt
        simp [chkDst] at hdlt
        exact Nat.lt_of_lt_of_le hdlt S.size
      have : (a.put (some d) V).tmps.getD d undef = V := by simp [Act.put, Array.getD, hlt]
      rw [this]; exact hv
    · rw [also_of _ _ e] at hdk
      rw [hget d (by rw [hdst]; exact fun h => (D.apart i k ao ak ha hak (Ne.symm e)).1 d h hd)]
      exact (S.envD k ak d hak hdk hd).mono hle
  · intro t hno
    have h1 := hno i ao ha (also_self _ _)
    rw [hget t (by rw [hdst]; exact h1)]
    refine (S.envO t fun k ak hak hdk => ?_).mono hle
    by_cases e : k = i
    · subst e; rw [hnd] at hdk; cases hdk
    · exact hno k ak hak (by rw [also_of _ _ e]; exact hdk)
  · intro id hid
    obtain ⟨k, hk, ho⟩ := und_iff.1 hid
    have e : k ≠ i := by intro e; subst e; rw [also_self] at hk; cases hk
    rw [also_of _ _ e] at hk
    have h1 := S.free id (und_iff.2 ⟨k, hk, ho⟩)
    rw [← h1]
    refine hkeep id (by rw [HD_length]; have := base_len D ht h0 S.qle; have := own_lt D ho; omega) fun j hj he => e ?_
    exact own_eq D ho ⟨ao, j, ha, hj, he⟩
  · intro id hid
    rw [← S.keep id hid]
    exact hkeep id (by rw [HD_length]; have := base_len D ht h0 S.qle; omega) fun j hj he => by omega
  · have : ∀ d : Option Nat, (a.put d V).defers = a.defers := fun d => by cases d <;> rfl
    rw [this]; exact S.defers

theorem und_also (D : DrawOk P N ops m l r) {n0 i id : Nat} {done : Nat → Bool} (h : ¬ Owns l n0 i id) : und l n0 (also done i) id = und l n0 done id := by
  rw [Bool.eq_iff_iff, und_iff, und_iff]
  constructor
  · rintro ⟨k, hk, ho⟩
    have e : k ≠ i := by intro e; subst e; exact h ho
    exact ⟨k, by rw [also_of _ _ e] at hk; exact hk, ho⟩
  · rintro ⟨k, hk, ho⟩
    have e : k ≠ i := by intro e; subst e; exact h ho
    exact ⟨k, by rw [also_of _ _ e]; exact hk, ho⟩

theorem und_own (D : DrawOk P N ops m l r) {n0 i id : Nat} {done : Nat → Bool} (h : Owns l n0 i id) : und l n0 (also done i) id = false := by
  cases hu : und l n0 (also done i) id with
  | false => rfl
  | true =>
    obtain ⟨k, hk, ho⟩ := und_iff.1 hu
    have e := own_eq D ho h
    subst e; rw [also_self] at hk; cases hk

theorem sim_rd (D : DrawOk P N ops m l r) (ht : Trace E hr hr.length l es hs vs) (h0 : hs 0 = hr ++ List.replicate m none) {done : Nat → Bool} {q : Nat} (hq : q ≤ l.length) (id : Nat) (x : Row) (hx : rd hr id = some x) :
    rd (HD (hs l.length) (und l hr.length done) (hs q).length) id = some x := by
  have hlt := rd_lt hx
  have hu : und l hr.length done id = false := by
    cases hu : und l hr.length done id with
    | false => rfl
    | true => obtain ⟨k, _, ho⟩ := und_iff.1 hu; exact absurd ho (noOwn_low hlt)
  rw [rd_HD, if_pos ⟨by have := base_len D ht h0 hq; omega, hu⟩]
  have := own_keep D ht (k := 0) (id := id) (by rw [h0]; simp; omega) (fun i _ => noOwn_low hlt) l.length (by omega)
  rw [Nat.zero_add] at this
  rw [this, h0, rd_append_left hlt]
  exact hx

theorem sim_slot (D : DrawOk P N ops m l r) (ht : Trace E hr hr.length l es hs vs) (h0 : hs 0 = hr ++ List.replicate m none) {done : Nat → Bool} {q : Nat} {μ : Mu} {a : Act} {w : World}
    (S : Sim Γ l hr.length N e es hs vs μ0 done q μ a w) {i : Nat} {ao : AOper} (ha : l[i]? = some ao) (hnd : done i = false) : SlotOk μ (HD (hs l.length) (und l hr.length done) (hs q).length) hr.length ao.slot := by
  cases hsl : ao.slot with
  | none => trivial
  | some j =>
    refine ⟨S.free _ (und_iff.2 ⟨i, hnd, ao, j, ha, hsl, rfl⟩), ?_⟩
    rw [HD_length]
    have := base_len D ht h0 S.qle
    have := (D.quiet i ao ha).2.2 j hsl
    omega

theorem len_between (D : DrawOk P N ops m l r) (ht : Trace E hr hr.length l es hs vs) {q : Nat} : ∀ t, q + t ≤ l.length → (∀ (k : Nat) ak, q ≤ k → k < q + t → l[k]? = some ak → isCall ak.op = false) → (hs (q + t)).length = (hs q).length
  | 0, _, _ => rfl
  | t + 1, hl, hno => by
    have ih := len_between D ht (q := q) t (by omega) fun k ak h1 h2 => hno k ak h1 (by omega)
    rw [← ih]
    have hk : q + t < l.length := by omega
    rcases step_heap D.quiet ht (List.getElem?_eq_getElem hk) with ⟨h, _, _⟩ | ⟨_, h | ⟨j, row, _, h⟩⟩
    · have := hno (q + t) l[q + t] (by omega) (by omega) (List.getElem?_eq_getElem hk)
      rw [h] at this; cases this
    · show (hs (q + t + 1)).length = _; rw [h]
    · show (hs (q + t + 1)).length = _; rw [h]; simp

theorem sim_sub (D : DrawOk P N ops m l r) (ht : Trace E hr hr.length l es hs vs) (h0 : hs 0 = hr ++ List.replicate m none) {done : Nat → Bool} {q : Nat} {μ : Mu} {a : Act} {w : World}
    (S : Sim Γ l hr.length N e es hs vs μ0 done q μ a w) {i : Nat} {ao : AOper} (ha : l[i]? = some ao) (hah : ∀ b, ((closures ops).getD i 0).testBit b = true → done b = true) (hl : isCall ao.op = true ∨ isMark ao.op = true) :
    ∀ id x, rd (hs i) id = some x → rd (HD (hs l.length) (und l hr.length done) (hs q).length) id = some x := by
  have hil : i < l.length := (List.getElem?_eq_some_iff.1 ha).1
  have hql := S.qle
  have hlen : (hs i).length ≤ (hs q).length := by
    by_cases hiq : i ≤ q
    · have := len_mono D.quiet ht (q - i) i (by omega)
      rwa [show i + (q - i) = q by omega] at this
    · have := len_between D ht (q := q) (i - q) (by omega) fun k ak h1 h2 hak => by
        cases hck : isCall ak.op with
        | false => rfl
        | true =>
          have h3 := hah k (D.calls i k ao ak ha hak hl (by omega) (.inl hck))
          have := (S.calls k ak hak hck).1 h3
          omega
      rw [show q + (i - q) = i by omega] at this
      omega
  intro id x hx
  have hnolater : ∀ k, i ≤ k → ¬ Owns l hr.length k id := fun k hk ho' => by
    have := own_none D ht h0 ho' i hk
    rw [this] at hx; cases hx
  have hu : und l hr.length done id = false := by
    cases hu : und l hr.length done id with
    | false => rfl
    | true =>
      obtain ⟨k, hk, ho'⟩ := und_iff.1 hu
      by_cases e1 : i ≤ k
      · exact absurd ho' (hnolater k e1)
      · obtain ⟨ak, j, hak, hj, _⟩ := ho'
        have hsk : slotted ak.op = true := by have := (D.quiet k ak hak).2.1; rw [hj] at this; exact this
        have := hah k (D.calls i k ao ak ha hak hl (by omega) (.inr hsk))
        rw [hk] at this; cases this
  rw [rd_HD, if_pos ⟨by have := rd_lt hx; omega, hu⟩]
  have := own_keep D ht (rd_lt hx) hnolater (l.length - i) (by omega)
  rw [show i + (l.length - i) = l.length by omega] at this
  rw [this]; exact hx


theorem sim_own (D : DrawOk P N ops m l r) (ht : Trace E hr hr.length l es hs vs) (h0 : hs 0 = hr ++ List.replicate m none) {done : Nat → Bool} {q : Nat} {μ : Mu} {a : Act} {w : World}
    (S : Sim Γ l hr.length N e es hs vs μ0 done q μ a w) {i j : Nat} {ao : AOper} (ha : l[i]? = some ao) (hah : ∀ b, ((closures ops).getD i 0).testBit b = true → done b = true) (hown : ownOf ao.op = some j) :
    ∀ x, rd (hs i) (hr.length + j) = some x → rd (HD (hs l.length) (und l hr.length done) (hs q).length) (hr.length + j) = some x := by
  have hil : i < l.length := (List.getElem?_eq_some_iff.1 ha).1
  have hql := S.qle
  intro x hx
  obtain ⟨k, ak, hak, hsk, hbit⟩ := D.own i ao j ha hown
  have hO : Owns l hr.length k (hr.length + j) := ⟨ak, j, hak, hsk, rfl⟩
  have hdk := hah k hbit
  have hnolater : ∀ k', i ≤ k' → ¬ Owns l hr.length k' (hr.length + j) := fun k' hk' ho' => by
    have := own_none D ht h0 ho' i hk'
    rw [this] at hx; cases hx
  have hu : und l hr.length done (hr.length + j) = false := by
    cases hu : und l hr.length done (hr.length + j) with
    | false => rfl
    | true =>
      obtain ⟨k', hk', ho'⟩ := und_iff.1 hu
      have := own_eq D ho' hO
      subst this
      rw [hk'] at hdk; cases hdk
  rw [rd_HD, if_pos ⟨by have := base_len D ht h0 S.qle; have := own_lt D hO; omega, hu⟩]
  have := own_keep D ht (rd_lt hx) hnolater (l.length - i) (by omega)
  rw [show i + (l.length - i) = l.length by omega] at this
  rw [this]; exact hx

open Classical in
theorem sim_step (D : DrawOk P N ops m l r) (hE : Sound P E) (ht : Trace E hr hr.length l es hs vs) (h0 : hs 0 = hr ++ List.replicate m none) (he : es 0 = e) {done : Nat → Bool} {q : Nat} {μ : Mu} {a : Act} {w : World}
    (S : Sim Γ l hr.length N e es hs vs μ0 done q μ a w) {i : Nat} {ao : AOper} {o : Oper} (ha : l[i]? = some ao) (ho : ops[i]? = some o) (hnd : done i = false)
    (hah : ∀ b, ((closures ops).getD i 0).testBit b = true → done b = true) (hcl : ∀ j, done j = true → ∀ b, ((closures ops).getD j 0).testBit b = true → done b = true)
    {next : Act → World → Prop} {Q : Exit → Act → World → Prop} (hn : ∀ V w' μ' q', Sim Γ l hr.length N e es hs vs μ0 (also done i) q' μ' (a.put o.dst V) w' → next (a.put o.dst V) w') :
    if Region.wanted o (yielded ops a.tmps) then o.wp P a w next Q ∨ (o.asks P a w ∧ LetsOut Q) else next (a.put o.dst undef) w := by
  have hil : i < l.length := (List.getElem?_eq_some_iff.1 ha).1
  have hco : chkOper P N ops o ao = true := D.oper i o ao ho (by rw [List.getElem?_append_left hil]; exact ha)
  have hdst : o.dst = ao.dst ∧ chkDst N o.dst = true := by
    simp only [chkOper, Bool.and_eq_true, decide_eq_true_eq] at hco
    exact ⟨hco.1.1.1, hco.1.1.2⟩
  have henv := sim_env D ht he S ha hnd hah hcl
  have hrd := sim_rd D ht h0 (done := done) S.qle
  have hslot := sim_slot D ht h0 S ha hnd
  have hstep := ht.step i ao ha
  have hcong : ∀ (E : Sums) (h : Heap), aoper E true hr hr.length ao (es i) h (fun v h => some (v, h)) = aoper E true hr hr.length ao ((es i).keep ao.reads) h fun v h => some (v, h) :=
    fun E h => aoper_env fun t ht' => by rw [Env.get_keep_mem, if_pos ht']
  have hqi := D.quiet i ao ha
  have hbase := base_len D ht h0 S.qle
  cases hc : isCall ao.op with
  | false =>
    -- what it comes to over the rows that are there
    have key : ∃ h2, aoper E true hr hr.length ao (es i) (HD (hs l.length) (und l hr.length done) (hs q).length) (fun v h => some (v, h)) = some (vs i, h2) ∧ h2 = HD (hs l.length) (und l hr.length (also done i)) (hs q).length := by
      -- nothing is done
      have hskip : hs (i + 1) = hs i → HD (hs l.length) (und l hr.length done) (hs q).length = HD (hs l.length) (und l hr.length (also done i)) (hs q).length := by
        intro hsame
        refine heap_ext (by rw [HD_length, HD_length]) fun id hid => ?_
        rw [HD_length] at hid
        rw [rd_HD, rd_HD]
        by_cases hown : Owns l hr.length i id
        · rw [und_own D hown, und_iff.2 ⟨i, hnd, hown⟩]
          have h1 := own_none D ht h0 hown i (Nat.le_refl _)
          have h2 := own_keep D ht (k := i + 1) (id := id) (by rw [hsame]; have := base_len D ht h0 (k := i) (by omega); have := own_lt D hown; omega)
            (fun k hk ho' => by have := own_eq D ho' hown; omega) (l.length - (i + 1)) (by omega)
          rw [show i + 1 + (l.length - (i + 1)) = l.length by omega, hsame, h1] at h2
          simp [h2]
        · rw [und_also D hown]
      have hrun : ∀ v h3, aop E true hr hr.length ao.slot ao.op (es i) (hs i) (fun v h => some (v, h)) = some (v, h3) → h3 = hs (i + 1) →
          ∃ h2, aop E true hr hr.length ao.slot ao.op (es i) (HD (hs l.length) (und l hr.length done) (hs q).length) (fun v h => some (v, h)) = some (v, h2) ∧ h2 = HD (hs l.length) (und l hr.length (also done i)) (hs q).length := by
        intro v h3 hrun he3
        subst he3
        cases hsl : slotted ao.op with
        | false =>
          cases hmk : isMark ao.op with
          | false =>
            cases hown : ownOf ao.op with
            | none =>
              obtain ⟨h4, h5⟩ := aop_plain hqi.1 hmk hown hc hsl hrun
              exact ⟨_, h5 _, hskip h4⟩
            | some j =>
              obtain ⟨h4, h5⟩ := aop_own hown hrun
              exact ⟨_, h5 _ (sim_own D ht h0 S ha hah hown), hskip h4⟩
          | true =>
            obtain ⟨h4, h5⟩ := aop_mark hmk hrun
            exact ⟨_, h5 _ (sim_sub D ht h0 S ha hah (.inr hmk)), hskip h4⟩
        | true =>
          have h6 := hqi.2.1
          rw [hsl] at h6
          obtain ⟨j, hj⟩ := Option.isSome_iff_exists.1 h6.symm
          rw [hj] at hrun ⊢
          obtain ⟨row, h7, h8⟩ := aop_slot hsl hrun
          refine ⟨_, h8 _, ?_⟩
          have hown : Owns l hr.length i (hr.length + j) := ⟨ao, j, ha, hj, rfl⟩
          have hjm := hqi.2.2 j hj
          have hbi := base_len D ht h0 (k := i) (by omega)
          refine heap_ext (by rw [List.length_set, HD_length, HD_length]) fun id hid => ?_
          rw [List.length_set, HD_length] at hid
          by_cases e1 : hr.length + j = id
          · subst e1
            rw [rd_set_same (by rw [HD_length]; omega), rd_HD, if_pos ⟨by omega, und_own D hown⟩]
            have h9 := own_keep D ht (k := i + 1) (id := hr.length + j) (by rw [h7]; simp; omega) (fun k hk ho' => by have := own_eq D ho' hown; omega) (l.length - (i + 1)) (by omega)
            rw [show i + 1 + (l.length - (i + 1)) = l.length by omega, h7, rd_set_same (by omega)] at h9
            exact h9.symm
          · rw [rd_set_other e1, rd_HD, rd_HD, und_also D]
            rintro ⟨ao', j', h10, h11, h12⟩
            rw [ha] at h10; cases h10
            rw [hj] at h11; cases h11
            exact e1 h12.symm
      unfold aoper at hstep ⊢
      cases hgu : ao.guard with
      | none => rw [hgu] at hstep; exact hrun _ _ hstep rfl
      | some g =>
        rw [hgu] at hstep
        simp only [Option.bind_eq_some_iff, Option.some.injEq] at hstep
        obtain ⟨⟨v', h3⟩, hp, hpe⟩ := hstep
        simp only [Prod.mk.injEq] at hpe
        obtain ⟨hv', hh3⟩ := hpe
        unfold gd at hp ⊢
        split at hp
        · rename_i x heq
          simp only [heq]
          cases hx : (x == g.2) with
          | true =>
            rw [hx] at hp
            obtain ⟨h2, h4, h5⟩ := hrun _ _ hp hh3
            exact ⟨h2, by rw [cond_true, h4]; simp [hv'], h5⟩
          | false =>
            rw [hx] at hp
            simp only [cond_false, Option.some.injEq, Prod.mk.injEq] at hp
            refine ⟨_, by rw [cond_false]; simp [← hv', ← hp.1], hskip ?_⟩
            rw [← hh3]; exact hp.2.symm
        · rename_i heq
          simp only [heq]
          simp only [Option.some.injEq, Prod.mk.injEq] at hp
          refine ⟨_, by simp [← hv', ← hp.1], hskip ?_⟩
          rw [← hh3]; exact hp.2.symm
        · cases hp
    obtain ⟨h2, hk1, hk2⟩ := key
    rw [hcong] at hk1
    refine aoper_wp hE hco hk1 henv S.inv hrd hslot ?_
    intro V w' μ' hle hv hinv hkeep
    subst hk2
    refine hn V w' μ' q (sim_next D ht h0 S ha hnd hdst.1 hdst.2 hle hv hinv hkeep S.qle ?_)
    intro k ak hak hck
    have e1 : k ≠ i := by intro e1; subst e1; rw [ha] at hak; cases hak; rw [hc] at hck; cases hck
    rw [also_of _ _ e1]
    exact S.calls k ak hak hck
  | true =>
    have hsn : ao.slot = none := by
      rcases step_heap D.quiet ht ha with ⟨_, h, _⟩ | ⟨h, _⟩
      · exact h
      · rw [hc] at h; cases h
    have hqi' : q ≤ i := by
      have := S.calls i ao ha hc
      rw [hnd] at this
      have : ¬ i < q := fun h => by have := this.2 h; cases this
      omega
    have hlen : (hs i).length = (hs q).length := by
      have := len_between D ht (q := q) (i - q) (by omega) fun k ak h1 h2 hak => by
        cases hck : isCall ak.op with
        | false => rfl
        | true =>
          have h3 := hah k (D.calls i k ao ak ha hak (.inl hc) (by omega) (.inl hck))
          have := (S.calls k ak hak hck).1 h3
          omega
      rwa [show q + (i - q) = i by omega] at this
    have hnoown : ∀ id, ¬ Owns l hr.length i id := by
      rintro id ⟨ao', j, h1, h2, _⟩
      rw [ha] at h1; cases h1
      rw [hsn] at h2; cases h2
    have hcalls' : ∀ (k : Nat) ak, l[k]? = some ak → isCall ak.op = true → (also done i k = true ↔ k < i + 1) := by
      intro k ak hak hck
      by_cases e1 : k = i
      · subst e1; simp [also_self]
      · rw [also_of _ _ e1]
        constructor
        · intro hk
          have : ¬ i < k := fun h => by
            have h2 := hcl k hk i (D.calls k i ak ao hak ha (.inl hck) h (.inl hc))
            rw [hnd] at h2; cases h2
          omega
        · intro hk
          exact hah k (D.calls i k ao ak ha hak (.inl hc) (by omega) (.inl hck))
    have hmono := step_len D.quiet ht hil
    -- the guard: nothing is done
    have hskip : hs (i + 1) = hs i → HD (hs l.length) (und l hr.length done) (hs q).length = HD (hs l.length) (und l hr.length (also done i)) (hs (i + 1)).length := by
      intro hsame
      rw [hsame, hlen]
      refine heap_ext (by rw [HD_length, HD_length]) fun id hid => ?_
      rw [rd_HD, rd_HD, und_also D (hnoown id)]
    -- the call
    have hrun : ∀ (g : Nat) (args : List Val), quiet (hs i) (E g args (hs i)) = some (vs i, hs (i + 1)) →
        ∃ E' : Sums, Sound P E' ∧ quiet (HD (hs l.length) (und l hr.length done) (hs q).length) (E' g args (HD (hs l.length) (und l hr.length done) (hs q).length)) = some (vs i, HD (hs l.length) (und l hr.length (also done i)) (hs (i + 1)).length) := by
      intro g args hcall
      obtain ⟨h1, h2⟩ := quiet_some hcall
      obtain ⟨hg, hk, _⟩ := hE _ _ _ _ _ h1
      have hsub : ∀ id x, rd (hs i) id = some x → rd (HD (hs l.length) (und l hr.length done) (hs q).length) id = some x := by
        intro id x hx
        have hnolater : ∀ k, i ≤ k → ¬ Owns l hr.length k id := fun k hk ho' => by
          have := own_none D ht h0 ho' i hk
          rw [this] at hx; cases hx
        have hu : und l hr.length done id = false := by
          cases hu : und l hr.length done id with
          | false => rfl
          | true =>
            obtain ⟨k, hk, ho'⟩ := und_iff.1 hu
            by_cases e1 : i ≤ k
            · exact absurd ho' (hnolater k e1)
            · obtain ⟨ak, j, hak, hj, _⟩ := ho'
              have hsk : slotted ak.op = true := by have := (D.quiet k ak hak).2.1; rw [hj] at this; exact this
              have := hah k (D.calls i k ao ak ha hak (.inl hc) (by omega) (.inr hsk))
              rw [hk] at this; cases this
        rw [rd_HD, if_pos ⟨by have := rd_lt hx; omega, hu⟩]
        have := own_keep D ht (rd_lt hx) hnolater (l.length - i) (by omega)
        rw [show i + (l.length - i) = l.length by omega] at this
        rw [this]; exact hx
      have hfr := hk.frame h2 (hD := HD (hs l.length) (und l hr.length done) (hs q).length) (by rw [HD_length, hlen]) hsub
      have heq : HD (hs l.length) (und l hr.length done) (hs q).length ++ (hs (i + 1)).drop (hs i).length = HD (hs l.length) (und l hr.length (also done i)) (hs (i + 1)).length := by
        refine heap_ext (by rw [List.length_append, HD_length, HD_length, List.length_drop]; omega) fun id hid => ?_
        rw [rd_app_drop (by rw [HD_length, hlen])]
        split
        · rw [rd_HD, rd_HD, und_also D (hnoown id)]
          have : id < (hs q).length := by omega
          have : id < (hs (i + 1)).length := by omega
          simp [*]
        · rename_i hge
          have hbi := base_len D ht h0 (k := i) (by omega)
          have hno : ∀ k, ¬ Owns l hr.length k id := fun k ho' => by have := own_lt D ho'; omega
          have hu : und l hr.length (also done i) id = false := by
            cases hu : und l hr.length (also done i) id with
            | false => rfl
            | true => obtain ⟨k, _, ho'⟩ := und_iff.1 hu; exact absurd ho' (hno k)
          have hlt : id < (hs (i + 1)).length := by
            rw [List.length_append, HD_length, List.length_drop] at hid; omega
          rw [rd_HD, if_pos ⟨hlt, hu⟩]
          have := own_keep D ht hlt (fun k _ => hno k) (l.length - (i + 1)) (by omega)
          rw [show i + 1 + (l.length - (i + 1)) = l.length by omega] at this
          exact this.symm
      rw [heq] at hfr
      have hgr : Grows (HD (hs l.length) (und l hr.length done) (hs q).length) (HD (hs l.length) (und l hr.length (also done i)) (hs (i + 1)).length) := by
        rw [← heq]
        refine ⟨List.prefix_append _ _, fun id x hid hx => ?_⟩
        rw [HD_length] at hid
        rw [rd_app_drop (by rw [HD_length, hlen]), if_neg (by omega)] at hx
        exact h2.2 id x (by omega) hx
      refine ⟨fun f' a' h' => if f' = g ∧ a' = args ∧ h' = HD (hs l.length) (und l hr.length done) (hs q).length then some (vs i, HD (hs l.length) (und l hr.length (also done i)) (hs (i + 1)).length) else none, ?_, ?_⟩
      · intro f' a' h' v' h'' hv'
        simp only at hv'
        split at hv'
        · rename_i hcond
          obtain ⟨rfl, rfl, rfl⟩ := hcond
          cases hv'
          exact ⟨hg, hfr, by rw [HD_length, HD_length]; omega⟩
        · cases hv'
      · exact (congrArg (quiet _) (if_pos ⟨rfl, rfl, rfl⟩)).trans (quiet_of hgr)
    -- both together
    have key : ∃ E' : Sums, Sound P E' ∧ aoper E' true hr hr.length ao (es i) (HD (hs l.length) (und l hr.length done) (hs q).length) (fun v h => some (v, h)) = some (vs i, HD (hs l.length) (und l hr.length (also done i)) (hs (i + 1)).length) := by
      have hop : ∀ v h3, aop E true hr hr.length ao.slot ao.op (es i) (hs i) (fun v h => some (v, h)) = some (v, h3) → v = vs i → h3 = hs (i + 1) →
          ∃ E' : Sums, Sound P E' ∧ aop E' true hr hr.length ao.slot ao.op (es i) (HD (hs l.length) (und l hr.length done) (hs q).length) (fun v h => some (v, h)) = some (vs i, HD (hs l.length) (und l hr.length (also done i)) (hs (i + 1)).length) := by
        intro v h3 hr1 hv1 he3
        subst hv1 he3
        cases hopk : ao.op <;> rw [hopk] at hc hr1 <;> simp [isCall] at hc
        case call f args =>
          simp only [aop, cond_true, Option.bind_eq_some_iff, Option.some.injEq] at hr1
          obtain ⟨⟨v', h4⟩, hp, hpe⟩ := hr1
          cases hpe
          obtain ⟨E', h5, h6⟩ := hrun f _ hp
          exact ⟨E', h5, by simp only [aop, cond_true]; rw [h6]; rfl⟩
        case callV f args =>
          simp only [aop, cond_true, Option.bind_eq_some_iff, Option.some.injEq] at hr1
          obtain ⟨⟨v', h4⟩, hp, hpe⟩ := hr1
          cases hpe
          unfold callv at hp
          split at hp
          · rename_i g caps heq
            obtain ⟨E', h5, h6⟩ := hrun g _ hp
            refine ⟨E', h5, ?_⟩
            simp only [aop, cond_true]
            unfold callv
            rw [heq]
            simp only
            rw [h6]; rfl
          · simp [quiet] at hp
      unfold aoper at hstep ⊢
      cases hgu : ao.guard with
      | none => rw [hgu] at hstep; exact hop _ _ hstep rfl rfl
      | some g =>
        rw [hgu] at hstep
        simp only [Option.bind_eq_some_iff, Option.some.injEq] at hstep
        obtain ⟨⟨v', h3⟩, hp, hpe⟩ := hstep
        simp only [Prod.mk.injEq] at hpe
        obtain ⟨hv', hh3⟩ := hpe
        unfold gd at hp ⊢
        split at hp
        · rename_i x heq
          simp only [heq]
          cases hx : (x == g.2) with
          | true =>
            rw [hx] at hp
            obtain ⟨E', h2, h4⟩ := hop _ _ hp hv' hh3
            exact ⟨E', h2, by rw [cond_true, h4]; rfl⟩
          | false =>
            rw [hx] at hp
            simp only [cond_false, Option.some.injEq, Prod.mk.injEq] at hp
            refine ⟨E, hE, ?_⟩
            rw [cond_false, ← hskip (by rw [← hh3]; exact hp.2.symm)]
            simp [← hv', ← hp.1]
        · rename_i heq
          simp only [heq]
          simp only [Option.some.injEq, Prod.mk.injEq] at hp
          refine ⟨E, hE, ?_⟩
          rw [← hskip (by rw [← hh3]; exact hp.2.symm)]
          simp [← hv', ← hp.1]
        · cases hp
    obtain ⟨E', hE', hk1⟩ := key
    rw [hcong] at hk1
    refine aoper_wp hE' hco hk1 henv S.inv hrd hslot ?_
    intro V w' μ' hle hv hinv hkeep
    exact hn V w' μ' (i + 1) (sim_next D ht h0 S ha hnd hdst.1 hdst.2 hle hv hinv hkeep (by omega) hcalls')

end
end Go.Esc
end
section
namespace Go.Esc
open Go

section
variable {P : Program} {R : Type}

theorem anew_len {h : Heap} {n0 : Nat} {slot : Option Nat} {r : Row} : h.length ≤ (anew h n0 slot r).2.length := by
  cases slot <;> simp [anew]

theorem aop_len {E : Sums} (hE : Sound P E) {q : Bool} {hr : Heap} {n0 : Nat} {slot : Option Nat} {o : AOp} {e : Env} {h h' : Heap} {v : Val}
    (hres : aop E q hr n0 slot o e h (fun v h => some (v, h)) = some (v, h')) : h.length ≤ h'.length := by
  cases o <;> simp only [aop] at hres
  case store1 a x =>
    simp only [Option.bind_eq_some_iff, Option.some.injEq, Prod.mk.injEq] at hres
    obtain ⟨h2, hp, _, rfl⟩ := hres
    unfold astore1 at hp
    split at hp
    · simp only [Option.bind_eq_some_iff] at hp
      obtain ⟨r, _, hp⟩ := hp
      split at hp <;> cases hp
      simp
    · cases hp
  case storeN n a x =>
    simp only [Option.bind_eq_some_iff, Option.some.injEq, Prod.mk.injEq] at hres
    obtain ⟨h2, hp, _, rfl⟩ := hres
    unfold astoreN at hp
    split at hp
    · simp only [Option.bind_eq_some_iff] at hp
      obtain ⟨r, _, hp⟩ := hp
      split at hp <;> cases hp
      simp
    · cases hp
  case app sz a x =>
    simp only [Option.bind_eq_some_iff, Option.some.injEq] at hres
    obtain ⟨⟨v', h2⟩, hp, hpe⟩ := hres
    cases hpe
    simp only [aapp, Option.bind_eq_some_iff] at hp
    obtain ⟨ys, _, hp⟩ := hp
    split at hp
    · split at hp <;> cases hp
      simp
    · simp only [Option.bind_eq_some_iff] at hp
      obtain ⟨r, _, hp⟩ := hp
      split at hp <;> cases hp
      simp
    · cases hp
  case copy sz a x =>
    simp only [Option.bind_eq_some_iff, Option.some.injEq] at hres
    obtain ⟨⟨v', h2⟩, hp, hpe⟩ := hres
    cases hpe
    simp only [acopy] at hp
    split at hp
    · cases hp
    simp only [Option.bind_eq_some_iff] at hp
    obtain ⟨ys, _, hp⟩ := hp
    split at hp
    · simp only [Option.bind_eq_some_iff] at hp
      obtain ⟨r, _, hp⟩ := hp
      split at hp <;> cases hp
      simp
    · cases hp
  case appZ sz zero x y =>
    simp only [Option.bind_eq_some_iff, Option.some.injEq] at hres
    obtain ⟨⟨v', h2⟩, hp, hpe⟩ := hres
    cases hpe
    unfold aappZ at hp
    simp only [Option.bind_eq_some_iff] at hp
    obtain ⟨n, _, hp⟩ := hp
    split at hp
    · cases hp
      simp
    · simp only [Option.bind_eq_some_iff] at hp
      obtain ⟨r, _, hp⟩ := hp
      split at hp <;> cases hp
      simp
    · cases hp
  case call f args =>
    simp only [Option.bind_eq_some_iff, Option.some.injEq] at hres
    obtain ⟨⟨v', h2⟩, hp, hpe⟩ := hres
    cases hpe
    have hE1 : E f (args.map e.ev) h = some (v', h2) := by
      cases q with
      | false => simpa using hp
      | true =>
        simp only [cond_true, quiet, Option.bind_eq_some_iff] at hp
        obtain ⟨p', g1, g2⟩ := hp
        split at g2
        · cases g2; exact g1
        · cases g2
    exact (hE _ _ _ _ _ hE1).2.2
  case callV f args =>
    simp only [Option.bind_eq_some_iff, Option.some.injEq] at hres
    obtain ⟨⟨v', h2⟩, hp, hpe⟩ := hres
    cases hpe
    have hE0 : callv E (e.ev f) (args.map e.ev) h = some (v', h2) := by
      cases q with
      | false => simpa using hp
      | true =>
        simp only [cond_true, quiet, Option.bind_eq_some_iff] at hp
        obtain ⟨p', g1, g2⟩ := hp
        split at g2
        · cases g2; exact g1
        · cases g2
    unfold callv at hE0
    split at hE0
    · exact (hE _ _ _ _ _ hE0).2.2
    · cases hE0
  case mv => cases hres; exact Nat.le_refl _
  case nilrow => cases hres; exact anew_len
  case alloc => cases hres; exact anew_len
  case box =>
    simp only [Option.bind_eq_some_iff, Option.some.injEq, Prod.mk.injEq] at hres
    obtain ⟨_, _, _, rfl⟩ := hres
    exact anew_len
  case buildSl =>
    simp only [Option.bind_eq_some_iff, Option.some.injEq, Prod.mk.injEq] at hres
    obtain ⟨_, _, _, rfl⟩ := hres
    exact anew_len
  case s2b =>
    simp only [Option.bind_eq_some_iff, Option.some.injEq, Prod.mk.injEq] at hres
    obtain ⟨_, _, _, rfl⟩ := hres
    exact anew_len
  case mkSl =>
    simp only [Option.bind_eq_some_iff, Option.some.injEq, Prod.mk.injEq] at hres
    obtain ⟨_, _, _, rfl⟩ := hres
    exact anew_len
  all_goals
    simp only [Option.bind_eq_some_iff, Option.some.injEq, Prod.mk.injEq] at hres
    obtain ⟨_, _, _, rfl⟩ := hres
    exact Nat.le_refl _

theorem aoper_len {E : Sums} (hE : Sound P E) {q : Bool} {hr : Heap} {n0 : Nat} {o : AOper} {e : Env} {h h' : Heap} {v : Val}
    (hres : aoper E q hr n0 o e h (fun v h => some (v, h)) = some (v, h')) : h.length ≤ h'.length := by
  unfold aoper at hres
  split at hres
  · exact aop_len hE hres
  · simp only [Option.bind_eq_some_iff, Option.some.injEq] at hres
    obtain ⟨⟨v', h2⟩, hp, hpe⟩ := hres
    cases hpe
    unfold gd at hp
    split at hp
    · rename_i x _
      cases hx : (x == _) with
      | true => rw [hx] at hp; exact aop_len hE hp
      | false => rw [hx] at hp; cases hp; exact Nat.le_refl _
    · cases hp; exact Nat.le_refl _
    · cases hp

theorem put_defers (a : Act) (d : Option Nat) (V : Value) : (a.put d V).defers = a.defers := by cases d <;> rfl

theorem aops_ok {N L : Nat} {ops : Array Oper} {E : Sums} (hE : Sound P E) : ∀ (l : List Nat) (aos : List AOper) (e : Env) (h : Heap) (k : Env → Heap → Option R) (r : R),
    All2 (fun i ao => ∃ o, ops[i]? = some o ∧ chkOper P N ops o ao = true ∧ ao.slot = none) l aos → aops E aos e h k = some r → L ≤ h.length →
    ∃ e' h', k e' h' = some r ∧ L ≤ h'.length ∧ StepsTo P N L (fun Q => wpOps P ops Q l) e h .normal e' h'
  | [], [], e, h, k, r, _, hres, hL => ⟨e, h, hres, hL, fun Γ μ a w hs hi hN hd Q hq => hq μ a w (Mu.le_refl _) (fun _ _ => rfl) hs hi hN hd⟩
  | i :: l, ao :: aos, e, h, k, r, ⟨⟨o, ho, hc, hslot⟩, hrest⟩, hres, hL => by
    rw [aops_cons] at hres
    obtain ⟨v, h1, hk, hone⟩ := aoper_ok hE hc hres
    have hl1 := aoper_len hE hone
    obtain ⟨e', h', hk', hL', hst⟩ := aops_ok hE l aos (e.put ao.dst v) h1 k r hrest hk (Nat.le_trans hL hl1)
    refine ⟨e', h', hk', hL', fun Γ μ a w hs hi hN hd Q hq => ?_⟩
    show wpOps P ops Q (i :: l) a w
    rw [wpOps_cons]
    unfold wpOp
    rw [ho]
    have hdst : o.dst = ao.dst ∧ chkDst N o.dst = true := by
      simp only [chkOper, Bool.and_eq_true, decide_eq_true_eq] at hc
      exact ⟨hc.1.1.1, hc.1.1.2⟩
    have hlt : ∀ t, o.dst = some t → t < a.tmps.size := by
      intro t ht
      have := hdst.2
      rw [ht] at this
      simp [chkDst] at this
      exact Nat.lt_of_lt_of_le this hN
    refine aoper_wp (hr := h) (n0 := 0) hE hc hone hs hi (fun _ _ h => h) (by rw [hslot]; trivial) ?_
    intro V w' μ' hle hv hi' hkeep
    rw [hslot] at hkeep
    refine hst Γ μ' (a.put o.dst V) w' ?_ hi' (by rw [Act.size_put]; exact hN) (by rw [put_defers]; exact hd) Q ?_
    · rw [← hdst.1]
      exact (hs.mono hle).put hlt hv
    · intro μ2 a2 w2 h2 h3 h4 h5 h6 h7
      exact hq μ2 a2 w2 (Mu.le_trans hle h2) (fun id hid => by rw [h3 id hid]; exact hkeep id (by omega) (fun _ h => by cases h)) h4 h5 h6 h7
  | [], _ :: _, _, _, _, _, h, _, _ => h.elim
  | _ :: _, [], _, _, _, _, h, _, _ => h.elim


end

theorem directs_mem {o : Oper} {p : Nat} : p ∈ directs o ↔ ∃ e ∈ o.after, Region.binds .any e = true ∧ e.on = p := by
  unfold directs
  simp only [List.mem_map, List.mem_filter, Array.mem_toList_iff]
  constructor
  · rintro ⟨e, ⟨h1, h2⟩, rfl⟩; exact ⟨e, h1, h2, rfl⟩
  · rintro ⟨e, h1, h2, rfl⟩; exact ⟨e, ⟨h1, h2⟩, rfl⟩

theorem ready_iff {ops : Array Oper} {listed : Array Bool} {i : Nat} : i ∈ Region.ready .any ops listed ↔ ∃ o, ops[i]? = some o ∧ listed.getD i true = false ∧ ∀ p ∈ directs o, listed.getD p false = true := by
  unfold Region.ready
  simp only [List.mem_filter, List.mem_range, Bool.and_eq_true, Bool.not_eq_true']
  constructor
  · rintro ⟨h1, h2, h3⟩
    have ho : ops[i]? = some ops[i] := by simp [h1]
    refine ⟨ops[i], ho, h2, fun p hp => ?_⟩
    rw [ho] at h3
    simp only [Option.map_some, Option.getD_some, Array.all_eq_true_iff_forall_mem] at h3
    obtain ⟨e, he, hb, rfl⟩ := directs_mem.1 hp
    have := h3 e he
    rw [hb] at this
    simpa using this
  · rintro ⟨o, ho, h2, h3⟩
    refine ⟨(Array.getElem?_eq_some_iff.1 ho).1, h2, ?_⟩
    rw [ho]
    simp only [Option.map_some, Option.getD_some, Array.all_eq_true_iff_forall_mem]
    intro e he
    cases hb : Region.binds .any e with
    | false => rfl
    | true => simpa using h3 e.on (directs_mem.2 ⟨e, he, hb, rfl⟩)

theorem listed_set {listed : Array Bool} {i : Nat} (hi : i < listed.size) : (fun k => (listed.setIfInBounds i true).getD k false) = also (fun k => listed.getD k false) i := by
  funext k
  unfold also
  by_cases h : k = i
  · subst h; simp [Array.getD, hi]
  · simp [Array.getElem?_setIfInBounds_ne (Ne.symm h), h]

theorem getD_both {listed : Array Bool} {i : Nat} (hi : i < listed.size) : listed.getD i true = listed.getD i false := by simp [Array.getD, hi]

theorem some_ready {ops : Array Oper} {listed : Array Bool} (hlt : ∀ (i : Nat) (o : Oper), ops[i]? = some o → ∀ p ∈ directs o, p < i) (hs : listed.size = ops.size) : ∀ (i : Nat), i < ops.size → listed.getD i false = false → Region.ready .any ops listed ≠ [] := by
  intro i
  induction i using Nat.strongRecOn with
  | _ i ih =>
    intro hi hu
    have ho : ops[i]? = some ops[i] := by simp [hi]
    by_cases h : ∀ p ∈ directs ops[i], listed.getD p false = true
    · have : i ∈ Region.ready .any ops listed := ready_iff.2 ⟨_, ho, by rw [getD_both (by omega)]; exact hu, h⟩
      intro e; rw [e] at this; cases this
    · have : ∃ p, p ∈ directs ops[i] ∧ listed.getD p false = false := by
        false_or_by_contra
        rename_i hn
        exact h fun p hp => by
          cases hv : listed.getD p false with
          | true => rfl
          | false => exact absurd ⟨p, hp, hv⟩ hn
      obtain ⟨p, hp, hv⟩ := this
      have hpi := hlt i _ ho p hp
      exact ih p hpi (by omega) hv

def left (n : Nat) (listed : Array Bool) : Nat := ((List.range n).filter fun i => !listed.getD i false).length

theorem left_set {n : Nat} {listed : Array Bool} {i : Nat} (hi : i < n) (hs : listed.size = n) (hu : listed.getD i false = false) : left n (listed.setIfInBounds i true) + 1 ≤ left n listed := by
  unfold left
  have e : (List.range n).filter (fun k => !(listed.setIfInBounds i true).getD k false) = ((List.range n).filter fun k => !listed.getD k false).filter (fun k => decide (k ≠ i)) := by
    rw [List.filter_filter]
    apply List.filter_congr
    intro k hk
    have := congrFun (listed_set (listed := listed) (i := i) (by omega)) k
    try simp only at this
    rw [this]
    unfold also
    by_cases h : k = i <;> simp [h]
  rw [e]
  have hm : i ∈ (List.range n).filter fun k => !listed.getD k false := by
    rw [List.mem_filter]; exact ⟨by simpa using hi, by rw [hu]; rfl⟩
  have := List.length_filter_lt_length_iff_exists (l := (List.range n).filter fun k => !listed.getD k false) (p := fun k => decide (k ≠ i))
  have h2 := this.2 ⟨i, hm, by simp⟩
  omega

section
variable {P : Program} {ops : Array Oper} {Q : Exit → Act → World → Prop}

theorem any_of_ops (hlt : ∀ (i : Nat) (o : Oper), ops[i]? = some o → ∀ p ∈ directs o, p < i) {A : Nat} (hlast : ∀ i, A ≤ i → i < ops.size → ∀ j, j < i → ((closures ops).getD i 0).testBit j = true) :
    ∀ (k i fuel : Nat) (listed : Array Bool) (a : Act) (w : World), i + k = ops.size → A ≤ i → listed.size = ops.size → (∀ j, j < ops.size → listed.getD j false = decide (j < i)) → k ≤ fuel →
      wpOps P ops Q (List.range' i k) a w → wpAny P .any ops Q fuel listed a w
  | 0, i, fuel, listed, a, w, hik, hA, hs, hl, hf, h => by
    have hr : Region.ready .any ops listed = [] := by
      apply List.eq_nil_iff_forall_not_mem.2
      intro x hx
      obtain ⟨o, ho, h2, _⟩ := ready_iff.1 hx
      have hlt := (Array.getElem?_eq_some_iff.1 ho).1
      rw [getD_both (by omega), hl x hlt] at h2
      simp at h2; omega
    cases fuel with
    | zero => exact ⟨hr, h⟩
    | succ f => exact ⟨fun _ => h, fun x hx => by rw [hr] at hx; cases hx⟩
  | k + 1, i, fuel, listed, a, w, hik, hA, hs, hl, hf, h => by
    obtain ⟨f, rfl⟩ : ∃ f, fuel = f + 1 := ⟨fuel - 1, by omega⟩
    refine ⟨fun he => absurd he (some_ready hlt hs i (by omega) (by rw [hl i (by omega)]; simp)), fun x hx => ?_⟩
    obtain ⟨o, ho, h2, h3⟩ := ready_iff.1 hx
    have hxn := (Array.getElem?_eq_some_iff.1 ho).1
    rw [getD_both (by omega), hl x hxn] at h2
    simp at h2
    have hxi : x = i := by
      by_cases e : x = i
      · exact e
      · have hd := ahead_done (done := fun j => listed.getD j false) hlt (fun j oj hj hdj p hp => by
          have hjn := (Array.getElem?_eq_some_iff.1 hj).1
          try simp only at hdj
          rw [hl j hjn] at hdj
          have := hlt j oj hj p hp
          show listed.getD p false = true
          rw [hl p (by omega)]
          simp at hdj ⊢; omega) x o ho h3 i (hlast x (by omega) hxn i (by omega))
        try simp only at hd
        rw [hl i (by omega)] at hd
        simp at hd
    subst hxi
    rw [List.range'_succ, wpOps_cons] at h
    refine wpOp_mono (fun a' w' h' => ?_) h
    refine any_of_ops hlt hlast k (x + 1) f _ a' w' (by omega) (by omega) (by simpa using hs) (fun j hj => ?_) (by omega) h'
    have := congrFun (listed_set (listed := listed) (i := x) (by omega)) j
    try simp only at this
    rw [this]
    unfold also
    show (decide (j = x) || listed.getD j false) = _
    rw [hl j hj]
    by_cases e : j = x
    · subst e; simp
    · simp only [e, decide_false, Bool.false_or]
      have : (j < x) ↔ (j < x + 1) := by omega
      simp only [this]

end

theorem Inv.pad {Γ : Ctx} {μ : Mu} {h : Heap} {w : World} (hi : Inv Γ μ h w) (m : Nat) : Inv Γ μ (h ++ List.replicate m none) w := by
  have hget : ∀ id x, rd (h ++ List.replicate m none) id = some x → rd h id = some x := by
    intro id x hx
    by_cases hl : id < h.length
    · rwa [rd_append_left hl] at hx
    · unfold rd at hx
      rw [List.getElem?_append_right (by omega), List.getElem?_replicate] at hx
      split at hx <;> cases hx
  exact ⟨fun id x hx => hi.rows id x (hget id x hx), fun i j x y z z' hx hy => hi.sep i j x y z z' (hget _ _ hx) (hget _ _ hy), fun i x y hx => hi.own i x y (hget _ _ hx), fun id hid => hi.dom id (by simp at hid; omega), hi.ctx⟩

theorem draw_ok {P : Program} {N L : Nat} {ops : Array Oper} {m id : Nat} {l r : List AOper} {E : Sums} (hE : Sound P E) {e : Env} {h : Heap} {R : Type} {k : Env → Heap → Option R} {res : R}
    (hc : chkDraw P N ops m l r = true) (hc2 : chkLast ops l.length r.length = true) (hL : L ≤ h.length)
    (hres : adraw E h h.length l e (h ++ List.replicate m none) (fun e h => aops E r e h k) = some res) :
    ∃ e' h', k e' h' = some res ∧ L ≤ h'.length ∧ StepsTo P N L ((Code.region id ops true).wp P) e h .normal e' h' := by
  have D := chkDraw_ok hc
  have last := chkLast_ok hc2 D.size
  obtain ⟨es, hs, vs, he, h0, ht, hk⟩ := trace_of l _ _ hres
  have hrlist : All2 (fun i ao => ∃ o, ops[i]? = some o ∧ chkOper P N ops o ao = true ∧ ao.slot = none) (List.range' l.length r.length) r := by
    refine All2.of_get (by simp) fun i x ao hx hao => ?_
    have hi : i < r.length := (List.getElem?_eq_some_iff.1 hao).1
    rw [List.getElem?_range' hi] at hx
    simp at hx
    subst hx
    have hlt : l.length + i < ops.size := by rw [D.size]; omega
    refine ⟨ops[l.length + i], by simp [hlt], ?_, D.rslot ao (List.mem_of_getElem? hao)⟩
    refine D.oper (l.length + i) _ ao (by simp [hlt]) ?_
    rw [List.getElem?_append_right (by omega)]
    simpa using hao
  have hbl := base_len D ht h0 (k := l.length) (Nat.le_refl _)
  obtain ⟨e', h', hk', hL', hst⟩ := aops_ok (L := L) hE _ r (es l.length) (hs l.length) k res hrlist hk (by omega)
  refine ⟨e', h', hk', hL', fun Γ μ0 a w hs0 hi hN hd Q hq => wp_region_any D.follows ?_⟩
  have whole : ∀ (listed : Array Bool) (a : Act) (w : World) (q : Nat) (μ : Mu), Sim Γ l h.length N e es hs vs μ0 (fun i => listed.getD i false) q μ a w → (∀ j, j < l.length → listed.getD j false = true) → wpOps P ops Q (List.range' l.length r.length) a w := by
    intro listed a w q μ S hall
    have henv : SEnv μ (es l.length) a := by
      intro t
      by_cases hw : ∃ (j : Nat) (aj : AOper), l[j]? = some aj ∧ aj.dst = some t
      · obtain ⟨j, aj, haj, hdj⟩ := hw
        have hjl := (List.getElem?_eq_some_iff.1 haj).1
        rw [es_writer D ht haj hdj l.length hjl (Nat.le_refl _)]
        exact S.envD j aj t haj (hall j hjl) hdj
      · have hno : ∀ (j : Nat) (aj : AOper), l[j]? = some aj → aj.dst ≠ some t := fun j aj haj hdj => hw ⟨j, aj, haj, hdj⟩
        rw [es_other ht he l.length (Nat.le_refl _) fun j aj _ haj => hno j aj haj]
        exact S.envO t fun j aj haj _ => hno j aj haj
    have hlen : (hs l.length).length = (hs q).length := by
      have hql := S.qle
      have := len_between D ht (q := q) (l.length - q) (by omega) fun k ak h1 h2 hak => by
        cases hck : isCall ak.op with
        | false => rfl
        | true =>
          have := (S.calls k ak hak hck).1 (hall k (by omega))
          omega
      rwa [show q + (l.length - q) = l.length by omega] at this
    have hheap : HD (hs l.length) (und l h.length fun i => listed.getD i false) (hs q).length = hs l.length := by
      refine heap_ext (by rw [HD_length, hlen]) fun id hid => ?_
      rw [HD_length] at hid
      have hu : und l h.length (fun i => listed.getD i false) id = false := by
        cases hu : und l h.length (fun i => listed.getD i false) id with
        | false => rfl
        | true =>
          obtain ⟨k, hk, ao, j, hak, _⟩ := und_iff.1 hu
          have := hall k (List.getElem?_eq_some_iff.1 hak).1
          rw [this] at hk; cases hk
      rw [rd_HD, if_pos ⟨hid, hu⟩]
    have hinv := S.inv
    rw [hheap] at hinv
    exact hst Γ μ a w henv hinv S.size S.defers Q fun μ' a' w' g1 g2 g3 g4 g5 g6 => hq μ' a' w' (Mu.le_trans S.le g1) (fun id hid => (g2 id hid).trans (S.keep id (by omega))) g3 g4 g5 g6
  -- what is left of the loop of orders
  have main : ∀ (fuel : Nat) (listed : Array Bool) (a : Act) (w : World) (q : Nat) (μ : Mu), listed.size = ops.size → left ops.size listed ≤ fuel →
      (∀ j, l.length ≤ j → j < ops.size → listed.getD j false = false) → (∀ (i : Nat) (o : Oper), ops[i]? = some o → listed.getD i false = true → ∀ p ∈ directs o, listed.getD p false = true) →
      Sim Γ l h.length N e es hs vs μ0 (fun i => listed.getD i false) q μ a w → wpAny P .any ops Q fuel listed a w := by
    intro fuel
    induction fuel with
    | zero =>
      intro listed a w q μ hsz hleft hbeyond hclosed S
      have hall : ∀ j, j < ops.size → listed.getD j false = true := by
        intro j hj
        cases hv : listed.getD j false with
        | true => rfl
        | false =>
          have hm : j ∈ (List.range ops.size).filter fun i => !listed.getD i false := by rw [List.mem_filter]; exact ⟨by simpa using hj, by rw [hv]; rfl⟩
          have := List.length_pos_of_mem hm
          unfold left at hleft
          omega
      have hr0 : r.length = 0 := by
        cases hr : r.length with
        | zero => rfl
        | succ x =>
          have h1 := hall l.length (by rw [D.size]; omega)
          have h2 := hbeyond l.length (Nat.le_refl _) (by rw [D.size]; omega)
          rw [h1] at h2; cases h2
      refine any_of_ops D.dir last 0 l.length 0 listed a w (by rw [D.size]; omega) (Nat.le_refl _) hsz (fun j hj => ?_) (Nat.le_refl _) ?_
      · rw [hall j hj]
        have : j < l.length := by rw [D.size] at hj; omega
        simp [this]
      · have := whole listed a w q μ S fun j hj => hall j (by rw [D.size]; omega)
        rw [hr0] at this
        exact this
    | succ fuel ih =>
      intro listed a w q μ hsz hleft hbeyond hclosed S
      by_cases hall : ∀ j, j < l.length → listed.getD j false = true
      · refine any_of_ops D.dir last r.length l.length (fuel + 1) listed a w D.size.symm (Nat.le_refl _) hsz (fun j hj => ?_) ?_ (whole listed a w q μ S hall)
        · by_cases hjl : j < l.length
          · rw [hall j hjl]; simp [hjl]
          · rw [hbeyond j (by omega) hj]; simp [hjl]
        · refine Nat.le_trans ?_ hleft
          unfold left
          have : ((List.range ops.size).filter fun i => !listed.getD i false) = List.range' l.length r.length := by
            rw [D.size, List.range_add, List.filter_append]
            have e1 : (List.range l.length).filter (fun i => !listed.getD i false) = [] := by
              rw [List.filter_eq_nil_iff]
              intro j hj
              rw [hall j (by simpa using hj)]
              simp
            rw [e1, List.nil_append, List.range'_eq_map_range, List.filter_eq_self.2]
            intro j hj
            obtain ⟨x, hx, rfl⟩ := List.mem_map.1 hj
            rw [hbeyond _ (by omega) (by rw [D.size]; simp at hx; omega)]
            rfl
          rw [this]; simp
      · have hex : ∃ j, j < l.length ∧ listed.getD j false = false := by
          false_or_by_contra
          rename_i hn
          exact hall fun j hj => by
            cases hv : listed.getD j false with
            | true => rfl
            | false => exact absurd ⟨j, hj, hv⟩ hn
        obtain ⟨j, hj, hv⟩ := hex
        refine ⟨fun hre => absurd hre (some_ready D.dir hsz j (by rw [D.size]; omega) hv), fun i hi => ?_⟩
        obtain ⟨o, ho, h2, h3⟩ := ready_iff.1 hi
        have hin := (Array.getElem?_eq_some_iff.1 ho).1
        rw [getD_both (by omega)] at h2
        have hah := ahead_done (done := fun i => listed.getD i false) D.dir hclosed i o ho h3
        have hil : i < l.length := by
          by_cases e1 : i < l.length
          · exact e1
          · have := hah j (last i (by omega) hin j (by omega))
            try simp only at this
            rw [hv] at this; cases this
        have hcl : ∀ k, listed.getD k false = true → ∀ b, ((closures ops).getD k 0).testBit b = true → listed.getD b false = true := by
          intro k hk b hb
          by_cases hkn : k < ops.size
          · have hok : ops[k]? = some ops[k] := by simp [hkn]
            exact ahead_done (done := fun i => listed.getD i false) D.dir hclosed k _ hok (hclosed k _ hok hk) b hb
          · have : listed.getD k false = false := by simp [Array.getD, show ¬ k < listed.size by omega]
            rw [this] at hk; cases hk
        have hstep := sim_step D hE ht h0 he S (i := i) (ao := l[i]) (o := o) (List.getElem?_eq_getElem hil) ho h2 hah hcl
          (next := wpAny P .any ops Q fuel (listed.setIfInBounds i true)) (Q := Q) (by
            intro V w' μ' q' S'
            rw [← listed_set (by omega)] at S'
            refine ih (listed.setIfInBounds i true) _ w' q' μ' (by simpa using hsz) (by have := left_set hin hsz h2; omega) ?_ ?_ S'
            · intro k hk hkn
              have := congrFun (listed_set (listed := listed) (i := i) (by omega)) k
              try simp only at this
              rw [this, also_of _ _ (by omega)]
              exact hbeyond k hk hkn
            · intro k ok hok hdk p hp
              have e1 := congrFun (listed_set (listed := listed) (i := i) (by omega)) k
              have e2 := congrFun (listed_set (listed := listed) (i := i) (by omega)) p
              try simp only at e1 e2
              rw [e1] at hdk
              rw [e2]
              have hdone : listed.getD p false = true := by
                by_cases e3 : k = i
                · subst e3; rw [ho] at hok; cases hok; exact h3 p hp
                · rw [also_of _ _ e3] at hdk
                  exact hclosed k ok hok hdk p hp
              unfold also
              show (decide (p = i) || listed.getD p false) = true
              rw [hdone]; simp)
        unfold wpOp
        rw [ho]
        exact hstep
  have hgd : ∀ i : Nat, (Array.replicate ops.size false).getD i false = false := by intro i; simp [Array.getD]
  have hfun : (fun i => (Array.replicate ops.size false).getD i false) = fun _ => false := funext hgd
  refine main ops.size (Array.replicate ops.size false) a _ 0 μ0 (by simp) ?_ (fun j _ _ => hgd j) (fun i o _ hd => by rw [hgd] at hd; cases hd) ?_
  · unfold left; exact Nat.le_trans (List.length_filter_le _ _) (by simp)
  · rw [hfun]
    have hpad : HD (hs l.length) (und l h.length fun _ => false) (hs 0).length = h ++ List.replicate m none := by
      rw [h0]
      refine heap_ext (by rw [HD_length]) fun id hid => ?_
      rw [HD_length] at hid
      rw [rd_HD]
      by_cases ho : ∃ i, Owns l h.length i id
      · obtain ⟨i, ho⟩ := ho
        have hu : und l h.length (fun _ => false) id = true := und_iff.2 ⟨i, rfl, ho⟩
        rw [hu]
        have := own_none D ht h0 ho 0 (Nat.zero_le _)
        rw [h0] at this
        rw [this]; simp
      · have hno : ∀ i, 0 ≤ i → ¬ Owns l h.length i id := fun i _ hi => ho ⟨i, hi⟩
        have hu : und l h.length (fun _ => false) id = false := by
          cases hu : und l h.length (fun _ => false) id with
          | false => rfl
          | true => obtain ⟨i, _, hi⟩ := und_iff.1 hu; exact absurd ⟨i, hi⟩ ho
        rw [if_pos ⟨hid, hu⟩]
        have := own_keep D ht (k := 0) (id := id) (by rw [h0]; exact hid) hno l.length (by omega)
        rw [Nat.zero_add, h0] at this
        exact this
    refine ⟨Nat.zero_le _, fun i ao _ _ => ⟨fun h => (by cases h), fun h => (by omega)⟩, fun i ao d _ h => (by cases h), fun t _ => hs0 t, ?_, fun id hid => ?_, Mu.le_refl _, fun _ _ => rfl, hN, hd⟩
    · rw [hpad]
      exact (hi.pad m).world rfl rfl rfl fun _ _ => rfl
    · obtain ⟨i, _, ao, j, _, _, rfl⟩ := und_iff.1 hid
      exact hi.dom _ (by omega)

end Go.Esc
end
section
namespace Go.Esc
open Go

def pureReg : AOp → Bool
  | .mv _ | .pick .. | .bin .. | .eqA .. | .eqB .. | .eqN .. | .nilc _ | .un .. | .conv .. | .convS _ | .fAddr .. | .iAddrA .. | .iAddrL .. | .fld1 .. | .fldN .. | .idxA1 .. | .idxAN .. | .idxS .. | .ext .. | .len _ | .lenS _ | .max .. | .min .. => true
  | _ => false

theorem aop_reg {E : Sums} {q : Bool} {hr : Heap} {n0 : Nat} {slot : Option Nat} {o : AOp} {e : Env} {h h' : Heap} {v : Val} (hp : pureReg o = true)
    (hres : aop E q hr n0 slot o e h (fun v h => some (v, h)) = some (v, h')) : ∀ (q2 : Bool) (hr2 : Heap) (n2 : Nat) (slot2 : Option Nat) (h2 : Heap), aop E q2 hr2 n2 slot2 o e h2 (fun v h => some (v, h)) = some (v, h2) := by
  intro q2 hr2 n2 slot2 h2
  cases o <;> simp [pureReg] at hp <;> simp only [aop] at hres ⊢
  case mv => cases hres; rfl
  all_goals
    simp only [Option.bind_eq_some_iff, Option.some.injEq, Prod.mk.injEq] at hres
    obtain ⟨_, h1, rfl, rfl⟩ := hres
    rw [h1]; rfl

def isLoad : AOp → Bool
  | .load1 _ | .loadN .. => true
  | _ => false

theorem aop_load {E : Sums} {q : Bool} {n0 : Nat} {slot : Option Nat} {o : AOp} {e : Env} {h : Heap} {v : Val} (hp : isLoad o = true) (hr : reload h o e = some v) : aop E q h n0 slot o e h (fun v h => some (v, h)) = some (v, h) := by
  cases o <;> simp [isLoad] at hp <;> simp only [reload] at hr <;> simp only [aop, hr] <;> rfl

theorem reload_env {o : AOp} {e e' : Env} {h : Heap} (he : ∀ x ∈ o.opds, e.ev x = e'.ev x) : reload h o e = reload h o e' := by
  cases o <;> simp only [AOp.opds] at he <;> simp only [reload]
  · rw [he _ (by simp)]
  · rw [he _ (by simp)]

def sameLoad : AOp → AOp → Bool
  | .load1 (.t a), .load1 (.t b) => decide (a = b)
  | .loadN n (.t a), .loadN m (.t b) => decide (n = m) && decide (a = b)
  | _, _ => false

theorem sameLoad_ok {o p : AOp} (h : sameLoad o p = true) : o = p ∧ isLoad p = true := by
  unfold sameLoad at h
  split at h
  · have := of_decide_eq_true h; subst this; exact ⟨rfl, rfl⟩
  · rw [Bool.and_eq_true] at h
    have h1 := of_decide_eq_true h.1
    have h2 := of_decide_eq_true h.2
    subst h1 h2; exact ⟨rfl, rfl⟩
  · cases h

def chkFloat (s : AOper) (chk : List (Nat × AOp)) (o : AOper) : Bool :=
  decide (o.guard = none) && decide (o.slot = none) && !isCall o.op && !slotted o.op &&
  (match o.dst with
   | some d => !(s.reads.contains d) && (pureReg o.op || chk.any fun c => decide (c.1 = d) && sameLoad c.2 o.op)
   | none => false) &&
  (match s.dst with | some d => !(o.reads.contains d) | none => true)

def chkS (ops : Array Oper) (l : List AOper) (s : AOper) (chk : List (Nat × AOp)) (r : List AOper) : Bool :=
  let cl := closures ops
  l.zipIdx.all (fun p => (cl.getD l.length 0).testBit p.2 || chkFloat s chk p.1) &&
  l.all (fun o => match s.dst with | some d => decide (o.dst ≠ some d) | none => true) &&
  l.zipIdx.all (fun p => l.zipIdx.all fun q => match q.1.dst with | some d => !(p.1.reads.contains d) || ((cl.getD p.2 0).testBit q.2 && decide (q.2 < p.2)) | none => true) &&
  chkLast ops (l.length + 1) r.length

def Early (ops : Array Oper) (l : List AOper) : Prop := ∀ (i j : Nat) ai aj d, l[i]? = some ai → l[j]? = some aj → aj.dst = some d → d ∈ ai.reads → ((closures ops).getD i 0).testBit j = true ∧ j < i

structure Float1 (s : AOper) (chk : List (Nat × AOp)) (o : AOper) : Prop where
  guard : o.guard = none
  slot : o.slot = none
  call : isCall o.op = false
  slotted : slotted o.op = false
  dst : ∃ d, o.dst = some d ∧ d ∉ s.reads ∧ (pureReg o.op = true ∨ (isLoad o.op = true ∧ (d, o.op) ∈ chk))
  reads : ∀ d, s.dst = some d → d ∉ o.reads

theorem chkFloat_ok {s : AOper} {chk : List (Nat × AOp)} {o : AOper} (h : chkFloat s chk o = true) : Float1 s chk o := by
  simp only [chkFloat, Bool.and_eq_true, decide_eq_true_eq, Bool.not_eq_true'] at h
  obtain ⟨⟨⟨⟨⟨h1, h2⟩, h3⟩, h4⟩, h5⟩, h6⟩ := h
  refine ⟨h1, h2, h3, h4, ?_, fun d hd => ?_⟩
  · split at h5
    · rename_i d hd
      simp only [Bool.and_eq_true, Bool.not_eq_true', Bool.or_eq_true] at h5
      refine ⟨d, hd, fun hm => ?_, ?_⟩
      · have := h5.1
        rw [List.contains_iff_mem.2 hm] at this; cases this
      · rcases h5.2 with h | h
        · exact .inl h
        · right
          rw [List.any_eq_true] at h
          obtain ⟨c, hc, h⟩ := h
          simp only [Bool.and_eq_true, decide_eq_true_eq] at h
          obtain ⟨e1, e2⟩ := sameLoad_ok h.2
          refine ⟨e2, ?_⟩
          have : c = (d, o.op) := by cases c; simp at h e1; simp [h.1, e1]
          rw [← this]; exact hc
    · cases h5
  · rw [hd] at h6
    simp only [Bool.not_eq_true'] at h6
    intro hm
    rw [List.contains_iff_mem.2 hm] at h6; cases h6

theorem again_ok {R : Type} {e : Env} {h : Heap} {k : Option R} {res : R} : ∀ {l : List (Nat × AOp)}, again l e h k = some res → k = some res ∧ ∀ c ∈ l, reload h c.2 e = some (e.get c.1)
  | [], hr => ⟨hr, by simp⟩
  | c :: l, hr => by
    rw [again_cons] at hr
    unfold agn at hr
    split at hr
    · rename_i hc
      obtain ⟨h1, h2⟩ := again_ok hr
      exact ⟨h1, fun x hx => by rcases List.mem_cons.1 hx with e | hx; subst e; exact hc; exact h2 x hx⟩
    · cases hr

structure Sim2 (Γ : Ctx) (l : List AOper) (s : AOper) (n0 N : Nat) (e : Env) (vs : Nat → Val) (v : Val) (μ0 : Mu) (done : Nat → Bool) (h2 : Heap) (μ : Mu) (a : Act) (w : World) : Prop where
  envD : ∀ (i : Nat) ao d, l[i]? = some ao → done i = true → ao.dst = some d → RV μ (vs i) (a.tmps.getD d undef)
  envO : ∀ t, (∀ (i : Nat) ao, l[i]? = some ao → done i = true → ao.dst ≠ some t) → s.dst ≠ some t → RV μ (e.get t) (a.tmps.getD t undef)
  envS : ∀ d, s.dst = some d → RV μ v (a.tmps.getD d undef)
  inv : Inv Γ μ h2 w
  le : μ0.le μ
  keep : ∀ id, id < n0 → μ id = μ0 id
  size : N ≤ a.tmps.size
  defers : a.defers = []

theorem getD_put {a : Act} {dst : Option Nat} {V : Value} {t : Nat} (h : dst ≠ some t) : (a.put dst V).tmps.getD t undef = a.tmps.getD t undef := by
  cases hd : dst with
  | none => rfl
  | some d =>
    rw [hd] at h
    simp [Act.put, Array.getElem?_setIfInBounds_ne (show d ≠ t from fun e => h (by rw [e]))]
theorem getD_put_same {a : Act} {d N : Nat} {V : Value} (h : chkDst N (some d) = true) (hN : N ≤ a.tmps.size) : (a.put (some d) V).tmps.getD d undef = V := by
  have hlt : d < a.tmps.size := by
    simp [chkDst] at h
    exact Nat.lt_of_lt_of_le h hN
  simp [Act.put, Array.getD, hlt]

section
variable {P : Program} {N m : Nat} {ops : Array Oper} {l r : List AOper} {s : AOper} {chk : List (Nat × AOp)} {E : Sums} {hr : Heap} {e : Env} {es : Nat → Env} {hs : Nat → Heap} {vs : Nat → Val} {Γ : Ctx} {μ0 : Mu}

theorem es_same (D : DrawOk P N ops m l (s :: r)) (hR : Early ops l) (ht : Trace E hr hr.length l es hs vs) (he : es 0 = e) {i t : Nat} {ao : AOper} (ha : l[i]? = some ao) (hm : t ∈ ao.reads) : (es l.length).get t = (es i).get t := by
  have hil : i < l.length := (List.getElem?_eq_some_iff.1 ha).1
  by_cases hw : ∃ (j : Nat) (aj : AOper), l[j]? = some aj ∧ aj.dst = some t
  · obtain ⟨j, aj, haj, hd⟩ := hw
    obtain ⟨_, h2⟩ := hR i j ao aj t ha haj hd hm
    rw [es_writer D ht haj hd i h2 (by omega), es_writer D ht haj hd l.length (by omega) (Nat.le_refl _)]
  · have hno : ∀ (j : Nat) (aj : AOper), l[j]? = some aj → aj.dst ≠ some t := fun j aj haj hd => hw ⟨j, aj, haj, hd⟩
    rw [es_other ht he i (by omega) fun j aj _ haj => hno j aj haj, es_other ht he l.length (Nat.le_refl _) fun j aj _ haj => hno j aj haj]

theorem sim2_step (D : DrawOk P N ops m l (s :: r)) (hR : Early ops l) (hE : Sound P E) (ht : Trace E hr hr.length l es hs vs) (he : es 0 = e) {v : Val} {h2 : Heap} (hag : ∀ c ∈ chk, reload h2 c.2 (es l.length) = some ((es l.length).get c.1))
    {done : Nat → Bool} {μ : Mu} {a : Act} {w : World} (S : Sim2 Γ l s hr.length N e vs v μ0 done h2 μ a w) {i : Nat} {ao : AOper} {o : Oper} (ha : l[i]? = some ao) (ho : ops[i]? = some o) (hnd : done i = false) (hf : Float1 s chk ao)
    (hdist : ∀ (k : Nat) ak d, l[k]? = some ak → s.dst = some d → ak.dst ≠ some d)
    (hah : ∀ b, ((closures ops).getD i 0).testBit b = true → done b = true)
    {next : Act → World → Prop} {Q : Exit → Act → World → Prop} (hn : ∀ V w' μ', Sim2 Γ l s hr.length N e vs v μ0 (also done i) h2 μ' (a.put o.dst V) w' → next (a.put o.dst V) w') :
    if Region.wanted o (yielded ops a.tmps) then o.wp P a w next Q ∨ (o.asks P a w ∧ LetsOut Q) else next (a.put o.dst undef) w := by
  have hil : i < l.length := (List.getElem?_eq_some_iff.1 ha).1
  have hco : chkOper P N ops o ao = true := D.oper i o ao ho (by rw [List.getElem?_append_left hil]; exact ha)
  have hdst : o.dst = ao.dst ∧ chkDst N o.dst = true := by
    simp only [chkOper, Bool.and_eq_true, decide_eq_true_eq] at hco
    exact ⟨hco.1.1.1, hco.1.1.2⟩
  obtain ⟨d, hd, hds, hkind⟩ := hf.dst
  have henv : SEnv μ ((es i).keep ao.reads) a := by
    intro t
    rw [Env.get_keep_mem]
    split
    · rename_i hmem
      by_cases hw : ∃ (j : Nat) (aj : AOper), l[j]? = some aj ∧ aj.dst = some t
      · obtain ⟨j, aj, haj, hdj⟩ := hw
        obtain ⟨h1, h3⟩ := hR i j ao aj t ha haj hdj hmem
        rw [es_writer D ht haj hdj i h3 (by omega)]
        exact S.envD j aj t haj (hah j h1) hdj
      · have hno : ∀ (j : Nat) (aj : AOper), l[j]? = some aj → aj.dst ≠ some t := fun j aj haj hd => hw ⟨j, aj, haj, hd⟩
        rw [es_other ht he i (by omega) fun j aj _ haj => hno j aj haj]
        exact S.envO t (fun j aj haj _ => hno j aj haj) fun hst => hf.reads t hst hmem
    · trivial
  have hstep := ht.step i ao ha
  have hone : aoper E true h2 hr.length ao (es i) h2 (fun v h => some (v, h)) = some (vs i, h2) := by
    unfold aoper at hstep ⊢
    rw [hf.guard] at hstep ⊢
    simp only at hstep ⊢
    rcases hkind with hp | ⟨hp, hmem⟩
    · exact aop_reg hp hstep _ _ _ _ _
    · refine aop_load hp ?_
      have h1 := hag _ hmem
      simp only at h1
      rw [es_writer D ht ha hd l.length hil (Nat.le_refl _)] at h1
      rw [← h1]
      refine reload_env fun x hx => ?_
      cases x with
      | v x => rfl
      | t n => exact (es_same D hR ht he ha (List.mem_append_left _ (List.mem_filterMap.2 ⟨.t n, hx, rfl⟩))).symm
  rw [aoper_env (e' := (es i).keep ao.reads) fun t ht' => by rw [Env.get_keep_mem, if_pos ht']] at hone
  refine aoper_wp (hr := h2) (n0 := hr.length) hE hco hone henv S.inv (fun _ _ h => h) (by rw [hf.slot]; trivial) ?_
  intro V w' μ' hle hv hinv hkeep
  rw [hf.slot] at hkeep
  refine hn V w' μ' ⟨?_, ?_, ?_, hinv, Mu.le_trans S.le hle, ?_, by rw [Act.size_put]; exact S.size, by rw [put_defers]; exact S.defers⟩
  · intro k ak d' hak hdk hd'
    by_cases e1 : k = i
    · subst e1
      rw [ha] at hak; cases hak
      rw [hdst.1, hd']
      rw [getD_put_same (by rw [← hd', ← hdst.1]; exact hdst.2) S.size]
      exact hv
    · rw [also_of _ _ e1] at hdk
      rw [getD_put (by rw [hdst.1]; exact fun h => (D.apart i k ao ak ha hak (Ne.symm e1)).1 d' h hd')]
      exact (S.envD k ak d' hak hdk hd').mono hle
  · intro t hno hst
    have h1 := hno i ao ha (also_self _ _)
    rw [getD_put (by rw [hdst.1]; exact h1)]
    refine (S.envO t (fun k ak hak hdk => ?_) hst).mono hle
    by_cases e1 : k = i
    · subst e1; rw [hnd] at hdk; cases hdk
    · exact hno k ak hak (by rw [also_of _ _ e1]; exact hdk)
  · intro d' hd'
    rw [getD_put (by rw [hdst.1]; exact hdist i ao d' ha hd')]
    exact (S.envS d' hd').mono hle
  · intro id hid
    by_cases hl : id < h2.length
    · rw [← S.keep id hid]
      exact hkeep id hl fun j hj => by cases hj
    · have h1 := S.inv.dom id (by omega)
      have h3 := S.keep id hid
      rw [h1] at h3
      have h4 := hinv.dom id (by omega)
      rw [h4, ← h3]

end

theorem drawS_ok {P : Program} {N L : Nat} {ops : Array Oper} {m id : Nat} {l r : List AOper} {s : AOper} {chk : List (Nat × AOp)} {E : Sums} (hE : Sound P E) {e : Env} {h : Heap} {R : Type} {k : Env → Heap → Option R} {res : R}
    (hc : chkDraw P N ops m l (s :: r) = true) (hcs : chkS ops l s chk r = true) (hL : L ≤ h.length)
    (hres : adraw E h h.length l e (h ++ List.replicate m none) (fun e h => aoper E false h 0 s e h fun v h2 => again chk e h2 (aops E r (e.put s.dst v) h2 k)) = some res) :
    ∃ e' h', k e' h' = some res ∧ L ≤ h'.length ∧ StepsTo P N L ((Code.region id ops true).wp P) e h .normal e' h' := by
  have D := chkDraw_ok hc
  simp only [chkS, Bool.and_eq_true, List.all_eq_true] at hcs
  obtain ⟨⟨⟨hfl, hdi⟩, hrd0⟩, hla⟩ := hcs
  have hR : Early ops l := by
    intro i j ai aj d hi hj hd hr
    have := hrd0 (ai, i) (mem_zipIdx hi) (aj, j) (mem_zipIdx hj)
    simp only [hd, Bool.or_eq_true, Bool.not_eq_true', Bool.and_eq_true, decide_eq_true_eq] at this
    rcases this with this | this
    · have hc : ai.reads.contains d = true := by simpa using hr
      rw [hc] at this; cases this
    · exact this
  have hsz : ops.size = l.length + (r.length + 1) := by rw [D.size]; simp
  have last := chkLast_ok hla (by rw [hsz]; omega)
  have hfloat : ∀ (i : Nat) ao, l[i]? = some ao → ((closures ops).getD l.length 0).testBit i = false → Float1 s chk ao := by
    intro i ao ha hb
    have := hfl (ao, i) (mem_zipIdx ha)
    simp only [Bool.or_eq_true] at this
    rcases this with h | h
    · rw [hb] at h; cases h
    · exact chkFloat_ok h
  have hdist : ∀ (k : Nat) ak d, l[k]? = some ak → s.dst = some d → ak.dst ≠ some d := by
    intro k ak d hak hd
    have := hdi ak (List.mem_of_getElem? hak)
    rw [hd] at this
    simpa using this
  obtain ⟨es, hs, vs, he, h0, ht, hk⟩ := trace_of l _ _ hres
  rw [aoper_bind] at hk
  simp only [Option.bind_eq_some_iff] at hk
  obtain ⟨⟨v, h2⟩, hone, hk⟩ := hk
  obtain ⟨hk, hag⟩ := again_ok hk
  simp only at hk hag
  have hnl : l.length < ops.size := by omega
  have hos : ops[l.length]? = some ops[l.length] := by simp [hnl]
  have hcos : chkOper P N ops ops[l.length] s = true := D.oper l.length _ s hos (by rw [List.getElem?_append_right (Nat.le_refl _)]; simp)
  have hsslot : s.slot = none := D.rslot s (by simp)
  have hsdst : ops[l.length].dst = s.dst ∧ chkDst N ops[l.length].dst = true := by
    have := hcos
    simp only [chkOper, Bool.and_eq_true, decide_eq_true_eq] at this
    exact ⟨this.1.1.1, this.1.1.2⟩
  have hrlist : All2 (fun i ao => ∃ o, ops[i]? = some o ∧ chkOper P N ops o ao = true ∧ ao.slot = none) (List.range' (l.length + 1) r.length) r := by
    refine All2.of_get (by simp) fun i x ao hx hao => ?_
    have hi : i < r.length := (List.getElem?_eq_some_iff.1 hao).1
    rw [List.getElem?_range' hi] at hx
    simp at hx
    subst hx
    have hlt : l.length + 1 + i < ops.size := by omega
    refine ⟨ops[l.length + 1 + i], by simp [hlt], ?_, D.rslot ao (List.mem_cons_of_mem _ (List.mem_of_getElem? hao))⟩
    refine D.oper (l.length + 1 + i) _ ao (by simp [hlt]) ?_
    rw [List.getElem?_append_right (by omega), show l.length + 1 + i - l.length = i + 1 by omega]
    simpa using hao
  have hbl := base_len D ht h0 (k := l.length) (Nat.le_refl _)
  have hl2 := aoper_len hE hone
  obtain ⟨e', h', hk', hL', hst⟩ := aops_ok (L := L) hE _ r ((es l.length).put s.dst v) h2 k res hrlist hk (by omega)
  refine ⟨e', h', hk', hL', fun Γ μ0 a w hs0 hi hN hd Q hq => wp_region_any D.follows ?_⟩
  -- all is done
  have whole : ∀ (listed : Array Bool) (a : Act) (w : World) (μ : Mu), Sim2 Γ l s h.length N e vs v μ0 (fun i => listed.getD i false) h2 μ a w → (∀ j, j < l.length → listed.getD j false = true) → wpOps P ops Q (List.range' (l.length + 1) r.length) a w := by
    intro listed a w μ S hall
    have henv : SEnv μ ((es l.length).put s.dst v) a := by
      intro t
      have main : s.dst ≠ some t → RV μ ((es l.length).get t) (a.tmps.getD t undef) := by
        intro hne
        by_cases hw : ∃ (j : Nat) (aj : AOper), l[j]? = some aj ∧ aj.dst = some t
        · obtain ⟨j, aj, haj, hdj⟩ := hw
          have hjl := (List.getElem?_eq_some_iff.1 haj).1
          rw [es_writer D ht haj hdj l.length hjl (Nat.le_refl _)]
          exact S.envD j aj t haj (hall j hjl) hdj
        · have hno : ∀ (j : Nat) (aj : AOper), l[j]? = some aj → aj.dst ≠ some t := fun j aj haj hdj => hw ⟨j, aj, haj, hdj⟩
          rw [es_other ht he l.length (Nat.le_refl _) fun j aj _ haj => hno j aj haj]
          exact S.envO t (fun j aj haj _ => hno j aj haj) hne
      cases hsd : s.dst with
      | none => exact main (by rw [hsd]; simp)
      | some d =>
        by_cases e1 : d = t
        · subst e1
          rw [Env.get_put_same]; exact S.envS d hsd
        · rw [Env.get_put_other _ _ _ _ e1]
          exact main (by rw [hsd]; simpa using e1)
    exact hst Γ μ a w henv S.inv S.size S.defers Q fun μ' a' w' g1 g2 g3 g4 g5 g6 => hq μ' a' w' (Mu.le_trans S.le g1) (fun id hid => (g2 id hid).trans (S.keep id (by omega))) g3 g4 g5 g6
  -- behind the write
  have main2 : ∀ (fuel : Nat) (listed : Array Bool) (a : Act) (w : World) (μ : Mu), listed.size = ops.size → left ops.size listed ≤ fuel → listed.getD l.length false = true →
      (∀ j, l.length < j → j < ops.size → listed.getD j false = false) → (∀ (j : Nat) ao, l[j]? = some ao → listed.getD j false = false → Float1 s chk ao) →
      (∀ (i : Nat) (o : Oper), ops[i]? = some o → listed.getD i false = true → ∀ p ∈ directs o, listed.getD p false = true) →
      Sim2 Γ l s h.length N e vs v μ0 (fun i => listed.getD i false) h2 μ a w → wpAny P .any ops Q fuel listed a w := by
    intro fuel
    induction fuel with
    | zero =>
      intro listed a w μ hls hleft hsd hbeyond hfl2 hclosed S
      have hall : ∀ j, j < ops.size → listed.getD j false = true := by
        intro j hj
        cases hv : listed.getD j false with
        | true => rfl
        | false =>
          have hm : j ∈ (List.range ops.size).filter fun i => !listed.getD i false := by rw [List.mem_filter]; exact ⟨by simpa using hj, by rw [hv]; rfl⟩
          have := List.length_pos_of_mem hm
          unfold left at hleft
          omega
      have hr0 : r.length = 0 := by
        cases hr : r.length with
        | zero => rfl
        | succ x =>
          have h1 := hall (l.length + 1) (by omega)
          have h3 := hbeyond (l.length + 1) (by omega) (by omega)
          rw [h1] at h3; cases h3
      refine any_of_ops D.dir last 0 (l.length + 1) 0 listed a w (by omega) (Nat.le_refl _) hls (fun j hj => ?_) (Nat.le_refl _) ?_
      · rw [hall j hj]
        have : j < l.length + 1 := by omega
        simp [this]
      · have := whole listed a w μ S fun j hj => hall j (by omega)
        rw [hr0] at this
        exact this
    | succ fuel ih =>
      intro listed a w μ hls hleft hsd hbeyond hfl2 hclosed S
      by_cases hall : ∀ j, j < l.length → listed.getD j false = true
      · refine any_of_ops D.dir last r.length (l.length + 1) (fuel + 1) listed a w (by omega) (Nat.le_refl _) hls (fun j hj => ?_) ?_ (whole listed a w μ S hall)
        · by_cases hjl : j < l.length + 1
          · have : listed.getD j false = true := by
              by_cases e1 : j = l.length
              · subst e1; exact hsd
              · exact hall j (by omega)
            rw [this]; simp [hjl]
          · rw [hbeyond j (by omega) hj]; simp [hjl]
        · refine Nat.le_trans ?_ hleft
          unfold left
          have : ((List.range ops.size).filter fun i => !listed.getD i false) = List.range' (l.length + 1) r.length := by
            rw [show ops.size = (l.length + 1) + r.length by omega, List.range_add, List.filter_append]
            have e1 : (List.range (l.length + 1)).filter (fun i => !listed.getD i false) = [] := by
              rw [List.filter_eq_nil_iff]
              intro j hj
              have hj : j < l.length + 1 := by simpa using hj
              have : listed.getD j false = true := by
                by_cases e1 : j = l.length
                · subst e1; exact hsd
                · exact hall j (by omega)
              rw [this]
              simp
            rw [e1, List.nil_append, List.range'_eq_map_range, List.filter_eq_self.2]
            intro j hj
            obtain ⟨x, hx, rfl⟩ := List.mem_map.1 hj
            rw [hbeyond _ (by omega) (by simp at hx; omega)]
            rfl
          rw [this]; simp
      · have hex : ∃ j, j < l.length ∧ listed.getD j false = false := by
          false_or_by_contra
          rename_i hn
          exact hall fun j hj => by
            cases hv : listed.getD j false with
            | true => rfl
            | false => exact absurd ⟨j, hj, hv⟩ hn
        obtain ⟨j, hj, hv⟩ := hex
        refine ⟨fun hre => absurd hre (some_ready D.dir hls j (by omega) hv), fun i hi => ?_⟩
        obtain ⟨o, ho, h3, h4⟩ := ready_iff.1 hi
        have hin := (Array.getElem?_eq_some_iff.1 ho).1
        rw [getD_both (by omega)] at h3
        have hah := ahead_done (done := fun i => listed.getD i false) D.dir hclosed i o ho h4
        have hil : i < l.length := by
          by_cases e1 : i < l.length
          · exact e1
          · by_cases e2 : i = l.length
            · subst e2; rw [hsd] at h3; cases h3
            · have := hah j (last i (by omega) hin j (by omega))
              try simp only at this
              rw [hv] at this; cases this
        have hao := List.getElem?_eq_getElem hil
        have hstep := sim2_step D hR hE ht he hag S (i := i) (ao := l[i]) (o := o) hao ho h3 (hfl2 i l[i] hao h3) hdist hah
          (next := wpAny P .any ops Q fuel (listed.setIfInBounds i true)) (Q := Q) (by
            intro V w' μ' S'
            rw [← listed_set (by omega)] at S'
            refine ih (listed.setIfInBounds i true) _ w' μ' (by simpa using hls) (by have := left_set hin hls h3; omega) ?_ ?_ ?_ ?_ S'
            · have := congrFun (listed_set (listed := listed) (i := i) (by omega)) l.length
              try simp only at this
              rw [this, also_of _ _ (by omega)]
              exact hsd
            · intro k hk hkn
              have := congrFun (listed_set (listed := listed) (i := i) (by omega)) k
              try simp only at this
              rw [this, also_of _ _ (by omega)]
              exact hbeyond k hk hkn
            · intro k ak hak hdk
              have e1 := congrFun (listed_set (listed := listed) (i := i) (by omega)) k
              try simp only at e1
              rw [e1] at hdk
              by_cases e2 : k = i
              · subst e2; rw [also_self] at hdk; cases hdk
              · rw [also_of _ _ e2] at hdk; exact hfl2 k ak hak hdk
            · intro k ok hok hdk p hp
              have e1 := congrFun (listed_set (listed := listed) (i := i) (by omega)) k
              have e2 := congrFun (listed_set (listed := listed) (i := i) (by omega)) p
              try simp only at e1 e2
              rw [e1] at hdk
              rw [e2]
              have hdone : listed.getD p false = true := by
                by_cases e3 : k = i
                · subst e3; rw [ho] at hok; cases hok; exact h4 p hp
                · rw [also_of _ _ e3] at hdk
                  exact hclosed k ok hok hdk p hp
              unfold also
              show (decide (p = i) || listed.getD p false) = true
              rw [hdone]; simp)
        unfold wpOp
        rw [ho]
        exact hstep
  -- ahead of the write
  have main : ∀ (fuel : Nat) (listed : Array Bool) (a : Act) (w : World) (q : Nat) (μ : Mu), listed.size = ops.size → left ops.size listed ≤ fuel →
      (∀ j, l.length ≤ j → j < ops.size → listed.getD j false = false) → (∀ (i : Nat) (o : Oper), ops[i]? = some o → listed.getD i false = true → ∀ p ∈ directs o, listed.getD p false = true) →
      Sim Γ l h.length N e es hs vs μ0 (fun i => listed.getD i false) q μ a w → wpAny P .any ops Q fuel listed a w := by
    intro fuel
    induction fuel with
    | zero =>
      intro listed a w q μ hls hleft hbeyond hclosed S
      have hv := hbeyond l.length (Nat.le_refl _) hnl
      have hm : l.length ∈ (List.range ops.size).filter fun i => !listed.getD i false := by rw [List.mem_filter]; exact ⟨by simpa using hnl, by rw [hv]; rfl⟩
      have := List.length_pos_of_mem hm
      unfold left at hleft
      omega
    | succ fuel ih =>
      intro listed a w q μ hls hleft hbeyond hclosed S
      have hv := hbeyond l.length (Nat.le_refl _) hnl
      refine ⟨fun hre => absurd hre (some_ready D.dir hls l.length hnl hv), fun i hi => ?_⟩
      obtain ⟨o, ho, h3, h4⟩ := ready_iff.1 hi
      have hin := (Array.getElem?_eq_some_iff.1 ho).1
      rw [getD_both (by omega)] at h3
      have hah := ahead_done (done := fun i => listed.getD i false) D.dir hclosed i o ho h4
      have hcl : ∀ k, listed.getD k false = true → ∀ b, ((closures ops).getD k 0).testBit b = true → listed.getD b false = true := by
        intro k hk b hb
        by_cases hkn : k < ops.size
        · have hok : ops[k]? = some ops[k] := by simp [hkn]
          exact ahead_done (done := fun i => listed.getD i false) D.dir hclosed k _ hok (hclosed k _ hok hk) b hb
        · have : listed.getD k false = false := by simp [Array.getD, show ¬ k < listed.size by omega]
          rw [this] at hk; cases hk
      have hclosed' : ∀ k ok, ops[k]? = some ok → (listed.setIfInBounds i true).getD k false = true → ∀ p ∈ directs ok, (listed.setIfInBounds i true).getD p false = true := by
        intro k ok hok hdk p hp
        have e1 := congrFun (listed_set (listed := listed) (i := i) (by omega)) k
        have e2 := congrFun (listed_set (listed := listed) (i := i) (by omega)) p
        try simp only at e1 e2
        rw [e1] at hdk
        rw [e2]
        have hdone : listed.getD p false = true := by
          by_cases e3 : k = i
          · subst e3; rw [ho] at hok; cases hok; exact h4 p hp
          · rw [also_of _ _ e3] at hdk
            exact hclosed k ok hok hdk p hp
        unfold also
        show (decide (p = i) || listed.getD p false) = true
        rw [hdone]; simp
      by_cases hil : i < l.length
      · have hstep := sim_step D hE ht h0 he S (i := i) (ao := l[i]) (o := o) (List.getElem?_eq_getElem hil) ho h3 hah hcl
          (next := wpAny P .any ops Q fuel (listed.setIfInBounds i true)) (Q := Q) (by
            intro V w' μ' q' S'
            rw [← listed_set (by omega)] at S'
            refine ih (listed.setIfInBounds i true) _ w' q' μ' (by simpa using hls) (by have := left_set hin hls h3; omega) ?_ hclosed' S'
            intro k hk hkn
            have := congrFun (listed_set (listed := listed) (i := i) (by omega)) k
            try simp only at this
            rw [this, also_of _ _ (by omega)]
            exact hbeyond k hk hkn)
        unfold wpOp
        rw [ho]
        exact hstep
      · have hie : i = l.length := by
          by_cases e1 : i = l.length
          · exact e1
          · have := hah l.length (last i (by omega) hin l.length (by omega))
            try simp only at this
            rw [hv] at this; cases this
        subst hie
        have hoo : o = ops[l.length] := by rw [hos] at ho; cases ho; rfl
        -- what does not float is done
        have hdone : ∀ (j : Nat) aj, l[j]? = some aj → listed.getD j false = false → Float1 s chk aj := by
          intro j aj haj hdj
          refine hfloat j aj haj ?_
          cases hb : ((closures ops).getD l.length 0).testBit j with
          | false => rfl
          | true =>
            have := hah j hb
            try simp only at this
            rw [hdj] at this; cases this
        have hlen : (hs l.length).length = (hs q).length := by
          have hql := S.qle
          have := len_between D ht (q := q) (l.length - q) (by omega) fun k ak h1 h2 hak => by
            cases hck : isCall ak.op with
            | false => rfl
            | true =>
              have hd1 : listed.getD k false = true := by
                cases hd2 : listed.getD k false with
                | true => rfl
                | false => have := (hdone k ak hak hd2).call; rw [hck] at this; cases this
              have := (S.calls k ak hak hck).1 hd1
              omega
          rwa [show q + (l.length - q) = l.length by omega] at this
        have hheap : HD (hs l.length) (und l h.length fun i => listed.getD i false) (hs q).length = hs l.length := by
          refine heap_ext (by rw [HD_length, hlen]) fun id hid => ?_
          rw [HD_length] at hid
          have hu : und l h.length (fun i => listed.getD i false) id = false := by
            cases hu : und l h.length (fun i => listed.getD i false) id with
            | false => rfl
            | true =>
              obtain ⟨k, hk, ao, j, hak, hj, _⟩ := und_iff.1 hu
              have := (hdone k ao hak hk).slot
              rw [hj] at this; cases this
          rw [rd_HD, if_pos ⟨hid, hu⟩]
        have hinv := S.inv
        rw [hheap] at hinv
        have henv : SEnv μ ((es l.length).keep s.reads) a := by
          intro t
          rw [Env.get_keep_mem]
          split
          · rename_i hmem
            by_cases hw : ∃ (j : Nat) (aj : AOper), l[j]? = some aj ∧ aj.dst = some t
            · obtain ⟨j, aj, haj, hdj⟩ := hw
              have hjl := (List.getElem?_eq_some_iff.1 haj).1
              rw [es_writer D ht haj hdj l.length hjl (Nat.le_refl _)]
              refine S.envD j aj t haj ?_ hdj
              cases hd2 : listed.getD j false with
              | true => rfl
              | false =>
                obtain ⟨d, h5, h6, _⟩ := (hdone j aj haj hd2).dst
                rw [hdj] at h5; cases h5
                exact absurd hmem h6
            · have hno : ∀ (j : Nat) (aj : AOper), l[j]? = some aj → aj.dst ≠ some t := fun j aj haj hdj => hw ⟨j, aj, haj, hdj⟩
              rw [es_other ht he l.length (Nat.le_refl _) fun j aj _ haj => hno j aj haj]
              exact S.envO t fun j aj haj _ => hno j aj haj
          · trivial
        have hone' := hone
        rw [aoper_env (e' := (es l.length).keep s.reads) fun t ht' => by rw [Env.get_keep_mem, if_pos ht']] at hone'
        unfold wpOp
        rw [ho]
        subst hoo
        refine aoper_wp (hr := hs l.length) (n0 := 0) hE hcos hone' henv hinv (fun _ _ h => h) (by rw [hsslot]; trivial) ?_
        intro V w' μ' hle hv' hinv' hkeep
        rw [hsslot] at hkeep
        have halso := listed_set (listed := listed) (i := l.length) (by omega)
        refine main2 fuel (listed.setIfInBounds l.length true) _ w' μ' (by simpa using hls) (by have := left_set hin hls h3; omega) ?_ ?_ ?_ hclosed' ?_
        · have := congrFun halso l.length
          try simp only at this
          rw [this]; exact also_self _ _
        · intro k hk hkn
          have := congrFun halso k
          try simp only at this
          rw [this, also_of _ _ (by omega)]
          exact hbeyond k (by omega) hkn
        · intro k ak hak hdk
          have hkl := (List.getElem?_eq_some_iff.1 hak).1
          have := congrFun halso k
          try simp only at this
          rw [this, also_of _ _ (by omega)] at hdk
          exact hdone k ak hak hdk
        · have hsame : ∀ k : Nat, k < l.length → (listed.setIfInBounds l.length true).getD k false = listed.getD k false := by
            intro k hkl
            have := congrFun halso k
            try simp only at this
            rw [this, also_of _ _ (by omega)]
          refine ⟨?_, ?_, ?_, hinv', Mu.le_trans S.le hle, ?_, by rw [Act.size_put]; exact S.size, by rw [put_defers]; exact S.defers⟩
          · intro k ak d hak hdk hd
            have hkl := (List.getElem?_eq_some_iff.1 hak).1
            try simp only at hdk
            rw [hsame k hkl] at hdk
            rw [getD_put (by rw [hsdst.1]; exact fun h => hdist k ak d hak h hd)]
            exact (S.envD k ak d hak hdk hd).mono hle
          · intro t hno hst
            rw [getD_put (by rw [hsdst.1]; exact hst)]
            refine (S.envO t fun k ak hak hdk => hno k ak hak ?_).mono hle
            have hkl := (List.getElem?_eq_some_iff.1 hak).1
            try simp only
            rw [hsame k hkl]; exact hdk
          · intro d hd
            rw [hsdst.1, hd, getD_put_same (by rw [← hd, ← hsdst.1]; exact hsdst.2) S.size]
            exact hv'
          · intro id hid
            rw [← S.keep id hid]
            exact hkeep id (by omega) fun j hj => by cases hj
  have hgd : ∀ i : Nat, (Array.replicate ops.size false).getD i false = false := by intro i; simp [Array.getD]
  have hfun : (fun i => (Array.replicate ops.size false).getD i false) = fun _ => false := funext hgd
  refine main ops.size (Array.replicate ops.size false) a _ 0 μ0 (by simp) ?_ (fun j _ _ => hgd j) (fun i o _ hd => by rw [hgd] at hd; cases hd) ?_
  · unfold left; exact Nat.le_trans (List.length_filter_le _ _) (by simp)
  · rw [hfun]
    have hpad : HD (hs l.length) (und l h.length fun _ => false) (hs 0).length = h ++ List.replicate m none := by
      rw [h0]
      refine heap_ext (by rw [HD_length]) fun id hid => ?_
      rw [HD_length] at hid
      rw [rd_HD]
      by_cases ho : ∃ i, Owns l h.length i id
      · obtain ⟨i, ho⟩ := ho
        have hu : und l h.length (fun _ => false) id = true := und_iff.2 ⟨i, rfl, ho⟩
        rw [hu]
        have := own_none D ht h0 ho 0 (Nat.zero_le _)
        rw [h0] at this
        rw [this]; simp
      · have hno : ∀ i, 0 ≤ i → ¬ Owns l h.length i id := fun i _ hi => ho ⟨i, hi⟩
        have hu : und l h.length (fun _ => false) id = false := by
          cases hu : und l h.length (fun _ => false) id with
          | false => rfl
          | true => obtain ⟨i, _, hi⟩ := und_iff.1 hu; exact absurd ⟨i, hi⟩ ho
        rw [if_pos ⟨hid, hu⟩]
        have := own_keep D ht (k := 0) (id := id) (by rw [h0]; exact hid) hno l.length (by omega)
        rw [Nat.zero_add, h0] at this
        exact this
    refine ⟨Nat.zero_le _, fun i ao _ _ => ⟨fun h => (by cases h), fun h => (by omega)⟩, fun i ao d _ h => (by cases h), fun t _ => hs0 t, ?_, fun id hid => ?_, Mu.le_refl _, fun _ _ => rfl, hN, hd⟩
    · rw [hpad]
      exact (hi.pad m).world rfl rfl rfl fun _ _ => rfl
    · obtain ⟨i, _, ao, j, _, _, rfl⟩ := und_iff.1 hid
      exact hi.dom _ (by omega)

end Go.Esc
end
section
namespace Go.Esc
open Go

def chkAll (P : Program) (N : Nat) (ops : Array Oper) : List Oper → List AOper → Bool
  | [], [] => true
  | o :: r, a :: l => chkOper P N ops o a && decide (a.slot = none) && chkAll P N ops r l
  | _, _ => false

def chkCode (P : Program) (N : Nat) : Code → ACode → Bool
  | c, .skip => (match c with | .skip => true | _ => false)
  | c, .ops l => (match c with | .region _ ops false => chkAll P N ops ops.toList l | _ => false)
  | c, .draw m l r => (match c with | .region _ ops true => chkDraw P N ops m l r && chkLast ops l.length r.length | _ => false)
  | c, .drawS m l s chk r => (match c with | .region _ ops true => chkDraw P N ops m l (s :: r) && chkS ops l s chk r | _ => false)
  | c, .seq _ a b => (match c with | .seq x y => chkCode P N x a && chkCode P N y b | _ => false)
  | c, .cond q a b => (match c with | .cond z x y => chkOpd' z q && chkCode P N x a && chkCode P N y b | _ => false)
  | c, .block id a => (match c with | .block id' x => decide (id' = id) && chkCode P N x a | _ => false)
  | c, .loop _ a => (match c with | .loop x => chkCode P N x a | _ => false)
  | c, .exit id => (match c with | .exit id' => decide (id' = id) | _ => false)
  | c, .ret => (match c with | .ret => true | _ => false)

def chkRes (P : Program) : List ResultVar → List ARes → Bool
  | [], [] => true
  | .tmp t :: r, .tmp t' :: l => decide (t = t') && chkRes P r l
  | .cell t ty :: r, .cell1 t' :: l => decide (t = t') && decide (aggB P ty = some false) && chkRes P r l
  | .cell t ty :: r, .cellN t' n :: l => decide (t = t') && decide (aggB P ty = some true) && decide (sizeB P ty = some n) && chkRes P r l
  | _, _ => false

def chkFn (P : Program) (fn : Func) (f : AFn) : Bool :=
  (match fn.body with | some c => chkCode P fn.ntmps c f.code | none => false) && chkRes P fn.results.toList f.res && !(fn.name == "runtime.NumGoroutine")

section
variable {P : Program} {R : Type}

theorem chkAll_ok {N : Nat} {ops : Array Oper} : ∀ (pre : List Oper) (os : List Oper) (aos : List AOper), ops.toList = pre ++ os → chkAll P N ops os aos = true →
    All2 (fun i ao => ∃ o, ops[i]? = some o ∧ chkOper P N ops o ao = true ∧ ao.slot = none) (List.range' pre.length os.length) aos
  | pre, [], [], _, _ => trivial
  | pre, o :: os, ao :: aos, he, hc => by
    simp only [chkAll, Bool.and_eq_true, decide_eq_true_eq] at hc
    rw [List.length_cons, List.range'_succ]
    refine ⟨⟨o, ?_, hc.1.1, hc.1.2⟩, ?_⟩
    · rw [← Array.getElem?_toList, he]; simp
    · have := chkAll_ok (pre ++ [o]) os aos (by rw [he]; simp) hc.2
      simpa using this
  | _, [], _ :: _, _, h => by simp [chkAll] at h
  | _, _ :: _, [], _, h => by simp [chkAll] at h

theorem StepsTo.keep {N L : Nat} {W : (Exit → Act → World → Prop) → Act → World → Prop} {e : Env} {h : Heap} {x : AExit} {e' : Env} {h' : Heap} (l : List Nat) (hs : StepsTo P N L W (e.keep l) h x e' h') : StepsTo P N L W e h x e' h' :=
  fun Γ μ a w h1 => hs Γ μ a w (h1.keep l)

theorem aex_ok {N L : Nat} {E : Sums} (hE : Sound P E) (n : Nat) : ∀ (ac : ACode) (c : Code) (k : AExit → Env → Heap → Option R) (e : Env) (h : Heap) (r : R),
    chkCode P N c ac = true → aex E n ac k e h = some r → L ≤ h.length → ∃ x e' h', k x e' h' = some r ∧ L ≤ h'.length ∧ StepsTo P N L (c.wp P) e h x e' h' := by
  intro ac
  induction ac with
  | skip =>
    intro c k e h r hc hres hL
    unfold chkCode at hc
    split at hc
    · exact ⟨.normal, e, h, hres, hL, fun Γ μ a w hs hi hN hd Q hq => wp_skip (hq μ a w (Mu.le_refl _) (fun _ _ => rfl) hs hi hN hd)⟩
    · cases hc
  | ops l =>
    intro c k e h r hc hres hL
    unfold chkCode at hc
    split at hc
    · rename_i id ops
      simp only [aex, smOps] at hres
      obtain ⟨e', h', hk, hL', hst⟩ := aops_ok hE _ l e h _ r (chkAll_ok [] ops.toList l rfl hc) hres hL
      refine ⟨.normal, e', h', hk, hL', fun Γ μ a w hs hi hN hd Q hq => wp_region ?_⟩
      have := hst Γ μ a w hs hi hN hd Q hq
      simpa [List.range_eq_range'] using this
    · cases hc
  | draw m l r' =>
    intro c k e h r hc hres hL
    unfold chkCode at hc
    split at hc
    · rename_i id ops
      simp only [aex, smDraw] at hres
      rw [Bool.and_eq_true] at hc
      obtain ⟨e', h', hk, hL', hst⟩ := draw_ok (id := id) hE hc.1 hc.2 hL hres
      exact ⟨.normal, e', h', hk, hL', hst⟩
    · cases hc
  | drawS m l s chk r' =>
    intro c k e h r hc hres hL
    unfold chkCode at hc
    split at hc
    · rename_i id ops
      simp only [aex, smDrawS] at hres
      rw [Bool.and_eq_true] at hc
      obtain ⟨e', h', hk, hL', hst⟩ := drawS_ok (id := id) hE hc.1 hc.2 hL hres
      exact ⟨.normal, e', h', hk, hL', hst⟩
    · cases hc
  | seq keep a b iha ihb =>
    intro c k e h r hc hres hL
    unfold chkCode at hc
    split at hc
    · rename_i x y
      simp only [Bool.and_eq_true] at hc
      simp only [aex, smSeq] at hres
      obtain ⟨x1, e1, h1, hk1, hL1, hst1⟩ := iha x _ e h r hc.1 hres hL
      cases x1 with
      | normal =>
        simp only [hold] at hk1
        obtain ⟨x2, e2, h2, hk2, hL2, hst2⟩ := ihb y k (e1.keep keep) h1 r hc.2 hk1 hL1
        refine ⟨x2, e2, h2, hk2, hL2, fun Γ μ a w hs hi hN hd Q hq => wp_seq (hst1 Γ μ a w hs hi hN hd _ ?_)⟩
        intro μ1 a1 w1 g1 g2 g3 g4 g5 g6
        exact hst2 Γ μ1 a1 w1 (g3.keep keep) g4 g5 g6 Q fun μ2 a2 w2 f1 f2 f3 f4 f5 f6 => hq μ2 a2 w2 (Mu.le_trans g1 f1) (fun id hid => (f2 id hid).trans (g2 id hid)) f3 f4 f5 f6
      | exit id => exact ⟨.exit id, e1, h1, hk1, hL1, fun Γ μ a w hs hi hN hd Q hq => wp_seq (hst1 Γ μ a w hs hi hN hd _ hq)⟩
      | ret => exact ⟨.ret, e1, h1, hk1, hL1, fun Γ μ a w hs hi hN hd Q hq => wp_seq (hst1 Γ μ a w hs hi hN hd _ hq)⟩
    · cases hc
  | cond q a b iha ihb =>
    intro c k e h r hc hres hL
    unfold chkCode at hc
    split at hc
    · rename_i z x y
      simp only [Bool.and_eq_true] at hc
      simp only [aex, smCond, cnd] at hres
      split at hres
      · rename_i t heq
        have hz : ∀ {μ : Mu} {a : Act}, SEnv μ e a → a.eval z = .bool t := by
          intro μ a hs
          have : RV μ _ _ := chkOpd_ok hc.1.1 hs
          rw [heq] at this
          exact this
        cases t with
        | true =>
          obtain ⟨x1, e1, h1, hk1, hL1, hst1⟩ := iha x k e h r hc.1.2 hres hL
          exact ⟨x1, e1, h1, hk1, hL1, fun Γ μ a w hs hi hN hd Q hq => wp_cond_true (hz hs) (hst1 Γ μ a w hs hi hN hd Q hq)⟩
        | false =>
          obtain ⟨x1, e1, h1, hk1, hL1, hst1⟩ := ihb y k e h r hc.2 hres hL
          exact ⟨x1, e1, h1, hk1, hL1, fun Γ μ a w hs hi hN hd Q hq => wp_cond_false (hz hs) (hst1 Γ μ a w hs hi hN hd Q hq)⟩
      · cases hres
    · cases hc
  | block id a iha =>
    intro c k e h r hc hres hL
    unfold chkCode at hc
    split at hc
    · rename_i id' x
      simp only [Bool.and_eq_true, decide_eq_true_eq] at hc
      obtain ⟨rfl, hc⟩ := hc
      simp only [aex, smBlock] at hres
      obtain ⟨x1, e1, h1, hk1, hL1, hst1⟩ := iha x _ e h r hc hres hL
      cases x1 with
      | normal => exact ⟨.normal, e1, h1, hk1, hL1, fun Γ μ a w hs hi hN hd Q hq => wp_block (hst1 Γ μ a w hs hi hN hd _ hq)⟩
      | exit i =>
        simp only at hk1
        cases hb : Nat.beq i id' with
        | true =>
          rw [hb] at hk1
          have hi' := Nat.eq_of_beq_eq_true hb
          subst hi'
          exact ⟨.normal, e1, h1, hk1, hL1, fun Γ μ a w hs hi hN hd Q hq => wp_block (hst1 Γ μ a w hs hi hN hd _ fun μ1 a1 w1 g1 g2 g3 g4 g5 g6 => by
            show (if i = i then Q .normal a1 w1 else _)
            rw [if_pos rfl]
            exact hq μ1 a1 w1 g1 g2 g3 g4 g5 g6)⟩
        | false =>
          rw [hb] at hk1
          have hne : i ≠ id' := by intro e; subst e; simp at hb
          exact ⟨.exit i, e1, h1, hk1, hL1, fun Γ μ a w hs hi hN hd Q hq => wp_block (hst1 Γ μ a w hs hi hN hd _ fun μ1 a1 w1 g1 g2 g3 g4 g5 g6 => by
            show (if i = id' then _ else Q (.exit i) a1 w1)
            rw [if_neg hne]
            exact hq μ1 a1 w1 g1 g2 g3 g4 g5 g6)⟩
      | ret => exact ⟨.ret, e1, h1, hk1, hL1, fun Γ μ a w hs hi hN hd Q hq => wp_block (hst1 Γ μ a w hs hi hN hd _ hq)⟩
    · cases hc
  | loop keep a iha =>
    intro c k e h r hc hres hL
    unfold chkCode at hc
    split at hc
    · rename_i x
      simp only [aex, smLoop] at hres
      have key : ∀ (m : Nat) (e : Env) (h : Heap), around (aex E n a) keep k m e h = some r → L ≤ h.length →
          ∃ x1 e' h', k x1 e' h' = some r ∧ L ≤ h'.length ∧ StepsTo P N L (fun Q => Code.rounds P x Q m) e h x1 e' h' := by
        intro m
        induction m with
        | zero => intro e h hres; rw [around_zero] at hres; cases hres
        | succ m ih =>
          intro e h hres hL
          rw [around_succ] at hres
          obtain ⟨x1, e1, h1, hk1, hL1, hst1⟩ := iha x _ e h r hc hres hL
          cases x1 with
          | normal =>
            simp only at hk1
            obtain ⟨x2, e2, h2, hk2, hL2, hst2⟩ := ih (e1.keep keep) h1 hk1 hL1
            refine ⟨x2, e2, h2, hk2, hL2, fun Γ μ a w hs hi hN hd Q hq => ?_⟩
            show Code.rounds P x Q (m + 1) a w
            rw [rounds_succ]
            refine hst1 Γ μ a w hs hi hN hd _ ?_
            intro μ1 a1 w1 g1 g2 g3 g4 g5 g6
            exact hst2 Γ μ1 a1 w1 (g3.keep keep) g4 g5 g6 Q fun μ2 a2 w2 f1 f2 f3 f4 f5 f6 => hq μ2 a2 w2 (Mu.le_trans g1 f1) (fun id hid => (f2 id hid).trans (g2 id hid)) f3 f4 f5 f6
          | exit id => exact ⟨.exit id, e1, h1, hk1, hL1, fun Γ μ a w hs hi hN hd Q hq => by
              show Code.rounds P x Q (m + 1) a w
              rw [rounds_succ]
              exact hst1 Γ μ a w hs hi hN hd _ hq⟩
          | ret => exact ⟨.ret, e1, h1, hk1, hL1, fun Γ μ a w hs hi hN hd Q hq => by
              show Code.rounds P x Q (m + 1) a w
              rw [rounds_succ]
              exact hst1 Γ μ a w hs hi hN hd _ hq⟩
      obtain ⟨x1, e1, h1, hk1, hL1, hst1⟩ := key n (e.keep keep) h hres hL
      exact ⟨x1, e1, h1, hk1, hL1, fun Γ μ a w hs hi hN hd Q hq => wp_loop_rounds n (hst1 Γ μ a w (hs.keep keep) hi hN hd Q hq)⟩
    · cases hc
  | exit id =>
    intro c k e h r hc hres hL
    unfold chkCode at hc
    split at hc
    · simp at hc
      subst hc
      exact ⟨.exit _, e, h, hres, hL, fun Γ μ a w hs hi hN hd Q hq => wp_exit (hq μ a w (Mu.le_refl _) (fun _ _ => rfl) hs hi hN hd)⟩
    · cases hc
  | ret =>
    intro c k e h r hc hres hL
    unfold chkCode at hc
    split at hc
    · exact ⟨.ret, e, h, hres, hL, fun Γ μ a w hs hi hN hd Q hq => wp_ret (hq μ a w (Mu.le_refl _) (fun _ _ => rfl) hs hi hN hd)⟩
    · cases hc

def oneRes (tmps : Array Value) : ResultVar → Sem Value
  | .tmp t => pure (tmps.getD t undef)
  | .cell a t => do loadVar t (← asAddr (tmps.getD a undef))

theorem oneRes_ok {Γ : Ctx} {μ : Mu} {e : Env} {h : Heap} {a : Act} {w : World} {q : ResultVar} {q' : ARes} {v : Val} (hs : SEnv μ e a) (hi : Inv Γ μ h w) (hc : chkRes P [q] [q'] = true) (hv : ares e h q' = some v) :
    ∃ V, (oneRes a.tmps q).run P w = .ok V w ∧ RV μ v V := by
  cases q with
  | tmp t =>
    cases q' with
    | tmp t' =>
      simp [chkRes] at hc; subst hc
      simp [ares] at hv; subst hv
      exact ⟨_, rfl, hs t⟩
    | cell1 t' => simp [chkRes] at hc
    | cellN t' n => simp [chkRes] at hc
  | cell t ty =>
    cases q' with
    | tmp t' => simp [chkRes] at hc
    | cell1 t' =>
      simp [chkRes] at hc
      obtain ⟨rfl, hagg⟩ := hc
      simp only [ares] at hv
      obtain ⟨V, h1, h2⟩ := run_load1 (P := P) (w := w) hagg hi.rows (hs t) hv
      refine ⟨V, ?_, h2⟩
      rw [← h1]
      have : ∃ b, a.tmps.getD t undef = .pointer (some b) := by
        unfold aload1 at hv
        split at hv
        · rename_i heq
          have := hs t
          rw [heq] at this
          obtain ⟨b, n, _, h3⟩ := this
          exact ⟨_, h3⟩
        · cases hv
      obtain ⟨b, hb⟩ := this
      simp only [oneRes, hb, Instr.loadAt, asAddr, Instr.sureAddr, pure_bind]
    | cellN t' n =>
      simp [chkRes] at hc
      obtain ⟨⟨rfl, hagg⟩, hsz⟩ := hc
      simp only [ares] at hv
      obtain ⟨V, h1, h2⟩ := run_loadN (P := P) (w := w) hagg hsz hi.rows (hs t) hv
      refine ⟨V, ?_, h2⟩
      rw [← h1]
      have : ∃ b, a.tmps.getD t undef = .pointer (some b) := by
        unfold aloadN at hv
        split at hv
        · rename_i heq
          have := hs t
          rw [heq] at this
          obtain ⟨b, n, _, h3⟩ := this
          exact ⟨_, h3⟩
        · cases hv
      obtain ⟨b, hb⟩ := this
      simp only [oneRes, hb, Instr.loadAt, asAddr, Instr.sureAddr, pure_bind]

theorem chkRes_cons {q : ResultVar} {r : List ResultVar} {q' : ARes} {l : List ARes} (h : chkRes P (q :: r) (q' :: l) = true) : chkRes P [q] [q'] = true ∧ chkRes P r l = true := by
  cases q <;> cases q' <;> simp_all [chkRes]

theorem allRes_ok {Γ : Ctx} {μ : Mu} {e : Env} {h : Heap} {a : Act} {w : World} (hs : SEnv μ e a) (hi : Inv Γ μ h w) : ∀ {qs : List ResultVar} {ls : List ARes} {ps : List Part}, chkRes P qs ls = true → aress e h ls = some ps →
    ∃ Vs : List Value, (qs.mapM (oneRes a.tmps)).run P w = .ok Vs w ∧ All2 (RP μ) ps Vs
  | [], [], ps, _, hv => by simp [aress] at hv; subst hv; exact ⟨[], rfl, trivial⟩
  | q :: qs, q' :: ls, ps, hc, hv => by
    simp only [aress, Option.bind_eq_some_iff, Option.map_eq_some_iff] at hv
    obtain ⟨v, hv1, p, hp, l, hl, rfl⟩ := hv
    obtain ⟨h1, h2⟩ := chkRes_cons hc
    obtain ⟨V, h3, h4⟩ := oneRes_ok hs hi h1 hv1
    obtain ⟨Vs, h5, h6⟩ := allRes_ok hs hi h2 hl
    refine ⟨V :: Vs, ?_, RP.ofVal h4 hp, h6⟩
    rw [List.mapM_cons]
    simp [h3, h5]
  | [], _ :: _, _, h, _ => by simp [chkRes] at h
  | _ :: _, [], _, h, _ => by simp [chkRes] at h

theorem results_run {fn : Func} {tmps : Array Value} {w : World} : (results fn tmps).run P w = ((fn.results.toList.mapM (oneRes tmps)).run P w).andThen fun vs w => .ok (if h : vs.toArray.size = 1 then vs.toArray[0] else .tuple vs.toArray) w := by
  unfold results
  rw [Array.mapM_eq_mapM_toList]
  simp only [Sem.run_bind, Sem.run_map]
  have key : ∀ g : ResultVar → Sem Value, (∀ q, g q = oneRes tmps q) → ((((List.mapM g fn.results.toList).run P w).andThen fun a w' => Result.ok a.toArray w').andThen fun a w' => (pure (if h : a.size = 1 then a[0] else Value.tuple a) : Sem Value).run P w') =
      ((fn.results.toList.mapM (oneRes tmps)).run P w).andThen fun vs w => .ok (if h : vs.toArray.size = 1 then vs.toArray[0] else .tuple vs.toArray) w := by
    intro g hg
    rw [funext hg]
    cases (fn.results.toList.mapM (oneRes tmps)).run P w <;> rfl
  exact key _ fun q => by cases q <;> rfl

theorem aresult_ok {Γ : Ctx} {μ : Mu} {e : Env} {h h' : Heap} {a : Act} {w : World} {fn : Func} {rs : List ARes} {v : Val} (hs : SEnv μ e a) (hi : Inv Γ μ h w) (hc : chkRes P fn.results.toList rs = true) (hv : aresult rs e h = some (v, h')) :
    ∃ V, (results fn a.tmps).run P w = .ok V w ∧ RV μ v V ∧ h' = h := by
  rw [results_run]
  unfold aresult at hv
  split at hv
  · rename_i q'
    simp only [Option.map_eq_some_iff, Prod.mk.injEq] at hv
    obtain ⟨_, h1, rfl, rfl⟩ := hv
    cases hq : fn.results.toList with
    | nil => rw [hq] at hc; simp [chkRes] at hc
    | cons q r =>
      cases r with
      | cons q2 r => rw [hq] at hc; have := (chkRes_cons hc).2; simp [chkRes] at this
      | nil =>
        rw [hq] at hc
        obtain ⟨V, h3, h4⟩ := oneRes_ok hs hi hc h1
        refine ⟨V, ?_, h4, rfl⟩
        rw [List.mapM_cons]
        simp [h3]
  · rename_i hne
    simp only [Option.map_eq_some_iff, Prod.mk.injEq] at hv
    obtain ⟨l, h1, rfl, rfl⟩ := hv
    obtain ⟨Vs, h3, h4⟩ := allRes_ok hs hi hc h1
    refine ⟨.tuple Vs.toArray, ?_, ⟨Vs, rfl, h4⟩, rfl⟩
    rw [h3]
    have hl : Vs.length ≠ 1 := by
      rw [← h4.length]
      intro h0
      have : ∀ (ls : List ARes) (ps : List Part), aress e h ls = some ps → ls.length = ps.length := by
        intro ls
        induction ls with
        | nil => intro ps h; simp [aress] at h; subst h; rfl
        | cons x r ih =>
          intro ps h
          simp only [aress, Option.bind_eq_some_iff, Option.map_eq_some_iff] at h
          obtain ⟨_, _, _, _, l', hl', rfl⟩ := h
          simp [ih l' hl']
      have h5 := this _ _ h1
      rw [h0] at h5
      cases rs with
      | nil => simp at h5
      | cons q r =>
        cases r with
        | nil => exact hne q rfl
        | cons _ _ => simp at h5
    simp [hl]

theorem params_get : ∀ (args : List Val) (i t : Nat), (params i args).get t = if i ≤ t then (args[t - i]?).getD .un else .un
  | [], i, t => by simp [params, Env.get]
  | v :: r, i, t => by
    simp only [params, Env.get]
    by_cases h : i = t
    · subst h; simp
    · have hb : Nat.beq i t = false := by cases hb : Nat.beq i t with
        | false => rfl
        | true => exact absurd (Nat.eq_of_beq_eq_true hb) h
      rw [hb, cond_false, params_get r (i + 1) t]
      by_cases h2 : i ≤ t
      · have : t - i = (t - (i + 1)) + 1 := by omega
        rw [if_pos h2, if_pos (by omega), this, List.getElem?_cons_succ]
      · rw [if_neg h2, if_neg (by omega)]

theorem fn_ok {E : Sums} (hE : Sound P E) {f : FuncId} {fn : Func} {af : AFn} (hf : P.funcs[f]? = some fn) (hc : chkFn P fn af = true) {n : Nat} {args : List Val} {h h' : Heap} {v : Val} (hres : af.run E n args h = some (v, h')) :
    Callable P f ∧ CallOk P f args h v h' ∧ h.length ≤ h'.length := by
  simp only [chkFn, Bool.and_eq_true, Bool.not_eq_true'] at hc
  obtain ⟨⟨hb, hr⟩, hname⟩ := hc
  cases hbody : fn.body with
  | none => rw [hbody] at hb; cases hb
  | some c =>
    rw [hbody] at hb
    unfold AFn.run at hres
    obtain ⟨x, e', h1, hk, hL, hst⟩ := aex_ok (L := h.length) hE n af.code c af.fin (params 0 args) h (v, h') hb hres (Nat.le_refl _)
    have hlen : h.length ≤ h'.length := by
      cases x with
      | normal => simp only [AFn.fin] at hk; unfold aresult at hk; split at hk <;> simp at hk <;> obtain ⟨_, _, _, rfl⟩ := hk <;> exact hL
      | ret => simp only [AFn.fin] at hk; unfold aresult at hk; split at hk <;> simp at hk <;> obtain ⟨_, _, _, rfl⟩ := hk <;> exact hL
      | exit => simp [AFn.fin] at hk
    refine ⟨⟨fn, hf, hname, by simp [hbody]⟩, ?_, hlen⟩
    intro Γ μ w V hi hargs
    refine calls_of_wp hf hbody ?_
    refine hst Γ μ _ w ?_ hi ?_ rfl _ ?_
    · intro t
      rw [params_get]
      simp only [Nat.zero_le, if_true, Nat.sub_zero]
      cases ha : args[t]? with
      | none => trivial
      | some x =>
        obtain ⟨X, h2, h3⟩ := hargs.get t x ha
        have hlt := (List.getElem?_eq_some_iff.1 h2).1
        have : (V.toArray ++ Array.replicate (fn.ntmps - V.toArray.size) undef).getD t undef = X := by
          rw [Array.getD_eq_getD_getElem?, Array.getElem?_append_left (by simpa using hlt)]
          simp [h2]
        rw [this]
        exact h3
    · simp; omega
    · intro μ' a' w' g1 g2 g3 g4 g5 g6
      have fin : ∀ hk : aresult af.res e' h1 = some (v, h'), a'.defers = [] ∧ ∃ v_1, (results fn a'.tmps).run P w' = .ok v_1 w' ∧ ∃ V' μ', Ending.returned v_1 = .returned V' ∧ μ.le μ' ∧ RV μ' v V' ∧ Inv Γ μ' h' w' ∧ ∀ id, id < h.length → μ' id = μ id := by
        intro hk
        obtain ⟨V', h2, h3, h4⟩ := aresult_ok g3 g4 hr hk
        subst h4
        exact ⟨g6, V', h2, V', μ', rfl, g1, h3, g4, g2⟩
      cases x with
      | normal => exact fin hk
      | ret => exact fin hk
      | exit => simp [AFn.fin] at hk

end
end Go.Esc
end
section
namespace Go.Esc
open Go Go.ChangeShapes Go.WideShapes Go.ChangeAt Go.RowKit

def ctxOf (W : World) : Ctx := ⟨fun b => W.heap[b]?, W.os, W.tape, W.output⟩

theorem below_of_ctx {W w : World} (h : (ctxOf W).ok w) : Below W.heap.size W w := by
  have hb : ∀ k, k < W.heap.size → w.heap[k]? = W.heap[k]? := by
    intro k hk
    have e : W.heap[k]? = some W.heap[k] := by simp [hk]
    rw [e]
    exact h.block k _ e
  refine ⟨h.os, h.tape, h.output, ?_, hb⟩
  rcases Nat.eq_zero_or_pos W.heap.size with h0 | h0
  · omega
  · have := hb (W.heap.size - 1) (by omega)
    have e : W.heap[W.heap.size - 1]? = some (W.heap[W.heap.size - 1]'(by omega)) := by simp
    rw [e] at this
    have := (Array.getElem?_eq_some_iff.1 this).1
    omega

theorem kept_of_below {W w : World} {may : MemPlace → Prop} (h : Below W.heap.size W w) : W.keptBut w may := by
  refine ⟨h.os, h.output, fun i hi => ?_⟩
  rw [h.block i hi]
  cases W.heap[i]? with
  | none => rfl
  | some o => cases o <;> simp

section
variable {H : Type} {enc : TypeId × Value → H} {P : Program}

theorem args_stay (hl : laidOutB P = true) {W W' : World} (hb : Below W.heap.size W W') : ∀ {ts : List TypeId} {vs : List Value} {ds : List (DataW H)} {ps : List MemPlace},
    (∀ t ∈ ts, P.readableRec t = true ∧ t < P.types.size) → (∀ x ∈ ps, x.block < W.heap.size) → DataW.TrodAll enc P W 0 (fun _ => true) true ts vs ds ps → DataW.TrodAll enc P W' 0 (fun b => decide (b < W.heap.size)) true ts vs ds ps
  | [], [], [], _, _, _, h => h
  | t :: ts, v :: vs, d :: ds, _, hts, hlt, ⟨p, q, h1, h2, e⟩ => by
    subst e
    exact ⟨p, q, Below.trod hl (hts t (by simp)).1 (hts t (by simp)).2 h1 hb (fun x hx => hlt x (List.mem_append_left _ hx)), args_stay hl hb (fun t ht => hts t (by simp [ht])) (fun x hx => hlt x (List.mem_append_right _ hx)) h2, rfl⟩
  | [], _ :: _, _, _, _, _, h => by cases h
  | [], [], _ :: _, _, _, _, h => by cases h
  | _ :: _, [], _, _, _, _, h => by cases h
  | _ :: _, _ :: _, [], _, _, _, h => by cases h

theorem post_true {f : Func} {s : ChangeSpec} {apart : Bool} {tb : TypeId} {W W' : World} {args : Array Value} {ds gs : List (DataW H)} {before : List MemPlace}
    (hl : laidOutB P = true) (hts : ∀ t ∈ f.params.toList, P.readableRec t = true ∧ t < P.types.size) (hr : f.resultTypes = #[tb]) (hb : P.underlying tb = some .bool) (hv : s.vars = [])
    (hs : ∀ ds : List (DataW H), ds.length = f.params.toList.length → s.fn H ds = { results := [.lit (.bool true)], args := ds })
    (hW : DataW.Whole enc P f.params.toList s.vars apart W args.toList ds gs before) (hB : Below W.heap.size W W') :
    s.post enc P f apart true false false W args (.bool true) W' := by
  have hlt := hW.lt
  obtain ⟨p, q, h1, h2, h3, h4, h5⟩ := id hW
  rw [hv] at h2
  obtain ⟨rfl, rfl⟩ := trodVars_none h2
  rw [List.append_nil] at h3
  subst h3
  have hd : ds.length = f.params.toList.length := (trodAll_length h1).2
  have hfn : s.fn H (ds ++ []) = { results := [.lit (.bool true)], args := ds } := by rw [List.append_nil]; exact hs ds hd
  refine ⟨ds, [], before, [], before, [], hW, ?_, ?_, ?_, World.keptBut_mono (fun _ h => h) (kept_of_below hB), fun h => by cases h⟩
  · rw [hfn, hr]
    exact trodAll_mk1 (shut_bool hb true)
  · rw [hfn]
    exact args_stay hl hB hts hlt h1
  · rw [hfn, hv]
    exact rfl

end

theorem row_true {C : Checked} {os : Os} {H : Type} {enc : TypeId × Value → H} {f : FuncId} {fn : Func} {s : ChangeSpec} {conds : List PathCond} {tb : TypeId}
    (own : ownKnob C.prog.godebug = none) (started : os.Started) (noInit : C.prog.inits.idxOf? f = none) (hfn : C.prog.funcs[f]? = some fn)
    (witness : ∃ (w : World) (tape : Tape) (i : Input), w.os = os ∧ (w.forCall tape i).Shaped C.prog ∧ i.vars = [] ∧ Input.okWide C.prog (w.forCall tape i) .any w.heap.size f i ∧
      s.pre6 enc C.prog fn conds false (w.forCall tape i).memory i.args ∧ Assume.holds {} C.prog (lone (Frame.enter C.prog f i.args .normal) [] (w.forCall tape i)))
    (hl : laidOutB C.prog = true) (hts : ∀ t ∈ fn.params.toList, C.prog.readableRec t = true ∧ t < C.prog.types.size) (hr : fn.resultTypes = #[tb]) (hb : C.prog.underlying tb = some .bool) (hv : s.vars = [])
    (hs : ∀ ds : List (DataW H), ds.length = fn.params.toList.length → s.fn H ds = { results := [.lit (.bool true)], args := ds })
    (walk : ∀ (W : World) (base : Nat) (args : Array Value) (ds : List (DataW H)) (ps : List MemPlace),
      (∀ (j : Nat) t v, fn.params[j]? = some t → args[j]? = some v → Value.okWide C.prog W .any base t v) →
      DataW.TrodAll enc C.prog W 0 (fun _ => true) true fn.params.toList args.toList ds ps →
      ∃ vals h μ h', Inv (ctxOf W) μ h W ∧ All2 (RV μ) vals args.toList ∧ CallOk C.prog f vals h (.c (.b true)) h') :
    ReturnsInHanded {} C os f .any (s.pre6 enc C.prog fn conds false) (s.post enc C.prog fn false true false false) := by
  refine returnsInHanded_of_change own started noInit hfn witness ?_
  intro W base args ds gs before hval hW _ _
  obtain ⟨p, q, hA, _⟩ := id hW
  obtain ⟨vals, h, μ, h', hi, hv2, hc⟩ := walk W base args ds p (fun j t v h1 h2 => hval j t v h1 h2) hA
  refine (hc (ctxOf W) μ W args.toList hi hv2).mono fun e W' ⟨V', μ', he, _, hV, hi', _⟩ => ?_
  have : V' = .bool true := hV
  subst this
  exact ⟨_, he, post_true hl hts hr hb hv hs hW (below_of_ctx hi'.ctx)⟩

theorem Inv.nought (W : World) : Inv (ctxOf W) (fun _ => Option.none) [] W where
  rows := fun id r h => by simp [rd] at h
  sep := fun id id' r r' x x' h => by simp [rd] at h
  own := fun id r x h => by simp [rd] at h
  dom := fun _ _ => rfl
  ctx := ⟨rfl, rfl, rfl, fun _ _ h => h⟩

end Go.Esc
end
section
namespace Go.Esc
open Go

variable {R : Type} {E : Sums}

theorem aop_mono {q : Bool} {hr : Heap} {n0 : Nat} {slot : Option Nat} {o : AOp} {e : Env} {h : Heap} {k k' : Val → Heap → Option R} (hk : ∀ v h p, k v h = some p → k' v h = some p) {p : R}
    (hp : aop E q hr n0 slot o e h k = some p) : aop E q hr n0 slot o e h k' = some p := by
  cases o <;> simp only [aop, Option.bind_eq_some_iff] at hp ⊢ <;> first | exact hk _ _ _ hp | (obtain ⟨x, hx, hp⟩ := hp; exact ⟨x, hx, hk _ _ _ hp⟩)

theorem aoper_mono {q : Bool} {hr : Heap} {n0 : Nat} {o : AOper} {e : Env} {h : Heap} {k k' : Val → Heap → Option R} (hk : ∀ v h p, k v h = some p → k' v h = some p) {p : R}
    (hp : aoper E q hr n0 o e h k = some p) : aoper E q hr n0 o e h k' = some p := by
  unfold aoper at hp ⊢
  cases hg : o.guard with
  | none => rw [hg] at hp; exact aop_mono hk hp
  | some g =>
    rw [hg] at hp
    simp only [Option.bind_eq_some_iff] at hp ⊢
    obtain ⟨x, hx, hp⟩ := hp
    exact ⟨x, hx, hk _ _ _ hp⟩

theorem aops_mono {k k' : Env → Heap → Option R} (hk : ∀ e h p, k e h = some p → k' e h = some p) : ∀ {l : List AOper} {e : Env} {h : Heap} {p : R}, aops E l e h k = some p → aops E l e h k' = some p
  | [], _, _, _, hp => hk _ _ _ hp
  | o :: l, e, h, p, hp => by
    rw [aops_cons] at hp ⊢
    exact aoper_mono (fun v h p => aops_mono hk) hp

theorem adraw_mono {hr : Heap} {n0 : Nat} {k k' : Env → Heap → Option R} (hk : ∀ e h p, k e h = some p → k' e h = some p) : ∀ {l : List AOper} {e : Env} {h : Heap} {p : R}, adraw E hr n0 l e h k = some p → adraw E hr n0 l e h k' = some p
  | [], _, _, _, hp => hk _ _ _ hp
  | o :: l, e, h, p, hp => by
    rw [adraw_cons] at hp ⊢
    exact aoper_mono (fun v h p => adraw_mono hk) hp

def KLe (k k' : Kont R) : Prop := ∀ x e h p, k x e h = some p → k' x e h = some p
def SmLe (s s' : Sm R) : Prop := ∀ k k' : Kont R, KLe k k' → ∀ e h p, s k e h = some p → s' k' e h = some p

theorem around_le {c c' : Sm R} (hc : SmLe c c') {keep : List Nat} {k k' : Kont R} (hk : KLe k k') : ∀ {n n' : Nat}, n ≤ n' → ∀ e h p, around c keep k n e h = some p → around c' keep k' n' e h = some p
  | 0, _, _, e, h, p, hp => by rw [around_zero] at hp; cases hp
  | n + 1, 0, hn, e, h, p, hp => by omega
  | n + 1, n' + 1, hn, e, h, p, hp => by
    rw [around_succ] at hp ⊢
    refine hc _ _ (fun x e h p hp => ?_) e h p hp
    cases x with
    | normal => exact around_le hc hk (by omega) _ _ _ hp
    | exit id => exact hk _ _ _ _ hp
    | ret => exact hk _ _ _ _ hp

theorem again_mono {e : Env} {h : Heap} {k k' : Option R} {p : R} (hk : k = some p → k' = some p) : ∀ {l : List (Nat × AOp)}, again l e h k = some p → again l e h k' = some p
  | [], hp => hk hp
  | c :: l, hp => by
    rw [again_cons] at hp ⊢
    unfold agn at hp ⊢
    split at hp
    · rename_i hc
      rw [if_pos hc]; exact again_mono hk hp
    · cases hp

theorem aex_le {n n' : Nat} (hn : n ≤ n') : ∀ c : ACode, SmLe (R := R) (aex E n c) (aex E n' c)
  | .skip => fun k k' hk e h p hp => hk _ _ _ _ hp
  | .ops l => fun k k' hk e h p hp => aops_mono (fun e h p hp => hk _ _ _ _ hp) hp
  | .draw m l r => fun k k' hk e h p hp => adraw_mono (fun e h p hp => aops_mono (fun e h p hp => hk _ _ _ _ hp) hp) hp
  | .drawS m l s chk r => fun k k' hk e h p hp => adraw_mono (fun e h p hp => aoper_mono (fun v h p hp => again_mono (fun hp => aops_mono (fun e h p hp => hk _ _ _ _ hp) hp) hp) hp) hp
  | .seq keep a b => fun k k' hk e h p hp => by
    refine aex_le hn a _ _ (fun x e h p hp => ?_) e h p hp
    cases x with
    | normal => exact aex_le hn b k k' hk _ _ _ hp
    | exit id => exact hk _ _ _ _ hp
    | ret => exact hk _ _ _ _ hp
  | .cond c a b => fun k k' hk e h p hp => by
    change cnd (e.ev c) (aex E n a k e h) (aex E n b k e h) = some p at hp
    change cnd (e.ev c) (aex E n' a k' e h) (aex E n' b k' e h) = some p
    unfold cnd at hp ⊢
    split at hp
    · rename_i x _
      cases x
      · exact aex_le hn b k k' hk _ _ _ hp
      · exact aex_le hn a k k' hk _ _ _ hp
    · cases hp
  | .block id a => fun k k' hk e h p hp => by
    refine aex_le hn a _ _ (fun x e h p hp => ?_) e h p hp
    cases x with
    | normal => exact hk _ _ _ _ hp
    | ret => exact hk _ _ _ _ hp
    | exit i =>
      cases hb : Nat.beq i id with
      | true => simp only [hb, cond_true] at hp ⊢; exact hk _ _ _ _ hp
      | false => simp only [hb, cond_false] at hp ⊢; exact hk _ _ _ _ hp
  | .loop keep a => fun k k' hk e h p hp => around_le (aex_le hn a) hk hn _ _ _ hp
  | .exit id => fun k k' hk e h p hp => hk _ _ _ _ hp
  | .ret => fun k k' hk e h p hp => hk _ _ _ _ hp

theorem run_le {f : AFn} {n n' : Nat} (hn : n ≤ n') {args : List Val} {h : Heap} {p : Val × Heap} (hp : f.run E n args h = some p) : f.run E n' args h = some p :=
  aex_le hn f.code _ _ (fun _ _ _ _ h => h) _ _ _ hp

open Classical in
noncomputable def Lim (f : AFn) (E : Sums) (args : List Val) (h : Heap) : Option (Val × Heap) :=
  if H : ∃ p n, f.run E n args h = some p then some H.choose else none

theorem Lim_of {f : AFn} {n : Nat} {args : List Val} {h : Heap} {p : Val × Heap} (hp : f.run E n args h = some p) : Lim f E args h = some p := by
  have H : ∃ p n, f.run E n args h = some p := ⟨p, n, hp⟩
  unfold Lim
  rw [dif_pos H]
  obtain ⟨m, hm⟩ := H.choose_spec
  have h1 := run_le (Nat.le_max_left n m) hp
  have h2 := run_le (Nat.le_max_right n m) hm
  rw [h1] at h2
  exact h2.symm

theorem Lim_run {f : AFn} {args : List Val} {h : Heap} {p : Val × Heap} (hp : Lim f E args h = some p) : ∃ n, f.run E n args h = some p := by
  unfold Lim at hp
  split at hp
  · rename_i H
    cases hp
    exact H.choose_spec
  · cases hp

end Go.Esc
end
section
namespace Go.Esc
open Go

def bnd {α β : Type} (x : Option α) (f : α → Option β) : Option β := x.bind f
def mp {α β : Type} (x : Option α) (f : α → β) : Option β := x.map f

@[congr] theorem bnd_cg {α β : Type} {x x' : Option α} {f : α → Option β} (h : x = x') : bnd x f = bnd x' f := by rw [h]
@[congr] theorem mp_cg {α β : Type} {x x' : Option α} {f : α → β} (h : x = x') : mp x f = mp x' f := by rw [h]
@[congr] theorem cnd_cg {R : Type} {v v' : Val} {a b : Option R} (h : v = v') : cnd v a b = cnd v' a b := by rw [h]
@[congr] theorem gd_cg {v v' : Val} {w : Bool} {a b : Option (Val × Heap)} (h : v = v') : gd v w a b = gd v' w a b := by rw [h]
@[congr] theorem agn_cg {R : Type} {x x' : Option Val} {v v' : Val} {k : Option R} (h : x = x') (h2 : v = v') : agn x v k = agn x' v' k := by rw [h, h2]
theorem agn_some {R : Type} {v : Val} {k : Option R} : agn (some v) v k = k := Eq.trans (if_pos rfl) rfl
@[simp] theorem bnd_some {α β : Type} {a : α} {f : α → Option β} : bnd (some a) f = f a := Eq.trans rfl rfl
@[simp] theorem mp_some {α β : Type} {a : α} {f : α → β} : mp (some a) f = some (f a) := Eq.trans rfl rfl

section
variable {R : Type} {k : IntKind} {a b : Int} {s t : List UInt8} {h : Heap}

@[simp] theorem alenS_s : alenS (.c (.s s)) = some (.c (.i .i64 s.length)) := rfl
@[simp] theorem alen_sl {id off len sz : Nat} : alen (.c (.sl id off len sz)) = some (.c (.i .i64 len)) := rfl
@[simp] theorem alen_ns : alen (.c .ns) = some (.c (.i .i64 0)) := rfl
@[simp] theorem abin_add : abin .add (.c (.i k a)) (.c (.i k b)) = some (.c (.i k (k.wrap (a + b)))) := by simp [abin, ibin]
@[simp] theorem abin_sub : abin .sub (.c (.i k a)) (.c (.i k b)) = some (.c (.i k (k.wrap (a - b)))) := by simp [abin, ibin]
@[simp] theorem abin_mul : abin .mul (.c (.i k a)) (.c (.i k b)) = some (.c (.i k (k.wrap (a * b)))) := by simp [abin, ibin]
@[simp] theorem abin_quo (hb : b ≠ 0) : abin .quo (.c (.i k a)) (.c (.i k b)) = some (.c (.i k (k.wrap (a.tdiv b)))) := by simp [abin, ibin, hb]
@[simp] theorem abin_rem (hb : b ≠ 0) : abin .rem (.c (.i k a)) (.c (.i k b)) = some (.c (.i k (a.tmod b))) := by simp [abin, ibin, hb]
theorem abin_or : abin .or (.c (.i k a)) (.c (.i k b)) = some (.c (.i k (k.wrap (BitVec.ofInt k.bits a ||| BitVec.ofInt k.bits b).toNat))) := by simp [abin, ibin]
theorem abin_xor : abin .xor (.c (.i k a)) (.c (.i k b)) = some (.c (.i k (k.wrap (BitVec.ofInt k.bits a ^^^ BitVec.ofInt k.bits b).toNat))) := by simp [abin, ibin]
@[simp] theorem abin_eql : abin .eql (.c (.i k a)) (.c (.i k b)) = some (.c (.b (decide (a = b)))) := by simp [abin, ibin]; rfl
@[simp] theorem abin_neq : abin .neq (.c (.i k a)) (.c (.i k b)) = some (.c (.b (decide (a ≠ b)))) := by simp [abin, ibin]; by_cases h : a = b <;> simp [h]
@[simp] theorem abin_lss : abin .lss (.c (.i k a)) (.c (.i k b)) = some (.c (.b (decide (a < b)))) := by simp [abin, ibin]
@[simp] theorem abin_leq : abin .leq (.c (.i k a)) (.c (.i k b)) = some (.c (.b (decide (a ≤ b)))) := by simp [abin, ibin]
@[simp] theorem abin_gtr : abin .gtr (.c (.i k a)) (.c (.i k b)) = some (.c (.b (decide (b < a)))) := by simp [abin, ibin]
@[simp] theorem abin_geq : abin .geq (.c (.i k a)) (.c (.i k b)) = some (.c (.b (decide (b ≤ a)))) := by simp [abin, ibin]
@[simp] theorem abin_seql : abin .eql (.c (.s s)) (.c (.s t)) = some (.c (.b (decide (s = t)))) := by simp [abin, sbin]; by_cases h : s = t <;> simp [h]
@[simp] theorem abin_sneq : abin .neq (.c (.s s)) (.c (.s t)) = some (.c (.b (decide (s ≠ t)))) := by simp [abin, sbin]; by_cases h : s = t <;> simp [h]
@[simp] theorem abin_slss : abin .lss (.c (.s s)) (.c (.s t)) = some (.c (.b (bless s t))) := by simp [abin, sbin]
@[simp] theorem aun_not {x : Bool} : aun .not (.c (.b x)) = some (.c (.b (!x))) := rfl
@[simp] theorem aeqN_nf {n : Bool} : aeqN true n (.c .nf) = some (.c (.b (!n))) := Eq.trans rfl rfl
@[simp] theorem aeqN_f {n : Bool} {f : Nat} {cs : List (Nat × Nat)} : aeqN true n (.c (.f f cs)) = some (.c (.b n)) := Eq.trans rfl rfl
@[simp] theorem aeqN_np {n : Bool} : aeqN false n (.c .np) = some (.c (.b (!n))) := Eq.trans rfl rfl
@[simp] theorem aeqN_p {n : Bool} {id off : Nat} : aeqN false n (.c (.p id off)) = some (.c (.b n)) := Eq.trans rfl rfl
@[simp] theorem anilc_p {id off : Nat} : anilc (.c (.p id off)) = some (.c (.p id off)) := Eq.trans rfl rfl
@[simp] theorem aun_neg : aun .neg (.c (.i k a)) = some (.c (.i k (k.wrap (0 - a)))) := rfl
@[simp] theorem aeqB_t {x y : Bool} : aeqB false (.c (.b x)) (.c (.b y)) = some (.c (.b (x == y))) := rfl
@[simp] theorem aeqB_f {x y : Bool} : aeqB true (.c (.b x)) (.c (.b y)) = some (.c (.b (!(x == y)))) := rfl
@[simp] theorem aconv_i {k' : IntKind} : aconv k (.c (.i k' a)) = some (.c (.i k (k.wrap a))) := rfl
@[simp] theorem apick_b {x : Bool} {u v : Val} : apick (.c (.b x)) u v = some (bif x then u else v) := rfl
@[simp] theorem gd_no {w : Bool} {u v : Option (Val × Heap)} : gd .no w u v = v := Eq.trans rfl rfl
@[simp] theorem gd_tt {u v : Option (Val × Heap)} : gd (.c (.b true)) true u v = u := Eq.trans rfl rfl
@[simp] theorem gd_tf {u v : Option (Val × Heap)} : gd (.c (.b true)) false u v = v := Eq.trans rfl rfl
@[simp] theorem gd_ft {u v : Option (Val × Heap)} : gd (.c (.b false)) true u v = v := Eq.trans rfl rfl
@[simp] theorem gd_ff {u v : Option (Val × Heap)} : gd (.c (.b false)) false u v = u := Eq.trans rfl rfl
@[simp] theorem cnd_t {u v : Option R} : cnd (.c (.b true)) u v = u := Eq.trans rfl rfl
@[simp] theorem cnd_f {u v : Option R} : cnd (.c (.b false)) u v = v := Eq.trans rfl rfl
@[simp] theorem aidxS_s {i : Nat} : aidxS (.c (.s s)) (.c (.i k i)) = (s[i]?).map fun b => .c (.i .u8 b.toNat) := by simp [aidxS]
@[simp] theorem aext_t {l : List Part} {i : Nat} : aext (.t l) i = (l[i]?).map ofPart := rfl
@[simp] theorem ofPart_c {x : Cell} : ofPart (.c x) = .c x := rfl
@[simp] theorem ofPart_a {l : List Cell} : ofPart (.a l) = .a l := rfl
@[simp] theorem part?_c {x : Cell} : part? (.c x) = some (.c x) := rfl
@[simp] theorem part?_a {l : List Cell} : part? (.a l) = some (.a l) := rfl
@[simp] theorem cells?_c {x : Cell} : cells? (.c x) = some [x] := rfl
@[simp] theorem cells?_a {l : List Cell} : cells? (.a l) = some l := rfl
@[simp] theorem tupN_2 {u v : Option Val} : tupN [u, v] h = bnd u fun u => bnd (part? u) fun p => bnd v fun v => bnd (part? v) fun q => some (.t [p, q], h) := by
  cases u with
  | none => rfl
  | some u => cases v with
    | none => cases hu : part? u <;> simp [tupN, tupgo, hu] <;> rfl
    | some v => cases hu : part? u <;> cases hv : part? v <;> simp [tupN, tupgo, hu, hv] <;> rfl
@[simp] theorem tupN_3 {u v w : Option Val} : tupN [u, v, w] h = bnd u fun u => bnd (part? u) fun p => bnd v fun v => bnd (part? v) fun q => bnd w fun w => bnd (part? w) fun r => some (.t [p, q, r], h) := by
  cases u with
  | none => rfl
  | some u => cases v with
    | none => cases hu : part? u <;> simp [tupN, tupgo, hu] <;> rfl
    | some v => cases w with
      | none => cases hu : part? u <;> cases hv : part? v <;> simp [tupN, tupgo, hu, hv] <;> rfl
      | some w => cases hu : part? u <;> cases hv : part? v <;> cases hw : part? w <;> simp [tupN, tupgo, hu, hv, hw] <;> rfl

theorem wrap_i64 (h1 : -9223372036854775808 ≤ a) (h2 : a < 9223372036854775808) : IntKind.wrap .i64 a = a := by
  change (if (true && decide (a % 18446744073709551616 ≥ 9223372036854775808)) = true then a % 18446744073709551616 - 18446744073709551616 else a % 18446744073709551616) = a
  by_cases h : a % 18446744073709551616 ≥ 9223372036854775808
  · simp only [h, decide_true, Bool.true_and, if_true]; omega
  · simp only [h, decide_false, Bool.and_false, Bool.false_eq_true, if_false]; omega
theorem wrap_u64 (h1 : 0 ≤ a) (h2 : a < 18446744073709551616) : IntKind.wrap .u64 a = a := by
  simp only [IntKind.wrap, IntKind.bits, IntKind.signed, Bool.false_and]
  have e1 : (2 : Int) ^ 64 = 18446744073709551616 := rfl
  rw [e1]
  simp only [Bool.false_eq_true, if_false]
  omega
theorem wrap_u32 (h1 : 0 ≤ a) (h2 : a < 4294967296) : IntKind.wrap .u32 a = a := by
  simp only [IntKind.wrap, IntKind.bits, IntKind.signed, Bool.false_and]
  have e1 : (2 : Int) ^ 32 = 4294967296 := rfl
  rw [e1]
  simp only [Bool.false_eq_true, if_false]
  omega
end

theorem Grows.rfl' {h : Heap} : Grows h h := ⟨List.prefix_refl _, fun id x hid hx => by have := rd_lt hx; omega⟩

theorem Grows.trans' {a b c : Heap} (h1 : Grows a b) (h2 : Grows b c) : Grows a c := by
  refine ⟨h1.1.trans h2.1, fun id x hid hx => ?_⟩
  by_cases hb : b.length ≤ id
  · exact h2.2 id x hb hx
  · refine h1.2 id x hid ?_
    obtain ⟨t, rfl⟩ := h2.1
    rw [← hx]
    unfold rd
    rw [List.getElem?_append_left (by omega)]

theorem Grows.rd {a b : Heap} (h1 : Grows a b) {id : Nat} {r : Row} (hr : rd a id = some r) : rd b id = some r := by
  obtain ⟨t, rfl⟩ := h1.1
  rw [rd_append_left (rd_lt hr)]; exact hr

theorem Grows.len {a b : Heap} (h1 : Grows a b) : a.length ≤ b.length := h1.1.length_le

theorem Grows.new {a b : Heap} (h1 : Grows a b) (cs : List Cell) : Grows a (b ++ [some ⟨cs, true⟩]) := by
  refine h1.trans' ⟨List.prefix_append _ _, fun id x hid hx => ?_⟩
  unfold Go.Esc.rd at hx
  rw [List.getElem?_append_right hid] at hx
  cases hj : id - b.length with
  | zero => rw [hj] at hx; simp at hx; subst hx; rfl
  | succ j => rw [hj] at hx; simp at hx

theorem Grows.set {a b : Heap} (h1 : Grows a b) {id : Nat} (hid : a.length ≤ id) (cs : List Cell) : Grows a (b.set id (some ⟨cs, true⟩)) := by
  obtain ⟨⟨t, rfl⟩, h2⟩ := h1
  refine ⟨⟨t.set (id - a.length) (some ⟨cs, true⟩), by rw [List.set_append_right _ _ hid]⟩, fun i x hi hx => ?_⟩
  by_cases e : id = i
  · subst e
    have hl := rd_lt hx
    simp at hl
    rw [rd_set_same (by simpa using hl)] at hx
    cases hx; rfl
  · rw [rd_set_other e] at hx; exact h2 i x hi hx

theorem quiet_grows {h h' : Heap} {v : Val} (hg : Grows h h') : quiet h (some (v, h')) = some (v, h') := by
  unfold quiet
  simp only [Option.bind_some]
  rw [if_pos]
  exact hg

theorem rd_new {h : Heap} {r : Row} : rd (h ++ [some r]) h.length = some r := by
  unfold rd; simp

section
variable {h : Heap} {id off n sz : Nat} {cs xs : List Cell} {x : Cell} {k : IntKind} {rw : Bool}

theorem load1_of (hr : rd h id = some ⟨cs, rw⟩) {c : Cell} (hc : cs[off]? = some c) (hd : (rw || !c.isX) = true) : aload1 h (.c (.p id off)) = some (.c c) := by
  simp [aload1, hr, hc, hd]
theorem loadN_of (hr : rd h id = some ⟨cs, rw⟩) (hl : off + n ≤ cs.length) (hd : (rw || noX ((cs.drop off).take n)) = true) : aloadN h n (.c (.p id off)) = some (.a ((cs.drop off).take n)) := by
  simp only [aloadN, hr, Option.bind_some]
  rw [if_pos ⟨hl, hd⟩]
theorem loadAll (hr : rd h id = some ⟨cs, true⟩) (hl : cs.length = n) : aloadN h n (.c (.p id 0)) = some (.a cs) := by
  rw [loadN_of hr (by omega) rfl, List.drop_zero, List.take_of_length_le (by omega)]
theorem store1_of (hr : rd h id = some ⟨cs, true⟩) (hl : off < cs.length) : astore1 h (.c (.p id off)) (.c x) = some (h.set id (some ⟨cs.set off x, true⟩)) := by
  simp [astore1, hr, hl]
theorem storeN_of (hr : rd h id = some ⟨cs, true⟩) (hx : xs.length = n) (hl : off + n ≤ cs.length) : astoreN h n (.c (.p id off)) (.a xs) = some (h.set id (some ⟨lay cs off xs, true⟩)) := by
  simp [astoreN, hr, hl, hx]
theorem lay_all (hx : xs.length = cs.length) : lay cs 0 xs = xs := by simp [lay, hx]
theorem storeAll (hr : rd h id = some ⟨cs, true⟩) (hl : cs.length = n) (hx : xs.length = n) : astoreN h n (.c (.p id 0)) (.a xs) = some (h.set id (some ⟨xs, true⟩)) := by
  rw [storeN_of hr hx (by omega), lay_all (by omega)]
theorem iAddrA_of {j : Nat} (hj : j < n) : aiAddrA n sz (.c (.p id off)) (.c (.i k j)) = some (.c (.p id (off + j * sz))) := by
  simp only [aiAddrA]
  rw [if_pos ⟨by omega, by omega⟩]; simp
theorem iAddrL_of {len j : Nat} (hj : j < len) : aiAddrL sz (.c (.sl id off len sz)) (.c (.i k j)) = some (.c (.p id (off + j * sz))) := by
  simp only [aiAddrL]
  rw [if_pos ⟨by omega, by omega, trivial⟩]; simp
end

theorem encB_set (l : List UInt8) (i : Nat) (x : UInt8) : (encB l).set i (.i .u8 x.toNat) = encB (l.set i x) := by simp [encB, List.map_set]
theorem encB_get (l : List UInt8) (i : Nat) : (encB l)[i]? = (l[i]?).map fun x => .i .u8 x.toNat := by simp [encB]
theorem encB_append (l m : List UInt8) : encB (l ++ m) = encB l ++ encB m := by simp [encB]
def zeros (n : Nat) : List UInt8 := List.replicate n 0
@[simp] theorem zeros_length {n : Nat} : (zeros n).length = n := by simp [zeros]
theorem zeros_enc (n : Nat) : List.replicate n (Cell.i .u8 0) = encB (zeros n) := by simp [encB, zeros]
theorem noX_encB (l : List UInt8) : noX (encB l) = true := by simp [noX, encB, Cell.isX]
theorem encB_inj {l m : List UInt8} : encB l = encB m ↔ l = m := by
  constructor
  · intro h
    refine List.map_inj_right (fun x y e => ?_) |>.1 h
    simp at e
    exact UInt8.toNat_inj.1 (by omega)
  · rintro rfl; rfl

end Go.Esc
end
section
namespace Go.Esc
open Go

def Cell.flat : Cell → Bool
  | .b _ => true
  | .i _ _ => true
  | .s _ => true
  | .np => true
  | .ns => true
  | .nf => true
  | .nm => true
  | _ => false

def flats (l : List Cell) : Bool := l.all Cell.flat

def ro (h : Heap) : Heap := h.map fun r => r.map fun r => ⟨r.cells, false⟩

theorem ro_length {h : Heap} : (ro h).length = h.length := by simp [ro]
theorem rd_ro {h : Heap} {id : Nat} : rd (ro h) id = (rd h id).map fun r => ⟨r.cells, false⟩ := by
  unfold rd ro
  rw [List.getElem?_map]
  cases h[id]? with
  | none => rfl
  | some x => cases x <;> rfl

def newRow (h : Heap) (id : Nat) : Bool :=
  match rd h id with
  | some r => r.rw && flats r.cells
  | none => false

def Cell.low (b : Nat) : Cell → Bool
  | .p id _ => decide (id < b)
  | .sl id _ _ _ => decide (id < b)
  | .f _ caps => caps.all fun q => decide (q.1 < b)
  | .m id => decide (id < b)
  | c => c.flat

def canonC (h : Heap) (b : Nat) : List Nat → List Cell → Option (List Cell × List Nat)
  | seen, [] => some ([], seen)
  | seen, c :: r => if c.low b = true then (canonC h b seen r).map fun p => (c :: p.1, p.2) else
    match c with
    | .sl id off len sz => if b ≤ id ∧ id ∉ seen ∧ newRow h id = true then (canonC h b (seen ++ [id]) r).map fun p => (.sl (b + seen.length) off len sz :: p.1, p.2) else none
    | _ => none

def canonP (h : Heap) (b : Nat) : List Nat → List Part → Option (List Part × List Nat)
  | seen, [] => some ([], seen)
  | seen, .c x :: r => (canonC h b seen [x]).bind fun p => match p.1 with
    | [y] => (canonP h b p.2 r).map fun q => (.c y :: q.1, q.2)
    | _ => none
  | seen, .a l :: r => (canonC h b seen l).bind fun p => (canonP h b p.2 r).map fun q => (.a p.1 :: q.1, q.2)

def canonV (h : Heap) (b : Nat) : Val → Option (Val × List Nat)
  | .c x => (canonC h b [] [x]).bind fun p => match p.1 with
    | [y] => some (.c y, p.2)
    | _ => none
  | .a l => (canonC h b [] l).map fun p => (.a p.1, p.2)
  | .t l => (canonP h b [] l).map fun p => (.t p.1, p.2)
  | _ => none

def tidied (F : List Val → Heap → Option (Val × Heap)) (args : List Val) (h : Heap) : Option (Val × Heap) :=
  (F args (ro h)).bind fun p => (canonV p.2 h.length p.1).map fun q => (q.1, h ++ q.2.map (rd p.2))

def tidy (F : List Val → Heap → Option (Val × Heap)) (args : List Val) (h : Heap) : Option (Val × Heap) :=
  match tidied F args h with
  | some r => some r
  | none => F args h

theorem RC.flat {μ μ' : Mu} {c : Cell} {V : Value} (hf : c.flat = true) (h : RC μ c V) : RC μ' c V := by
  cases c <;> first | exact h | cases hf

theorem RC.low {μ μ' : Mu} {b : Nat} (hb : ∀ id, id < b → μ' id = μ id) {c : Cell} {V : Value} (hf : c.low b = true) (h : RC μ c V) : RC μ' c V := by
  cases c with
  | p id off =>
    obtain ⟨x, n, h1, h2⟩ := h
    exact ⟨x, n, by rw [hb id (of_decide_eq_true hf)]; exact h1, h2⟩
  | sl id off len sz =>
    rcases h with ⟨x, n, cap, h1, h2⟩ | h
    · exact .inl ⟨x, n, cap, by rw [hb id (of_decide_eq_true hf)]; exact h1, h2⟩
    · exact .inr h
  | f fn caps =>
    obtain ⟨cs, h1, h2⟩ := h
    refine ⟨cs, h1, ?_⟩
    have hf' : (caps.all fun q => decide (q.1 < b)) = true := hf
    clear h1 hf
    induction caps generalizing cs with
    | nil => cases cs with
      | nil => trivial
      | cons => exact h2.elim
    | cons q r ih => cases cs with
      | nil => exact h2.elim
      | cons V vs =>
        rw [List.all_cons, Bool.and_eq_true] at hf'
        obtain ⟨x, n, g1, g2⟩ := h2.1
        exact ⟨⟨x, n, by rw [hb q.1 (of_decide_eq_true hf'.1)]; exact g1, g2⟩, ih vs h2.2 hf'.2⟩
  | m id =>
    obtain ⟨x, n, h1, h2⟩ := h
    exact ⟨x, n, by rw [hb id (of_decide_eq_true hf)]; exact h1, h2⟩
  | _ => exact RC.flat hf h

theorem Cell.low_of_flat {b : Nat} {c : Cell} (h : c.flat = true) : c.low b = true := by
  cases c <;> first | exact h | cases h

theorem flats_cons {c : Cell} {l : List Cell} : flats (c :: l) = (c.flat && flats l) := rfl

theorem All2.flat {μ μ' : Mu} : ∀ {l : List Cell} {vs : List Value}, flats l = true → All2 (RC μ) l vs → All2 (RC μ') l vs
  | [], [], _, _ => trivial
  | c :: l, V :: vs, hf, ⟨h1, h2⟩ => by
    rw [flats_cons, Bool.and_eq_true] at hf
    exact ⟨h1.flat hf.1, All2.flat hf.2 h2⟩
  | [], _ :: _, _, h => h.elim
  | _ :: _, [], _, h => h.elim

structure Good (h : Heap) (b : Nat) (ids : List Nat) : Prop where
  nd : ids.Nodup
  ok : ∀ id ∈ ids, b ≤ id ∧ ∃ r, rd h id = some r ∧ r.rw = true ∧ flats r.cells = true

theorem Good.nil {h : Heap} {b : Nat} : Good h b [] := ⟨List.nodup_nil, fun _ h => by cases h⟩

theorem Good.snoc {h : Heap} {b : Nat} {ids : List Nat} (hg : Good h b ids) {id : Nat} (h1 : b ≤ id) (h2 : id ∉ ids) (h3 : newRow h id = true) : Good h b (ids ++ [id]) := by
  refine ⟨?_, fun i hi => ?_⟩
  · rw [List.nodup_append]
    exact ⟨hg.nd, by simp, fun a ha c hc e => by simp at hc; subst hc; subst e; exact h2 ha⟩
  · rw [List.mem_append] at hi
    rcases hi with hi | hi
    · exact hg.ok i hi
    · simp at hi; subst hi
      refine ⟨h1, ?_⟩
      unfold newRow at h3
      cases hr : rd h i with
      | none => rw [hr] at h3; cases h3
      | some r => rw [hr] at h3; rw [Bool.and_eq_true] at h3; exact ⟨r, rfl, h3.1, h3.2⟩

def nu (μ μ' : Mu) (b : Nat) (ids : List Nat) : Mu := fun id => if id < b then μ id else (ids[id - b]?).bind μ'

theorem canonC_ok {h : Heap} {b : Nat} {μ μ' : Mu} (hlow : ∀ id, id < b → μ' id = μ id) : ∀ (l : List Cell) (seen : List Nat) (l2 : List Cell) (fin : List Nat), canonC h b seen l = some (l2, fin) → Good h b seen →
    Good h b fin ∧ seen <+: fin ∧ ∀ ids, fin <+: ids → ∀ vs : List Value, All2 (RC μ') l vs → All2 (RC (nu μ μ' b ids)) l2 vs := by
  intro l
  induction l with
  | nil =>
    intro seen l2 fin hc hg
    simp only [canonC, Option.some.injEq, Prod.mk.injEq] at hc
    obtain ⟨rfl, rfl⟩ := hc
    exact ⟨hg, List.prefix_refl _, fun ids _ vs hv => by cases vs with
      | nil => trivial
      | cons => exact hv.elim⟩
  | cons c r ih =>
    intro seen l2 fin hc hg
    unfold canonC at hc
    split at hc
    · rename_i hf
      simp only [Option.map_eq_some_iff, Prod.mk.injEq] at hc
      obtain ⟨p, hp, rfl, rfl⟩ := hc
      obtain ⟨h1, h2, h3⟩ := ih seen p.1 p.2 hp hg
      refine ⟨h1, h2, fun ids hi vs hv => ?_⟩
      cases vs with
      | nil => exact hv.elim
      | cons V vs => exact ⟨RC.low (b := b) (fun id hid => by unfold nu; rw [if_pos hid]; exact (hlow id hid).symm) hf hv.1, h3 ids hi vs hv.2⟩
    · split at hc
      · rename_i id off len sz _
        split at hc
        · rename_i hcond
          simp only [Option.map_eq_some_iff, Prod.mk.injEq] at hc
          obtain ⟨p, hp, rfl, rfl⟩ := hc
          obtain ⟨h1, h2, h3⟩ := ih _ p.1 p.2 hp (hg.snoc hcond.1 hcond.2.1 hcond.2.2)
          refine ⟨h1, (List.prefix_append _ _).trans h2, fun ids hi vs hv => ?_⟩
          cases vs with
          | nil => exact hv.elim
          | cons V vs =>
            refine ⟨?_, h3 ids hi vs hv.2⟩
            have hn : nu μ μ' b ids (b + seen.length) = μ' id := by
              unfold nu
              rw [if_neg (by omega), Nat.add_sub_cancel_left]
              obtain ⟨t, ht⟩ := h2.trans hi
              rw [← ht, List.append_assoc, List.getElem?_append_right (Nat.le_refl _)]
              simp
            rcases hv.1 with ⟨x, n, cap, g1, g2⟩ | g
            · exact .inl ⟨x, n, cap, by rw [hn]; exact g1, g2⟩
            · exact .inr g
        · cases hc
      · cases hc

theorem canonP_ok {h : Heap} {b : Nat} {μ μ' : Mu} (hlow : ∀ id, id < b → μ' id = μ id) : ∀ (l : List Part) (seen : List Nat) (l2 : List Part) (fin : List Nat), canonP h b seen l = some (l2, fin) → Good h b seen →
    Good h b fin ∧ seen <+: fin ∧ ∀ ids, fin <+: ids → ∀ vs : List Value, All2 (RP μ') l vs → All2 (RP (nu μ μ' b ids)) l2 vs := by
  intro l
  induction l with
  | nil =>
    intro seen l2 fin hc hg
    simp only [canonP, Option.some.injEq, Prod.mk.injEq] at hc
    obtain ⟨rfl, rfl⟩ := hc
    exact ⟨hg, List.prefix_refl _, fun ids _ vs hv => by cases vs with
      | nil => trivial
      | cons => exact hv.elim⟩
  | cons c r ih =>
    intro seen l2 fin hc hg
    cases c with
    | c x =>
      simp only [canonP, Option.bind_eq_some_iff] at hc
      obtain ⟨⟨l3, f3⟩, hp, hc⟩ := hc
      obtain ⟨h1, h2, h3⟩ := canonC_ok (μ := μ) (μ' := μ') hlow [x] seen l3 f3 hp hg
      split at hc
      · rename_i y heq
        simp only at heq
        subst heq
        simp only [Option.map_eq_some_iff, Prod.mk.injEq] at hc
        obtain ⟨q, hq, rfl, rfl⟩ := hc
        obtain ⟨g1, g2, g3⟩ := ih f3 q.1 q.2 hq h1
        refine ⟨g1, h2.trans g2, fun ids hi vs hv => ?_⟩
        cases vs with
        | nil => exact hv.elim
        | cons V vs => exact ⟨(h3 ids (g2.trans hi) [V] ⟨hv.1, trivial⟩).1, g3 ids hi vs hv.2⟩
      · cases hc
    | a x =>
      simp only [canonP, Option.bind_eq_some_iff] at hc
      obtain ⟨⟨l3, f3⟩, hp, hc⟩ := hc
      obtain ⟨h1, h2, h3⟩ := canonC_ok (μ := μ) (μ' := μ') hlow x seen l3 f3 hp hg
      simp only [Option.map_eq_some_iff, Prod.mk.injEq] at hc
      obtain ⟨q, hq, rfl, rfl⟩ := hc
      obtain ⟨g1, g2, g3⟩ := ih f3 q.1 q.2 hq h1
      refine ⟨g1, h2.trans g2, fun ids hi vs hv => ?_⟩
      cases vs with
      | nil => exact hv.elim
      | cons V vs =>
        obtain ⟨Vs, hV, h4⟩ := hv.1
        exact ⟨⟨Vs, hV, h3 ids (g2.trans hi) Vs h4⟩, g3 ids hi vs hv.2⟩

theorem canonV_ok {h : Heap} {b : Nat} {μ μ' : Mu} (hlow : ∀ id, id < b → μ' id = μ id) {v v2 : Val} {fin : List Nat} (hc : canonV h b v = some (v2, fin)) : Good h b fin ∧ ∀ V, RV μ' v V → RV (nu μ μ' b fin) v2 V := by
  cases v with
  | c x =>
    simp only [canonV, Option.bind_eq_some_iff] at hc
    obtain ⟨⟨l3, f3⟩, hp, hc⟩ := hc
    obtain ⟨h1, h2, h3⟩ := canonC_ok (μ := μ) (μ' := μ') hlow [x] [] l3 f3 hp Good.nil
    split at hc
    · rename_i y heq
      simp only at heq
      subst heq
      simp only [Option.some.injEq, Prod.mk.injEq] at hc
      obtain ⟨rfl, rfl⟩ := hc
      exact ⟨h1, fun V hV => (h3 _ (List.prefix_refl _) [V] ⟨hV, trivial⟩).1⟩
    · cases hc
  | a l =>
    simp only [canonV, Option.map_eq_some_iff, Prod.mk.injEq] at hc
    obtain ⟨p, hp, rfl, rfl⟩ := hc
    obtain ⟨h1, h2, h3⟩ := canonC_ok (μ := μ) (μ' := μ') hlow l [] p.1 p.2 hp Good.nil
    refine ⟨h1, fun V hV => ?_⟩
    obtain ⟨vs, e, h4⟩ := hV
    exact ⟨vs, e, h3 _ (List.prefix_refl _) vs h4⟩
  | t l =>
    simp only [canonV, Option.map_eq_some_iff, Prod.mk.injEq] at hc
    obtain ⟨p, hp, rfl, rfl⟩ := hc
    obtain ⟨h1, h2, h3⟩ := canonP_ok (μ := μ) (μ' := μ') hlow l [] p.1 p.2 hp Good.nil
    refine ⟨h1, fun V hV => ?_⟩
    obtain ⟨vs, e, h4⟩ := hV
    exact ⟨vs, e, h3 _ (List.prefix_refl _) vs h4⟩
  | un => simp [canonV] at hc
  | no => simp [canonV] at hc

def ofRows (μ : Mu) (h : Heap) (b : Nat) : Prop := ∃ id r n, rd h id = some r ∧ μ id = some (b, n)

open Classical in
noncomputable def Ctx.hold (Γ : Ctx) (μ : Mu) (h : Heap) (w : World) : Ctx := { Γ with F := fun b => if ofRows μ h b then w.heap[b]? else Γ.F b }

theorem Inv.hold {Γ : Ctx} {μ : Mu} {h : Heap} {w : World} (hi : Inv Γ μ h w) : Inv (Γ.hold μ h w) μ (ro h) w where
  rows id r hr := by
    rw [rd_ro, Option.map_eq_some_iff] at hr
    obtain ⟨r0, h0, rfl⟩ := hr
    have := hi.rows id r0 h0
    unfold RowOk at this ⊢
    cases hm : μ id with
    | none => rw [hm] at this; exact this
    | some x =>
      rw [hm] at this
      obtain ⟨C, elem, fz, h1, h2, h3, h4⟩ := this
      refine ⟨C, elem, fz, h1, h2, h3.mono fun c V hc => ?_, fun hf => by cases hf⟩
      rcases hc with hc | ⟨_, hc⟩
      · exact .inl hc
      · exact .inr ⟨rfl, hc⟩
  sep id id' r r' x x' hr hr' hw := by
    rw [rd_ro, Option.map_eq_some_iff] at hr
    obtain ⟨r0, h0, rfl⟩ := hr
    cases hw
  own id r x hr hw := by
    rw [rd_ro, Option.map_eq_some_iff] at hr
    obtain ⟨r0, h0, rfl⟩ := hr
    cases hw
  dom id hl := hi.dom id (by simpa [ro_length] using hl)
  ctx := ⟨hi.ctx.os, hi.ctx.tape, hi.ctx.output, fun b o ho => by
    unfold Ctx.hold at ho
    simp only at ho
    split at ho
    · exact ho
    · exact hi.ctx.block b o ho⟩

theorem Inv.held {Γ : Ctx} {μ μ' : Mu} {h h' : Heap} {w w' : World} (hi : Inv Γ μ h w) (hj : Inv (Γ.hold μ h w) μ' h' w') {ids : List Nat} (hg : Good h' h.length ids) :
    Inv Γ (nu μ μ' h.length ids) (h ++ ids.map (rd h')) w' := by
  have same : ∀ b, ofRows μ h b → w'.heap[b]? = w.heap[b]? := by
    intro b hb
    have hb' := hb
    obtain ⟨id, r, n, hr, hm⟩ := hb
    have := hi.rows id r hr
    unfold RowOk at this
    rw [hm] at this
    obtain ⟨C, elem, fz, h1, _⟩ := this
    have h2 : (Γ.hold μ h w).F b = some (.cells C elem fz) := by
      unfold Ctx.hold
      simp only
      rw [if_pos hb']; exact h1
    rw [hj.ctx.block b _ h2, h1]
  have lo : ∀ id, id < h.length → nu μ μ' h.length ids id = μ id := fun id hl => by unfold nu; rw [if_pos hl]
  have hle : μ.le (nu μ μ' h.length ids) := fun id x hx => by
    by_cases hl : id < h.length
    · rw [lo id hl]; exact hx
    · rw [hi.dom id (by omega)] at hx; cases hx
  have get : ∀ id r, rd (h ++ ids.map (rd h')) id = some r → (id < h.length ∧ rd h id = some r) ∨ (∃ j, ids[id - h.length]? = some j ∧ h.length ≤ id ∧ rd h' j = some r ∧ nu μ μ' h.length ids id = μ' j ∧ j ∈ ids ∧ r.rw = true ∧ flats r.cells = true) := by
    intro id r hr
    by_cases hl : id < h.length
    · rw [rd_append_left hl] at hr; exact .inl ⟨hl, hr⟩
    · right
      unfold rd at hr
      rw [List.getElem?_append_right (by omega), List.getElem?_map] at hr
      cases hj' : ids[id - h.length]? with
      | none => rw [hj'] at hr; cases hr
      | some j =>
        rw [hj'] at hr
        change rd h' j = some r at hr
        have hmem : j ∈ ids := List.mem_of_getElem? hj'
        obtain ⟨_, r2, hr2, h1, h2⟩ := hg.ok j hmem
        rw [hr] at hr2; cases hr2
        refine ⟨j, rfl, by omega, hr, ?_, hmem, h1, h2⟩
        unfold nu
        rw [if_neg hl, hj']; rfl
  have fnew : ∀ j r x, rd h' j = some r → r.rw = true → μ' j = some x → ¬ ofRows μ h x.1 ∧ Γ.F x.1 = none := by
    intro j r x hr hw hx
    have h1 := hj.own j r x hr hw hx
    unfold Ctx.hold at h1
    simp only at h1
    split at h1
    · rename_i hb
      obtain ⟨id, r0, n, hr0, hm⟩ := hb
      have := hi.rows id r0 hr0
      unfold RowOk at this
      rw [hm] at this
      obtain ⟨C, elem, fz, h2, _⟩ := this
      rw [h2] at h1; cases h1
    · exact ⟨‹_›, h1⟩
  refine ⟨?_, ?_, ?_, ?_, ?_⟩
  · intro id r hr
    rcases get id r hr with ⟨hl, hr⟩ | ⟨j, hj1, hl, hr, hn, hmem, hw, hf⟩
    · exact (hi.rows id r hr).mono hle (lo id hl) fun x hx => same _ ⟨id, r, x.2, hr, hx⟩
    · have := hj.rows j r hr
      unfold RowOk at this ⊢
      rw [hn]
      cases hm : μ' j with
      | none => rw [hm] at this; exact this
      | some x =>
        rw [hm] at this
        obtain ⟨C, elem, fz, h1, h2, h3, h4⟩ := this
        refine ⟨C, elem, fz, h1, h2, ?_, h4⟩
        rw [hw] at h3 ⊢
        have h5 := RL.all h3 (by simp)
        exact (All2.flat (μ' := nu μ μ' h.length ids) hf h5).mono fun _ _ => .inl
  · intro id id' r r' x x' hr hr' hw hne hx hx'
    rcases get id r hr with ⟨hl, hr⟩ | ⟨j, hj1, hl, hr, hn, hmem, hw2, hf⟩
    · rw [lo id hl] at hx
      rcases get id' r' hr' with ⟨hl', hr'⟩ | ⟨j', hj1', hl', hr', hn', hmem', hw2', hf'⟩
      · rw [lo id' hl'] at hx'
        exact hi.sep id id' r r' x x' hr hr' hw hne hx hx'
      · rw [hn'] at hx'
        intro e
        exact (fnew j' r' x' hr' hw2' hx').1 (e ▸ ⟨id, r, x.2, hr, hx⟩)
    · rw [hn] at hx
      rcases get id' r' hr' with ⟨hl', hr'⟩ | ⟨j', hj1', hl', hr', hn', hmem', hw2', hf'⟩
      · rw [lo id' hl'] at hx'
        intro e
        exact (fnew j r x hr hw2 hx).1 (e ▸ ⟨id', r', x'.2, hr', hx'⟩)
      · rw [hn'] at hx'
        refine hj.sep j j' r r' x x' hr hr' hw (fun e => ?_) hx hx'
        subst e
        have h1 := List.getElem?_eq_some_iff.1 hj1
        have h2 := List.getElem?_eq_some_iff.1 hj1'
        have := (List.getElem_inj hg.nd).1 (h1.2.trans h2.2.symm)
        omega
  · intro id r x hr hw hx
    rcases get id r hr with ⟨hl, hr⟩ | ⟨j, hj1, hl, hr, hn, hmem, hw2, hf⟩
    · rw [lo id hl] at hx; exact hi.own id r x hr hw hx
    · rw [hn] at hx; exact (fnew j r x hr hw2 hx).2
  · intro id hl
    simp only [List.length_append, List.length_map] at hl
    unfold nu
    rw [if_neg (by omega), List.getElem?_eq_none (by omega)]; rfl
  · refine ⟨hj.ctx.os, hj.ctx.tape, hj.ctx.output, fun b o ho => ?_⟩
    by_cases hb : ofRows μ h b
    · rw [same b hb]; exact hi.ctx.block b o ho
    · refine hj.ctx.block b o ?_
      unfold Ctx.hold
      simp only
      rw [if_neg hb]; exact ho

theorem tidied_ok {P : Program} {f : FuncId} {F : List Val → Heap → Option (Val × Heap)} (hF : ∀ args h v h2, F args h = some (v, h2) → Callable P f ∧ CallOk P f args h v h2 ∧ h.length ≤ h2.length)
    {args : List Val} {h : Heap} {v : Val} {h2 : Heap} (he : tidied F args h = some (v, h2)) : Callable P f ∧ CallOk P f args h v h2 ∧ h.length ≤ h2.length := by
  simp only [tidied, Option.bind_eq_some_iff, Option.map_eq_some_iff, Prod.mk.injEq] at he
  obtain ⟨p, hp, q, hq, rfl, rfl⟩ := he
  obtain ⟨h1, h2, h3⟩ := hF args (ro h) p.1 p.2 hp
  refine ⟨h1, fun Γ μ w V hi hv => ?_, by simp⟩
  refine (h2 (Γ.hold μ h w) μ w V hi.hold hv).mono fun e w' ⟨V', μ', he, _, hV, hi', hl⟩ => ?_
  obtain ⟨hg, hR⟩ := canonV_ok (μ := μ) (μ' := μ') (fun id hid => hl id (by simpa [ro_length] using hid)) (v2 := q.1) (fin := q.2) hq
  refine ⟨V', nu μ μ' h.length q.2, he, fun id x hx => ?_, hR V' hV, hi.held hi' hg, fun id hl => by unfold nu; rw [if_pos hl]⟩
  by_cases hl : id < h.length
  · unfold nu; rw [if_pos hl]; exact hx
  · rw [hi.dom id (by omega)] at hx; cases hx

theorem tidy_ok {P : Program} {f : FuncId} {F : List Val → Heap → Option (Val × Heap)} (hF : ∀ args h v h2, F args h = some (v, h2) → Callable P f ∧ CallOk P f args h v h2 ∧ h.length ≤ h2.length)
    (args : List Val) (h : Heap) (v : Val) (h2 : Heap) (he : tidy F args h = some (v, h2)) : Callable P f ∧ CallOk P f args h v h2 ∧ h.length ≤ h2.length := by
  unfold tidy at he
  split at he
  · rename_i r hr
    cases he
    exact tidied_ok hF hr
  · exact hF args h v h2 he

theorem tidy_of {F : List Val → Heap → Option (Val × Heap)} {args : List Val} {h h' : Heap} {v v2 : Val} {ids : List Nat} (he : F args (ro h) = some (v, h')) (hc : canonV h' h.length v = some (v2, ids)) :
    tidy F args h = some (v2, h ++ ids.map (rd h')) := by
  have : tidied F args h = some (v2, h ++ ids.map (rd h')) := by
    unfold tidied
    rw [he]
    simp [hc]
  unfold tidy
  rw [this]

def Val.flat : Val → Bool
  | .c x => x.flat
  | .a l => flats l
  | .t l => l.all fun p => match p with
    | .c x => x.flat
    | .a l => flats l
  | _ => false

theorem canonC_flat {h : Heap} {b : Nat} {seen : List Nat} : ∀ {l : List Cell}, flats l = true → canonC h b seen l = some (l, seen)
  | [], _ => rfl
  | c :: l, hf => by
    rw [flats_cons, Bool.and_eq_true] at hf
    have ih := canonC_flat (h := h) (b := b) (seen := seen) hf.2
    unfold canonC
    rw [if_pos (Cell.low_of_flat hf.1), ih]; rfl

theorem canonP_flat {h : Heap} {b : Nat} {seen : List Nat} : ∀ {l : List Part}, (l.all fun p => match p with | .c x => x.flat | .a l => flats l) = true → canonP h b seen l = some (l, seen)
  | [], _ => rfl
  | .c x :: l, hf => by
    simp only [List.all_cons, Bool.and_eq_true] at hf
    have ih := canonP_flat (h := h) (b := b) (seen := seen) hf.2
    have h1 : canonC h b seen [x] = some ([x], seen) := canonC_flat (by simpa [flats] using hf.1)
    simp [canonP, h1, ih]
  | .a x :: l, hf => by
    simp only [List.all_cons, Bool.and_eq_true] at hf
    have ih := canonP_flat (h := h) (b := b) (seen := seen) hf.2
    have h1 : canonC h b seen x = some (x, seen) := canonC_flat hf.1
    simp [canonP, h1, ih]

theorem canonV_flat {h : Heap} {b : Nat} {v : Val} (hf : v.flat = true) : canonV h b v = some (v, []) := by
  cases v with
  | c x =>
    have h1 : canonC h b [] [x] = some ([x], []) := canonC_flat (by simp only [flats, List.all_cons, List.all_nil, Bool.and_true]; exact hf)
    simp [canonV, h1]
  | a l =>
    have h1 : canonC h b [] l = some (l, []) := canonC_flat hf
    simp [canonV, h1]
  | t l =>
    have h1 : canonP h b [] l = some (l, []) := canonP_flat hf
    simp [canonV, h1]
  | un => cases hf
  | no => cases hf

theorem tidy_flat {F : List Val → Heap → Option (Val × Heap)} {args : List Val} {h h' : Heap} {v : Val} (he : F args (ro h) = some (v, h')) (hf : v.flat = true) : tidy F args h = some (v, h) := by
  have := tidy_of he (canonV_flat (h := h') (b := h.length) hf)
  simpa using this

def lows (b : Nat) (l : List Cell) : Bool := l.all (Cell.low b)

def Val.low (b : Nat) : Val → Bool
  | .c x => x.low b
  | .a l => lows b l
  | .t l => l.all fun p => match p with
    | .c x => x.low b
    | .a l => lows b l
  | _ => false

theorem canonC_low {h : Heap} {b : Nat} {seen : List Nat} : ∀ {l : List Cell}, lows b l = true → canonC h b seen l = some (l, seen)
  | [], _ => rfl
  | c :: l, hf => by
    have hf : (c.low b && lows b l) = true := hf
    rw [Bool.and_eq_true] at hf
    have ih := canonC_low (h := h) (b := b) (seen := seen) hf.2
    unfold canonC
    rw [if_pos hf.1, ih]; rfl

theorem canonP_low {h : Heap} {b : Nat} {seen : List Nat} : ∀ {l : List Part}, (l.all fun p => match p with | .c x => x.low b | .a l => lows b l) = true → canonP h b seen l = some (l, seen)
  | [], _ => rfl
  | .c x :: l, hf => by
    simp only [List.all_cons, Bool.and_eq_true] at hf
    have ih := canonP_low (h := h) (b := b) (seen := seen) hf.2
    have h1 : canonC h b seen [x] = some ([x], seen) := canonC_low (by simpa [lows] using hf.1)
    simp [canonP, h1, ih]
  | .a x :: l, hf => by
    simp only [List.all_cons, Bool.and_eq_true] at hf
    have ih := canonP_low (h := h) (b := b) (seen := seen) hf.2
    have h1 : canonC h b seen x = some (x, seen) := canonC_low hf.1
    simp [canonP, h1, ih]

theorem tidy_low {F : List Val → Heap → Option (Val × Heap)} {args : List Val} {h h' : Heap} {v : Val} (he : F args (ro h) = some (v, h')) (hf : v.low h.length = true) : tidy F args h = some (v, h) := by
  have hc : canonV h' h.length v = some (v, []) := by
    cases v with
    | c x =>
      have h1 : canonC h' h.length [] [x] = some ([x], []) := canonC_low (by simp only [lows, List.all_cons, List.all_nil, Bool.and_true]; exact hf)
      simp [canonV, h1]
    | a l =>
      have h1 : canonC h' h.length [] l = some (l, []) := canonC_low hf
      simp [canonV, h1]
    | t l =>
      have h1 : canonP h' h.length [] l = some (l, []) := canonP_low hf
      simp [canonV, h1]
    | un => cases hf
    | no => cases hf
  have := tidy_of he hc
  simpa using this

@[simp] theorem lows_nil {b : Nat} : lows b [] = true := rfl
@[simp] theorem lows_cons {b : Nat} {c : Cell} {l : List Cell} : lows b (c :: l) = (c.low b && lows b l) := rfl
@[simp] theorem vlow_c {b : Nat} {x : Cell} : (Val.c x).low b = x.low b := rfl
@[simp] theorem vlow_a {b : Nat} {l : List Cell} : (Val.a l).low b = lows b l := rfl
@[simp] theorem vlow_t {b : Nat} {l : List Part} : (Val.t l).low b = l.all fun p => match p with | .c x => x.low b | .a l => lows b l := rfl
@[simp] theorem low_sl {b id off len sz : Nat} : (Cell.sl id off len sz).low b = decide (id < b) := rfl
@[simp] theorem low_i {b : Nat} {k : IntKind} {n : Int} : (Cell.i k n).low b = true := rfl
@[simp] theorem low_b {b : Nat} {x : Bool} : (Cell.b x).low b = true := rfl
@[simp] theorem low_s {b : Nat} {x : List UInt8} : (Cell.s x).low b = true := rfl
@[simp] theorem low_ns {b : Nat} : Cell.ns.low b = true := rfl
@[simp] theorem flats_nil : flats [] = true := rfl
@[simp] theorem flats_cons' {c : Cell} {l : List Cell} : flats (c :: l) = (c.flat && flats l) := rfl
@[simp] theorem flats_append {l m : List Cell} : flats (l ++ m) = (flats l && flats m) := by simp [flats]
@[simp] theorem flats_encB {l : List UInt8} : flats (encB l) = true := by simp [flats, encB, Cell.flat]
@[simp] theorem flat_b {x : Bool} : (Cell.b x).flat = true := rfl
@[simp] theorem flat_i {k : IntKind} {n : Int} : (Cell.i k n).flat = true := rfl
@[simp] theorem flat_s {x : List UInt8} : (Cell.s x).flat = true := rfl
@[simp] theorem flat_ns : Cell.ns.flat = true := rfl
@[simp] theorem flat_np : Cell.np.flat = true := rfl
@[simp] theorem vflat_c {x : Cell} : (Val.c x).flat = x.flat := rfl
@[simp] theorem vflat_a {l : List Cell} : (Val.a l).flat = flats l := rfl
@[simp] theorem vflat_t {l : List Part} : (Val.t l).flat = l.all fun p => match p with | .c x => x.flat | .a l => flats l := rfl
@[simp] theorem quiet_same {h : Heap} {v : Val} : quiet h (some (v, h)) = some (v, h) := quiet_grows Grows.rfl'

end Go.Esc
end
section
namespace Go.Esc
open Go

section
variable {h : Heap} {l : List (Option Row)} {k id : Nat}
@[simp] theorem rd_at : rd (h ++ l) (h.length + k) = (l[k]?).join := by
  unfold rd; rw [List.getElem?_append_right (by omega), Nat.add_sub_cancel_left]
@[simp] theorem rd_at0 : rd (h ++ l) h.length = (l[0]?).join := rd_at (k := 0)
@[simp] theorem set_at {x : Option Row} : (h ++ l).set (h.length + k) x = h ++ l.set k x := by
  rw [List.set_append_right _ _ (by omega), Nat.add_sub_cancel_left]
@[simp] theorem set_at0 {x : Option Row} : (h ++ l).set h.length x = h ++ l.set 0 x := set_at (k := 0)
end

section
variable {h : Heap} {id off n sz : Nat} {cs xs : List Cell} {x : Cell} {k : IntKind} {rw : Bool}
end

theorem take_append {l m : List Cell} {n : Nat} (hn : l.length = n) : (l ++ m).take n = l := by subst hn; simp

def Has (h : Heap) (v : Val) (sz n : Nat) (cs : List Cell) : Prop :=
  (v = .c .ns ∧ n = 0 ∧ cs = []) ∨ ∃ id off r, v = .c (.sl id off n sz) ∧ rd h id = some r ∧ cs.length = n * sz ∧ off + n * sz ≤ r.cells.length ∧ (r.cells.drop off).take (n * sz) = cs ∧ noX cs = true

section
variable {h : Heap} {v : Val} {sz n : Nat} {cs : List Cell}

theorem Has.length (hv : Has h v sz n cs) : cs.length = n * sz := by
  rcases hv with ⟨_, rfl, rfl⟩ | ⟨_, _, _, _, _, hl, _⟩
  · simp
  · exact hl
theorem Has.ro (hv : Has h v sz n cs) : Has (ro h) v sz n cs := by
  rcases hv with hv | ⟨id, off, r, rfl, hr, h1, h2, h3, h4⟩
  · exact .inl hv
  · exact .inr ⟨id, off, ⟨r.cells, false⟩, rfl, by rw [rd_ro, hr]; rfl, h1, h2, h3, h4⟩
theorem Has.more (hv : Has h v sz n cs) (l : Heap) : Has (h ++ l) v sz n cs := by
  rcases hv with hv | ⟨id, off, r, rfl, hr, h1, h2, h3, h4⟩
  · exact .inl hv
  · exact .inr ⟨id, off, r, rfl, rd_append hr, h1, h2, h3, h4⟩
theorem Has.len (hv : Has h v sz n cs) : alen v = some (.c (.i .i64 n)) := by
  rcases hv with ⟨rfl, rfl, rfl⟩ | ⟨id, off, r, rfl, _⟩ <;> rfl
theorem Has.cells (hv : Has h v sz n cs) : slcells h v = some cs := by
  rcases hv with ⟨rfl, rfl, rfl⟩ | ⟨id, off, r, rfl, hr, h1, h2, h3, h4⟩
  · rfl
  · simp only [slcells, hr, Option.bind_some]
    rw [if_pos ⟨h2, by rw [h3, h4]; simp⟩, h3]
theorem Has.add (hv : Has h v sz n cs) : addcells h sz v = some cs := by
  have := hv.cells
  rcases hv with ⟨rfl, rfl, rfl⟩ | ⟨id, off, r, rfl, _⟩
  · rfl
  · simp only [addcells, if_true]; exact this
theorem bytes?_encB : ∀ l : List UInt8, bytes? (encB l) = some l
  | [] => rfl
  | x :: l => by
    have h1 := x.toNat_lt
    have e : byte? (.i .u8 x.toNat) = some x := by
      simp only [byte?]
      rw [if_pos ⟨by omega, by omega⟩]; simp
    change (byte? (.i .u8 x.toNat)).bind (fun y => (bytes? (encB l)).map fun l => y :: l) = _
    rw [e, bytes?_encB l]; rfl
theorem Has.str {l : List UInt8} (hv : Has h v 1 n (encB l)) : ab2s h v = some (.c (.s l)) := by
  have := hv.cells
  rcases hv with ⟨rfl, rfl, e⟩ | ⟨id, off, r, rfl, _⟩
  · have : l = [] := by simpa [encB] using e
    subst this; rfl
  · simp only [ab2s, if_true, this, Option.bind_some, bytes?_encB, Option.map_some]
theorem Has.sl (hv : Has h v sz n cs) (hn : 0 < n) : ∃ id off, v = .c (.sl id off n sz) ∧ id < h.length ∧
    (∀ j c, cs[j]? = some c → aload1 h (.c (.p id (off + j))) = some (.c c)) ∧ ∀ j m, j + m ≤ cs.length → aloadN h m (.c (.p id (off + j))) = some (.a ((cs.drop j).take m)) := by
  rcases hv with ⟨rfl, rfl, rfl⟩ | ⟨id, off, r, rfl, hr, h1, h2, h3, h4⟩
  · omega
  · refine ⟨id, off, rfl, rd_lt hr, fun j c hc => ?_, fun j m hj => ?_⟩
    · have hlt : j < cs.length := (List.getElem?_eq_some_iff.1 hc).1
      have hx : c.isX = false := by
        have := List.all_eq_true.1 h4 c (List.mem_of_getElem? hc)
        simpa using this
      refine load1_of (cs := r.cells) (rw := r.rw) hr ?_ (by simp [hx])
      rw [← h3, List.getElem?_take_of_lt (by omega), List.getElem?_drop] at hc
      exact hc
    · have e : ((cs.drop j).take m) = (r.cells.drop (off + j)).take m := by
        rw [← h3, List.drop_take, List.take_take, List.drop_drop]
        congr 1
        omega
      rw [e]
      refine loadN_of (cs := r.cells) (rw := r.rw) hr (by omega) ?_
      rw [← e]
      have : noX ((cs.drop j).take m) = true := by
        refine List.all_eq_true.2 fun c hc => List.all_eq_true.1 h4 c ?_
        exact List.mem_of_mem_drop (List.mem_of_mem_take hc)
      simp [this]
end

theorem Has.row {h : Heap} {id sz n : Nat} {cs : List Cell} {rw : Bool} (hr : rd h id = some ⟨cs, rw⟩) (hl : cs.length = n * sz) (hx : noX cs = true) : Has h (.c (.sl id 0 n sz)) sz n cs :=
  .inr ⟨id, 0, _, rfl, hr, hl, by simp [hl], by simp [← hl], hx⟩

def Out (b : Nat) (h : Heap) (v : Val) (sz n : Nat) (cs : List Cell) : Prop :=
  cs.length = n * sz ∧ ∃ id, v = .c (.sl id 0 n sz) ∧ b ≤ id ∧ rd h id = some ⟨cs, true⟩

theorem Out.more {b : Nat} {h : Heap} {v : Val} {sz n : Nat} {cs : List Cell} (ho : Out b h v sz n cs) (l : Heap) : Out b (h ++ l) v sz n cs := by
  obtain ⟨hl, id, rfl, hb, hr⟩ := ho
  exact ⟨hl, id, rfl, hb, rd_append hr⟩

def Low (b : Nat) (h h' : Heap) : Prop := b ≤ h.length ∧ h.length ≤ h'.length ∧ ∀ id, id < b → rd h' id = rd h id

theorem Low.refl {b : Nat} {h : Heap} (hb : b ≤ h.length) : Low b h h := ⟨hb, Nat.le_refl _, fun _ _ => rfl⟩
theorem Low.trans {b : Nat} {h h' h'' : Heap} (h1 : Low b h h') (h2 : Low b h' h'') : Low b h h'' :=
  ⟨h1.1, Nat.le_trans h1.2.1 h2.2.1, fun id hid => (h2.2.2 id hid).trans (h1.2.2 id hid)⟩
theorem Low.new {b : Nat} {h h' : Heap} (h1 : Low b h h') (l : Heap) : Low b h (h' ++ l) :=
  ⟨h1.1, by have := h1.2.1; simp; omega, fun id hid => by rw [rd_append_left (by have := h1.1; have := h1.2.1; omega)]; exact h1.2.2 id hid⟩
theorem Low.set {b : Nat} {h h' : Heap} (h1 : Low b h h') {id : Nat} (hid : b ≤ id) (x : Option Row) : Low b h (h'.set id x) :=
  ⟨h1.1, by simpa using h1.2.1, fun j hj => by rw [rd_set_other (by omega)]; exact h1.2.2 j hj⟩
theorem Has.low {b : Nat} {h h' : Heap} {v : Val} {sz n : Nat} {cs : List Cell} (h1 : Low b h h') (hv : Has h v sz n cs) (hb : ∀ id off m, v = .c (.sl id off m sz) → id < b) : Has h' v sz n cs := by
  rcases hv with hv | ⟨id, off, r, rfl, hr, h2⟩
  · exact .inl hv
  · exact .inr ⟨id, off, r, rfl, by rw [h1.2.2 id (hb id off n rfl)]; exact hr, h2⟩

theorem Out.app {b : Nat} {h : Heap} {v y : Val} {sz n m : Nat} {cs ys : List Cell} (ho : Out b h v sz n cs) (hsz : 0 < sz) (hy : addcells h sz y = some ys) (hm : ys.length = m * sz) (hn : n + m ≤ 1073741824) :
    ∃ id v' h', v = .c (.sl id 0 n sz) ∧ aapp h sz v y = some (v', h') ∧ Out b h' v' sz (n + m) (cs ++ ys) ∧ Low b h h' ∧ (∀ i r, rd h i = some r → i ≠ id → rd h' i = some r) := by
  have hd : ys.length / sz = m := by rw [hm]; exact Nat.mul_div_cancel m hsz
  obtain ⟨hl, id, rfl, hbid, hr⟩ := ho
  have hlt := rd_lt hr
  refine ⟨id, _, h.set id none ++ [some ⟨cs ++ ys, true⟩], rfl, by simp only [aapp, hy, hr, Option.bind_some, hd]; rw [if_pos ⟨trivial, trivial, hl.symm, trivial, hn⟩], ⟨by simp [hl, hm, Nat.add_mul], h.length, rfl, by omega, ?_⟩, ((Low.refl (by omega)).set hbid none).new _, fun i r hi hne => ?_⟩
  · have := rd_new (h := h.set id none) (r := ⟨cs ++ ys, true⟩)
    rwa [List.length_set] at this
  · have hlt := rd_lt hi
    rw [rd_append_left (by simpa using hlt), rd_set_other (Ne.symm hne)]
    exact hi

theorem newRow_of {h : Heap} {id : Nat} {cs : List Cell} (hr : rd h id = some ⟨cs, true⟩) (hf : flats cs = true) : newRow h id = true := by simp [newRow, hr, hf]

theorem canon_sl {h : Heap} {b id off n sz : Nat} {cs : List Cell} (hb : b ≤ id) (hr : rd h id = some ⟨cs, true⟩) (hf : flats cs = true) : canonV h b (.c (.sl id off n sz)) = some (.c (.sl b off n sz), [id]) := by
  have : ¬ id < b := by omega
  simp [canonV, canonC, hb, this, newRow_of hr hf]

theorem tidy_out {F : List Val → Heap → Option (Val × Heap)} {args : List Val} {h h' : Heap} {v : Val} {sz n : Nat} {cs : List Cell} (he : F args (ro h) = some (v, h')) (ho : Out h.length h' v sz n cs) (hf : flats cs = true) :
    tidy F args h = some (.c (.sl h.length 0 n sz), h ++ [some ⟨cs, true⟩]) := by
  obtain ⟨hl, id, rfl, hb, hr⟩ := ho
  rw [tidy_of he (canon_sl hb hr hf)]
  simp [hr]

def encI (l : List Int) : List Cell := l.map fun n => .i .i64 n
theorem encI_length (l : List Int) : (encI l).length = l.length := by simp [encI]
theorem encI_get (l : List Int) (i : Nat) : (encI l)[i]? = (l[i]?).map fun x => .i .i64 x := by simp [encI]
@[simp] theorem flats_encI {l : List Int} : flats (encI l) = true := by simp [flats, encI, Cell.flat]
def encS (l : List (List UInt8)) : List Cell := l.map .s
@[simp] theorem flats_encS {l : List (List UInt8)} : flats (encS l) = true := by simp [flats, encS, Cell.flat]

abbrev Fun := List Val → Heap → Option (Val × Heap)
abbrev SmV := Sm (Val × Heap)
abbrev OptV := Option (Val × Heap)

def SOk (P : Program) (f : FuncId) (S : Fun) : Prop := ∀ args h v h2, S args h = some (v, h2) → Callable P f ∧ CallOk P f args h v h2 ∧ h.length ≤ h2.length

def disp (g : Nat) (S : Fun) (E : Sums) : Sums := fun f args h => bif Nat.beq f g then S args h else E f args h
def disp0 : Sums := fun _ _ _ => none
theorem sound0 {P : Program} : Sound P disp0 := fun _ _ _ _ _ h => by cases h
theorem sound1 {P : Program} {g : Nat} {S : Fun} {E : Sums} (hs : SOk P g S) (hE : Sound P E) : Sound P (disp g S E) := by
  intro f args h v h2 he
  unfold disp at he
  cases hb : Nat.beq f g with
  | true => rw [hb] at he; have e := Nat.eq_of_beq_eq_true hb; subst e; exact hs args h v h2 he
  | false => rw [hb] at he; exact hE f args h v h2 he

structure FnK (P : Program) (f : FuncId) (A : AFn) (E : Sums) (R : Nat → Fun) : Prop where
  run : ∀ n args h, A.run E n args h = R n args h
  ok : SOk P f (Lim A E)

theorem FnK.mk' {P : Program} {f : FuncId} {fn : Func} {A : AFn} {E : Sums} {R : Nat → Fun} (hE : Sound P E) (hf : P.funcs[f]? = some fn) (hc : chkFn P fn A = true) (hr : ∀ n args h, A.run E n args h = R n args h) : FnK P f A E R :=
  ⟨hr, fun _ _ _ _ he => (Lim_run he).elim fun _ e => fn_ok hE hf hc e⟩

section
variable {P : Program} {f : FuncId} {A : AFn} {E : Sums} {R : Nat → Fun}

theorem FnK.of (K : FnK P f A E R) {n : Nat} {args : List Val} {h : Heap} {p : Val × Heap} (he : R n args h = some p) : Lim A E args h = some p := Lim_of ((K.run ..).trans he)
theorem FnK.sok (K : FnK P f A E R) : SOk P f (tidy (Lim A E)) := fun args h v h2 he => tidy_ok K.ok args h v h2 he
theorem FnK.flat (K : FnK P f A E R) {n : Nat} {args : List Val} {h h2 : Heap} {v : Val} (he : R n args (ro h) = some (v, h2)) (hf : v.flat = true) : tidy (Lim A E) args h = some (v, h) := tidy_flat (K.of he) hf
theorem FnK.low (K : FnK P f A E R) {n : Nat} {args : List Val} {h h2 : Heap} {v : Val} (he : R n args (ro h) = some (v, h2)) (hf : v.low h.length = true) : tidy (Lim A E) args h = some (v, h) := tidy_low (K.of he) hf
theorem FnK.out (K : FnK P f A E R) {n : Nat} {args : List Val} {h h2 : Heap} {v : Val} {sz k : Nat} {cs : List Cell} (he : R n args (ro h) = some (v, h2)) (ho : Out h.length h2 v sz k cs) (hf : flats cs = true) : tidy (Lim A E) args h = some (.c (.sl h.length 0 k sz), h ++ [some ⟨cs, true⟩]) := tidy_out (K.of he) ho hf
theorem FnK.tidy (K : FnK P f A E R) {n : Nat} {args : List Val} {h h2 : Heap} {v v2 : Val} {ids : List Nat} (he : R n args (ro h) = some (v, h2)) (hc : canonV h2 h.length v = some (v2, ids)) : Esc.tidy (Lim A E) args h = some (v2, h ++ ids.map (rd h2)) := tidy_of (K.of he) hc
end

end Go.Esc
end
namespace Go.Esc
def aO (d : Nat) (x : AOp) : AOper := { dst := some d, op := x }
end Go.Esc
section
namespace Go.Esc
open Go Go.ChangeShapes Go.WideShapes Go.ChangeAt Go.RowKit

def fieldShapes (P : Program) (g : TypeId → Option (List Sh)) : List Field → Nat → Option (List Sh)
  | [], _ => some []
  | f :: r, off => if f.offset = off then (g f.type).bind fun l => if l.length = P.cellsOf f.type then (fieldShapes P g r (off + l.length)).map (l ++ ·) else none else none

def shapes (P : Program) : Nat → TypeId → Option (List Sh)
  | 0, _ => none
  | n + 1, t => match P.underlying t with
    | some .bool => some [.b]
    | some (.int k) => some [.i k]
    | some .string => some [.s]
    | some (.struct fs) => (fieldShapes P (shapes P n) fs.toList 0).bind fun l => if l.length = P.cellsOf t then some l else none
    | some (.array m e) => (shapes P n e).bind fun l => if l.length = P.cellsOf e ∧ P.cellsOf t = m * l.length then some (List.replicate m l).flatten else none
    | _ => none

def okCell : Sh → Cell → Prop
  | .b, .b _ => True
  | .i k, .i k' n => k' = k ∧ k.min ≤ n ∧ n ≤ k.max
  | .s, .s l => l.length ≤ maxLen
  | _, _ => False

theorem okCell.flat {s : Sh} {c : Cell} (h : okCell s c) : c.flat = true ∧ c.isX = false := by
  cases s <;> cases c <;> simp_all [okCell, Cell.flat, Cell.isX]

theorem okCells_flats : ∀ {l : List Sh} {cs : List Cell}, All2 okCell l cs → flats cs = true ∧ noX cs = true
  | [], [], _ => ⟨rfl, rfl⟩
  | s :: l, c :: cs, ⟨h1, h2⟩ => by
    have := okCells_flats h2
    have h3 := h1.flat
    simp [this.1, h3.1, noX, h3.2]
    have := this.2
    simpa [noX] using this
  | [], _ :: _, h => h.elim
  | _ :: _, [], h => h.elim

section
variable {H : Type} {enc : TypeId × Value → H} {P : Program} {w : World} {base : Nat} {spare : Nat → Bool} {held : Bool} {fuel : Nat} {t : TypeId} {cs : List Value} {x : DataW H × List MemPlace}

theorem trod_array {n : Nat} {e : TypeId} (ht : P.underlying t = some (.array n e)) (h : DataW.trod enc P w base spare held fuel t cs = some x) :
    ∃ (m : Nat) (xs : List (DataW H × List MemPlace)), cs.length = P.cellsOf t ∧ ∀ i, i < n → ∃ y, DataW.trod enc P w base spare held m e ((cs.drop (i * P.cellsOf e)).take (P.cellsOf e)) = some y := by
  cases fuel with
  | zero => simp [DataW.trod] at h
  | succ m =>
    unfold DataW.trod at h
    rw [ht] at h
    have h' : cs.length = P.cellsOf t ∧ ∃ xs, ((List.range n).mapM fun i => DataW.trod enc P w base spare held m e ((cs.drop (i * P.cellsOf e)).take (P.cellsOf e))) = some xs := by
      split at h <;> simp_all
      obtain ⟨hl, xs, hp, hd⟩ := h
      exact ⟨xs, hp⟩
    obtain ⟨hl, xs, hp⟩ := h'
    refine ⟨m, xs, hl, fun i hi => ?_⟩
    have := mapM_some_get hp i i (by simp [hi])
    rw [this]
    have hxl : xs.length = n := by simpa using mapM_some_length hp
    exact ⟨xs[i], List.getElem?_eq_getElem (by omega)⟩

theorem open_leaves (μ : Mu) : ∀ (n : Nat) {t : TypeId} {fuel : Nat} {cs : List Value} {x : DataW H × List MemPlace} {sh : List Sh}, DataW.trod enc P w base spare held fuel t cs = some x → shapes P n t = some sh →
    ∃ cells, All2 (RC μ) cells cs ∧ All2 okCell sh cells
  | 0, _, _, _, _, _, _, hs => by simp [shapes] at hs
  | n + 1, t, fuel, cs, x, sh, h, hs => by
    unfold shapes at hs
    split at hs
    · rename_i ht
      cases hs
      obtain ⟨b, rfl, _⟩ := DataW.trod_bool ht h
      exact ⟨[.b b], ⟨rfl, trivial⟩, ⟨trivial, trivial⟩⟩
    · rename_i k ht
      cases hs
      obtain ⟨m, rfl, _, hw⟩ := DataW.trod_int ht h
      simp only [Lit.wf, Bool.and_eq_true, decide_eq_true_eq] at hw
      exact ⟨[.i k m], ⟨rfl, trivial⟩, ⟨⟨rfl, hw⟩, trivial⟩⟩
    · rename_i ht
      cases hs
      obtain ⟨s, rfl, _, hw⟩ := DataW.trod_string ht h
      exact ⟨[.s s.data.toList], ⟨by show Value.string s = .string ⟨s.data.toList.toArray⟩; simp, trivial⟩, ⟨by show s.data.toList.length ≤ maxLen; simpa using hw, trivial⟩⟩
    · rename_i fs ht
      simp only [Option.bind_eq_some_iff] at hs
      obtain ⟨l, hl, hs⟩ := hs
      split at hs
      · rename_i hlen
        cases hs
        obtain ⟨xs, m, _, _, hcl, hxl, hf⟩ := DataW.trod_struct ht h
        have key : ∀ (r : List Field) (off : Nat) (l : List Sh), fieldShapes P (shapes P n) r off = some l → (∀ f ∈ r, ∃ y, DataW.trod enc P w base spare held m f.type ((cs.drop f.offset).take (P.cellsOf f.type)) = some y) →
            ∃ cells, All2 (RC μ) cells ((cs.drop off).take l.length) ∧ All2 okCell l cells := by
          intro r
          induction r with
          | nil => intro off l hl _; simp only [fieldShapes, Option.some.injEq] at hl; subst hl; exact ⟨[], by simp, trivial⟩
          | cons f r ih =>
            intro off l hl hall
            simp only [fieldShapes] at hl
            split at hl
            · rename_i ho
              simp only [Option.bind_eq_some_iff] at hl
              obtain ⟨lf, hlf, hl⟩ := hl
              split at hl
              · rename_i hc
                simp only [Option.map_eq_some_iff] at hl
                obtain ⟨lr, hlr, rfl⟩ := hl
                obtain ⟨y, hy⟩ := hall f (by simp)
                obtain ⟨c1, g1, g2⟩ := open_leaves μ n hy hlf
                obtain ⟨c2, g3, g4⟩ := ih (off + lf.length) lr hlr fun f' hf' => hall f' (by simp [hf'])
                refine ⟨c1 ++ c2, ?_, g2.append g4⟩
                have e : (cs.drop off).take (lf ++ lr).length = (cs.drop off).take lf.length ++ (cs.drop (off + lf.length)).take lr.length := by
                  rw [List.length_append, List.take_add, List.drop_drop]
                rw [e]
                rw [ho, ← hc] at g1
                exact g1.append g3
              · cases hl
            · cases hl
        have h1 := key fs.toList 0 _ hl fun f hf' => by
          obtain ⟨i, hi⟩ := List.mem_iff_getElem?.1 hf'
          have hi2 : fs[i]? = some f := by simpa using hi
          rw [hf i f hi2]
          have : i < fs.size := (Array.getElem?_eq_some_iff.1 hi2).1
          exact ⟨xs[i], List.getElem?_eq_getElem (by omega)⟩
        rw [List.drop_zero, List.take_of_length_le (by omega)] at h1
        exact h1
      · cases hs
    · rename_i k e ht
      simp only [Option.bind_eq_some_iff] at hs
      obtain ⟨l, hl, hs⟩ := hs
      split at hs
      · rename_i hlen
        cases hs
        obtain ⟨m, xs, hcl, hall⟩ := trod_array ht h
        have key : ∀ d j, j + d = k → ∃ cells, All2 (RC μ) cells (cs.drop (j * l.length)) ∧ All2 okCell (List.replicate d l).flatten cells := by
          intro d
          induction d with
          | zero =>
            intro j hj
            have : cs.drop (j * l.length) = [] := List.drop_of_length_le (by rw [hcl, hlen.2]; have : j = k := by omega
                                                                             subst this; exact Nat.le_refl _)
            rw [this]
            exact ⟨[], trivial, trivial⟩
          | succ d ih =>
            intro j hj
            obtain ⟨y, hy⟩ := hall j (by omega)
            obtain ⟨c1, g1, g2⟩ := open_leaves μ n hy hl
            obtain ⟨c2, g3, g4⟩ := ih (j + 1) (by omega)
            refine ⟨c1 ++ c2, ?_, ?_⟩
            · rw [← hlen.1] at g1
              have e2 : cs.drop (j * l.length) = (cs.drop (j * l.length)).take l.length ++ cs.drop ((j + 1) * l.length) := by
                rw [Nat.add_mul, Nat.one_mul, ← List.drop_drop, List.take_append_drop]
              rw [e2]
              exact g1.append g3
            · rw [List.replicate_succ, List.flatten_cons]; exact g2.append g4
        have h1 := key k 0 (by omega)
        simpa using h1
      · cases hs
    · cases hs

def aggTy (P : Program) (t : TypeId) : Bool :=
  match P.underlying t with
  | some (.struct _) => true
  | some (.array _ _) => true
  | _ => false

def oneVal : List Cell → Val
  | [c] => .c c
  | _ => .un

def flatVal (P : Program) (t : TypeId) (cells : List Cell) : Val := if aggTy P t = true then .a cells else oneVal cells

theorem open_flat (μ : Mu) {r : Reach} {b0 : Nat} {n : Nat} {v : Value} {d : DataW H} {ps : List MemPlace} {sh : List Sh} (hval : Value.okWide P w r b0 t v) (hd : DataW.Trod enc P w base spare held t v d ps) (hs : shapes P n t = some sh) :
    ∃ cells, All2 okCell sh cells ∧ RV μ (flatVal P t cells) v := by
  obtain ⟨fuel, h⟩ := hd
  obtain ⟨cells, h1, h2⟩ := open_leaves μ n h hs
  refine ⟨cells, h2, ?_⟩
  unfold flatVal aggTy
  unfold Value.okWide at hval
  split at hval
  · rename_i ht
    obtain ⟨cs, rfl, _, _⟩ := hval
    rw [ht]
    simp only [if_true]
    exact ⟨cs.toList, by simp, by simpa [Value.cells] using h1⟩
  · rename_i ht
    obtain ⟨cs, rfl, _, _⟩ := hval
    rw [ht]
    simp only [if_true]
    exact ⟨cs.toList, by simp, by simpa [Value.cells] using h1⟩
  · rename_i hn1 hn2
    have e : (match P.underlying t with | some (.struct _) => true | some (.array _ _) => true | _ => false) = false := by
      split
      · rename_i hh; exact (hn1 _ hh).elim
      · rename_i hh; exact (hn2 _ _ hh).elim
      · rfl
    rw [e]
    simp only [Bool.false_eq_true, if_false]
    have one : ∀ V, v.cells.toList = [V] → v = V → ∃ c, cells = [c] ∧ RC μ c v := by
      intro V hV e2
      rw [hV] at h1
      cases cells with
      | nil => exact h1.elim
      | cons c r => cases r with
        | nil => exact ⟨c, rfl, e2 ▸ h1.1⟩
        | cons => exact h1.2.elim
    have fin : ∀ c, cells = [c] ∧ RC μ c v → RV μ (oneVal cells) v := by
      rintro c ⟨rfl, hc⟩
      exact hc
    unfold shapes at hs
    cases n with
    | zero => simp at hs
    | succ n =>
      simp only at hs
      split at hs
      · rename_i ht
        obtain ⟨b, hb, _⟩ := DataW.trod_bool ht h
        unfold Cell.okWide at hval
        rw [ht] at hval
        have : ∃ b, v = .bool b := by
          cases v <;> simp_all [Cell.ok]
        obtain ⟨b, rfl⟩ := this
        obtain ⟨c, hc⟩ := one (.bool b) (by simp [Value.cells]) rfl
        exact fin c hc
      · rename_i k ht
        obtain ⟨m, rfl⟩ := okWide_int (P := P) ht (by unfold Value.okWide; rw [ht]; exact hval)
        obtain ⟨c, hc⟩ := one (.int k m) (by simp [Value.cells]) rfl
        exact fin c hc
      · rename_i ht
        obtain ⟨b, hb, _⟩ := DataW.trod_string ht h
        unfold Cell.okWide at hval
        rw [ht] at hval
        have : ∃ b, v = .string b := by
          cases v <;> simp_all [Cell.ok]
        obtain ⟨b, rfl⟩ := this
        obtain ⟨c, hc⟩ := one (.string b) (by simp [Value.cells]) rfl
        exact fin c hc
      · rename_i fs ht; exact (hn1 _ ht).elim
      · rename_i k e ht; exact (hn2 _ _ ht).elim
      · cases hs
end

def Mu.set (μ : Mu) (id : Nat) (y : Option (Nat × Nat)) : Mu := fun j => if j = id then y else μ j

def Opened (W : World) (μ : Mu) (h : Heap) : Prop := Inv (ctxOf W) μ h W ∧ ∀ id r, rd h id = some r → r.rw = false

theorem Opened.nought (W : World) : Opened W (fun _ => Option.none) [] := ⟨Inv.nought W, fun id r h => by simp [rd] at h⟩

section
variable {H : Type} {enc : TypeId × Value → H} {P : Program} {W : World} {base : Nat} {held : Bool} {t : TypeId}

end

theorem RV.flatVal {μ μ' : Mu} {P : Program} {t : TypeId} {cells : List Cell} {v : Value} (hf : flats cells = true) (h : RV μ (flatVal P t cells) v) : RV μ' (flatVal P t cells) v := by
  unfold Go.Esc.flatVal at h ⊢
  split
  · rename_i ha
    rw [if_pos ha] at h
    obtain ⟨vs, e, h2⟩ := h
    exact ⟨vs, e, All2.flat hf h2⟩
  · rename_i ha
    rw [if_neg ha] at h
    unfold oneVal at h ⊢
    split
    · rename_i c
      simp only [flats_cons', flats_nil, Bool.and_true] at hf
      exact RC.flat hf h
    · trivial

def inKind (k : IntKind) (n : Int) : Prop := k.min ≤ n ∧ n ≤ k.max

theorem inKind_u16 {n : Int} : inKind .u16 n ↔ 0 ≤ n ∧ n ≤ 65535 := Iff.rfl
section
variable {H : Type} {enc : TypeId × Value → H} {P : Program} {W : World} {base : Nat} {spare : Nat → Bool} {held : Bool} {t : TypeId} {r : Reach} {b0 n : Nat} {v : Value} {d : DataW H} {ps : List MemPlace}

theorem arg_one {s : Sh} (hval : Value.okWide P W r b0 t v) (hd : DataW.Trod enc P W base spare held t v d ps) (hs : shapes P n t = some [s]) (ha : aggTy P t = false) : ∃ c, okCell s c ∧ ∀ μ, RV μ (.c c) v := by
  obtain ⟨cells, h1, h2⟩ := open_flat (fun _ => none) hval hd hs
  cases cells with
  | nil => exact h1.elim
  | cons c l => cases l with
    | cons => exact h1.2.elim
    | nil =>
      refine ⟨c, h1.1, fun μ => ?_⟩
      have := RV.flatVal (μ' := μ) (okCells_flats h1).1 h2
      unfold flatVal at this
      rwa [if_neg (by rw [ha]; simp)] at this

theorem arg_int {k : IntKind} (hval : Value.okWide P W r b0 t v) (hd : DataW.Trod enc P W base spare held t v d ps) (hs : shapes P n t = some [.i k]) (ha : aggTy P t = false) : ∃ m, inKind k m ∧ ∀ μ, RV μ (.c (.i k m)) v := by
  obtain ⟨c, h1, h2⟩ := arg_one hval hd hs ha
  cases c with
  | i k' m => obtain ⟨rfl, h1⟩ := h1; exact ⟨m, h1, h2⟩
  | _ => exact h1.elim

end

end Go.Esc
end
section
namespace Go.Esc
open Go

theorem Has.tr {h : Heap} {id sz n : Nat} {cs : List Cell} (hr : rd h id = some ⟨cs, true⟩) (hl : cs.length = n * sz) (hx : noX cs = true) : Has h (.c (.sl id 0 n sz)) sz n cs := Has.row hr hl hx

theorem Has.since {g h : Heap} {v : Val} {sz n : Nat} {cs : List Cell} (hv : Has g v sz n cs) (h1 : Low g.length g h) : Has h v sz n cs := by
  rcases hv with hv | ⟨id, off, r, rfl, hr, h2⟩
  · exact .inl hv
  · exact .inr ⟨id, off, r, rfl, by rw [h1.2.2 id (rd_lt hr)]; exact hr, h2⟩

theorem Low.rd {g h : Heap} (h1 : Low g.length g h) {id : Nat} {r : Row} (hr : rd g id = some r) : rd h id = some r := by
  rw [h1.2.2 id (rd_lt hr)]; exact hr

theorem push {g h : Heap} {id n sz : Nat} {cs ys : List Cell} (hlow : Low g.length g h) (hr : rd h id = some ⟨cs, true⟩) (hl : cs.length = n * sz) (hb : g.length ≤ id) (hy : ys.length = sz) (hsz : 0 < sz) (hn : n + 1 ≤ 1073741824) :
    ∃ h', aapp (h ++ [some ⟨ys, true⟩]) sz (.c (.sl id 0 n sz)) (.c (.sl h.length 0 1 sz)) = some (.c (.sl (h.length + 1) 0 (n + 1) sz), h') ∧ rd h' (h.length + 1) = some ⟨cs ++ ys, true⟩ ∧ Low g.length g h' ∧ g.length ≤ h.length + 1 ∧ (cs ++ ys).length = (n + 1) * sz := by
  have hlt := rd_lt hr
  have h1 : rd (h ++ [some ⟨ys, true⟩]) id = some ⟨cs, true⟩ := rd_append hr
  have h2 : addcells (h ++ [some ⟨ys, true⟩]) sz (.c (.sl h.length 0 1 sz)) = some ys := by
    have := (Has.row (h := h ++ [some ⟨ys, true⟩]) (id := h.length) (sz := sz) (n := 1) (cs := ys) (rw := true) (by simp) (by omega))
    simp [addcells, slcells, hy, List.take_of_length_le (Nat.le_of_eq hy)]
  refine ⟨(h ++ [some (Row.mk ys true)]).set id none ++ [some (Row.mk (cs ++ ys) true)], ?_, ?_, ((hlow.new _).set hb none).new _, by have := hlow.2.1; omega, by simp [hl, hy, Nat.add_mul]⟩
  · simp only [aapp, h2, h1, Option.bind_some, hy, Nat.div_self hsz]
    rw [if_pos ⟨trivial, trivial, hl.symm, trivial, hn⟩]
    simp
  · have := rd_new (h := (h ++ [some (Row.mk ys true)]).set id none) (r := Row.mk (cs ++ ys) true)
    rw [List.length_set] at this
    simpa using this

def ldN (r : Option Row) (off n : Nat) : Option Val := r.bind fun r => if off + n ≤ r.cells.length ∧ (r.rw || noX ((r.cells.drop off).take n)) = true then some (.a ((r.cells.drop off).take n)) else none
def ld1 (r : Option Row) (off : Nat) : Option Val := r.bind fun r => (r.cells[off]?).bind fun c => bif r.rw || !c.isX then some (.c c) else none
def stN (r : Option Row) (off n : Nat) (xs : List Cell) : Option Row := r.bind fun r => if r.rw = true ∧ xs.length = n ∧ off + n ≤ r.cells.length then some ⟨lay r.cells off xs, true⟩ else none
def st1 (r : Option Row) (off : Nat) (x : Cell) : Option Row := r.bind fun r => if r.rw = true ∧ off < r.cells.length then some ⟨r.cells.set off x, true⟩ else none
def slr (r : Option Row) (id off n sz : Nat) : Option Val := r.bind fun r => if off + n * sz ≤ r.cells.length then some (.c (.sl id off n sz)) else none

section
variable {h : Heap} {l : List (Option Row)} {k off n sz : Nat} {cs xs : List Cell} {x : Cell} {kd : IntKind}
theorem aloadN_at : aloadN (h ++ l) n (.c (.p (h.length + k) off)) = ldN (l[k]?).join off n := by simp [aloadN, ldN]
theorem aloadN_at0 : aloadN (h ++ l) n (.c (.p h.length off)) = ldN (l[0]?).join off n := by simp [aloadN, ldN]
theorem aload1_at : aload1 (h ++ l) (.c (.p (h.length + k) off)) = ld1 (l[k]?).join off := by simp [aload1, ld1]
theorem aload1_at0 : aload1 (h ++ l) (.c (.p h.length off)) = ld1 (l[0]?).join off := by simp [aload1, ld1]
theorem astoreN_at : astoreN (h ++ l) n (.c (.p (h.length + k) off)) (.a xs) = mp (stN (l[k]?).join off n xs) fun r => h ++ l.set k (some r) := by
  simp only [astoreN, stN, rd_at]
  cases (l[k]?).join with
  | none => rfl
  | some r => simp only [Option.bind_some]; split <;> simp [mp]
theorem astoreN_at0 : astoreN (h ++ l) n (.c (.p h.length off)) (.a xs) = mp (stN (l[0]?).join off n xs) fun r => h ++ l.set 0 (some r) := astoreN_at (k := 0)
theorem astore1_at : astore1 (h ++ l) (.c (.p (h.length + k) off)) (.c x) = mp (st1 (l[k]?).join off x) fun r => h ++ l.set k (some r) := by
  simp only [astore1, st1, rd_at]
  cases (l[k]?).join with
  | none => rfl
  | some r => simp only [Option.bind_some]; split <;> simp [mp]
theorem astore1_at0 : astore1 (h ++ l) (.c (.p h.length off)) (.c x) = mp (st1 (l[0]?).join off x) fun r => h ++ l.set 0 (some r) := astore1_at (k := 0)
theorem aslA_at : aslA (h ++ l) n sz (.c (.p (h.length + k) off)) none none = slr (l[k]?).join (h.length + k) off n sz := by
  simp [aslA, slr, bound]
theorem aslA_at0 : aslA (h ++ l) n sz (.c (.p h.length off)) none none = slr (l[0]?).join h.length off n sz := aslA_at (k := 0)
theorem ldN_all (hl : cs.length = n) : ldN (some ⟨cs, true⟩) 0 n = some (.a cs) := by
  subst hl; simp [ldN]
theorem ld1_row : ld1 (some ⟨cs, true⟩) off = (cs[off]?).map .c := by
  simp only [ld1, Option.bind_some, Bool.true_or, cond_true]
  cases cs[off]? <;> rfl
theorem stN_all (hl : cs.length = n) (hx : xs.length = n) : stN (some ⟨cs, true⟩) 0 n xs = some ⟨xs, true⟩ := by
  simp only [stN, Option.bind_some]
  rw [if_pos ⟨trivial, hx, by omega⟩, lay_all (by omega)]
theorem st1_row (ho : off < cs.length) : st1 (some ⟨cs, true⟩) off x = some ⟨cs.set off x, true⟩ := by
  simp only [st1, Option.bind_some]
  rw [if_pos ⟨trivial, ho⟩]
theorem slr_all (hl : cs.length = n) {id : Nat} {rw : Bool} : slr (some ⟨cs, rw⟩) id 0 n 1 = some (.c (.sl id 0 n 1)) := by
  simp only [slr, Option.bind_some]
  rw [if_pos (by omega)]
end

section
variable {k : IntKind} {a b : Int}
theorem abin_shl {k' : IntKind} (hb : 0 ≤ b) : abin .shl (.c (.i k a)) (.c (.i k' b)) = some (.c (.i k (k.wrap (a * 2 ^ (Nat.min b.toNat k.bits))))) := by
  simp only [abin, ishl]; rw [if_neg (by omega)]; rfl
theorem abin_shr {k' : IntKind} (hb : 0 ≤ b) : abin .shr (.c (.i k a)) (.c (.i k' b)) = some (.c (.i k (a / (2 ^ (Nat.min b.toNat k.bits))))) := by
  simp only [abin, ishr]; rw [if_neg (by omega), Int.fdiv_eq_ediv_of_nonneg _ (Int.pow_nonneg (by omega))]; rfl
end

theorem or_u64 {a b : Nat} (ha : a < 18446744073709551616) (hb : b < 18446744073709551616) : abin .or (.c (.i .u64 a)) (.c (.i .u64 b)) = some (.c (.i .u64 ((a ||| b : Nat) : Int))) := by
  rw [abin_or]
  congr 3
  have h1 : (IntKind.u64).bits = 64 := rfl
  have h2 : (a ||| b) < 2 ^ 64 := Nat.or_lt_two_pow (by simpa using ha) (by simpa using hb)
  rw [h1]
  simp only [BitVec.ofInt_natCast, BitVec.toNat_or, BitVec.toNat_ofNat]
  rw [Nat.mod_eq_of_lt (by simpa using ha), Nat.mod_eq_of_lt (by simpa using hb)]
  exact wrap_u64 (by omega) (by omega)

theorem or_i64 {a b : Nat} (ha : a < 9223372036854775808) (hb : b < 9223372036854775808) : abin .or (.c (.i .i64 a)) (.c (.i .i64 b)) = some (.c (.i .i64 ((a ||| b : Nat) : Int))) := by
  rw [abin_or]
  congr 3
  have h1 : (IntKind.i64).bits = 64 := rfl
  have h2 : (a ||| b) < 2 ^ 63 := Nat.or_lt_two_pow (by simpa using ha) (by simpa using hb)
  rw [h1]
  simp only [BitVec.ofInt_natCast, BitVec.toNat_or, BitVec.toNat_ofNat]
  rw [Nat.mod_eq_of_lt (by omega), Nat.mod_eq_of_lt (by omega)]
  exact wrap_i64 (by omega) (by omega)

theorem xor_u32 {a b : Nat} (ha : a < 4294967296) (hb : b < 4294967296) : abin .xor (.c (.i .u32 a)) (.c (.i .u32 b)) = some (.c (.i .u32 ((a ^^^ b : Nat) : Int))) := by
  rw [abin_xor]
  congr 3
  have h1 : (IntKind.u32).bits = 32 := rfl
  have h2 : (a ^^^ b) < 2 ^ 32 := Nat.xor_lt_two_pow (by simpa using ha) (by simpa using hb)
  rw [h1]
  simp only [BitVec.ofInt_natCast, BitVec.toNat_xor, BitVec.toNat_ofNat]
  rw [Nat.mod_eq_of_lt (by omega), Nat.mod_eq_of_lt (by omega)]
  exact wrap_u32 (by omega) (by omega)

theorem wrap_u8_mod {a : Int} : IntKind.wrap .u8 a = a % 256 := by
  simp only [IntKind.wrap, IntKind.bits, IntKind.signed, Bool.false_and]
  rfl

theorem or_add {a b i : Nat} (ha : a < 2 ^ i) : (a ||| b * 2 ^ i) = a + b * 2 ^ i := by
  rw [Nat.mul_comm b, Nat.or_comm, ← Nat.two_pow_add_eq_or_of_lt ha]; omega

theorem wi_add {a b : Nat} (h : a + b < 9223372036854775808) : IntKind.wrap .i64 ((a : Int) + b) = ((a + b : Nat) : Int) := by rw [wrap_i64 (by omega) (by omega)]; omega
theorem wi_succ {a : Nat} (h : a + 1 < 9223372036854775808) : IntKind.wrap .i64 ((a : Int) + 1) = ((a + 1 : Nat) : Int) := by rw [wrap_i64 (by omega) (by omega)]; omega
theorem shl_step {k : IntKind} {x : UInt8} {i : Nat} (hi : i < 8) (hk : IntKind.wrap k ((x.toNat * 256 ^ i : Nat) : Int) = ((x.toNat * 256 ^ i : Nat) : Int)) (hb : k.bits = 64) :
    abin .shl (.c (.i k x.toNat)) (.c (.i .u64 (8 * (i : Int)))) = some (.c (.i k ((x.toNat * 256 ^ i : Nat) : Int))) := by
  rw [abin_shl (by omega), hb]
  have : Nat.min (8 * (i : Int)).toNat 64 = 8 * i := by
    have : (8 * (i : Int)).toNat = 8 * i := by omega
    rw [this]; exact Nat.min_eq_left (by omega)
  rw [this]
  have hp : (256 : Nat) ^ i = 2 ^ (8 * i) := by rw [Nat.pow_mul]
  have e : (x.toNat : Int) * 2 ^ (8 * i) = ((x.toNat * 256 ^ i : Nat) : Int) := by rw [hp]; simp
  rw [e, hk]

theorem pow256_le {i n : Nat} (h : i ≤ n) : 256 ^ i ≤ 256 ^ n := Nat.pow_le_pow_right (by omega) h
theorem byte_pow_lt {x : UInt8} {i n : Nat} (h : i < n) : x.toNat * 256 ^ i < 256 ^ n := by
  have h1 := x.toNat_lt
  have h2 : x.toNat * 256 ^ i ≤ 255 * 256 ^ i := Nat.mul_le_mul_right _ (by omega)
  have h3 : 256 ^ (i + 1) ≤ 256 ^ n := pow256_le h
  have h4 : 0 < 256 ^ i := Nat.pow_pos (by omega)
  rw [Nat.pow_succ] at h3
  omega
def byI (v : Int) (i : Nat) : UInt8 := UInt8.ofNat ((v / 256 ^ i) % 256).toNat

theorem byI_int (v : Int) (i : Nat) : ((byI v i).toNat : Int) = v / 256 ^ i % 256 := by
  have h1 : 0 ≤ v / 256 ^ i % 256 := Int.emod_nonneg _ (by omega)
  have h2 : v / 256 ^ i % 256 < 256 := Int.emod_lt_of_pos _ (by omega)
  unfold byI
  rw [UInt8.toNat_ofNat']
  omega

def bytesI (w : Nat) (v : Int) : List UInt8 := (List.range w).map (byI v)
@[simp] theorem bytesI_length {w : Nat} {v : Int} : (bytesI w v).length = w := by simp [bytesI]
theorem bytesI_succ {w : Nat} {v : Int} : bytesI (w + 1) v = bytesI w v ++ [byI v w] := by simp [bytesI, List.range_succ]

def le : List UInt8 → Nat
  | [] => 0
  | x :: r => x.toNat + 256 * le r

theorem le_lt : ∀ l : List UInt8, le l < 256 ^ l.length
  | [] => by simp [le]
  | x :: r => by
    have h1 := le_lt r
    have h2 := x.toNat_lt
    simp only [le, List.length_cons, Nat.pow_succ]
    omega

theorem le_append (l m : List UInt8) : le (l ++ m) = le l + 256 ^ l.length * le m := by
  induction l with
  | nil => simp [le]
  | cons x r ih =>
    simp only [List.cons_append, le, ih, List.length_cons, Nat.pow_succ, Nat.mul_add]
    rw [Nat.mul_comm (256 ^ r.length) 256, Nat.mul_assoc]
    omega

theorem le_snoc (l : List UInt8) (x : UInt8) : le (l ++ [x]) = le l + x.toNat * 256 ^ l.length := by
  rw [le_append]; simp [le, Nat.mul_comm]

theorem or_step {l : List UInt8} {x : UInt8} : (le l ||| x.toNat * 256 ^ l.length) = le (l ++ [x]) := by
  have hp : (256 : Nat) ^ l.length = 2 ^ (8 * l.length) := by rw [Nat.pow_mul]
  rw [le_snoc, hp, or_add (by rw [← hp]; exact le_lt l)]

theorem byte_step {v : Int} {i : Nat} (hi : i < 8) : IntKind.wrap .u8 (v / 2 ^ (Nat.min (8 * (i : Int)).toNat 64)) = ((byI v i).toNat : Int) := by
  have : Nat.min (8 * (i : Int)).toNat 64 = 8 * i := by
    have : (8 * (i : Int)).toNat = 8 * i := by omega
    rw [this]; exact Nat.min_eq_left (by omega)
  rw [this, wrap_u8_mod, byI_int]
  congr 2
  rw [Int.pow_mul]; rfl

theorem take_succ_get {α : Type} {l : List α} {a i : Nat} (h : a + i < l.length) : (l.drop a).take (i + 1) = (l.drop a).take i ++ [l[a + i]] := by
  have h2 : i < (l.drop a).length := by simp; omega
  rw [List.take_succ_eq_append_getElem h2]
  simp

def layB (l : List UInt8) (a : Nat) (xs : List UInt8) : List UInt8 := l.take a ++ (xs ++ l.drop (a + xs.length))

theorem layB_length {l xs : List UInt8} {a : Nat} (h : a + xs.length ≤ l.length) : (layB l a xs).length = l.length := by
  simp [layB]; omega
theorem layB_nil {l : List UInt8} {a : Nat} : layB l a [] = l := by simp [layB]
theorem layB_snoc {l xs : List UInt8} {a : Nat} {x : UInt8} (h : a + xs.length < l.length) : (layB l a xs).set (a + xs.length) x = layB l a (xs ++ [x]) := by
  unfold layB
  have h1 : (l.take a).length = a := by simp; omega
  rw [List.set_append_right _ _ (by rw [h1]; omega), h1, Nat.add_sub_cancel_left, List.set_append_right _ _ (Nat.le_refl _), Nat.sub_self, List.append_assoc]
  congr 2
  rw [List.drop_eq_getElem_cons (by omega)]
  simp [Nat.add_assoc]
theorem idxS_of {s : List UInt8} {i : Nat} (hi : i < s.length) {k : IntKind} : aidxS (.c (.s s)) (.c (.i k i)) = some (.c (.i .u8 s[i].toNat)) := by
  rw [aidxS_s, List.getElem?_eq_getElem hi]; rfl

theorem encB_sh (l : List UInt8) : (encB l).map Cell.sh = (List.replicate l.length (Sh.i .u8)).map some := by
  induction l with
  | nil => rfl
  | cons x l ih => simp only [encB, List.map_cons, List.length_cons, List.replicate_succ] at ih ⊢; rw [ih]; rfl
theorem aeq_t {l m : List UInt8} {n : Nat} (hl : l.length = n) (hm : m.length = n) : aeq true (List.replicate n (.i .u8)) (.a (encB l)) (.a (encB m)) = some (.c (.b (!decide (l = m)))) := by
  simp only [aeq]
  rw [if_pos ⟨by rw [encB_sh, hl], by rw [encB_sh, hm]⟩]
  simp [encB_inj]
theorem Has.part {h : Heap} {id sz off n : Nat} {cs xs : List Cell} {rw : Bool} (hr : rd h id = some ⟨cs, rw⟩) (ho : off + n * sz ≤ cs.length) (he : (cs.drop off).take (n * sz) = xs) (hx : noX xs = true) : Has h (.c (.sl id off n sz)) sz n xs :=
  .inr ⟨id, off, _, rfl, hr, by rw [← he]; simp; omega, ho, he, hx⟩

def newOk : Option Row → Bool
  | some r => r.rw
  | none => true
theorem newOk_some {cs : List Cell} : newOk (some ⟨cs, true⟩) = true := rfl

theorem quiet_ext {g l l' : Heap} {v : Val} (hp : l <+: l') (hn : (l'.drop l.length).all newOk = true) : quiet (g ++ l) (some (v, g ++ l')) = some (v, g ++ l') := by
  obtain ⟨t, rfl⟩ := hp
  rw [List.drop_left] at hn
  refine quiet_grows ⟨⟨t, by rw [List.append_assoc]⟩, fun id x hid hx => ?_⟩
  have hx := rd_some.1 hx
  rw [← List.append_assoc, List.getElem?_append_right hid] at hx
  exact List.all_eq_true.1 hn _ (List.mem_of_getElem? hx)

theorem afAddr_p {id o off : Nat} : afAddr (.c (.p id o)) off = some (.c (.p id (o + off))) := Eq.trans rfl rfl

theorem rem_i {a b : Int} {k : IntKind} (ha : 0 ≤ a) (hb : 0 < b) : abin .rem (.c (.i k a)) (.c (.i k b)) = some (.c (.i k (a % b))) := by
  rw [abin_rem (by omega), Int.tmod_eq_emod_of_nonneg ha]
theorem quo_i64 {a b : Int} (ha : 0 ≤ a) (ha2 : a < 9223372036854775808) (hb : 0 < b) : abin .quo (.c (.i .i64 a)) (.c (.i .i64 b)) = some (.c (.i .i64 (a / b))) := by
  have h1 : 0 ≤ a / b := Int.ediv_nonneg ha (by omega)
  have h2 : a / b ≤ a := Int.ediv_le_self _ ha
  rw [abin_quo (by omega), Int.tdiv_eq_ediv_of_nonneg ha, wrap_i64 (by omega) (by omega)]

theorem app_of {h : Heap} {id jd n m sz : Nat} {cs ys : List Cell} {rw : Bool} (hr : rd h id = some ⟨cs, true⟩) (hl : cs.length = n * sz) (hy : rd h jd = some ⟨ys, rw⟩) (hyl : ys.length = m * sz) (hx : (rw || noX ys) = true) (hsz : 0 < sz) (hn : n + m ≤ 1073741824) :
    aapp h sz (.c (.sl id 0 n sz)) (.c (.sl jd 0 m sz)) = some (.c (.sl h.length 0 (n + m) sz), h.set id none ++ [some ⟨cs ++ ys, true⟩]) := by
  have h2 : addcells h sz (.c (.sl jd 0 m sz)) = some ys := by
    simp only [addcells, if_true, slcells, hy, Option.bind_some, List.drop_zero, Nat.zero_add]
    rw [← hyl, List.take_length, if_pos ⟨Nat.le_refl _, hx⟩]
  have hd : ys.length / sz = m := by rw [hyl]; exact Nat.mul_div_cancel m hsz
  simp only [aapp, h2, hr, Option.bind_some, hd]
  rw [if_pos ⟨trivial, trivial, hl.symm, trivial, hn⟩]

end Go.Esc
end
namespace Go.Esc
def esc := And.intro @afAddr_p (And.intro @List.append_nil.{0} (And.intro @if_true.{1} (And.intro @if_false.{1} (And.intro @bnd_some (And.intro @mp_some (And.intro @cnd_t (And.intro @cnd_f (And.intro @gd_no (And.intro @gd_tt (And.intro @gd_tf (And.intro @gd_ft (And.intro @gd_ff (And.intro @alenS_s (And.intro @alen_sl (And.intro @alen_ns (And.intro @abin_add (And.intro @abin_sub (And.intro @abin_mul (And.intro @abin_eql (And.intro @abin_neq (And.intro @abin_lss (And.intro @abin_leq (And.intro @abin_gtr (And.intro @abin_geq (And.intro @abin_seql (And.intro @abin_sneq (And.intro @abin_slss (And.intro @aun_not (And.intro @aun_neg (And.intro @agn_some (And.intro @aeqN_nf (And.intro @aeqN_f (And.intro @aeqN_np (And.intro @aeqN_p (And.intro @anilc_p (And.intro @aeqB_t (And.intro @aeqB_f (And.intro @aconv_i (And.intro @apick_b (And.intro @cond_true.{1} (And.intro @cond_false.{1} (And.intro @decide_true (And.intro @decide_false (And.intro @Bool.not_true (And.intro @Bool.not_false (And.intro @aext_t (And.intro @ofPart_c (And.intro @ofPart_a (And.intro @part?_c (And.intro @part?_a (And.intro @cells?_c (And.intro @cells?_a (And.intro @tupN_2 (And.intro @tupN_3 (And.intro @Option.map_some.{0,0} (And.intro @Option.some.injEq.{0} (And.intro @List.getElem?_cons_zero.{0} (And.intro @List.getElem?_cons_succ.{0} (And.intro @not_true_eq_false (And.intro @not_false_eq_true (And.intro @quiet_same (And.intro @bytesI_length (And.intro @Option.join_some.{0} (And.intro @List.append_assoc.{0} (And.intro @List.cons_append.{0} (And.intro @List.nil_append.{0} (And.intro @List.length_append.{0} (And.intro @List.length_cons.{0} (And.intro @List.length_nil.{0} (And.intro @Nat.zero_add (And.intro @Nat.add_zero (And.intro @rd_at (And.intro @rd_at0 (And.intro @set_at (And.intro @set_at0 (And.intro @List.set_cons_zero.{0} (And.intro @List.set_cons_succ.{0} (And.intro @ne_eq.{1} (And.intro @decide_not (And.intro @quiet_ext (And.intro @newOk_some (And.intro @List.cons_prefix_cons.{0} (And.intro @List.nil_prefix.{0} (And.intro @List.drop_succ_cons.{0} (And.intro @List.drop_zero.{0} (And.intro @List.all_cons.{0} (And.intro @List.all_nil.{0} (And.intro @Bool.and_true (And.intro @true_and (@and_true))))))))))))))))))))))))))))))))))))))))))))))))))))))))))))))))))))))))))))))))))))))))))
def esh := And.intro @aloadN_at (And.intro @aloadN_at0 (And.intro @aload1_at (And.intro @aload1_at0 (And.intro @astoreN_at (And.intro @astoreN_at0 (And.intro @astore1_at (And.intro @astore1_at0 (And.intro @aslA_at (And.intro @aslA_at0 (And.intro @ldN_all (And.intro @ld1_row (And.intro @stN_all (And.intro @st1_row (@slr_all))))))))))))))
end Go.Esc
section
namespace Go.Proofs.Ytdgggnlbdoiloaa
open Go Go.Esc

abbrev Dev := List (List UInt8)
def cellsD (D : Dev) : List Cell := (D.map encB).flatten
def okD (D : Dev) : Prop := ∀ b ∈ D, b.length = 256
theorem okD.cons {b : List UInt8} {D : Dev} (h : okD (b :: D)) : b.length = 256 ∧ okD D := ⟨h b (List.mem_cons_self ..), fun x hx => h x (List.mem_cons_of_mem _ hx)⟩
theorem okD.at {D : Dev} (h : okD D) {i : Nat} (hi : i < D.length) : D[i].length = 256 := h _ (List.getElem_mem hi)
theorem okD.take {D : Dev} (h : okD D) (i : Nat) : okD (D.take i) := fun b hb => h b (List.mem_of_mem_take hb)
theorem cellsD_cons {b : List UInt8} {D : Dev} : cellsD (b :: D) = encB b ++ cellsD D := rfl
theorem cellsD_length : ∀ {D : Dev}, okD D → (cellsD D).length = D.length * 256
  | [], _ => rfl
  | b :: D, h => by
    rw [cellsD_cons, List.length_append, encB_length, h.cons.1, cellsD_length h.cons.2, List.length_cons]; omega
theorem noX_cellsD : ∀ (D : Dev), noX (cellsD D) = true
  | [] => rfl
  | b :: D => by
    rw [cellsD_cons]
    have h1 := noX_encB b
    have h2 := noX_cellsD D
    simp only [noX, List.all_append, Bool.and_eq_true] at h1 h2 ⊢
    exact ⟨h1, h2⟩
theorem cellsD_at : ∀ {D : Dev} {i : Nat} (h : okD D) (hi : i < D.length), ((cellsD D).drop (i * 256)).take 256 = encB D[i]
  | b :: D, 0, h, hi => by
    have hb : (encB b).length = 256 := by rw [encB_length, h.cons.1]
    rw [cellsD_cons, Nat.zero_mul, List.drop_zero, ← hb, List.take_left']
    · rfl
    · rfl
  | b :: D, i + 1, h, hi => by
    have hb : (encB b).length = 256 := by rw [encB_length, h.cons.1]
    have e : (i + 1) * 256 = 256 + i * 256 := by omega
    rw [cellsD_cons, e, ← List.drop_drop, ← hb, List.drop_left', hb]
    · exact cellsD_at h.cons.2 (by simpa using hi)
    · rfl

theorem lay_dev : ∀ {D : Dev} {i : Nat} {b : List UInt8} (h : okD D) (hb : b.length = 256) (hi : i < D.length), lay (cellsD D) (i * 256) (encB b) = cellsD (D.set i b)
  | c :: D, 0, b, h, hb, hi => by
    have e : (encB c).length = 256 + 0 := by rw [encB_length, h.cons.1]
    unfold lay
    rw [cellsD_cons, List.set_cons_zero, cellsD_cons, Nat.zero_mul, encB_length, hb, Nat.zero_add, List.take_zero, List.drop_left' (by rw [encB_length, h.cons.1])]
    rfl
  | c :: D, i + 1, b, h, hb, hi => by
    have ih := lay_dev (i := i) h.cons.2 hb (by simpa using hi)
    have hc : (encB c).length = 256 := by rw [encB_length, h.cons.1]
    unfold lay at ih ⊢
    rw [cellsD_cons, List.set_cons_succ, cellsD_cons, show (i + 1) * 256 = 256 + i * 256 by omega, List.take_append, List.drop_append, List.take_of_length_le (by omega), List.drop_of_length_le (by omega), hc, show 256 + i * 256 - 256 = i * 256 by omega, show 256 + i * 256 + (encB b).length - 256 = i * 256 + (encB b).length by omega, ← ih]
    simp only [List.append_assoc, List.nil_append]
theorem rows_dev (n : Nat) : rows (List.replicate 256 (Cell.i .u8 0)) n = cellsD (List.replicate n (zeros 256)) := by
  rw [zeros_enc]
  unfold rows cellsD
  rw [List.map_replicate]
theorem okD_zeros (n : Nat) : okD (List.replicate n (zeros 256)) := fun b hb => by rw [List.eq_of_mem_replicate hb]; exact zeros_length
theorem okD.set {D : Dev} (h : okD D) {i : Nat} {b : List UInt8} (hb : b.length = 256) : okD (D.set i b) := fun x hx => by
  rcases List.mem_or_eq_of_mem_set hx with hx | rfl
  · exact h x hx
  · exact hb
theorem stN_dev {i : Nat} {D : Dev} {b : List UInt8} (hD : okD D) (hb : b.length = 256) (hi : i < D.length) : stN (some ⟨cellsD D, true⟩) (i * 256) 256 (encB b) = some ⟨cellsD (D.set i b), true⟩ := by
  simp only [stN, Option.bind_some]
  rw [if_pos ⟨trivial, by rw [encB_length, hb], by rw [cellsD_length hD]; omega⟩, lay_dev hD hb hi]

def blk (D : Dev) (i : Int) : List UInt8 := if 0 ≤ i then D.getD i.toNat (zeros 256) else zeros 256
theorem blk_length {D : Dev} (h : okD D) {i : Int} : (blk D i).length = 256 := by
  unfold blk
  split
  · rw [List.getD_eq_getElem?_getD]
    rcases Nat.lt_or_ge i.toNat D.length with hl | hl
    · rw [List.getElem?_eq_getElem hl]; exact h.at hl
    · rw [List.getElem?_eq_none hl]; exact zeros_length
  · exact zeros_length
theorem blk_at {D : Dev} {i : Nat} (hi : i < D.length) : blk D (i : Int) = D[i] := by
  unfold blk
  rw [if_pos (by omega), Int.toNat_natCast, List.getD_eq_getElem?_getD, List.getElem?_eq_getElem hi]; rfl
theorem blk_none {D : Dev} {i : Int} (hi : i < 0 ∨ (D.length : Int) ≤ i) : blk D i = zeros 256 := by
  unfold blk
  split
  · rw [List.getD_eq_getElem?_getD, List.getElem?_eq_none (by omega)]; rfl
  · rfl

end Go.Proofs.Ytdgggnlbdoiloaa
end
noncomputable section
namespace Go.Proofs.Ytdgggnlbdoiloaa
open Go Go.Esc
set_option maxRecDepth 100000
def num_Lay_o0 : List AOper := [aO 3 (.box (.t 0)), aO 6 (.alloc (List.replicate 256 (.i .u8 0)))]
def num_Lay_c0 : ACode := .ops num_Lay_o0
def num_Lay_o1 : List AOper := [aO 9 (.mv (.t 1)), aO 10 (.bin .lss (.t 9) (.v (.c (.i .i64 0)))), aO 11 (.mv (.t 10)), { dst := some 12, op := .mv (.t 1), guard := some (11, false) }, { dst := some 13, op := .bin .geq (.t 12) (.v (.c (.i .i64 256))), guard := some (11, false) }, aO 14 (.pick (.t 11) (.v (.c (.b true))) (.t 13))]
def num_Lay_c1 : ACode := .ops num_Lay_o1
def num_Lay_o2 : List AOper := [aO 15 (.loadN 256 (.t 3)), { dst := none, op := .storeN 256 (.t 6) (.t 15) }]
def num_Lay_c2 : ACode := .ops num_Lay_o2
def num_Lay_c3 : ACode := .seq [6] num_Lay_c2 .ret
def num_Lay_c4 : ACode := .cond (.t 14) num_Lay_c3 .skip
def num_Lay_c5 : ACode := .seq [1, 2, 3, 6, 14] num_Lay_c1 num_Lay_c4
def num_Lay_o3 : List AOper := [aO 16 (.mv (.t 2)), aO 17 (.len (.t 16)), aO 18 (.mv (.v (.c (.i .i64 0))))]
def num_Lay_c6 : ACode := .ops num_Lay_o3
def num_Lay_o4 : List AOper := [aO 19 (.bin .lss (.t 18) (.t 17))]
def num_Lay_c7 : ACode := .ops num_Lay_o4
def num_Lay_c8 : ACode := .cond (.t 19) .skip (.exit 0)
def num_Lay_o5 : List AOper := [aO 20 (.mv (.t 18)), aO 21 (.iAddrL 1 (.t 16) (.t 18)), aO 22 (.load1 (.t 21)), aO 7 (.mv (.t 20)), aO 8 (.mv (.t 22))]
def num_Lay_c9 : ACode := .ops num_Lay_o5
def num_Lay_o6 : List AOper := [aO 23 (.mv (.t 7)), aO 24 (.mv (.t 1)), aO 25 (.bin .sub (.v (.c (.i .i64 256))) (.t 24)), aO 26 (.bin .geq (.t 23) (.t 25))]
def num_Lay_c10 : ACode := .ops num_Lay_o6
def num_Lay_c11 : ACode := .cond (.t 26) (.exit 0) .skip
def num_Lay_c12 : ACode := .seq [1, 3, 6, 7, 8, 16, 17, 18, 26] num_Lay_c10 num_Lay_c11
def num_Lay_o7 : List AOper := [aO 27 (.mv (.t 1)), aO 28 (.mv (.t 7)), aO 29 (.bin .add (.t 27) (.t 28)), aO 30 (.mv (.t 8)), aO 31 (.iAddrA 256 1 (.t 3) (.t 29)), { dst := none, op := .store1 (.t 31) (.t 30) }]
def num_Lay_c13 : ACode := .ops num_Lay_o7
def num_Lay_c14 : ACode := .seq [1, 3, 6, 7, 8, 16, 17, 18] num_Lay_c12 num_Lay_c13
def num_Lay_c15 : ACode := .seq [1, 3, 6, 7, 8, 16, 17, 18] num_Lay_c9 num_Lay_c14
def num_Lay_c16 : ACode := .block 1 num_Lay_c15
def num_Lay_o8 : List AOper := [aO 32 (.bin .add (.t 18) (.v (.c (.i .i64 1)))), aO 18 (.mv (.t 32))]
def num_Lay_c17 : ACode := .ops num_Lay_o8
def num_Lay_c18 : ACode := .seq [1, 3, 6, 16, 17, 18] num_Lay_c16 num_Lay_c17
def num_Lay_c19 : ACode := .seq [1, 3, 6, 16, 17, 18] num_Lay_c8 num_Lay_c18
def num_Lay_c20 : ACode := .seq [1, 3, 6, 16, 17, 18, 19] num_Lay_c7 num_Lay_c19
def num_Lay_c21 : ACode := .loop [1, 3, 6, 16, 17, 18] num_Lay_c20
def num_Lay_c22 : ACode := .block 0 num_Lay_c21
def num_Lay_c23 : ACode := .seq [1, 3, 6, 16, 17, 18] num_Lay_c6 num_Lay_c22
def num_Lay_o9 : List AOper := [aO 33 (.loadN 256 (.t 3)), { dst := none, op := .storeN 256 (.t 6) (.t 33) }]
def num_Lay_c24 : ACode := .ops num_Lay_o9
def num_Lay_c25 : ACode := .seq [6] num_Lay_c24 .ret
def num_Lay_c26 : ACode := .seq [3, 6] num_Lay_c23 num_Lay_c25
def num_Lay_c27 : ACode := .seq [1, 2, 3, 6] num_Lay_c5 num_Lay_c26
def num_Lay_c28 : ACode := .seq [1, 2, 3, 6] num_Lay_c0 num_Lay_c27
def A_num_Lay : AFn := ⟨num_Lay_c28, [.cellN 6 256]⟩
def E_num_Lay : Sums := disp0
def num_Lay_c0_d (n : Nat) : SmV := smOps E_num_Lay num_Lay_o0
def num_Lay_c1_d (n : Nat) : SmV := smOps E_num_Lay num_Lay_o1
def num_Lay_c2_d (n : Nat) : SmV := smOps E_num_Lay num_Lay_o2
def num_Lay_c3_d (n : Nat) : SmV := smSeq [6] (num_Lay_c2_d n) smRet
def num_Lay_c4_d (n : Nat) : SmV := smCond (.t 14) (num_Lay_c3_d n) smSkip
def num_Lay_c5_d (n : Nat) : SmV := smSeq [1, 2, 3, 6, 14] (num_Lay_c1_d n) (num_Lay_c4_d n)
def num_Lay_c6_d (n : Nat) : SmV := smOps E_num_Lay num_Lay_o3
def num_Lay_c7_d (n : Nat) : SmV := smOps E_num_Lay num_Lay_o4
def num_Lay_c8_d (n : Nat) : SmV := smCond (.t 19) smSkip (smExit 0)
def num_Lay_c9_d (n : Nat) : SmV := smOps E_num_Lay num_Lay_o5
def num_Lay_c10_d (n : Nat) : SmV := smOps E_num_Lay num_Lay_o6
def num_Lay_c11_d (n : Nat) : SmV := smCond (.t 26) (smExit 0) smSkip
def num_Lay_c12_d (n : Nat) : SmV := smSeq [1, 3, 6, 7, 8, 16, 17, 18, 26] (num_Lay_c10_d n) (num_Lay_c11_d n)
def num_Lay_c13_d (n : Nat) : SmV := smOps E_num_Lay num_Lay_o7
def num_Lay_c14_d (n : Nat) : SmV := smSeq [1, 3, 6, 7, 8, 16, 17, 18] (num_Lay_c12_d n) (num_Lay_c13_d n)
def num_Lay_c15_d (n : Nat) : SmV := smSeq [1, 3, 6, 7, 8, 16, 17, 18] (num_Lay_c9_d n) (num_Lay_c14_d n)
def num_Lay_c16_d (n : Nat) : SmV := smBlock 1 (num_Lay_c15_d n)
def num_Lay_c17_d (n : Nat) : SmV := smOps E_num_Lay num_Lay_o8
def num_Lay_c18_d (n : Nat) : SmV := smSeq [1, 3, 6, 16, 17, 18] (num_Lay_c16_d n) (num_Lay_c17_d n)
def num_Lay_c19_d (n : Nat) : SmV := smSeq [1, 3, 6, 16, 17, 18] (num_Lay_c8_d n) (num_Lay_c18_d n)
def num_Lay_c20_d (n : Nat) : SmV := smSeq [1, 3, 6, 16, 17, 18, 19] (num_Lay_c7_d n) (num_Lay_c19_d n)
def num_Lay_c21_d (n : Nat) : SmV := smLoop n [1, 3, 6, 16, 17, 18] (num_Lay_c20_d n)
def num_Lay_c22_d (n : Nat) : SmV := smBlock 0 (num_Lay_c21_d n)
def num_Lay_c23_d (n : Nat) : SmV := smSeq [1, 3, 6, 16, 17, 18] (num_Lay_c6_d n) (num_Lay_c22_d n)
def num_Lay_c24_d (n : Nat) : SmV := smOps E_num_Lay num_Lay_o9
def num_Lay_c25_d (n : Nat) : SmV := smSeq [6] (num_Lay_c24_d n) smRet
def num_Lay_c26_d (n : Nat) : SmV := smSeq [3, 6] (num_Lay_c23_d n) (num_Lay_c25_d n)
def num_Lay_c27_d (n : Nat) : SmV := smSeq [1, 2, 3, 6] (num_Lay_c5_d n) (num_Lay_c26_d n)
def num_Lay_c28_d (n : Nat) : SmV := smSeq [1, 2, 3, 6] (num_Lay_c0_d n) (num_Lay_c27_d n)
def num_Lay_k0 (n : Nat) : AExit → Env → Heap → OptV := fun x e h => match x with | .normal => hold ((num_Lay_c25_d n) A_num_Lay.fin (e.keep [3, 6]) h) | .exit id => A_num_Lay.fin (.exit id) e h | .ret => A_num_Lay.fin .ret e h
def num_Lay_k1 (n : Nat) : AExit → Env → Heap → OptV := fun x e h => match x with | .exit i => bif Nat.beq i 0 then (num_Lay_k0 n) .normal e h else (num_Lay_k0 n) (.exit i) e h | .normal => (num_Lay_k0 n) .normal e h | .ret => (num_Lay_k0 n) .ret e h
def num_Lay_l0 (n m : Nat) (x1 x3 x6 x16 x17 x18 : Val) (h : Heap) : OptV := around (num_Lay_c20_d n) [1, 3, 6, 16, 17, 18] (num_Lay_k1 n) m [(1, x1), (3, x3), (6, x6), (16, x16), (17, x17), (18, x18)] h
def R_num_Lay (n : Nat) (args : List Val) (h : Heap) : OptV := (num_Lay_c28_d n) A_num_Lay.fin (params 0 args) h
def num_Lay_j0 (n : Nat) (x3 x6 : Val) (h : Heap) : OptV := hold ((num_Lay_c25_d n) A_num_Lay.fin [(3, x3), (6, x6)] h)
theorem R_num_Lay_eq (n : Nat) (a0 a1 a2 : Val) (h : Heap) : R_num_Lay n [a0, a1, a2] h = bnd (cells? a0) fun c1 => bnd (abin .lss a1 (.c (.i .i64 0))) fun v2 => bnd (gd v2 false (some (a1, ((h ++ [some (Row.mk (c1) true)]) ++ [some (Row.mk (List.replicate 256 (.i .u8 0)) true)]))) (some (.no, ((h ++ [some (Row.mk (c1) true)]) ++ [some (Row.mk (List.replicate 256 (.i .u8 0)) true)])))) fun p3 => bnd (gd v2 false (bnd (abin .geq p3.1 (.c (.i .i64 256))) fun v4 => some (v4, p3.2)) (some (.no, p3.2))) fun p5 => bnd (apick v2 (.c (.b true)) p5.1) fun v6 => cnd v6 (bnd (aloadN p5.2 256 ((.c (.p h.length 0)))) fun v7 => bnd (astoreN p5.2 256 ((.c (.p ((h ++ [some (Row.mk (c1) true)])).length 0))) v7) fun h8 => mp (aloadN h8 256 ((.c (.p ((h ++ [some (Row.mk (c1) true)])).length 0)))) fun v => (v, h8)) (bnd (alen a2) fun v9 => num_Lay_l0 n n a1 ((.c (.p h.length 0))) ((.c (.p ((h ++ [some (Row.mk (c1) true)])).length 0))) a2 v9 (.c (.i .i64 0)) p5.2) := by kernel_rfl
theorem num_Lay_l0_eq (n m : Nat) (x1 x3 x6 x16 x17 x18 : Val) (h : Heap) : num_Lay_l0 n (m + 1) x1 x3 x6 x16 x17 x18 h = bnd (abin .lss x18 x17) fun v10 => cnd v10 (bnd (aiAddrL 1 x16 x18) fun v11 => bnd (aload1 h v11) fun v12 => bnd (abin .sub (.c (.i .i64 256)) x1) fun v13 => bnd (abin .geq x18 v13) fun v14 => cnd v14 (num_Lay_j0 n x3 x6 h) (bnd (abin .add x1 x18) fun v15 => bnd (aiAddrA 256 1 x3 v15) fun v16 => bnd (astore1 h v16 v12) fun h17 => bnd (abin .add x18 (.c (.i .i64 1))) fun v18 => num_Lay_l0 n m x1 x3 x6 x16 x17 v18 h17)) (num_Lay_j0 n x3 x6 h) := by kernel_rfl
theorem num_Lay_j0_eq (n : Nat) (x3 x6 : Val) (h : Heap) : num_Lay_j0 n x3 x6 h = bnd (aloadN h 256 x3) fun v19 => bnd (astoreN h 256 x6 v19) fun h20 => mp (aloadN h20 256 x6) fun v => (v, h20) := by kernel_rfl
theorem K_num_Lay : FnK Try.prog 98 A_num_Lay E_num_Lay R_num_Lay := .mk' (sound0) Try.func98 (by kernel_rfl) (by intro n args h; kernel_rfl)
def S_num_Lay : Fun := tidy (Lim A_num_Lay E_num_Lay)
theorem S_num_Lay_ok : SOk Try.prog 98 S_num_Lay := K_num_Lay.sok
theorem S_num_Lay_flat {n : Nat} {args : List Val} {h h2 : Heap} {v : Val} (he : R_num_Lay n args (ro h) = some (v, h2)) (hf : v.flat = true) : S_num_Lay args h = some (v, h) := K_num_Lay.flat he hf
def num_Of_o0 : List AOper := [aO 2 (.alloc (List.replicate 256 (.i .u8 0)))]
def num_Of_c0 : ACode := .ops num_Of_o0
def num_Of_o1 : List AOper := [aO 3 (.build (List.replicate 256 (.i .u8 0)) []), aO 4 (.mv (.t 0)), aO 5 (.call 98 [(.t 3), (.v (.c (.i .i64 0))), (.t 4)]), { dst := none, op := .storeN 256 (.t 2) (.t 5) }]
def num_Of_c1 : ACode := .ops num_Of_o1
def num_Of_c2 : ACode := .seq [2] num_Of_c1 .ret
def num_Of_c3 : ACode := .seq [0, 2] num_Of_c0 num_Of_c2
def A_num_Of : AFn := ⟨num_Of_c3, [.cellN 2 256]⟩
def E_num_Of : Sums := disp 98 S_num_Lay disp0
def num_Of_c0_d (n : Nat) : SmV := smOps E_num_Of num_Of_o0
def num_Of_c1_d (n : Nat) : SmV := smOps E_num_Of num_Of_o1
def num_Of_c2_d (n : Nat) : SmV := smSeq [2] (num_Of_c1_d n) smRet
def num_Of_c3_d (n : Nat) : SmV := smSeq [0, 2] (num_Of_c0_d n) (num_Of_c2_d n)
def R_num_Of (n : Nat) (args : List Val) (h : Heap) : OptV := (num_Of_c3_d n) A_num_Of.fin (params 0 args) h
theorem R_num_Of_eq (n : Nat) (a0 : Val) (h : Heap) : R_num_Of n [a0] h = bnd (afill (List.replicate 256 (.i .u8 0)) []) fun c1 => bnd (S_num_Lay [(.a c1), .c (.i .i64 0), a0] ((h ++ [some (Row.mk (List.replicate 256 (.i .u8 0)) true)]))) fun p2 => bnd (astoreN p2.2 256 ((.c (.p h.length 0))) p2.1) fun h3 => mp (aloadN h3 256 ((.c (.p h.length 0)))) fun v => (v, h3) := by kernel_rfl
theorem K_num_Of : FnK Try.prog 95 A_num_Of E_num_Of R_num_Of := .mk' (sound1 S_num_Lay_ok sound0) Try.func95 (by kernel_rfl) (by intro n args h; kernel_rfl)
def S_num_Of : Fun := tidy (Lim A_num_Of E_num_Of)
theorem S_num_Of_ok : SOk Try.prog 95 S_num_Of := K_num_Of.sok
theorem S_num_Of_flat {n : Nat} {args : List Val} {h h2 : Heap} {v : Val} (he : R_num_Of n args (ro h) = some (v, h2)) (hf : v.flat = true) : S_num_Of args h = some (v, h) := K_num_Of.flat he hf
def num_there_o0 : List AOper := [aO 6 (.mv (.v (.c (.b false))))]
def num_there_c0 : ACode := .ops num_there_o0
def num_there_o1 : List AOper := [aO 7 (.mv (.t 0)), aO 8 (.bin .geq (.t 7) (.v (.c (.i .i64 0)))), aO 9 (.mv (.t 8)), { dst := some 10, op := .mv (.t 1), guard := some (9, true) }, { dst := some 11, op := .bin .geq (.t 10) (.v (.c (.i .i64 1))), guard := some (9, true) }, aO 12 (.pick (.t 9) (.t 11) (.v (.c (.b false)))), aO 13 (.mv (.t 12)), { dst := some 14, op := .mv (.t 1), guard := some (13, true) }, { dst := some 15, op := .mv (.t 2), guard := some (13, true) }, { dst := some 16, op := .bin .leq (.t 14) (.t 15), guard := some (13, true) }, aO 17 (.pick (.t 13) (.t 16) (.v (.c (.b false)))), aO 18 (.mv (.t 17)), { dst := some 19, op := .mv (.t 0), guard := some (18, true) }, { dst := some 20, op := .mv (.t 2), guard := some (18, true) }, { dst := some 21, op := .mv (.t 1), guard := some (18, true) }, { dst := some 22, op := .bin .sub (.t 20) (.t 21), guard := some (18, true) }, { dst := some 23, op := .bin .leq (.t 19) (.t 22), guard := some (18, true) }, aO 24 (.pick (.t 18) (.t 23) (.v (.c (.b false)))), aO 6 (.mv (.t 24))]
def num_there_c1 : ACode := .ops num_there_o1
def num_there_c2 : ACode := .seq [6] num_there_c1 .ret
def num_there_c3 : ACode := .seq [0, 1, 2] num_there_c0 num_there_c2
def A_num_there : AFn := ⟨num_there_c3, [.tmp 6]⟩
def E_num_there : Sums := disp0
def num_there_c0_d (n : Nat) : SmV := smOps E_num_there num_there_o0
def num_there_c1_d (n : Nat) : SmV := smOps E_num_there num_there_o1
def num_there_c2_d (n : Nat) : SmV := smSeq [6] (num_there_c1_d n) smRet
def num_there_c3_d (n : Nat) : SmV := smSeq [0, 1, 2] (num_there_c0_d n) (num_there_c2_d n)
def R_num_there (n : Nat) (args : List Val) (h : Heap) : OptV := (num_there_c3_d n) A_num_there.fin (params 0 args) h
theorem R_num_there_eq (n : Nat) (a0 a1 a2 : Val) (h : Heap) : R_num_there n [a0, a1, a2] h = bnd (abin .geq a0 (.c (.i .i64 0))) fun v1 => bnd (gd v1 true (some (a1, h)) (some (.no, h))) fun p2 => bnd (gd v1 true (bnd (abin .geq p2.1 (.c (.i .i64 1))) fun v3 => some (v3, p2.2)) (some (.no, p2.2))) fun p4 => bnd (apick v1 p4.1 (.c (.b false))) fun v5 => bnd (gd v5 true (some (a1, p4.2)) (some (.no, p4.2))) fun p6 => bnd (gd v5 true (some (a2, p6.2)) (some (.no, p6.2))) fun p7 => bnd (gd v5 true (bnd (abin .leq p6.1 p7.1) fun v8 => some (v8, p7.2)) (some (.no, p7.2))) fun p9 => bnd (apick v5 p9.1 (.c (.b false))) fun v10 => bnd (gd v10 true (some (a0, p9.2)) (some (.no, p9.2))) fun p11 => bnd (gd v10 true (some (a2, p11.2)) (some (.no, p11.2))) fun p12 => bnd (gd v10 true (some (a1, p12.2)) (some (.no, p12.2))) fun p13 => bnd (gd v10 true (bnd (abin .sub p12.1 p13.1) fun v14 => some (v14, p13.2)) (some (.no, p13.2))) fun p15 => bnd (gd v10 true (bnd (abin .leq p11.1 p15.1) fun v16 => some (v16, p15.2)) (some (.no, p15.2))) fun p17 => bnd (apick v10 p17.1 (.c (.b false))) fun v18 => some (v18, p17.2) := by kernel_rfl
theorem K_num_there : FnK Try.prog 131 A_num_there E_num_there R_num_there := .mk' (sound0) Try.func131 (by kernel_rfl) (by intro n args h; kernel_rfl)
def S_num_there : Fun := tidy (Lim A_num_there E_num_there)
theorem S_num_there_ok : SOk Try.prog 131 S_num_there := K_num_there.sok
theorem S_num_there_flat {n : Nat} {args : List Val} {h h2 : Heap} {v : Val} (he : R_num_there n args (ro h) = some (v, h2)) (hf : v.flat = true) : S_num_there args h = some (v, h) := K_num_there.flat he hf
def num_With_o0 : List AOper := [aO 4 (.box (.t 0)), aO 8 (.alloc (List.replicate 256 (.i .u8 0)))]
def num_With_c0 : ACode := .ops num_With_o0
def num_With_o1 : List AOper := [aO 10 (.mv (.t 2)), aO 11 (.bin .gtr (.t 10) (.v (.c (.i .i64 4)))), aO 12 (.mv (.t 11)), { dst := some 13, op := .mv (.t 1), guard := some (12, false) }, { dst := some 14, op := .mv (.t 2), guard := some (12, false) }, { dst := some 15, op := .call 131 [(.t 13), (.t 14), (.v (.c (.i .i64 256)))], guard := some (12, false) }, { dst := some 16, op := .un .not (.t 15), guard := some (12, false) }, aO 17 (.pick (.t 12) (.v (.c (.b true))) (.t 16))]
def num_With_c1 : ACode := .ops num_With_o1
def num_With_o2 : List AOper := [aO 18 (.loadN 256 (.t 4)), { dst := none, op := .storeN 256 (.t 8) (.t 18) }]
def num_With_c2 : ACode := .ops num_With_o2
def num_With_c3 : ACode := .seq [8] num_With_c2 .ret
def num_With_c4 : ACode := .cond (.t 17) num_With_c3 .skip
def num_With_c5 : ACode := .seq [1, 2, 3, 4, 8, 17] num_With_c1 num_With_c4
def num_With_o3 : List AOper := [aO 19 (.mv (.t 2)), aO 20 (.mv (.v (.c (.i .i64 0))))]
def num_With_c6 : ACode := .ops num_With_o3
def num_With_o4 : List AOper := [aO 21 (.bin .lss (.t 20) (.t 19))]
def num_With_c7 : ACode := .ops num_With_o4
def num_With_c8 : ACode := .cond (.t 21) .skip (.exit 0)
def num_With_o5 : List AOper := [aO 22 (.mv (.t 20)), aO 9 (.mv (.t 22))]
def num_With_c9 : ACode := .ops num_With_o5
def num_With_o6 : List AOper := [aO 23 (.mv (.t 1)), aO 24 (.mv (.t 9)), aO 25 (.bin .add (.t 23) (.t 24)), aO 26 (.mv (.t 3)), aO 27 (.mv (.t 9)), aO 28 (.bin .mul (.v (.c (.i .i64 8))) (.t 27)), aO 29 (.conv .u64 (.t 28)), aO 30 (.bin .shr (.t 26) (.t 29)), aO 31 (.conv .u8 (.t 30)), aO 32 (.iAddrA 256 1 (.t 4) (.t 25)), { dst := none, op := .store1 (.t 32) (.t 31) }]
def num_With_c10 : ACode := .ops num_With_o6
def num_With_c11 : ACode := .seq [1, 3, 4, 8, 9, 19, 20] num_With_c9 num_With_c10
def num_With_c12 : ACode := .block 1 num_With_c11
def num_With_o7 : List AOper := [aO 33 (.bin .add (.t 20) (.v (.c (.i .i64 1)))), aO 20 (.mv (.t 33))]
def num_With_c13 : ACode := .ops num_With_o7
def num_With_c14 : ACode := .seq [1, 3, 4, 8, 19, 20] num_With_c12 num_With_c13
def num_With_c15 : ACode := .seq [1, 3, 4, 8, 19, 20] num_With_c8 num_With_c14
def num_With_c16 : ACode := .seq [1, 3, 4, 8, 19, 20, 21] num_With_c7 num_With_c15
def num_With_c17 : ACode := .loop [1, 3, 4, 8, 19, 20] num_With_c16
def num_With_c18 : ACode := .block 0 num_With_c17
def num_With_c19 : ACode := .seq [1, 3, 4, 8, 19, 20] num_With_c6 num_With_c18
def num_With_o8 : List AOper := [aO 34 (.loadN 256 (.t 4)), { dst := none, op := .storeN 256 (.t 8) (.t 34) }]
def num_With_c20 : ACode := .ops num_With_o8
def num_With_c21 : ACode := .seq [8] num_With_c20 .ret
def num_With_c22 : ACode := .seq [4, 8] num_With_c19 num_With_c21
def num_With_c23 : ACode := .seq [1, 2, 3, 4, 8] num_With_c5 num_With_c22
def num_With_c24 : ACode := .seq [1, 2, 3, 4, 8] num_With_c0 num_With_c23
def A_num_With : AFn := ⟨num_With_c24, [.cellN 8 256]⟩
def E_num_With : Sums := disp 131 S_num_there disp0
def num_With_c0_d (n : Nat) : SmV := smOps E_num_With num_With_o0
def num_With_c1_d (n : Nat) : SmV := smOps E_num_With num_With_o1
def num_With_c2_d (n : Nat) : SmV := smOps E_num_With num_With_o2
def num_With_c3_d (n : Nat) : SmV := smSeq [8] (num_With_c2_d n) smRet
def num_With_c4_d (n : Nat) : SmV := smCond (.t 17) (num_With_c3_d n) smSkip
def num_With_c5_d (n : Nat) : SmV := smSeq [1, 2, 3, 4, 8, 17] (num_With_c1_d n) (num_With_c4_d n)
def num_With_c6_d (n : Nat) : SmV := smOps E_num_With num_With_o3
def num_With_c7_d (n : Nat) : SmV := smOps E_num_With num_With_o4
def num_With_c8_d (n : Nat) : SmV := smCond (.t 21) smSkip (smExit 0)
def num_With_c9_d (n : Nat) : SmV := smOps E_num_With num_With_o5
def num_With_c10_d (n : Nat) : SmV := smOps E_num_With num_With_o6
def num_With_c11_d (n : Nat) : SmV := smSeq [1, 3, 4, 8, 9, 19, 20] (num_With_c9_d n) (num_With_c10_d n)
def num_With_c12_d (n : Nat) : SmV := smBlock 1 (num_With_c11_d n)
def num_With_c13_d (n : Nat) : SmV := smOps E_num_With num_With_o7
def num_With_c14_d (n : Nat) : SmV := smSeq [1, 3, 4, 8, 19, 20] (num_With_c12_d n) (num_With_c13_d n)
def num_With_c15_d (n : Nat) : SmV := smSeq [1, 3, 4, 8, 19, 20] (num_With_c8_d n) (num_With_c14_d n)
def num_With_c16_d (n : Nat) : SmV := smSeq [1, 3, 4, 8, 19, 20, 21] (num_With_c7_d n) (num_With_c15_d n)
def num_With_c17_d (n : Nat) : SmV := smLoop n [1, 3, 4, 8, 19, 20] (num_With_c16_d n)
def num_With_c18_d (n : Nat) : SmV := smBlock 0 (num_With_c17_d n)
def num_With_c19_d (n : Nat) : SmV := smSeq [1, 3, 4, 8, 19, 20] (num_With_c6_d n) (num_With_c18_d n)
def num_With_c20_d (n : Nat) : SmV := smOps E_num_With num_With_o8
def num_With_c21_d (n : Nat) : SmV := smSeq [8] (num_With_c20_d n) smRet
def num_With_c22_d (n : Nat) : SmV := smSeq [4, 8] (num_With_c19_d n) (num_With_c21_d n)
def num_With_c23_d (n : Nat) : SmV := smSeq [1, 2, 3, 4, 8] (num_With_c5_d n) (num_With_c22_d n)
def num_With_c24_d (n : Nat) : SmV := smSeq [1, 2, 3, 4, 8] (num_With_c0_d n) (num_With_c23_d n)
def num_With_k0 (n : Nat) : AExit → Env → Heap → OptV := fun x e h => match x with | .normal => hold ((num_With_c21_d n) A_num_With.fin (e.keep [4, 8]) h) | .exit id => A_num_With.fin (.exit id) e h | .ret => A_num_With.fin .ret e h
def num_With_k1 (n : Nat) : AExit → Env → Heap → OptV := fun x e h => match x with | .exit i => bif Nat.beq i 0 then (num_With_k0 n) .normal e h else (num_With_k0 n) (.exit i) e h | .normal => (num_With_k0 n) .normal e h | .ret => (num_With_k0 n) .ret e h
def num_With_l0 (n m : Nat) (x1 x3 x4 x8 x19 x20 : Val) (h : Heap) : OptV := around (num_With_c16_d n) [1, 3, 4, 8, 19, 20] (num_With_k1 n) m [(1, x1), (3, x3), (4, x4), (8, x8), (19, x19), (20, x20)] h
def R_num_With (n : Nat) (args : List Val) (h : Heap) : OptV := (num_With_c24_d n) A_num_With.fin (params 0 args) h
theorem R_num_With_eq (n : Nat) (a0 a1 a2 a3 : Val) (h : Heap) : R_num_With n [a0, a1, a2, a3] h = bnd (cells? a0) fun c1 => bnd (abin .gtr a2 (.c (.i .i64 4))) fun v2 => bnd (gd v2 false (some (a1, ((h ++ [some (Row.mk (c1) true)]) ++ [some (Row.mk (List.replicate 256 (.i .u8 0)) true)]))) (some (.no, ((h ++ [some (Row.mk (c1) true)]) ++ [some (Row.mk (List.replicate 256 (.i .u8 0)) true)])))) fun p3 => bnd (gd v2 false (some (a2, p3.2)) (some (.no, p3.2))) fun p4 => bnd (gd v2 false (bnd (S_num_there [p3.1, p4.1, .c (.i .i64 256)] p4.2) fun p5 => some (p5.1, p5.2)) (some (.no, p4.2))) fun p6 => bnd (gd v2 false (bnd (aun .not p6.1) fun v7 => some (v7, p6.2)) (some (.no, p6.2))) fun p8 => bnd (apick v2 (.c (.b true)) p8.1) fun v9 => cnd v9 (bnd (aloadN p8.2 256 ((.c (.p h.length 0)))) fun v10 => bnd (astoreN p8.2 256 ((.c (.p ((h ++ [some (Row.mk (c1) true)])).length 0))) v10) fun h11 => mp (aloadN h11 256 ((.c (.p ((h ++ [some (Row.mk (c1) true)])).length 0)))) fun v => (v, h11)) (num_With_l0 n n a1 a3 ((.c (.p h.length 0))) ((.c (.p ((h ++ [some (Row.mk (c1) true)])).length 0))) a2 (.c (.i .i64 0)) p8.2) := by kernel_rfl
theorem num_With_l0_eq (n m : Nat) (x1 x3 x4 x8 x19 x20 : Val) (h : Heap) : num_With_l0 n (m + 1) x1 x3 x4 x8 x19 x20 h = bnd (abin .lss x20 x19) fun v12 => cnd v12 (bnd (abin .add x1 x20) fun v13 => bnd (abin .mul (.c (.i .i64 8)) x20) fun v14 => bnd (aconv .u64 v14) fun v15 => bnd (abin .shr x3 v15) fun v16 => bnd (aconv .u8 v16) fun v17 => bnd (aiAddrA 256 1 x4 v13) fun v18 => bnd (astore1 h v18 v17) fun h19 => bnd (abin .add x20 (.c (.i .i64 1))) fun v20 => num_With_l0 n m x1 x3 x4 x8 x19 v20 h19) (bnd (aloadN h 256 x4) fun v21 => bnd (astoreN h 256 x8 v21) fun h22 => mp (aloadN h22 256 x8) fun v => (v, h22)) := by kernel_rfl
theorem K_num_With : FnK Try.prog 96 A_num_With E_num_With R_num_With := .mk' (sound1 S_num_there_ok sound0) Try.func96 (by kernel_rfl) (by intro n args h; kernel_rfl)
def S_num_With : Fun := tidy (Lim A_num_With E_num_With)
theorem S_num_With_ok : SOk Try.prog 96 S_num_With := K_num_With.sok
theorem S_num_With_flat {n : Nat} {args : List Val} {h h2 : Heap} {v : Val} (he : R_num_With n args (ro h) = some (v, h2)) (hf : v.flat = true) : S_num_With args h = some (v, h) := K_num_With.flat he hf
def num_Put_o0 : List AOper := [aO 8 (.nilrow 1), aO 9 (.mv (.v (.c (.b false))))]
def num_Put_c0 : ACode := .ops num_Put_o0
def num_Put_o1 : List AOper := [aO 12 (.mv (.t 2)), aO 13 (.bin .gtr (.t 12) (.v (.c (.i .i64 8)))), aO 14 (.mv (.t 13)), { dst := some 15, op := .mv (.t 1), guard := some (14, false) }, { dst := some 16, op := .mv (.t 2), guard := some (14, false) }, { dst := some 17, op := .mv (.t 0), guard := some (14, false) }, { dst := some 18, op := .len (.t 17), guard := some (14, false) }, { dst := some 19, op := .call 131 [(.t 15), (.t 16), (.t 18)], guard := some (14, false) }, { dst := some 20, op := .un .not (.t 19), guard := some (14, false) }, aO 21 (.pick (.t 14) (.v (.c (.b true))) (.t 20))]
def num_Put_c1 : ACode := .ops num_Put_o1
def num_Put_o2 : List AOper := [aO 8 (.nilrow 1), aO 9 (.mv (.v (.c (.b false))))]
def num_Put_c2 : ACode := .ops num_Put_o2
def num_Put_c3 : ACode := .seq [8, 9] num_Put_c2 .ret
def num_Put_c4 : ACode := .cond (.t 21) num_Put_c3 .skip
def num_Put_c5 : ACode := .seq [0, 1, 2, 3, 21] num_Put_c1 num_Put_c4
def num_Put_o3 : List AOper := [aO 22 (.buildSl 1 0 ([]) []), aO 23 (.mv (.t 0)), aO 24 (.app 1 (.t 22) (.t 23)), aO 10 (.mv (.t 24))]
def num_Put_c6 : ACode := .ops num_Put_o3
def num_Put_o4 : List AOper := [aO 25 (.mv (.t 2)), aO 26 (.mv (.v (.c (.i .i64 0))))]
def num_Put_c7 : ACode := .ops num_Put_o4
def num_Put_o5 : List AOper := [aO 27 (.bin .lss (.t 26) (.t 25))]
def num_Put_c8 : ACode := .ops num_Put_o5
def num_Put_c9 : ACode := .cond (.t 27) .skip (.exit 0)
def num_Put_o6 : List AOper := [aO 28 (.mv (.t 26)), aO 11 (.mv (.t 28))]
def num_Put_c10 : ACode := .ops num_Put_o6
def num_Put_o7 : List AOper := [aO 29 (.mv (.t 10)), aO 30 (.mv (.t 1)), aO 31 (.mv (.t 11)), aO 32 (.bin .add (.t 30) (.t 31)), aO 33 (.mv (.t 3)), aO 34 (.mv (.t 11)), aO 35 (.bin .mul (.v (.c (.i .i64 8))) (.t 34)), aO 36 (.conv .u64 (.t 35)), aO 37 (.bin .shr (.t 33) (.t 36)), aO 38 (.conv .u8 (.t 37)), aO 39 (.iAddrL 1 (.t 29) (.t 32)), { dst := none, op := .store1 (.t 39) (.t 38) }]
def num_Put_c11 : ACode := .ops num_Put_o7
def num_Put_c12 : ACode := .seq [1, 3, 10, 11, 25, 26] num_Put_c10 num_Put_c11
def num_Put_c13 : ACode := .block 1 num_Put_c12
def num_Put_o8 : List AOper := [aO 40 (.bin .add (.t 26) (.v (.c (.i .i64 1)))), aO 26 (.mv (.t 40))]
def num_Put_c14 : ACode := .ops num_Put_o8
def num_Put_c15 : ACode := .seq [1, 3, 10, 25, 26] num_Put_c13 num_Put_c14
def num_Put_c16 : ACode := .seq [1, 3, 10, 25, 26] num_Put_c9 num_Put_c15
def num_Put_c17 : ACode := .seq [1, 3, 10, 25, 26, 27] num_Put_c8 num_Put_c16
def num_Put_c18 : ACode := .loop [1, 3, 10, 25, 26] num_Put_c17
def num_Put_c19 : ACode := .block 0 num_Put_c18
def num_Put_c20 : ACode := .seq [1, 3, 10, 25, 26] num_Put_c7 num_Put_c19
def num_Put_o9 : List AOper := [aO 41 (.mv (.t 10)), aO 8 (.mv (.t 41)), aO 9 (.mv (.v (.c (.b true))))]
def num_Put_c21 : ACode := .ops num_Put_o9
def num_Put_c22 : ACode := .seq [8, 9] num_Put_c21 .ret
def num_Put_c23 : ACode := .seq [10] num_Put_c20 num_Put_c22
def num_Put_c24 : ACode := .seq [1, 2, 3, 10] num_Put_c6 num_Put_c23
def num_Put_c25 : ACode := .seq [0, 1, 2, 3] num_Put_c5 num_Put_c24
def num_Put_c26 : ACode := .seq [0, 1, 2, 3] num_Put_c0 num_Put_c25
def A_num_Put : AFn := ⟨num_Put_c26, [.tmp 8, .tmp 9]⟩
def E_num_Put : Sums := disp 131 S_num_there disp0
def num_Put_c0_d (n : Nat) : SmV := smOps E_num_Put num_Put_o0
def num_Put_c1_d (n : Nat) : SmV := smOps E_num_Put num_Put_o1
def num_Put_c2_d (n : Nat) : SmV := smOps E_num_Put num_Put_o2
def num_Put_c3_d (n : Nat) : SmV := smSeq [8, 9] (num_Put_c2_d n) smRet
def num_Put_c4_d (n : Nat) : SmV := smCond (.t 21) (num_Put_c3_d n) smSkip
def num_Put_c5_d (n : Nat) : SmV := smSeq [0, 1, 2, 3, 21] (num_Put_c1_d n) (num_Put_c4_d n)
def num_Put_c6_d (n : Nat) : SmV := smOps E_num_Put num_Put_o3
def num_Put_c7_d (n : Nat) : SmV := smOps E_num_Put num_Put_o4
def num_Put_c8_d (n : Nat) : SmV := smOps E_num_Put num_Put_o5
def num_Put_c9_d (n : Nat) : SmV := smCond (.t 27) smSkip (smExit 0)
def num_Put_c10_d (n : Nat) : SmV := smOps E_num_Put num_Put_o6
def num_Put_c11_d (n : Nat) : SmV := smOps E_num_Put num_Put_o7
def num_Put_c12_d (n : Nat) : SmV := smSeq [1, 3, 10, 11, 25, 26] (num_Put_c10_d n) (num_Put_c11_d n)
def num_Put_c13_d (n : Nat) : SmV := smBlock 1 (num_Put_c12_d n)
def num_Put_c14_d (n : Nat) : SmV := smOps E_num_Put num_Put_o8
def num_Put_c15_d (n : Nat) : SmV := smSeq [1, 3, 10, 25, 26] (num_Put_c13_d n) (num_Put_c14_d n)
def num_Put_c16_d (n : Nat) : SmV := smSeq [1, 3, 10, 25, 26] (num_Put_c9_d n) (num_Put_c15_d n)
def num_Put_c17_d (n : Nat) : SmV := smSeq [1, 3, 10, 25, 26, 27] (num_Put_c8_d n) (num_Put_c16_d n)
def num_Put_c18_d (n : Nat) : SmV := smLoop n [1, 3, 10, 25, 26] (num_Put_c17_d n)
def num_Put_c19_d (n : Nat) : SmV := smBlock 0 (num_Put_c18_d n)
def num_Put_c20_d (n : Nat) : SmV := smSeq [1, 3, 10, 25, 26] (num_Put_c7_d n) (num_Put_c19_d n)
def num_Put_c21_d (n : Nat) : SmV := smOps E_num_Put num_Put_o9
def num_Put_c22_d (n : Nat) : SmV := smSeq [8, 9] (num_Put_c21_d n) smRet
def num_Put_c23_d (n : Nat) : SmV := smSeq [10] (num_Put_c20_d n) (num_Put_c22_d n)
def num_Put_c24_d (n : Nat) : SmV := smSeq [1, 2, 3, 10] (num_Put_c6_d n) (num_Put_c23_d n)
def num_Put_c25_d (n : Nat) : SmV := smSeq [0, 1, 2, 3] (num_Put_c5_d n) (num_Put_c24_d n)
def num_Put_c26_d (n : Nat) : SmV := smSeq [0, 1, 2, 3] (num_Put_c0_d n) (num_Put_c25_d n)
def num_Put_k0 (n : Nat) : AExit → Env → Heap → OptV := fun x e h => match x with | .normal => hold ((num_Put_c22_d n) A_num_Put.fin (e.keep [10]) h) | .exit id => A_num_Put.fin (.exit id) e h | .ret => A_num_Put.fin .ret e h
def num_Put_k1 (n : Nat) : AExit → Env → Heap → OptV := fun x e h => match x with | .exit i => bif Nat.beq i 0 then (num_Put_k0 n) .normal e h else (num_Put_k0 n) (.exit i) e h | .normal => (num_Put_k0 n) .normal e h | .ret => (num_Put_k0 n) .ret e h
def num_Put_l0 (n m : Nat) (x1 x3 x10 x25 x26 : Val) (h : Heap) : OptV := around (num_Put_c17_d n) [1, 3, 10, 25, 26] (num_Put_k1 n) m [(1, x1), (3, x3), (10, x10), (25, x25), (26, x26)] h
def R_num_Put (n : Nat) (args : List Val) (h : Heap) : OptV := (num_Put_c26_d n) A_num_Put.fin (params 0 args) h
theorem R_num_Put_eq (n : Nat) (a0 a1 a2 a3 : Val) (h : Heap) : R_num_Put n [a0, a1, a2, a3] h = bnd (abin .gtr a2 (.c (.i .i64 8))) fun v1 => bnd (gd v1 false (some (a1, (h ++ [some (Row.mk ([]) true)]))) (some (.no, (h ++ [some (Row.mk ([]) true)])))) fun p2 => bnd (gd v1 false (some (a2, p2.2)) (some (.no, p2.2))) fun p3 => bnd (gd v1 false (some (a0, p3.2)) (some (.no, p3.2))) fun p4 => bnd (gd v1 false (bnd (alen p4.1) fun v5 => some (v5, p4.2)) (some (.no, p4.2))) fun p6 => bnd (gd v1 false (bnd (S_num_there [p2.1, p3.1, p6.1] p6.2) fun p7 => some (p7.1, p7.2)) (some (.no, p6.2))) fun p8 => bnd (gd v1 false (bnd (aun .not p8.1) fun v9 => some (v9, p8.2)) (some (.no, p8.2))) fun p10 => bnd (apick v1 (.c (.b true)) p10.1) fun v11 => cnd v11 (tupN [some ((.c (.sl p10.2.length 0 0 1))), some (.c (.b false))] ((p10.2 ++ [some (Row.mk ([]) true)]))) (bnd (afill ([]) []) fun c12 => bnd (aapp ((p10.2 ++ [some (Row.mk (c12) true)])) 1 ((.c (.sl p10.2.length 0 0 1))) a0) fun p13 => num_Put_l0 n n a1 a3 p13.1 a2 (.c (.i .i64 0)) p13.2) := by kernel_rfl
theorem num_Put_l0_eq (n m : Nat) (x1 x3 x10 x25 x26 : Val) (h : Heap) : num_Put_l0 n (m + 1) x1 x3 x10 x25 x26 h = bnd (abin .lss x26 x25) fun v14 => cnd v14 (bnd (abin .add x1 x26) fun v15 => bnd (abin .mul (.c (.i .i64 8)) x26) fun v16 => bnd (aconv .u64 v16) fun v17 => bnd (abin .shr x3 v17) fun v18 => bnd (aconv .u8 v18) fun v19 => bnd (aiAddrL 1 x10 v15) fun v20 => bnd (astore1 h v20 v19) fun h21 => bnd (abin .add x26 (.c (.i .i64 1))) fun v22 => num_Put_l0 n m x1 x3 x10 x25 v22 h21) (tupN [some x10, some (.c (.b true))] h) := by kernel_rfl
theorem K_num_Put : FnK Try.prog 97 A_num_Put E_num_Put R_num_Put := .mk' (sound1 S_num_there_ok sound0) Try.func97 (by kernel_rfl) (by intro n args h; kernel_rfl)
def S_num_Put : Fun := tidy (Lim A_num_Put E_num_Put)
theorem S_num_Put_ok : SOk Try.prog 97 S_num_Put := K_num_Put.sok
theorem S_num_Put_tidy {n : Nat} {args : List Val} {h h2 : Heap} {v : Val} {v2 : Val} {ids : List Nat} (he : R_num_Put n args (ro h) = some (v, h2)) (hc : canonV h2 h.length v = some (v2, ids)) : S_num_Put args h = some (v2, h ++ ids.map (rd h2)) := K_num_Put.tidy he hc
def num_Cut_o0 : List AOper := [aO 3 (.box (.t 0)), aO 6 (.nilrow 1)]
def num_Cut_c0 : ACode := .ops num_Cut_o0
def num_Cut_o1 : List AOper := [aO 9 (.mv (.t 1)), aO 10 (.bin .lss (.t 9) (.v (.c (.i .i64 0)))), aO 11 (.mv (.t 10)), { dst := some 12, op := .mv (.t 1), guard := some (11, false) }, { dst := some 13, op := .bin .geq (.t 12) (.v (.c (.i .i64 256))), guard := some (11, false) }, aO 14 (.pick (.t 11) (.v (.c (.b true))) (.t 13)), aO 15 (.mv (.t 14)), { dst := some 16, op := .mv (.t 2), guard := some (15, false) }, { dst := some 17, op := .bin .lss (.t 16) (.v (.c (.i .i64 1))), guard := some (15, false) }, aO 18 (.pick (.t 15) (.v (.c (.b true))) (.t 17))]
def num_Cut_c1 : ACode := .ops num_Cut_o1
def num_Cut_o2 : List AOper := [aO 6 (.nilrow 1)]
def num_Cut_c2 : ACode := .ops num_Cut_o2
def num_Cut_c3 : ACode := .seq [6] num_Cut_c2 .ret
def num_Cut_c4 : ACode := .cond (.t 18) num_Cut_c3 .skip
def num_Cut_c5 : ACode := .seq [1, 2, 3, 18] num_Cut_c1 num_Cut_c4
def num_Cut_o3 : List AOper := [aO 19 (.mv (.t 2)), aO 20 (.mv (.t 1)), aO 21 (.bin .sub (.v (.c (.i .i64 256))) (.t 20)), aO 22 (.min (.t 19) (.t 21)), aO 2 (.mv (.t 22))]
def num_Cut_c6 : ACode := .ops num_Cut_o3
def num_Cut_o4 : List AOper := [aO 23 (.mv (.t 2)), aO 24 (.mkSl 1 ([.i .u8 0]) (.t 23) (.t 23)), aO 7 (.mv (.t 24))]
def num_Cut_c7 : ACode := .ops num_Cut_o4
def num_Cut_o5 : List AOper := [aO 25 (.mv (.t 2)), aO 26 (.mv (.v (.c (.i .i64 0))))]
def num_Cut_c8 : ACode := .ops num_Cut_o5
def num_Cut_o6 : List AOper := [aO 27 (.bin .lss (.t 26) (.t 25))]
def num_Cut_c9 : ACode := .ops num_Cut_o6
def num_Cut_c10 : ACode := .cond (.t 27) .skip (.exit 0)
def num_Cut_o7 : List AOper := [aO 28 (.mv (.t 26)), aO 8 (.mv (.t 28))]
def num_Cut_c11 : ACode := .ops num_Cut_o7
def num_Cut_o8 : List AOper := [aO 29 (.mv (.t 7)), aO 30 (.mv (.t 8)), aO 31 (.mv (.t 1)), aO 32 (.mv (.t 8)), aO 33 (.bin .add (.t 31) (.t 32)), aO 34 (.iAddrA 256 1 (.t 3) (.t 33)), aO 35 (.load1 (.t 34)), aO 36 (.iAddrL 1 (.t 29) (.t 30)), { dst := none, op := .store1 (.t 36) (.t 35) }]
def num_Cut_c12 : ACode := .ops num_Cut_o8
def num_Cut_c13 : ACode := .seq [1, 3, 7, 8, 25, 26] num_Cut_c11 num_Cut_c12
def num_Cut_c14 : ACode := .block 1 num_Cut_c13
def num_Cut_o9 : List AOper := [aO 37 (.bin .add (.t 26) (.v (.c (.i .i64 1)))), aO 26 (.mv (.t 37))]
def num_Cut_c15 : ACode := .ops num_Cut_o9
def num_Cut_c16 : ACode := .seq [1, 3, 7, 25, 26] num_Cut_c14 num_Cut_c15
def num_Cut_c17 : ACode := .seq [1, 3, 7, 25, 26] num_Cut_c10 num_Cut_c16
def num_Cut_c18 : ACode := .seq [1, 3, 7, 25, 26, 27] num_Cut_c9 num_Cut_c17
def num_Cut_c19 : ACode := .loop [1, 3, 7, 25, 26] num_Cut_c18
def num_Cut_c20 : ACode := .block 0 num_Cut_c19
def num_Cut_c21 : ACode := .seq [1, 3, 7, 25, 26] num_Cut_c8 num_Cut_c20
def num_Cut_o10 : List AOper := [aO 38 (.mv (.t 7)), aO 6 (.mv (.t 38))]
def num_Cut_c22 : ACode := .ops num_Cut_o10
def num_Cut_c23 : ACode := .seq [6] num_Cut_c22 .ret
def num_Cut_c24 : ACode := .seq [7] num_Cut_c21 num_Cut_c23
def num_Cut_c25 : ACode := .seq [1, 2, 3, 7] num_Cut_c7 num_Cut_c24
def num_Cut_c26 : ACode := .seq [1, 2, 3] num_Cut_c6 num_Cut_c25
def num_Cut_c27 : ACode := .seq [1, 2, 3] num_Cut_c5 num_Cut_c26
def num_Cut_c28 : ACode := .seq [1, 2, 3] num_Cut_c0 num_Cut_c27
def A_num_Cut : AFn := ⟨num_Cut_c28, [.tmp 6]⟩
def E_num_Cut : Sums := disp0
def num_Cut_c0_d (n : Nat) : SmV := smOps E_num_Cut num_Cut_o0
def num_Cut_c1_d (n : Nat) : SmV := smOps E_num_Cut num_Cut_o1
def num_Cut_c2_d (n : Nat) : SmV := smOps E_num_Cut num_Cut_o2
def num_Cut_c3_d (n : Nat) : SmV := smSeq [6] (num_Cut_c2_d n) smRet
def num_Cut_c4_d (n : Nat) : SmV := smCond (.t 18) (num_Cut_c3_d n) smSkip
def num_Cut_c5_d (n : Nat) : SmV := smSeq [1, 2, 3, 18] (num_Cut_c1_d n) (num_Cut_c4_d n)
def num_Cut_c6_d (n : Nat) : SmV := smOps E_num_Cut num_Cut_o3
def num_Cut_c7_d (n : Nat) : SmV := smOps E_num_Cut num_Cut_o4
def num_Cut_c8_d (n : Nat) : SmV := smOps E_num_Cut num_Cut_o5
def num_Cut_c9_d (n : Nat) : SmV := smOps E_num_Cut num_Cut_o6
def num_Cut_c10_d (n : Nat) : SmV := smCond (.t 27) smSkip (smExit 0)
def num_Cut_c11_d (n : Nat) : SmV := smOps E_num_Cut num_Cut_o7
def num_Cut_c12_d (n : Nat) : SmV := smOps E_num_Cut num_Cut_o8
def num_Cut_c13_d (n : Nat) : SmV := smSeq [1, 3, 7, 8, 25, 26] (num_Cut_c11_d n) (num_Cut_c12_d n)
def num_Cut_c14_d (n : Nat) : SmV := smBlock 1 (num_Cut_c13_d n)
def num_Cut_c15_d (n : Nat) : SmV := smOps E_num_Cut num_Cut_o9
def num_Cut_c16_d (n : Nat) : SmV := smSeq [1, 3, 7, 25, 26] (num_Cut_c14_d n) (num_Cut_c15_d n)
def num_Cut_c17_d (n : Nat) : SmV := smSeq [1, 3, 7, 25, 26] (num_Cut_c10_d n) (num_Cut_c16_d n)
def num_Cut_c18_d (n : Nat) : SmV := smSeq [1, 3, 7, 25, 26, 27] (num_Cut_c9_d n) (num_Cut_c17_d n)
def num_Cut_c19_d (n : Nat) : SmV := smLoop n [1, 3, 7, 25, 26] (num_Cut_c18_d n)
def num_Cut_c20_d (n : Nat) : SmV := smBlock 0 (num_Cut_c19_d n)
def num_Cut_c21_d (n : Nat) : SmV := smSeq [1, 3, 7, 25, 26] (num_Cut_c8_d n) (num_Cut_c20_d n)
def num_Cut_c22_d (n : Nat) : SmV := smOps E_num_Cut num_Cut_o10
def num_Cut_c23_d (n : Nat) : SmV := smSeq [6] (num_Cut_c22_d n) smRet
def num_Cut_c24_d (n : Nat) : SmV := smSeq [7] (num_Cut_c21_d n) (num_Cut_c23_d n)
def num_Cut_c25_d (n : Nat) : SmV := smSeq [1, 2, 3, 7] (num_Cut_c7_d n) (num_Cut_c24_d n)
def num_Cut_c26_d (n : Nat) : SmV := smSeq [1, 2, 3] (num_Cut_c6_d n) (num_Cut_c25_d n)
def num_Cut_c27_d (n : Nat) : SmV := smSeq [1, 2, 3] (num_Cut_c5_d n) (num_Cut_c26_d n)
def num_Cut_c28_d (n : Nat) : SmV := smSeq [1, 2, 3] (num_Cut_c0_d n) (num_Cut_c27_d n)
def num_Cut_k0 (n : Nat) : AExit → Env → Heap → OptV := fun x e h => match x with | .normal => hold ((num_Cut_c23_d n) A_num_Cut.fin (e.keep [7]) h) | .exit id => A_num_Cut.fin (.exit id) e h | .ret => A_num_Cut.fin .ret e h
def num_Cut_k1 (n : Nat) : AExit → Env → Heap → OptV := fun x e h => match x with | .exit i => bif Nat.beq i 0 then (num_Cut_k0 n) .normal e h else (num_Cut_k0 n) (.exit i) e h | .normal => (num_Cut_k0 n) .normal e h | .ret => (num_Cut_k0 n) .ret e h
def num_Cut_l0 (n m : Nat) (x1 x3 x7 x25 x26 : Val) (h : Heap) : OptV := around (num_Cut_c18_d n) [1, 3, 7, 25, 26] (num_Cut_k1 n) m [(1, x1), (3, x3), (7, x7), (25, x25), (26, x26)] h
def R_num_Cut (n : Nat) (args : List Val) (h : Heap) : OptV := (num_Cut_c28_d n) A_num_Cut.fin (params 0 args) h
theorem R_num_Cut_eq (n : Nat) (a0 a1 a2 : Val) (h : Heap) : R_num_Cut n [a0, a1, a2] h = bnd (cells? a0) fun c1 => bnd (abin .lss a1 (.c (.i .i64 0))) fun v2 => bnd (gd v2 false (some (a1, ((h ++ [some (Row.mk (c1) true)]) ++ [some (Row.mk ([]) true)]))) (some (.no, ((h ++ [some (Row.mk (c1) true)]) ++ [some (Row.mk ([]) true)])))) fun p3 => bnd (gd v2 false (bnd (abin .geq p3.1 (.c (.i .i64 256))) fun v4 => some (v4, p3.2)) (some (.no, p3.2))) fun p5 => bnd (apick v2 (.c (.b true)) p5.1) fun v6 => bnd (gd v6 false (some (a2, p5.2)) (some (.no, p5.2))) fun p7 => bnd (gd v6 false (bnd (abin .lss p7.1 (.c (.i .i64 1))) fun v8 => some (v8, p7.2)) (some (.no, p7.2))) fun p9 => bnd (apick v6 (.c (.b true)) p9.1) fun v10 => cnd v10 (some (((.c (.sl p9.2.length 0 0 1))), (p9.2 ++ [some (Row.mk ([]) true)]))) (bnd (abin .sub (.c (.i .i64 256)) a1) fun v11 => bnd (amin a2 v11) fun v12 => bnd (amkn v12 v12) fun n13 => num_Cut_l0 n n a1 ((.c (.p h.length 0))) ((.c (.sl p9.2.length 0 n13 1))) v12 (.c (.i .i64 0)) ((p9.2 ++ [some (Row.mk (rows ([.i .u8 0]) n13) true)]))) := by kernel_rfl
theorem num_Cut_l0_eq (n m : Nat) (x1 x3 x7 x25 x26 : Val) (h : Heap) : num_Cut_l0 n (m + 1) x1 x3 x7 x25 x26 h = bnd (abin .lss x26 x25) fun v14 => cnd v14 (bnd (abin .add x1 x26) fun v15 => bnd (aiAddrA 256 1 x3 v15) fun v16 => bnd (aload1 h v16) fun v17 => bnd (aiAddrL 1 x7 x26) fun v18 => bnd (astore1 h v18 v17) fun h19 => bnd (abin .add x26 (.c (.i .i64 1))) fun v20 => num_Cut_l0 n m x1 x3 x7 x25 v20 h19) (some (x7, h)) := by kernel_rfl
theorem K_num_Cut : FnK Try.prog 57 A_num_Cut E_num_Cut R_num_Cut := .mk' (sound0) Try.func57 (by kernel_rfl) (by intro n args h; kernel_rfl)
def S_num_Cut : Fun := tidy (Lim A_num_Cut E_num_Cut)
theorem S_num_Cut_ok : SOk Try.prog 57 S_num_Cut := K_num_Cut.sok
theorem S_num_Cut_out {n : Nat} {args : List Val} {h h2 : Heap} {v : Val} {sz k : Nat} {cs : List Cell} (he : R_num_Cut n args (ro h) = some (v, h2)) (ho : Out h.length h2 v sz k cs) (hf : flats cs = true) : S_num_Cut args h = some (.c (.sl h.length 0 k sz), h ++ [some ⟨cs, true⟩]) := K_num_Cut.out he ho hf
def num_Get_o0 : List AOper := [aO 6 (.mv (.v (.c (.i .u64 0)))), aO 7 (.mv (.v (.c (.b false))))]
def num_Get_c0 : ACode := .ops num_Get_o0
def num_Get_o1 : List AOper := [aO 10 (.mv (.t 2)), aO 11 (.bin .gtr (.t 10) (.v (.c (.i .i64 8)))), aO 12 (.mv (.t 11)), { dst := some 13, op := .mv (.t 1), guard := some (12, false) }, { dst := some 14, op := .mv (.t 2), guard := some (12, false) }, { dst := some 15, op := .mv (.t 0), guard := some (12, false) }, { dst := some 16, op := .len (.t 15), guard := some (12, false) }, { dst := some 17, op := .call 131 [(.t 13), (.t 14), (.t 16)], guard := some (12, false) }, { dst := some 18, op := .un .not (.t 17), guard := some (12, false) }, aO 19 (.pick (.t 12) (.v (.c (.b true))) (.t 18))]
def num_Get_c1 : ACode := .ops num_Get_o1
def num_Get_o2 : List AOper := [aO 6 (.mv (.v (.c (.i .u64 0)))), aO 7 (.mv (.v (.c (.b false))))]
def num_Get_c2 : ACode := .ops num_Get_o2
def num_Get_c3 : ACode := .seq [6, 7] num_Get_c2 .ret
def num_Get_c4 : ACode := .cond (.t 19) num_Get_c3 .skip
def num_Get_c5 : ACode := .seq [0, 1, 2, 19] num_Get_c1 num_Get_c4
def num_Get_o3 : List AOper := [aO 8 (.mv (.v (.c (.i .u64 0))))]
def num_Get_c6 : ACode := .ops num_Get_o3
def num_Get_o4 : List AOper := [aO 20 (.mv (.t 2)), aO 21 (.mv (.v (.c (.i .i64 0))))]
def num_Get_c7 : ACode := .ops num_Get_o4
def num_Get_o5 : List AOper := [aO 22 (.bin .lss (.t 21) (.t 20))]
def num_Get_c8 : ACode := .ops num_Get_o5
def num_Get_c9 : ACode := .cond (.t 22) .skip (.exit 0)
def num_Get_o6 : List AOper := [aO 23 (.mv (.t 21)), aO 9 (.mv (.t 23))]
def num_Get_c10 : ACode := .ops num_Get_o6
def num_Get_o7 : List AOper := [aO 24 (.mv (.t 8)), aO 25 (.mv (.t 0)), aO 26 (.mv (.t 1)), aO 27 (.mv (.t 9)), aO 28 (.bin .add (.t 26) (.t 27)), aO 29 (.iAddrL 1 (.t 25) (.t 28)), aO 30 (.load1 (.t 29)), aO 31 (.conv .u64 (.t 30)), aO 32 (.mv (.t 9)), aO 33 (.bin .mul (.v (.c (.i .i64 8))) (.t 32)), aO 34 (.conv .u64 (.t 33)), aO 35 (.bin .shl (.t 31) (.t 34)), aO 36 (.bin .or (.t 24) (.t 35)), aO 8 (.mv (.t 36))]
def num_Get_c11 : ACode := .ops num_Get_o7
def num_Get_c12 : ACode := .seq [0, 1, 8, 9, 20, 21] num_Get_c10 num_Get_c11
def num_Get_c13 : ACode := .block 1 num_Get_c12
def num_Get_o8 : List AOper := [aO 37 (.bin .add (.t 21) (.v (.c (.i .i64 1)))), aO 21 (.mv (.t 37))]
def num_Get_c14 : ACode := .ops num_Get_o8
def num_Get_c15 : ACode := .seq [0, 1, 8, 20, 21] num_Get_c13 num_Get_c14
def num_Get_c16 : ACode := .seq [0, 1, 8, 20, 21] num_Get_c9 num_Get_c15
def num_Get_c17 : ACode := .seq [0, 1, 8, 20, 21, 22] num_Get_c8 num_Get_c16
def num_Get_c18 : ACode := .loop [0, 1, 8, 20, 21] num_Get_c17
def num_Get_c19 : ACode := .block 0 num_Get_c18
def num_Get_c20 : ACode := .seq [0, 1, 8, 20, 21] num_Get_c7 num_Get_c19
def num_Get_o9 : List AOper := [aO 38 (.mv (.t 8)), aO 6 (.mv (.t 38)), aO 7 (.mv (.v (.c (.b true))))]
def num_Get_c21 : ACode := .ops num_Get_o9
def num_Get_c22 : ACode := .seq [6, 7] num_Get_c21 .ret
def num_Get_c23 : ACode := .seq [8] num_Get_c20 num_Get_c22
def num_Get_c24 : ACode := .seq [0, 1, 2, 8] num_Get_c6 num_Get_c23
def num_Get_c25 : ACode := .seq [0, 1, 2] num_Get_c5 num_Get_c24
def num_Get_c26 : ACode := .seq [0, 1, 2] num_Get_c0 num_Get_c25
def A_num_Get : AFn := ⟨num_Get_c26, [.tmp 6, .tmp 7]⟩
def E_num_Get : Sums := disp 131 S_num_there disp0
def num_Get_c0_d (n : Nat) : SmV := smOps E_num_Get num_Get_o0
def num_Get_c1_d (n : Nat) : SmV := smOps E_num_Get num_Get_o1
def num_Get_c2_d (n : Nat) : SmV := smOps E_num_Get num_Get_o2
def num_Get_c3_d (n : Nat) : SmV := smSeq [6, 7] (num_Get_c2_d n) smRet
def num_Get_c4_d (n : Nat) : SmV := smCond (.t 19) (num_Get_c3_d n) smSkip
def num_Get_c5_d (n : Nat) : SmV := smSeq [0, 1, 2, 19] (num_Get_c1_d n) (num_Get_c4_d n)
def num_Get_c6_d (n : Nat) : SmV := smOps E_num_Get num_Get_o3
def num_Get_c7_d (n : Nat) : SmV := smOps E_num_Get num_Get_o4
def num_Get_c8_d (n : Nat) : SmV := smOps E_num_Get num_Get_o5
def num_Get_c9_d (n : Nat) : SmV := smCond (.t 22) smSkip (smExit 0)
def num_Get_c10_d (n : Nat) : SmV := smOps E_num_Get num_Get_o6
def num_Get_c11_d (n : Nat) : SmV := smOps E_num_Get num_Get_o7
def num_Get_c12_d (n : Nat) : SmV := smSeq [0, 1, 8, 9, 20, 21] (num_Get_c10_d n) (num_Get_c11_d n)
def num_Get_c13_d (n : Nat) : SmV := smBlock 1 (num_Get_c12_d n)
def num_Get_c14_d (n : Nat) : SmV := smOps E_num_Get num_Get_o8
def num_Get_c15_d (n : Nat) : SmV := smSeq [0, 1, 8, 20, 21] (num_Get_c13_d n) (num_Get_c14_d n)
def num_Get_c16_d (n : Nat) : SmV := smSeq [0, 1, 8, 20, 21] (num_Get_c9_d n) (num_Get_c15_d n)
def num_Get_c17_d (n : Nat) : SmV := smSeq [0, 1, 8, 20, 21, 22] (num_Get_c8_d n) (num_Get_c16_d n)
def num_Get_c18_d (n : Nat) : SmV := smLoop n [0, 1, 8, 20, 21] (num_Get_c17_d n)
def num_Get_c19_d (n : Nat) : SmV := smBlock 0 (num_Get_c18_d n)
def num_Get_c20_d (n : Nat) : SmV := smSeq [0, 1, 8, 20, 21] (num_Get_c7_d n) (num_Get_c19_d n)
def num_Get_c21_d (n : Nat) : SmV := smOps E_num_Get num_Get_o9
def num_Get_c22_d (n : Nat) : SmV := smSeq [6, 7] (num_Get_c21_d n) smRet
def num_Get_c23_d (n : Nat) : SmV := smSeq [8] (num_Get_c20_d n) (num_Get_c22_d n)
def num_Get_c24_d (n : Nat) : SmV := smSeq [0, 1, 2, 8] (num_Get_c6_d n) (num_Get_c23_d n)
def num_Get_c25_d (n : Nat) : SmV := smSeq [0, 1, 2] (num_Get_c5_d n) (num_Get_c24_d n)
def num_Get_c26_d (n : Nat) : SmV := smSeq [0, 1, 2] (num_Get_c0_d n) (num_Get_c25_d n)
def num_Get_k0 (n : Nat) : AExit → Env → Heap → OptV := fun x e h => match x with | .normal => hold ((num_Get_c22_d n) A_num_Get.fin (e.keep [8]) h) | .exit id => A_num_Get.fin (.exit id) e h | .ret => A_num_Get.fin .ret e h
def num_Get_k1 (n : Nat) : AExit → Env → Heap → OptV := fun x e h => match x with | .exit i => bif Nat.beq i 0 then (num_Get_k0 n) .normal e h else (num_Get_k0 n) (.exit i) e h | .normal => (num_Get_k0 n) .normal e h | .ret => (num_Get_k0 n) .ret e h
def num_Get_l0 (n m : Nat) (x0 x1 x8 x20 x21 : Val) (h : Heap) : OptV := around (num_Get_c17_d n) [0, 1, 8, 20, 21] (num_Get_k1 n) m [(0, x0), (1, x1), (8, x8), (20, x20), (21, x21)] h
def R_num_Get (n : Nat) (args : List Val) (h : Heap) : OptV := (num_Get_c26_d n) A_num_Get.fin (params 0 args) h
theorem R_num_Get_eq (n : Nat) (a0 a1 a2 : Val) (h : Heap) : R_num_Get n [a0, a1, a2] h = bnd (abin .gtr a2 (.c (.i .i64 8))) fun v1 => bnd (gd v1 false (some (a1, h)) (some (.no, h))) fun p2 => bnd (gd v1 false (some (a2, p2.2)) (some (.no, p2.2))) fun p3 => bnd (gd v1 false (some (a0, p3.2)) (some (.no, p3.2))) fun p4 => bnd (gd v1 false (bnd (alen p4.1) fun v5 => some (v5, p4.2)) (some (.no, p4.2))) fun p6 => bnd (gd v1 false (bnd (S_num_there [p2.1, p3.1, p6.1] p6.2) fun p7 => some (p7.1, p7.2)) (some (.no, p6.2))) fun p8 => bnd (gd v1 false (bnd (aun .not p8.1) fun v9 => some (v9, p8.2)) (some (.no, p8.2))) fun p10 => bnd (apick v1 (.c (.b true)) p10.1) fun v11 => cnd v11 (tupN [some (.c (.i .u64 0)), some (.c (.b false))] p10.2) (num_Get_l0 n n a0 a1 (.c (.i .u64 0)) a2 (.c (.i .i64 0)) p10.2) := by kernel_rfl
theorem num_Get_l0_eq (n m : Nat) (x0 x1 x8 x20 x21 : Val) (h : Heap) : num_Get_l0 n (m + 1) x0 x1 x8 x20 x21 h = bnd (abin .lss x21 x20) fun v12 => cnd v12 (bnd (abin .add x1 x21) fun v13 => bnd (aiAddrL 1 x0 v13) fun v14 => bnd (aload1 h v14) fun v15 => bnd (aconv .u64 v15) fun v16 => bnd (abin .mul (.c (.i .i64 8)) x21) fun v17 => bnd (aconv .u64 v17) fun v18 => bnd (abin .shl v16 v18) fun v19 => bnd (abin .or x8 v19) fun v20 => bnd (abin .add x21 (.c (.i .i64 1))) fun v21 => num_Get_l0 n m x0 x1 v20 x20 v21 h) (tupN [some x8, some (.c (.b true))] h) := by kernel_rfl
theorem K_num_Get : FnK Try.prog 100 A_num_Get E_num_Get R_num_Get := .mk' (sound1 S_num_there_ok sound0) Try.func100 (by kernel_rfl) (by intro n args h; kernel_rfl)
def S_num_Get : Fun := tidy (Lim A_num_Get E_num_Get)
theorem S_num_Get_ok : SOk Try.prog 100 S_num_Get := K_num_Get.sok
theorem S_num_Get_flat {n : Nat} {args : List Val} {h h2 : Heap} {v : Val} (he : R_num_Get n args (ro h) = some (v, h2)) (hf : v.flat = true) : S_num_Get args h = some (v, h) := K_num_Get.flat he hf
def num_At_o0 : List AOper := [aO 3 (.box (.t 0)), aO 6 (.mv (.v (.c (.i .i64 0))))]
def num_At_c0 : ACode := .ops num_At_o0
def num_At_o1 : List AOper := [aO 9 (.mv (.t 2)), aO 10 (.bin .gtr (.t 9) (.v (.c (.i .i64 4)))), aO 11 (.mv (.t 10)), { dst := some 12, op := .mv (.t 1), guard := some (11, false) }, { dst := some 13, op := .mv (.t 2), guard := some (11, false) }, { dst := some 14, op := .call 131 [(.t 12), (.t 13), (.v (.c (.i .i64 256)))], guard := some (11, false) }, { dst := some 15, op := .un .not (.t 14), guard := some (11, false) }, aO 16 (.pick (.t 11) (.v (.c (.b true))) (.t 15))]
def num_At_c1 : ACode := .ops num_At_o1
def num_At_o2 : List AOper := [aO 6 (.mv (.v (.c (.i .i64 0))))]
def num_At_c2 : ACode := .ops num_At_o2
def num_At_c3 : ACode := .seq [6] num_At_c2 .ret
def num_At_c4 : ACode := .cond (.t 16) num_At_c3 .skip
def num_At_c5 : ACode := .seq [1, 2, 3, 16] num_At_c1 num_At_c4
def num_At_o3 : List AOper := [aO 7 (.mv (.v (.c (.i .i64 0))))]
def num_At_c6 : ACode := .ops num_At_o3
def num_At_o4 : List AOper := [aO 17 (.mv (.t 2)), aO 18 (.mv (.v (.c (.i .i64 0))))]
def num_At_c7 : ACode := .ops num_At_o4
def num_At_o5 : List AOper := [aO 19 (.bin .lss (.t 18) (.t 17))]
def num_At_c8 : ACode := .ops num_At_o5
def num_At_c9 : ACode := .cond (.t 19) .skip (.exit 0)
def num_At_o6 : List AOper := [aO 20 (.mv (.t 18)), aO 8 (.mv (.t 20))]
def num_At_c10 : ACode := .ops num_At_o6
def num_At_o7 : List AOper := [aO 21 (.mv (.t 7)), aO 22 (.mv (.t 1)), aO 23 (.mv (.t 8)), aO 24 (.bin .add (.t 22) (.t 23)), aO 25 (.iAddrA 256 1 (.t 3) (.t 24)), aO 26 (.load1 (.t 25)), aO 27 (.conv .i64 (.t 26)), aO 28 (.mv (.t 8)), aO 29 (.bin .mul (.v (.c (.i .i64 8))) (.t 28)), aO 30 (.conv .u64 (.t 29)), aO 31 (.bin .shl (.t 27) (.t 30)), aO 32 (.bin .or (.t 21) (.t 31)), aO 7 (.mv (.t 32))]
def num_At_c11 : ACode := .ops num_At_o7
def num_At_c12 : ACode := .seq [1, 3, 7, 8, 17, 18] num_At_c10 num_At_c11
def num_At_c13 : ACode := .block 1 num_At_c12
def num_At_o8 : List AOper := [aO 33 (.bin .add (.t 18) (.v (.c (.i .i64 1)))), aO 18 (.mv (.t 33))]
def num_At_c14 : ACode := .ops num_At_o8
def num_At_c15 : ACode := .seq [1, 3, 7, 17, 18] num_At_c13 num_At_c14
def num_At_c16 : ACode := .seq [1, 3, 7, 17, 18] num_At_c9 num_At_c15
def num_At_c17 : ACode := .seq [1, 3, 7, 17, 18, 19] num_At_c8 num_At_c16
def num_At_c18 : ACode := .loop [1, 3, 7, 17, 18] num_At_c17
def num_At_c19 : ACode := .block 0 num_At_c18
def num_At_c20 : ACode := .seq [1, 3, 7, 17, 18] num_At_c7 num_At_c19
def num_At_o9 : List AOper := [aO 34 (.mv (.t 7)), aO 6 (.mv (.t 34))]
def num_At_c21 : ACode := .ops num_At_o9
def num_At_c22 : ACode := .seq [6] num_At_c21 .ret
def num_At_c23 : ACode := .seq [7] num_At_c20 num_At_c22
def num_At_c24 : ACode := .seq [1, 2, 3, 7] num_At_c6 num_At_c23
def num_At_c25 : ACode := .seq [1, 2, 3] num_At_c5 num_At_c24
def num_At_c26 : ACode := .seq [1, 2, 3] num_At_c0 num_At_c25
def A_num_At : AFn := ⟨num_At_c26, [.tmp 6]⟩
def E_num_At : Sums := disp 131 S_num_there disp0
def num_At_c0_d (n : Nat) : SmV := smOps E_num_At num_At_o0
def num_At_c1_d (n : Nat) : SmV := smOps E_num_At num_At_o1
def num_At_c2_d (n : Nat) : SmV := smOps E_num_At num_At_o2
def num_At_c3_d (n : Nat) : SmV := smSeq [6] (num_At_c2_d n) smRet
def num_At_c4_d (n : Nat) : SmV := smCond (.t 16) (num_At_c3_d n) smSkip
def num_At_c5_d (n : Nat) : SmV := smSeq [1, 2, 3, 16] (num_At_c1_d n) (num_At_c4_d n)
def num_At_c6_d (n : Nat) : SmV := smOps E_num_At num_At_o3
def num_At_c7_d (n : Nat) : SmV := smOps E_num_At num_At_o4
def num_At_c8_d (n : Nat) : SmV := smOps E_num_At num_At_o5
def num_At_c9_d (n : Nat) : SmV := smCond (.t 19) smSkip (smExit 0)
def num_At_c10_d (n : Nat) : SmV := smOps E_num_At num_At_o6
def num_At_c11_d (n : Nat) : SmV := smOps E_num_At num_At_o7
def num_At_c12_d (n : Nat) : SmV := smSeq [1, 3, 7, 8, 17, 18] (num_At_c10_d n) (num_At_c11_d n)
def num_At_c13_d (n : Nat) : SmV := smBlock 1 (num_At_c12_d n)
def num_At_c14_d (n : Nat) : SmV := smOps E_num_At num_At_o8
def num_At_c15_d (n : Nat) : SmV := smSeq [1, 3, 7, 17, 18] (num_At_c13_d n) (num_At_c14_d n)
def num_At_c16_d (n : Nat) : SmV := smSeq [1, 3, 7, 17, 18] (num_At_c9_d n) (num_At_c15_d n)
def num_At_c17_d (n : Nat) : SmV := smSeq [1, 3, 7, 17, 18, 19] (num_At_c8_d n) (num_At_c16_d n)
def num_At_c18_d (n : Nat) : SmV := smLoop n [1, 3, 7, 17, 18] (num_At_c17_d n)
def num_At_c19_d (n : Nat) : SmV := smBlock 0 (num_At_c18_d n)
def num_At_c20_d (n : Nat) : SmV := smSeq [1, 3, 7, 17, 18] (num_At_c7_d n) (num_At_c19_d n)
def num_At_c21_d (n : Nat) : SmV := smOps E_num_At num_At_o9
def num_At_c22_d (n : Nat) : SmV := smSeq [6] (num_At_c21_d n) smRet
def num_At_c23_d (n : Nat) : SmV := smSeq [7] (num_At_c20_d n) (num_At_c22_d n)
def num_At_c24_d (n : Nat) : SmV := smSeq [1, 2, 3, 7] (num_At_c6_d n) (num_At_c23_d n)
def num_At_c25_d (n : Nat) : SmV := smSeq [1, 2, 3] (num_At_c5_d n) (num_At_c24_d n)
def num_At_c26_d (n : Nat) : SmV := smSeq [1, 2, 3] (num_At_c0_d n) (num_At_c25_d n)
def num_At_k0 (n : Nat) : AExit → Env → Heap → OptV := fun x e h => match x with | .normal => hold ((num_At_c22_d n) A_num_At.fin (e.keep [7]) h) | .exit id => A_num_At.fin (.exit id) e h | .ret => A_num_At.fin .ret e h
def num_At_k1 (n : Nat) : AExit → Env → Heap → OptV := fun x e h => match x with | .exit i => bif Nat.beq i 0 then (num_At_k0 n) .normal e h else (num_At_k0 n) (.exit i) e h | .normal => (num_At_k0 n) .normal e h | .ret => (num_At_k0 n) .ret e h
def num_At_l0 (n m : Nat) (x1 x3 x7 x17 x18 : Val) (h : Heap) : OptV := around (num_At_c17_d n) [1, 3, 7, 17, 18] (num_At_k1 n) m [(1, x1), (3, x3), (7, x7), (17, x17), (18, x18)] h
def R_num_At (n : Nat) (args : List Val) (h : Heap) : OptV := (num_At_c26_d n) A_num_At.fin (params 0 args) h
theorem R_num_At_eq (n : Nat) (a0 a1 a2 : Val) (h : Heap) : R_num_At n [a0, a1, a2] h = bnd (cells? a0) fun c1 => bnd (abin .gtr a2 (.c (.i .i64 4))) fun v2 => bnd (gd v2 false (some (a1, (h ++ [some (Row.mk (c1) true)]))) (some (.no, (h ++ [some (Row.mk (c1) true)])))) fun p3 => bnd (gd v2 false (some (a2, p3.2)) (some (.no, p3.2))) fun p4 => bnd (gd v2 false (bnd (S_num_there [p3.1, p4.1, .c (.i .i64 256)] p4.2) fun p5 => some (p5.1, p5.2)) (some (.no, p4.2))) fun p6 => bnd (gd v2 false (bnd (aun .not p6.1) fun v7 => some (v7, p6.2)) (some (.no, p6.2))) fun p8 => bnd (apick v2 (.c (.b true)) p8.1) fun v9 => cnd v9 (some ((.c (.i .i64 0)), p8.2)) (num_At_l0 n n a1 ((.c (.p h.length 0))) (.c (.i .i64 0)) a2 (.c (.i .i64 0)) p8.2) := by kernel_rfl
theorem num_At_l0_eq (n m : Nat) (x1 x3 x7 x17 x18 : Val) (h : Heap) : num_At_l0 n (m + 1) x1 x3 x7 x17 x18 h = bnd (abin .lss x18 x17) fun v10 => cnd v10 (bnd (abin .add x1 x18) fun v11 => bnd (aiAddrA 256 1 x3 v11) fun v12 => bnd (aload1 h v12) fun v13 => bnd (aconv .i64 v13) fun v14 => bnd (abin .mul (.c (.i .i64 8)) x18) fun v15 => bnd (aconv .u64 v15) fun v16 => bnd (abin .shl v14 v16) fun v17 => bnd (abin .or x7 v17) fun v18 => bnd (abin .add x18 (.c (.i .i64 1))) fun v19 => num_At_l0 n m x1 x3 v18 x17 v19 h) (some (x7, h)) := by kernel_rfl
theorem K_num_At : FnK Try.prog 101 A_num_At E_num_At R_num_At := .mk' (sound1 S_num_there_ok sound0) Try.func101 (by kernel_rfl) (by intro n args h; kernel_rfl)
def S_num_At : Fun := tidy (Lim A_num_At E_num_At)
theorem S_num_At_ok : SOk Try.prog 101 S_num_At := K_num_At.sok
theorem S_num_At_flat {n : Nat} {args : List Val} {h h2 : Heap} {v : Val} (he : R_num_At n args (ro h) = some (v, h2)) (hf : v.flat = true) : S_num_At args h = some (v, h) := K_num_At.flat he hf
end Go.Proofs.Ytdgggnlbdoiloaa
end
