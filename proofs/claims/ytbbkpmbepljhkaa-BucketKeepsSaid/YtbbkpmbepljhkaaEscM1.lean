/- Regions whose order is open: one operation more. -/
import Derived.Test.YtbbkpmbepljhkaaEscM
set_option linter.all false
namespace Go.Esc
open Go

theorem Env.get_keep_mem (e : Env) (l : List Nat) (t : Nat) : (e.keep l).get t = if t ∈ l then e.get t else .un := by
  induction l with
  | nil => rfl
  | cons x r ih =>
    simp only [Env.keep, Env.get]
    by_cases h : x = t
    · subst h; simp
    · have : Nat.beq x t = false := by cases hb : Nat.beq x t with
        | false => rfl
        | true => exact absurd (Nat.eq_of_beq_eq_true hb) h
      rw [this, cond_false, ih]
      have h' : t ≠ x := Ne.symm h
      simp [h']

section
variable {P : Program} {N m : Nat} {ops : Array Oper} {l r : List AOper} {E : Sums} {hr : Heap} {e : Env} {es : Nat → Env} {hs : Nat → Heap} {vs : Nat → Val} {Γ : Ctx} {μ0 : Mu}

theorem es_writer (D : DrawOk P N ops m l r) (ht : Trace E hr hr.length l es hs vs) {j t : Nat} {aj : AOper} (haj : l[j]? = some aj) (hd : aj.dst = some t) : ∀ k, j < k → k ≤ l.length → (es k).get t = vs j := by
  intro k
  induction k with
  | zero => intro h; omega
  | succ k ih =>
    intro hjk hk
    rw [ht.env k l[k] (List.getElem?_eq_getElem (by omega))]
    by_cases e : j = k
    · subst e
      have : l[j] = aj := by have h2 := List.getElem?_eq_getElem (l := l) (i := j) (by omega); rw [haj] at h2; cases h2; rfl
      rw [this, hd]; exact Env.get_put_same _ _ _
    · have hne := (D.apart j k aj l[k] haj (List.getElem?_eq_getElem (by omega)) e).1 t hd
      cases hdk : l[k].dst with
      | none => exact ih (by omega) (by omega)
      | some d =>
        rw [hdk] at hne
        rw [Env.get_put_other _ _ _ _ (by intro h; subst h; exact hne rfl)]
        exact ih (by omega) (by omega)

theorem es_other (ht : Trace E hr hr.length l es hs vs) (he : es 0 = e) {t : Nat} : ∀ k, k ≤ l.length → (∀ (j : Nat) aj, j < k → l[j]? = some aj → aj.dst ≠ some t) → (es k).get t = e.get t := by
  intro k
  induction k with
  | zero => intro _ _; rw [he]
  | succ k ih =>
    intro hk hno
    rw [ht.env k l[k] (List.getElem?_eq_getElem (by omega))]
    have hne := hno k l[k] (by omega) (List.getElem?_eq_getElem (by omega))
    cases hdk : l[k].dst with
    | none => exact ih (by omega) fun j aj hj => hno j aj (by omega)
    | some d =>
      rw [hdk] at hne
      rw [Env.get_put_other _ _ _ _ (by intro h; subst h; exact hne rfl)]
      exact ih (by omega) fun j aj hj => hno j aj (by omega)

def also (done : Nat → Bool) (i : Nat) : Nat → Bool := fun k => decide (k = i) || done k

theorem also_self (done : Nat → Bool) (i : Nat) : also done i i = true := by simp [also]
theorem also_of (done : Nat → Bool) (i : Nat) {k : Nat} (h : k ≠ i) : also done i k = done k := by simp [also, h]

/-- The values that an operation reads are those of the text's order. -/
theorem sim_env (D : DrawOk P N ops m l r) (ht : Trace E hr hr.length l es hs vs) (he : es 0 = e) {done : Nat → Bool} {q : Nat} {μ : Mu} {a : Act} {w : World}
    (S : Sim Γ l hr.length N e es hs vs μ0 done q μ a w) {i : Nat} {ao : AOper} (ha : l[i]? = some ao) (hah : ∀ b, ((closures ops).getD i 0).testBit b = true → done b = true) : SEnv μ ((es i).keep ao.reads) a := by
  intro t
  rw [Env.get_keep_mem]
  split
  · rename_i hmem
    have hil : i < l.length := (List.getElem?_eq_some_iff.1 ha).1
    by_cases hw : ∃ (j : Nat) (aj : AOper), l[j]? = some aj ∧ aj.dst = some t
    · obtain ⟨j, aj, haj, hd⟩ := hw
      obtain ⟨h1, h2⟩ := D.reads i j ao aj t ha haj hd hmem
      rw [es_writer D ht haj hd i h2 (by omega)]
      exact S.envD j aj t haj (hah j h1) hd
    · have hno : ∀ (j : Nat) (aj : AOper), l[j]? = some aj → aj.dst ≠ some t := fun j aj haj hd => hw ⟨j, aj, haj, hd⟩
      rw [es_other ht he i (by omega) fun j aj _ haj => hno j aj haj]
      exact S.envO t fun j aj haj _ => hno j aj haj
  · trivial

theorem noOwn_low {n0 i id : Nat} (h : id < n0) : ¬ Owns l n0 i id := by
  rintro ⟨ao, j, _, _, rfl⟩; omega

theorem base_len (D : DrawOk P N ops m l r) (ht : Trace E hr hr.length l es hs vs) (h0 : hs 0 = hr ++ List.replicate m none) {k : Nat} (hk : k ≤ l.length) : hr.length + m ≤ (hs k).length := by
  have := len_mono D.quiet ht k 0 (by omega)
  rw [h0] at this
  simp at this
  omega

theorem own_lt (D : DrawOk P N ops m l r) {n0 i id : Nat} (h : Owns l n0 i id) : id < n0 + m := by
  obtain ⟨ao, j, ha, hj, rfl⟩ := h
  have := (D.quiet i ao ha).2.2 j hj
  omega

theorem own_eq (D : DrawOk P N ops m l r) {n0 i k id : Nat} (h : Owns l n0 i id) (h2 : Owns l n0 k id) : i = k := by
  obtain ⟨ao, j, ha, hj, rfl⟩ := h
  obtain ⟨ao', j', ha', hj', he⟩ := h2
  by_cases e : i = k
  · exact e
  · have : j = j' := by omega
    subst this
    exact absurd hj' ((D.apart i k ao ao' ha ha' e).2 j hj)

/-- Behind one more operation. -/
theorem sim_next (D : DrawOk P N ops m l r) (ht : Trace E hr hr.length l es hs vs) (h0 : hs 0 = hr ++ List.replicate m none) {done : Nat → Bool} {q : Nat} {μ : Mu} {a : Act} {w : World}
    (S : Sim Γ l hr.length N e es hs vs μ0 done q μ a w) {i : Nat} {ao : AOper} (ha : l[i]? = some ao) (hnd : done i = false) {V : Value} {w' : World} {μ' : Mu} {q' : Nat} {dst : Option Nat} (hdst : dst = ao.dst) (hdlt : chkDst N dst = true)
    (hle : μ.le μ') (hv : RV μ' (vs i) V) (hinv : Inv Γ μ' (HD (hs l.length) (und l hr.length (also done i)) (hs q').length) w') (hkeep : Keeps μ μ' (HD (hs l.length) (und l hr.length done) (hs q).length) hr.length ao.slot)
    (hq' : q' ≤ l.length) (hcalls : ∀ (k : Nat) ak, l[k]? = some ak → isCall ak.op = true → (also done i k = true ↔ k < q')) : Sim Γ l hr.length N e es hs vs μ0 (also done i) q' μ' (a.put dst V) w' := by
  have hget : ∀ t, dst ≠ some t → (a.put dst V).tmps.getD t undef = a.tmps.getD t undef := by
    intro t h
    cases hd : dst with
    | none => rfl
    | some d =>
      rw [hd] at h
      simp [Act.put, Array.getElem?_setIfInBounds_ne (show d ≠ t from fun e => h (by rw [e]))]
  refine ⟨hq', hcalls, ?_, ?_, hinv, ?_, Mu.le_trans S.le hle, ?_, by rw [Act.size_put]; exact S.size, ?_⟩
  · intro k ak d hak hdk hd
    by_cases e : k = i
    · subst e
      rw [ha] at hak; cases hak
      rw [hdst, hd]
      have hlt : d < a.tmps.size := by
        rw [hdst, hd] at hdlt
        simp [chkDst] at hdlt
        exact Nat.lt_of_lt_of_le hdlt S.size
      have : (a.put (some d) V).tmps.getD d undef = V := by simp [Act.put, Array.getD, hlt]
      rw [this]; exact hv
    · rw [also_of _ _ e] at hdk
      rw [hget d (by rw [hdst]; exact fun h => (D.apart i k ao ak ha hak (Ne.symm e)).1 d h hd)]
      exact (S.envD k ak d hak hdk hd).mono hle
  · intro t hno
    have h1 := hno i ao ha (also_self _ _)
    rw [hget t (by rw [hdst]; exact h1)]
    refine (S.envO t fun k ak hak hdk => ?_).mono hle
    by_cases e : k = i
    · subst e; rw [hnd] at hdk; cases hdk
    · exact hno k ak hak (by rw [also_of _ _ e]; exact hdk)
  · intro id hid
    obtain ⟨k, hk, ho⟩ := und_iff.1 hid
    have e : k ≠ i := by intro e; subst e; rw [also_self] at hk; cases hk
    rw [also_of _ _ e] at hk
    have h1 := S.free id (und_iff.2 ⟨k, hk, ho⟩)
    rw [← h1]
    refine hkeep id (by rw [HD_length]; have := base_len D ht h0 S.qle; have := own_lt D ho; omega) fun j hj he => e ?_
    exact own_eq D ho ⟨ao, j, ha, hj, he⟩
  · intro id hid
    rw [← S.keep id hid]
    exact hkeep id (by rw [HD_length]; have := base_len D ht h0 S.qle; omega) fun j hj he => by omega
  · have : ∀ d : Option Nat, (a.put d V).defers = a.defers := fun d => by cases d <;> rfl
    rw [this]; exact S.defers

theorem und_also (D : DrawOk P N ops m l r) {n0 i id : Nat} {done : Nat → Bool} (h : ¬ Owns l n0 i id) : und l n0 (also done i) id = und l n0 done id := by
  rw [Bool.eq_iff_iff, und_iff, und_iff]
  constructor
  · rintro ⟨k, hk, ho⟩
    have e : k ≠ i := by intro e; subst e; exact h ho
    exact ⟨k, by rw [also_of _ _ e] at hk; exact hk, ho⟩
  · rintro ⟨k, hk, ho⟩
    have e : k ≠ i := by intro e; subst e; exact h ho
    exact ⟨k, by rw [also_of _ _ e]; exact hk, ho⟩

theorem und_own (D : DrawOk P N ops m l r) {n0 i id : Nat} {done : Nat → Bool} (h : Owns l n0 i id) : und l n0 (also done i) id = false := by
  cases hu : und l n0 (also done i) id with
  | false => rfl
  | true =>
    obtain ⟨k, hk, ho⟩ := und_iff.1 hu
    have e := own_eq D ho h
    subst e; rw [also_self] at hk; cases hk

/-- The rows that are read are there. -/
theorem sim_rd (D : DrawOk P N ops m l r) (ht : Trace E hr hr.length l es hs vs) (h0 : hs 0 = hr ++ List.replicate m none) {done : Nat → Bool} {q : Nat} (hq : q ≤ l.length) (id : Nat) (x : Row) (hx : rd hr id = some x) :
    rd (HD (hs l.length) (und l hr.length done) (hs q).length) id = some x := by
  have hlt := rd_lt hx
  have hu : und l hr.length done id = false := by
    cases hu : und l hr.length done id with
    | false => rfl
    | true => obtain ⟨k, _, ho⟩ := und_iff.1 hu; exact absurd ho (noOwn_low hlt)
  rw [rd_HD, if_pos ⟨by have := base_len D ht h0 hq; omega, hu⟩]
  have := own_keep D ht (k := 0) (id := id) (by rw [h0]; simp; omega) (fun i _ => noOwn_low hlt) l.length (by omega)
  rw [Nat.zero_add] at this
  rw [this, h0, rd_append_left hlt]
  exact hx

theorem sim_slot (D : DrawOk P N ops m l r) (ht : Trace E hr hr.length l es hs vs) (h0 : hs 0 = hr ++ List.replicate m none) {done : Nat → Bool} {q : Nat} {μ : Mu} {a : Act} {w : World}
    (S : Sim Γ l hr.length N e es hs vs μ0 done q μ a w) {i : Nat} {ao : AOper} (ha : l[i]? = some ao) (hnd : done i = false) : SlotOk μ (HD (hs l.length) (und l hr.length done) (hs q).length) hr.length ao.slot := by
  cases hsl : ao.slot with
  | none => trivial
  | some j =>
    refine ⟨S.free _ (und_iff.2 ⟨i, hnd, ao, j, ha, hsl, rfl⟩), ?_⟩
    rw [HD_length]
    have := base_len D ht h0 S.qle
    have := (D.quiet i ao ha).2.2 j hsl
    omega

theorem len_between (D : DrawOk P N ops m l r) (ht : Trace E hr hr.length l es hs vs) {q : Nat} : ∀ t, q + t ≤ l.length → (∀ (k : Nat) ak, q ≤ k → k < q + t → l[k]? = some ak → isCall ak.op = false) → (hs (q + t)).length = (hs q).length
  | 0, _, _ => rfl
  | t + 1, hl, hno => by
    have ih := len_between D ht (q := q) t (by omega) fun k ak h1 h2 => hno k ak h1 (by omega)
    rw [← ih]
    have hk : q + t < l.length := by omega
    rcases step_heap D.quiet ht (List.getElem?_eq_getElem hk) with ⟨h, _, _⟩ | ⟨_, h | ⟨j, row, _, h⟩⟩
    · have := hno (q + t) l[q + t] (by omega) (by omega) (List.getElem?_eq_getElem hk)
      rw [h] at this; cases this
    · show (hs (q + t + 1)).length = _; rw [h]
    · show (hs (q + t + 1)).length = _; rw [h]; simp

/-- What an operation looks at is there. -/
theorem sim_sub (D : DrawOk P N ops m l r) (ht : Trace E hr hr.length l es hs vs) (h0 : hs 0 = hr ++ List.replicate m none) {done : Nat → Bool} {q : Nat} {μ : Mu} {a : Act} {w : World}
    (S : Sim Γ l hr.length N e es hs vs μ0 done q μ a w) {i : Nat} {ao : AOper} (ha : l[i]? = some ao) (hah : ∀ b, ((closures ops).getD i 0).testBit b = true → done b = true) (hl : isCall ao.op = true ∨ isMark ao.op = true) :
    ∀ id x, rd (hs i) id = some x → rd (HD (hs l.length) (und l hr.length done) (hs q).length) id = some x := by
  have hil : i < l.length := (List.getElem?_eq_some_iff.1 ha).1
  have hql := S.qle
  have hlen : (hs i).length ≤ (hs q).length := by
    by_cases hiq : i ≤ q
    · have := len_mono D.quiet ht (q - i) i (by omega)
      rwa [show i + (q - i) = q by omega] at this
    · have := len_between D ht (q := q) (i - q) (by omega) fun k ak h1 h2 hak => by
        cases hck : isCall ak.op with
        | false => rfl
        | true =>
          have h3 := hah k (D.calls i k ao ak ha hak hl (by omega) (.inl hck))
          have := (S.calls k ak hak hck).1 h3
          omega
      rw [show q + (i - q) = i by omega] at this
      omega
  intro id x hx
  have hnolater : ∀ k, i ≤ k → ¬ Owns l hr.length k id := fun k hk ho' => by
    have := own_none D ht h0 ho' i hk
    rw [this] at hx; cases hx
  have hu : und l hr.length done id = false := by
    cases hu : und l hr.length done id with
    | false => rfl
    | true =>
      obtain ⟨k, hk, ho'⟩ := und_iff.1 hu
      by_cases e1 : i ≤ k
      · exact absurd ho' (hnolater k e1)
      · obtain ⟨ak, j, hak, hj, _⟩ := ho'
        have hsk : slotted ak.op = true := by have := (D.quiet k ak hak).2.1; rw [hj] at this; exact this
        have := hah k (D.calls i k ao ak ha hak hl (by omega) (.inr hsk))
        rw [hk] at this; cases this
  rw [rd_HD, if_pos ⟨by have := rd_lt hx; omega, hu⟩]
  have := own_keep D ht (rd_lt hx) hnolater (l.length - i) (by omega)
  rw [show i + (l.length - i) = l.length by omega] at this
  rw [this]; exact hx


/-- The row in its place that an operation looks at is there. -/
theorem sim_own (D : DrawOk P N ops m l r) (ht : Trace E hr hr.length l es hs vs) (h0 : hs 0 = hr ++ List.replicate m none) {done : Nat → Bool} {q : Nat} {μ : Mu} {a : Act} {w : World}
    (S : Sim Γ l hr.length N e es hs vs μ0 done q μ a w) {i j : Nat} {ao : AOper} (ha : l[i]? = some ao) (hah : ∀ b, ((closures ops).getD i 0).testBit b = true → done b = true) (hown : ownOf ao.op = some j) :
    ∀ x, rd (hs i) (hr.length + j) = some x → rd (HD (hs l.length) (und l hr.length done) (hs q).length) (hr.length + j) = some x := by
  have hil : i < l.length := (List.getElem?_eq_some_iff.1 ha).1
  have hql := S.qle
  intro x hx
  obtain ⟨k, ak, hak, hsk, hbit⟩ := D.own i ao j ha hown
  have hO : Owns l hr.length k (hr.length + j) := ⟨ak, j, hak, hsk, rfl⟩
  have hdk := hah k hbit
  have hnolater : ∀ k', i ≤ k' → ¬ Owns l hr.length k' (hr.length + j) := fun k' hk' ho' => by
    have := own_none D ht h0 ho' i hk'
    rw [this] at hx; cases hx
  have hu : und l hr.length done (hr.length + j) = false := by
    cases hu : und l hr.length done (hr.length + j) with
    | false => rfl
    | true =>
      obtain ⟨k', hk', ho'⟩ := und_iff.1 hu
      have := own_eq D ho' hO
      subst this
      rw [hk'] at hdk; cases hdk
  rw [rd_HD, if_pos ⟨by have := base_len D ht h0 S.qle; have := own_lt D hO; omega, hu⟩]
  have := own_keep D ht (rd_lt hx) hnolater (l.length - i) (by omega)
  rw [show i + (l.length - i) = l.length by omega] at this
  rw [this]; exact hx

open Classical in
/-- One operation that may come up does what it does in the text's order. -/
theorem sim_step (D : DrawOk P N ops m l r) (hE : Sound P E) (ht : Trace E hr hr.length l es hs vs) (h0 : hs 0 = hr ++ List.replicate m none) (he : es 0 = e) {done : Nat → Bool} {q : Nat} {μ : Mu} {a : Act} {w : World}
    (S : Sim Γ l hr.length N e es hs vs μ0 done q μ a w) {i : Nat} {ao : AOper} {o : Oper} (ha : l[i]? = some ao) (ho : ops[i]? = some o) (hnd : done i = false)
    (hah : ∀ b, ((closures ops).getD i 0).testBit b = true → done b = true) (hcl : ∀ j, done j = true → ∀ b, ((closures ops).getD j 0).testBit b = true → done b = true)
    {next : Act → World → Prop} {Q : Exit → Act → World → Prop} (hn : ∀ V w' μ' q', Sim Γ l hr.length N e es hs vs μ0 (also done i) q' μ' (a.put o.dst V) w' → next (a.put o.dst V) w') :
    if Region.wanted o (yielded ops a.tmps) then o.wp P a w next Q ∨ (o.asks P a w ∧ LetsOut Q) else next (a.put o.dst undef) w := by
  have hil : i < l.length := (List.getElem?_eq_some_iff.1 ha).1
  have hco : chkOper P N ops o ao = true := D.oper i o ao ho (by rw [List.getElem?_append_left hil]; exact ha)
  have hdst : o.dst = ao.dst ∧ chkDst N o.dst = true := by
    simp only [chkOper, Bool.and_eq_true, decide_eq_true_eq] at hco
    exact ⟨hco.1.1.1, hco.1.1.2⟩
  have henv := sim_env D ht he S ha hah
  have hrd := sim_rd D ht h0 (done := done) S.qle
  have hslot := sim_slot D ht h0 S ha hnd
  have hstep := ht.step i ao ha
  have hcong : ∀ (E : Sums) (h : Heap), aoper E true hr hr.length ao (es i) h (fun v h => some (v, h)) = aoper E true hr hr.length ao ((es i).keep ao.reads) h fun v h => some (v, h) :=
    fun E h => aoper_env fun t ht' => by rw [Env.get_keep_mem, if_pos ht']
  have hqi := D.quiet i ao ha
  have hbase := base_len D ht h0 S.qle
  cases hc : isCall ao.op with
  | false =>
    -- what it comes to over the rows that are there
    have key : ∃ h2, aoper E true hr hr.length ao (es i) (HD (hs l.length) (und l hr.length done) (hs q).length) (fun v h => some (v, h)) = some (vs i, h2) ∧ h2 = HD (hs l.length) (und l hr.length (also done i)) (hs q).length := by
      -- nothing is done
      have hskip : hs (i + 1) = hs i → HD (hs l.length) (und l hr.length done) (hs q).length = HD (hs l.length) (und l hr.length (also done i)) (hs q).length := by
        intro hsame
        refine heap_ext (by rw [HD_length, HD_length]) fun id hid => ?_
        rw [HD_length] at hid
        rw [rd_HD, rd_HD]
        by_cases hown : Owns l hr.length i id
        · rw [und_own D hown, und_iff.2 ⟨i, hnd, hown⟩]
          have h1 := own_none D ht h0 hown i (Nat.le_refl _)
          have h2 := own_keep D ht (k := i + 1) (id := id) (by rw [hsame]; have := base_len D ht h0 (k := i) (by omega); have := own_lt D hown; omega)
            (fun k hk ho' => by have := own_eq D ho' hown; omega) (l.length - (i + 1)) (by omega)
          rw [show i + 1 + (l.length - (i + 1)) = l.length by omega, hsame, h1] at h2
          simp [h2]
        · rw [und_also D hown]
      have hrun : ∀ v h3, aop E true hr hr.length ao.slot ao.op (es i) (hs i) (fun v h => some (v, h)) = some (v, h3) → h3 = hs (i + 1) →
          ∃ h2, aop E true hr hr.length ao.slot ao.op (es i) (HD (hs l.length) (und l hr.length done) (hs q).length) (fun v h => some (v, h)) = some (v, h2) ∧ h2 = HD (hs l.length) (und l hr.length (also done i)) (hs q).length := by
        intro v h3 hrun he3
        subst he3
        cases hsl : slotted ao.op with
        | false =>
          cases hmk : isMark ao.op with
          | false =>
            cases hown : ownOf ao.op with
            | none =>
              obtain ⟨h4, h5⟩ := aop_plain hqi.1 hmk hown hc hsl hrun
              exact ⟨_, h5 _, hskip h4⟩
            | some j =>
              obtain ⟨h4, h5⟩ := aop_own hown hrun
              exact ⟨_, h5 _ (sim_own D ht h0 S ha hah hown), hskip h4⟩
          | true =>
            obtain ⟨h4, h5⟩ := aop_mark hmk hrun
            exact ⟨_, h5 _ (sim_sub D ht h0 S ha hah (.inr hmk)), hskip h4⟩
        | true =>
          have h6 := hqi.2.1
          rw [hsl] at h6
          obtain ⟨j, hj⟩ := Option.isSome_iff_exists.1 h6.symm
          rw [hj] at hrun ⊢
          obtain ⟨row, h7, h8⟩ := aop_slot hsl hrun
          refine ⟨_, h8 _, ?_⟩
          have hown : Owns l hr.length i (hr.length + j) := ⟨ao, j, ha, hj, rfl⟩
          have hjm := hqi.2.2 j hj
          have hbi := base_len D ht h0 (k := i) (by omega)
          refine heap_ext (by rw [List.length_set, HD_length, HD_length]) fun id hid => ?_
          rw [List.length_set, HD_length] at hid
          by_cases e1 : hr.length + j = id
          · subst e1
            rw [rd_set_same (by rw [HD_length]; omega), rd_HD, if_pos ⟨by omega, und_own D hown⟩]
            have h9 := own_keep D ht (k := i + 1) (id := hr.length + j) (by rw [h7]; simp; omega) (fun k hk ho' => by have := own_eq D ho' hown; omega) (l.length - (i + 1)) (by omega)
            rw [show i + 1 + (l.length - (i + 1)) = l.length by omega, h7, rd_set_same (by omega)] at h9
            exact h9.symm
          · rw [rd_set_other e1, rd_HD, rd_HD, und_also D]
            rintro ⟨ao', j', h10, h11, h12⟩
            rw [ha] at h10; cases h10
            rw [hj] at h11; cases h11
            exact e1 h12.symm
      unfold aoper at hstep ⊢
      cases hgu : ao.guard with
      | none => rw [hgu] at hstep; exact hrun _ _ hstep rfl
      | some g =>
        rw [hgu] at hstep
        simp only [Option.bind_eq_some_iff, Option.some.injEq] at hstep
        obtain ⟨⟨v', h3⟩, hp, hpe⟩ := hstep
        simp only [Prod.mk.injEq] at hpe
        obtain ⟨hv', hh3⟩ := hpe
        unfold gd at hp ⊢
        split at hp
        · rename_i x heq
          simp only [heq]
          cases hx : (x == g.2) with
          | true =>
            rw [hx] at hp
            obtain ⟨h2, h4, h5⟩ := hrun _ _ hp hh3
            exact ⟨h2, by rw [cond_true, h4]; simp [hv'], h5⟩
          | false =>
            rw [hx] at hp
            simp only [cond_false, Option.some.injEq, Prod.mk.injEq] at hp
            refine ⟨_, by rw [cond_false]; simp [← hv', ← hp.1], hskip ?_⟩
            rw [← hh3]; exact hp.2.symm
        · rename_i heq
          simp only [heq]
          simp only [Option.some.injEq, Prod.mk.injEq] at hp
          refine ⟨_, by simp [← hv', ← hp.1], hskip ?_⟩
          rw [← hh3]; exact hp.2.symm
        · cases hp
    obtain ⟨h2, hk1, hk2⟩ := key
    rw [hcong] at hk1
    refine aoper_wp hE hco hk1 henv S.inv hrd hslot ?_
    intro V w' μ' hle hv hinv hkeep
    subst hk2
    refine hn V w' μ' q (sim_next D ht h0 S ha hnd hdst.1 hdst.2 hle hv hinv hkeep S.qle ?_)
    intro k ak hak hck
    have e1 : k ≠ i := by intro e1; subst e1; rw [ha] at hak; cases hak; rw [hc] at hck; cases hck
    rw [also_of _ _ e1]
    exact S.calls k ak hak hck
  | true =>
    have hsn : ao.slot = none := by
      rcases step_heap D.quiet ht ha with ⟨_, h, _⟩ | ⟨h, _⟩
      · exact h
      · rw [hc] at h; cases h
    have hqi' : q ≤ i := by
      have := S.calls i ao ha hc
      rw [hnd] at this
      have : ¬ i < q := fun h => by have := this.2 h; cases this
      omega
    have hlen : (hs i).length = (hs q).length := by
      have := len_between D ht (q := q) (i - q) (by omega) fun k ak h1 h2 hak => by
        cases hck : isCall ak.op with
        | false => rfl
        | true =>
          have h3 := hah k (D.calls i k ao ak ha hak (.inl hc) (by omega) (.inl hck))
          have := (S.calls k ak hak hck).1 h3
          omega
      rwa [show q + (i - q) = i by omega] at this
    have hnoown : ∀ id, ¬ Owns l hr.length i id := by
      rintro id ⟨ao', j, h1, h2, _⟩
      rw [ha] at h1; cases h1
      rw [hsn] at h2; cases h2
    have hcalls' : ∀ (k : Nat) ak, l[k]? = some ak → isCall ak.op = true → (also done i k = true ↔ k < i + 1) := by
      intro k ak hak hck
      by_cases e1 : k = i
      · subst e1; simp [also_self]
      · rw [also_of _ _ e1]
        constructor
        · intro hk
          have : ¬ i < k := fun h => by
            have h2 := hcl k hk i (D.calls k i ak ao hak ha (.inl hck) h (.inl hc))
            rw [hnd] at h2; cases h2
          omega
        · intro hk
          exact hah k (D.calls i k ao ak ha hak (.inl hc) (by omega) (.inl hck))
    have hmono := step_len D.quiet ht hil
    -- the guard: nothing is done
    have hskip : hs (i + 1) = hs i → HD (hs l.length) (und l hr.length done) (hs q).length = HD (hs l.length) (und l hr.length (also done i)) (hs (i + 1)).length := by
      intro hsame
      rw [hsame, hlen]
      refine heap_ext (by rw [HD_length, HD_length]) fun id hid => ?_
      rw [rd_HD, rd_HD, und_also D (hnoown id)]
    -- the call
    have hrun : ∀ (g : Nat) (args : List Val), quiet (hs i) (E g args (hs i)) = some (vs i, hs (i + 1)) →
        ∃ E' : Sums, Sound P E' ∧ quiet (HD (hs l.length) (und l hr.length done) (hs q).length) (E' g args (HD (hs l.length) (und l hr.length done) (hs q).length)) = some (vs i, HD (hs l.length) (und l hr.length (also done i)) (hs (i + 1)).length) := by
      intro g args hcall
      obtain ⟨h1, h2⟩ := quiet_some hcall
      obtain ⟨hg, hk, _⟩ := hE _ _ _ _ _ h1
      have hsub : ∀ id x, rd (hs i) id = some x → rd (HD (hs l.length) (und l hr.length done) (hs q).length) id = some x := by
        intro id x hx
        have hnolater : ∀ k, i ≤ k → ¬ Owns l hr.length k id := fun k hk ho' => by
          have := own_none D ht h0 ho' i hk
          rw [this] at hx; cases hx
        have hu : und l hr.length done id = false := by
          cases hu : und l hr.length done id with
          | false => rfl
          | true =>
            obtain ⟨k, hk, ho'⟩ := und_iff.1 hu
            by_cases e1 : i ≤ k
            · exact absurd ho' (hnolater k e1)
            · obtain ⟨ak, j, hak, hj, _⟩ := ho'
              have hsk : slotted ak.op = true := by have := (D.quiet k ak hak).2.1; rw [hj] at this; exact this
              have := hah k (D.calls i k ao ak ha hak (.inl hc) (by omega) (.inr hsk))
              rw [hk] at this; cases this
        rw [rd_HD, if_pos ⟨by have := rd_lt hx; omega, hu⟩]
        have := own_keep D ht (rd_lt hx) hnolater (l.length - i) (by omega)
        rw [show i + (l.length - i) = l.length by omega] at this
        rw [this]; exact hx
      have hfr := hk.frame h2 (hD := HD (hs l.length) (und l hr.length done) (hs q).length) (by rw [HD_length, hlen]) hsub
      have heq : HD (hs l.length) (und l hr.length done) (hs q).length ++ (hs (i + 1)).drop (hs i).length = HD (hs l.length) (und l hr.length (also done i)) (hs (i + 1)).length := by
        refine heap_ext (by rw [List.length_append, HD_length, HD_length, List.length_drop]; omega) fun id hid => ?_
        rw [rd_app_drop (by rw [HD_length, hlen])]
        split
        · rw [rd_HD, rd_HD, und_also D (hnoown id)]
          have : id < (hs q).length := by omega
          have : id < (hs (i + 1)).length := by omega
          simp [*]
        · rename_i hge
          have hbi := base_len D ht h0 (k := i) (by omega)
          have hno : ∀ k, ¬ Owns l hr.length k id := fun k ho' => by have := own_lt D ho'; omega
          have hu : und l hr.length (also done i) id = false := by
            cases hu : und l hr.length (also done i) id with
            | false => rfl
            | true => obtain ⟨k, _, ho'⟩ := und_iff.1 hu; exact absurd ho' (hno k)
          have hlt : id < (hs (i + 1)).length := by
            rw [List.length_append, HD_length, List.length_drop] at hid; omega
          rw [rd_HD, if_pos ⟨hlt, hu⟩]
          have := own_keep D ht hlt (fun k _ => hno k) (l.length - (i + 1)) (by omega)
          rw [show i + 1 + (l.length - (i + 1)) = l.length by omega] at this
          exact this.symm
      rw [heq] at hfr
      have hgr : Grows (HD (hs l.length) (und l hr.length done) (hs q).length) (HD (hs l.length) (und l hr.length (also done i)) (hs (i + 1)).length) := by
        rw [← heq]
        refine ⟨List.prefix_append _ _, fun id x hid hx => ?_⟩
        rw [HD_length] at hid
        rw [rd_app_drop (by rw [HD_length, hlen]), if_neg (by omega)] at hx
        exact h2.2 id x (by omega) hx
      refine ⟨fun f' a' h' => if f' = g ∧ a' = args ∧ h' = HD (hs l.length) (und l hr.length done) (hs q).length then some (vs i, HD (hs l.length) (und l hr.length (also done i)) (hs (i + 1)).length) else none, ?_, ?_⟩
      · intro f' a' h' v' h'' hv'
        simp only at hv'
        split at hv'
        · rename_i hcond
          obtain ⟨rfl, rfl, rfl⟩ := hcond
          cases hv'
          exact ⟨hg, hfr, by rw [HD_length, HD_length]; omega⟩
        · cases hv'
      · exact (congrArg (quiet _) (if_pos ⟨rfl, rfl, rfl⟩)).trans (quiet_of hgr)
    -- both together
    have key : ∃ E' : Sums, Sound P E' ∧ aoper E' true hr hr.length ao (es i) (HD (hs l.length) (und l hr.length done) (hs q).length) (fun v h => some (v, h)) = some (vs i, HD (hs l.length) (und l hr.length (also done i)) (hs (i + 1)).length) := by
      have hop : ∀ v h3, aop E true hr hr.length ao.slot ao.op (es i) (hs i) (fun v h => some (v, h)) = some (v, h3) → v = vs i → h3 = hs (i + 1) →
          ∃ E' : Sums, Sound P E' ∧ aop E' true hr hr.length ao.slot ao.op (es i) (HD (hs l.length) (und l hr.length done) (hs q).length) (fun v h => some (v, h)) = some (vs i, HD (hs l.length) (und l hr.length (also done i)) (hs (i + 1)).length) := by
        intro v h3 hr1 hv1 he3
        subst hv1 he3
        cases hopk : ao.op <;> rw [hopk] at hc hr1 <;> simp [isCall] at hc
        case call f args =>
          simp only [aop, cond_true, Option.bind_eq_some_iff, Option.some.injEq] at hr1
          obtain ⟨⟨v', h4⟩, hp, hpe⟩ := hr1
          cases hpe
          obtain ⟨E', h5, h6⟩ := hrun f _ hp
          exact ⟨E', h5, by simp only [aop, cond_true]; rw [h6]; rfl⟩
        case callV f args =>
          simp only [aop, cond_true, Option.bind_eq_some_iff, Option.some.injEq] at hr1
          obtain ⟨⟨v', h4⟩, hp, hpe⟩ := hr1
          cases hpe
          unfold callv at hp
          split at hp
          · rename_i g caps heq
            obtain ⟨E', h5, h6⟩ := hrun g _ hp
            refine ⟨E', h5, ?_⟩
            simp only [aop, cond_true]
            unfold callv
            rw [heq]
            simp only
            rw [h6]; rfl
          · simp [quiet] at hp
      unfold aoper at hstep ⊢
      cases hgu : ao.guard with
      | none => rw [hgu] at hstep; exact hop _ _ hstep rfl rfl
      | some g =>
        rw [hgu] at hstep
        simp only [Option.bind_eq_some_iff, Option.some.injEq] at hstep
        obtain ⟨⟨v', h3⟩, hp, hpe⟩ := hstep
        simp only [Prod.mk.injEq] at hpe
        obtain ⟨hv', hh3⟩ := hpe
        unfold gd at hp ⊢
        split at hp
        · rename_i x heq
          simp only [heq]
          cases hx : (x == g.2) with
          | true =>
            rw [hx] at hp
            obtain ⟨E', h2, h4⟩ := hop _ _ hp hv' hh3
            exact ⟨E', h2, by rw [cond_true, h4]; rfl⟩
          | false =>
            rw [hx] at hp
            simp only [cond_false, Option.some.injEq, Prod.mk.injEq] at hp
            refine ⟨E, hE, ?_⟩
            rw [cond_false, ← hskip (by rw [← hh3]; exact hp.2.symm)]
            simp [← hv', ← hp.1]
        · rename_i heq
          simp only [heq]
          simp only [Option.some.injEq, Prod.mk.injEq] at hp
          refine ⟨E, hE, ?_⟩
          rw [← hskip (by rw [← hh3]; exact hp.2.symm)]
          simp [← hv', ← hp.1]
        · cases hp
    obtain ⟨E', hE', hk1⟩ := key
    rw [hcong] at hk1
    refine aoper_wp hE' hco hk1 henv S.inv hrd hslot ?_
    intro V w' μ' hle hv hinv hkeep
    exact hn V w' μ' (i + 1) (sim_next D ht h0 S ha hnd hdst.1 hdst.2 hle hv hinv hkeep (by omega) hcalls')

end
end Go.Esc
