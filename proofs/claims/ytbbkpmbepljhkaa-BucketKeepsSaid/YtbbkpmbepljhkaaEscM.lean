/- Regions whose order is open: any order does what the text's order does. -/
import Derived.Test.YtbbkpmbepljhkaaEscM0
set_option linter.all false
namespace Go.Esc
open Go

/-! ### A call among rows that it has not seen -/

theorem rd_prefix {h h' : Heap} (hp : h <+: h') {id : Nat} (hl : id < h.length) : rd h' id = rd h id := by
  obtain ⟨t, rfl⟩ := hp
  exact rd_append_left hl

theorem rd_app_drop {hD h h' : Heap} (hl : hD.length = h.length) (id : Nat) : rd (hD ++ h'.drop h.length) id = if id < h.length then rd hD id else rd h' id := by
  split
  · rw [rd_append_left (by omega)]
  · unfold rd
    rw [List.getElem?_append_right (by omega), List.getElem?_drop, hl]
    congr 2; omega

open Classical in
theorem CallOk.frame {P : Program} {f : FuncId} {args : List Val} {h h' hD : Heap} {v : Val} (hk : CallOk P f args h v h') (hg : Grows h h') (hl : hD.length = h.length) (hsub : ∀ id x, rd h id = some x → rd hD id = some x) :
    CallOk P f args hD v (hD ++ h'.drop h.length) := by
  intro Γ μ w V hi hargs
  let Γ' : Ctx := { Γ with F := fun b => match Γ.F b with | some o => some o | none => if (∃ id x n, rd h id = none ∧ rd hD id = some x ∧ μ id = some (b, n)) then w.heap[b]? else none }
  have hpl : h.length ≤ h'.length := hg.1.length_le
  have hΓ : ∀ b, Γ'.F b = none → Γ.F b = none := by
    intro b hb
    cases hF : Γ.F b with
    | none => rfl
    | some o => simp only [Γ', hF] at hb; cases hb
  have hex : ∀ id x b n, rd h id = none → rd hD id = some x → μ id = some (b, n) → ∃ o, Γ'.F b = some o ∧ w.heap[b]? = some o := by
    intro id x b n h1 h2 h3
    have hrow := hi.rows id x h2
    unfold RowOk at hrow
    rw [h3] at hrow
    obtain ⟨C, elem, fz, h4, _⟩ := hrow
    cases hF : Γ.F b with
    | some o => exact ⟨o, by simp only [Γ', hF], hi.ctx.block b o hF⟩
    | none => exact ⟨_, by simp only [Γ', hF]; rw [if_pos ⟨id, x, n, h1, h2, h3⟩]; exact h4, h4⟩
  have hinv : Inv Γ' μ h w := by
    refine ⟨fun id r hr => hi.rows id r (hsub id r hr), fun id id' r r' x x' hr hr' => hi.sep id id' r r' x x' (hsub _ _ hr) (hsub _ _ hr'), fun id r x hr hrw hx => ?_, fun id hid => hi.dom id (by omega), ⟨hi.ctx.os, hi.ctx.tape, hi.ctx.output, fun b o ho => ?_⟩⟩
    · have h0 := hi.own id r x (hsub _ _ hr) hrw hx
      simp only [Γ', h0]
      rw [if_neg]
      rintro ⟨id', x', n, h1, h2, h3⟩
      have hne : id ≠ id' := by intro e; subst e; rw [hr] at h1; cases h1
      exact hi.sep id id' r x' x (x.1, n) (hsub _ _ hr) h2 hrw hne hx h3 rfl
    · cases hF : Γ.F b with
      | some o' => simp only [Γ', hF] at ho; cases ho; exact hi.ctx.block b _ hF
      | none =>
        simp only [Γ', hF] at ho
        split at ho
        · exact ho
        · cases ho
  refine (hk Γ' μ w V hinv hargs).mono ?_
  rintro e w' ⟨V', μ', rfl, hle, hv, hi', hkeep⟩
  refine ⟨V', μ', rfl, hle, hv, ?_, fun id hid => hkeep id (by omega)⟩
  -- what a row of the whole is
  have hget : ∀ id x, rd (hD ++ h'.drop h.length) id = some x → rd h' id = some x ∨ (id < h.length ∧ rd h id = none ∧ rd hD id = some x) := by
    intro id x hx
    rw [rd_app_drop hl] at hx
    split at hx
    · rename_i hlt
      cases hh : rd h id with
      | none => exact .inr ⟨hlt, rfl, hx⟩
      | some y =>
        have := hsub id y hh
        rw [hx] at this; cases this
        exact .inl (by rw [rd_prefix hg.1 hlt]; exact hh)
    · exact .inl hx
  have hold : ∀ id, id < h.length → μ' id = μ id := hkeep
  have hexb : ∀ id x y, id < h.length → rd h id = none → rd hD id = some x → μ' id = some y → ∃ o, Γ'.F y.1 = some o ∧ w.heap[y.1]? = some o := by
    intro id x y h1 h2 h3 h4
    rw [hold id h1] at h4
    exact hex id x y.1 y.2 h2 h3 h4
  refine ⟨fun id r hr => ?_, fun id id' r r' x x' hr hr' hrw hne hx hx' => ?_, fun id r x hr hrw hx => ?_, fun id hid => ?_, ⟨hi'.ctx.os, hi'.ctx.tape, hi'.ctx.output, fun b o ho => hi'.ctx.block b o (by simp only [Γ', ho])⟩⟩
  · rcases hget id r hr with h1 | ⟨h1, h2, h3⟩
    · exact hi'.rows id r h1
    · refine (hi.rows id r h3).mono hle (hold id h1) fun y hy => ?_
      obtain ⟨o, h4, h5⟩ := hexb id r y h1 h2 h3 (by rw [hold id h1]; exact hy)
      rw [h5]; exact hi'.ctx.block _ o h4
  · rcases hget id r hr with h1 | ⟨h1, h2, h3⟩
    · rcases hget id' r' hr' with h4 | ⟨h4, h5, h6⟩
      · exact hi'.sep id id' r r' x x' h1 h4 hrw hne hx hx'
      · have h7 := hi'.own id r x h1 hrw hx
        obtain ⟨o, h8, _⟩ := hexb id' r' x' h4 h5 h6 hx'
        intro e; rw [e, h8] at h7; cases h7
    · rcases hget id' r' hr' with h4 | ⟨h4, h5, h6⟩
      · obtain ⟨o, h8, _⟩ := hexb id r x h1 h2 h3 hx
        by_cases hlt : id' < h.length
        · rw [rd_prefix hg.1 hlt] at h4
          rw [hold id h1] at hx
          rw [hold id' hlt] at hx'
          exact hi.sep id id' r r' x x' h3 (hsub _ _ h4) hrw hne hx hx'
        · have h9 := hi'.own id' r' x' h4 (hg.2 id' r' (by omega) h4) hx'
          intro e; rw [← e, h8] at h9; cases h9
      · rw [hold id h1] at hx
        rw [hold id' h4] at hx'
        exact hi.sep id id' r r' x x' h3 h6 hrw hne hx hx'
  · rcases hget id r hr with h1 | ⟨h1, h2, h3⟩
    · exact hΓ _ (hi'.own id r x h1 hrw hx)
    · rw [hold id h1] at hx
      exact hi.own id r x h3 hrw hx
  · refine hi'.dom id ?_
    simp at hid; omega

/-! ### What is asked of such a region -/

def chkDraw (P : Program) (N : Nat) (ops : Array Oper) (m : Nat) (l r : List AOper) : Bool :=
  let all := l ++ r
  let cl := closures ops
  let ahead (i j : Nat) : Bool := (cl.getD i 0).testBit j
  P.follows .mixedOrders &&
  decide (ops.size = l.length + r.length) &&
  (ops.toList.zip all).all (fun p => chkOper P N ops p.1 p.2) &&
  (ops.toList.zipIdx).all (fun p => (directs p.1).all (fun q => decide (q < p.2))) &&
  l.all (fun o => quietOp o.op && decide (slotted o.op = o.slot.isSome) && (match o.slot with | some j => decide (j < m) | none => true)) &&
  r.all (fun o => decide (o.slot = none)) &&
  l.zipIdx.all (fun p => l.zipIdx.all fun q => decide (p.2 = q.2) || (decide (p.1.dst ≠ q.1.dst ∨ p.1.dst = none) && decide (p.1.slot ≠ q.1.slot ∨ p.1.slot = none))) &&
  l.zipIdx.all (fun p => l.zipIdx.all fun q => (match q.1.dst with | some d => !(p.1.reads.contains d) || (ahead p.2 q.2 && decide (q.2 < p.2)) | none => true)) &&
  l.zipIdx.all (fun p => l.zipIdx.all fun q => !((isCall p.1.op || isMark p.1.op) && decide (q.2 < p.2) && (isCall q.1.op || slotted q.1.op)) || ahead p.2 q.2) &&
  l.zipIdx.all (fun p => match ownOf p.1.op with | none => true | some j => l.zipIdx.any fun q => decide (q.1.slot = some j) && ahead p.2 q.2)

/-- All ahead of each of the last ones. -/
def chkLast (ops : Array Oper) (a n : Nat) : Bool :=
  let cl := closures ops
  (List.range' a n).all (fun i => (List.range i).all fun j => (cl.getD i 0).testBit j)

structure DrawOk (P : Program) (N : Nat) (ops : Array Oper) (m : Nat) (l r : List AOper) : Prop where
  follows : P.follows .mixedOrders = true
  size : ops.size = l.length + r.length
  oper : ∀ (i : Nat) (o : Oper) (ao : AOper), ops[i]? = some o → (l ++ r)[i]? = some ao → chkOper P N ops o ao = true
  dir : ∀ (i : Nat) (o : Oper), ops[i]? = some o → ∀ p ∈ directs o, p < i
  quiet : ∀ (i : Nat) (ao : AOper), l[i]? = some ao → quietOp ao.op = true ∧ slotted ao.op = ao.slot.isSome ∧ ∀ j, ao.slot = some j → j < m
  rslot : ∀ ao ∈ r, ao.slot = none
  apart : ∀ (i j : Nat) ai aj, l[i]? = some ai → l[j]? = some aj → i ≠ j → (∀ d, ai.dst = some d → aj.dst ≠ some d) ∧ (∀ s, ai.slot = some s → aj.slot ≠ some s)
  reads : ∀ (i j : Nat) ai aj d, l[i]? = some ai → l[j]? = some aj → aj.dst = some d → d ∈ ai.reads → ((closures ops).getD i 0).testBit j = true ∧ j < i
  calls : ∀ (i j : Nat) ai aj, l[i]? = some ai → l[j]? = some aj → (isCall ai.op = true ∨ isMark ai.op = true) → j < i → (isCall aj.op = true ∨ slotted aj.op = true) → ((closures ops).getD i 0).testBit j = true
  own : ∀ (i : Nat) ai j, l[i]? = some ai → ownOf ai.op = some j → ∃ (k : Nat) (ak : AOper), l[k]? = some ak ∧ ak.slot = some j ∧ ((closures ops).getD i 0).testBit k = true

theorem mem_zipIdx {α : Type} {l : List α} {i : Nat} {a : α} (h : l[i]? = some a) : (a, i) ∈ l.zipIdx := by
  rw [List.mem_zipIdx_iff_getElem?]; simpa using h

theorem chkDraw_ok {P : Program} {N : Nat} {ops : Array Oper} {m : Nat} {l r : List AOper} (hc : chkDraw P N ops m l r = true) : DrawOk P N ops m l r := by
  simp only [chkDraw, Bool.and_eq_true, decide_eq_true_eq] at hc
  obtain ⟨⟨⟨⟨⟨⟨⟨⟨⟨h1, h2⟩, h3⟩, h4⟩, h5⟩, h6⟩, h7⟩, h8⟩, h9⟩, h10⟩ := hc
  simp only [List.all_eq_true] at h3 h4 h5 h6 h7 h8 h9 h10
  refine ⟨h1, h2, ?_, ?_, ?_, ?_, ?_, ?_, ?_, ?_⟩
  · intro i o ao ho ha
    refine h3 (o, ao) ?_
    have : (ops.toList.zip (l ++ r))[i]? = some (o, ao) := by
      rw [List.getElem?_zip_eq_some]; exact ⟨by simpa using ho, ha⟩
    exact List.mem_of_getElem? this
  · intro i o ho p hp
    have := h4 (o, i) (mem_zipIdx (by simpa using ho))
    simpa using this p hp
  · intro i ao ha
    have := h5 ao (List.mem_of_getElem? ha)
    simp only [Bool.and_eq_true, decide_eq_true_eq] at this
    refine ⟨this.1.1, this.1.2, fun j hj => ?_⟩
    have h := this.2
    rw [hj] at h
    simpa using h
  · intro ao ha
    simpa using h6 ao ha
  · intro i j ai aj hi hj hne
    have := h7 _ (mem_zipIdx hi) _ (mem_zipIdx hj)
    simp only [Bool.or_eq_true, Bool.and_eq_true, decide_eq_true_eq] at this
    rcases this with this | ⟨ha, hb⟩
    · exact absurd this hne
    · refine ⟨fun d hd he => ?_, fun s hs he => ?_⟩
      · rcases ha with ha | ha
        · exact ha (by rw [hd, he])
        · rw [hd] at ha; cases ha
      · rcases hb with hb | hb
        · exact hb (by rw [hs, he])
        · rw [hs] at hb; cases hb
  · intro i j ai aj d hi hj hd hr
    have := h8 _ (mem_zipIdx hi) _ (mem_zipIdx hj)
    simp only [hd, Bool.or_eq_true, Bool.not_eq_true', Bool.and_eq_true, decide_eq_true_eq] at this
    rcases this with this | this
    · have hc : ai.reads.contains d = true := by simpa using hr
      rw [hc] at this; cases this
    · exact this
  · intro i j ai aj hi hj hc hlt hor
    have := h9 _ (mem_zipIdx hi) _ (mem_zipIdx hj)
    simp only [Bool.or_eq_true, Bool.not_eq_true'] at this
    rcases this with this | this
    · have : ((isCall ai.op || isMark ai.op) && decide (j < i) && (isCall aj.op || slotted aj.op)) = true := by
        simp only [Bool.and_eq_true, decide_eq_true_eq, Bool.or_eq_true]; exact ⟨⟨hc, hlt⟩, hor⟩
      simp_all
    · exact this
  · intro i ai j hi ho
    have := h10 _ (mem_zipIdx hi)
    simp only [ho, List.any_eq_true, Bool.and_eq_true, decide_eq_true_eq] at this
    obtain ⟨⟨ak, k⟩, hk, hs, ht⟩ := this
    rw [List.mem_zipIdx_iff_getElem?] at hk
    exact ⟨k, ak, hk, hs, ht⟩

theorem chkLast_ok {ops : Array Oper} {a n : Nat} (hc : chkLast ops a n = true) (hs : ops.size = a + n) : ∀ i, a ≤ i → i < ops.size → ∀ j, j < i → ((closures ops).getD i 0).testBit j = true := by
  intro i hi hlt j hj
  simp only [chkLast, List.all_eq_true] at hc
  exact hc i (by rw [List.mem_range'_1]; omega) j (by simpa using hj)

/-! ### The text's order -/

structure Trace (E : Sums) (hr : Heap) (n0 : Nat) (l : List AOper) (es : Nat → Env) (hs : Nat → Heap) (vs : Nat → Val) : Prop where
  step : ∀ (i : Nat) o, l[i]? = some o → aoper E true hr n0 o (es i) (hs i) (fun v h => some (v, h)) = some (vs i, hs (i + 1))
  env : ∀ (i : Nat) o, l[i]? = some o → es (i + 1) = (es i).put o.dst (vs i)

theorem trace_of {E : Sums} {hr : Heap} {n0 : Nat} {R : Type} {k : Env → Heap → Option R} {res : R} : ∀ (l : List AOper) (e : Env) (h : Heap), adraw E hr n0 l e h k = some res →
    ∃ es hs vs, es 0 = e ∧ hs 0 = h ∧ Trace E hr n0 l es hs vs ∧ k (es l.length) (hs l.length) = some res
  | [], e, h, hres => ⟨fun _ => e, fun _ => h, fun _ => .un, rfl, rfl, ⟨fun i o ho => by simp at ho, fun i o ho => by simp at ho⟩, hres⟩
  | o :: l, e, h, hres => by
    rw [adraw_cons, aoper_bind] at hres
    simp only [Option.bind_eq_some_iff] at hres
    obtain ⟨p, hp, hres⟩ := hres
    obtain ⟨es, hs, vs, h1, h2, h3, h4⟩ := trace_of l _ _ hres
    refine ⟨fun i => match i with | 0 => e | i + 1 => es i, fun i => match i with | 0 => h | i + 1 => hs i, fun i => match i with | 0 => p.1 | i + 1 => vs i, rfl, rfl, ⟨fun i o' ho => ?_, fun i o' ho => ?_⟩, h4⟩
    · cases i with
      | zero => simp at ho; subst ho; simp only; rw [h2]; exact hp
      | succ i => simp at ho; exact h3.step i o' ho
    · cases i with
      | zero => simp at ho; subst ho; exact h1
      | succ i => simp at ho; exact h3.env i o' ho

/-- A row that an operation of the list makes in its place. -/
def Owns (l : List AOper) (n0 : Nat) (i id : Nat) : Prop := ∃ ao j, l[i]? = some ao ∧ ao.slot = some j ∧ id = n0 + j

section
variable {P : Program} {N m : Nat} {ops : Array Oper} {l r : List AOper} {E : Sums} {hr : Heap} {es : Nat → Env} {hs : Nat → Heap} {vs : Nat → Val}

/-- What one operation does to the rows. -/
theorem step_heap (hq : ∀ (i : Nat) (ao : AOper), l[i]? = some ao → quietOp ao.op = true ∧ slotted ao.op = ao.slot.isSome ∧ ∀ j, ao.slot = some j → j < m) (ht : Trace E hr hr.length l es hs vs) {i : Nat} {ao : AOper} (ha : l[i]? = some ao) :
    (isCall ao.op = true ∧ ao.slot = none ∧ Grows (hs i) (hs (i + 1))) ∨ (isCall ao.op = false ∧ (hs (i + 1) = hs i ∨ ∃ j row, ao.slot = some j ∧ hs (i + 1) = (hs i).set (hr.length + j) (some row))) := by
  have h1 := ht.step i ao ha
  obtain ⟨q1, q2, q3⟩ := hq i ao ha
  -- the operation itself, or nothing
  have key : hs (i + 1) = hs i ∨ ∃ v, aop E true hr hr.length ao.slot ao.op (es i) (hs i) (fun v h => some (v, h)) = some (v, hs (i + 1)) := by
    unfold aoper at h1
    cases hgu : ao.guard with
    | none => rw [hgu] at h1; exact .inr ⟨_, h1⟩
    | some g =>
      rw [hgu] at h1
      simp only [Option.bind_eq_some_iff, Option.some.injEq] at h1
      obtain ⟨⟨v', h2⟩, hp, hpe⟩ := h1
      cases hpe
      unfold gd at hp
      split at hp
      · rename_i x _
        cases hx : (x == g.2) with
        | true => rw [hx] at hp; exact .inr ⟨_, hp⟩
        | false => rw [hx] at hp; simp only [cond_false, Option.some.injEq, Prod.mk.injEq] at hp; exact .inl hp.2.symm
      · simp only [Option.some.injEq, Prod.mk.injEq] at hp; exact .inl hp.2.symm
      · cases hp
  cases hc : isCall ao.op with
  | true =>
    left
    have hns : slotted ao.op = false := by cases hop : ao.op <;> simp_all [isCall, slotted]
    have hsn : ao.slot = none := by
      rw [hns] at q2
      cases hsl : ao.slot with
      | none => rfl
      | some j => rw [hsl] at q2; cases q2
    refine ⟨rfl, hsn, ?_⟩
    rcases key with h | ⟨v, h⟩
    · rw [h]; exact Grows.refl _
    · cases hop : ao.op <;> rw [hop] at hc h <;> simp [isCall] at hc
      case call f args =>
        simp only [aop, cond_true, Option.bind_eq_some_iff, Option.some.injEq] at h
        obtain ⟨⟨v', h2⟩, hp, hpe⟩ := h
        cases hpe
        exact (quiet_some hp).2
      case callV f args =>
        simp only [aop, cond_true, Option.bind_eq_some_iff, Option.some.injEq] at h
        obtain ⟨⟨v', h2⟩, hp, hpe⟩ := h
        cases hpe
        exact (quiet_some hp).2
  | false =>
    right
    refine ⟨rfl, ?_⟩
    rcases key with h | ⟨v, h⟩
    · exact .inl h
    · cases hsl : slotted ao.op with
      | false =>
        cases hmk : isMark ao.op with
        | false =>
          cases hown : ownOf ao.op with
          | none => exact .inl (aop_plain q1 hmk hown hc hsl h).1
          | some j => exact .inl (aop_own hown h).1
        | true => exact .inl (aop_mark hmk h).1
      | true =>
        rw [hsl] at q2
        obtain ⟨j, hj⟩ := Option.isSome_iff_exists.1 q2.symm
        rw [hj] at h
        obtain ⟨row, h2, _⟩ := aop_slot hsl h
        exact .inr ⟨j, row, hj, h2⟩

theorem step_len (hq : ∀ (i : Nat) (ao : AOper), l[i]? = some ao → quietOp ao.op = true ∧ slotted ao.op = ao.slot.isSome ∧ ∀ j, ao.slot = some j → j < m) (ht : Trace E hr hr.length l es hs vs) {i : Nat} (hi : i < l.length) :
    (hs i).length ≤ (hs (i + 1)).length := by
  rcases step_heap hq ht (List.getElem?_eq_getElem hi) with ⟨_, _, h⟩ | ⟨_, h | ⟨j, row, _, h⟩⟩
  · exact h.1.length_le
  · rw [h]; exact Nat.le_refl _
  · rw [h]; simp

theorem len_mono (hq : ∀ (i : Nat) (ao : AOper), l[i]? = some ao → quietOp ao.op = true ∧ slotted ao.op = ao.slot.isSome ∧ ∀ j, ao.slot = some j → j < m) (ht : Trace E hr hr.length l es hs vs) : ∀ (t i : Nat), i + t ≤ l.length → (hs i).length ≤ (hs (i + t)).length
  | 0, i, _ => Nat.le_refl _
  | t + 1, i, h => Nat.le_trans (len_mono hq ht t i (by omega)) (step_len hq ht (i := i + t) (by omega))

/-- Nothing stands in a place ahead of its operation. -/
theorem own_none (D : DrawOk P N ops m l r) (ht : Trace E hr hr.length l es hs vs) (h0 : hs 0 = hr ++ List.replicate m none) {i id : Nat} (ho : Owns l hr.length i id) : ∀ k, k ≤ i → rd (hs k) id = none := by
  obtain ⟨ao, j, ha, hj, rfl⟩ := ho
  have hjm := (D.quiet i ao ha).2.2 j hj
  have hil : i < l.length := (List.getElem?_eq_some_iff.1 ha).1
  intro k
  induction k with
  | zero =>
    intro _
    rw [h0]; unfold rd
    rw [List.getElem?_append_right (by omega)]
    simp only [List.getElem?_replicate]
    split <;> rfl
  | succ k ih =>
    intro hk
    have ih := ih (by omega)
    have hkl : k < l.length := by omega
    have hin : hr.length + j < (hs k).length := by
      have := len_mono D.quiet ht k 0 (by omega)
      rw [h0] at this
      simp at this; omega
    rcases step_heap D.quiet ht (List.getElem?_eq_getElem hkl) with ⟨_, _, h⟩ | ⟨_, h | ⟨j', row, hj', h⟩⟩
    · rw [rd_prefix h.1 hin]; exact ih
    · rw [h]; exact ih
    · rw [h]
      have hne : j ≠ j' := by
        intro e; subst e
        exact (D.apart i k ao l[k] ha (List.getElem?_eq_getElem hkl) (by omega)).2 j hj hj'
      rw [rd_set_other (by omega)]; exact ih

/-- What no later operation makes stays. -/
theorem own_keep (D : DrawOk P N ops m l r) (ht : Trace E hr hr.length l es hs vs) {k id : Nat} (hid : id < (hs k).length) (hno : ∀ i, k ≤ i → ¬ Owns l hr.length i id) : ∀ t, k + t ≤ l.length → rd (hs (k + t)) id = rd (hs k) id
  | 0, _ => rfl
  | t + 1, hl => by
    have ih := own_keep D ht hid hno t (by omega)
    have hlt : k + t < l.length := by omega
    have hin : id < (hs (k + t)).length := Nat.lt_of_lt_of_le hid (len_mono D.quiet ht t k (by omega))
    rw [← ih]
    rcases step_heap D.quiet ht (List.getElem?_eq_getElem hlt) with ⟨_, _, h⟩ | ⟨_, h | ⟨j', row, hj', h⟩⟩
    · exact rd_prefix h.1 hin
    · show rd (hs (k + t + 1)) id = _
      rw [h]
    · show rd (hs (k + t + 1)) id = _
      rw [h]
      have hne : hr.length + j' ≠ id := fun e => hno (k + t) (by omega) ⟨l[k + t], j', List.getElem?_eq_getElem hlt, hj', e.symm⟩
      rw [rd_set_other hne]

/-- The rows that are there when some operations have been done. -/
def und (l : List AOper) (n0 : Nat) (done : Nat → Bool) (id : Nat) : Bool := (List.range l.length).any fun i => !done i && decide (((l[i]?).bind (·.slot)).map (n0 + ·) = some id)

theorem und_iff {n0 : Nat} {done : Nat → Bool} {id : Nat} : und l n0 done id = true ↔ ∃ i, done i = false ∧ Owns l n0 i id := by
  unfold und Owns
  simp only [List.any_eq_true, List.mem_range, Bool.and_eq_true, Bool.not_eq_true', decide_eq_true_eq, Option.map_eq_some_iff, Option.bind_eq_some_iff]
  constructor
  · rintro ⟨i, hi, hd, j, ⟨ao, ha, hj⟩, rfl⟩
    exact ⟨i, hd, ao, j, ha, hj, rfl⟩
  · rintro ⟨i, hd, ao, j, ha, hj, rfl⟩
    exact ⟨i, (List.getElem?_eq_some_iff.1 ha).1, hd, j, ⟨ao, ha, hj⟩, rfl⟩

def HD (F : Heap) (u : Nat → Bool) (L : Nat) : Heap := (List.range L).map fun id => if u id = true then none else rd F id

theorem HD_length (F : Heap) (u : Nat → Bool) (L : Nat) : (HD F u L).length = L := by simp [HD]
theorem rd_HD (F : Heap) (u : Nat → Bool) (L id : Nat) : rd (HD F u L) id = if id < L ∧ u id = false then rd F id else none := by
  unfold HD
  conv => lhs; unfold rd
  rw [List.getElem?_map]
  by_cases h : id < L
  · rw [List.getElem?_range h]
    cases hu : u id
    · simp [h, hu]; rfl
    · simp [h, hu]
  · rw [List.getElem?_eq_none (by simp; omega)]
    simp [h]

theorem heap_ext {h h' : Heap} (hl : h.length = h'.length) (hr : ∀ id, id < h.length → rd h id = rd h' id) : h = h' := by
  apply List.ext_getElem hl
  intro i h1 h2
  have := hr i h1
  unfold rd at this
  rw [List.getElem?_eq_getElem h1, List.getElem?_eq_getElem h2] at this
  simpa using this

/-- How things stand when some operations have been done, in whatever order. -/
structure Sim (Γ : Ctx) (l : List AOper) (n0 N : Nat) (e : Env) (es : Nat → Env) (hs : Nat → Heap) (vs : Nat → Val) (μ0 : Mu) (done : Nat → Bool) (q : Nat) (μ : Mu) (a : Act) (w : World) : Prop where
  qle : q ≤ l.length
  calls : ∀ (i : Nat) ao, l[i]? = some ao → isCall ao.op = true → (done i = true ↔ i < q)
  envD : ∀ (i : Nat) ao d, l[i]? = some ao → done i = true → ao.dst = some d → RV μ (vs i) (a.tmps.getD d undef)
  envO : ∀ t, (∀ (i : Nat) ao, l[i]? = some ao → done i = true → ao.dst ≠ some t) → RV μ (e.get t) (a.tmps.getD t undef)
  inv : Inv Γ μ (HD (hs l.length) (und l n0 done) (hs q).length) w
  free : ∀ id, und l n0 done id = true → μ id = none
  le : μ0.le μ
  keep : ∀ id, id < n0 → μ id = μ0 id
  size : N ≤ a.tmps.size
  defers : a.defers = []

end
end Go.Esc
