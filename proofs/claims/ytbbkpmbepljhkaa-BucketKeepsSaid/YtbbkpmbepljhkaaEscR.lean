/- A call that only reads leaves the rows as they were: what it made and does not answer is forgotten, what it answers stands behind them. -/
import Derived.Test.YtbbkpmbepljhkaaEscQ
set_option linter.all false
namespace Go.Esc
open Go

def Cell.flat : Cell → Bool
  | .b _ => true
  | .i _ _ => true
  | .s _ => true
  | .np => true
  | .ns => true
  | .nf => true
  | .nm => true
  | _ => false

def flats (l : List Cell) : Bool := l.all Cell.flat

/-- All rows, none of which may be written. -/
def ro (h : Heap) : Heap := h.map fun r => r.map fun r => ⟨r.cells, false⟩

theorem ro_length {h : Heap} : (ro h).length = h.length := by simp [ro]
theorem rd_ro {h : Heap} {id : Nat} : rd (ro h) id = (rd h id).map fun r => ⟨r.cells, false⟩ := by
  unfold rd ro
  rw [List.getElem?_map]
  cases h[id]? with
  | none => rfl
  | some x => cases x <;> rfl

def newRow (h : Heap) (id : Nat) : Bool :=
  match rd h id with
  | some r => r.rw && flats r.cells
  | none => false

/-- Does it name but rows below b? -/
def Cell.low (b : Nat) : Cell → Bool
  | .p id _ => decide (id < b)
  | .sl id _ _ _ => decide (id < b)
  | .f _ caps => caps.all fun q => decide (q.1 < b)
  | .m id => decide (id < b)
  | c => c.flat

def canonC (h : Heap) (b : Nat) : List Nat → List Cell → Option (List Cell × List Nat)
  | seen, [] => some ([], seen)
  | seen, c :: r => if c.low b = true then (canonC h b seen r).map fun p => (c :: p.1, p.2) else
    match c with
    | .sl id off len sz => if b ≤ id ∧ id ∉ seen ∧ newRow h id = true then (canonC h b (seen ++ [id]) r).map fun p => (.sl (b + seen.length) off len sz :: p.1, p.2) else none
    | _ => none

def canonP (h : Heap) (b : Nat) : List Nat → List Part → Option (List Part × List Nat)
  | seen, [] => some ([], seen)
  | seen, .c x :: r => (canonC h b seen [x]).bind fun p => match p.1 with
    | [y] => (canonP h b p.2 r).map fun q => (.c y :: q.1, q.2)
    | _ => none
  | seen, .a l :: r => (canonC h b seen l).bind fun p => (canonP h b p.2 r).map fun q => (.a p.1 :: q.1, q.2)

def canonV (h : Heap) (b : Nat) : Val → Option (Val × List Nat)
  | .c x => (canonC h b [] [x]).bind fun p => match p.1 with
    | [y] => some (.c y, p.2)
    | _ => none
  | .a l => (canonC h b [] l).map fun p => (.a p.1, p.2)
  | .t l => (canonP h b [] l).map fun p => (.t p.1, p.2)
  | _ => none

def tidied (F : List Val → Heap → Option (Val × Heap)) (args : List Val) (h : Heap) : Option (Val × Heap) :=
  (F args (ro h)).bind fun p => (canonV p.2 h.length p.1).map fun q => (q.1, h ++ q.2.map (rd p.2))

def tidy (F : List Val → Heap → Option (Val × Heap)) (args : List Val) (h : Heap) : Option (Val × Heap) :=
  match tidied F args h with
  | some r => some r
  | none => F args h

theorem RC.flat {μ μ' : Mu} {c : Cell} {V : Value} (hf : c.flat = true) (h : RC μ c V) : RC μ' c V := by
  cases c <;> first | exact h | cases hf

theorem RC.low {μ μ' : Mu} {b : Nat} (hb : ∀ id, id < b → μ' id = μ id) {c : Cell} {V : Value} (hf : c.low b = true) (h : RC μ c V) : RC μ' c V := by
  cases c with
  | p id off =>
    obtain ⟨x, n, h1, h2⟩ := h
    exact ⟨x, n, by rw [hb id (of_decide_eq_true hf)]; exact h1, h2⟩
  | sl id off len sz =>
    rcases h with ⟨x, n, cap, h1, h2⟩ | h
    · exact .inl ⟨x, n, cap, by rw [hb id (of_decide_eq_true hf)]; exact h1, h2⟩
    · exact .inr h
  | f fn caps =>
    obtain ⟨cs, h1, h2⟩ := h
    refine ⟨cs, h1, ?_⟩
    have hf' : (caps.all fun q => decide (q.1 < b)) = true := hf
    clear h1 hf
    induction caps generalizing cs with
    | nil => cases cs with
      | nil => trivial
      | cons => exact h2.elim
    | cons q r ih => cases cs with
      | nil => exact h2.elim
      | cons V vs =>
        rw [List.all_cons, Bool.and_eq_true] at hf'
        obtain ⟨x, n, g1, g2⟩ := h2.1
        exact ⟨⟨x, n, by rw [hb q.1 (of_decide_eq_true hf'.1)]; exact g1, g2⟩, ih vs h2.2 hf'.2⟩
  | m id =>
    obtain ⟨x, n, h1, h2⟩ := h
    exact ⟨x, n, by rw [hb id (of_decide_eq_true hf)]; exact h1, h2⟩
  | _ => exact RC.flat hf h

theorem Cell.low_of_flat {b : Nat} {c : Cell} (h : c.flat = true) : c.low b = true := by
  cases c <;> first | exact h | cases h

theorem flats_cons {c : Cell} {l : List Cell} : flats (c :: l) = (c.flat && flats l) := rfl

theorem All2.flat {μ μ' : Mu} : ∀ {l : List Cell} {vs : List Value}, flats l = true → All2 (RC μ) l vs → All2 (RC μ') l vs
  | [], [], _, _ => trivial
  | c :: l, V :: vs, hf, ⟨h1, h2⟩ => by
    rw [flats_cons, Bool.and_eq_true] at hf
    exact ⟨h1.flat hf.1, All2.flat hf.2 h2⟩
  | [], _ :: _, _, h => h.elim
  | _ :: _, [], _, h => h.elim

structure Good (h : Heap) (b : Nat) (ids : List Nat) : Prop where
  nd : ids.Nodup
  ok : ∀ id ∈ ids, b ≤ id ∧ ∃ r, rd h id = some r ∧ r.rw = true ∧ flats r.cells = true

theorem Good.nil {h : Heap} {b : Nat} : Good h b [] := ⟨List.nodup_nil, fun _ h => by cases h⟩

theorem Good.snoc {h : Heap} {b : Nat} {ids : List Nat} (hg : Good h b ids) {id : Nat} (h1 : b ≤ id) (h2 : id ∉ ids) (h3 : newRow h id = true) : Good h b (ids ++ [id]) := by
  refine ⟨?_, fun i hi => ?_⟩
  · rw [List.nodup_append]
    exact ⟨hg.nd, by simp, fun a ha c hc e => by simp at hc; subst hc; subst e; exact h2 ha⟩
  · rw [List.mem_append] at hi
    rcases hi with hi | hi
    · exact hg.ok i hi
    · simp at hi; subst hi
      refine ⟨h1, ?_⟩
      unfold newRow at h3
      cases hr : rd h i with
      | none => rw [hr] at h3; cases h3
      | some r => rw [hr] at h3; rw [Bool.and_eq_true] at h3; exact ⟨r, rfl, h3.1, h3.2⟩

/-- Which blocks the rows are behind the call. -/
def nu (μ μ' : Mu) (b : Nat) (ids : List Nat) : Mu := fun id => if id < b then μ id else (ids[id - b]?).bind μ'

theorem canonC_ok {h : Heap} {b : Nat} {μ μ' : Mu} (hlow : ∀ id, id < b → μ' id = μ id) : ∀ (l : List Cell) (seen : List Nat) (l2 : List Cell) (fin : List Nat), canonC h b seen l = some (l2, fin) → Good h b seen →
    Good h b fin ∧ seen <+: fin ∧ ∀ ids, fin <+: ids → ∀ vs : List Value, All2 (RC μ') l vs → All2 (RC (nu μ μ' b ids)) l2 vs := by
  intro l
  induction l with
  | nil =>
    intro seen l2 fin hc hg
    simp only [canonC, Option.some.injEq, Prod.mk.injEq] at hc
    obtain ⟨rfl, rfl⟩ := hc
    exact ⟨hg, List.prefix_refl _, fun ids _ vs hv => by cases vs with
      | nil => trivial
      | cons => exact hv.elim⟩
  | cons c r ih =>
    intro seen l2 fin hc hg
    unfold canonC at hc
    split at hc
    · rename_i hf
      simp only [Option.map_eq_some_iff, Prod.mk.injEq] at hc
      obtain ⟨p, hp, rfl, rfl⟩ := hc
      obtain ⟨h1, h2, h3⟩ := ih seen p.1 p.2 hp hg
      refine ⟨h1, h2, fun ids hi vs hv => ?_⟩
      cases vs with
      | nil => exact hv.elim
      | cons V vs => exact ⟨RC.low (b := b) (fun id hid => by unfold nu; rw [if_pos hid]; exact (hlow id hid).symm) hf hv.1, h3 ids hi vs hv.2⟩
    · split at hc
      · rename_i id off len sz _
        split at hc
        · rename_i hcond
          simp only [Option.map_eq_some_iff, Prod.mk.injEq] at hc
          obtain ⟨p, hp, rfl, rfl⟩ := hc
          obtain ⟨h1, h2, h3⟩ := ih _ p.1 p.2 hp (hg.snoc hcond.1 hcond.2.1 hcond.2.2)
          refine ⟨h1, (List.prefix_append _ _).trans h2, fun ids hi vs hv => ?_⟩
          cases vs with
          | nil => exact hv.elim
          | cons V vs =>
            refine ⟨?_, h3 ids hi vs hv.2⟩
            have hn : nu μ μ' b ids (b + seen.length) = μ' id := by
              unfold nu
              rw [if_neg (by omega), Nat.add_sub_cancel_left]
              obtain ⟨t, ht⟩ := h2.trans hi
              rw [← ht, List.append_assoc, List.getElem?_append_right (Nat.le_refl _)]
              simp
            rcases hv.1 with ⟨x, n, cap, g1, g2⟩ | g
            · exact .inl ⟨x, n, cap, by rw [hn]; exact g1, g2⟩
            · exact .inr g
        · cases hc
      · cases hc

theorem canonP_ok {h : Heap} {b : Nat} {μ μ' : Mu} (hlow : ∀ id, id < b → μ' id = μ id) : ∀ (l : List Part) (seen : List Nat) (l2 : List Part) (fin : List Nat), canonP h b seen l = some (l2, fin) → Good h b seen →
    Good h b fin ∧ seen <+: fin ∧ ∀ ids, fin <+: ids → ∀ vs : List Value, All2 (RP μ') l vs → All2 (RP (nu μ μ' b ids)) l2 vs := by
  intro l
  induction l with
  | nil =>
    intro seen l2 fin hc hg
    simp only [canonP, Option.some.injEq, Prod.mk.injEq] at hc
    obtain ⟨rfl, rfl⟩ := hc
    exact ⟨hg, List.prefix_refl _, fun ids _ vs hv => by cases vs with
      | nil => trivial
      | cons => exact hv.elim⟩
  | cons c r ih =>
    intro seen l2 fin hc hg
    cases c with
    | c x =>
      simp only [canonP, Option.bind_eq_some_iff] at hc
      obtain ⟨⟨l3, f3⟩, hp, hc⟩ := hc
      obtain ⟨h1, h2, h3⟩ := canonC_ok (μ := μ) (μ' := μ') hlow [x] seen l3 f3 hp hg
      split at hc
      · rename_i y heq
        simp only at heq
        subst heq
        simp only [Option.map_eq_some_iff, Prod.mk.injEq] at hc
        obtain ⟨q, hq, rfl, rfl⟩ := hc
        obtain ⟨g1, g2, g3⟩ := ih f3 q.1 q.2 hq h1
        refine ⟨g1, h2.trans g2, fun ids hi vs hv => ?_⟩
        cases vs with
        | nil => exact hv.elim
        | cons V vs => exact ⟨(h3 ids (g2.trans hi) [V] ⟨hv.1, trivial⟩).1, g3 ids hi vs hv.2⟩
      · cases hc
    | a x =>
      simp only [canonP, Option.bind_eq_some_iff] at hc
      obtain ⟨⟨l3, f3⟩, hp, hc⟩ := hc
      obtain ⟨h1, h2, h3⟩ := canonC_ok (μ := μ) (μ' := μ') hlow x seen l3 f3 hp hg
      simp only [Option.map_eq_some_iff, Prod.mk.injEq] at hc
      obtain ⟨q, hq, rfl, rfl⟩ := hc
      obtain ⟨g1, g2, g3⟩ := ih f3 q.1 q.2 hq h1
      refine ⟨g1, h2.trans g2, fun ids hi vs hv => ?_⟩
      cases vs with
      | nil => exact hv.elim
      | cons V vs =>
        obtain ⟨Vs, hV, h4⟩ := hv.1
        exact ⟨⟨Vs, hV, h3 ids (g2.trans hi) Vs h4⟩, g3 ids hi vs hv.2⟩

theorem canonV_ok {h : Heap} {b : Nat} {μ μ' : Mu} (hlow : ∀ id, id < b → μ' id = μ id) {v v2 : Val} {fin : List Nat} (hc : canonV h b v = some (v2, fin)) : Good h b fin ∧ ∀ V, RV μ' v V → RV (nu μ μ' b fin) v2 V := by
  cases v with
  | c x =>
    simp only [canonV, Option.bind_eq_some_iff] at hc
    obtain ⟨⟨l3, f3⟩, hp, hc⟩ := hc
    obtain ⟨h1, h2, h3⟩ := canonC_ok (μ := μ) (μ' := μ') hlow [x] [] l3 f3 hp Good.nil
    split at hc
    · rename_i y heq
      simp only at heq
      subst heq
      simp only [Option.some.injEq, Prod.mk.injEq] at hc
      obtain ⟨rfl, rfl⟩ := hc
      exact ⟨h1, fun V hV => (h3 _ (List.prefix_refl _) [V] ⟨hV, trivial⟩).1⟩
    · cases hc
  | a l =>
    simp only [canonV, Option.map_eq_some_iff, Prod.mk.injEq] at hc
    obtain ⟨p, hp, rfl, rfl⟩ := hc
    obtain ⟨h1, h2, h3⟩ := canonC_ok (μ := μ) (μ' := μ') hlow l [] p.1 p.2 hp Good.nil
    refine ⟨h1, fun V hV => ?_⟩
    obtain ⟨vs, e, h4⟩ := hV
    exact ⟨vs, e, h3 _ (List.prefix_refl _) vs h4⟩
  | t l =>
    simp only [canonV, Option.map_eq_some_iff, Prod.mk.injEq] at hc
    obtain ⟨p, hp, rfl, rfl⟩ := hc
    obtain ⟨h1, h2, h3⟩ := canonP_ok (μ := μ) (μ' := μ') hlow l [] p.1 p.2 hp Good.nil
    refine ⟨h1, fun V hV => ?_⟩
    obtain ⟨vs, e, h4⟩ := hV
    exact ⟨vs, e, h3 _ (List.prefix_refl _) vs h4⟩
  | un => simp [canonV] at hc
  | no => simp [canonV] at hc

/-- Is it a block of the rows? -/
def ofRows (μ : Mu) (h : Heap) (b : Nat) : Prop := ∃ id r n, rd h id = some r ∧ μ id = some (b, n)

open Classical in
noncomputable def Ctx.hold (Γ : Ctx) (μ : Mu) (h : Heap) (w : World) : Ctx := { Γ with F := fun b => if ofRows μ h b then w.heap[b]? else Γ.F b }

theorem Inv.hold {Γ : Ctx} {μ : Mu} {h : Heap} {w : World} (hi : Inv Γ μ h w) : Inv (Γ.hold μ h w) μ (ro h) w where
  rows id r hr := by
    rw [rd_ro, Option.map_eq_some_iff] at hr
    obtain ⟨r0, h0, rfl⟩ := hr
    have := hi.rows id r0 h0
    unfold RowOk at this ⊢
    cases hm : μ id with
    | none => rw [hm] at this; exact this
    | some x =>
      rw [hm] at this
      obtain ⟨C, elem, fz, h1, h2, h3, h4⟩ := this
      refine ⟨C, elem, fz, h1, h2, h3.mono fun c V hc => ?_, fun hf => by cases hf⟩
      rcases hc with hc | ⟨_, hc⟩
      · exact .inl hc
      · exact .inr ⟨rfl, hc⟩
  sep id id' r r' x x' hr hr' hw := by
    rw [rd_ro, Option.map_eq_some_iff] at hr
    obtain ⟨r0, h0, rfl⟩ := hr
    cases hw
  own id r x hr hw := by
    rw [rd_ro, Option.map_eq_some_iff] at hr
    obtain ⟨r0, h0, rfl⟩ := hr
    cases hw
  dom id hl := hi.dom id (by simpa [ro_length] using hl)
  ctx := ⟨hi.ctx.os, hi.ctx.tape, hi.ctx.output, fun b o ho => by
    unfold Ctx.hold at ho
    simp only at ho
    split at ho
    · exact ho
    · exact hi.ctx.block b o ho⟩

theorem Inv.held {Γ : Ctx} {μ μ' : Mu} {h h' : Heap} {w w' : World} (hi : Inv Γ μ h w) (hj : Inv (Γ.hold μ h w) μ' h' w') {ids : List Nat} (hg : Good h' h.length ids) :
    Inv Γ (nu μ μ' h.length ids) (h ++ ids.map (rd h')) w' := by
  have same : ∀ b, ofRows μ h b → w'.heap[b]? = w.heap[b]? := by
    intro b hb
    have hb' := hb
    obtain ⟨id, r, n, hr, hm⟩ := hb
    have := hi.rows id r hr
    unfold RowOk at this
    rw [hm] at this
    obtain ⟨C, elem, fz, h1, _⟩ := this
    have h2 : (Γ.hold μ h w).F b = some (.cells C elem fz) := by
      unfold Ctx.hold
      simp only
      rw [if_pos hb']; exact h1
    rw [hj.ctx.block b _ h2, h1]
  have lo : ∀ id, id < h.length → nu μ μ' h.length ids id = μ id := fun id hl => by unfold nu; rw [if_pos hl]
  have hle : μ.le (nu μ μ' h.length ids) := fun id x hx => by
    by_cases hl : id < h.length
    · rw [lo id hl]; exact hx
    · rw [hi.dom id (by omega)] at hx; cases hx
  have get : ∀ id r, rd (h ++ ids.map (rd h')) id = some r → (id < h.length ∧ rd h id = some r) ∨ (∃ j, ids[id - h.length]? = some j ∧ h.length ≤ id ∧ rd h' j = some r ∧ nu μ μ' h.length ids id = μ' j ∧ j ∈ ids ∧ r.rw = true ∧ flats r.cells = true) := by
    intro id r hr
    by_cases hl : id < h.length
    · rw [rd_append_left hl] at hr; exact .inl ⟨hl, hr⟩
    · right
      unfold rd at hr
      rw [List.getElem?_append_right (by omega), List.getElem?_map] at hr
      cases hj' : ids[id - h.length]? with
      | none => rw [hj'] at hr; cases hr
      | some j =>
        rw [hj'] at hr
        change rd h' j = some r at hr
        have hmem : j ∈ ids := List.mem_of_getElem? hj'
        obtain ⟨_, r2, hr2, h1, h2⟩ := hg.ok j hmem
        rw [hr] at hr2; cases hr2
        refine ⟨j, rfl, by omega, hr, ?_, hmem, h1, h2⟩
        unfold nu
        rw [if_neg hl, hj']; rfl
  have fnew : ∀ j r x, rd h' j = some r → r.rw = true → μ' j = some x → ¬ ofRows μ h x.1 ∧ Γ.F x.1 = none := by
    intro j r x hr hw hx
    have h1 := hj.own j r x hr hw hx
    unfold Ctx.hold at h1
    simp only at h1
    split at h1
    · rename_i hb
      obtain ⟨id, r0, n, hr0, hm⟩ := hb
      have := hi.rows id r0 hr0
      unfold RowOk at this
      rw [hm] at this
      obtain ⟨C, elem, fz, h2, _⟩ := this
      rw [h2] at h1; cases h1
    · exact ⟨‹_›, h1⟩
  refine ⟨?_, ?_, ?_, ?_, ?_⟩
  · intro id r hr
    rcases get id r hr with ⟨hl, hr⟩ | ⟨j, hj1, hl, hr, hn, hmem, hw, hf⟩
    · exact (hi.rows id r hr).mono hle (lo id hl) fun x hx => same _ ⟨id, r, x.2, hr, hx⟩
    · have := hj.rows j r hr
      unfold RowOk at this ⊢
      rw [hn]
      cases hm : μ' j with
      | none => rw [hm] at this; exact this
      | some x =>
        rw [hm] at this
        obtain ⟨C, elem, fz, h1, h2, h3, h4⟩ := this
        refine ⟨C, elem, fz, h1, h2, ?_, h4⟩
        rw [hw] at h3 ⊢
        have h5 := RL.all h3 (by simp)
        exact (All2.flat (μ' := nu μ μ' h.length ids) hf h5).mono fun _ _ => .inl
  · intro id id' r r' x x' hr hr' hw hne hx hx'
    rcases get id r hr with ⟨hl, hr⟩ | ⟨j, hj1, hl, hr, hn, hmem, hw2, hf⟩
    · rw [lo id hl] at hx
      rcases get id' r' hr' with ⟨hl', hr'⟩ | ⟨j', hj1', hl', hr', hn', hmem', hw2', hf'⟩
      · rw [lo id' hl'] at hx'
        exact hi.sep id id' r r' x x' hr hr' hw hne hx hx'
      · rw [hn'] at hx'
        intro e
        exact (fnew j' r' x' hr' hw2' hx').1 (e ▸ ⟨id, r, x.2, hr, hx⟩)
    · rw [hn] at hx
      rcases get id' r' hr' with ⟨hl', hr'⟩ | ⟨j', hj1', hl', hr', hn', hmem', hw2', hf'⟩
      · rw [lo id' hl'] at hx'
        intro e
        exact (fnew j r x hr hw2 hx).1 (e ▸ ⟨id', r', x'.2, hr', hx'⟩)
      · rw [hn'] at hx'
        refine hj.sep j j' r r' x x' hr hr' hw (fun e => ?_) hx hx'
        subst e
        have h1 := List.getElem?_eq_some_iff.1 hj1
        have h2 := List.getElem?_eq_some_iff.1 hj1'
        have := (List.getElem_inj hg.nd).1 (h1.2.trans h2.2.symm)
        omega
  · intro id r x hr hw hx
    rcases get id r hr with ⟨hl, hr⟩ | ⟨j, hj1, hl, hr, hn, hmem, hw2, hf⟩
    · rw [lo id hl] at hx; exact hi.own id r x hr hw hx
    · rw [hn] at hx; exact (fnew j r x hr hw2 hx).2
  · intro id hl
    simp only [List.length_append, List.length_map] at hl
    unfold nu
    rw [if_neg (by omega), List.getElem?_eq_none (by omega)]; rfl
  · refine ⟨hj.ctx.os, hj.ctx.tape, hj.ctx.output, fun b o ho => ?_⟩
    by_cases hb : ofRows μ h b
    · rw [same b hb]; exact hi.ctx.block b o ho
    · refine hj.ctx.block b o ?_
      unfold Ctx.hold
      simp only
      rw [if_neg hb]; exact ho

theorem All2.argsRo {R : Val → Value → Prop} {l : List Val} {m : List Value} (h : All2 R l m) : All2 R l m := h

theorem tidied_ok {P : Program} {f : FuncId} {F : List Val → Heap → Option (Val × Heap)} (hF : ∀ args h v h2, F args h = some (v, h2) → Callable P f ∧ CallOk P f args h v h2 ∧ h.length ≤ h2.length)
    {args : List Val} {h : Heap} {v : Val} {h2 : Heap} (he : tidied F args h = some (v, h2)) : Callable P f ∧ CallOk P f args h v h2 ∧ h.length ≤ h2.length := by
  simp only [tidied, Option.bind_eq_some_iff, Option.map_eq_some_iff, Prod.mk.injEq] at he
  obtain ⟨p, hp, q, hq, rfl, rfl⟩ := he
  obtain ⟨h1, h2, h3⟩ := hF args (ro h) p.1 p.2 hp
  refine ⟨h1, fun Γ μ w V hi hv => ?_, by simp⟩
  refine (h2 (Γ.hold μ h w) μ w V hi.hold hv).mono fun e w' ⟨V', μ', he, _, hV, hi', hl⟩ => ?_
  obtain ⟨hg, hR⟩ := canonV_ok (μ := μ) (μ' := μ') (fun id hid => hl id (by simpa [ro_length] using hid)) (v2 := q.1) (fin := q.2) hq
  refine ⟨V', nu μ μ' h.length q.2, he, fun id x hx => ?_, hR V' hV, hi.held hi' hg, fun id hl => by unfold nu; rw [if_pos hl]⟩
  by_cases hl : id < h.length
  · unfold nu; rw [if_pos hl]; exact hx
  · rw [hi.dom id (by omega)] at hx; cases hx

theorem tidy_ok {P : Program} {f : FuncId} {F : List Val → Heap → Option (Val × Heap)} (hF : ∀ args h v h2, F args h = some (v, h2) → Callable P f ∧ CallOk P f args h v h2 ∧ h.length ≤ h2.length)
    (args : List Val) (h : Heap) (v : Val) (h2 : Heap) (he : tidy F args h = some (v, h2)) : Callable P f ∧ CallOk P f args h v h2 ∧ h.length ≤ h2.length := by
  unfold tidy at he
  split at he
  · rename_i r hr
    cases he
    exact tidied_ok hF hr
  · exact hF args h v h2 he

theorem tidy_of {F : List Val → Heap → Option (Val × Heap)} {args : List Val} {h h' : Heap} {v v2 : Val} {ids : List Nat} (he : F args (ro h) = some (v, h')) (hc : canonV h' h.length v = some (v2, ids)) :
    tidy F args h = some (v2, h ++ ids.map (rd h')) := by
  have : tidied F args h = some (v2, h ++ ids.map (rd h')) := by
    unfold tidied
    rw [he]
    simp [hc]
  unfold tidy
  rw [this]

/-! ### What is answered -/

def Val.flat : Val → Bool
  | .c x => x.flat
  | .a l => flats l
  | .t l => l.all fun p => match p with
    | .c x => x.flat
    | .a l => flats l
  | _ => false

theorem canonC_flat {h : Heap} {b : Nat} {seen : List Nat} : ∀ {l : List Cell}, flats l = true → canonC h b seen l = some (l, seen)
  | [], _ => rfl
  | c :: l, hf => by
    rw [flats_cons, Bool.and_eq_true] at hf
    have ih := canonC_flat (h := h) (b := b) (seen := seen) hf.2
    unfold canonC
    rw [if_pos (Cell.low_of_flat hf.1), ih]; rfl

theorem canonP_flat {h : Heap} {b : Nat} {seen : List Nat} : ∀ {l : List Part}, (l.all fun p => match p with | .c x => x.flat | .a l => flats l) = true → canonP h b seen l = some (l, seen)
  | [], _ => rfl
  | .c x :: l, hf => by
    simp only [List.all_cons, Bool.and_eq_true] at hf
    have ih := canonP_flat (h := h) (b := b) (seen := seen) hf.2
    have h1 : canonC h b seen [x] = some ([x], seen) := canonC_flat (by simpa [flats] using hf.1)
    simp [canonP, h1, ih]
  | .a x :: l, hf => by
    simp only [List.all_cons, Bool.and_eq_true] at hf
    have ih := canonP_flat (h := h) (b := b) (seen := seen) hf.2
    have h1 : canonC h b seen x = some (x, seen) := canonC_flat hf.1
    simp [canonP, h1, ih]

theorem canonV_flat {h : Heap} {b : Nat} {v : Val} (hf : v.flat = true) : canonV h b v = some (v, []) := by
  cases v with
  | c x =>
    have h1 : canonC h b [] [x] = some ([x], []) := canonC_flat (by simp only [flats, List.all_cons, List.all_nil, Bool.and_true]; exact hf)
    simp [canonV, h1]
  | a l =>
    have h1 : canonC h b [] l = some (l, []) := canonC_flat hf
    simp [canonV, h1]
  | t l =>
    have h1 : canonP h b [] l = some (l, []) := canonP_flat hf
    simp [canonV, h1]
  | un => cases hf
  | no => cases hf

theorem tidy_flat {F : List Val → Heap → Option (Val × Heap)} {args : List Val} {h h' : Heap} {v : Val} (he : F args (ro h) = some (v, h')) (hf : v.flat = true) : tidy F args h = some (v, h) := by
  have := tidy_of he (canonV_flat (h := h') (b := h.length) hf)
  simpa using this

def lows (b : Nat) (l : List Cell) : Bool := l.all (Cell.low b)

def Val.low (b : Nat) : Val → Bool
  | .c x => x.low b
  | .a l => lows b l
  | .t l => l.all fun p => match p with
    | .c x => x.low b
    | .a l => lows b l
  | _ => false

theorem canonC_low {h : Heap} {b : Nat} {seen : List Nat} : ∀ {l : List Cell}, lows b l = true → canonC h b seen l = some (l, seen)
  | [], _ => rfl
  | c :: l, hf => by
    have hf : (c.low b && lows b l) = true := hf
    rw [Bool.and_eq_true] at hf
    have ih := canonC_low (h := h) (b := b) (seen := seen) hf.2
    unfold canonC
    rw [if_pos hf.1, ih]; rfl

theorem canonP_low {h : Heap} {b : Nat} {seen : List Nat} : ∀ {l : List Part}, (l.all fun p => match p with | .c x => x.low b | .a l => lows b l) = true → canonP h b seen l = some (l, seen)
  | [], _ => rfl
  | .c x :: l, hf => by
    simp only [List.all_cons, Bool.and_eq_true] at hf
    have ih := canonP_low (h := h) (b := b) (seen := seen) hf.2
    have h1 : canonC h b seen [x] = some ([x], seen) := canonC_low (by simpa [lows] using hf.1)
    simp [canonP, h1, ih]
  | .a x :: l, hf => by
    simp only [List.all_cons, Bool.and_eq_true] at hf
    have ih := canonP_low (h := h) (b := b) (seen := seen) hf.2
    have h1 : canonC h b seen x = some (x, seen) := canonC_low hf.1
    simp [canonP, h1, ih]

theorem tidy_low {F : List Val → Heap → Option (Val × Heap)} {args : List Val} {h h' : Heap} {v : Val} (he : F args (ro h) = some (v, h')) (hf : v.low h.length = true) : tidy F args h = some (v, h) := by
  have hc : canonV h' h.length v = some (v, []) := by
    cases v with
    | c x =>
      have h1 : canonC h' h.length [] [x] = some ([x], []) := canonC_low (by simp only [lows, List.all_cons, List.all_nil, Bool.and_true]; exact hf)
      simp [canonV, h1]
    | a l =>
      have h1 : canonC h' h.length [] l = some (l, []) := canonC_low hf
      simp [canonV, h1]
    | t l =>
      have h1 : canonP h' h.length [] l = some (l, []) := canonP_low hf
      simp [canonV, h1]
    | un => cases hf
    | no => cases hf
  have := tidy_of he hc
  simpa using this

@[simp] theorem lows_nil {b : Nat} : lows b [] = true := rfl
@[simp] theorem lows_cons {b : Nat} {c : Cell} {l : List Cell} : lows b (c :: l) = (c.low b && lows b l) := rfl
theorem lows_of_flats {b : Nat} {l : List Cell} (h : flats l = true) : lows b l = true := by
  unfold flats at h
  unfold lows
  rw [List.all_eq_true] at h ⊢
  exact fun c hc => Cell.low_of_flat (h c hc)
@[simp] theorem vlow_c {b : Nat} {x : Cell} : (Val.c x).low b = x.low b := rfl
@[simp] theorem vlow_a {b : Nat} {l : List Cell} : (Val.a l).low b = lows b l := rfl
@[simp] theorem vlow_t {b : Nat} {l : List Part} : (Val.t l).low b = l.all fun p => match p with | .c x => x.low b | .a l => lows b l := rfl
@[simp] theorem low_sl {b id off len sz : Nat} : (Cell.sl id off len sz).low b = decide (id < b) := rfl
@[simp] theorem low_i {b : Nat} {k : IntKind} {n : Int} : (Cell.i k n).low b = true := rfl
@[simp] theorem low_b {b : Nat} {x : Bool} : (Cell.b x).low b = true := rfl
@[simp] theorem low_s {b : Nat} {x : List UInt8} : (Cell.s x).low b = true := rfl
@[simp] theorem low_ns {b : Nat} : Cell.ns.low b = true := rfl
@[simp] theorem flats_nil : flats [] = true := rfl
@[simp] theorem flats_cons' {c : Cell} {l : List Cell} : flats (c :: l) = (c.flat && flats l) := rfl
@[simp] theorem flats_append {l m : List Cell} : flats (l ++ m) = (flats l && flats m) := by simp [flats]
@[simp] theorem flats_encB {l : List UInt8} : flats (encB l) = true := by simp [flats, encB, Cell.flat]
@[simp] theorem flat_b {x : Bool} : (Cell.b x).flat = true := rfl
@[simp] theorem flat_i {k : IntKind} {n : Int} : (Cell.i k n).flat = true := rfl
@[simp] theorem flat_s {x : List UInt8} : (Cell.s x).flat = true := rfl
@[simp] theorem flat_ns : Cell.ns.flat = true := rfl
@[simp] theorem flat_np : Cell.np.flat = true := rfl
@[simp] theorem vflat_c {x : Cell} : (Val.c x).flat = x.flat := rfl
@[simp] theorem vflat_a {l : List Cell} : (Val.a l).flat = flats l := rfl
@[simp] theorem vflat_t {l : List Part} : (Val.t l).flat = l.all fun p => match p with | .c x => x.flat | .a l => flats l := rfl
@[simp] theorem quiet_same {h : Heap} {v : Val} : quiet h (some (v, h)) = some (v, h) := quiet_grows Grows.rfl'

end Go.Esc
