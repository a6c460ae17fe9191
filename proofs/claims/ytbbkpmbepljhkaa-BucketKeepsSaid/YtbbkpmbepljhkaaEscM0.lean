/- Regions whose order is open: facts on bits, on what is ahead, on single operations. -/
import Derived.Test.YtbbkpmbepljhkaaEscL
set_option linter.all false
namespace Go.Esc
open Go

/-- A step of code: from these values and rows to those, in whatever memory. -/
def AExit.conv : AExit → Exit
  | .normal => .normal
  | .exit id => .exit id
  | .ret => .ret

def StepsTo (P : Program) (N L : Nat) (W : (Exit → Act → World → Prop) → Act → World → Prop) (e : Env) (h : Heap) (x : AExit) (e' : Env) (h' : Heap) : Prop :=
  ∀ (Γ : Ctx) (μ : Mu) (a : Act) (w : World), SEnv μ e a → Inv Γ μ h w → N ≤ a.tmps.size → a.defers = [] → ∀ Q : Exit → Act → World → Prop,
    (∀ μ' a' w', μ.le μ' → (∀ id, id < L → μ' id = μ id) → SEnv μ' e' a' → Inv Γ μ' h' w' → N ≤ a'.tmps.size → a'.defers = [] → Q x.conv a' w') → W Q a w

def slotted : AOp → Bool
  | .alloc _ | .box _ | .nilrow _ | .buildSl .. | .s2b _ | .mkSl .. => true
  | _ => false

def isCall : AOp → Bool
  | .call .. | .callV .. => true
  | _ => false

/-- May an operation stand where the order is open? -/
def quietOp : AOp → Bool
  | .store1 .. | .storeN .. | .app .. | .appZ .. | .copy .. => false
  | _ => true

/-- It looks at the rows as they are. -/
def isMark : AOp → Bool
  | .mark _ => true
  | .b2sN none _ => true
  | _ => false

/-- The place of the row that it looks at. -/
def ownOf : AOp → Option Nat
  | .b2sN own _ => own
  | _ => none

/-- What it reads. -/
def AOp.opds : AOp → List Opd
  | .mv x | .box x | .load1 x | .loadN _ x | .eqN _ _ x | .nilc x | .un _ x | .conv _ x | .convS x | .s2b x | .b2s x | .b2sN _ x | .mark x | .fAddr x _ | .fld1 x _ | .fldN x _ _ | .ext x _ | .len x | .lenS x => [x]
  | .nilrow _ | .alloc _ => []
  | .pick c a b => [c, a, b]
  | .build _ ps | .buildSl _ _ _ ps => ps.map (·.2.2)
  | .store1 a x | .storeN _ a x | .bin _ a x | .eqA _ _ a x | .eqB _ a x | .mkSl _ _ a x | .iAddrA _ _ a x | .iAddrL _ a x | .idxA1 _ a x | .idxAN _ _ a x | .idxS a x | .app _ a x | .appZ _ _ a x | .max a x | .min a x | .copy _ a x => [a, x]
  | .mkf _ cs => cs
  | .slS x lo hi | .slL _ x lo hi | .slA _ _ x lo hi => x :: (lo.toList ++ hi.toList)
  | .call _ args => args
  | .callV f args => f :: args

def opdT : Opd → Option Nat
  | .t n => some n
  | _ => none

def AOper.reads (o : AOper) : List Nat := o.op.opds.filterMap opdT ++ (o.guard.toList.map (·.1))

/-- What must have been done ahead of each operation, as bits. -/
def directs (o : Oper) : List Nat := (o.after.toList.filter (Region.binds .any)).map (·.on)
def maskOf (acc : List Nat) (o : Oper) : Nat := (directs o).foldl (fun s p => s ||| (2 ^ p) ||| acc.getD p 0) 0
def closure : List Oper → List Nat → List Nat
  | [], acc => acc
  | o :: r, acc => closure r (acc ++ [maskOf acc o])
def closures (ops : Array Oper) : List Nat := closure ops.toList []

theorem fold_bits (g : Nat → Nat) (b : Nat) : ∀ (ds : List Nat) (s : Nat), (ds.foldl (fun s p => s ||| (2 ^ p) ||| g p) s).testBit b = true → s.testBit b = true ∨ ∃ p ∈ ds, b = p ∨ (g p).testBit b = true
  | [], s, h => .inl h
  | d :: ds, s, h => by
    rcases fold_bits g b ds _ h with h | ⟨p, hp, h⟩
    · rw [Nat.testBit_or, Nat.testBit_or, Nat.testBit_two_pow] at h
      simp only [Bool.or_eq_true, decide_eq_true_eq] at h
      rcases h with (h | h) | h
      · exact .inl h
      · exact .inr ⟨d, by simp, .inl h.symm⟩
      · exact .inr ⟨d, by simp, .inr h⟩
    · exact .inr ⟨p, by simp [hp], h⟩

theorem closure_keep : ∀ (os : List Oper) (acc : List Nat) (i : Nat), i < acc.length → (closure os acc).getD i 0 = acc.getD i 0
  | [], acc, i, h => rfl
  | o :: r, acc, i, h => by
    rw [closure, closure_keep r _ i (by simp; omega)]
    simp [List.getD, List.getElem?_append_left h]

theorem closure_at : ∀ (os : List Oper) (acc : List Nat) (k : Nat) (o : Oper), os[k]? = some o → ∃ acc', acc'.length = acc.length + k ∧ (closure os acc).getD (acc.length + k) 0 = maskOf acc' o ∧ ∀ i, i < acc'.length → (closure os acc).getD i 0 = acc'.getD i 0
  | [], acc, k, o, h => by simp at h
  | x :: r, acc, 0, o, h => by
    simp at h; subst h
    refine ⟨acc, rfl, ?_, fun i hi => ?_⟩
    · rw [closure, closure_keep r _ _ (by simp)]
      simp [List.getD]
    · rw [closure, closure_keep r _ i (by simp; omega)]
      simp [List.getD, List.getElem?_append_left hi]
  | x :: r, acc, k + 1, o, h => by
    simp at h
    obtain ⟨acc', h1, h2, h3⟩ := closure_at r (acc ++ [maskOf acc x]) k o h
    refine ⟨acc', by simp at h1; omega, ?_, fun i hi => by rw [closure]; exact h3 i hi⟩
    rw [closure, ← h2]
    congr 1; simp; omega

/-- What is ahead by bits is done, if all that is named ahead is. -/
theorem ahead_done {ops : Array Oper} {done : Nat → Bool} (hlt : ∀ i o, ops[i]? = some o → ∀ p ∈ directs o, p < i)
    (hclosed : ∀ i o, ops[i]? = some o → done i = true → ∀ p ∈ directs o, done p = true) : ∀ (i : Nat) (o : Oper), ops[i]? = some o → (∀ p ∈ directs o, done p = true) → ∀ b, ((closures ops).getD i 0).testBit b = true → done b = true := by
  intro i
  induction i using Nat.strongRecOn with
  | _ i ih =>
    intro o ho hd b hb
    obtain ⟨acc, h1, h2, h3⟩ := closure_at ops.toList [] i o (by simpa using ho)
    simp only [List.length_nil, Nat.zero_add] at h1 h2
    rw [closures, h2] at hb
    unfold maskOf at hb
    rcases fold_bits _ b _ _ hb with hb | ⟨p, hp, rfl | hb⟩
    · simp at hb
    · exact hd _ hp
    · have hpi := hlt i o ho p hp
      have hps : p < ops.size := by have := (Array.getElem?_eq_some_iff.1 ho).1; omega
      have hop : ops[p]? = some ops[p] := by simp [hps]
      refine ih p hpi ops[p] hop (hclosed p _ hop (hd p hp)) b ?_
      rw [closures, h3 p (by omega)]
      exact hb

/-! ### One operation, on other values and rows -/

section
variable {R : Type}

theorem aop_env {E : Sums} {q : Bool} {hr : Heap} {n0 : Nat} {slot : Option Nat} {o : AOp} {e e' : Env} {h : Heap} {k : Val → Heap → Option R} (he : ∀ x ∈ o.opds, e.ev x = e'.ev x) : aop E q hr n0 slot o e h k = aop E q hr n0 slot o e' h k := by
  have parts : ∀ ps : List (Nat × Nat × Opd), (∀ x ∈ ps.map (·.2.2), e.ev x = e'.ev x) → (ps.map fun p => (p.1, p.2.1, e.ev p.2.2)) = ps.map fun p => (p.1, p.2.1, e'.ev p.2.2) := fun ps hp =>
    List.map_congr_left fun p hm => by rw [hp p.2.2 (List.mem_map.2 ⟨p, hm, rfl⟩)]
  have all : ∀ l : List Opd, (∀ x ∈ l, e.ev x = e'.ev x) → l.map e.ev = l.map e'.ev := fun l hl => List.map_congr_left hl
  have opt : ∀ l : Option Opd, (∀ x ∈ l.toList, e.ev x = e'.ev x) → l.map e.ev = l.map e'.ev := fun l hl => by cases l with
    | none => rfl
    | some x => simp [hl x (by simp)]
  cases o <;> simp only [AOp.opds] at he <;> simp only [aop]
  case build z ps => rw [parts ps he]
  case buildSl a b z ps => rw [parts ps he]
  case mkf f cs => rw [all cs he]
  case call f args => rw [all args he]
  case callV f args => rw [he f (by simp), all args fun x hx => he x (by simp [hx])]
  case slS x lo hi => rw [he x (by simp), opt lo fun y hy => he y (by simp [hy]), opt hi fun y hy => he y (by simp [hy])]
  case slL sz x lo hi => rw [he x (by simp), opt lo fun y hy => he y (by simp [hy]), opt hi fun y hy => he y (by simp [hy])]
  case slA n sz x lo hi => rw [he x (by simp), opt lo fun y hy => he y (by simp [hy]), opt hi fun y hy => he y (by simp [hy])]
  all_goals (repeat (rw [he _ (by simp)]))

theorem aoper_env {E : Sums} {q : Bool} {hr : Heap} {n0 : Nat} {o : AOper} {e e' : Env} {h : Heap} {k : Val → Heap → Option R} (he : ∀ t ∈ o.reads, e.get t = e'.get t) : aoper E q hr n0 o e h k = aoper E q hr n0 o e' h k := by
  have h1 : ∀ x ∈ o.op.opds, e.ev x = e'.ev x := by
    intro x hx
    cases x with
    | v x => rfl
    | t n => exact he n (List.mem_append_left _ (List.mem_filterMap.2 ⟨.t n, hx, rfl⟩))
  unfold aoper
  cases hg : o.guard with
  | none => exact aop_env h1
  | some g =>
    have h2 : e.get g.1 = e'.get g.1 := he g.1 (List.mem_append_right _ (by simp [hg]))
    simp only
    rw [h2, aop_env h1]

theorem aoper_bind (E : Sums) (q : Bool) (hr : Heap) (n0 : Nat) (o : AOper) (e : Env) (h : Heap) (k : Val → Heap → Option R) : aoper E q hr n0 o e h k = (aoper E q hr n0 o e h fun v h => some (v, h)).bind fun p => k p.1 p.2 := by
  unfold aoper
  cases o.guard with
  | none => exact aop_bind ..
  | some g => simp only [Option.bind_assoc, Option.bind_some]

/-- An operation that neither calls nor makes a row does not look at the rows that are made meanwhile. -/
theorem aop_plain {E : Sums} {q : Bool} {hr : Heap} {n0 : Nat} {slot : Option Nat} {o : AOp} {e : Env} {h h' : Heap} {v : Val} (hq : quietOp o = true) (hm : isMark o = false) (how : ownOf o = none) (hc : isCall o = false) (hs : slotted o = false)
    (hres : aop E q hr n0 slot o e h (fun v h => some (v, h)) = some (v, h')) : h' = h ∧ ∀ h2, aop E q hr n0 slot o e h2 (fun v h => some (v, h)) = some (v, h2) := by
  have hnb : ∀ own x, o ≠ .b2sN own x := by
    intro own x he
    subst he
    simp only [ownOf] at how
    subst how
    simp [isMark] at hm
  cases o <;> simp [quietOp, isMark, isCall, slotted] at hq hm hc hs <;> simp only [aop] at hres ⊢
  case b2sN own x => exact absurd rfl (hnb own x)
  case mv => cases hres; exact ⟨rfl, fun _ => rfl⟩
  all_goals
    simp only [Option.bind_eq_some_iff, Option.some.injEq, Prod.mk.injEq] at hres
    obtain ⟨_, h1, rfl, rfl⟩ := hres
    exact ⟨rfl, fun h2 => by rw [h1]; rfl⟩

theorem ab2s_sub {h h2 : Heap} {x v : Val} (h1 : ab2s h x = some v) (hsub : ∀ id off len sz r, x = .c (.sl id off len sz) → rd h id = some r → rd h2 id = some r) : ab2s h2 x = some v := by
  unfold ab2s at h1 ⊢
  split at h1
  · rename_i id off len sz
    split at h1
    · rename_i hsz
      rw [if_pos hsz]
      rw [Option.map_eq_some_iff] at h1 ⊢
      obtain ⟨s, h3, h4⟩ := h1
      rw [Option.bind_eq_some_iff] at h3
      obtain ⟨cs, h5, h6⟩ := h3
      refine ⟨s, ?_, h4⟩
      rw [Option.bind_eq_some_iff]
      refine ⟨cs, ?_, h6⟩
      unfold slcells at h5 ⊢
      simp only [Option.bind_eq_some_iff] at h5 ⊢
      obtain ⟨r, h7, h8⟩ := h5
      exact ⟨r, hsub _ _ _ _ r rfl h7, h8⟩
    · cases h1
  · exact h1
  · cases h1

/-- One that looks at a row in its place. -/
theorem aop_own {E : Sums} {q : Bool} {hr : Heap} {n0 j : Nat} {slot : Option Nat} {o : AOp} {e : Env} {h h' : Heap} {v : Val} (ho : ownOf o = some j)
    (hres : aop E q hr n0 slot o e h (fun v h => some (v, h)) = some (v, h')) : h' = h ∧ ∀ h2 : Heap, (∀ x, rd h (n0 + j) = some x → rd h2 (n0 + j) = some x) → aop E q hr n0 slot o e h2 (fun v h => some (v, h)) = some (v, h2) := by
  obtain ⟨x, rfl⟩ : ∃ x, o = .b2sN (some j) x := by
    unfold ownOf at ho
    split at ho
    · subst ho; exact ⟨_, rfl⟩
    · cases ho
  simp only [aop, Option.bind_eq_some_iff, Option.some.injEq, Prod.mk.injEq] at hres
  obtain ⟨v', h1, rfl, rfl⟩ := hres
  refine ⟨rfl, fun h2 hsub => ?_⟩
  have : ab2sN h2 n0 (some j) (e.ev x) = some v' := by
    unfold ab2sN at h1 ⊢
    simp only at h1 ⊢
    split at h1
    · rename_i id off len sz heq
      split at h1
      · rename_i hid
        rw [if_pos hid]
        refine ab2s_sub h1 fun id' _ _ _ r hx hr => ?_
        cases hx
        rw [hid] at hr ⊢
        exact hsub r hr
      · cases h1
    · cases h1
  simp only [aop, this]; rfl

/-- A mark looks at the row that it marks. -/
theorem aop_mark {E : Sums} {q : Bool} {hr : Heap} {n0 : Nat} {slot : Option Nat} {o : AOp} {e : Env} {h h' : Heap} {v : Val} (hm : isMark o = true)
    (hres : aop E q hr n0 slot o e h (fun v h => some (v, h)) = some (v, h')) : h' = h ∧ ∀ h2 : Heap, (∀ id x, rd h id = some x → rd h2 id = some x) → aop E q hr n0 slot o e h2 (fun v h => some (v, h)) = some (v, h2) := by
  have hsl : ∀ (h2 : Heap) (x : Val) (v : Val), (∀ id x, rd h id = some x → rd h2 id = some x) → ab2s h x = some v → ab2s h2 x = some v := fun h2 x v hsub h1 => ab2s_sub h1 fun id _ _ _ r _ hr => hsub id r hr
  by_cases hb : ∃ x, o = .b2sN none x
  · obtain ⟨x, rfl⟩ := hb
    simp only [aop, ab2sN, Option.bind_eq_some_iff, Option.some.injEq, Prod.mk.injEq] at hres
    obtain ⟨v', h1, rfl, rfl⟩ := hres
    exact ⟨rfl, fun h2 hsub => by simp only [aop, ab2sN, hsl h2 _ _ hsub h1]; rfl⟩
  obtain ⟨x, rfl⟩ : ∃ x, o = .mark x := by
    unfold isMark at hm
    split at hm
    · exact ⟨_, rfl⟩
    · exact absurd ⟨_, rfl⟩ hb
    · cases hm
  simp only [aop, Option.bind_eq_some_iff, Option.some.injEq, Prod.mk.injEq] at hres
  obtain ⟨v', h1, rfl, rfl⟩ := hres
  refine ⟨rfl, fun h2 hsub => ?_⟩
  have : amark h2 (e.ev x) = some v' := by
    unfold amark at h1 ⊢
    split at h1
    · simp only [Option.bind_eq_some_iff] at h1 ⊢
      obtain ⟨r, hr, h3⟩ := h1
      exact ⟨r, hsub _ _ hr, h3⟩
    · cases h1
  simp only [aop, this]; rfl

/-- An operation that makes a row makes it in its place. -/
theorem aop_slot {E : Sums} {q : Bool} {hr : Heap} {n0 j : Nat} {o : AOp} {e : Env} {h h' : Heap} {v : Val} (hs : slotted o = true)
    (hres : aop E q hr n0 (some j) o e h (fun v h => some (v, h)) = some (v, h')) : ∃ r : Row, h' = h.set (n0 + j) (some r) ∧ ∀ h2 : Heap, aop E q hr n0 (some j) o e h2 (fun v h => some (v, h)) = some (v, h2.set (n0 + j) (some r)) := by
  cases o <;> simp [slotted] at hs <;> simp only [aop, anew] at hres ⊢
  case alloc z => cases hres; exact ⟨_, rfl, fun _ => rfl⟩
  case nilrow z => cases hres; exact ⟨_, rfl, fun _ => rfl⟩
  all_goals
    simp only [Option.bind_eq_some_iff, Option.some.injEq, Prod.mk.injEq] at hres
    obtain ⟨_, h1, rfl, rfl⟩ := hres
    exact ⟨_, rfl, fun h2 => by rw [h1]; rfl⟩

/-- A call leaves all rows, and makes rows that may be written. -/
def Grows (h h' : Heap) : Prop := h <+: h' ∧ ∀ id x, h.length ≤ id → rd h' id = some x → x.rw = true

theorem Grows.refl (h : Heap) : Grows h h := ⟨List.prefix_refl _, fun id x hid hx => by have := rd_lt hx; omega⟩

theorem quiet_some {h : Heap} {r : Option (Val × Heap)} {p : Val × Heap} (hq : quiet h r = some p) : r = some p ∧ Grows h p.2 := by
  simp only [quiet, Option.bind_eq_some_iff] at hq
  obtain ⟨p', h1, h2⟩ := hq
  split at h2
  · cases h2; exact ⟨h1, ‹_›⟩
  · cases h2

theorem quiet_of {h : Heap} {p : Val × Heap} (hg : Grows h p.2) : quiet h (some p) = some p := by
  unfold quiet
  simp only [Option.bind_some]
  exact if_pos hg

end
end Go.Esc
