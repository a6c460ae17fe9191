/- The abstract evaluator of a function's code is sound: what it answers the model's call answers. -/
import Derived.Test.YtbbkpmbepljhkaaEscK
import Derived.LoopN
set_option linter.all false
namespace Go.Esc
open Go

/-- A function that a call enters. -/
def Callable (P : Program) (f : FuncId) : Prop := ∃ fn : Func, P.funcs[f]? = some fn ∧ (fn.name == "runtime.NumGoroutine") = false ∧ fn.body.isNone = false

/-- A call of f on these values and rows returns v, and leaves these rows. -/
def CallOk (P : Program) (f : FuncId) (args : List Val) (h : Heap) (v : Val) (h' : Heap) : Prop :=
  ∀ (Γ : Ctx) (μ : Mu) (w : World) (V : List Value), Inv Γ μ h w → All2 (RV μ) args V →
    Calls P f V.toArray w fun e w' => ∃ V' μ', e = .returned V' ∧ μ.le μ' ∧ RV μ' v V' ∧ Inv Γ μ' h' w' ∧ ∀ id, id < h.length → μ' id = μ id

/-- What the summaries say is so. -/
def Sound (P : Program) (E : Sums) : Prop := ∀ f args h v h', E f args h = some (v, h') → Callable P f ∧ CallOk P f args h v h' ∧ h.length ≤ h'.length

def chkCall (o : Op) : AOp → Bool
  | .call f args => (match o with
      | .call c => (match c.callee with | .value (.func g) => decide (f = g) && chkOpds c.args.toList args | _ => false)
      | _ => false)
  | .callV x args => (match o with
      | .call c => (match c.callee with | .value y => chkOpd' y x && chkOpds c.args.toList args | _ => false)
      | _ => false)
  | _ => false

def chkGuard (ops : Array Oper) : Option (Nat × Bool) → Option (Nat × Bool) → Bool
  | none, none => true
  | some q, some p => decide (q.2 = p.2) && decide ((ops[q.1]?).bind (·.dst) = some p.1)
  | _, _ => false

def chkDst (N : Nat) (d : Option Nat) : Bool := match d with | some d => decide (d < N) | none => true

def chkOper (P : Program) (N : Nat) (ops : Array Oper) (o : Oper) (ao : AOper) : Bool :=
  decide (o.dst = ao.dst) && chkDst N o.dst && chkGuard ops o.guard ao.guard && (chkO P o.op ao.op || chkCall o.op ao.op)

section
variable {P : Program} {R : Type}

/-- The continuation comes last. -/
theorem aop_bind (E : Sums) (q : Bool) (hr : Heap) (n0 : Nat) (slot : Option Nat) (o : AOp) (e : Env) (h : Heap) (k : Val → Heap → Option R) :
    aop E q hr n0 slot o e h k = (aop E q hr n0 slot o e h fun v h => some (v, h)).bind fun p => k p.1 p.2 := by
  cases o <;> simp only [aop, Option.bind_some, Option.bind_assoc]

theorem callFunc_run {f : FuncId} (hf : Callable P f) (args : Array Value) (w : World) : (callFunc f args).run P w = .ok (.enter f args) w := by
  obtain ⟨fn, h1, h2, h3⟩ := hf
  unfold callFunc
  simp only [Sem.run_bind, run_program, Result.andThen_ok, h1, h2, h3, Bool.false_eq_true, if_false]
  rfl

theorem capVals_ok {μ : Mu} : ∀ {l : List (Nat × Nat)} {cs : List Value}, All2 (RPtr μ) l cs → All2 (RV μ) (capVals l) cs
  | [], [], _ => trivial
  | q :: l, c :: cs, ⟨h1, h2⟩ => ⟨h1, capVals_ok h2⟩
  | [], _ :: _, h => h.elim
  | _ :: _, [], h => h.elim

theorem call_wp {Γ : Ctx} {μ : Mu} {o : Oper} {a : Act} {w : World} {g : FuncId} {args : List Val} {h h' : Heap} {v : Val} {c : Call} {y : Operand} {cs : List Value}
    (ho : o.op = .call c) (hcal : c.callee = .value y) (hy : a.eval y = .func (.func g) #[] cs.toArray) (hg : Callable P g) (hk : CallOk P g args h v h')
    (hargs : All2 (RV μ) args (c.args.toList.map a.eval ++ cs)) (hi : Inv Γ μ h w) {next : Act → World → Prop} {Q : Exit → Act → World → Prop}
    {n0 : Nat} {slot : Option Nat} (hn : ∀ V w' μ', μ.le μ' → RV μ' v V → Inv Γ μ' h' w' → Keeps μ μ' h n0 slot → next (a.put o.dst V) w') : o.wp P a w next Q := by
  have hrun : (execOp a.eval o).run P w = .ok (.enter g (c.args.toList.map a.eval ++ cs).toArray) w := by
    have e : (#[] ++ c.args.map a.eval ++ cs.toArray : Array Value) = (c.args.toList.map a.eval ++ cs).toArray := by apply Array.ext'; simp
    simp only [execOp, ho, resolve, hcal, hy, Deferred.ofValue, pure_bind, invoke]
    rw [e]
    exact callFunc_run hg _ _
  unfold Oper.wp
  rw [hrun, Oper.upon_enter]
  refine (hk Γ μ w _ hi hargs).mono ?_
  rintro e w' ⟨V, μ', rfl, h1, h2, h3, h4⟩
  exact hn V w' μ' h1 h2 h3 fun id hid _ => h4 id hid

theorem aop_ok {N : Nat} {ops : Array Oper} {E : Sums} (hE : Sound P E) {q : Bool} {o : Oper} {ao : AOp} {e : Env} {h hr : Heap} {v : Val} {h' : Heap} {n0 : Nat} {slot : Option Nat} {Γ : Ctx} {μ : Mu} {a : Act} {w : World}
    (hc : (chkO P o.op ao || chkCall o.op ao) = true) (hs : SEnv μ e a) (hi : Inv Γ μ h w) (hrd : ∀ id r, rd hr id = some r → rd h id = some r) (hsl : SlotOk μ h n0 slot)
    (hres : aop E q hr n0 slot ao e h (fun v h => some (v, h)) = some (v, h')) {next : Act → World → Prop} {Q : Exit → Act → World → Prop}
    (hn : ∀ V w' μ', μ.le μ' → RV μ' v V → Inv Γ μ' h' w' → Keeps μ μ' h n0 slot → next (a.put o.dst V) w') : o.wp P a w next Q := by
  rw [Bool.or_eq_true] at hc
  rcases hc with hc | hc
  · obtain ⟨V, w', μ', h1, h2, h3, h4, h5⟩ := run_op hc hs hi hrd hsl hres
    unfold Oper.wp
    rcases h1 with h1 | ⟨h1, rfl⟩
    · rw [h1]; exact hn V w' μ' h2 h3 h4 h5
    · rw [h1]; exact hn undef w' μ' h2 h3 h4 h5
  · cases ao <;> simp only [chkCall] at hc
    case call f args =>
      simp only [aop, Option.bind_eq_some_iff, Option.some.injEq] at hres
      obtain ⟨p, hp, hpe⟩ := hres
      simp only [Prod.mk.injEq] at hpe
      obtain ⟨rfl, rfl⟩ := hpe
      have hE1 : E f (args.map e.ev) h = some (p.1, p.2) := by
        cases q with
        | false => simpa using hp
        | true =>
          simp only [cond_true, quiet, Option.bind_eq_some_iff] at hp
          obtain ⟨p', h1, h2⟩ := hp
          split at h2
          · cases h2; exact h1
          · cases h2
      obtain ⟨hg, hk, _⟩ := hE _ _ _ _ _ hE1
      split at hc
      · rename_i c ho
        split at hc
        · rename_i g hcal
          simp only [Bool.and_eq_true, decide_eq_true_eq] at hc
          obtain ⟨rfl, hargs⟩ := hc
          exact call_wp ho hcal (cs := []) rfl hg hk (by rw [List.append_nil]; exact chkOpds_ok hs hargs) hi hn
        · cases hc
      · cases hc
    case callV x args =>
      simp only [aop, Option.bind_eq_some_iff, Option.some.injEq] at hres
      obtain ⟨p, hp, hpe⟩ := hres
      simp only [Prod.mk.injEq] at hpe
      obtain ⟨rfl, rfl⟩ := hpe
      have hE0 : callv E (e.ev x) (args.map e.ev) h = some (p.1, p.2) := by
        cases q with
        | false => simpa using hp
        | true =>
          simp only [cond_true, quiet, Option.bind_eq_some_iff] at hp
          obtain ⟨p', h1, h2⟩ := hp
          split at h2
          · cases h2; exact h1
          · cases h2
      unfold callv at hE0
      split at hE0
      · rename_i g caps heq
        obtain ⟨hg, hk, _⟩ := hE _ _ _ _ _ hE0
        split at hc
        · rename_i c ho
          split at hc
          · rename_i y hcal
            simp only [Bool.and_eq_true] at hc
            have hy : RV μ _ _ := chkOpd_ok hc.1 hs
            rw [heq] at hy
            obtain ⟨cs, h1, h2⟩ := hy
            exact call_wp ho hcal h1 hg hk ((chkOpds_ok hs hc.2).append (capVals_ok h2)) hi hn
          · cases hc
        · cases hc
      · cases hE0
    all_goals cases hc

theorem yielded_ok {ops : Array Oper} {j g : Nat} {a : Act} {e : Env} {μ : Mu} {x : Bool} (hj : (ops[j]?).bind (·.dst) = some g) (hs : SEnv μ e a) (he : e.get g = .c (.b x)) : yielded ops a.tmps j = some x := by
  have h1 : a.tmps.getD g undef = .bool x := by have := hs g; rw [he] at this; exact this
  unfold yielded
  rw [hj]
  simp only [Option.bind_some]
  have : a.tmps[g]? = some (.bool x) := by
    simp only [Array.getD_eq_getD_getElem?] at h1
    cases hh : a.tmps[g]? with
    | none => rw [hh] at h1; simp [undef] at h1
    | some y => rw [hh] at h1; simpa using h1
  rw [this]

theorem yielded_no {ops : Array Oper} {j g : Nat} {a : Act} {e : Env} {μ : Mu} (hj : (ops[j]?).bind (·.dst) = some g) (hs : SEnv μ e a) (he : e.get g = .no) : yielded ops a.tmps j = none := by
  have h1 : a.tmps.getD g undef = undef := by have := hs g; rw [he] at this; exact this
  unfold yielded
  rw [hj]
  simp only [Option.bind_some]
  simp only [Array.getD_eq_getD_getElem?] at h1
  cases hh : a.tmps[g]? with
  | none => rfl
  | some y => rw [hh] at h1; simp [undef] at h1; subst h1; rfl

/-- One operation, its guard too. -/
theorem aoper_ok {N : Nat} {ops : Array Oper} {E : Sums} (hE : Sound P E) {q : Bool} {o : Oper} {ao : AOper} {e : Env} {h hr : Heap} {n0 : Nat} {k : Val → Heap → Option R} {r : R}
    (hc : chkOper P N ops o ao = true) (hres : aoper E q hr n0 ao e h k = some r) :
    ∃ v h', k v h' = some r ∧ aoper E q hr n0 ao e h (fun v h => some (v, h)) = some (v, h') := by
  unfold aoper at hres ⊢
  cases hg : ao.guard with
  | none =>
    simp only [hg] at hres ⊢
    rw [aop_bind] at hres
    simp only [Option.bind_eq_some_iff] at hres
    obtain ⟨p, hp, hk⟩ := hres
    exact ⟨p.1, p.2, hk, hp⟩
  | some g =>
    simp only [hg] at hres ⊢
    simp only [Option.bind_eq_some_iff] at hres
    obtain ⟨p, hp, hk⟩ := hres
    exact ⟨p.1, p.2, hk, by rw [hp]; rfl⟩

theorem aoper_wp {N : Nat} {ops : Array Oper} {E : Sums} (hE : Sound P E) {q : Bool} {o : Oper} {ao : AOper} {e : Env} {h hr : Heap} {n0 : Nat} {v : Val} {h' : Heap} {Γ : Ctx} {μ : Mu} {a : Act} {w : World}
    (hc : chkOper P N ops o ao = true) (hres : aoper E q hr n0 ao e h (fun v h => some (v, h)) = some (v, h')) (hs : SEnv μ e a) (hi : Inv Γ μ h w) (hrd : ∀ id r, rd hr id = some r → rd h id = some r) (hsl : SlotOk μ h n0 ao.slot)
    {next : Act → World → Prop} {Q : Exit → Act → World → Prop} (hn : ∀ V w' μ', μ.le μ' → RV μ' v V → Inv Γ μ' h' w' → Keeps μ μ' h n0 ao.slot → next (a.put o.dst V) w') :
    if Region.wanted o (yielded ops a.tmps) then o.wp P a w next Q ∨ (o.asks P a w ∧ LetsOut Q) else next (a.put o.dst undef) w := by
  simp only [chkOper, Bool.and_eq_true] at hc
  obtain ⟨⟨⟨_, _⟩, hg⟩, hop⟩ := hc
  unfold aoper at hres
  unfold chkGuard at hg
  cases hag : ao.guard with
  | none =>
    simp only [hag] at hres hg
    cases hog : o.guard with
    | some _ => simp [hog] at hg
    | none =>
      have hw : Region.wanted o (yielded ops a.tmps) = true := by simp [Region.wanted, hog]
      rw [if_pos hw]
      exact .inl (aop_ok (N := N) (ops := ops) hE hop hs hi hrd hsl hres hn)
  | some g =>
    simp only [hag] at hres hg
    cases hog : o.guard with
    | none => simp [hog] at hg
    | some q2 =>
      simp only [hog, Bool.and_eq_true, decide_eq_true_eq] at hg
      simp only [Option.bind_eq_some_iff] at hres
      obtain ⟨p, hp, hpe⟩ := hres
      simp only [Option.some.injEq, Prod.mk.injEq] at hpe
      obtain ⟨rfl, rfl⟩ := hpe
      unfold gd at hp
      split at hp
      · rename_i x heq
        have hy := yielded_ok hg.2 hs heq
        have hw : Region.wanted o (yielded ops a.tmps) = (x == g.2) := by
          simp [Region.wanted, hog, hy, hg.1]
        rw [hw]
        cases hx : (x == g.2) with
        | true =>
          rw [hx] at hp
          rw [if_pos rfl]
          exact .inl (aop_ok (N := N) (ops := ops) hE hop hs hi hrd hsl hp hn)
        | false =>
          rw [hx] at hp
          simp only [cond_false, Option.some.injEq] at hp
          rw [if_neg (by simp)]
          cases hp
          exact hn undef w μ (Mu.le_refl _) rfl hi (Keeps.refl _ _ _ _)
      · rename_i heq
        have hy := yielded_no hg.2 hs heq
        have hw : Region.wanted o (yielded ops a.tmps) = false := by
          simp [Region.wanted, hog, hy, hg.1]
        rw [hw, if_neg (by simp)]
        cases hp
        exact hn undef w μ (Mu.le_refl _) rfl hi (Keeps.refl _ _ _ _)
      · cases hp

end
end Go.Esc
