/- The abstract evaluator of code and of functions is sound. -/
import Derived.Test.YtbbkpmbepljhkaaEscM3
set_option linter.all false
namespace Go.Esc
open Go

def chkAll (P : Program) (N : Nat) (ops : Array Oper) : List Oper → List AOper → Bool
  | [], [] => true
  | o :: r, a :: l => chkOper P N ops o a && decide (a.slot = none) && chkAll P N ops r l
  | _, _ => false

def chkCode (P : Program) (N : Nat) : Code → ACode → Bool
  | c, .skip => (match c with | .skip => true | _ => false)
  | c, .ops l => (match c with | .region _ ops false => chkAll P N ops ops.toList l | _ => false)
  | c, .draw m l r => (match c with | .region _ ops true => chkDraw P N ops m l r && chkLast ops l.length r.length | _ => false)
  | c, .drawS m l s chk r => (match c with | .region _ ops true => chkDraw P N ops m l (s :: r) && chkS ops l s chk r | _ => false)
  | c, .seq _ a b => (match c with | .seq x y => chkCode P N x a && chkCode P N y b | _ => false)
  | c, .cond q a b => (match c with | .cond z x y => chkOpd' z q && chkCode P N x a && chkCode P N y b | _ => false)
  | c, .block id a => (match c with | .block id' x => decide (id' = id) && chkCode P N x a | _ => false)
  | c, .loop _ a => (match c with | .loop x => chkCode P N x a | _ => false)
  | c, .exit id => (match c with | .exit id' => decide (id' = id) | _ => false)
  | c, .ret => (match c with | .ret => true | _ => false)

def chkRes (P : Program) : List ResultVar → List ARes → Bool
  | [], [] => true
  | .tmp t :: r, .tmp t' :: l => decide (t = t') && chkRes P r l
  | .cell t ty :: r, .cell1 t' :: l => decide (t = t') && decide (aggB P ty = some false) && chkRes P r l
  | .cell t ty :: r, .cellN t' n :: l => decide (t = t') && decide (aggB P ty = some true) && decide (sizeB P ty = some n) && chkRes P r l
  | _, _ => false

def chkFn (P : Program) (fn : Func) (f : AFn) : Bool :=
  (match fn.body with | some c => chkCode P fn.ntmps c f.code | none => false) && chkRes P fn.results.toList f.res && !(fn.name == "runtime.NumGoroutine")

section
variable {P : Program} {R : Type}

theorem chkAll_ok {N : Nat} {ops : Array Oper} : ∀ (pre : List Oper) (os : List Oper) (aos : List AOper), ops.toList = pre ++ os → chkAll P N ops os aos = true →
    All2 (fun i ao => ∃ o, ops[i]? = some o ∧ chkOper P N ops o ao = true ∧ ao.slot = none) (List.range' pre.length os.length) aos
  | pre, [], [], _, _ => trivial
  | pre, o :: os, ao :: aos, he, hc => by
    simp only [chkAll, Bool.and_eq_true, decide_eq_true_eq] at hc
    rw [List.length_cons, List.range'_succ]
    refine ⟨⟨o, ?_, hc.1.1, hc.1.2⟩, ?_⟩
    · rw [← Array.getElem?_toList, he]; simp
    · have := chkAll_ok (pre ++ [o]) os aos (by rw [he]; simp) hc.2
      simpa using this
  | _, [], _ :: _, _, h => by simp [chkAll] at h
  | _, _ :: _, [], _, h => by simp [chkAll] at h

theorem StepsTo.keep {N L : Nat} {W : (Exit → Act → World → Prop) → Act → World → Prop} {e : Env} {h : Heap} {x : AExit} {e' : Env} {h' : Heap} (l : List Nat) (hs : StepsTo P N L W (e.keep l) h x e' h') : StepsTo P N L W e h x e' h' :=
  fun Γ μ a w h1 => hs Γ μ a w (h1.keep l)

theorem aex_ok {N L : Nat} {E : Sums} (hE : Sound P E) (n : Nat) : ∀ (ac : ACode) (c : Code) (k : AExit → Env → Heap → Option R) (e : Env) (h : Heap) (r : R),
    chkCode P N c ac = true → aex E n ac k e h = some r → L ≤ h.length → ∃ x e' h', k x e' h' = some r ∧ L ≤ h'.length ∧ StepsTo P N L (c.wp P) e h x e' h' := by
  intro ac
  induction ac with
  | skip =>
    intro c k e h r hc hres hL
    unfold chkCode at hc
    split at hc
    · exact ⟨.normal, e, h, hres, hL, fun Γ μ a w hs hi hN hd Q hq => wp_skip (hq μ a w (Mu.le_refl _) (fun _ _ => rfl) hs hi hN hd)⟩
    · cases hc
  | ops l =>
    intro c k e h r hc hres hL
    unfold chkCode at hc
    split at hc
    · rename_i id ops
      simp only [aex, smOps] at hres
      obtain ⟨e', h', hk, hL', hst⟩ := aops_ok hE _ l e h _ r (chkAll_ok [] ops.toList l rfl hc) hres hL
      refine ⟨.normal, e', h', hk, hL', fun Γ μ a w hs hi hN hd Q hq => wp_region ?_⟩
      have := hst Γ μ a w hs hi hN hd Q hq
      simpa [List.range_eq_range'] using this
    · cases hc
  | draw m l r' =>
    intro c k e h r hc hres hL
    unfold chkCode at hc
    split at hc
    · rename_i id ops
      simp only [aex, smDraw] at hres
      rw [Bool.and_eq_true] at hc
      obtain ⟨e', h', hk, hL', hst⟩ := draw_ok (id := id) hE hc.1 hc.2 hL hres
      exact ⟨.normal, e', h', hk, hL', hst⟩
    · cases hc
  | drawS m l s chk r' =>
    intro c k e h r hc hres hL
    unfold chkCode at hc
    split at hc
    · rename_i id ops
      simp only [aex, smDrawS] at hres
      rw [Bool.and_eq_true] at hc
      obtain ⟨e', h', hk, hL', hst⟩ := drawS_ok (id := id) hE hc.1 hc.2 hL hres
      exact ⟨.normal, e', h', hk, hL', hst⟩
    · cases hc
  | seq keep a b iha ihb =>
    intro c k e h r hc hres hL
    unfold chkCode at hc
    split at hc
    · rename_i x y
      simp only [Bool.and_eq_true] at hc
      simp only [aex, smSeq] at hres
      obtain ⟨x1, e1, h1, hk1, hL1, hst1⟩ := iha x _ e h r hc.1 hres hL
      cases x1 with
      | normal =>
        simp only [hold] at hk1
        obtain ⟨x2, e2, h2, hk2, hL2, hst2⟩ := ihb y k (e1.keep keep) h1 r hc.2 hk1 hL1
        refine ⟨x2, e2, h2, hk2, hL2, fun Γ μ a w hs hi hN hd Q hq => wp_seq (hst1 Γ μ a w hs hi hN hd _ ?_)⟩
        intro μ1 a1 w1 g1 g2 g3 g4 g5 g6
        exact hst2 Γ μ1 a1 w1 (g3.keep keep) g4 g5 g6 Q fun μ2 a2 w2 f1 f2 f3 f4 f5 f6 => hq μ2 a2 w2 (Mu.le_trans g1 f1) (fun id hid => (f2 id hid).trans (g2 id hid)) f3 f4 f5 f6
      | exit id => exact ⟨.exit id, e1, h1, hk1, hL1, fun Γ μ a w hs hi hN hd Q hq => wp_seq (hst1 Γ μ a w hs hi hN hd _ hq)⟩
      | ret => exact ⟨.ret, e1, h1, hk1, hL1, fun Γ μ a w hs hi hN hd Q hq => wp_seq (hst1 Γ μ a w hs hi hN hd _ hq)⟩
    · cases hc
  | cond q a b iha ihb =>
    intro c k e h r hc hres hL
    unfold chkCode at hc
    split at hc
    · rename_i z x y
      simp only [Bool.and_eq_true] at hc
      simp only [aex, smCond, cnd] at hres
      split at hres
      · rename_i t heq
        have hz : ∀ {μ : Mu} {a : Act}, SEnv μ e a → a.eval z = .bool t := by
          intro μ a hs
          have : RV μ _ _ := chkOpd_ok hc.1.1 hs
          rw [heq] at this
          exact this
        cases t with
        | true =>
          obtain ⟨x1, e1, h1, hk1, hL1, hst1⟩ := iha x k e h r hc.1.2 hres hL
          exact ⟨x1, e1, h1, hk1, hL1, fun Γ μ a w hs hi hN hd Q hq => wp_cond_true (hz hs) (hst1 Γ μ a w hs hi hN hd Q hq)⟩
        | false =>
          obtain ⟨x1, e1, h1, hk1, hL1, hst1⟩ := ihb y k e h r hc.2 hres hL
          exact ⟨x1, e1, h1, hk1, hL1, fun Γ μ a w hs hi hN hd Q hq => wp_cond_false (hz hs) (hst1 Γ μ a w hs hi hN hd Q hq)⟩
      · cases hres
    · cases hc
  | block id a iha =>
    intro c k e h r hc hres hL
    unfold chkCode at hc
    split at hc
    · rename_i id' x
      simp only [Bool.and_eq_true, decide_eq_true_eq] at hc
      obtain ⟨rfl, hc⟩ := hc
      simp only [aex, smBlock] at hres
      obtain ⟨x1, e1, h1, hk1, hL1, hst1⟩ := iha x _ e h r hc hres hL
      cases x1 with
      | normal => exact ⟨.normal, e1, h1, hk1, hL1, fun Γ μ a w hs hi hN hd Q hq => wp_block (hst1 Γ μ a w hs hi hN hd _ hq)⟩
      | exit i =>
        simp only at hk1
        cases hb : Nat.beq i id' with
        | true =>
          rw [hb] at hk1
          have hi' := Nat.eq_of_beq_eq_true hb
          subst hi'
          exact ⟨.normal, e1, h1, hk1, hL1, fun Γ μ a w hs hi hN hd Q hq => wp_block (hst1 Γ μ a w hs hi hN hd _ fun μ1 a1 w1 g1 g2 g3 g4 g5 g6 => by
            show (if i = i then Q .normal a1 w1 else _)
            rw [if_pos rfl]
            exact hq μ1 a1 w1 g1 g2 g3 g4 g5 g6)⟩
        | false =>
          rw [hb] at hk1
          have hne : i ≠ id' := by intro e; subst e; simp at hb
          exact ⟨.exit i, e1, h1, hk1, hL1, fun Γ μ a w hs hi hN hd Q hq => wp_block (hst1 Γ μ a w hs hi hN hd _ fun μ1 a1 w1 g1 g2 g3 g4 g5 g6 => by
            show (if i = id' then _ else Q (.exit i) a1 w1)
            rw [if_neg hne]
            exact hq μ1 a1 w1 g1 g2 g3 g4 g5 g6)⟩
      | ret => exact ⟨.ret, e1, h1, hk1, hL1, fun Γ μ a w hs hi hN hd Q hq => wp_block (hst1 Γ μ a w hs hi hN hd _ hq)⟩
    · cases hc
  | loop keep a iha =>
    intro c k e h r hc hres hL
    unfold chkCode at hc
    split at hc
    · rename_i x
      simp only [aex, smLoop] at hres
      have key : ∀ (m : Nat) (e : Env) (h : Heap), around (aex E n a) keep k m e h = some r → L ≤ h.length →
          ∃ x1 e' h', k x1 e' h' = some r ∧ L ≤ h'.length ∧ StepsTo P N L (fun Q => Code.rounds P x Q m) e h x1 e' h' := by
        intro m
        induction m with
        | zero => intro e h hres; rw [around_zero] at hres; cases hres
        | succ m ih =>
          intro e h hres hL
          rw [around_succ] at hres
          obtain ⟨x1, e1, h1, hk1, hL1, hst1⟩ := iha x _ e h r hc hres hL
          cases x1 with
          | normal =>
            simp only at hk1
            obtain ⟨x2, e2, h2, hk2, hL2, hst2⟩ := ih (e1.keep keep) h1 hk1 hL1
            refine ⟨x2, e2, h2, hk2, hL2, fun Γ μ a w hs hi hN hd Q hq => ?_⟩
            show Code.rounds P x Q (m + 1) a w
            rw [rounds_succ]
            refine hst1 Γ μ a w hs hi hN hd _ ?_
            intro μ1 a1 w1 g1 g2 g3 g4 g5 g6
            exact hst2 Γ μ1 a1 w1 (g3.keep keep) g4 g5 g6 Q fun μ2 a2 w2 f1 f2 f3 f4 f5 f6 => hq μ2 a2 w2 (Mu.le_trans g1 f1) (fun id hid => (f2 id hid).trans (g2 id hid)) f3 f4 f5 f6
          | exit id => exact ⟨.exit id, e1, h1, hk1, hL1, fun Γ μ a w hs hi hN hd Q hq => by
              show Code.rounds P x Q (m + 1) a w
              rw [rounds_succ]
              exact hst1 Γ μ a w hs hi hN hd _ hq⟩
          | ret => exact ⟨.ret, e1, h1, hk1, hL1, fun Γ μ a w hs hi hN hd Q hq => by
              show Code.rounds P x Q (m + 1) a w
              rw [rounds_succ]
              exact hst1 Γ μ a w hs hi hN hd _ hq⟩
      obtain ⟨x1, e1, h1, hk1, hL1, hst1⟩ := key n (e.keep keep) h hres hL
      exact ⟨x1, e1, h1, hk1, hL1, fun Γ μ a w hs hi hN hd Q hq => wp_loop_rounds n (hst1 Γ μ a w (hs.keep keep) hi hN hd Q hq)⟩
    · cases hc
  | exit id =>
    intro c k e h r hc hres hL
    unfold chkCode at hc
    split at hc
    · simp at hc
      subst hc
      exact ⟨.exit _, e, h, hres, hL, fun Γ μ a w hs hi hN hd Q hq => wp_exit (hq μ a w (Mu.le_refl _) (fun _ _ => rfl) hs hi hN hd)⟩
    · cases hc
  | ret =>
    intro c k e h r hc hres hL
    unfold chkCode at hc
    split at hc
    · exact ⟨.ret, e, h, hres, hL, fun Γ μ a w hs hi hN hd Q hq => wp_ret (hq μ a w (Mu.le_refl _) (fun _ _ => rfl) hs hi hN hd)⟩
    · cases hc

/-! ### Results, functions -/

def oneRes (tmps : Array Value) : ResultVar → Sem Value
  | .tmp t => pure (tmps.getD t undef)
  | .cell a t => do loadVar t (← asAddr (tmps.getD a undef))

theorem oneRes_ok {Γ : Ctx} {μ : Mu} {e : Env} {h : Heap} {a : Act} {w : World} {q : ResultVar} {q' : ARes} {v : Val} (hs : SEnv μ e a) (hi : Inv Γ μ h w) (hc : chkRes P [q] [q'] = true) (hv : ares e h q' = some v) :
    ∃ V, (oneRes a.tmps q).run P w = .ok V w ∧ RV μ v V := by
  cases q with
  | tmp t =>
    cases q' with
    | tmp t' =>
      simp [chkRes] at hc; subst hc
      simp [ares] at hv; subst hv
      exact ⟨_, rfl, hs t⟩
    | cell1 t' => simp [chkRes] at hc
    | cellN t' n => simp [chkRes] at hc
  | cell t ty =>
    cases q' with
    | tmp t' => simp [chkRes] at hc
    | cell1 t' =>
      simp [chkRes] at hc
      obtain ⟨rfl, hagg⟩ := hc
      simp only [ares] at hv
      obtain ⟨V, h1, h2⟩ := run_load1 (P := P) (w := w) hagg hi.rows (hs t) hv
      refine ⟨V, ?_, h2⟩
      rw [← h1]
      have : ∃ b, a.tmps.getD t undef = .pointer (some b) := by
        unfold aload1 at hv
        split at hv
        · rename_i heq
          have := hs t
          rw [heq] at this
          obtain ⟨b, n, _, h3⟩ := this
          exact ⟨_, h3⟩
        · cases hv
      obtain ⟨b, hb⟩ := this
      simp only [oneRes, hb, Instr.loadAt, asAddr, Instr.sureAddr, pure_bind]
    | cellN t' n =>
      simp [chkRes] at hc
      obtain ⟨⟨rfl, hagg⟩, hsz⟩ := hc
      simp only [ares] at hv
      obtain ⟨V, h1, h2⟩ := run_loadN (P := P) (w := w) hagg hsz hi.rows (hs t) hv
      refine ⟨V, ?_, h2⟩
      rw [← h1]
      have : ∃ b, a.tmps.getD t undef = .pointer (some b) := by
        unfold aloadN at hv
        split at hv
        · rename_i heq
          have := hs t
          rw [heq] at this
          obtain ⟨b, n, _, h3⟩ := this
          exact ⟨_, h3⟩
        · cases hv
      obtain ⟨b, hb⟩ := this
      simp only [oneRes, hb, Instr.loadAt, asAddr, Instr.sureAddr, pure_bind]

theorem chkRes_cons {q : ResultVar} {r : List ResultVar} {q' : ARes} {l : List ARes} (h : chkRes P (q :: r) (q' :: l) = true) : chkRes P [q] [q'] = true ∧ chkRes P r l = true := by
  cases q <;> cases q' <;> simp_all [chkRes]

theorem allRes_ok {Γ : Ctx} {μ : Mu} {e : Env} {h : Heap} {a : Act} {w : World} (hs : SEnv μ e a) (hi : Inv Γ μ h w) : ∀ {qs : List ResultVar} {ls : List ARes} {ps : List Part}, chkRes P qs ls = true → aress e h ls = some ps →
    ∃ Vs : List Value, (qs.mapM (oneRes a.tmps)).run P w = .ok Vs w ∧ All2 (RP μ) ps Vs
  | [], [], ps, _, hv => by simp [aress] at hv; subst hv; exact ⟨[], rfl, trivial⟩
  | q :: qs, q' :: ls, ps, hc, hv => by
    simp only [aress, Option.bind_eq_some_iff, Option.map_eq_some_iff] at hv
    obtain ⟨v, hv1, p, hp, l, hl, rfl⟩ := hv
    obtain ⟨h1, h2⟩ := chkRes_cons hc
    obtain ⟨V, h3, h4⟩ := oneRes_ok hs hi h1 hv1
    obtain ⟨Vs, h5, h6⟩ := allRes_ok hs hi h2 hl
    refine ⟨V :: Vs, ?_, RP.ofVal h4 hp, h6⟩
    rw [List.mapM_cons]
    simp [h3, h5]
  | [], _ :: _, _, h, _ => by simp [chkRes] at h
  | _ :: _, [], _, h, _ => by simp [chkRes] at h

theorem results_run {fn : Func} {tmps : Array Value} {w : World} : (results fn tmps).run P w = ((fn.results.toList.mapM (oneRes tmps)).run P w).andThen fun vs w => .ok (if h : vs.toArray.size = 1 then vs.toArray[0] else .tuple vs.toArray) w := by
  unfold results
  rw [Array.mapM_eq_mapM_toList]
  simp only [Sem.run_bind, Sem.run_map]
  have key : ∀ g : ResultVar → Sem Value, (∀ q, g q = oneRes tmps q) → ((((List.mapM g fn.results.toList).run P w).andThen fun a w' => Result.ok a.toArray w').andThen fun a w' => (pure (if h : a.size = 1 then a[0] else Value.tuple a) : Sem Value).run P w') =
      ((fn.results.toList.mapM (oneRes tmps)).run P w).andThen fun vs w => .ok (if h : vs.toArray.size = 1 then vs.toArray[0] else .tuple vs.toArray) w := by
    intro g hg
    rw [funext hg]
    cases (fn.results.toList.mapM (oneRes tmps)).run P w <;> rfl
  exact key _ fun q => by cases q <;> rfl

theorem aresult_ok {Γ : Ctx} {μ : Mu} {e : Env} {h h' : Heap} {a : Act} {w : World} {fn : Func} {rs : List ARes} {v : Val} (hs : SEnv μ e a) (hi : Inv Γ μ h w) (hc : chkRes P fn.results.toList rs = true) (hv : aresult rs e h = some (v, h')) :
    ∃ V, (results fn a.tmps).run P w = .ok V w ∧ RV μ v V ∧ h' = h := by
  rw [results_run]
  unfold aresult at hv
  split at hv
  · rename_i q'
    simp only [Option.map_eq_some_iff, Prod.mk.injEq] at hv
    obtain ⟨_, h1, rfl, rfl⟩ := hv
    cases hq : fn.results.toList with
    | nil => rw [hq] at hc; simp [chkRes] at hc
    | cons q r =>
      cases r with
      | cons q2 r => rw [hq] at hc; have := (chkRes_cons hc).2; simp [chkRes] at this
      | nil =>
        rw [hq] at hc
        obtain ⟨V, h3, h4⟩ := oneRes_ok hs hi hc h1
        refine ⟨V, ?_, h4, rfl⟩
        rw [List.mapM_cons]
        simp [h3]
  · rename_i hne
    simp only [Option.map_eq_some_iff, Prod.mk.injEq] at hv
    obtain ⟨l, h1, rfl, rfl⟩ := hv
    obtain ⟨Vs, h3, h4⟩ := allRes_ok hs hi hc h1
    refine ⟨.tuple Vs.toArray, ?_, ⟨Vs, rfl, h4⟩, rfl⟩
    rw [h3]
    have hl : Vs.length ≠ 1 := by
      rw [← h4.length]
      intro h0
      have : ∀ (ls : List ARes) (ps : List Part), aress e h ls = some ps → ls.length = ps.length := by
        intro ls
        induction ls with
        | nil => intro ps h; simp [aress] at h; subst h; rfl
        | cons x r ih =>
          intro ps h
          simp only [aress, Option.bind_eq_some_iff, Option.map_eq_some_iff] at h
          obtain ⟨_, _, _, _, l', hl', rfl⟩ := h
          simp [ih l' hl']
      have h5 := this _ _ h1
      rw [h0] at h5
      cases rs with
      | nil => simp at h5
      | cons q r =>
        cases r with
        | nil => exact hne q rfl
        | cons _ _ => simp at h5
    simp [hl]

theorem params_get : ∀ (args : List Val) (i t : Nat), (params i args).get t = if i ≤ t then (args[t - i]?).getD .un else .un
  | [], i, t => by simp [params, Env.get]
  | v :: r, i, t => by
    simp only [params, Env.get]
    by_cases h : i = t
    · subst h; simp
    · have hb : Nat.beq i t = false := by cases hb : Nat.beq i t with
        | false => rfl
        | true => exact absurd (Nat.eq_of_beq_eq_true hb) h
      rw [hb, cond_false, params_get r (i + 1) t]
      by_cases h2 : i ≤ t
      · have : t - i = (t - (i + 1)) + 1 := by omega
        rw [if_pos h2, if_pos (by omega), this, List.getElem?_cons_succ]
      · rw [if_neg h2, if_neg (by omega)]

theorem fn_ok {E : Sums} (hE : Sound P E) {f : FuncId} {fn : Func} {af : AFn} (hf : P.funcs[f]? = some fn) (hc : chkFn P fn af = true) {n : Nat} {args : List Val} {h h' : Heap} {v : Val} (hres : af.run E n args h = some (v, h')) :
    Callable P f ∧ CallOk P f args h v h' ∧ h.length ≤ h'.length := by
  simp only [chkFn, Bool.and_eq_true, Bool.not_eq_true'] at hc
  obtain ⟨⟨hb, hr⟩, hname⟩ := hc
  cases hbody : fn.body with
  | none => rw [hbody] at hb; cases hb
  | some c =>
    rw [hbody] at hb
    unfold AFn.run at hres
    obtain ⟨x, e', h1, hk, hL, hst⟩ := aex_ok (L := h.length) hE n af.code c af.fin (params 0 args) h (v, h') hb hres (Nat.le_refl _)
    have hlen : h.length ≤ h'.length := by
      cases x with
      | normal => simp only [AFn.fin] at hk; unfold aresult at hk; split at hk <;> simp at hk <;> obtain ⟨_, _, _, rfl⟩ := hk <;> exact hL
      | ret => simp only [AFn.fin] at hk; unfold aresult at hk; split at hk <;> simp at hk <;> obtain ⟨_, _, _, rfl⟩ := hk <;> exact hL
      | exit => simp [AFn.fin] at hk
    refine ⟨⟨fn, hf, hname, by simp [hbody]⟩, ?_, hlen⟩
    intro Γ μ w V hi hargs
    refine calls_of_wp hf hbody ?_
    refine hst Γ μ _ w ?_ hi ?_ rfl _ ?_
    · intro t
      rw [params_get]
      simp only [Nat.zero_le, if_true, Nat.sub_zero]
      cases ha : args[t]? with
      | none => trivial
      | some x =>
        obtain ⟨X, h2, h3⟩ := hargs.get t x ha
        have hlt := (List.getElem?_eq_some_iff.1 h2).1
        have : (V.toArray ++ Array.replicate (fn.ntmps - V.toArray.size) undef).getD t undef = X := by
          rw [Array.getD_eq_getD_getElem?, Array.getElem?_append_left (by simpa using hlt)]
          simp [h2]
        rw [this]
        exact h3
    · simp; omega
    · intro μ' a' w' g1 g2 g3 g4 g5 g6
      have fin : ∀ hk : aresult af.res e' h1 = some (v, h'), a'.defers = [] ∧ ∃ v_1, (results fn a'.tmps).run P w' = .ok v_1 w' ∧ ∃ V' μ', Ending.returned v_1 = .returned V' ∧ μ.le μ' ∧ RV μ' v V' ∧ Inv Γ μ' h' w' ∧ ∀ id, id < h.length → μ' id = μ id := by
        intro hk
        obtain ⟨V', h2, h3, h4⟩ := aresult_ok g3 g4 hr hk
        subst h4
        exact ⟨g6, V', h2, V', μ', rfl, g1, h3, g4, g2⟩
      cases x with
      | normal => exact fin hk
      | ret => exact fin hk
      | exit => simp [AFn.fin] at hk

end
end Go.Esc
