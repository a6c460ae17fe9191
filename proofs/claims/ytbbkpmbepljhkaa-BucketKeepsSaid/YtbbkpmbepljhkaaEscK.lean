/- An abstract operation that is no call does what the model's operation does. -/
import Derived.Test.YtbbkpmbepljhkaaEscJ
set_option linter.all false
namespace Go.Esc
open Go
section
variable {P : Program} {μ : Mu} {w : World}

/-- What has to be shown of one operation. -/
def OpOk (P : Program) (Γ : Ctx) (μ : Mu) (o : Oper) (a : Act) (w : World) (h : Heap) (n0 : Nat) (slot : Option Nat) (v : Val) (h' : Heap) : Prop :=
  ∃ V w' μ', Res P o a w V w' ∧ μ.le μ' ∧ RV μ' v V ∧ Inv Γ μ' h' w' ∧ Keeps μ μ' h n0 slot

theorem opOk_val {Γ : Ctx} {o : Oper} {a : Act} {v : Val} {h : Heap} {n0 : Nat} {slot : Option Nat} {s : Sem Value} (hi : Inv Γ μ h w) (he : execOp a.eval o = (do pure (Next.value (← s)))) (hr : ∃ V, s.run P w = .ok V w ∧ RV μ v V) : OpOk P Γ μ o a w h n0 slot v h := by
  obtain ⟨V, h1, h2⟩ := hr
  exact ⟨V, w, μ, .inl (by rw [he]; simp [h1]), Mu.le_refl _, h2, hi, Keeps.refl _ _ _ _⟩

theorem opOk_new {Γ : Ctx} {o : Oper} {a : Act} {v : Val} {h h' : Heap} {n0 : Nat} {slot : Option Nat} {s : Sem Value} (he : execOp a.eval o = (do pure (Next.value (← s)))) (hr : ∃ V w' μ', s.run P w = .ok V w' ∧ μ.le μ' ∧ RV μ' v V ∧ Inv Γ μ' h' w' ∧ Keeps μ μ' h n0 slot) : OpOk P Γ μ o a w h n0 slot v h' := by
  obtain ⟨V, w', μ', h1, h2, h3, h4⟩ := hr
  exact ⟨V, w', μ', .inl (by rw [he]; simp [h1]), h2, h3, h4⟩

theorem opOk_unit {Γ : Ctx} {o : Oper} {a : Act} {h h' : Heap} {n0 : Nat} {slot : Option Nat} {s : Sem Unit} (he : execOp a.eval o = (do s; pure Next.skip)) (hr : ∃ w', s.run P w = .ok () w' ∧ Inv Γ μ h' w') : OpOk P Γ μ o a w h n0 slot .un h' := by
  obtain ⟨w', h1, h2⟩ := hr
  exact ⟨undef, w', μ, .inr ⟨by rw [he]; simp [h1], rfl⟩, Mu.le_refl _, trivial, h2, Keeps.refl _ _ _ _⟩

theorem guard_ok {op : BinOp} {t : TypeId} {x y : Operand} {X Y : Value} (hX : ∀ c, X ≠ .agg c) (hX2 : X ≠ .nilIface) : (eqGuard op t x y X Y).run P w = .ok () w := by
  unfold eqGuard
  cases X <;> cases Y <;> simp_all <;> split <;> rfl

theorem abin_noagg {op : BinOp} {x y v : Val} {X : Value} (h : abin op x y = some v) (hx : RV μ x X) : (∀ c, X ≠ .agg c) ∧ X ≠ .nilIface := by
  unfold abin at h
  split at h
  · cases hx; simp
  · cases hx; simp
  · cases h

theorem run_builtin {b : Builtin} {ps : Array Operand} {ts : Array TypeId} {o : Oper} {a : Act} {c : Call} (ho : o.op = .call c) (hb : c.callee = .builtin b) {s : Sem Value} (ht : ∀ v, v = (c.args.map a.eval) → builtin b c.argTypes o.type (c.args.map fun | .const _ => true | _ => false) v = (do pure (Next.value (← s)))) :
    execOp a.eval o = (do pure (Next.value (← s))) := by
  have := ht _ rfl
  unfold execOp
  rw [ho]
  simp only [resolve, hb, pure_bind, invoke]
  exact this

theorem run_op {Γ : Ctx} {E : Sums} {q : Bool} {hr : Heap} {n0 : Nat} {slot : Option Nat} {o : Oper} {ao : AOp} {e : Env} {h : Heap} {a : Act} {v : Val} {h' : Heap}
    (hc : chkO P o.op ao = true) (hs : SEnv μ e a) (hi : Inv Γ μ h w) (hrd : ∀ id r, rd hr id = some r → rd h id = some r) (hsl : SlotOk μ h n0 slot)
    (hres : aop E q hr n0 slot ao e h (fun v h => some (v, h)) = some (v, h')) : OpOk P Γ μ o a w h n0 slot v h' := by
  have hrow : ∀ id r, rd hr id = some r → RowOk μ w id r := fun id r h1 => hi.rows id r (hrd id r h1)
  obtain ⟨dst, op, type, pos, after, guard⟩ := o
  simp only at hc
  cases ao <;> simp only [chkO] at hc <;> simp only [aop] at hres
  case mv y =>
    cases hres
    split at hc
    · exact ⟨_, w, μ, .inl rfl, Mu.le_refl _, chkOpd_ok hc hs, hi, Keeps.refl _ _ _ _⟩
    · exact ⟨_, w, μ, .inl rfl, Mu.le_refl _, chkOpd_ok hc hs, hi, Keeps.refl _ _ _ _⟩
    · cases hc
  case nilrow sz =>
    cases hres
    have key : ∀ x : Value, isNilSlice x = true → x = .slice none 0 0 := by
      intro x hx; unfold isNilSlice at hx; split at hx <;> first | rfl | cases hx
    split at hc
    · exact ⟨_, w, μ, .inl rfl, Mu.le_refl _, .inr ⟨rfl, none, key _ hc⟩, empty_ok hi hsl, Keeps.refl _ _ _ _⟩
    · exact ⟨_, w, μ, .inl rfl, Mu.le_refl _, .inr ⟨rfl, none, key _ hc⟩, empty_ok hi hsl, Keeps.refl _ _ _ _⟩
    · cases hc
  case pick c x y =>
    simp only [Option.bind_eq_some_iff, Option.some.injEq, Prod.mk.injEq] at hres
    obtain ⟨_, hp, rfl, rfl⟩ := hres
    split at hc
    · simp only [Bool.and_eq_true] at hc
      rename_i c' x' y'
      have h1 : RV μ _ _ := chkOpd_ok hc.1.1 hs
      have h2 := chkOpd_ok hc.1.2 hs
      have h3 := chkOpd_ok hc.2 hs
      unfold apick at hp
      split at hp
      · rename_i b heq
        cases hp
        rw [heq] at h1
        have h1 : a.eval c' = .bool b := h1
        cases b
        · exact ⟨_, w, μ, .inl (by simp [execOp, h1, asBool]), Mu.le_refl _, h3, hi, Keeps.refl _ _ _ _⟩
        · exact ⟨_, w, μ, .inl (by simp [execOp, h1, asBool]), Mu.le_refl _, h2, hi, Keeps.refl _ _ _ _⟩
      · cases hp
    · cases hc
  case alloc z =>
    cases hres
    split at hc
    · split at hc
      · exact opOk_new rfl (run_alloc hi hsl ‹_› hc)
      · cases hc
    · cases hc
  case box y =>
    simp only [Option.bind_eq_some_iff, Option.some.injEq, Prod.mk.injEq] at hres
    obtain ⟨cs, hp, rfl, rfl⟩ := hres
    split at hc
    · exact opOk_new rfl (run_box hi hsl (chkOpd_ok hc hs) hp)
    · cases hc
  case build z ps =>
    simp only [Option.bind_eq_some_iff, Option.some.injEq, Prod.mk.injEq] at hres
    obtain ⟨cs, hp, rfl, rfl⟩ := hres
    split at hc
    · rename_i t qs
      simp only [Bool.and_eq_true] at hc
      obtain ⟨hz, hc⟩ := hc
      split at hz
      · rename_i zv hzv
        have heq : ∀ qs : Array (Nat × Operand), (qs.map fun (i, x) => (i, a.eval x)) = (qs.toList.map fun (i, x) => (i, a.eval x)).toArray := by intro qs; apply Array.ext'; simp
        split at hc
        · rename_i fs hfs
          split at hc
          · rename_i pl hpl
            refine opOk_val hi rfl ?_
            rw [heq]
            exact run_buildS hfs hzv hz (allSome_ok hpl) (chkParts_ok hs hc) hp
          · cases hc
        · split at hc
          · rename_i n e hne
            split at hc
            · rename_i sz hsz
              refine opOk_val hi rfl ?_
              rw [heq]
              exact run_buildA hne hsz hzv hz (chkParts_ok hs hc) hp
            · cases hc
          · cases hc
      · cases hz
    · cases hc
  case buildSl sz len z ps =>
    simp only [Option.bind_eq_some_iff, Option.some.injEq, Prod.mk.injEq] at hres
    obtain ⟨cs, hp, rfl, rfl⟩ := hres
    split at hc
    · rename_i t len' qs
      simp only [Bool.and_eq_true, decide_eq_true_eq] at hc
      obtain ⟨rfl, hc⟩ := hc
      split at hc
      · rename_i e he
        simp only [Bool.and_eq_true, decide_eq_true_eq] at hc
        obtain ⟨⟨⟨h1, h2⟩, h3⟩, h4⟩ := hc
        split at h3
        · rename_i zv hzv
          refine opOk_new rfl ?_
          have heq : (qs.map fun (i, x) => (i, a.eval x)) = (qs.toList.map fun (i, x) => (i, a.eval x)).toArray := by apply Array.ext'; simp
          rw [heq]
          exact run_buildSl hi hsl he h1 hzv h2 h3 (chkParts_ok hs h4) hp
        · cases h3
      · cases hc
    · cases hc
  case load1 y =>
    simp only [Option.bind_eq_some_iff, Option.some.injEq, Prod.mk.injEq] at hres
    obtain ⟨_, hp, rfl, rfl⟩ := hres
    split at hc
    · simp only [Bool.and_eq_true, decide_eq_true_eq] at hc
      exact opOk_val hi rfl (run_load1 hc.1 hrow (chkOpd_ok hc.2 hs) hp)
    · cases hc
  case loadN n y =>
    simp only [Option.bind_eq_some_iff, Option.some.injEq, Prod.mk.injEq] at hres
    obtain ⟨_, hp, rfl, rfl⟩ := hres
    split at hc
    · simp only [Bool.and_eq_true, decide_eq_true_eq] at hc
      exact opOk_val hi rfl (run_loadN hc.1.1 hc.1.2 hrow (chkOpd_ok hc.2 hs) hp)
    · cases hc
  case store1 y z =>
    simp only [Option.bind_eq_some_iff, Option.some.injEq, Prod.mk.injEq] at hres
    obtain ⟨_, hp, rfl, rfl⟩ := hres
    split at hc
    · simp only [Bool.and_eq_true, decide_eq_true_eq] at hc
      exact opOk_unit rfl (run_store1 hc.1.1 hi (chkOpd_ok hc.1.2 hs) (chkOpd_ok hc.2 hs) hp)
    · cases hc
  case storeN n y z =>
    simp only [Option.bind_eq_some_iff, Option.some.injEq, Prod.mk.injEq] at hres
    obtain ⟨_, hp, rfl, rfl⟩ := hres
    split at hc
    · simp only [Bool.and_eq_true, decide_eq_true_eq] at hc
      exact opOk_unit rfl (run_storeN hc.1.1 hi (chkOpd_ok hc.1.2 hs) (chkOpd_ok hc.2 hs) hp)
    · cases hc
  case bin op' y z =>
    simp only [Option.bind_eq_some_iff, Option.some.injEq, Prod.mk.injEq] at hres
    obtain ⟨_, hp, rfl, rfl⟩ := hres
    split at hc
    · rename_i op2 xt x y2 yt
      simp only [Bool.and_eq_true, decide_eq_true_eq] at hc
      obtain ⟨⟨rfl, h1⟩, h2⟩ := hc
      have hx : RV μ _ _ := chkOpd_ok h1 hs
      have hy : RV μ _ _ := chkOpd_ok h2 hs
      refine opOk_val (s := do eqGuard op' xt x y2 (a.eval x) (a.eval y2); binOp op' xt (a.eval x) (a.eval y2)) hi rfl ?_
      obtain ⟨V, h3, h4⟩ := run_bin (P := P) (w := w) (xt := xt) hx hy hp
      have h5 := abin_noagg hp hx
      exact ⟨V, by rw [Sem.run_bind, guard_ok h5.1 h5.2]; exact h3, h4⟩
    · cases hc
  case eqA neg sh y z =>
    simp only [Option.bind_eq_some_iff, Option.some.injEq, Prod.mk.injEq] at hres
    obtain ⟨_, hp, rfl, rfl⟩ := hres
    split at hc
    · rename_i op2 xt x y2 yt
      simp only [Bool.and_eq_true, decide_eq_true_eq, Bool.not_eq_true'] at hc
      obtain ⟨⟨⟨⟨⟨rfl, h1⟩, h2⟩, h3⟩, h4⟩, h5⟩ := hc
      have hx : RV μ _ _ := chkOpd_ok h4 hs
      have hy : RV μ _ _ := chkOpd_ok h5 hs
      refine opOk_val (s := do eqGuard (bif neg then .neq else .eql) xt x y2 (a.eval x) (a.eval y2); binOp (bif neg then .neq else .eql) xt (a.eval x) (a.eval y2)) hi rfl ?_
      obtain ⟨V, h6, h7⟩ := run_eqA (P := P) (w := w) h1 h2 hx hy hp
      have hag : (eqGuard (bif neg then BinOp.neq else .eql) xt x y2 (a.eval x) (a.eval y2)).run P w = .ok () w := by
        unfold aeq at hp
        split at hp
        · rename_i e1 e2
          rw [e1] at hx; rw [e2] at hy
          obtain ⟨xs, e3, _⟩ := hx
          obtain ⟨ys, e4, _⟩ := hy
          rw [e3, e4]
          exact run_eqGuard_agg w _ xt x y2 _ _ h3
        · cases hp
      exact ⟨V, by rw [Sem.run_bind, hag]; exact h6, h7⟩
    · cases hc
  case eqB neg y z =>
    simp only [Option.bind_eq_some_iff, Option.some.injEq, Prod.mk.injEq] at hres
    obtain ⟨_, hp, rfl, rfl⟩ := hres
    split at hc
    · rename_i op2 xt x y2 yt
      simp only [Bool.and_eq_true, decide_eq_true_eq] at hc
      obtain ⟨⟨⟨rfl, h1⟩, h4⟩, h5⟩ := hc
      split at h1
      · rename_i hu
        have hx : RV μ _ _ := chkOpd_ok h4 hs
        have hy : RV μ _ _ := chkOpd_ok h5 hs
        refine opOk_val (s := do eqGuard (bif neg then .neq else .eql) xt x y2 (a.eval x) (a.eval y2); binOp (bif neg then .neq else .eql) xt (a.eval x) (a.eval y2)) hi rfl ?_
        obtain ⟨V, h6, h7⟩ := run_eqB (P := P) (w := w) hu hx hy hp
        have hag : (eqGuard (bif neg then BinOp.neq else .eql) xt x y2 (a.eval x) (a.eval y2)).run P w = .ok () w := by
          unfold aeqB at hp
          split at hp
          · rename_i e1 e2
            rw [e1] at hx
            have hx : a.eval x = .bool _ := hx
            rw [hx]
            exact guard_ok (by simp) (by simp)
          · cases hp
        exact ⟨V, by rw [Sem.run_bind, hag]; exact h6, h7⟩
      · cases h1
    · cases hc
  case eqN fn neg y =>
    simp only [Option.bind_eq_some_iff, Option.some.injEq, Prod.mk.injEq] at hres
    obtain ⟨_, hp, rfl, rfl⟩ := hres
    split at hc
    · rename_i op2 xt x c yt
      simp only [Bool.and_eq_true, decide_eq_true_eq] at hc
      obtain ⟨⟨rfl, h1⟩, h4⟩ := hc
      have hx : RV μ _ _ := chkOpd_ok h4 hs
      refine opOk_val (s := do eqGuard (bif neg then .neq else .eql) xt x (.const c) (a.eval x) (a.eval (.const c)); binOp (bif neg then .neq else .eql) xt (a.eval x) (a.eval (.const c))) hi rfl ?_
      obtain ⟨V, h6, h7⟩ := run_eqN (P := P) (w := w) h1 hx hp
      have hno : (∀ c, a.eval x ≠ .agg c) ∧ a.eval x ≠ .nilIface := by
        unfold aeqN at hp
        split at hp
        · rename_i e1; rw [e1] at hx; have hx : a.eval x = .nilFunc := hx; rw [hx]; simp
        · rename_i e1; rw [e1] at hx; obtain ⟨cs, hx, _⟩ := hx; rw [hx]; simp
        · rename_i e1; rw [e1] at hx; have hx : a.eval x = .pointer none := hx; rw [hx]; simp
        · rename_i e1; rw [e1] at hx; obtain ⟨b, n, _, hx⟩ := hx; rw [hx]; simp
        · cases hp
      exact ⟨V, by rw [Sem.run_bind, guard_ok hno.1 hno.2]; exact h6, h7⟩
    · cases hc
  case nilc y =>
    simp only [Option.bind_eq_some_iff, Option.some.injEq, Prod.mk.injEq] at hres
    obtain ⟨_, hp, rfl, rfl⟩ := hres
    split at hc
    · rename_i x
      have hx : RV μ _ _ := chkOpd_ok hc hs
      unfold anilc at hp
      split at hp
      · rename_i e1
        cases hp
        rw [e1] at hx
        have hx' := hx
        obtain ⟨b, n, _, hx⟩ := hx
        exact ⟨_, w, μ, .inl (by simp only [execOp, hx]; rfl), Mu.le_refl _, hx ▸ hx', hi, Keeps.refl _ _ _ _⟩
      · rename_i e1
        cases hp
        rw [e1] at hx
        have hx' := hx
        obtain ⟨cs, hx, _⟩ := hx
        exact ⟨_, w, μ, .inl (by simp only [execOp, hx]; rfl), Mu.le_refl _, hx ▸ hx', hi, Keeps.refl _ _ _ _⟩
      · cases hp
    · cases hc
  case un op' y =>
    simp only [Option.bind_eq_some_iff, Option.some.injEq, Prod.mk.injEq] at hres
    obtain ⟨_, hp, rfl, rfl⟩ := hres
    split at hc
    · simp only [Bool.and_eq_true, decide_eq_true_eq] at hc
      obtain ⟨rfl, h1⟩ := hc
      exact opOk_val hi rfl (run_un (chkOpd_ok h1 hs) hp)
    · cases hc
  case conv k y =>
    simp only [Option.bind_eq_some_iff, Option.some.injEq, Prod.mk.injEq] at hres
    obtain ⟨_, hp, rfl, rfl⟩ := hres
    split at hc
    · simp only [Bool.and_eq_true, decide_eq_true_eq] at hc
      obtain ⟨ks, hks⟩ := Option.isSome_iff_exists.1 hc.1.1
      exact opOk_val hi rfl (run_conv hks hc.1.2 (chkOpd_ok hc.2 hs) hp)
    · cases hc
  case convS y =>
    simp only [Option.bind_eq_some_iff, Option.some.injEq, Prod.mk.injEq] at hres
    obtain ⟨_, hp, rfl, rfl⟩ := hres
    split at hc
    · simp only [Bool.and_eq_true] at hc
      exact opOk_val hi rfl (run_convS hc.1.1 hc.1.2 (chkOpd_ok hc.2 hs) hp)
    · cases hc
  case s2b y =>
    simp only [Option.bind_eq_some_iff, Option.some.injEq, Prod.mk.injEq] at hres
    obtain ⟨l, hp, rfl, rfl⟩ := hres
    split at hc
    · simp only [Bool.and_eq_true] at hc
      obtain ⟨⟨h1, h2⟩, h3⟩ := hc
      split at h2
      · rename_i e he
        have hx : RV μ _ _ := chkOpd_ok h3 hs
        unfold as2b at hp
        split at hp
        · rename_i heq
          split at hp
          · cases hp
            rename_i hl
            rw [heq] at hx
            have hx : a.eval _ = .string ⟨l.toArray⟩ := hx
            refine opOk_new rfl ?_
            rw [hx]
            exact run_s2b hi hsl h1 he (by simpa using h2) hl
          · cases hp
        · cases hp
      · cases h2
    · cases hc
  case b2s y =>
    simp only [Option.bind_eq_some_iff, Option.some.injEq, Prod.mk.injEq] at hres
    obtain ⟨_, hp, rfl, rfl⟩ := hres
    split at hc
    · simp only [Bool.and_eq_true] at hc
      obtain ⟨⟨h1, h2⟩, h3⟩ := hc
      split at h2
      · exact opOk_val hi rfl (run_ab2s ‹_› (by simpa using h2) h1 hrow (chkOpd_ok h3 hs) hp)
      · cases h2
    · cases hc
  case b2sN own y =>
    simp only [Option.bind_eq_some_iff, Option.some.injEq, Prod.mk.injEq] at hres
    obtain ⟨_, hp, rfl, rfl⟩ := hres
    have hp := ab2sN_some hp
    split at hc
    · simp only [Bool.and_eq_true] at hc
      obtain ⟨⟨h1, h2⟩, h3⟩ := hc
      split at h2
      · exact opOk_val hi rfl (run_ab2s ‹_› (by simpa using h2) h1 hi.rows (chkOpd_ok h3 hs) hp)
      · cases h2
    · cases hc
  case mark y =>
    simp only [Option.bind_eq_some_iff, Option.some.injEq, Prod.mk.injEq] at hres
    obtain ⟨_, hp, rfl, rfl⟩ := hres
    split at hc
    · simp only [Bool.and_eq_true, decide_eq_true_eq] at hc
      obtain ⟨⟨rfl, h2⟩, h3⟩ := hc
      split at h2
      · have hx := chkOpd_ok (μ := μ) h3 hs
        obtain ⟨w', h4, h5, h6⟩ := run_mark (P := P) hi ‹_› (by simpa using h2) hx hp
        exact opOk_new rfl ⟨_, w', μ, h4, Mu.le_refl _, h5 ▸ hx, h6, Keeps.refl _ _ _ _⟩
      · cases h2
    · cases hc
  case mkf f caps =>
    simp only [Option.bind_eq_some_iff, Option.some.injEq, Prod.mk.injEq] at hres
    obtain ⟨_, hp, rfl, rfl⟩ := hres
    split at hc
    · rename_i g first cs
      simp only [Bool.and_eq_true, decide_eq_true_eq] at hc
      obtain ⟨⟨rfl, h1⟩, h2⟩ := hc
      unfold amkf at hp
      simp only [Option.map_eq_some_iff] at hp
      obtain ⟨l, hl, rfl⟩ := hp
      have h3 := capsOf_ok hl (chkOpds_ok hs h2)
      refine ⟨_, w, μ, .inl rfl, Mu.le_refl _, ⟨cs.toList.map a.eval, ?_, h3⟩, hi, Keeps.refl _ _ _ _⟩
      have : first = #[] := by simpa using h1
      subst this
      show Value.func _ _ _ = Value.func _ _ _
      congr 1 <;> (apply Array.ext'; simp)
    · cases hc
  case mkSl sz z y y2 =>
    simp only [Option.bind_eq_some_iff, Option.some.injEq, Prod.mk.injEq] at hres
    obtain ⟨n', hp, rfl, rfl⟩ := hres
    unfold amkn at hp
    simp only [Option.bind_eq_some_iff] at hp
    obtain ⟨n, hn, c, hcc, hp⟩ := hp
    split at hp
    · cases hp
      rename_i hnc
      split at hc
      · simp only [Bool.and_eq_true] at hc
        obtain ⟨⟨h1, h2⟩, h3⟩ := hc
        split at h3
        · rename_i e he
          simp only [Bool.and_eq_true, decide_eq_true_eq] at h3
          obtain ⟨⟨⟨h4, h5⟩, h6⟩, h7⟩ := h3
          split at h7
          · rename_i zv hzv
            obtain ⟨i, z', hi1, hi2, hi3, hi4, hi5, hi6⟩ := chkSizes_ok h4
            have hsz : i.size = sz := by simpa [sizeB, hi1] using h5
            refine opOk_new rfl (run_mkSl hi hsl he h5 hzv h7 h6 (by omega) (show bytesB P e = some i.bytes by simp [bytesB, hi1]) hi2 (chkOpd_ok h1 hs) (chkOpd_ok h2 hs) hn hcc hnc)
          · cases h7
        · cases h3
      · cases hc
    · cases hp
  case slS y lo hi' =>
    simp only [Option.bind_eq_some_iff, Option.some.injEq, Prod.mk.injEq] at hres
    obtain ⟨_, hp, rfl, rfl⟩ := hres
    split at hc
    · simp only [Bool.and_eq_true] at hc
      obtain ⟨⟨⟨h1, h2⟩, h3⟩, h4⟩ := hc
      exact opOk_val hi rfl (run_slS h1 (chkOpd_ok h2 hs) (chkOpt_ok h3 hs) (chkOpt_ok h4 hs) hp)
    · cases hc
  case slL sz y lo hi' =>
    simp only [Option.bind_eq_some_iff, Option.some.injEq, Prod.mk.injEq] at hres
    obtain ⟨_, hp, rfl, rfl⟩ := hres
    split at hc
    · simp only [Bool.and_eq_true] at hc
      obtain ⟨⟨⟨h1, h2⟩, h3⟩, h4⟩ := hc
      split at h1
      · exact opOk_val hi rfl (run_slL ‹_› (by simpa using h1) (chkOpd_ok h2 hs) (chkOpt_ok h3 hs) (chkOpt_ok h4 hs) hp)
      · cases h1
    · cases hc
  case slA n sz y lo hi' =>
    simp only [Option.bind_eq_some_iff, Option.some.injEq, Prod.mk.injEq] at hres
    obtain ⟨_, hp, rfl, rfl⟩ := hres
    split at hc
    · simp only [Bool.and_eq_true] at hc
      obtain ⟨⟨⟨h1, h2⟩, h3⟩, h4⟩ := hc
      split at h1
      · simp only [Bool.and_eq_true, decide_eq_true_eq] at h1
        obtain ⟨rfl, h1⟩ := h1
        exact opOk_val hi rfl (run_slA ‹_› h1 hrow (chkOpd_ok h2 hs) (chkOpt_ok h3 hs) (chkOpt_ok h4 hs) hp)
      · cases h1
    · cases hc
  case fAddr y off =>
    simp only [Option.bind_eq_some_iff, Option.some.injEq, Prod.mk.injEq] at hres
    obtain ⟨_, hp, rfl, rfl⟩ := hres
    split at hc
    · simp only [Bool.and_eq_true] at hc
      obtain ⟨h1, h2⟩ := hc
      split at h1
      · rename_i f hf
        simp only [Bool.and_eq_true, decide_eq_true_eq] at h1
        obtain ⟨h3, h4⟩ := h1
        split at h4
        · simp only [chkField, Option.bind_eq_some_iff] at hf
          obtain ⟨fs, hfs, hf⟩ := hf
          exact opOk_val hi rfl (run_fAddr hfs hf ‹_› (by simpa using h4) h3 (chkOpd_ok h2 hs) hp)
        · cases h4
      · cases h1
    · cases hc
  case iAddrA n sz y z =>
    simp only [Option.bind_eq_some_iff, Option.some.injEq, Prod.mk.injEq] at hres
    obtain ⟨_, hp, rfl, rfl⟩ := hres
    split at hc
    · simp only [Bool.and_eq_true] at hc
      obtain ⟨⟨h1, h2⟩, h3⟩ := hc
      split at h1
      · simp only [Bool.and_eq_true, decide_eq_true_eq] at h1
        obtain ⟨rfl, h1⟩ := h1
        exact opOk_val hi rfl (run_iAddrA ‹_› h1 (chkOpd_ok h2 hs) (chkOpd_ok h3 hs) hp)
      · cases h1
    · cases hc
  case iAddrL sz y z =>
    simp only [Option.bind_eq_some_iff, Option.some.injEq, Prod.mk.injEq] at hres
    obtain ⟨_, hp, rfl, rfl⟩ := hres
    split at hc
    · simp only [Bool.and_eq_true] at hc
      obtain ⟨⟨h1, h2⟩, h3⟩ := hc
      split at h1
      · exact opOk_val hi rfl (run_iAddrL ‹_› (by simpa using h1) (chkOpd_ok h2 hs) (chkOpd_ok h3 hs) hp)
      · cases h1
    · cases hc
  case fld1 y off =>
    simp only [Option.bind_eq_some_iff, Option.some.injEq, Prod.mk.injEq] at hres
    obtain ⟨_, hp, rfl, rfl⟩ := hres
    split at hc
    · simp only [Bool.and_eq_true] at hc
      obtain ⟨h1, h2⟩ := hc
      split at h1
      · rename_i f hf
        simp only [Bool.and_eq_true, decide_eq_true_eq] at h1
        obtain ⟨rfl, h4⟩ := h1
        simp only [chkField, Option.bind_eq_some_iff] at hf
        obtain ⟨fs, hfs, hf⟩ := hf
        exact opOk_val hi rfl (run_fld1 hfs hf h4 (chkOpd_ok h2 hs) hp)
      · cases h1
    · cases hc
  case fldN y off n =>
    simp only [Option.bind_eq_some_iff, Option.some.injEq, Prod.mk.injEq] at hres
    obtain ⟨_, hp, rfl, rfl⟩ := hres
    split at hc
    · simp only [Bool.and_eq_true] at hc
      obtain ⟨h1, h2⟩ := hc
      split at h1
      · rename_i f hf
        simp only [Bool.and_eq_true, decide_eq_true_eq] at h1
        obtain ⟨⟨rfl, h4⟩, h5⟩ := h1
        simp only [chkField, Option.bind_eq_some_iff] at hf
        obtain ⟨fs, hfs, hf⟩ := hf
        exact opOk_val hi rfl (run_fldN hfs hf h4 h5 (chkOpd_ok h2 hs) hp)
      · cases h1
    · cases hc
  case idxA1 n y z =>
    simp only [Option.bind_eq_some_iff, Option.some.injEq, Prod.mk.injEq] at hres
    obtain ⟨_, hp, rfl, rfl⟩ := hres
    split at hc
    · simp only [Bool.and_eq_true] at hc
      obtain ⟨⟨h1, h2⟩, h3⟩ := hc
      split at h1
      · simp only [Bool.and_eq_true, decide_eq_true_eq] at h1
        obtain ⟨⟨rfl, h4⟩, h5⟩ := h1
        exact opOk_val hi rfl (run_idxA1 ‹_› h4 h5 (chkOpd_ok h2 hs) (chkOpd_ok h3 hs) hp)
      · cases h1
    · cases hc
  case idxAN n sz y z =>
    simp only [Option.bind_eq_some_iff, Option.some.injEq, Prod.mk.injEq] at hres
    obtain ⟨_, hp, rfl, rfl⟩ := hres
    split at hc
    · simp only [Bool.and_eq_true] at hc
      obtain ⟨⟨h1, h2⟩, h3⟩ := hc
      split at h1
      · simp only [Bool.and_eq_true, decide_eq_true_eq] at h1
        obtain ⟨⟨rfl, h4⟩, h5⟩ := h1
        exact opOk_val hi rfl (run_idxAN ‹_› h4 h5 (chkOpd_ok h2 hs) (chkOpd_ok h3 hs) hp)
      · cases h1
    · cases hc
  case idxS y z =>
    simp only [Option.bind_eq_some_iff, Option.some.injEq, Prod.mk.injEq] at hres
    obtain ⟨_, hp, rfl, rfl⟩ := hres
    split at hc
    · simp only [Bool.and_eq_true] at hc
      obtain ⟨⟨h1, h2⟩, h3⟩ := hc
      exact opOk_val hi rfl (run_idxS h1 (chkOpd_ok h2 hs) (chkOpd_ok h3 hs) hp)
    · cases hc
  case ext y k =>
    simp only [Option.bind_eq_some_iff, Option.some.injEq, Prod.mk.injEq] at hres
    obtain ⟨_, hp, rfl, rfl⟩ := hres
    split at hc
    · simp only [Bool.and_eq_true, decide_eq_true_eq] at hc
      obtain ⟨rfl, h1⟩ := hc
      exact opOk_val hi rfl (run_ext (chkOpd_ok h1 hs) hp)
    · cases hc
  case call => cases hc
  case callV => cases hc
  case len y =>
    simp only [Option.bind_eq_some_iff, Option.some.injEq, Prod.mk.injEq] at hres
    obtain ⟨_, hp, rfl, rfl⟩ := hres
    split at hc
    · rename_i c
      split at hc
      · rename_i x t hca hargs hty
        simp only [Bool.and_eq_true] at hc
        obtain ⟨e, he⟩ := Option.isSome_iff_exists.1 hc.1
        have h1 : c.args = #[x] := by cases hcc : c.args; simp_all
        have h2 : c.argTypes = #[t] := by cases hcc : c.argTypes; simp_all
        refine opOk_val (s := Builtin.len_ #[t] type #[a.eval x]) hi ?_ (run_len he (chkOpd_ok hc.2 hs) hp)
        simp [execOp, resolve, hca, h1, h2, invoke, builtin]
      · cases hc
    · cases hc
  case lenS y =>
    simp only [Option.bind_eq_some_iff, Option.some.injEq, Prod.mk.injEq] at hres
    obtain ⟨_, hp, rfl, rfl⟩ := hres
    split at hc
    · rename_i c
      split at hc
      · rename_i x t hca hargs hty
        simp only [Bool.and_eq_true] at hc
        have h1 : c.args = #[x] := by cases hcc : c.args; simp_all
        have h2 : c.argTypes = #[t] := by cases hcc : c.argTypes; simp_all
        refine opOk_val (s := Builtin.len_ #[t] type #[a.eval x]) hi ?_ (run_lenS hc.1 (chkOpd_ok hc.2 hs) hp)
        simp [execOp, resolve, hca, h1, h2, invoke, builtin]
      · cases hc
    · cases hc
  case app sz y z =>
    simp only [Option.bind_eq_some_iff, Option.some.injEq] at hres
    obtain ⟨p, hp, hpe⟩ := hres
    simp only [Prod.mk.injEq] at hpe
    obtain ⟨rfl, rfl⟩ := hpe
    split at hc
    · rename_i c
      split at hc
      · rename_i x x2 s yt hca hargs hty
        simp only [Bool.and_eq_true] at hc
        obtain ⟨⟨⟨h1, h2⟩, h3⟩, h4⟩ := hc
        split at h1
        · rename_i e he
          simp only [Bool.and_eq_true, decide_eq_true_eq] at h1
          obtain ⟨i, z', hi1, hi2, hi3, hi4, hi5, hi6⟩ := chkSizes_ok h1.1
          have hsz : i.size = sz := by simpa [sizeB, hi1] using h1.2
          subst hsz
          have e1 : c.args = #[x, x2] := by cases hcc : c.args; simp_all
          have e2 : c.argTypes = #[s, yt] := by cases hcc : c.argTypes; simp_all
          obtain ⟨V, w', μ', g1, g2, g3, g4, g5⟩ := run_app (P := P) (ty := type) hi (sliceB_und he) hi1 hi2 hi3 hi5 hi6 hi4 (chkY_ok h2) (chkOpd_ok h3 hs) (chkOpd_ok h4 hs) hp
          refine opOk_new (s := Builtin.append_ #[s, yt] type #[a.eval x, a.eval x2]) ?_ ⟨V, w', μ', g1, g2, g3, g4, fun id hid _ => g5 id hid⟩
          simp [execOp, resolve, hca, e1, e2, invoke, builtin]
        · cases h1
      · cases hc
    · cases hc
  case appZ sz zero y z =>
    simp only [Option.bind_eq_some_iff, Option.some.injEq] at hres
    obtain ⟨p, hp, hpe⟩ := hres
    simp only [Prod.mk.injEq] at hpe
    obtain ⟨rfl, rfl⟩ := hpe
    split at hc
    · rename_i c
      split at hc
      · rename_i x x2 s yt hca hargs hty
        simp only [Bool.and_eq_true] at hc
        obtain ⟨⟨⟨h1, h2⟩, h3⟩, h4⟩ := hc
        split at h1
        · rename_i e he
          simp only [Bool.and_eq_true, decide_eq_true_eq] at h1
          obtain ⟨⟨h1, h1s⟩, h1z⟩ := h1
          obtain ⟨i, z', hi1, hi2, hi3, hi4, hi5, hi6⟩ := chkSizes_ok h1
          have hsz : i.size = sz := by simpa [sizeB, hi1] using h1s
          subst hsz
          have e1 : c.args = #[x, x2] := by cases hcc : c.args; simp_all
          have e2 : c.argTypes = #[s, yt] := by cases hcc : c.argTypes; simp_all
          split at h1z
          · rename_i zv hzv
            have hzz : zv = z' := by
              have := hzv
              simp [zeroB, hi1, hi5] at this
              exact this.symm
            subst hzz
            obtain ⟨kk, hkk⟩ := Option.isSome_iff_exists.1 h2
            obtain ⟨V, w', μ', g1, g2, g3, g4, g5⟩ := run_appZ (P := P) (ty := type) hi (sliceB_und he) hi1 hi2 hi3 hi5 hi6 hi4 (intB_und hkk) (chkZero_ok h1z) (chkOpd_ok h3 hs) (chkOpd_ok h4 hs) hp
            refine opOk_new (s := Builtin.append_ #[s, yt] type #[a.eval x, a.eval x2]) ?_ ⟨V, w', μ', g1, g2, g3, g4, fun id hid _ => g5 id hid⟩
            simp [execOp, resolve, hca, e1, e2, invoke, builtin]
          · cases h1z
        · cases h1
      · cases hc
    · cases hc
  case max y z =>
    simp only [Option.bind_eq_some_iff, Option.some.injEq, Prod.mk.injEq] at hres
    obtain ⟨_, hp, rfl, rfl⟩ := hres
    split at hc
    · rename_i c
      split at hc
      · rename_i x x2 hca hargs
        simp only [Bool.and_eq_true] at hc
        have e1 : c.args = #[x, x2] := by cases hcc : c.args; simp_all
        refine opOk_val (s := Builtin.max_ c.argTypes type #[a.eval x, a.eval x2]) hi ?_ (run_max (chkOpd_ok hc.1 hs) (chkOpd_ok hc.2 hs) hp)
        simp [execOp, resolve, hca, e1, invoke, builtin]
      · cases hc
    · cases hc
  case min y z =>
    simp only [Option.bind_eq_some_iff, Option.some.injEq, Prod.mk.injEq] at hres
    obtain ⟨_, hp, rfl, rfl⟩ := hres
    split at hc
    · rename_i c
      split at hc
      · rename_i x x2 hca hargs
        simp only [Bool.and_eq_true] at hc
        have e1 : c.args = #[x, x2] := by cases hcc : c.args; simp_all
        refine opOk_val (s := Builtin.min_ c.argTypes type #[a.eval x, a.eval x2]) hi ?_ (run_min (chkOpd_ok hc.1 hs) (chkOpd_ok hc.2 hs) hp)
        simp [execOp, resolve, hca, e1, invoke, builtin]
      · cases hc
    · cases hc
  case copy sz y z =>
    simp only [Option.bind_eq_some_iff, Option.some.injEq] at hres
    obtain ⟨p, hp, hpe⟩ := hres
    simp only [Prod.mk.injEq] at hpe
    obtain ⟨rfl, rfl⟩ := hpe
    split at hc
    · rename_i c
      split at hc
      · rename_i x x2 s yt hca hargs hty
        simp only [Bool.and_eq_true] at hc
        obtain ⟨⟨h1, h3⟩, h4⟩ := hc
        split at h1
        · rename_i e he
          simp only [Bool.and_eq_true, decide_eq_true_eq] at h1
          have e1 : c.args = #[x, x2] := by cases hcc : c.args; simp_all
          have e2 : c.argTypes = #[s, yt] := by cases hcc : c.argTypes; simp_all
          obtain ⟨V, w', h5, h6, h7⟩ := run_copy (P := P) (yt := yt) (ty := type) hi he h1.1 h1.2 (chkOpd_ok h3 hs) (chkOpd_ok h4 hs) hp
          refine opOk_new (s := Builtin.copy_ #[s, yt] type #[a.eval x, a.eval x2]) ?_ ⟨V, w', μ, h5, Mu.le_refl _, h6, h7, Keeps.refl _ _ _ _⟩
          simp [execOp, resolve, hca, e1, e2, invoke, builtin]
        · cases h1
      · cases hc
    · cases hc

end
end Go.Esc
