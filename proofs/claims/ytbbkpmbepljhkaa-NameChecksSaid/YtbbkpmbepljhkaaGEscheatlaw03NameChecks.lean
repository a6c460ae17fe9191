/- Escheatlaw03NameChecks: the Go functions of this package as the abstract evaluator computes them: printed by a program, checked by Lean. -/
import Derived.Test.YtbbkpmbepljhkaaEscS
import Derived.Test.YtbbkpmbepljhkaaChecked
import Derived.KernelRfl
import Derived.Test.YtbbkpmbepljhkaaGEscheatlaw03
import Derived.Test.YtbbkpmbepljhkaaGEscheatref03
import Derived.Test.YtbbkpmbepljhkaaGName
namespace Go.Proofs.Ytbbkpmbepljhkaa
open Go Go.Esc
set_option maxRecDepth 100000
set_option linter.all false
def escheatlaw03_NameChecks_c0 : ACode := .ops [{ dst := some 4, op := .mv (.v (.c (.b false))) }]
def escheatlaw03_NameChecks_c1 : ACode := .ops [{ dst := some 5, op := .mv (.t 0) }, { dst := some 6, op := .lenS (.t 5) }, { dst := some 7, op := .bin .gtr (.t 6) (.v (.c (.i .i64 300))) }, { dst := some 8, op := .mv (.t 7) }, { dst := some 9, op := .mv (.t 1), guard := some (8, false) }, { dst := some 10, op := .lenS (.t 9), guard := some (8, false) }, { dst := some 11, op := .bin .gtr (.t 10) (.v (.c (.i .i64 300))), guard := some (8, false) }, { dst := some 12, op := .pick (.t 8) (.v (.c (.b true))) (.t 11) }]
def escheatlaw03_NameChecks_c2 : ACode := .ops [{ dst := some 13, op := .call 40 [] }, { dst := some 4, op := .mv (.t 13) }]
def escheatlaw03_NameChecks_c3 : ACode := .seq [4] escheatlaw03_NameChecks_c2 .ret
def escheatlaw03_NameChecks_c4 : ACode := .cond (.t 12) escheatlaw03_NameChecks_c3 .skip
def escheatlaw03_NameChecks_c5 : ACode := .seq [0, 1, 12] escheatlaw03_NameChecks_c1 escheatlaw03_NameChecks_c4
def escheatlaw03_NameChecks_c6 : ACode := .ops [{ dst := some 14, op := .mv (.t 0) }, { dst := some 15, op := .call 42 [(.t 14)] }, { dst := some 16, op := .mv (.t 0) }, { dst := some 17, op := .call 43 [(.t 16)] }, { dst := some 18, op := .call 41 [(.t 15), (.t 17)] }, { dst := some 19, op := .mv (.t 18) }, { dst := some 20, op := .mv (.t 0), guard := some (19, true) }, { dst := some 21, op := .mv (.t 1), guard := some (19, true) }, { dst := some 22, op := .call 44 [(.t 20), (.t 21)], guard := some (19, true) }, { dst := some 23, op := .mv (.t 0), guard := some (19, true) }, { dst := some 24, op := .mv (.t 1), guard := some (19, true) }, { dst := some 25, op := .call 45 [(.t 23), (.t 24)], guard := some (19, true) }, { dst := some 26, op := .eqB false (.t 22) (.t 25), guard := some (19, true) }, { dst := some 27, op := .pick (.t 19) (.t 26) (.v (.c (.b false))) }, { dst := some 28, op := .mv (.t 27) }, { dst := some 29, op := .call 40 [], guard := some (28, true) }, { dst := some 30, op := .pick (.t 28) (.t 29) (.v (.c (.b false))) }, { dst := some 4, op := .mv (.t 30) }]
def escheatlaw03_NameChecks_c7 : ACode := .seq [4] escheatlaw03_NameChecks_c6 .ret
def escheatlaw03_NameChecks_c8 : ACode := .seq [0, 1] escheatlaw03_NameChecks_c5 escheatlaw03_NameChecks_c7
def escheatlaw03_NameChecks_c9 : ACode := .seq [0, 1] escheatlaw03_NameChecks_c0 escheatlaw03_NameChecks_c8
def A_escheatlaw03_NameChecks : AFn := ⟨escheatlaw03_NameChecks_c9, [.tmp 4]⟩
noncomputable def E_escheatlaw03_NameChecks : Sums := fun f args h => bif Nat.beq f 40 then S_escheatlaw03_works args h else bif Nat.beq f 42 then S_name_Check args h else bif Nat.beq f 43 then S_escheatref03_Right args h else bif Nat.beq f 41 then S_escheatlaw03_is args h else bif Nat.beq f 44 then S_name_Less args h else bif Nat.beq f 45 then S_escheatref03_Less args h else none
noncomputable def escheatlaw03_NameChecks_c0_d (n : Nat) : Sm (Val × Heap) := smOps E_escheatlaw03_NameChecks [{ dst := some 4, op := .mv (.v (.c (.b false))) }]
noncomputable def escheatlaw03_NameChecks_c1_d (n : Nat) : Sm (Val × Heap) := smOps E_escheatlaw03_NameChecks [{ dst := some 5, op := .mv (.t 0) }, { dst := some 6, op := .lenS (.t 5) }, { dst := some 7, op := .bin .gtr (.t 6) (.v (.c (.i .i64 300))) }, { dst := some 8, op := .mv (.t 7) }, { dst := some 9, op := .mv (.t 1), guard := some (8, false) }, { dst := some 10, op := .lenS (.t 9), guard := some (8, false) }, { dst := some 11, op := .bin .gtr (.t 10) (.v (.c (.i .i64 300))), guard := some (8, false) }, { dst := some 12, op := .pick (.t 8) (.v (.c (.b true))) (.t 11) }]
noncomputable def escheatlaw03_NameChecks_c2_d (n : Nat) : Sm (Val × Heap) := smOps E_escheatlaw03_NameChecks [{ dst := some 13, op := .call 40 [] }, { dst := some 4, op := .mv (.t 13) }]
noncomputable def escheatlaw03_NameChecks_c3_d (n : Nat) : Sm (Val × Heap) := smSeq [4] (escheatlaw03_NameChecks_c2_d n) smRet
noncomputable def escheatlaw03_NameChecks_c4_d (n : Nat) : Sm (Val × Heap) := smCond (.t 12) (escheatlaw03_NameChecks_c3_d n) smSkip
noncomputable def escheatlaw03_NameChecks_c5_d (n : Nat) : Sm (Val × Heap) := smSeq [0, 1, 12] (escheatlaw03_NameChecks_c1_d n) (escheatlaw03_NameChecks_c4_d n)
noncomputable def escheatlaw03_NameChecks_c6_d (n : Nat) : Sm (Val × Heap) := smOps E_escheatlaw03_NameChecks [{ dst := some 14, op := .mv (.t 0) }, { dst := some 15, op := .call 42 [(.t 14)] }, { dst := some 16, op := .mv (.t 0) }, { dst := some 17, op := .call 43 [(.t 16)] }, { dst := some 18, op := .call 41 [(.t 15), (.t 17)] }, { dst := some 19, op := .mv (.t 18) }, { dst := some 20, op := .mv (.t 0), guard := some (19, true) }, { dst := some 21, op := .mv (.t 1), guard := some (19, true) }, { dst := some 22, op := .call 44 [(.t 20), (.t 21)], guard := some (19, true) }, { dst := some 23, op := .mv (.t 0), guard := some (19, true) }, { dst := some 24, op := .mv (.t 1), guard := some (19, true) }, { dst := some 25, op := .call 45 [(.t 23), (.t 24)], guard := some (19, true) }, { dst := some 26, op := .eqB false (.t 22) (.t 25), guard := some (19, true) }, { dst := some 27, op := .pick (.t 19) (.t 26) (.v (.c (.b false))) }, { dst := some 28, op := .mv (.t 27) }, { dst := some 29, op := .call 40 [], guard := some (28, true) }, { dst := some 30, op := .pick (.t 28) (.t 29) (.v (.c (.b false))) }, { dst := some 4, op := .mv (.t 30) }]
noncomputable def escheatlaw03_NameChecks_c7_d (n : Nat) : Sm (Val × Heap) := smSeq [4] (escheatlaw03_NameChecks_c6_d n) smRet
noncomputable def escheatlaw03_NameChecks_c8_d (n : Nat) : Sm (Val × Heap) := smSeq [0, 1] (escheatlaw03_NameChecks_c5_d n) (escheatlaw03_NameChecks_c7_d n)
noncomputable def escheatlaw03_NameChecks_c9_d (n : Nat) : Sm (Val × Heap) := smSeq [0, 1] (escheatlaw03_NameChecks_c0_d n) (escheatlaw03_NameChecks_c8_d n)
noncomputable def R_escheatlaw03_NameChecks (n : Nat) (args : List Val) (h : Heap) : Option (Val × Heap) := (escheatlaw03_NameChecks_c9_d n) A_escheatlaw03_NameChecks.fin (params 0 args) h
theorem R_escheatlaw03_NameChecks_run (n : Nat) (args : List Val) (h : Heap) : A_escheatlaw03_NameChecks.run E_escheatlaw03_NameChecks n args h = R_escheatlaw03_NameChecks n args h := by kernel_rfl
theorem R_escheatlaw03_NameChecks_eq (n : Nat) (a0 a1 : Val) (h : Heap) : R_escheatlaw03_NameChecks n [a0, a1] h = bnd (alenS a0) fun v1 => bnd (abin .gtr v1 (.c (.i .i64 300))) fun v2 => bnd (gd v2 false (some (a1, h)) (some (.no, h))) fun p3 => bnd (gd v2 false (bnd (alenS p3.1) fun v4 => some (v4, p3.2)) (some (.no, p3.2))) fun p5 => bnd (gd v2 false (bnd (abin .gtr p5.1 (.c (.i .i64 300))) fun v6 => some (v6, p5.2)) (some (.no, p5.2))) fun p7 => bnd (apick v2 (.c (.b true)) p7.1) fun v8 => cnd v8 (bnd (S_escheatlaw03_works [] p7.2) fun p9 => some (p9.1, p9.2)) (bnd (S_name_Check [a0] p7.2) fun p10 => bnd (S_escheatref03_Right [a0] p10.2) fun p11 => bnd (S_escheatlaw03_is [p10.1, p11.1] p11.2) fun p12 => bnd (gd p12.1 true (some (a0, p12.2)) (some (.no, p12.2))) fun p13 => bnd (gd p12.1 true (some (a1, p13.2)) (some (.no, p13.2))) fun p14 => bnd (gd p12.1 true (bnd (S_name_Less [p13.1, p14.1] p14.2) fun p15 => some (p15.1, p15.2)) (some (.no, p14.2))) fun p16 => bnd (gd p12.1 true (some (a0, p16.2)) (some (.no, p16.2))) fun p17 => bnd (gd p12.1 true (some (a1, p17.2)) (some (.no, p17.2))) fun p18 => bnd (gd p12.1 true (bnd (S_escheatref03_Less [p17.1, p18.1] p18.2) fun p19 => some (p19.1, p19.2)) (some (.no, p18.2))) fun p20 => bnd (gd p12.1 true (bnd (aeqB false p16.1 p20.1) fun v21 => some (v21, p20.2)) (some (.no, p20.2))) fun p22 => bnd (apick p12.1 p22.1 (.c (.b false))) fun v23 => bnd (gd v23 true (bnd (S_escheatlaw03_works [] p22.2) fun p24 => some (p24.1, p24.2)) (some (.no, p22.2))) fun p25 => bnd (apick v23 p25.1 (.c (.b false))) fun v26 => some (v26, p25.2)) := by kernel_rfl
theorem chk_escheatlaw03_NameChecks : chkFn Try.prog Try.f3 A_escheatlaw03_NameChecks = true := by kernel_rfl
theorem E_escheatlaw03_NameChecks_sound : Sound Try.prog E_escheatlaw03_NameChecks := by
  intro f args h v h2 he
  unfold E_escheatlaw03_NameChecks at he
  cases hb0 : Nat.beq f 40 with
  | true => rw [hb0] at he; have e := Nat.eq_of_beq_eq_true hb0; subst e; exact S_escheatlaw03_works_ok args h v h2 he
  | false =>
    rw [hb0] at he; simp only [cond_false] at he
    cases hb1 : Nat.beq f 42 with
    | true => rw [hb1] at he; have e := Nat.eq_of_beq_eq_true hb1; subst e; exact S_name_Check_ok args h v h2 he
    | false =>
      rw [hb1] at he; simp only [cond_false] at he
      cases hb2 : Nat.beq f 43 with
      | true => rw [hb2] at he; have e := Nat.eq_of_beq_eq_true hb2; subst e; exact S_escheatref03_Right_ok args h v h2 he
      | false =>
        rw [hb2] at he; simp only [cond_false] at he
        cases hb3 : Nat.beq f 41 with
        | true => rw [hb3] at he; have e := Nat.eq_of_beq_eq_true hb3; subst e; exact S_escheatlaw03_is_ok args h v h2 he
        | false =>
          rw [hb3] at he; simp only [cond_false] at he
          cases hb4 : Nat.beq f 44 with
          | true => rw [hb4] at he; have e := Nat.eq_of_beq_eq_true hb4; subst e; exact S_name_Less_ok args h v h2 he
          | false =>
            rw [hb4] at he; simp only [cond_false] at he
            cases hb5 : Nat.beq f 45 with
            | true => rw [hb5] at he; have e := Nat.eq_of_beq_eq_true hb5; subst e; exact S_escheatref03_Less_ok args h v h2 he
            | false =>
              rw [hb5] at he; simp only [cond_false] at he
              cases he

theorem R_escheatlaw03_NameChecks_ok {n : Nat} {args : List Val} {h h2 : Heap} {v : Val} (he : R_escheatlaw03_NameChecks n args h = some (v, h2)) : Callable Try.prog 3 ∧ CallOk Try.prog 3 args h v h2 ∧ h.length ≤ h2.length := fn_ok E_escheatlaw03_NameChecks_sound Try.func3 chk_escheatlaw03_NameChecks ((R_escheatlaw03_NameChecks_run ..).trans he)
theorem L_escheatlaw03_NameChecks_ok (args : List Val) (h : Heap) (v : Val) (h2 : Heap) (he : Lim A_escheatlaw03_NameChecks E_escheatlaw03_NameChecks args h = some (v, h2)) : Callable Try.prog 3 ∧ CallOk Try.prog 3 args h v h2 ∧ h.length ≤ h2.length := (Lim_run he).elim fun _ e => R_escheatlaw03_NameChecks_ok ((R_escheatlaw03_NameChecks_run ..).symm.trans e)
theorem L_escheatlaw03_NameChecks_of {n : Nat} {args : List Val} {h : Heap} {p : Val × Heap} (he : R_escheatlaw03_NameChecks n args h = some p) : Lim A_escheatlaw03_NameChecks E_escheatlaw03_NameChecks args h = some p := Lim_of ((R_escheatlaw03_NameChecks_run ..).trans he)
noncomputable def S_escheatlaw03_NameChecks : List Val → Heap → Option (Val × Heap) := tidy (Lim A_escheatlaw03_NameChecks E_escheatlaw03_NameChecks)
theorem S_escheatlaw03_NameChecks_ok (args : List Val) (h : Heap) (v : Val) (h2 : Heap) (he : S_escheatlaw03_NameChecks args h = some (v, h2)) : Callable Try.prog 3 ∧ CallOk Try.prog 3 args h v h2 ∧ h.length ≤ h2.length := tidy_ok L_escheatlaw03_NameChecks_ok args h v h2 he
theorem S_escheatlaw03_NameChecks_flat {n : Nat} {args : List Val} {h h2 : Heap} {v : Val} (he : R_escheatlaw03_NameChecks n args (ro h) = some (v, h2)) (hf : v.flat = true) : S_escheatlaw03_NameChecks args h = some (v, h) := tidy_flat (L_escheatlaw03_NameChecks_of he) hf
theorem S_escheatlaw03_NameChecks_low {n : Nat} {args : List Val} {h h2 : Heap} {v : Val} (he : R_escheatlaw03_NameChecks n args (ro h) = some (v, h2)) (hf : v.low h.length = true) : S_escheatlaw03_NameChecks args h = some (v, h) := tidy_low (L_escheatlaw03_NameChecks_of he) hf
theorem S_escheatlaw03_NameChecks_out {n : Nat} {args : List Val} {h h2 : Heap} {v : Val} {sz k : Nat} {cs : List Cell} (he : R_escheatlaw03_NameChecks n args (ro h) = some (v, h2)) (ho : Out h.length h2 v sz k cs) (hf : flats cs = true) : S_escheatlaw03_NameChecks args h = some (.c (.sl h.length 0 k sz), h ++ [some ⟨cs, true⟩]) := tidy_out (L_escheatlaw03_NameChecks_of he) ho hf
theorem S_escheatlaw03_NameChecks_tidy {n : Nat} {args : List Val} {h h2 : Heap} {v v2 : Val} {ids : List Nat} (he : R_escheatlaw03_NameChecks n args (ro h) = some (v, h2)) (hc : canonV h2 h.length v = some (v2, ids)) : S_escheatlaw03_NameChecks args h = some (v2, h ++ ids.map (rd h2)) := tidy_of (L_escheatlaw03_NameChecks_of he) hc
end Go.Proofs.Ytbbkpmbepljhkaa
