/- Escheatref17: the Go functions of this package as the abstract evaluator computes them: printed by a program, checked by Lean. -/
import Derived.Test.YtbbkpmbepljhkaaEscS
import Derived.Test.YtbbkpmbepljhkaaChecked
import Derived.KernelRfl
import Derived.Test.YtbbkpmbepljhkaaGEscheatref01
import Derived.Test.YtbbkpmbepljhkaaGEscheatref16
namespace Go.Proofs.Ytbbkpmbepljhkaa
open Go Go.Esc
set_option maxRecDepth 100000
set_option linter.all false
def escheatref17_With_c0 : ACode := .ops [{ dst := some 5, op := .box (.t 2) }, { dst := some 6, op := .nilrow 1 }, { dst := some 7, op := .mv (.v (.c (.i .i64 0))) }]
def escheatref17_With_c1 : ACode := .ops [{ dst := some 8, op := .mv (.t 1) }, { dst := some 9, op := .bin .lss (.t 8) (.v (.c (.i .i64 0))) }, { dst := some 10, op := .mv (.t 9) }, { dst := some 11, op := .mv (.t 1), guard := some (10, false) }, { dst := some 12, op := .bin .gtr (.t 11) (.v (.c (.i .i64 7))), guard := some (10, false) }, { dst := some 13, op := .pick (.t 10) (.v (.c (.b true))) (.t 12) }]
def escheatref17_With_c2 : ACode := .ops [{ dst := some 14, op := .mv (.t 0) }, { dst := some 6, op := .mv (.t 14) }, { dst := some 7, op := .mv (.v (.c (.i .i64 2))) }]
def escheatref17_With_c3 : ACode := .seq [6, 7] escheatref17_With_c2 .ret
def escheatref17_With_c4 : ACode := .cond (.t 13) escheatref17_With_c3 .skip
def escheatref17_With_c5 : ACode := .seq [0, 1, 5, 13] escheatref17_With_c1 escheatref17_With_c4
def escheatref17_With_c6 : ACode := .ops [{ dst := some 15, op := .loadN 11 (.t 5) }, { dst := some 16, op := .call 95 [(.t 15)] }, { dst := some 17, op := .un .not (.t 16) }]
def escheatref17_With_c7 : ACode := .ops [{ dst := some 18, op := .mv (.t 0) }, { dst := some 6, op := .mv (.t 18) }, { dst := some 7, op := .mv (.v (.c (.i .i64 1))) }]
def escheatref17_With_c8 : ACode := .seq [6, 7] escheatref17_With_c7 .ret
def escheatref17_With_c9 : ACode := .cond (.t 17) escheatref17_With_c8 .skip
def escheatref17_With_c10 : ACode := .seq [0, 1, 5, 17] escheatref17_With_c6 escheatref17_With_c9
def escheatref17_With_c11 : ACode := .ops [{ dst := some 19, op := .mv (.t 0) }, { dst := some 20, op := .mv (.t 1) }, { dst := some 21, op := .bin .mul (.v (.c (.i .i64 32))) (.t 20) }, { dst := some 22, op := .loadN 11 (.t 5) }, { dst := some 23, op := .call 97 [(.t 22)] }, { dst := some 24, op := .call 86 [(.t 19), (.t 21), (.t 23)] }, { dst := some 6, op := .mv (.t 24) }, { dst := some 7, op := .mv (.v (.c (.i .i64 0))) }]
def escheatref17_With_c12 : ACode := .seq [6, 7] escheatref17_With_c11 .ret
def escheatref17_With_c13 : ACode := .seq [0, 1, 5] escheatref17_With_c10 escheatref17_With_c12
def escheatref17_With_c14 : ACode := .seq [0, 1, 5] escheatref17_With_c5 escheatref17_With_c13
def escheatref17_With_c15 : ACode := .seq [0, 1, 5] escheatref17_With_c0 escheatref17_With_c14
def A_escheatref17_With : AFn := ⟨escheatref17_With_c15, [.tmp 6, .tmp 7]⟩
noncomputable def E_escheatref17_With : Sums := fun f args h => bif Nat.beq f 95 then S_escheatref16_May args h else bif Nat.beq f 97 then S_escheatref16_Put args h else bif Nat.beq f 86 then S_escheatref01_Lay args h else none
noncomputable def escheatref17_With_c0_d (n : Nat) : Sm (Val × Heap) := smOps E_escheatref17_With [{ dst := some 5, op := .box (.t 2) }, { dst := some 6, op := .nilrow 1 }, { dst := some 7, op := .mv (.v (.c (.i .i64 0))) }]
noncomputable def escheatref17_With_c1_d (n : Nat) : Sm (Val × Heap) := smOps E_escheatref17_With [{ dst := some 8, op := .mv (.t 1) }, { dst := some 9, op := .bin .lss (.t 8) (.v (.c (.i .i64 0))) }, { dst := some 10, op := .mv (.t 9) }, { dst := some 11, op := .mv (.t 1), guard := some (10, false) }, { dst := some 12, op := .bin .gtr (.t 11) (.v (.c (.i .i64 7))), guard := some (10, false) }, { dst := some 13, op := .pick (.t 10) (.v (.c (.b true))) (.t 12) }]
noncomputable def escheatref17_With_c2_d (n : Nat) : Sm (Val × Heap) := smOps E_escheatref17_With [{ dst := some 14, op := .mv (.t 0) }, { dst := some 6, op := .mv (.t 14) }, { dst := some 7, op := .mv (.v (.c (.i .i64 2))) }]
noncomputable def escheatref17_With_c3_d (n : Nat) : Sm (Val × Heap) := smSeq [6, 7] (escheatref17_With_c2_d n) smRet
noncomputable def escheatref17_With_c4_d (n : Nat) : Sm (Val × Heap) := smCond (.t 13) (escheatref17_With_c3_d n) smSkip
noncomputable def escheatref17_With_c5_d (n : Nat) : Sm (Val × Heap) := smSeq [0, 1, 5, 13] (escheatref17_With_c1_d n) (escheatref17_With_c4_d n)
noncomputable def escheatref17_With_c6_d (n : Nat) : Sm (Val × Heap) := smOps E_escheatref17_With [{ dst := some 15, op := .loadN 11 (.t 5) }, { dst := some 16, op := .call 95 [(.t 15)] }, { dst := some 17, op := .un .not (.t 16) }]
noncomputable def escheatref17_With_c7_d (n : Nat) : Sm (Val × Heap) := smOps E_escheatref17_With [{ dst := some 18, op := .mv (.t 0) }, { dst := some 6, op := .mv (.t 18) }, { dst := some 7, op := .mv (.v (.c (.i .i64 1))) }]
noncomputable def escheatref17_With_c8_d (n : Nat) : Sm (Val × Heap) := smSeq [6, 7] (escheatref17_With_c7_d n) smRet
noncomputable def escheatref17_With_c9_d (n : Nat) : Sm (Val × Heap) := smCond (.t 17) (escheatref17_With_c8_d n) smSkip
noncomputable def escheatref17_With_c10_d (n : Nat) : Sm (Val × Heap) := smSeq [0, 1, 5, 17] (escheatref17_With_c6_d n) (escheatref17_With_c9_d n)
noncomputable def escheatref17_With_c11_d (n : Nat) : Sm (Val × Heap) := smOps E_escheatref17_With [{ dst := some 19, op := .mv (.t 0) }, { dst := some 20, op := .mv (.t 1) }, { dst := some 21, op := .bin .mul (.v (.c (.i .i64 32))) (.t 20) }, { dst := some 22, op := .loadN 11 (.t 5) }, { dst := some 23, op := .call 97 [(.t 22)] }, { dst := some 24, op := .call 86 [(.t 19), (.t 21), (.t 23)] }, { dst := some 6, op := .mv (.t 24) }, { dst := some 7, op := .mv (.v (.c (.i .i64 0))) }]
noncomputable def escheatref17_With_c12_d (n : Nat) : Sm (Val × Heap) := smSeq [6, 7] (escheatref17_With_c11_d n) smRet
noncomputable def escheatref17_With_c13_d (n : Nat) : Sm (Val × Heap) := smSeq [0, 1, 5] (escheatref17_With_c10_d n) (escheatref17_With_c12_d n)
noncomputable def escheatref17_With_c14_d (n : Nat) : Sm (Val × Heap) := smSeq [0, 1, 5] (escheatref17_With_c5_d n) (escheatref17_With_c13_d n)
noncomputable def escheatref17_With_c15_d (n : Nat) : Sm (Val × Heap) := smSeq [0, 1, 5] (escheatref17_With_c0_d n) (escheatref17_With_c14_d n)
noncomputable def R_escheatref17_With (n : Nat) (args : List Val) (h : Heap) : Option (Val × Heap) := (escheatref17_With_c15_d n) A_escheatref17_With.fin (params 0 args) h
theorem R_escheatref17_With_run (n : Nat) (args : List Val) (h : Heap) : A_escheatref17_With.run E_escheatref17_With n args h = R_escheatref17_With n args h := by kernel_rfl
theorem R_escheatref17_With_eq (n : Nat) (a0 a1 a2 : Val) (h : Heap) : R_escheatref17_With n [a0, a1, a2] h = bnd (cells? a2) fun c1 => bnd (abin .lss a1 (.c (.i .i64 0))) fun v2 => bnd (gd v2 false (some (a1, ((h ++ [some (Row.mk (c1) true)]) ++ [some (Row.mk ([]) true)]))) (some (.no, ((h ++ [some (Row.mk (c1) true)]) ++ [some (Row.mk ([]) true)])))) fun p3 => bnd (gd v2 false (bnd (abin .gtr p3.1 (.c (.i .i64 7))) fun v4 => some (v4, p3.2)) (some (.no, p3.2))) fun p5 => bnd (apick v2 (.c (.b true)) p5.1) fun v6 => cnd v6 (tupN [some a0, some (.c (.i .i64 2))] p5.2) (bnd (aloadN p5.2 11 ((.c (.p h.length 0)))) fun v7 => bnd (S_escheatref16_May [v7] p5.2) fun p8 => bnd (aun .not p8.1) fun v9 => cnd v9 (tupN [some a0, some (.c (.i .i64 1))] p8.2) (bnd (abin .mul (.c (.i .i64 32)) a1) fun v10 => bnd (aloadN p8.2 11 ((.c (.p h.length 0)))) fun v11 => bnd (S_escheatref16_Put [v11] p8.2) fun p12 => bnd (S_escheatref01_Lay [a0, v10, p12.1] p12.2) fun p13 => tupN [some p13.1, some (.c (.i .i64 0))] p13.2)) := by kernel_rfl
theorem chk_escheatref17_With : chkFn Try.prog Try.f137 A_escheatref17_With = true := by kernel_rfl
theorem E_escheatref17_With_sound : Sound Try.prog E_escheatref17_With := by
  intro f args h v h2 he
  unfold E_escheatref17_With at he
  cases hb0 : Nat.beq f 95 with
  | true => rw [hb0] at he; have e := Nat.eq_of_beq_eq_true hb0; subst e; exact S_escheatref16_May_ok args h v h2 he
  | false =>
    rw [hb0] at he; simp only [cond_false] at he
    cases hb1 : Nat.beq f 97 with
    | true => rw [hb1] at he; have e := Nat.eq_of_beq_eq_true hb1; subst e; exact S_escheatref16_Put_ok args h v h2 he
    | false =>
      rw [hb1] at he; simp only [cond_false] at he
      cases hb2 : Nat.beq f 86 with
      | true => rw [hb2] at he; have e := Nat.eq_of_beq_eq_true hb2; subst e; exact S_escheatref01_Lay_ok args h v h2 he
      | false =>
        rw [hb2] at he; simp only [cond_false] at he
        cases he

theorem R_escheatref17_With_ok {n : Nat} {args : List Val} {h h2 : Heap} {v : Val} (he : R_escheatref17_With n args h = some (v, h2)) : Callable Try.prog 137 ∧ CallOk Try.prog 137 args h v h2 ∧ h.length ≤ h2.length := fn_ok E_escheatref17_With_sound Try.func137 chk_escheatref17_With ((R_escheatref17_With_run ..).trans he)
theorem L_escheatref17_With_ok (args : List Val) (h : Heap) (v : Val) (h2 : Heap) (he : Lim A_escheatref17_With E_escheatref17_With args h = some (v, h2)) : Callable Try.prog 137 ∧ CallOk Try.prog 137 args h v h2 ∧ h.length ≤ h2.length := (Lim_run he).elim fun _ e => R_escheatref17_With_ok ((R_escheatref17_With_run ..).symm.trans e)
theorem L_escheatref17_With_of {n : Nat} {args : List Val} {h : Heap} {p : Val × Heap} (he : R_escheatref17_With n args h = some p) : Lim A_escheatref17_With E_escheatref17_With args h = some p := Lim_of ((R_escheatref17_With_run ..).trans he)
noncomputable def S_escheatref17_With : List Val → Heap → Option (Val × Heap) := tidy (Lim A_escheatref17_With E_escheatref17_With)
theorem S_escheatref17_With_ok (args : List Val) (h : Heap) (v : Val) (h2 : Heap) (he : S_escheatref17_With args h = some (v, h2)) : Callable Try.prog 137 ∧ CallOk Try.prog 137 args h v h2 ∧ h.length ≤ h2.length := tidy_ok L_escheatref17_With_ok args h v h2 he
theorem S_escheatref17_With_flat {n : Nat} {args : List Val} {h h2 : Heap} {v : Val} (he : R_escheatref17_With n args (ro h) = some (v, h2)) (hf : v.flat = true) : S_escheatref17_With args h = some (v, h) := tidy_flat (L_escheatref17_With_of he) hf
theorem S_escheatref17_With_low {n : Nat} {args : List Val} {h h2 : Heap} {v : Val} (he : R_escheatref17_With n args (ro h) = some (v, h2)) (hf : v.low h.length = true) : S_escheatref17_With args h = some (v, h) := tidy_low (L_escheatref17_With_of he) hf
theorem S_escheatref17_With_out {n : Nat} {args : List Val} {h h2 : Heap} {v : Val} {sz k : Nat} {cs : List Cell} (he : R_escheatref17_With n args (ro h) = some (v, h2)) (ho : Out h.length h2 v sz k cs) (hf : flats cs = true) : S_escheatref17_With args h = some (.c (.sl h.length 0 k sz), h ++ [some ⟨cs, true⟩]) := tidy_out (L_escheatref17_With_of he) ho hf
theorem S_escheatref17_With_tidy {n : Nat} {args : List Val} {h h2 : Heap} {v v2 : Val} {ids : List Nat} (he : R_escheatref17_With n args (ro h) = some (v, h2)) (hc : canonV h2 h.length v = some (v2, ids)) : S_escheatref17_With args h = some (v2, h ++ ids.map (rd h2)) := tidy_of (L_escheatref17_With_of he) hc
def escheatref17_Raw_c0 : ACode := .ops [{ dst := some 4, op := .nilrow 1 }]
def escheatref17_Raw_c1 : ACode := .ops [{ dst := some 5, op := .mv (.t 1) }, { dst := some 6, op := .bin .lss (.t 5) (.v (.c (.i .i64 0))) }, { dst := some 7, op := .mv (.t 6) }, { dst := some 8, op := .mv (.t 1), guard := some (7, false) }, { dst := some 9, op := .bin .gtr (.t 8) (.v (.c (.i .i64 7))), guard := some (7, false) }, { dst := some 10, op := .pick (.t 7) (.v (.c (.b true))) (.t 9) }]
def escheatref17_Raw_c2 : ACode := .ops [{ dst := some 4, op := .nilrow 1 }]
def escheatref17_Raw_c3 : ACode := .seq [4] escheatref17_Raw_c2 .ret
def escheatref17_Raw_c4 : ACode := .cond (.t 10) escheatref17_Raw_c3 .skip
def escheatref17_Raw_c5 : ACode := .seq [0, 1, 10] escheatref17_Raw_c1 escheatref17_Raw_c4
def escheatref17_Raw_c6 : ACode := .ops [{ dst := some 11, op := .mv (.t 0) }, { dst := some 12, op := .mv (.t 1) }, { dst := some 13, op := .bin .mul (.v (.c (.i .i64 32))) (.t 12) }, { dst := some 14, op := .call 85 [(.t 11), (.t 13), (.v (.c (.i .i64 32)))] }, { dst := some 4, op := .mv (.t 14) }]
def escheatref17_Raw_c7 : ACode := .seq [4] escheatref17_Raw_c6 .ret
def escheatref17_Raw_c8 : ACode := .seq [0, 1] escheatref17_Raw_c5 escheatref17_Raw_c7
def escheatref17_Raw_c9 : ACode := .seq [0, 1] escheatref17_Raw_c0 escheatref17_Raw_c8
def A_escheatref17_Raw : AFn := ⟨escheatref17_Raw_c9, [.tmp 4]⟩
noncomputable def E_escheatref17_Raw : Sums := fun f args h => bif Nat.beq f 85 then S_escheatref01_Cut args h else none
noncomputable def escheatref17_Raw_c0_d (n : Nat) : Sm (Val × Heap) := smOps E_escheatref17_Raw [{ dst := some 4, op := .nilrow 1 }]
noncomputable def escheatref17_Raw_c1_d (n : Nat) : Sm (Val × Heap) := smOps E_escheatref17_Raw [{ dst := some 5, op := .mv (.t 1) }, { dst := some 6, op := .bin .lss (.t 5) (.v (.c (.i .i64 0))) }, { dst := some 7, op := .mv (.t 6) }, { dst := some 8, op := .mv (.t 1), guard := some (7, false) }, { dst := some 9, op := .bin .gtr (.t 8) (.v (.c (.i .i64 7))), guard := some (7, false) }, { dst := some 10, op := .pick (.t 7) (.v (.c (.b true))) (.t 9) }]
noncomputable def escheatref17_Raw_c2_d (n : Nat) : Sm (Val × Heap) := smOps E_escheatref17_Raw [{ dst := some 4, op := .nilrow 1 }]
noncomputable def escheatref17_Raw_c3_d (n : Nat) : Sm (Val × Heap) := smSeq [4] (escheatref17_Raw_c2_d n) smRet
noncomputable def escheatref17_Raw_c4_d (n : Nat) : Sm (Val × Heap) := smCond (.t 10) (escheatref17_Raw_c3_d n) smSkip
noncomputable def escheatref17_Raw_c5_d (n : Nat) : Sm (Val × Heap) := smSeq [0, 1, 10] (escheatref17_Raw_c1_d n) (escheatref17_Raw_c4_d n)
noncomputable def escheatref17_Raw_c6_d (n : Nat) : Sm (Val × Heap) := smOps E_escheatref17_Raw [{ dst := some 11, op := .mv (.t 0) }, { dst := some 12, op := .mv (.t 1) }, { dst := some 13, op := .bin .mul (.v (.c (.i .i64 32))) (.t 12) }, { dst := some 14, op := .call 85 [(.t 11), (.t 13), (.v (.c (.i .i64 32)))] }, { dst := some 4, op := .mv (.t 14) }]
noncomputable def escheatref17_Raw_c7_d (n : Nat) : Sm (Val × Heap) := smSeq [4] (escheatref17_Raw_c6_d n) smRet
noncomputable def escheatref17_Raw_c8_d (n : Nat) : Sm (Val × Heap) := smSeq [0, 1] (escheatref17_Raw_c5_d n) (escheatref17_Raw_c7_d n)
noncomputable def escheatref17_Raw_c9_d (n : Nat) : Sm (Val × Heap) := smSeq [0, 1] (escheatref17_Raw_c0_d n) (escheatref17_Raw_c8_d n)
noncomputable def R_escheatref17_Raw (n : Nat) (args : List Val) (h : Heap) : Option (Val × Heap) := (escheatref17_Raw_c9_d n) A_escheatref17_Raw.fin (params 0 args) h
theorem R_escheatref17_Raw_run (n : Nat) (args : List Val) (h : Heap) : A_escheatref17_Raw.run E_escheatref17_Raw n args h = R_escheatref17_Raw n args h := by kernel_rfl
theorem R_escheatref17_Raw_eq (n : Nat) (a0 a1 : Val) (h : Heap) : R_escheatref17_Raw n [a0, a1] h = bnd (abin .lss a1 (.c (.i .i64 0))) fun v1 => bnd (gd v1 false (some (a1, (h ++ [some (Row.mk ([]) true)]))) (some (.no, (h ++ [some (Row.mk ([]) true)])))) fun p2 => bnd (gd v1 false (bnd (abin .gtr p2.1 (.c (.i .i64 7))) fun v3 => some (v3, p2.2)) (some (.no, p2.2))) fun p4 => bnd (apick v1 (.c (.b true)) p4.1) fun v5 => cnd v5 (some (((.c (.sl p4.2.length 0 0 1))), (p4.2 ++ [some (Row.mk ([]) true)]))) (bnd (abin .mul (.c (.i .i64 32)) a1) fun v6 => bnd (S_escheatref01_Cut [a0, v6, .c (.i .i64 32)] p4.2) fun p7 => some (p7.1, p7.2)) := by kernel_rfl
theorem chk_escheatref17_Raw : chkFn Try.prog Try.f164 A_escheatref17_Raw = true := by kernel_rfl
theorem E_escheatref17_Raw_sound : Sound Try.prog E_escheatref17_Raw := by
  intro f args h v h2 he
  unfold E_escheatref17_Raw at he
  cases hb0 : Nat.beq f 85 with
  | true => rw [hb0] at he; have e := Nat.eq_of_beq_eq_true hb0; subst e; exact S_escheatref01_Cut_ok args h v h2 he
  | false =>
    rw [hb0] at he; simp only [cond_false] at he
    cases he

theorem R_escheatref17_Raw_ok {n : Nat} {args : List Val} {h h2 : Heap} {v : Val} (he : R_escheatref17_Raw n args h = some (v, h2)) : Callable Try.prog 164 ∧ CallOk Try.prog 164 args h v h2 ∧ h.length ≤ h2.length := fn_ok E_escheatref17_Raw_sound Try.func164 chk_escheatref17_Raw ((R_escheatref17_Raw_run ..).trans he)
theorem L_escheatref17_Raw_ok (args : List Val) (h : Heap) (v : Val) (h2 : Heap) (he : Lim A_escheatref17_Raw E_escheatref17_Raw args h = some (v, h2)) : Callable Try.prog 164 ∧ CallOk Try.prog 164 args h v h2 ∧ h.length ≤ h2.length := (Lim_run he).elim fun _ e => R_escheatref17_Raw_ok ((R_escheatref17_Raw_run ..).symm.trans e)
theorem L_escheatref17_Raw_of {n : Nat} {args : List Val} {h : Heap} {p : Val × Heap} (he : R_escheatref17_Raw n args h = some p) : Lim A_escheatref17_Raw E_escheatref17_Raw args h = some p := Lim_of ((R_escheatref17_Raw_run ..).trans he)
noncomputable def S_escheatref17_Raw : List Val → Heap → Option (Val × Heap) := tidy (Lim A_escheatref17_Raw E_escheatref17_Raw)
theorem S_escheatref17_Raw_ok (args : List Val) (h : Heap) (v : Val) (h2 : Heap) (he : S_escheatref17_Raw args h = some (v, h2)) : Callable Try.prog 164 ∧ CallOk Try.prog 164 args h v h2 ∧ h.length ≤ h2.length := tidy_ok L_escheatref17_Raw_ok args h v h2 he
theorem S_escheatref17_Raw_flat {n : Nat} {args : List Val} {h h2 : Heap} {v : Val} (he : R_escheatref17_Raw n args (ro h) = some (v, h2)) (hf : v.flat = true) : S_escheatref17_Raw args h = some (v, h) := tidy_flat (L_escheatref17_Raw_of he) hf
theorem S_escheatref17_Raw_low {n : Nat} {args : List Val} {h h2 : Heap} {v : Val} (he : R_escheatref17_Raw n args (ro h) = some (v, h2)) (hf : v.low h.length = true) : S_escheatref17_Raw args h = some (v, h) := tidy_low (L_escheatref17_Raw_of he) hf
theorem S_escheatref17_Raw_out {n : Nat} {args : List Val} {h h2 : Heap} {v : Val} {sz k : Nat} {cs : List Cell} (he : R_escheatref17_Raw n args (ro h) = some (v, h2)) (ho : Out h.length h2 v sz k cs) (hf : flats cs = true) : S_escheatref17_Raw args h = some (.c (.sl h.length 0 k sz), h ++ [some ⟨cs, true⟩]) := tidy_out (L_escheatref17_Raw_of he) ho hf
theorem S_escheatref17_Raw_tidy {n : Nat} {args : List Val} {h h2 : Heap} {v v2 : Val} {ids : List Nat} (he : R_escheatref17_Raw n args (ro h) = some (v, h2)) (hc : canonV h2 h.length v = some (v2, ids)) : S_escheatref17_Raw args h = some (v2, h ++ ids.map (rd h2)) := tidy_of (L_escheatref17_Raw_of he) hc
def escheatref17_Get_c0 : ACode := .ops [{ dst := some 4, op := .alloc ([.i .i64 0, .i .i64 0, .i .i64 0, .i .i64 0, .i .i64 0, .i .i64 0, .i .i64 0, .i .i64 0, .i .i64 0, .i .i64 0, .i .i64 0]) }, { dst := some 5, op := .mv (.v (.c (.b false))) }]
def escheatref17_Get_c1 : ACode := .ops [{ dst := some 6, op := .mv (.t 1) }, { dst := some 7, op := .bin .lss (.t 6) (.v (.c (.i .i64 0))) }, { dst := some 8, op := .mv (.t 7) }, { dst := some 9, op := .mv (.t 1), guard := some (8, false) }, { dst := some 10, op := .bin .gtr (.t 9) (.v (.c (.i .i64 7))), guard := some (8, false) }, { dst := some 11, op := .pick (.t 8) (.v (.c (.b true))) (.t 10) }]
def escheatref17_Get_c2 : ACode := .ops [{ dst := some 12, op := .build ([.i .i64 0, .i .i64 0, .i .i64 0, .i .i64 0, .i .i64 0, .i .i64 0, .i .i64 0, .i .i64 0, .i .i64 0, .i .i64 0, .i .i64 0]) [] }, { dst := none, op := .storeN 11 (.t 4) (.t 12) }, { dst := some 5, op := .mv (.v (.c (.b false))) }]
def escheatref17_Get_c3 : ACode := .seq [4, 5] escheatref17_Get_c2 .ret
def escheatref17_Get_c4 : ACode := .cond (.t 11) escheatref17_Get_c3 .skip
def escheatref17_Get_c5 : ACode := .seq [0, 1, 4, 11] escheatref17_Get_c1 escheatref17_Get_c4
def escheatref17_Get_c6 : ACode := .ops [{ dst := some 13, op := .mv (.t 0) }, { dst := some 14, op := .mv (.t 1) }, { dst := some 15, op := .call 164 [(.t 13), (.t 14)] }, { dst := some 16, op := .call 113 [(.t 15)] }, { dst := some 17, op := .ext (.t 16) 0 }, { dst := some 18, op := .ext (.t 16) 1 }, { dst := none, op := .storeN 11 (.t 4) (.t 17) }, { dst := some 5, op := .mv (.t 18) }]
def escheatref17_Get_c7 : ACode := .seq [4, 5] escheatref17_Get_c6 .ret
def escheatref17_Get_c8 : ACode := .seq [0, 1, 4] escheatref17_Get_c5 escheatref17_Get_c7
def escheatref17_Get_c9 : ACode := .seq [0, 1, 4] escheatref17_Get_c0 escheatref17_Get_c8
def A_escheatref17_Get : AFn := ⟨escheatref17_Get_c9, [.cellN 4 11, .tmp 5]⟩
noncomputable def E_escheatref17_Get : Sums := fun f args h => bif Nat.beq f 164 then S_escheatref17_Raw args h else bif Nat.beq f 113 then S_escheatref16_Clean args h else none
noncomputable def escheatref17_Get_c0_d (n : Nat) : Sm (Val × Heap) := smOps E_escheatref17_Get [{ dst := some 4, op := .alloc ([.i .i64 0, .i .i64 0, .i .i64 0, .i .i64 0, .i .i64 0, .i .i64 0, .i .i64 0, .i .i64 0, .i .i64 0, .i .i64 0, .i .i64 0]) }, { dst := some 5, op := .mv (.v (.c (.b false))) }]
noncomputable def escheatref17_Get_c1_d (n : Nat) : Sm (Val × Heap) := smOps E_escheatref17_Get [{ dst := some 6, op := .mv (.t 1) }, { dst := some 7, op := .bin .lss (.t 6) (.v (.c (.i .i64 0))) }, { dst := some 8, op := .mv (.t 7) }, { dst := some 9, op := .mv (.t 1), guard := some (8, false) }, { dst := some 10, op := .bin .gtr (.t 9) (.v (.c (.i .i64 7))), guard := some (8, false) }, { dst := some 11, op := .pick (.t 8) (.v (.c (.b true))) (.t 10) }]
noncomputable def escheatref17_Get_c2_d (n : Nat) : Sm (Val × Heap) := smOps E_escheatref17_Get [{ dst := some 12, op := .build ([.i .i64 0, .i .i64 0, .i .i64 0, .i .i64 0, .i .i64 0, .i .i64 0, .i .i64 0, .i .i64 0, .i .i64 0, .i .i64 0, .i .i64 0]) [] }, { dst := none, op := .storeN 11 (.t 4) (.t 12) }, { dst := some 5, op := .mv (.v (.c (.b false))) }]
noncomputable def escheatref17_Get_c3_d (n : Nat) : Sm (Val × Heap) := smSeq [4, 5] (escheatref17_Get_c2_d n) smRet
noncomputable def escheatref17_Get_c4_d (n : Nat) : Sm (Val × Heap) := smCond (.t 11) (escheatref17_Get_c3_d n) smSkip
noncomputable def escheatref17_Get_c5_d (n : Nat) : Sm (Val × Heap) := smSeq [0, 1, 4, 11] (escheatref17_Get_c1_d n) (escheatref17_Get_c4_d n)
noncomputable def escheatref17_Get_c6_d (n : Nat) : Sm (Val × Heap) := smOps E_escheatref17_Get [{ dst := some 13, op := .mv (.t 0) }, { dst := some 14, op := .mv (.t 1) }, { dst := some 15, op := .call 164 [(.t 13), (.t 14)] }, { dst := some 16, op := .call 113 [(.t 15)] }, { dst := some 17, op := .ext (.t 16) 0 }, { dst := some 18, op := .ext (.t 16) 1 }, { dst := none, op := .storeN 11 (.t 4) (.t 17) }, { dst := some 5, op := .mv (.t 18) }]
noncomputable def escheatref17_Get_c7_d (n : Nat) : Sm (Val × Heap) := smSeq [4, 5] (escheatref17_Get_c6_d n) smRet
noncomputable def escheatref17_Get_c8_d (n : Nat) : Sm (Val × Heap) := smSeq [0, 1, 4] (escheatref17_Get_c5_d n) (escheatref17_Get_c7_d n)
noncomputable def escheatref17_Get_c9_d (n : Nat) : Sm (Val × Heap) := smSeq [0, 1, 4] (escheatref17_Get_c0_d n) (escheatref17_Get_c8_d n)
noncomputable def R_escheatref17_Get (n : Nat) (args : List Val) (h : Heap) : Option (Val × Heap) := (escheatref17_Get_c9_d n) A_escheatref17_Get.fin (params 0 args) h
theorem R_escheatref17_Get_run (n : Nat) (args : List Val) (h : Heap) : A_escheatref17_Get.run E_escheatref17_Get n args h = R_escheatref17_Get n args h := by kernel_rfl
theorem R_escheatref17_Get_eq (n : Nat) (a0 a1 : Val) (h : Heap) : R_escheatref17_Get n [a0, a1] h = bnd (abin .lss a1 (.c (.i .i64 0))) fun v1 => bnd (gd v1 false (some (a1, (h ++ [some (Row.mk ([.i .i64 0, .i .i64 0, .i .i64 0, .i .i64 0, .i .i64 0, .i .i64 0, .i .i64 0, .i .i64 0, .i .i64 0, .i .i64 0, .i .i64 0]) true)]))) (some (.no, (h ++ [some (Row.mk ([.i .i64 0, .i .i64 0, .i .i64 0, .i .i64 0, .i .i64 0, .i .i64 0, .i .i64 0, .i .i64 0, .i .i64 0, .i .i64 0, .i .i64 0]) true)])))) fun p2 => bnd (gd v1 false (bnd (abin .gtr p2.1 (.c (.i .i64 7))) fun v3 => some (v3, p2.2)) (some (.no, p2.2))) fun p4 => bnd (apick v1 (.c (.b true)) p4.1) fun v5 => cnd v5 (bnd (afill ([.i .i64 0, .i .i64 0, .i .i64 0, .i .i64 0, .i .i64 0, .i .i64 0, .i .i64 0, .i .i64 0, .i .i64 0, .i .i64 0, .i .i64 0]) []) fun c6 => bnd (astoreN p4.2 11 ((.c (.p h.length 0))) ((.a c6))) fun h7 => tupN [aloadN h7 11 ((.c (.p h.length 0))), some (.c (.b false))] h7) (bnd (S_escheatref17_Raw [a0, a1] p4.2) fun p8 => bnd (S_escheatref16_Clean [p8.1] p8.2) fun p9 => bnd (aext p9.1 0) fun v10 => bnd (aext p9.1 1) fun v11 => bnd (astoreN p9.2 11 ((.c (.p h.length 0))) v10) fun h12 => tupN [aloadN h12 11 ((.c (.p h.length 0))), some v11] h12) := by kernel_rfl
theorem chk_escheatref17_Get : chkFn Try.prog Try.f163 A_escheatref17_Get = true := by kernel_rfl
theorem E_escheatref17_Get_sound : Sound Try.prog E_escheatref17_Get := by
  intro f args h v h2 he
  unfold E_escheatref17_Get at he
  cases hb0 : Nat.beq f 164 with
  | true => rw [hb0] at he; have e := Nat.eq_of_beq_eq_true hb0; subst e; exact S_escheatref17_Raw_ok args h v h2 he
  | false =>
    rw [hb0] at he; simp only [cond_false] at he
    cases hb1 : Nat.beq f 113 with
    | true => rw [hb1] at he; have e := Nat.eq_of_beq_eq_true hb1; subst e; exact S_escheatref16_Clean_ok args h v h2 he
    | false =>
      rw [hb1] at he; simp only [cond_false] at he
      cases he

theorem R_escheatref17_Get_ok {n : Nat} {args : List Val} {h h2 : Heap} {v : Val} (he : R_escheatref17_Get n args h = some (v, h2)) : Callable Try.prog 163 ∧ CallOk Try.prog 163 args h v h2 ∧ h.length ≤ h2.length := fn_ok E_escheatref17_Get_sound Try.func163 chk_escheatref17_Get ((R_escheatref17_Get_run ..).trans he)
theorem L_escheatref17_Get_ok (args : List Val) (h : Heap) (v : Val) (h2 : Heap) (he : Lim A_escheatref17_Get E_escheatref17_Get args h = some (v, h2)) : Callable Try.prog 163 ∧ CallOk Try.prog 163 args h v h2 ∧ h.length ≤ h2.length := (Lim_run he).elim fun _ e => R_escheatref17_Get_ok ((R_escheatref17_Get_run ..).symm.trans e)
theorem L_escheatref17_Get_of {n : Nat} {args : List Val} {h : Heap} {p : Val × Heap} (he : R_escheatref17_Get n args h = some p) : Lim A_escheatref17_Get E_escheatref17_Get args h = some p := Lim_of ((R_escheatref17_Get_run ..).trans he)
noncomputable def S_escheatref17_Get : List Val → Heap → Option (Val × Heap) := tidy (Lim A_escheatref17_Get E_escheatref17_Get)
theorem S_escheatref17_Get_ok (args : List Val) (h : Heap) (v : Val) (h2 : Heap) (he : S_escheatref17_Get args h = some (v, h2)) : Callable Try.prog 163 ∧ CallOk Try.prog 163 args h v h2 ∧ h.length ≤ h2.length := tidy_ok L_escheatref17_Get_ok args h v h2 he
theorem S_escheatref17_Get_flat {n : Nat} {args : List Val} {h h2 : Heap} {v : Val} (he : R_escheatref17_Get n args (ro h) = some (v, h2)) (hf : v.flat = true) : S_escheatref17_Get args h = some (v, h) := tidy_flat (L_escheatref17_Get_of he) hf
theorem S_escheatref17_Get_low {n : Nat} {args : List Val} {h h2 : Heap} {v : Val} (he : R_escheatref17_Get n args (ro h) = some (v, h2)) (hf : v.low h.length = true) : S_escheatref17_Get args h = some (v, h) := tidy_low (L_escheatref17_Get_of he) hf
theorem S_escheatref17_Get_out {n : Nat} {args : List Val} {h h2 : Heap} {v : Val} {sz k : Nat} {cs : List Cell} (he : R_escheatref17_Get n args (ro h) = some (v, h2)) (ho : Out h.length h2 v sz k cs) (hf : flats cs = true) : S_escheatref17_Get args h = some (.c (.sl h.length 0 k sz), h ++ [some ⟨cs, true⟩]) := tidy_out (L_escheatref17_Get_of he) ho hf
theorem S_escheatref17_Get_tidy {n : Nat} {args : List Val} {h h2 : Heap} {v v2 : Val} {ids : List Nat} (he : R_escheatref17_Get n args (ro h) = some (v, h2)) (hc : canonV h2 h.length v = some (v2, ids)) : S_escheatref17_Get args h = some (v2, h ++ ids.map (rd h2)) := tidy_of (L_escheatref17_Get_of he) hc
def escheatref17_Nought_c0 : ACode := .ops [{ dst := some 4, op := .mv (.v (.c (.b false))) }]
def escheatref17_Nought_c1 : ACode := .draw 1 [{ dst := some 5, op := .mv (.t 0) }, { dst := some 6, op := .mv (.t 1) }, { dst := some 7, op := .call 164 [(.t 5), (.t 6)] }, { dst := some 8, op := .mkSl 1 ([.i .u8 0]) (.v (.c (.i .i64 32))) (.v (.c (.i .i64 32))), slot := some 0 }] [{ dst := some 9, op := .call 47 [(.t 7), (.t 8)] }, { dst := some 4, op := .mv (.t 9) }]
def escheatref17_Nought_c2 : ACode := .seq [4] escheatref17_Nought_c1 .ret
def escheatref17_Nought_c3 : ACode := .seq [0, 1] escheatref17_Nought_c0 escheatref17_Nought_c2
def A_escheatref17_Nought : AFn := ⟨escheatref17_Nought_c3, [.tmp 4]⟩
noncomputable def E_escheatref17_Nought : Sums := fun f args h => bif Nat.beq f 164 then S_escheatref17_Raw args h else bif Nat.beq f 47 then S_escheatref01_Same args h else none
noncomputable def escheatref17_Nought_c0_d (n : Nat) : Sm (Val × Heap) := smOps E_escheatref17_Nought [{ dst := some 4, op := .mv (.v (.c (.b false))) }]
noncomputable def escheatref17_Nought_c1_d (n : Nat) : Sm (Val × Heap) := smDraw E_escheatref17_Nought 1 [{ dst := some 5, op := .mv (.t 0) }, { dst := some 6, op := .mv (.t 1) }, { dst := some 7, op := .call 164 [(.t 5), (.t 6)] }, { dst := some 8, op := .mkSl 1 ([.i .u8 0]) (.v (.c (.i .i64 32))) (.v (.c (.i .i64 32))), slot := some 0 }] [{ dst := some 9, op := .call 47 [(.t 7), (.t 8)] }, { dst := some 4, op := .mv (.t 9) }]
noncomputable def escheatref17_Nought_c2_d (n : Nat) : Sm (Val × Heap) := smSeq [4] (escheatref17_Nought_c1_d n) smRet
noncomputable def escheatref17_Nought_c3_d (n : Nat) : Sm (Val × Heap) := smSeq [0, 1] (escheatref17_Nought_c0_d n) (escheatref17_Nought_c2_d n)
noncomputable def R_escheatref17_Nought (n : Nat) (args : List Val) (h : Heap) : Option (Val × Heap) := (escheatref17_Nought_c3_d n) A_escheatref17_Nought.fin (params 0 args) h
theorem R_escheatref17_Nought_run (n : Nat) (args : List Val) (h : Heap) : A_escheatref17_Nought.run E_escheatref17_Nought n args h = R_escheatref17_Nought n args h := by kernel_rfl
theorem R_escheatref17_Nought_eq (n : Nat) (a0 a1 : Val) (h : Heap) : R_escheatref17_Nought n [a0, a1] h = bnd (quiet ((h ++ [none])) (S_escheatref17_Raw [a0, a1] ((h ++ [none])))) fun p1 => bnd (amkn (.c (.i .i64 32)) (.c (.i .i64 32))) fun n2 => bnd (S_escheatref01_Same [p1.1, (.c (.sl (h.length + 0) 0 n2 1))] ((p1.2.set (h.length + 0) (some (Row.mk (rows ([.i .u8 0]) n2) true))))) fun p3 => some (p3.1, p3.2) := by kernel_rfl
theorem chk_escheatref17_Nought : chkFn Try.prog Try.f165 A_escheatref17_Nought = true := by kernel_rfl
theorem E_escheatref17_Nought_sound : Sound Try.prog E_escheatref17_Nought := by
  intro f args h v h2 he
  unfold E_escheatref17_Nought at he
  cases hb0 : Nat.beq f 164 with
  | true => rw [hb0] at he; have e := Nat.eq_of_beq_eq_true hb0; subst e; exact S_escheatref17_Raw_ok args h v h2 he
  | false =>
    rw [hb0] at he; simp only [cond_false] at he
    cases hb1 : Nat.beq f 47 with
    | true => rw [hb1] at he; have e := Nat.eq_of_beq_eq_true hb1; subst e; exact S_escheatref01_Same_ok args h v h2 he
    | false =>
      rw [hb1] at he; simp only [cond_false] at he
      cases he

theorem R_escheatref17_Nought_ok {n : Nat} {args : List Val} {h h2 : Heap} {v : Val} (he : R_escheatref17_Nought n args h = some (v, h2)) : Callable Try.prog 165 ∧ CallOk Try.prog 165 args h v h2 ∧ h.length ≤ h2.length := fn_ok E_escheatref17_Nought_sound Try.func165 chk_escheatref17_Nought ((R_escheatref17_Nought_run ..).trans he)
theorem L_escheatref17_Nought_ok (args : List Val) (h : Heap) (v : Val) (h2 : Heap) (he : Lim A_escheatref17_Nought E_escheatref17_Nought args h = some (v, h2)) : Callable Try.prog 165 ∧ CallOk Try.prog 165 args h v h2 ∧ h.length ≤ h2.length := (Lim_run he).elim fun _ e => R_escheatref17_Nought_ok ((R_escheatref17_Nought_run ..).symm.trans e)
theorem L_escheatref17_Nought_of {n : Nat} {args : List Val} {h : Heap} {p : Val × Heap} (he : R_escheatref17_Nought n args h = some p) : Lim A_escheatref17_Nought E_escheatref17_Nought args h = some p := Lim_of ((R_escheatref17_Nought_run ..).trans he)
noncomputable def S_escheatref17_Nought : List Val → Heap → Option (Val × Heap) := tidy (Lim A_escheatref17_Nought E_escheatref17_Nought)
theorem S_escheatref17_Nought_ok (args : List Val) (h : Heap) (v : Val) (h2 : Heap) (he : S_escheatref17_Nought args h = some (v, h2)) : Callable Try.prog 165 ∧ CallOk Try.prog 165 args h v h2 ∧ h.length ≤ h2.length := tidy_ok L_escheatref17_Nought_ok args h v h2 he
theorem S_escheatref17_Nought_flat {n : Nat} {args : List Val} {h h2 : Heap} {v : Val} (he : R_escheatref17_Nought n args (ro h) = some (v, h2)) (hf : v.flat = true) : S_escheatref17_Nought args h = some (v, h) := tidy_flat (L_escheatref17_Nought_of he) hf
theorem S_escheatref17_Nought_low {n : Nat} {args : List Val} {h h2 : Heap} {v : Val} (he : R_escheatref17_Nought n args (ro h) = some (v, h2)) (hf : v.low h.length = true) : S_escheatref17_Nought args h = some (v, h) := tidy_low (L_escheatref17_Nought_of he) hf
theorem S_escheatref17_Nought_out {n : Nat} {args : List Val} {h h2 : Heap} {v : Val} {sz k : Nat} {cs : List Cell} (he : R_escheatref17_Nought n args (ro h) = some (v, h2)) (ho : Out h.length h2 v sz k cs) (hf : flats cs = true) : S_escheatref17_Nought args h = some (.c (.sl h.length 0 k sz), h ++ [some ⟨cs, true⟩]) := tidy_out (L_escheatref17_Nought_of he) ho hf
theorem S_escheatref17_Nought_tidy {n : Nat} {args : List Val} {h h2 : Heap} {v v2 : Val} {ids : List Nat} (he : R_escheatref17_Nought n args (ro h) = some (v, h2)) (hc : canonV h2 h.length v = some (v2, ids)) : S_escheatref17_Nought args h = some (v2, h ++ ids.map (rd h2)) := tidy_of (L_escheatref17_Nought_of he) hc
end Go.Proofs.Ytbbkpmbepljhkaa
