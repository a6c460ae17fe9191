/- Escheatref15: the Go functions of this package as the abstract evaluator computes them: printed by a program, checked by Lean. -/
import Derived.Test.YtbbkpmbepljhkaaEscS
import Derived.Test.YtbbkpmbepljhkaaChecked
import Derived.KernelRfl
import Derived.Test.YtbbkpmbepljhkaaGEscheatref14
namespace Go.Proofs.Ytbbkpmbepljhkaa
open Go Go.Esc
set_option maxRecDepth 100000
set_option linter.all false
def escheatref15_Is_c0 : ACode := .ops [{ dst := some 2, op := .box (.t 0) }, { dst := some 4, op := .mv (.v (.c (.b false))) }]
def escheatref15_Is_c1 : ACode := .ops [{ dst := some 5, op := .loadN 3 (.t 2) }, { dst := some 6, op := .call 80 [(.t 5)] }, { dst := some 7, op := .mv (.t 6) }, { dst := some 8, op := .mv (.t 1), guard := some (7, true) }, { dst := some 9, op := .bin .geq (.t 8) (.v (.c (.i .i64 1))), guard := some (7, true) }, { dst := some 10, op := .pick (.t 7) (.t 9) (.v (.c (.b false))) }, { dst := some 11, op := .mv (.t 10) }, { dst := some 12, op := .mv (.t 1), guard := some (11, true) }, { dst := some 13, op := .fAddr (.t 2) 1, guard := some (11, true) }, { dst := some 14, op := .load1 (.t 13), guard := some (11, true) }, { dst := some 15, op := .bin .leq (.t 12) (.t 14), guard := some (11, true) }, { dst := some 16, op := .pick (.t 11) (.t 15) (.v (.c (.b false))) }, { dst := some 4, op := .mv (.t 16) }]
def escheatref15_Is_c2 : ACode := .seq [4] escheatref15_Is_c1 .ret
def escheatref15_Is_c3 : ACode := .seq [1, 2] escheatref15_Is_c0 escheatref15_Is_c2
def A_escheatref15_Is : AFn := ⟨escheatref15_Is_c3, [.tmp 4]⟩
noncomputable def E_escheatref15_Is : Sums := fun f args h => bif Nat.beq f 80 then S_escheatref14_May args h else none
noncomputable def escheatref15_Is_c0_d (n : Nat) : Sm (Val × Heap) := smOps E_escheatref15_Is [{ dst := some 2, op := .box (.t 0) }, { dst := some 4, op := .mv (.v (.c (.b false))) }]
noncomputable def escheatref15_Is_c1_d (n : Nat) : Sm (Val × Heap) := smOps E_escheatref15_Is [{ dst := some 5, op := .loadN 3 (.t 2) }, { dst := some 6, op := .call 80 [(.t 5)] }, { dst := some 7, op := .mv (.t 6) }, { dst := some 8, op := .mv (.t 1), guard := some (7, true) }, { dst := some 9, op := .bin .geq (.t 8) (.v (.c (.i .i64 1))), guard := some (7, true) }, { dst := some 10, op := .pick (.t 7) (.t 9) (.v (.c (.b false))) }, { dst := some 11, op := .mv (.t 10) }, { dst := some 12, op := .mv (.t 1), guard := some (11, true) }, { dst := some 13, op := .fAddr (.t 2) 1, guard := some (11, true) }, { dst := some 14, op := .load1 (.t 13), guard := some (11, true) }, { dst := some 15, op := .bin .leq (.t 12) (.t 14), guard := some (11, true) }, { dst := some 16, op := .pick (.t 11) (.t 15) (.v (.c (.b false))) }, { dst := some 4, op := .mv (.t 16) }]
noncomputable def escheatref15_Is_c2_d (n : Nat) : Sm (Val × Heap) := smSeq [4] (escheatref15_Is_c1_d n) smRet
noncomputable def escheatref15_Is_c3_d (n : Nat) : Sm (Val × Heap) := smSeq [1, 2] (escheatref15_Is_c0_d n) (escheatref15_Is_c2_d n)
noncomputable def R_escheatref15_Is (n : Nat) (args : List Val) (h : Heap) : Option (Val × Heap) := (escheatref15_Is_c3_d n) A_escheatref15_Is.fin (params 0 args) h
theorem R_escheatref15_Is_run (n : Nat) (args : List Val) (h : Heap) : A_escheatref15_Is.run E_escheatref15_Is n args h = R_escheatref15_Is n args h := by kernel_rfl
theorem R_escheatref15_Is_eq (n : Nat) (a0 a1 : Val) (h : Heap) : R_escheatref15_Is n [a0, a1] h = bnd (cells? a0) fun c1 => bnd (aloadN ((h ++ [some (Row.mk (c1) true)])) 3 ((.c (.p h.length 0)))) fun v2 => bnd (S_escheatref14_May [v2] ((h ++ [some (Row.mk (c1) true)]))) fun p3 => bnd (gd p3.1 true (some (a1, p3.2)) (some (.no, p3.2))) fun p4 => bnd (gd p3.1 true (bnd (abin .geq p4.1 (.c (.i .i64 1))) fun v5 => some (v5, p4.2)) (some (.no, p4.2))) fun p6 => bnd (apick p3.1 p6.1 (.c (.b false))) fun v7 => bnd (gd v7 true (some (a1, p6.2)) (some (.no, p6.2))) fun p8 => bnd (gd v7 true (bnd (afAddr ((.c (.p h.length 0))) 1) fun v9 => some (v9, p8.2)) (some (.no, p8.2))) fun p10 => bnd (gd v7 true (bnd (aload1 p10.2 p10.1) fun v11 => some (v11, p10.2)) (some (.no, p10.2))) fun p12 => bnd (gd v7 true (bnd (abin .leq p8.1 p12.1) fun v13 => some (v13, p12.2)) (some (.no, p12.2))) fun p14 => bnd (apick v7 p14.1 (.c (.b false))) fun v15 => some (v15, p14.2) := by kernel_rfl
theorem chk_escheatref15_Is : chkFn Try.prog Try.f54 A_escheatref15_Is = true := by kernel_rfl
theorem E_escheatref15_Is_sound : Sound Try.prog E_escheatref15_Is := by
  intro f args h v h2 he
  unfold E_escheatref15_Is at he
  cases hb0 : Nat.beq f 80 with
  | true => rw [hb0] at he; have e := Nat.eq_of_beq_eq_true hb0; subst e; exact S_escheatref14_May_ok args h v h2 he
  | false =>
    rw [hb0] at he; simp only [cond_false] at he
    cases he

theorem R_escheatref15_Is_ok {n : Nat} {args : List Val} {h h2 : Heap} {v : Val} (he : R_escheatref15_Is n args h = some (v, h2)) : Callable Try.prog 54 ∧ CallOk Try.prog 54 args h v h2 ∧ h.length ≤ h2.length := fn_ok E_escheatref15_Is_sound Try.func54 chk_escheatref15_Is ((R_escheatref15_Is_run ..).trans he)
theorem L_escheatref15_Is_ok (args : List Val) (h : Heap) (v : Val) (h2 : Heap) (he : Lim A_escheatref15_Is E_escheatref15_Is args h = some (v, h2)) : Callable Try.prog 54 ∧ CallOk Try.prog 54 args h v h2 ∧ h.length ≤ h2.length := (Lim_run he).elim fun _ e => R_escheatref15_Is_ok ((R_escheatref15_Is_run ..).symm.trans e)
theorem L_escheatref15_Is_of {n : Nat} {args : List Val} {h : Heap} {p : Val × Heap} (he : R_escheatref15_Is n args h = some p) : Lim A_escheatref15_Is E_escheatref15_Is args h = some p := Lim_of ((R_escheatref15_Is_run ..).trans he)
noncomputable def S_escheatref15_Is : List Val → Heap → Option (Val × Heap) := tidy (Lim A_escheatref15_Is E_escheatref15_Is)
theorem S_escheatref15_Is_ok (args : List Val) (h : Heap) (v : Val) (h2 : Heap) (he : S_escheatref15_Is args h = some (v, h2)) : Callable Try.prog 54 ∧ CallOk Try.prog 54 args h v h2 ∧ h.length ≤ h2.length := tidy_ok L_escheatref15_Is_ok args h v h2 he
theorem S_escheatref15_Is_flat {n : Nat} {args : List Val} {h h2 : Heap} {v : Val} (he : R_escheatref15_Is n args (ro h) = some (v, h2)) (hf : v.flat = true) : S_escheatref15_Is args h = some (v, h) := tidy_flat (L_escheatref15_Is_of he) hf
theorem S_escheatref15_Is_low {n : Nat} {args : List Val} {h h2 : Heap} {v : Val} (he : R_escheatref15_Is n args (ro h) = some (v, h2)) (hf : v.low h.length = true) : S_escheatref15_Is args h = some (v, h) := tidy_low (L_escheatref15_Is_of he) hf
theorem S_escheatref15_Is_out {n : Nat} {args : List Val} {h h2 : Heap} {v : Val} {sz k : Nat} {cs : List Cell} (he : R_escheatref15_Is n args (ro h) = some (v, h2)) (ho : Out h.length h2 v sz k cs) (hf : flats cs = true) : S_escheatref15_Is args h = some (.c (.sl h.length 0 k sz), h ++ [some ⟨cs, true⟩]) := tidy_out (L_escheatref15_Is_of he) ho hf
theorem S_escheatref15_Is_tidy {n : Nat} {args : List Val} {h h2 : Heap} {v v2 : Val} {ids : List Nat} (he : R_escheatref15_Is n args (ro h) = some (v, h2)) (hc : canonV h2 h.length v = some (v2, ids)) : S_escheatref15_Is args h = some (v2, h ++ ids.map (rd h2)) := tidy_of (L_escheatref15_Is_of he) hc
def escheatref15_Where_c0 : ACode := .ops [{ dst := some 2, op := .box (.t 0) }, { dst := some 4, op := .mv (.v (.c (.i .i64 0))) }, { dst := some 5, op := .mv (.v (.c (.i .i64 0))) }, { dst := some 6, op := .mv (.v (.c (.b false))) }]
def escheatref15_Where_c1 : ACode := .ops [{ dst := some 10, op := .loadN 3 (.t 2) }, { dst := some 11, op := .mv (.t 1) }, { dst := some 12, op := .call 54 [(.t 10), (.t 11)] }, { dst := some 13, op := .un .not (.t 12) }]
def escheatref15_Where_c2 : ACode := .ops [{ dst := some 4, op := .mv (.v (.c (.i .i64 0))) }, { dst := some 5, op := .mv (.v (.c (.i .i64 0))) }, { dst := some 6, op := .mv (.v (.c (.b false))) }]
def escheatref15_Where_c3 : ACode := .seq [4, 5, 6] escheatref15_Where_c2 .ret
def escheatref15_Where_c4 : ACode := .cond (.t 13) escheatref15_Where_c3 .skip
def escheatref15_Where_c5 : ACode := .seq [1, 13] escheatref15_Where_c1 escheatref15_Where_c4
def escheatref15_Where_c6 : ACode := .ops [{ dst := some 7, op := .mv (.v (.c (.i .i64 2))) }, { dst := some 8, op := .mv (.v (.c (.i .i64 0))) }]
def escheatref15_Where_c7 : ACode := .ops [{ dst := some 9, op := .mv (.v (.c (.i .i64 1))) }]
def escheatref15_Where_c8 : ACode := .ops [{ dst := some 14, op := .mv (.t 9) }, { dst := some 15, op := .mv (.t 1) }, { dst := some 16, op := .bin .lss (.t 14) (.t 15) }]
def escheatref15_Where_c9 : ACode := .cond (.t 16) .skip (.exit 0)
def escheatref15_Where_c10 : ACode := .seq [1, 7, 8, 9, 16] escheatref15_Where_c8 escheatref15_Where_c9
def escheatref15_Where_c11 : ACode := .ops [{ dst := some 19, op := .mv (.t 8) }, { dst := some 20, op := .bin .add (.t 19) (.v (.c (.i .i64 1))) }, { dst := some 8, op := .mv (.t 20) }]
def escheatref15_Where_c12 : ACode := .ops [{ dst := some 21, op := .mv (.t 8) }, { dst := some 22, op := .bin .eql (.t 21) (.v (.c (.i .i64 8))) }]
def escheatref15_Where_c13 : ACode := .ops [{ dst := some 23, op := .mv (.t 7) }, { dst := some 24, op := .bin .add (.t 23) (.v (.c (.i .i64 1))) }, { dst := some 7, op := .mv (.t 24) }, { dst := some 8, op := .mv (.v (.c (.i .i64 0))) }]
def escheatref15_Where_c14 : ACode := .cond (.t 22) escheatref15_Where_c13 .skip
def escheatref15_Where_c15 : ACode := .seq [1, 7, 8, 9, 22] escheatref15_Where_c12 escheatref15_Where_c14
def escheatref15_Where_c16 : ACode := .seq [1, 7, 8, 9] escheatref15_Where_c11 escheatref15_Where_c15
def escheatref15_Where_c17 : ACode := .block 1 escheatref15_Where_c16
def escheatref15_Where_c18 : ACode := .ops [{ dst := some 17, op := .mv (.t 9) }, { dst := some 18, op := .bin .add (.t 17) (.v (.c (.i .i64 1))) }, { dst := some 9, op := .mv (.t 18) }]
def escheatref15_Where_c19 : ACode := .seq [1, 7, 8, 9] escheatref15_Where_c17 escheatref15_Where_c18
def escheatref15_Where_c20 : ACode := .seq [1, 7, 8, 9] escheatref15_Where_c10 escheatref15_Where_c19
def escheatref15_Where_c21 : ACode := .loop [1, 7, 8, 9] escheatref15_Where_c20
def escheatref15_Where_c22 : ACode := .block 0 escheatref15_Where_c21
def escheatref15_Where_c23 : ACode := .seq [1, 7, 8, 9] escheatref15_Where_c7 escheatref15_Where_c22
def escheatref15_Where_c24 : ACode := .ops [{ dst := some 25, op := .mv (.t 7) }, { dst := some 26, op := .mv (.t 8) }, { dst := some 4, op := .mv (.t 25) }, { dst := some 5, op := .mv (.t 26) }, { dst := some 6, op := .mv (.v (.c (.b true))) }]
def escheatref15_Where_c25 : ACode := .seq [4, 5, 6] escheatref15_Where_c24 .ret
def escheatref15_Where_c26 : ACode := .seq [7, 8] escheatref15_Where_c23 escheatref15_Where_c25
def escheatref15_Where_c27 : ACode := .seq [1, 7, 8] escheatref15_Where_c6 escheatref15_Where_c26
def escheatref15_Where_c28 : ACode := .seq [1] escheatref15_Where_c5 escheatref15_Where_c27
def escheatref15_Where_c29 : ACode := .seq [1, 2] escheatref15_Where_c0 escheatref15_Where_c28
def A_escheatref15_Where : AFn := ⟨escheatref15_Where_c29, [.tmp 4, .tmp 5, .tmp 6]⟩
noncomputable def E_escheatref15_Where : Sums := fun f args h => bif Nat.beq f 54 then S_escheatref15_Is args h else none
noncomputable def escheatref15_Where_c0_d (n : Nat) : Sm (Val × Heap) := smOps E_escheatref15_Where [{ dst := some 2, op := .box (.t 0) }, { dst := some 4, op := .mv (.v (.c (.i .i64 0))) }, { dst := some 5, op := .mv (.v (.c (.i .i64 0))) }, { dst := some 6, op := .mv (.v (.c (.b false))) }]
noncomputable def escheatref15_Where_c1_d (n : Nat) : Sm (Val × Heap) := smOps E_escheatref15_Where [{ dst := some 10, op := .loadN 3 (.t 2) }, { dst := some 11, op := .mv (.t 1) }, { dst := some 12, op := .call 54 [(.t 10), (.t 11)] }, { dst := some 13, op := .un .not (.t 12) }]
noncomputable def escheatref15_Where_c2_d (n : Nat) : Sm (Val × Heap) := smOps E_escheatref15_Where [{ dst := some 4, op := .mv (.v (.c (.i .i64 0))) }, { dst := some 5, op := .mv (.v (.c (.i .i64 0))) }, { dst := some 6, op := .mv (.v (.c (.b false))) }]
noncomputable def escheatref15_Where_c3_d (n : Nat) : Sm (Val × Heap) := smSeq [4, 5, 6] (escheatref15_Where_c2_d n) smRet
noncomputable def escheatref15_Where_c4_d (n : Nat) : Sm (Val × Heap) := smCond (.t 13) (escheatref15_Where_c3_d n) smSkip
noncomputable def escheatref15_Where_c5_d (n : Nat) : Sm (Val × Heap) := smSeq [1, 13] (escheatref15_Where_c1_d n) (escheatref15_Where_c4_d n)
noncomputable def escheatref15_Where_c6_d (n : Nat) : Sm (Val × Heap) := smOps E_escheatref15_Where [{ dst := some 7, op := .mv (.v (.c (.i .i64 2))) }, { dst := some 8, op := .mv (.v (.c (.i .i64 0))) }]
noncomputable def escheatref15_Where_c7_d (n : Nat) : Sm (Val × Heap) := smOps E_escheatref15_Where [{ dst := some 9, op := .mv (.v (.c (.i .i64 1))) }]
noncomputable def escheatref15_Where_c8_d (n : Nat) : Sm (Val × Heap) := smOps E_escheatref15_Where [{ dst := some 14, op := .mv (.t 9) }, { dst := some 15, op := .mv (.t 1) }, { dst := some 16, op := .bin .lss (.t 14) (.t 15) }]
noncomputable def escheatref15_Where_c9_d (n : Nat) : Sm (Val × Heap) := smCond (.t 16) smSkip (smExit 0)
noncomputable def escheatref15_Where_c10_d (n : Nat) : Sm (Val × Heap) := smSeq [1, 7, 8, 9, 16] (escheatref15_Where_c8_d n) (escheatref15_Where_c9_d n)
noncomputable def escheatref15_Where_c11_d (n : Nat) : Sm (Val × Heap) := smOps E_escheatref15_Where [{ dst := some 19, op := .mv (.t 8) }, { dst := some 20, op := .bin .add (.t 19) (.v (.c (.i .i64 1))) }, { dst := some 8, op := .mv (.t 20) }]
noncomputable def escheatref15_Where_c12_d (n : Nat) : Sm (Val × Heap) := smOps E_escheatref15_Where [{ dst := some 21, op := .mv (.t 8) }, { dst := some 22, op := .bin .eql (.t 21) (.v (.c (.i .i64 8))) }]
noncomputable def escheatref15_Where_c13_d (n : Nat) : Sm (Val × Heap) := smOps E_escheatref15_Where [{ dst := some 23, op := .mv (.t 7) }, { dst := some 24, op := .bin .add (.t 23) (.v (.c (.i .i64 1))) }, { dst := some 7, op := .mv (.t 24) }, { dst := some 8, op := .mv (.v (.c (.i .i64 0))) }]
noncomputable def escheatref15_Where_c14_d (n : Nat) : Sm (Val × Heap) := smCond (.t 22) (escheatref15_Where_c13_d n) smSkip
noncomputable def escheatref15_Where_c15_d (n : Nat) : Sm (Val × Heap) := smSeq [1, 7, 8, 9, 22] (escheatref15_Where_c12_d n) (escheatref15_Where_c14_d n)
noncomputable def escheatref15_Where_c16_d (n : Nat) : Sm (Val × Heap) := smSeq [1, 7, 8, 9] (escheatref15_Where_c11_d n) (escheatref15_Where_c15_d n)
noncomputable def escheatref15_Where_c17_d (n : Nat) : Sm (Val × Heap) := smBlock 1 (escheatref15_Where_c16_d n)
noncomputable def escheatref15_Where_c18_d (n : Nat) : Sm (Val × Heap) := smOps E_escheatref15_Where [{ dst := some 17, op := .mv (.t 9) }, { dst := some 18, op := .bin .add (.t 17) (.v (.c (.i .i64 1))) }, { dst := some 9, op := .mv (.t 18) }]
noncomputable def escheatref15_Where_c19_d (n : Nat) : Sm (Val × Heap) := smSeq [1, 7, 8, 9] (escheatref15_Where_c17_d n) (escheatref15_Where_c18_d n)
noncomputable def escheatref15_Where_c20_d (n : Nat) : Sm (Val × Heap) := smSeq [1, 7, 8, 9] (escheatref15_Where_c10_d n) (escheatref15_Where_c19_d n)
noncomputable def escheatref15_Where_c21_d (n : Nat) : Sm (Val × Heap) := smLoop n [1, 7, 8, 9] (escheatref15_Where_c20_d n)
noncomputable def escheatref15_Where_c22_d (n : Nat) : Sm (Val × Heap) := smBlock 0 (escheatref15_Where_c21_d n)
noncomputable def escheatref15_Where_c23_d (n : Nat) : Sm (Val × Heap) := smSeq [1, 7, 8, 9] (escheatref15_Where_c7_d n) (escheatref15_Where_c22_d n)
noncomputable def escheatref15_Where_c24_d (n : Nat) : Sm (Val × Heap) := smOps E_escheatref15_Where [{ dst := some 25, op := .mv (.t 7) }, { dst := some 26, op := .mv (.t 8) }, { dst := some 4, op := .mv (.t 25) }, { dst := some 5, op := .mv (.t 26) }, { dst := some 6, op := .mv (.v (.c (.b true))) }]
noncomputable def escheatref15_Where_c25_d (n : Nat) : Sm (Val × Heap) := smSeq [4, 5, 6] (escheatref15_Where_c24_d n) smRet
noncomputable def escheatref15_Where_c26_d (n : Nat) : Sm (Val × Heap) := smSeq [7, 8] (escheatref15_Where_c23_d n) (escheatref15_Where_c25_d n)
noncomputable def escheatref15_Where_c27_d (n : Nat) : Sm (Val × Heap) := smSeq [1, 7, 8] (escheatref15_Where_c6_d n) (escheatref15_Where_c26_d n)
noncomputable def escheatref15_Where_c28_d (n : Nat) : Sm (Val × Heap) := smSeq [1] (escheatref15_Where_c5_d n) (escheatref15_Where_c27_d n)
noncomputable def escheatref15_Where_c29_d (n : Nat) : Sm (Val × Heap) := smSeq [1, 2] (escheatref15_Where_c0_d n) (escheatref15_Where_c28_d n)
noncomputable def escheatref15_Where_k0 (n : Nat) : AExit → Env → Heap → Option (Val × Heap) := fun x e h => match x with | .normal => hold ((escheatref15_Where_c25_d n) A_escheatref15_Where.fin (e.keep [7, 8]) h) | .exit id => A_escheatref15_Where.fin (.exit id) e h | .ret => A_escheatref15_Where.fin .ret e h
noncomputable def escheatref15_Where_k1 (n : Nat) : AExit → Env → Heap → Option (Val × Heap) := fun x e h => match x with | .exit i => bif Nat.beq i 0 then (escheatref15_Where_k0 n) .normal e h else (escheatref15_Where_k0 n) (.exit i) e h | .normal => (escheatref15_Where_k0 n) .normal e h | .ret => (escheatref15_Where_k0 n) .ret e h
noncomputable def escheatref15_Where_l0 (n m : Nat) (x1 x7 x8 x9 : Val) (h : Heap) : Option (Val × Heap) := around (escheatref15_Where_c20_d n) [1, 7, 8, 9] (escheatref15_Where_k1 n) m [(1, x1), (7, x7), (8, x8), (9, x9)] h
noncomputable def R_escheatref15_Where (n : Nat) (args : List Val) (h : Heap) : Option (Val × Heap) := (escheatref15_Where_c29_d n) A_escheatref15_Where.fin (params 0 args) h
noncomputable def escheatref15_Where_k2 (n m : Nat) : AExit → Env → Heap → Option (Val × Heap) := fun x e h => match x with | .normal => around (escheatref15_Where_c20_d n) [1, 7, 8, 9] (escheatref15_Where_k1 n) m (e.keep [1, 7, 8, 9]) h | .exit id => (escheatref15_Where_k1 n) (.exit id) e h | .ret => (escheatref15_Where_k1 n) .ret e h
noncomputable def escheatref15_Where_j0 (n m : Nat) (x1 x7 x8 x9 : Val) (h : Heap) : Option (Val × Heap) := hold ((escheatref15_Where_c18_d n) (escheatref15_Where_k2 n m) [(1, x1), (7, x7), (8, x8), (9, x9)] h)
theorem R_escheatref15_Where_run (n : Nat) (args : List Val) (h : Heap) : A_escheatref15_Where.run E_escheatref15_Where n args h = R_escheatref15_Where n args h := by kernel_rfl
theorem R_escheatref15_Where_eq (n : Nat) (a0 a1 : Val) (h : Heap) : R_escheatref15_Where n [a0, a1] h = bnd (cells? a0) fun c1 => bnd (aloadN ((h ++ [some (Row.mk (c1) true)])) 3 ((.c (.p h.length 0)))) fun v2 => bnd (S_escheatref15_Is [v2, a1] ((h ++ [some (Row.mk (c1) true)]))) fun p3 => bnd (aun .not p3.1) fun v4 => cnd v4 (tupN [some (.c (.i .i64 0)), some (.c (.i .i64 0)), some (.c (.b false))] p3.2) (escheatref15_Where_l0 n n a1 (.c (.i .i64 2)) (.c (.i .i64 0)) (.c (.i .i64 1)) p3.2) := by kernel_rfl
theorem escheatref15_Where_l0_eq (n m : Nat) (x1 x7 x8 x9 : Val) (h : Heap) : escheatref15_Where_l0 n (m + 1) x1 x7 x8 x9 h = bnd (abin .lss x9 x1) fun v5 => cnd v5 (bnd (abin .add x8 (.c (.i .i64 1))) fun v6 => bnd (abin .eql v6 (.c (.i .i64 8))) fun v7 => cnd v7 (bnd (abin .add x7 (.c (.i .i64 1))) fun v8 => escheatref15_Where_j0 n m x1 v8 (.c (.i .i64 0)) x9 h) (escheatref15_Where_j0 n m x1 x7 v6 x9 h)) (tupN [some x7, some x8, some (.c (.b true))] h) := by kernel_rfl
theorem escheatref15_Where_j0_eq (n m : Nat) (x1 x7 x8 x9 : Val) (h : Heap) : escheatref15_Where_j0 n m x1 x7 x8 x9 h = bnd (abin .add x9 (.c (.i .i64 1))) fun v9 => escheatref15_Where_l0 n m x1 x7 x8 v9 h := by kernel_rfl
theorem chk_escheatref15_Where : chkFn Try.prog Try.f52 A_escheatref15_Where = true := by kernel_rfl
theorem E_escheatref15_Where_sound : Sound Try.prog E_escheatref15_Where := by
  intro f args h v h2 he
  unfold E_escheatref15_Where at he
  cases hb0 : Nat.beq f 54 with
  | true => rw [hb0] at he; have e := Nat.eq_of_beq_eq_true hb0; subst e; exact S_escheatref15_Is_ok args h v h2 he
  | false =>
    rw [hb0] at he; simp only [cond_false] at he
    cases he

theorem R_escheatref15_Where_ok {n : Nat} {args : List Val} {h h2 : Heap} {v : Val} (he : R_escheatref15_Where n args h = some (v, h2)) : Callable Try.prog 52 ∧ CallOk Try.prog 52 args h v h2 ∧ h.length ≤ h2.length := fn_ok E_escheatref15_Where_sound Try.func52 chk_escheatref15_Where ((R_escheatref15_Where_run ..).trans he)
theorem L_escheatref15_Where_ok (args : List Val) (h : Heap) (v : Val) (h2 : Heap) (he : Lim A_escheatref15_Where E_escheatref15_Where args h = some (v, h2)) : Callable Try.prog 52 ∧ CallOk Try.prog 52 args h v h2 ∧ h.length ≤ h2.length := (Lim_run he).elim fun _ e => R_escheatref15_Where_ok ((R_escheatref15_Where_run ..).symm.trans e)
theorem L_escheatref15_Where_of {n : Nat} {args : List Val} {h : Heap} {p : Val × Heap} (he : R_escheatref15_Where n args h = some p) : Lim A_escheatref15_Where E_escheatref15_Where args h = some p := Lim_of ((R_escheatref15_Where_run ..).trans he)
noncomputable def S_escheatref15_Where : List Val → Heap → Option (Val × Heap) := tidy (Lim A_escheatref15_Where E_escheatref15_Where)
theorem S_escheatref15_Where_ok (args : List Val) (h : Heap) (v : Val) (h2 : Heap) (he : S_escheatref15_Where args h = some (v, h2)) : Callable Try.prog 52 ∧ CallOk Try.prog 52 args h v h2 ∧ h.length ≤ h2.length := tidy_ok L_escheatref15_Where_ok args h v h2 he
theorem S_escheatref15_Where_flat {n : Nat} {args : List Val} {h h2 : Heap} {v : Val} (he : R_escheatref15_Where n args (ro h) = some (v, h2)) (hf : v.flat = true) : S_escheatref15_Where args h = some (v, h) := tidy_flat (L_escheatref15_Where_of he) hf
theorem S_escheatref15_Where_low {n : Nat} {args : List Val} {h h2 : Heap} {v : Val} (he : R_escheatref15_Where n args (ro h) = some (v, h2)) (hf : v.low h.length = true) : S_escheatref15_Where args h = some (v, h) := tidy_low (L_escheatref15_Where_of he) hf
theorem S_escheatref15_Where_out {n : Nat} {args : List Val} {h h2 : Heap} {v : Val} {sz k : Nat} {cs : List Cell} (he : R_escheatref15_Where n args (ro h) = some (v, h2)) (ho : Out h.length h2 v sz k cs) (hf : flats cs = true) : S_escheatref15_Where args h = some (.c (.sl h.length 0 k sz), h ++ [some ⟨cs, true⟩]) := tidy_out (L_escheatref15_Where_of he) ho hf
theorem S_escheatref15_Where_tidy {n : Nat} {args : List Val} {h h2 : Heap} {v v2 : Val} {ids : List Nat} (he : R_escheatref15_Where n args (ro h) = some (v, h2)) (hc : canonV h2 h.length v = some (v2, ids)) : S_escheatref15_Where args h = some (v2, h ++ ids.map (rd h2)) := tidy_of (L_escheatref15_Where_of he) hc
def escheatref15_Area_c0 : ACode := .ops [{ dst := some 2, op := .box (.t 0) }, { dst := some 4, op := .mv (.v (.c (.i .i64 0))) }]
def escheatref15_Area_c1 : ACode := .ops [{ dst := some 5, op := .loadN 3 (.t 2) }, { dst := some 6, op := .call 80 [(.t 5)] }, { dst := some 7, op := .un .not (.t 6) }, { dst := some 8, op := .mv (.t 7) }, { dst := some 9, op := .mv (.t 1), guard := some (8, false) }, { dst := some 10, op := .bin .lss (.t 9) (.v (.c (.i .i64 0))), guard := some (8, false) }, { dst := some 11, op := .pick (.t 8) (.v (.c (.b true))) (.t 10) }, { dst := some 12, op := .mv (.t 11) }, { dst := some 13, op := .mv (.t 1), guard := some (12, false) }, { dst := some 14, op := .fAddr (.t 2) 0, guard := some (12, false) }, { dst := some 15, op := .load1 (.t 14), guard := some (12, false) }, { dst := some 16, op := .bin .geq (.t 13) (.t 15), guard := some (12, false) }, { dst := some 17, op := .pick (.t 12) (.v (.c (.b true))) (.t 16) }]
def escheatref15_Area_c2 : ACode := .ops [{ dst := some 4, op := .mv (.v (.c (.i .i64 0))) }]
def escheatref15_Area_c3 : ACode := .seq [4] escheatref15_Area_c2 .ret
def escheatref15_Area_c4 : ACode := .cond (.t 17) escheatref15_Area_c3 .skip
def escheatref15_Area_c5 : ACode := .seq [1, 2, 17] escheatref15_Area_c1 escheatref15_Area_c4
def escheatref15_Area_c6 : ACode := .ops [{ dst := some 18, op := .mv (.t 1) }, { dst := some 19, op := .bin .lss (.t 18) (.v (.c (.i .i64 2))) }]
def escheatref15_Area_c7 : ACode := .ops [{ dst := some 20, op := .mv (.t 1) }, { dst := some 21, op := .bin .add (.t 20) (.v (.c (.i .i64 1))) }, { dst := some 4, op := .mv (.t 21) }]
def escheatref15_Area_c8 : ACode := .seq [4] escheatref15_Area_c7 .ret
def escheatref15_Area_c9 : ACode := .cond (.t 19) escheatref15_Area_c8 .skip
def escheatref15_Area_c10 : ACode := .seq [1, 2, 19] escheatref15_Area_c6 escheatref15_Area_c9
def escheatref15_Area_c11 : ACode := .ops [{ dst := some 22, op := .mv (.t 1) }, { dst := some 23, op := .bin .sub (.t 22) (.v (.c (.i .i64 2))) }, { dst := some 24, op := .bin .mul (.t 23) (.v (.c (.i .i64 8))) }, { dst := some 25, op := .fAddr (.t 2) 1 }, { dst := some 26, op := .load1 (.t 25) }, { dst := some 27, op := .bin .lss (.t 24) (.t 26) }]
def escheatref15_Area_c12 : ACode := .ops [{ dst := some 4, op := .mv (.v (.c (.i .i64 3))) }]
def escheatref15_Area_c13 : ACode := .seq [4] escheatref15_Area_c12 .ret
def escheatref15_Area_c14 : ACode := .cond (.t 27) escheatref15_Area_c13 .skip
def escheatref15_Area_c15 : ACode := .seq [27] escheatref15_Area_c11 escheatref15_Area_c14
def escheatref15_Area_c16 : ACode := .ops [{ dst := some 4, op := .mv (.v (.c (.i .i64 4))) }]
def escheatref15_Area_c17 : ACode := .seq [4] escheatref15_Area_c16 .ret
def escheatref15_Area_c18 : ACode := .seq [] escheatref15_Area_c15 escheatref15_Area_c17
def escheatref15_Area_c19 : ACode := .seq [1, 2] escheatref15_Area_c10 escheatref15_Area_c18
def escheatref15_Area_c20 : ACode := .seq [1, 2] escheatref15_Area_c5 escheatref15_Area_c19
def escheatref15_Area_c21 : ACode := .seq [1, 2] escheatref15_Area_c0 escheatref15_Area_c20
def A_escheatref15_Area : AFn := ⟨escheatref15_Area_c21, [.tmp 4]⟩
noncomputable def E_escheatref15_Area : Sums := fun f args h => bif Nat.beq f 80 then S_escheatref14_May args h else none
noncomputable def escheatref15_Area_c0_d (n : Nat) : Sm (Val × Heap) := smOps E_escheatref15_Area [{ dst := some 2, op := .box (.t 0) }, { dst := some 4, op := .mv (.v (.c (.i .i64 0))) }]
noncomputable def escheatref15_Area_c1_d (n : Nat) : Sm (Val × Heap) := smOps E_escheatref15_Area [{ dst := some 5, op := .loadN 3 (.t 2) }, { dst := some 6, op := .call 80 [(.t 5)] }, { dst := some 7, op := .un .not (.t 6) }, { dst := some 8, op := .mv (.t 7) }, { dst := some 9, op := .mv (.t 1), guard := some (8, false) }, { dst := some 10, op := .bin .lss (.t 9) (.v (.c (.i .i64 0))), guard := some (8, false) }, { dst := some 11, op := .pick (.t 8) (.v (.c (.b true))) (.t 10) }, { dst := some 12, op := .mv (.t 11) }, { dst := some 13, op := .mv (.t 1), guard := some (12, false) }, { dst := some 14, op := .fAddr (.t 2) 0, guard := some (12, false) }, { dst := some 15, op := .load1 (.t 14), guard := some (12, false) }, { dst := some 16, op := .bin .geq (.t 13) (.t 15), guard := some (12, false) }, { dst := some 17, op := .pick (.t 12) (.v (.c (.b true))) (.t 16) }]
noncomputable def escheatref15_Area_c2_d (n : Nat) : Sm (Val × Heap) := smOps E_escheatref15_Area [{ dst := some 4, op := .mv (.v (.c (.i .i64 0))) }]
noncomputable def escheatref15_Area_c3_d (n : Nat) : Sm (Val × Heap) := smSeq [4] (escheatref15_Area_c2_d n) smRet
noncomputable def escheatref15_Area_c4_d (n : Nat) : Sm (Val × Heap) := smCond (.t 17) (escheatref15_Area_c3_d n) smSkip
noncomputable def escheatref15_Area_c5_d (n : Nat) : Sm (Val × Heap) := smSeq [1, 2, 17] (escheatref15_Area_c1_d n) (escheatref15_Area_c4_d n)
noncomputable def escheatref15_Area_c6_d (n : Nat) : Sm (Val × Heap) := smOps E_escheatref15_Area [{ dst := some 18, op := .mv (.t 1) }, { dst := some 19, op := .bin .lss (.t 18) (.v (.c (.i .i64 2))) }]
noncomputable def escheatref15_Area_c7_d (n : Nat) : Sm (Val × Heap) := smOps E_escheatref15_Area [{ dst := some 20, op := .mv (.t 1) }, { dst := some 21, op := .bin .add (.t 20) (.v (.c (.i .i64 1))) }, { dst := some 4, op := .mv (.t 21) }]
noncomputable def escheatref15_Area_c8_d (n : Nat) : Sm (Val × Heap) := smSeq [4] (escheatref15_Area_c7_d n) smRet
noncomputable def escheatref15_Area_c9_d (n : Nat) : Sm (Val × Heap) := smCond (.t 19) (escheatref15_Area_c8_d n) smSkip
noncomputable def escheatref15_Area_c10_d (n : Nat) : Sm (Val × Heap) := smSeq [1, 2, 19] (escheatref15_Area_c6_d n) (escheatref15_Area_c9_d n)
noncomputable def escheatref15_Area_c11_d (n : Nat) : Sm (Val × Heap) := smOps E_escheatref15_Area [{ dst := some 22, op := .mv (.t 1) }, { dst := some 23, op := .bin .sub (.t 22) (.v (.c (.i .i64 2))) }, { dst := some 24, op := .bin .mul (.t 23) (.v (.c (.i .i64 8))) }, { dst := some 25, op := .fAddr (.t 2) 1 }, { dst := some 26, op := .load1 (.t 25) }, { dst := some 27, op := .bin .lss (.t 24) (.t 26) }]
noncomputable def escheatref15_Area_c12_d (n : Nat) : Sm (Val × Heap) := smOps E_escheatref15_Area [{ dst := some 4, op := .mv (.v (.c (.i .i64 3))) }]
noncomputable def escheatref15_Area_c13_d (n : Nat) : Sm (Val × Heap) := smSeq [4] (escheatref15_Area_c12_d n) smRet
noncomputable def escheatref15_Area_c14_d (n : Nat) : Sm (Val × Heap) := smCond (.t 27) (escheatref15_Area_c13_d n) smSkip
noncomputable def escheatref15_Area_c15_d (n : Nat) : Sm (Val × Heap) := smSeq [27] (escheatref15_Area_c11_d n) (escheatref15_Area_c14_d n)
noncomputable def escheatref15_Area_c16_d (n : Nat) : Sm (Val × Heap) := smOps E_escheatref15_Area [{ dst := some 4, op := .mv (.v (.c (.i .i64 4))) }]
noncomputable def escheatref15_Area_c17_d (n : Nat) : Sm (Val × Heap) := smSeq [4] (escheatref15_Area_c16_d n) smRet
noncomputable def escheatref15_Area_c18_d (n : Nat) : Sm (Val × Heap) := smSeq [] (escheatref15_Area_c15_d n) (escheatref15_Area_c17_d n)
noncomputable def escheatref15_Area_c19_d (n : Nat) : Sm (Val × Heap) := smSeq [1, 2] (escheatref15_Area_c10_d n) (escheatref15_Area_c18_d n)
noncomputable def escheatref15_Area_c20_d (n : Nat) : Sm (Val × Heap) := smSeq [1, 2] (escheatref15_Area_c5_d n) (escheatref15_Area_c19_d n)
noncomputable def escheatref15_Area_c21_d (n : Nat) : Sm (Val × Heap) := smSeq [1, 2] (escheatref15_Area_c0_d n) (escheatref15_Area_c20_d n)
noncomputable def R_escheatref15_Area (n : Nat) (args : List Val) (h : Heap) : Option (Val × Heap) := (escheatref15_Area_c21_d n) A_escheatref15_Area.fin (params 0 args) h
theorem R_escheatref15_Area_run (n : Nat) (args : List Val) (h : Heap) : A_escheatref15_Area.run E_escheatref15_Area n args h = R_escheatref15_Area n args h := by kernel_rfl
theorem R_escheatref15_Area_eq (n : Nat) (a0 a1 : Val) (h : Heap) : R_escheatref15_Area n [a0, a1] h = bnd (cells? a0) fun c1 => bnd (aloadN ((h ++ [some (Row.mk (c1) true)])) 3 ((.c (.p h.length 0)))) fun v2 => bnd (S_escheatref14_May [v2] ((h ++ [some (Row.mk (c1) true)]))) fun p3 => bnd (aun .not p3.1) fun v4 => bnd (gd v4 false (some (a1, p3.2)) (some (.no, p3.2))) fun p5 => bnd (gd v4 false (bnd (abin .lss p5.1 (.c (.i .i64 0))) fun v6 => some (v6, p5.2)) (some (.no, p5.2))) fun p7 => bnd (apick v4 (.c (.b true)) p7.1) fun v8 => bnd (gd v8 false (some (a1, p7.2)) (some (.no, p7.2))) fun p9 => bnd (gd v8 false (bnd (afAddr ((.c (.p h.length 0))) 0) fun v10 => some (v10, p9.2)) (some (.no, p9.2))) fun p11 => bnd (gd v8 false (bnd (aload1 p11.2 p11.1) fun v12 => some (v12, p11.2)) (some (.no, p11.2))) fun p13 => bnd (gd v8 false (bnd (abin .geq p9.1 p13.1) fun v14 => some (v14, p13.2)) (some (.no, p13.2))) fun p15 => bnd (apick v8 (.c (.b true)) p15.1) fun v16 => cnd v16 (some ((.c (.i .i64 0)), p15.2)) (bnd (abin .lss a1 (.c (.i .i64 2))) fun v17 => cnd v17 (bnd (abin .add a1 (.c (.i .i64 1))) fun v18 => some (v18, p15.2)) (bnd (abin .sub a1 (.c (.i .i64 2))) fun v19 => bnd (abin .mul v19 (.c (.i .i64 8))) fun v20 => bnd (afAddr ((.c (.p h.length 0))) 1) fun v21 => bnd (aload1 p15.2 v21) fun v22 => bnd (abin .lss v20 v22) fun v23 => cnd v23 (some ((.c (.i .i64 3)), p15.2)) (some ((.c (.i .i64 4)), p15.2)))) := by kernel_rfl
theorem chk_escheatref15_Area : chkFn Try.prog Try.f56 A_escheatref15_Area = true := by kernel_rfl
theorem E_escheatref15_Area_sound : Sound Try.prog E_escheatref15_Area := by
  intro f args h v h2 he
  unfold E_escheatref15_Area at he
  cases hb0 : Nat.beq f 80 with
  | true => rw [hb0] at he; have e := Nat.eq_of_beq_eq_true hb0; subst e; exact S_escheatref14_May_ok args h v h2 he
  | false =>
    rw [hb0] at he; simp only [cond_false] at he
    cases he

theorem R_escheatref15_Area_ok {n : Nat} {args : List Val} {h h2 : Heap} {v : Val} (he : R_escheatref15_Area n args h = some (v, h2)) : Callable Try.prog 56 ∧ CallOk Try.prog 56 args h v h2 ∧ h.length ≤ h2.length := fn_ok E_escheatref15_Area_sound Try.func56 chk_escheatref15_Area ((R_escheatref15_Area_run ..).trans he)
theorem L_escheatref15_Area_ok (args : List Val) (h : Heap) (v : Val) (h2 : Heap) (he : Lim A_escheatref15_Area E_escheatref15_Area args h = some (v, h2)) : Callable Try.prog 56 ∧ CallOk Try.prog 56 args h v h2 ∧ h.length ≤ h2.length := (Lim_run he).elim fun _ e => R_escheatref15_Area_ok ((R_escheatref15_Area_run ..).symm.trans e)
theorem L_escheatref15_Area_of {n : Nat} {args : List Val} {h : Heap} {p : Val × Heap} (he : R_escheatref15_Area n args h = some p) : Lim A_escheatref15_Area E_escheatref15_Area args h = some p := Lim_of ((R_escheatref15_Area_run ..).trans he)
noncomputable def S_escheatref15_Area : List Val → Heap → Option (Val × Heap) := tidy (Lim A_escheatref15_Area E_escheatref15_Area)
theorem S_escheatref15_Area_ok (args : List Val) (h : Heap) (v : Val) (h2 : Heap) (he : S_escheatref15_Area args h = some (v, h2)) : Callable Try.prog 56 ∧ CallOk Try.prog 56 args h v h2 ∧ h.length ≤ h2.length := tidy_ok L_escheatref15_Area_ok args h v h2 he
theorem S_escheatref15_Area_flat {n : Nat} {args : List Val} {h h2 : Heap} {v : Val} (he : R_escheatref15_Area n args (ro h) = some (v, h2)) (hf : v.flat = true) : S_escheatref15_Area args h = some (v, h) := tidy_flat (L_escheatref15_Area_of he) hf
theorem S_escheatref15_Area_low {n : Nat} {args : List Val} {h h2 : Heap} {v : Val} (he : R_escheatref15_Area n args (ro h) = some (v, h2)) (hf : v.low h.length = true) : S_escheatref15_Area args h = some (v, h) := tidy_low (L_escheatref15_Area_of he) hf
theorem S_escheatref15_Area_out {n : Nat} {args : List Val} {h h2 : Heap} {v : Val} {sz k : Nat} {cs : List Cell} (he : R_escheatref15_Area n args (ro h) = some (v, h2)) (ho : Out h.length h2 v sz k cs) (hf : flats cs = true) : S_escheatref15_Area args h = some (.c (.sl h.length 0 k sz), h ++ [some ⟨cs, true⟩]) := tidy_out (L_escheatref15_Area_of he) ho hf
theorem S_escheatref15_Area_tidy {n : Nat} {args : List Val} {h h2 : Heap} {v v2 : Val} {ids : List Nat} (he : R_escheatref15_Area n args (ro h) = some (v, h2)) (hc : canonV h2 h.length v = some (v2, ids)) : S_escheatref15_Area args h = some (v2, h ++ ids.map (rd h2)) := tidy_of (L_escheatref15_Area_of he) hc
def escheatref15_Count_c0 : ACode := .ops [{ dst := some 2, op := .box (.t 0) }, { dst := some 4, op := .mv (.v (.c (.i .i64 0))) }, { dst := some 5, op := .mv (.v (.c (.i .i64 0))) }]
def escheatref15_Count_c1 : ACode := .ops [{ dst := some 6, op := .mv (.v (.c (.i .i64 0))) }, { dst := some 7, op := .mv (.v (.c (.i .i64 0))) }]
def escheatref15_Count_c2 : ACode := .ops [{ dst := some 8, op := .mv (.v (.c (.i .i64 511))) }]
def escheatref15_Count_c3 : ACode := .ops [{ dst := some 9, op := .mv (.t 8) }, { dst := some 10, op := .bin .geq (.t 9) (.v (.c (.i .i64 0))) }]
def escheatref15_Count_c4 : ACode := .cond (.t 10) .skip (.exit 0)
def escheatref15_Count_c5 : ACode := .seq [1, 2, 6, 7, 8, 10] escheatref15_Count_c3 escheatref15_Count_c4
def escheatref15_Count_c6 : ACode := .ops [{ dst := some 13, op := .loadN 3 (.t 2) }, { dst := some 14, op := .mv (.t 8) }, { dst := some 15, op := .call 56 [(.t 13), (.t 14)] }, { dst := some 16, op := .mv (.t 1) }, { dst := some 17, op := .bin .eql (.t 15) (.t 16) }]
def escheatref15_Count_c7 : ACode := .ops [{ dst := some 18, op := .mv (.t 6) }, { dst := some 19, op := .bin .add (.t 18) (.v (.c (.i .i64 1))) }, { dst := some 6, op := .mv (.t 19) }]
def escheatref15_Count_c8 : ACode := .ops [{ dst := some 20, op := .mv (.t 8) }, { dst := some 7, op := .mv (.t 20) }]
def escheatref15_Count_c9 : ACode := .seq [1, 2, 6, 8] escheatref15_Count_c7 escheatref15_Count_c8
def escheatref15_Count_c10 : ACode := .cond (.t 17) escheatref15_Count_c9 .skip
def escheatref15_Count_c11 : ACode := .seq [1, 2, 6, 7, 8, 17] escheatref15_Count_c6 escheatref15_Count_c10
def escheatref15_Count_c12 : ACode := .block 1 escheatref15_Count_c11
def escheatref15_Count_c13 : ACode := .ops [{ dst := some 11, op := .mv (.t 8) }, { dst := some 12, op := .bin .sub (.t 11) (.v (.c (.i .i64 1))) }, { dst := some 8, op := .mv (.t 12) }]
def escheatref15_Count_c14 : ACode := .seq [1, 2, 6, 7, 8] escheatref15_Count_c12 escheatref15_Count_c13
def escheatref15_Count_c15 : ACode := .seq [1, 2, 6, 7, 8] escheatref15_Count_c5 escheatref15_Count_c14
def escheatref15_Count_c16 : ACode := .loop [1, 2, 6, 7, 8] escheatref15_Count_c15
def escheatref15_Count_c17 : ACode := .block 0 escheatref15_Count_c16
def escheatref15_Count_c18 : ACode := .seq [1, 2, 6, 7, 8] escheatref15_Count_c2 escheatref15_Count_c17
def escheatref15_Count_c19 : ACode := .ops [{ dst := some 21, op := .mv (.t 6) }, { dst := some 22, op := .mv (.t 7) }, { dst := some 4, op := .mv (.t 21) }, { dst := some 5, op := .mv (.t 22) }]
def escheatref15_Count_c20 : ACode := .seq [4, 5] escheatref15_Count_c19 .ret
def escheatref15_Count_c21 : ACode := .seq [6, 7] escheatref15_Count_c18 escheatref15_Count_c20
def escheatref15_Count_c22 : ACode := .seq [1, 2, 6, 7] escheatref15_Count_c1 escheatref15_Count_c21
def escheatref15_Count_c23 : ACode := .seq [1, 2] escheatref15_Count_c0 escheatref15_Count_c22
def A_escheatref15_Count : AFn := ⟨escheatref15_Count_c23, [.tmp 4, .tmp 5]⟩
noncomputable def E_escheatref15_Count : Sums := fun f args h => bif Nat.beq f 56 then S_escheatref15_Area args h else none
noncomputable def escheatref15_Count_c0_d (n : Nat) : Sm (Val × Heap) := smOps E_escheatref15_Count [{ dst := some 2, op := .box (.t 0) }, { dst := some 4, op := .mv (.v (.c (.i .i64 0))) }, { dst := some 5, op := .mv (.v (.c (.i .i64 0))) }]
noncomputable def escheatref15_Count_c1_d (n : Nat) : Sm (Val × Heap) := smOps E_escheatref15_Count [{ dst := some 6, op := .mv (.v (.c (.i .i64 0))) }, { dst := some 7, op := .mv (.v (.c (.i .i64 0))) }]
noncomputable def escheatref15_Count_c2_d (n : Nat) : Sm (Val × Heap) := smOps E_escheatref15_Count [{ dst := some 8, op := .mv (.v (.c (.i .i64 511))) }]
noncomputable def escheatref15_Count_c3_d (n : Nat) : Sm (Val × Heap) := smOps E_escheatref15_Count [{ dst := some 9, op := .mv (.t 8) }, { dst := some 10, op := .bin .geq (.t 9) (.v (.c (.i .i64 0))) }]
noncomputable def escheatref15_Count_c4_d (n : Nat) : Sm (Val × Heap) := smCond (.t 10) smSkip (smExit 0)
noncomputable def escheatref15_Count_c5_d (n : Nat) : Sm (Val × Heap) := smSeq [1, 2, 6, 7, 8, 10] (escheatref15_Count_c3_d n) (escheatref15_Count_c4_d n)
noncomputable def escheatref15_Count_c6_d (n : Nat) : Sm (Val × Heap) := smOps E_escheatref15_Count [{ dst := some 13, op := .loadN 3 (.t 2) }, { dst := some 14, op := .mv (.t 8) }, { dst := some 15, op := .call 56 [(.t 13), (.t 14)] }, { dst := some 16, op := .mv (.t 1) }, { dst := some 17, op := .bin .eql (.t 15) (.t 16) }]
noncomputable def escheatref15_Count_c7_d (n : Nat) : Sm (Val × Heap) := smOps E_escheatref15_Count [{ dst := some 18, op := .mv (.t 6) }, { dst := some 19, op := .bin .add (.t 18) (.v (.c (.i .i64 1))) }, { dst := some 6, op := .mv (.t 19) }]
noncomputable def escheatref15_Count_c8_d (n : Nat) : Sm (Val × Heap) := smOps E_escheatref15_Count [{ dst := some 20, op := .mv (.t 8) }, { dst := some 7, op := .mv (.t 20) }]
noncomputable def escheatref15_Count_c9_d (n : Nat) : Sm (Val × Heap) := smSeq [1, 2, 6, 8] (escheatref15_Count_c7_d n) (escheatref15_Count_c8_d n)
noncomputable def escheatref15_Count_c10_d (n : Nat) : Sm (Val × Heap) := smCond (.t 17) (escheatref15_Count_c9_d n) smSkip
noncomputable def escheatref15_Count_c11_d (n : Nat) : Sm (Val × Heap) := smSeq [1, 2, 6, 7, 8, 17] (escheatref15_Count_c6_d n) (escheatref15_Count_c10_d n)
noncomputable def escheatref15_Count_c12_d (n : Nat) : Sm (Val × Heap) := smBlock 1 (escheatref15_Count_c11_d n)
noncomputable def escheatref15_Count_c13_d (n : Nat) : Sm (Val × Heap) := smOps E_escheatref15_Count [{ dst := some 11, op := .mv (.t 8) }, { dst := some 12, op := .bin .sub (.t 11) (.v (.c (.i .i64 1))) }, { dst := some 8, op := .mv (.t 12) }]
noncomputable def escheatref15_Count_c14_d (n : Nat) : Sm (Val × Heap) := smSeq [1, 2, 6, 7, 8] (escheatref15_Count_c12_d n) (escheatref15_Count_c13_d n)
noncomputable def escheatref15_Count_c15_d (n : Nat) : Sm (Val × Heap) := smSeq [1, 2, 6, 7, 8] (escheatref15_Count_c5_d n) (escheatref15_Count_c14_d n)
noncomputable def escheatref15_Count_c16_d (n : Nat) : Sm (Val × Heap) := smLoop n [1, 2, 6, 7, 8] (escheatref15_Count_c15_d n)
noncomputable def escheatref15_Count_c17_d (n : Nat) : Sm (Val × Heap) := smBlock 0 (escheatref15_Count_c16_d n)
noncomputable def escheatref15_Count_c18_d (n : Nat) : Sm (Val × Heap) := smSeq [1, 2, 6, 7, 8] (escheatref15_Count_c2_d n) (escheatref15_Count_c17_d n)
noncomputable def escheatref15_Count_c19_d (n : Nat) : Sm (Val × Heap) := smOps E_escheatref15_Count [{ dst := some 21, op := .mv (.t 6) }, { dst := some 22, op := .mv (.t 7) }, { dst := some 4, op := .mv (.t 21) }, { dst := some 5, op := .mv (.t 22) }]
noncomputable def escheatref15_Count_c20_d (n : Nat) : Sm (Val × Heap) := smSeq [4, 5] (escheatref15_Count_c19_d n) smRet
noncomputable def escheatref15_Count_c21_d (n : Nat) : Sm (Val × Heap) := smSeq [6, 7] (escheatref15_Count_c18_d n) (escheatref15_Count_c20_d n)
noncomputable def escheatref15_Count_c22_d (n : Nat) : Sm (Val × Heap) := smSeq [1, 2, 6, 7] (escheatref15_Count_c1_d n) (escheatref15_Count_c21_d n)
noncomputable def escheatref15_Count_c23_d (n : Nat) : Sm (Val × Heap) := smSeq [1, 2] (escheatref15_Count_c0_d n) (escheatref15_Count_c22_d n)
noncomputable def escheatref15_Count_k0 (n : Nat) : AExit → Env → Heap → Option (Val × Heap) := fun x e h => match x with | .normal => hold ((escheatref15_Count_c20_d n) A_escheatref15_Count.fin (e.keep [6, 7]) h) | .exit id => A_escheatref15_Count.fin (.exit id) e h | .ret => A_escheatref15_Count.fin .ret e h
noncomputable def escheatref15_Count_k1 (n : Nat) : AExit → Env → Heap → Option (Val × Heap) := fun x e h => match x with | .exit i => bif Nat.beq i 0 then (escheatref15_Count_k0 n) .normal e h else (escheatref15_Count_k0 n) (.exit i) e h | .normal => (escheatref15_Count_k0 n) .normal e h | .ret => (escheatref15_Count_k0 n) .ret e h
noncomputable def escheatref15_Count_l0 (n m : Nat) (x1 x2 x6 x7 x8 : Val) (h : Heap) : Option (Val × Heap) := around (escheatref15_Count_c15_d n) [1, 2, 6, 7, 8] (escheatref15_Count_k1 n) m [(1, x1), (2, x2), (6, x6), (7, x7), (8, x8)] h
noncomputable def R_escheatref15_Count (n : Nat) (args : List Val) (h : Heap) : Option (Val × Heap) := (escheatref15_Count_c23_d n) A_escheatref15_Count.fin (params 0 args) h
noncomputable def escheatref15_Count_k2 (n m : Nat) : AExit → Env → Heap → Option (Val × Heap) := fun x e h => match x with | .normal => around (escheatref15_Count_c15_d n) [1, 2, 6, 7, 8] (escheatref15_Count_k1 n) m (e.keep [1, 2, 6, 7, 8]) h | .exit id => (escheatref15_Count_k1 n) (.exit id) e h | .ret => (escheatref15_Count_k1 n) .ret e h
noncomputable def escheatref15_Count_j0 (n m : Nat) (x1 x2 x6 x7 x8 : Val) (h : Heap) : Option (Val × Heap) := hold ((escheatref15_Count_c13_d n) (escheatref15_Count_k2 n m) [(1, x1), (2, x2), (6, x6), (7, x7), (8, x8)] h)
theorem R_escheatref15_Count_run (n : Nat) (args : List Val) (h : Heap) : A_escheatref15_Count.run E_escheatref15_Count n args h = R_escheatref15_Count n args h := by kernel_rfl
theorem R_escheatref15_Count_eq (n : Nat) (a0 a1 : Val) (h : Heap) : R_escheatref15_Count n [a0, a1] h = bnd (cells? a0) fun c1 => escheatref15_Count_l0 n n a1 ((.c (.p h.length 0))) (.c (.i .i64 0)) (.c (.i .i64 0)) (.c (.i .i64 511)) ((h ++ [some (Row.mk (c1) true)])) := by kernel_rfl
theorem escheatref15_Count_l0_eq (n m : Nat) (x1 x2 x6 x7 x8 : Val) (h : Heap) : escheatref15_Count_l0 n (m + 1) x1 x2 x6 x7 x8 h = bnd (abin .geq x8 (.c (.i .i64 0))) fun v2 => cnd v2 (bnd (aloadN h 3 x2) fun v3 => bnd (S_escheatref15_Area [v3, x8] h) fun p4 => bnd (abin .eql p4.1 x1) fun v5 => cnd v5 (bnd (abin .add x6 (.c (.i .i64 1))) fun v6 => escheatref15_Count_j0 n m x1 x2 v6 x8 x8 p4.2) (escheatref15_Count_j0 n m x1 x2 x6 x7 x8 p4.2)) (tupN [some x6, some x7] h) := by kernel_rfl
theorem escheatref15_Count_j0_eq (n m : Nat) (x1 x2 x6 x7 x8 : Val) (h : Heap) : escheatref15_Count_j0 n m x1 x2 x6 x7 x8 h = bnd (abin .sub x8 (.c (.i .i64 1))) fun v7 => escheatref15_Count_l0 n m x1 x2 x6 x7 v7 h := by kernel_rfl
theorem chk_escheatref15_Count : chkFn Try.prog Try.f67 A_escheatref15_Count = true := by kernel_rfl
theorem E_escheatref15_Count_sound : Sound Try.prog E_escheatref15_Count := by
  intro f args h v h2 he
  unfold E_escheatref15_Count at he
  cases hb0 : Nat.beq f 56 with
  | true => rw [hb0] at he; have e := Nat.eq_of_beq_eq_true hb0; subst e; exact S_escheatref15_Area_ok args h v h2 he
  | false =>
    rw [hb0] at he; simp only [cond_false] at he
    cases he

theorem R_escheatref15_Count_ok {n : Nat} {args : List Val} {h h2 : Heap} {v : Val} (he : R_escheatref15_Count n args h = some (v, h2)) : Callable Try.prog 67 ∧ CallOk Try.prog 67 args h v h2 ∧ h.length ≤ h2.length := fn_ok E_escheatref15_Count_sound Try.func67 chk_escheatref15_Count ((R_escheatref15_Count_run ..).trans he)
theorem L_escheatref15_Count_ok (args : List Val) (h : Heap) (v : Val) (h2 : Heap) (he : Lim A_escheatref15_Count E_escheatref15_Count args h = some (v, h2)) : Callable Try.prog 67 ∧ CallOk Try.prog 67 args h v h2 ∧ h.length ≤ h2.length := (Lim_run he).elim fun _ e => R_escheatref15_Count_ok ((R_escheatref15_Count_run ..).symm.trans e)
theorem L_escheatref15_Count_of {n : Nat} {args : List Val} {h : Heap} {p : Val × Heap} (he : R_escheatref15_Count n args h = some p) : Lim A_escheatref15_Count E_escheatref15_Count args h = some p := Lim_of ((R_escheatref15_Count_run ..).trans he)
noncomputable def S_escheatref15_Count : List Val → Heap → Option (Val × Heap) := tidy (Lim A_escheatref15_Count E_escheatref15_Count)
theorem S_escheatref15_Count_ok (args : List Val) (h : Heap) (v : Val) (h2 : Heap) (he : S_escheatref15_Count args h = some (v, h2)) : Callable Try.prog 67 ∧ CallOk Try.prog 67 args h v h2 ∧ h.length ≤ h2.length := tidy_ok L_escheatref15_Count_ok args h v h2 he
theorem S_escheatref15_Count_flat {n : Nat} {args : List Val} {h h2 : Heap} {v : Val} (he : R_escheatref15_Count n args (ro h) = some (v, h2)) (hf : v.flat = true) : S_escheatref15_Count args h = some (v, h) := tidy_flat (L_escheatref15_Count_of he) hf
theorem S_escheatref15_Count_low {n : Nat} {args : List Val} {h h2 : Heap} {v : Val} (he : R_escheatref15_Count n args (ro h) = some (v, h2)) (hf : v.low h.length = true) : S_escheatref15_Count args h = some (v, h) := tidy_low (L_escheatref15_Count_of he) hf
theorem S_escheatref15_Count_out {n : Nat} {args : List Val} {h h2 : Heap} {v : Val} {sz k : Nat} {cs : List Cell} (he : R_escheatref15_Count n args (ro h) = some (v, h2)) (ho : Out h.length h2 v sz k cs) (hf : flats cs = true) : S_escheatref15_Count args h = some (.c (.sl h.length 0 k sz), h ++ [some ⟨cs, true⟩]) := tidy_out (L_escheatref15_Count_of he) ho hf
theorem S_escheatref15_Count_tidy {n : Nat} {args : List Val} {h h2 : Heap} {v v2 : Val} {ids : List Nat} (he : R_escheatref15_Count n args (ro h) = some (v, h2)) (hc : canonV h2 h.length v = some (v2, ids)) : S_escheatref15_Count args h = some (v2, h ++ ids.map (rd h2)) := tidy_of (L_escheatref15_Count_of he) hc
end Go.Proofs.Ytbbkpmbepljhkaa
