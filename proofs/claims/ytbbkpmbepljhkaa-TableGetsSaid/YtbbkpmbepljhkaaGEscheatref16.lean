/- Escheatref16: the Go functions of this package as the abstract evaluator computes them: printed by a program, checked by Lean. -/
import Derived.Test.YtbbkpmbepljhkaaEscS
import Derived.Test.YtbbkpmbepljhkaaChecked
import Derived.KernelRfl
import Derived.Test.YtbbkpmbepljhkaaGEscheatref01
namespace Go.Proofs.Ytbbkpmbepljhkaa
open Go Go.Esc
set_option maxRecDepth 100000
set_option linter.all false
def escheatref16_In_c0 : ACode := .ops [{ dst := some 4, op := .mv (.v (.c (.b false))) }]
def escheatref16_In_c1 : ACode := .ops [{ dst := some 5, op := .mv (.t 0) }, { dst := some 6, op := .bin .geq (.t 5) (.v (.c (.i .i64 0))) }, { dst := some 7, op := .mv (.t 6) }, { dst := some 8, op := .mv (.t 0), guard := some (7, true) }, { dst := some 9, op := .mv (.t 1), guard := some (7, true) }, { dst := some 10, op := .bin .leq (.t 8) (.t 9), guard := some (7, true) }, { dst := some 11, op := .pick (.t 7) (.t 10) (.v (.c (.b false))) }, { dst := some 4, op := .mv (.t 11) }]
def escheatref16_In_c2 : ACode := .seq [4] escheatref16_In_c1 .ret
def escheatref16_In_c3 : ACode := .seq [0, 1] escheatref16_In_c0 escheatref16_In_c2
def A_escheatref16_In : AFn := ⟨escheatref16_In_c3, [.tmp 4]⟩
noncomputable def E_escheatref16_In : Sums := fun f args h => none
noncomputable def escheatref16_In_c0_d (n : Nat) : Sm (Val × Heap) := smOps E_escheatref16_In [{ dst := some 4, op := .mv (.v (.c (.b false))) }]
noncomputable def escheatref16_In_c1_d (n : Nat) : Sm (Val × Heap) := smOps E_escheatref16_In [{ dst := some 5, op := .mv (.t 0) }, { dst := some 6, op := .bin .geq (.t 5) (.v (.c (.i .i64 0))) }, { dst := some 7, op := .mv (.t 6) }, { dst := some 8, op := .mv (.t 0), guard := some (7, true) }, { dst := some 9, op := .mv (.t 1), guard := some (7, true) }, { dst := some 10, op := .bin .leq (.t 8) (.t 9), guard := some (7, true) }, { dst := some 11, op := .pick (.t 7) (.t 10) (.v (.c (.b false))) }, { dst := some 4, op := .mv (.t 11) }]
noncomputable def escheatref16_In_c2_d (n : Nat) : Sm (Val × Heap) := smSeq [4] (escheatref16_In_c1_d n) smRet
noncomputable def escheatref16_In_c3_d (n : Nat) : Sm (Val × Heap) := smSeq [0, 1] (escheatref16_In_c0_d n) (escheatref16_In_c2_d n)
noncomputable def R_escheatref16_In (n : Nat) (args : List Val) (h : Heap) : Option (Val × Heap) := (escheatref16_In_c3_d n) A_escheatref16_In.fin (params 0 args) h
theorem R_escheatref16_In_run (n : Nat) (args : List Val) (h : Heap) : A_escheatref16_In.run E_escheatref16_In n args h = R_escheatref16_In n args h := by kernel_rfl
theorem R_escheatref16_In_eq (n : Nat) (a0 a1 : Val) (h : Heap) : R_escheatref16_In n [a0, a1] h = bnd (abin .geq a0 (.c (.i .i64 0))) fun v1 => bnd (gd v1 true (some (a0, h)) (some (.no, h))) fun p2 => bnd (gd v1 true (some (a1, p2.2)) (some (.no, p2.2))) fun p3 => bnd (gd v1 true (bnd (abin .leq p2.1 p3.1) fun v4 => some (v4, p3.2)) (some (.no, p3.2))) fun p5 => bnd (apick v1 p5.1 (.c (.b false))) fun v6 => some (v6, p5.2) := by kernel_rfl
theorem chk_escheatref16_In : chkFn Try.prog Try.f178 A_escheatref16_In = true := by kernel_rfl
theorem E_escheatref16_In_sound : Sound Try.prog E_escheatref16_In := by
  intro f args h v h2 he
  unfold E_escheatref16_In at he
  cases he

theorem R_escheatref16_In_ok {n : Nat} {args : List Val} {h h2 : Heap} {v : Val} (he : R_escheatref16_In n args h = some (v, h2)) : Callable Try.prog 178 ∧ CallOk Try.prog 178 args h v h2 ∧ h.length ≤ h2.length := fn_ok E_escheatref16_In_sound Try.func178 chk_escheatref16_In ((R_escheatref16_In_run ..).trans he)
theorem L_escheatref16_In_ok (args : List Val) (h : Heap) (v : Val) (h2 : Heap) (he : Lim A_escheatref16_In E_escheatref16_In args h = some (v, h2)) : Callable Try.prog 178 ∧ CallOk Try.prog 178 args h v h2 ∧ h.length ≤ h2.length := (Lim_run he).elim fun _ e => R_escheatref16_In_ok ((R_escheatref16_In_run ..).symm.trans e)
theorem L_escheatref16_In_of {n : Nat} {args : List Val} {h : Heap} {p : Val × Heap} (he : R_escheatref16_In n args h = some p) : Lim A_escheatref16_In E_escheatref16_In args h = some p := Lim_of ((R_escheatref16_In_run ..).trans he)
noncomputable def S_escheatref16_In : List Val → Heap → Option (Val × Heap) := tidy (Lim A_escheatref16_In E_escheatref16_In)
theorem S_escheatref16_In_ok (args : List Val) (h : Heap) (v : Val) (h2 : Heap) (he : S_escheatref16_In args h = some (v, h2)) : Callable Try.prog 178 ∧ CallOk Try.prog 178 args h v h2 ∧ h.length ≤ h2.length := tidy_ok L_escheatref16_In_ok args h v h2 he
theorem S_escheatref16_In_flat {n : Nat} {args : List Val} {h h2 : Heap} {v : Val} (he : R_escheatref16_In n args (ro h) = some (v, h2)) (hf : v.flat = true) : S_escheatref16_In args h = some (v, h) := tidy_flat (L_escheatref16_In_of he) hf
theorem S_escheatref16_In_low {n : Nat} {args : List Val} {h h2 : Heap} {v : Val} (he : R_escheatref16_In n args (ro h) = some (v, h2)) (hf : v.low h.length = true) : S_escheatref16_In args h = some (v, h) := tidy_low (L_escheatref16_In_of he) hf
theorem S_escheatref16_In_out {n : Nat} {args : List Val} {h h2 : Heap} {v : Val} {sz k : Nat} {cs : List Cell} (he : R_escheatref16_In n args (ro h) = some (v, h2)) (ho : Out h.length h2 v sz k cs) (hf : flats cs = true) : S_escheatref16_In args h = some (.c (.sl h.length 0 k sz), h ++ [some ⟨cs, true⟩]) := tidy_out (L_escheatref16_In_of he) ho hf
theorem S_escheatref16_In_tidy {n : Nat} {args : List Val} {h h2 : Heap} {v v2 : Val} {ids : List Nat} (he : R_escheatref16_In n args (ro h) = some (v, h2)) (hc : canonV h2 h.length v = some (v2, ids)) : S_escheatref16_In args h = some (v2, h ++ ids.map (rd h2)) := tidy_of (L_escheatref16_In_of he) hc
def escheatref16_May_c0 : ACode := .ops [{ dst := some 1, op := .box (.t 0) }, { dst := some 2, op := .mv (.v (.c (.b false))) }]
def escheatref16_May_c1 : ACode := .ops [{ dst := some 4, op := .fAddr (.t 1) 0 }, { dst := some 5, op := .load1 (.t 4) }, { dst := some 6, op := .bin .eql (.t 5) (.v (.c (.i .i64 0))) }]
def escheatref16_May_c2 : ACode := .ops [{ dst := some 7, op := .loadN 11 (.t 1) }, { dst := some 8, op := .build ([.i .i64 0, .i .i64 0, .i .i64 0, .i .i64 0, .i .i64 0, .i .i64 0, .i .i64 0, .i .i64 0, .i .i64 0, .i .i64 0, .i .i64 0]) [] }, { dst := some 9, op := .eqA false ([.i .i64, .i .i64, .i .i64, .i .i64, .i .i64, .i .i64, .i .i64, .i .i64, .i .i64, .i .i64, .i .i64]) (.t 7) (.t 8) }, { dst := some 2, op := .mv (.t 9) }]
def escheatref16_May_c3 : ACode := .seq [2] escheatref16_May_c2 .ret
def escheatref16_May_c4 : ACode := .cond (.t 6) escheatref16_May_c3 .skip
def escheatref16_May_c5 : ACode := .seq [1, 6] escheatref16_May_c1 escheatref16_May_c4
def escheatref16_May_c6 : ACode := .ops [{ dst := some 3, op := .mv (.v (.c (.i .i64 0))) }]
def escheatref16_May_c7 : ACode := .ops [{ dst := some 10, op := .mv (.t 3) }, { dst := some 11, op := .bin .lss (.t 10) (.v (.c (.i .i64 6))) }]
def escheatref16_May_c8 : ACode := .cond (.t 11) .skip (.exit 0)
def escheatref16_May_c9 : ACode := .seq [1, 3, 11] escheatref16_May_c7 escheatref16_May_c8
def escheatref16_May_c10 : ACode := .ops [{ dst := some 14, op := .mv (.t 3) }, { dst := some 15, op := .fAddr (.t 1) 4 }, { dst := some 16, op := .iAddrA 6 1 (.t 15) (.t 14) }, { dst := some 17, op := .load1 (.t 16) }, { dst := some 18, op := .call 178 [(.t 17), (.v (.c (.i .i64 65535)))] }, { dst := some 19, op := .un .not (.t 18) }]
def escheatref16_May_c11 : ACode := .ops [{ dst := some 2, op := .mv (.v (.c (.b false))) }]
def escheatref16_May_c12 : ACode := .seq [2] escheatref16_May_c11 .ret
def escheatref16_May_c13 : ACode := .cond (.t 19) escheatref16_May_c12 .skip
def escheatref16_May_c14 : ACode := .seq [1, 3, 19] escheatref16_May_c10 escheatref16_May_c13
def escheatref16_May_c15 : ACode := .block 1 escheatref16_May_c14
def escheatref16_May_c16 : ACode := .ops [{ dst := some 12, op := .mv (.t 3) }, { dst := some 13, op := .bin .add (.t 12) (.v (.c (.i .i64 1))) }, { dst := some 3, op := .mv (.t 13) }]
def escheatref16_May_c17 : ACode := .seq [1, 3] escheatref16_May_c15 escheatref16_May_c16
def escheatref16_May_c18 : ACode := .seq [1, 3] escheatref16_May_c9 escheatref16_May_c17
def escheatref16_May_c19 : ACode := .loop [1, 3] escheatref16_May_c18
def escheatref16_May_c20 : ACode := .block 0 escheatref16_May_c19
def escheatref16_May_c21 : ACode := .seq [1, 3] escheatref16_May_c6 escheatref16_May_c20
def escheatref16_May_c22 : ACode := .ops [{ dst := some 20, op := .fAddr (.t 1) 0 }, { dst := some 21, op := .load1 (.t 20) }, { dst := some 22, op := .call 178 [(.t 21), (.v (.c (.i .i64 2)))] }, { dst := some 23, op := .mv (.t 22) }, { dst := some 24, op := .fAddr (.t 1) 1, guard := some (23, true) }, { dst := some 25, op := .load1 (.t 24), guard := some (23, true) }, { dst := some 26, op := .call 178 [(.t 25), (.v (.c (.i .i64 65535)))], guard := some (23, true) }, { dst := some 27, op := .pick (.t 23) (.t 26) (.v (.c (.b false))) }, { dst := some 28, op := .mv (.t 27) }, { dst := some 29, op := .fAddr (.t 1) 2, guard := some (28, true) }, { dst := some 30, op := .load1 (.t 29), guard := some (28, true) }, { dst := some 31, op := .call 178 [(.t 30), (.v (.c (.i .i64 34304)))], guard := some (28, true) }, { dst := some 32, op := .pick (.t 28) (.t 31) (.v (.c (.b false))) }, { dst := some 33, op := .mv (.t 32) }, { dst := some 34, op := .fAddr (.t 1) 3, guard := some (33, true) }, { dst := some 35, op := .load1 (.t 34), guard := some (33, true) }, { dst := some 36, op := .call 178 [(.t 35), (.v (.c (.i .i64 65535)))], guard := some (33, true) }, { dst := some 37, op := .pick (.t 33) (.t 36) (.v (.c (.b false))) }, { dst := some 38, op := .mv (.t 37) }, { dst := some 39, op := .fAddr (.t 1) 10, guard := some (38, true) }, { dst := some 40, op := .load1 (.t 39), guard := some (38, true) }, { dst := some 41, op := .call 178 [(.t 40), (.v (.c (.i .i64 65535)))], guard := some (38, true) }, { dst := some 42, op := .pick (.t 38) (.t 41) (.v (.c (.b false))) }, { dst := some 2, op := .mv (.t 42) }]
def escheatref16_May_c23 : ACode := .seq [2] escheatref16_May_c22 .ret
def escheatref16_May_c24 : ACode := .seq [1] escheatref16_May_c21 escheatref16_May_c23
def escheatref16_May_c25 : ACode := .seq [1] escheatref16_May_c5 escheatref16_May_c24
def escheatref16_May_c26 : ACode := .seq [1] escheatref16_May_c0 escheatref16_May_c25
def A_escheatref16_May : AFn := ⟨escheatref16_May_c26, [.tmp 2]⟩
noncomputable def E_escheatref16_May : Sums := fun f args h => bif Nat.beq f 178 then S_escheatref16_In args h else none
noncomputable def escheatref16_May_c0_d (n : Nat) : Sm (Val × Heap) := smOps E_escheatref16_May [{ dst := some 1, op := .box (.t 0) }, { dst := some 2, op := .mv (.v (.c (.b false))) }]
noncomputable def escheatref16_May_c1_d (n : Nat) : Sm (Val × Heap) := smOps E_escheatref16_May [{ dst := some 4, op := .fAddr (.t 1) 0 }, { dst := some 5, op := .load1 (.t 4) }, { dst := some 6, op := .bin .eql (.t 5) (.v (.c (.i .i64 0))) }]
noncomputable def escheatref16_May_c2_d (n : Nat) : Sm (Val × Heap) := smOps E_escheatref16_May [{ dst := some 7, op := .loadN 11 (.t 1) }, { dst := some 8, op := .build ([.i .i64 0, .i .i64 0, .i .i64 0, .i .i64 0, .i .i64 0, .i .i64 0, .i .i64 0, .i .i64 0, .i .i64 0, .i .i64 0, .i .i64 0]) [] }, { dst := some 9, op := .eqA false ([.i .i64, .i .i64, .i .i64, .i .i64, .i .i64, .i .i64, .i .i64, .i .i64, .i .i64, .i .i64, .i .i64]) (.t 7) (.t 8) }, { dst := some 2, op := .mv (.t 9) }]
noncomputable def escheatref16_May_c3_d (n : Nat) : Sm (Val × Heap) := smSeq [2] (escheatref16_May_c2_d n) smRet
noncomputable def escheatref16_May_c4_d (n : Nat) : Sm (Val × Heap) := smCond (.t 6) (escheatref16_May_c3_d n) smSkip
noncomputable def escheatref16_May_c5_d (n : Nat) : Sm (Val × Heap) := smSeq [1, 6] (escheatref16_May_c1_d n) (escheatref16_May_c4_d n)
noncomputable def escheatref16_May_c6_d (n : Nat) : Sm (Val × Heap) := smOps E_escheatref16_May [{ dst := some 3, op := .mv (.v (.c (.i .i64 0))) }]
noncomputable def escheatref16_May_c7_d (n : Nat) : Sm (Val × Heap) := smOps E_escheatref16_May [{ dst := some 10, op := .mv (.t 3) }, { dst := some 11, op := .bin .lss (.t 10) (.v (.c (.i .i64 6))) }]
noncomputable def escheatref16_May_c8_d (n : Nat) : Sm (Val × Heap) := smCond (.t 11) smSkip (smExit 0)
noncomputable def escheatref16_May_c9_d (n : Nat) : Sm (Val × Heap) := smSeq [1, 3, 11] (escheatref16_May_c7_d n) (escheatref16_May_c8_d n)
noncomputable def escheatref16_May_c10_d (n : Nat) : Sm (Val × Heap) := smOps E_escheatref16_May [{ dst := some 14, op := .mv (.t 3) }, { dst := some 15, op := .fAddr (.t 1) 4 }, { dst := some 16, op := .iAddrA 6 1 (.t 15) (.t 14) }, { dst := some 17, op := .load1 (.t 16) }, { dst := some 18, op := .call 178 [(.t 17), (.v (.c (.i .i64 65535)))] }, { dst := some 19, op := .un .not (.t 18) }]
noncomputable def escheatref16_May_c11_d (n : Nat) : Sm (Val × Heap) := smOps E_escheatref16_May [{ dst := some 2, op := .mv (.v (.c (.b false))) }]
noncomputable def escheatref16_May_c12_d (n : Nat) : Sm (Val × Heap) := smSeq [2] (escheatref16_May_c11_d n) smRet
noncomputable def escheatref16_May_c13_d (n : Nat) : Sm (Val × Heap) := smCond (.t 19) (escheatref16_May_c12_d n) smSkip
noncomputable def escheatref16_May_c14_d (n : Nat) : Sm (Val × Heap) := smSeq [1, 3, 19] (escheatref16_May_c10_d n) (escheatref16_May_c13_d n)
noncomputable def escheatref16_May_c15_d (n : Nat) : Sm (Val × Heap) := smBlock 1 (escheatref16_May_c14_d n)
noncomputable def escheatref16_May_c16_d (n : Nat) : Sm (Val × Heap) := smOps E_escheatref16_May [{ dst := some 12, op := .mv (.t 3) }, { dst := some 13, op := .bin .add (.t 12) (.v (.c (.i .i64 1))) }, { dst := some 3, op := .mv (.t 13) }]
noncomputable def escheatref16_May_c17_d (n : Nat) : Sm (Val × Heap) := smSeq [1, 3] (escheatref16_May_c15_d n) (escheatref16_May_c16_d n)
noncomputable def escheatref16_May_c18_d (n : Nat) : Sm (Val × Heap) := smSeq [1, 3] (escheatref16_May_c9_d n) (escheatref16_May_c17_d n)
noncomputable def escheatref16_May_c19_d (n : Nat) : Sm (Val × Heap) := smLoop n [1, 3] (escheatref16_May_c18_d n)
noncomputable def escheatref16_May_c20_d (n : Nat) : Sm (Val × Heap) := smBlock 0 (escheatref16_May_c19_d n)
noncomputable def escheatref16_May_c21_d (n : Nat) : Sm (Val × Heap) := smSeq [1, 3] (escheatref16_May_c6_d n) (escheatref16_May_c20_d n)
noncomputable def escheatref16_May_c22_d (n : Nat) : Sm (Val × Heap) := smOps E_escheatref16_May [{ dst := some 20, op := .fAddr (.t 1) 0 }, { dst := some 21, op := .load1 (.t 20) }, { dst := some 22, op := .call 178 [(.t 21), (.v (.c (.i .i64 2)))] }, { dst := some 23, op := .mv (.t 22) }, { dst := some 24, op := .fAddr (.t 1) 1, guard := some (23, true) }, { dst := some 25, op := .load1 (.t 24), guard := some (23, true) }, { dst := some 26, op := .call 178 [(.t 25), (.v (.c (.i .i64 65535)))], guard := some (23, true) }, { dst := some 27, op := .pick (.t 23) (.t 26) (.v (.c (.b false))) }, { dst := some 28, op := .mv (.t 27) }, { dst := some 29, op := .fAddr (.t 1) 2, guard := some (28, true) }, { dst := some 30, op := .load1 (.t 29), guard := some (28, true) }, { dst := some 31, op := .call 178 [(.t 30), (.v (.c (.i .i64 34304)))], guard := some (28, true) }, { dst := some 32, op := .pick (.t 28) (.t 31) (.v (.c (.b false))) }, { dst := some 33, op := .mv (.t 32) }, { dst := some 34, op := .fAddr (.t 1) 3, guard := some (33, true) }, { dst := some 35, op := .load1 (.t 34), guard := some (33, true) }, { dst := some 36, op := .call 178 [(.t 35), (.v (.c (.i .i64 65535)))], guard := some (33, true) }, { dst := some 37, op := .pick (.t 33) (.t 36) (.v (.c (.b false))) }, { dst := some 38, op := .mv (.t 37) }, { dst := some 39, op := .fAddr (.t 1) 10, guard := some (38, true) }, { dst := some 40, op := .load1 (.t 39), guard := some (38, true) }, { dst := some 41, op := .call 178 [(.t 40), (.v (.c (.i .i64 65535)))], guard := some (38, true) }, { dst := some 42, op := .pick (.t 38) (.t 41) (.v (.c (.b false))) }, { dst := some 2, op := .mv (.t 42) }]
noncomputable def escheatref16_May_c23_d (n : Nat) : Sm (Val × Heap) := smSeq [2] (escheatref16_May_c22_d n) smRet
noncomputable def escheatref16_May_c24_d (n : Nat) : Sm (Val × Heap) := smSeq [1] (escheatref16_May_c21_d n) (escheatref16_May_c23_d n)
noncomputable def escheatref16_May_c25_d (n : Nat) : Sm (Val × Heap) := smSeq [1] (escheatref16_May_c5_d n) (escheatref16_May_c24_d n)
noncomputable def escheatref16_May_c26_d (n : Nat) : Sm (Val × Heap) := smSeq [1] (escheatref16_May_c0_d n) (escheatref16_May_c25_d n)
noncomputable def escheatref16_May_k0 (n : Nat) : AExit → Env → Heap → Option (Val × Heap) := fun x e h => match x with | .normal => hold ((escheatref16_May_c23_d n) A_escheatref16_May.fin (e.keep [1]) h) | .exit id => A_escheatref16_May.fin (.exit id) e h | .ret => A_escheatref16_May.fin .ret e h
noncomputable def escheatref16_May_k1 (n : Nat) : AExit → Env → Heap → Option (Val × Heap) := fun x e h => match x with | .exit i => bif Nat.beq i 0 then (escheatref16_May_k0 n) .normal e h else (escheatref16_May_k0 n) (.exit i) e h | .normal => (escheatref16_May_k0 n) .normal e h | .ret => (escheatref16_May_k0 n) .ret e h
noncomputable def escheatref16_May_l0 (n m : Nat) (x1 x3 : Val) (h : Heap) : Option (Val × Heap) := around (escheatref16_May_c18_d n) [1, 3] (escheatref16_May_k1 n) m [(1, x1), (3, x3)] h
noncomputable def R_escheatref16_May (n : Nat) (args : List Val) (h : Heap) : Option (Val × Heap) := (escheatref16_May_c26_d n) A_escheatref16_May.fin (params 0 args) h
theorem R_escheatref16_May_run (n : Nat) (args : List Val) (h : Heap) : A_escheatref16_May.run E_escheatref16_May n args h = R_escheatref16_May n args h := by kernel_rfl
theorem R_escheatref16_May_eq (n : Nat) (a0 : Val) (h : Heap) : R_escheatref16_May n [a0] h = bnd (cells? a0) fun c1 => bnd (afAddr ((.c (.p h.length 0))) 0) fun v2 => bnd (aload1 ((h ++ [some (Row.mk (c1) true)])) v2) fun v3 => bnd (abin .eql v3 (.c (.i .i64 0))) fun v4 => cnd v4 (bnd (aloadN ((h ++ [some (Row.mk (c1) true)])) 11 ((.c (.p h.length 0)))) fun v5 => bnd (afill ([.i .i64 0, .i .i64 0, .i .i64 0, .i .i64 0, .i .i64 0, .i .i64 0, .i .i64 0, .i .i64 0, .i .i64 0, .i .i64 0, .i .i64 0]) []) fun c6 => bnd (aeq false ([.i .i64, .i .i64, .i .i64, .i .i64, .i .i64, .i .i64, .i .i64, .i .i64, .i .i64, .i .i64, .i .i64]) v5 ((.a c6))) fun v7 => some (v7, (h ++ [some (Row.mk (c1) true)]))) (escheatref16_May_l0 n n ((.c (.p h.length 0))) (.c (.i .i64 0)) ((h ++ [some (Row.mk (c1) true)]))) := by kernel_rfl
theorem escheatref16_May_l0_eq (n m : Nat) (x1 x3 : Val) (h : Heap) : escheatref16_May_l0 n (m + 1) x1 x3 h = bnd (abin .lss x3 (.c (.i .i64 6))) fun v8 => cnd v8 (bnd (afAddr x1 4) fun v9 => bnd (aiAddrA 6 1 v9 x3) fun v10 => bnd (aload1 h v10) fun v11 => bnd (S_escheatref16_In [v11, .c (.i .i64 65535)] h) fun p12 => bnd (aun .not p12.1) fun v13 => cnd v13 (some ((.c (.b false)), p12.2)) (bnd (abin .add x3 (.c (.i .i64 1))) fun v14 => escheatref16_May_l0 n m x1 v14 p12.2)) (bnd (afAddr x1 0) fun v15 => bnd (aload1 h v15) fun v16 => bnd (S_escheatref16_In [v16, .c (.i .i64 2)] h) fun p17 => bnd (gd p17.1 true (bnd (afAddr x1 1) fun v18 => some (v18, p17.2)) (some (.no, p17.2))) fun p19 => bnd (gd p17.1 true (bnd (aload1 p19.2 p19.1) fun v20 => some (v20, p19.2)) (some (.no, p19.2))) fun p21 => bnd (gd p17.1 true (bnd (S_escheatref16_In [p21.1, .c (.i .i64 65535)] p21.2) fun p22 => some (p22.1, p22.2)) (some (.no, p21.2))) fun p23 => bnd (apick p17.1 p23.1 (.c (.b false))) fun v24 => bnd (gd v24 true (bnd (afAddr x1 2) fun v25 => some (v25, p23.2)) (some (.no, p23.2))) fun p26 => bnd (gd v24 true (bnd (aload1 p26.2 p26.1) fun v27 => some (v27, p26.2)) (some (.no, p26.2))) fun p28 => bnd (gd v24 true (bnd (S_escheatref16_In [p28.1, .c (.i .i64 34304)] p28.2) fun p29 => some (p29.1, p29.2)) (some (.no, p28.2))) fun p30 => bnd (apick v24 p30.1 (.c (.b false))) fun v31 => bnd (gd v31 true (bnd (afAddr x1 3) fun v32 => some (v32, p30.2)) (some (.no, p30.2))) fun p33 => bnd (gd v31 true (bnd (aload1 p33.2 p33.1) fun v34 => some (v34, p33.2)) (some (.no, p33.2))) fun p35 => bnd (gd v31 true (bnd (S_escheatref16_In [p35.1, .c (.i .i64 65535)] p35.2) fun p36 => some (p36.1, p36.2)) (some (.no, p35.2))) fun p37 => bnd (apick v31 p37.1 (.c (.b false))) fun v38 => bnd (gd v38 true (bnd (afAddr x1 10) fun v39 => some (v39, p37.2)) (some (.no, p37.2))) fun p40 => bnd (gd v38 true (bnd (aload1 p40.2 p40.1) fun v41 => some (v41, p40.2)) (some (.no, p40.2))) fun p42 => bnd (gd v38 true (bnd (S_escheatref16_In [p42.1, .c (.i .i64 65535)] p42.2) fun p43 => some (p43.1, p43.2)) (some (.no, p42.2))) fun p44 => bnd (apick v38 p44.1 (.c (.b false))) fun v45 => some (v45, p44.2)) := by kernel_rfl
theorem chk_escheatref16_May : chkFn Try.prog Try.f95 A_escheatref16_May = true := by kernel_rfl
theorem E_escheatref16_May_sound : Sound Try.prog E_escheatref16_May := by
  intro f args h v h2 he
  unfold E_escheatref16_May at he
  cases hb0 : Nat.beq f 178 with
  | true => rw [hb0] at he; have e := Nat.eq_of_beq_eq_true hb0; subst e; exact S_escheatref16_In_ok args h v h2 he
  | false =>
    rw [hb0] at he; simp only [cond_false] at he
    cases he

theorem R_escheatref16_May_ok {n : Nat} {args : List Val} {h h2 : Heap} {v : Val} (he : R_escheatref16_May n args h = some (v, h2)) : Callable Try.prog 95 ∧ CallOk Try.prog 95 args h v h2 ∧ h.length ≤ h2.length := fn_ok E_escheatref16_May_sound Try.func95 chk_escheatref16_May ((R_escheatref16_May_run ..).trans he)
theorem L_escheatref16_May_ok (args : List Val) (h : Heap) (v : Val) (h2 : Heap) (he : Lim A_escheatref16_May E_escheatref16_May args h = some (v, h2)) : Callable Try.prog 95 ∧ CallOk Try.prog 95 args h v h2 ∧ h.length ≤ h2.length := (Lim_run he).elim fun _ e => R_escheatref16_May_ok ((R_escheatref16_May_run ..).symm.trans e)
theorem L_escheatref16_May_of {n : Nat} {args : List Val} {h : Heap} {p : Val × Heap} (he : R_escheatref16_May n args h = some p) : Lim A_escheatref16_May E_escheatref16_May args h = some p := Lim_of ((R_escheatref16_May_run ..).trans he)
noncomputable def S_escheatref16_May : List Val → Heap → Option (Val × Heap) := tidy (Lim A_escheatref16_May E_escheatref16_May)
theorem S_escheatref16_May_ok (args : List Val) (h : Heap) (v : Val) (h2 : Heap) (he : S_escheatref16_May args h = some (v, h2)) : Callable Try.prog 95 ∧ CallOk Try.prog 95 args h v h2 ∧ h.length ≤ h2.length := tidy_ok L_escheatref16_May_ok args h v h2 he
theorem S_escheatref16_May_flat {n : Nat} {args : List Val} {h h2 : Heap} {v : Val} (he : R_escheatref16_May n args (ro h) = some (v, h2)) (hf : v.flat = true) : S_escheatref16_May args h = some (v, h) := tidy_flat (L_escheatref16_May_of he) hf
theorem S_escheatref16_May_low {n : Nat} {args : List Val} {h h2 : Heap} {v : Val} (he : R_escheatref16_May n args (ro h) = some (v, h2)) (hf : v.low h.length = true) : S_escheatref16_May args h = some (v, h) := tidy_low (L_escheatref16_May_of he) hf
theorem S_escheatref16_May_out {n : Nat} {args : List Val} {h h2 : Heap} {v : Val} {sz k : Nat} {cs : List Cell} (he : R_escheatref16_May n args (ro h) = some (v, h2)) (ho : Out h.length h2 v sz k cs) (hf : flats cs = true) : S_escheatref16_May args h = some (.c (.sl h.length 0 k sz), h ++ [some ⟨cs, true⟩]) := tidy_out (L_escheatref16_May_of he) ho hf
theorem S_escheatref16_May_tidy {n : Nat} {args : List Val} {h h2 : Heap} {v v2 : Val} {ids : List Nat} (he : R_escheatref16_May n args (ro h) = some (v, h2)) (hc : canonV h2 h.length v = some (v2, ids)) : S_escheatref16_May args h = some (v2, h ++ ids.map (rd h2)) := tidy_of (L_escheatref16_May_of he) hc
def escheatref16_Put_c0 : ACode := .ops [{ dst := some 1, op := .box (.t 0) }, { dst := some 2, op := .nilrow 1 }]
def escheatref16_Put_c1 : ACode := .ops [{ dst := some 5, op := .fAddr (.t 1) 0 }, { dst := some 6, op := .load1 (.t 5) }, { dst := some 7, op := .conv .u8 (.t 6) }, { dst := some 8, op := .buildSl 1 2 ([.i .u8 0, .i .u8 0]) [(0, 1, (.t 7)), (1, 1, (.v (.c (.i .u8 0))))] }, { dst := some 3, op := .mv (.t 8) }]
def escheatref16_Put_c2 : ACode := .ops [{ dst := some 9, op := .mv (.t 3) }, { dst := some 10, op := .fAddr (.t 1) 1 }, { dst := some 11, op := .load1 (.t 10) }, { dst := some 12, op := .conv .u64 (.t 11) }, { dst := some 13, op := .call 106 [(.v (.c (.i .i64 2))), (.t 12)] }, { dst := some 14, op := .app 1 (.t 9) (.t 13) }, { dst := some 3, op := .mv (.t 14) }]
def escheatref16_Put_c3 : ACode := .ops [{ dst := some 15, op := .mv (.t 3) }, { dst := some 16, op := .fAddr (.t 1) 2 }, { dst := some 17, op := .load1 (.t 16) }, { dst := some 18, op := .conv .u64 (.t 17) }, { dst := some 19, op := .call 106 [(.v (.c (.i .i64 4))), (.t 18)] }, { dst := some 20, op := .app 1 (.t 15) (.t 19) }, { dst := some 3, op := .mv (.t 20) }]
def escheatref16_Put_c4 : ACode := .ops [{ dst := some 21, op := .mv (.t 3) }, { dst := some 22, op := .fAddr (.t 1) 3 }, { dst := some 23, op := .load1 (.t 22) }, { dst := some 24, op := .conv .u64 (.t 23) }, { dst := some 25, op := .call 106 [(.v (.c (.i .i64 2))), (.t 24)] }, { dst := some 26, op := .app 1 (.t 21) (.t 25) }, { dst := some 3, op := .mv (.t 26) }]
def escheatref16_Put_c5 : ACode := .ops [{ dst := some 4, op := .mv (.v (.c (.i .i64 0))) }]
def escheatref16_Put_c6 : ACode := .ops [{ dst := some 27, op := .mv (.t 4) }, { dst := some 28, op := .bin .lss (.t 27) (.v (.c (.i .i64 6))) }]
def escheatref16_Put_c7 : ACode := .cond (.t 28) .skip (.exit 0)
def escheatref16_Put_c8 : ACode := .seq [1, 3, 4, 28] escheatref16_Put_c6 escheatref16_Put_c7
def escheatref16_Put_c9 : ACode := .ops [{ dst := some 31, op := .mv (.t 3) }, { dst := some 32, op := .mv (.t 4) }, { dst := some 33, op := .fAddr (.t 1) 4 }, { dst := some 34, op := .iAddrA 6 1 (.t 33) (.t 32) }, { dst := some 35, op := .load1 (.t 34) }, { dst := some 36, op := .conv .u64 (.t 35) }, { dst := some 37, op := .call 106 [(.v (.c (.i .i64 2))), (.t 36)] }, { dst := some 38, op := .app 1 (.t 31) (.t 37) }, { dst := some 3, op := .mv (.t 38) }]
def escheatref16_Put_c10 : ACode := .block 1 escheatref16_Put_c9
def escheatref16_Put_c11 : ACode := .ops [{ dst := some 29, op := .mv (.t 4) }, { dst := some 30, op := .bin .add (.t 29) (.v (.c (.i .i64 1))) }, { dst := some 4, op := .mv (.t 30) }]
def escheatref16_Put_c12 : ACode := .seq [1, 3, 4] escheatref16_Put_c10 escheatref16_Put_c11
def escheatref16_Put_c13 : ACode := .seq [1, 3, 4] escheatref16_Put_c8 escheatref16_Put_c12
def escheatref16_Put_c14 : ACode := .loop [1, 3, 4] escheatref16_Put_c13
def escheatref16_Put_c15 : ACode := .block 0 escheatref16_Put_c14
def escheatref16_Put_c16 : ACode := .seq [1, 3, 4] escheatref16_Put_c5 escheatref16_Put_c15
def escheatref16_Put_c17 : ACode := .ops [{ dst := some 39, op := .mv (.t 3) }, { dst := some 40, op := .fAddr (.t 1) 10 }, { dst := some 41, op := .load1 (.t 40) }, { dst := some 42, op := .conv .u64 (.t 41) }, { dst := some 43, op := .call 106 [(.v (.c (.i .i64 2))), (.t 42)] }, { dst := some 44, op := .app 1 (.t 39) (.t 43) }, { dst := some 3, op := .mv (.t 44) }]
def escheatref16_Put_c18 : ACode := .ops [{ dst := some 45, op := .mv (.t 3) }, { dst := some 46, op := .appZ 1 ([.i .u8 0]) (.t 45) (.v (.c (.i .i64 8))) }, { dst := some 2, op := .mv (.t 46) }]
def escheatref16_Put_c19 : ACode := .seq [2] escheatref16_Put_c18 .ret
def escheatref16_Put_c20 : ACode := .seq [3] escheatref16_Put_c17 escheatref16_Put_c19
def escheatref16_Put_c21 : ACode := .seq [1, 3] escheatref16_Put_c16 escheatref16_Put_c20
def escheatref16_Put_c22 : ACode := .seq [1, 3] escheatref16_Put_c4 escheatref16_Put_c21
def escheatref16_Put_c23 : ACode := .seq [1, 3] escheatref16_Put_c3 escheatref16_Put_c22
def escheatref16_Put_c24 : ACode := .seq [1, 3] escheatref16_Put_c2 escheatref16_Put_c23
def escheatref16_Put_c25 : ACode := .seq [1, 3] escheatref16_Put_c1 escheatref16_Put_c24
def escheatref16_Put_c26 : ACode := .seq [1] escheatref16_Put_c0 escheatref16_Put_c25
def A_escheatref16_Put : AFn := ⟨escheatref16_Put_c26, [.tmp 2]⟩
noncomputable def E_escheatref16_Put : Sums := fun f args h => bif Nat.beq f 106 then S_escheatref01_Bytes args h else none
noncomputable def escheatref16_Put_c0_d (n : Nat) : Sm (Val × Heap) := smOps E_escheatref16_Put [{ dst := some 1, op := .box (.t 0) }, { dst := some 2, op := .nilrow 1 }]
noncomputable def escheatref16_Put_c1_d (n : Nat) : Sm (Val × Heap) := smOps E_escheatref16_Put [{ dst := some 5, op := .fAddr (.t 1) 0 }, { dst := some 6, op := .load1 (.t 5) }, { dst := some 7, op := .conv .u8 (.t 6) }, { dst := some 8, op := .buildSl 1 2 ([.i .u8 0, .i .u8 0]) [(0, 1, (.t 7)), (1, 1, (.v (.c (.i .u8 0))))] }, { dst := some 3, op := .mv (.t 8) }]
noncomputable def escheatref16_Put_c2_d (n : Nat) : Sm (Val × Heap) := smOps E_escheatref16_Put [{ dst := some 9, op := .mv (.t 3) }, { dst := some 10, op := .fAddr (.t 1) 1 }, { dst := some 11, op := .load1 (.t 10) }, { dst := some 12, op := .conv .u64 (.t 11) }, { dst := some 13, op := .call 106 [(.v (.c (.i .i64 2))), (.t 12)] }, { dst := some 14, op := .app 1 (.t 9) (.t 13) }, { dst := some 3, op := .mv (.t 14) }]
noncomputable def escheatref16_Put_c3_d (n : Nat) : Sm (Val × Heap) := smOps E_escheatref16_Put [{ dst := some 15, op := .mv (.t 3) }, { dst := some 16, op := .fAddr (.t 1) 2 }, { dst := some 17, op := .load1 (.t 16) }, { dst := some 18, op := .conv .u64 (.t 17) }, { dst := some 19, op := .call 106 [(.v (.c (.i .i64 4))), (.t 18)] }, { dst := some 20, op := .app 1 (.t 15) (.t 19) }, { dst := some 3, op := .mv (.t 20) }]
noncomputable def escheatref16_Put_c4_d (n : Nat) : Sm (Val × Heap) := smOps E_escheatref16_Put [{ dst := some 21, op := .mv (.t 3) }, { dst := some 22, op := .fAddr (.t 1) 3 }, { dst := some 23, op := .load1 (.t 22) }, { dst := some 24, op := .conv .u64 (.t 23) }, { dst := some 25, op := .call 106 [(.v (.c (.i .i64 2))), (.t 24)] }, { dst := some 26, op := .app 1 (.t 21) (.t 25) }, { dst := some 3, op := .mv (.t 26) }]
noncomputable def escheatref16_Put_c5_d (n : Nat) : Sm (Val × Heap) := smOps E_escheatref16_Put [{ dst := some 4, op := .mv (.v (.c (.i .i64 0))) }]
noncomputable def escheatref16_Put_c6_d (n : Nat) : Sm (Val × Heap) := smOps E_escheatref16_Put [{ dst := some 27, op := .mv (.t 4) }, { dst := some 28, op := .bin .lss (.t 27) (.v (.c (.i .i64 6))) }]
noncomputable def escheatref16_Put_c7_d (n : Nat) : Sm (Val × Heap) := smCond (.t 28) smSkip (smExit 0)
noncomputable def escheatref16_Put_c8_d (n : Nat) : Sm (Val × Heap) := smSeq [1, 3, 4, 28] (escheatref16_Put_c6_d n) (escheatref16_Put_c7_d n)
noncomputable def escheatref16_Put_c9_d (n : Nat) : Sm (Val × Heap) := smOps E_escheatref16_Put [{ dst := some 31, op := .mv (.t 3) }, { dst := some 32, op := .mv (.t 4) }, { dst := some 33, op := .fAddr (.t 1) 4 }, { dst := some 34, op := .iAddrA 6 1 (.t 33) (.t 32) }, { dst := some 35, op := .load1 (.t 34) }, { dst := some 36, op := .conv .u64 (.t 35) }, { dst := some 37, op := .call 106 [(.v (.c (.i .i64 2))), (.t 36)] }, { dst := some 38, op := .app 1 (.t 31) (.t 37) }, { dst := some 3, op := .mv (.t 38) }]
noncomputable def escheatref16_Put_c10_d (n : Nat) : Sm (Val × Heap) := smBlock 1 (escheatref16_Put_c9_d n)
noncomputable def escheatref16_Put_c11_d (n : Nat) : Sm (Val × Heap) := smOps E_escheatref16_Put [{ dst := some 29, op := .mv (.t 4) }, { dst := some 30, op := .bin .add (.t 29) (.v (.c (.i .i64 1))) }, { dst := some 4, op := .mv (.t 30) }]
noncomputable def escheatref16_Put_c12_d (n : Nat) : Sm (Val × Heap) := smSeq [1, 3, 4] (escheatref16_Put_c10_d n) (escheatref16_Put_c11_d n)
noncomputable def escheatref16_Put_c13_d (n : Nat) : Sm (Val × Heap) := smSeq [1, 3, 4] (escheatref16_Put_c8_d n) (escheatref16_Put_c12_d n)
noncomputable def escheatref16_Put_c14_d (n : Nat) : Sm (Val × Heap) := smLoop n [1, 3, 4] (escheatref16_Put_c13_d n)
noncomputable def escheatref16_Put_c15_d (n : Nat) : Sm (Val × Heap) := smBlock 0 (escheatref16_Put_c14_d n)
noncomputable def escheatref16_Put_c16_d (n : Nat) : Sm (Val × Heap) := smSeq [1, 3, 4] (escheatref16_Put_c5_d n) (escheatref16_Put_c15_d n)
noncomputable def escheatref16_Put_c17_d (n : Nat) : Sm (Val × Heap) := smOps E_escheatref16_Put [{ dst := some 39, op := .mv (.t 3) }, { dst := some 40, op := .fAddr (.t 1) 10 }, { dst := some 41, op := .load1 (.t 40) }, { dst := some 42, op := .conv .u64 (.t 41) }, { dst := some 43, op := .call 106 [(.v (.c (.i .i64 2))), (.t 42)] }, { dst := some 44, op := .app 1 (.t 39) (.t 43) }, { dst := some 3, op := .mv (.t 44) }]
noncomputable def escheatref16_Put_c18_d (n : Nat) : Sm (Val × Heap) := smOps E_escheatref16_Put [{ dst := some 45, op := .mv (.t 3) }, { dst := some 46, op := .appZ 1 ([.i .u8 0]) (.t 45) (.v (.c (.i .i64 8))) }, { dst := some 2, op := .mv (.t 46) }]
noncomputable def escheatref16_Put_c19_d (n : Nat) : Sm (Val × Heap) := smSeq [2] (escheatref16_Put_c18_d n) smRet
noncomputable def escheatref16_Put_c20_d (n : Nat) : Sm (Val × Heap) := smSeq [3] (escheatref16_Put_c17_d n) (escheatref16_Put_c19_d n)
noncomputable def escheatref16_Put_c21_d (n : Nat) : Sm (Val × Heap) := smSeq [1, 3] (escheatref16_Put_c16_d n) (escheatref16_Put_c20_d n)
noncomputable def escheatref16_Put_c22_d (n : Nat) : Sm (Val × Heap) := smSeq [1, 3] (escheatref16_Put_c4_d n) (escheatref16_Put_c21_d n)
noncomputable def escheatref16_Put_c23_d (n : Nat) : Sm (Val × Heap) := smSeq [1, 3] (escheatref16_Put_c3_d n) (escheatref16_Put_c22_d n)
noncomputable def escheatref16_Put_c24_d (n : Nat) : Sm (Val × Heap) := smSeq [1, 3] (escheatref16_Put_c2_d n) (escheatref16_Put_c23_d n)
noncomputable def escheatref16_Put_c25_d (n : Nat) : Sm (Val × Heap) := smSeq [1, 3] (escheatref16_Put_c1_d n) (escheatref16_Put_c24_d n)
noncomputable def escheatref16_Put_c26_d (n : Nat) : Sm (Val × Heap) := smSeq [1] (escheatref16_Put_c0_d n) (escheatref16_Put_c25_d n)
noncomputable def escheatref16_Put_k0 (n : Nat) : AExit → Env → Heap → Option (Val × Heap) := fun x e h => match x with | .normal => hold ((escheatref16_Put_c20_d n) A_escheatref16_Put.fin (e.keep [1, 3]) h) | .exit id => A_escheatref16_Put.fin (.exit id) e h | .ret => A_escheatref16_Put.fin .ret e h
noncomputable def escheatref16_Put_k1 (n : Nat) : AExit → Env → Heap → Option (Val × Heap) := fun x e h => match x with | .exit i => bif Nat.beq i 0 then (escheatref16_Put_k0 n) .normal e h else (escheatref16_Put_k0 n) (.exit i) e h | .normal => (escheatref16_Put_k0 n) .normal e h | .ret => (escheatref16_Put_k0 n) .ret e h
noncomputable def escheatref16_Put_l0 (n m : Nat) (x1 x3 x4 : Val) (h : Heap) : Option (Val × Heap) := around (escheatref16_Put_c13_d n) [1, 3, 4] (escheatref16_Put_k1 n) m [(1, x1), (3, x3), (4, x4)] h
noncomputable def R_escheatref16_Put (n : Nat) (args : List Val) (h : Heap) : Option (Val × Heap) := (escheatref16_Put_c26_d n) A_escheatref16_Put.fin (params 0 args) h
theorem R_escheatref16_Put_run (n : Nat) (args : List Val) (h : Heap) : A_escheatref16_Put.run E_escheatref16_Put n args h = R_escheatref16_Put n args h := by kernel_rfl
theorem R_escheatref16_Put_eq (n : Nat) (a0 : Val) (h : Heap) : R_escheatref16_Put n [a0] h = bnd (cells? a0) fun c1 => bnd (afAddr ((.c (.p h.length 0))) 0) fun v2 => bnd (aload1 (((h ++ [some (Row.mk (c1) true)]) ++ [some (Row.mk ([]) true)])) v2) fun v3 => bnd (aconv .u8 v3) fun v4 => bnd (afill ([.i .u8 0, .i .u8 0]) [(0, 1, v4), (1, 1, .c (.i .u8 0))]) fun c5 => bnd (afAddr ((.c (.p h.length 0))) 1) fun v6 => bnd (aload1 ((((h ++ [some (Row.mk (c1) true)]) ++ [some (Row.mk ([]) true)]) ++ [some (Row.mk (c5) true)])) v6) fun v7 => bnd (aconv .u64 v7) fun v8 => bnd (S_escheatref01_Bytes [.c (.i .i64 2), v8] ((((h ++ [some (Row.mk (c1) true)]) ++ [some (Row.mk ([]) true)]) ++ [some (Row.mk (c5) true)]))) fun p9 => bnd (aapp p9.2 1 ((.c (.sl (((h ++ [some (Row.mk (c1) true)]) ++ [some (Row.mk ([]) true)])).length 0 2 1))) p9.1) fun p10 => bnd (afAddr ((.c (.p h.length 0))) 2) fun v11 => bnd (aload1 p10.2 v11) fun v12 => bnd (aconv .u64 v12) fun v13 => bnd (S_escheatref01_Bytes [.c (.i .i64 4), v13] p10.2) fun p14 => bnd (aapp p14.2 1 p10.1 p14.1) fun p15 => bnd (afAddr ((.c (.p h.length 0))) 3) fun v16 => bnd (aload1 p15.2 v16) fun v17 => bnd (aconv .u64 v17) fun v18 => bnd (S_escheatref01_Bytes [.c (.i .i64 2), v18] p15.2) fun p19 => bnd (aapp p19.2 1 p15.1 p19.1) fun p20 => escheatref16_Put_l0 n n ((.c (.p h.length 0))) p20.1 (.c (.i .i64 0)) p20.2 := by kernel_rfl
theorem escheatref16_Put_l0_eq (n m : Nat) (x1 x3 x4 : Val) (h : Heap) : escheatref16_Put_l0 n (m + 1) x1 x3 x4 h = bnd (abin .lss x4 (.c (.i .i64 6))) fun v21 => cnd v21 (bnd (afAddr x1 4) fun v22 => bnd (aiAddrA 6 1 v22 x4) fun v23 => bnd (aload1 h v23) fun v24 => bnd (aconv .u64 v24) fun v25 => bnd (S_escheatref01_Bytes [.c (.i .i64 2), v25] h) fun p26 => bnd (aapp p26.2 1 x3 p26.1) fun p27 => bnd (abin .add x4 (.c (.i .i64 1))) fun v28 => escheatref16_Put_l0 n m x1 p27.1 v28 p27.2) (bnd (afAddr x1 10) fun v29 => bnd (aload1 h v29) fun v30 => bnd (aconv .u64 v30) fun v31 => bnd (S_escheatref01_Bytes [.c (.i .i64 2), v31] h) fun p32 => bnd (aapp p32.2 1 x3 p32.1) fun p33 => bnd (aappZ p33.2 1 ([.i .u8 0]) p33.1 (.c (.i .i64 8))) fun p34 => some (p34.1, p34.2)) := by kernel_rfl
theorem chk_escheatref16_Put : chkFn Try.prog Try.f97 A_escheatref16_Put = true := by kernel_rfl
theorem E_escheatref16_Put_sound : Sound Try.prog E_escheatref16_Put := by
  intro f args h v h2 he
  unfold E_escheatref16_Put at he
  cases hb0 : Nat.beq f 106 with
  | true => rw [hb0] at he; have e := Nat.eq_of_beq_eq_true hb0; subst e; exact S_escheatref01_Bytes_ok args h v h2 he
  | false =>
    rw [hb0] at he; simp only [cond_false] at he
    cases he

theorem R_escheatref16_Put_ok {n : Nat} {args : List Val} {h h2 : Heap} {v : Val} (he : R_escheatref16_Put n args h = some (v, h2)) : Callable Try.prog 97 ∧ CallOk Try.prog 97 args h v h2 ∧ h.length ≤ h2.length := fn_ok E_escheatref16_Put_sound Try.func97 chk_escheatref16_Put ((R_escheatref16_Put_run ..).trans he)
theorem L_escheatref16_Put_ok (args : List Val) (h : Heap) (v : Val) (h2 : Heap) (he : Lim A_escheatref16_Put E_escheatref16_Put args h = some (v, h2)) : Callable Try.prog 97 ∧ CallOk Try.prog 97 args h v h2 ∧ h.length ≤ h2.length := (Lim_run he).elim fun _ e => R_escheatref16_Put_ok ((R_escheatref16_Put_run ..).symm.trans e)
theorem L_escheatref16_Put_of {n : Nat} {args : List Val} {h : Heap} {p : Val × Heap} (he : R_escheatref16_Put n args h = some p) : Lim A_escheatref16_Put E_escheatref16_Put args h = some p := Lim_of ((R_escheatref16_Put_run ..).trans he)
noncomputable def S_escheatref16_Put : List Val → Heap → Option (Val × Heap) := tidy (Lim A_escheatref16_Put E_escheatref16_Put)
theorem S_escheatref16_Put_ok (args : List Val) (h : Heap) (v : Val) (h2 : Heap) (he : S_escheatref16_Put args h = some (v, h2)) : Callable Try.prog 97 ∧ CallOk Try.prog 97 args h v h2 ∧ h.length ≤ h2.length := tidy_ok L_escheatref16_Put_ok args h v h2 he
theorem S_escheatref16_Put_flat {n : Nat} {args : List Val} {h h2 : Heap} {v : Val} (he : R_escheatref16_Put n args (ro h) = some (v, h2)) (hf : v.flat = true) : S_escheatref16_Put args h = some (v, h) := tidy_flat (L_escheatref16_Put_of he) hf
theorem S_escheatref16_Put_low {n : Nat} {args : List Val} {h h2 : Heap} {v : Val} (he : R_escheatref16_Put n args (ro h) = some (v, h2)) (hf : v.low h.length = true) : S_escheatref16_Put args h = some (v, h) := tidy_low (L_escheatref16_Put_of he) hf
theorem S_escheatref16_Put_out {n : Nat} {args : List Val} {h h2 : Heap} {v : Val} {sz k : Nat} {cs : List Cell} (he : R_escheatref16_Put n args (ro h) = some (v, h2)) (ho : Out h.length h2 v sz k cs) (hf : flats cs = true) : S_escheatref16_Put args h = some (.c (.sl h.length 0 k sz), h ++ [some ⟨cs, true⟩]) := tidy_out (L_escheatref16_Put_of he) ho hf
theorem S_escheatref16_Put_tidy {n : Nat} {args : List Val} {h h2 : Heap} {v v2 : Val} {ids : List Nat} (he : R_escheatref16_Put n args (ro h) = some (v, h2)) (hc : canonV h2 h.length v = some (v2, ids)) : S_escheatref16_Put args h = some (v2, h ++ ids.map (rd h2)) := tidy_of (L_escheatref16_Put_of he) hc
def escheatref16_Get_c0 : ACode := .ops [{ dst := some 2, op := .alloc ([.i .i64 0, .i .i64 0, .i .i64 0, .i .i64 0, .i .i64 0, .i .i64 0, .i .i64 0, .i .i64 0, .i .i64 0, .i .i64 0, .i .i64 0]) }]
def escheatref16_Get_c1 : ACode := .ops [{ dst := some 5, op := .mv (.t 0) }, { dst := some 6, op := .call 83 [(.t 5), (.v (.c (.i .i64 0))), (.v (.c (.i .i64 1)))] }, { dst := some 7, op := .mv (.t 0) }, { dst := some 8, op := .call 83 [(.t 7), (.v (.c (.i .i64 2))), (.v (.c (.i .i64 2)))] }, { dst := some 9, op := .mv (.t 0) }, { dst := some 10, op := .call 83 [(.t 9), (.v (.c (.i .i64 4))), (.v (.c (.i .i64 4)))] }, { dst := some 11, op := .mv (.t 0) }, { dst := some 12, op := .call 83 [(.t 11), (.v (.c (.i .i64 8))), (.v (.c (.i .i64 2)))] }, { dst := some 13, op := .build ([.i .i64 0, .i .i64 0, .i .i64 0, .i .i64 0, .i .i64 0, .i .i64 0, .i .i64 0, .i .i64 0, .i .i64 0, .i .i64 0, .i .i64 0]) [(0, 1, (.t 6)), (1, 1, (.t 8)), (2, 1, (.t 10)), (3, 1, (.t 12))] }, { dst := some 3, op := .alloc ([.i .i64 0, .i .i64 0, .i .i64 0, .i .i64 0, .i .i64 0, .i .i64 0, .i .i64 0, .i .i64 0, .i .i64 0, .i .i64 0, .i .i64 0]) }, { dst := none, op := .storeN 11 (.t 3) (.t 13) }]
def escheatref16_Get_c2 : ACode := .ops [{ dst := some 4, op := .mv (.v (.c (.i .i64 0))) }]
def escheatref16_Get_c3 : ACode := .ops [{ dst := some 14, op := .mv (.t 4) }, { dst := some 15, op := .bin .lss (.t 14) (.v (.c (.i .i64 6))) }]
def escheatref16_Get_c4 : ACode := .cond (.t 15) .skip (.exit 0)
def escheatref16_Get_c5 : ACode := .seq [0, 2, 3, 4, 15] escheatref16_Get_c3 escheatref16_Get_c4
def escheatref16_Get_c6 : ACode := .ops [{ dst := some 18, op := .mv (.t 4) }, { dst := some 19, op := .mv (.t 0) }, { dst := some 20, op := .mv (.t 4) }, { dst := some 21, op := .bin .mul (.v (.c (.i .i64 2))) (.t 20) }, { dst := some 22, op := .bin .add (.v (.c (.i .i64 10))) (.t 21) }, { dst := some 23, op := .call 83 [(.t 19), (.t 22), (.v (.c (.i .i64 2)))] }, { dst := some 24, op := .fAddr (.t 3) 4 }, { dst := some 25, op := .iAddrA 6 1 (.t 24) (.t 18) }, { dst := none, op := .store1 (.t 25) (.t 23) }]
def escheatref16_Get_c7 : ACode := .block 1 escheatref16_Get_c6
def escheatref16_Get_c8 : ACode := .ops [{ dst := some 16, op := .mv (.t 4) }, { dst := some 17, op := .bin .add (.t 16) (.v (.c (.i .i64 1))) }, { dst := some 4, op := .mv (.t 17) }]
def escheatref16_Get_c9 : ACode := .seq [0, 2, 3, 4] escheatref16_Get_c7 escheatref16_Get_c8
def escheatref16_Get_c10 : ACode := .seq [0, 2, 3, 4] escheatref16_Get_c5 escheatref16_Get_c9
def escheatref16_Get_c11 : ACode := .loop [0, 2, 3, 4] escheatref16_Get_c10
def escheatref16_Get_c12 : ACode := .block 0 escheatref16_Get_c11
def escheatref16_Get_c13 : ACode := .seq [0, 2, 3, 4] escheatref16_Get_c2 escheatref16_Get_c12
def escheatref16_Get_c14 : ACode := .ops [{ dst := some 26, op := .mv (.t 0) }, { dst := some 27, op := .call 83 [(.t 26), (.v (.c (.i .i64 22))), (.v (.c (.i .i64 2)))] }, { dst := some 28, op := .fAddr (.t 3) 10 }, { dst := none, op := .store1 (.t 28) (.t 27) }]
def escheatref16_Get_c15 : ACode := .ops [{ dst := some 29, op := .loadN 11 (.t 3) }, { dst := none, op := .storeN 11 (.t 2) (.t 29) }]
def escheatref16_Get_c16 : ACode := .seq [2] escheatref16_Get_c15 .ret
def escheatref16_Get_c17 : ACode := .seq [2, 3] escheatref16_Get_c14 escheatref16_Get_c16
def escheatref16_Get_c18 : ACode := .seq [0, 2, 3] escheatref16_Get_c13 escheatref16_Get_c17
def escheatref16_Get_c19 : ACode := .seq [0, 2, 3] escheatref16_Get_c1 escheatref16_Get_c18
def escheatref16_Get_c20 : ACode := .seq [0, 2] escheatref16_Get_c0 escheatref16_Get_c19
def A_escheatref16_Get : AFn := ⟨escheatref16_Get_c20, [.cellN 2 11]⟩
noncomputable def E_escheatref16_Get : Sums := fun f args h => bif Nat.beq f 83 then S_escheatref01_At args h else none
noncomputable def escheatref16_Get_c0_d (n : Nat) : Sm (Val × Heap) := smOps E_escheatref16_Get [{ dst := some 2, op := .alloc ([.i .i64 0, .i .i64 0, .i .i64 0, .i .i64 0, .i .i64 0, .i .i64 0, .i .i64 0, .i .i64 0, .i .i64 0, .i .i64 0, .i .i64 0]) }]
noncomputable def escheatref16_Get_c1_d (n : Nat) : Sm (Val × Heap) := smOps E_escheatref16_Get [{ dst := some 5, op := .mv (.t 0) }, { dst := some 6, op := .call 83 [(.t 5), (.v (.c (.i .i64 0))), (.v (.c (.i .i64 1)))] }, { dst := some 7, op := .mv (.t 0) }, { dst := some 8, op := .call 83 [(.t 7), (.v (.c (.i .i64 2))), (.v (.c (.i .i64 2)))] }, { dst := some 9, op := .mv (.t 0) }, { dst := some 10, op := .call 83 [(.t 9), (.v (.c (.i .i64 4))), (.v (.c (.i .i64 4)))] }, { dst := some 11, op := .mv (.t 0) }, { dst := some 12, op := .call 83 [(.t 11), (.v (.c (.i .i64 8))), (.v (.c (.i .i64 2)))] }, { dst := some 13, op := .build ([.i .i64 0, .i .i64 0, .i .i64 0, .i .i64 0, .i .i64 0, .i .i64 0, .i .i64 0, .i .i64 0, .i .i64 0, .i .i64 0, .i .i64 0]) [(0, 1, (.t 6)), (1, 1, (.t 8)), (2, 1, (.t 10)), (3, 1, (.t 12))] }, { dst := some 3, op := .alloc ([.i .i64 0, .i .i64 0, .i .i64 0, .i .i64 0, .i .i64 0, .i .i64 0, .i .i64 0, .i .i64 0, .i .i64 0, .i .i64 0, .i .i64 0]) }, { dst := none, op := .storeN 11 (.t 3) (.t 13) }]
noncomputable def escheatref16_Get_c2_d (n : Nat) : Sm (Val × Heap) := smOps E_escheatref16_Get [{ dst := some 4, op := .mv (.v (.c (.i .i64 0))) }]
noncomputable def escheatref16_Get_c3_d (n : Nat) : Sm (Val × Heap) := smOps E_escheatref16_Get [{ dst := some 14, op := .mv (.t 4) }, { dst := some 15, op := .bin .lss (.t 14) (.v (.c (.i .i64 6))) }]
noncomputable def escheatref16_Get_c4_d (n : Nat) : Sm (Val × Heap) := smCond (.t 15) smSkip (smExit 0)
noncomputable def escheatref16_Get_c5_d (n : Nat) : Sm (Val × Heap) := smSeq [0, 2, 3, 4, 15] (escheatref16_Get_c3_d n) (escheatref16_Get_c4_d n)
noncomputable def escheatref16_Get_c6_d (n : Nat) : Sm (Val × Heap) := smOps E_escheatref16_Get [{ dst := some 18, op := .mv (.t 4) }, { dst := some 19, op := .mv (.t 0) }, { dst := some 20, op := .mv (.t 4) }, { dst := some 21, op := .bin .mul (.v (.c (.i .i64 2))) (.t 20) }, { dst := some 22, op := .bin .add (.v (.c (.i .i64 10))) (.t 21) }, { dst := some 23, op := .call 83 [(.t 19), (.t 22), (.v (.c (.i .i64 2)))] }, { dst := some 24, op := .fAddr (.t 3) 4 }, { dst := some 25, op := .iAddrA 6 1 (.t 24) (.t 18) }, { dst := none, op := .store1 (.t 25) (.t 23) }]
noncomputable def escheatref16_Get_c7_d (n : Nat) : Sm (Val × Heap) := smBlock 1 (escheatref16_Get_c6_d n)
noncomputable def escheatref16_Get_c8_d (n : Nat) : Sm (Val × Heap) := smOps E_escheatref16_Get [{ dst := some 16, op := .mv (.t 4) }, { dst := some 17, op := .bin .add (.t 16) (.v (.c (.i .i64 1))) }, { dst := some 4, op := .mv (.t 17) }]
noncomputable def escheatref16_Get_c9_d (n : Nat) : Sm (Val × Heap) := smSeq [0, 2, 3, 4] (escheatref16_Get_c7_d n) (escheatref16_Get_c8_d n)
noncomputable def escheatref16_Get_c10_d (n : Nat) : Sm (Val × Heap) := smSeq [0, 2, 3, 4] (escheatref16_Get_c5_d n) (escheatref16_Get_c9_d n)
noncomputable def escheatref16_Get_c11_d (n : Nat) : Sm (Val × Heap) := smLoop n [0, 2, 3, 4] (escheatref16_Get_c10_d n)
noncomputable def escheatref16_Get_c12_d (n : Nat) : Sm (Val × Heap) := smBlock 0 (escheatref16_Get_c11_d n)
noncomputable def escheatref16_Get_c13_d (n : Nat) : Sm (Val × Heap) := smSeq [0, 2, 3, 4] (escheatref16_Get_c2_d n) (escheatref16_Get_c12_d n)
noncomputable def escheatref16_Get_c14_d (n : Nat) : Sm (Val × Heap) := smOps E_escheatref16_Get [{ dst := some 26, op := .mv (.t 0) }, { dst := some 27, op := .call 83 [(.t 26), (.v (.c (.i .i64 22))), (.v (.c (.i .i64 2)))] }, { dst := some 28, op := .fAddr (.t 3) 10 }, { dst := none, op := .store1 (.t 28) (.t 27) }]
noncomputable def escheatref16_Get_c15_d (n : Nat) : Sm (Val × Heap) := smOps E_escheatref16_Get [{ dst := some 29, op := .loadN 11 (.t 3) }, { dst := none, op := .storeN 11 (.t 2) (.t 29) }]
noncomputable def escheatref16_Get_c16_d (n : Nat) : Sm (Val × Heap) := smSeq [2] (escheatref16_Get_c15_d n) smRet
noncomputable def escheatref16_Get_c17_d (n : Nat) : Sm (Val × Heap) := smSeq [2, 3] (escheatref16_Get_c14_d n) (escheatref16_Get_c16_d n)
noncomputable def escheatref16_Get_c18_d (n : Nat) : Sm (Val × Heap) := smSeq [0, 2, 3] (escheatref16_Get_c13_d n) (escheatref16_Get_c17_d n)
noncomputable def escheatref16_Get_c19_d (n : Nat) : Sm (Val × Heap) := smSeq [0, 2, 3] (escheatref16_Get_c1_d n) (escheatref16_Get_c18_d n)
noncomputable def escheatref16_Get_c20_d (n : Nat) : Sm (Val × Heap) := smSeq [0, 2] (escheatref16_Get_c0_d n) (escheatref16_Get_c19_d n)
noncomputable def escheatref16_Get_k0 (n : Nat) : AExit → Env → Heap → Option (Val × Heap) := fun x e h => match x with | .normal => hold ((escheatref16_Get_c17_d n) A_escheatref16_Get.fin (e.keep [0, 2, 3]) h) | .exit id => A_escheatref16_Get.fin (.exit id) e h | .ret => A_escheatref16_Get.fin .ret e h
noncomputable def escheatref16_Get_k1 (n : Nat) : AExit → Env → Heap → Option (Val × Heap) := fun x e h => match x with | .exit i => bif Nat.beq i 0 then (escheatref16_Get_k0 n) .normal e h else (escheatref16_Get_k0 n) (.exit i) e h | .normal => (escheatref16_Get_k0 n) .normal e h | .ret => (escheatref16_Get_k0 n) .ret e h
noncomputable def escheatref16_Get_l0 (n m : Nat) (x0 x2 x3 x4 : Val) (h : Heap) : Option (Val × Heap) := around (escheatref16_Get_c10_d n) [0, 2, 3, 4] (escheatref16_Get_k1 n) m [(0, x0), (2, x2), (3, x3), (4, x4)] h
noncomputable def R_escheatref16_Get (n : Nat) (args : List Val) (h : Heap) : Option (Val × Heap) := (escheatref16_Get_c20_d n) A_escheatref16_Get.fin (params 0 args) h
theorem R_escheatref16_Get_run (n : Nat) (args : List Val) (h : Heap) : A_escheatref16_Get.run E_escheatref16_Get n args h = R_escheatref16_Get n args h := by kernel_rfl
theorem R_escheatref16_Get_eq (n : Nat) (a0 : Val) (h : Heap) : R_escheatref16_Get n [a0] h = bnd (S_escheatref01_At [a0, .c (.i .i64 0), .c (.i .i64 1)] ((h ++ [some (Row.mk ([.i .i64 0, .i .i64 0, .i .i64 0, .i .i64 0, .i .i64 0, .i .i64 0, .i .i64 0, .i .i64 0, .i .i64 0, .i .i64 0, .i .i64 0]) true)]))) fun p1 => bnd (S_escheatref01_At [a0, .c (.i .i64 2), .c (.i .i64 2)] p1.2) fun p2 => bnd (S_escheatref01_At [a0, .c (.i .i64 4), .c (.i .i64 4)] p2.2) fun p3 => bnd (S_escheatref01_At [a0, .c (.i .i64 8), .c (.i .i64 2)] p3.2) fun p4 => bnd (afill ([.i .i64 0, .i .i64 0, .i .i64 0, .i .i64 0, .i .i64 0, .i .i64 0, .i .i64 0, .i .i64 0, .i .i64 0, .i .i64 0, .i .i64 0]) [(0, 1, p1.1), (1, 1, p2.1), (2, 1, p3.1), (3, 1, p4.1)]) fun c5 => bnd (astoreN ((p4.2 ++ [some (Row.mk ([.i .i64 0, .i .i64 0, .i .i64 0, .i .i64 0, .i .i64 0, .i .i64 0, .i .i64 0, .i .i64 0, .i .i64 0, .i .i64 0, .i .i64 0]) true)])) 11 ((.c (.p p4.2.length 0))) ((.a c5))) fun h6 => escheatref16_Get_l0 n n a0 ((.c (.p h.length 0))) ((.c (.p p4.2.length 0))) (.c (.i .i64 0)) h6 := by kernel_rfl
theorem escheatref16_Get_l0_eq (n m : Nat) (x0 x2 x3 x4 : Val) (h : Heap) : escheatref16_Get_l0 n (m + 1) x0 x2 x3 x4 h = bnd (abin .lss x4 (.c (.i .i64 6))) fun v7 => cnd v7 (bnd (abin .mul (.c (.i .i64 2)) x4) fun v8 => bnd (abin .add (.c (.i .i64 10)) v8) fun v9 => bnd (S_escheatref01_At [x0, v9, .c (.i .i64 2)] h) fun p10 => bnd (afAddr x3 4) fun v11 => bnd (aiAddrA 6 1 v11 x4) fun v12 => bnd (astore1 p10.2 v12 p10.1) fun h13 => bnd (abin .add x4 (.c (.i .i64 1))) fun v14 => escheatref16_Get_l0 n m x0 x2 x3 v14 h13) (bnd (S_escheatref01_At [x0, .c (.i .i64 22), .c (.i .i64 2)] h) fun p15 => bnd (afAddr x3 10) fun v16 => bnd (astore1 p15.2 v16 p15.1) fun h17 => bnd (aloadN h17 11 x3) fun v18 => bnd (astoreN h17 11 x2 v18) fun h19 => mp (aloadN h19 11 x2) fun v => (v, h19)) := by kernel_rfl
theorem chk_escheatref16_Get : chkFn Try.prog Try.f115 A_escheatref16_Get = true := by kernel_rfl
theorem E_escheatref16_Get_sound : Sound Try.prog E_escheatref16_Get := by
  intro f args h v h2 he
  unfold E_escheatref16_Get at he
  cases hb0 : Nat.beq f 83 with
  | true => rw [hb0] at he; have e := Nat.eq_of_beq_eq_true hb0; subst e; exact S_escheatref01_At_ok args h v h2 he
  | false =>
    rw [hb0] at he; simp only [cond_false] at he
    cases he

theorem R_escheatref16_Get_ok {n : Nat} {args : List Val} {h h2 : Heap} {v : Val} (he : R_escheatref16_Get n args h = some (v, h2)) : Callable Try.prog 115 ∧ CallOk Try.prog 115 args h v h2 ∧ h.length ≤ h2.length := fn_ok E_escheatref16_Get_sound Try.func115 chk_escheatref16_Get ((R_escheatref16_Get_run ..).trans he)
theorem L_escheatref16_Get_ok (args : List Val) (h : Heap) (v : Val) (h2 : Heap) (he : Lim A_escheatref16_Get E_escheatref16_Get args h = some (v, h2)) : Callable Try.prog 115 ∧ CallOk Try.prog 115 args h v h2 ∧ h.length ≤ h2.length := (Lim_run he).elim fun _ e => R_escheatref16_Get_ok ((R_escheatref16_Get_run ..).symm.trans e)
theorem L_escheatref16_Get_of {n : Nat} {args : List Val} {h : Heap} {p : Val × Heap} (he : R_escheatref16_Get n args h = some p) : Lim A_escheatref16_Get E_escheatref16_Get args h = some p := Lim_of ((R_escheatref16_Get_run ..).trans he)
noncomputable def S_escheatref16_Get : List Val → Heap → Option (Val × Heap) := tidy (Lim A_escheatref16_Get E_escheatref16_Get)
theorem S_escheatref16_Get_ok (args : List Val) (h : Heap) (v : Val) (h2 : Heap) (he : S_escheatref16_Get args h = some (v, h2)) : Callable Try.prog 115 ∧ CallOk Try.prog 115 args h v h2 ∧ h.length ≤ h2.length := tidy_ok L_escheatref16_Get_ok args h v h2 he
theorem S_escheatref16_Get_flat {n : Nat} {args : List Val} {h h2 : Heap} {v : Val} (he : R_escheatref16_Get n args (ro h) = some (v, h2)) (hf : v.flat = true) : S_escheatref16_Get args h = some (v, h) := tidy_flat (L_escheatref16_Get_of he) hf
theorem S_escheatref16_Get_low {n : Nat} {args : List Val} {h h2 : Heap} {v : Val} (he : R_escheatref16_Get n args (ro h) = some (v, h2)) (hf : v.low h.length = true) : S_escheatref16_Get args h = some (v, h) := tidy_low (L_escheatref16_Get_of he) hf
theorem S_escheatref16_Get_out {n : Nat} {args : List Val} {h h2 : Heap} {v : Val} {sz k : Nat} {cs : List Cell} (he : R_escheatref16_Get n args (ro h) = some (v, h2)) (ho : Out h.length h2 v sz k cs) (hf : flats cs = true) : S_escheatref16_Get args h = some (.c (.sl h.length 0 k sz), h ++ [some ⟨cs, true⟩]) := tidy_out (L_escheatref16_Get_of he) ho hf
theorem S_escheatref16_Get_tidy {n : Nat} {args : List Val} {h h2 : Heap} {v v2 : Val} {ids : List Nat} (he : R_escheatref16_Get n args (ro h) = some (v, h2)) (hc : canonV h2 h.length v = some (v2, ids)) : S_escheatref16_Get args h = some (v2, h ++ ids.map (rd h2)) := tidy_of (L_escheatref16_Get_of he) hc
def escheatref16_Clean_c0 : ACode := .ops [{ dst := some 2, op := .alloc ([.i .i64 0, .i .i64 0, .i .i64 0, .i .i64 0, .i .i64 0, .i .i64 0, .i .i64 0, .i .i64 0, .i .i64 0, .i .i64 0, .i .i64 0]) }, { dst := some 3, op := .mv (.v (.c (.b false))) }]
def escheatref16_Clean_c1 : ACode := .ops [{ dst := some 5, op := .mv (.t 0) }, { dst := some 6, op := .call 115 [(.t 5)] }, { dst := some 4, op := .alloc ([.i .i64 0, .i .i64 0, .i .i64 0, .i .i64 0, .i .i64 0, .i .i64 0, .i .i64 0, .i .i64 0, .i .i64 0, .i .i64 0, .i .i64 0]) }, { dst := none, op := .storeN 11 (.t 4) (.t 6) }]
def escheatref16_Clean_c2 : ACode := .ops [{ dst := some 7, op := .loadN 11 (.t 4) }, { dst := some 8, op := .call 95 [(.t 7)] }, { dst := some 9, op := .un .not (.t 8) }, { dst := some 10, op := .mv (.t 9) }, { dst := some 11, op := .loadN 11 (.t 4), guard := some (10, false) }, { dst := some 12, op := .call 97 [(.t 11)], guard := some (10, false) }, { dst := some 13, op := .mv (.t 0), guard := some (10, false) }, { dst := some 14, op := .call 47 [(.t 12), (.t 13)], guard := some (10, false) }, { dst := some 15, op := .un .not (.t 14), guard := some (10, false) }, { dst := some 16, op := .pick (.t 10) (.v (.c (.b true))) (.t 15) }]
def escheatref16_Clean_c3 : ACode := .ops [{ dst := some 17, op := .build ([.i .i64 0, .i .i64 0, .i .i64 0, .i .i64 0, .i .i64 0, .i .i64 0, .i .i64 0, .i .i64 0, .i .i64 0, .i .i64 0, .i .i64 0]) [] }, { dst := none, op := .storeN 11 (.t 2) (.t 17) }, { dst := some 3, op := .mv (.v (.c (.b false))) }]
def escheatref16_Clean_c4 : ACode := .seq [2, 3] escheatref16_Clean_c3 .ret
def escheatref16_Clean_c5 : ACode := .cond (.t 16) escheatref16_Clean_c4 .skip
def escheatref16_Clean_c6 : ACode := .seq [2, 4, 16] escheatref16_Clean_c2 escheatref16_Clean_c5
def escheatref16_Clean_c7 : ACode := .ops [{ dst := some 18, op := .loadN 11 (.t 4) }, { dst := none, op := .storeN 11 (.t 2) (.t 18) }, { dst := some 3, op := .mv (.v (.c (.b true))) }]
def escheatref16_Clean_c8 : ACode := .seq [2, 3] escheatref16_Clean_c7 .ret
def escheatref16_Clean_c9 : ACode := .seq [2, 4] escheatref16_Clean_c6 escheatref16_Clean_c8
def escheatref16_Clean_c10 : ACode := .seq [0, 2, 4] escheatref16_Clean_c1 escheatref16_Clean_c9
def escheatref16_Clean_c11 : ACode := .seq [0, 2] escheatref16_Clean_c0 escheatref16_Clean_c10
def A_escheatref16_Clean : AFn := ⟨escheatref16_Clean_c11, [.cellN 2 11, .tmp 3]⟩
noncomputable def E_escheatref16_Clean : Sums := fun f args h => bif Nat.beq f 115 then S_escheatref16_Get args h else bif Nat.beq f 95 then S_escheatref16_May args h else bif Nat.beq f 97 then S_escheatref16_Put args h else bif Nat.beq f 47 then S_escheatref01_Same args h else none
noncomputable def escheatref16_Clean_c0_d (n : Nat) : Sm (Val × Heap) := smOps E_escheatref16_Clean [{ dst := some 2, op := .alloc ([.i .i64 0, .i .i64 0, .i .i64 0, .i .i64 0, .i .i64 0, .i .i64 0, .i .i64 0, .i .i64 0, .i .i64 0, .i .i64 0, .i .i64 0]) }, { dst := some 3, op := .mv (.v (.c (.b false))) }]
noncomputable def escheatref16_Clean_c1_d (n : Nat) : Sm (Val × Heap) := smOps E_escheatref16_Clean [{ dst := some 5, op := .mv (.t 0) }, { dst := some 6, op := .call 115 [(.t 5)] }, { dst := some 4, op := .alloc ([.i .i64 0, .i .i64 0, .i .i64 0, .i .i64 0, .i .i64 0, .i .i64 0, .i .i64 0, .i .i64 0, .i .i64 0, .i .i64 0, .i .i64 0]) }, { dst := none, op := .storeN 11 (.t 4) (.t 6) }]
noncomputable def escheatref16_Clean_c2_d (n : Nat) : Sm (Val × Heap) := smOps E_escheatref16_Clean [{ dst := some 7, op := .loadN 11 (.t 4) }, { dst := some 8, op := .call 95 [(.t 7)] }, { dst := some 9, op := .un .not (.t 8) }, { dst := some 10, op := .mv (.t 9) }, { dst := some 11, op := .loadN 11 (.t 4), guard := some (10, false) }, { dst := some 12, op := .call 97 [(.t 11)], guard := some (10, false) }, { dst := some 13, op := .mv (.t 0), guard := some (10, false) }, { dst := some 14, op := .call 47 [(.t 12), (.t 13)], guard := some (10, false) }, { dst := some 15, op := .un .not (.t 14), guard := some (10, false) }, { dst := some 16, op := .pick (.t 10) (.v (.c (.b true))) (.t 15) }]
noncomputable def escheatref16_Clean_c3_d (n : Nat) : Sm (Val × Heap) := smOps E_escheatref16_Clean [{ dst := some 17, op := .build ([.i .i64 0, .i .i64 0, .i .i64 0, .i .i64 0, .i .i64 0, .i .i64 0, .i .i64 0, .i .i64 0, .i .i64 0, .i .i64 0, .i .i64 0]) [] }, { dst := none, op := .storeN 11 (.t 2) (.t 17) }, { dst := some 3, op := .mv (.v (.c (.b false))) }]
noncomputable def escheatref16_Clean_c4_d (n : Nat) : Sm (Val × Heap) := smSeq [2, 3] (escheatref16_Clean_c3_d n) smRet
noncomputable def escheatref16_Clean_c5_d (n : Nat) : Sm (Val × Heap) := smCond (.t 16) (escheatref16_Clean_c4_d n) smSkip
noncomputable def escheatref16_Clean_c6_d (n : Nat) : Sm (Val × Heap) := smSeq [2, 4, 16] (escheatref16_Clean_c2_d n) (escheatref16_Clean_c5_d n)
noncomputable def escheatref16_Clean_c7_d (n : Nat) : Sm (Val × Heap) := smOps E_escheatref16_Clean [{ dst := some 18, op := .loadN 11 (.t 4) }, { dst := none, op := .storeN 11 (.t 2) (.t 18) }, { dst := some 3, op := .mv (.v (.c (.b true))) }]
noncomputable def escheatref16_Clean_c8_d (n : Nat) : Sm (Val × Heap) := smSeq [2, 3] (escheatref16_Clean_c7_d n) smRet
noncomputable def escheatref16_Clean_c9_d (n : Nat) : Sm (Val × Heap) := smSeq [2, 4] (escheatref16_Clean_c6_d n) (escheatref16_Clean_c8_d n)
noncomputable def escheatref16_Clean_c10_d (n : Nat) : Sm (Val × Heap) := smSeq [0, 2, 4] (escheatref16_Clean_c1_d n) (escheatref16_Clean_c9_d n)
noncomputable def escheatref16_Clean_c11_d (n : Nat) : Sm (Val × Heap) := smSeq [0, 2] (escheatref16_Clean_c0_d n) (escheatref16_Clean_c10_d n)
noncomputable def R_escheatref16_Clean (n : Nat) (args : List Val) (h : Heap) : Option (Val × Heap) := (escheatref16_Clean_c11_d n) A_escheatref16_Clean.fin (params 0 args) h
theorem R_escheatref16_Clean_run (n : Nat) (args : List Val) (h : Heap) : A_escheatref16_Clean.run E_escheatref16_Clean n args h = R_escheatref16_Clean n args h := by kernel_rfl
theorem R_escheatref16_Clean_eq (n : Nat) (a0 : Val) (h : Heap) : R_escheatref16_Clean n [a0] h = bnd (S_escheatref16_Get [a0] ((h ++ [some (Row.mk ([.i .i64 0, .i .i64 0, .i .i64 0, .i .i64 0, .i .i64 0, .i .i64 0, .i .i64 0, .i .i64 0, .i .i64 0, .i .i64 0, .i .i64 0]) true)]))) fun p1 => bnd (astoreN ((p1.2 ++ [some (Row.mk ([.i .i64 0, .i .i64 0, .i .i64 0, .i .i64 0, .i .i64 0, .i .i64 0, .i .i64 0, .i .i64 0, .i .i64 0, .i .i64 0, .i .i64 0]) true)])) 11 ((.c (.p p1.2.length 0))) p1.1) fun h2 => bnd (aloadN h2 11 ((.c (.p p1.2.length 0)))) fun v3 => bnd (S_escheatref16_May [v3] h2) fun p4 => bnd (aun .not p4.1) fun v5 => bnd (gd v5 false (bnd (aloadN p4.2 11 ((.c (.p p1.2.length 0)))) fun v6 => some (v6, p4.2)) (some (.no, p4.2))) fun p7 => bnd (gd v5 false (bnd (S_escheatref16_Put [p7.1] p7.2) fun p8 => some (p8.1, p8.2)) (some (.no, p7.2))) fun p9 => bnd (gd v5 false (some (a0, p9.2)) (some (.no, p9.2))) fun p10 => bnd (gd v5 false (bnd (S_escheatref01_Same [p9.1, p10.1] p10.2) fun p11 => some (p11.1, p11.2)) (some (.no, p10.2))) fun p12 => bnd (gd v5 false (bnd (aun .not p12.1) fun v13 => some (v13, p12.2)) (some (.no, p12.2))) fun p14 => bnd (apick v5 (.c (.b true)) p14.1) fun v15 => cnd v15 (bnd (afill ([.i .i64 0, .i .i64 0, .i .i64 0, .i .i64 0, .i .i64 0, .i .i64 0, .i .i64 0, .i .i64 0, .i .i64 0, .i .i64 0, .i .i64 0]) []) fun c16 => bnd (astoreN p14.2 11 ((.c (.p h.length 0))) ((.a c16))) fun h17 => tupN [aloadN h17 11 ((.c (.p h.length 0))), some (.c (.b false))] h17) (bnd (aloadN p14.2 11 ((.c (.p p1.2.length 0)))) fun v18 => bnd (astoreN p14.2 11 ((.c (.p h.length 0))) v18) fun h19 => tupN [aloadN h19 11 ((.c (.p h.length 0))), some (.c (.b true))] h19) := by kernel_rfl
theorem chk_escheatref16_Clean : chkFn Try.prog Try.f113 A_escheatref16_Clean = true := by kernel_rfl
theorem E_escheatref16_Clean_sound : Sound Try.prog E_escheatref16_Clean := by
  intro f args h v h2 he
  unfold E_escheatref16_Clean at he
  cases hb0 : Nat.beq f 115 with
  | true => rw [hb0] at he; have e := Nat.eq_of_beq_eq_true hb0; subst e; exact S_escheatref16_Get_ok args h v h2 he
  | false =>
    rw [hb0] at he; simp only [cond_false] at he
    cases hb1 : Nat.beq f 95 with
    | true => rw [hb1] at he; have e := Nat.eq_of_beq_eq_true hb1; subst e; exact S_escheatref16_May_ok args h v h2 he
    | false =>
      rw [hb1] at he; simp only [cond_false] at he
      cases hb2 : Nat.beq f 97 with
      | true => rw [hb2] at he; have e := Nat.eq_of_beq_eq_true hb2; subst e; exact S_escheatref16_Put_ok args h v h2 he
      | false =>
        rw [hb2] at he; simp only [cond_false] at he
        cases hb3 : Nat.beq f 47 with
        | true => rw [hb3] at he; have e := Nat.eq_of_beq_eq_true hb3; subst e; exact S_escheatref01_Same_ok args h v h2 he
        | false =>
          rw [hb3] at he; simp only [cond_false] at he
          cases he

theorem R_escheatref16_Clean_ok {n : Nat} {args : List Val} {h h2 : Heap} {v : Val} (he : R_escheatref16_Clean n args h = some (v, h2)) : Callable Try.prog 113 ∧ CallOk Try.prog 113 args h v h2 ∧ h.length ≤ h2.length := fn_ok E_escheatref16_Clean_sound Try.func113 chk_escheatref16_Clean ((R_escheatref16_Clean_run ..).trans he)
theorem L_escheatref16_Clean_ok (args : List Val) (h : Heap) (v : Val) (h2 : Heap) (he : Lim A_escheatref16_Clean E_escheatref16_Clean args h = some (v, h2)) : Callable Try.prog 113 ∧ CallOk Try.prog 113 args h v h2 ∧ h.length ≤ h2.length := (Lim_run he).elim fun _ e => R_escheatref16_Clean_ok ((R_escheatref16_Clean_run ..).symm.trans e)
theorem L_escheatref16_Clean_of {n : Nat} {args : List Val} {h : Heap} {p : Val × Heap} (he : R_escheatref16_Clean n args h = some p) : Lim A_escheatref16_Clean E_escheatref16_Clean args h = some p := Lim_of ((R_escheatref16_Clean_run ..).trans he)
noncomputable def S_escheatref16_Clean : List Val → Heap → Option (Val × Heap) := tidy (Lim A_escheatref16_Clean E_escheatref16_Clean)
theorem S_escheatref16_Clean_ok (args : List Val) (h : Heap) (v : Val) (h2 : Heap) (he : S_escheatref16_Clean args h = some (v, h2)) : Callable Try.prog 113 ∧ CallOk Try.prog 113 args h v h2 ∧ h.length ≤ h2.length := tidy_ok L_escheatref16_Clean_ok args h v h2 he
theorem S_escheatref16_Clean_flat {n : Nat} {args : List Val} {h h2 : Heap} {v : Val} (he : R_escheatref16_Clean n args (ro h) = some (v, h2)) (hf : v.flat = true) : S_escheatref16_Clean args h = some (v, h) := tidy_flat (L_escheatref16_Clean_of he) hf
theorem S_escheatref16_Clean_low {n : Nat} {args : List Val} {h h2 : Heap} {v : Val} (he : R_escheatref16_Clean n args (ro h) = some (v, h2)) (hf : v.low h.length = true) : S_escheatref16_Clean args h = some (v, h) := tidy_low (L_escheatref16_Clean_of he) hf
theorem S_escheatref16_Clean_out {n : Nat} {args : List Val} {h h2 : Heap} {v : Val} {sz k : Nat} {cs : List Cell} (he : R_escheatref16_Clean n args (ro h) = some (v, h2)) (ho : Out h.length h2 v sz k cs) (hf : flats cs = true) : S_escheatref16_Clean args h = some (.c (.sl h.length 0 k sz), h ++ [some ⟨cs, true⟩]) := tidy_out (L_escheatref16_Clean_of he) ho hf
theorem S_escheatref16_Clean_tidy {n : Nat} {args : List Val} {h h2 : Heap} {v v2 : Val} {ids : List Nat} (he : R_escheatref16_Clean n args (ro h) = some (v, h2)) (hc : canonV h2 h.length v = some (v2, ids)) : S_escheatref16_Clean args h = some (v2, h ++ ids.map (rd h2)) := tidy_of (L_escheatref16_Clean_of he) hc
def escheatref16_Blocks_c0 : ACode := .ops [{ dst := some 2, op := .mv (.v (.c (.i .i64 0))) }]
def escheatref16_Blocks_c1 : ACode := .ops [{ dst := some 3, op := .mv (.v (.c (.i .i64 0))) }]
def escheatref16_Blocks_c2 : ACode := .ops [{ dst := some 4, op := .mv (.t 3) }, { dst := some 5, op := .bin .lss (.t 4) (.v (.c (.i .i64 134))) }, { dst := some 6, op := .mv (.t 5) }, { dst := some 7, op := .mv (.t 0), guard := some (6, true) }, { dst := some 8, op := .mv (.t 3), guard := some (6, true) }, { dst := some 9, op := .bin .mul (.v (.c (.i .i64 256))) (.t 8), guard := some (6, true) }, { dst := some 10, op := .bin .gtr (.t 7) (.t 9), guard := some (6, true) }, { dst := some 11, op := .pick (.t 6) (.t 10) (.v (.c (.b false))) }]
def escheatref16_Blocks_c3 : ACode := .cond (.t 11) .skip (.exit 0)
def escheatref16_Blocks_c4 : ACode := .seq [0, 3, 11] escheatref16_Blocks_c2 escheatref16_Blocks_c3
def escheatref16_Blocks_c5 : ACode := .ops [{ dst := some 12, op := .mv (.t 3) }, { dst := some 13, op := .bin .add (.t 12) (.v (.c (.i .i64 1))) }, { dst := some 3, op := .mv (.t 13) }]
def escheatref16_Blocks_c6 : ACode := .block 1 escheatref16_Blocks_c5
def escheatref16_Blocks_c7 : ACode := .seq [0, 3] escheatref16_Blocks_c4 escheatref16_Blocks_c6
def escheatref16_Blocks_c8 : ACode := .loop [0, 3] escheatref16_Blocks_c7
def escheatref16_Blocks_c9 : ACode := .block 0 escheatref16_Blocks_c8
def escheatref16_Blocks_c10 : ACode := .ops [{ dst := some 14, op := .mv (.t 3) }, { dst := some 2, op := .mv (.t 14) }]
def escheatref16_Blocks_c11 : ACode := .seq [2] escheatref16_Blocks_c10 .ret
def escheatref16_Blocks_c12 : ACode := .seq [3] escheatref16_Blocks_c9 escheatref16_Blocks_c11
def escheatref16_Blocks_c13 : ACode := .seq [0, 3] escheatref16_Blocks_c1 escheatref16_Blocks_c12
def escheatref16_Blocks_c14 : ACode := .seq [0] escheatref16_Blocks_c0 escheatref16_Blocks_c13
def A_escheatref16_Blocks : AFn := ⟨escheatref16_Blocks_c14, [.tmp 2]⟩
noncomputable def E_escheatref16_Blocks : Sums := fun f args h => none
noncomputable def escheatref16_Blocks_c0_d (n : Nat) : Sm (Val × Heap) := smOps E_escheatref16_Blocks [{ dst := some 2, op := .mv (.v (.c (.i .i64 0))) }]
noncomputable def escheatref16_Blocks_c1_d (n : Nat) : Sm (Val × Heap) := smOps E_escheatref16_Blocks [{ dst := some 3, op := .mv (.v (.c (.i .i64 0))) }]
noncomputable def escheatref16_Blocks_c2_d (n : Nat) : Sm (Val × Heap) := smOps E_escheatref16_Blocks [{ dst := some 4, op := .mv (.t 3) }, { dst := some 5, op := .bin .lss (.t 4) (.v (.c (.i .i64 134))) }, { dst := some 6, op := .mv (.t 5) }, { dst := some 7, op := .mv (.t 0), guard := some (6, true) }, { dst := some 8, op := .mv (.t 3), guard := some (6, true) }, { dst := some 9, op := .bin .mul (.v (.c (.i .i64 256))) (.t 8), guard := some (6, true) }, { dst := some 10, op := .bin .gtr (.t 7) (.t 9), guard := some (6, true) }, { dst := some 11, op := .pick (.t 6) (.t 10) (.v (.c (.b false))) }]
noncomputable def escheatref16_Blocks_c3_d (n : Nat) : Sm (Val × Heap) := smCond (.t 11) smSkip (smExit 0)
noncomputable def escheatref16_Blocks_c4_d (n : Nat) : Sm (Val × Heap) := smSeq [0, 3, 11] (escheatref16_Blocks_c2_d n) (escheatref16_Blocks_c3_d n)
noncomputable def escheatref16_Blocks_c5_d (n : Nat) : Sm (Val × Heap) := smOps E_escheatref16_Blocks [{ dst := some 12, op := .mv (.t 3) }, { dst := some 13, op := .bin .add (.t 12) (.v (.c (.i .i64 1))) }, { dst := some 3, op := .mv (.t 13) }]
noncomputable def escheatref16_Blocks_c6_d (n : Nat) : Sm (Val × Heap) := smBlock 1 (escheatref16_Blocks_c5_d n)
noncomputable def escheatref16_Blocks_c7_d (n : Nat) : Sm (Val × Heap) := smSeq [0, 3] (escheatref16_Blocks_c4_d n) (escheatref16_Blocks_c6_d n)
noncomputable def escheatref16_Blocks_c8_d (n : Nat) : Sm (Val × Heap) := smLoop n [0, 3] (escheatref16_Blocks_c7_d n)
noncomputable def escheatref16_Blocks_c9_d (n : Nat) : Sm (Val × Heap) := smBlock 0 (escheatref16_Blocks_c8_d n)
noncomputable def escheatref16_Blocks_c10_d (n : Nat) : Sm (Val × Heap) := smOps E_escheatref16_Blocks [{ dst := some 14, op := .mv (.t 3) }, { dst := some 2, op := .mv (.t 14) }]
noncomputable def escheatref16_Blocks_c11_d (n : Nat) : Sm (Val × Heap) := smSeq [2] (escheatref16_Blocks_c10_d n) smRet
noncomputable def escheatref16_Blocks_c12_d (n : Nat) : Sm (Val × Heap) := smSeq [3] (escheatref16_Blocks_c9_d n) (escheatref16_Blocks_c11_d n)
noncomputable def escheatref16_Blocks_c13_d (n : Nat) : Sm (Val × Heap) := smSeq [0, 3] (escheatref16_Blocks_c1_d n) (escheatref16_Blocks_c12_d n)
noncomputable def escheatref16_Blocks_c14_d (n : Nat) : Sm (Val × Heap) := smSeq [0] (escheatref16_Blocks_c0_d n) (escheatref16_Blocks_c13_d n)
noncomputable def escheatref16_Blocks_k0 (n : Nat) : AExit → Env → Heap → Option (Val × Heap) := fun x e h => match x with | .normal => hold ((escheatref16_Blocks_c11_d n) A_escheatref16_Blocks.fin (e.keep [3]) h) | .exit id => A_escheatref16_Blocks.fin (.exit id) e h | .ret => A_escheatref16_Blocks.fin .ret e h
noncomputable def escheatref16_Blocks_k1 (n : Nat) : AExit → Env → Heap → Option (Val × Heap) := fun x e h => match x with | .exit i => bif Nat.beq i 0 then (escheatref16_Blocks_k0 n) .normal e h else (escheatref16_Blocks_k0 n) (.exit i) e h | .normal => (escheatref16_Blocks_k0 n) .normal e h | .ret => (escheatref16_Blocks_k0 n) .ret e h
noncomputable def escheatref16_Blocks_l0 (n m : Nat) (x0 x3 : Val) (h : Heap) : Option (Val × Heap) := around (escheatref16_Blocks_c7_d n) [0, 3] (escheatref16_Blocks_k1 n) m [(0, x0), (3, x3)] h
noncomputable def R_escheatref16_Blocks (n : Nat) (args : List Val) (h : Heap) : Option (Val × Heap) := (escheatref16_Blocks_c14_d n) A_escheatref16_Blocks.fin (params 0 args) h
theorem R_escheatref16_Blocks_run (n : Nat) (args : List Val) (h : Heap) : A_escheatref16_Blocks.run E_escheatref16_Blocks n args h = R_escheatref16_Blocks n args h := by kernel_rfl
theorem R_escheatref16_Blocks_eq (n : Nat) (a0 : Val) (h : Heap) : R_escheatref16_Blocks n [a0] h = escheatref16_Blocks_l0 n n a0 (.c (.i .i64 0)) h := by kernel_rfl
theorem escheatref16_Blocks_l0_eq (n m : Nat) (x0 x3 : Val) (h : Heap) : escheatref16_Blocks_l0 n (m + 1) x0 x3 h = bnd (abin .lss x3 (.c (.i .i64 134))) fun v1 => bnd (gd v1 true (some (x0, h)) (some (.no, h))) fun p2 => bnd (gd v1 true (some (x3, p2.2)) (some (.no, p2.2))) fun p3 => bnd (gd v1 true (bnd (abin .mul (.c (.i .i64 256)) p3.1) fun v4 => some (v4, p3.2)) (some (.no, p3.2))) fun p5 => bnd (gd v1 true (bnd (abin .gtr p2.1 p5.1) fun v6 => some (v6, p5.2)) (some (.no, p5.2))) fun p7 => bnd (apick v1 p7.1 (.c (.b false))) fun v8 => cnd v8 (bnd (abin .add x3 (.c (.i .i64 1))) fun v9 => escheatref16_Blocks_l0 n m x0 v9 p7.2) (some (x3, p7.2)) := by kernel_rfl
theorem chk_escheatref16_Blocks : chkFn Try.prog Try.f116 A_escheatref16_Blocks = true := by kernel_rfl
theorem E_escheatref16_Blocks_sound : Sound Try.prog E_escheatref16_Blocks := by
  intro f args h v h2 he
  unfold E_escheatref16_Blocks at he
  cases he

theorem R_escheatref16_Blocks_ok {n : Nat} {args : List Val} {h h2 : Heap} {v : Val} (he : R_escheatref16_Blocks n args h = some (v, h2)) : Callable Try.prog 116 ∧ CallOk Try.prog 116 args h v h2 ∧ h.length ≤ h2.length := fn_ok E_escheatref16_Blocks_sound Try.func116 chk_escheatref16_Blocks ((R_escheatref16_Blocks_run ..).trans he)
theorem L_escheatref16_Blocks_ok (args : List Val) (h : Heap) (v : Val) (h2 : Heap) (he : Lim A_escheatref16_Blocks E_escheatref16_Blocks args h = some (v, h2)) : Callable Try.prog 116 ∧ CallOk Try.prog 116 args h v h2 ∧ h.length ≤ h2.length := (Lim_run he).elim fun _ e => R_escheatref16_Blocks_ok ((R_escheatref16_Blocks_run ..).symm.trans e)
theorem L_escheatref16_Blocks_of {n : Nat} {args : List Val} {h : Heap} {p : Val × Heap} (he : R_escheatref16_Blocks n args h = some p) : Lim A_escheatref16_Blocks E_escheatref16_Blocks args h = some p := Lim_of ((R_escheatref16_Blocks_run ..).trans he)
noncomputable def S_escheatref16_Blocks : List Val → Heap → Option (Val × Heap) := tidy (Lim A_escheatref16_Blocks E_escheatref16_Blocks)
theorem S_escheatref16_Blocks_ok (args : List Val) (h : Heap) (v : Val) (h2 : Heap) (he : S_escheatref16_Blocks args h = some (v, h2)) : Callable Try.prog 116 ∧ CallOk Try.prog 116 args h v h2 ∧ h.length ≤ h2.length := tidy_ok L_escheatref16_Blocks_ok args h v h2 he
theorem S_escheatref16_Blocks_flat {n : Nat} {args : List Val} {h h2 : Heap} {v : Val} (he : R_escheatref16_Blocks n args (ro h) = some (v, h2)) (hf : v.flat = true) : S_escheatref16_Blocks args h = some (v, h) := tidy_flat (L_escheatref16_Blocks_of he) hf
theorem S_escheatref16_Blocks_low {n : Nat} {args : List Val} {h h2 : Heap} {v : Val} (he : R_escheatref16_Blocks n args (ro h) = some (v, h2)) (hf : v.low h.length = true) : S_escheatref16_Blocks args h = some (v, h) := tidy_low (L_escheatref16_Blocks_of he) hf
theorem S_escheatref16_Blocks_out {n : Nat} {args : List Val} {h h2 : Heap} {v : Val} {sz k : Nat} {cs : List Cell} (he : R_escheatref16_Blocks n args (ro h) = some (v, h2)) (ho : Out h.length h2 v sz k cs) (hf : flats cs = true) : S_escheatref16_Blocks args h = some (.c (.sl h.length 0 k sz), h ++ [some ⟨cs, true⟩]) := tidy_out (L_escheatref16_Blocks_of he) ho hf
theorem S_escheatref16_Blocks_tidy {n : Nat} {args : List Val} {h h2 : Heap} {v v2 : Val} {ids : List Nat} (he : R_escheatref16_Blocks n args (ro h) = some (v, h2)) (hc : canonV h2 h.length v = some (v2, ids)) : S_escheatref16_Blocks args h = some (v2, h ++ ids.map (rd h2)) := tidy_of (L_escheatref16_Blocks_of he) hc
end Go.Proofs.Ytbbkpmbepljhkaa
