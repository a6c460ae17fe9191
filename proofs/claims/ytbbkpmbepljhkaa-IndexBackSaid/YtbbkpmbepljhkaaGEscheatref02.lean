/- Escheatref02: the Go functions of this package as the abstract evaluator computes them: printed by a program, checked by Lean. -/
import Derived.Test.YtbbkpmbepljhkaaEscS
import Derived.Test.YtbbkpmbepljhkaaChecked
import Derived.KernelRfl
namespace Go.Proofs.Ytbbkpmbepljhkaa
open Go Go.Esc
set_option maxRecDepth 100000
set_option linter.all false
def escheatref02_Long_o0 : List AOper := [{ dst := some 6, op := .mv (.v (.c (.b false))) }]
def escheatref02_Long_c0 : ACode := .ops escheatref02_Long_o0
def escheatref02_Long_o1 : List AOper := [{ dst := some 8, op := .mv (.t 0) }, { dst := some 9, op := .len (.t 8) }, { dst := some 10, op := .mv (.t 1) }, { dst := some 11, op := .bin .gtr (.t 9) (.t 10) }]
def escheatref02_Long_c1 : ACode := .ops escheatref02_Long_o1
def escheatref02_Long_o2 : List AOper := [{ dst := some 6, op := .mv (.v (.c (.b true))) }]
def escheatref02_Long_c2 : ACode := .ops escheatref02_Long_o2
def escheatref02_Long_c3 : ACode := .seq [6] escheatref02_Long_c2 .ret
def escheatref02_Long_c4 : ACode := .cond (.t 11) escheatref02_Long_c3 .skip
def escheatref02_Long_c5 : ACode := .seq [0, 2, 11] escheatref02_Long_c1 escheatref02_Long_c4
def escheatref02_Long_o3 : List AOper := [{ dst := some 7, op := .mv (.v (.c (.i .i64 0))) }]
def escheatref02_Long_c6 : ACode := .ops escheatref02_Long_o3
def escheatref02_Long_o4 : List AOper := [{ dst := some 12, op := .mv (.t 7) }, { dst := some 13, op := .mv (.t 0) }, { dst := some 14, op := .len (.t 13) }, { dst := some 15, op := .bin .lss (.t 12) (.t 14) }]
def escheatref02_Long_c7 : ACode := .ops escheatref02_Long_o4
def escheatref02_Long_c8 : ACode := .cond (.t 15) .skip (.exit 0)
def escheatref02_Long_c9 : ACode := .seq [0, 2, 7, 15] escheatref02_Long_c7 escheatref02_Long_c8
def escheatref02_Long_o5 : List AOper := [{ dst := some 18, op := .mv (.t 0) }, { dst := some 19, op := .mv (.t 7) }, { dst := some 20, op := .iAddrL 1 (.t 18) (.t 19) }, { dst := some 21, op := .load1 (.t 20) }, { dst := some 22, op := .lenS (.t 21) }, { dst := some 23, op := .mv (.t 2) }, { dst := some 24, op := .bin .gtr (.t 22) (.t 23) }]
def escheatref02_Long_c10 : ACode := .ops escheatref02_Long_o5
def escheatref02_Long_o6 : List AOper := [{ dst := some 6, op := .mv (.v (.c (.b true))) }]
def escheatref02_Long_c11 : ACode := .ops escheatref02_Long_o6
def escheatref02_Long_c12 : ACode := .seq [6] escheatref02_Long_c11 .ret
def escheatref02_Long_c13 : ACode := .cond (.t 24) escheatref02_Long_c12 .skip
def escheatref02_Long_c14 : ACode := .seq [0, 2, 7, 24] escheatref02_Long_c10 escheatref02_Long_c13
def escheatref02_Long_c15 : ACode := .block 1 escheatref02_Long_c14
def escheatref02_Long_o7 : List AOper := [{ dst := some 16, op := .mv (.t 7) }, { dst := some 17, op := .bin .add (.t 16) (.v (.c (.i .i64 1))) }, { dst := some 7, op := .mv (.t 17) }]
def escheatref02_Long_c16 : ACode := .ops escheatref02_Long_o7
def escheatref02_Long_c17 : ACode := .seq [0, 2, 7] escheatref02_Long_c15 escheatref02_Long_c16
def escheatref02_Long_c18 : ACode := .seq [0, 2, 7] escheatref02_Long_c9 escheatref02_Long_c17
def escheatref02_Long_c19 : ACode := .loop [0, 2, 7] escheatref02_Long_c18
def escheatref02_Long_c20 : ACode := .block 0 escheatref02_Long_c19
def escheatref02_Long_c21 : ACode := .seq [0, 2, 7] escheatref02_Long_c6 escheatref02_Long_c20
def escheatref02_Long_o8 : List AOper := [{ dst := some 6, op := .mv (.v (.c (.b false))) }]
def escheatref02_Long_c22 : ACode := .ops escheatref02_Long_o8
def escheatref02_Long_c23 : ACode := .seq [6] escheatref02_Long_c22 .ret
def escheatref02_Long_c24 : ACode := .seq [] escheatref02_Long_c21 escheatref02_Long_c23
def escheatref02_Long_c25 : ACode := .seq [0, 2] escheatref02_Long_c5 escheatref02_Long_c24
def escheatref02_Long_c26 : ACode := .seq [0, 1, 2] escheatref02_Long_c0 escheatref02_Long_c25
def A_escheatref02_Long : AFn := ⟨escheatref02_Long_c26, [.tmp 6]⟩
noncomputable def E_escheatref02_Long : Sums := disp0
noncomputable def escheatref02_Long_c0_d (n : Nat) : SmV := smOps E_escheatref02_Long escheatref02_Long_o0
noncomputable def escheatref02_Long_c1_d (n : Nat) : SmV := smOps E_escheatref02_Long escheatref02_Long_o1
noncomputable def escheatref02_Long_c2_d (n : Nat) : SmV := smOps E_escheatref02_Long escheatref02_Long_o2
noncomputable def escheatref02_Long_c3_d (n : Nat) : SmV := smSeq [6] (escheatref02_Long_c2_d n) smRet
noncomputable def escheatref02_Long_c4_d (n : Nat) : SmV := smCond (.t 11) (escheatref02_Long_c3_d n) smSkip
noncomputable def escheatref02_Long_c5_d (n : Nat) : SmV := smSeq [0, 2, 11] (escheatref02_Long_c1_d n) (escheatref02_Long_c4_d n)
noncomputable def escheatref02_Long_c6_d (n : Nat) : SmV := smOps E_escheatref02_Long escheatref02_Long_o3
noncomputable def escheatref02_Long_c7_d (n : Nat) : SmV := smOps E_escheatref02_Long escheatref02_Long_o4
noncomputable def escheatref02_Long_c8_d (n : Nat) : SmV := smCond (.t 15) smSkip (smExit 0)
noncomputable def escheatref02_Long_c9_d (n : Nat) : SmV := smSeq [0, 2, 7, 15] (escheatref02_Long_c7_d n) (escheatref02_Long_c8_d n)
noncomputable def escheatref02_Long_c10_d (n : Nat) : SmV := smOps E_escheatref02_Long escheatref02_Long_o5
noncomputable def escheatref02_Long_c11_d (n : Nat) : SmV := smOps E_escheatref02_Long escheatref02_Long_o6
noncomputable def escheatref02_Long_c12_d (n : Nat) : SmV := smSeq [6] (escheatref02_Long_c11_d n) smRet
noncomputable def escheatref02_Long_c13_d (n : Nat) : SmV := smCond (.t 24) (escheatref02_Long_c12_d n) smSkip
noncomputable def escheatref02_Long_c14_d (n : Nat) : SmV := smSeq [0, 2, 7, 24] (escheatref02_Long_c10_d n) (escheatref02_Long_c13_d n)
noncomputable def escheatref02_Long_c15_d (n : Nat) : SmV := smBlock 1 (escheatref02_Long_c14_d n)
noncomputable def escheatref02_Long_c16_d (n : Nat) : SmV := smOps E_escheatref02_Long escheatref02_Long_o7
noncomputable def escheatref02_Long_c17_d (n : Nat) : SmV := smSeq [0, 2, 7] (escheatref02_Long_c15_d n) (escheatref02_Long_c16_d n)
noncomputable def escheatref02_Long_c18_d (n : Nat) : SmV := smSeq [0, 2, 7] (escheatref02_Long_c9_d n) (escheatref02_Long_c17_d n)
noncomputable def escheatref02_Long_c19_d (n : Nat) : SmV := smLoop n [0, 2, 7] (escheatref02_Long_c18_d n)
noncomputable def escheatref02_Long_c20_d (n : Nat) : SmV := smBlock 0 (escheatref02_Long_c19_d n)
noncomputable def escheatref02_Long_c21_d (n : Nat) : SmV := smSeq [0, 2, 7] (escheatref02_Long_c6_d n) (escheatref02_Long_c20_d n)
noncomputable def escheatref02_Long_c22_d (n : Nat) : SmV := smOps E_escheatref02_Long escheatref02_Long_o8
noncomputable def escheatref02_Long_c23_d (n : Nat) : SmV := smSeq [6] (escheatref02_Long_c22_d n) smRet
noncomputable def escheatref02_Long_c24_d (n : Nat) : SmV := smSeq [] (escheatref02_Long_c21_d n) (escheatref02_Long_c23_d n)
noncomputable def escheatref02_Long_c25_d (n : Nat) : SmV := smSeq [0, 2] (escheatref02_Long_c5_d n) (escheatref02_Long_c24_d n)
noncomputable def escheatref02_Long_c26_d (n : Nat) : SmV := smSeq [0, 1, 2] (escheatref02_Long_c0_d n) (escheatref02_Long_c25_d n)
noncomputable def escheatref02_Long_k0 (n : Nat) : AExit → Env → Heap → OptV := fun x e h => match x with | .normal => hold ((escheatref02_Long_c23_d n) A_escheatref02_Long.fin (e.keep []) h) | .exit id => A_escheatref02_Long.fin (.exit id) e h | .ret => A_escheatref02_Long.fin .ret e h
noncomputable def escheatref02_Long_k1 (n : Nat) : AExit → Env → Heap → OptV := fun x e h => match x with | .exit i => bif Nat.beq i 0 then (escheatref02_Long_k0 n) .normal e h else (escheatref02_Long_k0 n) (.exit i) e h | .normal => (escheatref02_Long_k0 n) .normal e h | .ret => (escheatref02_Long_k0 n) .ret e h
noncomputable def escheatref02_Long_l0 (n m : Nat) (x0 x2 x7 : Val) (h : Heap) : OptV := around (escheatref02_Long_c18_d n) [0, 2, 7] (escheatref02_Long_k1 n) m [(0, x0), (2, x2), (7, x7)] h
noncomputable def R_escheatref02_Long (n : Nat) (args : List Val) (h : Heap) : OptV := (escheatref02_Long_c26_d n) A_escheatref02_Long.fin (params 0 args) h
theorem R_escheatref02_Long_eq (n : Nat) (a0 a1 a2 : Val) (h : Heap) : R_escheatref02_Long n [a0, a1, a2] h = bnd (alen a0) fun v1 => bnd (abin .gtr v1 a1) fun v2 => cnd v2 (some ((.c (.b true)), h)) (escheatref02_Long_l0 n n a0 a2 (.c (.i .i64 0)) h) := by kernel_rfl
theorem escheatref02_Long_l0_eq (n m : Nat) (x0 x2 x7 : Val) (h : Heap) : escheatref02_Long_l0 n (m + 1) x0 x2 x7 h = bnd (alen x0) fun v3 => bnd (abin .lss x7 v3) fun v4 => cnd v4 (bnd (aiAddrL 1 x0 x7) fun v5 => bnd (aload1 h v5) fun v6 => bnd (alenS v6) fun v7 => bnd (abin .gtr v7 x2) fun v8 => cnd v8 (some ((.c (.b true)), h)) (bnd (abin .add x7 (.c (.i .i64 1))) fun v9 => escheatref02_Long_l0 n m x0 x2 v9 h)) (some ((.c (.b false)), h)) := by kernel_rfl
theorem K_escheatref02_Long : FnK Try.prog 73 A_escheatref02_Long E_escheatref02_Long R_escheatref02_Long := .mk' (sound0) Try.func73 (by kernel_rfl) (by intro n args h; kernel_rfl)
noncomputable def S_escheatref02_Long : Fun := tidy (Lim A_escheatref02_Long E_escheatref02_Long)
theorem S_escheatref02_Long_ok : SOk Try.prog 73 S_escheatref02_Long := K_escheatref02_Long.sok
theorem S_escheatref02_Long_flat {n : Nat} {args : List Val} {h h2 : Heap} {v : Val} (he : R_escheatref02_Long n args (ro h) = some (v, h2)) (hf : v.flat = true) : S_escheatref02_Long args h = some (v, h) := K_escheatref02_Long.flat he hf
def escheatref02_Texts_o0 : List AOper := [{ dst := some 4, op := .mv (.v (.c (.b false))) }]
def escheatref02_Texts_c0 : ACode := .ops escheatref02_Texts_o0
def escheatref02_Texts_o1 : List AOper := [{ dst := some 6, op := .mv (.t 0) }, { dst := some 7, op := .len (.t 6) }, { dst := some 8, op := .mv (.t 1) }, { dst := some 9, op := .len (.t 8) }, { dst := some 10, op := .bin .neq (.t 7) (.t 9) }]
def escheatref02_Texts_c1 : ACode := .ops escheatref02_Texts_o1
def escheatref02_Texts_o2 : List AOper := [{ dst := some 4, op := .mv (.v (.c (.b false))) }]
def escheatref02_Texts_c2 : ACode := .ops escheatref02_Texts_o2
def escheatref02_Texts_c3 : ACode := .seq [4] escheatref02_Texts_c2 .ret
def escheatref02_Texts_c4 : ACode := .cond (.t 10) escheatref02_Texts_c3 .skip
def escheatref02_Texts_c5 : ACode := .seq [0, 1, 10] escheatref02_Texts_c1 escheatref02_Texts_c4
def escheatref02_Texts_o3 : List AOper := [{ dst := some 5, op := .mv (.v (.c (.i .i64 0))) }]
def escheatref02_Texts_c6 : ACode := .ops escheatref02_Texts_o3
def escheatref02_Texts_o4 : List AOper := [{ dst := some 11, op := .mv (.t 5) }, { dst := some 12, op := .mv (.t 0) }, { dst := some 13, op := .len (.t 12) }, { dst := some 14, op := .bin .lss (.t 11) (.t 13) }]
def escheatref02_Texts_c7 : ACode := .ops escheatref02_Texts_o4
def escheatref02_Texts_c8 : ACode := .cond (.t 14) .skip (.exit 0)
def escheatref02_Texts_c9 : ACode := .seq [0, 1, 5, 14] escheatref02_Texts_c7 escheatref02_Texts_c8
def escheatref02_Texts_o5 : List AOper := [{ dst := some 17, op := .mv (.t 0) }, { dst := some 18, op := .mv (.t 5) }, { dst := some 19, op := .iAddrL 1 (.t 17) (.t 18) }, { dst := some 20, op := .load1 (.t 19) }, { dst := some 21, op := .mv (.t 1) }, { dst := some 22, op := .mv (.t 5) }, { dst := some 23, op := .iAddrL 1 (.t 21) (.t 22) }, { dst := some 24, op := .load1 (.t 23) }]
def escheatref02_Texts_o6 : List AOper := [{ dst := some 25, op := .bin .neq (.t 20) (.t 24) }]
def escheatref02_Texts_c10 : ACode := .draw 0 escheatref02_Texts_o5 escheatref02_Texts_o6
def escheatref02_Texts_o7 : List AOper := [{ dst := some 4, op := .mv (.v (.c (.b false))) }]
def escheatref02_Texts_c11 : ACode := .ops escheatref02_Texts_o7
def escheatref02_Texts_c12 : ACode := .seq [4] escheatref02_Texts_c11 .ret
def escheatref02_Texts_c13 : ACode := .cond (.t 25) escheatref02_Texts_c12 .skip
def escheatref02_Texts_c14 : ACode := .seq [0, 1, 5, 25] escheatref02_Texts_c10 escheatref02_Texts_c13
def escheatref02_Texts_c15 : ACode := .block 1 escheatref02_Texts_c14
def escheatref02_Texts_o8 : List AOper := [{ dst := some 15, op := .mv (.t 5) }, { dst := some 16, op := .bin .add (.t 15) (.v (.c (.i .i64 1))) }, { dst := some 5, op := .mv (.t 16) }]
def escheatref02_Texts_c16 : ACode := .ops escheatref02_Texts_o8
def escheatref02_Texts_c17 : ACode := .seq [0, 1, 5] escheatref02_Texts_c15 escheatref02_Texts_c16
def escheatref02_Texts_c18 : ACode := .seq [0, 1, 5] escheatref02_Texts_c9 escheatref02_Texts_c17
def escheatref02_Texts_c19 : ACode := .loop [0, 1, 5] escheatref02_Texts_c18
def escheatref02_Texts_c20 : ACode := .block 0 escheatref02_Texts_c19
def escheatref02_Texts_c21 : ACode := .seq [0, 1, 5] escheatref02_Texts_c6 escheatref02_Texts_c20
def escheatref02_Texts_o9 : List AOper := [{ dst := some 4, op := .mv (.v (.c (.b true))) }]
def escheatref02_Texts_c22 : ACode := .ops escheatref02_Texts_o9
def escheatref02_Texts_c23 : ACode := .seq [4] escheatref02_Texts_c22 .ret
def escheatref02_Texts_c24 : ACode := .seq [] escheatref02_Texts_c21 escheatref02_Texts_c23
def escheatref02_Texts_c25 : ACode := .seq [0, 1] escheatref02_Texts_c5 escheatref02_Texts_c24
def escheatref02_Texts_c26 : ACode := .seq [0, 1] escheatref02_Texts_c0 escheatref02_Texts_c25
def A_escheatref02_Texts : AFn := ⟨escheatref02_Texts_c26, [.tmp 4]⟩
noncomputable def E_escheatref02_Texts : Sums := disp0
noncomputable def escheatref02_Texts_c0_d (n : Nat) : SmV := smOps E_escheatref02_Texts escheatref02_Texts_o0
noncomputable def escheatref02_Texts_c1_d (n : Nat) : SmV := smOps E_escheatref02_Texts escheatref02_Texts_o1
noncomputable def escheatref02_Texts_c2_d (n : Nat) : SmV := smOps E_escheatref02_Texts escheatref02_Texts_o2
noncomputable def escheatref02_Texts_c3_d (n : Nat) : SmV := smSeq [4] (escheatref02_Texts_c2_d n) smRet
noncomputable def escheatref02_Texts_c4_d (n : Nat) : SmV := smCond (.t 10) (escheatref02_Texts_c3_d n) smSkip
noncomputable def escheatref02_Texts_c5_d (n : Nat) : SmV := smSeq [0, 1, 10] (escheatref02_Texts_c1_d n) (escheatref02_Texts_c4_d n)
noncomputable def escheatref02_Texts_c6_d (n : Nat) : SmV := smOps E_escheatref02_Texts escheatref02_Texts_o3
noncomputable def escheatref02_Texts_c7_d (n : Nat) : SmV := smOps E_escheatref02_Texts escheatref02_Texts_o4
noncomputable def escheatref02_Texts_c8_d (n : Nat) : SmV := smCond (.t 14) smSkip (smExit 0)
noncomputable def escheatref02_Texts_c9_d (n : Nat) : SmV := smSeq [0, 1, 5, 14] (escheatref02_Texts_c7_d n) (escheatref02_Texts_c8_d n)
noncomputable def escheatref02_Texts_c10_d (n : Nat) : SmV := smDraw E_escheatref02_Texts 0 escheatref02_Texts_o5 escheatref02_Texts_o6
noncomputable def escheatref02_Texts_c11_d (n : Nat) : SmV := smOps E_escheatref02_Texts escheatref02_Texts_o7
noncomputable def escheatref02_Texts_c12_d (n : Nat) : SmV := smSeq [4] (escheatref02_Texts_c11_d n) smRet
noncomputable def escheatref02_Texts_c13_d (n : Nat) : SmV := smCond (.t 25) (escheatref02_Texts_c12_d n) smSkip
noncomputable def escheatref02_Texts_c14_d (n : Nat) : SmV := smSeq [0, 1, 5, 25] (escheatref02_Texts_c10_d n) (escheatref02_Texts_c13_d n)
noncomputable def escheatref02_Texts_c15_d (n : Nat) : SmV := smBlock 1 (escheatref02_Texts_c14_d n)
noncomputable def escheatref02_Texts_c16_d (n : Nat) : SmV := smOps E_escheatref02_Texts escheatref02_Texts_o8
noncomputable def escheatref02_Texts_c17_d (n : Nat) : SmV := smSeq [0, 1, 5] (escheatref02_Texts_c15_d n) (escheatref02_Texts_c16_d n)
noncomputable def escheatref02_Texts_c18_d (n : Nat) : SmV := smSeq [0, 1, 5] (escheatref02_Texts_c9_d n) (escheatref02_Texts_c17_d n)
noncomputable def escheatref02_Texts_c19_d (n : Nat) : SmV := smLoop n [0, 1, 5] (escheatref02_Texts_c18_d n)
noncomputable def escheatref02_Texts_c20_d (n : Nat) : SmV := smBlock 0 (escheatref02_Texts_c19_d n)
noncomputable def escheatref02_Texts_c21_d (n : Nat) : SmV := smSeq [0, 1, 5] (escheatref02_Texts_c6_d n) (escheatref02_Texts_c20_d n)
noncomputable def escheatref02_Texts_c22_d (n : Nat) : SmV := smOps E_escheatref02_Texts escheatref02_Texts_o9
noncomputable def escheatref02_Texts_c23_d (n : Nat) : SmV := smSeq [4] (escheatref02_Texts_c22_d n) smRet
noncomputable def escheatref02_Texts_c24_d (n : Nat) : SmV := smSeq [] (escheatref02_Texts_c21_d n) (escheatref02_Texts_c23_d n)
noncomputable def escheatref02_Texts_c25_d (n : Nat) : SmV := smSeq [0, 1] (escheatref02_Texts_c5_d n) (escheatref02_Texts_c24_d n)
noncomputable def escheatref02_Texts_c26_d (n : Nat) : SmV := smSeq [0, 1] (escheatref02_Texts_c0_d n) (escheatref02_Texts_c25_d n)
noncomputable def escheatref02_Texts_k0 (n : Nat) : AExit → Env → Heap → OptV := fun x e h => match x with | .normal => hold ((escheatref02_Texts_c23_d n) A_escheatref02_Texts.fin (e.keep []) h) | .exit id => A_escheatref02_Texts.fin (.exit id) e h | .ret => A_escheatref02_Texts.fin .ret e h
noncomputable def escheatref02_Texts_k1 (n : Nat) : AExit → Env → Heap → OptV := fun x e h => match x with | .exit i => bif Nat.beq i 0 then (escheatref02_Texts_k0 n) .normal e h else (escheatref02_Texts_k0 n) (.exit i) e h | .normal => (escheatref02_Texts_k0 n) .normal e h | .ret => (escheatref02_Texts_k0 n) .ret e h
noncomputable def escheatref02_Texts_l0 (n m : Nat) (x0 x1 x5 : Val) (h : Heap) : OptV := around (escheatref02_Texts_c18_d n) [0, 1, 5] (escheatref02_Texts_k1 n) m [(0, x0), (1, x1), (5, x5)] h
noncomputable def R_escheatref02_Texts (n : Nat) (args : List Val) (h : Heap) : OptV := (escheatref02_Texts_c26_d n) A_escheatref02_Texts.fin (params 0 args) h
theorem R_escheatref02_Texts_eq (n : Nat) (a0 a1 : Val) (h : Heap) : R_escheatref02_Texts n [a0, a1] h = bnd (alen a0) fun v1 => bnd (alen a1) fun v2 => bnd (abin .neq v1 v2) fun v3 => cnd v3 (some ((.c (.b false)), h)) (escheatref02_Texts_l0 n n a0 a1 (.c (.i .i64 0)) h) := by kernel_rfl
theorem escheatref02_Texts_l0_eq (n m : Nat) (x0 x1 x5 : Val) (h : Heap) : escheatref02_Texts_l0 n (m + 1) x0 x1 x5 h = bnd (alen x0) fun v4 => bnd (abin .lss x5 v4) fun v5 => cnd v5 (bnd (aiAddrL 1 x0 x5) fun v6 => bnd (aload1 h v6) fun v7 => bnd (aiAddrL 1 x1 x5) fun v8 => bnd (aload1 h v8) fun v9 => bnd (abin .neq v7 v9) fun v10 => cnd v10 (some ((.c (.b false)), (h ++ []))) (bnd (abin .add x5 (.c (.i .i64 1))) fun v11 => escheatref02_Texts_l0 n m x0 x1 v11 ((h ++ [])))) (some ((.c (.b true)), h)) := by kernel_rfl
theorem K_escheatref02_Texts : FnK Try.prog 79 A_escheatref02_Texts E_escheatref02_Texts R_escheatref02_Texts := .mk' (sound0) Try.func79 (by kernel_rfl) (by intro n args h; kernel_rfl)
noncomputable def S_escheatref02_Texts : Fun := tidy (Lim A_escheatref02_Texts E_escheatref02_Texts)
theorem S_escheatref02_Texts_ok : SOk Try.prog 79 S_escheatref02_Texts := K_escheatref02_Texts.sok
theorem S_escheatref02_Texts_flat {n : Nat} {args : List Val} {h h2 : Heap} {v : Val} (he : R_escheatref02_Texts n args (ro h) = some (v, h2)) (hf : v.flat = true) : S_escheatref02_Texts args h = some (v, h) := K_escheatref02_Texts.flat he hf
def escheatref02_More_o0 : List AOper := [{ dst := some 4, op := .mv (.v (.c (.i .u64 0))) }]
def escheatref02_More_c0 : ACode := .ops escheatref02_More_o0
def escheatref02_More_o1 : List AOper := [{ dst := some 5, op := .mv (.v (.c (.i .i64 0))) }]
def escheatref02_More_c1 : ACode := .ops escheatref02_More_o1
def escheatref02_More_o2 : List AOper := [{ dst := some 7, op := .mv (.t 5) }, { dst := some 8, op := .mv (.t 1) }, { dst := some 9, op := .lenS (.t 8) }, { dst := some 10, op := .bin .lss (.t 7) (.t 9) }]
def escheatref02_More_c2 : ACode := .ops escheatref02_More_o2
def escheatref02_More_c3 : ACode := .cond (.t 10) .skip (.exit 0)
def escheatref02_More_c4 : ACode := .seq [0, 1, 5, 10] escheatref02_More_c2 escheatref02_More_c3
def escheatref02_More_o3 : List AOper := [{ dst := some 13, op := .mv (.t 0) }, { dst := some 14, op := .bin .rem (.t 13) (.v (.c (.i .u64 256))) }, { dst := some 15, op := .mv (.t 1) }, { dst := some 16, op := .mv (.t 5) }, { dst := some 17, op := .idxS (.t 15) (.t 16) }, { dst := some 18, op := .conv .u64 (.t 17) }, { dst := some 19, op := .bin .xor (.t 14) (.t 18) }, { dst := some 6, op := .mv (.t 19) }]
def escheatref02_More_c5 : ACode := .ops escheatref02_More_o3
def escheatref02_More_o4 : List AOper := [{ dst := some 20, op := .mv (.t 0) }, { dst := some 21, op := .mv (.t 0) }, { dst := some 22, op := .bin .rem (.t 21) (.v (.c (.i .u64 256))) }, { dst := some 23, op := .bin .sub (.t 20) (.t 22) }, { dst := some 24, op := .mv (.t 6) }, { dst := some 25, op := .bin .add (.t 23) (.t 24) }, { dst := some 26, op := .bin .mul (.t 25) (.v (.c (.i .u64 16777619))) }, { dst := some 27, op := .bin .rem (.t 26) (.v (.c (.i .u64 4294967296))) }, { dst := some 0, op := .mv (.t 27) }]
def escheatref02_More_c6 : ACode := .ops escheatref02_More_o4
def escheatref02_More_c7 : ACode := .seq [0, 1, 5, 6] escheatref02_More_c5 escheatref02_More_c6
def escheatref02_More_c8 : ACode := .block 1 escheatref02_More_c7
def escheatref02_More_o5 : List AOper := [{ dst := some 11, op := .mv (.t 5) }, { dst := some 12, op := .bin .add (.t 11) (.v (.c (.i .i64 1))) }, { dst := some 5, op := .mv (.t 12) }]
def escheatref02_More_c9 : ACode := .ops escheatref02_More_o5
def escheatref02_More_c10 : ACode := .seq [0, 1, 5] escheatref02_More_c8 escheatref02_More_c9
def escheatref02_More_c11 : ACode := .seq [0, 1, 5] escheatref02_More_c4 escheatref02_More_c10
def escheatref02_More_c12 : ACode := .loop [0, 1, 5] escheatref02_More_c11
def escheatref02_More_c13 : ACode := .block 0 escheatref02_More_c12
def escheatref02_More_c14 : ACode := .seq [0, 1, 5] escheatref02_More_c1 escheatref02_More_c13
def escheatref02_More_o6 : List AOper := [{ dst := some 28, op := .mv (.t 0) }, { dst := some 4, op := .mv (.t 28) }]
def escheatref02_More_c15 : ACode := .ops escheatref02_More_o6
def escheatref02_More_c16 : ACode := .seq [4] escheatref02_More_c15 .ret
def escheatref02_More_c17 : ACode := .seq [0] escheatref02_More_c14 escheatref02_More_c16
def escheatref02_More_c18 : ACode := .seq [0, 1] escheatref02_More_c0 escheatref02_More_c17
def A_escheatref02_More : AFn := ⟨escheatref02_More_c18, [.tmp 4]⟩
noncomputable def E_escheatref02_More : Sums := disp0
noncomputable def escheatref02_More_c0_d (n : Nat) : SmV := smOps E_escheatref02_More escheatref02_More_o0
noncomputable def escheatref02_More_c1_d (n : Nat) : SmV := smOps E_escheatref02_More escheatref02_More_o1
noncomputable def escheatref02_More_c2_d (n : Nat) : SmV := smOps E_escheatref02_More escheatref02_More_o2
noncomputable def escheatref02_More_c3_d (n : Nat) : SmV := smCond (.t 10) smSkip (smExit 0)
noncomputable def escheatref02_More_c4_d (n : Nat) : SmV := smSeq [0, 1, 5, 10] (escheatref02_More_c2_d n) (escheatref02_More_c3_d n)
noncomputable def escheatref02_More_c5_d (n : Nat) : SmV := smOps E_escheatref02_More escheatref02_More_o3
noncomputable def escheatref02_More_c6_d (n : Nat) : SmV := smOps E_escheatref02_More escheatref02_More_o4
noncomputable def escheatref02_More_c7_d (n : Nat) : SmV := smSeq [0, 1, 5, 6] (escheatref02_More_c5_d n) (escheatref02_More_c6_d n)
noncomputable def escheatref02_More_c8_d (n : Nat) : SmV := smBlock 1 (escheatref02_More_c7_d n)
noncomputable def escheatref02_More_c9_d (n : Nat) : SmV := smOps E_escheatref02_More escheatref02_More_o5
noncomputable def escheatref02_More_c10_d (n : Nat) : SmV := smSeq [0, 1, 5] (escheatref02_More_c8_d n) (escheatref02_More_c9_d n)
noncomputable def escheatref02_More_c11_d (n : Nat) : SmV := smSeq [0, 1, 5] (escheatref02_More_c4_d n) (escheatref02_More_c10_d n)
noncomputable def escheatref02_More_c12_d (n : Nat) : SmV := smLoop n [0, 1, 5] (escheatref02_More_c11_d n)
noncomputable def escheatref02_More_c13_d (n : Nat) : SmV := smBlock 0 (escheatref02_More_c12_d n)
noncomputable def escheatref02_More_c14_d (n : Nat) : SmV := smSeq [0, 1, 5] (escheatref02_More_c1_d n) (escheatref02_More_c13_d n)
noncomputable def escheatref02_More_c15_d (n : Nat) : SmV := smOps E_escheatref02_More escheatref02_More_o6
noncomputable def escheatref02_More_c16_d (n : Nat) : SmV := smSeq [4] (escheatref02_More_c15_d n) smRet
noncomputable def escheatref02_More_c17_d (n : Nat) : SmV := smSeq [0] (escheatref02_More_c14_d n) (escheatref02_More_c16_d n)
noncomputable def escheatref02_More_c18_d (n : Nat) : SmV := smSeq [0, 1] (escheatref02_More_c0_d n) (escheatref02_More_c17_d n)
noncomputable def escheatref02_More_k0 (n : Nat) : AExit → Env → Heap → OptV := fun x e h => match x with | .normal => hold ((escheatref02_More_c16_d n) A_escheatref02_More.fin (e.keep [0]) h) | .exit id => A_escheatref02_More.fin (.exit id) e h | .ret => A_escheatref02_More.fin .ret e h
noncomputable def escheatref02_More_k1 (n : Nat) : AExit → Env → Heap → OptV := fun x e h => match x with | .exit i => bif Nat.beq i 0 then (escheatref02_More_k0 n) .normal e h else (escheatref02_More_k0 n) (.exit i) e h | .normal => (escheatref02_More_k0 n) .normal e h | .ret => (escheatref02_More_k0 n) .ret e h
noncomputable def escheatref02_More_l0 (n m : Nat) (x0 x1 x5 : Val) (h : Heap) : OptV := around (escheatref02_More_c11_d n) [0, 1, 5] (escheatref02_More_k1 n) m [(0, x0), (1, x1), (5, x5)] h
noncomputable def R_escheatref02_More (n : Nat) (args : List Val) (h : Heap) : OptV := (escheatref02_More_c18_d n) A_escheatref02_More.fin (params 0 args) h
theorem R_escheatref02_More_eq (n : Nat) (a0 a1 : Val) (h : Heap) : R_escheatref02_More n [a0, a1] h = escheatref02_More_l0 n n a0 a1 (.c (.i .i64 0)) h := by kernel_rfl
theorem escheatref02_More_l0_eq (n m : Nat) (x0 x1 x5 : Val) (h : Heap) : escheatref02_More_l0 n (m + 1) x0 x1 x5 h = bnd (alenS x1) fun v1 => bnd (abin .lss x5 v1) fun v2 => cnd v2 (bnd (abin .rem x0 (.c (.i .u64 256))) fun v3 => bnd (aidxS x1 x5) fun v4 => bnd (aconv .u64 v4) fun v5 => bnd (abin .xor v3 v5) fun v6 => bnd (abin .rem x0 (.c (.i .u64 256))) fun v7 => bnd (abin .sub x0 v7) fun v8 => bnd (abin .add v8 v6) fun v9 => bnd (abin .mul v9 (.c (.i .u64 16777619))) fun v10 => bnd (abin .rem v10 (.c (.i .u64 4294967296))) fun v11 => bnd (abin .add x5 (.c (.i .i64 1))) fun v12 => escheatref02_More_l0 n m v11 x1 v12 h) (some (x0, h)) := by kernel_rfl
theorem K_escheatref02_More : FnK Try.prog 206 A_escheatref02_More E_escheatref02_More R_escheatref02_More := .mk' (sound0) Try.func206 (by kernel_rfl) (by intro n args h; kernel_rfl)
noncomputable def S_escheatref02_More : Fun := tidy (Lim A_escheatref02_More E_escheatref02_More)
theorem S_escheatref02_More_ok : SOk Try.prog 206 S_escheatref02_More := K_escheatref02_More.sok
theorem S_escheatref02_More_flat {n : Nat} {args : List Val} {h h2 : Heap} {v : Val} (he : R_escheatref02_More n args (ro h) = some (v, h2)) (hf : v.flat = true) : S_escheatref02_More args h = some (v, h) := K_escheatref02_More.flat he hf
def escheatref02_Of_o0 : List AOper := [{ dst := some 2, op := .mv (.v (.c (.i .u64 0))) }]
def escheatref02_Of_c0 : ACode := .ops escheatref02_Of_o0
def escheatref02_Of_o1 : List AOper := [{ dst := some 3, op := .mv (.t 0) }, { dst := some 4, op := .call 206 [(.v (.c (.i .u64 2166136261))), (.t 3)] }, { dst := some 2, op := .mv (.t 4) }]
def escheatref02_Of_c1 : ACode := .ops escheatref02_Of_o1
def escheatref02_Of_c2 : ACode := .seq [2] escheatref02_Of_c1 .ret
def escheatref02_Of_c3 : ACode := .seq [0] escheatref02_Of_c0 escheatref02_Of_c2
def A_escheatref02_Of : AFn := ⟨escheatref02_Of_c3, [.tmp 2]⟩
noncomputable def E_escheatref02_Of : Sums := disp 206 S_escheatref02_More disp0
noncomputable def escheatref02_Of_c0_d (n : Nat) : SmV := smOps E_escheatref02_Of escheatref02_Of_o0
noncomputable def escheatref02_Of_c1_d (n : Nat) : SmV := smOps E_escheatref02_Of escheatref02_Of_o1
noncomputable def escheatref02_Of_c2_d (n : Nat) : SmV := smSeq [2] (escheatref02_Of_c1_d n) smRet
noncomputable def escheatref02_Of_c3_d (n : Nat) : SmV := smSeq [0] (escheatref02_Of_c0_d n) (escheatref02_Of_c2_d n)
noncomputable def R_escheatref02_Of (n : Nat) (args : List Val) (h : Heap) : OptV := (escheatref02_Of_c3_d n) A_escheatref02_Of.fin (params 0 args) h
theorem R_escheatref02_Of_eq (n : Nat) (a0 : Val) (h : Heap) : R_escheatref02_Of n [a0] h = bnd (S_escheatref02_More [.c (.i .u64 2166136261), a0] h) fun p1 => some (p1.1, p1.2) := by kernel_rfl
theorem K_escheatref02_Of : FnK Try.prog 187 A_escheatref02_Of E_escheatref02_Of R_escheatref02_Of := .mk' (sound1 S_escheatref02_More_ok sound0) Try.func187 (by kernel_rfl) (by intro n args h; kernel_rfl)
noncomputable def S_escheatref02_Of : Fun := tidy (Lim A_escheatref02_Of E_escheatref02_Of)
theorem S_escheatref02_Of_ok : SOk Try.prog 187 S_escheatref02_Of := K_escheatref02_Of.sok
theorem S_escheatref02_Of_flat {n : Nat} {args : List Val} {h h2 : Heap} {v : Val} (he : R_escheatref02_Of n args (ro h) = some (v, h2)) (hf : v.flat = true) : S_escheatref02_Of args h = some (v, h) := K_escheatref02_Of.flat he hf
def escheatref02_Low_o0 : List AOper := [{ dst := some 4, op := .mv (.v (.c (.i .i64 0))) }]
def escheatref02_Low_c0 : ACode := .ops escheatref02_Low_o0
def escheatref02_Low_o1 : List AOper := [{ dst := some 5, op := .mv (.v (.c (.i .u64 1))) }]
def escheatref02_Low_c1 : ACode := .ops escheatref02_Low_o1
def escheatref02_Low_o2 : List AOper := [{ dst := some 6, op := .mv (.v (.c (.i .i64 0))) }]
def escheatref02_Low_c2 : ACode := .ops escheatref02_Low_o2
def escheatref02_Low_o3 : List AOper := [{ dst := some 7, op := .mv (.t 6) }, { dst := some 8, op := .mv (.t 1) }, { dst := some 9, op := .bin .lss (.t 7) (.t 8) }, { dst := some 10, op := .mv (.t 9) }, { dst := some 11, op := .mv (.t 6), guard := some (10, true) }, { dst := some 12, op := .bin .lss (.t 11) (.v (.c (.i .i64 32))), guard := some (10, true) }, { dst := some 13, op := .pick (.t 10) (.t 12) (.v (.c (.b false))) }]
def escheatref02_Low_c3 : ACode := .ops escheatref02_Low_o3
def escheatref02_Low_c4 : ACode := .cond (.t 13) .skip (.exit 0)
def escheatref02_Low_c5 : ACode := .seq [0, 1, 5, 6, 13] escheatref02_Low_c3 escheatref02_Low_c4
def escheatref02_Low_o4 : List AOper := [{ dst := some 16, op := .mv (.t 5) }, { dst := some 17, op := .bin .mul (.t 16) (.v (.c (.i .u64 2))) }, { dst := some 5, op := .mv (.t 17) }]
def escheatref02_Low_c6 : ACode := .ops escheatref02_Low_o4
def escheatref02_Low_c7 : ACode := .block 1 escheatref02_Low_c6
def escheatref02_Low_o5 : List AOper := [{ dst := some 14, op := .mv (.t 6) }, { dst := some 15, op := .bin .add (.t 14) (.v (.c (.i .i64 1))) }, { dst := some 6, op := .mv (.t 15) }]
def escheatref02_Low_c8 : ACode := .ops escheatref02_Low_o5
def escheatref02_Low_c9 : ACode := .seq [0, 1, 5, 6] escheatref02_Low_c7 escheatref02_Low_c8
def escheatref02_Low_c10 : ACode := .seq [0, 1, 5, 6] escheatref02_Low_c5 escheatref02_Low_c9
def escheatref02_Low_c11 : ACode := .loop [0, 1, 5, 6] escheatref02_Low_c10
def escheatref02_Low_c12 : ACode := .block 0 escheatref02_Low_c11
def escheatref02_Low_c13 : ACode := .seq [0, 1, 5, 6] escheatref02_Low_c2 escheatref02_Low_c12
def escheatref02_Low_o6 : List AOper := [{ dst := some 18, op := .mv (.t 0) }, { dst := some 19, op := .mv (.t 5) }, { dst := some 20, op := .bin .rem (.t 18) (.t 19) }, { dst := some 21, op := .conv .i64 (.t 20) }, { dst := some 4, op := .mv (.t 21) }]
def escheatref02_Low_c14 : ACode := .ops escheatref02_Low_o6
def escheatref02_Low_c15 : ACode := .seq [4] escheatref02_Low_c14 .ret
def escheatref02_Low_c16 : ACode := .seq [0, 5] escheatref02_Low_c13 escheatref02_Low_c15
def escheatref02_Low_c17 : ACode := .seq [0, 1, 5] escheatref02_Low_c1 escheatref02_Low_c16
def escheatref02_Low_c18 : ACode := .seq [0, 1] escheatref02_Low_c0 escheatref02_Low_c17
def A_escheatref02_Low : AFn := ⟨escheatref02_Low_c18, [.tmp 4]⟩
noncomputable def E_escheatref02_Low : Sums := disp0
noncomputable def escheatref02_Low_c0_d (n : Nat) : SmV := smOps E_escheatref02_Low escheatref02_Low_o0
noncomputable def escheatref02_Low_c1_d (n : Nat) : SmV := smOps E_escheatref02_Low escheatref02_Low_o1
noncomputable def escheatref02_Low_c2_d (n : Nat) : SmV := smOps E_escheatref02_Low escheatref02_Low_o2
noncomputable def escheatref02_Low_c3_d (n : Nat) : SmV := smOps E_escheatref02_Low escheatref02_Low_o3
noncomputable def escheatref02_Low_c4_d (n : Nat) : SmV := smCond (.t 13) smSkip (smExit 0)
noncomputable def escheatref02_Low_c5_d (n : Nat) : SmV := smSeq [0, 1, 5, 6, 13] (escheatref02_Low_c3_d n) (escheatref02_Low_c4_d n)
noncomputable def escheatref02_Low_c6_d (n : Nat) : SmV := smOps E_escheatref02_Low escheatref02_Low_o4
noncomputable def escheatref02_Low_c7_d (n : Nat) : SmV := smBlock 1 (escheatref02_Low_c6_d n)
noncomputable def escheatref02_Low_c8_d (n : Nat) : SmV := smOps E_escheatref02_Low escheatref02_Low_o5
noncomputable def escheatref02_Low_c9_d (n : Nat) : SmV := smSeq [0, 1, 5, 6] (escheatref02_Low_c7_d n) (escheatref02_Low_c8_d n)
noncomputable def escheatref02_Low_c10_d (n : Nat) : SmV := smSeq [0, 1, 5, 6] (escheatref02_Low_c5_d n) (escheatref02_Low_c9_d n)
noncomputable def escheatref02_Low_c11_d (n : Nat) : SmV := smLoop n [0, 1, 5, 6] (escheatref02_Low_c10_d n)
noncomputable def escheatref02_Low_c12_d (n : Nat) : SmV := smBlock 0 (escheatref02_Low_c11_d n)
noncomputable def escheatref02_Low_c13_d (n : Nat) : SmV := smSeq [0, 1, 5, 6] (escheatref02_Low_c2_d n) (escheatref02_Low_c12_d n)
noncomputable def escheatref02_Low_c14_d (n : Nat) : SmV := smOps E_escheatref02_Low escheatref02_Low_o6
noncomputable def escheatref02_Low_c15_d (n : Nat) : SmV := smSeq [4] (escheatref02_Low_c14_d n) smRet
noncomputable def escheatref02_Low_c16_d (n : Nat) : SmV := smSeq [0, 5] (escheatref02_Low_c13_d n) (escheatref02_Low_c15_d n)
noncomputable def escheatref02_Low_c17_d (n : Nat) : SmV := smSeq [0, 1, 5] (escheatref02_Low_c1_d n) (escheatref02_Low_c16_d n)
noncomputable def escheatref02_Low_c18_d (n : Nat) : SmV := smSeq [0, 1] (escheatref02_Low_c0_d n) (escheatref02_Low_c17_d n)
noncomputable def escheatref02_Low_k0 (n : Nat) : AExit → Env → Heap → OptV := fun x e h => match x with | .normal => hold ((escheatref02_Low_c15_d n) A_escheatref02_Low.fin (e.keep [0, 5]) h) | .exit id => A_escheatref02_Low.fin (.exit id) e h | .ret => A_escheatref02_Low.fin .ret e h
noncomputable def escheatref02_Low_k1 (n : Nat) : AExit → Env → Heap → OptV := fun x e h => match x with | .exit i => bif Nat.beq i 0 then (escheatref02_Low_k0 n) .normal e h else (escheatref02_Low_k0 n) (.exit i) e h | .normal => (escheatref02_Low_k0 n) .normal e h | .ret => (escheatref02_Low_k0 n) .ret e h
noncomputable def escheatref02_Low_l0 (n m : Nat) (x0 x1 x5 x6 : Val) (h : Heap) : OptV := around (escheatref02_Low_c10_d n) [0, 1, 5, 6] (escheatref02_Low_k1 n) m [(0, x0), (1, x1), (5, x5), (6, x6)] h
noncomputable def R_escheatref02_Low (n : Nat) (args : List Val) (h : Heap) : OptV := (escheatref02_Low_c18_d n) A_escheatref02_Low.fin (params 0 args) h
theorem R_escheatref02_Low_eq (n : Nat) (a0 a1 : Val) (h : Heap) : R_escheatref02_Low n [a0, a1] h = escheatref02_Low_l0 n n a0 a1 (.c (.i .u64 1)) (.c (.i .i64 0)) h := by kernel_rfl
theorem escheatref02_Low_l0_eq (n m : Nat) (x0 x1 x5 x6 : Val) (h : Heap) : escheatref02_Low_l0 n (m + 1) x0 x1 x5 x6 h = bnd (abin .lss x6 x1) fun v1 => bnd (gd v1 true (some (x6, h)) (some (.no, h))) fun p2 => bnd (gd v1 true (bnd (abin .lss p2.1 (.c (.i .i64 32))) fun v3 => some (v3, p2.2)) (some (.no, p2.2))) fun p4 => bnd (apick v1 p4.1 (.c (.b false))) fun v5 => cnd v5 (bnd (abin .mul x5 (.c (.i .u64 2))) fun v6 => bnd (abin .add x6 (.c (.i .i64 1))) fun v7 => escheatref02_Low_l0 n m x0 x1 v6 v7 p4.2) (bnd (abin .rem x0 x5) fun v8 => bnd (aconv .i64 v8) fun v9 => some (v9, p4.2)) := by kernel_rfl
theorem K_escheatref02_Low : FnK Try.prog 125 A_escheatref02_Low E_escheatref02_Low R_escheatref02_Low := .mk' (sound0) Try.func125 (by kernel_rfl) (by intro n args h; kernel_rfl)
noncomputable def S_escheatref02_Low : Fun := tidy (Lim A_escheatref02_Low E_escheatref02_Low)
theorem S_escheatref02_Low_ok : SOk Try.prog 125 S_escheatref02_Low := K_escheatref02_Low.sok
theorem S_escheatref02_Low_flat {n : Nat} {args : List Val} {h h2 : Heap} {v : Val} (he : R_escheatref02_Low n args (ro h) = some (v, h2)) (hf : v.flat = true) : S_escheatref02_Low args h = some (v, h) := K_escheatref02_Low.flat he hf
end Go.Proofs.Ytbbkpmbepljhkaa
