/- Escheatref04: the Go functions of this package as the abstract evaluator computes them: printed by a program, checked by Lean. -/
import Derived.Test.YtbbkpmbepljhkaaEscS
import Derived.Test.YtbbkpmbepljhkaaChecked
import Derived.KernelRfl
namespace Go.Proofs.Ytbbkpmbepljhkaa
open Go Go.Esc
set_option maxRecDepth 100000
set_option linter.all false
def escheatref04_Ints_o0 : List AOper := [{ dst := some 4, op := .mv (.v (.c (.b false))) }]
def escheatref04_Ints_c0 : ACode := .ops escheatref04_Ints_o0
def escheatref04_Ints_o1 : List AOper := [{ dst := some 6, op := .mv (.t 0) }, { dst := some 7, op := .len (.t 6) }, { dst := some 8, op := .mv (.t 1) }, { dst := some 9, op := .len (.t 8) }, { dst := some 10, op := .bin .neq (.t 7) (.t 9) }]
def escheatref04_Ints_c1 : ACode := .ops escheatref04_Ints_o1
def escheatref04_Ints_o2 : List AOper := [{ dst := some 4, op := .mv (.v (.c (.b false))) }]
def escheatref04_Ints_c2 : ACode := .ops escheatref04_Ints_o2
def escheatref04_Ints_c3 : ACode := .seq [4] escheatref04_Ints_c2 .ret
def escheatref04_Ints_c4 : ACode := .cond (.t 10) escheatref04_Ints_c3 .skip
def escheatref04_Ints_c5 : ACode := .seq [0, 1, 10] escheatref04_Ints_c1 escheatref04_Ints_c4
def escheatref04_Ints_o3 : List AOper := [{ dst := some 5, op := .mv (.v (.c (.i .i64 0))) }]
def escheatref04_Ints_c6 : ACode := .ops escheatref04_Ints_o3
def escheatref04_Ints_o4 : List AOper := [{ dst := some 11, op := .mv (.t 5) }, { dst := some 12, op := .mv (.t 0) }, { dst := some 13, op := .len (.t 12) }, { dst := some 14, op := .bin .lss (.t 11) (.t 13) }]
def escheatref04_Ints_c7 : ACode := .ops escheatref04_Ints_o4
def escheatref04_Ints_c8 : ACode := .cond (.t 14) .skip (.exit 0)
def escheatref04_Ints_c9 : ACode := .seq [0, 1, 5, 14] escheatref04_Ints_c7 escheatref04_Ints_c8
def escheatref04_Ints_o5 : List AOper := [{ dst := some 17, op := .mv (.t 0) }, { dst := some 18, op := .mv (.t 5) }, { dst := some 19, op := .iAddrL 1 (.t 17) (.t 18) }, { dst := some 20, op := .load1 (.t 19) }, { dst := some 21, op := .mv (.t 1) }, { dst := some 22, op := .mv (.t 5) }, { dst := some 23, op := .iAddrL 1 (.t 21) (.t 22) }, { dst := some 24, op := .load1 (.t 23) }]
def escheatref04_Ints_o6 : List AOper := [{ dst := some 25, op := .bin .neq (.t 20) (.t 24) }]
def escheatref04_Ints_c10 : ACode := .draw 0 escheatref04_Ints_o5 escheatref04_Ints_o6
def escheatref04_Ints_o7 : List AOper := [{ dst := some 4, op := .mv (.v (.c (.b false))) }]
def escheatref04_Ints_c11 : ACode := .ops escheatref04_Ints_o7
def escheatref04_Ints_c12 : ACode := .seq [4] escheatref04_Ints_c11 .ret
def escheatref04_Ints_c13 : ACode := .cond (.t 25) escheatref04_Ints_c12 .skip
def escheatref04_Ints_c14 : ACode := .seq [0, 1, 5, 25] escheatref04_Ints_c10 escheatref04_Ints_c13
def escheatref04_Ints_c15 : ACode := .block 1 escheatref04_Ints_c14
def escheatref04_Ints_o8 : List AOper := [{ dst := some 15, op := .mv (.t 5) }, { dst := some 16, op := .bin .add (.t 15) (.v (.c (.i .i64 1))) }, { dst := some 5, op := .mv (.t 16) }]
def escheatref04_Ints_c16 : ACode := .ops escheatref04_Ints_o8
def escheatref04_Ints_c17 : ACode := .seq [0, 1, 5] escheatref04_Ints_c15 escheatref04_Ints_c16
def escheatref04_Ints_c18 : ACode := .seq [0, 1, 5] escheatref04_Ints_c9 escheatref04_Ints_c17
def escheatref04_Ints_c19 : ACode := .loop [0, 1, 5] escheatref04_Ints_c18
def escheatref04_Ints_c20 : ACode := .block 0 escheatref04_Ints_c19
def escheatref04_Ints_c21 : ACode := .seq [0, 1, 5] escheatref04_Ints_c6 escheatref04_Ints_c20
def escheatref04_Ints_o9 : List AOper := [{ dst := some 4, op := .mv (.v (.c (.b true))) }]
def escheatref04_Ints_c22 : ACode := .ops escheatref04_Ints_o9
def escheatref04_Ints_c23 : ACode := .seq [4] escheatref04_Ints_c22 .ret
def escheatref04_Ints_c24 : ACode := .seq [] escheatref04_Ints_c21 escheatref04_Ints_c23
def escheatref04_Ints_c25 : ACode := .seq [0, 1] escheatref04_Ints_c5 escheatref04_Ints_c24
def escheatref04_Ints_c26 : ACode := .seq [0, 1] escheatref04_Ints_c0 escheatref04_Ints_c25
def A_escheatref04_Ints : AFn := ⟨escheatref04_Ints_c26, [.tmp 4]⟩
noncomputable def E_escheatref04_Ints : Sums := disp0
noncomputable def escheatref04_Ints_c0_d (n : Nat) : SmV := smOps E_escheatref04_Ints escheatref04_Ints_o0
noncomputable def escheatref04_Ints_c1_d (n : Nat) : SmV := smOps E_escheatref04_Ints escheatref04_Ints_o1
noncomputable def escheatref04_Ints_c2_d (n : Nat) : SmV := smOps E_escheatref04_Ints escheatref04_Ints_o2
noncomputable def escheatref04_Ints_c3_d (n : Nat) : SmV := smSeq [4] (escheatref04_Ints_c2_d n) smRet
noncomputable def escheatref04_Ints_c4_d (n : Nat) : SmV := smCond (.t 10) (escheatref04_Ints_c3_d n) smSkip
noncomputable def escheatref04_Ints_c5_d (n : Nat) : SmV := smSeq [0, 1, 10] (escheatref04_Ints_c1_d n) (escheatref04_Ints_c4_d n)
noncomputable def escheatref04_Ints_c6_d (n : Nat) : SmV := smOps E_escheatref04_Ints escheatref04_Ints_o3
noncomputable def escheatref04_Ints_c7_d (n : Nat) : SmV := smOps E_escheatref04_Ints escheatref04_Ints_o4
noncomputable def escheatref04_Ints_c8_d (n : Nat) : SmV := smCond (.t 14) smSkip (smExit 0)
noncomputable def escheatref04_Ints_c9_d (n : Nat) : SmV := smSeq [0, 1, 5, 14] (escheatref04_Ints_c7_d n) (escheatref04_Ints_c8_d n)
noncomputable def escheatref04_Ints_c10_d (n : Nat) : SmV := smDraw E_escheatref04_Ints 0 escheatref04_Ints_o5 escheatref04_Ints_o6
noncomputable def escheatref04_Ints_c11_d (n : Nat) : SmV := smOps E_escheatref04_Ints escheatref04_Ints_o7
noncomputable def escheatref04_Ints_c12_d (n : Nat) : SmV := smSeq [4] (escheatref04_Ints_c11_d n) smRet
noncomputable def escheatref04_Ints_c13_d (n : Nat) : SmV := smCond (.t 25) (escheatref04_Ints_c12_d n) smSkip
noncomputable def escheatref04_Ints_c14_d (n : Nat) : SmV := smSeq [0, 1, 5, 25] (escheatref04_Ints_c10_d n) (escheatref04_Ints_c13_d n)
noncomputable def escheatref04_Ints_c15_d (n : Nat) : SmV := smBlock 1 (escheatref04_Ints_c14_d n)
noncomputable def escheatref04_Ints_c16_d (n : Nat) : SmV := smOps E_escheatref04_Ints escheatref04_Ints_o8
noncomputable def escheatref04_Ints_c17_d (n : Nat) : SmV := smSeq [0, 1, 5] (escheatref04_Ints_c15_d n) (escheatref04_Ints_c16_d n)
noncomputable def escheatref04_Ints_c18_d (n : Nat) : SmV := smSeq [0, 1, 5] (escheatref04_Ints_c9_d n) (escheatref04_Ints_c17_d n)
noncomputable def escheatref04_Ints_c19_d (n : Nat) : SmV := smLoop n [0, 1, 5] (escheatref04_Ints_c18_d n)
noncomputable def escheatref04_Ints_c20_d (n : Nat) : SmV := smBlock 0 (escheatref04_Ints_c19_d n)
noncomputable def escheatref04_Ints_c21_d (n : Nat) : SmV := smSeq [0, 1, 5] (escheatref04_Ints_c6_d n) (escheatref04_Ints_c20_d n)
noncomputable def escheatref04_Ints_c22_d (n : Nat) : SmV := smOps E_escheatref04_Ints escheatref04_Ints_o9
noncomputable def escheatref04_Ints_c23_d (n : Nat) : SmV := smSeq [4] (escheatref04_Ints_c22_d n) smRet
noncomputable def escheatref04_Ints_c24_d (n : Nat) : SmV := smSeq [] (escheatref04_Ints_c21_d n) (escheatref04_Ints_c23_d n)
noncomputable def escheatref04_Ints_c25_d (n : Nat) : SmV := smSeq [0, 1] (escheatref04_Ints_c5_d n) (escheatref04_Ints_c24_d n)
noncomputable def escheatref04_Ints_c26_d (n : Nat) : SmV := smSeq [0, 1] (escheatref04_Ints_c0_d n) (escheatref04_Ints_c25_d n)
noncomputable def escheatref04_Ints_k0 (n : Nat) : AExit → Env → Heap → OptV := fun x e h => match x with | .normal => hold ((escheatref04_Ints_c23_d n) A_escheatref04_Ints.fin (e.keep []) h) | .exit id => A_escheatref04_Ints.fin (.exit id) e h | .ret => A_escheatref04_Ints.fin .ret e h
noncomputable def escheatref04_Ints_k1 (n : Nat) : AExit → Env → Heap → OptV := fun x e h => match x with | .exit i => bif Nat.beq i 0 then (escheatref04_Ints_k0 n) .normal e h else (escheatref04_Ints_k0 n) (.exit i) e h | .normal => (escheatref04_Ints_k0 n) .normal e h | .ret => (escheatref04_Ints_k0 n) .ret e h
noncomputable def escheatref04_Ints_l0 (n m : Nat) (x0 x1 x5 : Val) (h : Heap) : OptV := around (escheatref04_Ints_c18_d n) [0, 1, 5] (escheatref04_Ints_k1 n) m [(0, x0), (1, x1), (5, x5)] h
noncomputable def R_escheatref04_Ints (n : Nat) (args : List Val) (h : Heap) : OptV := (escheatref04_Ints_c26_d n) A_escheatref04_Ints.fin (params 0 args) h
theorem R_escheatref04_Ints_eq (n : Nat) (a0 a1 : Val) (h : Heap) : R_escheatref04_Ints n [a0, a1] h = bnd (alen a0) fun v1 => bnd (alen a1) fun v2 => bnd (abin .neq v1 v2) fun v3 => cnd v3 (some ((.c (.b false)), h)) (escheatref04_Ints_l0 n n a0 a1 (.c (.i .i64 0)) h) := by kernel_rfl
theorem escheatref04_Ints_l0_eq (n m : Nat) (x0 x1 x5 : Val) (h : Heap) : escheatref04_Ints_l0 n (m + 1) x0 x1 x5 h = bnd (alen x0) fun v4 => bnd (abin .lss x5 v4) fun v5 => cnd v5 (bnd (aiAddrL 1 x0 x5) fun v6 => bnd (aload1 h v6) fun v7 => bnd (aiAddrL 1 x1 x5) fun v8 => bnd (aload1 h v8) fun v9 => bnd (abin .neq v7 v9) fun v10 => cnd v10 (some ((.c (.b false)), (h ++ []))) (bnd (abin .add x5 (.c (.i .i64 1))) fun v11 => escheatref04_Ints_l0 n m x0 x1 v11 ((h ++ [])))) (some ((.c (.b true)), h)) := by kernel_rfl
theorem K_escheatref04_Ints : FnK Try.prog 102 A_escheatref04_Ints E_escheatref04_Ints R_escheatref04_Ints := .mk' (sound0) Try.func102 (by kernel_rfl) (by intro n args h; kernel_rfl)
noncomputable def S_escheatref04_Ints : Fun := tidy (Lim A_escheatref04_Ints E_escheatref04_Ints)
theorem S_escheatref04_Ints_ok : SOk Try.prog 102 S_escheatref04_Ints := K_escheatref04_Ints.sok
theorem S_escheatref04_Ints_flat {n : Nat} {args : List Val} {h h2 : Heap} {v : Val} (he : R_escheatref04_Ints n args (ro h) = some (v, h2)) (hf : v.flat = true) : S_escheatref04_Ints args h = some (v, h) := K_escheatref04_Ints.flat he hf
end Go.Proofs.Ytbbkpmbepljhkaa
