/- Escheatref09: the Go functions of this package as the abstract evaluator computes them: printed by a program, checked by Lean. -/
import Derived.Test.YtbbkpmbepljhkaaEscS
import Derived.Test.YtbbkpmbepljhkaaChecked
import Derived.KernelRfl
namespace Go.Proofs.Ytbbkpmbepljhkaa
open Go Go.Esc
set_option maxRecDepth 100000
set_option linter.all false
def escheatref09_In_o0 : List AOper := [{ dst := some 4, op := .mv (.v (.c (.b false))) }]
def escheatref09_In_c0 : ACode := .ops escheatref09_In_o0
def escheatref09_In_o1 : List AOper := [{ dst := some 5, op := .mv (.v (.c (.i .i64 0))) }]
def escheatref09_In_c1 : ACode := .ops escheatref09_In_o1
def escheatref09_In_o2 : List AOper := [{ dst := some 6, op := .mv (.t 5) }, { dst := some 7, op := .mv (.t 0) }, { dst := some 8, op := .len (.t 7) }, { dst := some 9, op := .bin .lss (.t 6) (.t 8) }]
def escheatref09_In_c2 : ACode := .ops escheatref09_In_o2
def escheatref09_In_c3 : ACode := .cond (.t 9) .skip (.exit 0)
def escheatref09_In_c4 : ACode := .seq [0, 1, 5, 9] escheatref09_In_c2 escheatref09_In_c3
def escheatref09_In_o3 : List AOper := [{ dst := some 12, op := .mv (.t 0) }, { dst := some 13, op := .mv (.t 5) }, { dst := some 14, op := .iAddrL 1 (.t 12) (.t 13) }, { dst := some 15, op := .load1 (.t 14) }, { dst := some 16, op := .mv (.t 1) }, { dst := some 17, op := .bin .eql (.t 15) (.t 16) }]
def escheatref09_In_c5 : ACode := .ops escheatref09_In_o3
def escheatref09_In_o4 : List AOper := [{ dst := some 4, op := .mv (.v (.c (.b true))) }]
def escheatref09_In_c6 : ACode := .ops escheatref09_In_o4
def escheatref09_In_c7 : ACode := .seq [4] escheatref09_In_c6 .ret
def escheatref09_In_c8 : ACode := .cond (.t 17) escheatref09_In_c7 .skip
def escheatref09_In_c9 : ACode := .seq [0, 1, 5, 17] escheatref09_In_c5 escheatref09_In_c8
def escheatref09_In_c10 : ACode := .block 1 escheatref09_In_c9
def escheatref09_In_o5 : List AOper := [{ dst := some 10, op := .mv (.t 5) }, { dst := some 11, op := .bin .add (.t 10) (.v (.c (.i .i64 1))) }, { dst := some 5, op := .mv (.t 11) }]
def escheatref09_In_c11 : ACode := .ops escheatref09_In_o5
def escheatref09_In_c12 : ACode := .seq [0, 1, 5] escheatref09_In_c10 escheatref09_In_c11
def escheatref09_In_c13 : ACode := .seq [0, 1, 5] escheatref09_In_c4 escheatref09_In_c12
def escheatref09_In_c14 : ACode := .loop [0, 1, 5] escheatref09_In_c13
def escheatref09_In_c15 : ACode := .block 0 escheatref09_In_c14
def escheatref09_In_c16 : ACode := .seq [0, 1, 5] escheatref09_In_c1 escheatref09_In_c15
def escheatref09_In_o6 : List AOper := [{ dst := some 4, op := .mv (.v (.c (.b false))) }]
def escheatref09_In_c17 : ACode := .ops escheatref09_In_o6
def escheatref09_In_c18 : ACode := .seq [4] escheatref09_In_c17 .ret
def escheatref09_In_c19 : ACode := .seq [] escheatref09_In_c16 escheatref09_In_c18
def escheatref09_In_c20 : ACode := .seq [0, 1] escheatref09_In_c0 escheatref09_In_c19
def A_escheatref09_In : AFn := ⟨escheatref09_In_c20, [.tmp 4]⟩
noncomputable def E_escheatref09_In : Sums := disp0
noncomputable def escheatref09_In_c0_d (n : Nat) : SmV := smOps E_escheatref09_In escheatref09_In_o0
noncomputable def escheatref09_In_c1_d (n : Nat) : SmV := smOps E_escheatref09_In escheatref09_In_o1
noncomputable def escheatref09_In_c2_d (n : Nat) : SmV := smOps E_escheatref09_In escheatref09_In_o2
noncomputable def escheatref09_In_c3_d (n : Nat) : SmV := smCond (.t 9) smSkip (smExit 0)
noncomputable def escheatref09_In_c4_d (n : Nat) : SmV := smSeq [0, 1, 5, 9] (escheatref09_In_c2_d n) (escheatref09_In_c3_d n)
noncomputable def escheatref09_In_c5_d (n : Nat) : SmV := smOps E_escheatref09_In escheatref09_In_o3
noncomputable def escheatref09_In_c6_d (n : Nat) : SmV := smOps E_escheatref09_In escheatref09_In_o4
noncomputable def escheatref09_In_c7_d (n : Nat) : SmV := smSeq [4] (escheatref09_In_c6_d n) smRet
noncomputable def escheatref09_In_c8_d (n : Nat) : SmV := smCond (.t 17) (escheatref09_In_c7_d n) smSkip
noncomputable def escheatref09_In_c9_d (n : Nat) : SmV := smSeq [0, 1, 5, 17] (escheatref09_In_c5_d n) (escheatref09_In_c8_d n)
noncomputable def escheatref09_In_c10_d (n : Nat) : SmV := smBlock 1 (escheatref09_In_c9_d n)
noncomputable def escheatref09_In_c11_d (n : Nat) : SmV := smOps E_escheatref09_In escheatref09_In_o5
noncomputable def escheatref09_In_c12_d (n : Nat) : SmV := smSeq [0, 1, 5] (escheatref09_In_c10_d n) (escheatref09_In_c11_d n)
noncomputable def escheatref09_In_c13_d (n : Nat) : SmV := smSeq [0, 1, 5] (escheatref09_In_c4_d n) (escheatref09_In_c12_d n)
noncomputable def escheatref09_In_c14_d (n : Nat) : SmV := smLoop n [0, 1, 5] (escheatref09_In_c13_d n)
noncomputable def escheatref09_In_c15_d (n : Nat) : SmV := smBlock 0 (escheatref09_In_c14_d n)
noncomputable def escheatref09_In_c16_d (n : Nat) : SmV := smSeq [0, 1, 5] (escheatref09_In_c1_d n) (escheatref09_In_c15_d n)
noncomputable def escheatref09_In_c17_d (n : Nat) : SmV := smOps E_escheatref09_In escheatref09_In_o6
noncomputable def escheatref09_In_c18_d (n : Nat) : SmV := smSeq [4] (escheatref09_In_c17_d n) smRet
noncomputable def escheatref09_In_c19_d (n : Nat) : SmV := smSeq [] (escheatref09_In_c16_d n) (escheatref09_In_c18_d n)
noncomputable def escheatref09_In_c20_d (n : Nat) : SmV := smSeq [0, 1] (escheatref09_In_c0_d n) (escheatref09_In_c19_d n)
noncomputable def escheatref09_In_k0 (n : Nat) : AExit → Env → Heap → OptV := fun x e h => match x with | .normal => hold ((escheatref09_In_c18_d n) A_escheatref09_In.fin (e.keep []) h) | .exit id => A_escheatref09_In.fin (.exit id) e h | .ret => A_escheatref09_In.fin .ret e h
noncomputable def escheatref09_In_k1 (n : Nat) : AExit → Env → Heap → OptV := fun x e h => match x with | .exit i => bif Nat.beq i 0 then (escheatref09_In_k0 n) .normal e h else (escheatref09_In_k0 n) (.exit i) e h | .normal => (escheatref09_In_k0 n) .normal e h | .ret => (escheatref09_In_k0 n) .ret e h
noncomputable def escheatref09_In_l0 (n m : Nat) (x0 x1 x5 : Val) (h : Heap) : OptV := around (escheatref09_In_c13_d n) [0, 1, 5] (escheatref09_In_k1 n) m [(0, x0), (1, x1), (5, x5)] h
noncomputable def R_escheatref09_In (n : Nat) (args : List Val) (h : Heap) : OptV := (escheatref09_In_c20_d n) A_escheatref09_In.fin (params 0 args) h
theorem R_escheatref09_In_eq (n : Nat) (a0 a1 : Val) (h : Heap) : R_escheatref09_In n [a0, a1] h = escheatref09_In_l0 n n a0 a1 (.c (.i .i64 0)) h := by kernel_rfl
theorem escheatref09_In_l0_eq (n m : Nat) (x0 x1 x5 : Val) (h : Heap) : escheatref09_In_l0 n (m + 1) x0 x1 x5 h = bnd (alen x0) fun v1 => bnd (abin .lss x5 v1) fun v2 => cnd v2 (bnd (aiAddrL 1 x0 x5) fun v3 => bnd (aload1 h v3) fun v4 => bnd (abin .eql v4 x1) fun v5 => cnd v5 (some ((.c (.b true)), h)) (bnd (abin .add x5 (.c (.i .i64 1))) fun v6 => escheatref09_In_l0 n m x0 x1 v6 h)) (some ((.c (.b false)), h)) := by kernel_rfl
theorem K_escheatref09_In : FnK Try.prog 133 A_escheatref09_In E_escheatref09_In R_escheatref09_In := .mk' (sound0) Try.func133 (by kernel_rfl) (by intro n args h; kernel_rfl)
noncomputable def S_escheatref09_In : Fun := tidy (Lim A_escheatref09_In E_escheatref09_In)
theorem S_escheatref09_In_ok : SOk Try.prog 133 S_escheatref09_In := K_escheatref09_In.sok
theorem S_escheatref09_In_flat {n : Nat} {args : List Val} {h h2 : Heap} {v : Val} (he : R_escheatref09_In n args (ro h) = some (v, h2)) (hf : v.flat = true) : S_escheatref09_In args h = some (v, h) := K_escheatref09_In.flat he hf
end Go.Proofs.Ytbbkpmbepljhkaa
