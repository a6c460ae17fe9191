/- Escheatref19: the Go functions of this package as the abstract evaluator computes them: printed by a program, checked by Lean. -/
import Derived.Test.YtbbkpmbepljhkaaEscS
import Derived.Test.YtbbkpmbepljhkaaChecked
import Derived.KernelRfl
import Derived.Test.YtbbkpmbepljhkaaGEscheatref01
import Derived.Test.YtbbkpmbepljhkaaGEscheatref09
namespace Go.Proofs.Ytbbkpmbepljhkaa
open Go Go.Esc
set_option maxRecDepth 100000
set_option linter.all false
def escheatref19_Deep_o0 : List AOper := [{ dst := some 1, op := .box (.t 0) }, { dst := some 2, op := .mv (.v (.c (.i .i64 0))) }]
def escheatref19_Deep_c0 : ACode := .ops escheatref19_Deep_o0
def escheatref19_Deep_o1 : List AOper := [{ dst := some 3, op := .fAddr (.t 1) 0 }, { dst := some 4, op := .load1 (.t 3) }, { dst := some 5, op := .bin .lss (.t 4) (.v (.c (.i .i64 0))) }]
def escheatref19_Deep_c1 : ACode := .ops escheatref19_Deep_o1
def escheatref19_Deep_o2 : List AOper := [{ dst := some 2, op := .mv (.v (.c (.i .i64 0))) }]
def escheatref19_Deep_c2 : ACode := .ops escheatref19_Deep_o2
def escheatref19_Deep_c3 : ACode := .seq [2] escheatref19_Deep_c2 .ret
def escheatref19_Deep_c4 : ACode := .cond (.t 5) escheatref19_Deep_c3 .skip
def escheatref19_Deep_c5 : ACode := .seq [1, 5] escheatref19_Deep_c1 escheatref19_Deep_c4
def escheatref19_Deep_o3 : List AOper := [{ dst := some 6, op := .fAddr (.t 1) 0 }, { dst := some 7, op := .load1 (.t 6) }, { dst := some 8, op := .bin .gtr (.t 7) (.v (.c (.i .i64 5))) }]
def escheatref19_Deep_c6 : ACode := .ops escheatref19_Deep_o3
def escheatref19_Deep_o4 : List AOper := [{ dst := some 2, op := .mv (.v (.c (.i .i64 5))) }]
def escheatref19_Deep_c7 : ACode := .ops escheatref19_Deep_o4
def escheatref19_Deep_c8 : ACode := .seq [2] escheatref19_Deep_c7 .ret
def escheatref19_Deep_c9 : ACode := .cond (.t 8) escheatref19_Deep_c8 .skip
def escheatref19_Deep_c10 : ACode := .seq [1, 8] escheatref19_Deep_c6 escheatref19_Deep_c9
def escheatref19_Deep_o5 : List AOper := [{ dst := some 9, op := .fAddr (.t 1) 0 }, { dst := some 10, op := .load1 (.t 9) }, { dst := some 2, op := .mv (.t 10) }]
def escheatref19_Deep_c11 : ACode := .ops escheatref19_Deep_o5
def escheatref19_Deep_c12 : ACode := .seq [2] escheatref19_Deep_c11 .ret
def escheatref19_Deep_c13 : ACode := .seq [1] escheatref19_Deep_c10 escheatref19_Deep_c12
def escheatref19_Deep_c14 : ACode := .seq [1] escheatref19_Deep_c5 escheatref19_Deep_c13
def escheatref19_Deep_c15 : ACode := .seq [1] escheatref19_Deep_c0 escheatref19_Deep_c14
def A_escheatref19_Deep : AFn := ⟨escheatref19_Deep_c15, [.tmp 2]⟩
noncomputable def E_escheatref19_Deep : Sums := disp0
noncomputable def escheatref19_Deep_c0_d (n : Nat) : SmV := smOps E_escheatref19_Deep escheatref19_Deep_o0
noncomputable def escheatref19_Deep_c1_d (n : Nat) : SmV := smOps E_escheatref19_Deep escheatref19_Deep_o1
noncomputable def escheatref19_Deep_c2_d (n : Nat) : SmV := smOps E_escheatref19_Deep escheatref19_Deep_o2
noncomputable def escheatref19_Deep_c3_d (n : Nat) : SmV := smSeq [2] (escheatref19_Deep_c2_d n) smRet
noncomputable def escheatref19_Deep_c4_d (n : Nat) : SmV := smCond (.t 5) (escheatref19_Deep_c3_d n) smSkip
noncomputable def escheatref19_Deep_c5_d (n : Nat) : SmV := smSeq [1, 5] (escheatref19_Deep_c1_d n) (escheatref19_Deep_c4_d n)
noncomputable def escheatref19_Deep_c6_d (n : Nat) : SmV := smOps E_escheatref19_Deep escheatref19_Deep_o3
noncomputable def escheatref19_Deep_c7_d (n : Nat) : SmV := smOps E_escheatref19_Deep escheatref19_Deep_o4
noncomputable def escheatref19_Deep_c8_d (n : Nat) : SmV := smSeq [2] (escheatref19_Deep_c7_d n) smRet
noncomputable def escheatref19_Deep_c9_d (n : Nat) : SmV := smCond (.t 8) (escheatref19_Deep_c8_d n) smSkip
noncomputable def escheatref19_Deep_c10_d (n : Nat) : SmV := smSeq [1, 8] (escheatref19_Deep_c6_d n) (escheatref19_Deep_c9_d n)
noncomputable def escheatref19_Deep_c11_d (n : Nat) : SmV := smOps E_escheatref19_Deep escheatref19_Deep_o5
noncomputable def escheatref19_Deep_c12_d (n : Nat) : SmV := smSeq [2] (escheatref19_Deep_c11_d n) smRet
noncomputable def escheatref19_Deep_c13_d (n : Nat) : SmV := smSeq [1] (escheatref19_Deep_c10_d n) (escheatref19_Deep_c12_d n)
noncomputable def escheatref19_Deep_c14_d (n : Nat) : SmV := smSeq [1] (escheatref19_Deep_c5_d n) (escheatref19_Deep_c13_d n)
noncomputable def escheatref19_Deep_c15_d (n : Nat) : SmV := smSeq [1] (escheatref19_Deep_c0_d n) (escheatref19_Deep_c14_d n)
noncomputable def R_escheatref19_Deep (n : Nat) (args : List Val) (h : Heap) : OptV := (escheatref19_Deep_c15_d n) A_escheatref19_Deep.fin (params 0 args) h
theorem R_escheatref19_Deep_eq (n : Nat) (a0 : Val) (h : Heap) : R_escheatref19_Deep n [a0] h = bnd (cells? a0) fun c1 => bnd (afAddr ((.c (.p h.length 0))) 0) fun v2 => bnd (aload1 ((h ++ [some (Row.mk (c1) true)])) v2) fun v3 => bnd (abin .lss v3 (.c (.i .i64 0))) fun v4 => cnd v4 (some ((.c (.i .i64 0)), (h ++ [some (Row.mk (c1) true)]))) (bnd (afAddr ((.c (.p h.length 0))) 0) fun v5 => bnd (aload1 ((h ++ [some (Row.mk (c1) true)])) v5) fun v6 => bnd (abin .gtr v6 (.c (.i .i64 5))) fun v7 => cnd v7 (some ((.c (.i .i64 5)), (h ++ [some (Row.mk (c1) true)]))) (bnd (afAddr ((.c (.p h.length 0))) 0) fun v8 => bnd (aload1 ((h ++ [some (Row.mk (c1) true)])) v8) fun v9 => some (v9, (h ++ [some (Row.mk (c1) true)])))) := by kernel_rfl
theorem K_escheatref19_Deep : FnK Try.prog 126 A_escheatref19_Deep E_escheatref19_Deep R_escheatref19_Deep := .mk' (sound0) Try.func126 (by kernel_rfl) (by intro n args h; kernel_rfl)
noncomputable def S_escheatref19_Deep : Fun := tidy (Lim A_escheatref19_Deep E_escheatref19_Deep)
theorem S_escheatref19_Deep_ok : SOk Try.prog 126 S_escheatref19_Deep := K_escheatref19_Deep.sok
theorem S_escheatref19_Deep_flat {n : Nat} {args : List Val} {h h2 : Heap} {v : Val} (he : R_escheatref19_Deep n args (ro h) = some (v, h2)) (hf : v.flat = true) : S_escheatref19_Deep args h = some (v, h) := K_escheatref19_Deep.flat he hf
def escheatref19_Pow_o0 : List AOper := [{ dst := some 2, op := .mv (.v (.c (.i .i64 0))) }]
def escheatref19_Pow_c0 : ACode := .ops escheatref19_Pow_o0
def escheatref19_Pow_o1 : List AOper := [{ dst := some 3, op := .mv (.v (.c (.i .i64 1))) }]
def escheatref19_Pow_c1 : ACode := .ops escheatref19_Pow_o1
def escheatref19_Pow_o2 : List AOper := [{ dst := some 4, op := .mv (.v (.c (.i .i64 0))) }]
def escheatref19_Pow_c2 : ACode := .ops escheatref19_Pow_o2
def escheatref19_Pow_o3 : List AOper := [{ dst := some 5, op := .mv (.t 4) }, { dst := some 6, op := .mv (.t 0) }, { dst := some 7, op := .bin .lss (.t 5) (.t 6) }]
def escheatref19_Pow_c3 : ACode := .ops escheatref19_Pow_o3
def escheatref19_Pow_c4 : ACode := .cond (.t 7) .skip (.exit 0)
def escheatref19_Pow_c5 : ACode := .seq [0, 3, 4, 7] escheatref19_Pow_c3 escheatref19_Pow_c4
def escheatref19_Pow_o4 : List AOper := [{ dst := some 10, op := .mv (.t 3) }, { dst := some 11, op := .bin .mul (.t 10) (.v (.c (.i .i64 2))) }, { dst := some 3, op := .mv (.t 11) }]
def escheatref19_Pow_c6 : ACode := .ops escheatref19_Pow_o4
def escheatref19_Pow_c7 : ACode := .block 1 escheatref19_Pow_c6
def escheatref19_Pow_o5 : List AOper := [{ dst := some 8, op := .mv (.t 4) }, { dst := some 9, op := .bin .add (.t 8) (.v (.c (.i .i64 1))) }, { dst := some 4, op := .mv (.t 9) }]
def escheatref19_Pow_c8 : ACode := .ops escheatref19_Pow_o5
def escheatref19_Pow_c9 : ACode := .seq [0, 3, 4] escheatref19_Pow_c7 escheatref19_Pow_c8
def escheatref19_Pow_c10 : ACode := .seq [0, 3, 4] escheatref19_Pow_c5 escheatref19_Pow_c9
def escheatref19_Pow_c11 : ACode := .loop [0, 3, 4] escheatref19_Pow_c10
def escheatref19_Pow_c12 : ACode := .block 0 escheatref19_Pow_c11
def escheatref19_Pow_c13 : ACode := .seq [0, 3, 4] escheatref19_Pow_c2 escheatref19_Pow_c12
def escheatref19_Pow_o6 : List AOper := [{ dst := some 12, op := .mv (.t 3) }, { dst := some 2, op := .mv (.t 12) }]
def escheatref19_Pow_c14 : ACode := .ops escheatref19_Pow_o6
def escheatref19_Pow_c15 : ACode := .seq [2] escheatref19_Pow_c14 .ret
def escheatref19_Pow_c16 : ACode := .seq [3] escheatref19_Pow_c13 escheatref19_Pow_c15
def escheatref19_Pow_c17 : ACode := .seq [0, 3] escheatref19_Pow_c1 escheatref19_Pow_c16
def escheatref19_Pow_c18 : ACode := .seq [0] escheatref19_Pow_c0 escheatref19_Pow_c17
def A_escheatref19_Pow : AFn := ⟨escheatref19_Pow_c18, [.tmp 2]⟩
noncomputable def E_escheatref19_Pow : Sums := disp0
noncomputable def escheatref19_Pow_c0_d (n : Nat) : SmV := smOps E_escheatref19_Pow escheatref19_Pow_o0
noncomputable def escheatref19_Pow_c1_d (n : Nat) : SmV := smOps E_escheatref19_Pow escheatref19_Pow_o1
noncomputable def escheatref19_Pow_c2_d (n : Nat) : SmV := smOps E_escheatref19_Pow escheatref19_Pow_o2
noncomputable def escheatref19_Pow_c3_d (n : Nat) : SmV := smOps E_escheatref19_Pow escheatref19_Pow_o3
noncomputable def escheatref19_Pow_c4_d (n : Nat) : SmV := smCond (.t 7) smSkip (smExit 0)
noncomputable def escheatref19_Pow_c5_d (n : Nat) : SmV := smSeq [0, 3, 4, 7] (escheatref19_Pow_c3_d n) (escheatref19_Pow_c4_d n)
noncomputable def escheatref19_Pow_c6_d (n : Nat) : SmV := smOps E_escheatref19_Pow escheatref19_Pow_o4
noncomputable def escheatref19_Pow_c7_d (n : Nat) : SmV := smBlock 1 (escheatref19_Pow_c6_d n)
noncomputable def escheatref19_Pow_c8_d (n : Nat) : SmV := smOps E_escheatref19_Pow escheatref19_Pow_o5
noncomputable def escheatref19_Pow_c9_d (n : Nat) : SmV := smSeq [0, 3, 4] (escheatref19_Pow_c7_d n) (escheatref19_Pow_c8_d n)
noncomputable def escheatref19_Pow_c10_d (n : Nat) : SmV := smSeq [0, 3, 4] (escheatref19_Pow_c5_d n) (escheatref19_Pow_c9_d n)
noncomputable def escheatref19_Pow_c11_d (n : Nat) : SmV := smLoop n [0, 3, 4] (escheatref19_Pow_c10_d n)
noncomputable def escheatref19_Pow_c12_d (n : Nat) : SmV := smBlock 0 (escheatref19_Pow_c11_d n)
noncomputable def escheatref19_Pow_c13_d (n : Nat) : SmV := smSeq [0, 3, 4] (escheatref19_Pow_c2_d n) (escheatref19_Pow_c12_d n)
noncomputable def escheatref19_Pow_c14_d (n : Nat) : SmV := smOps E_escheatref19_Pow escheatref19_Pow_o6
noncomputable def escheatref19_Pow_c15_d (n : Nat) : SmV := smSeq [2] (escheatref19_Pow_c14_d n) smRet
noncomputable def escheatref19_Pow_c16_d (n : Nat) : SmV := smSeq [3] (escheatref19_Pow_c13_d n) (escheatref19_Pow_c15_d n)
noncomputable def escheatref19_Pow_c17_d (n : Nat) : SmV := smSeq [0, 3] (escheatref19_Pow_c1_d n) (escheatref19_Pow_c16_d n)
noncomputable def escheatref19_Pow_c18_d (n : Nat) : SmV := smSeq [0] (escheatref19_Pow_c0_d n) (escheatref19_Pow_c17_d n)
noncomputable def escheatref19_Pow_k0 (n : Nat) : AExit → Env → Heap → OptV := fun x e h => match x with | .normal => hold ((escheatref19_Pow_c15_d n) A_escheatref19_Pow.fin (e.keep [3]) h) | .exit id => A_escheatref19_Pow.fin (.exit id) e h | .ret => A_escheatref19_Pow.fin .ret e h
noncomputable def escheatref19_Pow_k1 (n : Nat) : AExit → Env → Heap → OptV := fun x e h => match x with | .exit i => bif Nat.beq i 0 then (escheatref19_Pow_k0 n) .normal e h else (escheatref19_Pow_k0 n) (.exit i) e h | .normal => (escheatref19_Pow_k0 n) .normal e h | .ret => (escheatref19_Pow_k0 n) .ret e h
noncomputable def escheatref19_Pow_l0 (n m : Nat) (x0 x3 x4 : Val) (h : Heap) : OptV := around (escheatref19_Pow_c10_d n) [0, 3, 4] (escheatref19_Pow_k1 n) m [(0, x0), (3, x3), (4, x4)] h
noncomputable def R_escheatref19_Pow (n : Nat) (args : List Val) (h : Heap) : OptV := (escheatref19_Pow_c18_d n) A_escheatref19_Pow.fin (params 0 args) h
theorem R_escheatref19_Pow_eq (n : Nat) (a0 : Val) (h : Heap) : R_escheatref19_Pow n [a0] h = escheatref19_Pow_l0 n n a0 (.c (.i .i64 1)) (.c (.i .i64 0)) h := by kernel_rfl
theorem escheatref19_Pow_l0_eq (n m : Nat) (x0 x3 x4 : Val) (h : Heap) : escheatref19_Pow_l0 n (m + 1) x0 x3 x4 h = bnd (abin .lss x4 x0) fun v1 => cnd v1 (bnd (abin .mul x3 (.c (.i .i64 2))) fun v2 => bnd (abin .add x4 (.c (.i .i64 1))) fun v3 => escheatref19_Pow_l0 n m x0 v2 v3 h) (some (x3, h)) := by kernel_rfl
theorem K_escheatref19_Pow : FnK Try.prog 189 A_escheatref19_Pow E_escheatref19_Pow R_escheatref19_Pow := .mk' (sound0) Try.func189 (by kernel_rfl) (by intro n args h; kernel_rfl)
noncomputable def S_escheatref19_Pow : Fun := tidy (Lim A_escheatref19_Pow E_escheatref19_Pow)
theorem S_escheatref19_Pow_ok : SOk Try.prog 189 S_escheatref19_Pow := K_escheatref19_Pow.sok
theorem S_escheatref19_Pow_flat {n : Nat} {args : List Val} {h h2 : Heap} {v : Val} (he : R_escheatref19_Pow n args (ro h) = some (v, h2)) (hf : v.flat = true) : S_escheatref19_Pow args h = some (v, h) := K_escheatref19_Pow.flat he hf
def escheatref19_Is_o0 : List AOper := [{ dst := some 6, op := .mv (.v (.c (.b false))) }]
def escheatref19_Is_c0 : ACode := .ops escheatref19_Is_o0
def escheatref19_Is_o1 : List AOper := [{ dst := some 7, op := .mv (.t 0) }, { dst := some 8, op := .mv (.t 2) }, { dst := some 9, op := .call 189 [(.t 8)] }, { dst := some 10, op := .bin .rem (.t 7) (.t 9) }, { dst := some 11, op := .mv (.t 1) }, { dst := some 12, op := .mv (.t 2) }, { dst := some 13, op := .call 189 [(.t 12)] }, { dst := some 14, op := .bin .rem (.t 11) (.t 13) }]
def escheatref19_Is_o2 : List AOper := [{ dst := some 15, op := .bin .eql (.t 10) (.t 14) }, { dst := some 6, op := .mv (.t 15) }]
def escheatref19_Is_c1 : ACode := .draw 0 escheatref19_Is_o1 escheatref19_Is_o2
def escheatref19_Is_c2 : ACode := .seq [6] escheatref19_Is_c1 .ret
def escheatref19_Is_c3 : ACode := .seq [0, 1, 2] escheatref19_Is_c0 escheatref19_Is_c2
def A_escheatref19_Is : AFn := ⟨escheatref19_Is_c3, [.tmp 6]⟩
noncomputable def E_escheatref19_Is : Sums := disp 189 S_escheatref19_Pow disp0
noncomputable def escheatref19_Is_c0_d (n : Nat) : SmV := smOps E_escheatref19_Is escheatref19_Is_o0
noncomputable def escheatref19_Is_c1_d (n : Nat) : SmV := smDraw E_escheatref19_Is 0 escheatref19_Is_o1 escheatref19_Is_o2
noncomputable def escheatref19_Is_c2_d (n : Nat) : SmV := smSeq [6] (escheatref19_Is_c1_d n) smRet
noncomputable def escheatref19_Is_c3_d (n : Nat) : SmV := smSeq [0, 1, 2] (escheatref19_Is_c0_d n) (escheatref19_Is_c2_d n)
noncomputable def R_escheatref19_Is (n : Nat) (args : List Val) (h : Heap) : OptV := (escheatref19_Is_c3_d n) A_escheatref19_Is.fin (params 0 args) h
theorem R_escheatref19_Is_eq (n : Nat) (a0 a1 a2 : Val) (h : Heap) : R_escheatref19_Is n [a0, a1, a2] h = bnd (quiet ((h ++ [])) (S_escheatref19_Pow [a2] ((h ++ [])))) fun p1 => bnd (abin .rem a0 p1.1) fun v2 => bnd (quiet p1.2 (S_escheatref19_Pow [a2] p1.2)) fun p3 => bnd (abin .rem a1 p3.1) fun v4 => bnd (abin .eql v2 v4) fun v5 => some (v5, p3.2) := by kernel_rfl
theorem K_escheatref19_Is : FnK Try.prog 190 A_escheatref19_Is E_escheatref19_Is R_escheatref19_Is := .mk' (sound1 S_escheatref19_Pow_ok sound0) Try.func190 (by kernel_rfl) (by intro n args h; kernel_rfl)
noncomputable def S_escheatref19_Is : Fun := tidy (Lim A_escheatref19_Is E_escheatref19_Is)
theorem S_escheatref19_Is_ok : SOk Try.prog 190 S_escheatref19_Is := K_escheatref19_Is.sok
theorem S_escheatref19_Is_flat {n : Nat} {args : List Val} {h h2 : Heap} {v : Val} (he : R_escheatref19_Is n args (ro h) = some (v, h2)) (hf : v.flat = true) : S_escheatref19_Is args h = some (v, h) := K_escheatref19_Is.flat he hf
def escheatref19_Bits_o0 : List AOper := [{ dst := some 2, op := .box (.t 0) }, { dst := some 4, op := .mv (.v (.c (.i .i64 0))) }]
def escheatref19_Bits_c0 : ACode := .ops escheatref19_Bits_o0
def escheatref19_Bits_o1 : List AOper := [{ dst := some 9, op := .loadN 33 (.t 2) }, { dst := some 10, op := .call 126 [(.t 9)] }, { dst := some 11, op := .call 189 [(.t 10)] }, { dst := some 5, op := .mv (.t 11) }]
def escheatref19_Bits_c1 : ACode := .ops escheatref19_Bits_o1
def escheatref19_Bits_o2 : List AOper := [{ dst := some 12, op := .mv (.t 1) }, { dst := some 13, op := .bin .lss (.t 12) (.v (.c (.i .i64 0))) }, { dst := some 14, op := .mv (.t 13) }, { dst := some 15, op := .mv (.t 1), guard := some (14, false) }, { dst := some 16, op := .mv (.t 5), guard := some (14, false) }, { dst := some 17, op := .bin .geq (.t 15) (.t 16), guard := some (14, false) }, { dst := some 18, op := .pick (.t 14) (.v (.c (.b true))) (.t 17) }]
def escheatref19_Bits_c2 : ACode := .ops escheatref19_Bits_o2
def escheatref19_Bits_o3 : List AOper := [{ dst := some 4, op := .mv (.v (.c (.i .i64 0))) }]
def escheatref19_Bits_c3 : ACode := .ops escheatref19_Bits_o3
def escheatref19_Bits_c4 : ACode := .seq [4] escheatref19_Bits_c3 .ret
def escheatref19_Bits_c5 : ACode := .cond (.t 18) escheatref19_Bits_c4 .skip
def escheatref19_Bits_c6 : ACode := .seq [1, 2, 5, 18] escheatref19_Bits_c2 escheatref19_Bits_c5
def escheatref19_Bits_o4 : List AOper := [{ dst := some 6, op := .mv (.v (.c (.i .i64 0))) }]
def escheatref19_Bits_c7 : ACode := .ops escheatref19_Bits_o4
def escheatref19_Bits_o5 : List AOper := [{ dst := some 19, op := .mv (.t 6) }, { dst := some 20, op := .loadN 33 (.t 2) }, { dst := some 21, op := .call 126 [(.t 20)] }, { dst := some 22, op := .bin .lss (.t 19) (.t 21) }, { dst := some 23, op := .mv (.t 22) }, { dst := some 24, op := .mv (.t 1), guard := some (23, true) }, { dst := some 25, op := .fAddr (.t 2) 1, guard := some (23, true) }, { dst := some 26, op := .iAddrA 32 1 (.t 25) (.t 24), guard := some (23, true) }, { dst := some 27, op := .load1 (.t 26), guard := some (23, true) }, { dst := some 28, op := .bin .neq (.t 27) (.v (.c (.i .i64 0))), guard := some (23, true) }, { dst := some 29, op := .pick (.t 23) (.t 28) (.v (.c (.b false))) }]
def escheatref19_Bits_c8 : ACode := .ops escheatref19_Bits_o5
def escheatref19_Bits_c9 : ACode := .cond (.t 29) .skip (.exit 0)
def escheatref19_Bits_c10 : ACode := .seq [1, 2, 5, 6, 29] escheatref19_Bits_c8 escheatref19_Bits_c9
def escheatref19_Bits_o6 : List AOper := [{ dst := some 7, op := .mv (.v (.c (.b true))) }]
def escheatref19_Bits_c11 : ACode := .ops escheatref19_Bits_o6
def escheatref19_Bits_o7 : List AOper := [{ dst := some 8, op := .mv (.v (.c (.i .i64 0))) }]
def escheatref19_Bits_c12 : ACode := .ops escheatref19_Bits_o7
def escheatref19_Bits_o8 : List AOper := [{ dst := some 32, op := .mv (.t 8) }, { dst := some 33, op := .mv (.t 5) }, { dst := some 34, op := .bin .lss (.t 32) (.t 33) }]
def escheatref19_Bits_c13 : ACode := .ops escheatref19_Bits_o8
def escheatref19_Bits_c14 : ACode := .cond (.t 34) .skip (.exit 2)
def escheatref19_Bits_c15 : ACode := .seq [1, 2, 5, 6, 7, 8, 34] escheatref19_Bits_c13 escheatref19_Bits_c14
def escheatref19_Bits_o9 : List AOper := [{ dst := some 37, op := .mv (.t 7) }, { dst := some 38, op := .mv (.t 37) }, { dst := some 39, op := .mv (.t 8), guard := some (38, true) }, { dst := some 40, op := .mv (.t 1), guard := some (38, true) }, { dst := some 41, op := .mv (.t 6), guard := some (38, true) }, { dst := some 42, op := .call 190 [(.t 39), (.t 40), (.t 41)], guard := some (38, true) }, { dst := some 43, op := .un .not (.t 42), guard := some (38, true) }, { dst := some 44, op := .mv (.t 43), guard := some (38, true) }, { dst := some 45, op := .mv (.t 8), guard := some (44, false) }, { dst := some 46, op := .fAddr (.t 2) 1, guard := some (44, false) }, { dst := some 47, op := .iAddrA 32 1 (.t 46) (.t 45), guard := some (44, false) }, { dst := some 48, op := .load1 (.t 47), guard := some (44, false) }, { dst := some 49, op := .mv (.t 1), guard := some (44, false) }, { dst := some 50, op := .fAddr (.t 2) 1, guard := some (44, false) }, { dst := some 51, op := .iAddrA 32 1 (.t 50) (.t 49), guard := some (44, false) }, { dst := some 52, op := .load1 (.t 51), guard := some (44, false) }]
def escheatref19_Bits_o10 : List AOper := [{ dst := some 53, op := .bin .eql (.t 48) (.t 52), guard := some (44, false) }, { dst := some 54, op := .pick (.t 44) (.v (.c (.b true))) (.t 53), guard := some (38, true) }, { dst := some 55, op := .pick (.t 38) (.t 54) (.v (.c (.b false))) }, { dst := some 7, op := .mv (.t 55) }]
def escheatref19_Bits_c16 : ACode := .draw 0 escheatref19_Bits_o9 escheatref19_Bits_o10
def escheatref19_Bits_c17 : ACode := .block 3 escheatref19_Bits_c16
def escheatref19_Bits_o11 : List AOper := [{ dst := some 35, op := .mv (.t 8) }, { dst := some 36, op := .bin .add (.t 35) (.v (.c (.i .i64 1))) }, { dst := some 8, op := .mv (.t 36) }]
def escheatref19_Bits_c18 : ACode := .ops escheatref19_Bits_o11
def escheatref19_Bits_c19 : ACode := .seq [1, 2, 5, 6, 7, 8] escheatref19_Bits_c17 escheatref19_Bits_c18
def escheatref19_Bits_c20 : ACode := .seq [1, 2, 5, 6, 7, 8] escheatref19_Bits_c15 escheatref19_Bits_c19
def escheatref19_Bits_c21 : ACode := .loop [1, 2, 5, 6, 7, 8] escheatref19_Bits_c20
def escheatref19_Bits_c22 : ACode := .block 2 escheatref19_Bits_c21
def escheatref19_Bits_c23 : ACode := .seq [1, 2, 5, 6, 7, 8] escheatref19_Bits_c12 escheatref19_Bits_c22
def escheatref19_Bits_o12 : List AOper := [{ dst := some 56, op := .mv (.t 7) }]
def escheatref19_Bits_c24 : ACode := .ops escheatref19_Bits_o12
def escheatref19_Bits_o13 : List AOper := [{ dst := some 57, op := .mv (.t 6) }, { dst := some 4, op := .mv (.t 57) }]
def escheatref19_Bits_c25 : ACode := .ops escheatref19_Bits_o13
def escheatref19_Bits_c26 : ACode := .seq [4] escheatref19_Bits_c25 .ret
def escheatref19_Bits_c27 : ACode := .cond (.t 56) escheatref19_Bits_c26 .skip
def escheatref19_Bits_c28 : ACode := .seq [1, 2, 5, 6, 56] escheatref19_Bits_c24 escheatref19_Bits_c27
def escheatref19_Bits_c29 : ACode := .seq [1, 2, 5, 6, 7] escheatref19_Bits_c23 escheatref19_Bits_c28
def escheatref19_Bits_c30 : ACode := .seq [1, 2, 5, 6, 7] escheatref19_Bits_c11 escheatref19_Bits_c29
def escheatref19_Bits_c31 : ACode := .block 1 escheatref19_Bits_c30
def escheatref19_Bits_o14 : List AOper := [{ dst := some 30, op := .mv (.t 6) }, { dst := some 31, op := .bin .add (.t 30) (.v (.c (.i .i64 1))) }, { dst := some 6, op := .mv (.t 31) }]
def escheatref19_Bits_c32 : ACode := .ops escheatref19_Bits_o14
def escheatref19_Bits_c33 : ACode := .seq [1, 2, 5, 6] escheatref19_Bits_c31 escheatref19_Bits_c32
def escheatref19_Bits_c34 : ACode := .seq [1, 2, 5, 6] escheatref19_Bits_c10 escheatref19_Bits_c33
def escheatref19_Bits_c35 : ACode := .loop [1, 2, 5, 6] escheatref19_Bits_c34
def escheatref19_Bits_c36 : ACode := .block 0 escheatref19_Bits_c35
def escheatref19_Bits_c37 : ACode := .seq [1, 2, 5, 6] escheatref19_Bits_c7 escheatref19_Bits_c36
def escheatref19_Bits_o15 : List AOper := [{ dst := some 58, op := .loadN 33 (.t 2) }, { dst := some 59, op := .call 126 [(.t 58)] }, { dst := some 4, op := .mv (.t 59) }]
def escheatref19_Bits_c38 : ACode := .ops escheatref19_Bits_o15
def escheatref19_Bits_c39 : ACode := .seq [4] escheatref19_Bits_c38 .ret
def escheatref19_Bits_c40 : ACode := .seq [2] escheatref19_Bits_c37 escheatref19_Bits_c39
def escheatref19_Bits_c41 : ACode := .seq [1, 2, 5] escheatref19_Bits_c6 escheatref19_Bits_c40
def escheatref19_Bits_c42 : ACode := .seq [1, 2, 5] escheatref19_Bits_c1 escheatref19_Bits_c41
def escheatref19_Bits_c43 : ACode := .seq [1, 2] escheatref19_Bits_c0 escheatref19_Bits_c42
def A_escheatref19_Bits : AFn := ⟨escheatref19_Bits_c43, [.tmp 4]⟩
noncomputable def E_escheatref19_Bits : Sums := disp 126 S_escheatref19_Deep (disp 189 S_escheatref19_Pow (disp 190 S_escheatref19_Is disp0))
noncomputable def escheatref19_Bits_c0_d (n : Nat) : SmV := smOps E_escheatref19_Bits escheatref19_Bits_o0
noncomputable def escheatref19_Bits_c1_d (n : Nat) : SmV := smOps E_escheatref19_Bits escheatref19_Bits_o1
noncomputable def escheatref19_Bits_c2_d (n : Nat) : SmV := smOps E_escheatref19_Bits escheatref19_Bits_o2
noncomputable def escheatref19_Bits_c3_d (n : Nat) : SmV := smOps E_escheatref19_Bits escheatref19_Bits_o3
noncomputable def escheatref19_Bits_c4_d (n : Nat) : SmV := smSeq [4] (escheatref19_Bits_c3_d n) smRet
noncomputable def escheatref19_Bits_c5_d (n : Nat) : SmV := smCond (.t 18) (escheatref19_Bits_c4_d n) smSkip
noncomputable def escheatref19_Bits_c6_d (n : Nat) : SmV := smSeq [1, 2, 5, 18] (escheatref19_Bits_c2_d n) (escheatref19_Bits_c5_d n)
noncomputable def escheatref19_Bits_c7_d (n : Nat) : SmV := smOps E_escheatref19_Bits escheatref19_Bits_o4
noncomputable def escheatref19_Bits_c8_d (n : Nat) : SmV := smOps E_escheatref19_Bits escheatref19_Bits_o5
noncomputable def escheatref19_Bits_c9_d (n : Nat) : SmV := smCond (.t 29) smSkip (smExit 0)
noncomputable def escheatref19_Bits_c10_d (n : Nat) : SmV := smSeq [1, 2, 5, 6, 29] (escheatref19_Bits_c8_d n) (escheatref19_Bits_c9_d n)
noncomputable def escheatref19_Bits_c11_d (n : Nat) : SmV := smOps E_escheatref19_Bits escheatref19_Bits_o6
noncomputable def escheatref19_Bits_c12_d (n : Nat) : SmV := smOps E_escheatref19_Bits escheatref19_Bits_o7
noncomputable def escheatref19_Bits_c13_d (n : Nat) : SmV := smOps E_escheatref19_Bits escheatref19_Bits_o8
noncomputable def escheatref19_Bits_c14_d (n : Nat) : SmV := smCond (.t 34) smSkip (smExit 2)
noncomputable def escheatref19_Bits_c15_d (n : Nat) : SmV := smSeq [1, 2, 5, 6, 7, 8, 34] (escheatref19_Bits_c13_d n) (escheatref19_Bits_c14_d n)
noncomputable def escheatref19_Bits_c16_d (n : Nat) : SmV := smDraw E_escheatref19_Bits 0 escheatref19_Bits_o9 escheatref19_Bits_o10
noncomputable def escheatref19_Bits_c17_d (n : Nat) : SmV := smBlock 3 (escheatref19_Bits_c16_d n)
noncomputable def escheatref19_Bits_c18_d (n : Nat) : SmV := smOps E_escheatref19_Bits escheatref19_Bits_o11
noncomputable def escheatref19_Bits_c19_d (n : Nat) : SmV := smSeq [1, 2, 5, 6, 7, 8] (escheatref19_Bits_c17_d n) (escheatref19_Bits_c18_d n)
noncomputable def escheatref19_Bits_c20_d (n : Nat) : SmV := smSeq [1, 2, 5, 6, 7, 8] (escheatref19_Bits_c15_d n) (escheatref19_Bits_c19_d n)
noncomputable def escheatref19_Bits_c21_d (n : Nat) : SmV := smLoop n [1, 2, 5, 6, 7, 8] (escheatref19_Bits_c20_d n)
noncomputable def escheatref19_Bits_c22_d (n : Nat) : SmV := smBlock 2 (escheatref19_Bits_c21_d n)
noncomputable def escheatref19_Bits_c23_d (n : Nat) : SmV := smSeq [1, 2, 5, 6, 7, 8] (escheatref19_Bits_c12_d n) (escheatref19_Bits_c22_d n)
noncomputable def escheatref19_Bits_c24_d (n : Nat) : SmV := smOps E_escheatref19_Bits escheatref19_Bits_o12
noncomputable def escheatref19_Bits_c25_d (n : Nat) : SmV := smOps E_escheatref19_Bits escheatref19_Bits_o13
noncomputable def escheatref19_Bits_c26_d (n : Nat) : SmV := smSeq [4] (escheatref19_Bits_c25_d n) smRet
noncomputable def escheatref19_Bits_c27_d (n : Nat) : SmV := smCond (.t 56) (escheatref19_Bits_c26_d n) smSkip
noncomputable def escheatref19_Bits_c28_d (n : Nat) : SmV := smSeq [1, 2, 5, 6, 56] (escheatref19_Bits_c24_d n) (escheatref19_Bits_c27_d n)
noncomputable def escheatref19_Bits_c29_d (n : Nat) : SmV := smSeq [1, 2, 5, 6, 7] (escheatref19_Bits_c23_d n) (escheatref19_Bits_c28_d n)
noncomputable def escheatref19_Bits_c30_d (n : Nat) : SmV := smSeq [1, 2, 5, 6, 7] (escheatref19_Bits_c11_d n) (escheatref19_Bits_c29_d n)
noncomputable def escheatref19_Bits_c31_d (n : Nat) : SmV := smBlock 1 (escheatref19_Bits_c30_d n)
noncomputable def escheatref19_Bits_c32_d (n : Nat) : SmV := smOps E_escheatref19_Bits escheatref19_Bits_o14
noncomputable def escheatref19_Bits_c33_d (n : Nat) : SmV := smSeq [1, 2, 5, 6] (escheatref19_Bits_c31_d n) (escheatref19_Bits_c32_d n)
noncomputable def escheatref19_Bits_c34_d (n : Nat) : SmV := smSeq [1, 2, 5, 6] (escheatref19_Bits_c10_d n) (escheatref19_Bits_c33_d n)
noncomputable def escheatref19_Bits_c35_d (n : Nat) : SmV := smLoop n [1, 2, 5, 6] (escheatref19_Bits_c34_d n)
noncomputable def escheatref19_Bits_c36_d (n : Nat) : SmV := smBlock 0 (escheatref19_Bits_c35_d n)
noncomputable def escheatref19_Bits_c37_d (n : Nat) : SmV := smSeq [1, 2, 5, 6] (escheatref19_Bits_c7_d n) (escheatref19_Bits_c36_d n)
noncomputable def escheatref19_Bits_c38_d (n : Nat) : SmV := smOps E_escheatref19_Bits escheatref19_Bits_o15
noncomputable def escheatref19_Bits_c39_d (n : Nat) : SmV := smSeq [4] (escheatref19_Bits_c38_d n) smRet
noncomputable def escheatref19_Bits_c40_d (n : Nat) : SmV := smSeq [2] (escheatref19_Bits_c37_d n) (escheatref19_Bits_c39_d n)
noncomputable def escheatref19_Bits_c41_d (n : Nat) : SmV := smSeq [1, 2, 5] (escheatref19_Bits_c6_d n) (escheatref19_Bits_c40_d n)
noncomputable def escheatref19_Bits_c42_d (n : Nat) : SmV := smSeq [1, 2, 5] (escheatref19_Bits_c1_d n) (escheatref19_Bits_c41_d n)
noncomputable def escheatref19_Bits_c43_d (n : Nat) : SmV := smSeq [1, 2] (escheatref19_Bits_c0_d n) (escheatref19_Bits_c42_d n)
noncomputable def escheatref19_Bits_k0 (n : Nat) : AExit → Env → Heap → OptV := fun x e h => match x with | .normal => hold ((escheatref19_Bits_c39_d n) A_escheatref19_Bits.fin (e.keep [2]) h) | .exit id => A_escheatref19_Bits.fin (.exit id) e h | .ret => A_escheatref19_Bits.fin .ret e h
noncomputable def escheatref19_Bits_k1 (n : Nat) : AExit → Env → Heap → OptV := fun x e h => match x with | .exit i => bif Nat.beq i 0 then (escheatref19_Bits_k0 n) .normal e h else (escheatref19_Bits_k0 n) (.exit i) e h | .normal => (escheatref19_Bits_k0 n) .normal e h | .ret => (escheatref19_Bits_k0 n) .ret e h
noncomputable def escheatref19_Bits_l0 (n m : Nat) (x1 x2 x5 x6 : Val) (h : Heap) : OptV := around (escheatref19_Bits_c34_d n) [1, 2, 5, 6] (escheatref19_Bits_k1 n) m [(1, x1), (2, x2), (5, x5), (6, x6)] h
noncomputable def R_escheatref19_Bits (n : Nat) (args : List Val) (h : Heap) : OptV := (escheatref19_Bits_c43_d n) A_escheatref19_Bits.fin (params 0 args) h
noncomputable def escheatref19_Bits_k2 (n m : Nat) : AExit → Env → Heap → OptV := fun x e h => match x with | .normal => around (escheatref19_Bits_c34_d n) [1, 2, 5, 6] (escheatref19_Bits_k1 n) m (e.keep [1, 2, 5, 6]) h | .exit id => (escheatref19_Bits_k1 n) (.exit id) e h | .ret => (escheatref19_Bits_k1 n) .ret e h
noncomputable def escheatref19_Bits_k3 (n m : Nat) : AExit → Env → Heap → OptV := fun x e h => match x with | .normal => hold ((escheatref19_Bits_c32_d n) (escheatref19_Bits_k2 n m) (e.keep [1, 2, 5, 6]) h) | .exit id => (escheatref19_Bits_k2 n m) (.exit id) e h | .ret => (escheatref19_Bits_k2 n m) .ret e h
noncomputable def escheatref19_Bits_k4 (n m : Nat) : AExit → Env → Heap → OptV := fun x e h => match x with | .exit i => bif Nat.beq i 1 then (escheatref19_Bits_k3 n m) .normal e h else (escheatref19_Bits_k3 n m) (.exit i) e h | .normal => (escheatref19_Bits_k3 n m) .normal e h | .ret => (escheatref19_Bits_k3 n m) .ret e h
noncomputable def escheatref19_Bits_k5 (n m : Nat) : AExit → Env → Heap → OptV := fun x e h => match x with | .normal => hold ((escheatref19_Bits_c28_d n) (escheatref19_Bits_k4 n m) (e.keep [1, 2, 5, 6, 7]) h) | .exit id => (escheatref19_Bits_k4 n m) (.exit id) e h | .ret => (escheatref19_Bits_k4 n m) .ret e h
noncomputable def escheatref19_Bits_k6 (n m : Nat) : AExit → Env → Heap → OptV := fun x e h => match x with | .exit i => bif Nat.beq i 2 then (escheatref19_Bits_k5 n m) .normal e h else (escheatref19_Bits_k5 n m) (.exit i) e h | .normal => (escheatref19_Bits_k5 n m) .normal e h | .ret => (escheatref19_Bits_k5 n m) .ret e h
noncomputable def escheatref19_Bits_l1 (n m m2 : Nat) (x1 x2 x5 x6 x7 x8 : Val) (h : Heap) : OptV := around (escheatref19_Bits_c20_d n) [1, 2, 5, 6, 7, 8] (escheatref19_Bits_k6 n m) m2 [(1, x1), (2, x2), (5, x5), (6, x6), (7, x7), (8, x8)] h
theorem R_escheatref19_Bits_eq (n : Nat) (a0 a1 : Val) (h : Heap) : R_escheatref19_Bits n [a0, a1] h = bnd (cells? a0) fun c1 => bnd (aloadN ((h ++ [some (Row.mk (c1) true)])) 33 ((.c (.p h.length 0)))) fun v2 => bnd (S_escheatref19_Deep [v2] ((h ++ [some (Row.mk (c1) true)]))) fun p3 => bnd (S_escheatref19_Pow [p3.1] p3.2) fun p4 => bnd (abin .lss a1 (.c (.i .i64 0))) fun v5 => bnd (gd v5 false (some (a1, p4.2)) (some (.no, p4.2))) fun p6 => bnd (gd v5 false (some (p4.1, p6.2)) (some (.no, p6.2))) fun p7 => bnd (gd v5 false (bnd (abin .geq p6.1 p7.1) fun v8 => some (v8, p7.2)) (some (.no, p7.2))) fun p9 => bnd (apick v5 (.c (.b true)) p9.1) fun v10 => cnd v10 (some ((.c (.i .i64 0)), p9.2)) (escheatref19_Bits_l0 n n a1 ((.c (.p h.length 0))) p4.1 (.c (.i .i64 0)) p9.2) := by kernel_rfl
theorem escheatref19_Bits_l0_eq (n m : Nat) (x1 x2 x5 x6 : Val) (h : Heap) : escheatref19_Bits_l0 n (m + 1) x1 x2 x5 x6 h = bnd (aloadN h 33 x2) fun v11 => bnd (S_escheatref19_Deep [v11] h) fun p12 => bnd (abin .lss x6 p12.1) fun v13 => bnd (gd v13 true (some (x1, p12.2)) (some (.no, p12.2))) fun p14 => bnd (gd v13 true (bnd (afAddr x2 1) fun v15 => some (v15, p14.2)) (some (.no, p14.2))) fun p16 => bnd (gd v13 true (bnd (aiAddrA 32 1 p16.1 p14.1) fun v17 => some (v17, p16.2)) (some (.no, p16.2))) fun p18 => bnd (gd v13 true (bnd (aload1 p18.2 p18.1) fun v19 => some (v19, p18.2)) (some (.no, p18.2))) fun p20 => bnd (gd v13 true (bnd (abin .neq p20.1 (.c (.i .i64 0))) fun v21 => some (v21, p20.2)) (some (.no, p20.2))) fun p22 => bnd (apick v13 p22.1 (.c (.b false))) fun v23 => cnd v23 (escheatref19_Bits_l1 n m n x1 x2 x5 x6 (.c (.b true)) (.c (.i .i64 0)) p22.2) (bnd (aloadN p22.2 33 x2) fun v24 => bnd (S_escheatref19_Deep [v24] p22.2) fun p25 => some (p25.1, p25.2)) := by kernel_rfl
theorem escheatref19_Bits_l1_eq (n m m2 : Nat) (x1 x2 x5 x6 x7 x8 : Val) (h : Heap) : escheatref19_Bits_l1 n m (m2 + 1) x1 x2 x5 x6 x7 x8 h = bnd (abin .lss x8 x5) fun v26 => cnd v26 (bnd (gd x7 true (some (x8, (h ++ []))) (some (.no, (h ++ [])))) fun p27 => bnd (gd x7 true (some (x1, p27.2)) (some (.no, p27.2))) fun p28 => bnd (gd x7 true (some (x6, p28.2)) (some (.no, p28.2))) fun p29 => bnd (gd x7 true (bnd (quiet p29.2 (S_escheatref19_Is [p27.1, p28.1, p29.1] p29.2)) fun p30 => some (p30.1, p30.2)) (some (.no, p29.2))) fun p31 => bnd (gd x7 true (bnd (aun .not p31.1) fun v32 => some (v32, p31.2)) (some (.no, p31.2))) fun p33 => bnd (gd x7 true (some (p33.1, p33.2)) (some (.no, p33.2))) fun p34 => bnd (gd p34.1 false (some (x8, p34.2)) (some (.no, p34.2))) fun p35 => bnd (gd p34.1 false (bnd (afAddr x2 1) fun v36 => some (v36, p35.2)) (some (.no, p35.2))) fun p37 => bnd (gd p34.1 false (bnd (aiAddrA 32 1 p37.1 p35.1) fun v38 => some (v38, p37.2)) (some (.no, p37.2))) fun p39 => bnd (gd p34.1 false (bnd (aload1 h p39.1) fun v40 => some (v40, p39.2)) (some (.no, p39.2))) fun p41 => bnd (gd p34.1 false (some (x1, p41.2)) (some (.no, p41.2))) fun p42 => bnd (gd p34.1 false (bnd (afAddr x2 1) fun v43 => some (v43, p42.2)) (some (.no, p42.2))) fun p44 => bnd (gd p34.1 false (bnd (aiAddrA 32 1 p44.1 p42.1) fun v45 => some (v45, p44.2)) (some (.no, p44.2))) fun p46 => bnd (gd p34.1 false (bnd (aload1 h p46.1) fun v47 => some (v47, p46.2)) (some (.no, p46.2))) fun p48 => bnd (gd p34.1 false (bnd (abin .eql p41.1 p48.1) fun v49 => some (v49, p48.2)) (some (.no, p48.2))) fun p50 => bnd (gd x7 true (bnd (apick p34.1 (.c (.b true)) p50.1) fun v51 => some (v51, p50.2)) (some (.no, p50.2))) fun p52 => bnd (apick x7 p52.1 (.c (.b false))) fun v53 => bnd (abin .add x8 (.c (.i .i64 1))) fun v54 => escheatref19_Bits_l1 n m m2 x1 x2 x5 x6 v53 v54 p52.2) (cnd x7 (some (x6, h)) (bnd (abin .add x6 (.c (.i .i64 1))) fun v55 => escheatref19_Bits_l0 n m x1 x2 x5 v55 h)) := by kernel_rfl
theorem K_escheatref19_Bits : FnK Try.prog 128 A_escheatref19_Bits E_escheatref19_Bits R_escheatref19_Bits := .mk' (sound1 S_escheatref19_Deep_ok (sound1 S_escheatref19_Pow_ok (sound1 S_escheatref19_Is_ok sound0))) Try.func128 (by kernel_rfl) (by intro n args h; kernel_rfl)
noncomputable def S_escheatref19_Bits : Fun := tidy (Lim A_escheatref19_Bits E_escheatref19_Bits)
theorem S_escheatref19_Bits_ok : SOk Try.prog 128 S_escheatref19_Bits := K_escheatref19_Bits.sok
theorem S_escheatref19_Bits_flat {n : Nat} {args : List Val} {h h2 : Heap} {v : Val} (he : R_escheatref19_Bits n args (ro h) = some (v, h2)) (hf : v.flat = true) : S_escheatref19_Bits args h = some (v, h) := K_escheatref19_Bits.flat he hf
def escheatref19_Places_o0 : List AOper := [{ dst := some 3, op := .box (.t 0) }, { dst := some 6, op := .nilrow 1 }]
def escheatref19_Places_c0 : ACode := .ops escheatref19_Places_o0
def escheatref19_Places_o1 : List AOper := [{ dst := some 7, op := .nilrow 1 }]
def escheatref19_Places_c1 : ACode := .ops escheatref19_Places_o1
def escheatref19_Places_o2 : List AOper := [{ dst := some 9, op := .mv (.t 1) }, { dst := some 10, op := .bin .lss (.t 9) (.v (.c (.i .i64 0))) }, { dst := some 11, op := .mv (.t 10) }, { dst := some 12, op := .mv (.t 1), guard := some (11, false) }, { dst := some 13, op := .loadN 33 (.t 3), guard := some (11, false) }, { dst := some 14, op := .call 126 [(.t 13)], guard := some (11, false) }, { dst := some 15, op := .call 189 [(.t 14)], guard := some (11, false) }, { dst := some 16, op := .bin .geq (.t 12) (.t 15), guard := some (11, false) }, { dst := some 17, op := .pick (.t 11) (.v (.c (.b true))) (.t 16) }]
def escheatref19_Places_c2 : ACode := .ops escheatref19_Places_o2
def escheatref19_Places_o3 : List AOper := [{ dst := some 18, op := .mv (.t 7) }, { dst := some 6, op := .mv (.t 18) }]
def escheatref19_Places_c3 : ACode := .ops escheatref19_Places_o3
def escheatref19_Places_c4 : ACode := .seq [6] escheatref19_Places_c3 .ret
def escheatref19_Places_c5 : ACode := .cond (.t 17) escheatref19_Places_c4 .skip
def escheatref19_Places_c6 : ACode := .seq [1, 2, 3, 7, 17] escheatref19_Places_c2 escheatref19_Places_c5
def escheatref19_Places_o4 : List AOper := [{ dst := some 19, op := .mv (.t 2) }, { dst := some 20, op := .bin .lss (.t 19) (.v (.c (.i .i64 0))) }]
def escheatref19_Places_c7 : ACode := .ops escheatref19_Places_o4
def escheatref19_Places_o5 : List AOper := [{ dst := some 2, op := .mv (.v (.c (.i .i64 0))) }]
def escheatref19_Places_c8 : ACode := .ops escheatref19_Places_o5
def escheatref19_Places_c9 : ACode := .cond (.t 20) escheatref19_Places_c8 .skip
def escheatref19_Places_c10 : ACode := .seq [1, 2, 3, 7, 20] escheatref19_Places_c7 escheatref19_Places_c9
def escheatref19_Places_o6 : List AOper := [{ dst := some 21, op := .mv (.t 2) }, { dst := some 22, op := .loadN 33 (.t 3) }, { dst := some 23, op := .call 126 [(.t 22)] }, { dst := some 24, op := .bin .gtr (.t 21) (.t 23) }]
def escheatref19_Places_c11 : ACode := .ops escheatref19_Places_o6
def escheatref19_Places_o7 : List AOper := [{ dst := some 25, op := .loadN 33 (.t 3) }, { dst := some 26, op := .call 126 [(.t 25)] }, { dst := some 2, op := .mv (.t 26) }]
def escheatref19_Places_c12 : ACode := .ops escheatref19_Places_o7
def escheatref19_Places_c13 : ACode := .cond (.t 24) escheatref19_Places_c12 .skip
def escheatref19_Places_c14 : ACode := .seq [1, 2, 3, 7, 24] escheatref19_Places_c11 escheatref19_Places_c13
def escheatref19_Places_o8 : List AOper := [{ dst := some 8, op := .mv (.v (.c (.i .i64 0))) }]
def escheatref19_Places_c15 : ACode := .ops escheatref19_Places_o8
def escheatref19_Places_o9 : List AOper := [{ dst := some 27, op := .mv (.t 8) }, { dst := some 28, op := .loadN 33 (.t 3) }, { dst := some 29, op := .call 126 [(.t 28)] }, { dst := some 30, op := .call 189 [(.t 29)] }, { dst := some 31, op := .bin .lss (.t 27) (.t 30) }]
def escheatref19_Places_c16 : ACode := .ops escheatref19_Places_o9
def escheatref19_Places_c17 : ACode := .cond (.t 31) .skip (.exit 0)
def escheatref19_Places_c18 : ACode := .seq [1, 2, 3, 7, 8, 31] escheatref19_Places_c16 escheatref19_Places_c17
def escheatref19_Places_o10 : List AOper := [{ dst := some 34, op := .mv (.t 8) }, { dst := some 35, op := .mv (.t 1) }, { dst := some 36, op := .mv (.t 2) }, { dst := some 37, op := .call 190 [(.t 34), (.t 35), (.t 36)] }]
def escheatref19_Places_c19 : ACode := .ops escheatref19_Places_o10
def escheatref19_Places_o11 : List AOper := [{ dst := some 38, op := .mv (.t 7) }, { dst := some 39, op := .mv (.t 8) }, { dst := some 40, op := .buildSl 1 1 ([.i .i64 0]) [(0, 1, (.t 39))] }, { dst := some 41, op := .app 1 (.t 38) (.t 40) }, { dst := some 7, op := .mv (.t 41) }]
def escheatref19_Places_c20 : ACode := .ops escheatref19_Places_o11
def escheatref19_Places_c21 : ACode := .cond (.t 37) escheatref19_Places_c20 .skip
def escheatref19_Places_c22 : ACode := .seq [1, 2, 3, 7, 8, 37] escheatref19_Places_c19 escheatref19_Places_c21
def escheatref19_Places_c23 : ACode := .block 1 escheatref19_Places_c22
def escheatref19_Places_o12 : List AOper := [{ dst := some 32, op := .mv (.t 8) }, { dst := some 33, op := .bin .add (.t 32) (.v (.c (.i .i64 1))) }, { dst := some 8, op := .mv (.t 33) }]
def escheatref19_Places_c24 : ACode := .ops escheatref19_Places_o12
def escheatref19_Places_c25 : ACode := .seq [1, 2, 3, 7, 8] escheatref19_Places_c23 escheatref19_Places_c24
def escheatref19_Places_c26 : ACode := .seq [1, 2, 3, 7, 8] escheatref19_Places_c18 escheatref19_Places_c25
def escheatref19_Places_c27 : ACode := .loop [1, 2, 3, 7, 8] escheatref19_Places_c26
def escheatref19_Places_c28 : ACode := .block 0 escheatref19_Places_c27
def escheatref19_Places_c29 : ACode := .seq [1, 2, 3, 7, 8] escheatref19_Places_c15 escheatref19_Places_c28
def escheatref19_Places_o13 : List AOper := [{ dst := some 42, op := .mv (.t 7) }, { dst := some 6, op := .mv (.t 42) }]
def escheatref19_Places_c30 : ACode := .ops escheatref19_Places_o13
def escheatref19_Places_c31 : ACode := .seq [6] escheatref19_Places_c30 .ret
def escheatref19_Places_c32 : ACode := .seq [7] escheatref19_Places_c29 escheatref19_Places_c31
def escheatref19_Places_c33 : ACode := .seq [1, 2, 3, 7] escheatref19_Places_c14 escheatref19_Places_c32
def escheatref19_Places_c34 : ACode := .seq [1, 2, 3, 7] escheatref19_Places_c10 escheatref19_Places_c33
def escheatref19_Places_c35 : ACode := .seq [1, 2, 3, 7] escheatref19_Places_c6 escheatref19_Places_c34
def escheatref19_Places_c36 : ACode := .seq [1, 2, 3, 7] escheatref19_Places_c1 escheatref19_Places_c35
def escheatref19_Places_c37 : ACode := .seq [1, 2, 3] escheatref19_Places_c0 escheatref19_Places_c36
def A_escheatref19_Places : AFn := ⟨escheatref19_Places_c37, [.tmp 6]⟩
noncomputable def E_escheatref19_Places : Sums := disp 126 S_escheatref19_Deep (disp 189 S_escheatref19_Pow (disp 190 S_escheatref19_Is disp0))
noncomputable def escheatref19_Places_c0_d (n : Nat) : SmV := smOps E_escheatref19_Places escheatref19_Places_o0
noncomputable def escheatref19_Places_c1_d (n : Nat) : SmV := smOps E_escheatref19_Places escheatref19_Places_o1
noncomputable def escheatref19_Places_c2_d (n : Nat) : SmV := smOps E_escheatref19_Places escheatref19_Places_o2
noncomputable def escheatref19_Places_c3_d (n : Nat) : SmV := smOps E_escheatref19_Places escheatref19_Places_o3
noncomputable def escheatref19_Places_c4_d (n : Nat) : SmV := smSeq [6] (escheatref19_Places_c3_d n) smRet
noncomputable def escheatref19_Places_c5_d (n : Nat) : SmV := smCond (.t 17) (escheatref19_Places_c4_d n) smSkip
noncomputable def escheatref19_Places_c6_d (n : Nat) : SmV := smSeq [1, 2, 3, 7, 17] (escheatref19_Places_c2_d n) (escheatref19_Places_c5_d n)
noncomputable def escheatref19_Places_c7_d (n : Nat) : SmV := smOps E_escheatref19_Places escheatref19_Places_o4
noncomputable def escheatref19_Places_c8_d (n : Nat) : SmV := smOps E_escheatref19_Places escheatref19_Places_o5
noncomputable def escheatref19_Places_c9_d (n : Nat) : SmV := smCond (.t 20) (escheatref19_Places_c8_d n) smSkip
noncomputable def escheatref19_Places_c10_d (n : Nat) : SmV := smSeq [1, 2, 3, 7, 20] (escheatref19_Places_c7_d n) (escheatref19_Places_c9_d n)
noncomputable def escheatref19_Places_c11_d (n : Nat) : SmV := smOps E_escheatref19_Places escheatref19_Places_o6
noncomputable def escheatref19_Places_c12_d (n : Nat) : SmV := smOps E_escheatref19_Places escheatref19_Places_o7
noncomputable def escheatref19_Places_c13_d (n : Nat) : SmV := smCond (.t 24) (escheatref19_Places_c12_d n) smSkip
noncomputable def escheatref19_Places_c14_d (n : Nat) : SmV := smSeq [1, 2, 3, 7, 24] (escheatref19_Places_c11_d n) (escheatref19_Places_c13_d n)
noncomputable def escheatref19_Places_c15_d (n : Nat) : SmV := smOps E_escheatref19_Places escheatref19_Places_o8
noncomputable def escheatref19_Places_c16_d (n : Nat) : SmV := smOps E_escheatref19_Places escheatref19_Places_o9
noncomputable def escheatref19_Places_c17_d (n : Nat) : SmV := smCond (.t 31) smSkip (smExit 0)
noncomputable def escheatref19_Places_c18_d (n : Nat) : SmV := smSeq [1, 2, 3, 7, 8, 31] (escheatref19_Places_c16_d n) (escheatref19_Places_c17_d n)
noncomputable def escheatref19_Places_c19_d (n : Nat) : SmV := smOps E_escheatref19_Places escheatref19_Places_o10
noncomputable def escheatref19_Places_c20_d (n : Nat) : SmV := smOps E_escheatref19_Places escheatref19_Places_o11
noncomputable def escheatref19_Places_c21_d (n : Nat) : SmV := smCond (.t 37) (escheatref19_Places_c20_d n) smSkip
noncomputable def escheatref19_Places_c22_d (n : Nat) : SmV := smSeq [1, 2, 3, 7, 8, 37] (escheatref19_Places_c19_d n) (escheatref19_Places_c21_d n)
noncomputable def escheatref19_Places_c23_d (n : Nat) : SmV := smBlock 1 (escheatref19_Places_c22_d n)
noncomputable def escheatref19_Places_c24_d (n : Nat) : SmV := smOps E_escheatref19_Places escheatref19_Places_o12
noncomputable def escheatref19_Places_c25_d (n : Nat) : SmV := smSeq [1, 2, 3, 7, 8] (escheatref19_Places_c23_d n) (escheatref19_Places_c24_d n)
noncomputable def escheatref19_Places_c26_d (n : Nat) : SmV := smSeq [1, 2, 3, 7, 8] (escheatref19_Places_c18_d n) (escheatref19_Places_c25_d n)
noncomputable def escheatref19_Places_c27_d (n : Nat) : SmV := smLoop n [1, 2, 3, 7, 8] (escheatref19_Places_c26_d n)
noncomputable def escheatref19_Places_c28_d (n : Nat) : SmV := smBlock 0 (escheatref19_Places_c27_d n)
noncomputable def escheatref19_Places_c29_d (n : Nat) : SmV := smSeq [1, 2, 3, 7, 8] (escheatref19_Places_c15_d n) (escheatref19_Places_c28_d n)
noncomputable def escheatref19_Places_c30_d (n : Nat) : SmV := smOps E_escheatref19_Places escheatref19_Places_o13
noncomputable def escheatref19_Places_c31_d (n : Nat) : SmV := smSeq [6] (escheatref19_Places_c30_d n) smRet
noncomputable def escheatref19_Places_c32_d (n : Nat) : SmV := smSeq [7] (escheatref19_Places_c29_d n) (escheatref19_Places_c31_d n)
noncomputable def escheatref19_Places_c33_d (n : Nat) : SmV := smSeq [1, 2, 3, 7] (escheatref19_Places_c14_d n) (escheatref19_Places_c32_d n)
noncomputable def escheatref19_Places_c34_d (n : Nat) : SmV := smSeq [1, 2, 3, 7] (escheatref19_Places_c10_d n) (escheatref19_Places_c33_d n)
noncomputable def escheatref19_Places_c35_d (n : Nat) : SmV := smSeq [1, 2, 3, 7] (escheatref19_Places_c6_d n) (escheatref19_Places_c34_d n)
noncomputable def escheatref19_Places_c36_d (n : Nat) : SmV := smSeq [1, 2, 3, 7] (escheatref19_Places_c1_d n) (escheatref19_Places_c35_d n)
noncomputable def escheatref19_Places_c37_d (n : Nat) : SmV := smSeq [1, 2, 3] (escheatref19_Places_c0_d n) (escheatref19_Places_c36_d n)
noncomputable def escheatref19_Places_j0 (n : Nat) (x1 x2 x3 x7 : Val) (h : Heap) : OptV := hold ((escheatref19_Places_c33_d n) A_escheatref19_Places.fin [(1, x1), (2, x2), (3, x3), (7, x7)] h)
noncomputable def R_escheatref19_Places (n : Nat) (args : List Val) (h : Heap) : OptV := (escheatref19_Places_c37_d n) A_escheatref19_Places.fin (params 0 args) h
noncomputable def escheatref19_Places_j1 (n : Nat) (x1 x2 x3 x7 : Val) (h : Heap) : OptV := hold ((escheatref19_Places_c32_d n) A_escheatref19_Places.fin [(1, x1), (2, x2), (3, x3), (7, x7)] h)
noncomputable def escheatref19_Places_k0 (n : Nat) : AExit → Env → Heap → OptV := fun x e h => match x with | .normal => hold ((escheatref19_Places_c31_d n) A_escheatref19_Places.fin (e.keep [7]) h) | .exit id => A_escheatref19_Places.fin (.exit id) e h | .ret => A_escheatref19_Places.fin .ret e h
noncomputable def escheatref19_Places_k1 (n : Nat) : AExit → Env → Heap → OptV := fun x e h => match x with | .exit i => bif Nat.beq i 0 then (escheatref19_Places_k0 n) .normal e h else (escheatref19_Places_k0 n) (.exit i) e h | .normal => (escheatref19_Places_k0 n) .normal e h | .ret => (escheatref19_Places_k0 n) .ret e h
noncomputable def escheatref19_Places_l0 (n m : Nat) (x1 x2 x3 x7 x8 : Val) (h : Heap) : OptV := around (escheatref19_Places_c26_d n) [1, 2, 3, 7, 8] (escheatref19_Places_k1 n) m [(1, x1), (2, x2), (3, x3), (7, x7), (8, x8)] h
noncomputable def escheatref19_Places_k2 (n m : Nat) : AExit → Env → Heap → OptV := fun x e h => match x with | .normal => around (escheatref19_Places_c26_d n) [1, 2, 3, 7, 8] (escheatref19_Places_k1 n) m (e.keep [1, 2, 3, 7, 8]) h | .exit id => (escheatref19_Places_k1 n) (.exit id) e h | .ret => (escheatref19_Places_k1 n) .ret e h
noncomputable def escheatref19_Places_j2 (n m : Nat) (x1 x2 x3 x7 x8 : Val) (h : Heap) : OptV := hold ((escheatref19_Places_c24_d n) (escheatref19_Places_k2 n m) [(1, x1), (2, x2), (3, x3), (7, x7), (8, x8)] h)
theorem R_escheatref19_Places_eq (n : Nat) (a0 a1 a2 : Val) (h : Heap) : R_escheatref19_Places n [a0, a1, a2] h = bnd (cells? a0) fun c1 => bnd (abin .lss a1 (.c (.i .i64 0))) fun v2 => bnd (gd v2 false (some (a1, (((h ++ [some (Row.mk (c1) true)]) ++ [some (Row.mk ([]) true)]) ++ [some (Row.mk ([]) true)]))) (some (.no, (((h ++ [some (Row.mk (c1) true)]) ++ [some (Row.mk ([]) true)]) ++ [some (Row.mk ([]) true)])))) fun p3 => bnd (gd v2 false (bnd (aloadN p3.2 33 ((.c (.p h.length 0)))) fun v4 => some (v4, p3.2)) (some (.no, p3.2))) fun p5 => bnd (gd v2 false (bnd (S_escheatref19_Deep [p5.1] p5.2) fun p6 => some (p6.1, p6.2)) (some (.no, p5.2))) fun p7 => bnd (gd v2 false (bnd (S_escheatref19_Pow [p7.1] p7.2) fun p8 => some (p8.1, p8.2)) (some (.no, p7.2))) fun p9 => bnd (gd v2 false (bnd (abin .geq p3.1 p9.1) fun v10 => some (v10, p9.2)) (some (.no, p9.2))) fun p11 => bnd (apick v2 (.c (.b true)) p11.1) fun v12 => cnd v12 (some (((.c (.sl (((h ++ [some (Row.mk (c1) true)]) ++ [some (Row.mk ([]) true)])).length 0 0 1))), p11.2)) (bnd (abin .lss a2 (.c (.i .i64 0))) fun v13 => cnd v13 (escheatref19_Places_j0 n a1 (.c (.i .i64 0)) ((.c (.p h.length 0))) ((.c (.sl (((h ++ [some (Row.mk (c1) true)]) ++ [some (Row.mk ([]) true)])).length 0 0 1))) p11.2) (escheatref19_Places_j0 n a1 a2 ((.c (.p h.length 0))) ((.c (.sl (((h ++ [some (Row.mk (c1) true)]) ++ [some (Row.mk ([]) true)])).length 0 0 1))) p11.2)) := by kernel_rfl
theorem escheatref19_Places_j0_eq (n : Nat) (x1 x2 x3 x7 : Val) (h : Heap) : escheatref19_Places_j0 n x1 x2 x3 x7 h = bnd (aloadN h 33 x3) fun v14 => bnd (S_escheatref19_Deep [v14] h) fun p15 => bnd (abin .gtr x2 p15.1) fun v16 => cnd v16 (bnd (aloadN p15.2 33 x3) fun v17 => bnd (S_escheatref19_Deep [v17] p15.2) fun p18 => escheatref19_Places_j1 n x1 p18.1 x3 x7 p18.2) (escheatref19_Places_j1 n x1 x2 x3 x7 p15.2) := by kernel_rfl
theorem escheatref19_Places_j1_eq (n : Nat) (x1 x2 x3 x7 : Val) (h : Heap) : escheatref19_Places_j1 n x1 x2 x3 x7 h = escheatref19_Places_l0 n n x1 x2 x3 x7 (.c (.i .i64 0)) h := by kernel_rfl
theorem escheatref19_Places_l0_eq (n m : Nat) (x1 x2 x3 x7 x8 : Val) (h : Heap) : escheatref19_Places_l0 n (m + 1) x1 x2 x3 x7 x8 h = bnd (aloadN h 33 x3) fun v19 => bnd (S_escheatref19_Deep [v19] h) fun p20 => bnd (S_escheatref19_Pow [p20.1] p20.2) fun p21 => bnd (abin .lss x8 p21.1) fun v22 => cnd v22 (bnd (S_escheatref19_Is [x8, x1, x2] p21.2) fun p23 => cnd p23.1 (bnd (afill ([.i .i64 0]) [(0, 1, x8)]) fun c24 => bnd (aapp ((p23.2 ++ [some (Row.mk (c24) true)])) 1 x7 ((.c (.sl p23.2.length 0 1 1)))) fun p25 => escheatref19_Places_j2 n m x1 x2 x3 p25.1 x8 p25.2) (escheatref19_Places_j2 n m x1 x2 x3 x7 x8 p23.2)) (some (x7, p21.2)) := by kernel_rfl
theorem escheatref19_Places_j2_eq (n m : Nat) (x1 x2 x3 x7 x8 : Val) (h : Heap) : escheatref19_Places_j2 n m x1 x2 x3 x7 x8 h = bnd (abin .add x8 (.c (.i .i64 1))) fun v26 => escheatref19_Places_l0 n m x1 x2 x3 x7 v26 h := by kernel_rfl
theorem K_escheatref19_Places : FnK Try.prog 130 A_escheatref19_Places E_escheatref19_Places R_escheatref19_Places := .mk' (sound1 S_escheatref19_Deep_ok (sound1 S_escheatref19_Pow_ok (sound1 S_escheatref19_Is_ok sound0))) Try.func130 (by kernel_rfl) (by intro n args h; kernel_rfl)
noncomputable def S_escheatref19_Places : Fun := tidy (Lim A_escheatref19_Places E_escheatref19_Places)
theorem S_escheatref19_Places_ok : SOk Try.prog 130 S_escheatref19_Places := K_escheatref19_Places.sok
theorem S_escheatref19_Places_low {n : Nat} {args : List Val} {h h2 : Heap} {v : Val} (he : R_escheatref19_Places n args (ro h) = some (v, h2)) (hf : v.low h.length = true) : S_escheatref19_Places args h = some (v, h) := K_escheatref19_Places.low he hf
theorem S_escheatref19_Places_out {n : Nat} {args : List Val} {h h2 : Heap} {v : Val} {sz k : Nat} {cs : List Cell} (he : R_escheatref19_Places n args (ro h) = some (v, h2)) (ho : Out h.length h2 v sz k cs) (hf : flats cs = true) : S_escheatref19_Places args h = some (.c (.sl h.length 0 k sz), h ++ [some ⟨cs, true⟩]) := K_escheatref19_Places.out he ho hf
def escheatref19_Buckets_o0 : List AOper := [{ dst := some 1, op := .box (.t 0) }, { dst := some 2, op := .nilrow 1 }]
def escheatref19_Buckets_c0 : ACode := .ops escheatref19_Buckets_o0
def escheatref19_Buckets_o1 : List AOper := [{ dst := some 3, op := .nilrow 1 }]
def escheatref19_Buckets_c1 : ACode := .ops escheatref19_Buckets_o1
def escheatref19_Buckets_o2 : List AOper := [{ dst := some 4, op := .mv (.v (.c (.i .i64 0))) }]
def escheatref19_Buckets_c2 : ACode := .ops escheatref19_Buckets_o2
def escheatref19_Buckets_o3 : List AOper := [{ dst := some 5, op := .mv (.t 4) }, { dst := some 6, op := .loadN 33 (.t 1) }, { dst := some 7, op := .call 126 [(.t 6)] }, { dst := some 8, op := .call 189 [(.t 7)] }, { dst := some 9, op := .bin .lss (.t 5) (.t 8) }]
def escheatref19_Buckets_c3 : ACode := .ops escheatref19_Buckets_o3
def escheatref19_Buckets_c4 : ACode := .cond (.t 9) .skip (.exit 0)
def escheatref19_Buckets_c5 : ACode := .seq [1, 3, 4, 9] escheatref19_Buckets_c3 escheatref19_Buckets_c4
def escheatref19_Buckets_o4 : List AOper := [{ dst := some 12, op := .mv (.t 4) }, { dst := some 13, op := .fAddr (.t 1) 1 }, { dst := some 14, op := .iAddrA 32 1 (.t 13) (.t 12) }, { dst := some 15, op := .load1 (.t 14) }, { dst := some 16, op := .bin .neq (.t 15) (.v (.c (.i .i64 0))) }, { dst := some 17, op := .mv (.t 16) }, { dst := some 18, op := .mv (.t 3), guard := some (17, true) }, { dst := some 19, op := .mv (.t 4), guard := some (17, true) }, { dst := some 20, op := .fAddr (.t 1) 1, guard := some (17, true) }, { dst := some 21, op := .iAddrA 32 1 (.t 20) (.t 19), guard := some (17, true) }, { dst := some 22, op := .load1 (.t 21), guard := some (17, true) }, { dst := some 23, op := .call 133 [(.t 18), (.t 22)], guard := some (17, true) }, { dst := some 24, op := .un .not (.t 23), guard := some (17, true) }, { dst := some 25, op := .pick (.t 17) (.t 24) (.v (.c (.b false))) }]
def escheatref19_Buckets_c6 : ACode := .ops escheatref19_Buckets_o4
def escheatref19_Buckets_o5 : List AOper := [{ dst := some 26, op := .mv (.t 3) }, { dst := some 27, op := .mv (.t 4) }, { dst := some 28, op := .fAddr (.t 1) 1 }, { dst := some 29, op := .iAddrA 32 1 (.t 28) (.t 27) }, { dst := some 30, op := .load1 (.t 29) }, { dst := some 31, op := .buildSl 1 1 ([.i .i64 0]) [(0, 1, (.t 30))] }, { dst := some 32, op := .app 1 (.t 26) (.t 31) }, { dst := some 3, op := .mv (.t 32) }]
def escheatref19_Buckets_c7 : ACode := .ops escheatref19_Buckets_o5
def escheatref19_Buckets_c8 : ACode := .cond (.t 25) escheatref19_Buckets_c7 .skip
def escheatref19_Buckets_c9 : ACode := .seq [1, 3, 4, 25] escheatref19_Buckets_c6 escheatref19_Buckets_c8
def escheatref19_Buckets_c10 : ACode := .block 1 escheatref19_Buckets_c9
def escheatref19_Buckets_o6 : List AOper := [{ dst := some 10, op := .mv (.t 4) }, { dst := some 11, op := .bin .add (.t 10) (.v (.c (.i .i64 1))) }, { dst := some 4, op := .mv (.t 11) }]
def escheatref19_Buckets_c11 : ACode := .ops escheatref19_Buckets_o6
def escheatref19_Buckets_c12 : ACode := .seq [1, 3, 4] escheatref19_Buckets_c10 escheatref19_Buckets_c11
def escheatref19_Buckets_c13 : ACode := .seq [1, 3, 4] escheatref19_Buckets_c5 escheatref19_Buckets_c12
def escheatref19_Buckets_c14 : ACode := .loop [1, 3, 4] escheatref19_Buckets_c13
def escheatref19_Buckets_c15 : ACode := .block 0 escheatref19_Buckets_c14
def escheatref19_Buckets_c16 : ACode := .seq [1, 3, 4] escheatref19_Buckets_c2 escheatref19_Buckets_c15
def escheatref19_Buckets_o7 : List AOper := [{ dst := some 33, op := .mv (.t 3) }, { dst := some 2, op := .mv (.t 33) }]
def escheatref19_Buckets_c17 : ACode := .ops escheatref19_Buckets_o7
def escheatref19_Buckets_c18 : ACode := .seq [2] escheatref19_Buckets_c17 .ret
def escheatref19_Buckets_c19 : ACode := .seq [3] escheatref19_Buckets_c16 escheatref19_Buckets_c18
def escheatref19_Buckets_c20 : ACode := .seq [1, 3] escheatref19_Buckets_c1 escheatref19_Buckets_c19
def escheatref19_Buckets_c21 : ACode := .seq [1] escheatref19_Buckets_c0 escheatref19_Buckets_c20
def A_escheatref19_Buckets : AFn := ⟨escheatref19_Buckets_c21, [.tmp 2]⟩
noncomputable def E_escheatref19_Buckets : Sums := disp 126 S_escheatref19_Deep (disp 189 S_escheatref19_Pow (disp 133 S_escheatref09_In disp0))
noncomputable def escheatref19_Buckets_c0_d (n : Nat) : SmV := smOps E_escheatref19_Buckets escheatref19_Buckets_o0
noncomputable def escheatref19_Buckets_c1_d (n : Nat) : SmV := smOps E_escheatref19_Buckets escheatref19_Buckets_o1
noncomputable def escheatref19_Buckets_c2_d (n : Nat) : SmV := smOps E_escheatref19_Buckets escheatref19_Buckets_o2
noncomputable def escheatref19_Buckets_c3_d (n : Nat) : SmV := smOps E_escheatref19_Buckets escheatref19_Buckets_o3
noncomputable def escheatref19_Buckets_c4_d (n : Nat) : SmV := smCond (.t 9) smSkip (smExit 0)
noncomputable def escheatref19_Buckets_c5_d (n : Nat) : SmV := smSeq [1, 3, 4, 9] (escheatref19_Buckets_c3_d n) (escheatref19_Buckets_c4_d n)
noncomputable def escheatref19_Buckets_c6_d (n : Nat) : SmV := smOps E_escheatref19_Buckets escheatref19_Buckets_o4
noncomputable def escheatref19_Buckets_c7_d (n : Nat) : SmV := smOps E_escheatref19_Buckets escheatref19_Buckets_o5
noncomputable def escheatref19_Buckets_c8_d (n : Nat) : SmV := smCond (.t 25) (escheatref19_Buckets_c7_d n) smSkip
noncomputable def escheatref19_Buckets_c9_d (n : Nat) : SmV := smSeq [1, 3, 4, 25] (escheatref19_Buckets_c6_d n) (escheatref19_Buckets_c8_d n)
noncomputable def escheatref19_Buckets_c10_d (n : Nat) : SmV := smBlock 1 (escheatref19_Buckets_c9_d n)
noncomputable def escheatref19_Buckets_c11_d (n : Nat) : SmV := smOps E_escheatref19_Buckets escheatref19_Buckets_o6
noncomputable def escheatref19_Buckets_c12_d (n : Nat) : SmV := smSeq [1, 3, 4] (escheatref19_Buckets_c10_d n) (escheatref19_Buckets_c11_d n)
noncomputable def escheatref19_Buckets_c13_d (n : Nat) : SmV := smSeq [1, 3, 4] (escheatref19_Buckets_c5_d n) (escheatref19_Buckets_c12_d n)
noncomputable def escheatref19_Buckets_c14_d (n : Nat) : SmV := smLoop n [1, 3, 4] (escheatref19_Buckets_c13_d n)
noncomputable def escheatref19_Buckets_c15_d (n : Nat) : SmV := smBlock 0 (escheatref19_Buckets_c14_d n)
noncomputable def escheatref19_Buckets_c16_d (n : Nat) : SmV := smSeq [1, 3, 4] (escheatref19_Buckets_c2_d n) (escheatref19_Buckets_c15_d n)
noncomputable def escheatref19_Buckets_c17_d (n : Nat) : SmV := smOps E_escheatref19_Buckets escheatref19_Buckets_o7
noncomputable def escheatref19_Buckets_c18_d (n : Nat) : SmV := smSeq [2] (escheatref19_Buckets_c17_d n) smRet
noncomputable def escheatref19_Buckets_c19_d (n : Nat) : SmV := smSeq [3] (escheatref19_Buckets_c16_d n) (escheatref19_Buckets_c18_d n)
noncomputable def escheatref19_Buckets_c20_d (n : Nat) : SmV := smSeq [1, 3] (escheatref19_Buckets_c1_d n) (escheatref19_Buckets_c19_d n)
noncomputable def escheatref19_Buckets_c21_d (n : Nat) : SmV := smSeq [1] (escheatref19_Buckets_c0_d n) (escheatref19_Buckets_c20_d n)
noncomputable def escheatref19_Buckets_k0 (n : Nat) : AExit → Env → Heap → OptV := fun x e h => match x with | .normal => hold ((escheatref19_Buckets_c18_d n) A_escheatref19_Buckets.fin (e.keep [3]) h) | .exit id => A_escheatref19_Buckets.fin (.exit id) e h | .ret => A_escheatref19_Buckets.fin .ret e h
noncomputable def escheatref19_Buckets_k1 (n : Nat) : AExit → Env → Heap → OptV := fun x e h => match x with | .exit i => bif Nat.beq i 0 then (escheatref19_Buckets_k0 n) .normal e h else (escheatref19_Buckets_k0 n) (.exit i) e h | .normal => (escheatref19_Buckets_k0 n) .normal e h | .ret => (escheatref19_Buckets_k0 n) .ret e h
noncomputable def escheatref19_Buckets_l0 (n m : Nat) (x1 x3 x4 : Val) (h : Heap) : OptV := around (escheatref19_Buckets_c13_d n) [1, 3, 4] (escheatref19_Buckets_k1 n) m [(1, x1), (3, x3), (4, x4)] h
noncomputable def R_escheatref19_Buckets (n : Nat) (args : List Val) (h : Heap) : OptV := (escheatref19_Buckets_c21_d n) A_escheatref19_Buckets.fin (params 0 args) h
noncomputable def escheatref19_Buckets_k2 (n m : Nat) : AExit → Env → Heap → OptV := fun x e h => match x with | .normal => around (escheatref19_Buckets_c13_d n) [1, 3, 4] (escheatref19_Buckets_k1 n) m (e.keep [1, 3, 4]) h | .exit id => (escheatref19_Buckets_k1 n) (.exit id) e h | .ret => (escheatref19_Buckets_k1 n) .ret e h
noncomputable def escheatref19_Buckets_j0 (n m : Nat) (x1 x3 x4 : Val) (h : Heap) : OptV := hold ((escheatref19_Buckets_c11_d n) (escheatref19_Buckets_k2 n m) [(1, x1), (3, x3), (4, x4)] h)
theorem R_escheatref19_Buckets_eq (n : Nat) (a0 : Val) (h : Heap) : R_escheatref19_Buckets n [a0] h = bnd (cells? a0) fun c1 => escheatref19_Buckets_l0 n n ((.c (.p h.length 0))) ((.c (.sl (((h ++ [some (Row.mk (c1) true)]) ++ [some (Row.mk ([]) true)])).length 0 0 1))) (.c (.i .i64 0)) ((((h ++ [some (Row.mk (c1) true)]) ++ [some (Row.mk ([]) true)]) ++ [some (Row.mk ([]) true)])) := by kernel_rfl
theorem escheatref19_Buckets_l0_eq (n m : Nat) (x1 x3 x4 : Val) (h : Heap) : escheatref19_Buckets_l0 n (m + 1) x1 x3 x4 h = bnd (aloadN h 33 x1) fun v2 => bnd (S_escheatref19_Deep [v2] h) fun p3 => bnd (S_escheatref19_Pow [p3.1] p3.2) fun p4 => bnd (abin .lss x4 p4.1) fun v5 => cnd v5 (bnd (afAddr x1 1) fun v6 => bnd (aiAddrA 32 1 v6 x4) fun v7 => bnd (aload1 p4.2 v7) fun v8 => bnd (abin .neq v8 (.c (.i .i64 0))) fun v9 => bnd (gd v9 true (some (x3, p4.2)) (some (.no, p4.2))) fun p10 => bnd (gd v9 true (some (x4, p10.2)) (some (.no, p10.2))) fun p11 => bnd (gd v9 true (bnd (afAddr x1 1) fun v12 => some (v12, p11.2)) (some (.no, p11.2))) fun p13 => bnd (gd v9 true (bnd (aiAddrA 32 1 p13.1 p11.1) fun v14 => some (v14, p13.2)) (some (.no, p13.2))) fun p15 => bnd (gd v9 true (bnd (aload1 p15.2 p15.1) fun v16 => some (v16, p15.2)) (some (.no, p15.2))) fun p17 => bnd (gd v9 true (bnd (S_escheatref09_In [p10.1, p17.1] p17.2) fun p18 => some (p18.1, p18.2)) (some (.no, p17.2))) fun p19 => bnd (gd v9 true (bnd (aun .not p19.1) fun v20 => some (v20, p19.2)) (some (.no, p19.2))) fun p21 => bnd (apick v9 p21.1 (.c (.b false))) fun v22 => cnd v22 (bnd (afAddr x1 1) fun v23 => bnd (aiAddrA 32 1 v23 x4) fun v24 => bnd (aload1 p21.2 v24) fun v25 => bnd (afill ([.i .i64 0]) [(0, 1, v25)]) fun c26 => bnd (aapp ((p21.2 ++ [some (Row.mk (c26) true)])) 1 x3 ((.c (.sl p21.2.length 0 1 1)))) fun p27 => escheatref19_Buckets_j0 n m x1 p27.1 x4 p27.2) (escheatref19_Buckets_j0 n m x1 x3 x4 p21.2)) (some (x3, p4.2)) := by kernel_rfl
theorem escheatref19_Buckets_j0_eq (n m : Nat) (x1 x3 x4 : Val) (h : Heap) : escheatref19_Buckets_j0 n m x1 x3 x4 h = bnd (abin .add x4 (.c (.i .i64 1))) fun v28 => escheatref19_Buckets_l0 n m x1 x3 v28 h := by kernel_rfl
theorem K_escheatref19_Buckets : FnK Try.prog 132 A_escheatref19_Buckets E_escheatref19_Buckets R_escheatref19_Buckets := .mk' (sound1 S_escheatref19_Deep_ok (sound1 S_escheatref19_Pow_ok (sound1 S_escheatref09_In_ok sound0))) Try.func132 (by kernel_rfl) (by intro n args h; kernel_rfl)
noncomputable def S_escheatref19_Buckets : Fun := tidy (Lim A_escheatref19_Buckets E_escheatref19_Buckets)
theorem S_escheatref19_Buckets_ok : SOk Try.prog 132 S_escheatref19_Buckets := K_escheatref19_Buckets.sok
theorem S_escheatref19_Buckets_low {n : Nat} {args : List Val} {h h2 : Heap} {v : Val} (he : R_escheatref19_Buckets n args (ro h) = some (v, h2)) (hf : v.low h.length = true) : S_escheatref19_Buckets args h = some (v, h) := K_escheatref19_Buckets.low he hf
theorem S_escheatref19_Buckets_out {n : Nat} {args : List Val} {h h2 : Heap} {v : Val} {sz k : Nat} {cs : List Cell} (he : R_escheatref19_Buckets n args (ro h) = some (v, h2)) (ho : Out h.length h2 v sz k cs) (hf : flats cs = true) : S_escheatref19_Buckets args h = some (.c (.sl h.length 0 k sz), h ++ [some ⟨cs, true⟩]) := K_escheatref19_Buckets.out he ho hf
def escheatref19_Fine_o0 : List AOper := [{ dst := some 2, op := .mv (.v (.c (.b false))) }]
def escheatref19_Fine_c0 : ACode := .ops escheatref19_Fine_o0
def escheatref19_Fine_o1 : List AOper := [{ dst := some 3, op := .mv (.t 0) }, { dst := some 4, op := .bin .geq (.t 3) (.v (.c (.i .i64 0))) }, { dst := some 5, op := .mv (.t 4) }, { dst := some 6, op := .mv (.t 0), guard := some (5, true) }, { dst := some 7, op := .bin .leq (.t 6) (.v (.c (.i .i64 65535))), guard := some (5, true) }, { dst := some 8, op := .pick (.t 5) (.t 7) (.v (.c (.b false))) }, { dst := some 2, op := .mv (.t 8) }]
def escheatref19_Fine_c1 : ACode := .ops escheatref19_Fine_o1
def escheatref19_Fine_c2 : ACode := .seq [2] escheatref19_Fine_c1 .ret
def escheatref19_Fine_c3 : ACode := .seq [0] escheatref19_Fine_c0 escheatref19_Fine_c2
def A_escheatref19_Fine : AFn := ⟨escheatref19_Fine_c3, [.tmp 2]⟩
noncomputable def E_escheatref19_Fine : Sums := disp0
noncomputable def escheatref19_Fine_c0_d (n : Nat) : SmV := smOps E_escheatref19_Fine escheatref19_Fine_o0
noncomputable def escheatref19_Fine_c1_d (n : Nat) : SmV := smOps E_escheatref19_Fine escheatref19_Fine_o1
noncomputable def escheatref19_Fine_c2_d (n : Nat) : SmV := smSeq [2] (escheatref19_Fine_c1_d n) smRet
noncomputable def escheatref19_Fine_c3_d (n : Nat) : SmV := smSeq [0] (escheatref19_Fine_c0_d n) (escheatref19_Fine_c2_d n)
noncomputable def R_escheatref19_Fine (n : Nat) (args : List Val) (h : Heap) : OptV := (escheatref19_Fine_c3_d n) A_escheatref19_Fine.fin (params 0 args) h
theorem R_escheatref19_Fine_eq (n : Nat) (a0 : Val) (h : Heap) : R_escheatref19_Fine n [a0] h = bnd (abin .geq a0 (.c (.i .i64 0))) fun v1 => bnd (gd v1 true (some (a0, h)) (some (.no, h))) fun p2 => bnd (gd v1 true (bnd (abin .leq p2.1 (.c (.i .i64 65535))) fun v3 => some (v3, p2.2)) (some (.no, p2.2))) fun p4 => bnd (apick v1 p4.1 (.c (.b false))) fun v5 => some (v5, p4.2) := by kernel_rfl
theorem K_escheatref19_Fine : FnK Try.prog 191 A_escheatref19_Fine E_escheatref19_Fine R_escheatref19_Fine := .mk' (sound0) Try.func191 (by kernel_rfl) (by intro n args h; kernel_rfl)
noncomputable def S_escheatref19_Fine : Fun := tidy (Lim A_escheatref19_Fine E_escheatref19_Fine)
theorem S_escheatref19_Fine_ok : SOk Try.prog 191 S_escheatref19_Fine := K_escheatref19_Fine.sok
theorem S_escheatref19_Fine_flat {n : Nat} {args : List Val} {h h2 : Heap} {v : Val} (he : R_escheatref19_Fine n args (ro h) = some (v, h2)) (hf : v.flat = true) : S_escheatref19_Fine args h = some (v, h) := K_escheatref19_Fine.flat he hf
def escheatref19_Put_o0 : List AOper := [{ dst := some 1, op := .box (.t 0) }, { dst := some 2, op := .nilrow 1 }, { dst := some 3, op := .mv (.v (.c (.b false))) }]
def escheatref19_Put_c0 : ACode := .ops escheatref19_Put_o0
def escheatref19_Put_o1 : List AOper := [{ dst := some 6, op := .fAddr (.t 1) 0 }, { dst := some 7, op := .load1 (.t 6) }, { dst := some 8, op := .bin .lss (.t 7) (.v (.c (.i .i64 0))) }, { dst := some 9, op := .mv (.t 8) }, { dst := some 10, op := .fAddr (.t 1) 0, guard := some (9, false) }, { dst := some 11, op := .load1 (.t 10), guard := some (9, false) }, { dst := some 12, op := .bin .gtr (.t 11) (.v (.c (.i .i64 5))), guard := some (9, false) }, { dst := some 13, op := .pick (.t 9) (.v (.c (.b true))) (.t 12) }]
def escheatref19_Put_c1 : ACode := .ops escheatref19_Put_o1
def escheatref19_Put_o2 : List AOper := [{ dst := some 2, op := .nilrow 1 }, { dst := some 3, op := .mv (.v (.c (.b false))) }]
def escheatref19_Put_c2 : ACode := .ops escheatref19_Put_o2
def escheatref19_Put_c3 : ACode := .seq [2, 3] escheatref19_Put_c2 .ret
def escheatref19_Put_c4 : ACode := .cond (.t 13) escheatref19_Put_c3 .skip
def escheatref19_Put_c5 : ACode := .seq [1, 13] escheatref19_Put_c1 escheatref19_Put_c4
def escheatref19_Put_o3 : List AOper := [{ dst := some 14, op := .buildSl 1 4 ([.i .u8 0, .i .u8 0, .i .u8 0, .i .u8 0]) [(0, 1, (.v (.c (.i .u8 105)))), (1, 1, (.v (.c (.i .u8 100)))), (2, 1, (.v (.c (.i .u8 120)))), (3, 1, (.v (.c (.i .u8 33))))] }, { dst := some 15, op := .mark (.t 14) }, { dst := some 16, op := .fAddr (.t 1) 0 }, { dst := some 17, op := .load1 (.t 16) }, { dst := some 18, op := .conv .u8 (.t 17) }, { dst := some 19, op := .buildSl 1 1 ([.i .u8 0]) [(0, 1, (.t 18))] }, { dst := some 20, op := .app 1 (.t 15) (.t 19) }, { dst := some 4, op := .mv (.t 20) }]
def escheatref19_Put_c6 : ACode := .ops escheatref19_Put_o3
def escheatref19_Put_o4 : List AOper := [{ dst := some 21, op := .mv (.t 4) }, { dst := some 22, op := .appZ 1 ([.i .u8 0]) (.t 21) (.v (.c (.i .i64 27))) }, { dst := some 4, op := .mv (.t 22) }]
def escheatref19_Put_c7 : ACode := .ops escheatref19_Put_o4
def escheatref19_Put_o5 : List AOper := [{ dst := some 5, op := .mv (.v (.c (.i .i64 0))) }]
def escheatref19_Put_c8 : ACode := .ops escheatref19_Put_o5
def escheatref19_Put_o6 : List AOper := [{ dst := some 23, op := .mv (.t 5) }, { dst := some 24, op := .bin .lss (.t 23) (.v (.c (.i .i64 32))) }]
def escheatref19_Put_c9 : ACode := .ops escheatref19_Put_o6
def escheatref19_Put_c10 : ACode := .cond (.t 24) .skip (.exit 0)
def escheatref19_Put_c11 : ACode := .seq [1, 4, 5, 24] escheatref19_Put_c9 escheatref19_Put_c10
def escheatref19_Put_o7 : List AOper := [{ dst := some 27, op := .mv (.t 5) }, { dst := some 28, op := .fAddr (.t 1) 1 }, { dst := some 29, op := .iAddrA 32 1 (.t 28) (.t 27) }, { dst := some 30, op := .load1 (.t 29) }, { dst := some 31, op := .call 191 [(.t 30)] }, { dst := some 32, op := .un .not (.t 31) }]
def escheatref19_Put_c12 : ACode := .ops escheatref19_Put_o7
def escheatref19_Put_o8 : List AOper := [{ dst := some 2, op := .nilrow 1 }, { dst := some 3, op := .mv (.v (.c (.b false))) }]
def escheatref19_Put_c13 : ACode := .ops escheatref19_Put_o8
def escheatref19_Put_c14 : ACode := .seq [2, 3] escheatref19_Put_c13 .ret
def escheatref19_Put_c15 : ACode := .cond (.t 32) escheatref19_Put_c14 .skip
def escheatref19_Put_c16 : ACode := .seq [1, 4, 5, 32] escheatref19_Put_c12 escheatref19_Put_c15
def escheatref19_Put_o9 : List AOper := [{ dst := some 33, op := .mv (.t 4) }, { dst := some 34, op := .mv (.t 5) }, { dst := some 35, op := .fAddr (.t 1) 1 }, { dst := some 36, op := .iAddrA 32 1 (.t 35) (.t 34) }, { dst := some 37, op := .load1 (.t 36) }, { dst := some 38, op := .conv .u64 (.t 37) }, { dst := some 39, op := .call 106 [(.v (.c (.i .i64 2))), (.t 38)] }, { dst := some 40, op := .app 1 (.t 33) (.t 39) }, { dst := some 4, op := .mv (.t 40) }]
def escheatref19_Put_c17 : ACode := .ops escheatref19_Put_o9
def escheatref19_Put_c18 : ACode := .seq [1, 4, 5] escheatref19_Put_c16 escheatref19_Put_c17
def escheatref19_Put_c19 : ACode := .block 1 escheatref19_Put_c18
def escheatref19_Put_o10 : List AOper := [{ dst := some 25, op := .mv (.t 5) }, { dst := some 26, op := .bin .add (.t 25) (.v (.c (.i .i64 1))) }, { dst := some 5, op := .mv (.t 26) }]
def escheatref19_Put_c20 : ACode := .ops escheatref19_Put_o10
def escheatref19_Put_c21 : ACode := .seq [1, 4, 5] escheatref19_Put_c19 escheatref19_Put_c20
def escheatref19_Put_c22 : ACode := .seq [1, 4, 5] escheatref19_Put_c11 escheatref19_Put_c21
def escheatref19_Put_c23 : ACode := .loop [1, 4, 5] escheatref19_Put_c22
def escheatref19_Put_c24 : ACode := .block 0 escheatref19_Put_c23
def escheatref19_Put_c25 : ACode := .seq [1, 4, 5] escheatref19_Put_c8 escheatref19_Put_c24
def escheatref19_Put_o11 : List AOper := [{ dst := some 41, op := .mkSl 1 ([.i .u8 0]) (.v (.c (.i .i64 256))) (.v (.c (.i .i64 256))) }, { dst := some 42, op := .mv (.t 4) }, { dst := some 43, op := .call 86 [(.t 41), (.v (.c (.i .i64 0))), (.t 42)] }, { dst := some 2, op := .mv (.t 43) }, { dst := some 3, op := .mv (.v (.c (.b true))) }]
def escheatref19_Put_c26 : ACode := .ops escheatref19_Put_o11
def escheatref19_Put_c27 : ACode := .seq [2, 3] escheatref19_Put_c26 .ret
def escheatref19_Put_c28 : ACode := .seq [4] escheatref19_Put_c25 escheatref19_Put_c27
def escheatref19_Put_c29 : ACode := .seq [1, 4] escheatref19_Put_c7 escheatref19_Put_c28
def escheatref19_Put_c30 : ACode := .seq [1, 4] escheatref19_Put_c6 escheatref19_Put_c29
def escheatref19_Put_c31 : ACode := .seq [1] escheatref19_Put_c5 escheatref19_Put_c30
def escheatref19_Put_c32 : ACode := .seq [1] escheatref19_Put_c0 escheatref19_Put_c31
def A_escheatref19_Put : AFn := ⟨escheatref19_Put_c32, [.tmp 2, .tmp 3]⟩
noncomputable def E_escheatref19_Put : Sums := disp 191 S_escheatref19_Fine (disp 106 S_escheatref01_Bytes (disp 86 S_escheatref01_Lay disp0))
noncomputable def escheatref19_Put_c0_d (n : Nat) : SmV := smOps E_escheatref19_Put escheatref19_Put_o0
noncomputable def escheatref19_Put_c1_d (n : Nat) : SmV := smOps E_escheatref19_Put escheatref19_Put_o1
noncomputable def escheatref19_Put_c2_d (n : Nat) : SmV := smOps E_escheatref19_Put escheatref19_Put_o2
noncomputable def escheatref19_Put_c3_d (n : Nat) : SmV := smSeq [2, 3] (escheatref19_Put_c2_d n) smRet
noncomputable def escheatref19_Put_c4_d (n : Nat) : SmV := smCond (.t 13) (escheatref19_Put_c3_d n) smSkip
noncomputable def escheatref19_Put_c5_d (n : Nat) : SmV := smSeq [1, 13] (escheatref19_Put_c1_d n) (escheatref19_Put_c4_d n)
noncomputable def escheatref19_Put_c6_d (n : Nat) : SmV := smOps E_escheatref19_Put escheatref19_Put_o3
noncomputable def escheatref19_Put_c7_d (n : Nat) : SmV := smOps E_escheatref19_Put escheatref19_Put_o4
noncomputable def escheatref19_Put_c8_d (n : Nat) : SmV := smOps E_escheatref19_Put escheatref19_Put_o5
noncomputable def escheatref19_Put_c9_d (n : Nat) : SmV := smOps E_escheatref19_Put escheatref19_Put_o6
noncomputable def escheatref19_Put_c10_d (n : Nat) : SmV := smCond (.t 24) smSkip (smExit 0)
noncomputable def escheatref19_Put_c11_d (n : Nat) : SmV := smSeq [1, 4, 5, 24] (escheatref19_Put_c9_d n) (escheatref19_Put_c10_d n)
noncomputable def escheatref19_Put_c12_d (n : Nat) : SmV := smOps E_escheatref19_Put escheatref19_Put_o7
noncomputable def escheatref19_Put_c13_d (n : Nat) : SmV := smOps E_escheatref19_Put escheatref19_Put_o8
noncomputable def escheatref19_Put_c14_d (n : Nat) : SmV := smSeq [2, 3] (escheatref19_Put_c13_d n) smRet
noncomputable def escheatref19_Put_c15_d (n : Nat) : SmV := smCond (.t 32) (escheatref19_Put_c14_d n) smSkip
noncomputable def escheatref19_Put_c16_d (n : Nat) : SmV := smSeq [1, 4, 5, 32] (escheatref19_Put_c12_d n) (escheatref19_Put_c15_d n)
noncomputable def escheatref19_Put_c17_d (n : Nat) : SmV := smOps E_escheatref19_Put escheatref19_Put_o9
noncomputable def escheatref19_Put_c18_d (n : Nat) : SmV := smSeq [1, 4, 5] (escheatref19_Put_c16_d n) (escheatref19_Put_c17_d n)
noncomputable def escheatref19_Put_c19_d (n : Nat) : SmV := smBlock 1 (escheatref19_Put_c18_d n)
noncomputable def escheatref19_Put_c20_d (n : Nat) : SmV := smOps E_escheatref19_Put escheatref19_Put_o10
noncomputable def escheatref19_Put_c21_d (n : Nat) : SmV := smSeq [1, 4, 5] (escheatref19_Put_c19_d n) (escheatref19_Put_c20_d n)
noncomputable def escheatref19_Put_c22_d (n : Nat) : SmV := smSeq [1, 4, 5] (escheatref19_Put_c11_d n) (escheatref19_Put_c21_d n)
noncomputable def escheatref19_Put_c23_d (n : Nat) : SmV := smLoop n [1, 4, 5] (escheatref19_Put_c22_d n)
noncomputable def escheatref19_Put_c24_d (n : Nat) : SmV := smBlock 0 (escheatref19_Put_c23_d n)
noncomputable def escheatref19_Put_c25_d (n : Nat) : SmV := smSeq [1, 4, 5] (escheatref19_Put_c8_d n) (escheatref19_Put_c24_d n)
noncomputable def escheatref19_Put_c26_d (n : Nat) : SmV := smOps E_escheatref19_Put escheatref19_Put_o11
noncomputable def escheatref19_Put_c27_d (n : Nat) : SmV := smSeq [2, 3] (escheatref19_Put_c26_d n) smRet
noncomputable def escheatref19_Put_c28_d (n : Nat) : SmV := smSeq [4] (escheatref19_Put_c25_d n) (escheatref19_Put_c27_d n)
noncomputable def escheatref19_Put_c29_d (n : Nat) : SmV := smSeq [1, 4] (escheatref19_Put_c7_d n) (escheatref19_Put_c28_d n)
noncomputable def escheatref19_Put_c30_d (n : Nat) : SmV := smSeq [1, 4] (escheatref19_Put_c6_d n) (escheatref19_Put_c29_d n)
noncomputable def escheatref19_Put_c31_d (n : Nat) : SmV := smSeq [1] (escheatref19_Put_c5_d n) (escheatref19_Put_c30_d n)
noncomputable def escheatref19_Put_c32_d (n : Nat) : SmV := smSeq [1] (escheatref19_Put_c0_d n) (escheatref19_Put_c31_d n)
noncomputable def escheatref19_Put_k0 (n : Nat) : AExit → Env → Heap → OptV := fun x e h => match x with | .normal => hold ((escheatref19_Put_c27_d n) A_escheatref19_Put.fin (e.keep [4]) h) | .exit id => A_escheatref19_Put.fin (.exit id) e h | .ret => A_escheatref19_Put.fin .ret e h
noncomputable def escheatref19_Put_k1 (n : Nat) : AExit → Env → Heap → OptV := fun x e h => match x with | .exit i => bif Nat.beq i 0 then (escheatref19_Put_k0 n) .normal e h else (escheatref19_Put_k0 n) (.exit i) e h | .normal => (escheatref19_Put_k0 n) .normal e h | .ret => (escheatref19_Put_k0 n) .ret e h
noncomputable def escheatref19_Put_l0 (n m : Nat) (x1 x4 x5 : Val) (h : Heap) : OptV := around (escheatref19_Put_c22_d n) [1, 4, 5] (escheatref19_Put_k1 n) m [(1, x1), (4, x4), (5, x5)] h
noncomputable def R_escheatref19_Put (n : Nat) (args : List Val) (h : Heap) : OptV := (escheatref19_Put_c32_d n) A_escheatref19_Put.fin (params 0 args) h
theorem R_escheatref19_Put_eq (n : Nat) (a0 : Val) (h : Heap) : R_escheatref19_Put n [a0] h = bnd (cells? a0) fun c1 => bnd (afAddr ((.c (.p h.length 0))) 0) fun v2 => bnd (aload1 (((h ++ [some (Row.mk (c1) true)]) ++ [some (Row.mk ([]) true)])) v2) fun v3 => bnd (abin .lss v3 (.c (.i .i64 0))) fun v4 => bnd (gd v4 false (bnd (afAddr ((.c (.p h.length 0))) 0) fun v5 => some (v5, ((h ++ [some (Row.mk (c1) true)]) ++ [some (Row.mk ([]) true)]))) (some (.no, ((h ++ [some (Row.mk (c1) true)]) ++ [some (Row.mk ([]) true)])))) fun p6 => bnd (gd v4 false (bnd (aload1 p6.2 p6.1) fun v7 => some (v7, p6.2)) (some (.no, p6.2))) fun p8 => bnd (gd v4 false (bnd (abin .gtr p8.1 (.c (.i .i64 5))) fun v9 => some (v9, p8.2)) (some (.no, p8.2))) fun p10 => bnd (apick v4 (.c (.b true)) p10.1) fun v11 => cnd v11 (tupN [some ((.c (.sl p10.2.length 0 0 1))), some (.c (.b false))] ((p10.2 ++ [some (Row.mk ([]) true)]))) (bnd (afill ([.i .u8 0, .i .u8 0, .i .u8 0, .i .u8 0]) [(0, 1, .c (.i .u8 105)), (1, 1, .c (.i .u8 100)), (2, 1, .c (.i .u8 120)), (3, 1, .c (.i .u8 33))]) fun c12 => bnd (amark ((p10.2 ++ [some (Row.mk (c12) true)])) ((.c (.sl p10.2.length 0 4 1)))) fun v13 => bnd (afAddr ((.c (.p h.length 0))) 0) fun v14 => bnd (aload1 ((p10.2 ++ [some (Row.mk (c12) true)])) v14) fun v15 => bnd (aconv .u8 v15) fun v16 => bnd (afill ([.i .u8 0]) [(0, 1, v16)]) fun c17 => bnd (aapp (((p10.2 ++ [some (Row.mk (c12) true)]) ++ [some (Row.mk (c17) true)])) 1 v13 ((.c (.sl ((p10.2 ++ [some (Row.mk (c12) true)])).length 0 1 1)))) fun p18 => bnd (aappZ p18.2 1 ([.i .u8 0]) p18.1 (.c (.i .i64 27))) fun p19 => escheatref19_Put_l0 n n ((.c (.p h.length 0))) p19.1 (.c (.i .i64 0)) p19.2) := by kernel_rfl
theorem escheatref19_Put_l0_eq (n m : Nat) (x1 x4 x5 : Val) (h : Heap) : escheatref19_Put_l0 n (m + 1) x1 x4 x5 h = bnd (abin .lss x5 (.c (.i .i64 32))) fun v20 => cnd v20 (bnd (afAddr x1 1) fun v21 => bnd (aiAddrA 32 1 v21 x5) fun v22 => bnd (aload1 h v22) fun v23 => bnd (S_escheatref19_Fine [v23] h) fun p24 => bnd (aun .not p24.1) fun v25 => cnd v25 (tupN [some ((.c (.sl p24.2.length 0 0 1))), some (.c (.b false))] ((p24.2 ++ [some (Row.mk ([]) true)]))) (bnd (afAddr x1 1) fun v26 => bnd (aiAddrA 32 1 v26 x5) fun v27 => bnd (aload1 p24.2 v27) fun v28 => bnd (aconv .u64 v28) fun v29 => bnd (S_escheatref01_Bytes [.c (.i .i64 2), v29] p24.2) fun p30 => bnd (aapp p30.2 1 x4 p30.1) fun p31 => bnd (abin .add x5 (.c (.i .i64 1))) fun v32 => escheatref19_Put_l0 n m x1 p31.1 v32 p31.2)) (bnd (amkn (.c (.i .i64 256)) (.c (.i .i64 256))) fun n33 => bnd (S_escheatref01_Lay [(.c (.sl h.length 0 n33 1)), .c (.i .i64 0), x4] ((h ++ [some (Row.mk (rows ([.i .u8 0]) n33) true)]))) fun p34 => tupN [some p34.1, some (.c (.b true))] p34.2) := by kernel_rfl
theorem K_escheatref19_Put : FnK Try.prog 141 A_escheatref19_Put E_escheatref19_Put R_escheatref19_Put := .mk' (sound1 S_escheatref19_Fine_ok (sound1 S_escheatref01_Bytes_ok (sound1 S_escheatref01_Lay_ok sound0))) Try.func141 (by kernel_rfl) (by intro n args h; kernel_rfl)
noncomputable def S_escheatref19_Put : Fun := tidy (Lim A_escheatref19_Put E_escheatref19_Put)
theorem S_escheatref19_Put_ok : SOk Try.prog 141 S_escheatref19_Put := K_escheatref19_Put.sok
theorem S_escheatref19_Put_flat {n : Nat} {args : List Val} {h h2 : Heap} {v : Val} (he : R_escheatref19_Put n args (ro h) = some (v, h2)) (hf : v.flat = true) : S_escheatref19_Put args h = some (v, h) := K_escheatref19_Put.flat he hf
theorem S_escheatref19_Put_low {n : Nat} {args : List Val} {h h2 : Heap} {v : Val} (he : R_escheatref19_Put n args (ro h) = some (v, h2)) (hf : v.low h.length = true) : S_escheatref19_Put args h = some (v, h) := K_escheatref19_Put.low he hf
theorem S_escheatref19_Put_out2 {n : Nat} {args : List Val} {h h2 : Heap} {i : Nat} {c : Cell} {sz k : Nat} {cs : List Cell} (he : R_escheatref19_Put n args (ro h) = some (.t [.c (.sl i 0 k sz), .c c], h2)) (ho : Out h.length h2 (.c (.sl i 0 k sz)) sz k cs) (hf : flats cs = true) (hc : c.flat = true) : S_escheatref19_Put args h = some (.t [.c (.sl h.length 0 k sz), .c c], h ++ [some ⟨cs, true⟩]) := K_escheatref19_Put.out2 he ho hf hc
theorem S_escheatref19_Put_tidy {n : Nat} {args : List Val} {h h2 : Heap} {v : Val} {v2 : Val} {ids : List Nat} (he : R_escheatref19_Put n args (ro h) = some (v, h2)) (hc : canonV h2 h.length v = some (v2, ids)) : S_escheatref19_Put args h = some (v2, h ++ ids.map (rd h2)) := K_escheatref19_Put.tidy he hc
def escheatref19_Class_o0 : List AOper := [{ dst := some 2, op := .box (.t 0) }, { dst := some 4, op := .mv (.v (.c (.i .i64 0))) }, { dst := some 5, op := .mv (.v (.c (.b false))) }]
def escheatref19_Class_c0 : ACode := .ops escheatref19_Class_o0
def escheatref19_Class_o1 : List AOper := [{ dst := some 6, op := .mv (.v (.c (.i .i64 (-1)))) }]
def escheatref19_Class_c1 : ACode := .ops escheatref19_Class_o1
def escheatref19_Class_o2 : List AOper := [{ dst := some 7, op := .mv (.v (.c (.i .i64 0))) }]
def escheatref19_Class_c2 : ACode := .ops escheatref19_Class_o2
def escheatref19_Class_o3 : List AOper := [{ dst := some 11, op := .mv (.t 7) }, { dst := some 12, op := .loadN 33 (.t 2) }, { dst := some 13, op := .call 126 [(.t 12)] }, { dst := some 14, op := .call 189 [(.t 13)] }, { dst := some 15, op := .bin .lss (.t 11) (.t 14) }]
def escheatref19_Class_c3 : ACode := .ops escheatref19_Class_o3
def escheatref19_Class_c4 : ACode := .cond (.t 15) .skip (.exit 0)
def escheatref19_Class_c5 : ACode := .seq [1, 2, 6, 7, 15] escheatref19_Class_c3 escheatref19_Class_c4
def escheatref19_Class_o4 : List AOper := [{ dst := some 18, op := .mv (.t 7) }, { dst := some 19, op := .fAddr (.t 2) 1 }, { dst := some 20, op := .iAddrA 32 1 (.t 19) (.t 18) }, { dst := some 21, op := .load1 (.t 20) }, { dst := some 22, op := .mv (.t 1) }, { dst := some 23, op := .bin .eql (.t 21) (.t 22) }, { dst := some 24, op := .mv (.t 23) }, { dst := some 25, op := .mv (.t 6), guard := some (24, true) }, { dst := some 26, op := .bin .lss (.t 25) (.v (.c (.i .i64 0))), guard := some (24, true) }, { dst := some 27, op := .pick (.t 24) (.t 26) (.v (.c (.b false))) }]
def escheatref19_Class_c6 : ACode := .ops escheatref19_Class_o4
def escheatref19_Class_o5 : List AOper := [{ dst := some 28, op := .mv (.t 7) }, { dst := some 6, op := .mv (.t 28) }]
def escheatref19_Class_c7 : ACode := .ops escheatref19_Class_o5
def escheatref19_Class_c8 : ACode := .cond (.t 27) escheatref19_Class_c7 .skip
def escheatref19_Class_c9 : ACode := .seq [1, 2, 6, 7, 27] escheatref19_Class_c6 escheatref19_Class_c8
def escheatref19_Class_c10 : ACode := .block 1 escheatref19_Class_c9
def escheatref19_Class_o6 : List AOper := [{ dst := some 16, op := .mv (.t 7) }, { dst := some 17, op := .bin .add (.t 16) (.v (.c (.i .i64 1))) }, { dst := some 7, op := .mv (.t 17) }]
def escheatref19_Class_c11 : ACode := .ops escheatref19_Class_o6
def escheatref19_Class_c12 : ACode := .seq [1, 2, 6, 7] escheatref19_Class_c10 escheatref19_Class_c11
def escheatref19_Class_c13 : ACode := .seq [1, 2, 6, 7] escheatref19_Class_c5 escheatref19_Class_c12
def escheatref19_Class_c14 : ACode := .loop [1, 2, 6, 7] escheatref19_Class_c13
def escheatref19_Class_c15 : ACode := .block 0 escheatref19_Class_c14
def escheatref19_Class_c16 : ACode := .seq [1, 2, 6, 7] escheatref19_Class_c2 escheatref19_Class_c15
def escheatref19_Class_o7 : List AOper := [{ dst := some 8, op := .mv (.v (.c (.i .i64 0))) }]
def escheatref19_Class_c17 : ACode := .ops escheatref19_Class_o7
def escheatref19_Class_o8 : List AOper := [{ dst := some 29, op := .mv (.t 8) }, { dst := some 30, op := .loadN 33 (.t 2) }, { dst := some 31, op := .call 126 [(.t 30)] }, { dst := some 32, op := .bin .leq (.t 29) (.t 31) }, { dst := some 33, op := .mv (.t 32) }, { dst := some 34, op := .mv (.t 6), guard := some (33, true) }, { dst := some 35, op := .bin .geq (.t 34) (.v (.c (.i .i64 0))), guard := some (33, true) }, { dst := some 36, op := .pick (.t 33) (.t 35) (.v (.c (.b false))) }]
def escheatref19_Class_c18 : ACode := .ops escheatref19_Class_o8
def escheatref19_Class_c19 : ACode := .cond (.t 36) .skip (.exit 2)
def escheatref19_Class_c20 : ACode := .seq [1, 2, 6, 8, 36] escheatref19_Class_c18 escheatref19_Class_c19
def escheatref19_Class_o9 : List AOper := [{ dst := some 9, op := .mv (.v (.c (.b true))) }]
def escheatref19_Class_c21 : ACode := .ops escheatref19_Class_o9
def escheatref19_Class_o10 : List AOper := [{ dst := some 10, op := .mv (.v (.c (.i .i64 0))) }]
def escheatref19_Class_c22 : ACode := .ops escheatref19_Class_o10
def escheatref19_Class_o11 : List AOper := [{ dst := some 39, op := .mv (.t 10) }, { dst := some 40, op := .loadN 33 (.t 2) }, { dst := some 41, op := .call 126 [(.t 40)] }, { dst := some 42, op := .call 189 [(.t 41)] }, { dst := some 43, op := .bin .lss (.t 39) (.t 42) }]
def escheatref19_Class_c23 : ACode := .ops escheatref19_Class_o11
def escheatref19_Class_c24 : ACode := .cond (.t 43) .skip (.exit 4)
def escheatref19_Class_c25 : ACode := .seq [1, 2, 6, 8, 9, 10, 43] escheatref19_Class_c23 escheatref19_Class_c24
def escheatref19_Class_o12 : List AOper := [{ dst := some 46, op := .mv (.t 9) }, { dst := some 47, op := .mv (.t 46) }, { dst := some 48, op := .mv (.t 10), guard := some (47, true) }, { dst := some 49, op := .fAddr (.t 2) 1, guard := some (47, true) }, { dst := some 50, op := .iAddrA 32 1 (.t 49) (.t 48), guard := some (47, true) }, { dst := some 51, op := .load1 (.t 50), guard := some (47, true) }, { dst := some 52, op := .mv (.t 1), guard := some (47, true) }, { dst := some 53, op := .bin .eql (.t 51) (.t 52), guard := some (47, true) }, { dst := some 54, op := .mv (.t 10), guard := some (47, true) }, { dst := some 55, op := .mv (.t 6), guard := some (47, true) }, { dst := some 56, op := .mv (.t 8), guard := some (47, true) }, { dst := some 57, op := .call 190 [(.t 54), (.t 55), (.t 56)], guard := some (47, true) }]
def escheatref19_Class_o13 : List AOper := [{ dst := some 58, op := .eqB false (.t 53) (.t 57), guard := some (47, true) }, { dst := some 59, op := .pick (.t 47) (.t 58) (.v (.c (.b false))) }, { dst := some 9, op := .mv (.t 59) }]
def escheatref19_Class_c26 : ACode := .draw 0 escheatref19_Class_o12 escheatref19_Class_o13
def escheatref19_Class_c27 : ACode := .block 5 escheatref19_Class_c26
def escheatref19_Class_o14 : List AOper := [{ dst := some 44, op := .mv (.t 10) }, { dst := some 45, op := .bin .add (.t 44) (.v (.c (.i .i64 1))) }, { dst := some 10, op := .mv (.t 45) }]
def escheatref19_Class_c28 : ACode := .ops escheatref19_Class_o14
def escheatref19_Class_c29 : ACode := .seq [1, 2, 6, 8, 9, 10] escheatref19_Class_c27 escheatref19_Class_c28
def escheatref19_Class_c30 : ACode := .seq [1, 2, 6, 8, 9, 10] escheatref19_Class_c25 escheatref19_Class_c29
def escheatref19_Class_c31 : ACode := .loop [1, 2, 6, 8, 9, 10] escheatref19_Class_c30
def escheatref19_Class_c32 : ACode := .block 4 escheatref19_Class_c31
def escheatref19_Class_c33 : ACode := .seq [1, 2, 6, 8, 9, 10] escheatref19_Class_c22 escheatref19_Class_c32
def escheatref19_Class_o15 : List AOper := [{ dst := some 60, op := .mv (.t 9) }]
def escheatref19_Class_c34 : ACode := .ops escheatref19_Class_o15
def escheatref19_Class_o16 : List AOper := [{ dst := some 61, op := .mv (.t 8) }, { dst := some 4, op := .mv (.t 61) }, { dst := some 5, op := .mv (.v (.c (.b true))) }]
def escheatref19_Class_c35 : ACode := .ops escheatref19_Class_o16
def escheatref19_Class_c36 : ACode := .seq [4, 5] escheatref19_Class_c35 .ret
def escheatref19_Class_c37 : ACode := .cond (.t 60) escheatref19_Class_c36 .skip
def escheatref19_Class_c38 : ACode := .seq [1, 2, 6, 8, 60] escheatref19_Class_c34 escheatref19_Class_c37
def escheatref19_Class_c39 : ACode := .seq [1, 2, 6, 8, 9] escheatref19_Class_c33 escheatref19_Class_c38
def escheatref19_Class_c40 : ACode := .seq [1, 2, 6, 8, 9] escheatref19_Class_c21 escheatref19_Class_c39
def escheatref19_Class_c41 : ACode := .block 3 escheatref19_Class_c40
def escheatref19_Class_o17 : List AOper := [{ dst := some 37, op := .mv (.t 8) }, { dst := some 38, op := .bin .add (.t 37) (.v (.c (.i .i64 1))) }, { dst := some 8, op := .mv (.t 38) }]
def escheatref19_Class_c42 : ACode := .ops escheatref19_Class_o17
def escheatref19_Class_c43 : ACode := .seq [1, 2, 6, 8] escheatref19_Class_c41 escheatref19_Class_c42
def escheatref19_Class_c44 : ACode := .seq [1, 2, 6, 8] escheatref19_Class_c20 escheatref19_Class_c43
def escheatref19_Class_c45 : ACode := .loop [1, 2, 6, 8] escheatref19_Class_c44
def escheatref19_Class_c46 : ACode := .block 2 escheatref19_Class_c45
def escheatref19_Class_c47 : ACode := .seq [1, 2, 6, 8] escheatref19_Class_c17 escheatref19_Class_c46
def escheatref19_Class_o18 : List AOper := [{ dst := some 4, op := .mv (.v (.c (.i .i64 0))) }, { dst := some 5, op := .mv (.v (.c (.b false))) }]
def escheatref19_Class_c48 : ACode := .ops escheatref19_Class_o18
def escheatref19_Class_c49 : ACode := .seq [4, 5] escheatref19_Class_c48 .ret
def escheatref19_Class_c50 : ACode := .seq [] escheatref19_Class_c47 escheatref19_Class_c49
def escheatref19_Class_c51 : ACode := .seq [1, 2, 6] escheatref19_Class_c16 escheatref19_Class_c50
def escheatref19_Class_c52 : ACode := .seq [1, 2, 6] escheatref19_Class_c1 escheatref19_Class_c51
def escheatref19_Class_c53 : ACode := .seq [1, 2] escheatref19_Class_c0 escheatref19_Class_c52
def A_escheatref19_Class : AFn := ⟨escheatref19_Class_c53, [.tmp 4, .tmp 5]⟩
noncomputable def E_escheatref19_Class : Sums := disp 126 S_escheatref19_Deep (disp 189 S_escheatref19_Pow (disp 190 S_escheatref19_Is disp0))
noncomputable def escheatref19_Class_c0_d (n : Nat) : SmV := smOps E_escheatref19_Class escheatref19_Class_o0
noncomputable def escheatref19_Class_c1_d (n : Nat) : SmV := smOps E_escheatref19_Class escheatref19_Class_o1
noncomputable def escheatref19_Class_c2_d (n : Nat) : SmV := smOps E_escheatref19_Class escheatref19_Class_o2
noncomputable def escheatref19_Class_c3_d (n : Nat) : SmV := smOps E_escheatref19_Class escheatref19_Class_o3
noncomputable def escheatref19_Class_c4_d (n : Nat) : SmV := smCond (.t 15) smSkip (smExit 0)
noncomputable def escheatref19_Class_c5_d (n : Nat) : SmV := smSeq [1, 2, 6, 7, 15] (escheatref19_Class_c3_d n) (escheatref19_Class_c4_d n)
noncomputable def escheatref19_Class_c6_d (n : Nat) : SmV := smOps E_escheatref19_Class escheatref19_Class_o4
noncomputable def escheatref19_Class_c7_d (n : Nat) : SmV := smOps E_escheatref19_Class escheatref19_Class_o5
noncomputable def escheatref19_Class_c8_d (n : Nat) : SmV := smCond (.t 27) (escheatref19_Class_c7_d n) smSkip
noncomputable def escheatref19_Class_c9_d (n : Nat) : SmV := smSeq [1, 2, 6, 7, 27] (escheatref19_Class_c6_d n) (escheatref19_Class_c8_d n)
noncomputable def escheatref19_Class_c10_d (n : Nat) : SmV := smBlock 1 (escheatref19_Class_c9_d n)
noncomputable def escheatref19_Class_c11_d (n : Nat) : SmV := smOps E_escheatref19_Class escheatref19_Class_o6
noncomputable def escheatref19_Class_c12_d (n : Nat) : SmV := smSeq [1, 2, 6, 7] (escheatref19_Class_c10_d n) (escheatref19_Class_c11_d n)
noncomputable def escheatref19_Class_c13_d (n : Nat) : SmV := smSeq [1, 2, 6, 7] (escheatref19_Class_c5_d n) (escheatref19_Class_c12_d n)
noncomputable def escheatref19_Class_c14_d (n : Nat) : SmV := smLoop n [1, 2, 6, 7] (escheatref19_Class_c13_d n)
noncomputable def escheatref19_Class_c15_d (n : Nat) : SmV := smBlock 0 (escheatref19_Class_c14_d n)
noncomputable def escheatref19_Class_c16_d (n : Nat) : SmV := smSeq [1, 2, 6, 7] (escheatref19_Class_c2_d n) (escheatref19_Class_c15_d n)
noncomputable def escheatref19_Class_c17_d (n : Nat) : SmV := smOps E_escheatref19_Class escheatref19_Class_o7
noncomputable def escheatref19_Class_c18_d (n : Nat) : SmV := smOps E_escheatref19_Class escheatref19_Class_o8
noncomputable def escheatref19_Class_c19_d (n : Nat) : SmV := smCond (.t 36) smSkip (smExit 2)
noncomputable def escheatref19_Class_c20_d (n : Nat) : SmV := smSeq [1, 2, 6, 8, 36] (escheatref19_Class_c18_d n) (escheatref19_Class_c19_d n)
noncomputable def escheatref19_Class_c21_d (n : Nat) : SmV := smOps E_escheatref19_Class escheatref19_Class_o9
noncomputable def escheatref19_Class_c22_d (n : Nat) : SmV := smOps E_escheatref19_Class escheatref19_Class_o10
noncomputable def escheatref19_Class_c23_d (n : Nat) : SmV := smOps E_escheatref19_Class escheatref19_Class_o11
noncomputable def escheatref19_Class_c24_d (n : Nat) : SmV := smCond (.t 43) smSkip (smExit 4)
noncomputable def escheatref19_Class_c25_d (n : Nat) : SmV := smSeq [1, 2, 6, 8, 9, 10, 43] (escheatref19_Class_c23_d n) (escheatref19_Class_c24_d n)
noncomputable def escheatref19_Class_c26_d (n : Nat) : SmV := smDraw E_escheatref19_Class 0 escheatref19_Class_o12 escheatref19_Class_o13
noncomputable def escheatref19_Class_c27_d (n : Nat) : SmV := smBlock 5 (escheatref19_Class_c26_d n)
noncomputable def escheatref19_Class_c28_d (n : Nat) : SmV := smOps E_escheatref19_Class escheatref19_Class_o14
noncomputable def escheatref19_Class_c29_d (n : Nat) : SmV := smSeq [1, 2, 6, 8, 9, 10] (escheatref19_Class_c27_d n) (escheatref19_Class_c28_d n)
noncomputable def escheatref19_Class_c30_d (n : Nat) : SmV := smSeq [1, 2, 6, 8, 9, 10] (escheatref19_Class_c25_d n) (escheatref19_Class_c29_d n)
noncomputable def escheatref19_Class_c31_d (n : Nat) : SmV := smLoop n [1, 2, 6, 8, 9, 10] (escheatref19_Class_c30_d n)
noncomputable def escheatref19_Class_c32_d (n : Nat) : SmV := smBlock 4 (escheatref19_Class_c31_d n)
noncomputable def escheatref19_Class_c33_d (n : Nat) : SmV := smSeq [1, 2, 6, 8, 9, 10] (escheatref19_Class_c22_d n) (escheatref19_Class_c32_d n)
noncomputable def escheatref19_Class_c34_d (n : Nat) : SmV := smOps E_escheatref19_Class escheatref19_Class_o15
noncomputable def escheatref19_Class_c35_d (n : Nat) : SmV := smOps E_escheatref19_Class escheatref19_Class_o16
noncomputable def escheatref19_Class_c36_d (n : Nat) : SmV := smSeq [4, 5] (escheatref19_Class_c35_d n) smRet
noncomputable def escheatref19_Class_c37_d (n : Nat) : SmV := smCond (.t 60) (escheatref19_Class_c36_d n) smSkip
noncomputable def escheatref19_Class_c38_d (n : Nat) : SmV := smSeq [1, 2, 6, 8, 60] (escheatref19_Class_c34_d n) (escheatref19_Class_c37_d n)
noncomputable def escheatref19_Class_c39_d (n : Nat) : SmV := smSeq [1, 2, 6, 8, 9] (escheatref19_Class_c33_d n) (escheatref19_Class_c38_d n)
noncomputable def escheatref19_Class_c40_d (n : Nat) : SmV := smSeq [1, 2, 6, 8, 9] (escheatref19_Class_c21_d n) (escheatref19_Class_c39_d n)
noncomputable def escheatref19_Class_c41_d (n : Nat) : SmV := smBlock 3 (escheatref19_Class_c40_d n)
noncomputable def escheatref19_Class_c42_d (n : Nat) : SmV := smOps E_escheatref19_Class escheatref19_Class_o17
noncomputable def escheatref19_Class_c43_d (n : Nat) : SmV := smSeq [1, 2, 6, 8] (escheatref19_Class_c41_d n) (escheatref19_Class_c42_d n)
noncomputable def escheatref19_Class_c44_d (n : Nat) : SmV := smSeq [1, 2, 6, 8] (escheatref19_Class_c20_d n) (escheatref19_Class_c43_d n)
noncomputable def escheatref19_Class_c45_d (n : Nat) : SmV := smLoop n [1, 2, 6, 8] (escheatref19_Class_c44_d n)
noncomputable def escheatref19_Class_c46_d (n : Nat) : SmV := smBlock 2 (escheatref19_Class_c45_d n)
noncomputable def escheatref19_Class_c47_d (n : Nat) : SmV := smSeq [1, 2, 6, 8] (escheatref19_Class_c17_d n) (escheatref19_Class_c46_d n)
noncomputable def escheatref19_Class_c48_d (n : Nat) : SmV := smOps E_escheatref19_Class escheatref19_Class_o18
noncomputable def escheatref19_Class_c49_d (n : Nat) : SmV := smSeq [4, 5] (escheatref19_Class_c48_d n) smRet
noncomputable def escheatref19_Class_c50_d (n : Nat) : SmV := smSeq [] (escheatref19_Class_c47_d n) (escheatref19_Class_c49_d n)
noncomputable def escheatref19_Class_c51_d (n : Nat) : SmV := smSeq [1, 2, 6] (escheatref19_Class_c16_d n) (escheatref19_Class_c50_d n)
noncomputable def escheatref19_Class_c52_d (n : Nat) : SmV := smSeq [1, 2, 6] (escheatref19_Class_c1_d n) (escheatref19_Class_c51_d n)
noncomputable def escheatref19_Class_c53_d (n : Nat) : SmV := smSeq [1, 2] (escheatref19_Class_c0_d n) (escheatref19_Class_c52_d n)
noncomputable def escheatref19_Class_k0 (n : Nat) : AExit → Env → Heap → OptV := fun x e h => match x with | .normal => hold ((escheatref19_Class_c50_d n) A_escheatref19_Class.fin (e.keep [1, 2, 6]) h) | .exit id => A_escheatref19_Class.fin (.exit id) e h | .ret => A_escheatref19_Class.fin .ret e h
noncomputable def escheatref19_Class_k1 (n : Nat) : AExit → Env → Heap → OptV := fun x e h => match x with | .exit i => bif Nat.beq i 0 then (escheatref19_Class_k0 n) .normal e h else (escheatref19_Class_k0 n) (.exit i) e h | .normal => (escheatref19_Class_k0 n) .normal e h | .ret => (escheatref19_Class_k0 n) .ret e h
noncomputable def escheatref19_Class_l0 (n m : Nat) (x1 x2 x6 x7 : Val) (h : Heap) : OptV := around (escheatref19_Class_c13_d n) [1, 2, 6, 7] (escheatref19_Class_k1 n) m [(1, x1), (2, x2), (6, x6), (7, x7)] h
noncomputable def R_escheatref19_Class (n : Nat) (args : List Val) (h : Heap) : OptV := (escheatref19_Class_c53_d n) A_escheatref19_Class.fin (params 0 args) h
noncomputable def escheatref19_Class_k2 (n m : Nat) : AExit → Env → Heap → OptV := fun x e h => match x with | .normal => around (escheatref19_Class_c13_d n) [1, 2, 6, 7] (escheatref19_Class_k1 n) m (e.keep [1, 2, 6, 7]) h | .exit id => (escheatref19_Class_k1 n) (.exit id) e h | .ret => (escheatref19_Class_k1 n) .ret e h
noncomputable def escheatref19_Class_j0 (n m : Nat) (x1 x2 x6 x7 : Val) (h : Heap) : OptV := hold ((escheatref19_Class_c11_d n) (escheatref19_Class_k2 n m) [(1, x1), (2, x2), (6, x6), (7, x7)] h)
noncomputable def escheatref19_Class_k3 (n : Nat) : AExit → Env → Heap → OptV := fun x e h => match x with | .normal => hold ((escheatref19_Class_c49_d n) A_escheatref19_Class.fin (e.keep []) h) | .exit id => A_escheatref19_Class.fin (.exit id) e h | .ret => A_escheatref19_Class.fin .ret e h
noncomputable def escheatref19_Class_k4 (n : Nat) : AExit → Env → Heap → OptV := fun x e h => match x with | .exit i => bif Nat.beq i 2 then (escheatref19_Class_k3 n) .normal e h else (escheatref19_Class_k3 n) (.exit i) e h | .normal => (escheatref19_Class_k3 n) .normal e h | .ret => (escheatref19_Class_k3 n) .ret e h
noncomputable def escheatref19_Class_l1 (n m : Nat) (x1 x2 x6 x8 : Val) (h : Heap) : OptV := around (escheatref19_Class_c44_d n) [1, 2, 6, 8] (escheatref19_Class_k4 n) m [(1, x1), (2, x2), (6, x6), (8, x8)] h
noncomputable def escheatref19_Class_k5 (n m : Nat) : AExit → Env → Heap → OptV := fun x e h => match x with | .normal => around (escheatref19_Class_c44_d n) [1, 2, 6, 8] (escheatref19_Class_k4 n) m (e.keep [1, 2, 6, 8]) h | .exit id => (escheatref19_Class_k4 n) (.exit id) e h | .ret => (escheatref19_Class_k4 n) .ret e h
noncomputable def escheatref19_Class_k6 (n m : Nat) : AExit → Env → Heap → OptV := fun x e h => match x with | .normal => hold ((escheatref19_Class_c42_d n) (escheatref19_Class_k5 n m) (e.keep [1, 2, 6, 8]) h) | .exit id => (escheatref19_Class_k5 n m) (.exit id) e h | .ret => (escheatref19_Class_k5 n m) .ret e h
noncomputable def escheatref19_Class_k7 (n m : Nat) : AExit → Env → Heap → OptV := fun x e h => match x with | .exit i => bif Nat.beq i 3 then (escheatref19_Class_k6 n m) .normal e h else (escheatref19_Class_k6 n m) (.exit i) e h | .normal => (escheatref19_Class_k6 n m) .normal e h | .ret => (escheatref19_Class_k6 n m) .ret e h
noncomputable def escheatref19_Class_k8 (n m : Nat) : AExit → Env → Heap → OptV := fun x e h => match x with | .normal => hold ((escheatref19_Class_c38_d n) (escheatref19_Class_k7 n m) (e.keep [1, 2, 6, 8, 9]) h) | .exit id => (escheatref19_Class_k7 n m) (.exit id) e h | .ret => (escheatref19_Class_k7 n m) .ret e h
noncomputable def escheatref19_Class_k9 (n m : Nat) : AExit → Env → Heap → OptV := fun x e h => match x with | .exit i => bif Nat.beq i 4 then (escheatref19_Class_k8 n m) .normal e h else (escheatref19_Class_k8 n m) (.exit i) e h | .normal => (escheatref19_Class_k8 n m) .normal e h | .ret => (escheatref19_Class_k8 n m) .ret e h
noncomputable def escheatref19_Class_l2 (n m m2 : Nat) (x1 x2 x6 x8 x9 x10 : Val) (h : Heap) : OptV := around (escheatref19_Class_c30_d n) [1, 2, 6, 8, 9, 10] (escheatref19_Class_k9 n m) m2 [(1, x1), (2, x2), (6, x6), (8, x8), (9, x9), (10, x10)] h
theorem R_escheatref19_Class_eq (n : Nat) (a0 a1 : Val) (h : Heap) : R_escheatref19_Class n [a0, a1] h = bnd (cells? a0) fun c1 => escheatref19_Class_l0 n n a1 ((.c (.p h.length 0))) (.c (.i .i64 (-1))) (.c (.i .i64 0)) ((h ++ [some (Row.mk (c1) true)])) := by kernel_rfl
theorem escheatref19_Class_l0_eq (n m : Nat) (x1 x2 x6 x7 : Val) (h : Heap) : escheatref19_Class_l0 n (m + 1) x1 x2 x6 x7 h = bnd (aloadN h 33 x2) fun v2 => bnd (S_escheatref19_Deep [v2] h) fun p3 => bnd (S_escheatref19_Pow [p3.1] p3.2) fun p4 => bnd (abin .lss x7 p4.1) fun v5 => cnd v5 (bnd (afAddr x2 1) fun v6 => bnd (aiAddrA 32 1 v6 x7) fun v7 => bnd (aload1 p4.2 v7) fun v8 => bnd (abin .eql v8 x1) fun v9 => bnd (gd v9 true (some (x6, p4.2)) (some (.no, p4.2))) fun p10 => bnd (gd v9 true (bnd (abin .lss p10.1 (.c (.i .i64 0))) fun v11 => some (v11, p10.2)) (some (.no, p10.2))) fun p12 => bnd (apick v9 p12.1 (.c (.b false))) fun v13 => cnd v13 (escheatref19_Class_j0 n m x1 x2 x7 x7 p12.2) (escheatref19_Class_j0 n m x1 x2 x6 x7 p12.2)) (escheatref19_Class_l1 n n x1 x2 x6 (.c (.i .i64 0)) p4.2) := by kernel_rfl
theorem escheatref19_Class_j0_eq (n m : Nat) (x1 x2 x6 x7 : Val) (h : Heap) : escheatref19_Class_j0 n m x1 x2 x6 x7 h = bnd (abin .add x7 (.c (.i .i64 1))) fun v14 => escheatref19_Class_l0 n m x1 x2 x6 v14 h := by kernel_rfl
theorem escheatref19_Class_l1_eq (n m : Nat) (x1 x2 x6 x8 : Val) (h : Heap) : escheatref19_Class_l1 n (m + 1) x1 x2 x6 x8 h = bnd (aloadN h 33 x2) fun v15 => bnd (S_escheatref19_Deep [v15] h) fun p16 => bnd (abin .leq x8 p16.1) fun v17 => bnd (gd v17 true (some (x6, p16.2)) (some (.no, p16.2))) fun p18 => bnd (gd v17 true (bnd (abin .geq p18.1 (.c (.i .i64 0))) fun v19 => some (v19, p18.2)) (some (.no, p18.2))) fun p20 => bnd (apick v17 p20.1 (.c (.b false))) fun v21 => cnd v21 (escheatref19_Class_l2 n m n x1 x2 x6 x8 (.c (.b true)) (.c (.i .i64 0)) p20.2) (tupN [some (.c (.i .i64 0)), some (.c (.b false))] p20.2) := by kernel_rfl
theorem escheatref19_Class_l2_eq (n m m2 : Nat) (x1 x2 x6 x8 x9 x10 : Val) (h : Heap) : escheatref19_Class_l2 n m (m2 + 1) x1 x2 x6 x8 x9 x10 h = bnd (aloadN h 33 x2) fun v22 => bnd (S_escheatref19_Deep [v22] h) fun p23 => bnd (S_escheatref19_Pow [p23.1] p23.2) fun p24 => bnd (abin .lss x10 p24.1) fun v25 => cnd v25 (bnd (gd x9 true (some (x10, (p24.2 ++ []))) (some (.no, (p24.2 ++ [])))) fun p26 => bnd (gd x9 true (bnd (afAddr x2 1) fun v27 => some (v27, p26.2)) (some (.no, p26.2))) fun p28 => bnd (gd x9 true (bnd (aiAddrA 32 1 p28.1 p26.1) fun v29 => some (v29, p28.2)) (some (.no, p28.2))) fun p30 => bnd (gd x9 true (bnd (aload1 p24.2 p30.1) fun v31 => some (v31, p30.2)) (some (.no, p30.2))) fun p32 => bnd (gd x9 true (some (x1, p32.2)) (some (.no, p32.2))) fun p33 => bnd (gd x9 true (bnd (abin .eql p32.1 p33.1) fun v34 => some (v34, p33.2)) (some (.no, p33.2))) fun p35 => bnd (gd x9 true (some (x10, p35.2)) (some (.no, p35.2))) fun p36 => bnd (gd x9 true (some (x6, p36.2)) (some (.no, p36.2))) fun p37 => bnd (gd x9 true (some (x8, p37.2)) (some (.no, p37.2))) fun p38 => bnd (gd x9 true (bnd (quiet p38.2 (S_escheatref19_Is [p36.1, p37.1, p38.1] p38.2)) fun p39 => some (p39.1, p39.2)) (some (.no, p38.2))) fun p40 => bnd (gd x9 true (bnd (aeqB false p35.1 p40.1) fun v41 => some (v41, p40.2)) (some (.no, p40.2))) fun p42 => bnd (apick x9 p42.1 (.c (.b false))) fun v43 => bnd (abin .add x10 (.c (.i .i64 1))) fun v44 => escheatref19_Class_l2 n m m2 x1 x2 x6 x8 v43 v44 p42.2) (cnd x9 (tupN [some x8, some (.c (.b true))] p24.2) (bnd (abin .add x8 (.c (.i .i64 1))) fun v45 => escheatref19_Class_l1 n m x1 x2 x6 v45 p24.2)) := by kernel_rfl
theorem K_escheatref19_Class : FnK Try.prog 207 A_escheatref19_Class E_escheatref19_Class R_escheatref19_Class := .mk' (sound1 S_escheatref19_Deep_ok (sound1 S_escheatref19_Pow_ok (sound1 S_escheatref19_Is_ok sound0))) Try.func207 (by kernel_rfl) (by intro n args h; kernel_rfl)
noncomputable def S_escheatref19_Class : Fun := tidy (Lim A_escheatref19_Class E_escheatref19_Class)
theorem S_escheatref19_Class_ok : SOk Try.prog 207 S_escheatref19_Class := K_escheatref19_Class.sok
theorem S_escheatref19_Class_flat {n : Nat} {args : List Val} {h h2 : Heap} {v : Val} (he : R_escheatref19_Class n args (ro h) = some (v, h2)) (hf : v.flat = true) : S_escheatref19_Class args h = some (v, h) := K_escheatref19_Class.flat he hf
def escheatref19_Fix_o0 : List AOper := [{ dst := some 1, op := .box (.t 0) }, { dst := some 2, op := .alloc ([.i .i64 0] ++ List.replicate 32 (.i .i64 0)) }]
def escheatref19_Fix_c0 : ACode := .ops escheatref19_Fix_o0
def escheatref19_Fix_o1 : List AOper := [{ dst := some 9, op := .build ([.i .i64 0] ++ List.replicate 32 (.i .i64 0)) [] }, { dst := some 3, op := .alloc ([.i .i64 0] ++ List.replicate 32 (.i .i64 0)) }, { dst := none, op := .storeN 33 (.t 3) (.t 9) }]
def escheatref19_Fix_c1 : ACode := .ops escheatref19_Fix_o1
def escheatref19_Fix_o2 : List AOper := [{ dst := some 10, op := .fAddr (.t 1) 0 }, { dst := some 11, op := .load1 (.t 10) }, { dst := some 12, op := .bin .lss (.t 11) (.v (.c (.i .i64 0))) }, { dst := some 13, op := .mv (.t 12) }, { dst := some 14, op := .fAddr (.t 1) 0, guard := some (13, false) }, { dst := some 15, op := .load1 (.t 14), guard := some (13, false) }, { dst := some 16, op := .bin .gtr (.t 15) (.v (.c (.i .i64 5))), guard := some (13, false) }, { dst := some 17, op := .pick (.t 13) (.v (.c (.b true))) (.t 16) }]
def escheatref19_Fix_c2 : ACode := .ops escheatref19_Fix_o2
def escheatref19_Fix_o3 : List AOper := [{ dst := some 18, op := .loadN 33 (.t 3) }, { dst := none, op := .storeN 33 (.t 2) (.t 18) }]
def escheatref19_Fix_c3 : ACode := .ops escheatref19_Fix_o3
def escheatref19_Fix_c4 : ACode := .seq [2] escheatref19_Fix_c3 .ret
def escheatref19_Fix_c5 : ACode := .cond (.t 17) escheatref19_Fix_c4 .skip
def escheatref19_Fix_c6 : ACode := .seq [1, 2, 3, 17] escheatref19_Fix_c2 escheatref19_Fix_c5
def escheatref19_Fix_o4 : List AOper := [{ dst := some 19, op := .fAddr (.t 1) 0 }, { dst := some 20, op := .load1 (.t 19) }, { dst := some 21, op := .fAddr (.t 3) 0 }, { dst := none, op := .store1 (.t 21) (.t 20) }]
def escheatref19_Fix_c7 : ACode := .ops escheatref19_Fix_o4
def escheatref19_Fix_o5 : List AOper := [{ dst := some 4, op := .mv (.v (.c (.i .i64 0))) }]
def escheatref19_Fix_c8 : ACode := .ops escheatref19_Fix_o5
def escheatref19_Fix_o6 : List AOper := [{ dst := some 22, op := .mv (.t 4) }, { dst := some 23, op := .fAddr (.t 1) 0 }, { dst := some 24, op := .load1 (.t 23) }, { dst := some 25, op := .call 189 [(.t 24)] }, { dst := some 26, op := .bin .lss (.t 22) (.t 25) }]
def escheatref19_Fix_c9 : ACode := .ops escheatref19_Fix_o6
def escheatref19_Fix_c10 : ACode := .cond (.t 26) .skip (.exit 0)
def escheatref19_Fix_c11 : ACode := .seq [1, 2, 3, 4, 26] escheatref19_Fix_c9 escheatref19_Fix_c10
def escheatref19_Fix_o7 : List AOper := [{ dst := some 29, op := .mv (.t 4) }, { dst := some 30, op := .fAddr (.t 1) 1 }, { dst := some 31, op := .iAddrA 32 1 (.t 30) (.t 29) }, { dst := some 32, op := .load1 (.t 31) }, { dst := some 33, op := .bin .eql (.t 32) (.v (.c (.i .i64 0))) }, { dst := some 34, op := .mv (.t 33) }, { dst := some 35, op := .mv (.t 4), guard := some (34, false) }, { dst := some 36, op := .fAddr (.t 1) 1, guard := some (34, false) }, { dst := some 37, op := .iAddrA 32 1 (.t 36) (.t 35), guard := some (34, false) }, { dst := some 38, op := .load1 (.t 37), guard := some (34, false) }, { dst := some 39, op := .call 191 [(.t 38)], guard := some (34, false) }, { dst := some 40, op := .un .not (.t 39), guard := some (34, false) }, { dst := some 41, op := .pick (.t 34) (.v (.c (.b true))) (.t 40) }]
def escheatref19_Fix_c12 : ACode := .ops escheatref19_Fix_o7
def escheatref19_Fix_c13 : ACode := .cond (.t 41) (.exit 1) .skip
def escheatref19_Fix_c14 : ACode := .seq [1, 2, 3, 4, 41] escheatref19_Fix_c12 escheatref19_Fix_c13
def escheatref19_Fix_o8 : List AOper := [{ dst := some 43, op := .loadN 33 (.t 1) }, { dst := some 44, op := .mv (.t 4) }, { dst := some 45, op := .fAddr (.t 1) 1 }, { dst := some 46, op := .iAddrA 32 1 (.t 45) (.t 44) }, { dst := some 47, op := .load1 (.t 46) }, { dst := some 48, op := .call 207 [(.t 43), (.t 47)] }, { dst := some 42, op := .mv (.t 48) }, { dst := some 49, op := .ext (.t 42) 0 }, { dst := some 50, op := .ext (.t 42) 1 }, { dst := some 5, op := .mv (.t 49) }]
def escheatref19_Fix_o9 : List AOper := [{ dst := some 6, op := .mv (.t 50) }]
def escheatref19_Fix_c15 : ACode := .draw 0 escheatref19_Fix_o8 escheatref19_Fix_o9
def escheatref19_Fix_o10 : List AOper := [{ dst := some 7, op := .mv (.v (.c (.b true))) }]
def escheatref19_Fix_c16 : ACode := .ops escheatref19_Fix_o10
def escheatref19_Fix_o11 : List AOper := [{ dst := some 8, op := .mv (.v (.c (.i .i64 0))) }]
def escheatref19_Fix_c17 : ACode := .ops escheatref19_Fix_o11
def escheatref19_Fix_o12 : List AOper := [{ dst := some 51, op := .mv (.t 8) }, { dst := some 52, op := .mv (.t 4) }, { dst := some 53, op := .bin .lss (.t 51) (.t 52) }]
def escheatref19_Fix_c18 : ACode := .ops escheatref19_Fix_o12
def escheatref19_Fix_c19 : ACode := .cond (.t 53) .skip (.exit 2)
def escheatref19_Fix_c20 : ACode := .seq [1, 2, 3, 4, 6, 7, 8, 53] escheatref19_Fix_c18 escheatref19_Fix_c19
def escheatref19_Fix_o13 : List AOper := [{ dst := some 56, op := .mv (.t 7) }, { dst := some 57, op := .mv (.t 56) }, { dst := some 58, op := .mv (.t 8), guard := some (57, true) }, { dst := some 59, op := .fAddr (.t 1) 1, guard := some (57, true) }, { dst := some 60, op := .iAddrA 32 1 (.t 59) (.t 58), guard := some (57, true) }, { dst := some 61, op := .load1 (.t 60), guard := some (57, true) }, { dst := some 62, op := .mv (.t 4), guard := some (57, true) }, { dst := some 63, op := .fAddr (.t 1) 1, guard := some (57, true) }, { dst := some 64, op := .iAddrA 32 1 (.t 63) (.t 62), guard := some (57, true) }, { dst := some 65, op := .load1 (.t 64), guard := some (57, true) }]
def escheatref19_Fix_o14 : List AOper := [{ dst := some 66, op := .bin .neq (.t 61) (.t 65), guard := some (57, true) }, { dst := some 67, op := .pick (.t 57) (.t 66) (.v (.c (.b false))) }, { dst := some 7, op := .mv (.t 67) }]
def escheatref19_Fix_c21 : ACode := .draw 0 escheatref19_Fix_o13 escheatref19_Fix_o14
def escheatref19_Fix_c22 : ACode := .block 3 escheatref19_Fix_c21
def escheatref19_Fix_o15 : List AOper := [{ dst := some 54, op := .mv (.t 8) }, { dst := some 55, op := .bin .add (.t 54) (.v (.c (.i .i64 1))) }, { dst := some 8, op := .mv (.t 55) }]
def escheatref19_Fix_c23 : ACode := .ops escheatref19_Fix_o15
def escheatref19_Fix_c24 : ACode := .seq [1, 2, 3, 4, 6, 7, 8] escheatref19_Fix_c22 escheatref19_Fix_c23
def escheatref19_Fix_c25 : ACode := .seq [1, 2, 3, 4, 6, 7, 8] escheatref19_Fix_c20 escheatref19_Fix_c24
def escheatref19_Fix_c26 : ACode := .loop [1, 2, 3, 4, 6, 7, 8] escheatref19_Fix_c25
def escheatref19_Fix_c27 : ACode := .block 2 escheatref19_Fix_c26
def escheatref19_Fix_c28 : ACode := .seq [1, 2, 3, 4, 6, 7, 8] escheatref19_Fix_c17 escheatref19_Fix_c27
def escheatref19_Fix_o16 : List AOper := [{ dst := some 68, op := .mv (.t 6) }, { dst := some 69, op := .mv (.t 68) }, { dst := some 70, op := .mv (.t 7), guard := some (69, false) }, { dst := some 71, op := .pick (.t 69) (.v (.c (.b true))) (.t 70) }]
def escheatref19_Fix_c29 : ACode := .ops escheatref19_Fix_o16
def escheatref19_Fix_o17 : List AOper := [{ dst := some 72, op := .mv (.t 4) }, { dst := some 73, op := .mv (.t 4) }, { dst := some 74, op := .fAddr (.t 1) 1 }, { dst := some 75, op := .iAddrA 32 1 (.t 74) (.t 73) }, { dst := some 76, op := .load1 (.t 75) }, { dst := some 77, op := .fAddr (.t 3) 1 }, { dst := some 78, op := .iAddrA 32 1 (.t 77) (.t 72) }, { dst := none, op := .store1 (.t 78) (.t 76) }]
def escheatref19_Fix_c30 : ACode := .ops escheatref19_Fix_o17
def escheatref19_Fix_c31 : ACode := .cond (.t 71) escheatref19_Fix_c30 .skip
def escheatref19_Fix_c32 : ACode := .seq [1, 2, 3, 4, 71] escheatref19_Fix_c29 escheatref19_Fix_c31
def escheatref19_Fix_c33 : ACode := .seq [1, 2, 3, 4, 6, 7] escheatref19_Fix_c28 escheatref19_Fix_c32
def escheatref19_Fix_c34 : ACode := .seq [1, 2, 3, 4, 6, 7] escheatref19_Fix_c16 escheatref19_Fix_c33
def escheatref19_Fix_c35 : ACode := .seq [1, 2, 3, 4, 6] escheatref19_Fix_c15 escheatref19_Fix_c34
def escheatref19_Fix_c36 : ACode := .seq [1, 2, 3, 4] escheatref19_Fix_c14 escheatref19_Fix_c35
def escheatref19_Fix_c37 : ACode := .block 1 escheatref19_Fix_c36
def escheatref19_Fix_o18 : List AOper := [{ dst := some 27, op := .mv (.t 4) }, { dst := some 28, op := .bin .add (.t 27) (.v (.c (.i .i64 1))) }, { dst := some 4, op := .mv (.t 28) }]
def escheatref19_Fix_c38 : ACode := .ops escheatref19_Fix_o18
def escheatref19_Fix_c39 : ACode := .seq [1, 2, 3, 4] escheatref19_Fix_c37 escheatref19_Fix_c38
def escheatref19_Fix_c40 : ACode := .seq [1, 2, 3, 4] escheatref19_Fix_c11 escheatref19_Fix_c39
def escheatref19_Fix_c41 : ACode := .loop [1, 2, 3, 4] escheatref19_Fix_c40
def escheatref19_Fix_c42 : ACode := .block 0 escheatref19_Fix_c41
def escheatref19_Fix_c43 : ACode := .seq [1, 2, 3, 4] escheatref19_Fix_c8 escheatref19_Fix_c42
def escheatref19_Fix_o19 : List AOper := [{ dst := some 79, op := .loadN 33 (.t 3) }, { dst := none, op := .storeN 33 (.t 2) (.t 79) }]
def escheatref19_Fix_c44 : ACode := .ops escheatref19_Fix_o19
def escheatref19_Fix_c45 : ACode := .seq [2] escheatref19_Fix_c44 .ret
def escheatref19_Fix_c46 : ACode := .seq [2, 3] escheatref19_Fix_c43 escheatref19_Fix_c45
def escheatref19_Fix_c47 : ACode := .seq [1, 2, 3] escheatref19_Fix_c7 escheatref19_Fix_c46
def escheatref19_Fix_c48 : ACode := .seq [1, 2, 3] escheatref19_Fix_c6 escheatref19_Fix_c47
def escheatref19_Fix_c49 : ACode := .seq [1, 2, 3] escheatref19_Fix_c1 escheatref19_Fix_c48
def escheatref19_Fix_c50 : ACode := .seq [1, 2] escheatref19_Fix_c0 escheatref19_Fix_c49
def A_escheatref19_Fix : AFn := ⟨escheatref19_Fix_c50, [.cellN 2 33]⟩
noncomputable def E_escheatref19_Fix : Sums := disp 189 S_escheatref19_Pow (disp 191 S_escheatref19_Fine (disp 207 S_escheatref19_Class disp0))
noncomputable def escheatref19_Fix_c0_d (n : Nat) : SmV := smOps E_escheatref19_Fix escheatref19_Fix_o0
noncomputable def escheatref19_Fix_c1_d (n : Nat) : SmV := smOps E_escheatref19_Fix escheatref19_Fix_o1
noncomputable def escheatref19_Fix_c2_d (n : Nat) : SmV := smOps E_escheatref19_Fix escheatref19_Fix_o2
noncomputable def escheatref19_Fix_c3_d (n : Nat) : SmV := smOps E_escheatref19_Fix escheatref19_Fix_o3
noncomputable def escheatref19_Fix_c4_d (n : Nat) : SmV := smSeq [2] (escheatref19_Fix_c3_d n) smRet
noncomputable def escheatref19_Fix_c5_d (n : Nat) : SmV := smCond (.t 17) (escheatref19_Fix_c4_d n) smSkip
noncomputable def escheatref19_Fix_c6_d (n : Nat) : SmV := smSeq [1, 2, 3, 17] (escheatref19_Fix_c2_d n) (escheatref19_Fix_c5_d n)
noncomputable def escheatref19_Fix_c7_d (n : Nat) : SmV := smOps E_escheatref19_Fix escheatref19_Fix_o4
noncomputable def escheatref19_Fix_c8_d (n : Nat) : SmV := smOps E_escheatref19_Fix escheatref19_Fix_o5
noncomputable def escheatref19_Fix_c9_d (n : Nat) : SmV := smOps E_escheatref19_Fix escheatref19_Fix_o6
noncomputable def escheatref19_Fix_c10_d (n : Nat) : SmV := smCond (.t 26) smSkip (smExit 0)
noncomputable def escheatref19_Fix_c11_d (n : Nat) : SmV := smSeq [1, 2, 3, 4, 26] (escheatref19_Fix_c9_d n) (escheatref19_Fix_c10_d n)
noncomputable def escheatref19_Fix_c12_d (n : Nat) : SmV := smOps E_escheatref19_Fix escheatref19_Fix_o7
noncomputable def escheatref19_Fix_c13_d (n : Nat) : SmV := smCond (.t 41) (smExit 1) smSkip
noncomputable def escheatref19_Fix_c14_d (n : Nat) : SmV := smSeq [1, 2, 3, 4, 41] (escheatref19_Fix_c12_d n) (escheatref19_Fix_c13_d n)
noncomputable def escheatref19_Fix_c15_d (n : Nat) : SmV := smDraw E_escheatref19_Fix 0 escheatref19_Fix_o8 escheatref19_Fix_o9
noncomputable def escheatref19_Fix_c16_d (n : Nat) : SmV := smOps E_escheatref19_Fix escheatref19_Fix_o10
noncomputable def escheatref19_Fix_c17_d (n : Nat) : SmV := smOps E_escheatref19_Fix escheatref19_Fix_o11
noncomputable def escheatref19_Fix_c18_d (n : Nat) : SmV := smOps E_escheatref19_Fix escheatref19_Fix_o12
noncomputable def escheatref19_Fix_c19_d (n : Nat) : SmV := smCond (.t 53) smSkip (smExit 2)
noncomputable def escheatref19_Fix_c20_d (n : Nat) : SmV := smSeq [1, 2, 3, 4, 6, 7, 8, 53] (escheatref19_Fix_c18_d n) (escheatref19_Fix_c19_d n)
noncomputable def escheatref19_Fix_c21_d (n : Nat) : SmV := smDraw E_escheatref19_Fix 0 escheatref19_Fix_o13 escheatref19_Fix_o14
noncomputable def escheatref19_Fix_c22_d (n : Nat) : SmV := smBlock 3 (escheatref19_Fix_c21_d n)
noncomputable def escheatref19_Fix_c23_d (n : Nat) : SmV := smOps E_escheatref19_Fix escheatref19_Fix_o15
noncomputable def escheatref19_Fix_c24_d (n : Nat) : SmV := smSeq [1, 2, 3, 4, 6, 7, 8] (escheatref19_Fix_c22_d n) (escheatref19_Fix_c23_d n)
noncomputable def escheatref19_Fix_c25_d (n : Nat) : SmV := smSeq [1, 2, 3, 4, 6, 7, 8] (escheatref19_Fix_c20_d n) (escheatref19_Fix_c24_d n)
noncomputable def escheatref19_Fix_c26_d (n : Nat) : SmV := smLoop n [1, 2, 3, 4, 6, 7, 8] (escheatref19_Fix_c25_d n)
noncomputable def escheatref19_Fix_c27_d (n : Nat) : SmV := smBlock 2 (escheatref19_Fix_c26_d n)
noncomputable def escheatref19_Fix_c28_d (n : Nat) : SmV := smSeq [1, 2, 3, 4, 6, 7, 8] (escheatref19_Fix_c17_d n) (escheatref19_Fix_c27_d n)
noncomputable def escheatref19_Fix_c29_d (n : Nat) : SmV := smOps E_escheatref19_Fix escheatref19_Fix_o16
noncomputable def escheatref19_Fix_c30_d (n : Nat) : SmV := smOps E_escheatref19_Fix escheatref19_Fix_o17
noncomputable def escheatref19_Fix_c31_d (n : Nat) : SmV := smCond (.t 71) (escheatref19_Fix_c30_d n) smSkip
noncomputable def escheatref19_Fix_c32_d (n : Nat) : SmV := smSeq [1, 2, 3, 4, 71] (escheatref19_Fix_c29_d n) (escheatref19_Fix_c31_d n)
noncomputable def escheatref19_Fix_c33_d (n : Nat) : SmV := smSeq [1, 2, 3, 4, 6, 7] (escheatref19_Fix_c28_d n) (escheatref19_Fix_c32_d n)
noncomputable def escheatref19_Fix_c34_d (n : Nat) : SmV := smSeq [1, 2, 3, 4, 6, 7] (escheatref19_Fix_c16_d n) (escheatref19_Fix_c33_d n)
noncomputable def escheatref19_Fix_c35_d (n : Nat) : SmV := smSeq [1, 2, 3, 4, 6] (escheatref19_Fix_c15_d n) (escheatref19_Fix_c34_d n)
noncomputable def escheatref19_Fix_c36_d (n : Nat) : SmV := smSeq [1, 2, 3, 4] (escheatref19_Fix_c14_d n) (escheatref19_Fix_c35_d n)
noncomputable def escheatref19_Fix_c37_d (n : Nat) : SmV := smBlock 1 (escheatref19_Fix_c36_d n)
noncomputable def escheatref19_Fix_c38_d (n : Nat) : SmV := smOps E_escheatref19_Fix escheatref19_Fix_o18
noncomputable def escheatref19_Fix_c39_d (n : Nat) : SmV := smSeq [1, 2, 3, 4] (escheatref19_Fix_c37_d n) (escheatref19_Fix_c38_d n)
noncomputable def escheatref19_Fix_c40_d (n : Nat) : SmV := smSeq [1, 2, 3, 4] (escheatref19_Fix_c11_d n) (escheatref19_Fix_c39_d n)
noncomputable def escheatref19_Fix_c41_d (n : Nat) : SmV := smLoop n [1, 2, 3, 4] (escheatref19_Fix_c40_d n)
noncomputable def escheatref19_Fix_c42_d (n : Nat) : SmV := smBlock 0 (escheatref19_Fix_c41_d n)
noncomputable def escheatref19_Fix_c43_d (n : Nat) : SmV := smSeq [1, 2, 3, 4] (escheatref19_Fix_c8_d n) (escheatref19_Fix_c42_d n)
noncomputable def escheatref19_Fix_c44_d (n : Nat) : SmV := smOps E_escheatref19_Fix escheatref19_Fix_o19
noncomputable def escheatref19_Fix_c45_d (n : Nat) : SmV := smSeq [2] (escheatref19_Fix_c44_d n) smRet
noncomputable def escheatref19_Fix_c46_d (n : Nat) : SmV := smSeq [2, 3] (escheatref19_Fix_c43_d n) (escheatref19_Fix_c45_d n)
noncomputable def escheatref19_Fix_c47_d (n : Nat) : SmV := smSeq [1, 2, 3] (escheatref19_Fix_c7_d n) (escheatref19_Fix_c46_d n)
noncomputable def escheatref19_Fix_c48_d (n : Nat) : SmV := smSeq [1, 2, 3] (escheatref19_Fix_c6_d n) (escheatref19_Fix_c47_d n)
noncomputable def escheatref19_Fix_c49_d (n : Nat) : SmV := smSeq [1, 2, 3] (escheatref19_Fix_c1_d n) (escheatref19_Fix_c48_d n)
noncomputable def escheatref19_Fix_c50_d (n : Nat) : SmV := smSeq [1, 2] (escheatref19_Fix_c0_d n) (escheatref19_Fix_c49_d n)
noncomputable def escheatref19_Fix_k0 (n : Nat) : AExit → Env → Heap → OptV := fun x e h => match x with | .normal => hold ((escheatref19_Fix_c45_d n) A_escheatref19_Fix.fin (e.keep [2, 3]) h) | .exit id => A_escheatref19_Fix.fin (.exit id) e h | .ret => A_escheatref19_Fix.fin .ret e h
noncomputable def escheatref19_Fix_k1 (n : Nat) : AExit → Env → Heap → OptV := fun x e h => match x with | .exit i => bif Nat.beq i 0 then (escheatref19_Fix_k0 n) .normal e h else (escheatref19_Fix_k0 n) (.exit i) e h | .normal => (escheatref19_Fix_k0 n) .normal e h | .ret => (escheatref19_Fix_k0 n) .ret e h
noncomputable def escheatref19_Fix_l0 (n m : Nat) (x1 x2 x3 x4 : Val) (h : Heap) : OptV := around (escheatref19_Fix_c40_d n) [1, 2, 3, 4] (escheatref19_Fix_k1 n) m [(1, x1), (2, x2), (3, x3), (4, x4)] h
noncomputable def R_escheatref19_Fix (n : Nat) (args : List Val) (h : Heap) : OptV := (escheatref19_Fix_c50_d n) A_escheatref19_Fix.fin (params 0 args) h
noncomputable def escheatref19_Fix_k2 (n m : Nat) : AExit → Env → Heap → OptV := fun x e h => match x with | .normal => around (escheatref19_Fix_c40_d n) [1, 2, 3, 4] (escheatref19_Fix_k1 n) m (e.keep [1, 2, 3, 4]) h | .exit id => (escheatref19_Fix_k1 n) (.exit id) e h | .ret => (escheatref19_Fix_k1 n) .ret e h
noncomputable def escheatref19_Fix_j0 (n m : Nat) (x1 x2 x3 x4 : Val) (h : Heap) : OptV := hold ((escheatref19_Fix_c38_d n) (escheatref19_Fix_k2 n m) [(1, x1), (2, x2), (3, x3), (4, x4)] h)
noncomputable def escheatref19_Fix_k3 (n m : Nat) : AExit → Env → Heap → OptV := fun x e h => match x with | .normal => hold ((escheatref19_Fix_c38_d n) (escheatref19_Fix_k2 n m) (e.keep [1, 2, 3, 4]) h) | .exit id => (escheatref19_Fix_k2 n m) (.exit id) e h | .ret => (escheatref19_Fix_k2 n m) .ret e h
noncomputable def escheatref19_Fix_k4 (n m : Nat) : AExit → Env → Heap → OptV := fun x e h => match x with | .exit i => bif Nat.beq i 1 then (escheatref19_Fix_k3 n m) .normal e h else (escheatref19_Fix_k3 n m) (.exit i) e h | .normal => (escheatref19_Fix_k3 n m) .normal e h | .ret => (escheatref19_Fix_k3 n m) .ret e h
noncomputable def escheatref19_Fix_k5 (n m : Nat) : AExit → Env → Heap → OptV := fun x e h => match x with | .normal => hold ((escheatref19_Fix_c32_d n) (escheatref19_Fix_k4 n m) (e.keep [1, 2, 3, 4, 6, 7]) h) | .exit id => (escheatref19_Fix_k4 n m) (.exit id) e h | .ret => (escheatref19_Fix_k4 n m) .ret e h
noncomputable def escheatref19_Fix_k6 (n m : Nat) : AExit → Env → Heap → OptV := fun x e h => match x with | .exit i => bif Nat.beq i 2 then (escheatref19_Fix_k5 n m) .normal e h else (escheatref19_Fix_k5 n m) (.exit i) e h | .normal => (escheatref19_Fix_k5 n m) .normal e h | .ret => (escheatref19_Fix_k5 n m) .ret e h
noncomputable def escheatref19_Fix_l1 (n m m2 : Nat) (x1 x2 x3 x4 x6 x7 x8 : Val) (h : Heap) : OptV := around (escheatref19_Fix_c25_d n) [1, 2, 3, 4, 6, 7, 8] (escheatref19_Fix_k6 n m) m2 [(1, x1), (2, x2), (3, x3), (4, x4), (6, x6), (7, x7), (8, x8)] h
theorem R_escheatref19_Fix_eq (n : Nat) (a0 : Val) (h : Heap) : R_escheatref19_Fix n [a0] h = bnd (cells? a0) fun c1 => bnd (afill ([.i .i64 0] ++ List.replicate 32 (.i .i64 0)) []) fun c2 => bnd (astoreN ((((h ++ [some (Row.mk (c1) true)]) ++ [some (Row.mk ([.i .i64 0] ++ List.replicate 32 (.i .i64 0)) true)]) ++ [some (Row.mk ([.i .i64 0] ++ List.replicate 32 (.i .i64 0)) true)])) 33 ((.c (.p (((h ++ [some (Row.mk (c1) true)]) ++ [some (Row.mk ([.i .i64 0] ++ List.replicate 32 (.i .i64 0)) true)])).length 0))) ((.a c2))) fun h3 => bnd (afAddr ((.c (.p h.length 0))) 0) fun v4 => bnd (aload1 h3 v4) fun v5 => bnd (abin .lss v5 (.c (.i .i64 0))) fun v6 => bnd (gd v6 false (bnd (afAddr ((.c (.p h.length 0))) 0) fun v7 => some (v7, h3)) (some (.no, h3))) fun p8 => bnd (gd v6 false (bnd (aload1 p8.2 p8.1) fun v9 => some (v9, p8.2)) (some (.no, p8.2))) fun p10 => bnd (gd v6 false (bnd (abin .gtr p10.1 (.c (.i .i64 5))) fun v11 => some (v11, p10.2)) (some (.no, p10.2))) fun p12 => bnd (apick v6 (.c (.b true)) p12.1) fun v13 => cnd v13 (bnd (aloadN p12.2 33 ((.c (.p (((h ++ [some (Row.mk (c1) true)]) ++ [some (Row.mk ([.i .i64 0] ++ List.replicate 32 (.i .i64 0)) true)])).length 0)))) fun v14 => bnd (astoreN p12.2 33 ((.c (.p ((h ++ [some (Row.mk (c1) true)])).length 0))) v14) fun h15 => mp (aloadN h15 33 ((.c (.p ((h ++ [some (Row.mk (c1) true)])).length 0)))) fun v => (v, h15)) (bnd (afAddr ((.c (.p h.length 0))) 0) fun v16 => bnd (aload1 p12.2 v16) fun v17 => bnd (afAddr ((.c (.p (((h ++ [some (Row.mk (c1) true)]) ++ [some (Row.mk ([.i .i64 0] ++ List.replicate 32 (.i .i64 0)) true)])).length 0))) 0) fun v18 => bnd (astore1 p12.2 v18 v17) fun h19 => escheatref19_Fix_l0 n n ((.c (.p h.length 0))) ((.c (.p ((h ++ [some (Row.mk (c1) true)])).length 0))) ((.c (.p (((h ++ [some (Row.mk (c1) true)]) ++ [some (Row.mk ([.i .i64 0] ++ List.replicate 32 (.i .i64 0)) true)])).length 0))) (.c (.i .i64 0)) h19) := by kernel_rfl
theorem escheatref19_Fix_l0_eq (n m : Nat) (x1 x2 x3 x4 : Val) (h : Heap) : escheatref19_Fix_l0 n (m + 1) x1 x2 x3 x4 h = bnd (afAddr x1 0) fun v20 => bnd (aload1 h v20) fun v21 => bnd (S_escheatref19_Pow [v21] h) fun p22 => bnd (abin .lss x4 p22.1) fun v23 => cnd v23 (bnd (afAddr x1 1) fun v24 => bnd (aiAddrA 32 1 v24 x4) fun v25 => bnd (aload1 p22.2 v25) fun v26 => bnd (abin .eql v26 (.c (.i .i64 0))) fun v27 => bnd (gd v27 false (some (x4, p22.2)) (some (.no, p22.2))) fun p28 => bnd (gd v27 false (bnd (afAddr x1 1) fun v29 => some (v29, p28.2)) (some (.no, p28.2))) fun p30 => bnd (gd v27 false (bnd (aiAddrA 32 1 p30.1 p28.1) fun v31 => some (v31, p30.2)) (some (.no, p30.2))) fun p32 => bnd (gd v27 false (bnd (aload1 p32.2 p32.1) fun v33 => some (v33, p32.2)) (some (.no, p32.2))) fun p34 => bnd (gd v27 false (bnd (S_escheatref19_Fine [p34.1] p34.2) fun p35 => some (p35.1, p35.2)) (some (.no, p34.2))) fun p36 => bnd (gd v27 false (bnd (aun .not p36.1) fun v37 => some (v37, p36.2)) (some (.no, p36.2))) fun p38 => bnd (apick v27 (.c (.b true)) p38.1) fun v39 => cnd v39 (escheatref19_Fix_j0 n m x1 x2 x3 x4 p38.2) (bnd (aloadN p38.2 33 x1) fun v40 => bnd (afAddr x1 1) fun v41 => bnd (aiAddrA 32 1 v41 x4) fun v42 => bnd (aload1 p38.2 v42) fun v43 => bnd (quiet ((p38.2 ++ [])) (S_escheatref19_Class [v40, v43] ((p38.2 ++ [])))) fun p44 => bnd (aext p44.1 0) fun v45 => bnd (aext p44.1 1) fun v46 => escheatref19_Fix_l1 n m n x1 x2 x3 x4 v46 (.c (.b true)) (.c (.i .i64 0)) p44.2)) (bnd (aloadN p22.2 33 x3) fun v47 => bnd (astoreN p22.2 33 x2 v47) fun h48 => mp (aloadN h48 33 x2) fun v => (v, h48)) := by kernel_rfl
theorem escheatref19_Fix_j0_eq (n m : Nat) (x1 x2 x3 x4 : Val) (h : Heap) : escheatref19_Fix_j0 n m x1 x2 x3 x4 h = bnd (abin .add x4 (.c (.i .i64 1))) fun v49 => escheatref19_Fix_l0 n m x1 x2 x3 v49 h := by kernel_rfl
theorem escheatref19_Fix_l1_eq (n m m2 : Nat) (x1 x2 x3 x4 x6 x7 x8 : Val) (h : Heap) : escheatref19_Fix_l1 n m (m2 + 1) x1 x2 x3 x4 x6 x7 x8 h = bnd (abin .lss x8 x4) fun v50 => cnd v50 (bnd (gd x7 true (some (x8, (h ++ []))) (some (.no, (h ++ [])))) fun p51 => bnd (gd x7 true (bnd (afAddr x1 1) fun v52 => some (v52, p51.2)) (some (.no, p51.2))) fun p53 => bnd (gd x7 true (bnd (aiAddrA 32 1 p53.1 p51.1) fun v54 => some (v54, p53.2)) (some (.no, p53.2))) fun p55 => bnd (gd x7 true (bnd (aload1 h p55.1) fun v56 => some (v56, p55.2)) (some (.no, p55.2))) fun p57 => bnd (gd x7 true (some (x4, p57.2)) (some (.no, p57.2))) fun p58 => bnd (gd x7 true (bnd (afAddr x1 1) fun v59 => some (v59, p58.2)) (some (.no, p58.2))) fun p60 => bnd (gd x7 true (bnd (aiAddrA 32 1 p60.1 p58.1) fun v61 => some (v61, p60.2)) (some (.no, p60.2))) fun p62 => bnd (gd x7 true (bnd (aload1 h p62.1) fun v63 => some (v63, p62.2)) (some (.no, p62.2))) fun p64 => bnd (gd x7 true (bnd (abin .neq p57.1 p64.1) fun v65 => some (v65, p64.2)) (some (.no, p64.2))) fun p66 => bnd (apick x7 p66.1 (.c (.b false))) fun v67 => bnd (abin .add x8 (.c (.i .i64 1))) fun v68 => escheatref19_Fix_l1 n m m2 x1 x2 x3 x4 x6 v67 v68 p66.2) (bnd (gd x6 false (some (x7, h)) (some (.no, h))) fun p69 => bnd (apick x6 (.c (.b true)) p69.1) fun v70 => cnd v70 (bnd (afAddr x1 1) fun v71 => bnd (aiAddrA 32 1 v71 x4) fun v72 => bnd (aload1 p69.2 v72) fun v73 => bnd (afAddr x3 1) fun v74 => bnd (aiAddrA 32 1 v74 x4) fun v75 => bnd (astore1 p69.2 v75 v73) fun h76 => escheatref19_Fix_j0 n m x1 x2 x3 x4 h76) (escheatref19_Fix_j0 n m x1 x2 x3 x4 p69.2)) := by kernel_rfl
theorem K_escheatref19_Fix : FnK Try.prog 192 A_escheatref19_Fix E_escheatref19_Fix R_escheatref19_Fix := .mk' (sound1 S_escheatref19_Pow_ok (sound1 S_escheatref19_Fine_ok (sound1 S_escheatref19_Class_ok sound0))) Try.func192 (by kernel_rfl) (by intro n args h; kernel_rfl)
noncomputable def S_escheatref19_Fix : Fun := tidy (Lim A_escheatref19_Fix E_escheatref19_Fix)
theorem S_escheatref19_Fix_ok : SOk Try.prog 192 S_escheatref19_Fix := K_escheatref19_Fix.sok
theorem S_escheatref19_Fix_flat {n : Nat} {args : List Val} {h h2 : Heap} {v : Val} (he : R_escheatref19_Fix n args (ro h) = some (v, h2)) (hf : v.flat = true) : S_escheatref19_Fix args h = some (v, h) := K_escheatref19_Fix.flat he hf
def escheatref19_Right_o0 : List AOper := [{ dst := some 1, op := .box (.t 0) }, { dst := some 2, op := .mv (.v (.c (.b false))) }]
def escheatref19_Right_c0 : ACode := .ops escheatref19_Right_o0
def escheatref19_Right_o1 : List AOper := [{ dst := some 3, op := .fAddr (.t 1) 0 }, { dst := some 4, op := .load1 (.t 3) }, { dst := some 5, op := .bin .geq (.t 4) (.v (.c (.i .i64 0))) }, { dst := some 6, op := .mv (.t 5) }, { dst := some 7, op := .fAddr (.t 1) 0, guard := some (6, true) }, { dst := some 8, op := .load1 (.t 7), guard := some (6, true) }, { dst := some 9, op := .bin .leq (.t 8) (.v (.c (.i .i64 5))), guard := some (6, true) }, { dst := some 10, op := .pick (.t 6) (.t 9) (.v (.c (.b false))) }, { dst := some 11, op := .mv (.t 10) }, { dst := some 12, op := .loadN 33 (.t 1), guard := some (11, true) }, { dst := some 13, op := .call 192 [(.t 12)], guard := some (11, true) }, { dst := some 14, op := .loadN 33 (.t 1), guard := some (11, true) }]
def escheatref19_Right_o2 : List AOper := [{ dst := some 15, op := .eqA false ([.i .i64] ++ List.replicate 32 (.i .i64)) (.t 13) (.t 14), guard := some (11, true) }, { dst := some 16, op := .pick (.t 11) (.t 15) (.v (.c (.b false))) }, { dst := some 2, op := .mv (.t 16) }]
def escheatref19_Right_c1 : ACode := .draw 0 escheatref19_Right_o1 escheatref19_Right_o2
def escheatref19_Right_c2 : ACode := .seq [2] escheatref19_Right_c1 .ret
def escheatref19_Right_c3 : ACode := .seq [1] escheatref19_Right_c0 escheatref19_Right_c2
def A_escheatref19_Right : AFn := ⟨escheatref19_Right_c3, [.tmp 2]⟩
noncomputable def E_escheatref19_Right : Sums := disp 192 S_escheatref19_Fix disp0
noncomputable def escheatref19_Right_c0_d (n : Nat) : SmV := smOps E_escheatref19_Right escheatref19_Right_o0
noncomputable def escheatref19_Right_c1_d (n : Nat) : SmV := smDraw E_escheatref19_Right 0 escheatref19_Right_o1 escheatref19_Right_o2
noncomputable def escheatref19_Right_c2_d (n : Nat) : SmV := smSeq [2] (escheatref19_Right_c1_d n) smRet
noncomputable def escheatref19_Right_c3_d (n : Nat) : SmV := smSeq [1] (escheatref19_Right_c0_d n) (escheatref19_Right_c2_d n)
noncomputable def R_escheatref19_Right (n : Nat) (args : List Val) (h : Heap) : OptV := (escheatref19_Right_c3_d n) A_escheatref19_Right.fin (params 0 args) h
theorem R_escheatref19_Right_eq (n : Nat) (a0 : Val) (h : Heap) : R_escheatref19_Right n [a0] h = bnd (cells? a0) fun c1 => bnd (afAddr ((.c (.p h.length 0))) 0) fun v2 => bnd (aload1 ((h ++ [some (Row.mk (c1) true)])) v2) fun v3 => bnd (abin .geq v3 (.c (.i .i64 0))) fun v4 => bnd (gd v4 true (bnd (afAddr ((.c (.p h.length 0))) 0) fun v5 => some (v5, (((h ++ [some (Row.mk (c1) true)])) ++ []))) (some (.no, (((h ++ [some (Row.mk (c1) true)])) ++ [])))) fun p6 => bnd (gd v4 true (bnd (aload1 ((h ++ [some (Row.mk (c1) true)])) p6.1) fun v7 => some (v7, p6.2)) (some (.no, p6.2))) fun p8 => bnd (gd v4 true (bnd (abin .leq p8.1 (.c (.i .i64 5))) fun v9 => some (v9, p8.2)) (some (.no, p8.2))) fun p10 => bnd (apick v4 p10.1 (.c (.b false))) fun v11 => bnd (gd v11 true (bnd (aloadN ((h ++ [some (Row.mk (c1) true)])) 33 ((.c (.p h.length 0)))) fun v12 => some (v12, p10.2)) (some (.no, p10.2))) fun p13 => bnd (gd v11 true (bnd (quiet p13.2 (S_escheatref19_Fix [p13.1] p13.2)) fun p14 => some (p14.1, p14.2)) (some (.no, p13.2))) fun p15 => bnd (gd v11 true (bnd (aloadN ((h ++ [some (Row.mk (c1) true)])) 33 ((.c (.p h.length 0)))) fun v16 => some (v16, p15.2)) (some (.no, p15.2))) fun p17 => bnd (gd v11 true (bnd (aeq false ([.i .i64] ++ List.replicate 32 (.i .i64)) p15.1 p17.1) fun v18 => some (v18, p17.2)) (some (.no, p17.2))) fun p19 => bnd (apick v11 p19.1 (.c (.b false))) fun v20 => some (v20, p19.2) := by kernel_rfl
theorem K_escheatref19_Right : FnK Try.prog 142 A_escheatref19_Right E_escheatref19_Right R_escheatref19_Right := .mk' (sound1 S_escheatref19_Fix_ok sound0) Try.func142 (by kernel_rfl) (by intro n args h; kernel_rfl)
noncomputable def S_escheatref19_Right : Fun := tidy (Lim A_escheatref19_Right E_escheatref19_Right)
theorem S_escheatref19_Right_ok : SOk Try.prog 142 S_escheatref19_Right := K_escheatref19_Right.sok
theorem S_escheatref19_Right_flat {n : Nat} {args : List Val} {h h2 : Heap} {v : Val} (he : R_escheatref19_Right n args (ro h) = some (v, h2)) (hf : v.flat = true) : S_escheatref19_Right args h = some (v, h) := K_escheatref19_Right.flat he hf
def escheatref19_Get_o0 : List AOper := [{ dst := some 2, op := .alloc ([.i .i64 0] ++ List.replicate 32 (.i .i64 0)) }, { dst := some 3, op := .mv (.v (.c (.b false))) }]
def escheatref19_Get_c0 : ACode := .ops escheatref19_Get_o0
def escheatref19_Get_o1 : List AOper := [{ dst := some 9, op := .mv (.t 0) }, { dst := some 10, op := .call 83 [(.t 9), (.v (.c (.i .i64 4))), (.v (.c (.i .i64 1)))] }, { dst := some 11, op := .build ([.i .i64 0] ++ List.replicate 32 (.i .i64 0)) [(0, 1, (.t 10))] }, { dst := some 4, op := .alloc ([.i .i64 0] ++ List.replicate 32 (.i .i64 0)) }, { dst := none, op := .storeN 33 (.t 4) (.t 11) }]
def escheatref19_Get_c1 : ACode := .ops escheatref19_Get_o1
def escheatref19_Get_o2 : List AOper := [{ dst := some 5, op := .mv (.v (.c (.i .i64 0))) }]
def escheatref19_Get_c2 : ACode := .ops escheatref19_Get_o2
def escheatref19_Get_o3 : List AOper := [{ dst := some 12, op := .mv (.t 5) }, { dst := some 13, op := .bin .lss (.t 12) (.v (.c (.i .i64 32))) }]
def escheatref19_Get_c3 : ACode := .ops escheatref19_Get_o3
def escheatref19_Get_c4 : ACode := .cond (.t 13) .skip (.exit 0)
def escheatref19_Get_c5 : ACode := .seq [0, 2, 4, 5, 13] escheatref19_Get_c3 escheatref19_Get_c4
def escheatref19_Get_o4 : List AOper := [{ dst := some 16, op := .mv (.t 5) }, { dst := some 17, op := .mv (.t 0) }, { dst := some 18, op := .mv (.t 5) }, { dst := some 19, op := .bin .mul (.v (.c (.i .i64 2))) (.t 18) }, { dst := some 20, op := .bin .add (.v (.c (.i .i64 32))) (.t 19) }, { dst := some 21, op := .call 83 [(.t 17), (.t 20), (.v (.c (.i .i64 2)))] }, { dst := some 22, op := .fAddr (.t 4) 1 }, { dst := some 23, op := .iAddrA 32 1 (.t 22) (.t 16) }, { dst := none, op := .store1 (.t 23) (.t 21) }]
def escheatref19_Get_c6 : ACode := .ops escheatref19_Get_o4
def escheatref19_Get_c7 : ACode := .block 1 escheatref19_Get_c6
def escheatref19_Get_o5 : List AOper := [{ dst := some 14, op := .mv (.t 5) }, { dst := some 15, op := .bin .add (.t 14) (.v (.c (.i .i64 1))) }, { dst := some 5, op := .mv (.t 15) }]
def escheatref19_Get_c8 : ACode := .ops escheatref19_Get_o5
def escheatref19_Get_c9 : ACode := .seq [0, 2, 4, 5] escheatref19_Get_c7 escheatref19_Get_c8
def escheatref19_Get_c10 : ACode := .seq [0, 2, 4, 5] escheatref19_Get_c5 escheatref19_Get_c9
def escheatref19_Get_c11 : ACode := .loop [0, 2, 4, 5] escheatref19_Get_c10
def escheatref19_Get_c12 : ACode := .block 0 escheatref19_Get_c11
def escheatref19_Get_c13 : ACode := .seq [0, 2, 4, 5] escheatref19_Get_c2 escheatref19_Get_c12
def escheatref19_Get_o6 : List AOper := [{ dst := some 25, op := .loadN 33 (.t 4) }, { dst := some 26, op := .call 141 [(.t 25)] }, { dst := some 24, op := .mv (.t 26) }, { dst := some 27, op := .ext (.t 24) 0 }, { dst := some 28, op := .ext (.t 24) 1 }, { dst := some 6, op := .mv (.t 27) }, { dst := some 7, op := .mv (.t 28) }]
def escheatref19_Get_c14 : ACode := .ops escheatref19_Get_o6
def escheatref19_Get_o7 : List AOper := [{ dst := some 29, op := .mv (.t 7) }, { dst := some 30, op := .un .not (.t 29) }, { dst := some 31, op := .mv (.t 30) }, { dst := some 32, op := .mv (.t 6), guard := some (31, false) }, { dst := some 33, op := .mv (.t 0), guard := some (31, false) }, { dst := some 34, op := .call 47 [(.t 32), (.t 33)], guard := some (31, false) }, { dst := some 35, op := .un .not (.t 34), guard := some (31, false) }, { dst := some 36, op := .pick (.t 31) (.v (.c (.b true))) (.t 35) }]
def escheatref19_Get_c15 : ACode := .ops escheatref19_Get_o7
def escheatref19_Get_o8 : List AOper := [{ dst := some 37, op := .build ([.i .i64 0] ++ List.replicate 32 (.i .i64 0)) [] }, { dst := none, op := .storeN 33 (.t 2) (.t 37) }, { dst := some 3, op := .mv (.v (.c (.b false))) }]
def escheatref19_Get_c16 : ACode := .ops escheatref19_Get_o8
def escheatref19_Get_c17 : ACode := .seq [2, 3] escheatref19_Get_c16 .ret
def escheatref19_Get_c18 : ACode := .cond (.t 36) escheatref19_Get_c17 .skip
def escheatref19_Get_c19 : ACode := .seq [2, 4, 36] escheatref19_Get_c15 escheatref19_Get_c18
def escheatref19_Get_o9 : List AOper := [{ dst := some 38, op := .fAddr (.t 4) 0 }, { dst := some 39, op := .load1 (.t 38) }, { dst := some 40, op := .call 189 [(.t 39)] }, { dst := some 8, op := .mv (.t 40) }]
def escheatref19_Get_c20 : ACode := .ops escheatref19_Get_o9
def escheatref19_Get_o10 : List AOper := [{ dst := some 41, op := .mv (.t 8) }, { dst := some 42, op := .bin .lss (.t 41) (.v (.c (.i .i64 32))) }]
def escheatref19_Get_c21 : ACode := .ops escheatref19_Get_o10
def escheatref19_Get_c22 : ACode := .cond (.t 42) .skip (.exit 2)
def escheatref19_Get_c23 : ACode := .seq [2, 4, 8, 42] escheatref19_Get_c21 escheatref19_Get_c22
def escheatref19_Get_o11 : List AOper := [{ dst := some 45, op := .mv (.t 8) }, { dst := some 46, op := .fAddr (.t 4) 1 }, { dst := some 47, op := .iAddrA 32 1 (.t 46) (.t 45) }, { dst := some 48, op := .load1 (.t 47) }, { dst := some 49, op := .bin .neq (.t 48) (.v (.c (.i .i64 0))) }]
def escheatref19_Get_c24 : ACode := .ops escheatref19_Get_o11
def escheatref19_Get_o12 : List AOper := [{ dst := some 50, op := .build ([.i .i64 0] ++ List.replicate 32 (.i .i64 0)) [] }, { dst := none, op := .storeN 33 (.t 2) (.t 50) }, { dst := some 3, op := .mv (.v (.c (.b false))) }]
def escheatref19_Get_c25 : ACode := .ops escheatref19_Get_o12
def escheatref19_Get_c26 : ACode := .seq [2, 3] escheatref19_Get_c25 .ret
def escheatref19_Get_c27 : ACode := .cond (.t 49) escheatref19_Get_c26 .skip
def escheatref19_Get_c28 : ACode := .seq [2, 4, 8, 49] escheatref19_Get_c24 escheatref19_Get_c27
def escheatref19_Get_c29 : ACode := .block 3 escheatref19_Get_c28
def escheatref19_Get_o13 : List AOper := [{ dst := some 43, op := .mv (.t 8) }, { dst := some 44, op := .bin .add (.t 43) (.v (.c (.i .i64 1))) }, { dst := some 8, op := .mv (.t 44) }]
def escheatref19_Get_c30 : ACode := .ops escheatref19_Get_o13
def escheatref19_Get_c31 : ACode := .seq [2, 4, 8] escheatref19_Get_c29 escheatref19_Get_c30
def escheatref19_Get_c32 : ACode := .seq [2, 4, 8] escheatref19_Get_c23 escheatref19_Get_c31
def escheatref19_Get_c33 : ACode := .loop [2, 4, 8] escheatref19_Get_c32
def escheatref19_Get_c34 : ACode := .block 2 escheatref19_Get_c33
def escheatref19_Get_c35 : ACode := .seq [2, 4, 8] escheatref19_Get_c20 escheatref19_Get_c34
def escheatref19_Get_o14 : List AOper := [{ dst := some 51, op := .loadN 33 (.t 4) }, { dst := none, op := .storeN 33 (.t 2) (.t 51) }, { dst := some 3, op := .mv (.v (.c (.b true))) }]
def escheatref19_Get_c36 : ACode := .ops escheatref19_Get_o14
def escheatref19_Get_c37 : ACode := .seq [2, 3] escheatref19_Get_c36 .ret
def escheatref19_Get_c38 : ACode := .seq [2, 4] escheatref19_Get_c35 escheatref19_Get_c37
def escheatref19_Get_c39 : ACode := .seq [2, 4] escheatref19_Get_c19 escheatref19_Get_c38
def escheatref19_Get_c40 : ACode := .seq [0, 2, 4, 6, 7] escheatref19_Get_c14 escheatref19_Get_c39
def escheatref19_Get_c41 : ACode := .seq [0, 2, 4] escheatref19_Get_c13 escheatref19_Get_c40
def escheatref19_Get_c42 : ACode := .seq [0, 2, 4] escheatref19_Get_c1 escheatref19_Get_c41
def escheatref19_Get_c43 : ACode := .seq [0, 2] escheatref19_Get_c0 escheatref19_Get_c42
def A_escheatref19_Get : AFn := ⟨escheatref19_Get_c43, [.cellN 2 33, .tmp 3]⟩
noncomputable def E_escheatref19_Get : Sums := disp 83 S_escheatref01_At (disp 141 S_escheatref19_Put (disp 47 S_escheatref01_Same (disp 189 S_escheatref19_Pow disp0)))
noncomputable def escheatref19_Get_c0_d (n : Nat) : SmV := smOps E_escheatref19_Get escheatref19_Get_o0
noncomputable def escheatref19_Get_c1_d (n : Nat) : SmV := smOps E_escheatref19_Get escheatref19_Get_o1
noncomputable def escheatref19_Get_c2_d (n : Nat) : SmV := smOps E_escheatref19_Get escheatref19_Get_o2
noncomputable def escheatref19_Get_c3_d (n : Nat) : SmV := smOps E_escheatref19_Get escheatref19_Get_o3
noncomputable def escheatref19_Get_c4_d (n : Nat) : SmV := smCond (.t 13) smSkip (smExit 0)
noncomputable def escheatref19_Get_c5_d (n : Nat) : SmV := smSeq [0, 2, 4, 5, 13] (escheatref19_Get_c3_d n) (escheatref19_Get_c4_d n)
noncomputable def escheatref19_Get_c6_d (n : Nat) : SmV := smOps E_escheatref19_Get escheatref19_Get_o4
noncomputable def escheatref19_Get_c7_d (n : Nat) : SmV := smBlock 1 (escheatref19_Get_c6_d n)
noncomputable def escheatref19_Get_c8_d (n : Nat) : SmV := smOps E_escheatref19_Get escheatref19_Get_o5
noncomputable def escheatref19_Get_c9_d (n : Nat) : SmV := smSeq [0, 2, 4, 5] (escheatref19_Get_c7_d n) (escheatref19_Get_c8_d n)
noncomputable def escheatref19_Get_c10_d (n : Nat) : SmV := smSeq [0, 2, 4, 5] (escheatref19_Get_c5_d n) (escheatref19_Get_c9_d n)
noncomputable def escheatref19_Get_c11_d (n : Nat) : SmV := smLoop n [0, 2, 4, 5] (escheatref19_Get_c10_d n)
noncomputable def escheatref19_Get_c12_d (n : Nat) : SmV := smBlock 0 (escheatref19_Get_c11_d n)
noncomputable def escheatref19_Get_c13_d (n : Nat) : SmV := smSeq [0, 2, 4, 5] (escheatref19_Get_c2_d n) (escheatref19_Get_c12_d n)
noncomputable def escheatref19_Get_c14_d (n : Nat) : SmV := smOps E_escheatref19_Get escheatref19_Get_o6
noncomputable def escheatref19_Get_c15_d (n : Nat) : SmV := smOps E_escheatref19_Get escheatref19_Get_o7
noncomputable def escheatref19_Get_c16_d (n : Nat) : SmV := smOps E_escheatref19_Get escheatref19_Get_o8
noncomputable def escheatref19_Get_c17_d (n : Nat) : SmV := smSeq [2, 3] (escheatref19_Get_c16_d n) smRet
noncomputable def escheatref19_Get_c18_d (n : Nat) : SmV := smCond (.t 36) (escheatref19_Get_c17_d n) smSkip
noncomputable def escheatref19_Get_c19_d (n : Nat) : SmV := smSeq [2, 4, 36] (escheatref19_Get_c15_d n) (escheatref19_Get_c18_d n)
noncomputable def escheatref19_Get_c20_d (n : Nat) : SmV := smOps E_escheatref19_Get escheatref19_Get_o9
noncomputable def escheatref19_Get_c21_d (n : Nat) : SmV := smOps E_escheatref19_Get escheatref19_Get_o10
noncomputable def escheatref19_Get_c22_d (n : Nat) : SmV := smCond (.t 42) smSkip (smExit 2)
noncomputable def escheatref19_Get_c23_d (n : Nat) : SmV := smSeq [2, 4, 8, 42] (escheatref19_Get_c21_d n) (escheatref19_Get_c22_d n)
noncomputable def escheatref19_Get_c24_d (n : Nat) : SmV := smOps E_escheatref19_Get escheatref19_Get_o11
noncomputable def escheatref19_Get_c25_d (n : Nat) : SmV := smOps E_escheatref19_Get escheatref19_Get_o12
noncomputable def escheatref19_Get_c26_d (n : Nat) : SmV := smSeq [2, 3] (escheatref19_Get_c25_d n) smRet
noncomputable def escheatref19_Get_c27_d (n : Nat) : SmV := smCond (.t 49) (escheatref19_Get_c26_d n) smSkip
noncomputable def escheatref19_Get_c28_d (n : Nat) : SmV := smSeq [2, 4, 8, 49] (escheatref19_Get_c24_d n) (escheatref19_Get_c27_d n)
noncomputable def escheatref19_Get_c29_d (n : Nat) : SmV := smBlock 3 (escheatref19_Get_c28_d n)
noncomputable def escheatref19_Get_c30_d (n : Nat) : SmV := smOps E_escheatref19_Get escheatref19_Get_o13
noncomputable def escheatref19_Get_c31_d (n : Nat) : SmV := smSeq [2, 4, 8] (escheatref19_Get_c29_d n) (escheatref19_Get_c30_d n)
noncomputable def escheatref19_Get_c32_d (n : Nat) : SmV := smSeq [2, 4, 8] (escheatref19_Get_c23_d n) (escheatref19_Get_c31_d n)
noncomputable def escheatref19_Get_c33_d (n : Nat) : SmV := smLoop n [2, 4, 8] (escheatref19_Get_c32_d n)
noncomputable def escheatref19_Get_c34_d (n : Nat) : SmV := smBlock 2 (escheatref19_Get_c33_d n)
noncomputable def escheatref19_Get_c35_d (n : Nat) : SmV := smSeq [2, 4, 8] (escheatref19_Get_c20_d n) (escheatref19_Get_c34_d n)
noncomputable def escheatref19_Get_c36_d (n : Nat) : SmV := smOps E_escheatref19_Get escheatref19_Get_o14
noncomputable def escheatref19_Get_c37_d (n : Nat) : SmV := smSeq [2, 3] (escheatref19_Get_c36_d n) smRet
noncomputable def escheatref19_Get_c38_d (n : Nat) : SmV := smSeq [2, 4] (escheatref19_Get_c35_d n) (escheatref19_Get_c37_d n)
noncomputable def escheatref19_Get_c39_d (n : Nat) : SmV := smSeq [2, 4] (escheatref19_Get_c19_d n) (escheatref19_Get_c38_d n)
noncomputable def escheatref19_Get_c40_d (n : Nat) : SmV := smSeq [0, 2, 4, 6, 7] (escheatref19_Get_c14_d n) (escheatref19_Get_c39_d n)
noncomputable def escheatref19_Get_c41_d (n : Nat) : SmV := smSeq [0, 2, 4] (escheatref19_Get_c13_d n) (escheatref19_Get_c40_d n)
noncomputable def escheatref19_Get_c42_d (n : Nat) : SmV := smSeq [0, 2, 4] (escheatref19_Get_c1_d n) (escheatref19_Get_c41_d n)
noncomputable def escheatref19_Get_c43_d (n : Nat) : SmV := smSeq [0, 2] (escheatref19_Get_c0_d n) (escheatref19_Get_c42_d n)
noncomputable def escheatref19_Get_k0 (n : Nat) : AExit → Env → Heap → OptV := fun x e h => match x with | .normal => hold ((escheatref19_Get_c40_d n) A_escheatref19_Get.fin (e.keep [0, 2, 4]) h) | .exit id => A_escheatref19_Get.fin (.exit id) e h | .ret => A_escheatref19_Get.fin .ret e h
noncomputable def escheatref19_Get_k1 (n : Nat) : AExit → Env → Heap → OptV := fun x e h => match x with | .exit i => bif Nat.beq i 0 then (escheatref19_Get_k0 n) .normal e h else (escheatref19_Get_k0 n) (.exit i) e h | .normal => (escheatref19_Get_k0 n) .normal e h | .ret => (escheatref19_Get_k0 n) .ret e h
noncomputable def escheatref19_Get_l0 (n m : Nat) (x0 x2 x4 x5 : Val) (h : Heap) : OptV := around (escheatref19_Get_c10_d n) [0, 2, 4, 5] (escheatref19_Get_k1 n) m [(0, x0), (2, x2), (4, x4), (5, x5)] h
noncomputable def R_escheatref19_Get (n : Nat) (args : List Val) (h : Heap) : OptV := (escheatref19_Get_c43_d n) A_escheatref19_Get.fin (params 0 args) h
noncomputable def escheatref19_Get_k2 (n : Nat) : AExit → Env → Heap → OptV := fun x e h => match x with | .normal => hold ((escheatref19_Get_c37_d n) A_escheatref19_Get.fin (e.keep [2, 4]) h) | .exit id => A_escheatref19_Get.fin (.exit id) e h | .ret => A_escheatref19_Get.fin .ret e h
noncomputable def escheatref19_Get_k3 (n : Nat) : AExit → Env → Heap → OptV := fun x e h => match x with | .exit i => bif Nat.beq i 2 then (escheatref19_Get_k2 n) .normal e h else (escheatref19_Get_k2 n) (.exit i) e h | .normal => (escheatref19_Get_k2 n) .normal e h | .ret => (escheatref19_Get_k2 n) .ret e h
noncomputable def escheatref19_Get_l1 (n m : Nat) (x2 x4 x8 : Val) (h : Heap) : OptV := around (escheatref19_Get_c32_d n) [2, 4, 8] (escheatref19_Get_k3 n) m [(2, x2), (4, x4), (8, x8)] h
theorem R_escheatref19_Get_eq (n : Nat) (a0 : Val) (h : Heap) : R_escheatref19_Get n [a0] h = bnd (S_escheatref01_At [a0, .c (.i .i64 4), .c (.i .i64 1)] ((h ++ [some (Row.mk ([.i .i64 0] ++ List.replicate 32 (.i .i64 0)) true)]))) fun p1 => bnd (afill ([.i .i64 0] ++ List.replicate 32 (.i .i64 0)) [(0, 1, p1.1)]) fun c2 => bnd (astoreN ((p1.2 ++ [some (Row.mk ([.i .i64 0] ++ List.replicate 32 (.i .i64 0)) true)])) 33 ((.c (.p p1.2.length 0))) ((.a c2))) fun h3 => escheatref19_Get_l0 n n a0 ((.c (.p h.length 0))) ((.c (.p p1.2.length 0))) (.c (.i .i64 0)) h3 := by kernel_rfl
theorem escheatref19_Get_l0_eq (n m : Nat) (x0 x2 x4 x5 : Val) (h : Heap) : escheatref19_Get_l0 n (m + 1) x0 x2 x4 x5 h = bnd (abin .lss x5 (.c (.i .i64 32))) fun v4 => cnd v4 (bnd (abin .mul (.c (.i .i64 2)) x5) fun v5 => bnd (abin .add (.c (.i .i64 32)) v5) fun v6 => bnd (S_escheatref01_At [x0, v6, .c (.i .i64 2)] h) fun p7 => bnd (afAddr x4 1) fun v8 => bnd (aiAddrA 32 1 v8 x5) fun v9 => bnd (astore1 p7.2 v9 p7.1) fun h10 => bnd (abin .add x5 (.c (.i .i64 1))) fun v11 => escheatref19_Get_l0 n m x0 x2 x4 v11 h10) (bnd (aloadN h 33 x4) fun v12 => bnd (S_escheatref19_Put [v12] h) fun p13 => bnd (aext p13.1 0) fun v14 => bnd (aext p13.1 1) fun v15 => bnd (aun .not v15) fun v16 => bnd (gd v16 false (some (v14, p13.2)) (some (.no, p13.2))) fun p17 => bnd (gd v16 false (some (x0, p17.2)) (some (.no, p17.2))) fun p18 => bnd (gd v16 false (bnd (S_escheatref01_Same [p17.1, p18.1] p18.2) fun p19 => some (p19.1, p19.2)) (some (.no, p18.2))) fun p20 => bnd (gd v16 false (bnd (aun .not p20.1) fun v21 => some (v21, p20.2)) (some (.no, p20.2))) fun p22 => bnd (apick v16 (.c (.b true)) p22.1) fun v23 => cnd v23 (bnd (afill ([.i .i64 0] ++ List.replicate 32 (.i .i64 0)) []) fun c24 => bnd (astoreN p22.2 33 x2 ((.a c24))) fun h25 => tupN [aloadN h25 33 x2, some (.c (.b false))] h25) (bnd (afAddr x4 0) fun v26 => bnd (aload1 p22.2 v26) fun v27 => bnd (S_escheatref19_Pow [v27] p22.2) fun p28 => escheatref19_Get_l1 n n x2 x4 p28.1 p28.2)) := by kernel_rfl
theorem escheatref19_Get_l1_eq (n m : Nat) (x2 x4 x8 : Val) (h : Heap) : escheatref19_Get_l1 n (m + 1) x2 x4 x8 h = bnd (abin .lss x8 (.c (.i .i64 32))) fun v29 => cnd v29 (bnd (afAddr x4 1) fun v30 => bnd (aiAddrA 32 1 v30 x8) fun v31 => bnd (aload1 h v31) fun v32 => bnd (abin .neq v32 (.c (.i .i64 0))) fun v33 => cnd v33 (bnd (afill ([.i .i64 0] ++ List.replicate 32 (.i .i64 0)) []) fun c34 => bnd (astoreN h 33 x2 ((.a c34))) fun h35 => tupN [aloadN h35 33 x2, some (.c (.b false))] h35) (bnd (abin .add x8 (.c (.i .i64 1))) fun v36 => escheatref19_Get_l1 n m x2 x4 v36 h)) (bnd (aloadN h 33 x4) fun v37 => bnd (astoreN h 33 x2 v37) fun h38 => tupN [aloadN h38 33 x2, some (.c (.b true))] h38) := by kernel_rfl
theorem K_escheatref19_Get : FnK Try.prog 144 A_escheatref19_Get E_escheatref19_Get R_escheatref19_Get := .mk' (sound1 S_escheatref01_At_ok (sound1 S_escheatref19_Put_ok (sound1 S_escheatref01_Same_ok (sound1 S_escheatref19_Pow_ok sound0)))) Try.func144 (by kernel_rfl) (by intro n args h; kernel_rfl)
noncomputable def S_escheatref19_Get : Fun := tidy (Lim A_escheatref19_Get E_escheatref19_Get)
theorem S_escheatref19_Get_ok : SOk Try.prog 144 S_escheatref19_Get := K_escheatref19_Get.sok
theorem S_escheatref19_Get_flat {n : Nat} {args : List Val} {h h2 : Heap} {v : Val} (he : R_escheatref19_Get n args (ro h) = some (v, h2)) (hf : v.flat = true) : S_escheatref19_Get args h = some (v, h) := K_escheatref19_Get.flat he hf
end Go.Proofs.Ytbbkpmbepljhkaa
