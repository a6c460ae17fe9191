/- Escheatref18: the Go functions of this package as the abstract evaluator computes them: printed by a program, checked by Lean. -/
import Derived.Test.YtbbkpmbepljhkaaEscS
import Derived.Test.YtbbkpmbepljhkaaChecked
import Derived.KernelRfl
import Derived.Test.YtbbkpmbepljhkaaGEscheatref01
import Derived.Test.YtbbkpmbepljhkaaGEscheatref03
namespace Go.Proofs.Ytbbkpmbepljhkaa
open Go Go.Esc
set_option maxRecDepth 100000
set_option linter.all false
def escheatref18_Much_o0 : List AOper := [{ dst := some 4, op := .mv (.v (.c (.b false))) }]
def escheatref18_Much_c0 : ACode := .ops escheatref18_Much_o0
def escheatref18_Much_o1 : List AOper := [{ dst := some 6, op := .mv (.t 0) }, { dst := some 7, op := .len (.t 6) }, { dst := some 8, op := .mv (.t 1) }, { dst := some 9, op := .bin .gtr (.t 7) (.t 8) }]
def escheatref18_Much_c1 : ACode := .ops escheatref18_Much_o1
def escheatref18_Much_o2 : List AOper := [{ dst := some 4, op := .mv (.v (.c (.b true))) }]
def escheatref18_Much_c2 : ACode := .ops escheatref18_Much_o2
def escheatref18_Much_c3 : ACode := .seq [4] escheatref18_Much_c2 .ret
def escheatref18_Much_c4 : ACode := .cond (.t 9) escheatref18_Much_c3 .skip
def escheatref18_Much_c5 : ACode := .seq [0, 9] escheatref18_Much_c1 escheatref18_Much_c4
def escheatref18_Much_o3 : List AOper := [{ dst := some 5, op := .mv (.v (.c (.i .i64 0))) }]
def escheatref18_Much_c6 : ACode := .ops escheatref18_Much_o3
def escheatref18_Much_o4 : List AOper := [{ dst := some 10, op := .mv (.t 5) }, { dst := some 11, op := .mv (.t 0) }, { dst := some 12, op := .len (.t 11) }, { dst := some 13, op := .bin .lss (.t 10) (.t 12) }]
def escheatref18_Much_c7 : ACode := .ops escheatref18_Much_o4
def escheatref18_Much_c8 : ACode := .cond (.t 13) .skip (.exit 0)
def escheatref18_Much_c9 : ACode := .seq [0, 5, 13] escheatref18_Much_c7 escheatref18_Much_c8
def escheatref18_Much_o5 : List AOper := [{ dst := some 16, op := .mv (.t 0) }, { dst := some 17, op := .mv (.t 5) }, { dst := some 18, op := .iAddrL 2 (.t 16) (.t 17) }, { dst := some 19, op := .fAddr (.t 18) 0 }, { dst := some 20, op := .load1 (.t 19) }, { dst := some 21, op := .lenS (.t 20) }, { dst := some 22, op := .bin .gtr (.t 21) (.v (.c (.i .i64 60))) }]
def escheatref18_Much_c10 : ACode := .ops escheatref18_Much_o5
def escheatref18_Much_o6 : List AOper := [{ dst := some 4, op := .mv (.v (.c (.b true))) }]
def escheatref18_Much_c11 : ACode := .ops escheatref18_Much_o6
def escheatref18_Much_c12 : ACode := .seq [4] escheatref18_Much_c11 .ret
def escheatref18_Much_c13 : ACode := .cond (.t 22) escheatref18_Much_c12 .skip
def escheatref18_Much_c14 : ACode := .seq [0, 5, 22] escheatref18_Much_c10 escheatref18_Much_c13
def escheatref18_Much_c15 : ACode := .block 1 escheatref18_Much_c14
def escheatref18_Much_o7 : List AOper := [{ dst := some 14, op := .mv (.t 5) }, { dst := some 15, op := .bin .add (.t 14) (.v (.c (.i .i64 1))) }, { dst := some 5, op := .mv (.t 15) }]
def escheatref18_Much_c16 : ACode := .ops escheatref18_Much_o7
def escheatref18_Much_c17 : ACode := .seq [0, 5] escheatref18_Much_c15 escheatref18_Much_c16
def escheatref18_Much_c18 : ACode := .seq [0, 5] escheatref18_Much_c9 escheatref18_Much_c17
def escheatref18_Much_c19 : ACode := .loop [0, 5] escheatref18_Much_c18
def escheatref18_Much_c20 : ACode := .block 0 escheatref18_Much_c19
def escheatref18_Much_c21 : ACode := .seq [0, 5] escheatref18_Much_c6 escheatref18_Much_c20
def escheatref18_Much_o8 : List AOper := [{ dst := some 4, op := .mv (.v (.c (.b false))) }]
def escheatref18_Much_c22 : ACode := .ops escheatref18_Much_o8
def escheatref18_Much_c23 : ACode := .seq [4] escheatref18_Much_c22 .ret
def escheatref18_Much_c24 : ACode := .seq [] escheatref18_Much_c21 escheatref18_Much_c23
def escheatref18_Much_c25 : ACode := .seq [0] escheatref18_Much_c5 escheatref18_Much_c24
def escheatref18_Much_c26 : ACode := .seq [0, 1] escheatref18_Much_c0 escheatref18_Much_c25
def A_escheatref18_Much : AFn := ⟨escheatref18_Much_c26, [.tmp 4]⟩
noncomputable def E_escheatref18_Much : Sums := disp0
noncomputable def escheatref18_Much_c0_d (n : Nat) : SmV := smOps E_escheatref18_Much escheatref18_Much_o0
noncomputable def escheatref18_Much_c1_d (n : Nat) : SmV := smOps E_escheatref18_Much escheatref18_Much_o1
noncomputable def escheatref18_Much_c2_d (n : Nat) : SmV := smOps E_escheatref18_Much escheatref18_Much_o2
noncomputable def escheatref18_Much_c3_d (n : Nat) : SmV := smSeq [4] (escheatref18_Much_c2_d n) smRet
noncomputable def escheatref18_Much_c4_d (n : Nat) : SmV := smCond (.t 9) (escheatref18_Much_c3_d n) smSkip
noncomputable def escheatref18_Much_c5_d (n : Nat) : SmV := smSeq [0, 9] (escheatref18_Much_c1_d n) (escheatref18_Much_c4_d n)
noncomputable def escheatref18_Much_c6_d (n : Nat) : SmV := smOps E_escheatref18_Much escheatref18_Much_o3
noncomputable def escheatref18_Much_c7_d (n : Nat) : SmV := smOps E_escheatref18_Much escheatref18_Much_o4
noncomputable def escheatref18_Much_c8_d (n : Nat) : SmV := smCond (.t 13) smSkip (smExit 0)
noncomputable def escheatref18_Much_c9_d (n : Nat) : SmV := smSeq [0, 5, 13] (escheatref18_Much_c7_d n) (escheatref18_Much_c8_d n)
noncomputable def escheatref18_Much_c10_d (n : Nat) : SmV := smOps E_escheatref18_Much escheatref18_Much_o5
noncomputable def escheatref18_Much_c11_d (n : Nat) : SmV := smOps E_escheatref18_Much escheatref18_Much_o6
noncomputable def escheatref18_Much_c12_d (n : Nat) : SmV := smSeq [4] (escheatref18_Much_c11_d n) smRet
noncomputable def escheatref18_Much_c13_d (n : Nat) : SmV := smCond (.t 22) (escheatref18_Much_c12_d n) smSkip
noncomputable def escheatref18_Much_c14_d (n : Nat) : SmV := smSeq [0, 5, 22] (escheatref18_Much_c10_d n) (escheatref18_Much_c13_d n)
noncomputable def escheatref18_Much_c15_d (n : Nat) : SmV := smBlock 1 (escheatref18_Much_c14_d n)
noncomputable def escheatref18_Much_c16_d (n : Nat) : SmV := smOps E_escheatref18_Much escheatref18_Much_o7
noncomputable def escheatref18_Much_c17_d (n : Nat) : SmV := smSeq [0, 5] (escheatref18_Much_c15_d n) (escheatref18_Much_c16_d n)
noncomputable def escheatref18_Much_c18_d (n : Nat) : SmV := smSeq [0, 5] (escheatref18_Much_c9_d n) (escheatref18_Much_c17_d n)
noncomputable def escheatref18_Much_c19_d (n : Nat) : SmV := smLoop n [0, 5] (escheatref18_Much_c18_d n)
noncomputable def escheatref18_Much_c20_d (n : Nat) : SmV := smBlock 0 (escheatref18_Much_c19_d n)
noncomputable def escheatref18_Much_c21_d (n : Nat) : SmV := smSeq [0, 5] (escheatref18_Much_c6_d n) (escheatref18_Much_c20_d n)
noncomputable def escheatref18_Much_c22_d (n : Nat) : SmV := smOps E_escheatref18_Much escheatref18_Much_o8
noncomputable def escheatref18_Much_c23_d (n : Nat) : SmV := smSeq [4] (escheatref18_Much_c22_d n) smRet
noncomputable def escheatref18_Much_c24_d (n : Nat) : SmV := smSeq [] (escheatref18_Much_c21_d n) (escheatref18_Much_c23_d n)
noncomputable def escheatref18_Much_c25_d (n : Nat) : SmV := smSeq [0] (escheatref18_Much_c5_d n) (escheatref18_Much_c24_d n)
noncomputable def escheatref18_Much_c26_d (n : Nat) : SmV := smSeq [0, 1] (escheatref18_Much_c0_d n) (escheatref18_Much_c25_d n)
noncomputable def escheatref18_Much_k0 (n : Nat) : AExit → Env → Heap → OptV := fun x e h => match x with | .normal => hold ((escheatref18_Much_c23_d n) A_escheatref18_Much.fin (e.keep []) h) | .exit id => A_escheatref18_Much.fin (.exit id) e h | .ret => A_escheatref18_Much.fin .ret e h
noncomputable def escheatref18_Much_k1 (n : Nat) : AExit → Env → Heap → OptV := fun x e h => match x with | .exit i => bif Nat.beq i 0 then (escheatref18_Much_k0 n) .normal e h else (escheatref18_Much_k0 n) (.exit i) e h | .normal => (escheatref18_Much_k0 n) .normal e h | .ret => (escheatref18_Much_k0 n) .ret e h
noncomputable def escheatref18_Much_l0 (n m : Nat) (x0 x5 : Val) (h : Heap) : OptV := around (escheatref18_Much_c18_d n) [0, 5] (escheatref18_Much_k1 n) m [(0, x0), (5, x5)] h
noncomputable def R_escheatref18_Much (n : Nat) (args : List Val) (h : Heap) : OptV := (escheatref18_Much_c26_d n) A_escheatref18_Much.fin (params 0 args) h
theorem R_escheatref18_Much_eq (n : Nat) (a0 a1 : Val) (h : Heap) : R_escheatref18_Much n [a0, a1] h = bnd (alen a0) fun v1 => bnd (abin .gtr v1 a1) fun v2 => cnd v2 (some ((.c (.b true)), h)) (escheatref18_Much_l0 n n a0 (.c (.i .i64 0)) h) := by kernel_rfl
theorem escheatref18_Much_l0_eq (n m : Nat) (x0 x5 : Val) (h : Heap) : escheatref18_Much_l0 n (m + 1) x0 x5 h = bnd (alen x0) fun v3 => bnd (abin .lss x5 v3) fun v4 => cnd v4 (bnd (aiAddrL 2 x0 x5) fun v5 => bnd (afAddr v5 0) fun v6 => bnd (aload1 h v6) fun v7 => bnd (alenS v7) fun v8 => bnd (abin .gtr v8 (.c (.i .i64 60))) fun v9 => cnd v9 (some ((.c (.b true)), h)) (bnd (abin .add x5 (.c (.i .i64 1))) fun v10 => escheatref18_Much_l0 n m x0 v10 h)) (some ((.c (.b false)), h)) := by kernel_rfl
theorem K_escheatref18_Much : FnK Try.prog 149 A_escheatref18_Much E_escheatref18_Much R_escheatref18_Much := .mk' (sound0) Try.func149 (by kernel_rfl) (by intro n args h; kernel_rfl)
noncomputable def S_escheatref18_Much : Fun := tidy (Lim A_escheatref18_Much E_escheatref18_Much)
theorem S_escheatref18_Much_ok : SOk Try.prog 149 S_escheatref18_Much := K_escheatref18_Much.sok
theorem S_escheatref18_Much_flat {n : Nat} {args : List Val} {h h2 : Heap} {v : Val} (he : R_escheatref18_Much n args (ro h) = some (v, h2)) (hf : v.flat = true) : S_escheatref18_Much args h = some (v, h) := K_escheatref18_Much.flat he hf
def escheatref18_Head_o0 : List AOper := [{ dst := some 0, op := .nilrow 1 }]
def escheatref18_Head_c0 : ACode := .ops escheatref18_Head_o0
def escheatref18_Head_o1 : List AOper := [{ dst := some 1, op := .mkSl 1 ([.i .u8 0]) (.v (.c (.i .i64 256))) (.v (.c (.i .i64 256))) }, { dst := some 2, op := .buildSl 1 4 ([.i .u8 0, .i .u8 0, .i .u8 0, .i .u8 0]) [(0, 1, (.v (.c (.i .u8 98)))), (1, 1, (.v (.c (.i .u8 107)))), (2, 1, (.v (.c (.i .u8 116)))), (3, 1, (.v (.c (.i .u8 33))))] }, { dst := some 3, op := .mark (.t 2) }, { dst := some 4, op := .call 86 [(.t 1), (.v (.c (.i .i64 0))), (.t 3)] }, { dst := some 0, op := .mv (.t 4) }]
def escheatref18_Head_c1 : ACode := .ops escheatref18_Head_o1
def escheatref18_Head_c2 : ACode := .seq [0] escheatref18_Head_c1 .ret
def escheatref18_Head_c3 : ACode := .seq [] escheatref18_Head_c0 escheatref18_Head_c2
def A_escheatref18_Head : AFn := ⟨escheatref18_Head_c3, [.tmp 0]⟩
noncomputable def E_escheatref18_Head : Sums := disp 86 S_escheatref01_Lay disp0
noncomputable def escheatref18_Head_c0_d (n : Nat) : SmV := smOps E_escheatref18_Head escheatref18_Head_o0
noncomputable def escheatref18_Head_c1_d (n : Nat) : SmV := smOps E_escheatref18_Head escheatref18_Head_o1
noncomputable def escheatref18_Head_c2_d (n : Nat) : SmV := smSeq [0] (escheatref18_Head_c1_d n) smRet
noncomputable def escheatref18_Head_c3_d (n : Nat) : SmV := smSeq [] (escheatref18_Head_c0_d n) (escheatref18_Head_c2_d n)
noncomputable def R_escheatref18_Head (n : Nat) (args : List Val) (h : Heap) : OptV := (escheatref18_Head_c3_d n) A_escheatref18_Head.fin (params 0 args) h
theorem R_escheatref18_Head_eq (n : Nat) (h : Heap) : R_escheatref18_Head n [] h = bnd (amkn (.c (.i .i64 256)) (.c (.i .i64 256))) fun n1 => bnd (afill ([.i .u8 0, .i .u8 0, .i .u8 0, .i .u8 0]) [(0, 1, .c (.i .u8 98)), (1, 1, .c (.i .u8 107)), (2, 1, .c (.i .u8 116)), (3, 1, .c (.i .u8 33))]) fun c2 => bnd (amark ((((h ++ [some (Row.mk ([]) true)]) ++ [some (Row.mk (rows ([.i .u8 0]) n1) true)]) ++ [some (Row.mk (c2) true)])) ((.c (.sl (((h ++ [some (Row.mk ([]) true)]) ++ [some (Row.mk (rows ([.i .u8 0]) n1) true)])).length 0 4 1)))) fun v3 => bnd (S_escheatref01_Lay [(.c (.sl ((h ++ [some (Row.mk ([]) true)])).length 0 n1 1)), .c (.i .i64 0), v3] ((((h ++ [some (Row.mk ([]) true)]) ++ [some (Row.mk (rows ([.i .u8 0]) n1) true)]) ++ [some (Row.mk (c2) true)]))) fun p4 => some (p4.1, p4.2) := by kernel_rfl
theorem K_escheatref18_Head : FnK Try.prog 197 A_escheatref18_Head E_escheatref18_Head R_escheatref18_Head := .mk' (sound1 S_escheatref01_Lay_ok sound0) Try.func197 (by kernel_rfl) (by intro n args h; kernel_rfl)
noncomputable def S_escheatref18_Head : Fun := tidy (Lim A_escheatref18_Head E_escheatref18_Head)
theorem S_escheatref18_Head_ok : SOk Try.prog 197 S_escheatref18_Head := K_escheatref18_Head.sok
theorem S_escheatref18_Head_low {n : Nat} {args : List Val} {h h2 : Heap} {v : Val} (he : R_escheatref18_Head n args (ro h) = some (v, h2)) (hf : v.low h.length = true) : S_escheatref18_Head args h = some (v, h) := K_escheatref18_Head.low he hf
theorem S_escheatref18_Head_out {n : Nat} {args : List Val} {h h2 : Heap} {v : Val} {sz k : Nat} {cs : List Cell} (he : R_escheatref18_Head n args (ro h) = some (v, h2)) (ho : Out h.length h2 v sz k cs) (hf : flats cs = true) : S_escheatref18_Head args h = some (.c (.sl h.length 0 k sz), h ++ [some ⟨cs, true⟩]) := K_escheatref18_Head.out he ho hf
def escheatref18_May_o0 : List AOper := [{ dst := some 1, op := .box (.t 0) }, { dst := some 2, op := .mv (.v (.c (.b false))) }]
def escheatref18_May_c0 : ACode := .ops escheatref18_May_o0
def escheatref18_May_o1 : List AOper := [{ dst := some 3, op := .fAddr (.t 1) 0 }, { dst := some 4, op := .load1 (.t 3) }, { dst := some 5, op := .call 43 [(.t 4)] }, { dst := some 6, op := .mv (.t 5) }, { dst := some 7, op := .fAddr (.t 1) 1, guard := some (6, true) }, { dst := some 8, op := .load1 (.t 7), guard := some (6, true) }, { dst := some 9, op := .bin .geq (.t 8) (.v (.c (.i .i64 1))), guard := some (6, true) }, { dst := some 10, op := .pick (.t 6) (.t 9) (.v (.c (.b false))) }, { dst := some 11, op := .mv (.t 10) }, { dst := some 12, op := .fAddr (.t 1) 1, guard := some (11, true) }, { dst := some 13, op := .load1 (.t 12), guard := some (11, true) }, { dst := some 14, op := .bin .leq (.t 13) (.v (.c (.i .i64 128))), guard := some (11, true) }, { dst := some 15, op := .pick (.t 11) (.t 14) (.v (.c (.b false))) }, { dst := some 2, op := .mv (.t 15) }]
def escheatref18_May_c1 : ACode := .ops escheatref18_May_o1
def escheatref18_May_c2 : ACode := .seq [2] escheatref18_May_c1 .ret
def escheatref18_May_c3 : ACode := .seq [1] escheatref18_May_c0 escheatref18_May_c2
def A_escheatref18_May : AFn := ⟨escheatref18_May_c3, [.tmp 2]⟩
noncomputable def E_escheatref18_May : Sums := disp 43 S_escheatref03_Right disp0
noncomputable def escheatref18_May_c0_d (n : Nat) : SmV := smOps E_escheatref18_May escheatref18_May_o0
noncomputable def escheatref18_May_c1_d (n : Nat) : SmV := smOps E_escheatref18_May escheatref18_May_o1
noncomputable def escheatref18_May_c2_d (n : Nat) : SmV := smSeq [2] (escheatref18_May_c1_d n) smRet
noncomputable def escheatref18_May_c3_d (n : Nat) : SmV := smSeq [1] (escheatref18_May_c0_d n) (escheatref18_May_c2_d n)
noncomputable def R_escheatref18_May (n : Nat) (args : List Val) (h : Heap) : OptV := (escheatref18_May_c3_d n) A_escheatref18_May.fin (params 0 args) h
theorem R_escheatref18_May_eq (n : Nat) (a0 : Val) (h : Heap) : R_escheatref18_May n [a0] h = bnd (cells? a0) fun c1 => bnd (afAddr ((.c (.p h.length 0))) 0) fun v2 => bnd (aload1 ((h ++ [some (Row.mk (c1) true)])) v2) fun v3 => bnd (S_escheatref03_Right [v3] ((h ++ [some (Row.mk (c1) true)]))) fun p4 => bnd (gd p4.1 true (bnd (afAddr ((.c (.p h.length 0))) 1) fun v5 => some (v5, p4.2)) (some (.no, p4.2))) fun p6 => bnd (gd p4.1 true (bnd (aload1 p6.2 p6.1) fun v7 => some (v7, p6.2)) (some (.no, p6.2))) fun p8 => bnd (gd p4.1 true (bnd (abin .geq p8.1 (.c (.i .i64 1))) fun v9 => some (v9, p8.2)) (some (.no, p8.2))) fun p10 => bnd (apick p4.1 p10.1 (.c (.b false))) fun v11 => bnd (gd v11 true (bnd (afAddr ((.c (.p h.length 0))) 1) fun v12 => some (v12, p10.2)) (some (.no, p10.2))) fun p13 => bnd (gd v11 true (bnd (aload1 p13.2 p13.1) fun v14 => some (v14, p13.2)) (some (.no, p13.2))) fun p15 => bnd (gd v11 true (bnd (abin .leq p15.1 (.c (.i .i64 128))) fun v16 => some (v16, p15.2)) (some (.no, p15.2))) fun p17 => bnd (apick v11 p17.1 (.c (.b false))) fun v18 => some (v18, p17.2) := by kernel_rfl
theorem K_escheatref18_May : FnK Try.prog 171 A_escheatref18_May E_escheatref18_May R_escheatref18_May := .mk' (sound1 S_escheatref03_Right_ok sound0) Try.func171 (by kernel_rfl) (by intro n args h; kernel_rfl)
noncomputable def S_escheatref18_May : Fun := tidy (Lim A_escheatref18_May E_escheatref18_May)
theorem S_escheatref18_May_ok : SOk Try.prog 171 S_escheatref18_May := K_escheatref18_May.sok
theorem S_escheatref18_May_flat {n : Nat} {args : List Val} {h h2 : Heap} {v : Val} (he : R_escheatref18_May n args (ro h) = some (v, h2)) (hf : v.flat = true) : S_escheatref18_May args h = some (v, h) := K_escheatref18_May.flat he hf
def escheatref18_Bytes_o0 : List AOper := [{ dst := some 1, op := .box (.t 0) }, { dst := some 2, op := .nilrow 1 }]
def escheatref18_Bytes_c0 : ACode := .ops escheatref18_Bytes_o0
def escheatref18_Bytes_o1 : List AOper := [{ dst := some 4, op := .fAddr (.t 1) 1 }, { dst := some 5, op := .load1 (.t 4) }, { dst := some 6, op := .conv .u64 (.t 5) }, { dst := some 7, op := .call 106 [(.v (.c (.i .i64 2))), (.t 6)] }, { dst := some 8, op := .fAddr (.t 1) 0 }, { dst := some 9, op := .load1 (.t 8) }]
def escheatref18_Bytes_o2 : List AOper := [{ dst := some 10, op := .call 48 [(.t 9)] }, { dst := some 11, op := .app 1 (.t 7) (.t 10) }, { dst := some 3, op := .mv (.t 11) }]
def escheatref18_Bytes_c1 : ACode := .draw 0 escheatref18_Bytes_o1 escheatref18_Bytes_o2
def escheatref18_Bytes_o3 : List AOper := [{ dst := some 12, op := .mv (.t 3) }, { dst := some 13, op := .buildSl 1 5 ([.i .u8 0, .i .u8 0, .i .u8 0, .i .u8 0, .i .u8 0]) [(0, 1, (.v (.c (.i .u8 0)))), (1, 1, (.v (.c (.i .u8 0)))), (2, 1, (.v (.c (.i .u8 0)))), (3, 1, (.v (.c (.i .u8 0)))), (4, 1, (.v (.c (.i .u8 0))))] }, { dst := some 14, op := .app 1 (.t 12) (.t 13) }, { dst := some 2, op := .mv (.t 14) }]
def escheatref18_Bytes_c2 : ACode := .ops escheatref18_Bytes_o3
def escheatref18_Bytes_c3 : ACode := .seq [2] escheatref18_Bytes_c2 .ret
def escheatref18_Bytes_c4 : ACode := .seq [3] escheatref18_Bytes_c1 escheatref18_Bytes_c3
def escheatref18_Bytes_c5 : ACode := .seq [1] escheatref18_Bytes_c0 escheatref18_Bytes_c4
def A_escheatref18_Bytes : AFn := ⟨escheatref18_Bytes_c5, [.tmp 2]⟩
noncomputable def E_escheatref18_Bytes : Sums := disp 106 S_escheatref01_Bytes (disp 48 S_escheatref03_Pack disp0)
noncomputable def escheatref18_Bytes_c0_d (n : Nat) : SmV := smOps E_escheatref18_Bytes escheatref18_Bytes_o0
noncomputable def escheatref18_Bytes_c1_d (n : Nat) : SmV := smDraw E_escheatref18_Bytes 0 escheatref18_Bytes_o1 escheatref18_Bytes_o2
noncomputable def escheatref18_Bytes_c2_d (n : Nat) : SmV := smOps E_escheatref18_Bytes escheatref18_Bytes_o3
noncomputable def escheatref18_Bytes_c3_d (n : Nat) : SmV := smSeq [2] (escheatref18_Bytes_c2_d n) smRet
noncomputable def escheatref18_Bytes_c4_d (n : Nat) : SmV := smSeq [3] (escheatref18_Bytes_c1_d n) (escheatref18_Bytes_c3_d n)
noncomputable def escheatref18_Bytes_c5_d (n : Nat) : SmV := smSeq [1] (escheatref18_Bytes_c0_d n) (escheatref18_Bytes_c4_d n)
noncomputable def R_escheatref18_Bytes (n : Nat) (args : List Val) (h : Heap) : OptV := (escheatref18_Bytes_c5_d n) A_escheatref18_Bytes.fin (params 0 args) h
theorem R_escheatref18_Bytes_eq (n : Nat) (a0 : Val) (h : Heap) : R_escheatref18_Bytes n [a0] h = bnd (cells? a0) fun c1 => bnd (afAddr ((.c (.p h.length 0))) 1) fun v2 => bnd (aload1 (((h ++ [some (Row.mk (c1) true)]) ++ [some (Row.mk ([]) true)])) v2) fun v3 => bnd (aconv .u64 v3) fun v4 => bnd (quiet (((((h ++ [some (Row.mk (c1) true)]) ++ [some (Row.mk ([]) true)])) ++ [])) (S_escheatref01_Bytes [.c (.i .i64 2), v4] (((((h ++ [some (Row.mk (c1) true)]) ++ [some (Row.mk ([]) true)])) ++ [])))) fun p5 => bnd (afAddr ((.c (.p h.length 0))) 0) fun v6 => bnd (aload1 (((h ++ [some (Row.mk (c1) true)]) ++ [some (Row.mk ([]) true)])) v6) fun v7 => bnd (S_escheatref03_Pack [v7] p5.2) fun p8 => bnd (aapp p8.2 1 p5.1 p8.1) fun p9 => bnd (afill ([.i .u8 0, .i .u8 0, .i .u8 0, .i .u8 0, .i .u8 0]) [(0, 1, .c (.i .u8 0)), (1, 1, .c (.i .u8 0)), (2, 1, .c (.i .u8 0)), (3, 1, .c (.i .u8 0)), (4, 1, .c (.i .u8 0))]) fun c10 => bnd (aapp ((p9.2 ++ [some (Row.mk (c10) true)])) 1 p9.1 ((.c (.sl p9.2.length 0 5 1)))) fun p11 => some (p11.1, p11.2) := by kernel_rfl
theorem K_escheatref18_Bytes : FnK Try.prog 172 A_escheatref18_Bytes E_escheatref18_Bytes R_escheatref18_Bytes := .mk' (sound1 S_escheatref01_Bytes_ok (sound1 S_escheatref03_Pack_ok sound0)) Try.func172 (by kernel_rfl) (by intro n args h; kernel_rfl)
noncomputable def S_escheatref18_Bytes : Fun := tidy (Lim A_escheatref18_Bytes E_escheatref18_Bytes)
theorem S_escheatref18_Bytes_ok : SOk Try.prog 172 S_escheatref18_Bytes := K_escheatref18_Bytes.sok
theorem S_escheatref18_Bytes_low {n : Nat} {args : List Val} {h h2 : Heap} {v : Val} (he : R_escheatref18_Bytes n args (ro h) = some (v, h2)) (hf : v.low h.length = true) : S_escheatref18_Bytes args h = some (v, h) := K_escheatref18_Bytes.low he hf
theorem S_escheatref18_Bytes_out {n : Nat} {args : List Val} {h h2 : Heap} {v : Val} {sz k : Nat} {cs : List Cell} (he : R_escheatref18_Bytes n args (ro h) = some (v, h2)) (ho : Out h.length h2 v sz k cs) (hf : flats cs = true) : S_escheatref18_Bytes args h = some (.c (.sl h.length 0 k sz), h ++ [some ⟨cs, true⟩]) := K_escheatref18_Bytes.out he ho hf
def escheatref18_New_o0 : List AOper := [{ dst := some 2, op := .nilrow 1 }, { dst := some 3, op := .mv (.v (.c (.i .i64 0))) }]
def escheatref18_New_c0 : ACode := .ops escheatref18_New_o0
def escheatref18_New_o1 : List AOper := [{ dst := some 8, op := .mv (.t 0) }, { dst := some 9, op := .len (.t 8) }, { dst := some 10, op := .bin .gtr (.t 9) (.v (.c (.i .i64 7))) }]
def escheatref18_New_c1 : ACode := .ops escheatref18_New_o1
def escheatref18_New_o2 : List AOper := [{ dst := some 2, op := .nilrow 1 }, { dst := some 3, op := .mv (.v (.c (.i .i64 11))) }]
def escheatref18_New_c2 : ACode := .ops escheatref18_New_o2
def escheatref18_New_c3 : ACode := .seq [2, 3] escheatref18_New_c2 .ret
def escheatref18_New_c4 : ACode := .cond (.t 10) escheatref18_New_c3 .skip
def escheatref18_New_c5 : ACode := .seq [0, 10] escheatref18_New_c1 escheatref18_New_c4
def escheatref18_New_o3 : List AOper := [{ dst := some 11, op := .call 197 [] }, { dst := some 4, op := .mv (.t 11) }]
def escheatref18_New_c6 : ACode := .ops escheatref18_New_o3
def escheatref18_New_o4 : List AOper := [{ dst := some 5, op := .mv (.v (.c (.i .i64 0))) }]
def escheatref18_New_c7 : ACode := .ops escheatref18_New_o4
def escheatref18_New_o5 : List AOper := [{ dst := some 12, op := .mv (.t 5) }, { dst := some 13, op := .mv (.t 0) }, { dst := some 14, op := .len (.t 13) }, { dst := some 15, op := .bin .lss (.t 12) (.t 14) }]
def escheatref18_New_c8 : ACode := .ops escheatref18_New_o5
def escheatref18_New_c9 : ACode := .cond (.t 15) .skip (.exit 0)
def escheatref18_New_c10 : ACode := .seq [0, 4, 5, 15] escheatref18_New_c8 escheatref18_New_c9
def escheatref18_New_o6 : List AOper := [{ dst := some 18, op := .mv (.t 0) }, { dst := some 19, op := .mv (.t 5) }, { dst := some 20, op := .iAddrL 2 (.t 18) (.t 19) }, { dst := some 21, op := .loadN 2 (.t 20) }, { dst := some 22, op := .call 171 [(.t 21)] }, { dst := some 23, op := .un .not (.t 22) }]
def escheatref18_New_c11 : ACode := .ops escheatref18_New_o6
def escheatref18_New_o7 : List AOper := [{ dst := some 2, op := .nilrow 1 }, { dst := some 3, op := .mv (.v (.c (.i .i64 1))) }]
def escheatref18_New_c12 : ACode := .ops escheatref18_New_o7
def escheatref18_New_c13 : ACode := .seq [2, 3] escheatref18_New_c12 .ret
def escheatref18_New_c14 : ACode := .cond (.t 23) escheatref18_New_c13 .skip
def escheatref18_New_c15 : ACode := .seq [0, 4, 5, 23] escheatref18_New_c11 escheatref18_New_c14
def escheatref18_New_o8 : List AOper := [{ dst := some 24, op := .mv (.t 4) }, { dst := some 25, op := .mv (.t 5) }, { dst := some 26, op := .bin .mul (.v (.c (.i .i64 32))) (.t 25) }, { dst := some 27, op := .bin .add (.v (.c (.i .i64 32))) (.t 26) }, { dst := some 28, op := .mv (.t 0) }, { dst := some 29, op := .mv (.t 5) }, { dst := some 30, op := .iAddrL 2 (.t 28) (.t 29) }, { dst := some 31, op := .loadN 2 (.t 30) }, { dst := some 32, op := .call 172 [(.t 31)] }, { dst := some 33, op := .call 86 [(.t 24), (.t 27), (.t 32)] }, { dst := some 4, op := .mv (.t 33) }]
def escheatref18_New_c16 : ACode := .ops escheatref18_New_o8
def escheatref18_New_c17 : ACode := .seq [0, 4, 5] escheatref18_New_c15 escheatref18_New_c16
def escheatref18_New_c18 : ACode := .block 1 escheatref18_New_c17
def escheatref18_New_o9 : List AOper := [{ dst := some 16, op := .mv (.t 5) }, { dst := some 17, op := .bin .add (.t 16) (.v (.c (.i .i64 1))) }, { dst := some 5, op := .mv (.t 17) }]
def escheatref18_New_c19 : ACode := .ops escheatref18_New_o9
def escheatref18_New_c20 : ACode := .seq [0, 4, 5] escheatref18_New_c18 escheatref18_New_c19
def escheatref18_New_c21 : ACode := .seq [0, 4, 5] escheatref18_New_c10 escheatref18_New_c20
def escheatref18_New_c22 : ACode := .loop [0, 4, 5] escheatref18_New_c21
def escheatref18_New_c23 : ACode := .block 0 escheatref18_New_c22
def escheatref18_New_c24 : ACode := .seq [0, 4, 5] escheatref18_New_c7 escheatref18_New_c23
def escheatref18_New_o10 : List AOper := [{ dst := some 6, op := .mv (.v (.c (.i .i64 0))) }]
def escheatref18_New_c25 : ACode := .ops escheatref18_New_o10
def escheatref18_New_o11 : List AOper := [{ dst := some 34, op := .mv (.t 6) }, { dst := some 35, op := .mv (.t 0) }, { dst := some 36, op := .len (.t 35) }, { dst := some 37, op := .bin .lss (.t 34) (.t 36) }]
def escheatref18_New_c26 : ACode := .ops escheatref18_New_o11
def escheatref18_New_c27 : ACode := .cond (.t 37) .skip (.exit 2)
def escheatref18_New_c28 : ACode := .seq [0, 4, 6, 37] escheatref18_New_c26 escheatref18_New_c27
def escheatref18_New_o12 : List AOper := [{ dst := some 7, op := .mv (.v (.c (.i .i64 0))) }]
def escheatref18_New_c29 : ACode := .ops escheatref18_New_o12
def escheatref18_New_o13 : List AOper := [{ dst := some 40, op := .mv (.t 7) }, { dst := some 41, op := .mv (.t 6) }, { dst := some 42, op := .bin .lss (.t 40) (.t 41) }]
def escheatref18_New_c30 : ACode := .ops escheatref18_New_o13
def escheatref18_New_c31 : ACode := .cond (.t 42) .skip (.exit 4)
def escheatref18_New_c32 : ACode := .seq [0, 4, 6, 7, 42] escheatref18_New_c30 escheatref18_New_c31
def escheatref18_New_o14 : List AOper := [{ dst := some 45, op := .mv (.t 0) }, { dst := some 46, op := .mv (.t 7) }, { dst := some 47, op := .iAddrL 2 (.t 45) (.t 46) }, { dst := some 48, op := .fAddr (.t 47) 0 }, { dst := some 49, op := .load1 (.t 48) }, { dst := some 50, op := .mv (.t 0) }, { dst := some 51, op := .mv (.t 6) }, { dst := some 52, op := .iAddrL 2 (.t 50) (.t 51) }, { dst := some 53, op := .fAddr (.t 52) 0 }, { dst := some 54, op := .load1 (.t 53) }]
def escheatref18_New_o15 : List AOper := [{ dst := some 55, op := .bin .eql (.t 49) (.t 54) }]
def escheatref18_New_c33 : ACode := .draw 0 escheatref18_New_o14 escheatref18_New_o15
def escheatref18_New_o16 : List AOper := [{ dst := some 2, op := .nilrow 1 }, { dst := some 3, op := .mv (.v (.c (.i .i64 5))) }]
def escheatref18_New_c34 : ACode := .ops escheatref18_New_o16
def escheatref18_New_c35 : ACode := .seq [2, 3] escheatref18_New_c34 .ret
def escheatref18_New_c36 : ACode := .cond (.t 55) escheatref18_New_c35 .skip
def escheatref18_New_c37 : ACode := .seq [0, 4, 6, 7, 55] escheatref18_New_c33 escheatref18_New_c36
def escheatref18_New_c38 : ACode := .block 5 escheatref18_New_c37
def escheatref18_New_o17 : List AOper := [{ dst := some 43, op := .mv (.t 7) }, { dst := some 44, op := .bin .add (.t 43) (.v (.c (.i .i64 1))) }, { dst := some 7, op := .mv (.t 44) }]
def escheatref18_New_c39 : ACode := .ops escheatref18_New_o17
def escheatref18_New_c40 : ACode := .seq [0, 4, 6, 7] escheatref18_New_c38 escheatref18_New_c39
def escheatref18_New_c41 : ACode := .seq [0, 4, 6, 7] escheatref18_New_c32 escheatref18_New_c40
def escheatref18_New_c42 : ACode := .loop [0, 4, 6, 7] escheatref18_New_c41
def escheatref18_New_c43 : ACode := .block 4 escheatref18_New_c42
def escheatref18_New_c44 : ACode := .seq [0, 4, 6, 7] escheatref18_New_c29 escheatref18_New_c43
def escheatref18_New_c45 : ACode := .block 3 escheatref18_New_c44
def escheatref18_New_o18 : List AOper := [{ dst := some 38, op := .mv (.t 6) }, { dst := some 39, op := .bin .add (.t 38) (.v (.c (.i .i64 1))) }, { dst := some 6, op := .mv (.t 39) }]
def escheatref18_New_c46 : ACode := .ops escheatref18_New_o18
def escheatref18_New_c47 : ACode := .seq [0, 4, 6] escheatref18_New_c45 escheatref18_New_c46
def escheatref18_New_c48 : ACode := .seq [0, 4, 6] escheatref18_New_c28 escheatref18_New_c47
def escheatref18_New_c49 : ACode := .loop [0, 4, 6] escheatref18_New_c48
def escheatref18_New_c50 : ACode := .block 2 escheatref18_New_c49
def escheatref18_New_c51 : ACode := .seq [0, 4, 6] escheatref18_New_c25 escheatref18_New_c50
def escheatref18_New_o19 : List AOper := [{ dst := some 56, op := .mv (.t 4) }, { dst := some 2, op := .mv (.t 56) }, { dst := some 3, op := .mv (.v (.c (.i .i64 0))) }]
def escheatref18_New_c52 : ACode := .ops escheatref18_New_o19
def escheatref18_New_c53 : ACode := .seq [2, 3] escheatref18_New_c52 .ret
def escheatref18_New_c54 : ACode := .seq [4] escheatref18_New_c51 escheatref18_New_c53
def escheatref18_New_c55 : ACode := .seq [0, 4] escheatref18_New_c24 escheatref18_New_c54
def escheatref18_New_c56 : ACode := .seq [0, 4] escheatref18_New_c6 escheatref18_New_c55
def escheatref18_New_c57 : ACode := .seq [0] escheatref18_New_c5 escheatref18_New_c56
def escheatref18_New_c58 : ACode := .seq [0] escheatref18_New_c0 escheatref18_New_c57
def A_escheatref18_New : AFn := ⟨escheatref18_New_c58, [.tmp 2, .tmp 3]⟩
noncomputable def E_escheatref18_New : Sums := disp 197 S_escheatref18_Head (disp 171 S_escheatref18_May (disp 172 S_escheatref18_Bytes (disp 86 S_escheatref01_Lay disp0)))
noncomputable def escheatref18_New_c0_d (n : Nat) : SmV := smOps E_escheatref18_New escheatref18_New_o0
noncomputable def escheatref18_New_c1_d (n : Nat) : SmV := smOps E_escheatref18_New escheatref18_New_o1
noncomputable def escheatref18_New_c2_d (n : Nat) : SmV := smOps E_escheatref18_New escheatref18_New_o2
noncomputable def escheatref18_New_c3_d (n : Nat) : SmV := smSeq [2, 3] (escheatref18_New_c2_d n) smRet
noncomputable def escheatref18_New_c4_d (n : Nat) : SmV := smCond (.t 10) (escheatref18_New_c3_d n) smSkip
noncomputable def escheatref18_New_c5_d (n : Nat) : SmV := smSeq [0, 10] (escheatref18_New_c1_d n) (escheatref18_New_c4_d n)
noncomputable def escheatref18_New_c6_d (n : Nat) : SmV := smOps E_escheatref18_New escheatref18_New_o3
noncomputable def escheatref18_New_c7_d (n : Nat) : SmV := smOps E_escheatref18_New escheatref18_New_o4
noncomputable def escheatref18_New_c8_d (n : Nat) : SmV := smOps E_escheatref18_New escheatref18_New_o5
noncomputable def escheatref18_New_c9_d (n : Nat) : SmV := smCond (.t 15) smSkip (smExit 0)
noncomputable def escheatref18_New_c10_d (n : Nat) : SmV := smSeq [0, 4, 5, 15] (escheatref18_New_c8_d n) (escheatref18_New_c9_d n)
noncomputable def escheatref18_New_c11_d (n : Nat) : SmV := smOps E_escheatref18_New escheatref18_New_o6
noncomputable def escheatref18_New_c12_d (n : Nat) : SmV := smOps E_escheatref18_New escheatref18_New_o7
noncomputable def escheatref18_New_c13_d (n : Nat) : SmV := smSeq [2, 3] (escheatref18_New_c12_d n) smRet
noncomputable def escheatref18_New_c14_d (n : Nat) : SmV := smCond (.t 23) (escheatref18_New_c13_d n) smSkip
noncomputable def escheatref18_New_c15_d (n : Nat) : SmV := smSeq [0, 4, 5, 23] (escheatref18_New_c11_d n) (escheatref18_New_c14_d n)
noncomputable def escheatref18_New_c16_d (n : Nat) : SmV := smOps E_escheatref18_New escheatref18_New_o8
noncomputable def escheatref18_New_c17_d (n : Nat) : SmV := smSeq [0, 4, 5] (escheatref18_New_c15_d n) (escheatref18_New_c16_d n)
noncomputable def escheatref18_New_c18_d (n : Nat) : SmV := smBlock 1 (escheatref18_New_c17_d n)
noncomputable def escheatref18_New_c19_d (n : Nat) : SmV := smOps E_escheatref18_New escheatref18_New_o9
noncomputable def escheatref18_New_c20_d (n : Nat) : SmV := smSeq [0, 4, 5] (escheatref18_New_c18_d n) (escheatref18_New_c19_d n)
noncomputable def escheatref18_New_c21_d (n : Nat) : SmV := smSeq [0, 4, 5] (escheatref18_New_c10_d n) (escheatref18_New_c20_d n)
noncomputable def escheatref18_New_c22_d (n : Nat) : SmV := smLoop n [0, 4, 5] (escheatref18_New_c21_d n)
noncomputable def escheatref18_New_c23_d (n : Nat) : SmV := smBlock 0 (escheatref18_New_c22_d n)
noncomputable def escheatref18_New_c24_d (n : Nat) : SmV := smSeq [0, 4, 5] (escheatref18_New_c7_d n) (escheatref18_New_c23_d n)
noncomputable def escheatref18_New_c25_d (n : Nat) : SmV := smOps E_escheatref18_New escheatref18_New_o10
noncomputable def escheatref18_New_c26_d (n : Nat) : SmV := smOps E_escheatref18_New escheatref18_New_o11
noncomputable def escheatref18_New_c27_d (n : Nat) : SmV := smCond (.t 37) smSkip (smExit 2)
noncomputable def escheatref18_New_c28_d (n : Nat) : SmV := smSeq [0, 4, 6, 37] (escheatref18_New_c26_d n) (escheatref18_New_c27_d n)
noncomputable def escheatref18_New_c29_d (n : Nat) : SmV := smOps E_escheatref18_New escheatref18_New_o12
noncomputable def escheatref18_New_c30_d (n : Nat) : SmV := smOps E_escheatref18_New escheatref18_New_o13
noncomputable def escheatref18_New_c31_d (n : Nat) : SmV := smCond (.t 42) smSkip (smExit 4)
noncomputable def escheatref18_New_c32_d (n : Nat) : SmV := smSeq [0, 4, 6, 7, 42] (escheatref18_New_c30_d n) (escheatref18_New_c31_d n)
noncomputable def escheatref18_New_c33_d (n : Nat) : SmV := smDraw E_escheatref18_New 0 escheatref18_New_o14 escheatref18_New_o15
noncomputable def escheatref18_New_c34_d (n : Nat) : SmV := smOps E_escheatref18_New escheatref18_New_o16
noncomputable def escheatref18_New_c35_d (n : Nat) : SmV := smSeq [2, 3] (escheatref18_New_c34_d n) smRet
noncomputable def escheatref18_New_c36_d (n : Nat) : SmV := smCond (.t 55) (escheatref18_New_c35_d n) smSkip
noncomputable def escheatref18_New_c37_d (n : Nat) : SmV := smSeq [0, 4, 6, 7, 55] (escheatref18_New_c33_d n) (escheatref18_New_c36_d n)
noncomputable def escheatref18_New_c38_d (n : Nat) : SmV := smBlock 5 (escheatref18_New_c37_d n)
noncomputable def escheatref18_New_c39_d (n : Nat) : SmV := smOps E_escheatref18_New escheatref18_New_o17
noncomputable def escheatref18_New_c40_d (n : Nat) : SmV := smSeq [0, 4, 6, 7] (escheatref18_New_c38_d n) (escheatref18_New_c39_d n)
noncomputable def escheatref18_New_c41_d (n : Nat) : SmV := smSeq [0, 4, 6, 7] (escheatref18_New_c32_d n) (escheatref18_New_c40_d n)
noncomputable def escheatref18_New_c42_d (n : Nat) : SmV := smLoop n [0, 4, 6, 7] (escheatref18_New_c41_d n)
noncomputable def escheatref18_New_c43_d (n : Nat) : SmV := smBlock 4 (escheatref18_New_c42_d n)
noncomputable def escheatref18_New_c44_d (n : Nat) : SmV := smSeq [0, 4, 6, 7] (escheatref18_New_c29_d n) (escheatref18_New_c43_d n)
noncomputable def escheatref18_New_c45_d (n : Nat) : SmV := smBlock 3 (escheatref18_New_c44_d n)
noncomputable def escheatref18_New_c46_d (n : Nat) : SmV := smOps E_escheatref18_New escheatref18_New_o18
noncomputable def escheatref18_New_c47_d (n : Nat) : SmV := smSeq [0, 4, 6] (escheatref18_New_c45_d n) (escheatref18_New_c46_d n)
noncomputable def escheatref18_New_c48_d (n : Nat) : SmV := smSeq [0, 4, 6] (escheatref18_New_c28_d n) (escheatref18_New_c47_d n)
noncomputable def escheatref18_New_c49_d (n : Nat) : SmV := smLoop n [0, 4, 6] (escheatref18_New_c48_d n)
noncomputable def escheatref18_New_c50_d (n : Nat) : SmV := smBlock 2 (escheatref18_New_c49_d n)
noncomputable def escheatref18_New_c51_d (n : Nat) : SmV := smSeq [0, 4, 6] (escheatref18_New_c25_d n) (escheatref18_New_c50_d n)
noncomputable def escheatref18_New_c52_d (n : Nat) : SmV := smOps E_escheatref18_New escheatref18_New_o19
noncomputable def escheatref18_New_c53_d (n : Nat) : SmV := smSeq [2, 3] (escheatref18_New_c52_d n) smRet
noncomputable def escheatref18_New_c54_d (n : Nat) : SmV := smSeq [4] (escheatref18_New_c51_d n) (escheatref18_New_c53_d n)
noncomputable def escheatref18_New_c55_d (n : Nat) : SmV := smSeq [0, 4] (escheatref18_New_c24_d n) (escheatref18_New_c54_d n)
noncomputable def escheatref18_New_c56_d (n : Nat) : SmV := smSeq [0, 4] (escheatref18_New_c6_d n) (escheatref18_New_c55_d n)
noncomputable def escheatref18_New_c57_d (n : Nat) : SmV := smSeq [0] (escheatref18_New_c5_d n) (escheatref18_New_c56_d n)
noncomputable def escheatref18_New_c58_d (n : Nat) : SmV := smSeq [0] (escheatref18_New_c0_d n) (escheatref18_New_c57_d n)
noncomputable def escheatref18_New_k0 (n : Nat) : AExit → Env → Heap → OptV := fun x e h => match x with | .normal => hold ((escheatref18_New_c54_d n) A_escheatref18_New.fin (e.keep [0, 4]) h) | .exit id => A_escheatref18_New.fin (.exit id) e h | .ret => A_escheatref18_New.fin .ret e h
noncomputable def escheatref18_New_k1 (n : Nat) : AExit → Env → Heap → OptV := fun x e h => match x with | .exit i => bif Nat.beq i 0 then (escheatref18_New_k0 n) .normal e h else (escheatref18_New_k0 n) (.exit i) e h | .normal => (escheatref18_New_k0 n) .normal e h | .ret => (escheatref18_New_k0 n) .ret e h
noncomputable def escheatref18_New_l0 (n m : Nat) (x0 x4 x5 : Val) (h : Heap) : OptV := around (escheatref18_New_c21_d n) [0, 4, 5] (escheatref18_New_k1 n) m [(0, x0), (4, x4), (5, x5)] h
noncomputable def R_escheatref18_New (n : Nat) (args : List Val) (h : Heap) : OptV := (escheatref18_New_c58_d n) A_escheatref18_New.fin (params 0 args) h
noncomputable def escheatref18_New_k2 (n : Nat) : AExit → Env → Heap → OptV := fun x e h => match x with | .normal => hold ((escheatref18_New_c53_d n) A_escheatref18_New.fin (e.keep [4]) h) | .exit id => A_escheatref18_New.fin (.exit id) e h | .ret => A_escheatref18_New.fin .ret e h
noncomputable def escheatref18_New_k3 (n : Nat) : AExit → Env → Heap → OptV := fun x e h => match x with | .exit i => bif Nat.beq i 2 then (escheatref18_New_k2 n) .normal e h else (escheatref18_New_k2 n) (.exit i) e h | .normal => (escheatref18_New_k2 n) .normal e h | .ret => (escheatref18_New_k2 n) .ret e h
noncomputable def escheatref18_New_l1 (n m : Nat) (x0 x4 x6 : Val) (h : Heap) : OptV := around (escheatref18_New_c48_d n) [0, 4, 6] (escheatref18_New_k3 n) m [(0, x0), (4, x4), (6, x6)] h
noncomputable def escheatref18_New_k4 (n m : Nat) : AExit → Env → Heap → OptV := fun x e h => match x with | .normal => around (escheatref18_New_c48_d n) [0, 4, 6] (escheatref18_New_k3 n) m (e.keep [0, 4, 6]) h | .exit id => (escheatref18_New_k3 n) (.exit id) e h | .ret => (escheatref18_New_k3 n) .ret e h
noncomputable def escheatref18_New_k5 (n m : Nat) : AExit → Env → Heap → OptV := fun x e h => match x with | .normal => hold ((escheatref18_New_c46_d n) (escheatref18_New_k4 n m) (e.keep [0, 4, 6]) h) | .exit id => (escheatref18_New_k4 n m) (.exit id) e h | .ret => (escheatref18_New_k4 n m) .ret e h
noncomputable def escheatref18_New_k6 (n m : Nat) : AExit → Env → Heap → OptV := fun x e h => match x with | .exit i => bif Nat.beq i 3 then (escheatref18_New_k5 n m) .normal e h else (escheatref18_New_k5 n m) (.exit i) e h | .normal => (escheatref18_New_k5 n m) .normal e h | .ret => (escheatref18_New_k5 n m) .ret e h
noncomputable def escheatref18_New_k7 (n m : Nat) : AExit → Env → Heap → OptV := fun x e h => match x with | .exit i => bif Nat.beq i 4 then (escheatref18_New_k6 n m) .normal e h else (escheatref18_New_k6 n m) (.exit i) e h | .normal => (escheatref18_New_k6 n m) .normal e h | .ret => (escheatref18_New_k6 n m) .ret e h
noncomputable def escheatref18_New_l2 (n m m2 : Nat) (x0 x4 x6 x7 : Val) (h : Heap) : OptV := around (escheatref18_New_c41_d n) [0, 4, 6, 7] (escheatref18_New_k7 n m) m2 [(0, x0), (4, x4), (6, x6), (7, x7)] h
theorem R_escheatref18_New_eq (n : Nat) (a0 : Val) (h : Heap) : R_escheatref18_New n [a0] h = bnd (alen a0) fun v1 => bnd (abin .gtr v1 (.c (.i .i64 7))) fun v2 => cnd v2 (tupN [some ((.c (.sl ((h ++ [some (Row.mk ([]) true)])).length 0 0 1))), some (.c (.i .i64 11))] (((h ++ [some (Row.mk ([]) true)]) ++ [some (Row.mk ([]) true)]))) (bnd (S_escheatref18_Head [] ((h ++ [some (Row.mk ([]) true)]))) fun p3 => escheatref18_New_l0 n n a0 p3.1 (.c (.i .i64 0)) p3.2) := by kernel_rfl
theorem escheatref18_New_l0_eq (n m : Nat) (x0 x4 x5 : Val) (h : Heap) : escheatref18_New_l0 n (m + 1) x0 x4 x5 h = bnd (alen x0) fun v4 => bnd (abin .lss x5 v4) fun v5 => cnd v5 (bnd (aiAddrL 2 x0 x5) fun v6 => bnd (aloadN h 2 v6) fun v7 => bnd (S_escheatref18_May [v7] h) fun p8 => bnd (aun .not p8.1) fun v9 => cnd v9 (tupN [some ((.c (.sl p8.2.length 0 0 1))), some (.c (.i .i64 1))] ((p8.2 ++ [some (Row.mk ([]) true)]))) (bnd (abin .mul (.c (.i .i64 32)) x5) fun v10 => bnd (abin .add (.c (.i .i64 32)) v10) fun v11 => bnd (aiAddrL 2 x0 x5) fun v12 => bnd (aloadN p8.2 2 v12) fun v13 => bnd (S_escheatref18_Bytes [v13] p8.2) fun p14 => bnd (S_escheatref01_Lay [x4, v11, p14.1] p14.2) fun p15 => bnd (abin .add x5 (.c (.i .i64 1))) fun v16 => escheatref18_New_l0 n m x0 p15.1 v16 p15.2)) (escheatref18_New_l1 n n x0 x4 (.c (.i .i64 0)) h) := by kernel_rfl
theorem escheatref18_New_l1_eq (n m : Nat) (x0 x4 x6 : Val) (h : Heap) : escheatref18_New_l1 n (m + 1) x0 x4 x6 h = bnd (alen x0) fun v17 => bnd (abin .lss x6 v17) fun v18 => cnd v18 (escheatref18_New_l2 n m n x0 x4 x6 (.c (.i .i64 0)) h) (tupN [some x4, some (.c (.i .i64 0))] h) := by kernel_rfl
theorem escheatref18_New_l2_eq (n m m2 : Nat) (x0 x4 x6 x7 : Val) (h : Heap) : escheatref18_New_l2 n m (m2 + 1) x0 x4 x6 x7 h = bnd (abin .lss x7 x6) fun v19 => cnd v19 (bnd (aiAddrL 2 x0 x7) fun v20 => bnd (afAddr v20 0) fun v21 => bnd (aload1 h v21) fun v22 => bnd (aiAddrL 2 x0 x6) fun v23 => bnd (afAddr v23 0) fun v24 => bnd (aload1 h v24) fun v25 => bnd (abin .eql v22 v25) fun v26 => cnd v26 (tupN [some ((.c (.sl ((h ++ [])).length 0 0 1))), some (.c (.i .i64 5))] (((h ++ []) ++ [some (Row.mk ([]) true)]))) (bnd (abin .add x7 (.c (.i .i64 1))) fun v27 => escheatref18_New_l2 n m m2 x0 x4 x6 v27 ((h ++ [])))) (bnd (abin .add x6 (.c (.i .i64 1))) fun v28 => escheatref18_New_l1 n m x0 x4 v28 h) := by kernel_rfl
theorem K_escheatref18_New : FnK Try.prog 152 A_escheatref18_New E_escheatref18_New R_escheatref18_New := .mk' (sound1 S_escheatref18_Head_ok (sound1 S_escheatref18_May_ok (sound1 S_escheatref18_Bytes_ok (sound1 S_escheatref01_Lay_ok sound0)))) Try.func152 (by kernel_rfl) (by intro n args h; kernel_rfl)
noncomputable def S_escheatref18_New : Fun := tidy (Lim A_escheatref18_New E_escheatref18_New)
theorem S_escheatref18_New_ok : SOk Try.prog 152 S_escheatref18_New := K_escheatref18_New.sok
theorem S_escheatref18_New_flat {n : Nat} {args : List Val} {h h2 : Heap} {v : Val} (he : R_escheatref18_New n args (ro h) = some (v, h2)) (hf : v.flat = true) : S_escheatref18_New args h = some (v, h) := K_escheatref18_New.flat he hf
theorem S_escheatref18_New_low {n : Nat} {args : List Val} {h h2 : Heap} {v : Val} (he : R_escheatref18_New n args (ro h) = some (v, h2)) (hf : v.low h.length = true) : S_escheatref18_New args h = some (v, h) := K_escheatref18_New.low he hf
theorem S_escheatref18_New_out2 {n : Nat} {args : List Val} {h h2 : Heap} {i : Nat} {c : Cell} {sz k : Nat} {cs : List Cell} (he : R_escheatref18_New n args (ro h) = some (.t [.c (.sl i 0 k sz), .c c], h2)) (ho : Out h.length h2 (.c (.sl i 0 k sz)) sz k cs) (hf : flats cs = true) (hc : c.flat = true) : S_escheatref18_New args h = some (.t [.c (.sl h.length 0 k sz), .c c], h ++ [some ⟨cs, true⟩]) := K_escheatref18_New.out2 he ho hf hc
theorem S_escheatref18_New_tidy {n : Nat} {args : List Val} {h h2 : Heap} {v : Val} {v2 : Val} {ids : List Nat} (he : R_escheatref18_New n args (ro h) = some (v, h2)) (hc : canonV h2 h.length v = some (v2, ids)) : S_escheatref18_New args h = some (v2, h ++ ids.map (rd h2)) := K_escheatref18_New.tidy he hc
def escheatref18_Read_o0 : List AOper := [{ dst := some 4, op := .alloc ([.s [], .i .i64 0]) }, { dst := some 5, op := .mv (.v (.c (.b false))) }]
def escheatref18_Read_c0 : ACode := .ops escheatref18_Read_o0
def escheatref18_Read_o1 : List AOper := [{ dst := some 10, op := .mv (.t 0) }, { dst := some 11, op := .mv (.t 1) }, { dst := some 12, op := .bin .mul (.v (.c (.i .i64 32))) (.t 11) }, { dst := some 13, op := .bin .add (.v (.c (.i .i64 34))) (.t 12) }, { dst := some 14, op := .call 85 [(.t 10), (.t 13), (.v (.c (.i .i64 25)))] }, { dst := some 15, op := .call 50 [(.t 14)] }, { dst := some 9, op := .mv (.t 15) }, { dst := some 16, op := .ext (.t 9) 0 }, { dst := some 17, op := .ext (.t 9) 1 }, { dst := some 6, op := .mv (.t 16) }, { dst := some 7, op := .mv (.t 17) }]
def escheatref18_Read_c1 : ACode := .ops escheatref18_Read_o1
def escheatref18_Read_o2 : List AOper := [{ dst := some 18, op := .mv (.t 6) }, { dst := some 19, op := .mv (.t 0) }, { dst := some 20, op := .mv (.t 1) }, { dst := some 21, op := .bin .mul (.v (.c (.i .i64 32))) (.t 20) }, { dst := some 22, op := .bin .add (.v (.c (.i .i64 32))) (.t 21) }, { dst := some 23, op := .call 83 [(.t 19), (.t 22), (.v (.c (.i .i64 2)))] }, { dst := some 24, op := .build ([.s [], .i .i64 0]) [(0, 1, (.t 18)), (1, 1, (.t 23))] }, { dst := some 8, op := .alloc ([.s [], .i .i64 0]) }, { dst := none, op := .storeN 2 (.t 8) (.t 24) }]
def escheatref18_Read_c2 : ACode := .ops escheatref18_Read_o2
def escheatref18_Read_o3 : List AOper := [{ dst := some 25, op := .mv (.t 7) }, { dst := some 26, op := .un .not (.t 25) }, { dst := some 27, op := .mv (.t 26) }, { dst := some 28, op := .loadN 2 (.t 8), guard := some (27, false) }, { dst := some 29, op := .call 171 [(.t 28)], guard := some (27, false) }, { dst := some 30, op := .un .not (.t 29), guard := some (27, false) }, { dst := some 31, op := .pick (.t 27) (.v (.c (.b true))) (.t 30) }, { dst := some 32, op := .mv (.t 31) }, { dst := some 33, op := .loadN 2 (.t 8), guard := some (32, false) }, { dst := some 34, op := .call 172 [(.t 33)], guard := some (32, false) }, { dst := some 35, op := .mv (.t 0), guard := some (32, false) }, { dst := some 36, op := .mv (.t 1), guard := some (32, false) }, { dst := some 37, op := .bin .mul (.v (.c (.i .i64 32))) (.t 36), guard := some (32, false) }, { dst := some 38, op := .bin .add (.v (.c (.i .i64 32))) (.t 37), guard := some (32, false) }, { dst := some 39, op := .call 85 [(.t 35), (.t 38), (.v (.c (.i .i64 32)))], guard := some (32, false) }, { dst := some 40, op := .call 47 [(.t 34), (.t 39)], guard := some (32, false) }, { dst := some 41, op := .un .not (.t 40), guard := some (32, false) }, { dst := some 42, op := .pick (.t 32) (.v (.c (.b true))) (.t 41) }]
def escheatref18_Read_c3 : ACode := .ops escheatref18_Read_o3
def escheatref18_Read_o4 : List AOper := [{ dst := some 43, op := .build ([.s [], .i .i64 0]) [] }, { dst := none, op := .storeN 2 (.t 4) (.t 43) }, { dst := some 5, op := .mv (.v (.c (.b false))) }]
def escheatref18_Read_c4 : ACode := .ops escheatref18_Read_o4
def escheatref18_Read_c5 : ACode := .seq [4, 5] escheatref18_Read_c4 .ret
def escheatref18_Read_c6 : ACode := .cond (.t 42) escheatref18_Read_c5 .skip
def escheatref18_Read_c7 : ACode := .seq [4, 8, 42] escheatref18_Read_c3 escheatref18_Read_c6
def escheatref18_Read_o5 : List AOper := [{ dst := some 44, op := .loadN 2 (.t 8) }, { dst := none, op := .storeN 2 (.t 4) (.t 44) }, { dst := some 5, op := .mv (.v (.c (.b true))) }]
def escheatref18_Read_c8 : ACode := .ops escheatref18_Read_o5
def escheatref18_Read_c9 : ACode := .seq [4, 5] escheatref18_Read_c8 .ret
def escheatref18_Read_c10 : ACode := .seq [4, 8] escheatref18_Read_c7 escheatref18_Read_c9
def escheatref18_Read_c11 : ACode := .seq [0, 1, 4, 7, 8] escheatref18_Read_c2 escheatref18_Read_c10
def escheatref18_Read_c12 : ACode := .seq [0, 1, 4, 6, 7] escheatref18_Read_c1 escheatref18_Read_c11
def escheatref18_Read_c13 : ACode := .seq [0, 1, 4] escheatref18_Read_c0 escheatref18_Read_c12
def A_escheatref18_Read : AFn := ⟨escheatref18_Read_c13, [.cellN 4 2, .tmp 5]⟩
noncomputable def E_escheatref18_Read : Sums := disp 85 S_escheatref01_Cut (disp 50 S_escheatref03_Unpack (disp 83 S_escheatref01_At (disp 171 S_escheatref18_May (disp 172 S_escheatref18_Bytes (disp 47 S_escheatref01_Same disp0)))))
noncomputable def escheatref18_Read_c0_d (n : Nat) : SmV := smOps E_escheatref18_Read escheatref18_Read_o0
noncomputable def escheatref18_Read_c1_d (n : Nat) : SmV := smOps E_escheatref18_Read escheatref18_Read_o1
noncomputable def escheatref18_Read_c2_d (n : Nat) : SmV := smOps E_escheatref18_Read escheatref18_Read_o2
noncomputable def escheatref18_Read_c3_d (n : Nat) : SmV := smOps E_escheatref18_Read escheatref18_Read_o3
noncomputable def escheatref18_Read_c4_d (n : Nat) : SmV := smOps E_escheatref18_Read escheatref18_Read_o4
noncomputable def escheatref18_Read_c5_d (n : Nat) : SmV := smSeq [4, 5] (escheatref18_Read_c4_d n) smRet
noncomputable def escheatref18_Read_c6_d (n : Nat) : SmV := smCond (.t 42) (escheatref18_Read_c5_d n) smSkip
noncomputable def escheatref18_Read_c7_d (n : Nat) : SmV := smSeq [4, 8, 42] (escheatref18_Read_c3_d n) (escheatref18_Read_c6_d n)
noncomputable def escheatref18_Read_c8_d (n : Nat) : SmV := smOps E_escheatref18_Read escheatref18_Read_o5
noncomputable def escheatref18_Read_c9_d (n : Nat) : SmV := smSeq [4, 5] (escheatref18_Read_c8_d n) smRet
noncomputable def escheatref18_Read_c10_d (n : Nat) : SmV := smSeq [4, 8] (escheatref18_Read_c7_d n) (escheatref18_Read_c9_d n)
noncomputable def escheatref18_Read_c11_d (n : Nat) : SmV := smSeq [0, 1, 4, 7, 8] (escheatref18_Read_c2_d n) (escheatref18_Read_c10_d n)
noncomputable def escheatref18_Read_c12_d (n : Nat) : SmV := smSeq [0, 1, 4, 6, 7] (escheatref18_Read_c1_d n) (escheatref18_Read_c11_d n)
noncomputable def escheatref18_Read_c13_d (n : Nat) : SmV := smSeq [0, 1, 4] (escheatref18_Read_c0_d n) (escheatref18_Read_c12_d n)
noncomputable def R_escheatref18_Read (n : Nat) (args : List Val) (h : Heap) : OptV := (escheatref18_Read_c13_d n) A_escheatref18_Read.fin (params 0 args) h
theorem R_escheatref18_Read_eq (n : Nat) (a0 a1 : Val) (h : Heap) : R_escheatref18_Read n [a0, a1] h = bnd (abin .mul (.c (.i .i64 32)) a1) fun v1 => bnd (abin .add (.c (.i .i64 34)) v1) fun v2 => bnd (S_escheatref01_Cut [a0, v2, .c (.i .i64 25)] ((h ++ [some (Row.mk ([.s [], .i .i64 0]) true)]))) fun p3 => bnd (S_escheatref03_Unpack [p3.1] p3.2) fun p4 => bnd (aext p4.1 0) fun v5 => bnd (aext p4.1 1) fun v6 => bnd (abin .mul (.c (.i .i64 32)) a1) fun v7 => bnd (abin .add (.c (.i .i64 32)) v7) fun v8 => bnd (S_escheatref01_At [a0, v8, .c (.i .i64 2)] p4.2) fun p9 => bnd (afill ([.s [], .i .i64 0]) [(0, 1, v5), (1, 1, p9.1)]) fun c10 => bnd (astoreN ((p9.2 ++ [some (Row.mk ([.s [], .i .i64 0]) true)])) 2 ((.c (.p p9.2.length 0))) ((.a c10))) fun h11 => bnd (aun .not v6) fun v12 => bnd (gd v12 false (bnd (aloadN h11 2 ((.c (.p p9.2.length 0)))) fun v13 => some (v13, h11)) (some (.no, h11))) fun p14 => bnd (gd v12 false (bnd (S_escheatref18_May [p14.1] p14.2) fun p15 => some (p15.1, p15.2)) (some (.no, p14.2))) fun p16 => bnd (gd v12 false (bnd (aun .not p16.1) fun v17 => some (v17, p16.2)) (some (.no, p16.2))) fun p18 => bnd (apick v12 (.c (.b true)) p18.1) fun v19 => bnd (gd v19 false (bnd (aloadN p18.2 2 ((.c (.p p9.2.length 0)))) fun v20 => some (v20, p18.2)) (some (.no, p18.2))) fun p21 => bnd (gd v19 false (bnd (S_escheatref18_Bytes [p21.1] p21.2) fun p22 => some (p22.1, p22.2)) (some (.no, p21.2))) fun p23 => bnd (gd v19 false (some (a0, p23.2)) (some (.no, p23.2))) fun p24 => bnd (gd v19 false (some (a1, p24.2)) (some (.no, p24.2))) fun p25 => bnd (gd v19 false (bnd (abin .mul (.c (.i .i64 32)) p25.1) fun v26 => some (v26, p25.2)) (some (.no, p25.2))) fun p27 => bnd (gd v19 false (bnd (abin .add (.c (.i .i64 32)) p27.1) fun v28 => some (v28, p27.2)) (some (.no, p27.2))) fun p29 => bnd (gd v19 false (bnd (S_escheatref01_Cut [p24.1, p29.1, .c (.i .i64 32)] p29.2) fun p30 => some (p30.1, p30.2)) (some (.no, p29.2))) fun p31 => bnd (gd v19 false (bnd (S_escheatref01_Same [p23.1, p31.1] p31.2) fun p32 => some (p32.1, p32.2)) (some (.no, p31.2))) fun p33 => bnd (gd v19 false (bnd (aun .not p33.1) fun v34 => some (v34, p33.2)) (some (.no, p33.2))) fun p35 => bnd (apick v19 (.c (.b true)) p35.1) fun v36 => cnd v36 (bnd (afill ([.s [], .i .i64 0]) []) fun c37 => bnd (astoreN p35.2 2 ((.c (.p h.length 0))) ((.a c37))) fun h38 => tupN [aloadN h38 2 ((.c (.p h.length 0))), some (.c (.b false))] h38) (bnd (aloadN p35.2 2 ((.c (.p p9.2.length 0)))) fun v39 => bnd (astoreN p35.2 2 ((.c (.p h.length 0))) v39) fun h40 => tupN [aloadN h40 2 ((.c (.p h.length 0))), some (.c (.b true))] h40) := by kernel_rfl
theorem K_escheatref18_Read : FnK Try.prog 155 A_escheatref18_Read E_escheatref18_Read R_escheatref18_Read := .mk' (sound1 S_escheatref01_Cut_ok (sound1 S_escheatref03_Unpack_ok (sound1 S_escheatref01_At_ok (sound1 S_escheatref18_May_ok (sound1 S_escheatref18_Bytes_ok (sound1 S_escheatref01_Same_ok sound0)))))) Try.func155 (by kernel_rfl) (by intro n args h; kernel_rfl)
noncomputable def S_escheatref18_Read : Fun := tidy (Lim A_escheatref18_Read E_escheatref18_Read)
theorem S_escheatref18_Read_ok : SOk Try.prog 155 S_escheatref18_Read := K_escheatref18_Read.sok
theorem S_escheatref18_Read_flat {n : Nat} {args : List Val} {h h2 : Heap} {v : Val} (he : R_escheatref18_Read n args (ro h) = some (v, h2)) (hf : v.flat = true) : S_escheatref18_Read args h = some (v, h) := K_escheatref18_Read.flat he hf
def escheatref18_Find_o0 : List AOper := [{ dst := some 4, op := .mv (.v (.c (.i .i64 0))) }]
def escheatref18_Find_c0 : ACode := .ops escheatref18_Find_o0
def escheatref18_Find_o1 : List AOper := [{ dst := some 5, op := .mv (.v (.c (.i .i64 0))) }]
def escheatref18_Find_c1 : ACode := .ops escheatref18_Find_o1
def escheatref18_Find_o2 : List AOper := [{ dst := some 8, op := .mv (.t 5) }, { dst := some 9, op := .bin .lss (.t 8) (.v (.c (.i .i64 7))) }]
def escheatref18_Find_c2 : ACode := .ops escheatref18_Find_o2
def escheatref18_Find_c3 : ACode := .cond (.t 9) .skip (.exit 0)
def escheatref18_Find_c4 : ACode := .seq [0, 1, 5, 9] escheatref18_Find_c2 escheatref18_Find_c3
def escheatref18_Find_o3 : List AOper := [{ dst := some 13, op := .mv (.t 0) }, { dst := some 14, op := .mv (.t 5) }, { dst := some 15, op := .call 155 [(.t 13), (.t 14)] }, { dst := some 12, op := .mv (.t 15) }, { dst := some 16, op := .ext (.t 12) 0 }, { dst := some 17, op := .ext (.t 12) 1 }, { dst := some 6, op := .alloc ([.s [], .i .i64 0]) }, { dst := none, op := .storeN 2 (.t 6) (.t 16) }, { dst := some 7, op := .mv (.t 17) }]
def escheatref18_Find_c5 : ACode := .ops escheatref18_Find_o3
def escheatref18_Find_o4 : List AOper := [{ dst := some 18, op := .mv (.t 7) }, { dst := some 19, op := .mv (.t 18) }, { dst := some 20, op := .fAddr (.t 6) 0, guard := some (19, true) }, { dst := some 21, op := .load1 (.t 20), guard := some (19, true) }, { dst := some 22, op := .mv (.t 1), guard := some (19, true) }, { dst := some 23, op := .bin .eql (.t 21) (.t 22), guard := some (19, true) }, { dst := some 24, op := .pick (.t 19) (.t 23) (.v (.c (.b false))) }]
def escheatref18_Find_c6 : ACode := .ops escheatref18_Find_o4
def escheatref18_Find_o5 : List AOper := [{ dst := some 25, op := .mv (.t 5) }, { dst := some 4, op := .mv (.t 25) }]
def escheatref18_Find_c7 : ACode := .ops escheatref18_Find_o5
def escheatref18_Find_c8 : ACode := .seq [4] escheatref18_Find_c7 .ret
def escheatref18_Find_c9 : ACode := .cond (.t 24) escheatref18_Find_c8 .skip
def escheatref18_Find_c10 : ACode := .seq [0, 1, 5, 24] escheatref18_Find_c6 escheatref18_Find_c9
def escheatref18_Find_c11 : ACode := .seq [0, 1, 5, 6, 7] escheatref18_Find_c5 escheatref18_Find_c10
def escheatref18_Find_c12 : ACode := .block 1 escheatref18_Find_c11
def escheatref18_Find_o6 : List AOper := [{ dst := some 10, op := .mv (.t 5) }, { dst := some 11, op := .bin .add (.t 10) (.v (.c (.i .i64 1))) }, { dst := some 5, op := .mv (.t 11) }]
def escheatref18_Find_c13 : ACode := .ops escheatref18_Find_o6
def escheatref18_Find_c14 : ACode := .seq [0, 1, 5] escheatref18_Find_c12 escheatref18_Find_c13
def escheatref18_Find_c15 : ACode := .seq [0, 1, 5] escheatref18_Find_c4 escheatref18_Find_c14
def escheatref18_Find_c16 : ACode := .loop [0, 1, 5] escheatref18_Find_c15
def escheatref18_Find_c17 : ACode := .block 0 escheatref18_Find_c16
def escheatref18_Find_c18 : ACode := .seq [0, 1, 5] escheatref18_Find_c1 escheatref18_Find_c17
def escheatref18_Find_o7 : List AOper := [{ dst := some 4, op := .mv (.v (.c (.i .i64 (-1)))) }]
def escheatref18_Find_c19 : ACode := .ops escheatref18_Find_o7
def escheatref18_Find_c20 : ACode := .seq [4] escheatref18_Find_c19 .ret
def escheatref18_Find_c21 : ACode := .seq [] escheatref18_Find_c18 escheatref18_Find_c20
def escheatref18_Find_c22 : ACode := .seq [0, 1] escheatref18_Find_c0 escheatref18_Find_c21
def A_escheatref18_Find : AFn := ⟨escheatref18_Find_c22, [.tmp 4]⟩
noncomputable def E_escheatref18_Find : Sums := disp 155 S_escheatref18_Read disp0
noncomputable def escheatref18_Find_c0_d (n : Nat) : SmV := smOps E_escheatref18_Find escheatref18_Find_o0
noncomputable def escheatref18_Find_c1_d (n : Nat) : SmV := smOps E_escheatref18_Find escheatref18_Find_o1
noncomputable def escheatref18_Find_c2_d (n : Nat) : SmV := smOps E_escheatref18_Find escheatref18_Find_o2
noncomputable def escheatref18_Find_c3_d (n : Nat) : SmV := smCond (.t 9) smSkip (smExit 0)
noncomputable def escheatref18_Find_c4_d (n : Nat) : SmV := smSeq [0, 1, 5, 9] (escheatref18_Find_c2_d n) (escheatref18_Find_c3_d n)
noncomputable def escheatref18_Find_c5_d (n : Nat) : SmV := smOps E_escheatref18_Find escheatref18_Find_o3
noncomputable def escheatref18_Find_c6_d (n : Nat) : SmV := smOps E_escheatref18_Find escheatref18_Find_o4
noncomputable def escheatref18_Find_c7_d (n : Nat) : SmV := smOps E_escheatref18_Find escheatref18_Find_o5
noncomputable def escheatref18_Find_c8_d (n : Nat) : SmV := smSeq [4] (escheatref18_Find_c7_d n) smRet
noncomputable def escheatref18_Find_c9_d (n : Nat) : SmV := smCond (.t 24) (escheatref18_Find_c8_d n) smSkip
noncomputable def escheatref18_Find_c10_d (n : Nat) : SmV := smSeq [0, 1, 5, 24] (escheatref18_Find_c6_d n) (escheatref18_Find_c9_d n)
noncomputable def escheatref18_Find_c11_d (n : Nat) : SmV := smSeq [0, 1, 5, 6, 7] (escheatref18_Find_c5_d n) (escheatref18_Find_c10_d n)
noncomputable def escheatref18_Find_c12_d (n : Nat) : SmV := smBlock 1 (escheatref18_Find_c11_d n)
noncomputable def escheatref18_Find_c13_d (n : Nat) : SmV := smOps E_escheatref18_Find escheatref18_Find_o6
noncomputable def escheatref18_Find_c14_d (n : Nat) : SmV := smSeq [0, 1, 5] (escheatref18_Find_c12_d n) (escheatref18_Find_c13_d n)
noncomputable def escheatref18_Find_c15_d (n : Nat) : SmV := smSeq [0, 1, 5] (escheatref18_Find_c4_d n) (escheatref18_Find_c14_d n)
noncomputable def escheatref18_Find_c16_d (n : Nat) : SmV := smLoop n [0, 1, 5] (escheatref18_Find_c15_d n)
noncomputable def escheatref18_Find_c17_d (n : Nat) : SmV := smBlock 0 (escheatref18_Find_c16_d n)
noncomputable def escheatref18_Find_c18_d (n : Nat) : SmV := smSeq [0, 1, 5] (escheatref18_Find_c1_d n) (escheatref18_Find_c17_d n)
noncomputable def escheatref18_Find_c19_d (n : Nat) : SmV := smOps E_escheatref18_Find escheatref18_Find_o7
noncomputable def escheatref18_Find_c20_d (n : Nat) : SmV := smSeq [4] (escheatref18_Find_c19_d n) smRet
noncomputable def escheatref18_Find_c21_d (n : Nat) : SmV := smSeq [] (escheatref18_Find_c18_d n) (escheatref18_Find_c20_d n)
noncomputable def escheatref18_Find_c22_d (n : Nat) : SmV := smSeq [0, 1] (escheatref18_Find_c0_d n) (escheatref18_Find_c21_d n)
noncomputable def escheatref18_Find_k0 (n : Nat) : AExit → Env → Heap → OptV := fun x e h => match x with | .normal => hold ((escheatref18_Find_c20_d n) A_escheatref18_Find.fin (e.keep []) h) | .exit id => A_escheatref18_Find.fin (.exit id) e h | .ret => A_escheatref18_Find.fin .ret e h
noncomputable def escheatref18_Find_k1 (n : Nat) : AExit → Env → Heap → OptV := fun x e h => match x with | .exit i => bif Nat.beq i 0 then (escheatref18_Find_k0 n) .normal e h else (escheatref18_Find_k0 n) (.exit i) e h | .normal => (escheatref18_Find_k0 n) .normal e h | .ret => (escheatref18_Find_k0 n) .ret e h
noncomputable def escheatref18_Find_l0 (n m : Nat) (x0 x1 x5 : Val) (h : Heap) : OptV := around (escheatref18_Find_c15_d n) [0, 1, 5] (escheatref18_Find_k1 n) m [(0, x0), (1, x1), (5, x5)] h
noncomputable def R_escheatref18_Find (n : Nat) (args : List Val) (h : Heap) : OptV := (escheatref18_Find_c22_d n) A_escheatref18_Find.fin (params 0 args) h
theorem R_escheatref18_Find_eq (n : Nat) (a0 a1 : Val) (h : Heap) : R_escheatref18_Find n [a0, a1] h = escheatref18_Find_l0 n n a0 a1 (.c (.i .i64 0)) h := by kernel_rfl
theorem escheatref18_Find_l0_eq (n m : Nat) (x0 x1 x5 : Val) (h : Heap) : escheatref18_Find_l0 n (m + 1) x0 x1 x5 h = bnd (abin .lss x5 (.c (.i .i64 7))) fun v1 => cnd v1 (bnd (S_escheatref18_Read [x0, x5] h) fun p2 => bnd (aext p2.1 0) fun v3 => bnd (aext p2.1 1) fun v4 => bnd (astoreN ((p2.2 ++ [some (Row.mk ([.s [], .i .i64 0]) true)])) 2 ((.c (.p p2.2.length 0))) v3) fun h5 => bnd (gd v4 true (bnd (afAddr ((.c (.p p2.2.length 0))) 0) fun v6 => some (v6, h5)) (some (.no, h5))) fun p7 => bnd (gd v4 true (bnd (aload1 p7.2 p7.1) fun v8 => some (v8, p7.2)) (some (.no, p7.2))) fun p9 => bnd (gd v4 true (some (x1, p9.2)) (some (.no, p9.2))) fun p10 => bnd (gd v4 true (bnd (abin .eql p9.1 p10.1) fun v11 => some (v11, p10.2)) (some (.no, p10.2))) fun p12 => bnd (apick v4 p12.1 (.c (.b false))) fun v13 => cnd v13 (some (x5, p12.2)) (bnd (abin .add x5 (.c (.i .i64 1))) fun v14 => escheatref18_Find_l0 n m x0 x1 v14 p12.2)) (some ((.c (.i .i64 (-1))), h)) := by kernel_rfl
theorem K_escheatref18_Find : FnK Try.prog 157 A_escheatref18_Find E_escheatref18_Find R_escheatref18_Find := .mk' (sound1 S_escheatref18_Read_ok sound0) Try.func157 (by kernel_rfl) (by intro n args h; kernel_rfl)
noncomputable def S_escheatref18_Find : Fun := tidy (Lim A_escheatref18_Find E_escheatref18_Find)
theorem S_escheatref18_Find_ok : SOk Try.prog 157 S_escheatref18_Find := K_escheatref18_Find.sok
theorem S_escheatref18_Find_flat {n : Nat} {args : List Val} {h h2 : Heap} {v : Val} (he : R_escheatref18_Find n args (ro h) = some (v, h2)) (hf : v.flat = true) : S_escheatref18_Find args h = some (v, h) := K_escheatref18_Find.flat he hf
def escheatref18_Empty_o0 : List AOper := [{ dst := some 4, op := .mv (.v (.c (.b false))) }]
def escheatref18_Empty_c0 : ACode := .ops escheatref18_Empty_o0
def escheatref18_Empty_o1 : List AOper := [{ dst := some 5, op := .mv (.t 0) }, { dst := some 6, op := .mv (.t 1) }, { dst := some 7, op := .bin .mul (.v (.c (.i .i64 32))) (.t 6) }, { dst := some 8, op := .bin .add (.v (.c (.i .i64 32))) (.t 7) }, { dst := some 9, op := .call 85 [(.t 5), (.t 8), (.v (.c (.i .i64 32)))] }, { dst := some 10, op := .mkSl 1 ([.i .u8 0]) (.v (.c (.i .i64 32))) (.v (.c (.i .i64 32))), slot := some 0 }]
def escheatref18_Empty_o2 : List AOper := [{ dst := some 11, op := .call 47 [(.t 9), (.t 10)] }, { dst := some 4, op := .mv (.t 11) }]
def escheatref18_Empty_c1 : ACode := .draw 1 escheatref18_Empty_o1 escheatref18_Empty_o2
def escheatref18_Empty_c2 : ACode := .seq [4] escheatref18_Empty_c1 .ret
def escheatref18_Empty_c3 : ACode := .seq [0, 1] escheatref18_Empty_c0 escheatref18_Empty_c2
def A_escheatref18_Empty : AFn := ⟨escheatref18_Empty_c3, [.tmp 4]⟩
noncomputable def E_escheatref18_Empty : Sums := disp 85 S_escheatref01_Cut (disp 47 S_escheatref01_Same disp0)
noncomputable def escheatref18_Empty_c0_d (n : Nat) : SmV := smOps E_escheatref18_Empty escheatref18_Empty_o0
noncomputable def escheatref18_Empty_c1_d (n : Nat) : SmV := smDraw E_escheatref18_Empty 1 escheatref18_Empty_o1 escheatref18_Empty_o2
noncomputable def escheatref18_Empty_c2_d (n : Nat) : SmV := smSeq [4] (escheatref18_Empty_c1_d n) smRet
noncomputable def escheatref18_Empty_c3_d (n : Nat) : SmV := smSeq [0, 1] (escheatref18_Empty_c0_d n) (escheatref18_Empty_c2_d n)
noncomputable def R_escheatref18_Empty (n : Nat) (args : List Val) (h : Heap) : OptV := (escheatref18_Empty_c3_d n) A_escheatref18_Empty.fin (params 0 args) h
theorem R_escheatref18_Empty_eq (n : Nat) (a0 a1 : Val) (h : Heap) : R_escheatref18_Empty n [a0, a1] h = bnd (abin .mul (.c (.i .i64 32)) a1) fun v1 => bnd (abin .add (.c (.i .i64 32)) v1) fun v2 => bnd (quiet ((h ++ [none])) (S_escheatref01_Cut [a0, v2, .c (.i .i64 32)] ((h ++ [none])))) fun p3 => bnd (amkn (.c (.i .i64 32)) (.c (.i .i64 32))) fun n4 => bnd (S_escheatref01_Same [p3.1, (.c (.sl (h.length + 0) 0 n4 1))] ((p3.2.set (h.length + 0) (some (Row.mk (rows ([.i .u8 0]) n4) true))))) fun p5 => some (p5.1, p5.2) := by kernel_rfl
theorem K_escheatref18_Empty : FnK Try.prog 202 A_escheatref18_Empty E_escheatref18_Empty R_escheatref18_Empty := .mk' (sound1 S_escheatref01_Cut_ok (sound1 S_escheatref01_Same_ok sound0)) Try.func202 (by kernel_rfl) (by intro n args h; kernel_rfl)
noncomputable def S_escheatref18_Empty : Fun := tidy (Lim A_escheatref18_Empty E_escheatref18_Empty)
theorem S_escheatref18_Empty_ok : SOk Try.prog 202 S_escheatref18_Empty := K_escheatref18_Empty.sok
theorem S_escheatref18_Empty_flat {n : Nat} {args : List Val} {h h2 : Heap} {v : Val} (he : R_escheatref18_Empty n args (ro h) = some (v, h2)) (hf : v.flat = true) : S_escheatref18_Empty args h = some (v, h) := K_escheatref18_Empty.flat he hf
def escheatref18_Room_o0 : List AOper := [{ dst := some 2, op := .mv (.v (.c (.i .i64 0))) }]
def escheatref18_Room_c0 : ACode := .ops escheatref18_Room_o0
def escheatref18_Room_o1 : List AOper := [{ dst := some 3, op := .mv (.v (.c (.i .i64 0))) }]
def escheatref18_Room_c1 : ACode := .ops escheatref18_Room_o1
def escheatref18_Room_o2 : List AOper := [{ dst := some 4, op := .mv (.t 3) }, { dst := some 5, op := .bin .lss (.t 4) (.v (.c (.i .i64 7))) }]
def escheatref18_Room_c2 : ACode := .ops escheatref18_Room_o2
def escheatref18_Room_c3 : ACode := .cond (.t 5) .skip (.exit 0)
def escheatref18_Room_c4 : ACode := .seq [0, 3, 5] escheatref18_Room_c2 escheatref18_Room_c3
def escheatref18_Room_o3 : List AOper := [{ dst := some 8, op := .mv (.t 0) }, { dst := some 9, op := .mv (.t 3) }, { dst := some 10, op := .call 202 [(.t 8), (.t 9)] }]
def escheatref18_Room_c5 : ACode := .ops escheatref18_Room_o3
def escheatref18_Room_o4 : List AOper := [{ dst := some 11, op := .mv (.t 3) }, { dst := some 2, op := .mv (.t 11) }]
def escheatref18_Room_c6 : ACode := .ops escheatref18_Room_o4
def escheatref18_Room_c7 : ACode := .seq [2] escheatref18_Room_c6 .ret
def escheatref18_Room_c8 : ACode := .cond (.t 10) escheatref18_Room_c7 .skip
def escheatref18_Room_c9 : ACode := .seq [0, 3, 10] escheatref18_Room_c5 escheatref18_Room_c8
def escheatref18_Room_c10 : ACode := .block 1 escheatref18_Room_c9
def escheatref18_Room_o5 : List AOper := [{ dst := some 6, op := .mv (.t 3) }, { dst := some 7, op := .bin .add (.t 6) (.v (.c (.i .i64 1))) }, { dst := some 3, op := .mv (.t 7) }]
def escheatref18_Room_c11 : ACode := .ops escheatref18_Room_o5
def escheatref18_Room_c12 : ACode := .seq [0, 3] escheatref18_Room_c10 escheatref18_Room_c11
def escheatref18_Room_c13 : ACode := .seq [0, 3] escheatref18_Room_c4 escheatref18_Room_c12
def escheatref18_Room_c14 : ACode := .loop [0, 3] escheatref18_Room_c13
def escheatref18_Room_c15 : ACode := .block 0 escheatref18_Room_c14
def escheatref18_Room_c16 : ACode := .seq [0, 3] escheatref18_Room_c1 escheatref18_Room_c15
def escheatref18_Room_o6 : List AOper := [{ dst := some 2, op := .mv (.v (.c (.i .i64 (-1)))) }]
def escheatref18_Room_c17 : ACode := .ops escheatref18_Room_o6
def escheatref18_Room_c18 : ACode := .seq [2] escheatref18_Room_c17 .ret
def escheatref18_Room_c19 : ACode := .seq [] escheatref18_Room_c16 escheatref18_Room_c18
def escheatref18_Room_c20 : ACode := .seq [0] escheatref18_Room_c0 escheatref18_Room_c19
def A_escheatref18_Room : AFn := ⟨escheatref18_Room_c20, [.tmp 2]⟩
noncomputable def E_escheatref18_Room : Sums := disp 202 S_escheatref18_Empty disp0
noncomputable def escheatref18_Room_c0_d (n : Nat) : SmV := smOps E_escheatref18_Room escheatref18_Room_o0
noncomputable def escheatref18_Room_c1_d (n : Nat) : SmV := smOps E_escheatref18_Room escheatref18_Room_o1
noncomputable def escheatref18_Room_c2_d (n : Nat) : SmV := smOps E_escheatref18_Room escheatref18_Room_o2
noncomputable def escheatref18_Room_c3_d (n : Nat) : SmV := smCond (.t 5) smSkip (smExit 0)
noncomputable def escheatref18_Room_c4_d (n : Nat) : SmV := smSeq [0, 3, 5] (escheatref18_Room_c2_d n) (escheatref18_Room_c3_d n)
noncomputable def escheatref18_Room_c5_d (n : Nat) : SmV := smOps E_escheatref18_Room escheatref18_Room_o3
noncomputable def escheatref18_Room_c6_d (n : Nat) : SmV := smOps E_escheatref18_Room escheatref18_Room_o4
noncomputable def escheatref18_Room_c7_d (n : Nat) : SmV := smSeq [2] (escheatref18_Room_c6_d n) smRet
noncomputable def escheatref18_Room_c8_d (n : Nat) : SmV := smCond (.t 10) (escheatref18_Room_c7_d n) smSkip
noncomputable def escheatref18_Room_c9_d (n : Nat) : SmV := smSeq [0, 3, 10] (escheatref18_Room_c5_d n) (escheatref18_Room_c8_d n)
noncomputable def escheatref18_Room_c10_d (n : Nat) : SmV := smBlock 1 (escheatref18_Room_c9_d n)
noncomputable def escheatref18_Room_c11_d (n : Nat) : SmV := smOps E_escheatref18_Room escheatref18_Room_o5
noncomputable def escheatref18_Room_c12_d (n : Nat) : SmV := smSeq [0, 3] (escheatref18_Room_c10_d n) (escheatref18_Room_c11_d n)
noncomputable def escheatref18_Room_c13_d (n : Nat) : SmV := smSeq [0, 3] (escheatref18_Room_c4_d n) (escheatref18_Room_c12_d n)
noncomputable def escheatref18_Room_c14_d (n : Nat) : SmV := smLoop n [0, 3] (escheatref18_Room_c13_d n)
noncomputable def escheatref18_Room_c15_d (n : Nat) : SmV := smBlock 0 (escheatref18_Room_c14_d n)
noncomputable def escheatref18_Room_c16_d (n : Nat) : SmV := smSeq [0, 3] (escheatref18_Room_c1_d n) (escheatref18_Room_c15_d n)
noncomputable def escheatref18_Room_c17_d (n : Nat) : SmV := smOps E_escheatref18_Room escheatref18_Room_o6
noncomputable def escheatref18_Room_c18_d (n : Nat) : SmV := smSeq [2] (escheatref18_Room_c17_d n) smRet
noncomputable def escheatref18_Room_c19_d (n : Nat) : SmV := smSeq [] (escheatref18_Room_c16_d n) (escheatref18_Room_c18_d n)
noncomputable def escheatref18_Room_c20_d (n : Nat) : SmV := smSeq [0] (escheatref18_Room_c0_d n) (escheatref18_Room_c19_d n)
noncomputable def escheatref18_Room_k0 (n : Nat) : AExit → Env → Heap → OptV := fun x e h => match x with | .normal => hold ((escheatref18_Room_c18_d n) A_escheatref18_Room.fin (e.keep []) h) | .exit id => A_escheatref18_Room.fin (.exit id) e h | .ret => A_escheatref18_Room.fin .ret e h
noncomputable def escheatref18_Room_k1 (n : Nat) : AExit → Env → Heap → OptV := fun x e h => match x with | .exit i => bif Nat.beq i 0 then (escheatref18_Room_k0 n) .normal e h else (escheatref18_Room_k0 n) (.exit i) e h | .normal => (escheatref18_Room_k0 n) .normal e h | .ret => (escheatref18_Room_k0 n) .ret e h
noncomputable def escheatref18_Room_l0 (n m : Nat) (x0 x3 : Val) (h : Heap) : OptV := around (escheatref18_Room_c13_d n) [0, 3] (escheatref18_Room_k1 n) m [(0, x0), (3, x3)] h
noncomputable def R_escheatref18_Room (n : Nat) (args : List Val) (h : Heap) : OptV := (escheatref18_Room_c20_d n) A_escheatref18_Room.fin (params 0 args) h
theorem R_escheatref18_Room_eq (n : Nat) (a0 : Val) (h : Heap) : R_escheatref18_Room n [a0] h = escheatref18_Room_l0 n n a0 (.c (.i .i64 0)) h := by kernel_rfl
theorem escheatref18_Room_l0_eq (n m : Nat) (x0 x3 : Val) (h : Heap) : escheatref18_Room_l0 n (m + 1) x0 x3 h = bnd (abin .lss x3 (.c (.i .i64 7))) fun v1 => cnd v1 (bnd (S_escheatref18_Empty [x0, x3] h) fun p2 => cnd p2.1 (some (x3, p2.2)) (bnd (abin .add x3 (.c (.i .i64 1))) fun v3 => escheatref18_Room_l0 n m x0 v3 p2.2)) (some ((.c (.i .i64 (-1))), h)) := by kernel_rfl
theorem K_escheatref18_Room : FnK Try.prog 159 A_escheatref18_Room E_escheatref18_Room R_escheatref18_Room := .mk' (sound1 S_escheatref18_Empty_ok sound0) Try.func159 (by kernel_rfl) (by intro n args h; kernel_rfl)
noncomputable def S_escheatref18_Room : Fun := tidy (Lim A_escheatref18_Room E_escheatref18_Room)
theorem S_escheatref18_Room_ok : SOk Try.prog 159 S_escheatref18_Room := K_escheatref18_Room.sok
theorem S_escheatref18_Room_flat {n : Nat} {args : List Val} {h h2 : Heap} {v : Val} (he : R_escheatref18_Room n args (ro h) = some (v, h2)) (hf : v.flat = true) : S_escheatref18_Room args h = some (v, h) := K_escheatref18_Room.flat he hf
def escheatref18_Fix_o0 : List AOper := [{ dst := some 2, op := .nilrow 1 }]
def escheatref18_Fix_c0 : ACode := .ops escheatref18_Fix_o0
def escheatref18_Fix_o1 : List AOper := [{ dst := some 7, op := .call 197 [] }, { dst := some 3, op := .mv (.t 7) }]
def escheatref18_Fix_c1 : ACode := .ops escheatref18_Fix_o1
def escheatref18_Fix_o2 : List AOper := [{ dst := some 4, op := .mv (.v (.c (.i .i64 0))) }]
def escheatref18_Fix_c2 : ACode := .ops escheatref18_Fix_o2
def escheatref18_Fix_o3 : List AOper := [{ dst := some 8, op := .mv (.t 4) }, { dst := some 9, op := .bin .lss (.t 8) (.v (.c (.i .i64 7))) }]
def escheatref18_Fix_c3 : ACode := .ops escheatref18_Fix_o3
def escheatref18_Fix_c4 : ACode := .cond (.t 9) .skip (.exit 0)
def escheatref18_Fix_c5 : ACode := .seq [0, 3, 4, 9] escheatref18_Fix_c3 escheatref18_Fix_c4
def escheatref18_Fix_o4 : List AOper := [{ dst := some 13, op := .mv (.t 0) }, { dst := some 14, op := .mv (.t 4) }, { dst := some 15, op := .call 155 [(.t 13), (.t 14)] }, { dst := some 12, op := .mv (.t 15) }, { dst := some 16, op := .ext (.t 12) 0 }, { dst := some 17, op := .ext (.t 12) 1 }, { dst := some 5, op := .alloc ([.s [], .i .i64 0]) }, { dst := none, op := .storeN 2 (.t 5) (.t 16) }, { dst := some 6, op := .mv (.t 17) }]
def escheatref18_Fix_c6 : ACode := .ops escheatref18_Fix_o4
def escheatref18_Fix_o5 : List AOper := [{ dst := some 18, op := .mv (.t 6) }, { dst := some 19, op := .mv (.t 18) }, { dst := some 20, op := .mv (.t 0), guard := some (19, true) }, { dst := some 21, op := .fAddr (.t 5) 0, guard := some (19, true) }, { dst := some 22, op := .load1 (.t 21), guard := some (19, true) }, { dst := some 23, op := .call 157 [(.t 20), (.t 22)], guard := some (19, true) }, { dst := some 24, op := .mv (.t 4), guard := some (19, true) }, { dst := some 25, op := .bin .eql (.t 23) (.t 24), guard := some (19, true) }, { dst := some 26, op := .pick (.t 19) (.t 25) (.v (.c (.b false))) }]
def escheatref18_Fix_c7 : ACode := .ops escheatref18_Fix_o5
def escheatref18_Fix_o6 : List AOper := [{ dst := some 27, op := .mv (.t 3) }, { dst := some 28, op := .mv (.t 4) }, { dst := some 29, op := .bin .mul (.v (.c (.i .i64 32))) (.t 28) }, { dst := some 30, op := .bin .add (.v (.c (.i .i64 32))) (.t 29) }, { dst := some 31, op := .loadN 2 (.t 5) }, { dst := some 32, op := .call 172 [(.t 31)] }, { dst := some 33, op := .call 86 [(.t 27), (.t 30), (.t 32)] }, { dst := some 3, op := .mv (.t 33) }]
def escheatref18_Fix_c8 : ACode := .ops escheatref18_Fix_o6
def escheatref18_Fix_c9 : ACode := .cond (.t 26) escheatref18_Fix_c8 .skip
def escheatref18_Fix_c10 : ACode := .seq [0, 3, 4, 5, 26] escheatref18_Fix_c7 escheatref18_Fix_c9
def escheatref18_Fix_c11 : ACode := .seq [0, 3, 4, 5, 6] escheatref18_Fix_c6 escheatref18_Fix_c10
def escheatref18_Fix_c12 : ACode := .block 1 escheatref18_Fix_c11
def escheatref18_Fix_o7 : List AOper := [{ dst := some 10, op := .mv (.t 4) }, { dst := some 11, op := .bin .add (.t 10) (.v (.c (.i .i64 1))) }, { dst := some 4, op := .mv (.t 11) }]
def escheatref18_Fix_c13 : ACode := .ops escheatref18_Fix_o7
def escheatref18_Fix_c14 : ACode := .seq [0, 3, 4] escheatref18_Fix_c12 escheatref18_Fix_c13
def escheatref18_Fix_c15 : ACode := .seq [0, 3, 4] escheatref18_Fix_c5 escheatref18_Fix_c14
def escheatref18_Fix_c16 : ACode := .loop [0, 3, 4] escheatref18_Fix_c15
def escheatref18_Fix_c17 : ACode := .block 0 escheatref18_Fix_c16
def escheatref18_Fix_c18 : ACode := .seq [0, 3, 4] escheatref18_Fix_c2 escheatref18_Fix_c17
def escheatref18_Fix_o8 : List AOper := [{ dst := some 34, op := .mv (.t 3) }, { dst := some 2, op := .mv (.t 34) }]
def escheatref18_Fix_c19 : ACode := .ops escheatref18_Fix_o8
def escheatref18_Fix_c20 : ACode := .seq [2] escheatref18_Fix_c19 .ret
def escheatref18_Fix_c21 : ACode := .seq [3] escheatref18_Fix_c18 escheatref18_Fix_c20
def escheatref18_Fix_c22 : ACode := .seq [0, 3] escheatref18_Fix_c1 escheatref18_Fix_c21
def escheatref18_Fix_c23 : ACode := .seq [0] escheatref18_Fix_c0 escheatref18_Fix_c22
def A_escheatref18_Fix : AFn := ⟨escheatref18_Fix_c23, [.tmp 2]⟩
noncomputable def E_escheatref18_Fix : Sums := disp 197 S_escheatref18_Head (disp 155 S_escheatref18_Read (disp 157 S_escheatref18_Find (disp 172 S_escheatref18_Bytes (disp 86 S_escheatref01_Lay disp0))))
noncomputable def escheatref18_Fix_c0_d (n : Nat) : SmV := smOps E_escheatref18_Fix escheatref18_Fix_o0
noncomputable def escheatref18_Fix_c1_d (n : Nat) : SmV := smOps E_escheatref18_Fix escheatref18_Fix_o1
noncomputable def escheatref18_Fix_c2_d (n : Nat) : SmV := smOps E_escheatref18_Fix escheatref18_Fix_o2
noncomputable def escheatref18_Fix_c3_d (n : Nat) : SmV := smOps E_escheatref18_Fix escheatref18_Fix_o3
noncomputable def escheatref18_Fix_c4_d (n : Nat) : SmV := smCond (.t 9) smSkip (smExit 0)
noncomputable def escheatref18_Fix_c5_d (n : Nat) : SmV := smSeq [0, 3, 4, 9] (escheatref18_Fix_c3_d n) (escheatref18_Fix_c4_d n)
noncomputable def escheatref18_Fix_c6_d (n : Nat) : SmV := smOps E_escheatref18_Fix escheatref18_Fix_o4
noncomputable def escheatref18_Fix_c7_d (n : Nat) : SmV := smOps E_escheatref18_Fix escheatref18_Fix_o5
noncomputable def escheatref18_Fix_c8_d (n : Nat) : SmV := smOps E_escheatref18_Fix escheatref18_Fix_o6
noncomputable def escheatref18_Fix_c9_d (n : Nat) : SmV := smCond (.t 26) (escheatref18_Fix_c8_d n) smSkip
noncomputable def escheatref18_Fix_c10_d (n : Nat) : SmV := smSeq [0, 3, 4, 5, 26] (escheatref18_Fix_c7_d n) (escheatref18_Fix_c9_d n)
noncomputable def escheatref18_Fix_c11_d (n : Nat) : SmV := smSeq [0, 3, 4, 5, 6] (escheatref18_Fix_c6_d n) (escheatref18_Fix_c10_d n)
noncomputable def escheatref18_Fix_c12_d (n : Nat) : SmV := smBlock 1 (escheatref18_Fix_c11_d n)
noncomputable def escheatref18_Fix_c13_d (n : Nat) : SmV := smOps E_escheatref18_Fix escheatref18_Fix_o7
noncomputable def escheatref18_Fix_c14_d (n : Nat) : SmV := smSeq [0, 3, 4] (escheatref18_Fix_c12_d n) (escheatref18_Fix_c13_d n)
noncomputable def escheatref18_Fix_c15_d (n : Nat) : SmV := smSeq [0, 3, 4] (escheatref18_Fix_c5_d n) (escheatref18_Fix_c14_d n)
noncomputable def escheatref18_Fix_c16_d (n : Nat) : SmV := smLoop n [0, 3, 4] (escheatref18_Fix_c15_d n)
noncomputable def escheatref18_Fix_c17_d (n : Nat) : SmV := smBlock 0 (escheatref18_Fix_c16_d n)
noncomputable def escheatref18_Fix_c18_d (n : Nat) : SmV := smSeq [0, 3, 4] (escheatref18_Fix_c2_d n) (escheatref18_Fix_c17_d n)
noncomputable def escheatref18_Fix_c19_d (n : Nat) : SmV := smOps E_escheatref18_Fix escheatref18_Fix_o8
noncomputable def escheatref18_Fix_c20_d (n : Nat) : SmV := smSeq [2] (escheatref18_Fix_c19_d n) smRet
noncomputable def escheatref18_Fix_c21_d (n : Nat) : SmV := smSeq [3] (escheatref18_Fix_c18_d n) (escheatref18_Fix_c20_d n)
noncomputable def escheatref18_Fix_c22_d (n : Nat) : SmV := smSeq [0, 3] (escheatref18_Fix_c1_d n) (escheatref18_Fix_c21_d n)
noncomputable def escheatref18_Fix_c23_d (n : Nat) : SmV := smSeq [0] (escheatref18_Fix_c0_d n) (escheatref18_Fix_c22_d n)
noncomputable def escheatref18_Fix_k0 (n : Nat) : AExit → Env → Heap → OptV := fun x e h => match x with | .normal => hold ((escheatref18_Fix_c20_d n) A_escheatref18_Fix.fin (e.keep [3]) h) | .exit id => A_escheatref18_Fix.fin (.exit id) e h | .ret => A_escheatref18_Fix.fin .ret e h
noncomputable def escheatref18_Fix_k1 (n : Nat) : AExit → Env → Heap → OptV := fun x e h => match x with | .exit i => bif Nat.beq i 0 then (escheatref18_Fix_k0 n) .normal e h else (escheatref18_Fix_k0 n) (.exit i) e h | .normal => (escheatref18_Fix_k0 n) .normal e h | .ret => (escheatref18_Fix_k0 n) .ret e h
noncomputable def escheatref18_Fix_l0 (n m : Nat) (x0 x3 x4 : Val) (h : Heap) : OptV := around (escheatref18_Fix_c15_d n) [0, 3, 4] (escheatref18_Fix_k1 n) m [(0, x0), (3, x3), (4, x4)] h
noncomputable def R_escheatref18_Fix (n : Nat) (args : List Val) (h : Heap) : OptV := (escheatref18_Fix_c23_d n) A_escheatref18_Fix.fin (params 0 args) h
noncomputable def escheatref18_Fix_k2 (n m : Nat) : AExit → Env → Heap → OptV := fun x e h => match x with | .normal => around (escheatref18_Fix_c15_d n) [0, 3, 4] (escheatref18_Fix_k1 n) m (e.keep [0, 3, 4]) h | .exit id => (escheatref18_Fix_k1 n) (.exit id) e h | .ret => (escheatref18_Fix_k1 n) .ret e h
noncomputable def escheatref18_Fix_j0 (n m : Nat) (x0 x3 x4 : Val) (h : Heap) : OptV := hold ((escheatref18_Fix_c13_d n) (escheatref18_Fix_k2 n m) [(0, x0), (3, x3), (4, x4)] h)
theorem R_escheatref18_Fix_eq (n : Nat) (a0 : Val) (h : Heap) : R_escheatref18_Fix n [a0] h = bnd (S_escheatref18_Head [] ((h ++ [some (Row.mk ([]) true)]))) fun p1 => escheatref18_Fix_l0 n n a0 p1.1 (.c (.i .i64 0)) p1.2 := by kernel_rfl
theorem escheatref18_Fix_l0_eq (n m : Nat) (x0 x3 x4 : Val) (h : Heap) : escheatref18_Fix_l0 n (m + 1) x0 x3 x4 h = bnd (abin .lss x4 (.c (.i .i64 7))) fun v2 => cnd v2 (bnd (S_escheatref18_Read [x0, x4] h) fun p3 => bnd (aext p3.1 0) fun v4 => bnd (aext p3.1 1) fun v5 => bnd (astoreN ((p3.2 ++ [some (Row.mk ([.s [], .i .i64 0]) true)])) 2 ((.c (.p p3.2.length 0))) v4) fun h6 => bnd (gd v5 true (some (x0, h6)) (some (.no, h6))) fun p7 => bnd (gd v5 true (bnd (afAddr ((.c (.p p3.2.length 0))) 0) fun v8 => some (v8, p7.2)) (some (.no, p7.2))) fun p9 => bnd (gd v5 true (bnd (aload1 p9.2 p9.1) fun v10 => some (v10, p9.2)) (some (.no, p9.2))) fun p11 => bnd (gd v5 true (bnd (S_escheatref18_Find [p7.1, p11.1] p11.2) fun p12 => some (p12.1, p12.2)) (some (.no, p11.2))) fun p13 => bnd (gd v5 true (some (x4, p13.2)) (some (.no, p13.2))) fun p14 => bnd (gd v5 true (bnd (abin .eql p13.1 p14.1) fun v15 => some (v15, p14.2)) (some (.no, p14.2))) fun p16 => bnd (apick v5 p16.1 (.c (.b false))) fun v17 => cnd v17 (bnd (abin .mul (.c (.i .i64 32)) x4) fun v18 => bnd (abin .add (.c (.i .i64 32)) v18) fun v19 => bnd (aloadN p16.2 2 ((.c (.p p3.2.length 0)))) fun v20 => bnd (S_escheatref18_Bytes [v20] p16.2) fun p21 => bnd (S_escheatref01_Lay [x3, v19, p21.1] p21.2) fun p22 => escheatref18_Fix_j0 n m x0 p22.1 x4 p22.2) (escheatref18_Fix_j0 n m x0 x3 x4 p16.2)) (some (x3, h)) := by kernel_rfl
theorem escheatref18_Fix_j0_eq (n m : Nat) (x0 x3 x4 : Val) (h : Heap) : escheatref18_Fix_j0 n m x0 x3 x4 h = bnd (abin .add x4 (.c (.i .i64 1))) fun v23 => escheatref18_Fix_l0 n m x0 x3 v23 h := by kernel_rfl
theorem K_escheatref18_Fix : FnK Try.prog 162 A_escheatref18_Fix E_escheatref18_Fix R_escheatref18_Fix := .mk' (sound1 S_escheatref18_Head_ok (sound1 S_escheatref18_Read_ok (sound1 S_escheatref18_Find_ok (sound1 S_escheatref18_Bytes_ok (sound1 S_escheatref01_Lay_ok sound0))))) Try.func162 (by kernel_rfl) (by intro n args h; kernel_rfl)
noncomputable def S_escheatref18_Fix : Fun := tidy (Lim A_escheatref18_Fix E_escheatref18_Fix)
theorem S_escheatref18_Fix_ok : SOk Try.prog 162 S_escheatref18_Fix := K_escheatref18_Fix.sok
theorem S_escheatref18_Fix_low {n : Nat} {args : List Val} {h h2 : Heap} {v : Val} (he : R_escheatref18_Fix n args (ro h) = some (v, h2)) (hf : v.low h.length = true) : S_escheatref18_Fix args h = some (v, h) := K_escheatref18_Fix.low he hf
theorem S_escheatref18_Fix_out {n : Nat} {args : List Val} {h h2 : Heap} {v : Val} {sz k : Nat} {cs : List Cell} (he : R_escheatref18_Fix n args (ro h) = some (v, h2)) (ho : Out h.length h2 v sz k cs) (hf : flats cs = true) : S_escheatref18_Fix args h = some (.c (.sl h.length 0 k sz), h ++ [some ⟨cs, true⟩]) := K_escheatref18_Fix.out he ho hf
def escheatref18_Right_o0 : List AOper := [{ dst := some 2, op := .mv (.v (.c (.b false))) }]
def escheatref18_Right_c0 : ACode := .ops escheatref18_Right_o0
def escheatref18_Right_o1 : List AOper := [{ dst := some 3, op := .mv (.t 0) }, { dst := some 4, op := .call 162 [(.t 3)] }, { dst := some 5, op := .mv (.t 0) }, { dst := some 6, op := .call 47 [(.t 4), (.t 5)] }, { dst := some 2, op := .mv (.t 6) }]
def escheatref18_Right_c1 : ACode := .ops escheatref18_Right_o1
def escheatref18_Right_c2 : ACode := .seq [2] escheatref18_Right_c1 .ret
def escheatref18_Right_c3 : ACode := .seq [0] escheatref18_Right_c0 escheatref18_Right_c2
def A_escheatref18_Right : AFn := ⟨escheatref18_Right_c3, [.tmp 2]⟩
noncomputable def E_escheatref18_Right : Sums := disp 162 S_escheatref18_Fix (disp 47 S_escheatref01_Same disp0)
noncomputable def escheatref18_Right_c0_d (n : Nat) : SmV := smOps E_escheatref18_Right escheatref18_Right_o0
noncomputable def escheatref18_Right_c1_d (n : Nat) : SmV := smOps E_escheatref18_Right escheatref18_Right_o1
noncomputable def escheatref18_Right_c2_d (n : Nat) : SmV := smSeq [2] (escheatref18_Right_c1_d n) smRet
noncomputable def escheatref18_Right_c3_d (n : Nat) : SmV := smSeq [0] (escheatref18_Right_c0_d n) (escheatref18_Right_c2_d n)
noncomputable def R_escheatref18_Right (n : Nat) (args : List Val) (h : Heap) : OptV := (escheatref18_Right_c3_d n) A_escheatref18_Right.fin (params 0 args) h
theorem R_escheatref18_Right_eq (n : Nat) (a0 : Val) (h : Heap) : R_escheatref18_Right n [a0] h = bnd (S_escheatref18_Fix [a0] h) fun p1 => bnd (S_escheatref01_Same [p1.1, a0] p1.2) fun p2 => some (p2.1, p2.2) := by kernel_rfl
theorem K_escheatref18_Right : FnK Try.prog 161 A_escheatref18_Right E_escheatref18_Right R_escheatref18_Right := .mk' (sound1 S_escheatref18_Fix_ok (sound1 S_escheatref01_Same_ok sound0)) Try.func161 (by kernel_rfl) (by intro n args h; kernel_rfl)
noncomputable def S_escheatref18_Right : Fun := tidy (Lim A_escheatref18_Right E_escheatref18_Right)
theorem S_escheatref18_Right_ok : SOk Try.prog 161 S_escheatref18_Right := K_escheatref18_Right.sok
theorem S_escheatref18_Right_flat {n : Nat} {args : List Val} {h h2 : Heap} {v : Val} (he : R_escheatref18_Right n args (ro h) = some (v, h2)) (hf : v.flat = true) : S_escheatref18_Right args h = some (v, h) := K_escheatref18_Right.flat he hf
end Go.Proofs.Ytbbkpmbepljhkaa
