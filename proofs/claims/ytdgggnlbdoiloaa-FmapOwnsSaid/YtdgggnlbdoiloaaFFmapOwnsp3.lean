/- What the proof of this claim leans on, part 3. -/
import Derived.Test.YtdgggnlbdoiloaaFFmapOwnsp2
set_option linter.all false
section
namespace Go.Proofs.Ytdgggnlbdoiloaa
open Go Go.Esc
set_option maxRecDepth 100000
def num_Lay_o0 : List AOper := [{ dst := some 3, op := .box (.t 0) }, { dst := some 6, op := .alloc (List.replicate 256 (.i .u8 0)) }]
def num_Lay_c0 : ACode := .ops num_Lay_o0
def num_Lay_o1 : List AOper := [{ dst := some 9, op := .mv (.t 1) }, { dst := some 10, op := .bin .lss (.t 9) (.v (.c (.i .i64 0))) }, { dst := some 11, op := .mv (.t 10) }, { dst := some 12, op := .mv (.t 1), guard := some (11, false) }, { dst := some 13, op := .bin .geq (.t 12) (.v (.c (.i .i64 256))), guard := some (11, false) }, { dst := some 14, op := .pick (.t 11) (.v (.c (.b true))) (.t 13) }]
def num_Lay_c1 : ACode := .ops num_Lay_o1
def num_Lay_o2 : List AOper := [{ dst := some 15, op := .loadN 256 (.t 3) }, { dst := none, op := .storeN 256 (.t 6) (.t 15) }]
def num_Lay_c2 : ACode := .ops num_Lay_o2
def num_Lay_c3 : ACode := .seq [6] num_Lay_c2 .ret
def num_Lay_c4 : ACode := .cond (.t 14) num_Lay_c3 .skip
def num_Lay_c5 : ACode := .seq [1, 2, 3, 6, 14] num_Lay_c1 num_Lay_c4
def num_Lay_o3 : List AOper := [{ dst := some 16, op := .mv (.t 2) }, { dst := some 17, op := .len (.t 16) }, { dst := some 18, op := .mv (.v (.c (.i .i64 0))) }]
def num_Lay_c6 : ACode := .ops num_Lay_o3
def num_Lay_o4 : List AOper := [{ dst := some 19, op := .bin .lss (.t 18) (.t 17) }]
def num_Lay_c7 : ACode := .ops num_Lay_o4
def num_Lay_c8 : ACode := .cond (.t 19) .skip (.exit 0)
def num_Lay_o5 : List AOper := [{ dst := some 20, op := .mv (.t 18) }, { dst := some 21, op := .iAddrL 1 (.t 16) (.t 18) }, { dst := some 22, op := .load1 (.t 21) }, { dst := some 7, op := .mv (.t 20) }, { dst := some 8, op := .mv (.t 22) }]
def num_Lay_c9 : ACode := .ops num_Lay_o5
def num_Lay_o6 : List AOper := [{ dst := some 23, op := .mv (.t 7) }, { dst := some 24, op := .mv (.t 1) }, { dst := some 25, op := .bin .sub (.v (.c (.i .i64 256))) (.t 24) }, { dst := some 26, op := .bin .geq (.t 23) (.t 25) }]
def num_Lay_c10 : ACode := .ops num_Lay_o6
def num_Lay_c11 : ACode := .cond (.t 26) (.exit 0) .skip
def num_Lay_c12 : ACode := .seq [1, 3, 6, 7, 8, 16, 17, 18, 26] num_Lay_c10 num_Lay_c11
def num_Lay_o7 : List AOper := [{ dst := some 27, op := .mv (.t 1) }, { dst := some 28, op := .mv (.t 7) }, { dst := some 29, op := .bin .add (.t 27) (.t 28) }, { dst := some 30, op := .mv (.t 8) }, { dst := some 31, op := .iAddrA 256 1 (.t 3) (.t 29) }, { dst := none, op := .store1 (.t 31) (.t 30) }]
def num_Lay_c13 : ACode := .ops num_Lay_o7
def num_Lay_c14 : ACode := .seq [1, 3, 6, 7, 8, 16, 17, 18] num_Lay_c12 num_Lay_c13
def num_Lay_c15 : ACode := .seq [1, 3, 6, 7, 8, 16, 17, 18] num_Lay_c9 num_Lay_c14
def num_Lay_c16 : ACode := .block 1 num_Lay_c15
def num_Lay_o8 : List AOper := [{ dst := some 32, op := .bin .add (.t 18) (.v (.c (.i .i64 1))) }, { dst := some 18, op := .mv (.t 32) }]
def num_Lay_c17 : ACode := .ops num_Lay_o8
def num_Lay_c18 : ACode := .seq [1, 3, 6, 16, 17, 18] num_Lay_c16 num_Lay_c17
def num_Lay_c19 : ACode := .seq [1, 3, 6, 16, 17, 18] num_Lay_c8 num_Lay_c18
def num_Lay_c20 : ACode := .seq [1, 3, 6, 16, 17, 18, 19] num_Lay_c7 num_Lay_c19
def num_Lay_c21 : ACode := .loop [1, 3, 6, 16, 17, 18] num_Lay_c20
def num_Lay_c22 : ACode := .block 0 num_Lay_c21
def num_Lay_c23 : ACode := .seq [1, 3, 6, 16, 17, 18] num_Lay_c6 num_Lay_c22
def num_Lay_o9 : List AOper := [{ dst := some 33, op := .loadN 256 (.t 3) }, { dst := none, op := .storeN 256 (.t 6) (.t 33) }]
def num_Lay_c24 : ACode := .ops num_Lay_o9
def num_Lay_c25 : ACode := .seq [6] num_Lay_c24 .ret
def num_Lay_c26 : ACode := .seq [3, 6] num_Lay_c23 num_Lay_c25
def num_Lay_c27 : ACode := .seq [1, 2, 3, 6] num_Lay_c5 num_Lay_c26
def num_Lay_c28 : ACode := .seq [1, 2, 3, 6] num_Lay_c0 num_Lay_c27
def A_num_Lay : AFn := ⟨num_Lay_c28, [.cellN 6 256]⟩
noncomputable def E_num_Lay : Sums := disp0
noncomputable def num_Lay_c0_d (n : Nat) : SmV := smOps E_num_Lay num_Lay_o0
noncomputable def num_Lay_c1_d (n : Nat) : SmV := smOps E_num_Lay num_Lay_o1
noncomputable def num_Lay_c2_d (n : Nat) : SmV := smOps E_num_Lay num_Lay_o2
noncomputable def num_Lay_c3_d (n : Nat) : SmV := smSeq [6] (num_Lay_c2_d n) smRet
noncomputable def num_Lay_c4_d (n : Nat) : SmV := smCond (.t 14) (num_Lay_c3_d n) smSkip
noncomputable def num_Lay_c5_d (n : Nat) : SmV := smSeq [1, 2, 3, 6, 14] (num_Lay_c1_d n) (num_Lay_c4_d n)
noncomputable def num_Lay_c6_d (n : Nat) : SmV := smOps E_num_Lay num_Lay_o3
noncomputable def num_Lay_c7_d (n : Nat) : SmV := smOps E_num_Lay num_Lay_o4
noncomputable def num_Lay_c8_d (n : Nat) : SmV := smCond (.t 19) smSkip (smExit 0)
noncomputable def num_Lay_c9_d (n : Nat) : SmV := smOps E_num_Lay num_Lay_o5
noncomputable def num_Lay_c10_d (n : Nat) : SmV := smOps E_num_Lay num_Lay_o6
noncomputable def num_Lay_c11_d (n : Nat) : SmV := smCond (.t 26) (smExit 0) smSkip
noncomputable def num_Lay_c12_d (n : Nat) : SmV := smSeq [1, 3, 6, 7, 8, 16, 17, 18, 26] (num_Lay_c10_d n) (num_Lay_c11_d n)
noncomputable def num_Lay_c13_d (n : Nat) : SmV := smOps E_num_Lay num_Lay_o7
noncomputable def num_Lay_c14_d (n : Nat) : SmV := smSeq [1, 3, 6, 7, 8, 16, 17, 18] (num_Lay_c12_d n) (num_Lay_c13_d n)
noncomputable def num_Lay_c15_d (n : Nat) : SmV := smSeq [1, 3, 6, 7, 8, 16, 17, 18] (num_Lay_c9_d n) (num_Lay_c14_d n)
noncomputable def num_Lay_c16_d (n : Nat) : SmV := smBlock 1 (num_Lay_c15_d n)
noncomputable def num_Lay_c17_d (n : Nat) : SmV := smOps E_num_Lay num_Lay_o8
noncomputable def num_Lay_c18_d (n : Nat) : SmV := smSeq [1, 3, 6, 16, 17, 18] (num_Lay_c16_d n) (num_Lay_c17_d n)
noncomputable def num_Lay_c19_d (n : Nat) : SmV := smSeq [1, 3, 6, 16, 17, 18] (num_Lay_c8_d n) (num_Lay_c18_d n)
noncomputable def num_Lay_c20_d (n : Nat) : SmV := smSeq [1, 3, 6, 16, 17, 18, 19] (num_Lay_c7_d n) (num_Lay_c19_d n)
noncomputable def num_Lay_c21_d (n : Nat) : SmV := smLoop n [1, 3, 6, 16, 17, 18] (num_Lay_c20_d n)
noncomputable def num_Lay_c22_d (n : Nat) : SmV := smBlock 0 (num_Lay_c21_d n)
noncomputable def num_Lay_c23_d (n : Nat) : SmV := smSeq [1, 3, 6, 16, 17, 18] (num_Lay_c6_d n) (num_Lay_c22_d n)
noncomputable def num_Lay_c24_d (n : Nat) : SmV := smOps E_num_Lay num_Lay_o9
noncomputable def num_Lay_c25_d (n : Nat) : SmV := smSeq [6] (num_Lay_c24_d n) smRet
noncomputable def num_Lay_c26_d (n : Nat) : SmV := smSeq [3, 6] (num_Lay_c23_d n) (num_Lay_c25_d n)
noncomputable def num_Lay_c27_d (n : Nat) : SmV := smSeq [1, 2, 3, 6] (num_Lay_c5_d n) (num_Lay_c26_d n)
noncomputable def num_Lay_c28_d (n : Nat) : SmV := smSeq [1, 2, 3, 6] (num_Lay_c0_d n) (num_Lay_c27_d n)
noncomputable def num_Lay_k0 (n : Nat) : AExit → Env → Heap → OptV := fun x e h => match x with | .normal => hold ((num_Lay_c25_d n) A_num_Lay.fin (e.keep [3, 6]) h) | .exit id => A_num_Lay.fin (.exit id) e h | .ret => A_num_Lay.fin .ret e h
noncomputable def num_Lay_k1 (n : Nat) : AExit → Env → Heap → OptV := fun x e h => match x with | .exit i => bif Nat.beq i 0 then (num_Lay_k0 n) .normal e h else (num_Lay_k0 n) (.exit i) e h | .normal => (num_Lay_k0 n) .normal e h | .ret => (num_Lay_k0 n) .ret e h
noncomputable def num_Lay_l0 (n m : Nat) (x1 x3 x6 x16 x17 x18 : Val) (h : Heap) : OptV := around (num_Lay_c20_d n) [1, 3, 6, 16, 17, 18] (num_Lay_k1 n) m [(1, x1), (3, x3), (6, x6), (16, x16), (17, x17), (18, x18)] h
noncomputable def R_num_Lay (n : Nat) (args : List Val) (h : Heap) : OptV := (num_Lay_c28_d n) A_num_Lay.fin (params 0 args) h
noncomputable def num_Lay_j0 (n : Nat) (x3 x6 : Val) (h : Heap) : OptV := hold ((num_Lay_c25_d n) A_num_Lay.fin [(3, x3), (6, x6)] h)
theorem R_num_Lay_eq (n : Nat) (a0 a1 a2 : Val) (h : Heap) : R_num_Lay n [a0, a1, a2] h = bnd (cells? a0) fun c1 => bnd (abin .lss a1 (.c (.i .i64 0))) fun v2 => bnd (gd v2 false (some (a1, ((h ++ [some (Row.mk (c1) true)]) ++ [some (Row.mk (List.replicate 256 (.i .u8 0)) true)]))) (some (.no, ((h ++ [some (Row.mk (c1) true)]) ++ [some (Row.mk (List.replicate 256 (.i .u8 0)) true)])))) fun p3 => bnd (gd v2 false (bnd (abin .geq p3.1 (.c (.i .i64 256))) fun v4 => some (v4, p3.2)) (some (.no, p3.2))) fun p5 => bnd (apick v2 (.c (.b true)) p5.1) fun v6 => cnd v6 (bnd (aloadN p5.2 256 ((.c (.p h.length 0)))) fun v7 => bnd (astoreN p5.2 256 ((.c (.p ((h ++ [some (Row.mk (c1) true)])).length 0))) v7) fun h8 => mp (aloadN h8 256 ((.c (.p ((h ++ [some (Row.mk (c1) true)])).length 0)))) fun v => (v, h8)) (bnd (alen a2) fun v9 => num_Lay_l0 n n a1 ((.c (.p h.length 0))) ((.c (.p ((h ++ [some (Row.mk (c1) true)])).length 0))) a2 v9 (.c (.i .i64 0)) p5.2) := by kernel_rfl
theorem num_Lay_l0_eq (n m : Nat) (x1 x3 x6 x16 x17 x18 : Val) (h : Heap) : num_Lay_l0 n (m + 1) x1 x3 x6 x16 x17 x18 h = bnd (abin .lss x18 x17) fun v10 => cnd v10 (bnd (aiAddrL 1 x16 x18) fun v11 => bnd (aload1 h v11) fun v12 => bnd (abin .sub (.c (.i .i64 256)) x1) fun v13 => bnd (abin .geq x18 v13) fun v14 => cnd v14 (num_Lay_j0 n x3 x6 h) (bnd (abin .add x1 x18) fun v15 => bnd (aiAddrA 256 1 x3 v15) fun v16 => bnd (astore1 h v16 v12) fun h17 => bnd (abin .add x18 (.c (.i .i64 1))) fun v18 => num_Lay_l0 n m x1 x3 x6 x16 x17 v18 h17)) (num_Lay_j0 n x3 x6 h) := by kernel_rfl
theorem num_Lay_j0_eq (n : Nat) (x3 x6 : Val) (h : Heap) : num_Lay_j0 n x3 x6 h = bnd (aloadN h 256 x3) fun v19 => bnd (astoreN h 256 x6 v19) fun h20 => mp (aloadN h20 256 x6) fun v => (v, h20) := by kernel_rfl
theorem K_num_Lay : FnK Try.prog 98 A_num_Lay E_num_Lay R_num_Lay := .mk' (sound0) Try.func98 (by kernel_rfl) (by intro n args h; kernel_rfl)
noncomputable def S_num_Lay : Fun := tidy (Lim A_num_Lay E_num_Lay)
theorem S_num_Lay_ok : SOk Try.prog 98 S_num_Lay := K_num_Lay.sok
theorem S_num_Lay_flat {n : Nat} {args : List Val} {h h2 : Heap} {v : Val} (he : R_num_Lay n args (ro h) = some (v, h2)) (hf : v.flat = true) : S_num_Lay args h = some (v, h) := K_num_Lay.flat he hf
def num_Of_o0 : List AOper := [{ dst := some 2, op := .alloc (List.replicate 256 (.i .u8 0)) }]
def num_Of_c0 : ACode := .ops num_Of_o0
def num_Of_o1 : List AOper := [{ dst := some 3, op := .build (List.replicate 256 (.i .u8 0)) [] }, { dst := some 4, op := .mv (.t 0) }, { dst := some 5, op := .call 98 [(.t 3), (.v (.c (.i .i64 0))), (.t 4)] }, { dst := none, op := .storeN 256 (.t 2) (.t 5) }]
def num_Of_c1 : ACode := .ops num_Of_o1
def num_Of_c2 : ACode := .seq [2] num_Of_c1 .ret
def num_Of_c3 : ACode := .seq [0, 2] num_Of_c0 num_Of_c2
def A_num_Of : AFn := ⟨num_Of_c3, [.cellN 2 256]⟩
noncomputable def E_num_Of : Sums := disp 98 S_num_Lay disp0
noncomputable def num_Of_c0_d (n : Nat) : SmV := smOps E_num_Of num_Of_o0
noncomputable def num_Of_c1_d (n : Nat) : SmV := smOps E_num_Of num_Of_o1
noncomputable def num_Of_c2_d (n : Nat) : SmV := smSeq [2] (num_Of_c1_d n) smRet
noncomputable def num_Of_c3_d (n : Nat) : SmV := smSeq [0, 2] (num_Of_c0_d n) (num_Of_c2_d n)
noncomputable def R_num_Of (n : Nat) (args : List Val) (h : Heap) : OptV := (num_Of_c3_d n) A_num_Of.fin (params 0 args) h
theorem R_num_Of_eq (n : Nat) (a0 : Val) (h : Heap) : R_num_Of n [a0] h = bnd (afill (List.replicate 256 (.i .u8 0)) []) fun c1 => bnd (S_num_Lay [(.a c1), .c (.i .i64 0), a0] ((h ++ [some (Row.mk (List.replicate 256 (.i .u8 0)) true)]))) fun p2 => bnd (astoreN p2.2 256 ((.c (.p h.length 0))) p2.1) fun h3 => mp (aloadN h3 256 ((.c (.p h.length 0)))) fun v => (v, h3) := by kernel_rfl
theorem K_num_Of : FnK Try.prog 95 A_num_Of E_num_Of R_num_Of := .mk' (sound1 S_num_Lay_ok sound0) Try.func95 (by kernel_rfl) (by intro n args h; kernel_rfl)
noncomputable def S_num_Of : Fun := tidy (Lim A_num_Of E_num_Of)
theorem S_num_Of_ok : SOk Try.prog 95 S_num_Of := K_num_Of.sok
theorem S_num_Of_flat {n : Nat} {args : List Val} {h h2 : Heap} {v : Val} (he : R_num_Of n args (ro h) = some (v, h2)) (hf : v.flat = true) : S_num_Of args h = some (v, h) := K_num_Of.flat he hf
def num_there_o0 : List AOper := [{ dst := some 6, op := .mv (.v (.c (.b false))) }]
def num_there_c0 : ACode := .ops num_there_o0
def num_there_o1 : List AOper := [{ dst := some 7, op := .mv (.t 0) }, { dst := some 8, op := .bin .geq (.t 7) (.v (.c (.i .i64 0))) }, { dst := some 9, op := .mv (.t 8) }, { dst := some 10, op := .mv (.t 1), guard := some (9, true) }, { dst := some 11, op := .bin .geq (.t 10) (.v (.c (.i .i64 1))), guard := some (9, true) }, { dst := some 12, op := .pick (.t 9) (.t 11) (.v (.c (.b false))) }, { dst := some 13, op := .mv (.t 12) }, { dst := some 14, op := .mv (.t 1), guard := some (13, true) }, { dst := some 15, op := .mv (.t 2), guard := some (13, true) }, { dst := some 16, op := .bin .leq (.t 14) (.t 15), guard := some (13, true) }, { dst := some 17, op := .pick (.t 13) (.t 16) (.v (.c (.b false))) }, { dst := some 18, op := .mv (.t 17) }, { dst := some 19, op := .mv (.t 0), guard := some (18, true) }, { dst := some 20, op := .mv (.t 2), guard := some (18, true) }, { dst := some 21, op := .mv (.t 1), guard := some (18, true) }, { dst := some 22, op := .bin .sub (.t 20) (.t 21), guard := some (18, true) }, { dst := some 23, op := .bin .leq (.t 19) (.t 22), guard := some (18, true) }, { dst := some 24, op := .pick (.t 18) (.t 23) (.v (.c (.b false))) }, { dst := some 6, op := .mv (.t 24) }]
def num_there_c1 : ACode := .ops num_there_o1
def num_there_c2 : ACode := .seq [6] num_there_c1 .ret
def num_there_c3 : ACode := .seq [0, 1, 2] num_there_c0 num_there_c2
def A_num_there : AFn := ⟨num_there_c3, [.tmp 6]⟩
noncomputable def E_num_there : Sums := disp0
noncomputable def num_there_c0_d (n : Nat) : SmV := smOps E_num_there num_there_o0
noncomputable def num_there_c1_d (n : Nat) : SmV := smOps E_num_there num_there_o1
noncomputable def num_there_c2_d (n : Nat) : SmV := smSeq [6] (num_there_c1_d n) smRet
noncomputable def num_there_c3_d (n : Nat) : SmV := smSeq [0, 1, 2] (num_there_c0_d n) (num_there_c2_d n)
noncomputable def R_num_there (n : Nat) (args : List Val) (h : Heap) : OptV := (num_there_c3_d n) A_num_there.fin (params 0 args) h
theorem R_num_there_eq (n : Nat) (a0 a1 a2 : Val) (h : Heap) : R_num_there n [a0, a1, a2] h = bnd (abin .geq a0 (.c (.i .i64 0))) fun v1 => bnd (gd v1 true (some (a1, h)) (some (.no, h))) fun p2 => bnd (gd v1 true (bnd (abin .geq p2.1 (.c (.i .i64 1))) fun v3 => some (v3, p2.2)) (some (.no, p2.2))) fun p4 => bnd (apick v1 p4.1 (.c (.b false))) fun v5 => bnd (gd v5 true (some (a1, p4.2)) (some (.no, p4.2))) fun p6 => bnd (gd v5 true (some (a2, p6.2)) (some (.no, p6.2))) fun p7 => bnd (gd v5 true (bnd (abin .leq p6.1 p7.1) fun v8 => some (v8, p7.2)) (some (.no, p7.2))) fun p9 => bnd (apick v5 p9.1 (.c (.b false))) fun v10 => bnd (gd v10 true (some (a0, p9.2)) (some (.no, p9.2))) fun p11 => bnd (gd v10 true (some (a2, p11.2)) (some (.no, p11.2))) fun p12 => bnd (gd v10 true (some (a1, p12.2)) (some (.no, p12.2))) fun p13 => bnd (gd v10 true (bnd (abin .sub p12.1 p13.1) fun v14 => some (v14, p13.2)) (some (.no, p13.2))) fun p15 => bnd (gd v10 true (bnd (abin .leq p11.1 p15.1) fun v16 => some (v16, p15.2)) (some (.no, p15.2))) fun p17 => bnd (apick v10 p17.1 (.c (.b false))) fun v18 => some (v18, p17.2) := by kernel_rfl
theorem K_num_there : FnK Try.prog 131 A_num_there E_num_there R_num_there := .mk' (sound0) Try.func131 (by kernel_rfl) (by intro n args h; kernel_rfl)
noncomputable def S_num_there : Fun := tidy (Lim A_num_there E_num_there)
theorem S_num_there_ok : SOk Try.prog 131 S_num_there := K_num_there.sok
theorem S_num_there_flat {n : Nat} {args : List Val} {h h2 : Heap} {v : Val} (he : R_num_there n args (ro h) = some (v, h2)) (hf : v.flat = true) : S_num_there args h = some (v, h) := K_num_there.flat he hf
def num_With_o0 : List AOper := [{ dst := some 4, op := .box (.t 0) }, { dst := some 8, op := .alloc (List.replicate 256 (.i .u8 0)) }]
def num_With_c0 : ACode := .ops num_With_o0
def num_With_o1 : List AOper := [{ dst := some 10, op := .mv (.t 2) }, { dst := some 11, op := .bin .gtr (.t 10) (.v (.c (.i .i64 4))) }, { dst := some 12, op := .mv (.t 11) }, { dst := some 13, op := .mv (.t 1), guard := some (12, false) }, { dst := some 14, op := .mv (.t 2), guard := some (12, false) }, { dst := some 15, op := .call 131 [(.t 13), (.t 14), (.v (.c (.i .i64 256)))], guard := some (12, false) }, { dst := some 16, op := .un .not (.t 15), guard := some (12, false) }, { dst := some 17, op := .pick (.t 12) (.v (.c (.b true))) (.t 16) }]
def num_With_c1 : ACode := .ops num_With_o1
def num_With_o2 : List AOper := [{ dst := some 18, op := .loadN 256 (.t 4) }, { dst := none, op := .storeN 256 (.t 8) (.t 18) }]
def num_With_c2 : ACode := .ops num_With_o2
def num_With_c3 : ACode := .seq [8] num_With_c2 .ret
def num_With_c4 : ACode := .cond (.t 17) num_With_c3 .skip
def num_With_c5 : ACode := .seq [1, 2, 3, 4, 8, 17] num_With_c1 num_With_c4
def num_With_o3 : List AOper := [{ dst := some 19, op := .mv (.t 2) }, { dst := some 20, op := .mv (.v (.c (.i .i64 0))) }]
def num_With_c6 : ACode := .ops num_With_o3
def num_With_o4 : List AOper := [{ dst := some 21, op := .bin .lss (.t 20) (.t 19) }]
def num_With_c7 : ACode := .ops num_With_o4
def num_With_c8 : ACode := .cond (.t 21) .skip (.exit 0)
def num_With_o5 : List AOper := [{ dst := some 22, op := .mv (.t 20) }, { dst := some 9, op := .mv (.t 22) }]
def num_With_c9 : ACode := .ops num_With_o5
def num_With_o6 : List AOper := [{ dst := some 23, op := .mv (.t 1) }, { dst := some 24, op := .mv (.t 9) }, { dst := some 25, op := .bin .add (.t 23) (.t 24) }, { dst := some 26, op := .mv (.t 3) }, { dst := some 27, op := .mv (.t 9) }, { dst := some 28, op := .bin .mul (.v (.c (.i .i64 8))) (.t 27) }, { dst := some 29, op := .conv .u64 (.t 28) }, { dst := some 30, op := .bin .shr (.t 26) (.t 29) }, { dst := some 31, op := .conv .u8 (.t 30) }, { dst := some 32, op := .iAddrA 256 1 (.t 4) (.t 25) }, { dst := none, op := .store1 (.t 32) (.t 31) }]
def num_With_c10 : ACode := .ops num_With_o6
def num_With_c11 : ACode := .seq [1, 3, 4, 8, 9, 19, 20] num_With_c9 num_With_c10
def num_With_c12 : ACode := .block 1 num_With_c11
def num_With_o7 : List AOper := [{ dst := some 33, op := .bin .add (.t 20) (.v (.c (.i .i64 1))) }, { dst := some 20, op := .mv (.t 33) }]
def num_With_c13 : ACode := .ops num_With_o7
def num_With_c14 : ACode := .seq [1, 3, 4, 8, 19, 20] num_With_c12 num_With_c13
def num_With_c15 : ACode := .seq [1, 3, 4, 8, 19, 20] num_With_c8 num_With_c14
def num_With_c16 : ACode := .seq [1, 3, 4, 8, 19, 20, 21] num_With_c7 num_With_c15
def num_With_c17 : ACode := .loop [1, 3, 4, 8, 19, 20] num_With_c16
def num_With_c18 : ACode := .block 0 num_With_c17
def num_With_c19 : ACode := .seq [1, 3, 4, 8, 19, 20] num_With_c6 num_With_c18
def num_With_o8 : List AOper := [{ dst := some 34, op := .loadN 256 (.t 4) }, { dst := none, op := .storeN 256 (.t 8) (.t 34) }]
def num_With_c20 : ACode := .ops num_With_o8
def num_With_c21 : ACode := .seq [8] num_With_c20 .ret
def num_With_c22 : ACode := .seq [4, 8] num_With_c19 num_With_c21
def num_With_c23 : ACode := .seq [1, 2, 3, 4, 8] num_With_c5 num_With_c22
def num_With_c24 : ACode := .seq [1, 2, 3, 4, 8] num_With_c0 num_With_c23
def A_num_With : AFn := ⟨num_With_c24, [.cellN 8 256]⟩
noncomputable def E_num_With : Sums := disp 131 S_num_there disp0
noncomputable def num_With_c0_d (n : Nat) : SmV := smOps E_num_With num_With_o0
noncomputable def num_With_c1_d (n : Nat) : SmV := smOps E_num_With num_With_o1
noncomputable def num_With_c2_d (n : Nat) : SmV := smOps E_num_With num_With_o2
noncomputable def num_With_c3_d (n : Nat) : SmV := smSeq [8] (num_With_c2_d n) smRet
noncomputable def num_With_c4_d (n : Nat) : SmV := smCond (.t 17) (num_With_c3_d n) smSkip
noncomputable def num_With_c5_d (n : Nat) : SmV := smSeq [1, 2, 3, 4, 8, 17] (num_With_c1_d n) (num_With_c4_d n)
noncomputable def num_With_c6_d (n : Nat) : SmV := smOps E_num_With num_With_o3
noncomputable def num_With_c7_d (n : Nat) : SmV := smOps E_num_With num_With_o4
noncomputable def num_With_c8_d (n : Nat) : SmV := smCond (.t 21) smSkip (smExit 0)
noncomputable def num_With_c9_d (n : Nat) : SmV := smOps E_num_With num_With_o5
noncomputable def num_With_c10_d (n : Nat) : SmV := smOps E_num_With num_With_o6
noncomputable def num_With_c11_d (n : Nat) : SmV := smSeq [1, 3, 4, 8, 9, 19, 20] (num_With_c9_d n) (num_With_c10_d n)
noncomputable def num_With_c12_d (n : Nat) : SmV := smBlock 1 (num_With_c11_d n)
noncomputable def num_With_c13_d (n : Nat) : SmV := smOps E_num_With num_With_o7
noncomputable def num_With_c14_d (n : Nat) : SmV := smSeq [1, 3, 4, 8, 19, 20] (num_With_c12_d n) (num_With_c13_d n)
noncomputable def num_With_c15_d (n : Nat) : SmV := smSeq [1, 3, 4, 8, 19, 20] (num_With_c8_d n) (num_With_c14_d n)
noncomputable def num_With_c16_d (n : Nat) : SmV := smSeq [1, 3, 4, 8, 19, 20, 21] (num_With_c7_d n) (num_With_c15_d n)
noncomputable def num_With_c17_d (n : Nat) : SmV := smLoop n [1, 3, 4, 8, 19, 20] (num_With_c16_d n)
noncomputable def num_With_c18_d (n : Nat) : SmV := smBlock 0 (num_With_c17_d n)
noncomputable def num_With_c19_d (n : Nat) : SmV := smSeq [1, 3, 4, 8, 19, 20] (num_With_c6_d n) (num_With_c18_d n)
noncomputable def num_With_c20_d (n : Nat) : SmV := smOps E_num_With num_With_o8
noncomputable def num_With_c21_d (n : Nat) : SmV := smSeq [8] (num_With_c20_d n) smRet
noncomputable def num_With_c22_d (n : Nat) : SmV := smSeq [4, 8] (num_With_c19_d n) (num_With_c21_d n)
noncomputable def num_With_c23_d (n : Nat) : SmV := smSeq [1, 2, 3, 4, 8] (num_With_c5_d n) (num_With_c22_d n)
noncomputable def num_With_c24_d (n : Nat) : SmV := smSeq [1, 2, 3, 4, 8] (num_With_c0_d n) (num_With_c23_d n)
noncomputable def num_With_k0 (n : Nat) : AExit → Env → Heap → OptV := fun x e h => match x with | .normal => hold ((num_With_c21_d n) A_num_With.fin (e.keep [4, 8]) h) | .exit id => A_num_With.fin (.exit id) e h | .ret => A_num_With.fin .ret e h
noncomputable def num_With_k1 (n : Nat) : AExit → Env → Heap → OptV := fun x e h => match x with | .exit i => bif Nat.beq i 0 then (num_With_k0 n) .normal e h else (num_With_k0 n) (.exit i) e h | .normal => (num_With_k0 n) .normal e h | .ret => (num_With_k0 n) .ret e h
noncomputable def num_With_l0 (n m : Nat) (x1 x3 x4 x8 x19 x20 : Val) (h : Heap) : OptV := around (num_With_c16_d n) [1, 3, 4, 8, 19, 20] (num_With_k1 n) m [(1, x1), (3, x3), (4, x4), (8, x8), (19, x19), (20, x20)] h
noncomputable def R_num_With (n : Nat) (args : List Val) (h : Heap) : OptV := (num_With_c24_d n) A_num_With.fin (params 0 args) h
theorem R_num_With_eq (n : Nat) (a0 a1 a2 a3 : Val) (h : Heap) : R_num_With n [a0, a1, a2, a3] h = bnd (cells? a0) fun c1 => bnd (abin .gtr a2 (.c (.i .i64 4))) fun v2 => bnd (gd v2 false (some (a1, ((h ++ [some (Row.mk (c1) true)]) ++ [some (Row.mk (List.replicate 256 (.i .u8 0)) true)]))) (some (.no, ((h ++ [some (Row.mk (c1) true)]) ++ [some (Row.mk (List.replicate 256 (.i .u8 0)) true)])))) fun p3 => bnd (gd v2 false (some (a2, p3.2)) (some (.no, p3.2))) fun p4 => bnd (gd v2 false (bnd (S_num_there [p3.1, p4.1, .c (.i .i64 256)] p4.2) fun p5 => some (p5.1, p5.2)) (some (.no, p4.2))) fun p6 => bnd (gd v2 false (bnd (aun .not p6.1) fun v7 => some (v7, p6.2)) (some (.no, p6.2))) fun p8 => bnd (apick v2 (.c (.b true)) p8.1) fun v9 => cnd v9 (bnd (aloadN p8.2 256 ((.c (.p h.length 0)))) fun v10 => bnd (astoreN p8.2 256 ((.c (.p ((h ++ [some (Row.mk (c1) true)])).length 0))) v10) fun h11 => mp (aloadN h11 256 ((.c (.p ((h ++ [some (Row.mk (c1) true)])).length 0)))) fun v => (v, h11)) (num_With_l0 n n a1 a3 ((.c (.p h.length 0))) ((.c (.p ((h ++ [some (Row.mk (c1) true)])).length 0))) a2 (.c (.i .i64 0)) p8.2) := by kernel_rfl
theorem num_With_l0_eq (n m : Nat) (x1 x3 x4 x8 x19 x20 : Val) (h : Heap) : num_With_l0 n (m + 1) x1 x3 x4 x8 x19 x20 h = bnd (abin .lss x20 x19) fun v12 => cnd v12 (bnd (abin .add x1 x20) fun v13 => bnd (abin .mul (.c (.i .i64 8)) x20) fun v14 => bnd (aconv .u64 v14) fun v15 => bnd (abin .shr x3 v15) fun v16 => bnd (aconv .u8 v16) fun v17 => bnd (aiAddrA 256 1 x4 v13) fun v18 => bnd (astore1 h v18 v17) fun h19 => bnd (abin .add x20 (.c (.i .i64 1))) fun v20 => num_With_l0 n m x1 x3 x4 x8 x19 v20 h19) (bnd (aloadN h 256 x4) fun v21 => bnd (astoreN h 256 x8 v21) fun h22 => mp (aloadN h22 256 x8) fun v => (v, h22)) := by kernel_rfl
theorem K_num_With : FnK Try.prog 96 A_num_With E_num_With R_num_With := .mk' (sound1 S_num_there_ok sound0) Try.func96 (by kernel_rfl) (by intro n args h; kernel_rfl)
noncomputable def S_num_With : Fun := tidy (Lim A_num_With E_num_With)
theorem S_num_With_ok : SOk Try.prog 96 S_num_With := K_num_With.sok
theorem S_num_With_flat {n : Nat} {args : List Val} {h h2 : Heap} {v : Val} (he : R_num_With n args (ro h) = some (v, h2)) (hf : v.flat = true) : S_num_With args h = some (v, h) := K_num_With.flat he hf
def num_Put_o0 : List AOper := [{ dst := some 8, op := .nilrow 1 }, { dst := some 9, op := .mv (.v (.c (.b false))) }]
def num_Put_c0 : ACode := .ops num_Put_o0
def num_Put_o1 : List AOper := [{ dst := some 12, op := .mv (.t 2) }, { dst := some 13, op := .bin .gtr (.t 12) (.v (.c (.i .i64 8))) }, { dst := some 14, op := .mv (.t 13) }, { dst := some 15, op := .mv (.t 1), guard := some (14, false) }, { dst := some 16, op := .mv (.t 2), guard := some (14, false) }, { dst := some 17, op := .mv (.t 0), guard := some (14, false) }, { dst := some 18, op := .len (.t 17), guard := some (14, false) }, { dst := some 19, op := .call 131 [(.t 15), (.t 16), (.t 18)], guard := some (14, false) }, { dst := some 20, op := .un .not (.t 19), guard := some (14, false) }, { dst := some 21, op := .pick (.t 14) (.v (.c (.b true))) (.t 20) }]
def num_Put_c1 : ACode := .ops num_Put_o1
def num_Put_o2 : List AOper := [{ dst := some 8, op := .nilrow 1 }, { dst := some 9, op := .mv (.v (.c (.b false))) }]
def num_Put_c2 : ACode := .ops num_Put_o2
def num_Put_c3 : ACode := .seq [8, 9] num_Put_c2 .ret
def num_Put_c4 : ACode := .cond (.t 21) num_Put_c3 .skip
def num_Put_c5 : ACode := .seq [0, 1, 2, 3, 21] num_Put_c1 num_Put_c4
def num_Put_o3 : List AOper := [{ dst := some 22, op := .buildSl 1 0 ([]) [] }, { dst := some 23, op := .mv (.t 0) }, { dst := some 24, op := .app 1 (.t 22) (.t 23) }, { dst := some 10, op := .mv (.t 24) }]
def num_Put_c6 : ACode := .ops num_Put_o3
def num_Put_o4 : List AOper := [{ dst := some 25, op := .mv (.t 2) }, { dst := some 26, op := .mv (.v (.c (.i .i64 0))) }]
def num_Put_c7 : ACode := .ops num_Put_o4
def num_Put_o5 : List AOper := [{ dst := some 27, op := .bin .lss (.t 26) (.t 25) }]
def num_Put_c8 : ACode := .ops num_Put_o5
def num_Put_c9 : ACode := .cond (.t 27) .skip (.exit 0)
def num_Put_o6 : List AOper := [{ dst := some 28, op := .mv (.t 26) }, { dst := some 11, op := .mv (.t 28) }]
def num_Put_c10 : ACode := .ops num_Put_o6
def num_Put_o7 : List AOper := [{ dst := some 29, op := .mv (.t 10) }, { dst := some 30, op := .mv (.t 1) }, { dst := some 31, op := .mv (.t 11) }, { dst := some 32, op := .bin .add (.t 30) (.t 31) }, { dst := some 33, op := .mv (.t 3) }, { dst := some 34, op := .mv (.t 11) }, { dst := some 35, op := .bin .mul (.v (.c (.i .i64 8))) (.t 34) }, { dst := some 36, op := .conv .u64 (.t 35) }, { dst := some 37, op := .bin .shr (.t 33) (.t 36) }, { dst := some 38, op := .conv .u8 (.t 37) }, { dst := some 39, op := .iAddrL 1 (.t 29) (.t 32) }, { dst := none, op := .store1 (.t 39) (.t 38) }]
def num_Put_c11 : ACode := .ops num_Put_o7
def num_Put_c12 : ACode := .seq [1, 3, 10, 11, 25, 26] num_Put_c10 num_Put_c11
def num_Put_c13 : ACode := .block 1 num_Put_c12
def num_Put_o8 : List AOper := [{ dst := some 40, op := .bin .add (.t 26) (.v (.c (.i .i64 1))) }, { dst := some 26, op := .mv (.t 40) }]
def num_Put_c14 : ACode := .ops num_Put_o8
def num_Put_c15 : ACode := .seq [1, 3, 10, 25, 26] num_Put_c13 num_Put_c14
def num_Put_c16 : ACode := .seq [1, 3, 10, 25, 26] num_Put_c9 num_Put_c15
def num_Put_c17 : ACode := .seq [1, 3, 10, 25, 26, 27] num_Put_c8 num_Put_c16
def num_Put_c18 : ACode := .loop [1, 3, 10, 25, 26] num_Put_c17
def num_Put_c19 : ACode := .block 0 num_Put_c18
def num_Put_c20 : ACode := .seq [1, 3, 10, 25, 26] num_Put_c7 num_Put_c19
def num_Put_o9 : List AOper := [{ dst := some 41, op := .mv (.t 10) }, { dst := some 8, op := .mv (.t 41) }, { dst := some 9, op := .mv (.v (.c (.b true))) }]
def num_Put_c21 : ACode := .ops num_Put_o9
def num_Put_c22 : ACode := .seq [8, 9] num_Put_c21 .ret
def num_Put_c23 : ACode := .seq [10] num_Put_c20 num_Put_c22
def num_Put_c24 : ACode := .seq [1, 2, 3, 10] num_Put_c6 num_Put_c23
def num_Put_c25 : ACode := .seq [0, 1, 2, 3] num_Put_c5 num_Put_c24
def num_Put_c26 : ACode := .seq [0, 1, 2, 3] num_Put_c0 num_Put_c25
def A_num_Put : AFn := ⟨num_Put_c26, [.tmp 8, .tmp 9]⟩
noncomputable def E_num_Put : Sums := disp 131 S_num_there disp0
noncomputable def num_Put_c0_d (n : Nat) : SmV := smOps E_num_Put num_Put_o0
noncomputable def num_Put_c1_d (n : Nat) : SmV := smOps E_num_Put num_Put_o1
noncomputable def num_Put_c2_d (n : Nat) : SmV := smOps E_num_Put num_Put_o2
noncomputable def num_Put_c3_d (n : Nat) : SmV := smSeq [8, 9] (num_Put_c2_d n) smRet
noncomputable def num_Put_c4_d (n : Nat) : SmV := smCond (.t 21) (num_Put_c3_d n) smSkip
noncomputable def num_Put_c5_d (n : Nat) : SmV := smSeq [0, 1, 2, 3, 21] (num_Put_c1_d n) (num_Put_c4_d n)
noncomputable def num_Put_c6_d (n : Nat) : SmV := smOps E_num_Put num_Put_o3
noncomputable def num_Put_c7_d (n : Nat) : SmV := smOps E_num_Put num_Put_o4
noncomputable def num_Put_c8_d (n : Nat) : SmV := smOps E_num_Put num_Put_o5
noncomputable def num_Put_c9_d (n : Nat) : SmV := smCond (.t 27) smSkip (smExit 0)
noncomputable def num_Put_c10_d (n : Nat) : SmV := smOps E_num_Put num_Put_o6
noncomputable def num_Put_c11_d (n : Nat) : SmV := smOps E_num_Put num_Put_o7
noncomputable def num_Put_c12_d (n : Nat) : SmV := smSeq [1, 3, 10, 11, 25, 26] (num_Put_c10_d n) (num_Put_c11_d n)
noncomputable def num_Put_c13_d (n : Nat) : SmV := smBlock 1 (num_Put_c12_d n)
noncomputable def num_Put_c14_d (n : Nat) : SmV := smOps E_num_Put num_Put_o8
noncomputable def num_Put_c15_d (n : Nat) : SmV := smSeq [1, 3, 10, 25, 26] (num_Put_c13_d n) (num_Put_c14_d n)
noncomputable def num_Put_c16_d (n : Nat) : SmV := smSeq [1, 3, 10, 25, 26] (num_Put_c9_d n) (num_Put_c15_d n)
noncomputable def num_Put_c17_d (n : Nat) : SmV := smSeq [1, 3, 10, 25, 26, 27] (num_Put_c8_d n) (num_Put_c16_d n)
noncomputable def num_Put_c18_d (n : Nat) : SmV := smLoop n [1, 3, 10, 25, 26] (num_Put_c17_d n)
noncomputable def num_Put_c19_d (n : Nat) : SmV := smBlock 0 (num_Put_c18_d n)
noncomputable def num_Put_c20_d (n : Nat) : SmV := smSeq [1, 3, 10, 25, 26] (num_Put_c7_d n) (num_Put_c19_d n)
noncomputable def num_Put_c21_d (n : Nat) : SmV := smOps E_num_Put num_Put_o9
noncomputable def num_Put_c22_d (n : Nat) : SmV := smSeq [8, 9] (num_Put_c21_d n) smRet
noncomputable def num_Put_c23_d (n : Nat) : SmV := smSeq [10] (num_Put_c20_d n) (num_Put_c22_d n)
noncomputable def num_Put_c24_d (n : Nat) : SmV := smSeq [1, 2, 3, 10] (num_Put_c6_d n) (num_Put_c23_d n)
noncomputable def num_Put_c25_d (n : Nat) : SmV := smSeq [0, 1, 2, 3] (num_Put_c5_d n) (num_Put_c24_d n)
noncomputable def num_Put_c26_d (n : Nat) : SmV := smSeq [0, 1, 2, 3] (num_Put_c0_d n) (num_Put_c25_d n)
noncomputable def num_Put_k0 (n : Nat) : AExit → Env → Heap → OptV := fun x e h => match x with | .normal => hold ((num_Put_c22_d n) A_num_Put.fin (e.keep [10]) h) | .exit id => A_num_Put.fin (.exit id) e h | .ret => A_num_Put.fin .ret e h
noncomputable def num_Put_k1 (n : Nat) : AExit → Env → Heap → OptV := fun x e h => match x with | .exit i => bif Nat.beq i 0 then (num_Put_k0 n) .normal e h else (num_Put_k0 n) (.exit i) e h | .normal => (num_Put_k0 n) .normal e h | .ret => (num_Put_k0 n) .ret e h
noncomputable def num_Put_l0 (n m : Nat) (x1 x3 x10 x25 x26 : Val) (h : Heap) : OptV := around (num_Put_c17_d n) [1, 3, 10, 25, 26] (num_Put_k1 n) m [(1, x1), (3, x3), (10, x10), (25, x25), (26, x26)] h
noncomputable def R_num_Put (n : Nat) (args : List Val) (h : Heap) : OptV := (num_Put_c26_d n) A_num_Put.fin (params 0 args) h
theorem R_num_Put_eq (n : Nat) (a0 a1 a2 a3 : Val) (h : Heap) : R_num_Put n [a0, a1, a2, a3] h = bnd (abin .gtr a2 (.c (.i .i64 8))) fun v1 => bnd (gd v1 false (some (a1, (h ++ [some (Row.mk ([]) true)]))) (some (.no, (h ++ [some (Row.mk ([]) true)])))) fun p2 => bnd (gd v1 false (some (a2, p2.2)) (some (.no, p2.2))) fun p3 => bnd (gd v1 false (some (a0, p3.2)) (some (.no, p3.2))) fun p4 => bnd (gd v1 false (bnd (alen p4.1) fun v5 => some (v5, p4.2)) (some (.no, p4.2))) fun p6 => bnd (gd v1 false (bnd (S_num_there [p2.1, p3.1, p6.1] p6.2) fun p7 => some (p7.1, p7.2)) (some (.no, p6.2))) fun p8 => bnd (gd v1 false (bnd (aun .not p8.1) fun v9 => some (v9, p8.2)) (some (.no, p8.2))) fun p10 => bnd (apick v1 (.c (.b true)) p10.1) fun v11 => cnd v11 (tupN [some ((.c (.sl p10.2.length 0 0 1))), some (.c (.b false))] ((p10.2 ++ [some (Row.mk ([]) true)]))) (bnd (afill ([]) []) fun c12 => bnd (aapp ((p10.2 ++ [some (Row.mk (c12) true)])) 1 ((.c (.sl p10.2.length 0 0 1))) a0) fun p13 => num_Put_l0 n n a1 a3 p13.1 a2 (.c (.i .i64 0)) p13.2) := by kernel_rfl
theorem num_Put_l0_eq (n m : Nat) (x1 x3 x10 x25 x26 : Val) (h : Heap) : num_Put_l0 n (m + 1) x1 x3 x10 x25 x26 h = bnd (abin .lss x26 x25) fun v14 => cnd v14 (bnd (abin .add x1 x26) fun v15 => bnd (abin .mul (.c (.i .i64 8)) x26) fun v16 => bnd (aconv .u64 v16) fun v17 => bnd (abin .shr x3 v17) fun v18 => bnd (aconv .u8 v18) fun v19 => bnd (aiAddrL 1 x10 v15) fun v20 => bnd (astore1 h v20 v19) fun h21 => bnd (abin .add x26 (.c (.i .i64 1))) fun v22 => num_Put_l0 n m x1 x3 x10 x25 v22 h21) (tupN [some x10, some (.c (.b true))] h) := by kernel_rfl
theorem K_num_Put : FnK Try.prog 97 A_num_Put E_num_Put R_num_Put := .mk' (sound1 S_num_there_ok sound0) Try.func97 (by kernel_rfl) (by intro n args h; kernel_rfl)
noncomputable def S_num_Put : Fun := tidy (Lim A_num_Put E_num_Put)
theorem S_num_Put_ok : SOk Try.prog 97 S_num_Put := K_num_Put.sok
theorem S_num_Put_tidy {n : Nat} {args : List Val} {h h2 : Heap} {v : Val} {v2 : Val} {ids : List Nat} (he : R_num_Put n args (ro h) = some (v, h2)) (hc : canonV h2 h.length v = some (v2, ids)) : S_num_Put args h = some (v2, h ++ ids.map (rd h2)) := K_num_Put.tidy he hc
def num_Cut_o0 : List AOper := [{ dst := some 3, op := .box (.t 0) }, { dst := some 6, op := .nilrow 1 }]
def num_Cut_c0 : ACode := .ops num_Cut_o0
def num_Cut_o1 : List AOper := [{ dst := some 9, op := .mv (.t 1) }, { dst := some 10, op := .bin .lss (.t 9) (.v (.c (.i .i64 0))) }, { dst := some 11, op := .mv (.t 10) }, { dst := some 12, op := .mv (.t 1), guard := some (11, false) }, { dst := some 13, op := .bin .geq (.t 12) (.v (.c (.i .i64 256))), guard := some (11, false) }, { dst := some 14, op := .pick (.t 11) (.v (.c (.b true))) (.t 13) }, { dst := some 15, op := .mv (.t 14) }, { dst := some 16, op := .mv (.t 2), guard := some (15, false) }, { dst := some 17, op := .bin .lss (.t 16) (.v (.c (.i .i64 1))), guard := some (15, false) }, { dst := some 18, op := .pick (.t 15) (.v (.c (.b true))) (.t 17) }]
def num_Cut_c1 : ACode := .ops num_Cut_o1
def num_Cut_o2 : List AOper := [{ dst := some 6, op := .nilrow 1 }]
def num_Cut_c2 : ACode := .ops num_Cut_o2
def num_Cut_c3 : ACode := .seq [6] num_Cut_c2 .ret
def num_Cut_c4 : ACode := .cond (.t 18) num_Cut_c3 .skip
def num_Cut_c5 : ACode := .seq [1, 2, 3, 18] num_Cut_c1 num_Cut_c4
def num_Cut_o3 : List AOper := [{ dst := some 19, op := .mv (.t 2) }, { dst := some 20, op := .mv (.t 1) }, { dst := some 21, op := .bin .sub (.v (.c (.i .i64 256))) (.t 20) }, { dst := some 22, op := .min (.t 19) (.t 21) }, { dst := some 2, op := .mv (.t 22) }]
def num_Cut_c6 : ACode := .ops num_Cut_o3
def num_Cut_o4 : List AOper := [{ dst := some 23, op := .mv (.t 2) }, { dst := some 24, op := .mkSl 1 ([.i .u8 0]) (.t 23) (.t 23) }, { dst := some 7, op := .mv (.t 24) }]
def num_Cut_c7 : ACode := .ops num_Cut_o4
def num_Cut_o5 : List AOper := [{ dst := some 25, op := .mv (.t 2) }, { dst := some 26, op := .mv (.v (.c (.i .i64 0))) }]
def num_Cut_c8 : ACode := .ops num_Cut_o5
def num_Cut_o6 : List AOper := [{ dst := some 27, op := .bin .lss (.t 26) (.t 25) }]
def num_Cut_c9 : ACode := .ops num_Cut_o6
def num_Cut_c10 : ACode := .cond (.t 27) .skip (.exit 0)
def num_Cut_o7 : List AOper := [{ dst := some 28, op := .mv (.t 26) }, { dst := some 8, op := .mv (.t 28) }]
def num_Cut_c11 : ACode := .ops num_Cut_o7
def num_Cut_o8 : List AOper := [{ dst := some 29, op := .mv (.t 7) }, { dst := some 30, op := .mv (.t 8) }, { dst := some 31, op := .mv (.t 1) }, { dst := some 32, op := .mv (.t 8) }, { dst := some 33, op := .bin .add (.t 31) (.t 32) }, { dst := some 34, op := .iAddrA 256 1 (.t 3) (.t 33) }, { dst := some 35, op := .load1 (.t 34) }, { dst := some 36, op := .iAddrL 1 (.t 29) (.t 30) }, { dst := none, op := .store1 (.t 36) (.t 35) }]
def num_Cut_c12 : ACode := .ops num_Cut_o8
def num_Cut_c13 : ACode := .seq [1, 3, 7, 8, 25, 26] num_Cut_c11 num_Cut_c12
def num_Cut_c14 : ACode := .block 1 num_Cut_c13
def num_Cut_o9 : List AOper := [{ dst := some 37, op := .bin .add (.t 26) (.v (.c (.i .i64 1))) }, { dst := some 26, op := .mv (.t 37) }]
def num_Cut_c15 : ACode := .ops num_Cut_o9
def num_Cut_c16 : ACode := .seq [1, 3, 7, 25, 26] num_Cut_c14 num_Cut_c15
def num_Cut_c17 : ACode := .seq [1, 3, 7, 25, 26] num_Cut_c10 num_Cut_c16
def num_Cut_c18 : ACode := .seq [1, 3, 7, 25, 26, 27] num_Cut_c9 num_Cut_c17
def num_Cut_c19 : ACode := .loop [1, 3, 7, 25, 26] num_Cut_c18
def num_Cut_c20 : ACode := .block 0 num_Cut_c19
def num_Cut_c21 : ACode := .seq [1, 3, 7, 25, 26] num_Cut_c8 num_Cut_c20
def num_Cut_o10 : List AOper := [{ dst := some 38, op := .mv (.t 7) }, { dst := some 6, op := .mv (.t 38) }]
def num_Cut_c22 : ACode := .ops num_Cut_o10
def num_Cut_c23 : ACode := .seq [6] num_Cut_c22 .ret
def num_Cut_c24 : ACode := .seq [7] num_Cut_c21 num_Cut_c23
def num_Cut_c25 : ACode := .seq [1, 2, 3, 7] num_Cut_c7 num_Cut_c24
def num_Cut_c26 : ACode := .seq [1, 2, 3] num_Cut_c6 num_Cut_c25
def num_Cut_c27 : ACode := .seq [1, 2, 3] num_Cut_c5 num_Cut_c26
def num_Cut_c28 : ACode := .seq [1, 2, 3] num_Cut_c0 num_Cut_c27
def A_num_Cut : AFn := ⟨num_Cut_c28, [.tmp 6]⟩
noncomputable def E_num_Cut : Sums := disp0
noncomputable def num_Cut_c0_d (n : Nat) : SmV := smOps E_num_Cut num_Cut_o0
noncomputable def num_Cut_c1_d (n : Nat) : SmV := smOps E_num_Cut num_Cut_o1
noncomputable def num_Cut_c2_d (n : Nat) : SmV := smOps E_num_Cut num_Cut_o2
noncomputable def num_Cut_c3_d (n : Nat) : SmV := smSeq [6] (num_Cut_c2_d n) smRet
noncomputable def num_Cut_c4_d (n : Nat) : SmV := smCond (.t 18) (num_Cut_c3_d n) smSkip
noncomputable def num_Cut_c5_d (n : Nat) : SmV := smSeq [1, 2, 3, 18] (num_Cut_c1_d n) (num_Cut_c4_d n)
noncomputable def num_Cut_c6_d (n : Nat) : SmV := smOps E_num_Cut num_Cut_o3
noncomputable def num_Cut_c7_d (n : Nat) : SmV := smOps E_num_Cut num_Cut_o4
noncomputable def num_Cut_c8_d (n : Nat) : SmV := smOps E_num_Cut num_Cut_o5
noncomputable def num_Cut_c9_d (n : Nat) : SmV := smOps E_num_Cut num_Cut_o6
noncomputable def num_Cut_c10_d (n : Nat) : SmV := smCond (.t 27) smSkip (smExit 0)
noncomputable def num_Cut_c11_d (n : Nat) : SmV := smOps E_num_Cut num_Cut_o7
noncomputable def num_Cut_c12_d (n : Nat) : SmV := smOps E_num_Cut num_Cut_o8
noncomputable def num_Cut_c13_d (n : Nat) : SmV := smSeq [1, 3, 7, 8, 25, 26] (num_Cut_c11_d n) (num_Cut_c12_d n)
noncomputable def num_Cut_c14_d (n : Nat) : SmV := smBlock 1 (num_Cut_c13_d n)
noncomputable def num_Cut_c15_d (n : Nat) : SmV := smOps E_num_Cut num_Cut_o9
noncomputable def num_Cut_c16_d (n : Nat) : SmV := smSeq [1, 3, 7, 25, 26] (num_Cut_c14_d n) (num_Cut_c15_d n)
noncomputable def num_Cut_c17_d (n : Nat) : SmV := smSeq [1, 3, 7, 25, 26] (num_Cut_c10_d n) (num_Cut_c16_d n)
noncomputable def num_Cut_c18_d (n : Nat) : SmV := smSeq [1, 3, 7, 25, 26, 27] (num_Cut_c9_d n) (num_Cut_c17_d n)
noncomputable def num_Cut_c19_d (n : Nat) : SmV := smLoop n [1, 3, 7, 25, 26] (num_Cut_c18_d n)
noncomputable def num_Cut_c20_d (n : Nat) : SmV := smBlock 0 (num_Cut_c19_d n)
noncomputable def num_Cut_c21_d (n : Nat) : SmV := smSeq [1, 3, 7, 25, 26] (num_Cut_c8_d n) (num_Cut_c20_d n)
noncomputable def num_Cut_c22_d (n : Nat) : SmV := smOps E_num_Cut num_Cut_o10
noncomputable def num_Cut_c23_d (n : Nat) : SmV := smSeq [6] (num_Cut_c22_d n) smRet
noncomputable def num_Cut_c24_d (n : Nat) : SmV := smSeq [7] (num_Cut_c21_d n) (num_Cut_c23_d n)
noncomputable def num_Cut_c25_d (n : Nat) : SmV := smSeq [1, 2, 3, 7] (num_Cut_c7_d n) (num_Cut_c24_d n)
noncomputable def num_Cut_c26_d (n : Nat) : SmV := smSeq [1, 2, 3] (num_Cut_c6_d n) (num_Cut_c25_d n)
noncomputable def num_Cut_c27_d (n : Nat) : SmV := smSeq [1, 2, 3] (num_Cut_c5_d n) (num_Cut_c26_d n)
noncomputable def num_Cut_c28_d (n : Nat) : SmV := smSeq [1, 2, 3] (num_Cut_c0_d n) (num_Cut_c27_d n)
noncomputable def num_Cut_k0 (n : Nat) : AExit → Env → Heap → OptV := fun x e h => match x with | .normal => hold ((num_Cut_c23_d n) A_num_Cut.fin (e.keep [7]) h) | .exit id => A_num_Cut.fin (.exit id) e h | .ret => A_num_Cut.fin .ret e h
noncomputable def num_Cut_k1 (n : Nat) : AExit → Env → Heap → OptV := fun x e h => match x with | .exit i => bif Nat.beq i 0 then (num_Cut_k0 n) .normal e h else (num_Cut_k0 n) (.exit i) e h | .normal => (num_Cut_k0 n) .normal e h | .ret => (num_Cut_k0 n) .ret e h
noncomputable def num_Cut_l0 (n m : Nat) (x1 x3 x7 x25 x26 : Val) (h : Heap) : OptV := around (num_Cut_c18_d n) [1, 3, 7, 25, 26] (num_Cut_k1 n) m [(1, x1), (3, x3), (7, x7), (25, x25), (26, x26)] h
noncomputable def R_num_Cut (n : Nat) (args : List Val) (h : Heap) : OptV := (num_Cut_c28_d n) A_num_Cut.fin (params 0 args) h
theorem R_num_Cut_eq (n : Nat) (a0 a1 a2 : Val) (h : Heap) : R_num_Cut n [a0, a1, a2] h = bnd (cells? a0) fun c1 => bnd (abin .lss a1 (.c (.i .i64 0))) fun v2 => bnd (gd v2 false (some (a1, ((h ++ [some (Row.mk (c1) true)]) ++ [some (Row.mk ([]) true)]))) (some (.no, ((h ++ [some (Row.mk (c1) true)]) ++ [some (Row.mk ([]) true)])))) fun p3 => bnd (gd v2 false (bnd (abin .geq p3.1 (.c (.i .i64 256))) fun v4 => some (v4, p3.2)) (some (.no, p3.2))) fun p5 => bnd (apick v2 (.c (.b true)) p5.1) fun v6 => bnd (gd v6 false (some (a2, p5.2)) (some (.no, p5.2))) fun p7 => bnd (gd v6 false (bnd (abin .lss p7.1 (.c (.i .i64 1))) fun v8 => some (v8, p7.2)) (some (.no, p7.2))) fun p9 => bnd (apick v6 (.c (.b true)) p9.1) fun v10 => cnd v10 (some (((.c (.sl p9.2.length 0 0 1))), (p9.2 ++ [some (Row.mk ([]) true)]))) (bnd (abin .sub (.c (.i .i64 256)) a1) fun v11 => bnd (amin a2 v11) fun v12 => bnd (amkn v12 v12) fun n13 => num_Cut_l0 n n a1 ((.c (.p h.length 0))) ((.c (.sl p9.2.length 0 n13 1))) v12 (.c (.i .i64 0)) ((p9.2 ++ [some (Row.mk (rows ([.i .u8 0]) n13) true)]))) := by kernel_rfl
theorem num_Cut_l0_eq (n m : Nat) (x1 x3 x7 x25 x26 : Val) (h : Heap) : num_Cut_l0 n (m + 1) x1 x3 x7 x25 x26 h = bnd (abin .lss x26 x25) fun v14 => cnd v14 (bnd (abin .add x1 x26) fun v15 => bnd (aiAddrA 256 1 x3 v15) fun v16 => bnd (aload1 h v16) fun v17 => bnd (aiAddrL 1 x7 x26) fun v18 => bnd (astore1 h v18 v17) fun h19 => bnd (abin .add x26 (.c (.i .i64 1))) fun v20 => num_Cut_l0 n m x1 x3 x7 x25 v20 h19) (some (x7, h)) := by kernel_rfl
theorem K_num_Cut : FnK Try.prog 57 A_num_Cut E_num_Cut R_num_Cut := .mk' (sound0) Try.func57 (by kernel_rfl) (by intro n args h; kernel_rfl)
noncomputable def S_num_Cut : Fun := tidy (Lim A_num_Cut E_num_Cut)
theorem S_num_Cut_ok : SOk Try.prog 57 S_num_Cut := K_num_Cut.sok
theorem S_num_Cut_out {n : Nat} {args : List Val} {h h2 : Heap} {v : Val} {sz k : Nat} {cs : List Cell} (he : R_num_Cut n args (ro h) = some (v, h2)) (ho : Out h.length h2 v sz k cs) (hf : flats cs = true) : S_num_Cut args h = some (.c (.sl h.length 0 k sz), h ++ [some ⟨cs, true⟩]) := K_num_Cut.out he ho hf
def num_Get_o0 : List AOper := [{ dst := some 6, op := .mv (.v (.c (.i .u64 0))) }, { dst := some 7, op := .mv (.v (.c (.b false))) }]
def num_Get_c0 : ACode := .ops num_Get_o0
def num_Get_o1 : List AOper := [{ dst := some 10, op := .mv (.t 2) }, { dst := some 11, op := .bin .gtr (.t 10) (.v (.c (.i .i64 8))) }, { dst := some 12, op := .mv (.t 11) }, { dst := some 13, op := .mv (.t 1), guard := some (12, false) }, { dst := some 14, op := .mv (.t 2), guard := some (12, false) }, { dst := some 15, op := .mv (.t 0), guard := some (12, false) }, { dst := some 16, op := .len (.t 15), guard := some (12, false) }, { dst := some 17, op := .call 131 [(.t 13), (.t 14), (.t 16)], guard := some (12, false) }, { dst := some 18, op := .un .not (.t 17), guard := some (12, false) }, { dst := some 19, op := .pick (.t 12) (.v (.c (.b true))) (.t 18) }]
def num_Get_c1 : ACode := .ops num_Get_o1
def num_Get_o2 : List AOper := [{ dst := some 6, op := .mv (.v (.c (.i .u64 0))) }, { dst := some 7, op := .mv (.v (.c (.b false))) }]
def num_Get_c2 : ACode := .ops num_Get_o2
def num_Get_c3 : ACode := .seq [6, 7] num_Get_c2 .ret
def num_Get_c4 : ACode := .cond (.t 19) num_Get_c3 .skip
def num_Get_c5 : ACode := .seq [0, 1, 2, 19] num_Get_c1 num_Get_c4
def num_Get_o3 : List AOper := [{ dst := some 8, op := .mv (.v (.c (.i .u64 0))) }]
def num_Get_c6 : ACode := .ops num_Get_o3
def num_Get_o4 : List AOper := [{ dst := some 20, op := .mv (.t 2) }, { dst := some 21, op := .mv (.v (.c (.i .i64 0))) }]
def num_Get_c7 : ACode := .ops num_Get_o4
def num_Get_o5 : List AOper := [{ dst := some 22, op := .bin .lss (.t 21) (.t 20) }]
def num_Get_c8 : ACode := .ops num_Get_o5
def num_Get_c9 : ACode := .cond (.t 22) .skip (.exit 0)
def num_Get_o6 : List AOper := [{ dst := some 23, op := .mv (.t 21) }, { dst := some 9, op := .mv (.t 23) }]
def num_Get_c10 : ACode := .ops num_Get_o6
def num_Get_o7 : List AOper := [{ dst := some 24, op := .mv (.t 8) }, { dst := some 25, op := .mv (.t 0) }, { dst := some 26, op := .mv (.t 1) }, { dst := some 27, op := .mv (.t 9) }, { dst := some 28, op := .bin .add (.t 26) (.t 27) }, { dst := some 29, op := .iAddrL 1 (.t 25) (.t 28) }, { dst := some 30, op := .load1 (.t 29) }, { dst := some 31, op := .conv .u64 (.t 30) }, { dst := some 32, op := .mv (.t 9) }, { dst := some 33, op := .bin .mul (.v (.c (.i .i64 8))) (.t 32) }, { dst := some 34, op := .conv .u64 (.t 33) }, { dst := some 35, op := .bin .shl (.t 31) (.t 34) }, { dst := some 36, op := .bin .or (.t 24) (.t 35) }, { dst := some 8, op := .mv (.t 36) }]
def num_Get_c11 : ACode := .ops num_Get_o7
def num_Get_c12 : ACode := .seq [0, 1, 8, 9, 20, 21] num_Get_c10 num_Get_c11
def num_Get_c13 : ACode := .block 1 num_Get_c12
def num_Get_o8 : List AOper := [{ dst := some 37, op := .bin .add (.t 21) (.v (.c (.i .i64 1))) }, { dst := some 21, op := .mv (.t 37) }]
def num_Get_c14 : ACode := .ops num_Get_o8
def num_Get_c15 : ACode := .seq [0, 1, 8, 20, 21] num_Get_c13 num_Get_c14
def num_Get_c16 : ACode := .seq [0, 1, 8, 20, 21] num_Get_c9 num_Get_c15
def num_Get_c17 : ACode := .seq [0, 1, 8, 20, 21, 22] num_Get_c8 num_Get_c16
def num_Get_c18 : ACode := .loop [0, 1, 8, 20, 21] num_Get_c17
def num_Get_c19 : ACode := .block 0 num_Get_c18
def num_Get_c20 : ACode := .seq [0, 1, 8, 20, 21] num_Get_c7 num_Get_c19
def num_Get_o9 : List AOper := [{ dst := some 38, op := .mv (.t 8) }, { dst := some 6, op := .mv (.t 38) }, { dst := some 7, op := .mv (.v (.c (.b true))) }]
def num_Get_c21 : ACode := .ops num_Get_o9
def num_Get_c22 : ACode := .seq [6, 7] num_Get_c21 .ret
def num_Get_c23 : ACode := .seq [8] num_Get_c20 num_Get_c22
def num_Get_c24 : ACode := .seq [0, 1, 2, 8] num_Get_c6 num_Get_c23
def num_Get_c25 : ACode := .seq [0, 1, 2] num_Get_c5 num_Get_c24
def num_Get_c26 : ACode := .seq [0, 1, 2] num_Get_c0 num_Get_c25
def A_num_Get : AFn := ⟨num_Get_c26, [.tmp 6, .tmp 7]⟩
noncomputable def E_num_Get : Sums := disp 131 S_num_there disp0
noncomputable def num_Get_c0_d (n : Nat) : SmV := smOps E_num_Get num_Get_o0
noncomputable def num_Get_c1_d (n : Nat) : SmV := smOps E_num_Get num_Get_o1
noncomputable def num_Get_c2_d (n : Nat) : SmV := smOps E_num_Get num_Get_o2
noncomputable def num_Get_c3_d (n : Nat) : SmV := smSeq [6, 7] (num_Get_c2_d n) smRet
noncomputable def num_Get_c4_d (n : Nat) : SmV := smCond (.t 19) (num_Get_c3_d n) smSkip
noncomputable def num_Get_c5_d (n : Nat) : SmV := smSeq [0, 1, 2, 19] (num_Get_c1_d n) (num_Get_c4_d n)
noncomputable def num_Get_c6_d (n : Nat) : SmV := smOps E_num_Get num_Get_o3
noncomputable def num_Get_c7_d (n : Nat) : SmV := smOps E_num_Get num_Get_o4
noncomputable def num_Get_c8_d (n : Nat) : SmV := smOps E_num_Get num_Get_o5
noncomputable def num_Get_c9_d (n : Nat) : SmV := smCond (.t 22) smSkip (smExit 0)
noncomputable def num_Get_c10_d (n : Nat) : SmV := smOps E_num_Get num_Get_o6
noncomputable def num_Get_c11_d (n : Nat) : SmV := smOps E_num_Get num_Get_o7
noncomputable def num_Get_c12_d (n : Nat) : SmV := smSeq [0, 1, 8, 9, 20, 21] (num_Get_c10_d n) (num_Get_c11_d n)
noncomputable def num_Get_c13_d (n : Nat) : SmV := smBlock 1 (num_Get_c12_d n)
noncomputable def num_Get_c14_d (n : Nat) : SmV := smOps E_num_Get num_Get_o8
noncomputable def num_Get_c15_d (n : Nat) : SmV := smSeq [0, 1, 8, 20, 21] (num_Get_c13_d n) (num_Get_c14_d n)
noncomputable def num_Get_c16_d (n : Nat) : SmV := smSeq [0, 1, 8, 20, 21] (num_Get_c9_d n) (num_Get_c15_d n)
noncomputable def num_Get_c17_d (n : Nat) : SmV := smSeq [0, 1, 8, 20, 21, 22] (num_Get_c8_d n) (num_Get_c16_d n)
noncomputable def num_Get_c18_d (n : Nat) : SmV := smLoop n [0, 1, 8, 20, 21] (num_Get_c17_d n)
noncomputable def num_Get_c19_d (n : Nat) : SmV := smBlock 0 (num_Get_c18_d n)
noncomputable def num_Get_c20_d (n : Nat) : SmV := smSeq [0, 1, 8, 20, 21] (num_Get_c7_d n) (num_Get_c19_d n)
noncomputable def num_Get_c21_d (n : Nat) : SmV := smOps E_num_Get num_Get_o9
noncomputable def num_Get_c22_d (n : Nat) : SmV := smSeq [6, 7] (num_Get_c21_d n) smRet
noncomputable def num_Get_c23_d (n : Nat) : SmV := smSeq [8] (num_Get_c20_d n) (num_Get_c22_d n)
noncomputable def num_Get_c24_d (n : Nat) : SmV := smSeq [0, 1, 2, 8] (num_Get_c6_d n) (num_Get_c23_d n)
noncomputable def num_Get_c25_d (n : Nat) : SmV := smSeq [0, 1, 2] (num_Get_c5_d n) (num_Get_c24_d n)
noncomputable def num_Get_c26_d (n : Nat) : SmV := smSeq [0, 1, 2] (num_Get_c0_d n) (num_Get_c25_d n)
noncomputable def num_Get_k0 (n : Nat) : AExit → Env → Heap → OptV := fun x e h => match x with | .normal => hold ((num_Get_c22_d n) A_num_Get.fin (e.keep [8]) h) | .exit id => A_num_Get.fin (.exit id) e h | .ret => A_num_Get.fin .ret e h
noncomputable def num_Get_k1 (n : Nat) : AExit → Env → Heap → OptV := fun x e h => match x with | .exit i => bif Nat.beq i 0 then (num_Get_k0 n) .normal e h else (num_Get_k0 n) (.exit i) e h | .normal => (num_Get_k0 n) .normal e h | .ret => (num_Get_k0 n) .ret e h
noncomputable def num_Get_l0 (n m : Nat) (x0 x1 x8 x20 x21 : Val) (h : Heap) : OptV := around (num_Get_c17_d n) [0, 1, 8, 20, 21] (num_Get_k1 n) m [(0, x0), (1, x1), (8, x8), (20, x20), (21, x21)] h
noncomputable def R_num_Get (n : Nat) (args : List Val) (h : Heap) : OptV := (num_Get_c26_d n) A_num_Get.fin (params 0 args) h
theorem R_num_Get_eq (n : Nat) (a0 a1 a2 : Val) (h : Heap) : R_num_Get n [a0, a1, a2] h = bnd (abin .gtr a2 (.c (.i .i64 8))) fun v1 => bnd (gd v1 false (some (a1, h)) (some (.no, h))) fun p2 => bnd (gd v1 false (some (a2, p2.2)) (some (.no, p2.2))) fun p3 => bnd (gd v1 false (some (a0, p3.2)) (some (.no, p3.2))) fun p4 => bnd (gd v1 false (bnd (alen p4.1) fun v5 => some (v5, p4.2)) (some (.no, p4.2))) fun p6 => bnd (gd v1 false (bnd (S_num_there [p2.1, p3.1, p6.1] p6.2) fun p7 => some (p7.1, p7.2)) (some (.no, p6.2))) fun p8 => bnd (gd v1 false (bnd (aun .not p8.1) fun v9 => some (v9, p8.2)) (some (.no, p8.2))) fun p10 => bnd (apick v1 (.c (.b true)) p10.1) fun v11 => cnd v11 (tupN [some (.c (.i .u64 0)), some (.c (.b false))] p10.2) (num_Get_l0 n n a0 a1 (.c (.i .u64 0)) a2 (.c (.i .i64 0)) p10.2) := by kernel_rfl
theorem num_Get_l0_eq (n m : Nat) (x0 x1 x8 x20 x21 : Val) (h : Heap) : num_Get_l0 n (m + 1) x0 x1 x8 x20 x21 h = bnd (abin .lss x21 x20) fun v12 => cnd v12 (bnd (abin .add x1 x21) fun v13 => bnd (aiAddrL 1 x0 v13) fun v14 => bnd (aload1 h v14) fun v15 => bnd (aconv .u64 v15) fun v16 => bnd (abin .mul (.c (.i .i64 8)) x21) fun v17 => bnd (aconv .u64 v17) fun v18 => bnd (abin .shl v16 v18) fun v19 => bnd (abin .or x8 v19) fun v20 => bnd (abin .add x21 (.c (.i .i64 1))) fun v21 => num_Get_l0 n m x0 x1 v20 x20 v21 h) (tupN [some x8, some (.c (.b true))] h) := by kernel_rfl
theorem K_num_Get : FnK Try.prog 100 A_num_Get E_num_Get R_num_Get := .mk' (sound1 S_num_there_ok sound0) Try.func100 (by kernel_rfl) (by intro n args h; kernel_rfl)
noncomputable def S_num_Get : Fun := tidy (Lim A_num_Get E_num_Get)
theorem S_num_Get_ok : SOk Try.prog 100 S_num_Get := K_num_Get.sok
theorem S_num_Get_flat {n : Nat} {args : List Val} {h h2 : Heap} {v : Val} (he : R_num_Get n args (ro h) = some (v, h2)) (hf : v.flat = true) : S_num_Get args h = some (v, h) := K_num_Get.flat he hf
def num_At_o0 : List AOper := [{ dst := some 3, op := .box (.t 0) }, { dst := some 6, op := .mv (.v (.c (.i .i64 0))) }]
def num_At_c0 : ACode := .ops num_At_o0
def num_At_o1 : List AOper := [{ dst := some 9, op := .mv (.t 2) }, { dst := some 10, op := .bin .gtr (.t 9) (.v (.c (.i .i64 4))) }, { dst := some 11, op := .mv (.t 10) }, { dst := some 12, op := .mv (.t 1), guard := some (11, false) }, { dst := some 13, op := .mv (.t 2), guard := some (11, false) }, { dst := some 14, op := .call 131 [(.t 12), (.t 13), (.v (.c (.i .i64 256)))], guard := some (11, false) }, { dst := some 15, op := .un .not (.t 14), guard := some (11, false) }, { dst := some 16, op := .pick (.t 11) (.v (.c (.b true))) (.t 15) }]
def num_At_c1 : ACode := .ops num_At_o1
def num_At_o2 : List AOper := [{ dst := some 6, op := .mv (.v (.c (.i .i64 0))) }]
def num_At_c2 : ACode := .ops num_At_o2
def num_At_c3 : ACode := .seq [6] num_At_c2 .ret
def num_At_c4 : ACode := .cond (.t 16) num_At_c3 .skip
def num_At_c5 : ACode := .seq [1, 2, 3, 16] num_At_c1 num_At_c4
def num_At_o3 : List AOper := [{ dst := some 7, op := .mv (.v (.c (.i .i64 0))) }]
def num_At_c6 : ACode := .ops num_At_o3
def num_At_o4 : List AOper := [{ dst := some 17, op := .mv (.t 2) }, { dst := some 18, op := .mv (.v (.c (.i .i64 0))) }]
def num_At_c7 : ACode := .ops num_At_o4
def num_At_o5 : List AOper := [{ dst := some 19, op := .bin .lss (.t 18) (.t 17) }]
def num_At_c8 : ACode := .ops num_At_o5
def num_At_c9 : ACode := .cond (.t 19) .skip (.exit 0)
def num_At_o6 : List AOper := [{ dst := some 20, op := .mv (.t 18) }, { dst := some 8, op := .mv (.t 20) }]
def num_At_c10 : ACode := .ops num_At_o6
def num_At_o7 : List AOper := [{ dst := some 21, op := .mv (.t 7) }, { dst := some 22, op := .mv (.t 1) }, { dst := some 23, op := .mv (.t 8) }, { dst := some 24, op := .bin .add (.t 22) (.t 23) }, { dst := some 25, op := .iAddrA 256 1 (.t 3) (.t 24) }, { dst := some 26, op := .load1 (.t 25) }, { dst := some 27, op := .conv .i64 (.t 26) }, { dst := some 28, op := .mv (.t 8) }, { dst := some 29, op := .bin .mul (.v (.c (.i .i64 8))) (.t 28) }, { dst := some 30, op := .conv .u64 (.t 29) }, { dst := some 31, op := .bin .shl (.t 27) (.t 30) }, { dst := some 32, op := .bin .or (.t 21) (.t 31) }, { dst := some 7, op := .mv (.t 32) }]
def num_At_c11 : ACode := .ops num_At_o7
def num_At_c12 : ACode := .seq [1, 3, 7, 8, 17, 18] num_At_c10 num_At_c11
def num_At_c13 : ACode := .block 1 num_At_c12
def num_At_o8 : List AOper := [{ dst := some 33, op := .bin .add (.t 18) (.v (.c (.i .i64 1))) }, { dst := some 18, op := .mv (.t 33) }]
def num_At_c14 : ACode := .ops num_At_o8
def num_At_c15 : ACode := .seq [1, 3, 7, 17, 18] num_At_c13 num_At_c14
def num_At_c16 : ACode := .seq [1, 3, 7, 17, 18] num_At_c9 num_At_c15
def num_At_c17 : ACode := .seq [1, 3, 7, 17, 18, 19] num_At_c8 num_At_c16
def num_At_c18 : ACode := .loop [1, 3, 7, 17, 18] num_At_c17
def num_At_c19 : ACode := .block 0 num_At_c18
def num_At_c20 : ACode := .seq [1, 3, 7, 17, 18] num_At_c7 num_At_c19
def num_At_o9 : List AOper := [{ dst := some 34, op := .mv (.t 7) }, { dst := some 6, op := .mv (.t 34) }]
def num_At_c21 : ACode := .ops num_At_o9
def num_At_c22 : ACode := .seq [6] num_At_c21 .ret
def num_At_c23 : ACode := .seq [7] num_At_c20 num_At_c22
def num_At_c24 : ACode := .seq [1, 2, 3, 7] num_At_c6 num_At_c23
def num_At_c25 : ACode := .seq [1, 2, 3] num_At_c5 num_At_c24
def num_At_c26 : ACode := .seq [1, 2, 3] num_At_c0 num_At_c25
def A_num_At : AFn := ⟨num_At_c26, [.tmp 6]⟩
noncomputable def E_num_At : Sums := disp 131 S_num_there disp0
noncomputable def num_At_c0_d (n : Nat) : SmV := smOps E_num_At num_At_o0
noncomputable def num_At_c1_d (n : Nat) : SmV := smOps E_num_At num_At_o1
noncomputable def num_At_c2_d (n : Nat) : SmV := smOps E_num_At num_At_o2
noncomputable def num_At_c3_d (n : Nat) : SmV := smSeq [6] (num_At_c2_d n) smRet
noncomputable def num_At_c4_d (n : Nat) : SmV := smCond (.t 16) (num_At_c3_d n) smSkip
noncomputable def num_At_c5_d (n : Nat) : SmV := smSeq [1, 2, 3, 16] (num_At_c1_d n) (num_At_c4_d n)
noncomputable def num_At_c6_d (n : Nat) : SmV := smOps E_num_At num_At_o3
noncomputable def num_At_c7_d (n : Nat) : SmV := smOps E_num_At num_At_o4
noncomputable def num_At_c8_d (n : Nat) : SmV := smOps E_num_At num_At_o5
noncomputable def num_At_c9_d (n : Nat) : SmV := smCond (.t 19) smSkip (smExit 0)
noncomputable def num_At_c10_d (n : Nat) : SmV := smOps E_num_At num_At_o6
noncomputable def num_At_c11_d (n : Nat) : SmV := smOps E_num_At num_At_o7
noncomputable def num_At_c12_d (n : Nat) : SmV := smSeq [1, 3, 7, 8, 17, 18] (num_At_c10_d n) (num_At_c11_d n)
noncomputable def num_At_c13_d (n : Nat) : SmV := smBlock 1 (num_At_c12_d n)
noncomputable def num_At_c14_d (n : Nat) : SmV := smOps E_num_At num_At_o8
noncomputable def num_At_c15_d (n : Nat) : SmV := smSeq [1, 3, 7, 17, 18] (num_At_c13_d n) (num_At_c14_d n)
noncomputable def num_At_c16_d (n : Nat) : SmV := smSeq [1, 3, 7, 17, 18] (num_At_c9_d n) (num_At_c15_d n)
noncomputable def num_At_c17_d (n : Nat) : SmV := smSeq [1, 3, 7, 17, 18, 19] (num_At_c8_d n) (num_At_c16_d n)
noncomputable def num_At_c18_d (n : Nat) : SmV := smLoop n [1, 3, 7, 17, 18] (num_At_c17_d n)
noncomputable def num_At_c19_d (n : Nat) : SmV := smBlock 0 (num_At_c18_d n)
noncomputable def num_At_c20_d (n : Nat) : SmV := smSeq [1, 3, 7, 17, 18] (num_At_c7_d n) (num_At_c19_d n)
noncomputable def num_At_c21_d (n : Nat) : SmV := smOps E_num_At num_At_o9
noncomputable def num_At_c22_d (n : Nat) : SmV := smSeq [6] (num_At_c21_d n) smRet
noncomputable def num_At_c23_d (n : Nat) : SmV := smSeq [7] (num_At_c20_d n) (num_At_c22_d n)
noncomputable def num_At_c24_d (n : Nat) : SmV := smSeq [1, 2, 3, 7] (num_At_c6_d n) (num_At_c23_d n)
noncomputable def num_At_c25_d (n : Nat) : SmV := smSeq [1, 2, 3] (num_At_c5_d n) (num_At_c24_d n)
noncomputable def num_At_c26_d (n : Nat) : SmV := smSeq [1, 2, 3] (num_At_c0_d n) (num_At_c25_d n)
noncomputable def num_At_k0 (n : Nat) : AExit → Env → Heap → OptV := fun x e h => match x with | .normal => hold ((num_At_c22_d n) A_num_At.fin (e.keep [7]) h) | .exit id => A_num_At.fin (.exit id) e h | .ret => A_num_At.fin .ret e h
noncomputable def num_At_k1 (n : Nat) : AExit → Env → Heap → OptV := fun x e h => match x with | .exit i => bif Nat.beq i 0 then (num_At_k0 n) .normal e h else (num_At_k0 n) (.exit i) e h | .normal => (num_At_k0 n) .normal e h | .ret => (num_At_k0 n) .ret e h
noncomputable def num_At_l0 (n m : Nat) (x1 x3 x7 x17 x18 : Val) (h : Heap) : OptV := around (num_At_c17_d n) [1, 3, 7, 17, 18] (num_At_k1 n) m [(1, x1), (3, x3), (7, x7), (17, x17), (18, x18)] h
noncomputable def R_num_At (n : Nat) (args : List Val) (h : Heap) : OptV := (num_At_c26_d n) A_num_At.fin (params 0 args) h
theorem R_num_At_eq (n : Nat) (a0 a1 a2 : Val) (h : Heap) : R_num_At n [a0, a1, a2] h = bnd (cells? a0) fun c1 => bnd (abin .gtr a2 (.c (.i .i64 4))) fun v2 => bnd (gd v2 false (some (a1, (h ++ [some (Row.mk (c1) true)]))) (some (.no, (h ++ [some (Row.mk (c1) true)])))) fun p3 => bnd (gd v2 false (some (a2, p3.2)) (some (.no, p3.2))) fun p4 => bnd (gd v2 false (bnd (S_num_there [p3.1, p4.1, .c (.i .i64 256)] p4.2) fun p5 => some (p5.1, p5.2)) (some (.no, p4.2))) fun p6 => bnd (gd v2 false (bnd (aun .not p6.1) fun v7 => some (v7, p6.2)) (some (.no, p6.2))) fun p8 => bnd (apick v2 (.c (.b true)) p8.1) fun v9 => cnd v9 (some ((.c (.i .i64 0)), p8.2)) (num_At_l0 n n a1 ((.c (.p h.length 0))) (.c (.i .i64 0)) a2 (.c (.i .i64 0)) p8.2) := by kernel_rfl
theorem num_At_l0_eq (n m : Nat) (x1 x3 x7 x17 x18 : Val) (h : Heap) : num_At_l0 n (m + 1) x1 x3 x7 x17 x18 h = bnd (abin .lss x18 x17) fun v10 => cnd v10 (bnd (abin .add x1 x18) fun v11 => bnd (aiAddrA 256 1 x3 v11) fun v12 => bnd (aload1 h v12) fun v13 => bnd (aconv .i64 v13) fun v14 => bnd (abin .mul (.c (.i .i64 8)) x18) fun v15 => bnd (aconv .u64 v15) fun v16 => bnd (abin .shl v14 v16) fun v17 => bnd (abin .or x7 v17) fun v18 => bnd (abin .add x18 (.c (.i .i64 1))) fun v19 => num_At_l0 n m x1 x3 v18 x17 v19 h) (some (x7, h)) := by kernel_rfl
theorem K_num_At : FnK Try.prog 101 A_num_At E_num_At R_num_At := .mk' (sound1 S_num_there_ok sound0) Try.func101 (by kernel_rfl) (by intro n args h; kernel_rfl)
noncomputable def S_num_At : Fun := tidy (Lim A_num_At E_num_At)
theorem S_num_At_ok : SOk Try.prog 101 S_num_At := K_num_At.sok
theorem S_num_At_flat {n : Nat} {args : List Val} {h h2 : Heap} {v : Val} (he : R_num_At n args (ro h) = some (v, h2)) (hf : v.flat = true) : S_num_At args h = some (v, h) := K_num_At.flat he hf
end Go.Proofs.Ytdgggnlbdoiloaa
end
section
namespace Go.Proofs.Ytdgggnlbdoiloaa
open Go Go.Esc

def thereI (at' width all : Int) : Bool := decide (0 ≤ at') && decide (1 ≤ width) && decide (width ≤ all) && decide (at' ≤ all - width)

theorem thereI_true {a w n : Int} : thereI a w n = true ↔ 0 ≤ a ∧ 1 ≤ w ∧ w ≤ n ∧ a ≤ n - w := by
  unfold thereI; simp [and_assoc]

theorem there_eq {a w n : Int} {h : Heap} (hn : n < 9223372036854775808) :
    S_num_there [.c (.i .i64 a), .c (.i .i64 w), .c (.i .i64 n)] h = some (.c (.b (thereI a w n)), h) := by
  refine S_num_there_flat (n := 0) (h2 := ro h) ?_ rfl
  rw [R_num_there_eq]
  unfold thereI
  by_cases h1 : 0 ≤ a
  · by_cases h2 : 1 ≤ w
    · by_cases h3 : w ≤ n
      · have e : IntKind.wrap .i64 (n - w) = n - w := wrap_i64 (by omega) (by omega)
        simp [h1, h2, h3, e]
      · simp [h1, h2, h3]
    · simp [h1, h2]
  · simp [h1]

def getN (l : List UInt8) (a w : Int) : Option Nat := if w ≤ 8 ∧ thereI a w l.length = true then some (le ((l.drop a.toNat).take w.toNat)) else none

theorem num_At_loop {l : List UInt8} {h : Heap} {a w k : Nat} (hw : w ≤ 4) (haw : a + w ≤ 256) (hl : l.length = 256) : ∀ d i m, i + d = w → d < m →
    num_At_l0 k m (.c (.i .i64 a)) (.c (.p h.length 0)) (.c (.i .i64 (le ((l.drop a).take i)))) (.c (.i .i64 w)) (.c (.i .i64 i)) (h ++ [some ⟨encB l, true⟩]) = some (.c (.i .i64 (le ((l.drop a).take w))), h ++ [some ⟨encB l, true⟩])
  | d, i, 0, _, hm => by omega
  | 0, i, m + 1, hi, hm => by
    have e : i = w := by omega
    subst e
    rw [num_At_l0_eq]
    simp
  | d + 1, i, m + 1, hi, hm => by
    have ih := num_At_loop (h := h) (k := k) hw haw hl d (i + 1) m (by omega) (by omega)
    have hx := load1_of (h := h ++ [some ⟨encB l, true⟩]) (id := h.length) (off := a + i) (c := .i .u8 l[a + i].toNat) rd_new (by rw [encB_get, List.getElem?_eq_getElem (by omega)]; rfl) rfl
    have hb := l[a + i].toNat_lt
    have hlen : ((l.drop a).take i).length = i := by simp; omega
    have hle := le_lt ((l.drop a).take i)
    rw [hlen] at hle
    have hp := pow256_le (show i ≤ 4 by omega)
    have hbp := byte_pow_lt (x := l[a + i]) (show i < 4 by omega)
    have e2 : IntKind.wrap .i64 (8 * (i : Int)) = 8 * i := wrap_i64 (by omega) (by omega)
    have e3 : IntKind.wrap .u64 (8 * (i : Int)) = 8 * i := wrap_u64 (by omega) (by omega)
    have e5 : IntKind.wrap .i64 (l[a + i].toNat : Int) = l[a + i].toNat := wrap_i64 (by omega) (by omega)
    have e6 := shl_step (k := .i64) (x := l[a + i]) (show i < 8 by omega) (wrap_i64 (by omega) (by omega)) rfl
    have e7 : abin .or (.c (.i .i64 (le ((l.drop a).take i) : Nat))) (.c (.i .i64 ((l[a + i].toNat * 256 ^ i : Nat) : Int))) = some (.c (.i .i64 (le ((l.drop a).take (i + 1)) : Nat))) := by
      rw [or_i64 (by omega) (by omega), take_succ_get (by omega), ← or_step, hlen]
    have ea : aiAddrA 256 1 (.c (.p h.length 0)) (.c (.i .i64 ((a + i : Nat) : Int))) = some (.c (.p h.length (a + i))) := by rw [iAddrA_of (by omega)]; simp
    have h1' : (i : Int) < w := by omega
    rw [num_At_l0_eq]
    simp only [esc, h1', wi_add (show a + i < 9223372036854775808 by omega), e2, e3, ea, hx, e5, e6, e7, wi_succ (show i + 1 < 9223372036854775808 by omega)]
    exact ih

def atN (l : List UInt8) (a w : Int) : Nat := if w ≤ 4 ∧ thereI a w 256 = true then le ((l.drop a.toNat).take w.toNat) else 0

theorem num_At_eq {l : List UInt8} {h : Heap} (hl : l.length = 256) {a w : Int} :
    S_num_At [.a (encB l), .c (.i .i64 a), .c (.i .i64 w)] h = some (.c (.i .i64 (atN l a w)), h) := by
  refine S_num_At_flat (n := w.toNat + 1) (h2 := ro h ++ [some ⟨encB l, true⟩]) ?_ (by simp)
  rw [R_num_At_eq]
  unfold atN
  by_cases c1 : 4 < w
  · have c1' : ¬ w ≤ 4 := by omega
    simp [c1, c1']
  · have c1' : w ≤ 4 := by omega
    cases c2 : thereI a w 256 with
    | false => simp [c1, there_eq (show (256 : Int) < 9223372036854775808 by omega), c2]
    | true =>
      simp [c1, c1', there_eq (show (256 : Int) < 9223372036854775808 by omega), c2]
      rw [thereI_true] at c2
      have := num_At_loop (h := ro h) (a := a.toNat) (w := w.toNat) (k := w.toNat + 1) (by omega) (by omega) hl w.toNat 0 (w.toNat + 1) (by omega) (by omega)
      simp only [show ((a.toNat : Nat) : Int) = a by omega, show ((w.toNat : Nat) : Int) = w by omega] at this
      simpa [le] using this

theorem num_With_loop {l : List UInt8} {z : List Cell} {h : Heap} {a w k : Nat} {v : Int} (hw : w ≤ 4) (haw : a + w ≤ 256) (hl : l.length = 256) (hz : z.length = 256) : ∀ d i m, i + d = w → d < m →
    num_With_l0 k m (.c (.i .i64 a)) (.c (.i .i64 v)) (.c (.p h.length 0)) (.c (.p (h.length + 1) 0)) (.c (.i .i64 w)) (.c (.i .i64 i)) (h ++ [some ⟨encB (layB l a (bytesI i v)), true⟩, some ⟨z, true⟩]) =
      some (.a (encB (layB l a (bytesI w v))), h ++ [some ⟨encB (layB l a (bytesI w v)), true⟩, some ⟨encB (layB l a (bytesI w v)), true⟩])
  | d, i, 0, _, hm => by omega
  | 0, i, m + 1, hi, hm => by
    have e : i = w := by omega
    subst e
    have hle : (encB (layB l a (bytesI i v))).length = 256 := by rw [encB_length, layB_length (by simp; omega), hl]
    have s1 := loadAll (h := h ++ [some ⟨encB (layB l a (bytesI i v)), true⟩, some ⟨z, true⟩]) (id := h.length) (cs := encB (layB l a (bytesI i v))) (by simp) hle
    have s2 := storeAll (h := h ++ [some ⟨encB (layB l a (bytesI i v)), true⟩, some ⟨z, true⟩]) (id := h.length + 1) (cs := z) (xs := encB (layB l a (bytesI i v))) (by simp) hz hle
    have s3 := loadAll (h := h ++ [some ⟨encB (layB l a (bytesI i v)), true⟩, some ⟨encB (layB l a (bytesI i v)), true⟩]) (id := h.length + 1) (cs := encB (layB l a (bytesI i v))) (by simp) hle
    have h1' : ¬ (i : Int) < i := by omega
    rw [num_With_l0_eq]
    simp only [esc, h1', s1, s2, s3]
  | d + 1, i, m + 1, hi, hm => by
    have ih := num_With_loop (h := h) (k := k) (v := v) hw haw hl hz d (i + 1) m (by omega) (by omega)
    have e2 : IntKind.wrap .i64 (8 * (i : Int)) = 8 * i := wrap_i64 (by omega) (by omega)
    have e3 : IntKind.wrap .u64 (8 * (i : Int)) = 8 * i := wrap_u64 (by omega) (by omega)
    have e4 : abin .shr (.c (.i .i64 v)) (.c (.i .u64 (8 * (i : Int)))) = some (.c (.i .i64 (v / 2 ^ (Nat.min (8 * (i : Int)).toNat 64)))) := abin_shr (by omega)
    have ea : aiAddrA 256 1 (.c (.p h.length 0)) (.c (.i .i64 ((a + i : Nat) : Int))) = some (.c (.p h.length (a + i))) := by rw [iAddrA_of (by omega)]; simp
    have hst := store1_of (h := h ++ [some ⟨encB (layB l a (bytesI i v)), true⟩, some ⟨z, true⟩]) (id := h.length) (off := a + i) (cs := encB (layB l a (bytesI i v))) (x := .i .u8 (byI v i).toNat) (by simp)
      (by rw [encB_length, layB_length (by simp; omega)]; omega)
    have e5 : (layB l a (bytesI i v)).set (a + i) (byI v i) = layB l a (bytesI (i + 1) v) := by
      rw [bytesI_succ]
      have := layB_snoc (l := l) (xs := bytesI i v) (a := a) (x := byI v i) (by simp; omega)
      simpa using this
    rw [encB_set, e5] at hst
    have h1' : (i : Int) < w := by omega
    rw [num_With_l0_eq]
    simp only [esc, h1', wi_add (show a + i < 9223372036854775808 by omega), e2, e3, e4, byte_step (v := v) (show i < 8 by omega), ea, hst, wi_succ (show i + 1 < 9223372036854775808 by omega)]
    exact ih

def withB (l : List UInt8) (a w v : Int) : List UInt8 := if w ≤ 4 ∧ thereI a w 256 = true then layB l a.toNat (bytesI w.toNat v) else l

theorem num_With_run {l : List UInt8} {g : Heap} (hl : l.length = 256) {a w v : Int} :
    ∃ g', R_num_With (w.toNat + 1) [.a (encB l), .c (.i .i64 a), .c (.i .i64 w), .c (.i .i64 v)] g = some (.a (encB (withB l a w v)), g') := by
  have hle : (encB l).length = 256 := by rw [encB_length, hl]
  have hz : (List.replicate 256 (Cell.i .u8 0)).length = 256 := List.length_replicate
  rw [R_num_With_eq]
  generalize List.replicate 256 (Cell.i .u8 0) = z at *
  have s1 := loadAll (h := g ++ [some ⟨encB l, true⟩, some ⟨z, true⟩]) (id := g.length) (cs := encB l) (n := 256) (by simp) hle
  have s2 := storeAll (h := g ++ [some ⟨encB l, true⟩, some ⟨z, true⟩]) (id := g.length + 1) (cs := z) (xs := encB l) (by simp) hz hle
  have s3 := loadAll (h := g ++ [some ⟨encB l, true⟩, some ⟨encB l, true⟩]) (id := g.length + 1) (cs := encB l) (n := 256) (by simp) hle
  unfold withB
  by_cases c1 : 4 < w
  · rw [if_neg (by omega)]
    exact ⟨_, by simp only [esc, c1, s1, s2, s3]; rfl⟩
  · have c1' : w ≤ 4 := by omega
    cases c2 : thereI a w 256 with
    | false =>
      rw [if_neg (by simp)]
      exact ⟨_, by simp only [esc, c1, there_eq (show (256 : Int) < 9223372036854775808 by omega), c2, s1, s2, s3]; rfl⟩
    | true =>
      rw [if_pos ⟨c1', rfl⟩]
      have c3 := thereI_true.1 c2
      have := num_With_loop (h := g) (a := a.toNat) (w := w.toNat) (k := w.toNat + 1) (v := v) (z := z) (by omega) (by omega) hl hz w.toNat 0 (w.toNat + 1) (by omega) (by omega)
      simp only [show ((a.toNat : Nat) : Int) = a by omega, show ((w.toNat : Nat) : Int) = w by omega, show bytesI 0 v = [] from rfl, layB_nil] at this
      exact ⟨_, by simp only [esc, c1, there_eq (show (256 : Int) < 9223372036854775808 by omega), c2]; exact this⟩

theorem num_With_eq {l : List UInt8} {h : Heap} (hl : l.length = 256) {a w v : Int} :
    S_num_With [.a (encB l), .c (.i .i64 a), .c (.i .i64 w), .c (.i .i64 v)] h = some (.a (encB (withB l a w v)), h) := by
  obtain ⟨g, e⟩ := num_With_run (g := ro h) hl (a := a) (w := w) (v := v)
  exact S_num_With_flat e (by simp)

theorem num_Cut_loop {l : List UInt8} {h : Heap} {b id a n k : Nat} (haw : a + n ≤ 256) (hl : l.length = 256) : ∀ d i m, i + d = n → d < m →
    num_Cut_l0 k m (.c (.i .i64 a)) (.c (.p h.length 0)) (.c (.sl (h.length + 2) 0 n 1)) (.c (.i .i64 n)) (.c (.i .i64 i)) (h ++ [some ⟨encB l, true⟩, some ⟨[], true⟩, some ⟨encB ((l.drop a).take i ++ zeros (n - i)), true⟩]) =
      some (.c (.sl (h.length + 2) 0 n 1), h ++ [some ⟨encB l, true⟩, some ⟨[], true⟩, some ⟨encB ((l.drop a).take n), true⟩])
  | d, i, 0, _, hm => by omega
  | 0, i, m + 1, hi, hm => by
    have e : i = n := by omega
    subst e
    have h1' : ¬ (i : Int) < i := by omega
    rw [num_Cut_l0_eq]
    simp only [esc, h1']
    simp [zeros]
  | d + 1, i, m + 1, hi, hm => by
    have ih := num_Cut_loop (h := h) (b := b) (id := id) (k := k) haw hl d (i + 1) m (by omega) (by omega)
    have ea : aiAddrA 256 1 (.c (.p h.length 0)) (.c (.i .i64 ((a + i : Nat) : Int))) = some (.c (.p h.length (a + i))) := by rw [iAddrA_of (by omega)]; simp
    have eb : aiAddrL 1 (.c (.sl (h.length + 2) 0 n 1)) (.c (.i .i64 (i : Int))) = some (.c (.p (h.length + 2) i)) := by rw [iAddrL_of (by omega)]; simp
    have hx := load1_of (h := h ++ [some ⟨encB l, true⟩, some ⟨[], true⟩, some ⟨encB ((l.drop a).take i ++ zeros (n - i)), true⟩]) (id := h.length) (off := a + i) (c := .i .u8 l[a + i].toNat) (cs := encB l) (rw := true) (by simp) (by rw [encB_get, List.getElem?_eq_getElem (by omega)]; rfl) rfl
    have hst := store1_of (h := h ++ [some ⟨encB l, true⟩, some ⟨[], true⟩, some ⟨encB ((l.drop a).take i ++ zeros (n - i)), true⟩]) (id := h.length + 2) (off := i) (cs := encB ((l.drop a).take i ++ zeros (n - i))) (x := .i .u8 l[a + i].toNat) (by simp)
      (by rw [encB_length]; simp; omega)
    have e5 : ((l.drop a).take i ++ zeros (n - i)).set i l[a + i] = (l.drop a).take (i + 1) ++ zeros (n - (i + 1)) := by
      have hlen : ((l.drop a).take i).length = i := by simp; omega
      rw [List.set_append_right _ _ (by omega), hlen, Nat.sub_self, take_succ_get (by omega), List.append_assoc]
      refine congrArg ((l.drop a).take i ++ ·) ?_
      have : n - i = n - (i + 1) + 1 := by omega
      rw [this]
      unfold zeros
      rw [List.replicate_succ, List.set_cons_zero]; rfl
    rw [encB_set, e5] at hst
    have h1' : (i : Int) < n := by omega
    rw [num_Cut_l0_eq]
    simp only [esc, h1', wi_add (show a + i < 9223372036854775808 by omega), ea, hx, eb, hst, wi_succ (show i + 1 < 9223372036854775808 by omega)]
    exact ih

def cutB (l : List UInt8) (a n : Int) : List UInt8 := if 0 ≤ a then (l.drop a.toNat).take n.toNat else []

theorem rows_zero (n : Nat) : rows [Cell.i .u8 0] n = encB (zeros n) := by
  unfold rows zeros
  induction n with
  | zero => rfl
  | succ n ih => rw [List.replicate_succ, List.flatten_cons, ih, List.replicate_succ]; rfl

theorem num_Cut_run {l : List UInt8} {g : Heap} (hl : l.length = 256) {a n : Int} :
    ∃ v g', R_num_Cut ((min n (256 - a)).toNat + 1) [.a (encB l), .c (.i .i64 a), .c (.i .i64 n)] g = some (v, g') ∧ Out g.length g' v 1 (cutB l a n).length (encB (cutB l a n)) := by
  have hle : (encB l).length = 256 := by rw [encB_length, hl]
  rw [R_num_Cut_eq]
  unfold cutB
  by_cases c1 : a < 0
  · rw [if_neg (by omega)]
    exact ⟨_, _, by simp only [esc, c1]; rfl, by simp [encB_length], _, rfl, by simp, by simp; rfl⟩
  · rw [if_pos (by omega)]
    by_cases c2 : 256 ≤ a
    · have e : l.drop a.toNat = [] := List.drop_of_length_le (by omega)
      rw [e, List.take_nil]
      exact ⟨_, _, by simp only [esc, c1, c2]; rfl, by simp [encB_length], _, rfl, by simp, by simp; rfl⟩
    · by_cases c3 : n < 1
      · have e : n.toNat = 0 := by omega
        rw [e]
        exact ⟨_, _, by simp only [esc, c1, c2, c3]; rfl, by simp [encB_length], _, rfl, by simp, by simp; rfl⟩
      · have e1 : IntKind.wrap .i64 (256 - a) = 256 - a := wrap_i64 (by omega) (by omega)
        have e2 : amin (.c (.i .i64 n)) (.c (.i .i64 (256 - a))) = some (.c (.i .i64 ((min n (256 - a)).toNat : Nat))) := by
          simp only [amin]
          congr 3
          by_cases h : 256 - a < n
          · rw [if_pos h]; omega
          · rw [if_neg h]; omega
        generalize hN : (min n (256 - a)).toNat = N at *
        have e3 : amkn (.c (.i .i64 (N : Int))) (.c (.i .i64 (N : Int))) = some N := by
          have : nat? (.c (.i .i64 (N : Int))) = some N := by simp only [nat?]; rw [if_pos (by omega)]; simp
          simp [amkn, this]
        have e4 : (l.drop a.toNat).take n.toNat = (l.drop a.toNat).take N := by
          by_cases h : 256 - a < n
          · rw [List.take_of_length_le (by simp; omega), List.take_of_length_le (by simp; omega)]
          · have : n.toNat = N := by omega
            rw [this]
        have e5 : ((l.drop a.toNat).take N).length = N := by simp; omega
        rw [e4, e5]
        have := num_Cut_loop (h := g) (b := 0) (id := 0) (a := a.toNat) (n := N) (k := N + 1) (by omega) hl N 0 (N + 1) (by omega) (by omega)
        simp only [show ((a.toNat : Nat) : Int) = a by omega, List.take_zero, List.nil_append, Nat.sub_zero] at this
        exact ⟨_, _, by simp only [esc, c1, c2, c3, e1, e2, e3, rows_zero]; exact this, by simp [encB_length, e5], _, rfl, by omega, by simp⟩

theorem num_Cut_eq {l : List UInt8} {h : Heap} (hl : l.length = 256) {a n : Int} :
    S_num_Cut [.a (encB l), .c (.i .i64 a), .c (.i .i64 n)] h = some (.c (.sl h.length 0 (cutB l a n).length 1), h ++ [some ⟨encB (cutB l a n), true⟩]) := by
  obtain ⟨v, g, e, ho⟩ := num_Cut_run (g := ro h) hl (a := a) (n := n)
  exact S_num_Cut_out e (by simpa [ro_length] using ho) (by simp)

theorem num_Lay_loop {v : Val} {nv : Nat} {data l : List UInt8} {z : List Cell} {h : Heap} (hv : Has h v 1 nv (encB data)) {a k : Nat} (ha : a < 256) (hl : l.length = 256) (hz : z.length = 256) (hd : data.length < 9223372036854775808) : ∀ d i m, i + d = data.length → d < m → i ≤ 256 - a →
    num_Lay_l0 k m (.c (.i .i64 a)) (.c (.p h.length 0)) (.c (.p (h.length + 1) 0)) v (.c (.i .i64 data.length)) (.c (.i .i64 i)) (h ++ [some ⟨encB (layB l a (data.take i)), true⟩, some ⟨z, true⟩]) =
      some (.a (encB (layB l a (data.take (256 - a)))), h ++ [some ⟨encB (layB l a (data.take (256 - a))), true⟩, some ⟨encB (layB l a (data.take (256 - a))), true⟩])
  | d, i, 0, _, hm, _ => by omega
  | d, i, m + 1, hi, hm, hia => by
    have hll : ∀ i, i ≤ 256 - a → (encB (layB l a (data.take i))).length = 256 := fun i hi => by rw [encB_length, layB_length (by simp; omega), hl]
    have fin : data.take i = data.take (256 - a) → num_Lay_j0 k (.c (.p h.length 0)) (.c (.p (h.length + 1) 0)) (h ++ [some ⟨encB (layB l a (data.take i)), true⟩, some ⟨z, true⟩]) =
      some (.a (encB (layB l a (data.take (256 - a)))), h ++ [some ⟨encB (layB l a (data.take (256 - a))), true⟩, some ⟨encB (layB l a (data.take (256 - a))), true⟩]) := fun e => by
      rw [e]
      have hle := hll (256 - a) (Nat.le_refl _)
      have s1 := loadAll (h := h ++ [some ⟨encB (layB l a (data.take (256 - a))), true⟩, some ⟨z, true⟩]) (id := h.length) (cs := encB (layB l a (data.take (256 - a)))) (by simp) hle
      have s2 := storeAll (h := h ++ [some ⟨encB (layB l a (data.take (256 - a))), true⟩, some ⟨z, true⟩]) (id := h.length + 1) (cs := z) (xs := encB (layB l a (data.take (256 - a)))) (by simp) hz hle
      have s3 := loadAll (h := h ++ [some ⟨encB (layB l a (data.take (256 - a))), true⟩, some ⟨encB (layB l a (data.take (256 - a))), true⟩]) (id := h.length + 1) (cs := encB (layB l a (data.take (256 - a)))) (by simp) hle
      rw [num_Lay_j0_eq]
      simp only [esc, s1, s2, s3]
    rw [num_Lay_l0_eq]
    by_cases c1 : i < data.length
    · obtain ⟨d, rfl⟩ : ∃ e, d = e + 1 := ⟨d - 1, by omega⟩
      have hnv : data.length = nv := by simpa [encB_length] using hv.length
      obtain ⟨id, off, rfl, hid, h1, h2⟩ := (hv.more [some ⟨encB (layB l a (data.take i)), true⟩, some ⟨z, true⟩]).sl (by omega)
      have hx := h1 i (.i .u8 data[i].toNat) (by rw [encB_get, List.getElem?_eq_getElem (by omega)]; rfl)
      have eb : aiAddrL 1 (.c (.sl id off nv 1)) (.c (.i .i64 (i : Int))) = some (.c (.p id (off + i))) := by rw [iAddrL_of (by omega)]; simp
      have e1 : IntKind.wrap .i64 (256 - (a : Int)) = 256 - a := wrap_i64 (by omega) (by omega)
      have c1' : (i : Int) < data.length := by omega
      by_cases c2 : 256 - a ≤ i
      · have c2' : (256 : Int) - a ≤ i := by omega
        simp only [esc, c1', eb, hx, e1, c2']
        exact fin (by rw [show i = 256 - a by omega])
      · have c2' : ¬ (256 : Int) - a ≤ i := by omega
        have ih := num_Lay_loop hv (l := l) (z := z) (k := k) ha hl hz hd d (i + 1) m (by omega) (by omega) (by omega)
        have ea : aiAddrA 256 1 (.c (.p h.length 0)) (.c (.i .i64 ((a + i : Nat) : Int))) = some (.c (.p h.length (a + i))) := by rw [iAddrA_of (by omega)]; simp
        have hst := store1_of (h := h ++ [some ⟨encB (layB l a (data.take i)), true⟩, some ⟨z, true⟩]) (id := h.length) (off := a + i) (cs := encB (layB l a (data.take i))) (x := .i .u8 data[i].toNat) (by simp)
          (by rw [hll i hia]; omega)
        have e5 : (layB l a (data.take i)).set (a + i) data[i] = layB l a (data.take (i + 1)) := by
          have := layB_snoc (l := l) (xs := data.take i) (a := a) (x := data[i]) (by simp; omega)
          rw [List.length_take, Nat.min_eq_left (by omega)] at this
          rw [this, List.take_succ_eq_append_getElem c1]
        rw [encB_set, e5] at hst
        simp only [esc, c1', eb, hx, e1, c2', wi_add (show a + i < 9223372036854775808 by omega), ea, hst, wi_succ (show i + 1 < 9223372036854775808 by omega)]
        exact ih
    · have c1' : ¬ (i : Int) < data.length := by omega
      simp only [esc, c1']
      exact fin (by rw [List.take_of_length_le (by omega), List.take_of_length_le (by omega)])

def layI (l : List UInt8) (a : Int) (data : List UInt8) : List UInt8 := if 0 ≤ a ∧ a < 256 then layB l a.toNat (data.take (256 - a.toNat)) else l

theorem layI_length {l : List UInt8} {a : Int} {data : List UInt8} (hl : l.length = 256) : (layI l a data).length = 256 := by
  unfold layI
  split
  · rw [layB_length (by simp; omega), hl]
  · exact hl

theorem num_Lay_run {v : Val} {nv : Nat} {data l : List UInt8} {g : Heap} (hv : Has g v 1 nv (encB data)) (hl : l.length = 256) (hd : data.length < 9223372036854775808) {a : Int} :
    ∃ g', R_num_Lay (data.length + 1) [.a (encB l), .c (.i .i64 a), v] g = some (.a (encB (layI l a data)), g') := by
  have hle : (encB l).length = 256 := by rw [encB_length, hl]
  have hz : (List.replicate 256 (Cell.i .u8 0)).length = 256 := List.length_replicate
  have hnv : data.length = nv := by simpa [encB_length] using hv.length
  rw [R_num_Lay_eq]
  generalize List.replicate 256 (Cell.i .u8 0) = z at *
  have s1 := loadAll (h := g ++ [some ⟨encB l, true⟩, some ⟨z, true⟩]) (id := g.length) (cs := encB l) (n := 256) (by simp) hle
  have s2 := storeAll (h := g ++ [some ⟨encB l, true⟩, some ⟨z, true⟩]) (id := g.length + 1) (cs := z) (xs := encB l) (by simp) hz hle
  have s3 := loadAll (h := g ++ [some ⟨encB l, true⟩, some ⟨encB l, true⟩]) (id := g.length + 1) (cs := encB l) (n := 256) (by simp) hle
  unfold layI
  by_cases c1 : a < 0
  · rw [if_neg (by omega)]
    exact ⟨_, by simp only [esc, c1, s1, s2, s3]; rfl⟩
  · by_cases c2 : 256 ≤ a
    · rw [if_neg (by omega)]
      exact ⟨_, by simp only [esc, c1, c2, s1, s2, s3]; rfl⟩
    · rw [if_pos (by omega)]
      have := num_Lay_loop hv (l := l) (a := a.toNat) (k := data.length + 1) (z := z) (by omega) hl hz hd data.length 0 (data.length + 1) (by omega) (by omega) (by omega)
      simp only [show ((a.toNat : Nat) : Int) = a by omega, List.take_zero, layB_nil] at this
      exact ⟨_, by simp only [esc, c1, c2, hv.len, ← hnv]; exact this⟩

theorem num_Lay_eq {v : Val} {nv : Nat} {data l : List UInt8} {h : Heap} (hv : Has h v 1 nv (encB data)) (hl : l.length = 256) (hd : data.length < 9223372036854775808) {a : Int} :
    S_num_Lay [.a (encB l), .c (.i .i64 a), v] h = some (.a (encB (layI l a data)), h) := by
  obtain ⟨g, e⟩ := num_Lay_run hv.ro hl hd (a := a)
  exact S_num_Lay_flat e (by simp)

theorem num_Of_eq {v : Val} {nv : Nat} {data : List UInt8} {h : Heap} (hv : Has h v 1 nv (encB data)) (hd : data.length < 9223372036854775808) :
    S_num_Of [v] h = some (.a (encB (layI (zeros 256) 0 data)), h) := by
  have key : ∀ g, Has g v 1 nv (encB data) → ∃ g', R_num_Of 0 [v] g = some (.a (encB (layI (zeros 256) 0 data)), g') := by
    intro g hv
    rw [R_num_Of_eq]
    have hz : (encB (zeros 256)).length = 256 := by rw [encB_length]; exact zeros_length
    have hz0 : (zeros 256).length = 256 := zeros_length
    rw [zeros_enc]
    generalize zeros 256 = Z at *
    have e := num_Lay_eq (hv.more [some ⟨encB Z, true⟩]) hz0 hd (a := 0)
    have hl2 : (encB (layI Z 0 data)).length = 256 := by rw [encB_length, layI_length hz0]
    have s2 := storeAll (h := g ++ [some ⟨encB Z, true⟩]) (id := g.length) (cs := encB Z) (xs := encB (layI Z 0 data)) (by simp) hz hl2
    have s3 := loadAll (h := g ++ [some ⟨encB (layI Z 0 data), true⟩]) (id := g.length) (cs := encB (layI Z 0 data)) (n := 256) (by simp) hl2
    exact ⟨_, by simp only [esc, afill, e, s2, s3]; rfl⟩
  obtain ⟨g, e⟩ := key _ hv.ro
  exact S_num_Of_flat e (by simp)

end Go.Proofs.Ytdgggnlbdoiloaa
end
section
namespace Go.Proofs.Ytdgggnlbdoiloaa
open Go Go.Esc

theorem num_Get_loop {v : Val} {nv : Nat} {l : List UInt8} {h : Heap} (hv : Has h v 1 nv (encB l)) {a w k : Nat} (hw : w ≤ 8) (haw : a + w ≤ l.length) (hl : l.length < 9223372036854775808) : ∀ d i m, i + d = w → d < m →
    num_Get_l0 k m v (.c (.i .i64 a)) (.c (.i .u64 (le ((l.drop a).take i)))) (.c (.i .i64 w)) (.c (.i .i64 i)) h = some (.t [.c (.i .u64 (le ((l.drop a).take w))), .c (.b true)], h)
  | d, i, 0, _, hm => by omega
  | 0, i, m + 1, hi, hm => by
    have e : i = w := by omega
    subst e
    rw [num_Get_l0_eq]
    simp
  | d + 1, i, m + 1, hi, hm => by
    have ih := num_Get_loop hv (k := k) hw haw hl d (i + 1) m (by omega) (by omega)
    have hnv : l.length = nv := by simpa [encB_length] using hv.length
    obtain ⟨id, off, rfl, hid, h1, h2⟩ := hv.sl (by omega)
    have hx := h1 (a + i) (.i .u8 l[a + i].toNat) (by rw [encB_get, List.getElem?_eq_getElem (by omega)]; rfl)
    have hb := l[a + i].toNat_lt
    have hlen : ((l.drop a).take i).length = i := by simp; omega
    have hle := le_lt ((l.drop a).take i)
    rw [hlen] at hle
    have hp := pow256_le (show i ≤ 8 by omega)
    have hbp := byte_pow_lt (x := l[a + i]) (show i < 8 by omega)
    have e2 : IntKind.wrap .i64 (8 * (i : Int)) = 8 * i := wrap_i64 (by omega) (by omega)
    have e3 : IntKind.wrap .u64 (8 * (i : Int)) = 8 * i := wrap_u64 (by omega) (by omega)
    have e5 : IntKind.wrap .u64 (l[a + i].toNat : Int) = l[a + i].toNat := wrap_u64 (by omega) (by omega)
    have e6 := shl_step (k := .u64) (x := l[a + i]) (show i < 8 by omega) (wrap_u64 (by omega) (by omega)) rfl
    have e7 : abin .or (.c (.i .u64 (le ((l.drop a).take i) : Nat))) (.c (.i .u64 ((l[a + i].toNat * 256 ^ i : Nat) : Int))) = some (.c (.i .u64 (le ((l.drop a).take (i + 1)) : Nat))) := by
      rw [or_u64 (by omega) (by omega), take_succ_get (by omega), ← or_step, hlen]
    have ea : aiAddrL 1 (.c (.sl id off nv 1)) (.c (.i .i64 ((a + i : Nat) : Int))) = some (.c (.p id (off + (a + i)))) := by rw [iAddrL_of (by omega)]; simp
    have h1' : (i : Int) < w := by omega
    rw [num_Get_l0_eq]
    simp only [esc, h1', wi_add (show a + i < 9223372036854775808 by omega), e2, e3, ea, hx, e5, e6, e7, wi_succ (show i + 1 < 9223372036854775808 by omega)]
    exact ih


theorem num_Get_eq {v : Val} {nv : Nat} {l : List UInt8} {h : Heap} (hv : Has h v 1 nv (encB l)) {a w : Int} (hl : l.length < 9223372036854775808) :
    S_num_Get [v, .c (.i .i64 a), .c (.i .i64 w)] h = some (.t [.c (.i .u64 ((getN l a w).getD 0 : Nat)), .c (.b (getN l a w).isSome)], h) := by
  refine S_num_Get_flat (n := w.toNat + 1) (h2 := ro h) ?_ (by simp)
  rw [R_num_Get_eq]
  have hv' := hv.ro
  have hnv : l.length = nv := by simpa [encB_length] using hv.length
  unfold getN
  by_cases c1 : 8 < w
  · have c1' : ¬ w ≤ 8 := by omega
    simp [c1, c1']
  · have c1' : w ≤ 8 := by omega
    cases c2 : thereI a w l.length with
    | false => simp [c1, hv'.len, ← hnv, there_eq (show (l.length : Int) < 9223372036854775808 by omega), c2]
    | true =>
      simp [c1, c1', hv'.len, ← hnv, there_eq (show (l.length : Int) < 9223372036854775808 by omega), c2]
      rw [thereI_true] at c2
      have := num_Get_loop hv' (a := a.toNat) (w := w.toNat) (k := w.toNat + 1) (by omega) (by omega) hl w.toNat 0 (w.toNat + 1) (by omega) (by omega)
      simp only [show ((a.toNat : Nat) : Int) = a by omega, show ((w.toNat : Nat) : Int) = w by omega] at this
      simpa [le] using this

theorem num_Put_loop {l : List UInt8} {b id a w k : Nat} {v : Int} (hw : w ≤ 8) (haw : a + w ≤ l.length) (hl : l.length < 9223372036854775808) : ∀ d i m (h : Heap), i + d = w → d < m → b ≤ id → b ≤ h.length → rd h id = some ⟨encB (layB l a (bytesI i v)), true⟩ →
    ∃ h', num_Put_l0 k m (.c (.i .i64 a)) (.c (.i .u64 v)) (.c (.sl id 0 l.length 1)) (.c (.i .i64 w)) (.c (.i .i64 i)) h = some (.t [.c (.sl id 0 l.length 1), .c (.b true)], h') ∧ rd h' id = some ⟨encB (layB l a (bytesI w v)), true⟩
  | d, i, 0, h, _, hm, _, _, _ => by omega
  | 0, i, m + 1, h, hi, hm, _, _, hr => by
    have e : i = w := by omega
    subst e
    have h1' : ¬ (i : Int) < i := by omega
    rw [num_Put_l0_eq]
    exact ⟨h, by simp only [esc, h1'], hr⟩
  | d + 1, i, m + 1, h, hi, hm, hb, hbl, hr => by
    have e2 : IntKind.wrap .i64 (8 * (i : Int)) = 8 * i := wrap_i64 (by omega) (by omega)
    have e3 : IntKind.wrap .u64 (8 * (i : Int)) = 8 * i := wrap_u64 (by omega) (by omega)
    have e4 : abin .shr (.c (.i .u64 v)) (.c (.i .u64 (8 * (i : Int)))) = some (.c (.i .u64 (v / 2 ^ (Nat.min (8 * (i : Int)).toNat 64)))) := abin_shr (by omega)
    have ea : aiAddrL 1 (.c (.sl id 0 l.length 1)) (.c (.i .i64 ((a + i : Nat) : Int))) = some (.c (.p id (a + i))) := by rw [iAddrL_of (by omega)]; simp
    have hst := store1_of (off := a + i) (x := .i .u8 (byI v i).toNat) hr (by rw [encB_length, layB_length (by simp; omega)]; omega)
    have e5 : (layB l a (bytesI i v)).set (a + i) (byI v i) = layB l a (bytesI (i + 1) v) := by
      rw [bytesI_succ]
      have := layB_snoc (l := l) (xs := bytesI i v) (a := a) (x := byI v i) (by simp; omega)
      simpa using this
    rw [encB_set, e5] at hst
    obtain ⟨h', ih, hr'⟩ := num_Put_loop (b := b) (k := k) (v := v) hw haw hl d (i + 1) m (h.set id (some ⟨encB (layB l a (bytesI (i + 1) v)), true⟩)) (by omega) (by omega) hb (by simpa using hbl) (rd_set_same (rd_lt hr))
    have h1' : (i : Int) < w := by omega
    rw [num_Put_l0_eq]
    exact ⟨h', by simp only [esc, h1', wi_add (show a + i < 9223372036854775808 by omega), e2, e3, e4, byte_step (v := v) (show i < 8 by omega), ea, hst, wi_succ (show i + 1 < 9223372036854775808 by omega)]; exact ih, hr'⟩

def putN (l : List UInt8) (a w v : Int) : Option (List UInt8) := if w ≤ 8 ∧ thereI a w l.length = true then some (layB l a.toNat (bytesI w.toNat v)) else none

theorem num_Put_eq {x : Val} {nv : Nat} {l : List UInt8} {h : Heap} (hv : Has h x 1 nv (encB l)) {a w v : Int} (hl : l.length ≤ 1073741824) :
    S_num_Put [x, .c (.i .i64 a), .c (.i .i64 w), .c (.i .u64 v)] h = some (.t [.c (.sl h.length 0 ((putN l a w v).getD []).length 1), .c (.b (putN l a w v).isSome)], h ++ [some ⟨encB ((putN l a w v).getD []), true⟩]) := by
  have hnv : l.length = nv := by simpa [encB_length] using hv.length
  have key : ∀ g, Has g x 1 nv (encB l) → ∃ id g', R_num_Put (w.toNat + 1) [x, .c (.i .i64 a), .c (.i .i64 w), .c (.i .u64 v)] g = some (.t [.c (.sl id 0 ((putN l a w v).getD []).length 1), .c (.b (putN l a w v).isSome)], g') ∧ g.length ≤ id ∧ rd g' id = some ⟨encB ((putN l a w v).getD []), true⟩ := by
    intro g hv
    rw [R_num_Put_eq]
    have hvm := hv.more [some ⟨[], true⟩]
    unfold putN
    by_cases c1 : 8 < w
    · rw [if_neg (by omega)]
      exact ⟨_, _, by simp only [esc, c1]; rfl, by simp, by simp; rfl⟩
    · cases c2 : thereI a w l.length with
      | false =>
        rw [if_neg (by simp)]
        exact ⟨_, _, by simp only [esc, c1, hvm.len, ← hnv, there_eq (show (l.length : Int) < 9223372036854775808 by omega), c2]; rfl, by simp, by simp; rfl⟩
      | true =>
        rw [if_pos ⟨by omega, rfl⟩]
        have c3 := thereI_true.1 c2
        have hvm2 := hv.more [some ⟨[], true⟩, some ⟨[], true⟩]
        have e1 : aapp (g ++ [some ⟨[], true⟩, some ⟨[], true⟩]) 1 (.c (.sl (g.length + 1) 0 0 1)) x = some (.c (.sl (g.length + 2) 0 l.length 1), g ++ [some ⟨[], true⟩, none, some ⟨encB l, true⟩]) := by
          simp [aapp, hvm2.add, encB_length]
          exact hl
        obtain ⟨g', e2, hr⟩ := num_Put_loop (l := l) (b := g.length) (id := g.length + 2) (a := a.toNat) (w := w.toNat) (k := w.toNat + 1) (v := v) (by omega) (by omega) (by omega) w.toNat 0 (w.toNat + 1) (g ++ [some ⟨[], true⟩, none, some ⟨encB l, true⟩]) (by omega) (by omega) (by omega) (by simp) (by simp [bytesI, layB_nil])
        simp only [show ((a.toNat : Nat) : Int) = a by omega, show ((w.toNat : Nat) : Int) = w by omega] at e2
        have hlen : ((some (layB l a.toNat (bytesI w.toNat v))).getD []).length = l.length := by
          simp only [Option.getD_some]; rw [layB_length (by simp; omega)]
        rw [hlen]
        exact ⟨g.length + 2, g', by simp only [esc, c1, hvm.len, ← hnv, there_eq (show (l.length : Int) < 9223372036854775808 by omega), c2, afill, e1]; exact e2, by omega, hr⟩
  obtain ⟨id, g', e, hb, hr⟩ := key _ hv.ro
  have hb' : h.length ≤ id := by simpa [ro_length] using hb
  have := S_num_Put_tidy e (v2 := .t [.c (.sl h.length 0 ((putN l a w v).getD []).length 1), .c (.b (putN l a w v).isSome)]) (ids := [id]) (by
    have e2 : canonC g' h.length [id] [.b (putN l a w v).isSome] = some ([.b (putN l a w v).isSome], [id]) := canonC_flat (by simp)
    simp [canonV, canonP, canonC, hb', show ¬ id < h.length by omega, newRow_of hr (by simp : flats (encB ((putN l a w v).getD [])) = true)])
  rw [this]
  simp [hr]

end Go.Proofs.Ytdgggnlbdoiloaa
end
section
namespace Go.Proofs.Ytdgggnlbdoiloaa
open Go Go.Esc

def padB (n : Nat) (l : List UInt8) : List UInt8 := l ++ zeros (n - l.length)
theorem padB_length {n : Nat} {l : List UInt8} (h : l.length ≤ n) : (padB n l).length = n := by
  unfold padB; rw [List.length_append, zeros_length]; omega
theorem padB_nil {n : Nat} : padB n [] = zeros n := by simp [padB]

theorem padB_lay {l xs : List UInt8} {a : Nat} (h1 : l.length ≤ a) (h2 : a + xs.length ≤ 256) : layB (padB 256 l) a xs = padB 256 (l ++ zeros (a - l.length) ++ xs) := by
  unfold layB padB
  have e1 : (l ++ zeros (256 - l.length)).take a = l ++ zeros (a - l.length) := by
    rw [List.take_append, List.take_of_length_le h1]
    unfold zeros
    rw [List.take_replicate, Nat.min_eq_left (by omega)]
  have e2 : (l ++ zeros (256 - l.length)).drop (a + xs.length) = zeros (256 - (l ++ zeros (a - l.length) ++ xs).length) := by
    rw [List.drop_append, List.drop_of_length_le (by omega), List.nil_append]
    unfold zeros
    rw [List.drop_replicate]
    congr 1
    simp
    omega
  rw [e1, e2]
  simp only [List.append_assoc]

theorem withB_pad {l : List UInt8} {a w : Nat} {v : Int} (h1 : l.length ≤ a) (h2 : a + w ≤ 256) (hw : 1 ≤ w) (hw4 : w ≤ 4) : withB (padB 256 l) a w v = padB 256 (l ++ zeros (a - l.length) ++ bytesI w v) := by
  unfold withB
  rw [if_pos ⟨by omega, thereI_true.2 (by omega)⟩]
  simp only [Int.toNat_natCast]
  exact padB_lay h1 (by simp; exact h2)

def fieldN (b : List UInt8) (a w : Nat) : Int := ((le ((b.drop a).take w) : Nat) : Int)
theorem of_pad {b : List UInt8} (hb : b.length ≤ 256) : layI (zeros 256) 0 b = padB 256 b := by
  unfold layI layB padB
  rw [if_pos (by omega)]
  simp only [Int.toNat_zero, List.take_zero, List.nil_append, Nat.sub_zero, Nat.zero_add]
  rw [List.take_of_length_le hb]
  unfold zeros
  rw [List.drop_replicate]

end Go.Proofs.Ytdgggnlbdoiloaa
end
section
namespace Go.Proofs.Ytdgggnlbdoiloaa
open Go Go.Esc
set_option maxRecDepth 100000
def mix_More_o0 : List AOper := [{ dst := some 4, op := .mv (.v (.c (.i .u32 0))) }]
def mix_More_c0 : ACode := .ops mix_More_o0
def mix_More_o1 : List AOper := [{ dst := some 6, op := .mv (.t 1) }, { dst := some 7, op := .lenS (.t 6) }, { dst := some 8, op := .mv (.v (.c (.i .i64 0))) }]
def mix_More_c1 : ACode := .ops mix_More_o1
def mix_More_o2 : List AOper := [{ dst := some 9, op := .bin .lss (.t 8) (.t 7) }]
def mix_More_c2 : ACode := .ops mix_More_o2
def mix_More_c3 : ACode := .cond (.t 9) .skip (.exit 0)
def mix_More_o3 : List AOper := [{ dst := some 10, op := .mv (.t 8) }, { dst := some 5, op := .mv (.t 10) }]
def mix_More_c4 : ACode := .ops mix_More_o3
def mix_More_o4 : List AOper := [{ dst := some 11, op := .mv (.t 0) }, { dst := some 12, op := .mv (.t 1) }, { dst := some 13, op := .mv (.t 5) }, { dst := some 14, op := .idxS (.t 12) (.t 13) }, { dst := some 15, op := .conv .u32 (.t 14) }, { dst := some 16, op := .bin .xor (.t 11) (.t 15) }, { dst := some 17, op := .bin .mul (.t 16) (.v (.c (.i .u32 16777619))) }, { dst := some 0, op := .mv (.t 17) }]
def mix_More_c5 : ACode := .ops mix_More_o4
def mix_More_c6 : ACode := .seq [0, 1, 5, 7, 8] mix_More_c4 mix_More_c5
def mix_More_c7 : ACode := .block 1 mix_More_c6
def mix_More_o5 : List AOper := [{ dst := some 18, op := .bin .add (.t 8) (.v (.c (.i .i64 1))) }, { dst := some 8, op := .mv (.t 18) }]
def mix_More_c8 : ACode := .ops mix_More_o5
def mix_More_c9 : ACode := .seq [0, 1, 7, 8] mix_More_c7 mix_More_c8
def mix_More_c10 : ACode := .seq [0, 1, 7, 8] mix_More_c3 mix_More_c9
def mix_More_c11 : ACode := .seq [0, 1, 7, 8, 9] mix_More_c2 mix_More_c10
def mix_More_c12 : ACode := .loop [0, 1, 7, 8] mix_More_c11
def mix_More_c13 : ACode := .block 0 mix_More_c12
def mix_More_c14 : ACode := .seq [0, 1, 7, 8] mix_More_c1 mix_More_c13
def mix_More_o6 : List AOper := [{ dst := some 19, op := .mv (.t 0) }, { dst := some 4, op := .mv (.t 19) }]
def mix_More_c15 : ACode := .ops mix_More_o6
def mix_More_c16 : ACode := .seq [4] mix_More_c15 .ret
def mix_More_c17 : ACode := .seq [0] mix_More_c14 mix_More_c16
def mix_More_c18 : ACode := .seq [0, 1] mix_More_c0 mix_More_c17
def A_mix_More : AFn := ⟨mix_More_c18, [.tmp 4]⟩
noncomputable def E_mix_More : Sums := disp0
noncomputable def mix_More_c0_d (n : Nat) : SmV := smOps E_mix_More mix_More_o0
noncomputable def mix_More_c1_d (n : Nat) : SmV := smOps E_mix_More mix_More_o1
noncomputable def mix_More_c2_d (n : Nat) : SmV := smOps E_mix_More mix_More_o2
noncomputable def mix_More_c3_d (n : Nat) : SmV := smCond (.t 9) smSkip (smExit 0)
noncomputable def mix_More_c4_d (n : Nat) : SmV := smOps E_mix_More mix_More_o3
noncomputable def mix_More_c5_d (n : Nat) : SmV := smOps E_mix_More mix_More_o4
noncomputable def mix_More_c6_d (n : Nat) : SmV := smSeq [0, 1, 5, 7, 8] (mix_More_c4_d n) (mix_More_c5_d n)
noncomputable def mix_More_c7_d (n : Nat) : SmV := smBlock 1 (mix_More_c6_d n)
noncomputable def mix_More_c8_d (n : Nat) : SmV := smOps E_mix_More mix_More_o5
noncomputable def mix_More_c9_d (n : Nat) : SmV := smSeq [0, 1, 7, 8] (mix_More_c7_d n) (mix_More_c8_d n)
noncomputable def mix_More_c10_d (n : Nat) : SmV := smSeq [0, 1, 7, 8] (mix_More_c3_d n) (mix_More_c9_d n)
noncomputable def mix_More_c11_d (n : Nat) : SmV := smSeq [0, 1, 7, 8, 9] (mix_More_c2_d n) (mix_More_c10_d n)
noncomputable def mix_More_c12_d (n : Nat) : SmV := smLoop n [0, 1, 7, 8] (mix_More_c11_d n)
noncomputable def mix_More_c13_d (n : Nat) : SmV := smBlock 0 (mix_More_c12_d n)
noncomputable def mix_More_c14_d (n : Nat) : SmV := smSeq [0, 1, 7, 8] (mix_More_c1_d n) (mix_More_c13_d n)
noncomputable def mix_More_c15_d (n : Nat) : SmV := smOps E_mix_More mix_More_o6
noncomputable def mix_More_c16_d (n : Nat) : SmV := smSeq [4] (mix_More_c15_d n) smRet
noncomputable def mix_More_c17_d (n : Nat) : SmV := smSeq [0] (mix_More_c14_d n) (mix_More_c16_d n)
noncomputable def mix_More_c18_d (n : Nat) : SmV := smSeq [0, 1] (mix_More_c0_d n) (mix_More_c17_d n)
noncomputable def mix_More_k0 (n : Nat) : AExit → Env → Heap → OptV := fun x e h => match x with | .normal => hold ((mix_More_c16_d n) A_mix_More.fin (e.keep [0]) h) | .exit id => A_mix_More.fin (.exit id) e h | .ret => A_mix_More.fin .ret e h
noncomputable def mix_More_k1 (n : Nat) : AExit → Env → Heap → OptV := fun x e h => match x with | .exit i => bif Nat.beq i 0 then (mix_More_k0 n) .normal e h else (mix_More_k0 n) (.exit i) e h | .normal => (mix_More_k0 n) .normal e h | .ret => (mix_More_k0 n) .ret e h
noncomputable def mix_More_l0 (n m : Nat) (x0 x1 x7 x8 : Val) (h : Heap) : OptV := around (mix_More_c11_d n) [0, 1, 7, 8] (mix_More_k1 n) m [(0, x0), (1, x1), (7, x7), (8, x8)] h
noncomputable def R_mix_More (n : Nat) (args : List Val) (h : Heap) : OptV := (mix_More_c18_d n) A_mix_More.fin (params 0 args) h
theorem R_mix_More_eq (n : Nat) (a0 a1 : Val) (h : Heap) : R_mix_More n [a0, a1] h = bnd (alenS a1) fun v1 => mix_More_l0 n n a0 a1 v1 (.c (.i .i64 0)) h := by kernel_rfl
theorem mix_More_l0_eq (n m : Nat) (x0 x1 x7 x8 : Val) (h : Heap) : mix_More_l0 n (m + 1) x0 x1 x7 x8 h = bnd (abin .lss x8 x7) fun v2 => cnd v2 (bnd (aidxS x1 x8) fun v3 => bnd (aconv .u32 v3) fun v4 => bnd (abin .xor x0 v4) fun v5 => bnd (abin .mul v5 (.c (.i .u32 16777619))) fun v6 => bnd (abin .add x8 (.c (.i .i64 1))) fun v7 => mix_More_l0 n m v6 x1 x7 v7 h) (some (x0, h)) := by kernel_rfl
theorem K_mix_More : FnK Try.prog 132 A_mix_More E_mix_More R_mix_More := .mk' (sound0) Try.func132 (by kernel_rfl) (by intro n args h; kernel_rfl)
noncomputable def S_mix_More : Fun := tidy (Lim A_mix_More E_mix_More)
theorem S_mix_More_ok : SOk Try.prog 132 S_mix_More := K_mix_More.sok
theorem S_mix_More_flat {n : Nat} {args : List Val} {h h2 : Heap} {v : Val} (he : R_mix_More n args (ro h) = some (v, h2)) (hf : v.flat = true) : S_mix_More args h = some (v, h) := K_mix_More.flat he hf
def mix_Of_o0 : List AOper := [{ dst := some 2, op := .mv (.v (.c (.i .u32 0))) }]
def mix_Of_c0 : ACode := .ops mix_Of_o0
def mix_Of_o1 : List AOper := [{ dst := some 3, op := .mv (.t 0) }, { dst := some 4, op := .call 132 [(.v (.c (.i .u32 2166136261))), (.t 3)] }, { dst := some 2, op := .mv (.t 4) }]
def mix_Of_c1 : ACode := .ops mix_Of_o1
def mix_Of_c2 : ACode := .seq [2] mix_Of_c1 .ret
def mix_Of_c3 : ACode := .seq [0] mix_Of_c0 mix_Of_c2
def A_mix_Of : AFn := ⟨mix_Of_c3, [.tmp 2]⟩
noncomputable def E_mix_Of : Sums := disp 132 S_mix_More disp0
noncomputable def mix_Of_c0_d (n : Nat) : SmV := smOps E_mix_Of mix_Of_o0
noncomputable def mix_Of_c1_d (n : Nat) : SmV := smOps E_mix_Of mix_Of_o1
noncomputable def mix_Of_c2_d (n : Nat) : SmV := smSeq [2] (mix_Of_c1_d n) smRet
noncomputable def mix_Of_c3_d (n : Nat) : SmV := smSeq [0] (mix_Of_c0_d n) (mix_Of_c2_d n)
noncomputable def R_mix_Of (n : Nat) (args : List Val) (h : Heap) : OptV := (mix_Of_c3_d n) A_mix_Of.fin (params 0 args) h
theorem R_mix_Of_eq (n : Nat) (a0 : Val) (h : Heap) : R_mix_Of n [a0] h = bnd (S_mix_More [.c (.i .u32 2166136261), a0] h) fun p1 => some (p1.1, p1.2) := by kernel_rfl
theorem K_mix_Of : FnK Try.prog 99 A_mix_Of E_mix_Of R_mix_Of := .mk' (sound1 S_mix_More_ok sound0) Try.func99 (by kernel_rfl) (by intro n args h; kernel_rfl)
noncomputable def S_mix_Of : Fun := tidy (Lim A_mix_Of E_mix_Of)
theorem S_mix_Of_ok : SOk Try.prog 99 S_mix_Of := K_mix_Of.sok
theorem S_mix_Of_flat {n : Nat} {args : List Val} {h h2 : Heap} {v : Val} (he : R_mix_Of n args (ro h) = some (v, h2)) (hf : v.flat = true) : S_mix_Of args h = some (v, h) := K_mix_Of.flat he hf
end Go.Proofs.Ytdgggnlbdoiloaa
end
section
namespace Go.Proofs.Ytdgggnlbdoiloaa
open Go Go.Esc

def mixS (h : Nat) (c : UInt8) : Nat := ((h ^^^ c.toNat) * 16777619) % 4294967296
def mixFrom (h : Nat) (s : List UInt8) : Nat := s.foldl mixS h
def mixH (s : List UInt8) : Nat := mixFrom 2166136261 s

theorem mixS_lt {h : Nat} {c : UInt8} : mixS h c < 4294967296 := Nat.mod_lt _ (by omega)
theorem mixFrom_lt {s : List UInt8} : ∀ {h : Nat}, h < 4294967296 → mixFrom h s < 4294967296 := by
  induction s with
  | nil => intro h hh; exact hh
  | cons c s ih => intro h _; exact ih mixS_lt
theorem mixH_lt {s : List UInt8} : mixH s < 4294967296 := mixFrom_lt (by omega)

theorem wrap_u32_mod {a : Int} : IntKind.wrap .u32 a = a % 4294967296 := by
  simp only [IntKind.wrap, IntKind.bits, IntKind.signed, Bool.false_and]
  rfl

theorem mix_More_loop {s : List UInt8} (hs : s.length < 9223372036854775807) {q : Nat} {h : Heap} : ∀ (d i m H : Nat), i + d = s.length → d < m → H < 4294967296 →
    mix_More_l0 q m (.c (.i .u32 H)) (.c (.s s)) (.c (.i .i64 s.length)) (.c (.i .i64 i)) h = some (.c (.i .u32 ((mixFrom H (s.drop i) : Nat) : Int)), h)
  | d, i, 0, H, _, hm, _ => by omega
  | 0, i, m + 1, H, hi, hm, hH => by
    have c0 : ¬ (i : Int) < s.length := by omega
    rw [mix_More_l0_eq, List.drop_of_length_le (by omega)]
    simp only [esc, c0, mixFrom, List.foldl_nil]
  | d + 1, i, m + 1, H, hi, hm, hH => by
    have h2 : i < s.length := by omega
    have hb := s[i].toNat_lt
    have ih := mix_More_loop hs (q := q) (h := h) d (i + 1) m (mixS H s[i]) (by omega) (by omega) mixS_lt
    have c0 : (i : Int) < s.length := by omega
    have e1 : IntKind.wrap .u32 (s[i].toNat : Int) = s[i].toNat := wrap_u32 (by omega) (by omega)
    have e2 := xor_u32 (a := H) (b := s[i].toNat) hH (by omega)
    have e3 : IntKind.wrap .u32 (((H ^^^ s[i].toNat : Nat) : Int) * 16777619) = ((mixS H s[i] : Nat) : Int) := by
      rw [wrap_u32_mod]; unfold mixS; omega
    rw [mix_More_l0_eq, List.drop_eq_getElem_cons h2]
    simp only [esc, c0, idxS_of h2, e1, e2, e3, wi_succ (show i + 1 < 9223372036854775808 by omega)]
    exact ih

theorem mix_Of_eq {s : List UInt8} (hs : s.length < 9223372036854775807) {h : Heap} : S_mix_Of [.c (.s s)] h = some (.c (.i .u32 ((mixH s : Nat) : Int)), h) := by
  have hm : ∀ h, S_mix_More [.c (.i .u32 2166136261), .c (.s s)] h = some (.c (.i .u32 ((mixH s : Nat) : Int)), h) := fun h => by
    refine S_mix_More_flat (n := s.length + 1) (h2 := ro h) ?_ rfl
    rw [R_mix_More_eq]
    have := mix_More_loop hs (q := s.length + 1) (h := ro h) s.length 0 (s.length + 1) 2166136261 (by omega) (by omega) (by omega)
    simp only [esc]
    exact this
  refine S_mix_Of_flat (n := 0) (h2 := ro h) ?_ rfl
  rw [R_mix_Of_eq]
  simp only [esc, hm]

end Go.Proofs.Ytdgggnlbdoiloaa
end
section
namespace Go.Proofs.Ytdgggnlbdoiloaa
open Go Go.Esc
set_option maxRecDepth 100000
def super_Check_o0 : List AOper := [{ dst := some 1, op := .box (.t 0) }, { dst := some 2, op := .mv (.v (.c (.i .i64 0))) }]
def super_Check_c0 : ACode := .ops super_Check_o0
def super_Check_o1 : List AOper := [{ dst := some 4, op := .fAddr (.t 1) 0 }, { dst := some 5, op := .load1 (.t 4) }, { dst := some 6, op := .bin .lss (.t 5) (.v (.c (.i .i64 16))) }, { dst := some 3, op := .mv (.t 6) }]
def super_Check_c1 : ACode := .ops super_Check_o1
def super_Check_o2 : List AOper := [{ dst := some 7, op := .fAddr (.t 1) 0 }, { dst := some 8, op := .load1 (.t 7) }, { dst := some 9, op := .bin .gtr (.t 8) (.v (.c (.i .i64 512))) }, { dst := some 3, op := .mv (.t 9) }]
def super_Check_c2 : ACode := .ops super_Check_o2
def super_Check_c3 : ACode := .cond (.t 3) .skip super_Check_c2
def super_Check_c4 : ACode := .seq [1, 3] super_Check_c1 super_Check_c3
def super_Check_o3 : List AOper := [{ dst := some 2, op := .mv (.v (.c (.i .i64 1))) }]
def super_Check_c5 : ACode := .ops super_Check_o3
def super_Check_c6 : ACode := .seq [2] super_Check_c5 .ret
def super_Check_o4 : List AOper := [{ dst := some 11, op := .fAddr (.t 1) 1 }, { dst := some 12, op := .load1 (.t 11) }, { dst := some 13, op := .bin .lss (.t 12) (.v (.c (.i .i64 8))) }, { dst := some 10, op := .mv (.t 13) }]
def super_Check_c7 : ACode := .ops super_Check_o4
def super_Check_o5 : List AOper := [{ dst := some 14, op := .fAddr (.t 1) 1 }, { dst := some 15, op := .load1 (.t 14) }, { dst := some 16, op := .bin .gtr (.t 15) (.v (.c (.i .i64 128))) }, { dst := some 10, op := .mv (.t 16) }]
def super_Check_c8 : ACode := .ops super_Check_o5
def super_Check_o6 : List AOper := [{ dst := some 17, op := .fAddr (.t 1) 1 }, { dst := some 18, op := .load1 (.t 17) }, { dst := some 19, op := .bin .rem (.t 18) (.v (.c (.i .i64 8))) }, { dst := some 20, op := .bin .neq (.t 19) (.v (.c (.i .i64 0))) }, { dst := some 10, op := .mv (.t 20) }]
def super_Check_c9 : ACode := .ops super_Check_o6
def super_Check_c10 : ACode := .cond (.t 10) .skip super_Check_c9
def super_Check_c11 : ACode := .seq [1, 10] super_Check_c8 super_Check_c10
def super_Check_c12 : ACode := .cond (.t 10) .skip super_Check_c11
def super_Check_c13 : ACode := .seq [1, 10] super_Check_c7 super_Check_c12
def super_Check_o7 : List AOper := [{ dst := some 2, op := .mv (.v (.c (.i .i64 1))) }]
def super_Check_c14 : ACode := .ops super_Check_o7
def super_Check_c15 : ACode := .seq [2] super_Check_c14 .ret
def super_Check_o8 : List AOper := [{ dst := some 22, op := .fAddr (.t 1) 1 }, { dst := some 23, op := .load1 (.t 22) }, { dst := some 24, op := .bin .quo (.t 23) (.v (.c (.i .i64 8))) }, { dst := some 25, op := .bin .add (.v (.c (.i .i64 2))) (.t 24) }, { dst := some 26, op := .fAddr (.t 1) 0 }, { dst := some 27, op := .load1 (.t 26) }, { dst := some 28, op := .bin .geq (.t 25) (.t 27) }, { dst := some 21, op := .mv (.t 28) }]
def super_Check_c16 : ACode := .ops super_Check_o8
def super_Check_o9 : List AOper := [{ dst := some 2, op := .mv (.v (.c (.i .i64 1))) }]
def super_Check_c17 : ACode := .ops super_Check_o9
def super_Check_c18 : ACode := .seq [2] super_Check_c17 .ret
def super_Check_c19 : ACode := .cond (.t 21) super_Check_c18 .skip
def super_Check_c20 : ACode := .seq [21] super_Check_c16 super_Check_c19
def super_Check_c21 : ACode := .cond (.t 10) super_Check_c15 super_Check_c20
def super_Check_c22 : ACode := .seq [1, 10] super_Check_c13 super_Check_c21
def super_Check_c23 : ACode := .cond (.t 3) super_Check_c6 super_Check_c22
def super_Check_c24 : ACode := .seq [1, 3] super_Check_c4 super_Check_c23
def super_Check_c25 : ACode := .block 0 super_Check_c24
def super_Check_o10 : List AOper := [{ dst := some 2, op := .mv (.v (.c (.i .i64 0))) }]
def super_Check_c26 : ACode := .ops super_Check_o10
def super_Check_c27 : ACode := .seq [2] super_Check_c26 .ret
def super_Check_c28 : ACode := .seq [] super_Check_c25 super_Check_c27
def super_Check_c29 : ACode := .seq [1] super_Check_c0 super_Check_c28
def A_super_Check : AFn := ⟨super_Check_c29, [.tmp 2]⟩
noncomputable def E_super_Check : Sums := disp0
noncomputable def super_Check_c0_d (n : Nat) : SmV := smOps E_super_Check super_Check_o0
noncomputable def super_Check_c1_d (n : Nat) : SmV := smOps E_super_Check super_Check_o1
noncomputable def super_Check_c2_d (n : Nat) : SmV := smOps E_super_Check super_Check_o2
noncomputable def super_Check_c3_d (n : Nat) : SmV := smCond (.t 3) smSkip (super_Check_c2_d n)
noncomputable def super_Check_c4_d (n : Nat) : SmV := smSeq [1, 3] (super_Check_c1_d n) (super_Check_c3_d n)
noncomputable def super_Check_c5_d (n : Nat) : SmV := smOps E_super_Check super_Check_o3
noncomputable def super_Check_c6_d (n : Nat) : SmV := smSeq [2] (super_Check_c5_d n) smRet
noncomputable def super_Check_c7_d (n : Nat) : SmV := smOps E_super_Check super_Check_o4
noncomputable def super_Check_c8_d (n : Nat) : SmV := smOps E_super_Check super_Check_o5
noncomputable def super_Check_c9_d (n : Nat) : SmV := smOps E_super_Check super_Check_o6
noncomputable def super_Check_c10_d (n : Nat) : SmV := smCond (.t 10) smSkip (super_Check_c9_d n)
noncomputable def super_Check_c11_d (n : Nat) : SmV := smSeq [1, 10] (super_Check_c8_d n) (super_Check_c10_d n)
noncomputable def super_Check_c12_d (n : Nat) : SmV := smCond (.t 10) smSkip (super_Check_c11_d n)
noncomputable def super_Check_c13_d (n : Nat) : SmV := smSeq [1, 10] (super_Check_c7_d n) (super_Check_c12_d n)
noncomputable def super_Check_c14_d (n : Nat) : SmV := smOps E_super_Check super_Check_o7
noncomputable def super_Check_c15_d (n : Nat) : SmV := smSeq [2] (super_Check_c14_d n) smRet
noncomputable def super_Check_c16_d (n : Nat) : SmV := smOps E_super_Check super_Check_o8
noncomputable def super_Check_c17_d (n : Nat) : SmV := smOps E_super_Check super_Check_o9
noncomputable def super_Check_c18_d (n : Nat) : SmV := smSeq [2] (super_Check_c17_d n) smRet
noncomputable def super_Check_c19_d (n : Nat) : SmV := smCond (.t 21) (super_Check_c18_d n) smSkip
noncomputable def super_Check_c20_d (n : Nat) : SmV := smSeq [21] (super_Check_c16_d n) (super_Check_c19_d n)
noncomputable def super_Check_c21_d (n : Nat) : SmV := smCond (.t 10) (super_Check_c15_d n) (super_Check_c20_d n)
noncomputable def super_Check_c22_d (n : Nat) : SmV := smSeq [1, 10] (super_Check_c13_d n) (super_Check_c21_d n)
noncomputable def super_Check_c23_d (n : Nat) : SmV := smCond (.t 3) (super_Check_c6_d n) (super_Check_c22_d n)
noncomputable def super_Check_c24_d (n : Nat) : SmV := smSeq [1, 3] (super_Check_c4_d n) (super_Check_c23_d n)
noncomputable def super_Check_c25_d (n : Nat) : SmV := smBlock 0 (super_Check_c24_d n)
noncomputable def super_Check_c26_d (n : Nat) : SmV := smOps E_super_Check super_Check_o10
noncomputable def super_Check_c27_d (n : Nat) : SmV := smSeq [2] (super_Check_c26_d n) smRet
noncomputable def super_Check_c28_d (n : Nat) : SmV := smSeq [] (super_Check_c25_d n) (super_Check_c27_d n)
noncomputable def super_Check_c29_d (n : Nat) : SmV := smSeq [1] (super_Check_c0_d n) (super_Check_c28_d n)
noncomputable def super_Check_k0 (n : Nat) : AExit → Env → Heap → OptV := fun x e h => match x with | .normal => hold ((super_Check_c27_d n) A_super_Check.fin (e.keep []) h) | .exit id => A_super_Check.fin (.exit id) e h | .ret => A_super_Check.fin .ret e h
noncomputable def super_Check_k1 (n : Nat) : AExit → Env → Heap → OptV := fun x e h => match x with | .exit i => bif Nat.beq i 0 then (super_Check_k0 n) .normal e h else (super_Check_k0 n) (.exit i) e h | .normal => (super_Check_k0 n) .normal e h | .ret => (super_Check_k0 n) .ret e h
noncomputable def super_Check_j0 (n : Nat) (x1 x3 : Val) (h : Heap) : OptV := hold ((super_Check_c23_d n) (super_Check_k1 n) [(1, x1), (3, x3)] h)
noncomputable def R_super_Check (n : Nat) (args : List Val) (h : Heap) : OptV := (super_Check_c29_d n) A_super_Check.fin (params 0 args) h
noncomputable def super_Check_j1 (n : Nat) (x1 x10 : Val) (h : Heap) : OptV := hold ((super_Check_c21_d n) (super_Check_k1 n) [(1, x1), (10, x10)] h)
theorem R_super_Check_eq (n : Nat) (a0 : Val) (h : Heap) : R_super_Check n [a0] h = bnd (cells? a0) fun c1 => bnd (afAddr ((.c (.p h.length 0))) 0) fun v2 => bnd (aload1 ((h ++ [some (Row.mk (c1) true)])) v2) fun v3 => bnd (abin .lss v3 (.c (.i .i64 16))) fun v4 => cnd v4 (super_Check_j0 n ((.c (.p h.length 0))) v4 ((h ++ [some (Row.mk (c1) true)]))) (bnd (afAddr ((.c (.p h.length 0))) 0) fun v5 => bnd (aload1 ((h ++ [some (Row.mk (c1) true)])) v5) fun v6 => bnd (abin .gtr v6 (.c (.i .i64 512))) fun v7 => super_Check_j0 n ((.c (.p h.length 0))) v7 ((h ++ [some (Row.mk (c1) true)]))) := by kernel_rfl
theorem super_Check_j0_eq (n : Nat) (x1 x3 : Val) (h : Heap) : super_Check_j0 n x1 x3 h = cnd x3 (some ((.c (.i .i64 1)), h)) (bnd (afAddr x1 1) fun v8 => bnd (aload1 h v8) fun v9 => bnd (abin .lss v9 (.c (.i .i64 8))) fun v10 => cnd v10 (super_Check_j1 n x1 v10 h) (bnd (afAddr x1 1) fun v11 => bnd (aload1 h v11) fun v12 => bnd (abin .gtr v12 (.c (.i .i64 128))) fun v13 => cnd v13 (super_Check_j1 n x1 v13 h) (bnd (afAddr x1 1) fun v14 => bnd (aload1 h v14) fun v15 => bnd (abin .rem v15 (.c (.i .i64 8))) fun v16 => bnd (abin .neq v16 (.c (.i .i64 0))) fun v17 => super_Check_j1 n x1 v17 h))) := by kernel_rfl
theorem super_Check_j1_eq (n : Nat) (x1 x10 : Val) (h : Heap) : super_Check_j1 n x1 x10 h = cnd x10 (some ((.c (.i .i64 1)), h)) (bnd (afAddr x1 1) fun v18 => bnd (aload1 h v18) fun v19 => bnd (abin .quo v19 (.c (.i .i64 8))) fun v20 => bnd (abin .add (.c (.i .i64 2)) v20) fun v21 => bnd (afAddr x1 0) fun v22 => bnd (aload1 h v22) fun v23 => bnd (abin .geq v21 v23) fun v24 => cnd v24 (some ((.c (.i .i64 1)), h)) (some ((.c (.i .i64 0)), h))) := by kernel_rfl
theorem K_super_Check : FnK Try.prog 70 A_super_Check E_super_Check R_super_Check := .mk' (sound0) Try.func70 (by kernel_rfl) (by intro n args h; kernel_rfl)
noncomputable def S_super_Check : Fun := tidy (Lim A_super_Check E_super_Check)
theorem S_super_Check_ok : SOk Try.prog 70 S_super_Check := K_super_Check.sok
theorem S_super_Check_flat {n : Nat} {args : List Val} {h h2 : Heap} {v : Val} (he : R_super_Check n args (ro h) = some (v, h2)) (hf : v.flat = true) : S_super_Check args h = some (v, h) := K_super_Check.flat he hf
def super_Put_o0 : List AOper := [{ dst := some 1, op := .box (.t 0) }, { dst := some 2, op := .alloc (List.replicate 256 (.i .u8 0)) }, { dst := some 3, op := .mv (.v (.c (.i .i64 0))) }]
def super_Put_c0 : ACode := .ops super_Put_o0
def super_Put_o1 : List AOper := [{ dst := some 9, op := .loadN 3 (.t 1) }, { dst := some 10, op := .call 70 [(.t 9)] }, { dst := some 4, op := .mv (.t 10) }]
def super_Put_c1 : ACode := .ops super_Put_o1
def super_Put_o2 : List AOper := [{ dst := some 11, op := .mv (.t 4) }, { dst := some 12, op := .bin .neq (.t 11) (.v (.c (.i .i64 0))) }]
def super_Put_c2 : ACode := .ops super_Put_o2
def super_Put_o3 : List AOper := [{ dst := some 13, op := .build (List.replicate 256 (.i .u8 0)) [] }, { dst := some 14, op := .mv (.t 4) }, { dst := none, op := .storeN 256 (.t 2) (.t 13) }, { dst := some 3, op := .mv (.t 14) }]
def super_Put_c3 : ACode := .ops super_Put_o3
def super_Put_c4 : ACode := .seq [2, 3] super_Put_c3 .ret
def super_Put_c5 : ACode := .cond (.t 12) super_Put_c4 .skip
def super_Put_c6 : ACode := .seq [1, 2, 4, 12] super_Put_c2 super_Put_c5
def super_Put_c7 : ACode := .seq [1, 2, 4] super_Put_c1 super_Put_c6
def super_Put_o4 : List AOper := [{ dst := some 15, op := .buildSl 1 8 ([.i .u8 0, .i .u8 0, .i .u8 0, .i .u8 0, .i .u8 0, .i .u8 0, .i .u8 0, .i .u8 0]) [(0, 1, (.v (.c (.i .u8 101)))), (1, 1, (.v (.c (.i .u8 115)))), (2, 1, (.v (.c (.i .u8 99)))), (3, 1, (.v (.c (.i .u8 104)))), (4, 1, (.v (.c (.i .u8 101)))), (5, 1, (.v (.c (.i .u8 97)))), (6, 1, (.v (.c (.i .u8 116)))), (7, 1, (.v (.c (.i .u8 49))))] }, { dst := some 16, op := .mark (.t 15) }, { dst := some 17, op := .call 95 [(.t 16)] }, { dst := some 5, op := .alloc (List.replicate 256 (.i .u8 0)) }, { dst := none, op := .storeN 256 (.t 5) (.t 17) }]
def super_Put_c8 : ACode := .ops super_Put_o4
def super_Put_o5 : List AOper := [{ dst := some 18, op := .loadN 256 (.t 5) }, { dst := some 19, op := .fAddr (.t 1) 0 }, { dst := some 20, op := .load1 (.t 19) }, { dst := some 21, op := .call 96 [(.t 18), (.v (.c (.i .i64 8))), (.v (.c (.i .i64 2))), (.t 20)] }, { dst := none, op := .storeN 256 (.t 5) (.t 21) }]
def super_Put_c9 : ACode := .ops super_Put_o5
def super_Put_o6 : List AOper := [{ dst := some 22, op := .loadN 256 (.t 5) }, { dst := some 23, op := .fAddr (.t 1) 1 }, { dst := some 24, op := .load1 (.t 23) }, { dst := some 25, op := .call 96 [(.t 22), (.v (.c (.i .i64 10))), (.v (.c (.i .i64 2))), (.t 24)] }, { dst := none, op := .storeN 256 (.t 5) (.t 25) }]
def super_Put_c10 : ACode := .ops super_Put_o6
def super_Put_o7 : List AOper := [{ dst := some 27, op := .mkSl 1 ([.i .u8 0]) (.v (.c (.i .i64 8))) (.v (.c (.i .i64 8))), slot := some 0 }, { dst := some 28, op := .fAddr (.t 1) 2 }, { dst := some 29, op := .load1 (.t 28) }, { dst := some 30, op := .call 97 [(.t 27), (.v (.c (.i .i64 0))), (.v (.c (.i .i64 8))), (.t 29)] }, { dst := some 26, op := .mv (.t 30) }, { dst := some 31, op := .ext (.t 26) 0 }, { dst := some 32, op := .ext (.t 26) 1 }, { dst := some 6, op := .mv (.t 31) }]
def super_Put_o8 : List AOper := [{ dst := some 7, op := .mv (.t 32) }]
def super_Put_c11 : ACode := .draw 1 super_Put_o7 super_Put_o8
def super_Put_o9 : List AOper := [{ dst := some 33, op := .loadN 256 (.t 5) }, { dst := some 34, op := .mv (.t 6) }, { dst := some 35, op := .call 98 [(.t 33), (.v (.c (.i .i64 12))), (.t 34)] }, { dst := none, op := .storeN 256 (.t 5) (.t 35) }]
def super_Put_c12 : ACode := .ops super_Put_o9
def super_Put_o10 : List AOper := [{ dst := some 36, op := .loadN 256 (.t 5) }, { dst := some 37, op := .call 57 [(.t 36), (.v (.c (.i .i64 0))), (.v (.c (.i .i64 20)))] }, { dst := some 38, op := .b2s (.t 37) }, { dst := some 39, op := .call 99 [(.t 38)] }, { dst := some 8, op := .mv (.t 39) }]
def super_Put_c13 : ACode := .ops super_Put_o10
def super_Put_o11 : List AOper := [{ dst := some 40, op := .loadN 256 (.t 5) }, { dst := some 41, op := .mv (.t 8) }, { dst := some 42, op := .conv .i64 (.t 41) }, { dst := some 43, op := .call 96 [(.t 40), (.v (.c (.i .i64 20))), (.v (.c (.i .i64 4))), (.t 42)] }, { dst := none, op := .storeN 256 (.t 2) (.t 43) }, { dst := some 3, op := .mv (.v (.c (.i .i64 0))) }]
def super_Put_c14 : ACode := .ops super_Put_o11
def super_Put_c15 : ACode := .seq [2, 3] super_Put_c14 .ret
def super_Put_c16 : ACode := .seq [2, 5, 8] super_Put_c13 super_Put_c15
def super_Put_c17 : ACode := .seq [2, 5] super_Put_c12 super_Put_c16
def super_Put_c18 : ACode := .seq [2, 5, 6] super_Put_c11 super_Put_c17
def super_Put_c19 : ACode := .seq [1, 2, 5] super_Put_c10 super_Put_c18
def super_Put_c20 : ACode := .seq [1, 2, 5] super_Put_c9 super_Put_c19
def super_Put_c21 : ACode := .seq [1, 2, 5] super_Put_c8 super_Put_c20
def super_Put_c22 : ACode := .seq [1, 2] super_Put_c7 super_Put_c21
def super_Put_c23 : ACode := .seq [1, 2] super_Put_c0 super_Put_c22
def A_super_Put : AFn := ⟨super_Put_c23, [.cellN 2 256, .tmp 3]⟩
noncomputable def E_super_Put : Sums := disp 70 S_super_Check (disp 95 S_num_Of (disp 96 S_num_With (disp 97 S_num_Put (disp 98 S_num_Lay (disp 57 S_num_Cut (disp 99 S_mix_Of disp0))))))
noncomputable def super_Put_c0_d (n : Nat) : SmV := smOps E_super_Put super_Put_o0
noncomputable def super_Put_c1_d (n : Nat) : SmV := smOps E_super_Put super_Put_o1
noncomputable def super_Put_c2_d (n : Nat) : SmV := smOps E_super_Put super_Put_o2
noncomputable def super_Put_c3_d (n : Nat) : SmV := smOps E_super_Put super_Put_o3
noncomputable def super_Put_c4_d (n : Nat) : SmV := smSeq [2, 3] (super_Put_c3_d n) smRet
noncomputable def super_Put_c5_d (n : Nat) : SmV := smCond (.t 12) (super_Put_c4_d n) smSkip
noncomputable def super_Put_c6_d (n : Nat) : SmV := smSeq [1, 2, 4, 12] (super_Put_c2_d n) (super_Put_c5_d n)
noncomputable def super_Put_c7_d (n : Nat) : SmV := smSeq [1, 2, 4] (super_Put_c1_d n) (super_Put_c6_d n)
noncomputable def super_Put_c8_d (n : Nat) : SmV := smOps E_super_Put super_Put_o4
noncomputable def super_Put_c9_d (n : Nat) : SmV := smOps E_super_Put super_Put_o5
noncomputable def super_Put_c10_d (n : Nat) : SmV := smOps E_super_Put super_Put_o6
noncomputable def super_Put_c11_d (n : Nat) : SmV := smDraw E_super_Put 1 super_Put_o7 super_Put_o8
noncomputable def super_Put_c12_d (n : Nat) : SmV := smOps E_super_Put super_Put_o9
noncomputable def super_Put_c13_d (n : Nat) : SmV := smOps E_super_Put super_Put_o10
noncomputable def super_Put_c14_d (n : Nat) : SmV := smOps E_super_Put super_Put_o11
noncomputable def super_Put_c15_d (n : Nat) : SmV := smSeq [2, 3] (super_Put_c14_d n) smRet
noncomputable def super_Put_c16_d (n : Nat) : SmV := smSeq [2, 5, 8] (super_Put_c13_d n) (super_Put_c15_d n)
noncomputable def super_Put_c17_d (n : Nat) : SmV := smSeq [2, 5] (super_Put_c12_d n) (super_Put_c16_d n)
noncomputable def super_Put_c18_d (n : Nat) : SmV := smSeq [2, 5, 6] (super_Put_c11_d n) (super_Put_c17_d n)
noncomputable def super_Put_c19_d (n : Nat) : SmV := smSeq [1, 2, 5] (super_Put_c10_d n) (super_Put_c18_d n)
noncomputable def super_Put_c20_d (n : Nat) : SmV := smSeq [1, 2, 5] (super_Put_c9_d n) (super_Put_c19_d n)
noncomputable def super_Put_c21_d (n : Nat) : SmV := smSeq [1, 2, 5] (super_Put_c8_d n) (super_Put_c20_d n)
noncomputable def super_Put_c22_d (n : Nat) : SmV := smSeq [1, 2] (super_Put_c7_d n) (super_Put_c21_d n)
noncomputable def super_Put_c23_d (n : Nat) : SmV := smSeq [1, 2] (super_Put_c0_d n) (super_Put_c22_d n)
noncomputable def R_super_Put (n : Nat) (args : List Val) (h : Heap) : OptV := (super_Put_c23_d n) A_super_Put.fin (params 0 args) h
theorem R_super_Put_eq (n : Nat) (a0 : Val) (h : Heap) : R_super_Put n [a0] h = bnd (cells? a0) fun c1 => bnd (aloadN (((h ++ [some (Row.mk (c1) true)]) ++ [some (Row.mk (List.replicate 256 (.i .u8 0)) true)])) 3 ((.c (.p h.length 0)))) fun v2 => bnd (S_super_Check [v2] (((h ++ [some (Row.mk (c1) true)]) ++ [some (Row.mk (List.replicate 256 (.i .u8 0)) true)]))) fun p3 => bnd (abin .neq p3.1 (.c (.i .i64 0))) fun v4 => cnd v4 (bnd (afill (List.replicate 256 (.i .u8 0)) []) fun c5 => bnd (astoreN p3.2 256 ((.c (.p ((h ++ [some (Row.mk (c1) true)])).length 0))) ((.a c5))) fun h6 => tupN [aloadN h6 256 ((.c (.p ((h ++ [some (Row.mk (c1) true)])).length 0))), some p3.1] h6) (bnd (afill ([.i .u8 0, .i .u8 0, .i .u8 0, .i .u8 0, .i .u8 0, .i .u8 0, .i .u8 0, .i .u8 0]) [(0, 1, .c (.i .u8 101)), (1, 1, .c (.i .u8 115)), (2, 1, .c (.i .u8 99)), (3, 1, .c (.i .u8 104)), (4, 1, .c (.i .u8 101)), (5, 1, .c (.i .u8 97)), (6, 1, .c (.i .u8 116)), (7, 1, .c (.i .u8 49))]) fun c7 => bnd (amark ((p3.2 ++ [some (Row.mk (c7) true)])) ((.c (.sl p3.2.length 0 8 1)))) fun v8 => bnd (S_num_Of [v8] ((p3.2 ++ [some (Row.mk (c7) true)]))) fun p9 => bnd (astoreN ((p9.2 ++ [some (Row.mk (List.replicate 256 (.i .u8 0)) true)])) 256 ((.c (.p p9.2.length 0))) p9.1) fun h10 => bnd (aloadN h10 256 ((.c (.p p9.2.length 0)))) fun v11 => bnd (afAddr ((.c (.p h.length 0))) 0) fun v12 => bnd (aload1 h10 v12) fun v13 => bnd (S_num_With [v11, .c (.i .i64 8), .c (.i .i64 2), v13] h10) fun p14 => bnd (astoreN p14.2 256 ((.c (.p p9.2.length 0))) p14.1) fun h15 => bnd (aloadN h15 256 ((.c (.p p9.2.length 0)))) fun v16 => bnd (afAddr ((.c (.p h.length 0))) 1) fun v17 => bnd (aload1 h15 v17) fun v18 => bnd (S_num_With [v16, .c (.i .i64 10), .c (.i .i64 2), v18] h15) fun p19 => bnd (astoreN p19.2 256 ((.c (.p p9.2.length 0))) p19.1) fun h20 => bnd (amkn (.c (.i .i64 8)) (.c (.i .i64 8))) fun n21 => bnd (afAddr ((.c (.p h.length 0))) 2) fun v22 => bnd (aload1 h20 v22) fun v23 => bnd (quiet ((((h20 ++ [none])).set (h20.length + 0) (some (Row.mk (rows ([.i .u8 0]) n21) true)))) (S_num_Put [(.c (.sl (h20.length + 0) 0 n21 1)), .c (.i .i64 0), .c (.i .i64 8), v23] ((((h20 ++ [none])).set (h20.length + 0) (some (Row.mk (rows ([.i .u8 0]) n21) true)))))) fun p24 => bnd (aext p24.1 0) fun v25 => bnd (aext p24.1 1) fun v26 => bnd (aloadN p24.2 256 ((.c (.p p9.2.length 0)))) fun v27 => bnd (S_num_Lay [v27, .c (.i .i64 12), v25] p24.2) fun p28 => bnd (astoreN p28.2 256 ((.c (.p p9.2.length 0))) p28.1) fun h29 => bnd (aloadN h29 256 ((.c (.p p9.2.length 0)))) fun v30 => bnd (S_num_Cut [v30, .c (.i .i64 0), .c (.i .i64 20)] h29) fun p31 => bnd (ab2s p31.2 p31.1) fun v32 => bnd (S_mix_Of [v32] p31.2) fun p33 => bnd (aloadN p33.2 256 ((.c (.p p9.2.length 0)))) fun v34 => bnd (aconv .i64 p33.1) fun v35 => bnd (S_num_With [v34, .c (.i .i64 20), .c (.i .i64 4), v35] p33.2) fun p36 => bnd (astoreN p36.2 256 ((.c (.p ((h ++ [some (Row.mk (c1) true)])).length 0))) p36.1) fun h37 => tupN [aloadN h37 256 ((.c (.p ((h ++ [some (Row.mk (c1) true)])).length 0))), some (.c (.i .i64 0))] h37) := by kernel_rfl
theorem K_super_Put : FnK Try.prog 52 A_super_Put E_super_Put R_super_Put := .mk' (sound1 S_super_Check_ok (sound1 S_num_Of_ok (sound1 S_num_With_ok (sound1 S_num_Put_ok (sound1 S_num_Lay_ok (sound1 S_num_Cut_ok (sound1 S_mix_Of_ok sound0))))))) Try.func52 (by kernel_rfl) (by intro n args h; kernel_rfl)
noncomputable def S_super_Put : Fun := tidy (Lim A_super_Put E_super_Put)
theorem S_super_Put_ok : SOk Try.prog 52 S_super_Put := K_super_Put.sok
theorem S_super_Put_flat {n : Nat} {args : List Val} {h h2 : Heap} {v : Val} (he : R_super_Put n args (ro h) = some (v, h2)) (hf : v.flat = true) : S_super_Put args h = some (v, h) := K_super_Put.flat he hf
def super_Get_o0 : List AOper := [{ dst := some 1, op := .box (.t 0) }, { dst := some 2, op := .alloc ([.i .i64 0, .i .i64 0, .i .u64 0]) }, { dst := some 3, op := .mv (.v (.c (.i .i64 0))) }]
def super_Get_c0 : ACode := .ops super_Get_o0
def super_Get_o1 : List AOper := [{ dst := some 10, op := .loadN 256 (.t 1) }, { dst := some 11, op := .call 57 [(.t 10), (.v (.c (.i .i64 12))), (.v (.c (.i .i64 8)))] }, { dst := some 12, op := .call 100 [(.t 11), (.v (.c (.i .i64 0))), (.v (.c (.i .i64 8)))] }, { dst := some 9, op := .mv (.t 12) }, { dst := some 13, op := .ext (.t 9) 0 }, { dst := some 14, op := .ext (.t 9) 1 }, { dst := some 4, op := .mv (.t 13) }, { dst := some 5, op := .mv (.t 14) }]
def super_Get_c1 : ACode := .ops super_Get_o1
def super_Get_o2 : List AOper := [{ dst := some 15, op := .loadN 256 (.t 1) }, { dst := some 16, op := .call 101 [(.t 15), (.v (.c (.i .i64 8))), (.v (.c (.i .i64 2)))] }, { dst := some 17, op := .loadN 256 (.t 1) }, { dst := some 18, op := .call 101 [(.t 17), (.v (.c (.i .i64 10))), (.v (.c (.i .i64 2)))] }, { dst := some 19, op := .mv (.t 4) }, { dst := some 20, op := .build ([.i .i64 0, .i .i64 0, .i .u64 0]) [(0, 1, (.t 16)), (1, 1, (.t 18)), (2, 1, (.t 19))] }, { dst := some 6, op := .alloc ([.i .i64 0, .i .i64 0, .i .u64 0]), slot := some 0 }]
def super_Get_o3 : List AOper := [{ dst := none, op := .storeN 3 (.t 6) (.t 20) }]
def super_Get_c2 : ACode := .draw 1 super_Get_o2 super_Get_o3
def super_Get_o4 : List AOper := [{ dst := some 22, op := .loadN 3 (.t 6) }, { dst := some 23, op := .call 52 [(.t 22)] }, { dst := some 21, op := .mv (.t 23) }, { dst := some 24, op := .ext (.t 21) 0 }, { dst := some 25, op := .ext (.t 21) 1 }, { dst := some 7, op := .alloc (List.replicate 256 (.i .u8 0)) }, { dst := none, op := .storeN 256 (.t 7) (.t 24) }, { dst := some 8, op := .mv (.t 25) }]
def super_Get_c3 : ACode := .ops super_Get_o4
def super_Get_o5 : List AOper := [{ dst := some 26, op := .mv (.t 8) }, { dst := some 27, op := .bin .neq (.t 26) (.v (.c (.i .i64 0))) }, { dst := some 28, op := .mv (.t 27) }, { dst := some 29, op := .loadN 256 (.t 7), guard := some (28, false) }, { dst := some 30, op := .loadN 256 (.t 1), guard := some (28, false) }, { dst := some 31, op := .eqA true (List.replicate 256 (.i .u8)) (.t 29) (.t 30), guard := some (28, false) }, { dst := some 32, op := .pick (.t 28) (.v (.c (.b true))) (.t 31) }]
def super_Get_c4 : ACode := .ops super_Get_o5
def super_Get_o6 : List AOper := [{ dst := some 33, op := .build ([.i .i64 0, .i .i64 0, .i .u64 0]) [] }, { dst := none, op := .storeN 3 (.t 2) (.t 33) }, { dst := some 3, op := .mv (.v (.c (.i .i64 13))) }]
def super_Get_c5 : ACode := .ops super_Get_o6
def super_Get_c6 : ACode := .seq [2, 3] super_Get_c5 .ret
def super_Get_c7 : ACode := .cond (.t 32) super_Get_c6 .skip
def super_Get_c8 : ACode := .seq [2, 6, 32] super_Get_c4 super_Get_c7
def super_Get_c9 : ACode := .seq [1, 2, 6, 7, 8] super_Get_c3 super_Get_c8
def super_Get_o7 : List AOper := [{ dst := some 34, op := .loadN 3 (.t 6) }, { dst := none, op := .storeN 3 (.t 2) (.t 34) }, { dst := some 3, op := .mv (.v (.c (.i .i64 0))) }]
def super_Get_c10 : ACode := .ops super_Get_o7
def super_Get_c11 : ACode := .seq [2, 3] super_Get_c10 .ret
def super_Get_c12 : ACode := .seq [2, 6] super_Get_c9 super_Get_c11
def super_Get_c13 : ACode := .seq [1, 2, 6] super_Get_c2 super_Get_c12
def super_Get_c14 : ACode := .seq [1, 2, 4] super_Get_c1 super_Get_c13
def super_Get_c15 : ACode := .seq [1, 2] super_Get_c0 super_Get_c14
def A_super_Get : AFn := ⟨super_Get_c15, [.cellN 2 3, .tmp 3]⟩
noncomputable def E_super_Get : Sums := disp 57 S_num_Cut (disp 100 S_num_Get (disp 101 S_num_At (disp 52 S_super_Put disp0)))
noncomputable def super_Get_c0_d (n : Nat) : SmV := smOps E_super_Get super_Get_o0
noncomputable def super_Get_c1_d (n : Nat) : SmV := smOps E_super_Get super_Get_o1
noncomputable def super_Get_c2_d (n : Nat) : SmV := smDraw E_super_Get 1 super_Get_o2 super_Get_o3
noncomputable def super_Get_c3_d (n : Nat) : SmV := smOps E_super_Get super_Get_o4
noncomputable def super_Get_c4_d (n : Nat) : SmV := smOps E_super_Get super_Get_o5
noncomputable def super_Get_c5_d (n : Nat) : SmV := smOps E_super_Get super_Get_o6
noncomputable def super_Get_c6_d (n : Nat) : SmV := smSeq [2, 3] (super_Get_c5_d n) smRet
noncomputable def super_Get_c7_d (n : Nat) : SmV := smCond (.t 32) (super_Get_c6_d n) smSkip
noncomputable def super_Get_c8_d (n : Nat) : SmV := smSeq [2, 6, 32] (super_Get_c4_d n) (super_Get_c7_d n)
noncomputable def super_Get_c9_d (n : Nat) : SmV := smSeq [1, 2, 6, 7, 8] (super_Get_c3_d n) (super_Get_c8_d n)
noncomputable def super_Get_c10_d (n : Nat) : SmV := smOps E_super_Get super_Get_o7
noncomputable def super_Get_c11_d (n : Nat) : SmV := smSeq [2, 3] (super_Get_c10_d n) smRet
noncomputable def super_Get_c12_d (n : Nat) : SmV := smSeq [2, 6] (super_Get_c9_d n) (super_Get_c11_d n)
noncomputable def super_Get_c13_d (n : Nat) : SmV := smSeq [1, 2, 6] (super_Get_c2_d n) (super_Get_c12_d n)
noncomputable def super_Get_c14_d (n : Nat) : SmV := smSeq [1, 2, 4] (super_Get_c1_d n) (super_Get_c13_d n)
noncomputable def super_Get_c15_d (n : Nat) : SmV := smSeq [1, 2] (super_Get_c0_d n) (super_Get_c14_d n)
noncomputable def R_super_Get (n : Nat) (args : List Val) (h : Heap) : OptV := (super_Get_c15_d n) A_super_Get.fin (params 0 args) h
theorem R_super_Get_eq (n : Nat) (a0 : Val) (h : Heap) : R_super_Get n [a0] h = bnd (cells? a0) fun c1 => bnd (aloadN (((h ++ [some (Row.mk (c1) true)]) ++ [some (Row.mk ([.i .i64 0, .i .i64 0, .i .u64 0]) true)])) 256 ((.c (.p h.length 0)))) fun v2 => bnd (S_num_Cut [v2, .c (.i .i64 12), .c (.i .i64 8)] (((h ++ [some (Row.mk (c1) true)]) ++ [some (Row.mk ([.i .i64 0, .i .i64 0, .i .u64 0]) true)]))) fun p3 => bnd (S_num_Get [p3.1, .c (.i .i64 0), .c (.i .i64 8)] p3.2) fun p4 => bnd (aext p4.1 0) fun v5 => bnd (aext p4.1 1) fun v6 => bnd (aloadN p4.2 256 ((.c (.p h.length 0)))) fun v7 => bnd (quiet ((p4.2 ++ [none])) (S_num_At [v7, .c (.i .i64 8), .c (.i .i64 2)] ((p4.2 ++ [none])))) fun p8 => bnd (aloadN p4.2 256 ((.c (.p h.length 0)))) fun v9 => bnd (quiet p8.2 (S_num_At [v9, .c (.i .i64 10), .c (.i .i64 2)] p8.2)) fun p10 => bnd (afill ([.i .i64 0, .i .i64 0, .i .u64 0]) [(0, 1, p8.1), (1, 1, p10.1), (2, 1, v5)]) fun c11 => bnd (astoreN ((p10.2.set (p4.2.length + 0) (some (Row.mk ([.i .i64 0, .i .i64 0, .i .u64 0]) true)))) 3 ((.c (.p (p4.2.length + 0) 0))) ((.a c11))) fun h12 => bnd (aloadN h12 3 ((.c (.p (p4.2.length + 0) 0)))) fun v13 => bnd (S_super_Put [v13] h12) fun p14 => bnd (aext p14.1 0) fun v15 => bnd (aext p14.1 1) fun v16 => bnd (astoreN ((p14.2 ++ [some (Row.mk (List.replicate 256 (.i .u8 0)) true)])) 256 ((.c (.p p14.2.length 0))) v15) fun h17 => bnd (abin .neq v16 (.c (.i .i64 0))) fun v18 => bnd (gd v18 false (bnd (aloadN h17 256 ((.c (.p p14.2.length 0)))) fun v19 => some (v19, h17)) (some (.no, h17))) fun p20 => bnd (gd v18 false (bnd (aloadN p20.2 256 ((.c (.p h.length 0)))) fun v21 => some (v21, p20.2)) (some (.no, p20.2))) fun p22 => bnd (gd v18 false (bnd (aeq true (List.replicate 256 (.i .u8)) p20.1 p22.1) fun v23 => some (v23, p22.2)) (some (.no, p22.2))) fun p24 => bnd (apick v18 (.c (.b true)) p24.1) fun v25 => cnd v25 (bnd (afill ([.i .i64 0, .i .i64 0, .i .u64 0]) []) fun c26 => bnd (astoreN p24.2 3 ((.c (.p ((h ++ [some (Row.mk (c1) true)])).length 0))) ((.a c26))) fun h27 => tupN [aloadN h27 3 ((.c (.p ((h ++ [some (Row.mk (c1) true)])).length 0))), some (.c (.i .i64 13))] h27) (bnd (aloadN p24.2 3 ((.c (.p (p4.2.length + 0) 0)))) fun v28 => bnd (astoreN p24.2 3 ((.c (.p ((h ++ [some (Row.mk (c1) true)])).length 0))) v28) fun h29 => tupN [aloadN h29 3 ((.c (.p ((h ++ [some (Row.mk (c1) true)])).length 0))), some (.c (.i .i64 0))] h29) := by kernel_rfl
theorem K_super_Get : FnK Try.prog 53 A_super_Get E_super_Get R_super_Get := .mk' (sound1 S_num_Cut_ok (sound1 S_num_Get_ok (sound1 S_num_At_ok (sound1 S_super_Put_ok sound0)))) Try.func53 (by kernel_rfl) (by intro n args h; kernel_rfl)
noncomputable def S_super_Get : Fun := tidy (Lim A_super_Get E_super_Get)
theorem S_super_Get_ok : SOk Try.prog 53 S_super_Get := K_super_Get.sok
theorem S_super_Get_flat {n : Nat} {args : List Val} {h h2 : Heap} {v : Val} (he : R_super_Get n args (ro h) = some (v, h2)) (hf : v.flat = true) : S_super_Get args h = some (v, h) := K_super_Get.flat he hf
end Go.Proofs.Ytdgggnlbdoiloaa
end
section
namespace Go.Proofs.Ytdgggnlbdoiloaa
open Go Go.Esc
set_option maxRecDepth 100000
def geom_ok_o0 : List AOper := [{ dst := some 1, op := .box (.t 0) }, { dst := some 2, op := .mv (.v (.c (.b false))) }]
def geom_ok_c0 : ACode := .ops geom_ok_o0
def geom_ok_o1 : List AOper := [{ dst := some 3, op := .loadN 3 (.t 1) }, { dst := some 4, op := .call 70 [(.t 3)] }, { dst := some 5, op := .bin .eql (.t 4) (.v (.c (.i .i64 0))) }, { dst := some 2, op := .mv (.t 5) }]
def geom_ok_c1 : ACode := .ops geom_ok_o1
def geom_ok_c2 : ACode := .seq [2] geom_ok_c1 .ret
def geom_ok_c3 : ACode := .seq [1] geom_ok_c0 geom_ok_c2
def A_geom_ok : AFn := ⟨geom_ok_c3, [.tmp 2]⟩
noncomputable def E_geom_ok : Sums := disp 70 S_super_Check disp0
noncomputable def geom_ok_c0_d (n : Nat) : SmV := smOps E_geom_ok geom_ok_o0
noncomputable def geom_ok_c1_d (n : Nat) : SmV := smOps E_geom_ok geom_ok_o1
noncomputable def geom_ok_c2_d (n : Nat) : SmV := smSeq [2] (geom_ok_c1_d n) smRet
noncomputable def geom_ok_c3_d (n : Nat) : SmV := smSeq [1] (geom_ok_c0_d n) (geom_ok_c2_d n)
noncomputable def R_geom_ok (n : Nat) (args : List Val) (h : Heap) : OptV := (geom_ok_c3_d n) A_geom_ok.fin (params 0 args) h
theorem R_geom_ok_eq (n : Nat) (a0 : Val) (h : Heap) : R_geom_ok n [a0] h = bnd (cells? a0) fun c1 => bnd (aloadN ((h ++ [some (Row.mk (c1) true)])) 3 ((.c (.p h.length 0)))) fun v2 => bnd (S_super_Check [v2] ((h ++ [some (Row.mk (c1) true)]))) fun p3 => bnd (abin .eql p3.1 (.c (.i .i64 0))) fun v4 => some (v4, p3.2) := by kernel_rfl
theorem K_geom_ok : FnK Try.prog 63 A_geom_ok E_geom_ok R_geom_ok := .mk' (sound1 S_super_Check_ok sound0) Try.func63 (by kernel_rfl) (by intro n args h; kernel_rfl)
noncomputable def S_geom_ok : Fun := tidy (Lim A_geom_ok E_geom_ok)
theorem S_geom_ok_ok : SOk Try.prog 63 S_geom_ok := K_geom_ok.sok
theorem S_geom_ok_flat {n : Nat} {args : List Val} {h h2 : Heap} {v : Val} (he : R_geom_ok n args (ro h) = some (v, h2)) (hf : v.flat = true) : S_geom_ok args h = some (v, h) := K_geom_ok.flat he hf
def geom_Map_o0 : List AOper := [{ dst := some 0, op := .mv (.v (.c (.i .i64 0))) }]
def geom_Map_c0 : ACode := .ops geom_Map_o0
def geom_Map_o1 : List AOper := [{ dst := some 0, op := .mv (.v (.c (.i .i64 1))) }]
def geom_Map_c1 : ACode := .ops geom_Map_o1
def geom_Map_c2 : ACode := .seq [0] geom_Map_c1 .ret
def geom_Map_c3 : ACode := .seq [] geom_Map_c0 geom_Map_c2
def A_geom_Map : AFn := ⟨geom_Map_c3, [.tmp 0]⟩
noncomputable def E_geom_Map : Sums := disp0
noncomputable def geom_Map_c0_d (n : Nat) : SmV := smOps E_geom_Map geom_Map_o0
noncomputable def geom_Map_c1_d (n : Nat) : SmV := smOps E_geom_Map geom_Map_o1
noncomputable def geom_Map_c2_d (n : Nat) : SmV := smSeq [0] (geom_Map_c1_d n) smRet
noncomputable def geom_Map_c3_d (n : Nat) : SmV := smSeq [] (geom_Map_c0_d n) (geom_Map_c2_d n)
noncomputable def R_geom_Map (n : Nat) (args : List Val) (h : Heap) : OptV := (geom_Map_c3_d n) A_geom_Map.fin (params 0 args) h
theorem R_geom_Map_eq (n : Nat) (h : Heap) : R_geom_Map n [] h = some ((.c (.i .i64 1)), h) := by kernel_rfl
theorem K_geom_Map : FnK Try.prog 72 A_geom_Map E_geom_Map R_geom_Map := .mk' (sound0) Try.func72 (by kernel_rfl) (by intro n args h; kernel_rfl)
noncomputable def S_geom_Map : Fun := tidy (Lim A_geom_Map E_geom_Map)
theorem S_geom_Map_ok : SOk Try.prog 72 S_geom_Map := K_geom_Map.sok
theorem S_geom_Map_flat {n : Nat} {args : List Val} {h h2 : Heap} {v : Val} (he : R_geom_Map n args (ro h) = some (v, h2)) (hf : v.flat = true) : S_geom_Map args h = some (v, h) := K_geom_Map.flat he hf
def geom_Table_o0 : List AOper := [{ dst := some 1, op := .box (.t 0) }, { dst := some 2, op := .mv (.v (.c (.i .i64 0))) }, { dst := some 3, op := .mv (.v (.c (.i .i64 0))) }]
def geom_Table_c0 : ACode := .ops geom_Table_o0
def geom_Table_o1 : List AOper := [{ dst := some 4, op := .loadN 3 (.t 1) }, { dst := some 5, op := .call 63 [(.t 4)] }, { dst := some 6, op := .un .not (.t 5) }]
def geom_Table_c1 : ACode := .ops geom_Table_o1
def geom_Table_o2 : List AOper := [{ dst := some 2, op := .mv (.v (.c (.i .i64 0))) }, { dst := some 3, op := .mv (.v (.c (.i .i64 0))) }]
def geom_Table_c2 : ACode := .ops geom_Table_o2
def geom_Table_c3 : ACode := .seq [2, 3] geom_Table_c2 .ret
def geom_Table_c4 : ACode := .cond (.t 6) geom_Table_c3 .skip
def geom_Table_c5 : ACode := .seq [1, 6] geom_Table_c1 geom_Table_c4
def geom_Table_o3 : List AOper := [{ dst := some 7, op := .call 72 [] }, { dst := some 8, op := .bin .add (.t 7) (.v (.c (.i .i64 1))) }, { dst := some 9, op := .fAddr (.t 1) 1 }, { dst := some 10, op := .load1 (.t 9) }, { dst := some 11, op := .bin .quo (.t 10) (.v (.c (.i .i64 8))) }, { dst := some 2, op := .mv (.t 8) }]
def geom_Table_o4 : List AOper := [{ dst := some 3, op := .mv (.t 11) }]
def geom_Table_c6 : ACode := .draw 0 geom_Table_o3 geom_Table_o4
def geom_Table_c7 : ACode := .seq [2, 3] geom_Table_c6 .ret
def geom_Table_c8 : ACode := .seq [1] geom_Table_c5 geom_Table_c7
def geom_Table_c9 : ACode := .seq [1] geom_Table_c0 geom_Table_c8
def A_geom_Table : AFn := ⟨geom_Table_c9, [.tmp 2, .tmp 3]⟩
noncomputable def E_geom_Table : Sums := disp 63 S_geom_ok (disp 72 S_geom_Map disp0)
noncomputable def geom_Table_c0_d (n : Nat) : SmV := smOps E_geom_Table geom_Table_o0
noncomputable def geom_Table_c1_d (n : Nat) : SmV := smOps E_geom_Table geom_Table_o1
noncomputable def geom_Table_c2_d (n : Nat) : SmV := smOps E_geom_Table geom_Table_o2
noncomputable def geom_Table_c3_d (n : Nat) : SmV := smSeq [2, 3] (geom_Table_c2_d n) smRet
noncomputable def geom_Table_c4_d (n : Nat) : SmV := smCond (.t 6) (geom_Table_c3_d n) smSkip
noncomputable def geom_Table_c5_d (n : Nat) : SmV := smSeq [1, 6] (geom_Table_c1_d n) (geom_Table_c4_d n)
noncomputable def geom_Table_c6_d (n : Nat) : SmV := smDraw E_geom_Table 0 geom_Table_o3 geom_Table_o4
noncomputable def geom_Table_c7_d (n : Nat) : SmV := smSeq [2, 3] (geom_Table_c6_d n) smRet
noncomputable def geom_Table_c8_d (n : Nat) : SmV := smSeq [1] (geom_Table_c5_d n) (geom_Table_c7_d n)
noncomputable def geom_Table_c9_d (n : Nat) : SmV := smSeq [1] (geom_Table_c0_d n) (geom_Table_c8_d n)
noncomputable def R_geom_Table (n : Nat) (args : List Val) (h : Heap) : OptV := (geom_Table_c9_d n) A_geom_Table.fin (params 0 args) h
theorem R_geom_Table_eq (n : Nat) (a0 : Val) (h : Heap) : R_geom_Table n [a0] h = bnd (cells? a0) fun c1 => bnd (aloadN ((h ++ [some (Row.mk (c1) true)])) 3 ((.c (.p h.length 0)))) fun v2 => bnd (S_geom_ok [v2] ((h ++ [some (Row.mk (c1) true)]))) fun p3 => bnd (aun .not p3.1) fun v4 => cnd v4 (tupN [some (.c (.i .i64 0)), some (.c (.i .i64 0))] p3.2) (bnd (quiet ((p3.2 ++ [])) (S_geom_Map [] ((p3.2 ++ [])))) fun p5 => bnd (abin .add p5.1 (.c (.i .i64 1))) fun v6 => bnd (afAddr ((.c (.p h.length 0))) 1) fun v7 => bnd (aload1 p3.2 v7) fun v8 => bnd (abin .quo v8 (.c (.i .i64 8))) fun v9 => tupN [some v6, some v9] p5.2) := by kernel_rfl
theorem K_geom_Table : FnK Try.prog 103 A_geom_Table E_geom_Table R_geom_Table := .mk' (sound1 S_geom_ok_ok (sound1 S_geom_Map_ok sound0)) Try.func103 (by kernel_rfl) (by intro n args h; kernel_rfl)
noncomputable def S_geom_Table : Fun := tidy (Lim A_geom_Table E_geom_Table)
theorem S_geom_Table_ok : SOk Try.prog 103 S_geom_Table := K_geom_Table.sok
theorem S_geom_Table_flat {n : Nat} {args : List Val} {h h2 : Heap} {v : Val} (he : R_geom_Table n args (ro h) = some (v, h2)) (hf : v.flat = true) : S_geom_Table args h = some (v, h) := K_geom_Table.flat he hf
def geom_Data_o0 : List AOper := [{ dst := some 1, op := .box (.t 0) }, { dst := some 2, op := .mv (.v (.c (.i .i64 0))) }]
def geom_Data_c0 : ACode := .ops geom_Data_o0
def geom_Data_o1 : List AOper := [{ dst := some 6, op := .loadN 3 (.t 1) }, { dst := some 7, op := .call 103 [(.t 6)] }, { dst := some 5, op := .mv (.t 7) }, { dst := some 8, op := .ext (.t 5) 0 }, { dst := some 9, op := .ext (.t 5) 1 }, { dst := some 3, op := .mv (.t 8) }, { dst := some 4, op := .mv (.t 9) }]
def geom_Data_c1 : ACode := .ops geom_Data_o1
def geom_Data_o2 : List AOper := [{ dst := some 10, op := .mv (.t 3) }, { dst := some 11, op := .mv (.t 4) }, { dst := some 12, op := .bin .add (.t 10) (.t 11) }, { dst := some 2, op := .mv (.t 12) }]
def geom_Data_c2 : ACode := .ops geom_Data_o2
def geom_Data_c3 : ACode := .seq [2] geom_Data_c2 .ret
def geom_Data_c4 : ACode := .seq [3, 4] geom_Data_c1 geom_Data_c3
def geom_Data_c5 : ACode := .seq [1] geom_Data_c0 geom_Data_c4
def A_geom_Data : AFn := ⟨geom_Data_c5, [.tmp 2]⟩
noncomputable def E_geom_Data : Sums := disp 103 S_geom_Table disp0
noncomputable def geom_Data_c0_d (n : Nat) : SmV := smOps E_geom_Data geom_Data_o0
noncomputable def geom_Data_c1_d (n : Nat) : SmV := smOps E_geom_Data geom_Data_o1
noncomputable def geom_Data_c2_d (n : Nat) : SmV := smOps E_geom_Data geom_Data_o2
noncomputable def geom_Data_c3_d (n : Nat) : SmV := smSeq [2] (geom_Data_c2_d n) smRet
noncomputable def geom_Data_c4_d (n : Nat) : SmV := smSeq [3, 4] (geom_Data_c1_d n) (geom_Data_c3_d n)
noncomputable def geom_Data_c5_d (n : Nat) : SmV := smSeq [1] (geom_Data_c0_d n) (geom_Data_c4_d n)
noncomputable def R_geom_Data (n : Nat) (args : List Val) (h : Heap) : OptV := (geom_Data_c5_d n) A_geom_Data.fin (params 0 args) h
theorem R_geom_Data_eq (n : Nat) (a0 : Val) (h : Heap) : R_geom_Data n [a0] h = bnd (cells? a0) fun c1 => bnd (aloadN ((h ++ [some (Row.mk (c1) true)])) 3 ((.c (.p h.length 0)))) fun v2 => bnd (S_geom_Table [v2] ((h ++ [some (Row.mk (c1) true)]))) fun p3 => bnd (aext p3.1 0) fun v4 => bnd (aext p3.1 1) fun v5 => bnd (abin .add v4 v5) fun v6 => some (v6, p3.2) := by kernel_rfl
theorem K_geom_Data : FnK Try.prog 64 A_geom_Data E_geom_Data R_geom_Data := .mk' (sound1 S_geom_Table_ok sound0) Try.func64 (by kernel_rfl) (by intro n args h; kernel_rfl)
noncomputable def S_geom_Data : Fun := tidy (Lim A_geom_Data E_geom_Data)
theorem S_geom_Data_ok : SOk Try.prog 64 S_geom_Data := K_geom_Data.sok
theorem S_geom_Data_flat {n : Nat} {args : List Val} {h h2 : Heap} {v : Val} (he : R_geom_Data n args (ro h) = some (v, h2)) (hf : v.flat = true) : S_geom_Data args h = some (v, h) := K_geom_Data.flat he hf
def geom_IsData_o0 : List AOper := [{ dst := some 2, op := .box (.t 0) }, { dst := some 4, op := .mv (.v (.c (.b false))) }]
def geom_IsData_c0 : ACode := .ops geom_IsData_o0
def geom_IsData_o1 : List AOper := [{ dst := some 5, op := .loadN 3 (.t 2) }, { dst := some 6, op := .call 63 [(.t 5)] }, { dst := some 7, op := .mv (.t 6) }, { dst := some 8, op := .mv (.t 1), guard := some (7, true) }, { dst := some 9, op := .loadN 3 (.t 2), guard := some (7, true) }, { dst := some 10, op := .call 64 [(.t 9)], guard := some (7, true) }, { dst := some 11, op := .bin .geq (.t 8) (.t 10), guard := some (7, true) }, { dst := some 12, op := .pick (.t 7) (.t 11) (.v (.c (.b false))) }, { dst := some 13, op := .mv (.t 12) }, { dst := some 14, op := .mv (.t 1), guard := some (13, true) }, { dst := some 15, op := .fAddr (.t 2) 0, guard := some (13, true) }, { dst := some 16, op := .load1 (.t 15), guard := some (13, true) }, { dst := some 17, op := .bin .lss (.t 14) (.t 16), guard := some (13, true) }, { dst := some 18, op := .pick (.t 13) (.t 17) (.v (.c (.b false))) }, { dst := some 4, op := .mv (.t 18) }]
def geom_IsData_c1 : ACode := .ops geom_IsData_o1
def geom_IsData_c2 : ACode := .seq [4] geom_IsData_c1 .ret
def geom_IsData_c3 : ACode := .seq [1, 2] geom_IsData_c0 geom_IsData_c2
def A_geom_IsData : AFn := ⟨geom_IsData_c3, [.tmp 4]⟩
noncomputable def E_geom_IsData : Sums := disp 63 S_geom_ok (disp 64 S_geom_Data disp0)
noncomputable def geom_IsData_c0_d (n : Nat) : SmV := smOps E_geom_IsData geom_IsData_o0
noncomputable def geom_IsData_c1_d (n : Nat) : SmV := smOps E_geom_IsData geom_IsData_o1
noncomputable def geom_IsData_c2_d (n : Nat) : SmV := smSeq [4] (geom_IsData_c1_d n) smRet
noncomputable def geom_IsData_c3_d (n : Nat) : SmV := smSeq [1, 2] (geom_IsData_c0_d n) (geom_IsData_c2_d n)
noncomputable def R_geom_IsData (n : Nat) (args : List Val) (h : Heap) : OptV := (geom_IsData_c3_d n) A_geom_IsData.fin (params 0 args) h
theorem R_geom_IsData_eq (n : Nat) (a0 a1 : Val) (h : Heap) : R_geom_IsData n [a0, a1] h = bnd (cells? a0) fun c1 => bnd (aloadN ((h ++ [some (Row.mk (c1) true)])) 3 ((.c (.p h.length 0)))) fun v2 => bnd (S_geom_ok [v2] ((h ++ [some (Row.mk (c1) true)]))) fun p3 => bnd (gd p3.1 true (some (a1, p3.2)) (some (.no, p3.2))) fun p4 => bnd (gd p3.1 true (bnd (aloadN p4.2 3 ((.c (.p h.length 0)))) fun v5 => some (v5, p4.2)) (some (.no, p4.2))) fun p6 => bnd (gd p3.1 true (bnd (S_geom_Data [p6.1] p6.2) fun p7 => some (p7.1, p7.2)) (some (.no, p6.2))) fun p8 => bnd (gd p3.1 true (bnd (abin .geq p4.1 p8.1) fun v9 => some (v9, p8.2)) (some (.no, p8.2))) fun p10 => bnd (apick p3.1 p10.1 (.c (.b false))) fun v11 => bnd (gd v11 true (some (a1, p10.2)) (some (.no, p10.2))) fun p12 => bnd (gd v11 true (bnd (afAddr ((.c (.p h.length 0))) 0) fun v13 => some (v13, p12.2)) (some (.no, p12.2))) fun p14 => bnd (gd v11 true (bnd (aload1 p14.2 p14.1) fun v15 => some (v15, p14.2)) (some (.no, p14.2))) fun p16 => bnd (gd v11 true (bnd (abin .lss p12.1 p16.1) fun v17 => some (v17, p16.2)) (some (.no, p16.2))) fun p18 => bnd (apick v11 p18.1 (.c (.b false))) fun v19 => some (v19, p18.2) := by kernel_rfl
theorem K_geom_IsData : FnK Try.prog 25 A_geom_IsData E_geom_IsData R_geom_IsData := .mk' (sound1 S_geom_ok_ok (sound1 S_geom_Data_ok sound0)) Try.func25 (by kernel_rfl) (by intro n args h; kernel_rfl)
noncomputable def S_geom_IsData : Fun := tidy (Lim A_geom_IsData E_geom_IsData)
theorem S_geom_IsData_ok : SOk Try.prog 25 S_geom_IsData := K_geom_IsData.sok
theorem S_geom_IsData_flat {n : Nat} {args : List Val} {h h2 : Heap} {v : Val} (he : R_geom_IsData n args (ro h) = some (v, h2)) (hf : v.flat = true) : S_geom_IsData args h = some (v, h) := K_geom_IsData.flat he hf
end Go.Proofs.Ytdgggnlbdoiloaa
end
section
namespace Go.Proofs.Ytdgggnlbdoiloaa
open Go Go.Esc

def mayL (b n : Int) : Bool := decide (16 ≤ b) && decide (b ≤ 512) && decide (8 ≤ n) && decide (n ≤ 128) && decide (n % 8 = 0) && decide (2 + n / 8 < b)

theorem mayL_true {b n : Int} : mayL b n = true ↔ 16 ≤ b ∧ b ≤ 512 ∧ 8 ≤ n ∧ n ≤ 128 ∧ n % 8 = 0 ∧ 2 + n / 8 < b := by
  unfold mayL; simp [and_assoc]
theorem mayL_false {b n : Int} : mayL b n = false ↔ ¬ (16 ≤ b ∧ b ≤ 512 ∧ 8 ≤ n ∧ n ≤ 128 ∧ n % 8 = 0 ∧ 2 + n / 8 < b) := by
  rw [← mayL_true]; simp

abbrev layC (b n m : Int) : List Cell := [.i .i64 b, .i .i64 n, .i .u64 m]

theorem super_Check_eq {b n m : Int} {h : Heap} : S_super_Check [.a (layC b n m)] h = some (.c (.i .i64 (bif mayL b n then 0 else 1)), h) := by
  have key : ∀ g, ∃ g', R_super_Check 0 [.a (layC b n m)] g = some (.c (.i .i64 (bif mayL b n then 0 else 1)), g') := by
    intro g
    rw [R_super_Check_eq]
    have bad : mayL b n = false → (some (Val.c (.i .i64 1), g ++ [some ⟨layC b n m, true⟩])) = some (.c (.i .i64 (bif mayL b n then 0 else 1)), g ++ [some ⟨layC b n m, true⟩]) := fun h => by rw [h]; rfl
    by_cases c1 : b < 16
    · rw [mayL_false.2 (by omega)]
      exact ⟨_, by simp only [esc, esh, Nat.reduceAdd, Nat.reduceMul, Nat.reduceLT, c1, super_Check_j0_eq] <;> rfl⟩
    · by_cases c2 : 512 < b
      · rw [mayL_false.2 (by omega)]
        exact ⟨_, by simp only [esc, esh, Nat.reduceAdd, Nat.reduceMul, Nat.reduceLT, c1, c2, super_Check_j0_eq] <;> rfl⟩
      · by_cases c3 : n < 8
        · rw [mayL_false.2 (by omega)]
          exact ⟨_, by simp only [esc, esh, Nat.reduceAdd, Nat.reduceMul, Nat.reduceLT, c1, c2, c3, super_Check_j0_eq, super_Check_j1_eq] <;> rfl⟩
        · by_cases c4 : 128 < n
          · rw [mayL_false.2 (by omega)]
            exact ⟨_, by simp only [esc, esh, Nat.reduceAdd, Nat.reduceMul, Nat.reduceLT, c1, c2, c3, c4, super_Check_j0_eq, super_Check_j1_eq] <;> rfl⟩
          · have e1 := rem_i (a := n) (b := 8) (k := .i64) (by omega) (by omega)
            by_cases c5 : n % 8 = 0
            · have e2 := quo_i64 (a := n) (b := 8) (by omega) (by omega) (by omega)
              have e3 : IntKind.wrap .i64 (2 + n / 8) = 2 + n / 8 := wrap_i64 (by omega) (by omega)
              by_cases c6 : b ≤ 2 + n / 8
              · rw [mayL_false.2 (by omega)]
                exact ⟨_, by simp only [esc, esh, Nat.reduceAdd, Nat.reduceMul, Nat.reduceLT, c1, c2, c3, c4, e1, c5, e2, e3, c6, super_Check_j0_eq, super_Check_j1_eq] <;> rfl⟩
              · rw [mayL_true.2 (by omega)]
                exact ⟨_, by simp only [esc, esh, Nat.reduceAdd, Nat.reduceMul, Nat.reduceLT, c1, c2, c3, c4, e1, c5, e2, e3, c6, super_Check_j0_eq, super_Check_j1_eq] <;> rfl⟩
            · rw [mayL_false.2 (by omega)]
              exact ⟨_, by simp only [esc, esh, Nat.reduceAdd, Nat.reduceMul, Nat.reduceLT, c1, c2, c3, c4, e1, c5, super_Check_j0_eq, super_Check_j1_eq] <;> rfl⟩
  obtain ⟨g', e⟩ := key (ro h)
  exact S_super_Check_flat e (by simp)

theorem geom_ok_eq {b n m : Int} {h : Heap} : S_geom_ok [.a (layC b n m)] h = some (.c (.b (mayL b n)), h) := by
  have key : ∀ g, ∃ g', R_geom_ok 0 [.a (layC b n m)] g = some (.c (.b (mayL b n)), g') := by
    intro g
    rw [R_geom_ok_eq]
    cases c : mayL b n with
    | true => exact ⟨_, by simp only [esc, esh, Nat.reduceAdd, Nat.reduceMul, Nat.reduceLT, super_Check_eq, c] <;> rfl⟩
    | false => exact ⟨_, by simp only [esc, esh, Nat.reduceAdd, Nat.reduceMul, Nat.reduceLT, super_Check_eq, c, Int.reduceEq] <;> rfl⟩
  obtain ⟨g', e⟩ := key (ro h)
  exact S_geom_ok_flat e (by simp)

theorem geom_Map_eq {h : Heap} : S_geom_Map [] h = some (.c (.i .i64 1), h) :=
  S_geom_Map_flat (n := 0) (h2 := ro h) (by rw [R_geom_Map_eq]) rfl

def tabF (b n : Int) : Int := bif mayL b n then 2 else 0
def tabN (b n : Int) : Int := bif mayL b n then n / 8 else 0
def datF (b n : Int) : Int := tabF b n + tabN b n

theorem geom_Table_eq {b n m : Int} {h : Heap} : S_geom_Table [.a (layC b n m)] h = some (.t [.c (.i .i64 (tabF b n)), .c (.i .i64 (tabN b n))], h) := by
  have key : ∀ g, ∃ g', R_geom_Table 0 [.a (layC b n m)] g = some (.t [.c (.i .i64 (tabF b n)), .c (.i .i64 (tabN b n))], g') := by
    intro g
    rw [R_geom_Table_eq]
    unfold tabF tabN
    cases c : mayL b n with
    | true =>
      have c' := mayL_true.1 c
      have e2 := quo_i64 (a := n) (b := 8) (by omega) (by omega) (by omega)
      have e3 : IntKind.wrap .i64 (1 + 1) = 2 := wrap_i64 (by omega) (by omega)
      exact ⟨_, by simp only [esc, esh, Nat.reduceAdd, Nat.reduceMul, Nat.reduceLT, geom_ok_eq, c, geom_Map_eq, e2, e3] <;> rfl⟩
    | false => exact ⟨_, by simp only [esc, esh, Nat.reduceAdd, Nat.reduceMul, Nat.reduceLT, geom_ok_eq, c] <;> rfl⟩
  obtain ⟨g', e⟩ := key (ro h)
  exact S_geom_Table_flat e (by simp)

theorem datF_range {b n : Int} : 0 ≤ datF b n ∧ datF b n ≤ 18 := by
  unfold datF tabF tabN
  cases c : mayL b n with
  | true => have := mayL_true.1 c; simp only [cond_true]; omega
  | false => simp only [cond_false]; omega

theorem geom_Data_eq {b n m : Int} {h : Heap} : S_geom_Data [.a (layC b n m)] h = some (.c (.i .i64 (datF b n)), h) := by
  have key : ∀ g, ∃ g', R_geom_Data 0 [.a (layC b n m)] g = some (.c (.i .i64 (datF b n)), g') := by
    intro g
    rw [R_geom_Data_eq]
    have hr := datF_range (b := b) (n := n)
    have e3 : IntKind.wrap .i64 (tabF b n + tabN b n) = datF b n := wrap_i64 (by unfold datF at hr; omega) (by unfold datF at hr; omega)
    exact ⟨_, by simp only [esc, esh, Nat.reduceAdd, Nat.reduceMul, Nat.reduceLT, geom_Table_eq, e3] <;> rfl⟩
  obtain ⟨g', e⟩ := key (ro h)
  exact S_geom_Data_flat e (by simp)

def isDatL (b n i : Int) : Bool := mayL b n && decide (datF b n ≤ i) && decide (i < b)

theorem geom_IsData_eq {b n m i : Int} {h : Heap} : S_geom_IsData [.a (layC b n m), .c (.i .i64 i)] h = some (.c (.b (isDatL b n i)), h) := by
  have key : ∀ g, ∃ g', R_geom_IsData 0 [.a (layC b n m), .c (.i .i64 i)] g = some (.c (.b (isDatL b n i)), g') := by
    intro g
    rw [R_geom_IsData_eq]
    unfold isDatL
    cases c : mayL b n with
    | true =>
      by_cases c1 : datF b n ≤ i
      · exact ⟨_, by simp only [esc, esh, Nat.reduceAdd, Nat.reduceMul, Nat.reduceLT, geom_ok_eq, geom_Data_eq, c, c1] <;> rfl⟩
      · exact ⟨_, by simp only [esc, esh, Nat.reduceAdd, Nat.reduceMul, Nat.reduceLT, geom_ok_eq, geom_Data_eq, c, c1] <;> rfl⟩
    | false => exact ⟨_, by simp only [esc, esh, Nat.reduceAdd, Nat.reduceMul, Nat.reduceLT, geom_ok_eq, c] <;> rfl⟩
  obtain ⟨g', e⟩ := key (ro h)
  exact S_geom_IsData_flat e (by simp)

end Go.Proofs.Ytdgggnlbdoiloaa
end
section
namespace Go.Proofs.Ytdgggnlbdoiloaa
open Go Go.Esc

theorem amark_of {h : Heap} {id off len sz : Nat} {cs : List Cell} (hr : rd h id = some ⟨cs, true⟩) (hn : 0 < len) : amark h (.c (.sl id off len sz)) = some (.c (.sl id off len sz)) := by
  simp [amark, hr, hn]

def magicB : List UInt8 := [101, 115, 99, 104, 101, 97, 116, 49]
def supH (b n m : Int) : List UInt8 := magicB ++ bytesI 2 b ++ bytesI 2 n ++ bytesI 8 m
def supB (b n m : Int) : List UInt8 := padB 256 (supH b n m ++ bytesI 4 (mixH (supH b n m) : Nat))
theorem supH_length {b n m : Int} : (supH b n m).length = 20 := by simp [supH, magicB]
theorem supB_length {b n m : Int} : (supB b n m).length = 256 := padB_length (by rw [List.length_append, supH_length, bytesI_length]; omega)

theorem layI_pad {l xs : List UInt8} {a : Nat} (h1 : l.length ≤ a) (h2 : a + xs.length ≤ 256) (h3 : a < 256) : layI (padB 256 l) a xs = padB 256 (l ++ zeros (a - l.length) ++ xs) := by
  unfold layI
  rw [if_pos (by omega)]
  simp only [Int.toNat_natCast]
  rw [List.take_of_length_le (by omega), padB_lay h1 h2]

theorem super_Put_eq {b n m : Int} {h : Heap} (hm0 : 0 ≤ m) (hm1 : m < 18446744073709551616) :
    S_super_Put [.a (layC b n m)] h = some (.t [.a (encB (bif mayL b n then supB b n m else zeros 256)), .c (.i .i64 (bif mayL b n then 0 else 1))], h) := by
  have key : ∀ g, ∃ g', R_super_Put 0 [.a (layC b n m)] g = some (.t [.a (encB (bif mayL b n then supB b n m else zeros 256)), .c (.i .i64 (bif mayL b n then 0 else 1))], g') := by
    intro g
    have hz : (encB (zeros 256)).length = 256 := by rw [encB_length]; exact zeros_length
    have haf : afill (List.replicate 256 (Cell.i .u8 0)) [] = some (List.replicate 256 (Cell.i .u8 0)) := rfl
    rw [zeros_enc] at haf
    rw [R_super_Put_eq, zeros_enc]
    cases c : mayL b n with
    | false =>
      simp only [cond_false]
      generalize zeros 256 = z at *
      exact ⟨_, by simp only [esc, esh, Nat.reduceAdd, Nat.reduceMul, Nat.reduceLT, super_Check_eq, c, haf, hz, Int.reduceEq] <;> rfl⟩
    | true =>
      simp only [cond_true]
      have e7 : afill [Cell.i .u8 0, .i .u8 0, .i .u8 0, .i .u8 0, .i .u8 0, .i .u8 0, .i .u8 0, .i .u8 0] [(0, 1, .c (.i .u8 101)), (1, 1, .c (.i .u8 115)), (2, 1, .c (.i .u8 99)), (3, 1, .c (.i .u8 104)), (4, 1, .c (.i .u8 101)), (5, 1, .c (.i .u8 97)), (6, 1, .c (.i .u8 116)), (7, 1, .c (.i .u8 49))] = some (encB magicB) := rfl
      have hmk := amark_of (h := g ++ [some ⟨layC b n m, true⟩, some ⟨encB (zeros 256), true⟩, some ⟨encB magicB, true⟩]) (id := g.length + 2) (off := 0) (len := 8) (sz := 1) (cs := encB magicB) (by simp) (by omega)
      have ho := num_Of_eq (h := g ++ [some ⟨layC b n m, true⟩, some ⟨encB (zeros 256), true⟩, some ⟨encB magicB, true⟩]) (v := .c (.sl (g.length + 2) 0 8 1)) (nv := 8) (data := magicB) (Has.tr (by simp) (by simp [encB_length, magicB]) (noX_encB _)) (by decide)
      rw [of_pad (by decide)] at ho
      have lm : magicB.length = 8 := rfl
      have w1 := fun h => num_With_eq (h := h) (l := padB 256 magicB) (padB_length (by decide)) (a := 8) (w := 2) (v := b)
      have e1 := withB_pad (l := magicB) (a := 8) (w := 2) (v := b) (by decide) (by omega) (by omega) (by omega)
      simp only [lm, Nat.sub_self, show zeros 0 = [] from rfl, List.append_nil, Int.cast_ofNat_Int] at e1
      simp only [e1] at w1
      have l1 : (magicB ++ bytesI 2 b).length = 10 := by simp [lm]
      have w2 := fun h => num_With_eq (h := h) (l := padB 256 (magicB ++ bytesI 2 b)) (padB_length (by omega)) (a := 10) (w := 2) (v := n)
      have e2 := withB_pad (l := magicB ++ bytesI 2 b) (a := 10) (w := 2) (v := n) (by omega) (by omega) (by omega) (by omega)
      simp only [l1, Nat.sub_self, show zeros 0 = [] from rfl, List.append_nil, Int.cast_ofNat_Int] at e2
      simp only [e2] at w2
      have l2 : (magicB ++ bytesI 2 b ++ bytesI 2 n).length = 12 := by simp [lm]
      have L0 : (encB (padB 256 magicB)).length = 256 := by rw [encB_length, padB_length (by decide)]
      have L1 : (encB (padB 256 (magicB ++ bytesI 2 b))).length = 256 := by rw [encB_length, padB_length (by omega)]
      have L2 : (encB (padB 256 (magicB ++ bytesI 2 b ++ bytesI 2 n))).length = 256 := by rw [encB_length, padB_length (by omega)]
      have L3 : (encB (padB 256 (supH b n m))).length = 256 := by rw [encB_length, padB_length (by rw [supH_length]; omega)]
      have L4 : (encB (supB b n m)).length = 256 := by rw [encB_length, supB_length]
      have mk8 : amkn (.c (.i .i64 8)) (.c (.i .i64 8)) = some 8 := rfl
      have hp := num_Put_eq (h := g ++ [some ⟨layC b n m, true⟩, some ⟨encB (zeros 256), true⟩, some ⟨encB magicB, true⟩, some ⟨encB (padB 256 (magicB ++ bytesI 2 b ++ bytesI 2 n)), true⟩, some ⟨encB (zeros 8), true⟩]) (x := .c (.sl (g.length + 4) 0 8 1)) (nv := 8) (l := zeros 8) (a := 0) (w := 8) (v := m) (Has.tr (by simp) (by simp [encB_length]) (noX_encB _)) (by simp)
      have ep : putN (zeros 8) 0 8 m = some (bytesI 8 m) := by
        unfold putN
        rw [if_pos ⟨by omega, by decide⟩]
        unfold layB
        simp [zeros]
      rw [ep] at hp
      simp only [Option.getD_some, Option.isSome_some, bytesI_length] at hp
      have hl := num_Lay_eq (h := g ++ [some ⟨layC b n m, true⟩, some ⟨encB (zeros 256), true⟩, some ⟨encB magicB, true⟩, some ⟨encB (padB 256 (magicB ++ bytesI 2 b ++ bytesI 2 n)), true⟩, some ⟨encB (zeros 8), true⟩, some ⟨encB (bytesI 8 m), true⟩]) (v := .c (.sl (g.length + 5) 0 8 1)) (nv := 8) (data := bytesI 8 m) (l := padB 256 (magicB ++ bytesI 2 b ++ bytesI 2 n)) (a := 12) (Has.tr (by simp) (by simp [encB_length]) (noX_encB _)) (padB_length (by omega)) (by simp)
      have e3 := layI_pad (l := magicB ++ bytesI 2 b ++ bytesI 2 n) (xs := bytesI 8 m) (a := 12) (by omega) (by simp) (by omega)
      simp only [l2, Nat.sub_self, show zeros 0 = [] from rfl, List.append_nil, Int.cast_ofNat_Int] at e3
      rw [e3] at hl
      have hc := fun h => num_Cut_eq (h := h) (l := padB 256 (supH b n m)) (padB_length (by rw [supH_length]; omega)) (a := 0) (n := 20)
      have e4 : cutB (padB 256 (supH b n m)) 0 20 = supH b n m := by
        unfold cutB padB
        rw [if_pos (by omega)]
        simp only [Int.toNat_zero, List.drop_zero]
        exact List.take_left' supH_length
      simp only [e4, supH_length] at hc
      have hstr := (Has.tr (h := g ++ [some ⟨layC b n m, true⟩, some ⟨encB (zeros 256), true⟩, some ⟨encB magicB, true⟩, some ⟨encB (padB 256 (supH b n m)), true⟩, some ⟨encB (zeros 8), true⟩, some ⟨encB (bytesI 8 m), true⟩, some ⟨encB (supH b n m), true⟩]) (id := g.length + 6) (sz := 1) (n := 20) (cs := encB (supH b n m)) (by simp) (by rw [encB_length, supH_length]) (noX_encB _)).str
      have hmx := fun h => mix_Of_eq (s := supH b n m) (h := h) (by rw [supH_length]; omega)
      have hmlt := mixH_lt (s := supH b n m)
      have e5 : IntKind.wrap .i64 ((mixH (supH b n m) : Nat) : Int) = (mixH (supH b n m) : Nat) := wrap_i64 (by omega) (by omega)
      have w3 := fun h => num_With_eq (h := h) (l := padB 256 (supH b n m)) (padB_length (by rw [supH_length]; omega)) (a := 20) (w := 4) (v := (mixH (supH b n m) : Nat))
      have e6 := withB_pad (l := supH b n m) (a := 20) (w := 4) (v := (mixH (supH b n m) : Nat)) (by rw [supH_length]; omega) (by omega) (by omega) (by omega)
      simp only [supH_length, Nat.sub_self, show zeros 0 = [] from rfl, List.append_nil, Int.cast_ofNat_Int] at e6
      simp only [e6] at w3
      have eS : magicB ++ bytesI 2 b ++ bytesI 2 n ++ bytesI 8 m = supH b n m := rfl
      rw [eS] at hl
      have rz := rows_zero 8
      change ∀ h, S_num_With [_, _, _, _] h = some (.a (encB (supB b n m)), h) at w3
      generalize supB b n m = SB at *
      generalize padB 256 magicB = P0 at *
      generalize padB 256 (magicB ++ bytesI 2 b) = P1 at *
      generalize padB 256 (magicB ++ bytesI 2 b ++ bytesI 2 n) = P2 at *
      generalize padB 256 (supH b n m) = P3 at *
      simp only [esc] at hp
      generalize zeros 256 = z at *
      generalize zeros 8 = z8 at *
      exact ⟨_, by simp only [esc, esh, Nat.reduceAdd, Nat.reduceMul, Nat.reduceLT, super_Check_eq, c, e7, hmk, ho, hz, L0, w1, L1, w2, L2, mk8, rz, hp, hl, L3, hc, hstr, hmx, e5, w3, L4] <;> rfl⟩
  obtain ⟨g', e⟩ := key (ro h)
  exact S_super_Put_flat e (by simp)

theorem at_field {b : List UInt8} {a w : Nat} (hb : b.length = 256) (h1 : a + w ≤ 256) (hw : 1 ≤ w) (hw4 : w ≤ 4) : ((atN b a w : Nat) : Int) = fieldN b a w := by
  unfold atN fieldN
  rw [if_pos ⟨by omega, thereI_true.2 (by omega)⟩]
  simp only [Int.toNat_natCast]

theorem getN_cut {b : List UInt8} (hb : b.length = 256) : getN (cutB b 12 8) 0 8 = some (le ((b.drop 12).take 8)) := by
  have hc : cutB b 12 8 = (b.drop 12).take 8 := by
    unfold cutB
    rw [if_pos (by omega)]; rfl
  have hl : ((b.drop 12).take 8).length = 8 := by simp; omega
  unfold getN
  rw [hc, hl, if_pos ⟨by omega, by decide⟩]
  simp only [Int.toNat_zero, List.drop_zero]
  rw [List.take_of_length_le (by rw [hl]; decide)]

def okS (b : List UInt8) : Bool := mayL (fieldN b 8 2) (fieldN b 10 2) && decide (supB (fieldN b 8 2) (fieldN b 10 2) (fieldN b 12 8) = b)
def layS (b : List UInt8) : List Cell := bif okS b then layC (fieldN b 8 2) (fieldN b 10 2) (fieldN b 12 8) else layC 0 0 0

theorem field8_range (b : List UInt8) : 0 ≤ fieldN b 12 8 ∧ fieldN b 12 8 < 18446744073709551616 := by
  unfold fieldN
  have h1 := le_lt ((b.drop 12).take 8)
  have h2 : ((b.drop 12).take 8).length ≤ 8 := by simp; omega
  have h3 := pow256_le h2
  have h4 : (256 : Nat) ^ 8 = 18446744073709551616 := by decide
  omega


end Go.Proofs.Ytdgggnlbdoiloaa
end
section
namespace Go.Proofs.Ytdgggnlbdoiloaa
open Go Go.Esc

theorem super_Get_eq {b : List UInt8} {h : Heap} (hb : b.length = 256) : S_super_Get [.a (encB b)] h = some (.t [.a (layS b), .c (.i .i64 (bif okS b then 0 else 13))], h) := by
  have key : ∀ g, ∃ g', R_super_Get 0 [.a (encB b)] g = some (.t [.a (layS b), .c (.i .i64 (bif okS b then 0 else 13))], g') := by
    intro g
    have hl : (encB b).length = 256 := by rw [encB_length, hb]
    have hc := num_Cut_eq (h := g ++ [some ⟨encB b, true⟩, some ⟨layC 0 0 0, true⟩]) hb (a := 12) (n := 8)
    have hcl : (cutB b 12 8).length = 8 := by unfold cutB; rw [if_pos (by omega)]; simp; omega
    rw [hcl] at hc
    have hg := num_Get_eq (h := g ++ [some ⟨encB b, true⟩, some ⟨layC 0 0 0, true⟩, some ⟨encB (cutB b 12 8), true⟩]) (v := .c (.sl (g.length + 2) 0 8 1)) (nv := 8) (l := cutB b 12 8) (Has.tr (by simp) (by rw [encB_length, hcl]) (noX_encB _)) (a := 0) (w := 8) (by rw [hcl]; omega)
    rw [getN_cut hb] at hg
    simp only [Option.getD_some, Option.isSome_some] at hg
    have a1 := fun h => num_At_eq (h := h) hb (a := 8) (w := 2)
    have a2 := fun h => num_At_eq (h := h) hb (a := 10) (w := 2)
    have f1 := at_field (a := 8) (w := 2) hb (by omega) (by omega) (by omega)
    have f2 := at_field (a := 10) (w := 2) hb (by omega) (by omega) (by omega)
    simp only [Int.cast_ofNat_Int] at f1 f2
    simp only [f1] at a1
    simp only [f2] at a2
    have e12 : ((le ((b.drop 12).take 8) : Nat) : Int) = fieldN b 12 8 := rfl
    rw [e12] at hg
    have ef : ∀ x y z : Int, afill (layC 0 0 0) [(0, 1, .c (.i .i64 x)), (1, 1, .c (.i .i64 y)), (2, 1, .c (.i .u64 z))] = some (layC x y z) := fun _ _ _ => rfl
    have ef0 : afill (layC 0 0 0) [] = some (layC 0 0 0) := rfl
    have hp := fun h => super_Put_eq (b := fieldN b 8 2) (n := fieldN b 10 2) (m := fieldN b 12 8) (h := h) (field8_range b).1 (field8_range b).2
    have hz : (List.replicate 256 (Cell.i .u8 0)).length = 256 := List.length_replicate
    have hS : (encB (supB (fieldN b 8 2) (fieldN b 10 2) (fieldN b 12 8))).length = 256 := by rw [encB_length, supB_length]
    have hZ : (encB (zeros 256)).length = 256 := by rw [encB_length]; exact zeros_length
    have hq := aeq_t (l := supB (fieldN b 8 2) (fieldN b 10 2) (fieldN b 12 8)) (m := b) (n := 256) supB_length hb
    simp only [esc] at hc
    rw [R_super_Get_eq]
    unfold layS okS
    generalize List.replicate 256 (Cell.i .u8 0) = z at *
    cases c : mayL (fieldN b 8 2) (fieldN b 10 2) with
    | false =>
      simp only [c, cond_false] at hp
      generalize zeros 256 = zz at *
      exact ⟨_, by simp only [esc, esh, Nat.reduceAdd, Nat.reduceMul, Nat.reduceLT, hl, hc, hg, a1, a2, ef, ef0, hp, hz, hZ, Bool.false_and, Int.reduceEq] <;> rfl⟩
    | true =>
      simp only [c, cond_true] at hp
      cases c2 : decide (supB (fieldN b 8 2) (fieldN b 10 2) (fieldN b 12 8) = b) with
      | false =>
        rw [c2] at hq
        exact ⟨_, by simp only [esc, esh, Nat.reduceAdd, Nat.reduceMul, Nat.reduceLT, hl, hc, hg, a1, a2, ef, ef0, hp, hz, hS, hq, Bool.and_false] <;> rfl⟩
      | true =>
        rw [c2] at hq
        exact ⟨_, by simp only [esc, esh, Nat.reduceAdd, Nat.reduceMul, Nat.reduceLT, hl, hc, hg, a1, a2, ef, ef0, hp, hz, hS, hq, Bool.and_true] <;> rfl⟩
  obtain ⟨g', e⟩ := key (ro h)
  refine S_super_Get_flat e ?_
  unfold layS
  cases okS b <;> simp


end Go.Proofs.Ytdgggnlbdoiloaa
end
section
namespace Go.Proofs.Ytdgggnlbdoiloaa
open Go Go.Esc
set_option maxRecDepth 100000
def inode_Blocks_o0 : List AOper := [{ dst := some 2, op := .mv (.v (.c (.i .i64 0))) }]
def inode_Blocks_c0 : ACode := .ops inode_Blocks_o0
def inode_Blocks_o1 : List AOper := [{ dst := some 4, op := .mv (.t 0) }, { dst := some 5, op := .bin .lss (.t 4) (.v (.c (.i .i64 1))) }, { dst := some 3, op := .mv (.t 5) }]
def inode_Blocks_c1 : ACode := .ops inode_Blocks_o1
def inode_Blocks_o2 : List AOper := [{ dst := some 2, op := .mv (.v (.c (.i .i64 0))) }]
def inode_Blocks_c2 : ACode := .ops inode_Blocks_o2
def inode_Blocks_c3 : ACode := .seq [2] inode_Blocks_c2 .ret
def inode_Blocks_o3 : List AOper := [{ dst := some 7, op := .mv (.t 0) }, { dst := some 8, op := .bin .gtr (.t 7) (.v (.c (.i .i64 34304))) }, { dst := some 6, op := .mv (.t 8) }]
def inode_Blocks_c4 : ACode := .ops inode_Blocks_o3
def inode_Blocks_o4 : List AOper := [{ dst := some 2, op := .mv (.v (.c (.i .i64 134))) }]
def inode_Blocks_c5 : ACode := .ops inode_Blocks_o4
def inode_Blocks_c6 : ACode := .seq [2] inode_Blocks_c5 .ret
def inode_Blocks_c7 : ACode := .cond (.t 6) inode_Blocks_c6 .skip
def inode_Blocks_c8 : ACode := .seq [0, 6] inode_Blocks_c4 inode_Blocks_c7
def inode_Blocks_c9 : ACode := .cond (.t 3) inode_Blocks_c3 inode_Blocks_c8
def inode_Blocks_c10 : ACode := .seq [0, 3] inode_Blocks_c1 inode_Blocks_c9
def inode_Blocks_c11 : ACode := .block 0 inode_Blocks_c10
def inode_Blocks_o5 : List AOper := [{ dst := some 9, op := .mv (.t 0) }, { dst := some 10, op := .bin .add (.t 9) (.v (.c (.i .i64 256))) }, { dst := some 11, op := .bin .sub (.t 10) (.v (.c (.i .i64 1))) }, { dst := some 12, op := .bin .quo (.t 11) (.v (.c (.i .i64 256))) }, { dst := some 2, op := .mv (.t 12) }]
def inode_Blocks_c12 : ACode := .ops inode_Blocks_o5
def inode_Blocks_c13 : ACode := .seq [2] inode_Blocks_c12 .ret
def inode_Blocks_c14 : ACode := .seq [0] inode_Blocks_c11 inode_Blocks_c13
def inode_Blocks_c15 : ACode := .seq [0] inode_Blocks_c0 inode_Blocks_c14
def A_inode_Blocks : AFn := ⟨inode_Blocks_c15, [.tmp 2]⟩
noncomputable def E_inode_Blocks : Sums := disp0
noncomputable def inode_Blocks_c0_d (n : Nat) : SmV := smOps E_inode_Blocks inode_Blocks_o0
noncomputable def inode_Blocks_c1_d (n : Nat) : SmV := smOps E_inode_Blocks inode_Blocks_o1
noncomputable def inode_Blocks_c2_d (n : Nat) : SmV := smOps E_inode_Blocks inode_Blocks_o2
noncomputable def inode_Blocks_c3_d (n : Nat) : SmV := smSeq [2] (inode_Blocks_c2_d n) smRet
noncomputable def inode_Blocks_c4_d (n : Nat) : SmV := smOps E_inode_Blocks inode_Blocks_o3
noncomputable def inode_Blocks_c5_d (n : Nat) : SmV := smOps E_inode_Blocks inode_Blocks_o4
noncomputable def inode_Blocks_c6_d (n : Nat) : SmV := smSeq [2] (inode_Blocks_c5_d n) smRet
noncomputable def inode_Blocks_c7_d (n : Nat) : SmV := smCond (.t 6) (inode_Blocks_c6_d n) smSkip
noncomputable def inode_Blocks_c8_d (n : Nat) : SmV := smSeq [0, 6] (inode_Blocks_c4_d n) (inode_Blocks_c7_d n)
noncomputable def inode_Blocks_c9_d (n : Nat) : SmV := smCond (.t 3) (inode_Blocks_c3_d n) (inode_Blocks_c8_d n)
noncomputable def inode_Blocks_c10_d (n : Nat) : SmV := smSeq [0, 3] (inode_Blocks_c1_d n) (inode_Blocks_c9_d n)
noncomputable def inode_Blocks_c11_d (n : Nat) : SmV := smBlock 0 (inode_Blocks_c10_d n)
noncomputable def inode_Blocks_c12_d (n : Nat) : SmV := smOps E_inode_Blocks inode_Blocks_o5
noncomputable def inode_Blocks_c13_d (n : Nat) : SmV := smSeq [2] (inode_Blocks_c12_d n) smRet
noncomputable def inode_Blocks_c14_d (n : Nat) : SmV := smSeq [0] (inode_Blocks_c11_d n) (inode_Blocks_c13_d n)
noncomputable def inode_Blocks_c15_d (n : Nat) : SmV := smSeq [0] (inode_Blocks_c0_d n) (inode_Blocks_c14_d n)
noncomputable def R_inode_Blocks (n : Nat) (args : List Val) (h : Heap) : OptV := (inode_Blocks_c15_d n) A_inode_Blocks.fin (params 0 args) h
theorem R_inode_Blocks_eq (n : Nat) (a0 : Val) (h : Heap) : R_inode_Blocks n [a0] h = bnd (abin .lss a0 (.c (.i .i64 1))) fun v1 => cnd v1 (some ((.c (.i .i64 0)), h)) (bnd (abin .gtr a0 (.c (.i .i64 34304))) fun v2 => cnd v2 (some ((.c (.i .i64 134)), h)) (bnd (abin .add a0 (.c (.i .i64 256))) fun v3 => bnd (abin .sub v3 (.c (.i .i64 1))) fun v4 => bnd (abin .quo v4 (.c (.i .i64 256))) fun v5 => some (v5, h))) := by kernel_rfl
theorem K_inode_Blocks : FnK Try.prog 66 A_inode_Blocks E_inode_Blocks R_inode_Blocks := .mk' (sound0) Try.func66 (by kernel_rfl) (by intro n args h; kernel_rfl)
noncomputable def S_inode_Blocks : Fun := tidy (Lim A_inode_Blocks E_inode_Blocks)
theorem S_inode_Blocks_ok : SOk Try.prog 66 S_inode_Blocks := K_inode_Blocks.sok
theorem S_inode_Blocks_flat {n : Nat} {args : List Val} {h h2 : Heap} {v : Val} (he : R_inode_Blocks n args (ro h) = some (v, h2)) (hf : v.flat = true) : S_inode_Blocks args h = some (v, h) := K_inode_Blocks.flat he hf
end Go.Proofs.Ytdgggnlbdoiloaa
end
section
namespace Go.Proofs.Ytdgggnlbdoiloaa
open Go Go.Esc
set_option maxRecDepth 100000
def view_Of_o0 : List AOper := [{ dst := some 2, op := .alloc ([.i .i64 0, .i .i64 0, .i .u64 0, .nf]) }, { dst := some 3, op := .mv (.v (.c (.i .i64 0))) }]
def view_Of_c0 : ACode := .ops view_Of_o0
def view_Of_o1 : List AOper := [{ dst := some 7, op := .mv (.t 0) }, { dst := some 8, op := .len (.t 7) }, { dst := some 9, op := .bin .eql (.t 8) (.v (.c (.i .i64 0))) }]
def view_Of_c1 : ACode := .ops view_Of_o1
def view_Of_o2 : List AOper := [{ dst := some 10, op := .build ([.i .i64 0, .i .i64 0, .i .u64 0, .nf]) [] }, { dst := none, op := .storeN 4 (.t 2) (.t 10) }, { dst := some 3, op := .mv (.v (.c (.i .i64 13))) }]
def view_Of_c2 : ACode := .ops view_Of_o2
def view_Of_c3 : ACode := .seq [2, 3] view_Of_c2 .ret
def view_Of_c4 : ACode := .cond (.t 9) view_Of_c3 .skip
def view_Of_c5 : ACode := .seq [0, 2, 9] view_Of_c1 view_Of_c4
def view_Of_o3 : List AOper := [{ dst := some 12, op := .mv (.t 0) }, { dst := some 13, op := .iAddrL 256 (.t 12) (.v (.c (.i .i64 0))) }, { dst := some 14, op := .loadN 256 (.t 13) }, { dst := some 15, op := .call 53 [(.t 14)] }, { dst := some 11, op := .mv (.t 15) }, { dst := some 16, op := .ext (.t 11) 0 }, { dst := some 17, op := .ext (.t 11) 1 }, { dst := some 4, op := .alloc ([.i .i64 0, .i .i64 0, .i .u64 0]) }, { dst := none, op := .storeN 3 (.t 4) (.t 16) }, { dst := some 5, op := .mv (.t 17) }]
def view_Of_c6 : ACode := .ops view_Of_o3
def view_Of_o4 : List AOper := [{ dst := some 18, op := .mv (.t 5) }, { dst := some 19, op := .bin .neq (.t 18) (.v (.c (.i .i64 0))) }, { dst := some 20, op := .mv (.t 19) }, { dst := some 21, op := .fAddr (.t 4) 0, guard := some (20, false) }, { dst := some 22, op := .load1 (.t 21), guard := some (20, false) }, { dst := some 23, op := .mv (.t 0), guard := some (20, false) }, { dst := some 24, op := .len (.t 23), guard := some (20, false) }, { dst := some 25, op := .bin .neq (.t 22) (.t 24), guard := some (20, false) }, { dst := some 26, op := .pick (.t 20) (.v (.c (.b true))) (.t 25) }]
def view_Of_c7 : ACode := .ops view_Of_o4
def view_Of_o5 : List AOper := [{ dst := some 27, op := .build ([.i .i64 0, .i .i64 0, .i .u64 0, .nf]) [] }, { dst := none, op := .storeN 4 (.t 2) (.t 27) }, { dst := some 3, op := .mv (.v (.c (.i .i64 13))) }]
def view_Of_c8 : ACode := .ops view_Of_o5
def view_Of_c9 : ACode := .seq [2, 3] view_Of_c8 .ret
def view_Of_c10 : ACode := .cond (.t 26) view_Of_c9 .skip
def view_Of_c11 : ACode := .seq [0, 2, 4, 26] view_Of_c7 view_Of_c10
def view_Of_o6 : List AOper := [{ dst := some 28, op := .buildSl 256 0 ([]) [] }, { dst := some 29, op := .mv (.t 0) }, { dst := some 30, op := .app 256 (.t 28) (.t 29) }, { dst := some 6, op := .alloc ([.ns]) }, { dst := none, op := .store1 (.t 6) (.t 30) }]
def view_Of_c12 : ACode := .ops view_Of_o6
def view_Of_o7 : List AOper := [{ dst := some 31, op := .loadN 3 (.t 4) }, { dst := some 32, op := .mkf 54 [(.t 6)] }, { dst := some 33, op := .build ([.i .i64 0, .i .i64 0, .i .u64 0, .nf]) [(0, 3, (.t 31)), (3, 1, (.t 32))] }, { dst := none, op := .storeN 4 (.t 2) (.t 33) }, { dst := some 3, op := .mv (.v (.c (.i .i64 0))) }]
def view_Of_c13 : ACode := .ops view_Of_o7
def view_Of_c14 : ACode := .seq [2, 3] view_Of_c13 .ret
def view_Of_c15 : ACode := .seq [2, 4, 6] view_Of_c12 view_Of_c14
def view_Of_c16 : ACode := .seq [0, 2, 4] view_Of_c11 view_Of_c15
def view_Of_c17 : ACode := .seq [0, 2, 4, 5] view_Of_c6 view_Of_c16
def view_Of_c18 : ACode := .seq [0, 2] view_Of_c5 view_Of_c17
def view_Of_c19 : ACode := .seq [0, 2] view_Of_c0 view_Of_c18
def A_view_Of : AFn := ⟨view_Of_c19, [.cellN 2 4, .tmp 3]⟩
noncomputable def E_view_Of : Sums := disp 53 S_super_Get disp0
noncomputable def view_Of_c0_d (n : Nat) : SmV := smOps E_view_Of view_Of_o0
noncomputable def view_Of_c1_d (n : Nat) : SmV := smOps E_view_Of view_Of_o1
noncomputable def view_Of_c2_d (n : Nat) : SmV := smOps E_view_Of view_Of_o2
noncomputable def view_Of_c3_d (n : Nat) : SmV := smSeq [2, 3] (view_Of_c2_d n) smRet
noncomputable def view_Of_c4_d (n : Nat) : SmV := smCond (.t 9) (view_Of_c3_d n) smSkip
noncomputable def view_Of_c5_d (n : Nat) : SmV := smSeq [0, 2, 9] (view_Of_c1_d n) (view_Of_c4_d n)
noncomputable def view_Of_c6_d (n : Nat) : SmV := smOps E_view_Of view_Of_o3
noncomputable def view_Of_c7_d (n : Nat) : SmV := smOps E_view_Of view_Of_o4
noncomputable def view_Of_c8_d (n : Nat) : SmV := smOps E_view_Of view_Of_o5
noncomputable def view_Of_c9_d (n : Nat) : SmV := smSeq [2, 3] (view_Of_c8_d n) smRet
noncomputable def view_Of_c10_d (n : Nat) : SmV := smCond (.t 26) (view_Of_c9_d n) smSkip
noncomputable def view_Of_c11_d (n : Nat) : SmV := smSeq [0, 2, 4, 26] (view_Of_c7_d n) (view_Of_c10_d n)
noncomputable def view_Of_c12_d (n : Nat) : SmV := smOps E_view_Of view_Of_o6
noncomputable def view_Of_c13_d (n : Nat) : SmV := smOps E_view_Of view_Of_o7
noncomputable def view_Of_c14_d (n : Nat) : SmV := smSeq [2, 3] (view_Of_c13_d n) smRet
noncomputable def view_Of_c15_d (n : Nat) : SmV := smSeq [2, 4, 6] (view_Of_c12_d n) (view_Of_c14_d n)
noncomputable def view_Of_c16_d (n : Nat) : SmV := smSeq [0, 2, 4] (view_Of_c11_d n) (view_Of_c15_d n)
noncomputable def view_Of_c17_d (n : Nat) : SmV := smSeq [0, 2, 4, 5] (view_Of_c6_d n) (view_Of_c16_d n)
noncomputable def view_Of_c18_d (n : Nat) : SmV := smSeq [0, 2] (view_Of_c5_d n) (view_Of_c17_d n)
noncomputable def view_Of_c19_d (n : Nat) : SmV := smSeq [0, 2] (view_Of_c0_d n) (view_Of_c18_d n)
noncomputable def R_view_Of (n : Nat) (args : List Val) (h : Heap) : OptV := (view_Of_c19_d n) A_view_Of.fin (params 0 args) h
theorem R_view_Of_eq (n : Nat) (a0 : Val) (h : Heap) : R_view_Of n [a0] h = bnd (alen a0) fun v1 => bnd (abin .eql v1 (.c (.i .i64 0))) fun v2 => cnd v2 (bnd (afill ([.i .i64 0, .i .i64 0, .i .u64 0, .nf]) []) fun c3 => bnd (astoreN ((h ++ [some (Row.mk ([.i .i64 0, .i .i64 0, .i .u64 0, .nf]) true)])) 4 ((.c (.p h.length 0))) ((.a c3))) fun h4 => tupN [aloadN h4 4 ((.c (.p h.length 0))), some (.c (.i .i64 13))] h4) (bnd (aiAddrL 256 a0 (.c (.i .i64 0))) fun v5 => bnd (aloadN ((h ++ [some (Row.mk ([.i .i64 0, .i .i64 0, .i .u64 0, .nf]) true)])) 256 v5) fun v6 => bnd (S_super_Get [v6] ((h ++ [some (Row.mk ([.i .i64 0, .i .i64 0, .i .u64 0, .nf]) true)]))) fun p7 => bnd (aext p7.1 0) fun v8 => bnd (aext p7.1 1) fun v9 => bnd (astoreN ((p7.2 ++ [some (Row.mk ([.i .i64 0, .i .i64 0, .i .u64 0]) true)])) 3 ((.c (.p p7.2.length 0))) v8) fun h10 => bnd (abin .neq v9 (.c (.i .i64 0))) fun v11 => bnd (gd v11 false (bnd (afAddr ((.c (.p p7.2.length 0))) 0) fun v12 => some (v12, h10)) (some (.no, h10))) fun p13 => bnd (gd v11 false (bnd (aload1 p13.2 p13.1) fun v14 => some (v14, p13.2)) (some (.no, p13.2))) fun p15 => bnd (gd v11 false (some (a0, p15.2)) (some (.no, p15.2))) fun p16 => bnd (gd v11 false (bnd (alen p16.1) fun v17 => some (v17, p16.2)) (some (.no, p16.2))) fun p18 => bnd (gd v11 false (bnd (abin .neq p15.1 p18.1) fun v19 => some (v19, p18.2)) (some (.no, p18.2))) fun p20 => bnd (apick v11 (.c (.b true)) p20.1) fun v21 => cnd v21 (bnd (afill ([.i .i64 0, .i .i64 0, .i .u64 0, .nf]) []) fun c22 => bnd (astoreN p20.2 4 ((.c (.p h.length 0))) ((.a c22))) fun h23 => tupN [aloadN h23 4 ((.c (.p h.length 0))), some (.c (.i .i64 13))] h23) (bnd (afill ([]) []) fun c24 => bnd (aapp ((p20.2 ++ [some (Row.mk (c24) true)])) 256 ((.c (.sl p20.2.length 0 0 256))) a0) fun p25 => bnd (astore1 ((p25.2 ++ [some (Row.mk ([.ns]) true)])) ((.c (.p p25.2.length 0))) p25.1) fun h26 => bnd (aloadN h26 3 ((.c (.p p7.2.length 0)))) fun v27 => bnd (amkf 54 [(.c (.p p25.2.length 0))]) fun v28 => bnd (afill ([.i .i64 0, .i .i64 0, .i .u64 0, .nf]) [(0, 3, v27), (3, 1, v28)]) fun c29 => bnd (astoreN h26 4 ((.c (.p h.length 0))) ((.a c29))) fun h30 => tupN [aloadN h30 4 ((.c (.p h.length 0))), some (.c (.i .i64 0))] h30)) := by kernel_rfl
theorem K_view_Of : FnK Try.prog 15 A_view_Of E_view_Of R_view_Of := .mk' (sound1 S_super_Get_ok sound0) Try.func15 (by kernel_rfl) (by intro n args h; kernel_rfl)
noncomputable def S_view_Of : Fun := Lim A_view_Of E_view_Of
theorem S_view_Of_ok : SOk Try.prog 15 S_view_Of := K_view_Of.ok
theorem S_view_Of_of {n : Nat} {args : List Val} {h : Heap} {p : Val × Heap} (he : R_view_Of n args h = some p) : S_view_Of args h = some p := K_view_Of.of he
def view_View_there_o0 : List AOper := [{ dst := some 2, op := .box (.t 0) }, { dst := some 4, op := .mv (.v (.c (.b false))) }]
def view_View_there_c0 : ACode := .ops view_View_there_o0
def view_View_there_o1 : List AOper := [{ dst := some 5, op := .fAddr (.t 2) 3 }, { dst := some 6, op := .load1 (.t 5) }, { dst := some 7, op := .eqN true true (.t 6) }, { dst := some 8, op := .mv (.t 7) }, { dst := some 9, op := .mv (.t 1), guard := some (8, true) }, { dst := some 10, op := .bin .geq (.t 9) (.v (.c (.i .i64 0))), guard := some (8, true) }, { dst := some 11, op := .pick (.t 8) (.t 10) (.v (.c (.b false))) }, { dst := some 12, op := .mv (.t 11) }, { dst := some 13, op := .mv (.t 1), guard := some (12, true) }, { dst := some 14, op := .fAddr (.t 2) 0, guard := some (12, true) }, { dst := some 15, op := .fAddr (.t 14) 0, guard := some (12, true) }, { dst := some 16, op := .load1 (.t 15), guard := some (12, true) }, { dst := some 17, op := .bin .lss (.t 13) (.t 16), guard := some (12, true) }, { dst := some 18, op := .pick (.t 12) (.t 17) (.v (.c (.b false))) }, { dst := some 4, op := .mv (.t 18) }]
def view_View_there_c1 : ACode := .ops view_View_there_o1
def view_View_there_c2 : ACode := .seq [4] view_View_there_c1 .ret
def view_View_there_c3 : ACode := .seq [1, 2] view_View_there_c0 view_View_there_c2
def A_view_View_there : AFn := ⟨view_View_there_c3, [.tmp 4]⟩
noncomputable def E_view_View_there : Sums := disp0
noncomputable def view_View_there_c0_d (n : Nat) : SmV := smOps E_view_View_there view_View_there_o0
noncomputable def view_View_there_c1_d (n : Nat) : SmV := smOps E_view_View_there view_View_there_o1
noncomputable def view_View_there_c2_d (n : Nat) : SmV := smSeq [4] (view_View_there_c1_d n) smRet
noncomputable def view_View_there_c3_d (n : Nat) : SmV := smSeq [1, 2] (view_View_there_c0_d n) (view_View_there_c2_d n)
noncomputable def R_view_View_there (n : Nat) (args : List Val) (h : Heap) : OptV := (view_View_there_c3_d n) A_view_View_there.fin (params 0 args) h
theorem R_view_View_there_eq (n : Nat) (a0 a1 : Val) (h : Heap) : R_view_View_there n [a0, a1] h = bnd (cells? a0) fun c1 => bnd (afAddr ((.c (.p h.length 0))) 3) fun v2 => bnd (aload1 ((h ++ [some (Row.mk (c1) true)])) v2) fun v3 => bnd (aeqN true true v3) fun v4 => bnd (gd v4 true (some (a1, (h ++ [some (Row.mk (c1) true)]))) (some (.no, (h ++ [some (Row.mk (c1) true)])))) fun p5 => bnd (gd v4 true (bnd (abin .geq p5.1 (.c (.i .i64 0))) fun v6 => some (v6, p5.2)) (some (.no, p5.2))) fun p7 => bnd (apick v4 p7.1 (.c (.b false))) fun v8 => bnd (gd v8 true (some (a1, p7.2)) (some (.no, p7.2))) fun p9 => bnd (gd v8 true (bnd (afAddr ((.c (.p h.length 0))) 0) fun v10 => some (v10, p9.2)) (some (.no, p9.2))) fun p11 => bnd (gd v8 true (bnd (afAddr p11.1 0) fun v12 => some (v12, p11.2)) (some (.no, p11.2))) fun p13 => bnd (gd v8 true (bnd (aload1 p13.2 p13.1) fun v14 => some (v14, p13.2)) (some (.no, p13.2))) fun p15 => bnd (gd v8 true (bnd (abin .lss p9.1 p15.1) fun v16 => some (v16, p15.2)) (some (.no, p15.2))) fun p17 => bnd (apick v8 p17.1 (.c (.b false))) fun v18 => some (v18, p17.2) := by kernel_rfl
theorem K_view_View_there : FnK Try.prog 76 A_view_View_there E_view_View_there R_view_View_there := .mk' (sound0) Try.func76 (by kernel_rfl) (by intro n args h; kernel_rfl)
noncomputable def S_view_View_there : Fun := tidy (Lim A_view_View_there E_view_View_there)
theorem S_view_View_there_ok : SOk Try.prog 76 S_view_View_there := K_view_View_there.sok
theorem S_view_View_there_flat {n : Nat} {args : List Val} {h h2 : Heap} {v : Val} (he : R_view_View_there n args (ro h) = some (v, h2)) (hf : v.flat = true) : S_view_View_there args h = some (v, h) := K_view_View_there.flat he hf
def view_Of_1_o0 : List AOper := [{ dst := some 3, op := .alloc (List.replicate 256 (.i .u8 0)) }]
def view_Of_1_c0 : ACode := .ops view_Of_1_o0
def view_Of_1_o1 : List AOper := [{ dst := some 4, op := .load1 (.t 1) }, { dst := some 5, op := .mv (.t 0) }, { dst := some 6, op := .iAddrL 256 (.t 4) (.t 5) }, { dst := some 7, op := .loadN 256 (.t 6) }, { dst := none, op := .storeN 256 (.t 3) (.t 7) }]
def view_Of_1_c1 : ACode := .ops view_Of_1_o1
def view_Of_1_c2 : ACode := .seq [3] view_Of_1_c1 .ret
def view_Of_1_c3 : ACode := .seq [0, 1, 3] view_Of_1_c0 view_Of_1_c2
def A_view_Of_1 : AFn := ⟨view_Of_1_c3, [.cellN 3 256]⟩
noncomputable def E_view_Of_1 : Sums := disp0
noncomputable def view_Of_1_c0_d (n : Nat) : SmV := smOps E_view_Of_1 view_Of_1_o0
noncomputable def view_Of_1_c1_d (n : Nat) : SmV := smOps E_view_Of_1 view_Of_1_o1
noncomputable def view_Of_1_c2_d (n : Nat) : SmV := smSeq [3] (view_Of_1_c1_d n) smRet
noncomputable def view_Of_1_c3_d (n : Nat) : SmV := smSeq [0, 1, 3] (view_Of_1_c0_d n) (view_Of_1_c2_d n)
noncomputable def R_view_Of_1 (n : Nat) (args : List Val) (h : Heap) : OptV := (view_Of_1_c3_d n) A_view_Of_1.fin (params 0 args) h
theorem R_view_Of_1_eq (n : Nat) (a0 a1 : Val) (h : Heap) : R_view_Of_1 n [a0, a1] h = bnd (aload1 ((h ++ [some (Row.mk (List.replicate 256 (.i .u8 0)) true)])) a1) fun v1 => bnd (aiAddrL 256 v1 a0) fun v2 => bnd (aloadN ((h ++ [some (Row.mk (List.replicate 256 (.i .u8 0)) true)])) 256 v2) fun v3 => bnd (astoreN ((h ++ [some (Row.mk (List.replicate 256 (.i .u8 0)) true)])) 256 ((.c (.p h.length 0))) v3) fun h4 => mp (aloadN h4 256 ((.c (.p h.length 0)))) fun v => (v, h4) := by kernel_rfl
theorem K_view_Of_1 : FnK Try.prog 54 A_view_Of_1 E_view_Of_1 R_view_Of_1 := .mk' (sound0) Try.func54 (by kernel_rfl) (by intro n args h; kernel_rfl)
noncomputable def S_view_Of_1 : Fun := tidy (Lim A_view_Of_1 E_view_Of_1)
theorem S_view_Of_1_ok : SOk Try.prog 54 S_view_Of_1 := K_view_Of_1.sok
theorem S_view_Of_1_flat {n : Nat} {args : List Val} {h h2 : Heap} {v : Val} (he : R_view_Of_1 n args (ro h) = some (v, h2)) (hf : v.flat = true) : S_view_Of_1 args h = some (v, h) := K_view_Of_1.flat he hf
def view_View_Block__Of_1_o0 : List AOper := [{ dst := some 2, op := .box (.t 0) }, { dst := some 4, op := .alloc (List.replicate 256 (.i .u8 0)) }]
def view_View_Block__Of_1_c0 : ACode := .ops view_View_Block__Of_1_o0
def view_View_Block__Of_1_o1 : List AOper := [{ dst := some 5, op := .loadN 4 (.t 2) }, { dst := some 6, op := .mv (.t 1) }, { dst := some 7, op := .call 76 [(.t 5), (.t 6)] }, { dst := some 8, op := .un .not (.t 7) }]
def view_View_Block__Of_1_c1 : ACode := .ops view_View_Block__Of_1_o1
def view_View_Block__Of_1_o2 : List AOper := [{ dst := some 9, op := .build (List.replicate 256 (.i .u8 0)) [] }, { dst := none, op := .storeN 256 (.t 4) (.t 9) }]
def view_View_Block__Of_1_c2 : ACode := .ops view_View_Block__Of_1_o2
def view_View_Block__Of_1_c3 : ACode := .seq [4] view_View_Block__Of_1_c2 .ret
def view_View_Block__Of_1_c4 : ACode := .cond (.t 8) view_View_Block__Of_1_c3 .skip
def view_View_Block__Of_1_c5 : ACode := .seq [1, 2, 4, 8] view_View_Block__Of_1_c1 view_View_Block__Of_1_c4
def view_View_Block__Of_1_o3 : List AOper := [{ dst := some 10, op := .fAddr (.t 2) 3 }, { dst := some 11, op := .load1 (.t 10) }, { dst := some 12, op := .mv (.t 1) }, { dst := some 13, op := .callV (.t 11) [(.t 12)] }, { dst := none, op := .storeN 256 (.t 4) (.t 13) }]
def view_View_Block__Of_1_c6 : ACode := .ops view_View_Block__Of_1_o3
def view_View_Block__Of_1_c7 : ACode := .seq [4] view_View_Block__Of_1_c6 .ret
def view_View_Block__Of_1_c8 : ACode := .seq [1, 2, 4] view_View_Block__Of_1_c5 view_View_Block__Of_1_c7
def view_View_Block__Of_1_c9 : ACode := .seq [1, 2, 4] view_View_Block__Of_1_c0 view_View_Block__Of_1_c8
def A_view_View_Block__Of_1 : AFn := ⟨view_View_Block__Of_1_c9, [.cellN 4 256]⟩
noncomputable def E_view_View_Block__Of_1 : Sums := disp 76 S_view_View_there (disp 54 S_view_Of_1 disp0)
noncomputable def view_View_Block__Of_1_c0_d (n : Nat) : SmV := smOps E_view_View_Block__Of_1 view_View_Block__Of_1_o0
noncomputable def view_View_Block__Of_1_c1_d (n : Nat) : SmV := smOps E_view_View_Block__Of_1 view_View_Block__Of_1_o1
noncomputable def view_View_Block__Of_1_c2_d (n : Nat) : SmV := smOps E_view_View_Block__Of_1 view_View_Block__Of_1_o2
noncomputable def view_View_Block__Of_1_c3_d (n : Nat) : SmV := smSeq [4] (view_View_Block__Of_1_c2_d n) smRet
noncomputable def view_View_Block__Of_1_c4_d (n : Nat) : SmV := smCond (.t 8) (view_View_Block__Of_1_c3_d n) smSkip
noncomputable def view_View_Block__Of_1_c5_d (n : Nat) : SmV := smSeq [1, 2, 4, 8] (view_View_Block__Of_1_c1_d n) (view_View_Block__Of_1_c4_d n)
noncomputable def view_View_Block__Of_1_c6_d (n : Nat) : SmV := smOps E_view_View_Block__Of_1 view_View_Block__Of_1_o3
noncomputable def view_View_Block__Of_1_c7_d (n : Nat) : SmV := smSeq [4] (view_View_Block__Of_1_c6_d n) smRet
noncomputable def view_View_Block__Of_1_c8_d (n : Nat) : SmV := smSeq [1, 2, 4] (view_View_Block__Of_1_c5_d n) (view_View_Block__Of_1_c7_d n)
noncomputable def view_View_Block__Of_1_c9_d (n : Nat) : SmV := smSeq [1, 2, 4] (view_View_Block__Of_1_c0_d n) (view_View_Block__Of_1_c8_d n)
noncomputable def R_view_View_Block__Of_1 (n : Nat) (args : List Val) (h : Heap) : OptV := (view_View_Block__Of_1_c9_d n) A_view_View_Block__Of_1.fin (params 0 args) h
theorem R_view_View_Block__Of_1_eq (n : Nat) (a0 a1 : Val) (h : Heap) : R_view_View_Block__Of_1 n [a0, a1] h = bnd (cells? a0) fun c1 => bnd (aloadN (((h ++ [some (Row.mk (c1) true)]) ++ [some (Row.mk (List.replicate 256 (.i .u8 0)) true)])) 4 ((.c (.p h.length 0)))) fun v2 => bnd (S_view_View_there [v2, a1] (((h ++ [some (Row.mk (c1) true)]) ++ [some (Row.mk (List.replicate 256 (.i .u8 0)) true)]))) fun p3 => bnd (aun .not p3.1) fun v4 => cnd v4 (bnd (afill (List.replicate 256 (.i .u8 0)) []) fun c5 => bnd (astoreN p3.2 256 ((.c (.p ((h ++ [some (Row.mk (c1) true)])).length 0))) ((.a c5))) fun h6 => mp (aloadN h6 256 ((.c (.p ((h ++ [some (Row.mk (c1) true)])).length 0)))) fun v => (v, h6)) (bnd (afAddr ((.c (.p h.length 0))) 3) fun v7 => bnd (aload1 p3.2 v7) fun v8 => bnd (callv E_view_View_Block__Of_1 v8 [a1] p3.2) fun p9 => bnd (astoreN p9.2 256 ((.c (.p ((h ++ [some (Row.mk (c1) true)])).length 0))) p9.1) fun h10 => mp (aloadN h10 256 ((.c (.p ((h ++ [some (Row.mk (c1) true)])).length 0)))) fun v => (v, h10)) := by kernel_rfl
theorem K_view_View_Block__Of_1 : FnK Try.prog 38 A_view_View_Block__Of_1 E_view_View_Block__Of_1 R_view_View_Block__Of_1 := .mk' (sound1 S_view_View_there_ok (sound1 S_view_Of_1_ok sound0)) Try.func38 (by kernel_rfl) (by intro n args h; kernel_rfl)
noncomputable def S_view_View_Block__Of_1 : Fun := tidy (Lim A_view_View_Block__Of_1 E_view_View_Block__Of_1)
theorem S_view_View_Block__Of_1_ok : SOk Try.prog 38 S_view_View_Block__Of_1 := K_view_View_Block__Of_1.sok
theorem S_view_View_Block__Of_1_flat {n : Nat} {args : List Val} {h h2 : Heap} {v : Val} (he : R_view_View_Block__Of_1 n args (ro h) = some (v, h2)) (hf : v.flat = true) : S_view_View_Block__Of_1 args h = some (v, h) := K_view_View_Block__Of_1.flat he hf
end Go.Proofs.Ytdgggnlbdoiloaa
end
section
namespace Go.Proofs.Ytdgggnlbdoiloaa
open Go Go.Esc

def IsView (h : Heap) (f : Cell) (D : Dev) : Prop := ∃ r q rw rw', f = .f 54 [(r, 0)] ∧ rd h r = some ⟨[.sl q 0 D.length 256], rw⟩ ∧ rd h q = some ⟨cellsD D, rw'⟩
theorem IsView.ro {h : Heap} {f : Cell} {D : Dev} (hv : IsView h f D) : IsView (ro h) f D := by
  obtain ⟨r, q, rw, rw', e, h1, h2⟩ := hv
  exact ⟨r, q, false, false, e, by rw [rd_ro, h1]; rfl, by rw [rd_ro, h2]; rfl⟩
theorem IsView.more {h : Heap} {f : Cell} {D : Dev} (hv : IsView h f D) (l : Heap) : IsView (h ++ l) f D := by
  obtain ⟨r, q, rw, rw', e, h1, h2⟩ := hv
  exact ⟨r, q, rw, rw', e, rd_append h1, rd_append h2⟩
theorem IsView.since {g h : Heap} {f : Cell} {D : Dev} (hv : IsView g f D) (h1 : Low g.length g h) : IsView h f D := by
  obtain ⟨r, q, rw, rw', e, h2, h3⟩ := hv
  exact ⟨r, q, rw, rw', e, h1.rd h2, h1.rd h3⟩
theorem IsView.get {h : Heap} {f : Cell} {D : Dev} (hv : IsView h f D) : ∃ id cs, f = .f id cs := by
  obtain ⟨r, q, rw, rw', e, _⟩ := hv
  exact ⟨_, _, e⟩

def vwC (b n m : Int) (f : Cell) : List Cell := [.i .i64 b, .i .i64 n, .i .u64 m, f]

section
variable {D : Dev} {n m : Int} {f : Cell}
theorem vw_l3 {b : Int} : ldN (some (Row.mk (vwC b n m f) true)) 0 3 = some (.a (layC b n m)) := rfl
theorem vw_l4 {b : Int} : ldN (some (Row.mk (vwC b n m f) true)) 0 4 = some (.a (vwC b n m f)) := rfl
end

theorem view_Of_1_eq {h : Heap} {r q : Nat} {rw rw' : Bool} {D : Dev} {no : Nat} (hD : okD D) (hno : no < D.length) (h1 : rd h r = some ⟨[.sl q 0 D.length 256], rw⟩) (h2 : rd h q = some ⟨cellsD D, rw'⟩) :
    S_view_Of_1 [.c (.i .i64 (no : Int)), .c (.p r 0)] h = some (.a (encB D[no]), h) := by
  have key : ∀ g rw rw', rd g r = some ⟨[.sl q 0 D.length 256], rw⟩ → rd g q = some ⟨cellsD D, rw'⟩ → ∃ g', R_view_Of_1 0 [.c (.i .i64 (no : Int)), .c (.p r 0)] g = some (.a (encB D[no]), g') := by
    intro g rw rw' h1 h2
    have hz : (List.replicate 256 (Cell.i .u8 0)).length = 256 := List.length_replicate
    have hB : (encB D[no]).length = 256 := by rw [encB_length, hD.at hno]
    have l1 : aload1 (g ++ [some (Row.mk (List.replicate 256 (.i .u8 0)) true)]) (.c (.p r 0)) = some (.c (.sl q 0 D.length 256)) := load1_of (cs := [.sl q 0 D.length 256]) (rd_append h1) rfl (by cases rw <;> rfl)
    have a1 : aiAddrL 256 (.c (.sl q 0 D.length 256)) (.c (.i .i64 (no : Int))) = some (.c (.p q (0 + no * 256))) := iAddrL_of hno
    have l2 : aloadN (g ++ [some (Row.mk (List.replicate 256 (.i .u8 0)) true)]) 256 (.c (.p q (0 + no * 256))) = some (.a (encB D[no])) := by
      rw [loadN_of (cs := cellsD D) (rw := rw') (rd_append h2) (by rw [cellsD_length hD]; omega) (by
        rw [Nat.zero_add, cellsD_at hD hno, noX_encB]; simp), Nat.zero_add, cellsD_at hD hno]
    rw [Nat.zero_add] at a1 l2
    rw [R_view_Of_1_eq]
    generalize List.replicate 256 (Cell.i .u8 0) = z at *
    generalize encB D[no] = y at *
    exact ⟨_, by simp only [esc, esh, Nat.reduceAdd, Nat.reduceMul, Nat.reduceLT, l1, a1, l2, hz, hB] <;> rfl⟩
  obtain ⟨g', e⟩ := key (ro h) false false (by rw [rd_ro, h1]; rfl) (by rw [rd_ro, h2]; rfl)
  exact S_view_Of_1_flat e (by simp [Val.flat])

theorem view_there_eq {b n m no : Int} {f : Nat} {cs : List (Nat × Nat)} {h : Heap} : S_view_View_there [.a (vwC b n m (.f f cs)), .c (.i .i64 no)] h = some (.c (.b (decide (0 ≤ no) && decide (no < b))), h) := by
  have key : ∀ g, ∃ g', R_view_View_there 0 [.a (vwC b n m (.f f cs)), .c (.i .i64 no)] g = some (.c (.b (decide (0 ≤ no) && decide (no < b))), g') := by
    intro g
    rw [R_view_View_there_eq]
    unfold vwC
    by_cases c1 : 0 ≤ no
    · exact ⟨_, by simp only [esc, esh, Nat.reduceAdd, Nat.reduceMul, Nat.reduceLT, c1] <;> rfl⟩
    · exact ⟨_, by simp only [esc, esh, Nat.reduceAdd, Nat.reduceMul, Nat.reduceLT, c1, Bool.false_and] <;> rfl⟩
  obtain ⟨g', e⟩ := key (ro h)
  exact S_view_View_there_flat e rfl
theorem view_Block_eq {n m no : Int} {f : Cell} {D : Dev} {h : Heap} (hD : okD D) (hv : IsView h f D) : S_view_View_Block__Of_1 [.a (vwC D.length n m f), .c (.i .i64 no)] h = some (.a (encB (blk D no)), h) := by
  have key : ∀ g, IsView g f D → ∃ g', R_view_View_Block__Of_1 0 [.a (vwC D.length n m f), .c (.i .i64 no)] g = some (.a (encB (blk D no)), g') := by
    intro g hv
    have hz : (encB (zeros 256)).length = 256 := by rw [encB_length]; exact zeros_length
    have hB : (encB (blk D no)).length = 256 := by rw [encB_length, blk_length hD]
    obtain ⟨r, q, rw', rw'', rfl, h1, h2⟩ := hv
    have hT := fun h => view_there_eq (b := D.length) (n := n) (m := m) (no := no) (f := 54) (cs := [(r, 0)]) (h := h)
    have hcv : ∀ (x : Val) (h : Heap), callv E_view_View_Block__Of_1 (.c (.f 54 [(r, 0)])) [x] h = S_view_Of_1 [x, .c (.p r 0)] h := fun _ _ => Eq.trans rfl rfl
    rw [R_view_View_Block__Of_1_eq, zeros_enc]
    by_cases c1 : 0 ≤ no ∧ no < D.length
    · have c2 := c1.1
      have c3 := c1.2
      obtain ⟨k, rfl⟩ : ∃ k : Nat, no = k := ⟨no.toNat, by omega⟩
      have e1 := blk_at (D := D) (i := k) (by omega)
      have hO := view_Of_1_eq (h := g ++ [some (Row.mk (vwC D.length n m (.f 54 [(r, 0)])) true), some (Row.mk (encB (zeros 256)) true)]) hD (show k < D.length by omega) (rd_append h1) (rd_append h2)
      rw [← e1] at hO
      simp only [c2, c3, decide_true, Bool.and_self] at hT
      generalize encB (zeros 256) = z at *
      generalize encB (blk D k) = y at *
      unfold vwC at *
      exact ⟨_, by simp only [esc, esh, Nat.reduceAdd, Nat.reduceMul, Nat.reduceLT, hT, hcv, hO, hz, hB] <;> rfl⟩
    · have e1 := blk_none (D := D) (i := no) (by omega)
      have ht : (decide (0 ≤ no) && decide (no < (D.length : Int))) = false := by
        rw [Bool.and_eq_false_iff, decide_eq_false_iff_not, decide_eq_false_iff_not]; omega
      simp only [ht] at hT
      rw [e1] at hB ⊢
      have ef : afill (encB (zeros 256)) [] = some (encB (zeros 256)) := rfl
      generalize encB (zeros 256) = z at *
      unfold vwC at *
      exact ⟨_, by simp only [esc, esh, Nat.reduceAdd, Nat.reduceMul, Nat.reduceLT, hT, ef, hz] <;> rfl⟩
  obtain ⟨g', e⟩ := key (ro h) hv.ro
  exact S_view_View_Block__Of_1_flat e (by simp [Val.flat])

theorem app_has {h : Heap} {id m sz : Nat} {ys : List Cell} {y : Val} (hr : rd h id = some ⟨[], true⟩) (hy : Has h y sz m ys) (hsz : 0 < sz) (hn : m ≤ 1073741824) :
    aapp h sz (.c (.sl id 0 0 sz)) y = some (.c (.sl h.length 0 m sz), h.set id none ++ [some ⟨ys, true⟩]) := by
  have h1 := hy.add
  have h2 : ys.length / sz = m := by rw [hy.length]; exact Nat.mul_div_cancel m hsz
  simp only [aapp, h1, hr, Option.bind_some, h2, List.nil_append, Nat.zero_add]
  rw [if_pos ⟨trivial, trivial, by simp, trivial, hn⟩]

def devL (D : Dev) : Bool := okS (D.headD []) && decide (fieldN (D.headD []) 8 2 = D.length)
def devN (D : Dev) : Int := fieldN (D.headD []) 10 2
def devM (D : Dev) : Int := fieldN (D.headD []) 12 8

theorem view_Of_nil {v : Val} {h : Heap} (hv : Has h v 256 0 []) : ∃ t, S_view_Of [v] h = some (.t [.a (vwC 0 0 0 .nf), .c (.i .i64 13)], h ++ t) := by
  have ef : afill [Cell.i .i64 0, .i .i64 0, .i .u64 0, .nf] [] = some [Cell.i .i64 0, .i .i64 0, .i .u64 0, .nf] := rfl
  have hl := hv.len
  rw [show ((0 : Nat) : Int) = 0 from rfl] at hl
  exact ⟨_, S_view_Of_of (n := 0) (by rw [R_view_Of_eq]; simp only [esc, esh, Nat.reduceAdd, Nat.reduceMul, Nat.reduceLT, hl, ef, vwC] <;> rfl)⟩

theorem layS_no {b : List UInt8} (h : okS b = false) : layS b = layC 0 0 0 := by unfold layS; rw [h]; rfl
theorem layS_ok {b : List UInt8} (h : okS b = true) : layS b = layC (fieldN b 8 2) (fieldN b 10 2) (fieldN b 12 8) := by unfold layS; rw [h]; rfl

theorem view_Of_no {v : Val} {D : Dev} {h : Heap} (hv : Has h v 256 D.length (cellsD D)) (hD : okD D) (h0 : 0 < D.length) (hn : devL D = false) : ∃ t, S_view_Of [v] h = some (.t [.a (vwC 0 0 0 .nf), .c (.i .i64 13)], h ++ t) := by
  have ef : afill [Cell.i .i64 0, .i .i64 0, .i .u64 0, .nf] [] = some [Cell.i .i64 0, .i .i64 0, .i .u64 0, .nf] := rfl
  have hl := hv.len
  have hv2 := hv.more [some (Row.mk [.i .i64 0, .i .i64 0, .i .u64 0, .nf] true)]
  obtain ⟨b, E, rfl⟩ : ∃ b E, D = b :: E := by cases D with | nil => simp at h0 | cons b E => exact ⟨b, E, rfl⟩
  obtain ⟨id, off, rfl, hid, _, hB⟩ := hv2.sl h0
  have hBl : (encB b).length = 256 := by rw [encB_length, hD.cons.1]
  have l2 := hB 0 256 (by rw [cellsD_length hD]; omega)
  have ec : ((cellsD (b :: E)).drop 0).take 256 = encB b := by
    have := cellsD_at (i := 0) hD h0
    rwa [Nat.zero_mul] at this
  rw [ec, Nat.add_zero] at l2
  have a1 : aiAddrL 256 (.c (.sl id off (b :: E).length 256)) (.c (.i .i64 0)) = some (.c (.p id off)) := by
    have := iAddrL_of (k := .i64) (id := id) (off := off) (sz := 256) (j := 0) (len := (b :: E).length) h0
    rwa [Nat.zero_mul, Nat.add_zero] at this
  have hG := fun h => super_Get_eq (h := h) hD.cons.1
  have c0 : ¬ (((b :: E).length : Nat) : Int) = 0 := by omega
  have n13 : ¬ (13 : Int) = 0 := by decide
  unfold devL at hn
  simp only [List.headD_cons] at hn
  cases ho : okS b with
  | false =>
    simp only [ho, layS_no ho, cond_false] at hG
    refine ⟨[some (Row.mk [.i .i64 0, .i .i64 0, .i .u64 0, .nf] true), some (Row.mk [.i .i64 0, .i .i64 0, .i .u64 0] true)], S_view_Of_of (n := 0) ?_⟩
    rw [R_view_Of_eq]
    generalize (b :: E).length = N at *
    generalize encB b = y at *
    unfold layC at *
    simp only [esc, esh, Nat.reduceAdd, Nat.reduceMul, Nat.reduceLT, ef, vwC, l2, a1, hG, n13, eq_self, c0] <;> rfl
  | true =>
    rw [ho, Bool.true_and] at hn
    replace hn := of_decide_eq_false hn
    simp only [ho, layS_ok ho, cond_true] at hG
    refine ⟨[some (Row.mk [.i .i64 0, .i .i64 0, .i .u64 0, .nf] true), some (Row.mk [.i .i64 (fieldN b 8 2), .i .i64 (fieldN b 10 2), .i .u64 (fieldN b 12 8)] true)], S_view_Of_of (n := 0) ?_⟩
    rw [R_view_Of_eq]
    generalize (b :: E).length = N at *
    generalize encB b = y at *
    generalize fieldN b 8 2 = n1 at *
    unfold layC at *
    simp only [esc, esh, Nat.reduceAdd, Nat.reduceMul, Nat.reduceLT, ef, vwC, l2, a1, hG, n13, eq_self, c0, hn] <;> rfl

theorem view_Of_bad {v : Val} {D : Dev} {h : Heap} (hv : Has h v 256 D.length (cellsD D)) (hD : okD D) (hn : devL D = false) : ∃ t, S_view_Of [v] h = some (.t [.a (vwC 0 0 0 .nf), .c (.i .i64 13)], h ++ t) := by
  by_cases h0 : D = []
  · subst h0; exact view_Of_nil hv
  · exact view_Of_no hv hD (List.length_pos_iff.2 h0) hn

theorem view_Of_ok {v : Val} {D : Dev} {h : Heap} (hv : Has h v 256 D.length (cellsD D)) (hD : okD D) (hn : devL D = true) (h60 : D.length ≤ 1073741824) :
    ∃ f t, S_view_Of [v] h = some (.t [.a (vwC D.length (devN D) (devM D) f), .c (.i .i64 0)], h ++ t) ∧ IsView (h ++ t) f D := by
  obtain ⟨b, E, rfl⟩ : ∃ b E, D = b :: E := by
    cases D with
    | nil => simp only [devL, List.headD_nil, List.length_nil, Bool.and_eq_true, decide_eq_true_eq] at hn; exact absurd hn.1 (by decide)
    | cons b E => exact ⟨b, E, rfl⟩
  have h0 : 0 < (b :: E).length := by simp
  have hv2 := hv.more [some (Row.mk [.i .i64 0, .i .i64 0, .i .u64 0, .nf] true)]
  unfold devL at hn
  simp only [List.headD_cons, Bool.and_eq_true, decide_eq_true_eq] at hn
  have ho := hn.1
  have hn2 := of_decide_eq_true hn.2
  have hv3 := hv.more [some (Row.mk [.i .i64 0, .i .i64 0, .i .u64 0, .nf] true), some (Row.mk (layC (b :: E).length (fieldN b 10 2) (fieldN b 12 8)) true), some (Row.mk [] true)]
  obtain ⟨id, off, rfl, hid, _, hB⟩ := hv2.sl h0
  have hBl : (encB b).length = 256 := by rw [encB_length, hD.cons.1]
  have l2 := hB 0 256 (by rw [cellsD_length hD]; omega)
  have ec : ((cellsD (b :: E)).drop 0).take 256 = encB b := by
    have := cellsD_at (i := 0) hD h0
    rwa [Nat.zero_mul] at this
  rw [ec, Nat.add_zero] at l2
  have a1 : aiAddrL 256 (.c (.sl id off (b :: E).length 256)) (.c (.i .i64 0)) = some (.c (.p id off)) := by
    have := iAddrL_of (k := .i64) (id := id) (off := off) (sz := 256) (j := 0) (len := (b :: E).length) h0
    rwa [Nat.zero_mul, Nat.add_zero] at this
  have hG := fun h => super_Get_eq (h := h) hD.cons.1
  have c0 : ¬ (((b :: E).length : Nat) : Int) = 0 := by omega
  have n13 : ¬ (13 : Int) = 0 := by decide
  simp only [ho, layS_ok ho, cond_true, hn2] at hG
  have eN : devN (b :: E) = fieldN b 10 2 := rfl
  have eM : devM (b :: E) = fieldN b 12 8 := rfl
  have hA := app_has (id := h.length + 2) (by simp) hv3 (by omega) h60
  have ef1 : afill ([] : List Cell) [] = some [] := rfl
  have hlt : id < h.length := by
    rcases hv with ⟨e, _⟩ | ⟨i, o, r, e, hr, _⟩
    · cases e
    · cases e; exact rd_lt hr
  rw [eN, eM]
  unfold IsView
  generalize cellsD (b :: E) = C at *
  have emk : amkf 54 [.c (.p (h.length + 4) 0)] = some (.c (.f 54 [(h.length + 4, 0)])) := rfl
  refine ⟨.f 54 [(h.length + 4, 0)], [some (Row.mk (vwC (b :: E).length (fieldN b 10 2) (fieldN b 12 8) (.f 54 [(h.length + 4, 0)])) true), some (Row.mk (layC (b :: E).length (fieldN b 10 2) (fieldN b 12 8)) true), none, some (Row.mk C true), some (Row.mk [.sl (h.length + 3) 0 (b :: E).length 256] true)], S_view_Of_of (n := 0) ?_, h.length + 4, h.length + 3, true, true, rfl, rd_at, rd_at⟩
  rw [R_view_Of_eq]
  generalize (b :: E).length = N at *
  generalize encB b = y at *
  generalize fieldN b 10 2 = n1 at *
  generalize fieldN b 12 8 = n2 at *
  have ef2 : ∀ x, afill [Cell.i .i64 0, .i .i64 0, .i .u64 0, .nf] [(0, 3, .a [.i .i64 (N : Int), .i .i64 n1, .i .u64 n2]), (3, 1, .c x)] = some [.i .i64 (N : Int), .i .i64 n1, .i .u64 n2, x] := fun _ => rfl
  unfold layC vwC at *
  simp only [esc, esh, Nat.reduceAdd, Nat.reduceMul, Nat.reduceLT] at hA
  simp only [esc, esh, Nat.reduceAdd, Nat.reduceMul, Nat.reduceLT, l2, a1, hG, n13, eq_self, c0, hA, ef1, ef2, emk] <;> rfl

end Go.Proofs.Ytdgggnlbdoiloaa
end
section
namespace Go.Proofs.Ytdgggnlbdoiloaa
open Go Go.Esc
set_option maxRecDepth 100000
def points_there_o0 : List AOper := [{ dst := some 2, op := .mv (.v (.c (.b false))) }]
def points_there_c0 : ACode := .ops points_there_o0
def points_there_o1 : List AOper := [{ dst := some 3, op := .mv (.t 0) }, { dst := some 4, op := .bin .geq (.t 3) (.v (.c (.i .i64 0))) }, { dst := some 5, op := .mv (.t 4) }, { dst := some 6, op := .mv (.t 0), guard := some (5, true) }, { dst := some 7, op := .bin .lss (.t 6) (.v (.c (.i .i64 128))), guard := some (5, true) }, { dst := some 8, op := .pick (.t 5) (.t 7) (.v (.c (.b false))) }, { dst := some 2, op := .mv (.t 8) }]
def points_there_c1 : ACode := .ops points_there_o1
def points_there_c2 : ACode := .seq [2] points_there_c1 .ret
def points_there_c3 : ACode := .seq [0] points_there_c0 points_there_c2
def A_points_there : AFn := ⟨points_there_c3, [.tmp 2]⟩
noncomputable def E_points_there : Sums := disp0
noncomputable def points_there_c0_d (n : Nat) : SmV := smOps E_points_there points_there_o0
noncomputable def points_there_c1_d (n : Nat) : SmV := smOps E_points_there points_there_o1
noncomputable def points_there_c2_d (n : Nat) : SmV := smSeq [2] (points_there_c1_d n) smRet
noncomputable def points_there_c3_d (n : Nat) : SmV := smSeq [0] (points_there_c0_d n) (points_there_c2_d n)
noncomputable def R_points_there (n : Nat) (args : List Val) (h : Heap) : OptV := (points_there_c3_d n) A_points_there.fin (params 0 args) h
theorem R_points_there_eq (n : Nat) (a0 : Val) (h : Heap) : R_points_there n [a0] h = bnd (abin .geq a0 (.c (.i .i64 0))) fun v1 => bnd (gd v1 true (some (a0, h)) (some (.no, h))) fun p2 => bnd (gd v1 true (bnd (abin .lss p2.1 (.c (.i .i64 128))) fun v3 => some (v3, p2.2)) (some (.no, p2.2))) fun p4 => bnd (apick v1 p4.1 (.c (.b false))) fun v5 => some (v5, p4.2) := by kernel_rfl
theorem K_points_there : FnK Try.prog 107 A_points_there E_points_there R_points_there := .mk' (sound0) Try.func107 (by kernel_rfl) (by intro n args h; kernel_rfl)
noncomputable def S_points_there : Fun := tidy (Lim A_points_there E_points_there)
theorem S_points_there_ok : SOk Try.prog 107 S_points_there := K_points_there.sok
theorem S_points_there_flat {n : Nat} {args : List Val} {h h2 : Heap} {v : Val} (he : R_points_there n args (ro h) = some (v, h2)) (hf : v.flat = true) : S_points_there args h = some (v, h) := K_points_there.flat he hf
def points_Get_o0 : List AOper := [{ dst := some 2, op := .box (.t 0) }, { dst := some 4, op := .mv (.v (.c (.i .i64 0))) }]
def points_Get_c0 : ACode := .ops points_Get_o0
def points_Get_o1 : List AOper := [{ dst := some 5, op := .mv (.t 1) }, { dst := some 6, op := .call 107 [(.t 5)] }, { dst := some 7, op := .un .not (.t 6) }]
def points_Get_c1 : ACode := .ops points_Get_o1
def points_Get_o2 : List AOper := [{ dst := some 4, op := .mv (.v (.c (.i .i64 0))) }]
def points_Get_c2 : ACode := .ops points_Get_o2
def points_Get_c3 : ACode := .seq [4] points_Get_c2 .ret
def points_Get_c4 : ACode := .cond (.t 7) points_Get_c3 .skip
def points_Get_c5 : ACode := .seq [1, 2, 7] points_Get_c1 points_Get_c4
def points_Get_o3 : List AOper := [{ dst := some 8, op := .loadN 256 (.t 2) }, { dst := some 9, op := .mv (.t 1) }, { dst := some 10, op := .bin .mul (.v (.c (.i .i64 2))) (.t 9) }, { dst := some 11, op := .call 101 [(.t 8), (.t 10), (.v (.c (.i .i64 2)))] }, { dst := some 4, op := .mv (.t 11) }]
def points_Get_c6 : ACode := .ops points_Get_o3
def points_Get_c7 : ACode := .seq [4] points_Get_c6 .ret
def points_Get_c8 : ACode := .seq [1, 2] points_Get_c5 points_Get_c7
def points_Get_c9 : ACode := .seq [1, 2] points_Get_c0 points_Get_c8
def A_points_Get : AFn := ⟨points_Get_c9, [.tmp 4]⟩
noncomputable def E_points_Get : Sums := disp 107 S_points_there (disp 101 S_num_At disp0)
noncomputable def points_Get_c0_d (n : Nat) : SmV := smOps E_points_Get points_Get_o0
noncomputable def points_Get_c1_d (n : Nat) : SmV := smOps E_points_Get points_Get_o1
noncomputable def points_Get_c2_d (n : Nat) : SmV := smOps E_points_Get points_Get_o2
noncomputable def points_Get_c3_d (n : Nat) : SmV := smSeq [4] (points_Get_c2_d n) smRet
noncomputable def points_Get_c4_d (n : Nat) : SmV := smCond (.t 7) (points_Get_c3_d n) smSkip
noncomputable def points_Get_c5_d (n : Nat) : SmV := smSeq [1, 2, 7] (points_Get_c1_d n) (points_Get_c4_d n)
noncomputable def points_Get_c6_d (n : Nat) : SmV := smOps E_points_Get points_Get_o3
noncomputable def points_Get_c7_d (n : Nat) : SmV := smSeq [4] (points_Get_c6_d n) smRet
noncomputable def points_Get_c8_d (n : Nat) : SmV := smSeq [1, 2] (points_Get_c5_d n) (points_Get_c7_d n)
noncomputable def points_Get_c9_d (n : Nat) : SmV := smSeq [1, 2] (points_Get_c0_d n) (points_Get_c8_d n)
noncomputable def R_points_Get (n : Nat) (args : List Val) (h : Heap) : OptV := (points_Get_c9_d n) A_points_Get.fin (params 0 args) h
theorem R_points_Get_eq (n : Nat) (a0 a1 : Val) (h : Heap) : R_points_Get n [a0, a1] h = bnd (cells? a0) fun c1 => bnd (S_points_there [a1] ((h ++ [some (Row.mk (c1) true)]))) fun p2 => bnd (aun .not p2.1) fun v3 => cnd v3 (some ((.c (.i .i64 0)), p2.2)) (bnd (aloadN p2.2 256 ((.c (.p h.length 0)))) fun v4 => bnd (abin .mul (.c (.i .i64 2)) a1) fun v5 => bnd (S_num_At [v4, v5, .c (.i .i64 2)] p2.2) fun p6 => some (p6.1, p6.2)) := by kernel_rfl
theorem K_points_Get : FnK Try.prog 67 A_points_Get E_points_Get R_points_Get := .mk' (sound1 S_points_there_ok (sound1 S_num_At_ok sound0)) Try.func67 (by kernel_rfl) (by intro n args h; kernel_rfl)
noncomputable def S_points_Get : Fun := tidy (Lim A_points_Get E_points_Get)
theorem S_points_Get_ok : SOk Try.prog 67 S_points_Get := K_points_Get.sok
theorem S_points_Get_flat {n : Nat} {args : List Val} {h h2 : Heap} {v : Val} (he : R_points_Get n args (ro h) = some (v, h2)) (hf : v.flat = true) : S_points_Get args h = some (v, h) := K_points_Get.flat he hf
def points_fine_o0 : List AOper := [{ dst := some 2, op := .mv (.v (.c (.b false))) }]
def points_fine_c0 : ACode := .ops points_fine_o0
def points_fine_o1 : List AOper := [{ dst := some 3, op := .mv (.t 0) }, { dst := some 4, op := .bin .geq (.t 3) (.v (.c (.i .i64 0))) }, { dst := some 5, op := .mv (.t 4) }, { dst := some 6, op := .mv (.t 0), guard := some (5, true) }, { dst := some 7, op := .bin .leq (.t 6) (.v (.c (.i .i64 65535))), guard := some (5, true) }, { dst := some 8, op := .pick (.t 5) (.t 7) (.v (.c (.b false))) }, { dst := some 2, op := .mv (.t 8) }]
def points_fine_c1 : ACode := .ops points_fine_o1
def points_fine_c2 : ACode := .seq [2] points_fine_c1 .ret
def points_fine_c3 : ACode := .seq [0] points_fine_c0 points_fine_c2
def A_points_fine : AFn := ⟨points_fine_c3, [.tmp 2]⟩
noncomputable def E_points_fine : Sums := disp0
noncomputable def points_fine_c0_d (n : Nat) : SmV := smOps E_points_fine points_fine_o0
noncomputable def points_fine_c1_d (n : Nat) : SmV := smOps E_points_fine points_fine_o1
noncomputable def points_fine_c2_d (n : Nat) : SmV := smSeq [2] (points_fine_c1_d n) smRet
noncomputable def points_fine_c3_d (n : Nat) : SmV := smSeq [0] (points_fine_c0_d n) (points_fine_c2_d n)
noncomputable def R_points_fine (n : Nat) (args : List Val) (h : Heap) : OptV := (points_fine_c3_d n) A_points_fine.fin (params 0 args) h
theorem R_points_fine_eq (n : Nat) (a0 : Val) (h : Heap) : R_points_fine n [a0] h = bnd (abin .geq a0 (.c (.i .i64 0))) fun v1 => bnd (gd v1 true (some (a0, h)) (some (.no, h))) fun p2 => bnd (gd v1 true (bnd (abin .leq p2.1 (.c (.i .i64 65535))) fun v3 => some (v3, p2.2)) (some (.no, p2.2))) fun p4 => bnd (apick v1 p4.1 (.c (.b false))) fun v5 => some (v5, p4.2) := by kernel_rfl
theorem K_points_fine : FnK Try.prog 106 A_points_fine E_points_fine R_points_fine := .mk' (sound0) Try.func106 (by kernel_rfl) (by intro n args h; kernel_rfl)
noncomputable def S_points_fine : Fun := tidy (Lim A_points_fine E_points_fine)
theorem S_points_fine_ok : SOk Try.prog 106 S_points_fine := K_points_fine.sok
theorem S_points_fine_flat {n : Nat} {args : List Val} {h h2 : Heap} {v : Val} (he : R_points_fine n args (ro h) = some (v, h2)) (hf : v.flat = true) : S_points_fine args h = some (v, h) := K_points_fine.flat he hf
def points_Make_o0 : List AOper := [{ dst := some 2, op := .alloc (List.replicate 256 (.i .u8 0)) }, { dst := some 3, op := .mv (.v (.c (.i .i64 0))) }]
def points_Make_c0 : ACode := .ops points_Make_o0
def points_Make_o1 : List AOper := [{ dst := some 4, op := .alloc (List.replicate 256 (.i .u8 0)) }]
def points_Make_c1 : ACode := .ops points_Make_o1
def points_Make_o2 : List AOper := [{ dst := some 7, op := .mv (.t 0) }, { dst := some 8, op := .len (.t 7) }, { dst := some 9, op := .bin .gtr (.t 8) (.v (.c (.i .i64 128))) }]
def points_Make_c2 : ACode := .ops points_Make_o2
def points_Make_o3 : List AOper := [{ dst := some 10, op := .loadN 256 (.t 4) }, { dst := none, op := .storeN 256 (.t 2) (.t 10) }, { dst := some 3, op := .mv (.v (.c (.i .i64 2))) }]
def points_Make_c3 : ACode := .ops points_Make_o3
def points_Make_c4 : ACode := .seq [2, 3] points_Make_c3 .ret
def points_Make_c5 : ACode := .cond (.t 9) points_Make_c4 .skip
def points_Make_c6 : ACode := .seq [0, 2, 4, 9] points_Make_c2 points_Make_c5
def points_Make_o4 : List AOper := [{ dst := some 11, op := .mv (.t 0) }, { dst := some 12, op := .len (.t 11) }, { dst := some 13, op := .mv (.v (.c (.i .i64 0))) }]
def points_Make_c7 : ACode := .ops points_Make_o4
def points_Make_o5 : List AOper := [{ dst := some 14, op := .bin .lss (.t 13) (.t 12) }]
def points_Make_c8 : ACode := .ops points_Make_o5
def points_Make_c9 : ACode := .cond (.t 14) .skip (.exit 0)
def points_Make_o6 : List AOper := [{ dst := some 15, op := .mv (.t 13) }, { dst := some 16, op := .iAddrL 1 (.t 11) (.t 13) }, { dst := some 17, op := .load1 (.t 16) }, { dst := some 5, op := .mv (.t 15) }, { dst := some 6, op := .mv (.t 17) }]
def points_Make_c10 : ACode := .ops points_Make_o6
def points_Make_o7 : List AOper := [{ dst := some 18, op := .mv (.t 6) }, { dst := some 19, op := .call 106 [(.t 18)] }, { dst := some 20, op := .un .not (.t 19) }]
def points_Make_c11 : ACode := .ops points_Make_o7
def points_Make_o8 : List AOper := [{ dst := some 21, op := .build (List.replicate 256 (.i .u8 0)) [] }, { dst := none, op := .storeN 256 (.t 2) (.t 21) }, { dst := some 3, op := .mv (.v (.c (.i .i64 1))) }]
def points_Make_c12 : ACode := .ops points_Make_o8
def points_Make_c13 : ACode := .seq [2, 3] points_Make_c12 .ret
def points_Make_c14 : ACode := .cond (.t 20) points_Make_c13 .skip
def points_Make_c15 : ACode := .seq [2, 4, 5, 6, 11, 12, 13, 20] points_Make_c11 points_Make_c14
def points_Make_o9 : List AOper := [{ dst := some 22, op := .loadN 256 (.t 4) }, { dst := some 23, op := .mv (.t 5) }, { dst := some 24, op := .bin .mul (.v (.c (.i .i64 2))) (.t 23) }, { dst := some 25, op := .mv (.t 6) }, { dst := some 26, op := .call 96 [(.t 22), (.t 24), (.v (.c (.i .i64 2))), (.t 25)] }, { dst := none, op := .storeN 256 (.t 4) (.t 26) }]
def points_Make_c16 : ACode := .ops points_Make_o9
def points_Make_c17 : ACode := .seq [2, 4, 5, 6, 11, 12, 13] points_Make_c15 points_Make_c16
def points_Make_c18 : ACode := .seq [2, 4, 5, 6, 11, 12, 13] points_Make_c10 points_Make_c17
def points_Make_c19 : ACode := .block 1 points_Make_c18
def points_Make_o10 : List AOper := [{ dst := some 27, op := .bin .add (.t 13) (.v (.c (.i .i64 1))) }, { dst := some 13, op := .mv (.t 27) }]
def points_Make_c20 : ACode := .ops points_Make_o10
def points_Make_c21 : ACode := .seq [2, 4, 11, 12, 13] points_Make_c19 points_Make_c20
def points_Make_c22 : ACode := .seq [2, 4, 11, 12, 13] points_Make_c9 points_Make_c21
def points_Make_c23 : ACode := .seq [2, 4, 11, 12, 13, 14] points_Make_c8 points_Make_c22
def points_Make_c24 : ACode := .loop [2, 4, 11, 12, 13] points_Make_c23
def points_Make_c25 : ACode := .block 0 points_Make_c24
def points_Make_c26 : ACode := .seq [2, 4, 11, 12, 13] points_Make_c7 points_Make_c25
def points_Make_o11 : List AOper := [{ dst := some 28, op := .loadN 256 (.t 4) }, { dst := none, op := .storeN 256 (.t 2) (.t 28) }, { dst := some 3, op := .mv (.v (.c (.i .i64 0))) }]
def points_Make_c27 : ACode := .ops points_Make_o11
def points_Make_c28 : ACode := .seq [2, 3] points_Make_c27 .ret
def points_Make_c29 : ACode := .seq [2, 4] points_Make_c26 points_Make_c28
def points_Make_c30 : ACode := .seq [0, 2, 4] points_Make_c6 points_Make_c29
def points_Make_c31 : ACode := .seq [0, 2, 4] points_Make_c1 points_Make_c30
def points_Make_c32 : ACode := .seq [0, 2] points_Make_c0 points_Make_c31
def A_points_Make : AFn := ⟨points_Make_c32, [.cellN 2 256, .tmp 3]⟩
noncomputable def E_points_Make : Sums := disp 106 S_points_fine (disp 96 S_num_With disp0)
noncomputable def points_Make_c0_d (n : Nat) : SmV := smOps E_points_Make points_Make_o0
noncomputable def points_Make_c1_d (n : Nat) : SmV := smOps E_points_Make points_Make_o1
noncomputable def points_Make_c2_d (n : Nat) : SmV := smOps E_points_Make points_Make_o2
noncomputable def points_Make_c3_d (n : Nat) : SmV := smOps E_points_Make points_Make_o3
noncomputable def points_Make_c4_d (n : Nat) : SmV := smSeq [2, 3] (points_Make_c3_d n) smRet
noncomputable def points_Make_c5_d (n : Nat) : SmV := smCond (.t 9) (points_Make_c4_d n) smSkip
noncomputable def points_Make_c6_d (n : Nat) : SmV := smSeq [0, 2, 4, 9] (points_Make_c2_d n) (points_Make_c5_d n)
noncomputable def points_Make_c7_d (n : Nat) : SmV := smOps E_points_Make points_Make_o4
noncomputable def points_Make_c8_d (n : Nat) : SmV := smOps E_points_Make points_Make_o5
noncomputable def points_Make_c9_d (n : Nat) : SmV := smCond (.t 14) smSkip (smExit 0)
noncomputable def points_Make_c10_d (n : Nat) : SmV := smOps E_points_Make points_Make_o6
noncomputable def points_Make_c11_d (n : Nat) : SmV := smOps E_points_Make points_Make_o7
noncomputable def points_Make_c12_d (n : Nat) : SmV := smOps E_points_Make points_Make_o8
noncomputable def points_Make_c13_d (n : Nat) : SmV := smSeq [2, 3] (points_Make_c12_d n) smRet
noncomputable def points_Make_c14_d (n : Nat) : SmV := smCond (.t 20) (points_Make_c13_d n) smSkip
noncomputable def points_Make_c15_d (n : Nat) : SmV := smSeq [2, 4, 5, 6, 11, 12, 13, 20] (points_Make_c11_d n) (points_Make_c14_d n)
noncomputable def points_Make_c16_d (n : Nat) : SmV := smOps E_points_Make points_Make_o9
noncomputable def points_Make_c17_d (n : Nat) : SmV := smSeq [2, 4, 5, 6, 11, 12, 13] (points_Make_c15_d n) (points_Make_c16_d n)
noncomputable def points_Make_c18_d (n : Nat) : SmV := smSeq [2, 4, 5, 6, 11, 12, 13] (points_Make_c10_d n) (points_Make_c17_d n)
noncomputable def points_Make_c19_d (n : Nat) : SmV := smBlock 1 (points_Make_c18_d n)
noncomputable def points_Make_c20_d (n : Nat) : SmV := smOps E_points_Make points_Make_o10
noncomputable def points_Make_c21_d (n : Nat) : SmV := smSeq [2, 4, 11, 12, 13] (points_Make_c19_d n) (points_Make_c20_d n)
noncomputable def points_Make_c22_d (n : Nat) : SmV := smSeq [2, 4, 11, 12, 13] (points_Make_c9_d n) (points_Make_c21_d n)
noncomputable def points_Make_c23_d (n : Nat) : SmV := smSeq [2, 4, 11, 12, 13, 14] (points_Make_c8_d n) (points_Make_c22_d n)
noncomputable def points_Make_c24_d (n : Nat) : SmV := smLoop n [2, 4, 11, 12, 13] (points_Make_c23_d n)
noncomputable def points_Make_c25_d (n : Nat) : SmV := smBlock 0 (points_Make_c24_d n)
noncomputable def points_Make_c26_d (n : Nat) : SmV := smSeq [2, 4, 11, 12, 13] (points_Make_c7_d n) (points_Make_c25_d n)
noncomputable def points_Make_c27_d (n : Nat) : SmV := smOps E_points_Make points_Make_o11
noncomputable def points_Make_c28_d (n : Nat) : SmV := smSeq [2, 3] (points_Make_c27_d n) smRet
noncomputable def points_Make_c29_d (n : Nat) : SmV := smSeq [2, 4] (points_Make_c26_d n) (points_Make_c28_d n)
noncomputable def points_Make_c30_d (n : Nat) : SmV := smSeq [0, 2, 4] (points_Make_c6_d n) (points_Make_c29_d n)
noncomputable def points_Make_c31_d (n : Nat) : SmV := smSeq [0, 2, 4] (points_Make_c1_d n) (points_Make_c30_d n)
noncomputable def points_Make_c32_d (n : Nat) : SmV := smSeq [0, 2] (points_Make_c0_d n) (points_Make_c31_d n)
noncomputable def points_Make_k0 (n : Nat) : AExit → Env → Heap → OptV := fun x e h => match x with | .normal => hold ((points_Make_c28_d n) A_points_Make.fin (e.keep [2, 4]) h) | .exit id => A_points_Make.fin (.exit id) e h | .ret => A_points_Make.fin .ret e h
noncomputable def points_Make_k1 (n : Nat) : AExit → Env → Heap → OptV := fun x e h => match x with | .exit i => bif Nat.beq i 0 then (points_Make_k0 n) .normal e h else (points_Make_k0 n) (.exit i) e h | .normal => (points_Make_k0 n) .normal e h | .ret => (points_Make_k0 n) .ret e h
noncomputable def points_Make_l0 (n m : Nat) (x2 x4 x11 x12 x13 : Val) (h : Heap) : OptV := around (points_Make_c23_d n) [2, 4, 11, 12, 13] (points_Make_k1 n) m [(2, x2), (4, x4), (11, x11), (12, x12), (13, x13)] h
noncomputable def R_points_Make (n : Nat) (args : List Val) (h : Heap) : OptV := (points_Make_c32_d n) A_points_Make.fin (params 0 args) h
theorem R_points_Make_eq (n : Nat) (a0 : Val) (h : Heap) : R_points_Make n [a0] h = bnd (alen a0) fun v1 => bnd (abin .gtr v1 (.c (.i .i64 128))) fun v2 => cnd v2 (bnd (aloadN (((h ++ [some (Row.mk (List.replicate 256 (.i .u8 0)) true)]) ++ [some (Row.mk (List.replicate 256 (.i .u8 0)) true)])) 256 ((.c (.p ((h ++ [some (Row.mk (List.replicate 256 (.i .u8 0)) true)])).length 0)))) fun v3 => bnd (astoreN (((h ++ [some (Row.mk (List.replicate 256 (.i .u8 0)) true)]) ++ [some (Row.mk (List.replicate 256 (.i .u8 0)) true)])) 256 ((.c (.p h.length 0))) v3) fun h4 => tupN [aloadN h4 256 ((.c (.p h.length 0))), some (.c (.i .i64 2))] h4) (bnd (alen a0) fun v5 => points_Make_l0 n n ((.c (.p h.length 0))) ((.c (.p ((h ++ [some (Row.mk (List.replicate 256 (.i .u8 0)) true)])).length 0))) a0 v5 (.c (.i .i64 0)) (((h ++ [some (Row.mk (List.replicate 256 (.i .u8 0)) true)]) ++ [some (Row.mk (List.replicate 256 (.i .u8 0)) true)]))) := by kernel_rfl
theorem points_Make_l0_eq (n m : Nat) (x2 x4 x11 x12 x13 : Val) (h : Heap) : points_Make_l0 n (m + 1) x2 x4 x11 x12 x13 h = bnd (abin .lss x13 x12) fun v6 => cnd v6 (bnd (aiAddrL 1 x11 x13) fun v7 => bnd (aload1 h v7) fun v8 => bnd (S_points_fine [v8] h) fun p9 => bnd (aun .not p9.1) fun v10 => cnd v10 (bnd (afill (List.replicate 256 (.i .u8 0)) []) fun c11 => bnd (astoreN p9.2 256 x2 ((.a c11))) fun h12 => tupN [aloadN h12 256 x2, some (.c (.i .i64 1))] h12) (bnd (aloadN p9.2 256 x4) fun v13 => bnd (abin .mul (.c (.i .i64 2)) x13) fun v14 => bnd (S_num_With [v13, v14, .c (.i .i64 2), v8] p9.2) fun p15 => bnd (astoreN p15.2 256 x4 p15.1) fun h16 => bnd (abin .add x13 (.c (.i .i64 1))) fun v17 => points_Make_l0 n m x2 x4 x11 x12 v17 h16)) (bnd (aloadN h 256 x4) fun v18 => bnd (astoreN h 256 x2 v18) fun h19 => tupN [aloadN h19 256 x2, some (.c (.i .i64 0))] h19) := by kernel_rfl
theorem K_points_Make : FnK Try.prog 58 A_points_Make E_points_Make R_points_Make := .mk' (sound1 S_points_fine_ok (sound1 S_num_With_ok sound0)) Try.func58 (by kernel_rfl) (by intro n args h; kernel_rfl)
noncomputable def S_points_Make : Fun := tidy (Lim A_points_Make E_points_Make)
theorem S_points_Make_ok : SOk Try.prog 58 S_points_Make := K_points_Make.sok
theorem S_points_Make_flat {n : Nat} {args : List Val} {h h2 : Heap} {v : Val} (he : R_points_Make n args (ro h) = some (v, h2)) (hf : v.flat = true) : S_points_Make args h = some (v, h) := K_points_Make.flat he hf
end Go.Proofs.Ytdgggnlbdoiloaa
end
section
namespace Go.Proofs.Ytdgggnlbdoiloaa
open Go Go.Esc

def numsB (d : List Int) : List UInt8 := (d.map (bytesI 2)).flatten
theorem numsB_length {d : List Int} : (numsB d).length = 2 * d.length := by
  induction d with
  | nil => rfl
  | cons x d ih => simp only [numsB, List.map_cons, List.flatten_cons, List.length_append, bytesI_length, List.length_cons] at ih ⊢; omega
theorem numsB_snoc {d : List Int} {x : Int} : numsB (d ++ [x]) = numsB d ++ bytesI 2 x := by simp [numsB]

def ptP (b : List UInt8) (i : Nat) : Int := fieldN b (2 * i) 2
def fineP (n : Int) : Bool := decide (0 ≤ n) && decide (n ≤ 65535)
theorem points_there_in {k : Nat} {h : Heap} (hk : k < 128) : S_points_there [.c (.i .i64 k)] h = some (.c (.b true), h) := by
  have key : ∀ g, ∃ g', R_points_there 0 [.c (.i .i64 k)] g = some (.c (.b true), g') := by
    intro g
    have c1 : (0 : Int) ≤ k := by omega
    have c2 : (k : Int) < 128 := by omega
    rw [R_points_there_eq]
    exact ⟨_, by simp only [esc, c1, c2] <;> rfl⟩
  obtain ⟨g', e⟩ := key (ro h)
  exact S_points_there_flat e rfl

theorem points_fine_eq {n : Int} {h : Heap} : S_points_fine [.c (.i .i64 n)] h = some (.c (.b (fineP n)), h) := by
  refine S_points_fine_flat (n := 0) (h2 := ro h) ?_ rfl
  rw [R_points_fine_eq]
  unfold fineP
  by_cases c : 0 ≤ n
  · simp only [esc, c, Bool.true_and]
  · simp only [esc, c, Bool.false_and]

theorem at_pt {b : List UInt8} {i : Nat} (hb : b.length = 256) (hi : i < 128) : ((atN b ((2 * i : Nat) : Int) 2 : Nat) : Int) = ptP b i := by
  unfold atN ptP fieldN
  rw [if_pos ⟨by omega, thereI_true.2 (by omega)⟩]
  simp only [Int.toNat_natCast]
  rfl

theorem wi_two {i : Nat} (hi : i < 128) : IntKind.wrap .i64 (2 * (i : Int)) = ((2 * i : Nat) : Int) := by rw [wrap_i64 (by omega) (by omega)]; omega

theorem points_Get_at {b : List UInt8} {k : Nat} {h : Heap} (hb : b.length = 256) (hk : k < 128) : S_points_Get [.a (encB b), .c (.i .i64 k)] h = some (.c (.i .i64 (ptP b k)), h) := by
  have key : ∀ g, ∃ g', R_points_Get 0 [.a (encB b), .c (.i .i64 k)] g = some (.c (.i .i64 (ptP b k)), g') := by
    intro g
    have hB : (encB b).length = 256 := by rw [encB_length, hb]
    have hT := fun h => points_there_in (h := h) hk
    have hA := fun h => num_At_eq (h := h) hb (a := ((2 * k : Nat) : Int)) (w := 2)
    rw [at_pt hb hk] at hA
    rw [R_points_Get_eq]
    exact ⟨_, by simp only [esc, esh, Nat.reduceAdd, Nat.reduceMul, Nat.reduceLT, hB, hT, wi_two hk, hA] <;> rfl⟩
  obtain ⟨g', e⟩ := key (ro h)
  exact S_points_Get_flat e rfl

theorem make_loop {v : Val} {nv : Nat} {l : List Int} {g : Heap} {q : Nat} (hv : Has g v 1 nv (encI l)) (hn : l.length = nv) (hl : nv ≤ 128) : ∀ e i m : Nat, i + e = nv → e < m →
    ∃ h', points_Make_l0 q m (.c (.p g.length 0)) (.c (.p (g.length + 1) 0)) v (.c (.i .i64 nv)) (.c (.i .i64 i)) (g ++ [some ⟨encB (zeros 256), true⟩, some ⟨encB (padB 256 (numsB (l.take i))), true⟩]) =
      some (.t [.a (encB (bif (l.drop i).all fineP then padB 256 (numsB l) else zeros 256)), .c (.i .i64 (bif (l.drop i).all fineP then 0 else 1))], h')
  | e, i, 0, _, hm => by omega
  | 0, i, m + 1, hi, hm => by
    have e0 : i = nv := by omega
    subst e0
    have c0 : ¬ (i : Int) < i := by omega
    have hp : (encB (padB 256 (numsB l))).length = 256 := by rw [encB_length, padB_length (by rw [numsB_length]; omega)]
    have hz : (encB (zeros 256)).length = 256 := by rw [encB_length]; exact zeros_length
    rw [points_Make_l0_eq, List.take_of_length_le (by omega), List.drop_of_length_le (by omega), List.all_nil, cond_true, cond_true]
    generalize zeros 256 = z at *
    generalize padB 256 (numsB l) = P at *
    exact ⟨_, by simp only [esc, esh, Nat.reduceAdd, Nat.reduceMul, Nat.reduceLT, c0, hp, hz] <;> rfl⟩
  | e + 1, i, m + 1, hi, hm => by
    obtain ⟨h', ih⟩ := make_loop (q := q) hv hn hl e (i + 1) m (by omega) (by omega)
    obtain ⟨id, off, rfl, hid, h1, h2⟩ := (hv.more [some ⟨encB (zeros 256), true⟩, some ⟨encB (padB 256 (numsB (l.take i))), true⟩]).sl (by omega)
    have c0 : (i : Int) < nv := by omega
    have hx := h1 i (.i .i64 l[i]) (by rw [encI_get, List.getElem?_eq_getElem (by omega)]; rfl)
    have eb : aiAddrL 1 (.c (.sl id off nv 1)) (.c (.i .i64 (i : Int))) = some (.c (.p id (off + i))) := by rw [iAddrL_of (by omega)]; simp
    have hF := fun h => points_fine_eq (n := l[i]) (h := h)
    have hP0 : (padB 256 (numsB (l.take i))).length = 256 := padB_length (by rw [numsB_length, List.length_take]; omega)
    have hp : (encB (padB 256 (numsB (l.take i)))).length = 256 := by rw [encB_length, hP0]
    have hz : (encB (zeros 256)).length = 256 := by rw [encB_length]; exact zeros_length
    have haf : afill (List.replicate 256 (Cell.i .u8 0)) [] = some (List.replicate 256 (Cell.i .u8 0)) := rfl
    rw [zeros_enc] at haf
    have hW := fun h => num_With_eq (h := h) (l := padB 256 (numsB (l.take i))) hP0 (a := ((2 * i : Nat) : Int)) (w := 2) (v := l[i])
    have hnl : (numsB (l.take i)).length = 2 * i := by rw [numsB_length, List.length_take]; omega
    have ew := withB_pad (l := numsB (l.take i)) (a := 2 * i) (w := 2) (v := l[i]) (by omega) (by omega) (by omega) (by omega)
    rw [hnl, Nat.sub_self, show zeros 0 = [] from rfl, List.append_nil, ← numsB_snoc, ← List.take_succ_eq_append_getElem (by omega)] at ew
    rw [show ((2 : Nat) : Int) = 2 from rfl] at ew
    rw [ew] at hW
    have hp2 : (encB (padB 256 (numsB (l.take (i + 1))))).length = 256 := by rw [encB_length, padB_length (by rw [numsB_length, List.length_take]; omega)]
    rw [points_Make_l0_eq, zeros_enc, List.drop_eq_getElem_cons (by omega : i < l.length), List.all_cons]
    generalize padB 256 (numsB (l.take (i + 1))) = P1 at *
    generalize padB 256 (numsB (l.take i)) = P0 at *
    generalize padB 256 (numsB l) = P at *
    generalize zeros 256 = z at *
    cases c : fineP l[i] with
    | false =>
      rw [c] at hF
      rw [Bool.false_and, cond_false, cond_false]
      exact ⟨_, by simp only [esc, esh, Nat.reduceAdd, Nat.reduceMul, Nat.reduceLT, c0, eb, hx, hF, haf, hz] <;> rfl⟩
    | true =>
      rw [c] at hF
      rw [Bool.true_and]
      refine ⟨h', ?_⟩
      simp only [esc, esh, Nat.reduceAdd, Nat.reduceMul, Nat.reduceLT, c0, eb, hx, hF, hp, wi_two (show i < 128 by omega), hW, hp2, wi_succ (show i + 1 < 9223372036854775808 by omega)]
      exact ih

theorem points_Make_eq {v : Val} {nv : Nat} {l : List Int} {h : Heap} (hv : Has h v 1 nv (encI l)) (hl : nv ≤ 128) :
    S_points_Make [v] h = some (.t [.a (encB (bif l.all fineP then padB 256 (numsB l) else zeros 256)), .c (.i .i64 (bif l.all fineP then 0 else 1))], h) := by
  have hn : l.length = nv := by simpa [encI_length] using hv.length
  have key : ∀ N, nv < N → ∀ g, Has g v 1 nv (encI l) → ∃ g', R_points_Make N [v] g = some (.t [.a (encB (bif l.all fineP then padB 256 (numsB l) else zeros 256)), .c (.i .i64 (bif l.all fineP then 0 else 1))], g') := by
    intro N hN g hv
    have c0 : ¬ (128 : Int) < nv := by omega
    obtain ⟨h', e⟩ := make_loop (q := N) hv hn hl nv 0 N (by omega) (by omega)
    rw [List.drop_zero, List.take_zero, show numsB [] = [] from rfl, padB_nil] at e
    rw [R_points_Make_eq, zeros_enc]
    generalize padB 256 (numsB l) = P at *
    generalize zeros 256 = z at *
    exact ⟨h', by simp only [esc, esh, Nat.reduceAdd, Nat.reduceMul, Nat.reduceLT, hv.len, c0]; exact e⟩
  obtain ⟨g', e⟩ := key (nv + 1) (by omega) (ro h) hv.ro
  refine S_points_Make_flat e ?_
  cases l.all fineP <;> simp

end Go.Proofs.Ytdgggnlbdoiloaa
end
section
namespace Go.Proofs.Ytdgggnlbdoiloaa
open Go Go.Esc

def zI (n : Nat) : List Int := List.replicate n 0
theorem zI_length {n : Nat} : (zI n).length = n := by simp [zI]

end Go.Proofs.Ytdgggnlbdoiloaa
end
section
namespace Go.Proofs.Ytdgggnlbdoiloaa
open Go Go.Esc

abbrev inoC (k l s p : Int) (d : List Int) : List Cell := .i .i64 k :: .i .i64 l :: .i .i64 s :: .i .i64 p :: encI d

theorem inode_Blocks_eq {n : Int} {h : Heap} : S_inode_Blocks [.c (.i .i64 n)] h = some (.c (.i .i64 (if n < 1 then 0 else if 34304 < n then 134 else (n + 255) / 256)), h) := by
  refine S_inode_Blocks_flat (n := 0) (h2 := ro h) ?_ rfl
  rw [R_inode_Blocks_eq]
  by_cases c1 : n < 1
  · rw [if_pos c1]; simp only [esc, c1]
  · rw [if_neg c1]
    by_cases c2 : 34304 < n
    · rw [if_pos c2]; simp only [esc, c1, c2]
    · rw [if_neg c2]
      have e1 : IntKind.wrap .i64 (n + 256) = n + 256 := wrap_i64 (by omega) (by omega)
      have e2 : IntKind.wrap .i64 (n + 256 - 1) = n + 255 := by rw [wrap_i64 (by omega) (by omega)]; omega
      simp only [esc, c1, c2, e1, e2, quo_i64 (a := n + 255) (b := 256) (by omega) (by omega) (by omega)]

end Go.Proofs.Ytdgggnlbdoiloaa
end
