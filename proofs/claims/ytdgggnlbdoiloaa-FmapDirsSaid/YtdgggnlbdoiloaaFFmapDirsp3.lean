/- What the proof of this claim leans on, part 3. -/
import Derived.Test.YtdgggnlbdoiloaaFFmapDirsp2
set_option linter.all false
noncomputable section
namespace Go.Proofs.Ytdgggnlbdoiloaa
open Go Go.Esc
set_option maxRecDepth 100000
def num_Lay_o0 : List AOper := [aO 3 (.box (.t 0)), aO 6 (.alloc (List.replicate 256 (.i .u8 0)))]
def num_Lay_c0 : ACode := .ops num_Lay_o0
def num_Lay_o1 : List AOper := [aO 9 (.mv (.t 1)), aO 10 (.bin .lss (.t 9) (.v (.c (.i .i64 0)))), aO 11 (.mv (.t 10)), { dst := some 12, op := .mv (.t 1), guard := some (11, false) }, { dst := some 13, op := .bin .geq (.t 12) (.v (.c (.i .i64 256))), guard := some (11, false) }, aO 14 (.pick (.t 11) (.v (.c (.b true))) (.t 13))]
def num_Lay_c1 : ACode := .ops num_Lay_o1
def num_Lay_o2 : List AOper := [aO 15 (.loadN 256 (.t 3)), { dst := none, op := .storeN 256 (.t 6) (.t 15) }]
def num_Lay_c2 : ACode := .ops num_Lay_o2
def num_Lay_c3 : ACode := .seq [6] num_Lay_c2 .ret
def num_Lay_c4 : ACode := .cond (.t 14) num_Lay_c3 .skip
def num_Lay_c5 : ACode := .seq [1, 2, 3, 6, 14] num_Lay_c1 num_Lay_c4
def num_Lay_o3 : List AOper := [aO 16 (.mv (.t 2)), aO 17 (.len (.t 16)), aO 18 (.mv (.v (.c (.i .i64 0))))]
def num_Lay_c6 : ACode := .ops num_Lay_o3
def num_Lay_o4 : List AOper := [aO 19 (.bin .lss (.t 18) (.t 17))]
def num_Lay_c7 : ACode := .ops num_Lay_o4
def num_Lay_c8 : ACode := .cond (.t 19) .skip (.exit 0)
def num_Lay_o5 : List AOper := [aO 20 (.mv (.t 18)), aO 21 (.iAddrL 1 (.t 16) (.t 18)), aO 22 (.load1 (.t 21)), aO 7 (.mv (.t 20)), aO 8 (.mv (.t 22))]
def num_Lay_c9 : ACode := .ops num_Lay_o5
def num_Lay_o6 : List AOper := [aO 23 (.mv (.t 7)), aO 24 (.mv (.t 1)), aO 25 (.bin .sub (.v (.c (.i .i64 256))) (.t 24)), aO 26 (.bin .geq (.t 23) (.t 25))]
def num_Lay_c10 : ACode := .ops num_Lay_o6
def num_Lay_c11 : ACode := .cond (.t 26) (.exit 0) .skip
def num_Lay_c12 : ACode := .seq [1, 3, 6, 7, 8, 16, 17, 18, 26] num_Lay_c10 num_Lay_c11
def num_Lay_o7 : List AOper := [aO 27 (.mv (.t 1)), aO 28 (.mv (.t 7)), aO 29 (.bin .add (.t 27) (.t 28)), aO 30 (.mv (.t 8)), aO 31 (.iAddrA 256 1 (.t 3) (.t 29)), { dst := none, op := .store1 (.t 31) (.t 30) }]
def num_Lay_c13 : ACode := .ops num_Lay_o7
def num_Lay_c14 : ACode := .seq [1, 3, 6, 7, 8, 16, 17, 18] num_Lay_c12 num_Lay_c13
def num_Lay_c15 : ACode := .seq [1, 3, 6, 7, 8, 16, 17, 18] num_Lay_c9 num_Lay_c14
def num_Lay_c16 : ACode := .block 1 num_Lay_c15
def num_Lay_o8 : List AOper := [aO 32 (.bin .add (.t 18) (.v (.c (.i .i64 1)))), aO 18 (.mv (.t 32))]
def num_Lay_c17 : ACode := .ops num_Lay_o8
def num_Lay_c18 : ACode := .seq [1, 3, 6, 16, 17, 18] num_Lay_c16 num_Lay_c17
def num_Lay_c19 : ACode := .seq [1, 3, 6, 16, 17, 18] num_Lay_c8 num_Lay_c18
def num_Lay_c20 : ACode := .seq [1, 3, 6, 16, 17, 18, 19] num_Lay_c7 num_Lay_c19
def num_Lay_c21 : ACode := .loop [1, 3, 6, 16, 17, 18] num_Lay_c20
def num_Lay_c22 : ACode := .block 0 num_Lay_c21
def num_Lay_c23 : ACode := .seq [1, 3, 6, 16, 17, 18] num_Lay_c6 num_Lay_c22
def num_Lay_o9 : List AOper := [aO 33 (.loadN 256 (.t 3)), { dst := none, op := .storeN 256 (.t 6) (.t 33) }]
def num_Lay_c24 : ACode := .ops num_Lay_o9
def num_Lay_c25 : ACode := .seq [6] num_Lay_c24 .ret
def num_Lay_c26 : ACode := .seq [3, 6] num_Lay_c23 num_Lay_c25
def num_Lay_c27 : ACode := .seq [1, 2, 3, 6] num_Lay_c5 num_Lay_c26
def num_Lay_c28 : ACode := .seq [1, 2, 3, 6] num_Lay_c0 num_Lay_c27
def A_num_Lay : AFn := ⟨num_Lay_c28, [.cellN 6 256]⟩
def E_num_Lay : Sums := disp0
def num_Lay_c0_d (n : Nat) : SmV := smOps E_num_Lay num_Lay_o0
def num_Lay_c1_d (n : Nat) : SmV := smOps E_num_Lay num_Lay_o1
def num_Lay_c2_d (n : Nat) : SmV := smOps E_num_Lay num_Lay_o2
def num_Lay_c3_d (n : Nat) : SmV := smSeq [6] (num_Lay_c2_d n) smRet
def num_Lay_c4_d (n : Nat) : SmV := smCond (.t 14) (num_Lay_c3_d n) smSkip
def num_Lay_c5_d (n : Nat) : SmV := smSeq [1, 2, 3, 6, 14] (num_Lay_c1_d n) (num_Lay_c4_d n)
def num_Lay_c6_d (n : Nat) : SmV := smOps E_num_Lay num_Lay_o3
def num_Lay_c7_d (n : Nat) : SmV := smOps E_num_Lay num_Lay_o4
def num_Lay_c8_d (n : Nat) : SmV := smCond (.t 19) smSkip (smExit 0)
def num_Lay_c9_d (n : Nat) : SmV := smOps E_num_Lay num_Lay_o5
def num_Lay_c10_d (n : Nat) : SmV := smOps E_num_Lay num_Lay_o6
def num_Lay_c11_d (n : Nat) : SmV := smCond (.t 26) (smExit 0) smSkip
def num_Lay_c12_d (n : Nat) : SmV := smSeq [1, 3, 6, 7, 8, 16, 17, 18, 26] (num_Lay_c10_d n) (num_Lay_c11_d n)
def num_Lay_c13_d (n : Nat) : SmV := smOps E_num_Lay num_Lay_o7
def num_Lay_c14_d (n : Nat) : SmV := smSeq [1, 3, 6, 7, 8, 16, 17, 18] (num_Lay_c12_d n) (num_Lay_c13_d n)
def num_Lay_c15_d (n : Nat) : SmV := smSeq [1, 3, 6, 7, 8, 16, 17, 18] (num_Lay_c9_d n) (num_Lay_c14_d n)
def num_Lay_c16_d (n : Nat) : SmV := smBlock 1 (num_Lay_c15_d n)
def num_Lay_c17_d (n : Nat) : SmV := smOps E_num_Lay num_Lay_o8
def num_Lay_c18_d (n : Nat) : SmV := smSeq [1, 3, 6, 16, 17, 18] (num_Lay_c16_d n) (num_Lay_c17_d n)
def num_Lay_c19_d (n : Nat) : SmV := smSeq [1, 3, 6, 16, 17, 18] (num_Lay_c8_d n) (num_Lay_c18_d n)
def num_Lay_c20_d (n : Nat) : SmV := smSeq [1, 3, 6, 16, 17, 18, 19] (num_Lay_c7_d n) (num_Lay_c19_d n)
def num_Lay_c21_d (n : Nat) : SmV := smLoop n [1, 3, 6, 16, 17, 18] (num_Lay_c20_d n)
def num_Lay_c22_d (n : Nat) : SmV := smBlock 0 (num_Lay_c21_d n)
def num_Lay_c23_d (n : Nat) : SmV := smSeq [1, 3, 6, 16, 17, 18] (num_Lay_c6_d n) (num_Lay_c22_d n)
def num_Lay_c24_d (n : Nat) : SmV := smOps E_num_Lay num_Lay_o9
def num_Lay_c25_d (n : Nat) : SmV := smSeq [6] (num_Lay_c24_d n) smRet
def num_Lay_c26_d (n : Nat) : SmV := smSeq [3, 6] (num_Lay_c23_d n) (num_Lay_c25_d n)
def num_Lay_c27_d (n : Nat) : SmV := smSeq [1, 2, 3, 6] (num_Lay_c5_d n) (num_Lay_c26_d n)
def num_Lay_c28_d (n : Nat) : SmV := smSeq [1, 2, 3, 6] (num_Lay_c0_d n) (num_Lay_c27_d n)
def num_Lay_k0 (n : Nat) : AExit → Env → Heap → OptV := fun x e h => match x with | .normal => hold ((num_Lay_c25_d n) A_num_Lay.fin (e.keep [3, 6]) h) | .exit id => A_num_Lay.fin (.exit id) e h | .ret => A_num_Lay.fin .ret e h
def num_Lay_k1 (n : Nat) : AExit → Env → Heap → OptV := fun x e h => match x with | .exit i => bif Nat.beq i 0 then (num_Lay_k0 n) .normal e h else (num_Lay_k0 n) (.exit i) e h | .normal => (num_Lay_k0 n) .normal e h | .ret => (num_Lay_k0 n) .ret e h
def num_Lay_l0 (n m : Nat) (x1 x3 x6 x16 x17 x18 : Val) (h : Heap) : OptV := around (num_Lay_c20_d n) [1, 3, 6, 16, 17, 18] (num_Lay_k1 n) m [(1, x1), (3, x3), (6, x6), (16, x16), (17, x17), (18, x18)] h
def R_num_Lay (n : Nat) (args : List Val) (h : Heap) : OptV := (num_Lay_c28_d n) A_num_Lay.fin (params 0 args) h
def num_Lay_j0 (n : Nat) (x3 x6 : Val) (h : Heap) : OptV := hold ((num_Lay_c25_d n) A_num_Lay.fin [(3, x3), (6, x6)] h)
theorem R_num_Lay_eq (n : Nat) (a0 a1 a2 : Val) (h : Heap) : R_num_Lay n [a0, a1, a2] h = bnd (cells? a0) fun c1 => bnd (abin .lss a1 (.c (.i .i64 0))) fun v2 => bnd (gd v2 false (some (a1, ((h ++ [some (Row.mk (c1) true)]) ++ [some (Row.mk (List.replicate 256 (.i .u8 0)) true)]))) (some (.no, ((h ++ [some (Row.mk (c1) true)]) ++ [some (Row.mk (List.replicate 256 (.i .u8 0)) true)])))) fun p3 => bnd (gd v2 false (bnd (abin .geq p3.1 (.c (.i .i64 256))) fun v4 => some (v4, p3.2)) (some (.no, p3.2))) fun p5 => bnd (apick v2 (.c (.b true)) p5.1) fun v6 => cnd v6 (bnd (aloadN p5.2 256 ((.c (.p h.length 0)))) fun v7 => bnd (astoreN p5.2 256 ((.c (.p ((h ++ [some (Row.mk (c1) true)])).length 0))) v7) fun h8 => mp (aloadN h8 256 ((.c (.p ((h ++ [some (Row.mk (c1) true)])).length 0)))) fun v => (v, h8)) (bnd (alen a2) fun v9 => num_Lay_l0 n n a1 ((.c (.p h.length 0))) ((.c (.p ((h ++ [some (Row.mk (c1) true)])).length 0))) a2 v9 (.c (.i .i64 0)) p5.2) := by kernel_rfl
theorem num_Lay_l0_eq (n m : Nat) (x1 x3 x6 x16 x17 x18 : Val) (h : Heap) : num_Lay_l0 n (m + 1) x1 x3 x6 x16 x17 x18 h = bnd (abin .lss x18 x17) fun v10 => cnd v10 (bnd (aiAddrL 1 x16 x18) fun v11 => bnd (aload1 h v11) fun v12 => bnd (abin .sub (.c (.i .i64 256)) x1) fun v13 => bnd (abin .geq x18 v13) fun v14 => cnd v14 (num_Lay_j0 n x3 x6 h) (bnd (abin .add x1 x18) fun v15 => bnd (aiAddrA 256 1 x3 v15) fun v16 => bnd (astore1 h v16 v12) fun h17 => bnd (abin .add x18 (.c (.i .i64 1))) fun v18 => num_Lay_l0 n m x1 x3 x6 x16 x17 v18 h17)) (num_Lay_j0 n x3 x6 h) := by kernel_rfl
theorem num_Lay_j0_eq (n : Nat) (x3 x6 : Val) (h : Heap) : num_Lay_j0 n x3 x6 h = bnd (aloadN h 256 x3) fun v19 => bnd (astoreN h 256 x6 v19) fun h20 => mp (aloadN h20 256 x6) fun v => (v, h20) := by kernel_rfl
theorem K_num_Lay : FnK Try.prog 98 A_num_Lay E_num_Lay R_num_Lay := .mk' (sound0) Try.func98 (by kernel_rfl) (by intro n args h; kernel_rfl)
def S_num_Lay : Fun := tidy (Lim A_num_Lay E_num_Lay)
theorem S_num_Lay_ok : SOk Try.prog 98 S_num_Lay := K_num_Lay.sok
theorem S_num_Lay_flat {n : Nat} {args : List Val} {h h2 : Heap} {v : Val} (he : R_num_Lay n args (ro h) = some (v, h2)) (hf : v.flat = true) : S_num_Lay args h = some (v, h) := K_num_Lay.flat he hf
def num_Of_o0 : List AOper := [aO 2 (.alloc (List.replicate 256 (.i .u8 0)))]
def num_Of_c0 : ACode := .ops num_Of_o0
def num_Of_o1 : List AOper := [aO 3 (.build (List.replicate 256 (.i .u8 0)) []), aO 4 (.mv (.t 0)), aO 5 (.call 98 [(.t 3), (.v (.c (.i .i64 0))), (.t 4)]), { dst := none, op := .storeN 256 (.t 2) (.t 5) }]
def num_Of_c1 : ACode := .ops num_Of_o1
def num_Of_c2 : ACode := .seq [2] num_Of_c1 .ret
def num_Of_c3 : ACode := .seq [0, 2] num_Of_c0 num_Of_c2
def A_num_Of : AFn := ⟨num_Of_c3, [.cellN 2 256]⟩
def E_num_Of : Sums := disp 98 S_num_Lay disp0
def num_Of_c0_d (n : Nat) : SmV := smOps E_num_Of num_Of_o0
def num_Of_c1_d (n : Nat) : SmV := smOps E_num_Of num_Of_o1
def num_Of_c2_d (n : Nat) : SmV := smSeq [2] (num_Of_c1_d n) smRet
def num_Of_c3_d (n : Nat) : SmV := smSeq [0, 2] (num_Of_c0_d n) (num_Of_c2_d n)
def R_num_Of (n : Nat) (args : List Val) (h : Heap) : OptV := (num_Of_c3_d n) A_num_Of.fin (params 0 args) h
theorem R_num_Of_eq (n : Nat) (a0 : Val) (h : Heap) : R_num_Of n [a0] h = bnd (afill (List.replicate 256 (.i .u8 0)) []) fun c1 => bnd (S_num_Lay [(.a c1), .c (.i .i64 0), a0] ((h ++ [some (Row.mk (List.replicate 256 (.i .u8 0)) true)]))) fun p2 => bnd (astoreN p2.2 256 ((.c (.p h.length 0))) p2.1) fun h3 => mp (aloadN h3 256 ((.c (.p h.length 0)))) fun v => (v, h3) := by kernel_rfl
theorem K_num_Of : FnK Try.prog 95 A_num_Of E_num_Of R_num_Of := .mk' (sound1 S_num_Lay_ok sound0) Try.func95 (by kernel_rfl) (by intro n args h; kernel_rfl)
def S_num_Of : Fun := tidy (Lim A_num_Of E_num_Of)
theorem S_num_Of_ok : SOk Try.prog 95 S_num_Of := K_num_Of.sok
theorem S_num_Of_flat {n : Nat} {args : List Val} {h h2 : Heap} {v : Val} (he : R_num_Of n args (ro h) = some (v, h2)) (hf : v.flat = true) : S_num_Of args h = some (v, h) := K_num_Of.flat he hf
def num_there_o0 : List AOper := [aO 6 (.mv (.v (.c (.b false))))]
def num_there_c0 : ACode := .ops num_there_o0
def num_there_o1 : List AOper := [aO 7 (.mv (.t 0)), aO 8 (.bin .geq (.t 7) (.v (.c (.i .i64 0)))), aO 9 (.mv (.t 8)), { dst := some 10, op := .mv (.t 1), guard := some (9, true) }, { dst := some 11, op := .bin .geq (.t 10) (.v (.c (.i .i64 1))), guard := some (9, true) }, aO 12 (.pick (.t 9) (.t 11) (.v (.c (.b false)))), aO 13 (.mv (.t 12)), { dst := some 14, op := .mv (.t 1), guard := some (13, true) }, { dst := some 15, op := .mv (.t 2), guard := some (13, true) }, { dst := some 16, op := .bin .leq (.t 14) (.t 15), guard := some (13, true) }, aO 17 (.pick (.t 13) (.t 16) (.v (.c (.b false)))), aO 18 (.mv (.t 17)), { dst := some 19, op := .mv (.t 0), guard := some (18, true) }, { dst := some 20, op := .mv (.t 2), guard := some (18, true) }, { dst := some 21, op := .mv (.t 1), guard := some (18, true) }, { dst := some 22, op := .bin .sub (.t 20) (.t 21), guard := some (18, true) }, { dst := some 23, op := .bin .leq (.t 19) (.t 22), guard := some (18, true) }, aO 24 (.pick (.t 18) (.t 23) (.v (.c (.b false)))), aO 6 (.mv (.t 24))]
def num_there_c1 : ACode := .ops num_there_o1
def num_there_c2 : ACode := .seq [6] num_there_c1 .ret
def num_there_c3 : ACode := .seq [0, 1, 2] num_there_c0 num_there_c2
def A_num_there : AFn := ⟨num_there_c3, [.tmp 6]⟩
def E_num_there : Sums := disp0
def num_there_c0_d (n : Nat) : SmV := smOps E_num_there num_there_o0
def num_there_c1_d (n : Nat) : SmV := smOps E_num_there num_there_o1
def num_there_c2_d (n : Nat) : SmV := smSeq [6] (num_there_c1_d n) smRet
def num_there_c3_d (n : Nat) : SmV := smSeq [0, 1, 2] (num_there_c0_d n) (num_there_c2_d n)
def R_num_there (n : Nat) (args : List Val) (h : Heap) : OptV := (num_there_c3_d n) A_num_there.fin (params 0 args) h
theorem R_num_there_eq (n : Nat) (a0 a1 a2 : Val) (h : Heap) : R_num_there n [a0, a1, a2] h = bnd (abin .geq a0 (.c (.i .i64 0))) fun v1 => bnd (gd v1 true (some (a1, h)) (some (.no, h))) fun p2 => bnd (gd v1 true (bnd (abin .geq p2.1 (.c (.i .i64 1))) fun v3 => some (v3, p2.2)) (some (.no, p2.2))) fun p4 => bnd (apick v1 p4.1 (.c (.b false))) fun v5 => bnd (gd v5 true (some (a1, p4.2)) (some (.no, p4.2))) fun p6 => bnd (gd v5 true (some (a2, p6.2)) (some (.no, p6.2))) fun p7 => bnd (gd v5 true (bnd (abin .leq p6.1 p7.1) fun v8 => some (v8, p7.2)) (some (.no, p7.2))) fun p9 => bnd (apick v5 p9.1 (.c (.b false))) fun v10 => bnd (gd v10 true (some (a0, p9.2)) (some (.no, p9.2))) fun p11 => bnd (gd v10 true (some (a2, p11.2)) (some (.no, p11.2))) fun p12 => bnd (gd v10 true (some (a1, p12.2)) (some (.no, p12.2))) fun p13 => bnd (gd v10 true (bnd (abin .sub p12.1 p13.1) fun v14 => some (v14, p13.2)) (some (.no, p13.2))) fun p15 => bnd (gd v10 true (bnd (abin .leq p11.1 p15.1) fun v16 => some (v16, p15.2)) (some (.no, p15.2))) fun p17 => bnd (apick v10 p17.1 (.c (.b false))) fun v18 => some (v18, p17.2) := by kernel_rfl
theorem K_num_there : FnK Try.prog 131 A_num_there E_num_there R_num_there := .mk' (sound0) Try.func131 (by kernel_rfl) (by intro n args h; kernel_rfl)
def S_num_there : Fun := tidy (Lim A_num_there E_num_there)
theorem S_num_there_ok : SOk Try.prog 131 S_num_there := K_num_there.sok
theorem S_num_there_flat {n : Nat} {args : List Val} {h h2 : Heap} {v : Val} (he : R_num_there n args (ro h) = some (v, h2)) (hf : v.flat = true) : S_num_there args h = some (v, h) := K_num_there.flat he hf
def num_With_o0 : List AOper := [aO 4 (.box (.t 0)), aO 8 (.alloc (List.replicate 256 (.i .u8 0)))]
def num_With_c0 : ACode := .ops num_With_o0
def num_With_o1 : List AOper := [aO 10 (.mv (.t 2)), aO 11 (.bin .gtr (.t 10) (.v (.c (.i .i64 4)))), aO 12 (.mv (.t 11)), { dst := some 13, op := .mv (.t 1), guard := some (12, false) }, { dst := some 14, op := .mv (.t 2), guard := some (12, false) }, { dst := some 15, op := .call 131 [(.t 13), (.t 14), (.v (.c (.i .i64 256)))], guard := some (12, false) }, { dst := some 16, op := .un .not (.t 15), guard := some (12, false) }, aO 17 (.pick (.t 12) (.v (.c (.b true))) (.t 16))]
def num_With_c1 : ACode := .ops num_With_o1
def num_With_o2 : List AOper := [aO 18 (.loadN 256 (.t 4)), { dst := none, op := .storeN 256 (.t 8) (.t 18) }]
def num_With_c2 : ACode := .ops num_With_o2
def num_With_c3 : ACode := .seq [8] num_With_c2 .ret
def num_With_c4 : ACode := .cond (.t 17) num_With_c3 .skip
def num_With_c5 : ACode := .seq [1, 2, 3, 4, 8, 17] num_With_c1 num_With_c4
def num_With_o3 : List AOper := [aO 19 (.mv (.t 2)), aO 20 (.mv (.v (.c (.i .i64 0))))]
def num_With_c6 : ACode := .ops num_With_o3
def num_With_o4 : List AOper := [aO 21 (.bin .lss (.t 20) (.t 19))]
def num_With_c7 : ACode := .ops num_With_o4
def num_With_c8 : ACode := .cond (.t 21) .skip (.exit 0)
def num_With_o5 : List AOper := [aO 22 (.mv (.t 20)), aO 9 (.mv (.t 22))]
def num_With_c9 : ACode := .ops num_With_o5
def num_With_o6 : List AOper := [aO 23 (.mv (.t 1)), aO 24 (.mv (.t 9)), aO 25 (.bin .add (.t 23) (.t 24)), aO 26 (.mv (.t 3)), aO 27 (.mv (.t 9)), aO 28 (.bin .mul (.v (.c (.i .i64 8))) (.t 27)), aO 29 (.conv .u64 (.t 28)), aO 30 (.bin .shr (.t 26) (.t 29)), aO 31 (.conv .u8 (.t 30)), aO 32 (.iAddrA 256 1 (.t 4) (.t 25)), { dst := none, op := .store1 (.t 32) (.t 31) }]
def num_With_c10 : ACode := .ops num_With_o6
def num_With_c11 : ACode := .seq [1, 3, 4, 8, 9, 19, 20] num_With_c9 num_With_c10
def num_With_c12 : ACode := .block 1 num_With_c11
def num_With_o7 : List AOper := [aO 33 (.bin .add (.t 20) (.v (.c (.i .i64 1)))), aO 20 (.mv (.t 33))]
def num_With_c13 : ACode := .ops num_With_o7
def num_With_c14 : ACode := .seq [1, 3, 4, 8, 19, 20] num_With_c12 num_With_c13
def num_With_c15 : ACode := .seq [1, 3, 4, 8, 19, 20] num_With_c8 num_With_c14
def num_With_c16 : ACode := .seq [1, 3, 4, 8, 19, 20, 21] num_With_c7 num_With_c15
def num_With_c17 : ACode := .loop [1, 3, 4, 8, 19, 20] num_With_c16
def num_With_c18 : ACode := .block 0 num_With_c17
def num_With_c19 : ACode := .seq [1, 3, 4, 8, 19, 20] num_With_c6 num_With_c18
def num_With_o8 : List AOper := [aO 34 (.loadN 256 (.t 4)), { dst := none, op := .storeN 256 (.t 8) (.t 34) }]
def num_With_c20 : ACode := .ops num_With_o8
def num_With_c21 : ACode := .seq [8] num_With_c20 .ret
def num_With_c22 : ACode := .seq [4, 8] num_With_c19 num_With_c21
def num_With_c23 : ACode := .seq [1, 2, 3, 4, 8] num_With_c5 num_With_c22
def num_With_c24 : ACode := .seq [1, 2, 3, 4, 8] num_With_c0 num_With_c23
def A_num_With : AFn := ⟨num_With_c24, [.cellN 8 256]⟩
def E_num_With : Sums := disp 131 S_num_there disp0
def num_With_c0_d (n : Nat) : SmV := smOps E_num_With num_With_o0
def num_With_c1_d (n : Nat) : SmV := smOps E_num_With num_With_o1
def num_With_c2_d (n : Nat) : SmV := smOps E_num_With num_With_o2
def num_With_c3_d (n : Nat) : SmV := smSeq [8] (num_With_c2_d n) smRet
def num_With_c4_d (n : Nat) : SmV := smCond (.t 17) (num_With_c3_d n) smSkip
def num_With_c5_d (n : Nat) : SmV := smSeq [1, 2, 3, 4, 8, 17] (num_With_c1_d n) (num_With_c4_d n)
def num_With_c6_d (n : Nat) : SmV := smOps E_num_With num_With_o3
def num_With_c7_d (n : Nat) : SmV := smOps E_num_With num_With_o4
def num_With_c8_d (n : Nat) : SmV := smCond (.t 21) smSkip (smExit 0)
def num_With_c9_d (n : Nat) : SmV := smOps E_num_With num_With_o5
def num_With_c10_d (n : Nat) : SmV := smOps E_num_With num_With_o6
def num_With_c11_d (n : Nat) : SmV := smSeq [1, 3, 4, 8, 9, 19, 20] (num_With_c9_d n) (num_With_c10_d n)
def num_With_c12_d (n : Nat) : SmV := smBlock 1 (num_With_c11_d n)
def num_With_c13_d (n : Nat) : SmV := smOps E_num_With num_With_o7
def num_With_c14_d (n : Nat) : SmV := smSeq [1, 3, 4, 8, 19, 20] (num_With_c12_d n) (num_With_c13_d n)
def num_With_c15_d (n : Nat) : SmV := smSeq [1, 3, 4, 8, 19, 20] (num_With_c8_d n) (num_With_c14_d n)
def num_With_c16_d (n : Nat) : SmV := smSeq [1, 3, 4, 8, 19, 20, 21] (num_With_c7_d n) (num_With_c15_d n)
def num_With_c17_d (n : Nat) : SmV := smLoop n [1, 3, 4, 8, 19, 20] (num_With_c16_d n)
def num_With_c18_d (n : Nat) : SmV := smBlock 0 (num_With_c17_d n)
def num_With_c19_d (n : Nat) : SmV := smSeq [1, 3, 4, 8, 19, 20] (num_With_c6_d n) (num_With_c18_d n)
def num_With_c20_d (n : Nat) : SmV := smOps E_num_With num_With_o8
def num_With_c21_d (n : Nat) : SmV := smSeq [8] (num_With_c20_d n) smRet
def num_With_c22_d (n : Nat) : SmV := smSeq [4, 8] (num_With_c19_d n) (num_With_c21_d n)
def num_With_c23_d (n : Nat) : SmV := smSeq [1, 2, 3, 4, 8] (num_With_c5_d n) (num_With_c22_d n)
def num_With_c24_d (n : Nat) : SmV := smSeq [1, 2, 3, 4, 8] (num_With_c0_d n) (num_With_c23_d n)
def num_With_k0 (n : Nat) : AExit → Env → Heap → OptV := fun x e h => match x with | .normal => hold ((num_With_c21_d n) A_num_With.fin (e.keep [4, 8]) h) | .exit id => A_num_With.fin (.exit id) e h | .ret => A_num_With.fin .ret e h
def num_With_k1 (n : Nat) : AExit → Env → Heap → OptV := fun x e h => match x with | .exit i => bif Nat.beq i 0 then (num_With_k0 n) .normal e h else (num_With_k0 n) (.exit i) e h | .normal => (num_With_k0 n) .normal e h | .ret => (num_With_k0 n) .ret e h
def num_With_l0 (n m : Nat) (x1 x3 x4 x8 x19 x20 : Val) (h : Heap) : OptV := around (num_With_c16_d n) [1, 3, 4, 8, 19, 20] (num_With_k1 n) m [(1, x1), (3, x3), (4, x4), (8, x8), (19, x19), (20, x20)] h
def R_num_With (n : Nat) (args : List Val) (h : Heap) : OptV := (num_With_c24_d n) A_num_With.fin (params 0 args) h
theorem R_num_With_eq (n : Nat) (a0 a1 a2 a3 : Val) (h : Heap) : R_num_With n [a0, a1, a2, a3] h = bnd (cells? a0) fun c1 => bnd (abin .gtr a2 (.c (.i .i64 4))) fun v2 => bnd (gd v2 false (some (a1, ((h ++ [some (Row.mk (c1) true)]) ++ [some (Row.mk (List.replicate 256 (.i .u8 0)) true)]))) (some (.no, ((h ++ [some (Row.mk (c1) true)]) ++ [some (Row.mk (List.replicate 256 (.i .u8 0)) true)])))) fun p3 => bnd (gd v2 false (some (a2, p3.2)) (some (.no, p3.2))) fun p4 => bnd (gd v2 false (bnd (S_num_there [p3.1, p4.1, .c (.i .i64 256)] p4.2) fun p5 => some (p5.1, p5.2)) (some (.no, p4.2))) fun p6 => bnd (gd v2 false (bnd (aun .not p6.1) fun v7 => some (v7, p6.2)) (some (.no, p6.2))) fun p8 => bnd (apick v2 (.c (.b true)) p8.1) fun v9 => cnd v9 (bnd (aloadN p8.2 256 ((.c (.p h.length 0)))) fun v10 => bnd (astoreN p8.2 256 ((.c (.p ((h ++ [some (Row.mk (c1) true)])).length 0))) v10) fun h11 => mp (aloadN h11 256 ((.c (.p ((h ++ [some (Row.mk (c1) true)])).length 0)))) fun v => (v, h11)) (num_With_l0 n n a1 a3 ((.c (.p h.length 0))) ((.c (.p ((h ++ [some (Row.mk (c1) true)])).length 0))) a2 (.c (.i .i64 0)) p8.2) := by kernel_rfl
theorem num_With_l0_eq (n m : Nat) (x1 x3 x4 x8 x19 x20 : Val) (h : Heap) : num_With_l0 n (m + 1) x1 x3 x4 x8 x19 x20 h = bnd (abin .lss x20 x19) fun v12 => cnd v12 (bnd (abin .add x1 x20) fun v13 => bnd (abin .mul (.c (.i .i64 8)) x20) fun v14 => bnd (aconv .u64 v14) fun v15 => bnd (abin .shr x3 v15) fun v16 => bnd (aconv .u8 v16) fun v17 => bnd (aiAddrA 256 1 x4 v13) fun v18 => bnd (astore1 h v18 v17) fun h19 => bnd (abin .add x20 (.c (.i .i64 1))) fun v20 => num_With_l0 n m x1 x3 x4 x8 x19 v20 h19) (bnd (aloadN h 256 x4) fun v21 => bnd (astoreN h 256 x8 v21) fun h22 => mp (aloadN h22 256 x8) fun v => (v, h22)) := by kernel_rfl
theorem K_num_With : FnK Try.prog 96 A_num_With E_num_With R_num_With := .mk' (sound1 S_num_there_ok sound0) Try.func96 (by kernel_rfl) (by intro n args h; kernel_rfl)
def S_num_With : Fun := tidy (Lim A_num_With E_num_With)
theorem S_num_With_ok : SOk Try.prog 96 S_num_With := K_num_With.sok
theorem S_num_With_flat {n : Nat} {args : List Val} {h h2 : Heap} {v : Val} (he : R_num_With n args (ro h) = some (v, h2)) (hf : v.flat = true) : S_num_With args h = some (v, h) := K_num_With.flat he hf
def num_Put_o0 : List AOper := [aO 8 (.nilrow 1), aO 9 (.mv (.v (.c (.b false))))]
def num_Put_c0 : ACode := .ops num_Put_o0
def num_Put_o1 : List AOper := [aO 12 (.mv (.t 2)), aO 13 (.bin .gtr (.t 12) (.v (.c (.i .i64 8)))), aO 14 (.mv (.t 13)), { dst := some 15, op := .mv (.t 1), guard := some (14, false) }, { dst := some 16, op := .mv (.t 2), guard := some (14, false) }, { dst := some 17, op := .mv (.t 0), guard := some (14, false) }, { dst := some 18, op := .len (.t 17), guard := some (14, false) }, { dst := some 19, op := .call 131 [(.t 15), (.t 16), (.t 18)], guard := some (14, false) }, { dst := some 20, op := .un .not (.t 19), guard := some (14, false) }, aO 21 (.pick (.t 14) (.v (.c (.b true))) (.t 20))]
def num_Put_c1 : ACode := .ops num_Put_o1
def num_Put_o2 : List AOper := [aO 8 (.nilrow 1), aO 9 (.mv (.v (.c (.b false))))]
def num_Put_c2 : ACode := .ops num_Put_o2
def num_Put_c3 : ACode := .seq [8, 9] num_Put_c2 .ret
def num_Put_c4 : ACode := .cond (.t 21) num_Put_c3 .skip
def num_Put_c5 : ACode := .seq [0, 1, 2, 3, 21] num_Put_c1 num_Put_c4
def num_Put_o3 : List AOper := [aO 22 (.buildSl 1 0 ([]) []), aO 23 (.mv (.t 0)), aO 24 (.app 1 (.t 22) (.t 23)), aO 10 (.mv (.t 24))]
def num_Put_c6 : ACode := .ops num_Put_o3
def num_Put_o4 : List AOper := [aO 25 (.mv (.t 2)), aO 26 (.mv (.v (.c (.i .i64 0))))]
def num_Put_c7 : ACode := .ops num_Put_o4
def num_Put_o5 : List AOper := [aO 27 (.bin .lss (.t 26) (.t 25))]
def num_Put_c8 : ACode := .ops num_Put_o5
def num_Put_c9 : ACode := .cond (.t 27) .skip (.exit 0)
def num_Put_o6 : List AOper := [aO 28 (.mv (.t 26)), aO 11 (.mv (.t 28))]
def num_Put_c10 : ACode := .ops num_Put_o6
def num_Put_o7 : List AOper := [aO 29 (.mv (.t 10)), aO 30 (.mv (.t 1)), aO 31 (.mv (.t 11)), aO 32 (.bin .add (.t 30) (.t 31)), aO 33 (.mv (.t 3)), aO 34 (.mv (.t 11)), aO 35 (.bin .mul (.v (.c (.i .i64 8))) (.t 34)), aO 36 (.conv .u64 (.t 35)), aO 37 (.bin .shr (.t 33) (.t 36)), aO 38 (.conv .u8 (.t 37)), aO 39 (.iAddrL 1 (.t 29) (.t 32)), { dst := none, op := .store1 (.t 39) (.t 38) }]
def num_Put_c11 : ACode := .ops num_Put_o7
def num_Put_c12 : ACode := .seq [1, 3, 10, 11, 25, 26] num_Put_c10 num_Put_c11
def num_Put_c13 : ACode := .block 1 num_Put_c12
def num_Put_o8 : List AOper := [aO 40 (.bin .add (.t 26) (.v (.c (.i .i64 1)))), aO 26 (.mv (.t 40))]
def num_Put_c14 : ACode := .ops num_Put_o8
def num_Put_c15 : ACode := .seq [1, 3, 10, 25, 26] num_Put_c13 num_Put_c14
def num_Put_c16 : ACode := .seq [1, 3, 10, 25, 26] num_Put_c9 num_Put_c15
def num_Put_c17 : ACode := .seq [1, 3, 10, 25, 26, 27] num_Put_c8 num_Put_c16
def num_Put_c18 : ACode := .loop [1, 3, 10, 25, 26] num_Put_c17
def num_Put_c19 : ACode := .block 0 num_Put_c18
def num_Put_c20 : ACode := .seq [1, 3, 10, 25, 26] num_Put_c7 num_Put_c19
def num_Put_o9 : List AOper := [aO 41 (.mv (.t 10)), aO 8 (.mv (.t 41)), aO 9 (.mv (.v (.c (.b true))))]
def num_Put_c21 : ACode := .ops num_Put_o9
def num_Put_c22 : ACode := .seq [8, 9] num_Put_c21 .ret
def num_Put_c23 : ACode := .seq [10] num_Put_c20 num_Put_c22
def num_Put_c24 : ACode := .seq [1, 2, 3, 10] num_Put_c6 num_Put_c23
def num_Put_c25 : ACode := .seq [0, 1, 2, 3] num_Put_c5 num_Put_c24
def num_Put_c26 : ACode := .seq [0, 1, 2, 3] num_Put_c0 num_Put_c25
def A_num_Put : AFn := ⟨num_Put_c26, [.tmp 8, .tmp 9]⟩
def E_num_Put : Sums := disp 131 S_num_there disp0
def num_Put_c0_d (n : Nat) : SmV := smOps E_num_Put num_Put_o0
def num_Put_c1_d (n : Nat) : SmV := smOps E_num_Put num_Put_o1
def num_Put_c2_d (n : Nat) : SmV := smOps E_num_Put num_Put_o2
def num_Put_c3_d (n : Nat) : SmV := smSeq [8, 9] (num_Put_c2_d n) smRet
def num_Put_c4_d (n : Nat) : SmV := smCond (.t 21) (num_Put_c3_d n) smSkip
def num_Put_c5_d (n : Nat) : SmV := smSeq [0, 1, 2, 3, 21] (num_Put_c1_d n) (num_Put_c4_d n)
def num_Put_c6_d (n : Nat) : SmV := smOps E_num_Put num_Put_o3
def num_Put_c7_d (n : Nat) : SmV := smOps E_num_Put num_Put_o4
def num_Put_c8_d (n : Nat) : SmV := smOps E_num_Put num_Put_o5
def num_Put_c9_d (n : Nat) : SmV := smCond (.t 27) smSkip (smExit 0)
def num_Put_c10_d (n : Nat) : SmV := smOps E_num_Put num_Put_o6
def num_Put_c11_d (n : Nat) : SmV := smOps E_num_Put num_Put_o7
def num_Put_c12_d (n : Nat) : SmV := smSeq [1, 3, 10, 11, 25, 26] (num_Put_c10_d n) (num_Put_c11_d n)
def num_Put_c13_d (n : Nat) : SmV := smBlock 1 (num_Put_c12_d n)
def num_Put_c14_d (n : Nat) : SmV := smOps E_num_Put num_Put_o8
def num_Put_c15_d (n : Nat) : SmV := smSeq [1, 3, 10, 25, 26] (num_Put_c13_d n) (num_Put_c14_d n)
def num_Put_c16_d (n : Nat) : SmV := smSeq [1, 3, 10, 25, 26] (num_Put_c9_d n) (num_Put_c15_d n)
def num_Put_c17_d (n : Nat) : SmV := smSeq [1, 3, 10, 25, 26, 27] (num_Put_c8_d n) (num_Put_c16_d n)
def num_Put_c18_d (n : Nat) : SmV := smLoop n [1, 3, 10, 25, 26] (num_Put_c17_d n)
def num_Put_c19_d (n : Nat) : SmV := smBlock 0 (num_Put_c18_d n)
def num_Put_c20_d (n : Nat) : SmV := smSeq [1, 3, 10, 25, 26] (num_Put_c7_d n) (num_Put_c19_d n)
def num_Put_c21_d (n : Nat) : SmV := smOps E_num_Put num_Put_o9
def num_Put_c22_d (n : Nat) : SmV := smSeq [8, 9] (num_Put_c21_d n) smRet
def num_Put_c23_d (n : Nat) : SmV := smSeq [10] (num_Put_c20_d n) (num_Put_c22_d n)
def num_Put_c24_d (n : Nat) : SmV := smSeq [1, 2, 3, 10] (num_Put_c6_d n) (num_Put_c23_d n)
def num_Put_c25_d (n : Nat) : SmV := smSeq [0, 1, 2, 3] (num_Put_c5_d n) (num_Put_c24_d n)
def num_Put_c26_d (n : Nat) : SmV := smSeq [0, 1, 2, 3] (num_Put_c0_d n) (num_Put_c25_d n)
def num_Put_k0 (n : Nat) : AExit → Env → Heap → OptV := fun x e h => match x with | .normal => hold ((num_Put_c22_d n) A_num_Put.fin (e.keep [10]) h) | .exit id => A_num_Put.fin (.exit id) e h | .ret => A_num_Put.fin .ret e h
def num_Put_k1 (n : Nat) : AExit → Env → Heap → OptV := fun x e h => match x with | .exit i => bif Nat.beq i 0 then (num_Put_k0 n) .normal e h else (num_Put_k0 n) (.exit i) e h | .normal => (num_Put_k0 n) .normal e h | .ret => (num_Put_k0 n) .ret e h
def num_Put_l0 (n m : Nat) (x1 x3 x10 x25 x26 : Val) (h : Heap) : OptV := around (num_Put_c17_d n) [1, 3, 10, 25, 26] (num_Put_k1 n) m [(1, x1), (3, x3), (10, x10), (25, x25), (26, x26)] h
def R_num_Put (n : Nat) (args : List Val) (h : Heap) : OptV := (num_Put_c26_d n) A_num_Put.fin (params 0 args) h
theorem R_num_Put_eq (n : Nat) (a0 a1 a2 a3 : Val) (h : Heap) : R_num_Put n [a0, a1, a2, a3] h = bnd (abin .gtr a2 (.c (.i .i64 8))) fun v1 => bnd (gd v1 false (some (a1, (h ++ [some (Row.mk ([]) true)]))) (some (.no, (h ++ [some (Row.mk ([]) true)])))) fun p2 => bnd (gd v1 false (some (a2, p2.2)) (some (.no, p2.2))) fun p3 => bnd (gd v1 false (some (a0, p3.2)) (some (.no, p3.2))) fun p4 => bnd (gd v1 false (bnd (alen p4.1) fun v5 => some (v5, p4.2)) (some (.no, p4.2))) fun p6 => bnd (gd v1 false (bnd (S_num_there [p2.1, p3.1, p6.1] p6.2) fun p7 => some (p7.1, p7.2)) (some (.no, p6.2))) fun p8 => bnd (gd v1 false (bnd (aun .not p8.1) fun v9 => some (v9, p8.2)) (some (.no, p8.2))) fun p10 => bnd (apick v1 (.c (.b true)) p10.1) fun v11 => cnd v11 (tupN [some ((.c (.sl p10.2.length 0 0 1))), some (.c (.b false))] ((p10.2 ++ [some (Row.mk ([]) true)]))) (bnd (afill ([]) []) fun c12 => bnd (aapp ((p10.2 ++ [some (Row.mk (c12) true)])) 1 ((.c (.sl p10.2.length 0 0 1))) a0) fun p13 => num_Put_l0 n n a1 a3 p13.1 a2 (.c (.i .i64 0)) p13.2) := by kernel_rfl
theorem num_Put_l0_eq (n m : Nat) (x1 x3 x10 x25 x26 : Val) (h : Heap) : num_Put_l0 n (m + 1) x1 x3 x10 x25 x26 h = bnd (abin .lss x26 x25) fun v14 => cnd v14 (bnd (abin .add x1 x26) fun v15 => bnd (abin .mul (.c (.i .i64 8)) x26) fun v16 => bnd (aconv .u64 v16) fun v17 => bnd (abin .shr x3 v17) fun v18 => bnd (aconv .u8 v18) fun v19 => bnd (aiAddrL 1 x10 v15) fun v20 => bnd (astore1 h v20 v19) fun h21 => bnd (abin .add x26 (.c (.i .i64 1))) fun v22 => num_Put_l0 n m x1 x3 x10 x25 v22 h21) (tupN [some x10, some (.c (.b true))] h) := by kernel_rfl
theorem K_num_Put : FnK Try.prog 97 A_num_Put E_num_Put R_num_Put := .mk' (sound1 S_num_there_ok sound0) Try.func97 (by kernel_rfl) (by intro n args h; kernel_rfl)
def S_num_Put : Fun := tidy (Lim A_num_Put E_num_Put)
theorem S_num_Put_ok : SOk Try.prog 97 S_num_Put := K_num_Put.sok
theorem S_num_Put_tidy {n : Nat} {args : List Val} {h h2 : Heap} {v : Val} {v2 : Val} {ids : List Nat} (he : R_num_Put n args (ro h) = some (v, h2)) (hc : canonV h2 h.length v = some (v2, ids)) : S_num_Put args h = some (v2, h ++ ids.map (rd h2)) := K_num_Put.tidy he hc
def num_Cut_o0 : List AOper := [aO 3 (.box (.t 0)), aO 6 (.nilrow 1)]
def num_Cut_c0 : ACode := .ops num_Cut_o0
def num_Cut_o1 : List AOper := [aO 9 (.mv (.t 1)), aO 10 (.bin .lss (.t 9) (.v (.c (.i .i64 0)))), aO 11 (.mv (.t 10)), { dst := some 12, op := .mv (.t 1), guard := some (11, false) }, { dst := some 13, op := .bin .geq (.t 12) (.v (.c (.i .i64 256))), guard := some (11, false) }, aO 14 (.pick (.t 11) (.v (.c (.b true))) (.t 13)), aO 15 (.mv (.t 14)), { dst := some 16, op := .mv (.t 2), guard := some (15, false) }, { dst := some 17, op := .bin .lss (.t 16) (.v (.c (.i .i64 1))), guard := some (15, false) }, aO 18 (.pick (.t 15) (.v (.c (.b true))) (.t 17))]
def num_Cut_c1 : ACode := .ops num_Cut_o1
def num_Cut_o2 : List AOper := [aO 6 (.nilrow 1)]
def num_Cut_c2 : ACode := .ops num_Cut_o2
def num_Cut_c3 : ACode := .seq [6] num_Cut_c2 .ret
def num_Cut_c4 : ACode := .cond (.t 18) num_Cut_c3 .skip
def num_Cut_c5 : ACode := .seq [1, 2, 3, 18] num_Cut_c1 num_Cut_c4
def num_Cut_o3 : List AOper := [aO 19 (.mv (.t 2)), aO 20 (.mv (.t 1)), aO 21 (.bin .sub (.v (.c (.i .i64 256))) (.t 20)), aO 22 (.min (.t 19) (.t 21)), aO 2 (.mv (.t 22))]
def num_Cut_c6 : ACode := .ops num_Cut_o3
def num_Cut_o4 : List AOper := [aO 23 (.mv (.t 2)), aO 24 (.mkSl 1 ([.i .u8 0]) (.t 23) (.t 23)), aO 7 (.mv (.t 24))]
def num_Cut_c7 : ACode := .ops num_Cut_o4
def num_Cut_o5 : List AOper := [aO 25 (.mv (.t 2)), aO 26 (.mv (.v (.c (.i .i64 0))))]
def num_Cut_c8 : ACode := .ops num_Cut_o5
def num_Cut_o6 : List AOper := [aO 27 (.bin .lss (.t 26) (.t 25))]
def num_Cut_c9 : ACode := .ops num_Cut_o6
def num_Cut_c10 : ACode := .cond (.t 27) .skip (.exit 0)
def num_Cut_o7 : List AOper := [aO 28 (.mv (.t 26)), aO 8 (.mv (.t 28))]
def num_Cut_c11 : ACode := .ops num_Cut_o7
def num_Cut_o8 : List AOper := [aO 29 (.mv (.t 7)), aO 30 (.mv (.t 8)), aO 31 (.mv (.t 1)), aO 32 (.mv (.t 8)), aO 33 (.bin .add (.t 31) (.t 32)), aO 34 (.iAddrA 256 1 (.t 3) (.t 33)), aO 35 (.load1 (.t 34)), aO 36 (.iAddrL 1 (.t 29) (.t 30)), { dst := none, op := .store1 (.t 36) (.t 35) }]
def num_Cut_c12 : ACode := .ops num_Cut_o8
def num_Cut_c13 : ACode := .seq [1, 3, 7, 8, 25, 26] num_Cut_c11 num_Cut_c12
def num_Cut_c14 : ACode := .block 1 num_Cut_c13
def num_Cut_o9 : List AOper := [aO 37 (.bin .add (.t 26) (.v (.c (.i .i64 1)))), aO 26 (.mv (.t 37))]
def num_Cut_c15 : ACode := .ops num_Cut_o9
def num_Cut_c16 : ACode := .seq [1, 3, 7, 25, 26] num_Cut_c14 num_Cut_c15
def num_Cut_c17 : ACode := .seq [1, 3, 7, 25, 26] num_Cut_c10 num_Cut_c16
def num_Cut_c18 : ACode := .seq [1, 3, 7, 25, 26, 27] num_Cut_c9 num_Cut_c17
def num_Cut_c19 : ACode := .loop [1, 3, 7, 25, 26] num_Cut_c18
def num_Cut_c20 : ACode := .block 0 num_Cut_c19
def num_Cut_c21 : ACode := .seq [1, 3, 7, 25, 26] num_Cut_c8 num_Cut_c20
def num_Cut_o10 : List AOper := [aO 38 (.mv (.t 7)), aO 6 (.mv (.t 38))]
def num_Cut_c22 : ACode := .ops num_Cut_o10
def num_Cut_c23 : ACode := .seq [6] num_Cut_c22 .ret
def num_Cut_c24 : ACode := .seq [7] num_Cut_c21 num_Cut_c23
def num_Cut_c25 : ACode := .seq [1, 2, 3, 7] num_Cut_c7 num_Cut_c24
def num_Cut_c26 : ACode := .seq [1, 2, 3] num_Cut_c6 num_Cut_c25
def num_Cut_c27 : ACode := .seq [1, 2, 3] num_Cut_c5 num_Cut_c26
def num_Cut_c28 : ACode := .seq [1, 2, 3] num_Cut_c0 num_Cut_c27
def A_num_Cut : AFn := ⟨num_Cut_c28, [.tmp 6]⟩
def E_num_Cut : Sums := disp0
def num_Cut_c0_d (n : Nat) : SmV := smOps E_num_Cut num_Cut_o0
def num_Cut_c1_d (n : Nat) : SmV := smOps E_num_Cut num_Cut_o1
def num_Cut_c2_d (n : Nat) : SmV := smOps E_num_Cut num_Cut_o2
def num_Cut_c3_d (n : Nat) : SmV := smSeq [6] (num_Cut_c2_d n) smRet
def num_Cut_c4_d (n : Nat) : SmV := smCond (.t 18) (num_Cut_c3_d n) smSkip
def num_Cut_c5_d (n : Nat) : SmV := smSeq [1, 2, 3, 18] (num_Cut_c1_d n) (num_Cut_c4_d n)
def num_Cut_c6_d (n : Nat) : SmV := smOps E_num_Cut num_Cut_o3
def num_Cut_c7_d (n : Nat) : SmV := smOps E_num_Cut num_Cut_o4
def num_Cut_c8_d (n : Nat) : SmV := smOps E_num_Cut num_Cut_o5
def num_Cut_c9_d (n : Nat) : SmV := smOps E_num_Cut num_Cut_o6
def num_Cut_c10_d (n : Nat) : SmV := smCond (.t 27) smSkip (smExit 0)
def num_Cut_c11_d (n : Nat) : SmV := smOps E_num_Cut num_Cut_o7
def num_Cut_c12_d (n : Nat) : SmV := smOps E_num_Cut num_Cut_o8
def num_Cut_c13_d (n : Nat) : SmV := smSeq [1, 3, 7, 8, 25, 26] (num_Cut_c11_d n) (num_Cut_c12_d n)
def num_Cut_c14_d (n : Nat) : SmV := smBlock 1 (num_Cut_c13_d n)
def num_Cut_c15_d (n : Nat) : SmV := smOps E_num_Cut num_Cut_o9
def num_Cut_c16_d (n : Nat) : SmV := smSeq [1, 3, 7, 25, 26] (num_Cut_c14_d n) (num_Cut_c15_d n)
def num_Cut_c17_d (n : Nat) : SmV := smSeq [1, 3, 7, 25, 26] (num_Cut_c10_d n) (num_Cut_c16_d n)
def num_Cut_c18_d (n : Nat) : SmV := smSeq [1, 3, 7, 25, 26, 27] (num_Cut_c9_d n) (num_Cut_c17_d n)
def num_Cut_c19_d (n : Nat) : SmV := smLoop n [1, 3, 7, 25, 26] (num_Cut_c18_d n)
def num_Cut_c20_d (n : Nat) : SmV := smBlock 0 (num_Cut_c19_d n)
def num_Cut_c21_d (n : Nat) : SmV := smSeq [1, 3, 7, 25, 26] (num_Cut_c8_d n) (num_Cut_c20_d n)
def num_Cut_c22_d (n : Nat) : SmV := smOps E_num_Cut num_Cut_o10
def num_Cut_c23_d (n : Nat) : SmV := smSeq [6] (num_Cut_c22_d n) smRet
def num_Cut_c24_d (n : Nat) : SmV := smSeq [7] (num_Cut_c21_d n) (num_Cut_c23_d n)
def num_Cut_c25_d (n : Nat) : SmV := smSeq [1, 2, 3, 7] (num_Cut_c7_d n) (num_Cut_c24_d n)
def num_Cut_c26_d (n : Nat) : SmV := smSeq [1, 2, 3] (num_Cut_c6_d n) (num_Cut_c25_d n)
def num_Cut_c27_d (n : Nat) : SmV := smSeq [1, 2, 3] (num_Cut_c5_d n) (num_Cut_c26_d n)
def num_Cut_c28_d (n : Nat) : SmV := smSeq [1, 2, 3] (num_Cut_c0_d n) (num_Cut_c27_d n)
def num_Cut_k0 (n : Nat) : AExit → Env → Heap → OptV := fun x e h => match x with | .normal => hold ((num_Cut_c23_d n) A_num_Cut.fin (e.keep [7]) h) | .exit id => A_num_Cut.fin (.exit id) e h | .ret => A_num_Cut.fin .ret e h
def num_Cut_k1 (n : Nat) : AExit → Env → Heap → OptV := fun x e h => match x with | .exit i => bif Nat.beq i 0 then (num_Cut_k0 n) .normal e h else (num_Cut_k0 n) (.exit i) e h | .normal => (num_Cut_k0 n) .normal e h | .ret => (num_Cut_k0 n) .ret e h
def num_Cut_l0 (n m : Nat) (x1 x3 x7 x25 x26 : Val) (h : Heap) : OptV := around (num_Cut_c18_d n) [1, 3, 7, 25, 26] (num_Cut_k1 n) m [(1, x1), (3, x3), (7, x7), (25, x25), (26, x26)] h
def R_num_Cut (n : Nat) (args : List Val) (h : Heap) : OptV := (num_Cut_c28_d n) A_num_Cut.fin (params 0 args) h
theorem R_num_Cut_eq (n : Nat) (a0 a1 a2 : Val) (h : Heap) : R_num_Cut n [a0, a1, a2] h = bnd (cells? a0) fun c1 => bnd (abin .lss a1 (.c (.i .i64 0))) fun v2 => bnd (gd v2 false (some (a1, ((h ++ [some (Row.mk (c1) true)]) ++ [some (Row.mk ([]) true)]))) (some (.no, ((h ++ [some (Row.mk (c1) true)]) ++ [some (Row.mk ([]) true)])))) fun p3 => bnd (gd v2 false (bnd (abin .geq p3.1 (.c (.i .i64 256))) fun v4 => some (v4, p3.2)) (some (.no, p3.2))) fun p5 => bnd (apick v2 (.c (.b true)) p5.1) fun v6 => bnd (gd v6 false (some (a2, p5.2)) (some (.no, p5.2))) fun p7 => bnd (gd v6 false (bnd (abin .lss p7.1 (.c (.i .i64 1))) fun v8 => some (v8, p7.2)) (some (.no, p7.2))) fun p9 => bnd (apick v6 (.c (.b true)) p9.1) fun v10 => cnd v10 (some (((.c (.sl p9.2.length 0 0 1))), (p9.2 ++ [some (Row.mk ([]) true)]))) (bnd (abin .sub (.c (.i .i64 256)) a1) fun v11 => bnd (amin a2 v11) fun v12 => bnd (amkn v12 v12) fun n13 => num_Cut_l0 n n a1 ((.c (.p h.length 0))) ((.c (.sl p9.2.length 0 n13 1))) v12 (.c (.i .i64 0)) ((p9.2 ++ [some (Row.mk (rows ([.i .u8 0]) n13) true)]))) := by kernel_rfl
theorem num_Cut_l0_eq (n m : Nat) (x1 x3 x7 x25 x26 : Val) (h : Heap) : num_Cut_l0 n (m + 1) x1 x3 x7 x25 x26 h = bnd (abin .lss x26 x25) fun v14 => cnd v14 (bnd (abin .add x1 x26) fun v15 => bnd (aiAddrA 256 1 x3 v15) fun v16 => bnd (aload1 h v16) fun v17 => bnd (aiAddrL 1 x7 x26) fun v18 => bnd (astore1 h v18 v17) fun h19 => bnd (abin .add x26 (.c (.i .i64 1))) fun v20 => num_Cut_l0 n m x1 x3 x7 x25 v20 h19) (some (x7, h)) := by kernel_rfl
theorem K_num_Cut : FnK Try.prog 57 A_num_Cut E_num_Cut R_num_Cut := .mk' (sound0) Try.func57 (by kernel_rfl) (by intro n args h; kernel_rfl)
def S_num_Cut : Fun := tidy (Lim A_num_Cut E_num_Cut)
theorem S_num_Cut_ok : SOk Try.prog 57 S_num_Cut := K_num_Cut.sok
theorem S_num_Cut_out {n : Nat} {args : List Val} {h h2 : Heap} {v : Val} {sz k : Nat} {cs : List Cell} (he : R_num_Cut n args (ro h) = some (v, h2)) (ho : Out h.length h2 v sz k cs) (hf : flats cs = true) : S_num_Cut args h = some (.c (.sl h.length 0 k sz), h ++ [some ⟨cs, true⟩]) := K_num_Cut.out he ho hf
def num_Get_o0 : List AOper := [aO 6 (.mv (.v (.c (.i .u64 0)))), aO 7 (.mv (.v (.c (.b false))))]
def num_Get_c0 : ACode := .ops num_Get_o0
def num_Get_o1 : List AOper := [aO 10 (.mv (.t 2)), aO 11 (.bin .gtr (.t 10) (.v (.c (.i .i64 8)))), aO 12 (.mv (.t 11)), { dst := some 13, op := .mv (.t 1), guard := some (12, false) }, { dst := some 14, op := .mv (.t 2), guard := some (12, false) }, { dst := some 15, op := .mv (.t 0), guard := some (12, false) }, { dst := some 16, op := .len (.t 15), guard := some (12, false) }, { dst := some 17, op := .call 131 [(.t 13), (.t 14), (.t 16)], guard := some (12, false) }, { dst := some 18, op := .un .not (.t 17), guard := some (12, false) }, aO 19 (.pick (.t 12) (.v (.c (.b true))) (.t 18))]
def num_Get_c1 : ACode := .ops num_Get_o1
def num_Get_o2 : List AOper := [aO 6 (.mv (.v (.c (.i .u64 0)))), aO 7 (.mv (.v (.c (.b false))))]
def num_Get_c2 : ACode := .ops num_Get_o2
def num_Get_c3 : ACode := .seq [6, 7] num_Get_c2 .ret
def num_Get_c4 : ACode := .cond (.t 19) num_Get_c3 .skip
def num_Get_c5 : ACode := .seq [0, 1, 2, 19] num_Get_c1 num_Get_c4
def num_Get_o3 : List AOper := [aO 8 (.mv (.v (.c (.i .u64 0))))]
def num_Get_c6 : ACode := .ops num_Get_o3
def num_Get_o4 : List AOper := [aO 20 (.mv (.t 2)), aO 21 (.mv (.v (.c (.i .i64 0))))]
def num_Get_c7 : ACode := .ops num_Get_o4
def num_Get_o5 : List AOper := [aO 22 (.bin .lss (.t 21) (.t 20))]
def num_Get_c8 : ACode := .ops num_Get_o5
def num_Get_c9 : ACode := .cond (.t 22) .skip (.exit 0)
def num_Get_o6 : List AOper := [aO 23 (.mv (.t 21)), aO 9 (.mv (.t 23))]
def num_Get_c10 : ACode := .ops num_Get_o6
def num_Get_o7 : List AOper := [aO 24 (.mv (.t 8)), aO 25 (.mv (.t 0)), aO 26 (.mv (.t 1)), aO 27 (.mv (.t 9)), aO 28 (.bin .add (.t 26) (.t 27)), aO 29 (.iAddrL 1 (.t 25) (.t 28)), aO 30 (.load1 (.t 29)), aO 31 (.conv .u64 (.t 30)), aO 32 (.mv (.t 9)), aO 33 (.bin .mul (.v (.c (.i .i64 8))) (.t 32)), aO 34 (.conv .u64 (.t 33)), aO 35 (.bin .shl (.t 31) (.t 34)), aO 36 (.bin .or (.t 24) (.t 35)), aO 8 (.mv (.t 36))]
def num_Get_c11 : ACode := .ops num_Get_o7
def num_Get_c12 : ACode := .seq [0, 1, 8, 9, 20, 21] num_Get_c10 num_Get_c11
def num_Get_c13 : ACode := .block 1 num_Get_c12
def num_Get_o8 : List AOper := [aO 37 (.bin .add (.t 21) (.v (.c (.i .i64 1)))), aO 21 (.mv (.t 37))]
def num_Get_c14 : ACode := .ops num_Get_o8
def num_Get_c15 : ACode := .seq [0, 1, 8, 20, 21] num_Get_c13 num_Get_c14
def num_Get_c16 : ACode := .seq [0, 1, 8, 20, 21] num_Get_c9 num_Get_c15
def num_Get_c17 : ACode := .seq [0, 1, 8, 20, 21, 22] num_Get_c8 num_Get_c16
def num_Get_c18 : ACode := .loop [0, 1, 8, 20, 21] num_Get_c17
def num_Get_c19 : ACode := .block 0 num_Get_c18
def num_Get_c20 : ACode := .seq [0, 1, 8, 20, 21] num_Get_c7 num_Get_c19
def num_Get_o9 : List AOper := [aO 38 (.mv (.t 8)), aO 6 (.mv (.t 38)), aO 7 (.mv (.v (.c (.b true))))]
def num_Get_c21 : ACode := .ops num_Get_o9
def num_Get_c22 : ACode := .seq [6, 7] num_Get_c21 .ret
def num_Get_c23 : ACode := .seq [8] num_Get_c20 num_Get_c22
def num_Get_c24 : ACode := .seq [0, 1, 2, 8] num_Get_c6 num_Get_c23
def num_Get_c25 : ACode := .seq [0, 1, 2] num_Get_c5 num_Get_c24
def num_Get_c26 : ACode := .seq [0, 1, 2] num_Get_c0 num_Get_c25
def A_num_Get : AFn := ⟨num_Get_c26, [.tmp 6, .tmp 7]⟩
def E_num_Get : Sums := disp 131 S_num_there disp0
def num_Get_c0_d (n : Nat) : SmV := smOps E_num_Get num_Get_o0
def num_Get_c1_d (n : Nat) : SmV := smOps E_num_Get num_Get_o1
def num_Get_c2_d (n : Nat) : SmV := smOps E_num_Get num_Get_o2
def num_Get_c3_d (n : Nat) : SmV := smSeq [6, 7] (num_Get_c2_d n) smRet
def num_Get_c4_d (n : Nat) : SmV := smCond (.t 19) (num_Get_c3_d n) smSkip
def num_Get_c5_d (n : Nat) : SmV := smSeq [0, 1, 2, 19] (num_Get_c1_d n) (num_Get_c4_d n)
def num_Get_c6_d (n : Nat) : SmV := smOps E_num_Get num_Get_o3
def num_Get_c7_d (n : Nat) : SmV := smOps E_num_Get num_Get_o4
def num_Get_c8_d (n : Nat) : SmV := smOps E_num_Get num_Get_o5
def num_Get_c9_d (n : Nat) : SmV := smCond (.t 22) smSkip (smExit 0)
def num_Get_c10_d (n : Nat) : SmV := smOps E_num_Get num_Get_o6
def num_Get_c11_d (n : Nat) : SmV := smOps E_num_Get num_Get_o7
def num_Get_c12_d (n : Nat) : SmV := smSeq [0, 1, 8, 9, 20, 21] (num_Get_c10_d n) (num_Get_c11_d n)
def num_Get_c13_d (n : Nat) : SmV := smBlock 1 (num_Get_c12_d n)
def num_Get_c14_d (n : Nat) : SmV := smOps E_num_Get num_Get_o8
def num_Get_c15_d (n : Nat) : SmV := smSeq [0, 1, 8, 20, 21] (num_Get_c13_d n) (num_Get_c14_d n)
def num_Get_c16_d (n : Nat) : SmV := smSeq [0, 1, 8, 20, 21] (num_Get_c9_d n) (num_Get_c15_d n)
def num_Get_c17_d (n : Nat) : SmV := smSeq [0, 1, 8, 20, 21, 22] (num_Get_c8_d n) (num_Get_c16_d n)
def num_Get_c18_d (n : Nat) : SmV := smLoop n [0, 1, 8, 20, 21] (num_Get_c17_d n)
def num_Get_c19_d (n : Nat) : SmV := smBlock 0 (num_Get_c18_d n)
def num_Get_c20_d (n : Nat) : SmV := smSeq [0, 1, 8, 20, 21] (num_Get_c7_d n) (num_Get_c19_d n)
def num_Get_c21_d (n : Nat) : SmV := smOps E_num_Get num_Get_o9
def num_Get_c22_d (n : Nat) : SmV := smSeq [6, 7] (num_Get_c21_d n) smRet
def num_Get_c23_d (n : Nat) : SmV := smSeq [8] (num_Get_c20_d n) (num_Get_c22_d n)
def num_Get_c24_d (n : Nat) : SmV := smSeq [0, 1, 2, 8] (num_Get_c6_d n) (num_Get_c23_d n)
def num_Get_c25_d (n : Nat) : SmV := smSeq [0, 1, 2] (num_Get_c5_d n) (num_Get_c24_d n)
def num_Get_c26_d (n : Nat) : SmV := smSeq [0, 1, 2] (num_Get_c0_d n) (num_Get_c25_d n)
def num_Get_k0 (n : Nat) : AExit → Env → Heap → OptV := fun x e h => match x with | .normal => hold ((num_Get_c22_d n) A_num_Get.fin (e.keep [8]) h) | .exit id => A_num_Get.fin (.exit id) e h | .ret => A_num_Get.fin .ret e h
def num_Get_k1 (n : Nat) : AExit → Env → Heap → OptV := fun x e h => match x with | .exit i => bif Nat.beq i 0 then (num_Get_k0 n) .normal e h else (num_Get_k0 n) (.exit i) e h | .normal => (num_Get_k0 n) .normal e h | .ret => (num_Get_k0 n) .ret e h
def num_Get_l0 (n m : Nat) (x0 x1 x8 x20 x21 : Val) (h : Heap) : OptV := around (num_Get_c17_d n) [0, 1, 8, 20, 21] (num_Get_k1 n) m [(0, x0), (1, x1), (8, x8), (20, x20), (21, x21)] h
def R_num_Get (n : Nat) (args : List Val) (h : Heap) : OptV := (num_Get_c26_d n) A_num_Get.fin (params 0 args) h
theorem R_num_Get_eq (n : Nat) (a0 a1 a2 : Val) (h : Heap) : R_num_Get n [a0, a1, a2] h = bnd (abin .gtr a2 (.c (.i .i64 8))) fun v1 => bnd (gd v1 false (some (a1, h)) (some (.no, h))) fun p2 => bnd (gd v1 false (some (a2, p2.2)) (some (.no, p2.2))) fun p3 => bnd (gd v1 false (some (a0, p3.2)) (some (.no, p3.2))) fun p4 => bnd (gd v1 false (bnd (alen p4.1) fun v5 => some (v5, p4.2)) (some (.no, p4.2))) fun p6 => bnd (gd v1 false (bnd (S_num_there [p2.1, p3.1, p6.1] p6.2) fun p7 => some (p7.1, p7.2)) (some (.no, p6.2))) fun p8 => bnd (gd v1 false (bnd (aun .not p8.1) fun v9 => some (v9, p8.2)) (some (.no, p8.2))) fun p10 => bnd (apick v1 (.c (.b true)) p10.1) fun v11 => cnd v11 (tupN [some (.c (.i .u64 0)), some (.c (.b false))] p10.2) (num_Get_l0 n n a0 a1 (.c (.i .u64 0)) a2 (.c (.i .i64 0)) p10.2) := by kernel_rfl
theorem num_Get_l0_eq (n m : Nat) (x0 x1 x8 x20 x21 : Val) (h : Heap) : num_Get_l0 n (m + 1) x0 x1 x8 x20 x21 h = bnd (abin .lss x21 x20) fun v12 => cnd v12 (bnd (abin .add x1 x21) fun v13 => bnd (aiAddrL 1 x0 v13) fun v14 => bnd (aload1 h v14) fun v15 => bnd (aconv .u64 v15) fun v16 => bnd (abin .mul (.c (.i .i64 8)) x21) fun v17 => bnd (aconv .u64 v17) fun v18 => bnd (abin .shl v16 v18) fun v19 => bnd (abin .or x8 v19) fun v20 => bnd (abin .add x21 (.c (.i .i64 1))) fun v21 => num_Get_l0 n m x0 x1 v20 x20 v21 h) (tupN [some x8, some (.c (.b true))] h) := by kernel_rfl
theorem K_num_Get : FnK Try.prog 100 A_num_Get E_num_Get R_num_Get := .mk' (sound1 S_num_there_ok sound0) Try.func100 (by kernel_rfl) (by intro n args h; kernel_rfl)
def S_num_Get : Fun := tidy (Lim A_num_Get E_num_Get)
theorem S_num_Get_ok : SOk Try.prog 100 S_num_Get := K_num_Get.sok
theorem S_num_Get_flat {n : Nat} {args : List Val} {h h2 : Heap} {v : Val} (he : R_num_Get n args (ro h) = some (v, h2)) (hf : v.flat = true) : S_num_Get args h = some (v, h) := K_num_Get.flat he hf
def num_At_o0 : List AOper := [aO 3 (.box (.t 0)), aO 6 (.mv (.v (.c (.i .i64 0))))]
def num_At_c0 : ACode := .ops num_At_o0
def num_At_o1 : List AOper := [aO 9 (.mv (.t 2)), aO 10 (.bin .gtr (.t 9) (.v (.c (.i .i64 4)))), aO 11 (.mv (.t 10)), { dst := some 12, op := .mv (.t 1), guard := some (11, false) }, { dst := some 13, op := .mv (.t 2), guard := some (11, false) }, { dst := some 14, op := .call 131 [(.t 12), (.t 13), (.v (.c (.i .i64 256)))], guard := some (11, false) }, { dst := some 15, op := .un .not (.t 14), guard := some (11, false) }, aO 16 (.pick (.t 11) (.v (.c (.b true))) (.t 15))]
def num_At_c1 : ACode := .ops num_At_o1
def num_At_o2 : List AOper := [aO 6 (.mv (.v (.c (.i .i64 0))))]
def num_At_c2 : ACode := .ops num_At_o2
def num_At_c3 : ACode := .seq [6] num_At_c2 .ret
def num_At_c4 : ACode := .cond (.t 16) num_At_c3 .skip
def num_At_c5 : ACode := .seq [1, 2, 3, 16] num_At_c1 num_At_c4
def num_At_o3 : List AOper := [aO 7 (.mv (.v (.c (.i .i64 0))))]
def num_At_c6 : ACode := .ops num_At_o3
def num_At_o4 : List AOper := [aO 17 (.mv (.t 2)), aO 18 (.mv (.v (.c (.i .i64 0))))]
def num_At_c7 : ACode := .ops num_At_o4
def num_At_o5 : List AOper := [aO 19 (.bin .lss (.t 18) (.t 17))]
def num_At_c8 : ACode := .ops num_At_o5
def num_At_c9 : ACode := .cond (.t 19) .skip (.exit 0)
def num_At_o6 : List AOper := [aO 20 (.mv (.t 18)), aO 8 (.mv (.t 20))]
def num_At_c10 : ACode := .ops num_At_o6
def num_At_o7 : List AOper := [aO 21 (.mv (.t 7)), aO 22 (.mv (.t 1)), aO 23 (.mv (.t 8)), aO 24 (.bin .add (.t 22) (.t 23)), aO 25 (.iAddrA 256 1 (.t 3) (.t 24)), aO 26 (.load1 (.t 25)), aO 27 (.conv .i64 (.t 26)), aO 28 (.mv (.t 8)), aO 29 (.bin .mul (.v (.c (.i .i64 8))) (.t 28)), aO 30 (.conv .u64 (.t 29)), aO 31 (.bin .shl (.t 27) (.t 30)), aO 32 (.bin .or (.t 21) (.t 31)), aO 7 (.mv (.t 32))]
def num_At_c11 : ACode := .ops num_At_o7
def num_At_c12 : ACode := .seq [1, 3, 7, 8, 17, 18] num_At_c10 num_At_c11
def num_At_c13 : ACode := .block 1 num_At_c12
def num_At_o8 : List AOper := [aO 33 (.bin .add (.t 18) (.v (.c (.i .i64 1)))), aO 18 (.mv (.t 33))]
def num_At_c14 : ACode := .ops num_At_o8
def num_At_c15 : ACode := .seq [1, 3, 7, 17, 18] num_At_c13 num_At_c14
def num_At_c16 : ACode := .seq [1, 3, 7, 17, 18] num_At_c9 num_At_c15
def num_At_c17 : ACode := .seq [1, 3, 7, 17, 18, 19] num_At_c8 num_At_c16
def num_At_c18 : ACode := .loop [1, 3, 7, 17, 18] num_At_c17
def num_At_c19 : ACode := .block 0 num_At_c18
def num_At_c20 : ACode := .seq [1, 3, 7, 17, 18] num_At_c7 num_At_c19
def num_At_o9 : List AOper := [aO 34 (.mv (.t 7)), aO 6 (.mv (.t 34))]
def num_At_c21 : ACode := .ops num_At_o9
def num_At_c22 : ACode := .seq [6] num_At_c21 .ret
def num_At_c23 : ACode := .seq [7] num_At_c20 num_At_c22
def num_At_c24 : ACode := .seq [1, 2, 3, 7] num_At_c6 num_At_c23
def num_At_c25 : ACode := .seq [1, 2, 3] num_At_c5 num_At_c24
def num_At_c26 : ACode := .seq [1, 2, 3] num_At_c0 num_At_c25
def A_num_At : AFn := ⟨num_At_c26, [.tmp 6]⟩
def E_num_At : Sums := disp 131 S_num_there disp0
def num_At_c0_d (n : Nat) : SmV := smOps E_num_At num_At_o0
def num_At_c1_d (n : Nat) : SmV := smOps E_num_At num_At_o1
def num_At_c2_d (n : Nat) : SmV := smOps E_num_At num_At_o2
def num_At_c3_d (n : Nat) : SmV := smSeq [6] (num_At_c2_d n) smRet
def num_At_c4_d (n : Nat) : SmV := smCond (.t 16) (num_At_c3_d n) smSkip
def num_At_c5_d (n : Nat) : SmV := smSeq [1, 2, 3, 16] (num_At_c1_d n) (num_At_c4_d n)
def num_At_c6_d (n : Nat) : SmV := smOps E_num_At num_At_o3
def num_At_c7_d (n : Nat) : SmV := smOps E_num_At num_At_o4
def num_At_c8_d (n : Nat) : SmV := smOps E_num_At num_At_o5
def num_At_c9_d (n : Nat) : SmV := smCond (.t 19) smSkip (smExit 0)
def num_At_c10_d (n : Nat) : SmV := smOps E_num_At num_At_o6
def num_At_c11_d (n : Nat) : SmV := smOps E_num_At num_At_o7
def num_At_c12_d (n : Nat) : SmV := smSeq [1, 3, 7, 8, 17, 18] (num_At_c10_d n) (num_At_c11_d n)
def num_At_c13_d (n : Nat) : SmV := smBlock 1 (num_At_c12_d n)
def num_At_c14_d (n : Nat) : SmV := smOps E_num_At num_At_o8
def num_At_c15_d (n : Nat) : SmV := smSeq [1, 3, 7, 17, 18] (num_At_c13_d n) (num_At_c14_d n)
def num_At_c16_d (n : Nat) : SmV := smSeq [1, 3, 7, 17, 18] (num_At_c9_d n) (num_At_c15_d n)
def num_At_c17_d (n : Nat) : SmV := smSeq [1, 3, 7, 17, 18, 19] (num_At_c8_d n) (num_At_c16_d n)
def num_At_c18_d (n : Nat) : SmV := smLoop n [1, 3, 7, 17, 18] (num_At_c17_d n)
def num_At_c19_d (n : Nat) : SmV := smBlock 0 (num_At_c18_d n)
def num_At_c20_d (n : Nat) : SmV := smSeq [1, 3, 7, 17, 18] (num_At_c7_d n) (num_At_c19_d n)
def num_At_c21_d (n : Nat) : SmV := smOps E_num_At num_At_o9
def num_At_c22_d (n : Nat) : SmV := smSeq [6] (num_At_c21_d n) smRet
def num_At_c23_d (n : Nat) : SmV := smSeq [7] (num_At_c20_d n) (num_At_c22_d n)
def num_At_c24_d (n : Nat) : SmV := smSeq [1, 2, 3, 7] (num_At_c6_d n) (num_At_c23_d n)
def num_At_c25_d (n : Nat) : SmV := smSeq [1, 2, 3] (num_At_c5_d n) (num_At_c24_d n)
def num_At_c26_d (n : Nat) : SmV := smSeq [1, 2, 3] (num_At_c0_d n) (num_At_c25_d n)
def num_At_k0 (n : Nat) : AExit → Env → Heap → OptV := fun x e h => match x with | .normal => hold ((num_At_c22_d n) A_num_At.fin (e.keep [7]) h) | .exit id => A_num_At.fin (.exit id) e h | .ret => A_num_At.fin .ret e h
def num_At_k1 (n : Nat) : AExit → Env → Heap → OptV := fun x e h => match x with | .exit i => bif Nat.beq i 0 then (num_At_k0 n) .normal e h else (num_At_k0 n) (.exit i) e h | .normal => (num_At_k0 n) .normal e h | .ret => (num_At_k0 n) .ret e h
def num_At_l0 (n m : Nat) (x1 x3 x7 x17 x18 : Val) (h : Heap) : OptV := around (num_At_c17_d n) [1, 3, 7, 17, 18] (num_At_k1 n) m [(1, x1), (3, x3), (7, x7), (17, x17), (18, x18)] h
def R_num_At (n : Nat) (args : List Val) (h : Heap) : OptV := (num_At_c26_d n) A_num_At.fin (params 0 args) h
theorem R_num_At_eq (n : Nat) (a0 a1 a2 : Val) (h : Heap) : R_num_At n [a0, a1, a2] h = bnd (cells? a0) fun c1 => bnd (abin .gtr a2 (.c (.i .i64 4))) fun v2 => bnd (gd v2 false (some (a1, (h ++ [some (Row.mk (c1) true)]))) (some (.no, (h ++ [some (Row.mk (c1) true)])))) fun p3 => bnd (gd v2 false (some (a2, p3.2)) (some (.no, p3.2))) fun p4 => bnd (gd v2 false (bnd (S_num_there [p3.1, p4.1, .c (.i .i64 256)] p4.2) fun p5 => some (p5.1, p5.2)) (some (.no, p4.2))) fun p6 => bnd (gd v2 false (bnd (aun .not p6.1) fun v7 => some (v7, p6.2)) (some (.no, p6.2))) fun p8 => bnd (apick v2 (.c (.b true)) p8.1) fun v9 => cnd v9 (some ((.c (.i .i64 0)), p8.2)) (num_At_l0 n n a1 ((.c (.p h.length 0))) (.c (.i .i64 0)) a2 (.c (.i .i64 0)) p8.2) := by kernel_rfl
theorem num_At_l0_eq (n m : Nat) (x1 x3 x7 x17 x18 : Val) (h : Heap) : num_At_l0 n (m + 1) x1 x3 x7 x17 x18 h = bnd (abin .lss x18 x17) fun v10 => cnd v10 (bnd (abin .add x1 x18) fun v11 => bnd (aiAddrA 256 1 x3 v11) fun v12 => bnd (aload1 h v12) fun v13 => bnd (aconv .i64 v13) fun v14 => bnd (abin .mul (.c (.i .i64 8)) x18) fun v15 => bnd (aconv .u64 v15) fun v16 => bnd (abin .shl v14 v16) fun v17 => bnd (abin .or x7 v17) fun v18 => bnd (abin .add x18 (.c (.i .i64 1))) fun v19 => num_At_l0 n m x1 x3 v18 x17 v19 h) (some (x7, h)) := by kernel_rfl
theorem K_num_At : FnK Try.prog 101 A_num_At E_num_At R_num_At := .mk' (sound1 S_num_there_ok sound0) Try.func101 (by kernel_rfl) (by intro n args h; kernel_rfl)
def S_num_At : Fun := tidy (Lim A_num_At E_num_At)
theorem S_num_At_ok : SOk Try.prog 101 S_num_At := K_num_At.sok
theorem S_num_At_flat {n : Nat} {args : List Val} {h h2 : Heap} {v : Val} (he : R_num_At n args (ro h) = some (v, h2)) (hf : v.flat = true) : S_num_At args h = some (v, h) := K_num_At.flat he hf
end Go.Proofs.Ytdgggnlbdoiloaa
end
section
namespace Go.Proofs.Ytdgggnlbdoiloaa
open Go Go.Esc

def thereI (at' width all : Int) : Bool := decide (0 ≤ at') && decide (1 ≤ width) && decide (width ≤ all) && decide (at' ≤ all - width)

theorem thereI_true {a w n : Int} : thereI a w n = true ↔ 0 ≤ a ∧ 1 ≤ w ∧ w ≤ n ∧ a ≤ n - w := by
  unfold thereI; simp [and_assoc]

theorem there_eq {a w n : Int} {h : Heap} (hn : n < 9223372036854775808) :
    S_num_there [.c (.i .i64 a), .c (.i .i64 w), .c (.i .i64 n)] h = some (.c (.b (thereI a w n)), h) := by
  refine S_num_there_flat (n := 0) (h2 := ro h) ?_ rfl
  rw [R_num_there_eq]
  unfold thereI
  by_cases h1 : 0 ≤ a
  · by_cases h2 : 1 ≤ w
    · by_cases h3 : w ≤ n
      · have e : IntKind.wrap .i64 (n - w) = n - w := wrap_i64 (by omega) (by omega)
        simp [h1, h2, h3, e]
      · simp [h1, h2, h3]
    · simp [h1, h2]
  · simp [h1]

def getN (l : List UInt8) (a w : Int) : Option Nat := if w ≤ 8 ∧ thereI a w l.length = true then some (le ((l.drop a.toNat).take w.toNat)) else none

theorem num_At_loop {l : List UInt8} {h : Heap} {a w k : Nat} (hw : w ≤ 4) (haw : a + w ≤ 256) (hl : l.length = 256) : ∀ d i m, i + d = w → d < m →
    num_At_l0 k m (.c (.i .i64 a)) (.c (.p h.length 0)) (.c (.i .i64 (le ((l.drop a).take i)))) (.c (.i .i64 w)) (.c (.i .i64 i)) (h ++ [some ⟨encB l, true⟩]) = some (.c (.i .i64 (le ((l.drop a).take w))), h ++ [some ⟨encB l, true⟩])
  | d, i, 0, _, hm => by omega
  | 0, i, m + 1, hi, hm => by
    have e : i = w := by omega
    subst e
    rw [num_At_l0_eq]
    simp
  | d + 1, i, m + 1, hi, hm => by
    have ih := num_At_loop (h := h) (k := k) hw haw hl d (i + 1) m (by omega) (by omega)
    have hx := load1_of (h := h ++ [some ⟨encB l, true⟩]) (id := h.length) (off := a + i) (c := .i .u8 l[a + i].toNat) rd_new (by rw [encB_get, List.getElem?_eq_getElem (by omega)]; rfl) rfl
    have hb := l[a + i].toNat_lt
    have hlen : ((l.drop a).take i).length = i := by simp; omega
    have hle := le_lt ((l.drop a).take i)
    rw [hlen] at hle
    have hp := pow256_le (show i ≤ 4 by omega)
    have hbp := byte_pow_lt (x := l[a + i]) (show i < 4 by omega)
    have e2 : IntKind.wrap .i64 (8 * (i : Int)) = 8 * i := wrap_i64 (by omega) (by omega)
    have e3 : IntKind.wrap .u64 (8 * (i : Int)) = 8 * i := wrap_u64 (by omega) (by omega)
    have e5 : IntKind.wrap .i64 (l[a + i].toNat : Int) = l[a + i].toNat := wrap_i64 (by omega) (by omega)
    have e6 := shl_step (k := .i64) (x := l[a + i]) (show i < 8 by omega) (wrap_i64 (by omega) (by omega)) rfl
    have e7 : abin .or (.c (.i .i64 (le ((l.drop a).take i) : Nat))) (.c (.i .i64 ((l[a + i].toNat * 256 ^ i : Nat) : Int))) = some (.c (.i .i64 (le ((l.drop a).take (i + 1)) : Nat))) := by
      rw [or_i64 (by omega) (by omega), take_succ_get (by omega), ← or_step, hlen]
    have ea : aiAddrA 256 1 (.c (.p h.length 0)) (.c (.i .i64 ((a + i : Nat) : Int))) = some (.c (.p h.length (a + i))) := by rw [iAddrA_of (by omega)]; simp
    have h1' : (i : Int) < w := by omega
    rw [num_At_l0_eq]
    simp only [esc, h1', wi_add (show a + i < 9223372036854775808 by omega), e2, e3, ea, hx, e5, e6, e7, wi_succ (show i + 1 < 9223372036854775808 by omega)]
    exact ih

def atN (l : List UInt8) (a w : Int) : Nat := if w ≤ 4 ∧ thereI a w 256 = true then le ((l.drop a.toNat).take w.toNat) else 0

theorem num_At_eq {l : List UInt8} {h : Heap} (hl : l.length = 256) {a w : Int} :
    S_num_At [.a (encB l), .c (.i .i64 a), .c (.i .i64 w)] h = some (.c (.i .i64 (atN l a w)), h) := by
  refine S_num_At_flat (n := w.toNat + 1) (h2 := ro h ++ [some ⟨encB l, true⟩]) ?_ (by simp)
  rw [R_num_At_eq]
  unfold atN
  by_cases c1 : 4 < w
  · have c1' : ¬ w ≤ 4 := by omega
    simp [c1, c1']
  · have c1' : w ≤ 4 := by omega
    cases c2 : thereI a w 256 with
    | false => simp [c1, there_eq (show (256 : Int) < 9223372036854775808 by omega), c2]
    | true =>
      simp [c1, c1', there_eq (show (256 : Int) < 9223372036854775808 by omega), c2]
      rw [thereI_true] at c2
      have := num_At_loop (h := ro h) (a := a.toNat) (w := w.toNat) (k := w.toNat + 1) (by omega) (by omega) hl w.toNat 0 (w.toNat + 1) (by omega) (by omega)
      simp only [show ((a.toNat : Nat) : Int) = a by omega, show ((w.toNat : Nat) : Int) = w by omega] at this
      simpa [le] using this

theorem num_With_loop {l : List UInt8} {z : List Cell} {h : Heap} {a w k : Nat} {v : Int} (hw : w ≤ 4) (haw : a + w ≤ 256) (hl : l.length = 256) (hz : z.length = 256) : ∀ d i m, i + d = w → d < m →
    num_With_l0 k m (.c (.i .i64 a)) (.c (.i .i64 v)) (.c (.p h.length 0)) (.c (.p (h.length + 1) 0)) (.c (.i .i64 w)) (.c (.i .i64 i)) (h ++ [some ⟨encB (layB l a (bytesI i v)), true⟩, some ⟨z, true⟩]) =
      some (.a (encB (layB l a (bytesI w v))), h ++ [some ⟨encB (layB l a (bytesI w v)), true⟩, some ⟨encB (layB l a (bytesI w v)), true⟩])
  | d, i, 0, _, hm => by omega
  | 0, i, m + 1, hi, hm => by
    have e : i = w := by omega
    subst e
    have hle : (encB (layB l a (bytesI i v))).length = 256 := by rw [encB_length, layB_length (by simp; omega), hl]
    have s1 := loadAll (h := h ++ [some ⟨encB (layB l a (bytesI i v)), true⟩, some ⟨z, true⟩]) (id := h.length) (cs := encB (layB l a (bytesI i v))) (by simp) hle
    have s2 := storeAll (h := h ++ [some ⟨encB (layB l a (bytesI i v)), true⟩, some ⟨z, true⟩]) (id := h.length + 1) (cs := z) (xs := encB (layB l a (bytesI i v))) (by simp) hz hle
    have s3 := loadAll (h := h ++ [some ⟨encB (layB l a (bytesI i v)), true⟩, some ⟨encB (layB l a (bytesI i v)), true⟩]) (id := h.length + 1) (cs := encB (layB l a (bytesI i v))) (by simp) hle
    have h1' : ¬ (i : Int) < i := by omega
    rw [num_With_l0_eq]
    simp only [esc, h1', s1, s2, s3]
  | d + 1, i, m + 1, hi, hm => by
    have ih := num_With_loop (h := h) (k := k) (v := v) hw haw hl hz d (i + 1) m (by omega) (by omega)
    have e2 : IntKind.wrap .i64 (8 * (i : Int)) = 8 * i := wrap_i64 (by omega) (by omega)
    have e3 : IntKind.wrap .u64 (8 * (i : Int)) = 8 * i := wrap_u64 (by omega) (by omega)
    have e4 : abin .shr (.c (.i .i64 v)) (.c (.i .u64 (8 * (i : Int)))) = some (.c (.i .i64 (v / 2 ^ (Nat.min (8 * (i : Int)).toNat 64)))) := abin_shr (by omega)
    have ea : aiAddrA 256 1 (.c (.p h.length 0)) (.c (.i .i64 ((a + i : Nat) : Int))) = some (.c (.p h.length (a + i))) := by rw [iAddrA_of (by omega)]; simp
    have hst := store1_of (h := h ++ [some ⟨encB (layB l a (bytesI i v)), true⟩, some ⟨z, true⟩]) (id := h.length) (off := a + i) (cs := encB (layB l a (bytesI i v))) (x := .i .u8 (byI v i).toNat) (by simp)
      (by rw [encB_length, layB_length (by simp; omega)]; omega)
    have e5 : (layB l a (bytesI i v)).set (a + i) (byI v i) = layB l a (bytesI (i + 1) v) := by
      rw [bytesI_succ]
      have := layB_snoc (l := l) (xs := bytesI i v) (a := a) (x := byI v i) (by simp; omega)
      simpa using this
    rw [encB_set, e5] at hst
    have h1' : (i : Int) < w := by omega
    rw [num_With_l0_eq]
    simp only [esc, h1', wi_add (show a + i < 9223372036854775808 by omega), e2, e3, e4, byte_step (v := v) (show i < 8 by omega), ea, hst, wi_succ (show i + 1 < 9223372036854775808 by omega)]
    exact ih

def withB (l : List UInt8) (a w v : Int) : List UInt8 := if w ≤ 4 ∧ thereI a w 256 = true then layB l a.toNat (bytesI w.toNat v) else l

theorem withB_length {l : List UInt8} {a w v : Int} (hl : l.length = 256) : (withB l a w v).length = 256 := by
  unfold withB
  split
  · rename_i h
    rw [thereI_true] at h
    rw [layB_length (by simp; omega), hl]
  · exact hl

theorem num_With_run {l : List UInt8} {g : Heap} (hl : l.length = 256) {a w v : Int} :
    ∃ g', R_num_With (w.toNat + 1) [.a (encB l), .c (.i .i64 a), .c (.i .i64 w), .c (.i .i64 v)] g = some (.a (encB (withB l a w v)), g') := by
  have hle : (encB l).length = 256 := by rw [encB_length, hl]
  have hz : (List.replicate 256 (Cell.i .u8 0)).length = 256 := List.length_replicate
  rw [R_num_With_eq]
  generalize List.replicate 256 (Cell.i .u8 0) = z at *
  have s1 := loadAll (h := g ++ [some ⟨encB l, true⟩, some ⟨z, true⟩]) (id := g.length) (cs := encB l) (n := 256) (by simp) hle
  have s2 := storeAll (h := g ++ [some ⟨encB l, true⟩, some ⟨z, true⟩]) (id := g.length + 1) (cs := z) (xs := encB l) (by simp) hz hle
  have s3 := loadAll (h := g ++ [some ⟨encB l, true⟩, some ⟨encB l, true⟩]) (id := g.length + 1) (cs := encB l) (n := 256) (by simp) hle
  unfold withB
  by_cases c1 : 4 < w
  · rw [if_neg (by omega)]
    exact ⟨_, by simp only [esc, c1, s1, s2, s3]; rfl⟩
  · have c1' : w ≤ 4 := by omega
    cases c2 : thereI a w 256 with
    | false =>
      rw [if_neg (by simp)]
      exact ⟨_, by simp only [esc, c1, there_eq (show (256 : Int) < 9223372036854775808 by omega), c2, s1, s2, s3]; rfl⟩
    | true =>
      rw [if_pos ⟨c1', rfl⟩]
      have c3 := thereI_true.1 c2
      have := num_With_loop (h := g) (a := a.toNat) (w := w.toNat) (k := w.toNat + 1) (v := v) (z := z) (by omega) (by omega) hl hz w.toNat 0 (w.toNat + 1) (by omega) (by omega)
      simp only [show ((a.toNat : Nat) : Int) = a by omega, show ((w.toNat : Nat) : Int) = w by omega, show bytesI 0 v = [] from rfl, layB_nil] at this
      exact ⟨_, by simp only [esc, c1, there_eq (show (256 : Int) < 9223372036854775808 by omega), c2]; exact this⟩

theorem num_With_eq {l : List UInt8} {h : Heap} (hl : l.length = 256) {a w v : Int} :
    S_num_With [.a (encB l), .c (.i .i64 a), .c (.i .i64 w), .c (.i .i64 v)] h = some (.a (encB (withB l a w v)), h) := by
  obtain ⟨g, e⟩ := num_With_run (g := ro h) hl (a := a) (w := w) (v := v)
  exact S_num_With_flat e (by simp)

theorem num_Cut_loop {l : List UInt8} {h : Heap} {b id a n k : Nat} (haw : a + n ≤ 256) (hl : l.length = 256) : ∀ d i m, i + d = n → d < m →
    num_Cut_l0 k m (.c (.i .i64 a)) (.c (.p h.length 0)) (.c (.sl (h.length + 2) 0 n 1)) (.c (.i .i64 n)) (.c (.i .i64 i)) (h ++ [some ⟨encB l, true⟩, some ⟨[], true⟩, some ⟨encB ((l.drop a).take i ++ zeros (n - i)), true⟩]) =
      some (.c (.sl (h.length + 2) 0 n 1), h ++ [some ⟨encB l, true⟩, some ⟨[], true⟩, some ⟨encB ((l.drop a).take n), true⟩])
  | d, i, 0, _, hm => by omega
  | 0, i, m + 1, hi, hm => by
    have e : i = n := by omega
    subst e
    have h1' : ¬ (i : Int) < i := by omega
    rw [num_Cut_l0_eq]
    simp only [esc, h1']
    simp [zeros]
  | d + 1, i, m + 1, hi, hm => by
    have ih := num_Cut_loop (h := h) (b := b) (id := id) (k := k) haw hl d (i + 1) m (by omega) (by omega)
    have ea : aiAddrA 256 1 (.c (.p h.length 0)) (.c (.i .i64 ((a + i : Nat) : Int))) = some (.c (.p h.length (a + i))) := by rw [iAddrA_of (by omega)]; simp
    have eb : aiAddrL 1 (.c (.sl (h.length + 2) 0 n 1)) (.c (.i .i64 (i : Int))) = some (.c (.p (h.length + 2) i)) := by rw [iAddrL_of (by omega)]; simp
    have hx := load1_of (h := h ++ [some ⟨encB l, true⟩, some ⟨[], true⟩, some ⟨encB ((l.drop a).take i ++ zeros (n - i)), true⟩]) (id := h.length) (off := a + i) (c := .i .u8 l[a + i].toNat) (cs := encB l) (rw := true) (by simp) (by rw [encB_get, List.getElem?_eq_getElem (by omega)]; rfl) rfl
    have hst := store1_of (h := h ++ [some ⟨encB l, true⟩, some ⟨[], true⟩, some ⟨encB ((l.drop a).take i ++ zeros (n - i)), true⟩]) (id := h.length + 2) (off := i) (cs := encB ((l.drop a).take i ++ zeros (n - i))) (x := .i .u8 l[a + i].toNat) (by simp)
      (by rw [encB_length]; simp; omega)
    have e5 : ((l.drop a).take i ++ zeros (n - i)).set i l[a + i] = (l.drop a).take (i + 1) ++ zeros (n - (i + 1)) := by
      have hlen : ((l.drop a).take i).length = i := by simp; omega
      rw [List.set_append_right _ _ (by omega), hlen, Nat.sub_self, take_succ_get (by omega), List.append_assoc]
      refine congrArg ((l.drop a).take i ++ ·) ?_
      have : n - i = n - (i + 1) + 1 := by omega
      rw [this]
      unfold zeros
      rw [List.replicate_succ, List.set_cons_zero]; rfl
    rw [encB_set, e5] at hst
    have h1' : (i : Int) < n := by omega
    rw [num_Cut_l0_eq]
    simp only [esc, h1', wi_add (show a + i < 9223372036854775808 by omega), ea, hx, eb, hst, wi_succ (show i + 1 < 9223372036854775808 by omega)]
    exact ih

def cutB (l : List UInt8) (a n : Int) : List UInt8 := if 0 ≤ a then (l.drop a.toNat).take n.toNat else []

theorem rows_zero (n : Nat) : rows [Cell.i .u8 0] n = encB (zeros n) := by
  unfold rows zeros
  induction n with
  | zero => rfl
  | succ n ih => rw [List.replicate_succ, List.flatten_cons, ih, List.replicate_succ]; rfl

theorem num_Cut_run {l : List UInt8} {g : Heap} (hl : l.length = 256) {a n : Int} :
    ∃ v g', R_num_Cut ((min n (256 - a)).toNat + 1) [.a (encB l), .c (.i .i64 a), .c (.i .i64 n)] g = some (v, g') ∧ Out g.length g' v 1 (cutB l a n).length (encB (cutB l a n)) := by
  have hle : (encB l).length = 256 := by rw [encB_length, hl]
  rw [R_num_Cut_eq]
  unfold cutB
  by_cases c1 : a < 0
  · rw [if_neg (by omega)]
    exact ⟨_, _, by simp only [esc, c1]; rfl, by simp [encB_length], _, rfl, by simp, by simp; rfl⟩
  · rw [if_pos (by omega)]
    by_cases c2 : 256 ≤ a
    · have e : l.drop a.toNat = [] := List.drop_of_length_le (by omega)
      rw [e, List.take_nil]
      exact ⟨_, _, by simp only [esc, c1, c2]; rfl, by simp [encB_length], _, rfl, by simp, by simp; rfl⟩
    · by_cases c3 : n < 1
      · have e : n.toNat = 0 := by omega
        rw [e]
        exact ⟨_, _, by simp only [esc, c1, c2, c3]; rfl, by simp [encB_length], _, rfl, by simp, by simp; rfl⟩
      · have e1 : IntKind.wrap .i64 (256 - a) = 256 - a := wrap_i64 (by omega) (by omega)
        have e2 : amin (.c (.i .i64 n)) (.c (.i .i64 (256 - a))) = some (.c (.i .i64 ((min n (256 - a)).toNat : Nat))) := by
          simp only [amin]
          congr 3
          by_cases h : 256 - a < n
          · rw [if_pos h]; omega
          · rw [if_neg h]; omega
        generalize hN : (min n (256 - a)).toNat = N at *
        have e3 : amkn (.c (.i .i64 (N : Int))) (.c (.i .i64 (N : Int))) = some N := by
          have : nat? (.c (.i .i64 (N : Int))) = some N := by simp only [nat?]; rw [if_pos (by omega)]; simp
          simp [amkn, this]
        have e4 : (l.drop a.toNat).take n.toNat = (l.drop a.toNat).take N := by
          by_cases h : 256 - a < n
          · rw [List.take_of_length_le (by simp; omega), List.take_of_length_le (by simp; omega)]
          · have : n.toNat = N := by omega
            rw [this]
        have e5 : ((l.drop a.toNat).take N).length = N := by simp; omega
        rw [e4, e5]
        have := num_Cut_loop (h := g) (b := 0) (id := 0) (a := a.toNat) (n := N) (k := N + 1) (by omega) hl N 0 (N + 1) (by omega) (by omega)
        simp only [show ((a.toNat : Nat) : Int) = a by omega, List.take_zero, List.nil_append, Nat.sub_zero] at this
        exact ⟨_, _, by simp only [esc, c1, c2, c3, e1, e2, e3, rows_zero]; exact this, by simp [encB_length, e5], _, rfl, by omega, by simp⟩

theorem num_Cut_eq {l : List UInt8} {h : Heap} (hl : l.length = 256) {a n : Int} :
    S_num_Cut [.a (encB l), .c (.i .i64 a), .c (.i .i64 n)] h = some (.c (.sl h.length 0 (cutB l a n).length 1), h ++ [some ⟨encB (cutB l a n), true⟩]) := by
  obtain ⟨v, g, e, ho⟩ := num_Cut_run (g := ro h) hl (a := a) (n := n)
  exact S_num_Cut_out e (by simpa [ro_length] using ho) (by simp)

theorem num_Lay_loop {v : Val} {nv : Nat} {data l : List UInt8} {z : List Cell} {h : Heap} (hv : Has h v 1 nv (encB data)) {a k : Nat} (ha : a < 256) (hl : l.length = 256) (hz : z.length = 256) (hd : data.length < 9223372036854775808) : ∀ d i m, i + d = data.length → d < m → i ≤ 256 - a →
    num_Lay_l0 k m (.c (.i .i64 a)) (.c (.p h.length 0)) (.c (.p (h.length + 1) 0)) v (.c (.i .i64 data.length)) (.c (.i .i64 i)) (h ++ [some ⟨encB (layB l a (data.take i)), true⟩, some ⟨z, true⟩]) =
      some (.a (encB (layB l a (data.take (256 - a)))), h ++ [some ⟨encB (layB l a (data.take (256 - a))), true⟩, some ⟨encB (layB l a (data.take (256 - a))), true⟩])
  | d, i, 0, _, hm, _ => by omega
  | d, i, m + 1, hi, hm, hia => by
    have hll : ∀ i, i ≤ 256 - a → (encB (layB l a (data.take i))).length = 256 := fun i hi => by rw [encB_length, layB_length (by simp; omega), hl]
    have fin : data.take i = data.take (256 - a) → num_Lay_j0 k (.c (.p h.length 0)) (.c (.p (h.length + 1) 0)) (h ++ [some ⟨encB (layB l a (data.take i)), true⟩, some ⟨z, true⟩]) =
      some (.a (encB (layB l a (data.take (256 - a)))), h ++ [some ⟨encB (layB l a (data.take (256 - a))), true⟩, some ⟨encB (layB l a (data.take (256 - a))), true⟩]) := fun e => by
      rw [e]
      have hle := hll (256 - a) (Nat.le_refl _)
      have s1 := loadAll (h := h ++ [some ⟨encB (layB l a (data.take (256 - a))), true⟩, some ⟨z, true⟩]) (id := h.length) (cs := encB (layB l a (data.take (256 - a)))) (by simp) hle
      have s2 := storeAll (h := h ++ [some ⟨encB (layB l a (data.take (256 - a))), true⟩, some ⟨z, true⟩]) (id := h.length + 1) (cs := z) (xs := encB (layB l a (data.take (256 - a)))) (by simp) hz hle
      have s3 := loadAll (h := h ++ [some ⟨encB (layB l a (data.take (256 - a))), true⟩, some ⟨encB (layB l a (data.take (256 - a))), true⟩]) (id := h.length + 1) (cs := encB (layB l a (data.take (256 - a)))) (by simp) hle
      rw [num_Lay_j0_eq]
      simp only [esc, s1, s2, s3]
    rw [num_Lay_l0_eq]
    by_cases c1 : i < data.length
    · obtain ⟨d, rfl⟩ : ∃ e, d = e + 1 := ⟨d - 1, by omega⟩
      have hnv : data.length = nv := by simpa [encB_length] using hv.length
      obtain ⟨id, off, rfl, hid, h1, h2⟩ := (hv.more [some ⟨encB (layB l a (data.take i)), true⟩, some ⟨z, true⟩]).sl (by omega)
      have hx := h1 i (.i .u8 data[i].toNat) (by rw [encB_get, List.getElem?_eq_getElem (by omega)]; rfl)
      have eb : aiAddrL 1 (.c (.sl id off nv 1)) (.c (.i .i64 (i : Int))) = some (.c (.p id (off + i))) := by rw [iAddrL_of (by omega)]; simp
      have e1 : IntKind.wrap .i64 (256 - (a : Int)) = 256 - a := wrap_i64 (by omega) (by omega)
      have c1' : (i : Int) < data.length := by omega
      by_cases c2 : 256 - a ≤ i
      · have c2' : (256 : Int) - a ≤ i := by omega
        simp only [esc, c1', eb, hx, e1, c2']
        exact fin (by rw [show i = 256 - a by omega])
      · have c2' : ¬ (256 : Int) - a ≤ i := by omega
        have ih := num_Lay_loop hv (l := l) (z := z) (k := k) ha hl hz hd d (i + 1) m (by omega) (by omega) (by omega)
        have ea : aiAddrA 256 1 (.c (.p h.length 0)) (.c (.i .i64 ((a + i : Nat) : Int))) = some (.c (.p h.length (a + i))) := by rw [iAddrA_of (by omega)]; simp
        have hst := store1_of (h := h ++ [some ⟨encB (layB l a (data.take i)), true⟩, some ⟨z, true⟩]) (id := h.length) (off := a + i) (cs := encB (layB l a (data.take i))) (x := .i .u8 data[i].toNat) (by simp)
          (by rw [hll i hia]; omega)
        have e5 : (layB l a (data.take i)).set (a + i) data[i] = layB l a (data.take (i + 1)) := by
          have := layB_snoc (l := l) (xs := data.take i) (a := a) (x := data[i]) (by simp; omega)
          rw [List.length_take, Nat.min_eq_left (by omega)] at this
          rw [this, List.take_succ_eq_append_getElem c1]
        rw [encB_set, e5] at hst
        simp only [esc, c1', eb, hx, e1, c2', wi_add (show a + i < 9223372036854775808 by omega), ea, hst, wi_succ (show i + 1 < 9223372036854775808 by omega)]
        exact ih
    · have c1' : ¬ (i : Int) < data.length := by omega
      simp only [esc, c1']
      exact fin (by rw [List.take_of_length_le (by omega), List.take_of_length_le (by omega)])

def layI (l : List UInt8) (a : Int) (data : List UInt8) : List UInt8 := if 0 ≤ a ∧ a < 256 then layB l a.toNat (data.take (256 - a.toNat)) else l

theorem layI_length {l : List UInt8} {a : Int} {data : List UInt8} (hl : l.length = 256) : (layI l a data).length = 256 := by
  unfold layI
  split
  · rw [layB_length (by simp; omega), hl]
  · exact hl

theorem num_Lay_run {v : Val} {nv : Nat} {data l : List UInt8} {g : Heap} (hv : Has g v 1 nv (encB data)) (hl : l.length = 256) (hd : data.length < 9223372036854775808) {a : Int} :
    ∃ g', R_num_Lay (data.length + 1) [.a (encB l), .c (.i .i64 a), v] g = some (.a (encB (layI l a data)), g') := by
  have hle : (encB l).length = 256 := by rw [encB_length, hl]
  have hz : (List.replicate 256 (Cell.i .u8 0)).length = 256 := List.length_replicate
  have hnv : data.length = nv := by simpa [encB_length] using hv.length
  rw [R_num_Lay_eq]
  generalize List.replicate 256 (Cell.i .u8 0) = z at *
  have s1 := loadAll (h := g ++ [some ⟨encB l, true⟩, some ⟨z, true⟩]) (id := g.length) (cs := encB l) (n := 256) (by simp) hle
  have s2 := storeAll (h := g ++ [some ⟨encB l, true⟩, some ⟨z, true⟩]) (id := g.length + 1) (cs := z) (xs := encB l) (by simp) hz hle
  have s3 := loadAll (h := g ++ [some ⟨encB l, true⟩, some ⟨encB l, true⟩]) (id := g.length + 1) (cs := encB l) (n := 256) (by simp) hle
  unfold layI
  by_cases c1 : a < 0
  · rw [if_neg (by omega)]
    exact ⟨_, by simp only [esc, c1, s1, s2, s3]; rfl⟩
  · by_cases c2 : 256 ≤ a
    · rw [if_neg (by omega)]
      exact ⟨_, by simp only [esc, c1, c2, s1, s2, s3]; rfl⟩
    · rw [if_pos (by omega)]
      have := num_Lay_loop hv (l := l) (a := a.toNat) (k := data.length + 1) (z := z) (by omega) hl hz hd data.length 0 (data.length + 1) (by omega) (by omega) (by omega)
      simp only [show ((a.toNat : Nat) : Int) = a by omega, List.take_zero, layB_nil] at this
      exact ⟨_, by simp only [esc, c1, c2, hv.len, ← hnv]; exact this⟩

theorem num_Lay_eq {v : Val} {nv : Nat} {data l : List UInt8} {h : Heap} (hv : Has h v 1 nv (encB data)) (hl : l.length = 256) (hd : data.length < 9223372036854775808) {a : Int} :
    S_num_Lay [.a (encB l), .c (.i .i64 a), v] h = some (.a (encB (layI l a data)), h) := by
  obtain ⟨g, e⟩ := num_Lay_run hv.ro hl hd (a := a)
  exact S_num_Lay_flat e (by simp)

theorem num_Of_eq {v : Val} {nv : Nat} {data : List UInt8} {h : Heap} (hv : Has h v 1 nv (encB data)) (hd : data.length < 9223372036854775808) :
    S_num_Of [v] h = some (.a (encB (layI (zeros 256) 0 data)), h) := by
  have key : ∀ g, Has g v 1 nv (encB data) → ∃ g', R_num_Of 0 [v] g = some (.a (encB (layI (zeros 256) 0 data)), g') := by
    intro g hv
    rw [R_num_Of_eq]
    have hz : (encB (zeros 256)).length = 256 := by rw [encB_length]; exact zeros_length
    have hz0 : (zeros 256).length = 256 := zeros_length
    rw [zeros_enc]
    generalize zeros 256 = Z at *
    have e := num_Lay_eq (hv.more [some ⟨encB Z, true⟩]) hz0 hd (a := 0)
    have hl2 : (encB (layI Z 0 data)).length = 256 := by rw [encB_length, layI_length hz0]
    have s2 := storeAll (h := g ++ [some ⟨encB Z, true⟩]) (id := g.length) (cs := encB Z) (xs := encB (layI Z 0 data)) (by simp) hz hl2
    have s3 := loadAll (h := g ++ [some ⟨encB (layI Z 0 data), true⟩]) (id := g.length) (cs := encB (layI Z 0 data)) (n := 256) (by simp) hl2
    exact ⟨_, by simp only [esc, afill, e, s2, s3]; rfl⟩
  obtain ⟨g, e⟩ := key _ hv.ro
  exact S_num_Of_flat e (by simp)

end Go.Proofs.Ytdgggnlbdoiloaa
end
noncomputable section
namespace Go.Proofs.Ytdgggnlbdoiloaa
open Go Go.Esc
set_option maxRecDepth 100000
def er01_Same_o0 : List AOper := [aO 4 (.mv (.v (.c (.b false))))]
def er01_Same_c0 : ACode := .ops er01_Same_o0
def er01_Same_o1 : List AOper := [aO 6 (.mv (.t 0)), aO 7 (.len (.t 6)), aO 8 (.mv (.t 1)), aO 9 (.len (.t 8)), aO 10 (.bin .neq (.t 7) (.t 9))]
def er01_Same_c1 : ACode := .ops er01_Same_o1
def er01_Same_o2 : List AOper := [aO 4 (.mv (.v (.c (.b false))))]
def er01_Same_c2 : ACode := .ops er01_Same_o2
def er01_Same_c3 : ACode := .seq [4] er01_Same_c2 .ret
def er01_Same_c4 : ACode := .cond (.t 10) er01_Same_c3 .skip
def er01_Same_c5 : ACode := .seq [0, 1, 10] er01_Same_c1 er01_Same_c4
def er01_Same_o3 : List AOper := [aO 5 (.mv (.v (.c (.i .i64 0))))]
def er01_Same_c6 : ACode := .ops er01_Same_o3
def er01_Same_o4 : List AOper := [aO 11 (.mv (.t 5)), aO 12 (.mv (.t 0)), aO 13 (.len (.t 12)), aO 14 (.bin .lss (.t 11) (.t 13))]
def er01_Same_c7 : ACode := .ops er01_Same_o4
def er01_Same_c8 : ACode := .cond (.t 14) .skip (.exit 0)
def er01_Same_c9 : ACode := .seq [0, 1, 5, 14] er01_Same_c7 er01_Same_c8
def er01_Same_o5 : List AOper := [aO 17 (.mv (.t 0)), aO 18 (.mv (.t 5)), aO 19 (.iAddrL 1 (.t 17) (.t 18)), aO 20 (.load1 (.t 19)), aO 21 (.mv (.t 1)), aO 22 (.mv (.t 5)), aO 23 (.iAddrL 1 (.t 21) (.t 22)), aO 24 (.load1 (.t 23))]
def er01_Same_o6 : List AOper := [aO 25 (.bin .neq (.t 20) (.t 24))]
def er01_Same_c10 : ACode := .draw 0 er01_Same_o5 er01_Same_o6
def er01_Same_o7 : List AOper := [aO 4 (.mv (.v (.c (.b false))))]
def er01_Same_c11 : ACode := .ops er01_Same_o7
def er01_Same_c12 : ACode := .seq [4] er01_Same_c11 .ret
def er01_Same_c13 : ACode := .cond (.t 25) er01_Same_c12 .skip
def er01_Same_c14 : ACode := .seq [0, 1, 5, 25] er01_Same_c10 er01_Same_c13
def er01_Same_c15 : ACode := .block 1 er01_Same_c14
def er01_Same_o8 : List AOper := [aO 15 (.mv (.t 5)), aO 16 (.bin .add (.t 15) (.v (.c (.i .i64 1)))), aO 5 (.mv (.t 16))]
def er01_Same_c16 : ACode := .ops er01_Same_o8
def er01_Same_c17 : ACode := .seq [0, 1, 5] er01_Same_c15 er01_Same_c16
def er01_Same_c18 : ACode := .seq [0, 1, 5] er01_Same_c9 er01_Same_c17
def er01_Same_c19 : ACode := .loop [0, 1, 5] er01_Same_c18
def er01_Same_c20 : ACode := .block 0 er01_Same_c19
def er01_Same_c21 : ACode := .seq [0, 1, 5] er01_Same_c6 er01_Same_c20
def er01_Same_o9 : List AOper := [aO 4 (.mv (.v (.c (.b true))))]
def er01_Same_c22 : ACode := .ops er01_Same_o9
def er01_Same_c23 : ACode := .seq [4] er01_Same_c22 .ret
def er01_Same_c24 : ACode := .seq [] er01_Same_c21 er01_Same_c23
def er01_Same_c25 : ACode := .seq [0, 1] er01_Same_c5 er01_Same_c24
def er01_Same_c26 : ACode := .seq [0, 1] er01_Same_c0 er01_Same_c25
def A_er01_Same : AFn := ⟨er01_Same_c26, [.tmp 4]⟩
def E_er01_Same : Sums := disp0
def er01_Same_c0_d (n : Nat) : SmV := smOps E_er01_Same er01_Same_o0
def er01_Same_c1_d (n : Nat) : SmV := smOps E_er01_Same er01_Same_o1
def er01_Same_c2_d (n : Nat) : SmV := smOps E_er01_Same er01_Same_o2
def er01_Same_c3_d (n : Nat) : SmV := smSeq [4] (er01_Same_c2_d n) smRet
def er01_Same_c4_d (n : Nat) : SmV := smCond (.t 10) (er01_Same_c3_d n) smSkip
def er01_Same_c5_d (n : Nat) : SmV := smSeq [0, 1, 10] (er01_Same_c1_d n) (er01_Same_c4_d n)
def er01_Same_c6_d (n : Nat) : SmV := smOps E_er01_Same er01_Same_o3
def er01_Same_c7_d (n : Nat) : SmV := smOps E_er01_Same er01_Same_o4
def er01_Same_c8_d (n : Nat) : SmV := smCond (.t 14) smSkip (smExit 0)
def er01_Same_c9_d (n : Nat) : SmV := smSeq [0, 1, 5, 14] (er01_Same_c7_d n) (er01_Same_c8_d n)
def er01_Same_c10_d (n : Nat) : SmV := smDraw E_er01_Same 0 er01_Same_o5 er01_Same_o6
def er01_Same_c11_d (n : Nat) : SmV := smOps E_er01_Same er01_Same_o7
def er01_Same_c12_d (n : Nat) : SmV := smSeq [4] (er01_Same_c11_d n) smRet
def er01_Same_c13_d (n : Nat) : SmV := smCond (.t 25) (er01_Same_c12_d n) smSkip
def er01_Same_c14_d (n : Nat) : SmV := smSeq [0, 1, 5, 25] (er01_Same_c10_d n) (er01_Same_c13_d n)
def er01_Same_c15_d (n : Nat) : SmV := smBlock 1 (er01_Same_c14_d n)
def er01_Same_c16_d (n : Nat) : SmV := smOps E_er01_Same er01_Same_o8
def er01_Same_c17_d (n : Nat) : SmV := smSeq [0, 1, 5] (er01_Same_c15_d n) (er01_Same_c16_d n)
def er01_Same_c18_d (n : Nat) : SmV := smSeq [0, 1, 5] (er01_Same_c9_d n) (er01_Same_c17_d n)
def er01_Same_c19_d (n : Nat) : SmV := smLoop n [0, 1, 5] (er01_Same_c18_d n)
def er01_Same_c20_d (n : Nat) : SmV := smBlock 0 (er01_Same_c19_d n)
def er01_Same_c21_d (n : Nat) : SmV := smSeq [0, 1, 5] (er01_Same_c6_d n) (er01_Same_c20_d n)
def er01_Same_c22_d (n : Nat) : SmV := smOps E_er01_Same er01_Same_o9
def er01_Same_c23_d (n : Nat) : SmV := smSeq [4] (er01_Same_c22_d n) smRet
def er01_Same_c24_d (n : Nat) : SmV := smSeq [] (er01_Same_c21_d n) (er01_Same_c23_d n)
def er01_Same_c25_d (n : Nat) : SmV := smSeq [0, 1] (er01_Same_c5_d n) (er01_Same_c24_d n)
def er01_Same_c26_d (n : Nat) : SmV := smSeq [0, 1] (er01_Same_c0_d n) (er01_Same_c25_d n)
def er01_Same_k0 (n : Nat) : AExit → Env → Heap → OptV := fun x e h => match x with | .normal => hold ((er01_Same_c23_d n) A_er01_Same.fin (e.keep []) h) | .exit id => A_er01_Same.fin (.exit id) e h | .ret => A_er01_Same.fin .ret e h
def er01_Same_k1 (n : Nat) : AExit → Env → Heap → OptV := fun x e h => match x with | .exit i => bif Nat.beq i 0 then (er01_Same_k0 n) .normal e h else (er01_Same_k0 n) (.exit i) e h | .normal => (er01_Same_k0 n) .normal e h | .ret => (er01_Same_k0 n) .ret e h
def er01_Same_l0 (n m : Nat) (x0 x1 x5 : Val) (h : Heap) : OptV := around (er01_Same_c18_d n) [0, 1, 5] (er01_Same_k1 n) m [(0, x0), (1, x1), (5, x5)] h
def R_er01_Same (n : Nat) (args : List Val) (h : Heap) : OptV := (er01_Same_c26_d n) A_er01_Same.fin (params 0 args) h
theorem R_er01_Same_eq (n : Nat) (a0 a1 : Val) (h : Heap) : R_er01_Same n [a0, a1] h = bnd (alen a0) fun v1 => bnd (alen a1) fun v2 => bnd (abin .neq v1 v2) fun v3 => cnd v3 (some ((.c (.b false)), h)) (er01_Same_l0 n n a0 a1 (.c (.i .i64 0)) h) := by kernel_rfl
theorem er01_Same_l0_eq (n m : Nat) (x0 x1 x5 : Val) (h : Heap) : er01_Same_l0 n (m + 1) x0 x1 x5 h = bnd (alen x0) fun v4 => bnd (abin .lss x5 v4) fun v5 => cnd v5 (bnd (aiAddrL 1 x0 x5) fun v6 => bnd (aload1 h v6) fun v7 => bnd (aiAddrL 1 x1 x5) fun v8 => bnd (aload1 h v8) fun v9 => bnd (abin .neq v7 v9) fun v10 => cnd v10 (some ((.c (.b false)), (h ++ []))) (bnd (abin .add x5 (.c (.i .i64 1))) fun v11 => er01_Same_l0 n m x0 x1 v11 ((h ++ [])))) (some ((.c (.b true)), h)) := by kernel_rfl
theorem K_er01_Same : FnK Try.prog 21 A_er01_Same E_er01_Same R_er01_Same := .mk' (sound0) Try.func21 (by kernel_rfl) (by intro n args h; kernel_rfl)
def S_er01_Same : Fun := tidy (Lim A_er01_Same E_er01_Same)
theorem S_er01_Same_ok : SOk Try.prog 21 S_er01_Same := K_er01_Same.sok
theorem S_er01_Same_flat {n : Nat} {args : List Val} {h h2 : Heap} {v : Val} (he : R_er01_Same n args (ro h) = some (v, h2)) (hf : v.flat = true) : S_er01_Same args h = some (v, h) := K_er01_Same.flat he hf
def er01_Get_o0 : List AOper := [aO 6 (.mv (.v (.c (.i .u64 0)))), aO 7 (.mv (.v (.c (.b false))))]
def er01_Get_c0 : ACode := .ops er01_Get_o0
def er01_Get_o1 : List AOper := [aO 10 (.mv (.t 2)), aO 11 (.bin .lss (.t 10) (.v (.c (.i .i64 1)))), aO 12 (.mv (.t 11)), { dst := some 13, op := .mv (.t 2), guard := some (12, false) }, { dst := some 14, op := .bin .gtr (.t 13) (.v (.c (.i .i64 8))), guard := some (12, false) }, aO 15 (.pick (.t 12) (.v (.c (.b true))) (.t 14)), aO 16 (.mv (.t 15)), { dst := some 17, op := .mv (.t 1), guard := some (16, false) }, { dst := some 18, op := .bin .lss (.t 17) (.v (.c (.i .i64 0))), guard := some (16, false) }, aO 19 (.pick (.t 16) (.v (.c (.b true))) (.t 18)), aO 20 (.mv (.t 19)), { dst := some 21, op := .mv (.t 1), guard := some (20, false) }, { dst := some 22, op := .mv (.t 0), guard := some (20, false) }, { dst := some 23, op := .len (.t 22), guard := some (20, false) }, { dst := some 24, op := .mv (.t 2), guard := some (20, false) }, { dst := some 25, op := .bin .sub (.t 23) (.t 24), guard := some (20, false) }, { dst := some 26, op := .bin .gtr (.t 21) (.t 25), guard := some (20, false) }, aO 27 (.pick (.t 20) (.v (.c (.b true))) (.t 26))]
def er01_Get_c1 : ACode := .ops er01_Get_o1
def er01_Get_o2 : List AOper := [aO 6 (.mv (.v (.c (.i .u64 0)))), aO 7 (.mv (.v (.c (.b false))))]
def er01_Get_c2 : ACode := .ops er01_Get_o2
def er01_Get_c3 : ACode := .seq [6, 7] er01_Get_c2 .ret
def er01_Get_c4 : ACode := .cond (.t 27) er01_Get_c3 .skip
def er01_Get_c5 : ACode := .seq [0, 1, 2, 27] er01_Get_c1 er01_Get_c4
def er01_Get_o3 : List AOper := [aO 8 (.mv (.v (.c (.i .u64 0))))]
def er01_Get_c6 : ACode := .ops er01_Get_o3
def er01_Get_o4 : List AOper := [aO 28 (.mv (.t 2)), aO 29 (.bin .sub (.t 28) (.v (.c (.i .i64 1)))), aO 9 (.mv (.t 29))]
def er01_Get_c7 : ACode := .ops er01_Get_o4
def er01_Get_o5 : List AOper := [aO 30 (.mv (.t 9)), aO 31 (.bin .geq (.t 30) (.v (.c (.i .i64 0))))]
def er01_Get_c8 : ACode := .ops er01_Get_o5
def er01_Get_c9 : ACode := .cond (.t 31) .skip (.exit 0)
def er01_Get_c10 : ACode := .seq [0, 1, 8, 9, 31] er01_Get_c8 er01_Get_c9
def er01_Get_o6 : List AOper := [aO 34 (.mv (.t 8)), aO 35 (.bin .mul (.t 34) (.v (.c (.i .u64 256)))), aO 36 (.mv (.t 0)), aO 37 (.mv (.t 1)), aO 38 (.mv (.t 9)), aO 39 (.bin .add (.t 37) (.t 38)), aO 40 (.iAddrL 1 (.t 36) (.t 39)), aO 41 (.load1 (.t 40)), aO 42 (.conv .u64 (.t 41)), aO 43 (.bin .add (.t 35) (.t 42)), aO 8 (.mv (.t 43))]
def er01_Get_c11 : ACode := .ops er01_Get_o6
def er01_Get_c12 : ACode := .block 1 er01_Get_c11
def er01_Get_o7 : List AOper := [aO 32 (.mv (.t 9)), aO 33 (.bin .sub (.t 32) (.v (.c (.i .i64 1)))), aO 9 (.mv (.t 33))]
def er01_Get_c13 : ACode := .ops er01_Get_o7
def er01_Get_c14 : ACode := .seq [0, 1, 8, 9] er01_Get_c12 er01_Get_c13
def er01_Get_c15 : ACode := .seq [0, 1, 8, 9] er01_Get_c10 er01_Get_c14
def er01_Get_c16 : ACode := .loop [0, 1, 8, 9] er01_Get_c15
def er01_Get_c17 : ACode := .block 0 er01_Get_c16
def er01_Get_c18 : ACode := .seq [0, 1, 8, 9] er01_Get_c7 er01_Get_c17
def er01_Get_o8 : List AOper := [aO 44 (.mv (.t 8)), aO 6 (.mv (.t 44)), aO 7 (.mv (.v (.c (.b true))))]
def er01_Get_c19 : ACode := .ops er01_Get_o8
def er01_Get_c20 : ACode := .seq [6, 7] er01_Get_c19 .ret
def er01_Get_c21 : ACode := .seq [8] er01_Get_c18 er01_Get_c20
def er01_Get_c22 : ACode := .seq [0, 1, 2, 8] er01_Get_c6 er01_Get_c21
def er01_Get_c23 : ACode := .seq [0, 1, 2] er01_Get_c5 er01_Get_c22
def er01_Get_c24 : ACode := .seq [0, 1, 2] er01_Get_c0 er01_Get_c23
def A_er01_Get : AFn := ⟨er01_Get_c24, [.tmp 6, .tmp 7]⟩
def E_er01_Get : Sums := disp0
def er01_Get_c0_d (n : Nat) : SmV := smOps E_er01_Get er01_Get_o0
def er01_Get_c1_d (n : Nat) : SmV := smOps E_er01_Get er01_Get_o1
def er01_Get_c2_d (n : Nat) : SmV := smOps E_er01_Get er01_Get_o2
def er01_Get_c3_d (n : Nat) : SmV := smSeq [6, 7] (er01_Get_c2_d n) smRet
def er01_Get_c4_d (n : Nat) : SmV := smCond (.t 27) (er01_Get_c3_d n) smSkip
def er01_Get_c5_d (n : Nat) : SmV := smSeq [0, 1, 2, 27] (er01_Get_c1_d n) (er01_Get_c4_d n)
def er01_Get_c6_d (n : Nat) : SmV := smOps E_er01_Get er01_Get_o3
def er01_Get_c7_d (n : Nat) : SmV := smOps E_er01_Get er01_Get_o4
def er01_Get_c8_d (n : Nat) : SmV := smOps E_er01_Get er01_Get_o5
def er01_Get_c9_d (n : Nat) : SmV := smCond (.t 31) smSkip (smExit 0)
def er01_Get_c10_d (n : Nat) : SmV := smSeq [0, 1, 8, 9, 31] (er01_Get_c8_d n) (er01_Get_c9_d n)
def er01_Get_c11_d (n : Nat) : SmV := smOps E_er01_Get er01_Get_o6
def er01_Get_c12_d (n : Nat) : SmV := smBlock 1 (er01_Get_c11_d n)
def er01_Get_c13_d (n : Nat) : SmV := smOps E_er01_Get er01_Get_o7
def er01_Get_c14_d (n : Nat) : SmV := smSeq [0, 1, 8, 9] (er01_Get_c12_d n) (er01_Get_c13_d n)
def er01_Get_c15_d (n : Nat) : SmV := smSeq [0, 1, 8, 9] (er01_Get_c10_d n) (er01_Get_c14_d n)
def er01_Get_c16_d (n : Nat) : SmV := smLoop n [0, 1, 8, 9] (er01_Get_c15_d n)
def er01_Get_c17_d (n : Nat) : SmV := smBlock 0 (er01_Get_c16_d n)
def er01_Get_c18_d (n : Nat) : SmV := smSeq [0, 1, 8, 9] (er01_Get_c7_d n) (er01_Get_c17_d n)
def er01_Get_c19_d (n : Nat) : SmV := smOps E_er01_Get er01_Get_o8
def er01_Get_c20_d (n : Nat) : SmV := smSeq [6, 7] (er01_Get_c19_d n) smRet
def er01_Get_c21_d (n : Nat) : SmV := smSeq [8] (er01_Get_c18_d n) (er01_Get_c20_d n)
def er01_Get_c22_d (n : Nat) : SmV := smSeq [0, 1, 2, 8] (er01_Get_c6_d n) (er01_Get_c21_d n)
def er01_Get_c23_d (n : Nat) : SmV := smSeq [0, 1, 2] (er01_Get_c5_d n) (er01_Get_c22_d n)
def er01_Get_c24_d (n : Nat) : SmV := smSeq [0, 1, 2] (er01_Get_c0_d n) (er01_Get_c23_d n)
def er01_Get_k0 (n : Nat) : AExit → Env → Heap → OptV := fun x e h => match x with | .normal => hold ((er01_Get_c20_d n) A_er01_Get.fin (e.keep [8]) h) | .exit id => A_er01_Get.fin (.exit id) e h | .ret => A_er01_Get.fin .ret e h
def er01_Get_k1 (n : Nat) : AExit → Env → Heap → OptV := fun x e h => match x with | .exit i => bif Nat.beq i 0 then (er01_Get_k0 n) .normal e h else (er01_Get_k0 n) (.exit i) e h | .normal => (er01_Get_k0 n) .normal e h | .ret => (er01_Get_k0 n) .ret e h
def er01_Get_l0 (n m : Nat) (x0 x1 x8 x9 : Val) (h : Heap) : OptV := around (er01_Get_c15_d n) [0, 1, 8, 9] (er01_Get_k1 n) m [(0, x0), (1, x1), (8, x8), (9, x9)] h
def R_er01_Get (n : Nat) (args : List Val) (h : Heap) : OptV := (er01_Get_c24_d n) A_er01_Get.fin (params 0 args) h
theorem R_er01_Get_eq (n : Nat) (a0 a1 a2 : Val) (h : Heap) : R_er01_Get n [a0, a1, a2] h = bnd (abin .lss a2 (.c (.i .i64 1))) fun v1 => bnd (gd v1 false (some (a2, h)) (some (.no, h))) fun p2 => bnd (gd v1 false (bnd (abin .gtr p2.1 (.c (.i .i64 8))) fun v3 => some (v3, p2.2)) (some (.no, p2.2))) fun p4 => bnd (apick v1 (.c (.b true)) p4.1) fun v5 => bnd (gd v5 false (some (a1, p4.2)) (some (.no, p4.2))) fun p6 => bnd (gd v5 false (bnd (abin .lss p6.1 (.c (.i .i64 0))) fun v7 => some (v7, p6.2)) (some (.no, p6.2))) fun p8 => bnd (apick v5 (.c (.b true)) p8.1) fun v9 => bnd (gd v9 false (some (a1, p8.2)) (some (.no, p8.2))) fun p10 => bnd (gd v9 false (some (a0, p10.2)) (some (.no, p10.2))) fun p11 => bnd (gd v9 false (bnd (alen p11.1) fun v12 => some (v12, p11.2)) (some (.no, p11.2))) fun p13 => bnd (gd v9 false (some (a2, p13.2)) (some (.no, p13.2))) fun p14 => bnd (gd v9 false (bnd (abin .sub p13.1 p14.1) fun v15 => some (v15, p14.2)) (some (.no, p14.2))) fun p16 => bnd (gd v9 false (bnd (abin .gtr p10.1 p16.1) fun v17 => some (v17, p16.2)) (some (.no, p16.2))) fun p18 => bnd (apick v9 (.c (.b true)) p18.1) fun v19 => cnd v19 (tupN [some (.c (.i .u64 0)), some (.c (.b false))] p18.2) (bnd (abin .sub a2 (.c (.i .i64 1))) fun v20 => er01_Get_l0 n n a0 a1 (.c (.i .u64 0)) v20 p18.2) := by kernel_rfl
theorem er01_Get_l0_eq (n m : Nat) (x0 x1 x8 x9 : Val) (h : Heap) : er01_Get_l0 n (m + 1) x0 x1 x8 x9 h = bnd (abin .geq x9 (.c (.i .i64 0))) fun v21 => cnd v21 (bnd (abin .mul x8 (.c (.i .u64 256))) fun v22 => bnd (abin .add x1 x9) fun v23 => bnd (aiAddrL 1 x0 v23) fun v24 => bnd (aload1 h v24) fun v25 => bnd (aconv .u64 v25) fun v26 => bnd (abin .add v22 v26) fun v27 => bnd (abin .sub x9 (.c (.i .i64 1))) fun v28 => er01_Get_l0 n m x0 x1 v27 v28 h) (tupN [some x8, some (.c (.b true))] h) := by kernel_rfl
theorem K_er01_Get : FnK Try.prog 110 A_er01_Get E_er01_Get R_er01_Get := .mk' (sound0) Try.func110 (by kernel_rfl) (by intro n args h; kernel_rfl)
def S_er01_Get : Fun := tidy (Lim A_er01_Get E_er01_Get)
theorem S_er01_Get_ok : SOk Try.prog 110 S_er01_Get := K_er01_Get.sok
theorem S_er01_Get_flat {n : Nat} {args : List Val} {h h2 : Heap} {v : Val} (he : R_er01_Get n args (ro h) = some (v, h2)) (hf : v.flat = true) : S_er01_Get args h = some (v, h) := K_er01_Get.flat he hf
def er01_At_o0 : List AOper := [aO 6 (.mv (.v (.c (.i .i64 0))))]
def er01_At_c0 : ACode := .ops er01_At_o0
def er01_At_o1 : List AOper := [aO 9 (.mv (.t 2)), aO 10 (.bin .gtr (.t 9) (.v (.c (.i .i64 4))))]
def er01_At_c1 : ACode := .ops er01_At_o1
def er01_At_o2 : List AOper := [aO 6 (.mv (.v (.c (.i .i64 0))))]
def er01_At_c2 : ACode := .ops er01_At_o2
def er01_At_c3 : ACode := .seq [6] er01_At_c2 .ret
def er01_At_c4 : ACode := .cond (.t 10) er01_At_c3 .skip
def er01_At_c5 : ACode := .seq [0, 1, 2, 10] er01_At_c1 er01_At_c4
def er01_At_o3 : List AOper := [aO 12 (.mv (.t 0)), aO 13 (.mv (.t 1)), aO 14 (.mv (.t 2)), aO 15 (.call 110 [(.t 12), (.t 13), (.t 14)]), aO 11 (.mv (.t 15)), aO 16 (.ext (.t 11) 0), aO 17 (.ext (.t 11) 1), aO 7 (.mv (.t 16)), aO 8 (.mv (.t 17))]
def er01_At_c6 : ACode := .ops er01_At_o3
def er01_At_o4 : List AOper := [aO 18 (.mv (.t 7)), aO 19 (.conv .i64 (.t 18)), aO 6 (.mv (.t 19))]
def er01_At_c7 : ACode := .ops er01_At_o4
def er01_At_c8 : ACode := .seq [6] er01_At_c7 .ret
def er01_At_c9 : ACode := .seq [7] er01_At_c6 er01_At_c8
def er01_At_c10 : ACode := .seq [0, 1, 2] er01_At_c5 er01_At_c9
def er01_At_c11 : ACode := .seq [0, 1, 2] er01_At_c0 er01_At_c10
def A_er01_At : AFn := ⟨er01_At_c11, [.tmp 6]⟩
def E_er01_At : Sums := disp 110 S_er01_Get disp0
def er01_At_c0_d (n : Nat) : SmV := smOps E_er01_At er01_At_o0
def er01_At_c1_d (n : Nat) : SmV := smOps E_er01_At er01_At_o1
def er01_At_c2_d (n : Nat) : SmV := smOps E_er01_At er01_At_o2
def er01_At_c3_d (n : Nat) : SmV := smSeq [6] (er01_At_c2_d n) smRet
def er01_At_c4_d (n : Nat) : SmV := smCond (.t 10) (er01_At_c3_d n) smSkip
def er01_At_c5_d (n : Nat) : SmV := smSeq [0, 1, 2, 10] (er01_At_c1_d n) (er01_At_c4_d n)
def er01_At_c6_d (n : Nat) : SmV := smOps E_er01_At er01_At_o3
def er01_At_c7_d (n : Nat) : SmV := smOps E_er01_At er01_At_o4
def er01_At_c8_d (n : Nat) : SmV := smSeq [6] (er01_At_c7_d n) smRet
def er01_At_c9_d (n : Nat) : SmV := smSeq [7] (er01_At_c6_d n) (er01_At_c8_d n)
def er01_At_c10_d (n : Nat) : SmV := smSeq [0, 1, 2] (er01_At_c5_d n) (er01_At_c9_d n)
def er01_At_c11_d (n : Nat) : SmV := smSeq [0, 1, 2] (er01_At_c0_d n) (er01_At_c10_d n)
def R_er01_At (n : Nat) (args : List Val) (h : Heap) : OptV := (er01_At_c11_d n) A_er01_At.fin (params 0 args) h
theorem R_er01_At_eq (n : Nat) (a0 a1 a2 : Val) (h : Heap) : R_er01_At n [a0, a1, a2] h = bnd (abin .gtr a2 (.c (.i .i64 4))) fun v1 => cnd v1 (some ((.c (.i .i64 0)), h)) (bnd (S_er01_Get [a0, a1, a2] h) fun p2 => bnd (aext p2.1 0) fun v3 => bnd (aext p2.1 1) fun v4 => bnd (aconv .i64 v3) fun v5 => some (v5, p2.2)) := by kernel_rfl
theorem K_er01_At : FnK Try.prog 111 A_er01_At E_er01_At R_er01_At := .mk' (sound1 S_er01_Get_ok sound0) Try.func111 (by kernel_rfl) (by intro n args h; kernel_rfl)
def S_er01_At : Fun := tidy (Lim A_er01_At E_er01_At)
theorem S_er01_At_ok : SOk Try.prog 111 S_er01_At := K_er01_At.sok
theorem S_er01_At_flat {n : Nat} {args : List Val} {h h2 : Heap} {v : Val} (he : R_er01_At n args (ro h) = some (v, h2)) (hf : v.flat = true) : S_er01_At args h = some (v, h) := K_er01_At.flat he hf
def er01_Bytes_o0 : List AOper := [aO 4 (.nilrow 1)]
def er01_Bytes_c0 : ACode := .ops er01_Bytes_o0
def er01_Bytes_o1 : List AOper := [aO 5 (.nilrow 1)]
def er01_Bytes_c1 : ACode := .ops er01_Bytes_o1
def er01_Bytes_o2 : List AOper := [aO 6 (.mv (.v (.c (.i .i64 0))))]
def er01_Bytes_c2 : ACode := .ops er01_Bytes_o2
def er01_Bytes_o3 : List AOper := [aO 7 (.mv (.t 6)), aO 8 (.mv (.t 0)), aO 9 (.bin .lss (.t 7) (.t 8))]
def er01_Bytes_c3 : ACode := .ops er01_Bytes_o3
def er01_Bytes_c4 : ACode := .cond (.t 9) .skip (.exit 0)
def er01_Bytes_c5 : ACode := .seq [0, 1, 5, 6, 9] er01_Bytes_c3 er01_Bytes_c4
def er01_Bytes_o4 : List AOper := [aO 12 (.mv (.t 5)), aO 13 (.mv (.t 1)), aO 14 (.bin .rem (.t 13) (.v (.c (.i .u64 256)))), aO 15 (.conv .u8 (.t 14)), aO 16 (.buildSl 1 1 ([.i .u8 0]) [(0, 1, (.t 15))]), aO 17 (.app 1 (.t 12) (.t 16)), aO 5 (.mv (.t 17))]
def er01_Bytes_c6 : ACode := .ops er01_Bytes_o4
def er01_Bytes_o5 : List AOper := [aO 18 (.mv (.t 1)), aO 19 (.bin .quo (.t 18) (.v (.c (.i .u64 256)))), aO 1 (.mv (.t 19))]
def er01_Bytes_c7 : ACode := .ops er01_Bytes_o5
def er01_Bytes_c8 : ACode := .seq [0, 1, 5, 6] er01_Bytes_c6 er01_Bytes_c7
def er01_Bytes_c9 : ACode := .block 1 er01_Bytes_c8
def er01_Bytes_o6 : List AOper := [aO 10 (.mv (.t 6)), aO 11 (.bin .add (.t 10) (.v (.c (.i .i64 1)))), aO 6 (.mv (.t 11))]
def er01_Bytes_c10 : ACode := .ops er01_Bytes_o6
def er01_Bytes_c11 : ACode := .seq [0, 1, 5, 6] er01_Bytes_c9 er01_Bytes_c10
def er01_Bytes_c12 : ACode := .seq [0, 1, 5, 6] er01_Bytes_c5 er01_Bytes_c11
def er01_Bytes_c13 : ACode := .loop [0, 1, 5, 6] er01_Bytes_c12
def er01_Bytes_c14 : ACode := .block 0 er01_Bytes_c13
def er01_Bytes_c15 : ACode := .seq [0, 1, 5, 6] er01_Bytes_c2 er01_Bytes_c14
def er01_Bytes_o7 : List AOper := [aO 20 (.mv (.t 5)), aO 4 (.mv (.t 20))]
def er01_Bytes_c16 : ACode := .ops er01_Bytes_o7
def er01_Bytes_c17 : ACode := .seq [4] er01_Bytes_c16 .ret
def er01_Bytes_c18 : ACode := .seq [5] er01_Bytes_c15 er01_Bytes_c17
def er01_Bytes_c19 : ACode := .seq [0, 1, 5] er01_Bytes_c1 er01_Bytes_c18
def er01_Bytes_c20 : ACode := .seq [0, 1] er01_Bytes_c0 er01_Bytes_c19
def A_er01_Bytes : AFn := ⟨er01_Bytes_c20, [.tmp 4]⟩
def E_er01_Bytes : Sums := disp0
def er01_Bytes_c0_d (n : Nat) : SmV := smOps E_er01_Bytes er01_Bytes_o0
def er01_Bytes_c1_d (n : Nat) : SmV := smOps E_er01_Bytes er01_Bytes_o1
def er01_Bytes_c2_d (n : Nat) : SmV := smOps E_er01_Bytes er01_Bytes_o2
def er01_Bytes_c3_d (n : Nat) : SmV := smOps E_er01_Bytes er01_Bytes_o3
def er01_Bytes_c4_d (n : Nat) : SmV := smCond (.t 9) smSkip (smExit 0)
def er01_Bytes_c5_d (n : Nat) : SmV := smSeq [0, 1, 5, 6, 9] (er01_Bytes_c3_d n) (er01_Bytes_c4_d n)
def er01_Bytes_c6_d (n : Nat) : SmV := smOps E_er01_Bytes er01_Bytes_o4
def er01_Bytes_c7_d (n : Nat) : SmV := smOps E_er01_Bytes er01_Bytes_o5
def er01_Bytes_c8_d (n : Nat) : SmV := smSeq [0, 1, 5, 6] (er01_Bytes_c6_d n) (er01_Bytes_c7_d n)
def er01_Bytes_c9_d (n : Nat) : SmV := smBlock 1 (er01_Bytes_c8_d n)
def er01_Bytes_c10_d (n : Nat) : SmV := smOps E_er01_Bytes er01_Bytes_o6
def er01_Bytes_c11_d (n : Nat) : SmV := smSeq [0, 1, 5, 6] (er01_Bytes_c9_d n) (er01_Bytes_c10_d n)
def er01_Bytes_c12_d (n : Nat) : SmV := smSeq [0, 1, 5, 6] (er01_Bytes_c5_d n) (er01_Bytes_c11_d n)
def er01_Bytes_c13_d (n : Nat) : SmV := smLoop n [0, 1, 5, 6] (er01_Bytes_c12_d n)
def er01_Bytes_c14_d (n : Nat) : SmV := smBlock 0 (er01_Bytes_c13_d n)
def er01_Bytes_c15_d (n : Nat) : SmV := smSeq [0, 1, 5, 6] (er01_Bytes_c2_d n) (er01_Bytes_c14_d n)
def er01_Bytes_c16_d (n : Nat) : SmV := smOps E_er01_Bytes er01_Bytes_o7
def er01_Bytes_c17_d (n : Nat) : SmV := smSeq [4] (er01_Bytes_c16_d n) smRet
def er01_Bytes_c18_d (n : Nat) : SmV := smSeq [5] (er01_Bytes_c15_d n) (er01_Bytes_c17_d n)
def er01_Bytes_c19_d (n : Nat) : SmV := smSeq [0, 1, 5] (er01_Bytes_c1_d n) (er01_Bytes_c18_d n)
def er01_Bytes_c20_d (n : Nat) : SmV := smSeq [0, 1] (er01_Bytes_c0_d n) (er01_Bytes_c19_d n)
def er01_Bytes_k0 (n : Nat) : AExit → Env → Heap → OptV := fun x e h => match x with | .normal => hold ((er01_Bytes_c17_d n) A_er01_Bytes.fin (e.keep [5]) h) | .exit id => A_er01_Bytes.fin (.exit id) e h | .ret => A_er01_Bytes.fin .ret e h
def er01_Bytes_k1 (n : Nat) : AExit → Env → Heap → OptV := fun x e h => match x with | .exit i => bif Nat.beq i 0 then (er01_Bytes_k0 n) .normal e h else (er01_Bytes_k0 n) (.exit i) e h | .normal => (er01_Bytes_k0 n) .normal e h | .ret => (er01_Bytes_k0 n) .ret e h
def er01_Bytes_l0 (n m : Nat) (x0 x1 x5 x6 : Val) (h : Heap) : OptV := around (er01_Bytes_c12_d n) [0, 1, 5, 6] (er01_Bytes_k1 n) m [(0, x0), (1, x1), (5, x5), (6, x6)] h
def R_er01_Bytes (n : Nat) (args : List Val) (h : Heap) : OptV := (er01_Bytes_c20_d n) A_er01_Bytes.fin (params 0 args) h
theorem R_er01_Bytes_eq (n : Nat) (a0 a1 : Val) (h : Heap) : R_er01_Bytes n [a0, a1] h = er01_Bytes_l0 n n a0 a1 ((.c (.sl ((h ++ [some (Row.mk ([]) true)])).length 0 0 1))) (.c (.i .i64 0)) (((h ++ [some (Row.mk ([]) true)]) ++ [some (Row.mk ([]) true)])) := by kernel_rfl
theorem er01_Bytes_l0_eq (n m : Nat) (x0 x1 x5 x6 : Val) (h : Heap) : er01_Bytes_l0 n (m + 1) x0 x1 x5 x6 h = bnd (abin .lss x6 x0) fun v1 => cnd v1 (bnd (abin .rem x1 (.c (.i .u64 256))) fun v2 => bnd (aconv .u8 v2) fun v3 => bnd (afill ([.i .u8 0]) [(0, 1, v3)]) fun c4 => bnd (aapp ((h ++ [some (Row.mk (c4) true)])) 1 x5 ((.c (.sl h.length 0 1 1)))) fun p5 => bnd (abin .quo x1 (.c (.i .u64 256))) fun v6 => bnd (abin .add x6 (.c (.i .i64 1))) fun v7 => er01_Bytes_l0 n m x0 v6 p5.1 v7 p5.2) (some (x5, h)) := by kernel_rfl
theorem K_er01_Bytes : FnK Try.prog 138 A_er01_Bytes E_er01_Bytes R_er01_Bytes := .mk' (sound0) Try.func138 (by kernel_rfl) (by intro n args h; kernel_rfl)
def S_er01_Bytes : Fun := tidy (Lim A_er01_Bytes E_er01_Bytes)
theorem S_er01_Bytes_ok : SOk Try.prog 138 S_er01_Bytes := K_er01_Bytes.sok
theorem S_er01_Bytes_out {n : Nat} {args : List Val} {h h2 : Heap} {v : Val} {sz k : Nat} {cs : List Cell} (he : R_er01_Bytes n args (ro h) = some (v, h2)) (ho : Out h.length h2 v sz k cs) (hf : flats cs = true) : S_er01_Bytes args h = some (.c (.sl h.length 0 k sz), h ++ [some ⟨cs, true⟩]) := K_er01_Bytes.out he ho hf
def er01_Lay_o0 : List AOper := [aO 6 (.nilrow 1)]
def er01_Lay_c0 : ACode := .ops er01_Lay_o0
def er01_Lay_o1 : List AOper := [aO 7 (.nilrow 1)]
def er01_Lay_c1 : ACode := .ops er01_Lay_o1
def er01_Lay_o2 : List AOper := [aO 8 (.mv (.v (.c (.i .i64 0))))]
def er01_Lay_c2 : ACode := .ops er01_Lay_o2
def er01_Lay_o3 : List AOper := [aO 10 (.mv (.t 8)), aO 11 (.mv (.t 0)), aO 12 (.len (.t 11)), aO 13 (.bin .lss (.t 10) (.t 12))]
def er01_Lay_c3 : ACode := .ops er01_Lay_o3
def er01_Lay_c4 : ACode := .cond (.t 13) .skip (.exit 0)
def er01_Lay_c5 : ACode := .seq [0, 1, 2, 7, 8, 13] er01_Lay_c3 er01_Lay_c4
def er01_Lay_o4 : List AOper := [aO 16 (.mv (.t 0)), aO 17 (.mv (.t 8)), aO 18 (.iAddrL 1 (.t 16) (.t 17)), aO 19 (.load1 (.t 18)), aO 9 (.mv (.t 19))]
def er01_Lay_c6 : ACode := .ops er01_Lay_o4
def er01_Lay_o5 : List AOper := [aO 20 (.mv (.t 1)), aO 21 (.bin .geq (.t 20) (.v (.c (.i .i64 0)))), aO 22 (.mv (.t 21)), { dst := some 23, op := .mv (.t 8), guard := some (22, true) }, { dst := some 24, op := .mv (.t 1), guard := some (22, true) }, { dst := some 25, op := .bin .geq (.t 23) (.t 24), guard := some (22, true) }, aO 26 (.pick (.t 22) (.t 25) (.v (.c (.b false)))), aO 27 (.mv (.t 26)), { dst := some 28, op := .mv (.t 8), guard := some (27, true) }, { dst := some 29, op := .mv (.t 1), guard := some (27, true) }, { dst := some 30, op := .bin .sub (.t 28) (.t 29), guard := some (27, true) }, { dst := some 31, op := .mv (.t 2), guard := some (27, true) }, { dst := some 32, op := .len (.t 31), guard := some (27, true) }, { dst := some 33, op := .bin .lss (.t 30) (.t 32), guard := some (27, true) }, aO 34 (.pick (.t 27) (.t 33) (.v (.c (.b false))))]
def er01_Lay_c7 : ACode := .ops er01_Lay_o5
def er01_Lay_o6 : List AOper := [aO 35 (.mv (.t 2)), aO 36 (.mv (.t 8)), aO 37 (.mv (.t 1)), aO 38 (.bin .sub (.t 36) (.t 37)), aO 39 (.iAddrL 1 (.t 35) (.t 38)), aO 40 (.load1 (.t 39)), aO 9 (.mv (.t 40))]
def er01_Lay_c8 : ACode := .ops er01_Lay_o6
def er01_Lay_c9 : ACode := .cond (.t 34) er01_Lay_c8 .skip
def er01_Lay_c10 : ACode := .seq [0, 1, 2, 7, 8, 9, 34] er01_Lay_c7 er01_Lay_c9
def er01_Lay_o7 : List AOper := [aO 41 (.mv (.t 7)), aO 42 (.mv (.t 9)), aO 43 (.buildSl 1 1 ([.i .u8 0]) [(0, 1, (.t 42))]), aO 44 (.app 1 (.t 41) (.t 43)), aO 7 (.mv (.t 44))]
def er01_Lay_c11 : ACode := .ops er01_Lay_o7
def er01_Lay_c12 : ACode := .seq [0, 1, 2, 7, 8, 9] er01_Lay_c10 er01_Lay_c11
def er01_Lay_c13 : ACode := .seq [0, 1, 2, 7, 8, 9] er01_Lay_c6 er01_Lay_c12
def er01_Lay_c14 : ACode := .block 1 er01_Lay_c13
def er01_Lay_o8 : List AOper := [aO 14 (.mv (.t 8)), aO 15 (.bin .add (.t 14) (.v (.c (.i .i64 1)))), aO 8 (.mv (.t 15))]
def er01_Lay_c15 : ACode := .ops er01_Lay_o8
def er01_Lay_c16 : ACode := .seq [0, 1, 2, 7, 8] er01_Lay_c14 er01_Lay_c15
def er01_Lay_c17 : ACode := .seq [0, 1, 2, 7, 8] er01_Lay_c5 er01_Lay_c16
def er01_Lay_c18 : ACode := .loop [0, 1, 2, 7, 8] er01_Lay_c17
def er01_Lay_c19 : ACode := .block 0 er01_Lay_c18
def er01_Lay_c20 : ACode := .seq [0, 1, 2, 7, 8] er01_Lay_c2 er01_Lay_c19
def er01_Lay_o9 : List AOper := [aO 45 (.mv (.t 7)), aO 6 (.mv (.t 45))]
def er01_Lay_c21 : ACode := .ops er01_Lay_o9
def er01_Lay_c22 : ACode := .seq [6] er01_Lay_c21 .ret
def er01_Lay_c23 : ACode := .seq [7] er01_Lay_c20 er01_Lay_c22
def er01_Lay_c24 : ACode := .seq [0, 1, 2, 7] er01_Lay_c1 er01_Lay_c23
def er01_Lay_c25 : ACode := .seq [0, 1, 2] er01_Lay_c0 er01_Lay_c24
def A_er01_Lay : AFn := ⟨er01_Lay_c25, [.tmp 6]⟩
def E_er01_Lay : Sums := disp0
def er01_Lay_c0_d (n : Nat) : SmV := smOps E_er01_Lay er01_Lay_o0
def er01_Lay_c1_d (n : Nat) : SmV := smOps E_er01_Lay er01_Lay_o1
def er01_Lay_c2_d (n : Nat) : SmV := smOps E_er01_Lay er01_Lay_o2
def er01_Lay_c3_d (n : Nat) : SmV := smOps E_er01_Lay er01_Lay_o3
def er01_Lay_c4_d (n : Nat) : SmV := smCond (.t 13) smSkip (smExit 0)
def er01_Lay_c5_d (n : Nat) : SmV := smSeq [0, 1, 2, 7, 8, 13] (er01_Lay_c3_d n) (er01_Lay_c4_d n)
def er01_Lay_c6_d (n : Nat) : SmV := smOps E_er01_Lay er01_Lay_o4
def er01_Lay_c7_d (n : Nat) : SmV := smOps E_er01_Lay er01_Lay_o5
def er01_Lay_c8_d (n : Nat) : SmV := smOps E_er01_Lay er01_Lay_o6
def er01_Lay_c9_d (n : Nat) : SmV := smCond (.t 34) (er01_Lay_c8_d n) smSkip
def er01_Lay_c10_d (n : Nat) : SmV := smSeq [0, 1, 2, 7, 8, 9, 34] (er01_Lay_c7_d n) (er01_Lay_c9_d n)
def er01_Lay_c11_d (n : Nat) : SmV := smOps E_er01_Lay er01_Lay_o7
def er01_Lay_c12_d (n : Nat) : SmV := smSeq [0, 1, 2, 7, 8, 9] (er01_Lay_c10_d n) (er01_Lay_c11_d n)
def er01_Lay_c13_d (n : Nat) : SmV := smSeq [0, 1, 2, 7, 8, 9] (er01_Lay_c6_d n) (er01_Lay_c12_d n)
def er01_Lay_c14_d (n : Nat) : SmV := smBlock 1 (er01_Lay_c13_d n)
def er01_Lay_c15_d (n : Nat) : SmV := smOps E_er01_Lay er01_Lay_o8
def er01_Lay_c16_d (n : Nat) : SmV := smSeq [0, 1, 2, 7, 8] (er01_Lay_c14_d n) (er01_Lay_c15_d n)
def er01_Lay_c17_d (n : Nat) : SmV := smSeq [0, 1, 2, 7, 8] (er01_Lay_c5_d n) (er01_Lay_c16_d n)
def er01_Lay_c18_d (n : Nat) : SmV := smLoop n [0, 1, 2, 7, 8] (er01_Lay_c17_d n)
def er01_Lay_c19_d (n : Nat) : SmV := smBlock 0 (er01_Lay_c18_d n)
def er01_Lay_c20_d (n : Nat) : SmV := smSeq [0, 1, 2, 7, 8] (er01_Lay_c2_d n) (er01_Lay_c19_d n)
def er01_Lay_c21_d (n : Nat) : SmV := smOps E_er01_Lay er01_Lay_o9
def er01_Lay_c22_d (n : Nat) : SmV := smSeq [6] (er01_Lay_c21_d n) smRet
def er01_Lay_c23_d (n : Nat) : SmV := smSeq [7] (er01_Lay_c20_d n) (er01_Lay_c22_d n)
def er01_Lay_c24_d (n : Nat) : SmV := smSeq [0, 1, 2, 7] (er01_Lay_c1_d n) (er01_Lay_c23_d n)
def er01_Lay_c25_d (n : Nat) : SmV := smSeq [0, 1, 2] (er01_Lay_c0_d n) (er01_Lay_c24_d n)
def er01_Lay_k0 (n : Nat) : AExit → Env → Heap → OptV := fun x e h => match x with | .normal => hold ((er01_Lay_c22_d n) A_er01_Lay.fin (e.keep [7]) h) | .exit id => A_er01_Lay.fin (.exit id) e h | .ret => A_er01_Lay.fin .ret e h
def er01_Lay_k1 (n : Nat) : AExit → Env → Heap → OptV := fun x e h => match x with | .exit i => bif Nat.beq i 0 then (er01_Lay_k0 n) .normal e h else (er01_Lay_k0 n) (.exit i) e h | .normal => (er01_Lay_k0 n) .normal e h | .ret => (er01_Lay_k0 n) .ret e h
def er01_Lay_l0 (n m : Nat) (x0 x1 x2 x7 x8 : Val) (h : Heap) : OptV := around (er01_Lay_c17_d n) [0, 1, 2, 7, 8] (er01_Lay_k1 n) m [(0, x0), (1, x1), (2, x2), (7, x7), (8, x8)] h
def R_er01_Lay (n : Nat) (args : List Val) (h : Heap) : OptV := (er01_Lay_c25_d n) A_er01_Lay.fin (params 0 args) h
def er01_Lay_k2 (n m : Nat) : AExit → Env → Heap → OptV := fun x e h => match x with | .normal => around (er01_Lay_c17_d n) [0, 1, 2, 7, 8] (er01_Lay_k1 n) m (e.keep [0, 1, 2, 7, 8]) h | .exit id => (er01_Lay_k1 n) (.exit id) e h | .ret => (er01_Lay_k1 n) .ret e h
def er01_Lay_k3 (n m : Nat) : AExit → Env → Heap → OptV := fun x e h => match x with | .normal => hold ((er01_Lay_c15_d n) (er01_Lay_k2 n m) (e.keep [0, 1, 2, 7, 8]) h) | .exit id => (er01_Lay_k2 n m) (.exit id) e h | .ret => (er01_Lay_k2 n m) .ret e h
def er01_Lay_k4 (n m : Nat) : AExit → Env → Heap → OptV := fun x e h => match x with | .exit i => bif Nat.beq i 1 then (er01_Lay_k3 n m) .normal e h else (er01_Lay_k3 n m) (.exit i) e h | .normal => (er01_Lay_k3 n m) .normal e h | .ret => (er01_Lay_k3 n m) .ret e h
def er01_Lay_j0 (n m : Nat) (x0 x1 x2 x7 x8 x9 : Val) (h : Heap) : OptV := hold ((er01_Lay_c11_d n) (er01_Lay_k4 n m) [(0, x0), (1, x1), (2, x2), (7, x7), (8, x8), (9, x9)] h)
theorem R_er01_Lay_eq (n : Nat) (a0 a1 a2 : Val) (h : Heap) : R_er01_Lay n [a0, a1, a2] h = er01_Lay_l0 n n a0 a1 a2 ((.c (.sl ((h ++ [some (Row.mk ([]) true)])).length 0 0 1))) (.c (.i .i64 0)) (((h ++ [some (Row.mk ([]) true)]) ++ [some (Row.mk ([]) true)])) := by kernel_rfl
theorem er01_Lay_l0_eq (n m : Nat) (x0 x1 x2 x7 x8 : Val) (h : Heap) : er01_Lay_l0 n (m + 1) x0 x1 x2 x7 x8 h = bnd (alen x0) fun v1 => bnd (abin .lss x8 v1) fun v2 => cnd v2 (bnd (aiAddrL 1 x0 x8) fun v3 => bnd (aload1 h v3) fun v4 => bnd (abin .geq x1 (.c (.i .i64 0))) fun v5 => bnd (gd v5 true (some (x8, h)) (some (.no, h))) fun p6 => bnd (gd v5 true (some (x1, p6.2)) (some (.no, p6.2))) fun p7 => bnd (gd v5 true (bnd (abin .geq p6.1 p7.1) fun v8 => some (v8, p7.2)) (some (.no, p7.2))) fun p9 => bnd (apick v5 p9.1 (.c (.b false))) fun v10 => bnd (gd v10 true (some (x8, p9.2)) (some (.no, p9.2))) fun p11 => bnd (gd v10 true (some (x1, p11.2)) (some (.no, p11.2))) fun p12 => bnd (gd v10 true (bnd (abin .sub p11.1 p12.1) fun v13 => some (v13, p12.2)) (some (.no, p12.2))) fun p14 => bnd (gd v10 true (some (x2, p14.2)) (some (.no, p14.2))) fun p15 => bnd (gd v10 true (bnd (alen p15.1) fun v16 => some (v16, p15.2)) (some (.no, p15.2))) fun p17 => bnd (gd v10 true (bnd (abin .lss p14.1 p17.1) fun v18 => some (v18, p17.2)) (some (.no, p17.2))) fun p19 => bnd (apick v10 p19.1 (.c (.b false))) fun v20 => cnd v20 (bnd (abin .sub x8 x1) fun v21 => bnd (aiAddrL 1 x2 v21) fun v22 => bnd (aload1 p19.2 v22) fun v23 => er01_Lay_j0 n m x0 x1 x2 x7 x8 v23 p19.2) (er01_Lay_j0 n m x0 x1 x2 x7 x8 v4 p19.2)) (some (x7, h)) := by kernel_rfl
theorem er01_Lay_j0_eq (n m : Nat) (x0 x1 x2 x7 x8 x9 : Val) (h : Heap) : er01_Lay_j0 n m x0 x1 x2 x7 x8 x9 h = bnd (afill ([.i .u8 0]) [(0, 1, x9)]) fun c24 => bnd (aapp ((h ++ [some (Row.mk (c24) true)])) 1 x7 ((.c (.sl h.length 0 1 1)))) fun p25 => bnd (abin .add x8 (.c (.i .i64 1))) fun v26 => er01_Lay_l0 n m x0 x1 x2 p25.1 v26 p25.2 := by kernel_rfl
theorem K_er01_Lay : FnK Try.prog 140 A_er01_Lay E_er01_Lay R_er01_Lay := .mk' (sound0) Try.func140 (by kernel_rfl) (by intro n args h; kernel_rfl)
def S_er01_Lay : Fun := tidy (Lim A_er01_Lay E_er01_Lay)
theorem S_er01_Lay_ok : SOk Try.prog 140 S_er01_Lay := K_er01_Lay.sok
theorem S_er01_Lay_out {n : Nat} {args : List Val} {h h2 : Heap} {v : Val} {sz k : Nat} {cs : List Cell} (he : R_er01_Lay n args (ro h) = some (v, h2)) (ho : Out h.length h2 v sz k cs) (hf : flats cs = true) : S_er01_Lay args h = some (.c (.sl h.length 0 k sz), h ++ [some ⟨cs, true⟩]) := K_er01_Lay.out he ho hf
end Go.Proofs.Ytdgggnlbdoiloaa
end
section
namespace Go.Proofs.Ytdgggnlbdoiloaa
open Go Go.Esc

theorem ref01_Same_loop {v u : Val} {nv nu : Nat} {l r : List UInt8} {h : Heap} (hv : Has h v 1 nv (encB l)) (hu : Has h u 1 nu (encB r)) (hlr : l.length = r.length) (hl : l.length < 9223372036854775807) {k : Nat} : ∀ d i m, i + d = l.length → d < m →
    er01_Same_l0 k m v u (.c (.i .i64 i)) h = some (.c (.b (decide (l.drop i = r.drop i))), h)
  | d, i, 0, _, hm => by omega
  | 0, i, m + 1, hi, hm => by
    have hnv : l.length = nv := by simpa [encB_length] using hv.length
    have e1 : l.drop i = [] := List.drop_of_length_le (by omega)
    have e2 : r.drop i = [] := List.drop_of_length_le (by omega)
    have h1' : ¬ (i : Int) < l.length := by omega
    rw [er01_Same_l0_eq]
    simp only [esc, hv.len, ← hnv, h1', e1, e2]
  | d + 1, i, m + 1, hi, hm => by
    have ih := ref01_Same_loop hv hu hlr hl (k := k) d (i + 1) m (by omega) (by omega)
    have hnv : l.length = nv := by simpa [encB_length] using hv.length
    have hnu : r.length = nu := by simpa [encB_length] using hu.length
    have hlen := hv.len
    obtain ⟨id, off, rfl, hid, h1, h2⟩ := hv.sl (by omega)
    obtain ⟨id', off', rfl, hid', h1', h2'⟩ := hu.sl (by omega)
    have hx := h1 i (.i .u8 l[i].toNat) (by rw [encB_get, List.getElem?_eq_getElem (by omega)]; rfl)
    have hy := h1' i (.i .u8 r[i].toNat) (by rw [encB_get, List.getElem?_eq_getElem (by omega)]; rfl)
    have ea : aiAddrL 1 (.c (.sl id off nv 1)) (.c (.i .i64 (i : Int))) = some (.c (.p id (off + i))) := by rw [iAddrL_of (by omega)]; simp
    have eb : aiAddrL 1 (.c (.sl id' off' nu 1)) (.c (.i .i64 (i : Int))) = some (.c (.p id' (off' + i))) := by rw [iAddrL_of (by omega)]; simp
    have c1 : (i : Int) < nv := by omega
    rw [er01_Same_l0_eq, List.drop_eq_getElem_cons (by omega : i < l.length), List.drop_eq_getElem_cons (by omega : i < r.length)]
    by_cases c : l[i] = r[i]
    · simp only [esc, c1, ea, eb, hx, hy, c, wi_succ (show i + 1 < 9223372036854775808 by omega), List.cons.injEq, true_and]
      exact ih
    · have c' : ¬ (l[i].toNat : Int) = r[i].toNat := fun e => c (UInt8.toNat_inj.1 (by omega))
      simp only [esc, c1, ea, eb, hx, hy, c', c, List.cons.injEq, false_and]

theorem ref01_Same_eq {v u : Val} {nv nu : Nat} {l r : List UInt8} {h : Heap} (hv : Has h v 1 nv (encB l)) (hu : Has h u 1 nu (encB r)) (hl : l.length < 9223372036854775807) :
    S_er01_Same [v, u] h = some (.c (.b (decide (l = r))), h) := by
  refine S_er01_Same_flat (n := l.length + 1) (h2 := ro h) ?_ (by simp)
  have hnv : l.length = nv := by simpa [encB_length] using hv.length
  have hnu : r.length = nu := by simpa [encB_length] using hu.length
  rw [R_er01_Same_eq]
  by_cases c : l.length = r.length
  · have := ref01_Same_loop hv.ro hu.ro c hl (k := l.length + 1) l.length 0 (l.length + 1) (by omega) (by omega)
    simp only [List.drop_zero] at this
    have c' : (nv : Int) = nu := by omega
    simp only [esc, hv.len, hu.len, c']
    exact this
  · have c' : ¬ (nv : Int) = nu := by omega
    have c2 : ¬ l = r := fun e => c (by rw [e])
    simp only [esc, hv.len, hu.len, c', c2]

theorem ref01_Get_loop {v : Val} {nv : Nat} {l : List UInt8} {h : Heap} (hv : Has h v 1 nv (encB l)) {a w k : Nat} (hw : w ≤ 8) (haw : a + w ≤ l.length) (hl : l.length < 9223372036854775808) : ∀ j m, j ≤ w → j < m →
    er01_Get_l0 k m v (.c (.i .i64 a)) (.c (.i .u64 (le ((l.drop (a + j)).take (w - j))))) (.c (.i .i64 ((j : Int) - 1))) h = some (.t [.c (.i .u64 (le ((l.drop a).take w))), .c (.b true)], h)
  | j, 0, _, hm => by omega
  | 0, m + 1, hj, hm => by
    rw [er01_Get_l0_eq]
    have h1' : ¬ (0 : Int) ≤ ((0 : Nat) : Int) - 1 := by omega
    simp only [esc, h1', Nat.sub_zero]
  | j + 1, m + 1, hj, hm => by
    have ih := ref01_Get_loop hv (k := k) hw haw hl j m (by omega) (by omega)
    have hnv : l.length = nv := by simpa [encB_length] using hv.length
    obtain ⟨id, off, rfl, hid, h1, h2⟩ := hv.sl (by omega)
    have hx := h1 (a + j) (.i .u8 l[a + j].toNat) (by rw [encB_get, List.getElem?_eq_getElem (by omega)]; rfl)
    have hb := l[a + j].toNat_lt
    have ea : aiAddrL 1 (.c (.sl id off nv 1)) (.c (.i .i64 ((a + j : Nat) : Int))) = some (.c (.p id (off + (a + j)))) := by rw [iAddrL_of (by omega)]; simp
    have e0 : ((j + 1 : Nat) : Int) - 1 = j := by omega
    have e5 : IntKind.wrap .u64 (l[a + j].toNat : Int) = l[a + j].toNat := wrap_u64 (by omega) (by omega)
    have e6 : IntKind.wrap .i64 ((j : Int) - 1) = (j : Int) - 1 := wrap_i64 (by omega) (by omega)
    have hlen : ((l.drop (a + (j + 1))).take (w - (j + 1))).length = w - (j + 1) := by simp; omega
    have hle := le_lt ((l.drop (a + (j + 1))).take (w - (j + 1)))
    rw [hlen] at hle
    have hp : 256 ^ (w - (j + 1)) ≤ 256 ^ 7 := pow256_le (by omega)
    have e7 : (l.drop (a + j)).take (w - j) = l[a + j] :: (l.drop (a + (j + 1))).take (w - (j + 1)) := by
      rw [List.drop_eq_getElem_cons (by omega), show w - j = (w - (j + 1)) + 1 by omega, List.take_succ_cons]
      rfl
    rw [e7] at ih
    have e8 : IntKind.wrap .u64 ((le ((l.drop (a + (j + 1))).take (w - (j + 1))) : Nat) * 256) = ((le ((l.drop (a + (j + 1))).take (w - (j + 1))) * 256 : Nat) : Int) := by
      rw [wrap_u64 (by omega) (by omega)]; omega
    have e9 : IntKind.wrap .u64 (((le ((l.drop (a + (j + 1))).take (w - (j + 1))) * 256 : Nat) : Int) + l[a + j].toNat) = ((le (l[a + j] :: (l.drop (a + (j + 1))).take (w - (j + 1))) : Nat) : Int) := by
      simp only [le]
      rw [wrap_u64 (by omega) (by omega)]; omega
    have h1' : (0 : Int) ≤ j := by omega
    rw [er01_Get_l0_eq, e0]
    simp only [esc, h1', wi_add (show a + j < 9223372036854775808 by omega), ea, hx, e5, e8, e9, e6]
    exact ih

theorem ref01_Get_eq {v : Val} {nv : Nat} {l : List UInt8} {h : Heap} (hv : Has h v 1 nv (encB l)) {a w : Int} (hl : l.length < 9223372036854775808) :
    S_er01_Get [v, .c (.i .i64 a), .c (.i .i64 w)] h = some (.t [.c (.i .u64 ((getN l a w).getD 0 : Nat)), .c (.b (getN l a w).isSome)], h) := by
  refine S_er01_Get_flat (n := w.toNat + 1) (h2 := ro h) ?_ (by simp)
  rw [R_er01_Get_eq]
  have hv' := hv.ro
  have hnv : l.length = nv := by simpa [encB_length] using hv.length
  unfold getN
  by_cases c1 : w < 1
  · rw [if_neg (by rw [thereI_true]; omega)]
    simp only [esc, c1, Option.getD_none, Option.isSome_none] <;> rfl
  · by_cases c2 : 8 < w
    · rw [if_neg (by omega)]
      simp only [esc, c1, c2, Option.getD_none, Option.isSome_none] <;> rfl
    · by_cases c3 : a < 0
      · rw [if_neg (by rw [thereI_true]; omega)]
        simp only [esc, c1, c2, c3, Option.getD_none, Option.isSome_none] <;> rfl
      · have e1 : IntKind.wrap .i64 ((nv : Int) - w) = nv - w := wrap_i64 (by omega) (by omega)
        by_cases c4 : (nv : Int) - w < a
        · rw [if_neg (by rw [thereI_true]; omega)]
          simp only [esc, c1, c2, c3, c4, hv'.len, e1, Option.getD_none, Option.isSome_none] <;> rfl
        · rw [if_pos (by rw [thereI_true]; omega)]
          have := ref01_Get_loop hv' (a := a.toNat) (w := w.toNat) (k := w.toNat + 1) (by omega) (by omega) hl w.toNat (w.toNat + 1) (by omega) (by omega)
          simp only [show ((a.toNat : Nat) : Int) = a by omega, show ((w.toNat : Nat) : Int) = w by omega, Nat.sub_self, List.take_zero, le] at this
          have e2 : IntKind.wrap .i64 (w - 1) = w - 1 := wrap_i64 (by omega) (by omega)
          simp only [esc, c1, c2, c3, c4, hv'.len, e1, e2, Option.getD_some, Option.isSome_some]
          exact this

theorem ref01_Bytes_loop {g : Heap} {w k : Nat} {v : Int} (hw : w ≤ 8) (hv : 0 ≤ v) (hv2 : v < 18446744073709551616) : ∀ d i m h id, i + d = w → d < m → Low g.length g h → g.length ≤ id → rd h id = some ⟨encB (bytesI i v), true⟩ →
    ∃ v' h', er01_Bytes_l0 k m (.c (.i .i64 w)) (.c (.i .u64 (v / 256 ^ i))) (.c (.sl id 0 i 1)) (.c (.i .i64 i)) h = some (v', h') ∧ Out g.length h' v' 1 w (encB (bytesI w v))
  | d, i, 0, h, id, _, hm, _, _, _ => by omega
  | 0, i, m + 1, h, id, hi, hm, hlow, hb, hr => by
    have e : i = w := by omega
    subst e
    have h1' : ¬ (i : Int) < i := by omega
    rw [er01_Bytes_l0_eq]
    exact ⟨_, _, by simp only [esc, h1'] <;> rfl, by simp [encB_length], id, rfl, hb, hr⟩
  | d + 1, i, m + 1, h, id, hi, hm, hlow, hb, hr => by
    have hq : 0 ≤ v / 256 ^ i := Int.ediv_nonneg hv (Int.pow_nonneg (by omega))
    have e1 : abin .rem (.c (.i .u64 (v / 256 ^ i))) (.c (.i .u64 256)) = some (.c (.i .u64 (v / 256 ^ i % 256))) := by
      rw [abin_rem (by omega), Int.tmod_eq_emod_of_nonneg hq]
    have e2 : IntKind.wrap .u8 (v / 256 ^ i % 256) = ((byI v i).toNat : Int) := by rw [wrap_u8_mod, byI_int]; omega
    have hle : v / 256 ^ i ≤ v := Int.ediv_le_self _ hv
    have e3 : abin .quo (.c (.i .u64 (v / 256 ^ i))) (.c (.i .u64 256)) = some (.c (.i .u64 (v / 256 ^ (i + 1)))) := by
      have h0 : v / 256 ^ i / 256 = v / 256 ^ (i + 1) := by rw [Int.ediv_ediv_of_nonneg (Int.pow_nonneg (by omega)), Int.pow_succ]
      rw [abin_quo (by omega), Int.tdiv_eq_ediv_of_nonneg hq, h0]
      have h1 : 0 ≤ v / 256 ^ (i + 1) := Int.ediv_nonneg hv (Int.pow_nonneg (by omega))
      have h2 : v / 256 ^ (i + 1) ≤ v := Int.ediv_le_self _ hv
      exact congrArg some (congrArg Val.c (congrArg (Cell.i .u64) (wrap_u64 h1 (by omega))))
    obtain ⟨h', a1, a2, a3, a4, a5⟩ := push (ys := [.i .u8 (byI v i).toNat]) (sz := 1) (n := i) hlow hr (by simp [encB_length]) hb rfl (by omega) (by omega)
    have e4 : encB (bytesI i v) ++ [Cell.i .u8 (byI v i).toNat] = encB (bytesI (i + 1) v) := by rw [bytesI_succ, encB_append]; rfl
    rw [e4] at a2
    obtain ⟨v', h'', b1, b2⟩ := ref01_Bytes_loop (k := k) hw hv hv2 d (i + 1) m h' (h.length + 1) (by omega) (by omega) a3 a4 a2
    have h1' : (i : Int) < w := by omega
    have e5 : afill [Cell.i .u8 0] [(0, 1, .c (.i .u8 (byI v i).toNat))] = some [.i .u8 (byI v i).toNat] := rfl
    rw [er01_Bytes_l0_eq]
    exact ⟨v', h'', by simp only [esc, h1', e1, e2, e5, a1, e3, wi_succ (show i + 1 < 9223372036854775808 by omega)]; exact b1, b2⟩

theorem ref01_Bytes_eq {w : Nat} {v : Int} {h : Heap} (hw : w ≤ 8) (hv : 0 ≤ v) (hv2 : v < 18446744073709551616) :
    S_er01_Bytes [.c (.i .i64 w), .c (.i .u64 v)] h = some (.c (.sl h.length 0 w 1), h ++ [some ⟨encB (bytesI w v), true⟩]) := by
  obtain ⟨v', h', e, ho⟩ := ref01_Bytes_loop (g := ro h) (k := w + 1) hw hv hv2 w 0 (w + 1) (ro h ++ [some ⟨[], true⟩, some ⟨[], true⟩]) ((ro h).length + 1) (by omega) (by omega) ((Low.refl (Nat.le_refl _)).new _) (by simp) (by simp [bytesI]; rfl)
  refine S_er01_Bytes_out (n := w + 1) (v := v') (h2 := h') ?_ (by simpa [ro_length] using ho) (by simp)
  rw [R_er01_Bytes_eq]
  simp only [Int.pow_zero, Int.ediv_one] at e
  simp only [esc]
  exact e

def layR (l : List UInt8) (a : Int) (data : List UInt8) : List UInt8 := if 0 ≤ a then l.take a.toNat ++ ((data.take (l.length - a.toNat)) ++ l.drop (a.toNat + data.length)) else l

theorem layR_length {l data : List UInt8} {a : Int} : (layR l a data).length = l.length := by
  unfold layR
  split
  · simp; omega
  · rfl

theorem layR_get {l data : List UInt8} {a : Int} {i : Nat} (hi : i < l.length) : (layR l a data)[i]? = if 0 ≤ a ∧ a ≤ i ∧ i - a < data.length then data[i - a.toNat]? else l[i]? := by
  unfold layR
  by_cases c1 : 0 ≤ a
  · rw [if_pos c1]
    by_cases c2 : a ≤ i
    · rw [List.getElem?_append_right (by simp; omega)]
      have e1 : (l.take a.toNat).length = a.toNat := by simp; omega
      rw [e1]
      by_cases c3 : i - a < data.length
      · rw [if_pos ⟨c1, c2, c3⟩, List.getElem?_append_left (by simp; omega), List.getElem?_take_of_lt (by omega)]
      · rw [if_neg (by omega), List.getElem?_append_right (by simp; omega), List.getElem?_drop]
        congr 1
        simp; omega
    · rw [if_neg (by omega), List.getElem?_append_left (by simp; omega), List.getElem?_take_of_lt (by omega)]
  · rw [if_neg c1, if_neg (by omega)]

theorem ref01_Lay_loop {g : Heap} {v u : Val} {nv nu : Nat} {l data : List UInt8} (hv : Has g v 1 nv (encB l)) (hu : Has g u 1 nu (encB data)) {a : Int} (ha : a < 9223372036854775808) {k : Nat} (hl : l.length ≤ 1073741824) : ∀ d i m h id, i + d = l.length → d < m → Low g.length g h → g.length ≤ id → rd h id = some ⟨encB ((layR l a data).take i), true⟩ →
    ∃ v' h', er01_Lay_l0 k m v (.c (.i .i64 a)) u (.c (.sl id 0 i 1)) (.c (.i .i64 i)) h = some (v', h') ∧ Out g.length h' v' 1 l.length (encB (layR l a data))
  | d, i, 0, h, id, _, hm, _, _, _ => by omega
  | 0, i, m + 1, h, id, hi, hm, hlow, hb, hr => by
    have hnv : l.length = nv := by simpa [encB_length] using hv.length
    have e : i = nv := by omega
    subst e
    have h1' : ¬ (i : Int) < i := by omega
    rw [List.take_of_length_le (by rw [layR_length]; omega)] at hr
    rw [er01_Lay_l0_eq]
    exact ⟨_, _, by simp only [esc, (hv.since hlow).len, h1'] <;> rfl, by simp [encB_length, layR_length], id, by rw [hnv], hb, hr⟩
  | d + 1, i, m + 1, h, id, hi, hm, hlow, hb, hr => by
    have hnv : l.length = nv := by simpa [encB_length] using hv.length
    have hnu : data.length = nu := by simpa [encB_length] using hu.length
    have hvl := (hv.since hlow).len
    have hul := (hu.since hlow).len
    obtain ⟨idv, offv, rfl, -, hv1, -⟩ := (hv.since hlow).sl (by omega)
    have hx := hv1 i (.i .u8 l[i].toNat) (by rw [encB_get, List.getElem?_eq_getElem (by omega)]; rfl)
    have ea : aiAddrL 1 (.c (.sl idv offv nv 1)) (.c (.i .i64 (i : Int))) = some (.c (.p idv (offv + i))) := by rw [iAddrL_of (by omega)]; simp
    have c1 : (i : Int) < nv := by omega
    have step : ∀ x : UInt8, (layR l a data)[i]? = some x → ∃ v' h', er01_Lay_j0 k m (.c (.sl idv offv nv 1)) (.c (.i .i64 a)) u (.c (.sl id 0 i 1)) (.c (.i .i64 i)) (.c (.i .u8 x.toNat)) h = some (v', h') ∧ Out g.length h' v' 1 l.length (encB (layR l a data)) := by
      intro x hx
      obtain ⟨h', a1, a2, a3, a4, a5⟩ := push (ys := [.i .u8 x.toNat]) (sz := 1) (n := i) hlow hr (by rw [encB_length, List.length_take, layR_length]; omega) hb rfl (by omega) (by omega)
      have e4 : encB ((layR l a data).take i) ++ [Cell.i .u8 x.toNat] = encB ((layR l a data).take (i + 1)) := by
        rw [List.take_add_one, hx, encB_append]; rfl
      rw [e4] at a2
      obtain ⟨v', h'', b1, b2⟩ := ref01_Lay_loop (k := k) hv hu ha hl d (i + 1) m h' (h.length + 1) (by omega) (by omega) a3 a4 a2
      have e5 : afill [Cell.i .u8 0] [(0, 1, .c (.i .u8 x.toNat))] = some [.i .u8 x.toNat] := rfl
      rw [er01_Lay_j0_eq]
      exact ⟨v', h'', by simp only [esc, e5, a1, wi_succ (show i + 1 < 9223372036854775808 by omega)]; exact b1, b2⟩
    have hg := layR_get (l := l) (data := data) (a := a) (i := i) (by omega)
    have hli : l[i]? = some l[i] := List.getElem?_eq_getElem (by omega)
    rw [er01_Lay_l0_eq]
    by_cases c2 : 0 ≤ a
    · by_cases c3 : a ≤ i
      · have e6 : IntKind.wrap .i64 ((i : Int) - a) = ((i - a.toNat : Nat) : Int) := by rw [wrap_i64 (by omega) (by omega)]; omega
        by_cases c4 : i - a.toNat < data.length
        · rw [if_pos (by omega), List.getElem?_eq_getElem c4] at hg
          obtain ⟨idu, offu, rfl, -, hu1, -⟩ := (hu.since hlow).sl (by omega)
          have hy := hu1 (i - a.toNat) (.i .u8 (data[i - a.toNat]'(by omega)).toNat) (by rw [encB_get, List.getElem?_eq_getElem c4]; rfl)
          have eb : aiAddrL 1 (.c (.sl idu offu nu 1)) (.c (.i .i64 ((i - a.toNat : Nat) : Int))) = some (.c (.p idu (offu + (i - a.toNat)))) := by rw [iAddrL_of (by omega)]; simp
          have c4' : ((i - a.toNat : Nat) : Int) < nu := by omega
          simp only [esc, hvl, c1, ea, hx, c2, c3, e6, hul, c4', eb, hy]
          exact step _ hg
        · rw [if_neg (by omega), hli] at hg
          have c4' : ¬ ((i - a.toNat : Nat) : Int) < nu := by omega
          simp only [esc, hvl, c1, ea, hx, c2, c3, e6, hul, c4']
          exact step _ hg
      · rw [if_neg (by omega), hli] at hg
        simp only [esc, hvl, c1, ea, hx, c2, c3]
        exact step _ hg
    · rw [if_neg (by omega), hli] at hg
      simp only [esc, hvl, c1, ea, hx, c2]
      exact step _ hg

theorem ref01_Lay_eq {v u : Val} {nv nu : Nat} {l data : List UInt8} {h : Heap} (hv : Has h v 1 nv (encB l)) (hu : Has h u 1 nu (encB data)) {a : Int} (ha : a < 9223372036854775808) (hl : l.length ≤ 1073741824) :
    S_er01_Lay [v, .c (.i .i64 a), u] h = some (.c (.sl h.length 0 l.length 1), h ++ [some ⟨encB (layR l a data), true⟩]) := by
  obtain ⟨v', h', e, ho⟩ := ref01_Lay_loop (k := l.length + 1) hv.ro hu.ro ha hl l.length 0 (l.length + 1) (ro h ++ [some ⟨[], true⟩, some ⟨[], true⟩]) ((ro h).length + 1) (by omega) (by omega) ((Low.refl (Nat.le_refl _)).new _) (by simp) (by simp; rfl)
  refine S_er01_Lay_out (n := l.length + 1) (v := v') (h2 := h') ?_ (by simpa [ro_length] using ho) (by simp)
  rw [R_er01_Lay_eq]
  simp only [esc]
  exact e

theorem layR_layB {l xs : List UInt8} {a : Nat} (h : a + xs.length ≤ l.length) : layR l a xs = layB l a xs := by
  unfold layR layB
  rw [if_pos (by omega)]
  simp only [Int.toNat_natCast]
  rw [List.take_of_length_le (l := xs) (by omega)]

def atG (l : List UInt8) (a w : Int) : Nat := if w ≤ 4 ∧ thereI a w l.length = true then le ((l.drop a.toNat).take w.toNat) else 0

theorem atG_256 {l : List UInt8} {a w : Int} (hl : l.length = 256) : atG l a w = atN l a w := by
  unfold atG atN; rw [hl]; rfl

theorem ref01_AtG {v : Val} {nv : Nat} {l : List UInt8} {h : Heap} (hv : Has h v 1 nv (encB l)) {a w : Int} (hl : l.length < 9223372036854775808) :
    S_er01_At [v, .c (.i .i64 a), .c (.i .i64 w)] h = some (.c (.i .i64 (atG l a w)), h) := by
  have key : ∀ g, Has g v 1 nv (encB l) → R_er01_At 0 [v, .c (.i .i64 a), .c (.i .i64 w)] g = some (.c (.i .i64 (atG l a w)), g) := by
    intro g hv
    rw [R_er01_At_eq]
    unfold atG
    by_cases c1 : 4 < w
    · rw [if_neg (by omega)]
      simp only [esc, c1] <;> rfl
    · have e := ref01_Get_eq hv (a := a) (w := w) hl
      unfold getN at e
      by_cases c2 : thereI a w l.length = true
      · have c3 := thereI_true.1 c2
        rw [if_pos ⟨by omega, c2⟩] at e
        rw [if_pos ⟨by omega, c2⟩]
        have hle := le_lt ((l.drop a.toNat).take w.toNat)
        have hlen : ((l.drop a.toNat).take w.toNat).length = w.toNat := by simp; omega
        rw [hlen] at hle
        have hp : 256 ^ w.toNat ≤ 256 ^ 4 := pow256_le (by omega)
        simp only [Option.getD_some, Option.isSome_some] at e
        have e2 : IntKind.wrap .i64 ((le ((l.drop a.toNat).take w.toNat) : Nat) : Int) = le ((l.drop a.toNat).take w.toNat) := wrap_i64 (by omega) (by omega)
        simp only [esc, c1, e, e2]
      · rw [if_neg (fun h => c2 h.2)] at e
        rw [if_neg (fun h => c2 h.2)]
        simp only [Option.getD_none, Option.isSome_none] at e
        simp only [esc, c1, e] <;> rfl
  exact S_er01_At_flat (key _ hv.ro) (by simp)

theorem ref01_At_eq {v : Val} {nv : Nat} {l : List UInt8} {h : Heap} (hv : Has h v 1 nv (encB l)) {a w : Int} (hl : l.length = 256) :
    S_er01_At [v, .c (.i .i64 a), .c (.i .i64 w)] h = some (.c (.i .i64 (atN l a w)), h) := by
  rw [ref01_AtG hv (by omega), atG_256 hl]

theorem byI_wrap {v : Int} {i : Nat} (hi : i < 8) : byI (IntKind.wrap .u64 v) i = byI v i := by
  have hw : IntKind.wrap .u64 v = v % 18446744073709551616 := by
    simp only [IntKind.wrap, IntKind.bits, IntKind.signed, Bool.false_and]
    rfl
  apply UInt8.toNat_inj.1
  have h1 : ((byI (IntKind.wrap .u64 v) i).toNat : Int) = (v % 18446744073709551616) / 256 ^ i % 256 := by rw [byI_int, hw]
  have h2 := byI_int v i
  have h3 : (v % 18446744073709551616) / 256 ^ i % 256 = v / 256 ^ i % 256 := by
    have : i = 0 ∨ i = 1 ∨ i = 2 ∨ i = 3 ∨ i = 4 ∨ i = 5 ∨ i = 6 ∨ i = 7 := by omega
    rcases this with rfl | rfl | rfl | rfl | rfl | rfl | rfl | rfl <;> simp only [Int.reducePow] <;> omega
  omega

theorem bytesI_wrap {v : Int} {w : Nat} (hw : w ≤ 8) : bytesI w (IntKind.wrap .u64 v) = bytesI w v := by
  unfold bytesI
  refine List.map_congr_left fun i hi => byI_wrap ?_
  have := List.mem_range.1 hi
  omega

end Go.Proofs.Ytdgggnlbdoiloaa
end
section
namespace Go.Proofs.Ytdgggnlbdoiloaa
open Go Go.Esc

theorem num_Get_loop {v : Val} {nv : Nat} {l : List UInt8} {h : Heap} (hv : Has h v 1 nv (encB l)) {a w k : Nat} (hw : w ≤ 8) (haw : a + w ≤ l.length) (hl : l.length < 9223372036854775808) : ∀ d i m, i + d = w → d < m →
    num_Get_l0 k m v (.c (.i .i64 a)) (.c (.i .u64 (le ((l.drop a).take i)))) (.c (.i .i64 w)) (.c (.i .i64 i)) h = some (.t [.c (.i .u64 (le ((l.drop a).take w))), .c (.b true)], h)
  | d, i, 0, _, hm => by omega
  | 0, i, m + 1, hi, hm => by
    have e : i = w := by omega
    subst e
    rw [num_Get_l0_eq]
    simp
  | d + 1, i, m + 1, hi, hm => by
    have ih := num_Get_loop hv (k := k) hw haw hl d (i + 1) m (by omega) (by omega)
    have hnv : l.length = nv := by simpa [encB_length] using hv.length
    obtain ⟨id, off, rfl, hid, h1, h2⟩ := hv.sl (by omega)
    have hx := h1 (a + i) (.i .u8 l[a + i].toNat) (by rw [encB_get, List.getElem?_eq_getElem (by omega)]; rfl)
    have hb := l[a + i].toNat_lt
    have hlen : ((l.drop a).take i).length = i := by simp; omega
    have hle := le_lt ((l.drop a).take i)
    rw [hlen] at hle
    have hp := pow256_le (show i ≤ 8 by omega)
    have hbp := byte_pow_lt (x := l[a + i]) (show i < 8 by omega)
    have e2 : IntKind.wrap .i64 (8 * (i : Int)) = 8 * i := wrap_i64 (by omega) (by omega)
    have e3 : IntKind.wrap .u64 (8 * (i : Int)) = 8 * i := wrap_u64 (by omega) (by omega)
    have e5 : IntKind.wrap .u64 (l[a + i].toNat : Int) = l[a + i].toNat := wrap_u64 (by omega) (by omega)
    have e6 := shl_step (k := .u64) (x := l[a + i]) (show i < 8 by omega) (wrap_u64 (by omega) (by omega)) rfl
    have e7 : abin .or (.c (.i .u64 (le ((l.drop a).take i) : Nat))) (.c (.i .u64 ((l[a + i].toNat * 256 ^ i : Nat) : Int))) = some (.c (.i .u64 (le ((l.drop a).take (i + 1)) : Nat))) := by
      rw [or_u64 (by omega) (by omega), take_succ_get (by omega), ← or_step, hlen]
    have ea : aiAddrL 1 (.c (.sl id off nv 1)) (.c (.i .i64 ((a + i : Nat) : Int))) = some (.c (.p id (off + (a + i)))) := by rw [iAddrL_of (by omega)]; simp
    have h1' : (i : Int) < w := by omega
    rw [num_Get_l0_eq]
    simp only [esc, h1', wi_add (show a + i < 9223372036854775808 by omega), e2, e3, ea, hx, e5, e6, e7, wi_succ (show i + 1 < 9223372036854775808 by omega)]
    exact ih


theorem num_Get_eq {v : Val} {nv : Nat} {l : List UInt8} {h : Heap} (hv : Has h v 1 nv (encB l)) {a w : Int} (hl : l.length < 9223372036854775808) :
    S_num_Get [v, .c (.i .i64 a), .c (.i .i64 w)] h = some (.t [.c (.i .u64 ((getN l a w).getD 0 : Nat)), .c (.b (getN l a w).isSome)], h) := by
  refine S_num_Get_flat (n := w.toNat + 1) (h2 := ro h) ?_ (by simp)
  rw [R_num_Get_eq]
  have hv' := hv.ro
  have hnv : l.length = nv := by simpa [encB_length] using hv.length
  unfold getN
  by_cases c1 : 8 < w
  · have c1' : ¬ w ≤ 8 := by omega
    simp [c1, c1']
  · have c1' : w ≤ 8 := by omega
    cases c2 : thereI a w l.length with
    | false => simp [c1, hv'.len, ← hnv, there_eq (show (l.length : Int) < 9223372036854775808 by omega), c2]
    | true =>
      simp [c1, c1', hv'.len, ← hnv, there_eq (show (l.length : Int) < 9223372036854775808 by omega), c2]
      rw [thereI_true] at c2
      have := num_Get_loop hv' (a := a.toNat) (w := w.toNat) (k := w.toNat + 1) (by omega) (by omega) hl w.toNat 0 (w.toNat + 1) (by omega) (by omega)
      simp only [show ((a.toNat : Nat) : Int) = a by omega, show ((w.toNat : Nat) : Int) = w by omega] at this
      simpa [le] using this

theorem num_Put_loop {l : List UInt8} {b id a w k : Nat} {v : Int} (hw : w ≤ 8) (haw : a + w ≤ l.length) (hl : l.length < 9223372036854775808) : ∀ d i m (h : Heap), i + d = w → d < m → b ≤ id → b ≤ h.length → rd h id = some ⟨encB (layB l a (bytesI i v)), true⟩ →
    ∃ h', num_Put_l0 k m (.c (.i .i64 a)) (.c (.i .u64 v)) (.c (.sl id 0 l.length 1)) (.c (.i .i64 w)) (.c (.i .i64 i)) h = some (.t [.c (.sl id 0 l.length 1), .c (.b true)], h') ∧ rd h' id = some ⟨encB (layB l a (bytesI w v)), true⟩
  | d, i, 0, h, _, hm, _, _, _ => by omega
  | 0, i, m + 1, h, hi, hm, _, _, hr => by
    have e : i = w := by omega
    subst e
    have h1' : ¬ (i : Int) < i := by omega
    rw [num_Put_l0_eq]
    exact ⟨h, by simp only [esc, h1'], hr⟩
  | d + 1, i, m + 1, h, hi, hm, hb, hbl, hr => by
    have e2 : IntKind.wrap .i64 (8 * (i : Int)) = 8 * i := wrap_i64 (by omega) (by omega)
    have e3 : IntKind.wrap .u64 (8 * (i : Int)) = 8 * i := wrap_u64 (by omega) (by omega)
    have e4 : abin .shr (.c (.i .u64 v)) (.c (.i .u64 (8 * (i : Int)))) = some (.c (.i .u64 (v / 2 ^ (Nat.min (8 * (i : Int)).toNat 64)))) := abin_shr (by omega)
    have ea : aiAddrL 1 (.c (.sl id 0 l.length 1)) (.c (.i .i64 ((a + i : Nat) : Int))) = some (.c (.p id (a + i))) := by rw [iAddrL_of (by omega)]; simp
    have hst := store1_of (off := a + i) (x := .i .u8 (byI v i).toNat) hr (by rw [encB_length, layB_length (by simp; omega)]; omega)
    have e5 : (layB l a (bytesI i v)).set (a + i) (byI v i) = layB l a (bytesI (i + 1) v) := by
      rw [bytesI_succ]
      have := layB_snoc (l := l) (xs := bytesI i v) (a := a) (x := byI v i) (by simp; omega)
      simpa using this
    rw [encB_set, e5] at hst
    obtain ⟨h', ih, hr'⟩ := num_Put_loop (b := b) (k := k) (v := v) hw haw hl d (i + 1) m (h.set id (some ⟨encB (layB l a (bytesI (i + 1) v)), true⟩)) (by omega) (by omega) hb (by simpa using hbl) (rd_set_same (rd_lt hr))
    have h1' : (i : Int) < w := by omega
    rw [num_Put_l0_eq]
    exact ⟨h', by simp only [esc, h1', wi_add (show a + i < 9223372036854775808 by omega), e2, e3, e4, byte_step (v := v) (show i < 8 by omega), ea, hst, wi_succ (show i + 1 < 9223372036854775808 by omega)]; exact ih, hr'⟩

def putN (l : List UInt8) (a w v : Int) : Option (List UInt8) := if w ≤ 8 ∧ thereI a w l.length = true then some (layB l a.toNat (bytesI w.toNat v)) else none

theorem num_Put_eq {x : Val} {nv : Nat} {l : List UInt8} {h : Heap} (hv : Has h x 1 nv (encB l)) {a w v : Int} (hl : l.length ≤ 1073741824) :
    S_num_Put [x, .c (.i .i64 a), .c (.i .i64 w), .c (.i .u64 v)] h = some (.t [.c (.sl h.length 0 ((putN l a w v).getD []).length 1), .c (.b (putN l a w v).isSome)], h ++ [some ⟨encB ((putN l a w v).getD []), true⟩]) := by
  have hnv : l.length = nv := by simpa [encB_length] using hv.length
  have key : ∀ g, Has g x 1 nv (encB l) → ∃ id g', R_num_Put (w.toNat + 1) [x, .c (.i .i64 a), .c (.i .i64 w), .c (.i .u64 v)] g = some (.t [.c (.sl id 0 ((putN l a w v).getD []).length 1), .c (.b (putN l a w v).isSome)], g') ∧ g.length ≤ id ∧ rd g' id = some ⟨encB ((putN l a w v).getD []), true⟩ := by
    intro g hv
    rw [R_num_Put_eq]
    have hvm := hv.more [some ⟨[], true⟩]
    unfold putN
    by_cases c1 : 8 < w
    · rw [if_neg (by omega)]
      exact ⟨_, _, by simp only [esc, c1]; rfl, by simp, by simp; rfl⟩
    · cases c2 : thereI a w l.length with
      | false =>
        rw [if_neg (by simp)]
        exact ⟨_, _, by simp only [esc, c1, hvm.len, ← hnv, there_eq (show (l.length : Int) < 9223372036854775808 by omega), c2]; rfl, by simp, by simp; rfl⟩
      | true =>
        rw [if_pos ⟨by omega, rfl⟩]
        have c3 := thereI_true.1 c2
        have hvm2 := hv.more [some ⟨[], true⟩, some ⟨[], true⟩]
        have e1 : aapp (g ++ [some ⟨[], true⟩, some ⟨[], true⟩]) 1 (.c (.sl (g.length + 1) 0 0 1)) x = some (.c (.sl (g.length + 2) 0 l.length 1), g ++ [some ⟨[], true⟩, none, some ⟨encB l, true⟩]) := by
          simp [aapp, hvm2.add, encB_length]
          exact hl
        obtain ⟨g', e2, hr⟩ := num_Put_loop (l := l) (b := g.length) (id := g.length + 2) (a := a.toNat) (w := w.toNat) (k := w.toNat + 1) (v := v) (by omega) (by omega) (by omega) w.toNat 0 (w.toNat + 1) (g ++ [some ⟨[], true⟩, none, some ⟨encB l, true⟩]) (by omega) (by omega) (by omega) (by simp) (by simp [bytesI, layB_nil])
        simp only [show ((a.toNat : Nat) : Int) = a by omega, show ((w.toNat : Nat) : Int) = w by omega] at e2
        have hlen : ((some (layB l a.toNat (bytesI w.toNat v))).getD []).length = l.length := by
          simp only [Option.getD_some]; rw [layB_length (by simp; omega)]
        rw [hlen]
        exact ⟨g.length + 2, g', by simp only [esc, c1, hvm.len, ← hnv, there_eq (show (l.length : Int) < 9223372036854775808 by omega), c2, afill, e1]; exact e2, by omega, hr⟩
  obtain ⟨id, g', e, hb, hr⟩ := key _ hv.ro
  have hb' : h.length ≤ id := by simpa [ro_length] using hb
  have := S_num_Put_tidy e (v2 := .t [.c (.sl h.length 0 ((putN l a w v).getD []).length 1), .c (.b (putN l a w v).isSome)]) (ids := [id]) (by
    have e2 : canonC g' h.length [id] [.b (putN l a w v).isSome] = some ([.b (putN l a w v).isSome], [id]) := canonC_flat (by simp)
    simp [canonV, canonP, canonC, hb', show ¬ id < h.length by omega, newRow_of hr (by simp : flats (encB ((putN l a w v).getD [])) = true)])
  rw [this]
  simp [hr]

end Go.Proofs.Ytdgggnlbdoiloaa
end
section
namespace Go.Proofs.Ytdgggnlbdoiloaa
open Go Go.Esc

def padB (n : Nat) (l : List UInt8) : List UInt8 := l ++ zeros (n - l.length)
theorem padB_length {n : Nat} {l : List UInt8} (h : l.length ≤ n) : (padB n l).length = n := by
  unfold padB; rw [List.length_append, zeros_length]; omega
theorem padB_nil {n : Nat} : padB n [] = zeros n := by simp [padB]

theorem padB_lay {l xs : List UInt8} {a : Nat} (h1 : l.length ≤ a) (h2 : a + xs.length ≤ 256) : layB (padB 256 l) a xs = padB 256 (l ++ zeros (a - l.length) ++ xs) := by
  unfold layB padB
  have e1 : (l ++ zeros (256 - l.length)).take a = l ++ zeros (a - l.length) := by
    rw [List.take_append, List.take_of_length_le h1]
    unfold zeros
    rw [List.take_replicate, Nat.min_eq_left (by omega)]
  have e2 : (l ++ zeros (256 - l.length)).drop (a + xs.length) = zeros (256 - (l ++ zeros (a - l.length) ++ xs).length) := by
    rw [List.drop_append, List.drop_of_length_le (by omega), List.nil_append]
    unfold zeros
    rw [List.drop_replicate]
    congr 1
    simp
    omega
  rw [e1, e2]
  simp only [List.append_assoc]

theorem withB_pad {l : List UInt8} {a w : Nat} {v : Int} (h1 : l.length ≤ a) (h2 : a + w ≤ 256) (hw : 1 ≤ w) (hw4 : w ≤ 4) : withB (padB 256 l) a w v = padB 256 (l ++ zeros (a - l.length) ++ bytesI w v) := by
  unfold withB
  rw [if_pos ⟨by omega, thereI_true.2 (by omega)⟩]
  simp only [Int.toNat_natCast]
  exact padB_lay h1 (by simp; exact h2)

def fieldN (b : List UInt8) (a w : Nat) : Int := ((le ((b.drop a).take w) : Nat) : Int)
theorem of_pad {b : List UInt8} (hb : b.length ≤ 256) : layI (zeros 256) 0 b = padB 256 b := by
  unfold layI layB padB
  rw [if_pos (by omega)]
  simp only [Int.toNat_zero, List.take_zero, List.nil_append, Nat.sub_zero, Nat.zero_add]
  rw [List.take_of_length_le hb]
  unfold zeros
  rw [List.drop_replicate]

theorem at_pad {b : List UInt8} {a w : Nat} (h1 : a + w ≤ b.length) (h2 : b.length ≤ 256) (hw : 1 ≤ w) (hw4 : w ≤ 4) : ((atN (padB 256 b) a w : Nat) : Int) = fieldN b a w := by
  unfold atN fieldN padB
  rw [if_pos ⟨by omega, thereI_true.2 (by omega)⟩]
  simp only [Int.toNat_natCast]
  rw [List.drop_append_of_le_length (by omega), List.take_append_of_le_length (by simp; omega)]


end Go.Proofs.Ytdgggnlbdoiloaa
end
noncomputable section
namespace Go.Proofs.Ytdgggnlbdoiloaa
open Go Go.Esc
set_option maxRecDepth 100000
def mix_More_o0 : List AOper := [aO 4 (.mv (.v (.c (.i .u32 0))))]
def mix_More_c0 : ACode := .ops mix_More_o0
def mix_More_o1 : List AOper := [aO 6 (.mv (.t 1)), aO 7 (.lenS (.t 6)), aO 8 (.mv (.v (.c (.i .i64 0))))]
def mix_More_c1 : ACode := .ops mix_More_o1
def mix_More_o2 : List AOper := [aO 9 (.bin .lss (.t 8) (.t 7))]
def mix_More_c2 : ACode := .ops mix_More_o2
def mix_More_c3 : ACode := .cond (.t 9) .skip (.exit 0)
def mix_More_o3 : List AOper := [aO 10 (.mv (.t 8)), aO 5 (.mv (.t 10))]
def mix_More_c4 : ACode := .ops mix_More_o3
def mix_More_o4 : List AOper := [aO 11 (.mv (.t 0)), aO 12 (.mv (.t 1)), aO 13 (.mv (.t 5)), aO 14 (.idxS (.t 12) (.t 13)), aO 15 (.conv .u32 (.t 14)), aO 16 (.bin .xor (.t 11) (.t 15)), aO 17 (.bin .mul (.t 16) (.v (.c (.i .u32 16777619)))), aO 0 (.mv (.t 17))]
def mix_More_c5 : ACode := .ops mix_More_o4
def mix_More_c6 : ACode := .seq [0, 1, 5, 7, 8] mix_More_c4 mix_More_c5
def mix_More_c7 : ACode := .block 1 mix_More_c6
def mix_More_o5 : List AOper := [aO 18 (.bin .add (.t 8) (.v (.c (.i .i64 1)))), aO 8 (.mv (.t 18))]
def mix_More_c8 : ACode := .ops mix_More_o5
def mix_More_c9 : ACode := .seq [0, 1, 7, 8] mix_More_c7 mix_More_c8
def mix_More_c10 : ACode := .seq [0, 1, 7, 8] mix_More_c3 mix_More_c9
def mix_More_c11 : ACode := .seq [0, 1, 7, 8, 9] mix_More_c2 mix_More_c10
def mix_More_c12 : ACode := .loop [0, 1, 7, 8] mix_More_c11
def mix_More_c13 : ACode := .block 0 mix_More_c12
def mix_More_c14 : ACode := .seq [0, 1, 7, 8] mix_More_c1 mix_More_c13
def mix_More_o6 : List AOper := [aO 19 (.mv (.t 0)), aO 4 (.mv (.t 19))]
def mix_More_c15 : ACode := .ops mix_More_o6
def mix_More_c16 : ACode := .seq [4] mix_More_c15 .ret
def mix_More_c17 : ACode := .seq [0] mix_More_c14 mix_More_c16
def mix_More_c18 : ACode := .seq [0, 1] mix_More_c0 mix_More_c17
def A_mix_More : AFn := ⟨mix_More_c18, [.tmp 4]⟩
def E_mix_More : Sums := disp0
def mix_More_c0_d (n : Nat) : SmV := smOps E_mix_More mix_More_o0
def mix_More_c1_d (n : Nat) : SmV := smOps E_mix_More mix_More_o1
def mix_More_c2_d (n : Nat) : SmV := smOps E_mix_More mix_More_o2
def mix_More_c3_d (n : Nat) : SmV := smCond (.t 9) smSkip (smExit 0)
def mix_More_c4_d (n : Nat) : SmV := smOps E_mix_More mix_More_o3
def mix_More_c5_d (n : Nat) : SmV := smOps E_mix_More mix_More_o4
def mix_More_c6_d (n : Nat) : SmV := smSeq [0, 1, 5, 7, 8] (mix_More_c4_d n) (mix_More_c5_d n)
def mix_More_c7_d (n : Nat) : SmV := smBlock 1 (mix_More_c6_d n)
def mix_More_c8_d (n : Nat) : SmV := smOps E_mix_More mix_More_o5
def mix_More_c9_d (n : Nat) : SmV := smSeq [0, 1, 7, 8] (mix_More_c7_d n) (mix_More_c8_d n)
def mix_More_c10_d (n : Nat) : SmV := smSeq [0, 1, 7, 8] (mix_More_c3_d n) (mix_More_c9_d n)
def mix_More_c11_d (n : Nat) : SmV := smSeq [0, 1, 7, 8, 9] (mix_More_c2_d n) (mix_More_c10_d n)
def mix_More_c12_d (n : Nat) : SmV := smLoop n [0, 1, 7, 8] (mix_More_c11_d n)
def mix_More_c13_d (n : Nat) : SmV := smBlock 0 (mix_More_c12_d n)
def mix_More_c14_d (n : Nat) : SmV := smSeq [0, 1, 7, 8] (mix_More_c1_d n) (mix_More_c13_d n)
def mix_More_c15_d (n : Nat) : SmV := smOps E_mix_More mix_More_o6
def mix_More_c16_d (n : Nat) : SmV := smSeq [4] (mix_More_c15_d n) smRet
def mix_More_c17_d (n : Nat) : SmV := smSeq [0] (mix_More_c14_d n) (mix_More_c16_d n)
def mix_More_c18_d (n : Nat) : SmV := smSeq [0, 1] (mix_More_c0_d n) (mix_More_c17_d n)
def mix_More_k0 (n : Nat) : AExit → Env → Heap → OptV := fun x e h => match x with | .normal => hold ((mix_More_c16_d n) A_mix_More.fin (e.keep [0]) h) | .exit id => A_mix_More.fin (.exit id) e h | .ret => A_mix_More.fin .ret e h
def mix_More_k1 (n : Nat) : AExit → Env → Heap → OptV := fun x e h => match x with | .exit i => bif Nat.beq i 0 then (mix_More_k0 n) .normal e h else (mix_More_k0 n) (.exit i) e h | .normal => (mix_More_k0 n) .normal e h | .ret => (mix_More_k0 n) .ret e h
def mix_More_l0 (n m : Nat) (x0 x1 x7 x8 : Val) (h : Heap) : OptV := around (mix_More_c11_d n) [0, 1, 7, 8] (mix_More_k1 n) m [(0, x0), (1, x1), (7, x7), (8, x8)] h
def R_mix_More (n : Nat) (args : List Val) (h : Heap) : OptV := (mix_More_c18_d n) A_mix_More.fin (params 0 args) h
theorem R_mix_More_eq (n : Nat) (a0 a1 : Val) (h : Heap) : R_mix_More n [a0, a1] h = bnd (alenS a1) fun v1 => mix_More_l0 n n a0 a1 v1 (.c (.i .i64 0)) h := by kernel_rfl
theorem mix_More_l0_eq (n m : Nat) (x0 x1 x7 x8 : Val) (h : Heap) : mix_More_l0 n (m + 1) x0 x1 x7 x8 h = bnd (abin .lss x8 x7) fun v2 => cnd v2 (bnd (aidxS x1 x8) fun v3 => bnd (aconv .u32 v3) fun v4 => bnd (abin .xor x0 v4) fun v5 => bnd (abin .mul v5 (.c (.i .u32 16777619))) fun v6 => bnd (abin .add x8 (.c (.i .i64 1))) fun v7 => mix_More_l0 n m v6 x1 x7 v7 h) (some (x0, h)) := by kernel_rfl
theorem K_mix_More : FnK Try.prog 132 A_mix_More E_mix_More R_mix_More := .mk' (sound0) Try.func132 (by kernel_rfl) (by intro n args h; kernel_rfl)
def S_mix_More : Fun := tidy (Lim A_mix_More E_mix_More)
theorem S_mix_More_ok : SOk Try.prog 132 S_mix_More := K_mix_More.sok
theorem S_mix_More_flat {n : Nat} {args : List Val} {h h2 : Heap} {v : Val} (he : R_mix_More n args (ro h) = some (v, h2)) (hf : v.flat = true) : S_mix_More args h = some (v, h) := K_mix_More.flat he hf
def mix_Of_o0 : List AOper := [aO 2 (.mv (.v (.c (.i .u32 0))))]
def mix_Of_c0 : ACode := .ops mix_Of_o0
def mix_Of_o1 : List AOper := [aO 3 (.mv (.t 0)), aO 4 (.call 132 [(.v (.c (.i .u32 2166136261))), (.t 3)]), aO 2 (.mv (.t 4))]
def mix_Of_c1 : ACode := .ops mix_Of_o1
def mix_Of_c2 : ACode := .seq [2] mix_Of_c1 .ret
def mix_Of_c3 : ACode := .seq [0] mix_Of_c0 mix_Of_c2
def A_mix_Of : AFn := ⟨mix_Of_c3, [.tmp 2]⟩
def E_mix_Of : Sums := disp 132 S_mix_More disp0
def mix_Of_c0_d (n : Nat) : SmV := smOps E_mix_Of mix_Of_o0
def mix_Of_c1_d (n : Nat) : SmV := smOps E_mix_Of mix_Of_o1
def mix_Of_c2_d (n : Nat) : SmV := smSeq [2] (mix_Of_c1_d n) smRet
def mix_Of_c3_d (n : Nat) : SmV := smSeq [0] (mix_Of_c0_d n) (mix_Of_c2_d n)
def R_mix_Of (n : Nat) (args : List Val) (h : Heap) : OptV := (mix_Of_c3_d n) A_mix_Of.fin (params 0 args) h
theorem R_mix_Of_eq (n : Nat) (a0 : Val) (h : Heap) : R_mix_Of n [a0] h = bnd (S_mix_More [.c (.i .u32 2166136261), a0] h) fun p1 => some (p1.1, p1.2) := by kernel_rfl
theorem K_mix_Of : FnK Try.prog 99 A_mix_Of E_mix_Of R_mix_Of := .mk' (sound1 S_mix_More_ok sound0) Try.func99 (by kernel_rfl) (by intro n args h; kernel_rfl)
def S_mix_Of : Fun := tidy (Lim A_mix_Of E_mix_Of)
theorem S_mix_Of_ok : SOk Try.prog 99 S_mix_Of := K_mix_Of.sok
theorem S_mix_Of_flat {n : Nat} {args : List Val} {h h2 : Heap} {v : Val} (he : R_mix_Of n args (ro h) = some (v, h2)) (hf : v.flat = true) : S_mix_Of args h = some (v, h) := K_mix_Of.flat he hf
end Go.Proofs.Ytdgggnlbdoiloaa
end
noncomputable section
namespace Go.Proofs.Ytdgggnlbdoiloaa
open Go Go.Esc
set_option maxRecDepth 100000
def er02_More_o0 : List AOper := [aO 4 (.mv (.v (.c (.i .u64 0))))]
def er02_More_c0 : ACode := .ops er02_More_o0
def er02_More_o1 : List AOper := [aO 5 (.mv (.v (.c (.i .i64 0))))]
def er02_More_c1 : ACode := .ops er02_More_o1
def er02_More_o2 : List AOper := [aO 7 (.mv (.t 5)), aO 8 (.mv (.t 1)), aO 9 (.lenS (.t 8)), aO 10 (.bin .lss (.t 7) (.t 9))]
def er02_More_c2 : ACode := .ops er02_More_o2
def er02_More_c3 : ACode := .cond (.t 10) .skip (.exit 0)
def er02_More_c4 : ACode := .seq [0, 1, 5, 10] er02_More_c2 er02_More_c3
def er02_More_o3 : List AOper := [aO 13 (.mv (.t 0)), aO 14 (.bin .rem (.t 13) (.v (.c (.i .u64 256)))), aO 15 (.mv (.t 1)), aO 16 (.mv (.t 5)), aO 17 (.idxS (.t 15) (.t 16)), aO 18 (.conv .u64 (.t 17)), aO 19 (.bin .xor (.t 14) (.t 18)), aO 6 (.mv (.t 19))]
def er02_More_c5 : ACode := .ops er02_More_o3
def er02_More_o4 : List AOper := [aO 20 (.mv (.t 0)), aO 21 (.mv (.t 0)), aO 22 (.bin .rem (.t 21) (.v (.c (.i .u64 256)))), aO 23 (.bin .sub (.t 20) (.t 22)), aO 24 (.mv (.t 6)), aO 25 (.bin .add (.t 23) (.t 24)), aO 26 (.bin .mul (.t 25) (.v (.c (.i .u64 16777619)))), aO 27 (.bin .rem (.t 26) (.v (.c (.i .u64 4294967296)))), aO 0 (.mv (.t 27))]
def er02_More_c6 : ACode := .ops er02_More_o4
def er02_More_c7 : ACode := .seq [0, 1, 5, 6] er02_More_c5 er02_More_c6
def er02_More_c8 : ACode := .block 1 er02_More_c7
def er02_More_o5 : List AOper := [aO 11 (.mv (.t 5)), aO 12 (.bin .add (.t 11) (.v (.c (.i .i64 1)))), aO 5 (.mv (.t 12))]
def er02_More_c9 : ACode := .ops er02_More_o5
def er02_More_c10 : ACode := .seq [0, 1, 5] er02_More_c8 er02_More_c9
def er02_More_c11 : ACode := .seq [0, 1, 5] er02_More_c4 er02_More_c10
def er02_More_c12 : ACode := .loop [0, 1, 5] er02_More_c11
def er02_More_c13 : ACode := .block 0 er02_More_c12
def er02_More_c14 : ACode := .seq [0, 1, 5] er02_More_c1 er02_More_c13
def er02_More_o6 : List AOper := [aO 28 (.mv (.t 0)), aO 4 (.mv (.t 28))]
def er02_More_c15 : ACode := .ops er02_More_o6
def er02_More_c16 : ACode := .seq [4] er02_More_c15 .ret
def er02_More_c17 : ACode := .seq [0] er02_More_c14 er02_More_c16
def er02_More_c18 : ACode := .seq [0, 1] er02_More_c0 er02_More_c17
def A_er02_More : AFn := ⟨er02_More_c18, [.tmp 4]⟩
def E_er02_More : Sums := disp0
def er02_More_c0_d (n : Nat) : SmV := smOps E_er02_More er02_More_o0
def er02_More_c1_d (n : Nat) : SmV := smOps E_er02_More er02_More_o1
def er02_More_c2_d (n : Nat) : SmV := smOps E_er02_More er02_More_o2
def er02_More_c3_d (n : Nat) : SmV := smCond (.t 10) smSkip (smExit 0)
def er02_More_c4_d (n : Nat) : SmV := smSeq [0, 1, 5, 10] (er02_More_c2_d n) (er02_More_c3_d n)
def er02_More_c5_d (n : Nat) : SmV := smOps E_er02_More er02_More_o3
def er02_More_c6_d (n : Nat) : SmV := smOps E_er02_More er02_More_o4
def er02_More_c7_d (n : Nat) : SmV := smSeq [0, 1, 5, 6] (er02_More_c5_d n) (er02_More_c6_d n)
def er02_More_c8_d (n : Nat) : SmV := smBlock 1 (er02_More_c7_d n)
def er02_More_c9_d (n : Nat) : SmV := smOps E_er02_More er02_More_o5
def er02_More_c10_d (n : Nat) : SmV := smSeq [0, 1, 5] (er02_More_c8_d n) (er02_More_c9_d n)
def er02_More_c11_d (n : Nat) : SmV := smSeq [0, 1, 5] (er02_More_c4_d n) (er02_More_c10_d n)
def er02_More_c12_d (n : Nat) : SmV := smLoop n [0, 1, 5] (er02_More_c11_d n)
def er02_More_c13_d (n : Nat) : SmV := smBlock 0 (er02_More_c12_d n)
def er02_More_c14_d (n : Nat) : SmV := smSeq [0, 1, 5] (er02_More_c1_d n) (er02_More_c13_d n)
def er02_More_c15_d (n : Nat) : SmV := smOps E_er02_More er02_More_o6
def er02_More_c16_d (n : Nat) : SmV := smSeq [4] (er02_More_c15_d n) smRet
def er02_More_c17_d (n : Nat) : SmV := smSeq [0] (er02_More_c14_d n) (er02_More_c16_d n)
def er02_More_c18_d (n : Nat) : SmV := smSeq [0, 1] (er02_More_c0_d n) (er02_More_c17_d n)
def er02_More_k0 (n : Nat) : AExit → Env → Heap → OptV := fun x e h => match x with | .normal => hold ((er02_More_c16_d n) A_er02_More.fin (e.keep [0]) h) | .exit id => A_er02_More.fin (.exit id) e h | .ret => A_er02_More.fin .ret e h
def er02_More_k1 (n : Nat) : AExit → Env → Heap → OptV := fun x e h => match x with | .exit i => bif Nat.beq i 0 then (er02_More_k0 n) .normal e h else (er02_More_k0 n) (.exit i) e h | .normal => (er02_More_k0 n) .normal e h | .ret => (er02_More_k0 n) .ret e h
def er02_More_l0 (n m : Nat) (x0 x1 x5 : Val) (h : Heap) : OptV := around (er02_More_c11_d n) [0, 1, 5] (er02_More_k1 n) m [(0, x0), (1, x1), (5, x5)] h
def R_er02_More (n : Nat) (args : List Val) (h : Heap) : OptV := (er02_More_c18_d n) A_er02_More.fin (params 0 args) h
theorem R_er02_More_eq (n : Nat) (a0 a1 : Val) (h : Heap) : R_er02_More n [a0, a1] h = er02_More_l0 n n a0 a1 (.c (.i .i64 0)) h := by kernel_rfl
theorem er02_More_l0_eq (n m : Nat) (x0 x1 x5 : Val) (h : Heap) : er02_More_l0 n (m + 1) x0 x1 x5 h = bnd (alenS x1) fun v1 => bnd (abin .lss x5 v1) fun v2 => cnd v2 (bnd (abin .rem x0 (.c (.i .u64 256))) fun v3 => bnd (aidxS x1 x5) fun v4 => bnd (aconv .u64 v4) fun v5 => bnd (abin .xor v3 v5) fun v6 => bnd (abin .rem x0 (.c (.i .u64 256))) fun v7 => bnd (abin .sub x0 v7) fun v8 => bnd (abin .add v8 v6) fun v9 => bnd (abin .mul v9 (.c (.i .u64 16777619))) fun v10 => bnd (abin .rem v10 (.c (.i .u64 4294967296))) fun v11 => bnd (abin .add x5 (.c (.i .i64 1))) fun v12 => er02_More_l0 n m v11 x1 v12 h) (some (x0, h)) := by kernel_rfl
theorem K_er02_More : FnK Try.prog 158 A_er02_More E_er02_More R_er02_More := .mk' (sound0) Try.func158 (by kernel_rfl) (by intro n args h; kernel_rfl)
def S_er02_More : Fun := tidy (Lim A_er02_More E_er02_More)
theorem S_er02_More_ok : SOk Try.prog 158 S_er02_More := K_er02_More.sok
theorem S_er02_More_flat {n : Nat} {args : List Val} {h h2 : Heap} {v : Val} (he : R_er02_More n args (ro h) = some (v, h2)) (hf : v.flat = true) : S_er02_More args h = some (v, h) := K_er02_More.flat he hf
def er02_Of_o0 : List AOper := [aO 2 (.mv (.v (.c (.i .u64 0))))]
def er02_Of_c0 : ACode := .ops er02_Of_o0
def er02_Of_o1 : List AOper := [aO 3 (.mv (.t 0)), aO 4 (.call 158 [(.v (.c (.i .u64 2166136261))), (.t 3)]), aO 2 (.mv (.t 4))]
def er02_Of_c1 : ACode := .ops er02_Of_o1
def er02_Of_c2 : ACode := .seq [2] er02_Of_c1 .ret
def er02_Of_c3 : ACode := .seq [0] er02_Of_c0 er02_Of_c2
def A_er02_Of : AFn := ⟨er02_Of_c3, [.tmp 2]⟩
def E_er02_Of : Sums := disp 158 S_er02_More disp0
def er02_Of_c0_d (n : Nat) : SmV := smOps E_er02_Of er02_Of_o0
def er02_Of_c1_d (n : Nat) : SmV := smOps E_er02_Of er02_Of_o1
def er02_Of_c2_d (n : Nat) : SmV := smSeq [2] (er02_Of_c1_d n) smRet
def er02_Of_c3_d (n : Nat) : SmV := smSeq [0] (er02_Of_c0_d n) (er02_Of_c2_d n)
def R_er02_Of (n : Nat) (args : List Val) (h : Heap) : OptV := (er02_Of_c3_d n) A_er02_Of.fin (params 0 args) h
theorem R_er02_Of_eq (n : Nat) (a0 : Val) (h : Heap) : R_er02_Of n [a0] h = bnd (S_er02_More [.c (.i .u64 2166136261), a0] h) fun p1 => some (p1.1, p1.2) := by kernel_rfl
theorem K_er02_Of : FnK Try.prog 139 A_er02_Of E_er02_Of R_er02_Of := .mk' (sound1 S_er02_More_ok sound0) Try.func139 (by kernel_rfl) (by intro n args h; kernel_rfl)
def S_er02_Of : Fun := tidy (Lim A_er02_Of E_er02_Of)
theorem S_er02_Of_ok : SOk Try.prog 139 S_er02_Of := K_er02_Of.sok
theorem S_er02_Of_flat {n : Nat} {args : List Val} {h h2 : Heap} {v : Val} (he : R_er02_Of n args (ro h) = some (v, h2)) (hf : v.flat = true) : S_er02_Of args h = some (v, h) := K_er02_Of.flat he hf
end Go.Proofs.Ytdgggnlbdoiloaa
end
section
namespace Go.Proofs.Ytdgggnlbdoiloaa
open Go Go.Esc

def mixS (h : Nat) (c : UInt8) : Nat := ((h ^^^ c.toNat) * 16777619) % 4294967296
def mixFrom (h : Nat) (s : List UInt8) : Nat := s.foldl mixS h
def mixH (s : List UInt8) : Nat := mixFrom 2166136261 s

theorem mixS_lt {h : Nat} {c : UInt8} : mixS h c < 4294967296 := Nat.mod_lt _ (by omega)
theorem mixFrom_lt {s : List UInt8} : ∀ {h : Nat}, h < 4294967296 → mixFrom h s < 4294967296 := by
  induction s with
  | nil => intro h hh; exact hh
  | cons c s ih => intro h _; exact ih mixS_lt
theorem mixH_lt {s : List UInt8} : mixH s < 4294967296 := mixFrom_lt (by omega)

theorem wrap_u32_mod {a : Int} : IntKind.wrap .u32 a = a % 4294967296 := by
  simp only [IntKind.wrap, IntKind.bits, IntKind.signed, Bool.false_and]
  rfl

theorem mix_More_loop {s : List UInt8} (hs : s.length < 9223372036854775807) {q : Nat} {h : Heap} : ∀ (d i m H : Nat), i + d = s.length → d < m → H < 4294967296 →
    mix_More_l0 q m (.c (.i .u32 H)) (.c (.s s)) (.c (.i .i64 s.length)) (.c (.i .i64 i)) h = some (.c (.i .u32 ((mixFrom H (s.drop i) : Nat) : Int)), h)
  | d, i, 0, H, _, hm, _ => by omega
  | 0, i, m + 1, H, hi, hm, hH => by
    have c0 : ¬ (i : Int) < s.length := by omega
    rw [mix_More_l0_eq, List.drop_of_length_le (by omega)]
    simp only [esc, c0, mixFrom, List.foldl_nil]
  | d + 1, i, m + 1, H, hi, hm, hH => by
    have h2 : i < s.length := by omega
    have hb := s[i].toNat_lt
    have ih := mix_More_loop hs (q := q) (h := h) d (i + 1) m (mixS H s[i]) (by omega) (by omega) mixS_lt
    have c0 : (i : Int) < s.length := by omega
    have e1 : IntKind.wrap .u32 (s[i].toNat : Int) = s[i].toNat := wrap_u32 (by omega) (by omega)
    have e2 := xor_u32 (a := H) (b := s[i].toNat) hH (by omega)
    have e3 : IntKind.wrap .u32 (((H ^^^ s[i].toNat : Nat) : Int) * 16777619) = ((mixS H s[i] : Nat) : Int) := by
      rw [wrap_u32_mod]; unfold mixS; omega
    rw [mix_More_l0_eq, List.drop_eq_getElem_cons h2]
    simp only [esc, c0, idxS_of h2, e1, e2, e3, wi_succ (show i + 1 < 9223372036854775808 by omega)]
    exact ih

theorem mix_Of_eq {s : List UInt8} (hs : s.length < 9223372036854775807) {h : Heap} : S_mix_Of [.c (.s s)] h = some (.c (.i .u32 ((mixH s : Nat) : Int)), h) := by
  have hm : ∀ h, S_mix_More [.c (.i .u32 2166136261), .c (.s s)] h = some (.c (.i .u32 ((mixH s : Nat) : Int)), h) := fun h => by
    refine S_mix_More_flat (n := s.length + 1) (h2 := ro h) ?_ rfl
    rw [R_mix_More_eq]
    have := mix_More_loop hs (q := s.length + 1) (h := ro h) s.length 0 (s.length + 1) 2166136261 (by omega) (by omega) (by omega)
    simp only [esc]
    exact this
  refine S_mix_Of_flat (n := 0) (h2 := ro h) ?_ rfl
  rw [R_mix_Of_eq]
  simp only [esc, hm]

theorem xor_low {h c : Nat} (hc : c < 256) : h - h % 256 + (h % 256 ^^^ c) = h ^^^ c := by
  have e1 : (h ^^^ c) / 256 = h / 256 := by
    have := Nat.xor_div_two_pow (a := h) (b := c) (n := 8)
    rw [show (2 : Nat) ^ 8 = 256 from rfl, Nat.div_eq_of_lt hc, Nat.xor_zero] at this
    exact this
  have e2 : (h ^^^ c) % 256 = h % 256 ^^^ c := by
    have := Nat.xor_mod_two_pow (a := h) (b := c) (n := 8)
    rw [show (2 : Nat) ^ 8 = 256 from rfl, Nat.mod_eq_of_lt hc] at this
    exact this
  have h1 := Nat.div_add_mod (h ^^^ c) 256
  have h2 := Nat.div_add_mod h 256
  rw [e1, e2] at h1
  omega

theorem ref02_More_loop {s : List UInt8} (hs : s.length < 9223372036854775807) {q : Nat} {h : Heap} : ∀ (d i m H : Nat), i + d = s.length → d < m → H < 4294967296 →
    er02_More_l0 q m (.c (.i .u64 H)) (.c (.s s)) (.c (.i .i64 i)) h = some (.c (.i .u64 ((mixFrom H (s.drop i) : Nat) : Int)), h)
  | d, i, 0, H, _, hm, _ => by omega
  | 0, i, m + 1, H, hi, hm, hH => by
    have c0 : ¬ (i : Int) < s.length := by omega
    rw [er02_More_l0_eq, List.drop_of_length_le (by omega)]
    simp only [esc, c0, mixFrom, List.foldl_nil]
  | d + 1, i, m + 1, H, hi, hm, hH => by
    have h2 : i < s.length := by omega
    have hb := s[i].toNat_lt
    have ih := ref02_More_loop hs (q := q) (h := h) d (i + 1) m (mixS H s[i]) (by omega) (by omega) mixS_lt
    have c0 : (i : Int) < s.length := by omega
    have hx : (H ^^^ s[i].toNat) < 2 ^ 32 := Nat.xor_lt_two_pow (by simpa using hH) (by omega)
    have e0 : abin .rem (.c (.i .u64 (H : Int))) (.c (.i .u64 256)) = some (.c (.i .u64 ((H % 256 : Nat) : Int))) := by
      rw [rem_i (by omega) (by omega)]; simp
    have e1 : IntKind.wrap .u64 (s[i].toNat : Int) = s[i].toNat := wrap_u64 (by omega) (by omega)
    have e2 : abin .xor (.c (.i .u64 ((H % 256 : Nat) : Int))) (.c (.i .u64 (s[i].toNat : Int))) = some (.c (.i .u64 ((H % 256 ^^^ s[i].toNat : Nat) : Int))) := by
      rw [abin_xor]
      have h1 : (IntKind.u64).bits = 64 := rfl
      have h3 : (H % 256 ^^^ s[i].toNat) < 2 ^ 64 := Nat.xor_lt_two_pow (by omega) (by omega)
      rw [h1]
      simp only [BitVec.ofInt_natCast, BitVec.toNat_xor, BitVec.toNat_ofNat]
      rw [Nat.mod_eq_of_lt (show H % 256 < 2 ^ 64 by omega), Nat.mod_eq_of_lt (show s[i].toNat < 2 ^ 64 by omega)]
      exact congrArg some (congrArg Val.c (congrArg (Cell.i .u64) (wrap_u64 (by omega) (by omega))))
    have hl := xor_low (h := H) (c := s[i].toNat) (by omega)
    have e3 : IntKind.wrap .u64 ((H : Int) - ((H % 256 : Nat) : Int)) = ((H - H % 256 : Nat) : Int) := by rw [wrap_u64 (by omega) (by omega)]; omega
    have e4 : IntKind.wrap .u64 (((H - H % 256 : Nat) : Int) + ((H % 256 ^^^ s[i].toNat : Nat) : Int)) = ((H ^^^ s[i].toNat : Nat) : Int) := by
      have e : ((H - H % 256 : Nat) : Int) + ((H % 256 ^^^ s[i].toNat : Nat) : Int) = ((H ^^^ s[i].toNat : Nat) : Int) := by rw [← hl]; omega
      rw [e]; exact wrap_u64 (by omega) (by omega)
    have e5 : IntKind.wrap .u64 (((H ^^^ s[i].toNat : Nat) : Int) * 16777619) = (((H ^^^ s[i].toNat) * 16777619 : Nat) : Int) := by
      have e : ((H ^^^ s[i].toNat : Nat) : Int) * 16777619 = (((H ^^^ s[i].toNat) * 16777619 : Nat) : Int) := by omega
      rw [e]; exact wrap_u64 (by omega) (by omega)
    have e6 : abin .rem (.c (.i .u64 (((H ^^^ s[i].toNat) * 16777619 : Nat) : Int))) (.c (.i .u64 4294967296)) = some (.c (.i .u64 ((mixS H s[i] : Nat) : Int))) := by
      rw [rem_i (a := (((H ^^^ s[i].toNat) * 16777619 : Nat) : Int)) (b := 4294967296) (by omega) (by omega)]
      unfold mixS
      exact congrArg some (congrArg Val.c (congrArg (Cell.i .u64) (by omega)))
    rw [er02_More_l0_eq, List.drop_eq_getElem_cons h2]
    simp only [esc, c0, e0, idxS_of h2, e1, e2, e3, e4, e5, e6, wi_succ (show i + 1 < 9223372036854775808 by omega)]
    exact ih

theorem ref02_Of_eq {s : List UInt8} (hs : s.length < 9223372036854775807) {h : Heap} : S_er02_Of [.c (.s s)] h = some (.c (.i .u64 ((mixH s : Nat) : Int)), h) := by
  have hm : ∀ h, S_er02_More [.c (.i .u64 2166136261), .c (.s s)] h = some (.c (.i .u64 ((mixH s : Nat) : Int)), h) := fun h => by
    refine S_er02_More_flat (n := s.length + 1) (h2 := ro h) ?_ rfl
    rw [R_er02_More_eq]
    exact ref02_More_loop hs (q := s.length + 1) (h := ro h) s.length 0 (s.length + 1) 2166136261 (by omega) (by omega) (by omega)
  refine S_er02_Of_flat (n := 0) (h2 := ro h) ?_ rfl
  rw [R_er02_Of_eq]
  simp only [esc, hm]

end Go.Proofs.Ytdgggnlbdoiloaa
end
noncomputable section
namespace Go.Proofs.Ytdgggnlbdoiloaa
open Go Go.Esc
set_option maxRecDepth 100000
def super_Check_o0 : List AOper := [aO 1 (.box (.t 0)), aO 2 (.mv (.v (.c (.i .i64 0))))]
def super_Check_c0 : ACode := .ops super_Check_o0
def super_Check_o1 : List AOper := [aO 4 (.fAddr (.t 1) 0), aO 5 (.load1 (.t 4)), aO 6 (.bin .lss (.t 5) (.v (.c (.i .i64 16)))), aO 3 (.mv (.t 6))]
def super_Check_c1 : ACode := .ops super_Check_o1
def super_Check_o2 : List AOper := [aO 7 (.fAddr (.t 1) 0), aO 8 (.load1 (.t 7)), aO 9 (.bin .gtr (.t 8) (.v (.c (.i .i64 512)))), aO 3 (.mv (.t 9))]
def super_Check_c2 : ACode := .ops super_Check_o2
def super_Check_c3 : ACode := .cond (.t 3) .skip super_Check_c2
def super_Check_c4 : ACode := .seq [1, 3] super_Check_c1 super_Check_c3
def super_Check_o3 : List AOper := [aO 2 (.mv (.v (.c (.i .i64 1))))]
def super_Check_c5 : ACode := .ops super_Check_o3
def super_Check_c6 : ACode := .seq [2] super_Check_c5 .ret
def super_Check_o4 : List AOper := [aO 11 (.fAddr (.t 1) 1), aO 12 (.load1 (.t 11)), aO 13 (.bin .lss (.t 12) (.v (.c (.i .i64 8)))), aO 10 (.mv (.t 13))]
def super_Check_c7 : ACode := .ops super_Check_o4
def super_Check_o5 : List AOper := [aO 14 (.fAddr (.t 1) 1), aO 15 (.load1 (.t 14)), aO 16 (.bin .gtr (.t 15) (.v (.c (.i .i64 128)))), aO 10 (.mv (.t 16))]
def super_Check_c8 : ACode := .ops super_Check_o5
def super_Check_o6 : List AOper := [aO 17 (.fAddr (.t 1) 1), aO 18 (.load1 (.t 17)), aO 19 (.bin .rem (.t 18) (.v (.c (.i .i64 8)))), aO 20 (.bin .neq (.t 19) (.v (.c (.i .i64 0)))), aO 10 (.mv (.t 20))]
def super_Check_c9 : ACode := .ops super_Check_o6
def super_Check_c10 : ACode := .cond (.t 10) .skip super_Check_c9
def super_Check_c11 : ACode := .seq [1, 10] super_Check_c8 super_Check_c10
def super_Check_c12 : ACode := .cond (.t 10) .skip super_Check_c11
def super_Check_c13 : ACode := .seq [1, 10] super_Check_c7 super_Check_c12
def super_Check_o7 : List AOper := [aO 2 (.mv (.v (.c (.i .i64 1))))]
def super_Check_c14 : ACode := .ops super_Check_o7
def super_Check_c15 : ACode := .seq [2] super_Check_c14 .ret
def super_Check_o8 : List AOper := [aO 22 (.fAddr (.t 1) 1), aO 23 (.load1 (.t 22)), aO 24 (.bin .quo (.t 23) (.v (.c (.i .i64 8)))), aO 25 (.bin .add (.v (.c (.i .i64 2))) (.t 24)), aO 26 (.fAddr (.t 1) 0), aO 27 (.load1 (.t 26)), aO 28 (.bin .geq (.t 25) (.t 27)), aO 21 (.mv (.t 28))]
def super_Check_c16 : ACode := .ops super_Check_o8
def super_Check_o9 : List AOper := [aO 2 (.mv (.v (.c (.i .i64 1))))]
def super_Check_c17 : ACode := .ops super_Check_o9
def super_Check_c18 : ACode := .seq [2] super_Check_c17 .ret
def super_Check_c19 : ACode := .cond (.t 21) super_Check_c18 .skip
def super_Check_c20 : ACode := .seq [21] super_Check_c16 super_Check_c19
def super_Check_c21 : ACode := .cond (.t 10) super_Check_c15 super_Check_c20
def super_Check_c22 : ACode := .seq [1, 10] super_Check_c13 super_Check_c21
def super_Check_c23 : ACode := .cond (.t 3) super_Check_c6 super_Check_c22
def super_Check_c24 : ACode := .seq [1, 3] super_Check_c4 super_Check_c23
def super_Check_c25 : ACode := .block 0 super_Check_c24
def super_Check_o10 : List AOper := [aO 2 (.mv (.v (.c (.i .i64 0))))]
def super_Check_c26 : ACode := .ops super_Check_o10
def super_Check_c27 : ACode := .seq [2] super_Check_c26 .ret
def super_Check_c28 : ACode := .seq [] super_Check_c25 super_Check_c27
def super_Check_c29 : ACode := .seq [1] super_Check_c0 super_Check_c28
def A_super_Check : AFn := ⟨super_Check_c29, [.tmp 2]⟩
def E_super_Check : Sums := disp0
def super_Check_c0_d (n : Nat) : SmV := smOps E_super_Check super_Check_o0
def super_Check_c1_d (n : Nat) : SmV := smOps E_super_Check super_Check_o1
def super_Check_c2_d (n : Nat) : SmV := smOps E_super_Check super_Check_o2
def super_Check_c3_d (n : Nat) : SmV := smCond (.t 3) smSkip (super_Check_c2_d n)
def super_Check_c4_d (n : Nat) : SmV := smSeq [1, 3] (super_Check_c1_d n) (super_Check_c3_d n)
def super_Check_c5_d (n : Nat) : SmV := smOps E_super_Check super_Check_o3
def super_Check_c6_d (n : Nat) : SmV := smSeq [2] (super_Check_c5_d n) smRet
def super_Check_c7_d (n : Nat) : SmV := smOps E_super_Check super_Check_o4
def super_Check_c8_d (n : Nat) : SmV := smOps E_super_Check super_Check_o5
def super_Check_c9_d (n : Nat) : SmV := smOps E_super_Check super_Check_o6
def super_Check_c10_d (n : Nat) : SmV := smCond (.t 10) smSkip (super_Check_c9_d n)
def super_Check_c11_d (n : Nat) : SmV := smSeq [1, 10] (super_Check_c8_d n) (super_Check_c10_d n)
def super_Check_c12_d (n : Nat) : SmV := smCond (.t 10) smSkip (super_Check_c11_d n)
def super_Check_c13_d (n : Nat) : SmV := smSeq [1, 10] (super_Check_c7_d n) (super_Check_c12_d n)
def super_Check_c14_d (n : Nat) : SmV := smOps E_super_Check super_Check_o7
def super_Check_c15_d (n : Nat) : SmV := smSeq [2] (super_Check_c14_d n) smRet
def super_Check_c16_d (n : Nat) : SmV := smOps E_super_Check super_Check_o8
def super_Check_c17_d (n : Nat) : SmV := smOps E_super_Check super_Check_o9
def super_Check_c18_d (n : Nat) : SmV := smSeq [2] (super_Check_c17_d n) smRet
def super_Check_c19_d (n : Nat) : SmV := smCond (.t 21) (super_Check_c18_d n) smSkip
def super_Check_c20_d (n : Nat) : SmV := smSeq [21] (super_Check_c16_d n) (super_Check_c19_d n)
def super_Check_c21_d (n : Nat) : SmV := smCond (.t 10) (super_Check_c15_d n) (super_Check_c20_d n)
def super_Check_c22_d (n : Nat) : SmV := smSeq [1, 10] (super_Check_c13_d n) (super_Check_c21_d n)
def super_Check_c23_d (n : Nat) : SmV := smCond (.t 3) (super_Check_c6_d n) (super_Check_c22_d n)
def super_Check_c24_d (n : Nat) : SmV := smSeq [1, 3] (super_Check_c4_d n) (super_Check_c23_d n)
def super_Check_c25_d (n : Nat) : SmV := smBlock 0 (super_Check_c24_d n)
def super_Check_c26_d (n : Nat) : SmV := smOps E_super_Check super_Check_o10
def super_Check_c27_d (n : Nat) : SmV := smSeq [2] (super_Check_c26_d n) smRet
def super_Check_c28_d (n : Nat) : SmV := smSeq [] (super_Check_c25_d n) (super_Check_c27_d n)
def super_Check_c29_d (n : Nat) : SmV := smSeq [1] (super_Check_c0_d n) (super_Check_c28_d n)
def super_Check_k0 (n : Nat) : AExit → Env → Heap → OptV := fun x e h => match x with | .normal => hold ((super_Check_c27_d n) A_super_Check.fin (e.keep []) h) | .exit id => A_super_Check.fin (.exit id) e h | .ret => A_super_Check.fin .ret e h
def super_Check_k1 (n : Nat) : AExit → Env → Heap → OptV := fun x e h => match x with | .exit i => bif Nat.beq i 0 then (super_Check_k0 n) .normal e h else (super_Check_k0 n) (.exit i) e h | .normal => (super_Check_k0 n) .normal e h | .ret => (super_Check_k0 n) .ret e h
def super_Check_j0 (n : Nat) (x1 x3 : Val) (h : Heap) : OptV := hold ((super_Check_c23_d n) (super_Check_k1 n) [(1, x1), (3, x3)] h)
def R_super_Check (n : Nat) (args : List Val) (h : Heap) : OptV := (super_Check_c29_d n) A_super_Check.fin (params 0 args) h
def super_Check_j1 (n : Nat) (x1 x10 : Val) (h : Heap) : OptV := hold ((super_Check_c21_d n) (super_Check_k1 n) [(1, x1), (10, x10)] h)
theorem R_super_Check_eq (n : Nat) (a0 : Val) (h : Heap) : R_super_Check n [a0] h = bnd (cells? a0) fun c1 => bnd (afAddr ((.c (.p h.length 0))) 0) fun v2 => bnd (aload1 ((h ++ [some (Row.mk (c1) true)])) v2) fun v3 => bnd (abin .lss v3 (.c (.i .i64 16))) fun v4 => cnd v4 (super_Check_j0 n ((.c (.p h.length 0))) v4 ((h ++ [some (Row.mk (c1) true)]))) (bnd (afAddr ((.c (.p h.length 0))) 0) fun v5 => bnd (aload1 ((h ++ [some (Row.mk (c1) true)])) v5) fun v6 => bnd (abin .gtr v6 (.c (.i .i64 512))) fun v7 => super_Check_j0 n ((.c (.p h.length 0))) v7 ((h ++ [some (Row.mk (c1) true)]))) := by kernel_rfl
theorem super_Check_j0_eq (n : Nat) (x1 x3 : Val) (h : Heap) : super_Check_j0 n x1 x3 h = cnd x3 (some ((.c (.i .i64 1)), h)) (bnd (afAddr x1 1) fun v8 => bnd (aload1 h v8) fun v9 => bnd (abin .lss v9 (.c (.i .i64 8))) fun v10 => cnd v10 (super_Check_j1 n x1 v10 h) (bnd (afAddr x1 1) fun v11 => bnd (aload1 h v11) fun v12 => bnd (abin .gtr v12 (.c (.i .i64 128))) fun v13 => cnd v13 (super_Check_j1 n x1 v13 h) (bnd (afAddr x1 1) fun v14 => bnd (aload1 h v14) fun v15 => bnd (abin .rem v15 (.c (.i .i64 8))) fun v16 => bnd (abin .neq v16 (.c (.i .i64 0))) fun v17 => super_Check_j1 n x1 v17 h))) := by kernel_rfl
theorem super_Check_j1_eq (n : Nat) (x1 x10 : Val) (h : Heap) : super_Check_j1 n x1 x10 h = cnd x10 (some ((.c (.i .i64 1)), h)) (bnd (afAddr x1 1) fun v18 => bnd (aload1 h v18) fun v19 => bnd (abin .quo v19 (.c (.i .i64 8))) fun v20 => bnd (abin .add (.c (.i .i64 2)) v20) fun v21 => bnd (afAddr x1 0) fun v22 => bnd (aload1 h v22) fun v23 => bnd (abin .geq v21 v23) fun v24 => cnd v24 (some ((.c (.i .i64 1)), h)) (some ((.c (.i .i64 0)), h))) := by kernel_rfl
theorem K_super_Check : FnK Try.prog 70 A_super_Check E_super_Check R_super_Check := .mk' (sound0) Try.func70 (by kernel_rfl) (by intro n args h; kernel_rfl)
def S_super_Check : Fun := tidy (Lim A_super_Check E_super_Check)
theorem S_super_Check_ok : SOk Try.prog 70 S_super_Check := K_super_Check.sok
theorem S_super_Check_flat {n : Nat} {args : List Val} {h h2 : Heap} {v : Val} (he : R_super_Check n args (ro h) = some (v, h2)) (hf : v.flat = true) : S_super_Check args h = some (v, h) := K_super_Check.flat he hf
def super_Put_o0 : List AOper := [aO 1 (.box (.t 0)), aO 2 (.alloc (List.replicate 256 (.i .u8 0))), aO 3 (.mv (.v (.c (.i .i64 0))))]
def super_Put_c0 : ACode := .ops super_Put_o0
def super_Put_o1 : List AOper := [aO 9 (.loadN 3 (.t 1)), aO 10 (.call 70 [(.t 9)]), aO 4 (.mv (.t 10))]
def super_Put_c1 : ACode := .ops super_Put_o1
def super_Put_o2 : List AOper := [aO 11 (.mv (.t 4)), aO 12 (.bin .neq (.t 11) (.v (.c (.i .i64 0))))]
def super_Put_c2 : ACode := .ops super_Put_o2
def super_Put_o3 : List AOper := [aO 13 (.build (List.replicate 256 (.i .u8 0)) []), aO 14 (.mv (.t 4)), { dst := none, op := .storeN 256 (.t 2) (.t 13) }, aO 3 (.mv (.t 14))]
def super_Put_c3 : ACode := .ops super_Put_o3
def super_Put_c4 : ACode := .seq [2, 3] super_Put_c3 .ret
def super_Put_c5 : ACode := .cond (.t 12) super_Put_c4 .skip
def super_Put_c6 : ACode := .seq [1, 2, 4, 12] super_Put_c2 super_Put_c5
def super_Put_c7 : ACode := .seq [1, 2, 4] super_Put_c1 super_Put_c6
def super_Put_o4 : List AOper := [aO 15 (.buildSl 1 8 ([.i .u8 0, .i .u8 0, .i .u8 0, .i .u8 0, .i .u8 0, .i .u8 0, .i .u8 0, .i .u8 0]) [(0, 1, (.v (.c (.i .u8 101)))), (1, 1, (.v (.c (.i .u8 115)))), (2, 1, (.v (.c (.i .u8 99)))), (3, 1, (.v (.c (.i .u8 104)))), (4, 1, (.v (.c (.i .u8 101)))), (5, 1, (.v (.c (.i .u8 97)))), (6, 1, (.v (.c (.i .u8 116)))), (7, 1, (.v (.c (.i .u8 49))))]), aO 16 (.mark (.t 15)), aO 17 (.call 95 [(.t 16)]), aO 5 (.alloc (List.replicate 256 (.i .u8 0))), { dst := none, op := .storeN 256 (.t 5) (.t 17) }]
def super_Put_c8 : ACode := .ops super_Put_o4
def super_Put_o5 : List AOper := [aO 18 (.loadN 256 (.t 5)), aO 19 (.fAddr (.t 1) 0), aO 20 (.load1 (.t 19)), aO 21 (.call 96 [(.t 18), (.v (.c (.i .i64 8))), (.v (.c (.i .i64 2))), (.t 20)]), { dst := none, op := .storeN 256 (.t 5) (.t 21) }]
def super_Put_c9 : ACode := .ops super_Put_o5
def super_Put_o6 : List AOper := [aO 22 (.loadN 256 (.t 5)), aO 23 (.fAddr (.t 1) 1), aO 24 (.load1 (.t 23)), aO 25 (.call 96 [(.t 22), (.v (.c (.i .i64 10))), (.v (.c (.i .i64 2))), (.t 24)]), { dst := none, op := .storeN 256 (.t 5) (.t 25) }]
def super_Put_c10 : ACode := .ops super_Put_o6
def super_Put_o7 : List AOper := [{ dst := some 27, op := .mkSl 1 ([.i .u8 0]) (.v (.c (.i .i64 8))) (.v (.c (.i .i64 8))), slot := some 0 }, aO 28 (.fAddr (.t 1) 2), aO 29 (.load1 (.t 28)), aO 30 (.call 97 [(.t 27), (.v (.c (.i .i64 0))), (.v (.c (.i .i64 8))), (.t 29)]), aO 26 (.mv (.t 30)), aO 31 (.ext (.t 26) 0), aO 32 (.ext (.t 26) 1), aO 6 (.mv (.t 31))]
def super_Put_o8 : List AOper := [aO 7 (.mv (.t 32))]
def super_Put_c11 : ACode := .draw 1 super_Put_o7 super_Put_o8
def super_Put_o9 : List AOper := [aO 33 (.loadN 256 (.t 5)), aO 34 (.mv (.t 6)), aO 35 (.call 98 [(.t 33), (.v (.c (.i .i64 12))), (.t 34)]), { dst := none, op := .storeN 256 (.t 5) (.t 35) }]
def super_Put_c12 : ACode := .ops super_Put_o9
def super_Put_o10 : List AOper := [aO 36 (.loadN 256 (.t 5)), aO 37 (.call 57 [(.t 36), (.v (.c (.i .i64 0))), (.v (.c (.i .i64 20)))]), aO 38 (.b2s (.t 37)), aO 39 (.call 99 [(.t 38)]), aO 8 (.mv (.t 39))]
def super_Put_c13 : ACode := .ops super_Put_o10
def super_Put_o11 : List AOper := [aO 40 (.loadN 256 (.t 5)), aO 41 (.mv (.t 8)), aO 42 (.conv .i64 (.t 41)), aO 43 (.call 96 [(.t 40), (.v (.c (.i .i64 20))), (.v (.c (.i .i64 4))), (.t 42)]), { dst := none, op := .storeN 256 (.t 2) (.t 43) }, aO 3 (.mv (.v (.c (.i .i64 0))))]
def super_Put_c14 : ACode := .ops super_Put_o11
def super_Put_c15 : ACode := .seq [2, 3] super_Put_c14 .ret
def super_Put_c16 : ACode := .seq [2, 5, 8] super_Put_c13 super_Put_c15
def super_Put_c17 : ACode := .seq [2, 5] super_Put_c12 super_Put_c16
def super_Put_c18 : ACode := .seq [2, 5, 6] super_Put_c11 super_Put_c17
def super_Put_c19 : ACode := .seq [1, 2, 5] super_Put_c10 super_Put_c18
def super_Put_c20 : ACode := .seq [1, 2, 5] super_Put_c9 super_Put_c19
def super_Put_c21 : ACode := .seq [1, 2, 5] super_Put_c8 super_Put_c20
def super_Put_c22 : ACode := .seq [1, 2] super_Put_c7 super_Put_c21
def super_Put_c23 : ACode := .seq [1, 2] super_Put_c0 super_Put_c22
def A_super_Put : AFn := ⟨super_Put_c23, [.cellN 2 256, .tmp 3]⟩
def E_super_Put : Sums := disp 70 S_super_Check (disp 95 S_num_Of (disp 96 S_num_With (disp 97 S_num_Put (disp 98 S_num_Lay (disp 57 S_num_Cut (disp 99 S_mix_Of disp0))))))
def super_Put_c0_d (n : Nat) : SmV := smOps E_super_Put super_Put_o0
def super_Put_c1_d (n : Nat) : SmV := smOps E_super_Put super_Put_o1
def super_Put_c2_d (n : Nat) : SmV := smOps E_super_Put super_Put_o2
def super_Put_c3_d (n : Nat) : SmV := smOps E_super_Put super_Put_o3
def super_Put_c4_d (n : Nat) : SmV := smSeq [2, 3] (super_Put_c3_d n) smRet
def super_Put_c5_d (n : Nat) : SmV := smCond (.t 12) (super_Put_c4_d n) smSkip
def super_Put_c6_d (n : Nat) : SmV := smSeq [1, 2, 4, 12] (super_Put_c2_d n) (super_Put_c5_d n)
def super_Put_c7_d (n : Nat) : SmV := smSeq [1, 2, 4] (super_Put_c1_d n) (super_Put_c6_d n)
def super_Put_c8_d (n : Nat) : SmV := smOps E_super_Put super_Put_o4
def super_Put_c9_d (n : Nat) : SmV := smOps E_super_Put super_Put_o5
def super_Put_c10_d (n : Nat) : SmV := smOps E_super_Put super_Put_o6
def super_Put_c11_d (n : Nat) : SmV := smDraw E_super_Put 1 super_Put_o7 super_Put_o8
def super_Put_c12_d (n : Nat) : SmV := smOps E_super_Put super_Put_o9
def super_Put_c13_d (n : Nat) : SmV := smOps E_super_Put super_Put_o10
def super_Put_c14_d (n : Nat) : SmV := smOps E_super_Put super_Put_o11
def super_Put_c15_d (n : Nat) : SmV := smSeq [2, 3] (super_Put_c14_d n) smRet
def super_Put_c16_d (n : Nat) : SmV := smSeq [2, 5, 8] (super_Put_c13_d n) (super_Put_c15_d n)
def super_Put_c17_d (n : Nat) : SmV := smSeq [2, 5] (super_Put_c12_d n) (super_Put_c16_d n)
def super_Put_c18_d (n : Nat) : SmV := smSeq [2, 5, 6] (super_Put_c11_d n) (super_Put_c17_d n)
def super_Put_c19_d (n : Nat) : SmV := smSeq [1, 2, 5] (super_Put_c10_d n) (super_Put_c18_d n)
def super_Put_c20_d (n : Nat) : SmV := smSeq [1, 2, 5] (super_Put_c9_d n) (super_Put_c19_d n)
def super_Put_c21_d (n : Nat) : SmV := smSeq [1, 2, 5] (super_Put_c8_d n) (super_Put_c20_d n)
def super_Put_c22_d (n : Nat) : SmV := smSeq [1, 2] (super_Put_c7_d n) (super_Put_c21_d n)
def super_Put_c23_d (n : Nat) : SmV := smSeq [1, 2] (super_Put_c0_d n) (super_Put_c22_d n)
def R_super_Put (n : Nat) (args : List Val) (h : Heap) : OptV := (super_Put_c23_d n) A_super_Put.fin (params 0 args) h
theorem R_super_Put_eq (n : Nat) (a0 : Val) (h : Heap) : R_super_Put n [a0] h = bnd (cells? a0) fun c1 => bnd (aloadN (((h ++ [some (Row.mk (c1) true)]) ++ [some (Row.mk (List.replicate 256 (.i .u8 0)) true)])) 3 ((.c (.p h.length 0)))) fun v2 => bnd (S_super_Check [v2] (((h ++ [some (Row.mk (c1) true)]) ++ [some (Row.mk (List.replicate 256 (.i .u8 0)) true)]))) fun p3 => bnd (abin .neq p3.1 (.c (.i .i64 0))) fun v4 => cnd v4 (bnd (afill (List.replicate 256 (.i .u8 0)) []) fun c5 => bnd (astoreN p3.2 256 ((.c (.p ((h ++ [some (Row.mk (c1) true)])).length 0))) ((.a c5))) fun h6 => tupN [aloadN h6 256 ((.c (.p ((h ++ [some (Row.mk (c1) true)])).length 0))), some p3.1] h6) (bnd (afill ([.i .u8 0, .i .u8 0, .i .u8 0, .i .u8 0, .i .u8 0, .i .u8 0, .i .u8 0, .i .u8 0]) [(0, 1, .c (.i .u8 101)), (1, 1, .c (.i .u8 115)), (2, 1, .c (.i .u8 99)), (3, 1, .c (.i .u8 104)), (4, 1, .c (.i .u8 101)), (5, 1, .c (.i .u8 97)), (6, 1, .c (.i .u8 116)), (7, 1, .c (.i .u8 49))]) fun c7 => bnd (amark ((p3.2 ++ [some (Row.mk (c7) true)])) ((.c (.sl p3.2.length 0 8 1)))) fun v8 => bnd (S_num_Of [v8] ((p3.2 ++ [some (Row.mk (c7) true)]))) fun p9 => bnd (astoreN ((p9.2 ++ [some (Row.mk (List.replicate 256 (.i .u8 0)) true)])) 256 ((.c (.p p9.2.length 0))) p9.1) fun h10 => bnd (aloadN h10 256 ((.c (.p p9.2.length 0)))) fun v11 => bnd (afAddr ((.c (.p h.length 0))) 0) fun v12 => bnd (aload1 h10 v12) fun v13 => bnd (S_num_With [v11, .c (.i .i64 8), .c (.i .i64 2), v13] h10) fun p14 => bnd (astoreN p14.2 256 ((.c (.p p9.2.length 0))) p14.1) fun h15 => bnd (aloadN h15 256 ((.c (.p p9.2.length 0)))) fun v16 => bnd (afAddr ((.c (.p h.length 0))) 1) fun v17 => bnd (aload1 h15 v17) fun v18 => bnd (S_num_With [v16, .c (.i .i64 10), .c (.i .i64 2), v18] h15) fun p19 => bnd (astoreN p19.2 256 ((.c (.p p9.2.length 0))) p19.1) fun h20 => bnd (amkn (.c (.i .i64 8)) (.c (.i .i64 8))) fun n21 => bnd (afAddr ((.c (.p h.length 0))) 2) fun v22 => bnd (aload1 h20 v22) fun v23 => bnd (quiet ((((h20 ++ [none])).set (h20.length + 0) (some (Row.mk (rows ([.i .u8 0]) n21) true)))) (S_num_Put [(.c (.sl (h20.length + 0) 0 n21 1)), .c (.i .i64 0), .c (.i .i64 8), v23] ((((h20 ++ [none])).set (h20.length + 0) (some (Row.mk (rows ([.i .u8 0]) n21) true)))))) fun p24 => bnd (aext p24.1 0) fun v25 => bnd (aext p24.1 1) fun v26 => bnd (aloadN p24.2 256 ((.c (.p p9.2.length 0)))) fun v27 => bnd (S_num_Lay [v27, .c (.i .i64 12), v25] p24.2) fun p28 => bnd (astoreN p28.2 256 ((.c (.p p9.2.length 0))) p28.1) fun h29 => bnd (aloadN h29 256 ((.c (.p p9.2.length 0)))) fun v30 => bnd (S_num_Cut [v30, .c (.i .i64 0), .c (.i .i64 20)] h29) fun p31 => bnd (ab2s p31.2 p31.1) fun v32 => bnd (S_mix_Of [v32] p31.2) fun p33 => bnd (aloadN p33.2 256 ((.c (.p p9.2.length 0)))) fun v34 => bnd (aconv .i64 p33.1) fun v35 => bnd (S_num_With [v34, .c (.i .i64 20), .c (.i .i64 4), v35] p33.2) fun p36 => bnd (astoreN p36.2 256 ((.c (.p ((h ++ [some (Row.mk (c1) true)])).length 0))) p36.1) fun h37 => tupN [aloadN h37 256 ((.c (.p ((h ++ [some (Row.mk (c1) true)])).length 0))), some (.c (.i .i64 0))] h37) := by kernel_rfl
theorem K_super_Put : FnK Try.prog 52 A_super_Put E_super_Put R_super_Put := .mk' (sound1 S_super_Check_ok (sound1 S_num_Of_ok (sound1 S_num_With_ok (sound1 S_num_Put_ok (sound1 S_num_Lay_ok (sound1 S_num_Cut_ok (sound1 S_mix_Of_ok sound0))))))) Try.func52 (by kernel_rfl) (by intro n args h; kernel_rfl)
def S_super_Put : Fun := tidy (Lim A_super_Put E_super_Put)
theorem S_super_Put_ok : SOk Try.prog 52 S_super_Put := K_super_Put.sok
theorem S_super_Put_flat {n : Nat} {args : List Val} {h h2 : Heap} {v : Val} (he : R_super_Put n args (ro h) = some (v, h2)) (hf : v.flat = true) : S_super_Put args h = some (v, h) := K_super_Put.flat he hf
def super_Get_o0 : List AOper := [aO 1 (.box (.t 0)), aO 2 (.alloc ([.i .i64 0, .i .i64 0, .i .u64 0])), aO 3 (.mv (.v (.c (.i .i64 0))))]
def super_Get_c0 : ACode := .ops super_Get_o0
def super_Get_o1 : List AOper := [aO 10 (.loadN 256 (.t 1)), aO 11 (.call 57 [(.t 10), (.v (.c (.i .i64 12))), (.v (.c (.i .i64 8)))]), aO 12 (.call 100 [(.t 11), (.v (.c (.i .i64 0))), (.v (.c (.i .i64 8)))]), aO 9 (.mv (.t 12)), aO 13 (.ext (.t 9) 0), aO 14 (.ext (.t 9) 1), aO 4 (.mv (.t 13)), aO 5 (.mv (.t 14))]
def super_Get_c1 : ACode := .ops super_Get_o1
def super_Get_o2 : List AOper := [aO 15 (.loadN 256 (.t 1)), aO 16 (.call 101 [(.t 15), (.v (.c (.i .i64 8))), (.v (.c (.i .i64 2)))]), aO 17 (.loadN 256 (.t 1)), aO 18 (.call 101 [(.t 17), (.v (.c (.i .i64 10))), (.v (.c (.i .i64 2)))]), aO 19 (.mv (.t 4)), aO 20 (.build ([.i .i64 0, .i .i64 0, .i .u64 0]) [(0, 1, (.t 16)), (1, 1, (.t 18)), (2, 1, (.t 19))]), { dst := some 6, op := .alloc ([.i .i64 0, .i .i64 0, .i .u64 0]), slot := some 0 }]
def super_Get_o3 : List AOper := [{ dst := none, op := .storeN 3 (.t 6) (.t 20) }]
def super_Get_c2 : ACode := .draw 1 super_Get_o2 super_Get_o3
def super_Get_o4 : List AOper := [aO 22 (.loadN 3 (.t 6)), aO 23 (.call 52 [(.t 22)]), aO 21 (.mv (.t 23)), aO 24 (.ext (.t 21) 0), aO 25 (.ext (.t 21) 1), aO 7 (.alloc (List.replicate 256 (.i .u8 0))), { dst := none, op := .storeN 256 (.t 7) (.t 24) }, aO 8 (.mv (.t 25))]
def super_Get_c3 : ACode := .ops super_Get_o4
def super_Get_o5 : List AOper := [aO 26 (.mv (.t 8)), aO 27 (.bin .neq (.t 26) (.v (.c (.i .i64 0)))), aO 28 (.mv (.t 27)), { dst := some 29, op := .loadN 256 (.t 7), guard := some (28, false) }, { dst := some 30, op := .loadN 256 (.t 1), guard := some (28, false) }, { dst := some 31, op := .eqA true (List.replicate 256 (.i .u8)) (.t 29) (.t 30), guard := some (28, false) }, aO 32 (.pick (.t 28) (.v (.c (.b true))) (.t 31))]
def super_Get_c4 : ACode := .ops super_Get_o5
def super_Get_o6 : List AOper := [aO 33 (.build ([.i .i64 0, .i .i64 0, .i .u64 0]) []), { dst := none, op := .storeN 3 (.t 2) (.t 33) }, aO 3 (.mv (.v (.c (.i .i64 13))))]
def super_Get_c5 : ACode := .ops super_Get_o6
def super_Get_c6 : ACode := .seq [2, 3] super_Get_c5 .ret
def super_Get_c7 : ACode := .cond (.t 32) super_Get_c6 .skip
def super_Get_c8 : ACode := .seq [2, 6, 32] super_Get_c4 super_Get_c7
def super_Get_c9 : ACode := .seq [1, 2, 6, 7, 8] super_Get_c3 super_Get_c8
def super_Get_o7 : List AOper := [aO 34 (.loadN 3 (.t 6)), { dst := none, op := .storeN 3 (.t 2) (.t 34) }, aO 3 (.mv (.v (.c (.i .i64 0))))]
def super_Get_c10 : ACode := .ops super_Get_o7
def super_Get_c11 : ACode := .seq [2, 3] super_Get_c10 .ret
def super_Get_c12 : ACode := .seq [2, 6] super_Get_c9 super_Get_c11
def super_Get_c13 : ACode := .seq [1, 2, 6] super_Get_c2 super_Get_c12
def super_Get_c14 : ACode := .seq [1, 2, 4] super_Get_c1 super_Get_c13
def super_Get_c15 : ACode := .seq [1, 2] super_Get_c0 super_Get_c14
def A_super_Get : AFn := ⟨super_Get_c15, [.cellN 2 3, .tmp 3]⟩
def E_super_Get : Sums := disp 57 S_num_Cut (disp 100 S_num_Get (disp 101 S_num_At (disp 52 S_super_Put disp0)))
def super_Get_c0_d (n : Nat) : SmV := smOps E_super_Get super_Get_o0
def super_Get_c1_d (n : Nat) : SmV := smOps E_super_Get super_Get_o1
def super_Get_c2_d (n : Nat) : SmV := smDraw E_super_Get 1 super_Get_o2 super_Get_o3
def super_Get_c3_d (n : Nat) : SmV := smOps E_super_Get super_Get_o4
def super_Get_c4_d (n : Nat) : SmV := smOps E_super_Get super_Get_o5
def super_Get_c5_d (n : Nat) : SmV := smOps E_super_Get super_Get_o6
def super_Get_c6_d (n : Nat) : SmV := smSeq [2, 3] (super_Get_c5_d n) smRet
def super_Get_c7_d (n : Nat) : SmV := smCond (.t 32) (super_Get_c6_d n) smSkip
def super_Get_c8_d (n : Nat) : SmV := smSeq [2, 6, 32] (super_Get_c4_d n) (super_Get_c7_d n)
def super_Get_c9_d (n : Nat) : SmV := smSeq [1, 2, 6, 7, 8] (super_Get_c3_d n) (super_Get_c8_d n)
def super_Get_c10_d (n : Nat) : SmV := smOps E_super_Get super_Get_o7
def super_Get_c11_d (n : Nat) : SmV := smSeq [2, 3] (super_Get_c10_d n) smRet
def super_Get_c12_d (n : Nat) : SmV := smSeq [2, 6] (super_Get_c9_d n) (super_Get_c11_d n)
def super_Get_c13_d (n : Nat) : SmV := smSeq [1, 2, 6] (super_Get_c2_d n) (super_Get_c12_d n)
def super_Get_c14_d (n : Nat) : SmV := smSeq [1, 2, 4] (super_Get_c1_d n) (super_Get_c13_d n)
def super_Get_c15_d (n : Nat) : SmV := smSeq [1, 2] (super_Get_c0_d n) (super_Get_c14_d n)
def R_super_Get (n : Nat) (args : List Val) (h : Heap) : OptV := (super_Get_c15_d n) A_super_Get.fin (params 0 args) h
theorem R_super_Get_eq (n : Nat) (a0 : Val) (h : Heap) : R_super_Get n [a0] h = bnd (cells? a0) fun c1 => bnd (aloadN (((h ++ [some (Row.mk (c1) true)]) ++ [some (Row.mk ([.i .i64 0, .i .i64 0, .i .u64 0]) true)])) 256 ((.c (.p h.length 0)))) fun v2 => bnd (S_num_Cut [v2, .c (.i .i64 12), .c (.i .i64 8)] (((h ++ [some (Row.mk (c1) true)]) ++ [some (Row.mk ([.i .i64 0, .i .i64 0, .i .u64 0]) true)]))) fun p3 => bnd (S_num_Get [p3.1, .c (.i .i64 0), .c (.i .i64 8)] p3.2) fun p4 => bnd (aext p4.1 0) fun v5 => bnd (aext p4.1 1) fun v6 => bnd (aloadN p4.2 256 ((.c (.p h.length 0)))) fun v7 => bnd (quiet ((p4.2 ++ [none])) (S_num_At [v7, .c (.i .i64 8), .c (.i .i64 2)] ((p4.2 ++ [none])))) fun p8 => bnd (aloadN p4.2 256 ((.c (.p h.length 0)))) fun v9 => bnd (quiet p8.2 (S_num_At [v9, .c (.i .i64 10), .c (.i .i64 2)] p8.2)) fun p10 => bnd (afill ([.i .i64 0, .i .i64 0, .i .u64 0]) [(0, 1, p8.1), (1, 1, p10.1), (2, 1, v5)]) fun c11 => bnd (astoreN ((p10.2.set (p4.2.length + 0) (some (Row.mk ([.i .i64 0, .i .i64 0, .i .u64 0]) true)))) 3 ((.c (.p (p4.2.length + 0) 0))) ((.a c11))) fun h12 => bnd (aloadN h12 3 ((.c (.p (p4.2.length + 0) 0)))) fun v13 => bnd (S_super_Put [v13] h12) fun p14 => bnd (aext p14.1 0) fun v15 => bnd (aext p14.1 1) fun v16 => bnd (astoreN ((p14.2 ++ [some (Row.mk (List.replicate 256 (.i .u8 0)) true)])) 256 ((.c (.p p14.2.length 0))) v15) fun h17 => bnd (abin .neq v16 (.c (.i .i64 0))) fun v18 => bnd (gd v18 false (bnd (aloadN h17 256 ((.c (.p p14.2.length 0)))) fun v19 => some (v19, h17)) (some (.no, h17))) fun p20 => bnd (gd v18 false (bnd (aloadN p20.2 256 ((.c (.p h.length 0)))) fun v21 => some (v21, p20.2)) (some (.no, p20.2))) fun p22 => bnd (gd v18 false (bnd (aeq true (List.replicate 256 (.i .u8)) p20.1 p22.1) fun v23 => some (v23, p22.2)) (some (.no, p22.2))) fun p24 => bnd (apick v18 (.c (.b true)) p24.1) fun v25 => cnd v25 (bnd (afill ([.i .i64 0, .i .i64 0, .i .u64 0]) []) fun c26 => bnd (astoreN p24.2 3 ((.c (.p ((h ++ [some (Row.mk (c1) true)])).length 0))) ((.a c26))) fun h27 => tupN [aloadN h27 3 ((.c (.p ((h ++ [some (Row.mk (c1) true)])).length 0))), some (.c (.i .i64 13))] h27) (bnd (aloadN p24.2 3 ((.c (.p (p4.2.length + 0) 0)))) fun v28 => bnd (astoreN p24.2 3 ((.c (.p ((h ++ [some (Row.mk (c1) true)])).length 0))) v28) fun h29 => tupN [aloadN h29 3 ((.c (.p ((h ++ [some (Row.mk (c1) true)])).length 0))), some (.c (.i .i64 0))] h29) := by kernel_rfl
theorem K_super_Get : FnK Try.prog 53 A_super_Get E_super_Get R_super_Get := .mk' (sound1 S_num_Cut_ok (sound1 S_num_Get_ok (sound1 S_num_At_ok (sound1 S_super_Put_ok sound0)))) Try.func53 (by kernel_rfl) (by intro n args h; kernel_rfl)
def S_super_Get : Fun := tidy (Lim A_super_Get E_super_Get)
theorem S_super_Get_ok : SOk Try.prog 53 S_super_Get := K_super_Get.sok
theorem S_super_Get_flat {n : Nat} {args : List Val} {h h2 : Heap} {v : Val} (he : R_super_Get n args (ro h) = some (v, h2)) (hf : v.flat = true) : S_super_Get args h = some (v, h) := K_super_Get.flat he hf
end Go.Proofs.Ytdgggnlbdoiloaa
end
noncomputable section
namespace Go.Proofs.Ytdgggnlbdoiloaa
open Go Go.Esc
set_option maxRecDepth 100000
def geom_ok_o0 : List AOper := [aO 1 (.box (.t 0)), aO 2 (.mv (.v (.c (.b false))))]
def geom_ok_c0 : ACode := .ops geom_ok_o0
def geom_ok_o1 : List AOper := [aO 3 (.loadN 3 (.t 1)), aO 4 (.call 70 [(.t 3)]), aO 5 (.bin .eql (.t 4) (.v (.c (.i .i64 0)))), aO 2 (.mv (.t 5))]
def geom_ok_c1 : ACode := .ops geom_ok_o1
def geom_ok_c2 : ACode := .seq [2] geom_ok_c1 .ret
def geom_ok_c3 : ACode := .seq [1] geom_ok_c0 geom_ok_c2
def A_geom_ok : AFn := ⟨geom_ok_c3, [.tmp 2]⟩
def E_geom_ok : Sums := disp 70 S_super_Check disp0
def geom_ok_c0_d (n : Nat) : SmV := smOps E_geom_ok geom_ok_o0
def geom_ok_c1_d (n : Nat) : SmV := smOps E_geom_ok geom_ok_o1
def geom_ok_c2_d (n : Nat) : SmV := smSeq [2] (geom_ok_c1_d n) smRet
def geom_ok_c3_d (n : Nat) : SmV := smSeq [1] (geom_ok_c0_d n) (geom_ok_c2_d n)
def R_geom_ok (n : Nat) (args : List Val) (h : Heap) : OptV := (geom_ok_c3_d n) A_geom_ok.fin (params 0 args) h
theorem R_geom_ok_eq (n : Nat) (a0 : Val) (h : Heap) : R_geom_ok n [a0] h = bnd (cells? a0) fun c1 => bnd (aloadN ((h ++ [some (Row.mk (c1) true)])) 3 ((.c (.p h.length 0)))) fun v2 => bnd (S_super_Check [v2] ((h ++ [some (Row.mk (c1) true)]))) fun p3 => bnd (abin .eql p3.1 (.c (.i .i64 0))) fun v4 => some (v4, p3.2) := by kernel_rfl
theorem K_geom_ok : FnK Try.prog 63 A_geom_ok E_geom_ok R_geom_ok := .mk' (sound1 S_super_Check_ok sound0) Try.func63 (by kernel_rfl) (by intro n args h; kernel_rfl)
def S_geom_ok : Fun := tidy (Lim A_geom_ok E_geom_ok)
theorem S_geom_ok_ok : SOk Try.prog 63 S_geom_ok := K_geom_ok.sok
theorem S_geom_ok_flat {n : Nat} {args : List Val} {h h2 : Heap} {v : Val} (he : R_geom_ok n args (ro h) = some (v, h2)) (hf : v.flat = true) : S_geom_ok args h = some (v, h) := K_geom_ok.flat he hf
def geom_Map_o0 : List AOper := [aO 0 (.mv (.v (.c (.i .i64 0))))]
def geom_Map_c0 : ACode := .ops geom_Map_o0
def geom_Map_o1 : List AOper := [aO 0 (.mv (.v (.c (.i .i64 1))))]
def geom_Map_c1 : ACode := .ops geom_Map_o1
def geom_Map_c2 : ACode := .seq [0] geom_Map_c1 .ret
def geom_Map_c3 : ACode := .seq [] geom_Map_c0 geom_Map_c2
def A_geom_Map : AFn := ⟨geom_Map_c3, [.tmp 0]⟩
def E_geom_Map : Sums := disp0
def geom_Map_c0_d (n : Nat) : SmV := smOps E_geom_Map geom_Map_o0
def geom_Map_c1_d (n : Nat) : SmV := smOps E_geom_Map geom_Map_o1
def geom_Map_c2_d (n : Nat) : SmV := smSeq [0] (geom_Map_c1_d n) smRet
def geom_Map_c3_d (n : Nat) : SmV := smSeq [] (geom_Map_c0_d n) (geom_Map_c2_d n)
def R_geom_Map (n : Nat) (args : List Val) (h : Heap) : OptV := (geom_Map_c3_d n) A_geom_Map.fin (params 0 args) h
theorem R_geom_Map_eq (n : Nat) (h : Heap) : R_geom_Map n [] h = some ((.c (.i .i64 1)), h) := by kernel_rfl
theorem K_geom_Map : FnK Try.prog 72 A_geom_Map E_geom_Map R_geom_Map := .mk' (sound0) Try.func72 (by kernel_rfl) (by intro n args h; kernel_rfl)
def S_geom_Map : Fun := tidy (Lim A_geom_Map E_geom_Map)
theorem S_geom_Map_ok : SOk Try.prog 72 S_geom_Map := K_geom_Map.sok
theorem S_geom_Map_flat {n : Nat} {args : List Val} {h h2 : Heap} {v : Val} (he : R_geom_Map n args (ro h) = some (v, h2)) (hf : v.flat = true) : S_geom_Map args h = some (v, h) := K_geom_Map.flat he hf
def geom_Table_o0 : List AOper := [aO 1 (.box (.t 0)), aO 2 (.mv (.v (.c (.i .i64 0)))), aO 3 (.mv (.v (.c (.i .i64 0))))]
def geom_Table_c0 : ACode := .ops geom_Table_o0
def geom_Table_o1 : List AOper := [aO 4 (.loadN 3 (.t 1)), aO 5 (.call 63 [(.t 4)]), aO 6 (.un .not (.t 5))]
def geom_Table_c1 : ACode := .ops geom_Table_o1
def geom_Table_o2 : List AOper := [aO 2 (.mv (.v (.c (.i .i64 0)))), aO 3 (.mv (.v (.c (.i .i64 0))))]
def geom_Table_c2 : ACode := .ops geom_Table_o2
def geom_Table_c3 : ACode := .seq [2, 3] geom_Table_c2 .ret
def geom_Table_c4 : ACode := .cond (.t 6) geom_Table_c3 .skip
def geom_Table_c5 : ACode := .seq [1, 6] geom_Table_c1 geom_Table_c4
def geom_Table_o3 : List AOper := [aO 7 (.call 72 []), aO 8 (.bin .add (.t 7) (.v (.c (.i .i64 1)))), aO 9 (.fAddr (.t 1) 1), aO 10 (.load1 (.t 9)), aO 11 (.bin .quo (.t 10) (.v (.c (.i .i64 8)))), aO 2 (.mv (.t 8))]
def geom_Table_o4 : List AOper := [aO 3 (.mv (.t 11))]
def geom_Table_c6 : ACode := .draw 0 geom_Table_o3 geom_Table_o4
def geom_Table_c7 : ACode := .seq [2, 3] geom_Table_c6 .ret
def geom_Table_c8 : ACode := .seq [1] geom_Table_c5 geom_Table_c7
def geom_Table_c9 : ACode := .seq [1] geom_Table_c0 geom_Table_c8
def A_geom_Table : AFn := ⟨geom_Table_c9, [.tmp 2, .tmp 3]⟩
def E_geom_Table : Sums := disp 63 S_geom_ok (disp 72 S_geom_Map disp0)
def geom_Table_c0_d (n : Nat) : SmV := smOps E_geom_Table geom_Table_o0
def geom_Table_c1_d (n : Nat) : SmV := smOps E_geom_Table geom_Table_o1
def geom_Table_c2_d (n : Nat) : SmV := smOps E_geom_Table geom_Table_o2
def geom_Table_c3_d (n : Nat) : SmV := smSeq [2, 3] (geom_Table_c2_d n) smRet
def geom_Table_c4_d (n : Nat) : SmV := smCond (.t 6) (geom_Table_c3_d n) smSkip
def geom_Table_c5_d (n : Nat) : SmV := smSeq [1, 6] (geom_Table_c1_d n) (geom_Table_c4_d n)
def geom_Table_c6_d (n : Nat) : SmV := smDraw E_geom_Table 0 geom_Table_o3 geom_Table_o4
def geom_Table_c7_d (n : Nat) : SmV := smSeq [2, 3] (geom_Table_c6_d n) smRet
def geom_Table_c8_d (n : Nat) : SmV := smSeq [1] (geom_Table_c5_d n) (geom_Table_c7_d n)
def geom_Table_c9_d (n : Nat) : SmV := smSeq [1] (geom_Table_c0_d n) (geom_Table_c8_d n)
def R_geom_Table (n : Nat) (args : List Val) (h : Heap) : OptV := (geom_Table_c9_d n) A_geom_Table.fin (params 0 args) h
theorem R_geom_Table_eq (n : Nat) (a0 : Val) (h : Heap) : R_geom_Table n [a0] h = bnd (cells? a0) fun c1 => bnd (aloadN ((h ++ [some (Row.mk (c1) true)])) 3 ((.c (.p h.length 0)))) fun v2 => bnd (S_geom_ok [v2] ((h ++ [some (Row.mk (c1) true)]))) fun p3 => bnd (aun .not p3.1) fun v4 => cnd v4 (tupN [some (.c (.i .i64 0)), some (.c (.i .i64 0))] p3.2) (bnd (quiet ((p3.2 ++ [])) (S_geom_Map [] ((p3.2 ++ [])))) fun p5 => bnd (abin .add p5.1 (.c (.i .i64 1))) fun v6 => bnd (afAddr ((.c (.p h.length 0))) 1) fun v7 => bnd (aload1 p3.2 v7) fun v8 => bnd (abin .quo v8 (.c (.i .i64 8))) fun v9 => tupN [some v6, some v9] p5.2) := by kernel_rfl
theorem K_geom_Table : FnK Try.prog 103 A_geom_Table E_geom_Table R_geom_Table := .mk' (sound1 S_geom_ok_ok (sound1 S_geom_Map_ok sound0)) Try.func103 (by kernel_rfl) (by intro n args h; kernel_rfl)
def S_geom_Table : Fun := tidy (Lim A_geom_Table E_geom_Table)
theorem S_geom_Table_ok : SOk Try.prog 103 S_geom_Table := K_geom_Table.sok
theorem S_geom_Table_flat {n : Nat} {args : List Val} {h h2 : Heap} {v : Val} (he : R_geom_Table n args (ro h) = some (v, h2)) (hf : v.flat = true) : S_geom_Table args h = some (v, h) := K_geom_Table.flat he hf
def geom_Data_o0 : List AOper := [aO 1 (.box (.t 0)), aO 2 (.mv (.v (.c (.i .i64 0))))]
def geom_Data_c0 : ACode := .ops geom_Data_o0
def geom_Data_o1 : List AOper := [aO 6 (.loadN 3 (.t 1)), aO 7 (.call 103 [(.t 6)]), aO 5 (.mv (.t 7)), aO 8 (.ext (.t 5) 0), aO 9 (.ext (.t 5) 1), aO 3 (.mv (.t 8)), aO 4 (.mv (.t 9))]
def geom_Data_c1 : ACode := .ops geom_Data_o1
def geom_Data_o2 : List AOper := [aO 10 (.mv (.t 3)), aO 11 (.mv (.t 4)), aO 12 (.bin .add (.t 10) (.t 11)), aO 2 (.mv (.t 12))]
def geom_Data_c2 : ACode := .ops geom_Data_o2
def geom_Data_c3 : ACode := .seq [2] geom_Data_c2 .ret
def geom_Data_c4 : ACode := .seq [3, 4] geom_Data_c1 geom_Data_c3
def geom_Data_c5 : ACode := .seq [1] geom_Data_c0 geom_Data_c4
def A_geom_Data : AFn := ⟨geom_Data_c5, [.tmp 2]⟩
def E_geom_Data : Sums := disp 103 S_geom_Table disp0
def geom_Data_c0_d (n : Nat) : SmV := smOps E_geom_Data geom_Data_o0
def geom_Data_c1_d (n : Nat) : SmV := smOps E_geom_Data geom_Data_o1
def geom_Data_c2_d (n : Nat) : SmV := smOps E_geom_Data geom_Data_o2
def geom_Data_c3_d (n : Nat) : SmV := smSeq [2] (geom_Data_c2_d n) smRet
def geom_Data_c4_d (n : Nat) : SmV := smSeq [3, 4] (geom_Data_c1_d n) (geom_Data_c3_d n)
def geom_Data_c5_d (n : Nat) : SmV := smSeq [1] (geom_Data_c0_d n) (geom_Data_c4_d n)
def R_geom_Data (n : Nat) (args : List Val) (h : Heap) : OptV := (geom_Data_c5_d n) A_geom_Data.fin (params 0 args) h
theorem R_geom_Data_eq (n : Nat) (a0 : Val) (h : Heap) : R_geom_Data n [a0] h = bnd (cells? a0) fun c1 => bnd (aloadN ((h ++ [some (Row.mk (c1) true)])) 3 ((.c (.p h.length 0)))) fun v2 => bnd (S_geom_Table [v2] ((h ++ [some (Row.mk (c1) true)]))) fun p3 => bnd (aext p3.1 0) fun v4 => bnd (aext p3.1 1) fun v5 => bnd (abin .add v4 v5) fun v6 => some (v6, p3.2) := by kernel_rfl
theorem K_geom_Data : FnK Try.prog 64 A_geom_Data E_geom_Data R_geom_Data := .mk' (sound1 S_geom_Table_ok sound0) Try.func64 (by kernel_rfl) (by intro n args h; kernel_rfl)
def S_geom_Data : Fun := tidy (Lim A_geom_Data E_geom_Data)
theorem S_geom_Data_ok : SOk Try.prog 64 S_geom_Data := K_geom_Data.sok
theorem S_geom_Data_flat {n : Nat} {args : List Val} {h h2 : Heap} {v : Val} (he : R_geom_Data n args (ro h) = some (v, h2)) (hf : v.flat = true) : S_geom_Data args h = some (v, h) := K_geom_Data.flat he hf
def geom_IsData_o0 : List AOper := [aO 2 (.box (.t 0)), aO 4 (.mv (.v (.c (.b false))))]
def geom_IsData_c0 : ACode := .ops geom_IsData_o0
def geom_IsData_o1 : List AOper := [aO 5 (.loadN 3 (.t 2)), aO 6 (.call 63 [(.t 5)]), aO 7 (.mv (.t 6)), { dst := some 8, op := .mv (.t 1), guard := some (7, true) }, { dst := some 9, op := .loadN 3 (.t 2), guard := some (7, true) }, { dst := some 10, op := .call 64 [(.t 9)], guard := some (7, true) }, { dst := some 11, op := .bin .geq (.t 8) (.t 10), guard := some (7, true) }, aO 12 (.pick (.t 7) (.t 11) (.v (.c (.b false)))), aO 13 (.mv (.t 12)), { dst := some 14, op := .mv (.t 1), guard := some (13, true) }, { dst := some 15, op := .fAddr (.t 2) 0, guard := some (13, true) }, { dst := some 16, op := .load1 (.t 15), guard := some (13, true) }, { dst := some 17, op := .bin .lss (.t 14) (.t 16), guard := some (13, true) }, aO 18 (.pick (.t 13) (.t 17) (.v (.c (.b false)))), aO 4 (.mv (.t 18))]
def geom_IsData_c1 : ACode := .ops geom_IsData_o1
def geom_IsData_c2 : ACode := .seq [4] geom_IsData_c1 .ret
def geom_IsData_c3 : ACode := .seq [1, 2] geom_IsData_c0 geom_IsData_c2
def A_geom_IsData : AFn := ⟨geom_IsData_c3, [.tmp 4]⟩
def E_geom_IsData : Sums := disp 63 S_geom_ok (disp 64 S_geom_Data disp0)
def geom_IsData_c0_d (n : Nat) : SmV := smOps E_geom_IsData geom_IsData_o0
def geom_IsData_c1_d (n : Nat) : SmV := smOps E_geom_IsData geom_IsData_o1
def geom_IsData_c2_d (n : Nat) : SmV := smSeq [4] (geom_IsData_c1_d n) smRet
def geom_IsData_c3_d (n : Nat) : SmV := smSeq [1, 2] (geom_IsData_c0_d n) (geom_IsData_c2_d n)
def R_geom_IsData (n : Nat) (args : List Val) (h : Heap) : OptV := (geom_IsData_c3_d n) A_geom_IsData.fin (params 0 args) h
theorem R_geom_IsData_eq (n : Nat) (a0 a1 : Val) (h : Heap) : R_geom_IsData n [a0, a1] h = bnd (cells? a0) fun c1 => bnd (aloadN ((h ++ [some (Row.mk (c1) true)])) 3 ((.c (.p h.length 0)))) fun v2 => bnd (S_geom_ok [v2] ((h ++ [some (Row.mk (c1) true)]))) fun p3 => bnd (gd p3.1 true (some (a1, p3.2)) (some (.no, p3.2))) fun p4 => bnd (gd p3.1 true (bnd (aloadN p4.2 3 ((.c (.p h.length 0)))) fun v5 => some (v5, p4.2)) (some (.no, p4.2))) fun p6 => bnd (gd p3.1 true (bnd (S_geom_Data [p6.1] p6.2) fun p7 => some (p7.1, p7.2)) (some (.no, p6.2))) fun p8 => bnd (gd p3.1 true (bnd (abin .geq p4.1 p8.1) fun v9 => some (v9, p8.2)) (some (.no, p8.2))) fun p10 => bnd (apick p3.1 p10.1 (.c (.b false))) fun v11 => bnd (gd v11 true (some (a1, p10.2)) (some (.no, p10.2))) fun p12 => bnd (gd v11 true (bnd (afAddr ((.c (.p h.length 0))) 0) fun v13 => some (v13, p12.2)) (some (.no, p12.2))) fun p14 => bnd (gd v11 true (bnd (aload1 p14.2 p14.1) fun v15 => some (v15, p14.2)) (some (.no, p14.2))) fun p16 => bnd (gd v11 true (bnd (abin .lss p12.1 p16.1) fun v17 => some (v17, p16.2)) (some (.no, p16.2))) fun p18 => bnd (apick v11 p18.1 (.c (.b false))) fun v19 => some (v19, p18.2) := by kernel_rfl
theorem K_geom_IsData : FnK Try.prog 25 A_geom_IsData E_geom_IsData R_geom_IsData := .mk' (sound1 S_geom_ok_ok (sound1 S_geom_Data_ok sound0)) Try.func25 (by kernel_rfl) (by intro n args h; kernel_rfl)
def S_geom_IsData : Fun := tidy (Lim A_geom_IsData E_geom_IsData)
theorem S_geom_IsData_ok : SOk Try.prog 25 S_geom_IsData := K_geom_IsData.sok
theorem S_geom_IsData_flat {n : Nat} {args : List Val} {h h2 : Heap} {v : Val} (he : R_geom_IsData n args (ro h) = some (v, h2)) (hf : v.flat = true) : S_geom_IsData args h = some (v, h) := K_geom_IsData.flat he hf
def geom_IsInode_o0 : List AOper := [aO 2 (.box (.t 0)), aO 4 (.mv (.v (.c (.b false))))]
def geom_IsInode_c0 : ACode := .ops geom_IsInode_o0
def geom_IsInode_o1 : List AOper := [aO 5 (.loadN 3 (.t 2)), aO 6 (.call 63 [(.t 5)]), aO 7 (.mv (.t 6)), { dst := some 8, op := .mv (.t 1), guard := some (7, true) }, { dst := some 9, op := .bin .geq (.t 8) (.v (.c (.i .i64 1))), guard := some (7, true) }, aO 10 (.pick (.t 7) (.t 9) (.v (.c (.b false)))), aO 11 (.mv (.t 10)), { dst := some 12, op := .mv (.t 1), guard := some (11, true) }, { dst := some 13, op := .fAddr (.t 2) 1, guard := some (11, true) }, { dst := some 14, op := .load1 (.t 13), guard := some (11, true) }, { dst := some 15, op := .bin .leq (.t 12) (.t 14), guard := some (11, true) }, aO 16 (.pick (.t 11) (.t 15) (.v (.c (.b false)))), aO 4 (.mv (.t 16))]
def geom_IsInode_c1 : ACode := .ops geom_IsInode_o1
def geom_IsInode_c2 : ACode := .seq [4] geom_IsInode_c1 .ret
def geom_IsInode_c3 : ACode := .seq [1, 2] geom_IsInode_c0 geom_IsInode_c2
def A_geom_IsInode : AFn := ⟨geom_IsInode_c3, [.tmp 4]⟩
def E_geom_IsInode : Sums := disp 63 S_geom_ok disp0
def geom_IsInode_c0_d (n : Nat) : SmV := smOps E_geom_IsInode geom_IsInode_o0
def geom_IsInode_c1_d (n : Nat) : SmV := smOps E_geom_IsInode geom_IsInode_o1
def geom_IsInode_c2_d (n : Nat) : SmV := smSeq [4] (geom_IsInode_c1_d n) smRet
def geom_IsInode_c3_d (n : Nat) : SmV := smSeq [1, 2] (geom_IsInode_c0_d n) (geom_IsInode_c2_d n)
def R_geom_IsInode (n : Nat) (args : List Val) (h : Heap) : OptV := (geom_IsInode_c3_d n) A_geom_IsInode.fin (params 0 args) h
theorem R_geom_IsInode_eq (n : Nat) (a0 a1 : Val) (h : Heap) : R_geom_IsInode n [a0, a1] h = bnd (cells? a0) fun c1 => bnd (aloadN ((h ++ [some (Row.mk (c1) true)])) 3 ((.c (.p h.length 0)))) fun v2 => bnd (S_geom_ok [v2] ((h ++ [some (Row.mk (c1) true)]))) fun p3 => bnd (gd p3.1 true (some (a1, p3.2)) (some (.no, p3.2))) fun p4 => bnd (gd p3.1 true (bnd (abin .geq p4.1 (.c (.i .i64 1))) fun v5 => some (v5, p4.2)) (some (.no, p4.2))) fun p6 => bnd (apick p3.1 p6.1 (.c (.b false))) fun v7 => bnd (gd v7 true (some (a1, p6.2)) (some (.no, p6.2))) fun p8 => bnd (gd v7 true (bnd (afAddr ((.c (.p h.length 0))) 1) fun v9 => some (v9, p8.2)) (some (.no, p8.2))) fun p10 => bnd (gd v7 true (bnd (aload1 p10.2 p10.1) fun v11 => some (v11, p10.2)) (some (.no, p10.2))) fun p12 => bnd (gd v7 true (bnd (abin .leq p8.1 p12.1) fun v13 => some (v13, p12.2)) (some (.no, p12.2))) fun p14 => bnd (apick v7 p14.1 (.c (.b false))) fun v15 => some (v15, p14.2) := by kernel_rfl
theorem K_geom_IsInode : FnK Try.prog 102 A_geom_IsInode E_geom_IsInode R_geom_IsInode := .mk' (sound1 S_geom_ok_ok sound0) Try.func102 (by kernel_rfl) (by intro n args h; kernel_rfl)
def S_geom_IsInode : Fun := tidy (Lim A_geom_IsInode E_geom_IsInode)
theorem S_geom_IsInode_ok : SOk Try.prog 102 S_geom_IsInode := K_geom_IsInode.sok
theorem S_geom_IsInode_flat {n : Nat} {args : List Val} {h h2 : Heap} {v : Val} (he : R_geom_IsInode n args (ro h) = some (v, h2)) (hf : v.flat = true) : S_geom_IsInode args h = some (v, h) := K_geom_IsInode.flat he hf
def geom_Where_o0 : List AOper := [aO 2 (.box (.t 0)), aO 4 (.mv (.v (.c (.i .i64 0)))), aO 5 (.mv (.v (.c (.i .i64 0)))), aO 6 (.mv (.v (.c (.b false))))]
def geom_Where_c0 : ACode := .ops geom_Where_o0
def geom_Where_o1 : List AOper := [aO 9 (.loadN 3 (.t 2)), aO 10 (.mv (.t 1)), aO 11 (.call 102 [(.t 9), (.t 10)]), aO 12 (.un .not (.t 11))]
def geom_Where_c1 : ACode := .ops geom_Where_o1
def geom_Where_o2 : List AOper := [aO 4 (.mv (.v (.c (.i .i64 0)))), aO 5 (.mv (.v (.c (.i .i64 0)))), aO 6 (.mv (.v (.c (.b false))))]
def geom_Where_c2 : ACode := .ops geom_Where_o2
def geom_Where_c3 : ACode := .seq [4, 5, 6] geom_Where_c2 .ret
def geom_Where_c4 : ACode := .cond (.t 12) geom_Where_c3 .skip
def geom_Where_c5 : ACode := .seq [1, 2, 12] geom_Where_c1 geom_Where_c4
def geom_Where_o3 : List AOper := [aO 14 (.loadN 3 (.t 2)), aO 15 (.call 103 [(.t 14)]), aO 13 (.mv (.t 15)), aO 16 (.ext (.t 13) 0), aO 17 (.ext (.t 13) 1), aO 7 (.mv (.t 16)), aO 8 (.mv (.t 17))]
def geom_Where_c6 : ACode := .ops geom_Where_o3
def geom_Where_o4 : List AOper := [aO 18 (.mv (.t 7)), aO 19 (.mv (.t 1)), aO 20 (.bin .sub (.t 19) (.v (.c (.i .i64 1)))), aO 21 (.bin .quo (.t 20) (.v (.c (.i .i64 8)))), aO 22 (.bin .add (.t 18) (.t 21)), aO 23 (.mv (.t 1)), aO 24 (.bin .sub (.t 23) (.v (.c (.i .i64 1)))), aO 25 (.bin .rem (.t 24) (.v (.c (.i .i64 8)))), aO 4 (.mv (.t 22)), aO 5 (.mv (.t 25)), aO 6 (.mv (.v (.c (.b true))))]
def geom_Where_c7 : ACode := .ops geom_Where_o4
def geom_Where_c8 : ACode := .seq [4, 5, 6] geom_Where_c7 .ret
def geom_Where_c9 : ACode := .seq [1, 7] geom_Where_c6 geom_Where_c8
def geom_Where_c10 : ACode := .seq [1, 2] geom_Where_c5 geom_Where_c9
def geom_Where_c11 : ACode := .seq [1, 2] geom_Where_c0 geom_Where_c10
def A_geom_Where : AFn := ⟨geom_Where_c11, [.tmp 4, .tmp 5, .tmp 6]⟩
def E_geom_Where : Sums := disp 102 S_geom_IsInode (disp 103 S_geom_Table disp0)
def geom_Where_c0_d (n : Nat) : SmV := smOps E_geom_Where geom_Where_o0
def geom_Where_c1_d (n : Nat) : SmV := smOps E_geom_Where geom_Where_o1
def geom_Where_c2_d (n : Nat) : SmV := smOps E_geom_Where geom_Where_o2
def geom_Where_c3_d (n : Nat) : SmV := smSeq [4, 5, 6] (geom_Where_c2_d n) smRet
def geom_Where_c4_d (n : Nat) : SmV := smCond (.t 12) (geom_Where_c3_d n) smSkip
def geom_Where_c5_d (n : Nat) : SmV := smSeq [1, 2, 12] (geom_Where_c1_d n) (geom_Where_c4_d n)
def geom_Where_c6_d (n : Nat) : SmV := smOps E_geom_Where geom_Where_o3
def geom_Where_c7_d (n : Nat) : SmV := smOps E_geom_Where geom_Where_o4
def geom_Where_c8_d (n : Nat) : SmV := smSeq [4, 5, 6] (geom_Where_c7_d n) smRet
def geom_Where_c9_d (n : Nat) : SmV := smSeq [1, 7] (geom_Where_c6_d n) (geom_Where_c8_d n)
def geom_Where_c10_d (n : Nat) : SmV := smSeq [1, 2] (geom_Where_c5_d n) (geom_Where_c9_d n)
def geom_Where_c11_d (n : Nat) : SmV := smSeq [1, 2] (geom_Where_c0_d n) (geom_Where_c10_d n)
def R_geom_Where (n : Nat) (args : List Val) (h : Heap) : OptV := (geom_Where_c11_d n) A_geom_Where.fin (params 0 args) h
theorem R_geom_Where_eq (n : Nat) (a0 a1 : Val) (h : Heap) : R_geom_Where n [a0, a1] h = bnd (cells? a0) fun c1 => bnd (aloadN ((h ++ [some (Row.mk (c1) true)])) 3 ((.c (.p h.length 0)))) fun v2 => bnd (S_geom_IsInode [v2, a1] ((h ++ [some (Row.mk (c1) true)]))) fun p3 => bnd (aun .not p3.1) fun v4 => cnd v4 (tupN [some (.c (.i .i64 0)), some (.c (.i .i64 0)), some (.c (.b false))] p3.2) (bnd (aloadN p3.2 3 ((.c (.p h.length 0)))) fun v5 => bnd (S_geom_Table [v5] p3.2) fun p6 => bnd (aext p6.1 0) fun v7 => bnd (aext p6.1 1) fun v8 => bnd (abin .sub a1 (.c (.i .i64 1))) fun v9 => bnd (abin .quo v9 (.c (.i .i64 8))) fun v10 => bnd (abin .add v7 v10) fun v11 => bnd (abin .sub a1 (.c (.i .i64 1))) fun v12 => bnd (abin .rem v12 (.c (.i .i64 8))) fun v13 => tupN [some v11, some v13, some (.c (.b true))] p6.2) := by kernel_rfl
theorem K_geom_Where : FnK Try.prog 55 A_geom_Where E_geom_Where R_geom_Where := .mk' (sound1 S_geom_IsInode_ok (sound1 S_geom_Table_ok sound0)) Try.func55 (by kernel_rfl) (by intro n args h; kernel_rfl)
def S_geom_Where : Fun := tidy (Lim A_geom_Where E_geom_Where)
theorem S_geom_Where_ok : SOk Try.prog 55 S_geom_Where := K_geom_Where.sok
theorem S_geom_Where_flat {n : Nat} {args : List Val} {h h2 : Heap} {v : Val} (he : R_geom_Where n args (ro h) = some (v, h2)) (hf : v.flat = true) : S_geom_Where args h = some (v, h) := K_geom_Where.flat he hf
end Go.Proofs.Ytdgggnlbdoiloaa
end
noncomputable section
namespace Go.Proofs.Ytdgggnlbdoiloaa
open Go Go.Esc
set_option maxRecDepth 100000
def er14_May_o0 : List AOper := [aO 1 (.box (.t 0)), aO 2 (.mv (.v (.c (.b false))))]
def er14_May_c0 : ACode := .ops er14_May_o0
def er14_May_o1 : List AOper := [aO 3 (.fAddr (.t 1) 0), aO 4 (.load1 (.t 3)), aO 5 (.bin .geq (.t 4) (.v (.c (.i .i64 16)))), aO 6 (.mv (.t 5)), { dst := some 7, op := .fAddr (.t 1) 0, guard := some (6, true) }, { dst := some 8, op := .load1 (.t 7), guard := some (6, true) }, { dst := some 9, op := .bin .leq (.t 8) (.v (.c (.i .i64 512))), guard := some (6, true) }, aO 10 (.pick (.t 6) (.t 9) (.v (.c (.b false)))), aO 11 (.mv (.t 10)), { dst := some 12, op := .fAddr (.t 1) 1, guard := some (11, true) }, { dst := some 13, op := .load1 (.t 12), guard := some (11, true) }, { dst := some 14, op := .bin .geq (.t 13) (.v (.c (.i .i64 8))), guard := some (11, true) }, aO 15 (.pick (.t 11) (.t 14) (.v (.c (.b false)))), aO 16 (.mv (.t 15)), { dst := some 17, op := .fAddr (.t 1) 1, guard := some (16, true) }, { dst := some 18, op := .load1 (.t 17), guard := some (16, true) }, { dst := some 19, op := .bin .leq (.t 18) (.v (.c (.i .i64 128))), guard := some (16, true) }, aO 20 (.pick (.t 16) (.t 19) (.v (.c (.b false)))), aO 21 (.mv (.t 20)), { dst := some 22, op := .fAddr (.t 1) 1, guard := some (21, true) }, { dst := some 23, op := .load1 (.t 22), guard := some (21, true) }, { dst := some 24, op := .bin .rem (.t 23) (.v (.c (.i .i64 8))), guard := some (21, true) }, { dst := some 25, op := .bin .eql (.t 24) (.v (.c (.i .i64 0))), guard := some (21, true) }, aO 26 (.pick (.t 21) (.t 25) (.v (.c (.b false)))), aO 27 (.mv (.t 26)), { dst := some 28, op := .fAddr (.t 1) 1, guard := some (27, true) }, { dst := some 29, op := .load1 (.t 28), guard := some (27, true) }, { dst := some 30, op := .bin .quo (.t 29) (.v (.c (.i .i64 8))), guard := some (27, true) }, { dst := some 31, op := .bin .add (.v (.c (.i .i64 2))) (.t 30), guard := some (27, true) }, { dst := some 32, op := .fAddr (.t 1) 0, guard := some (27, true) }, { dst := some 33, op := .load1 (.t 32), guard := some (27, true) }, { dst := some 34, op := .bin .lss (.t 31) (.t 33), guard := some (27, true) }, aO 35 (.pick (.t 27) (.t 34) (.v (.c (.b false)))), aO 2 (.mv (.t 35))]
def er14_May_c1 : ACode := .ops er14_May_o1
def er14_May_c2 : ACode := .seq [2] er14_May_c1 .ret
def er14_May_c3 : ACode := .seq [1] er14_May_c0 er14_May_c2
def A_er14_May : AFn := ⟨er14_May_c3, [.tmp 2]⟩
def E_er14_May : Sums := disp0
def er14_May_c0_d (n : Nat) : SmV := smOps E_er14_May er14_May_o0
def er14_May_c1_d (n : Nat) : SmV := smOps E_er14_May er14_May_o1
def er14_May_c2_d (n : Nat) : SmV := smSeq [2] (er14_May_c1_d n) smRet
def er14_May_c3_d (n : Nat) : SmV := smSeq [1] (er14_May_c0_d n) (er14_May_c2_d n)
def R_er14_May (n : Nat) (args : List Val) (h : Heap) : OptV := (er14_May_c3_d n) A_er14_May.fin (params 0 args) h
theorem R_er14_May_eq (n : Nat) (a0 : Val) (h : Heap) : R_er14_May n [a0] h = bnd (cells? a0) fun c1 => bnd (afAddr ((.c (.p h.length 0))) 0) fun v2 => bnd (aload1 ((h ++ [some (Row.mk (c1) true)])) v2) fun v3 => bnd (abin .geq v3 (.c (.i .i64 16))) fun v4 => bnd (gd v4 true (bnd (afAddr ((.c (.p h.length 0))) 0) fun v5 => some (v5, (h ++ [some (Row.mk (c1) true)]))) (some (.no, (h ++ [some (Row.mk (c1) true)])))) fun p6 => bnd (gd v4 true (bnd (aload1 p6.2 p6.1) fun v7 => some (v7, p6.2)) (some (.no, p6.2))) fun p8 => bnd (gd v4 true (bnd (abin .leq p8.1 (.c (.i .i64 512))) fun v9 => some (v9, p8.2)) (some (.no, p8.2))) fun p10 => bnd (apick v4 p10.1 (.c (.b false))) fun v11 => bnd (gd v11 true (bnd (afAddr ((.c (.p h.length 0))) 1) fun v12 => some (v12, p10.2)) (some (.no, p10.2))) fun p13 => bnd (gd v11 true (bnd (aload1 p13.2 p13.1) fun v14 => some (v14, p13.2)) (some (.no, p13.2))) fun p15 => bnd (gd v11 true (bnd (abin .geq p15.1 (.c (.i .i64 8))) fun v16 => some (v16, p15.2)) (some (.no, p15.2))) fun p17 => bnd (apick v11 p17.1 (.c (.b false))) fun v18 => bnd (gd v18 true (bnd (afAddr ((.c (.p h.length 0))) 1) fun v19 => some (v19, p17.2)) (some (.no, p17.2))) fun p20 => bnd (gd v18 true (bnd (aload1 p20.2 p20.1) fun v21 => some (v21, p20.2)) (some (.no, p20.2))) fun p22 => bnd (gd v18 true (bnd (abin .leq p22.1 (.c (.i .i64 128))) fun v23 => some (v23, p22.2)) (some (.no, p22.2))) fun p24 => bnd (apick v18 p24.1 (.c (.b false))) fun v25 => bnd (gd v25 true (bnd (afAddr ((.c (.p h.length 0))) 1) fun v26 => some (v26, p24.2)) (some (.no, p24.2))) fun p27 => bnd (gd v25 true (bnd (aload1 p27.2 p27.1) fun v28 => some (v28, p27.2)) (some (.no, p27.2))) fun p29 => bnd (gd v25 true (bnd (abin .rem p29.1 (.c (.i .i64 8))) fun v30 => some (v30, p29.2)) (some (.no, p29.2))) fun p31 => bnd (gd v25 true (bnd (abin .eql p31.1 (.c (.i .i64 0))) fun v32 => some (v32, p31.2)) (some (.no, p31.2))) fun p33 => bnd (apick v25 p33.1 (.c (.b false))) fun v34 => bnd (gd v34 true (bnd (afAddr ((.c (.p h.length 0))) 1) fun v35 => some (v35, p33.2)) (some (.no, p33.2))) fun p36 => bnd (gd v34 true (bnd (aload1 p36.2 p36.1) fun v37 => some (v37, p36.2)) (some (.no, p36.2))) fun p38 => bnd (gd v34 true (bnd (abin .quo p38.1 (.c (.i .i64 8))) fun v39 => some (v39, p38.2)) (some (.no, p38.2))) fun p40 => bnd (gd v34 true (bnd (abin .add (.c (.i .i64 2)) p40.1) fun v41 => some (v41, p40.2)) (some (.no, p40.2))) fun p42 => bnd (gd v34 true (bnd (afAddr ((.c (.p h.length 0))) 0) fun v43 => some (v43, p42.2)) (some (.no, p42.2))) fun p44 => bnd (gd v34 true (bnd (aload1 p44.2 p44.1) fun v45 => some (v45, p44.2)) (some (.no, p44.2))) fun p46 => bnd (gd v34 true (bnd (abin .lss p42.1 p46.1) fun v47 => some (v47, p46.2)) (some (.no, p46.2))) fun p48 => bnd (apick v34 p48.1 (.c (.b false))) fun v49 => some (v49, p48.2) := by kernel_rfl
theorem K_er14_May : FnK Try.prog 41 A_er14_May E_er14_May R_er14_May := .mk' (sound0) Try.func41 (by kernel_rfl) (by intro n args h; kernel_rfl)
def S_er14_May : Fun := tidy (Lim A_er14_May E_er14_May)
theorem S_er14_May_ok : SOk Try.prog 41 S_er14_May := K_er14_May.sok
theorem S_er14_May_flat {n : Nat} {args : List Val} {h h2 : Heap} {v : Val} (he : R_er14_May n args (ro h) = some (v, h2)) (hf : v.flat = true) : S_er14_May args h = some (v, h) := K_er14_May.flat he hf
def er14_Put_o0 : List AOper := [aO 1 (.box (.t 0)), aO 2 (.nilrow 1)]
def er14_Put_c0 : ACode := .ops er14_Put_o0
def er14_Put_o1 : List AOper := [aO 4 (.buildSl 1 8 ([.i .u8 0, .i .u8 0, .i .u8 0, .i .u8 0, .i .u8 0, .i .u8 0, .i .u8 0, .i .u8 0]) [(0, 1, (.v (.c (.i .u8 101)))), (1, 1, (.v (.c (.i .u8 115)))), (2, 1, (.v (.c (.i .u8 99)))), (3, 1, (.v (.c (.i .u8 104)))), (4, 1, (.v (.c (.i .u8 101)))), (5, 1, (.v (.c (.i .u8 97)))), (6, 1, (.v (.c (.i .u8 116)))), (7, 1, (.v (.c (.i .u8 49))))]), aO 5 (.mark (.t 4)), aO 6 (.fAddr (.t 1) 0), aO 7 (.load1 (.t 6)), aO 8 (.conv .u64 (.t 7)), aO 9 (.call 138 [(.v (.c (.i .i64 2))), (.t 8)]), aO 10 (.app 1 (.t 5) (.t 9)), aO 3 (.mv (.t 10))]
def er14_Put_c1 : ACode := .ops er14_Put_o1
def er14_Put_o2 : List AOper := [aO 11 (.mv (.t 3)), aO 12 (.fAddr (.t 1) 1), aO 13 (.load1 (.t 12)), aO 14 (.conv .u64 (.t 13)), aO 15 (.call 138 [(.v (.c (.i .i64 2))), (.t 14)]), aO 16 (.app 1 (.t 11) (.t 15)), aO 3 (.mv (.t 16))]
def er14_Put_c2 : ACode := .ops er14_Put_o2
def er14_Put_o3 : List AOper := [aO 17 (.mv (.t 3)), aO 18 (.fAddr (.t 1) 2), aO 19 (.load1 (.t 18)), aO 20 (.call 138 [(.v (.c (.i .i64 8))), (.t 19)]), aO 21 (.app 1 (.t 17) (.t 20)), aO 3 (.mv (.t 21))]
def er14_Put_c3 : ACode := .ops er14_Put_o3
def er14_Put_o4 : List AOper := [aO 22 (.mv (.t 3)), aO 23 (.mv (.t 3)), aO 24 (.b2s (.t 23)), aO 25 (.call 139 [(.t 24)]), aO 26 (.call 138 [(.v (.c (.i .i64 4))), (.t 25)]), aO 27 (.app 1 (.t 22) (.t 26)), aO 3 (.mv (.t 27))]
def er14_Put_c4 : ACode := .ops er14_Put_o4
def er14_Put_o5 : List AOper := [aO 28 (.mkSl 1 ([.i .u8 0]) (.v (.c (.i .i64 256))) (.v (.c (.i .i64 256)))), aO 29 (.mv (.t 3)), aO 30 (.call 140 [(.t 28), (.v (.c (.i .i64 0))), (.t 29)]), aO 2 (.mv (.t 30))]
def er14_Put_c5 : ACode := .ops er14_Put_o5
def er14_Put_c6 : ACode := .seq [2] er14_Put_c5 .ret
def er14_Put_c7 : ACode := .seq [3] er14_Put_c4 er14_Put_c6
def er14_Put_c8 : ACode := .seq [3] er14_Put_c3 er14_Put_c7
def er14_Put_c9 : ACode := .seq [1, 3] er14_Put_c2 er14_Put_c8
def er14_Put_c10 : ACode := .seq [1, 3] er14_Put_c1 er14_Put_c9
def er14_Put_c11 : ACode := .seq [1] er14_Put_c0 er14_Put_c10
def A_er14_Put : AFn := ⟨er14_Put_c11, [.tmp 2]⟩
def E_er14_Put : Sums := disp 138 S_er01_Bytes (disp 139 S_er02_Of (disp 140 S_er01_Lay disp0))
def er14_Put_c0_d (n : Nat) : SmV := smOps E_er14_Put er14_Put_o0
def er14_Put_c1_d (n : Nat) : SmV := smOps E_er14_Put er14_Put_o1
def er14_Put_c2_d (n : Nat) : SmV := smOps E_er14_Put er14_Put_o2
def er14_Put_c3_d (n : Nat) : SmV := smOps E_er14_Put er14_Put_o3
def er14_Put_c4_d (n : Nat) : SmV := smOps E_er14_Put er14_Put_o4
def er14_Put_c5_d (n : Nat) : SmV := smOps E_er14_Put er14_Put_o5
def er14_Put_c6_d (n : Nat) : SmV := smSeq [2] (er14_Put_c5_d n) smRet
def er14_Put_c7_d (n : Nat) : SmV := smSeq [3] (er14_Put_c4_d n) (er14_Put_c6_d n)
def er14_Put_c8_d (n : Nat) : SmV := smSeq [3] (er14_Put_c3_d n) (er14_Put_c7_d n)
def er14_Put_c9_d (n : Nat) : SmV := smSeq [1, 3] (er14_Put_c2_d n) (er14_Put_c8_d n)
def er14_Put_c10_d (n : Nat) : SmV := smSeq [1, 3] (er14_Put_c1_d n) (er14_Put_c9_d n)
def er14_Put_c11_d (n : Nat) : SmV := smSeq [1] (er14_Put_c0_d n) (er14_Put_c10_d n)
def R_er14_Put (n : Nat) (args : List Val) (h : Heap) : OptV := (er14_Put_c11_d n) A_er14_Put.fin (params 0 args) h
theorem R_er14_Put_eq (n : Nat) (a0 : Val) (h : Heap) : R_er14_Put n [a0] h = bnd (cells? a0) fun c1 => bnd (afill ([.i .u8 0, .i .u8 0, .i .u8 0, .i .u8 0, .i .u8 0, .i .u8 0, .i .u8 0, .i .u8 0]) [(0, 1, .c (.i .u8 101)), (1, 1, .c (.i .u8 115)), (2, 1, .c (.i .u8 99)), (3, 1, .c (.i .u8 104)), (4, 1, .c (.i .u8 101)), (5, 1, .c (.i .u8 97)), (6, 1, .c (.i .u8 116)), (7, 1, .c (.i .u8 49))]) fun c2 => bnd (amark ((((h ++ [some (Row.mk (c1) true)]) ++ [some (Row.mk ([]) true)]) ++ [some (Row.mk (c2) true)])) ((.c (.sl (((h ++ [some (Row.mk (c1) true)]) ++ [some (Row.mk ([]) true)])).length 0 8 1)))) fun v3 => bnd (afAddr ((.c (.p h.length 0))) 0) fun v4 => bnd (aload1 ((((h ++ [some (Row.mk (c1) true)]) ++ [some (Row.mk ([]) true)]) ++ [some (Row.mk (c2) true)])) v4) fun v5 => bnd (aconv .u64 v5) fun v6 => bnd (S_er01_Bytes [.c (.i .i64 2), v6] ((((h ++ [some (Row.mk (c1) true)]) ++ [some (Row.mk ([]) true)]) ++ [some (Row.mk (c2) true)]))) fun p7 => bnd (aapp p7.2 1 v3 p7.1) fun p8 => bnd (afAddr ((.c (.p h.length 0))) 1) fun v9 => bnd (aload1 p8.2 v9) fun v10 => bnd (aconv .u64 v10) fun v11 => bnd (S_er01_Bytes [.c (.i .i64 2), v11] p8.2) fun p12 => bnd (aapp p12.2 1 p8.1 p12.1) fun p13 => bnd (afAddr ((.c (.p h.length 0))) 2) fun v14 => bnd (aload1 p13.2 v14) fun v15 => bnd (S_er01_Bytes [.c (.i .i64 8), v15] p13.2) fun p16 => bnd (aapp p16.2 1 p13.1 p16.1) fun p17 => bnd (ab2s p17.2 p17.1) fun v18 => bnd (S_er02_Of [v18] p17.2) fun p19 => bnd (S_er01_Bytes [.c (.i .i64 4), p19.1] p19.2) fun p20 => bnd (aapp p20.2 1 p17.1 p20.1) fun p21 => bnd (amkn (.c (.i .i64 256)) (.c (.i .i64 256))) fun n22 => bnd (S_er01_Lay [(.c (.sl p21.2.length 0 n22 1)), .c (.i .i64 0), p21.1] ((p21.2 ++ [some (Row.mk (rows ([.i .u8 0]) n22) true)]))) fun p23 => some (p23.1, p23.2) := by kernel_rfl
theorem K_er14_Put : FnK Try.prog 112 A_er14_Put E_er14_Put R_er14_Put := .mk' (sound1 S_er01_Bytes_ok (sound1 S_er02_Of_ok (sound1 S_er01_Lay_ok sound0))) Try.func112 (by kernel_rfl) (by intro n args h; kernel_rfl)
def S_er14_Put : Fun := tidy (Lim A_er14_Put E_er14_Put)
theorem S_er14_Put_ok : SOk Try.prog 112 S_er14_Put := K_er14_Put.sok
theorem S_er14_Put_out {n : Nat} {args : List Val} {h h2 : Heap} {v : Val} {sz k : Nat} {cs : List Cell} (he : R_er14_Put n args (ro h) = some (v, h2)) (ho : Out h.length h2 v sz k cs) (hf : flats cs = true) : S_er14_Put args h = some (.c (.sl h.length 0 k sz), h ++ [some ⟨cs, true⟩]) := K_er14_Put.out he ho hf
def er14_Get_o0 : List AOper := [aO 2 (.alloc ([.i .i64 0, .i .i64 0, .i .u64 0])), aO 3 (.mv (.v (.c (.b false))))]
def er14_Get_c0 : ACode := .ops er14_Get_o0
def er14_Get_o1 : List AOper := [aO 8 (.mv (.t 0)), aO 9 (.call 110 [(.t 8), (.v (.c (.i .i64 12))), (.v (.c (.i .i64 8)))]), aO 7 (.mv (.t 9)), aO 10 (.ext (.t 7) 0), aO 11 (.ext (.t 7) 1), aO 4 (.mv (.t 10)), aO 5 (.mv (.t 11))]
def er14_Get_c1 : ACode := .ops er14_Get_o1
def er14_Get_o2 : List AOper := [aO 12 (.mv (.t 0)), aO 13 (.call 111 [(.t 12), (.v (.c (.i .i64 8))), (.v (.c (.i .i64 2)))]), aO 14 (.mv (.t 0)), aO 15 (.call 111 [(.t 14), (.v (.c (.i .i64 10))), (.v (.c (.i .i64 2)))]), aO 16 (.mv (.t 4)), aO 17 (.build ([.i .i64 0, .i .i64 0, .i .u64 0]) [(0, 1, (.t 13)), (1, 1, (.t 15)), (2, 1, (.t 16))]), aO 6 (.alloc ([.i .i64 0, .i .i64 0, .i .u64 0])), { dst := none, op := .storeN 3 (.t 6) (.t 17) }]
def er14_Get_c2 : ACode := .ops er14_Get_o2
def er14_Get_o3 : List AOper := [aO 18 (.loadN 3 (.t 6)), aO 19 (.call 41 [(.t 18)]), aO 20 (.un .not (.t 19)), aO 21 (.mv (.t 20)), { dst := some 22, op := .loadN 3 (.t 6), guard := some (21, false) }, { dst := some 23, op := .call 112 [(.t 22)], guard := some (21, false) }, { dst := some 24, op := .mv (.t 0), guard := some (21, false) }, { dst := some 25, op := .call 21 [(.t 23), (.t 24)], guard := some (21, false) }, { dst := some 26, op := .un .not (.t 25), guard := some (21, false) }, aO 27 (.pick (.t 21) (.v (.c (.b true))) (.t 26))]
def er14_Get_c3 : ACode := .ops er14_Get_o3
def er14_Get_o4 : List AOper := [aO 28 (.build ([.i .i64 0, .i .i64 0, .i .u64 0]) []), { dst := none, op := .storeN 3 (.t 2) (.t 28) }, aO 3 (.mv (.v (.c (.b false))))]
def er14_Get_c4 : ACode := .ops er14_Get_o4
def er14_Get_c5 : ACode := .seq [2, 3] er14_Get_c4 .ret
def er14_Get_c6 : ACode := .cond (.t 27) er14_Get_c5 .skip
def er14_Get_c7 : ACode := .seq [2, 6, 27] er14_Get_c3 er14_Get_c6
def er14_Get_o5 : List AOper := [aO 29 (.loadN 3 (.t 6)), { dst := none, op := .storeN 3 (.t 2) (.t 29) }, aO 3 (.mv (.v (.c (.b true))))]
def er14_Get_c8 : ACode := .ops er14_Get_o5
def er14_Get_c9 : ACode := .seq [2, 3] er14_Get_c8 .ret
def er14_Get_c10 : ACode := .seq [2, 6] er14_Get_c7 er14_Get_c9
def er14_Get_c11 : ACode := .seq [0, 2, 6] er14_Get_c2 er14_Get_c10
def er14_Get_c12 : ACode := .seq [0, 2, 4] er14_Get_c1 er14_Get_c11
def er14_Get_c13 : ACode := .seq [0, 2] er14_Get_c0 er14_Get_c12
def A_er14_Get : AFn := ⟨er14_Get_c13, [.cellN 2 3, .tmp 3]⟩
def E_er14_Get : Sums := disp 110 S_er01_Get (disp 111 S_er01_At (disp 41 S_er14_May (disp 112 S_er14_Put (disp 21 S_er01_Same disp0))))
def er14_Get_c0_d (n : Nat) : SmV := smOps E_er14_Get er14_Get_o0
def er14_Get_c1_d (n : Nat) : SmV := smOps E_er14_Get er14_Get_o1
def er14_Get_c2_d (n : Nat) : SmV := smOps E_er14_Get er14_Get_o2
def er14_Get_c3_d (n : Nat) : SmV := smOps E_er14_Get er14_Get_o3
def er14_Get_c4_d (n : Nat) : SmV := smOps E_er14_Get er14_Get_o4
def er14_Get_c5_d (n : Nat) : SmV := smSeq [2, 3] (er14_Get_c4_d n) smRet
def er14_Get_c6_d (n : Nat) : SmV := smCond (.t 27) (er14_Get_c5_d n) smSkip
def er14_Get_c7_d (n : Nat) : SmV := smSeq [2, 6, 27] (er14_Get_c3_d n) (er14_Get_c6_d n)
def er14_Get_c8_d (n : Nat) : SmV := smOps E_er14_Get er14_Get_o5
def er14_Get_c9_d (n : Nat) : SmV := smSeq [2, 3] (er14_Get_c8_d n) smRet
def er14_Get_c10_d (n : Nat) : SmV := smSeq [2, 6] (er14_Get_c7_d n) (er14_Get_c9_d n)
def er14_Get_c11_d (n : Nat) : SmV := smSeq [0, 2, 6] (er14_Get_c2_d n) (er14_Get_c10_d n)
def er14_Get_c12_d (n : Nat) : SmV := smSeq [0, 2, 4] (er14_Get_c1_d n) (er14_Get_c11_d n)
def er14_Get_c13_d (n : Nat) : SmV := smSeq [0, 2] (er14_Get_c0_d n) (er14_Get_c12_d n)
def R_er14_Get (n : Nat) (args : List Val) (h : Heap) : OptV := (er14_Get_c13_d n) A_er14_Get.fin (params 0 args) h
theorem R_er14_Get_eq (n : Nat) (a0 : Val) (h : Heap) : R_er14_Get n [a0] h = bnd (S_er01_Get [a0, .c (.i .i64 12), .c (.i .i64 8)] ((h ++ [some (Row.mk ([.i .i64 0, .i .i64 0, .i .u64 0]) true)]))) fun p1 => bnd (aext p1.1 0) fun v2 => bnd (aext p1.1 1) fun v3 => bnd (S_er01_At [a0, .c (.i .i64 8), .c (.i .i64 2)] p1.2) fun p4 => bnd (S_er01_At [a0, .c (.i .i64 10), .c (.i .i64 2)] p4.2) fun p5 => bnd (afill ([.i .i64 0, .i .i64 0, .i .u64 0]) [(0, 1, p4.1), (1, 1, p5.1), (2, 1, v2)]) fun c6 => bnd (astoreN ((p5.2 ++ [some (Row.mk ([.i .i64 0, .i .i64 0, .i .u64 0]) true)])) 3 ((.c (.p p5.2.length 0))) ((.a c6))) fun h7 => bnd (aloadN h7 3 ((.c (.p p5.2.length 0)))) fun v8 => bnd (S_er14_May [v8] h7) fun p9 => bnd (aun .not p9.1) fun v10 => bnd (gd v10 false (bnd (aloadN p9.2 3 ((.c (.p p5.2.length 0)))) fun v11 => some (v11, p9.2)) (some (.no, p9.2))) fun p12 => bnd (gd v10 false (bnd (S_er14_Put [p12.1] p12.2) fun p13 => some (p13.1, p13.2)) (some (.no, p12.2))) fun p14 => bnd (gd v10 false (some (a0, p14.2)) (some (.no, p14.2))) fun p15 => bnd (gd v10 false (bnd (S_er01_Same [p14.1, p15.1] p15.2) fun p16 => some (p16.1, p16.2)) (some (.no, p15.2))) fun p17 => bnd (gd v10 false (bnd (aun .not p17.1) fun v18 => some (v18, p17.2)) (some (.no, p17.2))) fun p19 => bnd (apick v10 (.c (.b true)) p19.1) fun v20 => cnd v20 (bnd (afill ([.i .i64 0, .i .i64 0, .i .u64 0]) []) fun c21 => bnd (astoreN p19.2 3 ((.c (.p h.length 0))) ((.a c21))) fun h22 => tupN [aloadN h22 3 ((.c (.p h.length 0))), some (.c (.b false))] h22) (bnd (aloadN p19.2 3 ((.c (.p p5.2.length 0)))) fun v23 => bnd (astoreN p19.2 3 ((.c (.p h.length 0))) v23) fun h24 => tupN [aloadN h24 3 ((.c (.p h.length 0))), some (.c (.b true))] h24) := by kernel_rfl
theorem K_er14_Get : FnK Try.prog 69 A_er14_Get E_er14_Get R_er14_Get := .mk' (sound1 S_er01_Get_ok (sound1 S_er01_At_ok (sound1 S_er14_May_ok (sound1 S_er14_Put_ok (sound1 S_er01_Same_ok sound0))))) Try.func69 (by kernel_rfl) (by intro n args h; kernel_rfl)
def S_er14_Get : Fun := tidy (Lim A_er14_Get E_er14_Get)
theorem S_er14_Get_ok : SOk Try.prog 69 S_er14_Get := K_er14_Get.sok
theorem S_er14_Get_flat {n : Nat} {args : List Val} {h h2 : Heap} {v : Val} (he : R_er14_Get n args (ro h) = some (v, h2)) (hf : v.flat = true) : S_er14_Get args h = some (v, h) := K_er14_Get.flat he hf
end Go.Proofs.Ytdgggnlbdoiloaa
end
noncomputable section
namespace Go.Proofs.Ytdgggnlbdoiloaa
open Go Go.Esc
set_option maxRecDepth 100000
def er15_Area_o0 : List AOper := [aO 2 (.box (.t 0)), aO 4 (.mv (.v (.c (.i .i64 0))))]
def er15_Area_c0 : ACode := .ops er15_Area_o0
def er15_Area_o1 : List AOper := [aO 5 (.loadN 3 (.t 2)), aO 6 (.call 41 [(.t 5)]), aO 7 (.un .not (.t 6)), aO 8 (.mv (.t 7)), { dst := some 9, op := .mv (.t 1), guard := some (8, false) }, { dst := some 10, op := .bin .lss (.t 9) (.v (.c (.i .i64 0))), guard := some (8, false) }, aO 11 (.pick (.t 8) (.v (.c (.b true))) (.t 10)), aO 12 (.mv (.t 11)), { dst := some 13, op := .mv (.t 1), guard := some (12, false) }, { dst := some 14, op := .fAddr (.t 2) 0, guard := some (12, false) }, { dst := some 15, op := .load1 (.t 14), guard := some (12, false) }, { dst := some 16, op := .bin .geq (.t 13) (.t 15), guard := some (12, false) }, aO 17 (.pick (.t 12) (.v (.c (.b true))) (.t 16))]
def er15_Area_c1 : ACode := .ops er15_Area_o1
def er15_Area_o2 : List AOper := [aO 4 (.mv (.v (.c (.i .i64 0))))]
def er15_Area_c2 : ACode := .ops er15_Area_o2
def er15_Area_c3 : ACode := .seq [4] er15_Area_c2 .ret
def er15_Area_c4 : ACode := .cond (.t 17) er15_Area_c3 .skip
def er15_Area_c5 : ACode := .seq [1, 2, 17] er15_Area_c1 er15_Area_c4
def er15_Area_o3 : List AOper := [aO 18 (.mv (.t 1)), aO 19 (.bin .lss (.t 18) (.v (.c (.i .i64 2))))]
def er15_Area_c6 : ACode := .ops er15_Area_o3
def er15_Area_o4 : List AOper := [aO 20 (.mv (.t 1)), aO 21 (.bin .add (.t 20) (.v (.c (.i .i64 1)))), aO 4 (.mv (.t 21))]
def er15_Area_c7 : ACode := .ops er15_Area_o4
def er15_Area_c8 : ACode := .seq [4] er15_Area_c7 .ret
def er15_Area_c9 : ACode := .cond (.t 19) er15_Area_c8 .skip
def er15_Area_c10 : ACode := .seq [1, 2, 19] er15_Area_c6 er15_Area_c9
def er15_Area_o5 : List AOper := [aO 22 (.mv (.t 1)), aO 23 (.bin .sub (.t 22) (.v (.c (.i .i64 2)))), aO 24 (.bin .mul (.t 23) (.v (.c (.i .i64 8)))), aO 25 (.fAddr (.t 2) 1), aO 26 (.load1 (.t 25)), aO 27 (.bin .lss (.t 24) (.t 26))]
def er15_Area_c11 : ACode := .ops er15_Area_o5
def er15_Area_o6 : List AOper := [aO 4 (.mv (.v (.c (.i .i64 3))))]
def er15_Area_c12 : ACode := .ops er15_Area_o6
def er15_Area_c13 : ACode := .seq [4] er15_Area_c12 .ret
def er15_Area_c14 : ACode := .cond (.t 27) er15_Area_c13 .skip
def er15_Area_c15 : ACode := .seq [27] er15_Area_c11 er15_Area_c14
def er15_Area_o7 : List AOper := [aO 4 (.mv (.v (.c (.i .i64 4))))]
def er15_Area_c16 : ACode := .ops er15_Area_o7
def er15_Area_c17 : ACode := .seq [4] er15_Area_c16 .ret
def er15_Area_c18 : ACode := .seq [] er15_Area_c15 er15_Area_c17
def er15_Area_c19 : ACode := .seq [1, 2] er15_Area_c10 er15_Area_c18
def er15_Area_c20 : ACode := .seq [1, 2] er15_Area_c5 er15_Area_c19
def er15_Area_c21 : ACode := .seq [1, 2] er15_Area_c0 er15_Area_c20
def A_er15_Area : AFn := ⟨er15_Area_c21, [.tmp 4]⟩
def E_er15_Area : Sums := disp 41 S_er14_May disp0
def er15_Area_c0_d (n : Nat) : SmV := smOps E_er15_Area er15_Area_o0
def er15_Area_c1_d (n : Nat) : SmV := smOps E_er15_Area er15_Area_o1
def er15_Area_c2_d (n : Nat) : SmV := smOps E_er15_Area er15_Area_o2
def er15_Area_c3_d (n : Nat) : SmV := smSeq [4] (er15_Area_c2_d n) smRet
def er15_Area_c4_d (n : Nat) : SmV := smCond (.t 17) (er15_Area_c3_d n) smSkip
def er15_Area_c5_d (n : Nat) : SmV := smSeq [1, 2, 17] (er15_Area_c1_d n) (er15_Area_c4_d n)
def er15_Area_c6_d (n : Nat) : SmV := smOps E_er15_Area er15_Area_o3
def er15_Area_c7_d (n : Nat) : SmV := smOps E_er15_Area er15_Area_o4
def er15_Area_c8_d (n : Nat) : SmV := smSeq [4] (er15_Area_c7_d n) smRet
def er15_Area_c9_d (n : Nat) : SmV := smCond (.t 19) (er15_Area_c8_d n) smSkip
def er15_Area_c10_d (n : Nat) : SmV := smSeq [1, 2, 19] (er15_Area_c6_d n) (er15_Area_c9_d n)
def er15_Area_c11_d (n : Nat) : SmV := smOps E_er15_Area er15_Area_o5
def er15_Area_c12_d (n : Nat) : SmV := smOps E_er15_Area er15_Area_o6
def er15_Area_c13_d (n : Nat) : SmV := smSeq [4] (er15_Area_c12_d n) smRet
def er15_Area_c14_d (n : Nat) : SmV := smCond (.t 27) (er15_Area_c13_d n) smSkip
def er15_Area_c15_d (n : Nat) : SmV := smSeq [27] (er15_Area_c11_d n) (er15_Area_c14_d n)
def er15_Area_c16_d (n : Nat) : SmV := smOps E_er15_Area er15_Area_o7
def er15_Area_c17_d (n : Nat) : SmV := smSeq [4] (er15_Area_c16_d n) smRet
def er15_Area_c18_d (n : Nat) : SmV := smSeq [] (er15_Area_c15_d n) (er15_Area_c17_d n)
def er15_Area_c19_d (n : Nat) : SmV := smSeq [1, 2] (er15_Area_c10_d n) (er15_Area_c18_d n)
def er15_Area_c20_d (n : Nat) : SmV := smSeq [1, 2] (er15_Area_c5_d n) (er15_Area_c19_d n)
def er15_Area_c21_d (n : Nat) : SmV := smSeq [1, 2] (er15_Area_c0_d n) (er15_Area_c20_d n)
def R_er15_Area (n : Nat) (args : List Val) (h : Heap) : OptV := (er15_Area_c21_d n) A_er15_Area.fin (params 0 args) h
theorem R_er15_Area_eq (n : Nat) (a0 a1 : Val) (h : Heap) : R_er15_Area n [a0, a1] h = bnd (cells? a0) fun c1 => bnd (aloadN ((h ++ [some (Row.mk (c1) true)])) 3 ((.c (.p h.length 0)))) fun v2 => bnd (S_er14_May [v2] ((h ++ [some (Row.mk (c1) true)]))) fun p3 => bnd (aun .not p3.1) fun v4 => bnd (gd v4 false (some (a1, p3.2)) (some (.no, p3.2))) fun p5 => bnd (gd v4 false (bnd (abin .lss p5.1 (.c (.i .i64 0))) fun v6 => some (v6, p5.2)) (some (.no, p5.2))) fun p7 => bnd (apick v4 (.c (.b true)) p7.1) fun v8 => bnd (gd v8 false (some (a1, p7.2)) (some (.no, p7.2))) fun p9 => bnd (gd v8 false (bnd (afAddr ((.c (.p h.length 0))) 0) fun v10 => some (v10, p9.2)) (some (.no, p9.2))) fun p11 => bnd (gd v8 false (bnd (aload1 p11.2 p11.1) fun v12 => some (v12, p11.2)) (some (.no, p11.2))) fun p13 => bnd (gd v8 false (bnd (abin .geq p9.1 p13.1) fun v14 => some (v14, p13.2)) (some (.no, p13.2))) fun p15 => bnd (apick v8 (.c (.b true)) p15.1) fun v16 => cnd v16 (some ((.c (.i .i64 0)), p15.2)) (bnd (abin .lss a1 (.c (.i .i64 2))) fun v17 => cnd v17 (bnd (abin .add a1 (.c (.i .i64 1))) fun v18 => some (v18, p15.2)) (bnd (abin .sub a1 (.c (.i .i64 2))) fun v19 => bnd (abin .mul v19 (.c (.i .i64 8))) fun v20 => bnd (afAddr ((.c (.p h.length 0))) 1) fun v21 => bnd (aload1 p15.2 v21) fun v22 => bnd (abin .lss v20 v22) fun v23 => cnd v23 (some ((.c (.i .i64 3)), p15.2)) (some ((.c (.i .i64 4)), p15.2)))) := by kernel_rfl
theorem K_er15_Area : FnK Try.prog 119 A_er15_Area E_er15_Area R_er15_Area := .mk' (sound1 S_er14_May_ok sound0) Try.func119 (by kernel_rfl) (by intro n args h; kernel_rfl)
def S_er15_Area : Fun := tidy (Lim A_er15_Area E_er15_Area)
theorem S_er15_Area_ok : SOk Try.prog 119 S_er15_Area := K_er15_Area.sok
theorem S_er15_Area_flat {n : Nat} {args : List Val} {h h2 : Heap} {v : Val} (he : R_er15_Area n args (ro h) = some (v, h2)) (hf : v.flat = true) : S_er15_Area args h = some (v, h) := K_er15_Area.flat he hf
end Go.Proofs.Ytdgggnlbdoiloaa
end
section
namespace Go.Proofs.Ytdgggnlbdoiloaa
open Go Go.Esc

def mayL (b n : Int) : Bool := decide (16 ≤ b) && decide (b ≤ 512) && decide (8 ≤ n) && decide (n ≤ 128) && decide (n % 8 = 0) && decide (2 + n / 8 < b)

theorem mayL_true {b n : Int} : mayL b n = true ↔ 16 ≤ b ∧ b ≤ 512 ∧ 8 ≤ n ∧ n ≤ 128 ∧ n % 8 = 0 ∧ 2 + n / 8 < b := by
  unfold mayL; simp [and_assoc]
theorem mayL_false {b n : Int} : mayL b n = false ↔ ¬ (16 ≤ b ∧ b ≤ 512 ∧ 8 ≤ n ∧ n ≤ 128 ∧ n % 8 = 0 ∧ 2 + n / 8 < b) := by
  rw [← mayL_true]; simp

abbrev layC (b n m : Int) : List Cell := [.i .i64 b, .i .i64 n, .i .u64 m]

theorem super_Check_eq {b n m : Int} {h : Heap} : S_super_Check [.a (layC b n m)] h = some (.c (.i .i64 (bif mayL b n then 0 else 1)), h) := by
  have key : ∀ g, ∃ g', R_super_Check 0 [.a (layC b n m)] g = some (.c (.i .i64 (bif mayL b n then 0 else 1)), g') := by
    intro g
    rw [R_super_Check_eq]
    have bad : mayL b n = false → (some (Val.c (.i .i64 1), g ++ [some ⟨layC b n m, true⟩])) = some (.c (.i .i64 (bif mayL b n then 0 else 1)), g ++ [some ⟨layC b n m, true⟩]) := fun h => by rw [h]; rfl
    by_cases c1 : b < 16
    · rw [mayL_false.2 (by omega)]
      exact ⟨_, by simp only [esc, esh, Nat.reduceAdd, Nat.reduceMul, Nat.reduceLT, c1, super_Check_j0_eq] <;> rfl⟩
    · by_cases c2 : 512 < b
      · rw [mayL_false.2 (by omega)]
        exact ⟨_, by simp only [esc, esh, Nat.reduceAdd, Nat.reduceMul, Nat.reduceLT, c1, c2, super_Check_j0_eq] <;> rfl⟩
      · by_cases c3 : n < 8
        · rw [mayL_false.2 (by omega)]
          exact ⟨_, by simp only [esc, esh, Nat.reduceAdd, Nat.reduceMul, Nat.reduceLT, c1, c2, c3, super_Check_j0_eq, super_Check_j1_eq] <;> rfl⟩
        · by_cases c4 : 128 < n
          · rw [mayL_false.2 (by omega)]
            exact ⟨_, by simp only [esc, esh, Nat.reduceAdd, Nat.reduceMul, Nat.reduceLT, c1, c2, c3, c4, super_Check_j0_eq, super_Check_j1_eq] <;> rfl⟩
          · have e1 := rem_i (a := n) (b := 8) (k := .i64) (by omega) (by omega)
            by_cases c5 : n % 8 = 0
            · have e2 := quo_i64 (a := n) (b := 8) (by omega) (by omega) (by omega)
              have e3 : IntKind.wrap .i64 (2 + n / 8) = 2 + n / 8 := wrap_i64 (by omega) (by omega)
              by_cases c6 : b ≤ 2 + n / 8
              · rw [mayL_false.2 (by omega)]
                exact ⟨_, by simp only [esc, esh, Nat.reduceAdd, Nat.reduceMul, Nat.reduceLT, c1, c2, c3, c4, e1, c5, e2, e3, c6, super_Check_j0_eq, super_Check_j1_eq] <;> rfl⟩
              · rw [mayL_true.2 (by omega)]
                exact ⟨_, by simp only [esc, esh, Nat.reduceAdd, Nat.reduceMul, Nat.reduceLT, c1, c2, c3, c4, e1, c5, e2, e3, c6, super_Check_j0_eq, super_Check_j1_eq] <;> rfl⟩
            · rw [mayL_false.2 (by omega)]
              exact ⟨_, by simp only [esc, esh, Nat.reduceAdd, Nat.reduceMul, Nat.reduceLT, c1, c2, c3, c4, e1, c5, super_Check_j0_eq, super_Check_j1_eq] <;> rfl⟩
  obtain ⟨g', e⟩ := key (ro h)
  exact S_super_Check_flat e (by simp)

theorem ref14_May_eq {b n m : Int} {h : Heap} : S_er14_May [.a (layC b n m)] h = some (.c (.b (mayL b n)), h) := by
  have key : ∀ g, ∃ g', R_er14_May 0 [.a (layC b n m)] g = some (.c (.b (mayL b n)), g') := by
    intro g
    rw [R_er14_May_eq]
    by_cases c1 : 16 ≤ b
    · by_cases c2 : b ≤ 512
      · by_cases c3 : 8 ≤ n
        · by_cases c4 : n ≤ 128
          · have e1 := rem_i (a := n) (b := 8) (k := .i64) (by omega) (by omega)
            by_cases c5 : n % 8 = 0
            · have e2 := quo_i64 (a := n) (b := 8) (by omega) (by omega) (by omega)
              have e3 : IntKind.wrap .i64 (2 + n / 8) = 2 + n / 8 := wrap_i64 (by omega) (by omega)
              by_cases c6 : 2 + n / 8 < b
              · rw [mayL_true.2 (by omega)]
                exact ⟨_, by simp only [esc, esh, Nat.reduceAdd, Nat.reduceMul, Nat.reduceLT, c1, c2, c3, c4, e1, c5, e2, e3, c6] <;> rfl⟩
              · rw [mayL_false.2 (by omega)]
                exact ⟨_, by simp only [esc, esh, Nat.reduceAdd, Nat.reduceMul, Nat.reduceLT, c1, c2, c3, c4, e1, c5, e2, e3, c6] <;> rfl⟩
            · rw [mayL_false.2 (by omega)]
              exact ⟨_, by simp only [esc, esh, Nat.reduceAdd, Nat.reduceMul, Nat.reduceLT, c1, c2, c3, c4, e1, c5] <;> rfl⟩
          · rw [mayL_false.2 (by omega)]
            exact ⟨_, by simp only [esc, esh, Nat.reduceAdd, Nat.reduceMul, Nat.reduceLT, c1, c2, c3, c4] <;> rfl⟩
        · rw [mayL_false.2 (by omega)]
          exact ⟨_, by simp only [esc, esh, Nat.reduceAdd, Nat.reduceMul, Nat.reduceLT, c1, c2, c3] <;> rfl⟩
      · rw [mayL_false.2 (by omega)]
        exact ⟨_, by simp only [esc, esh, Nat.reduceAdd, Nat.reduceMul, Nat.reduceLT, c1, c2] <;> rfl⟩
    · rw [mayL_false.2 (by omega)]
      exact ⟨_, by simp only [esc, esh, Nat.reduceAdd, Nat.reduceMul, Nat.reduceLT, c1] <;> rfl⟩
  obtain ⟨g', e⟩ := key (ro h)
  exact S_er14_May_flat e (by simp)

theorem geom_ok_eq {b n m : Int} {h : Heap} : S_geom_ok [.a (layC b n m)] h = some (.c (.b (mayL b n)), h) := by
  have key : ∀ g, ∃ g', R_geom_ok 0 [.a (layC b n m)] g = some (.c (.b (mayL b n)), g') := by
    intro g
    rw [R_geom_ok_eq]
    cases c : mayL b n with
    | true => exact ⟨_, by simp only [esc, esh, Nat.reduceAdd, Nat.reduceMul, Nat.reduceLT, super_Check_eq, c] <;> rfl⟩
    | false => exact ⟨_, by simp only [esc, esh, Nat.reduceAdd, Nat.reduceMul, Nat.reduceLT, super_Check_eq, c, Int.reduceEq] <;> rfl⟩
  obtain ⟨g', e⟩ := key (ro h)
  exact S_geom_ok_flat e (by simp)

theorem geom_Map_eq {h : Heap} : S_geom_Map [] h = some (.c (.i .i64 1), h) :=
  S_geom_Map_flat (n := 0) (h2 := ro h) (by rw [R_geom_Map_eq]) rfl

def tabF (b n : Int) : Int := bif mayL b n then 2 else 0
def tabN (b n : Int) : Int := bif mayL b n then n / 8 else 0
def datF (b n : Int) : Int := tabF b n + tabN b n

theorem geom_Table_eq {b n m : Int} {h : Heap} : S_geom_Table [.a (layC b n m)] h = some (.t [.c (.i .i64 (tabF b n)), .c (.i .i64 (tabN b n))], h) := by
  have key : ∀ g, ∃ g', R_geom_Table 0 [.a (layC b n m)] g = some (.t [.c (.i .i64 (tabF b n)), .c (.i .i64 (tabN b n))], g') := by
    intro g
    rw [R_geom_Table_eq]
    unfold tabF tabN
    cases c : mayL b n with
    | true =>
      have c' := mayL_true.1 c
      have e2 := quo_i64 (a := n) (b := 8) (by omega) (by omega) (by omega)
      have e3 : IntKind.wrap .i64 (1 + 1) = 2 := wrap_i64 (by omega) (by omega)
      exact ⟨_, by simp only [esc, esh, Nat.reduceAdd, Nat.reduceMul, Nat.reduceLT, geom_ok_eq, c, geom_Map_eq, e2, e3] <;> rfl⟩
    | false => exact ⟨_, by simp only [esc, esh, Nat.reduceAdd, Nat.reduceMul, Nat.reduceLT, geom_ok_eq, c] <;> rfl⟩
  obtain ⟨g', e⟩ := key (ro h)
  exact S_geom_Table_flat e (by simp)

theorem datF_range {b n : Int} : 0 ≤ datF b n ∧ datF b n ≤ 18 := by
  unfold datF tabF tabN
  cases c : mayL b n with
  | true => have := mayL_true.1 c; simp only [cond_true]; omega
  | false => simp only [cond_false]; omega

theorem geom_Data_eq {b n m : Int} {h : Heap} : S_geom_Data [.a (layC b n m)] h = some (.c (.i .i64 (datF b n)), h) := by
  have key : ∀ g, ∃ g', R_geom_Data 0 [.a (layC b n m)] g = some (.c (.i .i64 (datF b n)), g') := by
    intro g
    rw [R_geom_Data_eq]
    have hr := datF_range (b := b) (n := n)
    have e3 : IntKind.wrap .i64 (tabF b n + tabN b n) = datF b n := wrap_i64 (by unfold datF at hr; omega) (by unfold datF at hr; omega)
    exact ⟨_, by simp only [esc, esh, Nat.reduceAdd, Nat.reduceMul, Nat.reduceLT, geom_Table_eq, e3] <;> rfl⟩
  obtain ⟨g', e⟩ := key (ro h)
  exact S_geom_Data_flat e (by simp)

def isInoL (b n i : Int) : Bool := mayL b n && decide (1 ≤ i) && decide (i ≤ n)
def isDatL (b n i : Int) : Bool := mayL b n && decide (datF b n ≤ i) && decide (i < b)

theorem geom_IsInode_eq {b n m i : Int} {h : Heap} : S_geom_IsInode [.a (layC b n m), .c (.i .i64 i)] h = some (.c (.b (isInoL b n i)), h) := by
  have key : ∀ g, ∃ g', R_geom_IsInode 0 [.a (layC b n m), .c (.i .i64 i)] g = some (.c (.b (isInoL b n i)), g') := by
    intro g
    rw [R_geom_IsInode_eq]
    unfold isInoL
    cases c : mayL b n with
    | true =>
      by_cases c1 : 1 ≤ i
      · exact ⟨_, by simp only [esc, esh, Nat.reduceAdd, Nat.reduceMul, Nat.reduceLT, geom_ok_eq, c, c1] <;> rfl⟩
      · exact ⟨_, by simp only [esc, esh, Nat.reduceAdd, Nat.reduceMul, Nat.reduceLT, geom_ok_eq, c, c1] <;> rfl⟩
    | false => exact ⟨_, by simp only [esc, esh, Nat.reduceAdd, Nat.reduceMul, Nat.reduceLT, geom_ok_eq, c] <;> rfl⟩
  obtain ⟨g', e⟩ := key (ro h)
  exact S_geom_IsInode_flat e (by simp)

theorem geom_IsData_eq {b n m i : Int} {h : Heap} : S_geom_IsData [.a (layC b n m), .c (.i .i64 i)] h = some (.c (.b (isDatL b n i)), h) := by
  have key : ∀ g, ∃ g', R_geom_IsData 0 [.a (layC b n m), .c (.i .i64 i)] g = some (.c (.b (isDatL b n i)), g') := by
    intro g
    rw [R_geom_IsData_eq]
    unfold isDatL
    cases c : mayL b n with
    | true =>
      by_cases c1 : datF b n ≤ i
      · exact ⟨_, by simp only [esc, esh, Nat.reduceAdd, Nat.reduceMul, Nat.reduceLT, geom_ok_eq, geom_Data_eq, c, c1] <;> rfl⟩
      · exact ⟨_, by simp only [esc, esh, Nat.reduceAdd, Nat.reduceMul, Nat.reduceLT, geom_ok_eq, geom_Data_eq, c, c1] <;> rfl⟩
    | false => exact ⟨_, by simp only [esc, esh, Nat.reduceAdd, Nat.reduceMul, Nat.reduceLT, geom_ok_eq, c] <;> rfl⟩
  obtain ⟨g', e⟩ := key (ro h)
  exact S_geom_IsData_flat e (by simp)

def whereB (b n i : Int) : Int := bif isInoL b n i then 2 + (i - 1) / 8 else 0
def whereK (b n i : Int) : Int := bif isInoL b n i then (i - 1) % 8 else 0

theorem isInoL_true {b n i : Int} : isInoL b n i = true ↔ mayL b n = true ∧ 1 ≤ i ∧ i ≤ n := by
  unfold isInoL; simp [and_assoc]
theorem geom_Where_eq {b n m i : Int} {h : Heap} : S_geom_Where [.a (layC b n m), .c (.i .i64 i)] h = some (.t [.c (.i .i64 (whereB b n i)), .c (.i .i64 (whereK b n i)), .c (.b (isInoL b n i))], h) := by
  have key : ∀ g, ∃ g', R_geom_Where 0 [.a (layC b n m), .c (.i .i64 i)] g = some (.t [.c (.i .i64 (whereB b n i)), .c (.i .i64 (whereK b n i)), .c (.b (isInoL b n i))], g') := by
    intro g
    rw [R_geom_Where_eq]
    unfold whereB whereK
    cases c : isInoL b n i with
    | true =>
      obtain ⟨c1, c2, c3⟩ := isInoL_true.1 c
      have c' := mayL_true.1 c1
      have e0 : tabF b n = 2 := by unfold tabF; rw [c1]; rfl
      have e1 : IntKind.wrap .i64 (i - 1) = i - 1 := wrap_i64 (by omega) (by omega)
      have e2 := quo_i64 (a := i - 1) (b := 8) (by omega) (by omega) (by omega)
      have e3 : IntKind.wrap .i64 (2 + (i - 1) / 8) = 2 + (i - 1) / 8 := wrap_i64 (by omega) (by omega)
      have e4 := rem_i (a := i - 1) (b := 8) (k := .i64) (by omega) (by omega)
      exact ⟨_, by simp only [esc, esh, Nat.reduceAdd, Nat.reduceMul, Nat.reduceLT, geom_IsInode_eq, c, geom_Table_eq, e0, e1, e2, e3, e4] <;> rfl⟩
    | false => exact ⟨_, by simp only [esc, esh, Nat.reduceAdd, Nat.reduceMul, Nat.reduceLT, geom_IsInode_eq, c] <;> rfl⟩
  obtain ⟨g', e⟩ := key (ro h)
  exact S_geom_Where_flat e (by simp)

def areaI (b n no : Int) : Int := if mayL b n = true ∧ 0 ≤ no ∧ no < b then (if no < 2 then no + 1 else if (no - 2) * 8 < n then 3 else 4) else 0

theorem ref15_Area_eq {b n m no : Int} {h : Heap} : S_er15_Area [.a (layC b n m), .c (.i .i64 no)] h = some (.c (.i .i64 (areaI b n no)), h) := by
  have key : ∀ g, ∃ g', R_er15_Area 0 [.a (layC b n m), .c (.i .i64 no)] g = some (.c (.i .i64 (areaI b n no)), g') := by
    intro g
    rw [R_er15_Area_eq]
    unfold areaI
    cases c : mayL b n with
    | true =>
      have c' := mayL_true.1 c
      by_cases c1 : no < 0
      · rw [if_neg (by omega)]
        exact ⟨_, by simp only [esc, esh, Nat.reduceAdd, Nat.reduceMul, Nat.reduceLT, ref14_May_eq, c, c1] <;> rfl⟩
      · by_cases c2 : b ≤ no
        · rw [if_neg (by omega)]
          exact ⟨_, by simp only [esc, esh, Nat.reduceAdd, Nat.reduceMul, Nat.reduceLT, ref14_May_eq, c, c1, c2] <;> rfl⟩
        · rw [if_pos ⟨rfl, by omega, by omega⟩]
          by_cases c3 : no < 2
          · rw [if_pos c3]
            have e1 : IntKind.wrap .i64 (no + 1) = no + 1 := wrap_i64 (by omega) (by omega)
            exact ⟨_, by simp only [esc, esh, Nat.reduceAdd, Nat.reduceMul, Nat.reduceLT, ref14_May_eq, c, c1, c2, c3, e1] <;> rfl⟩
          · rw [if_neg c3]
            have e1 : IntKind.wrap .i64 (no - 2) = no - 2 := wrap_i64 (by omega) (by omega)
            have e2 : IntKind.wrap .i64 ((no - 2) * 8) = (no - 2) * 8 := wrap_i64 (by omega) (by omega)
            by_cases c4 : (no - 2) * 8 < n
            · rw [if_pos c4]
              exact ⟨_, by simp only [esc, esh, Nat.reduceAdd, Nat.reduceMul, Nat.reduceLT, ref14_May_eq, c, c1, c2, c3, e1, e2, c4] <;> rfl⟩
            · rw [if_neg c4]
              exact ⟨_, by simp only [esc, esh, Nat.reduceAdd, Nat.reduceMul, Nat.reduceLT, ref14_May_eq, c, c1, c2, c3, e1, e2, c4] <;> rfl⟩
    | false =>
      rw [if_neg (by simp)]
      exact ⟨_, by simp only [esc, esh, Nat.reduceAdd, Nat.reduceMul, Nat.reduceLT, ref14_May_eq, c] <;> rfl⟩
  obtain ⟨g', e⟩ := key (ro h)
  exact S_er15_Area_flat e (by simp)

end Go.Proofs.Ytdgggnlbdoiloaa
end
section
namespace Go.Proofs.Ytdgggnlbdoiloaa
open Go Go.Esc

theorem wrap_u64_range (v : Int) : 0 ≤ IntKind.wrap .u64 v ∧ IntKind.wrap .u64 v < 18446744073709551616 := by
  have hw : IntKind.wrap .u64 v = v % 18446744073709551616 := by
    simp only [IntKind.wrap, IntKind.bits, IntKind.signed, Bool.false_and]
    rfl
  rw [hw]
  exact ⟨Int.emod_nonneg _ (by omega), Int.emod_lt_of_pos _ (by omega)⟩

theorem bytes_conv {w : Nat} {v : Int} {h : Heap} (hw : w ≤ 8) : S_er01_Bytes [.c (.i .i64 w), .c (.i .u64 (IntKind.wrap .u64 v))] h = some (.c (.sl h.length 0 w 1), h ++ [some ⟨encB (bytesI w v), true⟩]) := by
  rw [ref01_Bytes_eq hw (wrap_u64_range v).1 (wrap_u64_range v).2, bytesI_wrap hw]


end Go.Proofs.Ytdgggnlbdoiloaa
end
section
namespace Go.Proofs.Ytdgggnlbdoiloaa
open Go Go.Esc

theorem amark_of {h : Heap} {id off len sz : Nat} {cs : List Cell} (hr : rd h id = some ⟨cs, true⟩) (hn : 0 < len) : amark h (.c (.sl id off len sz)) = some (.c (.sl id off len sz)) := by
  simp [amark, hr, hn]

def magicB : List UInt8 := [101, 115, 99, 104, 101, 97, 116, 49]
def supH (b n m : Int) : List UInt8 := magicB ++ bytesI 2 b ++ bytesI 2 n ++ bytesI 8 m
def supB (b n m : Int) : List UInt8 := padB 256 (supH b n m ++ bytesI 4 (mixH (supH b n m) : Nat))
theorem supH_length {b n m : Int} : (supH b n m).length = 20 := by simp [supH, magicB]
theorem supB_length {b n m : Int} : (supB b n m).length = 256 := padB_length (by rw [List.length_append, supH_length, bytesI_length]; omega)

theorem layI_pad {l xs : List UInt8} {a : Nat} (h1 : l.length ≤ a) (h2 : a + xs.length ≤ 256) (h3 : a < 256) : layI (padB 256 l) a xs = padB 256 (l ++ zeros (a - l.length) ++ xs) := by
  unfold layI
  rw [if_pos (by omega)]
  simp only [Int.toNat_natCast]
  rw [List.take_of_length_le (by omega), padB_lay h1 h2]

theorem super_Put_eq {b n m : Int} {h : Heap} (hm0 : 0 ≤ m) (hm1 : m < 18446744073709551616) :
    S_super_Put [.a (layC b n m)] h = some (.t [.a (encB (bif mayL b n then supB b n m else zeros 256)), .c (.i .i64 (bif mayL b n then 0 else 1))], h) := by
  have key : ∀ g, ∃ g', R_super_Put 0 [.a (layC b n m)] g = some (.t [.a (encB (bif mayL b n then supB b n m else zeros 256)), .c (.i .i64 (bif mayL b n then 0 else 1))], g') := by
    intro g
    have hz : (encB (zeros 256)).length = 256 := by rw [encB_length]; exact zeros_length
    have haf : afill (List.replicate 256 (Cell.i .u8 0)) [] = some (List.replicate 256 (Cell.i .u8 0)) := rfl
    rw [zeros_enc] at haf
    rw [R_super_Put_eq, zeros_enc]
    cases c : mayL b n with
    | false =>
      simp only [cond_false]
      generalize zeros 256 = z at *
      exact ⟨_, by simp only [esc, esh, Nat.reduceAdd, Nat.reduceMul, Nat.reduceLT, super_Check_eq, c, haf, hz, Int.reduceEq] <;> rfl⟩
    | true =>
      simp only [cond_true]
      have e7 : afill [Cell.i .u8 0, .i .u8 0, .i .u8 0, .i .u8 0, .i .u8 0, .i .u8 0, .i .u8 0, .i .u8 0] [(0, 1, .c (.i .u8 101)), (1, 1, .c (.i .u8 115)), (2, 1, .c (.i .u8 99)), (3, 1, .c (.i .u8 104)), (4, 1, .c (.i .u8 101)), (5, 1, .c (.i .u8 97)), (6, 1, .c (.i .u8 116)), (7, 1, .c (.i .u8 49))] = some (encB magicB) := rfl
      have hmk := amark_of (h := g ++ [some ⟨layC b n m, true⟩, some ⟨encB (zeros 256), true⟩, some ⟨encB magicB, true⟩]) (id := g.length + 2) (off := 0) (len := 8) (sz := 1) (cs := encB magicB) (by simp) (by omega)
      have ho := num_Of_eq (h := g ++ [some ⟨layC b n m, true⟩, some ⟨encB (zeros 256), true⟩, some ⟨encB magicB, true⟩]) (v := .c (.sl (g.length + 2) 0 8 1)) (nv := 8) (data := magicB) (Has.tr (by simp) (by simp [encB_length, magicB]) (noX_encB _)) (by decide)
      rw [of_pad (by decide)] at ho
      have lm : magicB.length = 8 := rfl
      have w1 := fun h => num_With_eq (h := h) (l := padB 256 magicB) (padB_length (by decide)) (a := 8) (w := 2) (v := b)
      have e1 := withB_pad (l := magicB) (a := 8) (w := 2) (v := b) (by decide) (by omega) (by omega) (by omega)
      simp only [lm, Nat.sub_self, show zeros 0 = [] from rfl, List.append_nil, Int.cast_ofNat_Int] at e1
      simp only [e1] at w1
      have l1 : (magicB ++ bytesI 2 b).length = 10 := by simp [lm]
      have w2 := fun h => num_With_eq (h := h) (l := padB 256 (magicB ++ bytesI 2 b)) (padB_length (by omega)) (a := 10) (w := 2) (v := n)
      have e2 := withB_pad (l := magicB ++ bytesI 2 b) (a := 10) (w := 2) (v := n) (by omega) (by omega) (by omega) (by omega)
      simp only [l1, Nat.sub_self, show zeros 0 = [] from rfl, List.append_nil, Int.cast_ofNat_Int] at e2
      simp only [e2] at w2
      have l2 : (magicB ++ bytesI 2 b ++ bytesI 2 n).length = 12 := by simp [lm]
      have L0 : (encB (padB 256 magicB)).length = 256 := by rw [encB_length, padB_length (by decide)]
      have L1 : (encB (padB 256 (magicB ++ bytesI 2 b))).length = 256 := by rw [encB_length, padB_length (by omega)]
      have L2 : (encB (padB 256 (magicB ++ bytesI 2 b ++ bytesI 2 n))).length = 256 := by rw [encB_length, padB_length (by omega)]
      have L3 : (encB (padB 256 (supH b n m))).length = 256 := by rw [encB_length, padB_length (by rw [supH_length]; omega)]
      have L4 : (encB (supB b n m)).length = 256 := by rw [encB_length, supB_length]
      have mk8 : amkn (.c (.i .i64 8)) (.c (.i .i64 8)) = some 8 := rfl
      have hp := num_Put_eq (h := g ++ [some ⟨layC b n m, true⟩, some ⟨encB (zeros 256), true⟩, some ⟨encB magicB, true⟩, some ⟨encB (padB 256 (magicB ++ bytesI 2 b ++ bytesI 2 n)), true⟩, some ⟨encB (zeros 8), true⟩]) (x := .c (.sl (g.length + 4) 0 8 1)) (nv := 8) (l := zeros 8) (a := 0) (w := 8) (v := m) (Has.tr (by simp) (by simp [encB_length]) (noX_encB _)) (by simp)
      have ep : putN (zeros 8) 0 8 m = some (bytesI 8 m) := by
        unfold putN
        rw [if_pos ⟨by omega, by decide⟩]
        unfold layB
        simp [zeros]
      rw [ep] at hp
      simp only [Option.getD_some, Option.isSome_some, bytesI_length] at hp
      have hl := num_Lay_eq (h := g ++ [some ⟨layC b n m, true⟩, some ⟨encB (zeros 256), true⟩, some ⟨encB magicB, true⟩, some ⟨encB (padB 256 (magicB ++ bytesI 2 b ++ bytesI 2 n)), true⟩, some ⟨encB (zeros 8), true⟩, some ⟨encB (bytesI 8 m), true⟩]) (v := .c (.sl (g.length + 5) 0 8 1)) (nv := 8) (data := bytesI 8 m) (l := padB 256 (magicB ++ bytesI 2 b ++ bytesI 2 n)) (a := 12) (Has.tr (by simp) (by simp [encB_length]) (noX_encB _)) (padB_length (by omega)) (by simp)
      have e3 := layI_pad (l := magicB ++ bytesI 2 b ++ bytesI 2 n) (xs := bytesI 8 m) (a := 12) (by omega) (by simp) (by omega)
      simp only [l2, Nat.sub_self, show zeros 0 = [] from rfl, List.append_nil, Int.cast_ofNat_Int] at e3
      rw [e3] at hl
      have hc := fun h => num_Cut_eq (h := h) (l := padB 256 (supH b n m)) (padB_length (by rw [supH_length]; omega)) (a := 0) (n := 20)
      have e4 : cutB (padB 256 (supH b n m)) 0 20 = supH b n m := by
        unfold cutB padB
        rw [if_pos (by omega)]
        simp only [Int.toNat_zero, List.drop_zero]
        exact List.take_left' supH_length
      simp only [e4, supH_length] at hc
      have hstr := (Has.tr (h := g ++ [some ⟨layC b n m, true⟩, some ⟨encB (zeros 256), true⟩, some ⟨encB magicB, true⟩, some ⟨encB (padB 256 (supH b n m)), true⟩, some ⟨encB (zeros 8), true⟩, some ⟨encB (bytesI 8 m), true⟩, some ⟨encB (supH b n m), true⟩]) (id := g.length + 6) (sz := 1) (n := 20) (cs := encB (supH b n m)) (by simp) (by rw [encB_length, supH_length]) (noX_encB _)).str
      have hmx := fun h => mix_Of_eq (s := supH b n m) (h := h) (by rw [supH_length]; omega)
      have hmlt := mixH_lt (s := supH b n m)
      have e5 : IntKind.wrap .i64 ((mixH (supH b n m) : Nat) : Int) = (mixH (supH b n m) : Nat) := wrap_i64 (by omega) (by omega)
      have w3 := fun h => num_With_eq (h := h) (l := padB 256 (supH b n m)) (padB_length (by rw [supH_length]; omega)) (a := 20) (w := 4) (v := (mixH (supH b n m) : Nat))
      have e6 := withB_pad (l := supH b n m) (a := 20) (w := 4) (v := (mixH (supH b n m) : Nat)) (by rw [supH_length]; omega) (by omega) (by omega) (by omega)
      simp only [supH_length, Nat.sub_self, show zeros 0 = [] from rfl, List.append_nil, Int.cast_ofNat_Int] at e6
      simp only [e6] at w3
      have eS : magicB ++ bytesI 2 b ++ bytesI 2 n ++ bytesI 8 m = supH b n m := rfl
      rw [eS] at hl
      have rz := rows_zero 8
      change ∀ h, S_num_With [_, _, _, _] h = some (.a (encB (supB b n m)), h) at w3
      generalize supB b n m = SB at *
      generalize padB 256 magicB = P0 at *
      generalize padB 256 (magicB ++ bytesI 2 b) = P1 at *
      generalize padB 256 (magicB ++ bytesI 2 b ++ bytesI 2 n) = P2 at *
      generalize padB 256 (supH b n m) = P3 at *
      simp only [esc] at hp
      generalize zeros 256 = z at *
      generalize zeros 8 = z8 at *
      exact ⟨_, by simp only [esc, esh, Nat.reduceAdd, Nat.reduceMul, Nat.reduceLT, super_Check_eq, c, e7, hmk, ho, hz, L0, w1, L1, w2, L2, mk8, rz, hp, hl, L3, hc, hstr, hmx, e5, w3, L4] <;> rfl⟩
  obtain ⟨g', e⟩ := key (ro h)
  exact S_super_Put_flat e (by simp)

theorem at_field {b : List UInt8} {a w : Nat} (hb : b.length = 256) (h1 : a + w ≤ 256) (hw : 1 ≤ w) (hw4 : w ≤ 4) : ((atN b a w : Nat) : Int) = fieldN b a w := by
  unfold atN fieldN
  rw [if_pos ⟨by omega, thereI_true.2 (by omega)⟩]
  simp only [Int.toNat_natCast]

theorem getN_cut {b : List UInt8} (hb : b.length = 256) : getN (cutB b 12 8) 0 8 = some (le ((b.drop 12).take 8)) := by
  have hc : cutB b 12 8 = (b.drop 12).take 8 := by
    unfold cutB
    rw [if_pos (by omega)]; rfl
  have hl : ((b.drop 12).take 8).length = 8 := by simp; omega
  unfold getN
  rw [hc, hl, if_pos ⟨by omega, by decide⟩]
  simp only [Int.toNat_zero, List.drop_zero]
  rw [List.take_of_length_le (by rw [hl]; decide)]

def okS (b : List UInt8) : Bool := mayL (fieldN b 8 2) (fieldN b 10 2) && decide (supB (fieldN b 8 2) (fieldN b 10 2) (fieldN b 12 8) = b)
def layS (b : List UInt8) : List Cell := bif okS b then layC (fieldN b 8 2) (fieldN b 10 2) (fieldN b 12 8) else layC 0 0 0

theorem field8_range (b : List UInt8) : 0 ≤ fieldN b 12 8 ∧ fieldN b 12 8 < 18446744073709551616 := by
  unfold fieldN
  have h1 := le_lt ((b.drop 12).take 8)
  have h2 : ((b.drop 12).take 8).length ≤ 8 := by simp; omega
  have h3 := pow256_le h2
  have h4 : (256 : Nat) ^ 8 = 18446744073709551616 := by decide
  omega


end Go.Proofs.Ytdgggnlbdoiloaa
end
section
namespace Go.Proofs.Ytdgggnlbdoiloaa
open Go Go.Esc

theorem super_Get_eq {b : List UInt8} {h : Heap} (hb : b.length = 256) : S_super_Get [.a (encB b)] h = some (.t [.a (layS b), .c (.i .i64 (bif okS b then 0 else 13))], h) := by
  have key : ∀ g, ∃ g', R_super_Get 0 [.a (encB b)] g = some (.t [.a (layS b), .c (.i .i64 (bif okS b then 0 else 13))], g') := by
    intro g
    have hl : (encB b).length = 256 := by rw [encB_length, hb]
    have hc := num_Cut_eq (h := g ++ [some ⟨encB b, true⟩, some ⟨layC 0 0 0, true⟩]) hb (a := 12) (n := 8)
    have hcl : (cutB b 12 8).length = 8 := by unfold cutB; rw [if_pos (by omega)]; simp; omega
    rw [hcl] at hc
    have hg := num_Get_eq (h := g ++ [some ⟨encB b, true⟩, some ⟨layC 0 0 0, true⟩, some ⟨encB (cutB b 12 8), true⟩]) (v := .c (.sl (g.length + 2) 0 8 1)) (nv := 8) (l := cutB b 12 8) (Has.tr (by simp) (by rw [encB_length, hcl]) (noX_encB _)) (a := 0) (w := 8) (by rw [hcl]; omega)
    rw [getN_cut hb] at hg
    simp only [Option.getD_some, Option.isSome_some] at hg
    have a1 := fun h => num_At_eq (h := h) hb (a := 8) (w := 2)
    have a2 := fun h => num_At_eq (h := h) hb (a := 10) (w := 2)
    have f1 := at_field (a := 8) (w := 2) hb (by omega) (by omega) (by omega)
    have f2 := at_field (a := 10) (w := 2) hb (by omega) (by omega) (by omega)
    simp only [Int.cast_ofNat_Int] at f1 f2
    simp only [f1] at a1
    simp only [f2] at a2
    have e12 : ((le ((b.drop 12).take 8) : Nat) : Int) = fieldN b 12 8 := rfl
    rw [e12] at hg
    have ef : ∀ x y z : Int, afill (layC 0 0 0) [(0, 1, .c (.i .i64 x)), (1, 1, .c (.i .i64 y)), (2, 1, .c (.i .u64 z))] = some (layC x y z) := fun _ _ _ => rfl
    have ef0 : afill (layC 0 0 0) [] = some (layC 0 0 0) := rfl
    have hp := fun h => super_Put_eq (b := fieldN b 8 2) (n := fieldN b 10 2) (m := fieldN b 12 8) (h := h) (field8_range b).1 (field8_range b).2
    have hz : (List.replicate 256 (Cell.i .u8 0)).length = 256 := List.length_replicate
    have hS : (encB (supB (fieldN b 8 2) (fieldN b 10 2) (fieldN b 12 8))).length = 256 := by rw [encB_length, supB_length]
    have hZ : (encB (zeros 256)).length = 256 := by rw [encB_length]; exact zeros_length
    have hq := aeq_t (l := supB (fieldN b 8 2) (fieldN b 10 2) (fieldN b 12 8)) (m := b) (n := 256) supB_length hb
    simp only [esc] at hc
    rw [R_super_Get_eq]
    unfold layS okS
    generalize List.replicate 256 (Cell.i .u8 0) = z at *
    cases c : mayL (fieldN b 8 2) (fieldN b 10 2) with
    | false =>
      simp only [c, cond_false] at hp
      generalize zeros 256 = zz at *
      exact ⟨_, by simp only [esc, esh, Nat.reduceAdd, Nat.reduceMul, Nat.reduceLT, hl, hc, hg, a1, a2, ef, ef0, hp, hz, hZ, Bool.false_and, Int.reduceEq] <;> rfl⟩
    | true =>
      simp only [c, cond_true] at hp
      cases c2 : decide (supB (fieldN b 8 2) (fieldN b 10 2) (fieldN b 12 8) = b) with
      | false =>
        rw [c2] at hq
        exact ⟨_, by simp only [esc, esh, Nat.reduceAdd, Nat.reduceMul, Nat.reduceLT, hl, hc, hg, a1, a2, ef, ef0, hp, hz, hS, hq, Bool.and_false] <;> rfl⟩
      | true =>
        rw [c2] at hq
        exact ⟨_, by simp only [esc, esh, Nat.reduceAdd, Nat.reduceMul, Nat.reduceLT, hl, hc, hg, a1, a2, ef, ef0, hp, hz, hS, hq, Bool.and_true] <;> rfl⟩
  obtain ⟨g', e⟩ := key (ro h)
  refine S_super_Get_flat e ?_
  unfold layS
  cases okS b <;> simp


end Go.Proofs.Ytdgggnlbdoiloaa
end
