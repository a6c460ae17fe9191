/- What the proof of this claim leans on, part 3. -/
import Derived.Test.YtdgggnlbdoiloaaFViewOnp2
set_option linter.all false
noncomputable section
namespace Go.Proofs.Ytdgggnlbdoiloaa
open Go Go.Esc
set_option maxRecDepth 100000
def num_Lay_o0 : List AOper := [aO 3 (.box (.t 0)), aO 6 (.alloc (List.replicate 256 (.i .u8 0)))]
def num_Lay_c0 : ACode := .ops num_Lay_o0
def num_Lay_o1 : List AOper := [aO 9 (.mv (.t 1)), aO 10 (.bin .lss (.t 9) (.v (.c (.i .i64 0)))), aO 11 (.mv (.t 10)), { dst := some 12, op := .mv (.t 1), guard := some (11, false) }, { dst := some 13, op := .bin .geq (.t 12) (.v (.c (.i .i64 256))), guard := some (11, false) }, aO 14 (.pick (.t 11) (.v (.c (.b true))) (.t 13))]
def num_Lay_c1 : ACode := .ops num_Lay_o1
def num_Lay_o2 : List AOper := [aO 15 (.loadN 256 (.t 3)), { dst := none, op := .storeN 256 (.t 6) (.t 15) }]
def num_Lay_c2 : ACode := .ops num_Lay_o2
def num_Lay_c3 : ACode := .seq [6] num_Lay_c2 .ret
def num_Lay_c4 : ACode := .cond (.t 14) num_Lay_c3 .skip
def num_Lay_c5 : ACode := .seq [1, 2, 3, 6, 14] num_Lay_c1 num_Lay_c4
def num_Lay_o3 : List AOper := [aO 16 (.mv (.t 2)), aO 17 (.len (.t 16)), aO 18 (.mv (.v (.c (.i .i64 0))))]
def num_Lay_c6 : ACode := .ops num_Lay_o3
def num_Lay_o4 : List AOper := [aO 19 (.bin .lss (.t 18) (.t 17))]
def num_Lay_c7 : ACode := .ops num_Lay_o4
def num_Lay_c8 : ACode := .cond (.t 19) .skip (.exit 0)
def num_Lay_o5 : List AOper := [aO 20 (.mv (.t 18)), aO 21 (.iAddrL 1 (.t 16) (.t 18)), aO 22 (.load1 (.t 21)), aO 7 (.mv (.t 20)), aO 8 (.mv (.t 22))]
def num_Lay_c9 : ACode := .ops num_Lay_o5
def num_Lay_o6 : List AOper := [aO 23 (.mv (.t 7)), aO 24 (.mv (.t 1)), aO 25 (.bin .sub (.v (.c (.i .i64 256))) (.t 24)), aO 26 (.bin .geq (.t 23) (.t 25))]
def num_Lay_c10 : ACode := .ops num_Lay_o6
def num_Lay_c11 : ACode := .cond (.t 26) (.exit 0) .skip
def num_Lay_c12 : ACode := .seq [1, 3, 6, 7, 8, 16, 17, 18, 26] num_Lay_c10 num_Lay_c11
def num_Lay_o7 : List AOper := [aO 27 (.mv (.t 1)), aO 28 (.mv (.t 7)), aO 29 (.bin .add (.t 27) (.t 28)), aO 30 (.mv (.t 8)), aO 31 (.iAddrA 256 1 (.t 3) (.t 29)), { dst := none, op := .store1 (.t 31) (.t 30) }]
def num_Lay_c13 : ACode := .ops num_Lay_o7
def num_Lay_c14 : ACode := .seq [1, 3, 6, 7, 8, 16, 17, 18] num_Lay_c12 num_Lay_c13
def num_Lay_c15 : ACode := .seq [1, 3, 6, 7, 8, 16, 17, 18] num_Lay_c9 num_Lay_c14
def num_Lay_c16 : ACode := .block 1 num_Lay_c15
def num_Lay_o8 : List AOper := [aO 32 (.bin .add (.t 18) (.v (.c (.i .i64 1)))), aO 18 (.mv (.t 32))]
def num_Lay_c17 : ACode := .ops num_Lay_o8
def num_Lay_c18 : ACode := .seq [1, 3, 6, 16, 17, 18] num_Lay_c16 num_Lay_c17
def num_Lay_c19 : ACode := .seq [1, 3, 6, 16, 17, 18] num_Lay_c8 num_Lay_c18
def num_Lay_c20 : ACode := .seq [1, 3, 6, 16, 17, 18, 19] num_Lay_c7 num_Lay_c19
def num_Lay_c21 : ACode := .loop [1, 3, 6, 16, 17, 18] num_Lay_c20
def num_Lay_c22 : ACode := .block 0 num_Lay_c21
def num_Lay_c23 : ACode := .seq [1, 3, 6, 16, 17, 18] num_Lay_c6 num_Lay_c22
def num_Lay_o9 : List AOper := [aO 33 (.loadN 256 (.t 3)), { dst := none, op := .storeN 256 (.t 6) (.t 33) }]
def num_Lay_c24 : ACode := .ops num_Lay_o9
def num_Lay_c25 : ACode := .seq [6] num_Lay_c24 .ret
def num_Lay_c26 : ACode := .seq [3, 6] num_Lay_c23 num_Lay_c25
def num_Lay_c27 : ACode := .seq [1, 2, 3, 6] num_Lay_c5 num_Lay_c26
def num_Lay_c28 : ACode := .seq [1, 2, 3, 6] num_Lay_c0 num_Lay_c27
def A_num_Lay : AFn := ⟨num_Lay_c28, [.cellN 6 256]⟩
def E_num_Lay : Sums := disp0
def num_Lay_c0_d (n : Nat) : SmV := smOps E_num_Lay num_Lay_o0
def num_Lay_c1_d (n : Nat) : SmV := smOps E_num_Lay num_Lay_o1
def num_Lay_c2_d (n : Nat) : SmV := smOps E_num_Lay num_Lay_o2
def num_Lay_c3_d (n : Nat) : SmV := smSeq [6] (num_Lay_c2_d n) smRet
def num_Lay_c4_d (n : Nat) : SmV := smCond (.t 14) (num_Lay_c3_d n) smSkip
def num_Lay_c5_d (n : Nat) : SmV := smSeq [1, 2, 3, 6, 14] (num_Lay_c1_d n) (num_Lay_c4_d n)
def num_Lay_c6_d (n : Nat) : SmV := smOps E_num_Lay num_Lay_o3
def num_Lay_c7_d (n : Nat) : SmV := smOps E_num_Lay num_Lay_o4
def num_Lay_c8_d (n : Nat) : SmV := smCond (.t 19) smSkip (smExit 0)
def num_Lay_c9_d (n : Nat) : SmV := smOps E_num_Lay num_Lay_o5
def num_Lay_c10_d (n : Nat) : SmV := smOps E_num_Lay num_Lay_o6
def num_Lay_c11_d (n : Nat) : SmV := smCond (.t 26) (smExit 0) smSkip
def num_Lay_c12_d (n : Nat) : SmV := smSeq [1, 3, 6, 7, 8, 16, 17, 18, 26] (num_Lay_c10_d n) (num_Lay_c11_d n)
def num_Lay_c13_d (n : Nat) : SmV := smOps E_num_Lay num_Lay_o7
def num_Lay_c14_d (n : Nat) : SmV := smSeq [1, 3, 6, 7, 8, 16, 17, 18] (num_Lay_c12_d n) (num_Lay_c13_d n)
def num_Lay_c15_d (n : Nat) : SmV := smSeq [1, 3, 6, 7, 8, 16, 17, 18] (num_Lay_c9_d n) (num_Lay_c14_d n)
def num_Lay_c16_d (n : Nat) : SmV := smBlock 1 (num_Lay_c15_d n)
def num_Lay_c17_d (n : Nat) : SmV := smOps E_num_Lay num_Lay_o8
def num_Lay_c18_d (n : Nat) : SmV := smSeq [1, 3, 6, 16, 17, 18] (num_Lay_c16_d n) (num_Lay_c17_d n)
def num_Lay_c19_d (n : Nat) : SmV := smSeq [1, 3, 6, 16, 17, 18] (num_Lay_c8_d n) (num_Lay_c18_d n)
def num_Lay_c20_d (n : Nat) : SmV := smSeq [1, 3, 6, 16, 17, 18, 19] (num_Lay_c7_d n) (num_Lay_c19_d n)
def num_Lay_c21_d (n : Nat) : SmV := smLoop n [1, 3, 6, 16, 17, 18] (num_Lay_c20_d n)
def num_Lay_c22_d (n : Nat) : SmV := smBlock 0 (num_Lay_c21_d n)
def num_Lay_c23_d (n : Nat) : SmV := smSeq [1, 3, 6, 16, 17, 18] (num_Lay_c6_d n) (num_Lay_c22_d n)
def num_Lay_c24_d (n : Nat) : SmV := smOps E_num_Lay num_Lay_o9
def num_Lay_c25_d (n : Nat) : SmV := smSeq [6] (num_Lay_c24_d n) smRet
def num_Lay_c26_d (n : Nat) : SmV := smSeq [3, 6] (num_Lay_c23_d n) (num_Lay_c25_d n)
def num_Lay_c27_d (n : Nat) : SmV := smSeq [1, 2, 3, 6] (num_Lay_c5_d n) (num_Lay_c26_d n)
def num_Lay_c28_d (n : Nat) : SmV := smSeq [1, 2, 3, 6] (num_Lay_c0_d n) (num_Lay_c27_d n)
def num_Lay_k0 (n : Nat) : AExit → Env → Heap → OptV := fun x e h => match x with | .normal => hold ((num_Lay_c25_d n) A_num_Lay.fin (e.keep [3, 6]) h) | .exit id => A_num_Lay.fin (.exit id) e h | .ret => A_num_Lay.fin .ret e h
def num_Lay_k1 (n : Nat) : AExit → Env → Heap → OptV := fun x e h => match x with | .exit i => bif Nat.beq i 0 then (num_Lay_k0 n) .normal e h else (num_Lay_k0 n) (.exit i) e h | .normal => (num_Lay_k0 n) .normal e h | .ret => (num_Lay_k0 n) .ret e h
def num_Lay_l0 (n m : Nat) (x1 x3 x6 x16 x17 x18 : Val) (h : Heap) : OptV := around (num_Lay_c20_d n) [1, 3, 6, 16, 17, 18] (num_Lay_k1 n) m [(1, x1), (3, x3), (6, x6), (16, x16), (17, x17), (18, x18)] h
def R_num_Lay (n : Nat) (args : List Val) (h : Heap) : OptV := (num_Lay_c28_d n) A_num_Lay.fin (params 0 args) h
def num_Lay_j0 (n : Nat) (x3 x6 : Val) (h : Heap) : OptV := hold ((num_Lay_c25_d n) A_num_Lay.fin [(3, x3), (6, x6)] h)
theorem R_num_Lay_eq (n : Nat) (a0 a1 a2 : Val) (h : Heap) : R_num_Lay n [a0, a1, a2] h = bnd (cells? a0) fun c1 => bnd (abin .lss a1 (.c (.i .i64 0))) fun v2 => bnd (gd v2 false (some (a1, ((h ++ [some (Row.mk (c1) true)]) ++ [some (Row.mk (List.replicate 256 (.i .u8 0)) true)]))) (some (.no, ((h ++ [some (Row.mk (c1) true)]) ++ [some (Row.mk (List.replicate 256 (.i .u8 0)) true)])))) fun p3 => bnd (gd v2 false (bnd (abin .geq p3.1 (.c (.i .i64 256))) fun v4 => some (v4, p3.2)) (some (.no, p3.2))) fun p5 => bnd (apick v2 (.c (.b true)) p5.1) fun v6 => cnd v6 (bnd (aloadN p5.2 256 ((.c (.p h.length 0)))) fun v7 => bnd (astoreN p5.2 256 ((.c (.p ((h ++ [some (Row.mk (c1) true)])).length 0))) v7) fun h8 => mp (aloadN h8 256 ((.c (.p ((h ++ [some (Row.mk (c1) true)])).length 0)))) fun v => (v, h8)) (bnd (alen a2) fun v9 => num_Lay_l0 n n a1 ((.c (.p h.length 0))) ((.c (.p ((h ++ [some (Row.mk (c1) true)])).length 0))) a2 v9 (.c (.i .i64 0)) p5.2) := by kernel_rfl
theorem num_Lay_l0_eq (n m : Nat) (x1 x3 x6 x16 x17 x18 : Val) (h : Heap) : num_Lay_l0 n (m + 1) x1 x3 x6 x16 x17 x18 h = bnd (abin .lss x18 x17) fun v10 => cnd v10 (bnd (aiAddrL 1 x16 x18) fun v11 => bnd (aload1 h v11) fun v12 => bnd (abin .sub (.c (.i .i64 256)) x1) fun v13 => bnd (abin .geq x18 v13) fun v14 => cnd v14 (num_Lay_j0 n x3 x6 h) (bnd (abin .add x1 x18) fun v15 => bnd (aiAddrA 256 1 x3 v15) fun v16 => bnd (astore1 h v16 v12) fun h17 => bnd (abin .add x18 (.c (.i .i64 1))) fun v18 => num_Lay_l0 n m x1 x3 x6 x16 x17 v18 h17)) (num_Lay_j0 n x3 x6 h) := by kernel_rfl
theorem num_Lay_j0_eq (n : Nat) (x3 x6 : Val) (h : Heap) : num_Lay_j0 n x3 x6 h = bnd (aloadN h 256 x3) fun v19 => bnd (astoreN h 256 x6 v19) fun h20 => mp (aloadN h20 256 x6) fun v => (v, h20) := by kernel_rfl
theorem K_num_Lay : FnK Try.prog 98 A_num_Lay E_num_Lay R_num_Lay := .mk' (sound0) Try.func98 (by kernel_rfl) (by intro n args h; kernel_rfl)
def S_num_Lay : Fun := tidy (Lim A_num_Lay E_num_Lay)
theorem S_num_Lay_ok : SOk Try.prog 98 S_num_Lay := K_num_Lay.sok
theorem S_num_Lay_flat {n : Nat} {args : List Val} {h h2 : Heap} {v : Val} (he : R_num_Lay n args (ro h) = some (v, h2)) (hf : v.flat = true) : S_num_Lay args h = some (v, h) := K_num_Lay.flat he hf
def num_Of_o0 : List AOper := [aO 2 (.alloc (List.replicate 256 (.i .u8 0)))]
def num_Of_c0 : ACode := .ops num_Of_o0
def num_Of_o1 : List AOper := [aO 3 (.build (List.replicate 256 (.i .u8 0)) []), aO 4 (.mv (.t 0)), aO 5 (.call 98 [(.t 3), (.v (.c (.i .i64 0))), (.t 4)]), { dst := none, op := .storeN 256 (.t 2) (.t 5) }]
def num_Of_c1 : ACode := .ops num_Of_o1
def num_Of_c2 : ACode := .seq [2] num_Of_c1 .ret
def num_Of_c3 : ACode := .seq [0, 2] num_Of_c0 num_Of_c2
def A_num_Of : AFn := ⟨num_Of_c3, [.cellN 2 256]⟩
def E_num_Of : Sums := disp 98 S_num_Lay disp0
def num_Of_c0_d (n : Nat) : SmV := smOps E_num_Of num_Of_o0
def num_Of_c1_d (n : Nat) : SmV := smOps E_num_Of num_Of_o1
def num_Of_c2_d (n : Nat) : SmV := smSeq [2] (num_Of_c1_d n) smRet
def num_Of_c3_d (n : Nat) : SmV := smSeq [0, 2] (num_Of_c0_d n) (num_Of_c2_d n)
def R_num_Of (n : Nat) (args : List Val) (h : Heap) : OptV := (num_Of_c3_d n) A_num_Of.fin (params 0 args) h
theorem R_num_Of_eq (n : Nat) (a0 : Val) (h : Heap) : R_num_Of n [a0] h = bnd (afill (List.replicate 256 (.i .u8 0)) []) fun c1 => bnd (S_num_Lay [(.a c1), .c (.i .i64 0), a0] ((h ++ [some (Row.mk (List.replicate 256 (.i .u8 0)) true)]))) fun p2 => bnd (astoreN p2.2 256 ((.c (.p h.length 0))) p2.1) fun h3 => mp (aloadN h3 256 ((.c (.p h.length 0)))) fun v => (v, h3) := by kernel_rfl
theorem K_num_Of : FnK Try.prog 95 A_num_Of E_num_Of R_num_Of := .mk' (sound1 S_num_Lay_ok sound0) Try.func95 (by kernel_rfl) (by intro n args h; kernel_rfl)
def S_num_Of : Fun := tidy (Lim A_num_Of E_num_Of)
theorem S_num_Of_ok : SOk Try.prog 95 S_num_Of := K_num_Of.sok
theorem S_num_Of_flat {n : Nat} {args : List Val} {h h2 : Heap} {v : Val} (he : R_num_Of n args (ro h) = some (v, h2)) (hf : v.flat = true) : S_num_Of args h = some (v, h) := K_num_Of.flat he hf
def num_there_o0 : List AOper := [aO 6 (.mv (.v (.c (.b false))))]
def num_there_c0 : ACode := .ops num_there_o0
def num_there_o1 : List AOper := [aO 7 (.mv (.t 0)), aO 8 (.bin .geq (.t 7) (.v (.c (.i .i64 0)))), aO 9 (.mv (.t 8)), { dst := some 10, op := .mv (.t 1), guard := some (9, true) }, { dst := some 11, op := .bin .geq (.t 10) (.v (.c (.i .i64 1))), guard := some (9, true) }, aO 12 (.pick (.t 9) (.t 11) (.v (.c (.b false)))), aO 13 (.mv (.t 12)), { dst := some 14, op := .mv (.t 1), guard := some (13, true) }, { dst := some 15, op := .mv (.t 2), guard := some (13, true) }, { dst := some 16, op := .bin .leq (.t 14) (.t 15), guard := some (13, true) }, aO 17 (.pick (.t 13) (.t 16) (.v (.c (.b false)))), aO 18 (.mv (.t 17)), { dst := some 19, op := .mv (.t 0), guard := some (18, true) }, { dst := some 20, op := .mv (.t 2), guard := some (18, true) }, { dst := some 21, op := .mv (.t 1), guard := some (18, true) }, { dst := some 22, op := .bin .sub (.t 20) (.t 21), guard := some (18, true) }, { dst := some 23, op := .bin .leq (.t 19) (.t 22), guard := some (18, true) }, aO 24 (.pick (.t 18) (.t 23) (.v (.c (.b false)))), aO 6 (.mv (.t 24))]
def num_there_c1 : ACode := .ops num_there_o1
def num_there_c2 : ACode := .seq [6] num_there_c1 .ret
def num_there_c3 : ACode := .seq [0, 1, 2] num_there_c0 num_there_c2
def A_num_there : AFn := ⟨num_there_c3, [.tmp 6]⟩
def E_num_there : Sums := disp0
def num_there_c0_d (n : Nat) : SmV := smOps E_num_there num_there_o0
def num_there_c1_d (n : Nat) : SmV := smOps E_num_there num_there_o1
def num_there_c2_d (n : Nat) : SmV := smSeq [6] (num_there_c1_d n) smRet
def num_there_c3_d (n : Nat) : SmV := smSeq [0, 1, 2] (num_there_c0_d n) (num_there_c2_d n)
def R_num_there (n : Nat) (args : List Val) (h : Heap) : OptV := (num_there_c3_d n) A_num_there.fin (params 0 args) h
theorem R_num_there_eq (n : Nat) (a0 a1 a2 : Val) (h : Heap) : R_num_there n [a0, a1, a2] h = bnd (abin .geq a0 (.c (.i .i64 0))) fun v1 => bnd (gd v1 true (some (a1, h)) (some (.no, h))) fun p2 => bnd (gd v1 true (bnd (abin .geq p2.1 (.c (.i .i64 1))) fun v3 => some (v3, p2.2)) (some (.no, p2.2))) fun p4 => bnd (apick v1 p4.1 (.c (.b false))) fun v5 => bnd (gd v5 true (some (a1, p4.2)) (some (.no, p4.2))) fun p6 => bnd (gd v5 true (some (a2, p6.2)) (some (.no, p6.2))) fun p7 => bnd (gd v5 true (bnd (abin .leq p6.1 p7.1) fun v8 => some (v8, p7.2)) (some (.no, p7.2))) fun p9 => bnd (apick v5 p9.1 (.c (.b false))) fun v10 => bnd (gd v10 true (some (a0, p9.2)) (some (.no, p9.2))) fun p11 => bnd (gd v10 true (some (a2, p11.2)) (some (.no, p11.2))) fun p12 => bnd (gd v10 true (some (a1, p12.2)) (some (.no, p12.2))) fun p13 => bnd (gd v10 true (bnd (abin .sub p12.1 p13.1) fun v14 => some (v14, p13.2)) (some (.no, p13.2))) fun p15 => bnd (gd v10 true (bnd (abin .leq p11.1 p15.1) fun v16 => some (v16, p15.2)) (some (.no, p15.2))) fun p17 => bnd (apick v10 p17.1 (.c (.b false))) fun v18 => some (v18, p17.2) := by kernel_rfl
theorem K_num_there : FnK Try.prog 131 A_num_there E_num_there R_num_there := .mk' (sound0) Try.func131 (by kernel_rfl) (by intro n args h; kernel_rfl)
def S_num_there : Fun := tidy (Lim A_num_there E_num_there)
theorem S_num_there_ok : SOk Try.prog 131 S_num_there := K_num_there.sok
theorem S_num_there_flat {n : Nat} {args : List Val} {h h2 : Heap} {v : Val} (he : R_num_there n args (ro h) = some (v, h2)) (hf : v.flat = true) : S_num_there args h = some (v, h) := K_num_there.flat he hf
def num_With_o0 : List AOper := [aO 4 (.box (.t 0)), aO 8 (.alloc (List.replicate 256 (.i .u8 0)))]
def num_With_c0 : ACode := .ops num_With_o0
def num_With_o1 : List AOper := [aO 10 (.mv (.t 2)), aO 11 (.bin .gtr (.t 10) (.v (.c (.i .i64 4)))), aO 12 (.mv (.t 11)), { dst := some 13, op := .mv (.t 1), guard := some (12, false) }, { dst := some 14, op := .mv (.t 2), guard := some (12, false) }, { dst := some 15, op := .call 131 [(.t 13), (.t 14), (.v (.c (.i .i64 256)))], guard := some (12, false) }, { dst := some 16, op := .un .not (.t 15), guard := some (12, false) }, aO 17 (.pick (.t 12) (.v (.c (.b true))) (.t 16))]
def num_With_c1 : ACode := .ops num_With_o1
def num_With_o2 : List AOper := [aO 18 (.loadN 256 (.t 4)), { dst := none, op := .storeN 256 (.t 8) (.t 18) }]
def num_With_c2 : ACode := .ops num_With_o2
def num_With_c3 : ACode := .seq [8] num_With_c2 .ret
def num_With_c4 : ACode := .cond (.t 17) num_With_c3 .skip
def num_With_c5 : ACode := .seq [1, 2, 3, 4, 8, 17] num_With_c1 num_With_c4
def num_With_o3 : List AOper := [aO 19 (.mv (.t 2)), aO 20 (.mv (.v (.c (.i .i64 0))))]
def num_With_c6 : ACode := .ops num_With_o3
def num_With_o4 : List AOper := [aO 21 (.bin .lss (.t 20) (.t 19))]
def num_With_c7 : ACode := .ops num_With_o4
def num_With_c8 : ACode := .cond (.t 21) .skip (.exit 0)
def num_With_o5 : List AOper := [aO 22 (.mv (.t 20)), aO 9 (.mv (.t 22))]
def num_With_c9 : ACode := .ops num_With_o5
def num_With_o6 : List AOper := [aO 23 (.mv (.t 1)), aO 24 (.mv (.t 9)), aO 25 (.bin .add (.t 23) (.t 24)), aO 26 (.mv (.t 3)), aO 27 (.mv (.t 9)), aO 28 (.bin .mul (.v (.c (.i .i64 8))) (.t 27)), aO 29 (.conv .u64 (.t 28)), aO 30 (.bin .shr (.t 26) (.t 29)), aO 31 (.conv .u8 (.t 30)), aO 32 (.iAddrA 256 1 (.t 4) (.t 25)), { dst := none, op := .store1 (.t 32) (.t 31) }]
def num_With_c10 : ACode := .ops num_With_o6
def num_With_c11 : ACode := .seq [1, 3, 4, 8, 9, 19, 20] num_With_c9 num_With_c10
def num_With_c12 : ACode := .block 1 num_With_c11
def num_With_o7 : List AOper := [aO 33 (.bin .add (.t 20) (.v (.c (.i .i64 1)))), aO 20 (.mv (.t 33))]
def num_With_c13 : ACode := .ops num_With_o7
def num_With_c14 : ACode := .seq [1, 3, 4, 8, 19, 20] num_With_c12 num_With_c13
def num_With_c15 : ACode := .seq [1, 3, 4, 8, 19, 20] num_With_c8 num_With_c14
def num_With_c16 : ACode := .seq [1, 3, 4, 8, 19, 20, 21] num_With_c7 num_With_c15
def num_With_c17 : ACode := .loop [1, 3, 4, 8, 19, 20] num_With_c16
def num_With_c18 : ACode := .block 0 num_With_c17
def num_With_c19 : ACode := .seq [1, 3, 4, 8, 19, 20] num_With_c6 num_With_c18
def num_With_o8 : List AOper := [aO 34 (.loadN 256 (.t 4)), { dst := none, op := .storeN 256 (.t 8) (.t 34) }]
def num_With_c20 : ACode := .ops num_With_o8
def num_With_c21 : ACode := .seq [8] num_With_c20 .ret
def num_With_c22 : ACode := .seq [4, 8] num_With_c19 num_With_c21
def num_With_c23 : ACode := .seq [1, 2, 3, 4, 8] num_With_c5 num_With_c22
def num_With_c24 : ACode := .seq [1, 2, 3, 4, 8] num_With_c0 num_With_c23
def A_num_With : AFn := ⟨num_With_c24, [.cellN 8 256]⟩
def E_num_With : Sums := disp 131 S_num_there disp0
def num_With_c0_d (n : Nat) : SmV := smOps E_num_With num_With_o0
def num_With_c1_d (n : Nat) : SmV := smOps E_num_With num_With_o1
def num_With_c2_d (n : Nat) : SmV := smOps E_num_With num_With_o2
def num_With_c3_d (n : Nat) : SmV := smSeq [8] (num_With_c2_d n) smRet
def num_With_c4_d (n : Nat) : SmV := smCond (.t 17) (num_With_c3_d n) smSkip
def num_With_c5_d (n : Nat) : SmV := smSeq [1, 2, 3, 4, 8, 17] (num_With_c1_d n) (num_With_c4_d n)
def num_With_c6_d (n : Nat) : SmV := smOps E_num_With num_With_o3
def num_With_c7_d (n : Nat) : SmV := smOps E_num_With num_With_o4
def num_With_c8_d (n : Nat) : SmV := smCond (.t 21) smSkip (smExit 0)
def num_With_c9_d (n : Nat) : SmV := smOps E_num_With num_With_o5
def num_With_c10_d (n : Nat) : SmV := smOps E_num_With num_With_o6
def num_With_c11_d (n : Nat) : SmV := smSeq [1, 3, 4, 8, 9, 19, 20] (num_With_c9_d n) (num_With_c10_d n)
def num_With_c12_d (n : Nat) : SmV := smBlock 1 (num_With_c11_d n)
def num_With_c13_d (n : Nat) : SmV := smOps E_num_With num_With_o7
def num_With_c14_d (n : Nat) : SmV := smSeq [1, 3, 4, 8, 19, 20] (num_With_c12_d n) (num_With_c13_d n)
def num_With_c15_d (n : Nat) : SmV := smSeq [1, 3, 4, 8, 19, 20] (num_With_c8_d n) (num_With_c14_d n)
def num_With_c16_d (n : Nat) : SmV := smSeq [1, 3, 4, 8, 19, 20, 21] (num_With_c7_d n) (num_With_c15_d n)
def num_With_c17_d (n : Nat) : SmV := smLoop n [1, 3, 4, 8, 19, 20] (num_With_c16_d n)
def num_With_c18_d (n : Nat) : SmV := smBlock 0 (num_With_c17_d n)
def num_With_c19_d (n : Nat) : SmV := smSeq [1, 3, 4, 8, 19, 20] (num_With_c6_d n) (num_With_c18_d n)
def num_With_c20_d (n : Nat) : SmV := smOps E_num_With num_With_o8
def num_With_c21_d (n : Nat) : SmV := smSeq [8] (num_With_c20_d n) smRet
def num_With_c22_d (n : Nat) : SmV := smSeq [4, 8] (num_With_c19_d n) (num_With_c21_d n)
def num_With_c23_d (n : Nat) : SmV := smSeq [1, 2, 3, 4, 8] (num_With_c5_d n) (num_With_c22_d n)
def num_With_c24_d (n : Nat) : SmV := smSeq [1, 2, 3, 4, 8] (num_With_c0_d n) (num_With_c23_d n)
def num_With_k0 (n : Nat) : AExit → Env → Heap → OptV := fun x e h => match x with | .normal => hold ((num_With_c21_d n) A_num_With.fin (e.keep [4, 8]) h) | .exit id => A_num_With.fin (.exit id) e h | .ret => A_num_With.fin .ret e h
def num_With_k1 (n : Nat) : AExit → Env → Heap → OptV := fun x e h => match x with | .exit i => bif Nat.beq i 0 then (num_With_k0 n) .normal e h else (num_With_k0 n) (.exit i) e h | .normal => (num_With_k0 n) .normal e h | .ret => (num_With_k0 n) .ret e h
def num_With_l0 (n m : Nat) (x1 x3 x4 x8 x19 x20 : Val) (h : Heap) : OptV := around (num_With_c16_d n) [1, 3, 4, 8, 19, 20] (num_With_k1 n) m [(1, x1), (3, x3), (4, x4), (8, x8), (19, x19), (20, x20)] h
def R_num_With (n : Nat) (args : List Val) (h : Heap) : OptV := (num_With_c24_d n) A_num_With.fin (params 0 args) h
theorem R_num_With_eq (n : Nat) (a0 a1 a2 a3 : Val) (h : Heap) : R_num_With n [a0, a1, a2, a3] h = bnd (cells? a0) fun c1 => bnd (abin .gtr a2 (.c (.i .i64 4))) fun v2 => bnd (gd v2 false (some (a1, ((h ++ [some (Row.mk (c1) true)]) ++ [some (Row.mk (List.replicate 256 (.i .u8 0)) true)]))) (some (.no, ((h ++ [some (Row.mk (c1) true)]) ++ [some (Row.mk (List.replicate 256 (.i .u8 0)) true)])))) fun p3 => bnd (gd v2 false (some (a2, p3.2)) (some (.no, p3.2))) fun p4 => bnd (gd v2 false (bnd (S_num_there [p3.1, p4.1, .c (.i .i64 256)] p4.2) fun p5 => some (p5.1, p5.2)) (some (.no, p4.2))) fun p6 => bnd (gd v2 false (bnd (aun .not p6.1) fun v7 => some (v7, p6.2)) (some (.no, p6.2))) fun p8 => bnd (apick v2 (.c (.b true)) p8.1) fun v9 => cnd v9 (bnd (aloadN p8.2 256 ((.c (.p h.length 0)))) fun v10 => bnd (astoreN p8.2 256 ((.c (.p ((h ++ [some (Row.mk (c1) true)])).length 0))) v10) fun h11 => mp (aloadN h11 256 ((.c (.p ((h ++ [some (Row.mk (c1) true)])).length 0)))) fun v => (v, h11)) (num_With_l0 n n a1 a3 ((.c (.p h.length 0))) ((.c (.p ((h ++ [some (Row.mk (c1) true)])).length 0))) a2 (.c (.i .i64 0)) p8.2) := by kernel_rfl
theorem num_With_l0_eq (n m : Nat) (x1 x3 x4 x8 x19 x20 : Val) (h : Heap) : num_With_l0 n (m + 1) x1 x3 x4 x8 x19 x20 h = bnd (abin .lss x20 x19) fun v12 => cnd v12 (bnd (abin .add x1 x20) fun v13 => bnd (abin .mul (.c (.i .i64 8)) x20) fun v14 => bnd (aconv .u64 v14) fun v15 => bnd (abin .shr x3 v15) fun v16 => bnd (aconv .u8 v16) fun v17 => bnd (aiAddrA 256 1 x4 v13) fun v18 => bnd (astore1 h v18 v17) fun h19 => bnd (abin .add x20 (.c (.i .i64 1))) fun v20 => num_With_l0 n m x1 x3 x4 x8 x19 v20 h19) (bnd (aloadN h 256 x4) fun v21 => bnd (astoreN h 256 x8 v21) fun h22 => mp (aloadN h22 256 x8) fun v => (v, h22)) := by kernel_rfl
theorem K_num_With : FnK Try.prog 96 A_num_With E_num_With R_num_With := .mk' (sound1 S_num_there_ok sound0) Try.func96 (by kernel_rfl) (by intro n args h; kernel_rfl)
def S_num_With : Fun := tidy (Lim A_num_With E_num_With)
theorem S_num_With_ok : SOk Try.prog 96 S_num_With := K_num_With.sok
theorem S_num_With_flat {n : Nat} {args : List Val} {h h2 : Heap} {v : Val} (he : R_num_With n args (ro h) = some (v, h2)) (hf : v.flat = true) : S_num_With args h = some (v, h) := K_num_With.flat he hf
def num_Put_o0 : List AOper := [aO 8 (.nilrow 1), aO 9 (.mv (.v (.c (.b false))))]
def num_Put_c0 : ACode := .ops num_Put_o0
def num_Put_o1 : List AOper := [aO 12 (.mv (.t 2)), aO 13 (.bin .gtr (.t 12) (.v (.c (.i .i64 8)))), aO 14 (.mv (.t 13)), { dst := some 15, op := .mv (.t 1), guard := some (14, false) }, { dst := some 16, op := .mv (.t 2), guard := some (14, false) }, { dst := some 17, op := .mv (.t 0), guard := some (14, false) }, { dst := some 18, op := .len (.t 17), guard := some (14, false) }, { dst := some 19, op := .call 131 [(.t 15), (.t 16), (.t 18)], guard := some (14, false) }, { dst := some 20, op := .un .not (.t 19), guard := some (14, false) }, aO 21 (.pick (.t 14) (.v (.c (.b true))) (.t 20))]
def num_Put_c1 : ACode := .ops num_Put_o1
def num_Put_o2 : List AOper := [aO 8 (.nilrow 1), aO 9 (.mv (.v (.c (.b false))))]
def num_Put_c2 : ACode := .ops num_Put_o2
def num_Put_c3 : ACode := .seq [8, 9] num_Put_c2 .ret
def num_Put_c4 : ACode := .cond (.t 21) num_Put_c3 .skip
def num_Put_c5 : ACode := .seq [0, 1, 2, 3, 21] num_Put_c1 num_Put_c4
def num_Put_o3 : List AOper := [aO 22 (.buildSl 1 0 ([]) []), aO 23 (.mv (.t 0)), aO 24 (.app 1 (.t 22) (.t 23)), aO 10 (.mv (.t 24))]
def num_Put_c6 : ACode := .ops num_Put_o3
def num_Put_o4 : List AOper := [aO 25 (.mv (.t 2)), aO 26 (.mv (.v (.c (.i .i64 0))))]
def num_Put_c7 : ACode := .ops num_Put_o4
def num_Put_o5 : List AOper := [aO 27 (.bin .lss (.t 26) (.t 25))]
def num_Put_c8 : ACode := .ops num_Put_o5
def num_Put_c9 : ACode := .cond (.t 27) .skip (.exit 0)
def num_Put_o6 : List AOper := [aO 28 (.mv (.t 26)), aO 11 (.mv (.t 28))]
def num_Put_c10 : ACode := .ops num_Put_o6
def num_Put_o7 : List AOper := [aO 29 (.mv (.t 10)), aO 30 (.mv (.t 1)), aO 31 (.mv (.t 11)), aO 32 (.bin .add (.t 30) (.t 31)), aO 33 (.mv (.t 3)), aO 34 (.mv (.t 11)), aO 35 (.bin .mul (.v (.c (.i .i64 8))) (.t 34)), aO 36 (.conv .u64 (.t 35)), aO 37 (.bin .shr (.t 33) (.t 36)), aO 38 (.conv .u8 (.t 37)), aO 39 (.iAddrL 1 (.t 29) (.t 32)), { dst := none, op := .store1 (.t 39) (.t 38) }]
def num_Put_c11 : ACode := .ops num_Put_o7
def num_Put_c12 : ACode := .seq [1, 3, 10, 11, 25, 26] num_Put_c10 num_Put_c11
def num_Put_c13 : ACode := .block 1 num_Put_c12
def num_Put_o8 : List AOper := [aO 40 (.bin .add (.t 26) (.v (.c (.i .i64 1)))), aO 26 (.mv (.t 40))]
def num_Put_c14 : ACode := .ops num_Put_o8
def num_Put_c15 : ACode := .seq [1, 3, 10, 25, 26] num_Put_c13 num_Put_c14
def num_Put_c16 : ACode := .seq [1, 3, 10, 25, 26] num_Put_c9 num_Put_c15
def num_Put_c17 : ACode := .seq [1, 3, 10, 25, 26, 27] num_Put_c8 num_Put_c16
def num_Put_c18 : ACode := .loop [1, 3, 10, 25, 26] num_Put_c17
def num_Put_c19 : ACode := .block 0 num_Put_c18
def num_Put_c20 : ACode := .seq [1, 3, 10, 25, 26] num_Put_c7 num_Put_c19
def num_Put_o9 : List AOper := [aO 41 (.mv (.t 10)), aO 8 (.mv (.t 41)), aO 9 (.mv (.v (.c (.b true))))]
def num_Put_c21 : ACode := .ops num_Put_o9
def num_Put_c22 : ACode := .seq [8, 9] num_Put_c21 .ret
def num_Put_c23 : ACode := .seq [10] num_Put_c20 num_Put_c22
def num_Put_c24 : ACode := .seq [1, 2, 3, 10] num_Put_c6 num_Put_c23
def num_Put_c25 : ACode := .seq [0, 1, 2, 3] num_Put_c5 num_Put_c24
def num_Put_c26 : ACode := .seq [0, 1, 2, 3] num_Put_c0 num_Put_c25
def A_num_Put : AFn := ⟨num_Put_c26, [.tmp 8, .tmp 9]⟩
def E_num_Put : Sums := disp 131 S_num_there disp0
def num_Put_c0_d (n : Nat) : SmV := smOps E_num_Put num_Put_o0
def num_Put_c1_d (n : Nat) : SmV := smOps E_num_Put num_Put_o1
def num_Put_c2_d (n : Nat) : SmV := smOps E_num_Put num_Put_o2
def num_Put_c3_d (n : Nat) : SmV := smSeq [8, 9] (num_Put_c2_d n) smRet
def num_Put_c4_d (n : Nat) : SmV := smCond (.t 21) (num_Put_c3_d n) smSkip
def num_Put_c5_d (n : Nat) : SmV := smSeq [0, 1, 2, 3, 21] (num_Put_c1_d n) (num_Put_c4_d n)
def num_Put_c6_d (n : Nat) : SmV := smOps E_num_Put num_Put_o3
def num_Put_c7_d (n : Nat) : SmV := smOps E_num_Put num_Put_o4
def num_Put_c8_d (n : Nat) : SmV := smOps E_num_Put num_Put_o5
def num_Put_c9_d (n : Nat) : SmV := smCond (.t 27) smSkip (smExit 0)
def num_Put_c10_d (n : Nat) : SmV := smOps E_num_Put num_Put_o6
def num_Put_c11_d (n : Nat) : SmV := smOps E_num_Put num_Put_o7
def num_Put_c12_d (n : Nat) : SmV := smSeq [1, 3, 10, 11, 25, 26] (num_Put_c10_d n) (num_Put_c11_d n)
def num_Put_c13_d (n : Nat) : SmV := smBlock 1 (num_Put_c12_d n)
def num_Put_c14_d (n : Nat) : SmV := smOps E_num_Put num_Put_o8
def num_Put_c15_d (n : Nat) : SmV := smSeq [1, 3, 10, 25, 26] (num_Put_c13_d n) (num_Put_c14_d n)
def num_Put_c16_d (n : Nat) : SmV := smSeq [1, 3, 10, 25, 26] (num_Put_c9_d n) (num_Put_c15_d n)
def num_Put_c17_d (n : Nat) : SmV := smSeq [1, 3, 10, 25, 26, 27] (num_Put_c8_d n) (num_Put_c16_d n)
def num_Put_c18_d (n : Nat) : SmV := smLoop n [1, 3, 10, 25, 26] (num_Put_c17_d n)
def num_Put_c19_d (n : Nat) : SmV := smBlock 0 (num_Put_c18_d n)
def num_Put_c20_d (n : Nat) : SmV := smSeq [1, 3, 10, 25, 26] (num_Put_c7_d n) (num_Put_c19_d n)
def num_Put_c21_d (n : Nat) : SmV := smOps E_num_Put num_Put_o9
def num_Put_c22_d (n : Nat) : SmV := smSeq [8, 9] (num_Put_c21_d n) smRet
def num_Put_c23_d (n : Nat) : SmV := smSeq [10] (num_Put_c20_d n) (num_Put_c22_d n)
def num_Put_c24_d (n : Nat) : SmV := smSeq [1, 2, 3, 10] (num_Put_c6_d n) (num_Put_c23_d n)
def num_Put_c25_d (n : Nat) : SmV := smSeq [0, 1, 2, 3] (num_Put_c5_d n) (num_Put_c24_d n)
def num_Put_c26_d (n : Nat) : SmV := smSeq [0, 1, 2, 3] (num_Put_c0_d n) (num_Put_c25_d n)
def num_Put_k0 (n : Nat) : AExit → Env → Heap → OptV := fun x e h => match x with | .normal => hold ((num_Put_c22_d n) A_num_Put.fin (e.keep [10]) h) | .exit id => A_num_Put.fin (.exit id) e h | .ret => A_num_Put.fin .ret e h
def num_Put_k1 (n : Nat) : AExit → Env → Heap → OptV := fun x e h => match x with | .exit i => bif Nat.beq i 0 then (num_Put_k0 n) .normal e h else (num_Put_k0 n) (.exit i) e h | .normal => (num_Put_k0 n) .normal e h | .ret => (num_Put_k0 n) .ret e h
def num_Put_l0 (n m : Nat) (x1 x3 x10 x25 x26 : Val) (h : Heap) : OptV := around (num_Put_c17_d n) [1, 3, 10, 25, 26] (num_Put_k1 n) m [(1, x1), (3, x3), (10, x10), (25, x25), (26, x26)] h
def R_num_Put (n : Nat) (args : List Val) (h : Heap) : OptV := (num_Put_c26_d n) A_num_Put.fin (params 0 args) h
theorem R_num_Put_eq (n : Nat) (a0 a1 a2 a3 : Val) (h : Heap) : R_num_Put n [a0, a1, a2, a3] h = bnd (abin .gtr a2 (.c (.i .i64 8))) fun v1 => bnd (gd v1 false (some (a1, (h ++ [some (Row.mk ([]) true)]))) (some (.no, (h ++ [some (Row.mk ([]) true)])))) fun p2 => bnd (gd v1 false (some (a2, p2.2)) (some (.no, p2.2))) fun p3 => bnd (gd v1 false (some (a0, p3.2)) (some (.no, p3.2))) fun p4 => bnd (gd v1 false (bnd (alen p4.1) fun v5 => some (v5, p4.2)) (some (.no, p4.2))) fun p6 => bnd (gd v1 false (bnd (S_num_there [p2.1, p3.1, p6.1] p6.2) fun p7 => some (p7.1, p7.2)) (some (.no, p6.2))) fun p8 => bnd (gd v1 false (bnd (aun .not p8.1) fun v9 => some (v9, p8.2)) (some (.no, p8.2))) fun p10 => bnd (apick v1 (.c (.b true)) p10.1) fun v11 => cnd v11 (tupN [some ((.c (.sl p10.2.length 0 0 1))), some (.c (.b false))] ((p10.2 ++ [some (Row.mk ([]) true)]))) (bnd (afill ([]) []) fun c12 => bnd (aapp ((p10.2 ++ [some (Row.mk (c12) true)])) 1 ((.c (.sl p10.2.length 0 0 1))) a0) fun p13 => num_Put_l0 n n a1 a3 p13.1 a2 (.c (.i .i64 0)) p13.2) := by kernel_rfl
theorem num_Put_l0_eq (n m : Nat) (x1 x3 x10 x25 x26 : Val) (h : Heap) : num_Put_l0 n (m + 1) x1 x3 x10 x25 x26 h = bnd (abin .lss x26 x25) fun v14 => cnd v14 (bnd (abin .add x1 x26) fun v15 => bnd (abin .mul (.c (.i .i64 8)) x26) fun v16 => bnd (aconv .u64 v16) fun v17 => bnd (abin .shr x3 v17) fun v18 => bnd (aconv .u8 v18) fun v19 => bnd (aiAddrL 1 x10 v15) fun v20 => bnd (astore1 h v20 v19) fun h21 => bnd (abin .add x26 (.c (.i .i64 1))) fun v22 => num_Put_l0 n m x1 x3 x10 x25 v22 h21) (tupN [some x10, some (.c (.b true))] h) := by kernel_rfl
theorem K_num_Put : FnK Try.prog 97 A_num_Put E_num_Put R_num_Put := .mk' (sound1 S_num_there_ok sound0) Try.func97 (by kernel_rfl) (by intro n args h; kernel_rfl)
def S_num_Put : Fun := tidy (Lim A_num_Put E_num_Put)
theorem S_num_Put_ok : SOk Try.prog 97 S_num_Put := K_num_Put.sok
theorem S_num_Put_tidy {n : Nat} {args : List Val} {h h2 : Heap} {v : Val} {v2 : Val} {ids : List Nat} (he : R_num_Put n args (ro h) = some (v, h2)) (hc : canonV h2 h.length v = some (v2, ids)) : S_num_Put args h = some (v2, h ++ ids.map (rd h2)) := K_num_Put.tidy he hc
def num_Cut_o0 : List AOper := [aO 3 (.box (.t 0)), aO 6 (.nilrow 1)]
def num_Cut_c0 : ACode := .ops num_Cut_o0
def num_Cut_o1 : List AOper := [aO 9 (.mv (.t 1)), aO 10 (.bin .lss (.t 9) (.v (.c (.i .i64 0)))), aO 11 (.mv (.t 10)), { dst := some 12, op := .mv (.t 1), guard := some (11, false) }, { dst := some 13, op := .bin .geq (.t 12) (.v (.c (.i .i64 256))), guard := some (11, false) }, aO 14 (.pick (.t 11) (.v (.c (.b true))) (.t 13)), aO 15 (.mv (.t 14)), { dst := some 16, op := .mv (.t 2), guard := some (15, false) }, { dst := some 17, op := .bin .lss (.t 16) (.v (.c (.i .i64 1))), guard := some (15, false) }, aO 18 (.pick (.t 15) (.v (.c (.b true))) (.t 17))]
def num_Cut_c1 : ACode := .ops num_Cut_o1
def num_Cut_o2 : List AOper := [aO 6 (.nilrow 1)]
def num_Cut_c2 : ACode := .ops num_Cut_o2
def num_Cut_c3 : ACode := .seq [6] num_Cut_c2 .ret
def num_Cut_c4 : ACode := .cond (.t 18) num_Cut_c3 .skip
def num_Cut_c5 : ACode := .seq [1, 2, 3, 18] num_Cut_c1 num_Cut_c4
def num_Cut_o3 : List AOper := [aO 19 (.mv (.t 2)), aO 20 (.mv (.t 1)), aO 21 (.bin .sub (.v (.c (.i .i64 256))) (.t 20)), aO 22 (.min (.t 19) (.t 21)), aO 2 (.mv (.t 22))]
def num_Cut_c6 : ACode := .ops num_Cut_o3
def num_Cut_o4 : List AOper := [aO 23 (.mv (.t 2)), aO 24 (.mkSl 1 ([.i .u8 0]) (.t 23) (.t 23)), aO 7 (.mv (.t 24))]
def num_Cut_c7 : ACode := .ops num_Cut_o4
def num_Cut_o5 : List AOper := [aO 25 (.mv (.t 2)), aO 26 (.mv (.v (.c (.i .i64 0))))]
def num_Cut_c8 : ACode := .ops num_Cut_o5
def num_Cut_o6 : List AOper := [aO 27 (.bin .lss (.t 26) (.t 25))]
def num_Cut_c9 : ACode := .ops num_Cut_o6
def num_Cut_c10 : ACode := .cond (.t 27) .skip (.exit 0)
def num_Cut_o7 : List AOper := [aO 28 (.mv (.t 26)), aO 8 (.mv (.t 28))]
def num_Cut_c11 : ACode := .ops num_Cut_o7
def num_Cut_o8 : List AOper := [aO 29 (.mv (.t 7)), aO 30 (.mv (.t 8)), aO 31 (.mv (.t 1)), aO 32 (.mv (.t 8)), aO 33 (.bin .add (.t 31) (.t 32)), aO 34 (.iAddrA 256 1 (.t 3) (.t 33)), aO 35 (.load1 (.t 34)), aO 36 (.iAddrL 1 (.t 29) (.t 30)), { dst := none, op := .store1 (.t 36) (.t 35) }]
def num_Cut_c12 : ACode := .ops num_Cut_o8
def num_Cut_c13 : ACode := .seq [1, 3, 7, 8, 25, 26] num_Cut_c11 num_Cut_c12
def num_Cut_c14 : ACode := .block 1 num_Cut_c13
def num_Cut_o9 : List AOper := [aO 37 (.bin .add (.t 26) (.v (.c (.i .i64 1)))), aO 26 (.mv (.t 37))]
def num_Cut_c15 : ACode := .ops num_Cut_o9
def num_Cut_c16 : ACode := .seq [1, 3, 7, 25, 26] num_Cut_c14 num_Cut_c15
def num_Cut_c17 : ACode := .seq [1, 3, 7, 25, 26] num_Cut_c10 num_Cut_c16
def num_Cut_c18 : ACode := .seq [1, 3, 7, 25, 26, 27] num_Cut_c9 num_Cut_c17
def num_Cut_c19 : ACode := .loop [1, 3, 7, 25, 26] num_Cut_c18
def num_Cut_c20 : ACode := .block 0 num_Cut_c19
def num_Cut_c21 : ACode := .seq [1, 3, 7, 25, 26] num_Cut_c8 num_Cut_c20
def num_Cut_o10 : List AOper := [aO 38 (.mv (.t 7)), aO 6 (.mv (.t 38))]
def num_Cut_c22 : ACode := .ops num_Cut_o10
def num_Cut_c23 : ACode := .seq [6] num_Cut_c22 .ret
def num_Cut_c24 : ACode := .seq [7] num_Cut_c21 num_Cut_c23
def num_Cut_c25 : ACode := .seq [1, 2, 3, 7] num_Cut_c7 num_Cut_c24
def num_Cut_c26 : ACode := .seq [1, 2, 3] num_Cut_c6 num_Cut_c25
def num_Cut_c27 : ACode := .seq [1, 2, 3] num_Cut_c5 num_Cut_c26
def num_Cut_c28 : ACode := .seq [1, 2, 3] num_Cut_c0 num_Cut_c27
def A_num_Cut : AFn := ⟨num_Cut_c28, [.tmp 6]⟩
def E_num_Cut : Sums := disp0
def num_Cut_c0_d (n : Nat) : SmV := smOps E_num_Cut num_Cut_o0
def num_Cut_c1_d (n : Nat) : SmV := smOps E_num_Cut num_Cut_o1
def num_Cut_c2_d (n : Nat) : SmV := smOps E_num_Cut num_Cut_o2
def num_Cut_c3_d (n : Nat) : SmV := smSeq [6] (num_Cut_c2_d n) smRet
def num_Cut_c4_d (n : Nat) : SmV := smCond (.t 18) (num_Cut_c3_d n) smSkip
def num_Cut_c5_d (n : Nat) : SmV := smSeq [1, 2, 3, 18] (num_Cut_c1_d n) (num_Cut_c4_d n)
def num_Cut_c6_d (n : Nat) : SmV := smOps E_num_Cut num_Cut_o3
def num_Cut_c7_d (n : Nat) : SmV := smOps E_num_Cut num_Cut_o4
def num_Cut_c8_d (n : Nat) : SmV := smOps E_num_Cut num_Cut_o5
def num_Cut_c9_d (n : Nat) : SmV := smOps E_num_Cut num_Cut_o6
def num_Cut_c10_d (n : Nat) : SmV := smCond (.t 27) smSkip (smExit 0)
def num_Cut_c11_d (n : Nat) : SmV := smOps E_num_Cut num_Cut_o7
def num_Cut_c12_d (n : Nat) : SmV := smOps E_num_Cut num_Cut_o8
def num_Cut_c13_d (n : Nat) : SmV := smSeq [1, 3, 7, 8, 25, 26] (num_Cut_c11_d n) (num_Cut_c12_d n)
def num_Cut_c14_d (n : Nat) : SmV := smBlock 1 (num_Cut_c13_d n)
def num_Cut_c15_d (n : Nat) : SmV := smOps E_num_Cut num_Cut_o9
def num_Cut_c16_d (n : Nat) : SmV := smSeq [1, 3, 7, 25, 26] (num_Cut_c14_d n) (num_Cut_c15_d n)
def num_Cut_c17_d (n : Nat) : SmV := smSeq [1, 3, 7, 25, 26] (num_Cut_c10_d n) (num_Cut_c16_d n)
def num_Cut_c18_d (n : Nat) : SmV := smSeq [1, 3, 7, 25, 26, 27] (num_Cut_c9_d n) (num_Cut_c17_d n)
def num_Cut_c19_d (n : Nat) : SmV := smLoop n [1, 3, 7, 25, 26] (num_Cut_c18_d n)
def num_Cut_c20_d (n : Nat) : SmV := smBlock 0 (num_Cut_c19_d n)
def num_Cut_c21_d (n : Nat) : SmV := smSeq [1, 3, 7, 25, 26] (num_Cut_c8_d n) (num_Cut_c20_d n)
def num_Cut_c22_d (n : Nat) : SmV := smOps E_num_Cut num_Cut_o10
def num_Cut_c23_d (n : Nat) : SmV := smSeq [6] (num_Cut_c22_d n) smRet
def num_Cut_c24_d (n : Nat) : SmV := smSeq [7] (num_Cut_c21_d n) (num_Cut_c23_d n)
def num_Cut_c25_d (n : Nat) : SmV := smSeq [1, 2, 3, 7] (num_Cut_c7_d n) (num_Cut_c24_d n)
def num_Cut_c26_d (n : Nat) : SmV := smSeq [1, 2, 3] (num_Cut_c6_d n) (num_Cut_c25_d n)
def num_Cut_c27_d (n : Nat) : SmV := smSeq [1, 2, 3] (num_Cut_c5_d n) (num_Cut_c26_d n)
def num_Cut_c28_d (n : Nat) : SmV := smSeq [1, 2, 3] (num_Cut_c0_d n) (num_Cut_c27_d n)
def num_Cut_k0 (n : Nat) : AExit → Env → Heap → OptV := fun x e h => match x with | .normal => hold ((num_Cut_c23_d n) A_num_Cut.fin (e.keep [7]) h) | .exit id => A_num_Cut.fin (.exit id) e h | .ret => A_num_Cut.fin .ret e h
def num_Cut_k1 (n : Nat) : AExit → Env → Heap → OptV := fun x e h => match x with | .exit i => bif Nat.beq i 0 then (num_Cut_k0 n) .normal e h else (num_Cut_k0 n) (.exit i) e h | .normal => (num_Cut_k0 n) .normal e h | .ret => (num_Cut_k0 n) .ret e h
def num_Cut_l0 (n m : Nat) (x1 x3 x7 x25 x26 : Val) (h : Heap) : OptV := around (num_Cut_c18_d n) [1, 3, 7, 25, 26] (num_Cut_k1 n) m [(1, x1), (3, x3), (7, x7), (25, x25), (26, x26)] h
def R_num_Cut (n : Nat) (args : List Val) (h : Heap) : OptV := (num_Cut_c28_d n) A_num_Cut.fin (params 0 args) h
theorem R_num_Cut_eq (n : Nat) (a0 a1 a2 : Val) (h : Heap) : R_num_Cut n [a0, a1, a2] h = bnd (cells? a0) fun c1 => bnd (abin .lss a1 (.c (.i .i64 0))) fun v2 => bnd (gd v2 false (some (a1, ((h ++ [some (Row.mk (c1) true)]) ++ [some (Row.mk ([]) true)]))) (some (.no, ((h ++ [some (Row.mk (c1) true)]) ++ [some (Row.mk ([]) true)])))) fun p3 => bnd (gd v2 false (bnd (abin .geq p3.1 (.c (.i .i64 256))) fun v4 => some (v4, p3.2)) (some (.no, p3.2))) fun p5 => bnd (apick v2 (.c (.b true)) p5.1) fun v6 => bnd (gd v6 false (some (a2, p5.2)) (some (.no, p5.2))) fun p7 => bnd (gd v6 false (bnd (abin .lss p7.1 (.c (.i .i64 1))) fun v8 => some (v8, p7.2)) (some (.no, p7.2))) fun p9 => bnd (apick v6 (.c (.b true)) p9.1) fun v10 => cnd v10 (some (((.c (.sl p9.2.length 0 0 1))), (p9.2 ++ [some (Row.mk ([]) true)]))) (bnd (abin .sub (.c (.i .i64 256)) a1) fun v11 => bnd (amin a2 v11) fun v12 => bnd (amkn v12 v12) fun n13 => num_Cut_l0 n n a1 ((.c (.p h.length 0))) ((.c (.sl p9.2.length 0 n13 1))) v12 (.c (.i .i64 0)) ((p9.2 ++ [some (Row.mk (rows ([.i .u8 0]) n13) true)]))) := by kernel_rfl
theorem num_Cut_l0_eq (n m : Nat) (x1 x3 x7 x25 x26 : Val) (h : Heap) : num_Cut_l0 n (m + 1) x1 x3 x7 x25 x26 h = bnd (abin .lss x26 x25) fun v14 => cnd v14 (bnd (abin .add x1 x26) fun v15 => bnd (aiAddrA 256 1 x3 v15) fun v16 => bnd (aload1 h v16) fun v17 => bnd (aiAddrL 1 x7 x26) fun v18 => bnd (astore1 h v18 v17) fun h19 => bnd (abin .add x26 (.c (.i .i64 1))) fun v20 => num_Cut_l0 n m x1 x3 x7 x25 v20 h19) (some (x7, h)) := by kernel_rfl
theorem K_num_Cut : FnK Try.prog 57 A_num_Cut E_num_Cut R_num_Cut := .mk' (sound0) Try.func57 (by kernel_rfl) (by intro n args h; kernel_rfl)
def S_num_Cut : Fun := tidy (Lim A_num_Cut E_num_Cut)
theorem S_num_Cut_ok : SOk Try.prog 57 S_num_Cut := K_num_Cut.sok
theorem S_num_Cut_out {n : Nat} {args : List Val} {h h2 : Heap} {v : Val} {sz k : Nat} {cs : List Cell} (he : R_num_Cut n args (ro h) = some (v, h2)) (ho : Out h.length h2 v sz k cs) (hf : flats cs = true) : S_num_Cut args h = some (.c (.sl h.length 0 k sz), h ++ [some ⟨cs, true⟩]) := K_num_Cut.out he ho hf
def num_Get_o0 : List AOper := [aO 6 (.mv (.v (.c (.i .u64 0)))), aO 7 (.mv (.v (.c (.b false))))]
def num_Get_c0 : ACode := .ops num_Get_o0
def num_Get_o1 : List AOper := [aO 10 (.mv (.t 2)), aO 11 (.bin .gtr (.t 10) (.v (.c (.i .i64 8)))), aO 12 (.mv (.t 11)), { dst := some 13, op := .mv (.t 1), guard := some (12, false) }, { dst := some 14, op := .mv (.t 2), guard := some (12, false) }, { dst := some 15, op := .mv (.t 0), guard := some (12, false) }, { dst := some 16, op := .len (.t 15), guard := some (12, false) }, { dst := some 17, op := .call 131 [(.t 13), (.t 14), (.t 16)], guard := some (12, false) }, { dst := some 18, op := .un .not (.t 17), guard := some (12, false) }, aO 19 (.pick (.t 12) (.v (.c (.b true))) (.t 18))]
def num_Get_c1 : ACode := .ops num_Get_o1
def num_Get_o2 : List AOper := [aO 6 (.mv (.v (.c (.i .u64 0)))), aO 7 (.mv (.v (.c (.b false))))]
def num_Get_c2 : ACode := .ops num_Get_o2
def num_Get_c3 : ACode := .seq [6, 7] num_Get_c2 .ret
def num_Get_c4 : ACode := .cond (.t 19) num_Get_c3 .skip
def num_Get_c5 : ACode := .seq [0, 1, 2, 19] num_Get_c1 num_Get_c4
def num_Get_o3 : List AOper := [aO 8 (.mv (.v (.c (.i .u64 0))))]
def num_Get_c6 : ACode := .ops num_Get_o3
def num_Get_o4 : List AOper := [aO 20 (.mv (.t 2)), aO 21 (.mv (.v (.c (.i .i64 0))))]
def num_Get_c7 : ACode := .ops num_Get_o4
def num_Get_o5 : List AOper := [aO 22 (.bin .lss (.t 21) (.t 20))]
def num_Get_c8 : ACode := .ops num_Get_o5
def num_Get_c9 : ACode := .cond (.t 22) .skip (.exit 0)
def num_Get_o6 : List AOper := [aO 23 (.mv (.t 21)), aO 9 (.mv (.t 23))]
def num_Get_c10 : ACode := .ops num_Get_o6
def num_Get_o7 : List AOper := [aO 24 (.mv (.t 8)), aO 25 (.mv (.t 0)), aO 26 (.mv (.t 1)), aO 27 (.mv (.t 9)), aO 28 (.bin .add (.t 26) (.t 27)), aO 29 (.iAddrL 1 (.t 25) (.t 28)), aO 30 (.load1 (.t 29)), aO 31 (.conv .u64 (.t 30)), aO 32 (.mv (.t 9)), aO 33 (.bin .mul (.v (.c (.i .i64 8))) (.t 32)), aO 34 (.conv .u64 (.t 33)), aO 35 (.bin .shl (.t 31) (.t 34)), aO 36 (.bin .or (.t 24) (.t 35)), aO 8 (.mv (.t 36))]
def num_Get_c11 : ACode := .ops num_Get_o7
def num_Get_c12 : ACode := .seq [0, 1, 8, 9, 20, 21] num_Get_c10 num_Get_c11
def num_Get_c13 : ACode := .block 1 num_Get_c12
def num_Get_o8 : List AOper := [aO 37 (.bin .add (.t 21) (.v (.c (.i .i64 1)))), aO 21 (.mv (.t 37))]
def num_Get_c14 : ACode := .ops num_Get_o8
def num_Get_c15 : ACode := .seq [0, 1, 8, 20, 21] num_Get_c13 num_Get_c14
def num_Get_c16 : ACode := .seq [0, 1, 8, 20, 21] num_Get_c9 num_Get_c15
def num_Get_c17 : ACode := .seq [0, 1, 8, 20, 21, 22] num_Get_c8 num_Get_c16
def num_Get_c18 : ACode := .loop [0, 1, 8, 20, 21] num_Get_c17
def num_Get_c19 : ACode := .block 0 num_Get_c18
def num_Get_c20 : ACode := .seq [0, 1, 8, 20, 21] num_Get_c7 num_Get_c19
def num_Get_o9 : List AOper := [aO 38 (.mv (.t 8)), aO 6 (.mv (.t 38)), aO 7 (.mv (.v (.c (.b true))))]
def num_Get_c21 : ACode := .ops num_Get_o9
def num_Get_c22 : ACode := .seq [6, 7] num_Get_c21 .ret
def num_Get_c23 : ACode := .seq [8] num_Get_c20 num_Get_c22
def num_Get_c24 : ACode := .seq [0, 1, 2, 8] num_Get_c6 num_Get_c23
def num_Get_c25 : ACode := .seq [0, 1, 2] num_Get_c5 num_Get_c24
def num_Get_c26 : ACode := .seq [0, 1, 2] num_Get_c0 num_Get_c25
def A_num_Get : AFn := ⟨num_Get_c26, [.tmp 6, .tmp 7]⟩
def E_num_Get : Sums := disp 131 S_num_there disp0
def num_Get_c0_d (n : Nat) : SmV := smOps E_num_Get num_Get_o0
def num_Get_c1_d (n : Nat) : SmV := smOps E_num_Get num_Get_o1
def num_Get_c2_d (n : Nat) : SmV := smOps E_num_Get num_Get_o2
def num_Get_c3_d (n : Nat) : SmV := smSeq [6, 7] (num_Get_c2_d n) smRet
def num_Get_c4_d (n : Nat) : SmV := smCond (.t 19) (num_Get_c3_d n) smSkip
def num_Get_c5_d (n : Nat) : SmV := smSeq [0, 1, 2, 19] (num_Get_c1_d n) (num_Get_c4_d n)
def num_Get_c6_d (n : Nat) : SmV := smOps E_num_Get num_Get_o3
def num_Get_c7_d (n : Nat) : SmV := smOps E_num_Get num_Get_o4
def num_Get_c8_d (n : Nat) : SmV := smOps E_num_Get num_Get_o5
def num_Get_c9_d (n : Nat) : SmV := smCond (.t 22) smSkip (smExit 0)
def num_Get_c10_d (n : Nat) : SmV := smOps E_num_Get num_Get_o6
def num_Get_c11_d (n : Nat) : SmV := smOps E_num_Get num_Get_o7
def num_Get_c12_d (n : Nat) : SmV := smSeq [0, 1, 8, 9, 20, 21] (num_Get_c10_d n) (num_Get_c11_d n)
def num_Get_c13_d (n : Nat) : SmV := smBlock 1 (num_Get_c12_d n)
def num_Get_c14_d (n : Nat) : SmV := smOps E_num_Get num_Get_o8
def num_Get_c15_d (n : Nat) : SmV := smSeq [0, 1, 8, 20, 21] (num_Get_c13_d n) (num_Get_c14_d n)
def num_Get_c16_d (n : Nat) : SmV := smSeq [0, 1, 8, 20, 21] (num_Get_c9_d n) (num_Get_c15_d n)
def num_Get_c17_d (n : Nat) : SmV := smSeq [0, 1, 8, 20, 21, 22] (num_Get_c8_d n) (num_Get_c16_d n)
def num_Get_c18_d (n : Nat) : SmV := smLoop n [0, 1, 8, 20, 21] (num_Get_c17_d n)
def num_Get_c19_d (n : Nat) : SmV := smBlock 0 (num_Get_c18_d n)
def num_Get_c20_d (n : Nat) : SmV := smSeq [0, 1, 8, 20, 21] (num_Get_c7_d n) (num_Get_c19_d n)
def num_Get_c21_d (n : Nat) : SmV := smOps E_num_Get num_Get_o9
def num_Get_c22_d (n : Nat) : SmV := smSeq [6, 7] (num_Get_c21_d n) smRet
def num_Get_c23_d (n : Nat) : SmV := smSeq [8] (num_Get_c20_d n) (num_Get_c22_d n)
def num_Get_c24_d (n : Nat) : SmV := smSeq [0, 1, 2, 8] (num_Get_c6_d n) (num_Get_c23_d n)
def num_Get_c25_d (n : Nat) : SmV := smSeq [0, 1, 2] (num_Get_c5_d n) (num_Get_c24_d n)
def num_Get_c26_d (n : Nat) : SmV := smSeq [0, 1, 2] (num_Get_c0_d n) (num_Get_c25_d n)
def num_Get_k0 (n : Nat) : AExit → Env → Heap → OptV := fun x e h => match x with | .normal => hold ((num_Get_c22_d n) A_num_Get.fin (e.keep [8]) h) | .exit id => A_num_Get.fin (.exit id) e h | .ret => A_num_Get.fin .ret e h
def num_Get_k1 (n : Nat) : AExit → Env → Heap → OptV := fun x e h => match x with | .exit i => bif Nat.beq i 0 then (num_Get_k0 n) .normal e h else (num_Get_k0 n) (.exit i) e h | .normal => (num_Get_k0 n) .normal e h | .ret => (num_Get_k0 n) .ret e h
def num_Get_l0 (n m : Nat) (x0 x1 x8 x20 x21 : Val) (h : Heap) : OptV := around (num_Get_c17_d n) [0, 1, 8, 20, 21] (num_Get_k1 n) m [(0, x0), (1, x1), (8, x8), (20, x20), (21, x21)] h
def R_num_Get (n : Nat) (args : List Val) (h : Heap) : OptV := (num_Get_c26_d n) A_num_Get.fin (params 0 args) h
theorem R_num_Get_eq (n : Nat) (a0 a1 a2 : Val) (h : Heap) : R_num_Get n [a0, a1, a2] h = bnd (abin .gtr a2 (.c (.i .i64 8))) fun v1 => bnd (gd v1 false (some (a1, h)) (some (.no, h))) fun p2 => bnd (gd v1 false (some (a2, p2.2)) (some (.no, p2.2))) fun p3 => bnd (gd v1 false (some (a0, p3.2)) (some (.no, p3.2))) fun p4 => bnd (gd v1 false (bnd (alen p4.1) fun v5 => some (v5, p4.2)) (some (.no, p4.2))) fun p6 => bnd (gd v1 false (bnd (S_num_there [p2.1, p3.1, p6.1] p6.2) fun p7 => some (p7.1, p7.2)) (some (.no, p6.2))) fun p8 => bnd (gd v1 false (bnd (aun .not p8.1) fun v9 => some (v9, p8.2)) (some (.no, p8.2))) fun p10 => bnd (apick v1 (.c (.b true)) p10.1) fun v11 => cnd v11 (tupN [some (.c (.i .u64 0)), some (.c (.b false))] p10.2) (num_Get_l0 n n a0 a1 (.c (.i .u64 0)) a2 (.c (.i .i64 0)) p10.2) := by kernel_rfl
theorem num_Get_l0_eq (n m : Nat) (x0 x1 x8 x20 x21 : Val) (h : Heap) : num_Get_l0 n (m + 1) x0 x1 x8 x20 x21 h = bnd (abin .lss x21 x20) fun v12 => cnd v12 (bnd (abin .add x1 x21) fun v13 => bnd (aiAddrL 1 x0 v13) fun v14 => bnd (aload1 h v14) fun v15 => bnd (aconv .u64 v15) fun v16 => bnd (abin .mul (.c (.i .i64 8)) x21) fun v17 => bnd (aconv .u64 v17) fun v18 => bnd (abin .shl v16 v18) fun v19 => bnd (abin .or x8 v19) fun v20 => bnd (abin .add x21 (.c (.i .i64 1))) fun v21 => num_Get_l0 n m x0 x1 v20 x20 v21 h) (tupN [some x8, some (.c (.b true))] h) := by kernel_rfl
theorem K_num_Get : FnK Try.prog 100 A_num_Get E_num_Get R_num_Get := .mk' (sound1 S_num_there_ok sound0) Try.func100 (by kernel_rfl) (by intro n args h; kernel_rfl)
def S_num_Get : Fun := tidy (Lim A_num_Get E_num_Get)
theorem S_num_Get_ok : SOk Try.prog 100 S_num_Get := K_num_Get.sok
theorem S_num_Get_flat {n : Nat} {args : List Val} {h h2 : Heap} {v : Val} (he : R_num_Get n args (ro h) = some (v, h2)) (hf : v.flat = true) : S_num_Get args h = some (v, h) := K_num_Get.flat he hf
def num_At_o0 : List AOper := [aO 3 (.box (.t 0)), aO 6 (.mv (.v (.c (.i .i64 0))))]
def num_At_c0 : ACode := .ops num_At_o0
def num_At_o1 : List AOper := [aO 9 (.mv (.t 2)), aO 10 (.bin .gtr (.t 9) (.v (.c (.i .i64 4)))), aO 11 (.mv (.t 10)), { dst := some 12, op := .mv (.t 1), guard := some (11, false) }, { dst := some 13, op := .mv (.t 2), guard := some (11, false) }, { dst := some 14, op := .call 131 [(.t 12), (.t 13), (.v (.c (.i .i64 256)))], guard := some (11, false) }, { dst := some 15, op := .un .not (.t 14), guard := some (11, false) }, aO 16 (.pick (.t 11) (.v (.c (.b true))) (.t 15))]
def num_At_c1 : ACode := .ops num_At_o1
def num_At_o2 : List AOper := [aO 6 (.mv (.v (.c (.i .i64 0))))]
def num_At_c2 : ACode := .ops num_At_o2
def num_At_c3 : ACode := .seq [6] num_At_c2 .ret
def num_At_c4 : ACode := .cond (.t 16) num_At_c3 .skip
def num_At_c5 : ACode := .seq [1, 2, 3, 16] num_At_c1 num_At_c4
def num_At_o3 : List AOper := [aO 7 (.mv (.v (.c (.i .i64 0))))]
def num_At_c6 : ACode := .ops num_At_o3
def num_At_o4 : List AOper := [aO 17 (.mv (.t 2)), aO 18 (.mv (.v (.c (.i .i64 0))))]
def num_At_c7 : ACode := .ops num_At_o4
def num_At_o5 : List AOper := [aO 19 (.bin .lss (.t 18) (.t 17))]
def num_At_c8 : ACode := .ops num_At_o5
def num_At_c9 : ACode := .cond (.t 19) .skip (.exit 0)
def num_At_o6 : List AOper := [aO 20 (.mv (.t 18)), aO 8 (.mv (.t 20))]
def num_At_c10 : ACode := .ops num_At_o6
def num_At_o7 : List AOper := [aO 21 (.mv (.t 7)), aO 22 (.mv (.t 1)), aO 23 (.mv (.t 8)), aO 24 (.bin .add (.t 22) (.t 23)), aO 25 (.iAddrA 256 1 (.t 3) (.t 24)), aO 26 (.load1 (.t 25)), aO 27 (.conv .i64 (.t 26)), aO 28 (.mv (.t 8)), aO 29 (.bin .mul (.v (.c (.i .i64 8))) (.t 28)), aO 30 (.conv .u64 (.t 29)), aO 31 (.bin .shl (.t 27) (.t 30)), aO 32 (.bin .or (.t 21) (.t 31)), aO 7 (.mv (.t 32))]
def num_At_c11 : ACode := .ops num_At_o7
def num_At_c12 : ACode := .seq [1, 3, 7, 8, 17, 18] num_At_c10 num_At_c11
def num_At_c13 : ACode := .block 1 num_At_c12
def num_At_o8 : List AOper := [aO 33 (.bin .add (.t 18) (.v (.c (.i .i64 1)))), aO 18 (.mv (.t 33))]
def num_At_c14 : ACode := .ops num_At_o8
def num_At_c15 : ACode := .seq [1, 3, 7, 17, 18] num_At_c13 num_At_c14
def num_At_c16 : ACode := .seq [1, 3, 7, 17, 18] num_At_c9 num_At_c15
def num_At_c17 : ACode := .seq [1, 3, 7, 17, 18, 19] num_At_c8 num_At_c16
def num_At_c18 : ACode := .loop [1, 3, 7, 17, 18] num_At_c17
def num_At_c19 : ACode := .block 0 num_At_c18
def num_At_c20 : ACode := .seq [1, 3, 7, 17, 18] num_At_c7 num_At_c19
def num_At_o9 : List AOper := [aO 34 (.mv (.t 7)), aO 6 (.mv (.t 34))]
def num_At_c21 : ACode := .ops num_At_o9
def num_At_c22 : ACode := .seq [6] num_At_c21 .ret
def num_At_c23 : ACode := .seq [7] num_At_c20 num_At_c22
def num_At_c24 : ACode := .seq [1, 2, 3, 7] num_At_c6 num_At_c23
def num_At_c25 : ACode := .seq [1, 2, 3] num_At_c5 num_At_c24
def num_At_c26 : ACode := .seq [1, 2, 3] num_At_c0 num_At_c25
def A_num_At : AFn := ⟨num_At_c26, [.tmp 6]⟩
def E_num_At : Sums := disp 131 S_num_there disp0
def num_At_c0_d (n : Nat) : SmV := smOps E_num_At num_At_o0
def num_At_c1_d (n : Nat) : SmV := smOps E_num_At num_At_o1
def num_At_c2_d (n : Nat) : SmV := smOps E_num_At num_At_o2
def num_At_c3_d (n : Nat) : SmV := smSeq [6] (num_At_c2_d n) smRet
def num_At_c4_d (n : Nat) : SmV := smCond (.t 16) (num_At_c3_d n) smSkip
def num_At_c5_d (n : Nat) : SmV := smSeq [1, 2, 3, 16] (num_At_c1_d n) (num_At_c4_d n)
def num_At_c6_d (n : Nat) : SmV := smOps E_num_At num_At_o3
def num_At_c7_d (n : Nat) : SmV := smOps E_num_At num_At_o4
def num_At_c8_d (n : Nat) : SmV := smOps E_num_At num_At_o5
def num_At_c9_d (n : Nat) : SmV := smCond (.t 19) smSkip (smExit 0)
def num_At_c10_d (n : Nat) : SmV := smOps E_num_At num_At_o6
def num_At_c11_d (n : Nat) : SmV := smOps E_num_At num_At_o7
def num_At_c12_d (n : Nat) : SmV := smSeq [1, 3, 7, 8, 17, 18] (num_At_c10_d n) (num_At_c11_d n)
def num_At_c13_d (n : Nat) : SmV := smBlock 1 (num_At_c12_d n)
def num_At_c14_d (n : Nat) : SmV := smOps E_num_At num_At_o8
def num_At_c15_d (n : Nat) : SmV := smSeq [1, 3, 7, 17, 18] (num_At_c13_d n) (num_At_c14_d n)
def num_At_c16_d (n : Nat) : SmV := smSeq [1, 3, 7, 17, 18] (num_At_c9_d n) (num_At_c15_d n)
def num_At_c17_d (n : Nat) : SmV := smSeq [1, 3, 7, 17, 18, 19] (num_At_c8_d n) (num_At_c16_d n)
def num_At_c18_d (n : Nat) : SmV := smLoop n [1, 3, 7, 17, 18] (num_At_c17_d n)
def num_At_c19_d (n : Nat) : SmV := smBlock 0 (num_At_c18_d n)
def num_At_c20_d (n : Nat) : SmV := smSeq [1, 3, 7, 17, 18] (num_At_c7_d n) (num_At_c19_d n)
def num_At_c21_d (n : Nat) : SmV := smOps E_num_At num_At_o9
def num_At_c22_d (n : Nat) : SmV := smSeq [6] (num_At_c21_d n) smRet
def num_At_c23_d (n : Nat) : SmV := smSeq [7] (num_At_c20_d n) (num_At_c22_d n)
def num_At_c24_d (n : Nat) : SmV := smSeq [1, 2, 3, 7] (num_At_c6_d n) (num_At_c23_d n)
def num_At_c25_d (n : Nat) : SmV := smSeq [1, 2, 3] (num_At_c5_d n) (num_At_c24_d n)
def num_At_c26_d (n : Nat) : SmV := smSeq [1, 2, 3] (num_At_c0_d n) (num_At_c25_d n)
def num_At_k0 (n : Nat) : AExit → Env → Heap → OptV := fun x e h => match x with | .normal => hold ((num_At_c22_d n) A_num_At.fin (e.keep [7]) h) | .exit id => A_num_At.fin (.exit id) e h | .ret => A_num_At.fin .ret e h
def num_At_k1 (n : Nat) : AExit → Env → Heap → OptV := fun x e h => match x with | .exit i => bif Nat.beq i 0 then (num_At_k0 n) .normal e h else (num_At_k0 n) (.exit i) e h | .normal => (num_At_k0 n) .normal e h | .ret => (num_At_k0 n) .ret e h
def num_At_l0 (n m : Nat) (x1 x3 x7 x17 x18 : Val) (h : Heap) : OptV := around (num_At_c17_d n) [1, 3, 7, 17, 18] (num_At_k1 n) m [(1, x1), (3, x3), (7, x7), (17, x17), (18, x18)] h
def R_num_At (n : Nat) (args : List Val) (h : Heap) : OptV := (num_At_c26_d n) A_num_At.fin (params 0 args) h
theorem R_num_At_eq (n : Nat) (a0 a1 a2 : Val) (h : Heap) : R_num_At n [a0, a1, a2] h = bnd (cells? a0) fun c1 => bnd (abin .gtr a2 (.c (.i .i64 4))) fun v2 => bnd (gd v2 false (some (a1, (h ++ [some (Row.mk (c1) true)]))) (some (.no, (h ++ [some (Row.mk (c1) true)])))) fun p3 => bnd (gd v2 false (some (a2, p3.2)) (some (.no, p3.2))) fun p4 => bnd (gd v2 false (bnd (S_num_there [p3.1, p4.1, .c (.i .i64 256)] p4.2) fun p5 => some (p5.1, p5.2)) (some (.no, p4.2))) fun p6 => bnd (gd v2 false (bnd (aun .not p6.1) fun v7 => some (v7, p6.2)) (some (.no, p6.2))) fun p8 => bnd (apick v2 (.c (.b true)) p8.1) fun v9 => cnd v9 (some ((.c (.i .i64 0)), p8.2)) (num_At_l0 n n a1 ((.c (.p h.length 0))) (.c (.i .i64 0)) a2 (.c (.i .i64 0)) p8.2) := by kernel_rfl
theorem num_At_l0_eq (n m : Nat) (x1 x3 x7 x17 x18 : Val) (h : Heap) : num_At_l0 n (m + 1) x1 x3 x7 x17 x18 h = bnd (abin .lss x18 x17) fun v10 => cnd v10 (bnd (abin .add x1 x18) fun v11 => bnd (aiAddrA 256 1 x3 v11) fun v12 => bnd (aload1 h v12) fun v13 => bnd (aconv .i64 v13) fun v14 => bnd (abin .mul (.c (.i .i64 8)) x18) fun v15 => bnd (aconv .u64 v15) fun v16 => bnd (abin .shl v14 v16) fun v17 => bnd (abin .or x7 v17) fun v18 => bnd (abin .add x18 (.c (.i .i64 1))) fun v19 => num_At_l0 n m x1 x3 v18 x17 v19 h) (some (x7, h)) := by kernel_rfl
theorem K_num_At : FnK Try.prog 101 A_num_At E_num_At R_num_At := .mk' (sound1 S_num_there_ok sound0) Try.func101 (by kernel_rfl) (by intro n args h; kernel_rfl)
def S_num_At : Fun := tidy (Lim A_num_At E_num_At)
theorem S_num_At_ok : SOk Try.prog 101 S_num_At := K_num_At.sok
theorem S_num_At_flat {n : Nat} {args : List Val} {h h2 : Heap} {v : Val} (he : R_num_At n args (ro h) = some (v, h2)) (hf : v.flat = true) : S_num_At args h = some (v, h) := K_num_At.flat he hf
end Go.Proofs.Ytdgggnlbdoiloaa
end
section
namespace Go.Proofs.Ytdgggnlbdoiloaa
open Go Go.Esc

def thereI (at' width all : Int) : Bool := decide (0 ≤ at') && decide (1 ≤ width) && decide (width ≤ all) && decide (at' ≤ all - width)

theorem thereI_true {a w n : Int} : thereI a w n = true ↔ 0 ≤ a ∧ 1 ≤ w ∧ w ≤ n ∧ a ≤ n - w := by
  unfold thereI; simp [and_assoc]

theorem there_eq {a w n : Int} {h : Heap} (hn : n < 9223372036854775808) :
    S_num_there [.c (.i .i64 a), .c (.i .i64 w), .c (.i .i64 n)] h = some (.c (.b (thereI a w n)), h) := by
  refine S_num_there_flat (n := 0) (h2 := ro h) ?_ rfl
  rw [R_num_there_eq]
  unfold thereI
  by_cases h1 : 0 ≤ a
  · by_cases h2 : 1 ≤ w
    · by_cases h3 : w ≤ n
      · have e : IntKind.wrap .i64 (n - w) = n - w := wrap_i64 (by omega) (by omega)
        simp [h1, h2, h3, e]
      · simp [h1, h2, h3]
    · simp [h1, h2]
  · simp [h1]

def getN (l : List UInt8) (a w : Int) : Option Nat := if w ≤ 8 ∧ thereI a w l.length = true then some (le ((l.drop a.toNat).take w.toNat)) else none

theorem num_At_loop {l : List UInt8} {h : Heap} {a w k : Nat} (hw : w ≤ 4) (haw : a + w ≤ 256) (hl : l.length = 256) : ∀ d i m, i + d = w → d < m →
    num_At_l0 k m (.c (.i .i64 a)) (.c (.p h.length 0)) (.c (.i .i64 (le ((l.drop a).take i)))) (.c (.i .i64 w)) (.c (.i .i64 i)) (h ++ [some ⟨encB l, true⟩]) = some (.c (.i .i64 (le ((l.drop a).take w))), h ++ [some ⟨encB l, true⟩])
  | d, i, 0, _, hm => by omega
  | 0, i, m + 1, hi, hm => by
    have e : i = w := by omega
    subst e
    rw [num_At_l0_eq]
    simp
  | d + 1, i, m + 1, hi, hm => by
    have ih := num_At_loop (h := h) (k := k) hw haw hl d (i + 1) m (by omega) (by omega)
    have hx := load1_of (h := h ++ [some ⟨encB l, true⟩]) (id := h.length) (off := a + i) (c := .i .u8 l[a + i].toNat) rd_new (by rw [encB_get, List.getElem?_eq_getElem (by omega)]; rfl) rfl
    have hb := l[a + i].toNat_lt
    have hlen : ((l.drop a).take i).length = i := by simp; omega
    have hle := le_lt ((l.drop a).take i)
    rw [hlen] at hle
    have hp := pow256_le (show i ≤ 4 by omega)
    have hbp := byte_pow_lt (x := l[a + i]) (show i < 4 by omega)
    have e2 : IntKind.wrap .i64 (8 * (i : Int)) = 8 * i := wrap_i64 (by omega) (by omega)
    have e3 : IntKind.wrap .u64 (8 * (i : Int)) = 8 * i := wrap_u64 (by omega) (by omega)
    have e5 : IntKind.wrap .i64 (l[a + i].toNat : Int) = l[a + i].toNat := wrap_i64 (by omega) (by omega)
    have e6 := shl_step (k := .i64) (x := l[a + i]) (show i < 8 by omega) (wrap_i64 (by omega) (by omega)) rfl
    have e7 : abin .or (.c (.i .i64 (le ((l.drop a).take i) : Nat))) (.c (.i .i64 ((l[a + i].toNat * 256 ^ i : Nat) : Int))) = some (.c (.i .i64 (le ((l.drop a).take (i + 1)) : Nat))) := by
      rw [or_i64 (by omega) (by omega), take_succ_get (by omega), ← or_step, hlen]
    have ea : aiAddrA 256 1 (.c (.p h.length 0)) (.c (.i .i64 ((a + i : Nat) : Int))) = some (.c (.p h.length (a + i))) := by rw [iAddrA_of (by omega)]; simp
    have h1' : (i : Int) < w := by omega
    rw [num_At_l0_eq]
    simp only [esc, h1', wi_add (show a + i < 9223372036854775808 by omega), e2, e3, ea, hx, e5, e6, e7, wi_succ (show i + 1 < 9223372036854775808 by omega)]
    exact ih

def atN (l : List UInt8) (a w : Int) : Nat := if w ≤ 4 ∧ thereI a w 256 = true then le ((l.drop a.toNat).take w.toNat) else 0

theorem num_At_eq {l : List UInt8} {h : Heap} (hl : l.length = 256) {a w : Int} :
    S_num_At [.a (encB l), .c (.i .i64 a), .c (.i .i64 w)] h = some (.c (.i .i64 (atN l a w)), h) := by
  refine S_num_At_flat (n := w.toNat + 1) (h2 := ro h ++ [some ⟨encB l, true⟩]) ?_ (by simp)
  rw [R_num_At_eq]
  unfold atN
  by_cases c1 : 4 < w
  · have c1' : ¬ w ≤ 4 := by omega
    simp [c1, c1']
  · have c1' : w ≤ 4 := by omega
    cases c2 : thereI a w 256 with
    | false => simp [c1, there_eq (show (256 : Int) < 9223372036854775808 by omega), c2]
    | true =>
      simp [c1, c1', there_eq (show (256 : Int) < 9223372036854775808 by omega), c2]
      rw [thereI_true] at c2
      have := num_At_loop (h := ro h) (a := a.toNat) (w := w.toNat) (k := w.toNat + 1) (by omega) (by omega) hl w.toNat 0 (w.toNat + 1) (by omega) (by omega)
      simp only [show ((a.toNat : Nat) : Int) = a by omega, show ((w.toNat : Nat) : Int) = w by omega] at this
      simpa [le] using this

theorem num_With_loop {l : List UInt8} {z : List Cell} {h : Heap} {a w k : Nat} {v : Int} (hw : w ≤ 4) (haw : a + w ≤ 256) (hl : l.length = 256) (hz : z.length = 256) : ∀ d i m, i + d = w → d < m →
    num_With_l0 k m (.c (.i .i64 a)) (.c (.i .i64 v)) (.c (.p h.length 0)) (.c (.p (h.length + 1) 0)) (.c (.i .i64 w)) (.c (.i .i64 i)) (h ++ [some ⟨encB (layB l a (bytesI i v)), true⟩, some ⟨z, true⟩]) =
      some (.a (encB (layB l a (bytesI w v))), h ++ [some ⟨encB (layB l a (bytesI w v)), true⟩, some ⟨encB (layB l a (bytesI w v)), true⟩])
  | d, i, 0, _, hm => by omega
  | 0, i, m + 1, hi, hm => by
    have e : i = w := by omega
    subst e
    have hle : (encB (layB l a (bytesI i v))).length = 256 := by rw [encB_length, layB_length (by simp; omega), hl]
    have s1 := loadAll (h := h ++ [some ⟨encB (layB l a (bytesI i v)), true⟩, some ⟨z, true⟩]) (id := h.length) (cs := encB (layB l a (bytesI i v))) (by simp) hle
    have s2 := storeAll (h := h ++ [some ⟨encB (layB l a (bytesI i v)), true⟩, some ⟨z, true⟩]) (id := h.length + 1) (cs := z) (xs := encB (layB l a (bytesI i v))) (by simp) hz hle
    have s3 := loadAll (h := h ++ [some ⟨encB (layB l a (bytesI i v)), true⟩, some ⟨encB (layB l a (bytesI i v)), true⟩]) (id := h.length + 1) (cs := encB (layB l a (bytesI i v))) (by simp) hle
    have h1' : ¬ (i : Int) < i := by omega
    rw [num_With_l0_eq]
    simp only [esc, h1', s1, s2, s3]
  | d + 1, i, m + 1, hi, hm => by
    have ih := num_With_loop (h := h) (k := k) (v := v) hw haw hl hz d (i + 1) m (by omega) (by omega)
    have e2 : IntKind.wrap .i64 (8 * (i : Int)) = 8 * i := wrap_i64 (by omega) (by omega)
    have e3 : IntKind.wrap .u64 (8 * (i : Int)) = 8 * i := wrap_u64 (by omega) (by omega)
    have e4 : abin .shr (.c (.i .i64 v)) (.c (.i .u64 (8 * (i : Int)))) = some (.c (.i .i64 (v / 2 ^ (Nat.min (8 * (i : Int)).toNat 64)))) := abin_shr (by omega)
    have ea : aiAddrA 256 1 (.c (.p h.length 0)) (.c (.i .i64 ((a + i : Nat) : Int))) = some (.c (.p h.length (a + i))) := by rw [iAddrA_of (by omega)]; simp
    have hst := store1_of (h := h ++ [some ⟨encB (layB l a (bytesI i v)), true⟩, some ⟨z, true⟩]) (id := h.length) (off := a + i) (cs := encB (layB l a (bytesI i v))) (x := .i .u8 (byI v i).toNat) (by simp)
      (by rw [encB_length, layB_length (by simp; omega)]; omega)
    have e5 : (layB l a (bytesI i v)).set (a + i) (byI v i) = layB l a (bytesI (i + 1) v) := by
      rw [bytesI_succ]
      have := layB_snoc (l := l) (xs := bytesI i v) (a := a) (x := byI v i) (by simp; omega)
      simpa using this
    rw [encB_set, e5] at hst
    have h1' : (i : Int) < w := by omega
    rw [num_With_l0_eq]
    simp only [esc, h1', wi_add (show a + i < 9223372036854775808 by omega), e2, e3, e4, byte_step (v := v) (show i < 8 by omega), ea, hst, wi_succ (show i + 1 < 9223372036854775808 by omega)]
    exact ih

def withB (l : List UInt8) (a w v : Int) : List UInt8 := if w ≤ 4 ∧ thereI a w 256 = true then layB l a.toNat (bytesI w.toNat v) else l

theorem withB_length {l : List UInt8} {a w v : Int} (hl : l.length = 256) : (withB l a w v).length = 256 := by
  unfold withB
  split
  · rename_i h
    rw [thereI_true] at h
    rw [layB_length (by simp; omega), hl]
  · exact hl

theorem num_With_run {l : List UInt8} {g : Heap} (hl : l.length = 256) {a w v : Int} :
    ∃ g', R_num_With (w.toNat + 1) [.a (encB l), .c (.i .i64 a), .c (.i .i64 w), .c (.i .i64 v)] g = some (.a (encB (withB l a w v)), g') := by
  have hle : (encB l).length = 256 := by rw [encB_length, hl]
  have hz : (List.replicate 256 (Cell.i .u8 0)).length = 256 := List.length_replicate
  rw [R_num_With_eq]
  generalize List.replicate 256 (Cell.i .u8 0) = z at *
  have s1 := loadAll (h := g ++ [some ⟨encB l, true⟩, some ⟨z, true⟩]) (id := g.length) (cs := encB l) (n := 256) (by simp) hle
  have s2 := storeAll (h := g ++ [some ⟨encB l, true⟩, some ⟨z, true⟩]) (id := g.length + 1) (cs := z) (xs := encB l) (by simp) hz hle
  have s3 := loadAll (h := g ++ [some ⟨encB l, true⟩, some ⟨encB l, true⟩]) (id := g.length + 1) (cs := encB l) (n := 256) (by simp) hle
  unfold withB
  by_cases c1 : 4 < w
  · rw [if_neg (by omega)]
    exact ⟨_, by simp only [esc, c1, s1, s2, s3]; rfl⟩
  · have c1' : w ≤ 4 := by omega
    cases c2 : thereI a w 256 with
    | false =>
      rw [if_neg (by simp)]
      exact ⟨_, by simp only [esc, c1, there_eq (show (256 : Int) < 9223372036854775808 by omega), c2, s1, s2, s3]; rfl⟩
    | true =>
      rw [if_pos ⟨c1', rfl⟩]
      have c3 := thereI_true.1 c2
      have := num_With_loop (h := g) (a := a.toNat) (w := w.toNat) (k := w.toNat + 1) (v := v) (z := z) (by omega) (by omega) hl hz w.toNat 0 (w.toNat + 1) (by omega) (by omega)
      simp only [show ((a.toNat : Nat) : Int) = a by omega, show ((w.toNat : Nat) : Int) = w by omega, show bytesI 0 v = [] from rfl, layB_nil] at this
      exact ⟨_, by simp only [esc, c1, there_eq (show (256 : Int) < 9223372036854775808 by omega), c2]; exact this⟩

theorem num_With_eq {l : List UInt8} {h : Heap} (hl : l.length = 256) {a w v : Int} :
    S_num_With [.a (encB l), .c (.i .i64 a), .c (.i .i64 w), .c (.i .i64 v)] h = some (.a (encB (withB l a w v)), h) := by
  obtain ⟨g, e⟩ := num_With_run (g := ro h) hl (a := a) (w := w) (v := v)
  exact S_num_With_flat e (by simp)

theorem num_Cut_loop {l : List UInt8} {h : Heap} {b id a n k : Nat} (haw : a + n ≤ 256) (hl : l.length = 256) : ∀ d i m, i + d = n → d < m →
    num_Cut_l0 k m (.c (.i .i64 a)) (.c (.p h.length 0)) (.c (.sl (h.length + 2) 0 n 1)) (.c (.i .i64 n)) (.c (.i .i64 i)) (h ++ [some ⟨encB l, true⟩, some ⟨[], true⟩, some ⟨encB ((l.drop a).take i ++ zeros (n - i)), true⟩]) =
      some (.c (.sl (h.length + 2) 0 n 1), h ++ [some ⟨encB l, true⟩, some ⟨[], true⟩, some ⟨encB ((l.drop a).take n), true⟩])
  | d, i, 0, _, hm => by omega
  | 0, i, m + 1, hi, hm => by
    have e : i = n := by omega
    subst e
    have h1' : ¬ (i : Int) < i := by omega
    rw [num_Cut_l0_eq]
    simp only [esc, h1']
    simp [zeros]
  | d + 1, i, m + 1, hi, hm => by
    have ih := num_Cut_loop (h := h) (b := b) (id := id) (k := k) haw hl d (i + 1) m (by omega) (by omega)
    have ea : aiAddrA 256 1 (.c (.p h.length 0)) (.c (.i .i64 ((a + i : Nat) : Int))) = some (.c (.p h.length (a + i))) := by rw [iAddrA_of (by omega)]; simp
    have eb : aiAddrL 1 (.c (.sl (h.length + 2) 0 n 1)) (.c (.i .i64 (i : Int))) = some (.c (.p (h.length + 2) i)) := by rw [iAddrL_of (by omega)]; simp
    have hx := load1_of (h := h ++ [some ⟨encB l, true⟩, some ⟨[], true⟩, some ⟨encB ((l.drop a).take i ++ zeros (n - i)), true⟩]) (id := h.length) (off := a + i) (c := .i .u8 l[a + i].toNat) (cs := encB l) (rw := true) (by simp) (by rw [encB_get, List.getElem?_eq_getElem (by omega)]; rfl) rfl
    have hst := store1_of (h := h ++ [some ⟨encB l, true⟩, some ⟨[], true⟩, some ⟨encB ((l.drop a).take i ++ zeros (n - i)), true⟩]) (id := h.length + 2) (off := i) (cs := encB ((l.drop a).take i ++ zeros (n - i))) (x := .i .u8 l[a + i].toNat) (by simp)
      (by rw [encB_length]; simp; omega)
    have e5 : ((l.drop a).take i ++ zeros (n - i)).set i l[a + i] = (l.drop a).take (i + 1) ++ zeros (n - (i + 1)) := by
      have hlen : ((l.drop a).take i).length = i := by simp; omega
      rw [List.set_append_right _ _ (by omega), hlen, Nat.sub_self, take_succ_get (by omega), List.append_assoc]
      refine congrArg ((l.drop a).take i ++ ·) ?_
      have : n - i = n - (i + 1) + 1 := by omega
      rw [this]
      unfold zeros
      rw [List.replicate_succ, List.set_cons_zero]; rfl
    rw [encB_set, e5] at hst
    have h1' : (i : Int) < n := by omega
    rw [num_Cut_l0_eq]
    simp only [esc, h1', wi_add (show a + i < 9223372036854775808 by omega), ea, hx, eb, hst, wi_succ (show i + 1 < 9223372036854775808 by omega)]
    exact ih

def cutB (l : List UInt8) (a n : Int) : List UInt8 := if 0 ≤ a then (l.drop a.toNat).take n.toNat else []

theorem rows_zero (n : Nat) : rows [Cell.i .u8 0] n = encB (zeros n) := by
  unfold rows zeros
  induction n with
  | zero => rfl
  | succ n ih => rw [List.replicate_succ, List.flatten_cons, ih, List.replicate_succ]; rfl

theorem num_Cut_run {l : List UInt8} {g : Heap} (hl : l.length = 256) {a n : Int} :
    ∃ v g', R_num_Cut ((min n (256 - a)).toNat + 1) [.a (encB l), .c (.i .i64 a), .c (.i .i64 n)] g = some (v, g') ∧ Out g.length g' v 1 (cutB l a n).length (encB (cutB l a n)) := by
  have hle : (encB l).length = 256 := by rw [encB_length, hl]
  rw [R_num_Cut_eq]
  unfold cutB
  by_cases c1 : a < 0
  · rw [if_neg (by omega)]
    exact ⟨_, _, by simp only [esc, c1]; rfl, by simp [encB_length], _, rfl, by simp, by simp; rfl⟩
  · rw [if_pos (by omega)]
    by_cases c2 : 256 ≤ a
    · have e : l.drop a.toNat = [] := List.drop_of_length_le (by omega)
      rw [e, List.take_nil]
      exact ⟨_, _, by simp only [esc, c1, c2]; rfl, by simp [encB_length], _, rfl, by simp, by simp; rfl⟩
    · by_cases c3 : n < 1
      · have e : n.toNat = 0 := by omega
        rw [e]
        exact ⟨_, _, by simp only [esc, c1, c2, c3]; rfl, by simp [encB_length], _, rfl, by simp, by simp; rfl⟩
      · have e1 : IntKind.wrap .i64 (256 - a) = 256 - a := wrap_i64 (by omega) (by omega)
        have e2 : amin (.c (.i .i64 n)) (.c (.i .i64 (256 - a))) = some (.c (.i .i64 ((min n (256 - a)).toNat : Nat))) := by
          simp only [amin]
          congr 3
          by_cases h : 256 - a < n
          · rw [if_pos h]; omega
          · rw [if_neg h]; omega
        generalize hN : (min n (256 - a)).toNat = N at *
        have e3 : amkn (.c (.i .i64 (N : Int))) (.c (.i .i64 (N : Int))) = some N := by
          have : nat? (.c (.i .i64 (N : Int))) = some N := by simp only [nat?]; rw [if_pos (by omega)]; simp
          simp [amkn, this]
        have e4 : (l.drop a.toNat).take n.toNat = (l.drop a.toNat).take N := by
          by_cases h : 256 - a < n
          · rw [List.take_of_length_le (by simp; omega), List.take_of_length_le (by simp; omega)]
          · have : n.toNat = N := by omega
            rw [this]
        have e5 : ((l.drop a.toNat).take N).length = N := by simp; omega
        rw [e4, e5]
        have := num_Cut_loop (h := g) (b := 0) (id := 0) (a := a.toNat) (n := N) (k := N + 1) (by omega) hl N 0 (N + 1) (by omega) (by omega)
        simp only [show ((a.toNat : Nat) : Int) = a by omega, List.take_zero, List.nil_append, Nat.sub_zero] at this
        exact ⟨_, _, by simp only [esc, c1, c2, c3, e1, e2, e3, rows_zero]; exact this, by simp [encB_length, e5], _, rfl, by omega, by simp⟩

theorem num_Cut_eq {l : List UInt8} {h : Heap} (hl : l.length = 256) {a n : Int} :
    S_num_Cut [.a (encB l), .c (.i .i64 a), .c (.i .i64 n)] h = some (.c (.sl h.length 0 (cutB l a n).length 1), h ++ [some ⟨encB (cutB l a n), true⟩]) := by
  obtain ⟨v, g, e, ho⟩ := num_Cut_run (g := ro h) hl (a := a) (n := n)
  exact S_num_Cut_out e (by simpa [ro_length] using ho) (by simp)

theorem num_Lay_loop {v : Val} {nv : Nat} {data l : List UInt8} {z : List Cell} {h : Heap} (hv : Has h v 1 nv (encB data)) {a k : Nat} (ha : a < 256) (hl : l.length = 256) (hz : z.length = 256) (hd : data.length < 9223372036854775808) : ∀ d i m, i + d = data.length → d < m → i ≤ 256 - a →
    num_Lay_l0 k m (.c (.i .i64 a)) (.c (.p h.length 0)) (.c (.p (h.length + 1) 0)) v (.c (.i .i64 data.length)) (.c (.i .i64 i)) (h ++ [some ⟨encB (layB l a (data.take i)), true⟩, some ⟨z, true⟩]) =
      some (.a (encB (layB l a (data.take (256 - a)))), h ++ [some ⟨encB (layB l a (data.take (256 - a))), true⟩, some ⟨encB (layB l a (data.take (256 - a))), true⟩])
  | d, i, 0, _, hm, _ => by omega
  | d, i, m + 1, hi, hm, hia => by
    have hll : ∀ i, i ≤ 256 - a → (encB (layB l a (data.take i))).length = 256 := fun i hi => by rw [encB_length, layB_length (by simp; omega), hl]
    have fin : data.take i = data.take (256 - a) → num_Lay_j0 k (.c (.p h.length 0)) (.c (.p (h.length + 1) 0)) (h ++ [some ⟨encB (layB l a (data.take i)), true⟩, some ⟨z, true⟩]) =
      some (.a (encB (layB l a (data.take (256 - a)))), h ++ [some ⟨encB (layB l a (data.take (256 - a))), true⟩, some ⟨encB (layB l a (data.take (256 - a))), true⟩]) := fun e => by
      rw [e]
      have hle := hll (256 - a) (Nat.le_refl _)
      have s1 := loadAll (h := h ++ [some ⟨encB (layB l a (data.take (256 - a))), true⟩, some ⟨z, true⟩]) (id := h.length) (cs := encB (layB l a (data.take (256 - a)))) (by simp) hle
      have s2 := storeAll (h := h ++ [some ⟨encB (layB l a (data.take (256 - a))), true⟩, some ⟨z, true⟩]) (id := h.length + 1) (cs := z) (xs := encB (layB l a (data.take (256 - a)))) (by simp) hz hle
      have s3 := loadAll (h := h ++ [some ⟨encB (layB l a (data.take (256 - a))), true⟩, some ⟨encB (layB l a (data.take (256 - a))), true⟩]) (id := h.length + 1) (cs := encB (layB l a (data.take (256 - a)))) (by simp) hle
      rw [num_Lay_j0_eq]
      simp only [esc, s1, s2, s3]
    rw [num_Lay_l0_eq]
    by_cases c1 : i < data.length
    · obtain ⟨d, rfl⟩ : ∃ e, d = e + 1 := ⟨d - 1, by omega⟩
      have hnv : data.length = nv := by simpa [encB_length] using hv.length
      obtain ⟨id, off, rfl, hid, h1, h2⟩ := (hv.more [some ⟨encB (layB l a (data.take i)), true⟩, some ⟨z, true⟩]).sl (by omega)
      have hx := h1 i (.i .u8 data[i].toNat) (by rw [encB_get, List.getElem?_eq_getElem (by omega)]; rfl)
      have eb : aiAddrL 1 (.c (.sl id off nv 1)) (.c (.i .i64 (i : Int))) = some (.c (.p id (off + i))) := by rw [iAddrL_of (by omega)]; simp
      have e1 : IntKind.wrap .i64 (256 - (a : Int)) = 256 - a := wrap_i64 (by omega) (by omega)
      have c1' : (i : Int) < data.length := by omega
      by_cases c2 : 256 - a ≤ i
      · have c2' : (256 : Int) - a ≤ i := by omega
        simp only [esc, c1', eb, hx, e1, c2']
        exact fin (by rw [show i = 256 - a by omega])
      · have c2' : ¬ (256 : Int) - a ≤ i := by omega
        have ih := num_Lay_loop hv (l := l) (z := z) (k := k) ha hl hz hd d (i + 1) m (by omega) (by omega) (by omega)
        have ea : aiAddrA 256 1 (.c (.p h.length 0)) (.c (.i .i64 ((a + i : Nat) : Int))) = some (.c (.p h.length (a + i))) := by rw [iAddrA_of (by omega)]; simp
        have hst := store1_of (h := h ++ [some ⟨encB (layB l a (data.take i)), true⟩, some ⟨z, true⟩]) (id := h.length) (off := a + i) (cs := encB (layB l a (data.take i))) (x := .i .u8 data[i].toNat) (by simp)
          (by rw [hll i hia]; omega)
        have e5 : (layB l a (data.take i)).set (a + i) data[i] = layB l a (data.take (i + 1)) := by
          have := layB_snoc (l := l) (xs := data.take i) (a := a) (x := data[i]) (by simp; omega)
          rw [List.length_take, Nat.min_eq_left (by omega)] at this
          rw [this, List.take_succ_eq_append_getElem c1]
        rw [encB_set, e5] at hst
        simp only [esc, c1', eb, hx, e1, c2', wi_add (show a + i < 9223372036854775808 by omega), ea, hst, wi_succ (show i + 1 < 9223372036854775808 by omega)]
        exact ih
    · have c1' : ¬ (i : Int) < data.length := by omega
      simp only [esc, c1']
      exact fin (by rw [List.take_of_length_le (by omega), List.take_of_length_le (by omega)])

def layI (l : List UInt8) (a : Int) (data : List UInt8) : List UInt8 := if 0 ≤ a ∧ a < 256 then layB l a.toNat (data.take (256 - a.toNat)) else l

theorem layI_length {l : List UInt8} {a : Int} {data : List UInt8} (hl : l.length = 256) : (layI l a data).length = 256 := by
  unfold layI
  split
  · rw [layB_length (by simp; omega), hl]
  · exact hl

theorem num_Lay_run {v : Val} {nv : Nat} {data l : List UInt8} {g : Heap} (hv : Has g v 1 nv (encB data)) (hl : l.length = 256) (hd : data.length < 9223372036854775808) {a : Int} :
    ∃ g', R_num_Lay (data.length + 1) [.a (encB l), .c (.i .i64 a), v] g = some (.a (encB (layI l a data)), g') := by
  have hle : (encB l).length = 256 := by rw [encB_length, hl]
  have hz : (List.replicate 256 (Cell.i .u8 0)).length = 256 := List.length_replicate
  have hnv : data.length = nv := by simpa [encB_length] using hv.length
  rw [R_num_Lay_eq]
  generalize List.replicate 256 (Cell.i .u8 0) = z at *
  have s1 := loadAll (h := g ++ [some ⟨encB l, true⟩, some ⟨z, true⟩]) (id := g.length) (cs := encB l) (n := 256) (by simp) hle
  have s2 := storeAll (h := g ++ [some ⟨encB l, true⟩, some ⟨z, true⟩]) (id := g.length + 1) (cs := z) (xs := encB l) (by simp) hz hle
  have s3 := loadAll (h := g ++ [some ⟨encB l, true⟩, some ⟨encB l, true⟩]) (id := g.length + 1) (cs := encB l) (n := 256) (by simp) hle
  unfold layI
  by_cases c1 : a < 0
  · rw [if_neg (by omega)]
    exact ⟨_, by simp only [esc, c1, s1, s2, s3]; rfl⟩
  · by_cases c2 : 256 ≤ a
    · rw [if_neg (by omega)]
      exact ⟨_, by simp only [esc, c1, c2, s1, s2, s3]; rfl⟩
    · rw [if_pos (by omega)]
      have := num_Lay_loop hv (l := l) (a := a.toNat) (k := data.length + 1) (z := z) (by omega) hl hz hd data.length 0 (data.length + 1) (by omega) (by omega) (by omega)
      simp only [show ((a.toNat : Nat) : Int) = a by omega, List.take_zero, layB_nil] at this
      exact ⟨_, by simp only [esc, c1, c2, hv.len, ← hnv]; exact this⟩

theorem num_Lay_eq {v : Val} {nv : Nat} {data l : List UInt8} {h : Heap} (hv : Has h v 1 nv (encB data)) (hl : l.length = 256) (hd : data.length < 9223372036854775808) {a : Int} :
    S_num_Lay [.a (encB l), .c (.i .i64 a), v] h = some (.a (encB (layI l a data)), h) := by
  obtain ⟨g, e⟩ := num_Lay_run hv.ro hl hd (a := a)
  exact S_num_Lay_flat e (by simp)

theorem num_Of_eq {v : Val} {nv : Nat} {data : List UInt8} {h : Heap} (hv : Has h v 1 nv (encB data)) (hd : data.length < 9223372036854775808) :
    S_num_Of [v] h = some (.a (encB (layI (zeros 256) 0 data)), h) := by
  have key : ∀ g, Has g v 1 nv (encB data) → ∃ g', R_num_Of 0 [v] g = some (.a (encB (layI (zeros 256) 0 data)), g') := by
    intro g hv
    rw [R_num_Of_eq]
    have hz : (encB (zeros 256)).length = 256 := by rw [encB_length]; exact zeros_length
    have hz0 : (zeros 256).length = 256 := zeros_length
    rw [zeros_enc]
    generalize zeros 256 = Z at *
    have e := num_Lay_eq (hv.more [some ⟨encB Z, true⟩]) hz0 hd (a := 0)
    have hl2 : (encB (layI Z 0 data)).length = 256 := by rw [encB_length, layI_length hz0]
    have s2 := storeAll (h := g ++ [some ⟨encB Z, true⟩]) (id := g.length) (cs := encB Z) (xs := encB (layI Z 0 data)) (by simp) hz hl2
    have s3 := loadAll (h := g ++ [some ⟨encB (layI Z 0 data), true⟩]) (id := g.length) (cs := encB (layI Z 0 data)) (n := 256) (by simp) hl2
    exact ⟨_, by simp only [esc, afill, e, s2, s3]; rfl⟩
  obtain ⟨g, e⟩ := key _ hv.ro
  exact S_num_Of_flat e (by simp)

end Go.Proofs.Ytdgggnlbdoiloaa
end
section
namespace Go.Proofs.Ytdgggnlbdoiloaa
open Go Go.Esc

theorem num_Get_loop {v : Val} {nv : Nat} {l : List UInt8} {h : Heap} (hv : Has h v 1 nv (encB l)) {a w k : Nat} (hw : w ≤ 8) (haw : a + w ≤ l.length) (hl : l.length < 9223372036854775808) : ∀ d i m, i + d = w → d < m →
    num_Get_l0 k m v (.c (.i .i64 a)) (.c (.i .u64 (le ((l.drop a).take i)))) (.c (.i .i64 w)) (.c (.i .i64 i)) h = some (.t [.c (.i .u64 (le ((l.drop a).take w))), .c (.b true)], h)
  | d, i, 0, _, hm => by omega
  | 0, i, m + 1, hi, hm => by
    have e : i = w := by omega
    subst e
    rw [num_Get_l0_eq]
    simp
  | d + 1, i, m + 1, hi, hm => by
    have ih := num_Get_loop hv (k := k) hw haw hl d (i + 1) m (by omega) (by omega)
    have hnv : l.length = nv := by simpa [encB_length] using hv.length
    obtain ⟨id, off, rfl, hid, h1, h2⟩ := hv.sl (by omega)
    have hx := h1 (a + i) (.i .u8 l[a + i].toNat) (by rw [encB_get, List.getElem?_eq_getElem (by omega)]; rfl)
    have hb := l[a + i].toNat_lt
    have hlen : ((l.drop a).take i).length = i := by simp; omega
    have hle := le_lt ((l.drop a).take i)
    rw [hlen] at hle
    have hp := pow256_le (show i ≤ 8 by omega)
    have hbp := byte_pow_lt (x := l[a + i]) (show i < 8 by omega)
    have e2 : IntKind.wrap .i64 (8 * (i : Int)) = 8 * i := wrap_i64 (by omega) (by omega)
    have e3 : IntKind.wrap .u64 (8 * (i : Int)) = 8 * i := wrap_u64 (by omega) (by omega)
    have e5 : IntKind.wrap .u64 (l[a + i].toNat : Int) = l[a + i].toNat := wrap_u64 (by omega) (by omega)
    have e6 := shl_step (k := .u64) (x := l[a + i]) (show i < 8 by omega) (wrap_u64 (by omega) (by omega)) rfl
    have e7 : abin .or (.c (.i .u64 (le ((l.drop a).take i) : Nat))) (.c (.i .u64 ((l[a + i].toNat * 256 ^ i : Nat) : Int))) = some (.c (.i .u64 (le ((l.drop a).take (i + 1)) : Nat))) := by
      rw [or_u64 (by omega) (by omega), take_succ_get (by omega), ← or_step, hlen]
    have ea : aiAddrL 1 (.c (.sl id off nv 1)) (.c (.i .i64 ((a + i : Nat) : Int))) = some (.c (.p id (off + (a + i)))) := by rw [iAddrL_of (by omega)]; simp
    have h1' : (i : Int) < w := by omega
    rw [num_Get_l0_eq]
    simp only [esc, h1', wi_add (show a + i < 9223372036854775808 by omega), e2, e3, ea, hx, e5, e6, e7, wi_succ (show i + 1 < 9223372036854775808 by omega)]
    exact ih


theorem num_Get_eq {v : Val} {nv : Nat} {l : List UInt8} {h : Heap} (hv : Has h v 1 nv (encB l)) {a w : Int} (hl : l.length < 9223372036854775808) :
    S_num_Get [v, .c (.i .i64 a), .c (.i .i64 w)] h = some (.t [.c (.i .u64 ((getN l a w).getD 0 : Nat)), .c (.b (getN l a w).isSome)], h) := by
  refine S_num_Get_flat (n := w.toNat + 1) (h2 := ro h) ?_ (by simp)
  rw [R_num_Get_eq]
  have hv' := hv.ro
  have hnv : l.length = nv := by simpa [encB_length] using hv.length
  unfold getN
  by_cases c1 : 8 < w
  · have c1' : ¬ w ≤ 8 := by omega
    simp [c1, c1']
  · have c1' : w ≤ 8 := by omega
    cases c2 : thereI a w l.length with
    | false => simp [c1, hv'.len, ← hnv, there_eq (show (l.length : Int) < 9223372036854775808 by omega), c2]
    | true =>
      simp [c1, c1', hv'.len, ← hnv, there_eq (show (l.length : Int) < 9223372036854775808 by omega), c2]
      rw [thereI_true] at c2
      have := num_Get_loop hv' (a := a.toNat) (w := w.toNat) (k := w.toNat + 1) (by omega) (by omega) hl w.toNat 0 (w.toNat + 1) (by omega) (by omega)
      simp only [show ((a.toNat : Nat) : Int) = a by omega, show ((w.toNat : Nat) : Int) = w by omega] at this
      simpa [le] using this

theorem num_Put_loop {l : List UInt8} {b id a w k : Nat} {v : Int} (hw : w ≤ 8) (haw : a + w ≤ l.length) (hl : l.length < 9223372036854775808) : ∀ d i m (h : Heap), i + d = w → d < m → b ≤ id → b ≤ h.length → rd h id = some ⟨encB (layB l a (bytesI i v)), true⟩ →
    ∃ h', num_Put_l0 k m (.c (.i .i64 a)) (.c (.i .u64 v)) (.c (.sl id 0 l.length 1)) (.c (.i .i64 w)) (.c (.i .i64 i)) h = some (.t [.c (.sl id 0 l.length 1), .c (.b true)], h') ∧ rd h' id = some ⟨encB (layB l a (bytesI w v)), true⟩
  | d, i, 0, h, _, hm, _, _, _ => by omega
  | 0, i, m + 1, h, hi, hm, _, _, hr => by
    have e : i = w := by omega
    subst e
    have h1' : ¬ (i : Int) < i := by omega
    rw [num_Put_l0_eq]
    exact ⟨h, by simp only [esc, h1'], hr⟩
  | d + 1, i, m + 1, h, hi, hm, hb, hbl, hr => by
    have e2 : IntKind.wrap .i64 (8 * (i : Int)) = 8 * i := wrap_i64 (by omega) (by omega)
    have e3 : IntKind.wrap .u64 (8 * (i : Int)) = 8 * i := wrap_u64 (by omega) (by omega)
    have e4 : abin .shr (.c (.i .u64 v)) (.c (.i .u64 (8 * (i : Int)))) = some (.c (.i .u64 (v / 2 ^ (Nat.min (8 * (i : Int)).toNat 64)))) := abin_shr (by omega)
    have ea : aiAddrL 1 (.c (.sl id 0 l.length 1)) (.c (.i .i64 ((a + i : Nat) : Int))) = some (.c (.p id (a + i))) := by rw [iAddrL_of (by omega)]; simp
    have hst := store1_of (off := a + i) (x := .i .u8 (byI v i).toNat) hr (by rw [encB_length, layB_length (by simp; omega)]; omega)
    have e5 : (layB l a (bytesI i v)).set (a + i) (byI v i) = layB l a (bytesI (i + 1) v) := by
      rw [bytesI_succ]
      have := layB_snoc (l := l) (xs := bytesI i v) (a := a) (x := byI v i) (by simp; omega)
      simpa using this
    rw [encB_set, e5] at hst
    obtain ⟨h', ih, hr'⟩ := num_Put_loop (b := b) (k := k) (v := v) hw haw hl d (i + 1) m (h.set id (some ⟨encB (layB l a (bytesI (i + 1) v)), true⟩)) (by omega) (by omega) hb (by simpa using hbl) (rd_set_same (rd_lt hr))
    have h1' : (i : Int) < w := by omega
    rw [num_Put_l0_eq]
    exact ⟨h', by simp only [esc, h1', wi_add (show a + i < 9223372036854775808 by omega), e2, e3, e4, byte_step (v := v) (show i < 8 by omega), ea, hst, wi_succ (show i + 1 < 9223372036854775808 by omega)]; exact ih, hr'⟩

def putN (l : List UInt8) (a w v : Int) : Option (List UInt8) := if w ≤ 8 ∧ thereI a w l.length = true then some (layB l a.toNat (bytesI w.toNat v)) else none

theorem num_Put_eq {x : Val} {nv : Nat} {l : List UInt8} {h : Heap} (hv : Has h x 1 nv (encB l)) {a w v : Int} (hl : l.length ≤ 1073741824) :
    S_num_Put [x, .c (.i .i64 a), .c (.i .i64 w), .c (.i .u64 v)] h = some (.t [.c (.sl h.length 0 ((putN l a w v).getD []).length 1), .c (.b (putN l a w v).isSome)], h ++ [some ⟨encB ((putN l a w v).getD []), true⟩]) := by
  have hnv : l.length = nv := by simpa [encB_length] using hv.length
  have key : ∀ g, Has g x 1 nv (encB l) → ∃ id g', R_num_Put (w.toNat + 1) [x, .c (.i .i64 a), .c (.i .i64 w), .c (.i .u64 v)] g = some (.t [.c (.sl id 0 ((putN l a w v).getD []).length 1), .c (.b (putN l a w v).isSome)], g') ∧ g.length ≤ id ∧ rd g' id = some ⟨encB ((putN l a w v).getD []), true⟩ := by
    intro g hv
    rw [R_num_Put_eq]
    have hvm := hv.more [some ⟨[], true⟩]
    unfold putN
    by_cases c1 : 8 < w
    · rw [if_neg (by omega)]
      exact ⟨_, _, by simp only [esc, c1]; rfl, by simp, by simp; rfl⟩
    · cases c2 : thereI a w l.length with
      | false =>
        rw [if_neg (by simp)]
        exact ⟨_, _, by simp only [esc, c1, hvm.len, ← hnv, there_eq (show (l.length : Int) < 9223372036854775808 by omega), c2]; rfl, by simp, by simp; rfl⟩
      | true =>
        rw [if_pos ⟨by omega, rfl⟩]
        have c3 := thereI_true.1 c2
        have hvm2 := hv.more [some ⟨[], true⟩, some ⟨[], true⟩]
        have e1 : aapp (g ++ [some ⟨[], true⟩, some ⟨[], true⟩]) 1 (.c (.sl (g.length + 1) 0 0 1)) x = some (.c (.sl (g.length + 2) 0 l.length 1), g ++ [some ⟨[], true⟩, none, some ⟨encB l, true⟩]) := by
          simp [aapp, hvm2.add, encB_length]
          exact hl
        obtain ⟨g', e2, hr⟩ := num_Put_loop (l := l) (b := g.length) (id := g.length + 2) (a := a.toNat) (w := w.toNat) (k := w.toNat + 1) (v := v) (by omega) (by omega) (by omega) w.toNat 0 (w.toNat + 1) (g ++ [some ⟨[], true⟩, none, some ⟨encB l, true⟩]) (by omega) (by omega) (by omega) (by simp) (by simp [bytesI, layB_nil])
        simp only [show ((a.toNat : Nat) : Int) = a by omega, show ((w.toNat : Nat) : Int) = w by omega] at e2
        have hlen : ((some (layB l a.toNat (bytesI w.toNat v))).getD []).length = l.length := by
          simp only [Option.getD_some]; rw [layB_length (by simp; omega)]
        rw [hlen]
        exact ⟨g.length + 2, g', by simp only [esc, c1, hvm.len, ← hnv, there_eq (show (l.length : Int) < 9223372036854775808 by omega), c2, afill, e1]; exact e2, by omega, hr⟩
  obtain ⟨id, g', e, hb, hr⟩ := key _ hv.ro
  have hb' : h.length ≤ id := by simpa [ro_length] using hb
  have := S_num_Put_tidy e (v2 := .t [.c (.sl h.length 0 ((putN l a w v).getD []).length 1), .c (.b (putN l a w v).isSome)]) (ids := [id]) (by
    have e2 : canonC g' h.length [id] [.b (putN l a w v).isSome] = some ([.b (putN l a w v).isSome], [id]) := canonC_flat (by simp)
    simp [canonV, canonP, canonC, hb', show ¬ id < h.length by omega, newRow_of hr (by simp : flats (encB ((putN l a w v).getD [])) = true)])
  rw [this]
  simp [hr]

end Go.Proofs.Ytdgggnlbdoiloaa
end
section
namespace Go.Proofs.Ytdgggnlbdoiloaa
open Go Go.Esc

def padB (n : Nat) (l : List UInt8) : List UInt8 := l ++ zeros (n - l.length)
theorem padB_length {n : Nat} {l : List UInt8} (h : l.length ≤ n) : (padB n l).length = n := by
  unfold padB; rw [List.length_append, zeros_length]; omega
theorem padB_nil {n : Nat} : padB n [] = zeros n := by simp [padB]

theorem padB_lay {l xs : List UInt8} {a : Nat} (h1 : l.length ≤ a) (h2 : a + xs.length ≤ 256) : layB (padB 256 l) a xs = padB 256 (l ++ zeros (a - l.length) ++ xs) := by
  unfold layB padB
  have e1 : (l ++ zeros (256 - l.length)).take a = l ++ zeros (a - l.length) := by
    rw [List.take_append, List.take_of_length_le h1]
    unfold zeros
    rw [List.take_replicate, Nat.min_eq_left (by omega)]
  have e2 : (l ++ zeros (256 - l.length)).drop (a + xs.length) = zeros (256 - (l ++ zeros (a - l.length) ++ xs).length) := by
    rw [List.drop_append, List.drop_of_length_le (by omega), List.nil_append]
    unfold zeros
    rw [List.drop_replicate]
    congr 1
    simp
    omega
  rw [e1, e2]
  simp only [List.append_assoc]

theorem withB_pad {l : List UInt8} {a w : Nat} {v : Int} (h1 : l.length ≤ a) (h2 : a + w ≤ 256) (hw : 1 ≤ w) (hw4 : w ≤ 4) : withB (padB 256 l) a w v = padB 256 (l ++ zeros (a - l.length) ++ bytesI w v) := by
  unfold withB
  rw [if_pos ⟨by omega, thereI_true.2 (by omega)⟩]
  simp only [Int.toNat_natCast]
  exact padB_lay h1 (by simp; exact h2)

def fieldN (b : List UInt8) (a w : Nat) : Int := ((le ((b.drop a).take w) : Nat) : Int)
theorem of_pad {b : List UInt8} (hb : b.length ≤ 256) : layI (zeros 256) 0 b = padB 256 b := by
  unfold layI layB padB
  rw [if_pos (by omega)]
  simp only [Int.toNat_zero, List.take_zero, List.nil_append, Nat.sub_zero, Nat.zero_add]
  rw [List.take_of_length_le hb]
  unfold zeros
  rw [List.drop_replicate]

theorem at_pad {b : List UInt8} {a w : Nat} (h1 : a + w ≤ b.length) (h2 : b.length ≤ 256) (hw : 1 ≤ w) (hw4 : w ≤ 4) : ((atN (padB 256 b) a w : Nat) : Int) = fieldN b a w := by
  unfold atN fieldN padB
  rw [if_pos ⟨by omega, thereI_true.2 (by omega)⟩]
  simp only [Int.toNat_natCast]
  rw [List.drop_append_of_le_length (by omega), List.take_append_of_le_length (by simp; omega)]


end Go.Proofs.Ytdgggnlbdoiloaa
end
noncomputable section
namespace Go.Proofs.Ytdgggnlbdoiloaa
open Go Go.Esc
set_option maxRecDepth 100000
def mix_More_o0 : List AOper := [aO 4 (.mv (.v (.c (.i .u32 0))))]
def mix_More_c0 : ACode := .ops mix_More_o0
def mix_More_o1 : List AOper := [aO 6 (.mv (.t 1)), aO 7 (.lenS (.t 6)), aO 8 (.mv (.v (.c (.i .i64 0))))]
def mix_More_c1 : ACode := .ops mix_More_o1
def mix_More_o2 : List AOper := [aO 9 (.bin .lss (.t 8) (.t 7))]
def mix_More_c2 : ACode := .ops mix_More_o2
def mix_More_c3 : ACode := .cond (.t 9) .skip (.exit 0)
def mix_More_o3 : List AOper := [aO 10 (.mv (.t 8)), aO 5 (.mv (.t 10))]
def mix_More_c4 : ACode := .ops mix_More_o3
def mix_More_o4 : List AOper := [aO 11 (.mv (.t 0)), aO 12 (.mv (.t 1)), aO 13 (.mv (.t 5)), aO 14 (.idxS (.t 12) (.t 13)), aO 15 (.conv .u32 (.t 14)), aO 16 (.bin .xor (.t 11) (.t 15)), aO 17 (.bin .mul (.t 16) (.v (.c (.i .u32 16777619)))), aO 0 (.mv (.t 17))]
def mix_More_c5 : ACode := .ops mix_More_o4
def mix_More_c6 : ACode := .seq [0, 1, 5, 7, 8] mix_More_c4 mix_More_c5
def mix_More_c7 : ACode := .block 1 mix_More_c6
def mix_More_o5 : List AOper := [aO 18 (.bin .add (.t 8) (.v (.c (.i .i64 1)))), aO 8 (.mv (.t 18))]
def mix_More_c8 : ACode := .ops mix_More_o5
def mix_More_c9 : ACode := .seq [0, 1, 7, 8] mix_More_c7 mix_More_c8
def mix_More_c10 : ACode := .seq [0, 1, 7, 8] mix_More_c3 mix_More_c9
def mix_More_c11 : ACode := .seq [0, 1, 7, 8, 9] mix_More_c2 mix_More_c10
def mix_More_c12 : ACode := .loop [0, 1, 7, 8] mix_More_c11
def mix_More_c13 : ACode := .block 0 mix_More_c12
def mix_More_c14 : ACode := .seq [0, 1, 7, 8] mix_More_c1 mix_More_c13
def mix_More_o6 : List AOper := [aO 19 (.mv (.t 0)), aO 4 (.mv (.t 19))]
def mix_More_c15 : ACode := .ops mix_More_o6
def mix_More_c16 : ACode := .seq [4] mix_More_c15 .ret
def mix_More_c17 : ACode := .seq [0] mix_More_c14 mix_More_c16
def mix_More_c18 : ACode := .seq [0, 1] mix_More_c0 mix_More_c17
def A_mix_More : AFn := ⟨mix_More_c18, [.tmp 4]⟩
def E_mix_More : Sums := disp0
def mix_More_c0_d (n : Nat) : SmV := smOps E_mix_More mix_More_o0
def mix_More_c1_d (n : Nat) : SmV := smOps E_mix_More mix_More_o1
def mix_More_c2_d (n : Nat) : SmV := smOps E_mix_More mix_More_o2
def mix_More_c3_d (n : Nat) : SmV := smCond (.t 9) smSkip (smExit 0)
def mix_More_c4_d (n : Nat) : SmV := smOps E_mix_More mix_More_o3
def mix_More_c5_d (n : Nat) : SmV := smOps E_mix_More mix_More_o4
def mix_More_c6_d (n : Nat) : SmV := smSeq [0, 1, 5, 7, 8] (mix_More_c4_d n) (mix_More_c5_d n)
def mix_More_c7_d (n : Nat) : SmV := smBlock 1 (mix_More_c6_d n)
def mix_More_c8_d (n : Nat) : SmV := smOps E_mix_More mix_More_o5
def mix_More_c9_d (n : Nat) : SmV := smSeq [0, 1, 7, 8] (mix_More_c7_d n) (mix_More_c8_d n)
def mix_More_c10_d (n : Nat) : SmV := smSeq [0, 1, 7, 8] (mix_More_c3_d n) (mix_More_c9_d n)
def mix_More_c11_d (n : Nat) : SmV := smSeq [0, 1, 7, 8, 9] (mix_More_c2_d n) (mix_More_c10_d n)
def mix_More_c12_d (n : Nat) : SmV := smLoop n [0, 1, 7, 8] (mix_More_c11_d n)
def mix_More_c13_d (n : Nat) : SmV := smBlock 0 (mix_More_c12_d n)
def mix_More_c14_d (n : Nat) : SmV := smSeq [0, 1, 7, 8] (mix_More_c1_d n) (mix_More_c13_d n)
def mix_More_c15_d (n : Nat) : SmV := smOps E_mix_More mix_More_o6
def mix_More_c16_d (n : Nat) : SmV := smSeq [4] (mix_More_c15_d n) smRet
def mix_More_c17_d (n : Nat) : SmV := smSeq [0] (mix_More_c14_d n) (mix_More_c16_d n)
def mix_More_c18_d (n : Nat) : SmV := smSeq [0, 1] (mix_More_c0_d n) (mix_More_c17_d n)
def mix_More_k0 (n : Nat) : AExit → Env → Heap → OptV := fun x e h => match x with | .normal => hold ((mix_More_c16_d n) A_mix_More.fin (e.keep [0]) h) | .exit id => A_mix_More.fin (.exit id) e h | .ret => A_mix_More.fin .ret e h
def mix_More_k1 (n : Nat) : AExit → Env → Heap → OptV := fun x e h => match x with | .exit i => bif Nat.beq i 0 then (mix_More_k0 n) .normal e h else (mix_More_k0 n) (.exit i) e h | .normal => (mix_More_k0 n) .normal e h | .ret => (mix_More_k0 n) .ret e h
def mix_More_l0 (n m : Nat) (x0 x1 x7 x8 : Val) (h : Heap) : OptV := around (mix_More_c11_d n) [0, 1, 7, 8] (mix_More_k1 n) m [(0, x0), (1, x1), (7, x7), (8, x8)] h
def R_mix_More (n : Nat) (args : List Val) (h : Heap) : OptV := (mix_More_c18_d n) A_mix_More.fin (params 0 args) h
theorem R_mix_More_eq (n : Nat) (a0 a1 : Val) (h : Heap) : R_mix_More n [a0, a1] h = bnd (alenS a1) fun v1 => mix_More_l0 n n a0 a1 v1 (.c (.i .i64 0)) h := by kernel_rfl
theorem mix_More_l0_eq (n m : Nat) (x0 x1 x7 x8 : Val) (h : Heap) : mix_More_l0 n (m + 1) x0 x1 x7 x8 h = bnd (abin .lss x8 x7) fun v2 => cnd v2 (bnd (aidxS x1 x8) fun v3 => bnd (aconv .u32 v3) fun v4 => bnd (abin .xor x0 v4) fun v5 => bnd (abin .mul v5 (.c (.i .u32 16777619))) fun v6 => bnd (abin .add x8 (.c (.i .i64 1))) fun v7 => mix_More_l0 n m v6 x1 x7 v7 h) (some (x0, h)) := by kernel_rfl
theorem K_mix_More : FnK Try.prog 132 A_mix_More E_mix_More R_mix_More := .mk' (sound0) Try.func132 (by kernel_rfl) (by intro n args h; kernel_rfl)
def S_mix_More : Fun := tidy (Lim A_mix_More E_mix_More)
theorem S_mix_More_ok : SOk Try.prog 132 S_mix_More := K_mix_More.sok
theorem S_mix_More_flat {n : Nat} {args : List Val} {h h2 : Heap} {v : Val} (he : R_mix_More n args (ro h) = some (v, h2)) (hf : v.flat = true) : S_mix_More args h = some (v, h) := K_mix_More.flat he hf
def mix_Of_o0 : List AOper := [aO 2 (.mv (.v (.c (.i .u32 0))))]
def mix_Of_c0 : ACode := .ops mix_Of_o0
def mix_Of_o1 : List AOper := [aO 3 (.mv (.t 0)), aO 4 (.call 132 [(.v (.c (.i .u32 2166136261))), (.t 3)]), aO 2 (.mv (.t 4))]
def mix_Of_c1 : ACode := .ops mix_Of_o1
def mix_Of_c2 : ACode := .seq [2] mix_Of_c1 .ret
def mix_Of_c3 : ACode := .seq [0] mix_Of_c0 mix_Of_c2
def A_mix_Of : AFn := ⟨mix_Of_c3, [.tmp 2]⟩
def E_mix_Of : Sums := disp 132 S_mix_More disp0
def mix_Of_c0_d (n : Nat) : SmV := smOps E_mix_Of mix_Of_o0
def mix_Of_c1_d (n : Nat) : SmV := smOps E_mix_Of mix_Of_o1
def mix_Of_c2_d (n : Nat) : SmV := smSeq [2] (mix_Of_c1_d n) smRet
def mix_Of_c3_d (n : Nat) : SmV := smSeq [0] (mix_Of_c0_d n) (mix_Of_c2_d n)
def R_mix_Of (n : Nat) (args : List Val) (h : Heap) : OptV := (mix_Of_c3_d n) A_mix_Of.fin (params 0 args) h
theorem R_mix_Of_eq (n : Nat) (a0 : Val) (h : Heap) : R_mix_Of n [a0] h = bnd (S_mix_More [.c (.i .u32 2166136261), a0] h) fun p1 => some (p1.1, p1.2) := by kernel_rfl
theorem K_mix_Of : FnK Try.prog 99 A_mix_Of E_mix_Of R_mix_Of := .mk' (sound1 S_mix_More_ok sound0) Try.func99 (by kernel_rfl) (by intro n args h; kernel_rfl)
def S_mix_Of : Fun := tidy (Lim A_mix_Of E_mix_Of)
theorem S_mix_Of_ok : SOk Try.prog 99 S_mix_Of := K_mix_Of.sok
theorem S_mix_Of_flat {n : Nat} {args : List Val} {h h2 : Heap} {v : Val} (he : R_mix_Of n args (ro h) = some (v, h2)) (hf : v.flat = true) : S_mix_Of args h = some (v, h) := K_mix_Of.flat he hf
end Go.Proofs.Ytdgggnlbdoiloaa
end
section
namespace Go.Proofs.Ytdgggnlbdoiloaa
open Go Go.Esc

def mixS (h : Nat) (c : UInt8) : Nat := ((h ^^^ c.toNat) * 16777619) % 4294967296
def mixFrom (h : Nat) (s : List UInt8) : Nat := s.foldl mixS h
def mixH (s : List UInt8) : Nat := mixFrom 2166136261 s

theorem mixS_lt {h : Nat} {c : UInt8} : mixS h c < 4294967296 := Nat.mod_lt _ (by omega)
theorem mixFrom_lt {s : List UInt8} : ∀ {h : Nat}, h < 4294967296 → mixFrom h s < 4294967296 := by
  induction s with
  | nil => intro h hh; exact hh
  | cons c s ih => intro h _; exact ih mixS_lt
theorem mixH_lt {s : List UInt8} : mixH s < 4294967296 := mixFrom_lt (by omega)

theorem wrap_u32_mod {a : Int} : IntKind.wrap .u32 a = a % 4294967296 := by
  simp only [IntKind.wrap, IntKind.bits, IntKind.signed, Bool.false_and]
  rfl

theorem mix_More_loop {s : List UInt8} (hs : s.length < 9223372036854775807) {q : Nat} {h : Heap} : ∀ (d i m H : Nat), i + d = s.length → d < m → H < 4294967296 →
    mix_More_l0 q m (.c (.i .u32 H)) (.c (.s s)) (.c (.i .i64 s.length)) (.c (.i .i64 i)) h = some (.c (.i .u32 ((mixFrom H (s.drop i) : Nat) : Int)), h)
  | d, i, 0, H, _, hm, _ => by omega
  | 0, i, m + 1, H, hi, hm, hH => by
    have c0 : ¬ (i : Int) < s.length := by omega
    rw [mix_More_l0_eq, List.drop_of_length_le (by omega)]
    simp only [esc, c0, mixFrom, List.foldl_nil]
  | d + 1, i, m + 1, H, hi, hm, hH => by
    have h2 : i < s.length := by omega
    have hb := s[i].toNat_lt
    have ih := mix_More_loop hs (q := q) (h := h) d (i + 1) m (mixS H s[i]) (by omega) (by omega) mixS_lt
    have c0 : (i : Int) < s.length := by omega
    have e1 : IntKind.wrap .u32 (s[i].toNat : Int) = s[i].toNat := wrap_u32 (by omega) (by omega)
    have e2 := xor_u32 (a := H) (b := s[i].toNat) hH (by omega)
    have e3 : IntKind.wrap .u32 (((H ^^^ s[i].toNat : Nat) : Int) * 16777619) = ((mixS H s[i] : Nat) : Int) := by
      rw [wrap_u32_mod]; unfold mixS; omega
    rw [mix_More_l0_eq, List.drop_eq_getElem_cons h2]
    simp only [esc, c0, idxS_of h2, e1, e2, e3, wi_succ (show i + 1 < 9223372036854775808 by omega)]
    exact ih

theorem mix_Of_eq {s : List UInt8} (hs : s.length < 9223372036854775807) {h : Heap} : S_mix_Of [.c (.s s)] h = some (.c (.i .u32 ((mixH s : Nat) : Int)), h) := by
  have hm : ∀ h, S_mix_More [.c (.i .u32 2166136261), .c (.s s)] h = some (.c (.i .u32 ((mixH s : Nat) : Int)), h) := fun h => by
    refine S_mix_More_flat (n := s.length + 1) (h2 := ro h) ?_ rfl
    rw [R_mix_More_eq]
    have := mix_More_loop hs (q := s.length + 1) (h := ro h) s.length 0 (s.length + 1) 2166136261 (by omega) (by omega) (by omega)
    simp only [esc]
    exact this
  refine S_mix_Of_flat (n := 0) (h2 := ro h) ?_ rfl
  rw [R_mix_Of_eq]
  simp only [esc, hm]

end Go.Proofs.Ytdgggnlbdoiloaa
end
noncomputable section
namespace Go.Proofs.Ytdgggnlbdoiloaa
open Go Go.Esc
set_option maxRecDepth 100000
def super_Check_o0 : List AOper := [aO 1 (.box (.t 0)), aO 2 (.mv (.v (.c (.i .i64 0))))]
def super_Check_c0 : ACode := .ops super_Check_o0
def super_Check_o1 : List AOper := [aO 4 (.fAddr (.t 1) 0), aO 5 (.load1 (.t 4)), aO 6 (.bin .lss (.t 5) (.v (.c (.i .i64 16)))), aO 3 (.mv (.t 6))]
def super_Check_c1 : ACode := .ops super_Check_o1
def super_Check_o2 : List AOper := [aO 7 (.fAddr (.t 1) 0), aO 8 (.load1 (.t 7)), aO 9 (.bin .gtr (.t 8) (.v (.c (.i .i64 512)))), aO 3 (.mv (.t 9))]
def super_Check_c2 : ACode := .ops super_Check_o2
def super_Check_c3 : ACode := .cond (.t 3) .skip super_Check_c2
def super_Check_c4 : ACode := .seq [1, 3] super_Check_c1 super_Check_c3
def super_Check_o3 : List AOper := [aO 2 (.mv (.v (.c (.i .i64 1))))]
def super_Check_c5 : ACode := .ops super_Check_o3
def super_Check_c6 : ACode := .seq [2] super_Check_c5 .ret
def super_Check_o4 : List AOper := [aO 11 (.fAddr (.t 1) 1), aO 12 (.load1 (.t 11)), aO 13 (.bin .lss (.t 12) (.v (.c (.i .i64 8)))), aO 10 (.mv (.t 13))]
def super_Check_c7 : ACode := .ops super_Check_o4
def super_Check_o5 : List AOper := [aO 14 (.fAddr (.t 1) 1), aO 15 (.load1 (.t 14)), aO 16 (.bin .gtr (.t 15) (.v (.c (.i .i64 128)))), aO 10 (.mv (.t 16))]
def super_Check_c8 : ACode := .ops super_Check_o5
def super_Check_o6 : List AOper := [aO 17 (.fAddr (.t 1) 1), aO 18 (.load1 (.t 17)), aO 19 (.bin .rem (.t 18) (.v (.c (.i .i64 8)))), aO 20 (.bin .neq (.t 19) (.v (.c (.i .i64 0)))), aO 10 (.mv (.t 20))]
def super_Check_c9 : ACode := .ops super_Check_o6
def super_Check_c10 : ACode := .cond (.t 10) .skip super_Check_c9
def super_Check_c11 : ACode := .seq [1, 10] super_Check_c8 super_Check_c10
def super_Check_c12 : ACode := .cond (.t 10) .skip super_Check_c11
def super_Check_c13 : ACode := .seq [1, 10] super_Check_c7 super_Check_c12
def super_Check_o7 : List AOper := [aO 2 (.mv (.v (.c (.i .i64 1))))]
def super_Check_c14 : ACode := .ops super_Check_o7
def super_Check_c15 : ACode := .seq [2] super_Check_c14 .ret
def super_Check_o8 : List AOper := [aO 22 (.fAddr (.t 1) 1), aO 23 (.load1 (.t 22)), aO 24 (.bin .quo (.t 23) (.v (.c (.i .i64 8)))), aO 25 (.bin .add (.v (.c (.i .i64 2))) (.t 24)), aO 26 (.fAddr (.t 1) 0), aO 27 (.load1 (.t 26)), aO 28 (.bin .geq (.t 25) (.t 27)), aO 21 (.mv (.t 28))]
def super_Check_c16 : ACode := .ops super_Check_o8
def super_Check_o9 : List AOper := [aO 2 (.mv (.v (.c (.i .i64 1))))]
def super_Check_c17 : ACode := .ops super_Check_o9
def super_Check_c18 : ACode := .seq [2] super_Check_c17 .ret
def super_Check_c19 : ACode := .cond (.t 21) super_Check_c18 .skip
def super_Check_c20 : ACode := .seq [21] super_Check_c16 super_Check_c19
def super_Check_c21 : ACode := .cond (.t 10) super_Check_c15 super_Check_c20
def super_Check_c22 : ACode := .seq [1, 10] super_Check_c13 super_Check_c21
def super_Check_c23 : ACode := .cond (.t 3) super_Check_c6 super_Check_c22
def super_Check_c24 : ACode := .seq [1, 3] super_Check_c4 super_Check_c23
def super_Check_c25 : ACode := .block 0 super_Check_c24
def super_Check_o10 : List AOper := [aO 2 (.mv (.v (.c (.i .i64 0))))]
def super_Check_c26 : ACode := .ops super_Check_o10
def super_Check_c27 : ACode := .seq [2] super_Check_c26 .ret
def super_Check_c28 : ACode := .seq [] super_Check_c25 super_Check_c27
def super_Check_c29 : ACode := .seq [1] super_Check_c0 super_Check_c28
def A_super_Check : AFn := ⟨super_Check_c29, [.tmp 2]⟩
def E_super_Check : Sums := disp0
def super_Check_c0_d (n : Nat) : SmV := smOps E_super_Check super_Check_o0
def super_Check_c1_d (n : Nat) : SmV := smOps E_super_Check super_Check_o1
def super_Check_c2_d (n : Nat) : SmV := smOps E_super_Check super_Check_o2
def super_Check_c3_d (n : Nat) : SmV := smCond (.t 3) smSkip (super_Check_c2_d n)
def super_Check_c4_d (n : Nat) : SmV := smSeq [1, 3] (super_Check_c1_d n) (super_Check_c3_d n)
def super_Check_c5_d (n : Nat) : SmV := smOps E_super_Check super_Check_o3
def super_Check_c6_d (n : Nat) : SmV := smSeq [2] (super_Check_c5_d n) smRet
def super_Check_c7_d (n : Nat) : SmV := smOps E_super_Check super_Check_o4
def super_Check_c8_d (n : Nat) : SmV := smOps E_super_Check super_Check_o5
def super_Check_c9_d (n : Nat) : SmV := smOps E_super_Check super_Check_o6
def super_Check_c10_d (n : Nat) : SmV := smCond (.t 10) smSkip (super_Check_c9_d n)
def super_Check_c11_d (n : Nat) : SmV := smSeq [1, 10] (super_Check_c8_d n) (super_Check_c10_d n)
def super_Check_c12_d (n : Nat) : SmV := smCond (.t 10) smSkip (super_Check_c11_d n)
def super_Check_c13_d (n : Nat) : SmV := smSeq [1, 10] (super_Check_c7_d n) (super_Check_c12_d n)
def super_Check_c14_d (n : Nat) : SmV := smOps E_super_Check super_Check_o7
def super_Check_c15_d (n : Nat) : SmV := smSeq [2] (super_Check_c14_d n) smRet
def super_Check_c16_d (n : Nat) : SmV := smOps E_super_Check super_Check_o8
def super_Check_c17_d (n : Nat) : SmV := smOps E_super_Check super_Check_o9
def super_Check_c18_d (n : Nat) : SmV := smSeq [2] (super_Check_c17_d n) smRet
def super_Check_c19_d (n : Nat) : SmV := smCond (.t 21) (super_Check_c18_d n) smSkip
def super_Check_c20_d (n : Nat) : SmV := smSeq [21] (super_Check_c16_d n) (super_Check_c19_d n)
def super_Check_c21_d (n : Nat) : SmV := smCond (.t 10) (super_Check_c15_d n) (super_Check_c20_d n)
def super_Check_c22_d (n : Nat) : SmV := smSeq [1, 10] (super_Check_c13_d n) (super_Check_c21_d n)
def super_Check_c23_d (n : Nat) : SmV := smCond (.t 3) (super_Check_c6_d n) (super_Check_c22_d n)
def super_Check_c24_d (n : Nat) : SmV := smSeq [1, 3] (super_Check_c4_d n) (super_Check_c23_d n)
def super_Check_c25_d (n : Nat) : SmV := smBlock 0 (super_Check_c24_d n)
def super_Check_c26_d (n : Nat) : SmV := smOps E_super_Check super_Check_o10
def super_Check_c27_d (n : Nat) : SmV := smSeq [2] (super_Check_c26_d n) smRet
def super_Check_c28_d (n : Nat) : SmV := smSeq [] (super_Check_c25_d n) (super_Check_c27_d n)
def super_Check_c29_d (n : Nat) : SmV := smSeq [1] (super_Check_c0_d n) (super_Check_c28_d n)
def super_Check_k0 (n : Nat) : AExit → Env → Heap → OptV := fun x e h => match x with | .normal => hold ((super_Check_c27_d n) A_super_Check.fin (e.keep []) h) | .exit id => A_super_Check.fin (.exit id) e h | .ret => A_super_Check.fin .ret e h
def super_Check_k1 (n : Nat) : AExit → Env → Heap → OptV := fun x e h => match x with | .exit i => bif Nat.beq i 0 then (super_Check_k0 n) .normal e h else (super_Check_k0 n) (.exit i) e h | .normal => (super_Check_k0 n) .normal e h | .ret => (super_Check_k0 n) .ret e h
def super_Check_j0 (n : Nat) (x1 x3 : Val) (h : Heap) : OptV := hold ((super_Check_c23_d n) (super_Check_k1 n) [(1, x1), (3, x3)] h)
def R_super_Check (n : Nat) (args : List Val) (h : Heap) : OptV := (super_Check_c29_d n) A_super_Check.fin (params 0 args) h
def super_Check_j1 (n : Nat) (x1 x10 : Val) (h : Heap) : OptV := hold ((super_Check_c21_d n) (super_Check_k1 n) [(1, x1), (10, x10)] h)
theorem R_super_Check_eq (n : Nat) (a0 : Val) (h : Heap) : R_super_Check n [a0] h = bnd (cells? a0) fun c1 => bnd (afAddr ((.c (.p h.length 0))) 0) fun v2 => bnd (aload1 ((h ++ [some (Row.mk (c1) true)])) v2) fun v3 => bnd (abin .lss v3 (.c (.i .i64 16))) fun v4 => cnd v4 (super_Check_j0 n ((.c (.p h.length 0))) v4 ((h ++ [some (Row.mk (c1) true)]))) (bnd (afAddr ((.c (.p h.length 0))) 0) fun v5 => bnd (aload1 ((h ++ [some (Row.mk (c1) true)])) v5) fun v6 => bnd (abin .gtr v6 (.c (.i .i64 512))) fun v7 => super_Check_j0 n ((.c (.p h.length 0))) v7 ((h ++ [some (Row.mk (c1) true)]))) := by kernel_rfl
theorem super_Check_j0_eq (n : Nat) (x1 x3 : Val) (h : Heap) : super_Check_j0 n x1 x3 h = cnd x3 (some ((.c (.i .i64 1)), h)) (bnd (afAddr x1 1) fun v8 => bnd (aload1 h v8) fun v9 => bnd (abin .lss v9 (.c (.i .i64 8))) fun v10 => cnd v10 (super_Check_j1 n x1 v10 h) (bnd (afAddr x1 1) fun v11 => bnd (aload1 h v11) fun v12 => bnd (abin .gtr v12 (.c (.i .i64 128))) fun v13 => cnd v13 (super_Check_j1 n x1 v13 h) (bnd (afAddr x1 1) fun v14 => bnd (aload1 h v14) fun v15 => bnd (abin .rem v15 (.c (.i .i64 8))) fun v16 => bnd (abin .neq v16 (.c (.i .i64 0))) fun v17 => super_Check_j1 n x1 v17 h))) := by kernel_rfl
theorem super_Check_j1_eq (n : Nat) (x1 x10 : Val) (h : Heap) : super_Check_j1 n x1 x10 h = cnd x10 (some ((.c (.i .i64 1)), h)) (bnd (afAddr x1 1) fun v18 => bnd (aload1 h v18) fun v19 => bnd (abin .quo v19 (.c (.i .i64 8))) fun v20 => bnd (abin .add (.c (.i .i64 2)) v20) fun v21 => bnd (afAddr x1 0) fun v22 => bnd (aload1 h v22) fun v23 => bnd (abin .geq v21 v23) fun v24 => cnd v24 (some ((.c (.i .i64 1)), h)) (some ((.c (.i .i64 0)), h))) := by kernel_rfl
theorem K_super_Check : FnK Try.prog 70 A_super_Check E_super_Check R_super_Check := .mk' (sound0) Try.func70 (by kernel_rfl) (by intro n args h; kernel_rfl)
def S_super_Check : Fun := tidy (Lim A_super_Check E_super_Check)
theorem S_super_Check_ok : SOk Try.prog 70 S_super_Check := K_super_Check.sok
theorem S_super_Check_flat {n : Nat} {args : List Val} {h h2 : Heap} {v : Val} (he : R_super_Check n args (ro h) = some (v, h2)) (hf : v.flat = true) : S_super_Check args h = some (v, h) := K_super_Check.flat he hf
def super_Put_o0 : List AOper := [aO 1 (.box (.t 0)), aO 2 (.alloc (List.replicate 256 (.i .u8 0))), aO 3 (.mv (.v (.c (.i .i64 0))))]
def super_Put_c0 : ACode := .ops super_Put_o0
def super_Put_o1 : List AOper := [aO 9 (.loadN 3 (.t 1)), aO 10 (.call 70 [(.t 9)]), aO 4 (.mv (.t 10))]
def super_Put_c1 : ACode := .ops super_Put_o1
def super_Put_o2 : List AOper := [aO 11 (.mv (.t 4)), aO 12 (.bin .neq (.t 11) (.v (.c (.i .i64 0))))]
def super_Put_c2 : ACode := .ops super_Put_o2
def super_Put_o3 : List AOper := [aO 13 (.build (List.replicate 256 (.i .u8 0)) []), aO 14 (.mv (.t 4)), { dst := none, op := .storeN 256 (.t 2) (.t 13) }, aO 3 (.mv (.t 14))]
def super_Put_c3 : ACode := .ops super_Put_o3
def super_Put_c4 : ACode := .seq [2, 3] super_Put_c3 .ret
def super_Put_c5 : ACode := .cond (.t 12) super_Put_c4 .skip
def super_Put_c6 : ACode := .seq [1, 2, 4, 12] super_Put_c2 super_Put_c5
def super_Put_c7 : ACode := .seq [1, 2, 4] super_Put_c1 super_Put_c6
def super_Put_o4 : List AOper := [aO 15 (.buildSl 1 8 ([.i .u8 0, .i .u8 0, .i .u8 0, .i .u8 0, .i .u8 0, .i .u8 0, .i .u8 0, .i .u8 0]) [(0, 1, (.v (.c (.i .u8 101)))), (1, 1, (.v (.c (.i .u8 115)))), (2, 1, (.v (.c (.i .u8 99)))), (3, 1, (.v (.c (.i .u8 104)))), (4, 1, (.v (.c (.i .u8 101)))), (5, 1, (.v (.c (.i .u8 97)))), (6, 1, (.v (.c (.i .u8 116)))), (7, 1, (.v (.c (.i .u8 49))))]), aO 16 (.mark (.t 15)), aO 17 (.call 95 [(.t 16)]), aO 5 (.alloc (List.replicate 256 (.i .u8 0))), { dst := none, op := .storeN 256 (.t 5) (.t 17) }]
def super_Put_c8 : ACode := .ops super_Put_o4
def super_Put_o5 : List AOper := [aO 18 (.loadN 256 (.t 5)), aO 19 (.fAddr (.t 1) 0), aO 20 (.load1 (.t 19)), aO 21 (.call 96 [(.t 18), (.v (.c (.i .i64 8))), (.v (.c (.i .i64 2))), (.t 20)]), { dst := none, op := .storeN 256 (.t 5) (.t 21) }]
def super_Put_c9 : ACode := .ops super_Put_o5
def super_Put_o6 : List AOper := [aO 22 (.loadN 256 (.t 5)), aO 23 (.fAddr (.t 1) 1), aO 24 (.load1 (.t 23)), aO 25 (.call 96 [(.t 22), (.v (.c (.i .i64 10))), (.v (.c (.i .i64 2))), (.t 24)]), { dst := none, op := .storeN 256 (.t 5) (.t 25) }]
def super_Put_c10 : ACode := .ops super_Put_o6
def super_Put_o7 : List AOper := [{ dst := some 27, op := .mkSl 1 ([.i .u8 0]) (.v (.c (.i .i64 8))) (.v (.c (.i .i64 8))), slot := some 0 }, aO 28 (.fAddr (.t 1) 2), aO 29 (.load1 (.t 28)), aO 30 (.call 97 [(.t 27), (.v (.c (.i .i64 0))), (.v (.c (.i .i64 8))), (.t 29)]), aO 26 (.mv (.t 30)), aO 31 (.ext (.t 26) 0), aO 32 (.ext (.t 26) 1), aO 6 (.mv (.t 31))]
def super_Put_o8 : List AOper := [aO 7 (.mv (.t 32))]
def super_Put_c11 : ACode := .draw 1 super_Put_o7 super_Put_o8
def super_Put_o9 : List AOper := [aO 33 (.loadN 256 (.t 5)), aO 34 (.mv (.t 6)), aO 35 (.call 98 [(.t 33), (.v (.c (.i .i64 12))), (.t 34)]), { dst := none, op := .storeN 256 (.t 5) (.t 35) }]
def super_Put_c12 : ACode := .ops super_Put_o9
def super_Put_o10 : List AOper := [aO 36 (.loadN 256 (.t 5)), aO 37 (.call 57 [(.t 36), (.v (.c (.i .i64 0))), (.v (.c (.i .i64 20)))]), aO 38 (.b2s (.t 37)), aO 39 (.call 99 [(.t 38)]), aO 8 (.mv (.t 39))]
def super_Put_c13 : ACode := .ops super_Put_o10
def super_Put_o11 : List AOper := [aO 40 (.loadN 256 (.t 5)), aO 41 (.mv (.t 8)), aO 42 (.conv .i64 (.t 41)), aO 43 (.call 96 [(.t 40), (.v (.c (.i .i64 20))), (.v (.c (.i .i64 4))), (.t 42)]), { dst := none, op := .storeN 256 (.t 2) (.t 43) }, aO 3 (.mv (.v (.c (.i .i64 0))))]
def super_Put_c14 : ACode := .ops super_Put_o11
def super_Put_c15 : ACode := .seq [2, 3] super_Put_c14 .ret
def super_Put_c16 : ACode := .seq [2, 5, 8] super_Put_c13 super_Put_c15
def super_Put_c17 : ACode := .seq [2, 5] super_Put_c12 super_Put_c16
def super_Put_c18 : ACode := .seq [2, 5, 6] super_Put_c11 super_Put_c17
def super_Put_c19 : ACode := .seq [1, 2, 5] super_Put_c10 super_Put_c18
def super_Put_c20 : ACode := .seq [1, 2, 5] super_Put_c9 super_Put_c19
def super_Put_c21 : ACode := .seq [1, 2, 5] super_Put_c8 super_Put_c20
def super_Put_c22 : ACode := .seq [1, 2] super_Put_c7 super_Put_c21
def super_Put_c23 : ACode := .seq [1, 2] super_Put_c0 super_Put_c22
def A_super_Put : AFn := ⟨super_Put_c23, [.cellN 2 256, .tmp 3]⟩
def E_super_Put : Sums := disp 70 S_super_Check (disp 95 S_num_Of (disp 96 S_num_With (disp 97 S_num_Put (disp 98 S_num_Lay (disp 57 S_num_Cut (disp 99 S_mix_Of disp0))))))
def super_Put_c0_d (n : Nat) : SmV := smOps E_super_Put super_Put_o0
def super_Put_c1_d (n : Nat) : SmV := smOps E_super_Put super_Put_o1
def super_Put_c2_d (n : Nat) : SmV := smOps E_super_Put super_Put_o2
def super_Put_c3_d (n : Nat) : SmV := smOps E_super_Put super_Put_o3
def super_Put_c4_d (n : Nat) : SmV := smSeq [2, 3] (super_Put_c3_d n) smRet
def super_Put_c5_d (n : Nat) : SmV := smCond (.t 12) (super_Put_c4_d n) smSkip
def super_Put_c6_d (n : Nat) : SmV := smSeq [1, 2, 4, 12] (super_Put_c2_d n) (super_Put_c5_d n)
def super_Put_c7_d (n : Nat) : SmV := smSeq [1, 2, 4] (super_Put_c1_d n) (super_Put_c6_d n)
def super_Put_c8_d (n : Nat) : SmV := smOps E_super_Put super_Put_o4
def super_Put_c9_d (n : Nat) : SmV := smOps E_super_Put super_Put_o5
def super_Put_c10_d (n : Nat) : SmV := smOps E_super_Put super_Put_o6
def super_Put_c11_d (n : Nat) : SmV := smDraw E_super_Put 1 super_Put_o7 super_Put_o8
def super_Put_c12_d (n : Nat) : SmV := smOps E_super_Put super_Put_o9
def super_Put_c13_d (n : Nat) : SmV := smOps E_super_Put super_Put_o10
def super_Put_c14_d (n : Nat) : SmV := smOps E_super_Put super_Put_o11
def super_Put_c15_d (n : Nat) : SmV := smSeq [2, 3] (super_Put_c14_d n) smRet
def super_Put_c16_d (n : Nat) : SmV := smSeq [2, 5, 8] (super_Put_c13_d n) (super_Put_c15_d n)
def super_Put_c17_d (n : Nat) : SmV := smSeq [2, 5] (super_Put_c12_d n) (super_Put_c16_d n)
def super_Put_c18_d (n : Nat) : SmV := smSeq [2, 5, 6] (super_Put_c11_d n) (super_Put_c17_d n)
def super_Put_c19_d (n : Nat) : SmV := smSeq [1, 2, 5] (super_Put_c10_d n) (super_Put_c18_d n)
def super_Put_c20_d (n : Nat) : SmV := smSeq [1, 2, 5] (super_Put_c9_d n) (super_Put_c19_d n)
def super_Put_c21_d (n : Nat) : SmV := smSeq [1, 2, 5] (super_Put_c8_d n) (super_Put_c20_d n)
def super_Put_c22_d (n : Nat) : SmV := smSeq [1, 2] (super_Put_c7_d n) (super_Put_c21_d n)
def super_Put_c23_d (n : Nat) : SmV := smSeq [1, 2] (super_Put_c0_d n) (super_Put_c22_d n)
def R_super_Put (n : Nat) (args : List Val) (h : Heap) : OptV := (super_Put_c23_d n) A_super_Put.fin (params 0 args) h
theorem R_super_Put_eq (n : Nat) (a0 : Val) (h : Heap) : R_super_Put n [a0] h = bnd (cells? a0) fun c1 => bnd (aloadN (((h ++ [some (Row.mk (c1) true)]) ++ [some (Row.mk (List.replicate 256 (.i .u8 0)) true)])) 3 ((.c (.p h.length 0)))) fun v2 => bnd (S_super_Check [v2] (((h ++ [some (Row.mk (c1) true)]) ++ [some (Row.mk (List.replicate 256 (.i .u8 0)) true)]))) fun p3 => bnd (abin .neq p3.1 (.c (.i .i64 0))) fun v4 => cnd v4 (bnd (afill (List.replicate 256 (.i .u8 0)) []) fun c5 => bnd (astoreN p3.2 256 ((.c (.p ((h ++ [some (Row.mk (c1) true)])).length 0))) ((.a c5))) fun h6 => tupN [aloadN h6 256 ((.c (.p ((h ++ [some (Row.mk (c1) true)])).length 0))), some p3.1] h6) (bnd (afill ([.i .u8 0, .i .u8 0, .i .u8 0, .i .u8 0, .i .u8 0, .i .u8 0, .i .u8 0, .i .u8 0]) [(0, 1, .c (.i .u8 101)), (1, 1, .c (.i .u8 115)), (2, 1, .c (.i .u8 99)), (3, 1, .c (.i .u8 104)), (4, 1, .c (.i .u8 101)), (5, 1, .c (.i .u8 97)), (6, 1, .c (.i .u8 116)), (7, 1, .c (.i .u8 49))]) fun c7 => bnd (amark ((p3.2 ++ [some (Row.mk (c7) true)])) ((.c (.sl p3.2.length 0 8 1)))) fun v8 => bnd (S_num_Of [v8] ((p3.2 ++ [some (Row.mk (c7) true)]))) fun p9 => bnd (astoreN ((p9.2 ++ [some (Row.mk (List.replicate 256 (.i .u8 0)) true)])) 256 ((.c (.p p9.2.length 0))) p9.1) fun h10 => bnd (aloadN h10 256 ((.c (.p p9.2.length 0)))) fun v11 => bnd (afAddr ((.c (.p h.length 0))) 0) fun v12 => bnd (aload1 h10 v12) fun v13 => bnd (S_num_With [v11, .c (.i .i64 8), .c (.i .i64 2), v13] h10) fun p14 => bnd (astoreN p14.2 256 ((.c (.p p9.2.length 0))) p14.1) fun h15 => bnd (aloadN h15 256 ((.c (.p p9.2.length 0)))) fun v16 => bnd (afAddr ((.c (.p h.length 0))) 1) fun v17 => bnd (aload1 h15 v17) fun v18 => bnd (S_num_With [v16, .c (.i .i64 10), .c (.i .i64 2), v18] h15) fun p19 => bnd (astoreN p19.2 256 ((.c (.p p9.2.length 0))) p19.1) fun h20 => bnd (amkn (.c (.i .i64 8)) (.c (.i .i64 8))) fun n21 => bnd (afAddr ((.c (.p h.length 0))) 2) fun v22 => bnd (aload1 h20 v22) fun v23 => bnd (quiet ((((h20 ++ [none])).set (h20.length + 0) (some (Row.mk (rows ([.i .u8 0]) n21) true)))) (S_num_Put [(.c (.sl (h20.length + 0) 0 n21 1)), .c (.i .i64 0), .c (.i .i64 8), v23] ((((h20 ++ [none])).set (h20.length + 0) (some (Row.mk (rows ([.i .u8 0]) n21) true)))))) fun p24 => bnd (aext p24.1 0) fun v25 => bnd (aext p24.1 1) fun v26 => bnd (aloadN p24.2 256 ((.c (.p p9.2.length 0)))) fun v27 => bnd (S_num_Lay [v27, .c (.i .i64 12), v25] p24.2) fun p28 => bnd (astoreN p28.2 256 ((.c (.p p9.2.length 0))) p28.1) fun h29 => bnd (aloadN h29 256 ((.c (.p p9.2.length 0)))) fun v30 => bnd (S_num_Cut [v30, .c (.i .i64 0), .c (.i .i64 20)] h29) fun p31 => bnd (ab2s p31.2 p31.1) fun v32 => bnd (S_mix_Of [v32] p31.2) fun p33 => bnd (aloadN p33.2 256 ((.c (.p p9.2.length 0)))) fun v34 => bnd (aconv .i64 p33.1) fun v35 => bnd (S_num_With [v34, .c (.i .i64 20), .c (.i .i64 4), v35] p33.2) fun p36 => bnd (astoreN p36.2 256 ((.c (.p ((h ++ [some (Row.mk (c1) true)])).length 0))) p36.1) fun h37 => tupN [aloadN h37 256 ((.c (.p ((h ++ [some (Row.mk (c1) true)])).length 0))), some (.c (.i .i64 0))] h37) := by kernel_rfl
theorem K_super_Put : FnK Try.prog 52 A_super_Put E_super_Put R_super_Put := .mk' (sound1 S_super_Check_ok (sound1 S_num_Of_ok (sound1 S_num_With_ok (sound1 S_num_Put_ok (sound1 S_num_Lay_ok (sound1 S_num_Cut_ok (sound1 S_mix_Of_ok sound0))))))) Try.func52 (by kernel_rfl) (by intro n args h; kernel_rfl)
def S_super_Put : Fun := tidy (Lim A_super_Put E_super_Put)
theorem S_super_Put_ok : SOk Try.prog 52 S_super_Put := K_super_Put.sok
theorem S_super_Put_flat {n : Nat} {args : List Val} {h h2 : Heap} {v : Val} (he : R_super_Put n args (ro h) = some (v, h2)) (hf : v.flat = true) : S_super_Put args h = some (v, h) := K_super_Put.flat he hf
def super_Get_o0 : List AOper := [aO 1 (.box (.t 0)), aO 2 (.alloc ([.i .i64 0, .i .i64 0, .i .u64 0])), aO 3 (.mv (.v (.c (.i .i64 0))))]
def super_Get_c0 : ACode := .ops super_Get_o0
def super_Get_o1 : List AOper := [aO 10 (.loadN 256 (.t 1)), aO 11 (.call 57 [(.t 10), (.v (.c (.i .i64 12))), (.v (.c (.i .i64 8)))]), aO 12 (.call 100 [(.t 11), (.v (.c (.i .i64 0))), (.v (.c (.i .i64 8)))]), aO 9 (.mv (.t 12)), aO 13 (.ext (.t 9) 0), aO 14 (.ext (.t 9) 1), aO 4 (.mv (.t 13)), aO 5 (.mv (.t 14))]
def super_Get_c1 : ACode := .ops super_Get_o1
def super_Get_o2 : List AOper := [aO 15 (.loadN 256 (.t 1)), aO 16 (.call 101 [(.t 15), (.v (.c (.i .i64 8))), (.v (.c (.i .i64 2)))]), aO 17 (.loadN 256 (.t 1)), aO 18 (.call 101 [(.t 17), (.v (.c (.i .i64 10))), (.v (.c (.i .i64 2)))]), aO 19 (.mv (.t 4)), aO 20 (.build ([.i .i64 0, .i .i64 0, .i .u64 0]) [(0, 1, (.t 16)), (1, 1, (.t 18)), (2, 1, (.t 19))]), { dst := some 6, op := .alloc ([.i .i64 0, .i .i64 0, .i .u64 0]), slot := some 0 }]
def super_Get_o3 : List AOper := [{ dst := none, op := .storeN 3 (.t 6) (.t 20) }]
def super_Get_c2 : ACode := .draw 1 super_Get_o2 super_Get_o3
def super_Get_o4 : List AOper := [aO 22 (.loadN 3 (.t 6)), aO 23 (.call 52 [(.t 22)]), aO 21 (.mv (.t 23)), aO 24 (.ext (.t 21) 0), aO 25 (.ext (.t 21) 1), aO 7 (.alloc (List.replicate 256 (.i .u8 0))), { dst := none, op := .storeN 256 (.t 7) (.t 24) }, aO 8 (.mv (.t 25))]
def super_Get_c3 : ACode := .ops super_Get_o4
def super_Get_o5 : List AOper := [aO 26 (.mv (.t 8)), aO 27 (.bin .neq (.t 26) (.v (.c (.i .i64 0)))), aO 28 (.mv (.t 27)), { dst := some 29, op := .loadN 256 (.t 7), guard := some (28, false) }, { dst := some 30, op := .loadN 256 (.t 1), guard := some (28, false) }, { dst := some 31, op := .eqA true (List.replicate 256 (.i .u8)) (.t 29) (.t 30), guard := some (28, false) }, aO 32 (.pick (.t 28) (.v (.c (.b true))) (.t 31))]
def super_Get_c4 : ACode := .ops super_Get_o5
def super_Get_o6 : List AOper := [aO 33 (.build ([.i .i64 0, .i .i64 0, .i .u64 0]) []), { dst := none, op := .storeN 3 (.t 2) (.t 33) }, aO 3 (.mv (.v (.c (.i .i64 13))))]
def super_Get_c5 : ACode := .ops super_Get_o6
def super_Get_c6 : ACode := .seq [2, 3] super_Get_c5 .ret
def super_Get_c7 : ACode := .cond (.t 32) super_Get_c6 .skip
def super_Get_c8 : ACode := .seq [2, 6, 32] super_Get_c4 super_Get_c7
def super_Get_c9 : ACode := .seq [1, 2, 6, 7, 8] super_Get_c3 super_Get_c8
def super_Get_o7 : List AOper := [aO 34 (.loadN 3 (.t 6)), { dst := none, op := .storeN 3 (.t 2) (.t 34) }, aO 3 (.mv (.v (.c (.i .i64 0))))]
def super_Get_c10 : ACode := .ops super_Get_o7
def super_Get_c11 : ACode := .seq [2, 3] super_Get_c10 .ret
def super_Get_c12 : ACode := .seq [2, 6] super_Get_c9 super_Get_c11
def super_Get_c13 : ACode := .seq [1, 2, 6] super_Get_c2 super_Get_c12
def super_Get_c14 : ACode := .seq [1, 2, 4] super_Get_c1 super_Get_c13
def super_Get_c15 : ACode := .seq [1, 2] super_Get_c0 super_Get_c14
def A_super_Get : AFn := ⟨super_Get_c15, [.cellN 2 3, .tmp 3]⟩
def E_super_Get : Sums := disp 57 S_num_Cut (disp 100 S_num_Get (disp 101 S_num_At (disp 52 S_super_Put disp0)))
def super_Get_c0_d (n : Nat) : SmV := smOps E_super_Get super_Get_o0
def super_Get_c1_d (n : Nat) : SmV := smOps E_super_Get super_Get_o1
def super_Get_c2_d (n : Nat) : SmV := smDraw E_super_Get 1 super_Get_o2 super_Get_o3
def super_Get_c3_d (n : Nat) : SmV := smOps E_super_Get super_Get_o4
def super_Get_c4_d (n : Nat) : SmV := smOps E_super_Get super_Get_o5
def super_Get_c5_d (n : Nat) : SmV := smOps E_super_Get super_Get_o6
def super_Get_c6_d (n : Nat) : SmV := smSeq [2, 3] (super_Get_c5_d n) smRet
def super_Get_c7_d (n : Nat) : SmV := smCond (.t 32) (super_Get_c6_d n) smSkip
def super_Get_c8_d (n : Nat) : SmV := smSeq [2, 6, 32] (super_Get_c4_d n) (super_Get_c7_d n)
def super_Get_c9_d (n : Nat) : SmV := smSeq [1, 2, 6, 7, 8] (super_Get_c3_d n) (super_Get_c8_d n)
def super_Get_c10_d (n : Nat) : SmV := smOps E_super_Get super_Get_o7
def super_Get_c11_d (n : Nat) : SmV := smSeq [2, 3] (super_Get_c10_d n) smRet
def super_Get_c12_d (n : Nat) : SmV := smSeq [2, 6] (super_Get_c9_d n) (super_Get_c11_d n)
def super_Get_c13_d (n : Nat) : SmV := smSeq [1, 2, 6] (super_Get_c2_d n) (super_Get_c12_d n)
def super_Get_c14_d (n : Nat) : SmV := smSeq [1, 2, 4] (super_Get_c1_d n) (super_Get_c13_d n)
def super_Get_c15_d (n : Nat) : SmV := smSeq [1, 2] (super_Get_c0_d n) (super_Get_c14_d n)
def R_super_Get (n : Nat) (args : List Val) (h : Heap) : OptV := (super_Get_c15_d n) A_super_Get.fin (params 0 args) h
theorem R_super_Get_eq (n : Nat) (a0 : Val) (h : Heap) : R_super_Get n [a0] h = bnd (cells? a0) fun c1 => bnd (aloadN (((h ++ [some (Row.mk (c1) true)]) ++ [some (Row.mk ([.i .i64 0, .i .i64 0, .i .u64 0]) true)])) 256 ((.c (.p h.length 0)))) fun v2 => bnd (S_num_Cut [v2, .c (.i .i64 12), .c (.i .i64 8)] (((h ++ [some (Row.mk (c1) true)]) ++ [some (Row.mk ([.i .i64 0, .i .i64 0, .i .u64 0]) true)]))) fun p3 => bnd (S_num_Get [p3.1, .c (.i .i64 0), .c (.i .i64 8)] p3.2) fun p4 => bnd (aext p4.1 0) fun v5 => bnd (aext p4.1 1) fun v6 => bnd (aloadN p4.2 256 ((.c (.p h.length 0)))) fun v7 => bnd (quiet ((p4.2 ++ [none])) (S_num_At [v7, .c (.i .i64 8), .c (.i .i64 2)] ((p4.2 ++ [none])))) fun p8 => bnd (aloadN p4.2 256 ((.c (.p h.length 0)))) fun v9 => bnd (quiet p8.2 (S_num_At [v9, .c (.i .i64 10), .c (.i .i64 2)] p8.2)) fun p10 => bnd (afill ([.i .i64 0, .i .i64 0, .i .u64 0]) [(0, 1, p8.1), (1, 1, p10.1), (2, 1, v5)]) fun c11 => bnd (astoreN ((p10.2.set (p4.2.length + 0) (some (Row.mk ([.i .i64 0, .i .i64 0, .i .u64 0]) true)))) 3 ((.c (.p (p4.2.length + 0) 0))) ((.a c11))) fun h12 => bnd (aloadN h12 3 ((.c (.p (p4.2.length + 0) 0)))) fun v13 => bnd (S_super_Put [v13] h12) fun p14 => bnd (aext p14.1 0) fun v15 => bnd (aext p14.1 1) fun v16 => bnd (astoreN ((p14.2 ++ [some (Row.mk (List.replicate 256 (.i .u8 0)) true)])) 256 ((.c (.p p14.2.length 0))) v15) fun h17 => bnd (abin .neq v16 (.c (.i .i64 0))) fun v18 => bnd (gd v18 false (bnd (aloadN h17 256 ((.c (.p p14.2.length 0)))) fun v19 => some (v19, h17)) (some (.no, h17))) fun p20 => bnd (gd v18 false (bnd (aloadN p20.2 256 ((.c (.p h.length 0)))) fun v21 => some (v21, p20.2)) (some (.no, p20.2))) fun p22 => bnd (gd v18 false (bnd (aeq true (List.replicate 256 (.i .u8)) p20.1 p22.1) fun v23 => some (v23, p22.2)) (some (.no, p22.2))) fun p24 => bnd (apick v18 (.c (.b true)) p24.1) fun v25 => cnd v25 (bnd (afill ([.i .i64 0, .i .i64 0, .i .u64 0]) []) fun c26 => bnd (astoreN p24.2 3 ((.c (.p ((h ++ [some (Row.mk (c1) true)])).length 0))) ((.a c26))) fun h27 => tupN [aloadN h27 3 ((.c (.p ((h ++ [some (Row.mk (c1) true)])).length 0))), some (.c (.i .i64 13))] h27) (bnd (aloadN p24.2 3 ((.c (.p (p4.2.length + 0) 0)))) fun v28 => bnd (astoreN p24.2 3 ((.c (.p ((h ++ [some (Row.mk (c1) true)])).length 0))) v28) fun h29 => tupN [aloadN h29 3 ((.c (.p ((h ++ [some (Row.mk (c1) true)])).length 0))), some (.c (.i .i64 0))] h29) := by kernel_rfl
theorem K_super_Get : FnK Try.prog 53 A_super_Get E_super_Get R_super_Get := .mk' (sound1 S_num_Cut_ok (sound1 S_num_Get_ok (sound1 S_num_At_ok (sound1 S_super_Put_ok sound0)))) Try.func53 (by kernel_rfl) (by intro n args h; kernel_rfl)
def S_super_Get : Fun := tidy (Lim A_super_Get E_super_Get)
theorem S_super_Get_ok : SOk Try.prog 53 S_super_Get := K_super_Get.sok
theorem S_super_Get_flat {n : Nat} {args : List Val} {h h2 : Heap} {v : Val} (he : R_super_Get n args (ro h) = some (v, h2)) (hf : v.flat = true) : S_super_Get args h = some (v, h) := K_super_Get.flat he hf
end Go.Proofs.Ytdgggnlbdoiloaa
end
noncomputable section
namespace Go.Proofs.Ytdgggnlbdoiloaa
open Go Go.Esc
set_option maxRecDepth 100000
def geom_ok_o0 : List AOper := [aO 1 (.box (.t 0)), aO 2 (.mv (.v (.c (.b false))))]
def geom_ok_c0 : ACode := .ops geom_ok_o0
def geom_ok_o1 : List AOper := [aO 3 (.loadN 3 (.t 1)), aO 4 (.call 70 [(.t 3)]), aO 5 (.bin .eql (.t 4) (.v (.c (.i .i64 0)))), aO 2 (.mv (.t 5))]
def geom_ok_c1 : ACode := .ops geom_ok_o1
def geom_ok_c2 : ACode := .seq [2] geom_ok_c1 .ret
def geom_ok_c3 : ACode := .seq [1] geom_ok_c0 geom_ok_c2
def A_geom_ok : AFn := ⟨geom_ok_c3, [.tmp 2]⟩
def E_geom_ok : Sums := disp 70 S_super_Check disp0
def geom_ok_c0_d (n : Nat) : SmV := smOps E_geom_ok geom_ok_o0
def geom_ok_c1_d (n : Nat) : SmV := smOps E_geom_ok geom_ok_o1
def geom_ok_c2_d (n : Nat) : SmV := smSeq [2] (geom_ok_c1_d n) smRet
def geom_ok_c3_d (n : Nat) : SmV := smSeq [1] (geom_ok_c0_d n) (geom_ok_c2_d n)
def R_geom_ok (n : Nat) (args : List Val) (h : Heap) : OptV := (geom_ok_c3_d n) A_geom_ok.fin (params 0 args) h
theorem R_geom_ok_eq (n : Nat) (a0 : Val) (h : Heap) : R_geom_ok n [a0] h = bnd (cells? a0) fun c1 => bnd (aloadN ((h ++ [some (Row.mk (c1) true)])) 3 ((.c (.p h.length 0)))) fun v2 => bnd (S_super_Check [v2] ((h ++ [some (Row.mk (c1) true)]))) fun p3 => bnd (abin .eql p3.1 (.c (.i .i64 0))) fun v4 => some (v4, p3.2) := by kernel_rfl
theorem K_geom_ok : FnK Try.prog 63 A_geom_ok E_geom_ok R_geom_ok := .mk' (sound1 S_super_Check_ok sound0) Try.func63 (by kernel_rfl) (by intro n args h; kernel_rfl)
def S_geom_ok : Fun := tidy (Lim A_geom_ok E_geom_ok)
theorem S_geom_ok_ok : SOk Try.prog 63 S_geom_ok := K_geom_ok.sok
theorem S_geom_ok_flat {n : Nat} {args : List Val} {h h2 : Heap} {v : Val} (he : R_geom_ok n args (ro h) = some (v, h2)) (hf : v.flat = true) : S_geom_ok args h = some (v, h) := K_geom_ok.flat he hf
def geom_Map_o0 : List AOper := [aO 0 (.mv (.v (.c (.i .i64 0))))]
def geom_Map_c0 : ACode := .ops geom_Map_o0
def geom_Map_o1 : List AOper := [aO 0 (.mv (.v (.c (.i .i64 1))))]
def geom_Map_c1 : ACode := .ops geom_Map_o1
def geom_Map_c2 : ACode := .seq [0] geom_Map_c1 .ret
def geom_Map_c3 : ACode := .seq [] geom_Map_c0 geom_Map_c2
def A_geom_Map : AFn := ⟨geom_Map_c3, [.tmp 0]⟩
def E_geom_Map : Sums := disp0
def geom_Map_c0_d (n : Nat) : SmV := smOps E_geom_Map geom_Map_o0
def geom_Map_c1_d (n : Nat) : SmV := smOps E_geom_Map geom_Map_o1
def geom_Map_c2_d (n : Nat) : SmV := smSeq [0] (geom_Map_c1_d n) smRet
def geom_Map_c3_d (n : Nat) : SmV := smSeq [] (geom_Map_c0_d n) (geom_Map_c2_d n)
def R_geom_Map (n : Nat) (args : List Val) (h : Heap) : OptV := (geom_Map_c3_d n) A_geom_Map.fin (params 0 args) h
theorem R_geom_Map_eq (n : Nat) (h : Heap) : R_geom_Map n [] h = some ((.c (.i .i64 1)), h) := by kernel_rfl
theorem K_geom_Map : FnK Try.prog 72 A_geom_Map E_geom_Map R_geom_Map := .mk' (sound0) Try.func72 (by kernel_rfl) (by intro n args h; kernel_rfl)
def S_geom_Map : Fun := tidy (Lim A_geom_Map E_geom_Map)
theorem S_geom_Map_ok : SOk Try.prog 72 S_geom_Map := K_geom_Map.sok
theorem S_geom_Map_flat {n : Nat} {args : List Val} {h h2 : Heap} {v : Val} (he : R_geom_Map n args (ro h) = some (v, h2)) (hf : v.flat = true) : S_geom_Map args h = some (v, h) := K_geom_Map.flat he hf
def geom_Table_o0 : List AOper := [aO 1 (.box (.t 0)), aO 2 (.mv (.v (.c (.i .i64 0)))), aO 3 (.mv (.v (.c (.i .i64 0))))]
def geom_Table_c0 : ACode := .ops geom_Table_o0
def geom_Table_o1 : List AOper := [aO 4 (.loadN 3 (.t 1)), aO 5 (.call 63 [(.t 4)]), aO 6 (.un .not (.t 5))]
def geom_Table_c1 : ACode := .ops geom_Table_o1
def geom_Table_o2 : List AOper := [aO 2 (.mv (.v (.c (.i .i64 0)))), aO 3 (.mv (.v (.c (.i .i64 0))))]
def geom_Table_c2 : ACode := .ops geom_Table_o2
def geom_Table_c3 : ACode := .seq [2, 3] geom_Table_c2 .ret
def geom_Table_c4 : ACode := .cond (.t 6) geom_Table_c3 .skip
def geom_Table_c5 : ACode := .seq [1, 6] geom_Table_c1 geom_Table_c4
def geom_Table_o3 : List AOper := [aO 7 (.call 72 []), aO 8 (.bin .add (.t 7) (.v (.c (.i .i64 1)))), aO 9 (.fAddr (.t 1) 1), aO 10 (.load1 (.t 9)), aO 11 (.bin .quo (.t 10) (.v (.c (.i .i64 8)))), aO 2 (.mv (.t 8))]
def geom_Table_o4 : List AOper := [aO 3 (.mv (.t 11))]
def geom_Table_c6 : ACode := .draw 0 geom_Table_o3 geom_Table_o4
def geom_Table_c7 : ACode := .seq [2, 3] geom_Table_c6 .ret
def geom_Table_c8 : ACode := .seq [1] geom_Table_c5 geom_Table_c7
def geom_Table_c9 : ACode := .seq [1] geom_Table_c0 geom_Table_c8
def A_geom_Table : AFn := ⟨geom_Table_c9, [.tmp 2, .tmp 3]⟩
def E_geom_Table : Sums := disp 63 S_geom_ok (disp 72 S_geom_Map disp0)
def geom_Table_c0_d (n : Nat) : SmV := smOps E_geom_Table geom_Table_o0
def geom_Table_c1_d (n : Nat) : SmV := smOps E_geom_Table geom_Table_o1
def geom_Table_c2_d (n : Nat) : SmV := smOps E_geom_Table geom_Table_o2
def geom_Table_c3_d (n : Nat) : SmV := smSeq [2, 3] (geom_Table_c2_d n) smRet
def geom_Table_c4_d (n : Nat) : SmV := smCond (.t 6) (geom_Table_c3_d n) smSkip
def geom_Table_c5_d (n : Nat) : SmV := smSeq [1, 6] (geom_Table_c1_d n) (geom_Table_c4_d n)
def geom_Table_c6_d (n : Nat) : SmV := smDraw E_geom_Table 0 geom_Table_o3 geom_Table_o4
def geom_Table_c7_d (n : Nat) : SmV := smSeq [2, 3] (geom_Table_c6_d n) smRet
def geom_Table_c8_d (n : Nat) : SmV := smSeq [1] (geom_Table_c5_d n) (geom_Table_c7_d n)
def geom_Table_c9_d (n : Nat) : SmV := smSeq [1] (geom_Table_c0_d n) (geom_Table_c8_d n)
def R_geom_Table (n : Nat) (args : List Val) (h : Heap) : OptV := (geom_Table_c9_d n) A_geom_Table.fin (params 0 args) h
theorem R_geom_Table_eq (n : Nat) (a0 : Val) (h : Heap) : R_geom_Table n [a0] h = bnd (cells? a0) fun c1 => bnd (aloadN ((h ++ [some (Row.mk (c1) true)])) 3 ((.c (.p h.length 0)))) fun v2 => bnd (S_geom_ok [v2] ((h ++ [some (Row.mk (c1) true)]))) fun p3 => bnd (aun .not p3.1) fun v4 => cnd v4 (tupN [some (.c (.i .i64 0)), some (.c (.i .i64 0))] p3.2) (bnd (quiet ((p3.2 ++ [])) (S_geom_Map [] ((p3.2 ++ [])))) fun p5 => bnd (abin .add p5.1 (.c (.i .i64 1))) fun v6 => bnd (afAddr ((.c (.p h.length 0))) 1) fun v7 => bnd (aload1 p3.2 v7) fun v8 => bnd (abin .quo v8 (.c (.i .i64 8))) fun v9 => tupN [some v6, some v9] p5.2) := by kernel_rfl
theorem K_geom_Table : FnK Try.prog 103 A_geom_Table E_geom_Table R_geom_Table := .mk' (sound1 S_geom_ok_ok (sound1 S_geom_Map_ok sound0)) Try.func103 (by kernel_rfl) (by intro n args h; kernel_rfl)
def S_geom_Table : Fun := tidy (Lim A_geom_Table E_geom_Table)
theorem S_geom_Table_ok : SOk Try.prog 103 S_geom_Table := K_geom_Table.sok
theorem S_geom_Table_flat {n : Nat} {args : List Val} {h h2 : Heap} {v : Val} (he : R_geom_Table n args (ro h) = some (v, h2)) (hf : v.flat = true) : S_geom_Table args h = some (v, h) := K_geom_Table.flat he hf
def geom_IsInode_o0 : List AOper := [aO 2 (.box (.t 0)), aO 4 (.mv (.v (.c (.b false))))]
def geom_IsInode_c0 : ACode := .ops geom_IsInode_o0
def geom_IsInode_o1 : List AOper := [aO 5 (.loadN 3 (.t 2)), aO 6 (.call 63 [(.t 5)]), aO 7 (.mv (.t 6)), { dst := some 8, op := .mv (.t 1), guard := some (7, true) }, { dst := some 9, op := .bin .geq (.t 8) (.v (.c (.i .i64 1))), guard := some (7, true) }, aO 10 (.pick (.t 7) (.t 9) (.v (.c (.b false)))), aO 11 (.mv (.t 10)), { dst := some 12, op := .mv (.t 1), guard := some (11, true) }, { dst := some 13, op := .fAddr (.t 2) 1, guard := some (11, true) }, { dst := some 14, op := .load1 (.t 13), guard := some (11, true) }, { dst := some 15, op := .bin .leq (.t 12) (.t 14), guard := some (11, true) }, aO 16 (.pick (.t 11) (.t 15) (.v (.c (.b false)))), aO 4 (.mv (.t 16))]
def geom_IsInode_c1 : ACode := .ops geom_IsInode_o1
def geom_IsInode_c2 : ACode := .seq [4] geom_IsInode_c1 .ret
def geom_IsInode_c3 : ACode := .seq [1, 2] geom_IsInode_c0 geom_IsInode_c2
def A_geom_IsInode : AFn := ⟨geom_IsInode_c3, [.tmp 4]⟩
def E_geom_IsInode : Sums := disp 63 S_geom_ok disp0
def geom_IsInode_c0_d (n : Nat) : SmV := smOps E_geom_IsInode geom_IsInode_o0
def geom_IsInode_c1_d (n : Nat) : SmV := smOps E_geom_IsInode geom_IsInode_o1
def geom_IsInode_c2_d (n : Nat) : SmV := smSeq [4] (geom_IsInode_c1_d n) smRet
def geom_IsInode_c3_d (n : Nat) : SmV := smSeq [1, 2] (geom_IsInode_c0_d n) (geom_IsInode_c2_d n)
def R_geom_IsInode (n : Nat) (args : List Val) (h : Heap) : OptV := (geom_IsInode_c3_d n) A_geom_IsInode.fin (params 0 args) h
theorem R_geom_IsInode_eq (n : Nat) (a0 a1 : Val) (h : Heap) : R_geom_IsInode n [a0, a1] h = bnd (cells? a0) fun c1 => bnd (aloadN ((h ++ [some (Row.mk (c1) true)])) 3 ((.c (.p h.length 0)))) fun v2 => bnd (S_geom_ok [v2] ((h ++ [some (Row.mk (c1) true)]))) fun p3 => bnd (gd p3.1 true (some (a1, p3.2)) (some (.no, p3.2))) fun p4 => bnd (gd p3.1 true (bnd (abin .geq p4.1 (.c (.i .i64 1))) fun v5 => some (v5, p4.2)) (some (.no, p4.2))) fun p6 => bnd (apick p3.1 p6.1 (.c (.b false))) fun v7 => bnd (gd v7 true (some (a1, p6.2)) (some (.no, p6.2))) fun p8 => bnd (gd v7 true (bnd (afAddr ((.c (.p h.length 0))) 1) fun v9 => some (v9, p8.2)) (some (.no, p8.2))) fun p10 => bnd (gd v7 true (bnd (aload1 p10.2 p10.1) fun v11 => some (v11, p10.2)) (some (.no, p10.2))) fun p12 => bnd (gd v7 true (bnd (abin .leq p8.1 p12.1) fun v13 => some (v13, p12.2)) (some (.no, p12.2))) fun p14 => bnd (apick v7 p14.1 (.c (.b false))) fun v15 => some (v15, p14.2) := by kernel_rfl
theorem K_geom_IsInode : FnK Try.prog 102 A_geom_IsInode E_geom_IsInode R_geom_IsInode := .mk' (sound1 S_geom_ok_ok sound0) Try.func102 (by kernel_rfl) (by intro n args h; kernel_rfl)
def S_geom_IsInode : Fun := tidy (Lim A_geom_IsInode E_geom_IsInode)
theorem S_geom_IsInode_ok : SOk Try.prog 102 S_geom_IsInode := K_geom_IsInode.sok
theorem S_geom_IsInode_flat {n : Nat} {args : List Val} {h h2 : Heap} {v : Val} (he : R_geom_IsInode n args (ro h) = some (v, h2)) (hf : v.flat = true) : S_geom_IsInode args h = some (v, h) := K_geom_IsInode.flat he hf
def geom_Where_o0 : List AOper := [aO 2 (.box (.t 0)), aO 4 (.mv (.v (.c (.i .i64 0)))), aO 5 (.mv (.v (.c (.i .i64 0)))), aO 6 (.mv (.v (.c (.b false))))]
def geom_Where_c0 : ACode := .ops geom_Where_o0
def geom_Where_o1 : List AOper := [aO 9 (.loadN 3 (.t 2)), aO 10 (.mv (.t 1)), aO 11 (.call 102 [(.t 9), (.t 10)]), aO 12 (.un .not (.t 11))]
def geom_Where_c1 : ACode := .ops geom_Where_o1
def geom_Where_o2 : List AOper := [aO 4 (.mv (.v (.c (.i .i64 0)))), aO 5 (.mv (.v (.c (.i .i64 0)))), aO 6 (.mv (.v (.c (.b false))))]
def geom_Where_c2 : ACode := .ops geom_Where_o2
def geom_Where_c3 : ACode := .seq [4, 5, 6] geom_Where_c2 .ret
def geom_Where_c4 : ACode := .cond (.t 12) geom_Where_c3 .skip
def geom_Where_c5 : ACode := .seq [1, 2, 12] geom_Where_c1 geom_Where_c4
def geom_Where_o3 : List AOper := [aO 14 (.loadN 3 (.t 2)), aO 15 (.call 103 [(.t 14)]), aO 13 (.mv (.t 15)), aO 16 (.ext (.t 13) 0), aO 17 (.ext (.t 13) 1), aO 7 (.mv (.t 16)), aO 8 (.mv (.t 17))]
def geom_Where_c6 : ACode := .ops geom_Where_o3
def geom_Where_o4 : List AOper := [aO 18 (.mv (.t 7)), aO 19 (.mv (.t 1)), aO 20 (.bin .sub (.t 19) (.v (.c (.i .i64 1)))), aO 21 (.bin .quo (.t 20) (.v (.c (.i .i64 8)))), aO 22 (.bin .add (.t 18) (.t 21)), aO 23 (.mv (.t 1)), aO 24 (.bin .sub (.t 23) (.v (.c (.i .i64 1)))), aO 25 (.bin .rem (.t 24) (.v (.c (.i .i64 8)))), aO 4 (.mv (.t 22)), aO 5 (.mv (.t 25)), aO 6 (.mv (.v (.c (.b true))))]
def geom_Where_c7 : ACode := .ops geom_Where_o4
def geom_Where_c8 : ACode := .seq [4, 5, 6] geom_Where_c7 .ret
def geom_Where_c9 : ACode := .seq [1, 7] geom_Where_c6 geom_Where_c8
def geom_Where_c10 : ACode := .seq [1, 2] geom_Where_c5 geom_Where_c9
def geom_Where_c11 : ACode := .seq [1, 2] geom_Where_c0 geom_Where_c10
def A_geom_Where : AFn := ⟨geom_Where_c11, [.tmp 4, .tmp 5, .tmp 6]⟩
def E_geom_Where : Sums := disp 102 S_geom_IsInode (disp 103 S_geom_Table disp0)
def geom_Where_c0_d (n : Nat) : SmV := smOps E_geom_Where geom_Where_o0
def geom_Where_c1_d (n : Nat) : SmV := smOps E_geom_Where geom_Where_o1
def geom_Where_c2_d (n : Nat) : SmV := smOps E_geom_Where geom_Where_o2
def geom_Where_c3_d (n : Nat) : SmV := smSeq [4, 5, 6] (geom_Where_c2_d n) smRet
def geom_Where_c4_d (n : Nat) : SmV := smCond (.t 12) (geom_Where_c3_d n) smSkip
def geom_Where_c5_d (n : Nat) : SmV := smSeq [1, 2, 12] (geom_Where_c1_d n) (geom_Where_c4_d n)
def geom_Where_c6_d (n : Nat) : SmV := smOps E_geom_Where geom_Where_o3
def geom_Where_c7_d (n : Nat) : SmV := smOps E_geom_Where geom_Where_o4
def geom_Where_c8_d (n : Nat) : SmV := smSeq [4, 5, 6] (geom_Where_c7_d n) smRet
def geom_Where_c9_d (n : Nat) : SmV := smSeq [1, 7] (geom_Where_c6_d n) (geom_Where_c8_d n)
def geom_Where_c10_d (n : Nat) : SmV := smSeq [1, 2] (geom_Where_c5_d n) (geom_Where_c9_d n)
def geom_Where_c11_d (n : Nat) : SmV := smSeq [1, 2] (geom_Where_c0_d n) (geom_Where_c10_d n)
def R_geom_Where (n : Nat) (args : List Val) (h : Heap) : OptV := (geom_Where_c11_d n) A_geom_Where.fin (params 0 args) h
theorem R_geom_Where_eq (n : Nat) (a0 a1 : Val) (h : Heap) : R_geom_Where n [a0, a1] h = bnd (cells? a0) fun c1 => bnd (aloadN ((h ++ [some (Row.mk (c1) true)])) 3 ((.c (.p h.length 0)))) fun v2 => bnd (S_geom_IsInode [v2, a1] ((h ++ [some (Row.mk (c1) true)]))) fun p3 => bnd (aun .not p3.1) fun v4 => cnd v4 (tupN [some (.c (.i .i64 0)), some (.c (.i .i64 0)), some (.c (.b false))] p3.2) (bnd (aloadN p3.2 3 ((.c (.p h.length 0)))) fun v5 => bnd (S_geom_Table [v5] p3.2) fun p6 => bnd (aext p6.1 0) fun v7 => bnd (aext p6.1 1) fun v8 => bnd (abin .sub a1 (.c (.i .i64 1))) fun v9 => bnd (abin .quo v9 (.c (.i .i64 8))) fun v10 => bnd (abin .add v7 v10) fun v11 => bnd (abin .sub a1 (.c (.i .i64 1))) fun v12 => bnd (abin .rem v12 (.c (.i .i64 8))) fun v13 => tupN [some v11, some v13, some (.c (.b true))] p6.2) := by kernel_rfl
theorem K_geom_Where : FnK Try.prog 55 A_geom_Where E_geom_Where R_geom_Where := .mk' (sound1 S_geom_IsInode_ok (sound1 S_geom_Table_ok sound0)) Try.func55 (by kernel_rfl) (by intro n args h; kernel_rfl)
def S_geom_Where : Fun := tidy (Lim A_geom_Where E_geom_Where)
theorem S_geom_Where_ok : SOk Try.prog 55 S_geom_Where := K_geom_Where.sok
theorem S_geom_Where_flat {n : Nat} {args : List Val} {h h2 : Heap} {v : Val} (he : R_geom_Where n args (ro h) = some (v, h2)) (hf : v.flat = true) : S_geom_Where args h = some (v, h) := K_geom_Where.flat he hf
end Go.Proofs.Ytdgggnlbdoiloaa
end
noncomputable section
namespace Go.Proofs.Ytdgggnlbdoiloaa
open Go Go.Esc
set_option maxRecDepth 100000
def er14_May_o0 : List AOper := [aO 1 (.box (.t 0)), aO 2 (.mv (.v (.c (.b false))))]
def er14_May_c0 : ACode := .ops er14_May_o0
def er14_May_o1 : List AOper := [aO 3 (.fAddr (.t 1) 0), aO 4 (.load1 (.t 3)), aO 5 (.bin .geq (.t 4) (.v (.c (.i .i64 16)))), aO 6 (.mv (.t 5)), { dst := some 7, op := .fAddr (.t 1) 0, guard := some (6, true) }, { dst := some 8, op := .load1 (.t 7), guard := some (6, true) }, { dst := some 9, op := .bin .leq (.t 8) (.v (.c (.i .i64 512))), guard := some (6, true) }, aO 10 (.pick (.t 6) (.t 9) (.v (.c (.b false)))), aO 11 (.mv (.t 10)), { dst := some 12, op := .fAddr (.t 1) 1, guard := some (11, true) }, { dst := some 13, op := .load1 (.t 12), guard := some (11, true) }, { dst := some 14, op := .bin .geq (.t 13) (.v (.c (.i .i64 8))), guard := some (11, true) }, aO 15 (.pick (.t 11) (.t 14) (.v (.c (.b false)))), aO 16 (.mv (.t 15)), { dst := some 17, op := .fAddr (.t 1) 1, guard := some (16, true) }, { dst := some 18, op := .load1 (.t 17), guard := some (16, true) }, { dst := some 19, op := .bin .leq (.t 18) (.v (.c (.i .i64 128))), guard := some (16, true) }, aO 20 (.pick (.t 16) (.t 19) (.v (.c (.b false)))), aO 21 (.mv (.t 20)), { dst := some 22, op := .fAddr (.t 1) 1, guard := some (21, true) }, { dst := some 23, op := .load1 (.t 22), guard := some (21, true) }, { dst := some 24, op := .bin .rem (.t 23) (.v (.c (.i .i64 8))), guard := some (21, true) }, { dst := some 25, op := .bin .eql (.t 24) (.v (.c (.i .i64 0))), guard := some (21, true) }, aO 26 (.pick (.t 21) (.t 25) (.v (.c (.b false)))), aO 27 (.mv (.t 26)), { dst := some 28, op := .fAddr (.t 1) 1, guard := some (27, true) }, { dst := some 29, op := .load1 (.t 28), guard := some (27, true) }, { dst := some 30, op := .bin .quo (.t 29) (.v (.c (.i .i64 8))), guard := some (27, true) }, { dst := some 31, op := .bin .add (.v (.c (.i .i64 2))) (.t 30), guard := some (27, true) }, { dst := some 32, op := .fAddr (.t 1) 0, guard := some (27, true) }, { dst := some 33, op := .load1 (.t 32), guard := some (27, true) }, { dst := some 34, op := .bin .lss (.t 31) (.t 33), guard := some (27, true) }, aO 35 (.pick (.t 27) (.t 34) (.v (.c (.b false)))), aO 2 (.mv (.t 35))]
def er14_May_c1 : ACode := .ops er14_May_o1
def er14_May_c2 : ACode := .seq [2] er14_May_c1 .ret
def er14_May_c3 : ACode := .seq [1] er14_May_c0 er14_May_c2
def A_er14_May : AFn := ⟨er14_May_c3, [.tmp 2]⟩
def E_er14_May : Sums := disp0
def er14_May_c0_d (n : Nat) : SmV := smOps E_er14_May er14_May_o0
def er14_May_c1_d (n : Nat) : SmV := smOps E_er14_May er14_May_o1
def er14_May_c2_d (n : Nat) : SmV := smSeq [2] (er14_May_c1_d n) smRet
def er14_May_c3_d (n : Nat) : SmV := smSeq [1] (er14_May_c0_d n) (er14_May_c2_d n)
def R_er14_May (n : Nat) (args : List Val) (h : Heap) : OptV := (er14_May_c3_d n) A_er14_May.fin (params 0 args) h
theorem R_er14_May_eq (n : Nat) (a0 : Val) (h : Heap) : R_er14_May n [a0] h = bnd (cells? a0) fun c1 => bnd (afAddr ((.c (.p h.length 0))) 0) fun v2 => bnd (aload1 ((h ++ [some (Row.mk (c1) true)])) v2) fun v3 => bnd (abin .geq v3 (.c (.i .i64 16))) fun v4 => bnd (gd v4 true (bnd (afAddr ((.c (.p h.length 0))) 0) fun v5 => some (v5, (h ++ [some (Row.mk (c1) true)]))) (some (.no, (h ++ [some (Row.mk (c1) true)])))) fun p6 => bnd (gd v4 true (bnd (aload1 p6.2 p6.1) fun v7 => some (v7, p6.2)) (some (.no, p6.2))) fun p8 => bnd (gd v4 true (bnd (abin .leq p8.1 (.c (.i .i64 512))) fun v9 => some (v9, p8.2)) (some (.no, p8.2))) fun p10 => bnd (apick v4 p10.1 (.c (.b false))) fun v11 => bnd (gd v11 true (bnd (afAddr ((.c (.p h.length 0))) 1) fun v12 => some (v12, p10.2)) (some (.no, p10.2))) fun p13 => bnd (gd v11 true (bnd (aload1 p13.2 p13.1) fun v14 => some (v14, p13.2)) (some (.no, p13.2))) fun p15 => bnd (gd v11 true (bnd (abin .geq p15.1 (.c (.i .i64 8))) fun v16 => some (v16, p15.2)) (some (.no, p15.2))) fun p17 => bnd (apick v11 p17.1 (.c (.b false))) fun v18 => bnd (gd v18 true (bnd (afAddr ((.c (.p h.length 0))) 1) fun v19 => some (v19, p17.2)) (some (.no, p17.2))) fun p20 => bnd (gd v18 true (bnd (aload1 p20.2 p20.1) fun v21 => some (v21, p20.2)) (some (.no, p20.2))) fun p22 => bnd (gd v18 true (bnd (abin .leq p22.1 (.c (.i .i64 128))) fun v23 => some (v23, p22.2)) (some (.no, p22.2))) fun p24 => bnd (apick v18 p24.1 (.c (.b false))) fun v25 => bnd (gd v25 true (bnd (afAddr ((.c (.p h.length 0))) 1) fun v26 => some (v26, p24.2)) (some (.no, p24.2))) fun p27 => bnd (gd v25 true (bnd (aload1 p27.2 p27.1) fun v28 => some (v28, p27.2)) (some (.no, p27.2))) fun p29 => bnd (gd v25 true (bnd (abin .rem p29.1 (.c (.i .i64 8))) fun v30 => some (v30, p29.2)) (some (.no, p29.2))) fun p31 => bnd (gd v25 true (bnd (abin .eql p31.1 (.c (.i .i64 0))) fun v32 => some (v32, p31.2)) (some (.no, p31.2))) fun p33 => bnd (apick v25 p33.1 (.c (.b false))) fun v34 => bnd (gd v34 true (bnd (afAddr ((.c (.p h.length 0))) 1) fun v35 => some (v35, p33.2)) (some (.no, p33.2))) fun p36 => bnd (gd v34 true (bnd (aload1 p36.2 p36.1) fun v37 => some (v37, p36.2)) (some (.no, p36.2))) fun p38 => bnd (gd v34 true (bnd (abin .quo p38.1 (.c (.i .i64 8))) fun v39 => some (v39, p38.2)) (some (.no, p38.2))) fun p40 => bnd (gd v34 true (bnd (abin .add (.c (.i .i64 2)) p40.1) fun v41 => some (v41, p40.2)) (some (.no, p40.2))) fun p42 => bnd (gd v34 true (bnd (afAddr ((.c (.p h.length 0))) 0) fun v43 => some (v43, p42.2)) (some (.no, p42.2))) fun p44 => bnd (gd v34 true (bnd (aload1 p44.2 p44.1) fun v45 => some (v45, p44.2)) (some (.no, p44.2))) fun p46 => bnd (gd v34 true (bnd (abin .lss p42.1 p46.1) fun v47 => some (v47, p46.2)) (some (.no, p46.2))) fun p48 => bnd (apick v34 p48.1 (.c (.b false))) fun v49 => some (v49, p48.2) := by kernel_rfl
theorem K_er14_May : FnK Try.prog 41 A_er14_May E_er14_May R_er14_May := .mk' (sound0) Try.func41 (by kernel_rfl) (by intro n args h; kernel_rfl)
def S_er14_May : Fun := tidy (Lim A_er14_May E_er14_May)
theorem S_er14_May_ok : SOk Try.prog 41 S_er14_May := K_er14_May.sok
theorem S_er14_May_flat {n : Nat} {args : List Val} {h h2 : Heap} {v : Val} (he : R_er14_May n args (ro h) = some (v, h2)) (hf : v.flat = true) : S_er14_May args h = some (v, h) := K_er14_May.flat he hf
end Go.Proofs.Ytdgggnlbdoiloaa
end
section
namespace Go.Proofs.Ytdgggnlbdoiloaa
open Go Go.Esc

def mayL (b n : Int) : Bool := decide (16 ≤ b) && decide (b ≤ 512) && decide (8 ≤ n) && decide (n ≤ 128) && decide (n % 8 = 0) && decide (2 + n / 8 < b)

theorem mayL_true {b n : Int} : mayL b n = true ↔ 16 ≤ b ∧ b ≤ 512 ∧ 8 ≤ n ∧ n ≤ 128 ∧ n % 8 = 0 ∧ 2 + n / 8 < b := by
  unfold mayL; simp [and_assoc]
theorem mayL_false {b n : Int} : mayL b n = false ↔ ¬ (16 ≤ b ∧ b ≤ 512 ∧ 8 ≤ n ∧ n ≤ 128 ∧ n % 8 = 0 ∧ 2 + n / 8 < b) := by
  rw [← mayL_true]; simp

abbrev layC (b n m : Int) : List Cell := [.i .i64 b, .i .i64 n, .i .u64 m]

theorem super_Check_eq {b n m : Int} {h : Heap} : S_super_Check [.a (layC b n m)] h = some (.c (.i .i64 (bif mayL b n then 0 else 1)), h) := by
  have key : ∀ g, ∃ g', R_super_Check 0 [.a (layC b n m)] g = some (.c (.i .i64 (bif mayL b n then 0 else 1)), g') := by
    intro g
    rw [R_super_Check_eq]
    have bad : mayL b n = false → (some (Val.c (.i .i64 1), g ++ [some ⟨layC b n m, true⟩])) = some (.c (.i .i64 (bif mayL b n then 0 else 1)), g ++ [some ⟨layC b n m, true⟩]) := fun h => by rw [h]; rfl
    by_cases c1 : b < 16
    · rw [mayL_false.2 (by omega)]
      exact ⟨_, by simp only [esc, esh, Nat.reduceAdd, Nat.reduceMul, Nat.reduceLT, c1, super_Check_j0_eq] <;> rfl⟩
    · by_cases c2 : 512 < b
      · rw [mayL_false.2 (by omega)]
        exact ⟨_, by simp only [esc, esh, Nat.reduceAdd, Nat.reduceMul, Nat.reduceLT, c1, c2, super_Check_j0_eq] <;> rfl⟩
      · by_cases c3 : n < 8
        · rw [mayL_false.2 (by omega)]
          exact ⟨_, by simp only [esc, esh, Nat.reduceAdd, Nat.reduceMul, Nat.reduceLT, c1, c2, c3, super_Check_j0_eq, super_Check_j1_eq] <;> rfl⟩
        · by_cases c4 : 128 < n
          · rw [mayL_false.2 (by omega)]
            exact ⟨_, by simp only [esc, esh, Nat.reduceAdd, Nat.reduceMul, Nat.reduceLT, c1, c2, c3, c4, super_Check_j0_eq, super_Check_j1_eq] <;> rfl⟩
          · have e1 := rem_i (a := n) (b := 8) (k := .i64) (by omega) (by omega)
            by_cases c5 : n % 8 = 0
            · have e2 := quo_i64 (a := n) (b := 8) (by omega) (by omega) (by omega)
              have e3 : IntKind.wrap .i64 (2 + n / 8) = 2 + n / 8 := wrap_i64 (by omega) (by omega)
              by_cases c6 : b ≤ 2 + n / 8
              · rw [mayL_false.2 (by omega)]
                exact ⟨_, by simp only [esc, esh, Nat.reduceAdd, Nat.reduceMul, Nat.reduceLT, c1, c2, c3, c4, e1, c5, e2, e3, c6, super_Check_j0_eq, super_Check_j1_eq] <;> rfl⟩
              · rw [mayL_true.2 (by omega)]
                exact ⟨_, by simp only [esc, esh, Nat.reduceAdd, Nat.reduceMul, Nat.reduceLT, c1, c2, c3, c4, e1, c5, e2, e3, c6, super_Check_j0_eq, super_Check_j1_eq] <;> rfl⟩
            · rw [mayL_false.2 (by omega)]
              exact ⟨_, by simp only [esc, esh, Nat.reduceAdd, Nat.reduceMul, Nat.reduceLT, c1, c2, c3, c4, e1, c5, super_Check_j0_eq, super_Check_j1_eq] <;> rfl⟩
  obtain ⟨g', e⟩ := key (ro h)
  exact S_super_Check_flat e (by simp)

theorem ref14_May_eq {b n m : Int} {h : Heap} : S_er14_May [.a (layC b n m)] h = some (.c (.b (mayL b n)), h) := by
  have key : ∀ g, ∃ g', R_er14_May 0 [.a (layC b n m)] g = some (.c (.b (mayL b n)), g') := by
    intro g
    rw [R_er14_May_eq]
    by_cases c1 : 16 ≤ b
    · by_cases c2 : b ≤ 512
      · by_cases c3 : 8 ≤ n
        · by_cases c4 : n ≤ 128
          · have e1 := rem_i (a := n) (b := 8) (k := .i64) (by omega) (by omega)
            by_cases c5 : n % 8 = 0
            · have e2 := quo_i64 (a := n) (b := 8) (by omega) (by omega) (by omega)
              have e3 : IntKind.wrap .i64 (2 + n / 8) = 2 + n / 8 := wrap_i64 (by omega) (by omega)
              by_cases c6 : 2 + n / 8 < b
              · rw [mayL_true.2 (by omega)]
                exact ⟨_, by simp only [esc, esh, Nat.reduceAdd, Nat.reduceMul, Nat.reduceLT, c1, c2, c3, c4, e1, c5, e2, e3, c6] <;> rfl⟩
              · rw [mayL_false.2 (by omega)]
                exact ⟨_, by simp only [esc, esh, Nat.reduceAdd, Nat.reduceMul, Nat.reduceLT, c1, c2, c3, c4, e1, c5, e2, e3, c6] <;> rfl⟩
            · rw [mayL_false.2 (by omega)]
              exact ⟨_, by simp only [esc, esh, Nat.reduceAdd, Nat.reduceMul, Nat.reduceLT, c1, c2, c3, c4, e1, c5] <;> rfl⟩
          · rw [mayL_false.2 (by omega)]
            exact ⟨_, by simp only [esc, esh, Nat.reduceAdd, Nat.reduceMul, Nat.reduceLT, c1, c2, c3, c4] <;> rfl⟩
        · rw [mayL_false.2 (by omega)]
          exact ⟨_, by simp only [esc, esh, Nat.reduceAdd, Nat.reduceMul, Nat.reduceLT, c1, c2, c3] <;> rfl⟩
      · rw [mayL_false.2 (by omega)]
        exact ⟨_, by simp only [esc, esh, Nat.reduceAdd, Nat.reduceMul, Nat.reduceLT, c1, c2] <;> rfl⟩
    · rw [mayL_false.2 (by omega)]
      exact ⟨_, by simp only [esc, esh, Nat.reduceAdd, Nat.reduceMul, Nat.reduceLT, c1] <;> rfl⟩
  obtain ⟨g', e⟩ := key (ro h)
  exact S_er14_May_flat e (by simp)

theorem geom_ok_eq {b n m : Int} {h : Heap} : S_geom_ok [.a (layC b n m)] h = some (.c (.b (mayL b n)), h) := by
  have key : ∀ g, ∃ g', R_geom_ok 0 [.a (layC b n m)] g = some (.c (.b (mayL b n)), g') := by
    intro g
    rw [R_geom_ok_eq]
    cases c : mayL b n with
    | true => exact ⟨_, by simp only [esc, esh, Nat.reduceAdd, Nat.reduceMul, Nat.reduceLT, super_Check_eq, c] <;> rfl⟩
    | false => exact ⟨_, by simp only [esc, esh, Nat.reduceAdd, Nat.reduceMul, Nat.reduceLT, super_Check_eq, c, Int.reduceEq] <;> rfl⟩
  obtain ⟨g', e⟩ := key (ro h)
  exact S_geom_ok_flat e (by simp)

theorem geom_Map_eq {h : Heap} : S_geom_Map [] h = some (.c (.i .i64 1), h) :=
  S_geom_Map_flat (n := 0) (h2 := ro h) (by rw [R_geom_Map_eq]) rfl

def tabF (b n : Int) : Int := bif mayL b n then 2 else 0
def tabN (b n : Int) : Int := bif mayL b n then n / 8 else 0
theorem geom_Table_eq {b n m : Int} {h : Heap} : S_geom_Table [.a (layC b n m)] h = some (.t [.c (.i .i64 (tabF b n)), .c (.i .i64 (tabN b n))], h) := by
  have key : ∀ g, ∃ g', R_geom_Table 0 [.a (layC b n m)] g = some (.t [.c (.i .i64 (tabF b n)), .c (.i .i64 (tabN b n))], g') := by
    intro g
    rw [R_geom_Table_eq]
    unfold tabF tabN
    cases c : mayL b n with
    | true =>
      have c' := mayL_true.1 c
      have e2 := quo_i64 (a := n) (b := 8) (by omega) (by omega) (by omega)
      have e3 : IntKind.wrap .i64 (1 + 1) = 2 := wrap_i64 (by omega) (by omega)
      exact ⟨_, by simp only [esc, esh, Nat.reduceAdd, Nat.reduceMul, Nat.reduceLT, geom_ok_eq, c, geom_Map_eq, e2, e3] <;> rfl⟩
    | false => exact ⟨_, by simp only [esc, esh, Nat.reduceAdd, Nat.reduceMul, Nat.reduceLT, geom_ok_eq, c] <;> rfl⟩
  obtain ⟨g', e⟩ := key (ro h)
  exact S_geom_Table_flat e (by simp)

def isInoL (b n i : Int) : Bool := mayL b n && decide (1 ≤ i) && decide (i ≤ n)
theorem geom_IsInode_eq {b n m i : Int} {h : Heap} : S_geom_IsInode [.a (layC b n m), .c (.i .i64 i)] h = some (.c (.b (isInoL b n i)), h) := by
  have key : ∀ g, ∃ g', R_geom_IsInode 0 [.a (layC b n m), .c (.i .i64 i)] g = some (.c (.b (isInoL b n i)), g') := by
    intro g
    rw [R_geom_IsInode_eq]
    unfold isInoL
    cases c : mayL b n with
    | true =>
      by_cases c1 : 1 ≤ i
      · exact ⟨_, by simp only [esc, esh, Nat.reduceAdd, Nat.reduceMul, Nat.reduceLT, geom_ok_eq, c, c1] <;> rfl⟩
      · exact ⟨_, by simp only [esc, esh, Nat.reduceAdd, Nat.reduceMul, Nat.reduceLT, geom_ok_eq, c, c1] <;> rfl⟩
    | false => exact ⟨_, by simp only [esc, esh, Nat.reduceAdd, Nat.reduceMul, Nat.reduceLT, geom_ok_eq, c] <;> rfl⟩
  obtain ⟨g', e⟩ := key (ro h)
  exact S_geom_IsInode_flat e (by simp)

def whereB (b n i : Int) : Int := bif isInoL b n i then 2 + (i - 1) / 8 else 0
def whereK (b n i : Int) : Int := bif isInoL b n i then (i - 1) % 8 else 0

theorem isInoL_true {b n i : Int} : isInoL b n i = true ↔ mayL b n = true ∧ 1 ≤ i ∧ i ≤ n := by
  unfold isInoL; simp [and_assoc]
theorem geom_Where_eq {b n m i : Int} {h : Heap} : S_geom_Where [.a (layC b n m), .c (.i .i64 i)] h = some (.t [.c (.i .i64 (whereB b n i)), .c (.i .i64 (whereK b n i)), .c (.b (isInoL b n i))], h) := by
  have key : ∀ g, ∃ g', R_geom_Where 0 [.a (layC b n m), .c (.i .i64 i)] g = some (.t [.c (.i .i64 (whereB b n i)), .c (.i .i64 (whereK b n i)), .c (.b (isInoL b n i))], g') := by
    intro g
    rw [R_geom_Where_eq]
    unfold whereB whereK
    cases c : isInoL b n i with
    | true =>
      obtain ⟨c1, c2, c3⟩ := isInoL_true.1 c
      have c' := mayL_true.1 c1
      have e0 : tabF b n = 2 := by unfold tabF; rw [c1]; rfl
      have e1 : IntKind.wrap .i64 (i - 1) = i - 1 := wrap_i64 (by omega) (by omega)
      have e2 := quo_i64 (a := i - 1) (b := 8) (by omega) (by omega) (by omega)
      have e3 : IntKind.wrap .i64 (2 + (i - 1) / 8) = 2 + (i - 1) / 8 := wrap_i64 (by omega) (by omega)
      have e4 := rem_i (a := i - 1) (b := 8) (k := .i64) (by omega) (by omega)
      exact ⟨_, by simp only [esc, esh, Nat.reduceAdd, Nat.reduceMul, Nat.reduceLT, geom_IsInode_eq, c, geom_Table_eq, e0, e1, e2, e3, e4] <;> rfl⟩
    | false => exact ⟨_, by simp only [esc, esh, Nat.reduceAdd, Nat.reduceMul, Nat.reduceLT, geom_IsInode_eq, c] <;> rfl⟩
  obtain ⟨g', e⟩ := key (ro h)
  exact S_geom_Where_flat e (by simp)

end Go.Proofs.Ytdgggnlbdoiloaa
end
section
namespace Go.Proofs.Ytdgggnlbdoiloaa
open Go Go.Esc

theorem amark_of {h : Heap} {id off len sz : Nat} {cs : List Cell} (hr : rd h id = some ⟨cs, true⟩) (hn : 0 < len) : amark h (.c (.sl id off len sz)) = some (.c (.sl id off len sz)) := by
  simp [amark, hr, hn]

def magicB : List UInt8 := [101, 115, 99, 104, 101, 97, 116, 49]
def supH (b n m : Int) : List UInt8 := magicB ++ bytesI 2 b ++ bytesI 2 n ++ bytesI 8 m
def supB (b n m : Int) : List UInt8 := padB 256 (supH b n m ++ bytesI 4 (mixH (supH b n m) : Nat))
theorem supH_length {b n m : Int} : (supH b n m).length = 20 := by simp [supH, magicB]
theorem supB_length {b n m : Int} : (supB b n m).length = 256 := padB_length (by rw [List.length_append, supH_length, bytesI_length]; omega)

theorem layI_pad {l xs : List UInt8} {a : Nat} (h1 : l.length ≤ a) (h2 : a + xs.length ≤ 256) (h3 : a < 256) : layI (padB 256 l) a xs = padB 256 (l ++ zeros (a - l.length) ++ xs) := by
  unfold layI
  rw [if_pos (by omega)]
  simp only [Int.toNat_natCast]
  rw [List.take_of_length_le (by omega), padB_lay h1 h2]

theorem super_Put_eq {b n m : Int} {h : Heap} (hm0 : 0 ≤ m) (hm1 : m < 18446744073709551616) :
    S_super_Put [.a (layC b n m)] h = some (.t [.a (encB (bif mayL b n then supB b n m else zeros 256)), .c (.i .i64 (bif mayL b n then 0 else 1))], h) := by
  have key : ∀ g, ∃ g', R_super_Put 0 [.a (layC b n m)] g = some (.t [.a (encB (bif mayL b n then supB b n m else zeros 256)), .c (.i .i64 (bif mayL b n then 0 else 1))], g') := by
    intro g
    have hz : (encB (zeros 256)).length = 256 := by rw [encB_length]; exact zeros_length
    have haf : afill (List.replicate 256 (Cell.i .u8 0)) [] = some (List.replicate 256 (Cell.i .u8 0)) := rfl
    rw [zeros_enc] at haf
    rw [R_super_Put_eq, zeros_enc]
    cases c : mayL b n with
    | false =>
      simp only [cond_false]
      generalize zeros 256 = z at *
      exact ⟨_, by simp only [esc, esh, Nat.reduceAdd, Nat.reduceMul, Nat.reduceLT, super_Check_eq, c, haf, hz, Int.reduceEq] <;> rfl⟩
    | true =>
      simp only [cond_true]
      have e7 : afill [Cell.i .u8 0, .i .u8 0, .i .u8 0, .i .u8 0, .i .u8 0, .i .u8 0, .i .u8 0, .i .u8 0] [(0, 1, .c (.i .u8 101)), (1, 1, .c (.i .u8 115)), (2, 1, .c (.i .u8 99)), (3, 1, .c (.i .u8 104)), (4, 1, .c (.i .u8 101)), (5, 1, .c (.i .u8 97)), (6, 1, .c (.i .u8 116)), (7, 1, .c (.i .u8 49))] = some (encB magicB) := rfl
      have hmk := amark_of (h := g ++ [some ⟨layC b n m, true⟩, some ⟨encB (zeros 256), true⟩, some ⟨encB magicB, true⟩]) (id := g.length + 2) (off := 0) (len := 8) (sz := 1) (cs := encB magicB) (by simp) (by omega)
      have ho := num_Of_eq (h := g ++ [some ⟨layC b n m, true⟩, some ⟨encB (zeros 256), true⟩, some ⟨encB magicB, true⟩]) (v := .c (.sl (g.length + 2) 0 8 1)) (nv := 8) (data := magicB) (Has.tr (by simp) (by simp [encB_length, magicB]) (noX_encB _)) (by decide)
      rw [of_pad (by decide)] at ho
      have lm : magicB.length = 8 := rfl
      have w1 := fun h => num_With_eq (h := h) (l := padB 256 magicB) (padB_length (by decide)) (a := 8) (w := 2) (v := b)
      have e1 := withB_pad (l := magicB) (a := 8) (w := 2) (v := b) (by decide) (by omega) (by omega) (by omega)
      simp only [lm, Nat.sub_self, show zeros 0 = [] from rfl, List.append_nil, Int.cast_ofNat_Int] at e1
      simp only [e1] at w1
      have l1 : (magicB ++ bytesI 2 b).length = 10 := by simp [lm]
      have w2 := fun h => num_With_eq (h := h) (l := padB 256 (magicB ++ bytesI 2 b)) (padB_length (by omega)) (a := 10) (w := 2) (v := n)
      have e2 := withB_pad (l := magicB ++ bytesI 2 b) (a := 10) (w := 2) (v := n) (by omega) (by omega) (by omega) (by omega)
      simp only [l1, Nat.sub_self, show zeros 0 = [] from rfl, List.append_nil, Int.cast_ofNat_Int] at e2
      simp only [e2] at w2
      have l2 : (magicB ++ bytesI 2 b ++ bytesI 2 n).length = 12 := by simp [lm]
      have L0 : (encB (padB 256 magicB)).length = 256 := by rw [encB_length, padB_length (by decide)]
      have L1 : (encB (padB 256 (magicB ++ bytesI 2 b))).length = 256 := by rw [encB_length, padB_length (by omega)]
      have L2 : (encB (padB 256 (magicB ++ bytesI 2 b ++ bytesI 2 n))).length = 256 := by rw [encB_length, padB_length (by omega)]
      have L3 : (encB (padB 256 (supH b n m))).length = 256 := by rw [encB_length, padB_length (by rw [supH_length]; omega)]
      have L4 : (encB (supB b n m)).length = 256 := by rw [encB_length, supB_length]
      have mk8 : amkn (.c (.i .i64 8)) (.c (.i .i64 8)) = some 8 := rfl
      have hp := num_Put_eq (h := g ++ [some ⟨layC b n m, true⟩, some ⟨encB (zeros 256), true⟩, some ⟨encB magicB, true⟩, some ⟨encB (padB 256 (magicB ++ bytesI 2 b ++ bytesI 2 n)), true⟩, some ⟨encB (zeros 8), true⟩]) (x := .c (.sl (g.length + 4) 0 8 1)) (nv := 8) (l := zeros 8) (a := 0) (w := 8) (v := m) (Has.tr (by simp) (by simp [encB_length]) (noX_encB _)) (by simp)
      have ep : putN (zeros 8) 0 8 m = some (bytesI 8 m) := by
        unfold putN
        rw [if_pos ⟨by omega, by decide⟩]
        unfold layB
        simp [zeros]
      rw [ep] at hp
      simp only [Option.getD_some, Option.isSome_some, bytesI_length] at hp
      have hl := num_Lay_eq (h := g ++ [some ⟨layC b n m, true⟩, some ⟨encB (zeros 256), true⟩, some ⟨encB magicB, true⟩, some ⟨encB (padB 256 (magicB ++ bytesI 2 b ++ bytesI 2 n)), true⟩, some ⟨encB (zeros 8), true⟩, some ⟨encB (bytesI 8 m), true⟩]) (v := .c (.sl (g.length + 5) 0 8 1)) (nv := 8) (data := bytesI 8 m) (l := padB 256 (magicB ++ bytesI 2 b ++ bytesI 2 n)) (a := 12) (Has.tr (by simp) (by simp [encB_length]) (noX_encB _)) (padB_length (by omega)) (by simp)
      have e3 := layI_pad (l := magicB ++ bytesI 2 b ++ bytesI 2 n) (xs := bytesI 8 m) (a := 12) (by omega) (by simp) (by omega)
      simp only [l2, Nat.sub_self, show zeros 0 = [] from rfl, List.append_nil, Int.cast_ofNat_Int] at e3
      rw [e3] at hl
      have hc := fun h => num_Cut_eq (h := h) (l := padB 256 (supH b n m)) (padB_length (by rw [supH_length]; omega)) (a := 0) (n := 20)
      have e4 : cutB (padB 256 (supH b n m)) 0 20 = supH b n m := by
        unfold cutB padB
        rw [if_pos (by omega)]
        simp only [Int.toNat_zero, List.drop_zero]
        exact List.take_left' supH_length
      simp only [e4, supH_length] at hc
      have hstr := (Has.tr (h := g ++ [some ⟨layC b n m, true⟩, some ⟨encB (zeros 256), true⟩, some ⟨encB magicB, true⟩, some ⟨encB (padB 256 (supH b n m)), true⟩, some ⟨encB (zeros 8), true⟩, some ⟨encB (bytesI 8 m), true⟩, some ⟨encB (supH b n m), true⟩]) (id := g.length + 6) (sz := 1) (n := 20) (cs := encB (supH b n m)) (by simp) (by rw [encB_length, supH_length]) (noX_encB _)).str
      have hmx := fun h => mix_Of_eq (s := supH b n m) (h := h) (by rw [supH_length]; omega)
      have hmlt := mixH_lt (s := supH b n m)
      have e5 : IntKind.wrap .i64 ((mixH (supH b n m) : Nat) : Int) = (mixH (supH b n m) : Nat) := wrap_i64 (by omega) (by omega)
      have w3 := fun h => num_With_eq (h := h) (l := padB 256 (supH b n m)) (padB_length (by rw [supH_length]; omega)) (a := 20) (w := 4) (v := (mixH (supH b n m) : Nat))
      have e6 := withB_pad (l := supH b n m) (a := 20) (w := 4) (v := (mixH (supH b n m) : Nat)) (by rw [supH_length]; omega) (by omega) (by omega) (by omega)
      simp only [supH_length, Nat.sub_self, show zeros 0 = [] from rfl, List.append_nil, Int.cast_ofNat_Int] at e6
      simp only [e6] at w3
      have eS : magicB ++ bytesI 2 b ++ bytesI 2 n ++ bytesI 8 m = supH b n m := rfl
      rw [eS] at hl
      have rz := rows_zero 8
      change ∀ h, S_num_With [_, _, _, _] h = some (.a (encB (supB b n m)), h) at w3
      generalize supB b n m = SB at *
      generalize padB 256 magicB = P0 at *
      generalize padB 256 (magicB ++ bytesI 2 b) = P1 at *
      generalize padB 256 (magicB ++ bytesI 2 b ++ bytesI 2 n) = P2 at *
      generalize padB 256 (supH b n m) = P3 at *
      simp only [esc] at hp
      generalize zeros 256 = z at *
      generalize zeros 8 = z8 at *
      exact ⟨_, by simp only [esc, esh, Nat.reduceAdd, Nat.reduceMul, Nat.reduceLT, super_Check_eq, c, e7, hmk, ho, hz, L0, w1, L1, w2, L2, mk8, rz, hp, hl, L3, hc, hstr, hmx, e5, w3, L4] <;> rfl⟩
  obtain ⟨g', e⟩ := key (ro h)
  exact S_super_Put_flat e (by simp)

theorem at_field {b : List UInt8} {a w : Nat} (hb : b.length = 256) (h1 : a + w ≤ 256) (hw : 1 ≤ w) (hw4 : w ≤ 4) : ((atN b a w : Nat) : Int) = fieldN b a w := by
  unfold atN fieldN
  rw [if_pos ⟨by omega, thereI_true.2 (by omega)⟩]
  simp only [Int.toNat_natCast]

theorem getN_cut {b : List UInt8} (hb : b.length = 256) : getN (cutB b 12 8) 0 8 = some (le ((b.drop 12).take 8)) := by
  have hc : cutB b 12 8 = (b.drop 12).take 8 := by
    unfold cutB
    rw [if_pos (by omega)]; rfl
  have hl : ((b.drop 12).take 8).length = 8 := by simp; omega
  unfold getN
  rw [hc, hl, if_pos ⟨by omega, by decide⟩]
  simp only [Int.toNat_zero, List.drop_zero]
  rw [List.take_of_length_le (by rw [hl]; decide)]

def okS (b : List UInt8) : Bool := mayL (fieldN b 8 2) (fieldN b 10 2) && decide (supB (fieldN b 8 2) (fieldN b 10 2) (fieldN b 12 8) = b)
def layS (b : List UInt8) : List Cell := bif okS b then layC (fieldN b 8 2) (fieldN b 10 2) (fieldN b 12 8) else layC 0 0 0

theorem field8_range (b : List UInt8) : 0 ≤ fieldN b 12 8 ∧ fieldN b 12 8 < 18446744073709551616 := by
  unfold fieldN
  have h1 := le_lt ((b.drop 12).take 8)
  have h2 : ((b.drop 12).take 8).length ≤ 8 := by simp; omega
  have h3 := pow256_le h2
  have h4 : (256 : Nat) ^ 8 = 18446744073709551616 := by decide
  omega


end Go.Proofs.Ytdgggnlbdoiloaa
end
section
namespace Go.Proofs.Ytdgggnlbdoiloaa
open Go Go.Esc

theorem super_Get_eq {b : List UInt8} {h : Heap} (hb : b.length = 256) : S_super_Get [.a (encB b)] h = some (.t [.a (layS b), .c (.i .i64 (bif okS b then 0 else 13))], h) := by
  have key : ∀ g, ∃ g', R_super_Get 0 [.a (encB b)] g = some (.t [.a (layS b), .c (.i .i64 (bif okS b then 0 else 13))], g') := by
    intro g
    have hl : (encB b).length = 256 := by rw [encB_length, hb]
    have hc := num_Cut_eq (h := g ++ [some ⟨encB b, true⟩, some ⟨layC 0 0 0, true⟩]) hb (a := 12) (n := 8)
    have hcl : (cutB b 12 8).length = 8 := by unfold cutB; rw [if_pos (by omega)]; simp; omega
    rw [hcl] at hc
    have hg := num_Get_eq (h := g ++ [some ⟨encB b, true⟩, some ⟨layC 0 0 0, true⟩, some ⟨encB (cutB b 12 8), true⟩]) (v := .c (.sl (g.length + 2) 0 8 1)) (nv := 8) (l := cutB b 12 8) (Has.tr (by simp) (by rw [encB_length, hcl]) (noX_encB _)) (a := 0) (w := 8) (by rw [hcl]; omega)
    rw [getN_cut hb] at hg
    simp only [Option.getD_some, Option.isSome_some] at hg
    have a1 := fun h => num_At_eq (h := h) hb (a := 8) (w := 2)
    have a2 := fun h => num_At_eq (h := h) hb (a := 10) (w := 2)
    have f1 := at_field (a := 8) (w := 2) hb (by omega) (by omega) (by omega)
    have f2 := at_field (a := 10) (w := 2) hb (by omega) (by omega) (by omega)
    simp only [Int.cast_ofNat_Int] at f1 f2
    simp only [f1] at a1
    simp only [f2] at a2
    have e12 : ((le ((b.drop 12).take 8) : Nat) : Int) = fieldN b 12 8 := rfl
    rw [e12] at hg
    have ef : ∀ x y z : Int, afill (layC 0 0 0) [(0, 1, .c (.i .i64 x)), (1, 1, .c (.i .i64 y)), (2, 1, .c (.i .u64 z))] = some (layC x y z) := fun _ _ _ => rfl
    have ef0 : afill (layC 0 0 0) [] = some (layC 0 0 0) := rfl
    have hp := fun h => super_Put_eq (b := fieldN b 8 2) (n := fieldN b 10 2) (m := fieldN b 12 8) (h := h) (field8_range b).1 (field8_range b).2
    have hz : (List.replicate 256 (Cell.i .u8 0)).length = 256 := List.length_replicate
    have hS : (encB (supB (fieldN b 8 2) (fieldN b 10 2) (fieldN b 12 8))).length = 256 := by rw [encB_length, supB_length]
    have hZ : (encB (zeros 256)).length = 256 := by rw [encB_length]; exact zeros_length
    have hq := aeq_t (l := supB (fieldN b 8 2) (fieldN b 10 2) (fieldN b 12 8)) (m := b) (n := 256) supB_length hb
    simp only [esc] at hc
    rw [R_super_Get_eq]
    unfold layS okS
    generalize List.replicate 256 (Cell.i .u8 0) = z at *
    cases c : mayL (fieldN b 8 2) (fieldN b 10 2) with
    | false =>
      simp only [c, cond_false] at hp
      generalize zeros 256 = zz at *
      exact ⟨_, by simp only [esc, esh, Nat.reduceAdd, Nat.reduceMul, Nat.reduceLT, hl, hc, hg, a1, a2, ef, ef0, hp, hz, hZ, Bool.false_and, Int.reduceEq] <;> rfl⟩
    | true =>
      simp only [c, cond_true] at hp
      cases c2 : decide (supB (fieldN b 8 2) (fieldN b 10 2) (fieldN b 12 8) = b) with
      | false =>
        rw [c2] at hq
        exact ⟨_, by simp only [esc, esh, Nat.reduceAdd, Nat.reduceMul, Nat.reduceLT, hl, hc, hg, a1, a2, ef, ef0, hp, hz, hS, hq, Bool.and_false] <;> rfl⟩
      | true =>
        rw [c2] at hq
        exact ⟨_, by simp only [esc, esh, Nat.reduceAdd, Nat.reduceMul, Nat.reduceLT, hl, hc, hg, a1, a2, ef, ef0, hp, hz, hS, hq, Bool.and_true] <;> rfl⟩
  obtain ⟨g', e⟩ := key (ro h)
  refine S_super_Get_flat e ?_
  unfold layS
  cases okS b <;> simp


end Go.Proofs.Ytdgggnlbdoiloaa
end
noncomputable section
namespace Go.Proofs.Ytdgggnlbdoiloaa
open Go Go.Esc
set_option maxRecDepth 100000
def chart_where_o0 : List AOper := [aO 2 (.mv (.v (.c (.i .i64 0)))), aO 3 (.mv (.v (.c (.i .u8 0)))), aO 4 (.mv (.v (.c (.b false))))]
def chart_where_c0 : ACode := .ops chart_where_o0
def chart_where_o1 : List AOper := [aO 5 (.mv (.t 0)), aO 6 (.bin .lss (.t 5) (.v (.c (.i .i64 0)))), aO 7 (.mv (.t 6)), { dst := some 8, op := .mv (.t 0), guard := some (7, false) }, { dst := some 9, op := .bin .geq (.t 8) (.v (.c (.i .i64 2048))), guard := some (7, false) }, aO 10 (.pick (.t 7) (.v (.c (.b true))) (.t 9))]
def chart_where_c1 : ACode := .ops chart_where_o1
def chart_where_o2 : List AOper := [aO 2 (.mv (.v (.c (.i .i64 0)))), aO 3 (.mv (.v (.c (.i .u8 0)))), aO 4 (.mv (.v (.c (.b false))))]
def chart_where_c2 : ACode := .ops chart_where_o2
def chart_where_c3 : ACode := .seq [2, 3, 4] chart_where_c2 .ret
def chart_where_c4 : ACode := .cond (.t 10) chart_where_c3 .skip
def chart_where_c5 : ACode := .seq [0, 10] chart_where_c1 chart_where_c4
def chart_where_o3 : List AOper := [aO 11 (.mv (.t 0)), aO 12 (.bin .quo (.t 11) (.v (.c (.i .i64 8)))), aO 13 (.mv (.t 0)), aO 14 (.bin .rem (.t 13) (.v (.c (.i .i64 8)))), aO 15 (.conv .u64 (.t 14)), aO 16 (.bin .shl (.v (.c (.i .u8 1))) (.t 15)), aO 2 (.mv (.t 12)), aO 3 (.mv (.t 16)), aO 4 (.mv (.v (.c (.b true))))]
def chart_where_c6 : ACode := .ops chart_where_o3
def chart_where_c7 : ACode := .seq [2, 3, 4] chart_where_c6 .ret
def chart_where_c8 : ACode := .seq [0] chart_where_c5 chart_where_c7
def chart_where_c9 : ACode := .seq [0] chart_where_c0 chart_where_c8
def A_chart_where : AFn := ⟨chart_where_c9, [.tmp 2, .tmp 3, .tmp 4]⟩
def E_chart_where : Sums := disp0
def chart_where_c0_d (n : Nat) : SmV := smOps E_chart_where chart_where_o0
def chart_where_c1_d (n : Nat) : SmV := smOps E_chart_where chart_where_o1
def chart_where_c2_d (n : Nat) : SmV := smOps E_chart_where chart_where_o2
def chart_where_c3_d (n : Nat) : SmV := smSeq [2, 3, 4] (chart_where_c2_d n) smRet
def chart_where_c4_d (n : Nat) : SmV := smCond (.t 10) (chart_where_c3_d n) smSkip
def chart_where_c5_d (n : Nat) : SmV := smSeq [0, 10] (chart_where_c1_d n) (chart_where_c4_d n)
def chart_where_c6_d (n : Nat) : SmV := smOps E_chart_where chart_where_o3
def chart_where_c7_d (n : Nat) : SmV := smSeq [2, 3, 4] (chart_where_c6_d n) smRet
def chart_where_c8_d (n : Nat) : SmV := smSeq [0] (chart_where_c5_d n) (chart_where_c7_d n)
def chart_where_c9_d (n : Nat) : SmV := smSeq [0] (chart_where_c0_d n) (chart_where_c8_d n)
def R_chart_where (n : Nat) (args : List Val) (h : Heap) : OptV := (chart_where_c9_d n) A_chart_where.fin (params 0 args) h
theorem R_chart_where_eq (n : Nat) (a0 : Val) (h : Heap) : R_chart_where n [a0] h = bnd (abin .lss a0 (.c (.i .i64 0))) fun v1 => bnd (gd v1 false (some (a0, h)) (some (.no, h))) fun p2 => bnd (gd v1 false (bnd (abin .geq p2.1 (.c (.i .i64 2048))) fun v3 => some (v3, p2.2)) (some (.no, p2.2))) fun p4 => bnd (apick v1 (.c (.b true)) p4.1) fun v5 => cnd v5 (tupN [some (.c (.i .i64 0)), some (.c (.i .u8 0)), some (.c (.b false))] p4.2) (bnd (abin .quo a0 (.c (.i .i64 8))) fun v6 => bnd (abin .rem a0 (.c (.i .i64 8))) fun v7 => bnd (aconv .u64 v7) fun v8 => bnd (abin .shl (.c (.i .u8 1)) v8) fun v9 => tupN [some v6, some v9, some (.c (.b true))] p4.2) := by kernel_rfl
theorem K_chart_where : FnK Try.prog 113 A_chart_where E_chart_where R_chart_where := .mk' (sound0) Try.func113 (by kernel_rfl) (by intro n args h; kernel_rfl)
def S_chart_where : Fun := tidy (Lim A_chart_where E_chart_where)
theorem S_chart_where_ok : SOk Try.prog 113 S_chart_where := K_chart_where.sok
theorem S_chart_where_flat {n : Nat} {args : List Val} {h h2 : Heap} {v : Val} (he : R_chart_where n args (ro h) = some (v, h2)) (hf : v.flat = true) : S_chart_where args h = some (v, h) := K_chart_where.flat he hf
def chart_With_o0 : List AOper := [aO 3 (.box (.t 0)), aO 6 (.alloc (List.replicate 256 (.i .u8 0)))]
def chart_With_c0 : ACode := .ops chart_With_o0
def chart_With_o1 : List AOper := [aO 11 (.mv (.t 1)), aO 12 (.call 113 [(.t 11)]), aO 10 (.mv (.t 12)), aO 13 (.ext (.t 10) 0), aO 14 (.ext (.t 10) 1), aO 15 (.ext (.t 10) 2), aO 7 (.mv (.t 13)), aO 8 (.mv (.t 14)), aO 9 (.mv (.t 15))]
def chart_With_c1 : ACode := .ops chart_With_o1
def chart_With_o2 : List AOper := [aO 23 (.mv (.t 9)), aO 24 (.un .not (.t 23)), aO 22 (.mv (.t 24))]
def chart_With_c2 : ACode := .ops chart_With_o2
def chart_With_o3 : List AOper := [aO 26 (.mv (.t 2)), aO 25 (.mv (.t 26))]
def chart_With_c3 : ACode := .ops chart_With_o3
def chart_With_o4 : List AOper := [aO 27 (.mv (.t 7)), aO 28 (.iAddrA 256 1 (.t 3) (.t 27)), aO 29 (.load1 (.t 28)), aO 30 (.mv (.t 8)), aO 31 (.bin .or (.t 29) (.t 30)), aO 32 (.iAddrA 256 1 (.t 3) (.t 27)), { dst := none, op := .store1 (.t 32) (.t 31) }]
def chart_With_c4 : ACode := .ops chart_With_o4
def chart_With_o5 : List AOper := [aO 16 (.mv (.t 7)), aO 17 (.iAddrA 256 1 (.t 3) (.t 16)), aO 18 (.load1 (.t 17)), aO 19 (.mv (.t 8)), aO 20 (.bin .andNot (.t 18) (.t 19)), aO 21 (.iAddrA 256 1 (.t 3) (.t 16)), { dst := none, op := .store1 (.t 21) (.t 20) }]
def chart_With_c5 : ACode := .ops chart_With_o5
def chart_With_c6 : ACode := .cond (.t 25) chart_With_c4 chart_With_c5
def chart_With_c7 : ACode := .seq [3, 6, 7, 8, 25] chart_With_c3 chart_With_c6
def chart_With_c8 : ACode := .cond (.t 22) .skip chart_With_c7
def chart_With_c9 : ACode := .seq [2, 3, 6, 7, 8, 22] chart_With_c2 chart_With_c8
def chart_With_c10 : ACode := .block 0 chart_With_c9
def chart_With_o6 : List AOper := [aO 33 (.loadN 256 (.t 3)), { dst := none, op := .storeN 256 (.t 6) (.t 33) }]
def chart_With_c11 : ACode := .ops chart_With_o6
def chart_With_c12 : ACode := .seq [6] chart_With_c11 .ret
def chart_With_c13 : ACode := .seq [3, 6] chart_With_c10 chart_With_c12
def chart_With_c14 : ACode := .seq [2, 3, 6, 7, 8, 9] chart_With_c1 chart_With_c13
def chart_With_c15 : ACode := .seq [1, 2, 3, 6] chart_With_c0 chart_With_c14
def A_chart_With : AFn := ⟨chart_With_c15, [.cellN 6 256]⟩
def E_chart_With : Sums := disp 113 S_chart_where disp0
def chart_With_c0_d (n : Nat) : SmV := smOps E_chart_With chart_With_o0
def chart_With_c1_d (n : Nat) : SmV := smOps E_chart_With chart_With_o1
def chart_With_c2_d (n : Nat) : SmV := smOps E_chart_With chart_With_o2
def chart_With_c3_d (n : Nat) : SmV := smOps E_chart_With chart_With_o3
def chart_With_c4_d (n : Nat) : SmV := smOps E_chart_With chart_With_o4
def chart_With_c5_d (n : Nat) : SmV := smOps E_chart_With chart_With_o5
def chart_With_c6_d (n : Nat) : SmV := smCond (.t 25) (chart_With_c4_d n) (chart_With_c5_d n)
def chart_With_c7_d (n : Nat) : SmV := smSeq [3, 6, 7, 8, 25] (chart_With_c3_d n) (chart_With_c6_d n)
def chart_With_c8_d (n : Nat) : SmV := smCond (.t 22) smSkip (chart_With_c7_d n)
def chart_With_c9_d (n : Nat) : SmV := smSeq [2, 3, 6, 7, 8, 22] (chart_With_c2_d n) (chart_With_c8_d n)
def chart_With_c10_d (n : Nat) : SmV := smBlock 0 (chart_With_c9_d n)
def chart_With_c11_d (n : Nat) : SmV := smOps E_chart_With chart_With_o6
def chart_With_c12_d (n : Nat) : SmV := smSeq [6] (chart_With_c11_d n) smRet
def chart_With_c13_d (n : Nat) : SmV := smSeq [3, 6] (chart_With_c10_d n) (chart_With_c12_d n)
def chart_With_c14_d (n : Nat) : SmV := smSeq [2, 3, 6, 7, 8, 9] (chart_With_c1_d n) (chart_With_c13_d n)
def chart_With_c15_d (n : Nat) : SmV := smSeq [1, 2, 3, 6] (chart_With_c0_d n) (chart_With_c14_d n)
def chart_With_j0 (n : Nat) (x3 x6 : Val) (h : Heap) : OptV := hold ((chart_With_c12_d n) A_chart_With.fin [(3, x3), (6, x6)] h)
def R_chart_With (n : Nat) (args : List Val) (h : Heap) : OptV := (chart_With_c15_d n) A_chart_With.fin (params 0 args) h
theorem R_chart_With_eq (n : Nat) (a0 a1 a2 : Val) (h : Heap) : R_chart_With n [a0, a1, a2] h = bnd (cells? a0) fun c1 => bnd (S_chart_where [a1] (((h ++ [some (Row.mk (c1) true)]) ++ [some (Row.mk (List.replicate 256 (.i .u8 0)) true)]))) fun p2 => bnd (aext p2.1 0) fun v3 => bnd (aext p2.1 1) fun v4 => bnd (aext p2.1 2) fun v5 => bnd (aun .not v5) fun v6 => cnd v6 (chart_With_j0 n ((.c (.p h.length 0))) ((.c (.p ((h ++ [some (Row.mk (c1) true)])).length 0))) p2.2) (cnd a2 (bnd (aiAddrA 256 1 ((.c (.p h.length 0))) v3) fun v7 => bnd (aload1 p2.2 v7) fun v8 => bnd (abin .or v8 v4) fun v9 => bnd (aiAddrA 256 1 ((.c (.p h.length 0))) v3) fun v10 => bnd (astore1 p2.2 v10 v9) fun h11 => chart_With_j0 n ((.c (.p h.length 0))) ((.c (.p ((h ++ [some (Row.mk (c1) true)])).length 0))) h11) (bnd (aiAddrA 256 1 ((.c (.p h.length 0))) v3) fun v12 => bnd (aload1 p2.2 v12) fun v13 => bnd (abin .andNot v13 v4) fun v14 => bnd (aiAddrA 256 1 ((.c (.p h.length 0))) v3) fun v15 => bnd (astore1 p2.2 v15 v14) fun h16 => chart_With_j0 n ((.c (.p h.length 0))) ((.c (.p ((h ++ [some (Row.mk (c1) true)])).length 0))) h16)) := by kernel_rfl
theorem chart_With_j0_eq (n : Nat) (x3 x6 : Val) (h : Heap) : chart_With_j0 n x3 x6 h = bnd (aloadN h 256 x3) fun v17 => bnd (astoreN h 256 x6 v17) fun h18 => mp (aloadN h18 256 x6) fun v => (v, h18) := by kernel_rfl
theorem K_chart_With : FnK Try.prog 137 A_chart_With E_chart_With R_chart_With := .mk' (sound1 S_chart_where_ok sound0) Try.func137 (by kernel_rfl) (by intro n args h; kernel_rfl)
def S_chart_With : Fun := tidy (Lim A_chart_With E_chart_With)
theorem S_chart_With_ok : SOk Try.prog 137 S_chart_With := K_chart_With.sok
theorem S_chart_With_flat {n : Nat} {args : List Val} {h h2 : Heap} {v : Val} (he : R_chart_With n args (ro h) = some (v, h2)) (hf : v.flat = true) : S_chart_With args h = some (v, h) := K_chart_With.flat he hf
def chart_Make_o0 : List AOper := [aO 2 (.alloc (List.replicate 256 (.i .u8 0)))]
def chart_Make_c0 : ACode := .ops chart_Make_o0
def chart_Make_o1 : List AOper := [aO 3 (.alloc (List.replicate 256 (.i .u8 0)))]
def chart_Make_c1 : ACode := .ops chart_Make_o1
def chart_Make_o2 : List AOper := [aO 6 (.mv (.t 0)), aO 7 (.len (.t 6)), aO 8 (.mv (.v (.c (.i .i64 0))))]
def chart_Make_c2 : ACode := .ops chart_Make_o2
def chart_Make_o3 : List AOper := [aO 9 (.bin .lss (.t 8) (.t 7))]
def chart_Make_c3 : ACode := .ops chart_Make_o3
def chart_Make_c4 : ACode := .cond (.t 9) .skip (.exit 0)
def chart_Make_o4 : List AOper := [aO 10 (.iAddrL 1 (.t 6) (.t 8)), aO 11 (.load1 (.t 10)), aO 5 (.mv (.t 11))]
def chart_Make_c5 : ACode := .ops chart_Make_o4
def chart_Make_o5 : List AOper := [aO 12 (.loadN 256 (.t 3)), aO 13 (.mv (.t 5)), aO 14 (.call 137 [(.t 12), (.t 13), (.v (.c (.b true)))]), { dst := none, op := .storeN 256 (.t 3) (.t 14) }]
def chart_Make_c6 : ACode := .ops chart_Make_o5
def chart_Make_c7 : ACode := .seq [2, 3, 5, 6, 7, 8] chart_Make_c5 chart_Make_c6
def chart_Make_c8 : ACode := .block 1 chart_Make_c7
def chart_Make_o6 : List AOper := [aO 15 (.bin .add (.t 8) (.v (.c (.i .i64 1)))), aO 8 (.mv (.t 15))]
def chart_Make_c9 : ACode := .ops chart_Make_o6
def chart_Make_c10 : ACode := .seq [2, 3, 6, 7, 8] chart_Make_c8 chart_Make_c9
def chart_Make_c11 : ACode := .seq [2, 3, 6, 7, 8] chart_Make_c4 chart_Make_c10
def chart_Make_c12 : ACode := .seq [2, 3, 6, 7, 8, 9] chart_Make_c3 chart_Make_c11
def chart_Make_c13 : ACode := .loop [2, 3, 6, 7, 8] chart_Make_c12
def chart_Make_c14 : ACode := .block 0 chart_Make_c13
def chart_Make_c15 : ACode := .seq [2, 3, 6, 7, 8] chart_Make_c2 chart_Make_c14
def chart_Make_o7 : List AOper := [aO 16 (.loadN 256 (.t 3)), { dst := none, op := .storeN 256 (.t 2) (.t 16) }]
def chart_Make_c16 : ACode := .ops chart_Make_o7
def chart_Make_c17 : ACode := .seq [2] chart_Make_c16 .ret
def chart_Make_c18 : ACode := .seq [2, 3] chart_Make_c15 chart_Make_c17
def chart_Make_c19 : ACode := .seq [0, 2, 3] chart_Make_c1 chart_Make_c18
def chart_Make_c20 : ACode := .seq [0, 2] chart_Make_c0 chart_Make_c19
def A_chart_Make : AFn := ⟨chart_Make_c20, [.cellN 2 256]⟩
def E_chart_Make : Sums := disp 137 S_chart_With disp0
def chart_Make_c0_d (n : Nat) : SmV := smOps E_chart_Make chart_Make_o0
def chart_Make_c1_d (n : Nat) : SmV := smOps E_chart_Make chart_Make_o1
def chart_Make_c2_d (n : Nat) : SmV := smOps E_chart_Make chart_Make_o2
def chart_Make_c3_d (n : Nat) : SmV := smOps E_chart_Make chart_Make_o3
def chart_Make_c4_d (n : Nat) : SmV := smCond (.t 9) smSkip (smExit 0)
def chart_Make_c5_d (n : Nat) : SmV := smOps E_chart_Make chart_Make_o4
def chart_Make_c6_d (n : Nat) : SmV := smOps E_chart_Make chart_Make_o5
def chart_Make_c7_d (n : Nat) : SmV := smSeq [2, 3, 5, 6, 7, 8] (chart_Make_c5_d n) (chart_Make_c6_d n)
def chart_Make_c8_d (n : Nat) : SmV := smBlock 1 (chart_Make_c7_d n)
def chart_Make_c9_d (n : Nat) : SmV := smOps E_chart_Make chart_Make_o6
def chart_Make_c10_d (n : Nat) : SmV := smSeq [2, 3, 6, 7, 8] (chart_Make_c8_d n) (chart_Make_c9_d n)
def chart_Make_c11_d (n : Nat) : SmV := smSeq [2, 3, 6, 7, 8] (chart_Make_c4_d n) (chart_Make_c10_d n)
def chart_Make_c12_d (n : Nat) : SmV := smSeq [2, 3, 6, 7, 8, 9] (chart_Make_c3_d n) (chart_Make_c11_d n)
def chart_Make_c13_d (n : Nat) : SmV := smLoop n [2, 3, 6, 7, 8] (chart_Make_c12_d n)
def chart_Make_c14_d (n : Nat) : SmV := smBlock 0 (chart_Make_c13_d n)
def chart_Make_c15_d (n : Nat) : SmV := smSeq [2, 3, 6, 7, 8] (chart_Make_c2_d n) (chart_Make_c14_d n)
def chart_Make_c16_d (n : Nat) : SmV := smOps E_chart_Make chart_Make_o7
def chart_Make_c17_d (n : Nat) : SmV := smSeq [2] (chart_Make_c16_d n) smRet
def chart_Make_c18_d (n : Nat) : SmV := smSeq [2, 3] (chart_Make_c15_d n) (chart_Make_c17_d n)
def chart_Make_c19_d (n : Nat) : SmV := smSeq [0, 2, 3] (chart_Make_c1_d n) (chart_Make_c18_d n)
def chart_Make_c20_d (n : Nat) : SmV := smSeq [0, 2] (chart_Make_c0_d n) (chart_Make_c19_d n)
def chart_Make_k0 (n : Nat) : AExit → Env → Heap → OptV := fun x e h => match x with | .normal => hold ((chart_Make_c17_d n) A_chart_Make.fin (e.keep [2, 3]) h) | .exit id => A_chart_Make.fin (.exit id) e h | .ret => A_chart_Make.fin .ret e h
def chart_Make_k1 (n : Nat) : AExit → Env → Heap → OptV := fun x e h => match x with | .exit i => bif Nat.beq i 0 then (chart_Make_k0 n) .normal e h else (chart_Make_k0 n) (.exit i) e h | .normal => (chart_Make_k0 n) .normal e h | .ret => (chart_Make_k0 n) .ret e h
def chart_Make_l0 (n m : Nat) (x2 x3 x6 x7 x8 : Val) (h : Heap) : OptV := around (chart_Make_c12_d n) [2, 3, 6, 7, 8] (chart_Make_k1 n) m [(2, x2), (3, x3), (6, x6), (7, x7), (8, x8)] h
def R_chart_Make (n : Nat) (args : List Val) (h : Heap) : OptV := (chart_Make_c20_d n) A_chart_Make.fin (params 0 args) h
theorem R_chart_Make_eq (n : Nat) (a0 : Val) (h : Heap) : R_chart_Make n [a0] h = bnd (alen a0) fun v1 => chart_Make_l0 n n ((.c (.p h.length 0))) ((.c (.p ((h ++ [some (Row.mk (List.replicate 256 (.i .u8 0)) true)])).length 0))) a0 v1 (.c (.i .i64 0)) (((h ++ [some (Row.mk (List.replicate 256 (.i .u8 0)) true)]) ++ [some (Row.mk (List.replicate 256 (.i .u8 0)) true)])) := by kernel_rfl
theorem chart_Make_l0_eq (n m : Nat) (x2 x3 x6 x7 x8 : Val) (h : Heap) : chart_Make_l0 n (m + 1) x2 x3 x6 x7 x8 h = bnd (abin .lss x8 x7) fun v2 => cnd v2 (bnd (aiAddrL 1 x6 x8) fun v3 => bnd (aload1 h v3) fun v4 => bnd (aloadN h 256 x3) fun v5 => bnd (S_chart_With [v5, v4, .c (.b true)] h) fun p6 => bnd (astoreN p6.2 256 x3 p6.1) fun h7 => bnd (abin .add x8 (.c (.i .i64 1))) fun v8 => chart_Make_l0 n m x2 x3 x6 x7 v8 h7) (bnd (aloadN h 256 x3) fun v9 => bnd (astoreN h 256 x2 v9) fun h10 => mp (aloadN h10 256 x2) fun v => (v, h10)) := by kernel_rfl
theorem K_chart_Make : FnK Try.prog 109 A_chart_Make E_chart_Make R_chart_Make := .mk' (sound1 S_chart_With_ok sound0) Try.func109 (by kernel_rfl) (by intro n args h; kernel_rfl)
def S_chart_Make : Fun := tidy (Lim A_chart_Make E_chart_Make)
theorem S_chart_Make_ok : SOk Try.prog 109 S_chart_Make := K_chart_Make.sok
theorem S_chart_Make_flat {n : Nat} {args : List Val} {h h2 : Heap} {v : Val} (he : R_chart_Make n args (ro h) = some (v, h2)) (hf : v.flat = true) : S_chart_Make args h = some (v, h) := K_chart_Make.flat he hf
def chart_Has_o0 : List AOper := [aO 2 (.box (.t 0)), aO 4 (.mv (.v (.c (.b false))))]
def chart_Has_c0 : ACode := .ops chart_Has_o0
def chart_Has_o1 : List AOper := [aO 9 (.mv (.t 1)), aO 10 (.call 113 [(.t 9)]), aO 8 (.mv (.t 10)), aO 11 (.ext (.t 8) 0), aO 12 (.ext (.t 8) 1), aO 13 (.ext (.t 8) 2), aO 5 (.mv (.t 11)), aO 6 (.mv (.t 12)), aO 7 (.mv (.t 13))]
def chart_Has_c1 : ACode := .ops chart_Has_o1
def chart_Has_o2 : List AOper := [aO 14 (.mv (.t 7)), aO 15 (.mv (.t 14)), { dst := some 16, op := .mv (.t 5), guard := some (15, true) }, { dst := some 17, op := .iAddrA 256 1 (.t 2) (.t 16), guard := some (15, true) }, { dst := some 18, op := .load1 (.t 17), guard := some (15, true) }, { dst := some 19, op := .mv (.t 6), guard := some (15, true) }, { dst := some 20, op := .bin .and (.t 18) (.t 19), guard := some (15, true) }, { dst := some 21, op := .bin .neq (.t 20) (.v (.c (.i .u8 0))), guard := some (15, true) }, aO 22 (.pick (.t 15) (.t 21) (.v (.c (.b false)))), aO 4 (.mv (.t 22))]
def chart_Has_c2 : ACode := .ops chart_Has_o2
def chart_Has_c3 : ACode := .seq [4] chart_Has_c2 .ret
def chart_Has_c4 : ACode := .seq [2, 5, 6, 7] chart_Has_c1 chart_Has_c3
def chart_Has_c5 : ACode := .seq [1, 2] chart_Has_c0 chart_Has_c4
def A_chart_Has : AFn := ⟨chart_Has_c5, [.tmp 4]⟩
def E_chart_Has : Sums := disp 113 S_chart_where disp0
def chart_Has_c0_d (n : Nat) : SmV := smOps E_chart_Has chart_Has_o0
def chart_Has_c1_d (n : Nat) : SmV := smOps E_chart_Has chart_Has_o1
def chart_Has_c2_d (n : Nat) : SmV := smOps E_chart_Has chart_Has_o2
def chart_Has_c3_d (n : Nat) : SmV := smSeq [4] (chart_Has_c2_d n) smRet
def chart_Has_c4_d (n : Nat) : SmV := smSeq [2, 5, 6, 7] (chart_Has_c1_d n) (chart_Has_c3_d n)
def chart_Has_c5_d (n : Nat) : SmV := smSeq [1, 2] (chart_Has_c0_d n) (chart_Has_c4_d n)
def R_chart_Has (n : Nat) (args : List Val) (h : Heap) : OptV := (chart_Has_c5_d n) A_chart_Has.fin (params 0 args) h
theorem R_chart_Has_eq (n : Nat) (a0 a1 : Val) (h : Heap) : R_chart_Has n [a0, a1] h = bnd (cells? a0) fun c1 => bnd (S_chart_where [a1] ((h ++ [some (Row.mk (c1) true)]))) fun p2 => bnd (aext p2.1 0) fun v3 => bnd (aext p2.1 1) fun v4 => bnd (aext p2.1 2) fun v5 => bnd (gd v5 true (some (v3, p2.2)) (some (.no, p2.2))) fun p6 => bnd (gd v5 true (bnd (aiAddrA 256 1 ((.c (.p h.length 0))) p6.1) fun v7 => some (v7, p6.2)) (some (.no, p6.2))) fun p8 => bnd (gd v5 true (bnd (aload1 p8.2 p8.1) fun v9 => some (v9, p8.2)) (some (.no, p8.2))) fun p10 => bnd (gd v5 true (some (v4, p10.2)) (some (.no, p10.2))) fun p11 => bnd (gd v5 true (bnd (abin .and p10.1 p11.1) fun v12 => some (v12, p11.2)) (some (.no, p11.2))) fun p13 => bnd (gd v5 true (bnd (abin .neq p13.1 (.c (.i .u8 0))) fun v14 => some (v14, p13.2)) (some (.no, p13.2))) fun p15 => bnd (apick v5 p15.1 (.c (.b false))) fun v16 => some (v16, p15.2) := by kernel_rfl
theorem K_chart_Has : FnK Try.prog 71 A_chart_Has E_chart_Has R_chart_Has := .mk' (sound1 S_chart_where_ok sound0) Try.func71 (by kernel_rfl) (by intro n args h; kernel_rfl)
def S_chart_Has : Fun := tidy (Lim A_chart_Has E_chart_Has)
theorem S_chart_Has_ok : SOk Try.prog 71 S_chart_Has := K_chart_Has.sok
theorem S_chart_Has_flat {n : Nat} {args : List Val} {h h2 : Heap} {v : Val} (he : R_chart_Has n args (ro h) = some (v, h2)) (hf : v.flat = true) : S_chart_Has args h = some (v, h) := K_chart_Has.flat he hf
end Go.Proofs.Ytdgggnlbdoiloaa
end
noncomputable section
namespace Go.Proofs.Ytdgggnlbdoiloaa
open Go Go.Esc
set_option maxRecDepth 100000
def inode_Get_o0 : List AOper := [aO 1 (.box (.t 0)), aO 2 (.alloc ([.i .i64 0, .i .i64 0, .i .i64 0, .i .i64 0, .i .i64 0, .i .i64 0, .i .i64 0, .i .i64 0, .i .i64 0, .i .i64 0, .i .i64 0]))]
def inode_Get_c0 : ACode := .ops inode_Get_o0
def inode_Get_o1 : List AOper := [aO 6 (.slA 32 1 (.t 1) none none), aO 7 (.call 95 [(.t 6)]), aO 3 (.alloc (List.replicate 256 (.i .u8 0))), { dst := none, op := .storeN 256 (.t 3) (.t 7) }]
def inode_Get_c1 : ACode := .ops inode_Get_o1
def inode_Get_o2 : List AOper := [aO 8 (.loadN 256 (.t 3)), aO 9 (.call 101 [(.t 8), (.v (.c (.i .i64 0))), (.v (.c (.i .i64 1)))]), aO 10 (.loadN 256 (.t 3)), aO 11 (.call 101 [(.t 10), (.v (.c (.i .i64 2))), (.v (.c (.i .i64 2)))]), aO 12 (.loadN 256 (.t 3)), aO 13 (.call 101 [(.t 12), (.v (.c (.i .i64 4))), (.v (.c (.i .i64 4)))]), aO 14 (.loadN 256 (.t 3)), aO 15 (.call 101 [(.t 14), (.v (.c (.i .i64 8))), (.v (.c (.i .i64 2)))]), aO 16 (.build ([.i .i64 0, .i .i64 0, .i .i64 0, .i .i64 0, .i .i64 0, .i .i64 0, .i .i64 0, .i .i64 0, .i .i64 0, .i .i64 0, .i .i64 0]) [(0, 1, (.t 9)), (1, 1, (.t 11)), (2, 1, (.t 13)), (3, 1, (.t 15))]), { dst := some 4, op := .alloc ([.i .i64 0, .i .i64 0, .i .i64 0, .i .i64 0, .i .i64 0, .i .i64 0, .i .i64 0, .i .i64 0, .i .i64 0, .i .i64 0, .i .i64 0]), slot := some 0 }]
def inode_Get_o3 : List AOper := [{ dst := none, op := .storeN 11 (.t 4) (.t 16) }]
def inode_Get_c2 : ACode := .draw 1 inode_Get_o2 inode_Get_o3
def inode_Get_o4 : List AOper := [aO 17 (.mv (.v (.c (.i .i64 0))))]
def inode_Get_c3 : ACode := .ops inode_Get_o4
def inode_Get_o5 : List AOper := [aO 18 (.bin .lss (.t 17) (.v (.c (.i .i64 6))))]
def inode_Get_c4 : ACode := .ops inode_Get_o5
def inode_Get_c5 : ACode := .cond (.t 18) .skip (.exit 0)
def inode_Get_o6 : List AOper := [aO 19 (.mv (.t 17)), aO 5 (.mv (.t 19))]
def inode_Get_c6 : ACode := .ops inode_Get_o6
def inode_Get_o7 : List AOper := [aO 20 (.mv (.t 5)), aO 21 (.loadN 256 (.t 3)), aO 22 (.mv (.t 5)), aO 23 (.bin .mul (.v (.c (.i .i64 2))) (.t 22)), aO 24 (.bin .add (.v (.c (.i .i64 10))) (.t 23)), aO 25 (.call 101 [(.t 21), (.t 24), (.v (.c (.i .i64 2)))]), aO 26 (.fAddr (.t 4) 4), aO 27 (.iAddrA 6 1 (.t 26) (.t 20)), { dst := none, op := .store1 (.t 27) (.t 25) }]
def inode_Get_c7 : ACode := .ops inode_Get_o7
def inode_Get_c8 : ACode := .seq [2, 3, 4, 5, 17] inode_Get_c6 inode_Get_c7
def inode_Get_c9 : ACode := .block 1 inode_Get_c8
def inode_Get_o8 : List AOper := [aO 28 (.bin .add (.t 17) (.v (.c (.i .i64 1)))), aO 17 (.mv (.t 28))]
def inode_Get_c10 : ACode := .ops inode_Get_o8
def inode_Get_c11 : ACode := .seq [2, 3, 4, 17] inode_Get_c9 inode_Get_c10
def inode_Get_c12 : ACode := .seq [2, 3, 4, 17] inode_Get_c5 inode_Get_c11
def inode_Get_c13 : ACode := .seq [2, 3, 4, 17, 18] inode_Get_c4 inode_Get_c12
def inode_Get_c14 : ACode := .loop [2, 3, 4, 17] inode_Get_c13
def inode_Get_c15 : ACode := .block 0 inode_Get_c14
def inode_Get_c16 : ACode := .seq [2, 3, 4, 17] inode_Get_c3 inode_Get_c15
def inode_Get_o9 : List AOper := [aO 29 (.loadN 256 (.t 3)), aO 30 (.call 101 [(.t 29), (.v (.c (.i .i64 22))), (.v (.c (.i .i64 2)))]), aO 31 (.fAddr (.t 4) 10), { dst := none, op := .store1 (.t 31) (.t 30) }]
def inode_Get_c17 : ACode := .ops inode_Get_o9
def inode_Get_o10 : List AOper := [aO 32 (.loadN 11 (.t 4)), { dst := none, op := .storeN 11 (.t 2) (.t 32) }]
def inode_Get_c18 : ACode := .ops inode_Get_o10
def inode_Get_c19 : ACode := .seq [2] inode_Get_c18 .ret
def inode_Get_c20 : ACode := .seq [2, 4] inode_Get_c17 inode_Get_c19
def inode_Get_c21 : ACode := .seq [2, 3, 4] inode_Get_c16 inode_Get_c20
def inode_Get_c22 : ACode := .seq [2, 3, 4] inode_Get_c2 inode_Get_c21
def inode_Get_c23 : ACode := .seq [2, 3] inode_Get_c1 inode_Get_c22
def inode_Get_c24 : ACode := .seq [1, 2] inode_Get_c0 inode_Get_c23
def A_inode_Get : AFn := ⟨inode_Get_c24, [.cellN 2 11]⟩
def E_inode_Get : Sums := disp 95 S_num_Of (disp 101 S_num_At disp0)
def inode_Get_c0_d (n : Nat) : SmV := smOps E_inode_Get inode_Get_o0
def inode_Get_c1_d (n : Nat) : SmV := smOps E_inode_Get inode_Get_o1
def inode_Get_c2_d (n : Nat) : SmV := smDraw E_inode_Get 1 inode_Get_o2 inode_Get_o3
def inode_Get_c3_d (n : Nat) : SmV := smOps E_inode_Get inode_Get_o4
def inode_Get_c4_d (n : Nat) : SmV := smOps E_inode_Get inode_Get_o5
def inode_Get_c5_d (n : Nat) : SmV := smCond (.t 18) smSkip (smExit 0)
def inode_Get_c6_d (n : Nat) : SmV := smOps E_inode_Get inode_Get_o6
def inode_Get_c7_d (n : Nat) : SmV := smOps E_inode_Get inode_Get_o7
def inode_Get_c8_d (n : Nat) : SmV := smSeq [2, 3, 4, 5, 17] (inode_Get_c6_d n) (inode_Get_c7_d n)
def inode_Get_c9_d (n : Nat) : SmV := smBlock 1 (inode_Get_c8_d n)
def inode_Get_c10_d (n : Nat) : SmV := smOps E_inode_Get inode_Get_o8
def inode_Get_c11_d (n : Nat) : SmV := smSeq [2, 3, 4, 17] (inode_Get_c9_d n) (inode_Get_c10_d n)
def inode_Get_c12_d (n : Nat) : SmV := smSeq [2, 3, 4, 17] (inode_Get_c5_d n) (inode_Get_c11_d n)
def inode_Get_c13_d (n : Nat) : SmV := smSeq [2, 3, 4, 17, 18] (inode_Get_c4_d n) (inode_Get_c12_d n)
def inode_Get_c14_d (n : Nat) : SmV := smLoop n [2, 3, 4, 17] (inode_Get_c13_d n)
def inode_Get_c15_d (n : Nat) : SmV := smBlock 0 (inode_Get_c14_d n)
def inode_Get_c16_d (n : Nat) : SmV := smSeq [2, 3, 4, 17] (inode_Get_c3_d n) (inode_Get_c15_d n)
def inode_Get_c17_d (n : Nat) : SmV := smOps E_inode_Get inode_Get_o9
def inode_Get_c18_d (n : Nat) : SmV := smOps E_inode_Get inode_Get_o10
def inode_Get_c19_d (n : Nat) : SmV := smSeq [2] (inode_Get_c18_d n) smRet
def inode_Get_c20_d (n : Nat) : SmV := smSeq [2, 4] (inode_Get_c17_d n) (inode_Get_c19_d n)
def inode_Get_c21_d (n : Nat) : SmV := smSeq [2, 3, 4] (inode_Get_c16_d n) (inode_Get_c20_d n)
def inode_Get_c22_d (n : Nat) : SmV := smSeq [2, 3, 4] (inode_Get_c2_d n) (inode_Get_c21_d n)
def inode_Get_c23_d (n : Nat) : SmV := smSeq [2, 3] (inode_Get_c1_d n) (inode_Get_c22_d n)
def inode_Get_c24_d (n : Nat) : SmV := smSeq [1, 2] (inode_Get_c0_d n) (inode_Get_c23_d n)
def inode_Get_k0 (n : Nat) : AExit → Env → Heap → OptV := fun x e h => match x with | .normal => hold ((inode_Get_c20_d n) A_inode_Get.fin (e.keep [2, 3, 4]) h) | .exit id => A_inode_Get.fin (.exit id) e h | .ret => A_inode_Get.fin .ret e h
def inode_Get_k1 (n : Nat) : AExit → Env → Heap → OptV := fun x e h => match x with | .exit i => bif Nat.beq i 0 then (inode_Get_k0 n) .normal e h else (inode_Get_k0 n) (.exit i) e h | .normal => (inode_Get_k0 n) .normal e h | .ret => (inode_Get_k0 n) .ret e h
def inode_Get_l0 (n m : Nat) (x2 x3 x4 x17 : Val) (h : Heap) : OptV := around (inode_Get_c13_d n) [2, 3, 4, 17] (inode_Get_k1 n) m [(2, x2), (3, x3), (4, x4), (17, x17)] h
def R_inode_Get (n : Nat) (args : List Val) (h : Heap) : OptV := (inode_Get_c24_d n) A_inode_Get.fin (params 0 args) h
theorem R_inode_Get_eq (n : Nat) (a0 : Val) (h : Heap) : R_inode_Get n [a0] h = bnd (cells? a0) fun c1 => bnd (aslA (((h ++ [some (Row.mk (c1) true)]) ++ [some (Row.mk ([.i .i64 0, .i .i64 0, .i .i64 0, .i .i64 0, .i .i64 0, .i .i64 0, .i .i64 0, .i .i64 0, .i .i64 0, .i .i64 0, .i .i64 0]) true)])) 32 1 ((.c (.p h.length 0))) none none) fun v2 => bnd (S_num_Of [v2] (((h ++ [some (Row.mk (c1) true)]) ++ [some (Row.mk ([.i .i64 0, .i .i64 0, .i .i64 0, .i .i64 0, .i .i64 0, .i .i64 0, .i .i64 0, .i .i64 0, .i .i64 0, .i .i64 0, .i .i64 0]) true)]))) fun p3 => bnd (astoreN ((p3.2 ++ [some (Row.mk (List.replicate 256 (.i .u8 0)) true)])) 256 ((.c (.p p3.2.length 0))) p3.1) fun h4 => bnd (aloadN h4 256 ((.c (.p p3.2.length 0)))) fun v5 => bnd (quiet ((h4 ++ [none])) (S_num_At [v5, .c (.i .i64 0), .c (.i .i64 1)] ((h4 ++ [none])))) fun p6 => bnd (aloadN h4 256 ((.c (.p p3.2.length 0)))) fun v7 => bnd (quiet p6.2 (S_num_At [v7, .c (.i .i64 2), .c (.i .i64 2)] p6.2)) fun p8 => bnd (aloadN h4 256 ((.c (.p p3.2.length 0)))) fun v9 => bnd (quiet p8.2 (S_num_At [v9, .c (.i .i64 4), .c (.i .i64 4)] p8.2)) fun p10 => bnd (aloadN h4 256 ((.c (.p p3.2.length 0)))) fun v11 => bnd (quiet p10.2 (S_num_At [v11, .c (.i .i64 8), .c (.i .i64 2)] p10.2)) fun p12 => bnd (afill ([.i .i64 0, .i .i64 0, .i .i64 0, .i .i64 0, .i .i64 0, .i .i64 0, .i .i64 0, .i .i64 0, .i .i64 0, .i .i64 0, .i .i64 0]) [(0, 1, p6.1), (1, 1, p8.1), (2, 1, p10.1), (3, 1, p12.1)]) fun c13 => bnd (astoreN ((p12.2.set (h4.length + 0) (some (Row.mk ([.i .i64 0, .i .i64 0, .i .i64 0, .i .i64 0, .i .i64 0, .i .i64 0, .i .i64 0, .i .i64 0, .i .i64 0, .i .i64 0, .i .i64 0]) true)))) 11 ((.c (.p (h4.length + 0) 0))) ((.a c13))) fun h14 => inode_Get_l0 n n ((.c (.p ((h ++ [some (Row.mk (c1) true)])).length 0))) ((.c (.p p3.2.length 0))) ((.c (.p (h4.length + 0) 0))) (.c (.i .i64 0)) h14 := by kernel_rfl
theorem inode_Get_l0_eq (n m : Nat) (x2 x3 x4 x17 : Val) (h : Heap) : inode_Get_l0 n (m + 1) x2 x3 x4 x17 h = bnd (abin .lss x17 (.c (.i .i64 6))) fun v15 => cnd v15 (bnd (aloadN h 256 x3) fun v16 => bnd (abin .mul (.c (.i .i64 2)) x17) fun v17 => bnd (abin .add (.c (.i .i64 10)) v17) fun v18 => bnd (S_num_At [v16, v18, .c (.i .i64 2)] h) fun p19 => bnd (afAddr x4 4) fun v20 => bnd (aiAddrA 6 1 v20 x17) fun v21 => bnd (astore1 p19.2 v21 p19.1) fun h22 => bnd (abin .add x17 (.c (.i .i64 1))) fun v23 => inode_Get_l0 n m x2 x3 x4 v23 h22) (bnd (aloadN h 256 x3) fun v24 => bnd (S_num_At [v24, .c (.i .i64 22), .c (.i .i64 2)] h) fun p25 => bnd (afAddr x4 10) fun v26 => bnd (astore1 p25.2 v26 p25.1) fun h27 => bnd (aloadN h27 11 x4) fun v28 => bnd (astoreN h27 11 x2 v28) fun h29 => mp (aloadN h29 11 x2) fun v => (v, h29)) := by kernel_rfl
theorem K_inode_Get : FnK Try.prog 133 A_inode_Get E_inode_Get R_inode_Get := .mk' (sound1 S_num_Of_ok (sound1 S_num_At_ok sound0)) Try.func133 (by kernel_rfl) (by intro n args h; kernel_rfl)
def S_inode_Get : Fun := tidy (Lim A_inode_Get E_inode_Get)
theorem S_inode_Get_ok : SOk Try.prog 133 S_inode_Get := K_inode_Get.sok
theorem S_inode_Get_flat {n : Nat} {args : List Val} {h h2 : Heap} {v : Val} (he : R_inode_Get n args (ro h) = some (v, h2)) (hf : v.flat = true) : S_inode_Get args h = some (v, h) := K_inode_Get.flat he hf
def inode_small_o0 : List AOper := [aO 2 (.mv (.v (.c (.b false))))]
def inode_small_c0 : ACode := .ops inode_small_o0
def inode_small_o1 : List AOper := [aO 3 (.mv (.t 0)), aO 4 (.bin .geq (.t 3) (.v (.c (.i .i64 0)))), aO 5 (.mv (.t 4)), { dst := some 6, op := .mv (.t 0), guard := some (5, true) }, { dst := some 7, op := .bin .leq (.t 6) (.v (.c (.i .i64 65535))), guard := some (5, true) }, aO 8 (.pick (.t 5) (.t 7) (.v (.c (.b false)))), aO 2 (.mv (.t 8))]
def inode_small_c1 : ACode := .ops inode_small_o1
def inode_small_c2 : ACode := .seq [2] inode_small_c1 .ret
def inode_small_c3 : ACode := .seq [0] inode_small_c0 inode_small_c2
def A_inode_small : AFn := ⟨inode_small_c3, [.tmp 2]⟩
def E_inode_small : Sums := disp0
def inode_small_c0_d (n : Nat) : SmV := smOps E_inode_small inode_small_o0
def inode_small_c1_d (n : Nat) : SmV := smOps E_inode_small inode_small_o1
def inode_small_c2_d (n : Nat) : SmV := smSeq [2] (inode_small_c1_d n) smRet
def inode_small_c3_d (n : Nat) : SmV := smSeq [0] (inode_small_c0_d n) (inode_small_c2_d n)
def R_inode_small (n : Nat) (args : List Val) (h : Heap) : OptV := (inode_small_c3_d n) A_inode_small.fin (params 0 args) h
theorem R_inode_small_eq (n : Nat) (a0 : Val) (h : Heap) : R_inode_small n [a0] h = bnd (abin .geq a0 (.c (.i .i64 0))) fun v1 => bnd (gd v1 true (some (a0, h)) (some (.no, h))) fun p2 => bnd (gd v1 true (bnd (abin .leq p2.1 (.c (.i .i64 65535))) fun v3 => some (v3, p2.2)) (some (.no, p2.2))) fun p4 => bnd (apick v1 p4.1 (.c (.b false))) fun v5 => some (v5, p4.2) := by kernel_rfl
theorem K_inode_small : FnK Try.prog 163 A_inode_small E_inode_small R_inode_small := .mk' (sound0) Try.func163 (by kernel_rfl) (by intro n args h; kernel_rfl)
def S_inode_small : Fun := tidy (Lim A_inode_small E_inode_small)
theorem S_inode_small_ok : SOk Try.prog 163 S_inode_small := K_inode_small.sok
theorem S_inode_small_flat {n : Nat} {args : List Val} {h h2 : Heap} {v : Val} (he : R_inode_small n args (ro h) = some (v, h2)) (hf : v.flat = true) : S_inode_small args h = some (v, h) := K_inode_small.flat he hf
def inode_Numbers_o0 : List AOper := [aO 1 (.box (.t 0)), aO 2 (.alloc ([.i .i64 0, .i .i64 0, .i .i64 0, .i .i64 0, .i .i64 0, .i .i64 0, .i .i64 0]))]
def inode_Numbers_c0 : ACode := .ops inode_Numbers_o0
def inode_Numbers_o1 : List AOper := [aO 3 (.alloc ([.i .i64 0, .i .i64 0, .i .i64 0, .i .i64 0, .i .i64 0, .i .i64 0, .i .i64 0]))]
def inode_Numbers_c1 : ACode := .ops inode_Numbers_o1
def inode_Numbers_o2 : List AOper := [aO 6 (.fAddr (.t 1) 4), aO 7 (.loadN 6 (.t 6)), aO 8 (.mv (.v (.c (.i .i64 0))))]
def inode_Numbers_c2 : ACode := .ops inode_Numbers_o2
def inode_Numbers_o3 : List AOper := [aO 9 (.bin .lss (.t 8) (.v (.c (.i .i64 6))))]
def inode_Numbers_c3 : ACode := .ops inode_Numbers_o3
def inode_Numbers_c4 : ACode := .cond (.t 9) .skip (.exit 0)
def inode_Numbers_o4 : List AOper := [aO 10 (.mv (.t 8)), aO 11 (.idxA1 6 (.t 7) (.t 8)), aO 4 (.mv (.t 10)), aO 5 (.mv (.t 11))]
def inode_Numbers_c5 : ACode := .ops inode_Numbers_o4
def inode_Numbers_o5 : List AOper := [aO 12 (.mv (.t 4)), aO 13 (.mv (.t 5)), aO 14 (.iAddrA 7 1 (.t 3) (.t 12)), { dst := none, op := .store1 (.t 14) (.t 13) }]
def inode_Numbers_c6 : ACode := .ops inode_Numbers_o5
def inode_Numbers_c7 : ACode := .seq [1, 2, 3, 4, 5, 7, 8] inode_Numbers_c5 inode_Numbers_c6
def inode_Numbers_c8 : ACode := .block 1 inode_Numbers_c7
def inode_Numbers_o6 : List AOper := [aO 15 (.bin .add (.t 8) (.v (.c (.i .i64 1)))), aO 8 (.mv (.t 15))]
def inode_Numbers_c9 : ACode := .ops inode_Numbers_o6
def inode_Numbers_c10 : ACode := .seq [1, 2, 3, 7, 8] inode_Numbers_c8 inode_Numbers_c9
def inode_Numbers_c11 : ACode := .seq [1, 2, 3, 7, 8] inode_Numbers_c4 inode_Numbers_c10
def inode_Numbers_c12 : ACode := .seq [1, 2, 3, 7, 8, 9] inode_Numbers_c3 inode_Numbers_c11
def inode_Numbers_c13 : ACode := .loop [1, 2, 3, 7, 8] inode_Numbers_c12
def inode_Numbers_c14 : ACode := .block 0 inode_Numbers_c13
def inode_Numbers_c15 : ACode := .seq [1, 2, 3, 7, 8] inode_Numbers_c2 inode_Numbers_c14
def inode_Numbers_o7 : List AOper := [aO 16 (.fAddr (.t 1) 10), aO 17 (.load1 (.t 16)), aO 18 (.iAddrA 7 1 (.t 3) (.v (.c (.i .i64 6)))), { dst := none, op := .store1 (.t 18) (.t 17) }]
def inode_Numbers_c16 : ACode := .ops inode_Numbers_o7
def inode_Numbers_o8 : List AOper := [aO 19 (.loadN 7 (.t 3)), { dst := none, op := .storeN 7 (.t 2) (.t 19) }]
def inode_Numbers_c17 : ACode := .ops inode_Numbers_o8
def inode_Numbers_c18 : ACode := .seq [2] inode_Numbers_c17 .ret
def inode_Numbers_c19 : ACode := .seq [2, 3] inode_Numbers_c16 inode_Numbers_c18
def inode_Numbers_c20 : ACode := .seq [1, 2, 3] inode_Numbers_c15 inode_Numbers_c19
def inode_Numbers_c21 : ACode := .seq [1, 2, 3] inode_Numbers_c1 inode_Numbers_c20
def inode_Numbers_c22 : ACode := .seq [1, 2] inode_Numbers_c0 inode_Numbers_c21
def A_inode_Numbers : AFn := ⟨inode_Numbers_c22, [.cellN 2 7]⟩
def E_inode_Numbers : Sums := disp0
def inode_Numbers_c0_d (n : Nat) : SmV := smOps E_inode_Numbers inode_Numbers_o0
def inode_Numbers_c1_d (n : Nat) : SmV := smOps E_inode_Numbers inode_Numbers_o1
def inode_Numbers_c2_d (n : Nat) : SmV := smOps E_inode_Numbers inode_Numbers_o2
def inode_Numbers_c3_d (n : Nat) : SmV := smOps E_inode_Numbers inode_Numbers_o3
def inode_Numbers_c4_d (n : Nat) : SmV := smCond (.t 9) smSkip (smExit 0)
def inode_Numbers_c5_d (n : Nat) : SmV := smOps E_inode_Numbers inode_Numbers_o4
def inode_Numbers_c6_d (n : Nat) : SmV := smOps E_inode_Numbers inode_Numbers_o5
def inode_Numbers_c7_d (n : Nat) : SmV := smSeq [1, 2, 3, 4, 5, 7, 8] (inode_Numbers_c5_d n) (inode_Numbers_c6_d n)
def inode_Numbers_c8_d (n : Nat) : SmV := smBlock 1 (inode_Numbers_c7_d n)
def inode_Numbers_c9_d (n : Nat) : SmV := smOps E_inode_Numbers inode_Numbers_o6
def inode_Numbers_c10_d (n : Nat) : SmV := smSeq [1, 2, 3, 7, 8] (inode_Numbers_c8_d n) (inode_Numbers_c9_d n)
def inode_Numbers_c11_d (n : Nat) : SmV := smSeq [1, 2, 3, 7, 8] (inode_Numbers_c4_d n) (inode_Numbers_c10_d n)
def inode_Numbers_c12_d (n : Nat) : SmV := smSeq [1, 2, 3, 7, 8, 9] (inode_Numbers_c3_d n) (inode_Numbers_c11_d n)
def inode_Numbers_c13_d (n : Nat) : SmV := smLoop n [1, 2, 3, 7, 8] (inode_Numbers_c12_d n)
def inode_Numbers_c14_d (n : Nat) : SmV := smBlock 0 (inode_Numbers_c13_d n)
def inode_Numbers_c15_d (n : Nat) : SmV := smSeq [1, 2, 3, 7, 8] (inode_Numbers_c2_d n) (inode_Numbers_c14_d n)
def inode_Numbers_c16_d (n : Nat) : SmV := smOps E_inode_Numbers inode_Numbers_o7
def inode_Numbers_c17_d (n : Nat) : SmV := smOps E_inode_Numbers inode_Numbers_o8
def inode_Numbers_c18_d (n : Nat) : SmV := smSeq [2] (inode_Numbers_c17_d n) smRet
def inode_Numbers_c19_d (n : Nat) : SmV := smSeq [2, 3] (inode_Numbers_c16_d n) (inode_Numbers_c18_d n)
def inode_Numbers_c20_d (n : Nat) : SmV := smSeq [1, 2, 3] (inode_Numbers_c15_d n) (inode_Numbers_c19_d n)
def inode_Numbers_c21_d (n : Nat) : SmV := smSeq [1, 2, 3] (inode_Numbers_c1_d n) (inode_Numbers_c20_d n)
def inode_Numbers_c22_d (n : Nat) : SmV := smSeq [1, 2] (inode_Numbers_c0_d n) (inode_Numbers_c21_d n)
def inode_Numbers_k0 (n : Nat) : AExit → Env → Heap → OptV := fun x e h => match x with | .normal => hold ((inode_Numbers_c19_d n) A_inode_Numbers.fin (e.keep [1, 2, 3]) h) | .exit id => A_inode_Numbers.fin (.exit id) e h | .ret => A_inode_Numbers.fin .ret e h
def inode_Numbers_k1 (n : Nat) : AExit → Env → Heap → OptV := fun x e h => match x with | .exit i => bif Nat.beq i 0 then (inode_Numbers_k0 n) .normal e h else (inode_Numbers_k0 n) (.exit i) e h | .normal => (inode_Numbers_k0 n) .normal e h | .ret => (inode_Numbers_k0 n) .ret e h
def inode_Numbers_l0 (n m : Nat) (x1 x2 x3 x7 x8 : Val) (h : Heap) : OptV := around (inode_Numbers_c12_d n) [1, 2, 3, 7, 8] (inode_Numbers_k1 n) m [(1, x1), (2, x2), (3, x3), (7, x7), (8, x8)] h
def R_inode_Numbers (n : Nat) (args : List Val) (h : Heap) : OptV := (inode_Numbers_c22_d n) A_inode_Numbers.fin (params 0 args) h
theorem R_inode_Numbers_eq (n : Nat) (a0 : Val) (h : Heap) : R_inode_Numbers n [a0] h = bnd (cells? a0) fun c1 => bnd (afAddr ((.c (.p h.length 0))) 4) fun v2 => bnd (aloadN ((((h ++ [some (Row.mk (c1) true)]) ++ [some (Row.mk ([.i .i64 0, .i .i64 0, .i .i64 0, .i .i64 0, .i .i64 0, .i .i64 0, .i .i64 0]) true)]) ++ [some (Row.mk ([.i .i64 0, .i .i64 0, .i .i64 0, .i .i64 0, .i .i64 0, .i .i64 0, .i .i64 0]) true)])) 6 v2) fun v3 => inode_Numbers_l0 n n ((.c (.p h.length 0))) ((.c (.p ((h ++ [some (Row.mk (c1) true)])).length 0))) ((.c (.p (((h ++ [some (Row.mk (c1) true)]) ++ [some (Row.mk ([.i .i64 0, .i .i64 0, .i .i64 0, .i .i64 0, .i .i64 0, .i .i64 0, .i .i64 0]) true)])).length 0))) v3 (.c (.i .i64 0)) ((((h ++ [some (Row.mk (c1) true)]) ++ [some (Row.mk ([.i .i64 0, .i .i64 0, .i .i64 0, .i .i64 0, .i .i64 0, .i .i64 0, .i .i64 0]) true)]) ++ [some (Row.mk ([.i .i64 0, .i .i64 0, .i .i64 0, .i .i64 0, .i .i64 0, .i .i64 0, .i .i64 0]) true)])) := by kernel_rfl
theorem inode_Numbers_l0_eq (n m : Nat) (x1 x2 x3 x7 x8 : Val) (h : Heap) : inode_Numbers_l0 n (m + 1) x1 x2 x3 x7 x8 h = bnd (abin .lss x8 (.c (.i .i64 6))) fun v4 => cnd v4 (bnd (aidxA1 6 x7 x8) fun v5 => bnd (aiAddrA 7 1 x3 x8) fun v6 => bnd (astore1 h v6 v5) fun h7 => bnd (abin .add x8 (.c (.i .i64 1))) fun v8 => inode_Numbers_l0 n m x1 x2 x3 x7 v8 h7) (bnd (afAddr x1 10) fun v9 => bnd (aload1 h v9) fun v10 => bnd (aiAddrA 7 1 x3 (.c (.i .i64 6))) fun v11 => bnd (astore1 h v11 v10) fun h12 => bnd (aloadN h12 7 x3) fun v13 => bnd (astoreN h12 7 x2 v13) fun h14 => mp (aloadN h14 7 x2) fun v => (v, h14)) := by kernel_rfl
theorem K_inode_Numbers : FnK Try.prog 156 A_inode_Numbers E_inode_Numbers R_inode_Numbers := .mk' (sound0) Try.func156 (by kernel_rfl) (by intro n args h; kernel_rfl)
def S_inode_Numbers : Fun := tidy (Lim A_inode_Numbers E_inode_Numbers)
theorem S_inode_Numbers_ok : SOk Try.prog 156 S_inode_Numbers := K_inode_Numbers.sok
theorem S_inode_Numbers_flat {n : Nat} {args : List Val} {h h2 : Heap} {v : Val} (he : R_inode_Numbers n args (ro h) = some (v, h2)) (hf : v.flat = true) : S_inode_Numbers args h = some (v, h) := K_inode_Numbers.flat he hf
def inode_Check_o0 : List AOper := [aO 1 (.box (.t 0)), aO 2 (.mv (.v (.c (.i .i64 0))))]
def inode_Check_c0 : ACode := .ops inode_Check_o0
def inode_Check_o1 : List AOper := [aO 5 (.fAddr (.t 1) 0), aO 6 (.load1 (.t 5)), aO 7 (.bin .lss (.t 6) (.v (.c (.i .i64 0)))), aO 8 (.mv (.t 7)), { dst := some 9, op := .fAddr (.t 1) 0, guard := some (8, false) }, { dst := some 10, op := .load1 (.t 9), guard := some (8, false) }, { dst := some 11, op := .bin .gtr (.t 10) (.v (.c (.i .i64 2))), guard := some (8, false) }, aO 12 (.pick (.t 8) (.v (.c (.b true))) (.t 11)), aO 13 (.mv (.t 12)), { dst := some 14, op := .fAddr (.t 1) 0, guard := some (13, false) }, { dst := some 15, op := .load1 (.t 14), guard := some (13, false) }, { dst := some 16, op := .bin .eql (.t 15) (.v (.c (.i .i64 0))), guard := some (13, false) }, { dst := some 17, op := .mv (.t 16), guard := some (13, false) }, { dst := some 18, op := .loadN 11 (.t 1), guard := some (17, true) }, { dst := some 19, op := .build ([.i .i64 0, .i .i64 0, .i .i64 0, .i .i64 0, .i .i64 0, .i .i64 0, .i .i64 0, .i .i64 0, .i .i64 0, .i .i64 0, .i .i64 0]) [], guard := some (17, true) }, { dst := some 20, op := .eqA true ([.i .i64, .i .i64, .i .i64, .i .i64, .i .i64, .i .i64, .i .i64, .i .i64, .i .i64, .i .i64, .i .i64]) (.t 18) (.t 19), guard := some (17, true) }, { dst := some 21, op := .pick (.t 17) (.t 20) (.v (.c (.b false))), guard := some (13, false) }, aO 22 (.pick (.t 13) (.v (.c (.b true))) (.t 21))]
def inode_Check_c1 : ACode := .ops inode_Check_o1
def inode_Check_o2 : List AOper := [aO 2 (.mv (.v (.c (.i .i64 1))))]
def inode_Check_c2 : ACode := .ops inode_Check_o2
def inode_Check_c3 : ACode := .seq [2] inode_Check_c2 .ret
def inode_Check_c4 : ACode := .cond (.t 22) inode_Check_c3 .skip
def inode_Check_c5 : ACode := .seq [1, 22] inode_Check_c1 inode_Check_c4
def inode_Check_o3 : List AOper := [aO 23 (.fAddr (.t 1) 1), aO 24 (.load1 (.t 23)), aO 25 (.call 163 [(.t 24)]), aO 26 (.un .not (.t 25)), aO 27 (.mv (.t 26)), { dst := some 28, op := .fAddr (.t 1) 3, guard := some (27, false) }, { dst := some 29, op := .load1 (.t 28), guard := some (27, false) }, { dst := some 30, op := .call 163 [(.t 29)], guard := some (27, false) }, { dst := some 31, op := .un .not (.t 30), guard := some (27, false) }, aO 32 (.pick (.t 27) (.v (.c (.b true))) (.t 31)), aO 33 (.mv (.t 32)), { dst := some 34, op := .fAddr (.t 1) 2, guard := some (33, false) }, { dst := some 35, op := .load1 (.t 34), guard := some (33, false) }, { dst := some 36, op := .bin .lss (.t 35) (.v (.c (.i .i64 0))), guard := some (33, false) }, aO 37 (.pick (.t 33) (.v (.c (.b true))) (.t 36)), aO 38 (.mv (.t 37)), { dst := some 39, op := .fAddr (.t 1) 2, guard := some (38, false) }, { dst := some 40, op := .load1 (.t 39), guard := some (38, false) }, { dst := some 41, op := .bin .gtr (.t 40) (.v (.c (.i .i64 34304))), guard := some (38, false) }, aO 42 (.pick (.t 38) (.v (.c (.b true))) (.t 41))]
def inode_Check_c6 : ACode := .ops inode_Check_o3
def inode_Check_o4 : List AOper := [aO 2 (.mv (.v (.c (.i .i64 1))))]
def inode_Check_c7 : ACode := .ops inode_Check_o4
def inode_Check_c8 : ACode := .seq [2] inode_Check_c7 .ret
def inode_Check_c9 : ACode := .cond (.t 42) inode_Check_c8 .skip
def inode_Check_c10 : ACode := .seq [1, 42] inode_Check_c6 inode_Check_c9
def inode_Check_o5 : List AOper := [aO 43 (.loadN 11 (.t 1)), aO 44 (.call 156 [(.t 43)]), aO 45 (.mv (.v (.c (.i .i64 0))))]
def inode_Check_c11 : ACode := .ops inode_Check_o5
def inode_Check_o6 : List AOper := [aO 46 (.bin .lss (.t 45) (.v (.c (.i .i64 7))))]
def inode_Check_c12 : ACode := .ops inode_Check_o6
def inode_Check_c13 : ACode := .cond (.t 46) .skip (.exit 0)
def inode_Check_o7 : List AOper := [aO 47 (.idxA1 7 (.t 44) (.t 45)), aO 4 (.mv (.t 47))]
def inode_Check_c14 : ACode := .ops inode_Check_o7
def inode_Check_o8 : List AOper := [aO 48 (.mv (.t 4)), aO 49 (.call 163 [(.t 48)]), aO 50 (.un .not (.t 49))]
def inode_Check_c15 : ACode := .ops inode_Check_o8
def inode_Check_o9 : List AOper := [aO 2 (.mv (.v (.c (.i .i64 1))))]
def inode_Check_c16 : ACode := .ops inode_Check_o9
def inode_Check_c17 : ACode := .seq [2] inode_Check_c16 .ret
def inode_Check_c18 : ACode := .cond (.t 50) inode_Check_c17 .skip
def inode_Check_c19 : ACode := .seq [44, 45, 50] inode_Check_c15 inode_Check_c18
def inode_Check_c20 : ACode := .seq [4, 44, 45] inode_Check_c14 inode_Check_c19
def inode_Check_c21 : ACode := .block 1 inode_Check_c20
def inode_Check_o10 : List AOper := [aO 51 (.bin .add (.t 45) (.v (.c (.i .i64 1)))), aO 45 (.mv (.t 51))]
def inode_Check_c22 : ACode := .ops inode_Check_o10
def inode_Check_c23 : ACode := .seq [44, 45] inode_Check_c21 inode_Check_c22
def inode_Check_c24 : ACode := .seq [44, 45] inode_Check_c13 inode_Check_c23
def inode_Check_c25 : ACode := .seq [44, 45, 46] inode_Check_c12 inode_Check_c24
def inode_Check_c26 : ACode := .loop [44, 45] inode_Check_c25
def inode_Check_c27 : ACode := .block 0 inode_Check_c26
def inode_Check_c28 : ACode := .seq [44, 45] inode_Check_c11 inode_Check_c27
def inode_Check_o11 : List AOper := [aO 2 (.mv (.v (.c (.i .i64 0))))]
def inode_Check_c29 : ACode := .ops inode_Check_o11
def inode_Check_c30 : ACode := .seq [2] inode_Check_c29 .ret
def inode_Check_c31 : ACode := .seq [] inode_Check_c28 inode_Check_c30
def inode_Check_c32 : ACode := .seq [1] inode_Check_c10 inode_Check_c31
def inode_Check_c33 : ACode := .seq [1] inode_Check_c5 inode_Check_c32
def inode_Check_c34 : ACode := .seq [1] inode_Check_c0 inode_Check_c33
def A_inode_Check : AFn := ⟨inode_Check_c34, [.tmp 2]⟩
def E_inode_Check : Sums := disp 163 S_inode_small (disp 156 S_inode_Numbers disp0)
def inode_Check_c0_d (n : Nat) : SmV := smOps E_inode_Check inode_Check_o0
def inode_Check_c1_d (n : Nat) : SmV := smOps E_inode_Check inode_Check_o1
def inode_Check_c2_d (n : Nat) : SmV := smOps E_inode_Check inode_Check_o2
def inode_Check_c3_d (n : Nat) : SmV := smSeq [2] (inode_Check_c2_d n) smRet
def inode_Check_c4_d (n : Nat) : SmV := smCond (.t 22) (inode_Check_c3_d n) smSkip
def inode_Check_c5_d (n : Nat) : SmV := smSeq [1, 22] (inode_Check_c1_d n) (inode_Check_c4_d n)
def inode_Check_c6_d (n : Nat) : SmV := smOps E_inode_Check inode_Check_o3
def inode_Check_c7_d (n : Nat) : SmV := smOps E_inode_Check inode_Check_o4
def inode_Check_c8_d (n : Nat) : SmV := smSeq [2] (inode_Check_c7_d n) smRet
def inode_Check_c9_d (n : Nat) : SmV := smCond (.t 42) (inode_Check_c8_d n) smSkip
def inode_Check_c10_d (n : Nat) : SmV := smSeq [1, 42] (inode_Check_c6_d n) (inode_Check_c9_d n)
def inode_Check_c11_d (n : Nat) : SmV := smOps E_inode_Check inode_Check_o5
def inode_Check_c12_d (n : Nat) : SmV := smOps E_inode_Check inode_Check_o6
def inode_Check_c13_d (n : Nat) : SmV := smCond (.t 46) smSkip (smExit 0)
def inode_Check_c14_d (n : Nat) : SmV := smOps E_inode_Check inode_Check_o7
def inode_Check_c15_d (n : Nat) : SmV := smOps E_inode_Check inode_Check_o8
def inode_Check_c16_d (n : Nat) : SmV := smOps E_inode_Check inode_Check_o9
def inode_Check_c17_d (n : Nat) : SmV := smSeq [2] (inode_Check_c16_d n) smRet
def inode_Check_c18_d (n : Nat) : SmV := smCond (.t 50) (inode_Check_c17_d n) smSkip
def inode_Check_c19_d (n : Nat) : SmV := smSeq [44, 45, 50] (inode_Check_c15_d n) (inode_Check_c18_d n)
def inode_Check_c20_d (n : Nat) : SmV := smSeq [4, 44, 45] (inode_Check_c14_d n) (inode_Check_c19_d n)
def inode_Check_c21_d (n : Nat) : SmV := smBlock 1 (inode_Check_c20_d n)
def inode_Check_c22_d (n : Nat) : SmV := smOps E_inode_Check inode_Check_o10
def inode_Check_c23_d (n : Nat) : SmV := smSeq [44, 45] (inode_Check_c21_d n) (inode_Check_c22_d n)
def inode_Check_c24_d (n : Nat) : SmV := smSeq [44, 45] (inode_Check_c13_d n) (inode_Check_c23_d n)
def inode_Check_c25_d (n : Nat) : SmV := smSeq [44, 45, 46] (inode_Check_c12_d n) (inode_Check_c24_d n)
def inode_Check_c26_d (n : Nat) : SmV := smLoop n [44, 45] (inode_Check_c25_d n)
def inode_Check_c27_d (n : Nat) : SmV := smBlock 0 (inode_Check_c26_d n)
def inode_Check_c28_d (n : Nat) : SmV := smSeq [44, 45] (inode_Check_c11_d n) (inode_Check_c27_d n)
def inode_Check_c29_d (n : Nat) : SmV := smOps E_inode_Check inode_Check_o11
def inode_Check_c30_d (n : Nat) : SmV := smSeq [2] (inode_Check_c29_d n) smRet
def inode_Check_c31_d (n : Nat) : SmV := smSeq [] (inode_Check_c28_d n) (inode_Check_c30_d n)
def inode_Check_c32_d (n : Nat) : SmV := smSeq [1] (inode_Check_c10_d n) (inode_Check_c31_d n)
def inode_Check_c33_d (n : Nat) : SmV := smSeq [1] (inode_Check_c5_d n) (inode_Check_c32_d n)
def inode_Check_c34_d (n : Nat) : SmV := smSeq [1] (inode_Check_c0_d n) (inode_Check_c33_d n)
def inode_Check_k0 (n : Nat) : AExit → Env → Heap → OptV := fun x e h => match x with | .normal => hold ((inode_Check_c30_d n) A_inode_Check.fin (e.keep []) h) | .exit id => A_inode_Check.fin (.exit id) e h | .ret => A_inode_Check.fin .ret e h
def inode_Check_k1 (n : Nat) : AExit → Env → Heap → OptV := fun x e h => match x with | .exit i => bif Nat.beq i 0 then (inode_Check_k0 n) .normal e h else (inode_Check_k0 n) (.exit i) e h | .normal => (inode_Check_k0 n) .normal e h | .ret => (inode_Check_k0 n) .ret e h
def inode_Check_l0 (n m : Nat) (x44 x45 : Val) (h : Heap) : OptV := around (inode_Check_c25_d n) [44, 45] (inode_Check_k1 n) m [(44, x44), (45, x45)] h
def R_inode_Check (n : Nat) (args : List Val) (h : Heap) : OptV := (inode_Check_c34_d n) A_inode_Check.fin (params 0 args) h
theorem R_inode_Check_eq (n : Nat) (a0 : Val) (h : Heap) : R_inode_Check n [a0] h = bnd (cells? a0) fun c1 => bnd (afAddr ((.c (.p h.length 0))) 0) fun v2 => bnd (aload1 ((h ++ [some (Row.mk (c1) true)])) v2) fun v3 => bnd (abin .lss v3 (.c (.i .i64 0))) fun v4 => bnd (gd v4 false (bnd (afAddr ((.c (.p h.length 0))) 0) fun v5 => some (v5, (h ++ [some (Row.mk (c1) true)]))) (some (.no, (h ++ [some (Row.mk (c1) true)])))) fun p6 => bnd (gd v4 false (bnd (aload1 p6.2 p6.1) fun v7 => some (v7, p6.2)) (some (.no, p6.2))) fun p8 => bnd (gd v4 false (bnd (abin .gtr p8.1 (.c (.i .i64 2))) fun v9 => some (v9, p8.2)) (some (.no, p8.2))) fun p10 => bnd (apick v4 (.c (.b true)) p10.1) fun v11 => bnd (gd v11 false (bnd (afAddr ((.c (.p h.length 0))) 0) fun v12 => some (v12, p10.2)) (some (.no, p10.2))) fun p13 => bnd (gd v11 false (bnd (aload1 p13.2 p13.1) fun v14 => some (v14, p13.2)) (some (.no, p13.2))) fun p15 => bnd (gd v11 false (bnd (abin .eql p15.1 (.c (.i .i64 0))) fun v16 => some (v16, p15.2)) (some (.no, p15.2))) fun p17 => bnd (gd v11 false (some (p17.1, p17.2)) (some (.no, p17.2))) fun p18 => bnd (gd p18.1 true (bnd (aloadN p18.2 11 ((.c (.p h.length 0)))) fun v19 => some (v19, p18.2)) (some (.no, p18.2))) fun p20 => bnd (gd p18.1 true (bnd (afill ([.i .i64 0, .i .i64 0, .i .i64 0, .i .i64 0, .i .i64 0, .i .i64 0, .i .i64 0, .i .i64 0, .i .i64 0, .i .i64 0, .i .i64 0]) []) fun c21 => some ((.a c21), p20.2)) (some (.no, p20.2))) fun p22 => bnd (gd p18.1 true (bnd (aeq true ([.i .i64, .i .i64, .i .i64, .i .i64, .i .i64, .i .i64, .i .i64, .i .i64, .i .i64, .i .i64, .i .i64]) p20.1 p22.1) fun v23 => some (v23, p22.2)) (some (.no, p22.2))) fun p24 => bnd (gd v11 false (bnd (apick p18.1 p24.1 (.c (.b false))) fun v25 => some (v25, p24.2)) (some (.no, p24.2))) fun p26 => bnd (apick v11 (.c (.b true)) p26.1) fun v27 => cnd v27 (some ((.c (.i .i64 1)), p26.2)) (bnd (afAddr ((.c (.p h.length 0))) 1) fun v28 => bnd (aload1 p26.2 v28) fun v29 => bnd (S_inode_small [v29] p26.2) fun p30 => bnd (aun .not p30.1) fun v31 => bnd (gd v31 false (bnd (afAddr ((.c (.p h.length 0))) 3) fun v32 => some (v32, p30.2)) (some (.no, p30.2))) fun p33 => bnd (gd v31 false (bnd (aload1 p33.2 p33.1) fun v34 => some (v34, p33.2)) (some (.no, p33.2))) fun p35 => bnd (gd v31 false (bnd (S_inode_small [p35.1] p35.2) fun p36 => some (p36.1, p36.2)) (some (.no, p35.2))) fun p37 => bnd (gd v31 false (bnd (aun .not p37.1) fun v38 => some (v38, p37.2)) (some (.no, p37.2))) fun p39 => bnd (apick v31 (.c (.b true)) p39.1) fun v40 => bnd (gd v40 false (bnd (afAddr ((.c (.p h.length 0))) 2) fun v41 => some (v41, p39.2)) (some (.no, p39.2))) fun p42 => bnd (gd v40 false (bnd (aload1 p42.2 p42.1) fun v43 => some (v43, p42.2)) (some (.no, p42.2))) fun p44 => bnd (gd v40 false (bnd (abin .lss p44.1 (.c (.i .i64 0))) fun v45 => some (v45, p44.2)) (some (.no, p44.2))) fun p46 => bnd (apick v40 (.c (.b true)) p46.1) fun v47 => bnd (gd v47 false (bnd (afAddr ((.c (.p h.length 0))) 2) fun v48 => some (v48, p46.2)) (some (.no, p46.2))) fun p49 => bnd (gd v47 false (bnd (aload1 p49.2 p49.1) fun v50 => some (v50, p49.2)) (some (.no, p49.2))) fun p51 => bnd (gd v47 false (bnd (abin .gtr p51.1 (.c (.i .i64 34304))) fun v52 => some (v52, p51.2)) (some (.no, p51.2))) fun p53 => bnd (apick v47 (.c (.b true)) p53.1) fun v54 => cnd v54 (some ((.c (.i .i64 1)), p53.2)) (bnd (aloadN p53.2 11 ((.c (.p h.length 0)))) fun v55 => bnd (S_inode_Numbers [v55] p53.2) fun p56 => inode_Check_l0 n n p56.1 (.c (.i .i64 0)) p56.2)) := by kernel_rfl
theorem inode_Check_l0_eq (n m : Nat) (x44 x45 : Val) (h : Heap) : inode_Check_l0 n (m + 1) x44 x45 h = bnd (abin .lss x45 (.c (.i .i64 7))) fun v57 => cnd v57 (bnd (aidxA1 7 x44 x45) fun v58 => bnd (S_inode_small [v58] h) fun p59 => bnd (aun .not p59.1) fun v60 => cnd v60 (some ((.c (.i .i64 1)), p59.2)) (bnd (abin .add x45 (.c (.i .i64 1))) fun v61 => inode_Check_l0 n m x44 v61 p59.2)) (some ((.c (.i .i64 0)), h)) := by kernel_rfl
theorem K_inode_Check : FnK Try.prog 155 A_inode_Check E_inode_Check R_inode_Check := .mk' (sound1 S_inode_small_ok (sound1 S_inode_Numbers_ok sound0)) Try.func155 (by kernel_rfl) (by intro n args h; kernel_rfl)
def S_inode_Check : Fun := tidy (Lim A_inode_Check E_inode_Check)
theorem S_inode_Check_ok : SOk Try.prog 155 S_inode_Check := K_inode_Check.sok
theorem S_inode_Check_flat {n : Nat} {args : List Val} {h h2 : Heap} {v : Val} (he : R_inode_Check n args (ro h) = some (v, h2)) (hf : v.flat = true) : S_inode_Check args h = some (v, h) := K_inode_Check.flat he hf
def inode_Put_o0 : List AOper := [aO 1 (.box (.t 0)), aO 2 (.alloc (List.replicate 32 (.i .u8 0))), aO 3 (.mv (.v (.c (.i .i64 0))))]
def inode_Put_c0 : ACode := .ops inode_Put_o0
def inode_Put_o1 : List AOper := [aO 4 (.alloc (List.replicate 32 (.i .u8 0)))]
def inode_Put_c1 : ACode := .ops inode_Put_o1
def inode_Put_o2 : List AOper := [aO 10 (.loadN 11 (.t 1)), aO 11 (.call 155 [(.t 10)]), aO 5 (.mv (.t 11))]
def inode_Put_c2 : ACode := .ops inode_Put_o2
def inode_Put_o3 : List AOper := [aO 12 (.mv (.t 5)), aO 13 (.bin .neq (.t 12) (.v (.c (.i .i64 0))))]
def inode_Put_c3 : ACode := .ops inode_Put_o3
def inode_Put_o4 : List AOper := [aO 14 (.loadN 32 (.t 4)), aO 15 (.mv (.t 5)), { dst := none, op := .storeN 32 (.t 2) (.t 14) }, aO 3 (.mv (.t 15))]
def inode_Put_c4 : ACode := .ops inode_Put_o4
def inode_Put_c5 : ACode := .seq [2, 3] inode_Put_c4 .ret
def inode_Put_c6 : ACode := .cond (.t 13) inode_Put_c5 .skip
def inode_Put_c7 : ACode := .seq [1, 2, 4, 5, 13] inode_Put_c3 inode_Put_c6
def inode_Put_c8 : ACode := .seq [1, 2, 4, 5] inode_Put_c2 inode_Put_c7
def inode_Put_o5 : List AOper := [aO 6 (.alloc (List.replicate 256 (.i .u8 0)))]
def inode_Put_c9 : ACode := .ops inode_Put_o5
def inode_Put_o6 : List AOper := [aO 16 (.loadN 256 (.t 6)), aO 17 (.fAddr (.t 1) 0), aO 18 (.load1 (.t 17)), aO 19 (.call 96 [(.t 16), (.v (.c (.i .i64 0))), (.v (.c (.i .i64 1))), (.t 18)]), { dst := none, op := .storeN 256 (.t 6) (.t 19) }]
def inode_Put_c10 : ACode := .ops inode_Put_o6
def inode_Put_o7 : List AOper := [aO 20 (.loadN 256 (.t 6)), aO 21 (.fAddr (.t 1) 1), aO 22 (.load1 (.t 21)), aO 23 (.call 96 [(.t 20), (.v (.c (.i .i64 2))), (.v (.c (.i .i64 2))), (.t 22)]), { dst := none, op := .storeN 256 (.t 6) (.t 23) }]
def inode_Put_c11 : ACode := .ops inode_Put_o7
def inode_Put_o8 : List AOper := [aO 24 (.loadN 256 (.t 6)), aO 25 (.fAddr (.t 1) 2), aO 26 (.load1 (.t 25)), aO 27 (.call 96 [(.t 24), (.v (.c (.i .i64 4))), (.v (.c (.i .i64 4))), (.t 26)]), { dst := none, op := .storeN 256 (.t 6) (.t 27) }]
def inode_Put_c12 : ACode := .ops inode_Put_o8
def inode_Put_o9 : List AOper := [aO 28 (.loadN 256 (.t 6)), aO 29 (.fAddr (.t 1) 3), aO 30 (.load1 (.t 29)), aO 31 (.call 96 [(.t 28), (.v (.c (.i .i64 8))), (.v (.c (.i .i64 2))), (.t 30)]), { dst := none, op := .storeN 256 (.t 6) (.t 31) }]
def inode_Put_c13 : ACode := .ops inode_Put_o9
def inode_Put_o10 : List AOper := [aO 32 (.loadN 11 (.t 1)), aO 33 (.call 156 [(.t 32)]), aO 34 (.mv (.v (.c (.i .i64 0))))]
def inode_Put_c14 : ACode := .ops inode_Put_o10
def inode_Put_o11 : List AOper := [aO 35 (.bin .lss (.t 34) (.v (.c (.i .i64 7))))]
def inode_Put_c15 : ACode := .ops inode_Put_o11
def inode_Put_c16 : ACode := .cond (.t 35) .skip (.exit 0)
def inode_Put_o12 : List AOper := [aO 36 (.mv (.t 34)), aO 37 (.idxA1 7 (.t 33) (.t 34)), aO 7 (.mv (.t 36)), aO 8 (.mv (.t 37))]
def inode_Put_c17 : ACode := .ops inode_Put_o12
def inode_Put_o13 : List AOper := [aO 38 (.loadN 256 (.t 6)), aO 39 (.mv (.t 7)), aO 40 (.bin .mul (.v (.c (.i .i64 2))) (.t 39)), aO 41 (.bin .add (.v (.c (.i .i64 10))) (.t 40)), aO 42 (.mv (.t 8)), aO 43 (.call 96 [(.t 38), (.t 41), (.v (.c (.i .i64 2))), (.t 42)]), { dst := none, op := .storeN 256 (.t 6) (.t 43) }]
def inode_Put_c18 : ACode := .ops inode_Put_o13
def inode_Put_c19 : ACode := .seq [2, 4, 6, 7, 8, 33, 34] inode_Put_c17 inode_Put_c18
def inode_Put_c20 : ACode := .block 1 inode_Put_c19
def inode_Put_o14 : List AOper := [aO 44 (.bin .add (.t 34) (.v (.c (.i .i64 1)))), aO 34 (.mv (.t 44))]
def inode_Put_c21 : ACode := .ops inode_Put_o14
def inode_Put_c22 : ACode := .seq [2, 4, 6, 33, 34] inode_Put_c20 inode_Put_c21
def inode_Put_c23 : ACode := .seq [2, 4, 6, 33, 34] inode_Put_c16 inode_Put_c22
def inode_Put_c24 : ACode := .seq [2, 4, 6, 33, 34, 35] inode_Put_c15 inode_Put_c23
def inode_Put_c25 : ACode := .loop [2, 4, 6, 33, 34] inode_Put_c24
def inode_Put_c26 : ACode := .block 0 inode_Put_c25
def inode_Put_c27 : ACode := .seq [2, 4, 6, 33, 34] inode_Put_c14 inode_Put_c26
def inode_Put_o15 : List AOper := [aO 45 (.mv (.v (.c (.i .i64 0))))]
def inode_Put_c28 : ACode := .ops inode_Put_o15
def inode_Put_o16 : List AOper := [aO 46 (.bin .lss (.t 45) (.v (.c (.i .i64 32))))]
def inode_Put_c29 : ACode := .ops inode_Put_o16
def inode_Put_c30 : ACode := .cond (.t 46) .skip (.exit 2)
def inode_Put_o17 : List AOper := [aO 47 (.mv (.t 45)), aO 9 (.mv (.t 47))]
def inode_Put_c31 : ACode := .ops inode_Put_o17
def inode_Put_o18 : List AOper := [aO 48 (.mv (.t 9)), aO 49 (.mv (.t 9)), aO 50 (.iAddrA 256 1 (.t 6) (.t 49)), aO 51 (.load1 (.t 50)), aO 52 (.iAddrA 32 1 (.t 4) (.t 48)), { dst := none, op := .store1 (.t 52) (.t 51) }]
def inode_Put_c32 : ACode := .ops inode_Put_o18
def inode_Put_c33 : ACode := .seq [2, 4, 6, 9, 45] inode_Put_c31 inode_Put_c32
def inode_Put_c34 : ACode := .block 3 inode_Put_c33
def inode_Put_o19 : List AOper := [aO 53 (.bin .add (.t 45) (.v (.c (.i .i64 1)))), aO 45 (.mv (.t 53))]
def inode_Put_c35 : ACode := .ops inode_Put_o19
def inode_Put_c36 : ACode := .seq [2, 4, 6, 45] inode_Put_c34 inode_Put_c35
def inode_Put_c37 : ACode := .seq [2, 4, 6, 45] inode_Put_c30 inode_Put_c36
def inode_Put_c38 : ACode := .seq [2, 4, 6, 45, 46] inode_Put_c29 inode_Put_c37
def inode_Put_c39 : ACode := .loop [2, 4, 6, 45] inode_Put_c38
def inode_Put_c40 : ACode := .block 2 inode_Put_c39
def inode_Put_c41 : ACode := .seq [2, 4, 6, 45] inode_Put_c28 inode_Put_c40
def inode_Put_o20 : List AOper := [aO 54 (.loadN 32 (.t 4)), { dst := none, op := .storeN 32 (.t 2) (.t 54) }, aO 3 (.mv (.v (.c (.i .i64 0))))]
def inode_Put_c42 : ACode := .ops inode_Put_o20
def inode_Put_c43 : ACode := .seq [2, 3] inode_Put_c42 .ret
def inode_Put_c44 : ACode := .seq [2, 4] inode_Put_c41 inode_Put_c43
def inode_Put_c45 : ACode := .seq [2, 4, 6] inode_Put_c27 inode_Put_c44
def inode_Put_c46 : ACode := .seq [1, 2, 4, 6] inode_Put_c13 inode_Put_c45
def inode_Put_c47 : ACode := .seq [1, 2, 4, 6] inode_Put_c12 inode_Put_c46
def inode_Put_c48 : ACode := .seq [1, 2, 4, 6] inode_Put_c11 inode_Put_c47
def inode_Put_c49 : ACode := .seq [1, 2, 4, 6] inode_Put_c10 inode_Put_c48
def inode_Put_c50 : ACode := .seq [1, 2, 4, 6] inode_Put_c9 inode_Put_c49
def inode_Put_c51 : ACode := .seq [1, 2, 4] inode_Put_c8 inode_Put_c50
def inode_Put_c52 : ACode := .seq [1, 2, 4] inode_Put_c1 inode_Put_c51
def inode_Put_c53 : ACode := .seq [1, 2] inode_Put_c0 inode_Put_c52
def A_inode_Put : AFn := ⟨inode_Put_c53, [.cellN 2 32, .tmp 3]⟩
def E_inode_Put : Sums := disp 155 S_inode_Check (disp 96 S_num_With (disp 156 S_inode_Numbers disp0))
def inode_Put_c0_d (n : Nat) : SmV := smOps E_inode_Put inode_Put_o0
def inode_Put_c1_d (n : Nat) : SmV := smOps E_inode_Put inode_Put_o1
def inode_Put_c2_d (n : Nat) : SmV := smOps E_inode_Put inode_Put_o2
def inode_Put_c3_d (n : Nat) : SmV := smOps E_inode_Put inode_Put_o3
def inode_Put_c4_d (n : Nat) : SmV := smOps E_inode_Put inode_Put_o4
def inode_Put_c5_d (n : Nat) : SmV := smSeq [2, 3] (inode_Put_c4_d n) smRet
def inode_Put_c6_d (n : Nat) : SmV := smCond (.t 13) (inode_Put_c5_d n) smSkip
def inode_Put_c7_d (n : Nat) : SmV := smSeq [1, 2, 4, 5, 13] (inode_Put_c3_d n) (inode_Put_c6_d n)
def inode_Put_c8_d (n : Nat) : SmV := smSeq [1, 2, 4, 5] (inode_Put_c2_d n) (inode_Put_c7_d n)
def inode_Put_c9_d (n : Nat) : SmV := smOps E_inode_Put inode_Put_o5
def inode_Put_c10_d (n : Nat) : SmV := smOps E_inode_Put inode_Put_o6
def inode_Put_c11_d (n : Nat) : SmV := smOps E_inode_Put inode_Put_o7
def inode_Put_c12_d (n : Nat) : SmV := smOps E_inode_Put inode_Put_o8
def inode_Put_c13_d (n : Nat) : SmV := smOps E_inode_Put inode_Put_o9
def inode_Put_c14_d (n : Nat) : SmV := smOps E_inode_Put inode_Put_o10
def inode_Put_c15_d (n : Nat) : SmV := smOps E_inode_Put inode_Put_o11
def inode_Put_c16_d (n : Nat) : SmV := smCond (.t 35) smSkip (smExit 0)
def inode_Put_c17_d (n : Nat) : SmV := smOps E_inode_Put inode_Put_o12
def inode_Put_c18_d (n : Nat) : SmV := smOps E_inode_Put inode_Put_o13
def inode_Put_c19_d (n : Nat) : SmV := smSeq [2, 4, 6, 7, 8, 33, 34] (inode_Put_c17_d n) (inode_Put_c18_d n)
def inode_Put_c20_d (n : Nat) : SmV := smBlock 1 (inode_Put_c19_d n)
def inode_Put_c21_d (n : Nat) : SmV := smOps E_inode_Put inode_Put_o14
def inode_Put_c22_d (n : Nat) : SmV := smSeq [2, 4, 6, 33, 34] (inode_Put_c20_d n) (inode_Put_c21_d n)
def inode_Put_c23_d (n : Nat) : SmV := smSeq [2, 4, 6, 33, 34] (inode_Put_c16_d n) (inode_Put_c22_d n)
def inode_Put_c24_d (n : Nat) : SmV := smSeq [2, 4, 6, 33, 34, 35] (inode_Put_c15_d n) (inode_Put_c23_d n)
def inode_Put_c25_d (n : Nat) : SmV := smLoop n [2, 4, 6, 33, 34] (inode_Put_c24_d n)
def inode_Put_c26_d (n : Nat) : SmV := smBlock 0 (inode_Put_c25_d n)
def inode_Put_c27_d (n : Nat) : SmV := smSeq [2, 4, 6, 33, 34] (inode_Put_c14_d n) (inode_Put_c26_d n)
def inode_Put_c28_d (n : Nat) : SmV := smOps E_inode_Put inode_Put_o15
def inode_Put_c29_d (n : Nat) : SmV := smOps E_inode_Put inode_Put_o16
def inode_Put_c30_d (n : Nat) : SmV := smCond (.t 46) smSkip (smExit 2)
def inode_Put_c31_d (n : Nat) : SmV := smOps E_inode_Put inode_Put_o17
def inode_Put_c32_d (n : Nat) : SmV := smOps E_inode_Put inode_Put_o18
def inode_Put_c33_d (n : Nat) : SmV := smSeq [2, 4, 6, 9, 45] (inode_Put_c31_d n) (inode_Put_c32_d n)
def inode_Put_c34_d (n : Nat) : SmV := smBlock 3 (inode_Put_c33_d n)
def inode_Put_c35_d (n : Nat) : SmV := smOps E_inode_Put inode_Put_o19
def inode_Put_c36_d (n : Nat) : SmV := smSeq [2, 4, 6, 45] (inode_Put_c34_d n) (inode_Put_c35_d n)
def inode_Put_c37_d (n : Nat) : SmV := smSeq [2, 4, 6, 45] (inode_Put_c30_d n) (inode_Put_c36_d n)
def inode_Put_c38_d (n : Nat) : SmV := smSeq [2, 4, 6, 45, 46] (inode_Put_c29_d n) (inode_Put_c37_d n)
def inode_Put_c39_d (n : Nat) : SmV := smLoop n [2, 4, 6, 45] (inode_Put_c38_d n)
def inode_Put_c40_d (n : Nat) : SmV := smBlock 2 (inode_Put_c39_d n)
def inode_Put_c41_d (n : Nat) : SmV := smSeq [2, 4, 6, 45] (inode_Put_c28_d n) (inode_Put_c40_d n)
def inode_Put_c42_d (n : Nat) : SmV := smOps E_inode_Put inode_Put_o20
def inode_Put_c43_d (n : Nat) : SmV := smSeq [2, 3] (inode_Put_c42_d n) smRet
def inode_Put_c44_d (n : Nat) : SmV := smSeq [2, 4] (inode_Put_c41_d n) (inode_Put_c43_d n)
def inode_Put_c45_d (n : Nat) : SmV := smSeq [2, 4, 6] (inode_Put_c27_d n) (inode_Put_c44_d n)
def inode_Put_c46_d (n : Nat) : SmV := smSeq [1, 2, 4, 6] (inode_Put_c13_d n) (inode_Put_c45_d n)
def inode_Put_c47_d (n : Nat) : SmV := smSeq [1, 2, 4, 6] (inode_Put_c12_d n) (inode_Put_c46_d n)
def inode_Put_c48_d (n : Nat) : SmV := smSeq [1, 2, 4, 6] (inode_Put_c11_d n) (inode_Put_c47_d n)
def inode_Put_c49_d (n : Nat) : SmV := smSeq [1, 2, 4, 6] (inode_Put_c10_d n) (inode_Put_c48_d n)
def inode_Put_c50_d (n : Nat) : SmV := smSeq [1, 2, 4, 6] (inode_Put_c9_d n) (inode_Put_c49_d n)
def inode_Put_c51_d (n : Nat) : SmV := smSeq [1, 2, 4] (inode_Put_c8_d n) (inode_Put_c50_d n)
def inode_Put_c52_d (n : Nat) : SmV := smSeq [1, 2, 4] (inode_Put_c1_d n) (inode_Put_c51_d n)
def inode_Put_c53_d (n : Nat) : SmV := smSeq [1, 2] (inode_Put_c0_d n) (inode_Put_c52_d n)
def inode_Put_k0 (n : Nat) : AExit → Env → Heap → OptV := fun x e h => match x with | .normal => hold ((inode_Put_c44_d n) A_inode_Put.fin (e.keep [2, 4, 6]) h) | .exit id => A_inode_Put.fin (.exit id) e h | .ret => A_inode_Put.fin .ret e h
def inode_Put_k1 (n : Nat) : AExit → Env → Heap → OptV := fun x e h => match x with | .exit i => bif Nat.beq i 0 then (inode_Put_k0 n) .normal e h else (inode_Put_k0 n) (.exit i) e h | .normal => (inode_Put_k0 n) .normal e h | .ret => (inode_Put_k0 n) .ret e h
def inode_Put_l0 (n m : Nat) (x2 x4 x6 x33 x34 : Val) (h : Heap) : OptV := around (inode_Put_c24_d n) [2, 4, 6, 33, 34] (inode_Put_k1 n) m [(2, x2), (4, x4), (6, x6), (33, x33), (34, x34)] h
def R_inode_Put (n : Nat) (args : List Val) (h : Heap) : OptV := (inode_Put_c53_d n) A_inode_Put.fin (params 0 args) h
def inode_Put_k2 (n : Nat) : AExit → Env → Heap → OptV := fun x e h => match x with | .normal => hold ((inode_Put_c43_d n) A_inode_Put.fin (e.keep [2, 4]) h) | .exit id => A_inode_Put.fin (.exit id) e h | .ret => A_inode_Put.fin .ret e h
def inode_Put_k3 (n : Nat) : AExit → Env → Heap → OptV := fun x e h => match x with | .exit i => bif Nat.beq i 2 then (inode_Put_k2 n) .normal e h else (inode_Put_k2 n) (.exit i) e h | .normal => (inode_Put_k2 n) .normal e h | .ret => (inode_Put_k2 n) .ret e h
def inode_Put_l1 (n m : Nat) (x2 x4 x6 x45 : Val) (h : Heap) : OptV := around (inode_Put_c38_d n) [2, 4, 6, 45] (inode_Put_k3 n) m [(2, x2), (4, x4), (6, x6), (45, x45)] h
theorem R_inode_Put_eq (n : Nat) (a0 : Val) (h : Heap) : R_inode_Put n [a0] h = bnd (cells? a0) fun c1 => bnd (aloadN ((((h ++ [some (Row.mk (c1) true)]) ++ [some (Row.mk (List.replicate 32 (.i .u8 0)) true)]) ++ [some (Row.mk (List.replicate 32 (.i .u8 0)) true)])) 11 ((.c (.p h.length 0)))) fun v2 => bnd (S_inode_Check [v2] ((((h ++ [some (Row.mk (c1) true)]) ++ [some (Row.mk (List.replicate 32 (.i .u8 0)) true)]) ++ [some (Row.mk (List.replicate 32 (.i .u8 0)) true)]))) fun p3 => bnd (abin .neq p3.1 (.c (.i .i64 0))) fun v4 => cnd v4 (bnd (aloadN p3.2 32 ((.c (.p (((h ++ [some (Row.mk (c1) true)]) ++ [some (Row.mk (List.replicate 32 (.i .u8 0)) true)])).length 0)))) fun v5 => bnd (astoreN p3.2 32 ((.c (.p ((h ++ [some (Row.mk (c1) true)])).length 0))) v5) fun h6 => tupN [aloadN h6 32 ((.c (.p ((h ++ [some (Row.mk (c1) true)])).length 0))), some p3.1] h6) (bnd (aloadN ((p3.2 ++ [some (Row.mk (List.replicate 256 (.i .u8 0)) true)])) 256 ((.c (.p p3.2.length 0)))) fun v7 => bnd (afAddr ((.c (.p h.length 0))) 0) fun v8 => bnd (aload1 ((p3.2 ++ [some (Row.mk (List.replicate 256 (.i .u8 0)) true)])) v8) fun v9 => bnd (S_num_With [v7, .c (.i .i64 0), .c (.i .i64 1), v9] ((p3.2 ++ [some (Row.mk (List.replicate 256 (.i .u8 0)) true)]))) fun p10 => bnd (astoreN p10.2 256 ((.c (.p p3.2.length 0))) p10.1) fun h11 => bnd (aloadN h11 256 ((.c (.p p3.2.length 0)))) fun v12 => bnd (afAddr ((.c (.p h.length 0))) 1) fun v13 => bnd (aload1 h11 v13) fun v14 => bnd (S_num_With [v12, .c (.i .i64 2), .c (.i .i64 2), v14] h11) fun p15 => bnd (astoreN p15.2 256 ((.c (.p p3.2.length 0))) p15.1) fun h16 => bnd (aloadN h16 256 ((.c (.p p3.2.length 0)))) fun v17 => bnd (afAddr ((.c (.p h.length 0))) 2) fun v18 => bnd (aload1 h16 v18) fun v19 => bnd (S_num_With [v17, .c (.i .i64 4), .c (.i .i64 4), v19] h16) fun p20 => bnd (astoreN p20.2 256 ((.c (.p p3.2.length 0))) p20.1) fun h21 => bnd (aloadN h21 256 ((.c (.p p3.2.length 0)))) fun v22 => bnd (afAddr ((.c (.p h.length 0))) 3) fun v23 => bnd (aload1 h21 v23) fun v24 => bnd (S_num_With [v22, .c (.i .i64 8), .c (.i .i64 2), v24] h21) fun p25 => bnd (astoreN p25.2 256 ((.c (.p p3.2.length 0))) p25.1) fun h26 => bnd (aloadN h26 11 ((.c (.p h.length 0)))) fun v27 => bnd (S_inode_Numbers [v27] h26) fun p28 => inode_Put_l0 n n ((.c (.p ((h ++ [some (Row.mk (c1) true)])).length 0))) ((.c (.p (((h ++ [some (Row.mk (c1) true)]) ++ [some (Row.mk (List.replicate 32 (.i .u8 0)) true)])).length 0))) ((.c (.p p3.2.length 0))) p28.1 (.c (.i .i64 0)) p28.2) := by kernel_rfl
theorem inode_Put_l0_eq (n m : Nat) (x2 x4 x6 x33 x34 : Val) (h : Heap) : inode_Put_l0 n (m + 1) x2 x4 x6 x33 x34 h = bnd (abin .lss x34 (.c (.i .i64 7))) fun v29 => cnd v29 (bnd (aidxA1 7 x33 x34) fun v30 => bnd (aloadN h 256 x6) fun v31 => bnd (abin .mul (.c (.i .i64 2)) x34) fun v32 => bnd (abin .add (.c (.i .i64 10)) v32) fun v33 => bnd (S_num_With [v31, v33, .c (.i .i64 2), v30] h) fun p34 => bnd (astoreN p34.2 256 x6 p34.1) fun h35 => bnd (abin .add x34 (.c (.i .i64 1))) fun v36 => inode_Put_l0 n m x2 x4 x6 x33 v36 h35) (inode_Put_l1 n n x2 x4 x6 (.c (.i .i64 0)) h) := by kernel_rfl
theorem inode_Put_l1_eq (n m : Nat) (x2 x4 x6 x45 : Val) (h : Heap) : inode_Put_l1 n (m + 1) x2 x4 x6 x45 h = bnd (abin .lss x45 (.c (.i .i64 32))) fun v37 => cnd v37 (bnd (aiAddrA 256 1 x6 x45) fun v38 => bnd (aload1 h v38) fun v39 => bnd (aiAddrA 32 1 x4 x45) fun v40 => bnd (astore1 h v40 v39) fun h41 => bnd (abin .add x45 (.c (.i .i64 1))) fun v42 => inode_Put_l1 n m x2 x4 x6 v42 h41) (bnd (aloadN h 32 x4) fun v43 => bnd (astoreN h 32 x2 v43) fun h44 => tupN [aloadN h44 32 x2, some (.c (.i .i64 0))] h44) := by kernel_rfl
theorem K_inode_Put : FnK Try.prog 134 A_inode_Put E_inode_Put R_inode_Put := .mk' (sound1 S_inode_Check_ok (sound1 S_num_With_ok (sound1 S_inode_Numbers_ok sound0))) Try.func134 (by kernel_rfl) (by intro n args h; kernel_rfl)
def S_inode_Put : Fun := tidy (Lim A_inode_Put E_inode_Put)
theorem S_inode_Put_ok : SOk Try.prog 134 S_inode_Put := K_inode_Put.sok
theorem S_inode_Put_flat {n : Nat} {args : List Val} {h h2 : Heap} {v : Val} (he : R_inode_Put n args (ro h) = some (v, h2)) (hf : v.flat = true) : S_inode_Put args h = some (v, h) := K_inode_Put.flat he hf
def inode_Clean_o0 : List AOper := [aO 1 (.box (.t 0)), aO 2 (.alloc ([.i .i64 0, .i .i64 0, .i .i64 0, .i .i64 0, .i .i64 0, .i .i64 0, .i .i64 0, .i .i64 0, .i .i64 0, .i .i64 0, .i .i64 0])), aO 3 (.mv (.v (.c (.b false))))]
def inode_Clean_c0 : ACode := .ops inode_Clean_o0
def inode_Clean_o1 : List AOper := [aO 7 (.loadN 32 (.t 1)), aO 8 (.call 133 [(.t 7)]), aO 4 (.alloc ([.i .i64 0, .i .i64 0, .i .i64 0, .i .i64 0, .i .i64 0, .i .i64 0, .i .i64 0, .i .i64 0, .i .i64 0, .i .i64 0, .i .i64 0])), { dst := none, op := .storeN 11 (.t 4) (.t 8) }]
def inode_Clean_c1 : ACode := .ops inode_Clean_o1
def inode_Clean_o2 : List AOper := [aO 10 (.loadN 11 (.t 4)), aO 11 (.call 134 [(.t 10)]), aO 9 (.mv (.t 11)), aO 12 (.ext (.t 9) 0), aO 13 (.ext (.t 9) 1), aO 5 (.alloc (List.replicate 32 (.i .u8 0))), { dst := none, op := .storeN 32 (.t 5) (.t 12) }, aO 6 (.mv (.t 13))]
def inode_Clean_c2 : ACode := .ops inode_Clean_o2
def inode_Clean_o3 : List AOper := [aO 14 (.mv (.t 6)), aO 15 (.bin .neq (.t 14) (.v (.c (.i .i64 0)))), aO 16 (.mv (.t 15)), { dst := some 17, op := .loadN 32 (.t 5), guard := some (16, false) }, { dst := some 18, op := .loadN 32 (.t 1), guard := some (16, false) }, { dst := some 19, op := .eqA true (List.replicate 32 (.i .u8)) (.t 17) (.t 18), guard := some (16, false) }, aO 20 (.pick (.t 16) (.v (.c (.b true))) (.t 19))]
def inode_Clean_c3 : ACode := .ops inode_Clean_o3
def inode_Clean_o4 : List AOper := [aO 21 (.build ([.i .i64 0, .i .i64 0, .i .i64 0, .i .i64 0, .i .i64 0, .i .i64 0, .i .i64 0, .i .i64 0, .i .i64 0, .i .i64 0, .i .i64 0]) []), { dst := none, op := .storeN 11 (.t 2) (.t 21) }, aO 3 (.mv (.v (.c (.b false))))]
def inode_Clean_c4 : ACode := .ops inode_Clean_o4
def inode_Clean_c5 : ACode := .seq [2, 3] inode_Clean_c4 .ret
def inode_Clean_c6 : ACode := .cond (.t 20) inode_Clean_c5 .skip
def inode_Clean_c7 : ACode := .seq [2, 4, 20] inode_Clean_c3 inode_Clean_c6
def inode_Clean_c8 : ACode := .seq [1, 2, 4, 5, 6] inode_Clean_c2 inode_Clean_c7
def inode_Clean_o5 : List AOper := [aO 22 (.loadN 11 (.t 4)), { dst := none, op := .storeN 11 (.t 2) (.t 22) }, aO 3 (.mv (.v (.c (.b true))))]
def inode_Clean_c9 : ACode := .ops inode_Clean_o5
def inode_Clean_c10 : ACode := .seq [2, 3] inode_Clean_c9 .ret
def inode_Clean_c11 : ACode := .seq [2, 4] inode_Clean_c8 inode_Clean_c10
def inode_Clean_c12 : ACode := .seq [1, 2, 4] inode_Clean_c1 inode_Clean_c11
def inode_Clean_c13 : ACode := .seq [1, 2] inode_Clean_c0 inode_Clean_c12
def A_inode_Clean : AFn := ⟨inode_Clean_c13, [.cellN 2 11, .tmp 3]⟩
def E_inode_Clean : Sums := disp 133 S_inode_Get (disp 134 S_inode_Put disp0)
def inode_Clean_c0_d (n : Nat) : SmV := smOps E_inode_Clean inode_Clean_o0
def inode_Clean_c1_d (n : Nat) : SmV := smOps E_inode_Clean inode_Clean_o1
def inode_Clean_c2_d (n : Nat) : SmV := smOps E_inode_Clean inode_Clean_o2
def inode_Clean_c3_d (n : Nat) : SmV := smOps E_inode_Clean inode_Clean_o3
def inode_Clean_c4_d (n : Nat) : SmV := smOps E_inode_Clean inode_Clean_o4
def inode_Clean_c5_d (n : Nat) : SmV := smSeq [2, 3] (inode_Clean_c4_d n) smRet
def inode_Clean_c6_d (n : Nat) : SmV := smCond (.t 20) (inode_Clean_c5_d n) smSkip
def inode_Clean_c7_d (n : Nat) : SmV := smSeq [2, 4, 20] (inode_Clean_c3_d n) (inode_Clean_c6_d n)
def inode_Clean_c8_d (n : Nat) : SmV := smSeq [1, 2, 4, 5, 6] (inode_Clean_c2_d n) (inode_Clean_c7_d n)
def inode_Clean_c9_d (n : Nat) : SmV := smOps E_inode_Clean inode_Clean_o5
def inode_Clean_c10_d (n : Nat) : SmV := smSeq [2, 3] (inode_Clean_c9_d n) smRet
def inode_Clean_c11_d (n : Nat) : SmV := smSeq [2, 4] (inode_Clean_c8_d n) (inode_Clean_c10_d n)
def inode_Clean_c12_d (n : Nat) : SmV := smSeq [1, 2, 4] (inode_Clean_c1_d n) (inode_Clean_c11_d n)
def inode_Clean_c13_d (n : Nat) : SmV := smSeq [1, 2] (inode_Clean_c0_d n) (inode_Clean_c12_d n)
def R_inode_Clean (n : Nat) (args : List Val) (h : Heap) : OptV := (inode_Clean_c13_d n) A_inode_Clean.fin (params 0 args) h
theorem R_inode_Clean_eq (n : Nat) (a0 : Val) (h : Heap) : R_inode_Clean n [a0] h = bnd (cells? a0) fun c1 => bnd (aloadN (((h ++ [some (Row.mk (c1) true)]) ++ [some (Row.mk ([.i .i64 0, .i .i64 0, .i .i64 0, .i .i64 0, .i .i64 0, .i .i64 0, .i .i64 0, .i .i64 0, .i .i64 0, .i .i64 0, .i .i64 0]) true)])) 32 ((.c (.p h.length 0)))) fun v2 => bnd (S_inode_Get [v2] (((h ++ [some (Row.mk (c1) true)]) ++ [some (Row.mk ([.i .i64 0, .i .i64 0, .i .i64 0, .i .i64 0, .i .i64 0, .i .i64 0, .i .i64 0, .i .i64 0, .i .i64 0, .i .i64 0, .i .i64 0]) true)]))) fun p3 => bnd (astoreN ((p3.2 ++ [some (Row.mk ([.i .i64 0, .i .i64 0, .i .i64 0, .i .i64 0, .i .i64 0, .i .i64 0, .i .i64 0, .i .i64 0, .i .i64 0, .i .i64 0, .i .i64 0]) true)])) 11 ((.c (.p p3.2.length 0))) p3.1) fun h4 => bnd (aloadN h4 11 ((.c (.p p3.2.length 0)))) fun v5 => bnd (S_inode_Put [v5] h4) fun p6 => bnd (aext p6.1 0) fun v7 => bnd (aext p6.1 1) fun v8 => bnd (astoreN ((p6.2 ++ [some (Row.mk (List.replicate 32 (.i .u8 0)) true)])) 32 ((.c (.p p6.2.length 0))) v7) fun h9 => bnd (abin .neq v8 (.c (.i .i64 0))) fun v10 => bnd (gd v10 false (bnd (aloadN h9 32 ((.c (.p p6.2.length 0)))) fun v11 => some (v11, h9)) (some (.no, h9))) fun p12 => bnd (gd v10 false (bnd (aloadN p12.2 32 ((.c (.p h.length 0)))) fun v13 => some (v13, p12.2)) (some (.no, p12.2))) fun p14 => bnd (gd v10 false (bnd (aeq true (List.replicate 32 (.i .u8)) p12.1 p14.1) fun v15 => some (v15, p14.2)) (some (.no, p14.2))) fun p16 => bnd (apick v10 (.c (.b true)) p16.1) fun v17 => cnd v17 (bnd (afill ([.i .i64 0, .i .i64 0, .i .i64 0, .i .i64 0, .i .i64 0, .i .i64 0, .i .i64 0, .i .i64 0, .i .i64 0, .i .i64 0, .i .i64 0]) []) fun c18 => bnd (astoreN p16.2 11 ((.c (.p ((h ++ [some (Row.mk (c1) true)])).length 0))) ((.a c18))) fun h19 => tupN [aloadN h19 11 ((.c (.p ((h ++ [some (Row.mk (c1) true)])).length 0))), some (.c (.b false))] h19) (bnd (aloadN p16.2 11 ((.c (.p p3.2.length 0)))) fun v20 => bnd (astoreN p16.2 11 ((.c (.p ((h ++ [some (Row.mk (c1) true)])).length 0))) v20) fun h21 => tupN [aloadN h21 11 ((.c (.p ((h ++ [some (Row.mk (c1) true)])).length 0))), some (.c (.b true))] h21) := by kernel_rfl
theorem K_inode_Clean : FnK Try.prog 104 A_inode_Clean E_inode_Clean R_inode_Clean := .mk' (sound1 S_inode_Get_ok (sound1 S_inode_Put_ok sound0)) Try.func104 (by kernel_rfl) (by intro n args h; kernel_rfl)
def S_inode_Clean : Fun := tidy (Lim A_inode_Clean E_inode_Clean)
theorem S_inode_Clean_ok : SOk Try.prog 104 S_inode_Clean := K_inode_Clean.sok
theorem S_inode_Clean_flat {n : Nat} {args : List Val} {h h2 : Heap} {v : Val} (he : R_inode_Clean n args (ro h) = some (v, h2)) (hf : v.flat = true) : S_inode_Clean args h = some (v, h) := K_inode_Clean.flat he hf
end Go.Proofs.Ytdgggnlbdoiloaa
end
noncomputable section
namespace Go.Proofs.Ytdgggnlbdoiloaa
open Go Go.Esc
set_option maxRecDepth 100000
def patch_Check_o0 : List AOper := [aO 1 (.box (.t 0)), aO 2 (.mv (.v (.c (.i .i64 0))))]
def patch_Check_c0 : ACode := .ops patch_Check_o0
def patch_Check_o1 : List AOper := [aO 4 (.fAddr (.t 1) 1), aO 5 (.load1 (.t 4)), aO 6 (.len (.t 5)), aO 3 (.mv (.t 6))]
def patch_Check_c1 : ACode := .ops patch_Check_o1
def patch_Check_o2 : List AOper := [aO 7 (.mv (.t 3)), aO 8 (.bin .lss (.t 7) (.v (.c (.i .i64 1)))), aO 9 (.mv (.t 8)), { dst := some 10, op := .mv (.t 3), guard := some (9, false) }, { dst := some 11, op := .bin .gtr (.t 10) (.v (.c (.i .i64 256))), guard := some (9, false) }, aO 12 (.pick (.t 9) (.v (.c (.b true))) (.t 11)), aO 13 (.mv (.t 12)), { dst := some 14, op := .fAddr (.t 1) 0, guard := some (13, false) }, { dst := some 15, op := .load1 (.t 14), guard := some (13, false) }, { dst := some 16, op := .bin .lss (.t 15) (.v (.c (.i .i64 0))), guard := some (13, false) }, aO 17 (.pick (.t 13) (.v (.c (.b true))) (.t 16)), aO 18 (.mv (.t 17)), { dst := some 19, op := .fAddr (.t 1) 0, guard := some (18, false) }, { dst := some 20, op := .load1 (.t 19), guard := some (18, false) }, { dst := some 21, op := .mv (.t 3), guard := some (18, false) }, { dst := some 22, op := .bin .sub (.v (.c (.i .i64 256))) (.t 21), guard := some (18, false) }, { dst := some 23, op := .bin .gtr (.t 20) (.t 22), guard := some (18, false) }, aO 24 (.pick (.t 18) (.v (.c (.b true))) (.t 23))]
def patch_Check_c2 : ACode := .ops patch_Check_o2
def patch_Check_o3 : List AOper := [aO 2 (.mv (.v (.c (.i .i64 2))))]
def patch_Check_c3 : ACode := .ops patch_Check_o3
def patch_Check_c4 : ACode := .seq [2] patch_Check_c3 .ret
def patch_Check_c5 : ACode := .cond (.t 24) patch_Check_c4 .skip
def patch_Check_c6 : ACode := .seq [24] patch_Check_c2 patch_Check_c5
def patch_Check_o4 : List AOper := [aO 2 (.mv (.v (.c (.i .i64 0))))]
def patch_Check_c7 : ACode := .ops patch_Check_o4
def patch_Check_c8 : ACode := .seq [2] patch_Check_c7 .ret
def patch_Check_c9 : ACode := .seq [] patch_Check_c6 patch_Check_c8
def patch_Check_c10 : ACode := .seq [1, 3] patch_Check_c1 patch_Check_c9
def patch_Check_c11 : ACode := .seq [1] patch_Check_c0 patch_Check_c10
def A_patch_Check : AFn := ⟨patch_Check_c11, [.tmp 2]⟩
def E_patch_Check : Sums := disp0
def patch_Check_c0_d (n : Nat) : SmV := smOps E_patch_Check patch_Check_o0
def patch_Check_c1_d (n : Nat) : SmV := smOps E_patch_Check patch_Check_o1
def patch_Check_c2_d (n : Nat) : SmV := smOps E_patch_Check patch_Check_o2
def patch_Check_c3_d (n : Nat) : SmV := smOps E_patch_Check patch_Check_o3
def patch_Check_c4_d (n : Nat) : SmV := smSeq [2] (patch_Check_c3_d n) smRet
def patch_Check_c5_d (n : Nat) : SmV := smCond (.t 24) (patch_Check_c4_d n) smSkip
def patch_Check_c6_d (n : Nat) : SmV := smSeq [24] (patch_Check_c2_d n) (patch_Check_c5_d n)
def patch_Check_c7_d (n : Nat) : SmV := smOps E_patch_Check patch_Check_o4
def patch_Check_c8_d (n : Nat) : SmV := smSeq [2] (patch_Check_c7_d n) smRet
def patch_Check_c9_d (n : Nat) : SmV := smSeq [] (patch_Check_c6_d n) (patch_Check_c8_d n)
def patch_Check_c10_d (n : Nat) : SmV := smSeq [1, 3] (patch_Check_c1_d n) (patch_Check_c9_d n)
def patch_Check_c11_d (n : Nat) : SmV := smSeq [1] (patch_Check_c0_d n) (patch_Check_c10_d n)
def R_patch_Check (n : Nat) (args : List Val) (h : Heap) : OptV := (patch_Check_c11_d n) A_patch_Check.fin (params 0 args) h
theorem R_patch_Check_eq (n : Nat) (a0 : Val) (h : Heap) : R_patch_Check n [a0] h = bnd (cells? a0) fun c1 => bnd (afAddr ((.c (.p h.length 0))) 1) fun v2 => bnd (aload1 ((h ++ [some (Row.mk (c1) true)])) v2) fun v3 => bnd (alen v3) fun v4 => bnd (abin .lss v4 (.c (.i .i64 1))) fun v5 => bnd (gd v5 false (some (v4, (h ++ [some (Row.mk (c1) true)]))) (some (.no, (h ++ [some (Row.mk (c1) true)])))) fun p6 => bnd (gd v5 false (bnd (abin .gtr p6.1 (.c (.i .i64 256))) fun v7 => some (v7, p6.2)) (some (.no, p6.2))) fun p8 => bnd (apick v5 (.c (.b true)) p8.1) fun v9 => bnd (gd v9 false (bnd (afAddr ((.c (.p h.length 0))) 0) fun v10 => some (v10, p8.2)) (some (.no, p8.2))) fun p11 => bnd (gd v9 false (bnd (aload1 p11.2 p11.1) fun v12 => some (v12, p11.2)) (some (.no, p11.2))) fun p13 => bnd (gd v9 false (bnd (abin .lss p13.1 (.c (.i .i64 0))) fun v14 => some (v14, p13.2)) (some (.no, p13.2))) fun p15 => bnd (apick v9 (.c (.b true)) p15.1) fun v16 => bnd (gd v16 false (bnd (afAddr ((.c (.p h.length 0))) 0) fun v17 => some (v17, p15.2)) (some (.no, p15.2))) fun p18 => bnd (gd v16 false (bnd (aload1 p18.2 p18.1) fun v19 => some (v19, p18.2)) (some (.no, p18.2))) fun p20 => bnd (gd v16 false (some (v4, p20.2)) (some (.no, p20.2))) fun p21 => bnd (gd v16 false (bnd (abin .sub (.c (.i .i64 256)) p21.1) fun v22 => some (v22, p21.2)) (some (.no, p21.2))) fun p23 => bnd (gd v16 false (bnd (abin .gtr p20.1 p23.1) fun v24 => some (v24, p23.2)) (some (.no, p23.2))) fun p25 => bnd (apick v16 (.c (.b true)) p25.1) fun v26 => cnd v26 (some ((.c (.i .i64 2)), p25.2)) (some ((.c (.i .i64 0)), p25.2)) := by kernel_rfl
theorem K_patch_Check : FnK Try.prog 157 A_patch_Check E_patch_Check R_patch_Check := .mk' (sound0) Try.func157 (by kernel_rfl) (by intro n args h; kernel_rfl)
def S_patch_Check : Fun := tidy (Lim A_patch_Check E_patch_Check)
theorem S_patch_Check_ok : SOk Try.prog 157 S_patch_Check := K_patch_Check.sok
theorem S_patch_Check_flat {n : Nat} {args : List Val} {h h2 : Heap} {v : Val} (he : R_patch_Check n args (ro h) = some (v, h2)) (hf : v.flat = true) : S_patch_Check args h = some (v, h) := K_patch_Check.flat he hf
def patch_Lay_o0 : List AOper := [aO 2 (.box (.t 0)), aO 3 (.box (.t 1)), aO 4 (.alloc (List.replicate 256 (.i .u8 0)))]
def patch_Lay_c0 : ACode := .ops patch_Lay_o0
def patch_Lay_o1 : List AOper := [aO 7 (.loadN 2 (.t 3)), aO 8 (.call 157 [(.t 7)]), aO 9 (.bin .neq (.t 8) (.v (.c (.i .i64 0))))]
def patch_Lay_c1 : ACode := .ops patch_Lay_o1
def patch_Lay_o2 : List AOper := [aO 10 (.loadN 256 (.t 2)), { dst := none, op := .storeN 256 (.t 4) (.t 10) }]
def patch_Lay_c2 : ACode := .ops patch_Lay_o2
def patch_Lay_c3 : ACode := .seq [4] patch_Lay_c2 .ret
def patch_Lay_c4 : ACode := .cond (.t 9) patch_Lay_c3 .skip
def patch_Lay_c5 : ACode := .seq [2, 3, 4, 9] patch_Lay_c1 patch_Lay_c4
def patch_Lay_o3 : List AOper := [aO 11 (.fAddr (.t 3) 1), aO 12 (.load1 (.t 11)), aO 13 (.len (.t 12)), aO 14 (.mv (.v (.c (.i .i64 0))))]
def patch_Lay_c6 : ACode := .ops patch_Lay_o3
def patch_Lay_o4 : List AOper := [aO 15 (.bin .lss (.t 14) (.t 13))]
def patch_Lay_c7 : ACode := .ops patch_Lay_o4
def patch_Lay_c8 : ACode := .cond (.t 15) .skip (.exit 0)
def patch_Lay_o5 : List AOper := [aO 16 (.mv (.t 14)), aO 17 (.iAddrL 1 (.t 12) (.t 14)), aO 18 (.load1 (.t 17)), aO 5 (.mv (.t 16)), aO 6 (.mv (.t 18))]
def patch_Lay_c9 : ACode := .ops patch_Lay_o5
def patch_Lay_o6 : List AOper := [aO 19 (.fAddr (.t 3) 0), aO 20 (.load1 (.t 19)), aO 21 (.mv (.t 5)), aO 22 (.bin .add (.t 20) (.t 21)), aO 23 (.mv (.t 6)), aO 24 (.iAddrA 256 1 (.t 2) (.t 22)), { dst := none, op := .store1 (.t 24) (.t 23) }]
def patch_Lay_c10 : ACode := .ops patch_Lay_o6
def patch_Lay_c11 : ACode := .seq [2, 3, 4, 5, 6, 12, 13, 14] patch_Lay_c9 patch_Lay_c10
def patch_Lay_c12 : ACode := .block 1 patch_Lay_c11
def patch_Lay_o7 : List AOper := [aO 25 (.bin .add (.t 14) (.v (.c (.i .i64 1)))), aO 14 (.mv (.t 25))]
def patch_Lay_c13 : ACode := .ops patch_Lay_o7
def patch_Lay_c14 : ACode := .seq [2, 3, 4, 12, 13, 14] patch_Lay_c12 patch_Lay_c13
def patch_Lay_c15 : ACode := .seq [2, 3, 4, 12, 13, 14] patch_Lay_c8 patch_Lay_c14
def patch_Lay_c16 : ACode := .seq [2, 3, 4, 12, 13, 14, 15] patch_Lay_c7 patch_Lay_c15
def patch_Lay_c17 : ACode := .loop [2, 3, 4, 12, 13, 14] patch_Lay_c16
def patch_Lay_c18 : ACode := .block 0 patch_Lay_c17
def patch_Lay_c19 : ACode := .seq [2, 3, 4, 12, 13, 14] patch_Lay_c6 patch_Lay_c18
def patch_Lay_o8 : List AOper := [aO 26 (.loadN 256 (.t 2)), { dst := none, op := .storeN 256 (.t 4) (.t 26) }]
def patch_Lay_c20 : ACode := .ops patch_Lay_o8
def patch_Lay_c21 : ACode := .seq [4] patch_Lay_c20 .ret
def patch_Lay_c22 : ACode := .seq [2, 4] patch_Lay_c19 patch_Lay_c21
def patch_Lay_c23 : ACode := .seq [2, 3, 4] patch_Lay_c5 patch_Lay_c22
def patch_Lay_c24 : ACode := .seq [2, 3, 4] patch_Lay_c0 patch_Lay_c23
def A_patch_Lay : AFn := ⟨patch_Lay_c24, [.cellN 4 256]⟩
def E_patch_Lay : Sums := disp 157 S_patch_Check disp0
def patch_Lay_c0_d (n : Nat) : SmV := smOps E_patch_Lay patch_Lay_o0
def patch_Lay_c1_d (n : Nat) : SmV := smOps E_patch_Lay patch_Lay_o1
def patch_Lay_c2_d (n : Nat) : SmV := smOps E_patch_Lay patch_Lay_o2
def patch_Lay_c3_d (n : Nat) : SmV := smSeq [4] (patch_Lay_c2_d n) smRet
def patch_Lay_c4_d (n : Nat) : SmV := smCond (.t 9) (patch_Lay_c3_d n) smSkip
def patch_Lay_c5_d (n : Nat) : SmV := smSeq [2, 3, 4, 9] (patch_Lay_c1_d n) (patch_Lay_c4_d n)
def patch_Lay_c6_d (n : Nat) : SmV := smOps E_patch_Lay patch_Lay_o3
def patch_Lay_c7_d (n : Nat) : SmV := smOps E_patch_Lay patch_Lay_o4
def patch_Lay_c8_d (n : Nat) : SmV := smCond (.t 15) smSkip (smExit 0)
def patch_Lay_c9_d (n : Nat) : SmV := smOps E_patch_Lay patch_Lay_o5
def patch_Lay_c10_d (n : Nat) : SmV := smOps E_patch_Lay patch_Lay_o6
def patch_Lay_c11_d (n : Nat) : SmV := smSeq [2, 3, 4, 5, 6, 12, 13, 14] (patch_Lay_c9_d n) (patch_Lay_c10_d n)
def patch_Lay_c12_d (n : Nat) : SmV := smBlock 1 (patch_Lay_c11_d n)
def patch_Lay_c13_d (n : Nat) : SmV := smOps E_patch_Lay patch_Lay_o7
def patch_Lay_c14_d (n : Nat) : SmV := smSeq [2, 3, 4, 12, 13, 14] (patch_Lay_c12_d n) (patch_Lay_c13_d n)
def patch_Lay_c15_d (n : Nat) : SmV := smSeq [2, 3, 4, 12, 13, 14] (patch_Lay_c8_d n) (patch_Lay_c14_d n)
def patch_Lay_c16_d (n : Nat) : SmV := smSeq [2, 3, 4, 12, 13, 14, 15] (patch_Lay_c7_d n) (patch_Lay_c15_d n)
def patch_Lay_c17_d (n : Nat) : SmV := smLoop n [2, 3, 4, 12, 13, 14] (patch_Lay_c16_d n)
def patch_Lay_c18_d (n : Nat) : SmV := smBlock 0 (patch_Lay_c17_d n)
def patch_Lay_c19_d (n : Nat) : SmV := smSeq [2, 3, 4, 12, 13, 14] (patch_Lay_c6_d n) (patch_Lay_c18_d n)
def patch_Lay_c20_d (n : Nat) : SmV := smOps E_patch_Lay patch_Lay_o8
def patch_Lay_c21_d (n : Nat) : SmV := smSeq [4] (patch_Lay_c20_d n) smRet
def patch_Lay_c22_d (n : Nat) : SmV := smSeq [2, 4] (patch_Lay_c19_d n) (patch_Lay_c21_d n)
def patch_Lay_c23_d (n : Nat) : SmV := smSeq [2, 3, 4] (patch_Lay_c5_d n) (patch_Lay_c22_d n)
def patch_Lay_c24_d (n : Nat) : SmV := smSeq [2, 3, 4] (patch_Lay_c0_d n) (patch_Lay_c23_d n)
def patch_Lay_k0 (n : Nat) : AExit → Env → Heap → OptV := fun x e h => match x with | .normal => hold ((patch_Lay_c21_d n) A_patch_Lay.fin (e.keep [2, 4]) h) | .exit id => A_patch_Lay.fin (.exit id) e h | .ret => A_patch_Lay.fin .ret e h
def patch_Lay_k1 (n : Nat) : AExit → Env → Heap → OptV := fun x e h => match x with | .exit i => bif Nat.beq i 0 then (patch_Lay_k0 n) .normal e h else (patch_Lay_k0 n) (.exit i) e h | .normal => (patch_Lay_k0 n) .normal e h | .ret => (patch_Lay_k0 n) .ret e h
def patch_Lay_l0 (n m : Nat) (x2 x3 x4 x12 x13 x14 : Val) (h : Heap) : OptV := around (patch_Lay_c16_d n) [2, 3, 4, 12, 13, 14] (patch_Lay_k1 n) m [(2, x2), (3, x3), (4, x4), (12, x12), (13, x13), (14, x14)] h
def R_patch_Lay (n : Nat) (args : List Val) (h : Heap) : OptV := (patch_Lay_c24_d n) A_patch_Lay.fin (params 0 args) h
theorem R_patch_Lay_eq (n : Nat) (a0 a1 : Val) (h : Heap) : R_patch_Lay n [a0, a1] h = bnd (cells? a0) fun c1 => bnd (cells? a1) fun c2 => bnd (aloadN ((((h ++ [some (Row.mk (c1) true)]) ++ [some (Row.mk (c2) true)]) ++ [some (Row.mk (List.replicate 256 (.i .u8 0)) true)])) 2 ((.c (.p ((h ++ [some (Row.mk (c1) true)])).length 0)))) fun v3 => bnd (S_patch_Check [v3] ((((h ++ [some (Row.mk (c1) true)]) ++ [some (Row.mk (c2) true)]) ++ [some (Row.mk (List.replicate 256 (.i .u8 0)) true)]))) fun p4 => bnd (abin .neq p4.1 (.c (.i .i64 0))) fun v5 => cnd v5 (bnd (aloadN p4.2 256 ((.c (.p h.length 0)))) fun v6 => bnd (astoreN p4.2 256 ((.c (.p (((h ++ [some (Row.mk (c1) true)]) ++ [some (Row.mk (c2) true)])).length 0))) v6) fun h7 => mp (aloadN h7 256 ((.c (.p (((h ++ [some (Row.mk (c1) true)]) ++ [some (Row.mk (c2) true)])).length 0)))) fun v => (v, h7)) (bnd (afAddr ((.c (.p ((h ++ [some (Row.mk (c1) true)])).length 0))) 1) fun v8 => bnd (aload1 p4.2 v8) fun v9 => bnd (alen v9) fun v10 => patch_Lay_l0 n n ((.c (.p h.length 0))) ((.c (.p ((h ++ [some (Row.mk (c1) true)])).length 0))) ((.c (.p (((h ++ [some (Row.mk (c1) true)]) ++ [some (Row.mk (c2) true)])).length 0))) v9 v10 (.c (.i .i64 0)) p4.2) := by kernel_rfl
theorem patch_Lay_l0_eq (n m : Nat) (x2 x3 x4 x12 x13 x14 : Val) (h : Heap) : patch_Lay_l0 n (m + 1) x2 x3 x4 x12 x13 x14 h = bnd (abin .lss x14 x13) fun v11 => cnd v11 (bnd (aiAddrL 1 x12 x14) fun v12 => bnd (aload1 h v12) fun v13 => bnd (afAddr x3 0) fun v14 => bnd (aload1 h v14) fun v15 => bnd (abin .add v15 x14) fun v16 => bnd (aiAddrA 256 1 x2 v16) fun v17 => bnd (astore1 h v17 v13) fun h18 => bnd (abin .add x14 (.c (.i .i64 1))) fun v19 => patch_Lay_l0 n m x2 x3 x4 x12 x13 v19 h18) (bnd (aloadN h 256 x2) fun v20 => bnd (astoreN h 256 x4 v20) fun h21 => mp (aloadN h21 256 x4) fun v => (v, h21)) := by kernel_rfl
theorem K_patch_Lay : FnK Try.prog 136 A_patch_Lay E_patch_Lay R_patch_Lay := .mk' (sound1 S_patch_Check_ok sound0) Try.func136 (by kernel_rfl) (by intro n args h; kernel_rfl)
def S_patch_Lay : Fun := tidy (Lim A_patch_Lay E_patch_Lay)
theorem S_patch_Lay_ok : SOk Try.prog 136 S_patch_Lay := K_patch_Lay.sok
theorem S_patch_Lay_flat {n : Nat} {args : List Val} {h h2 : Heap} {v : Val} (he : R_patch_Lay n args (ro h) = some (v, h2)) (hf : v.flat = true) : S_patch_Lay args h = some (v, h) := K_patch_Lay.flat he hf
end Go.Proofs.Ytdgggnlbdoiloaa
end
