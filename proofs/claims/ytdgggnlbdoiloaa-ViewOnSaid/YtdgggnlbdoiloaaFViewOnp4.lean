/- What the proof of this claim leans on, part 4. -/
import Derived.Test.YtdgggnlbdoiloaaFViewOnp3
set_option linter.all false
noncomputable section
namespace Go.Proofs.Ytdgggnlbdoiloaa
open Go Go.Esc
set_option maxRecDepth 100000
def table_Raw_o0 : List AOper := [aO 2 (.box (.t 0)), aO 4 (.alloc (List.replicate 32 (.i .u8 0)))]
def table_Raw_c0 : ACode := .ops table_Raw_o0
def table_Raw_o1 : List AOper := [aO 5 (.alloc (List.replicate 32 (.i .u8 0)))]
def table_Raw_c1 : ACode := .ops table_Raw_o1
def table_Raw_o2 : List AOper := [aO 7 (.mv (.t 1)), aO 8 (.bin .lss (.t 7) (.v (.c (.i .i64 0)))), aO 9 (.mv (.t 8)), { dst := some 10, op := .mv (.t 1), guard := some (9, false) }, { dst := some 11, op := .bin .geq (.t 10) (.v (.c (.i .i64 8))), guard := some (9, false) }, aO 12 (.pick (.t 9) (.v (.c (.b true))) (.t 11))]
def table_Raw_c2 : ACode := .ops table_Raw_o2
def table_Raw_o3 : List AOper := [aO 13 (.loadN 32 (.t 5)), { dst := none, op := .storeN 32 (.t 4) (.t 13) }]
def table_Raw_c3 : ACode := .ops table_Raw_o3
def table_Raw_c4 : ACode := .seq [4] table_Raw_c3 .ret
def table_Raw_c5 : ACode := .cond (.t 12) table_Raw_c4 .skip
def table_Raw_c6 : ACode := .seq [1, 2, 4, 5, 12] table_Raw_c2 table_Raw_c5
def table_Raw_o4 : List AOper := [aO 14 (.mv (.v (.c (.i .i64 0))))]
def table_Raw_c7 : ACode := .ops table_Raw_o4
def table_Raw_o5 : List AOper := [aO 15 (.bin .lss (.t 14) (.v (.c (.i .i64 32))))]
def table_Raw_c8 : ACode := .ops table_Raw_o5
def table_Raw_c9 : ACode := .cond (.t 15) .skip (.exit 0)
def table_Raw_o6 : List AOper := [aO 16 (.mv (.t 14)), aO 6 (.mv (.t 16))]
def table_Raw_c10 : ACode := .ops table_Raw_o6
def table_Raw_o7 : List AOper := [aO 17 (.mv (.t 6)), aO 18 (.mv (.t 1)), aO 19 (.bin .mul (.t 18) (.v (.c (.i .i64 32)))), aO 20 (.mv (.t 6)), aO 21 (.bin .add (.t 19) (.t 20)), aO 22 (.iAddrA 256 1 (.t 2) (.t 21)), aO 23 (.load1 (.t 22)), aO 24 (.iAddrA 32 1 (.t 5) (.t 17)), { dst := none, op := .store1 (.t 24) (.t 23) }]
def table_Raw_c11 : ACode := .ops table_Raw_o7
def table_Raw_c12 : ACode := .seq [1, 2, 4, 5, 6, 14] table_Raw_c10 table_Raw_c11
def table_Raw_c13 : ACode := .block 1 table_Raw_c12
def table_Raw_o8 : List AOper := [aO 25 (.bin .add (.t 14) (.v (.c (.i .i64 1)))), aO 14 (.mv (.t 25))]
def table_Raw_c14 : ACode := .ops table_Raw_o8
def table_Raw_c15 : ACode := .seq [1, 2, 4, 5, 14] table_Raw_c13 table_Raw_c14
def table_Raw_c16 : ACode := .seq [1, 2, 4, 5, 14] table_Raw_c9 table_Raw_c15
def table_Raw_c17 : ACode := .seq [1, 2, 4, 5, 14, 15] table_Raw_c8 table_Raw_c16
def table_Raw_c18 : ACode := .loop [1, 2, 4, 5, 14] table_Raw_c17
def table_Raw_c19 : ACode := .block 0 table_Raw_c18
def table_Raw_c20 : ACode := .seq [1, 2, 4, 5, 14] table_Raw_c7 table_Raw_c19
def table_Raw_o9 : List AOper := [aO 26 (.loadN 32 (.t 5)), { dst := none, op := .storeN 32 (.t 4) (.t 26) }]
def table_Raw_c21 : ACode := .ops table_Raw_o9
def table_Raw_c22 : ACode := .seq [4] table_Raw_c21 .ret
def table_Raw_c23 : ACode := .seq [4, 5] table_Raw_c20 table_Raw_c22
def table_Raw_c24 : ACode := .seq [1, 2, 4, 5] table_Raw_c6 table_Raw_c23
def table_Raw_c25 : ACode := .seq [1, 2, 4, 5] table_Raw_c1 table_Raw_c24
def table_Raw_c26 : ACode := .seq [1, 2, 4] table_Raw_c0 table_Raw_c25
def A_table_Raw : AFn := ⟨table_Raw_c26, [.cellN 4 32]⟩
def E_table_Raw : Sums := disp0
def table_Raw_c0_d (n : Nat) : SmV := smOps E_table_Raw table_Raw_o0
def table_Raw_c1_d (n : Nat) : SmV := smOps E_table_Raw table_Raw_o1
def table_Raw_c2_d (n : Nat) : SmV := smOps E_table_Raw table_Raw_o2
def table_Raw_c3_d (n : Nat) : SmV := smOps E_table_Raw table_Raw_o3
def table_Raw_c4_d (n : Nat) : SmV := smSeq [4] (table_Raw_c3_d n) smRet
def table_Raw_c5_d (n : Nat) : SmV := smCond (.t 12) (table_Raw_c4_d n) smSkip
def table_Raw_c6_d (n : Nat) : SmV := smSeq [1, 2, 4, 5, 12] (table_Raw_c2_d n) (table_Raw_c5_d n)
def table_Raw_c7_d (n : Nat) : SmV := smOps E_table_Raw table_Raw_o4
def table_Raw_c8_d (n : Nat) : SmV := smOps E_table_Raw table_Raw_o5
def table_Raw_c9_d (n : Nat) : SmV := smCond (.t 15) smSkip (smExit 0)
def table_Raw_c10_d (n : Nat) : SmV := smOps E_table_Raw table_Raw_o6
def table_Raw_c11_d (n : Nat) : SmV := smOps E_table_Raw table_Raw_o7
def table_Raw_c12_d (n : Nat) : SmV := smSeq [1, 2, 4, 5, 6, 14] (table_Raw_c10_d n) (table_Raw_c11_d n)
def table_Raw_c13_d (n : Nat) : SmV := smBlock 1 (table_Raw_c12_d n)
def table_Raw_c14_d (n : Nat) : SmV := smOps E_table_Raw table_Raw_o8
def table_Raw_c15_d (n : Nat) : SmV := smSeq [1, 2, 4, 5, 14] (table_Raw_c13_d n) (table_Raw_c14_d n)
def table_Raw_c16_d (n : Nat) : SmV := smSeq [1, 2, 4, 5, 14] (table_Raw_c9_d n) (table_Raw_c15_d n)
def table_Raw_c17_d (n : Nat) : SmV := smSeq [1, 2, 4, 5, 14, 15] (table_Raw_c8_d n) (table_Raw_c16_d n)
def table_Raw_c18_d (n : Nat) : SmV := smLoop n [1, 2, 4, 5, 14] (table_Raw_c17_d n)
def table_Raw_c19_d (n : Nat) : SmV := smBlock 0 (table_Raw_c18_d n)
def table_Raw_c20_d (n : Nat) : SmV := smSeq [1, 2, 4, 5, 14] (table_Raw_c7_d n) (table_Raw_c19_d n)
def table_Raw_c21_d (n : Nat) : SmV := smOps E_table_Raw table_Raw_o9
def table_Raw_c22_d (n : Nat) : SmV := smSeq [4] (table_Raw_c21_d n) smRet
def table_Raw_c23_d (n : Nat) : SmV := smSeq [4, 5] (table_Raw_c20_d n) (table_Raw_c22_d n)
def table_Raw_c24_d (n : Nat) : SmV := smSeq [1, 2, 4, 5] (table_Raw_c6_d n) (table_Raw_c23_d n)
def table_Raw_c25_d (n : Nat) : SmV := smSeq [1, 2, 4, 5] (table_Raw_c1_d n) (table_Raw_c24_d n)
def table_Raw_c26_d (n : Nat) : SmV := smSeq [1, 2, 4] (table_Raw_c0_d n) (table_Raw_c25_d n)
def table_Raw_k0 (n : Nat) : AExit → Env → Heap → OptV := fun x e h => match x with | .normal => hold ((table_Raw_c22_d n) A_table_Raw.fin (e.keep [4, 5]) h) | .exit id => A_table_Raw.fin (.exit id) e h | .ret => A_table_Raw.fin .ret e h
def table_Raw_k1 (n : Nat) : AExit → Env → Heap → OptV := fun x e h => match x with | .exit i => bif Nat.beq i 0 then (table_Raw_k0 n) .normal e h else (table_Raw_k0 n) (.exit i) e h | .normal => (table_Raw_k0 n) .normal e h | .ret => (table_Raw_k0 n) .ret e h
def table_Raw_l0 (n m : Nat) (x1 x2 x4 x5 x14 : Val) (h : Heap) : OptV := around (table_Raw_c17_d n) [1, 2, 4, 5, 14] (table_Raw_k1 n) m [(1, x1), (2, x2), (4, x4), (5, x5), (14, x14)] h
def R_table_Raw (n : Nat) (args : List Val) (h : Heap) : OptV := (table_Raw_c26_d n) A_table_Raw.fin (params 0 args) h
theorem R_table_Raw_eq (n : Nat) (a0 a1 : Val) (h : Heap) : R_table_Raw n [a0, a1] h = bnd (cells? a0) fun c1 => bnd (abin .lss a1 (.c (.i .i64 0))) fun v2 => bnd (gd v2 false (some (a1, (((h ++ [some (Row.mk (c1) true)]) ++ [some (Row.mk (List.replicate 32 (.i .u8 0)) true)]) ++ [some (Row.mk (List.replicate 32 (.i .u8 0)) true)]))) (some (.no, (((h ++ [some (Row.mk (c1) true)]) ++ [some (Row.mk (List.replicate 32 (.i .u8 0)) true)]) ++ [some (Row.mk (List.replicate 32 (.i .u8 0)) true)])))) fun p3 => bnd (gd v2 false (bnd (abin .geq p3.1 (.c (.i .i64 8))) fun v4 => some (v4, p3.2)) (some (.no, p3.2))) fun p5 => bnd (apick v2 (.c (.b true)) p5.1) fun v6 => cnd v6 (bnd (aloadN p5.2 32 ((.c (.p (((h ++ [some (Row.mk (c1) true)]) ++ [some (Row.mk (List.replicate 32 (.i .u8 0)) true)])).length 0)))) fun v7 => bnd (astoreN p5.2 32 ((.c (.p ((h ++ [some (Row.mk (c1) true)])).length 0))) v7) fun h8 => mp (aloadN h8 32 ((.c (.p ((h ++ [some (Row.mk (c1) true)])).length 0)))) fun v => (v, h8)) (table_Raw_l0 n n a1 ((.c (.p h.length 0))) ((.c (.p ((h ++ [some (Row.mk (c1) true)])).length 0))) ((.c (.p (((h ++ [some (Row.mk (c1) true)]) ++ [some (Row.mk (List.replicate 32 (.i .u8 0)) true)])).length 0))) (.c (.i .i64 0)) p5.2) := by kernel_rfl
theorem table_Raw_l0_eq (n m : Nat) (x1 x2 x4 x5 x14 : Val) (h : Heap) : table_Raw_l0 n (m + 1) x1 x2 x4 x5 x14 h = bnd (abin .lss x14 (.c (.i .i64 32))) fun v9 => cnd v9 (bnd (abin .mul x1 (.c (.i .i64 32))) fun v10 => bnd (abin .add v10 x14) fun v11 => bnd (aiAddrA 256 1 x2 v11) fun v12 => bnd (aload1 h v12) fun v13 => bnd (aiAddrA 32 1 x5 x14) fun v14 => bnd (astore1 h v14 v13) fun h15 => bnd (abin .add x14 (.c (.i .i64 1))) fun v16 => table_Raw_l0 n m x1 x2 x4 x5 v16 h15) (bnd (aloadN h 32 x5) fun v17 => bnd (astoreN h 32 x4 v17) fun h18 => mp (aloadN h18 32 x4) fun v => (v, h18)) := by kernel_rfl
theorem K_table_Raw : FnK Try.prog 105 A_table_Raw E_table_Raw R_table_Raw := .mk' (sound0) Try.func105 (by kernel_rfl) (by intro n args h; kernel_rfl)
def S_table_Raw : Fun := tidy (Lim A_table_Raw E_table_Raw)
theorem S_table_Raw_ok : SOk Try.prog 105 S_table_Raw := K_table_Raw.sok
theorem S_table_Raw_flat {n : Nat} {args : List Val} {h h2 : Heap} {v : Val} (he : R_table_Raw n args (ro h) = some (v, h2)) (hf : v.flat = true) : S_table_Raw args h = some (v, h) := K_table_Raw.flat he hf
def table_Get_o0 : List AOper := [aO 2 (.box (.t 0)), aO 4 (.alloc ([.i .i64 0, .i .i64 0, .i .i64 0, .i .i64 0, .i .i64 0, .i .i64 0, .i .i64 0, .i .i64 0, .i .i64 0, .i .i64 0, .i .i64 0])), aO 5 (.mv (.v (.c (.b false))))]
def table_Get_c0 : ACode := .ops table_Get_o0
def table_Get_o1 : List AOper := [aO 6 (.mv (.t 1)), aO 7 (.bin .lss (.t 6) (.v (.c (.i .i64 0)))), aO 8 (.mv (.t 7)), { dst := some 9, op := .mv (.t 1), guard := some (8, false) }, { dst := some 10, op := .bin .geq (.t 9) (.v (.c (.i .i64 8))), guard := some (8, false) }, aO 11 (.pick (.t 8) (.v (.c (.b true))) (.t 10))]
def table_Get_c1 : ACode := .ops table_Get_o1
def table_Get_o2 : List AOper := [aO 12 (.build ([.i .i64 0, .i .i64 0, .i .i64 0, .i .i64 0, .i .i64 0, .i .i64 0, .i .i64 0, .i .i64 0, .i .i64 0, .i .i64 0, .i .i64 0]) []), { dst := none, op := .storeN 11 (.t 4) (.t 12) }, aO 5 (.mv (.v (.c (.b false))))]
def table_Get_c2 : ACode := .ops table_Get_o2
def table_Get_c3 : ACode := .seq [4, 5] table_Get_c2 .ret
def table_Get_c4 : ACode := .cond (.t 11) table_Get_c3 .skip
def table_Get_c5 : ACode := .seq [1, 2, 4, 11] table_Get_c1 table_Get_c4
def table_Get_o3 : List AOper := [aO 13 (.loadN 256 (.t 2)), aO 14 (.mv (.t 1)), aO 15 (.call 105 [(.t 13), (.t 14)]), aO 16 (.call 104 [(.t 15)]), aO 17 (.ext (.t 16) 0), aO 18 (.ext (.t 16) 1), { dst := none, op := .storeN 11 (.t 4) (.t 17) }, aO 5 (.mv (.t 18))]
def table_Get_c6 : ACode := .ops table_Get_o3
def table_Get_c7 : ACode := .seq [4, 5] table_Get_c6 .ret
def table_Get_c8 : ACode := .seq [1, 2, 4] table_Get_c5 table_Get_c7
def table_Get_c9 : ACode := .seq [1, 2, 4] table_Get_c0 table_Get_c8
def A_table_Get : AFn := ⟨table_Get_c9, [.cellN 4 11, .tmp 5]⟩
def E_table_Get : Sums := disp 105 S_table_Raw (disp 104 S_inode_Clean disp0)
def table_Get_c0_d (n : Nat) : SmV := smOps E_table_Get table_Get_o0
def table_Get_c1_d (n : Nat) : SmV := smOps E_table_Get table_Get_o1
def table_Get_c2_d (n : Nat) : SmV := smOps E_table_Get table_Get_o2
def table_Get_c3_d (n : Nat) : SmV := smSeq [4, 5] (table_Get_c2_d n) smRet
def table_Get_c4_d (n : Nat) : SmV := smCond (.t 11) (table_Get_c3_d n) smSkip
def table_Get_c5_d (n : Nat) : SmV := smSeq [1, 2, 4, 11] (table_Get_c1_d n) (table_Get_c4_d n)
def table_Get_c6_d (n : Nat) : SmV := smOps E_table_Get table_Get_o3
def table_Get_c7_d (n : Nat) : SmV := smSeq [4, 5] (table_Get_c6_d n) smRet
def table_Get_c8_d (n : Nat) : SmV := smSeq [1, 2, 4] (table_Get_c5_d n) (table_Get_c7_d n)
def table_Get_c9_d (n : Nat) : SmV := smSeq [1, 2, 4] (table_Get_c0_d n) (table_Get_c8_d n)
def R_table_Get (n : Nat) (args : List Val) (h : Heap) : OptV := (table_Get_c9_d n) A_table_Get.fin (params 0 args) h
theorem R_table_Get_eq (n : Nat) (a0 a1 : Val) (h : Heap) : R_table_Get n [a0, a1] h = bnd (cells? a0) fun c1 => bnd (abin .lss a1 (.c (.i .i64 0))) fun v2 => bnd (gd v2 false (some (a1, ((h ++ [some (Row.mk (c1) true)]) ++ [some (Row.mk ([.i .i64 0, .i .i64 0, .i .i64 0, .i .i64 0, .i .i64 0, .i .i64 0, .i .i64 0, .i .i64 0, .i .i64 0, .i .i64 0, .i .i64 0]) true)]))) (some (.no, ((h ++ [some (Row.mk (c1) true)]) ++ [some (Row.mk ([.i .i64 0, .i .i64 0, .i .i64 0, .i .i64 0, .i .i64 0, .i .i64 0, .i .i64 0, .i .i64 0, .i .i64 0, .i .i64 0, .i .i64 0]) true)])))) fun p3 => bnd (gd v2 false (bnd (abin .geq p3.1 (.c (.i .i64 8))) fun v4 => some (v4, p3.2)) (some (.no, p3.2))) fun p5 => bnd (apick v2 (.c (.b true)) p5.1) fun v6 => cnd v6 (bnd (afill ([.i .i64 0, .i .i64 0, .i .i64 0, .i .i64 0, .i .i64 0, .i .i64 0, .i .i64 0, .i .i64 0, .i .i64 0, .i .i64 0, .i .i64 0]) []) fun c7 => bnd (astoreN p5.2 11 ((.c (.p ((h ++ [some (Row.mk (c1) true)])).length 0))) ((.a c7))) fun h8 => tupN [aloadN h8 11 ((.c (.p ((h ++ [some (Row.mk (c1) true)])).length 0))), some (.c (.b false))] h8) (bnd (aloadN p5.2 256 ((.c (.p h.length 0)))) fun v9 => bnd (S_table_Raw [v9, a1] p5.2) fun p10 => bnd (S_inode_Clean [p10.1] p10.2) fun p11 => bnd (aext p11.1 0) fun v12 => bnd (aext p11.1 1) fun v13 => bnd (astoreN p11.2 11 ((.c (.p ((h ++ [some (Row.mk (c1) true)])).length 0))) v12) fun h14 => tupN [aloadN h14 11 ((.c (.p ((h ++ [some (Row.mk (c1) true)])).length 0))), some v13] h14) := by kernel_rfl
theorem K_table_Get : FnK Try.prog 56 A_table_Get E_table_Get R_table_Get := .mk' (sound1 S_table_Raw_ok (sound1 S_inode_Clean_ok sound0)) Try.func56 (by kernel_rfl) (by intro n args h; kernel_rfl)
def S_table_Get : Fun := tidy (Lim A_table_Get E_table_Get)
theorem S_table_Get_ok : SOk Try.prog 56 S_table_Get := K_table_Get.sok
theorem S_table_Get_flat {n : Nat} {args : List Val} {h h2 : Heap} {v : Val} (he : R_table_Get n args (ro h) = some (v, h2)) (hf : v.flat = true) : S_table_Get args h = some (v, h) := K_table_Get.flat he hf
def table_Patch_o0 : List AOper := [aO 3 (.box (.t 1)), aO 4 (.alloc ([.i .i64 0, .ns])), aO 5 (.mv (.v (.c (.i .i64 0))))]
def table_Patch_c0 : ACode := .ops table_Patch_o0
def table_Patch_o1 : List AOper := [aO 8 (.mv (.t 0)), aO 9 (.bin .lss (.t 8) (.v (.c (.i .i64 0)))), aO 10 (.mv (.t 9)), { dst := some 11, op := .mv (.t 0), guard := some (10, false) }, { dst := some 12, op := .bin .geq (.t 11) (.v (.c (.i .i64 8))), guard := some (10, false) }, aO 13 (.pick (.t 10) (.v (.c (.b true))) (.t 12))]
def table_Patch_c1 : ACode := .ops table_Patch_o1
def table_Patch_o2 : List AOper := [aO 14 (.build ([.i .i64 0, .ns]) []), { dst := none, op := .storeN 2 (.t 4) (.t 14) }, aO 5 (.mv (.v (.c (.i .i64 2))))]
def table_Patch_c2 : ACode := .ops table_Patch_o2
def table_Patch_c3 : ACode := .seq [4, 5] table_Patch_c2 .ret
def table_Patch_c4 : ACode := .cond (.t 13) table_Patch_c3 .skip
def table_Patch_c5 : ACode := .seq [0, 3, 4, 13] table_Patch_c1 table_Patch_c4
def table_Patch_o3 : List AOper := [aO 16 (.loadN 11 (.t 3)), aO 17 (.call 134 [(.t 16)]), aO 15 (.mv (.t 17)), aO 18 (.ext (.t 15) 0), aO 19 (.ext (.t 15) 1), aO 6 (.alloc (List.replicate 32 (.i .u8 0))), { dst := none, op := .storeN 32 (.t 6) (.t 18) }, aO 7 (.mv (.t 19))]
def table_Patch_c6 : ACode := .ops table_Patch_o3
def table_Patch_o4 : List AOper := [aO 20 (.mv (.t 7)), aO 21 (.bin .neq (.t 20) (.v (.c (.i .i64 0))))]
def table_Patch_c7 : ACode := .ops table_Patch_o4
def table_Patch_o5 : List AOper := [aO 22 (.build ([.i .i64 0, .ns]) []), aO 23 (.mv (.t 7)), { dst := none, op := .storeN 2 (.t 4) (.t 22) }, aO 5 (.mv (.t 23))]
def table_Patch_c8 : ACode := .ops table_Patch_o5
def table_Patch_c9 : ACode := .seq [4, 5] table_Patch_c8 .ret
def table_Patch_c10 : ACode := .cond (.t 21) table_Patch_c9 .skip
def table_Patch_c11 : ACode := .seq [0, 4, 6, 7, 21] table_Patch_c7 table_Patch_c10
def table_Patch_o6 : List AOper := [aO 24 (.mv (.t 0)), aO 25 (.bin .mul (.t 24) (.v (.c (.i .i64 32)))), aO 26 (.buildSl 1 0 ([]) []), aO 27 (.slA 32 1 (.t 6) none none), aO 28 (.app 1 (.t 26) (.t 27)), aO 29 (.build ([.i .i64 0, .ns]) [(0, 1, (.t 25)), (1, 1, (.t 28))]), { dst := none, op := .storeN 2 (.t 4) (.t 29) }, aO 5 (.mv (.v (.c (.i .i64 0))))]
def table_Patch_c12 : ACode := .ops table_Patch_o6
def table_Patch_c13 : ACode := .seq [4, 5] table_Patch_c12 .ret
def table_Patch_c14 : ACode := .seq [0, 4, 6] table_Patch_c11 table_Patch_c13
def table_Patch_c15 : ACode := .seq [0, 4, 6, 7] table_Patch_c6 table_Patch_c14
def table_Patch_c16 : ACode := .seq [0, 3, 4] table_Patch_c5 table_Patch_c15
def table_Patch_c17 : ACode := .seq [0, 3, 4] table_Patch_c0 table_Patch_c16
def A_table_Patch : AFn := ⟨table_Patch_c17, [.cellN 4 2, .tmp 5]⟩
def E_table_Patch : Sums := disp 134 S_inode_Put disp0
def table_Patch_c0_d (n : Nat) : SmV := smOps E_table_Patch table_Patch_o0
def table_Patch_c1_d (n : Nat) : SmV := smOps E_table_Patch table_Patch_o1
def table_Patch_c2_d (n : Nat) : SmV := smOps E_table_Patch table_Patch_o2
def table_Patch_c3_d (n : Nat) : SmV := smSeq [4, 5] (table_Patch_c2_d n) smRet
def table_Patch_c4_d (n : Nat) : SmV := smCond (.t 13) (table_Patch_c3_d n) smSkip
def table_Patch_c5_d (n : Nat) : SmV := smSeq [0, 3, 4, 13] (table_Patch_c1_d n) (table_Patch_c4_d n)
def table_Patch_c6_d (n : Nat) : SmV := smOps E_table_Patch table_Patch_o3
def table_Patch_c7_d (n : Nat) : SmV := smOps E_table_Patch table_Patch_o4
def table_Patch_c8_d (n : Nat) : SmV := smOps E_table_Patch table_Patch_o5
def table_Patch_c9_d (n : Nat) : SmV := smSeq [4, 5] (table_Patch_c8_d n) smRet
def table_Patch_c10_d (n : Nat) : SmV := smCond (.t 21) (table_Patch_c9_d n) smSkip
def table_Patch_c11_d (n : Nat) : SmV := smSeq [0, 4, 6, 7, 21] (table_Patch_c7_d n) (table_Patch_c10_d n)
def table_Patch_c12_d (n : Nat) : SmV := smOps E_table_Patch table_Patch_o6
def table_Patch_c13_d (n : Nat) : SmV := smSeq [4, 5] (table_Patch_c12_d n) smRet
def table_Patch_c14_d (n : Nat) : SmV := smSeq [0, 4, 6] (table_Patch_c11_d n) (table_Patch_c13_d n)
def table_Patch_c15_d (n : Nat) : SmV := smSeq [0, 4, 6, 7] (table_Patch_c6_d n) (table_Patch_c14_d n)
def table_Patch_c16_d (n : Nat) : SmV := smSeq [0, 3, 4] (table_Patch_c5_d n) (table_Patch_c15_d n)
def table_Patch_c17_d (n : Nat) : SmV := smSeq [0, 3, 4] (table_Patch_c0_d n) (table_Patch_c16_d n)
def R_table_Patch (n : Nat) (args : List Val) (h : Heap) : OptV := (table_Patch_c17_d n) A_table_Patch.fin (params 0 args) h
theorem R_table_Patch_eq (n : Nat) (a0 a1 : Val) (h : Heap) : R_table_Patch n [a0, a1] h = bnd (cells? a1) fun c1 => bnd (abin .lss a0 (.c (.i .i64 0))) fun v2 => bnd (gd v2 false (some (a0, ((h ++ [some (Row.mk (c1) true)]) ++ [some (Row.mk ([.i .i64 0, .ns]) true)]))) (some (.no, ((h ++ [some (Row.mk (c1) true)]) ++ [some (Row.mk ([.i .i64 0, .ns]) true)])))) fun p3 => bnd (gd v2 false (bnd (abin .geq p3.1 (.c (.i .i64 8))) fun v4 => some (v4, p3.2)) (some (.no, p3.2))) fun p5 => bnd (apick v2 (.c (.b true)) p5.1) fun v6 => cnd v6 (bnd (afill ([.i .i64 0, .ns]) []) fun c7 => bnd (astoreN p5.2 2 ((.c (.p ((h ++ [some (Row.mk (c1) true)])).length 0))) ((.a c7))) fun h8 => tupN [aloadN h8 2 ((.c (.p ((h ++ [some (Row.mk (c1) true)])).length 0))), some (.c (.i .i64 2))] h8) (bnd (aloadN p5.2 11 ((.c (.p h.length 0)))) fun v9 => bnd (S_inode_Put [v9] p5.2) fun p10 => bnd (aext p10.1 0) fun v11 => bnd (aext p10.1 1) fun v12 => bnd (astoreN ((p10.2 ++ [some (Row.mk (List.replicate 32 (.i .u8 0)) true)])) 32 ((.c (.p p10.2.length 0))) v11) fun h13 => bnd (abin .neq v12 (.c (.i .i64 0))) fun v14 => cnd v14 (bnd (afill ([.i .i64 0, .ns]) []) fun c15 => bnd (astoreN h13 2 ((.c (.p ((h ++ [some (Row.mk (c1) true)])).length 0))) ((.a c15))) fun h16 => tupN [aloadN h16 2 ((.c (.p ((h ++ [some (Row.mk (c1) true)])).length 0))), some v12] h16) (bnd (abin .mul a0 (.c (.i .i64 32))) fun v17 => bnd (afill ([]) []) fun c18 => bnd (aslA ((h13 ++ [some (Row.mk (c18) true)])) 32 1 ((.c (.p p10.2.length 0))) none none) fun v19 => bnd (aapp ((h13 ++ [some (Row.mk (c18) true)])) 1 ((.c (.sl h13.length 0 0 1))) v19) fun p20 => bnd (afill ([.i .i64 0, .ns]) [(0, 1, v17), (1, 1, p20.1)]) fun c21 => bnd (astoreN p20.2 2 ((.c (.p ((h ++ [some (Row.mk (c1) true)])).length 0))) ((.a c21))) fun h22 => tupN [aloadN h22 2 ((.c (.p ((h ++ [some (Row.mk (c1) true)])).length 0))), some (.c (.i .i64 0))] h22)) := by kernel_rfl
theorem K_table_Patch : FnK Try.prog 135 A_table_Patch E_table_Patch R_table_Patch := .mk' (sound1 S_inode_Put_ok sound0) Try.func135 (by kernel_rfl) (by intro n args h; kernel_rfl)
def S_table_Patch : Fun := tidy (Lim A_table_Patch E_table_Patch)
theorem S_table_Patch_ok : SOk Try.prog 135 S_table_Patch := K_table_Patch.sok
theorem S_table_Patch_tidy {n : Nat} {args : List Val} {h h2 : Heap} {v : Val} {v2 : Val} {ids : List Nat} (he : R_table_Patch n args (ro h) = some (v, h2)) (hc : canonV h2 h.length v = some (v2, ids)) : S_table_Patch args h = some (v2, h ++ ids.map (rd h2)) := K_table_Patch.tidy he hc
def table_With_o0 : List AOper := [aO 3 (.box (.t 0)), aO 5 (.box (.t 2)), aO 6 (.alloc (List.replicate 256 (.i .u8 0))), aO 7 (.mv (.v (.c (.i .i64 0))))]
def table_With_c0 : ACode := .ops table_With_o0
def table_With_o1 : List AOper := [aO 11 (.mv (.t 1)), aO 12 (.loadN 11 (.t 5)), aO 13 (.call 135 [(.t 11), (.t 12)]), aO 10 (.mv (.t 13)), aO 14 (.ext (.t 10) 0), aO 15 (.ext (.t 10) 1), aO 8 (.alloc ([.i .i64 0, .ns])), { dst := none, op := .storeN 2 (.t 8) (.t 14) }, aO 9 (.mv (.t 15))]
def table_With_c1 : ACode := .ops table_With_o1
def table_With_o2 : List AOper := [aO 16 (.mv (.t 9)), aO 17 (.bin .neq (.t 16) (.v (.c (.i .i64 0))))]
def table_With_c2 : ACode := .ops table_With_o2
def table_With_o3 : List AOper := [aO 18 (.loadN 256 (.t 3)), aO 19 (.mv (.t 9)), { dst := none, op := .storeN 256 (.t 6) (.t 18) }, aO 7 (.mv (.t 19))]
def table_With_c3 : ACode := .ops table_With_o3
def table_With_c4 : ACode := .seq [6, 7] table_With_c3 .ret
def table_With_c5 : ACode := .cond (.t 17) table_With_c4 .skip
def table_With_c6 : ACode := .seq [3, 6, 8, 9, 17] table_With_c2 table_With_c5
def table_With_o4 : List AOper := [aO 20 (.loadN 256 (.t 3)), aO 21 (.loadN 2 (.t 8)), aO 22 (.call 136 [(.t 20), (.t 21)]), { dst := none, op := .storeN 256 (.t 6) (.t 22) }, aO 7 (.mv (.v (.c (.i .i64 0))))]
def table_With_c7 : ACode := .ops table_With_o4
def table_With_c8 : ACode := .seq [6, 7] table_With_c7 .ret
def table_With_c9 : ACode := .seq [3, 6, 8] table_With_c6 table_With_c8
def table_With_c10 : ACode := .seq [3, 6, 8, 9] table_With_c1 table_With_c9
def table_With_c11 : ACode := .seq [1, 3, 5, 6] table_With_c0 table_With_c10
def A_table_With : AFn := ⟨table_With_c11, [.cellN 6 256, .tmp 7]⟩
def E_table_With : Sums := disp 135 S_table_Patch (disp 136 S_patch_Lay disp0)
def table_With_c0_d (n : Nat) : SmV := smOps E_table_With table_With_o0
def table_With_c1_d (n : Nat) : SmV := smOps E_table_With table_With_o1
def table_With_c2_d (n : Nat) : SmV := smOps E_table_With table_With_o2
def table_With_c3_d (n : Nat) : SmV := smOps E_table_With table_With_o3
def table_With_c4_d (n : Nat) : SmV := smSeq [6, 7] (table_With_c3_d n) smRet
def table_With_c5_d (n : Nat) : SmV := smCond (.t 17) (table_With_c4_d n) smSkip
def table_With_c6_d (n : Nat) : SmV := smSeq [3, 6, 8, 9, 17] (table_With_c2_d n) (table_With_c5_d n)
def table_With_c7_d (n : Nat) : SmV := smOps E_table_With table_With_o4
def table_With_c8_d (n : Nat) : SmV := smSeq [6, 7] (table_With_c7_d n) smRet
def table_With_c9_d (n : Nat) : SmV := smSeq [3, 6, 8] (table_With_c6_d n) (table_With_c8_d n)
def table_With_c10_d (n : Nat) : SmV := smSeq [3, 6, 8, 9] (table_With_c1_d n) (table_With_c9_d n)
def table_With_c11_d (n : Nat) : SmV := smSeq [1, 3, 5, 6] (table_With_c0_d n) (table_With_c10_d n)
def R_table_With (n : Nat) (args : List Val) (h : Heap) : OptV := (table_With_c11_d n) A_table_With.fin (params 0 args) h
theorem R_table_With_eq (n : Nat) (a0 a1 a2 : Val) (h : Heap) : R_table_With n [a0, a1, a2] h = bnd (cells? a0) fun c1 => bnd (cells? a2) fun c2 => bnd (aloadN ((((h ++ [some (Row.mk (c1) true)]) ++ [some (Row.mk (c2) true)]) ++ [some (Row.mk (List.replicate 256 (.i .u8 0)) true)])) 11 ((.c (.p ((h ++ [some (Row.mk (c1) true)])).length 0)))) fun v3 => bnd (S_table_Patch [a1, v3] ((((h ++ [some (Row.mk (c1) true)]) ++ [some (Row.mk (c2) true)]) ++ [some (Row.mk (List.replicate 256 (.i .u8 0)) true)]))) fun p4 => bnd (aext p4.1 0) fun v5 => bnd (aext p4.1 1) fun v6 => bnd (astoreN ((p4.2 ++ [some (Row.mk ([.i .i64 0, .ns]) true)])) 2 ((.c (.p p4.2.length 0))) v5) fun h7 => bnd (abin .neq v6 (.c (.i .i64 0))) fun v8 => cnd v8 (bnd (aloadN h7 256 ((.c (.p h.length 0)))) fun v9 => bnd (astoreN h7 256 ((.c (.p (((h ++ [some (Row.mk (c1) true)]) ++ [some (Row.mk (c2) true)])).length 0))) v9) fun h10 => tupN [aloadN h10 256 ((.c (.p (((h ++ [some (Row.mk (c1) true)]) ++ [some (Row.mk (c2) true)])).length 0))), some v6] h10) (bnd (aloadN h7 256 ((.c (.p h.length 0)))) fun v11 => bnd (aloadN h7 2 ((.c (.p p4.2.length 0)))) fun v12 => bnd (S_patch_Lay [v11, v12] h7) fun p13 => bnd (astoreN p13.2 256 ((.c (.p (((h ++ [some (Row.mk (c1) true)]) ++ [some (Row.mk (c2) true)])).length 0))) p13.1) fun h14 => tupN [aloadN h14 256 ((.c (.p (((h ++ [some (Row.mk (c1) true)]) ++ [some (Row.mk (c2) true)])).length 0))), some (.c (.i .i64 0))] h14) := by kernel_rfl
theorem K_table_With : FnK Try.prog 108 A_table_With E_table_With R_table_With := .mk' (sound1 S_table_Patch_ok (sound1 S_patch_Lay_ok sound0)) Try.func108 (by kernel_rfl) (by intro n args h; kernel_rfl)
def S_table_With : Fun := tidy (Lim A_table_With E_table_With)
theorem S_table_With_ok : SOk Try.prog 108 S_table_With := K_table_With.sok
theorem S_table_With_flat {n : Nat} {args : List Val} {h h2 : Heap} {v : Val} (he : R_table_With n args (ro h) = some (v, h2)) (hf : v.flat = true) : S_table_With args h = some (v, h) := K_table_With.flat he hf
end Go.Proofs.Ytdgggnlbdoiloaa
end
noncomputable section
namespace Go.Proofs.Ytdgggnlbdoiloaa
open Go Go.Esc
set_option maxRecDepth 100000
def view_Of_o0 : List AOper := [aO 2 (.alloc ([.i .i64 0, .i .i64 0, .i .u64 0, .nf])), aO 3 (.mv (.v (.c (.i .i64 0))))]
def view_Of_c0 : ACode := .ops view_Of_o0
def view_Of_o1 : List AOper := [aO 7 (.mv (.t 0)), aO 8 (.len (.t 7)), aO 9 (.bin .eql (.t 8) (.v (.c (.i .i64 0))))]
def view_Of_c1 : ACode := .ops view_Of_o1
def view_Of_o2 : List AOper := [aO 10 (.build ([.i .i64 0, .i .i64 0, .i .u64 0, .nf]) []), { dst := none, op := .storeN 4 (.t 2) (.t 10) }, aO 3 (.mv (.v (.c (.i .i64 13))))]
def view_Of_c2 : ACode := .ops view_Of_o2
def view_Of_c3 : ACode := .seq [2, 3] view_Of_c2 .ret
def view_Of_c4 : ACode := .cond (.t 9) view_Of_c3 .skip
def view_Of_c5 : ACode := .seq [0, 2, 9] view_Of_c1 view_Of_c4
def view_Of_o3 : List AOper := [aO 12 (.mv (.t 0)), aO 13 (.iAddrL 256 (.t 12) (.v (.c (.i .i64 0)))), aO 14 (.loadN 256 (.t 13)), aO 15 (.call 53 [(.t 14)]), aO 11 (.mv (.t 15)), aO 16 (.ext (.t 11) 0), aO 17 (.ext (.t 11) 1), aO 4 (.alloc ([.i .i64 0, .i .i64 0, .i .u64 0])), { dst := none, op := .storeN 3 (.t 4) (.t 16) }, aO 5 (.mv (.t 17))]
def view_Of_c6 : ACode := .ops view_Of_o3
def view_Of_o4 : List AOper := [aO 18 (.mv (.t 5)), aO 19 (.bin .neq (.t 18) (.v (.c (.i .i64 0)))), aO 20 (.mv (.t 19)), { dst := some 21, op := .fAddr (.t 4) 0, guard := some (20, false) }, { dst := some 22, op := .load1 (.t 21), guard := some (20, false) }, { dst := some 23, op := .mv (.t 0), guard := some (20, false) }, { dst := some 24, op := .len (.t 23), guard := some (20, false) }, { dst := some 25, op := .bin .neq (.t 22) (.t 24), guard := some (20, false) }, aO 26 (.pick (.t 20) (.v (.c (.b true))) (.t 25))]
def view_Of_c7 : ACode := .ops view_Of_o4
def view_Of_o5 : List AOper := [aO 27 (.build ([.i .i64 0, .i .i64 0, .i .u64 0, .nf]) []), { dst := none, op := .storeN 4 (.t 2) (.t 27) }, aO 3 (.mv (.v (.c (.i .i64 13))))]
def view_Of_c8 : ACode := .ops view_Of_o5
def view_Of_c9 : ACode := .seq [2, 3] view_Of_c8 .ret
def view_Of_c10 : ACode := .cond (.t 26) view_Of_c9 .skip
def view_Of_c11 : ACode := .seq [0, 2, 4, 26] view_Of_c7 view_Of_c10
def view_Of_o6 : List AOper := [aO 28 (.buildSl 256 0 ([]) []), aO 29 (.mv (.t 0)), aO 30 (.app 256 (.t 28) (.t 29)), aO 6 (.alloc ([.ns])), { dst := none, op := .store1 (.t 6) (.t 30) }]
def view_Of_c12 : ACode := .ops view_Of_o6
def view_Of_o7 : List AOper := [aO 31 (.loadN 3 (.t 4)), aO 32 (.mkf 54 [(.t 6)]), aO 33 (.build ([.i .i64 0, .i .i64 0, .i .u64 0, .nf]) [(0, 3, (.t 31)), (3, 1, (.t 32))]), { dst := none, op := .storeN 4 (.t 2) (.t 33) }, aO 3 (.mv (.v (.c (.i .i64 0))))]
def view_Of_c13 : ACode := .ops view_Of_o7
def view_Of_c14 : ACode := .seq [2, 3] view_Of_c13 .ret
def view_Of_c15 : ACode := .seq [2, 4, 6] view_Of_c12 view_Of_c14
def view_Of_c16 : ACode := .seq [0, 2, 4] view_Of_c11 view_Of_c15
def view_Of_c17 : ACode := .seq [0, 2, 4, 5] view_Of_c6 view_Of_c16
def view_Of_c18 : ACode := .seq [0, 2] view_Of_c5 view_Of_c17
def view_Of_c19 : ACode := .seq [0, 2] view_Of_c0 view_Of_c18
def A_view_Of : AFn := ⟨view_Of_c19, [.cellN 2 4, .tmp 3]⟩
def E_view_Of : Sums := disp 53 S_super_Get disp0
def view_Of_c0_d (n : Nat) : SmV := smOps E_view_Of view_Of_o0
def view_Of_c1_d (n : Nat) : SmV := smOps E_view_Of view_Of_o1
def view_Of_c2_d (n : Nat) : SmV := smOps E_view_Of view_Of_o2
def view_Of_c3_d (n : Nat) : SmV := smSeq [2, 3] (view_Of_c2_d n) smRet
def view_Of_c4_d (n : Nat) : SmV := smCond (.t 9) (view_Of_c3_d n) smSkip
def view_Of_c5_d (n : Nat) : SmV := smSeq [0, 2, 9] (view_Of_c1_d n) (view_Of_c4_d n)
def view_Of_c6_d (n : Nat) : SmV := smOps E_view_Of view_Of_o3
def view_Of_c7_d (n : Nat) : SmV := smOps E_view_Of view_Of_o4
def view_Of_c8_d (n : Nat) : SmV := smOps E_view_Of view_Of_o5
def view_Of_c9_d (n : Nat) : SmV := smSeq [2, 3] (view_Of_c8_d n) smRet
def view_Of_c10_d (n : Nat) : SmV := smCond (.t 26) (view_Of_c9_d n) smSkip
def view_Of_c11_d (n : Nat) : SmV := smSeq [0, 2, 4, 26] (view_Of_c7_d n) (view_Of_c10_d n)
def view_Of_c12_d (n : Nat) : SmV := smOps E_view_Of view_Of_o6
def view_Of_c13_d (n : Nat) : SmV := smOps E_view_Of view_Of_o7
def view_Of_c14_d (n : Nat) : SmV := smSeq [2, 3] (view_Of_c13_d n) smRet
def view_Of_c15_d (n : Nat) : SmV := smSeq [2, 4, 6] (view_Of_c12_d n) (view_Of_c14_d n)
def view_Of_c16_d (n : Nat) : SmV := smSeq [0, 2, 4] (view_Of_c11_d n) (view_Of_c15_d n)
def view_Of_c17_d (n : Nat) : SmV := smSeq [0, 2, 4, 5] (view_Of_c6_d n) (view_Of_c16_d n)
def view_Of_c18_d (n : Nat) : SmV := smSeq [0, 2] (view_Of_c5_d n) (view_Of_c17_d n)
def view_Of_c19_d (n : Nat) : SmV := smSeq [0, 2] (view_Of_c0_d n) (view_Of_c18_d n)
def R_view_Of (n : Nat) (args : List Val) (h : Heap) : OptV := (view_Of_c19_d n) A_view_Of.fin (params 0 args) h
theorem R_view_Of_eq (n : Nat) (a0 : Val) (h : Heap) : R_view_Of n [a0] h = bnd (alen a0) fun v1 => bnd (abin .eql v1 (.c (.i .i64 0))) fun v2 => cnd v2 (bnd (afill ([.i .i64 0, .i .i64 0, .i .u64 0, .nf]) []) fun c3 => bnd (astoreN ((h ++ [some (Row.mk ([.i .i64 0, .i .i64 0, .i .u64 0, .nf]) true)])) 4 ((.c (.p h.length 0))) ((.a c3))) fun h4 => tupN [aloadN h4 4 ((.c (.p h.length 0))), some (.c (.i .i64 13))] h4) (bnd (aiAddrL 256 a0 (.c (.i .i64 0))) fun v5 => bnd (aloadN ((h ++ [some (Row.mk ([.i .i64 0, .i .i64 0, .i .u64 0, .nf]) true)])) 256 v5) fun v6 => bnd (S_super_Get [v6] ((h ++ [some (Row.mk ([.i .i64 0, .i .i64 0, .i .u64 0, .nf]) true)]))) fun p7 => bnd (aext p7.1 0) fun v8 => bnd (aext p7.1 1) fun v9 => bnd (astoreN ((p7.2 ++ [some (Row.mk ([.i .i64 0, .i .i64 0, .i .u64 0]) true)])) 3 ((.c (.p p7.2.length 0))) v8) fun h10 => bnd (abin .neq v9 (.c (.i .i64 0))) fun v11 => bnd (gd v11 false (bnd (afAddr ((.c (.p p7.2.length 0))) 0) fun v12 => some (v12, h10)) (some (.no, h10))) fun p13 => bnd (gd v11 false (bnd (aload1 p13.2 p13.1) fun v14 => some (v14, p13.2)) (some (.no, p13.2))) fun p15 => bnd (gd v11 false (some (a0, p15.2)) (some (.no, p15.2))) fun p16 => bnd (gd v11 false (bnd (alen p16.1) fun v17 => some (v17, p16.2)) (some (.no, p16.2))) fun p18 => bnd (gd v11 false (bnd (abin .neq p15.1 p18.1) fun v19 => some (v19, p18.2)) (some (.no, p18.2))) fun p20 => bnd (apick v11 (.c (.b true)) p20.1) fun v21 => cnd v21 (bnd (afill ([.i .i64 0, .i .i64 0, .i .u64 0, .nf]) []) fun c22 => bnd (astoreN p20.2 4 ((.c (.p h.length 0))) ((.a c22))) fun h23 => tupN [aloadN h23 4 ((.c (.p h.length 0))), some (.c (.i .i64 13))] h23) (bnd (afill ([]) []) fun c24 => bnd (aapp ((p20.2 ++ [some (Row.mk (c24) true)])) 256 ((.c (.sl p20.2.length 0 0 256))) a0) fun p25 => bnd (astore1 ((p25.2 ++ [some (Row.mk ([.ns]) true)])) ((.c (.p p25.2.length 0))) p25.1) fun h26 => bnd (aloadN h26 3 ((.c (.p p7.2.length 0)))) fun v27 => bnd (amkf 54 [(.c (.p p25.2.length 0))]) fun v28 => bnd (afill ([.i .i64 0, .i .i64 0, .i .u64 0, .nf]) [(0, 3, v27), (3, 1, v28)]) fun c29 => bnd (astoreN h26 4 ((.c (.p h.length 0))) ((.a c29))) fun h30 => tupN [aloadN h30 4 ((.c (.p h.length 0))), some (.c (.i .i64 0))] h30)) := by kernel_rfl
theorem K_view_Of : FnK Try.prog 15 A_view_Of E_view_Of R_view_Of := .mk' (sound1 S_super_Get_ok sound0) Try.func15 (by kernel_rfl) (by intro n args h; kernel_rfl)
def S_view_Of : Fun := Lim A_view_Of E_view_Of
theorem S_view_Of_ok : SOk Try.prog 15 S_view_Of := K_view_Of.ok
theorem S_view_Of_of {n : Nat} {args : List Val} {h : Heap} {p : Val × Heap} (he : R_view_Of n args h = some p) : S_view_Of args h = some p := K_view_Of.of he
def view_View_there_o0 : List AOper := [aO 2 (.box (.t 0)), aO 4 (.mv (.v (.c (.b false))))]
def view_View_there_c0 : ACode := .ops view_View_there_o0
def view_View_there_o1 : List AOper := [aO 5 (.fAddr (.t 2) 3), aO 6 (.load1 (.t 5)), aO 7 (.eqN true true (.t 6)), aO 8 (.mv (.t 7)), { dst := some 9, op := .mv (.t 1), guard := some (8, true) }, { dst := some 10, op := .bin .geq (.t 9) (.v (.c (.i .i64 0))), guard := some (8, true) }, aO 11 (.pick (.t 8) (.t 10) (.v (.c (.b false)))), aO 12 (.mv (.t 11)), { dst := some 13, op := .mv (.t 1), guard := some (12, true) }, { dst := some 14, op := .fAddr (.t 2) 0, guard := some (12, true) }, { dst := some 15, op := .fAddr (.t 14) 0, guard := some (12, true) }, { dst := some 16, op := .load1 (.t 15), guard := some (12, true) }, { dst := some 17, op := .bin .lss (.t 13) (.t 16), guard := some (12, true) }, aO 18 (.pick (.t 12) (.t 17) (.v (.c (.b false)))), aO 4 (.mv (.t 18))]
def view_View_there_c1 : ACode := .ops view_View_there_o1
def view_View_there_c2 : ACode := .seq [4] view_View_there_c1 .ret
def view_View_there_c3 : ACode := .seq [1, 2] view_View_there_c0 view_View_there_c2
def A_view_View_there : AFn := ⟨view_View_there_c3, [.tmp 4]⟩
def E_view_View_there : Sums := disp0
def view_View_there_c0_d (n : Nat) : SmV := smOps E_view_View_there view_View_there_o0
def view_View_there_c1_d (n : Nat) : SmV := smOps E_view_View_there view_View_there_o1
def view_View_there_c2_d (n : Nat) : SmV := smSeq [4] (view_View_there_c1_d n) smRet
def view_View_there_c3_d (n : Nat) : SmV := smSeq [1, 2] (view_View_there_c0_d n) (view_View_there_c2_d n)
def R_view_View_there (n : Nat) (args : List Val) (h : Heap) : OptV := (view_View_there_c3_d n) A_view_View_there.fin (params 0 args) h
theorem R_view_View_there_eq (n : Nat) (a0 a1 : Val) (h : Heap) : R_view_View_there n [a0, a1] h = bnd (cells? a0) fun c1 => bnd (afAddr ((.c (.p h.length 0))) 3) fun v2 => bnd (aload1 ((h ++ [some (Row.mk (c1) true)])) v2) fun v3 => bnd (aeqN true true v3) fun v4 => bnd (gd v4 true (some (a1, (h ++ [some (Row.mk (c1) true)]))) (some (.no, (h ++ [some (Row.mk (c1) true)])))) fun p5 => bnd (gd v4 true (bnd (abin .geq p5.1 (.c (.i .i64 0))) fun v6 => some (v6, p5.2)) (some (.no, p5.2))) fun p7 => bnd (apick v4 p7.1 (.c (.b false))) fun v8 => bnd (gd v8 true (some (a1, p7.2)) (some (.no, p7.2))) fun p9 => bnd (gd v8 true (bnd (afAddr ((.c (.p h.length 0))) 0) fun v10 => some (v10, p9.2)) (some (.no, p9.2))) fun p11 => bnd (gd v8 true (bnd (afAddr p11.1 0) fun v12 => some (v12, p11.2)) (some (.no, p11.2))) fun p13 => bnd (gd v8 true (bnd (aload1 p13.2 p13.1) fun v14 => some (v14, p13.2)) (some (.no, p13.2))) fun p15 => bnd (gd v8 true (bnd (abin .lss p9.1 p15.1) fun v16 => some (v16, p15.2)) (some (.no, p15.2))) fun p17 => bnd (apick v8 p17.1 (.c (.b false))) fun v18 => some (v18, p17.2) := by kernel_rfl
theorem K_view_View_there : FnK Try.prog 76 A_view_View_there E_view_View_there R_view_View_there := .mk' (sound0) Try.func76 (by kernel_rfl) (by intro n args h; kernel_rfl)
def S_view_View_there : Fun := tidy (Lim A_view_View_there E_view_View_there)
theorem S_view_View_there_ok : SOk Try.prog 76 S_view_View_there := K_view_View_there.sok
theorem S_view_View_there_flat {n : Nat} {args : List Val} {h h2 : Heap} {v : Val} (he : R_view_View_there n args (ro h) = some (v, h2)) (hf : v.flat = true) : S_view_View_there args h = some (v, h) := K_view_View_there.flat he hf
def view_Of_1_o0 : List AOper := [aO 3 (.alloc (List.replicate 256 (.i .u8 0)))]
def view_Of_1_c0 : ACode := .ops view_Of_1_o0
def view_Of_1_o1 : List AOper := [aO 4 (.load1 (.t 1)), aO 5 (.mv (.t 0)), aO 6 (.iAddrL 256 (.t 4) (.t 5)), aO 7 (.loadN 256 (.t 6)), { dst := none, op := .storeN 256 (.t 3) (.t 7) }]
def view_Of_1_c1 : ACode := .ops view_Of_1_o1
def view_Of_1_c2 : ACode := .seq [3] view_Of_1_c1 .ret
def view_Of_1_c3 : ACode := .seq [0, 1, 3] view_Of_1_c0 view_Of_1_c2
def A_view_Of_1 : AFn := ⟨view_Of_1_c3, [.cellN 3 256]⟩
def E_view_Of_1 : Sums := disp0
def view_Of_1_c0_d (n : Nat) : SmV := smOps E_view_Of_1 view_Of_1_o0
def view_Of_1_c1_d (n : Nat) : SmV := smOps E_view_Of_1 view_Of_1_o1
def view_Of_1_c2_d (n : Nat) : SmV := smSeq [3] (view_Of_1_c1_d n) smRet
def view_Of_1_c3_d (n : Nat) : SmV := smSeq [0, 1, 3] (view_Of_1_c0_d n) (view_Of_1_c2_d n)
def R_view_Of_1 (n : Nat) (args : List Val) (h : Heap) : OptV := (view_Of_1_c3_d n) A_view_Of_1.fin (params 0 args) h
theorem R_view_Of_1_eq (n : Nat) (a0 a1 : Val) (h : Heap) : R_view_Of_1 n [a0, a1] h = bnd (aload1 ((h ++ [some (Row.mk (List.replicate 256 (.i .u8 0)) true)])) a1) fun v1 => bnd (aiAddrL 256 v1 a0) fun v2 => bnd (aloadN ((h ++ [some (Row.mk (List.replicate 256 (.i .u8 0)) true)])) 256 v2) fun v3 => bnd (astoreN ((h ++ [some (Row.mk (List.replicate 256 (.i .u8 0)) true)])) 256 ((.c (.p h.length 0))) v3) fun h4 => mp (aloadN h4 256 ((.c (.p h.length 0)))) fun v => (v, h4) := by kernel_rfl
theorem K_view_Of_1 : FnK Try.prog 54 A_view_Of_1 E_view_Of_1 R_view_Of_1 := .mk' (sound0) Try.func54 (by kernel_rfl) (by intro n args h; kernel_rfl)
def S_view_Of_1 : Fun := tidy (Lim A_view_Of_1 E_view_Of_1)
theorem S_view_Of_1_ok : SOk Try.prog 54 S_view_Of_1 := K_view_Of_1.sok
theorem S_view_Of_1_flat {n : Nat} {args : List Val} {h h2 : Heap} {v : Val} (he : R_view_Of_1 n args (ro h) = some (v, h2)) (hf : v.flat = true) : S_view_Of_1 args h = some (v, h) := K_view_Of_1.flat he hf
def view_View_Block__Of_1_o0 : List AOper := [aO 2 (.box (.t 0)), aO 4 (.alloc (List.replicate 256 (.i .u8 0)))]
def view_View_Block__Of_1_c0 : ACode := .ops view_View_Block__Of_1_o0
def view_View_Block__Of_1_o1 : List AOper := [aO 5 (.loadN 4 (.t 2)), aO 6 (.mv (.t 1)), aO 7 (.call 76 [(.t 5), (.t 6)]), aO 8 (.un .not (.t 7))]
def view_View_Block__Of_1_c1 : ACode := .ops view_View_Block__Of_1_o1
def view_View_Block__Of_1_o2 : List AOper := [aO 9 (.build (List.replicate 256 (.i .u8 0)) []), { dst := none, op := .storeN 256 (.t 4) (.t 9) }]
def view_View_Block__Of_1_c2 : ACode := .ops view_View_Block__Of_1_o2
def view_View_Block__Of_1_c3 : ACode := .seq [4] view_View_Block__Of_1_c2 .ret
def view_View_Block__Of_1_c4 : ACode := .cond (.t 8) view_View_Block__Of_1_c3 .skip
def view_View_Block__Of_1_c5 : ACode := .seq [1, 2, 4, 8] view_View_Block__Of_1_c1 view_View_Block__Of_1_c4
def view_View_Block__Of_1_o3 : List AOper := [aO 10 (.fAddr (.t 2) 3), aO 11 (.load1 (.t 10)), aO 12 (.mv (.t 1)), aO 13 (.callV (.t 11) [(.t 12)]), { dst := none, op := .storeN 256 (.t 4) (.t 13) }]
def view_View_Block__Of_1_c6 : ACode := .ops view_View_Block__Of_1_o3
def view_View_Block__Of_1_c7 : ACode := .seq [4] view_View_Block__Of_1_c6 .ret
def view_View_Block__Of_1_c8 : ACode := .seq [1, 2, 4] view_View_Block__Of_1_c5 view_View_Block__Of_1_c7
def view_View_Block__Of_1_c9 : ACode := .seq [1, 2, 4] view_View_Block__Of_1_c0 view_View_Block__Of_1_c8
def A_view_View_Block__Of_1 : AFn := ⟨view_View_Block__Of_1_c9, [.cellN 4 256]⟩
def E_view_View_Block__Of_1 : Sums := disp 76 S_view_View_there (disp 54 S_view_Of_1 disp0)
def view_View_Block__Of_1_c0_d (n : Nat) : SmV := smOps E_view_View_Block__Of_1 view_View_Block__Of_1_o0
def view_View_Block__Of_1_c1_d (n : Nat) : SmV := smOps E_view_View_Block__Of_1 view_View_Block__Of_1_o1
def view_View_Block__Of_1_c2_d (n : Nat) : SmV := smOps E_view_View_Block__Of_1 view_View_Block__Of_1_o2
def view_View_Block__Of_1_c3_d (n : Nat) : SmV := smSeq [4] (view_View_Block__Of_1_c2_d n) smRet
def view_View_Block__Of_1_c4_d (n : Nat) : SmV := smCond (.t 8) (view_View_Block__Of_1_c3_d n) smSkip
def view_View_Block__Of_1_c5_d (n : Nat) : SmV := smSeq [1, 2, 4, 8] (view_View_Block__Of_1_c1_d n) (view_View_Block__Of_1_c4_d n)
def view_View_Block__Of_1_c6_d (n : Nat) : SmV := smOps E_view_View_Block__Of_1 view_View_Block__Of_1_o3
def view_View_Block__Of_1_c7_d (n : Nat) : SmV := smSeq [4] (view_View_Block__Of_1_c6_d n) smRet
def view_View_Block__Of_1_c8_d (n : Nat) : SmV := smSeq [1, 2, 4] (view_View_Block__Of_1_c5_d n) (view_View_Block__Of_1_c7_d n)
def view_View_Block__Of_1_c9_d (n : Nat) : SmV := smSeq [1, 2, 4] (view_View_Block__Of_1_c0_d n) (view_View_Block__Of_1_c8_d n)
def R_view_View_Block__Of_1 (n : Nat) (args : List Val) (h : Heap) : OptV := (view_View_Block__Of_1_c9_d n) A_view_View_Block__Of_1.fin (params 0 args) h
theorem R_view_View_Block__Of_1_eq (n : Nat) (a0 a1 : Val) (h : Heap) : R_view_View_Block__Of_1 n [a0, a1] h = bnd (cells? a0) fun c1 => bnd (aloadN (((h ++ [some (Row.mk (c1) true)]) ++ [some (Row.mk (List.replicate 256 (.i .u8 0)) true)])) 4 ((.c (.p h.length 0)))) fun v2 => bnd (S_view_View_there [v2, a1] (((h ++ [some (Row.mk (c1) true)]) ++ [some (Row.mk (List.replicate 256 (.i .u8 0)) true)]))) fun p3 => bnd (aun .not p3.1) fun v4 => cnd v4 (bnd (afill (List.replicate 256 (.i .u8 0)) []) fun c5 => bnd (astoreN p3.2 256 ((.c (.p ((h ++ [some (Row.mk (c1) true)])).length 0))) ((.a c5))) fun h6 => mp (aloadN h6 256 ((.c (.p ((h ++ [some (Row.mk (c1) true)])).length 0)))) fun v => (v, h6)) (bnd (afAddr ((.c (.p h.length 0))) 3) fun v7 => bnd (aload1 p3.2 v7) fun v8 => bnd (callv E_view_View_Block__Of_1 v8 [a1] p3.2) fun p9 => bnd (astoreN p9.2 256 ((.c (.p ((h ++ [some (Row.mk (c1) true)])).length 0))) p9.1) fun h10 => mp (aloadN h10 256 ((.c (.p ((h ++ [some (Row.mk (c1) true)])).length 0)))) fun v => (v, h10)) := by kernel_rfl
theorem K_view_View_Block__Of_1 : FnK Try.prog 38 A_view_View_Block__Of_1 E_view_View_Block__Of_1 R_view_View_Block__Of_1 := .mk' (sound1 S_view_View_there_ok (sound1 S_view_Of_1_ok sound0)) Try.func38 (by kernel_rfl) (by intro n args h; kernel_rfl)
def S_view_View_Block__Of_1 : Fun := tidy (Lim A_view_View_Block__Of_1 E_view_View_Block__Of_1)
theorem S_view_View_Block__Of_1_ok : SOk Try.prog 38 S_view_View_Block__Of_1 := K_view_View_Block__Of_1.sok
theorem S_view_View_Block__Of_1_flat {n : Nat} {args : List Val} {h h2 : Heap} {v : Val} (he : R_view_View_Block__Of_1 n args (ro h) = some (v, h2)) (hf : v.flat = true) : S_view_View_Block__Of_1 args h = some (v, h) := K_view_View_Block__Of_1.flat he hf
def view_View_Inode_o0 : List AOper := [aO 2 (.box (.t 0)), aO 4 (.alloc ([.i .i64 0, .i .i64 0, .i .i64 0, .i .i64 0, .i .i64 0, .i .i64 0, .i .i64 0, .i .i64 0, .i .i64 0, .i .i64 0, .i .i64 0]))]
def view_View_Inode_c0 : ACode := .ops view_View_Inode_o0
def view_View_Inode_o1 : List AOper := [aO 11 (.fAddr (.t 2) 0), aO 12 (.loadN 3 (.t 11)), aO 13 (.mv (.t 1)), aO 14 (.call 55 [(.t 12), (.t 13)]), aO 10 (.mv (.t 14)), aO 15 (.ext (.t 10) 0), aO 16 (.ext (.t 10) 1), aO 17 (.ext (.t 10) 2), aO 5 (.mv (.t 15)), aO 6 (.mv (.t 16)), aO 7 (.mv (.t 17))]
def view_View_Inode_c1 : ACode := .ops view_View_Inode_o1
def view_View_Inode_o2 : List AOper := [aO 18 (.mv (.t 7)), aO 19 (.un .not (.t 18))]
def view_View_Inode_c2 : ACode := .ops view_View_Inode_o2
def view_View_Inode_o3 : List AOper := [aO 20 (.build ([.i .i64 0, .i .i64 0, .i .i64 0, .i .i64 0, .i .i64 0, .i .i64 0, .i .i64 0, .i .i64 0, .i .i64 0, .i .i64 0, .i .i64 0]) []), { dst := none, op := .storeN 11 (.t 4) (.t 20) }]
def view_View_Inode_c3 : ACode := .ops view_View_Inode_o3
def view_View_Inode_c4 : ACode := .seq [4] view_View_Inode_c3 .ret
def view_View_Inode_c5 : ACode := .cond (.t 19) view_View_Inode_c4 .skip
def view_View_Inode_c6 : ACode := .seq [2, 4, 5, 6, 19] view_View_Inode_c2 view_View_Inode_c5
def view_View_Inode_o4 : List AOper := [aO 22 (.loadN 4 (.t 2)), aO 23 (.mv (.t 5)), aO 24 (.call 38 [(.t 22), (.t 23)]), aO 25 (.mv (.t 6)), aO 26 (.call 56 [(.t 24), (.t 25)]), aO 21 (.mv (.t 26)), aO 27 (.ext (.t 21) 0), aO 28 (.ext (.t 21) 1), aO 8 (.alloc ([.i .i64 0, .i .i64 0, .i .i64 0, .i .i64 0, .i .i64 0, .i .i64 0, .i .i64 0, .i .i64 0, .i .i64 0, .i .i64 0, .i .i64 0])), { dst := none, op := .storeN 11 (.t 8) (.t 27) }, aO 9 (.mv (.t 28))]
def view_View_Inode_c7 : ACode := .ops view_View_Inode_o4
def view_View_Inode_o5 : List AOper := [aO 29 (.loadN 11 (.t 8)), { dst := none, op := .storeN 11 (.t 4) (.t 29) }]
def view_View_Inode_c8 : ACode := .ops view_View_Inode_o5
def view_View_Inode_c9 : ACode := .seq [4] view_View_Inode_c8 .ret
def view_View_Inode_c10 : ACode := .seq [4, 8] view_View_Inode_c7 view_View_Inode_c9
def view_View_Inode_c11 : ACode := .seq [2, 4, 5, 6] view_View_Inode_c6 view_View_Inode_c10
def view_View_Inode_c12 : ACode := .seq [2, 4, 5, 6, 7] view_View_Inode_c1 view_View_Inode_c11
def view_View_Inode_c13 : ACode := .seq [1, 2, 4] view_View_Inode_c0 view_View_Inode_c12
def A_view_View_Inode : AFn := ⟨view_View_Inode_c13, [.cellN 4 11]⟩
def E_view_View_Inode : Sums := disp 55 S_geom_Where (disp 38 S_view_View_Block__Of_1 (disp 56 S_table_Get disp0))
def view_View_Inode_c0_d (n : Nat) : SmV := smOps E_view_View_Inode view_View_Inode_o0
def view_View_Inode_c1_d (n : Nat) : SmV := smOps E_view_View_Inode view_View_Inode_o1
def view_View_Inode_c2_d (n : Nat) : SmV := smOps E_view_View_Inode view_View_Inode_o2
def view_View_Inode_c3_d (n : Nat) : SmV := smOps E_view_View_Inode view_View_Inode_o3
def view_View_Inode_c4_d (n : Nat) : SmV := smSeq [4] (view_View_Inode_c3_d n) smRet
def view_View_Inode_c5_d (n : Nat) : SmV := smCond (.t 19) (view_View_Inode_c4_d n) smSkip
def view_View_Inode_c6_d (n : Nat) : SmV := smSeq [2, 4, 5, 6, 19] (view_View_Inode_c2_d n) (view_View_Inode_c5_d n)
def view_View_Inode_c7_d (n : Nat) : SmV := smOps E_view_View_Inode view_View_Inode_o4
def view_View_Inode_c8_d (n : Nat) : SmV := smOps E_view_View_Inode view_View_Inode_o5
def view_View_Inode_c9_d (n : Nat) : SmV := smSeq [4] (view_View_Inode_c8_d n) smRet
def view_View_Inode_c10_d (n : Nat) : SmV := smSeq [4, 8] (view_View_Inode_c7_d n) (view_View_Inode_c9_d n)
def view_View_Inode_c11_d (n : Nat) : SmV := smSeq [2, 4, 5, 6] (view_View_Inode_c6_d n) (view_View_Inode_c10_d n)
def view_View_Inode_c12_d (n : Nat) : SmV := smSeq [2, 4, 5, 6, 7] (view_View_Inode_c1_d n) (view_View_Inode_c11_d n)
def view_View_Inode_c13_d (n : Nat) : SmV := smSeq [1, 2, 4] (view_View_Inode_c0_d n) (view_View_Inode_c12_d n)
def R_view_View_Inode (n : Nat) (args : List Val) (h : Heap) : OptV := (view_View_Inode_c13_d n) A_view_View_Inode.fin (params 0 args) h
theorem R_view_View_Inode_eq (n : Nat) (a0 a1 : Val) (h : Heap) : R_view_View_Inode n [a0, a1] h = bnd (cells? a0) fun c1 => bnd (afAddr ((.c (.p h.length 0))) 0) fun v2 => bnd (aloadN (((h ++ [some (Row.mk (c1) true)]) ++ [some (Row.mk ([.i .i64 0, .i .i64 0, .i .i64 0, .i .i64 0, .i .i64 0, .i .i64 0, .i .i64 0, .i .i64 0, .i .i64 0, .i .i64 0, .i .i64 0]) true)])) 3 v2) fun v3 => bnd (S_geom_Where [v3, a1] (((h ++ [some (Row.mk (c1) true)]) ++ [some (Row.mk ([.i .i64 0, .i .i64 0, .i .i64 0, .i .i64 0, .i .i64 0, .i .i64 0, .i .i64 0, .i .i64 0, .i .i64 0, .i .i64 0, .i .i64 0]) true)]))) fun p4 => bnd (aext p4.1 0) fun v5 => bnd (aext p4.1 1) fun v6 => bnd (aext p4.1 2) fun v7 => bnd (aun .not v7) fun v8 => cnd v8 (bnd (afill ([.i .i64 0, .i .i64 0, .i .i64 0, .i .i64 0, .i .i64 0, .i .i64 0, .i .i64 0, .i .i64 0, .i .i64 0, .i .i64 0, .i .i64 0]) []) fun c9 => bnd (astoreN p4.2 11 ((.c (.p ((h ++ [some (Row.mk (c1) true)])).length 0))) ((.a c9))) fun h10 => mp (aloadN h10 11 ((.c (.p ((h ++ [some (Row.mk (c1) true)])).length 0)))) fun v => (v, h10)) (bnd (aloadN p4.2 4 ((.c (.p h.length 0)))) fun v11 => bnd (S_view_View_Block__Of_1 [v11, v5] p4.2) fun p12 => bnd (S_table_Get [p12.1, v6] p12.2) fun p13 => bnd (aext p13.1 0) fun v14 => bnd (aext p13.1 1) fun v15 => bnd (astoreN ((p13.2 ++ [some (Row.mk ([.i .i64 0, .i .i64 0, .i .i64 0, .i .i64 0, .i .i64 0, .i .i64 0, .i .i64 0, .i .i64 0, .i .i64 0, .i .i64 0, .i .i64 0]) true)])) 11 ((.c (.p p13.2.length 0))) v14) fun h16 => bnd (aloadN h16 11 ((.c (.p p13.2.length 0)))) fun v17 => bnd (astoreN h16 11 ((.c (.p ((h ++ [some (Row.mk (c1) true)])).length 0))) v17) fun h18 => mp (aloadN h18 11 ((.c (.p ((h ++ [some (Row.mk (c1) true)])).length 0)))) fun v => (v, h18)) := by kernel_rfl
theorem K_view_View_Inode : FnK Try.prog 17 A_view_View_Inode E_view_View_Inode R_view_View_Inode := .mk' (sound1 S_geom_Where_ok (sound1 S_view_View_Block__Of_1_ok (sound1 S_table_Get_ok sound0))) Try.func17 (by kernel_rfl) (by intro n args h; kernel_rfl)
def S_view_View_Inode : Fun := tidy (Lim A_view_View_Inode E_view_View_Inode)
theorem S_view_View_Inode_ok : SOk Try.prog 17 S_view_View_Inode := K_view_View_Inode.sok
theorem S_view_View_Inode_flat {n : Nat} {args : List Val} {h h2 : Heap} {v : Val} (he : R_view_View_Inode n args (ro h) = some (v, h2)) (hf : v.flat = true) : S_view_View_Inode args h = some (v, h) := K_view_View_Inode.flat he hf
def view_View_Used_o0 : List AOper := [aO 2 (.box (.t 0)), aO 4 (.mv (.v (.c (.b false))))]
def view_View_Used_c0 : ACode := .ops view_View_Used_o0
def view_View_Used_o1 : List AOper := [aO 5 (.fAddr (.t 2) 0), aO 6 (.loadN 3 (.t 5)), aO 7 (.call 70 [(.t 6)]), aO 8 (.bin .eql (.t 7) (.v (.c (.i .i64 0)))), aO 9 (.mv (.t 8)), { dst := some 10, op := .mv (.t 1), guard := some (9, true) }, { dst := some 11, op := .bin .geq (.t 10) (.v (.c (.i .i64 0))), guard := some (9, true) }, aO 12 (.pick (.t 9) (.t 11) (.v (.c (.b false)))), aO 13 (.mv (.t 12)), { dst := some 14, op := .mv (.t 1), guard := some (13, true) }, { dst := some 15, op := .fAddr (.t 2) 0, guard := some (13, true) }, { dst := some 16, op := .fAddr (.t 15) 0, guard := some (13, true) }, { dst := some 17, op := .load1 (.t 16), guard := some (13, true) }, { dst := some 18, op := .bin .lss (.t 14) (.t 17), guard := some (13, true) }, aO 19 (.pick (.t 13) (.t 18) (.v (.c (.b false)))), aO 20 (.mv (.t 19)), { dst := some 21, op := .loadN 4 (.t 2), guard := some (20, true) }, { dst := some 22, op := .call 72 [], guard := some (20, true) }, { dst := some 23, op := .call 38 [(.t 21), (.t 22)], guard := some (20, true) }, { dst := some 24, op := .mv (.t 1), guard := some (20, true) }]
def view_View_Used_o2 : List AOper := [{ dst := some 25, op := .call 71 [(.t 23), (.t 24)], guard := some (20, true) }, aO 26 (.pick (.t 20) (.t 25) (.v (.c (.b false)))), aO 4 (.mv (.t 26))]
def view_View_Used_c1 : ACode := .draw 0 view_View_Used_o1 view_View_Used_o2
def view_View_Used_c2 : ACode := .seq [4] view_View_Used_c1 .ret
def view_View_Used_c3 : ACode := .seq [1, 2] view_View_Used_c0 view_View_Used_c2
def A_view_View_Used : AFn := ⟨view_View_Used_c3, [.tmp 4]⟩
def E_view_View_Used : Sums := disp 70 S_super_Check (disp 72 S_geom_Map (disp 38 S_view_View_Block__Of_1 (disp 71 S_chart_Has disp0)))
def view_View_Used_c0_d (n : Nat) : SmV := smOps E_view_View_Used view_View_Used_o0
def view_View_Used_c1_d (n : Nat) : SmV := smDraw E_view_View_Used 0 view_View_Used_o1 view_View_Used_o2
def view_View_Used_c2_d (n : Nat) : SmV := smSeq [4] (view_View_Used_c1_d n) smRet
def view_View_Used_c3_d (n : Nat) : SmV := smSeq [1, 2] (view_View_Used_c0_d n) (view_View_Used_c2_d n)
def R_view_View_Used (n : Nat) (args : List Val) (h : Heap) : OptV := (view_View_Used_c3_d n) A_view_View_Used.fin (params 0 args) h
theorem R_view_View_Used_eq (n : Nat) (a0 a1 : Val) (h : Heap) : R_view_View_Used n [a0, a1] h = bnd (cells? a0) fun c1 => bnd (afAddr ((.c (.p h.length 0))) 0) fun v2 => bnd (aloadN ((h ++ [some (Row.mk (c1) true)])) 3 v2) fun v3 => bnd (quiet ((((h ++ [some (Row.mk (c1) true)])) ++ [])) (S_super_Check [v3] ((((h ++ [some (Row.mk (c1) true)])) ++ [])))) fun p4 => bnd (abin .eql p4.1 (.c (.i .i64 0))) fun v5 => bnd (gd v5 true (some (a1, p4.2)) (some (.no, p4.2))) fun p6 => bnd (gd v5 true (bnd (abin .geq p6.1 (.c (.i .i64 0))) fun v7 => some (v7, p6.2)) (some (.no, p6.2))) fun p8 => bnd (apick v5 p8.1 (.c (.b false))) fun v9 => bnd (gd v9 true (some (a1, p8.2)) (some (.no, p8.2))) fun p10 => bnd (gd v9 true (bnd (afAddr ((.c (.p h.length 0))) 0) fun v11 => some (v11, p10.2)) (some (.no, p10.2))) fun p12 => bnd (gd v9 true (bnd (afAddr p12.1 0) fun v13 => some (v13, p12.2)) (some (.no, p12.2))) fun p14 => bnd (gd v9 true (bnd (aload1 ((h ++ [some (Row.mk (c1) true)])) p14.1) fun v15 => some (v15, p14.2)) (some (.no, p14.2))) fun p16 => bnd (gd v9 true (bnd (abin .lss p10.1 p16.1) fun v17 => some (v17, p16.2)) (some (.no, p16.2))) fun p18 => bnd (apick v9 p18.1 (.c (.b false))) fun v19 => bnd (gd v19 true (bnd (aloadN ((h ++ [some (Row.mk (c1) true)])) 4 ((.c (.p h.length 0)))) fun v20 => some (v20, p18.2)) (some (.no, p18.2))) fun p21 => bnd (gd v19 true (bnd (quiet p21.2 (S_geom_Map [] p21.2)) fun p22 => some (p22.1, p22.2)) (some (.no, p21.2))) fun p23 => bnd (gd v19 true (bnd (quiet p23.2 (S_view_View_Block__Of_1 [p21.1, p23.1] p23.2)) fun p24 => some (p24.1, p24.2)) (some (.no, p23.2))) fun p25 => bnd (gd v19 true (some (a1, p25.2)) (some (.no, p25.2))) fun p26 => bnd (gd v19 true (bnd (S_chart_Has [p25.1, p26.1] p26.2) fun p27 => some (p27.1, p27.2)) (some (.no, p26.2))) fun p28 => bnd (apick v19 p28.1 (.c (.b false))) fun v29 => some (v29, p28.2) := by kernel_rfl
theorem K_view_View_Used : FnK Try.prog 33 A_view_View_Used E_view_View_Used R_view_View_Used := .mk' (sound1 S_super_Check_ok (sound1 S_geom_Map_ok (sound1 S_view_View_Block__Of_1_ok (sound1 S_chart_Has_ok sound0)))) Try.func33 (by kernel_rfl) (by intro n args h; kernel_rfl)
def S_view_View_Used : Fun := tidy (Lim A_view_View_Used E_view_View_Used)
theorem S_view_View_Used_ok : SOk Try.prog 33 S_view_View_Used := K_view_View_Used.sok
theorem S_view_View_Used_flat {n : Nat} {args : List Val} {h h2 : Heap} {v : Val} (he : R_view_View_Used n args (ro h) = some (v, h2)) (hf : v.flat = true) : S_view_View_Used args h = some (v, h) := K_view_View_Used.flat he hf
def view_View_Inodes_o0 : List AOper := [aO 1 (.box (.t 0)), aO 2 (.nilrow 1)]
def view_View_Inodes_c0 : ACode := .ops view_View_Inodes_o0
def view_View_Inodes_o1 : List AOper := [aO 3 (.nilrow 1)]
def view_View_Inodes_c1 : ACode := .ops view_View_Inodes_o1
def view_View_Inodes_o2 : List AOper := [aO 5 (.mv (.v (.c (.i .i64 0))))]
def view_View_Inodes_c2 : ACode := .ops view_View_Inodes_o2
def view_View_Inodes_o3 : List AOper := [aO 6 (.bin .lss (.t 5) (.v (.c (.i .i64 128))))]
def view_View_Inodes_c3 : ACode := .ops view_View_Inodes_o3
def view_View_Inodes_c4 : ACode := .cond (.t 6) .skip (.exit 0)
def view_View_Inodes_o4 : List AOper := [aO 7 (.mv (.t 5)), aO 4 (.mv (.t 7))]
def view_View_Inodes_c5 : ACode := .ops view_View_Inodes_o4
def view_View_Inodes_o5 : List AOper := [aO 8 (.loadN 4 (.t 1)), aO 9 (.mv (.t 4)), aO 10 (.bin .add (.t 9) (.v (.c (.i .i64 1)))), aO 11 (.call 17 [(.t 8), (.t 10)]), aO 12 (.fld1 (.t 11) 0), aO 13 (.bin .neq (.t 12) (.v (.c (.i .i64 0))))]
def view_View_Inodes_c6 : ACode := .ops view_View_Inodes_o5
def view_View_Inodes_o6 : List AOper := [aO 14 (.mv (.t 3)), aO 15 (.mv (.t 4)), aO 16 (.bin .add (.t 15) (.v (.c (.i .i64 1)))), aO 17 (.buildSl 1 1 ([.i .i64 0]) [(0, 1, (.t 16))]), aO 18 (.app 1 (.t 14) (.t 17)), aO 3 (.mv (.t 18))]
def view_View_Inodes_c7 : ACode := .ops view_View_Inodes_o6
def view_View_Inodes_c8 : ACode := .cond (.t 13) view_View_Inodes_c7 .skip
def view_View_Inodes_c9 : ACode := .seq [1, 3, 4, 5, 13] view_View_Inodes_c6 view_View_Inodes_c8
def view_View_Inodes_c10 : ACode := .seq [1, 3, 4, 5] view_View_Inodes_c5 view_View_Inodes_c9
def view_View_Inodes_c11 : ACode := .block 1 view_View_Inodes_c10
def view_View_Inodes_o7 : List AOper := [aO 19 (.bin .add (.t 5) (.v (.c (.i .i64 1)))), aO 5 (.mv (.t 19))]
def view_View_Inodes_c12 : ACode := .ops view_View_Inodes_o7
def view_View_Inodes_c13 : ACode := .seq [1, 3, 5] view_View_Inodes_c11 view_View_Inodes_c12
def view_View_Inodes_c14 : ACode := .seq [1, 3, 5] view_View_Inodes_c4 view_View_Inodes_c13
def view_View_Inodes_c15 : ACode := .seq [1, 3, 5, 6] view_View_Inodes_c3 view_View_Inodes_c14
def view_View_Inodes_c16 : ACode := .loop [1, 3, 5] view_View_Inodes_c15
def view_View_Inodes_c17 : ACode := .block 0 view_View_Inodes_c16
def view_View_Inodes_c18 : ACode := .seq [1, 3, 5] view_View_Inodes_c2 view_View_Inodes_c17
def view_View_Inodes_o8 : List AOper := [aO 20 (.mv (.t 3)), aO 2 (.mv (.t 20))]
def view_View_Inodes_c19 : ACode := .ops view_View_Inodes_o8
def view_View_Inodes_c20 : ACode := .seq [2] view_View_Inodes_c19 .ret
def view_View_Inodes_c21 : ACode := .seq [3] view_View_Inodes_c18 view_View_Inodes_c20
def view_View_Inodes_c22 : ACode := .seq [1, 3] view_View_Inodes_c1 view_View_Inodes_c21
def view_View_Inodes_c23 : ACode := .seq [1] view_View_Inodes_c0 view_View_Inodes_c22
def A_view_View_Inodes : AFn := ⟨view_View_Inodes_c23, [.tmp 2]⟩
def E_view_View_Inodes : Sums := disp 17 S_view_View_Inode disp0
def view_View_Inodes_c0_d (n : Nat) : SmV := smOps E_view_View_Inodes view_View_Inodes_o0
def view_View_Inodes_c1_d (n : Nat) : SmV := smOps E_view_View_Inodes view_View_Inodes_o1
def view_View_Inodes_c2_d (n : Nat) : SmV := smOps E_view_View_Inodes view_View_Inodes_o2
def view_View_Inodes_c3_d (n : Nat) : SmV := smOps E_view_View_Inodes view_View_Inodes_o3
def view_View_Inodes_c4_d (n : Nat) : SmV := smCond (.t 6) smSkip (smExit 0)
def view_View_Inodes_c5_d (n : Nat) : SmV := smOps E_view_View_Inodes view_View_Inodes_o4
def view_View_Inodes_c6_d (n : Nat) : SmV := smOps E_view_View_Inodes view_View_Inodes_o5
def view_View_Inodes_c7_d (n : Nat) : SmV := smOps E_view_View_Inodes view_View_Inodes_o6
def view_View_Inodes_c8_d (n : Nat) : SmV := smCond (.t 13) (view_View_Inodes_c7_d n) smSkip
def view_View_Inodes_c9_d (n : Nat) : SmV := smSeq [1, 3, 4, 5, 13] (view_View_Inodes_c6_d n) (view_View_Inodes_c8_d n)
def view_View_Inodes_c10_d (n : Nat) : SmV := smSeq [1, 3, 4, 5] (view_View_Inodes_c5_d n) (view_View_Inodes_c9_d n)
def view_View_Inodes_c11_d (n : Nat) : SmV := smBlock 1 (view_View_Inodes_c10_d n)
def view_View_Inodes_c12_d (n : Nat) : SmV := smOps E_view_View_Inodes view_View_Inodes_o7
def view_View_Inodes_c13_d (n : Nat) : SmV := smSeq [1, 3, 5] (view_View_Inodes_c11_d n) (view_View_Inodes_c12_d n)
def view_View_Inodes_c14_d (n : Nat) : SmV := smSeq [1, 3, 5] (view_View_Inodes_c4_d n) (view_View_Inodes_c13_d n)
def view_View_Inodes_c15_d (n : Nat) : SmV := smSeq [1, 3, 5, 6] (view_View_Inodes_c3_d n) (view_View_Inodes_c14_d n)
def view_View_Inodes_c16_d (n : Nat) : SmV := smLoop n [1, 3, 5] (view_View_Inodes_c15_d n)
def view_View_Inodes_c17_d (n : Nat) : SmV := smBlock 0 (view_View_Inodes_c16_d n)
def view_View_Inodes_c18_d (n : Nat) : SmV := smSeq [1, 3, 5] (view_View_Inodes_c2_d n) (view_View_Inodes_c17_d n)
def view_View_Inodes_c19_d (n : Nat) : SmV := smOps E_view_View_Inodes view_View_Inodes_o8
def view_View_Inodes_c20_d (n : Nat) : SmV := smSeq [2] (view_View_Inodes_c19_d n) smRet
def view_View_Inodes_c21_d (n : Nat) : SmV := smSeq [3] (view_View_Inodes_c18_d n) (view_View_Inodes_c20_d n)
def view_View_Inodes_c22_d (n : Nat) : SmV := smSeq [1, 3] (view_View_Inodes_c1_d n) (view_View_Inodes_c21_d n)
def view_View_Inodes_c23_d (n : Nat) : SmV := smSeq [1] (view_View_Inodes_c0_d n) (view_View_Inodes_c22_d n)
def view_View_Inodes_k0 (n : Nat) : AExit → Env → Heap → OptV := fun x e h => match x with | .normal => hold ((view_View_Inodes_c20_d n) A_view_View_Inodes.fin (e.keep [3]) h) | .exit id => A_view_View_Inodes.fin (.exit id) e h | .ret => A_view_View_Inodes.fin .ret e h
def view_View_Inodes_k1 (n : Nat) : AExit → Env → Heap → OptV := fun x e h => match x with | .exit i => bif Nat.beq i 0 then (view_View_Inodes_k0 n) .normal e h else (view_View_Inodes_k0 n) (.exit i) e h | .normal => (view_View_Inodes_k0 n) .normal e h | .ret => (view_View_Inodes_k0 n) .ret e h
def view_View_Inodes_l0 (n m : Nat) (x1 x3 x5 : Val) (h : Heap) : OptV := around (view_View_Inodes_c15_d n) [1, 3, 5] (view_View_Inodes_k1 n) m [(1, x1), (3, x3), (5, x5)] h
def R_view_View_Inodes (n : Nat) (args : List Val) (h : Heap) : OptV := (view_View_Inodes_c23_d n) A_view_View_Inodes.fin (params 0 args) h
def view_View_Inodes_k2 (n m : Nat) : AExit → Env → Heap → OptV := fun x e h => match x with | .normal => around (view_View_Inodes_c15_d n) [1, 3, 5] (view_View_Inodes_k1 n) m (e.keep [1, 3, 5]) h | .exit id => (view_View_Inodes_k1 n) (.exit id) e h | .ret => (view_View_Inodes_k1 n) .ret e h
def view_View_Inodes_j0 (n m : Nat) (x1 x3 x5 : Val) (h : Heap) : OptV := hold ((view_View_Inodes_c12_d n) (view_View_Inodes_k2 n m) [(1, x1), (3, x3), (5, x5)] h)
theorem R_view_View_Inodes_eq (n : Nat) (a0 : Val) (h : Heap) : R_view_View_Inodes n [a0] h = bnd (cells? a0) fun c1 => view_View_Inodes_l0 n n ((.c (.p h.length 0))) ((.c (.sl (((h ++ [some (Row.mk (c1) true)]) ++ [some (Row.mk ([]) true)])).length 0 0 1))) (.c (.i .i64 0)) ((((h ++ [some (Row.mk (c1) true)]) ++ [some (Row.mk ([]) true)]) ++ [some (Row.mk ([]) true)])) := by kernel_rfl
theorem view_View_Inodes_l0_eq (n m : Nat) (x1 x3 x5 : Val) (h : Heap) : view_View_Inodes_l0 n (m + 1) x1 x3 x5 h = bnd (abin .lss x5 (.c (.i .i64 128))) fun v2 => cnd v2 (bnd (aloadN h 4 x1) fun v3 => bnd (abin .add x5 (.c (.i .i64 1))) fun v4 => bnd (S_view_View_Inode [v3, v4] h) fun p5 => bnd (afld1 p5.1 0) fun v6 => bnd (abin .neq v6 (.c (.i .i64 0))) fun v7 => cnd v7 (bnd (abin .add x5 (.c (.i .i64 1))) fun v8 => bnd (afill ([.i .i64 0]) [(0, 1, v8)]) fun c9 => bnd (aapp ((p5.2 ++ [some (Row.mk (c9) true)])) 1 x3 ((.c (.sl p5.2.length 0 1 1)))) fun p10 => view_View_Inodes_j0 n m x1 p10.1 x5 p10.2) (view_View_Inodes_j0 n m x1 x3 x5 p5.2)) (some (x3, h)) := by kernel_rfl
theorem view_View_Inodes_j0_eq (n m : Nat) (x1 x3 x5 : Val) (h : Heap) : view_View_Inodes_j0 n m x1 x3 x5 h = bnd (abin .add x5 (.c (.i .i64 1))) fun v11 => view_View_Inodes_l0 n m x1 x3 v11 h := by kernel_rfl
theorem K_view_View_Inodes : FnK Try.prog 31 A_view_View_Inodes E_view_View_Inodes R_view_View_Inodes := .mk' (sound1 S_view_View_Inode_ok sound0) Try.func31 (by kernel_rfl) (by intro n args h; kernel_rfl)
def S_view_View_Inodes : Fun := tidy (Lim A_view_View_Inodes E_view_View_Inodes)
theorem S_view_View_Inodes_ok : SOk Try.prog 31 S_view_View_Inodes := K_view_View_Inodes.sok
theorem S_view_View_Inodes_out {n : Nat} {args : List Val} {h h2 : Heap} {v : Val} {sz k : Nat} {cs : List Cell} (he : R_view_View_Inodes n args (ro h) = some (v, h2)) (ho : Out h.length h2 v sz k cs) (hf : flats cs = true) : S_view_View_Inodes args h = some (.c (.sl h.length 0 k sz), h ++ [some ⟨cs, true⟩]) := K_view_View_Inodes.out he ho hf
def view_On_o0 : List AOper := [aO 2 (.box (.t 0)), aO 3 (.box (.t 1)), aO 4 (.alloc ([.i .i64 0, .i .i64 0, .i .u64 0, .nf]))]
def view_On_c0 : ACode := .ops view_On_o0
def view_On_o1 : List AOper := [aO 5 (.loadN 3 (.t 2)), aO 6 (.mkf 77 [(.t 3)]), aO 7 (.build ([.i .i64 0, .i .i64 0, .i .u64 0, .nf]) [(0, 3, (.t 5)), (3, 1, (.t 6))]), { dst := none, op := .storeN 4 (.t 4) (.t 7) }]
def view_On_c1 : ACode := .ops view_On_o1
def view_On_c2 : ACode := .seq [4] view_On_c1 .ret
def view_On_c3 : ACode := .seq [2, 3, 4] view_On_c0 view_On_c2
def A_view_On : AFn := ⟨view_On_c3, [.cellN 4 4]⟩
def E_view_On : Sums := disp0
def view_On_c0_d (n : Nat) : SmV := smOps E_view_On view_On_o0
def view_On_c1_d (n : Nat) : SmV := smOps E_view_On view_On_o1
def view_On_c2_d (n : Nat) : SmV := smSeq [4] (view_On_c1_d n) smRet
def view_On_c3_d (n : Nat) : SmV := smSeq [2, 3, 4] (view_On_c0_d n) (view_On_c2_d n)
def R_view_On (n : Nat) (args : List Val) (h : Heap) : OptV := (view_On_c3_d n) A_view_On.fin (params 0 args) h
theorem R_view_On_eq (n : Nat) (a0 a1 : Val) (h : Heap) : R_view_On n [a0, a1] h = bnd (cells? a0) fun c1 => bnd (cells? a1) fun c2 => bnd (aloadN ((((h ++ [some (Row.mk (c1) true)]) ++ [some (Row.mk (c2) true)]) ++ [some (Row.mk ([.i .i64 0, .i .i64 0, .i .u64 0, .nf]) true)])) 3 ((.c (.p h.length 0)))) fun v3 => bnd (amkf 77 [(.c (.p ((h ++ [some (Row.mk (c1) true)])).length 0))]) fun v4 => bnd (afill ([.i .i64 0, .i .i64 0, .i .u64 0, .nf]) [(0, 3, v3), (3, 1, v4)]) fun c5 => bnd (astoreN ((((h ++ [some (Row.mk (c1) true)]) ++ [some (Row.mk (c2) true)]) ++ [some (Row.mk ([.i .i64 0, .i .i64 0, .i .u64 0, .nf]) true)])) 4 ((.c (.p (((h ++ [some (Row.mk (c1) true)]) ++ [some (Row.mk (c2) true)])).length 0))) ((.a c5))) fun h6 => mp (aloadN h6 4 ((.c (.p (((h ++ [some (Row.mk (c1) true)]) ++ [some (Row.mk (c2) true)])).length 0)))) fun v => (v, h6) := by kernel_rfl
theorem K_view_On : FnK Try.prog 39 A_view_On E_view_On R_view_On := .mk' (sound0) Try.func39 (by kernel_rfl) (by intro n args h; kernel_rfl)
def S_view_On : Fun := Lim A_view_On E_view_On
theorem S_view_On_ok : SOk Try.prog 39 S_view_On := K_view_On.ok
theorem S_view_On_of {n : Nat} {args : List Val} {h : Heap} {p : Val × Heap} (he : R_view_On n args h = some p) : S_view_On args h = some p := K_view_On.of he
end Go.Proofs.Ytdgggnlbdoiloaa
end
section
namespace Go.Proofs.Ytdgggnlbdoiloaa
open Go Go.Esc

def IsView (h : Heap) (f : Cell) (D : Dev) : Prop := ∃ r q rw rw', f = .f 54 [(r, 0)] ∧ rd h r = some ⟨[.sl q 0 D.length 256], rw⟩ ∧ rd h q = some ⟨cellsD D, rw'⟩
theorem IsView.ro {h : Heap} {f : Cell} {D : Dev} (hv : IsView h f D) : IsView (ro h) f D := by
  obtain ⟨r, q, rw, rw', e, h1, h2⟩ := hv
  exact ⟨r, q, false, false, e, by rw [rd_ro, h1]; rfl, by rw [rd_ro, h2]; rfl⟩
theorem IsView.more {h : Heap} {f : Cell} {D : Dev} (hv : IsView h f D) (l : Heap) : IsView (h ++ l) f D := by
  obtain ⟨r, q, rw, rw', e, h1, h2⟩ := hv
  exact ⟨r, q, rw, rw', e, rd_append h1, rd_append h2⟩
theorem IsView.since {g h : Heap} {f : Cell} {D : Dev} (hv : IsView g f D) (h1 : Low g.length g h) : IsView h f D := by
  obtain ⟨r, q, rw, rw', e, h2, h3⟩ := hv
  exact ⟨r, q, rw, rw', e, h1.rd h2, h1.rd h3⟩
theorem IsView.get {h : Heap} {f : Cell} {D : Dev} (hv : IsView h f D) : ∃ id cs, f = .f id cs := by
  obtain ⟨r, q, rw, rw', e, _⟩ := hv
  exact ⟨_, _, e⟩

def vwC (b n m : Int) (f : Cell) : List Cell := [.i .i64 b, .i .i64 n, .i .u64 m, f]

section
variable {D : Dev} {n m : Int} {f : Cell}
theorem vw_l3 {b : Int} : ldN (some (Row.mk (vwC b n m f) true)) 0 3 = some (.a (layC b n m)) := rfl
theorem vw_l4 {b : Int} : ldN (some (Row.mk (vwC b n m f) true)) 0 4 = some (.a (vwC b n m f)) := rfl
end

theorem view_Of_1_eq {h : Heap} {r q : Nat} {rw rw' : Bool} {D : Dev} {no : Nat} (hD : okD D) (hno : no < D.length) (h1 : rd h r = some ⟨[.sl q 0 D.length 256], rw⟩) (h2 : rd h q = some ⟨cellsD D, rw'⟩) :
    S_view_Of_1 [.c (.i .i64 (no : Int)), .c (.p r 0)] h = some (.a (encB D[no]), h) := by
  have key : ∀ g rw rw', rd g r = some ⟨[.sl q 0 D.length 256], rw⟩ → rd g q = some ⟨cellsD D, rw'⟩ → ∃ g', R_view_Of_1 0 [.c (.i .i64 (no : Int)), .c (.p r 0)] g = some (.a (encB D[no]), g') := by
    intro g rw rw' h1 h2
    have hz : (List.replicate 256 (Cell.i .u8 0)).length = 256 := List.length_replicate
    have hB : (encB D[no]).length = 256 := by rw [encB_length, hD.at hno]
    have l1 : aload1 (g ++ [some (Row.mk (List.replicate 256 (.i .u8 0)) true)]) (.c (.p r 0)) = some (.c (.sl q 0 D.length 256)) := load1_of (cs := [.sl q 0 D.length 256]) (rd_append h1) rfl (by cases rw <;> rfl)
    have a1 : aiAddrL 256 (.c (.sl q 0 D.length 256)) (.c (.i .i64 (no : Int))) = some (.c (.p q (0 + no * 256))) := iAddrL_of hno
    have l2 : aloadN (g ++ [some (Row.mk (List.replicate 256 (.i .u8 0)) true)]) 256 (.c (.p q (0 + no * 256))) = some (.a (encB D[no])) := by
      rw [loadN_of (cs := cellsD D) (rw := rw') (rd_append h2) (by rw [cellsD_length hD]; omega) (by
        rw [Nat.zero_add, cellsD_at hD hno, noX_encB]; simp), Nat.zero_add, cellsD_at hD hno]
    rw [Nat.zero_add] at a1 l2
    rw [R_view_Of_1_eq]
    generalize List.replicate 256 (Cell.i .u8 0) = z at *
    generalize encB D[no] = y at *
    exact ⟨_, by simp only [esc, esh, Nat.reduceAdd, Nat.reduceMul, Nat.reduceLT, l1, a1, l2, hz, hB] <;> rfl⟩
  obtain ⟨g', e⟩ := key (ro h) false false (by rw [rd_ro, h1]; rfl) (by rw [rd_ro, h2]; rfl)
  exact S_view_Of_1_flat e (by simp [Val.flat])

theorem view_there_eq {b n m no : Int} {f : Nat} {cs : List (Nat × Nat)} {h : Heap} : S_view_View_there [.a (vwC b n m (.f f cs)), .c (.i .i64 no)] h = some (.c (.b (decide (0 ≤ no) && decide (no < b))), h) := by
  have key : ∀ g, ∃ g', R_view_View_there 0 [.a (vwC b n m (.f f cs)), .c (.i .i64 no)] g = some (.c (.b (decide (0 ≤ no) && decide (no < b))), g') := by
    intro g
    rw [R_view_View_there_eq]
    unfold vwC
    by_cases c1 : 0 ≤ no
    · exact ⟨_, by simp only [esc, esh, Nat.reduceAdd, Nat.reduceMul, Nat.reduceLT, c1] <;> rfl⟩
    · exact ⟨_, by simp only [esc, esh, Nat.reduceAdd, Nat.reduceMul, Nat.reduceLT, c1, Bool.false_and] <;> rfl⟩
  obtain ⟨g', e⟩ := key (ro h)
  exact S_view_View_there_flat e rfl
theorem view_there_nf {b n m no : Int} {h : Heap} : S_view_View_there [.a (vwC b n m .nf), .c (.i .i64 no)] h = some (.c (.b false), h) := by
  have key : ∀ g, ∃ g', R_view_View_there 0 [.a (vwC b n m .nf), .c (.i .i64 no)] g = some (.c (.b false), g') := by
    intro g
    rw [R_view_View_there_eq]
    unfold vwC
    exact ⟨_, by simp only [esc, esh, Nat.reduceAdd, Nat.reduceMul, Nat.reduceLT] <;> rfl⟩
  obtain ⟨g', e⟩ := key (ro h)
  exact S_view_View_there_flat e rfl

theorem view_Block_eq {n m no : Int} {f : Cell} {D : Dev} {h : Heap} (hD : okD D) (hv : IsView h f D) : S_view_View_Block__Of_1 [.a (vwC D.length n m f), .c (.i .i64 no)] h = some (.a (encB (blk D no)), h) := by
  have key : ∀ g, IsView g f D → ∃ g', R_view_View_Block__Of_1 0 [.a (vwC D.length n m f), .c (.i .i64 no)] g = some (.a (encB (blk D no)), g') := by
    intro g hv
    have hz : (encB (zeros 256)).length = 256 := by rw [encB_length]; exact zeros_length
    have hB : (encB (blk D no)).length = 256 := by rw [encB_length, blk_length hD]
    obtain ⟨r, q, rw', rw'', rfl, h1, h2⟩ := hv
    have hT := fun h => view_there_eq (b := D.length) (n := n) (m := m) (no := no) (f := 54) (cs := [(r, 0)]) (h := h)
    have hcv : ∀ (x : Val) (h : Heap), callv E_view_View_Block__Of_1 (.c (.f 54 [(r, 0)])) [x] h = S_view_Of_1 [x, .c (.p r 0)] h := fun _ _ => Eq.trans rfl rfl
    rw [R_view_View_Block__Of_1_eq, zeros_enc]
    by_cases c1 : 0 ≤ no ∧ no < D.length
    · have c2 := c1.1
      have c3 := c1.2
      obtain ⟨k, rfl⟩ : ∃ k : Nat, no = k := ⟨no.toNat, by omega⟩
      have e1 := blk_at (D := D) (i := k) (by omega)
      have hO := view_Of_1_eq (h := g ++ [some (Row.mk (vwC D.length n m (.f 54 [(r, 0)])) true), some (Row.mk (encB (zeros 256)) true)]) hD (show k < D.length by omega) (rd_append h1) (rd_append h2)
      rw [← e1] at hO
      simp only [c2, c3, decide_true, Bool.and_self] at hT
      generalize encB (zeros 256) = z at *
      generalize encB (blk D k) = y at *
      unfold vwC at *
      exact ⟨_, by simp only [esc, esh, Nat.reduceAdd, Nat.reduceMul, Nat.reduceLT, hT, hcv, hO, hz, hB] <;> rfl⟩
    · have e1 := blk_none (D := D) (i := no) (by omega)
      have ht : (decide (0 ≤ no) && decide (no < (D.length : Int))) = false := by
        rw [Bool.and_eq_false_iff, decide_eq_false_iff_not, decide_eq_false_iff_not]; omega
      simp only [ht] at hT
      rw [e1] at hB ⊢
      have ef : afill (encB (zeros 256)) [] = some (encB (zeros 256)) := rfl
      generalize encB (zeros 256) = z at *
      unfold vwC at *
      exact ⟨_, by simp only [esc, esh, Nat.reduceAdd, Nat.reduceMul, Nat.reduceLT, hT, ef, hz] <;> rfl⟩
  obtain ⟨g', e⟩ := key (ro h) hv.ro
  exact S_view_View_Block__Of_1_flat e (by simp [Val.flat])

theorem app_has {h : Heap} {id m sz : Nat} {ys : List Cell} {y : Val} (hr : rd h id = some ⟨[], true⟩) (hy : Has h y sz m ys) (hsz : 0 < sz) (hn : m ≤ 1073741824) :
    aapp h sz (.c (.sl id 0 0 sz)) y = some (.c (.sl h.length 0 m sz), h.set id none ++ [some ⟨ys, true⟩]) := by
  have h1 := hy.add
  have h2 : ys.length / sz = m := by rw [hy.length]; exact Nat.mul_div_cancel m hsz
  simp only [aapp, h1, hr, Option.bind_some, h2, List.nil_append, Nat.zero_add]
  rw [if_pos ⟨trivial, trivial, by simp, trivial, hn⟩]

def devL (D : Dev) : Bool := okS (D.headD []) && decide (fieldN (D.headD []) 8 2 = D.length)
def devN (D : Dev) : Int := fieldN (D.headD []) 10 2
def devM (D : Dev) : Int := fieldN (D.headD []) 12 8

theorem view_Of_nil {v : Val} {h : Heap} (hv : Has h v 256 0 []) : ∃ t, S_view_Of [v] h = some (.t [.a (vwC 0 0 0 .nf), .c (.i .i64 13)], h ++ t) := by
  have ef : afill [Cell.i .i64 0, .i .i64 0, .i .u64 0, .nf] [] = some [Cell.i .i64 0, .i .i64 0, .i .u64 0, .nf] := rfl
  have hl := hv.len
  rw [show ((0 : Nat) : Int) = 0 from rfl] at hl
  exact ⟨_, S_view_Of_of (n := 0) (by rw [R_view_Of_eq]; simp only [esc, esh, Nat.reduceAdd, Nat.reduceMul, Nat.reduceLT, hl, ef, vwC] <;> rfl)⟩

theorem layS_no {b : List UInt8} (h : okS b = false) : layS b = layC 0 0 0 := by unfold layS; rw [h]; rfl
theorem layS_ok {b : List UInt8} (h : okS b = true) : layS b = layC (fieldN b 8 2) (fieldN b 10 2) (fieldN b 12 8) := by unfold layS; rw [h]; rfl

theorem view_Of_no {v : Val} {D : Dev} {h : Heap} (hv : Has h v 256 D.length (cellsD D)) (hD : okD D) (h0 : 0 < D.length) (hn : devL D = false) : ∃ t, S_view_Of [v] h = some (.t [.a (vwC 0 0 0 .nf), .c (.i .i64 13)], h ++ t) := by
  have ef : afill [Cell.i .i64 0, .i .i64 0, .i .u64 0, .nf] [] = some [Cell.i .i64 0, .i .i64 0, .i .u64 0, .nf] := rfl
  have hl := hv.len
  have hv2 := hv.more [some (Row.mk [.i .i64 0, .i .i64 0, .i .u64 0, .nf] true)]
  obtain ⟨b, E, rfl⟩ : ∃ b E, D = b :: E := by cases D with | nil => simp at h0 | cons b E => exact ⟨b, E, rfl⟩
  obtain ⟨id, off, rfl, hid, _, hB⟩ := hv2.sl h0
  have hBl : (encB b).length = 256 := by rw [encB_length, hD.cons.1]
  have l2 := hB 0 256 (by rw [cellsD_length hD]; omega)
  have ec : ((cellsD (b :: E)).drop 0).take 256 = encB b := by
    have := cellsD_at (i := 0) hD h0
    rwa [Nat.zero_mul] at this
  rw [ec, Nat.add_zero] at l2
  have a1 : aiAddrL 256 (.c (.sl id off (b :: E).length 256)) (.c (.i .i64 0)) = some (.c (.p id off)) := by
    have := iAddrL_of (k := .i64) (id := id) (off := off) (sz := 256) (j := 0) (len := (b :: E).length) h0
    rwa [Nat.zero_mul, Nat.add_zero] at this
  have hG := fun h => super_Get_eq (h := h) hD.cons.1
  have c0 : ¬ (((b :: E).length : Nat) : Int) = 0 := by omega
  have n13 : ¬ (13 : Int) = 0 := by decide
  unfold devL at hn
  simp only [List.headD_cons] at hn
  cases ho : okS b with
  | false =>
    simp only [ho, layS_no ho, cond_false] at hG
    refine ⟨[some (Row.mk [.i .i64 0, .i .i64 0, .i .u64 0, .nf] true), some (Row.mk [.i .i64 0, .i .i64 0, .i .u64 0] true)], S_view_Of_of (n := 0) ?_⟩
    rw [R_view_Of_eq]
    generalize (b :: E).length = N at *
    generalize encB b = y at *
    unfold layC at *
    simp only [esc, esh, Nat.reduceAdd, Nat.reduceMul, Nat.reduceLT, ef, vwC, l2, a1, hG, n13, eq_self, c0] <;> rfl
  | true =>
    rw [ho, Bool.true_and] at hn
    replace hn := of_decide_eq_false hn
    simp only [ho, layS_ok ho, cond_true] at hG
    refine ⟨[some (Row.mk [.i .i64 0, .i .i64 0, .i .u64 0, .nf] true), some (Row.mk [.i .i64 (fieldN b 8 2), .i .i64 (fieldN b 10 2), .i .u64 (fieldN b 12 8)] true)], S_view_Of_of (n := 0) ?_⟩
    rw [R_view_Of_eq]
    generalize (b :: E).length = N at *
    generalize encB b = y at *
    generalize fieldN b 8 2 = n1 at *
    unfold layC at *
    simp only [esc, esh, Nat.reduceAdd, Nat.reduceMul, Nat.reduceLT, ef, vwC, l2, a1, hG, n13, eq_self, c0, hn] <;> rfl

theorem view_Of_bad {v : Val} {D : Dev} {h : Heap} (hv : Has h v 256 D.length (cellsD D)) (hD : okD D) (hn : devL D = false) : ∃ t, S_view_Of [v] h = some (.t [.a (vwC 0 0 0 .nf), .c (.i .i64 13)], h ++ t) := by
  by_cases h0 : D = []
  · subst h0; exact view_Of_nil hv
  · exact view_Of_no hv hD (List.length_pos_iff.2 h0) hn

theorem view_Of_ok {v : Val} {D : Dev} {h : Heap} (hv : Has h v 256 D.length (cellsD D)) (hD : okD D) (hn : devL D = true) (h60 : D.length ≤ 1073741824) :
    ∃ f t, S_view_Of [v] h = some (.t [.a (vwC D.length (devN D) (devM D) f), .c (.i .i64 0)], h ++ t) ∧ IsView (h ++ t) f D := by
  obtain ⟨b, E, rfl⟩ : ∃ b E, D = b :: E := by
    cases D with
    | nil => simp only [devL, List.headD_nil, List.length_nil, Bool.and_eq_true, decide_eq_true_eq] at hn; exact absurd hn.1 (by decide)
    | cons b E => exact ⟨b, E, rfl⟩
  have h0 : 0 < (b :: E).length := by simp
  have hv2 := hv.more [some (Row.mk [.i .i64 0, .i .i64 0, .i .u64 0, .nf] true)]
  unfold devL at hn
  simp only [List.headD_cons, Bool.and_eq_true, decide_eq_true_eq] at hn
  have ho := hn.1
  have hn2 := of_decide_eq_true hn.2
  have hv3 := hv.more [some (Row.mk [.i .i64 0, .i .i64 0, .i .u64 0, .nf] true), some (Row.mk (layC (b :: E).length (fieldN b 10 2) (fieldN b 12 8)) true), some (Row.mk [] true)]
  obtain ⟨id, off, rfl, hid, _, hB⟩ := hv2.sl h0
  have hBl : (encB b).length = 256 := by rw [encB_length, hD.cons.1]
  have l2 := hB 0 256 (by rw [cellsD_length hD]; omega)
  have ec : ((cellsD (b :: E)).drop 0).take 256 = encB b := by
    have := cellsD_at (i := 0) hD h0
    rwa [Nat.zero_mul] at this
  rw [ec, Nat.add_zero] at l2
  have a1 : aiAddrL 256 (.c (.sl id off (b :: E).length 256)) (.c (.i .i64 0)) = some (.c (.p id off)) := by
    have := iAddrL_of (k := .i64) (id := id) (off := off) (sz := 256) (j := 0) (len := (b :: E).length) h0
    rwa [Nat.zero_mul, Nat.add_zero] at this
  have hG := fun h => super_Get_eq (h := h) hD.cons.1
  have c0 : ¬ (((b :: E).length : Nat) : Int) = 0 := by omega
  have n13 : ¬ (13 : Int) = 0 := by decide
  simp only [ho, layS_ok ho, cond_true, hn2] at hG
  have eN : devN (b :: E) = fieldN b 10 2 := rfl
  have eM : devM (b :: E) = fieldN b 12 8 := rfl
  have hA := app_has (id := h.length + 2) (by simp) hv3 (by omega) h60
  have ef1 : afill ([] : List Cell) [] = some [] := rfl
  have hlt : id < h.length := by
    rcases hv with ⟨e, _⟩ | ⟨i, o, r, e, hr, _⟩
    · cases e
    · cases e; exact rd_lt hr
  rw [eN, eM]
  unfold IsView
  generalize cellsD (b :: E) = C at *
  have emk : amkf 54 [.c (.p (h.length + 4) 0)] = some (.c (.f 54 [(h.length + 4, 0)])) := rfl
  refine ⟨.f 54 [(h.length + 4, 0)], [some (Row.mk (vwC (b :: E).length (fieldN b 10 2) (fieldN b 12 8) (.f 54 [(h.length + 4, 0)])) true), some (Row.mk (layC (b :: E).length (fieldN b 10 2) (fieldN b 12 8)) true), none, some (Row.mk C true), some (Row.mk [.sl (h.length + 3) 0 (b :: E).length 256] true)], S_view_Of_of (n := 0) ?_, h.length + 4, h.length + 3, true, true, rfl, rd_at, rd_at⟩
  rw [R_view_Of_eq]
  generalize (b :: E).length = N at *
  generalize encB b = y at *
  generalize fieldN b 10 2 = n1 at *
  generalize fieldN b 12 8 = n2 at *
  have ef2 : ∀ x, afill [Cell.i .i64 0, .i .i64 0, .i .u64 0, .nf] [(0, 3, .a [.i .i64 (N : Int), .i .i64 n1, .i .u64 n2]), (3, 1, .c x)] = some [.i .i64 (N : Int), .i .i64 n1, .i .u64 n2, x] := fun _ => rfl
  unfold layC vwC at *
  simp only [esc, esh, Nat.reduceAdd, Nat.reduceMul, Nat.reduceLT] at hA
  simp only [esc, esh, Nat.reduceAdd, Nat.reduceMul, Nat.reduceLT, l2, a1, hG, n13, eq_self, c0, hA, ef1, ef2, emk] <;> rfl

end Go.Proofs.Ytdgggnlbdoiloaa
end
section
namespace Go.Proofs.Ytdgggnlbdoiloaa
open Go Go.Esc

def zI (n : Nat) : List Int := List.replicate n 0
theorem zI_length {n : Nat} : (zI n).length = n := by simp [zI]

end Go.Proofs.Ytdgggnlbdoiloaa
end
section
namespace Go.Proofs.Ytdgggnlbdoiloaa
open Go Go.Esc

abbrev inoC (k l s p : Int) (d : List Int) : List Cell := .i .i64 k :: .i .i64 l :: .i .i64 s :: .i .i64 p :: encI d

def smallI (n : Int) : Bool := decide (0 ≤ n) && decide (n ≤ 65535)
theorem inode_small_eq {n : Int} {h : Heap} : S_inode_small [.c (.i .i64 n)] h = some (.c (.b (smallI n)), h) := by
  refine S_inode_small_flat (n := 0) (h2 := ro h) ?_ rfl
  rw [R_inode_small_eq]
  unfold smallI
  by_cases c : 0 ≤ n
  · simp only [esc, c, Bool.true_and]
  · simp only [esc, c, Bool.false_and]

theorem numbers_loop {g : Heap} {k l s p : Int} {d : List Int} {z : List Cell} {q : Nat} (hd : d.length = 7) (hz : z.length = 7) : ∀ e i m : Nat, i + e = 6 → e < m →
    inode_Numbers_l0 q m (.c (.p g.length 0)) (.c (.p (g.length + 1) 0)) (.c (.p (g.length + 2) 0)) (.a (encI (d.take 6))) (.c (.i .i64 i)) (g ++ [some ⟨inoC k l s p d, true⟩, some ⟨z, true⟩, some ⟨encI (d.take i ++ zI (7 - i)), true⟩]) =
      some (.a (encI d), g ++ [some ⟨inoC k l s p d, true⟩, some ⟨encI d, true⟩, some ⟨encI d, true⟩])
  | e, i, 0, _, hm => by omega
  | 0, i, m + 1, hi, hm => by
    have e0 : i = 6 := by omega
    subst e0
    have h1' : ¬ ((6 : Nat) : Int) < 6 := by omega
    have l1 : (inoC k l s p d)[10]? = some (.i .i64 d[6]) := by
      have : (encI d)[6]? = some (.i .i64 d[6]) := by rw [encI_get, List.getElem?_eq_getElem (by omega)]; rfl
      exact this
    have a1 : aiAddrA 7 1 (.c (.p (g.length + 2) 0)) (.c (.i .i64 6)) = some (.c (.p (g.length + 2) 6)) := rfl
    have ho : 6 < (encI (d.take 6 ++ zI (7 - 6))).length := by rw [encI_length, List.length_append, zI_length, List.length_take]; omega
    have es : (encI (d.take 6 ++ zI (7 - 6))).set 6 (.i .i64 d[6]) = encI d := by
      rw [encI_set]
      congr 1
      have h6 : (d.take 6).length = 6 := by simp; omega
      rw [List.set_append_right _ _ (by omega), h6]
      have : d = d.take 6 ++ [d[6]] := by
        rw [← List.take_succ_eq_append_getElem (by omega), List.take_of_length_le (by omega)]
      conv => rhs; rw [this]
      rfl
    have hl : (encI d).length = 7 := by rw [encI_length, hd]
    rw [inode_Numbers_l0_eq]
    simp only [esc, esh, Nat.reduceAdd, Nat.reduceMul, Nat.reduceLT, h1', l1, a1, ho, es, hl, hz]
  | e + 1, i, m + 1, hi, hm => by
    have ih := numbers_loop (g := g) (k := k) (l := l) (s := s) (p := p) (q := q) hd hz e (i + 1) m (by omega) (by omega)
    have h1' : (i : Int) < 6 := by omega
    have hx : aidxA1 6 (.a (encI (d.take 6))) (.c (.i .i64 (i : Int))) = some (.c (.i .i64 d[i])) := by
      rw [idxA1_of (by omega), encI_get, List.getElem?_take_of_lt (by omega), List.getElem?_eq_getElem (by omega)]; rfl
    have a1 : aiAddrA 7 1 (.c (.p (g.length + 2) 0)) (.c (.i .i64 (i : Int))) = some (.c (.p (g.length + 2) i)) := by rw [iAddrA_of (by omega)]; simp
    have ho : i < (encI (d.take i ++ zI (7 - i))).length := by rw [encI_length, List.length_append, zI_length, List.length_take]; omega
    have es : (encI (d.take i ++ zI (7 - i))).set i (.i .i64 d[i]) = encI (d.take (i + 1) ++ zI (7 - (i + 1))) := by
      rw [encI_set]
      refine congrArg encI ?_
      have h6 : (d.take i).length = i := by simp; omega
      rw [List.set_append_right _ _ (by omega), h6, Nat.sub_self, List.take_succ_eq_append_getElem (by omega), List.append_assoc]
      refine congrArg (d.take i ++ ·) ?_
      rw [show 7 - i = 7 - (i + 1) + 1 by omega]
      unfold zI
      rw [List.replicate_succ, List.set_cons_zero]; rfl
    rw [inode_Numbers_l0_eq]
    simp only [esc, esh, Nat.reduceAdd, Nat.reduceMul, Nat.reduceLT, h1', hx, a1, ho, es, wi_succ (show i + 1 < 9223372036854775808 by omega)]
    exact ih

theorem ino_dir {k l s p : Int} {d : List Int} (hd : d.length = 7) : ldN (some ⟨inoC k l s p d, true⟩) 4 6 = some (.a (encI (d.take 6))) := by
  have h1 : (inoC k l s p d).length = 11 := by simp [encI_length, hd]
  simp only [ldN, Option.bind_some]
  rw [if_pos ⟨by omega, by simp⟩]
  simp only [List.drop_succ_cons, List.drop_zero]
  unfold encI
  rw [List.map_take]

theorem inode_Numbers_eq {k l s p : Int} {d : List Int} {h : Heap} (hd : d.length = 7) : S_inode_Numbers [.a (inoC k l s p d)] h = some (.a (encI d), h) := by
  have key : ∀ N, 7 < N → ∀ g, ∃ g', R_inode_Numbers N [.a (inoC k l s p d)] g = some (.a (encI d), g') := by
    intro N hN g
    have := numbers_loop (g := g) (k := k) (l := l) (s := s) (p := p) (z := encI (zI 7)) (q := N) hd (by rw [encI_length, zI_length]) 6 0 N (by omega) (by omega)
    have e0 : encI (d.take 0 ++ zI (7 - 0)) = [Cell.i .i64 0, .i .i64 0, .i .i64 0, .i .i64 0, .i .i64 0, .i .i64 0, .i .i64 0] := rfl
    have e1 : encI (zI 7) = [Cell.i .i64 0, .i .i64 0, .i .i64 0, .i .i64 0, .i .i64 0, .i .i64 0, .i .i64 0] := rfl
    rw [e0, e1] at this
    rw [R_inode_Numbers_eq]
    exact ⟨_, by simp only [esc, esh, Nat.reduceAdd, Nat.reduceMul, Nat.reduceLT, ino_dir hd]; exact this⟩
  obtain ⟨g', e⟩ := key (h.length + 8) (by omega) (ro h)
  exact S_inode_Numbers_flat e (by simp)

def zeroI (l s p : Int) (d : List Int) : Bool := decide (l = 0 ∧ s = 0 ∧ p = 0 ∧ d = zI 7)
def restI (k l s p : Int) (d : List Int) : Bool := decide (0 ≤ k ∧ k ≤ 2) && (smallI l && (smallI p && (decide (0 ≤ s ∧ s ≤ 34304) && d.all smallI)))
def mayI (k l s p : Int) (d : List Int) : Bool := if k = 0 then zeroI l s p d else restI k l s p d

theorem check_loopI {h : Heap} {d : List Int} {q : Nat} (hd : d.length = 7) : ∀ e i m : Nat, i + e = 7 → e < m →
    inode_Check_l0 q m (.a (encI d)) (.c (.i .i64 i)) h = some (.c (.i .i64 (bif (d.drop i).all smallI then 0 else 1)), h)
  | e, i, 0, _, hm => by omega
  | 0, i, m + 1, hi, hm => by
    have c0 : ¬ (i : Int) < 7 := by omega
    rw [inode_Check_l0_eq, List.drop_of_length_le (by omega)]
    simp only [esc, c0, List.all_nil]
  | e + 1, i, m + 1, hi, hm => by
    have ih := check_loopI (h := h) (q := q) hd e (i + 1) m (by omega) (by omega)
    have c0 : (i : Int) < 7 := by omega
    have hx : aidxA1 7 (.a (encI d)) (.c (.i .i64 (i : Int))) = some (.c (.i .i64 d[i])) := by
      rw [idxA1_of (by omega), encI_get, List.getElem?_eq_getElem (by omega)]; rfl
    rw [inode_Check_l0_eq, List.drop_eq_getElem_cons (by omega), List.all_cons]
    cases c1 : smallI d[i] with
    | true =>
      simp only [esc, c0, hx, inode_small_eq, c1, Bool.true_and, wi_succ (show i + 1 < 9223372036854775808 by omega)]
      exact ih
    | false => simp only [esc, c0, hx, inode_small_eq, c1, Bool.false_and]

theorem aeq_ino {k l s p k' l' s' p' : Int} {d d' : List Int} {neg : Bool} (hd : d.length = 7) (hd' : d'.length = 7) :
    aeq neg [Sh.i .i64, .i .i64, .i .i64, .i .i64, .i .i64, .i .i64, .i .i64, .i .i64, .i .i64, .i .i64, .i .i64] (.a (inoC k l s p d)) (.a (inoC k' l' s' p' d')) = some (.c (.b (bif neg then !decide (k :: l :: s :: p :: d = k' :: l' :: s' :: p' :: d') else decide (k :: l :: s :: p :: d = k' :: l' :: s' :: p' :: d')))) := by
  have h1 := aeqI_t (l := k :: l :: s :: p :: d) (m := k' :: l' :: s' :: p' :: d') (n := 11) (by simp [hd]) (by simp [hd'])
  have h2 := aeqI_f (l := k :: l :: s :: p :: d) (m := k' :: l' :: s' :: p' :: d') (n := 11) (by simp [hd]) (by simp [hd'])
  cases neg
  · exact h2
  · exact h1

theorem zero_ino {l s p : Int} {d : List Int} : decide ((0 : Int) :: l :: s :: p :: d = 0 :: 0 :: 0 :: 0 :: zI 7) = zeroI l s p d := by
  unfold zeroI
  simp

theorem afill_ino : afill [Cell.i .i64 0, .i .i64 0, .i .i64 0, .i .i64 0, .i .i64 0, .i .i64 0, .i .i64 0, .i .i64 0, .i .i64 0, .i .i64 0, .i .i64 0] [] = some (inoC 0 0 0 0 (zI 7)) := rfl

theorem inode_Check_eq {k l s p : Int} {d : List Int} {h : Heap} (hd : d.length = 7) : S_inode_Check [.a (inoC k l s p d)] h = some (.c (.i .i64 (bif mayI k l s p d then 0 else 1)), h) := by
  have hlen : (inoC k l s p d).length = 11 := by simp [encI_length, hd]
  have key : ∀ N, 8 < N → ∀ g, ∃ g', R_inode_Check N [.a (inoC k l s p d)] g = some (.c (.i .i64 (bif mayI k l s p d then 0 else 1)), g') := by
    intro N hN g
    have lp := fun g => check_loopI (h := g) (q := N) hd 7 0 N (by omega) (by omega)
    simp only [List.drop_zero, Int.cast_ofNat_Int] at lp
    rw [R_inode_Check_eq]
    unfold mayI
    by_cases k0 : k = 0
    · subst k0
      rw [if_pos rfl]
      have c1 : ¬ (0 : Int) < 0 := by omega
      have c2 : ¬ (2 : Int) < 0 := by omega
      have hq := aeq_ino (k := 0) (l := l) (s := s) (p := p) (k' := 0) (l' := 0) (s' := 0) (p' := 0) (neg := true) hd (zI_length (n := 7))
      simp only [cond_true, zero_ino] at hq
      cases hz : zeroI l s p d with
      | false =>
        rw [hz] at hq
        exact ⟨_, by simp only [esc, esh, Nat.reduceAdd, Nat.reduceMul, Nat.reduceLT, c1, c2, hlen, afill_ino, hq] <;> rfl⟩
      | true =>
        rw [hz] at hq
        have hz' := of_decide_eq_true hz
        obtain ⟨rfl, rfl, rfl, rfl⟩ := hz'
        have sm : smallI 0 = true := by decide
        have al : (zI 7).all smallI = true := by decide
        have c3 : ¬ (34304 : Int) < 0 := by omega
        rw [al] at lp
        exact ⟨_, by simp only [esc, esh, Nat.reduceAdd, Nat.reduceMul, Nat.reduceLT, c1, c2, c3, hlen, afill_ino, hq, inode_small_eq, sm, inode_Numbers_eq hd, lp] <;> rfl⟩
    · rw [if_neg k0]
      unfold restI
      by_cases c1 : k < 0
      · rw [decide_eq_false (show ¬ (0 ≤ k ∧ k ≤ 2) by omega)]
        exact ⟨_, by simp only [esc, esh, Nat.reduceAdd, Nat.reduceMul, Nat.reduceLT, c1, Bool.false_and] <;> rfl⟩
      · by_cases c2 : 2 < k
        · rw [decide_eq_false (show ¬ (0 ≤ k ∧ k ≤ 2) by omega)]
          exact ⟨_, by simp only [esc, esh, Nat.reduceAdd, Nat.reduceMul, Nat.reduceLT, c1, c2, Bool.false_and] <;> rfl⟩
        · rw [decide_eq_true (show 0 ≤ k ∧ k ≤ 2 by omega), Bool.true_and]
          cases sl : smallI l with
          | false => exact ⟨_, by simp only [esc, esh, Nat.reduceAdd, Nat.reduceMul, Nat.reduceLT, c1, c2, k0, inode_small_eq, sl, Bool.false_and] <;> rfl⟩
          | true =>
            cases sp : smallI p with
            | false => exact ⟨_, by simp only [esc, esh, Nat.reduceAdd, Nat.reduceMul, Nat.reduceLT, c1, c2, k0, inode_small_eq, sl, sp, Bool.true_and, Bool.false_and] <;> rfl⟩
            | true =>
              by_cases c3 : s < 0
              · rw [decide_eq_false (show ¬ (0 ≤ s ∧ s ≤ 34304) by omega)]
                exact ⟨_, by simp only [esc, esh, Nat.reduceAdd, Nat.reduceMul, Nat.reduceLT, c1, c2, k0, inode_small_eq, sl, sp, c3, Bool.true_and, Bool.false_and] <;> rfl⟩
              · by_cases c4 : 34304 < s
                · rw [decide_eq_false (show ¬ (0 ≤ s ∧ s ≤ 34304) by omega)]
                  exact ⟨_, by simp only [esc, esh, Nat.reduceAdd, Nat.reduceMul, Nat.reduceLT, c1, c2, k0, inode_small_eq, sl, sp, c3, c4, Bool.true_and, Bool.false_and] <;> rfl⟩
                · rw [decide_eq_true (show 0 ≤ s ∧ s ≤ 34304 by omega)]
                  exact ⟨_, by simp only [esc, esh, Nat.reduceAdd, Nat.reduceMul, Nat.reduceLT, c1, c2, k0, inode_small_eq, sl, sp, c3, c4, Bool.true_and, hlen, inode_Numbers_eq hd, lp] <;> rfl⟩
  obtain ⟨g', e⟩ := key (h.length + 9) (by omega) (ro h)
  exact S_inode_Check_flat e rfl

def inoH (k l s p : Int) : List UInt8 := bytesI 1 k ++ zeros 1 ++ bytesI 2 l ++ bytesI 4 s ++ bytesI 2 p
def inoD (d : List Int) : List UInt8 := (d.map (bytesI 2)).flatten
def inoB (k l s p : Int) (d : List Int) : List UInt8 := inoH k l s p ++ inoD d ++ zeros 8

theorem inoH_length {k l s p : Int} : (inoH k l s p).length = 10 := by simp [inoH]
theorem inoD_length {d : List Int} : (inoD d).length = 2 * d.length := by
  unfold inoD
  induction d with
  | nil => rfl
  | cons x d ih => simp only [List.map_cons, List.flatten_cons, List.length_append, bytesI_length, List.length_cons, ih]; omega
theorem inoB_length {k l s p : Int} {d : List Int} (hd : d.length = 7) : (inoB k l s p d).length = 32 := by
  unfold inoB; rw [List.length_append, List.length_append, inoH_length, inoD_length, zeros_length, hd]
theorem inoD_snoc {d : List Int} {x : Int} : inoD (d ++ [x]) = inoD d ++ bytesI 2 x := by simp [inoD]

theorem inoH_with {k l s p : Int} : withB (withB (withB (withB (zeros 256) 0 1 k) 2 2 l) 4 4 s) 8 2 p = padB 256 (inoH k l s p) := by
  rw [← padB_nil]
  have h1 := withB_pad (l := []) (a := 0) (w := 1) (v := k) (by simp) (by omega) (by omega) (by omega)
  have h2 := withB_pad (l := [] ++ zeros (0 - 0) ++ bytesI 1 k) (a := 2) (w := 2) (v := l) (by simp) (by omega) (by omega) (by omega)
  have h3 := withB_pad (l := [] ++ zeros (0 - 0) ++ bytesI 1 k ++ zeros 1 ++ bytesI 2 l) (a := 4) (w := 4) (v := s) (by simp) (by omega) (by omega) (by omega)
  have h4 := withB_pad (l := [] ++ zeros (0 - 0) ++ bytesI 1 k ++ zeros 1 ++ bytesI 2 l ++ zeros 0 ++ bytesI 4 s) (a := 8) (w := 2) (v := p) (by simp) (by omega) (by omega) (by omega)
  simp only [List.length_append, List.length_nil, zeros_length, bytesI_length, Nat.sub_self, Nat.zero_sub, Nat.reduceAdd, Nat.reduceSub] at h1 h2 h3 h4
  simp only [Int.cast_ofNat_Int] at h1 h2 h3 h4
  rw [h1, h2, h3, h4]
  congr 1

theorem put_copy {g : Heap} {c0 : List Cell} {B : List UInt8} {z : List Cell} {q : Nat} (hB : B.length = 256) (hz : z.length = 32) : ∀ e i m : Nat, i + e = 32 → e < m →
    inode_Put_l1 q m (.c (.p (g.length + 1) 0)) (.c (.p (g.length + 2) 0)) (.c (.p (g.length + 3) 0)) (.c (.i .i64 i)) (g ++ [some ⟨c0, true⟩, some ⟨z, true⟩, some ⟨encB (B.take i ++ zeros (32 - i)), true⟩, some ⟨encB B, true⟩]) =
      some (.t [.a (encB (B.take 32)), .c (.i .i64 0)], g ++ [some ⟨c0, true⟩, some ⟨encB (B.take 32), true⟩, some ⟨encB (B.take 32), true⟩, some ⟨encB B, true⟩])
  | e, i, 0, _, hm => by omega
  | 0, i, m + 1, hi, hm => by
    have e0 : i = 32 := by omega
    subst e0
    have h1' : ¬ ((32 : Nat) : Int) < 32 := by omega
    have hl : (encB (B.take 32)).length = 32 := by rw [encB_length, List.length_take]; omega
    have e1 : encB (B.take 32 ++ zeros (32 - 32)) = encB (B.take 32) := by simp [zeros]
    rw [inode_Put_l1_eq, e1]
    simp only [esc, esh, Nat.reduceAdd, Nat.reduceMul, Nat.reduceLT, h1', hl, hz]
  | e + 1, i, m + 1, hi, hm => by
    have ih := put_copy (g := g) (c0 := c0) (q := q) hB hz e (i + 1) m (by omega) (by omega)
    have h1' : (i : Int) < 32 := by omega
    have a1 : aiAddrA 256 1 (.c (.p (g.length + 3) 0)) (.c (.i .i64 (i : Int))) = some (.c (.p (g.length + 3) i)) := by rw [iAddrA_of (by omega)]; simp
    have a2 : aiAddrA 32 1 (.c (.p (g.length + 2) 0)) (.c (.i .i64 (i : Int))) = some (.c (.p (g.length + 2) i)) := by rw [iAddrA_of (by omega)]; simp
    have l1 : (encB B)[i]? = some (.i .u8 B[i].toNat) := by rw [encB_get, List.getElem?_eq_getElem (by omega)]; rfl
    have ho : i < (encB (B.take i ++ zeros (32 - i))).length := by rw [encB_length, List.length_append, zeros_length, List.length_take]; omega
    have es : (encB (B.take i ++ zeros (32 - i))).set i (.i .u8 B[i].toNat) = encB (B.take (i + 1) ++ zeros (32 - (i + 1))) := by
      rw [encB_set]
      refine congrArg encB ?_
      have h6 : (B.take i).length = i := by simp; omega
      rw [List.set_append_right _ _ (by omega), h6, Nat.sub_self, List.take_succ_eq_append_getElem (by omega), List.append_assoc]
      refine congrArg (B.take i ++ ·) ?_
      rw [show 32 - i = 32 - (i + 1) + 1 by omega]
      unfold zeros
      rw [List.replicate_succ, List.set_cons_zero]; rfl
    rw [inode_Put_l1_eq]
    simp only [esc, esh, Nat.reduceAdd, Nat.reduceMul, Nat.reduceLT, h1', a1, a2, l1, ho, es, wi_succ (show i + 1 < 9223372036854775808 by omega)]
    exact ih

theorem put_loop {g : Heap} {k l s p : Int} {d : List Int} {c0 z : List Cell} {q : Nat} (hd : d.length = 7) (hz : z.length = 32) (hq : 33 < q) : ∀ e i m : Nat, i + e = 7 → e < m →
    inode_Put_l0 q m (.c (.p (g.length + 1) 0)) (.c (.p (g.length + 2) 0)) (.c (.p (g.length + 3) 0)) (.a (encI d)) (.c (.i .i64 i)) (g ++ [some ⟨c0, true⟩, some ⟨z, true⟩, some ⟨encB (zeros 32), true⟩, some ⟨encB (padB 256 (inoH k l s p ++ inoD (d.take i))), true⟩]) =
      some (.t [.a (encB (inoB k l s p d)), .c (.i .i64 0)], g ++ [some ⟨c0, true⟩, some ⟨encB (inoB k l s p d), true⟩, some ⟨encB (inoB k l s p d), true⟩, some ⟨encB (padB 256 (inoH k l s p ++ inoD d)), true⟩])
  | e, i, 0, _, hm => by omega
  | 0, i, m + 1, hi, hm => by
    have e0 : i = 7 := by omega
    subst e0
    have h1' : ¬ ((7 : Nat) : Int) < 7 := by omega
    rw [List.take_of_length_le (by omega)]
    have hlen : (inoH k l s p ++ inoD d).length = 24 := by rw [List.length_append, inoH_length, inoD_length, hd]
    have := put_copy (g := g) (c0 := c0) (z := z) (q := q) (B := padB 256 (inoH k l s p ++ inoD d)) (padB_length (by omega)) hz 32 0 q (by omega) (by omega)
    have e1 : (padB 256 (inoH k l s p ++ inoD d)).take 32 = inoB k l s p d := by
      unfold padB inoB
      rw [List.take_append, List.take_of_length_le (by omega), hlen]
      refine congrArg (inoH k l s p ++ inoD d ++ ·) ?_
      unfold zeros
      rw [List.take_replicate]; rfl
    rw [e1] at this
    simp only [List.take_zero, List.nil_append, Nat.sub_zero] at this
    rw [inode_Put_l0_eq]
    simp only [esc, h1']
    exact this
  | e + 1, i, m + 1, hi, hm => by
    have ih := put_loop (g := g) (k := k) (l := l) (s := s) (p := p) (c0 := c0) hd hz hq e (i + 1) m (by omega) (by omega)
    have h1' : (i : Int) < 7 := by omega
    have hx : aidxA1 7 (.a (encI d)) (.c (.i .i64 (i : Int))) = some (.c (.i .i64 d[i])) := by
      rw [idxA1_of (by omega), encI_get, List.getElem?_eq_getElem (by omega)]; rfl
    have hlen : (inoH k l s p ++ inoD (d.take i)).length = 10 + 2 * i := by rw [List.length_append, inoH_length, inoD_length, List.length_take]; omega
    have hL : (encB (padB 256 (inoH k l s p ++ inoD (d.take i)))).length = 256 := by rw [encB_length, padB_length (by omega)]
    have e2 : IntKind.wrap .i64 (2 * (i : Int)) = ((2 * i : Nat) : Int) := by rw [wrap_i64 (by omega) (by omega)]; omega
    have e3 : IntKind.wrap .i64 (10 + ((2 * i : Nat) : Int)) = ((10 + 2 * i : Nat) : Int) := by rw [wrap_i64 (by omega) (by omega)]; omega
    have hw := num_With_eq (l := padB 256 (inoH k l s p ++ inoD (d.take i))) (h := g ++ [some ⟨c0, true⟩, some ⟨z, true⟩, some ⟨encB (zeros 32), true⟩, some ⟨encB (padB 256 (inoH k l s p ++ inoD (d.take i))), true⟩]) (padB_length (by omega)) (a := ((10 + 2 * i : Nat) : Int)) (w := 2) (v := d[i])
    have e4 := withB_pad (l := inoH k l s p ++ inoD (d.take i)) (a := 10 + 2 * i) (w := 2) (v := d[i]) (by omega) (by omega) (by omega) (by omega)
    rw [show ((2 : Nat) : Int) = 2 from rfl, hlen, Nat.sub_self, show zeros 0 = [] from rfl, List.append_nil, List.append_assoc, ← inoD_snoc, ← List.take_succ_eq_append_getElem (by omega)] at e4
    rw [e4] at hw
    have hL' : (encB (padB 256 (inoH k l s p ++ inoD (d.take (i + 1))))).length = 256 := by
      rw [encB_length, padB_length (by rw [List.length_append, inoH_length, inoD_length, List.length_take]; omega)]
    rw [inode_Put_l0_eq]
    simp only [esc, esh, Nat.reduceAdd, Nat.reduceMul, Nat.reduceLT, h1', hx, hL, e2, e3, hw, hL', wi_succ (show i + 1 < 9223372036854775808 by omega)]
    exact ih

theorem inode_Put_eq {k l s p : Int} {d : List Int} {h : Heap} (hd : d.length = 7) :
    S_inode_Put [.a (inoC k l s p d)] h = some (.t [.a (encB (bif mayI k l s p d then inoB k l s p d else zeros 32)), .c (.i .i64 (bif mayI k l s p d then 0 else 1))], h) := by
  have hlen : (inoC k l s p d).length = 11 := by simp [encI_length, hd]
  have key : ∀ N, 33 < N → ∀ g, ∃ g', R_inode_Put N [.a (inoC k l s p d)] g = some (.t [.a (encB (bif mayI k l s p d then inoB k l s p d else zeros 32)), .c (.i .i64 (bif mayI k l s p d then 0 else 1))], g') := by
    intro N hN g
    have hz : (encB (zeros 32)).length = 32 := by rw [encB_length]; exact zeros_length
    have hz2 : (encB (zeros 256)).length = 256 := by rw [encB_length]; exact zeros_length
    rw [R_inode_Put_eq, zeros_enc, zeros_enc]
    cases c : mayI k l s p d with
    | false =>
      generalize zeros 32 = z at *
      generalize zeros 256 = y at *
      exact ⟨_, by simp only [esc, esh, Nat.reduceAdd, Nat.reduceMul, Nat.reduceLT, hlen, inode_Check_eq hd, c, hz, Int.reduceEq] <;> rfl⟩
    | true =>
      have := put_loop (g := g) (k := k) (l := l) (s := s) (p := p) (c0 := inoC k l s p d) (z := encB (zeros 32)) (q := N) hd hz hN 7 0 N (by omega) (by omega)
      simp only [List.take_zero, show inoD [] = [] from rfl, List.append_nil] at this
      have w1 := fun h => num_With_eq (h := h) (l := zeros 256) zeros_length (a := 0) (w := 1) (v := k)
      have w2 := fun h => num_With_eq (h := h) (l := withB (zeros 256) 0 1 k) (withB_length zeros_length) (a := 2) (w := 2) (v := l)
      have w3 := fun h => num_With_eq (h := h) (l := withB (withB (zeros 256) 0 1 k) 2 2 l) (withB_length (withB_length zeros_length)) (a := 4) (w := 4) (v := s)
      have w4 := fun h => num_With_eq (h := h) (l := withB (withB (withB (zeros 256) 0 1 k) 2 2 l) 4 4 s) (withB_length (withB_length (withB_length zeros_length))) (a := 8) (w := 2) (v := p)
      have l1 : (encB (withB (zeros 256) 0 1 k)).length = 256 := by rw [encB_length, withB_length zeros_length]
      have l2 : (encB (withB (withB (zeros 256) 0 1 k) 2 2 l)).length = 256 := by rw [encB_length, withB_length (withB_length zeros_length)]
      have l3 : (encB (withB (withB (withB (zeros 256) 0 1 k) 2 2 l) 4 4 s)).length = 256 := by rw [encB_length, withB_length (withB_length (withB_length zeros_length))]
      have l4 : (encB (padB 256 (inoH k l s p))).length = 256 := by rw [encB_length, padB_length (by rw [inoH_length]; omega)]
      simp only [inoH_with] at w4
      generalize zeros 32 = z at *
      generalize zeros 256 = y at *
      exact ⟨_, by simp only [esc, esh, Nat.reduceAdd, Nat.reduceMul, Nat.reduceLT, hlen, inode_Check_eq hd, c, hz, hz2, w1, w2, w3, w4, l1, l2, l3, l4, inode_Numbers_eq hd]; exact this⟩
  obtain ⟨g', e⟩ := key (h.length + 34) (by omega) (ro h)
  exact S_inode_Put_flat e (by simp)

def getK (b : List UInt8) : Int := fieldN b 0 1
def getL (b : List UInt8) : Int := fieldN b 2 2
def getS (b : List UInt8) : Int := fieldN b 4 4
def getP (b : List UInt8) : Int := fieldN b 8 2
def getD7 (b : List UInt8) : List Int := (List.range 7).map fun j => fieldN b (10 + 2 * j) 2
theorem getD7_length {b : List UInt8} : (getD7 b).length = 7 := by simp [getD7]
theorem getD7_get {b : List UInt8} {i : Nat} (hi : i < 7) : (getD7 b)[i]? = some (fieldN b (10 + 2 * i) 2) := by simp [getD7, hi]

theorem inoC_set {k l s p x : Int} {d : List Int} {i : Nat} : (inoC k l s p d).set (4 + i) (.i .i64 x) = inoC k l s p (d.set i x) := by
  rw [show 4 + i = i + 1 + 1 + 1 + 1 by omega]
  simp only [inoC, List.set_cons_succ, encI_set]

theorem take_pad_set {D : List Int} (hD : D.length = 7) {i : Nat} (hi : i < 7) : (D.take i ++ zI (7 - i)).set i D[i] = D.take (i + 1) ++ zI (7 - (i + 1)) := by
  have h6 : (D.take i).length = i := by simp; omega
  rw [List.set_append_right _ _ (by omega), h6, Nat.sub_self, List.take_succ_eq_append_getElem (by omega), List.append_assoc]
  refine congrArg (D.take i ++ ·) ?_
  rw [show 7 - i = 7 - (i + 1) + 1 by omega]
  unfold zI
  rw [List.replicate_succ, List.set_cons_zero]; rfl

theorem iget_loop {g : Heap} {b : List UInt8} {k l s p : Int} {c0 z : List Cell} {q : Nat} (hb : b.length = 32) (hz : z.length = 11) : ∀ e i m : Nat, i + e = 6 → e < m →
    inode_Get_l0 q m (.c (.p (g.length + 1) 0)) (.c (.p (g.length + 2) 0)) (.c (.p (g.length + 3) 0)) (.c (.i .i64 i)) (g ++ [some ⟨c0, true⟩, some ⟨z, true⟩, some ⟨encB (padB 256 b), true⟩, some ⟨inoC k l s p ((getD7 b).take i ++ zI (7 - i)), true⟩]) =
      some (.a (inoC k l s p (getD7 b)), g ++ [some ⟨c0, true⟩, some ⟨inoC k l s p (getD7 b), true⟩, some ⟨encB (padB 256 b), true⟩, some ⟨inoC k l s p (getD7 b), true⟩])
  | e, i, 0, _, hm => by omega
  | 0, i, m + 1, hi, hm => by
    have e0 : i = 6 := by omega
    subst e0
    have h1' : ¬ ((6 : Nat) : Int) < 6 := by omega
    have hX : (encB (padB 256 b)).length = 256 := by rw [encB_length, padB_length (by omega)]
    have ha := fun h => num_At_eq (h := h) (l := padB 256 b) (padB_length (by omega)) (a := 22) (w := 2)
    have e1 := at_pad (b := b) (a := 22) (w := 2) (by omega) (by omega) (by omega) (by omega)
    simp only [Int.cast_ofNat_Int] at e1
    simp only [e1] at ha
    have hl0 : (inoC k l s p ((getD7 b).take 6 ++ zI (7 - 6))).length = 11 := by simp [encI_length, getD7_length, zI_length]
    have ho : (encI ((getD7 b).take 6 ++ zI (7 - 6))).length = 7 := by simp [encI_length, getD7_length, zI_length]
    have hg6 : (getD7 b)[6]'(by rw [getD7_length]; omega) = fieldN b 22 2 := by
      have := getD7_get (b := b) (i := 6) (by omega)
      rw [List.getElem?_eq_getElem (by rw [getD7_length]; omega)] at this
      exact Option.some.inj this
    have es : (inoC k l s p ((getD7 b).take 6 ++ zI (7 - 6))).set 10 (.i .i64 (fieldN b 22 2)) = inoC k l s p (getD7 b) := by
      have h1 := inoC_set (k := k) (l := l) (s := s) (p := p) (x := fieldN b 22 2) (d := (getD7 b).take 6 ++ zI (7 - 6)) (i := 6)
      rw [show 4 + 6 = 10 from rfl] at h1
      rw [h1, ← hg6, take_pad_set getD7_length (by omega)]
      have : (getD7 b).take (6 + 1) ++ zI (7 - (6 + 1)) = getD7 b := by rw [List.take_of_length_le (by rw [getD7_length]; omega)]; simp [zI]
      rw [this]
    have hl1 : (inoC k l s p (getD7 b)).length = 11 := by simp [encI_length, getD7_length]
    rw [inode_Get_l0_eq]
    simp only [esc, esh, Nat.reduceAdd, Nat.reduceMul, Nat.reduceLT, h1', hX, ha, ho, es, hl1, hz, encI_length, getD7_length]
  | e + 1, i, m + 1, hi, hm => by
    have ih := iget_loop (g := g) (k := k) (l := l) (s := s) (p := p) (c0 := c0) (q := q) hb hz e (i + 1) m (by omega) (by omega)
    have h1' : (i : Int) < 6 := by omega
    have hX : (encB (padB 256 b)).length = 256 := by rw [encB_length, padB_length (by omega)]
    have e2 : IntKind.wrap .i64 (2 * (i : Int)) = ((2 * i : Nat) : Int) := by rw [wrap_i64 (by omega) (by omega)]; omega
    have e3 : IntKind.wrap .i64 (10 + ((2 * i : Nat) : Int)) = ((10 + 2 * i : Nat) : Int) := by rw [wrap_i64 (by omega) (by omega)]; omega
    have ha := fun h => num_At_eq (h := h) (l := padB 256 b) (padB_length (by omega)) (a := ((10 + 2 * i : Nat) : Int)) (w := 2)
    have e1 := at_pad (b := b) (a := 10 + 2 * i) (w := 2) (by omega) (by omega) (by omega) (by omega)
    rw [show ((2 : Nat) : Int) = 2 from rfl] at e1
    simp only [e1] at ha
    have a1 : aiAddrA 6 1 (.c (.p (g.length + 3) 4)) (.c (.i .i64 (i : Int))) = some (.c (.p (g.length + 3) (4 + i))) := by rw [iAddrA_of (by omega)]; simp
    have ho : (encI ((getD7 b).take i ++ zI (7 - i))).length = 7 := by simp [encI_length, getD7_length, zI_length]; omega
    have ho2 : 4 + i < 11 := by omega
    have hgi : (getD7 b)[i]'(by rw [getD7_length]; omega) = fieldN b (10 + 2 * i) 2 := by
      have := getD7_get (b := b) (i := i) (by omega)
      rw [List.getElem?_eq_getElem (by rw [getD7_length]; omega)] at this
      exact Option.some.inj this
    have es : (inoC k l s p ((getD7 b).take i ++ zI (7 - i))).set (4 + i) (.i .i64 (fieldN b (10 + 2 * i) 2)) = inoC k l s p ((getD7 b).take (i + 1) ++ zI (7 - (i + 1))) := by
      rw [inoC_set, ← hgi, take_pad_set getD7_length (by omega)]
    rw [inode_Get_l0_eq]
    simp only [esc, esh, Nat.reduceAdd, Nat.reduceMul, Nat.reduceLT, h1', hX, e2, e3, ha, a1, ho, ho2, es, wi_succ (show i + 1 < 9223372036854775808 by omega)]
    exact ih

theorem inode_Get_eq {b : List UInt8} {h : Heap} (hb : b.length = 32) : S_inode_Get [.a (encB b)] h = some (.a (inoC (getK b) (getL b) (getS b) (getP b) (getD7 b)), h) := by
  have key : ∀ N, 7 < N → ∀ g, ∃ g', R_inode_Get N [.a (encB b)] g = some (.a (inoC (getK b) (getL b) (getS b) (getP b) (getD7 b)), g') := by
    intro N hN g
    have hl : (encB b).length = 32 := by rw [encB_length, hb]
    have hX : (encB (padB 256 b)).length = 256 := by rw [encB_length, padB_length (by omega)]
    have hz : (List.replicate 256 (Cell.i .u8 0)).length = 256 := List.length_replicate
    have z11 : [Cell.i .i64 0, .i .i64 0, .i .i64 0, .i .i64 0, .i .i64 0, .i .i64 0, .i .i64 0, .i .i64 0, .i .i64 0, .i .i64 0, .i .i64 0] = inoC 0 0 0 0 (zI 7) := rfl
    have l11 : (inoC 0 0 0 0 (zI 7)).length = 11 := rfl
    have ho := num_Of_eq (h := g ++ [some ⟨encB b, true⟩, some ⟨inoC 0 0 0 0 (zI 7), true⟩]) (v := .c (.sl g.length 0 32 1)) (nv := 32) (data := b) (Has.tr (by simp) (by omega) (noX_encB _)) (by omega)
    rw [of_pad (by omega)] at ho
    have at_ : ∀ (a w : Nat), a + w ≤ 32 → 1 ≤ w → w ≤ 4 → ∀ h, S_num_At [.a (encB (padB 256 b)), .c (.i .i64 a), .c (.i .i64 w)] h = some (.c (.i .i64 (fieldN b a w)), h) := fun a w h1 h2 h3 h => by
      rw [num_At_eq (padB_length (by omega)), at_pad (by omega) (by omega) h2 h3]
    have a1 := at_ 0 1 (by omega) (by omega) (by omega)
    have a2 := at_ 2 2 (by omega) (by omega) (by omega)
    have a3 := at_ 4 4 (by omega) (by omega) (by omega)
    have a4 := at_ 8 2 (by omega) (by omega) (by omega)
    simp only [Int.cast_ofNat_Int] at a1 a2 a3 a4
    have ef : afill (inoC 0 0 0 0 (zI 7)) [(0, 1, .c (.i .i64 (fieldN b 0 1))), (1, 1, .c (.i .i64 (fieldN b 2 2))), (2, 1, .c (.i .i64 (fieldN b 4 4))), (3, 1, .c (.i .i64 (fieldN b 8 2)))] = some (inoC (getK b) (getL b) (getS b) (getP b) (zI 7)) := rfl
    have lf : (inoC (getK b) (getL b) (getS b) (getP b) (zI 7)).length = 11 := rfl
    have := iget_loop (g := g) (b := b) (k := getK b) (l := getL b) (s := getS b) (p := getP b) (c0 := encB b) (z := inoC 0 0 0 0 (zI 7)) (q := N) hb l11 6 0 N (by omega) (by omega)
    simp only [List.take_zero, List.nil_append, Nat.sub_zero] at this
    rw [R_inode_Get_eq, z11]
    generalize List.replicate 256 (Cell.i .u8 0) = z at *
    generalize inoC 0 0 0 0 (zI 7) = y at *
    exact ⟨_, by simp only [esc, esh, Nat.reduceAdd, Nat.reduceMul, Nat.reduceLT, hl, ho, hz, hX, a1, a2, a3, a4, ef, l11, lf]; exact this⟩
  obtain ⟨g', e⟩ := key (h.length + 8) (by omega) (ro h)
  exact S_inode_Get_flat e (by simp)

def cleanI (b : List UInt8) : Bool := mayI (getK b) (getL b) (getS b) (getP b) (getD7 b) && decide (inoB (getK b) (getL b) (getS b) (getP b) (getD7 b) = b)

def cleanC (b : List UInt8) : List Cell := bif cleanI b then inoC (getK b) (getL b) (getS b) (getP b) (getD7 b) else inoC 0 0 0 0 (zI 7)

theorem cleanC_length {b : List UInt8} : (cleanC b).length = 11 := by
  unfold cleanC
  cases cleanI b <;> simp [encI_length, getD7_length, zI_length]
theorem flats_cleanC {b : List UInt8} : flats (cleanC b) = true := by
  unfold cleanC
  cases cleanI b <;> simp

theorem inode_Clean_eq {b : List UInt8} {h : Heap} (hb : b.length = 32) : S_inode_Clean [.a (encB b)] h = some (.t [.a (cleanC b), .c (.b (cleanI b))], h) := by
  have key : ∀ g, ∃ g', R_inode_Clean 0 [.a (encB b)] g = some (.t [.a (cleanC b), .c (.b (cleanI b))], g') := by
    intro g
    have hl : (encB b).length = 32 := by rw [encB_length, hb]
    have hI : (inoC (getK b) (getL b) (getS b) (getP b) (getD7 b)).length = 11 := by simp [encI_length, getD7_length]
    have z11 : [Cell.i .i64 0, .i .i64 0, .i .i64 0, .i .i64 0, .i .i64 0, .i .i64 0, .i .i64 0, .i .i64 0, .i .i64 0, .i .i64 0, .i .i64 0] = inoC 0 0 0 0 (zI 7) := rfl
    have l11 : (inoC 0 0 0 0 (zI 7)).length = 11 := rfl
    have af := afill_ino
    rw [z11] at af
    have hz : (List.replicate 32 (Cell.i .u8 0)).length = 32 := List.length_replicate
    have hp := fun h => inode_Put_eq (h := h) (k := getK b) (l := getL b) (s := getS b) (p := getP b) (d := getD7 b) getD7_length
    have hB : (encB (inoB (getK b) (getL b) (getS b) (getP b) (getD7 b))).length = 32 := by rw [encB_length, inoB_length getD7_length]
    have hZ : (encB (zeros 32)).length = 32 := by rw [encB_length]; exact zeros_length
    have hq := aeq_t (l := inoB (getK b) (getL b) (getS b) (getP b) (getD7 b)) (m := b) (n := 32) (inoB_length getD7_length) hb
    rw [R_inode_Clean_eq, z11]
    unfold cleanC cleanI
    generalize List.replicate 32 (Cell.i .u8 0) = z at *
    generalize inoC 0 0 0 0 (zI 7) = y at *
    cases c : mayI (getK b) (getL b) (getS b) (getP b) (getD7 b) with
    | false =>
      simp only [c, cond_false] at hp
      exact ⟨_, by simp only [esc, esh, Nat.reduceAdd, Nat.reduceMul, Nat.reduceLT, hl, inode_Get_eq hb, hI, l11, hp, hz, hZ, Int.reduceEq, af, Bool.false_and] <;> rfl⟩
    | true =>
      simp only [c, cond_true] at hp
      cases c2 : decide (inoB (getK b) (getL b) (getS b) (getP b) (getD7 b) = b) with
      | false =>
        rw [c2] at hq
        exact ⟨_, by simp only [esc, esh, Nat.reduceAdd, Nat.reduceMul, Nat.reduceLT, hl, inode_Get_eq hb, hI, l11, hp, hz, hB, hq, af, Bool.and_false] <;> rfl⟩
      | true =>
        rw [c2] at hq
        exact ⟨_, by simp only [esc, esh, Nat.reduceAdd, Nat.reduceMul, Nat.reduceLT, hl, inode_Get_eq hb, hI, l11, hp, hz, hB, hq, Bool.and_true] <;> rfl⟩
  obtain ⟨g', e⟩ := key (ro h)
  exact S_inode_Clean_flat e (by simp [flats_cleanC])

end Go.Proofs.Ytdgggnlbdoiloaa
end
section
namespace Go.Proofs.Ytdgggnlbdoiloaa
open Go Go.Esc

theorem patch_Check_ok {x : Cell} {a n : Nat} {cs : List Cell} {h : Heap} (hv : Has h (.c x) 1 n cs) (hn : 1 ≤ n) (han : a + n ≤ 256) :
    S_patch_Check [.a [.i .i64 a, x]] h = some (.c (.i .i64 0), h) := by
  have key : ∀ g, Has g (.c x) 1 n cs → ∃ g', R_patch_Check 0 [.a [.i .i64 a, x]] g = some (.c (.i .i64 0), g') := by
    intro g hv
    have c1 : ¬ (n : Int) < 1 := by omega
    have c2 : ¬ (256 : Int) < n := by omega
    have c3 : ¬ (a : Int) < 0 := by omega
    have e1 : IntKind.wrap .i64 (256 - (n : Int)) = 256 - n := wrap_i64 (by omega) (by omega)
    have c4 : ¬ (256 : Int) - n < a := by omega
    rw [R_patch_Check_eq]
    exact ⟨_, by simp only [esc, esh, Nat.reduceAdd, Nat.reduceMul, Nat.reduceLT, hv.len, c1, c2, c3, e1, c4] <;> rfl⟩
  obtain ⟨g', e⟩ := key (ro h) hv.ro
  exact S_patch_Check_flat e rfl

theorem patch_Lay_loop {x : Cell} {n : Nat} {data l : List UInt8} {z : List Cell} {g : Heap} (hv : Has g (.c x) 1 n (encB data)) {a q : Nat} (han : a + n ≤ 256) (hl : l.length = 256) (hz : z.length = 256) (hn : data.length = n) : ∀ d i m, i + d = n → d < m →
    patch_Lay_l0 q m (.c (.p g.length 0)) (.c (.p (g.length + 1) 0)) (.c (.p (g.length + 2) 0)) (.c x) (.c (.i .i64 n)) (.c (.i .i64 i)) (g ++ [some ⟨encB (layB l a (data.take i)), true⟩, some ⟨[.i .i64 a, x], true⟩, some ⟨z, true⟩]) =
      some (.a (encB (layB l a data)), g ++ [some ⟨encB (layB l a data), true⟩, some ⟨[.i .i64 a, x], true⟩, some ⟨encB (layB l a data), true⟩])
  | d, i, 0, _, hm => by omega
  | 0, i, m + 1, hi, hm => by
    have e0 : i = n := by omega
    subst e0
    have c0 : ¬ (i : Int) < i := by omega
    have hE : (encB (layB l a data)).length = 256 := by rw [encB_length, layB_length (by omega), hl]
    rw [patch_Lay_l0_eq, List.take_of_length_le (by omega)]
    simp only [esc, esh, Nat.reduceAdd, Nat.reduceMul, Nat.reduceLT, c0, hE, hz]
  | d + 1, i, m + 1, hi, hm => by
    have ih := patch_Lay_loop hv (z := z) (q := q) han hl hz hn d (i + 1) m (by omega) (by omega)
    obtain ⟨id, off, e, hid, h1, h2⟩ := (hv.more [some ⟨encB (layB l a (data.take i)), true⟩, some ⟨[.i .i64 a, x], true⟩, some ⟨z, true⟩]).sl (by omega)
    cases e
    have c0 : (i : Int) < n := by omega
    have hx := h1 i (.i .u8 data[i].toNat) (by rw [encB_get, List.getElem?_eq_getElem (by omega)]; rfl)
    have eb : aiAddrL 1 (.c (.sl id off n 1)) (.c (.i .i64 (i : Int))) = some (.c (.p id (off + i))) := by rw [iAddrL_of (by omega)]; simp
    have ea : aiAddrA 256 1 (.c (.p g.length 0)) (.c (.i .i64 ((a + i : Nat) : Int))) = some (.c (.p g.length (a + i))) := by rw [iAddrA_of (by omega)]; simp
    have hE : (encB (layB l a (data.take i))).length = 256 := by rw [encB_length, layB_length (by simp; omega), hl]
    have ho : a + i < 256 := by omega
    have e5 : (layB l a (data.take i)).set (a + i) data[i] = layB l a (data.take (i + 1)) := by
      have := layB_snoc (l := l) (xs := data.take i) (a := a) (x := data[i]) (by simp; omega)
      rw [List.length_take, Nat.min_eq_left (by omega)] at this
      rw [this, List.take_succ_eq_append_getElem (by omega)]
    have es : (encB (layB l a (data.take i))).set (a + i) (.i .u8 data[i].toNat) = encB (layB l a (data.take (i + 1))) := by rw [encB_set, e5]
    rw [patch_Lay_l0_eq]
    simp only [esc, esh, Nat.reduceAdd, Nat.reduceMul, Nat.reduceLT, c0, eb, hx, wi_add (show a + i < 9223372036854775808 by omega), ea, hE, ho, es, wi_succ (show i + 1 < 9223372036854775808 by omega)]
    exact ih

theorem patch_Lay_eq {x : Cell} {n a : Nat} {data l : List UInt8} {h : Heap} (hv : Has h (.c x) 1 n (encB data)) (hn : 1 ≤ n) (han : a + n ≤ 256) (hl : l.length = 256) :
    S_patch_Lay [.a (encB l), .a [.i .i64 a, x]] h = some (.a (encB (layB l a data)), h) := by
  have hd : data.length = n := by simpa [encB_length] using hv.length
  have key : ∀ N, n < N → ∀ g, Has g (.c x) 1 n (encB data) → ∃ g', R_patch_Lay N [.a (encB l), .a [.i .i64 a, x]] g = some (.a (encB (layB l a data)), g') := by
    intro N hN g hv
    have hz : (List.replicate 256 (Cell.i .u8 0)).length = 256 := List.length_replicate
    have hE : (encB l).length = 256 := by rw [encB_length, hl]
    rw [R_patch_Lay_eq]
    generalize List.replicate 256 (Cell.i .u8 0) = z at *
    have e := patch_Lay_loop hv (l := l) (z := z) (q := N) han hl hz hd n 0 N (by omega) (by omega)
    simp only [List.take_zero, layB_nil] at e
    have hc := patch_Check_ok (hv.more [some ⟨encB l, true⟩, some ⟨[.i .i64 a, x], true⟩, some ⟨z, true⟩]) hn han
    exact ⟨_, by simp only [esc, esh, Nat.reduceAdd, Nat.reduceMul, Nat.reduceLT, hE, hz, hc, hv.len]; exact e⟩
  obtain ⟨g', e⟩ := key (n + 1) (by omega) (ro h) hv.ro
  exact S_patch_Lay_flat e (by simp)

end Go.Proofs.Ytdgggnlbdoiloaa
end
section
namespace Go.Proofs.Ytdgggnlbdoiloaa
open Go Go.Esc

theorem afill_pat {a : Int} {x : Cell} : afill [Cell.i .i64 0, .ns] [(0, 1, .c (.i .i64 a)), (1, 1, .c x)] = some [.i .i64 a, x] := rfl
theorem afill_none : afill ([] : List Cell) [] = some [] := rfl

theorem table_Patch_ok {j : Nat} {k l s p : Int} {d : List Int} {h : Heap} (hd : d.length = 7) (h8 : j < 8) (c : mayI k l s p d = true) :
    S_table_Patch [.c (.i .i64 j), .a (inoC k l s p d)] h = some (.t [.a [.i .i64 ((32 * j : Nat) : Int), .sl h.length 0 32 1], .c (.i .i64 0)], h ++ [some ⟨encB (inoB k l s p d), true⟩]) := by
  have key : ∀ g, ∃ g', R_table_Patch 0 [.c (.i .i64 j), .a (inoC k l s p d)] g = some (.t [.a [.i .i64 ((32 * j : Nat) : Int), .sl (g.length + 4) 0 32 1], .c (.i .i64 0)], g') ∧ rd g' (g.length + 4) = some ⟨encB (inoB k l s p d), true⟩ := by
    intro g
    have c1 : ¬ (j : Int) < 0 := by omega
    have c2 : ¬ (8 : Int) ≤ j := by omega
    have hP := fun h => inode_Put_eq (k := k) (l := l) (s := s) (p := p) (h := h) hd
    simp only [c, cond_true] at hP
    have hE : (encI d).length = 7 := by rw [encI_length, hd]
    have hz : (List.replicate 32 (Cell.i .u8 0)).length = 32 := List.length_replicate
    have hB : (encB (inoB k l s p d)).length = 32 := by rw [encB_length, inoB_length hd]
    have w1 : IntKind.wrap .i64 ((j : Int) * 32) = ((32 * j : Nat) : Int) := by rw [wrap_i64 (by omega) (by omega)]; omega
    have p1 := app_of (h := g ++ [some ⟨inoC k l s p d, true⟩, some ⟨[.i .i64 0, .ns], true⟩, some ⟨encB (inoB k l s p d), true⟩, some ⟨[], true⟩]) (id := g.length + 3) (jd := g.length + 2) (n := 0) (m := 32) (sz := 1) (cs := []) (ys := encB (inoB k l s p d)) (rw := true) (by simp) (by simp) (by simp) (by rw [hB]) rfl (by omega) (by omega)
    generalize encB (inoB k l s p d) = B at *
    simp only [esc] at p1
    rw [R_table_Patch_eq]
    generalize List.replicate 32 (Cell.i .u8 0) = z at *
    exact ⟨_, by simp only [esc, esh, Nat.reduceAdd, Nat.reduceMul, Nat.reduceLT, c1, c2, hE, hP, hz, hB, w1, afill_none, p1, afill_pat, Int.cast_ofNat_Int] <;> rfl, by simp⟩
  obtain ⟨g', e, hr⟩ := key (ro h)
  have hr' := hr
  rw [ro_length] at hr'
  have hc1 : canonC g' h.length [] [.i .i64 ((32 * j : Nat) : Int), .sl ((ro h).length + 4) 0 32 1] = some ([.i .i64 ((32 * j : Nat) : Int), .sl h.length 0 32 1], [h.length + 4]) := by
    rw [ro_length]
    simp [canonC, Cell.low, Cell.flat, newRow_of hr' (by simp : flats (encB (inoB k l s p d)) = true)]
  have hc2 : canonC g' h.length [h.length + 4] [.i .i64 0] = some ([.i .i64 0], [h.length + 4]) := canonC_flat (by simp)
  have := S_table_Patch_tidy e (v2 := .t [.a [.i .i64 ((32 * j : Nat) : Int), .sl h.length 0 32 1], .c (.i .i64 0)]) (ids := [h.length + 4]) (by
    simp only [canonV, canonP, hc1, hc2, Option.bind_some, Option.map_some])
  rw [this]
  simp [hr']

end Go.Proofs.Ytdgggnlbdoiloaa
end
section
namespace Go.Proofs.Ytdgggnlbdoiloaa
open Go Go.Esc

theorem table_With_ok {j : Nat} {k l s p : Int} {d : List Int} {b : List UInt8} {h : Heap} (hb : b.length = 256) (hd : d.length = 7) (h8 : j < 8) (c : mayI k l s p d = true) :
    S_table_With [.a (encB b), .c (.i .i64 j), .a (inoC k l s p d)] h = some (.t [.a (encB (layB b (32 * j) (inoB k l s p d))), .c (.i .i64 0)], h) := by
  have key : ∀ g, ∃ g', R_table_With 0 [.a (encB b), .c (.i .i64 j), .a (inoC k l s p d)] g = some (.t [.a (encB (layB b (32 * j) (inoB k l s p d))), .c (.i .i64 0)], g') := by
    intro g
    have hB : (encB b).length = 256 := by rw [encB_length, hb]
    have hE : (encI d).length = 7 := by rw [encI_length, hd]
    have hI : (encB (inoB k l s p d)).length = 32 := by rw [encB_length, inoB_length hd]
    have hz : (List.replicate 256 (Cell.i .u8 0)).length = 256 := List.length_replicate
    have hP := fun h => table_Patch_ok (h := h) hd h8 c
    rw [R_table_With_eq]
    generalize List.replicate 256 (Cell.i .u8 0) = z at *
    have hL := patch_Lay_eq (h := g ++ [some (Row.mk (encB b) true), some (Row.mk (inoC k l s p d) true), some (Row.mk z true), some (Row.mk (encB (inoB k l s p d)) true), some (Row.mk [.i .i64 ((32 * j : Nat) : Int), .sl (g.length + 3) 0 32 1] true)]) (x := .sl (g.length + 3) 0 32 1) (n := 32) (a := 32 * j) (data := inoB k l s p d) (l := b) (Has.tr (by simp) (by rw [hI]) (noX_encB _)) (by omega) (by omega) hb
    have hR : (encB (layB b (32 * j) (inoB k l s p d))).length = 256 := by rw [encB_length, layB_length (by rw [inoB_length hd]; omega), hb]
    exact ⟨_, by simp only [esc, esh, Nat.reduceAdd, Nat.reduceMul, Nat.reduceLT, hB, hE, hz, hP, hL, hR] <;> rfl⟩
  obtain ⟨g', e⟩ := key (ro h)
  exact S_table_With_flat e (by simp)

def rawT (b : List UInt8) (j : Nat) : List UInt8 := (b.drop (32 * j)).take 32
theorem rawT_length {b : List UInt8} {j : Nat} (hb : b.length = 256) (hj : j < 8) : (rawT b j).length = 32 := by unfold rawT; simp; omega

theorem raw_loop {g : Heap} {b : List UInt8} {z : List Cell} {j q : Nat} (hb : b.length = 256) (hz : z.length = 32) (hj : j < 8) : ∀ e i m : Nat, i + e = 32 → e < m →
    table_Raw_l0 q m (.c (.i .i64 j)) (.c (.p g.length 0)) (.c (.p (g.length + 1) 0)) (.c (.p (g.length + 2) 0)) (.c (.i .i64 i)) (g ++ [some ⟨encB b, true⟩, some ⟨z, true⟩, some ⟨encB ((rawT b j).take i ++ zeros (32 - i)), true⟩]) =
      some (.a (encB (rawT b j)), g ++ [some ⟨encB b, true⟩, some ⟨encB (rawT b j), true⟩, some ⟨encB (rawT b j), true⟩])
  | e, i, 0, _, hm => by omega
  | 0, i, m + 1, hi, hm => by
    have e0 : i = 32 := by omega
    subst e0
    have h1' : ¬ ((32 : Nat) : Int) < 32 := by omega
    have hR := rawT_length hb hj
    have hl : (encB (rawT b j)).length = 32 := by rw [encB_length, hR]
    have e1 : encB ((rawT b j).take 32 ++ zeros (32 - 32)) = encB (rawT b j) := by rw [List.take_of_length_le (by omega)]; simp [zeros]
    rw [table_Raw_l0_eq, e1]
    simp only [esc, esh, Nat.reduceAdd, Nat.reduceMul, Nat.reduceLT, h1', hl, hz]
  | e + 1, i, m + 1, hi, hm => by
    have ih := raw_loop (g := g) (q := q) hb hz hj e (i + 1) m (by omega) (by omega)
    have hR := rawT_length hb hj
    have h1' : (i : Int) < 32 := by omega
    have w1 : IntKind.wrap .i64 ((j : Int) * 32) = ((32 * j : Nat) : Int) := by rw [wrap_i64 (by omega) (by omega)]; omega
    have a1 : aiAddrA 256 1 (.c (.p g.length 0)) (.c (.i .i64 ((32 * j + i : Nat) : Int))) = some (.c (.p g.length (32 * j + i))) := by rw [iAddrA_of (by omega)]; simp
    have a2 : aiAddrA 32 1 (.c (.p (g.length + 2) 0)) (.c (.i .i64 (i : Int))) = some (.c (.p (g.length + 2) i)) := by rw [iAddrA_of (by omega)]; simp
    have l1 : (encB b)[32 * j + i]? = some (.i .u8 (rawT b j)[i].toNat) := by
      rw [encB_get, List.getElem?_eq_getElem (by omega)]
      have : (rawT b j)[i] = b[32 * j + i]'(by omega) := by simp [rawT]
      rw [this]; rfl
    have ho : i < (encB ((rawT b j).take i ++ zeros (32 - i))).length := by rw [encB_length, List.length_append, zeros_length, List.length_take]; omega
    have es : (encB ((rawT b j).take i ++ zeros (32 - i))).set i (.i .u8 (rawT b j)[i].toNat) = encB ((rawT b j).take (i + 1) ++ zeros (32 - (i + 1))) := by
      rw [encB_set]
      refine congrArg encB ?_
      have h6 : ((rawT b j).take i).length = i := by simp; omega
      rw [List.set_append_right _ _ (by omega), h6, Nat.sub_self, List.take_succ_eq_append_getElem (by omega), List.append_assoc]
      refine congrArg ((rawT b j).take i ++ ·) ?_
      rw [show 32 - i = 32 - (i + 1) + 1 by omega]
      unfold zeros
      rw [List.replicate_succ, List.set_cons_zero]; rfl
    rw [table_Raw_l0_eq]
    simp only [esc, esh, Nat.reduceAdd, Nat.reduceMul, Nat.reduceLT, h1', w1, wi_add (show 32 * j + i < 9223372036854775808 by omega), a1, a2, l1, ho, es, wi_succ (show i + 1 < 9223372036854775808 by omega)]
    exact ih

theorem table_Raw_eq {b : List UInt8} {j : Nat} {h : Heap} (hb : b.length = 256) (hj : j < 8) : S_table_Raw [.a (encB b), .c (.i .i64 j)] h = some (.a (encB (rawT b j)), h) := by
  have key : ∀ N, 32 < N → ∀ g, ∃ g', R_table_Raw N [.a (encB b), .c (.i .i64 j)] g = some (.a (encB (rawT b j)), g') := by
    intro N hN g
    have c1 : ¬ (j : Int) < 0 := by omega
    have c2 : ¬ (8 : Int) ≤ j := by omega
    have hz : (encB (zeros 32)).length = 32 := by rw [encB_length]; exact zeros_length
    have e := raw_loop (g := g) (z := encB (zeros 32)) (q := N) hb hz hj 32 0 N (by omega) (by omega)
    simp only [List.take_zero, List.nil_append, Nat.sub_zero] at e
    rw [R_table_Raw_eq, zeros_enc]
    generalize zeros 32 = zz at *
    exact ⟨_, by simp only [esc, esh, Nat.reduceAdd, Nat.reduceMul, Nat.reduceLT, c1, c2]; exact e⟩
  obtain ⟨g', e⟩ := key (h.length + 33) (by omega) (ro h)
  exact S_table_Raw_flat e (by simp)

end Go.Proofs.Ytdgggnlbdoiloaa
end
section
namespace Go.Proofs.Ytdgggnlbdoiloaa
open Go Go.Esc

theorem ino0_length : (inoC 0 0 0 0 (zI 7)).length = 11 := rfl
theorem ino0_eq : [Cell.i .i64 0, .i .i64 0, .i .i64 0, .i .i64 0, .i .i64 0, .i .i64 0, .i .i64 0, .i .i64 0, .i .i64 0, .i .i64 0, .i .i64 0] = inoC 0 0 0 0 (zI 7) := rfl
theorem afill_ino0 : afill (inoC 0 0 0 0 (zI 7)) [] = some (inoC 0 0 0 0 (zI 7)) := rfl

theorem table_Get_at {b : List UInt8} {j : Nat} {h : Heap} (hb : b.length = 256) (hj : j < 8) : S_table_Get [.a (encB b), .c (.i .i64 j)] h = some (.t [.a (cleanC (rawT b j)), .c (.b (cleanI (rawT b j)))], h) := by
  have key : ∀ g, ∃ g', R_table_Get 0 [.a (encB b), .c (.i .i64 j)] g = some (.t [.a (cleanC (rawT b j)), .c (.b (cleanI (rawT b j)))], g') := by
    intro g
    have c1 : ¬ (j : Int) < 0 := by omega
    have c2 : ¬ (8 : Int) ≤ j := by omega
    have hB : (encB b).length = 256 := by rw [encB_length, hb]
    have hR := fun h => table_Raw_eq (h := h) hb hj
    have hC := fun h => inode_Clean_eq (b := rawT b j) (h := h) (rawT_length hb hj)
    have hl := ino0_length
    have hcl := cleanC_length (b := rawT b j)
    rw [R_table_Get_eq, ino0_eq]
    generalize inoC 0 0 0 0 (zI 7) = z at *
    exact ⟨_, by simp only [esc, esh, Nat.reduceAdd, Nat.reduceMul, Nat.reduceLT, c1, c2, hB, hR, hC, hl, hcl] <;> rfl⟩
  obtain ⟨g', e⟩ := key (ro h)
  exact S_table_Get_flat e (by simp [flats_cleanC])

end Go.Proofs.Ytdgggnlbdoiloaa
end
section
namespace Go.Proofs.Ytdgggnlbdoiloaa
open Go Go.Esc

def rawV (D : Dev) (n i : Int) : List UInt8 := rawT (blk D (whereB D.length n i)) (whereK D.length n i).toNat
def inoV (D : Dev) (n i : Int) : List Cell := bif isInoL D.length n i then cleanC (rawV D n i) else inoC 0 0 0 0 (zI 7)
def kdV (D : Dev) (n i : Int) : Int := bif isInoL D.length n i then (bif cleanI (rawV D n i) then getK (rawV D n i) else 0) else 0
theorem inoV_form (D : Dev) (n i : Int) : ∃ l s p d, inoV D n i = inoC (kdV D n i) l s p d ∧ d.length = 7 := by
  unfold inoV kdV
  cases isInoL D.length n i with
  | false => exact ⟨0, 0, 0, zI 7, rfl, zI_length⟩
  | true =>
    unfold cleanC
    cases cleanI (rawV D n i) with
    | false => exact ⟨0, 0, 0, zI 7, rfl, zI_length⟩
    | true => exact ⟨_, _, _, _, rfl, getD7_length⟩
theorem flats_inoV (D : Dev) (n i : Int) : flats (inoV D n i) = true := by
  obtain ⟨l, s, p, d, e, hd⟩ := inoV_form D n i
  rw [e]
  exact flats_encI (l := _ :: _ :: _ :: _ :: d)

theorem view_Inode_no {b n m i : Int} {f : Cell} {h : Heap} (hi : isInoL b n i = false) : S_view_View_Inode [.a (vwC b n m f), .c (.i .i64 i)] h = some (.a (inoC 0 0 0 0 (zI 7)), h) := by
  have key : ∀ g, ∃ g', R_view_View_Inode 0 [.a (vwC b n m f), .c (.i .i64 i)] g = some (.a (inoC 0 0 0 0 (zI 7)), g') := by
    intro g
    have l3 := vw_l3 (b := b) (n := n) (m := m) (f := f)
    have hW := fun h => geom_Where_eq (b := b) (n := n) (m := m) (i := i) (h := h)
    simp only [hi] at hW
    have hf := afill_ino0
    have hl := ino0_length
    rw [R_view_View_Inode_eq, ino0_eq]
    generalize vwC b n m f = V at *
    generalize inoC 0 0 0 0 (zI 7) = z at *
    exact ⟨_, by simp only [esc, esh, Nat.reduceAdd, Nat.reduceMul, Nat.reduceLT, l3, hW, hf, hl] <;> rfl⟩
  obtain ⟨g', e⟩ := key (ro h)
  exact S_view_View_Inode_flat e rfl

theorem view_Inode_eq {n m i : Int} {f : Cell} {D : Dev} {h : Heap} (hD : okD D) (hv : IsView h f D) : S_view_View_Inode [.a (vwC D.length n m f), .c (.i .i64 i)] h = some (.a (inoV D n i), h) := by
  cases hi : isInoL D.length n i with
  | false =>
    rw [view_Inode_no hi]
    unfold inoV
    rw [hi]; rfl
  | true =>
    have key : ∀ g, IsView g f D → ∃ g', R_view_View_Inode 0 [.a (vwC D.length n m f), .c (.i .i64 i)] g = some (.a (inoV D n i), g') := by
      intro g hv
      have l3 := vw_l3 (b := D.length) (n := n) (m := m) (f := f)
      have l4 := vw_l4 (b := D.length) (n := n) (m := m) (f := f)
      have hW := fun h => geom_Where_eq (b := D.length) (n := n) (m := m) (i := i) (h := h)
      simp only [hi] at hW
      have hf := afill_ino0
      have hl := ino0_length
      have hK : ∃ j : Nat, whereK D.length n i = j ∧ j < 8 := by
        refine ⟨(whereK D.length n i).toNat, ?_, ?_⟩ <;> unfold whereK <;> rw [hi, cond_true] <;> omega
      obtain ⟨j, hj, hj8⟩ := hK
      have hB := view_Block_eq (n := n) (m := m) (no := whereB D.length n i) (h := g ++ [some (Row.mk (vwC D.length n m f) true), some (Row.mk (inoC 0 0 0 0 (zI 7)) true)]) hD (hv.more _)
      have hG := fun h => table_Get_at (b := blk D (whereB D.length n i)) (j := j) (h := h) (blk_length hD) hj8
      have er : rawT (blk D (whereB D.length n i)) j = rawV D n i := by unfold rawV; rw [hj, Int.toNat_natCast]
      simp only [er] at hG
      simp only [hj] at hW
      have hcl := cleanC_length (b := rawV D n i)
      have ei : inoV D n i = cleanC (rawV D n i) := by unfold inoV; rw [hi]; rfl
      rw [R_view_View_Inode_eq, ino0_eq, ei]
      generalize vwC D.length n m f = V at *
      generalize inoC 0 0 0 0 (zI 7) = z at *
      generalize cleanC (rawV D n i) = y at *
      exact ⟨_, by simp only [esc, esh, Nat.reduceAdd, Nat.reduceMul, Nat.reduceLT, l3, l4, hW, hB, hG, hf, hl, hcl] <;> rfl⟩
    obtain ⟨g', e⟩ := key (ro h) hv.ro
    exact S_view_View_Inode_flat e (flats_inoV D n i)

end Go.Proofs.Ytdgggnlbdoiloaa
end
section
namespace Go.Proofs.Ytdgggnlbdoiloaa
open Go Go.Esc

def hasC (b : List UInt8) (i : Int) : Bool := decide (0 ≤ i) && decide (i < 2048) && decide ((b.getD (i / 8).toNat 0).toNat / 2 ^ (i % 8).toNat % 2 = 1)
def maskC (i : Nat) : Nat := 2 ^ (i % 8)
theorem maskC_lt (i : Nat) : maskC i < 256 := by
  have h : i % 8 < 8 := by omega
  unfold maskC
  generalize i % 8 = j at *
  have : j = 0 ∨ j = 1 ∨ j = 2 ∨ j = 3 ∨ j = 4 ∨ j = 5 ∨ j = 6 ∨ j = 7 := by omega
  rcases this with rfl | rfl | rfl | rfl | rfl | rfl | rfl | rfl <;> decide

theorem chart_where_in {i : Nat} {h : Heap} (hi : i < 2048) : S_chart_where [.c (.i .i64 (i : Int))] h = some (.t [.c (.i .i64 ((i / 8 : Nat) : Int)), .c (.i .u8 (maskC i : Int)), .c (.b true)], h) := by
  refine S_chart_where_flat (n := 0) (h2 := ro h) ?_ rfl
  have c1 : ¬ (i : Int) < 0 := by omega
  have c2 : ¬ (2048 : Int) ≤ i := by omega
  have q1 : abin .quo (.c (.i .i64 (i : Int))) (.c (.i .i64 8)) = some (.c (.i .i64 ((i / 8 : Nat) : Int))) := by
    rw [quo_i64 (by omega) (by omega) (by omega)]; congr 3
  have r1 : abin .rem (.c (.i .i64 (i : Int))) (.c (.i .i64 8)) = some (.c (.i .i64 ((i % 8 : Nat) : Int))) := by
    rw [rem_i (by omega) (by omega)]; congr 3
  have w1 : IntKind.wrap .u64 ((i % 8 : Nat) : Int) = ((i % 8 : Nat) : Int) := wrap_u64 (by omega) (by omega)
  have s1 : abin .shl (.c (.i .u8 1)) (.c (.i .u64 ((i % 8 : Nat) : Int))) = some (.c (.i .u8 (maskC i : Int))) := by
    have hm := maskC_lt i
    rw [abin_shl (by omega), Int.toNat_natCast]
    have e1 : Nat.min (i % 8) IntKind.u8.bits = i % 8 := by
      have : IntKind.u8.bits = 8 := rfl
      rw [this]; exact Nat.min_eq_left (by omega)
    have e2 : (1 : Int) * 2 ^ (i % 8) = (maskC i : Int) := by unfold maskC; rw [Int.natCast_pow]; simp
    rw [e1, e2, wrap_u8 (by omega) (by omega)]
  rw [R_chart_where_eq]
  simp only [esc, c1, c2, q1, r1, w1, s1]

theorem chart_where_out {i : Int} {h : Heap} (hi : i < 0 ∨ 2048 ≤ i) : S_chart_where [.c (.i .i64 i)] h = some (.t [.c (.i .i64 0), .c (.i .u8 0), .c (.b false)], h) := by
  refine S_chart_where_flat (n := 0) (h2 := ro h) ?_ rfl
  rw [R_chart_where_eq]
  by_cases c1 : i < 0
  · simp only [esc, c1]
  · have c2 : 2048 ≤ i := by omega
    simp only [esc, c1, c2]

theorem and_u8 {a b : Nat} (ha : a < 256) (hb : b < 256) : abin .and (.c (.i .u8 a)) (.c (.i .u8 b)) = some (.c (.i .u8 ((a &&& b : Nat) : Int))) := by
  have h1 : a &&& b < 2 ^ 8 := Nat.and_lt_two_pow _ hb
  rw [abin_and]
  have e : (BitVec.ofInt IntKind.u8.bits (a : Int) &&& BitVec.ofInt IntKind.u8.bits (b : Int)).toNat = a &&& b := by
    have h8 : IntKind.u8.bits = 8 := rfl
    rw [BitVec.toNat_and, BitVec.toNat_ofInt, BitVec.toNat_ofInt, h8]
    have e1 : ((a : Int) % (2 ^ 8 : Nat)).toNat = a := by omega
    have e2 : ((b : Int) % (2 ^ 8 : Nat)).toNat = b := by omega
    rw [e1, e2]
  rw [e, wrap_u8 (by omega) (by omega)]
theorem or_u8 {a b : Nat} (ha : a < 256) (hb : b < 256) : abin .or (.c (.i .u8 a)) (.c (.i .u8 b)) = some (.c (.i .u8 ((a ||| b : Nat) : Int))) := by
  have h1 : a ||| b < 2 ^ 8 := Nat.or_lt_two_pow ha hb
  rw [abin_or]
  have e : (BitVec.ofInt IntKind.u8.bits (a : Int) ||| BitVec.ofInt IntKind.u8.bits (b : Int)).toNat = a ||| b := by
    have h8 : IntKind.u8.bits = 8 := rfl
    rw [BitVec.toNat_or, BitVec.toNat_ofInt, BitVec.toNat_ofInt, h8]
    have e1 : ((a : Int) % (2 ^ 8 : Nat)).toNat = a := by omega
    have e2 : ((b : Int) % (2 ^ 8 : Nat)).toNat = b := by omega
    rw [e1, e2]
  rw [e, wrap_u8 (by omega) (by omega)]

theorem and_bit {a j : Nat} : (a &&& 2 ^ j = 0) ↔ ¬ a / 2 ^ j % 2 = 1 := by
  have h := Nat.testBit_eq_decide_div_mod_eq (x := a) (i := j)
  constructor
  · intro h0 h1
    rw [decide_eq_true h1] at h
    have h2 : (a &&& 2 ^ j).testBit j = true := by rw [Nat.testBit_and, h, Nat.testBit_two_pow, decide_eq_true rfl]; rfl
    rw [h0, Nat.zero_testBit] at h2
    cases h2
  · intro h1
    rw [decide_eq_false h1] at h
    refine Nat.eq_of_testBit_eq fun i => ?_
    rw [Nat.testBit_and, Nat.testBit_two_pow, Nat.zero_testBit]
    by_cases c : j = i
    · subst c; rw [h]; rfl
    · rw [decide_eq_false c, Bool.and_false]

theorem chart_Has_eq {b : List UInt8} {i : Int} {h : Heap} (hb : b.length = 256) : S_chart_Has [.a (encB b), .c (.i .i64 i)] h = some (.c (.b (hasC b i)), h) := by
  have key : ∀ g, ∃ g', R_chart_Has 0 [.a (encB b), .c (.i .i64 i)] g = some (.c (.b (hasC b i)), g') := by
    intro g
    rw [R_chart_Has_eq]
    by_cases c : 0 ≤ i ∧ i < 2048
    · obtain ⟨k, rfl⟩ : ∃ k : Nat, i = k := ⟨i.toNat, by omega⟩
      have hk : k < 2048 := by omega
      have hW := fun h => chart_where_in (h := h) hk
      have hlt : k / 8 < b.length := by omega
      have ad := iAddrA_of (k := .i64) (id := g.length) (off := 0) (sz := 1) (j := k / 8) (n := 256) (by omega)
      rw [Nat.mul_one, Nat.zero_add] at ad
      have l1 : (encB b)[k / 8]? = some (.i .u8 b[k / 8].toNat) := by rw [encB_get, List.getElem?_eq_getElem hlt]; rfl
      have a1 := and_u8 (a := b[k / 8].toNat) (b := maskC k) b[k / 8].toNat_lt (maskC_lt k)
      have e : hasC b k = decide (¬ (((b[k / 8].toNat &&& maskC k : Nat) : Int) = 0)) := by
        have h1 : (k : Int) / 8 = ((k / 8 : Nat) : Int) := rfl
        have h2 : (k : Int) % 8 = ((k % 8 : Nat) : Int) := rfl
        unfold hasC
        rw [decide_eq_true c.1, decide_eq_true c.2, Bool.true_and, Bool.true_and, h1, h2, Int.toNat_natCast, Int.toNat_natCast, List.getD_eq_getElem?_getD, List.getElem?_eq_getElem hlt, Option.getD_some]
        have := and_bit (a := b[k / 8].toNat) (j := k % 8)
        unfold maskC
        by_cases c : b[k / 8].toNat / 2 ^ (k % 8) % 2 = 1
        · rw [decide_eq_true c, decide_eq_true]; intro h; exact this.1 (by omega) c
        · rw [decide_eq_false c, decide_eq_false]; intro h; exact h (by have := this.2 c; omega)
      rw [e]
      generalize encB b = y at *
      exact ⟨_, by simp only [esc, esh, Nat.reduceAdd, Nat.reduceMul, Nat.reduceLT, hW, ad, l1, a1] <;> rfl⟩
    · have hW := fun h => chart_where_out (i := i) (h := h) (by omega)
      have e : hasC b i = false := by
        unfold hasC
        rw [Bool.and_eq_false_iff, Bool.and_eq_false_iff, decide_eq_false_iff_not, decide_eq_false_iff_not]; omega
      rw [e]
      generalize encB b = y at *
      exact ⟨_, by simp only [esc, esh, Nat.reduceAdd, Nat.reduceMul, Nat.reduceLT, hW] <;> rfl⟩
  obtain ⟨g', e⟩ := key (ro h)
  exact S_chart_Has_flat e rfl

end Go.Proofs.Ytdgggnlbdoiloaa
end
section
namespace Go.Proofs.Ytdgggnlbdoiloaa
open Go Go.Esc

def inosF (kd : Int → Int) : Nat → Nat → List Int
  | 0, _ => []
  | e + 1, k => if kd ((k : Int) + 1) = 0 then inosF kd e (k + 1) else ((k : Int) + 1) :: inosF kd e (k + 1)
theorem inodes_loop {b n m : Int} {f : Cell} {kd : Int → Int} {g : Heap} {p q : Nat} (h1 : rd g p = some ⟨vwC b n m f, true⟩)
    (hI : ∀ (i : Int) (h : Heap), Low g.length g h → ∃ l s q d, S_view_View_Inode [.a (vwC b n m f), .c (.i .i64 i)] h = some (.a (inoC (kd i) l s q d), h)) :
    ∀ (e k M id : Nat) (h : Heap) (l : List Int), k + e = 128 → e < M → l.length ≤ k → Low g.length g h → g.length ≤ id → rd h id = some ⟨encI l, true⟩ →
    ∃ v' h', view_View_Inodes_l0 q M (.c (.p p 0)) (.c (.sl id 0 l.length 1)) (.c (.i .i64 (k : Int))) h = some (v', h') ∧ Out g.length h' v' 1 (l ++ inosF kd e k).length (encI (l ++ inosF kd e k))
  | e, k, 0, id, h, l, _, hm, _, _, _, _ => by omega
  | 0, k, M + 1, id, h, l, hk, hm, hl, hlow, hid, hr => by
    have c0 : ¬ (k : Int) < 128 := by omega
    rw [view_View_Inodes_l0_eq, inosF, List.append_nil]
    exact ⟨_, _, by simp only [esc, c0] <;> rfl, by rw [encI_length, Nat.mul_one], id, rfl, hid, hr⟩
  | e + 1, k, M + 1, id, h, l, hk, hm, hl, hlow, hid, hr => by
    have c0 : (k : Int) < 128 := by omega
    have w1 : IntKind.wrap .i64 ((k : Int) + 1) = (k : Int) + 1 := wrap_i64 (by omega) (by omega)
    have hV := loadAll (h := h) (id := p) (hlow.rd h1) (n := 4) rfl
    obtain ⟨l', s', q', d', hi⟩ := hI ((k : Int) + 1) h hlow
    have f1 : afld1 (.a (inoC (kd ((k : Int) + 1)) l' s' q' d')) 0 = some (.c (.i .i64 (kd ((k : Int) + 1)))) := rfl
    have ek : (k : Int) + 1 = ((k + 1 : Nat) : Int) := by omega
    rw [view_View_Inodes_l0_eq, inosF]
    by_cases c : kd ((k : Int) + 1) = 0
    · obtain ⟨v', h', g1, g2⟩ := inodes_loop (q := q) h1 hI e (k + 1) M id h l (by omega) (by omega) (by omega) hlow hid hr
      rw [if_pos c]
      rw [← ek] at g1
      refine ⟨v', h', ?_, g2⟩
      generalize vwC b n m f = V at *
      simp only [esc, c0, hV, w1, hi, f1, c, eq_self, view_View_Inodes_j0_eq]
      exact g1
    · have ef : afill [Cell.i .i64 0] [(0, 1, .c (.i .i64 ((k : Int) + 1)))] = some (encI [(k : Int) + 1]) := rfl
      obtain ⟨h', a1, a2, a3, a4, a5⟩ := push (n := l.length) (sz := 1) (ys := encI [(k : Int) + 1]) hlow hr (by rw [encI_length, Nat.mul_one]) hid rfl (by omega) (by omega)
      rw [← encI_append] at a2
      obtain ⟨v', h'', g1, g2⟩ := inodes_loop (q := q) h1 hI e (k + 1) M (h.length + 1) h' (l ++ [(k : Int) + 1]) (by omega) (by omega) (by simp; omega) a3 a4 a2
      rw [List.append_assoc, List.singleton_append] at g2
      have el : (l ++ [(k : Int) + 1]).length = l.length + 1 := by simp
      rw [el, ← ek] at g1
      rw [if_neg c]
      refine ⟨v', h'', ?_, g2⟩
      generalize vwC b n m f = V at *
      simp only [esc, c0, hV, w1, hi, f1, c, eq_self, view_View_Inodes_j0_eq, ef, a1]
      exact g1

theorem view_Inodes_of {b n m : Int} {f : Cell} {kd : Int → Int} {h : Heap} (hI : ∀ (i : Int) (g : Heap), Low h.length (ro h) g → ∃ l s q d, S_view_View_Inode [.a (vwC b n m f), .c (.i .i64 i)] g = some (.a (inoC (kd i) l s q d), g)) :
    S_view_View_Inodes [.a (vwC b n m f)] h = some (.c (.sl h.length 0 (inosF kd 128 0).length 1), h ++ [some ⟨encI (inosF kd 128 0), true⟩]) := by
  have key : ∃ v g', R_view_View_Inodes 129 [.a (vwC b n m f)] (ro h) = some (v, g') ∧ Out (ro h).length g' v 1 (inosF kd 128 0).length (encI (inosF kd 128 0)) := by
    have hl := ro_length (h := h)
    generalize hg : ro h = g at *
    obtain ⟨v', h', g1, g2⟩ := inodes_loop (p := g.length) (q := 129) (g := g ++ [some (Row.mk (vwC b n m f) true)]) (by simp) (fun i k hk => hI i k ⟨by omega, by have := hk.2.1; simp at this; omega, fun id hid => by rw [hk.2.2 id (by simp; omega)]; exact rd_append_left (by omega)⟩)
      128 0 129 (g.length + 2) (g ++ [some (Row.mk (vwC b n m f) true), some (Row.mk [] true), some (Row.mk [] true)]) [] (by omega) (by omega) (by simp)
      (by
        have := (Low.refl (h := g ++ [some (Row.mk (vwC b n m f) true)]) (Nat.le_refl _)).new [some (Row.mk [] true), some (Row.mk [] true)]
        simpa using this) (by simp) (by simp [encI])
    rw [List.nil_append] at g2
    rw [List.length_nil] at g1
    rw [R_view_View_Inodes_eq]
    refine ⟨v', h', ?_, g2.1, ?_⟩
    · generalize vwC b n m f = V at *
      simp only [esc]
      exact g1
    · obtain ⟨id, e, hb, hr⟩ := g2.2
      exact ⟨id, e, by simp at hb; omega, hr⟩
  obtain ⟨v, g', e, ho⟩ := key
  exact S_view_View_Inodes_out e (by simpa [ro_length] using ho) (by simp)

theorem view_Inodes_eq {n m : Int} {f : Cell} {D : Dev} {h : Heap} (hD : okD D) (hv : IsView h f D) : S_view_View_Inodes [.a (vwC D.length n m f)] h = some (.c (.sl h.length 0 (inosF (kdV D n) 128 0).length 1), h ++ [some ⟨encI (inosF (kdV D n) 128 0), true⟩]) :=
  view_Inodes_of fun i g hg => by
    obtain ⟨l, s, p, d, e, hd⟩ := inoV_form D n i
    have h2 : Low (ro h).length (ro h) g := by rw [ro_length]; exact hg
    exact ⟨l, s, p, d, by rw [view_Inode_eq hD (hv.ro.since h2), e]⟩

def usedV (D : Dev) (n i : Int) : Bool := mayL D.length n && decide (0 ≤ i) && decide (i < D.length) && hasC (blk D 1) i

theorem view_Used_eq {n m i : Int} {f : Cell} {D : Dev} {h : Heap} (hD : okD D) (hv : IsView h f D) : S_view_View_Used [.a (vwC D.length n m f), .c (.i .i64 i)] h = some (.c (.b (usedV D n i)), h) := by
  have key : ∀ g, IsView g f D → ∃ g', R_view_View_Used 0 [.a (vwC D.length n m f), .c (.i .i64 i)] g = some (.c (.b (usedV D n i)), g') := by
    intro g hv
    have l3 := vw_l3 (b := D.length) (n := n) (m := m) (f := f)
    have l4 := vw_l4 (b := D.length) (n := n) (m := m) (f := f)
    have l0 : (vwC D.length n m f)[0]? = some (.i .i64 (D.length : Int)) := rfl
    have hC := fun h => super_Check_eq (b := D.length) (n := n) (m := m) (h := h)
    have n10 : ¬ (1 : Int) = 0 := by decide
    rw [R_view_View_Used_eq]
    unfold usedV
    cases c1 : mayL D.length n with
    | false =>
      simp only [c1] at hC
      generalize vwC D.length n m f = V at *
      exact ⟨_, by simp only [esc, esh, Nat.reduceAdd, Nat.reduceMul, Nat.reduceLT, l3, hC, n10, eq_self, Bool.false_and] <;> rfl⟩
    | true =>
      simp only [c1] at hC
      by_cases c2 : 0 ≤ i
      · by_cases c3 : i < D.length
        · have hB := view_Block_eq (n := n) (m := m) (no := 1) (h := g ++ [some (Row.mk (vwC D.length n m f) true)]) hD (hv.more _)
          have hH := fun h => chart_Has_eq (i := i) (h := h) (blk_length hD (i := 1))
          generalize vwC D.length n m f = V at *
          exact ⟨_, by simp only [esc, esh, Nat.reduceAdd, Nat.reduceMul, Nat.reduceLT, l3, l4, l0, hC, n10, eq_self, c2, c3, geom_Map_eq, hB, hH, Bool.true_and] <;> rfl⟩
        · generalize vwC D.length n m f = V at *
          exact ⟨_, by simp only [esc, esh, Nat.reduceAdd, Nat.reduceMul, Nat.reduceLT, l3, l4, l0, hC, n10, eq_self, c2, c3, Bool.true_and, Bool.false_and] <;> rfl⟩
      · generalize vwC D.length n m f = V at *
        exact ⟨_, by simp only [esc, esh, Nat.reduceAdd, Nat.reduceMul, Nat.reduceLT, l3, l4, l0, hC, n10, eq_self, c2, Bool.true_and, Bool.false_and] <;> rfl⟩
  obtain ⟨g', e⟩ := key (ro h) hv.ro
  exact S_view_View_Used_flat e rfl

theorem amkn_n {N : Nat} (hN : N ≤ 1073741823) : amkn (.c (.i .i64 (N : Int))) (.c (.i .i64 (N : Int))) = some N := by
  have : nat? (.c (.i .i64 (N : Int))) = some N := by simp only [nat?]; rw [if_pos (by omega)]; simp
  simp [amkn, this]

end Go.Proofs.Ytdgggnlbdoiloaa
end
noncomputable section
namespace Go.Proofs.Ytdgggnlbdoiloaa
open Go Go.Esc
set_option maxRecDepth 100000
def er04_Ints_o0 : List AOper := [aO 4 (.mv (.v (.c (.b false))))]
def er04_Ints_c0 : ACode := .ops er04_Ints_o0
def er04_Ints_o1 : List AOper := [aO 6 (.mv (.t 0)), aO 7 (.len (.t 6)), aO 8 (.mv (.t 1)), aO 9 (.len (.t 8)), aO 10 (.bin .neq (.t 7) (.t 9))]
def er04_Ints_c1 : ACode := .ops er04_Ints_o1
def er04_Ints_o2 : List AOper := [aO 4 (.mv (.v (.c (.b false))))]
def er04_Ints_c2 : ACode := .ops er04_Ints_o2
def er04_Ints_c3 : ACode := .seq [4] er04_Ints_c2 .ret
def er04_Ints_c4 : ACode := .cond (.t 10) er04_Ints_c3 .skip
def er04_Ints_c5 : ACode := .seq [0, 1, 10] er04_Ints_c1 er04_Ints_c4
def er04_Ints_o3 : List AOper := [aO 5 (.mv (.v (.c (.i .i64 0))))]
def er04_Ints_c6 : ACode := .ops er04_Ints_o3
def er04_Ints_o4 : List AOper := [aO 11 (.mv (.t 5)), aO 12 (.mv (.t 0)), aO 13 (.len (.t 12)), aO 14 (.bin .lss (.t 11) (.t 13))]
def er04_Ints_c7 : ACode := .ops er04_Ints_o4
def er04_Ints_c8 : ACode := .cond (.t 14) .skip (.exit 0)
def er04_Ints_c9 : ACode := .seq [0, 1, 5, 14] er04_Ints_c7 er04_Ints_c8
def er04_Ints_o5 : List AOper := [aO 17 (.mv (.t 0)), aO 18 (.mv (.t 5)), aO 19 (.iAddrL 1 (.t 17) (.t 18)), aO 20 (.load1 (.t 19)), aO 21 (.mv (.t 1)), aO 22 (.mv (.t 5)), aO 23 (.iAddrL 1 (.t 21) (.t 22)), aO 24 (.load1 (.t 23))]
def er04_Ints_o6 : List AOper := [aO 25 (.bin .neq (.t 20) (.t 24))]
def er04_Ints_c10 : ACode := .draw 0 er04_Ints_o5 er04_Ints_o6
def er04_Ints_o7 : List AOper := [aO 4 (.mv (.v (.c (.b false))))]
def er04_Ints_c11 : ACode := .ops er04_Ints_o7
def er04_Ints_c12 : ACode := .seq [4] er04_Ints_c11 .ret
def er04_Ints_c13 : ACode := .cond (.t 25) er04_Ints_c12 .skip
def er04_Ints_c14 : ACode := .seq [0, 1, 5, 25] er04_Ints_c10 er04_Ints_c13
def er04_Ints_c15 : ACode := .block 1 er04_Ints_c14
def er04_Ints_o8 : List AOper := [aO 15 (.mv (.t 5)), aO 16 (.bin .add (.t 15) (.v (.c (.i .i64 1)))), aO 5 (.mv (.t 16))]
def er04_Ints_c16 : ACode := .ops er04_Ints_o8
def er04_Ints_c17 : ACode := .seq [0, 1, 5] er04_Ints_c15 er04_Ints_c16
def er04_Ints_c18 : ACode := .seq [0, 1, 5] er04_Ints_c9 er04_Ints_c17
def er04_Ints_c19 : ACode := .loop [0, 1, 5] er04_Ints_c18
def er04_Ints_c20 : ACode := .block 0 er04_Ints_c19
def er04_Ints_c21 : ACode := .seq [0, 1, 5] er04_Ints_c6 er04_Ints_c20
def er04_Ints_o9 : List AOper := [aO 4 (.mv (.v (.c (.b true))))]
def er04_Ints_c22 : ACode := .ops er04_Ints_o9
def er04_Ints_c23 : ACode := .seq [4] er04_Ints_c22 .ret
def er04_Ints_c24 : ACode := .seq [] er04_Ints_c21 er04_Ints_c23
def er04_Ints_c25 : ACode := .seq [0, 1] er04_Ints_c5 er04_Ints_c24
def er04_Ints_c26 : ACode := .seq [0, 1] er04_Ints_c0 er04_Ints_c25
def A_er04_Ints : AFn := ⟨er04_Ints_c26, [.tmp 4]⟩
def E_er04_Ints : Sums := disp0
def er04_Ints_c0_d (n : Nat) : SmV := smOps E_er04_Ints er04_Ints_o0
def er04_Ints_c1_d (n : Nat) : SmV := smOps E_er04_Ints er04_Ints_o1
def er04_Ints_c2_d (n : Nat) : SmV := smOps E_er04_Ints er04_Ints_o2
def er04_Ints_c3_d (n : Nat) : SmV := smSeq [4] (er04_Ints_c2_d n) smRet
def er04_Ints_c4_d (n : Nat) : SmV := smCond (.t 10) (er04_Ints_c3_d n) smSkip
def er04_Ints_c5_d (n : Nat) : SmV := smSeq [0, 1, 10] (er04_Ints_c1_d n) (er04_Ints_c4_d n)
def er04_Ints_c6_d (n : Nat) : SmV := smOps E_er04_Ints er04_Ints_o3
def er04_Ints_c7_d (n : Nat) : SmV := smOps E_er04_Ints er04_Ints_o4
def er04_Ints_c8_d (n : Nat) : SmV := smCond (.t 14) smSkip (smExit 0)
def er04_Ints_c9_d (n : Nat) : SmV := smSeq [0, 1, 5, 14] (er04_Ints_c7_d n) (er04_Ints_c8_d n)
def er04_Ints_c10_d (n : Nat) : SmV := smDraw E_er04_Ints 0 er04_Ints_o5 er04_Ints_o6
def er04_Ints_c11_d (n : Nat) : SmV := smOps E_er04_Ints er04_Ints_o7
def er04_Ints_c12_d (n : Nat) : SmV := smSeq [4] (er04_Ints_c11_d n) smRet
def er04_Ints_c13_d (n : Nat) : SmV := smCond (.t 25) (er04_Ints_c12_d n) smSkip
def er04_Ints_c14_d (n : Nat) : SmV := smSeq [0, 1, 5, 25] (er04_Ints_c10_d n) (er04_Ints_c13_d n)
def er04_Ints_c15_d (n : Nat) : SmV := smBlock 1 (er04_Ints_c14_d n)
def er04_Ints_c16_d (n : Nat) : SmV := smOps E_er04_Ints er04_Ints_o8
def er04_Ints_c17_d (n : Nat) : SmV := smSeq [0, 1, 5] (er04_Ints_c15_d n) (er04_Ints_c16_d n)
def er04_Ints_c18_d (n : Nat) : SmV := smSeq [0, 1, 5] (er04_Ints_c9_d n) (er04_Ints_c17_d n)
def er04_Ints_c19_d (n : Nat) : SmV := smLoop n [0, 1, 5] (er04_Ints_c18_d n)
def er04_Ints_c20_d (n : Nat) : SmV := smBlock 0 (er04_Ints_c19_d n)
def er04_Ints_c21_d (n : Nat) : SmV := smSeq [0, 1, 5] (er04_Ints_c6_d n) (er04_Ints_c20_d n)
def er04_Ints_c22_d (n : Nat) : SmV := smOps E_er04_Ints er04_Ints_o9
def er04_Ints_c23_d (n : Nat) : SmV := smSeq [4] (er04_Ints_c22_d n) smRet
def er04_Ints_c24_d (n : Nat) : SmV := smSeq [] (er04_Ints_c21_d n) (er04_Ints_c23_d n)
def er04_Ints_c25_d (n : Nat) : SmV := smSeq [0, 1] (er04_Ints_c5_d n) (er04_Ints_c24_d n)
def er04_Ints_c26_d (n : Nat) : SmV := smSeq [0, 1] (er04_Ints_c0_d n) (er04_Ints_c25_d n)
def er04_Ints_k0 (n : Nat) : AExit → Env → Heap → OptV := fun x e h => match x with | .normal => hold ((er04_Ints_c23_d n) A_er04_Ints.fin (e.keep []) h) | .exit id => A_er04_Ints.fin (.exit id) e h | .ret => A_er04_Ints.fin .ret e h
def er04_Ints_k1 (n : Nat) : AExit → Env → Heap → OptV := fun x e h => match x with | .exit i => bif Nat.beq i 0 then (er04_Ints_k0 n) .normal e h else (er04_Ints_k0 n) (.exit i) e h | .normal => (er04_Ints_k0 n) .normal e h | .ret => (er04_Ints_k0 n) .ret e h
def er04_Ints_l0 (n m : Nat) (x0 x1 x5 : Val) (h : Heap) : OptV := around (er04_Ints_c18_d n) [0, 1, 5] (er04_Ints_k1 n) m [(0, x0), (1, x1), (5, x5)] h
def R_er04_Ints (n : Nat) (args : List Val) (h : Heap) : OptV := (er04_Ints_c26_d n) A_er04_Ints.fin (params 0 args) h
theorem R_er04_Ints_eq (n : Nat) (a0 a1 : Val) (h : Heap) : R_er04_Ints n [a0, a1] h = bnd (alen a0) fun v1 => bnd (alen a1) fun v2 => bnd (abin .neq v1 v2) fun v3 => cnd v3 (some ((.c (.b false)), h)) (er04_Ints_l0 n n a0 a1 (.c (.i .i64 0)) h) := by kernel_rfl
theorem er04_Ints_l0_eq (n m : Nat) (x0 x1 x5 : Val) (h : Heap) : er04_Ints_l0 n (m + 1) x0 x1 x5 h = bnd (alen x0) fun v4 => bnd (abin .lss x5 v4) fun v5 => cnd v5 (bnd (aiAddrL 1 x0 x5) fun v6 => bnd (aload1 h v6) fun v7 => bnd (aiAddrL 1 x1 x5) fun v8 => bnd (aload1 h v8) fun v9 => bnd (abin .neq v7 v9) fun v10 => cnd v10 (some ((.c (.b false)), (h ++ []))) (bnd (abin .add x5 (.c (.i .i64 1))) fun v11 => er04_Ints_l0 n m x0 x1 v11 ((h ++ [])))) (some ((.c (.b true)), h)) := by kernel_rfl
theorem K_er04_Ints : FnK Try.prog 37 A_er04_Ints E_er04_Ints R_er04_Ints := .mk' (sound0) Try.func37 (by kernel_rfl) (by intro n args h; kernel_rfl)
def S_er04_Ints : Fun := tidy (Lim A_er04_Ints E_er04_Ints)
theorem S_er04_Ints_ok : SOk Try.prog 37 S_er04_Ints := K_er04_Ints.sok
theorem S_er04_Ints_flat {n : Nat} {args : List Val} {h h2 : Heap} {v : Val} (he : R_er04_Ints n args (ro h) = some (v, h2)) (hf : v.flat = true) : S_er04_Ints args h = some (v, h) := K_er04_Ints.flat he hf
end Go.Proofs.Ytdgggnlbdoiloaa
end
section
namespace Go.Proofs.Ytdgggnlbdoiloaa
open Go Go.Esc

def setC (b : List UInt8) (i : Nat) : List UInt8 := b.set (i / 8) (UInt8.ofNat ((b.getD (i / 8) 0).toNat ||| maskC i))
theorem setC_length {b : List UInt8} {i : Nat} : (setC b i).length = b.length := by simp [setC]

theorem chart_With_in {b : List UInt8} {i : Nat} {h : Heap} (hb : b.length = 256) (hi : i < 2048) : S_chart_With [.a (encB b), .c (.i .i64 (i : Int)), .c (.b true)] h = some (.a (encB (setC b i)), h) := by
  have key : ∀ g, ∃ g', R_chart_With 0 [.a (encB b), .c (.i .i64 (i : Int)), .c (.b true)] g = some (.a (encB (setC b i)), g') := by
    intro g
    have hW := fun h => chart_where_in (h := h) hi
    have hlt : i / 8 < b.length := by omega
    have ad := iAddrA_of (k := .i64) (id := g.length) (off := 0) (sz := 1) (j := i / 8) (n := 256) (by omega)
    rw [Nat.mul_one, Nat.zero_add] at ad
    have l1 : (encB b)[i / 8]? = some (.i .u8 b[i / 8].toNat) := by rw [encB_get, List.getElem?_eq_getElem hlt]; rfl
    have a1 := or_u8 (a := b[i / 8].toNat) (b := maskC i) b[i / 8].toNat_lt (maskC_lt i)
    have hor : b[i / 8].toNat ||| maskC i < 2 ^ 8 := Nat.or_lt_two_pow b[i / 8].toNat_lt (maskC_lt i)
    have es : (encB b).set (i / 8) (.i .u8 ((b[i / 8].toNat ||| maskC i : Nat) : Int)) = encB (setC b i) := by
      have ew : (b[i / 8].toNat ||| maskC i) = (UInt8.ofNat (b[i / 8].toNat ||| maskC i)).toNat := by rw [UInt8.toNat_ofNat', Nat.mod_eq_of_lt hor]
      unfold setC
      rw [List.getD_eq_getElem?_getD, List.getElem?_eq_getElem hlt, Option.getD_some, ← encB_set, ← ew]
    have hB : (encB b).length = 256 := by rw [encB_length, hb]
    have hC : (encB (setC b i)).length = 256 := by rw [encB_length, setC_length, hb]
    have s1 := st1_row (cs := encB b) (off := i / 8) (x := .i .u8 ((b[i / 8].toNat ||| maskC i : Nat) : Int)) (by omega)
    rw [es] at s1
    have hz : (List.replicate 256 (Cell.i .u8 0)).length = 256 := List.length_replicate
    rw [R_chart_With_eq]
    generalize List.replicate 256 (Cell.i .u8 0) = z at *
    generalize encB b = y at *
    generalize encB (setC b i) = y2 at *
    exact ⟨_, by simp only [esc, aloadN_at, aloadN_at0, aload1_at, aload1_at0, astoreN_at, astoreN_at0, astore1_at, astore1_at0, ldN_all, ld1_row, stN_all, hW, ad, l1, a1, s1, chart_With_j0_eq, hB, hC, hz] <;> rfl⟩
  obtain ⟨g', e⟩ := key (ro h)
  exact S_chart_With_flat e (by simp [Val.flat])

def makeC (l : List Nat) : List UInt8 := l.foldl setC (zeros 256)
theorem foldC_length {l : List Nat} : ∀ {b : List UInt8}, (l.foldl setC b).length = b.length := by
  induction l with
  | nil => intro b; rfl
  | cons x l ih => intro b; rw [List.foldl_cons, ih, setC_length]

theorem cmake_loop {g : Heap} {l : List Nat} {q p : Nat} {v : Val} {nv : Nat} (hl : ∀ x ∈ l, x < 2048) (h60 : l.length ≤ 2048) (hv : Has g v 1 nv (encI (l.map fun x : Nat => (x : Int)))) (hp : p = g.length) : ∀ (e i m : Nat), i + e = l.length → e < m →
    chart_Make_l0 q m (.c (.p p 0)) (.c (.p (p + 1) 0)) v (.c (.i .i64 (l.length : Int))) (.c (.i .i64 (i : Int))) (g ++ [some (Row.mk (encB (zeros 256)) true), some (Row.mk (encB ((l.take i).foldl setC (zeros 256))) true)]) =
      some (.a (encB (makeC l)), g ++ [some (Row.mk (encB (makeC l)) true), some (Row.mk (encB (makeC l)) true)])
  | e, i, 0, _, hm => by omega
  | 0, i, m + 1, hi, hm => by
    have e0 : i = l.length := by omega
    subst e0 hp
    have c0 : ¬ (l.length : Int) < (l.length : Nat) := by omega
    have hB : (encB (makeC l)).length = 256 := by rw [encB_length]; unfold makeC; rw [foldC_length]; exact zeros_length
    have hz : (encB (zeros 256)).length = 256 := by rw [encB_length]; exact zeros_length
    rw [chart_Make_l0_eq, List.take_length]
    have em : l.foldl setC (zeros 256) = makeC l := rfl
    rw [em]
    generalize encB (zeros 256) = z at *
    generalize encB (makeC l) = y at *
    simp only [esc, esh, Nat.reduceAdd, Nat.reduceMul, Nat.reduceLT, c0, hB, hz]
  | e + 1, i, m + 1, hi, hm => by
    have hil : i < l.length := by omega
    have ih := cmake_loop (q := q) hl h60 hv hp e (i + 1) m (by omega) (by omega)
    subst hp
    have c0 : (i : Int) < (l.length : Nat) := by omega
    have hnv : l.length = nv := by
      have := hv.length
      rw [encI_length, List.length_map] at this
      omega
    obtain ⟨id, off, rfl, hid, h1, _⟩ := (hv.more [some (Row.mk (encB (zeros 256)) true), some (Row.mk (encB ((l.take i).foldl setC (zeros 256))) true)]).sl (by omega)
    have hx := h1 i (.i .i64 (l[i] : Int)) (by rw [encI_get, List.getElem?_map, List.getElem?_eq_getElem hil]; rfl)
    have ea : aiAddrL 1 (.c (.sl id off nv 1)) (.c (.i .i64 (i : Int))) = some (.c (.p id (off + i))) := by rw [iAddrL_of (by omega)]; simp
    have hfl : ((l.take i).foldl setC (zeros 256)).length = 256 := by rw [foldC_length]; exact zeros_length
    have hW := fun h => chart_With_in (h := h) hfl (hl _ (List.getElem_mem hil))
    have et : setC ((l.take i).foldl setC (zeros 256)) l[i] = (l.take (i + 1)).foldl setC (zeros 256) := by
      rw [List.take_succ_eq_append_getElem hil, List.foldl_append]; rfl
    rw [et] at hW
    have hB : (encB ((l.take i).foldl setC (zeros 256))).length = 256 := by rw [encB_length, hfl]
    have hB2 : (encB ((l.take (i + 1)).foldl setC (zeros 256))).length = 256 := by rw [encB_length, foldC_length]; exact zeros_length
    rw [chart_Make_l0_eq]
    generalize encB (zeros 256) = z at *
    generalize encB ((l.take i).foldl setC (zeros 256)) = y at *
    generalize encB ((l.take (i + 1)).foldl setC (zeros 256)) = y2 at *
    simp only [esc, esh, Nat.reduceAdd, Nat.reduceMul, Nat.reduceLT, c0, ea, hx, hW, hB, hB2, wi_succ (show i + 1 < 9223372036854775808 by omega)]
    exact ih

theorem chart_Make_eq {v : Val} {nv : Nat} {l : List Nat} {h : Heap} (hl : ∀ x ∈ l, x < 2048) (h60 : l.length ≤ 2048) (hv : Has h v 1 nv (encI (l.map fun x : Nat => (x : Int)))) : S_chart_Make [v] h = some (.a (encB (makeC l)), h) := by
  have key : ∀ g, Has g v 1 nv (encI (l.map fun x : Nat => (x : Int))) → ∃ g', R_chart_Make (l.length + 1) [v] g = some (.a (encB (makeC l)), g') := by
    intro g hv
    have hnv : l.length = nv := by
      have := hv.length
      rw [encI_length, List.length_map] at this
      omega
    have hL := cmake_loop (q := l.length + 1) hl h60 hv rfl l.length 0 (l.length + 1) (by omega) (by omega)
    have hlen := hv.len
    rw [← hnv] at hlen
    rw [R_chart_Make_eq, zeros_enc]
    rw [List.take_zero, List.foldl_nil] at hL
    generalize encB (zeros 256) = z at *
    exact ⟨_, by simp only [esc, hlen]; exact hL⟩
  obtain ⟨g', e⟩ := key (ro h) hv.ro
  exact S_chart_Make_flat e (by simp [Val.flat])

end Go.Proofs.Ytdgggnlbdoiloaa
end
section
namespace Go.Proofs.Ytdgggnlbdoiloaa
open Go Go.Esc

theorem ints_loop {v u : Val} {nv nu : Nat} {l r : List Int} {h : Heap} (hv : Has h v 1 nv (encI l)) (hu : Has h u 1 nu (encI r)) (hlr : l.length = r.length) (hl : l.length < 9223372036854775807) {k : Nat} : ∀ d i m, i + d = l.length → d < m →
    er04_Ints_l0 k m v u (.c (.i .i64 i)) h = some (.c (.b (decide (l.drop i = r.drop i))), h)
  | d, i, 0, _, hm => by omega
  | 0, i, m + 1, hi, hm => by
    have hnv : l.length = nv := by simpa [encI_length] using hv.length
    have e1 : l.drop i = [] := List.drop_of_length_le (by omega)
    have e2 : r.drop i = [] := List.drop_of_length_le (by omega)
    have h1' : ¬ (i : Int) < l.length := by omega
    rw [er04_Ints_l0_eq]
    simp only [esc, hv.len, ← hnv, h1', e1, e2]
  | d + 1, i, m + 1, hi, hm => by
    have ih := ints_loop hv hu hlr hl (k := k) d (i + 1) m (by omega) (by omega)
    have hnv : l.length = nv := by simpa [encI_length] using hv.length
    have hnu : r.length = nu := by simpa [encI_length] using hu.length
    have hlen := hv.len
    obtain ⟨id, off, rfl, hid, h1, h2⟩ := hv.sl (by omega)
    obtain ⟨id', off', rfl, hid', h1', h2'⟩ := hu.sl (by omega)
    have hx := h1 i (.i .i64 l[i]) (by rw [encI_get, List.getElem?_eq_getElem (by omega)]; rfl)
    have hy := h1' i (.i .i64 r[i]) (by rw [encI_get, List.getElem?_eq_getElem (by omega)]; rfl)
    have ea : aiAddrL 1 (.c (.sl id off nv 1)) (.c (.i .i64 (i : Int))) = some (.c (.p id (off + i))) := by rw [iAddrL_of (by omega)]; simp
    have eb : aiAddrL 1 (.c (.sl id' off' nu 1)) (.c (.i .i64 (i : Int))) = some (.c (.p id' (off' + i))) := by rw [iAddrL_of (by omega)]; simp
    have c1 : (i : Int) < nv := by omega
    rw [er04_Ints_l0_eq, List.drop_eq_getElem_cons (by omega : i < l.length), List.drop_eq_getElem_cons (by omega : i < r.length)]
    by_cases c : l[i] = r[i]
    · simp only [esc, c1, ea, eb, hx, hy, c, wi_succ (show i + 1 < 9223372036854775808 by omega), List.cons.injEq, true_and]
      exact ih
    · simp only [esc, c1, ea, eb, hx, hy, c, List.cons.injEq, false_and]

theorem ref04_Ints_eq {v u : Val} {nv nu : Nat} {l r : List Int} {h : Heap} (hv : Has h v 1 nv (encI l)) (hu : Has h u 1 nu (encI r)) (hl : l.length < 9223372036854775807) :
    S_er04_Ints [v, u] h = some (.c (.b (decide (l = r))), h) := by
  refine S_er04_Ints_flat (n := l.length + 1) (h2 := ro h) ?_ (by simp)
  have hnv : l.length = nv := by simpa [encI_length] using hv.length
  have hnu : r.length = nu := by simpa [encI_length] using hu.length
  rw [R_er04_Ints_eq]
  by_cases c : l.length = r.length
  · have := ints_loop hv.ro hu.ro c hl (k := l.length + 1) l.length 0 (l.length + 1) (by omega) (by omega)
    simp only [List.drop_zero] at this
    have c' : (nv : Int) = nu := by omega
    simp only [esc, hv.len, hu.len, c']
    exact this
  · have c' : ¬ (nv : Int) = nu := by omega
    have c2 : ¬ l = r := fun e => c (by rw [e])
    simp only [esc, hv.len, hu.len, c', c2]

end Go.Proofs.Ytdgggnlbdoiloaa
end
noncomputable section
namespace Go.Proofs.Ytdgggnlbdoiloaa
open Go Go.Esc
set_option maxRecDepth 100000
def el21_small_o0 : List AOper := [aO 0 (.nilrow 256)]
def el21_small_c0 : ACode := .ops el21_small_o0
def el21_small_o1 : List AOper := [aO 2 (.mkSl 256 (List.replicate 256 (.i .u8 0)) (.v (.c (.i .i64 16))) (.v (.c (.i .i64 16)))), aO 1 (.mv (.t 2))]
def el21_small_c1 : ACode := .ops el21_small_o1
def el21_small_o2 : List AOper := [aO 4 (.mv (.t 1)), aO 5 (.build ([.i .i64 0, .i .i64 0, .i .u64 0]) [(0, 1, (.v (.c (.i .i64 16)))), (1, 1, (.v (.c (.i .i64 8))))]), aO 6 (.call 52 [(.t 5)]), aO 3 (.mv (.t 6)), aO 7 (.ext (.t 3) 0), aO 8 (.ext (.t 3) 1), aO 9 (.iAddrL 256 (.t 4) (.v (.c (.i .i64 0)))), { dst := none, op := .storeN 256 (.t 9) (.t 7) }]
def el21_small_c2 : ACode := .ops el21_small_o2
def el21_small_o3 : List AOper := [aO 11 (.mv (.t 1)), aO 12 (.mv (.t 1)), aO 13 (.iAddrL 256 (.t 12) (.v (.c (.i .i64 2)))), aO 14 (.loadN 256 (.t 13)), aO 15 (.build ([.i .i64 0, .i .i64 0, .i .i64 0, .i .i64 0, .i .i64 0, .i .i64 0, .i .i64 0, .i .i64 0, .i .i64 0, .i .i64 0, .i .i64 0]) [(0, 1, (.v (.c (.i .i64 2)))), (1, 1, (.v (.c (.i .i64 1)))), (3, 1, (.v (.c (.i .i64 1))))]), aO 16 (.call 108 [(.t 14), (.v (.c (.i .i64 0))), (.t 15)]), aO 10 (.mv (.t 16)), aO 17 (.ext (.t 10) 0), aO 18 (.ext (.t 10) 1), aO 19 (.iAddrL 256 (.t 11) (.v (.c (.i .i64 2)))), { dst := none, op := .storeN 256 (.t 19) (.t 17) }]
def el21_small_c3 : ACode := .ops el21_small_o3
def el21_small_o4 : List AOper := [aO 20 (.mv (.t 1)), aO 21 (.buildSl 1 3 ([.i .i64 0, .i .i64 0, .i .i64 0]) [(0, 1, (.v (.c (.i .i64 0)))), (1, 1, (.v (.c (.i .i64 1)))), (2, 1, (.v (.c (.i .i64 2))))]), aO 22 (.call 109 [(.t 21)]), aO 23 (.iAddrL 256 (.t 20) (.v (.c (.i .i64 1)))), { dst := none, op := .storeN 256 (.t 23) (.t 22) }]
def el21_small_c4 : ACode := .ops el21_small_o4
def el21_small_o5 : List AOper := [aO 24 (.mv (.t 1)), aO 0 (.mv (.t 24))]
def el21_small_c5 : ACode := .ops el21_small_o5
def el21_small_c6 : ACode := .seq [0] el21_small_c5 .ret
def el21_small_c7 : ACode := .seq [1] el21_small_c4 el21_small_c6
def el21_small_c8 : ACode := .seq [1] el21_small_c3 el21_small_c7
def el21_small_c9 : ACode := .seq [1] el21_small_c2 el21_small_c8
def el21_small_c10 : ACode := .seq [1] el21_small_c1 el21_small_c9
def el21_small_c11 : ACode := .seq [] el21_small_c0 el21_small_c10
def A_el21_small : AFn := ⟨el21_small_c11, [.tmp 0]⟩
def E_el21_small : Sums := disp 52 S_super_Put (disp 108 S_table_With (disp 109 S_chart_Make disp0))
def el21_small_c0_d (n : Nat) : SmV := smOps E_el21_small el21_small_o0
def el21_small_c1_d (n : Nat) : SmV := smOps E_el21_small el21_small_o1
def el21_small_c2_d (n : Nat) : SmV := smOps E_el21_small el21_small_o2
def el21_small_c3_d (n : Nat) : SmV := smOps E_el21_small el21_small_o3
def el21_small_c4_d (n : Nat) : SmV := smOps E_el21_small el21_small_o4
def el21_small_c5_d (n : Nat) : SmV := smOps E_el21_small el21_small_o5
def el21_small_c6_d (n : Nat) : SmV := smSeq [0] (el21_small_c5_d n) smRet
def el21_small_c7_d (n : Nat) : SmV := smSeq [1] (el21_small_c4_d n) (el21_small_c6_d n)
def el21_small_c8_d (n : Nat) : SmV := smSeq [1] (el21_small_c3_d n) (el21_small_c7_d n)
def el21_small_c9_d (n : Nat) : SmV := smSeq [1] (el21_small_c2_d n) (el21_small_c8_d n)
def el21_small_c10_d (n : Nat) : SmV := smSeq [1] (el21_small_c1_d n) (el21_small_c9_d n)
def el21_small_c11_d (n : Nat) : SmV := smSeq [] (el21_small_c0_d n) (el21_small_c10_d n)
def R_el21_small (n : Nat) (args : List Val) (h : Heap) : OptV := (el21_small_c11_d n) A_el21_small.fin (params 0 args) h
theorem R_el21_small_eq (n : Nat) (h : Heap) : R_el21_small n [] h = bnd (amkn (.c (.i .i64 16)) (.c (.i .i64 16))) fun n1 => bnd (afill ([.i .i64 0, .i .i64 0, .i .u64 0]) [(0, 1, .c (.i .i64 16)), (1, 1, .c (.i .i64 8))]) fun c2 => bnd (S_super_Put [(.a c2)] (((h ++ [some (Row.mk ([]) true)]) ++ [some (Row.mk (rows (List.replicate 256 (.i .u8 0)) n1) true)]))) fun p3 => bnd (aext p3.1 0) fun v4 => bnd (aext p3.1 1) fun v5 => bnd (aiAddrL 256 ((.c (.sl ((h ++ [some (Row.mk ([]) true)])).length 0 n1 256))) (.c (.i .i64 0))) fun v6 => bnd (astoreN p3.2 256 v6 v4) fun h7 => bnd (aiAddrL 256 ((.c (.sl ((h ++ [some (Row.mk ([]) true)])).length 0 n1 256))) (.c (.i .i64 2))) fun v8 => bnd (aloadN h7 256 v8) fun v9 => bnd (afill ([.i .i64 0, .i .i64 0, .i .i64 0, .i .i64 0, .i .i64 0, .i .i64 0, .i .i64 0, .i .i64 0, .i .i64 0, .i .i64 0, .i .i64 0]) [(0, 1, .c (.i .i64 2)), (1, 1, .c (.i .i64 1)), (3, 1, .c (.i .i64 1))]) fun c10 => bnd (S_table_With [v9, .c (.i .i64 0), (.a c10)] h7) fun p11 => bnd (aext p11.1 0) fun v12 => bnd (aext p11.1 1) fun v13 => bnd (aiAddrL 256 ((.c (.sl ((h ++ [some (Row.mk ([]) true)])).length 0 n1 256))) (.c (.i .i64 2))) fun v14 => bnd (astoreN p11.2 256 v14 v12) fun h15 => bnd (afill ([.i .i64 0, .i .i64 0, .i .i64 0]) [(0, 1, .c (.i .i64 0)), (1, 1, .c (.i .i64 1)), (2, 1, .c (.i .i64 2))]) fun c16 => bnd (S_chart_Make [(.c (.sl h15.length 0 3 1))] ((h15 ++ [some (Row.mk (c16) true)]))) fun p17 => bnd (aiAddrL 256 ((.c (.sl ((h ++ [some (Row.mk ([]) true)])).length 0 n1 256))) (.c (.i .i64 1))) fun v18 => bnd (astoreN p17.2 256 v18 p17.1) fun h19 => some (((.c (.sl ((h ++ [some (Row.mk ([]) true)])).length 0 n1 256))), h19) := by kernel_rfl
theorem K_el21_small : FnK Try.prog 68 A_el21_small E_el21_small R_el21_small := .mk' (sound1 S_super_Put_ok (sound1 S_table_With_ok (sound1 S_chart_Make_ok sound0))) Try.func68 (by kernel_rfl) (by intro n args h; kernel_rfl)
def S_el21_small : Fun := tidy (Lim A_el21_small E_el21_small)
theorem S_el21_small_ok : SOk Try.prog 68 S_el21_small := K_el21_small.sok
theorem S_el21_small_out {n : Nat} {args : List Val} {h h2 : Heap} {v : Val} {sz k : Nat} {cs : List Cell} (he : R_el21_small n args (ro h) = some (v, h2)) (ho : Out h.length h2 v sz k cs) (hf : flats cs = true) : S_el21_small args h = some (.c (.sl h.length 0 k sz), h ++ [some ⟨cs, true⟩]) := K_el21_small.out he ho hf
def el21_works_o0 : List AOper := [aO 0 (.mv (.v (.c (.b false))))]
def el21_works_c0 : ACode := .ops el21_works_o0
def el21_works_o1 : List AOper := [aO 6 (.call 68 []), aO 7 (.call 15 [(.t 6)]), aO 5 (.mv (.t 7)), aO 8 (.ext (.t 5) 0), aO 9 (.ext (.t 5) 1), aO 1 (.alloc ([.i .i64 0, .i .i64 0, .i .u64 0, .nf])), { dst := none, op := .storeN 4 (.t 1) (.t 8) }, aO 2 (.mv (.t 9))]
def el21_works_c1 : ACode := .ops el21_works_o1
def el21_works_o2 : List AOper := [aO 11 (.mkSl 256 (List.replicate 256 (.i .u8 0)) (.v (.c (.i .i64 16))) (.v (.c (.i .i64 16)))), aO 12 (.call 15 [(.t 11)]), aO 10 (.mv (.t 12)), aO 13 (.ext (.t 10) 0), aO 14 (.ext (.t 10) 1), aO 3 (.alloc ([.i .i64 0, .i .i64 0, .i .u64 0, .nf])), { dst := none, op := .storeN 4 (.t 3) (.t 13) }, aO 4 (.mv (.t 14))]
def el21_works_c2 : ACode := .ops el21_works_o2
def el21_works_o3 : List AOper := [aO 15 (.mv (.t 2)), aO 16 (.bin .eql (.t 15) (.v (.c (.i .i64 0)))), aO 17 (.mv (.t 16)), { dst := some 18, op := .mv (.t 4), guard := some (17, true) }, { dst := some 19, op := .bin .eql (.t 18) (.v (.c (.i .i64 13))), guard := some (17, true) }, aO 20 (.pick (.t 17) (.t 19) (.v (.c (.b false)))), aO 21 (.mv (.t 20)), { dst := some 22, op := .loadN 4 (.t 1), guard := some (21, true) }, { dst := some 23, op := .call 17 [(.t 22), (.v (.c (.i .i64 1)))], guard := some (21, true) }, { dst := some 24, op := .fld1 (.t 23) 0, guard := some (21, true) }, { dst := some 25, op := .bin .eql (.t 24) (.v (.c (.i .i64 2))), guard := some (21, true) }, aO 26 (.pick (.t 21) (.t 25) (.v (.c (.b false)))), aO 27 (.mv (.t 26)), { dst := some 28, op := .loadN 4 (.t 1), guard := some (27, true) }, { dst := some 29, op := .call 33 [(.t 28), (.v (.c (.i .i64 2)))], guard := some (27, true) }, aO 30 (.pick (.t 27) (.t 29) (.v (.c (.b false)))), aO 31 (.mv (.t 30)), { dst := some 32, op := .loadN 4 (.t 1), guard := some (31, true) }, { dst := some 33, op := .call 33 [(.t 32), (.v (.c (.i .i64 3)))], guard := some (31, true) }, { dst := some 34, op := .un .not (.t 33), guard := some (31, true) }, aO 35 (.pick (.t 31) (.t 34) (.v (.c (.b false)))), aO 36 (.mv (.t 35)), { dst := some 37, op := .loadN 4 (.t 1), guard := some (36, true) }, { dst := some 38, op := .call 31 [(.t 37)], guard := some (36, true) }, { dst := some 39, op := .buildSl 1 1 ([.i .i64 0]) [(0, 1, (.v (.c (.i .i64 1))))], guard := some (36, true) }, { dst := some 40, op := .call 37 [(.t 38), (.t 39)], guard := some (36, true) }, aO 41 (.pick (.t 36) (.t 40) (.v (.c (.b false)))), aO 0 (.mv (.t 41))]
def el21_works_c3 : ACode := .ops el21_works_o3
def el21_works_c4 : ACode := .seq [0] el21_works_c3 .ret
def el21_works_c5 : ACode := .seq [1, 2, 4] el21_works_c2 el21_works_c4
def el21_works_c6 : ACode := .seq [1, 2] el21_works_c1 el21_works_c5
def el21_works_c7 : ACode := .seq [] el21_works_c0 el21_works_c6
def A_el21_works : AFn := ⟨el21_works_c7, [.tmp 0]⟩
def E_el21_works : Sums := disp 68 S_el21_small (disp 15 S_view_Of (disp 17 S_view_View_Inode (disp 33 S_view_View_Used (disp 31 S_view_View_Inodes (disp 37 S_er04_Ints disp0)))))
def el21_works_c0_d (n : Nat) : SmV := smOps E_el21_works el21_works_o0
def el21_works_c1_d (n : Nat) : SmV := smOps E_el21_works el21_works_o1
def el21_works_c2_d (n : Nat) : SmV := smOps E_el21_works el21_works_o2
def el21_works_c3_d (n : Nat) : SmV := smOps E_el21_works el21_works_o3
def el21_works_c4_d (n : Nat) : SmV := smSeq [0] (el21_works_c3_d n) smRet
def el21_works_c5_d (n : Nat) : SmV := smSeq [1, 2, 4] (el21_works_c2_d n) (el21_works_c4_d n)
def el21_works_c6_d (n : Nat) : SmV := smSeq [1, 2] (el21_works_c1_d n) (el21_works_c5_d n)
def el21_works_c7_d (n : Nat) : SmV := smSeq [] (el21_works_c0_d n) (el21_works_c6_d n)
def R_el21_works (n : Nat) (args : List Val) (h : Heap) : OptV := (el21_works_c7_d n) A_el21_works.fin (params 0 args) h
theorem R_el21_works_eq (n : Nat) (h : Heap) : R_el21_works n [] h = bnd (S_el21_small [] h) fun p1 => bnd (S_view_Of [p1.1] p1.2) fun p2 => bnd (aext p2.1 0) fun v3 => bnd (aext p2.1 1) fun v4 => bnd (astoreN ((p2.2 ++ [some (Row.mk ([.i .i64 0, .i .i64 0, .i .u64 0, .nf]) true)])) 4 ((.c (.p p2.2.length 0))) v3) fun h5 => bnd (amkn (.c (.i .i64 16)) (.c (.i .i64 16))) fun n6 => bnd (S_view_Of [(.c (.sl h5.length 0 n6 256))] ((h5 ++ [some (Row.mk (rows (List.replicate 256 (.i .u8 0)) n6) true)]))) fun p7 => bnd (aext p7.1 0) fun v8 => bnd (aext p7.1 1) fun v9 => bnd (astoreN ((p7.2 ++ [some (Row.mk ([.i .i64 0, .i .i64 0, .i .u64 0, .nf]) true)])) 4 ((.c (.p p7.2.length 0))) v8) fun h10 => bnd (abin .eql v4 (.c (.i .i64 0))) fun v11 => bnd (gd v11 true (some (v9, h10)) (some (.no, h10))) fun p12 => bnd (gd v11 true (bnd (abin .eql p12.1 (.c (.i .i64 13))) fun v13 => some (v13, p12.2)) (some (.no, p12.2))) fun p14 => bnd (apick v11 p14.1 (.c (.b false))) fun v15 => bnd (gd v15 true (bnd (aloadN p14.2 4 ((.c (.p p2.2.length 0)))) fun v16 => some (v16, p14.2)) (some (.no, p14.2))) fun p17 => bnd (gd v15 true (bnd (S_view_View_Inode [p17.1, .c (.i .i64 1)] p17.2) fun p18 => some (p18.1, p18.2)) (some (.no, p17.2))) fun p19 => bnd (gd v15 true (bnd (afld1 p19.1 0) fun v20 => some (v20, p19.2)) (some (.no, p19.2))) fun p21 => bnd (gd v15 true (bnd (abin .eql p21.1 (.c (.i .i64 2))) fun v22 => some (v22, p21.2)) (some (.no, p21.2))) fun p23 => bnd (apick v15 p23.1 (.c (.b false))) fun v24 => bnd (gd v24 true (bnd (aloadN p23.2 4 ((.c (.p p2.2.length 0)))) fun v25 => some (v25, p23.2)) (some (.no, p23.2))) fun p26 => bnd (gd v24 true (bnd (S_view_View_Used [p26.1, .c (.i .i64 2)] p26.2) fun p27 => some (p27.1, p27.2)) (some (.no, p26.2))) fun p28 => bnd (apick v24 p28.1 (.c (.b false))) fun v29 => bnd (gd v29 true (bnd (aloadN p28.2 4 ((.c (.p p2.2.length 0)))) fun v30 => some (v30, p28.2)) (some (.no, p28.2))) fun p31 => bnd (gd v29 true (bnd (S_view_View_Used [p31.1, .c (.i .i64 3)] p31.2) fun p32 => some (p32.1, p32.2)) (some (.no, p31.2))) fun p33 => bnd (gd v29 true (bnd (aun .not p33.1) fun v34 => some (v34, p33.2)) (some (.no, p33.2))) fun p35 => bnd (apick v29 p35.1 (.c (.b false))) fun v36 => bnd (gd v36 true (bnd (aloadN p35.2 4 ((.c (.p p2.2.length 0)))) fun v37 => some (v37, p35.2)) (some (.no, p35.2))) fun p38 => bnd (gd v36 true (bnd (S_view_View_Inodes [p38.1] p38.2) fun p39 => some (p39.1, p39.2)) (some (.no, p38.2))) fun p40 => bnd (gd v36 true (bnd (afill ([.i .i64 0]) [(0, 1, .c (.i .i64 1))]) fun c41 => some ((.c (.sl p40.2.length 0 1 1)), (p40.2 ++ [some (Row.mk (c41) true)]))) (some (.no, p40.2))) fun p42 => bnd (gd v36 true (bnd (S_er04_Ints [p40.1, p42.1] p42.2) fun p43 => some (p43.1, p43.2)) (some (.no, p42.2))) fun p44 => bnd (apick v36 p44.1 (.c (.b false))) fun v45 => some (v45, p44.2) := by kernel_rfl
theorem K_el21_works : FnK Try.prog 29 A_el21_works E_el21_works R_el21_works := .mk' (sound1 S_el21_small_ok (sound1 S_view_Of_ok (sound1 S_view_View_Inode_ok (sound1 S_view_View_Used_ok (sound1 S_view_View_Inodes_ok (sound1 S_er04_Ints_ok sound0)))))) Try.func29 (by kernel_rfl) (by intro n args h; kernel_rfl)
def S_el21_works : Fun := tidy (Lim A_el21_works E_el21_works)
theorem S_el21_works_ok : SOk Try.prog 29 S_el21_works := K_el21_works.sok
theorem S_el21_works_flat {n : Nat} {args : List Val} {h h2 : Heap} {v : Val} (he : R_el21_works n args (ro h) = some (v, h2)) (hf : v.flat = true) : S_el21_works args h = some (v, h) := K_el21_works.flat he hf
end Go.Proofs.Ytdgggnlbdoiloaa
end
section
namespace Go.Proofs.Ytdgggnlbdoiloaa
open Go Go.Esc

theorem ldN_dev {i : Nat} {D : Dev} {rw : Bool} (hD : okD D) (hi : i < D.length) : ldN (some ⟨cellsD D, rw⟩) (i * 256) 256 = some (.a (encB D[i])) := by
  simp only [ldN, Option.bind_some]
  rw [if_pos ⟨by rw [cellsD_length hD]; omega, by rw [cellsD_at hD hi, noX_encB]; simp⟩, cellsD_at hD hi]

def inoS : List UInt8 := layB (zeros 256) (32 * 0) (inoB 2 1 0 1 (zI 7))
theorem inoS_length : inoS.length = 256 := by decide +kernel
def mapS : List UInt8 := makeC [0, 1, 2]
theorem mapS_length : mapS.length = 256 := by unfold mapS makeC; rw [foldC_length]; exact zeros_length
def D16a : Dev := (List.replicate 16 (zeros 256)).set 0 (supB 16 8 0)
def D16b : Dev := D16a.set 2 inoS
def DS : Dev := D16b.set 1 mapS
theorem okDa : okD D16a := (okD_zeros 16).set supB_length
theorem okDb : okD D16b := okDa.set inoS_length
theorem okDS : okD DS := okDb.set mapS_length
theorem lenDa : D16a.length = 16 := by unfold D16a; rw [List.length_set, List.length_replicate]
theorem lenDb : D16b.length = 16 := by unfold D16b; rw [List.length_set, lenDa]
theorem lenDS : DS.length = 16 := by unfold DS; rw [List.length_set, lenDb]
theorem devLS : devL DS = true := by decide +kernel
theorem devNS : devN DS = 8 := by decide +kernel
theorem devMS : devM DS = 0 := by decide +kernel
theorem devL0 : devL (List.replicate 16 (zeros 256)) = false := by decide +kernel

theorem small_eq (h : Heap) : S_el21_small [] h = some (.c (.sl h.length 0 16 256), h ++ [some ⟨cellsD DS, true⟩]) := by
  have key : ∀ g, ∃ v g', R_el21_small 0 [] g = some (v, g') ∧ Out g.length g' v 256 16 (cellsD DS) := by
    intro g
    have mk : amkn (.c (.i .i64 16)) (.c (.i .i64 16)) = some 16 := rfl
    have ef1 : afill [Cell.i .i64 0, .i .i64 0, .i .u64 0] [(0, 1, .c (.i .i64 16)), (1, 1, .c (.i .i64 8))] = some (layC 16 8 0) := rfl
    have hp := fun h => super_Put_eq (b := 16) (n := 8) (m := 0) (h := h) (by omega) (by omega)
    have hm : mayL 16 8 = true := by decide
    simp only [hm, cond_true] at hp
    have a0 : aiAddrL 256 (.c (.sl (g.length + 1) 0 16 256)) (.c (.i .i64 0)) = some (.c (.p (g.length + 1) 0)) := rfl
    have a1 : aiAddrL 256 (.c (.sl (g.length + 1) 0 16 256)) (.c (.i .i64 1)) = some (.c (.p (g.length + 1) 256)) := rfl
    have a2 : aiAddrL 256 (.c (.sl (g.length + 1) 0 16 256)) (.c (.i .i64 2)) = some (.c (.p (g.length + 1) 512)) := rfl
    have s1 := stN_dev (D := List.replicate 16 (zeros 256)) (i := 0) (okD_zeros 16) (supB_length (b := 16) (n := 8) (m := 0)) (by simp)
    have e1 : (List.replicate 16 (zeros 256)).set 0 (supB 16 8 0) = D16a := rfl
    rw [e1, Nat.zero_mul] at s1
    have hx : D16a[2]'(by rw [lenDa]; omega) = zeros 256 := by decide +kernel
    have y1 := ldN_dev (D := D16a) (i := 2) (rw := true) okDa (by rw [lenDa]; omega)
    rw [hx] at y1
    have ef2 : afill [Cell.i .i64 0, .i .i64 0, .i .i64 0, .i .i64 0, .i .i64 0, .i .i64 0, .i .i64 0, .i .i64 0, .i .i64 0, .i .i64 0, .i .i64 0] [(0, 1, .c (.i .i64 2)), (1, 1, .c (.i .i64 1)), (3, 1, .c (.i .i64 1))] = some (inoC 2 1 0 1 (zI 7)) := rfl
    have hW := fun h => table_With_ok (j := 0) (k := 2) (l := 1) (s := 0) (p := 1) (d := zI 7) (b := zeros 256) (h := h) zeros_length rfl (by omega) (by decide)
    have eW : layB (zeros 256) (32 * 0) (inoB 2 1 0 1 (zI 7)) = inoS := rfl
    simp only [eW] at hW
    have s2 := stN_dev (D := D16a) (i := 2) okDa inoS_length (by rw [lenDa]; omega)
    have e2 : D16a.set 2 inoS = D16b := rfl
    rw [e2] at s2
    have ef3 : afill [Cell.i .i64 0, .i .i64 0, .i .i64 0] [(0, 1, .c (.i .i64 0)), (1, 1, .c (.i .i64 1)), (2, 1, .c (.i .i64 2))] = some (encI ([0, 1, 2].map fun x : Nat => (x : Int))) := rfl
    have hM := fun h (hv : Has h (.c (.sl (g.length + 2) 0 3 1)) 1 3 (encI ([0, 1, 2].map fun x : Nat => (x : Int)))) => chart_Make_eq (l := [0, 1, 2]) (h := h) (by decide) (by decide) hv
    have eM : makeC [0, 1, 2] = mapS := rfl
    simp only [eM] at hM
    have hM2 := hM (g ++ [some (Row.mk [] true), some (Row.mk (cellsD D16b) true), some (Row.mk (encI ([0, 1, 2].map fun x : Nat => (x : Int))) true)]) (Has.tr (by simp) rfl (noX_encI _))
    have s3 := stN_dev (D := D16b) (i := 1) okDb mapS_length (by rw [lenDb]; omega)
    have e3 : D16b.set 1 mapS = DS := rfl
    rw [e3] at s3
    rw [R_el21_small_eq]
    simp only [rows_dev]
    rw [show (2 * 256 : Nat) = 512 from rfl] at y1 s2
    rw [show (1 * 256 : Nat) = 256 from rfl] at s3
    refine ⟨.c (.sl (g.length + 1) 0 16 256), g ++ [some (Row.mk [] true), some (Row.mk (cellsD DS) true), some (Row.mk (encI ([0, 1, 2].map fun x : Nat => (x : Int))) true)], ?_, by rw [cellsD_length okDS, lenDS], g.length + 1, rfl, by omega, by simp⟩
    generalize cellsD D16a = c1 at *
    generalize cellsD D16b = c2 at *
    generalize cellsD DS = c3 at *
    generalize encB (supB 16 8 0) = b1 at *
    generalize encB (zeros 256) = b2 at *
    generalize encB inoS = b3 at *
    generalize encB mapS = b4 at *
    generalize encI ([0, 1, 2].map fun x : Nat => (x : Int)) = i1 at *
    have z0 : ((0 : Nat) : Int) = 0 := rfl
    simp only [z0] at hW
    simp only [esc, esh, Nat.reduceAdd, Nat.reduceMul, Nat.reduceLT, mk, ef1, hp, a0, s1, a2, y1, ef2, hW, s2, ef3, hM2, a1, s3]
  obtain ⟨v, g', e, ho⟩ := key (ro h)
  exact S_el21_small_out e (by simpa [ro_length] using ho) flats_cellsD

set_option maxHeartbeats 1000000 in
theorem works21_eq (h : Heap) : S_el21_works [] h = some (.c (.b true), h) := by
  have key : ∀ g, ∃ g', R_el21_works 0 [] g = some (.c (.b true), g') := by
    intro g
    have hS := small_eq g
    have l16 := lenDS
    obtain ⟨f, t, hO, hv⟩ := view_Of_ok (v := .c (.sl g.length 0 16 256)) (h := g ++ [some (Row.mk (cellsD DS) true)]) (D := DS) (by rw [l16]; exact Has.tr (by simp) (by rw [cellsD_length okDS, l16]) (noX_cellsD _)) okDS devLS (by rw [l16]; omega)
    rw [devNS, devMS] at hO
    obtain ⟨H, hH⟩ : ∃ H, H = g ++ [some (Row.mk (cellsD DS) true)] ++ t := ⟨_, rfl⟩
    rw [← hH] at hO hv
    obtain ⟨V, hV⟩ : ∃ V, V = vwC DS.length 8 0 f := ⟨_, rfl⟩
    have hS4 : astoreN (H ++ [some (Row.mk [.i .i64 0, .i .i64 0, .i .u64 0, .nf] true)]) 4 (.c (.p H.length 0)) (.a V) = some (H ++ [some (Row.mk V true)]) := by rw [hV, astoreN_at0]; rfl
    have mk : amkn (.c (.i .i64 16)) (.c (.i .i64 16)) = some 16 := rfl
    obtain ⟨t2, hO2⟩ := view_Of_bad (v := .c (.sl (H ++ [some (Row.mk V true)]).length 0 16 256)) (h := H ++ [some (Row.mk V true)] ++ [some (Row.mk (cellsD (List.replicate 16 (zeros 256))) true)]) (D := List.replicate 16 (zeros 256)) (by
      rw [List.length_replicate]
      exact Has.tr (by simp) (by rw [cellsD_length (okD_zeros 16), List.length_replicate]) (noX_cellsD _)) (okD_zeros 16) devL0
    obtain ⟨H2, hH2⟩ : ∃ H2, H2 = H ++ [some (Row.mk V true)] ++ [some (Row.mk (cellsD (List.replicate 16 (zeros 256))) true)] ++ t2 := ⟨_, rfl⟩
    rw [← hH2] at hO2
    simp only [List.append_assoc, List.cons_append, List.nil_append, List.length_append, List.length_cons, List.length_nil, Nat.zero_add] at hO2
    have hS5 : astoreN (H2 ++ [some (Row.mk [.i .i64 0, .i .i64 0, .i .u64 0, .nf] true)]) 4 (.c (.p H2.length 0)) (.a (vwC 0 0 0 .nf)) = some (H2 ++ [some (Row.mk (vwC 0 0 0 .nf) true)]) := by rw [astoreN_at0]; rfl
    obtain ⟨K, hK⟩ : ∃ K, K = H2 ++ [some (Row.mk (vwC 0 0 0 .nf) true)] := ⟨_, rfl⟩
    rw [← hK] at hS5
    have hKr : rd K H.length = some ⟨V, true⟩ := by
      rw [hK, hH2]
      exact rd_append (rd_append (rd_append (by simp)))
    have hvK : IsView K f DS := by
      rw [hK, hH2]
      exact (((hv.more _).more _).more _).more _
    have hL := loadAll (n := 4) hKr (by rw [hV]; rfl)
    have hI := view_Inode_eq (n := 8) (m := 0) (i := 1) okDS hvK
    obtain ⟨l, s, p, d, ei, hd⟩ := inoV_form DS 8 1
    have ek : kdV DS 8 1 = 2 := by decide +kernel
    rw [ei, ek] at hI
    have f1 : afld1 (.a (inoC 2 l s p d)) 0 = some (.c (.i .i64 2)) := rfl
    have hU2 := view_Used_eq (n := 8) (m := 0) (i := 2) okDS hvK
    have hU3 := view_Used_eq (n := 8) (m := 0) (i := 3) okDS hvK
    have eu2 : usedV DS 8 2 = true := by decide +kernel
    have eu3 : usedV DS 8 3 = false := by decide +kernel
    rw [eu2] at hU2
    rw [eu3] at hU3
    have hN := view_Inodes_eq (n := 8) (m := 0) okDS hvK
    have en : inosF (kdV DS 8) 128 0 = [1] := by decide +kernel
    rw [en] at hN
    rw [show ([1] : List Int).length = 1 from rfl] at hN
    rw [← hV] at hO hI hU2 hU3 hN
    have ef : afill [Cell.i .i64 0] [(0, 1, .c (.i .i64 1))] = some (encI [1]) := rfl
    have hQ := ref04_Ints_eq (h := K ++ [some (Row.mk (encI [1]) true), some (Row.mk (encI [1]) true)]) (v := .c (.sl K.length 0 1 1)) (nv := 1) (u := .c (.sl (K.length + 1) 0 1 1)) (nu := 1) (l := [1]) (r := [1]) (Has.tr (by simp) rfl rfl) (Has.tr (by simp) rfl rfl) (by decide)
    rw [decide_eq_true rfl] at hQ
    rw [R_el21_works_eq]
    simp only [rows_dev]
    generalize cellsD DS = c1 at *
    generalize encI [1] = i1 at *
    generalize inoC 2 l s p d = I at *
    exact ⟨_, by simp only [bnd_some, aext_t, List.getElem?_cons_zero, List.getElem?_cons_succ, Option.map_some, ofPart_c, ofPart_a, hS, hO, hS4, mk, hO2, hS5, abin_eql, eq_self, decide_true, gd_tt, apick_b, cond_true, hL, hI, f1, hU2, hU3, aun_not, Bool.not_false, hN, ef, List.append_assoc, List.cons_append, List.nil_append, List.length_append, List.length_cons, List.length_nil, Nat.zero_add, hQ] <;> rfl⟩
  obtain ⟨g', e⟩ := key (ro h)
  exact S_el21_works_flat e rfl

end Go.Proofs.Ytdgggnlbdoiloaa
end
noncomputable section
namespace Go.Proofs.Ytdgggnlbdoiloaa
open Go Go.Esc
set_option maxRecDepth 100000
def el21_To_o0 : List AOper := [aO 2 (.nilrow 256)]
def el21_To_c0 : ACode := .ops el21_To_o0
def el21_To_o1 : List AOper := [aO 3 (.nilrow 256)]
def el21_To_c1 : ACode := .ops el21_To_o1
def el21_To_o2 : List AOper := [aO 4 (.mv (.v (.c (.i .i64 0))))]
def el21_To_c2 : ACode := .ops el21_To_o2
def el21_To_o3 : List AOper := [aO 5 (.mv (.t 4)), aO 6 (.mv (.t 0)), aO 7 (.len (.t 6)), aO 8 (.bin .lss (.t 5) (.t 7))]
def el21_To_c3 : ACode := .ops el21_To_o3
def el21_To_c4 : ACode := .cond (.t 8) .skip (.exit 0)
def el21_To_c5 : ACode := .seq [0, 3, 4, 8] el21_To_c3 el21_To_c4
def el21_To_o4 : List AOper := [aO 11 (.mv (.t 3)), aO 12 (.mv (.t 0)), aO 13 (.mv (.t 4)), aO 14 (.iAddrL 256 (.t 12) (.t 13)), aO 15 (.loadN 256 (.t 14)), aO 16 (.buildSl 256 1 (List.replicate 256 (.i .u8 0)) [(0, 256, (.t 15))]), aO 17 (.app 256 (.t 11) (.t 16)), aO 3 (.mv (.t 17))]
def el21_To_c6 : ACode := .ops el21_To_o4
def el21_To_c7 : ACode := .block 1 el21_To_c6
def el21_To_o5 : List AOper := [aO 9 (.mv (.t 4)), aO 10 (.bin .add (.t 9) (.v (.c (.i .i64 1)))), aO 4 (.mv (.t 10))]
def el21_To_c8 : ACode := .ops el21_To_o5
def el21_To_c9 : ACode := .seq [0, 3, 4] el21_To_c7 el21_To_c8
def el21_To_c10 : ACode := .seq [0, 3, 4] el21_To_c5 el21_To_c9
def el21_To_c11 : ACode := .loop [0, 3, 4] el21_To_c10
def el21_To_c12 : ACode := .block 0 el21_To_c11
def el21_To_c13 : ACode := .seq [0, 3, 4] el21_To_c2 el21_To_c12
def el21_To_o6 : List AOper := [aO 18 (.mv (.t 3)), aO 2 (.mv (.t 18))]
def el21_To_c14 : ACode := .ops el21_To_o6
def el21_To_c15 : ACode := .seq [2] el21_To_c14 .ret
def el21_To_c16 : ACode := .seq [3] el21_To_c13 el21_To_c15
def el21_To_c17 : ACode := .seq [0, 3] el21_To_c1 el21_To_c16
def el21_To_c18 : ACode := .seq [0] el21_To_c0 el21_To_c17
def A_el21_To : AFn := ⟨el21_To_c18, [.tmp 2]⟩
def E_el21_To : Sums := disp0
def el21_To_c0_d (n : Nat) : SmV := smOps E_el21_To el21_To_o0
def el21_To_c1_d (n : Nat) : SmV := smOps E_el21_To el21_To_o1
def el21_To_c2_d (n : Nat) : SmV := smOps E_el21_To el21_To_o2
def el21_To_c3_d (n : Nat) : SmV := smOps E_el21_To el21_To_o3
def el21_To_c4_d (n : Nat) : SmV := smCond (.t 8) smSkip (smExit 0)
def el21_To_c5_d (n : Nat) : SmV := smSeq [0, 3, 4, 8] (el21_To_c3_d n) (el21_To_c4_d n)
def el21_To_c6_d (n : Nat) : SmV := smOps E_el21_To el21_To_o4
def el21_To_c7_d (n : Nat) : SmV := smBlock 1 (el21_To_c6_d n)
def el21_To_c8_d (n : Nat) : SmV := smOps E_el21_To el21_To_o5
def el21_To_c9_d (n : Nat) : SmV := smSeq [0, 3, 4] (el21_To_c7_d n) (el21_To_c8_d n)
def el21_To_c10_d (n : Nat) : SmV := smSeq [0, 3, 4] (el21_To_c5_d n) (el21_To_c9_d n)
def el21_To_c11_d (n : Nat) : SmV := smLoop n [0, 3, 4] (el21_To_c10_d n)
def el21_To_c12_d (n : Nat) : SmV := smBlock 0 (el21_To_c11_d n)
def el21_To_c13_d (n : Nat) : SmV := smSeq [0, 3, 4] (el21_To_c2_d n) (el21_To_c12_d n)
def el21_To_c14_d (n : Nat) : SmV := smOps E_el21_To el21_To_o6
def el21_To_c15_d (n : Nat) : SmV := smSeq [2] (el21_To_c14_d n) smRet
def el21_To_c16_d (n : Nat) : SmV := smSeq [3] (el21_To_c13_d n) (el21_To_c15_d n)
def el21_To_c17_d (n : Nat) : SmV := smSeq [0, 3] (el21_To_c1_d n) (el21_To_c16_d n)
def el21_To_c18_d (n : Nat) : SmV := smSeq [0] (el21_To_c0_d n) (el21_To_c17_d n)
def el21_To_k0 (n : Nat) : AExit → Env → Heap → OptV := fun x e h => match x with | .normal => hold ((el21_To_c15_d n) A_el21_To.fin (e.keep [3]) h) | .exit id => A_el21_To.fin (.exit id) e h | .ret => A_el21_To.fin .ret e h
def el21_To_k1 (n : Nat) : AExit → Env → Heap → OptV := fun x e h => match x with | .exit i => bif Nat.beq i 0 then (el21_To_k0 n) .normal e h else (el21_To_k0 n) (.exit i) e h | .normal => (el21_To_k0 n) .normal e h | .ret => (el21_To_k0 n) .ret e h
def el21_To_l0 (n m : Nat) (x0 x3 x4 : Val) (h : Heap) : OptV := around (el21_To_c10_d n) [0, 3, 4] (el21_To_k1 n) m [(0, x0), (3, x3), (4, x4)] h
def R_el21_To (n : Nat) (args : List Val) (h : Heap) : OptV := (el21_To_c18_d n) A_el21_To.fin (params 0 args) h
theorem R_el21_To_eq (n : Nat) (a0 : Val) (h : Heap) : R_el21_To n [a0] h = el21_To_l0 n n a0 ((.c (.sl ((h ++ [some (Row.mk ([]) true)])).length 0 0 256))) (.c (.i .i64 0)) (((h ++ [some (Row.mk ([]) true)]) ++ [some (Row.mk ([]) true)])) := by kernel_rfl
theorem el21_To_l0_eq (n m : Nat) (x0 x3 x4 : Val) (h : Heap) : el21_To_l0 n (m + 1) x0 x3 x4 h = bnd (alen x0) fun v1 => bnd (abin .lss x4 v1) fun v2 => cnd v2 (bnd (aiAddrL 256 x0 x4) fun v3 => bnd (aloadN h 256 v3) fun v4 => bnd (afill (List.replicate 256 (.i .u8 0)) [(0, 256, v4)]) fun c5 => bnd (aapp ((h ++ [some (Row.mk (c5) true)])) 256 x3 ((.c (.sl h.length 0 1 256)))) fun p6 => bnd (abin .add x4 (.c (.i .i64 1))) fun v7 => el21_To_l0 n m x0 p6.1 v7 p6.2) (some (x3, h)) := by kernel_rfl
theorem K_el21_To : FnK Try.prog 16 A_el21_To E_el21_To R_el21_To := .mk' (sound0) Try.func16 (by kernel_rfl) (by intro n args h; kernel_rfl)
def S_el21_To : Fun := tidy (Lim A_el21_To E_el21_To)
theorem S_el21_To_ok : SOk Try.prog 16 S_el21_To := K_el21_To.sok
theorem S_el21_To_out {n : Nat} {args : List Val} {h h2 : Heap} {v : Val} {sz k : Nat} {cs : List Cell} (he : R_el21_To n args (ro h) = some (v, h2)) (ho : Out h.length h2 v sz k cs) (hf : flats cs = true) : S_el21_To args h = some (.c (.sl h.length 0 k sz), h ++ [some ⟨cs, true⟩]) := K_el21_To.out he ho hf
end Go.Proofs.Ytdgggnlbdoiloaa
end
section
namespace Go.Proofs.Ytdgggnlbdoiloaa
open Go Go.Esc

theorem has_blk {h : Heap} {v : Val} {D : Dev} (hv : Has h v 256 D.length (cellsD D)) (hD : okD D) {i : Nat} (hi : i < D.length) :
    ∃ id off, v = .c (.sl id off D.length 256) ∧ id < h.length ∧ aiAddrL 256 v (.c (.i .i64 (i : Int))) = some (.c (.p id (off + i * 256))) ∧ aloadN h 256 (.c (.p id (off + i * 256))) = some (.a (encB D[i])) := by
  obtain ⟨id, off, rfl, hid, _, h2⟩ := hv.sl (by omega)
  refine ⟨id, off, rfl, hid, iAddrL_of hi, ?_⟩
  rw [h2 (i * 256) 256 (by rw [cellsD_length hD]; omega), cellsD_at hD hi]

theorem afill_blk {b : List UInt8} (hb : b.length = 256) : afill (List.replicate 256 (Cell.i .u8 0)) [(0, 256, .a (encB b))] = some (encB b) := by
  have hl : (encB b).length = 256 := by rw [encB_length, hb]
  have hz : (List.replicate 256 (Cell.i .u8 0)).length = 256 := List.length_replicate
  generalize List.replicate 256 (Cell.i .u8 0) = z at *
  generalize encB b = y at *
  simp only [afill, cells?_a, Option.bind_some]
  rw [if_pos ⟨hl, by omega⟩]
  simp only [lay_all (by omega : y.length = z.length)]

theorem to_loop {g : Heap} {D : Dev} {v : Val} {q : Nat} (hv : Has g v 256 D.length (cellsD D)) (hD : okD D) (h60 : D.length ≤ 1073741823) : ∀ (e i m id : Nat) (h : Heap), i + e = D.length → e < m → Low g.length g h → g.length ≤ id → rd h id = some ⟨cellsD (D.take i), true⟩ →
    ∃ v' h', el21_To_l0 q m v (.c (.sl id 0 i 256)) (.c (.i .i64 (i : Int))) h = some (v', h') ∧ Out g.length h' v' 256 D.length (cellsD D)
  | e, i, 0, id, h, _, hm, _, _, _ => by omega
  | 0, i, m + 1, id, h, hi, hm, hlow, hid, hr => by
    have e0 : i = D.length := by omega
    have c0 : ¬ (i : Int) < (D.length : Nat) := by omega
    have hl := (hv.since hlow).len
    rw [e0, List.take_length] at hr
    rw [el21_To_l0_eq]
    exact ⟨_, _, by simp only [esc, hl, c0] <;> rfl, cellsD_length hD, id, by rw [e0], hid, hr⟩
  | e + 1, i, m + 1, id, h, hi, hm, hlow, hid, hr => by
    have hil : i < D.length := by omega
    have c0 : (i : Int) < (D.length : Nat) := by omega
    have hvh := hv.since hlow
    have hl := hvh.len
    obtain ⟨jd, off, e1, hj, a1, l1⟩ := has_blk hvh hD hil
    have ef := afill_blk (hD.at hil)
    have htl : (D.take i).length = i := by rw [List.length_take]; omega
    obtain ⟨h', p1, p2, p3, p4, p5⟩ := push (ys := encB D[i]) hlow hr (by rw [cellsD_length (hD.take i), htl]) hid (by rw [encB_length, hD.at hil]) (by omega) (by omega)
    have et : cellsD (D.take i) ++ encB D[i] = cellsD (D.take (i + 1)) := by
      rw [List.take_succ_eq_append_getElem hil, cellsD_append, cellsD_one]
    rw [et] at p2
    obtain ⟨v', h'', f1, f2⟩ := to_loop (q := q) hv hD h60 e (i + 1) m (h.length + 1) h' (by omega) (by omega) p3 p4 p2
    refine ⟨v', h'', ?_, f2⟩
    rw [el21_To_l0_eq]
    generalize encB D[i] = y at *
    simp only [esc, hl, c0, a1, l1, ef, p1, wi_succ (show i + 1 < 9223372036854775808 by omega)]
    exact f1

theorem to_eq {v : Val} {D : Dev} {h : Heap} (hv : Has h v 256 D.length (cellsD D)) (hD : okD D) (h60 : D.length ≤ 1073741823) : S_el21_To [v] h = some (.c (.sl h.length 0 D.length 256), h ++ [some ⟨cellsD D, true⟩]) := by
  have key : ∀ g, Has g v 256 D.length (cellsD D) → ∃ v' g', R_el21_To (D.length + 1) [v] g = some (v', g') ∧ Out g.length g' v' 256 D.length (cellsD D) := by
    intro g hv
    obtain ⟨v', h', f1, f2⟩ := to_loop (q := D.length + 1) hv hD h60 D.length 0 (D.length + 1) (g.length + 1) (g ++ [some (Row.mk [] true), some (Row.mk [] true)]) (by omega) (by omega) ((Low.refl (Nat.le_refl _)).new _) (by omega) (by simp [cellsD])
    rw [R_el21_To_eq]
    exact ⟨v', h', by simp only [esc]; exact f1, f2⟩
  obtain ⟨v', g', e, ho⟩ := key (ro h) hv.ro
  exact S_el21_To_out e (by simpa [ro_length] using ho) flats_cellsD

end Go.Proofs.Ytdgggnlbdoiloaa
end
section
namespace Go.Proofs.Ytdgggnlbdoiloaa
open Go Go.Esc

theorem aeq_layC {b n m : Int} : aeq false [Sh.i .i64, .i .i64, .i .u64] (.a (layC b n m)) (.a (layC b n m)) = some (.c (.b true)) := by
  simp only [aeq]
  rw [if_pos ⟨rfl, rfl⟩]; simp
end Go.Proofs.Ytdgggnlbdoiloaa
end
noncomputable section
namespace Go.Proofs.Ytdgggnlbdoiloaa
open Go Go.Esc
set_option maxRecDepth 100000
def el21_ViewOn_1_o0 : List AOper := [aO 4 (.alloc (List.replicate 256 (.i .u8 0))), aO 5 (.mv (.v (.c (.i .i64 0))))]
def el21_ViewOn_1_c0 : ACode := .ops el21_ViewOn_1_o0
def el21_ViewOn_1_o1 : List AOper := [aO 6 (.mv (.t 0)), aO 7 (.iAddrA 2 1 (.t 1) (.v (.c (.i .i64 1)))), aO 8 (.load1 (.t 7)), aO 9 (.bin .lss (.t 6) (.t 8)), aO 10 (.mv (.t 9)), { dst := some 11, op := .mv (.t 0), guard := some (10, false) }, { dst := some 12, op := .bin .lss (.t 11) (.v (.c (.i .i64 0))), guard := some (10, false) }, aO 13 (.pick (.t 10) (.v (.c (.b true))) (.t 12)), aO 14 (.mv (.t 13)), { dst := some 15, op := .mv (.t 0), guard := some (14, false) }, { dst := some 16, op := .load1 (.t 2), guard := some (14, false) }, { dst := some 17, op := .len (.t 16), guard := some (14, false) }, { dst := some 18, op := .bin .geq (.t 15) (.t 17), guard := some (14, false) }, aO 19 (.pick (.t 14) (.v (.c (.b true))) (.t 18))]
def el21_ViewOn_1_c1 : ACode := .ops el21_ViewOn_1_o1
def el21_ViewOn_1_o2 : List AOper := [aO 20 (.build (List.replicate 256 (.i .u8 0)) [(0, 1, (.v (.c (.i .u8 7))))]), { dst := none, op := .storeN 256 (.t 4) (.t 20) }, aO 5 (.mv (.v (.c (.i .i64 2))))]
def el21_ViewOn_1_c2 : ACode := .ops el21_ViewOn_1_o2
def el21_ViewOn_1_c3 : ACode := .seq [4, 5] el21_ViewOn_1_c2 .ret
def el21_ViewOn_1_c4 : ACode := .cond (.t 19) el21_ViewOn_1_c3 .skip
def el21_ViewOn_1_c5 : ACode := .seq [0, 2, 4, 19] el21_ViewOn_1_c1 el21_ViewOn_1_c4
def el21_ViewOn_1_o3 : List AOper := [aO 21 (.load1 (.t 2)), aO 22 (.mv (.t 0)), aO 23 (.iAddrL 256 (.t 21) (.t 22)), aO 24 (.loadN 256 (.t 23)), { dst := none, op := .storeN 256 (.t 4) (.t 24) }, aO 5 (.mv (.v (.c (.i .i64 0))))]
def el21_ViewOn_1_c6 : ACode := .ops el21_ViewOn_1_o3
def el21_ViewOn_1_c7 : ACode := .seq [4, 5] el21_ViewOn_1_c6 .ret
def el21_ViewOn_1_c8 : ACode := .seq [0, 2, 4] el21_ViewOn_1_c5 el21_ViewOn_1_c7
def el21_ViewOn_1_c9 : ACode := .seq [0, 1, 2, 4] el21_ViewOn_1_c0 el21_ViewOn_1_c8
def A_el21_ViewOn_1 : AFn := ⟨el21_ViewOn_1_c9, [.cellN 4 256, .tmp 5]⟩
def E_el21_ViewOn_1 : Sums := disp0
def el21_ViewOn_1_c0_d (n : Nat) : SmV := smOps E_el21_ViewOn_1 el21_ViewOn_1_o0
def el21_ViewOn_1_c1_d (n : Nat) : SmV := smOps E_el21_ViewOn_1 el21_ViewOn_1_o1
def el21_ViewOn_1_c2_d (n : Nat) : SmV := smOps E_el21_ViewOn_1 el21_ViewOn_1_o2
def el21_ViewOn_1_c3_d (n : Nat) : SmV := smSeq [4, 5] (el21_ViewOn_1_c2_d n) smRet
def el21_ViewOn_1_c4_d (n : Nat) : SmV := smCond (.t 19) (el21_ViewOn_1_c3_d n) smSkip
def el21_ViewOn_1_c5_d (n : Nat) : SmV := smSeq [0, 2, 4, 19] (el21_ViewOn_1_c1_d n) (el21_ViewOn_1_c4_d n)
def el21_ViewOn_1_c6_d (n : Nat) : SmV := smOps E_el21_ViewOn_1 el21_ViewOn_1_o3
def el21_ViewOn_1_c7_d (n : Nat) : SmV := smSeq [4, 5] (el21_ViewOn_1_c6_d n) smRet
def el21_ViewOn_1_c8_d (n : Nat) : SmV := smSeq [0, 2, 4] (el21_ViewOn_1_c5_d n) (el21_ViewOn_1_c7_d n)
def el21_ViewOn_1_c9_d (n : Nat) : SmV := smSeq [0, 1, 2, 4] (el21_ViewOn_1_c0_d n) (el21_ViewOn_1_c8_d n)
def R_el21_ViewOn_1 (n : Nat) (args : List Val) (h : Heap) : OptV := (el21_ViewOn_1_c9_d n) A_el21_ViewOn_1.fin (params 0 args) h
theorem R_el21_ViewOn_1_eq (n : Nat) (a0 a1 a2 : Val) (h : Heap) : R_el21_ViewOn_1 n [a0, a1, a2] h = bnd (aiAddrA 2 1 a1 (.c (.i .i64 1))) fun v1 => bnd (aload1 ((h ++ [some (Row.mk (List.replicate 256 (.i .u8 0)) true)])) v1) fun v2 => bnd (abin .lss a0 v2) fun v3 => bnd (gd v3 false (some (a0, (h ++ [some (Row.mk (List.replicate 256 (.i .u8 0)) true)]))) (some (.no, (h ++ [some (Row.mk (List.replicate 256 (.i .u8 0)) true)])))) fun p4 => bnd (gd v3 false (bnd (abin .lss p4.1 (.c (.i .i64 0))) fun v5 => some (v5, p4.2)) (some (.no, p4.2))) fun p6 => bnd (apick v3 (.c (.b true)) p6.1) fun v7 => bnd (gd v7 false (some (a0, p6.2)) (some (.no, p6.2))) fun p8 => bnd (gd v7 false (bnd (aload1 p8.2 a2) fun v9 => some (v9, p8.2)) (some (.no, p8.2))) fun p10 => bnd (gd v7 false (bnd (alen p10.1) fun v11 => some (v11, p10.2)) (some (.no, p10.2))) fun p12 => bnd (gd v7 false (bnd (abin .geq p8.1 p12.1) fun v13 => some (v13, p12.2)) (some (.no, p12.2))) fun p14 => bnd (apick v7 (.c (.b true)) p14.1) fun v15 => cnd v15 (bnd (afill (List.replicate 256 (.i .u8 0)) [(0, 1, .c (.i .u8 7))]) fun c16 => bnd (astoreN p14.2 256 ((.c (.p h.length 0))) ((.a c16))) fun h17 => tupN [aloadN h17 256 ((.c (.p h.length 0))), some (.c (.i .i64 2))] h17) (bnd (aload1 p14.2 a2) fun v18 => bnd (aiAddrL 256 v18 a0) fun v19 => bnd (aloadN p14.2 256 v19) fun v20 => bnd (astoreN p14.2 256 ((.c (.p h.length 0))) v20) fun h21 => tupN [aloadN h21 256 ((.c (.p h.length 0))), some (.c (.i .i64 0))] h21) := by kernel_rfl
theorem K_el21_ViewOn_1 : FnK Try.prog 40 A_el21_ViewOn_1 E_el21_ViewOn_1 R_el21_ViewOn_1 := .mk' (sound0) Try.func40 (by kernel_rfl) (by intro n args h; kernel_rfl)
def S_el21_ViewOn_1 : Fun := tidy (Lim A_el21_ViewOn_1 E_el21_ViewOn_1)
theorem S_el21_ViewOn_1_ok : SOk Try.prog 40 S_el21_ViewOn_1 := K_el21_ViewOn_1.sok
theorem S_el21_ViewOn_1_flat {n : Nat} {args : List Val} {h h2 : Heap} {v : Val} (he : R_el21_ViewOn_1 n args (ro h) = some (v, h2)) (hf : v.flat = true) : S_el21_ViewOn_1 args h = some (v, h) := K_el21_ViewOn_1.flat he hf
def view_On_1__ViewOn_1_o0 : List AOper := [aO 3 (.alloc (List.replicate 256 (.i .u8 0)))]
def view_On_1__ViewOn_1_c0 : ACode := .ops view_On_1__ViewOn_1_o0
def view_On_1__ViewOn_1_o1 : List AOper := [aO 6 (.load1 (.t 1)), aO 7 (.eqN true false (.t 6))]
def view_On_1__ViewOn_1_c1 : ACode := .ops view_On_1__ViewOn_1_o1
def view_On_1__ViewOn_1_o2 : List AOper := [aO 8 (.build (List.replicate 256 (.i .u8 0)) []), { dst := none, op := .storeN 256 (.t 3) (.t 8) }]
def view_On_1__ViewOn_1_c2 : ACode := .ops view_On_1__ViewOn_1_o2
def view_On_1__ViewOn_1_c3 : ACode := .seq [3] view_On_1__ViewOn_1_c2 .ret
def view_On_1__ViewOn_1_c4 : ACode := .cond (.t 7) view_On_1__ViewOn_1_c3 .skip
def view_On_1__ViewOn_1_c5 : ACode := .seq [0, 1, 3, 7] view_On_1__ViewOn_1_c1 view_On_1__ViewOn_1_c4
def view_On_1__ViewOn_1_o3 : List AOper := [aO 10 (.load1 (.t 1)), aO 11 (.mv (.t 0)), aO 12 (.callV (.t 10) [(.t 11)]), aO 9 (.mv (.t 12)), aO 13 (.ext (.t 9) 0), aO 14 (.ext (.t 9) 1), aO 4 (.alloc (List.replicate 256 (.i .u8 0))), { dst := none, op := .storeN 256 (.t 4) (.t 13) }, aO 5 (.mv (.t 14))]
def view_On_1__ViewOn_1_c6 : ACode := .ops view_On_1__ViewOn_1_o3
def view_On_1__ViewOn_1_o4 : List AOper := [aO 15 (.mv (.t 5)), aO 16 (.bin .neq (.t 15) (.v (.c (.i .i64 0))))]
def view_On_1__ViewOn_1_c7 : ACode := .ops view_On_1__ViewOn_1_o4
def view_On_1__ViewOn_1_o5 : List AOper := [aO 17 (.build (List.replicate 256 (.i .u8 0)) []), { dst := none, op := .storeN 256 (.t 3) (.t 17) }]
def view_On_1__ViewOn_1_c8 : ACode := .ops view_On_1__ViewOn_1_o5
def view_On_1__ViewOn_1_c9 : ACode := .seq [3] view_On_1__ViewOn_1_c8 .ret
def view_On_1__ViewOn_1_c10 : ACode := .cond (.t 16) view_On_1__ViewOn_1_c9 .skip
def view_On_1__ViewOn_1_c11 : ACode := .seq [3, 4, 16] view_On_1__ViewOn_1_c7 view_On_1__ViewOn_1_c10
def view_On_1__ViewOn_1_o6 : List AOper := [aO 18 (.loadN 256 (.t 4)), { dst := none, op := .storeN 256 (.t 3) (.t 18) }]
def view_On_1__ViewOn_1_c12 : ACode := .ops view_On_1__ViewOn_1_o6
def view_On_1__ViewOn_1_c13 : ACode := .seq [3] view_On_1__ViewOn_1_c12 .ret
def view_On_1__ViewOn_1_c14 : ACode := .seq [3, 4] view_On_1__ViewOn_1_c11 view_On_1__ViewOn_1_c13
def view_On_1__ViewOn_1_c15 : ACode := .seq [3, 4, 5] view_On_1__ViewOn_1_c6 view_On_1__ViewOn_1_c14
def view_On_1__ViewOn_1_c16 : ACode := .seq [0, 1, 3] view_On_1__ViewOn_1_c5 view_On_1__ViewOn_1_c15
def view_On_1__ViewOn_1_c17 : ACode := .seq [0, 1, 3] view_On_1__ViewOn_1_c0 view_On_1__ViewOn_1_c16
def A_view_On_1__ViewOn_1 : AFn := ⟨view_On_1__ViewOn_1_c17, [.cellN 3 256]⟩
def E_view_On_1__ViewOn_1 : Sums := disp 40 S_el21_ViewOn_1 disp0
def view_On_1__ViewOn_1_c0_d (n : Nat) : SmV := smOps E_view_On_1__ViewOn_1 view_On_1__ViewOn_1_o0
def view_On_1__ViewOn_1_c1_d (n : Nat) : SmV := smOps E_view_On_1__ViewOn_1 view_On_1__ViewOn_1_o1
def view_On_1__ViewOn_1_c2_d (n : Nat) : SmV := smOps E_view_On_1__ViewOn_1 view_On_1__ViewOn_1_o2
def view_On_1__ViewOn_1_c3_d (n : Nat) : SmV := smSeq [3] (view_On_1__ViewOn_1_c2_d n) smRet
def view_On_1__ViewOn_1_c4_d (n : Nat) : SmV := smCond (.t 7) (view_On_1__ViewOn_1_c3_d n) smSkip
def view_On_1__ViewOn_1_c5_d (n : Nat) : SmV := smSeq [0, 1, 3, 7] (view_On_1__ViewOn_1_c1_d n) (view_On_1__ViewOn_1_c4_d n)
def view_On_1__ViewOn_1_c6_d (n : Nat) : SmV := smOps E_view_On_1__ViewOn_1 view_On_1__ViewOn_1_o3
def view_On_1__ViewOn_1_c7_d (n : Nat) : SmV := smOps E_view_On_1__ViewOn_1 view_On_1__ViewOn_1_o4
def view_On_1__ViewOn_1_c8_d (n : Nat) : SmV := smOps E_view_On_1__ViewOn_1 view_On_1__ViewOn_1_o5
def view_On_1__ViewOn_1_c9_d (n : Nat) : SmV := smSeq [3] (view_On_1__ViewOn_1_c8_d n) smRet
def view_On_1__ViewOn_1_c10_d (n : Nat) : SmV := smCond (.t 16) (view_On_1__ViewOn_1_c9_d n) smSkip
def view_On_1__ViewOn_1_c11_d (n : Nat) : SmV := smSeq [3, 4, 16] (view_On_1__ViewOn_1_c7_d n) (view_On_1__ViewOn_1_c10_d n)
def view_On_1__ViewOn_1_c12_d (n : Nat) : SmV := smOps E_view_On_1__ViewOn_1 view_On_1__ViewOn_1_o6
def view_On_1__ViewOn_1_c13_d (n : Nat) : SmV := smSeq [3] (view_On_1__ViewOn_1_c12_d n) smRet
def view_On_1__ViewOn_1_c14_d (n : Nat) : SmV := smSeq [3, 4] (view_On_1__ViewOn_1_c11_d n) (view_On_1__ViewOn_1_c13_d n)
def view_On_1__ViewOn_1_c15_d (n : Nat) : SmV := smSeq [3, 4, 5] (view_On_1__ViewOn_1_c6_d n) (view_On_1__ViewOn_1_c14_d n)
def view_On_1__ViewOn_1_c16_d (n : Nat) : SmV := smSeq [0, 1, 3] (view_On_1__ViewOn_1_c5_d n) (view_On_1__ViewOn_1_c15_d n)
def view_On_1__ViewOn_1_c17_d (n : Nat) : SmV := smSeq [0, 1, 3] (view_On_1__ViewOn_1_c0_d n) (view_On_1__ViewOn_1_c16_d n)
def R_view_On_1__ViewOn_1 (n : Nat) (args : List Val) (h : Heap) : OptV := (view_On_1__ViewOn_1_c17_d n) A_view_On_1__ViewOn_1.fin (params 0 args) h
theorem R_view_On_1__ViewOn_1_eq (n : Nat) (a0 a1 : Val) (h : Heap) : R_view_On_1__ViewOn_1 n [a0, a1] h = bnd (aload1 ((h ++ [some (Row.mk (List.replicate 256 (.i .u8 0)) true)])) a1) fun v1 => bnd (aeqN true false v1) fun v2 => cnd v2 (bnd (afill (List.replicate 256 (.i .u8 0)) []) fun c3 => bnd (astoreN ((h ++ [some (Row.mk (List.replicate 256 (.i .u8 0)) true)])) 256 ((.c (.p h.length 0))) ((.a c3))) fun h4 => mp (aloadN h4 256 ((.c (.p h.length 0)))) fun v => (v, h4)) (bnd (aload1 ((h ++ [some (Row.mk (List.replicate 256 (.i .u8 0)) true)])) a1) fun v5 => bnd (callv E_view_On_1__ViewOn_1 v5 [a0] ((h ++ [some (Row.mk (List.replicate 256 (.i .u8 0)) true)]))) fun p6 => bnd (aext p6.1 0) fun v7 => bnd (aext p6.1 1) fun v8 => bnd (astoreN ((p6.2 ++ [some (Row.mk (List.replicate 256 (.i .u8 0)) true)])) 256 ((.c (.p p6.2.length 0))) v7) fun h9 => bnd (abin .neq v8 (.c (.i .i64 0))) fun v10 => cnd v10 (bnd (afill (List.replicate 256 (.i .u8 0)) []) fun c11 => bnd (astoreN h9 256 ((.c (.p h.length 0))) ((.a c11))) fun h12 => mp (aloadN h12 256 ((.c (.p h.length 0)))) fun v => (v, h12)) (bnd (aloadN h9 256 ((.c (.p p6.2.length 0)))) fun v13 => bnd (astoreN h9 256 ((.c (.p h.length 0))) v13) fun h14 => mp (aloadN h14 256 ((.c (.p h.length 0)))) fun v => (v, h14))) := by kernel_rfl
theorem K_view_On_1__ViewOn_1 : FnK Try.prog 77 A_view_On_1__ViewOn_1 E_view_On_1__ViewOn_1 R_view_On_1__ViewOn_1 := .mk' (sound1 S_el21_ViewOn_1_ok sound0) Try.func77 (by kernel_rfl) (by intro n args h; kernel_rfl)
def S_view_On_1__ViewOn_1 : Fun := tidy (Lim A_view_On_1__ViewOn_1 E_view_On_1__ViewOn_1)
theorem S_view_On_1__ViewOn_1_ok : SOk Try.prog 77 S_view_On_1__ViewOn_1 := K_view_On_1__ViewOn_1.sok
theorem S_view_On_1__ViewOn_1_flat {n : Nat} {args : List Val} {h h2 : Heap} {v : Val} (he : R_view_On_1__ViewOn_1 n args (ro h) = some (v, h2)) (hf : v.flat = true) : S_view_On_1__ViewOn_1 args h = some (v, h) := K_view_On_1__ViewOn_1.flat he hf
def view_View_Block__On_1_o0 : List AOper := [aO 2 (.box (.t 0)), aO 4 (.alloc (List.replicate 256 (.i .u8 0)))]
def view_View_Block__On_1_c0 : ACode := .ops view_View_Block__On_1_o0
def view_View_Block__On_1_o1 : List AOper := [aO 5 (.loadN 4 (.t 2)), aO 6 (.mv (.t 1)), aO 7 (.call 76 [(.t 5), (.t 6)]), aO 8 (.un .not (.t 7))]
def view_View_Block__On_1_c1 : ACode := .ops view_View_Block__On_1_o1
def view_View_Block__On_1_o2 : List AOper := [aO 9 (.build (List.replicate 256 (.i .u8 0)) []), { dst := none, op := .storeN 256 (.t 4) (.t 9) }]
def view_View_Block__On_1_c2 : ACode := .ops view_View_Block__On_1_o2
def view_View_Block__On_1_c3 : ACode := .seq [4] view_View_Block__On_1_c2 .ret
def view_View_Block__On_1_c4 : ACode := .cond (.t 8) view_View_Block__On_1_c3 .skip
def view_View_Block__On_1_c5 : ACode := .seq [1, 2, 4, 8] view_View_Block__On_1_c1 view_View_Block__On_1_c4
def view_View_Block__On_1_o3 : List AOper := [aO 10 (.fAddr (.t 2) 3), aO 11 (.load1 (.t 10)), aO 12 (.mv (.t 1)), aO 13 (.callV (.t 11) [(.t 12)]), { dst := none, op := .storeN 256 (.t 4) (.t 13) }]
def view_View_Block__On_1_c6 : ACode := .ops view_View_Block__On_1_o3
def view_View_Block__On_1_c7 : ACode := .seq [4] view_View_Block__On_1_c6 .ret
def view_View_Block__On_1_c8 : ACode := .seq [1, 2, 4] view_View_Block__On_1_c5 view_View_Block__On_1_c7
def view_View_Block__On_1_c9 : ACode := .seq [1, 2, 4] view_View_Block__On_1_c0 view_View_Block__On_1_c8
def A_view_View_Block__On_1 : AFn := ⟨view_View_Block__On_1_c9, [.cellN 4 256]⟩
def E_view_View_Block__On_1 : Sums := disp 76 S_view_View_there (disp 77 S_view_On_1__ViewOn_1 disp0)
def view_View_Block__On_1_c0_d (n : Nat) : SmV := smOps E_view_View_Block__On_1 view_View_Block__On_1_o0
def view_View_Block__On_1_c1_d (n : Nat) : SmV := smOps E_view_View_Block__On_1 view_View_Block__On_1_o1
def view_View_Block__On_1_c2_d (n : Nat) : SmV := smOps E_view_View_Block__On_1 view_View_Block__On_1_o2
def view_View_Block__On_1_c3_d (n : Nat) : SmV := smSeq [4] (view_View_Block__On_1_c2_d n) smRet
def view_View_Block__On_1_c4_d (n : Nat) : SmV := smCond (.t 8) (view_View_Block__On_1_c3_d n) smSkip
def view_View_Block__On_1_c5_d (n : Nat) : SmV := smSeq [1, 2, 4, 8] (view_View_Block__On_1_c1_d n) (view_View_Block__On_1_c4_d n)
def view_View_Block__On_1_c6_d (n : Nat) : SmV := smOps E_view_View_Block__On_1 view_View_Block__On_1_o3
def view_View_Block__On_1_c7_d (n : Nat) : SmV := smSeq [4] (view_View_Block__On_1_c6_d n) smRet
def view_View_Block__On_1_c8_d (n : Nat) : SmV := smSeq [1, 2, 4] (view_View_Block__On_1_c5_d n) (view_View_Block__On_1_c7_d n)
def view_View_Block__On_1_c9_d (n : Nat) : SmV := smSeq [1, 2, 4] (view_View_Block__On_1_c0_d n) (view_View_Block__On_1_c8_d n)
def R_view_View_Block__On_1 (n : Nat) (args : List Val) (h : Heap) : OptV := (view_View_Block__On_1_c9_d n) A_view_View_Block__On_1.fin (params 0 args) h
theorem R_view_View_Block__On_1_eq (n : Nat) (a0 a1 : Val) (h : Heap) : R_view_View_Block__On_1 n [a0, a1] h = bnd (cells? a0) fun c1 => bnd (aloadN (((h ++ [some (Row.mk (c1) true)]) ++ [some (Row.mk (List.replicate 256 (.i .u8 0)) true)])) 4 ((.c (.p h.length 0)))) fun v2 => bnd (S_view_View_there [v2, a1] (((h ++ [some (Row.mk (c1) true)]) ++ [some (Row.mk (List.replicate 256 (.i .u8 0)) true)]))) fun p3 => bnd (aun .not p3.1) fun v4 => cnd v4 (bnd (afill (List.replicate 256 (.i .u8 0)) []) fun c5 => bnd (astoreN p3.2 256 ((.c (.p ((h ++ [some (Row.mk (c1) true)])).length 0))) ((.a c5))) fun h6 => mp (aloadN h6 256 ((.c (.p ((h ++ [some (Row.mk (c1) true)])).length 0)))) fun v => (v, h6)) (bnd (afAddr ((.c (.p h.length 0))) 3) fun v7 => bnd (aload1 p3.2 v7) fun v8 => bnd (callv E_view_View_Block__On_1 v8 [a1] p3.2) fun p9 => bnd (astoreN p9.2 256 ((.c (.p ((h ++ [some (Row.mk (c1) true)])).length 0))) p9.1) fun h10 => mp (aloadN h10 256 ((.c (.p ((h ++ [some (Row.mk (c1) true)])).length 0)))) fun v => (v, h10)) := by kernel_rfl
theorem K_view_View_Block__On_1 : FnK Try.prog 38 A_view_View_Block__On_1 E_view_View_Block__On_1 R_view_View_Block__On_1 := .mk' (sound1 S_view_View_there_ok (sound1 S_view_On_1__ViewOn_1_ok sound0)) Try.func38 (by kernel_rfl) (by intro n args h; kernel_rfl)
def S_view_View_Block__On_1 : Fun := tidy (Lim A_view_View_Block__On_1 E_view_View_Block__On_1)
theorem S_view_View_Block__On_1_ok : SOk Try.prog 38 S_view_View_Block__On_1 := K_view_View_Block__On_1.sok
theorem S_view_View_Block__On_1_flat {n : Nat} {args : List Val} {h h2 : Heap} {v : Val} (he : R_view_View_Block__On_1 n args (ro h) = some (v, h2)) (hf : v.flat = true) : S_view_View_Block__On_1 args h = some (v, h) := K_view_View_Block__On_1.flat he hf
def view_View_Image__On_1_o0 : List AOper := [aO 1 (.box (.t 0)), aO 2 (.nilrow 256)]
def view_View_Image__On_1_c0 : ACode := .ops view_View_Image__On_1_o0
def view_View_Image__On_1_o1 : List AOper := [aO 5 (.fAddr (.t 1) 0), aO 6 (.loadN 3 (.t 5)), aO 7 (.call 70 [(.t 6)]), aO 8 (.bin .neq (.t 7) (.v (.c (.i .i64 0))))]
def view_View_Image__On_1_c1 : ACode := .ops view_View_Image__On_1_o1
def view_View_Image__On_1_o2 : List AOper := [aO 2 (.nilrow 256)]
def view_View_Image__On_1_c2 : ACode := .ops view_View_Image__On_1_o2
def view_View_Image__On_1_c3 : ACode := .seq [2] view_View_Image__On_1_c2 .ret
def view_View_Image__On_1_c4 : ACode := .cond (.t 8) view_View_Image__On_1_c3 .skip
def view_View_Image__On_1_c5 : ACode := .seq [1, 8] view_View_Image__On_1_c1 view_View_Image__On_1_c4
def view_View_Image__On_1_o3 : List AOper := [aO 9 (.fAddr (.t 1) 0), aO 10 (.fAddr (.t 9) 0), aO 11 (.load1 (.t 10)), aO 12 (.mkSl 256 (List.replicate 256 (.i .u8 0)) (.t 11) (.t 11)), aO 3 (.mv (.t 12))]
def view_View_Image__On_1_c6 : ACode := .ops view_View_Image__On_1_o3
def view_View_Image__On_1_o4 : List AOper := [aO 13 (.mv (.t 3)), aO 14 (.len (.t 13)), aO 15 (.mv (.v (.c (.i .i64 0))))]
def view_View_Image__On_1_c7 : ACode := .ops view_View_Image__On_1_o4
def view_View_Image__On_1_o5 : List AOper := [aO 16 (.bin .lss (.t 15) (.t 14))]
def view_View_Image__On_1_c8 : ACode := .ops view_View_Image__On_1_o5
def view_View_Image__On_1_c9 : ACode := .cond (.t 16) .skip (.exit 0)
def view_View_Image__On_1_o6 : List AOper := [aO 17 (.mv (.t 15)), aO 4 (.mv (.t 17))]
def view_View_Image__On_1_c10 : ACode := .ops view_View_Image__On_1_o6
def view_View_Image__On_1_o7 : List AOper := [aO 18 (.mv (.t 3)), aO 19 (.mv (.t 4)), aO 20 (.loadN 4 (.t 1)), aO 21 (.mv (.t 4)), aO 22 (.call 38 [(.t 20), (.t 21)]), aO 23 (.iAddrL 256 (.t 18) (.t 19)), { dst := none, op := .storeN 256 (.t 23) (.t 22) }]
def view_View_Image__On_1_c11 : ACode := .ops view_View_Image__On_1_o7
def view_View_Image__On_1_c12 : ACode := .seq [1, 3, 4, 14, 15] view_View_Image__On_1_c10 view_View_Image__On_1_c11
def view_View_Image__On_1_c13 : ACode := .block 1 view_View_Image__On_1_c12
def view_View_Image__On_1_o8 : List AOper := [aO 24 (.bin .add (.t 15) (.v (.c (.i .i64 1)))), aO 15 (.mv (.t 24))]
def view_View_Image__On_1_c14 : ACode := .ops view_View_Image__On_1_o8
def view_View_Image__On_1_c15 : ACode := .seq [1, 3, 14, 15] view_View_Image__On_1_c13 view_View_Image__On_1_c14
def view_View_Image__On_1_c16 : ACode := .seq [1, 3, 14, 15] view_View_Image__On_1_c9 view_View_Image__On_1_c15
def view_View_Image__On_1_c17 : ACode := .seq [1, 3, 14, 15, 16] view_View_Image__On_1_c8 view_View_Image__On_1_c16
def view_View_Image__On_1_c18 : ACode := .loop [1, 3, 14, 15] view_View_Image__On_1_c17
def view_View_Image__On_1_c19 : ACode := .block 0 view_View_Image__On_1_c18
def view_View_Image__On_1_c20 : ACode := .seq [1, 3, 14, 15] view_View_Image__On_1_c7 view_View_Image__On_1_c19
def view_View_Image__On_1_o9 : List AOper := [aO 25 (.mv (.t 3)), aO 2 (.mv (.t 25))]
def view_View_Image__On_1_c21 : ACode := .ops view_View_Image__On_1_o9
def view_View_Image__On_1_c22 : ACode := .seq [2] view_View_Image__On_1_c21 .ret
def view_View_Image__On_1_c23 : ACode := .seq [3] view_View_Image__On_1_c20 view_View_Image__On_1_c22
def view_View_Image__On_1_c24 : ACode := .seq [1, 3] view_View_Image__On_1_c6 view_View_Image__On_1_c23
def view_View_Image__On_1_c25 : ACode := .seq [1] view_View_Image__On_1_c5 view_View_Image__On_1_c24
def view_View_Image__On_1_c26 : ACode := .seq [1] view_View_Image__On_1_c0 view_View_Image__On_1_c25
def A_view_View_Image__On_1 : AFn := ⟨view_View_Image__On_1_c26, [.tmp 2]⟩
def E_view_View_Image__On_1 : Sums := disp 70 S_super_Check (disp 38 S_view_View_Block__On_1 (disp 77 S_view_On_1__ViewOn_1 disp0))
def view_View_Image__On_1_c0_d (n : Nat) : SmV := smOps E_view_View_Image__On_1 view_View_Image__On_1_o0
def view_View_Image__On_1_c1_d (n : Nat) : SmV := smOps E_view_View_Image__On_1 view_View_Image__On_1_o1
def view_View_Image__On_1_c2_d (n : Nat) : SmV := smOps E_view_View_Image__On_1 view_View_Image__On_1_o2
def view_View_Image__On_1_c3_d (n : Nat) : SmV := smSeq [2] (view_View_Image__On_1_c2_d n) smRet
def view_View_Image__On_1_c4_d (n : Nat) : SmV := smCond (.t 8) (view_View_Image__On_1_c3_d n) smSkip
def view_View_Image__On_1_c5_d (n : Nat) : SmV := smSeq [1, 8] (view_View_Image__On_1_c1_d n) (view_View_Image__On_1_c4_d n)
def view_View_Image__On_1_c6_d (n : Nat) : SmV := smOps E_view_View_Image__On_1 view_View_Image__On_1_o3
def view_View_Image__On_1_c7_d (n : Nat) : SmV := smOps E_view_View_Image__On_1 view_View_Image__On_1_o4
def view_View_Image__On_1_c8_d (n : Nat) : SmV := smOps E_view_View_Image__On_1 view_View_Image__On_1_o5
def view_View_Image__On_1_c9_d (n : Nat) : SmV := smCond (.t 16) smSkip (smExit 0)
def view_View_Image__On_1_c10_d (n : Nat) : SmV := smOps E_view_View_Image__On_1 view_View_Image__On_1_o6
def view_View_Image__On_1_c11_d (n : Nat) : SmV := smOps E_view_View_Image__On_1 view_View_Image__On_1_o7
def view_View_Image__On_1_c12_d (n : Nat) : SmV := smSeq [1, 3, 4, 14, 15] (view_View_Image__On_1_c10_d n) (view_View_Image__On_1_c11_d n)
def view_View_Image__On_1_c13_d (n : Nat) : SmV := smBlock 1 (view_View_Image__On_1_c12_d n)
def view_View_Image__On_1_c14_d (n : Nat) : SmV := smOps E_view_View_Image__On_1 view_View_Image__On_1_o8
def view_View_Image__On_1_c15_d (n : Nat) : SmV := smSeq [1, 3, 14, 15] (view_View_Image__On_1_c13_d n) (view_View_Image__On_1_c14_d n)
def view_View_Image__On_1_c16_d (n : Nat) : SmV := smSeq [1, 3, 14, 15] (view_View_Image__On_1_c9_d n) (view_View_Image__On_1_c15_d n)
def view_View_Image__On_1_c17_d (n : Nat) : SmV := smSeq [1, 3, 14, 15, 16] (view_View_Image__On_1_c8_d n) (view_View_Image__On_1_c16_d n)
def view_View_Image__On_1_c18_d (n : Nat) : SmV := smLoop n [1, 3, 14, 15] (view_View_Image__On_1_c17_d n)
def view_View_Image__On_1_c19_d (n : Nat) : SmV := smBlock 0 (view_View_Image__On_1_c18_d n)
def view_View_Image__On_1_c20_d (n : Nat) : SmV := smSeq [1, 3, 14, 15] (view_View_Image__On_1_c7_d n) (view_View_Image__On_1_c19_d n)
def view_View_Image__On_1_c21_d (n : Nat) : SmV := smOps E_view_View_Image__On_1 view_View_Image__On_1_o9
def view_View_Image__On_1_c22_d (n : Nat) : SmV := smSeq [2] (view_View_Image__On_1_c21_d n) smRet
def view_View_Image__On_1_c23_d (n : Nat) : SmV := smSeq [3] (view_View_Image__On_1_c20_d n) (view_View_Image__On_1_c22_d n)
def view_View_Image__On_1_c24_d (n : Nat) : SmV := smSeq [1, 3] (view_View_Image__On_1_c6_d n) (view_View_Image__On_1_c23_d n)
def view_View_Image__On_1_c25_d (n : Nat) : SmV := smSeq [1] (view_View_Image__On_1_c5_d n) (view_View_Image__On_1_c24_d n)
def view_View_Image__On_1_c26_d (n : Nat) : SmV := smSeq [1] (view_View_Image__On_1_c0_d n) (view_View_Image__On_1_c25_d n)
def view_View_Image__On_1_k0 (n : Nat) : AExit → Env → Heap → OptV := fun x e h => match x with | .normal => hold ((view_View_Image__On_1_c22_d n) A_view_View_Image__On_1.fin (e.keep [3]) h) | .exit id => A_view_View_Image__On_1.fin (.exit id) e h | .ret => A_view_View_Image__On_1.fin .ret e h
def view_View_Image__On_1_k1 (n : Nat) : AExit → Env → Heap → OptV := fun x e h => match x with | .exit i => bif Nat.beq i 0 then (view_View_Image__On_1_k0 n) .normal e h else (view_View_Image__On_1_k0 n) (.exit i) e h | .normal => (view_View_Image__On_1_k0 n) .normal e h | .ret => (view_View_Image__On_1_k0 n) .ret e h
def view_View_Image__On_1_l0 (n m : Nat) (x1 x3 x14 x15 : Val) (h : Heap) : OptV := around (view_View_Image__On_1_c17_d n) [1, 3, 14, 15] (view_View_Image__On_1_k1 n) m [(1, x1), (3, x3), (14, x14), (15, x15)] h
def R_view_View_Image__On_1 (n : Nat) (args : List Val) (h : Heap) : OptV := (view_View_Image__On_1_c26_d n) A_view_View_Image__On_1.fin (params 0 args) h
theorem R_view_View_Image__On_1_eq (n : Nat) (a0 : Val) (h : Heap) : R_view_View_Image__On_1 n [a0] h = bnd (cells? a0) fun c1 => bnd (afAddr ((.c (.p h.length 0))) 0) fun v2 => bnd (aloadN (((h ++ [some (Row.mk (c1) true)]) ++ [some (Row.mk ([]) true)])) 3 v2) fun v3 => bnd (S_super_Check [v3] (((h ++ [some (Row.mk (c1) true)]) ++ [some (Row.mk ([]) true)]))) fun p4 => bnd (abin .neq p4.1 (.c (.i .i64 0))) fun v5 => cnd v5 (some (((.c (.sl p4.2.length 0 0 256))), (p4.2 ++ [some (Row.mk ([]) true)]))) (bnd (afAddr ((.c (.p h.length 0))) 0) fun v6 => bnd (afAddr v6 0) fun v7 => bnd (aload1 p4.2 v7) fun v8 => bnd (amkn v8 v8) fun n9 => bnd (alen ((.c (.sl p4.2.length 0 n9 256)))) fun v10 => view_View_Image__On_1_l0 n n ((.c (.p h.length 0))) ((.c (.sl p4.2.length 0 n9 256))) v10 (.c (.i .i64 0)) ((p4.2 ++ [some (Row.mk (rows (List.replicate 256 (.i .u8 0)) n9) true)]))) := by kernel_rfl
theorem view_View_Image__On_1_l0_eq (n m : Nat) (x1 x3 x14 x15 : Val) (h : Heap) : view_View_Image__On_1_l0 n (m + 1) x1 x3 x14 x15 h = bnd (abin .lss x15 x14) fun v11 => cnd v11 (bnd (aloadN h 4 x1) fun v12 => bnd (S_view_View_Block__On_1 [v12, x15] h) fun p13 => bnd (aiAddrL 256 x3 x15) fun v14 => bnd (astoreN p13.2 256 v14 p13.1) fun h15 => bnd (abin .add x15 (.c (.i .i64 1))) fun v16 => view_View_Image__On_1_l0 n m x1 x3 x14 v16 h15) (some (x3, h)) := by kernel_rfl
theorem K_view_View_Image__On_1 : FnK Try.prog 32 A_view_View_Image__On_1 E_view_View_Image__On_1 R_view_View_Image__On_1 := .mk' (sound1 S_super_Check_ok (sound1 S_view_View_Block__On_1_ok (sound1 S_view_On_1__ViewOn_1_ok sound0))) Try.func32 (by kernel_rfl) (by intro n args h; kernel_rfl)
def S_view_View_Image__On_1 : Fun := tidy (Lim A_view_View_Image__On_1 E_view_View_Image__On_1)
theorem S_view_View_Image__On_1_ok : SOk Try.prog 32 S_view_View_Image__On_1 := K_view_View_Image__On_1.sok
theorem S_view_View_Image__On_1_out {n : Nat} {args : List Val} {h h2 : Heap} {v : Val} {sz k : Nat} {cs : List Cell} (he : R_view_View_Image__On_1 n args (ro h) = some (v, h2)) (ho : Out h.length h2 v sz k cs) (hf : flats cs = true) : S_view_View_Image__On_1 args h = some (.c (.sl h.length 0 k sz), h ++ [some ⟨cs, true⟩]) := K_view_View_Image__On_1.out he ho hf
def el21_ViewOn_o0 : List AOper := [aO 3 (.box (.t 0)), aO 5 (.box (.t 2)), aO 6 (.mv (.v (.c (.b false))))]
def el21_ViewOn_c0 : ACode := .ops el21_ViewOn_o0
def el21_ViewOn_o1 : List AOper := [aO 13 (.mv (.t 1)), aO 14 (.len (.t 13)), aO 15 (.bin .gtr (.t 14) (.v (.c (.i .i64 60))))]
def el21_ViewOn_c1 : ACode := .ops el21_ViewOn_o1
def el21_ViewOn_o2 : List AOper := [aO 16 (.call 29 []), aO 6 (.mv (.t 16))]
def el21_ViewOn_c2 : ACode := .ops el21_ViewOn_o2
def el21_ViewOn_c3 : ACode := .seq [6] el21_ViewOn_c2 .ret
def el21_ViewOn_c4 : ACode := .cond (.t 15) el21_ViewOn_c3 .skip
def el21_ViewOn_c5 : ACode := .seq [1, 3, 5, 15] el21_ViewOn_c1 el21_ViewOn_c4
def el21_ViewOn_o3 : List AOper := [aO 17 (.mv (.t 1)), aO 18 (.call 16 [(.t 17)]), aO 7 (.alloc ([.ns])), { dst := none, op := .store1 (.t 7) (.t 18) }]
def el21_ViewOn_c6 : ACode := .ops el21_ViewOn_o3
def el21_ViewOn_o4 : List AOper := [aO 19 (.loadN 3 (.t 3)), aO 20 (.mkf 40 [(.t 5), (.t 7)]), aO 21 (.call 39 [(.t 19), (.t 20)]), aO 8 (.alloc ([.i .i64 0, .i .i64 0, .i .u64 0, .nf])), { dst := none, op := .storeN 4 (.t 8) (.t 21) }]
def el21_ViewOn_c7 : ACode := .ops el21_ViewOn_o4
def el21_ViewOn_o5 : List AOper := [aO 22 (.loadN 3 (.t 3)), aO 23 (.call 39 [(.t 22), (.v (.c .nf))]), aO 9 (.alloc ([.i .i64 0, .i .i64 0, .i .u64 0, .nf])), { dst := none, op := .storeN 4 (.t 9) (.t 23) }]
def el21_ViewOn_c8 : ACode := .ops el21_ViewOn_o5
def el21_ViewOn_o6 : List AOper := [aO 10 (.alloc ([.i .i64 0, .i .i64 0, .i .u64 0, .nf]))]
def el21_ViewOn_c9 : ACode := .ops el21_ViewOn_o6
def el21_ViewOn_o7 : List AOper := [aO 24 (.build (List.replicate 256 (.i .u8 0)) []), aO 11 (.alloc (List.replicate 256 (.i .u8 0))), { dst := none, op := .storeN 256 (.t 11) (.t 24) }]
def el21_ViewOn_c10 : ACode := .ops el21_ViewOn_o7
def el21_ViewOn_o8 : List AOper := [aO 25 (.iAddrA 2 1 (.t 5) (.v (.c (.i .i64 0)))), aO 26 (.load1 (.t 25)), aO 27 (.iAddrA 2 1 (.t 5) (.v (.c (.i .i64 1)))), aO 28 (.load1 (.t 27)), aO 29 (.bin .geq (.t 26) (.t 28)), aO 30 (.mv (.t 29)), { dst := some 31, op := .iAddrA 2 1 (.t 5) (.v (.c (.i .i64 0))), guard := some (30, true) }, { dst := some 32, op := .load1 (.t 31), guard := some (30, true) }, { dst := some 33, op := .bin .geq (.t 32) (.v (.c (.i .i64 0))), guard := some (30, true) }, aO 34 (.pick (.t 30) (.t 33) (.v (.c (.b false)))), aO 35 (.mv (.t 34)), { dst := some 36, op := .iAddrA 2 1 (.t 5) (.v (.c (.i .i64 0))), guard := some (35, true) }, { dst := some 37, op := .load1 (.t 36), guard := some (35, true) }, { dst := some 38, op := .mv (.t 1), guard := some (35, true) }, { dst := some 39, op := .len (.t 38), guard := some (35, true) }, { dst := some 40, op := .bin .lss (.t 37) (.t 39), guard := some (35, true) }, aO 41 (.pick (.t 35) (.t 40) (.v (.c (.b false)))), aO 42 (.mv (.t 41)), { dst := some 43, op := .iAddrA 2 1 (.t 5) (.v (.c (.i .i64 0))), guard := some (42, true) }, { dst := some 44, op := .load1 (.t 43), guard := some (42, true) }, { dst := some 45, op := .fAddr (.t 3) 0, guard := some (42, true) }, { dst := some 46, op := .load1 (.t 45), guard := some (42, true) }, { dst := some 47, op := .bin .lss (.t 44) (.t 46), guard := some (42, true) }, aO 48 (.pick (.t 42) (.t 47) (.v (.c (.b false))))]
def el21_ViewOn_c11 : ACode := .ops el21_ViewOn_o8
def el21_ViewOn_o9 : List AOper := [aO 49 (.load1 (.t 7)), aO 50 (.iAddrA 2 1 (.t 5) (.v (.c (.i .i64 0)))), aO 51 (.load1 (.t 50)), aO 52 (.iAddrL 256 (.t 49) (.t 51)), aO 53 (.loadN 256 (.t 52)), { dst := none, op := .storeN 256 (.t 11) (.t 53) }]
def el21_ViewOn_c12 : ACode := .ops el21_ViewOn_o9
def el21_ViewOn_c13 : ACode := .cond (.t 48) el21_ViewOn_c12 .skip
def el21_ViewOn_c14 : ACode := .seq [3, 5, 7, 8, 9, 10, 11, 48] el21_ViewOn_c11 el21_ViewOn_c13
def el21_ViewOn_o10 : List AOper := [aO 12 (.mv (.v (.c (.i .i64 0))))]
def el21_ViewOn_c15 : ACode := .ops el21_ViewOn_o10
def el21_ViewOn_o11 : List AOper := [aO 54 (.loadN 3 (.t 3)), aO 55 (.call 41 [(.t 54)])]
def el21_ViewOn_c16 : ACode := .ops el21_ViewOn_o11
def el21_ViewOn_o12 : List AOper := [aO 56 (.fAddr (.t 3) 0), aO 57 (.load1 (.t 56)), aO 12 (.mv (.t 57))]
def el21_ViewOn_c17 : ACode := .ops el21_ViewOn_o12
def el21_ViewOn_c18 : ACode := .cond (.t 55) el21_ViewOn_c17 .skip
def el21_ViewOn_c19 : ACode := .seq [3, 5, 8, 9, 10, 11, 12, 55] el21_ViewOn_c16 el21_ViewOn_c18
def el21_ViewOn_o13 : List AOper := [aO 58 (.loadN 4 (.t 8)), aO 59 (.iAddrA 2 1 (.t 5) (.v (.c (.i .i64 0)))), aO 60 (.load1 (.t 59)), aO 61 (.call 38 [(.t 58), (.t 60)]), aO 62 (.loadN 256 (.t 11)), aO 63 (.eqA false (List.replicate 256 (.i .u8)) (.t 61) (.t 62)), aO 64 (.mv (.t 63)), { dst := some 65, op := .loadN 4 (.t 9), guard := some (64, true) }, { dst := some 66, op := .iAddrA 2 1 (.t 5) (.v (.c (.i .i64 0))), guard := some (64, true) }, { dst := some 67, op := .load1 (.t 66), guard := some (64, true) }, { dst := some 68, op := .call 38 [(.t 65), (.t 67)], guard := some (64, true) }, { dst := some 69, op := .build (List.replicate 256 (.i .u8 0)) [], guard := some (64, true) }, { dst := some 70, op := .eqA false (List.replicate 256 (.i .u8)) (.t 68) (.t 69), guard := some (64, true) }, aO 71 (.pick (.t 64) (.t 70) (.v (.c (.b false)))), aO 72 (.mv (.t 71)), { dst := some 73, op := .loadN 4 (.t 10), guard := some (72, true) }, { dst := some 74, op := .iAddrA 2 1 (.t 5) (.v (.c (.i .i64 0))), guard := some (72, true) }, { dst := some 75, op := .load1 (.t 74), guard := some (72, true) }, { dst := some 76, op := .call 38 [(.t 73), (.t 75)], guard := some (72, true) }, { dst := some 77, op := .build (List.replicate 256 (.i .u8 0)) [], guard := some (72, true) }, { dst := some 78, op := .eqA false (List.replicate 256 (.i .u8)) (.t 76) (.t 77), guard := some (72, true) }, aO 79 (.pick (.t 72) (.t 78) (.v (.c (.b false)))), aO 80 (.mv (.t 79)), { dst := some 81, op := .loadN 4 (.t 10), guard := some (80, true) }, { dst := some 82, op := .call 32 [(.t 81)], guard := some (80, true) }, { dst := some 83, op := .len (.t 82), guard := some (80, true) }, { dst := some 84, op := .bin .eql (.t 83) (.v (.c (.i .i64 0))), guard := some (80, true) }, aO 85 (.pick (.t 80) (.t 84) (.v (.c (.b false)))), aO 86 (.mv (.t 85)), { dst := some 87, op := .loadN 4 (.t 8), guard := some (86, true) }, { dst := some 88, op := .call 32 [(.t 87)], guard := some (86, true) }, { dst := some 89, op := .len (.t 88), guard := some (86, true) }, { dst := some 90, op := .mv (.t 12), guard := some (86, true) }, { dst := some 91, op := .bin .eql (.t 89) (.t 90), guard := some (86, true) }, aO 92 (.pick (.t 86) (.t 91) (.v (.c (.b false)))), aO 93 (.mv (.t 92)), { dst := some 94, op := .fAddr (.t 8) 0, guard := some (93, true) }, { dst := some 95, op := .loadN 3 (.t 94), guard := some (93, true) }, { dst := some 96, op := .loadN 3 (.t 3), guard := some (93, true) }]
def el21_ViewOn_o14 : List AOper := [{ dst := some 97, op := .eqA false ([.i .i64, .i .i64, .i .u64]) (.t 95) (.t 96), guard := some (93, true) }, aO 98 (.pick (.t 93) (.t 97) (.v (.c (.b false)))), aO 99 (.mv (.t 98)), { dst := some 100, op := .call 29 [], guard := some (99, true) }, aO 101 (.pick (.t 99) (.t 100) (.v (.c (.b false)))), aO 6 (.mv (.t 101))]
def el21_ViewOn_c20 : ACode := .draw 0 el21_ViewOn_o13 el21_ViewOn_o14
def el21_ViewOn_c21 : ACode := .seq [6] el21_ViewOn_c20 .ret
def el21_ViewOn_c22 : ACode := .seq [3, 5, 8, 9, 10, 11, 12] el21_ViewOn_c19 el21_ViewOn_c21
def el21_ViewOn_c23 : ACode := .seq [3, 5, 8, 9, 10, 11, 12] el21_ViewOn_c15 el21_ViewOn_c22
def el21_ViewOn_c24 : ACode := .seq [3, 5, 8, 9, 10, 11] el21_ViewOn_c14 el21_ViewOn_c23
def el21_ViewOn_c25 : ACode := .seq [1, 3, 5, 7, 8, 9, 10, 11] el21_ViewOn_c10 el21_ViewOn_c24
def el21_ViewOn_c26 : ACode := .seq [1, 3, 5, 7, 8, 9, 10] el21_ViewOn_c9 el21_ViewOn_c25
def el21_ViewOn_c27 : ACode := .seq [1, 3, 5, 7, 8, 9] el21_ViewOn_c8 el21_ViewOn_c26
def el21_ViewOn_c28 : ACode := .seq [1, 3, 5, 7, 8] el21_ViewOn_c7 el21_ViewOn_c27
def el21_ViewOn_c29 : ACode := .seq [1, 3, 5, 7] el21_ViewOn_c6 el21_ViewOn_c28
def el21_ViewOn_c30 : ACode := .seq [1, 3, 5] el21_ViewOn_c5 el21_ViewOn_c29
def el21_ViewOn_c31 : ACode := .seq [1, 3, 5] el21_ViewOn_c0 el21_ViewOn_c30
def A_el21_ViewOn : AFn := ⟨el21_ViewOn_c31, [.tmp 6]⟩
def E_el21_ViewOn : Sums := disp 29 S_el21_works (disp 16 S_el21_To (disp 39 S_view_On (disp 41 S_er14_May (disp 38 S_view_View_Block__On_1 (disp 32 S_view_View_Image__On_1 disp0)))))
def el21_ViewOn_c0_d (n : Nat) : SmV := smOps E_el21_ViewOn el21_ViewOn_o0
def el21_ViewOn_c1_d (n : Nat) : SmV := smOps E_el21_ViewOn el21_ViewOn_o1
def el21_ViewOn_c2_d (n : Nat) : SmV := smOps E_el21_ViewOn el21_ViewOn_o2
def el21_ViewOn_c3_d (n : Nat) : SmV := smSeq [6] (el21_ViewOn_c2_d n) smRet
def el21_ViewOn_c4_d (n : Nat) : SmV := smCond (.t 15) (el21_ViewOn_c3_d n) smSkip
def el21_ViewOn_c5_d (n : Nat) : SmV := smSeq [1, 3, 5, 15] (el21_ViewOn_c1_d n) (el21_ViewOn_c4_d n)
def el21_ViewOn_c6_d (n : Nat) : SmV := smOps E_el21_ViewOn el21_ViewOn_o3
def el21_ViewOn_c7_d (n : Nat) : SmV := smOps E_el21_ViewOn el21_ViewOn_o4
def el21_ViewOn_c8_d (n : Nat) : SmV := smOps E_el21_ViewOn el21_ViewOn_o5
def el21_ViewOn_c9_d (n : Nat) : SmV := smOps E_el21_ViewOn el21_ViewOn_o6
def el21_ViewOn_c10_d (n : Nat) : SmV := smOps E_el21_ViewOn el21_ViewOn_o7
def el21_ViewOn_c11_d (n : Nat) : SmV := smOps E_el21_ViewOn el21_ViewOn_o8
def el21_ViewOn_c12_d (n : Nat) : SmV := smOps E_el21_ViewOn el21_ViewOn_o9
def el21_ViewOn_c13_d (n : Nat) : SmV := smCond (.t 48) (el21_ViewOn_c12_d n) smSkip
def el21_ViewOn_c14_d (n : Nat) : SmV := smSeq [3, 5, 7, 8, 9, 10, 11, 48] (el21_ViewOn_c11_d n) (el21_ViewOn_c13_d n)
def el21_ViewOn_c15_d (n : Nat) : SmV := smOps E_el21_ViewOn el21_ViewOn_o10
def el21_ViewOn_c16_d (n : Nat) : SmV := smOps E_el21_ViewOn el21_ViewOn_o11
def el21_ViewOn_c17_d (n : Nat) : SmV := smOps E_el21_ViewOn el21_ViewOn_o12
def el21_ViewOn_c18_d (n : Nat) : SmV := smCond (.t 55) (el21_ViewOn_c17_d n) smSkip
def el21_ViewOn_c19_d (n : Nat) : SmV := smSeq [3, 5, 8, 9, 10, 11, 12, 55] (el21_ViewOn_c16_d n) (el21_ViewOn_c18_d n)
def el21_ViewOn_c20_d (n : Nat) : SmV := smDraw E_el21_ViewOn 0 el21_ViewOn_o13 el21_ViewOn_o14
def el21_ViewOn_c21_d (n : Nat) : SmV := smSeq [6] (el21_ViewOn_c20_d n) smRet
def el21_ViewOn_c22_d (n : Nat) : SmV := smSeq [3, 5, 8, 9, 10, 11, 12] (el21_ViewOn_c19_d n) (el21_ViewOn_c21_d n)
def el21_ViewOn_c23_d (n : Nat) : SmV := smSeq [3, 5, 8, 9, 10, 11, 12] (el21_ViewOn_c15_d n) (el21_ViewOn_c22_d n)
def el21_ViewOn_c24_d (n : Nat) : SmV := smSeq [3, 5, 8, 9, 10, 11] (el21_ViewOn_c14_d n) (el21_ViewOn_c23_d n)
def el21_ViewOn_c25_d (n : Nat) : SmV := smSeq [1, 3, 5, 7, 8, 9, 10, 11] (el21_ViewOn_c10_d n) (el21_ViewOn_c24_d n)
def el21_ViewOn_c26_d (n : Nat) : SmV := smSeq [1, 3, 5, 7, 8, 9, 10] (el21_ViewOn_c9_d n) (el21_ViewOn_c25_d n)
def el21_ViewOn_c27_d (n : Nat) : SmV := smSeq [1, 3, 5, 7, 8, 9] (el21_ViewOn_c8_d n) (el21_ViewOn_c26_d n)
def el21_ViewOn_c28_d (n : Nat) : SmV := smSeq [1, 3, 5, 7, 8] (el21_ViewOn_c7_d n) (el21_ViewOn_c27_d n)
def el21_ViewOn_c29_d (n : Nat) : SmV := smSeq [1, 3, 5, 7] (el21_ViewOn_c6_d n) (el21_ViewOn_c28_d n)
def el21_ViewOn_c30_d (n : Nat) : SmV := smSeq [1, 3, 5] (el21_ViewOn_c5_d n) (el21_ViewOn_c29_d n)
def el21_ViewOn_c31_d (n : Nat) : SmV := smSeq [1, 3, 5] (el21_ViewOn_c0_d n) (el21_ViewOn_c30_d n)
def el21_ViewOn_j0 (n : Nat) (x3 x5 x8 x9 x10 x11 : Val) (h : Heap) : OptV := hold ((el21_ViewOn_c23_d n) A_el21_ViewOn.fin [(3, x3), (5, x5), (8, x8), (9, x9), (10, x10), (11, x11)] h)
def R_el21_ViewOn (n : Nat) (args : List Val) (h : Heap) : OptV := (el21_ViewOn_c31_d n) A_el21_ViewOn.fin (params 0 args) h
def el21_ViewOn_j1 (n : Nat) (x3 x5 x8 x9 x10 x11 x12 : Val) (h : Heap) : OptV := hold ((el21_ViewOn_c21_d n) A_el21_ViewOn.fin [(3, x3), (5, x5), (8, x8), (9, x9), (10, x10), (11, x11), (12, x12)] h)
theorem R_el21_ViewOn_eq (n : Nat) (a0 a1 a2 : Val) (h : Heap) : R_el21_ViewOn n [a0, a1, a2] h = bnd (cells? a0) fun c1 => bnd (cells? a2) fun c2 => bnd (alen a1) fun v3 => bnd (abin .gtr v3 (.c (.i .i64 60))) fun v4 => cnd v4 (bnd (S_el21_works [] (((h ++ [some (Row.mk (c1) true)]) ++ [some (Row.mk (c2) true)]))) fun p5 => some (p5.1, p5.2)) (bnd (S_el21_To [a1] (((h ++ [some (Row.mk (c1) true)]) ++ [some (Row.mk (c2) true)]))) fun p6 => bnd (astore1 ((p6.2 ++ [some (Row.mk ([.ns]) true)])) ((.c (.p p6.2.length 0))) p6.1) fun h7 => bnd (aloadN h7 3 ((.c (.p h.length 0)))) fun v8 => bnd (amkf 40 [(.c (.p ((h ++ [some (Row.mk (c1) true)])).length 0)), (.c (.p p6.2.length 0))]) fun v9 => bnd (S_view_On [v8, v9] h7) fun p10 => bnd (astoreN ((p10.2 ++ [some (Row.mk ([.i .i64 0, .i .i64 0, .i .u64 0, .nf]) true)])) 4 ((.c (.p p10.2.length 0))) p10.1) fun h11 => bnd (aloadN h11 3 ((.c (.p h.length 0)))) fun v12 => bnd (S_view_On [v12, .c .nf] h11) fun p13 => bnd (astoreN ((p13.2 ++ [some (Row.mk ([.i .i64 0, .i .i64 0, .i .u64 0, .nf]) true)])) 4 ((.c (.p p13.2.length 0))) p13.1) fun h14 => bnd (afill (List.replicate 256 (.i .u8 0)) []) fun c15 => bnd (astoreN (((h14 ++ [some (Row.mk ([.i .i64 0, .i .i64 0, .i .u64 0, .nf]) true)]) ++ [some (Row.mk (List.replicate 256 (.i .u8 0)) true)])) 256 ((.c (.p ((h14 ++ [some (Row.mk ([.i .i64 0, .i .i64 0, .i .u64 0, .nf]) true)])).length 0))) ((.a c15))) fun h16 => bnd (aiAddrA 2 1 ((.c (.p ((h ++ [some (Row.mk (c1) true)])).length 0))) (.c (.i .i64 0))) fun v17 => bnd (aload1 h16 v17) fun v18 => bnd (aiAddrA 2 1 ((.c (.p ((h ++ [some (Row.mk (c1) true)])).length 0))) (.c (.i .i64 1))) fun v19 => bnd (aload1 h16 v19) fun v20 => bnd (abin .geq v18 v20) fun v21 => bnd (gd v21 true (bnd (aiAddrA 2 1 ((.c (.p ((h ++ [some (Row.mk (c1) true)])).length 0))) (.c (.i .i64 0))) fun v22 => some (v22, h16)) (some (.no, h16))) fun p23 => bnd (gd v21 true (bnd (aload1 p23.2 p23.1) fun v24 => some (v24, p23.2)) (some (.no, p23.2))) fun p25 => bnd (gd v21 true (bnd (abin .geq p25.1 (.c (.i .i64 0))) fun v26 => some (v26, p25.2)) (some (.no, p25.2))) fun p27 => bnd (apick v21 p27.1 (.c (.b false))) fun v28 => bnd (gd v28 true (bnd (aiAddrA 2 1 ((.c (.p ((h ++ [some (Row.mk (c1) true)])).length 0))) (.c (.i .i64 0))) fun v29 => some (v29, p27.2)) (some (.no, p27.2))) fun p30 => bnd (gd v28 true (bnd (aload1 p30.2 p30.1) fun v31 => some (v31, p30.2)) (some (.no, p30.2))) fun p32 => bnd (gd v28 true (some (a1, p32.2)) (some (.no, p32.2))) fun p33 => bnd (gd v28 true (bnd (alen p33.1) fun v34 => some (v34, p33.2)) (some (.no, p33.2))) fun p35 => bnd (gd v28 true (bnd (abin .lss p32.1 p35.1) fun v36 => some (v36, p35.2)) (some (.no, p35.2))) fun p37 => bnd (apick v28 p37.1 (.c (.b false))) fun v38 => bnd (gd v38 true (bnd (aiAddrA 2 1 ((.c (.p ((h ++ [some (Row.mk (c1) true)])).length 0))) (.c (.i .i64 0))) fun v39 => some (v39, p37.2)) (some (.no, p37.2))) fun p40 => bnd (gd v38 true (bnd (aload1 p40.2 p40.1) fun v41 => some (v41, p40.2)) (some (.no, p40.2))) fun p42 => bnd (gd v38 true (bnd (afAddr ((.c (.p h.length 0))) 0) fun v43 => some (v43, p42.2)) (some (.no, p42.2))) fun p44 => bnd (gd v38 true (bnd (aload1 p44.2 p44.1) fun v45 => some (v45, p44.2)) (some (.no, p44.2))) fun p46 => bnd (gd v38 true (bnd (abin .lss p42.1 p46.1) fun v47 => some (v47, p46.2)) (some (.no, p46.2))) fun p48 => bnd (apick v38 p48.1 (.c (.b false))) fun v49 => cnd v49 (bnd (aload1 p48.2 ((.c (.p p6.2.length 0)))) fun v50 => bnd (aiAddrA 2 1 ((.c (.p ((h ++ [some (Row.mk (c1) true)])).length 0))) (.c (.i .i64 0))) fun v51 => bnd (aload1 p48.2 v51) fun v52 => bnd (aiAddrL 256 v50 v52) fun v53 => bnd (aloadN p48.2 256 v53) fun v54 => bnd (astoreN p48.2 256 ((.c (.p ((h14 ++ [some (Row.mk ([.i .i64 0, .i .i64 0, .i .u64 0, .nf]) true)])).length 0))) v54) fun h55 => el21_ViewOn_j0 n ((.c (.p h.length 0))) ((.c (.p ((h ++ [some (Row.mk (c1) true)])).length 0))) ((.c (.p p10.2.length 0))) ((.c (.p p13.2.length 0))) ((.c (.p h14.length 0))) ((.c (.p ((h14 ++ [some (Row.mk ([.i .i64 0, .i .i64 0, .i .u64 0, .nf]) true)])).length 0))) h55) (el21_ViewOn_j0 n ((.c (.p h.length 0))) ((.c (.p ((h ++ [some (Row.mk (c1) true)])).length 0))) ((.c (.p p10.2.length 0))) ((.c (.p p13.2.length 0))) ((.c (.p h14.length 0))) ((.c (.p ((h14 ++ [some (Row.mk ([.i .i64 0, .i .i64 0, .i .u64 0, .nf]) true)])).length 0))) p48.2)) := by kernel_rfl
theorem el21_ViewOn_j0_eq (n : Nat) (x3 x5 x8 x9 x10 x11 : Val) (h : Heap) : el21_ViewOn_j0 n x3 x5 x8 x9 x10 x11 h = bnd (aloadN h 3 x3) fun v56 => bnd (S_er14_May [v56] h) fun p57 => cnd p57.1 (bnd (afAddr x3 0) fun v58 => bnd (aload1 p57.2 v58) fun v59 => el21_ViewOn_j1 n x3 x5 x8 x9 x10 x11 v59 p57.2) (el21_ViewOn_j1 n x3 x5 x8 x9 x10 x11 (.c (.i .i64 0)) p57.2) := by kernel_rfl
theorem el21_ViewOn_j1_eq (n : Nat) (x3 x5 x8 x9 x10 x11 x12 : Val) (h : Heap) : el21_ViewOn_j1 n x3 x5 x8 x9 x10 x11 x12 h = bnd (aloadN h 4 x8) fun v60 => bnd (aiAddrA 2 1 x5 (.c (.i .i64 0))) fun v61 => bnd (aload1 h v61) fun v62 => bnd (quiet ((h ++ [])) (S_view_View_Block__On_1 [v60, v62] ((h ++ [])))) fun p63 => bnd (aloadN h 256 x11) fun v64 => bnd (aeq false (List.replicate 256 (.i .u8)) p63.1 v64) fun v65 => bnd (gd v65 true (bnd (aloadN h 4 x9) fun v66 => some (v66, p63.2)) (some (.no, p63.2))) fun p67 => bnd (gd v65 true (bnd (aiAddrA 2 1 x5 (.c (.i .i64 0))) fun v68 => some (v68, p67.2)) (some (.no, p67.2))) fun p69 => bnd (gd v65 true (bnd (aload1 h p69.1) fun v70 => some (v70, p69.2)) (some (.no, p69.2))) fun p71 => bnd (gd v65 true (bnd (quiet p71.2 (S_view_View_Block__On_1 [p67.1, p71.1] p71.2)) fun p72 => some (p72.1, p72.2)) (some (.no, p71.2))) fun p73 => bnd (gd v65 true (bnd (afill (List.replicate 256 (.i .u8 0)) []) fun c74 => some ((.a c74), p73.2)) (some (.no, p73.2))) fun p75 => bnd (gd v65 true (bnd (aeq false (List.replicate 256 (.i .u8)) p73.1 p75.1) fun v76 => some (v76, p75.2)) (some (.no, p75.2))) fun p77 => bnd (apick v65 p77.1 (.c (.b false))) fun v78 => bnd (gd v78 true (bnd (aloadN h 4 x10) fun v79 => some (v79, p77.2)) (some (.no, p77.2))) fun p80 => bnd (gd v78 true (bnd (aiAddrA 2 1 x5 (.c (.i .i64 0))) fun v81 => some (v81, p80.2)) (some (.no, p80.2))) fun p82 => bnd (gd v78 true (bnd (aload1 h p82.1) fun v83 => some (v83, p82.2)) (some (.no, p82.2))) fun p84 => bnd (gd v78 true (bnd (quiet p84.2 (S_view_View_Block__On_1 [p80.1, p84.1] p84.2)) fun p85 => some (p85.1, p85.2)) (some (.no, p84.2))) fun p86 => bnd (gd v78 true (bnd (afill (List.replicate 256 (.i .u8 0)) []) fun c87 => some ((.a c87), p86.2)) (some (.no, p86.2))) fun p88 => bnd (gd v78 true (bnd (aeq false (List.replicate 256 (.i .u8)) p86.1 p88.1) fun v89 => some (v89, p88.2)) (some (.no, p88.2))) fun p90 => bnd (apick v78 p90.1 (.c (.b false))) fun v91 => bnd (gd v91 true (bnd (aloadN h 4 x10) fun v92 => some (v92, p90.2)) (some (.no, p90.2))) fun p93 => bnd (gd v91 true (bnd (quiet p93.2 (S_view_View_Image__On_1 [p93.1] p93.2)) fun p94 => some (p94.1, p94.2)) (some (.no, p93.2))) fun p95 => bnd (gd v91 true (bnd (alen p95.1) fun v96 => some (v96, p95.2)) (some (.no, p95.2))) fun p97 => bnd (gd v91 true (bnd (abin .eql p97.1 (.c (.i .i64 0))) fun v98 => some (v98, p97.2)) (some (.no, p97.2))) fun p99 => bnd (apick v91 p99.1 (.c (.b false))) fun v100 => bnd (gd v100 true (bnd (aloadN h 4 x8) fun v101 => some (v101, p99.2)) (some (.no, p99.2))) fun p102 => bnd (gd v100 true (bnd (quiet p102.2 (S_view_View_Image__On_1 [p102.1] p102.2)) fun p103 => some (p103.1, p103.2)) (some (.no, p102.2))) fun p104 => bnd (gd v100 true (bnd (alen p104.1) fun v105 => some (v105, p104.2)) (some (.no, p104.2))) fun p106 => bnd (gd v100 true (some (x12, p106.2)) (some (.no, p106.2))) fun p107 => bnd (gd v100 true (bnd (abin .eql p106.1 p107.1) fun v108 => some (v108, p107.2)) (some (.no, p107.2))) fun p109 => bnd (apick v100 p109.1 (.c (.b false))) fun v110 => bnd (gd v110 true (bnd (afAddr x8 0) fun v111 => some (v111, p109.2)) (some (.no, p109.2))) fun p112 => bnd (gd v110 true (bnd (aloadN h 3 p112.1) fun v113 => some (v113, p112.2)) (some (.no, p112.2))) fun p114 => bnd (gd v110 true (bnd (aloadN h 3 x3) fun v115 => some (v115, p114.2)) (some (.no, p114.2))) fun p116 => bnd (gd v110 true (bnd (aeq false ([.i .i64, .i .i64, .i .u64]) p114.1 p116.1) fun v117 => some (v117, p116.2)) (some (.no, p116.2))) fun p118 => bnd (apick v110 p118.1 (.c (.b false))) fun v119 => bnd (gd v119 true (bnd (S_el21_works [] p118.2) fun p120 => some (p120.1, p120.2)) (some (.no, p118.2))) fun p121 => bnd (apick v119 p121.1 (.c (.b false))) fun v122 => some (v122, p121.2) := by kernel_rfl
theorem K_el21_ViewOn : FnK Try.prog 9 A_el21_ViewOn E_el21_ViewOn R_el21_ViewOn := .mk' (sound1 S_el21_works_ok (sound1 S_el21_To_ok (sound1 S_view_On_ok (sound1 S_er14_May_ok (sound1 S_view_View_Block__On_1_ok (sound1 S_view_View_Image__On_1_ok sound0)))))) Try.func9 (by kernel_rfl) (by intro n args h; kernel_rfl)
def S_el21_ViewOn : Fun := tidy (Lim A_el21_ViewOn E_el21_ViewOn)
theorem S_el21_ViewOn_ok : SOk Try.prog 9 S_el21_ViewOn := K_el21_ViewOn.sok
theorem S_el21_ViewOn_flat {n : Nat} {args : List Val} {h h2 : Heap} {v : Val} (he : R_el21_ViewOn n args (ro h) = some (v, h2)) (hf : v.flat = true) : S_el21_ViewOn args h = some (v, h) := K_el21_ViewOn.flat he hf
end Go.Proofs.Ytdgggnlbdoiloaa
end
section
namespace Go.Proofs.Ytdgggnlbdoiloaa
open Go Go.Esc

def IsOn (h : Heap) (f : Cell) (D : Dev) (n0 n1 : Int) : Prop := ∃ r pn pb q w1 w2 w3 w4, f = .f 77 [(r, 0)] ∧ rd h r = some ⟨[.f 40 [(pn, 0), (pb, 0)]], w1⟩ ∧ rd h pn = some ⟨encI [n0, n1], w2⟩ ∧ rd h pb = some ⟨[.sl q 0 D.length 256], w3⟩ ∧ rd h q = some ⟨cellsD D, w4⟩
theorem IsOn.ro {h : Heap} {f : Cell} {D : Dev} {n0 n1 : Int} (hv : IsOn h f D n0 n1) : IsOn (ro h) f D n0 n1 := by
  obtain ⟨r, pn, pb, q, w1, w2, w3, w4, e, h1, h2, h3, h4⟩ := hv
  exact ⟨r, pn, pb, q, false, false, false, false, e, by rw [rd_ro, h1]; rfl, by rw [rd_ro, h2]; rfl, by rw [rd_ro, h3]; rfl, by rw [rd_ro, h4]; rfl⟩
theorem IsOn.more {h : Heap} {f : Cell} {D : Dev} {n0 n1 : Int} (hv : IsOn h f D n0 n1) (l : Heap) : IsOn (h ++ l) f D n0 n1 := by
  obtain ⟨r, pn, pb, q, w1, w2, w3, w4, e, h1, h2, h3, h4⟩ := hv
  exact ⟨r, pn, pb, q, w1, w2, w3, w4, e, rd_append h1, rd_append h2, rd_append h3, rd_append h4⟩
theorem IsOn.since {g h : Heap} {f : Cell} {D : Dev} {n0 n1 : Int} (hv : IsOn g f D n0 n1) (hl : Low g.length g h) : IsOn h f D n0 n1 := by
  obtain ⟨r, pn, pb, q, w1, w2, w3, w4, e, h1, h2, h3, h4⟩ := hv
  exact ⟨r, pn, pb, q, w1, w2, w3, w4, e, hl.rd h1, hl.rd h2, hl.rd h3, hl.rd h4⟩
def IsNo (h : Heap) (f : Cell) : Prop := ∃ r w, f = .f 77 [(r, 0)] ∧ rd h r = some ⟨[.nf], w⟩
theorem IsNo.ro {h : Heap} {f : Cell} (hv : IsNo h f) : IsNo (ro h) f := by
  obtain ⟨r, w, e, h1⟩ := hv
  exact ⟨r, false, e, by rw [rd_ro, h1]; rfl⟩
theorem IsNo.more {h : Heap} {f : Cell} (hv : IsNo h f) (l : Heap) : IsNo (h ++ l) f := by
  obtain ⟨r, w, e, h1⟩ := hv
  exact ⟨r, w, e, rd_append h1⟩

def blkO (D : Dev) (n1 no : Int) : List UInt8 := if no < n1 then zeros 256 else blk D no
theorem blkO_length {D : Dev} (hD : okD D) {n1 no : Int} : (blkO D n1 no).length = 256 := by
  unfold blkO
  split
  · exact zeros_length
  · exact blk_length hD

def sevB : List UInt8 := 7 :: zeros 255
theorem sevB_length : sevB.length = 256 := by unfold sevB; rw [List.length_cons, zeros_length]
theorem zeros_cons : encB (zeros 256) = .i .u8 0 :: encB (zeros 255) := rfl
theorem afill_sev : afill (encB (zeros 256)) [(0, 1, .c (.i .u8 7))] = some (encB sevB) := by
  have hz : (encB (zeros 255)).length = 255 := by rw [encB_length]; exact zeros_length
  have hs : encB sevB = .i .u8 7 :: encB (zeros 255) := rfl
  rw [zeros_cons, hs]
  generalize encB (zeros 255) = z at *
  simp [afill, lay, hz]
theorem load1_ro {h : Heap} {p : Nat} {c : Cell} {w : Bool} {cs : List Cell} {off : Nat} (hr : rd h p = some ⟨cs, w⟩) (hc : cs[off]? = some c) (hx : c.isX = false) : aload1 h (.c (.p p off)) = some (.c c) := load1_of hr hc (by simp [hx])

theorem viewOn1_eq {D : Dev} {n0 n1 no : Int} {h : Heap} {pn pb q : Nat} {w2 w3 w4 : Bool} (hD : okD D) (h2 : rd h pn = some ⟨encI [n0, n1], w2⟩) (h3 : rd h pb = some ⟨[.sl q 0 D.length 256], w3⟩) (h4 : rd h q = some ⟨cellsD D, w4⟩) :
    ∃ b e, b.length = 256 ∧ S_el21_ViewOn_1 [.c (.i .i64 no), .c (.p pn 0), .c (.p pb 0)] h = some (.t [.a (encB b), .c (.i .i64 e)], h) ∧ (if e = 0 then b else zeros 256) = blkO D n1 no := by
  have key : ∀ g, rd g pn = some ⟨encI [n0, n1], false⟩ → rd g pb = some ⟨[.sl q 0 D.length 256], false⟩ → rd g q = some ⟨cellsD D, false⟩ →
      ∃ b e g', b.length = 256 ∧ R_el21_ViewOn_1 0 [.c (.i .i64 no), .c (.p pn 0), .c (.p pb 0)] g = some (.t [.a (encB b), .c (.i .i64 e)], g') ∧ (if e = 0 then b else zeros 256) = blkO D n1 no := by
    intro g h2 h3 h4
    have ad1 : aiAddrA 2 1 (.c (.p pn 0)) (.c (.i .i64 1)) = some (.c (.p pn 1)) := rfl
    have l1 : aload1 (g ++ [some (Row.mk (encB (zeros 256)) true)]) (.c (.p pn 1)) = some (.c (.i .i64 n1)) := load1_ro (rd_append h2) rfl rfl
    have l2 : aload1 (g ++ [some (Row.mk (encB (zeros 256)) true)]) (.c (.p pb 0)) = some (.c (.sl q 0 D.length 256)) := load1_ro (rd_append h3) rfl rfl
    have ef := afill_sev
    have hz : (encB (zeros 256)).length = 256 := by rw [encB_length]; exact zeros_length
    have hs : (encB sevB).length = 256 := by rw [encB_length, sevB_length]
    have n20 : ¬ (2 : Int) = 0 := by decide
    rw [R_el21_ViewOn_1_eq, zeros_enc]
    unfold blkO
    by_cases c1 : no < n1
    · refine ⟨sevB, 2, g ++ [some (Row.mk (encB sevB) true)], sevB_length, ?_, by rw [if_neg n20, if_pos c1]⟩
      generalize encB (zeros 256) = z at *
      generalize encB sevB = y at *
      simp only [esc, esh, Nat.reduceAdd, Nat.reduceMul, Nat.reduceLT, ad1, l1, c1, ef, hz, hs]
    · by_cases c2 : 0 ≤ no ∧ no < D.length
      · obtain ⟨i, rfl⟩ : ∃ i : Nat, no = i := ⟨no.toNat, by omega⟩
        have hil : i < D.length := by omega
        have c3 : ¬ (i : Int) < 0 := by omega
        have c4 : ¬ ((D.length : Nat) : Int) ≤ (i : Int) := by omega
        have a1 : aiAddrL 256 (.c (.sl q 0 D.length 256)) (.c (.i .i64 (i : Int))) = some (.c (.p q (i * 256))) := by rw [iAddrL_of hil, Nat.zero_add]
        have hB : (encB D[i]).length = 256 := by rw [encB_length, hD.at hil]
        have l3 : aloadN (g ++ [some (Row.mk (encB (zeros 256)) true)]) 256 (.c (.p q (i * 256))) = some (.a (encB D[i])) := by
          rw [loadN_of (cs := cellsD D) (rw := false) (rd_append h4) (by rw [cellsD_length hD]; omega) (by rw [cellsD_at hD hil, noX_encB]; rfl), cellsD_at hD hil]
        refine ⟨D[i], 0, g ++ [some (Row.mk (encB D[i]) true)], hD.at hil, ?_, by rw [if_pos rfl, if_neg c1, blk_at hil]⟩
        generalize encB (zeros 256) = z at *
        generalize encB D[i] = y at *
        simp only [esc, esh, Nat.reduceAdd, Nat.reduceMul, Nat.reduceLT, ad1, l1, c1, l2, c3, c4, a1, l3, hz, hB]
      · refine ⟨sevB, 2, g ++ [some (Row.mk (encB sevB) true)], sevB_length, ?_, by rw [if_neg n20, if_neg c1, blk_none (by omega)]⟩
        generalize encB (zeros 256) = z at *
        generalize encB sevB = y at *
        by_cases c3 : no < 0
        · simp only [esc, esh, Nat.reduceAdd, Nat.reduceMul, Nat.reduceLT, ad1, l1, c1, l2, c3, ef, hz, hs]
        · have c4 : ((D.length : Nat) : Int) ≤ no := by omega
          simp only [esc, esh, Nat.reduceAdd, Nat.reduceMul, Nat.reduceLT, ad1, l1, c1, l2, c3, c4, ef, hz, hs]
  obtain ⟨b, e, g', hb, hR, he⟩ := key (ro h) (by rw [rd_ro, h2]; rfl) (by rw [rd_ro, h3]; rfl) (by rw [rd_ro, h4]; rfl)
  exact ⟨b, e, hb, S_el21_ViewOn_1_flat hR (by simp [Val.flat, Cell.flat]), he⟩

theorem on1_some {D : Dev} {n0 n1 no : Int} {h : Heap} {r : Nat} (hD : okD D) (hv : IsOn h (.f 77 [(r, 0)]) D n0 n1) : S_view_On_1__ViewOn_1 [.c (.i .i64 no), .c (.p r 0)] h = some (.a (encB (blkO D n1 no)), h) := by
  have key : ∀ g, IsOn g (.f 77 [(r, 0)]) D n0 n1 → ∃ g', R_view_On_1__ViewOn_1 0 [.c (.i .i64 no), .c (.p r 0)] g = some (.a (encB (blkO D n1 no)), g') := by
    intro g hv
    obtain ⟨r', pn, pb, q, w1, w2, w3, w4, e, h1, h2, h3, h4⟩ := hv
    cases e
    have hz : (encB (zeros 256)).length = 256 := by rw [encB_length]; exact zeros_length
    have ef : afill (encB (zeros 256)) [] = some (encB (zeros 256)) := rfl
    have l1 : aload1 (g ++ [some (Row.mk (encB (zeros 256)) true)]) (.c (.p r 0)) = some (.c (.f 40 [(pn, 0), (pb, 0)])) := load1_ro (rd_append h1) rfl rfl
    have hcv : ∀ (x : Val) (h : Heap), callv E_view_On_1__ViewOn_1 (.c (.f 40 [(pn, 0), (pb, 0)])) [x] h = S_el21_ViewOn_1 [x, .c (.p pn 0), .c (.p pb 0)] h := fun _ _ => Eq.trans rfl rfl
    obtain ⟨b, e, hb, hS, he⟩ := viewOn1_eq (no := no) (h := g ++ [some (Row.mk (encB (zeros 256)) true)]) hD (rd_append h2) (rd_append h3) (rd_append h4)
    have hB : (encB b).length = 256 := by rw [encB_length, hb]
    rw [R_view_On_1__ViewOn_1_eq, zeros_enc, ← he]
    by_cases c : e = 0
    · rw [if_pos c]
      generalize encB (zeros 256) = z at *
      generalize encB b = y at *
      exact ⟨_, by simp only [esc, esh, Nat.reduceAdd, Nat.reduceMul, Nat.reduceLT, eq_self, l1, hcv, hS, c, hz, hB] <;> rfl⟩
    · rw [if_neg c]
      generalize encB (zeros 256) = z at *
      generalize encB b = y at *
      exact ⟨_, by simp only [esc, esh, Nat.reduceAdd, Nat.reduceMul, Nat.reduceLT, eq_self, l1, hcv, hS, c, hz, hB, ef] <;> rfl⟩
  obtain ⟨g', e⟩ := key (ro h) hv.ro
  exact S_view_On_1__ViewOn_1_flat e (by simp [Val.flat])

theorem on1_none {no : Int} {h : Heap} {r : Nat} {w : Bool} (hr : rd h r = some ⟨[.nf], w⟩) : S_view_On_1__ViewOn_1 [.c (.i .i64 no), .c (.p r 0)] h = some (.a (encB (zeros 256)), h) := by
  have key : ∀ g w, rd g r = some ⟨[.nf], w⟩ → ∃ g', R_view_On_1__ViewOn_1 0 [.c (.i .i64 no), .c (.p r 0)] g = some (.a (encB (zeros 256)), g') := by
    intro g w hr
    have hz : (encB (zeros 256)).length = 256 := by rw [encB_length]; exact zeros_length
    have ef : afill (encB (zeros 256)) [] = some (encB (zeros 256)) := rfl
    have l1 : aload1 (g ++ [some (Row.mk (encB (zeros 256)) true)]) (.c (.p r 0)) = some (.c .nf) := load1_ro (rd_append hr) rfl rfl
    rw [R_view_On_1__ViewOn_1_eq, zeros_enc]
    generalize encB (zeros 256) = z at *
    exact ⟨_, by simp only [esc, esh, Nat.reduceAdd, Nat.reduceMul, Nat.reduceLT, eq_self, l1, hz, ef] <;> rfl⟩
  obtain ⟨g', e⟩ := key (ro h) false (by rw [rd_ro, hr]; rfl)
  exact S_view_On_1__ViewOn_1_flat e (by simp [Val.flat])

theorem blockO_of {b n m no : Int} {r : Nat} {h : Heap} {x : List UInt8} (hx : x.length = 256) (hf : ∀ t, S_view_On_1__ViewOn_1 [.c (.i .i64 no), .c (.p r 0)] (ro h ++ t) = some (.a (encB x), ro h ++ t)) :
    S_view_View_Block__On_1 [.a (vwC b n m (.f 77 [(r, 0)])), .c (.i .i64 no)] h = some (.a (encB (if 0 ≤ no ∧ no < b then x else zeros 256)), h) := by
  have key : ∀ g, (∀ t, S_view_On_1__ViewOn_1 [.c (.i .i64 no), .c (.p r 0)] (g ++ t) = some (.a (encB x), g ++ t)) → ∃ g', R_view_View_Block__On_1 0 [.a (vwC b n m (.f 77 [(r, 0)])), .c (.i .i64 no)] g = some (.a (encB (if 0 ≤ no ∧ no < b then x else zeros 256)), g') := by
    intro g hf
    have hz : (encB (zeros 256)).length = 256 := by rw [encB_length]; exact zeros_length
    have hB : (encB x).length = 256 := by rw [encB_length, hx]
    have hT := fun h => view_there_eq (b := b) (n := n) (m := m) (no := no) (f := 77) (cs := [(r, 0)]) (h := h)
    have hcv : ∀ (x : Val) (h : Heap), callv E_view_View_Block__On_1 (.c (.f 77 [(r, 0)])) [x] h = S_view_On_1__ViewOn_1 [x, .c (.p r 0)] h := fun _ _ => Eq.trans rfl rfl
    have ef : afill (encB (zeros 256)) [] = some (encB (zeros 256)) := rfl
    rw [R_view_View_Block__On_1_eq, zeros_enc]
    by_cases c1 : 0 ≤ no ∧ no < b
    · have c2 := c1.1
      have c3 := c1.2
      rw [if_pos c1]
      simp only [c2, c3, decide_true, Bool.and_self] at hT
      generalize encB (zeros 256) = z at *
      generalize encB x = y at *
      unfold vwC at *
      exact ⟨_, by simp only [esc, esh, Nat.reduceAdd, Nat.reduceMul, Nat.reduceLT, hT, hcv, hf, hz, hB] <;> rfl⟩
    · have ht : (decide (0 ≤ no) && decide (no < b)) = false := by
        rw [Bool.and_eq_false_iff, decide_eq_false_iff_not, decide_eq_false_iff_not]; omega
      rw [if_neg c1]
      simp only [ht] at hT
      generalize encB (zeros 256) = z at *
      unfold vwC at *
      exact ⟨_, by simp only [esc, esh, Nat.reduceAdd, Nat.reduceMul, Nat.reduceLT, hT, ef, hz] <;> rfl⟩
  obtain ⟨g', e⟩ := key (ro h) hf
  exact S_view_View_Block__On_1_flat e (by simp [Val.flat])

theorem blockO_nf {b n m no : Int} {h : Heap} : S_view_View_Block__On_1 [.a (vwC b n m .nf), .c (.i .i64 no)] h = some (.a (encB (zeros 256)), h) := by
  have key : ∀ g, ∃ g', R_view_View_Block__On_1 0 [.a (vwC b n m .nf), .c (.i .i64 no)] g = some (.a (encB (zeros 256)), g') := by
    intro g
    have hz : (encB (zeros 256)).length = 256 := by rw [encB_length]; exact zeros_length
    have hT := fun h => view_there_nf (b := b) (n := n) (m := m) (no := no) (h := h)
    have ef : afill (encB (zeros 256)) [] = some (encB (zeros 256)) := rfl
    rw [R_view_View_Block__On_1_eq, zeros_enc]
    generalize encB (zeros 256) = z at *
    unfold vwC at *
    exact ⟨_, by simp only [esc, esh, Nat.reduceAdd, Nat.reduceMul, Nat.reduceLT, hT, ef, hz] <;> rfl⟩
  obtain ⟨g', e⟩ := key (ro h)
  exact S_view_View_Block__On_1_flat e (by simp [Val.flat])

theorem blockO_some {b n m no n0 n1 : Int} {f : Cell} {D : Dev} {h : Heap} (hD : okD D) (hv : IsOn h f D n0 n1) : S_view_View_Block__On_1 [.a (vwC b n m f), .c (.i .i64 no)] h = some (.a (encB (if 0 ≤ no ∧ no < b then blkO D n1 no else zeros 256)), h) := by
  obtain ⟨r, _, _, _, _, _, _, _, e, _⟩ := id hv
  subst e
  exact blockO_of (blkO_length hD) fun t => on1_some hD (hv.ro.more t)
theorem blockO_none {b n m no : Int} {f : Cell} {h : Heap} (hv : IsNo h f) : S_view_View_Block__On_1 [.a (vwC b n m f), .c (.i .i64 no)] h = some (.a (encB (zeros 256)), h) := by
  obtain ⟨r, w, e, hr⟩ := id hv
  subst e
  have := blockO_of (b := b) (n := n) (m := m) (no := no) (r := r) (h := h) zeros_length fun t => on1_none (w := false) (rd_append (by rw [rd_ro, hr]; rfl))
  rw [ite_self] at this
  exact this

theorem imageO_loop {n m : Int} {f : Cell} {g : Heap} {p q id N : Nat} (h1 : rd g p = some ⟨vwC N n m f, true⟩) (hB : ∀ (i : Nat) h, Low g.length g h → ∃ x : List UInt8, x.length = 256 ∧ S_view_View_Block__On_1 [.a (vwC N n m f), .c (.i .i64 (i : Int))] h = some (.a (encB x), h)) (hid : g.length ≤ id) (hN : N ≤ 1073741823) : ∀ (e i M : Nat) (h : Heap) (E : Dev), i + e = N → e < M → Low g.length g h → okD E → E.length = N →
    rd h id = some ⟨cellsD E, true⟩ → ∃ h' F, view_View_Image__On_1_l0 q M (.c (.p p 0)) (.c (.sl id 0 N 256)) (.c (.i .i64 (N : Int))) (.c (.i .i64 (i : Int))) h = some (.c (.sl id 0 N 256), h') ∧ okD F ∧ F.length = N ∧ rd h' id = some ⟨cellsD F, true⟩
  | e, i, 0, h, E, _, hm, _, _, _, _ => by omega
  | 0, i, M + 1, h, E, hi, hm, hlow, hE, hEl, hr => by
    have c0 : ¬ (i : Int) < (N : Nat) := by omega
    rw [view_View_Image__On_1_l0_eq]
    exact ⟨h, E, by simp only [esc, c0], hE, hEl, hr⟩
  | e + 1, i, M + 1, h, E, hi, hm, hlow, hE, hEl, hr => by
    have hil : i < N := by omega
    have c0 : (i : Int) < (N : Nat) := by omega
    have hV := loadAll (h := h) (id := p) (hlow.rd h1) (n := 4) rfl
    obtain ⟨x, hx, hb⟩ := hB i h hlow
    have ad : aiAddrL 256 (.c (.sl id 0 N 256)) (.c (.i .i64 (i : Int))) = some (.c (.p id (i * 256))) := by rw [iAddrL_of hil, Nat.zero_add]
    have hs := store_dev (i := i) (b := x) hr hE hx (by omega)
    have hlt := rd_lt hr
    obtain ⟨h', F, g1, g2⟩ := imageO_loop (q := q) h1 hB hid hN e (i + 1) M (h.set id (some ⟨cellsD (E.set i x), true⟩)) (E.set i x) (by omega) (by omega) (hlow.set hid _) (hE.set hx) (by rw [List.length_set]; exact hEl) (rd_set_same hlt)
    refine ⟨h', F, ?_, g2⟩
    rw [view_View_Image__On_1_l0_eq]
    generalize vwC N n m f = V at *
    generalize encB x = y at *
    simp only [bnd_some, abin_lss, c0, decide_true, cnd_t, hV, hb, ad, hs, abin_add, wi_succ (show i + 1 < 9223372036854775808 by omega)]
    exact g1

theorem imageO_zero {b n m : Int} {f : Cell} {h : Heap} (hm : mayL b n = false) : S_view_View_Image__On_1 [.a (vwC b n m f)] h = some (.c (.sl h.length 0 0 256), h ++ [some ⟨[], true⟩]) := by
  have key : ∀ g, ∃ v g', R_view_View_Image__On_1 0 [.a (vwC b n m f)] g = some (v, g') ∧ Out g.length g' v 256 0 [] := by
    intro g
    have l3 := vw_l3 (b := b) (n := n) (m := m) (f := f)
    have hC := fun h => super_Check_eq (b := b) (n := n) (m := m) (h := h)
    have n10 : ¬ (1 : Int) = 0 := by decide
    simp only [hm] at hC
    rw [R_view_View_Image__On_1_eq]
    generalize vwC b n m f = V at *
    exact ⟨.c (.sl (g.length + 2) 0 0 256), _, by simp only [esc, esh, Nat.reduceAdd, Nat.reduceMul, Nat.reduceLT, l3, hC, n10, eq_self] <;> rfl, rfl, g.length + 2, rfl, by omega, by simp⟩
  obtain ⟨v, g', e, ho⟩ := key (ro h)
  exact S_view_View_Image__On_1_out e (by simpa [ro_length] using ho) rfl

theorem imageO_eq {n m n0 n1 : Int} {N : Nat} {f : Cell} {D : Dev} {h : Heap} (hD : okD D) (hv : IsOn h f D n0 n1) (hm : mayL N n = true) : ∃ F, S_view_View_Image__On_1 [.a (vwC N n m f)] h = some (.c (.sl h.length 0 N 256), h ++ [some ⟨cellsD F, true⟩]) := by
  have key : ∀ g, IsOn g f D n0 n1 → ∃ v g' F, R_view_View_Image__On_1 (N + 1) [.a (vwC N n m f)] g = some (v, g') ∧ Out g.length g' v 256 N (cellsD F) := by
    intro g hv
    have h60 : N ≤ 512 := by
      unfold mayL at hm
      simp only [Bool.and_eq_true, decide_eq_true_eq] at hm
      omega
    have l3 := vw_l3 (b := N) (n := n) (m := m) (f := f)
    have l0 : (vwC N n m f)[0]? = some (.i .i64 (N : Int)) := rfl
    have hC := fun h => super_Check_eq (b := N) (n := n) (m := m) (h := h)
    simp only [hm] at hC
    have mk := amkn_n (N := N) (by omega)
    obtain ⟨h', F, g1, g2, g3, g4⟩ := imageO_loop (n := n) (m := m) (f := f) (p := g.length) (q := N + 1) (id := g.length + 2) (N := N) (g := g ++ [some (Row.mk (vwC N n m f) true), some (Row.mk [] true)]) (by simp) (fun i k hk => ⟨_, by
      show (if 0 ≤ (i : Int) ∧ (i : Int) < (N : Int) then blkO D n1 (i : Int) else zeros 256).length = 256
      split
      · exact blkO_length hD
      · exact zeros_length, blockO_some (no := (i : Int)) hD ((hv.more _).since hk)⟩) (by simp) (by omega) N 0 (N + 1) (g ++ [some (Row.mk (vwC N n m f) true), some (Row.mk [] true), some (Row.mk (cellsD (List.replicate N (zeros 256))) true)]) (List.replicate N (zeros 256)) (by omega) (by omega)
      (by
        have := (Low.refl (h := g ++ [some (Row.mk (vwC N n m f) true), some (Row.mk [] true)]) (Nat.le_refl _)).new [some (Row.mk (cellsD (List.replicate N (zeros 256))) true)]
        simpa using this) (okD_zeros N) List.length_replicate (by simp)
    rw [R_view_View_Image__On_1_eq]
    simp only [rows_dev]
    refine ⟨_, h', F, ?_, by rw [cellsD_length g2, g3], g.length + 2, rfl, by omega, g4⟩
    generalize vwC N n m f = V at *
    simp only [esc, esh, Nat.reduceAdd, Nat.reduceMul, Nat.reduceLT, l3, hC, eq_self, l0, mk]
    exact g1
  obtain ⟨v, g', F, e, ho⟩ := key (ro h) hv.ro
  exact ⟨F, S_view_View_Image__On_1_out e (by simpa [ro_length] using ho) flats_cellsD⟩

theorem view_On_eq {b n m : Int} {f : Cell} {h : Heap} : S_view_On [.a (layC b n m), .c f] h = some (.a (vwC b n m (.f 77 [(h.length + 1, 0)])), h ++ [some ⟨layC b n m, true⟩, some ⟨[f], true⟩, some ⟨vwC b n m (.f 77 [(h.length + 1, 0)]), true⟩]) := by
  refine S_view_On_of (n := 0) ?_
  have emk : amkf 77 [.c (.p (h.length + 1) 0)] = some (.c (.f 77 [(h.length + 1, 0)])) := rfl
  have ef : ∀ x, afill [Cell.i .i64 0, .i .i64 0, .i .u64 0, .nf] [(0, 3, .a (layC b n m)), (3, 1, .c x)] = some (vwC b n m x) := fun _ => rfl
  have hl : (layC b n m).length = 3 := rfl
  have hz : [Cell.i .i64 0, .i .i64 0, .i .u64 0, .nf].length = 4 := rfl
  have hv : (vwC b n m (.f 77 [(h.length + 1, 0)])).length = 4 := rfl
  rw [R_view_On_eq]
  generalize hL : layC b n m = L at *
  simp only [esc, esh, Nat.reduceAdd, Nat.reduceMul, Nat.reduceLT, hl, emk, ef, hz, hv]

end Go.Proofs.Ytdgggnlbdoiloaa
end
