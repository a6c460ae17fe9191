/- What the proof of this claim leans on, part 5. -/
import Derived.Test.YtdgggnlbdoiloaaFFmapDirsp4
set_option linter.all false
noncomputable section
namespace Go.Proofs.Ytdgggnlbdoiloaa
open Go Go.Esc
set_option maxRecDepth 100000
def fmap_At_o0 : List AOper := [aO 3 (.box (.t 0)), aO 4 (.box (.t 1)), aO 6 (.mv (.v (.c (.i .i64 0))))]
def fmap_At_c0 : ACode := .ops fmap_At_o0
def fmap_At_o1 : List AOper := [aO 8 (.fAddr (.t 4) 0), aO 9 (.load1 (.t 8)), aO 10 (.bin .neq (.t 9) (.v (.c (.i .i64 1)))), aO 11 (.mv (.t 10)), { dst := some 12, op := .mv (.t 2), guard := some (11, false) }, { dst := some 13, op := .bin .lss (.t 12) (.v (.c (.i .i64 0))), guard := some (11, false) }, aO 14 (.pick (.t 11) (.v (.c (.b true))) (.t 13)), aO 15 (.mv (.t 14)), { dst := some 16, op := .mv (.t 2), guard := some (15, false) }, { dst := some 17, op := .bin .geq (.t 16) (.v (.c (.i .i64 134))), guard := some (15, false) }, aO 18 (.pick (.t 15) (.v (.c (.b true))) (.t 17))]
def fmap_At_c1 : ACode := .ops fmap_At_o1
def fmap_At_o2 : List AOper := [aO 6 (.mv (.v (.c (.i .i64 0))))]
def fmap_At_c2 : ACode := .ops fmap_At_o2
def fmap_At_c3 : ACode := .seq [6] fmap_At_c2 .ret
def fmap_At_c4 : ACode := .cond (.t 18) fmap_At_c3 .skip
def fmap_At_c5 : ACode := .seq [2, 3, 4, 18] fmap_At_c1 fmap_At_c4
def fmap_At_o3 : List AOper := [aO 7 (.mv (.v (.c (.i .i64 0))))]
def fmap_At_c6 : ACode := .ops fmap_At_o3
def fmap_At_o4 : List AOper := [aO 20 (.mv (.t 2)), aO 21 (.bin .lss (.t 20) (.v (.c (.i .i64 6)))), aO 19 (.mv (.t 21))]
def fmap_At_c7 : ACode := .ops fmap_At_o4
def fmap_At_o5 : List AOper := [aO 22 (.mv (.t 2)), aO 23 (.fAddr (.t 4) 4), aO 24 (.iAddrA 6 1 (.t 23) (.t 22)), aO 25 (.load1 (.t 24)), aO 7 (.mv (.t 25))]
def fmap_At_c8 : ACode := .ops fmap_At_o5
def fmap_At_o6 : List AOper := [aO 27 (.fAddr (.t 3) 0), aO 28 (.loadN 3 (.t 27)), aO 29 (.fAddr (.t 4) 10), aO 30 (.load1 (.t 29)), aO 31 (.call 25 [(.t 28), (.t 30)]), aO 26 (.mv (.t 31))]
def fmap_At_c9 : ACode := .ops fmap_At_o6
def fmap_At_o7 : List AOper := [aO 32 (.loadN 4 (.t 3)), aO 33 (.fAddr (.t 4) 10), aO 34 (.load1 (.t 33)), aO 35 (.call 38 [(.t 32), (.t 34)]), aO 36 (.mv (.t 2)), aO 37 (.bin .sub (.t 36) (.v (.c (.i .i64 6)))), aO 38 (.call 67 [(.t 35), (.t 37)]), aO 7 (.mv (.t 38))]
def fmap_At_c10 : ACode := .ops fmap_At_o7
def fmap_At_c11 : ACode := .cond (.t 26) fmap_At_c10 .skip
def fmap_At_c12 : ACode := .seq [2, 3, 4, 7, 26] fmap_At_c9 fmap_At_c11
def fmap_At_c13 : ACode := .cond (.t 19) fmap_At_c8 fmap_At_c12
def fmap_At_c14 : ACode := .seq [2, 3, 4, 7, 19] fmap_At_c7 fmap_At_c13
def fmap_At_c15 : ACode := .block 0 fmap_At_c14
def fmap_At_o8 : List AOper := [aO 39 (.fAddr (.t 3) 0), aO 40 (.loadN 3 (.t 39)), aO 41 (.mv (.t 7)), aO 42 (.call 25 [(.t 40), (.t 41)]), aO 43 (.un .not (.t 42))]
def fmap_At_c16 : ACode := .ops fmap_At_o8
def fmap_At_o9 : List AOper := [aO 6 (.mv (.v (.c (.i .i64 0))))]
def fmap_At_c17 : ACode := .ops fmap_At_o9
def fmap_At_c18 : ACode := .seq [6] fmap_At_c17 .ret
def fmap_At_c19 : ACode := .cond (.t 43) fmap_At_c18 .skip
def fmap_At_c20 : ACode := .seq [7, 43] fmap_At_c16 fmap_At_c19
def fmap_At_o10 : List AOper := [aO 44 (.mv (.t 7)), aO 6 (.mv (.t 44))]
def fmap_At_c21 : ACode := .ops fmap_At_o10
def fmap_At_c22 : ACode := .seq [6] fmap_At_c21 .ret
def fmap_At_c23 : ACode := .seq [7] fmap_At_c20 fmap_At_c22
def fmap_At_c24 : ACode := .seq [3, 7] fmap_At_c15 fmap_At_c23
def fmap_At_c25 : ACode := .seq [2, 3, 4, 7] fmap_At_c6 fmap_At_c24
def fmap_At_c26 : ACode := .seq [2, 3, 4] fmap_At_c5 fmap_At_c25
def fmap_At_c27 : ACode := .seq [2, 3, 4] fmap_At_c0 fmap_At_c26
def A_fmap_At : AFn := ⟨fmap_At_c27, [.tmp 6]⟩
def E_fmap_At : Sums := disp 25 S_geom_IsData (disp 38 S_view_View_Block__Of_1 (disp 67 S_points_Get disp0))
def fmap_At_c0_d (n : Nat) : SmV := smOps E_fmap_At fmap_At_o0
def fmap_At_c1_d (n : Nat) : SmV := smOps E_fmap_At fmap_At_o1
def fmap_At_c2_d (n : Nat) : SmV := smOps E_fmap_At fmap_At_o2
def fmap_At_c3_d (n : Nat) : SmV := smSeq [6] (fmap_At_c2_d n) smRet
def fmap_At_c4_d (n : Nat) : SmV := smCond (.t 18) (fmap_At_c3_d n) smSkip
def fmap_At_c5_d (n : Nat) : SmV := smSeq [2, 3, 4, 18] (fmap_At_c1_d n) (fmap_At_c4_d n)
def fmap_At_c6_d (n : Nat) : SmV := smOps E_fmap_At fmap_At_o3
def fmap_At_c7_d (n : Nat) : SmV := smOps E_fmap_At fmap_At_o4
def fmap_At_c8_d (n : Nat) : SmV := smOps E_fmap_At fmap_At_o5
def fmap_At_c9_d (n : Nat) : SmV := smOps E_fmap_At fmap_At_o6
def fmap_At_c10_d (n : Nat) : SmV := smOps E_fmap_At fmap_At_o7
def fmap_At_c11_d (n : Nat) : SmV := smCond (.t 26) (fmap_At_c10_d n) smSkip
def fmap_At_c12_d (n : Nat) : SmV := smSeq [2, 3, 4, 7, 26] (fmap_At_c9_d n) (fmap_At_c11_d n)
def fmap_At_c13_d (n : Nat) : SmV := smCond (.t 19) (fmap_At_c8_d n) (fmap_At_c12_d n)
def fmap_At_c14_d (n : Nat) : SmV := smSeq [2, 3, 4, 7, 19] (fmap_At_c7_d n) (fmap_At_c13_d n)
def fmap_At_c15_d (n : Nat) : SmV := smBlock 0 (fmap_At_c14_d n)
def fmap_At_c16_d (n : Nat) : SmV := smOps E_fmap_At fmap_At_o8
def fmap_At_c17_d (n : Nat) : SmV := smOps E_fmap_At fmap_At_o9
def fmap_At_c18_d (n : Nat) : SmV := smSeq [6] (fmap_At_c17_d n) smRet
def fmap_At_c19_d (n : Nat) : SmV := smCond (.t 43) (fmap_At_c18_d n) smSkip
def fmap_At_c20_d (n : Nat) : SmV := smSeq [7, 43] (fmap_At_c16_d n) (fmap_At_c19_d n)
def fmap_At_c21_d (n : Nat) : SmV := smOps E_fmap_At fmap_At_o10
def fmap_At_c22_d (n : Nat) : SmV := smSeq [6] (fmap_At_c21_d n) smRet
def fmap_At_c23_d (n : Nat) : SmV := smSeq [7] (fmap_At_c20_d n) (fmap_At_c22_d n)
def fmap_At_c24_d (n : Nat) : SmV := smSeq [3, 7] (fmap_At_c15_d n) (fmap_At_c23_d n)
def fmap_At_c25_d (n : Nat) : SmV := smSeq [2, 3, 4, 7] (fmap_At_c6_d n) (fmap_At_c24_d n)
def fmap_At_c26_d (n : Nat) : SmV := smSeq [2, 3, 4] (fmap_At_c5_d n) (fmap_At_c25_d n)
def fmap_At_c27_d (n : Nat) : SmV := smSeq [2, 3, 4] (fmap_At_c0_d n) (fmap_At_c26_d n)
def fmap_At_j0 (n : Nat) (x3 x7 : Val) (h : Heap) : OptV := hold ((fmap_At_c23_d n) A_fmap_At.fin [(3, x3), (7, x7)] h)
def R_fmap_At (n : Nat) (args : List Val) (h : Heap) : OptV := (fmap_At_c27_d n) A_fmap_At.fin (params 0 args) h
theorem R_fmap_At_eq (n : Nat) (a0 a1 a2 : Val) (h : Heap) : R_fmap_At n [a0, a1, a2] h = bnd (cells? a0) fun c1 => bnd (cells? a1) fun c2 => bnd (afAddr ((.c (.p ((h ++ [some (Row.mk (c1) true)])).length 0))) 0) fun v3 => bnd (aload1 (((h ++ [some (Row.mk (c1) true)]) ++ [some (Row.mk (c2) true)])) v3) fun v4 => bnd (abin .neq v4 (.c (.i .i64 1))) fun v5 => bnd (gd v5 false (some (a2, ((h ++ [some (Row.mk (c1) true)]) ++ [some (Row.mk (c2) true)]))) (some (.no, ((h ++ [some (Row.mk (c1) true)]) ++ [some (Row.mk (c2) true)])))) fun p6 => bnd (gd v5 false (bnd (abin .lss p6.1 (.c (.i .i64 0))) fun v7 => some (v7, p6.2)) (some (.no, p6.2))) fun p8 => bnd (apick v5 (.c (.b true)) p8.1) fun v9 => bnd (gd v9 false (some (a2, p8.2)) (some (.no, p8.2))) fun p10 => bnd (gd v9 false (bnd (abin .geq p10.1 (.c (.i .i64 134))) fun v11 => some (v11, p10.2)) (some (.no, p10.2))) fun p12 => bnd (apick v9 (.c (.b true)) p12.1) fun v13 => cnd v13 (some ((.c (.i .i64 0)), p12.2)) (bnd (abin .lss a2 (.c (.i .i64 6))) fun v14 => cnd v14 (bnd (afAddr ((.c (.p ((h ++ [some (Row.mk (c1) true)])).length 0))) 4) fun v15 => bnd (aiAddrA 6 1 v15 a2) fun v16 => bnd (aload1 p12.2 v16) fun v17 => fmap_At_j0 n ((.c (.p h.length 0))) v17 p12.2) (bnd (afAddr ((.c (.p h.length 0))) 0) fun v18 => bnd (aloadN p12.2 3 v18) fun v19 => bnd (afAddr ((.c (.p ((h ++ [some (Row.mk (c1) true)])).length 0))) 10) fun v20 => bnd (aload1 p12.2 v20) fun v21 => bnd (S_geom_IsData [v19, v21] p12.2) fun p22 => cnd p22.1 (bnd (aloadN p22.2 4 ((.c (.p h.length 0)))) fun v23 => bnd (afAddr ((.c (.p ((h ++ [some (Row.mk (c1) true)])).length 0))) 10) fun v24 => bnd (aload1 p22.2 v24) fun v25 => bnd (S_view_View_Block__Of_1 [v23, v25] p22.2) fun p26 => bnd (abin .sub a2 (.c (.i .i64 6))) fun v27 => bnd (S_points_Get [p26.1, v27] p26.2) fun p28 => fmap_At_j0 n ((.c (.p h.length 0))) p28.1 p28.2) (fmap_At_j0 n ((.c (.p h.length 0))) (.c (.i .i64 0)) p22.2))) := by kernel_rfl
theorem fmap_At_j0_eq (n : Nat) (x3 x7 : Val) (h : Heap) : fmap_At_j0 n x3 x7 h = bnd (afAddr x3 0) fun v29 => bnd (aloadN h 3 v29) fun v30 => bnd (S_geom_IsData [v30, x7] h) fun p31 => bnd (aun .not p31.1) fun v32 => cnd v32 (some ((.c (.i .i64 0)), p31.2)) (some (x7, p31.2)) := by kernel_rfl
theorem K_fmap_At : FnK Try.prog 28 A_fmap_At E_fmap_At R_fmap_At := .mk' (sound1 S_geom_IsData_ok (sound1 S_view_View_Block__Of_1_ok (sound1 S_points_Get_ok sound0))) Try.func28 (by kernel_rfl) (by intro n args h; kernel_rfl)
def S_fmap_At : Fun := tidy (Lim A_fmap_At E_fmap_At)
theorem S_fmap_At_ok : SOk Try.prog 28 S_fmap_At := K_fmap_At.sok
theorem S_fmap_At_flat {n : Nat} {args : List Val} {h h2 : Heap} {v : Val} (he : R_fmap_At n args (ro h) = some (v, h2)) (hf : v.flat = true) : S_fmap_At args h = some (v, h) := K_fmap_At.flat he hf
def fmap_Blocks_1_o0 : List AOper := [aO 5 (.load1 (.t 2)), aO 6 (.mv (.t 1)), aO 7 (.buildSl 1 1 ([.i .i64 0]) [(0, 1, (.t 6))]), aO 8 (.app 1 (.t 5) (.t 7)), { dst := none, op := .store1 (.t 2) (.t 8) }]
def fmap_Blocks_1_c0 : ACode := .ops fmap_Blocks_1_o0
def A_fmap_Blocks_1 : AFn := ⟨fmap_Blocks_1_c0, []⟩
def E_fmap_Blocks_1 : Sums := disp0
def fmap_Blocks_1_c0_d (n : Nat) : SmV := smOps E_fmap_Blocks_1 fmap_Blocks_1_o0
def R_fmap_Blocks_1 (n : Nat) (args : List Val) (h : Heap) : OptV := (fmap_Blocks_1_c0_d n) A_fmap_Blocks_1.fin (params 0 args) h
theorem R_fmap_Blocks_1_eq (n : Nat) (a0 a1 a2 : Val) (h : Heap) : R_fmap_Blocks_1 n [a0, a1, a2] h = bnd (aload1 h a2) fun v1 => bnd (afill ([.i .i64 0]) [(0, 1, a1)]) fun c2 => bnd (aapp ((h ++ [some (Row.mk (c2) true)])) 1 v1 ((.c (.sl h.length 0 1 1)))) fun p3 => bnd (astore1 p3.2 a2 p3.1) fun h4 => tupN [] h4 := by kernel_rfl
theorem K_fmap_Blocks_1 : FnK Try.prog 62 A_fmap_Blocks_1 E_fmap_Blocks_1 R_fmap_Blocks_1 := .mk' (sound0) Try.func62 (by kernel_rfl) (by intro n args h; kernel_rfl)
def S_fmap_Blocks_1 : Fun := Lim A_fmap_Blocks_1 E_fmap_Blocks_1
theorem S_fmap_Blocks_1_ok : SOk Try.prog 62 S_fmap_Blocks_1 := K_fmap_Blocks_1.ok
theorem S_fmap_Blocks_1_of {n : Nat} {args : List Val} {h : Heap} {p : Val × Heap} (he : R_fmap_Blocks_1 n args h = some p) : S_fmap_Blocks_1 args h = some p := K_fmap_Blocks_1.of he
def fmap_each__Blocks_1_o0 : List AOper := [aO 3 (.box (.t 0)), aO 4 (.box (.t 1))]
def fmap_each__Blocks_1_c0 : ACode := .ops fmap_each__Blocks_1_o0
def fmap_each__Blocks_1_o1 : List AOper := [aO 8 (.mv (.v (.c (.i .i64 0))))]
def fmap_each__Blocks_1_c1 : ACode := .ops fmap_each__Blocks_1_o1
def fmap_each__Blocks_1_o2 : List AOper := [aO 9 (.bin .lss (.t 8) (.v (.c (.i .i64 134))))]
def fmap_each__Blocks_1_c2 : ACode := .ops fmap_each__Blocks_1_o2
def fmap_each__Blocks_1_c3 : ACode := .cond (.t 9) .skip (.exit 0)
def fmap_each__Blocks_1_o3 : List AOper := [aO 10 (.mv (.t 8)), aO 6 (.mv (.t 10))]
def fmap_each__Blocks_1_c4 : ACode := .ops fmap_each__Blocks_1_o3
def fmap_each__Blocks_1_o4 : List AOper := [aO 11 (.loadN 4 (.t 3)), aO 12 (.loadN 11 (.t 4)), aO 13 (.mv (.t 6)), aO 14 (.call 28 [(.t 11), (.t 12), (.t 13)]), aO 7 (.mv (.t 14))]
def fmap_each__Blocks_1_c5 : ACode := .ops fmap_each__Blocks_1_o4
def fmap_each__Blocks_1_o5 : List AOper := [aO 15 (.mv (.t 7)), aO 16 (.bin .neq (.t 15) (.v (.c (.i .i64 0))))]
def fmap_each__Blocks_1_c6 : ACode := .ops fmap_each__Blocks_1_o5
def fmap_each__Blocks_1_o6 : List AOper := [aO 17 (.mv (.t 2)), aO 18 (.mv (.t 6)), aO 19 (.mv (.t 7)), aO 20 (.callV (.t 17) [(.t 18), (.t 19)])]
def fmap_each__Blocks_1_c7 : ACode := .ops fmap_each__Blocks_1_o6
def fmap_each__Blocks_1_c8 : ACode := .cond (.t 16) fmap_each__Blocks_1_c7 .skip
def fmap_each__Blocks_1_c9 : ACode := .seq [2, 3, 4, 6, 7, 8, 16] fmap_each__Blocks_1_c6 fmap_each__Blocks_1_c8
def fmap_each__Blocks_1_c10 : ACode := .seq [2, 3, 4, 6, 7, 8] fmap_each__Blocks_1_c5 fmap_each__Blocks_1_c9
def fmap_each__Blocks_1_c11 : ACode := .seq [2, 3, 4, 6, 8] fmap_each__Blocks_1_c4 fmap_each__Blocks_1_c10
def fmap_each__Blocks_1_c12 : ACode := .block 1 fmap_each__Blocks_1_c11
def fmap_each__Blocks_1_o7 : List AOper := [aO 21 (.bin .add (.t 8) (.v (.c (.i .i64 1)))), aO 8 (.mv (.t 21))]
def fmap_each__Blocks_1_c13 : ACode := .ops fmap_each__Blocks_1_o7
def fmap_each__Blocks_1_c14 : ACode := .seq [2, 3, 4, 8] fmap_each__Blocks_1_c12 fmap_each__Blocks_1_c13
def fmap_each__Blocks_1_c15 : ACode := .seq [2, 3, 4, 8] fmap_each__Blocks_1_c3 fmap_each__Blocks_1_c14
def fmap_each__Blocks_1_c16 : ACode := .seq [2, 3, 4, 8, 9] fmap_each__Blocks_1_c2 fmap_each__Blocks_1_c15
def fmap_each__Blocks_1_c17 : ACode := .loop [2, 3, 4, 8] fmap_each__Blocks_1_c16
def fmap_each__Blocks_1_c18 : ACode := .block 0 fmap_each__Blocks_1_c17
def fmap_each__Blocks_1_c19 : ACode := .seq [2, 3, 4, 8] fmap_each__Blocks_1_c1 fmap_each__Blocks_1_c18
def fmap_each__Blocks_1_c20 : ACode := .seq [2, 3, 4] fmap_each__Blocks_1_c0 fmap_each__Blocks_1_c19
def A_fmap_each__Blocks_1 : AFn := ⟨fmap_each__Blocks_1_c20, []⟩
def E_fmap_each__Blocks_1 : Sums := disp 28 S_fmap_At (disp 62 S_fmap_Blocks_1 disp0)
def fmap_each__Blocks_1_c0_d (n : Nat) : SmV := smOps E_fmap_each__Blocks_1 fmap_each__Blocks_1_o0
def fmap_each__Blocks_1_c1_d (n : Nat) : SmV := smOps E_fmap_each__Blocks_1 fmap_each__Blocks_1_o1
def fmap_each__Blocks_1_c2_d (n : Nat) : SmV := smOps E_fmap_each__Blocks_1 fmap_each__Blocks_1_o2
def fmap_each__Blocks_1_c3_d (n : Nat) : SmV := smCond (.t 9) smSkip (smExit 0)
def fmap_each__Blocks_1_c4_d (n : Nat) : SmV := smOps E_fmap_each__Blocks_1 fmap_each__Blocks_1_o3
def fmap_each__Blocks_1_c5_d (n : Nat) : SmV := smOps E_fmap_each__Blocks_1 fmap_each__Blocks_1_o4
def fmap_each__Blocks_1_c6_d (n : Nat) : SmV := smOps E_fmap_each__Blocks_1 fmap_each__Blocks_1_o5
def fmap_each__Blocks_1_c7_d (n : Nat) : SmV := smOps E_fmap_each__Blocks_1 fmap_each__Blocks_1_o6
def fmap_each__Blocks_1_c8_d (n : Nat) : SmV := smCond (.t 16) (fmap_each__Blocks_1_c7_d n) smSkip
def fmap_each__Blocks_1_c9_d (n : Nat) : SmV := smSeq [2, 3, 4, 6, 7, 8, 16] (fmap_each__Blocks_1_c6_d n) (fmap_each__Blocks_1_c8_d n)
def fmap_each__Blocks_1_c10_d (n : Nat) : SmV := smSeq [2, 3, 4, 6, 7, 8] (fmap_each__Blocks_1_c5_d n) (fmap_each__Blocks_1_c9_d n)
def fmap_each__Blocks_1_c11_d (n : Nat) : SmV := smSeq [2, 3, 4, 6, 8] (fmap_each__Blocks_1_c4_d n) (fmap_each__Blocks_1_c10_d n)
def fmap_each__Blocks_1_c12_d (n : Nat) : SmV := smBlock 1 (fmap_each__Blocks_1_c11_d n)
def fmap_each__Blocks_1_c13_d (n : Nat) : SmV := smOps E_fmap_each__Blocks_1 fmap_each__Blocks_1_o7
def fmap_each__Blocks_1_c14_d (n : Nat) : SmV := smSeq [2, 3, 4, 8] (fmap_each__Blocks_1_c12_d n) (fmap_each__Blocks_1_c13_d n)
def fmap_each__Blocks_1_c15_d (n : Nat) : SmV := smSeq [2, 3, 4, 8] (fmap_each__Blocks_1_c3_d n) (fmap_each__Blocks_1_c14_d n)
def fmap_each__Blocks_1_c16_d (n : Nat) : SmV := smSeq [2, 3, 4, 8, 9] (fmap_each__Blocks_1_c2_d n) (fmap_each__Blocks_1_c15_d n)
def fmap_each__Blocks_1_c17_d (n : Nat) : SmV := smLoop n [2, 3, 4, 8] (fmap_each__Blocks_1_c16_d n)
def fmap_each__Blocks_1_c18_d (n : Nat) : SmV := smBlock 0 (fmap_each__Blocks_1_c17_d n)
def fmap_each__Blocks_1_c19_d (n : Nat) : SmV := smSeq [2, 3, 4, 8] (fmap_each__Blocks_1_c1_d n) (fmap_each__Blocks_1_c18_d n)
def fmap_each__Blocks_1_c20_d (n : Nat) : SmV := smSeq [2, 3, 4] (fmap_each__Blocks_1_c0_d n) (fmap_each__Blocks_1_c19_d n)
def fmap_each__Blocks_1_k0 (n : Nat) : AExit → Env → Heap → OptV := fun x e h => match x with | .exit i => bif Nat.beq i 0 then A_fmap_each__Blocks_1.fin .normal e h else A_fmap_each__Blocks_1.fin (.exit i) e h | .normal => A_fmap_each__Blocks_1.fin .normal e h | .ret => A_fmap_each__Blocks_1.fin .ret e h
def fmap_each__Blocks_1_l0 (n m : Nat) (x2 x3 x4 x8 : Val) (h : Heap) : OptV := around (fmap_each__Blocks_1_c16_d n) [2, 3, 4, 8] (fmap_each__Blocks_1_k0 n) m [(2, x2), (3, x3), (4, x4), (8, x8)] h
def R_fmap_each__Blocks_1 (n : Nat) (args : List Val) (h : Heap) : OptV := (fmap_each__Blocks_1_c20_d n) A_fmap_each__Blocks_1.fin (params 0 args) h
def fmap_each__Blocks_1_k1 (n m : Nat) : AExit → Env → Heap → OptV := fun x e h => match x with | .normal => around (fmap_each__Blocks_1_c16_d n) [2, 3, 4, 8] (fmap_each__Blocks_1_k0 n) m (e.keep [2, 3, 4, 8]) h | .exit id => (fmap_each__Blocks_1_k0 n) (.exit id) e h | .ret => (fmap_each__Blocks_1_k0 n) .ret e h
def fmap_each__Blocks_1_j0 (n m : Nat) (x2 x3 x4 x8 : Val) (h : Heap) : OptV := hold ((fmap_each__Blocks_1_c13_d n) (fmap_each__Blocks_1_k1 n m) [(2, x2), (3, x3), (4, x4), (8, x8)] h)
theorem R_fmap_each__Blocks_1_eq (n : Nat) (a0 a1 a2 : Val) (h : Heap) : R_fmap_each__Blocks_1 n [a0, a1, a2] h = bnd (cells? a0) fun c1 => bnd (cells? a1) fun c2 => fmap_each__Blocks_1_l0 n n a2 ((.c (.p h.length 0))) ((.c (.p ((h ++ [some (Row.mk (c1) true)])).length 0))) (.c (.i .i64 0)) (((h ++ [some (Row.mk (c1) true)]) ++ [some (Row.mk (c2) true)])) := by kernel_rfl
theorem fmap_each__Blocks_1_l0_eq (n m : Nat) (x2 x3 x4 x8 : Val) (h : Heap) : fmap_each__Blocks_1_l0 n (m + 1) x2 x3 x4 x8 h = bnd (abin .lss x8 (.c (.i .i64 134))) fun v3 => cnd v3 (bnd (aloadN h 4 x3) fun v4 => bnd (aloadN h 11 x4) fun v5 => bnd (S_fmap_At [v4, v5, x8] h) fun p6 => bnd (abin .neq p6.1 (.c (.i .i64 0))) fun v7 => cnd v7 (bnd (callv E_fmap_each__Blocks_1 x2 [x8, p6.1] p6.2) fun p8 => fmap_each__Blocks_1_j0 n m x2 x3 x4 x8 p8.2) (fmap_each__Blocks_1_j0 n m x2 x3 x4 x8 p6.2)) (tupN [] h) := by kernel_rfl
theorem fmap_each__Blocks_1_j0_eq (n m : Nat) (x2 x3 x4 x8 : Val) (h : Heap) : fmap_each__Blocks_1_j0 n m x2 x3 x4 x8 h = bnd (abin .add x8 (.c (.i .i64 1))) fun v9 => fmap_each__Blocks_1_l0 n m x2 x3 x4 v9 h := by kernel_rfl
theorem K_fmap_each__Blocks_1 : FnK Try.prog 60 A_fmap_each__Blocks_1 E_fmap_each__Blocks_1 R_fmap_each__Blocks_1 := .mk' (sound1 S_fmap_At_ok (sound1 S_fmap_Blocks_1_ok sound0)) Try.func60 (by kernel_rfl) (by intro n args h; kernel_rfl)
def S_fmap_each__Blocks_1 : Fun := Lim A_fmap_each__Blocks_1 E_fmap_each__Blocks_1
theorem S_fmap_each__Blocks_1_ok : SOk Try.prog 60 S_fmap_each__Blocks_1 := K_fmap_each__Blocks_1.ok
theorem S_fmap_each__Blocks_1_of {n : Nat} {args : List Val} {h : Heap} {p : Val × Heap} (he : R_fmap_each__Blocks_1 n args h = some p) : S_fmap_each__Blocks_1 args h = some p := K_fmap_each__Blocks_1.of he
def fmap_Blocks_o0 : List AOper := [aO 2 (.box (.t 0)), aO 3 (.box (.t 1)), aO 4 (.nilrow 1)]
def fmap_Blocks_c0 : ACode := .ops fmap_Blocks_o0
def fmap_Blocks_o1 : List AOper := [aO 5 (.alloc ([.ns]))]
def fmap_Blocks_c1 : ACode := .ops fmap_Blocks_o1
def fmap_Blocks_o2 : List AOper := [aO 6 (.loadN 4 (.t 2)), aO 7 (.loadN 11 (.t 3)), aO 8 (.mkf 62 [(.t 5)]), aO 9 (.call 60 [(.t 6), (.t 7), (.t 8)])]
def fmap_Blocks_c2 : ACode := .ops fmap_Blocks_o2
def fmap_Blocks_o3 : List AOper := [aO 10 (.load1 (.t 5)), aO 4 (.mv (.t 10))]
def fmap_Blocks_c3 : ACode := .ops fmap_Blocks_o3
def fmap_Blocks_c4 : ACode := .seq [4] fmap_Blocks_c3 .ret
def fmap_Blocks_c5 : ACode := .seq [5] fmap_Blocks_c2 fmap_Blocks_c4
def fmap_Blocks_c6 : ACode := .seq [2, 3, 5] fmap_Blocks_c1 fmap_Blocks_c5
def fmap_Blocks_c7 : ACode := .seq [2, 3] fmap_Blocks_c0 fmap_Blocks_c6
def A_fmap_Blocks : AFn := ⟨fmap_Blocks_c7, [.tmp 4]⟩
def E_fmap_Blocks : Sums := disp 60 S_fmap_each__Blocks_1 disp0
def fmap_Blocks_c0_d (n : Nat) : SmV := smOps E_fmap_Blocks fmap_Blocks_o0
def fmap_Blocks_c1_d (n : Nat) : SmV := smOps E_fmap_Blocks fmap_Blocks_o1
def fmap_Blocks_c2_d (n : Nat) : SmV := smOps E_fmap_Blocks fmap_Blocks_o2
def fmap_Blocks_c3_d (n : Nat) : SmV := smOps E_fmap_Blocks fmap_Blocks_o3
def fmap_Blocks_c4_d (n : Nat) : SmV := smSeq [4] (fmap_Blocks_c3_d n) smRet
def fmap_Blocks_c5_d (n : Nat) : SmV := smSeq [5] (fmap_Blocks_c2_d n) (fmap_Blocks_c4_d n)
def fmap_Blocks_c6_d (n : Nat) : SmV := smSeq [2, 3, 5] (fmap_Blocks_c1_d n) (fmap_Blocks_c5_d n)
def fmap_Blocks_c7_d (n : Nat) : SmV := smSeq [2, 3] (fmap_Blocks_c0_d n) (fmap_Blocks_c6_d n)
def R_fmap_Blocks (n : Nat) (args : List Val) (h : Heap) : OptV := (fmap_Blocks_c7_d n) A_fmap_Blocks.fin (params 0 args) h
theorem R_fmap_Blocks_eq (n : Nat) (a0 a1 : Val) (h : Heap) : R_fmap_Blocks n [a0, a1] h = bnd (cells? a0) fun c1 => bnd (cells? a1) fun c2 => bnd (aloadN (((((h ++ [some (Row.mk (c1) true)]) ++ [some (Row.mk (c2) true)]) ++ [some (Row.mk ([]) true)]) ++ [some (Row.mk ([.ns]) true)])) 4 ((.c (.p h.length 0)))) fun v3 => bnd (aloadN (((((h ++ [some (Row.mk (c1) true)]) ++ [some (Row.mk (c2) true)]) ++ [some (Row.mk ([]) true)]) ++ [some (Row.mk ([.ns]) true)])) 11 ((.c (.p ((h ++ [some (Row.mk (c1) true)])).length 0)))) fun v4 => bnd (amkf 62 [(.c (.p ((((h ++ [some (Row.mk (c1) true)]) ++ [some (Row.mk (c2) true)]) ++ [some (Row.mk ([]) true)])).length 0))]) fun v5 => bnd (S_fmap_each__Blocks_1 [v3, v4, v5] (((((h ++ [some (Row.mk (c1) true)]) ++ [some (Row.mk (c2) true)]) ++ [some (Row.mk ([]) true)]) ++ [some (Row.mk ([.ns]) true)]))) fun p6 => bnd (aload1 p6.2 ((.c (.p ((((h ++ [some (Row.mk (c1) true)]) ++ [some (Row.mk (c2) true)]) ++ [some (Row.mk ([]) true)])).length 0)))) fun v7 => some (v7, p6.2) := by kernel_rfl
theorem K_fmap_Blocks : FnK Try.prog 24 A_fmap_Blocks E_fmap_Blocks R_fmap_Blocks := .mk' (sound1 S_fmap_each__Blocks_1_ok sound0) Try.func24 (by kernel_rfl) (by intro n args h; kernel_rfl)
def S_fmap_Blocks : Fun := tidy (Lim A_fmap_Blocks E_fmap_Blocks)
theorem S_fmap_Blocks_ok : SOk Try.prog 24 S_fmap_Blocks := K_fmap_Blocks.sok
theorem S_fmap_Blocks_low {n : Nat} {args : List Val} {h h2 : Heap} {v : Val} (he : R_fmap_Blocks n args (ro h) = some (v, h2)) (hf : v.low h.length = true) : S_fmap_Blocks args h = some (v, h) := K_fmap_Blocks.low he hf
theorem S_fmap_Blocks_out {n : Nat} {args : List Val} {h h2 : Heap} {v : Val} {sz k : Nat} {cs : List Cell} (he : R_fmap_Blocks n args (ro h) = some (v, h2)) (ho : Out h.length h2 v sz k cs) (hf : flats cs = true) : S_fmap_Blocks args h = some (.c (.sl h.length 0 k sz), h ++ [some ⟨cs, true⟩]) := K_fmap_Blocks.out he ho hf
def fmap_Index_o0 : List AOper := [aO 2 (.box (.t 0)), aO 3 (.box (.t 1)), aO 4 (.alloc ([.i .i64 0] ++ List.replicate 32 (.i .i64 0))), aO 5 (.mv (.v (.c (.b false))))]
def fmap_Index_c0 : ACode := .ops fmap_Index_o0
def fmap_Index_o1 : List AOper := [aO 8 (.fAddr (.t 3) 0), aO 9 (.load1 (.t 8)), aO 10 (.bin .neq (.t 9) (.v (.c (.i .i64 2)))), aO 11 (.mv (.t 10)), { dst := some 12, op := .fAddr (.t 2) 0, guard := some (11, false) }, { dst := some 13, op := .loadN 3 (.t 12), guard := some (11, false) }, { dst := some 14, op := .fAddr (.t 3) 4, guard := some (11, false) }, { dst := some 15, op := .iAddrA 6 1 (.t 14) (.v (.c (.i .i64 0))), guard := some (11, false) }, { dst := some 16, op := .load1 (.t 15), guard := some (11, false) }, { dst := some 17, op := .call 25 [(.t 13), (.t 16)], guard := some (11, false) }, { dst := some 18, op := .un .not (.t 17), guard := some (11, false) }, aO 19 (.pick (.t 11) (.v (.c (.b true))) (.t 18))]
def fmap_Index_c1 : ACode := .ops fmap_Index_o1
def fmap_Index_o2 : List AOper := [aO 20 (.build ([.i .i64 0] ++ List.replicate 32 (.i .i64 0)) []), { dst := none, op := .storeN 33 (.t 4) (.t 20) }, aO 5 (.mv (.v (.c (.b false))))]
def fmap_Index_c2 : ACode := .ops fmap_Index_o2
def fmap_Index_c3 : ACode := .seq [4, 5] fmap_Index_c2 .ret
def fmap_Index_c4 : ACode := .cond (.t 19) fmap_Index_c3 .skip
def fmap_Index_c5 : ACode := .seq [2, 3, 4, 19] fmap_Index_c1 fmap_Index_c4
def fmap_Index_o3 : List AOper := [aO 22 (.loadN 4 (.t 2)), aO 23 (.fAddr (.t 3) 4), aO 24 (.iAddrA 6 1 (.t 23) (.v (.c (.i .i64 0)))), aO 25 (.load1 (.t 24)), aO 26 (.call 38 [(.t 22), (.t 25)]), aO 27 (.call 78 [(.t 26)]), aO 21 (.mv (.t 27)), aO 28 (.ext (.t 21) 0), aO 29 (.ext (.t 21) 1), aO 6 (.alloc ([.i .i64 0] ++ List.replicate 32 (.i .i64 0))), { dst := none, op := .storeN 33 (.t 6) (.t 28) }, aO 7 (.mv (.t 29))]
def fmap_Index_c6 : ACode := .ops fmap_Index_o3
def fmap_Index_o4 : List AOper := [aO 30 (.loadN 33 (.t 6)), aO 31 (.mv (.t 7)), aO 32 (.bin .eql (.t 31) (.v (.c (.i .i64 0)))), { dst := none, op := .storeN 33 (.t 4) (.t 30) }, aO 5 (.mv (.t 32))]
def fmap_Index_c7 : ACode := .ops fmap_Index_o4
def fmap_Index_c8 : ACode := .seq [4, 5] fmap_Index_c7 .ret
def fmap_Index_c9 : ACode := .seq [4, 6, 7] fmap_Index_c6 fmap_Index_c8
def fmap_Index_c10 : ACode := .seq [2, 3, 4] fmap_Index_c5 fmap_Index_c9
def fmap_Index_c11 : ACode := .seq [2, 3, 4] fmap_Index_c0 fmap_Index_c10
def A_fmap_Index : AFn := ⟨fmap_Index_c11, [.cellN 4 33, .tmp 5]⟩
def E_fmap_Index : Sums := disp 25 S_geom_IsData (disp 38 S_view_View_Block__Of_1 (disp 78 S_index_Get disp0))
def fmap_Index_c0_d (n : Nat) : SmV := smOps E_fmap_Index fmap_Index_o0
def fmap_Index_c1_d (n : Nat) : SmV := smOps E_fmap_Index fmap_Index_o1
def fmap_Index_c2_d (n : Nat) : SmV := smOps E_fmap_Index fmap_Index_o2
def fmap_Index_c3_d (n : Nat) : SmV := smSeq [4, 5] (fmap_Index_c2_d n) smRet
def fmap_Index_c4_d (n : Nat) : SmV := smCond (.t 19) (fmap_Index_c3_d n) smSkip
def fmap_Index_c5_d (n : Nat) : SmV := smSeq [2, 3, 4, 19] (fmap_Index_c1_d n) (fmap_Index_c4_d n)
def fmap_Index_c6_d (n : Nat) : SmV := smOps E_fmap_Index fmap_Index_o3
def fmap_Index_c7_d (n : Nat) : SmV := smOps E_fmap_Index fmap_Index_o4
def fmap_Index_c8_d (n : Nat) : SmV := smSeq [4, 5] (fmap_Index_c7_d n) smRet
def fmap_Index_c9_d (n : Nat) : SmV := smSeq [4, 6, 7] (fmap_Index_c6_d n) (fmap_Index_c8_d n)
def fmap_Index_c10_d (n : Nat) : SmV := smSeq [2, 3, 4] (fmap_Index_c5_d n) (fmap_Index_c9_d n)
def fmap_Index_c11_d (n : Nat) : SmV := smSeq [2, 3, 4] (fmap_Index_c0_d n) (fmap_Index_c10_d n)
def R_fmap_Index (n : Nat) (args : List Val) (h : Heap) : OptV := (fmap_Index_c11_d n) A_fmap_Index.fin (params 0 args) h
theorem R_fmap_Index_eq (n : Nat) (a0 a1 : Val) (h : Heap) : R_fmap_Index n [a0, a1] h = bnd (cells? a0) fun c1 => bnd (cells? a1) fun c2 => bnd (afAddr ((.c (.p ((h ++ [some (Row.mk (c1) true)])).length 0))) 0) fun v3 => bnd (aload1 ((((h ++ [some (Row.mk (c1) true)]) ++ [some (Row.mk (c2) true)]) ++ [some (Row.mk ([.i .i64 0] ++ List.replicate 32 (.i .i64 0)) true)])) v3) fun v4 => bnd (abin .neq v4 (.c (.i .i64 2))) fun v5 => bnd (gd v5 false (bnd (afAddr ((.c (.p h.length 0))) 0) fun v6 => some (v6, (((h ++ [some (Row.mk (c1) true)]) ++ [some (Row.mk (c2) true)]) ++ [some (Row.mk ([.i .i64 0] ++ List.replicate 32 (.i .i64 0)) true)]))) (some (.no, (((h ++ [some (Row.mk (c1) true)]) ++ [some (Row.mk (c2) true)]) ++ [some (Row.mk ([.i .i64 0] ++ List.replicate 32 (.i .i64 0)) true)])))) fun p7 => bnd (gd v5 false (bnd (aloadN p7.2 3 p7.1) fun v8 => some (v8, p7.2)) (some (.no, p7.2))) fun p9 => bnd (gd v5 false (bnd (afAddr ((.c (.p ((h ++ [some (Row.mk (c1) true)])).length 0))) 4) fun v10 => some (v10, p9.2)) (some (.no, p9.2))) fun p11 => bnd (gd v5 false (bnd (aiAddrA 6 1 p11.1 (.c (.i .i64 0))) fun v12 => some (v12, p11.2)) (some (.no, p11.2))) fun p13 => bnd (gd v5 false (bnd (aload1 p13.2 p13.1) fun v14 => some (v14, p13.2)) (some (.no, p13.2))) fun p15 => bnd (gd v5 false (bnd (S_geom_IsData [p9.1, p15.1] p15.2) fun p16 => some (p16.1, p16.2)) (some (.no, p15.2))) fun p17 => bnd (gd v5 false (bnd (aun .not p17.1) fun v18 => some (v18, p17.2)) (some (.no, p17.2))) fun p19 => bnd (apick v5 (.c (.b true)) p19.1) fun v20 => cnd v20 (bnd (afill ([.i .i64 0] ++ List.replicate 32 (.i .i64 0)) []) fun c21 => bnd (astoreN p19.2 33 ((.c (.p (((h ++ [some (Row.mk (c1) true)]) ++ [some (Row.mk (c2) true)])).length 0))) ((.a c21))) fun h22 => tupN [aloadN h22 33 ((.c (.p (((h ++ [some (Row.mk (c1) true)]) ++ [some (Row.mk (c2) true)])).length 0))), some (.c (.b false))] h22) (bnd (aloadN p19.2 4 ((.c (.p h.length 0)))) fun v23 => bnd (afAddr ((.c (.p ((h ++ [some (Row.mk (c1) true)])).length 0))) 4) fun v24 => bnd (aiAddrA 6 1 v24 (.c (.i .i64 0))) fun v25 => bnd (aload1 p19.2 v25) fun v26 => bnd (S_view_View_Block__Of_1 [v23, v26] p19.2) fun p27 => bnd (S_index_Get [p27.1] p27.2) fun p28 => bnd (aext p28.1 0) fun v29 => bnd (aext p28.1 1) fun v30 => bnd (astoreN ((p28.2 ++ [some (Row.mk ([.i .i64 0] ++ List.replicate 32 (.i .i64 0)) true)])) 33 ((.c (.p p28.2.length 0))) v29) fun h31 => bnd (aloadN h31 33 ((.c (.p p28.2.length 0)))) fun v32 => bnd (abin .eql v30 (.c (.i .i64 0))) fun v33 => bnd (astoreN h31 33 ((.c (.p (((h ++ [some (Row.mk (c1) true)]) ++ [some (Row.mk (c2) true)])).length 0))) v32) fun h34 => tupN [aloadN h34 33 ((.c (.p (((h ++ [some (Row.mk (c1) true)]) ++ [some (Row.mk (c2) true)])).length 0))), some v33] h34) := by kernel_rfl
theorem K_fmap_Index : FnK Try.prog 42 A_fmap_Index E_fmap_Index R_fmap_Index := .mk' (sound1 S_geom_IsData_ok (sound1 S_view_View_Block__Of_1_ok (sound1 S_index_Get_ok sound0))) Try.func42 (by kernel_rfl) (by intro n args h; kernel_rfl)
def S_fmap_Index : Fun := tidy (Lim A_fmap_Index E_fmap_Index)
theorem S_fmap_Index_ok : SOk Try.prog 42 S_fmap_Index := K_fmap_Index.sok
theorem S_fmap_Index_flat {n : Nat} {args : List Val} {h h2 : Heap} {v : Val} (he : R_fmap_Index n args (ro h) = some (v, h2)) (hf : v.flat = true) : S_fmap_Index args h = some (v, h) := K_fmap_Index.flat he hf
def fmap_Buckets_o0 : List AOper := [aO 2 (.box (.t 0)), aO 3 (.box (.t 1)), aO 4 (.nilrow 1)]
def fmap_Buckets_c0 : ACode := .ops fmap_Buckets_o0
def fmap_Buckets_o1 : List AOper := [aO 11 (.loadN 4 (.t 2)), aO 12 (.loadN 11 (.t 3)), aO 13 (.call 42 [(.t 11), (.t 12)]), aO 10 (.mv (.t 13)), aO 14 (.ext (.t 10) 0), aO 15 (.ext (.t 10) 1), aO 5 (.alloc ([.i .i64 0] ++ List.replicate 32 (.i .i64 0))), { dst := none, op := .storeN 33 (.t 5) (.t 14) }, aO 6 (.mv (.t 15))]
def fmap_Buckets_c1 : ACode := .ops fmap_Buckets_o1
def fmap_Buckets_o2 : List AOper := [aO 16 (.mv (.t 6)), aO 17 (.un .not (.t 16))]
def fmap_Buckets_c2 : ACode := .ops fmap_Buckets_o2
def fmap_Buckets_o3 : List AOper := [aO 4 (.nilrow 1)]
def fmap_Buckets_c3 : ACode := .ops fmap_Buckets_o3
def fmap_Buckets_c4 : ACode := .seq [4] fmap_Buckets_c3 .ret
def fmap_Buckets_c5 : ACode := .cond (.t 17) fmap_Buckets_c4 .skip
def fmap_Buckets_c6 : ACode := .seq [2, 5, 17] fmap_Buckets_c2 fmap_Buckets_c5
def fmap_Buckets_o4 : List AOper := [aO 7 (.nilrow 1)]
def fmap_Buckets_c7 : ACode := .ops fmap_Buckets_o4
def fmap_Buckets_o5 : List AOper := [aO 18 (.loadN 33 (.t 5)), aO 19 (.call 82 [(.t 18)]), aO 20 (.len (.t 19)), aO 21 (.mv (.v (.c (.i .i64 0))))]
def fmap_Buckets_c8 : ACode := .ops fmap_Buckets_o5
def fmap_Buckets_o6 : List AOper := [aO 22 (.bin .lss (.t 21) (.t 20))]
def fmap_Buckets_c9 : ACode := .ops fmap_Buckets_o6
def fmap_Buckets_c10 : ACode := .cond (.t 22) .skip (.exit 0)
def fmap_Buckets_o7 : List AOper := [aO 23 (.iAddrL 1 (.t 19) (.t 21)), aO 24 (.load1 (.t 23)), aO 9 (.mv (.t 24))]
def fmap_Buckets_c11 : ACode := .ops fmap_Buckets_o7
def fmap_Buckets_o8 : List AOper := [aO 25 (.fAddr (.t 2) 0), aO 26 (.loadN 3 (.t 25)), aO 27 (.mv (.t 9)), aO 28 (.call 25 [(.t 26), (.t 27)])]
def fmap_Buckets_c12 : ACode := .ops fmap_Buckets_o8
def fmap_Buckets_o9 : List AOper := [aO 29 (.mv (.t 7)), aO 30 (.mv (.t 9)), aO 31 (.buildSl 1 1 ([.i .i64 0]) [(0, 1, (.t 30))]), aO 32 (.app 1 (.t 29) (.t 31)), aO 7 (.mv (.t 32))]
def fmap_Buckets_c13 : ACode := .ops fmap_Buckets_o9
def fmap_Buckets_c14 : ACode := .cond (.t 28) fmap_Buckets_c13 .skip
def fmap_Buckets_c15 : ACode := .seq [2, 7, 9, 19, 20, 21, 28] fmap_Buckets_c12 fmap_Buckets_c14
def fmap_Buckets_c16 : ACode := .seq [2, 7, 9, 19, 20, 21] fmap_Buckets_c11 fmap_Buckets_c15
def fmap_Buckets_c17 : ACode := .block 1 fmap_Buckets_c16
def fmap_Buckets_o10 : List AOper := [aO 33 (.bin .add (.t 21) (.v (.c (.i .i64 1)))), aO 21 (.mv (.t 33))]
def fmap_Buckets_c18 : ACode := .ops fmap_Buckets_o10
def fmap_Buckets_c19 : ACode := .seq [2, 7, 19, 20, 21] fmap_Buckets_c17 fmap_Buckets_c18
def fmap_Buckets_c20 : ACode := .seq [2, 7, 19, 20, 21] fmap_Buckets_c10 fmap_Buckets_c19
def fmap_Buckets_c21 : ACode := .seq [2, 7, 19, 20, 21, 22] fmap_Buckets_c9 fmap_Buckets_c20
def fmap_Buckets_c22 : ACode := .loop [2, 7, 19, 20, 21] fmap_Buckets_c21
def fmap_Buckets_c23 : ACode := .block 0 fmap_Buckets_c22
def fmap_Buckets_c24 : ACode := .seq [2, 7, 19, 20, 21] fmap_Buckets_c8 fmap_Buckets_c23
def fmap_Buckets_o11 : List AOper := [aO 34 (.mv (.t 7)), aO 4 (.mv (.t 34))]
def fmap_Buckets_c25 : ACode := .ops fmap_Buckets_o11
def fmap_Buckets_c26 : ACode := .seq [4] fmap_Buckets_c25 .ret
def fmap_Buckets_c27 : ACode := .seq [7] fmap_Buckets_c24 fmap_Buckets_c26
def fmap_Buckets_c28 : ACode := .seq [2, 5, 7] fmap_Buckets_c7 fmap_Buckets_c27
def fmap_Buckets_c29 : ACode := .seq [2, 5] fmap_Buckets_c6 fmap_Buckets_c28
def fmap_Buckets_c30 : ACode := .seq [2, 5, 6] fmap_Buckets_c1 fmap_Buckets_c29
def fmap_Buckets_c31 : ACode := .seq [2, 3] fmap_Buckets_c0 fmap_Buckets_c30
def A_fmap_Buckets : AFn := ⟨fmap_Buckets_c31, [.tmp 4]⟩
def E_fmap_Buckets : Sums := disp 42 S_fmap_Index (disp 82 S_index_Buckets (disp 25 S_geom_IsData disp0))
def fmap_Buckets_c0_d (n : Nat) : SmV := smOps E_fmap_Buckets fmap_Buckets_o0
def fmap_Buckets_c1_d (n : Nat) : SmV := smOps E_fmap_Buckets fmap_Buckets_o1
def fmap_Buckets_c2_d (n : Nat) : SmV := smOps E_fmap_Buckets fmap_Buckets_o2
def fmap_Buckets_c3_d (n : Nat) : SmV := smOps E_fmap_Buckets fmap_Buckets_o3
def fmap_Buckets_c4_d (n : Nat) : SmV := smSeq [4] (fmap_Buckets_c3_d n) smRet
def fmap_Buckets_c5_d (n : Nat) : SmV := smCond (.t 17) (fmap_Buckets_c4_d n) smSkip
def fmap_Buckets_c6_d (n : Nat) : SmV := smSeq [2, 5, 17] (fmap_Buckets_c2_d n) (fmap_Buckets_c5_d n)
def fmap_Buckets_c7_d (n : Nat) : SmV := smOps E_fmap_Buckets fmap_Buckets_o4
def fmap_Buckets_c8_d (n : Nat) : SmV := smOps E_fmap_Buckets fmap_Buckets_o5
def fmap_Buckets_c9_d (n : Nat) : SmV := smOps E_fmap_Buckets fmap_Buckets_o6
def fmap_Buckets_c10_d (n : Nat) : SmV := smCond (.t 22) smSkip (smExit 0)
def fmap_Buckets_c11_d (n : Nat) : SmV := smOps E_fmap_Buckets fmap_Buckets_o7
def fmap_Buckets_c12_d (n : Nat) : SmV := smOps E_fmap_Buckets fmap_Buckets_o8
def fmap_Buckets_c13_d (n : Nat) : SmV := smOps E_fmap_Buckets fmap_Buckets_o9
def fmap_Buckets_c14_d (n : Nat) : SmV := smCond (.t 28) (fmap_Buckets_c13_d n) smSkip
def fmap_Buckets_c15_d (n : Nat) : SmV := smSeq [2, 7, 9, 19, 20, 21, 28] (fmap_Buckets_c12_d n) (fmap_Buckets_c14_d n)
def fmap_Buckets_c16_d (n : Nat) : SmV := smSeq [2, 7, 9, 19, 20, 21] (fmap_Buckets_c11_d n) (fmap_Buckets_c15_d n)
def fmap_Buckets_c17_d (n : Nat) : SmV := smBlock 1 (fmap_Buckets_c16_d n)
def fmap_Buckets_c18_d (n : Nat) : SmV := smOps E_fmap_Buckets fmap_Buckets_o10
def fmap_Buckets_c19_d (n : Nat) : SmV := smSeq [2, 7, 19, 20, 21] (fmap_Buckets_c17_d n) (fmap_Buckets_c18_d n)
def fmap_Buckets_c20_d (n : Nat) : SmV := smSeq [2, 7, 19, 20, 21] (fmap_Buckets_c10_d n) (fmap_Buckets_c19_d n)
def fmap_Buckets_c21_d (n : Nat) : SmV := smSeq [2, 7, 19, 20, 21, 22] (fmap_Buckets_c9_d n) (fmap_Buckets_c20_d n)
def fmap_Buckets_c22_d (n : Nat) : SmV := smLoop n [2, 7, 19, 20, 21] (fmap_Buckets_c21_d n)
def fmap_Buckets_c23_d (n : Nat) : SmV := smBlock 0 (fmap_Buckets_c22_d n)
def fmap_Buckets_c24_d (n : Nat) : SmV := smSeq [2, 7, 19, 20, 21] (fmap_Buckets_c8_d n) (fmap_Buckets_c23_d n)
def fmap_Buckets_c25_d (n : Nat) : SmV := smOps E_fmap_Buckets fmap_Buckets_o11
def fmap_Buckets_c26_d (n : Nat) : SmV := smSeq [4] (fmap_Buckets_c25_d n) smRet
def fmap_Buckets_c27_d (n : Nat) : SmV := smSeq [7] (fmap_Buckets_c24_d n) (fmap_Buckets_c26_d n)
def fmap_Buckets_c28_d (n : Nat) : SmV := smSeq [2, 5, 7] (fmap_Buckets_c7_d n) (fmap_Buckets_c27_d n)
def fmap_Buckets_c29_d (n : Nat) : SmV := smSeq [2, 5] (fmap_Buckets_c6_d n) (fmap_Buckets_c28_d n)
def fmap_Buckets_c30_d (n : Nat) : SmV := smSeq [2, 5, 6] (fmap_Buckets_c1_d n) (fmap_Buckets_c29_d n)
def fmap_Buckets_c31_d (n : Nat) : SmV := smSeq [2, 3] (fmap_Buckets_c0_d n) (fmap_Buckets_c30_d n)
def fmap_Buckets_k0 (n : Nat) : AExit → Env → Heap → OptV := fun x e h => match x with | .normal => hold ((fmap_Buckets_c26_d n) A_fmap_Buckets.fin (e.keep [7]) h) | .exit id => A_fmap_Buckets.fin (.exit id) e h | .ret => A_fmap_Buckets.fin .ret e h
def fmap_Buckets_k1 (n : Nat) : AExit → Env → Heap → OptV := fun x e h => match x with | .exit i => bif Nat.beq i 0 then (fmap_Buckets_k0 n) .normal e h else (fmap_Buckets_k0 n) (.exit i) e h | .normal => (fmap_Buckets_k0 n) .normal e h | .ret => (fmap_Buckets_k0 n) .ret e h
def fmap_Buckets_l0 (n m : Nat) (x2 x7 x19 x20 x21 : Val) (h : Heap) : OptV := around (fmap_Buckets_c21_d n) [2, 7, 19, 20, 21] (fmap_Buckets_k1 n) m [(2, x2), (7, x7), (19, x19), (20, x20), (21, x21)] h
def R_fmap_Buckets (n : Nat) (args : List Val) (h : Heap) : OptV := (fmap_Buckets_c31_d n) A_fmap_Buckets.fin (params 0 args) h
def fmap_Buckets_k2 (n m : Nat) : AExit → Env → Heap → OptV := fun x e h => match x with | .normal => around (fmap_Buckets_c21_d n) [2, 7, 19, 20, 21] (fmap_Buckets_k1 n) m (e.keep [2, 7, 19, 20, 21]) h | .exit id => (fmap_Buckets_k1 n) (.exit id) e h | .ret => (fmap_Buckets_k1 n) .ret e h
def fmap_Buckets_j0 (n m : Nat) (x2 x7 x19 x20 x21 : Val) (h : Heap) : OptV := hold ((fmap_Buckets_c18_d n) (fmap_Buckets_k2 n m) [(2, x2), (7, x7), (19, x19), (20, x20), (21, x21)] h)
theorem R_fmap_Buckets_eq (n : Nat) (a0 a1 : Val) (h : Heap) : R_fmap_Buckets n [a0, a1] h = bnd (cells? a0) fun c1 => bnd (cells? a1) fun c2 => bnd (aloadN ((((h ++ [some (Row.mk (c1) true)]) ++ [some (Row.mk (c2) true)]) ++ [some (Row.mk ([]) true)])) 4 ((.c (.p h.length 0)))) fun v3 => bnd (aloadN ((((h ++ [some (Row.mk (c1) true)]) ++ [some (Row.mk (c2) true)]) ++ [some (Row.mk ([]) true)])) 11 ((.c (.p ((h ++ [some (Row.mk (c1) true)])).length 0)))) fun v4 => bnd (S_fmap_Index [v3, v4] ((((h ++ [some (Row.mk (c1) true)]) ++ [some (Row.mk (c2) true)]) ++ [some (Row.mk ([]) true)]))) fun p5 => bnd (aext p5.1 0) fun v6 => bnd (aext p5.1 1) fun v7 => bnd (astoreN ((p5.2 ++ [some (Row.mk ([.i .i64 0] ++ List.replicate 32 (.i .i64 0)) true)])) 33 ((.c (.p p5.2.length 0))) v6) fun h8 => bnd (aun .not v7) fun v9 => cnd v9 (some (((.c (.sl h8.length 0 0 1))), (h8 ++ [some (Row.mk ([]) true)]))) (bnd (aloadN ((h8 ++ [some (Row.mk ([]) true)])) 33 ((.c (.p p5.2.length 0)))) fun v10 => bnd (S_index_Buckets [v10] ((h8 ++ [some (Row.mk ([]) true)]))) fun p11 => bnd (alen p11.1) fun v12 => fmap_Buckets_l0 n n ((.c (.p h.length 0))) ((.c (.sl h8.length 0 0 1))) p11.1 v12 (.c (.i .i64 0)) p11.2) := by kernel_rfl
theorem fmap_Buckets_l0_eq (n m : Nat) (x2 x7 x19 x20 x21 : Val) (h : Heap) : fmap_Buckets_l0 n (m + 1) x2 x7 x19 x20 x21 h = bnd (abin .lss x21 x20) fun v13 => cnd v13 (bnd (aiAddrL 1 x19 x21) fun v14 => bnd (aload1 h v14) fun v15 => bnd (afAddr x2 0) fun v16 => bnd (aloadN h 3 v16) fun v17 => bnd (S_geom_IsData [v17, v15] h) fun p18 => cnd p18.1 (bnd (afill ([.i .i64 0]) [(0, 1, v15)]) fun c19 => bnd (aapp ((p18.2 ++ [some (Row.mk (c19) true)])) 1 x7 ((.c (.sl p18.2.length 0 1 1)))) fun p20 => fmap_Buckets_j0 n m x2 p20.1 x19 x20 x21 p20.2) (fmap_Buckets_j0 n m x2 x7 x19 x20 x21 p18.2)) (some (x7, h)) := by kernel_rfl
theorem fmap_Buckets_j0_eq (n m : Nat) (x2 x7 x19 x20 x21 : Val) (h : Heap) : fmap_Buckets_j0 n m x2 x7 x19 x20 x21 h = bnd (abin .add x21 (.c (.i .i64 1))) fun v21 => fmap_Buckets_l0 n m x2 x7 x19 x20 v21 h := by kernel_rfl
theorem K_fmap_Buckets : FnK Try.prog 44 A_fmap_Buckets E_fmap_Buckets R_fmap_Buckets := .mk' (sound1 S_fmap_Index_ok (sound1 S_index_Buckets_ok (sound1 S_geom_IsData_ok sound0))) Try.func44 (by kernel_rfl) (by intro n args h; kernel_rfl)
def S_fmap_Buckets : Fun := tidy (Lim A_fmap_Buckets E_fmap_Buckets)
theorem S_fmap_Buckets_ok : SOk Try.prog 44 S_fmap_Buckets := K_fmap_Buckets.sok
theorem S_fmap_Buckets_out {n : Nat} {args : List Val} {h h2 : Heap} {v : Val} {sz k : Nat} {cs : List Cell} (he : R_fmap_Buckets n args (ro h) = some (v, h2)) (ho : Out h.length h2 v sz k cs) (hf : flats cs = true) : S_fmap_Buckets args h = some (.c (.sl h.length 0 k sz), h ++ [some ⟨cs, true⟩]) := K_fmap_Buckets.out he ho hf
def fmap_Owns_1_o0 : List AOper := [aO 4 (.load1 (.t 0)), aO 5 (.un .not (.t 4)), aO 6 (.mv (.t 5)), { dst := some 7, op := .fAddr (.t 1) 0, guard := some (6, true) }, { dst := some 8, op := .load1 (.t 7), guard := some (6, true) }, { dst := some 9, op := .bin .eql (.t 8) (.v (.c (.i .i64 1))), guard := some (6, true) }, aO 10 (.pick (.t 6) (.t 9) (.v (.c (.b false)))), aO 11 (.mv (.t 10)), { dst := some 12, op := .fAddr (.t 2) 0, guard := some (11, true) }, { dst := some 13, op := .loadN 3 (.t 12), guard := some (11, true) }, { dst := some 14, op := .fAddr (.t 1) 10, guard := some (11, true) }, { dst := some 15, op := .load1 (.t 14), guard := some (11, true) }, { dst := some 16, op := .call 25 [(.t 13), (.t 15)], guard := some (11, true) }, aO 17 (.pick (.t 11) (.t 16) (.v (.c (.b false))))]
def fmap_Owns_1_c0 : ACode := .ops fmap_Owns_1_o0
def fmap_Owns_1_o1 : List AOper := [aO 18 (.load1 (.t 3)), aO 19 (.fAddr (.t 1) 10), aO 20 (.load1 (.t 19)), aO 21 (.buildSl 1 1 ([.i .i64 0]) [(0, 1, (.t 20))]), aO 22 (.app 1 (.t 18) (.t 21)), { dst := none, op := .store1 (.t 3) (.t 22) }]
def fmap_Owns_1_c1 : ACode := .ops fmap_Owns_1_o1
def fmap_Owns_1_c2 : ACode := .cond (.t 17) fmap_Owns_1_c1 .skip
def fmap_Owns_1_c3 : ACode := .seq [0, 1, 3, 17] fmap_Owns_1_c0 fmap_Owns_1_c2
def fmap_Owns_1_o2 : List AOper := [{ dst := none, op := .store1 (.t 0) (.v (.c (.b true))) }]
def fmap_Owns_1_c4 : ACode := .ops fmap_Owns_1_o2
def fmap_Owns_1_c5 : ACode := .seq [0] fmap_Owns_1_c3 fmap_Owns_1_c4
def A_fmap_Owns_1 : AFn := ⟨fmap_Owns_1_c5, []⟩
def E_fmap_Owns_1 : Sums := disp 25 S_geom_IsData disp0
def fmap_Owns_1_c0_d (n : Nat) : SmV := smOps E_fmap_Owns_1 fmap_Owns_1_o0
def fmap_Owns_1_c1_d (n : Nat) : SmV := smOps E_fmap_Owns_1 fmap_Owns_1_o1
def fmap_Owns_1_c2_d (n : Nat) : SmV := smCond (.t 17) (fmap_Owns_1_c1_d n) smSkip
def fmap_Owns_1_c3_d (n : Nat) : SmV := smSeq [0, 1, 3, 17] (fmap_Owns_1_c0_d n) (fmap_Owns_1_c2_d n)
def fmap_Owns_1_c4_d (n : Nat) : SmV := smOps E_fmap_Owns_1 fmap_Owns_1_o2
def fmap_Owns_1_c5_d (n : Nat) : SmV := smSeq [0] (fmap_Owns_1_c3_d n) (fmap_Owns_1_c4_d n)
def fmap_Owns_1_j0 (n : Nat) (x0 : Val) (h : Heap) : OptV := hold ((fmap_Owns_1_c4_d n) A_fmap_Owns_1.fin [(0, x0)] h)
def R_fmap_Owns_1 (n : Nat) (args : List Val) (h : Heap) : OptV := (fmap_Owns_1_c5_d n) A_fmap_Owns_1.fin (params 0 args) h
theorem R_fmap_Owns_1_eq (n : Nat) (a0 a1 a2 a3 : Val) (h : Heap) : R_fmap_Owns_1 n [a0, a1, a2, a3] h = bnd (aload1 h a0) fun v1 => bnd (aun .not v1) fun v2 => bnd (gd v2 true (bnd (afAddr a1 0) fun v3 => some (v3, h)) (some (.no, h))) fun p4 => bnd (gd v2 true (bnd (aload1 p4.2 p4.1) fun v5 => some (v5, p4.2)) (some (.no, p4.2))) fun p6 => bnd (gd v2 true (bnd (abin .eql p6.1 (.c (.i .i64 1))) fun v7 => some (v7, p6.2)) (some (.no, p6.2))) fun p8 => bnd (apick v2 p8.1 (.c (.b false))) fun v9 => bnd (gd v9 true (bnd (afAddr a2 0) fun v10 => some (v10, p8.2)) (some (.no, p8.2))) fun p11 => bnd (gd v9 true (bnd (aloadN p11.2 3 p11.1) fun v12 => some (v12, p11.2)) (some (.no, p11.2))) fun p13 => bnd (gd v9 true (bnd (afAddr a1 10) fun v14 => some (v14, p13.2)) (some (.no, p13.2))) fun p15 => bnd (gd v9 true (bnd (aload1 p15.2 p15.1) fun v16 => some (v16, p15.2)) (some (.no, p15.2))) fun p17 => bnd (gd v9 true (bnd (S_geom_IsData [p13.1, p17.1] p17.2) fun p18 => some (p18.1, p18.2)) (some (.no, p17.2))) fun p19 => bnd (apick v9 p19.1 (.c (.b false))) fun v20 => cnd v20 (bnd (aload1 p19.2 a3) fun v21 => bnd (afAddr a1 10) fun v22 => bnd (aload1 p19.2 v22) fun v23 => bnd (afill ([.i .i64 0]) [(0, 1, v23)]) fun c24 => bnd (aapp ((p19.2 ++ [some (Row.mk (c24) true)])) 1 v21 ((.c (.sl p19.2.length 0 1 1)))) fun p25 => bnd (astore1 p25.2 a3 p25.1) fun h26 => fmap_Owns_1_j0 n a0 h26) (fmap_Owns_1_j0 n a0 p19.2) := by kernel_rfl
theorem fmap_Owns_1_j0_eq (n : Nat) (x0 : Val) (h : Heap) : fmap_Owns_1_j0 n x0 h = bnd (astore1 h x0 (.c (.b true))) fun h27 => tupN [] h27 := by kernel_rfl
theorem K_fmap_Owns_1 : FnK Try.prog 59 A_fmap_Owns_1 E_fmap_Owns_1 R_fmap_Owns_1 := .mk' (sound1 S_geom_IsData_ok sound0) Try.func59 (by kernel_rfl) (by intro n args h; kernel_rfl)
def S_fmap_Owns_1 : Fun := Lim A_fmap_Owns_1 E_fmap_Owns_1
theorem S_fmap_Owns_1_ok : SOk Try.prog 59 S_fmap_Owns_1 := K_fmap_Owns_1.ok
theorem S_fmap_Owns_1_of {n : Nat} {args : List Val} {h : Heap} {p : Val × Heap} (he : R_fmap_Owns_1 n args h = some p) : S_fmap_Owns_1 args h = some p := K_fmap_Owns_1.of he
def fmap_Owns_2__Owns_1_o0 : List AOper := [aO 6 (.mv (.t 0)), aO 7 (.bin .geq (.t 6) (.v (.c (.i .i64 6))))]
def fmap_Owns_2__Owns_1_c0 : ACode := .ops fmap_Owns_2__Owns_1_o0
def fmap_Owns_2__Owns_1_o1 : List AOper := [aO 8 (.load1 (.t 2)), aO 9 (.callV (.t 8) [])]
def fmap_Owns_2__Owns_1_c1 : ACode := .ops fmap_Owns_2__Owns_1_o1
def fmap_Owns_2__Owns_1_c2 : ACode := .cond (.t 7) fmap_Owns_2__Owns_1_c1 .skip
def fmap_Owns_2__Owns_1_c3 : ACode := .seq [1, 2, 3, 7] fmap_Owns_2__Owns_1_c0 fmap_Owns_2__Owns_1_c2
def fmap_Owns_2__Owns_1_o2 : List AOper := [aO 10 (.load1 (.t 3)), aO 11 (.mv (.t 1)), aO 12 (.buildSl 1 1 ([.i .i64 0]) [(0, 1, (.t 11))]), aO 13 (.app 1 (.t 10) (.t 12)), { dst := none, op := .store1 (.t 3) (.t 13) }]
def fmap_Owns_2__Owns_1_c4 : ACode := .ops fmap_Owns_2__Owns_1_o2
def fmap_Owns_2__Owns_1_c5 : ACode := .seq [1, 3] fmap_Owns_2__Owns_1_c3 fmap_Owns_2__Owns_1_c4
def A_fmap_Owns_2__Owns_1 : AFn := ⟨fmap_Owns_2__Owns_1_c5, []⟩
def E_fmap_Owns_2__Owns_1 : Sums := disp 59 S_fmap_Owns_1 disp0
def fmap_Owns_2__Owns_1_c0_d (n : Nat) : SmV := smOps E_fmap_Owns_2__Owns_1 fmap_Owns_2__Owns_1_o0
def fmap_Owns_2__Owns_1_c1_d (n : Nat) : SmV := smOps E_fmap_Owns_2__Owns_1 fmap_Owns_2__Owns_1_o1
def fmap_Owns_2__Owns_1_c2_d (n : Nat) : SmV := smCond (.t 7) (fmap_Owns_2__Owns_1_c1_d n) smSkip
def fmap_Owns_2__Owns_1_c3_d (n : Nat) : SmV := smSeq [1, 2, 3, 7] (fmap_Owns_2__Owns_1_c0_d n) (fmap_Owns_2__Owns_1_c2_d n)
def fmap_Owns_2__Owns_1_c4_d (n : Nat) : SmV := smOps E_fmap_Owns_2__Owns_1 fmap_Owns_2__Owns_1_o2
def fmap_Owns_2__Owns_1_c5_d (n : Nat) : SmV := smSeq [1, 3] (fmap_Owns_2__Owns_1_c3_d n) (fmap_Owns_2__Owns_1_c4_d n)
def fmap_Owns_2__Owns_1_j0 (n : Nat) (x1 x3 : Val) (h : Heap) : OptV := hold ((fmap_Owns_2__Owns_1_c4_d n) A_fmap_Owns_2__Owns_1.fin [(1, x1), (3, x3)] h)
def R_fmap_Owns_2__Owns_1 (n : Nat) (args : List Val) (h : Heap) : OptV := (fmap_Owns_2__Owns_1_c5_d n) A_fmap_Owns_2__Owns_1.fin (params 0 args) h
theorem R_fmap_Owns_2__Owns_1_eq (n : Nat) (a0 a1 a2 a3 : Val) (h : Heap) : R_fmap_Owns_2__Owns_1 n [a0, a1, a2, a3] h = bnd (abin .geq a0 (.c (.i .i64 6))) fun v1 => cnd v1 (bnd (aload1 h a2) fun v2 => bnd (callv E_fmap_Owns_2__Owns_1 v2 [] h) fun p3 => fmap_Owns_2__Owns_1_j0 n a1 a3 p3.2) (fmap_Owns_2__Owns_1_j0 n a1 a3 h) := by kernel_rfl
theorem fmap_Owns_2__Owns_1_j0_eq (n : Nat) (x1 x3 : Val) (h : Heap) : fmap_Owns_2__Owns_1_j0 n x1 x3 h = bnd (aload1 h x3) fun v4 => bnd (afill ([.i .i64 0]) [(0, 1, x1)]) fun c5 => bnd (aapp ((h ++ [some (Row.mk (c5) true)])) 1 v4 ((.c (.sl h.length 0 1 1)))) fun p6 => bnd (astore1 p6.2 x3 p6.1) fun h7 => tupN [] h7 := by kernel_rfl
theorem K_fmap_Owns_2__Owns_1 : FnK Try.prog 61 A_fmap_Owns_2__Owns_1 E_fmap_Owns_2__Owns_1 R_fmap_Owns_2__Owns_1 := .mk' (sound1 S_fmap_Owns_1_ok sound0) Try.func61 (by kernel_rfl) (by intro n args h; kernel_rfl)
def S_fmap_Owns_2__Owns_1 : Fun := Lim A_fmap_Owns_2__Owns_1 E_fmap_Owns_2__Owns_1
theorem S_fmap_Owns_2__Owns_1_ok : SOk Try.prog 61 S_fmap_Owns_2__Owns_1 := K_fmap_Owns_2__Owns_1.ok
theorem S_fmap_Owns_2__Owns_1_of {n : Nat} {args : List Val} {h : Heap} {p : Val × Heap} (he : R_fmap_Owns_2__Owns_1 n args h = some p) : S_fmap_Owns_2__Owns_1 args h = some p := K_fmap_Owns_2__Owns_1.of he
def fmap_each__Owns_2_o0 : List AOper := [aO 3 (.box (.t 0)), aO 4 (.box (.t 1))]
def fmap_each__Owns_2_c0 : ACode := .ops fmap_each__Owns_2_o0
def fmap_each__Owns_2_o1 : List AOper := [aO 8 (.mv (.v (.c (.i .i64 0))))]
def fmap_each__Owns_2_c1 : ACode := .ops fmap_each__Owns_2_o1
def fmap_each__Owns_2_o2 : List AOper := [aO 9 (.bin .lss (.t 8) (.v (.c (.i .i64 134))))]
def fmap_each__Owns_2_c2 : ACode := .ops fmap_each__Owns_2_o2
def fmap_each__Owns_2_c3 : ACode := .cond (.t 9) .skip (.exit 0)
def fmap_each__Owns_2_o3 : List AOper := [aO 10 (.mv (.t 8)), aO 6 (.mv (.t 10))]
def fmap_each__Owns_2_c4 : ACode := .ops fmap_each__Owns_2_o3
def fmap_each__Owns_2_o4 : List AOper := [aO 11 (.loadN 4 (.t 3)), aO 12 (.loadN 11 (.t 4)), aO 13 (.mv (.t 6)), aO 14 (.call 28 [(.t 11), (.t 12), (.t 13)]), aO 7 (.mv (.t 14))]
def fmap_each__Owns_2_c5 : ACode := .ops fmap_each__Owns_2_o4
def fmap_each__Owns_2_o5 : List AOper := [aO 15 (.mv (.t 7)), aO 16 (.bin .neq (.t 15) (.v (.c (.i .i64 0))))]
def fmap_each__Owns_2_c6 : ACode := .ops fmap_each__Owns_2_o5
def fmap_each__Owns_2_o6 : List AOper := [aO 17 (.mv (.t 2)), aO 18 (.mv (.t 6)), aO 19 (.mv (.t 7)), aO 20 (.callV (.t 17) [(.t 18), (.t 19)])]
def fmap_each__Owns_2_c7 : ACode := .ops fmap_each__Owns_2_o6
def fmap_each__Owns_2_c8 : ACode := .cond (.t 16) fmap_each__Owns_2_c7 .skip
def fmap_each__Owns_2_c9 : ACode := .seq [2, 3, 4, 6, 7, 8, 16] fmap_each__Owns_2_c6 fmap_each__Owns_2_c8
def fmap_each__Owns_2_c10 : ACode := .seq [2, 3, 4, 6, 7, 8] fmap_each__Owns_2_c5 fmap_each__Owns_2_c9
def fmap_each__Owns_2_c11 : ACode := .seq [2, 3, 4, 6, 8] fmap_each__Owns_2_c4 fmap_each__Owns_2_c10
def fmap_each__Owns_2_c12 : ACode := .block 1 fmap_each__Owns_2_c11
def fmap_each__Owns_2_o7 : List AOper := [aO 21 (.bin .add (.t 8) (.v (.c (.i .i64 1)))), aO 8 (.mv (.t 21))]
def fmap_each__Owns_2_c13 : ACode := .ops fmap_each__Owns_2_o7
def fmap_each__Owns_2_c14 : ACode := .seq [2, 3, 4, 8] fmap_each__Owns_2_c12 fmap_each__Owns_2_c13
def fmap_each__Owns_2_c15 : ACode := .seq [2, 3, 4, 8] fmap_each__Owns_2_c3 fmap_each__Owns_2_c14
def fmap_each__Owns_2_c16 : ACode := .seq [2, 3, 4, 8, 9] fmap_each__Owns_2_c2 fmap_each__Owns_2_c15
def fmap_each__Owns_2_c17 : ACode := .loop [2, 3, 4, 8] fmap_each__Owns_2_c16
def fmap_each__Owns_2_c18 : ACode := .block 0 fmap_each__Owns_2_c17
def fmap_each__Owns_2_c19 : ACode := .seq [2, 3, 4, 8] fmap_each__Owns_2_c1 fmap_each__Owns_2_c18
def fmap_each__Owns_2_c20 : ACode := .seq [2, 3, 4] fmap_each__Owns_2_c0 fmap_each__Owns_2_c19
def A_fmap_each__Owns_2 : AFn := ⟨fmap_each__Owns_2_c20, []⟩
def E_fmap_each__Owns_2 : Sums := disp 28 S_fmap_At (disp 61 S_fmap_Owns_2__Owns_1 disp0)
def fmap_each__Owns_2_c0_d (n : Nat) : SmV := smOps E_fmap_each__Owns_2 fmap_each__Owns_2_o0
def fmap_each__Owns_2_c1_d (n : Nat) : SmV := smOps E_fmap_each__Owns_2 fmap_each__Owns_2_o1
def fmap_each__Owns_2_c2_d (n : Nat) : SmV := smOps E_fmap_each__Owns_2 fmap_each__Owns_2_o2
def fmap_each__Owns_2_c3_d (n : Nat) : SmV := smCond (.t 9) smSkip (smExit 0)
def fmap_each__Owns_2_c4_d (n : Nat) : SmV := smOps E_fmap_each__Owns_2 fmap_each__Owns_2_o3
def fmap_each__Owns_2_c5_d (n : Nat) : SmV := smOps E_fmap_each__Owns_2 fmap_each__Owns_2_o4
def fmap_each__Owns_2_c6_d (n : Nat) : SmV := smOps E_fmap_each__Owns_2 fmap_each__Owns_2_o5
def fmap_each__Owns_2_c7_d (n : Nat) : SmV := smOps E_fmap_each__Owns_2 fmap_each__Owns_2_o6
def fmap_each__Owns_2_c8_d (n : Nat) : SmV := smCond (.t 16) (fmap_each__Owns_2_c7_d n) smSkip
def fmap_each__Owns_2_c9_d (n : Nat) : SmV := smSeq [2, 3, 4, 6, 7, 8, 16] (fmap_each__Owns_2_c6_d n) (fmap_each__Owns_2_c8_d n)
def fmap_each__Owns_2_c10_d (n : Nat) : SmV := smSeq [2, 3, 4, 6, 7, 8] (fmap_each__Owns_2_c5_d n) (fmap_each__Owns_2_c9_d n)
def fmap_each__Owns_2_c11_d (n : Nat) : SmV := smSeq [2, 3, 4, 6, 8] (fmap_each__Owns_2_c4_d n) (fmap_each__Owns_2_c10_d n)
def fmap_each__Owns_2_c12_d (n : Nat) : SmV := smBlock 1 (fmap_each__Owns_2_c11_d n)
def fmap_each__Owns_2_c13_d (n : Nat) : SmV := smOps E_fmap_each__Owns_2 fmap_each__Owns_2_o7
def fmap_each__Owns_2_c14_d (n : Nat) : SmV := smSeq [2, 3, 4, 8] (fmap_each__Owns_2_c12_d n) (fmap_each__Owns_2_c13_d n)
def fmap_each__Owns_2_c15_d (n : Nat) : SmV := smSeq [2, 3, 4, 8] (fmap_each__Owns_2_c3_d n) (fmap_each__Owns_2_c14_d n)
def fmap_each__Owns_2_c16_d (n : Nat) : SmV := smSeq [2, 3, 4, 8, 9] (fmap_each__Owns_2_c2_d n) (fmap_each__Owns_2_c15_d n)
def fmap_each__Owns_2_c17_d (n : Nat) : SmV := smLoop n [2, 3, 4, 8] (fmap_each__Owns_2_c16_d n)
def fmap_each__Owns_2_c18_d (n : Nat) : SmV := smBlock 0 (fmap_each__Owns_2_c17_d n)
def fmap_each__Owns_2_c19_d (n : Nat) : SmV := smSeq [2, 3, 4, 8] (fmap_each__Owns_2_c1_d n) (fmap_each__Owns_2_c18_d n)
def fmap_each__Owns_2_c20_d (n : Nat) : SmV := smSeq [2, 3, 4] (fmap_each__Owns_2_c0_d n) (fmap_each__Owns_2_c19_d n)
def fmap_each__Owns_2_k0 (n : Nat) : AExit → Env → Heap → OptV := fun x e h => match x with | .exit i => bif Nat.beq i 0 then A_fmap_each__Owns_2.fin .normal e h else A_fmap_each__Owns_2.fin (.exit i) e h | .normal => A_fmap_each__Owns_2.fin .normal e h | .ret => A_fmap_each__Owns_2.fin .ret e h
def fmap_each__Owns_2_l0 (n m : Nat) (x2 x3 x4 x8 : Val) (h : Heap) : OptV := around (fmap_each__Owns_2_c16_d n) [2, 3, 4, 8] (fmap_each__Owns_2_k0 n) m [(2, x2), (3, x3), (4, x4), (8, x8)] h
def R_fmap_each__Owns_2 (n : Nat) (args : List Val) (h : Heap) : OptV := (fmap_each__Owns_2_c20_d n) A_fmap_each__Owns_2.fin (params 0 args) h
def fmap_each__Owns_2_k1 (n m : Nat) : AExit → Env → Heap → OptV := fun x e h => match x with | .normal => around (fmap_each__Owns_2_c16_d n) [2, 3, 4, 8] (fmap_each__Owns_2_k0 n) m (e.keep [2, 3, 4, 8]) h | .exit id => (fmap_each__Owns_2_k0 n) (.exit id) e h | .ret => (fmap_each__Owns_2_k0 n) .ret e h
def fmap_each__Owns_2_j0 (n m : Nat) (x2 x3 x4 x8 : Val) (h : Heap) : OptV := hold ((fmap_each__Owns_2_c13_d n) (fmap_each__Owns_2_k1 n m) [(2, x2), (3, x3), (4, x4), (8, x8)] h)
theorem R_fmap_each__Owns_2_eq (n : Nat) (a0 a1 a2 : Val) (h : Heap) : R_fmap_each__Owns_2 n [a0, a1, a2] h = bnd (cells? a0) fun c1 => bnd (cells? a1) fun c2 => fmap_each__Owns_2_l0 n n a2 ((.c (.p h.length 0))) ((.c (.p ((h ++ [some (Row.mk (c1) true)])).length 0))) (.c (.i .i64 0)) (((h ++ [some (Row.mk (c1) true)]) ++ [some (Row.mk (c2) true)])) := by kernel_rfl
theorem fmap_each__Owns_2_l0_eq (n m : Nat) (x2 x3 x4 x8 : Val) (h : Heap) : fmap_each__Owns_2_l0 n (m + 1) x2 x3 x4 x8 h = bnd (abin .lss x8 (.c (.i .i64 134))) fun v3 => cnd v3 (bnd (aloadN h 4 x3) fun v4 => bnd (aloadN h 11 x4) fun v5 => bnd (S_fmap_At [v4, v5, x8] h) fun p6 => bnd (abin .neq p6.1 (.c (.i .i64 0))) fun v7 => cnd v7 (bnd (callv E_fmap_each__Owns_2 x2 [x8, p6.1] p6.2) fun p8 => fmap_each__Owns_2_j0 n m x2 x3 x4 x8 p8.2) (fmap_each__Owns_2_j0 n m x2 x3 x4 x8 p6.2)) (tupN [] h) := by kernel_rfl
theorem fmap_each__Owns_2_j0_eq (n m : Nat) (x2 x3 x4 x8 : Val) (h : Heap) : fmap_each__Owns_2_j0 n m x2 x3 x4 x8 h = bnd (abin .add x8 (.c (.i .i64 1))) fun v9 => fmap_each__Owns_2_l0 n m x2 x3 x4 v9 h := by kernel_rfl
theorem K_fmap_each__Owns_2 : FnK Try.prog 60 A_fmap_each__Owns_2 E_fmap_each__Owns_2 R_fmap_each__Owns_2 := .mk' (sound1 S_fmap_At_ok (sound1 S_fmap_Owns_2__Owns_1_ok sound0)) Try.func60 (by kernel_rfl) (by intro n args h; kernel_rfl)
def S_fmap_each__Owns_2 : Fun := Lim A_fmap_each__Owns_2 E_fmap_each__Owns_2
theorem S_fmap_each__Owns_2_ok : SOk Try.prog 60 S_fmap_each__Owns_2 := K_fmap_each__Owns_2.ok
theorem S_fmap_each__Owns_2_of {n : Nat} {args : List Val} {h : Heap} {p : Val × Heap} (he : R_fmap_each__Owns_2 n args h = some p) : S_fmap_each__Owns_2 args h = some p := K_fmap_each__Owns_2.of he
def fmap_Owns__Owns_1_o0 : List AOper := [aO 2 (.box (.t 0)), aO 3 (.box (.t 1)), aO 4 (.nilrow 1)]
def fmap_Owns__Owns_1_c0 : ACode := .ops fmap_Owns__Owns_1_o0
def fmap_Owns__Owns_1_o1 : List AOper := [aO 5 (.alloc ([.ns]))]
def fmap_Owns__Owns_1_c1 : ACode := .ops fmap_Owns__Owns_1_o1
def fmap_Owns__Owns_1_o2 : List AOper := [aO 10 (.fAddr (.t 3) 0), aO 11 (.load1 (.t 10)), aO 12 (.bin .eql (.t 11) (.v (.c (.i .i64 2))))]
def fmap_Owns__Owns_1_c2 : ACode := .ops fmap_Owns__Owns_1_o2
def fmap_Owns__Owns_1_o3 : List AOper := [aO 14 (.loadN 4 (.t 2)), aO 15 (.loadN 11 (.t 3)), aO 16 (.call 42 [(.t 14), (.t 15)]), aO 13 (.mv (.t 16)), aO 17 (.ext (.t 13) 0), aO 18 (.ext (.t 13) 1), aO 6 (.alloc ([.i .i64 0] ++ List.replicate 32 (.i .i64 0))), { dst := none, op := .storeN 33 (.t 6) (.t 17) }, aO 7 (.mv (.t 18))]
def fmap_Owns__Owns_1_c3 : ACode := .ops fmap_Owns__Owns_1_o3
def fmap_Owns__Owns_1_o4 : List AOper := [aO 19 (.mv (.t 7))]
def fmap_Owns__Owns_1_c4 : ACode := .ops fmap_Owns__Owns_1_o4
def fmap_Owns__Owns_1_o5 : List AOper := [aO 20 (.load1 (.t 5)), aO 21 (.fAddr (.t 3) 4), aO 22 (.iAddrA 6 1 (.t 21) (.v (.c (.i .i64 0)))), aO 23 (.load1 (.t 22)), aO 24 (.buildSl 1 1 ([.i .i64 0]) [(0, 1, (.t 23))]), aO 25 (.app 1 (.t 20) (.t 24)), { dst := none, op := .store1 (.t 5) (.t 25) }]
def fmap_Owns__Owns_1_c5 : ACode := .ops fmap_Owns__Owns_1_o5
def fmap_Owns__Owns_1_c6 : ACode := .cond (.t 19) fmap_Owns__Owns_1_c5 .skip
def fmap_Owns__Owns_1_c7 : ACode := .seq [2, 3, 5, 19] fmap_Owns__Owns_1_c4 fmap_Owns__Owns_1_c6
def fmap_Owns__Owns_1_c8 : ACode := .seq [2, 3, 5, 7] fmap_Owns__Owns_1_c3 fmap_Owns__Owns_1_c7
def fmap_Owns__Owns_1_o6 : List AOper := [aO 26 (.load1 (.t 5)), aO 27 (.loadN 4 (.t 2)), aO 28 (.loadN 11 (.t 3)), aO 29 (.call 44 [(.t 27), (.t 28)])]
def fmap_Owns__Owns_1_o7 : List AOper := [aO 30 (.app 1 (.t 26) (.t 29)), aO 4 (.mv (.t 30))]
def fmap_Owns__Owns_1_c9 : ACode := .draw 0 fmap_Owns__Owns_1_o6 fmap_Owns__Owns_1_o7
def fmap_Owns__Owns_1_c10 : ACode := .seq [4] fmap_Owns__Owns_1_c9 .ret
def fmap_Owns__Owns_1_c11 : ACode := .seq [2, 3, 5] fmap_Owns__Owns_1_c8 fmap_Owns__Owns_1_c10
def fmap_Owns__Owns_1_c12 : ACode := .cond (.t 12) fmap_Owns__Owns_1_c11 .skip
def fmap_Owns__Owns_1_c13 : ACode := .seq [2, 3, 5, 12] fmap_Owns__Owns_1_c2 fmap_Owns__Owns_1_c12
def fmap_Owns__Owns_1_o8 : List AOper := [aO 8 (.alloc ([.b false])), { dst := none, op := .store1 (.t 8) (.v (.c (.b false))) }]
def fmap_Owns__Owns_1_c14 : ACode := .ops fmap_Owns__Owns_1_o8
def fmap_Owns__Owns_1_o9 : List AOper := [aO 31 (.mkf 59 [(.t 8), (.t 3), (.t 2), (.t 5)]), aO 9 (.alloc ([.nf])), { dst := none, op := .store1 (.t 9) (.t 31) }]
def fmap_Owns__Owns_1_c15 : ACode := .ops fmap_Owns__Owns_1_o9
def fmap_Owns__Owns_1_o10 : List AOper := [aO 32 (.loadN 4 (.t 2)), aO 33 (.loadN 11 (.t 3)), aO 34 (.mkf 61 [(.t 9), (.t 5)]), aO 35 (.call 60 [(.t 32), (.t 33), (.t 34)])]
def fmap_Owns__Owns_1_c16 : ACode := .ops fmap_Owns__Owns_1_o10
def fmap_Owns__Owns_1_o11 : List AOper := [aO 36 (.load1 (.t 9)), aO 37 (.callV (.t 36) [])]
def fmap_Owns__Owns_1_c17 : ACode := .ops fmap_Owns__Owns_1_o11
def fmap_Owns__Owns_1_o12 : List AOper := [aO 38 (.load1 (.t 5)), aO 4 (.mv (.t 38))]
def fmap_Owns__Owns_1_c18 : ACode := .ops fmap_Owns__Owns_1_o12
def fmap_Owns__Owns_1_c19 : ACode := .seq [4] fmap_Owns__Owns_1_c18 .ret
def fmap_Owns__Owns_1_c20 : ACode := .seq [5] fmap_Owns__Owns_1_c17 fmap_Owns__Owns_1_c19
def fmap_Owns__Owns_1_c21 : ACode := .seq [5, 9] fmap_Owns__Owns_1_c16 fmap_Owns__Owns_1_c20
def fmap_Owns__Owns_1_c22 : ACode := .seq [2, 3, 5, 9] fmap_Owns__Owns_1_c15 fmap_Owns__Owns_1_c21
def fmap_Owns__Owns_1_c23 : ACode := .seq [2, 3, 5, 8] fmap_Owns__Owns_1_c14 fmap_Owns__Owns_1_c22
def fmap_Owns__Owns_1_c24 : ACode := .seq [2, 3, 5] fmap_Owns__Owns_1_c13 fmap_Owns__Owns_1_c23
def fmap_Owns__Owns_1_c25 : ACode := .seq [2, 3, 5] fmap_Owns__Owns_1_c1 fmap_Owns__Owns_1_c24
def fmap_Owns__Owns_1_c26 : ACode := .seq [2, 3] fmap_Owns__Owns_1_c0 fmap_Owns__Owns_1_c25
def A_fmap_Owns__Owns_1 : AFn := ⟨fmap_Owns__Owns_1_c26, [.tmp 4]⟩
def E_fmap_Owns__Owns_1 : Sums := disp 42 S_fmap_Index (disp 44 S_fmap_Buckets (disp 60 S_fmap_each__Owns_2 (disp 59 S_fmap_Owns_1 disp0)))
def fmap_Owns__Owns_1_c0_d (n : Nat) : SmV := smOps E_fmap_Owns__Owns_1 fmap_Owns__Owns_1_o0
def fmap_Owns__Owns_1_c1_d (n : Nat) : SmV := smOps E_fmap_Owns__Owns_1 fmap_Owns__Owns_1_o1
def fmap_Owns__Owns_1_c2_d (n : Nat) : SmV := smOps E_fmap_Owns__Owns_1 fmap_Owns__Owns_1_o2
def fmap_Owns__Owns_1_c3_d (n : Nat) : SmV := smOps E_fmap_Owns__Owns_1 fmap_Owns__Owns_1_o3
def fmap_Owns__Owns_1_c4_d (n : Nat) : SmV := smOps E_fmap_Owns__Owns_1 fmap_Owns__Owns_1_o4
def fmap_Owns__Owns_1_c5_d (n : Nat) : SmV := smOps E_fmap_Owns__Owns_1 fmap_Owns__Owns_1_o5
def fmap_Owns__Owns_1_c6_d (n : Nat) : SmV := smCond (.t 19) (fmap_Owns__Owns_1_c5_d n) smSkip
def fmap_Owns__Owns_1_c7_d (n : Nat) : SmV := smSeq [2, 3, 5, 19] (fmap_Owns__Owns_1_c4_d n) (fmap_Owns__Owns_1_c6_d n)
def fmap_Owns__Owns_1_c8_d (n : Nat) : SmV := smSeq [2, 3, 5, 7] (fmap_Owns__Owns_1_c3_d n) (fmap_Owns__Owns_1_c7_d n)
def fmap_Owns__Owns_1_c9_d (n : Nat) : SmV := smDraw E_fmap_Owns__Owns_1 0 fmap_Owns__Owns_1_o6 fmap_Owns__Owns_1_o7
def fmap_Owns__Owns_1_c10_d (n : Nat) : SmV := smSeq [4] (fmap_Owns__Owns_1_c9_d n) smRet
def fmap_Owns__Owns_1_c11_d (n : Nat) : SmV := smSeq [2, 3, 5] (fmap_Owns__Owns_1_c8_d n) (fmap_Owns__Owns_1_c10_d n)
def fmap_Owns__Owns_1_c12_d (n : Nat) : SmV := smCond (.t 12) (fmap_Owns__Owns_1_c11_d n) smSkip
def fmap_Owns__Owns_1_c13_d (n : Nat) : SmV := smSeq [2, 3, 5, 12] (fmap_Owns__Owns_1_c2_d n) (fmap_Owns__Owns_1_c12_d n)
def fmap_Owns__Owns_1_c14_d (n : Nat) : SmV := smOps E_fmap_Owns__Owns_1 fmap_Owns__Owns_1_o8
def fmap_Owns__Owns_1_c15_d (n : Nat) : SmV := smOps E_fmap_Owns__Owns_1 fmap_Owns__Owns_1_o9
def fmap_Owns__Owns_1_c16_d (n : Nat) : SmV := smOps E_fmap_Owns__Owns_1 fmap_Owns__Owns_1_o10
def fmap_Owns__Owns_1_c17_d (n : Nat) : SmV := smOps E_fmap_Owns__Owns_1 fmap_Owns__Owns_1_o11
def fmap_Owns__Owns_1_c18_d (n : Nat) : SmV := smOps E_fmap_Owns__Owns_1 fmap_Owns__Owns_1_o12
def fmap_Owns__Owns_1_c19_d (n : Nat) : SmV := smSeq [4] (fmap_Owns__Owns_1_c18_d n) smRet
def fmap_Owns__Owns_1_c20_d (n : Nat) : SmV := smSeq [5] (fmap_Owns__Owns_1_c17_d n) (fmap_Owns__Owns_1_c19_d n)
def fmap_Owns__Owns_1_c21_d (n : Nat) : SmV := smSeq [5, 9] (fmap_Owns__Owns_1_c16_d n) (fmap_Owns__Owns_1_c20_d n)
def fmap_Owns__Owns_1_c22_d (n : Nat) : SmV := smSeq [2, 3, 5, 9] (fmap_Owns__Owns_1_c15_d n) (fmap_Owns__Owns_1_c21_d n)
def fmap_Owns__Owns_1_c23_d (n : Nat) : SmV := smSeq [2, 3, 5, 8] (fmap_Owns__Owns_1_c14_d n) (fmap_Owns__Owns_1_c22_d n)
def fmap_Owns__Owns_1_c24_d (n : Nat) : SmV := smSeq [2, 3, 5] (fmap_Owns__Owns_1_c13_d n) (fmap_Owns__Owns_1_c23_d n)
def fmap_Owns__Owns_1_c25_d (n : Nat) : SmV := smSeq [2, 3, 5] (fmap_Owns__Owns_1_c1_d n) (fmap_Owns__Owns_1_c24_d n)
def fmap_Owns__Owns_1_c26_d (n : Nat) : SmV := smSeq [2, 3] (fmap_Owns__Owns_1_c0_d n) (fmap_Owns__Owns_1_c25_d n)
def fmap_Owns__Owns_1_k0 (n : Nat) : AExit → Env → Heap → OptV := fun x e h => match x with | .normal => hold ((fmap_Owns__Owns_1_c23_d n) A_fmap_Owns__Owns_1.fin (e.keep [2, 3, 5]) h) | .exit id => A_fmap_Owns__Owns_1.fin (.exit id) e h | .ret => A_fmap_Owns__Owns_1.fin .ret e h
def fmap_Owns__Owns_1_j0 (n : Nat) (x2 x3 x5 : Val) (h : Heap) : OptV := hold ((fmap_Owns__Owns_1_c10_d n) (fmap_Owns__Owns_1_k0 n) [(2, x2), (3, x3), (5, x5)] h)
def R_fmap_Owns__Owns_1 (n : Nat) (args : List Val) (h : Heap) : OptV := (fmap_Owns__Owns_1_c26_d n) A_fmap_Owns__Owns_1.fin (params 0 args) h
theorem R_fmap_Owns__Owns_1_eq (n : Nat) (a0 a1 : Val) (h : Heap) : R_fmap_Owns__Owns_1 n [a0, a1] h = bnd (cells? a0) fun c1 => bnd (cells? a1) fun c2 => bnd (afAddr ((.c (.p ((h ++ [some (Row.mk (c1) true)])).length 0))) 0) fun v3 => bnd (aload1 (((((h ++ [some (Row.mk (c1) true)]) ++ [some (Row.mk (c2) true)]) ++ [some (Row.mk ([]) true)]) ++ [some (Row.mk ([.ns]) true)])) v3) fun v4 => bnd (abin .eql v4 (.c (.i .i64 2))) fun v5 => cnd v5 (bnd (aloadN (((((h ++ [some (Row.mk (c1) true)]) ++ [some (Row.mk (c2) true)]) ++ [some (Row.mk ([]) true)]) ++ [some (Row.mk ([.ns]) true)])) 4 ((.c (.p h.length 0)))) fun v6 => bnd (aloadN (((((h ++ [some (Row.mk (c1) true)]) ++ [some (Row.mk (c2) true)]) ++ [some (Row.mk ([]) true)]) ++ [some (Row.mk ([.ns]) true)])) 11 ((.c (.p ((h ++ [some (Row.mk (c1) true)])).length 0)))) fun v7 => bnd (S_fmap_Index [v6, v7] (((((h ++ [some (Row.mk (c1) true)]) ++ [some (Row.mk (c2) true)]) ++ [some (Row.mk ([]) true)]) ++ [some (Row.mk ([.ns]) true)]))) fun p8 => bnd (aext p8.1 0) fun v9 => bnd (aext p8.1 1) fun v10 => bnd (astoreN ((p8.2 ++ [some (Row.mk ([.i .i64 0] ++ List.replicate 32 (.i .i64 0)) true)])) 33 ((.c (.p p8.2.length 0))) v9) fun h11 => cnd v10 (bnd (aload1 h11 ((.c (.p ((((h ++ [some (Row.mk (c1) true)]) ++ [some (Row.mk (c2) true)]) ++ [some (Row.mk ([]) true)])).length 0)))) fun v12 => bnd (afAddr ((.c (.p ((h ++ [some (Row.mk (c1) true)])).length 0))) 4) fun v13 => bnd (aiAddrA 6 1 v13 (.c (.i .i64 0))) fun v14 => bnd (aload1 h11 v14) fun v15 => bnd (afill ([.i .i64 0]) [(0, 1, v15)]) fun c16 => bnd (aapp ((h11 ++ [some (Row.mk (c16) true)])) 1 v12 ((.c (.sl h11.length 0 1 1)))) fun p17 => bnd (astore1 p17.2 ((.c (.p ((((h ++ [some (Row.mk (c1) true)]) ++ [some (Row.mk (c2) true)]) ++ [some (Row.mk ([]) true)])).length 0))) p17.1) fun h18 => fmap_Owns__Owns_1_j0 n ((.c (.p h.length 0))) ((.c (.p ((h ++ [some (Row.mk (c1) true)])).length 0))) ((.c (.p ((((h ++ [some (Row.mk (c1) true)]) ++ [some (Row.mk (c2) true)]) ++ [some (Row.mk ([]) true)])).length 0))) h18) (fmap_Owns__Owns_1_j0 n ((.c (.p h.length 0))) ((.c (.p ((h ++ [some (Row.mk (c1) true)])).length 0))) ((.c (.p ((((h ++ [some (Row.mk (c1) true)]) ++ [some (Row.mk (c2) true)]) ++ [some (Row.mk ([]) true)])).length 0))) h11)) (bnd (astore1 ((((((h ++ [some (Row.mk (c1) true)]) ++ [some (Row.mk (c2) true)]) ++ [some (Row.mk ([]) true)]) ++ [some (Row.mk ([.ns]) true)]) ++ [some (Row.mk ([.b false]) true)])) ((.c (.p (((((h ++ [some (Row.mk (c1) true)]) ++ [some (Row.mk (c2) true)]) ++ [some (Row.mk ([]) true)]) ++ [some (Row.mk ([.ns]) true)])).length 0))) (.c (.b false))) fun h19 => bnd (amkf 59 [(.c (.p (((((h ++ [some (Row.mk (c1) true)]) ++ [some (Row.mk (c2) true)]) ++ [some (Row.mk ([]) true)]) ++ [some (Row.mk ([.ns]) true)])).length 0)), (.c (.p ((h ++ [some (Row.mk (c1) true)])).length 0)), (.c (.p h.length 0)), (.c (.p ((((h ++ [some (Row.mk (c1) true)]) ++ [some (Row.mk (c2) true)]) ++ [some (Row.mk ([]) true)])).length 0))]) fun v20 => bnd (astore1 ((h19 ++ [some (Row.mk ([.nf]) true)])) ((.c (.p h19.length 0))) v20) fun h21 => bnd (aloadN h21 4 ((.c (.p h.length 0)))) fun v22 => bnd (aloadN h21 11 ((.c (.p ((h ++ [some (Row.mk (c1) true)])).length 0)))) fun v23 => bnd (amkf 61 [(.c (.p h19.length 0)), (.c (.p ((((h ++ [some (Row.mk (c1) true)]) ++ [some (Row.mk (c2) true)]) ++ [some (Row.mk ([]) true)])).length 0))]) fun v24 => bnd (S_fmap_each__Owns_2 [v22, v23, v24] h21) fun p25 => bnd (aload1 p25.2 ((.c (.p h19.length 0)))) fun v26 => bnd (callv E_fmap_Owns__Owns_1 v26 [] p25.2) fun p27 => bnd (aload1 p27.2 ((.c (.p ((((h ++ [some (Row.mk (c1) true)]) ++ [some (Row.mk (c2) true)]) ++ [some (Row.mk ([]) true)])).length 0)))) fun v28 => some (v28, p27.2)) := by kernel_rfl
theorem fmap_Owns__Owns_1_j0_eq (n : Nat) (x2 x3 x5 : Val) (h : Heap) : fmap_Owns__Owns_1_j0 n x2 x3 x5 h = bnd (aload1 h x5) fun v29 => bnd (aloadN h 4 x2) fun v30 => bnd (aloadN h 11 x3) fun v31 => bnd (quiet ((h ++ [])) (S_fmap_Buckets [v30, v31] ((h ++ [])))) fun p32 => bnd (aapp p32.2 1 v29 p32.1) fun p33 => some (p33.1, p33.2) := by kernel_rfl
theorem K_fmap_Owns__Owns_1 : FnK Try.prog 23 A_fmap_Owns__Owns_1 E_fmap_Owns__Owns_1 R_fmap_Owns__Owns_1 := .mk' (sound1 S_fmap_Index_ok (sound1 S_fmap_Buckets_ok (sound1 S_fmap_each__Owns_2_ok (sound1 S_fmap_Owns_1_ok sound0)))) Try.func23 (by kernel_rfl) (by intro n args h; kernel_rfl)
def S_fmap_Owns__Owns_1 : Fun := tidy (Lim A_fmap_Owns__Owns_1 E_fmap_Owns__Owns_1)
theorem S_fmap_Owns__Owns_1_ok : SOk Try.prog 23 S_fmap_Owns__Owns_1 := K_fmap_Owns__Owns_1.sok
theorem S_fmap_Owns__Owns_1_low {n : Nat} {args : List Val} {h h2 : Heap} {v : Val} (he : R_fmap_Owns__Owns_1 n args (ro h) = some (v, h2)) (hf : v.low h.length = true) : S_fmap_Owns__Owns_1 args h = some (v, h) := K_fmap_Owns__Owns_1.low he hf
theorem S_fmap_Owns__Owns_1_out {n : Nat} {args : List Val} {h h2 : Heap} {v : Val} {sz k : Nat} {cs : List Cell} (he : R_fmap_Owns__Owns_1 n args (ro h) = some (v, h2)) (ho : Out h.length h2 v sz k cs) (hf : flats cs = true) : S_fmap_Owns__Owns_1 args h = some (.c (.sl h.length 0 k sz), h ++ [some ⟨cs, true⟩]) := K_fmap_Owns__Owns_1.out he ho hf
def fmap_Beyond_1_o0 : List AOper := [aO 6 (.mv (.t 0)), aO 7 (.fAddr (.t 2) 2), aO 8 (.load1 (.t 7)), aO 9 (.call 66 [(.t 8)]), aO 10 (.bin .geq (.t 6) (.t 9))]
def fmap_Beyond_1_c0 : ACode := .ops fmap_Beyond_1_o0
def fmap_Beyond_1_o1 : List AOper := [aO 11 (.load1 (.t 3)), aO 12 (.mv (.t 0)), aO 13 (.buildSl 1 1 ([.i .i64 0]) [(0, 1, (.t 12))]), aO 14 (.app 1 (.t 11) (.t 13)), { dst := none, op := .store1 (.t 3) (.t 14) }]
def fmap_Beyond_1_c1 : ACode := .ops fmap_Beyond_1_o1
def fmap_Beyond_1_c2 : ACode := .cond (.t 10) fmap_Beyond_1_c1 .skip
def fmap_Beyond_1_c3 : ACode := .seq [0, 3, 10] fmap_Beyond_1_c0 fmap_Beyond_1_c2
def A_fmap_Beyond_1 : AFn := ⟨fmap_Beyond_1_c3, []⟩
def E_fmap_Beyond_1 : Sums := disp 66 S_inode_Blocks disp0
def fmap_Beyond_1_c0_d (n : Nat) : SmV := smOps E_fmap_Beyond_1 fmap_Beyond_1_o0
def fmap_Beyond_1_c1_d (n : Nat) : SmV := smOps E_fmap_Beyond_1 fmap_Beyond_1_o1
def fmap_Beyond_1_c2_d (n : Nat) : SmV := smCond (.t 10) (fmap_Beyond_1_c1_d n) smSkip
def fmap_Beyond_1_c3_d (n : Nat) : SmV := smSeq [0, 3, 10] (fmap_Beyond_1_c0_d n) (fmap_Beyond_1_c2_d n)
def R_fmap_Beyond_1 (n : Nat) (args : List Val) (h : Heap) : OptV := (fmap_Beyond_1_c3_d n) A_fmap_Beyond_1.fin (params 0 args) h
theorem R_fmap_Beyond_1_eq (n : Nat) (a0 a1 a2 a3 : Val) (h : Heap) : R_fmap_Beyond_1 n [a0, a1, a2, a3] h = bnd (afAddr a2 2) fun v1 => bnd (aload1 h v1) fun v2 => bnd (S_inode_Blocks [v2] h) fun p3 => bnd (abin .geq a0 p3.1) fun v4 => cnd v4 (bnd (aload1 p3.2 a3) fun v5 => bnd (afill ([.i .i64 0]) [(0, 1, a0)]) fun c6 => bnd (aapp ((p3.2 ++ [some (Row.mk (c6) true)])) 1 v5 ((.c (.sl p3.2.length 0 1 1)))) fun p7 => bnd (astore1 p7.2 a3 p7.1) fun h8 => tupN [] h8) (tupN [] p3.2) := by kernel_rfl
theorem K_fmap_Beyond_1 : FnK Try.prog 65 A_fmap_Beyond_1 E_fmap_Beyond_1 R_fmap_Beyond_1 := .mk' (sound1 S_inode_Blocks_ok sound0) Try.func65 (by kernel_rfl) (by intro n args h; kernel_rfl)
def S_fmap_Beyond_1 : Fun := Lim A_fmap_Beyond_1 E_fmap_Beyond_1
theorem S_fmap_Beyond_1_ok : SOk Try.prog 65 S_fmap_Beyond_1 := K_fmap_Beyond_1.ok
theorem S_fmap_Beyond_1_of {n : Nat} {args : List Val} {h : Heap} {p : Val × Heap} (he : R_fmap_Beyond_1 n args h = some p) : S_fmap_Beyond_1 args h = some p := K_fmap_Beyond_1.of he
def fmap_each__Beyond_1_o0 : List AOper := [aO 3 (.box (.t 0)), aO 4 (.box (.t 1))]
def fmap_each__Beyond_1_c0 : ACode := .ops fmap_each__Beyond_1_o0
def fmap_each__Beyond_1_o1 : List AOper := [aO 8 (.mv (.v (.c (.i .i64 0))))]
def fmap_each__Beyond_1_c1 : ACode := .ops fmap_each__Beyond_1_o1
def fmap_each__Beyond_1_o2 : List AOper := [aO 9 (.bin .lss (.t 8) (.v (.c (.i .i64 134))))]
def fmap_each__Beyond_1_c2 : ACode := .ops fmap_each__Beyond_1_o2
def fmap_each__Beyond_1_c3 : ACode := .cond (.t 9) .skip (.exit 0)
def fmap_each__Beyond_1_o3 : List AOper := [aO 10 (.mv (.t 8)), aO 6 (.mv (.t 10))]
def fmap_each__Beyond_1_c4 : ACode := .ops fmap_each__Beyond_1_o3
def fmap_each__Beyond_1_o4 : List AOper := [aO 11 (.loadN 4 (.t 3)), aO 12 (.loadN 11 (.t 4)), aO 13 (.mv (.t 6)), aO 14 (.call 28 [(.t 11), (.t 12), (.t 13)]), aO 7 (.mv (.t 14))]
def fmap_each__Beyond_1_c5 : ACode := .ops fmap_each__Beyond_1_o4
def fmap_each__Beyond_1_o5 : List AOper := [aO 15 (.mv (.t 7)), aO 16 (.bin .neq (.t 15) (.v (.c (.i .i64 0))))]
def fmap_each__Beyond_1_c6 : ACode := .ops fmap_each__Beyond_1_o5
def fmap_each__Beyond_1_o6 : List AOper := [aO 17 (.mv (.t 2)), aO 18 (.mv (.t 6)), aO 19 (.mv (.t 7)), aO 20 (.callV (.t 17) [(.t 18), (.t 19)])]
def fmap_each__Beyond_1_c7 : ACode := .ops fmap_each__Beyond_1_o6
def fmap_each__Beyond_1_c8 : ACode := .cond (.t 16) fmap_each__Beyond_1_c7 .skip
def fmap_each__Beyond_1_c9 : ACode := .seq [2, 3, 4, 6, 7, 8, 16] fmap_each__Beyond_1_c6 fmap_each__Beyond_1_c8
def fmap_each__Beyond_1_c10 : ACode := .seq [2, 3, 4, 6, 7, 8] fmap_each__Beyond_1_c5 fmap_each__Beyond_1_c9
def fmap_each__Beyond_1_c11 : ACode := .seq [2, 3, 4, 6, 8] fmap_each__Beyond_1_c4 fmap_each__Beyond_1_c10
def fmap_each__Beyond_1_c12 : ACode := .block 1 fmap_each__Beyond_1_c11
def fmap_each__Beyond_1_o7 : List AOper := [aO 21 (.bin .add (.t 8) (.v (.c (.i .i64 1)))), aO 8 (.mv (.t 21))]
def fmap_each__Beyond_1_c13 : ACode := .ops fmap_each__Beyond_1_o7
def fmap_each__Beyond_1_c14 : ACode := .seq [2, 3, 4, 8] fmap_each__Beyond_1_c12 fmap_each__Beyond_1_c13
def fmap_each__Beyond_1_c15 : ACode := .seq [2, 3, 4, 8] fmap_each__Beyond_1_c3 fmap_each__Beyond_1_c14
def fmap_each__Beyond_1_c16 : ACode := .seq [2, 3, 4, 8, 9] fmap_each__Beyond_1_c2 fmap_each__Beyond_1_c15
def fmap_each__Beyond_1_c17 : ACode := .loop [2, 3, 4, 8] fmap_each__Beyond_1_c16
def fmap_each__Beyond_1_c18 : ACode := .block 0 fmap_each__Beyond_1_c17
def fmap_each__Beyond_1_c19 : ACode := .seq [2, 3, 4, 8] fmap_each__Beyond_1_c1 fmap_each__Beyond_1_c18
def fmap_each__Beyond_1_c20 : ACode := .seq [2, 3, 4] fmap_each__Beyond_1_c0 fmap_each__Beyond_1_c19
def A_fmap_each__Beyond_1 : AFn := ⟨fmap_each__Beyond_1_c20, []⟩
def E_fmap_each__Beyond_1 : Sums := disp 28 S_fmap_At (disp 65 S_fmap_Beyond_1 disp0)
def fmap_each__Beyond_1_c0_d (n : Nat) : SmV := smOps E_fmap_each__Beyond_1 fmap_each__Beyond_1_o0
def fmap_each__Beyond_1_c1_d (n : Nat) : SmV := smOps E_fmap_each__Beyond_1 fmap_each__Beyond_1_o1
def fmap_each__Beyond_1_c2_d (n : Nat) : SmV := smOps E_fmap_each__Beyond_1 fmap_each__Beyond_1_o2
def fmap_each__Beyond_1_c3_d (n : Nat) : SmV := smCond (.t 9) smSkip (smExit 0)
def fmap_each__Beyond_1_c4_d (n : Nat) : SmV := smOps E_fmap_each__Beyond_1 fmap_each__Beyond_1_o3
def fmap_each__Beyond_1_c5_d (n : Nat) : SmV := smOps E_fmap_each__Beyond_1 fmap_each__Beyond_1_o4
def fmap_each__Beyond_1_c6_d (n : Nat) : SmV := smOps E_fmap_each__Beyond_1 fmap_each__Beyond_1_o5
def fmap_each__Beyond_1_c7_d (n : Nat) : SmV := smOps E_fmap_each__Beyond_1 fmap_each__Beyond_1_o6
def fmap_each__Beyond_1_c8_d (n : Nat) : SmV := smCond (.t 16) (fmap_each__Beyond_1_c7_d n) smSkip
def fmap_each__Beyond_1_c9_d (n : Nat) : SmV := smSeq [2, 3, 4, 6, 7, 8, 16] (fmap_each__Beyond_1_c6_d n) (fmap_each__Beyond_1_c8_d n)
def fmap_each__Beyond_1_c10_d (n : Nat) : SmV := smSeq [2, 3, 4, 6, 7, 8] (fmap_each__Beyond_1_c5_d n) (fmap_each__Beyond_1_c9_d n)
def fmap_each__Beyond_1_c11_d (n : Nat) : SmV := smSeq [2, 3, 4, 6, 8] (fmap_each__Beyond_1_c4_d n) (fmap_each__Beyond_1_c10_d n)
def fmap_each__Beyond_1_c12_d (n : Nat) : SmV := smBlock 1 (fmap_each__Beyond_1_c11_d n)
def fmap_each__Beyond_1_c13_d (n : Nat) : SmV := smOps E_fmap_each__Beyond_1 fmap_each__Beyond_1_o7
def fmap_each__Beyond_1_c14_d (n : Nat) : SmV := smSeq [2, 3, 4, 8] (fmap_each__Beyond_1_c12_d n) (fmap_each__Beyond_1_c13_d n)
def fmap_each__Beyond_1_c15_d (n : Nat) : SmV := smSeq [2, 3, 4, 8] (fmap_each__Beyond_1_c3_d n) (fmap_each__Beyond_1_c14_d n)
def fmap_each__Beyond_1_c16_d (n : Nat) : SmV := smSeq [2, 3, 4, 8, 9] (fmap_each__Beyond_1_c2_d n) (fmap_each__Beyond_1_c15_d n)
def fmap_each__Beyond_1_c17_d (n : Nat) : SmV := smLoop n [2, 3, 4, 8] (fmap_each__Beyond_1_c16_d n)
def fmap_each__Beyond_1_c18_d (n : Nat) : SmV := smBlock 0 (fmap_each__Beyond_1_c17_d n)
def fmap_each__Beyond_1_c19_d (n : Nat) : SmV := smSeq [2, 3, 4, 8] (fmap_each__Beyond_1_c1_d n) (fmap_each__Beyond_1_c18_d n)
def fmap_each__Beyond_1_c20_d (n : Nat) : SmV := smSeq [2, 3, 4] (fmap_each__Beyond_1_c0_d n) (fmap_each__Beyond_1_c19_d n)
def fmap_each__Beyond_1_k0 (n : Nat) : AExit → Env → Heap → OptV := fun x e h => match x with | .exit i => bif Nat.beq i 0 then A_fmap_each__Beyond_1.fin .normal e h else A_fmap_each__Beyond_1.fin (.exit i) e h | .normal => A_fmap_each__Beyond_1.fin .normal e h | .ret => A_fmap_each__Beyond_1.fin .ret e h
def fmap_each__Beyond_1_l0 (n m : Nat) (x2 x3 x4 x8 : Val) (h : Heap) : OptV := around (fmap_each__Beyond_1_c16_d n) [2, 3, 4, 8] (fmap_each__Beyond_1_k0 n) m [(2, x2), (3, x3), (4, x4), (8, x8)] h
def R_fmap_each__Beyond_1 (n : Nat) (args : List Val) (h : Heap) : OptV := (fmap_each__Beyond_1_c20_d n) A_fmap_each__Beyond_1.fin (params 0 args) h
def fmap_each__Beyond_1_k1 (n m : Nat) : AExit → Env → Heap → OptV := fun x e h => match x with | .normal => around (fmap_each__Beyond_1_c16_d n) [2, 3, 4, 8] (fmap_each__Beyond_1_k0 n) m (e.keep [2, 3, 4, 8]) h | .exit id => (fmap_each__Beyond_1_k0 n) (.exit id) e h | .ret => (fmap_each__Beyond_1_k0 n) .ret e h
def fmap_each__Beyond_1_j0 (n m : Nat) (x2 x3 x4 x8 : Val) (h : Heap) : OptV := hold ((fmap_each__Beyond_1_c13_d n) (fmap_each__Beyond_1_k1 n m) [(2, x2), (3, x3), (4, x4), (8, x8)] h)
theorem R_fmap_each__Beyond_1_eq (n : Nat) (a0 a1 a2 : Val) (h : Heap) : R_fmap_each__Beyond_1 n [a0, a1, a2] h = bnd (cells? a0) fun c1 => bnd (cells? a1) fun c2 => fmap_each__Beyond_1_l0 n n a2 ((.c (.p h.length 0))) ((.c (.p ((h ++ [some (Row.mk (c1) true)])).length 0))) (.c (.i .i64 0)) (((h ++ [some (Row.mk (c1) true)]) ++ [some (Row.mk (c2) true)])) := by kernel_rfl
theorem fmap_each__Beyond_1_l0_eq (n m : Nat) (x2 x3 x4 x8 : Val) (h : Heap) : fmap_each__Beyond_1_l0 n (m + 1) x2 x3 x4 x8 h = bnd (abin .lss x8 (.c (.i .i64 134))) fun v3 => cnd v3 (bnd (aloadN h 4 x3) fun v4 => bnd (aloadN h 11 x4) fun v5 => bnd (S_fmap_At [v4, v5, x8] h) fun p6 => bnd (abin .neq p6.1 (.c (.i .i64 0))) fun v7 => cnd v7 (bnd (callv E_fmap_each__Beyond_1 x2 [x8, p6.1] p6.2) fun p8 => fmap_each__Beyond_1_j0 n m x2 x3 x4 x8 p8.2) (fmap_each__Beyond_1_j0 n m x2 x3 x4 x8 p6.2)) (tupN [] h) := by kernel_rfl
theorem fmap_each__Beyond_1_j0_eq (n m : Nat) (x2 x3 x4 x8 : Val) (h : Heap) : fmap_each__Beyond_1_j0 n m x2 x3 x4 x8 h = bnd (abin .add x8 (.c (.i .i64 1))) fun v9 => fmap_each__Beyond_1_l0 n m x2 x3 x4 v9 h := by kernel_rfl
theorem K_fmap_each__Beyond_1 : FnK Try.prog 60 A_fmap_each__Beyond_1 E_fmap_each__Beyond_1 R_fmap_each__Beyond_1 := .mk' (sound1 S_fmap_At_ok (sound1 S_fmap_Beyond_1_ok sound0)) Try.func60 (by kernel_rfl) (by intro n args h; kernel_rfl)
def S_fmap_each__Beyond_1 : Fun := Lim A_fmap_each__Beyond_1 E_fmap_each__Beyond_1
theorem S_fmap_each__Beyond_1_ok : SOk Try.prog 60 S_fmap_each__Beyond_1 := K_fmap_each__Beyond_1.ok
theorem S_fmap_each__Beyond_1_of {n : Nat} {args : List Val} {h : Heap} {p : Val × Heap} (he : R_fmap_each__Beyond_1 n args h = some p) : S_fmap_each__Beyond_1 args h = some p := K_fmap_each__Beyond_1.of he
def fmap_Beyond_o0 : List AOper := [aO 2 (.box (.t 0)), aO 3 (.box (.t 1)), aO 4 (.nilrow 1)]
def fmap_Beyond_c0 : ACode := .ops fmap_Beyond_o0
def fmap_Beyond_o1 : List AOper := [aO 5 (.alloc ([.ns]))]
def fmap_Beyond_c1 : ACode := .ops fmap_Beyond_o1
def fmap_Beyond_o2 : List AOper := [aO 6 (.loadN 4 (.t 2)), aO 7 (.loadN 11 (.t 3)), aO 8 (.mkf 65 [(.t 3), (.t 5)]), aO 9 (.call 60 [(.t 6), (.t 7), (.t 8)])]
def fmap_Beyond_c2 : ACode := .ops fmap_Beyond_o2
def fmap_Beyond_o3 : List AOper := [aO 10 (.load1 (.t 5)), aO 4 (.mv (.t 10))]
def fmap_Beyond_c3 : ACode := .ops fmap_Beyond_o3
def fmap_Beyond_c4 : ACode := .seq [4] fmap_Beyond_c3 .ret
def fmap_Beyond_c5 : ACode := .seq [5] fmap_Beyond_c2 fmap_Beyond_c4
def fmap_Beyond_c6 : ACode := .seq [2, 3, 5] fmap_Beyond_c1 fmap_Beyond_c5
def fmap_Beyond_c7 : ACode := .seq [2, 3] fmap_Beyond_c0 fmap_Beyond_c6
def A_fmap_Beyond : AFn := ⟨fmap_Beyond_c7, [.tmp 4]⟩
def E_fmap_Beyond : Sums := disp 60 S_fmap_each__Beyond_1 disp0
def fmap_Beyond_c0_d (n : Nat) : SmV := smOps E_fmap_Beyond fmap_Beyond_o0
def fmap_Beyond_c1_d (n : Nat) : SmV := smOps E_fmap_Beyond fmap_Beyond_o1
def fmap_Beyond_c2_d (n : Nat) : SmV := smOps E_fmap_Beyond fmap_Beyond_o2
def fmap_Beyond_c3_d (n : Nat) : SmV := smOps E_fmap_Beyond fmap_Beyond_o3
def fmap_Beyond_c4_d (n : Nat) : SmV := smSeq [4] (fmap_Beyond_c3_d n) smRet
def fmap_Beyond_c5_d (n : Nat) : SmV := smSeq [5] (fmap_Beyond_c2_d n) (fmap_Beyond_c4_d n)
def fmap_Beyond_c6_d (n : Nat) : SmV := smSeq [2, 3, 5] (fmap_Beyond_c1_d n) (fmap_Beyond_c5_d n)
def fmap_Beyond_c7_d (n : Nat) : SmV := smSeq [2, 3] (fmap_Beyond_c0_d n) (fmap_Beyond_c6_d n)
def R_fmap_Beyond (n : Nat) (args : List Val) (h : Heap) : OptV := (fmap_Beyond_c7_d n) A_fmap_Beyond.fin (params 0 args) h
theorem R_fmap_Beyond_eq (n : Nat) (a0 a1 : Val) (h : Heap) : R_fmap_Beyond n [a0, a1] h = bnd (cells? a0) fun c1 => bnd (cells? a1) fun c2 => bnd (aloadN (((((h ++ [some (Row.mk (c1) true)]) ++ [some (Row.mk (c2) true)]) ++ [some (Row.mk ([]) true)]) ++ [some (Row.mk ([.ns]) true)])) 4 ((.c (.p h.length 0)))) fun v3 => bnd (aloadN (((((h ++ [some (Row.mk (c1) true)]) ++ [some (Row.mk (c2) true)]) ++ [some (Row.mk ([]) true)]) ++ [some (Row.mk ([.ns]) true)])) 11 ((.c (.p ((h ++ [some (Row.mk (c1) true)])).length 0)))) fun v4 => bnd (amkf 65 [(.c (.p ((h ++ [some (Row.mk (c1) true)])).length 0)), (.c (.p ((((h ++ [some (Row.mk (c1) true)]) ++ [some (Row.mk (c2) true)]) ++ [some (Row.mk ([]) true)])).length 0))]) fun v5 => bnd (S_fmap_each__Beyond_1 [v3, v4, v5] (((((h ++ [some (Row.mk (c1) true)]) ++ [some (Row.mk (c2) true)]) ++ [some (Row.mk ([]) true)]) ++ [some (Row.mk ([.ns]) true)]))) fun p6 => bnd (aload1 p6.2 ((.c (.p ((((h ++ [some (Row.mk (c1) true)]) ++ [some (Row.mk (c2) true)]) ++ [some (Row.mk ([]) true)])).length 0)))) fun v7 => some (v7, p6.2) := by kernel_rfl
theorem K_fmap_Beyond : FnK Try.prog 27 A_fmap_Beyond E_fmap_Beyond R_fmap_Beyond := .mk' (sound1 S_fmap_each__Beyond_1_ok sound0) Try.func27 (by kernel_rfl) (by intro n args h; kernel_rfl)
def S_fmap_Beyond : Fun := tidy (Lim A_fmap_Beyond E_fmap_Beyond)
theorem S_fmap_Beyond_ok : SOk Try.prog 27 S_fmap_Beyond := K_fmap_Beyond.sok
theorem S_fmap_Beyond_low {n : Nat} {args : List Val} {h h2 : Heap} {v : Val} (he : R_fmap_Beyond n args (ro h) = some (v, h2)) (hf : v.low h.length = true) : S_fmap_Beyond args h = some (v, h) := K_fmap_Beyond.low he hf
theorem S_fmap_Beyond_out {n : Nat} {args : List Val} {h h2 : Heap} {v : Val} {sz k : Nat} {cs : List Cell} (he : R_fmap_Beyond n args (ro h) = some (v, h2)) (ho : Out h.length h2 v sz k cs) (hf : flats cs = true) : S_fmap_Beyond args h = some (.c (.sl h.length 0 k sz), h ++ [some ⟨cs, true⟩]) := K_fmap_Beyond.out he ho hf
end Go.Proofs.Ytdgggnlbdoiloaa
end
section
namespace Go.Proofs.Ytdgggnlbdoiloaa
open Go Go.Esc

def rawF (D : Dev) (n : Int) (d : List Int) (j : Nat) : Int :=
  if j < 6 then d.getD j 0 else bif isDatL D.length n (d.getD 6 0) then ptP (blk D (d.getD 6 0)) (j - 6) else 0
def datF1 (D : Dev) (n : Int) (d : List Int) (j : Nat) : Int := bif isDatL D.length n (rawF D n d j) then rawF D n d j else 0
def atF (D : Dev) (n k : Int) (d : List Int) (j : Int) : Int := if k = 1 ∧ 0 ≤ j ∧ j < 134 then datF1 D n d j.toNat else 0


theorem fmap_At_j0_ok {D : Dev} {n m no : Int} {f : Cell} {q : Nat} {g : Heap} {r : Option Row} : fmap_At_j0 q (.c (.p g.length 0)) (.c (.i .i64 no)) (g ++ [some (Row.mk (vwC D.length n m f) true), r]) = some (.c (.i .i64 (bif isDatL D.length n no then no else 0)), g ++ [some (Row.mk (vwC D.length n m f) true), r]) := by
  have l3 := vw_l3 (b := D.length) (n := n) (m := m) (f := f)
  have hI := fun h => geom_IsData_eq (b := D.length) (n := n) (m := m) (i := no) (h := h)
  rw [fmap_At_j0_eq]
  generalize vwC D.length n m f = V at *
  cases c : isDatL D.length n no with
  | false =>
    simp only [c] at hI
    simp only [esc, esh, Nat.reduceAdd, Nat.reduceMul, Nat.reduceLT, l3, hI]
  | true =>
    simp only [c] at hI
    simp only [esc, esh, Nat.reduceAdd, Nat.reduceMul, Nat.reduceLT, l3, hI]

theorem fmap_At_eq {D : Dev} {n m k l s p j : Int} {d : List Int} {f : Cell} {h : Heap} (hD : okD D) (hd : d.length = 7) (hv : IsView h f D) :
    S_fmap_At [.a (vwC D.length n m f), .a (inoC k l s p d), .c (.i .i64 j)] h = some (.c (.i .i64 (atF D n k d j)), h) := by
  have key : ∀ g, IsView g f D → ∃ g', R_fmap_At 0 [.a (vwC D.length n m f), .a (inoC k l s p d), .c (.i .i64 j)] g = some (.c (.i .i64 (atF D n k d j)), g') := by
    intro g hv
    have l3 := vw_l3 (b := D.length) (n := n) (m := m) (f := f)
    have l4 := vw_l4 (b := D.length) (n := n) (m := m) (f := f)
    have i0 : (inoC k l s p d)[0]? = some (.i .i64 k) := rfl
    have i10 : (inoC k l s p d)[10]? = some (.i .i64 (d.getD 6 0)) := by
      have : (inoC k l s p d)[10]? = (encI d)[6]? := rfl
      rw [this, encI_get, List.getElem?_eq_getElem (by omega), List.getD_eq_getElem?_getD, List.getElem?_eq_getElem (by omega)]; rfl
    have hJ := fun no => fmap_At_j0_ok (D := D) (n := n) (m := m) (no := no) (f := f) (q := 0) (g := g) (r := some (Row.mk (inoC k l s p d) true))
    rw [R_fmap_At_eq]
    by_cases c1 : k = 1
    · by_cases c2 : j < 0
      · have e : atF D n k d j = 0 := by unfold atF; rw [if_neg (by omega)]
        rw [e]
        generalize vwC D.length n m f = V at *
        generalize inoC k l s p d = I at *
        exact ⟨_, by simp only [esc, esh, Nat.reduceAdd, Nat.reduceMul, Nat.reduceLT, eq_self, i0, c1, c2] <;> rfl⟩
      · by_cases c3 : 134 ≤ j
        · have e : atF D n k d j = 0 := by unfold atF; rw [if_neg (by omega)]
          rw [e]
          generalize vwC D.length n m f = V at *
          generalize inoC k l s p d = I at *
          exact ⟨_, by simp only [esc, esh, Nat.reduceAdd, Nat.reduceMul, Nat.reduceLT, eq_self, i0, c1, c2, c3] <;> rfl⟩
        · obtain ⟨i, rfl⟩ : ∃ i : Nat, j = i := ⟨j.toNat, by omega⟩
          have e : atF D n k d i = datF1 D n d i := by unfold atF; rw [if_pos (by omega), Int.toNat_natCast]
          rw [e]
          unfold datF1
          by_cases c4 : (i : Int) < 6
          · have er : rawF D n d i = d.getD i 0 := by unfold rawF; rw [if_pos (by omega)]
            have ia : (inoC k l s p d)[4 + i]? = some (.i .i64 (d.getD i 0)) := by
              have : (inoC k l s p d)[4 + i]? = (encI d)[i]? := by
                rw [Nat.add_comm]; rfl
              rw [this, encI_get, List.getElem?_eq_getElem (by omega), List.getD_eq_getElem?_getD, List.getElem?_eq_getElem (by omega)]; rfl
            have ad := iAddrA_of (k := .i64) (id := g.length + 1) (off := 4) (sz := 1) (j := i) (n := 6) (by omega)
            rw [Nat.mul_one] at ad
            rw [er]
            generalize vwC D.length n m f = V at *
            generalize inoC k l s p d = I at *
            exact ⟨_, by simp only [esc, esh, Nat.reduceAdd, Nat.reduceMul, Nat.reduceLT, eq_self, i0, c1, c2, c3, c4, ad, ia, hJ] <;> rfl⟩
          · have er : rawF D n d i = bif isDatL D.length n (d.getD 6 0) then ptP (blk D (d.getD 6 0)) (i - 6) else 0 := by unfold rawF; rw [if_neg (by omega)]
            have hI := fun h => geom_IsData_eq (b := D.length) (n := n) (m := m) (i := d.getD 6 0) (h := h)
            rw [er]
            cases c5 : isDatL D.length n (d.getD 6 0) with
            | false =>
              simp only [c5] at hI
              generalize vwC D.length n m f = V at *
              generalize inoC k l s p d = I at *
              exact ⟨_, by simp only [esc, esh, Nat.reduceAdd, Nat.reduceMul, Nat.reduceLT, eq_self, i0, i10, c1, c2, c3, c4, l3, hI, hJ] <;> rfl⟩
            | true =>
              simp only [c5] at hI
              have hB := view_Block_eq (n := n) (m := m) (no := d.getD 6 0) (h := g ++ [some (Row.mk (vwC D.length n m f) true), some (Row.mk (inoC k l s p d) true)]) hD (hv.more _)
              have w : IntKind.wrap .i64 ((i : Int) - 6) = ((i - 6 : Nat) : Int) := by rw [wrap_i64 (by omega) (by omega)]; omega
              have hP := fun h => points_Get_at (b := blk D (d.getD 6 0)) (k := i - 6) (h := h) (blk_length hD) (by omega)
              generalize vwC D.length n m f = V at *
              generalize inoC k l s p d = I at *
              exact ⟨_, by simp only [esc, esh, Nat.reduceAdd, Nat.reduceMul, Nat.reduceLT, eq_self, i0, i10, c1, c2, c3, c4, l3, l4, hI, hB, w, hP, hJ] <;> rfl⟩
    · have e : atF D n k d j = 0 := by unfold atF; rw [if_neg (by omega)]
      rw [e]
      generalize vwC D.length n m f = V at *
      generalize inoC k l s p d = I at *
      exact ⟨_, by simp only [esc, esh, Nat.reduceAdd, Nat.reduceMul, Nat.reduceLT, eq_self, i0, c1] <;> rfl⟩
  obtain ⟨g', e⟩ := key (ro h) hv.ro
  exact S_fmap_At_flat e rfl

end Go.Proofs.Ytdgggnlbdoiloaa
end
section
namespace Go.Proofs.Ytdgggnlbdoiloaa
open Go Go.Esc

theorem pushK2 {h : Heap} {id n sz : Nat} {cs ys : List Cell} (hr : rd h id = some ⟨cs, true⟩) (hl : cs.length = n * sz) (hy : ys.length = sz) (hsz : 0 < sz) (hn : n + 1 ≤ 1073741824) :
    ∃ h', aapp (h ++ [some ⟨ys, true⟩]) sz (.c (.sl id 0 n sz)) (.c (.sl h.length 0 1 sz)) = some (.c (.sl (h.length + 1) 0 (n + 1) sz), h') ∧ rd h' (h.length + 1) = some ⟨cs ++ ys, true⟩ ∧ (∀ i r, i ≠ id → rd h i = some r → rd h' i = some r) ∧ (∀ b, b ≤ id → b ≤ h.length → Low b h h') := by
  have hlt := rd_lt hr
  refine ⟨(h ++ [some (Row.mk ys true)]).set id none ++ [some (Row.mk (cs ++ ys) true)], ?_, ?_, fun i r hi hir => ?_, fun b hb hb2 => (((Low.refl hb2).new _).set hb none).new _⟩
  · rw [app_of (h := h ++ [some ⟨ys, true⟩]) (m := 1) (rd_append hr) hl rd_new (by omega) rfl hsz hn]
    simp
  · have := rd_new (h := (h ++ [some (Row.mk ys true)]).set id none) (r := Row.mk (cs ++ ys) true)
    rw [List.length_set] at this
    simpa using this
  · refine rd_append ?_
    rw [rd_set_other (Ne.symm hi)]
    exact rd_append hir

def HeldI (h : Heap) (x : Cell) (l : List Int) (b : Nat) (rs : List Nat) : Prop := (l = [] ∧ x = .ns) ∨ ∃ id, x = .sl id 0 l.length 1 ∧ rd h id = some ⟨encI l, true⟩ ∧ b ≤ id ∧ id ∉ rs
def VarI (h : Heap) (r : Nat) (l : List Int) (b : Nat) (rs : List Nat) : Prop := ∃ x, rd h r = some ⟨[x], true⟩ ∧ HeldI h x l b rs

theorem VarI.nil {h : Heap} {r b : Nat} {rs : List Nat} (hr : rd h r = some ⟨[.ns], true⟩) : VarI h r [] b rs := ⟨.ns, hr, .inl ⟨rfl, rfl⟩⟩
theorem VarI.keep {h h' : Heap} {r b : Nat} {l : List Int} {rs : List Nat} (hv : VarI h r l b rs) (h1 : rd h' r = rd h r) (h2 : ∀ id, id ∉ rs → ∀ x, rd h id = some x → rd h' id = some x) : VarI h' r l b rs := by
  obtain ⟨x, hx, hd⟩ := hv
  refine ⟨x, by rw [h1]; exact hx, ?_⟩
  rcases hd with hd | ⟨id, e, hr, hb, hn⟩
  · exact .inl hd
  · exact .inr ⟨id, e, h2 id hn _ hr, hb, hn⟩
theorem VarI.more {h : Heap} {r b : Nat} {l : List Int} {rs : List Nat} (hv : VarI h r l b rs) (t : Heap) : VarI (h ++ t) r l b rs := by
  obtain ⟨x, hx, hd⟩ := hv
  refine ⟨x, rd_append hx, ?_⟩
  rcases hd with hd | ⟨id, e, hr, hb, hn⟩
  · exact .inl hd
  · exact .inr ⟨id, e, rd_append hr, hb, hn⟩

theorem app_ns1 {h : Heap} {jd m sz : Nat} {ys : List Cell} (hy : rd h jd = some ⟨ys, true⟩) (hyl : ys.length = m * sz) (hsz : 0 < sz) (hn : m ≤ 1073741824) :
    aapp h sz (.c .ns) (.c (.sl jd 0 m sz)) = some (.c (.sl h.length 0 m sz), h ++ [some ⟨ys, true⟩]) := by
  have h2 : addcells h sz (.c (.sl jd 0 m sz)) = some ys := by
    simp only [addcells, if_true, slcells, hy, Option.bind_some, List.drop_zero, Nat.zero_add]
    rw [← hyl, List.take_length, if_pos ⟨Nat.le_refl _, rfl⟩]
  have e1 : ys.length / sz = m := by rw [hyl]; exact Nat.mul_div_cancel _ hsz
  simp only [aapp, h2, Option.bind_some]
  rw [e1, if_pos hn]

theorem VarI.push {h : Heap} {r b : Nat} {l : List Int} {rs : List Nat} (hv : VarI h r l b rs) (hr : r ∈ rs) (hbr : b ≤ r) (hbh : b ≤ h.length) (hlt : ∀ j ∈ rs, j < h.length) (hl : l.length ≤ 100000) (n : Int) :
    ∃ x v h2 h3, aload1 h (.c (.p r 0)) = some (.c x) ∧ aapp (h ++ [some ⟨[.i .i64 n], true⟩]) 1 (.c x) (.c (.sl h.length 0 1 1)) = some (.c v, h2) ∧ astore1 h2 (.c (.p r 0)) (.c v) = some h3 ∧
      VarI h3 r (l ++ [n]) b rs ∧ Low b h h3 ∧ (∀ j ∈ rs, j ≠ r → rd h3 j = rd h j) ∧ h.length ≤ h3.length := by
  obtain ⟨x, hx, hd⟩ := hv
  have hrl := rd_lt hx
  have l1 : aload1 h (.c (.p r 0)) = some (.c x) := load1_of hx rfl (by simp)
  rcases hd with ⟨rfl, rfl⟩ | ⟨id, rfl, hi, hb, hn⟩
  · have hA := app_ns1 (h := h ++ [some ⟨[.i .i64 n], true⟩]) (jd := h.length) (m := 1) (sz := 1) (ys := [.i .i64 n]) (by simp) rfl (by omega) (by omega)
    have e1 : (h ++ [some (Row.mk [.i .i64 n] true)]).length = h.length + 1 := by simp
    rw [e1] at hA
    have hr2 : rd (h ++ [some (Row.mk [.i .i64 n] true)] ++ [some (Row.mk [.i .i64 n] true)]) r = some ⟨[.ns], true⟩ := rd_append (rd_append hx)
    have s1 := store1_of (x := .sl (h.length + 1) 0 1 1) (off := 0) hr2 (by simp)
    refine ⟨.ns, _, _, _, l1, hA, s1, ⟨.sl (h.length + 1) 0 1 1, rd_set_same (rd_lt hr2), .inr ⟨h.length + 1, rfl, ?_, by omega, fun h1 => by have := hlt _ h1; omega⟩⟩, (((Low.refl hbh).new _).new _).set hbr _, fun j hj hjr => ?_, by simp⟩
    · rw [rd_set_other (by omega)]
      have := rd_new (h := h ++ [some (Row.mk [.i .i64 n] true)]) (r := ⟨[.i .i64 n], true⟩)
      rw [e1] at this
      exact this
    · rw [rd_set_other (Ne.symm hjr)]
      have := hlt j hj
      rw [rd_append_left (by simp; omega), rd_append_left this]
  · have hil := rd_lt hi
    have hne : id ≠ r := fun e => hn (e ▸ hr)
    have hA := app_of (h := h ++ [some ⟨[.i .i64 n], true⟩]) (id := id) (jd := h.length) (n := l.length) (m := 1) (sz := 1) (cs := encI l) (ys := [.i .i64 n]) (rw := true) (rd_append hi) (by rw [encI_length, Nat.mul_one]) (by simp) rfl rfl (by omega) (by omega)
    have e1 : (h ++ [some (Row.mk [.i .i64 n] true)]).length = h.length + 1 := by simp
    rw [e1] at hA
    have ee : encI l ++ [Cell.i .i64 n] = encI (l ++ [n]) := by rw [encI_append]; rfl
    rw [ee] at hA
    have hr2 : rd ((h ++ [some (Row.mk [.i .i64 n] true)]).set id none ++ [some (Row.mk (encI (l ++ [n])) true)]) r = some ⟨[.sl id 0 l.length 1], true⟩ := by
      refine rd_append ?_
      rw [rd_set_other hne]; exact rd_append hx
    have s1 := store1_of (x := .sl (h.length + 1) 0 (l.length + 1) 1) (off := 0) hr2 (by simp)
    refine ⟨_, _, _, _, l1, hA, s1, ⟨.sl (h.length + 1) 0 (l.length + 1) 1, rd_set_same (rd_lt hr2), .inr ⟨h.length + 1, by simp, ?_, by omega, fun h1 => by have := hlt _ h1; omega⟩⟩, ((((Low.refl hbh).new _).set hb _).new _).set hbr _, fun j hj hjr => ?_, by simp; omega⟩
    · rw [rd_set_other (by omega)]
      have := rd_new (h := (h ++ [some (Row.mk [.i .i64 n] true)]).set id none) (r := ⟨encI (l ++ [n]), true⟩)
      rw [List.length_set, e1] at this
      exact this
    · have hji : j ≠ id := fun e => hn (e ▸ hj)
      have := hlt j hj
      rw [rd_set_other (Ne.symm hjr), rd_append_left (by simp; omega), rd_set_other (Ne.symm hji), rd_append_left this]

end Go.Proofs.Ytdgggnlbdoiloaa
end
section
namespace Go.Proofs.Ytdgggnlbdoiloaa
open Go Go.Esc

def eachF (at' : Int → Int) : Nat → Nat → List (Nat × Int)
  | 0, _ => []
  | e + 1, j => if at' j = 0 then eachF at' e (j + 1) else (j, at' j) :: eachF at' e (j + 1)
theorem eachF_length (at' : Int → Int) : ∀ e j, (eachF at' e j).length ≤ e
  | 0, j => by simp [eachF]
  | e + 1, j => by
    have := eachF_length at' e (j + 1)
    unfold eachF
    split <;> simp <;> omega
theorem eachF_none {at' : Int → Int} (h : ∀ j, at' j = 0) : ∀ e j, eachF at' e j = []
  | 0, j => rfl
  | e + 1, j => by rw [eachF, if_pos (h _), eachF_none h e]
theorem eachF_mem {at' : Int → Int} : ∀ (e j : Nat) (p : Nat × Int), p ∈ eachF at' e j → j ≤ p.1 ∧ p.1 < j + e ∧ p.2 = at' p.1 ∧ p.2 ≠ 0
  | 0, j, p, h => by simp [eachF] at h
  | e + 1, j, p, h => by
    rw [eachF] at h
    by_cases c : at' (j : Int) = 0
    · rw [if_pos c] at h
      have := eachF_mem e (j + 1) p h
      omega
    · rw [if_neg c] at h
      rcases List.mem_cons.1 h with rfl | h
      · exact ⟨Nat.le_refl _, by dsimp only; omega, rfl, c⟩
      · have := eachF_mem e (j + 1) p h
        omega
theorem each_gen {σ : Type} {L : Nat → Val → Heap → OptV} {C : Val → Val → Heap → OptV} {x3 x4 : Val} {D : Dev} {n m k l s p : Int} {d : List Int} {f : Cell} (hD : okD D) (hd : d.length = 7) (P : Nat → σ → Heap → Prop) (step : σ → Nat × Int → σ)
    (hL : ∀ m x h, L (m + 1) x h = bnd (abin .lss x (.c (.i .i64 134))) fun v3 => cnd v3 (bnd (aloadN h 4 x3) fun v4 => bnd (aloadN h 11 x4) fun v5 => bnd (S_fmap_At [v4, v5, x] h) fun p6 => bnd (abin .neq p6.1 (.c (.i .i64 0))) fun v7 => cnd v7 (bnd (C x p6.1 p6.2) fun p8 => bnd (abin .add x (.c (.i .i64 1))) fun v9 => L m v9 p8.2) (bnd (abin .add x (.c (.i .i64 1))) fun v9 => L m v9 p6.2)) (tupN [] h))
    (hM : ∀ j s' h, P j s' h → P (j + 1) s' h)
    (hI : ∀ j s' h, P j s' h → aloadN h 4 x3 = some (.a (vwC D.length n m f)) ∧ aloadN h 11 x4 = some (.a (inoC k l s p d)) ∧ IsView h f D)
    (hC : ∀ j s' h no, P j s' h → j < 134 → no ≠ 0 → no = atF D n k d (j : Nat) → ∃ h', C (.c (.i .i64 ((j : Nat) : Int))) (.c (.i .i64 no)) h = some (.t [], h') ∧ P (j + 1) (step s' (j, no)) h') :
    ∀ (e j M : Nat) (s' : σ) (h : Heap), j + e = 134 → e < M → P j s' h → ∃ h', L M (.c (.i .i64 (j : Int))) h = some (.t [], h') ∧ P 134 ((eachF (atF D n k d) e j).foldl step s') h'
  | e, j, 0, s', h, _, hm, _ => by omega
  | 0, j, M + 1, s', h, hj, hm, hP => by
    have c0 : ¬ (j : Int) < 134 := by omega
    have e0 : j = 134 := by omega
    refine ⟨h, ?_, e0 ▸ hP⟩
    rw [hL]
    simp only [bnd_some, abin_lss, c0, decide_false, cnd_f]
    rfl
  | e + 1, j, M + 1, s', h, hj, hm, hP => by
    have c0 : (j : Int) < 134 := by omega
    obtain ⟨i1, i2, i3⟩ := hI j s' h hP
    have hA := fmap_At_eq (n := n) (m := m) (k := k) (l := l) (s := s) (p := p) (j := (j : Int)) hD hd i3
    have w1 := wi_succ (show j + 1 < 9223372036854775808 by omega)
    rw [hL, eachF]
    by_cases c : atF D n k d j = 0
    · obtain ⟨h', f1, f2⟩ := each_gen hD hd P step hL hM hI hC e (j + 1) M s' h (by omega) (by omega) (hM _ _ _ hP)
      rw [if_pos c]
      refine ⟨h', ?_, f2⟩
      simp only [bnd_some, abin_lss, c0, decide_true, cnd_t, i1, i2, hA, c, abin_neq, ne_eq, eq_self, not_true_eq_false, decide_false, cnd_f, abin_add, w1]
      exact f1
    · obtain ⟨h1, g1, g2⟩ := hC j s' h (atF D n k d j) hP (by omega) c rfl
      obtain ⟨h', f1, f2⟩ := each_gen hD hd P step hL hM hI hC e (j + 1) M (step s' (j, atF D n k d j)) h1 (by omega) (by omega) g2
      rw [if_neg c]
      refine ⟨h', ?_, f2⟩
      simp only [bnd_some, abin_lss, c0, decide_true, cnd_t, i1, i2, hA, c, abin_neq, ne_eq, not_false_eq_true, g1, abin_add, w1]
      exact f1

def AnsI (h : Heap) (o : OptV) (l : List Int) : Prop := ∃ v t, o = some (v, h ++ t) ∧ Has (h ++ t) v 1 l.length (encI l) ∧ (t = [] ∧ v = .c .ns ∧ l = [] ∨ t = [some ⟨encI l, true⟩] ∧ v = .c (.sl h.length 0 l.length 1))

theorem ansI_of {S : Fun} {R : Nat → Fun} {args : List Val} {h g' : Heap} {N : Nat} {x : Cell} {l : List Int} {rs : List Nat}
    (hlow : ∀ {n : Nat} {args : List Val} {h h2 : Heap} {v : Val}, R n args (ro h) = some (v, h2) → v.low h.length = true → S args h = some (v, h))
    (hout : ∀ {n : Nat} {args : List Val} {h h2 : Heap} {v : Val} {sz k : Nat} {cs : List Cell}, R n args (ro h) = some (v, h2) → Out h.length h2 v sz k cs → flats cs = true → S args h = some (.c (.sl h.length 0 k sz), h ++ [some ⟨cs, true⟩]))
    (he : R N args (ro h) = some (.c x, g')) (hd : HeldI g' x l h.length rs) : AnsI h (S args h) l := by
  rcases hd with ⟨hl, rfl⟩ | ⟨id, rfl, hr, hbi, _⟩
  · refine ⟨.c .ns, [], ?_, ?_, .inl ⟨rfl, rfl, hl⟩⟩
    · rw [List.append_nil]; exact hlow he (by simp [Val.low, Cell.low, Cell.flat])
    · rw [hl]; exact .inl ⟨rfl, rfl, rfl⟩
  · exact ⟨.c (.sl h.length 0 l.length 1), [some ⟨encI l, true⟩], hout he ⟨by rw [encI_length, Nat.mul_one], id, rfl, hbi, hr⟩ (by simp), Has.row (rw := true) (by simp) (by rw [encI_length, Nat.mul_one]) (noX_encI _), .inr ⟨rfl, rfl⟩⟩

theorem fmap_Blocks_eq {D : Dev} {n m k l s p : Int} {d : List Int} {f : Cell} {h : Heap} (hD : okD D) (hd : d.length = 7) (hv : IsView h f D) :
    AnsI h (S_fmap_Blocks [.a (vwC D.length n m f), .a (inoC k l s p d)] h) ((eachF (atF D n k d) 134 0).map (·.2)) := by
  have key : ∀ g, IsView g f D → ∃ x g', R_fmap_Blocks 0 [.a (vwC D.length n m f), .a (inoC k l s p d)] g = some (.c x, g') ∧ HeldI g' x ((eachF (atF D n k d) 134 0).map (·.2)) g.length [g.length + 3, g.length + 4, g.length + 5] := by
    intro g hv
    have hIl : (inoC k l s p d).length = 11 := by simp [inoC, encI_length, hd]
    have l11 : ldN (some (Row.mk (inoC k l s p d) true)) 0 11 = some (.a (inoC k l s p d)) := ldN_all hIl
    have l4 := vw_l4 (b := D.length) (n := n) (m := m) (f := f)
    obtain ⟨G, hG⟩ : ∃ G, G = g ++ [some (Row.mk (vwC D.length n m f) true), some (Row.mk (inoC k l s p d) true), some (Row.mk [] true), some (Row.mk [.ns] true), some (Row.mk (vwC D.length n m f) true), some (Row.mk (inoC k l s p d) true)] := ⟨_, rfl⟩
    have lG : G.length = g.length + 6 := by rw [hG]; simp
    have hvG : IsView G f D := by rw [hG]; exact hv.more _
    have emk : amkf 62 [.c (.p (g.length + 3) 0)] = some (.c (.f 62 [(g.length + 3, 0)])) := rfl
    have hcv : ∀ (x y : Val) (h : Heap), callv E_fmap_each__Blocks_1 (.c (.f 62 [(g.length + 3, 0)])) [x, y] h = S_fmap_Blocks_1 [x, y, .c (.p (g.length + 3) 0)] h := fun _ _ _ => Eq.trans rfl rfl
    obtain ⟨h', f1, f2⟩ := each_gen (σ := List Int) (L := fun M x h => fmap_each__Blocks_1_l0 135 M (.c (.f 62 [(g.length + 3, 0)])) (.c (.p (g.length + 4) 0)) (.c (.p (g.length + 5) 0)) x h) (C := fun x y h => callv E_fmap_each__Blocks_1 (.c (.f 62 [(g.length + 3, 0)])) [x, y] h)
      (x3 := .c (.p (g.length + 4) 0)) (x4 := .c (.p (g.length + 5) 0)) (n := n) (m := m) (k := k) (l := l) (s := s) (p := p) (f := f) hD hd
      (fun j ls h => VarI h (g.length + 3) ls g.length [g.length + 3, g.length + 4, g.length + 5] ∧ ls.length ≤ j ∧ Low g.length g h ∧ g.length + 6 ≤ h.length ∧ rd h (g.length + 4) = some ⟨vwC D.length n m f, true⟩ ∧ rd h (g.length + 5) = some ⟨inoC k l s p d, true⟩)
      (fun ls q => ls ++ [q.2])
      (fun m x h => by rw [fmap_each__Blocks_1_l0_eq]; simp only [fmap_each__Blocks_1_j0_eq])
      (fun j ls h hP => ⟨hP.1, by omega, hP.2.2⟩)
      (fun j ls h hP => ⟨loadAll hP.2.2.2.2.1 rfl, loadAll hP.2.2.2.2.2 hIl, hv.since hP.2.2.1⟩)
      (fun j ls h no hP hj hno _ => by
        obtain ⟨p1, p2, p3, p4, p5, p6⟩ := hP
        obtain ⟨x, v, h2, h3, a1, a2, a3, a4, a5, a6, a7⟩ := p1.push (by simp) (by omega) (by omega) (by intro q hq; simp only [List.mem_cons, List.not_mem_nil, or_false] at hq; omega) (by omega) no
        have ef : afill [Cell.i .i64 0] [(0, 1, .c (.i .i64 no))] = some [.i .i64 no] := rfl
        refine ⟨h3, ?_, a4, by simp; omega, p3.trans a5, by omega, by rw [a6 _ (by simp) (by omega)]; exact p5, by rw [a6 _ (by simp) (by omega)]; exact p6⟩
        rw [hcv]
        refine S_fmap_Blocks_1_of (n := 0) ?_
        rw [R_fmap_Blocks_1_eq]
        simp only [bnd_some, a1, ef, a2, a3]
        rfl) 134 0 135 [] G (by omega) (by omega) ⟨VarI.nil (by rw [hG]; simp), by simp, by rw [hG]; exact (Low.refl (Nat.le_refl _)).new _, by omega, by rw [hG]; simp, by rw [hG]; simp⟩
    have ef2 : ∀ (L : List (Nat × Int)) (s0 : List Int), L.foldl (fun ls q => ls ++ [q.2]) s0 = s0 ++ L.map (·.2) := by
      intro L
      induction L with
      | nil => intro s0; simp
      | cons q L ih => intro s0; rw [List.foldl_cons, ih]; simp
    rw [ef2, List.nil_append] at f2
    have hS : S_fmap_each__Blocks_1 [.a (vwC D.length n m f), .a (inoC k l s p d), .c (.f 62 [(g.length + 3, 0)])] (g ++ [some (Row.mk (vwC D.length n m f) true), some (Row.mk (inoC k l s p d) true), some (Row.mk [] true), some (Row.mk [.ns] true)]) = some (.t [], h') := by
      refine S_fmap_each__Blocks_1_of (n := 135) ?_
      rw [R_fmap_each__Blocks_1_eq]
      rw [hG] at f1
      generalize vwC D.length n m f = V at *
      generalize inoC k l s p d = I at *
      simp only [esc]
      exact f1
    obtain ⟨⟨x, hx, hd'⟩, _⟩ := f2
    have t1 : aload1 h' (.c (.p (g.length + 3) 0)) = some (.c x) := load1_of hx rfl (by simp)
    refine ⟨x, h', ?_, hd'⟩
    rw [R_fmap_Blocks_eq]
    generalize vwC D.length n m f = V at *
    generalize inoC k l s p d = I at *
    simp only [esc, esh, Nat.reduceAdd, Nat.reduceMul, Nat.reduceLT, l4, l11, emk, hS, t1]
  obtain ⟨x, g', e, hd'⟩ := key (ro h) hv.ro
  exact ansI_of (S := S_fmap_Blocks) (R := R_fmap_Blocks) (N := 0) S_fmap_Blocks_low S_fmap_Blocks_out e (by rw [ro_length] at hd'; exact hd')

def blkN (s : Int) : Int := if s < 1 then 0 else if 34304 < s then 134 else (s + 255) / 256
def beyF (at' : Int → Int) (s : Int) : List Int := ((eachF at' 134 0).filter fun q => decide (blkN s ≤ (q.1 : Int))).map fun q => (q.1 : Int)

theorem fmap_Beyond_eq {D : Dev} {n m k l s p : Int} {d : List Int} {f : Cell} {h : Heap} (hD : okD D) (hd : d.length = 7) (hv : IsView h f D) :
    AnsI h (S_fmap_Beyond [.a (vwC D.length n m f), .a (inoC k l s p d)] h) (beyF (atF D n k d) s) := by
  have key : ∀ g, IsView g f D → ∃ x g', R_fmap_Beyond 0 [.a (vwC D.length n m f), .a (inoC k l s p d)] g = some (.c x, g') ∧ HeldI g' x (beyF (atF D n k d) s) g.length [g.length + 3, g.length + 4, g.length + 5, g.length + 1] := by
    intro g hv
    have hIl : (inoC k l s p d).length = 11 := by simp [inoC, encI_length, hd]
    have l11 : ldN (some (Row.mk (inoC k l s p d) true)) 0 11 = some (.a (inoC k l s p d)) := ldN_all hIl
    have l4 := vw_l4 (b := D.length) (n := n) (m := m) (f := f)
    obtain ⟨G, hG⟩ : ∃ G, G = g ++ [some (Row.mk (vwC D.length n m f) true), some (Row.mk (inoC k l s p d) true), some (Row.mk [] true), some (Row.mk [.ns] true), some (Row.mk (vwC D.length n m f) true), some (Row.mk (inoC k l s p d) true)] := ⟨_, rfl⟩
    have lG : G.length = g.length + 6 := by rw [hG]; simp
    have emk : amkf 65 [.c (.p (g.length + 1) 0), .c (.p (g.length + 3) 0)] = some (.c (.f 65 [(g.length + 1, 0), (g.length + 3, 0)])) := rfl
    have hcv : ∀ (x y : Val) (h : Heap), callv E_fmap_each__Beyond_1 (.c (.f 65 [(g.length + 1, 0), (g.length + 3, 0)])) [x, y] h = S_fmap_Beyond_1 [x, y, .c (.p (g.length + 1) 0), .c (.p (g.length + 3) 0)] h := fun _ _ _ => Eq.trans rfl rfl
    obtain ⟨h', f1, f2⟩ := each_gen (σ := List Int) (L := fun M x h => fmap_each__Beyond_1_l0 135 M (.c (.f 65 [(g.length + 1, 0), (g.length + 3, 0)])) (.c (.p (g.length + 4) 0)) (.c (.p (g.length + 5) 0)) x h) (C := fun x y h => callv E_fmap_each__Beyond_1 (.c (.f 65 [(g.length + 1, 0), (g.length + 3, 0)])) [x, y] h)
      (x3 := .c (.p (g.length + 4) 0)) (x4 := .c (.p (g.length + 5) 0)) (n := n) (m := m) (k := k) (l := l) (s := s) (p := p) (f := f) hD hd
      (fun j ls h => VarI h (g.length + 3) ls g.length [g.length + 3, g.length + 4, g.length + 5, g.length + 1] ∧ ls.length ≤ j ∧ Low g.length g h ∧ g.length + 6 ≤ h.length ∧ rd h (g.length + 4) = some ⟨vwC D.length n m f, true⟩ ∧ rd h (g.length + 5) = some ⟨inoC k l s p d, true⟩ ∧ rd h (g.length + 1) = some ⟨inoC k l s p d, true⟩)
      (fun ls q => if blkN s ≤ (q.1 : Int) then ls ++ [(q.1 : Int)] else ls)
      (fun m x h => by rw [fmap_each__Beyond_1_l0_eq]; simp only [fmap_each__Beyond_1_j0_eq])
      (fun j ls h hP => ⟨hP.1, by omega, hP.2.2⟩)
      (fun j ls h hP => ⟨loadAll hP.2.2.2.2.1 rfl, loadAll hP.2.2.2.2.2.1 hIl, hv.since hP.2.2.1⟩)
      (fun j ls h no hP hj hno _ => by
        obtain ⟨p1, p2, p3, p4, p5, p6, p7⟩ := hP
        have fa : afAddr (.c (.p (g.length + 1) 0)) 2 = some (.c (.p (g.length + 1) 2)) := rfl
        have ls2 : aload1 h (.c (.p (g.length + 1) 2)) = some (.c (.i .i64 s)) := load1_of p7 rfl rfl
        have hN := inode_Blocks_eq (n := s) (h := h)
        have eN : (if s < 1 then 0 else if 34304 < s then 134 else (s + 255) / 256) = blkN s := rfl
        rw [eN] at hN
        by_cases c : blkN s ≤ (j : Int)
        · obtain ⟨x, v, h2, h3, a1, a2, a3, a4, a5, a6, a7⟩ := p1.push (by simp) (by omega) (by omega) (by intro q hq; simp only [List.mem_cons, List.not_mem_nil, or_false] at hq; omega) (by omega) (j : Int)
          have ef : afill [Cell.i .i64 0] [(0, 1, .c (.i .i64 (j : Int)))] = some [.i .i64 (j : Int)] := rfl
          refine ⟨h3, ?_, ?_⟩
          · rw [hcv]
            refine S_fmap_Beyond_1_of (n := 0) ?_
            rw [R_fmap_Beyond_1_eq]
            simp only [bnd_some, fa, ls2, hN, abin_geq, c, decide_true, cnd_t, a1, ef, a2, a3]
            rfl
          · rw [if_pos c]
            exact ⟨a4, by simp; omega, p3.trans a5, by omega, by rw [a6 _ (by simp) (by omega)]; exact p5, by rw [a6 _ (by simp) (by omega)]; exact p6, by rw [a6 _ (by simp) (by omega)]; exact p7⟩
        · refine ⟨h, ?_, ?_⟩
          · rw [hcv]
            refine S_fmap_Beyond_1_of (n := 0) ?_
            rw [R_fmap_Beyond_1_eq]
            simp only [bnd_some, fa, ls2, hN, abin_geq, c, decide_false, cnd_f]
            rfl
          · rw [if_neg c]
            exact ⟨p1, by omega, p3, p4, p5, p6, p7⟩) 134 0 135 [] G (by omega) (by omega) ⟨VarI.nil (by rw [hG]; simp), by simp, by rw [hG]; exact (Low.refl (Nat.le_refl _)).new _, by omega, by rw [hG]; simp, by rw [hG]; simp, by rw [hG]; simp⟩
    have ef2 : ∀ (L : List (Nat × Int)) (s0 : List Int), L.foldl (fun ls q => if blkN s ≤ (q.1 : Int) then ls ++ [(q.1 : Int)] else ls) s0 = s0 ++ (L.filter fun q => decide (blkN s ≤ (q.1 : Int))).map fun q => (q.1 : Int) := by
      intro L
      induction L with
      | nil => intro s0; simp
      | cons q L ih =>
        intro s0
        rw [List.foldl_cons, ih]
        by_cases c : blkN s ≤ (q.1 : Int)
        · simp [c]
        · simp [c]
    rw [ef2, List.nil_append] at f2
    have hS : S_fmap_each__Beyond_1 [.a (vwC D.length n m f), .a (inoC k l s p d), .c (.f 65 [(g.length + 1, 0), (g.length + 3, 0)])] (g ++ [some (Row.mk (vwC D.length n m f) true), some (Row.mk (inoC k l s p d) true), some (Row.mk [] true), some (Row.mk [.ns] true)]) = some (.t [], h') := by
      refine S_fmap_each__Beyond_1_of (n := 135) ?_
      rw [R_fmap_each__Beyond_1_eq]
      rw [hG] at f1
      generalize vwC D.length n m f = V at *
      generalize inoC k l s p d = I at *
      simp only [esc]
      exact f1
    obtain ⟨⟨x, hx, hd'⟩, _⟩ := f2
    have t1 : aload1 h' (.c (.p (g.length + 3) 0)) = some (.c x) := load1_of hx rfl (by simp)
    refine ⟨x, h', ?_, hd'⟩
    rw [R_fmap_Beyond_eq]
    generalize vwC D.length n m f = V at *
    generalize inoC k l s p d = I at *
    simp only [esc, esh, Nat.reduceAdd, Nat.reduceMul, Nat.reduceLT, l4, l11, emk, hS, t1]
  obtain ⟨x, g', e, hd'⟩ := key (ro h) hv.ro
  exact ansI_of (S := S_fmap_Beyond) (R := R_fmap_Beyond) (N := 0) S_fmap_Beyond_low S_fmap_Beyond_out e (by rw [ro_length] at hd'; exact hd')

end Go.Proofs.Ytdgggnlbdoiloaa
end
section
namespace Go.Proofs.Ytdgggnlbdoiloaa
open Go Go.Esc

def depX (d : Int) : Nat := (max 0 (min d 5)).toNat
theorem depX_le (d : Int) : depX d ≤ 5 := by unfold depX; omega
theorem depX_of {d : Int} (h0 : 0 ≤ d) (h5 : d ≤ 5) : ((depX d : Nat) : Int) = d := by unfold depX; omega
theorem depX_max (d : Int) : (max 0 (min d 5)) = ((depX d : Nat) : Int) := by unfold depX; omega
def manyX (d : Int) : Nat := 2 ^ depX d
theorem pow_le32 {n : Nat} (h : n ≤ 5) : 2 ^ n ≤ 32 := by
  have := Nat.pow_le_pow_right (n := 2) (by omega) h
  simpa using this
theorem manyX_le (d : Int) : manyX d ≤ 32 := pow_le32 (depX_le d)
theorem zI_enc : [Cell.i .i64 0] ++ List.replicate 32 (Cell.i .i64 0) = encI (0 :: zI 32) := by
  simp [encI, zI]
def toX (t : List Int) (i : Nat) : Int := t.getD i 0
theorem toX_get {t : List Int} {i : Nat} (h : i < t.length) : t[i]? = some (toX t i) := by
  unfold toX; rw [List.getD_eq_getElem?_getD, List.getElem?_eq_getElem h]; rfl

def finI (n : Int) : Bool := decide (0 ≤ n) && decide (n ≤ 65535)
theorem index_fine_eq {n : Int} {h : Heap} : S_index_fine [.c (.i .i64 n)] h = some (.c (.b (finI n)), h) := by
  refine S_index_fine_flat (n := 0) (h2 := ro h) ?_ rfl
  rw [R_index_fine_eq]
  unfold finI
  by_cases c : 0 ≤ n
  · simp only [esc, c, Bool.true_and]
  · simp only [esc, c, Bool.false_and]

theorem encX_length {d : Int} {t : List Int} (ht : t.length = 32) : (encI (d :: t)).length = 33 := by rw [encI_length]; simp [ht]
theorem encX_get {d : Int} {t : List Int} {i : Nat} (ht : t.length = 32) (hi : i < 32) : (encI (d :: t))[1 + i]? = some (.i .i64 (toX t i)) := by
  rw [encI_get, Nat.add_comm 1 i, List.getElem?_cons_succ, toX_get (by omega)]; rfl
theorem encX_set {d : Int} {t : List Int} {i : Nat} {v : Int} : (encI (d :: t)).set (1 + i) (.i .i64 v) = encI (d :: t.set i v) := by
  rw [encI_set, Nat.add_comm 1 i, List.set_cons_succ]

theorem ldX {h : Heap} {id : Nat} {d : Int} {t : List Int} {rw : Bool} (hr : rd h id = some ⟨encI (d :: t), rw⟩) (ht : t.length = 32) {i : Nat} (hi : i < 32) : aload1 h (.c (.p id (1 + i))) = some (.c (.i .i64 (toX t i))) :=
  load1_of hr (encX_get ht hi) (by simp [Cell.isX])
theorem adX {id i : Nat} (hi : i < 32) : aiAddrA 32 1 (.c (.p id (0 + 1))) (.c (.i .i64 (i : Int))) = some (.c (.p id (1 + i))) := by rw [iAddrA_of hi]; simp

theorem index_depth_eq {d : Int} {t : List Int} {h : Heap} : S_index_depth [.a (encI (d :: t))] h = some (.c (.i .i64 (depX d : Nat)), h) := by
  have key : ∀ g, ∃ g', R_index_depth 0 [.a (encI (d :: t))] g = some (.c (.i .i64 (depX d : Nat)), g') := by
    intro g
    have e1 : amin (.c (.i .i64 d)) (.c (.i .i64 5)) = some (.c (.i .i64 (min d 5))) := by
      simp only [amin]
      by_cases h : (5 : Int) < d
      · rw [if_pos h, Int.min_eq_right (by omega)]
      · rw [if_neg h, Int.min_eq_left (by omega)]
    have e2 : amax (.c (.i .i64 0)) (.c (.i .i64 (min d 5))) = some (.c (.i .i64 (depX d : Nat))) := by
      rw [← depX_max]
      simp only [amax]
      by_cases h : (min d 5 : Int) > 0
      · rw [if_pos h, Int.max_eq_right (by omega)]
      · rw [if_neg h, Int.max_eq_left (by omega)]
    have e3 : aload1 (g ++ [some (Row.mk (encI (d :: t)) true)]) (.c (.p g.length 0)) = some (.c (.i .i64 d)) := load1_of (rd_new) rfl rfl
    rw [R_index_depth_eq]
    generalize hz : encI (d :: t) = z at *
    exact ⟨_, by simp only [esc, e3, e1, e2] <;> rfl⟩
  obtain ⟨g', e⟩ := key (ro h)
  exact S_index_depth_flat e rfl

theorem shl_one {k : Nat} (hk : k ≤ 5) : abin .shl (.c (.i .i64 1)) (.c (.i .u64 (k : Int))) = some (.c (.i .i64 ((2 ^ k : Nat) : Int))) := by
  rw [abin_shl (by omega)]
  have h1 : Nat.min (k : Int).toNat (IntKind.i64).bits = k := by
    have : (IntKind.i64).bits = 64 := rfl
    rw [this, Int.toNat_natCast]; exact Nat.min_eq_left (by omega)
  have h2 := pow_le32 hk
  rw [h1, Int.one_mul]
  have e : (2 : Int) ^ k = ((2 ^ k : Nat) : Int) := by simp
  rw [e]
  generalize 2 ^ k = y at h2 ⊢
  rw [wrap_i64 (by omega) (by omega)]
theorem wrap_u64n {k : Nat} (hk : k ≤ 64) : IntKind.wrap .u64 (k : Int) = (k : Int) := wrap_u64 (by omega) (by omega)

theorem index_many_eq {d : Int} {t : List Int} {h : Heap} (ht : t.length = 32) : S_index_many [.a (encI (d :: t))] h = some (.c (.i .i64 (manyX d : Nat)), h) := by
  have key : ∀ g, ∃ g', R_index_many 0 [.a (encI (d :: t))] g = some (.c (.i .i64 (manyX d : Nat)), g') := by
    intro g
    have hl := encX_length (d := d) ht
    have hd := fun h => index_depth_eq (d := d) (t := t) (h := h)
    have e1 := shl_one (depX_le d)
    have e2 := wrap_u64n (k := depX d) (by have := depX_le d; omega)
    rw [R_index_many_eq]
    unfold manyX
    generalize encI (d :: t) = z at *
    exact ⟨_, by simp only [esc, esh, Nat.reduceAdd, Nat.reduceMul, Nat.reduceLT, hl, hd, e1, e2] <;> rfl⟩
  obtain ⟨g', e⟩ := key (ro h)
  exact S_index_many_flat e rfl

def firstX (t : List Int) (i : Nat) : Bool := (List.range i).all fun k => !decide (toX t k = toX t i)

theorem first_loop {d : Int} {t : List Int} {g : Heap} {i q : Nat} (ht : t.length = 32) (hi : i < 32) : ∀ e k m : Nat, k + e = i → e < m →
    index_first_l0 q m (.c (.i .i64 (i : Int))) (.c (.p g.length 0)) (.c (.i .i64 (i : Int))) (.c (.i .i64 (k : Int))) (g ++ [some ⟨encI (d :: t), true⟩]) =
      some (.c (.b ((List.range' k e).all fun k => !decide (toX t k = toX t i))), g ++ [some ⟨encI (d :: t), true⟩])
  | e, k, 0, _, hm => by omega
  | 0, k, m + 1, hk, hm => by
    have c0 : ¬ (k : Int) < i := by omega
    rw [index_first_l0_eq]
    simp only [esc, c0, List.range'_zero]
  | e + 1, k, m + 1, hk, hm => by
    have ih := first_loop (d := d) (g := g) (q := q) ht hi e (k + 1) m (by omega) (by omega)
    have c0 : (k : Int) < i := by omega
    have a1 := adX (id := g.length) (i := k) (by omega)
    have a2 := adX (id := g.length) (i := i) (by omega)
    have l1 := ldX (h := g ++ [some (Row.mk (encI (d :: t)) true)]) (id := g.length) rd_new ht (i := k) (by omega)
    have l2 := ldX (h := g ++ [some (Row.mk (encI (d :: t)) true)]) (id := g.length) rd_new ht (i := i) (by omega)
    rw [index_first_l0_eq, List.range'_succ, List.all_cons]
    by_cases c : toX t k = toX t i
    · rw [decide_eq_true c, Bool.not_true, Bool.false_and]
      rw [c] at l1
      simp only [esc, c0, a1, a2, l1, l2]
    · rw [decide_eq_false c, Bool.not_false, Bool.true_and]
      simp only [esc, c0, a1, a2, l1, l2, c, wi_succ (show k + 1 < 9223372036854775808 by omega)]
      exact ih

theorem index_first_eq {d : Int} {t : List Int} {i : Nat} {h : Heap} (ht : t.length = 32) (hi : i < 32) : S_index_first [.a (encI (d :: t)), .c (.i .i64 (i : Int))] h = some (.c (.b (firstX t i)), h) := by
  have key : ∀ N, i < N → ∀ g, ∃ g', R_index_first N [.a (encI (d :: t)), .c (.i .i64 (i : Int))] g = some (.c (.b (firstX t i)), g') := by
    intro N hN g
    have e := first_loop (d := d) (g := g) (q := N) ht hi i 0 N (by omega) hN
    rw [R_index_first_eq]
    unfold firstX
    rw [List.range_eq_range']
    exact ⟨_, by simp only [esc]; exact e⟩
  obtain ⟨g', e⟩ := key (i + 1) (by omega) (ro h)
  exact S_index_first_flat e rfl

end Go.Proofs.Ytdgggnlbdoiloaa
end
section
namespace Go.Proofs.Ytdgggnlbdoiloaa
open Go Go.Esc

def numB (d : List Int) : List UInt8 := (d.map (bytesI 2)).flatten
theorem numB_length {d : List Int} : (numB d).length = 2 * d.length := by
  induction d with
  | nil => rfl
  | cons x d ih => simp only [numB, List.map_cons, List.flatten_cons, List.length_append, bytesI_length, List.length_cons] at ih ⊢; omega
theorem numB_snoc {d : List Int} {x : Int} : numB (d ++ [x]) = numB d ++ bytesI 2 x := by simp [numB]

def magX : List UInt8 := [105, 100, 120, 33]
def idxH (d : Int) : List UInt8 := magX ++ bytesI 1 d ++ zeros 27
theorem idxH_length {d : Int} : (idxH d).length = 32 := by simp [idxH, magX]
def idxB (d : Int) (t : List Int) : List UInt8 := padB 256 (idxH d ++ numB t)
theorem idxB_length {d : Int} {t : List Int} (ht : t.length = 32) : (idxB d t).length = 256 := padB_length (by rw [List.length_append, idxH_length, numB_length]; omega)

theorem padB_zeros {n k : Nat} {l : List UInt8} (h : l.length + k ≤ n) : padB n (l ++ zeros k) = padB n l := by
  unfold padB zeros
  rw [List.append_assoc, List.replicate_append_replicate, List.length_append, List.length_replicate]
  congr 2; omega

def okX (d : Int) (t : List Int) : Bool := decide (0 ≤ d) && (decide (d ≤ 5) && t.all finI)

theorem iput_loop {d : Int} {t : List Int} {g : Heap} {y : List Cell} {q : Nat} (ht : t.length = 32) (hyl : y.length = 33) : ∀ e i m : Nat, i + e = 32 → e < m →
    ∃ h', index_Put_l0 q m (.c (.p (g.length + 1) 0)) (.c (.p (g.length + 3) 0)) (.a (encI t)) (.c (.i .i64 (i : Int))) (g ++ [some (Row.mk y true), some (Row.mk (encB (zeros 256)) true), some (Row.mk (encB magX) true), some (Row.mk (encB (padB 256 (idxH d ++ numB (t.take i)))) true)]) =
      some (.t [.a (encB (bif (t.drop i).all finI then idxB d t else zeros 256)), .c (.i .i64 (bif (t.drop i).all finI then 0 else 1))], h')
  | e, i, 0, _, hm => by omega
  | 0, i, m + 1, hi, hm => by
    have e0 : i = 32 := by omega
    subst e0
    have c0 : ¬ ((32 : Nat) : Int) < 32 := by omega
    have hz : (encB (zeros 256)).length = 256 := by rw [encB_length]; exact zeros_length
    have hB : (encB (idxB d t)).length = 256 := by rw [encB_length]; exact idxB_length ht
    have eB : padB 256 (idxH d ++ numB t) = idxB d t := rfl
    rw [index_Put_l0_eq, List.take_of_length_le (by omega), List.drop_of_length_le (by omega), List.all_nil, cond_true, cond_true, eB]
    generalize idxB d t = B at *
    generalize encB magX = mg at *
    generalize zeros 256 = z at *
    exact ⟨_, by simp only [esc, esh, Nat.reduceAdd, Nat.reduceMul, Nat.reduceLT, c0, hz, hB] <;> rfl⟩
  | e + 1, i, m + 1, hi, hm => by
    obtain ⟨h', ih⟩ := iput_loop (d := d) (g := g) (q := q) ht hyl e (i + 1) m (by omega) (by omega)
    have c0 : (i : Int) < 32 := by omega
    have hz : (encB (zeros 256)).length = 256 := by rw [encB_length]; exact zeros_length
    have haf : afill (List.replicate 256 (Cell.i .u8 0)) [] = some (List.replicate 256 (Cell.i .u8 0)) := rfl
    rw [zeros_enc] at haf
    have hx : aidxA1 32 (.a (encI t)) (.c (.i .i64 (i : Int))) = some (.c (.i .i64 t[i])) := by
      rw [idxA1_of (by omega), encI_get, List.getElem?_eq_getElem (by omega)]; rfl
    have hF := fun h => index_fine_eq (n := t[i]) (h := h)
    have hnl : (idxH d ++ numB (t.take i)).length = 32 + 2 * i := by rw [List.length_append, idxH_length, numB_length, List.length_take]; omega
    have hP0 : (padB 256 (idxH d ++ numB (t.take i))).length = 256 := padB_length (by omega)
    have hp : (encB (padB 256 (idxH d ++ numB (t.take i)))).length = 256 := by rw [encB_length, hP0]
    have hW := fun h => num_With_eq (h := h) (l := padB 256 (idxH d ++ numB (t.take i))) hP0 (a := ((32 + 2 * i : Nat) : Int)) (w := 2) (v := t[i])
    have ew := withB_pad (l := idxH d ++ numB (t.take i)) (a := 32 + 2 * i) (w := 2) (v := t[i]) (by omega) (by omega) (by omega) (by omega)
    rw [hnl, Nat.sub_self, show zeros 0 = [] from rfl, List.append_nil, List.append_assoc, ← numB_snoc, ← List.take_succ_eq_append_getElem (by omega)] at ew
    rw [show ((2 : Nat) : Int) = 2 from rfl] at ew
    rw [ew] at hW
    have hp2 : (encB (padB 256 (idxH d ++ numB (t.take (i + 1))))).length = 256 := by rw [encB_length, padB_length (by rw [List.length_append, idxH_length, numB_length, List.length_take]; omega)]
    have w1 : IntKind.wrap .i64 (2 * (i : Int)) = ((2 * i : Nat) : Int) := by rw [wrap_i64 (by omega) (by omega)]; omega
    have w2 : IntKind.wrap .i64 (32 + ((2 * i : Nat) : Int)) = ((32 + 2 * i : Nat) : Int) := by rw [wrap_i64 (by omega) (by omega)]; omega
    rw [index_Put_l0_eq, zeros_enc, List.drop_eq_getElem_cons (by omega : i < t.length), List.all_cons]
    generalize padB 256 (idxH d ++ numB (t.take (i + 1))) = P1 at *
    generalize padB 256 (idxH d ++ numB (t.take i)) = P0 at *
    generalize idxB d t = B at *
    generalize encB magX = mg at *
    generalize zeros 256 = z at *
    cases c : finI t[i] with
    | false =>
      rw [c] at hF
      rw [Bool.false_and, cond_false, cond_false]
      exact ⟨_, by simp only [esc, esh, Nat.reduceAdd, Nat.reduceMul, Nat.reduceLT, c0, hx, hF, haf, hz] <;> rfl⟩
    | true =>
      rw [c] at hF
      rw [Bool.true_and]
      refine ⟨h', ?_⟩
      simp only [esc, esh, Nat.reduceAdd, Nat.reduceMul, Nat.reduceLT, c0, hx, hF, hp, w1, w2, hW, hp2, wi_succ (show i + 1 < 9223372036854775808 by omega)]
      exact ih

theorem index_Put_eq {d : Int} {t : List Int} {h : Heap} (ht : t.length = 32) : S_index_Put [.a (encI (d :: t))] h = some (.t [.a (encB (bif okX d t then idxB d t else zeros 256)), .c (.i .i64 (bif okX d t then 0 else 1))], h) := by
  have key : ∀ N, 32 < N → ∀ g, ∃ g', R_index_Put N [.a (encI (d :: t))] g = some (.t [.a (encB (bif okX d t then idxB d t else zeros 256)), .c (.i .i64 (bif okX d t then 0 else 1))], g') := by
    intro N hN g
    have hB := encX_length (d := d) ht
    have hz : (encB (zeros 256)).length = 256 := by rw [encB_length]; exact zeros_length
    have hD := fun h => index_depth_eq (d := d) (t := t) (h := h)
    have l0 : (encI (d :: t))[0]? = some (.i .i64 d) := rfl
    have haf : afill (List.replicate 256 (Cell.i .u8 0)) [] = some (List.replicate 256 (Cell.i .u8 0)) := rfl
    rw [zeros_enc] at haf
    rw [R_index_Put_eq, zeros_enc]
    unfold okX
    by_cases c : 0 ≤ d ∧ d ≤ 5
    · rw [decide_eq_true c.1, decide_eq_true c.2, Bool.true_and, Bool.true_and]
      have hd := depX_of c.1 c.2
      rw [hd] at hD
      have ef : afill [Cell.i .u8 0, .i .u8 0, .i .u8 0, .i .u8 0] [(0, 1, .c (.i .u8 105)), (1, 1, .c (.i .u8 100)), (2, 1, .c (.i .u8 120)), (3, 1, .c (.i .u8 33))] = some (encB magX) := rfl
      have hO := num_Of_eq (data := magX) (v := .c (.sl (g.length + 2) 0 4 1)) (nv := 4) (h := g ++ [some (Row.mk (encI (d :: t)) true), some (Row.mk (encB (zeros 256)) true), some (Row.mk (encB magX) true), none]) (Has.row (rw := true) (by simp) rfl (noX_encB _)) (by decide)
      rw [of_pad (by decide)] at hO
      have hM : amark (g ++ [some (Row.mk (encI (d :: t)) true), some (Row.mk (encB (zeros 256)) true), some (Row.mk (encB magX) true), none]) (.c (.sl (g.length + 2) 0 4 1)) = some (.c (.sl (g.length + 2) 0 4 1)) := by simp [amark]
      have hW := fun h => num_With_eq (h := h) (l := padB 256 magX) (padB_length (by decide)) (a := 4) (w := 1) (v := d)
      have ew := withB_pad (l := magX) (a := 4) (w := 1) (v := d) (by decide) (by omega) (by omega) (by omega)
      have e5 : magX ++ zeros (4 - magX.length) ++ bytesI 1 d = magX ++ bytesI 1 d := rfl
      have e6 : padB 256 (magX ++ bytesI 1 d) = padB 256 (idxH d ++ numB (t.take 0)) := by
        rw [List.take_zero, show numB [] = [] from rfl, List.append_nil]
        exact (padB_zeros (by simp [magX])).symm
      rw [e5, e6] at ew
      rw [show ((4 : Nat) : Int) = 4 from rfl, show ((1 : Nat) : Int) = 1 from rfl] at ew
      rw [ew] at hW
      have hp2 : (encB (padB 256 (idxH d ++ numB (t.take 0)))).length = 256 := by rw [encB_length, padB_length (by rw [List.length_append, idxH_length, numB_length, List.length_take]; omega)]
      have e7 : aloadN (g ++ [some (Row.mk (encI (d :: t)) true), some (Row.mk (encB (zeros 256)) true), some (Row.mk (encB magX) true), some (Row.mk (encB (padB 256 (idxH d ++ numB (t.take 0)))) true)]) 32 (.c (.p g.length 1)) = some (.a (encI t)) := by
        rw [aloadN_at0]
        simp only [List.getElem?_cons_zero, Option.join_some, ldN, Option.bind_some]
        rw [if_pos ⟨by rw [hB]; omega, rfl⟩]
        have : (encI (d :: t)).drop 1 = encI t := rfl
        rw [this, List.take_of_length_le (by rw [encI_length]; omega)]
      obtain ⟨h', e⟩ := iput_loop (d := d) (t := t) (g := g) (q := N) ht hB 32 0 N (by omega) hN
      rw [List.drop_zero] at e
      generalize padB 256 (idxH d ++ numB (t.take 0)) = P1 at *
      generalize padB 256 magX = P2 at *
      generalize idxB d t = B at *
      generalize encB magX = mg at *
      generalize zeros 256 = z at *
      generalize encI (d :: t) = y at *
      refine ⟨h', ?_⟩
      simp only [esc, esh, Nat.reduceAdd, Nat.reduceMul, Nat.reduceLT, hB, hz, l0, hD, ef, hM, hO, hW, hp2, e7, show g.length + 2 + 1 = g.length + 3 from rfl]
      exact e
    · have cd : ¬ d = ((depX d : Nat) : Int) := by unfold depX; omega
      have ec : (decide (0 ≤ d) && (decide (d ≤ 5) && t.all finI)) = false := by
        by_cases c1 : 0 ≤ d
        · rw [decide_eq_false (show ¬ d ≤ 5 by omega)]; simp
        · rw [decide_eq_false c1]; rfl
      rw [ec, cond_false, cond_false]
      generalize zeros 256 = z at *
      generalize encI (d :: t) = y at *
      exact ⟨_, by simp only [esc, esh, Nat.reduceAdd, Nat.reduceMul, Nat.reduceLT, hB, hz, l0, hD, cd, haf] <;> rfl⟩
  obtain ⟨g', e⟩ := key (h.length + 33) (by omega) (ro h)
  refine S_index_Put_flat e ?_
  cases okX d t <;> simp

def getD (b : List UInt8) : Int := fieldN b 4 1
def fldX (b : List UInt8) (i : Nat) : Int := fieldN b (32 + 2 * i) 2
def getT (b : List UInt8) (n : Nat) : List Int := (List.range n).map (fldX b) ++ zI (32 - n)
theorem getT_length {b : List UInt8} {n : Nat} (hn : n ≤ 32) : (getT b n).length = 32 := by simp [getT, zI]; omega
theorem getT_succ {b : List UInt8} {k : Nat} (hk : k < 32) : getT b (k + 1) = (getT b k).set k (fldX b k) := by
  unfold getT
  have e : zI (32 - k) = 0 :: zI (32 - (k + 1)) := by
    unfold zI
    rw [show 32 - k = (32 - (k + 1)) + 1 by omega, List.replicate_succ]
  rw [e, List.set_append_right _ _ (by simp), List.range_succ, List.map_append, List.append_assoc]
  simp
theorem at_fld {b : List UInt8} {a w : Nat} (h : a + w ≤ 256) (hw : 1 ≤ w) (hw4 : w ≤ 4) : ((atN b (a : Int) w : Nat) : Int) = fieldN b a w := by
  unfold atN fieldN
  rw [if_pos ⟨by omega, thereI_true.2 (by omega)⟩]
  simp only [Int.toNat_natCast]

def restX (t : List Int) (n e : Nat) : Bool := (List.range' n e).all fun i => decide (toX t i = 0)
def goodX (b : List UInt8) : Bool := okX (getD b) (getT b 32) && (decide (idxB (getD b) (getT b 32) = b) && restX (getT b 32) (manyX (getD b)) (32 - manyX (getD b)))

theorem get_l1 {b : List UInt8} {d : Int} {t : List Int} {ix iz q : Nat} {h : Heap} (ht : t.length = 32) (hx : rd h ix = some ⟨encI (d :: t), true⟩) (hz : rd h iz = some ⟨encI (0 :: zI 32), true⟩) : ∀ e i m : Nat, i + e = 32 → e < m →
    ∃ h', index_Get_l1 q m (.c (.p iz 0)) (.c (.p ix 0)) (.c (.i .i64 (i : Int))) h = some (.t [.a (encI (bif restX t i e then d :: t else 0 :: zI 32)), .c (.i .i64 (bif restX t i e then 0 else 14))], h')
  | e, i, 0, _, hm => by omega
  | 0, i, m + 1, hi, hm => by
    have e0 : i = 32 := by omega
    subst e0
    have c0 : ¬ ((32 : Nat) : Int) < 32 := by omega
    have hX := encX_length (d := d) ht
    have hZ : (encI (0 :: zI 32)).length = 33 := encX_length (d := 0) zI_length
    have s1 := loadAll (h := h) (id := ix) hx hX
    have s2 := storeAll (h := h) (id := iz) (xs := encI (d :: t)) hz hZ hX
    have s3 := loadAll (h := h.set iz (some ⟨encI (d :: t), true⟩)) (id := iz) (rd_set_same (rd_lt hz)) hX
    have er : restX t 32 0 = true := rfl
    rw [index_Get_l1_eq, er, cond_true, cond_true]
    generalize encI (d :: t) = y at *
    exact ⟨_, by simp only [esc, c0, s1, s2, s3] <;> rfl⟩
  | e + 1, i, m + 1, hi, hm => by
    obtain ⟨h', ih⟩ := get_l1 (b := b) (q := q) ht hx hz e (i + 1) m (by omega) (by omega)
    have c0 : (i : Int) < 32 := by omega
    have hZ : (encI (0 :: zI 32)).length = 33 := encX_length (d := 0) zI_length
    have a1 := adX (id := ix) (i := i) (by omega)
    have l1 := ldX (h := h) (id := ix) hx ht (i := i) (by omega)
    have haf : afill (encI (0 :: zI 32)) [] = some (encI (0 :: zI 32)) := rfl
    have s2 := storeAll (h := h) (id := iz) (xs := encI (0 :: zI 32)) hz hZ hZ
    have s3 := loadAll (h := h.set iz (some ⟨encI (0 :: zI 32), true⟩)) (id := iz) (rd_set_same (rd_lt hz)) hZ
    have er : restX t i (e + 1) = (decide (toX t i = 0) && restX t (i + 1) e) := by unfold restX; rw [List.range'_succ, List.all_cons]
    rw [index_Get_l1_eq, er, zI_enc]
    by_cases c : toX t i = 0
    · rw [decide_eq_true c, Bool.true_and]
      rw [c] at l1
      generalize encI (0 :: zI 32) = z at *
      exact ⟨h', by simp only [esc, c0, a1, l1, wi_succ (show i + 1 < 9223372036854775808 by omega)]; exact ih⟩
    · rw [decide_eq_false c, Bool.false_and, cond_false, cond_false]
      generalize encI (0 :: zI 32) = z at *
      exact ⟨_, by simp only [esc, c0, a1, l1, c, haf, s2, s3] <;> rfl⟩

theorem get_l0 {b : List UInt8} {g : Heap} {q : Nat} (hb : b.length = 256) (hq : 32 < q) : ∀ e i m : Nat, i + e = 32 → e < m →
    ∃ h', index_Get_l0 q m (.c (.p g.length 0)) (.c (.p (g.length + 1) 0)) (.c (.p (g.length + 2) 0)) (.c (.i .i64 (i : Int))) (g ++ [some (Row.mk (encB b) true), some (Row.mk (encI (0 :: zI 32)) true), some (Row.mk (encI (getD b :: getT b i)) true)]) =
      some (.t [.a (encI (bif goodX b then getD b :: getT b 32 else 0 :: zI 32)), .c (.i .i64 (bif goodX b then 0 else 14))], h')
  | e, i, 0, _, hm => by omega
  | 0, i, m + 1, hi, hm => by
    have e0 : i = 32 := by omega
    subst e0
    have c0 : ¬ ((32 : Nat) : Int) < 32 := by omega
    have hB : (encB b).length = 256 := by rw [encB_length, hb]
    have ht := getT_length (b := b) (n := 32) (Nat.le_refl _)
    have hX := encX_length (d := getD b) ht
    have hZ : (encI (0 :: zI 32)).length = 33 := encX_length (d := 0) zI_length
    have hz0 : (List.replicate 256 (Cell.i .u8 0)).length = 256 := List.length_replicate
    have hP := fun h => index_Put_eq (d := getD b) (t := getT b 32) (h := h) ht
    have hM := fun h => index_many_eq (d := getD b) (h := h) ht
    have hm32 := manyX_le (getD b)
    have haf : afill (encI (0 :: zI 32)) [] = some (encI (0 :: zI 32)) := rfl
    unfold goodX
    rw [index_Get_l0_eq, zI_enc]
    cases co : okX (getD b) (getT b 32) with
    | false =>
      rw [co] at hP
      simp only [cond_false] at hP
      have hzz : (encB (zeros 256)).length = 256 := by rw [encB_length]; exact zeros_length
      rw [Bool.false_and, cond_false, cond_false]
      generalize encI (0 :: zI 32) = z at *
      generalize encI (getD b :: getT b 32) = y at *
      generalize List.replicate 256 (Cell.i .u8 0) = zz at *
      generalize zeros 256 = zzz at *
      exact ⟨_, by simp only [esc, esh, Nat.reduceAdd, Nat.reduceMul, Nat.reduceLT, c0, hX, hP, hz0, hzz, haf, hZ, show decide ((1 : Int) = 0) = false from rfl] <;> rfl⟩
    | true =>
      rw [co] at hP
      simp only [cond_true] at hP
      rw [Bool.true_and]
      have hil := idxB_length (d := getD b) ht
      have hI : (encB (idxB (getD b) (getT b 32))).length = 256 := by rw [encB_length, hil]
      have hE := aeq_t (n := 256) hil hb
      by_cases ce : idxB (getD b) (getT b 32) = b
      · rw [decide_eq_true ce, Bool.true_and]
        rw [decide_eq_true ce] at hE
        obtain ⟨h', e⟩ := get_l1 (b := b) (d := getD b) (t := getT b 32) (ix := g.length + 2) (iz := g.length + 1) (q := q) (h := g ++ [some (Row.mk (encB b) true), some (Row.mk (encI (0 :: zI 32)) true), some (Row.mk (encI (getD b :: getT b 32)) true), some (Row.mk (encB (idxB (getD b) (getT b 32))) true)]) ht (by simp) (by simp) (32 - manyX (getD b)) (manyX (getD b)) q (by omega) (by omega)
        refine ⟨h', ?_⟩
        generalize restX (getT b 32) (manyX (getD b)) (32 - manyX (getD b)) = R at *
        generalize idxB (getD b) (getT b 32) = I at *
        generalize getD b :: getT b 32 = Y at *
        generalize encI (0 :: zI 32) = z at *
        generalize List.replicate 256 (Cell.i .u8 0) = zz at *
        simp only [esc, esh, Nat.reduceAdd, Nat.reduceMul, Nat.reduceLT, c0, hX, hP, hz0, hI, hB, hE, hM]
        exact e
      · rw [decide_eq_false ce, Bool.false_and, cond_false, cond_false]
        rw [decide_eq_false ce] at hE
        generalize idxB (getD b) (getT b 32) = I at *
        generalize encI (0 :: zI 32) = z at *
        generalize encI (getD b :: getT b 32) = y at *
        generalize List.replicate 256 (Cell.i .u8 0) = zz at *
        exact ⟨_, by simp only [esc, esh, Nat.reduceAdd, Nat.reduceMul, Nat.reduceLT, c0, hX, hP, hz0, hI, hB, hE, haf, hZ] <;> rfl⟩
  | e + 1, i, m + 1, hi, hm => by
    obtain ⟨h', ih⟩ := get_l0 (g := g) (q := q) hb hq e (i + 1) m (by omega) (by omega)
    have c0 : (i : Int) < 32 := by omega
    have hB : (encB b).length = 256 := by rw [encB_length, hb]
    have ht := getT_length (b := b) (n := i) (by omega)
    have hX := encX_length (d := getD b) ht
    have hA := fun h => num_At_eq (h := h) hb (a := ((32 + 2 * i : Nat) : Int)) (w := 2)
    have ea := at_fld (b := b) (a := 32 + 2 * i) (w := 2) (by omega) (by omega) (by omega)
    rw [show ((2 : Nat) : Int) = 2 from rfl] at ea
    rw [ea] at hA
    have w1 : IntKind.wrap .i64 (2 * (i : Int)) = ((2 * i : Nat) : Int) := by rw [wrap_i64 (by omega) (by omega)]; omega
    have w2 : IntKind.wrap .i64 (32 + ((2 * i : Nat) : Int)) = ((32 + 2 * i : Nat) : Int) := by rw [wrap_i64 (by omega) (by omega)]; omega
    have a1 := adX (id := g.length + 2) (i := i) (by omega)
    have hs : (encI (getD b :: getT b i)).set (1 + i) (.i .i64 (fieldN b (32 + 2 * i) 2)) = encI (getD b :: getT b (i + 1)) := by rw [encX_set, getT_succ (by omega)]; rfl
    have hlt : 1 + i < (encI (getD b :: getT b i)).length := by rw [hX]; omega
    rw [index_Get_l0_eq]
    generalize goodX b = G at *
    generalize getD b :: getT b 32 = Y at *
    generalize encI (getD b :: getT b (i + 1)) = y1 at *
    generalize encI (getD b :: getT b i) = y at *
    generalize encI (0 :: zI 32) = z at *
    refine ⟨h', ?_⟩
    simp only [esc, esh, Nat.reduceAdd, Nat.reduceMul, Nat.reduceLT, c0, hB, w1, w2, hA, a1, hlt, hs, wi_succ (show i + 1 < 9223372036854775808 by omega)]
    exact ih

theorem index_Get_eq {b : List UInt8} {h : Heap} (hb : b.length = 256) : S_index_Get [.a (encB b)] h = some (.t [.a (encI (bif goodX b then getD b :: getT b 32 else 0 :: zI 32)), .c (.i .i64 (bif goodX b then 0 else 14))], h) := by
  have key : ∀ N, 32 < N → ∀ g, ∃ g', R_index_Get N [.a (encB b)] g = some (.t [.a (encI (bif goodX b then getD b :: getT b 32 else 0 :: zI 32)), .c (.i .i64 (bif goodX b then 0 else 14))], g') := by
    intro N hN g
    have hB : (encB b).length = 256 := by rw [encB_length, hb]
    have hZ : (encI (0 :: zI 32)).length = 33 := encX_length (d := 0) zI_length
    have hA := fun h => num_At_eq (h := h) hb (a := 4) (w := 1)
    have ea := at_fld (b := b) (a := 4) (w := 1) (by omega) (by omega) (by omega)
    rw [show ((4 : Nat) : Int) = 4 from rfl, show ((1 : Nat) : Int) = 1 from rfl] at ea
    rw [ea] at hA
    have ef : afill (encI (0 :: zI 32)) [(0, 1, .c (.i .i64 (fieldN b 4 1)))] = some (encI (getD b :: getT b 0)) := by
      have e1 : (0 + 1 ≤ (encI (0 :: zI 32)).length) := by rw [hZ]; omega
      simp only [afill, cells?]
      rw [if_pos ⟨rfl, e1⟩]
      rfl
    have hX := encX_length (d := getD b) (getT_length (b := b) (n := 0) (by omega))
    obtain ⟨h', e⟩ := get_l0 (g := g) (q := N) hb hN 32 0 N (by omega) hN
    rw [R_index_Get_eq, zI_enc]
    generalize goodX b = G at *
    generalize getD b :: getT b 32 = Y at *
    generalize encI (getD b :: getT b 0) = y at *
    generalize encI (0 :: zI 32) = z at *
    exact ⟨h', by simp only [esc, esh, Nat.reduceAdd, Nat.reduceMul, Nat.reduceLT, hB, hZ, hA, ef, hX]; exact e⟩
  obtain ⟨g', e⟩ := key (h.length + 33) (by omega) (ro h)
  refine S_index_Get_flat e ?_
  cases goodX b <;> simp

end Go.Proofs.Ytdgggnlbdoiloaa
end
section
namespace Go.Proofs.Ytdgggnlbdoiloaa
open Go Go.Esc

def bucOk (t : List Int) (i : Nat) : Bool := !decide (toX t i = 0) && firstX t i
def bucL (t : List Int) (k : Nat) : List Int := ((List.range k).filter (bucOk t)).map (toX t)
theorem bucL_succ {t : List Int} {k : Nat} : bucL t (k + 1) = bucL t k ++ (if bucOk t k = true then [toX t k] else []) := by
  unfold bucL
  rw [List.range_succ, List.filter_append, List.map_append, List.filter_cons]
  by_cases c : bucOk t k = true <;> simp [c]
theorem bucL_length (t : List Int) (k : Nat) : (bucL t k).length ≤ k := by
  unfold bucL; rw [List.length_map]; exact Nat.le_trans (List.length_filter_le _ _) (by simp)

theorem buckets_loop {d : Int} {t : List Int} {g : Heap} {n q : Nat} (ht : t.length = 32) (hn : n ≤ 32) : ∀ (e i m : Nat) (h : Heap) (id : Nat), i + e = n → e < m → Low (g ++ [some (Row.mk (encI (d :: t)) true)]).length (g ++ [some (Row.mk (encI (d :: t)) true)]) h → (g ++ [some (Row.mk (encI (d :: t)) true)]).length ≤ id → rd h id = some ⟨encI (bucL t i), true⟩ →
    ∃ v h', index_Buckets_l0 q m (.c (.p g.length 0)) (.c (.sl id 0 (bucL t i).length 1)) (.c (.i .i64 (n : Int))) (.c (.i .i64 (i : Int))) h = some (v, h') ∧ Out g.length h' v 1 (bucL t n).length (encI (bucL t n))
  | e, i, 0, h, id, _, hm, _, _, _ => by omega
  | 0, i, m + 1, h, id, hi, hm, hlow, hid, hr => by
    have e0 : i = n := by omega
    subst e0
    have c0 : ¬ (i : Int) < i := by omega
    rw [List.length_append] at hid
    rw [index_Buckets_l0_eq]
    exact ⟨_, _, by simp only [esc, c0] <;> rfl, by rw [encI_length]; omega, _, rfl, by omega, hr⟩
  | e + 1, i, m + 1, h, id, hi, hm, hlow, hid, hr => by
    have c0 : (i : Int) < n := by omega
    have hB := encX_length (d := d) ht
    have hrd : rd h g.length = some ⟨encI (d :: t), true⟩ := hlow.rd (by simp)
    have s1 := loadAll (h := h) (id := g.length) (cs := encI (d :: t)) hrd hB
    have a1 := adX (id := g.length) (i := i) (by omega)
    have l1 := ldX (h := h) (id := g.length) hrd ht (i := i) (by omega)
    have hFs := fun h => index_first_eq (d := d) (t := t) (i := i) (h := h) ht (by omega)
    have w1 := wi_succ (show i + 1 < 9223372036854775808 by omega)
    have hul := bucL_length t i
    rw [index_Buckets_l0_eq]
    have skip : bucOk t i = false → ∃ v h', index_Buckets_l0 q m (.c (.p g.length 0)) (.c (.sl id 0 (bucL t i).length 1)) (.c (.i .i64 (n : Int))) (.c (.i .i64 ((i + 1 : Nat) : Int))) h = some (v, h') ∧ Out g.length h' v 1 (bucL t n).length (encI (bucL t n)) := by
      intro c
      have hu : bucL t (i + 1) = bucL t i := by rw [bucL_succ, c]; simp
      have := buckets_loop (q := q) ht hn e (i + 1) m h id (by omega) (by omega) hlow hid (by rw [hu]; exact hr)
      rw [hu] at this; exact this
    by_cases cz : toX t i = 0
    · obtain ⟨v, h', f1, f2⟩ := skip (by unfold bucOk; rw [decide_eq_true cz]; rfl)
      rw [cz] at l1
      refine ⟨v, h', ?_, f2⟩
      generalize encI (d :: t) = z at *
      simp only [esc, c0, a1, l1, index_Buckets_j0_eq, w1]
      exact f1
    · cases cs : firstX t i with
      | false =>
        obtain ⟨v, h', f1, f2⟩ := skip (by unfold bucOk; rw [cs, Bool.and_false])
        rw [cs] at hFs
        refine ⟨v, h', ?_, f2⟩
        generalize encI (d :: t) = z at *
        simp only [esc, c0, a1, l1, cz, s1, hFs, index_Buckets_j0_eq, w1]
        exact f1
      | true =>
        rw [cs] at hFs
        have cb : bucOk t i = true := by unfold bucOk; rw [cs, decide_eq_false cz]; rfl
        have hu : bucL t (i + 1) = bucL t i ++ [toX t i] := by rw [bucL_succ, if_pos cb]
        obtain ⟨h1, b1, b2, b3, b4, b5⟩ := push (ys := [.i .i64 (toX t i)]) (sz := 1) (n := (bucL t i).length) hlow hr (by rw [encI_length]; omega) hid rfl (by omega) (by omega)
        have he : encI (bucL t i) ++ [.i .i64 (toX t i)] = encI (bucL t (i + 1)) := by rw [hu]; simp [encI]
        rw [he] at b2
        obtain ⟨v, h', f1, f2⟩ := buckets_loop (q := q) ht hn e (i + 1) m h1 (h.length + 1) (by omega) (by omega) b3 b4 b2
        have hl1 : (bucL t (i + 1)).length = (bucL t i).length + 1 := by rw [hu]; simp
        rw [hl1] at f1
        have ef : afill [Cell.i .i64 0] [(0, 1, .c (.i .i64 (toX t i)))] = some [.i .i64 (toX t i)] := rfl
        refine ⟨v, h', ?_, f2⟩
        generalize encI (d :: t) = z at *
        simp only [esc, c0, a1, l1, cz, s1, hFs, ef, b1, index_Buckets_j0_eq, w1]
        exact f1

theorem index_Buckets_eq {d : Int} {t : List Int} {h : Heap} (ht : t.length = 32) : S_index_Buckets [.a (encI (d :: t))] h = some (.c (.sl h.length 0 (bucL t (manyX d)).length 1), h ++ [some ⟨encI (bucL t (manyX d)), true⟩]) := by
  have key : ∀ N, 32 < N → ∀ g, ∃ v g', R_index_Buckets N [.a (encI (d :: t))] g = some (v, g') ∧ Out g.length g' v 1 (bucL t (manyX d)).length (encI (bucL t (manyX d))) := by
    intro N hN g
    have hB := encX_length (d := d) ht
    have hM := fun h => index_many_eq (d := d) (h := h) ht
    have hm := manyX_le d
    obtain ⟨v, g', f1, f2⟩ := buckets_loop (g := g) (d := d) (q := N) ht hm (manyX d) 0 N (g ++ [some (Row.mk (encI (d :: t)) true), some (Row.mk [] true), some (Row.mk [] true)]) (g.length + 2) (by omega) (by omega)
      (by have := (Low.refl (h := g ++ [some (Row.mk (encI (d :: t)) true)]) (Nat.le_refl _)).new [some ⟨[], true⟩, some ⟨[], true⟩]
          simpa using this) (by simp) (by simp [bucL, encI])
    rw [show bucL t 0 = [] from rfl] at f1
    rw [R_index_Buckets_eq]
    refine ⟨v, g', ?_, f2⟩
    generalize encI (d :: t) = z at *
    simp only [esc, esh, Nat.reduceAdd, Nat.reduceMul, Nat.reduceLT, hB, hM] at f1 ⊢
    exact f1
  obtain ⟨v, g', e, ho⟩ := key (h.length + 33) (by omega) (ro h)
  exact S_index_Buckets_out e (by simpa [ro_length] using ho) (by simp)

end Go.Proofs.Ytdgggnlbdoiloaa
end
section
namespace Go.Proofs.Ytdgggnlbdoiloaa
open Go Go.Esc

def idxOk (D : Dev) (n k : Int) (d : List Int) : Bool := decide (k = 2) && isDatL D.length n (d.getD 0 0) && goodX (blk D (d.getD 0 0))
def idxC (D : Dev) (n k : Int) (d : List Int) : List Int := bif idxOk D n k d then getD (blk D (d.getD 0 0)) :: getT (blk D (d.getD 0 0)) 32 else 0 :: zI 32
theorem getT_length32 (b : List UInt8) : (getT b 32).length = 32 := by simp [getT, zI]
theorem idxC_form (D : Dev) (n k : Int) (d : List Int) : ∃ x t, idxC D n k d = x :: t ∧ t.length = 32 := by
  unfold idxC
  cases idxOk D n k d with
  | false => exact ⟨_, _, rfl, zI_length⟩
  | true => exact ⟨_, _, rfl, getT_length32 _⟩
theorem idxC_length (D : Dev) (n k : Int) (d : List Int) : (encI (idxC D n k d)).length = 33 := by
  obtain ⟨x, t, e, h⟩ := idxC_form D n k d
  rw [e, encI_length]; simp [h]

theorem fmap_Index_eq {D : Dev} {n m k l s p : Int} {d : List Int} {f : Cell} {h : Heap} (hD : okD D) (hd : d.length = 7) (hv : IsView h f D) :
    S_fmap_Index [.a (vwC D.length n m f), .a (inoC k l s p d)] h = some (.t [.a (encI (idxC D n k d)), .c (.b (idxOk D n k d))], h) := by
  have key : ∀ g, IsView g f D → ∃ g', R_fmap_Index 0 [.a (vwC D.length n m f), .a (inoC k l s p d)] g = some (.t [.a (encI (idxC D n k d)), .c (.b (idxOk D n k d))], g') := by
    intro g hv
    have l3 := vw_l3 (b := D.length) (n := n) (m := m) (f := f)
    have l4 := vw_l4 (b := D.length) (n := n) (m := m) (f := f)
    have i0 : (inoC k l s p d)[0]? = some (.i .i64 k) := rfl
    have i4 : (inoC k l s p d)[4]? = some (.i .i64 (d.getD 0 0)) := by
      have : (inoC k l s p d)[4]? = (encI d)[0]? := rfl
      rw [this, encI_get, List.getElem?_eq_getElem (by omega), List.getD_eq_getElem?_getD, List.getElem?_eq_getElem (by omega)]; rfl
    have ad : ∀ q, aiAddrA 6 1 (.c (.p q 4)) (.c (.i .i64 0)) = some (.c (.p q 4)) := fun q => rfl
    have hz : (encI (0 :: zI 32)).length = 33 := encX_length (d := 0) zI_length
    have ef : afill (encI (0 :: zI 32)) [] = some (encI (0 :: zI 32)) := rfl
    have n12 : ¬ (14 : Int) = 0 := by decide
    rw [R_fmap_Index_eq, zI_enc]
    unfold idxC idxOk
    by_cases c1 : k = 2
    · have hI := fun h => geom_IsData_eq (b := D.length) (n := n) (m := m) (i := d.getD 0 0) (h := h)
      cases c2 : isDatL D.length n (d.getD 0 0) with
      | false =>
        simp only [c2] at hI
        simp only [Bool.and_false, Bool.false_and, cond_false]
        generalize vwC D.length n m f = V at *
        generalize inoC k l s p d = I at *
        generalize encI (0 :: zI 32) = z at *
        exact ⟨_, by simp only [esc, esh, Nat.reduceAdd, Nat.reduceMul, Nat.reduceLT, eq_self, i0, c1, l3, ad, i4, hI, hz, ef] <;> rfl⟩
      | true =>
        simp only [c2] at hI
        have hB := view_Block_eq (n := n) (m := m) (no := d.getD 0 0) (h := g ++ [some (Row.mk (vwC D.length n m f) true), some (Row.mk (inoC k l s p d) true), some (Row.mk (encI (0 :: zI 32)) true)]) hD (hv.more _)
        have hG := fun h => index_Get_eq (h := h) (blk_length hD (i := d.getD 0 0))
        have hX : (encI (getD (blk D (d.getD 0 0)) :: getT (blk D (d.getD 0 0)) 32)).length = 33 := encX_length (getT_length32 _)
        rw [decide_eq_true c1, Bool.true_and, Bool.true_and]
        cases c3 : goodX (blk D (d.getD 0 0)) with
        | false =>
          simp only [c3, cond_false] at hG
          rw [cond_false]
          generalize encI (getD (blk D (d.getD 0 0)) :: getT (blk D (d.getD 0 0)) 32) = x at *
          generalize encB (blk D (d.getD 0 0)) = y at *
          generalize vwC D.length n m f = V at *
          generalize inoC k l s p d = I at *
          generalize encI (0 :: zI 32) = z at *
          exact ⟨_, by simp only [esc, esh, Nat.reduceAdd, Nat.reduceMul, Nat.reduceLT, eq_self, i0, c1, l3, l4, ad, i4, hI, hB, hG, hz, hX, ef, n12] <;> rfl⟩
        | true =>
          simp only [c3, cond_true] at hG
          rw [cond_true]
          generalize encI (getD (blk D (d.getD 0 0)) :: getT (blk D (d.getD 0 0)) 32) = x at *
          generalize encB (blk D (d.getD 0 0)) = y at *
          generalize vwC D.length n m f = V at *
          generalize inoC k l s p d = I at *
          generalize encI (0 :: zI 32) = z at *
          exact ⟨_, by simp only [esc, esh, Nat.reduceAdd, Nat.reduceMul, Nat.reduceLT, eq_self, i0, c1, l3, l4, ad, i4, hI, hB, hG, hz, hX, ef, n12] <;> rfl⟩
    · rw [decide_eq_false c1, Bool.false_and, Bool.false_and, cond_false]
      generalize vwC D.length n m f = V at *
      generalize inoC k l s p d = I at *
      generalize encI (0 :: zI 32) = z at *
      exact ⟨_, by simp only [esc, esh, Nat.reduceAdd, Nat.reduceMul, Nat.reduceLT, eq_self, i0, c1, hz, ef] <;> rfl⟩
  obtain ⟨g', e⟩ := key (ro h) hv.ro
  exact S_fmap_Index_flat e (by simp [Val.flat, Cell.flat])

def bukF (D : Dev) (n k : Int) (d : List Int) : List Int := bif idxOk D n k d then (bucL (getT (blk D (d.getD 0 0)) 32) (manyX (getD (blk D (d.getD 0 0))))).filter (isDatL D.length n) else []

theorem bucks_loop {D : Dev} {n m : Int} {f : Cell} {g : Heap} {p q sid : Nat} {L : List Int} (h1 : rd g p = some ⟨vwC D.length n m f, true⟩) (hL : L.length ≤ 32) : ∀ (e i M id : Nat) (h : Heap) (l : List Int), i + e = L.length → e < M → l.length ≤ i → Low g.length g h → g.length ≤ id → id ≠ sid → rd h sid = some ⟨encI L, true⟩ → rd h id = some ⟨encI l, true⟩ →
    ∃ v' h', fmap_Buckets_l0 q M (.c (.p p 0)) (.c (.sl id 0 l.length 1)) (.c (.sl sid 0 L.length 1)) (.c (.i .i64 (L.length : Int))) (.c (.i .i64 (i : Int))) h = some (v', h') ∧ Out g.length h' v' 1 (l ++ (L.drop i).filter (isDatL D.length n)).length (encI (l ++ (L.drop i).filter (isDatL D.length n)))
  | e, i, 0, id, h, l, _, hm, _, _, _, _, _, _ => by omega
  | 0, i, M + 1, id, h, l, hi, hm, hl, hlow, hid, hne, hs, hr => by
    have e0 : i = L.length := by omega
    subst e0
    have c0 : ¬ ((L.length : Nat) : Int) < (L.length : Nat) := by omega
    rw [fmap_Buckets_l0_eq, List.drop_of_length_le (Nat.le_refl _), List.filter_nil, List.append_nil]
    exact ⟨_, _, by simp only [esc, c0] <;> rfl, by rw [encI_length, Nat.mul_one], id, rfl, hid, hr⟩
  | e + 1, i, M + 1, id, h, l, hi, hm, hl, hlow, hid, hne, hs, hr => by
    have hil : i < L.length := by omega
    have c0 : (i : Int) < (L.length : Nat) := by omega
    have ad : aiAddrL 1 (.c (.sl sid 0 L.length 1)) (.c (.i .i64 (i : Int))) = some (.c (.p sid i)) := by rw [iAddrL_of hil]; simp
    have l1 : aload1 h (.c (.p sid i)) = some (.c (.i .i64 L[i])) := load1_of hs (by rw [encI_get, List.getElem?_eq_getElem hil]; rfl) rfl
    have fa : afAddr (.c (.p p 0)) 0 = some (.c (.p p 0)) := rfl
    have l3 : aloadN h 3 (.c (.p p 0)) = some (.a (layC D.length n m)) := by rw [loadN_of (hlow.rd h1) (by simp [vwC]) rfl]; rfl
    have hI := geom_IsData_eq (b := D.length) (n := n) (m := m) (i := L[i]) (h := h)
    have w1 := wi_succ (show i + 1 < 9223372036854775808 by omega)
    rw [fmap_Buckets_l0_eq, List.drop_eq_getElem_cons hil]
    cases c : isDatL D.length n L[i] with
    | false =>
      rw [c] at hI
      obtain ⟨v', h', f1, f2⟩ := bucks_loop (q := q) h1 hL e (i + 1) M id h l (by omega) (by omega) (by omega) hlow hid hne hs hr
      rw [List.filter_cons_of_neg (by rw [c]; simp)]
      refine ⟨v', h', ?_, f2⟩
      simp only [bnd_some, abin_lss, c0, decide_true, cnd_t, ad, l1, fa, l3, hI, cnd_f, fmap_Buckets_j0_eq, abin_add, w1]
      exact f1
    | true =>
      rw [c] at hI
      have ef : afill [Cell.i .i64 0] [(0, 1, .c (.i .i64 L[i]))] = some (encI [L[i]]) := rfl
      obtain ⟨h2, a1, a2, a3, a4⟩ := pushK2 (n := l.length) (sz := 1) (ys := encI [L[i]]) hr (by rw [encI_length, Nat.mul_one]) rfl (by omega) (by omega)
      rw [← encI_append] at a2
      have el : (l ++ [L[i]]).length = l.length + 1 := by simp
      have hlt := rd_lt hs
      obtain ⟨v', h', f1, f2⟩ := bucks_loop (q := q) h1 hL e (i + 1) M (h.length + 1) h2 (l ++ [L[i]]) (by omega) (by omega) (by rw [el]; omega) (hlow.trans (a4 _ hid (by have := hlow.2.1; omega))) (by have := hlow.2.1; omega) (by omega) (a3 _ _ (Ne.symm hne) hs) a2
      rw [List.filter_cons_of_pos (by rw [c])]
      rw [List.append_assoc, List.singleton_append] at f2
      rw [el] at f1
      refine ⟨v', h', ?_, f2⟩
      simp only [bnd_some, abin_lss, c0, decide_true, cnd_t, ad, l1, fa, l3, hI, ef, a1, fmap_Buckets_j0_eq, abin_add, w1]
      exact f1

theorem fmap_Buckets_eq {D : Dev} {n m k l s p : Int} {d : List Int} {f : Cell} {h : Heap} (hD : okD D) (hd : d.length = 7) (hv : IsView h f D) :
    S_fmap_Buckets [.a (vwC D.length n m f), .a (inoC k l s p d)] h = some (.c (.sl h.length 0 (bukF D n k d).length 1), h ++ [some ⟨encI (bukF D n k d), true⟩]) := by
  have key : ∀ g, IsView g f D → ∃ v g', R_fmap_Buckets 33 [.a (vwC D.length n m f), .a (inoC k l s p d)] g = some (v, g') ∧ Out g.length g' v 1 (bukF D n k d).length (encI (bukF D n k d)) := by
    intro g hv
    have hIl : (inoC k l s p d).length = 11 := by simp [inoC, encI_length, hd]
    have l11 : ldN (some (Row.mk (inoC k l s p d) true)) 0 11 = some (.a (inoC k l s p d)) := ldN_all hIl
    have l4 := vw_l4 (b := D.length) (n := n) (m := m) (f := f)
    have hz : (encI (0 :: zI 32)).length = 33 := encX_length (d := 0) zI_length
    have hX := idxC_length D n k d
    have hI := fmap_Index_eq (n := n) (m := m) (k := k) (l := l) (s := s) (p := p) (h := g ++ [some (Row.mk (vwC D.length n m f) true), some (Row.mk (inoC k l s p d) true), some (Row.mk [] true)]) hD hd (hv.more _)
    rw [R_fmap_Buckets_eq, zI_enc]
    cases c : idxOk D n k d with
    | false =>
      rw [c] at hI
      have eb : bukF D n k d = [] := by unfold bukF; rw [c]; rfl
      rw [eb]
      generalize encI (idxC D n k d) = x at *
      generalize encI (0 :: zI 32) = z at *
      refine ⟨.c (.sl (g.length + 4) 0 0 1), g ++ [some (Row.mk (vwC D.length n m f) true), some (Row.mk (inoC k l s p d) true), some (Row.mk [] true), some (Row.mk x true), some (Row.mk [] true)], ?_, rfl, g.length + 4, rfl, by omega, by simp [encI]⟩
      generalize vwC D.length n m f = V at *
      generalize inoC k l s p d = I at *
      simp only [esc, esh, Nat.reduceAdd, Nat.reduceMul, Nat.reduceLT, l4, l11, hI, hz, hX]
    | true =>
      rw [c] at hI
      have eb : bukF D n k d = (bucL (getT (blk D (d.getD 0 0)) 32) (manyX (getD (blk D (d.getD 0 0))))).filter (isDatL D.length n) := by unfold bukF; rw [c]; rfl
      have ex : idxC D n k d = getD (blk D (d.getD 0 0)) :: getT (blk D (d.getD 0 0)) 32 := by unfold idxC; rw [c]; rfl
      rw [ex] at hI hX
      have hB := fun h => index_Buckets_eq (d := getD (blk D (d.getD 0 0))) (h := h) (getT_length32 (blk D (d.getD 0 0)))
      have hBl := bucL_length (getT (blk D (d.getD 0 0)) 32) (manyX (getD (blk D (d.getD 0 0))))
      have hml := manyX_le (getD (blk D (d.getD 0 0)))
      rw [eb]
      generalize bucL (getT (blk D (d.getD 0 0)) 32) (manyX (getD (blk D (d.getD 0 0)))) = L at *
      generalize encI (getD (blk D (d.getD 0 0)) :: getT (blk D (d.getD 0 0)) 32) = x at *
      generalize encI (0 :: zI 32) = z at *
      obtain ⟨v', h', f1, f2⟩ := bucks_loop (D := D) (n := n) (m := m) (f := f) (g := g ++ [some (Row.mk (vwC D.length n m f) true), some (Row.mk (inoC k l s p d) true), some (Row.mk [] true), some (Row.mk x true)]) (p := g.length) (q := 33) (sid := g.length + 5) (L := L) (by simp) (by omega) L.length 0 33 (g.length + 4) (g ++ [some (Row.mk (vwC D.length n m f) true), some (Row.mk (inoC k l s p d) true), some (Row.mk [] true), some (Row.mk x true), some (Row.mk [] true), some (Row.mk (encI L) true)]) [] (by omega) (by omega) (by simp)
        (by
          have := (Low.refl (h := g ++ [some (Row.mk (vwC D.length n m f) true), some (Row.mk (inoC k l s p d) true), some (Row.mk [] true), some (Row.mk x true)]) (Nat.le_refl _)).new [some (Row.mk [] true), some (Row.mk (encI L) true)]
          simpa using this) (by simp) (by omega) (by simp) (by simp [encI])
      rw [List.nil_append, List.drop_zero] at f2
      rw [List.length_nil] at f1
      refine ⟨v', h', ?_, f2.1, ?_⟩
      · generalize vwC D.length n m f = V at *
        generalize inoC k l s p d = I at *
        simp only [esc, esh, Nat.reduceAdd, Nat.reduceMul, Nat.reduceLT, l4, l11, hI, hz, hX, hB]
        exact f1
      · obtain ⟨id, e, hb, hr⟩ := f2.2
        exact ⟨id, e, by simp at hb; omega, hr⟩
  obtain ⟨v, g', e, ho⟩ := key (ro h) hv.ro
  exact S_fmap_Buckets_out e (by simpa [ro_length] using ho) (by simp)

end Go.Proofs.Ytdgggnlbdoiloaa
end
section
namespace Go.Proofs.Ytdgggnlbdoiloaa
open Go Go.Esc

def tellF (D : Dev) (n k : Int) (d : List Int) (told : Bool) (ls : List Int) : List Int := if told = false ∧ k = 1 ∧ isDatL D.length n (d.getD 6 0) = true then ls ++ [d.getD 6 0] else ls
theorem tellF_true {D : Dev} {n k : Int} {d : List Int} {l : List Int} : tellF D n k d true l = l := by
  unfold tellF; rw [if_neg (by simp)]
def stepO (D : Dev) (n k : Int) (d : List Int) (s : Bool × List Int) (q : Nat × Int) : Bool × List Int := if 6 ≤ q.1 then (true, tellF D n k d s.1 s.2 ++ [q.2]) else (s.1, s.2 ++ [q.2])
def ownsF (D : Dev) (n k : Int) (d : List Int) : List Int :=
  if k = 2 then (if idxOk D n k d then [d.getD 0 0] else []) ++ bukF D n k d
  else (eachF (atF D n k d) 6 0).map (·.2) ++ (if k = 1 ∧ isDatL D.length n (d.getD 6 0) = true then [d.getD 6 0] else []) ++ (eachF (atF D n k d) 128 6).map (·.2)

theorem eachF_split (at' : Int → Int) : ∀ (a b j : Nat), eachF at' (a + b) j = eachF at' a j ++ eachF at' b (j + a)
  | 0, b, j => by rw [Nat.zero_add]; rfl
  | a + 1, b, j => by
    rw [show a + 1 + b = (a + b) + 1 by omega, eachF, eachF, eachF_split at' a b (j + 1), show j + 1 + a = j + (a + 1) by omega]
    split <;> rfl
theorem foldO_low {D : Dev} {n k : Int} {d : List Int} : ∀ (L : List (Nat × Int)) (t : Bool) (ls : List Int), (∀ q ∈ L, q.1 < 6) → L.foldl (stepO D n k d) (t, ls) = (t, ls ++ L.map (·.2))
  | [], t, ls, _ => by simp
  | q :: L, t, ls, h => by
    have hq := h q (List.mem_cons_self ..)
    rw [List.foldl_cons]
    unfold stepO
    rw [if_neg (by omega)]
    have := foldO_low (D := D) (n := n) (k := k) (d := d) L t (ls ++ [q.2]) (fun x hx => h x (List.mem_cons_of_mem _ hx))
    unfold stepO at this
    rw [this]; simp
theorem foldO_told {D : Dev} {n k : Int} {d : List Int} : ∀ (L : List (Nat × Int)) (ls : List Int), (∀ q ∈ L, 6 ≤ q.1) → L.foldl (stepO D n k d) (true, ls) = (true, ls ++ L.map (·.2))
  | [], ls, _ => by simp
  | q :: L, ls, h => by
    have hq := h q (List.mem_cons_self ..)
    have e : stepO D n k d (true, ls) q = (true, ls ++ [q.2]) := by
      unfold stepO tellF
      rw [if_pos hq, if_neg (by simp)]
    rw [List.foldl_cons, e, foldO_told L (ls ++ [q.2]) (fun x hx => h x (List.mem_cons_of_mem _ hx))]
    simp
theorem foldO_all {D : Dev} {n k : Int} {d : List Int} (h2 : k ≠ 2) : let r := (eachF (atF D n k d) 134 0).foldl (stepO D n k d) (false, []); tellF D n k d r.1 r.2 = ownsF D n k d := by
  intro r
  have e1 : eachF (atF D n k d) 134 0 = eachF (atF D n k d) 6 0 ++ eachF (atF D n k d) 128 6 := eachF_split _ 6 128 0
  have hl : ∀ q ∈ eachF (atF D n k d) 6 0, q.1 < 6 := fun q hq => by have := eachF_mem 6 0 q hq; omega
  have hh : ∀ q ∈ eachF (atF D n k d) 128 6, 6 ≤ q.1 := fun q hq => (eachF_mem 128 6 q hq).1
  have er : r = (eachF (atF D n k d) 128 6).foldl (stepO D n k d) (false, (eachF (atF D n k d) 6 0).map (·.2)) := by
    show (eachF (atF D n k d) 134 0).foldl (stepO D n k d) (false, []) = _
    rw [e1, List.foldl_append, foldO_low _ _ _ hl, List.nil_append]
  unfold ownsF
  rw [if_neg h2, er]
  generalize (eachF (atF D n k d) 6 0).map (·.2) = A
  cases hB : eachF (atF D n k d) 128 6 with
  | nil =>
    simp only [List.foldl_nil, List.map_nil, List.append_nil]
    unfold tellF
    by_cases c : k = 1 ∧ isDatL D.length n (d.getD 6 0) = true
    · rw [if_pos ⟨rfl, c⟩, if_pos c]
    · rw [if_neg (fun h => c h.2), if_neg c, List.append_nil]
  | cons q L =>
    rw [hB] at hh
    have hq := hh q (List.mem_cons_self ..)
    have e2 : stepO D n k d (false, A) q = (true, tellF D n k d false A ++ [q.2]) := by unfold stepO; rw [if_pos hq]
    rw [List.foldl_cons, e2, foldO_told L _ (fun x hx => hh x (List.mem_cons_of_mem _ hx))]
    show tellF D n k d true _ = _
    rw [tellF_true]
    have e4 : tellF D n k d false A = A ++ (if k = 1 ∧ isDatL D.length n (d.getD 6 0) = true then [d.getD 6 0] else []) := by
      unfold tellF
      by_cases c : k = 1 ∧ isDatL D.length n (d.getD 6 0) = true
      · rw [if_pos ⟨rfl, c⟩, if_pos c]
      · rw [if_neg (fun h => c h.2), if_neg c, List.append_nil]
    rw [e4]
    simp

def RS (b : Nat) : List Nat := [b + 3, b + 4, b + 5, b, b + 1, b + 6, b + 7]
def fO (b : Nat) : Cell := .f 59 [(b + 4, 0), (b + 1, 0), (b, 0), (b + 3, 0)]
structure OwnP (g h : Heap) (V I : List Cell) (told : Bool) (ls : List Int) : Prop where
  var : VarI h (g.length + 3) ls g.length (RS g.length)
  low : Low g.length g h
  len : g.length + 8 ≤ h.length
  t : rd h (g.length + 4) = some ⟨[.b told], true⟩
  f : rd h (g.length + 5) = some ⟨[fO g.length], true⟩
  v : rd h g.length = some ⟨V, true⟩
  i : rd h (g.length + 1) = some ⟨I, true⟩
  v2 : rd h (g.length + 6) = some ⟨V, true⟩
  i2 : rd h (g.length + 7) = some ⟨I, true⟩

theorem OwnP.push {g h : Heap} {V I : List Cell} {told : Bool} {ls : List Int} (P : OwnP g h V I told ls) (hl : ls.length ≤ 1000) (n : Int) :
    ∃ x v h2 h3, aload1 h (.c (.p (g.length + 3) 0)) = some (.c x) ∧ aapp (h ++ [some ⟨[.i .i64 n], true⟩]) 1 (.c x) (.c (.sl h.length 0 1 1)) = some (.c v, h2) ∧ astore1 h2 (.c (.p (g.length + 3) 0)) (.c v) = some h3 ∧ OwnP g h3 V I told (ls ++ [n]) := by
  have hlen := P.len
  have hm : ∀ j ∈ RS g.length, j < h.length := by intro j hj; simp only [RS, List.mem_cons, List.not_mem_nil, or_false] at hj; omega
  obtain ⟨x, v, h2, h3, a1, a2, a3, a4, a5, a6, a7⟩ := P.var.push (by simp [RS]) (by omega) (by omega) hm (by omega) n
  exact ⟨x, v, h2, h3, a1, a2, a3, a4, P.low.trans a5, by omega, by rw [a6 _ (by simp [RS]) (by omega)]; exact P.t, by rw [a6 _ (by simp [RS]) (by omega)]; exact P.f, by rw [a6 _ (by simp [RS]) (by omega)]; exact P.v, by rw [a6 _ (by simp [RS]) (by omega)]; exact P.i, by rw [a6 _ (by simp [RS]) (by omega)]; exact P.v2, by rw [a6 _ (by simp [RS]) (by omega)]; exact P.i2⟩

theorem OwnP.tell {g h : Heap} {V I : List Cell} {told : Bool} {ls : List Int} (P : OwnP g h V I told ls) : astore1 h (.c (.p (g.length + 4) 0)) (.c (.b true)) = some (h.set (g.length + 4) (some ⟨[.b true], true⟩)) ∧ OwnP g (h.set (g.length + 4) (some ⟨[.b true], true⟩)) V I true ls := by
  have hlen := P.len
  refine ⟨store1_of P.t (by simp), P.var.keep (by rw [rd_set_other (by omega)]) (fun id hid x hx => by rw [rd_set_other (fun e => hid (by rw [← e]; simp [RS]))]; exact hx), P.low.set (by omega) _, by simpa using hlen, rd_set_same (by omega), by rw [rd_set_other (by omega)]; exact P.f, by rw [rd_set_other (by omega)]; exact P.v, by rw [rd_set_other (by omega)]; exact P.i, by rw [rd_set_other (by omega)]; exact P.v2, by rw [rd_set_other (by omega)]; exact P.i2⟩

theorem owns1_eq {D : Dev} {n m k l s p : Int} {d : List Int} {f : Cell} {g h : Heap} {told : Bool} {ls : List Int} (hd : d.length = 7) (P : OwnP g h (vwC D.length n m f) (inoC k l s p d) told ls) (hl : ls.length ≤ 1000) :
    ∃ h', S_fmap_Owns_1 [.c (.p (g.length + 4) 0), .c (.p (g.length + 1) 0), .c (.p g.length 0), .c (.p (g.length + 3) 0)] h = some (.t [], h') ∧ OwnP g h' (vwC D.length n m f) (inoC k l s p d) true (tellF D n k d told ls) := by
  have t1 : aload1 h (.c (.p (g.length + 4) 0)) = some (.c (.b told)) := load1_of P.t rfl rfl
  have fa0 : ∀ q, afAddr (.c (.p q 0)) 0 = some (.c (.p q 0)) := fun q => rfl
  have fa10 : ∀ q, afAddr (.c (.p q 0)) 10 = some (.c (.p q 10)) := fun q => by simp [afAddr]
  have i0 : aload1 h (.c (.p (g.length + 1) 0)) = some (.c (.i .i64 k)) := load1_of P.i rfl rfl
  have i10 : aload1 h (.c (.p (g.length + 1) 10)) = some (.c (.i .i64 (d.getD 6 0))) := by
    refine load1_of P.i ?_ rfl
    have : (inoC k l s p d)[10]? = (encI d)[6]? := rfl
    rw [this, encI_get, List.getElem?_eq_getElem (by omega), List.getD_eq_getElem?_getD, List.getElem?_eq_getElem (by omega)]; rfl
  have l3 : aloadN h 3 (.c (.p g.length 0)) = some (.a (layC D.length n m)) := by rw [loadN_of P.v (by simp [vwC]) rfl]; rfl
  have hI := geom_IsData_eq (b := D.length) (n := n) (m := m) (i := d.getD 6 0) (h := h)
  have hj : ∀ h1, astore1 h (.c (.p (g.length + 4) 0)) (.c (.b true)) = some h1 → fmap_Owns_1_j0 0 (.c (.p (g.length + 4) 0)) h = some (.t [], h1) := fun h1 e => by rw [fmap_Owns_1_j0_eq]; simp only [bnd_some, e]; rfl
  unfold tellF
  cases told with
  | true =>
    obtain ⟨b1, b2⟩ := P.tell
    refine ⟨_, S_fmap_Owns_1_of (n := 0) ?_, by rw [if_neg (by simp)]; exact b2⟩
    rw [R_fmap_Owns_1_eq]
    simp only [esc, t1, hj _ b1]
  | false =>
    by_cases c1 : k = 1
    · cases c2 : isDatL D.length n (d.getD 6 0) with
      | false =>
        rw [c2] at hI
        obtain ⟨b1, b2⟩ := P.tell
        refine ⟨_, S_fmap_Owns_1_of (n := 0) ?_, by rw [if_neg (by simp)]; exact b2⟩
        rw [R_fmap_Owns_1_eq]
        simp only [bnd_some, t1, aun_not, Bool.not_false, gd_tt, fa0, fa10, i0, abin_eql, c1, eq_self, decide_true, apick_b, cond_true, l3, i10, hI, cnd_f, hj _ b1]
      | true =>
        rw [c2] at hI
        obtain ⟨x, v, h2, h3, a1, a2, a3, a4⟩ := P.push hl (d.getD 6 0)
        obtain ⟨b1, b2⟩ := a4.tell
        have ef : afill [Cell.i .i64 0] [(0, 1, .c (.i .i64 (d.getD 6 0)))] = some [.i .i64 (d.getD 6 0)] := rfl
        have hj3 : fmap_Owns_1_j0 0 (.c (.p (g.length + 4) 0)) h3 = some (.t [], h3.set (g.length + 4) (some ⟨[.b true], true⟩)) := by rw [fmap_Owns_1_j0_eq]; simp only [bnd_some, b1]; rfl
        refine ⟨_, S_fmap_Owns_1_of (n := 0) ?_, by rw [if_pos ⟨rfl, c1, rfl⟩]; exact b2⟩
        rw [R_fmap_Owns_1_eq]
        simp only [bnd_some, t1, aun_not, Bool.not_false, gd_tt, fa0, fa10, i0, abin_eql, c1, eq_self, decide_true, apick_b, cond_true, l3, i10, hI, cnd_t, a1, ef, a2, a3, hj3]
    · obtain ⟨b1, b2⟩ := P.tell
      refine ⟨_, S_fmap_Owns_1_of (n := 0) ?_, by rw [if_neg (by simp [c1])]; exact b2⟩
      rw [R_fmap_Owns_1_eq]
      simp only [bnd_some, t1, aun_not, Bool.not_false, gd_tt, gd_ft, fa0, fa10, i0, abin_eql, c1, eq_self, decide_false, apick_b, cond_true, cond_false, cnd_f, hj _ b1]

theorem owns2_eq {D : Dev} {n m k l s p : Int} {d : List Int} {f : Cell} {g h : Heap} {st : Bool × List Int} {j : Nat} {no : Int} (hd : d.length = 7) (P : OwnP g h (vwC D.length n m f) (inoC k l s p d) st.1 st.2) (hl : st.2.length ≤ 900) :
    ∃ h', S_fmap_Owns_2__Owns_1 [.c (.i .i64 (j : Int)), .c (.i .i64 no), .c (.p (g.length + 5) 0), .c (.p (g.length + 3) 0)] h = some (.t [], h') ∧ OwnP g h' (vwC D.length n m f) (inoC k l s p d) (stepO D n k d st (j, no)).1 (stepO D n k d st (j, no)).2 := by
  have ef : afill [Cell.i .i64 0] [(0, 1, .c (.i .i64 no))] = some [.i .i64 no] := rfl
  have f1 : aload1 h (.c (.p (g.length + 5) 0)) = some (.c (fO g.length)) := load1_of P.f rfl rfl
  have hcv : ∀ h : Heap, callv E_fmap_Owns_2__Owns_1 (.c (fO g.length)) [] h = S_fmap_Owns_1 [.c (.p (g.length + 4) 0), .c (.p (g.length + 1) 0), .c (.p g.length 0), .c (.p (g.length + 3) 0)] h := fun _ => Eq.trans rfl rfl
  unfold stepO
  by_cases c : 6 ≤ j
  · rw [if_pos c]
    obtain ⟨h1, g1, g2⟩ := owns1_eq hd P (by omega)
    have hlt : (tellF D n k d st.1 st.2).length ≤ 1000 := by
      unfold tellF
      split
      · simp; omega
      · omega
    obtain ⟨x, v, h2, h3, a1, a2, a3, a4⟩ := g2.push hlt no
    refine ⟨h3, S_fmap_Owns_2__Owns_1_of (n := 0) ?_, a4⟩
    rw [R_fmap_Owns_2__Owns_1_eq]
    have c1 : (6 : Int) ≤ (j : Int) := by omega
    simp only [bnd_some, abin_geq, c1, decide_true, cnd_t, f1, hcv, g1, fmap_Owns_2__Owns_1_j0_eq, a1, ef, a2, a3]
    rfl
  · rw [if_neg c]
    obtain ⟨x, v, h2, h3, a1, a2, a3, a4⟩ := P.push (by omega) no
    refine ⟨h3, S_fmap_Owns_2__Owns_1_of (n := 0) ?_, a4⟩
    rw [R_fmap_Owns_2__Owns_1_eq]
    have c1 : ¬ (6 : Int) ≤ (j : Int) := by omega
    simp only [bnd_some, abin_geq, c1, decide_false, cnd_f, fmap_Owns_2__Owns_1_j0_eq, a1, ef, a2, a3]
    rfl

theorem owns_of_dir {D : Dev} {n m k l s p : Int} {d : List Int} {f : Cell} {g : Heap} (hD : okD D) (hd : d.length = 7) (hv : IsView g f D) (hk : k = 2) :
    ∃ x g', R_fmap_Owns__Owns_1 0 [.a (vwC D.length n m f), .a (inoC k l s p d)] g = some (.c x, g') ∧ HeldI g' x (ownsF D n k d) g.length [] := by
  have hIl : (inoC k l s p d).length = 11 := by simp [inoC, encI_length, hd]
  have l11 : ldN (some (Row.mk (inoC k l s p d) true)) 0 11 = some (.a (inoC k l s p d)) := ldN_all hIl
  have l4 := vw_l4 (b := D.length) (n := n) (m := m) (f := f)
  have i0 : (inoC k l s p d)[0]? = some (.i .i64 k) := rfl
  have hz : (encI (0 :: zI 32)).length = 33 := encX_length (d := 0) zI_length
  have hX := idxC_length D n k d
  have hI := fmap_Index_eq (n := n) (m := m) (k := k) (l := l) (s := s) (p := p) (h := g ++ [some (Row.mk (vwC D.length n m f) true), some (Row.mk (inoC k l s p d) true), some (Row.mk [] true), some (Row.mk [.ns] true)]) hD hd (hv.more _)
  have eo : ownsF D n k d = (if idxOk D n k d then [d.getD 0 0] else []) ++ bukF D n k d := by unfold ownsF; rw [if_pos hk]
  have hbl : (bukF D n k d).length ≤ 32 := by
    unfold bukF
    cases idxOk D n k d with
    | false => simp
    | true =>
      have h1 := List.length_filter_le (isDatL D.length n) (bucL (getT (blk D (d.getD 0 0)) 32) (manyX (getD (blk D (d.getD 0 0)))))
      have h2 := bucL_length (getT (blk D (d.getD 0 0)) 32) (manyX (getD (blk D (d.getD 0 0))))
      have h3 := manyX_le (getD (blk D (d.getD 0 0)))
      simp only [cond_true]
      omega
  -- the end: what its buckets are is appended
  have fin : ∀ (h : Heap) (ls : List Int), VarI h (g.length + 3) ls g.length [g.length + 3, g.length, g.length + 1] → Low g.length g h → rd h g.length = some ⟨vwC D.length n m f, true⟩ → rd h (g.length + 1) = some ⟨inoC k l s p d, true⟩ → ls.length ≤ 1000 →
      ∃ x g', fmap_Owns__Owns_1_j0 0 (.c (.p g.length 0)) (.c (.p (g.length + 1) 0)) (.c (.p (g.length + 3) 0)) h = some (.c x, g') ∧ HeldI g' x (ls ++ bukF D n k d) g.length [] := by
    intro h ls hV hlow h1 h2 hl
    obtain ⟨x, hx, hd'⟩ := hV
    have hgl := hlow.2.1
    have a1 : aload1 h (.c (.p (g.length + 3) 0)) = some (.c x) := load1_of hx rfl (by simp)
    have a2 := loadAll (n := 4) h1 rfl
    have a3 := loadAll (n := 11) h2 hIl
    have hB := fmap_Buckets_eq (n := n) (m := m) (k := k) (l := l) (s := s) (p := p) hD hd (hv.since hlow)
    have hQ := quiet_grows (h := h) (v := .c (.sl h.length 0 (bukF D n k d).length 1)) (Grows.rfl'.new (encI (bukF D n k d)))
    rw [fmap_Owns__Owns_1_j0_eq]
    rcases hd' with ⟨rfl, rfl⟩ | ⟨id, rfl, hr, hb, _⟩
    · have hA := app_ns1 (h := h ++ [some (Row.mk (encI (bukF D n k d)) true)]) (jd := h.length) (m := (bukF D n k d).length) (sz := 1) (ys := encI (bukF D n k d)) (by simp) (by rw [encI_length, Nat.mul_one]) (by omega) (by omega)
      have e1 : (h ++ [some (Row.mk (encI (bukF D n k d)) true)]).length = h.length + 1 := by simp
      rw [e1] at hA
      refine ⟨_, _, by simp only [bnd_some, a1, a2, a3, List.append_nil, hB, hQ, hA] <;> rfl, .inr ⟨h.length + 1, rfl, ?_, by omega, by simp⟩⟩
      have := rd_new (h := h ++ [some (Row.mk (encI (bukF D n k d)) true)]) (r := ⟨encI (bukF D n k d), true⟩)
      rw [e1] at this
      exact this
    · have hA := app_of (h := h ++ [some (Row.mk (encI (bukF D n k d)) true)]) (id := id) (jd := h.length) (n := ls.length) (m := (bukF D n k d).length) (sz := 1) (cs := encI ls) (ys := encI (bukF D n k d)) (rw := true) (rd_append hr) (by rw [encI_length, Nat.mul_one]) (by simp) (by rw [encI_length, Nat.mul_one]) rfl (by omega) (by omega)
      rw [← encI_append] at hA
      have el : ls.length + (bukF D n k d).length = (ls ++ bukF D n k d).length := by simp
      rw [el] at hA
      refine ⟨_, _, by simp only [bnd_some, a1, a2, a3, List.append_nil, hB, hQ, hA] <;> rfl, .inr ⟨_, rfl, ?_, by simp; omega, by simp⟩⟩
      have := rd_new (h := (h ++ [some (Row.mk (encI (bukF D n k d)) true)]).set id none) (r := ⟨encI (ls ++ bukF D n k d), true⟩)
      rw [List.length_set] at this
      exact this
  rw [R_fmap_Owns__Owns_1_eq, zI_enc, eo]
  cases c : idxOk D n k d with
  | false =>
    rw [c] at hI
    obtain ⟨x, g', f1, f2⟩ := fin (g ++ [some (Row.mk (vwC D.length n m f) true), some (Row.mk (inoC k l s p d) true), some (Row.mk [] true), some (Row.mk [.ns] true), some (Row.mk (encI (idxC D n k d)) true)]) [] (VarI.nil (by simp)) ((Low.refl (Nat.le_refl _)).new _) (by simp) (by simp) (by simp)
    refine ⟨x, g', ?_, f2⟩
    generalize vwC D.length n m f = V at *
    generalize inoC k l s p d = I at *
    generalize encI (idxC D n k d) = X at *
    generalize encI (0 :: zI 32) = z at *
    simp only [esc, esh, Nat.reduceAdd, Nat.reduceMul, Nat.reduceLT, eq_self, i0, hk, l4, l11, hI, hz, hX]
    exact f1
  | true =>
    rw [c] at hI
    obtain ⟨H, hH⟩ : ∃ H, H = g ++ [some (Row.mk (vwC D.length n m f) true), some (Row.mk (inoC k l s p d) true), some (Row.mk [] true), some (Row.mk [.ns] true), some (Row.mk (encI (idxC D n k d)) true)] := ⟨_, rfl⟩
    have lH : H.length = g.length + 5 := by rw [hH]; simp
    have hV0 : VarI H (g.length + 3) [] g.length [g.length + 3, g.length, g.length + 1] := VarI.nil (by rw [hH]; simp)
    obtain ⟨x, v, h2, h3, a1, a2, a3, a4, a5, a6, a7⟩ := hV0.push (by simp) (by omega) (by omega) (by intro q hq; simp only [List.mem_cons, List.not_mem_nil, or_false] at hq; omega) (by simp) (d.getD 0 0)
    obtain ⟨x', g', f1, f2⟩ := fin h3 [d.getD 0 0] a4 ((by rw [hH]; exact (Low.refl (Nat.le_refl _)).new _ : Low g.length g H).trans a5) (by rw [a6 _ (by simp) (by omega), hH]; simp) (by rw [a6 _ (by simp) (by omega), hH]; simp) (by simp)
    have i4 : aload1 H (.c (.p (g.length + 1) 4)) = some (.c (.i .i64 (d.getD 0 0))) := by
      refine load1_of (cs := inoC k l s p d) (rw := true) (by rw [hH]; simp) ?_ rfl
      have : (inoC k l s p d)[4]? = (encI d)[0]? := rfl
      rw [this, encI_get, List.getElem?_eq_getElem (by omega), List.getD_eq_getElem?_getD, List.getElem?_eq_getElem (by omega)]; rfl
    have ad : ∀ q, aiAddrA 6 1 (.c (.p q 4)) (.c (.i .i64 0)) = some (.c (.p q 4)) := fun q => rfl
    have ef : afill [Cell.i .i64 0] [(0, 1, .c (.i .i64 (d.getD 0 0)))] = some [.i .i64 (d.getD 0 0)] := rfl
    have s1 : astoreN (g ++ [some (Row.mk (vwC D.length n m f) true), some (Row.mk (inoC k l s p d) true), some (Row.mk [] true), some (Row.mk [.ns] true), some (Row.mk (encI (0 :: zI 32)) true)]) 33 (.c (.p (g.length + 4) 0)) (.a (encI (idxC D n k d))) = some H := by
      rw [astoreN_at, hH]
      simp only [List.getElem?_cons_succ, List.getElem?_cons_zero, Option.join_some, stN_all hz hX, mp_some, List.set_cons_succ, List.set_cons_zero]
    refine ⟨x', g', ?_, f2⟩
    generalize vwC D.length n m f = V at *
    generalize inoC k l s p d = I at *
    generalize encI (idxC D n k d) = X at *
    generalize encI (0 :: zI 32) = z at *
    have fa4 : ∀ q, afAddr (.c (.p q 0)) 4 = some (.c (.p q 4)) := fun q => by simp [afAddr]
    simp only [esc, aloadN_at, aloadN_at0, aload1_at, aload1_at0, ld1_row, eq_self, i0, hk, l4, l11, hI, s1, a1, i4, ad, ef, a2, a3]
    exact f1

theorem owns_of_file {D : Dev} {n m k l s p : Int} {d : List Int} {f : Cell} {g : Heap} (hD : okD D) (hd : d.length = 7) (hv : IsView g f D) (hk : k ≠ 2) :
    ∃ x g', R_fmap_Owns__Owns_1 0 [.a (vwC D.length n m f), .a (inoC k l s p d)] g = some (.c x, g') ∧ HeldI g' x (ownsF D n k d) g.length [] := by
  have hIl : (inoC k l s p d).length = 11 := by simp [inoC, encI_length, hd]
  have l11 : ldN (some (Row.mk (inoC k l s p d) true)) 0 11 = some (.a (inoC k l s p d)) := ldN_all hIl
  have l4 := vw_l4 (b := D.length) (n := n) (m := m) (f := f)
  have i0 : (inoC k l s p d)[0]? = some (.i .i64 k) := rfl
  obtain ⟨G, hG⟩ : ∃ G, G = g ++ [some (Row.mk (vwC D.length n m f) true), some (Row.mk (inoC k l s p d) true), some (Row.mk [] true), some (Row.mk [.ns] true), some (Row.mk [.b false] true), some (Row.mk [fO g.length] true), some (Row.mk (vwC D.length n m f) true), some (Row.mk (inoC k l s p d) true)] := ⟨_, rfl⟩
  have lG : G.length = g.length + 8 := by rw [hG]; simp
  have P0 : OwnP g G (vwC D.length n m f) (inoC k l s p d) false [] := by
    rw [hG]
    exact ⟨VarI.nil (by simp), (Low.refl (Nat.le_refl _)).new _, by simp, by simp, by simp, by simp, by simp, by simp, by simp⟩
  have emk1 : amkf 59 [.c (.p (g.length + 4) 0), .c (.p (g.length + 1) 0), .c (.p g.length 0), .c (.p (g.length + 3) 0)] = some (.c (fO g.length)) := rfl
  have emk2 : amkf 61 [.c (.p (g.length + 5) 0), .c (.p (g.length + 3) 0)] = some (.c (.f 61 [(g.length + 5, 0), (g.length + 3, 0)])) := rfl
  have hcv : ∀ (x y : Val) (h : Heap), callv E_fmap_each__Owns_2 (.c (.f 61 [(g.length + 5, 0), (g.length + 3, 0)])) [x, y] h = S_fmap_Owns_2__Owns_1 [x, y, .c (.p (g.length + 5) 0), .c (.p (g.length + 3) 0)] h := fun _ _ _ => Eq.trans rfl rfl
  have hcv1 : ∀ h : Heap, callv E_fmap_Owns__Owns_1 (.c (fO g.length)) [] h = S_fmap_Owns_1 [.c (.p (g.length + 4) 0), .c (.p (g.length + 1) 0), .c (.p g.length 0), .c (.p (g.length + 3) 0)] h := fun _ => Eq.trans rfl rfl
  obtain ⟨h', f1, f2⟩ := each_gen (σ := Bool × List Int) (L := fun M x h => fmap_each__Owns_2_l0 135 M (.c (.f 61 [(g.length + 5, 0), (g.length + 3, 0)])) (.c (.p (g.length + 6) 0)) (.c (.p (g.length + 7) 0)) x h) (C := fun x y h => callv E_fmap_each__Owns_2 (.c (.f 61 [(g.length + 5, 0), (g.length + 3, 0)])) [x, y] h)
    (x3 := .c (.p (g.length + 6) 0)) (x4 := .c (.p (g.length + 7) 0)) (n := n) (m := m) (k := k) (l := l) (s := s) (p := p) (f := f) hD hd
    (fun j st h => OwnP g h (vwC D.length n m f) (inoC k l s p d) st.1 st.2 ∧ st.2.length ≤ 2 * j) (stepO D n k d)
    (fun m x h => by rw [fmap_each__Owns_2_l0_eq]; simp only [fmap_each__Owns_2_j0_eq])
    (fun j st h hP => ⟨hP.1, by omega⟩)
    (fun j st h hP => ⟨loadAll hP.1.v2 rfl, loadAll hP.1.i2 hIl, hv.since hP.1.low⟩)
    (fun j st h no hP hj hno _ => by
      obtain ⟨h', g1, g2⟩ := owns2_eq (j := j) (no := no) hd hP.1 (by omega)
      refine ⟨h', by rw [hcv]; exact g1, g2, ?_⟩
      have := hP.2
      unfold stepO tellF
      split
      · simp only [List.length_append, List.length_singleton]
        split
        · simp only [List.length_append, List.length_singleton]; omega
        · omega
      · simp only [List.length_append, List.length_singleton]; omega) 134 0 135 (false, []) G (by omega) (by omega) ⟨P0, by simp⟩
  have hS : S_fmap_each__Owns_2 [.a (vwC D.length n m f), .a (inoC k l s p d), .c (.f 61 [(g.length + 5, 0), (g.length + 3, 0)])] (g ++ [some (Row.mk (vwC D.length n m f) true), some (Row.mk (inoC k l s p d) true), some (Row.mk [] true), some (Row.mk [.ns] true), some (Row.mk [.b false] true), some (Row.mk [fO g.length] true)]) = some (.t [], h') := by
    refine S_fmap_each__Owns_2_of (n := 135) ?_
    rw [R_fmap_each__Owns_2_eq]
    rw [hG] at f1
    generalize vwC D.length n m f = V at *
    generalize inoC k l s p d = I at *
    simp only [esc]
    exact f1
  have t5 : aload1 h' (.c (.p (g.length + 5) 0)) = some (.c (fO g.length)) := load1_of f2.1.f rfl rfl
  obtain ⟨h2, q1, q2⟩ := owns1_eq hd f2.1 (by omega)
  have hall := foldO_all (D := D) (n := n) (d := d) hk
  simp only at hall
  rw [hall] at q2
  obtain ⟨x, hx, hd'⟩ := q2.var
  have t3 : aload1 h2 (.c (.p (g.length + 3) 0)) = some (.c x) := load1_of hx rfl (by simp)
  refine ⟨x, h2, ?_, ?_⟩
  · rw [R_fmap_Owns__Owns_1_eq]
    generalize hfo : fO g.length = F at *
    generalize vwC D.length n m f = V at *
    generalize inoC k l s p d = I at *
    have s0 : st1 (some (Row.mk [.b false] true)) 0 (.b false) = some ⟨[.b false], true⟩ := rfl
    have s1 : st1 (some (Row.mk [.nf] true)) 0 F = some ⟨[F], true⟩ := rfl
    simp only [esc, aloadN_at, aloadN_at0, aload1_at, aload1_at0, astore1_at, astore1_at0, ld1_row, eq_self, i0, hk, s0, emk1, s1, l4, l11, emk2, hS, t5, hcv1, q1, t3]
  · rcases hd' with hd' | ⟨id, e, hr, hb, _⟩
    · exact .inl hd'
    · exact .inr ⟨id, e, hr, hb, by simp⟩

theorem fmap_Owns_eq {D : Dev} {n m k l s p : Int} {d : List Int} {f : Cell} {h : Heap} (hD : okD D) (hd : d.length = 7) (hv : IsView h f D) :
    AnsI h (S_fmap_Owns__Owns_1 [.a (vwC D.length n m f), .a (inoC k l s p d)] h) (ownsF D n k d) := by
  have key : ∃ x g', R_fmap_Owns__Owns_1 0 [.a (vwC D.length n m f), .a (inoC k l s p d)] (ro h) = some (.c x, g') ∧ HeldI g' x (ownsF D n k d) (ro h).length [] := by
    by_cases hk : k = 2
    · exact owns_of_dir hD hd hv.ro hk
    · exact owns_of_file hD hd hv.ro hk
  obtain ⟨x, g', e, hd'⟩ := key
  exact ansI_of (S := S_fmap_Owns__Owns_1) (R := R_fmap_Owns__Owns_1) (N := 0) S_fmap_Owns__Owns_1_low S_fmap_Owns__Owns_1_out e (by rw [ro_length] at hd'; exact hd')

end Go.Proofs.Ytdgggnlbdoiloaa
end
noncomputable section
namespace Go.Proofs.Ytdgggnlbdoiloaa
open Go Go.Esc
set_option maxRecDepth 100000
def er04_Ints_o0 : List AOper := [aO 4 (.mv (.v (.c (.b false))))]
def er04_Ints_c0 : ACode := .ops er04_Ints_o0
def er04_Ints_o1 : List AOper := [aO 6 (.mv (.t 0)), aO 7 (.len (.t 6)), aO 8 (.mv (.t 1)), aO 9 (.len (.t 8)), aO 10 (.bin .neq (.t 7) (.t 9))]
def er04_Ints_c1 : ACode := .ops er04_Ints_o1
def er04_Ints_o2 : List AOper := [aO 4 (.mv (.v (.c (.b false))))]
def er04_Ints_c2 : ACode := .ops er04_Ints_o2
def er04_Ints_c3 : ACode := .seq [4] er04_Ints_c2 .ret
def er04_Ints_c4 : ACode := .cond (.t 10) er04_Ints_c3 .skip
def er04_Ints_c5 : ACode := .seq [0, 1, 10] er04_Ints_c1 er04_Ints_c4
def er04_Ints_o3 : List AOper := [aO 5 (.mv (.v (.c (.i .i64 0))))]
def er04_Ints_c6 : ACode := .ops er04_Ints_o3
def er04_Ints_o4 : List AOper := [aO 11 (.mv (.t 5)), aO 12 (.mv (.t 0)), aO 13 (.len (.t 12)), aO 14 (.bin .lss (.t 11) (.t 13))]
def er04_Ints_c7 : ACode := .ops er04_Ints_o4
def er04_Ints_c8 : ACode := .cond (.t 14) .skip (.exit 0)
def er04_Ints_c9 : ACode := .seq [0, 1, 5, 14] er04_Ints_c7 er04_Ints_c8
def er04_Ints_o5 : List AOper := [aO 17 (.mv (.t 0)), aO 18 (.mv (.t 5)), aO 19 (.iAddrL 1 (.t 17) (.t 18)), aO 20 (.load1 (.t 19)), aO 21 (.mv (.t 1)), aO 22 (.mv (.t 5)), aO 23 (.iAddrL 1 (.t 21) (.t 22)), aO 24 (.load1 (.t 23))]
def er04_Ints_o6 : List AOper := [aO 25 (.bin .neq (.t 20) (.t 24))]
def er04_Ints_c10 : ACode := .draw 0 er04_Ints_o5 er04_Ints_o6
def er04_Ints_o7 : List AOper := [aO 4 (.mv (.v (.c (.b false))))]
def er04_Ints_c11 : ACode := .ops er04_Ints_o7
def er04_Ints_c12 : ACode := .seq [4] er04_Ints_c11 .ret
def er04_Ints_c13 : ACode := .cond (.t 25) er04_Ints_c12 .skip
def er04_Ints_c14 : ACode := .seq [0, 1, 5, 25] er04_Ints_c10 er04_Ints_c13
def er04_Ints_c15 : ACode := .block 1 er04_Ints_c14
def er04_Ints_o8 : List AOper := [aO 15 (.mv (.t 5)), aO 16 (.bin .add (.t 15) (.v (.c (.i .i64 1)))), aO 5 (.mv (.t 16))]
def er04_Ints_c16 : ACode := .ops er04_Ints_o8
def er04_Ints_c17 : ACode := .seq [0, 1, 5] er04_Ints_c15 er04_Ints_c16
def er04_Ints_c18 : ACode := .seq [0, 1, 5] er04_Ints_c9 er04_Ints_c17
def er04_Ints_c19 : ACode := .loop [0, 1, 5] er04_Ints_c18
def er04_Ints_c20 : ACode := .block 0 er04_Ints_c19
def er04_Ints_c21 : ACode := .seq [0, 1, 5] er04_Ints_c6 er04_Ints_c20
def er04_Ints_o9 : List AOper := [aO 4 (.mv (.v (.c (.b true))))]
def er04_Ints_c22 : ACode := .ops er04_Ints_o9
def er04_Ints_c23 : ACode := .seq [4] er04_Ints_c22 .ret
def er04_Ints_c24 : ACode := .seq [] er04_Ints_c21 er04_Ints_c23
def er04_Ints_c25 : ACode := .seq [0, 1] er04_Ints_c5 er04_Ints_c24
def er04_Ints_c26 : ACode := .seq [0, 1] er04_Ints_c0 er04_Ints_c25
def A_er04_Ints : AFn := ⟨er04_Ints_c26, [.tmp 4]⟩
def E_er04_Ints : Sums := disp0
def er04_Ints_c0_d (n : Nat) : SmV := smOps E_er04_Ints er04_Ints_o0
def er04_Ints_c1_d (n : Nat) : SmV := smOps E_er04_Ints er04_Ints_o1
def er04_Ints_c2_d (n : Nat) : SmV := smOps E_er04_Ints er04_Ints_o2
def er04_Ints_c3_d (n : Nat) : SmV := smSeq [4] (er04_Ints_c2_d n) smRet
def er04_Ints_c4_d (n : Nat) : SmV := smCond (.t 10) (er04_Ints_c3_d n) smSkip
def er04_Ints_c5_d (n : Nat) : SmV := smSeq [0, 1, 10] (er04_Ints_c1_d n) (er04_Ints_c4_d n)
def er04_Ints_c6_d (n : Nat) : SmV := smOps E_er04_Ints er04_Ints_o3
def er04_Ints_c7_d (n : Nat) : SmV := smOps E_er04_Ints er04_Ints_o4
def er04_Ints_c8_d (n : Nat) : SmV := smCond (.t 14) smSkip (smExit 0)
def er04_Ints_c9_d (n : Nat) : SmV := smSeq [0, 1, 5, 14] (er04_Ints_c7_d n) (er04_Ints_c8_d n)
def er04_Ints_c10_d (n : Nat) : SmV := smDraw E_er04_Ints 0 er04_Ints_o5 er04_Ints_o6
def er04_Ints_c11_d (n : Nat) : SmV := smOps E_er04_Ints er04_Ints_o7
def er04_Ints_c12_d (n : Nat) : SmV := smSeq [4] (er04_Ints_c11_d n) smRet
def er04_Ints_c13_d (n : Nat) : SmV := smCond (.t 25) (er04_Ints_c12_d n) smSkip
def er04_Ints_c14_d (n : Nat) : SmV := smSeq [0, 1, 5, 25] (er04_Ints_c10_d n) (er04_Ints_c13_d n)
def er04_Ints_c15_d (n : Nat) : SmV := smBlock 1 (er04_Ints_c14_d n)
def er04_Ints_c16_d (n : Nat) : SmV := smOps E_er04_Ints er04_Ints_o8
def er04_Ints_c17_d (n : Nat) : SmV := smSeq [0, 1, 5] (er04_Ints_c15_d n) (er04_Ints_c16_d n)
def er04_Ints_c18_d (n : Nat) : SmV := smSeq [0, 1, 5] (er04_Ints_c9_d n) (er04_Ints_c17_d n)
def er04_Ints_c19_d (n : Nat) : SmV := smLoop n [0, 1, 5] (er04_Ints_c18_d n)
def er04_Ints_c20_d (n : Nat) : SmV := smBlock 0 (er04_Ints_c19_d n)
def er04_Ints_c21_d (n : Nat) : SmV := smSeq [0, 1, 5] (er04_Ints_c6_d n) (er04_Ints_c20_d n)
def er04_Ints_c22_d (n : Nat) : SmV := smOps E_er04_Ints er04_Ints_o9
def er04_Ints_c23_d (n : Nat) : SmV := smSeq [4] (er04_Ints_c22_d n) smRet
def er04_Ints_c24_d (n : Nat) : SmV := smSeq [] (er04_Ints_c21_d n) (er04_Ints_c23_d n)
def er04_Ints_c25_d (n : Nat) : SmV := smSeq [0, 1] (er04_Ints_c5_d n) (er04_Ints_c24_d n)
def er04_Ints_c26_d (n : Nat) : SmV := smSeq [0, 1] (er04_Ints_c0_d n) (er04_Ints_c25_d n)
def er04_Ints_k0 (n : Nat) : AExit → Env → Heap → OptV := fun x e h => match x with | .normal => hold ((er04_Ints_c23_d n) A_er04_Ints.fin (e.keep []) h) | .exit id => A_er04_Ints.fin (.exit id) e h | .ret => A_er04_Ints.fin .ret e h
def er04_Ints_k1 (n : Nat) : AExit → Env → Heap → OptV := fun x e h => match x with | .exit i => bif Nat.beq i 0 then (er04_Ints_k0 n) .normal e h else (er04_Ints_k0 n) (.exit i) e h | .normal => (er04_Ints_k0 n) .normal e h | .ret => (er04_Ints_k0 n) .ret e h
def er04_Ints_l0 (n m : Nat) (x0 x1 x5 : Val) (h : Heap) : OptV := around (er04_Ints_c18_d n) [0, 1, 5] (er04_Ints_k1 n) m [(0, x0), (1, x1), (5, x5)] h
def R_er04_Ints (n : Nat) (args : List Val) (h : Heap) : OptV := (er04_Ints_c26_d n) A_er04_Ints.fin (params 0 args) h
theorem R_er04_Ints_eq (n : Nat) (a0 a1 : Val) (h : Heap) : R_er04_Ints n [a0, a1] h = bnd (alen a0) fun v1 => bnd (alen a1) fun v2 => bnd (abin .neq v1 v2) fun v3 => cnd v3 (some ((.c (.b false)), h)) (er04_Ints_l0 n n a0 a1 (.c (.i .i64 0)) h) := by kernel_rfl
theorem er04_Ints_l0_eq (n m : Nat) (x0 x1 x5 : Val) (h : Heap) : er04_Ints_l0 n (m + 1) x0 x1 x5 h = bnd (alen x0) fun v4 => bnd (abin .lss x5 v4) fun v5 => cnd v5 (bnd (aiAddrL 1 x0 x5) fun v6 => bnd (aload1 h v6) fun v7 => bnd (aiAddrL 1 x1 x5) fun v8 => bnd (aload1 h v8) fun v9 => bnd (abin .neq v7 v9) fun v10 => cnd v10 (some ((.c (.b false)), (h ++ []))) (bnd (abin .add x5 (.c (.i .i64 1))) fun v11 => er04_Ints_l0 n m x0 x1 v11 ((h ++ [])))) (some ((.c (.b true)), h)) := by kernel_rfl
theorem K_er04_Ints : FnK Try.prog 37 A_er04_Ints E_er04_Ints R_er04_Ints := .mk' (sound0) Try.func37 (by kernel_rfl) (by intro n args h; kernel_rfl)
def S_er04_Ints : Fun := tidy (Lim A_er04_Ints E_er04_Ints)
theorem S_er04_Ints_ok : SOk Try.prog 37 S_er04_Ints := K_er04_Ints.sok
theorem S_er04_Ints_flat {n : Nat} {args : List Val} {h h2 : Heap} {v : Val} (he : R_er04_Ints n args (ro h) = some (v, h2)) (hf : v.flat = true) : S_er04_Ints args h = some (v, h) := K_er04_Ints.flat he hf
end Go.Proofs.Ytdgggnlbdoiloaa
end
section
namespace Go.Proofs.Ytdgggnlbdoiloaa
open Go Go.Esc

theorem ints_loop {v u : Val} {nv nu : Nat} {l r : List Int} {h : Heap} (hv : Has h v 1 nv (encI l)) (hu : Has h u 1 nu (encI r)) (hlr : l.length = r.length) (hl : l.length < 9223372036854775807) {k : Nat} : ∀ d i m, i + d = l.length → d < m →
    er04_Ints_l0 k m v u (.c (.i .i64 i)) h = some (.c (.b (decide (l.drop i = r.drop i))), h)
  | d, i, 0, _, hm => by omega
  | 0, i, m + 1, hi, hm => by
    have hnv : l.length = nv := by simpa [encI_length] using hv.length
    have e1 : l.drop i = [] := List.drop_of_length_le (by omega)
    have e2 : r.drop i = [] := List.drop_of_length_le (by omega)
    have h1' : ¬ (i : Int) < l.length := by omega
    rw [er04_Ints_l0_eq]
    simp only [esc, hv.len, ← hnv, h1', e1, e2]
  | d + 1, i, m + 1, hi, hm => by
    have ih := ints_loop hv hu hlr hl (k := k) d (i + 1) m (by omega) (by omega)
    have hnv : l.length = nv := by simpa [encI_length] using hv.length
    have hnu : r.length = nu := by simpa [encI_length] using hu.length
    have hlen := hv.len
    obtain ⟨id, off, rfl, hid, h1, h2⟩ := hv.sl (by omega)
    obtain ⟨id', off', rfl, hid', h1', h2'⟩ := hu.sl (by omega)
    have hx := h1 i (.i .i64 l[i]) (by rw [encI_get, List.getElem?_eq_getElem (by omega)]; rfl)
    have hy := h1' i (.i .i64 r[i]) (by rw [encI_get, List.getElem?_eq_getElem (by omega)]; rfl)
    have ea : aiAddrL 1 (.c (.sl id off nv 1)) (.c (.i .i64 (i : Int))) = some (.c (.p id (off + i))) := by rw [iAddrL_of (by omega)]; simp
    have eb : aiAddrL 1 (.c (.sl id' off' nu 1)) (.c (.i .i64 (i : Int))) = some (.c (.p id' (off' + i))) := by rw [iAddrL_of (by omega)]; simp
    have c1 : (i : Int) < nv := by omega
    rw [er04_Ints_l0_eq, List.drop_eq_getElem_cons (by omega : i < l.length), List.drop_eq_getElem_cons (by omega : i < r.length)]
    by_cases c : l[i] = r[i]
    · simp only [esc, c1, ea, eb, hx, hy, c, wi_succ (show i + 1 < 9223372036854775808 by omega), List.cons.injEq, true_and]
      exact ih
    · simp only [esc, c1, ea, eb, hx, hy, c, List.cons.injEq, false_and]

theorem ref04_Ints_eq {v u : Val} {nv nu : Nat} {l r : List Int} {h : Heap} (hv : Has h v 1 nv (encI l)) (hu : Has h u 1 nu (encI r)) (hl : l.length < 9223372036854775807) :
    S_er04_Ints [v, u] h = some (.c (.b (decide (l = r))), h) := by
  refine S_er04_Ints_flat (n := l.length + 1) (h2 := ro h) ?_ (by simp)
  have hnv : l.length = nv := by simpa [encI_length] using hv.length
  have hnu : r.length = nu := by simpa [encI_length] using hu.length
  rw [R_er04_Ints_eq]
  by_cases c : l.length = r.length
  · have := ints_loop hv.ro hu.ro c hl (k := l.length + 1) l.length 0 (l.length + 1) (by omega) (by omega)
    simp only [List.drop_zero] at this
    have c' : (nv : Int) = nu := by omega
    simp only [esc, hv.len, hu.len, c']
    exact this
  · have c' : ¬ (nv : Int) = nu := by omega
    have c2 : ¬ l = r := fun e => c (by rw [e])
    simp only [esc, hv.len, hu.len, c', c2]

end Go.Proofs.Ytdgggnlbdoiloaa
end
noncomputable section
namespace Go.Proofs.Ytdgggnlbdoiloaa
open Go Go.Esc
set_option maxRecDepth 100000
def el22_works_o0 : List AOper := [aO 0 (.mv (.v (.c (.b false))))]
def el22_works_c0 : ACode := .ops el22_works_o0
def el22_works_o1 : List AOper := [aO 5 (.mkSl 256 (List.replicate 256 (.i .u8 0)) (.v (.c (.i .i64 16))) (.v (.c (.i .i64 16)))), aO 1 (.mv (.t 5))]
def el22_works_c1 : ACode := .ops el22_works_o1
def el22_works_o2 : List AOper := [aO 7 (.mv (.t 1)), aO 8 (.build ([.i .i64 0, .i .i64 0, .i .u64 0]) [(0, 1, (.v (.c (.i .i64 16)))), (1, 1, (.v (.c (.i .i64 8))))]), aO 9 (.call 52 [(.t 8)]), aO 6 (.mv (.t 9)), aO 10 (.ext (.t 6) 0), aO 11 (.ext (.t 6) 1), aO 12 (.iAddrL 256 (.t 7) (.v (.c (.i .i64 0)))), { dst := none, op := .storeN 256 (.t 12) (.t 10) }]
def el22_works_c2 : ACode := .ops el22_works_o2
def el22_works_o3 : List AOper := [aO 14 (.mv (.t 1)), aO 15 (.buildSl 1 1 ([.i .i64 0]) [(0, 1, (.v (.c (.i .i64 11))))]), aO 16 (.call 58 [(.t 15)]), aO 13 (.mv (.t 16)), aO 17 (.ext (.t 13) 0), aO 18 (.ext (.t 13) 1), aO 19 (.iAddrL 256 (.t 14) (.v (.c (.i .i64 10)))), { dst := none, op := .storeN 256 (.t 19) (.t 17) }]
def el22_works_c3 : ACode := .ops el22_works_o3
def el22_works_o4 : List AOper := [aO 21 (.mv (.t 1)), aO 22 (.call 15 [(.t 21)]), aO 20 (.mv (.t 22)), aO 23 (.ext (.t 20) 0), aO 24 (.ext (.t 20) 1), aO 2 (.alloc ([.i .i64 0, .i .i64 0, .i .u64 0, .nf])), { dst := none, op := .storeN 4 (.t 2) (.t 23) }, aO 3 (.mv (.t 24))]
def el22_works_c4 : ACode := .ops el22_works_o4
def el22_works_o5 : List AOper := [aO 25 (.build ([.i .i64 0, .i .i64 0, .i .i64 0, .i .i64 0, .i .i64 0, .i .i64 0, .i .i64 0, .i .i64 0, .i .i64 0, .i .i64 0, .i .i64 0]) [(0, 1, (.v (.c (.i .i64 1)))), (1, 1, (.v (.c (.i .i64 1)))), (10, 1, (.v (.c (.i .i64 10)))), (2, 1, (.v (.c (.i .i64 256))))]), aO 4 (.alloc ([.i .i64 0, .i .i64 0, .i .i64 0, .i .i64 0, .i .i64 0, .i .i64 0, .i .i64 0, .i .i64 0, .i .i64 0, .i .i64 0, .i .i64 0])), { dst := none, op := .storeN 11 (.t 4) (.t 25) }]
def el22_works_c5 : ACode := .ops el22_works_o5
def el22_works_o6 : List AOper := [aO 26 (.fAddr (.t 4) 4), aO 27 (.iAddrA 6 1 (.t 26) (.v (.c (.i .i64 0)))), { dst := none, op := .store1 (.t 27) (.v (.c (.i .i64 9))) }]
def el22_works_c6 : ACode := .ops el22_works_o6
def el22_works_o7 : List AOper := [aO 28 (.loadN 4 (.t 2)), aO 29 (.loadN 11 (.t 4)), aO 30 (.call 24 [(.t 28), (.t 29)]), aO 31 (.buildSl 1 2 ([.i .i64 0, .i .i64 0]) [(0, 1, (.v (.c (.i .i64 9)))), (1, 1, (.v (.c (.i .i64 11))))]), aO 32 (.call 37 [(.t 30), (.t 31)]), aO 33 (.mv (.t 32)), { dst := some 34, op := .loadN 4 (.t 2), guard := some (33, true) }, { dst := some 35, op := .loadN 11 (.t 4), guard := some (33, true) }, { dst := some 36, op := .call 23 [(.t 34), (.t 35)], guard := some (33, true) }, { dst := some 37, op := .buildSl 1 3 ([.i .i64 0, .i .i64 0, .i .i64 0]) [(0, 1, (.v (.c (.i .i64 9)))), (1, 1, (.v (.c (.i .i64 10)))), (2, 1, (.v (.c (.i .i64 11))))], guard := some (33, true) }, { dst := some 38, op := .call 37 [(.t 36), (.t 37)], guard := some (33, true) }, aO 39 (.pick (.t 33) (.t 38) (.v (.c (.b false)))), aO 40 (.mv (.t 39)), { dst := some 41, op := .loadN 4 (.t 2), guard := some (40, true) }, { dst := some 42, op := .loadN 11 (.t 4), guard := some (40, true) }, { dst := some 43, op := .call 27 [(.t 41), (.t 42)], guard := some (40, true) }, { dst := some 44, op := .buildSl 1 1 ([.i .i64 0]) [(0, 1, (.v (.c (.i .i64 6))))], guard := some (40, true) }, { dst := some 45, op := .call 37 [(.t 43), (.t 44)], guard := some (40, true) }, aO 46 (.pick (.t 40) (.t 45) (.v (.c (.b false)))), aO 0 (.mv (.t 46))]
def el22_works_c7 : ACode := .ops el22_works_o7
def el22_works_c8 : ACode := .seq [0] el22_works_c7 .ret
def el22_works_c9 : ACode := .seq [2, 4] el22_works_c6 el22_works_c8
def el22_works_c10 : ACode := .seq [2, 4] el22_works_c5 el22_works_c9
def el22_works_c11 : ACode := .seq [2] el22_works_c4 el22_works_c10
def el22_works_c12 : ACode := .seq [1] el22_works_c3 el22_works_c11
def el22_works_c13 : ACode := .seq [1] el22_works_c2 el22_works_c12
def el22_works_c14 : ACode := .seq [1] el22_works_c1 el22_works_c13
def el22_works_c15 : ACode := .seq [] el22_works_c0 el22_works_c14
def A_el22_works : AFn := ⟨el22_works_c15, [.tmp 0]⟩
def E_el22_works : Sums := disp 52 S_super_Put (disp 58 S_points_Make (disp 15 S_view_Of (disp 24 S_fmap_Blocks (disp 37 S_er04_Ints (disp 23 S_fmap_Owns__Owns_1 (disp 27 S_fmap_Beyond disp0))))))
def el22_works_c0_d (n : Nat) : SmV := smOps E_el22_works el22_works_o0
def el22_works_c1_d (n : Nat) : SmV := smOps E_el22_works el22_works_o1
def el22_works_c2_d (n : Nat) : SmV := smOps E_el22_works el22_works_o2
def el22_works_c3_d (n : Nat) : SmV := smOps E_el22_works el22_works_o3
def el22_works_c4_d (n : Nat) : SmV := smOps E_el22_works el22_works_o4
def el22_works_c5_d (n : Nat) : SmV := smOps E_el22_works el22_works_o5
def el22_works_c6_d (n : Nat) : SmV := smOps E_el22_works el22_works_o6
def el22_works_c7_d (n : Nat) : SmV := smOps E_el22_works el22_works_o7
def el22_works_c8_d (n : Nat) : SmV := smSeq [0] (el22_works_c7_d n) smRet
def el22_works_c9_d (n : Nat) : SmV := smSeq [2, 4] (el22_works_c6_d n) (el22_works_c8_d n)
def el22_works_c10_d (n : Nat) : SmV := smSeq [2, 4] (el22_works_c5_d n) (el22_works_c9_d n)
def el22_works_c11_d (n : Nat) : SmV := smSeq [2] (el22_works_c4_d n) (el22_works_c10_d n)
def el22_works_c12_d (n : Nat) : SmV := smSeq [1] (el22_works_c3_d n) (el22_works_c11_d n)
def el22_works_c13_d (n : Nat) : SmV := smSeq [1] (el22_works_c2_d n) (el22_works_c12_d n)
def el22_works_c14_d (n : Nat) : SmV := smSeq [1] (el22_works_c1_d n) (el22_works_c13_d n)
def el22_works_c15_d (n : Nat) : SmV := smSeq [] (el22_works_c0_d n) (el22_works_c14_d n)
def R_el22_works (n : Nat) (args : List Val) (h : Heap) : OptV := (el22_works_c15_d n) A_el22_works.fin (params 0 args) h
theorem R_el22_works_eq (n : Nat) (h : Heap) : R_el22_works n [] h = bnd (amkn (.c (.i .i64 16)) (.c (.i .i64 16))) fun n1 => bnd (afill ([.i .i64 0, .i .i64 0, .i .u64 0]) [(0, 1, .c (.i .i64 16)), (1, 1, .c (.i .i64 8))]) fun c2 => bnd (S_super_Put [(.a c2)] ((h ++ [some (Row.mk (rows (List.replicate 256 (.i .u8 0)) n1) true)]))) fun p3 => bnd (aext p3.1 0) fun v4 => bnd (aext p3.1 1) fun v5 => bnd (aiAddrL 256 ((.c (.sl h.length 0 n1 256))) (.c (.i .i64 0))) fun v6 => bnd (astoreN p3.2 256 v6 v4) fun h7 => bnd (afill ([.i .i64 0]) [(0, 1, .c (.i .i64 11))]) fun c8 => bnd (S_points_Make [(.c (.sl h7.length 0 1 1))] ((h7 ++ [some (Row.mk (c8) true)]))) fun p9 => bnd (aext p9.1 0) fun v10 => bnd (aext p9.1 1) fun v11 => bnd (aiAddrL 256 ((.c (.sl h.length 0 n1 256))) (.c (.i .i64 10))) fun v12 => bnd (astoreN p9.2 256 v12 v10) fun h13 => bnd (S_view_Of [(.c (.sl h.length 0 n1 256))] h13) fun p14 => bnd (aext p14.1 0) fun v15 => bnd (aext p14.1 1) fun v16 => bnd (astoreN ((p14.2 ++ [some (Row.mk ([.i .i64 0, .i .i64 0, .i .u64 0, .nf]) true)])) 4 ((.c (.p p14.2.length 0))) v15) fun h17 => bnd (afill ([.i .i64 0, .i .i64 0, .i .i64 0, .i .i64 0, .i .i64 0, .i .i64 0, .i .i64 0, .i .i64 0, .i .i64 0, .i .i64 0, .i .i64 0]) [(0, 1, .c (.i .i64 1)), (1, 1, .c (.i .i64 1)), (10, 1, .c (.i .i64 10)), (2, 1, .c (.i .i64 256))]) fun c18 => bnd (astoreN ((h17 ++ [some (Row.mk ([.i .i64 0, .i .i64 0, .i .i64 0, .i .i64 0, .i .i64 0, .i .i64 0, .i .i64 0, .i .i64 0, .i .i64 0, .i .i64 0, .i .i64 0]) true)])) 11 ((.c (.p h17.length 0))) ((.a c18))) fun h19 => bnd (afAddr ((.c (.p h17.length 0))) 4) fun v20 => bnd (aiAddrA 6 1 v20 (.c (.i .i64 0))) fun v21 => bnd (astore1 h19 v21 (.c (.i .i64 9))) fun h22 => bnd (aloadN h22 4 ((.c (.p p14.2.length 0)))) fun v23 => bnd (aloadN h22 11 ((.c (.p h17.length 0)))) fun v24 => bnd (S_fmap_Blocks [v23, v24] h22) fun p25 => bnd (afill ([.i .i64 0, .i .i64 0]) [(0, 1, .c (.i .i64 9)), (1, 1, .c (.i .i64 11))]) fun c26 => bnd (S_er04_Ints [p25.1, (.c (.sl p25.2.length 0 2 1))] ((p25.2 ++ [some (Row.mk (c26) true)]))) fun p27 => bnd (gd p27.1 true (bnd (aloadN p27.2 4 ((.c (.p p14.2.length 0)))) fun v28 => some (v28, p27.2)) (some (.no, p27.2))) fun p29 => bnd (gd p27.1 true (bnd (aloadN p29.2 11 ((.c (.p h17.length 0)))) fun v30 => some (v30, p29.2)) (some (.no, p29.2))) fun p31 => bnd (gd p27.1 true (bnd (S_fmap_Owns__Owns_1 [p29.1, p31.1] p31.2) fun p32 => some (p32.1, p32.2)) (some (.no, p31.2))) fun p33 => bnd (gd p27.1 true (bnd (afill ([.i .i64 0, .i .i64 0, .i .i64 0]) [(0, 1, .c (.i .i64 9)), (1, 1, .c (.i .i64 10)), (2, 1, .c (.i .i64 11))]) fun c34 => some ((.c (.sl p33.2.length 0 3 1)), (p33.2 ++ [some (Row.mk (c34) true)]))) (some (.no, p33.2))) fun p35 => bnd (gd p27.1 true (bnd (S_er04_Ints [p33.1, p35.1] p35.2) fun p36 => some (p36.1, p36.2)) (some (.no, p35.2))) fun p37 => bnd (apick p27.1 p37.1 (.c (.b false))) fun v38 => bnd (gd v38 true (bnd (aloadN p37.2 4 ((.c (.p p14.2.length 0)))) fun v39 => some (v39, p37.2)) (some (.no, p37.2))) fun p40 => bnd (gd v38 true (bnd (aloadN p40.2 11 ((.c (.p h17.length 0)))) fun v41 => some (v41, p40.2)) (some (.no, p40.2))) fun p42 => bnd (gd v38 true (bnd (S_fmap_Beyond [p40.1, p42.1] p42.2) fun p43 => some (p43.1, p43.2)) (some (.no, p42.2))) fun p44 => bnd (gd v38 true (bnd (afill ([.i .i64 0]) [(0, 1, .c (.i .i64 6))]) fun c45 => some ((.c (.sl p44.2.length 0 1 1)), (p44.2 ++ [some (Row.mk (c45) true)]))) (some (.no, p44.2))) fun p46 => bnd (gd v38 true (bnd (S_er04_Ints [p44.1, p46.1] p46.2) fun p47 => some (p47.1, p47.2)) (some (.no, p46.2))) fun p48 => bnd (apick v38 p48.1 (.c (.b false))) fun v49 => some (v49, p48.2) := by kernel_rfl
theorem K_el22_works : FnK Try.prog 22 A_el22_works E_el22_works R_el22_works := .mk' (sound1 S_super_Put_ok (sound1 S_points_Make_ok (sound1 S_view_Of_ok (sound1 S_fmap_Blocks_ok (sound1 S_er04_Ints_ok (sound1 S_fmap_Owns__Owns_1_ok (sound1 S_fmap_Beyond_ok sound0))))))) Try.func22 (by kernel_rfl) (by intro n args h; kernel_rfl)
def S_el22_works : Fun := tidy (Lim A_el22_works E_el22_works)
theorem S_el22_works_ok : SOk Try.prog 22 S_el22_works := K_el22_works.sok
theorem S_el22_works_flat {n : Nat} {args : List Val} {h h2 : Heap} {v : Val} (he : R_el22_works n args (ro h) = some (v, h2)) (hf : v.flat = true) : S_el22_works args h = some (v, h) := K_el22_works.flat he hf
end Go.Proofs.Ytdgggnlbdoiloaa
end
section
namespace Go.Proofs.Ytdgggnlbdoiloaa
open Go Go.Esc

theorem AnsI.low {h : Heap} {o : OptV} {l : List Int} (ha : AnsI h o l) : ∃ v t, o = some (v, h ++ t) ∧ Has (h ++ t) v 1 l.length (encI l) ∧ quiet h (some (v, h ++ t)) = some (v, h ++ t) := by
  obtain ⟨v, t, e, hh, ht⟩ := ha
  refine ⟨v, t, e, hh, ?_⟩
  rcases ht with ⟨rfl, _, _⟩ | ⟨rfl, _⟩
  · rw [List.append_nil]; exact quiet_grows Grows.rfl'
  · exact quiet_grows (Grows.rfl'.new _)

def pntS : List UInt8 := padB 256 (numsB [11])
theorem pntS_length : pntS.length = 256 := by decide +kernel
def D22a : Dev := (List.replicate 16 (zeros 256)).set 0 (supB 16 8 0)
def D22 : Dev := D22a.set 10 pntS
theorem okD22a : okD D22a := (okD_zeros 16).set supB_length
theorem okD22 : okD D22 := okD22a.set pntS_length
theorem lenD22a : D22a.length = 16 := by unfold D22a; rw [List.length_set, List.length_replicate]
theorem lenD22 : D22.length = 16 := by unfold D22; rw [List.length_set, lenD22a]
theorem devL22 : devL D22 = true := by decide +kernel
theorem devN22 : devN D22 = 8 := by decide +kernel
theorem devM22 : devM D22 = 0 := by decide +kernel
def d22 : List Int := [9, 0, 0, 0, 0, 0, 10]
theorem blo22 : (eachF (atF D22 8 1 d22) 134 0).map (·.2) = [9, 11] := by decide +kernel
theorem own22 : ownsF D22 8 1 d22 = [9, 10, 11] := by decide +kernel
theorem bey22 : beyF (atF D22 8 1 d22) 256 = [6] := by decide +kernel

set_option maxHeartbeats 2000000 in
theorem works22_eq (h : Heap) : S_el22_works [] h = some (.c (.b true), h) := by
  have key : ∀ g, ∃ g', R_el22_works 0 [] g = some (.c (.b true), g') := by
    intro g
    have mk : amkn (.c (.i .i64 16)) (.c (.i .i64 16)) = some 16 := rfl
    have ef1 : afill [Cell.i .i64 0, .i .i64 0, .i .u64 0] [(0, 1, .c (.i .i64 16)), (1, 1, .c (.i .i64 8))] = some (layC 16 8 0) := rfl
    have hp := fun h => super_Put_eq (b := 16) (n := 8) (m := 0) (h := h) (by omega) (by omega)
    have hm : mayL 16 8 = true := by decide
    simp only [hm, cond_true] at hp
    have a0 : aiAddrL 256 (.c (.sl g.length 0 16 256)) (.c (.i .i64 0)) = some (.c (.p g.length 0)) := rfl
    have a10 : aiAddrL 256 (.c (.sl g.length 0 16 256)) (.c (.i .i64 10)) = some (.c (.p g.length 2560)) := rfl
    have s1 := stN_dev (D := List.replicate 16 (zeros 256)) (i := 0) (okD_zeros 16) (supB_length (b := 16) (n := 8) (m := 0)) (by simp)
    have e1 : (List.replicate 16 (zeros 256)).set 0 (supB 16 8 0) = D22a := rfl
    rw [e1, Nat.zero_mul] at s1
    have ef2 : afill [Cell.i .i64 0] [(0, 1, .c (.i .i64 11))] = some (encI [11]) := rfl
    have hM := points_Make_eq (h := g ++ [some (Row.mk (cellsD D22a) true), some (Row.mk (encI [11]) true)]) (v := .c (.sl (g.length + 1) 0 1 1)) (nv := 1) (l := [11]) (Has.tr (by simp) rfl rfl) (by omega)
    have hall : ([11] : List Int).all fineP = true := by decide
    rw [hall, cond_true, cond_true] at hM
    have eM : padB 256 (numsB [11]) = pntS := rfl
    rw [eM] at hM
    have s2 := stN_dev (D := D22a) (i := 10) okD22a pntS_length (by rw [lenD22a]; omega)
    have e2 : D22a.set 10 pntS = D22 := rfl
    rw [e2, show (10 * 256 : Nat) = 2560 from rfl] at s2
    have l16 := lenD22
    obtain ⟨f, t, hO, hv⟩ := view_Of_ok (v := .c (.sl g.length 0 16 256)) (h := g ++ [some (Row.mk (cellsD D22) true), some (Row.mk (encI [11]) true)]) (D := D22) (by rw [l16]; exact Has.tr (by simp) (by rw [cellsD_length okD22, l16]) (noX_cellsD _)) okD22 devL22 (by rw [l16]; omega)
    rw [devN22, devM22] at hO
    obtain ⟨H, hH⟩ : ∃ H, H = g ++ [some (Row.mk (cellsD D22) true), some (Row.mk (encI [11]) true)] ++ t := ⟨_, rfl⟩
    rw [← hH] at hO hv
    obtain ⟨V, hV⟩ : ∃ V, V = vwC D22.length 8 0 f := ⟨_, rfl⟩
    have hS4 : astoreN (H ++ [some (Row.mk [.i .i64 0, .i .i64 0, .i .u64 0, .nf] true)]) 4 (.c (.p H.length 0)) (.a V) = some (H ++ [some (Row.mk V true)]) := by rw [hV, astoreN_at0]; rfl
    have ef3 : afill [Cell.i .i64 0, .i .i64 0, .i .i64 0, .i .i64 0, .i .i64 0, .i .i64 0, .i .i64 0, .i .i64 0, .i .i64 0, .i .i64 0, .i .i64 0] [(0, 1, .c (.i .i64 1)), (1, 1, .c (.i .i64 1)), (10, 1, .c (.i .i64 10)), (2, 1, .c (.i .i64 256))] = some (inoC 1 1 256 0 [0, 0, 0, 0, 0, 0, 10]) := rfl
    have hz : [Cell.i .i64 0, .i .i64 0, .i .i64 0, .i .i64 0, .i .i64 0, .i .i64 0, .i .i64 0, .i .i64 0, .i .i64 0, .i .i64 0, .i .i64 0].length = 11 := rfl
    have hi0 : (inoC 1 1 256 0 [0, 0, 0, 0, 0, 0, 10]).length = 11 := rfl
    have hi1 : (inoC 1 1 256 0 d22).length = 11 := rfl
    have ad : ∀ q, aiAddrA 6 1 (.c (.p q 4)) (.c (.i .i64 0)) = some (.c (.p q 4)) := fun q => rfl
    have s3 : st1 (some (Row.mk (inoC 1 1 256 0 [0, 0, 0, 0, 0, 0, 10]) true)) 4 (.i .i64 9) = some ⟨inoC 1 1 256 0 d22, true⟩ := rfl
    obtain ⟨K, hK⟩ : ∃ K, K = H ++ [some (Row.mk V true), some (Row.mk (inoC 1 1 256 0 d22) true)] := ⟨_, rfl⟩
    have hvK : IsView K f D22 := by rw [hK]; exact hv.more _
    have x1 : ∀ t, aloadN (K ++ t) 4 (.c (.p H.length 0)) = some (.a V) := fun t => loadAll (cs := V) (by rw [hK]; exact rd_append (by simp)) (by rw [hV]; rfl)
    have x2 : ∀ t, aloadN (K ++ t) 11 (.c (.p (H.length + 1) 0)) = some (.a (inoC 1 1 256 0 d22)) := fun t => loadAll (cs := inoC 1 1 256 0 d22) (by rw [hK]; exact rd_append (by simp)) rfl
    have x10 := x1 []
    have x20 := x2 []
    rw [List.append_nil] at x10 x20
    have hB := fmap_Blocks_eq (n := 8) (m := 0) (k := 1) (l := 1) (s := 256) (p := 0) (d := d22) okD22 rfl hvK
    rw [blo22] at hB
    obtain ⟨v1, t1, b1, b2, _⟩ := hB
    have c1 := ref04_Ints_eq (h := K ++ t1 ++ [some (Row.mk (encI [9, 11]) true)]) (u := .c (.sl (K ++ t1).length 0 2 1)) (nu := 2) (r := [9, 11]) (b2.more _) (Has.tr rd_new rfl rfl) (by decide)
    rw [decide_eq_true rfl] at c1
    have hOw := fmap_Owns_eq (n := 8) (m := 0) (k := 1) (l := 1) (s := 256) (p := 0) (d := d22) (h := K ++ t1 ++ [some (Row.mk (encI [9, 11]) true)]) okD22 rfl ((hvK.more _).more _)
    rw [own22] at hOw
    obtain ⟨v2, t2, b3, b4, _⟩ := hOw
    obtain ⟨K2, hK2⟩ : ∃ K2, K2 = K ++ t1 ++ [some (Row.mk (encI [9, 11]) true)] ++ t2 := ⟨_, rfl⟩
    rw [← hK2] at b3 b4
    have hvK2 : IsView K2 f D22 := by rw [hK2]; exact ((hvK.more _).more _).more _
    have c2 := ref04_Ints_eq (h := K2 ++ [some (Row.mk (encI [9, 10, 11]) true)]) (u := .c (.sl K2.length 0 3 1)) (nu := 3) (r := [9, 10, 11]) (b4.more _) (Has.tr rd_new rfl rfl) (by decide)
    rw [decide_eq_true rfl] at c2
    have hBe := fmap_Beyond_eq (n := 8) (m := 0) (k := 1) (l := 1) (s := 256) (p := 0) (d := d22) (h := K2 ++ [some (Row.mk (encI [9, 10, 11]) true)]) okD22 rfl (hvK2.more _)
    rw [bey22] at hBe
    obtain ⟨v3, t3, b5, b6, _⟩ := hBe
    obtain ⟨K3, hK3⟩ : ∃ K3, K3 = K2 ++ [some (Row.mk (encI [9, 10, 11]) true)] ++ t3 := ⟨_, rfl⟩
    rw [← hK3] at b5 b6
    have c3 := ref04_Ints_eq (h := K3 ++ [some (Row.mk (encI [6]) true)]) (u := .c (.sl K3.length 0 1 1)) (nu := 1) (r := [6]) (b6.more _) (Has.tr rd_new rfl rfl) (by decide)
    rw [decide_eq_true rfl] at c3
    have y1 : aloadN (K ++ t1 ++ [some (Row.mk (encI [9, 11]) true)]) 4 (.c (.p H.length 0)) = some (.a V) := by rw [List.append_assoc]; exact x1 _
    have y2 : aloadN (K ++ t1 ++ [some (Row.mk (encI [9, 11]) true)]) 11 (.c (.p (H.length + 1) 0)) = some (.a (inoC 1 1 256 0 d22)) := by rw [List.append_assoc]; exact x2 _
    have y3 : aloadN (K2 ++ [some (Row.mk (encI [9, 10, 11]) true)]) 4 (.c (.p H.length 0)) = some (.a V) := by rw [hK2]; simp only [List.append_assoc]; exact x1 _
    have y4 : aloadN (K2 ++ [some (Row.mk (encI [9, 10, 11]) true)]) 11 (.c (.p (H.length + 1) 0)) = some (.a (inoC 1 1 256 0 d22)) := by rw [hK2]; simp only [List.append_assoc]; exact x2 _
    have ef4 : afill [Cell.i .i64 0, .i .i64 0] [(0, 1, .c (.i .i64 9)), (1, 1, .c (.i .i64 11))] = some (encI [9, 11]) := rfl
    have ef5 : afill [Cell.i .i64 0, .i .i64 0, .i .i64 0] [(0, 1, .c (.i .i64 9)), (1, 1, .c (.i .i64 10)), (2, 1, .c (.i .i64 11))] = some (encI [9, 10, 11]) := rfl
    have ef6 : afill [Cell.i .i64 0] [(0, 1, .c (.i .i64 6))] = some (encI [6]) := rfl
    have fa4 : ∀ q, afAddr (.c (.p q 0)) 4 = some (.c (.p q 4)) := fun q => by simp [afAddr]
    rw [← hV] at hO b1 b3 b5
    have r1 : astoreN (g ++ [some (Row.mk (cellsD (List.replicate 16 (zeros 256))) true)]) 256 (.c (.p g.length 0)) (.a (encB (supB 16 8 0))) = some (g ++ [some (Row.mk (cellsD D22a) true)]) := by rw [astoreN_at0]; simp only [List.getElem?_cons_zero, Option.join_some, s1, mp_some, List.set_cons_zero]
    have r2 : astoreN (g ++ [some (Row.mk (cellsD D22a) true), some (Row.mk (encI [11]) true)]) 256 (.c (.p g.length 2560)) (.a (encB pntS)) = some (g ++ [some (Row.mk (cellsD D22) true), some (Row.mk (encI [11]) true)]) := by rw [astoreN_at0]; simp only [List.getElem?_cons_zero, Option.join_some, s2, mp_some, List.set_cons_zero]
    have r3 : astoreN (H ++ [some (Row.mk V true), some (Row.mk [Cell.i .i64 0, .i .i64 0, .i .i64 0, .i .i64 0, .i .i64 0, .i .i64 0, .i .i64 0, .i .i64 0, .i .i64 0, .i .i64 0, .i .i64 0] true)]) 11 (.c (.p (H.length + 1) 0)) (.a (inoC 1 1 256 0 [0, 0, 0, 0, 0, 0, 10])) = some (H ++ [some (Row.mk V true), some (Row.mk (inoC 1 1 256 0 [0, 0, 0, 0, 0, 0, 10]) true)]) := by rw [astoreN_at]; rfl
    have r4 : astore1 (H ++ [some (Row.mk V true), some (Row.mk (inoC 1 1 256 0 [0, 0, 0, 0, 0, 0, 10]) true)]) (.c (.p (H.length + 1) 4)) (.c (.i .i64 9)) = some K := by rw [astore1_at, hK]; rfl
    rw [R_el22_works_eq]
    simp only [rows_dev]
    generalize cellsD D22a = q1 at *
    generalize cellsD D22 = q2 at *
    generalize encI [11] = q3 at *
    generalize encI [9, 11] = q4 at *
    generalize encI [9, 10, 11] = q5 at *
    generalize encI [6] = q6 at *
    generalize inoC 1 1 256 0 [0, 0, 0, 0, 0, 0, 10] = I0 at *
    generalize inoC 1 1 256 0 d22 = I1 at *
    refine ⟨K3 ++ [some (Row.mk q6 true)], ?_⟩
    simp only [bnd_some, aext_t, List.getElem?_cons_zero, List.getElem?_cons_succ, Option.map_some, ofPart_c, ofPart_a, mk, ef1, hp, a0, r1, ef2, List.append_assoc, List.cons_append, List.nil_append, List.length_append, List.length_cons, List.length_nil, Nat.zero_add, hM, a10, r2, hO, hS4, ef3, r3, fa4, ad, r4, x10, x20]
    simp only [bnd_some, b1, ef4, c1, gd_tt, y1, y2, b3, ef5, c2, apick_b, cond_true, y3, y4, b5, ef6, c3]
  obtain ⟨g', e⟩ := key (ro h)
  exact S_el22_works_flat e rfl

end Go.Proofs.Ytdgggnlbdoiloaa
end
noncomputable section
namespace Go.Proofs.Ytdgggnlbdoiloaa
open Go Go.Esc
set_option maxRecDepth 100000
def el21_To_o0 : List AOper := [aO 2 (.nilrow 256)]
def el21_To_c0 : ACode := .ops el21_To_o0
def el21_To_o1 : List AOper := [aO 3 (.nilrow 256)]
def el21_To_c1 : ACode := .ops el21_To_o1
def el21_To_o2 : List AOper := [aO 4 (.mv (.v (.c (.i .i64 0))))]
def el21_To_c2 : ACode := .ops el21_To_o2
def el21_To_o3 : List AOper := [aO 5 (.mv (.t 4)), aO 6 (.mv (.t 0)), aO 7 (.len (.t 6)), aO 8 (.bin .lss (.t 5) (.t 7))]
def el21_To_c3 : ACode := .ops el21_To_o3
def el21_To_c4 : ACode := .cond (.t 8) .skip (.exit 0)
def el21_To_c5 : ACode := .seq [0, 3, 4, 8] el21_To_c3 el21_To_c4
def el21_To_o4 : List AOper := [aO 11 (.mv (.t 3)), aO 12 (.mv (.t 0)), aO 13 (.mv (.t 4)), aO 14 (.iAddrL 256 (.t 12) (.t 13)), aO 15 (.loadN 256 (.t 14)), aO 16 (.buildSl 256 1 (List.replicate 256 (.i .u8 0)) [(0, 256, (.t 15))]), aO 17 (.app 256 (.t 11) (.t 16)), aO 3 (.mv (.t 17))]
def el21_To_c6 : ACode := .ops el21_To_o4
def el21_To_c7 : ACode := .block 1 el21_To_c6
def el21_To_o5 : List AOper := [aO 9 (.mv (.t 4)), aO 10 (.bin .add (.t 9) (.v (.c (.i .i64 1)))), aO 4 (.mv (.t 10))]
def el21_To_c8 : ACode := .ops el21_To_o5
def el21_To_c9 : ACode := .seq [0, 3, 4] el21_To_c7 el21_To_c8
def el21_To_c10 : ACode := .seq [0, 3, 4] el21_To_c5 el21_To_c9
def el21_To_c11 : ACode := .loop [0, 3, 4] el21_To_c10
def el21_To_c12 : ACode := .block 0 el21_To_c11
def el21_To_c13 : ACode := .seq [0, 3, 4] el21_To_c2 el21_To_c12
def el21_To_o6 : List AOper := [aO 18 (.mv (.t 3)), aO 2 (.mv (.t 18))]
def el21_To_c14 : ACode := .ops el21_To_o6
def el21_To_c15 : ACode := .seq [2] el21_To_c14 .ret
def el21_To_c16 : ACode := .seq [3] el21_To_c13 el21_To_c15
def el21_To_c17 : ACode := .seq [0, 3] el21_To_c1 el21_To_c16
def el21_To_c18 : ACode := .seq [0] el21_To_c0 el21_To_c17
def A_el21_To : AFn := ⟨el21_To_c18, [.tmp 2]⟩
def E_el21_To : Sums := disp0
def el21_To_c0_d (n : Nat) : SmV := smOps E_el21_To el21_To_o0
def el21_To_c1_d (n : Nat) : SmV := smOps E_el21_To el21_To_o1
def el21_To_c2_d (n : Nat) : SmV := smOps E_el21_To el21_To_o2
def el21_To_c3_d (n : Nat) : SmV := smOps E_el21_To el21_To_o3
def el21_To_c4_d (n : Nat) : SmV := smCond (.t 8) smSkip (smExit 0)
def el21_To_c5_d (n : Nat) : SmV := smSeq [0, 3, 4, 8] (el21_To_c3_d n) (el21_To_c4_d n)
def el21_To_c6_d (n : Nat) : SmV := smOps E_el21_To el21_To_o4
def el21_To_c7_d (n : Nat) : SmV := smBlock 1 (el21_To_c6_d n)
def el21_To_c8_d (n : Nat) : SmV := smOps E_el21_To el21_To_o5
def el21_To_c9_d (n : Nat) : SmV := smSeq [0, 3, 4] (el21_To_c7_d n) (el21_To_c8_d n)
def el21_To_c10_d (n : Nat) : SmV := smSeq [0, 3, 4] (el21_To_c5_d n) (el21_To_c9_d n)
def el21_To_c11_d (n : Nat) : SmV := smLoop n [0, 3, 4] (el21_To_c10_d n)
def el21_To_c12_d (n : Nat) : SmV := smBlock 0 (el21_To_c11_d n)
def el21_To_c13_d (n : Nat) : SmV := smSeq [0, 3, 4] (el21_To_c2_d n) (el21_To_c12_d n)
def el21_To_c14_d (n : Nat) : SmV := smOps E_el21_To el21_To_o6
def el21_To_c15_d (n : Nat) : SmV := smSeq [2] (el21_To_c14_d n) smRet
def el21_To_c16_d (n : Nat) : SmV := smSeq [3] (el21_To_c13_d n) (el21_To_c15_d n)
def el21_To_c17_d (n : Nat) : SmV := smSeq [0, 3] (el21_To_c1_d n) (el21_To_c16_d n)
def el21_To_c18_d (n : Nat) : SmV := smSeq [0] (el21_To_c0_d n) (el21_To_c17_d n)
def el21_To_k0 (n : Nat) : AExit → Env → Heap → OptV := fun x e h => match x with | .normal => hold ((el21_To_c15_d n) A_el21_To.fin (e.keep [3]) h) | .exit id => A_el21_To.fin (.exit id) e h | .ret => A_el21_To.fin .ret e h
def el21_To_k1 (n : Nat) : AExit → Env → Heap → OptV := fun x e h => match x with | .exit i => bif Nat.beq i 0 then (el21_To_k0 n) .normal e h else (el21_To_k0 n) (.exit i) e h | .normal => (el21_To_k0 n) .normal e h | .ret => (el21_To_k0 n) .ret e h
def el21_To_l0 (n m : Nat) (x0 x3 x4 : Val) (h : Heap) : OptV := around (el21_To_c10_d n) [0, 3, 4] (el21_To_k1 n) m [(0, x0), (3, x3), (4, x4)] h
def R_el21_To (n : Nat) (args : List Val) (h : Heap) : OptV := (el21_To_c18_d n) A_el21_To.fin (params 0 args) h
theorem R_el21_To_eq (n : Nat) (a0 : Val) (h : Heap) : R_el21_To n [a0] h = el21_To_l0 n n a0 ((.c (.sl ((h ++ [some (Row.mk ([]) true)])).length 0 0 256))) (.c (.i .i64 0)) (((h ++ [some (Row.mk ([]) true)]) ++ [some (Row.mk ([]) true)])) := by kernel_rfl
theorem el21_To_l0_eq (n m : Nat) (x0 x3 x4 : Val) (h : Heap) : el21_To_l0 n (m + 1) x0 x3 x4 h = bnd (alen x0) fun v1 => bnd (abin .lss x4 v1) fun v2 => cnd v2 (bnd (aiAddrL 256 x0 x4) fun v3 => bnd (aloadN h 256 v3) fun v4 => bnd (afill (List.replicate 256 (.i .u8 0)) [(0, 256, v4)]) fun c5 => bnd (aapp ((h ++ [some (Row.mk (c5) true)])) 256 x3 ((.c (.sl h.length 0 1 256)))) fun p6 => bnd (abin .add x4 (.c (.i .i64 1))) fun v7 => el21_To_l0 n m x0 p6.1 v7 p6.2) (some (x3, h)) := by kernel_rfl
theorem K_el21_To : FnK Try.prog 16 A_el21_To E_el21_To R_el21_To := .mk' (sound0) Try.func16 (by kernel_rfl) (by intro n args h; kernel_rfl)
def S_el21_To : Fun := tidy (Lim A_el21_To E_el21_To)
theorem S_el21_To_ok : SOk Try.prog 16 S_el21_To := K_el21_To.sok
theorem S_el21_To_out {n : Nat} {args : List Val} {h h2 : Heap} {v : Val} {sz k : Nat} {cs : List Cell} (he : R_el21_To n args (ro h) = some (v, h2)) (ho : Out h.length h2 v sz k cs) (hf : flats cs = true) : S_el21_To args h = some (.c (.sl h.length 0 k sz), h ++ [some ⟨cs, true⟩]) := K_el21_To.out he ho hf
end Go.Proofs.Ytdgggnlbdoiloaa
end
section
namespace Go.Proofs.Ytdgggnlbdoiloaa
open Go Go.Esc

theorem has_blk {h : Heap} {v : Val} {D : Dev} (hv : Has h v 256 D.length (cellsD D)) (hD : okD D) {i : Nat} (hi : i < D.length) :
    ∃ id off, v = .c (.sl id off D.length 256) ∧ id < h.length ∧ aiAddrL 256 v (.c (.i .i64 (i : Int))) = some (.c (.p id (off + i * 256))) ∧ aloadN h 256 (.c (.p id (off + i * 256))) = some (.a (encB D[i])) := by
  obtain ⟨id, off, rfl, hid, _, h2⟩ := hv.sl (by omega)
  refine ⟨id, off, rfl, hid, iAddrL_of hi, ?_⟩
  rw [h2 (i * 256) 256 (by rw [cellsD_length hD]; omega), cellsD_at hD hi]

theorem afill_blk {b : List UInt8} (hb : b.length = 256) : afill (List.replicate 256 (Cell.i .u8 0)) [(0, 256, .a (encB b))] = some (encB b) := by
  have hl : (encB b).length = 256 := by rw [encB_length, hb]
  have hz : (List.replicate 256 (Cell.i .u8 0)).length = 256 := List.length_replicate
  generalize List.replicate 256 (Cell.i .u8 0) = z at *
  generalize encB b = y at *
  simp only [afill, cells?_a, Option.bind_some]
  rw [if_pos ⟨hl, by omega⟩]
  simp only [lay_all (by omega : y.length = z.length)]

theorem to_loop {g : Heap} {D : Dev} {v : Val} {q : Nat} (hv : Has g v 256 D.length (cellsD D)) (hD : okD D) (h60 : D.length ≤ 1073741823) : ∀ (e i m id : Nat) (h : Heap), i + e = D.length → e < m → Low g.length g h → g.length ≤ id → rd h id = some ⟨cellsD (D.take i), true⟩ →
    ∃ v' h', el21_To_l0 q m v (.c (.sl id 0 i 256)) (.c (.i .i64 (i : Int))) h = some (v', h') ∧ Out g.length h' v' 256 D.length (cellsD D)
  | e, i, 0, id, h, _, hm, _, _, _ => by omega
  | 0, i, m + 1, id, h, hi, hm, hlow, hid, hr => by
    have e0 : i = D.length := by omega
    have c0 : ¬ (i : Int) < (D.length : Nat) := by omega
    have hl := (hv.since hlow).len
    rw [e0, List.take_length] at hr
    rw [el21_To_l0_eq]
    exact ⟨_, _, by simp only [esc, hl, c0] <;> rfl, cellsD_length hD, id, by rw [e0], hid, hr⟩
  | e + 1, i, m + 1, id, h, hi, hm, hlow, hid, hr => by
    have hil : i < D.length := by omega
    have c0 : (i : Int) < (D.length : Nat) := by omega
    have hvh := hv.since hlow
    have hl := hvh.len
    obtain ⟨jd, off, e1, hj, a1, l1⟩ := has_blk hvh hD hil
    have ef := afill_blk (hD.at hil)
    have htl : (D.take i).length = i := by rw [List.length_take]; omega
    obtain ⟨h', p1, p2, p3, p4, p5⟩ := push (ys := encB D[i]) hlow hr (by rw [cellsD_length (hD.take i), htl]) hid (by rw [encB_length, hD.at hil]) (by omega) (by omega)
    have et : cellsD (D.take i) ++ encB D[i] = cellsD (D.take (i + 1)) := by
      rw [List.take_succ_eq_append_getElem hil, cellsD_append, cellsD_one]
    rw [et] at p2
    obtain ⟨v', h'', f1, f2⟩ := to_loop (q := q) hv hD h60 e (i + 1) m (h.length + 1) h' (by omega) (by omega) p3 p4 p2
    refine ⟨v', h'', ?_, f2⟩
    rw [el21_To_l0_eq]
    generalize encB D[i] = y at *
    simp only [esc, hl, c0, a1, l1, ef, p1, wi_succ (show i + 1 < 9223372036854775808 by omega)]
    exact f1

theorem to_eq {v : Val} {D : Dev} {h : Heap} (hv : Has h v 256 D.length (cellsD D)) (hD : okD D) (h60 : D.length ≤ 1073741823) : S_el21_To [v] h = some (.c (.sl h.length 0 D.length 256), h ++ [some ⟨cellsD D, true⟩]) := by
  have key : ∀ g, Has g v 256 D.length (cellsD D) → ∃ v' g', R_el21_To (D.length + 1) [v] g = some (v', g') ∧ Out g.length g' v' 256 D.length (cellsD D) := by
    intro g hv
    obtain ⟨v', h', f1, f2⟩ := to_loop (q := D.length + 1) hv hD h60 D.length 0 (D.length + 1) (g.length + 1) (g ++ [some (Row.mk [] true), some (Row.mk [] true)]) (by omega) (by omega) ((Low.refl (Nat.le_refl _)).new _) (by omega) (by simp [cellsD])
    rw [R_el21_To_eq]
    exact ⟨v', h', by simp only [esc]; exact f1, f2⟩
  obtain ⟨v', g', e, ho⟩ := key (ro h) hv.ro
  exact S_el21_To_out e (by simpa [ro_length] using ho) flats_cellsD

end Go.Proofs.Ytdgggnlbdoiloaa
end
section
namespace Go.Proofs.Ytdgggnlbdoiloaa
open Go Go.Esc

def rawT (b : List UInt8) (j : Nat) : List UInt8 := (b.drop (32 * j)).take 32
theorem rawT_length {b : List UInt8} {j : Nat} (hb : b.length = 256) (hj : j < 8) : (rawT b j).length = 32 := by unfold rawT; simp; omega

theorem raw_loop {g : Heap} {b : List UInt8} {z : List Cell} {j q : Nat} (hb : b.length = 256) (hz : z.length = 32) (hj : j < 8) : ∀ e i m : Nat, i + e = 32 → e < m →
    table_Raw_l0 q m (.c (.i .i64 j)) (.c (.p g.length 0)) (.c (.p (g.length + 1) 0)) (.c (.p (g.length + 2) 0)) (.c (.i .i64 i)) (g ++ [some ⟨encB b, true⟩, some ⟨z, true⟩, some ⟨encB ((rawT b j).take i ++ zeros (32 - i)), true⟩]) =
      some (.a (encB (rawT b j)), g ++ [some ⟨encB b, true⟩, some ⟨encB (rawT b j), true⟩, some ⟨encB (rawT b j), true⟩])
  | e, i, 0, _, hm => by omega
  | 0, i, m + 1, hi, hm => by
    have e0 : i = 32 := by omega
    subst e0
    have h1' : ¬ ((32 : Nat) : Int) < 32 := by omega
    have hR := rawT_length hb hj
    have hl : (encB (rawT b j)).length = 32 := by rw [encB_length, hR]
    have e1 : encB ((rawT b j).take 32 ++ zeros (32 - 32)) = encB (rawT b j) := by rw [List.take_of_length_le (by omega)]; simp [zeros]
    rw [table_Raw_l0_eq, e1]
    simp only [esc, esh, Nat.reduceAdd, Nat.reduceMul, Nat.reduceLT, h1', hl, hz]
  | e + 1, i, m + 1, hi, hm => by
    have ih := raw_loop (g := g) (q := q) hb hz hj e (i + 1) m (by omega) (by omega)
    have hR := rawT_length hb hj
    have h1' : (i : Int) < 32 := by omega
    have w1 : IntKind.wrap .i64 ((j : Int) * 32) = ((32 * j : Nat) : Int) := by rw [wrap_i64 (by omega) (by omega)]; omega
    have a1 : aiAddrA 256 1 (.c (.p g.length 0)) (.c (.i .i64 ((32 * j + i : Nat) : Int))) = some (.c (.p g.length (32 * j + i))) := by rw [iAddrA_of (by omega)]; simp
    have a2 : aiAddrA 32 1 (.c (.p (g.length + 2) 0)) (.c (.i .i64 (i : Int))) = some (.c (.p (g.length + 2) i)) := by rw [iAddrA_of (by omega)]; simp
    have l1 : (encB b)[32 * j + i]? = some (.i .u8 (rawT b j)[i].toNat) := by
      rw [encB_get, List.getElem?_eq_getElem (by omega)]
      have : (rawT b j)[i] = b[32 * j + i]'(by omega) := by simp [rawT]
      rw [this]; rfl
    have ho : i < (encB ((rawT b j).take i ++ zeros (32 - i))).length := by rw [encB_length, List.length_append, zeros_length, List.length_take]; omega
    have es : (encB ((rawT b j).take i ++ zeros (32 - i))).set i (.i .u8 (rawT b j)[i].toNat) = encB ((rawT b j).take (i + 1) ++ zeros (32 - (i + 1))) := by
      rw [encB_set]
      refine congrArg encB ?_
      have h6 : ((rawT b j).take i).length = i := by simp; omega
      rw [List.set_append_right _ _ (by omega), h6, Nat.sub_self, List.take_succ_eq_append_getElem (by omega), List.append_assoc]
      refine congrArg ((rawT b j).take i ++ ·) ?_
      rw [show 32 - i = 32 - (i + 1) + 1 by omega]
      unfold zeros
      rw [List.replicate_succ, List.set_cons_zero]; rfl
    rw [table_Raw_l0_eq]
    simp only [esc, esh, Nat.reduceAdd, Nat.reduceMul, Nat.reduceLT, h1', w1, wi_add (show 32 * j + i < 9223372036854775808 by omega), a1, a2, l1, ho, es, wi_succ (show i + 1 < 9223372036854775808 by omega)]
    exact ih

theorem table_Raw_eq {b : List UInt8} {j : Nat} {h : Heap} (hb : b.length = 256) (hj : j < 8) : S_table_Raw [.a (encB b), .c (.i .i64 j)] h = some (.a (encB (rawT b j)), h) := by
  have key : ∀ N, 32 < N → ∀ g, ∃ g', R_table_Raw N [.a (encB b), .c (.i .i64 j)] g = some (.a (encB (rawT b j)), g') := by
    intro N hN g
    have c1 : ¬ (j : Int) < 0 := by omega
    have c2 : ¬ (8 : Int) ≤ j := by omega
    have hz : (encB (zeros 32)).length = 32 := by rw [encB_length]; exact zeros_length
    have e := raw_loop (g := g) (z := encB (zeros 32)) (q := N) hb hz hj 32 0 N (by omega) (by omega)
    simp only [List.take_zero, List.nil_append, Nat.sub_zero] at e
    rw [R_table_Raw_eq, zeros_enc]
    generalize zeros 32 = zz at *
    exact ⟨_, by simp only [esc, esh, Nat.reduceAdd, Nat.reduceMul, Nat.reduceLT, c1, c2]; exact e⟩
  obtain ⟨g', e⟩ := key (h.length + 33) (by omega) (ro h)
  exact S_table_Raw_flat e (by simp)

end Go.Proofs.Ytdgggnlbdoiloaa
end
section
namespace Go.Proofs.Ytdgggnlbdoiloaa
open Go Go.Esc

theorem ino0_length : (inoC 0 0 0 0 (zI 7)).length = 11 := rfl
theorem ino0_eq : [Cell.i .i64 0, .i .i64 0, .i .i64 0, .i .i64 0, .i .i64 0, .i .i64 0, .i .i64 0, .i .i64 0, .i .i64 0, .i .i64 0, .i .i64 0] = inoC 0 0 0 0 (zI 7) := rfl
theorem afill_ino0 : afill (inoC 0 0 0 0 (zI 7)) [] = some (inoC 0 0 0 0 (zI 7)) := rfl

theorem table_Get_at {b : List UInt8} {j : Nat} {h : Heap} (hb : b.length = 256) (hj : j < 8) : S_table_Get [.a (encB b), .c (.i .i64 j)] h = some (.t [.a (cleanC (rawT b j)), .c (.b (cleanI (rawT b j)))], h) := by
  have key : ∀ g, ∃ g', R_table_Get 0 [.a (encB b), .c (.i .i64 j)] g = some (.t [.a (cleanC (rawT b j)), .c (.b (cleanI (rawT b j)))], g') := by
    intro g
    have c1 : ¬ (j : Int) < 0 := by omega
    have c2 : ¬ (8 : Int) ≤ j := by omega
    have hB : (encB b).length = 256 := by rw [encB_length, hb]
    have hR := fun h => table_Raw_eq (h := h) hb hj
    have hC := fun h => inode_Clean_eq (b := rawT b j) (h := h) (rawT_length hb hj)
    have hl := ino0_length
    have hcl := cleanC_length (b := rawT b j)
    rw [R_table_Get_eq, ino0_eq]
    generalize inoC 0 0 0 0 (zI 7) = z at *
    exact ⟨_, by simp only [esc, esh, Nat.reduceAdd, Nat.reduceMul, Nat.reduceLT, c1, c2, hB, hR, hC, hl, hcl] <;> rfl⟩
  obtain ⟨g', e⟩ := key (ro h)
  exact S_table_Get_flat e (by simp [flats_cleanC])

end Go.Proofs.Ytdgggnlbdoiloaa
end
section
namespace Go.Proofs.Ytdgggnlbdoiloaa
open Go Go.Esc

def rawV (D : Dev) (n i : Int) : List UInt8 := rawT (blk D (whereB D.length n i)) (whereK D.length n i).toNat
def inoV (D : Dev) (n i : Int) : List Cell := bif isInoL D.length n i then cleanC (rawV D n i) else inoC 0 0 0 0 (zI 7)
def kdV (D : Dev) (n i : Int) : Int := bif isInoL D.length n i then (bif cleanI (rawV D n i) then getK (rawV D n i) else 0) else 0
theorem inoV_form (D : Dev) (n i : Int) : ∃ l s p d, inoV D n i = inoC (kdV D n i) l s p d ∧ d.length = 7 := by
  unfold inoV kdV
  cases isInoL D.length n i with
  | false => exact ⟨0, 0, 0, zI 7, rfl, zI_length⟩
  | true =>
    unfold cleanC
    cases cleanI (rawV D n i) with
    | false => exact ⟨0, 0, 0, zI 7, rfl, zI_length⟩
    | true => exact ⟨_, _, _, _, rfl, getD7_length⟩
theorem flats_inoV (D : Dev) (n i : Int) : flats (inoV D n i) = true := by
  obtain ⟨l, s, p, d, e, hd⟩ := inoV_form D n i
  rw [e]
  exact flats_encI (l := _ :: _ :: _ :: _ :: d)

theorem view_Inode_no {b n m i : Int} {f : Cell} {h : Heap} (hi : isInoL b n i = false) : S_view_View_Inode [.a (vwC b n m f), .c (.i .i64 i)] h = some (.a (inoC 0 0 0 0 (zI 7)), h) := by
  have key : ∀ g, ∃ g', R_view_View_Inode 0 [.a (vwC b n m f), .c (.i .i64 i)] g = some (.a (inoC 0 0 0 0 (zI 7)), g') := by
    intro g
    have l3 := vw_l3 (b := b) (n := n) (m := m) (f := f)
    have hW := fun h => geom_Where_eq (b := b) (n := n) (m := m) (i := i) (h := h)
    simp only [hi] at hW
    have hf := afill_ino0
    have hl := ino0_length
    rw [R_view_View_Inode_eq, ino0_eq]
    generalize vwC b n m f = V at *
    generalize inoC 0 0 0 0 (zI 7) = z at *
    exact ⟨_, by simp only [esc, esh, Nat.reduceAdd, Nat.reduceMul, Nat.reduceLT, l3, hW, hf, hl] <;> rfl⟩
  obtain ⟨g', e⟩ := key (ro h)
  exact S_view_View_Inode_flat e rfl

theorem view_Inode_eq {n m i : Int} {f : Cell} {D : Dev} {h : Heap} (hD : okD D) (hv : IsView h f D) : S_view_View_Inode [.a (vwC D.length n m f), .c (.i .i64 i)] h = some (.a (inoV D n i), h) := by
  cases hi : isInoL D.length n i with
  | false =>
    rw [view_Inode_no hi]
    unfold inoV
    rw [hi]; rfl
  | true =>
    have key : ∀ g, IsView g f D → ∃ g', R_view_View_Inode 0 [.a (vwC D.length n m f), .c (.i .i64 i)] g = some (.a (inoV D n i), g') := by
      intro g hv
      have l3 := vw_l3 (b := D.length) (n := n) (m := m) (f := f)
      have l4 := vw_l4 (b := D.length) (n := n) (m := m) (f := f)
      have hW := fun h => geom_Where_eq (b := D.length) (n := n) (m := m) (i := i) (h := h)
      simp only [hi] at hW
      have hf := afill_ino0
      have hl := ino0_length
      have hK : ∃ j : Nat, whereK D.length n i = j ∧ j < 8 := by
        refine ⟨(whereK D.length n i).toNat, ?_, ?_⟩ <;> unfold whereK <;> rw [hi, cond_true] <;> omega
      obtain ⟨j, hj, hj8⟩ := hK
      have hB := view_Block_eq (n := n) (m := m) (no := whereB D.length n i) (h := g ++ [some (Row.mk (vwC D.length n m f) true), some (Row.mk (inoC 0 0 0 0 (zI 7)) true)]) hD (hv.more _)
      have hG := fun h => table_Get_at (b := blk D (whereB D.length n i)) (j := j) (h := h) (blk_length hD) hj8
      have er : rawT (blk D (whereB D.length n i)) j = rawV D n i := by unfold rawV; rw [hj, Int.toNat_natCast]
      simp only [er] at hG
      simp only [hj] at hW
      have hcl := cleanC_length (b := rawV D n i)
      have ei : inoV D n i = cleanC (rawV D n i) := by unfold inoV; rw [hi]; rfl
      rw [R_view_View_Inode_eq, ino0_eq, ei]
      generalize vwC D.length n m f = V at *
      generalize inoC 0 0 0 0 (zI 7) = z at *
      generalize cleanC (rawV D n i) = y at *
      exact ⟨_, by simp only [esc, esh, Nat.reduceAdd, Nat.reduceMul, Nat.reduceLT, l3, l4, hW, hB, hG, hf, hl, hcl] <;> rfl⟩
    obtain ⟨g', e⟩ := key (ro h) hv.ro
    exact S_view_View_Inode_flat e (flats_inoV D n i)

end Go.Proofs.Ytdgggnlbdoiloaa
end
section
namespace Go.Proofs.Ytdgggnlbdoiloaa
open Go Go.Esc

theorem ref14_Put_eq {b n m : Int} {h : Heap} (hm0 : 0 ≤ m) (hm1 : m < 18446744073709551616) : S_er14_Put [.a (layC b n m)] h = some (.c (.sl h.length 0 256 1), h ++ [some ⟨encB (supB b n m), true⟩]) := by
  have key : ∀ g, ∃ v g', R_er14_Put 0 [.a (layC b n m)] g = some (v, g') ∧ Out g.length g' v 1 256 (encB (supB b n m)) := by
    intro g
    have e7 : afill [Cell.i .u8 0, .i .u8 0, .i .u8 0, .i .u8 0, .i .u8 0, .i .u8 0, .i .u8 0, .i .u8 0] [(0, 1, .c (.i .u8 101)), (1, 1, .c (.i .u8 115)), (2, 1, .c (.i .u8 99)), (3, 1, .c (.i .u8 104)), (4, 1, .c (.i .u8 101)), (5, 1, .c (.i .u8 97)), (6, 1, .c (.i .u8 116)), (7, 1, .c (.i .u8 49))] = some (encB magicB) := rfl
    have lm : magicB.length = 8 := rfl
    obtain ⟨c0, hc0⟩ : ∃ c0 : Option Row, c0 = some ⟨layC b n m, true⟩ := ⟨_, rfl⟩
    have hmk := amark_of (h := g ++ [some ⟨layC b n m, true⟩, some ⟨[], true⟩, some ⟨encB magicB, true⟩]) (id := g.length + 2) (off := 0) (len := 8) (sz := 1) (cs := encB magicB) (by simp) (by omega)
    have b1 := fun h => bytes_conv (w := 2) (v := b) (h := h) (by omega)
    have b2 := fun h => bytes_conv (w := 2) (v := n) (h := h) (by omega)
    have b3 := fun h => ref01_Bytes_eq (w := 8) (v := m) (h := h) (by omega) hm0 hm1
    have hmlt := mixH_lt (s := supH b n m)
    have b4 := fun h => ref01_Bytes_eq (w := 4) (v := (mixH (supH b n m) : Nat)) (h := h) (by omega) (by omega) (by omega)
    have p1 := app_of (h := g ++ [some ⟨layC b n m, true⟩, some ⟨[], true⟩, some ⟨encB magicB, true⟩, some ⟨encB (bytesI 2 b), true⟩]) (id := g.length + 2) (jd := g.length + 3) (n := 8) (m := 2) (sz := 1) (cs := encB magicB) (ys := encB (bytesI 2 b)) (rw := true) (by simp) (by simp [encB_length, lm]) (by simp) (by simp [encB_length]) rfl (by omega) (by omega)
    have p2 := app_of (h := g ++ [some ⟨layC b n m, true⟩, some ⟨[], true⟩, none, some ⟨encB (bytesI 2 b), true⟩, some ⟨encB magicB ++ encB (bytesI 2 b), true⟩, some ⟨encB (bytesI 2 n), true⟩]) (id := g.length + 4) (jd := g.length + 5) (n := 10) (m := 2) (sz := 1) (cs := encB magicB ++ encB (bytesI 2 b)) (ys := encB (bytesI 2 n)) (rw := true) (by simp) (by simp [encB_length, lm]) (by simp) (by simp [encB_length]) rfl (by omega) (by omega)
    have p3 := app_of (h := g ++ [some ⟨layC b n m, true⟩, some ⟨[], true⟩, none, some ⟨encB (bytesI 2 b), true⟩, none, some ⟨encB (bytesI 2 n), true⟩, some ⟨encB magicB ++ encB (bytesI 2 b) ++ encB (bytesI 2 n), true⟩, some ⟨encB (bytesI 8 m), true⟩]) (id := g.length + 6) (jd := g.length + 7) (n := 12) (m := 8) (sz := 1) (cs := encB magicB ++ encB (bytesI 2 b) ++ encB (bytesI 2 n)) (ys := encB (bytesI 8 m)) (rw := true) (by simp) (by simp [encB_length, lm]) (by simp) (by simp [encB_length]) rfl (by omega) (by omega)
    have eS : encB magicB ++ encB (bytesI 2 b) ++ encB (bytesI 2 n) ++ encB (bytesI 8 m) = encB (supH b n m) := by unfold supH; simp only [encB_append]
    rw [eS] at p3
    have hstr := (Has.tr (h := g ++ [some ⟨layC b n m, true⟩, some ⟨[], true⟩, none, some ⟨encB (bytesI 2 b), true⟩, none, some ⟨encB (bytesI 2 n), true⟩, none, some ⟨encB (bytesI 8 m), true⟩, some ⟨encB (supH b n m), true⟩]) (id := g.length + 8) (sz := 1) (n := 20) (cs := encB (supH b n m)) (by simp) (by rw [encB_length, supH_length]) (noX_encB _)).str
    have hmx := fun h => ref02_Of_eq (s := supH b n m) (h := h) (by rw [supH_length]; omega)
    have p4 := app_of (h := g ++ [some ⟨layC b n m, true⟩, some ⟨[], true⟩, none, some ⟨encB (bytesI 2 b), true⟩, none, some ⟨encB (bytesI 2 n), true⟩, none, some ⟨encB (bytesI 8 m), true⟩, some ⟨encB (supH b n m), true⟩, some ⟨encB (bytesI 4 (mixH (supH b n m) : Nat)), true⟩]) (id := g.length + 8) (jd := g.length + 9) (n := 20) (m := 4) (sz := 1) (cs := encB (supH b n m)) (ys := encB (bytesI 4 (mixH (supH b n m) : Nat))) (rw := true) (by simp) (by rw [encB_length, supH_length]) (by simp) (by simp [encB_length]) rfl (by omega) (by omega)
    rw [← encB_append] at p4
    have mk : amkn (.c (.i .i64 256)) (.c (.i .i64 256)) = some 256 := rfl
    have rz := rows_zero 256
    have l24 : (supH b n m ++ bytesI 4 (mixH (supH b n m) : Nat)).length = 24 := by rw [List.length_append, supH_length, bytesI_length]
    have hL := ref01_Lay_eq (h := g ++ [some ⟨layC b n m, true⟩, some ⟨[], true⟩, none, some ⟨encB (bytesI 2 b), true⟩, none, some ⟨encB (bytesI 2 n), true⟩, none, some ⟨encB (bytesI 8 m), true⟩, none, some ⟨encB (bytesI 4 (mixH (supH b n m) : Nat)), true⟩, some ⟨encB (supH b n m ++ bytesI 4 (mixH (supH b n m) : Nat)), true⟩, some ⟨encB (zeros 256), true⟩]) (v := .c (.sl (g.length + 11) 0 256 1)) (nv := 256) (l := zeros 256) (u := .c (.sl (g.length + 10) 0 24 1)) (nu := 24) (data := supH b n m ++ bytesI 4 (mixH (supH b n m) : Nat)) (Has.tr (by simp) (by rw [encB_length]; exact zeros_length) (noX_encB _)) (Has.tr (by simp) (by rw [encB_length, l24]) (noX_encB _)) (a := 0) (by omega) (by rw [zeros_length]; omega)
    have eL : layR (zeros 256) 0 (supH b n m ++ bytesI 4 (mixH (supH b n m) : Nat)) = supB b n m := by
      have h1 := layR_layB (l := zeros 256) (xs := supH b n m ++ bytesI 4 (mixH (supH b n m) : Nat)) (a := 0) (by rw [l24, zeros_length]; omega)
      have h2 := padB_lay (l := []) (xs := supH b n m ++ bytesI 4 (mixH (supH b n m) : Nat)) (a := 0) (by simp) (by rw [l24]; omega)
      rw [show ((0 : Nat) : Int) = 0 from rfl] at h1
      rw [h1, ← padB_nil, h2, List.length_nil, Nat.sub_self, show zeros 0 = [] from rfl, List.append_nil, List.nil_append, supB]
    have zl : (zeros 256).length = 256 := zeros_length
    rw [eL, zl] at hL
    simp only [esc, Int.cast_ofNat_Int] at p1 p2 p3 p4 hL b1 b2 b3 b4
    rw [R_er14_Put_eq]
    generalize zeros 256 = z at *
    exact ⟨_, _, by simp only [esc, esh, Nat.reduceAdd, Nat.reduceMul, Nat.reduceLT, e7, hmk, b1, p1, b2, p2, b3, p3, hstr, hmx, b4, p4, mk, rz, hL] <;> rfl, by rw [encB_length, supB_length], _, rfl, by omega, by simp⟩
  obtain ⟨v, g', e, ho⟩ := key (ro h)
  exact S_er14_Put_out e (by simpa [ro_length] using ho) (by simp)


end Go.Proofs.Ytdgggnlbdoiloaa
end
section
namespace Go.Proofs.Ytdgggnlbdoiloaa
open Go Go.Esc

theorem ref14_Get_eq {v : Val} {nv : Nat} {b : List UInt8} {h : Heap} (hv : Has h v 1 nv (encB b)) (hb : b.length = 256) : S_er14_Get [v] h = some (.t [.a (layS b), .c (.b (okS b))], h) := by
  have key : ∀ g, Has g v 1 nv (encB b) → ∃ g', R_er14_Get 0 [v] g = some (.t [.a (layS b), .c (.b (okS b))], g') := by
    intro g hv
    have hv1 := hv.more [some ⟨layC 0 0 0, true⟩]
    have hg := ref01_Get_eq hv1 (a := 12) (w := 8) (by omega)
    have gN : getN b 12 8 = some (le ((b.drop 12).take 8)) := by
      unfold getN
      rw [hb, if_pos ⟨by omega, by decide⟩]; rfl
    rw [gN] at hg
    simp only [Option.getD_some, Option.isSome_some] at hg
    have e12 : ((le ((b.drop 12).take 8) : Nat) : Int) = fieldN b 12 8 := rfl
    rw [e12] at hg
    have a1 := ref01_At_eq hv1 (a := 8) (w := 2) hb
    have a2 := ref01_At_eq hv1 (a := 10) (w := 2) hb
    have f1 := at_field (a := 8) (w := 2) hb (by omega) (by omega) (by omega)
    have f2 := at_field (a := 10) (w := 2) hb (by omega) (by omega) (by omega)
    simp only [Int.cast_ofNat_Int] at f1 f2
    rw [f1] at a1
    rw [f2] at a2
    have ef : ∀ x y z : Int, afill (layC 0 0 0) [(0, 1, .c (.i .i64 x)), (1, 1, .c (.i .i64 y)), (2, 1, .c (.i .u64 z))] = some (layC x y z) := fun _ _ _ => rfl
    have ef0 : afill (layC 0 0 0) [] = some (layC 0 0 0) := rfl
    have hm := fun h => ref14_May_eq (b := fieldN b 8 2) (n := fieldN b 10 2) (m := fieldN b 12 8) (h := h)
    have hp := fun h => ref14_Put_eq (b := fieldN b 8 2) (n := fieldN b 10 2) (m := fieldN b 12 8) (h := h) (field8_range b).1 (field8_range b).2
    have hS := ref01_Same_eq (h := g ++ [some ⟨layC 0 0 0, true⟩, some ⟨layC (fieldN b 8 2) (fieldN b 10 2) (fieldN b 12 8), true⟩, some ⟨encB (supB (fieldN b 8 2) (fieldN b 10 2) (fieldN b 12 8)), true⟩]) (v := .c (.sl (g.length + 2) 0 256 1)) (nv := 256) (u := v) (nu := nv) (l := supB (fieldN b 8 2) (fieldN b 10 2) (fieldN b 12 8)) (r := b)
      (Has.tr (by simp) (by rw [encB_length, supB_length]) (noX_encB _)) (hv.more _) (by rw [supB_length]; omega)
    rw [R_er14_Get_eq]
    unfold layS okS
    cases c : mayL (fieldN b 8 2) (fieldN b 10 2) with
    | false =>
      simp only [c] at hm
      exact ⟨_, by simp only [esc, esh, Nat.reduceAdd, Nat.reduceMul, Nat.reduceLT, hg, a1, a2, ef, ef0, hm, Bool.false_and] <;> rfl⟩
    | true =>
      simp only [c] at hm
      cases c2 : decide (supB (fieldN b 8 2) (fieldN b 10 2) (fieldN b 12 8) = b) with
      | false =>
        rw [c2] at hS
        exact ⟨_, by simp only [esc, esh, Nat.reduceAdd, Nat.reduceMul, Nat.reduceLT, hg, a1, a2, ef, ef0, hm, hp, hS, Bool.and_false] <;> rfl⟩
      | true =>
        rw [c2] at hS
        exact ⟨_, by simp only [esc, esh, Nat.reduceAdd, Nat.reduceMul, Nat.reduceLT, hg, a1, a2, ef, ef0, hm, hp, hS, Bool.and_true] <;> rfl⟩
  obtain ⟨g', e⟩ := key (ro h) hv.ro
  refine S_er14_Get_flat e ?_
  unfold layS
  cases okS b <;> simp

end Go.Proofs.Ytdgggnlbdoiloaa
end
noncomputable section
namespace Go.Proofs.Ytdgggnlbdoiloaa
open Go Go.Esc
set_option maxRecDepth 100000
def er21_Layout_o0 : List AOper := [aO 2 (.alloc ([.i .i64 0, .i .i64 0, .i .u64 0])), aO 3 (.mv (.v (.c (.b false))))]
def er21_Layout_c0 : ACode := .ops er21_Layout_o0
def er21_Layout_o1 : List AOper := [aO 6 (.mv (.t 0)), aO 7 (.len (.t 6)), aO 8 (.bin .eql (.t 7) (.v (.c (.i .i64 0))))]
def er21_Layout_c1 : ACode := .ops er21_Layout_o1
def er21_Layout_o2 : List AOper := [aO 9 (.build ([.i .i64 0, .i .i64 0, .i .u64 0]) []), { dst := none, op := .storeN 3 (.t 2) (.t 9) }, aO 3 (.mv (.v (.c (.b false))))]
def er21_Layout_c2 : ACode := .ops er21_Layout_o2
def er21_Layout_c3 : ACode := .seq [2, 3] er21_Layout_c2 .ret
def er21_Layout_c4 : ACode := .cond (.t 8) er21_Layout_c3 .skip
def er21_Layout_c5 : ACode := .seq [0, 2, 8] er21_Layout_c1 er21_Layout_c4
def er21_Layout_o3 : List AOper := [aO 11 (.mv (.t 0)), aO 12 (.iAddrL 256 (.t 11) (.v (.c (.i .i64 0)))), aO 13 (.slA 256 1 (.t 12) none none), aO 14 (.call 69 [(.t 13)]), aO 10 (.mv (.t 14)), aO 15 (.ext (.t 10) 0), aO 16 (.ext (.t 10) 1), aO 4 (.alloc ([.i .i64 0, .i .i64 0, .i .u64 0])), { dst := none, op := .storeN 3 (.t 4) (.t 15) }, aO 5 (.mv (.t 16))]
def er21_Layout_c6 : ACode := .ops er21_Layout_o3
def er21_Layout_o4 : List AOper := [aO 17 (.mv (.t 5)), aO 18 (.un .not (.t 17)), aO 19 (.mv (.t 18)), { dst := some 20, op := .fAddr (.t 4) 0, guard := some (19, false) }, { dst := some 21, op := .load1 (.t 20), guard := some (19, false) }, { dst := some 22, op := .mv (.t 0), guard := some (19, false) }, { dst := some 23, op := .len (.t 22), guard := some (19, false) }, { dst := some 24, op := .bin .neq (.t 21) (.t 23), guard := some (19, false) }, aO 25 (.pick (.t 19) (.v (.c (.b true))) (.t 24))]
def er21_Layout_c7 : ACode := .ops er21_Layout_o4
def er21_Layout_o5 : List AOper := [aO 26 (.build ([.i .i64 0, .i .i64 0, .i .u64 0]) []), { dst := none, op := .storeN 3 (.t 2) (.t 26) }, aO 3 (.mv (.v (.c (.b false))))]
def er21_Layout_c8 : ACode := .ops er21_Layout_o5
def er21_Layout_c9 : ACode := .seq [2, 3] er21_Layout_c8 .ret
def er21_Layout_c10 : ACode := .cond (.t 25) er21_Layout_c9 .skip
def er21_Layout_c11 : ACode := .seq [2, 4, 25] er21_Layout_c7 er21_Layout_c10
def er21_Layout_o6 : List AOper := [aO 27 (.loadN 3 (.t 4)), { dst := none, op := .storeN 3 (.t 2) (.t 27) }, aO 3 (.mv (.v (.c (.b true))))]
def er21_Layout_c12 : ACode := .ops er21_Layout_o6
def er21_Layout_c13 : ACode := .seq [2, 3] er21_Layout_c12 .ret
def er21_Layout_c14 : ACode := .seq [2, 4] er21_Layout_c11 er21_Layout_c13
def er21_Layout_c15 : ACode := .seq [0, 2, 4, 5] er21_Layout_c6 er21_Layout_c14
def er21_Layout_c16 : ACode := .seq [0, 2] er21_Layout_c5 er21_Layout_c15
def er21_Layout_c17 : ACode := .seq [0, 2] er21_Layout_c0 er21_Layout_c16
def A_er21_Layout : AFn := ⟨er21_Layout_c17, [.cellN 2 3, .tmp 3]⟩
def E_er21_Layout : Sums := disp 69 S_er14_Get disp0
def er21_Layout_c0_d (n : Nat) : SmV := smOps E_er21_Layout er21_Layout_o0
def er21_Layout_c1_d (n : Nat) : SmV := smOps E_er21_Layout er21_Layout_o1
def er21_Layout_c2_d (n : Nat) : SmV := smOps E_er21_Layout er21_Layout_o2
def er21_Layout_c3_d (n : Nat) : SmV := smSeq [2, 3] (er21_Layout_c2_d n) smRet
def er21_Layout_c4_d (n : Nat) : SmV := smCond (.t 8) (er21_Layout_c3_d n) smSkip
def er21_Layout_c5_d (n : Nat) : SmV := smSeq [0, 2, 8] (er21_Layout_c1_d n) (er21_Layout_c4_d n)
def er21_Layout_c6_d (n : Nat) : SmV := smOps E_er21_Layout er21_Layout_o3
def er21_Layout_c7_d (n : Nat) : SmV := smOps E_er21_Layout er21_Layout_o4
def er21_Layout_c8_d (n : Nat) : SmV := smOps E_er21_Layout er21_Layout_o5
def er21_Layout_c9_d (n : Nat) : SmV := smSeq [2, 3] (er21_Layout_c8_d n) smRet
def er21_Layout_c10_d (n : Nat) : SmV := smCond (.t 25) (er21_Layout_c9_d n) smSkip
def er21_Layout_c11_d (n : Nat) : SmV := smSeq [2, 4, 25] (er21_Layout_c7_d n) (er21_Layout_c10_d n)
def er21_Layout_c12_d (n : Nat) : SmV := smOps E_er21_Layout er21_Layout_o6
def er21_Layout_c13_d (n : Nat) : SmV := smSeq [2, 3] (er21_Layout_c12_d n) smRet
def er21_Layout_c14_d (n : Nat) : SmV := smSeq [2, 4] (er21_Layout_c11_d n) (er21_Layout_c13_d n)
def er21_Layout_c15_d (n : Nat) : SmV := smSeq [0, 2, 4, 5] (er21_Layout_c6_d n) (er21_Layout_c14_d n)
def er21_Layout_c16_d (n : Nat) : SmV := smSeq [0, 2] (er21_Layout_c5_d n) (er21_Layout_c15_d n)
def er21_Layout_c17_d (n : Nat) : SmV := smSeq [0, 2] (er21_Layout_c0_d n) (er21_Layout_c16_d n)
def R_er21_Layout (n : Nat) (args : List Val) (h : Heap) : OptV := (er21_Layout_c17_d n) A_er21_Layout.fin (params 0 args) h
theorem R_er21_Layout_eq (n : Nat) (a0 : Val) (h : Heap) : R_er21_Layout n [a0] h = bnd (alen a0) fun v1 => bnd (abin .eql v1 (.c (.i .i64 0))) fun v2 => cnd v2 (bnd (afill ([.i .i64 0, .i .i64 0, .i .u64 0]) []) fun c3 => bnd (astoreN ((h ++ [some (Row.mk ([.i .i64 0, .i .i64 0, .i .u64 0]) true)])) 3 ((.c (.p h.length 0))) ((.a c3))) fun h4 => tupN [aloadN h4 3 ((.c (.p h.length 0))), some (.c (.b false))] h4) (bnd (aiAddrL 256 a0 (.c (.i .i64 0))) fun v5 => bnd (aslA ((h ++ [some (Row.mk ([.i .i64 0, .i .i64 0, .i .u64 0]) true)])) 256 1 v5 none none) fun v6 => bnd (S_er14_Get [v6] ((h ++ [some (Row.mk ([.i .i64 0, .i .i64 0, .i .u64 0]) true)]))) fun p7 => bnd (aext p7.1 0) fun v8 => bnd (aext p7.1 1) fun v9 => bnd (astoreN ((p7.2 ++ [some (Row.mk ([.i .i64 0, .i .i64 0, .i .u64 0]) true)])) 3 ((.c (.p p7.2.length 0))) v8) fun h10 => bnd (aun .not v9) fun v11 => bnd (gd v11 false (bnd (afAddr ((.c (.p p7.2.length 0))) 0) fun v12 => some (v12, h10)) (some (.no, h10))) fun p13 => bnd (gd v11 false (bnd (aload1 p13.2 p13.1) fun v14 => some (v14, p13.2)) (some (.no, p13.2))) fun p15 => bnd (gd v11 false (some (a0, p15.2)) (some (.no, p15.2))) fun p16 => bnd (gd v11 false (bnd (alen p16.1) fun v17 => some (v17, p16.2)) (some (.no, p16.2))) fun p18 => bnd (gd v11 false (bnd (abin .neq p15.1 p18.1) fun v19 => some (v19, p18.2)) (some (.no, p18.2))) fun p20 => bnd (apick v11 (.c (.b true)) p20.1) fun v21 => cnd v21 (bnd (afill ([.i .i64 0, .i .i64 0, .i .u64 0]) []) fun c22 => bnd (astoreN p20.2 3 ((.c (.p h.length 0))) ((.a c22))) fun h23 => tupN [aloadN h23 3 ((.c (.p h.length 0))), some (.c (.b false))] h23) (bnd (aloadN p20.2 3 ((.c (.p p7.2.length 0)))) fun v24 => bnd (astoreN p20.2 3 ((.c (.p h.length 0))) v24) fun h25 => tupN [aloadN h25 3 ((.c (.p h.length 0))), some (.c (.b true))] h25)) := by kernel_rfl
theorem K_er21_Layout : FnK Try.prog 30 A_er21_Layout E_er21_Layout R_er21_Layout := .mk' (sound1 S_er14_Get_ok sound0) Try.func30 (by kernel_rfl) (by intro n args h; kernel_rfl)
def S_er21_Layout : Fun := tidy (Lim A_er21_Layout E_er21_Layout)
theorem S_er21_Layout_ok : SOk Try.prog 30 S_er21_Layout := K_er21_Layout.sok
theorem S_er21_Layout_flat {n : Nat} {args : List Val} {h h2 : Heap} {v : Val} (he : R_er21_Layout n args (ro h) = some (v, h2)) (hf : v.flat = true) : S_er21_Layout args h = some (v, h) := K_er21_Layout.flat he hf
def er21_Data_o0 : List AOper := [aO 2 (.box (.t 0)), aO 4 (.mv (.v (.c (.b false))))]
def er21_Data_c0 : ACode := .ops er21_Data_o0
def er21_Data_o1 : List AOper := [aO 5 (.loadN 3 (.t 2)), aO 6 (.mv (.t 1)), aO 7 (.call 119 [(.t 5), (.t 6)]), aO 8 (.bin .eql (.t 7) (.v (.c (.i .i64 4)))), aO 4 (.mv (.t 8))]
def er21_Data_c1 : ACode := .ops er21_Data_o1
def er21_Data_c2 : ACode := .seq [4] er21_Data_c1 .ret
def er21_Data_c3 : ACode := .seq [1, 2] er21_Data_c0 er21_Data_c2
def A_er21_Data : AFn := ⟨er21_Data_c3, [.tmp 4]⟩
def E_er21_Data : Sums := disp 119 S_er15_Area disp0
def er21_Data_c0_d (n : Nat) : SmV := smOps E_er21_Data er21_Data_o0
def er21_Data_c1_d (n : Nat) : SmV := smOps E_er21_Data er21_Data_o1
def er21_Data_c2_d (n : Nat) : SmV := smSeq [4] (er21_Data_c1_d n) smRet
def er21_Data_c3_d (n : Nat) : SmV := smSeq [1, 2] (er21_Data_c0_d n) (er21_Data_c2_d n)
def R_er21_Data (n : Nat) (args : List Val) (h : Heap) : OptV := (er21_Data_c3_d n) A_er21_Data.fin (params 0 args) h
theorem R_er21_Data_eq (n : Nat) (a0 a1 : Val) (h : Heap) : R_er21_Data n [a0, a1] h = bnd (cells? a0) fun c1 => bnd (aloadN ((h ++ [some (Row.mk (c1) true)])) 3 ((.c (.p h.length 0)))) fun v2 => bnd (S_er15_Area [v2, a1] ((h ++ [some (Row.mk (c1) true)]))) fun p3 => bnd (abin .eql p3.1 (.c (.i .i64 4))) fun v4 => some (v4, p3.2) := by kernel_rfl
theorem K_er21_Data : FnK Try.prog 79 A_er21_Data E_er21_Data R_er21_Data := .mk' (sound1 S_er15_Area_ok sound0) Try.func79 (by kernel_rfl) (by intro n args h; kernel_rfl)
def S_er21_Data : Fun := tidy (Lim A_er21_Data E_er21_Data)
theorem S_er21_Data_ok : SOk Try.prog 79 S_er21_Data := K_er21_Data.sok
theorem S_er21_Data_flat {n : Nat} {args : List Val} {h h2 : Heap} {v : Val} (he : R_er21_Data n args (ro h) = some (v, h2)) (hf : v.flat = true) : S_er21_Data args h = some (v, h) := K_er21_Data.flat he hf
end Go.Proofs.Ytdgggnlbdoiloaa
end
section
namespace Go.Proofs.Ytdgggnlbdoiloaa
open Go Go.Esc

theorem has_row {h : Heap} {v : Val} {D : Dev} (hv : Has h v 256 D.length (cellsD D)) (hD : okD D) {i : Nat} (hi : i < D.length) :
    ∃ a u, aiAddrL 256 v (.c (.i .i64 (i : Int))) = some a ∧ aslA h 256 1 a none none = some u ∧ Has h u 1 256 (encB D[i]) := by
  rcases hv with ⟨_, h0, _⟩ | ⟨id, off, r, rfl, hr, h1, h2, h3, h4⟩
  · omega
  · have hle : off + i * 256 + 256 * 1 ≤ r.cells.length := by omega
    refine ⟨.c (.p id (off + i * 256)), .c (.sl id (off + i * 256) 256 1), iAddrL_of hi, ?_, ?_⟩
    · simp only [aslA, hr, Option.bind_some, bound]
      rw [if_pos ⟨by omega, by omega, hle⟩]; simp
    · refine Has.part (cs := r.cells) (rw := r.rw) hr hle ?_ (noX_encB _)
      rw [← cellsD_at hD hi, ← h3, List.drop_take, List.take_take, List.drop_drop]
      congr 1
      omega

theorem devL_nil : devL [] = false := by decide +kernel

theorem ref21_Layout_eq {v : Val} {D : Dev} {h : Heap} (hv : Has h v 256 D.length (cellsD D)) (hD : okD D) :
    S_er21_Layout [v] h = some (.t [.a (bif devL D then layC D.length (devN D) (devM D) else layC 0 0 0), .c (.b (devL D))], h) := by
  have key : ∀ g, Has g v 256 D.length (cellsD D) → ∃ g', R_er21_Layout 0 [v] g = some (.t [.a (bif devL D then layC D.length (devN D) (devM D) else layC 0 0 0), .c (.b (devL D))], g') := by
    intro g hv
    have hl := hv.len
    have ef : afill [Cell.i .i64 0, .i .i64 0, .i .u64 0] [] = some [Cell.i .i64 0, .i .i64 0, .i .u64 0] := rfl
    rw [R_er21_Layout_eq]
    cases D with
    | nil =>
      rw [devL_nil]
      have z0 : ((([] : Dev).length : Nat) : Int) = 0 := rfl
      exact ⟨_, by simp only [esc, esh, Nat.reduceAdd, Nat.reduceMul, Nat.reduceLT, hl, z0, eq_self, ef, layC] <;> rfl⟩
    | cons b E =>
      have h0 : 0 < (b :: E).length := by simp
      have c0 : ¬ (((b :: E).length : Nat) : Int) = 0 := by omega
      have hv2 := hv.more [some (Row.mk [.i .i64 0, .i .i64 0, .i .u64 0] true)]
      obtain ⟨a, u, a1, s1, hu⟩ := has_row hv2 hD h0
      have z0 : ((0 : Nat) : Int) = 0 := rfl
      rw [z0] at a1
      have hG := ref14_Get_eq (h := g ++ [some (Row.mk [.i .i64 0, .i .i64 0, .i .u64 0] true)]) hu (hD.at h0)
      rw [List.getElem_cons_zero] at hG
      clear hu
      have ed : devL (b :: E) = (okS b && decide (fieldN b 8 2 = (((b :: E).length : Nat) : Int))) := rfl
      have en : devN (b :: E) = fieldN b 10 2 := rfl
      have em : devM (b :: E) = fieldN b 12 8 := rfl
      rw [ed, en, em]
      generalize hN : (b :: E).length = N at *
      cases ho : okS b with
      | false =>
        rw [ho, layS_no ho] at hG
        unfold layC at *
        exact ⟨_, by simp only [esc, esh, Nat.reduceAdd, Nat.reduceMul, Nat.reduceLT, hl, c0, a1, s1, hG, ef, Bool.false_and] <;> rfl⟩
      | true =>
        rw [ho, layS_ok ho] at hG
        by_cases c1 : fieldN b 8 2 = (N : Int)
        · unfold layC at *
          rw [c1] at hG ⊢
          exact ⟨_, by simp only [esc, esh, Nat.reduceAdd, Nat.reduceMul, Nat.reduceLT, hl, c0, a1, s1, hG, ef, eq_self] <;> rfl⟩
        · unfold layC at *
          exact ⟨_, by simp only [esc, esh, Nat.reduceAdd, Nat.reduceMul, Nat.reduceLT, hl, c0, a1, s1, hG, ef, c1, Bool.true_and] <;> rfl⟩
  obtain ⟨g', e⟩ := key (ro h) hv.ro
  refine S_er21_Layout_flat e ?_
  cases devL D <;> rfl

end Go.Proofs.Ytdgggnlbdoiloaa
end
section
namespace Go.Proofs.Ytdgggnlbdoiloaa
open Go Go.Esc

theorem firstX_iff {t : List Int} {i : Nat} : firstX t i = true ↔ ∀ k, k < i → toX t k ≠ toX t i := by
  unfold firstX
  simp only [List.all_eq_true, List.mem_range, Bool.not_eq_true', decide_eq_false_iff_not]

end Go.Proofs.Ytdgggnlbdoiloaa
end
noncomputable section
namespace Go.Proofs.Ytdgggnlbdoiloaa
open Go Go.Esc
set_option maxRecDepth 100000
def er09_In_o0 : List AOper := [aO 4 (.mv (.v (.c (.b false))))]
def er09_In_c0 : ACode := .ops er09_In_o0
def er09_In_o1 : List AOper := [aO 5 (.mv (.v (.c (.i .i64 0))))]
def er09_In_c1 : ACode := .ops er09_In_o1
def er09_In_o2 : List AOper := [aO 6 (.mv (.t 5)), aO 7 (.mv (.t 0)), aO 8 (.len (.t 7)), aO 9 (.bin .lss (.t 6) (.t 8))]
def er09_In_c2 : ACode := .ops er09_In_o2
def er09_In_c3 : ACode := .cond (.t 9) .skip (.exit 0)
def er09_In_c4 : ACode := .seq [0, 1, 5, 9] er09_In_c2 er09_In_c3
def er09_In_o3 : List AOper := [aO 12 (.mv (.t 0)), aO 13 (.mv (.t 5)), aO 14 (.iAddrL 1 (.t 12) (.t 13)), aO 15 (.load1 (.t 14)), aO 16 (.mv (.t 1)), aO 17 (.bin .eql (.t 15) (.t 16))]
def er09_In_c5 : ACode := .ops er09_In_o3
def er09_In_o4 : List AOper := [aO 4 (.mv (.v (.c (.b true))))]
def er09_In_c6 : ACode := .ops er09_In_o4
def er09_In_c7 : ACode := .seq [4] er09_In_c6 .ret
def er09_In_c8 : ACode := .cond (.t 17) er09_In_c7 .skip
def er09_In_c9 : ACode := .seq [0, 1, 5, 17] er09_In_c5 er09_In_c8
def er09_In_c10 : ACode := .block 1 er09_In_c9
def er09_In_o5 : List AOper := [aO 10 (.mv (.t 5)), aO 11 (.bin .add (.t 10) (.v (.c (.i .i64 1)))), aO 5 (.mv (.t 11))]
def er09_In_c11 : ACode := .ops er09_In_o5
def er09_In_c12 : ACode := .seq [0, 1, 5] er09_In_c10 er09_In_c11
def er09_In_c13 : ACode := .seq [0, 1, 5] er09_In_c4 er09_In_c12
def er09_In_c14 : ACode := .loop [0, 1, 5] er09_In_c13
def er09_In_c15 : ACode := .block 0 er09_In_c14
def er09_In_c16 : ACode := .seq [0, 1, 5] er09_In_c1 er09_In_c15
def er09_In_o6 : List AOper := [aO 4 (.mv (.v (.c (.b false))))]
def er09_In_c17 : ACode := .ops er09_In_o6
def er09_In_c18 : ACode := .seq [4] er09_In_c17 .ret
def er09_In_c19 : ACode := .seq [] er09_In_c16 er09_In_c18
def er09_In_c20 : ACode := .seq [0, 1] er09_In_c0 er09_In_c19
def A_er09_In : AFn := ⟨er09_In_c20, [.tmp 4]⟩
def E_er09_In : Sums := disp0
def er09_In_c0_d (n : Nat) : SmV := smOps E_er09_In er09_In_o0
def er09_In_c1_d (n : Nat) : SmV := smOps E_er09_In er09_In_o1
def er09_In_c2_d (n : Nat) : SmV := smOps E_er09_In er09_In_o2
def er09_In_c3_d (n : Nat) : SmV := smCond (.t 9) smSkip (smExit 0)
def er09_In_c4_d (n : Nat) : SmV := smSeq [0, 1, 5, 9] (er09_In_c2_d n) (er09_In_c3_d n)
def er09_In_c5_d (n : Nat) : SmV := smOps E_er09_In er09_In_o3
def er09_In_c6_d (n : Nat) : SmV := smOps E_er09_In er09_In_o4
def er09_In_c7_d (n : Nat) : SmV := smSeq [4] (er09_In_c6_d n) smRet
def er09_In_c8_d (n : Nat) : SmV := smCond (.t 17) (er09_In_c7_d n) smSkip
def er09_In_c9_d (n : Nat) : SmV := smSeq [0, 1, 5, 17] (er09_In_c5_d n) (er09_In_c8_d n)
def er09_In_c10_d (n : Nat) : SmV := smBlock 1 (er09_In_c9_d n)
def er09_In_c11_d (n : Nat) : SmV := smOps E_er09_In er09_In_o5
def er09_In_c12_d (n : Nat) : SmV := smSeq [0, 1, 5] (er09_In_c10_d n) (er09_In_c11_d n)
def er09_In_c13_d (n : Nat) : SmV := smSeq [0, 1, 5] (er09_In_c4_d n) (er09_In_c12_d n)
def er09_In_c14_d (n : Nat) : SmV := smLoop n [0, 1, 5] (er09_In_c13_d n)
def er09_In_c15_d (n : Nat) : SmV := smBlock 0 (er09_In_c14_d n)
def er09_In_c16_d (n : Nat) : SmV := smSeq [0, 1, 5] (er09_In_c1_d n) (er09_In_c15_d n)
def er09_In_c17_d (n : Nat) : SmV := smOps E_er09_In er09_In_o6
def er09_In_c18_d (n : Nat) : SmV := smSeq [4] (er09_In_c17_d n) smRet
def er09_In_c19_d (n : Nat) : SmV := smSeq [] (er09_In_c16_d n) (er09_In_c18_d n)
def er09_In_c20_d (n : Nat) : SmV := smSeq [0, 1] (er09_In_c0_d n) (er09_In_c19_d n)
def er09_In_k0 (n : Nat) : AExit → Env → Heap → OptV := fun x e h => match x with | .normal => hold ((er09_In_c18_d n) A_er09_In.fin (e.keep []) h) | .exit id => A_er09_In.fin (.exit id) e h | .ret => A_er09_In.fin .ret e h
def er09_In_k1 (n : Nat) : AExit → Env → Heap → OptV := fun x e h => match x with | .exit i => bif Nat.beq i 0 then (er09_In_k0 n) .normal e h else (er09_In_k0 n) (.exit i) e h | .normal => (er09_In_k0 n) .normal e h | .ret => (er09_In_k0 n) .ret e h
def er09_In_l0 (n m : Nat) (x0 x1 x5 : Val) (h : Heap) : OptV := around (er09_In_c13_d n) [0, 1, 5] (er09_In_k1 n) m [(0, x0), (1, x1), (5, x5)] h
def R_er09_In (n : Nat) (args : List Val) (h : Heap) : OptV := (er09_In_c20_d n) A_er09_In.fin (params 0 args) h
theorem R_er09_In_eq (n : Nat) (a0 a1 : Val) (h : Heap) : R_er09_In n [a0, a1] h = er09_In_l0 n n a0 a1 (.c (.i .i64 0)) h := by kernel_rfl
theorem er09_In_l0_eq (n m : Nat) (x0 x1 x5 : Val) (h : Heap) : er09_In_l0 n (m + 1) x0 x1 x5 h = bnd (alen x0) fun v1 => bnd (abin .lss x5 v1) fun v2 => cnd v2 (bnd (aiAddrL 1 x0 x5) fun v3 => bnd (aload1 h v3) fun v4 => bnd (abin .eql v4 x1) fun v5 => cnd v5 (some ((.c (.b true)), h)) (bnd (abin .add x5 (.c (.i .i64 1))) fun v6 => er09_In_l0 n m x0 x1 v6 h)) (some ((.c (.b false)), h)) := by kernel_rfl
theorem K_er09_In : FnK Try.prog 26 A_er09_In E_er09_In R_er09_In := .mk' (sound0) Try.func26 (by kernel_rfl) (by intro n args h; kernel_rfl)
def S_er09_In : Fun := tidy (Lim A_er09_In E_er09_In)
theorem S_er09_In_ok : SOk Try.prog 26 S_er09_In := K_er09_In.sok
theorem S_er09_In_flat {n : Nat} {args : List Val} {h h2 : Heap} {v : Val} (he : R_er09_In n args (ro h) = some (v, h2)) (hf : v.flat = true) : S_er09_In args h = some (v, h) := K_er09_In.flat he hf
end Go.Proofs.Ytdgggnlbdoiloaa
end
