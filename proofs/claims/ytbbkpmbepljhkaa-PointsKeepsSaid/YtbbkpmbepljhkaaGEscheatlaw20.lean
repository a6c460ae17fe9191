/- Escheatlaw20: the Go functions of this package as the abstract evaluator computes them: printed by a program, checked by Lean. -/
import Derived.Test.YtbbkpmbepljhkaaEscS
import Derived.Test.YtbbkpmbepljhkaaChecked
import Derived.KernelRfl
import Derived.Test.YtbbkpmbepljhkaaGEscheatref04
import Derived.Test.YtbbkpmbepljhkaaGNum
import Derived.Test.YtbbkpmbepljhkaaGPoints
namespace Go.Proofs.Ytbbkpmbepljhkaa
open Go Go.Esc
set_option maxRecDepth 100000
set_option linter.all false
def escheatlaw20_works_o0 : List AOper := [{ dst := some 0, op := .mv (.v (.c (.b false))) }]
def escheatlaw20_works_c0 : ACode := .ops escheatlaw20_works_o0
def escheatlaw20_works_o1 : List AOper := [{ dst := some 4, op := .buildSl 1 3 ([.i .i64 0, .i .i64 0, .i .i64 0]) [(0, 1, (.v (.c (.i .i64 7)))), (1, 1, (.v (.c (.i .i64 0)))), (2, 1, (.v (.c (.i .i64 9))))] }, { dst := some 5, op := .call 88 [(.t 4)] }, { dst := some 3, op := .mv (.t 5) }, { dst := some 6, op := .ext (.t 3) 0 }, { dst := some 7, op := .ext (.t 3) 1 }, { dst := some 1, op := .alloc (List.replicate 256 (.i .u8 0)) }, { dst := none, op := .storeN 256 (.t 1) (.t 6) }, { dst := some 2, op := .mv (.t 7) }]
def escheatlaw20_works_c1 : ACode := .ops escheatlaw20_works_o1
def escheatlaw20_works_o2 : List AOper := [{ dst := some 8, op := .mv (.t 2) }, { dst := some 9, op := .bin .eql (.t 8) (.v (.c (.i .i64 0))) }, { dst := some 10, op := .mv (.t 9) }, { dst := some 11, op := .loadN 256 (.t 1), guard := some (10, true) }, { dst := some 12, op := .call 89 [(.t 11)], guard := some (10, true) }, { dst := some 13, op := .buildSl 1 2 ([.i .i64 0, .i .i64 0]) [(0, 1, (.v (.c (.i .i64 7)))), (1, 1, (.v (.c (.i .i64 9))))], guard := some (10, true) }, { dst := some 14, op := .call 102 [(.t 12), (.t 13)], guard := some (10, true) }, { dst := some 15, op := .pick (.t 10) (.t 14) (.v (.c (.b false))) }, { dst := some 16, op := .mv (.t 15) }, { dst := some 17, op := .loadN 256 (.t 1), guard := some (16, true) }, { dst := some 18, op := .call 90 [(.t 17)], guard := some (16, true) }, { dst := some 19, op := .bin .eql (.t 18) (.v (.c (.i .i64 3))), guard := some (16, true) }, { dst := some 20, op := .pick (.t 16) (.t 19) (.v (.c (.b false))) }, { dst := some 21, op := .mv (.t 20) }, { dst := some 22, op := .loadN 256 (.t 1), guard := some (21, true) }, { dst := some 23, op := .call 87 [(.t 22), (.v (.c (.i .i64 2)))], guard := some (21, true) }, { dst := some 24, op := .bin .eql (.t 23) (.v (.c (.i .i64 9))), guard := some (21, true) }, { dst := some 25, op := .pick (.t 21) (.t 24) (.v (.c (.b false))) }, { dst := some 0, op := .mv (.t 25) }]
def escheatlaw20_works_c2 : ACode := .ops escheatlaw20_works_o2
def escheatlaw20_works_c3 : ACode := .seq [0] escheatlaw20_works_c2 .ret
def escheatlaw20_works_c4 : ACode := .seq [1, 2] escheatlaw20_works_c1 escheatlaw20_works_c3
def escheatlaw20_works_c5 : ACode := .seq [] escheatlaw20_works_c0 escheatlaw20_works_c4
def A_escheatlaw20_works : AFn := ⟨escheatlaw20_works_c5, [.tmp 0]⟩
noncomputable def E_escheatlaw20_works : Sums := disp 88 S_points_Make (disp 89 S_points_List (disp 102 S_escheatref04_Ints (disp 90 S_points_Last (disp 87 S_points_Get disp0))))
noncomputable def escheatlaw20_works_c0_d (n : Nat) : SmV := smOps E_escheatlaw20_works escheatlaw20_works_o0
noncomputable def escheatlaw20_works_c1_d (n : Nat) : SmV := smOps E_escheatlaw20_works escheatlaw20_works_o1
noncomputable def escheatlaw20_works_c2_d (n : Nat) : SmV := smOps E_escheatlaw20_works escheatlaw20_works_o2
noncomputable def escheatlaw20_works_c3_d (n : Nat) : SmV := smSeq [0] (escheatlaw20_works_c2_d n) smRet
noncomputable def escheatlaw20_works_c4_d (n : Nat) : SmV := smSeq [1, 2] (escheatlaw20_works_c1_d n) (escheatlaw20_works_c3_d n)
noncomputable def escheatlaw20_works_c5_d (n : Nat) : SmV := smSeq [] (escheatlaw20_works_c0_d n) (escheatlaw20_works_c4_d n)
noncomputable def R_escheatlaw20_works (n : Nat) (args : List Val) (h : Heap) : OptV := (escheatlaw20_works_c5_d n) A_escheatlaw20_works.fin (params 0 args) h
theorem R_escheatlaw20_works_eq (n : Nat) (h : Heap) : R_escheatlaw20_works n [] h = bnd (afill ([.i .i64 0, .i .i64 0, .i .i64 0]) [(0, 1, .c (.i .i64 7)), (1, 1, .c (.i .i64 0)), (2, 1, .c (.i .i64 9))]) fun c1 => bnd (S_points_Make [(.c (.sl h.length 0 3 1))] ((h ++ [some (Row.mk (c1) true)]))) fun p2 => bnd (aext p2.1 0) fun v3 => bnd (aext p2.1 1) fun v4 => bnd (astoreN ((p2.2 ++ [some (Row.mk (List.replicate 256 (.i .u8 0)) true)])) 256 ((.c (.p p2.2.length 0))) v3) fun h5 => bnd (abin .eql v4 (.c (.i .i64 0))) fun v6 => bnd (gd v6 true (bnd (aloadN h5 256 ((.c (.p p2.2.length 0)))) fun v7 => some (v7, h5)) (some (.no, h5))) fun p8 => bnd (gd v6 true (bnd (S_points_List [p8.1] p8.2) fun p9 => some (p9.1, p9.2)) (some (.no, p8.2))) fun p10 => bnd (gd v6 true (bnd (afill ([.i .i64 0, .i .i64 0]) [(0, 1, .c (.i .i64 7)), (1, 1, .c (.i .i64 9))]) fun c11 => some ((.c (.sl p10.2.length 0 2 1)), (p10.2 ++ [some (Row.mk (c11) true)]))) (some (.no, p10.2))) fun p12 => bnd (gd v6 true (bnd (S_escheatref04_Ints [p10.1, p12.1] p12.2) fun p13 => some (p13.1, p13.2)) (some (.no, p12.2))) fun p14 => bnd (apick v6 p14.1 (.c (.b false))) fun v15 => bnd (gd v15 true (bnd (aloadN p14.2 256 ((.c (.p p2.2.length 0)))) fun v16 => some (v16, p14.2)) (some (.no, p14.2))) fun p17 => bnd (gd v15 true (bnd (S_points_Last [p17.1] p17.2) fun p18 => some (p18.1, p18.2)) (some (.no, p17.2))) fun p19 => bnd (gd v15 true (bnd (abin .eql p19.1 (.c (.i .i64 3))) fun v20 => some (v20, p19.2)) (some (.no, p19.2))) fun p21 => bnd (apick v15 p21.1 (.c (.b false))) fun v22 => bnd (gd v22 true (bnd (aloadN p21.2 256 ((.c (.p p2.2.length 0)))) fun v23 => some (v23, p21.2)) (some (.no, p21.2))) fun p24 => bnd (gd v22 true (bnd (S_points_Get [p24.1, .c (.i .i64 2)] p24.2) fun p25 => some (p25.1, p25.2)) (some (.no, p24.2))) fun p26 => bnd (gd v22 true (bnd (abin .eql p26.1 (.c (.i .i64 9))) fun v27 => some (v27, p26.2)) (some (.no, p26.2))) fun p28 => bnd (apick v22 p28.1 (.c (.b false))) fun v29 => some (v29, p28.2) := by kernel_rfl
theorem K_escheatlaw20_works : FnK Try.prog 91 A_escheatlaw20_works E_escheatlaw20_works R_escheatlaw20_works := .mk' (sound1 S_points_Make_ok (sound1 S_points_List_ok (sound1 S_escheatref04_Ints_ok (sound1 S_points_Last_ok (sound1 S_points_Get_ok sound0))))) Try.func91 (by kernel_rfl) (by intro n args h; kernel_rfl)
noncomputable def S_escheatlaw20_works : Fun := tidy (Lim A_escheatlaw20_works E_escheatlaw20_works)
theorem S_escheatlaw20_works_ok : SOk Try.prog 91 S_escheatlaw20_works := K_escheatlaw20_works.sok
theorem S_escheatlaw20_works_flat {n : Nat} {args : List Val} {h h2 : Heap} {v : Val} (he : R_escheatlaw20_works n args (ro h) = some (v, h2)) (hf : v.flat = true) : S_escheatlaw20_works args h = some (v, h) := K_escheatlaw20_works.flat he hf
def escheatlaw20_below_o0 : List AOper := [{ dst := some 1, op := .box (.t 0) }, { dst := some 2, op := .mv (.v (.c .nf)) }]
def escheatlaw20_below_c0 : ACode := .ops escheatlaw20_below_o0
def escheatlaw20_below_o1 : List AOper := [{ dst := some 3, op := .mkf 179 [(.t 1)] }, { dst := some 2, op := .mv (.t 3) }]
def escheatlaw20_below_c1 : ACode := .ops escheatlaw20_below_o1
def escheatlaw20_below_c2 : ACode := .seq [2] escheatlaw20_below_c1 .ret
def escheatlaw20_below_c3 : ACode := .seq [1] escheatlaw20_below_c0 escheatlaw20_below_c2
def A_escheatlaw20_below : AFn := ⟨escheatlaw20_below_c3, [.tmp 2]⟩
noncomputable def E_escheatlaw20_below : Sums := disp0
noncomputable def escheatlaw20_below_c0_d (n : Nat) : SmV := smOps E_escheatlaw20_below escheatlaw20_below_o0
noncomputable def escheatlaw20_below_c1_d (n : Nat) : SmV := smOps E_escheatlaw20_below escheatlaw20_below_o1
noncomputable def escheatlaw20_below_c2_d (n : Nat) : SmV := smSeq [2] (escheatlaw20_below_c1_d n) smRet
noncomputable def escheatlaw20_below_c3_d (n : Nat) : SmV := smSeq [1] (escheatlaw20_below_c0_d n) (escheatlaw20_below_c2_d n)
noncomputable def R_escheatlaw20_below (n : Nat) (args : List Val) (h : Heap) : OptV := (escheatlaw20_below_c3_d n) A_escheatlaw20_below.fin (params 0 args) h
theorem R_escheatlaw20_below_eq (n : Nat) (a0 : Val) (h : Heap) : R_escheatlaw20_below n [a0] h = bnd (cells? a0) fun c1 => bnd (amkf 179 [(.c (.p h.length 0))]) fun v2 => some (v2, (h ++ [some (Row.mk (c1) true)])) := by kernel_rfl
theorem K_escheatlaw20_below : FnK Try.prog 101 A_escheatlaw20_below E_escheatlaw20_below R_escheatlaw20_below := .mk' (sound0) Try.func101 (by kernel_rfl) (by intro n args h; kernel_rfl)
noncomputable def S_escheatlaw20_below : Fun := Lim A_escheatlaw20_below E_escheatlaw20_below
theorem S_escheatlaw20_below_ok : SOk Try.prog 101 S_escheatlaw20_below := K_escheatlaw20_below.ok
theorem S_escheatlaw20_below_of {n : Nat} {args : List Val} {h : Heap} {p : Val × Heap} (he : R_escheatlaw20_below n args h = some p) : S_escheatlaw20_below args h = some p := K_escheatlaw20_below.of he
def escheatlaw20_below_1_o0 : List AOper := [{ dst := some 5, op := .mv (.v (.c (.b false))) }]
def escheatlaw20_below_1_c0 : ACode := .ops escheatlaw20_below_1_o0
def escheatlaw20_below_1_o1 : List AOper := [{ dst := some 6, op := .mv (.t 1) }, { dst := some 7, op := .load1 (.t 2) }, { dst := some 8, op := .bin .lss (.t 6) (.t 7) }, { dst := some 9, op := .mv (.t 8) }, { dst := some 10, op := .mv (.t 0), guard := some (9, true) }, { dst := some 11, op := .bin .rem (.t 10) (.v (.c (.i .i64 3))), guard := some (9, true) }, { dst := some 12, op := .bin .neq (.t 11) (.v (.c (.i .i64 2))), guard := some (9, true) }, { dst := some 13, op := .pick (.t 9) (.t 12) (.v (.c (.b false))) }, { dst := some 5, op := .mv (.t 13) }]
def escheatlaw20_below_1_c1 : ACode := .ops escheatlaw20_below_1_o1
def escheatlaw20_below_1_c2 : ACode := .seq [5] escheatlaw20_below_1_c1 .ret
def escheatlaw20_below_1_c3 : ACode := .seq [0, 1, 2] escheatlaw20_below_1_c0 escheatlaw20_below_1_c2
def A_escheatlaw20_below_1 : AFn := ⟨escheatlaw20_below_1_c3, [.tmp 5]⟩
noncomputable def E_escheatlaw20_below_1 : Sums := disp0
noncomputable def escheatlaw20_below_1_c0_d (n : Nat) : SmV := smOps E_escheatlaw20_below_1 escheatlaw20_below_1_o0
noncomputable def escheatlaw20_below_1_c1_d (n : Nat) : SmV := smOps E_escheatlaw20_below_1 escheatlaw20_below_1_o1
noncomputable def escheatlaw20_below_1_c2_d (n : Nat) : SmV := smSeq [5] (escheatlaw20_below_1_c1_d n) smRet
noncomputable def escheatlaw20_below_1_c3_d (n : Nat) : SmV := smSeq [0, 1, 2] (escheatlaw20_below_1_c0_d n) (escheatlaw20_below_1_c2_d n)
noncomputable def R_escheatlaw20_below_1 (n : Nat) (args : List Val) (h : Heap) : OptV := (escheatlaw20_below_1_c3_d n) A_escheatlaw20_below_1.fin (params 0 args) h
theorem R_escheatlaw20_below_1_eq (n : Nat) (a0 a1 a2 : Val) (h : Heap) : R_escheatlaw20_below_1 n [a0, a1, a2] h = bnd (aload1 h a2) fun v1 => bnd (abin .lss a1 v1) fun v2 => bnd (gd v2 true (some (a0, h)) (some (.no, h))) fun p3 => bnd (gd v2 true (bnd (abin .rem p3.1 (.c (.i .i64 3))) fun v4 => some (v4, p3.2)) (some (.no, p3.2))) fun p5 => bnd (gd v2 true (bnd (abin .neq p5.1 (.c (.i .i64 2))) fun v6 => some (v6, p5.2)) (some (.no, p5.2))) fun p7 => bnd (apick v2 p7.1 (.c (.b false))) fun v8 => some (v8, p7.2) := by kernel_rfl
theorem K_escheatlaw20_below_1 : FnK Try.prog 179 A_escheatlaw20_below_1 E_escheatlaw20_below_1 R_escheatlaw20_below_1 := .mk' (sound0) Try.func179 (by kernel_rfl) (by intro n args h; kernel_rfl)
noncomputable def S_escheatlaw20_below_1 : Fun := tidy (Lim A_escheatlaw20_below_1 E_escheatlaw20_below_1)
theorem S_escheatlaw20_below_1_ok : SOk Try.prog 179 S_escheatlaw20_below_1 := K_escheatlaw20_below_1.sok
theorem S_escheatlaw20_below_1_flat {n : Nat} {args : List Val} {h h2 : Heap} {v : Val} (he : R_escheatlaw20_below_1 n args (ro h) = some (v, h2)) (hf : v.flat = true) : S_escheatlaw20_below_1 args h = some (v, h) := K_escheatlaw20_below_1.flat he hf
def points_Keep__below_1_o0 : List AOper := [{ dst := some 2, op := .box (.t 0) }, { dst := some 4, op := .alloc (List.replicate 256 (.i .u8 0)) }]
def points_Keep__below_1_c0 : ACode := .ops points_Keep__below_1_o0
def points_Keep__below_1_o1 : List AOper := [{ dst := some 7, op := .mv (.v (.c (.i .i64 0))) }]
def points_Keep__below_1_c1 : ACode := .ops points_Keep__below_1_o1
def points_Keep__below_1_o2 : List AOper := [{ dst := some 8, op := .bin .lss (.t 7) (.v (.c (.i .i64 128))) }]
def points_Keep__below_1_c2 : ACode := .ops points_Keep__below_1_o2
def points_Keep__below_1_c3 : ACode := .cond (.t 8) .skip (.exit 0)
def points_Keep__below_1_o3 : List AOper := [{ dst := some 9, op := .mv (.t 7) }, { dst := some 5, op := .mv (.t 9) }]
def points_Keep__below_1_c4 : ACode := .ops points_Keep__below_1_o3
def points_Keep__below_1_o4 : List AOper := [{ dst := some 10, op := .loadN 256 (.t 2) }, { dst := some 11, op := .mv (.t 5) }, { dst := some 12, op := .call 87 [(.t 10), (.t 11)] }, { dst := some 6, op := .mv (.t 12) }]
def points_Keep__below_1_c5 : ACode := .ops points_Keep__below_1_o4
def points_Keep__below_1_o5 : List AOper := [{ dst := some 13, op := .mv (.t 6) }, { dst := some 14, op := .bin .neq (.t 13) (.v (.c (.i .i64 0))) }, { dst := some 15, op := .mv (.t 14) }, { dst := some 16, op := .mv (.t 1), guard := some (15, true) }, { dst := some 17, op := .eqN true true (.t 16), guard := some (15, true) }, { dst := some 18, op := .pick (.t 15) (.t 17) (.v (.c (.b false))) }, { dst := some 19, op := .mv (.t 18) }, { dst := some 20, op := .mv (.t 1), guard := some (19, true) }, { dst := some 21, op := .mv (.t 5), guard := some (19, true) }, { dst := some 22, op := .mv (.t 6), guard := some (19, true) }, { dst := some 23, op := .callV (.t 20) [(.t 21), (.t 22)], guard := some (19, true) }, { dst := some 24, op := .un .not (.t 23), guard := some (19, true) }, { dst := some 25, op := .pick (.t 19) (.t 24) (.v (.c (.b false))) }]
def points_Keep__below_1_c6 : ACode := .ops points_Keep__below_1_o5
def points_Keep__below_1_o6 : List AOper := [{ dst := some 26, op := .loadN 256 (.t 2) }, { dst := some 27, op := .mv (.t 5) }, { dst := some 28, op := .bin .mul (.v (.c (.i .i64 2))) (.t 27) }, { dst := some 29, op := .call 58 [(.t 26), (.t 28), (.v (.c (.i .i64 2))), (.v (.c (.i .i64 0)))] }, { dst := none, op := .storeN 256 (.t 2) (.t 29) }]
def points_Keep__below_1_c7 : ACode := .ops points_Keep__below_1_o6
def points_Keep__below_1_c8 : ACode := .cond (.t 25) points_Keep__below_1_c7 .skip
def points_Keep__below_1_c9 : ACode := .seq [1, 2, 4, 5, 7, 25] points_Keep__below_1_c6 points_Keep__below_1_c8
def points_Keep__below_1_c10 : ACode := .seq [1, 2, 4, 5, 6, 7] points_Keep__below_1_c5 points_Keep__below_1_c9
def points_Keep__below_1_c11 : ACode := .seq [1, 2, 4, 5, 7] points_Keep__below_1_c4 points_Keep__below_1_c10
def points_Keep__below_1_c12 : ACode := .block 1 points_Keep__below_1_c11
def points_Keep__below_1_o7 : List AOper := [{ dst := some 30, op := .bin .add (.t 7) (.v (.c (.i .i64 1))) }, { dst := some 7, op := .mv (.t 30) }]
def points_Keep__below_1_c13 : ACode := .ops points_Keep__below_1_o7
def points_Keep__below_1_c14 : ACode := .seq [1, 2, 4, 7] points_Keep__below_1_c12 points_Keep__below_1_c13
def points_Keep__below_1_c15 : ACode := .seq [1, 2, 4, 7] points_Keep__below_1_c3 points_Keep__below_1_c14
def points_Keep__below_1_c16 : ACode := .seq [1, 2, 4, 7, 8] points_Keep__below_1_c2 points_Keep__below_1_c15
def points_Keep__below_1_c17 : ACode := .loop [1, 2, 4, 7] points_Keep__below_1_c16
def points_Keep__below_1_c18 : ACode := .block 0 points_Keep__below_1_c17
def points_Keep__below_1_c19 : ACode := .seq [1, 2, 4, 7] points_Keep__below_1_c1 points_Keep__below_1_c18
def points_Keep__below_1_o8 : List AOper := [{ dst := some 31, op := .loadN 256 (.t 2) }, { dst := none, op := .storeN 256 (.t 4) (.t 31) }]
def points_Keep__below_1_c20 : ACode := .ops points_Keep__below_1_o8
def points_Keep__below_1_c21 : ACode := .seq [4] points_Keep__below_1_c20 .ret
def points_Keep__below_1_c22 : ACode := .seq [2, 4] points_Keep__below_1_c19 points_Keep__below_1_c21
def points_Keep__below_1_c23 : ACode := .seq [1, 2, 4] points_Keep__below_1_c0 points_Keep__below_1_c22
def A_points_Keep__below_1 : AFn := ⟨points_Keep__below_1_c23, [.cellN 4 256]⟩
noncomputable def E_points_Keep__below_1 : Sums := disp 87 S_points_Get (disp 58 S_num_With (disp 179 S_escheatlaw20_below_1 disp0))
noncomputable def points_Keep__below_1_c0_d (n : Nat) : SmV := smOps E_points_Keep__below_1 points_Keep__below_1_o0
noncomputable def points_Keep__below_1_c1_d (n : Nat) : SmV := smOps E_points_Keep__below_1 points_Keep__below_1_o1
noncomputable def points_Keep__below_1_c2_d (n : Nat) : SmV := smOps E_points_Keep__below_1 points_Keep__below_1_o2
noncomputable def points_Keep__below_1_c3_d (n : Nat) : SmV := smCond (.t 8) smSkip (smExit 0)
noncomputable def points_Keep__below_1_c4_d (n : Nat) : SmV := smOps E_points_Keep__below_1 points_Keep__below_1_o3
noncomputable def points_Keep__below_1_c5_d (n : Nat) : SmV := smOps E_points_Keep__below_1 points_Keep__below_1_o4
noncomputable def points_Keep__below_1_c6_d (n : Nat) : SmV := smOps E_points_Keep__below_1 points_Keep__below_1_o5
noncomputable def points_Keep__below_1_c7_d (n : Nat) : SmV := smOps E_points_Keep__below_1 points_Keep__below_1_o6
noncomputable def points_Keep__below_1_c8_d (n : Nat) : SmV := smCond (.t 25) (points_Keep__below_1_c7_d n) smSkip
noncomputable def points_Keep__below_1_c9_d (n : Nat) : SmV := smSeq [1, 2, 4, 5, 7, 25] (points_Keep__below_1_c6_d n) (points_Keep__below_1_c8_d n)
noncomputable def points_Keep__below_1_c10_d (n : Nat) : SmV := smSeq [1, 2, 4, 5, 6, 7] (points_Keep__below_1_c5_d n) (points_Keep__below_1_c9_d n)
noncomputable def points_Keep__below_1_c11_d (n : Nat) : SmV := smSeq [1, 2, 4, 5, 7] (points_Keep__below_1_c4_d n) (points_Keep__below_1_c10_d n)
noncomputable def points_Keep__below_1_c12_d (n : Nat) : SmV := smBlock 1 (points_Keep__below_1_c11_d n)
noncomputable def points_Keep__below_1_c13_d (n : Nat) : SmV := smOps E_points_Keep__below_1 points_Keep__below_1_o7
noncomputable def points_Keep__below_1_c14_d (n : Nat) : SmV := smSeq [1, 2, 4, 7] (points_Keep__below_1_c12_d n) (points_Keep__below_1_c13_d n)
noncomputable def points_Keep__below_1_c15_d (n : Nat) : SmV := smSeq [1, 2, 4, 7] (points_Keep__below_1_c3_d n) (points_Keep__below_1_c14_d n)
noncomputable def points_Keep__below_1_c16_d (n : Nat) : SmV := smSeq [1, 2, 4, 7, 8] (points_Keep__below_1_c2_d n) (points_Keep__below_1_c15_d n)
noncomputable def points_Keep__below_1_c17_d (n : Nat) : SmV := smLoop n [1, 2, 4, 7] (points_Keep__below_1_c16_d n)
noncomputable def points_Keep__below_1_c18_d (n : Nat) : SmV := smBlock 0 (points_Keep__below_1_c17_d n)
noncomputable def points_Keep__below_1_c19_d (n : Nat) : SmV := smSeq [1, 2, 4, 7] (points_Keep__below_1_c1_d n) (points_Keep__below_1_c18_d n)
noncomputable def points_Keep__below_1_c20_d (n : Nat) : SmV := smOps E_points_Keep__below_1 points_Keep__below_1_o8
noncomputable def points_Keep__below_1_c21_d (n : Nat) : SmV := smSeq [4] (points_Keep__below_1_c20_d n) smRet
noncomputable def points_Keep__below_1_c22_d (n : Nat) : SmV := smSeq [2, 4] (points_Keep__below_1_c19_d n) (points_Keep__below_1_c21_d n)
noncomputable def points_Keep__below_1_c23_d (n : Nat) : SmV := smSeq [1, 2, 4] (points_Keep__below_1_c0_d n) (points_Keep__below_1_c22_d n)
noncomputable def points_Keep__below_1_k0 (n : Nat) : AExit → Env → Heap → OptV := fun x e h => match x with | .normal => hold ((points_Keep__below_1_c21_d n) A_points_Keep__below_1.fin (e.keep [2, 4]) h) | .exit id => A_points_Keep__below_1.fin (.exit id) e h | .ret => A_points_Keep__below_1.fin .ret e h
noncomputable def points_Keep__below_1_k1 (n : Nat) : AExit → Env → Heap → OptV := fun x e h => match x with | .exit i => bif Nat.beq i 0 then (points_Keep__below_1_k0 n) .normal e h else (points_Keep__below_1_k0 n) (.exit i) e h | .normal => (points_Keep__below_1_k0 n) .normal e h | .ret => (points_Keep__below_1_k0 n) .ret e h
noncomputable def points_Keep__below_1_l0 (n m : Nat) (x1 x2 x4 x7 : Val) (h : Heap) : OptV := around (points_Keep__below_1_c16_d n) [1, 2, 4, 7] (points_Keep__below_1_k1 n) m [(1, x1), (2, x2), (4, x4), (7, x7)] h
noncomputable def R_points_Keep__below_1 (n : Nat) (args : List Val) (h : Heap) : OptV := (points_Keep__below_1_c23_d n) A_points_Keep__below_1.fin (params 0 args) h
noncomputable def points_Keep__below_1_k2 (n m : Nat) : AExit → Env → Heap → OptV := fun x e h => match x with | .normal => around (points_Keep__below_1_c16_d n) [1, 2, 4, 7] (points_Keep__below_1_k1 n) m (e.keep [1, 2, 4, 7]) h | .exit id => (points_Keep__below_1_k1 n) (.exit id) e h | .ret => (points_Keep__below_1_k1 n) .ret e h
noncomputable def points_Keep__below_1_j0 (n m : Nat) (x1 x2 x4 x7 : Val) (h : Heap) : OptV := hold ((points_Keep__below_1_c13_d n) (points_Keep__below_1_k2 n m) [(1, x1), (2, x2), (4, x4), (7, x7)] h)
theorem R_points_Keep__below_1_eq (n : Nat) (a0 a1 : Val) (h : Heap) : R_points_Keep__below_1 n [a0, a1] h = bnd (cells? a0) fun c1 => points_Keep__below_1_l0 n n a1 ((.c (.p h.length 0))) ((.c (.p ((h ++ [some (Row.mk (c1) true)])).length 0))) (.c (.i .i64 0)) (((h ++ [some (Row.mk (c1) true)]) ++ [some (Row.mk (List.replicate 256 (.i .u8 0)) true)])) := by kernel_rfl
theorem points_Keep__below_1_l0_eq (n m : Nat) (x1 x2 x4 x7 : Val) (h : Heap) : points_Keep__below_1_l0 n (m + 1) x1 x2 x4 x7 h = bnd (abin .lss x7 (.c (.i .i64 128))) fun v2 => cnd v2 (bnd (aloadN h 256 x2) fun v3 => bnd (S_points_Get [v3, x7] h) fun p4 => bnd (abin .neq p4.1 (.c (.i .i64 0))) fun v5 => bnd (gd v5 true (some (x1, p4.2)) (some (.no, p4.2))) fun p6 => bnd (gd v5 true (bnd (aeqN true true p6.1) fun v7 => some (v7, p6.2)) (some (.no, p6.2))) fun p8 => bnd (apick v5 p8.1 (.c (.b false))) fun v9 => bnd (gd v9 true (some (x1, p8.2)) (some (.no, p8.2))) fun p10 => bnd (gd v9 true (some (x7, p10.2)) (some (.no, p10.2))) fun p11 => bnd (gd v9 true (some (p4.1, p11.2)) (some (.no, p11.2))) fun p12 => bnd (gd v9 true (bnd (callv E_points_Keep__below_1 p10.1 [p11.1, p12.1] p12.2) fun p13 => some (p13.1, p13.2)) (some (.no, p12.2))) fun p14 => bnd (gd v9 true (bnd (aun .not p14.1) fun v15 => some (v15, p14.2)) (some (.no, p14.2))) fun p16 => bnd (apick v9 p16.1 (.c (.b false))) fun v17 => cnd v17 (bnd (aloadN p16.2 256 x2) fun v18 => bnd (abin .mul (.c (.i .i64 2)) x7) fun v19 => bnd (S_num_With [v18, v19, .c (.i .i64 2), .c (.i .i64 0)] p16.2) fun p20 => bnd (astoreN p20.2 256 x2 p20.1) fun h21 => points_Keep__below_1_j0 n m x1 x2 x4 x7 h21) (points_Keep__below_1_j0 n m x1 x2 x4 x7 p16.2)) (bnd (aloadN h 256 x2) fun v22 => bnd (astoreN h 256 x4 v22) fun h23 => mp (aloadN h23 256 x4) fun v => (v, h23)) := by kernel_rfl
theorem points_Keep__below_1_j0_eq (n m : Nat) (x1 x2 x4 x7 : Val) (h : Heap) : points_Keep__below_1_j0 n m x1 x2 x4 x7 h = bnd (abin .add x7 (.c (.i .i64 1))) fun v24 => points_Keep__below_1_l0 n m x1 x2 x4 v24 h := by kernel_rfl
theorem K_points_Keep__below_1 : FnK Try.prog 100 A_points_Keep__below_1 E_points_Keep__below_1 R_points_Keep__below_1 := .mk' (sound1 S_points_Get_ok (sound1 S_num_With_ok (sound1 S_escheatlaw20_below_1_ok sound0))) Try.func100 (by kernel_rfl) (by intro n args h; kernel_rfl)
noncomputable def S_points_Keep__below_1 : Fun := tidy (Lim A_points_Keep__below_1 E_points_Keep__below_1)
theorem S_points_Keep__below_1_ok : SOk Try.prog 100 S_points_Keep__below_1 := K_points_Keep__below_1.sok
theorem S_points_Keep__below_1_flat {n : Nat} {args : List Val} {h h2 : Heap} {v : Val} (he : R_points_Keep__below_1 n args (ro h) = some (v, h2)) (hf : v.flat = true) : S_points_Keep__below_1 args h = some (v, h) := K_points_Keep__below_1.flat he hf
end Go.Proofs.Ytbbkpmbepljhkaa
