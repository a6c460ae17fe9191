/- Escheatlaw18: the Go functions of this package as the abstract evaluator computes them: printed by a program, checked by Lean. -/
import Derived.Test.YtbbkpmbepljhkaaEscS
import Derived.Test.YtbbkpmbepljhkaaChecked
import Derived.KernelRfl
import Derived.Test.YtbbkpmbepljhkaaGBucket
namespace Go.Proofs.Ytbbkpmbepljhkaa
open Go Go.Esc
set_option maxRecDepth 100000
set_option linter.all false
def escheatlaw18_works_o0 : List AOper := [{ dst := some 0, op := .mv (.v (.c (.b false))) }]
def escheatlaw18_works_c0 : ACode := .ops escheatlaw18_works_o0
def escheatlaw18_works_o1 : List AOper := [{ dst := some 7, op := .build ([.s [], .i .i64 0]) [(0, 1, (.v (.c (.s [97])))), (1, 1, (.v (.c (.i .i64 5))))] }, { dst := some 8, op := .buildSl 2 1 (([.s [], .i .i64 0])) [(0, 2, (.t 7))] }, { dst := some 9, op := .call 151 [(.t 8)] }, { dst := some 6, op := .mv (.t 9) }, { dst := some 10, op := .ext (.t 6) 0 }, { dst := some 11, op := .ext (.t 6) 1 }, { dst := some 1, op := .alloc (List.replicate 256 (.i .u8 0)) }, { dst := none, op := .storeN 256 (.t 1) (.t 10) }, { dst := some 2, op := .mv (.t 11) }]
def escheatlaw18_works_c1 : ACode := .ops escheatlaw18_works_o1
def escheatlaw18_works_o2 : List AOper := [{ dst := some 12, op := .loadN 256 (.t 1) }, { dst := some 13, op := .call 154 [(.t 12)] }, { dst := some 3, op := .mv (.t 13) }]
def escheatlaw18_works_c2 : ACode := .ops escheatlaw18_works_o2
def escheatlaw18_works_o3 : List AOper := [{ dst := some 15, op := .loadN 256 (.t 1) }, { dst := some 16, op := .call 158 [(.t 15)] }, { dst := some 14, op := .mv (.t 16) }, { dst := some 17, op := .ext (.t 14) 0 }, { dst := some 18, op := .ext (.t 14) 1 }, { dst := some 4, op := .mv (.t 17) }, { dst := some 5, op := .mv (.t 18) }]
def escheatlaw18_works_c3 : ACode := .ops escheatlaw18_works_o3
def escheatlaw18_works_o4 : List AOper := [{ dst := some 19, op := .mv (.t 2) }, { dst := some 20, op := .bin .eql (.t 19) (.v (.c (.i .i64 0))) }, { dst := some 21, op := .mv (.t 20) }, { dst := some 22, op := .mv (.t 3), guard := some (21, true) }, { dst := some 23, op := .len (.t 22), guard := some (21, true) }, { dst := some 24, op := .bin .eql (.t 23) (.v (.c (.i .i64 1))), guard := some (21, true) }, { dst := some 25, op := .pick (.t 21) (.t 24) (.v (.c (.b false))) }, { dst := some 26, op := .mv (.t 25) }, { dst := some 27, op := .mv (.t 3), guard := some (26, true) }, { dst := some 28, op := .iAddrL 3 (.t 27) (.v (.c (.i .i64 0))), guard := some (26, true) }, { dst := some 29, op := .loadN 3 (.t 28), guard := some (26, true) }, { dst := some 30, op := .build ([.s [], .i .i64 0]) [(0, 1, (.v (.c (.s [97])))), (1, 1, (.v (.c (.i .i64 5))))], guard := some (26, true) }, { dst := some 31, op := .build ([.i .i64 0, .s [], .i .i64 0]) [(1, 2, (.t 30))], guard := some (26, true) }, { dst := some 32, op := .eqA false ([.i .i64, .s, .i .i64]) (.t 29) (.t 31), guard := some (26, true) }, { dst := some 33, op := .pick (.t 26) (.t 32) (.v (.c (.b false))) }, { dst := some 34, op := .mv (.t 33) }, { dst := some 35, op := .mv (.t 4), guard := some (34, true) }, { dst := some 36, op := .bin .eql (.t 35) (.v (.c (.i .i64 1))), guard := some (34, true) }, { dst := some 37, op := .pick (.t 34) (.t 36) (.v (.c (.b false))) }, { dst := some 38, op := .mv (.t 37) }, { dst := some 39, op := .mv (.t 5), guard := some (38, true) }, { dst := some 40, op := .pick (.t 38) (.t 39) (.v (.c (.b false))) }, { dst := some 0, op := .mv (.t 40) }]
def escheatlaw18_works_c4 : ACode := .ops escheatlaw18_works_o4
def escheatlaw18_works_c5 : ACode := .seq [0] escheatlaw18_works_c4 .ret
def escheatlaw18_works_c6 : ACode := .seq [2, 3, 4, 5] escheatlaw18_works_c3 escheatlaw18_works_c5
def escheatlaw18_works_c7 : ACode := .seq [1, 2, 3] escheatlaw18_works_c2 escheatlaw18_works_c6
def escheatlaw18_works_c8 : ACode := .seq [1, 2] escheatlaw18_works_c1 escheatlaw18_works_c7
def escheatlaw18_works_c9 : ACode := .seq [] escheatlaw18_works_c0 escheatlaw18_works_c8
def A_escheatlaw18_works : AFn := ⟨escheatlaw18_works_c9, [.tmp 0]⟩
noncomputable def E_escheatlaw18_works : Sums := disp 151 S_bucket_New (disp 154 S_bucket_List (disp 158 S_bucket_Room disp0))
noncomputable def escheatlaw18_works_c0_d (n : Nat) : SmV := smOps E_escheatlaw18_works escheatlaw18_works_o0
noncomputable def escheatlaw18_works_c1_d (n : Nat) : SmV := smOps E_escheatlaw18_works escheatlaw18_works_o1
noncomputable def escheatlaw18_works_c2_d (n : Nat) : SmV := smOps E_escheatlaw18_works escheatlaw18_works_o2
noncomputable def escheatlaw18_works_c3_d (n : Nat) : SmV := smOps E_escheatlaw18_works escheatlaw18_works_o3
noncomputable def escheatlaw18_works_c4_d (n : Nat) : SmV := smOps E_escheatlaw18_works escheatlaw18_works_o4
noncomputable def escheatlaw18_works_c5_d (n : Nat) : SmV := smSeq [0] (escheatlaw18_works_c4_d n) smRet
noncomputable def escheatlaw18_works_c6_d (n : Nat) : SmV := smSeq [2, 3, 4, 5] (escheatlaw18_works_c3_d n) (escheatlaw18_works_c5_d n)
noncomputable def escheatlaw18_works_c7_d (n : Nat) : SmV := smSeq [1, 2, 3] (escheatlaw18_works_c2_d n) (escheatlaw18_works_c6_d n)
noncomputable def escheatlaw18_works_c8_d (n : Nat) : SmV := smSeq [1, 2] (escheatlaw18_works_c1_d n) (escheatlaw18_works_c7_d n)
noncomputable def escheatlaw18_works_c9_d (n : Nat) : SmV := smSeq [] (escheatlaw18_works_c0_d n) (escheatlaw18_works_c8_d n)
noncomputable def R_escheatlaw18_works (n : Nat) (args : List Val) (h : Heap) : OptV := (escheatlaw18_works_c9_d n) A_escheatlaw18_works.fin (params 0 args) h
theorem R_escheatlaw18_works_eq (n : Nat) (h : Heap) : R_escheatlaw18_works n [] h = bnd (afill ([.s [], .i .i64 0]) [(0, 1, .c (.s [97])), (1, 1, .c (.i .i64 5))]) fun c1 => bnd (afill (([.s [], .i .i64 0])) [(0, 2, (.a c1))]) fun c2 => bnd (S_bucket_New [(.c (.sl h.length 0 1 2))] ((h ++ [some (Row.mk (c2) true)]))) fun p3 => bnd (aext p3.1 0) fun v4 => bnd (aext p3.1 1) fun v5 => bnd (astoreN ((p3.2 ++ [some (Row.mk (List.replicate 256 (.i .u8 0)) true)])) 256 ((.c (.p p3.2.length 0))) v4) fun h6 => bnd (aloadN h6 256 ((.c (.p p3.2.length 0)))) fun v7 => bnd (S_bucket_List [v7] h6) fun p8 => bnd (aloadN p8.2 256 ((.c (.p p3.2.length 0)))) fun v9 => bnd (S_bucket_Room [v9] p8.2) fun p10 => bnd (aext p10.1 0) fun v11 => bnd (aext p10.1 1) fun v12 => bnd (abin .eql v5 (.c (.i .i64 0))) fun v13 => bnd (gd v13 true (some (p8.1, p10.2)) (some (.no, p10.2))) fun p14 => bnd (gd v13 true (bnd (alen p14.1) fun v15 => some (v15, p14.2)) (some (.no, p14.2))) fun p16 => bnd (gd v13 true (bnd (abin .eql p16.1 (.c (.i .i64 1))) fun v17 => some (v17, p16.2)) (some (.no, p16.2))) fun p18 => bnd (apick v13 p18.1 (.c (.b false))) fun v19 => bnd (gd v19 true (some (p8.1, p18.2)) (some (.no, p18.2))) fun p20 => bnd (gd v19 true (bnd (aiAddrL 3 p20.1 (.c (.i .i64 0))) fun v21 => some (v21, p20.2)) (some (.no, p20.2))) fun p22 => bnd (gd v19 true (bnd (aloadN p22.2 3 p22.1) fun v23 => some (v23, p22.2)) (some (.no, p22.2))) fun p24 => bnd (gd v19 true (bnd (afill ([.s [], .i .i64 0]) [(0, 1, .c (.s [97])), (1, 1, .c (.i .i64 5))]) fun c25 => some ((.a c25), p24.2)) (some (.no, p24.2))) fun p26 => bnd (gd v19 true (bnd (afill ([.i .i64 0, .s [], .i .i64 0]) [(1, 2, p26.1)]) fun c27 => some ((.a c27), p26.2)) (some (.no, p26.2))) fun p28 => bnd (gd v19 true (bnd (aeq false ([.i .i64, .s, .i .i64]) p24.1 p28.1) fun v29 => some (v29, p28.2)) (some (.no, p28.2))) fun p30 => bnd (apick v19 p30.1 (.c (.b false))) fun v31 => bnd (gd v31 true (some (v11, p30.2)) (some (.no, p30.2))) fun p32 => bnd (gd v31 true (bnd (abin .eql p32.1 (.c (.i .i64 1))) fun v33 => some (v33, p32.2)) (some (.no, p32.2))) fun p34 => bnd (apick v31 p34.1 (.c (.b false))) fun v35 => bnd (gd v35 true (some (v12, p34.2)) (some (.no, p34.2))) fun p36 => bnd (apick v35 p36.1 (.c (.b false))) fun v37 => some (v37, p36.2) := by kernel_rfl
theorem K_escheatlaw18_works : FnK Try.prog 150 A_escheatlaw18_works E_escheatlaw18_works R_escheatlaw18_works := .mk' (sound1 S_bucket_New_ok (sound1 S_bucket_List_ok (sound1 S_bucket_Room_ok sound0))) Try.func150 (by kernel_rfl) (by intro n args h; kernel_rfl)
noncomputable def S_escheatlaw18_works : Fun := tidy (Lim A_escheatlaw18_works E_escheatlaw18_works)
theorem S_escheatlaw18_works_ok : SOk Try.prog 150 S_escheatlaw18_works := K_escheatlaw18_works.sok
theorem S_escheatlaw18_works_flat {n : Nat} {args : List Val} {h h2 : Heap} {v : Val} (he : R_escheatlaw18_works n args (ro h) = some (v, h2)) (hf : v.flat = true) : S_escheatlaw18_works args h = some (v, h) := K_escheatlaw18_works.flat he hf
end Go.Proofs.Ytbbkpmbepljhkaa
