/- Escheatlaw18BucketNews: the Go functions of this package as the abstract evaluator computes them: printed by a program, checked by Lean. -/
import Derived.Test.YtbbkpmbepljhkaaEscS
import Derived.Test.YtbbkpmbepljhkaaChecked
import Derived.KernelRfl
import Derived.Test.YtbbkpmbepljhkaaGBucket
import Derived.Test.YtbbkpmbepljhkaaGEscheatlaw18
import Derived.Test.YtbbkpmbepljhkaaGEscheatref01
import Derived.Test.YtbbkpmbepljhkaaGEscheatref18
namespace Go.Proofs.Ytbbkpmbepljhkaa
open Go Go.Esc
set_option maxRecDepth 100000
set_option linter.all false
def escheatlaw18_BucketNews_o0 : List AOper := [{ dst := some 2, op := .mv (.v (.c (.b false))) }]
def escheatlaw18_BucketNews_c0 : ACode := .ops escheatlaw18_BucketNews_o0
def escheatlaw18_BucketNews_o1 : List AOper := [{ dst := some 7, op := .mv (.t 0) }, { dst := some 8, op := .call 149 [(.t 7), (.v (.c (.i .i64 20)))] }]
def escheatlaw18_BucketNews_c1 : ACode := .ops escheatlaw18_BucketNews_o1
def escheatlaw18_BucketNews_o2 : List AOper := [{ dst := some 9, op := .call 150 [] }, { dst := some 2, op := .mv (.t 9) }]
def escheatlaw18_BucketNews_c2 : ACode := .ops escheatlaw18_BucketNews_o2
def escheatlaw18_BucketNews_c3 : ACode := .seq [2] escheatlaw18_BucketNews_c2 .ret
def escheatlaw18_BucketNews_c4 : ACode := .cond (.t 8) escheatlaw18_BucketNews_c3 .skip
def escheatlaw18_BucketNews_c5 : ACode := .seq [0, 8] escheatlaw18_BucketNews_c1 escheatlaw18_BucketNews_c4
def escheatlaw18_BucketNews_o3 : List AOper := [{ dst := some 11, op := .mv (.t 0) }, { dst := some 12, op := .call 151 [(.t 11)] }, { dst := some 10, op := .mv (.t 12) }, { dst := some 13, op := .ext (.t 10) 0 }, { dst := some 14, op := .ext (.t 10) 1 }, { dst := some 3, op := .alloc (List.replicate 256 (.i .u8 0)) }, { dst := none, op := .storeN 256 (.t 3) (.t 13) }, { dst := some 4, op := .mv (.t 14) }]
def escheatlaw18_BucketNews_c6 : ACode := .ops escheatlaw18_BucketNews_o3
def escheatlaw18_BucketNews_o4 : List AOper := [{ dst := some 16, op := .mv (.t 0) }, { dst := some 17, op := .call 152 [(.t 16)] }, { dst := some 15, op := .mv (.t 17) }, { dst := some 18, op := .ext (.t 15) 0 }, { dst := some 19, op := .ext (.t 15) 1 }, { dst := some 5, op := .mv (.t 18) }, { dst := some 6, op := .mv (.t 19) }]
def escheatlaw18_BucketNews_c7 : ACode := .ops escheatlaw18_BucketNews_o4
def escheatlaw18_BucketNews_o5 : List AOper := [{ dst := some 20, op := .mv (.t 4) }, { dst := some 21, op := .mv (.t 6) }, { dst := some 22, op := .bin .neq (.t 20) (.t 21) }]
def escheatlaw18_BucketNews_c8 : ACode := .ops escheatlaw18_BucketNews_o5
def escheatlaw18_BucketNews_o6 : List AOper := [{ dst := some 2, op := .mv (.v (.c (.b false))) }]
def escheatlaw18_BucketNews_c9 : ACode := .ops escheatlaw18_BucketNews_o6
def escheatlaw18_BucketNews_c10 : ACode := .seq [2] escheatlaw18_BucketNews_c9 .ret
def escheatlaw18_BucketNews_c11 : ACode := .cond (.t 22) escheatlaw18_BucketNews_c10 .skip
def escheatlaw18_BucketNews_c12 : ACode := .seq [3, 5, 6, 22] escheatlaw18_BucketNews_c8 escheatlaw18_BucketNews_c11
def escheatlaw18_BucketNews_o7 : List AOper := [{ dst := some 23, op := .mv (.t 6) }, { dst := some 24, op := .bin .neq (.t 23) (.v (.c (.i .i64 0))) }]
def escheatlaw18_BucketNews_c13 : ACode := .ops escheatlaw18_BucketNews_o7
def escheatlaw18_BucketNews_o8 : List AOper := [{ dst := some 25, op := .loadN 256 (.t 3) }, { dst := some 26, op := .build (List.replicate 256 (.i .u8 0)) [] }, { dst := some 27, op := .eqA false (List.replicate 256 (.i .u8)) (.t 25) (.t 26) }, { dst := some 28, op := .mv (.t 27) }, { dst := some 29, op := .call 150 [], guard := some (28, true) }, { dst := some 30, op := .pick (.t 28) (.t 29) (.v (.c (.b false))) }, { dst := some 2, op := .mv (.t 30) }]
def escheatlaw18_BucketNews_c14 : ACode := .ops escheatlaw18_BucketNews_o8
def escheatlaw18_BucketNews_c15 : ACode := .seq [2] escheatlaw18_BucketNews_c14 .ret
def escheatlaw18_BucketNews_c16 : ACode := .cond (.t 24) escheatlaw18_BucketNews_c15 .skip
def escheatlaw18_BucketNews_c17 : ACode := .seq [3, 5, 24] escheatlaw18_BucketNews_c13 escheatlaw18_BucketNews_c16
def escheatlaw18_BucketNews_o9 : List AOper := [{ dst := some 31, op := .slA 256 1 (.t 3) none none }, { dst := some 32, op := .mv (.t 5) }, { dst := some 33, op := .call 47 [(.t 31), (.t 32)] }, { dst := some 34, op := .mv (.t 33) }, { dst := some 35, op := .loadN 256 (.t 3), guard := some (34, true) }, { dst := some 36, op := .call 153 [(.t 35)], guard := some (34, true) }, { dst := some 37, op := .pick (.t 34) (.t 36) (.v (.c (.b false))) }, { dst := some 38, op := .mv (.t 37) }, { dst := some 39, op := .call 150 [], guard := some (38, true) }, { dst := some 40, op := .pick (.t 38) (.t 39) (.v (.c (.b false))) }, { dst := some 2, op := .mv (.t 40) }]
def escheatlaw18_BucketNews_c18 : ACode := .ops escheatlaw18_BucketNews_o9
def escheatlaw18_BucketNews_c19 : ACode := .seq [2] escheatlaw18_BucketNews_c18 .ret
def escheatlaw18_BucketNews_c20 : ACode := .seq [3, 5] escheatlaw18_BucketNews_c17 escheatlaw18_BucketNews_c19
def escheatlaw18_BucketNews_c21 : ACode := .seq [3, 5, 6] escheatlaw18_BucketNews_c12 escheatlaw18_BucketNews_c20
def escheatlaw18_BucketNews_c22 : ACode := .seq [3, 4, 5, 6] escheatlaw18_BucketNews_c7 escheatlaw18_BucketNews_c21
def escheatlaw18_BucketNews_c23 : ACode := .seq [0, 3, 4] escheatlaw18_BucketNews_c6 escheatlaw18_BucketNews_c22
def escheatlaw18_BucketNews_c24 : ACode := .seq [0] escheatlaw18_BucketNews_c5 escheatlaw18_BucketNews_c23
def escheatlaw18_BucketNews_c25 : ACode := .seq [0] escheatlaw18_BucketNews_c0 escheatlaw18_BucketNews_c24
def A_escheatlaw18_BucketNews : AFn := ⟨escheatlaw18_BucketNews_c25, [.tmp 2]⟩
noncomputable def E_escheatlaw18_BucketNews : Sums := disp 149 S_escheatref18_Much (disp 150 S_escheatlaw18_works (disp 151 S_bucket_New (disp 152 S_escheatref18_New (disp 47 S_escheatref01_Same (disp 153 S_bucket_Right disp0)))))
noncomputable def escheatlaw18_BucketNews_c0_d (n : Nat) : SmV := smOps E_escheatlaw18_BucketNews escheatlaw18_BucketNews_o0
noncomputable def escheatlaw18_BucketNews_c1_d (n : Nat) : SmV := smOps E_escheatlaw18_BucketNews escheatlaw18_BucketNews_o1
noncomputable def escheatlaw18_BucketNews_c2_d (n : Nat) : SmV := smOps E_escheatlaw18_BucketNews escheatlaw18_BucketNews_o2
noncomputable def escheatlaw18_BucketNews_c3_d (n : Nat) : SmV := smSeq [2] (escheatlaw18_BucketNews_c2_d n) smRet
noncomputable def escheatlaw18_BucketNews_c4_d (n : Nat) : SmV := smCond (.t 8) (escheatlaw18_BucketNews_c3_d n) smSkip
noncomputable def escheatlaw18_BucketNews_c5_d (n : Nat) : SmV := smSeq [0, 8] (escheatlaw18_BucketNews_c1_d n) (escheatlaw18_BucketNews_c4_d n)
noncomputable def escheatlaw18_BucketNews_c6_d (n : Nat) : SmV := smOps E_escheatlaw18_BucketNews escheatlaw18_BucketNews_o3
noncomputable def escheatlaw18_BucketNews_c7_d (n : Nat) : SmV := smOps E_escheatlaw18_BucketNews escheatlaw18_BucketNews_o4
noncomputable def escheatlaw18_BucketNews_c8_d (n : Nat) : SmV := smOps E_escheatlaw18_BucketNews escheatlaw18_BucketNews_o5
noncomputable def escheatlaw18_BucketNews_c9_d (n : Nat) : SmV := smOps E_escheatlaw18_BucketNews escheatlaw18_BucketNews_o6
noncomputable def escheatlaw18_BucketNews_c10_d (n : Nat) : SmV := smSeq [2] (escheatlaw18_BucketNews_c9_d n) smRet
noncomputable def escheatlaw18_BucketNews_c11_d (n : Nat) : SmV := smCond (.t 22) (escheatlaw18_BucketNews_c10_d n) smSkip
noncomputable def escheatlaw18_BucketNews_c12_d (n : Nat) : SmV := smSeq [3, 5, 6, 22] (escheatlaw18_BucketNews_c8_d n) (escheatlaw18_BucketNews_c11_d n)
noncomputable def escheatlaw18_BucketNews_c13_d (n : Nat) : SmV := smOps E_escheatlaw18_BucketNews escheatlaw18_BucketNews_o7
noncomputable def escheatlaw18_BucketNews_c14_d (n : Nat) : SmV := smOps E_escheatlaw18_BucketNews escheatlaw18_BucketNews_o8
noncomputable def escheatlaw18_BucketNews_c15_d (n : Nat) : SmV := smSeq [2] (escheatlaw18_BucketNews_c14_d n) smRet
noncomputable def escheatlaw18_BucketNews_c16_d (n : Nat) : SmV := smCond (.t 24) (escheatlaw18_BucketNews_c15_d n) smSkip
noncomputable def escheatlaw18_BucketNews_c17_d (n : Nat) : SmV := smSeq [3, 5, 24] (escheatlaw18_BucketNews_c13_d n) (escheatlaw18_BucketNews_c16_d n)
noncomputable def escheatlaw18_BucketNews_c18_d (n : Nat) : SmV := smOps E_escheatlaw18_BucketNews escheatlaw18_BucketNews_o9
noncomputable def escheatlaw18_BucketNews_c19_d (n : Nat) : SmV := smSeq [2] (escheatlaw18_BucketNews_c18_d n) smRet
noncomputable def escheatlaw18_BucketNews_c20_d (n : Nat) : SmV := smSeq [3, 5] (escheatlaw18_BucketNews_c17_d n) (escheatlaw18_BucketNews_c19_d n)
noncomputable def escheatlaw18_BucketNews_c21_d (n : Nat) : SmV := smSeq [3, 5, 6] (escheatlaw18_BucketNews_c12_d n) (escheatlaw18_BucketNews_c20_d n)
noncomputable def escheatlaw18_BucketNews_c22_d (n : Nat) : SmV := smSeq [3, 4, 5, 6] (escheatlaw18_BucketNews_c7_d n) (escheatlaw18_BucketNews_c21_d n)
noncomputable def escheatlaw18_BucketNews_c23_d (n : Nat) : SmV := smSeq [0, 3, 4] (escheatlaw18_BucketNews_c6_d n) (escheatlaw18_BucketNews_c22_d n)
noncomputable def escheatlaw18_BucketNews_c24_d (n : Nat) : SmV := smSeq [0] (escheatlaw18_BucketNews_c5_d n) (escheatlaw18_BucketNews_c23_d n)
noncomputable def escheatlaw18_BucketNews_c25_d (n : Nat) : SmV := smSeq [0] (escheatlaw18_BucketNews_c0_d n) (escheatlaw18_BucketNews_c24_d n)
noncomputable def R_escheatlaw18_BucketNews (n : Nat) (args : List Val) (h : Heap) : OptV := (escheatlaw18_BucketNews_c25_d n) A_escheatlaw18_BucketNews.fin (params 0 args) h
theorem R_escheatlaw18_BucketNews_eq (n : Nat) (a0 : Val) (h : Heap) : R_escheatlaw18_BucketNews n [a0] h = bnd (S_escheatref18_Much [a0, .c (.i .i64 20)] h) fun p1 => cnd p1.1 (bnd (S_escheatlaw18_works [] p1.2) fun p2 => some (p2.1, p2.2)) (bnd (S_bucket_New [a0] p1.2) fun p3 => bnd (aext p3.1 0) fun v4 => bnd (aext p3.1 1) fun v5 => bnd (astoreN ((p3.2 ++ [some (Row.mk (List.replicate 256 (.i .u8 0)) true)])) 256 ((.c (.p p3.2.length 0))) v4) fun h6 => bnd (S_escheatref18_New [a0] h6) fun p7 => bnd (aext p7.1 0) fun v8 => bnd (aext p7.1 1) fun v9 => bnd (abin .neq v5 v9) fun v10 => cnd v10 (some ((.c (.b false)), p7.2)) (bnd (abin .neq v9 (.c (.i .i64 0))) fun v11 => cnd v11 (bnd (aloadN p7.2 256 ((.c (.p p3.2.length 0)))) fun v12 => bnd (afill (List.replicate 256 (.i .u8 0)) []) fun c13 => bnd (aeq false (List.replicate 256 (.i .u8)) v12 ((.a c13))) fun v14 => bnd (gd v14 true (bnd (S_escheatlaw18_works [] p7.2) fun p15 => some (p15.1, p15.2)) (some (.no, p7.2))) fun p16 => bnd (apick v14 p16.1 (.c (.b false))) fun v17 => some (v17, p16.2)) (bnd (aslA p7.2 256 1 ((.c (.p p3.2.length 0))) none none) fun v18 => bnd (S_escheatref01_Same [v18, v8] p7.2) fun p19 => bnd (gd p19.1 true (bnd (aloadN p19.2 256 ((.c (.p p3.2.length 0)))) fun v20 => some (v20, p19.2)) (some (.no, p19.2))) fun p21 => bnd (gd p19.1 true (bnd (S_bucket_Right [p21.1] p21.2) fun p22 => some (p22.1, p22.2)) (some (.no, p21.2))) fun p23 => bnd (apick p19.1 p23.1 (.c (.b false))) fun v24 => bnd (gd v24 true (bnd (S_escheatlaw18_works [] p23.2) fun p25 => some (p25.1, p25.2)) (some (.no, p23.2))) fun p26 => bnd (apick v24 p26.1 (.c (.b false))) fun v27 => some (v27, p26.2)))) := by kernel_rfl
theorem K_escheatlaw18_BucketNews : FnK Try.prog 34 A_escheatlaw18_BucketNews E_escheatlaw18_BucketNews R_escheatlaw18_BucketNews := .mk' (sound1 S_escheatref18_Much_ok (sound1 S_escheatlaw18_works_ok (sound1 S_bucket_New_ok (sound1 S_escheatref18_New_ok (sound1 S_escheatref01_Same_ok (sound1 S_bucket_Right_ok sound0)))))) Try.func34 (by kernel_rfl) (by intro n args h; kernel_rfl)
noncomputable def S_escheatlaw18_BucketNews : Fun := tidy (Lim A_escheatlaw18_BucketNews E_escheatlaw18_BucketNews)
theorem S_escheatlaw18_BucketNews_ok : SOk Try.prog 34 S_escheatlaw18_BucketNews := K_escheatlaw18_BucketNews.sok
theorem S_escheatlaw18_BucketNews_flat {n : Nat} {args : List Val} {h h2 : Heap} {v : Val} (he : R_escheatlaw18_BucketNews n args (ro h) = some (v, h2)) (hf : v.flat = true) : S_escheatlaw18_BucketNews args h = some (v, h) := K_escheatlaw18_BucketNews.flat he hf
end Go.Proofs.Ytbbkpmbepljhkaa
