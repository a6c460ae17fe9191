/- Bucket: the Go functions of this package as the abstract evaluator computes them: printed by a program, checked by Lean. -/
import Derived.Test.YtbbkpmbepljhkaaEscS
import Derived.Test.YtbbkpmbepljhkaaChecked
import Derived.KernelRfl
import Derived.Test.YtbbkpmbepljhkaaGName
import Derived.Test.YtbbkpmbepljhkaaGNum
namespace Go.Proofs.Ytbbkpmbepljhkaa
open Go Go.Esc
set_option maxRecDepth 100000
set_option linter.all false
def bucket_head_o0 : List AOper := [{ dst := some 0, op := .alloc (List.replicate 256 (.i .u8 0)) }]
def bucket_head_c0 : ACode := .ops bucket_head_o0
def bucket_head_o1 : List AOper := [{ dst := some 1, op := .buildSl 1 4 ([.i .u8 0, .i .u8 0, .i .u8 0, .i .u8 0]) [(0, 1, (.v (.c (.i .u8 98)))), (1, 1, (.v (.c (.i .u8 107)))), (2, 1, (.v (.c (.i .u8 116)))), (3, 1, (.v (.c (.i .u8 33))))] }, { dst := some 2, op := .mark (.t 1) }, { dst := some 3, op := .call 82 [(.t 2)] }, { dst := none, op := .storeN 256 (.t 0) (.t 3) }]
def bucket_head_c1 : ACode := .ops bucket_head_o1
def bucket_head_c2 : ACode := .seq [0] bucket_head_c1 .ret
def bucket_head_c3 : ACode := .seq [0] bucket_head_c0 bucket_head_c2
def A_bucket_head : AFn := ⟨bucket_head_c3, [.cellN 0 256]⟩
noncomputable def E_bucket_head : Sums := disp 82 S_num_Of disp0
noncomputable def bucket_head_c0_d (n : Nat) : SmV := smOps E_bucket_head bucket_head_o0
noncomputable def bucket_head_c1_d (n : Nat) : SmV := smOps E_bucket_head bucket_head_o1
noncomputable def bucket_head_c2_d (n : Nat) : SmV := smSeq [0] (bucket_head_c1_d n) smRet
noncomputable def bucket_head_c3_d (n : Nat) : SmV := smSeq [0] (bucket_head_c0_d n) (bucket_head_c2_d n)
noncomputable def R_bucket_head (n : Nat) (args : List Val) (h : Heap) : OptV := (bucket_head_c3_d n) A_bucket_head.fin (params 0 args) h
theorem R_bucket_head_eq (n : Nat) (h : Heap) : R_bucket_head n [] h = bnd (afill ([.i .u8 0, .i .u8 0, .i .u8 0, .i .u8 0]) [(0, 1, .c (.i .u8 98)), (1, 1, .c (.i .u8 107)), (2, 1, .c (.i .u8 116)), (3, 1, .c (.i .u8 33))]) fun c1 => bnd (amark (((h ++ [some (Row.mk (List.replicate 256 (.i .u8 0)) true)]) ++ [some (Row.mk (c1) true)])) ((.c (.sl ((h ++ [some (Row.mk (List.replicate 256 (.i .u8 0)) true)])).length 0 4 1)))) fun v2 => bnd (S_num_Of [v2] (((h ++ [some (Row.mk (List.replicate 256 (.i .u8 0)) true)]) ++ [some (Row.mk (c1) true)]))) fun p3 => bnd (astoreN p3.2 256 ((.c (.p h.length 0))) p3.1) fun h4 => mp (aloadN h4 256 ((.c (.p h.length 0)))) fun v => (v, h4) := by kernel_rfl
theorem K_bucket_head : FnK Try.prog 193 A_bucket_head E_bucket_head R_bucket_head := .mk' (sound1 S_num_Of_ok sound0) Try.func193 (by kernel_rfl) (by intro n args h; kernel_rfl)
noncomputable def S_bucket_head : Fun := tidy (Lim A_bucket_head E_bucket_head)
theorem S_bucket_head_ok : SOk Try.prog 193 S_bucket_head := K_bucket_head.sok
theorem S_bucket_head_flat {n : Nat} {args : List Val} {h h2 : Heap} {v : Val} (he : R_bucket_head n args (ro h) = some (v, h2)) (hf : v.flat = true) : S_bucket_head args h = some (v, h) := K_bucket_head.flat he hf
def bucket_may_o0 : List AOper := [{ dst := some 1, op := .box (.t 0) }, { dst := some 2, op := .mv (.v (.c (.b false))) }]
def bucket_may_c0 : ACode := .ops bucket_may_o0
def bucket_may_o1 : List AOper := [{ dst := some 3, op := .fAddr (.t 1) 0 }, { dst := some 4, op := .load1 (.t 3) }, { dst := some 5, op := .call 42 [(.t 4)] }, { dst := some 6, op := .bin .eql (.t 5) (.v (.c (.i .i64 0))) }, { dst := some 7, op := .mv (.t 6) }, { dst := some 8, op := .fAddr (.t 1) 1, guard := some (7, true) }, { dst := some 9, op := .load1 (.t 8), guard := some (7, true) }, { dst := some 10, op := .bin .geq (.t 9) (.v (.c (.i .i64 1))), guard := some (7, true) }, { dst := some 11, op := .pick (.t 7) (.t 10) (.v (.c (.b false))) }, { dst := some 12, op := .mv (.t 11) }, { dst := some 13, op := .fAddr (.t 1) 1, guard := some (12, true) }, { dst := some 14, op := .load1 (.t 13), guard := some (12, true) }, { dst := some 15, op := .bin .leq (.t 14) (.v (.c (.i .i64 128))), guard := some (12, true) }, { dst := some 16, op := .pick (.t 12) (.t 15) (.v (.c (.b false))) }, { dst := some 2, op := .mv (.t 16) }]
def bucket_may_c1 : ACode := .ops bucket_may_o1
def bucket_may_c2 : ACode := .seq [2] bucket_may_c1 .ret
def bucket_may_c3 : ACode := .seq [1] bucket_may_c0 bucket_may_c2
def A_bucket_may : AFn := ⟨bucket_may_c3, [.tmp 2]⟩
noncomputable def E_bucket_may : Sums := disp 42 S_name_Check disp0
noncomputable def bucket_may_c0_d (n : Nat) : SmV := smOps E_bucket_may bucket_may_o0
noncomputable def bucket_may_c1_d (n : Nat) : SmV := smOps E_bucket_may bucket_may_o1
noncomputable def bucket_may_c2_d (n : Nat) : SmV := smSeq [2] (bucket_may_c1_d n) smRet
noncomputable def bucket_may_c3_d (n : Nat) : SmV := smSeq [1] (bucket_may_c0_d n) (bucket_may_c2_d n)
noncomputable def R_bucket_may (n : Nat) (args : List Val) (h : Heap) : OptV := (bucket_may_c3_d n) A_bucket_may.fin (params 0 args) h
theorem R_bucket_may_eq (n : Nat) (a0 : Val) (h : Heap) : R_bucket_may n [a0] h = bnd (cells? a0) fun c1 => bnd (afAddr ((.c (.p h.length 0))) 0) fun v2 => bnd (aload1 ((h ++ [some (Row.mk (c1) true)])) v2) fun v3 => bnd (S_name_Check [v3] ((h ++ [some (Row.mk (c1) true)]))) fun p4 => bnd (abin .eql p4.1 (.c (.i .i64 0))) fun v5 => bnd (gd v5 true (bnd (afAddr ((.c (.p h.length 0))) 1) fun v6 => some (v6, p4.2)) (some (.no, p4.2))) fun p7 => bnd (gd v5 true (bnd (aload1 p7.2 p7.1) fun v8 => some (v8, p7.2)) (some (.no, p7.2))) fun p9 => bnd (gd v5 true (bnd (abin .geq p9.1 (.c (.i .i64 1))) fun v10 => some (v10, p9.2)) (some (.no, p9.2))) fun p11 => bnd (apick v5 p11.1 (.c (.b false))) fun v12 => bnd (gd v12 true (bnd (afAddr ((.c (.p h.length 0))) 1) fun v13 => some (v13, p11.2)) (some (.no, p11.2))) fun p14 => bnd (gd v12 true (bnd (aload1 p14.2 p14.1) fun v15 => some (v15, p14.2)) (some (.no, p14.2))) fun p16 => bnd (gd v12 true (bnd (abin .leq p16.1 (.c (.i .i64 128))) fun v17 => some (v17, p16.2)) (some (.no, p16.2))) fun p18 => bnd (apick v12 p18.1 (.c (.b false))) fun v19 => some (v19, p18.2) := by kernel_rfl
theorem K_bucket_may : FnK Try.prog 194 A_bucket_may E_bucket_may R_bucket_may := .mk' (sound1 S_name_Check_ok sound0) Try.func194 (by kernel_rfl) (by intro n args h; kernel_rfl)
noncomputable def S_bucket_may : Fun := tidy (Lim A_bucket_may E_bucket_may)
theorem S_bucket_may_ok : SOk Try.prog 194 S_bucket_may := K_bucket_may.sok
theorem S_bucket_may_flat {n : Nat} {args : List Val} {h h2 : Heap} {v : Val} (he : R_bucket_may n args (ro h) = some (v, h2)) (hf : v.flat = true) : S_bucket_may args h = some (v, h) := K_bucket_may.flat he hf
def bucket_first_o0 : List AOper := [{ dst := some 2, op := .mv (.v (.c (.i .i64 0))) }]
def bucket_first_c0 : ACode := .ops bucket_first_o0
def bucket_first_o1 : List AOper := [{ dst := some 3, op := .mv (.t 0) }, { dst := some 4, op := .bin .add (.t 3) (.v (.c (.i .i64 1))) }, { dst := some 5, op := .bin .mul (.v (.c (.i .i64 32))) (.t 4) }, { dst := some 2, op := .mv (.t 5) }]
def bucket_first_c1 : ACode := .ops bucket_first_o1
def bucket_first_c2 : ACode := .seq [2] bucket_first_c1 .ret
def bucket_first_c3 : ACode := .seq [0] bucket_first_c0 bucket_first_c2
def A_bucket_first : AFn := ⟨bucket_first_c3, [.tmp 2]⟩
noncomputable def E_bucket_first : Sums := disp0
noncomputable def bucket_first_c0_d (n : Nat) : SmV := smOps E_bucket_first bucket_first_o0
noncomputable def bucket_first_c1_d (n : Nat) : SmV := smOps E_bucket_first bucket_first_o1
noncomputable def bucket_first_c2_d (n : Nat) : SmV := smSeq [2] (bucket_first_c1_d n) smRet
noncomputable def bucket_first_c3_d (n : Nat) : SmV := smSeq [0] (bucket_first_c0_d n) (bucket_first_c2_d n)
noncomputable def R_bucket_first (n : Nat) (args : List Val) (h : Heap) : OptV := (bucket_first_c3_d n) A_bucket_first.fin (params 0 args) h
theorem R_bucket_first_eq (n : Nat) (a0 : Val) (h : Heap) : R_bucket_first n [a0] h = bnd (abin .add a0 (.c (.i .i64 1))) fun v1 => bnd (abin .mul (.c (.i .i64 32)) v1) fun v2 => some (v2, h) := by kernel_rfl
theorem K_bucket_first : FnK Try.prog 195 A_bucket_first E_bucket_first R_bucket_first := .mk' (sound0) Try.func195 (by kernel_rfl) (by intro n args h; kernel_rfl)
noncomputable def S_bucket_first : Fun := tidy (Lim A_bucket_first E_bucket_first)
theorem S_bucket_first_ok : SOk Try.prog 195 S_bucket_first := K_bucket_first.sok
theorem S_bucket_first_flat {n : Nat} {args : List Val} {h h2 : Heap} {v : Val} (he : R_bucket_first n args (ro h) = some (v, h2)) (hf : v.flat = true) : S_bucket_first args h = some (v, h) := K_bucket_first.flat he hf
def bucket_written_o0 : List AOper := [{ dst := some 1, op := .box (.t 0) }, { dst := some 2, op := .nilrow 1 }]
def bucket_written_c0 : ACode := .ops bucket_written_o0
def bucket_written_o1 : List AOper := [{ dst := some 6, op := .fAddr (.t 1) 1 }, { dst := some 7, op := .load1 (.t 6) }, { dst := some 8, op := .conv .u8 (.t 7) }, { dst := some 9, op := .fAddr (.t 1) 1 }, { dst := some 10, op := .load1 (.t 9) }, { dst := some 11, op := .bin .shr (.t 10) (.v (.c (.i .u64 8))) }, { dst := some 12, op := .conv .u8 (.t 11) }, { dst := some 13, op := .buildSl 1 2 ([.i .u8 0, .i .u8 0]) [(0, 1, (.t 8)), (1, 1, (.t 12))] }, { dst := some 3, op := .mv (.t 13) }]
def bucket_written_c1 : ACode := .ops bucket_written_o1
def bucket_written_o2 : List AOper := [{ dst := some 15, op := .fAddr (.t 1) 0 }, { dst := some 16, op := .load1 (.t 15) }, { dst := some 17, op := .call 46 [(.t 16)] }, { dst := some 14, op := .mv (.t 17) }, { dst := some 18, op := .ext (.t 14) 0 }, { dst := some 19, op := .ext (.t 14) 1 }, { dst := some 4, op := .alloc (List.replicate 25 (.i .u8 0)) }, { dst := none, op := .storeN 25 (.t 4) (.t 18) }, { dst := some 5, op := .mv (.t 19) }]
def bucket_written_c2 : ACode := .ops bucket_written_o2
def bucket_written_o3 : List AOper := [{ dst := some 20, op := .mv (.t 3) }, { dst := some 21, op := .slA 25 1 (.t 4) none none }, { dst := some 22, op := .app 1 (.t 20) (.t 21) }, { dst := some 3, op := .mv (.t 22) }]
def bucket_written_c3 : ACode := .ops bucket_written_o3
def bucket_written_o4 : List AOper := [{ dst := some 23, op := .mv (.t 3) }, { dst := some 24, op := .buildSl 1 5 ([.i .u8 0, .i .u8 0, .i .u8 0, .i .u8 0, .i .u8 0]) [(0, 1, (.v (.c (.i .u8 0)))), (1, 1, (.v (.c (.i .u8 0)))), (2, 1, (.v (.c (.i .u8 0)))), (3, 1, (.v (.c (.i .u8 0)))), (4, 1, (.v (.c (.i .u8 0))))] }, { dst := some 25, op := .app 1 (.t 23) (.t 24) }, { dst := some 2, op := .mv (.t 25) }]
def bucket_written_c4 : ACode := .ops bucket_written_o4
def bucket_written_c5 : ACode := .seq [2] bucket_written_c4 .ret
def bucket_written_c6 : ACode := .seq [3] bucket_written_c3 bucket_written_c5
def bucket_written_c7 : ACode := .seq [3, 4] bucket_written_c2 bucket_written_c6
def bucket_written_c8 : ACode := .seq [1, 3] bucket_written_c1 bucket_written_c7
def bucket_written_c9 : ACode := .seq [1] bucket_written_c0 bucket_written_c8
def A_bucket_written : AFn := ⟨bucket_written_c9, [.tmp 2]⟩
noncomputable def E_bucket_written : Sums := disp 46 S_name_Pack disp0
noncomputable def bucket_written_c0_d (n : Nat) : SmV := smOps E_bucket_written bucket_written_o0
noncomputable def bucket_written_c1_d (n : Nat) : SmV := smOps E_bucket_written bucket_written_o1
noncomputable def bucket_written_c2_d (n : Nat) : SmV := smOps E_bucket_written bucket_written_o2
noncomputable def bucket_written_c3_d (n : Nat) : SmV := smOps E_bucket_written bucket_written_o3
noncomputable def bucket_written_c4_d (n : Nat) : SmV := smOps E_bucket_written bucket_written_o4
noncomputable def bucket_written_c5_d (n : Nat) : SmV := smSeq [2] (bucket_written_c4_d n) smRet
noncomputable def bucket_written_c6_d (n : Nat) : SmV := smSeq [3] (bucket_written_c3_d n) (bucket_written_c5_d n)
noncomputable def bucket_written_c7_d (n : Nat) : SmV := smSeq [3, 4] (bucket_written_c2_d n) (bucket_written_c6_d n)
noncomputable def bucket_written_c8_d (n : Nat) : SmV := smSeq [1, 3] (bucket_written_c1_d n) (bucket_written_c7_d n)
noncomputable def bucket_written_c9_d (n : Nat) : SmV := smSeq [1] (bucket_written_c0_d n) (bucket_written_c8_d n)
noncomputable def R_bucket_written (n : Nat) (args : List Val) (h : Heap) : OptV := (bucket_written_c9_d n) A_bucket_written.fin (params 0 args) h
theorem R_bucket_written_eq (n : Nat) (a0 : Val) (h : Heap) : R_bucket_written n [a0] h = bnd (cells? a0) fun c1 => bnd (afAddr ((.c (.p h.length 0))) 1) fun v2 => bnd (aload1 (((h ++ [some (Row.mk (c1) true)]) ++ [some (Row.mk ([]) true)])) v2) fun v3 => bnd (aconv .u8 v3) fun v4 => bnd (afAddr ((.c (.p h.length 0))) 1) fun v5 => bnd (aload1 (((h ++ [some (Row.mk (c1) true)]) ++ [some (Row.mk ([]) true)])) v5) fun v6 => bnd (abin .shr v6 (.c (.i .u64 8))) fun v7 => bnd (aconv .u8 v7) fun v8 => bnd (afill ([.i .u8 0, .i .u8 0]) [(0, 1, v4), (1, 1, v8)]) fun c9 => bnd (afAddr ((.c (.p h.length 0))) 0) fun v10 => bnd (aload1 ((((h ++ [some (Row.mk (c1) true)]) ++ [some (Row.mk ([]) true)]) ++ [some (Row.mk (c9) true)])) v10) fun v11 => bnd (S_name_Pack [v11] ((((h ++ [some (Row.mk (c1) true)]) ++ [some (Row.mk ([]) true)]) ++ [some (Row.mk (c9) true)]))) fun p12 => bnd (aext p12.1 0) fun v13 => bnd (aext p12.1 1) fun v14 => bnd (astoreN ((p12.2 ++ [some (Row.mk (List.replicate 25 (.i .u8 0)) true)])) 25 ((.c (.p p12.2.length 0))) v13) fun h15 => bnd (aslA h15 25 1 ((.c (.p p12.2.length 0))) none none) fun v16 => bnd (aapp h15 1 ((.c (.sl (((h ++ [some (Row.mk (c1) true)]) ++ [some (Row.mk ([]) true)])).length 0 2 1))) v16) fun p17 => bnd (afill ([.i .u8 0, .i .u8 0, .i .u8 0, .i .u8 0, .i .u8 0]) [(0, 1, .c (.i .u8 0)), (1, 1, .c (.i .u8 0)), (2, 1, .c (.i .u8 0)), (3, 1, .c (.i .u8 0)), (4, 1, .c (.i .u8 0))]) fun c18 => bnd (aapp ((p17.2 ++ [some (Row.mk (c18) true)])) 1 p17.1 ((.c (.sl p17.2.length 0 5 1)))) fun p19 => some (p19.1, p19.2) := by kernel_rfl
theorem K_bucket_written : FnK Try.prog 196 A_bucket_written E_bucket_written R_bucket_written := .mk' (sound1 S_name_Pack_ok sound0) Try.func196 (by kernel_rfl) (by intro n args h; kernel_rfl)
noncomputable def S_bucket_written : Fun := tidy (Lim A_bucket_written E_bucket_written)
theorem S_bucket_written_ok : SOk Try.prog 196 S_bucket_written := K_bucket_written.sok
theorem S_bucket_written_low {n : Nat} {args : List Val} {h h2 : Heap} {v : Val} (he : R_bucket_written n args (ro h) = some (v, h2)) (hf : v.low h.length = true) : S_bucket_written args h = some (v, h) := K_bucket_written.low he hf
theorem S_bucket_written_out {n : Nat} {args : List Val} {h h2 : Heap} {v : Val} {sz k : Nat} {cs : List Cell} (he : R_bucket_written n args (ro h) = some (v, h2)) (ho : Out h.length h2 v sz k cs) (hf : flats cs = true) : S_bucket_written args h = some (.c (.sl h.length 0 k sz), h ++ [some ⟨cs, true⟩]) := K_bucket_written.out he ho hf
def bucket_read_o0 : List AOper := [{ dst := some 2, op := .box (.t 0) }, { dst := some 4, op := .alloc ([.s [], .i .i64 0]) }, { dst := some 5, op := .mv (.v (.c (.b false))) }]
def bucket_read_c0 : ACode := .ops bucket_read_o0
def bucket_read_o1 : List AOper := [{ dst := some 6, op := .alloc (List.replicate 25 (.i .u8 0)) }]
def bucket_read_c1 : ACode := .ops bucket_read_o1
def bucket_read_o2 : List AOper := [{ dst := some 11, op := .mv (.v (.c (.i .i64 0))) }]
def bucket_read_c2 : ACode := .ops bucket_read_o2
def bucket_read_o3 : List AOper := [{ dst := some 12, op := .bin .lss (.t 11) (.v (.c (.i .i64 25))) }]
def bucket_read_c3 : ACode := .ops bucket_read_o3
def bucket_read_c4 : ACode := .cond (.t 12) .skip (.exit 0)
def bucket_read_o4 : List AOper := [{ dst := some 13, op := .mv (.t 11) }, { dst := some 7, op := .mv (.t 13) }]
def bucket_read_c5 : ACode := .ops bucket_read_o4
def bucket_read_o5 : List AOper := [{ dst := some 14, op := .mv (.t 7) }, { dst := some 15, op := .mv (.t 1) }, { dst := some 16, op := .call 195 [(.t 15)] }, { dst := some 17, op := .bin .add (.t 16) (.v (.c (.i .i64 2))) }, { dst := some 18, op := .mv (.t 7) }, { dst := some 19, op := .bin .add (.t 17) (.t 18) }, { dst := some 20, op := .iAddrA 256 1 (.t 2) (.t 19) }, { dst := some 21, op := .load1 (.t 20) }, { dst := some 22, op := .iAddrA 25 1 (.t 6) (.t 14) }, { dst := none, op := .store1 (.t 22) (.t 21) }]
def bucket_read_c6 : ACode := .ops bucket_read_o5
def bucket_read_c7 : ACode := .seq [1, 2, 4, 6, 7, 11] bucket_read_c5 bucket_read_c6
def bucket_read_c8 : ACode := .block 1 bucket_read_c7
def bucket_read_o6 : List AOper := [{ dst := some 23, op := .bin .add (.t 11) (.v (.c (.i .i64 1))) }, { dst := some 11, op := .mv (.t 23) }]
def bucket_read_c9 : ACode := .ops bucket_read_o6
def bucket_read_c10 : ACode := .seq [1, 2, 4, 6, 11] bucket_read_c8 bucket_read_c9
def bucket_read_c11 : ACode := .seq [1, 2, 4, 6, 11] bucket_read_c4 bucket_read_c10
def bucket_read_c12 : ACode := .seq [1, 2, 4, 6, 11, 12] bucket_read_c3 bucket_read_c11
def bucket_read_c13 : ACode := .loop [1, 2, 4, 6, 11] bucket_read_c12
def bucket_read_c14 : ACode := .block 0 bucket_read_c13
def bucket_read_c15 : ACode := .seq [1, 2, 4, 6, 11] bucket_read_c2 bucket_read_c14
def bucket_read_o7 : List AOper := [{ dst := some 25, op := .loadN 25 (.t 6) }, { dst := some 26, op := .call 49 [(.t 25)] }, { dst := some 24, op := .mv (.t 26) }, { dst := some 27, op := .ext (.t 24) 0 }, { dst := some 28, op := .ext (.t 24) 1 }, { dst := some 8, op := .mv (.t 27) }, { dst := some 9, op := .mv (.t 28) }]
def bucket_read_c16 : ACode := .ops bucket_read_o7
def bucket_read_o8 : List AOper := [{ dst := some 29, op := .mv (.t 8) }, { dst := some 30, op := .loadN 256 (.t 2) }, { dst := some 31, op := .mv (.t 1) }, { dst := some 32, op := .call 195 [(.t 31)] }, { dst := some 33, op := .call 59 [(.t 30), (.t 32), (.v (.c (.i .i64 2)))] }, { dst := some 34, op := .build ([.s [], .i .i64 0]) [(0, 1, (.t 29)), (1, 1, (.t 33))] }, { dst := some 10, op := .alloc ([.s [], .i .i64 0]), slot := some 0 }]
def bucket_read_o9 : List AOper := [{ dst := none, op := .storeN 2 (.t 10) (.t 34) }]
def bucket_read_c17 : ACode := .draw 1 bucket_read_o8 bucket_read_o9
def bucket_read_o10 : List AOper := [{ dst := some 35, op := .mv (.t 9) }, { dst := some 36, op := .bin .neq (.t 35) (.v (.c (.i .i64 0))) }, { dst := some 37, op := .mv (.t 36) }, { dst := some 38, op := .loadN 2 (.t 10), guard := some (37, false) }, { dst := some 39, op := .call 194 [(.t 38)], guard := some (37, false) }, { dst := some 40, op := .un .not (.t 39), guard := some (37, false) }, { dst := some 41, op := .pick (.t 37) (.v (.c (.b true))) (.t 40) }, { dst := some 42, op := .mv (.t 41) }, { dst := some 43, op := .loadN 2 (.t 10), guard := some (42, false) }, { dst := some 44, op := .call 196 [(.t 43)], guard := some (42, false) }, { dst := some 45, op := .b2sN none (.t 44), guard := some (42, false) }, { dst := some 46, op := .loadN 256 (.t 2), guard := some (42, false) }, { dst := some 47, op := .mv (.t 1), guard := some (42, false) }, { dst := some 48, op := .call 195 [(.t 47)], guard := some (42, false) }, { dst := some 49, op := .call 66 [(.t 46), (.t 48), (.v (.c (.i .i64 32)))], guard := some (42, false) }, { dst := some 50, op := .b2sN none (.t 49), guard := some (42, false) }]
def bucket_read_o11 : List AOper := [{ dst := some 51, op := .bin .neq (.t 45) (.t 50), guard := some (42, false) }, { dst := some 52, op := .pick (.t 42) (.v (.c (.b true))) (.t 51) }]
def bucket_read_c18 : ACode := .draw 0 bucket_read_o10 bucket_read_o11
def bucket_read_o12 : List AOper := [{ dst := some 53, op := .build ([.s [], .i .i64 0]) [] }, { dst := none, op := .storeN 2 (.t 4) (.t 53) }, { dst := some 5, op := .mv (.v (.c (.b false))) }]
def bucket_read_c19 : ACode := .ops bucket_read_o12
def bucket_read_c20 : ACode := .seq [4, 5] bucket_read_c19 .ret
def bucket_read_c21 : ACode := .cond (.t 52) bucket_read_c20 .skip
def bucket_read_c22 : ACode := .seq [4, 10, 52] bucket_read_c18 bucket_read_c21
def bucket_read_o13 : List AOper := [{ dst := some 54, op := .loadN 2 (.t 10) }, { dst := none, op := .storeN 2 (.t 4) (.t 54) }, { dst := some 5, op := .mv (.v (.c (.b true))) }]
def bucket_read_c23 : ACode := .ops bucket_read_o13
def bucket_read_c24 : ACode := .seq [4, 5] bucket_read_c23 .ret
def bucket_read_c25 : ACode := .seq [4, 10] bucket_read_c22 bucket_read_c24
def bucket_read_c26 : ACode := .seq [1, 2, 4, 9, 10] bucket_read_c17 bucket_read_c25
def bucket_read_c27 : ACode := .seq [1, 2, 4, 8, 9] bucket_read_c16 bucket_read_c26
def bucket_read_c28 : ACode := .seq [1, 2, 4, 6] bucket_read_c15 bucket_read_c27
def bucket_read_c29 : ACode := .seq [1, 2, 4, 6] bucket_read_c1 bucket_read_c28
def bucket_read_c30 : ACode := .seq [1, 2, 4] bucket_read_c0 bucket_read_c29
def A_bucket_read : AFn := ⟨bucket_read_c30, [.cellN 4 2, .tmp 5]⟩
noncomputable def E_bucket_read : Sums := disp 195 S_bucket_first (disp 49 S_name_Unpack (disp 59 S_num_At (disp 194 S_bucket_may (disp 196 S_bucket_written (disp 66 S_num_Cut disp0)))))
noncomputable def bucket_read_c0_d (n : Nat) : SmV := smOps E_bucket_read bucket_read_o0
noncomputable def bucket_read_c1_d (n : Nat) : SmV := smOps E_bucket_read bucket_read_o1
noncomputable def bucket_read_c2_d (n : Nat) : SmV := smOps E_bucket_read bucket_read_o2
noncomputable def bucket_read_c3_d (n : Nat) : SmV := smOps E_bucket_read bucket_read_o3
noncomputable def bucket_read_c4_d (n : Nat) : SmV := smCond (.t 12) smSkip (smExit 0)
noncomputable def bucket_read_c5_d (n : Nat) : SmV := smOps E_bucket_read bucket_read_o4
noncomputable def bucket_read_c6_d (n : Nat) : SmV := smOps E_bucket_read bucket_read_o5
noncomputable def bucket_read_c7_d (n : Nat) : SmV := smSeq [1, 2, 4, 6, 7, 11] (bucket_read_c5_d n) (bucket_read_c6_d n)
noncomputable def bucket_read_c8_d (n : Nat) : SmV := smBlock 1 (bucket_read_c7_d n)
noncomputable def bucket_read_c9_d (n : Nat) : SmV := smOps E_bucket_read bucket_read_o6
noncomputable def bucket_read_c10_d (n : Nat) : SmV := smSeq [1, 2, 4, 6, 11] (bucket_read_c8_d n) (bucket_read_c9_d n)
noncomputable def bucket_read_c11_d (n : Nat) : SmV := smSeq [1, 2, 4, 6, 11] (bucket_read_c4_d n) (bucket_read_c10_d n)
noncomputable def bucket_read_c12_d (n : Nat) : SmV := smSeq [1, 2, 4, 6, 11, 12] (bucket_read_c3_d n) (bucket_read_c11_d n)
noncomputable def bucket_read_c13_d (n : Nat) : SmV := smLoop n [1, 2, 4, 6, 11] (bucket_read_c12_d n)
noncomputable def bucket_read_c14_d (n : Nat) : SmV := smBlock 0 (bucket_read_c13_d n)
noncomputable def bucket_read_c15_d (n : Nat) : SmV := smSeq [1, 2, 4, 6, 11] (bucket_read_c2_d n) (bucket_read_c14_d n)
noncomputable def bucket_read_c16_d (n : Nat) : SmV := smOps E_bucket_read bucket_read_o7
noncomputable def bucket_read_c17_d (n : Nat) : SmV := smDraw E_bucket_read 1 bucket_read_o8 bucket_read_o9
noncomputable def bucket_read_c18_d (n : Nat) : SmV := smDraw E_bucket_read 0 bucket_read_o10 bucket_read_o11
noncomputable def bucket_read_c19_d (n : Nat) : SmV := smOps E_bucket_read bucket_read_o12
noncomputable def bucket_read_c20_d (n : Nat) : SmV := smSeq [4, 5] (bucket_read_c19_d n) smRet
noncomputable def bucket_read_c21_d (n : Nat) : SmV := smCond (.t 52) (bucket_read_c20_d n) smSkip
noncomputable def bucket_read_c22_d (n : Nat) : SmV := smSeq [4, 10, 52] (bucket_read_c18_d n) (bucket_read_c21_d n)
noncomputable def bucket_read_c23_d (n : Nat) : SmV := smOps E_bucket_read bucket_read_o13
noncomputable def bucket_read_c24_d (n : Nat) : SmV := smSeq [4, 5] (bucket_read_c23_d n) smRet
noncomputable def bucket_read_c25_d (n : Nat) : SmV := smSeq [4, 10] (bucket_read_c22_d n) (bucket_read_c24_d n)
noncomputable def bucket_read_c26_d (n : Nat) : SmV := smSeq [1, 2, 4, 9, 10] (bucket_read_c17_d n) (bucket_read_c25_d n)
noncomputable def bucket_read_c27_d (n : Nat) : SmV := smSeq [1, 2, 4, 8, 9] (bucket_read_c16_d n) (bucket_read_c26_d n)
noncomputable def bucket_read_c28_d (n : Nat) : SmV := smSeq [1, 2, 4, 6] (bucket_read_c15_d n) (bucket_read_c27_d n)
noncomputable def bucket_read_c29_d (n : Nat) : SmV := smSeq [1, 2, 4, 6] (bucket_read_c1_d n) (bucket_read_c28_d n)
noncomputable def bucket_read_c30_d (n : Nat) : SmV := smSeq [1, 2, 4] (bucket_read_c0_d n) (bucket_read_c29_d n)
noncomputable def bucket_read_k0 (n : Nat) : AExit → Env → Heap → OptV := fun x e h => match x with | .normal => hold ((bucket_read_c27_d n) A_bucket_read.fin (e.keep [1, 2, 4, 6]) h) | .exit id => A_bucket_read.fin (.exit id) e h | .ret => A_bucket_read.fin .ret e h
noncomputable def bucket_read_k1 (n : Nat) : AExit → Env → Heap → OptV := fun x e h => match x with | .exit i => bif Nat.beq i 0 then (bucket_read_k0 n) .normal e h else (bucket_read_k0 n) (.exit i) e h | .normal => (bucket_read_k0 n) .normal e h | .ret => (bucket_read_k0 n) .ret e h
noncomputable def bucket_read_l0 (n m : Nat) (x1 x2 x4 x6 x11 : Val) (h : Heap) : OptV := around (bucket_read_c12_d n) [1, 2, 4, 6, 11] (bucket_read_k1 n) m [(1, x1), (2, x2), (4, x4), (6, x6), (11, x11)] h
noncomputable def R_bucket_read (n : Nat) (args : List Val) (h : Heap) : OptV := (bucket_read_c30_d n) A_bucket_read.fin (params 0 args) h
theorem R_bucket_read_eq (n : Nat) (a0 a1 : Val) (h : Heap) : R_bucket_read n [a0, a1] h = bnd (cells? a0) fun c1 => bucket_read_l0 n n a1 ((.c (.p h.length 0))) ((.c (.p ((h ++ [some (Row.mk (c1) true)])).length 0))) ((.c (.p (((h ++ [some (Row.mk (c1) true)]) ++ [some (Row.mk ([.s [], .i .i64 0]) true)])).length 0))) (.c (.i .i64 0)) ((((h ++ [some (Row.mk (c1) true)]) ++ [some (Row.mk ([.s [], .i .i64 0]) true)]) ++ [some (Row.mk (List.replicate 25 (.i .u8 0)) true)])) := by kernel_rfl
theorem bucket_read_l0_eq (n m : Nat) (x1 x2 x4 x6 x11 : Val) (h : Heap) : bucket_read_l0 n (m + 1) x1 x2 x4 x6 x11 h = bnd (abin .lss x11 (.c (.i .i64 25))) fun v2 => cnd v2 (bnd (S_bucket_first [x1] h) fun p3 => bnd (abin .add p3.1 (.c (.i .i64 2))) fun v4 => bnd (abin .add v4 x11) fun v5 => bnd (aiAddrA 256 1 x2 v5) fun v6 => bnd (aload1 p3.2 v6) fun v7 => bnd (aiAddrA 25 1 x6 x11) fun v8 => bnd (astore1 p3.2 v8 v7) fun h9 => bnd (abin .add x11 (.c (.i .i64 1))) fun v10 => bucket_read_l0 n m x1 x2 x4 x6 v10 h9) (bnd (aloadN h 25 x6) fun v11 => bnd (S_name_Unpack [v11] h) fun p12 => bnd (aext p12.1 0) fun v13 => bnd (aext p12.1 1) fun v14 => bnd (aloadN p12.2 256 x2) fun v15 => bnd (quiet ((p12.2 ++ [none])) (S_bucket_first [x1] ((p12.2 ++ [none])))) fun p16 => bnd (quiet p16.2 (S_num_At [v15, p16.1, .c (.i .i64 2)] p16.2)) fun p17 => bnd (afill ([.s [], .i .i64 0]) [(0, 1, v13), (1, 1, p17.1)]) fun c18 => bnd (astoreN ((p17.2.set (p12.2.length + 0) (some (Row.mk ([.s [], .i .i64 0]) true)))) 2 ((.c (.p (p12.2.length + 0) 0))) ((.a c18))) fun h19 => bnd (abin .neq v14 (.c (.i .i64 0))) fun v20 => bnd (gd v20 false (bnd (aloadN h19 2 ((.c (.p (p12.2.length + 0) 0)))) fun v21 => some (v21, (h19 ++ []))) (some (.no, (h19 ++ [])))) fun p22 => bnd (gd v20 false (bnd (quiet p22.2 (S_bucket_may [p22.1] p22.2)) fun p23 => some (p23.1, p23.2)) (some (.no, p22.2))) fun p24 => bnd (gd v20 false (bnd (aun .not p24.1) fun v25 => some (v25, p24.2)) (some (.no, p24.2))) fun p26 => bnd (apick v20 (.c (.b true)) p26.1) fun v27 => bnd (gd v27 false (bnd (aloadN h19 2 ((.c (.p (p12.2.length + 0) 0)))) fun v28 => some (v28, p26.2)) (some (.no, p26.2))) fun p29 => bnd (gd v27 false (bnd (quiet p29.2 (S_bucket_written [p29.1] p29.2)) fun p30 => some (p30.1, p30.2)) (some (.no, p29.2))) fun p31 => bnd (gd v27 false (bnd (ab2s p31.2 p31.1) fun v32 => some (v32, p31.2)) (some (.no, p31.2))) fun p33 => bnd (gd v27 false (bnd (aloadN h19 256 x2) fun v34 => some (v34, p33.2)) (some (.no, p33.2))) fun p35 => bnd (gd v27 false (some (x1, p35.2)) (some (.no, p35.2))) fun p36 => bnd (gd v27 false (bnd (quiet p36.2 (S_bucket_first [p36.1] p36.2)) fun p37 => some (p37.1, p37.2)) (some (.no, p36.2))) fun p38 => bnd (gd v27 false (bnd (quiet p38.2 (S_num_Cut [p35.1, p38.1, .c (.i .i64 32)] p38.2)) fun p39 => some (p39.1, p39.2)) (some (.no, p38.2))) fun p40 => bnd (gd v27 false (bnd (ab2s p40.2 p40.1) fun v41 => some (v41, p40.2)) (some (.no, p40.2))) fun p42 => bnd (gd v27 false (bnd (abin .neq p33.1 p42.1) fun v43 => some (v43, p42.2)) (some (.no, p42.2))) fun p44 => bnd (apick v27 (.c (.b true)) p44.1) fun v45 => cnd v45 (bnd (afill ([.s [], .i .i64 0]) []) fun c46 => bnd (astoreN p44.2 2 x4 ((.a c46))) fun h47 => tupN [aloadN h47 2 x4, some (.c (.b false))] h47) (bnd (aloadN p44.2 2 ((.c (.p (p12.2.length + 0) 0)))) fun v48 => bnd (astoreN p44.2 2 x4 v48) fun h49 => tupN [aloadN h49 2 x4, some (.c (.b true))] h49)) := by kernel_rfl
theorem K_bucket_read : FnK Try.prog 208 A_bucket_read E_bucket_read R_bucket_read := .mk' (sound1 S_bucket_first_ok (sound1 S_name_Unpack_ok (sound1 S_num_At_ok (sound1 S_bucket_may_ok (sound1 S_bucket_written_ok (sound1 S_num_Cut_ok sound0)))))) Try.func208 (by kernel_rfl) (by intro n args h; kernel_rfl)
noncomputable def S_bucket_read : Fun := tidy (Lim A_bucket_read E_bucket_read)
theorem S_bucket_read_ok : SOk Try.prog 208 S_bucket_read := K_bucket_read.sok
theorem S_bucket_read_flat {n : Nat} {args : List Val} {h h2 : Heap} {v : Val} (he : R_bucket_read n args (ro h) = some (v, h2)) (hf : v.flat = true) : S_bucket_read args h = some (v, h) := K_bucket_read.flat he hf
def bucket_Find_1_o0 : List AOper := [{ dst := some 4, op := .box (.t 0) }, { dst := some 5, op := .mv (.v (.c (.b false))) }]
def bucket_Find_1_c0 : ACode := .ops bucket_Find_1_o0
def bucket_Find_1_o1 : List AOper := [{ dst := some 6, op := .fAddr (.t 4) 1 }, { dst := some 7, op := .fAddr (.t 6) 0 }, { dst := some 8, op := .load1 (.t 7) }, { dst := some 9, op := .load1 (.t 1) }, { dst := some 10, op := .bin .eql (.t 8) (.t 9) }]
def bucket_Find_1_c1 : ACode := .ops bucket_Find_1_o1
def bucket_Find_1_o2 : List AOper := [{ dst := some 11, op := .loadN 3 (.t 4) }, { dst := none, op := .storeN 3 (.t 2) (.t 11) }, { dst := none, op := .store1 (.t 3) (.v (.c (.b true))) }]
def bucket_Find_1_c2 : ACode := .ops bucket_Find_1_o2
def bucket_Find_1_c3 : ACode := .cond (.t 10) bucket_Find_1_c2 .skip
def bucket_Find_1_c4 : ACode := .seq [2, 3, 4, 10] bucket_Find_1_c1 bucket_Find_1_c3
def bucket_Find_1_o3 : List AOper := [{ dst := some 12, op := .load1 (.t 3) }, { dst := some 13, op := .un .not (.t 12) }, { dst := some 5, op := .mv (.t 13) }]
def bucket_Find_1_c5 : ACode := .ops bucket_Find_1_o3
def bucket_Find_1_c6 : ACode := .seq [5] bucket_Find_1_c5 .ret
def bucket_Find_1_c7 : ACode := .seq [3] bucket_Find_1_c4 bucket_Find_1_c6
def bucket_Find_1_c8 : ACode := .seq [1, 2, 3, 4] bucket_Find_1_c0 bucket_Find_1_c7
def A_bucket_Find_1 : AFn := ⟨bucket_Find_1_c8, [.tmp 5]⟩
noncomputable def E_bucket_Find_1 : Sums := disp0
noncomputable def bucket_Find_1_c0_d (n : Nat) : SmV := smOps E_bucket_Find_1 bucket_Find_1_o0
noncomputable def bucket_Find_1_c1_d (n : Nat) : SmV := smOps E_bucket_Find_1 bucket_Find_1_o1
noncomputable def bucket_Find_1_c2_d (n : Nat) : SmV := smOps E_bucket_Find_1 bucket_Find_1_o2
noncomputable def bucket_Find_1_c3_d (n : Nat) : SmV := smCond (.t 10) (bucket_Find_1_c2_d n) smSkip
noncomputable def bucket_Find_1_c4_d (n : Nat) : SmV := smSeq [2, 3, 4, 10] (bucket_Find_1_c1_d n) (bucket_Find_1_c3_d n)
noncomputable def bucket_Find_1_c5_d (n : Nat) : SmV := smOps E_bucket_Find_1 bucket_Find_1_o3
noncomputable def bucket_Find_1_c6_d (n : Nat) : SmV := smSeq [5] (bucket_Find_1_c5_d n) smRet
noncomputable def bucket_Find_1_c7_d (n : Nat) : SmV := smSeq [3] (bucket_Find_1_c4_d n) (bucket_Find_1_c6_d n)
noncomputable def bucket_Find_1_c8_d (n : Nat) : SmV := smSeq [1, 2, 3, 4] (bucket_Find_1_c0_d n) (bucket_Find_1_c7_d n)
noncomputable def bucket_Find_1_j0 (n : Nat) (x3 : Val) (h : Heap) : OptV := hold ((bucket_Find_1_c6_d n) A_bucket_Find_1.fin [(3, x3)] h)
noncomputable def R_bucket_Find_1 (n : Nat) (args : List Val) (h : Heap) : OptV := (bucket_Find_1_c8_d n) A_bucket_Find_1.fin (params 0 args) h
theorem R_bucket_Find_1_eq (n : Nat) (a0 a1 a2 a3 : Val) (h : Heap) : R_bucket_Find_1 n [a0, a1, a2, a3] h = bnd (cells? a0) fun c1 => bnd (afAddr ((.c (.p h.length 0))) 1) fun v2 => bnd (afAddr v2 0) fun v3 => bnd (aload1 ((h ++ [some (Row.mk (c1) true)])) v3) fun v4 => bnd (aload1 ((h ++ [some (Row.mk (c1) true)])) a1) fun v5 => bnd (abin .eql v4 v5) fun v6 => cnd v6 (bnd (aloadN ((h ++ [some (Row.mk (c1) true)])) 3 ((.c (.p h.length 0)))) fun v7 => bnd (astoreN ((h ++ [some (Row.mk (c1) true)])) 3 a2 v7) fun h8 => bnd (astore1 h8 a3 (.c (.b true))) fun h9 => bucket_Find_1_j0 n a3 h9) (bucket_Find_1_j0 n a3 ((h ++ [some (Row.mk (c1) true)]))) := by kernel_rfl
theorem bucket_Find_1_j0_eq (n : Nat) (x3 : Val) (h : Heap) : bucket_Find_1_j0 n x3 h = bnd (aload1 h x3) fun v10 => bnd (aun .not v10) fun v11 => some (v11, h) := by kernel_rfl
theorem K_bucket_Find_1 : FnK Try.prog 200 A_bucket_Find_1 E_bucket_Find_1 R_bucket_Find_1 := .mk' (sound0) Try.func200 (by kernel_rfl) (by intro n args h; kernel_rfl)
noncomputable def S_bucket_Find_1 : Fun := Lim A_bucket_Find_1 E_bucket_Find_1
theorem S_bucket_Find_1_ok : SOk Try.prog 200 S_bucket_Find_1 := K_bucket_Find_1.ok
theorem S_bucket_Find_1_of {n : Nat} {args : List Val} {h : Heap} {p : Val × Heap} (he : R_bucket_Find_1 n args h = some p) : S_bucket_Find_1 args h = some p := K_bucket_Find_1.of he
def bucket_each__Find_1_o0 : List AOper := [{ dst := some 2, op := .box (.t 0) }]
def bucket_each__Find_1_c0 : ACode := .ops bucket_each__Find_1_o0
def bucket_each__Find_1_o1 : List AOper := [{ dst := some 7, op := .mv (.v (.c (.i .i64 0))) }]
def bucket_each__Find_1_c1 : ACode := .ops bucket_each__Find_1_o1
def bucket_each__Find_1_o2 : List AOper := [{ dst := some 8, op := .bin .lss (.t 7) (.v (.c (.i .i64 7))) }]
def bucket_each__Find_1_c2 : ACode := .ops bucket_each__Find_1_o2
def bucket_each__Find_1_c3 : ACode := .cond (.t 8) .skip (.exit 0)
def bucket_each__Find_1_o3 : List AOper := [{ dst := some 9, op := .mv (.t 7) }, { dst := some 4, op := .mv (.t 9) }]
def bucket_each__Find_1_c4 : ACode := .ops bucket_each__Find_1_o3
def bucket_each__Find_1_o4 : List AOper := [{ dst := some 11, op := .loadN 256 (.t 2) }, { dst := some 12, op := .mv (.t 4) }, { dst := some 13, op := .call 208 [(.t 11), (.t 12)] }, { dst := some 10, op := .mv (.t 13) }, { dst := some 14, op := .ext (.t 10) 0 }, { dst := some 15, op := .ext (.t 10) 1 }, { dst := some 5, op := .alloc ([.s [], .i .i64 0]) }, { dst := none, op := .storeN 2 (.t 5) (.t 14) }, { dst := some 6, op := .mv (.t 15) }]
def bucket_each__Find_1_c5 : ACode := .ops bucket_each__Find_1_o4
def bucket_each__Find_1_o5 : List AOper := [{ dst := some 16, op := .mv (.t 6) }, { dst := some 17, op := .mv (.t 16) }, { dst := some 18, op := .mv (.t 1), guard := some (17, true) }, { dst := some 19, op := .mv (.t 4), guard := some (17, true) }, { dst := some 20, op := .loadN 2 (.t 5), guard := some (17, true) }, { dst := some 21, op := .build ([.i .i64 0, .s [], .i .i64 0]) [(0, 1, (.t 19)), (1, 2, (.t 20))], guard := some (17, true) }, { dst := some 22, op := .callV (.t 18) [(.t 21)], guard := some (17, true) }, { dst := some 23, op := .un .not (.t 22), guard := some (17, true) }, { dst := some 24, op := .pick (.t 17) (.t 23) (.v (.c (.b false))) }]
def bucket_each__Find_1_c6 : ACode := .ops bucket_each__Find_1_o5
def bucket_each__Find_1_c7 : ACode := .cond (.t 24) .ret .skip
def bucket_each__Find_1_c8 : ACode := .seq [1, 2, 7, 24] bucket_each__Find_1_c6 bucket_each__Find_1_c7
def bucket_each__Find_1_c9 : ACode := .seq [1, 2, 4, 5, 6, 7] bucket_each__Find_1_c5 bucket_each__Find_1_c8
def bucket_each__Find_1_c10 : ACode := .seq [1, 2, 4, 7] bucket_each__Find_1_c4 bucket_each__Find_1_c9
def bucket_each__Find_1_c11 : ACode := .block 1 bucket_each__Find_1_c10
def bucket_each__Find_1_o6 : List AOper := [{ dst := some 25, op := .bin .add (.t 7) (.v (.c (.i .i64 1))) }, { dst := some 7, op := .mv (.t 25) }]
def bucket_each__Find_1_c12 : ACode := .ops bucket_each__Find_1_o6
def bucket_each__Find_1_c13 : ACode := .seq [1, 2, 7] bucket_each__Find_1_c11 bucket_each__Find_1_c12
def bucket_each__Find_1_c14 : ACode := .seq [1, 2, 7] bucket_each__Find_1_c3 bucket_each__Find_1_c13
def bucket_each__Find_1_c15 : ACode := .seq [1, 2, 7, 8] bucket_each__Find_1_c2 bucket_each__Find_1_c14
def bucket_each__Find_1_c16 : ACode := .loop [1, 2, 7] bucket_each__Find_1_c15
def bucket_each__Find_1_c17 : ACode := .block 0 bucket_each__Find_1_c16
def bucket_each__Find_1_c18 : ACode := .seq [1, 2, 7] bucket_each__Find_1_c1 bucket_each__Find_1_c17
def bucket_each__Find_1_c19 : ACode := .seq [1, 2] bucket_each__Find_1_c0 bucket_each__Find_1_c18
def A_bucket_each__Find_1 : AFn := ⟨bucket_each__Find_1_c19, []⟩
noncomputable def E_bucket_each__Find_1 : Sums := disp 208 S_bucket_read (disp 200 S_bucket_Find_1 disp0)
noncomputable def bucket_each__Find_1_c0_d (n : Nat) : SmV := smOps E_bucket_each__Find_1 bucket_each__Find_1_o0
noncomputable def bucket_each__Find_1_c1_d (n : Nat) : SmV := smOps E_bucket_each__Find_1 bucket_each__Find_1_o1
noncomputable def bucket_each__Find_1_c2_d (n : Nat) : SmV := smOps E_bucket_each__Find_1 bucket_each__Find_1_o2
noncomputable def bucket_each__Find_1_c3_d (n : Nat) : SmV := smCond (.t 8) smSkip (smExit 0)
noncomputable def bucket_each__Find_1_c4_d (n : Nat) : SmV := smOps E_bucket_each__Find_1 bucket_each__Find_1_o3
noncomputable def bucket_each__Find_1_c5_d (n : Nat) : SmV := smOps E_bucket_each__Find_1 bucket_each__Find_1_o4
noncomputable def bucket_each__Find_1_c6_d (n : Nat) : SmV := smOps E_bucket_each__Find_1 bucket_each__Find_1_o5
noncomputable def bucket_each__Find_1_c7_d (n : Nat) : SmV := smCond (.t 24) smRet smSkip
noncomputable def bucket_each__Find_1_c8_d (n : Nat) : SmV := smSeq [1, 2, 7, 24] (bucket_each__Find_1_c6_d n) (bucket_each__Find_1_c7_d n)
noncomputable def bucket_each__Find_1_c9_d (n : Nat) : SmV := smSeq [1, 2, 4, 5, 6, 7] (bucket_each__Find_1_c5_d n) (bucket_each__Find_1_c8_d n)
noncomputable def bucket_each__Find_1_c10_d (n : Nat) : SmV := smSeq [1, 2, 4, 7] (bucket_each__Find_1_c4_d n) (bucket_each__Find_1_c9_d n)
noncomputable def bucket_each__Find_1_c11_d (n : Nat) : SmV := smBlock 1 (bucket_each__Find_1_c10_d n)
noncomputable def bucket_each__Find_1_c12_d (n : Nat) : SmV := smOps E_bucket_each__Find_1 bucket_each__Find_1_o6
noncomputable def bucket_each__Find_1_c13_d (n : Nat) : SmV := smSeq [1, 2, 7] (bucket_each__Find_1_c11_d n) (bucket_each__Find_1_c12_d n)
noncomputable def bucket_each__Find_1_c14_d (n : Nat) : SmV := smSeq [1, 2, 7] (bucket_each__Find_1_c3_d n) (bucket_each__Find_1_c13_d n)
noncomputable def bucket_each__Find_1_c15_d (n : Nat) : SmV := smSeq [1, 2, 7, 8] (bucket_each__Find_1_c2_d n) (bucket_each__Find_1_c14_d n)
noncomputable def bucket_each__Find_1_c16_d (n : Nat) : SmV := smLoop n [1, 2, 7] (bucket_each__Find_1_c15_d n)
noncomputable def bucket_each__Find_1_c17_d (n : Nat) : SmV := smBlock 0 (bucket_each__Find_1_c16_d n)
noncomputable def bucket_each__Find_1_c18_d (n : Nat) : SmV := smSeq [1, 2, 7] (bucket_each__Find_1_c1_d n) (bucket_each__Find_1_c17_d n)
noncomputable def bucket_each__Find_1_c19_d (n : Nat) : SmV := smSeq [1, 2] (bucket_each__Find_1_c0_d n) (bucket_each__Find_1_c18_d n)
noncomputable def bucket_each__Find_1_k0 (n : Nat) : AExit → Env → Heap → OptV := fun x e h => match x with | .exit i => bif Nat.beq i 0 then A_bucket_each__Find_1.fin .normal e h else A_bucket_each__Find_1.fin (.exit i) e h | .normal => A_bucket_each__Find_1.fin .normal e h | .ret => A_bucket_each__Find_1.fin .ret e h
noncomputable def bucket_each__Find_1_l0 (n m : Nat) (x1 x2 x7 : Val) (h : Heap) : OptV := around (bucket_each__Find_1_c15_d n) [1, 2, 7] (bucket_each__Find_1_k0 n) m [(1, x1), (2, x2), (7, x7)] h
noncomputable def R_bucket_each__Find_1 (n : Nat) (args : List Val) (h : Heap) : OptV := (bucket_each__Find_1_c19_d n) A_bucket_each__Find_1.fin (params 0 args) h
theorem R_bucket_each__Find_1_eq (n : Nat) (a0 a1 : Val) (h : Heap) : R_bucket_each__Find_1 n [a0, a1] h = bnd (cells? a0) fun c1 => bucket_each__Find_1_l0 n n a1 ((.c (.p h.length 0))) (.c (.i .i64 0)) ((h ++ [some (Row.mk (c1) true)])) := by kernel_rfl
theorem bucket_each__Find_1_l0_eq (n m : Nat) (x1 x2 x7 : Val) (h : Heap) : bucket_each__Find_1_l0 n (m + 1) x1 x2 x7 h = bnd (abin .lss x7 (.c (.i .i64 7))) fun v2 => cnd v2 (bnd (aloadN h 256 x2) fun v3 => bnd (S_bucket_read [v3, x7] h) fun p4 => bnd (aext p4.1 0) fun v5 => bnd (aext p4.1 1) fun v6 => bnd (astoreN ((p4.2 ++ [some (Row.mk ([.s [], .i .i64 0]) true)])) 2 ((.c (.p p4.2.length 0))) v5) fun h7 => bnd (gd v6 true (some (x1, h7)) (some (.no, h7))) fun p8 => bnd (gd v6 true (some (x7, p8.2)) (some (.no, p8.2))) fun p9 => bnd (gd v6 true (bnd (aloadN p9.2 2 ((.c (.p p4.2.length 0)))) fun v10 => some (v10, p9.2)) (some (.no, p9.2))) fun p11 => bnd (gd v6 true (bnd (afill ([.i .i64 0, .s [], .i .i64 0]) [(0, 1, p9.1), (1, 2, p11.1)]) fun c12 => some ((.a c12), p11.2)) (some (.no, p11.2))) fun p13 => bnd (gd v6 true (bnd (callv E_bucket_each__Find_1 p8.1 [p13.1] p13.2) fun p14 => some (p14.1, p14.2)) (some (.no, p13.2))) fun p15 => bnd (gd v6 true (bnd (aun .not p15.1) fun v16 => some (v16, p15.2)) (some (.no, p15.2))) fun p17 => bnd (apick v6 p17.1 (.c (.b false))) fun v18 => cnd v18 (tupN [] p17.2) (bnd (abin .add x7 (.c (.i .i64 1))) fun v19 => bucket_each__Find_1_l0 n m x1 x2 v19 p17.2)) (tupN [] h) := by kernel_rfl
theorem K_bucket_each__Find_1 : FnK Try.prog 198 A_bucket_each__Find_1 E_bucket_each__Find_1 R_bucket_each__Find_1 := .mk' (sound1 S_bucket_read_ok (sound1 S_bucket_Find_1_ok sound0)) Try.func198 (by kernel_rfl) (by intro n args h; kernel_rfl)
noncomputable def S_bucket_each__Find_1 : Fun := Lim A_bucket_each__Find_1 E_bucket_each__Find_1
theorem S_bucket_each__Find_1_ok : SOk Try.prog 198 S_bucket_each__Find_1 := K_bucket_each__Find_1.ok
theorem S_bucket_each__Find_1_of {n : Nat} {args : List Val} {h : Heap} {p : Val × Heap} (he : R_bucket_each__Find_1 n args h = some p) : S_bucket_each__Find_1 args h = some p := K_bucket_each__Find_1.of he
def bucket_Find_o0 : List AOper := [{ dst := some 2, op := .box (.t 0) }, { dst := some 3, op := .box (.t 1) }, { dst := some 4, op := .alloc ([.i .i64 0, .s [], .i .i64 0]) }, { dst := some 5, op := .mv (.v (.c (.b false))) }]
def bucket_Find_c0 : ACode := .ops bucket_Find_o0
def bucket_Find_o1 : List AOper := [{ dst := some 6, op := .alloc ([.i .i64 0, .s [], .i .i64 0]) }]
def bucket_Find_c1 : ACode := .ops bucket_Find_o1
def bucket_Find_o2 : List AOper := [{ dst := some 7, op := .alloc ([.b false]) }, { dst := none, op := .store1 (.t 7) (.v (.c (.b false))) }]
def bucket_Find_c2 : ACode := .ops bucket_Find_o2
def bucket_Find_o3 : List AOper := [{ dst := some 8, op := .loadN 256 (.t 2) }, { dst := some 9, op := .mkf 200 [(.t 3), (.t 6), (.t 7)] }, { dst := some 10, op := .call 198 [(.t 8), (.t 9)] }]
def bucket_Find_c3 : ACode := .ops bucket_Find_o3
def bucket_Find_o4 : List AOper := [{ dst := some 11, op := .loadN 3 (.t 6) }, { dst := some 12, op := .load1 (.t 7) }]
def bucket_Find_o5 : List AOper := [{ dst := some 5, op := .mv (.t 12) }]
def bucket_Find_c4 : ACode := .drawS 0 bucket_Find_o4 { dst := none, op := .storeN 3 (.t 4) (.t 11) } [(12, .load1 (.t 7))] bucket_Find_o5
def bucket_Find_c5 : ACode := .seq [4, 5] bucket_Find_c4 .ret
def bucket_Find_c6 : ACode := .seq [4, 6, 7] bucket_Find_c3 bucket_Find_c5
def bucket_Find_c7 : ACode := .seq [2, 3, 4, 6, 7] bucket_Find_c2 bucket_Find_c6
def bucket_Find_c8 : ACode := .seq [2, 3, 4, 6] bucket_Find_c1 bucket_Find_c7
def bucket_Find_c9 : ACode := .seq [2, 3, 4] bucket_Find_c0 bucket_Find_c8
def A_bucket_Find : AFn := ⟨bucket_Find_c9, [.cellN 4 3, .tmp 5]⟩
noncomputable def E_bucket_Find : Sums := disp 198 S_bucket_each__Find_1 disp0
noncomputable def bucket_Find_c0_d (n : Nat) : SmV := smOps E_bucket_Find bucket_Find_o0
noncomputable def bucket_Find_c1_d (n : Nat) : SmV := smOps E_bucket_Find bucket_Find_o1
noncomputable def bucket_Find_c2_d (n : Nat) : SmV := smOps E_bucket_Find bucket_Find_o2
noncomputable def bucket_Find_c3_d (n : Nat) : SmV := smOps E_bucket_Find bucket_Find_o3
noncomputable def bucket_Find_c4_d (n : Nat) : SmV := smDrawS E_bucket_Find 0 bucket_Find_o4 { dst := none, op := .storeN 3 (.t 4) (.t 11) } [(12, .load1 (.t 7))] bucket_Find_o5
noncomputable def bucket_Find_c5_d (n : Nat) : SmV := smSeq [4, 5] (bucket_Find_c4_d n) smRet
noncomputable def bucket_Find_c6_d (n : Nat) : SmV := smSeq [4, 6, 7] (bucket_Find_c3_d n) (bucket_Find_c5_d n)
noncomputable def bucket_Find_c7_d (n : Nat) : SmV := smSeq [2, 3, 4, 6, 7] (bucket_Find_c2_d n) (bucket_Find_c6_d n)
noncomputable def bucket_Find_c8_d (n : Nat) : SmV := smSeq [2, 3, 4, 6] (bucket_Find_c1_d n) (bucket_Find_c7_d n)
noncomputable def bucket_Find_c9_d (n : Nat) : SmV := smSeq [2, 3, 4] (bucket_Find_c0_d n) (bucket_Find_c8_d n)
noncomputable def R_bucket_Find (n : Nat) (args : List Val) (h : Heap) : OptV := (bucket_Find_c9_d n) A_bucket_Find.fin (params 0 args) h
theorem R_bucket_Find_eq (n : Nat) (a0 a1 : Val) (h : Heap) : R_bucket_Find n [a0, a1] h = bnd (cells? a0) fun c1 => bnd (cells? a1) fun c2 => bnd (astore1 ((((((h ++ [some (Row.mk (c1) true)]) ++ [some (Row.mk (c2) true)]) ++ [some (Row.mk ([.i .i64 0, .s [], .i .i64 0]) true)]) ++ [some (Row.mk ([.i .i64 0, .s [], .i .i64 0]) true)]) ++ [some (Row.mk ([.b false]) true)])) ((.c (.p (((((h ++ [some (Row.mk (c1) true)]) ++ [some (Row.mk (c2) true)]) ++ [some (Row.mk ([.i .i64 0, .s [], .i .i64 0]) true)]) ++ [some (Row.mk ([.i .i64 0, .s [], .i .i64 0]) true)])).length 0))) (.c (.b false))) fun h3 => bnd (aloadN h3 256 ((.c (.p h.length 0)))) fun v4 => bnd (amkf 200 [(.c (.p ((h ++ [some (Row.mk (c1) true)])).length 0)), (.c (.p ((((h ++ [some (Row.mk (c1) true)]) ++ [some (Row.mk (c2) true)]) ++ [some (Row.mk ([.i .i64 0, .s [], .i .i64 0]) true)])).length 0)), (.c (.p (((((h ++ [some (Row.mk (c1) true)]) ++ [some (Row.mk (c2) true)]) ++ [some (Row.mk ([.i .i64 0, .s [], .i .i64 0]) true)]) ++ [some (Row.mk ([.i .i64 0, .s [], .i .i64 0]) true)])).length 0))]) fun v5 => bnd (S_bucket_each__Find_1 [v4, v5] h3) fun p6 => bnd (aloadN p6.2 3 ((.c (.p ((((h ++ [some (Row.mk (c1) true)]) ++ [some (Row.mk (c2) true)]) ++ [some (Row.mk ([.i .i64 0, .s [], .i .i64 0]) true)])).length 0)))) fun v7 => bnd (aload1 p6.2 ((.c (.p (((((h ++ [some (Row.mk (c1) true)]) ++ [some (Row.mk (c2) true)]) ++ [some (Row.mk ([.i .i64 0, .s [], .i .i64 0]) true)]) ++ [some (Row.mk ([.i .i64 0, .s [], .i .i64 0]) true)])).length 0)))) fun v8 => bnd (astoreN ((p6.2 ++ [])) 3 ((.c (.p (((h ++ [some (Row.mk (c1) true)]) ++ [some (Row.mk (c2) true)])).length 0))) v7) fun h9 => agn (aload1 h9 ((.c (.p (((((h ++ [some (Row.mk (c1) true)]) ++ [some (Row.mk (c2) true)]) ++ [some (Row.mk ([.i .i64 0, .s [], .i .i64 0]) true)]) ++ [some (Row.mk ([.i .i64 0, .s [], .i .i64 0]) true)])).length 0)))) v8 <| tupN [aloadN h9 3 ((.c (.p (((h ++ [some (Row.mk (c1) true)]) ++ [some (Row.mk (c2) true)])).length 0))), some v8] h9 := by kernel_rfl
theorem K_bucket_Find : FnK Try.prog 156 A_bucket_Find E_bucket_Find R_bucket_Find := .mk' (sound1 S_bucket_each__Find_1_ok sound0) Try.func156 (by kernel_rfl) (by intro n args h; kernel_rfl)
noncomputable def S_bucket_Find : Fun := tidy (Lim A_bucket_Find E_bucket_Find)
theorem S_bucket_Find_ok : SOk Try.prog 156 S_bucket_Find := K_bucket_Find.sok
theorem S_bucket_Find_flat {n : Nat} {args : List Val} {h h2 : Heap} {v : Val} (he : R_bucket_Find n args (ro h) = some (v, h2)) (hf : v.flat = true) : S_bucket_Find args h = some (v, h) := K_bucket_Find.flat he hf
def bucket_New_o0 : List AOper := [{ dst := some 2, op := .alloc (List.replicate 256 (.i .u8 0)) }, { dst := some 3, op := .mv (.v (.c (.i .i64 0))) }]
def bucket_New_c0 : ACode := .ops bucket_New_o0
def bucket_New_o1 : List AOper := [{ dst := some 11, op := .mv (.t 0) }, { dst := some 12, op := .len (.t 11) }, { dst := some 13, op := .bin .gtr (.t 12) (.v (.c (.i .i64 7))) }]
def bucket_New_c1 : ACode := .ops bucket_New_o1
def bucket_New_o2 : List AOper := [{ dst := some 14, op := .build (List.replicate 256 (.i .u8 0)) [] }, { dst := none, op := .storeN 256 (.t 2) (.t 14) }, { dst := some 3, op := .mv (.v (.c (.i .i64 11))) }]
def bucket_New_c2 : ACode := .ops bucket_New_o2
def bucket_New_c3 : ACode := .seq [2, 3] bucket_New_c2 .ret
def bucket_New_c4 : ACode := .cond (.t 13) bucket_New_c3 .skip
def bucket_New_c5 : ACode := .seq [0, 2, 13] bucket_New_c1 bucket_New_c4
def bucket_New_o3 : List AOper := [{ dst := some 15, op := .call 193 [] }, { dst := some 4, op := .alloc (List.replicate 256 (.i .u8 0)) }, { dst := none, op := .storeN 256 (.t 4) (.t 15) }]
def bucket_New_c6 : ACode := .ops bucket_New_o3
def bucket_New_o4 : List AOper := [{ dst := some 16, op := .mv (.t 0) }, { dst := some 17, op := .len (.t 16) }, { dst := some 18, op := .mv (.v (.c (.i .i64 0))) }]
def bucket_New_c7 : ACode := .ops bucket_New_o4
def bucket_New_o5 : List AOper := [{ dst := some 19, op := .bin .lss (.t 18) (.t 17) }]
def bucket_New_c8 : ACode := .ops bucket_New_o5
def bucket_New_c9 : ACode := .cond (.t 19) .skip (.exit 0)
def bucket_New_o6 : List AOper := [{ dst := some 20, op := .mv (.t 18) }, { dst := some 21, op := .iAddrL 2 (.t 16) (.t 18) }, { dst := some 22, op := .loadN 2 (.t 21) }, { dst := some 6, op := .alloc ([.s [], .i .i64 0]) }, { dst := some 5, op := .mv (.t 20) }, { dst := none, op := .storeN 2 (.t 6) (.t 22) }]
def bucket_New_c10 : ACode := .ops bucket_New_o6
def bucket_New_o7 : List AOper := [{ dst := some 23, op := .loadN 2 (.t 6) }, { dst := some 24, op := .call 194 [(.t 23)] }, { dst := some 25, op := .un .not (.t 24) }]
def bucket_New_c11 : ACode := .ops bucket_New_o7
def bucket_New_o8 : List AOper := [{ dst := some 26, op := .build (List.replicate 256 (.i .u8 0)) [] }, { dst := none, op := .storeN 256 (.t 2) (.t 26) }, { dst := some 3, op := .mv (.v (.c (.i .i64 1))) }]
def bucket_New_c12 : ACode := .ops bucket_New_o8
def bucket_New_c13 : ACode := .seq [2, 3] bucket_New_c12 .ret
def bucket_New_c14 : ACode := .cond (.t 25) bucket_New_c13 .skip
def bucket_New_c15 : ACode := .seq [0, 2, 4, 5, 6, 16, 17, 18, 25] bucket_New_c11 bucket_New_c14
def bucket_New_o9 : List AOper := [{ dst := some 27, op := .loadN 256 (.t 4) }, { dst := some 28, op := .mv (.t 5) }, { dst := some 29, op := .call 195 [(.t 28)] }, { dst := some 30, op := .loadN 2 (.t 6) }, { dst := some 31, op := .call 196 [(.t 30)] }]
def bucket_New_o10 : List AOper := [{ dst := some 32, op := .call 65 [(.t 27), (.t 29), (.t 31)] }, { dst := none, op := .storeN 256 (.t 4) (.t 32) }]
def bucket_New_c16 : ACode := .draw 0 bucket_New_o9 bucket_New_o10
def bucket_New_c17 : ACode := .seq [0, 2, 4, 5, 6, 16, 17, 18] bucket_New_c15 bucket_New_c16
def bucket_New_c18 : ACode := .seq [0, 2, 4, 5, 6, 16, 17, 18] bucket_New_c10 bucket_New_c17
def bucket_New_c19 : ACode := .block 1 bucket_New_c18
def bucket_New_o11 : List AOper := [{ dst := some 33, op := .bin .add (.t 18) (.v (.c (.i .i64 1))) }, { dst := some 18, op := .mv (.t 33) }]
def bucket_New_c20 : ACode := .ops bucket_New_o11
def bucket_New_c21 : ACode := .seq [0, 2, 4, 16, 17, 18] bucket_New_c19 bucket_New_c20
def bucket_New_c22 : ACode := .seq [0, 2, 4, 16, 17, 18] bucket_New_c9 bucket_New_c21
def bucket_New_c23 : ACode := .seq [0, 2, 4, 16, 17, 18, 19] bucket_New_c8 bucket_New_c22
def bucket_New_c24 : ACode := .loop [0, 2, 4, 16, 17, 18] bucket_New_c23
def bucket_New_c25 : ACode := .block 0 bucket_New_c24
def bucket_New_c26 : ACode := .seq [0, 2, 4, 16, 17, 18] bucket_New_c7 bucket_New_c25
def bucket_New_o12 : List AOper := [{ dst := some 34, op := .mv (.t 0) }, { dst := some 35, op := .len (.t 34) }, { dst := some 36, op := .mv (.v (.c (.i .i64 0))) }]
def bucket_New_c27 : ACode := .ops bucket_New_o12
def bucket_New_o13 : List AOper := [{ dst := some 37, op := .bin .lss (.t 36) (.t 35) }]
def bucket_New_c28 : ACode := .ops bucket_New_o13
def bucket_New_c29 : ACode := .cond (.t 37) .skip (.exit 2)
def bucket_New_o14 : List AOper := [{ dst := some 38, op := .mv (.t 36) }, { dst := some 39, op := .iAddrL 2 (.t 34) (.t 36) }, { dst := some 40, op := .loadN 2 (.t 39) }, { dst := some 8, op := .alloc ([.s [], .i .i64 0]) }, { dst := some 7, op := .mv (.t 38) }, { dst := none, op := .storeN 2 (.t 8) (.t 40) }]
def bucket_New_c30 : ACode := .ops bucket_New_o14
def bucket_New_o15 : List AOper := [{ dst := some 42, op := .loadN 256 (.t 4) }, { dst := some 43, op := .fAddr (.t 8) 0 }, { dst := some 44, op := .load1 (.t 43) }, { dst := some 45, op := .call 156 [(.t 42), (.t 44)] }, { dst := some 41, op := .mv (.t 45) }, { dst := some 46, op := .ext (.t 41) 0 }, { dst := some 47, op := .ext (.t 41) 1 }, { dst := some 9, op := .alloc ([.i .i64 0, .s [], .i .i64 0]) }, { dst := none, op := .storeN 3 (.t 9) (.t 46) }, { dst := some 10, op := .mv (.t 47) }]
def bucket_New_c31 : ACode := .ops bucket_New_o15
def bucket_New_o16 : List AOper := [{ dst := some 48, op := .fAddr (.t 9) 0 }, { dst := some 49, op := .load1 (.t 48) }, { dst := some 50, op := .mv (.t 7) }, { dst := some 51, op := .bin .neq (.t 49) (.t 50) }]
def bucket_New_c32 : ACode := .ops bucket_New_o16
def bucket_New_o17 : List AOper := [{ dst := some 52, op := .build (List.replicate 256 (.i .u8 0)) [] }, { dst := none, op := .storeN 256 (.t 2) (.t 52) }, { dst := some 3, op := .mv (.v (.c (.i .i64 5))) }]
def bucket_New_c33 : ACode := .ops bucket_New_o17
def bucket_New_c34 : ACode := .seq [2, 3] bucket_New_c33 .ret
def bucket_New_c35 : ACode := .cond (.t 51) bucket_New_c34 .skip
def bucket_New_c36 : ACode := .seq [2, 4, 34, 35, 36, 51] bucket_New_c32 bucket_New_c35
def bucket_New_c37 : ACode := .seq [2, 4, 7, 9, 34, 35, 36] bucket_New_c31 bucket_New_c36
def bucket_New_c38 : ACode := .seq [2, 4, 7, 8, 34, 35, 36] bucket_New_c30 bucket_New_c37
def bucket_New_c39 : ACode := .block 3 bucket_New_c38
def bucket_New_o18 : List AOper := [{ dst := some 53, op := .bin .add (.t 36) (.v (.c (.i .i64 1))) }, { dst := some 36, op := .mv (.t 53) }]
def bucket_New_c40 : ACode := .ops bucket_New_o18
def bucket_New_c41 : ACode := .seq [2, 4, 34, 35, 36] bucket_New_c39 bucket_New_c40
def bucket_New_c42 : ACode := .seq [2, 4, 34, 35, 36] bucket_New_c29 bucket_New_c41
def bucket_New_c43 : ACode := .seq [2, 4, 34, 35, 36, 37] bucket_New_c28 bucket_New_c42
def bucket_New_c44 : ACode := .loop [2, 4, 34, 35, 36] bucket_New_c43
def bucket_New_c45 : ACode := .block 2 bucket_New_c44
def bucket_New_c46 : ACode := .seq [2, 4, 34, 35, 36] bucket_New_c27 bucket_New_c45
def bucket_New_o19 : List AOper := [{ dst := some 54, op := .loadN 256 (.t 4) }, { dst := none, op := .storeN 256 (.t 2) (.t 54) }, { dst := some 3, op := .mv (.v (.c (.i .i64 0))) }]
def bucket_New_c47 : ACode := .ops bucket_New_o19
def bucket_New_c48 : ACode := .seq [2, 3] bucket_New_c47 .ret
def bucket_New_c49 : ACode := .seq [2, 4] bucket_New_c46 bucket_New_c48
def bucket_New_c50 : ACode := .seq [0, 2, 4] bucket_New_c26 bucket_New_c49
def bucket_New_c51 : ACode := .seq [0, 2, 4] bucket_New_c6 bucket_New_c50
def bucket_New_c52 : ACode := .seq [0, 2] bucket_New_c5 bucket_New_c51
def bucket_New_c53 : ACode := .seq [0, 2] bucket_New_c0 bucket_New_c52
def A_bucket_New : AFn := ⟨bucket_New_c53, [.cellN 2 256, .tmp 3]⟩
noncomputable def E_bucket_New : Sums := disp 193 S_bucket_head (disp 194 S_bucket_may (disp 195 S_bucket_first (disp 196 S_bucket_written (disp 65 S_num_Lay (disp 156 S_bucket_Find disp0)))))
noncomputable def bucket_New_c0_d (n : Nat) : SmV := smOps E_bucket_New bucket_New_o0
noncomputable def bucket_New_c1_d (n : Nat) : SmV := smOps E_bucket_New bucket_New_o1
noncomputable def bucket_New_c2_d (n : Nat) : SmV := smOps E_bucket_New bucket_New_o2
noncomputable def bucket_New_c3_d (n : Nat) : SmV := smSeq [2, 3] (bucket_New_c2_d n) smRet
noncomputable def bucket_New_c4_d (n : Nat) : SmV := smCond (.t 13) (bucket_New_c3_d n) smSkip
noncomputable def bucket_New_c5_d (n : Nat) : SmV := smSeq [0, 2, 13] (bucket_New_c1_d n) (bucket_New_c4_d n)
noncomputable def bucket_New_c6_d (n : Nat) : SmV := smOps E_bucket_New bucket_New_o3
noncomputable def bucket_New_c7_d (n : Nat) : SmV := smOps E_bucket_New bucket_New_o4
noncomputable def bucket_New_c8_d (n : Nat) : SmV := smOps E_bucket_New bucket_New_o5
noncomputable def bucket_New_c9_d (n : Nat) : SmV := smCond (.t 19) smSkip (smExit 0)
noncomputable def bucket_New_c10_d (n : Nat) : SmV := smOps E_bucket_New bucket_New_o6
noncomputable def bucket_New_c11_d (n : Nat) : SmV := smOps E_bucket_New bucket_New_o7
noncomputable def bucket_New_c12_d (n : Nat) : SmV := smOps E_bucket_New bucket_New_o8
noncomputable def bucket_New_c13_d (n : Nat) : SmV := smSeq [2, 3] (bucket_New_c12_d n) smRet
noncomputable def bucket_New_c14_d (n : Nat) : SmV := smCond (.t 25) (bucket_New_c13_d n) smSkip
noncomputable def bucket_New_c15_d (n : Nat) : SmV := smSeq [0, 2, 4, 5, 6, 16, 17, 18, 25] (bucket_New_c11_d n) (bucket_New_c14_d n)
noncomputable def bucket_New_c16_d (n : Nat) : SmV := smDraw E_bucket_New 0 bucket_New_o9 bucket_New_o10
noncomputable def bucket_New_c17_d (n : Nat) : SmV := smSeq [0, 2, 4, 5, 6, 16, 17, 18] (bucket_New_c15_d n) (bucket_New_c16_d n)
noncomputable def bucket_New_c18_d (n : Nat) : SmV := smSeq [0, 2, 4, 5, 6, 16, 17, 18] (bucket_New_c10_d n) (bucket_New_c17_d n)
noncomputable def bucket_New_c19_d (n : Nat) : SmV := smBlock 1 (bucket_New_c18_d n)
noncomputable def bucket_New_c20_d (n : Nat) : SmV := smOps E_bucket_New bucket_New_o11
noncomputable def bucket_New_c21_d (n : Nat) : SmV := smSeq [0, 2, 4, 16, 17, 18] (bucket_New_c19_d n) (bucket_New_c20_d n)
noncomputable def bucket_New_c22_d (n : Nat) : SmV := smSeq [0, 2, 4, 16, 17, 18] (bucket_New_c9_d n) (bucket_New_c21_d n)
noncomputable def bucket_New_c23_d (n : Nat) : SmV := smSeq [0, 2, 4, 16, 17, 18, 19] (bucket_New_c8_d n) (bucket_New_c22_d n)
noncomputable def bucket_New_c24_d (n : Nat) : SmV := smLoop n [0, 2, 4, 16, 17, 18] (bucket_New_c23_d n)
noncomputable def bucket_New_c25_d (n : Nat) : SmV := smBlock 0 (bucket_New_c24_d n)
noncomputable def bucket_New_c26_d (n : Nat) : SmV := smSeq [0, 2, 4, 16, 17, 18] (bucket_New_c7_d n) (bucket_New_c25_d n)
noncomputable def bucket_New_c27_d (n : Nat) : SmV := smOps E_bucket_New bucket_New_o12
noncomputable def bucket_New_c28_d (n : Nat) : SmV := smOps E_bucket_New bucket_New_o13
noncomputable def bucket_New_c29_d (n : Nat) : SmV := smCond (.t 37) smSkip (smExit 2)
noncomputable def bucket_New_c30_d (n : Nat) : SmV := smOps E_bucket_New bucket_New_o14
noncomputable def bucket_New_c31_d (n : Nat) : SmV := smOps E_bucket_New bucket_New_o15
noncomputable def bucket_New_c32_d (n : Nat) : SmV := smOps E_bucket_New bucket_New_o16
noncomputable def bucket_New_c33_d (n : Nat) : SmV := smOps E_bucket_New bucket_New_o17
noncomputable def bucket_New_c34_d (n : Nat) : SmV := smSeq [2, 3] (bucket_New_c33_d n) smRet
noncomputable def bucket_New_c35_d (n : Nat) : SmV := smCond (.t 51) (bucket_New_c34_d n) smSkip
noncomputable def bucket_New_c36_d (n : Nat) : SmV := smSeq [2, 4, 34, 35, 36, 51] (bucket_New_c32_d n) (bucket_New_c35_d n)
noncomputable def bucket_New_c37_d (n : Nat) : SmV := smSeq [2, 4, 7, 9, 34, 35, 36] (bucket_New_c31_d n) (bucket_New_c36_d n)
noncomputable def bucket_New_c38_d (n : Nat) : SmV := smSeq [2, 4, 7, 8, 34, 35, 36] (bucket_New_c30_d n) (bucket_New_c37_d n)
noncomputable def bucket_New_c39_d (n : Nat) : SmV := smBlock 3 (bucket_New_c38_d n)
noncomputable def bucket_New_c40_d (n : Nat) : SmV := smOps E_bucket_New bucket_New_o18
noncomputable def bucket_New_c41_d (n : Nat) : SmV := smSeq [2, 4, 34, 35, 36] (bucket_New_c39_d n) (bucket_New_c40_d n)
noncomputable def bucket_New_c42_d (n : Nat) : SmV := smSeq [2, 4, 34, 35, 36] (bucket_New_c29_d n) (bucket_New_c41_d n)
noncomputable def bucket_New_c43_d (n : Nat) : SmV := smSeq [2, 4, 34, 35, 36, 37] (bucket_New_c28_d n) (bucket_New_c42_d n)
noncomputable def bucket_New_c44_d (n : Nat) : SmV := smLoop n [2, 4, 34, 35, 36] (bucket_New_c43_d n)
noncomputable def bucket_New_c45_d (n : Nat) : SmV := smBlock 2 (bucket_New_c44_d n)
noncomputable def bucket_New_c46_d (n : Nat) : SmV := smSeq [2, 4, 34, 35, 36] (bucket_New_c27_d n) (bucket_New_c45_d n)
noncomputable def bucket_New_c47_d (n : Nat) : SmV := smOps E_bucket_New bucket_New_o19
noncomputable def bucket_New_c48_d (n : Nat) : SmV := smSeq [2, 3] (bucket_New_c47_d n) smRet
noncomputable def bucket_New_c49_d (n : Nat) : SmV := smSeq [2, 4] (bucket_New_c46_d n) (bucket_New_c48_d n)
noncomputable def bucket_New_c50_d (n : Nat) : SmV := smSeq [0, 2, 4] (bucket_New_c26_d n) (bucket_New_c49_d n)
noncomputable def bucket_New_c51_d (n : Nat) : SmV := smSeq [0, 2, 4] (bucket_New_c6_d n) (bucket_New_c50_d n)
noncomputable def bucket_New_c52_d (n : Nat) : SmV := smSeq [0, 2] (bucket_New_c5_d n) (bucket_New_c51_d n)
noncomputable def bucket_New_c53_d (n : Nat) : SmV := smSeq [0, 2] (bucket_New_c0_d n) (bucket_New_c52_d n)
noncomputable def bucket_New_k0 (n : Nat) : AExit → Env → Heap → OptV := fun x e h => match x with | .normal => hold ((bucket_New_c49_d n) A_bucket_New.fin (e.keep [0, 2, 4]) h) | .exit id => A_bucket_New.fin (.exit id) e h | .ret => A_bucket_New.fin .ret e h
noncomputable def bucket_New_k1 (n : Nat) : AExit → Env → Heap → OptV := fun x e h => match x with | .exit i => bif Nat.beq i 0 then (bucket_New_k0 n) .normal e h else (bucket_New_k0 n) (.exit i) e h | .normal => (bucket_New_k0 n) .normal e h | .ret => (bucket_New_k0 n) .ret e h
noncomputable def bucket_New_l0 (n m : Nat) (x0 x2 x4 x16 x17 x18 : Val) (h : Heap) : OptV := around (bucket_New_c23_d n) [0, 2, 4, 16, 17, 18] (bucket_New_k1 n) m [(0, x0), (2, x2), (4, x4), (16, x16), (17, x17), (18, x18)] h
noncomputable def R_bucket_New (n : Nat) (args : List Val) (h : Heap) : OptV := (bucket_New_c53_d n) A_bucket_New.fin (params 0 args) h
noncomputable def bucket_New_k2 (n : Nat) : AExit → Env → Heap → OptV := fun x e h => match x with | .normal => hold ((bucket_New_c48_d n) A_bucket_New.fin (e.keep [2, 4]) h) | .exit id => A_bucket_New.fin (.exit id) e h | .ret => A_bucket_New.fin .ret e h
noncomputable def bucket_New_k3 (n : Nat) : AExit → Env → Heap → OptV := fun x e h => match x with | .exit i => bif Nat.beq i 2 then (bucket_New_k2 n) .normal e h else (bucket_New_k2 n) (.exit i) e h | .normal => (bucket_New_k2 n) .normal e h | .ret => (bucket_New_k2 n) .ret e h
noncomputable def bucket_New_l1 (n m : Nat) (x2 x4 x34 x35 x36 : Val) (h : Heap) : OptV := around (bucket_New_c43_d n) [2, 4, 34, 35, 36] (bucket_New_k3 n) m [(2, x2), (4, x4), (34, x34), (35, x35), (36, x36)] h
theorem R_bucket_New_eq (n : Nat) (a0 : Val) (h : Heap) : R_bucket_New n [a0] h = bnd (alen a0) fun v1 => bnd (abin .gtr v1 (.c (.i .i64 7))) fun v2 => cnd v2 (bnd (afill (List.replicate 256 (.i .u8 0)) []) fun c3 => bnd (astoreN ((h ++ [some (Row.mk (List.replicate 256 (.i .u8 0)) true)])) 256 ((.c (.p h.length 0))) ((.a c3))) fun h4 => tupN [aloadN h4 256 ((.c (.p h.length 0))), some (.c (.i .i64 11))] h4) (bnd (S_bucket_head [] ((h ++ [some (Row.mk (List.replicate 256 (.i .u8 0)) true)]))) fun p5 => bnd (astoreN ((p5.2 ++ [some (Row.mk (List.replicate 256 (.i .u8 0)) true)])) 256 ((.c (.p p5.2.length 0))) p5.1) fun h6 => bnd (alen a0) fun v7 => bucket_New_l0 n n a0 ((.c (.p h.length 0))) ((.c (.p p5.2.length 0))) a0 v7 (.c (.i .i64 0)) h6) := by kernel_rfl
theorem bucket_New_l0_eq (n m : Nat) (x0 x2 x4 x16 x17 x18 : Val) (h : Heap) : bucket_New_l0 n (m + 1) x0 x2 x4 x16 x17 x18 h = bnd (abin .lss x18 x17) fun v8 => cnd v8 (bnd (aiAddrL 2 x16 x18) fun v9 => bnd (aloadN h 2 v9) fun v10 => bnd (astoreN ((h ++ [some (Row.mk ([.s [], .i .i64 0]) true)])) 2 ((.c (.p h.length 0))) v10) fun h11 => bnd (aloadN h11 2 ((.c (.p h.length 0)))) fun v12 => bnd (S_bucket_may [v12] h11) fun p13 => bnd (aun .not p13.1) fun v14 => cnd v14 (bnd (afill (List.replicate 256 (.i .u8 0)) []) fun c15 => bnd (astoreN p13.2 256 x2 ((.a c15))) fun h16 => tupN [aloadN h16 256 x2, some (.c (.i .i64 1))] h16) (bnd (aloadN p13.2 256 x4) fun v17 => bnd (quiet ((p13.2 ++ [])) (S_bucket_first [x18] ((p13.2 ++ [])))) fun p18 => bnd (aloadN p13.2 2 ((.c (.p h.length 0)))) fun v19 => bnd (quiet p18.2 (S_bucket_written [v19] p18.2)) fun p20 => bnd (S_num_Lay [v17, p18.1, p20.1] p20.2) fun p21 => bnd (astoreN p21.2 256 x4 p21.1) fun h22 => bnd (abin .add x18 (.c (.i .i64 1))) fun v23 => bucket_New_l0 n m x0 x2 x4 x16 x17 v23 h22)) (bnd (alen x0) fun v24 => bucket_New_l1 n n x2 x4 x0 v24 (.c (.i .i64 0)) h) := by kernel_rfl
theorem bucket_New_l1_eq (n m : Nat) (x2 x4 x34 x35 x36 : Val) (h : Heap) : bucket_New_l1 n (m + 1) x2 x4 x34 x35 x36 h = bnd (abin .lss x36 x35) fun v25 => cnd v25 (bnd (aiAddrL 2 x34 x36) fun v26 => bnd (aloadN h 2 v26) fun v27 => bnd (astoreN ((h ++ [some (Row.mk ([.s [], .i .i64 0]) true)])) 2 ((.c (.p h.length 0))) v27) fun h28 => bnd (aloadN h28 256 x4) fun v29 => bnd (afAddr ((.c (.p h.length 0))) 0) fun v30 => bnd (aload1 h28 v30) fun v31 => bnd (S_bucket_Find [v29, v31] h28) fun p32 => bnd (aext p32.1 0) fun v33 => bnd (aext p32.1 1) fun v34 => bnd (astoreN ((p32.2 ++ [some (Row.mk ([.i .i64 0, .s [], .i .i64 0]) true)])) 3 ((.c (.p p32.2.length 0))) v33) fun h35 => bnd (afAddr ((.c (.p p32.2.length 0))) 0) fun v36 => bnd (aload1 h35 v36) fun v37 => bnd (abin .neq v37 x36) fun v38 => cnd v38 (bnd (afill (List.replicate 256 (.i .u8 0)) []) fun c39 => bnd (astoreN h35 256 x2 ((.a c39))) fun h40 => tupN [aloadN h40 256 x2, some (.c (.i .i64 5))] h40) (bnd (abin .add x36 (.c (.i .i64 1))) fun v41 => bucket_New_l1 n m x2 x4 x34 x35 v41 h35)) (bnd (aloadN h 256 x4) fun v42 => bnd (astoreN h 256 x2 v42) fun h43 => tupN [aloadN h43 256 x2, some (.c (.i .i64 0))] h43) := by kernel_rfl
theorem K_bucket_New : FnK Try.prog 151 A_bucket_New E_bucket_New R_bucket_New := .mk' (sound1 S_bucket_head_ok (sound1 S_bucket_may_ok (sound1 S_bucket_first_ok (sound1 S_bucket_written_ok (sound1 S_num_Lay_ok (sound1 S_bucket_Find_ok sound0)))))) Try.func151 (by kernel_rfl) (by intro n args h; kernel_rfl)
noncomputable def S_bucket_New : Fun := tidy (Lim A_bucket_New E_bucket_New)
theorem S_bucket_New_ok : SOk Try.prog 151 S_bucket_New := K_bucket_New.sok
theorem S_bucket_New_flat {n : Nat} {args : List Val} {h h2 : Heap} {v : Val} (he : R_bucket_New n args (ro h) = some (v, h2)) (hf : v.flat = true) : S_bucket_New args h = some (v, h) := K_bucket_New.flat he hf
def bucket_List_1_o0 : List AOper := [{ dst := some 2, op := .box (.t 0) }, { dst := some 3, op := .mv (.v (.c (.b false))) }]
def bucket_List_1_c0 : ACode := .ops bucket_List_1_o0
def bucket_List_1_o1 : List AOper := [{ dst := some 4, op := .load1 (.t 1) }, { dst := some 5, op := .loadN 3 (.t 2) }, { dst := some 6, op := .buildSl 3 1 (([.i .i64 0, .s [], .i .i64 0])) [(0, 3, (.t 5))] }, { dst := some 7, op := .app 3 (.t 4) (.t 6) }, { dst := none, op := .store1 (.t 1) (.t 7) }]
def bucket_List_1_c1 : ACode := .ops bucket_List_1_o1
def bucket_List_1_o2 : List AOper := [{ dst := some 3, op := .mv (.v (.c (.b true))) }]
def bucket_List_1_c2 : ACode := .ops bucket_List_1_o2
def bucket_List_1_c3 : ACode := .seq [3] bucket_List_1_c2 .ret
def bucket_List_1_c4 : ACode := .seq [] bucket_List_1_c1 bucket_List_1_c3
def bucket_List_1_c5 : ACode := .seq [1, 2] bucket_List_1_c0 bucket_List_1_c4
def A_bucket_List_1 : AFn := ⟨bucket_List_1_c5, [.tmp 3]⟩
noncomputable def E_bucket_List_1 : Sums := disp0
noncomputable def bucket_List_1_c0_d (n : Nat) : SmV := smOps E_bucket_List_1 bucket_List_1_o0
noncomputable def bucket_List_1_c1_d (n : Nat) : SmV := smOps E_bucket_List_1 bucket_List_1_o1
noncomputable def bucket_List_1_c2_d (n : Nat) : SmV := smOps E_bucket_List_1 bucket_List_1_o2
noncomputable def bucket_List_1_c3_d (n : Nat) : SmV := smSeq [3] (bucket_List_1_c2_d n) smRet
noncomputable def bucket_List_1_c4_d (n : Nat) : SmV := smSeq [] (bucket_List_1_c1_d n) (bucket_List_1_c3_d n)
noncomputable def bucket_List_1_c5_d (n : Nat) : SmV := smSeq [1, 2] (bucket_List_1_c0_d n) (bucket_List_1_c4_d n)
noncomputable def R_bucket_List_1 (n : Nat) (args : List Val) (h : Heap) : OptV := (bucket_List_1_c5_d n) A_bucket_List_1.fin (params 0 args) h
theorem R_bucket_List_1_eq (n : Nat) (a0 a1 : Val) (h : Heap) : R_bucket_List_1 n [a0, a1] h = bnd (cells? a0) fun c1 => bnd (aload1 ((h ++ [some (Row.mk (c1) true)])) a1) fun v2 => bnd (aloadN ((h ++ [some (Row.mk (c1) true)])) 3 ((.c (.p h.length 0)))) fun v3 => bnd (afill (([.i .i64 0, .s [], .i .i64 0])) [(0, 3, v3)]) fun c4 => bnd (aapp (((h ++ [some (Row.mk (c1) true)]) ++ [some (Row.mk (c4) true)])) 3 v2 ((.c (.sl ((h ++ [some (Row.mk (c1) true)])).length 0 1 3)))) fun p5 => bnd (astore1 p5.2 a1 p5.1) fun h6 => some ((.c (.b true)), h6) := by kernel_rfl
theorem K_bucket_List_1 : FnK Try.prog 199 A_bucket_List_1 E_bucket_List_1 R_bucket_List_1 := .mk' (sound0) Try.func199 (by kernel_rfl) (by intro n args h; kernel_rfl)
noncomputable def S_bucket_List_1 : Fun := Lim A_bucket_List_1 E_bucket_List_1
theorem S_bucket_List_1_ok : SOk Try.prog 199 S_bucket_List_1 := K_bucket_List_1.ok
theorem S_bucket_List_1_of {n : Nat} {args : List Val} {h : Heap} {p : Val × Heap} (he : R_bucket_List_1 n args h = some p) : S_bucket_List_1 args h = some p := K_bucket_List_1.of he
def bucket_each__List_1_o0 : List AOper := [{ dst := some 2, op := .box (.t 0) }]
def bucket_each__List_1_c0 : ACode := .ops bucket_each__List_1_o0
def bucket_each__List_1_o1 : List AOper := [{ dst := some 7, op := .mv (.v (.c (.i .i64 0))) }]
def bucket_each__List_1_c1 : ACode := .ops bucket_each__List_1_o1
def bucket_each__List_1_o2 : List AOper := [{ dst := some 8, op := .bin .lss (.t 7) (.v (.c (.i .i64 7))) }]
def bucket_each__List_1_c2 : ACode := .ops bucket_each__List_1_o2
def bucket_each__List_1_c3 : ACode := .cond (.t 8) .skip (.exit 0)
def bucket_each__List_1_o3 : List AOper := [{ dst := some 9, op := .mv (.t 7) }, { dst := some 4, op := .mv (.t 9) }]
def bucket_each__List_1_c4 : ACode := .ops bucket_each__List_1_o3
def bucket_each__List_1_o4 : List AOper := [{ dst := some 11, op := .loadN 256 (.t 2) }, { dst := some 12, op := .mv (.t 4) }, { dst := some 13, op := .call 208 [(.t 11), (.t 12)] }, { dst := some 10, op := .mv (.t 13) }, { dst := some 14, op := .ext (.t 10) 0 }, { dst := some 15, op := .ext (.t 10) 1 }, { dst := some 5, op := .alloc ([.s [], .i .i64 0]) }, { dst := none, op := .storeN 2 (.t 5) (.t 14) }, { dst := some 6, op := .mv (.t 15) }]
def bucket_each__List_1_c5 : ACode := .ops bucket_each__List_1_o4
def bucket_each__List_1_o5 : List AOper := [{ dst := some 16, op := .mv (.t 6) }, { dst := some 17, op := .mv (.t 16) }, { dst := some 18, op := .mv (.t 1), guard := some (17, true) }, { dst := some 19, op := .mv (.t 4), guard := some (17, true) }, { dst := some 20, op := .loadN 2 (.t 5), guard := some (17, true) }, { dst := some 21, op := .build ([.i .i64 0, .s [], .i .i64 0]) [(0, 1, (.t 19)), (1, 2, (.t 20))], guard := some (17, true) }, { dst := some 22, op := .callV (.t 18) [(.t 21)], guard := some (17, true) }, { dst := some 23, op := .un .not (.t 22), guard := some (17, true) }, { dst := some 24, op := .pick (.t 17) (.t 23) (.v (.c (.b false))) }]
def bucket_each__List_1_c6 : ACode := .ops bucket_each__List_1_o5
def bucket_each__List_1_c7 : ACode := .cond (.t 24) .ret .skip
def bucket_each__List_1_c8 : ACode := .seq [1, 2, 7, 24] bucket_each__List_1_c6 bucket_each__List_1_c7
def bucket_each__List_1_c9 : ACode := .seq [1, 2, 4, 5, 6, 7] bucket_each__List_1_c5 bucket_each__List_1_c8
def bucket_each__List_1_c10 : ACode := .seq [1, 2, 4, 7] bucket_each__List_1_c4 bucket_each__List_1_c9
def bucket_each__List_1_c11 : ACode := .block 1 bucket_each__List_1_c10
def bucket_each__List_1_o6 : List AOper := [{ dst := some 25, op := .bin .add (.t 7) (.v (.c (.i .i64 1))) }, { dst := some 7, op := .mv (.t 25) }]
def bucket_each__List_1_c12 : ACode := .ops bucket_each__List_1_o6
def bucket_each__List_1_c13 : ACode := .seq [1, 2, 7] bucket_each__List_1_c11 bucket_each__List_1_c12
def bucket_each__List_1_c14 : ACode := .seq [1, 2, 7] bucket_each__List_1_c3 bucket_each__List_1_c13
def bucket_each__List_1_c15 : ACode := .seq [1, 2, 7, 8] bucket_each__List_1_c2 bucket_each__List_1_c14
def bucket_each__List_1_c16 : ACode := .loop [1, 2, 7] bucket_each__List_1_c15
def bucket_each__List_1_c17 : ACode := .block 0 bucket_each__List_1_c16
def bucket_each__List_1_c18 : ACode := .seq [1, 2, 7] bucket_each__List_1_c1 bucket_each__List_1_c17
def bucket_each__List_1_c19 : ACode := .seq [1, 2] bucket_each__List_1_c0 bucket_each__List_1_c18
def A_bucket_each__List_1 : AFn := ⟨bucket_each__List_1_c19, []⟩
noncomputable def E_bucket_each__List_1 : Sums := disp 208 S_bucket_read (disp 199 S_bucket_List_1 disp0)
noncomputable def bucket_each__List_1_c0_d (n : Nat) : SmV := smOps E_bucket_each__List_1 bucket_each__List_1_o0
noncomputable def bucket_each__List_1_c1_d (n : Nat) : SmV := smOps E_bucket_each__List_1 bucket_each__List_1_o1
noncomputable def bucket_each__List_1_c2_d (n : Nat) : SmV := smOps E_bucket_each__List_1 bucket_each__List_1_o2
noncomputable def bucket_each__List_1_c3_d (n : Nat) : SmV := smCond (.t 8) smSkip (smExit 0)
noncomputable def bucket_each__List_1_c4_d (n : Nat) : SmV := smOps E_bucket_each__List_1 bucket_each__List_1_o3
noncomputable def bucket_each__List_1_c5_d (n : Nat) : SmV := smOps E_bucket_each__List_1 bucket_each__List_1_o4
noncomputable def bucket_each__List_1_c6_d (n : Nat) : SmV := smOps E_bucket_each__List_1 bucket_each__List_1_o5
noncomputable def bucket_each__List_1_c7_d (n : Nat) : SmV := smCond (.t 24) smRet smSkip
noncomputable def bucket_each__List_1_c8_d (n : Nat) : SmV := smSeq [1, 2, 7, 24] (bucket_each__List_1_c6_d n) (bucket_each__List_1_c7_d n)
noncomputable def bucket_each__List_1_c9_d (n : Nat) : SmV := smSeq [1, 2, 4, 5, 6, 7] (bucket_each__List_1_c5_d n) (bucket_each__List_1_c8_d n)
noncomputable def bucket_each__List_1_c10_d (n : Nat) : SmV := smSeq [1, 2, 4, 7] (bucket_each__List_1_c4_d n) (bucket_each__List_1_c9_d n)
noncomputable def bucket_each__List_1_c11_d (n : Nat) : SmV := smBlock 1 (bucket_each__List_1_c10_d n)
noncomputable def bucket_each__List_1_c12_d (n : Nat) : SmV := smOps E_bucket_each__List_1 bucket_each__List_1_o6
noncomputable def bucket_each__List_1_c13_d (n : Nat) : SmV := smSeq [1, 2, 7] (bucket_each__List_1_c11_d n) (bucket_each__List_1_c12_d n)
noncomputable def bucket_each__List_1_c14_d (n : Nat) : SmV := smSeq [1, 2, 7] (bucket_each__List_1_c3_d n) (bucket_each__List_1_c13_d n)
noncomputable def bucket_each__List_1_c15_d (n : Nat) : SmV := smSeq [1, 2, 7, 8] (bucket_each__List_1_c2_d n) (bucket_each__List_1_c14_d n)
noncomputable def bucket_each__List_1_c16_d (n : Nat) : SmV := smLoop n [1, 2, 7] (bucket_each__List_1_c15_d n)
noncomputable def bucket_each__List_1_c17_d (n : Nat) : SmV := smBlock 0 (bucket_each__List_1_c16_d n)
noncomputable def bucket_each__List_1_c18_d (n : Nat) : SmV := smSeq [1, 2, 7] (bucket_each__List_1_c1_d n) (bucket_each__List_1_c17_d n)
noncomputable def bucket_each__List_1_c19_d (n : Nat) : SmV := smSeq [1, 2] (bucket_each__List_1_c0_d n) (bucket_each__List_1_c18_d n)
noncomputable def bucket_each__List_1_k0 (n : Nat) : AExit → Env → Heap → OptV := fun x e h => match x with | .exit i => bif Nat.beq i 0 then A_bucket_each__List_1.fin .normal e h else A_bucket_each__List_1.fin (.exit i) e h | .normal => A_bucket_each__List_1.fin .normal e h | .ret => A_bucket_each__List_1.fin .ret e h
noncomputable def bucket_each__List_1_l0 (n m : Nat) (x1 x2 x7 : Val) (h : Heap) : OptV := around (bucket_each__List_1_c15_d n) [1, 2, 7] (bucket_each__List_1_k0 n) m [(1, x1), (2, x2), (7, x7)] h
noncomputable def R_bucket_each__List_1 (n : Nat) (args : List Val) (h : Heap) : OptV := (bucket_each__List_1_c19_d n) A_bucket_each__List_1.fin (params 0 args) h
theorem R_bucket_each__List_1_eq (n : Nat) (a0 a1 : Val) (h : Heap) : R_bucket_each__List_1 n [a0, a1] h = bnd (cells? a0) fun c1 => bucket_each__List_1_l0 n n a1 ((.c (.p h.length 0))) (.c (.i .i64 0)) ((h ++ [some (Row.mk (c1) true)])) := by kernel_rfl
theorem bucket_each__List_1_l0_eq (n m : Nat) (x1 x2 x7 : Val) (h : Heap) : bucket_each__List_1_l0 n (m + 1) x1 x2 x7 h = bnd (abin .lss x7 (.c (.i .i64 7))) fun v2 => cnd v2 (bnd (aloadN h 256 x2) fun v3 => bnd (S_bucket_read [v3, x7] h) fun p4 => bnd (aext p4.1 0) fun v5 => bnd (aext p4.1 1) fun v6 => bnd (astoreN ((p4.2 ++ [some (Row.mk ([.s [], .i .i64 0]) true)])) 2 ((.c (.p p4.2.length 0))) v5) fun h7 => bnd (gd v6 true (some (x1, h7)) (some (.no, h7))) fun p8 => bnd (gd v6 true (some (x7, p8.2)) (some (.no, p8.2))) fun p9 => bnd (gd v6 true (bnd (aloadN p9.2 2 ((.c (.p p4.2.length 0)))) fun v10 => some (v10, p9.2)) (some (.no, p9.2))) fun p11 => bnd (gd v6 true (bnd (afill ([.i .i64 0, .s [], .i .i64 0]) [(0, 1, p9.1), (1, 2, p11.1)]) fun c12 => some ((.a c12), p11.2)) (some (.no, p11.2))) fun p13 => bnd (gd v6 true (bnd (callv E_bucket_each__List_1 p8.1 [p13.1] p13.2) fun p14 => some (p14.1, p14.2)) (some (.no, p13.2))) fun p15 => bnd (gd v6 true (bnd (aun .not p15.1) fun v16 => some (v16, p15.2)) (some (.no, p15.2))) fun p17 => bnd (apick v6 p17.1 (.c (.b false))) fun v18 => cnd v18 (tupN [] p17.2) (bnd (abin .add x7 (.c (.i .i64 1))) fun v19 => bucket_each__List_1_l0 n m x1 x2 v19 p17.2)) (tupN [] h) := by kernel_rfl
theorem K_bucket_each__List_1 : FnK Try.prog 198 A_bucket_each__List_1 E_bucket_each__List_1 R_bucket_each__List_1 := .mk' (sound1 S_bucket_read_ok (sound1 S_bucket_List_1_ok sound0)) Try.func198 (by kernel_rfl) (by intro n args h; kernel_rfl)
noncomputable def S_bucket_each__List_1 : Fun := Lim A_bucket_each__List_1 E_bucket_each__List_1
theorem S_bucket_each__List_1_ok : SOk Try.prog 198 S_bucket_each__List_1 := K_bucket_each__List_1.ok
theorem S_bucket_each__List_1_of {n : Nat} {args : List Val} {h : Heap} {p : Val × Heap} (he : R_bucket_each__List_1 n args h = some p) : S_bucket_each__List_1 args h = some p := K_bucket_each__List_1.of he
def bucket_List_o0 : List AOper := [{ dst := some 1, op := .box (.t 0) }, { dst := some 2, op := .nilrow 3 }]
def bucket_List_c0 : ACode := .ops bucket_List_o0
def bucket_List_o1 : List AOper := [{ dst := some 3, op := .alloc ([.ns]) }]
def bucket_List_c1 : ACode := .ops bucket_List_o1
def bucket_List_o2 : List AOper := [{ dst := some 4, op := .loadN 256 (.t 1) }, { dst := some 5, op := .mkf 199 [(.t 3)] }, { dst := some 6, op := .call 198 [(.t 4), (.t 5)] }]
def bucket_List_c2 : ACode := .ops bucket_List_o2
def bucket_List_o3 : List AOper := [{ dst := some 7, op := .load1 (.t 3) }, { dst := some 2, op := .mv (.t 7) }]
def bucket_List_c3 : ACode := .ops bucket_List_o3
def bucket_List_c4 : ACode := .seq [2] bucket_List_c3 .ret
def bucket_List_c5 : ACode := .seq [3] bucket_List_c2 bucket_List_c4
def bucket_List_c6 : ACode := .seq [1, 3] bucket_List_c1 bucket_List_c5
def bucket_List_c7 : ACode := .seq [1] bucket_List_c0 bucket_List_c6
def A_bucket_List : AFn := ⟨bucket_List_c7, [.tmp 2]⟩
noncomputable def E_bucket_List : Sums := disp 198 S_bucket_each__List_1 disp0
noncomputable def bucket_List_c0_d (n : Nat) : SmV := smOps E_bucket_List bucket_List_o0
noncomputable def bucket_List_c1_d (n : Nat) : SmV := smOps E_bucket_List bucket_List_o1
noncomputable def bucket_List_c2_d (n : Nat) : SmV := smOps E_bucket_List bucket_List_o2
noncomputable def bucket_List_c3_d (n : Nat) : SmV := smOps E_bucket_List bucket_List_o3
noncomputable def bucket_List_c4_d (n : Nat) : SmV := smSeq [2] (bucket_List_c3_d n) smRet
noncomputable def bucket_List_c5_d (n : Nat) : SmV := smSeq [3] (bucket_List_c2_d n) (bucket_List_c4_d n)
noncomputable def bucket_List_c6_d (n : Nat) : SmV := smSeq [1, 3] (bucket_List_c1_d n) (bucket_List_c5_d n)
noncomputable def bucket_List_c7_d (n : Nat) : SmV := smSeq [1] (bucket_List_c0_d n) (bucket_List_c6_d n)
noncomputable def R_bucket_List (n : Nat) (args : List Val) (h : Heap) : OptV := (bucket_List_c7_d n) A_bucket_List.fin (params 0 args) h
theorem R_bucket_List_eq (n : Nat) (a0 : Val) (h : Heap) : R_bucket_List n [a0] h = bnd (cells? a0) fun c1 => bnd (aloadN ((((h ++ [some (Row.mk (c1) true)]) ++ [some (Row.mk ([]) true)]) ++ [some (Row.mk ([.ns]) true)])) 256 ((.c (.p h.length 0)))) fun v2 => bnd (amkf 199 [(.c (.p (((h ++ [some (Row.mk (c1) true)]) ++ [some (Row.mk ([]) true)])).length 0))]) fun v3 => bnd (S_bucket_each__List_1 [v2, v3] ((((h ++ [some (Row.mk (c1) true)]) ++ [some (Row.mk ([]) true)]) ++ [some (Row.mk ([.ns]) true)]))) fun p4 => bnd (aload1 p4.2 ((.c (.p (((h ++ [some (Row.mk (c1) true)]) ++ [some (Row.mk ([]) true)])).length 0)))) fun v5 => some (v5, p4.2) := by kernel_rfl
theorem K_bucket_List : FnK Try.prog 154 A_bucket_List E_bucket_List R_bucket_List := .mk' (sound1 S_bucket_each__List_1_ok sound0) Try.func154 (by kernel_rfl) (by intro n args h; kernel_rfl)
noncomputable def S_bucket_List : Fun := tidy (Lim A_bucket_List E_bucket_List)
theorem S_bucket_List_ok : SOk Try.prog 154 S_bucket_List := K_bucket_List.sok
theorem S_bucket_List_low {n : Nat} {args : List Val} {h h2 : Heap} {v : Val} (he : R_bucket_List n args (ro h) = some (v, h2)) (hf : v.low h.length = true) : S_bucket_List args h = some (v, h) := K_bucket_List.low he hf
theorem S_bucket_List_out {n : Nat} {args : List Val} {h h2 : Heap} {v : Val} {sz k : Nat} {cs : List Cell} (he : R_bucket_List n args (ro h) = some (v, h2)) (ho : Out h.length h2 v sz k cs) (hf : flats cs = true) : S_bucket_List args h = some (.c (.sl h.length 0 k sz), h ++ [some ⟨cs, true⟩]) := K_bucket_List.out he ho hf
def bucket_empty_o0 : List AOper := [{ dst := some 2, op := .box (.t 0) }, { dst := some 4, op := .mv (.v (.c (.b false))) }]
def bucket_empty_c0 : ACode := .ops bucket_empty_o0
def bucket_empty_o1 : List AOper := [{ dst := some 5, op := .loadN 256 (.t 2) }, { dst := some 6, op := .mv (.t 1) }, { dst := some 7, op := .call 195 [(.t 6)] }, { dst := some 8, op := .call 66 [(.t 5), (.t 7), (.v (.c (.i .i64 32)))] }, { dst := some 9, op := .b2sN none (.t 8) }, { dst := some 10, op := .mkSl 1 ([.i .u8 0]) (.v (.c (.i .i64 32))) (.v (.c (.i .i64 32))), slot := some 0 }, { dst := some 11, op := .b2sN (some 0) (.t 10) }]
def bucket_empty_o2 : List AOper := [{ dst := some 12, op := .bin .eql (.t 9) (.t 11) }, { dst := some 4, op := .mv (.t 12) }]
def bucket_empty_c1 : ACode := .draw 1 bucket_empty_o1 bucket_empty_o2
def bucket_empty_c2 : ACode := .seq [4] bucket_empty_c1 .ret
def bucket_empty_c3 : ACode := .seq [1, 2] bucket_empty_c0 bucket_empty_c2
def A_bucket_empty : AFn := ⟨bucket_empty_c3, [.tmp 4]⟩
noncomputable def E_bucket_empty : Sums := disp 195 S_bucket_first (disp 66 S_num_Cut disp0)
noncomputable def bucket_empty_c0_d (n : Nat) : SmV := smOps E_bucket_empty bucket_empty_o0
noncomputable def bucket_empty_c1_d (n : Nat) : SmV := smDraw E_bucket_empty 1 bucket_empty_o1 bucket_empty_o2
noncomputable def bucket_empty_c2_d (n : Nat) : SmV := smSeq [4] (bucket_empty_c1_d n) smRet
noncomputable def bucket_empty_c3_d (n : Nat) : SmV := smSeq [1, 2] (bucket_empty_c0_d n) (bucket_empty_c2_d n)
noncomputable def R_bucket_empty (n : Nat) (args : List Val) (h : Heap) : OptV := (bucket_empty_c3_d n) A_bucket_empty.fin (params 0 args) h
theorem R_bucket_empty_eq (n : Nat) (a0 a1 : Val) (h : Heap) : R_bucket_empty n [a0, a1] h = bnd (cells? a0) fun c1 => bnd (aloadN ((h ++ [some (Row.mk (c1) true)])) 256 ((.c (.p h.length 0)))) fun v2 => bnd (quiet ((((h ++ [some (Row.mk (c1) true)])) ++ [none])) (S_bucket_first [a1] ((((h ++ [some (Row.mk (c1) true)])) ++ [none])))) fun p3 => bnd (quiet p3.2 (S_num_Cut [v2, p3.1, .c (.i .i64 32)] p3.2)) fun p4 => bnd (ab2s p4.2 p4.1) fun v5 => bnd (amkn (.c (.i .i64 32)) (.c (.i .i64 32))) fun n6 => bnd (ab2sN ((p4.2.set (((h ++ [some (Row.mk (c1) true)])).length + 0) (some (Row.mk (rows ([.i .u8 0]) n6) true)))) (((h ++ [some (Row.mk (c1) true)])).length) (some 0) ((.c (.sl (((h ++ [some (Row.mk (c1) true)])).length + 0) 0 n6 1)))) fun v7 => bnd (abin .eql v5 v7) fun v8 => some (v8, (p4.2.set (((h ++ [some (Row.mk (c1) true)])).length + 0) (some (Row.mk (rows ([.i .u8 0]) n6) true)))) := by kernel_rfl
theorem K_bucket_empty : FnK Try.prog 201 A_bucket_empty E_bucket_empty R_bucket_empty := .mk' (sound1 S_bucket_first_ok (sound1 S_num_Cut_ok sound0)) Try.func201 (by kernel_rfl) (by intro n args h; kernel_rfl)
noncomputable def S_bucket_empty : Fun := tidy (Lim A_bucket_empty E_bucket_empty)
theorem S_bucket_empty_ok : SOk Try.prog 201 S_bucket_empty := K_bucket_empty.sok
theorem S_bucket_empty_flat {n : Nat} {args : List Val} {h h2 : Heap} {v : Val} (he : R_bucket_empty n args (ro h) = some (v, h2)) (hf : v.flat = true) : S_bucket_empty args h = some (v, h) := K_bucket_empty.flat he hf
def bucket_Room_o0 : List AOper := [{ dst := some 1, op := .box (.t 0) }, { dst := some 2, op := .mv (.v (.c (.i .i64 0))) }, { dst := some 3, op := .mv (.v (.c (.b false))) }]
def bucket_Room_c0 : ACode := .ops bucket_Room_o0
def bucket_Room_o1 : List AOper := [{ dst := some 5, op := .mv (.v (.c (.i .i64 0))) }]
def bucket_Room_c1 : ACode := .ops bucket_Room_o1
def bucket_Room_o2 : List AOper := [{ dst := some 6, op := .bin .lss (.t 5) (.v (.c (.i .i64 7))) }]
def bucket_Room_c2 : ACode := .ops bucket_Room_o2
def bucket_Room_c3 : ACode := .cond (.t 6) .skip (.exit 0)
def bucket_Room_o3 : List AOper := [{ dst := some 7, op := .mv (.t 5) }, { dst := some 4, op := .mv (.t 7) }]
def bucket_Room_c4 : ACode := .ops bucket_Room_o3
def bucket_Room_o4 : List AOper := [{ dst := some 8, op := .loadN 256 (.t 1) }, { dst := some 9, op := .mv (.t 4) }, { dst := some 10, op := .call 201 [(.t 8), (.t 9)] }]
def bucket_Room_c5 : ACode := .ops bucket_Room_o4
def bucket_Room_o5 : List AOper := [{ dst := some 11, op := .mv (.t 4) }, { dst := some 2, op := .mv (.t 11) }, { dst := some 3, op := .mv (.v (.c (.b true))) }]
def bucket_Room_c6 : ACode := .ops bucket_Room_o5
def bucket_Room_c7 : ACode := .seq [2, 3] bucket_Room_c6 .ret
def bucket_Room_c8 : ACode := .cond (.t 10) bucket_Room_c7 .skip
def bucket_Room_c9 : ACode := .seq [1, 4, 5, 10] bucket_Room_c5 bucket_Room_c8
def bucket_Room_c10 : ACode := .seq [1, 4, 5] bucket_Room_c4 bucket_Room_c9
def bucket_Room_c11 : ACode := .block 1 bucket_Room_c10
def bucket_Room_o6 : List AOper := [{ dst := some 12, op := .bin .add (.t 5) (.v (.c (.i .i64 1))) }, { dst := some 5, op := .mv (.t 12) }]
def bucket_Room_c12 : ACode := .ops bucket_Room_o6
def bucket_Room_c13 : ACode := .seq [1, 5] bucket_Room_c11 bucket_Room_c12
def bucket_Room_c14 : ACode := .seq [1, 5] bucket_Room_c3 bucket_Room_c13
def bucket_Room_c15 : ACode := .seq [1, 5, 6] bucket_Room_c2 bucket_Room_c14
def bucket_Room_c16 : ACode := .loop [1, 5] bucket_Room_c15
def bucket_Room_c17 : ACode := .block 0 bucket_Room_c16
def bucket_Room_c18 : ACode := .seq [1, 5] bucket_Room_c1 bucket_Room_c17
def bucket_Room_o7 : List AOper := [{ dst := some 2, op := .mv (.v (.c (.i .i64 0))) }, { dst := some 3, op := .mv (.v (.c (.b false))) }]
def bucket_Room_c19 : ACode := .ops bucket_Room_o7
def bucket_Room_c20 : ACode := .seq [2, 3] bucket_Room_c19 .ret
def bucket_Room_c21 : ACode := .seq [] bucket_Room_c18 bucket_Room_c20
def bucket_Room_c22 : ACode := .seq [1] bucket_Room_c0 bucket_Room_c21
def A_bucket_Room : AFn := ⟨bucket_Room_c22, [.tmp 2, .tmp 3]⟩
noncomputable def E_bucket_Room : Sums := disp 201 S_bucket_empty disp0
noncomputable def bucket_Room_c0_d (n : Nat) : SmV := smOps E_bucket_Room bucket_Room_o0
noncomputable def bucket_Room_c1_d (n : Nat) : SmV := smOps E_bucket_Room bucket_Room_o1
noncomputable def bucket_Room_c2_d (n : Nat) : SmV := smOps E_bucket_Room bucket_Room_o2
noncomputable def bucket_Room_c3_d (n : Nat) : SmV := smCond (.t 6) smSkip (smExit 0)
noncomputable def bucket_Room_c4_d (n : Nat) : SmV := smOps E_bucket_Room bucket_Room_o3
noncomputable def bucket_Room_c5_d (n : Nat) : SmV := smOps E_bucket_Room bucket_Room_o4
noncomputable def bucket_Room_c6_d (n : Nat) : SmV := smOps E_bucket_Room bucket_Room_o5
noncomputable def bucket_Room_c7_d (n : Nat) : SmV := smSeq [2, 3] (bucket_Room_c6_d n) smRet
noncomputable def bucket_Room_c8_d (n : Nat) : SmV := smCond (.t 10) (bucket_Room_c7_d n) smSkip
noncomputable def bucket_Room_c9_d (n : Nat) : SmV := smSeq [1, 4, 5, 10] (bucket_Room_c5_d n) (bucket_Room_c8_d n)
noncomputable def bucket_Room_c10_d (n : Nat) : SmV := smSeq [1, 4, 5] (bucket_Room_c4_d n) (bucket_Room_c9_d n)
noncomputable def bucket_Room_c11_d (n : Nat) : SmV := smBlock 1 (bucket_Room_c10_d n)
noncomputable def bucket_Room_c12_d (n : Nat) : SmV := smOps E_bucket_Room bucket_Room_o6
noncomputable def bucket_Room_c13_d (n : Nat) : SmV := smSeq [1, 5] (bucket_Room_c11_d n) (bucket_Room_c12_d n)
noncomputable def bucket_Room_c14_d (n : Nat) : SmV := smSeq [1, 5] (bucket_Room_c3_d n) (bucket_Room_c13_d n)
noncomputable def bucket_Room_c15_d (n : Nat) : SmV := smSeq [1, 5, 6] (bucket_Room_c2_d n) (bucket_Room_c14_d n)
noncomputable def bucket_Room_c16_d (n : Nat) : SmV := smLoop n [1, 5] (bucket_Room_c15_d n)
noncomputable def bucket_Room_c17_d (n : Nat) : SmV := smBlock 0 (bucket_Room_c16_d n)
noncomputable def bucket_Room_c18_d (n : Nat) : SmV := smSeq [1, 5] (bucket_Room_c1_d n) (bucket_Room_c17_d n)
noncomputable def bucket_Room_c19_d (n : Nat) : SmV := smOps E_bucket_Room bucket_Room_o7
noncomputable def bucket_Room_c20_d (n : Nat) : SmV := smSeq [2, 3] (bucket_Room_c19_d n) smRet
noncomputable def bucket_Room_c21_d (n : Nat) : SmV := smSeq [] (bucket_Room_c18_d n) (bucket_Room_c20_d n)
noncomputable def bucket_Room_c22_d (n : Nat) : SmV := smSeq [1] (bucket_Room_c0_d n) (bucket_Room_c21_d n)
noncomputable def bucket_Room_k0 (n : Nat) : AExit → Env → Heap → OptV := fun x e h => match x with | .normal => hold ((bucket_Room_c20_d n) A_bucket_Room.fin (e.keep []) h) | .exit id => A_bucket_Room.fin (.exit id) e h | .ret => A_bucket_Room.fin .ret e h
noncomputable def bucket_Room_k1 (n : Nat) : AExit → Env → Heap → OptV := fun x e h => match x with | .exit i => bif Nat.beq i 0 then (bucket_Room_k0 n) .normal e h else (bucket_Room_k0 n) (.exit i) e h | .normal => (bucket_Room_k0 n) .normal e h | .ret => (bucket_Room_k0 n) .ret e h
noncomputable def bucket_Room_l0 (n m : Nat) (x1 x5 : Val) (h : Heap) : OptV := around (bucket_Room_c15_d n) [1, 5] (bucket_Room_k1 n) m [(1, x1), (5, x5)] h
noncomputable def R_bucket_Room (n : Nat) (args : List Val) (h : Heap) : OptV := (bucket_Room_c22_d n) A_bucket_Room.fin (params 0 args) h
theorem R_bucket_Room_eq (n : Nat) (a0 : Val) (h : Heap) : R_bucket_Room n [a0] h = bnd (cells? a0) fun c1 => bucket_Room_l0 n n ((.c (.p h.length 0))) (.c (.i .i64 0)) ((h ++ [some (Row.mk (c1) true)])) := by kernel_rfl
theorem bucket_Room_l0_eq (n m : Nat) (x1 x5 : Val) (h : Heap) : bucket_Room_l0 n (m + 1) x1 x5 h = bnd (abin .lss x5 (.c (.i .i64 7))) fun v2 => cnd v2 (bnd (aloadN h 256 x1) fun v3 => bnd (S_bucket_empty [v3, x5] h) fun p4 => cnd p4.1 (tupN [some x5, some (.c (.b true))] p4.2) (bnd (abin .add x5 (.c (.i .i64 1))) fun v5 => bucket_Room_l0 n m x1 v5 p4.2)) (tupN [some (.c (.i .i64 0)), some (.c (.b false))] h) := by kernel_rfl
theorem K_bucket_Room : FnK Try.prog 158 A_bucket_Room E_bucket_Room R_bucket_Room := .mk' (sound1 S_bucket_empty_ok sound0) Try.func158 (by kernel_rfl) (by intro n args h; kernel_rfl)
noncomputable def S_bucket_Room : Fun := tidy (Lim A_bucket_Room E_bucket_Room)
theorem S_bucket_Room_ok : SOk Try.prog 158 S_bucket_Room := K_bucket_Room.sok
theorem S_bucket_Room_flat {n : Nat} {args : List Val} {h h2 : Heap} {v : Val} (he : R_bucket_Room n args (ro h) = some (v, h2)) (hf : v.flat = true) : S_bucket_Room args h = some (v, h) := K_bucket_Room.flat he hf
def bucket_Fix_1_o0 : List AOper := [{ dst := some 3, op := .box (.t 0) }, { dst := some 4, op := .mv (.v (.c (.b false))) }]
def bucket_Fix_1_c0 : ACode := .ops bucket_Fix_1_o0
def bucket_Fix_1_o1 : List AOper := [{ dst := some 8, op := .loadN 256 (.t 1) }, { dst := some 9, op := .fAddr (.t 3) 1 }, { dst := some 10, op := .fAddr (.t 9) 0 }, { dst := some 11, op := .load1 (.t 10) }, { dst := some 12, op := .call 156 [(.t 8), (.t 11)] }, { dst := some 7, op := .mv (.t 12) }, { dst := some 13, op := .ext (.t 7) 0 }, { dst := some 14, op := .ext (.t 7) 1 }, { dst := some 5, op := .alloc ([.i .i64 0, .s [], .i .i64 0]) }, { dst := none, op := .storeN 3 (.t 5) (.t 13) }, { dst := some 6, op := .mv (.t 14) }]
def bucket_Fix_1_c1 : ACode := .ops bucket_Fix_1_o1
def bucket_Fix_1_o2 : List AOper := [{ dst := some 15, op := .loadN 3 (.t 5) }, { dst := some 16, op := .loadN 3 (.t 3) }, { dst := some 17, op := .eqA false ([.i .i64, .s, .i .i64]) (.t 15) (.t 16) }]
def bucket_Fix_1_c2 : ACode := .ops bucket_Fix_1_o2
def bucket_Fix_1_o3 : List AOper := [{ dst := some 18, op := .loadN 256 (.t 2) }, { dst := some 19, op := .fAddr (.t 3) 0 }, { dst := some 20, op := .load1 (.t 19) }, { dst := some 21, op := .call 195 [(.t 20)] }, { dst := some 22, op := .fAddr (.t 3) 1 }, { dst := some 23, op := .loadN 2 (.t 22) }, { dst := some 24, op := .call 196 [(.t 23)] }]
def bucket_Fix_1_o4 : List AOper := [{ dst := some 25, op := .call 65 [(.t 18), (.t 21), (.t 24)] }, { dst := none, op := .storeN 256 (.t 2) (.t 25) }]
def bucket_Fix_1_c3 : ACode := .draw 0 bucket_Fix_1_o3 bucket_Fix_1_o4
def bucket_Fix_1_c4 : ACode := .cond (.t 17) bucket_Fix_1_c3 .skip
def bucket_Fix_1_c5 : ACode := .seq [2, 3, 17] bucket_Fix_1_c2 bucket_Fix_1_c4
def bucket_Fix_1_c6 : ACode := .seq [2, 3, 5] bucket_Fix_1_c1 bucket_Fix_1_c5
def bucket_Fix_1_o5 : List AOper := [{ dst := some 4, op := .mv (.v (.c (.b true))) }]
def bucket_Fix_1_c7 : ACode := .ops bucket_Fix_1_o5
def bucket_Fix_1_c8 : ACode := .seq [4] bucket_Fix_1_c7 .ret
def bucket_Fix_1_c9 : ACode := .seq [] bucket_Fix_1_c6 bucket_Fix_1_c8
def bucket_Fix_1_c10 : ACode := .seq [1, 2, 3] bucket_Fix_1_c0 bucket_Fix_1_c9
def A_bucket_Fix_1 : AFn := ⟨bucket_Fix_1_c10, [.tmp 4]⟩
noncomputable def E_bucket_Fix_1 : Sums := disp 156 S_bucket_Find (disp 195 S_bucket_first (disp 196 S_bucket_written (disp 65 S_num_Lay disp0)))
noncomputable def bucket_Fix_1_c0_d (n : Nat) : SmV := smOps E_bucket_Fix_1 bucket_Fix_1_o0
noncomputable def bucket_Fix_1_c1_d (n : Nat) : SmV := smOps E_bucket_Fix_1 bucket_Fix_1_o1
noncomputable def bucket_Fix_1_c2_d (n : Nat) : SmV := smOps E_bucket_Fix_1 bucket_Fix_1_o2
noncomputable def bucket_Fix_1_c3_d (n : Nat) : SmV := smDraw E_bucket_Fix_1 0 bucket_Fix_1_o3 bucket_Fix_1_o4
noncomputable def bucket_Fix_1_c4_d (n : Nat) : SmV := smCond (.t 17) (bucket_Fix_1_c3_d n) smSkip
noncomputable def bucket_Fix_1_c5_d (n : Nat) : SmV := smSeq [2, 3, 17] (bucket_Fix_1_c2_d n) (bucket_Fix_1_c4_d n)
noncomputable def bucket_Fix_1_c6_d (n : Nat) : SmV := smSeq [2, 3, 5] (bucket_Fix_1_c1_d n) (bucket_Fix_1_c5_d n)
noncomputable def bucket_Fix_1_c7_d (n : Nat) : SmV := smOps E_bucket_Fix_1 bucket_Fix_1_o5
noncomputable def bucket_Fix_1_c8_d (n : Nat) : SmV := smSeq [4] (bucket_Fix_1_c7_d n) smRet
noncomputable def bucket_Fix_1_c9_d (n : Nat) : SmV := smSeq [] (bucket_Fix_1_c6_d n) (bucket_Fix_1_c8_d n)
noncomputable def bucket_Fix_1_c10_d (n : Nat) : SmV := smSeq [1, 2, 3] (bucket_Fix_1_c0_d n) (bucket_Fix_1_c9_d n)
noncomputable def bucket_Fix_1_j0 (n : Nat) (h : Heap) : OptV := hold ((bucket_Fix_1_c8_d n) A_bucket_Fix_1.fin [] h)
noncomputable def R_bucket_Fix_1 (n : Nat) (args : List Val) (h : Heap) : OptV := (bucket_Fix_1_c10_d n) A_bucket_Fix_1.fin (params 0 args) h
theorem R_bucket_Fix_1_eq (n : Nat) (a0 a1 a2 : Val) (h : Heap) : R_bucket_Fix_1 n [a0, a1, a2] h = bnd (cells? a0) fun c1 => bnd (aloadN ((h ++ [some (Row.mk (c1) true)])) 256 a1) fun v2 => bnd (afAddr ((.c (.p h.length 0))) 1) fun v3 => bnd (afAddr v3 0) fun v4 => bnd (aload1 ((h ++ [some (Row.mk (c1) true)])) v4) fun v5 => bnd (S_bucket_Find [v2, v5] ((h ++ [some (Row.mk (c1) true)]))) fun p6 => bnd (aext p6.1 0) fun v7 => bnd (aext p6.1 1) fun v8 => bnd (astoreN ((p6.2 ++ [some (Row.mk ([.i .i64 0, .s [], .i .i64 0]) true)])) 3 ((.c (.p p6.2.length 0))) v7) fun h9 => bnd (aloadN h9 3 ((.c (.p p6.2.length 0)))) fun v10 => bnd (aloadN h9 3 ((.c (.p h.length 0)))) fun v11 => bnd (aeq false ([.i .i64, .s, .i .i64]) v10 v11) fun v12 => cnd v12 (bnd (aloadN h9 256 a2) fun v13 => bnd (afAddr ((.c (.p h.length 0))) 0) fun v14 => bnd (aload1 h9 v14) fun v15 => bnd (quiet ((h9 ++ [])) (S_bucket_first [v15] ((h9 ++ [])))) fun p16 => bnd (afAddr ((.c (.p h.length 0))) 1) fun v17 => bnd (aloadN h9 2 v17) fun v18 => bnd (quiet p16.2 (S_bucket_written [v18] p16.2)) fun p19 => bnd (S_num_Lay [v13, p16.1, p19.1] p19.2) fun p20 => bnd (astoreN p20.2 256 a2 p20.1) fun h21 => bucket_Fix_1_j0 n h21) (bucket_Fix_1_j0 n h9) := by kernel_rfl
theorem bucket_Fix_1_j0_eq (n : Nat) (h : Heap) : bucket_Fix_1_j0 n h = some ((.c (.b true)), h) := by kernel_rfl
theorem K_bucket_Fix_1 : FnK Try.prog 203 A_bucket_Fix_1 E_bucket_Fix_1 R_bucket_Fix_1 := .mk' (sound1 S_bucket_Find_ok (sound1 S_bucket_first_ok (sound1 S_bucket_written_ok (sound1 S_num_Lay_ok sound0)))) Try.func203 (by kernel_rfl) (by intro n args h; kernel_rfl)
noncomputable def S_bucket_Fix_1 : Fun := Lim A_bucket_Fix_1 E_bucket_Fix_1
theorem S_bucket_Fix_1_ok : SOk Try.prog 203 S_bucket_Fix_1 := K_bucket_Fix_1.ok
theorem S_bucket_Fix_1_of {n : Nat} {args : List Val} {h : Heap} {p : Val × Heap} (he : R_bucket_Fix_1 n args h = some p) : S_bucket_Fix_1 args h = some p := K_bucket_Fix_1.of he
def bucket_each__Fix_1_o0 : List AOper := [{ dst := some 2, op := .box (.t 0) }]
def bucket_each__Fix_1_c0 : ACode := .ops bucket_each__Fix_1_o0
def bucket_each__Fix_1_o1 : List AOper := [{ dst := some 7, op := .mv (.v (.c (.i .i64 0))) }]
def bucket_each__Fix_1_c1 : ACode := .ops bucket_each__Fix_1_o1
def bucket_each__Fix_1_o2 : List AOper := [{ dst := some 8, op := .bin .lss (.t 7) (.v (.c (.i .i64 7))) }]
def bucket_each__Fix_1_c2 : ACode := .ops bucket_each__Fix_1_o2
def bucket_each__Fix_1_c3 : ACode := .cond (.t 8) .skip (.exit 0)
def bucket_each__Fix_1_o3 : List AOper := [{ dst := some 9, op := .mv (.t 7) }, { dst := some 4, op := .mv (.t 9) }]
def bucket_each__Fix_1_c4 : ACode := .ops bucket_each__Fix_1_o3
def bucket_each__Fix_1_o4 : List AOper := [{ dst := some 11, op := .loadN 256 (.t 2) }, { dst := some 12, op := .mv (.t 4) }, { dst := some 13, op := .call 208 [(.t 11), (.t 12)] }, { dst := some 10, op := .mv (.t 13) }, { dst := some 14, op := .ext (.t 10) 0 }, { dst := some 15, op := .ext (.t 10) 1 }, { dst := some 5, op := .alloc ([.s [], .i .i64 0]) }, { dst := none, op := .storeN 2 (.t 5) (.t 14) }, { dst := some 6, op := .mv (.t 15) }]
def bucket_each__Fix_1_c5 : ACode := .ops bucket_each__Fix_1_o4
def bucket_each__Fix_1_o5 : List AOper := [{ dst := some 16, op := .mv (.t 6) }, { dst := some 17, op := .mv (.t 16) }, { dst := some 18, op := .mv (.t 1), guard := some (17, true) }, { dst := some 19, op := .mv (.t 4), guard := some (17, true) }, { dst := some 20, op := .loadN 2 (.t 5), guard := some (17, true) }, { dst := some 21, op := .build ([.i .i64 0, .s [], .i .i64 0]) [(0, 1, (.t 19)), (1, 2, (.t 20))], guard := some (17, true) }, { dst := some 22, op := .callV (.t 18) [(.t 21)], guard := some (17, true) }, { dst := some 23, op := .un .not (.t 22), guard := some (17, true) }, { dst := some 24, op := .pick (.t 17) (.t 23) (.v (.c (.b false))) }]
def bucket_each__Fix_1_c6 : ACode := .ops bucket_each__Fix_1_o5
def bucket_each__Fix_1_c7 : ACode := .cond (.t 24) .ret .skip
def bucket_each__Fix_1_c8 : ACode := .seq [1, 2, 7, 24] bucket_each__Fix_1_c6 bucket_each__Fix_1_c7
def bucket_each__Fix_1_c9 : ACode := .seq [1, 2, 4, 5, 6, 7] bucket_each__Fix_1_c5 bucket_each__Fix_1_c8
def bucket_each__Fix_1_c10 : ACode := .seq [1, 2, 4, 7] bucket_each__Fix_1_c4 bucket_each__Fix_1_c9
def bucket_each__Fix_1_c11 : ACode := .block 1 bucket_each__Fix_1_c10
def bucket_each__Fix_1_o6 : List AOper := [{ dst := some 25, op := .bin .add (.t 7) (.v (.c (.i .i64 1))) }, { dst := some 7, op := .mv (.t 25) }]
def bucket_each__Fix_1_c12 : ACode := .ops bucket_each__Fix_1_o6
def bucket_each__Fix_1_c13 : ACode := .seq [1, 2, 7] bucket_each__Fix_1_c11 bucket_each__Fix_1_c12
def bucket_each__Fix_1_c14 : ACode := .seq [1, 2, 7] bucket_each__Fix_1_c3 bucket_each__Fix_1_c13
def bucket_each__Fix_1_c15 : ACode := .seq [1, 2, 7, 8] bucket_each__Fix_1_c2 bucket_each__Fix_1_c14
def bucket_each__Fix_1_c16 : ACode := .loop [1, 2, 7] bucket_each__Fix_1_c15
def bucket_each__Fix_1_c17 : ACode := .block 0 bucket_each__Fix_1_c16
def bucket_each__Fix_1_c18 : ACode := .seq [1, 2, 7] bucket_each__Fix_1_c1 bucket_each__Fix_1_c17
def bucket_each__Fix_1_c19 : ACode := .seq [1, 2] bucket_each__Fix_1_c0 bucket_each__Fix_1_c18
def A_bucket_each__Fix_1 : AFn := ⟨bucket_each__Fix_1_c19, []⟩
noncomputable def E_bucket_each__Fix_1 : Sums := disp 208 S_bucket_read (disp 203 S_bucket_Fix_1 disp0)
noncomputable def bucket_each__Fix_1_c0_d (n : Nat) : SmV := smOps E_bucket_each__Fix_1 bucket_each__Fix_1_o0
noncomputable def bucket_each__Fix_1_c1_d (n : Nat) : SmV := smOps E_bucket_each__Fix_1 bucket_each__Fix_1_o1
noncomputable def bucket_each__Fix_1_c2_d (n : Nat) : SmV := smOps E_bucket_each__Fix_1 bucket_each__Fix_1_o2
noncomputable def bucket_each__Fix_1_c3_d (n : Nat) : SmV := smCond (.t 8) smSkip (smExit 0)
noncomputable def bucket_each__Fix_1_c4_d (n : Nat) : SmV := smOps E_bucket_each__Fix_1 bucket_each__Fix_1_o3
noncomputable def bucket_each__Fix_1_c5_d (n : Nat) : SmV := smOps E_bucket_each__Fix_1 bucket_each__Fix_1_o4
noncomputable def bucket_each__Fix_1_c6_d (n : Nat) : SmV := smOps E_bucket_each__Fix_1 bucket_each__Fix_1_o5
noncomputable def bucket_each__Fix_1_c7_d (n : Nat) : SmV := smCond (.t 24) smRet smSkip
noncomputable def bucket_each__Fix_1_c8_d (n : Nat) : SmV := smSeq [1, 2, 7, 24] (bucket_each__Fix_1_c6_d n) (bucket_each__Fix_1_c7_d n)
noncomputable def bucket_each__Fix_1_c9_d (n : Nat) : SmV := smSeq [1, 2, 4, 5, 6, 7] (bucket_each__Fix_1_c5_d n) (bucket_each__Fix_1_c8_d n)
noncomputable def bucket_each__Fix_1_c10_d (n : Nat) : SmV := smSeq [1, 2, 4, 7] (bucket_each__Fix_1_c4_d n) (bucket_each__Fix_1_c9_d n)
noncomputable def bucket_each__Fix_1_c11_d (n : Nat) : SmV := smBlock 1 (bucket_each__Fix_1_c10_d n)
noncomputable def bucket_each__Fix_1_c12_d (n : Nat) : SmV := smOps E_bucket_each__Fix_1 bucket_each__Fix_1_o6
noncomputable def bucket_each__Fix_1_c13_d (n : Nat) : SmV := smSeq [1, 2, 7] (bucket_each__Fix_1_c11_d n) (bucket_each__Fix_1_c12_d n)
noncomputable def bucket_each__Fix_1_c14_d (n : Nat) : SmV := smSeq [1, 2, 7] (bucket_each__Fix_1_c3_d n) (bucket_each__Fix_1_c13_d n)
noncomputable def bucket_each__Fix_1_c15_d (n : Nat) : SmV := smSeq [1, 2, 7, 8] (bucket_each__Fix_1_c2_d n) (bucket_each__Fix_1_c14_d n)
noncomputable def bucket_each__Fix_1_c16_d (n : Nat) : SmV := smLoop n [1, 2, 7] (bucket_each__Fix_1_c15_d n)
noncomputable def bucket_each__Fix_1_c17_d (n : Nat) : SmV := smBlock 0 (bucket_each__Fix_1_c16_d n)
noncomputable def bucket_each__Fix_1_c18_d (n : Nat) : SmV := smSeq [1, 2, 7] (bucket_each__Fix_1_c1_d n) (bucket_each__Fix_1_c17_d n)
noncomputable def bucket_each__Fix_1_c19_d (n : Nat) : SmV := smSeq [1, 2] (bucket_each__Fix_1_c0_d n) (bucket_each__Fix_1_c18_d n)
noncomputable def bucket_each__Fix_1_k0 (n : Nat) : AExit → Env → Heap → OptV := fun x e h => match x with | .exit i => bif Nat.beq i 0 then A_bucket_each__Fix_1.fin .normal e h else A_bucket_each__Fix_1.fin (.exit i) e h | .normal => A_bucket_each__Fix_1.fin .normal e h | .ret => A_bucket_each__Fix_1.fin .ret e h
noncomputable def bucket_each__Fix_1_l0 (n m : Nat) (x1 x2 x7 : Val) (h : Heap) : OptV := around (bucket_each__Fix_1_c15_d n) [1, 2, 7] (bucket_each__Fix_1_k0 n) m [(1, x1), (2, x2), (7, x7)] h
noncomputable def R_bucket_each__Fix_1 (n : Nat) (args : List Val) (h : Heap) : OptV := (bucket_each__Fix_1_c19_d n) A_bucket_each__Fix_1.fin (params 0 args) h
theorem R_bucket_each__Fix_1_eq (n : Nat) (a0 a1 : Val) (h : Heap) : R_bucket_each__Fix_1 n [a0, a1] h = bnd (cells? a0) fun c1 => bucket_each__Fix_1_l0 n n a1 ((.c (.p h.length 0))) (.c (.i .i64 0)) ((h ++ [some (Row.mk (c1) true)])) := by kernel_rfl
theorem bucket_each__Fix_1_l0_eq (n m : Nat) (x1 x2 x7 : Val) (h : Heap) : bucket_each__Fix_1_l0 n (m + 1) x1 x2 x7 h = bnd (abin .lss x7 (.c (.i .i64 7))) fun v2 => cnd v2 (bnd (aloadN h 256 x2) fun v3 => bnd (S_bucket_read [v3, x7] h) fun p4 => bnd (aext p4.1 0) fun v5 => bnd (aext p4.1 1) fun v6 => bnd (astoreN ((p4.2 ++ [some (Row.mk ([.s [], .i .i64 0]) true)])) 2 ((.c (.p p4.2.length 0))) v5) fun h7 => bnd (gd v6 true (some (x1, h7)) (some (.no, h7))) fun p8 => bnd (gd v6 true (some (x7, p8.2)) (some (.no, p8.2))) fun p9 => bnd (gd v6 true (bnd (aloadN p9.2 2 ((.c (.p p4.2.length 0)))) fun v10 => some (v10, p9.2)) (some (.no, p9.2))) fun p11 => bnd (gd v6 true (bnd (afill ([.i .i64 0, .s [], .i .i64 0]) [(0, 1, p9.1), (1, 2, p11.1)]) fun c12 => some ((.a c12), p11.2)) (some (.no, p11.2))) fun p13 => bnd (gd v6 true (bnd (callv E_bucket_each__Fix_1 p8.1 [p13.1] p13.2) fun p14 => some (p14.1, p14.2)) (some (.no, p13.2))) fun p15 => bnd (gd v6 true (bnd (aun .not p15.1) fun v16 => some (v16, p15.2)) (some (.no, p15.2))) fun p17 => bnd (apick v6 p17.1 (.c (.b false))) fun v18 => cnd v18 (tupN [] p17.2) (bnd (abin .add x7 (.c (.i .i64 1))) fun v19 => bucket_each__Fix_1_l0 n m x1 x2 v19 p17.2)) (tupN [] h) := by kernel_rfl
theorem K_bucket_each__Fix_1 : FnK Try.prog 198 A_bucket_each__Fix_1 E_bucket_each__Fix_1 R_bucket_each__Fix_1 := .mk' (sound1 S_bucket_read_ok (sound1 S_bucket_Fix_1_ok sound0)) Try.func198 (by kernel_rfl) (by intro n args h; kernel_rfl)
noncomputable def S_bucket_each__Fix_1 : Fun := Lim A_bucket_each__Fix_1 E_bucket_each__Fix_1
theorem S_bucket_each__Fix_1_ok : SOk Try.prog 198 S_bucket_each__Fix_1 := K_bucket_each__Fix_1.ok
theorem S_bucket_each__Fix_1_of {n : Nat} {args : List Val} {h : Heap} {p : Val × Heap} (he : R_bucket_each__Fix_1 n args h = some p) : S_bucket_each__Fix_1 args h = some p := K_bucket_each__Fix_1.of he
def bucket_Fix_o0 : List AOper := [{ dst := some 1, op := .box (.t 0) }, { dst := some 2, op := .alloc (List.replicate 256 (.i .u8 0)) }]
def bucket_Fix_c0 : ACode := .ops bucket_Fix_o0
def bucket_Fix_o1 : List AOper := [{ dst := some 4, op := .call 193 [] }, { dst := some 3, op := .alloc (List.replicate 256 (.i .u8 0)) }, { dst := none, op := .storeN 256 (.t 3) (.t 4) }]
def bucket_Fix_c1 : ACode := .ops bucket_Fix_o1
def bucket_Fix_o2 : List AOper := [{ dst := some 5, op := .loadN 256 (.t 1) }, { dst := some 6, op := .mkf 203 [(.t 1), (.t 3)] }, { dst := some 7, op := .call 198 [(.t 5), (.t 6)] }]
def bucket_Fix_c2 : ACode := .ops bucket_Fix_o2
def bucket_Fix_o3 : List AOper := [{ dst := some 8, op := .loadN 256 (.t 3) }, { dst := none, op := .storeN 256 (.t 2) (.t 8) }]
def bucket_Fix_c3 : ACode := .ops bucket_Fix_o3
def bucket_Fix_c4 : ACode := .seq [2] bucket_Fix_c3 .ret
def bucket_Fix_c5 : ACode := .seq [2, 3] bucket_Fix_c2 bucket_Fix_c4
def bucket_Fix_c6 : ACode := .seq [1, 2, 3] bucket_Fix_c1 bucket_Fix_c5
def bucket_Fix_c7 : ACode := .seq [1, 2] bucket_Fix_c0 bucket_Fix_c6
def A_bucket_Fix : AFn := ⟨bucket_Fix_c7, [.cellN 2 256]⟩
noncomputable def E_bucket_Fix : Sums := disp 193 S_bucket_head (disp 198 S_bucket_each__Fix_1 disp0)
noncomputable def bucket_Fix_c0_d (n : Nat) : SmV := smOps E_bucket_Fix bucket_Fix_o0
noncomputable def bucket_Fix_c1_d (n : Nat) : SmV := smOps E_bucket_Fix bucket_Fix_o1
noncomputable def bucket_Fix_c2_d (n : Nat) : SmV := smOps E_bucket_Fix bucket_Fix_o2
noncomputable def bucket_Fix_c3_d (n : Nat) : SmV := smOps E_bucket_Fix bucket_Fix_o3
noncomputable def bucket_Fix_c4_d (n : Nat) : SmV := smSeq [2] (bucket_Fix_c3_d n) smRet
noncomputable def bucket_Fix_c5_d (n : Nat) : SmV := smSeq [2, 3] (bucket_Fix_c2_d n) (bucket_Fix_c4_d n)
noncomputable def bucket_Fix_c6_d (n : Nat) : SmV := smSeq [1, 2, 3] (bucket_Fix_c1_d n) (bucket_Fix_c5_d n)
noncomputable def bucket_Fix_c7_d (n : Nat) : SmV := smSeq [1, 2] (bucket_Fix_c0_d n) (bucket_Fix_c6_d n)
noncomputable def R_bucket_Fix (n : Nat) (args : List Val) (h : Heap) : OptV := (bucket_Fix_c7_d n) A_bucket_Fix.fin (params 0 args) h
theorem R_bucket_Fix_eq (n : Nat) (a0 : Val) (h : Heap) : R_bucket_Fix n [a0] h = bnd (cells? a0) fun c1 => bnd (S_bucket_head [] (((h ++ [some (Row.mk (c1) true)]) ++ [some (Row.mk (List.replicate 256 (.i .u8 0)) true)]))) fun p2 => bnd (astoreN ((p2.2 ++ [some (Row.mk (List.replicate 256 (.i .u8 0)) true)])) 256 ((.c (.p p2.2.length 0))) p2.1) fun h3 => bnd (aloadN h3 256 ((.c (.p h.length 0)))) fun v4 => bnd (amkf 203 [(.c (.p h.length 0)), (.c (.p p2.2.length 0))]) fun v5 => bnd (S_bucket_each__Fix_1 [v4, v5] h3) fun p6 => bnd (aloadN p6.2 256 ((.c (.p p2.2.length 0)))) fun v7 => bnd (astoreN p6.2 256 ((.c (.p ((h ++ [some (Row.mk (c1) true)])).length 0))) v7) fun h8 => mp (aloadN h8 256 ((.c (.p ((h ++ [some (Row.mk (c1) true)])).length 0)))) fun v => (v, h8) := by kernel_rfl
theorem K_bucket_Fix : FnK Try.prog 160 A_bucket_Fix E_bucket_Fix R_bucket_Fix := .mk' (sound1 S_bucket_head_ok (sound1 S_bucket_each__Fix_1_ok sound0)) Try.func160 (by kernel_rfl) (by intro n args h; kernel_rfl)
noncomputable def S_bucket_Fix : Fun := tidy (Lim A_bucket_Fix E_bucket_Fix)
theorem S_bucket_Fix_ok : SOk Try.prog 160 S_bucket_Fix := K_bucket_Fix.sok
theorem S_bucket_Fix_flat {n : Nat} {args : List Val} {h h2 : Heap} {v : Val} (he : R_bucket_Fix n args (ro h) = some (v, h2)) (hf : v.flat = true) : S_bucket_Fix args h = some (v, h) := K_bucket_Fix.flat he hf
def bucket_Right_o0 : List AOper := [{ dst := some 1, op := .box (.t 0) }, { dst := some 2, op := .mv (.v (.c (.b false))) }]
def bucket_Right_c0 : ACode := .ops bucket_Right_o0
def bucket_Right_o1 : List AOper := [{ dst := some 3, op := .loadN 256 (.t 1) }, { dst := some 4, op := .call 160 [(.t 3)] }, { dst := some 5, op := .loadN 256 (.t 1) }]
def bucket_Right_o2 : List AOper := [{ dst := some 6, op := .eqA false (List.replicate 256 (.i .u8)) (.t 4) (.t 5) }, { dst := some 2, op := .mv (.t 6) }]
def bucket_Right_c1 : ACode := .draw 0 bucket_Right_o1 bucket_Right_o2
def bucket_Right_c2 : ACode := .seq [2] bucket_Right_c1 .ret
def bucket_Right_c3 : ACode := .seq [1] bucket_Right_c0 bucket_Right_c2
def A_bucket_Right : AFn := ⟨bucket_Right_c3, [.tmp 2]⟩
noncomputable def E_bucket_Right : Sums := disp 160 S_bucket_Fix disp0
noncomputable def bucket_Right_c0_d (n : Nat) : SmV := smOps E_bucket_Right bucket_Right_o0
noncomputable def bucket_Right_c1_d (n : Nat) : SmV := smDraw E_bucket_Right 0 bucket_Right_o1 bucket_Right_o2
noncomputable def bucket_Right_c2_d (n : Nat) : SmV := smSeq [2] (bucket_Right_c1_d n) smRet
noncomputable def bucket_Right_c3_d (n : Nat) : SmV := smSeq [1] (bucket_Right_c0_d n) (bucket_Right_c2_d n)
noncomputable def R_bucket_Right (n : Nat) (args : List Val) (h : Heap) : OptV := (bucket_Right_c3_d n) A_bucket_Right.fin (params 0 args) h
theorem R_bucket_Right_eq (n : Nat) (a0 : Val) (h : Heap) : R_bucket_Right n [a0] h = bnd (cells? a0) fun c1 => bnd (aloadN ((h ++ [some (Row.mk (c1) true)])) 256 ((.c (.p h.length 0)))) fun v2 => bnd (quiet ((((h ++ [some (Row.mk (c1) true)])) ++ [])) (S_bucket_Fix [v2] ((((h ++ [some (Row.mk (c1) true)])) ++ [])))) fun p3 => bnd (aloadN ((h ++ [some (Row.mk (c1) true)])) 256 ((.c (.p h.length 0)))) fun v4 => bnd (aeq false (List.replicate 256 (.i .u8)) p3.1 v4) fun v5 => some (v5, p3.2) := by kernel_rfl
theorem K_bucket_Right : FnK Try.prog 153 A_bucket_Right E_bucket_Right R_bucket_Right := .mk' (sound1 S_bucket_Fix_ok sound0) Try.func153 (by kernel_rfl) (by intro n args h; kernel_rfl)
noncomputable def S_bucket_Right : Fun := tidy (Lim A_bucket_Right E_bucket_Right)
theorem S_bucket_Right_ok : SOk Try.prog 153 S_bucket_Right := K_bucket_Right.sok
theorem S_bucket_Right_flat {n : Nat} {args : List Val} {h h2 : Heap} {v : Val} (he : R_bucket_Right n args (ro h) = some (v, h2)) (hf : v.flat = true) : S_bucket_Right args h = some (v, h) := K_bucket_Right.flat he hf
def bucket_laid_o0 : List AOper := [{ dst := some 6, op := .alloc ([.i .i64 0, .ns]) }, { dst := some 7, op := .mv (.v (.c (.i .i64 0))) }]
def bucket_laid_c0 : ACode := .ops bucket_laid_o0
def bucket_laid_o1 : List AOper := [{ dst := some 8, op := .mv (.t 0) }, { dst := some 9, op := .bin .lss (.t 8) (.v (.c (.i .i64 0))) }, { dst := some 10, op := .mv (.t 9) }, { dst := some 11, op := .mv (.t 0), guard := some (10, false) }, { dst := some 12, op := .bin .geq (.t 11) (.v (.c (.i .i64 7))), guard := some (10, false) }, { dst := some 13, op := .pick (.t 10) (.v (.c (.b true))) (.t 12) }]
def bucket_laid_c1 : ACode := .ops bucket_laid_o1
def bucket_laid_o2 : List AOper := [{ dst := some 14, op := .build ([.i .i64 0, .ns]) [] }, { dst := none, op := .storeN 2 (.t 6) (.t 14) }, { dst := some 7, op := .mv (.v (.c (.i .i64 2))) }]
def bucket_laid_c2 : ACode := .ops bucket_laid_o2
def bucket_laid_c3 : ACode := .seq [6, 7] bucket_laid_c2 .ret
def bucket_laid_c4 : ACode := .cond (.t 13) bucket_laid_c3 .skip
def bucket_laid_c5 : ACode := .seq [0, 1, 2, 6, 13] bucket_laid_c1 bucket_laid_c4
def bucket_laid_o3 : List AOper := [{ dst := some 15, op := .mv (.t 0) }, { dst := some 16, op := .call 195 [(.t 15)] }, { dst := some 17, op := .mv (.t 1) }, { dst := some 18, op := .bin .add (.t 16) (.t 17) }, { dst := some 19, op := .mv (.t 2) }, { dst := some 20, op := .build ([.i .i64 0, .ns]) [(0, 1, (.t 18)), (1, 1, (.t 19))] }, { dst := none, op := .storeN 2 (.t 6) (.t 20) }, { dst := some 7, op := .mv (.v (.c (.i .i64 0))) }]
def bucket_laid_c6 : ACode := .ops bucket_laid_o3
def bucket_laid_c7 : ACode := .seq [6, 7] bucket_laid_c6 .ret
def bucket_laid_c8 : ACode := .seq [0, 1, 2, 6] bucket_laid_c5 bucket_laid_c7
def bucket_laid_c9 : ACode := .seq [0, 1, 2, 6] bucket_laid_c0 bucket_laid_c8
def A_bucket_laid : AFn := ⟨bucket_laid_c9, [.cellN 6 2, .tmp 7]⟩
noncomputable def E_bucket_laid : Sums := disp 195 S_bucket_first disp0
noncomputable def bucket_laid_c0_d (n : Nat) : SmV := smOps E_bucket_laid bucket_laid_o0
noncomputable def bucket_laid_c1_d (n : Nat) : SmV := smOps E_bucket_laid bucket_laid_o1
noncomputable def bucket_laid_c2_d (n : Nat) : SmV := smOps E_bucket_laid bucket_laid_o2
noncomputable def bucket_laid_c3_d (n : Nat) : SmV := smSeq [6, 7] (bucket_laid_c2_d n) smRet
noncomputable def bucket_laid_c4_d (n : Nat) : SmV := smCond (.t 13) (bucket_laid_c3_d n) smSkip
noncomputable def bucket_laid_c5_d (n : Nat) : SmV := smSeq [0, 1, 2, 6, 13] (bucket_laid_c1_d n) (bucket_laid_c4_d n)
noncomputable def bucket_laid_c6_d (n : Nat) : SmV := smOps E_bucket_laid bucket_laid_o3
noncomputable def bucket_laid_c7_d (n : Nat) : SmV := smSeq [6, 7] (bucket_laid_c6_d n) smRet
noncomputable def bucket_laid_c8_d (n : Nat) : SmV := smSeq [0, 1, 2, 6] (bucket_laid_c5_d n) (bucket_laid_c7_d n)
noncomputable def bucket_laid_c9_d (n : Nat) : SmV := smSeq [0, 1, 2, 6] (bucket_laid_c0_d n) (bucket_laid_c8_d n)
noncomputable def R_bucket_laid (n : Nat) (args : List Val) (h : Heap) : OptV := (bucket_laid_c9_d n) A_bucket_laid.fin (params 0 args) h
theorem R_bucket_laid_eq (n : Nat) (a0 a1 a2 : Val) (h : Heap) : R_bucket_laid n [a0, a1, a2] h = bnd (abin .lss a0 (.c (.i .i64 0))) fun v1 => bnd (gd v1 false (some (a0, (h ++ [some (Row.mk ([.i .i64 0, .ns]) true)]))) (some (.no, (h ++ [some (Row.mk ([.i .i64 0, .ns]) true)])))) fun p2 => bnd (gd v1 false (bnd (abin .geq p2.1 (.c (.i .i64 7))) fun v3 => some (v3, p2.2)) (some (.no, p2.2))) fun p4 => bnd (apick v1 (.c (.b true)) p4.1) fun v5 => cnd v5 (bnd (afill ([.i .i64 0, .ns]) []) fun c6 => bnd (astoreN p4.2 2 ((.c (.p h.length 0))) ((.a c6))) fun h7 => tupN [aloadN h7 2 ((.c (.p h.length 0))), some (.c (.i .i64 2))] h7) (bnd (S_bucket_first [a0] p4.2) fun p8 => bnd (abin .add p8.1 a1) fun v9 => bnd (afill ([.i .i64 0, .ns]) [(0, 1, v9), (1, 1, a2)]) fun c10 => bnd (astoreN p8.2 2 ((.c (.p h.length 0))) ((.a c10))) fun h11 => tupN [aloadN h11 2 ((.c (.p h.length 0))), some (.c (.i .i64 0))] h11) := by kernel_rfl
theorem K_bucket_laid : FnK Try.prog 204 A_bucket_laid E_bucket_laid R_bucket_laid := .mk' (sound1 S_bucket_first_ok sound0) Try.func204 (by kernel_rfl) (by intro n args h; kernel_rfl)
noncomputable def S_bucket_laid : Fun := tidy (Lim A_bucket_laid E_bucket_laid)
theorem S_bucket_laid_ok : SOk Try.prog 204 S_bucket_laid := K_bucket_laid.sok
theorem S_bucket_laid_flat {n : Nat} {args : List Val} {h h2 : Heap} {v : Val} (he : R_bucket_laid n args (ro h) = some (v, h2)) (hf : v.flat = true) : S_bucket_laid args h = some (v, h) := K_bucket_laid.flat he hf
theorem S_bucket_laid_low {n : Nat} {args : List Val} {h h2 : Heap} {v : Val} (he : R_bucket_laid n args (ro h) = some (v, h2)) (hf : v.low h.length = true) : S_bucket_laid args h = some (v, h) := K_bucket_laid.low he hf
theorem S_bucket_laid_tidy {n : Nat} {args : List Val} {h h2 : Heap} {v : Val} {v2 : Val} {ids : List Nat} (he : R_bucket_laid n args (ro h) = some (v, h2)) (hc : canonV h2 h.length v = some (v2, ids)) : S_bucket_laid args h = some (v2, h ++ ids.map (rd h2)) := K_bucket_laid.tidy he hc
def bucket_Put_o0 : List AOper := [{ dst := some 3, op := .box (.t 1) }, { dst := some 4, op := .alloc ([.i .i64 0, .ns]) }, { dst := some 5, op := .mv (.v (.c (.i .i64 0))) }]
def bucket_Put_c0 : ACode := .ops bucket_Put_o0
def bucket_Put_o1 : List AOper := [{ dst := some 6, op := .mv (.t 0) }, { dst := some 7, op := .bin .geq (.t 6) (.v (.c (.i .i64 0))) }, { dst := some 8, op := .mv (.t 7) }, { dst := some 9, op := .mv (.t 0), guard := some (8, true) }, { dst := some 10, op := .bin .lss (.t 9) (.v (.c (.i .i64 7))), guard := some (8, true) }, { dst := some 11, op := .pick (.t 8) (.t 10) (.v (.c (.b false))) }, { dst := some 12, op := .mv (.t 11) }, { dst := some 13, op := .loadN 2 (.t 3), guard := some (12, true) }, { dst := some 14, op := .call 194 [(.t 13)], guard := some (12, true) }, { dst := some 15, op := .un .not (.t 14), guard := some (12, true) }, { dst := some 16, op := .pick (.t 12) (.t 15) (.v (.c (.b false))) }]
def bucket_Put_c1 : ACode := .ops bucket_Put_o1
def bucket_Put_o2 : List AOper := [{ dst := some 17, op := .build ([.i .i64 0, .ns]) [] }, { dst := none, op := .storeN 2 (.t 4) (.t 17) }, { dst := some 5, op := .mv (.v (.c (.i .i64 1))) }]
def bucket_Put_c2 : ACode := .ops bucket_Put_o2
def bucket_Put_c3 : ACode := .seq [4, 5] bucket_Put_c2 .ret
def bucket_Put_c4 : ACode := .cond (.t 16) bucket_Put_c3 .skip
def bucket_Put_c5 : ACode := .seq [0, 3, 4, 16] bucket_Put_c1 bucket_Put_c4
def bucket_Put_o3 : List AOper := [{ dst := some 18, op := .mv (.t 0) }, { dst := some 19, op := .loadN 2 (.t 3) }, { dst := some 20, op := .call 196 [(.t 19)] }, { dst := some 21, op := .call 204 [(.t 18), (.v (.c (.i .i64 0))), (.t 20)] }, { dst := some 22, op := .ext (.t 21) 0 }, { dst := some 23, op := .ext (.t 21) 1 }, { dst := none, op := .storeN 2 (.t 4) (.t 22) }, { dst := some 5, op := .mv (.t 23) }]
def bucket_Put_c6 : ACode := .ops bucket_Put_o3
def bucket_Put_c7 : ACode := .seq [4, 5] bucket_Put_c6 .ret
def bucket_Put_c8 : ACode := .seq [0, 3, 4] bucket_Put_c5 bucket_Put_c7
def bucket_Put_c9 : ACode := .seq [0, 3, 4] bucket_Put_c0 bucket_Put_c8
def A_bucket_Put : AFn := ⟨bucket_Put_c9, [.cellN 4 2, .tmp 5]⟩
noncomputable def E_bucket_Put : Sums := disp 194 S_bucket_may (disp 196 S_bucket_written (disp 204 S_bucket_laid disp0))
noncomputable def bucket_Put_c0_d (n : Nat) : SmV := smOps E_bucket_Put bucket_Put_o0
noncomputable def bucket_Put_c1_d (n : Nat) : SmV := smOps E_bucket_Put bucket_Put_o1
noncomputable def bucket_Put_c2_d (n : Nat) : SmV := smOps E_bucket_Put bucket_Put_o2
noncomputable def bucket_Put_c3_d (n : Nat) : SmV := smSeq [4, 5] (bucket_Put_c2_d n) smRet
noncomputable def bucket_Put_c4_d (n : Nat) : SmV := smCond (.t 16) (bucket_Put_c3_d n) smSkip
noncomputable def bucket_Put_c5_d (n : Nat) : SmV := smSeq [0, 3, 4, 16] (bucket_Put_c1_d n) (bucket_Put_c4_d n)
noncomputable def bucket_Put_c6_d (n : Nat) : SmV := smOps E_bucket_Put bucket_Put_o3
noncomputable def bucket_Put_c7_d (n : Nat) : SmV := smSeq [4, 5] (bucket_Put_c6_d n) smRet
noncomputable def bucket_Put_c8_d (n : Nat) : SmV := smSeq [0, 3, 4] (bucket_Put_c5_d n) (bucket_Put_c7_d n)
noncomputable def bucket_Put_c9_d (n : Nat) : SmV := smSeq [0, 3, 4] (bucket_Put_c0_d n) (bucket_Put_c8_d n)
noncomputable def R_bucket_Put (n : Nat) (args : List Val) (h : Heap) : OptV := (bucket_Put_c9_d n) A_bucket_Put.fin (params 0 args) h
theorem R_bucket_Put_eq (n : Nat) (a0 a1 : Val) (h : Heap) : R_bucket_Put n [a0, a1] h = bnd (cells? a1) fun c1 => bnd (abin .geq a0 (.c (.i .i64 0))) fun v2 => bnd (gd v2 true (some (a0, ((h ++ [some (Row.mk (c1) true)]) ++ [some (Row.mk ([.i .i64 0, .ns]) true)]))) (some (.no, ((h ++ [some (Row.mk (c1) true)]) ++ [some (Row.mk ([.i .i64 0, .ns]) true)])))) fun p3 => bnd (gd v2 true (bnd (abin .lss p3.1 (.c (.i .i64 7))) fun v4 => some (v4, p3.2)) (some (.no, p3.2))) fun p5 => bnd (apick v2 p5.1 (.c (.b false))) fun v6 => bnd (gd v6 true (bnd (aloadN p5.2 2 ((.c (.p h.length 0)))) fun v7 => some (v7, p5.2)) (some (.no, p5.2))) fun p8 => bnd (gd v6 true (bnd (S_bucket_may [p8.1] p8.2) fun p9 => some (p9.1, p9.2)) (some (.no, p8.2))) fun p10 => bnd (gd v6 true (bnd (aun .not p10.1) fun v11 => some (v11, p10.2)) (some (.no, p10.2))) fun p12 => bnd (apick v6 p12.1 (.c (.b false))) fun v13 => cnd v13 (bnd (afill ([.i .i64 0, .ns]) []) fun c14 => bnd (astoreN p12.2 2 ((.c (.p ((h ++ [some (Row.mk (c1) true)])).length 0))) ((.a c14))) fun h15 => tupN [aloadN h15 2 ((.c (.p ((h ++ [some (Row.mk (c1) true)])).length 0))), some (.c (.i .i64 1))] h15) (bnd (aloadN p12.2 2 ((.c (.p h.length 0)))) fun v16 => bnd (S_bucket_written [v16] p12.2) fun p17 => bnd (S_bucket_laid [a0, .c (.i .i64 0), p17.1] p17.2) fun p18 => bnd (aext p18.1 0) fun v19 => bnd (aext p18.1 1) fun v20 => bnd (astoreN p18.2 2 ((.c (.p ((h ++ [some (Row.mk (c1) true)])).length 0))) v19) fun h21 => tupN [aloadN h21 2 ((.c (.p ((h ++ [some (Row.mk (c1) true)])).length 0))), some v20] h21) := by kernel_rfl
theorem K_bucket_Put : FnK Try.prog 168 A_bucket_Put E_bucket_Put R_bucket_Put := .mk' (sound1 S_bucket_may_ok (sound1 S_bucket_written_ok (sound1 S_bucket_laid_ok sound0))) Try.func168 (by kernel_rfl) (by intro n args h; kernel_rfl)
noncomputable def S_bucket_Put : Fun := tidy (Lim A_bucket_Put E_bucket_Put)
theorem S_bucket_Put_ok : SOk Try.prog 168 S_bucket_Put := K_bucket_Put.sok
theorem S_bucket_Put_flat {n : Nat} {args : List Val} {h h2 : Heap} {v : Val} (he : R_bucket_Put n args (ro h) = some (v, h2)) (hf : v.flat = true) : S_bucket_Put args h = some (v, h) := K_bucket_Put.flat he hf
theorem S_bucket_Put_low {n : Nat} {args : List Val} {h h2 : Heap} {v : Val} (he : R_bucket_Put n args (ro h) = some (v, h2)) (hf : v.low h.length = true) : S_bucket_Put args h = some (v, h) := K_bucket_Put.low he hf
theorem S_bucket_Put_tidy {n : Nat} {args : List Val} {h h2 : Heap} {v : Val} {v2 : Val} {ids : List Nat} (he : R_bucket_Put n args (ro h) = some (v, h2)) (hc : canonV h2 h.length v = some (v2, ids)) : S_bucket_Put args h = some (v2, h ++ ids.map (rd h2)) := K_bucket_Put.tidy he hc
def bucket_Clear_o0 : List AOper := [{ dst := some 2, op := .alloc ([.i .i64 0, .ns]) }, { dst := some 3, op := .mv (.v (.c (.i .i64 0))) }]
def bucket_Clear_c0 : ACode := .ops bucket_Clear_o0
def bucket_Clear_o1 : List AOper := [{ dst := some 4, op := .mv (.t 0) }, { dst := some 5, op := .mkSl 1 ([.i .u8 0]) (.v (.c (.i .i64 32))) (.v (.c (.i .i64 32))) }, { dst := some 6, op := .call 204 [(.t 4), (.v (.c (.i .i64 0))), (.t 5)] }, { dst := some 7, op := .ext (.t 6) 0 }, { dst := some 8, op := .ext (.t 6) 1 }, { dst := none, op := .storeN 2 (.t 2) (.t 7) }, { dst := some 3, op := .mv (.t 8) }]
def bucket_Clear_c1 : ACode := .ops bucket_Clear_o1
def bucket_Clear_c2 : ACode := .seq [2, 3] bucket_Clear_c1 .ret
def bucket_Clear_c3 : ACode := .seq [0, 2] bucket_Clear_c0 bucket_Clear_c2
def A_bucket_Clear : AFn := ⟨bucket_Clear_c3, [.cellN 2 2, .tmp 3]⟩
noncomputable def E_bucket_Clear : Sums := disp 204 S_bucket_laid disp0
noncomputable def bucket_Clear_c0_d (n : Nat) : SmV := smOps E_bucket_Clear bucket_Clear_o0
noncomputable def bucket_Clear_c1_d (n : Nat) : SmV := smOps E_bucket_Clear bucket_Clear_o1
noncomputable def bucket_Clear_c2_d (n : Nat) : SmV := smSeq [2, 3] (bucket_Clear_c1_d n) smRet
noncomputable def bucket_Clear_c3_d (n : Nat) : SmV := smSeq [0, 2] (bucket_Clear_c0_d n) (bucket_Clear_c2_d n)
noncomputable def R_bucket_Clear (n : Nat) (args : List Val) (h : Heap) : OptV := (bucket_Clear_c3_d n) A_bucket_Clear.fin (params 0 args) h
theorem R_bucket_Clear_eq (n : Nat) (a0 : Val) (h : Heap) : R_bucket_Clear n [a0] h = bnd (amkn (.c (.i .i64 32)) (.c (.i .i64 32))) fun n1 => bnd (S_bucket_laid [a0, .c (.i .i64 0), (.c (.sl ((h ++ [some (Row.mk ([.i .i64 0, .ns]) true)])).length 0 n1 1))] (((h ++ [some (Row.mk ([.i .i64 0, .ns]) true)]) ++ [some (Row.mk (rows ([.i .u8 0]) n1) true)]))) fun p2 => bnd (aext p2.1 0) fun v3 => bnd (aext p2.1 1) fun v4 => bnd (astoreN p2.2 2 ((.c (.p h.length 0))) v3) fun h5 => tupN [aloadN h5 2 ((.c (.p h.length 0))), some v4] h5 := by kernel_rfl
theorem K_bucket_Clear : FnK Try.prog 169 A_bucket_Clear E_bucket_Clear R_bucket_Clear := .mk' (sound1 S_bucket_laid_ok sound0) Try.func169 (by kernel_rfl) (by intro n args h; kernel_rfl)
noncomputable def S_bucket_Clear : Fun := tidy (Lim A_bucket_Clear E_bucket_Clear)
theorem S_bucket_Clear_ok : SOk Try.prog 169 S_bucket_Clear := K_bucket_Clear.sok
theorem S_bucket_Clear_flat {n : Nat} {args : List Val} {h h2 : Heap} {v : Val} (he : R_bucket_Clear n args (ro h) = some (v, h2)) (hf : v.flat = true) : S_bucket_Clear args h = some (v, h) := K_bucket_Clear.flat he hf
theorem S_bucket_Clear_low {n : Nat} {args : List Val} {h h2 : Heap} {v : Val} (he : R_bucket_Clear n args (ro h) = some (v, h2)) (hf : v.low h.length = true) : S_bucket_Clear args h = some (v, h) := K_bucket_Clear.low he hf
theorem S_bucket_Clear_tidy {n : Nat} {args : List Val} {h h2 : Heap} {v : Val} {v2 : Val} {ids : List Nat} (he : R_bucket_Clear n args (ro h) = some (v, h2)) (hc : canonV h2 h.length v = some (v2, ids)) : S_bucket_Clear args h = some (v2, h ++ ids.map (rd h2)) := K_bucket_Clear.tidy he hc
def bucket_Point_o0 : List AOper := [{ dst := some 4, op := .alloc ([.i .i64 0, .ns]) }, { dst := some 5, op := .mv (.v (.c (.i .i64 0))) }]
def bucket_Point_c0 : ACode := .ops bucket_Point_o0
def bucket_Point_o1 : List AOper := [{ dst := some 6, op := .mv (.t 0) }, { dst := some 7, op := .bin .geq (.t 6) (.v (.c (.i .i64 0))) }, { dst := some 8, op := .mv (.t 7) }, { dst := some 9, op := .mv (.t 0), guard := some (8, true) }, { dst := some 10, op := .bin .lss (.t 9) (.v (.c (.i .i64 7))), guard := some (8, true) }, { dst := some 11, op := .pick (.t 8) (.t 10) (.v (.c (.b false))) }, { dst := some 12, op := .mv (.t 11) }, { dst := some 13, op := .mv (.t 1), guard := some (12, true) }, { dst := some 14, op := .bin .lss (.t 13) (.v (.c (.i .i64 1))), guard := some (12, true) }, { dst := some 15, op := .mv (.t 14), guard := some (12, true) }, { dst := some 16, op := .mv (.t 1), guard := some (15, false) }, { dst := some 17, op := .bin .gtr (.t 16) (.v (.c (.i .i64 128))), guard := some (15, false) }, { dst := some 18, op := .pick (.t 15) (.v (.c (.b true))) (.t 17), guard := some (12, true) }, { dst := some 19, op := .pick (.t 12) (.t 18) (.v (.c (.b false))) }]
def bucket_Point_c1 : ACode := .ops bucket_Point_o1
def bucket_Point_o2 : List AOper := [{ dst := some 20, op := .build ([.i .i64 0, .ns]) [] }, { dst := none, op := .storeN 2 (.t 4) (.t 20) }, { dst := some 5, op := .mv (.v (.c (.i .i64 1))) }]
def bucket_Point_c2 : ACode := .ops bucket_Point_o2
def bucket_Point_c3 : ACode := .seq [4, 5] bucket_Point_c2 .ret
def bucket_Point_c4 : ACode := .cond (.t 19) bucket_Point_c3 .skip
def bucket_Point_c5 : ACode := .seq [0, 1, 4, 19] bucket_Point_c1 bucket_Point_c4
def bucket_Point_o3 : List AOper := [{ dst := some 21, op := .mv (.t 0) }, { dst := some 22, op := .mv (.t 1) }, { dst := some 23, op := .conv .u8 (.t 22) }, { dst := some 24, op := .mv (.t 1) }, { dst := some 25, op := .bin .shr (.t 24) (.v (.c (.i .u64 8))) }, { dst := some 26, op := .conv .u8 (.t 25) }, { dst := some 27, op := .buildSl 1 2 ([.i .u8 0, .i .u8 0]) [(0, 1, (.t 23)), (1, 1, (.t 26))] }, { dst := some 28, op := .call 204 [(.t 21), (.v (.c (.i .i64 0))), (.t 27)] }, { dst := some 29, op := .ext (.t 28) 0 }, { dst := some 30, op := .ext (.t 28) 1 }, { dst := none, op := .storeN 2 (.t 4) (.t 29) }, { dst := some 5, op := .mv (.t 30) }]
def bucket_Point_c6 : ACode := .ops bucket_Point_o3
def bucket_Point_c7 : ACode := .seq [4, 5] bucket_Point_c6 .ret
def bucket_Point_c8 : ACode := .seq [0, 1, 4] bucket_Point_c5 bucket_Point_c7
def bucket_Point_c9 : ACode := .seq [0, 1, 4] bucket_Point_c0 bucket_Point_c8
def A_bucket_Point : AFn := ⟨bucket_Point_c9, [.cellN 4 2, .tmp 5]⟩
noncomputable def E_bucket_Point : Sums := disp 204 S_bucket_laid disp0
noncomputable def bucket_Point_c0_d (n : Nat) : SmV := smOps E_bucket_Point bucket_Point_o0
noncomputable def bucket_Point_c1_d (n : Nat) : SmV := smOps E_bucket_Point bucket_Point_o1
noncomputable def bucket_Point_c2_d (n : Nat) : SmV := smOps E_bucket_Point bucket_Point_o2
noncomputable def bucket_Point_c3_d (n : Nat) : SmV := smSeq [4, 5] (bucket_Point_c2_d n) smRet
noncomputable def bucket_Point_c4_d (n : Nat) : SmV := smCond (.t 19) (bucket_Point_c3_d n) smSkip
noncomputable def bucket_Point_c5_d (n : Nat) : SmV := smSeq [0, 1, 4, 19] (bucket_Point_c1_d n) (bucket_Point_c4_d n)
noncomputable def bucket_Point_c6_d (n : Nat) : SmV := smOps E_bucket_Point bucket_Point_o3
noncomputable def bucket_Point_c7_d (n : Nat) : SmV := smSeq [4, 5] (bucket_Point_c6_d n) smRet
noncomputable def bucket_Point_c8_d (n : Nat) : SmV := smSeq [0, 1, 4] (bucket_Point_c5_d n) (bucket_Point_c7_d n)
noncomputable def bucket_Point_c9_d (n : Nat) : SmV := smSeq [0, 1, 4] (bucket_Point_c0_d n) (bucket_Point_c8_d n)
noncomputable def R_bucket_Point (n : Nat) (args : List Val) (h : Heap) : OptV := (bucket_Point_c9_d n) A_bucket_Point.fin (params 0 args) h
theorem R_bucket_Point_eq (n : Nat) (a0 a1 : Val) (h : Heap) : R_bucket_Point n [a0, a1] h = bnd (abin .geq a0 (.c (.i .i64 0))) fun v1 => bnd (gd v1 true (some (a0, (h ++ [some (Row.mk ([.i .i64 0, .ns]) true)]))) (some (.no, (h ++ [some (Row.mk ([.i .i64 0, .ns]) true)])))) fun p2 => bnd (gd v1 true (bnd (abin .lss p2.1 (.c (.i .i64 7))) fun v3 => some (v3, p2.2)) (some (.no, p2.2))) fun p4 => bnd (apick v1 p4.1 (.c (.b false))) fun v5 => bnd (gd v5 true (some (a1, p4.2)) (some (.no, p4.2))) fun p6 => bnd (gd v5 true (bnd (abin .lss p6.1 (.c (.i .i64 1))) fun v7 => some (v7, p6.2)) (some (.no, p6.2))) fun p8 => bnd (gd v5 true (some (p8.1, p8.2)) (some (.no, p8.2))) fun p9 => bnd (gd p9.1 false (some (a1, p9.2)) (some (.no, p9.2))) fun p10 => bnd (gd p9.1 false (bnd (abin .gtr p10.1 (.c (.i .i64 128))) fun v11 => some (v11, p10.2)) (some (.no, p10.2))) fun p12 => bnd (gd v5 true (bnd (apick p9.1 (.c (.b true)) p12.1) fun v13 => some (v13, p12.2)) (some (.no, p12.2))) fun p14 => bnd (apick v5 p14.1 (.c (.b false))) fun v15 => cnd v15 (bnd (afill ([.i .i64 0, .ns]) []) fun c16 => bnd (astoreN p14.2 2 ((.c (.p h.length 0))) ((.a c16))) fun h17 => tupN [aloadN h17 2 ((.c (.p h.length 0))), some (.c (.i .i64 1))] h17) (bnd (aconv .u8 a1) fun v18 => bnd (abin .shr a1 (.c (.i .u64 8))) fun v19 => bnd (aconv .u8 v19) fun v20 => bnd (afill ([.i .u8 0, .i .u8 0]) [(0, 1, v18), (1, 1, v20)]) fun c21 => bnd (S_bucket_laid [a0, .c (.i .i64 0), (.c (.sl p14.2.length 0 2 1))] ((p14.2 ++ [some (Row.mk (c21) true)]))) fun p22 => bnd (aext p22.1 0) fun v23 => bnd (aext p22.1 1) fun v24 => bnd (astoreN p22.2 2 ((.c (.p h.length 0))) v23) fun h25 => tupN [aloadN h25 2 ((.c (.p h.length 0))), some v24] h25) := by kernel_rfl
theorem K_bucket_Point : FnK Try.prog 170 A_bucket_Point E_bucket_Point R_bucket_Point := .mk' (sound1 S_bucket_laid_ok sound0) Try.func170 (by kernel_rfl) (by intro n args h; kernel_rfl)
noncomputable def S_bucket_Point : Fun := tidy (Lim A_bucket_Point E_bucket_Point)
theorem S_bucket_Point_ok : SOk Try.prog 170 S_bucket_Point := K_bucket_Point.sok
theorem S_bucket_Point_flat {n : Nat} {args : List Val} {h h2 : Heap} {v : Val} (he : R_bucket_Point n args (ro h) = some (v, h2)) (hf : v.flat = true) : S_bucket_Point args h = some (v, h) := K_bucket_Point.flat he hf
theorem S_bucket_Point_low {n : Nat} {args : List Val} {h h2 : Heap} {v : Val} (he : R_bucket_Point n args (ro h) = some (v, h2)) (hf : v.low h.length = true) : S_bucket_Point args h = some (v, h) := K_bucket_Point.low he hf
theorem S_bucket_Point_tidy {n : Nat} {args : List Val} {h h2 : Heap} {v : Val} {v2 : Val} {ids : List Nat} (he : R_bucket_Point n args (ro h) = some (v, h2)) (hc : canonV h2 h.length v = some (v2, ids)) : S_bucket_Point args h = some (v2, h ++ ids.map (rd h2)) := K_bucket_Point.tidy he hc
end Go.Proofs.Ytbbkpmbepljhkaa
