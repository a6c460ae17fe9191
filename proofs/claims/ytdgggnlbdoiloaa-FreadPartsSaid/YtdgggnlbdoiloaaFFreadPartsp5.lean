/- What the proof of this claim leans on, part 5. -/
import Derived.Test.YtdgggnlbdoiloaaFFreadPartsp4
set_option linter.all false
section
namespace Go.Proofs.Ytdgggnlbdoiloaa
open Go Go.Esc
set_option maxRecDepth 100000
def fread_Spans_o0 : List AOper := [{ dst := some 4, op := .nilrow 3 }]
def fread_Spans_c0 : ACode := .ops fread_Spans_o0
def fread_Spans_o1 : List AOper := [{ dst := some 8, op := .mv (.t 0) }, { dst := some 9, op := .max (.v (.c (.i .i64 0))) (.t 8) }, { dst := some 0, op := .mv (.t 9) }]
def fread_Spans_c1 : ACode := .ops fread_Spans_o1
def fread_Spans_o2 : List AOper := [{ dst := some 10, op := .mv (.t 0) }, { dst := some 11, op := .bin .geq (.t 10) (.v (.c (.i .i64 34304))) }]
def fread_Spans_c2 : ACode := .ops fread_Spans_o2
def fread_Spans_o3 : List AOper := [{ dst := some 4, op := .nilrow 3 }]
def fread_Spans_c3 : ACode := .ops fread_Spans_o3
def fread_Spans_c4 : ACode := .seq [4] fread_Spans_c3 .ret
def fread_Spans_c5 : ACode := .cond (.t 11) fread_Spans_c4 .skip
def fread_Spans_c6 : ACode := .seq [0, 1, 11] fread_Spans_c2 fread_Spans_c5
def fread_Spans_o4 : List AOper := [{ dst := some 12, op := .mv (.t 1) }, { dst := some 13, op := .max (.v (.c (.i .i64 0))) (.t 12) }, { dst := some 14, op := .mv (.t 0) }, { dst := some 15, op := .bin .sub (.v (.c (.i .i64 34304))) (.t 14) }, { dst := some 16, op := .min (.t 13) (.t 15) }, { dst := some 1, op := .mv (.t 16) }]
def fread_Spans_c7 : ACode := .ops fread_Spans_o4
def fread_Spans_o5 : List AOper := [{ dst := some 5, op := .nilrow 3 }]
def fread_Spans_c8 : ACode := .ops fread_Spans_o5
def fread_Spans_o6 : List AOper := [{ dst := some 17, op := .mv (.t 1) }, { dst := some 18, op := .bin .gtr (.t 17) (.v (.c (.i .i64 0))) }]
def fread_Spans_c9 : ACode := .ops fread_Spans_o6
def fread_Spans_c10 : ACode := .cond (.t 18) .skip (.exit 0)
def fread_Spans_c11 : ACode := .seq [0, 1, 5, 18] fread_Spans_c9 fread_Spans_c10
def fread_Spans_o7 : List AOper := [{ dst := some 19, op := .mv (.t 0) }, { dst := some 20, op := .bin .rem (.t 19) (.v (.c (.i .i64 256))) }, { dst := some 6, op := .mv (.t 20) }]
def fread_Spans_c12 : ACode := .ops fread_Spans_o7
def fread_Spans_o8 : List AOper := [{ dst := some 21, op := .mv (.t 1) }, { dst := some 22, op := .mv (.t 6) }, { dst := some 23, op := .bin .sub (.v (.c (.i .i64 256))) (.t 22) }, { dst := some 24, op := .min (.t 21) (.t 23) }, { dst := some 7, op := .mv (.t 24) }]
def fread_Spans_c13 : ACode := .ops fread_Spans_o8
def fread_Spans_o9 : List AOper := [{ dst := some 25, op := .mv (.t 5) }, { dst := some 26, op := .mv (.t 0) }, { dst := some 27, op := .bin .quo (.t 26) (.v (.c (.i .i64 256))) }, { dst := some 28, op := .mv (.t 6) }, { dst := some 29, op := .mv (.t 7) }, { dst := some 30, op := .build ([.i .i64 0, .i .i64 0, .i .i64 0]) [(0, 1, (.t 27)), (1, 1, (.t 28)), (2, 1, (.t 29))] }, { dst := some 31, op := .buildSl 3 1 ([.i .i64 0, .i .i64 0, .i .i64 0]) [(0, 3, (.t 30))] }, { dst := some 32, op := .app 3 (.t 25) (.t 31) }, { dst := some 5, op := .mv (.t 32) }]
def fread_Spans_c14 : ACode := .ops fread_Spans_o9
def fread_Spans_o10 : List AOper := [{ dst := some 33, op := .mv (.t 0) }, { dst := some 34, op := .mv (.t 7) }, { dst := some 35, op := .bin .add (.t 33) (.t 34) }, { dst := some 0, op := .mv (.t 35) }]
def fread_Spans_c15 : ACode := .ops fread_Spans_o10
def fread_Spans_o11 : List AOper := [{ dst := some 36, op := .mv (.t 1) }, { dst := some 37, op := .mv (.t 7) }, { dst := some 38, op := .bin .sub (.t 36) (.t 37) }, { dst := some 1, op := .mv (.t 38) }]
def fread_Spans_c16 : ACode := .ops fread_Spans_o11
def fread_Spans_c17 : ACode := .seq [0, 1, 5, 7] fread_Spans_c15 fread_Spans_c16
def fread_Spans_c18 : ACode := .seq [0, 1, 5, 7] fread_Spans_c14 fread_Spans_c17
def fread_Spans_c19 : ACode := .seq [0, 1, 5, 6, 7] fread_Spans_c13 fread_Spans_c18
def fread_Spans_c20 : ACode := .seq [0, 1, 5, 6] fread_Spans_c12 fread_Spans_c19
def fread_Spans_c21 : ACode := .block 1 fread_Spans_c20
def fread_Spans_c22 : ACode := .seq [0, 1, 5] fread_Spans_c11 fread_Spans_c21
def fread_Spans_c23 : ACode := .loop [0, 1, 5] fread_Spans_c22
def fread_Spans_c24 : ACode := .block 0 fread_Spans_c23
def fread_Spans_o12 : List AOper := [{ dst := some 39, op := .mv (.t 5) }, { dst := some 4, op := .mv (.t 39) }]
def fread_Spans_c25 : ACode := .ops fread_Spans_o12
def fread_Spans_c26 : ACode := .seq [4] fread_Spans_c25 .ret
def fread_Spans_c27 : ACode := .seq [5] fread_Spans_c24 fread_Spans_c26
def fread_Spans_c28 : ACode := .seq [0, 1, 5] fread_Spans_c8 fread_Spans_c27
def fread_Spans_c29 : ACode := .seq [0, 1] fread_Spans_c7 fread_Spans_c28
def fread_Spans_c30 : ACode := .seq [0, 1] fread_Spans_c6 fread_Spans_c29
def fread_Spans_c31 : ACode := .seq [0, 1] fread_Spans_c1 fread_Spans_c30
def fread_Spans_c32 : ACode := .seq [0, 1] fread_Spans_c0 fread_Spans_c31
def A_fread_Spans : AFn := ⟨fread_Spans_c32, [.tmp 4]⟩
noncomputable def E_fread_Spans : Sums := disp0
noncomputable def fread_Spans_c0_d (n : Nat) : SmV := smOps E_fread_Spans fread_Spans_o0
noncomputable def fread_Spans_c1_d (n : Nat) : SmV := smOps E_fread_Spans fread_Spans_o1
noncomputable def fread_Spans_c2_d (n : Nat) : SmV := smOps E_fread_Spans fread_Spans_o2
noncomputable def fread_Spans_c3_d (n : Nat) : SmV := smOps E_fread_Spans fread_Spans_o3
noncomputable def fread_Spans_c4_d (n : Nat) : SmV := smSeq [4] (fread_Spans_c3_d n) smRet
noncomputable def fread_Spans_c5_d (n : Nat) : SmV := smCond (.t 11) (fread_Spans_c4_d n) smSkip
noncomputable def fread_Spans_c6_d (n : Nat) : SmV := smSeq [0, 1, 11] (fread_Spans_c2_d n) (fread_Spans_c5_d n)
noncomputable def fread_Spans_c7_d (n : Nat) : SmV := smOps E_fread_Spans fread_Spans_o4
noncomputable def fread_Spans_c8_d (n : Nat) : SmV := smOps E_fread_Spans fread_Spans_o5
noncomputable def fread_Spans_c9_d (n : Nat) : SmV := smOps E_fread_Spans fread_Spans_o6
noncomputable def fread_Spans_c10_d (n : Nat) : SmV := smCond (.t 18) smSkip (smExit 0)
noncomputable def fread_Spans_c11_d (n : Nat) : SmV := smSeq [0, 1, 5, 18] (fread_Spans_c9_d n) (fread_Spans_c10_d n)
noncomputable def fread_Spans_c12_d (n : Nat) : SmV := smOps E_fread_Spans fread_Spans_o7
noncomputable def fread_Spans_c13_d (n : Nat) : SmV := smOps E_fread_Spans fread_Spans_o8
noncomputable def fread_Spans_c14_d (n : Nat) : SmV := smOps E_fread_Spans fread_Spans_o9
noncomputable def fread_Spans_c15_d (n : Nat) : SmV := smOps E_fread_Spans fread_Spans_o10
noncomputable def fread_Spans_c16_d (n : Nat) : SmV := smOps E_fread_Spans fread_Spans_o11
noncomputable def fread_Spans_c17_d (n : Nat) : SmV := smSeq [0, 1, 5, 7] (fread_Spans_c15_d n) (fread_Spans_c16_d n)
noncomputable def fread_Spans_c18_d (n : Nat) : SmV := smSeq [0, 1, 5, 7] (fread_Spans_c14_d n) (fread_Spans_c17_d n)
noncomputable def fread_Spans_c19_d (n : Nat) : SmV := smSeq [0, 1, 5, 6, 7] (fread_Spans_c13_d n) (fread_Spans_c18_d n)
noncomputable def fread_Spans_c20_d (n : Nat) : SmV := smSeq [0, 1, 5, 6] (fread_Spans_c12_d n) (fread_Spans_c19_d n)
noncomputable def fread_Spans_c21_d (n : Nat) : SmV := smBlock 1 (fread_Spans_c20_d n)
noncomputable def fread_Spans_c22_d (n : Nat) : SmV := smSeq [0, 1, 5] (fread_Spans_c11_d n) (fread_Spans_c21_d n)
noncomputable def fread_Spans_c23_d (n : Nat) : SmV := smLoop n [0, 1, 5] (fread_Spans_c22_d n)
noncomputable def fread_Spans_c24_d (n : Nat) : SmV := smBlock 0 (fread_Spans_c23_d n)
noncomputable def fread_Spans_c25_d (n : Nat) : SmV := smOps E_fread_Spans fread_Spans_o12
noncomputable def fread_Spans_c26_d (n : Nat) : SmV := smSeq [4] (fread_Spans_c25_d n) smRet
noncomputable def fread_Spans_c27_d (n : Nat) : SmV := smSeq [5] (fread_Spans_c24_d n) (fread_Spans_c26_d n)
noncomputable def fread_Spans_c28_d (n : Nat) : SmV := smSeq [0, 1, 5] (fread_Spans_c8_d n) (fread_Spans_c27_d n)
noncomputable def fread_Spans_c29_d (n : Nat) : SmV := smSeq [0, 1] (fread_Spans_c7_d n) (fread_Spans_c28_d n)
noncomputable def fread_Spans_c30_d (n : Nat) : SmV := smSeq [0, 1] (fread_Spans_c6_d n) (fread_Spans_c29_d n)
noncomputable def fread_Spans_c31_d (n : Nat) : SmV := smSeq [0, 1] (fread_Spans_c1_d n) (fread_Spans_c30_d n)
noncomputable def fread_Spans_c32_d (n : Nat) : SmV := smSeq [0, 1] (fread_Spans_c0_d n) (fread_Spans_c31_d n)
noncomputable def fread_Spans_k0 (n : Nat) : AExit → Env → Heap → OptV := fun x e h => match x with | .normal => hold ((fread_Spans_c26_d n) A_fread_Spans.fin (e.keep [5]) h) | .exit id => A_fread_Spans.fin (.exit id) e h | .ret => A_fread_Spans.fin .ret e h
noncomputable def fread_Spans_k1 (n : Nat) : AExit → Env → Heap → OptV := fun x e h => match x with | .exit i => bif Nat.beq i 0 then (fread_Spans_k0 n) .normal e h else (fread_Spans_k0 n) (.exit i) e h | .normal => (fread_Spans_k0 n) .normal e h | .ret => (fread_Spans_k0 n) .ret e h
noncomputable def fread_Spans_l0 (n m : Nat) (x0 x1 x5 : Val) (h : Heap) : OptV := around (fread_Spans_c22_d n) [0, 1, 5] (fread_Spans_k1 n) m [(0, x0), (1, x1), (5, x5)] h
noncomputable def R_fread_Spans (n : Nat) (args : List Val) (h : Heap) : OptV := (fread_Spans_c32_d n) A_fread_Spans.fin (params 0 args) h
theorem R_fread_Spans_eq (n : Nat) (a0 a1 : Val) (h : Heap) : R_fread_Spans n [a0, a1] h = bnd (amax (.c (.i .i64 0)) a0) fun v1 => bnd (abin .geq v1 (.c (.i .i64 34304))) fun v2 => cnd v2 (some (((.c (.sl ((h ++ [some (Row.mk ([]) true)])).length 0 0 3))), ((h ++ [some (Row.mk ([]) true)]) ++ [some (Row.mk ([]) true)]))) (bnd (amax (.c (.i .i64 0)) a1) fun v3 => bnd (abin .sub (.c (.i .i64 34304)) v1) fun v4 => bnd (amin v3 v4) fun v5 => fread_Spans_l0 n n v1 v5 ((.c (.sl ((h ++ [some (Row.mk ([]) true)])).length 0 0 3))) (((h ++ [some (Row.mk ([]) true)]) ++ [some (Row.mk ([]) true)]))) := by kernel_rfl
theorem fread_Spans_l0_eq (n m : Nat) (x0 x1 x5 : Val) (h : Heap) : fread_Spans_l0 n (m + 1) x0 x1 x5 h = bnd (abin .gtr x1 (.c (.i .i64 0))) fun v6 => cnd v6 (bnd (abin .rem x0 (.c (.i .i64 256))) fun v7 => bnd (abin .sub (.c (.i .i64 256)) v7) fun v8 => bnd (amin x1 v8) fun v9 => bnd (abin .quo x0 (.c (.i .i64 256))) fun v10 => bnd (afill ([.i .i64 0, .i .i64 0, .i .i64 0]) [(0, 1, v10), (1, 1, v7), (2, 1, v9)]) fun c11 => bnd (afill ([.i .i64 0, .i .i64 0, .i .i64 0]) [(0, 3, (.a c11))]) fun c12 => bnd (aapp ((h ++ [some (Row.mk (c12) true)])) 3 x5 ((.c (.sl h.length 0 1 3)))) fun p13 => bnd (abin .add x0 v9) fun v14 => bnd (abin .sub x1 v9) fun v15 => fread_Spans_l0 n m v14 v15 p13.1 p13.2) (some (x5, h)) := by kernel_rfl
theorem K_fread_Spans : FnK Try.prog 13 A_fread_Spans E_fread_Spans R_fread_Spans := .mk' (sound0) Try.func13 (by kernel_rfl) (by intro n args h; kernel_rfl)
noncomputable def S_fread_Spans : Fun := tidy (Lim A_fread_Spans E_fread_Spans)
theorem S_fread_Spans_ok : SOk Try.prog 13 S_fread_Spans := K_fread_Spans.sok
theorem S_fread_Spans_out {n : Nat} {args : List Val} {h h2 : Heap} {v : Val} {sz k : Nat} {cs : List Cell} (he : R_fread_Spans n args (ro h) = some (v, h2)) (ho : Out h.length h2 v sz k cs) (hf : flats cs = true) : S_fread_Spans args h = some (.c (.sl h.length 0 k sz), h ++ [some ⟨cs, true⟩]) := K_fread_Spans.out he ho hf
def fread_Size_o0 : List AOper := [{ dst := some 1, op := .box (.t 0) }, { dst := some 2, op := .mv (.v (.c (.i .i64 0))) }]
def fread_Size_c0 : ACode := .ops fread_Size_o0
def fread_Size_o1 : List AOper := [{ dst := some 3, op := .fAddr (.t 1) 0 }, { dst := some 4, op := .load1 (.t 3) }, { dst := some 5, op := .bin .neq (.t 4) (.v (.c (.i .i64 1))) }]
def fread_Size_c1 : ACode := .ops fread_Size_o1
def fread_Size_o2 : List AOper := [{ dst := some 2, op := .mv (.v (.c (.i .i64 0))) }]
def fread_Size_c2 : ACode := .ops fread_Size_o2
def fread_Size_c3 : ACode := .seq [2] fread_Size_c2 .ret
def fread_Size_c4 : ACode := .cond (.t 5) fread_Size_c3 .skip
def fread_Size_c5 : ACode := .seq [1, 5] fread_Size_c1 fread_Size_c4
def fread_Size_o3 : List AOper := [{ dst := some 6, op := .fAddr (.t 1) 2 }, { dst := some 7, op := .load1 (.t 6) }, { dst := some 8, op := .min (.t 7) (.v (.c (.i .i64 34304))) }, { dst := some 9, op := .max (.v (.c (.i .i64 0))) (.t 8) }, { dst := some 2, op := .mv (.t 9) }]
def fread_Size_c6 : ACode := .ops fread_Size_o3
def fread_Size_c7 : ACode := .seq [2] fread_Size_c6 .ret
def fread_Size_c8 : ACode := .seq [1] fread_Size_c5 fread_Size_c7
def fread_Size_c9 : ACode := .seq [1] fread_Size_c0 fread_Size_c8
def A_fread_Size : AFn := ⟨fread_Size_c9, [.tmp 2]⟩
noncomputable def E_fread_Size : Sums := disp0
noncomputable def fread_Size_c0_d (n : Nat) : SmV := smOps E_fread_Size fread_Size_o0
noncomputable def fread_Size_c1_d (n : Nat) : SmV := smOps E_fread_Size fread_Size_o1
noncomputable def fread_Size_c2_d (n : Nat) : SmV := smOps E_fread_Size fread_Size_o2
noncomputable def fread_Size_c3_d (n : Nat) : SmV := smSeq [2] (fread_Size_c2_d n) smRet
noncomputable def fread_Size_c4_d (n : Nat) : SmV := smCond (.t 5) (fread_Size_c3_d n) smSkip
noncomputable def fread_Size_c5_d (n : Nat) : SmV := smSeq [1, 5] (fread_Size_c1_d n) (fread_Size_c4_d n)
noncomputable def fread_Size_c6_d (n : Nat) : SmV := smOps E_fread_Size fread_Size_o3
noncomputable def fread_Size_c7_d (n : Nat) : SmV := smSeq [2] (fread_Size_c6_d n) smRet
noncomputable def fread_Size_c8_d (n : Nat) : SmV := smSeq [1] (fread_Size_c5_d n) (fread_Size_c7_d n)
noncomputable def fread_Size_c9_d (n : Nat) : SmV := smSeq [1] (fread_Size_c0_d n) (fread_Size_c8_d n)
noncomputable def R_fread_Size (n : Nat) (args : List Val) (h : Heap) : OptV := (fread_Size_c9_d n) A_fread_Size.fin (params 0 args) h
theorem R_fread_Size_eq (n : Nat) (a0 : Val) (h : Heap) : R_fread_Size n [a0] h = bnd (cells? a0) fun c1 => bnd (afAddr ((.c (.p h.length 0))) 0) fun v2 => bnd (aload1 ((h ++ [some (Row.mk (c1) true)])) v2) fun v3 => bnd (abin .neq v3 (.c (.i .i64 1))) fun v4 => cnd v4 (some ((.c (.i .i64 0)), (h ++ [some (Row.mk (c1) true)]))) (bnd (afAddr ((.c (.p h.length 0))) 2) fun v5 => bnd (aload1 ((h ++ [some (Row.mk (c1) true)])) v5) fun v6 => bnd (amin v6 (.c (.i .i64 34304))) fun v7 => bnd (amax (.c (.i .i64 0)) v7) fun v8 => some (v8, (h ++ [some (Row.mk (c1) true)]))) := by kernel_rfl
theorem K_fread_Size : FnK Try.prog 19 A_fread_Size E_fread_Size R_fread_Size := .mk' (sound0) Try.func19 (by kernel_rfl) (by intro n args h; kernel_rfl)
noncomputable def S_fread_Size : Fun := tidy (Lim A_fread_Size E_fread_Size)
theorem S_fread_Size_ok : SOk Try.prog 19 S_fread_Size := K_fread_Size.sok
theorem S_fread_Size_flat {n : Nat} {args : List Val} {h h2 : Heap} {v : Val} (he : R_fread_Size n args (ro h) = some (v, h2)) (hf : v.flat = true) : S_fread_Size args h = some (v, h) := K_fread_Size.flat he hf
def fread_Read_o0 : List AOper := [{ dst := some 4, op := .box (.t 0) }, { dst := some 5, op := .box (.t 1) }, { dst := some 8, op := .nilrow 1 }]
def fread_Read_c0 : ACode := .ops fread_Read_o0
def fread_Read_o1 : List AOper := [{ dst := some 13, op := .mv (.t 2) }, { dst := some 14, op := .bin .lss (.t 13) (.v (.c (.i .i64 0))) }, { dst := some 15, op := .mv (.t 14) }, { dst := some 16, op := .mv (.t 2), guard := some (15, false) }, { dst := some 17, op := .loadN 11 (.t 5), guard := some (15, false) }, { dst := some 18, op := .call 19 [(.t 17)], guard := some (15, false) }, { dst := some 19, op := .bin .geq (.t 16) (.t 18), guard := some (15, false) }, { dst := some 20, op := .pick (.t 15) (.v (.c (.b true))) (.t 19) }, { dst := some 21, op := .mv (.t 20) }, { dst := some 22, op := .mv (.t 3), guard := some (21, false) }, { dst := some 23, op := .bin .lss (.t 22) (.v (.c (.i .i64 1))), guard := some (21, false) }, { dst := some 24, op := .pick (.t 21) (.v (.c (.b true))) (.t 23) }]
def fread_Read_c1 : ACode := .ops fread_Read_o1
def fread_Read_o2 : List AOper := [{ dst := some 8, op := .nilrow 1 }]
def fread_Read_c2 : ACode := .ops fread_Read_o2
def fread_Read_c3 : ACode := .seq [8] fread_Read_c2 .ret
def fread_Read_c4 : ACode := .cond (.t 24) fread_Read_c3 .skip
def fread_Read_c5 : ACode := .seq [2, 3, 4, 5, 24] fread_Read_c1 fread_Read_c4
def fread_Read_o3 : List AOper := [{ dst := some 9, op := .nilrow 1 }]
def fread_Read_c6 : ACode := .ops fread_Read_o3
def fread_Read_o4 : List AOper := [{ dst := some 25, op := .mv (.t 2) }, { dst := some 26, op := .mv (.t 3) }, { dst := some 27, op := .loadN 11 (.t 5) }, { dst := some 28, op := .call 19 [(.t 27)] }, { dst := some 29, op := .mv (.t 2) }, { dst := some 30, op := .bin .sub (.t 28) (.t 29) }, { dst := some 31, op := .min (.t 26) (.t 30) }, { dst := some 32, op := .call 13 [(.t 25), (.t 31)] }, { dst := some 33, op := .len (.t 32) }, { dst := some 34, op := .mv (.v (.c (.i .i64 0))) }]
def fread_Read_c7 : ACode := .ops fread_Read_o4
def fread_Read_o5 : List AOper := [{ dst := some 35, op := .bin .lss (.t 34) (.t 33) }]
def fread_Read_c8 : ACode := .ops fread_Read_o5
def fread_Read_c9 : ACode := .cond (.t 35) .skip (.exit 0)
def fread_Read_o6 : List AOper := [{ dst := some 36, op := .iAddrL 3 (.t 32) (.t 34) }, { dst := some 37, op := .loadN 3 (.t 36) }, { dst := some 11, op := .alloc ([.i .i64 0, .i .i64 0, .i .i64 0]) }, { dst := none, op := .storeN 3 (.t 11) (.t 37) }]
def fread_Read_c10 : ACode := .ops fread_Read_o6
def fread_Read_o7 : List AOper := [{ dst := some 38, op := .loadN 4 (.t 4) }, { dst := some 39, op := .loadN 11 (.t 5) }, { dst := some 40, op := .iAddrA 3 1 (.t 11) (.v (.c (.i .i64 0))) }, { dst := some 41, op := .load1 (.t 40) }, { dst := some 42, op := .call 28 [(.t 38), (.t 39), (.t 41)] }, { dst := some 12, op := .mv (.t 42) }]
def fread_Read_c11 : ACode := .ops fread_Read_o7
def fread_Read_o8 : List AOper := [{ dst := some 43, op := .mv (.t 12) }, { dst := some 44, op := .bin .neq (.t 43) (.v (.c (.i .i64 0))) }]
def fread_Read_c12 : ACode := .ops fread_Read_o8
def fread_Read_o9 : List AOper := [{ dst := some 45, op := .mv (.t 9) }, { dst := some 46, op := .loadN 4 (.t 4) }, { dst := some 47, op := .mv (.t 12) }, { dst := some 48, op := .call 38 [(.t 46), (.t 47)] }, { dst := some 49, op := .iAddrA 3 1 (.t 11) (.v (.c (.i .i64 1))) }, { dst := some 50, op := .load1 (.t 49) }, { dst := some 51, op := .iAddrA 3 1 (.t 11) (.v (.c (.i .i64 2))) }, { dst := some 52, op := .load1 (.t 51) }, { dst := some 53, op := .call 57 [(.t 48), (.t 50), (.t 52)] }]
def fread_Read_o10 : List AOper := [{ dst := some 54, op := .app 1 (.t 45) (.t 53) }, { dst := some 9, op := .mv (.t 54) }]
def fread_Read_c13 : ACode := .draw 0 fread_Read_o9 fread_Read_o10
def fread_Read_o11 : List AOper := [{ dst := some 55, op := .mv (.t 9) }, { dst := some 56, op := .iAddrA 3 1 (.t 11) (.v (.c (.i .i64 2))) }, { dst := some 57, op := .load1 (.t 56) }, { dst := some 58, op := .appZ 1 ([.i .u8 0]) (.t 55) (.t 57) }, { dst := some 9, op := .mv (.t 58) }]
def fread_Read_c14 : ACode := .ops fread_Read_o11
def fread_Read_c15 : ACode := .cond (.t 44) fread_Read_c13 fread_Read_c14
def fread_Read_c16 : ACode := .seq [4, 5, 9, 11, 12, 32, 33, 34, 44] fread_Read_c12 fread_Read_c15
def fread_Read_c17 : ACode := .seq [4, 5, 9, 11, 12, 32, 33, 34] fread_Read_c11 fread_Read_c16
def fread_Read_c18 : ACode := .seq [4, 5, 9, 11, 32, 33, 34] fread_Read_c10 fread_Read_c17
def fread_Read_c19 : ACode := .block 1 fread_Read_c18
def fread_Read_o12 : List AOper := [{ dst := some 59, op := .bin .add (.t 34) (.v (.c (.i .i64 1))) }, { dst := some 34, op := .mv (.t 59) }]
def fread_Read_c20 : ACode := .ops fread_Read_o12
def fread_Read_c21 : ACode := .seq [4, 5, 9, 32, 33, 34] fread_Read_c19 fread_Read_c20
def fread_Read_c22 : ACode := .seq [4, 5, 9, 32, 33, 34] fread_Read_c9 fread_Read_c21
def fread_Read_c23 : ACode := .seq [4, 5, 9, 32, 33, 34, 35] fread_Read_c8 fread_Read_c22
def fread_Read_c24 : ACode := .loop [4, 5, 9, 32, 33, 34] fread_Read_c23
def fread_Read_c25 : ACode := .block 0 fread_Read_c24
def fread_Read_c26 : ACode := .seq [4, 5, 9, 32, 33, 34] fread_Read_c7 fread_Read_c25
def fread_Read_o13 : List AOper := [{ dst := some 60, op := .mv (.t 9) }, { dst := some 8, op := .mv (.t 60) }]
def fread_Read_c27 : ACode := .ops fread_Read_o13
def fread_Read_c28 : ACode := .seq [8] fread_Read_c27 .ret
def fread_Read_c29 : ACode := .seq [9] fread_Read_c26 fread_Read_c28
def fread_Read_c30 : ACode := .seq [2, 3, 4, 5, 9] fread_Read_c6 fread_Read_c29
def fread_Read_c31 : ACode := .seq [2, 3, 4, 5] fread_Read_c5 fread_Read_c30
def fread_Read_c32 : ACode := .seq [2, 3, 4, 5] fread_Read_c0 fread_Read_c31
def A_fread_Read : AFn := ⟨fread_Read_c32, [.tmp 8]⟩
noncomputable def E_fread_Read : Sums := disp 19 S_fread_Size (disp 13 S_fread_Spans (disp 28 S_fmap_At (disp 38 S_view_View_Block__Of_1 (disp 57 S_num_Cut disp0))))
noncomputable def fread_Read_c0_d (n : Nat) : SmV := smOps E_fread_Read fread_Read_o0
noncomputable def fread_Read_c1_d (n : Nat) : SmV := smOps E_fread_Read fread_Read_o1
noncomputable def fread_Read_c2_d (n : Nat) : SmV := smOps E_fread_Read fread_Read_o2
noncomputable def fread_Read_c3_d (n : Nat) : SmV := smSeq [8] (fread_Read_c2_d n) smRet
noncomputable def fread_Read_c4_d (n : Nat) : SmV := smCond (.t 24) (fread_Read_c3_d n) smSkip
noncomputable def fread_Read_c5_d (n : Nat) : SmV := smSeq [2, 3, 4, 5, 24] (fread_Read_c1_d n) (fread_Read_c4_d n)
noncomputable def fread_Read_c6_d (n : Nat) : SmV := smOps E_fread_Read fread_Read_o3
noncomputable def fread_Read_c7_d (n : Nat) : SmV := smOps E_fread_Read fread_Read_o4
noncomputable def fread_Read_c8_d (n : Nat) : SmV := smOps E_fread_Read fread_Read_o5
noncomputable def fread_Read_c9_d (n : Nat) : SmV := smCond (.t 35) smSkip (smExit 0)
noncomputable def fread_Read_c10_d (n : Nat) : SmV := smOps E_fread_Read fread_Read_o6
noncomputable def fread_Read_c11_d (n : Nat) : SmV := smOps E_fread_Read fread_Read_o7
noncomputable def fread_Read_c12_d (n : Nat) : SmV := smOps E_fread_Read fread_Read_o8
noncomputable def fread_Read_c13_d (n : Nat) : SmV := smDraw E_fread_Read 0 fread_Read_o9 fread_Read_o10
noncomputable def fread_Read_c14_d (n : Nat) : SmV := smOps E_fread_Read fread_Read_o11
noncomputable def fread_Read_c15_d (n : Nat) : SmV := smCond (.t 44) (fread_Read_c13_d n) (fread_Read_c14_d n)
noncomputable def fread_Read_c16_d (n : Nat) : SmV := smSeq [4, 5, 9, 11, 12, 32, 33, 34, 44] (fread_Read_c12_d n) (fread_Read_c15_d n)
noncomputable def fread_Read_c17_d (n : Nat) : SmV := smSeq [4, 5, 9, 11, 12, 32, 33, 34] (fread_Read_c11_d n) (fread_Read_c16_d n)
noncomputable def fread_Read_c18_d (n : Nat) : SmV := smSeq [4, 5, 9, 11, 32, 33, 34] (fread_Read_c10_d n) (fread_Read_c17_d n)
noncomputable def fread_Read_c19_d (n : Nat) : SmV := smBlock 1 (fread_Read_c18_d n)
noncomputable def fread_Read_c20_d (n : Nat) : SmV := smOps E_fread_Read fread_Read_o12
noncomputable def fread_Read_c21_d (n : Nat) : SmV := smSeq [4, 5, 9, 32, 33, 34] (fread_Read_c19_d n) (fread_Read_c20_d n)
noncomputable def fread_Read_c22_d (n : Nat) : SmV := smSeq [4, 5, 9, 32, 33, 34] (fread_Read_c9_d n) (fread_Read_c21_d n)
noncomputable def fread_Read_c23_d (n : Nat) : SmV := smSeq [4, 5, 9, 32, 33, 34, 35] (fread_Read_c8_d n) (fread_Read_c22_d n)
noncomputable def fread_Read_c24_d (n : Nat) : SmV := smLoop n [4, 5, 9, 32, 33, 34] (fread_Read_c23_d n)
noncomputable def fread_Read_c25_d (n : Nat) : SmV := smBlock 0 (fread_Read_c24_d n)
noncomputable def fread_Read_c26_d (n : Nat) : SmV := smSeq [4, 5, 9, 32, 33, 34] (fread_Read_c7_d n) (fread_Read_c25_d n)
noncomputable def fread_Read_c27_d (n : Nat) : SmV := smOps E_fread_Read fread_Read_o13
noncomputable def fread_Read_c28_d (n : Nat) : SmV := smSeq [8] (fread_Read_c27_d n) smRet
noncomputable def fread_Read_c29_d (n : Nat) : SmV := smSeq [9] (fread_Read_c26_d n) (fread_Read_c28_d n)
noncomputable def fread_Read_c30_d (n : Nat) : SmV := smSeq [2, 3, 4, 5, 9] (fread_Read_c6_d n) (fread_Read_c29_d n)
noncomputable def fread_Read_c31_d (n : Nat) : SmV := smSeq [2, 3, 4, 5] (fread_Read_c5_d n) (fread_Read_c30_d n)
noncomputable def fread_Read_c32_d (n : Nat) : SmV := smSeq [2, 3, 4, 5] (fread_Read_c0_d n) (fread_Read_c31_d n)
noncomputable def fread_Read_k0 (n : Nat) : AExit → Env → Heap → OptV := fun x e h => match x with | .normal => hold ((fread_Read_c28_d n) A_fread_Read.fin (e.keep [9]) h) | .exit id => A_fread_Read.fin (.exit id) e h | .ret => A_fread_Read.fin .ret e h
noncomputable def fread_Read_k1 (n : Nat) : AExit → Env → Heap → OptV := fun x e h => match x with | .exit i => bif Nat.beq i 0 then (fread_Read_k0 n) .normal e h else (fread_Read_k0 n) (.exit i) e h | .normal => (fread_Read_k0 n) .normal e h | .ret => (fread_Read_k0 n) .ret e h
noncomputable def fread_Read_l0 (n m : Nat) (x4 x5 x9 x32 x33 x34 : Val) (h : Heap) : OptV := around (fread_Read_c23_d n) [4, 5, 9, 32, 33, 34] (fread_Read_k1 n) m [(4, x4), (5, x5), (9, x9), (32, x32), (33, x33), (34, x34)] h
noncomputable def R_fread_Read (n : Nat) (args : List Val) (h : Heap) : OptV := (fread_Read_c32_d n) A_fread_Read.fin (params 0 args) h
noncomputable def fread_Read_k2 (n m : Nat) : AExit → Env → Heap → OptV := fun x e h => match x with | .normal => around (fread_Read_c23_d n) [4, 5, 9, 32, 33, 34] (fread_Read_k1 n) m (e.keep [4, 5, 9, 32, 33, 34]) h | .exit id => (fread_Read_k1 n) (.exit id) e h | .ret => (fread_Read_k1 n) .ret e h
noncomputable def fread_Read_j0 (n m : Nat) (x4 x5 x9 x32 x33 x34 : Val) (h : Heap) : OptV := hold ((fread_Read_c20_d n) (fread_Read_k2 n m) [(4, x4), (5, x5), (9, x9), (32, x32), (33, x33), (34, x34)] h)
theorem R_fread_Read_eq (n : Nat) (a0 a1 a2 a3 : Val) (h : Heap) : R_fread_Read n [a0, a1, a2, a3] h = bnd (cells? a0) fun c1 => bnd (cells? a1) fun c2 => bnd (abin .lss a2 (.c (.i .i64 0))) fun v3 => bnd (gd v3 false (some (a2, (((h ++ [some (Row.mk (c1) true)]) ++ [some (Row.mk (c2) true)]) ++ [some (Row.mk ([]) true)]))) (some (.no, (((h ++ [some (Row.mk (c1) true)]) ++ [some (Row.mk (c2) true)]) ++ [some (Row.mk ([]) true)])))) fun p4 => bnd (gd v3 false (bnd (aloadN p4.2 11 ((.c (.p ((h ++ [some (Row.mk (c1) true)])).length 0)))) fun v5 => some (v5, p4.2)) (some (.no, p4.2))) fun p6 => bnd (gd v3 false (bnd (S_fread_Size [p6.1] p6.2) fun p7 => some (p7.1, p7.2)) (some (.no, p6.2))) fun p8 => bnd (gd v3 false (bnd (abin .geq p4.1 p8.1) fun v9 => some (v9, p8.2)) (some (.no, p8.2))) fun p10 => bnd (apick v3 (.c (.b true)) p10.1) fun v11 => bnd (gd v11 false (some (a3, p10.2)) (some (.no, p10.2))) fun p12 => bnd (gd v11 false (bnd (abin .lss p12.1 (.c (.i .i64 1))) fun v13 => some (v13, p12.2)) (some (.no, p12.2))) fun p14 => bnd (apick v11 (.c (.b true)) p14.1) fun v15 => cnd v15 (some (((.c (.sl p14.2.length 0 0 1))), (p14.2 ++ [some (Row.mk ([]) true)]))) (bnd (aloadN ((p14.2 ++ [some (Row.mk ([]) true)])) 11 ((.c (.p ((h ++ [some (Row.mk (c1) true)])).length 0)))) fun v16 => bnd (S_fread_Size [v16] ((p14.2 ++ [some (Row.mk ([]) true)]))) fun p17 => bnd (abin .sub p17.1 a2) fun v18 => bnd (amin a3 v18) fun v19 => bnd (S_fread_Spans [a2, v19] p17.2) fun p20 => bnd (alen p20.1) fun v21 => fread_Read_l0 n n ((.c (.p h.length 0))) ((.c (.p ((h ++ [some (Row.mk (c1) true)])).length 0))) ((.c (.sl p14.2.length 0 0 1))) p20.1 v21 (.c (.i .i64 0)) p20.2) := by kernel_rfl
theorem fread_Read_l0_eq (n m : Nat) (x4 x5 x9 x32 x33 x34 : Val) (h : Heap) : fread_Read_l0 n (m + 1) x4 x5 x9 x32 x33 x34 h = bnd (abin .lss x34 x33) fun v22 => cnd v22 (bnd (aiAddrL 3 x32 x34) fun v23 => bnd (aloadN h 3 v23) fun v24 => bnd (astoreN ((h ++ [some (Row.mk ([.i .i64 0, .i .i64 0, .i .i64 0]) true)])) 3 ((.c (.p h.length 0))) v24) fun h25 => bnd (aloadN h25 4 x4) fun v26 => bnd (aloadN h25 11 x5) fun v27 => bnd (aiAddrA 3 1 ((.c (.p h.length 0))) (.c (.i .i64 0))) fun v28 => bnd (aload1 h25 v28) fun v29 => bnd (S_fmap_At [v26, v27, v29] h25) fun p30 => bnd (abin .neq p30.1 (.c (.i .i64 0))) fun v31 => cnd v31 (bnd (aloadN p30.2 4 x4) fun v32 => bnd (quiet ((p30.2 ++ [])) (S_view_View_Block__Of_1 [v32, p30.1] ((p30.2 ++ [])))) fun p33 => bnd (aiAddrA 3 1 ((.c (.p h.length 0))) (.c (.i .i64 1))) fun v34 => bnd (aload1 p30.2 v34) fun v35 => bnd (aiAddrA 3 1 ((.c (.p h.length 0))) (.c (.i .i64 2))) fun v36 => bnd (aload1 p30.2 v36) fun v37 => bnd (quiet p33.2 (S_num_Cut [p33.1, v35, v37] p33.2)) fun p38 => bnd (aapp p38.2 1 x9 p38.1) fun p39 => fread_Read_j0 n m x4 x5 p39.1 x32 x33 x34 p39.2) (bnd (aiAddrA 3 1 ((.c (.p h.length 0))) (.c (.i .i64 2))) fun v40 => bnd (aload1 p30.2 v40) fun v41 => bnd (aappZ p30.2 1 ([.i .u8 0]) x9 v41) fun p42 => fread_Read_j0 n m x4 x5 p42.1 x32 x33 x34 p42.2)) (some (x9, h)) := by kernel_rfl
theorem fread_Read_j0_eq (n m : Nat) (x4 x5 x9 x32 x33 x34 : Val) (h : Heap) : fread_Read_j0 n m x4 x5 x9 x32 x33 x34 h = bnd (abin .add x34 (.c (.i .i64 1))) fun v43 => fread_Read_l0 n m x4 x5 x9 x32 x33 v43 h := by kernel_rfl
theorem K_fread_Read : FnK Try.prog 20 A_fread_Read E_fread_Read R_fread_Read := .mk' (sound1 S_fread_Size_ok (sound1 S_fread_Spans_ok (sound1 S_fmap_At_ok (sound1 S_view_View_Block__Of_1_ok (sound1 S_num_Cut_ok sound0))))) Try.func20 (by kernel_rfl) (by intro n args h; kernel_rfl)
noncomputable def S_fread_Read : Fun := tidy (Lim A_fread_Read E_fread_Read)
theorem S_fread_Read_ok : SOk Try.prog 20 S_fread_Read := K_fread_Read.sok
theorem S_fread_Read_out {n : Nat} {args : List Val} {h h2 : Heap} {v : Val} {sz k : Nat} {cs : List Cell} (he : R_fread_Read n args (ro h) = some (v, h2)) (ho : Out h.length h2 v sz k cs) (hf : flats cs = true) : S_fread_Read args h = some (.c (.sl h.length 0 k sz), h ++ [some ⟨cs, true⟩]) := K_fread_Read.out he ho hf
def fread_All_o0 : List AOper := [{ dst := some 2, op := .box (.t 0) }, { dst := some 3, op := .box (.t 1) }, { dst := some 4, op := .nilrow 1 }]
def fread_All_c0 : ACode := .ops fread_All_o0
def fread_All_o1 : List AOper := [{ dst := some 5, op := .loadN 4 (.t 2) }, { dst := some 6, op := .loadN 11 (.t 3) }, { dst := some 7, op := .call 20 [(.t 5), (.t 6), (.v (.c (.i .i64 0))), (.v (.c (.i .i64 34304)))] }, { dst := some 4, op := .mv (.t 7) }]
def fread_All_c1 : ACode := .ops fread_All_o1
def fread_All_c2 : ACode := .seq [4] fread_All_c1 .ret
def fread_All_c3 : ACode := .seq [2, 3] fread_All_c0 fread_All_c2
def A_fread_All : AFn := ⟨fread_All_c3, [.tmp 4]⟩
noncomputable def E_fread_All : Sums := disp 20 S_fread_Read disp0
noncomputable def fread_All_c0_d (n : Nat) : SmV := smOps E_fread_All fread_All_o0
noncomputable def fread_All_c1_d (n : Nat) : SmV := smOps E_fread_All fread_All_o1
noncomputable def fread_All_c2_d (n : Nat) : SmV := smSeq [4] (fread_All_c1_d n) smRet
noncomputable def fread_All_c3_d (n : Nat) : SmV := smSeq [2, 3] (fread_All_c0_d n) (fread_All_c2_d n)
noncomputable def R_fread_All (n : Nat) (args : List Val) (h : Heap) : OptV := (fread_All_c3_d n) A_fread_All.fin (params 0 args) h
theorem R_fread_All_eq (n : Nat) (a0 a1 : Val) (h : Heap) : R_fread_All n [a0, a1] h = bnd (cells? a0) fun c1 => bnd (cells? a1) fun c2 => bnd (aloadN ((((h ++ [some (Row.mk (c1) true)]) ++ [some (Row.mk (c2) true)]) ++ [some (Row.mk ([]) true)])) 4 ((.c (.p h.length 0)))) fun v3 => bnd (aloadN ((((h ++ [some (Row.mk (c1) true)]) ++ [some (Row.mk (c2) true)]) ++ [some (Row.mk ([]) true)])) 11 ((.c (.p ((h ++ [some (Row.mk (c1) true)])).length 0)))) fun v4 => bnd (S_fread_Read [v3, v4, .c (.i .i64 0), .c (.i .i64 34304)] ((((h ++ [some (Row.mk (c1) true)]) ++ [some (Row.mk (c2) true)]) ++ [some (Row.mk ([]) true)]))) fun p5 => some (p5.1, p5.2) := by kernel_rfl
theorem K_fread_All : FnK Try.prog 18 A_fread_All E_fread_All R_fread_All := .mk' (sound1 S_fread_Read_ok sound0) Try.func18 (by kernel_rfl) (by intro n args h; kernel_rfl)
noncomputable def S_fread_All : Fun := tidy (Lim A_fread_All E_fread_All)
theorem S_fread_All_ok : SOk Try.prog 18 S_fread_All := K_fread_All.sok
theorem S_fread_All_out {n : Nat} {args : List Val} {h h2 : Heap} {v : Val} {sz k : Nat} {cs : List Cell} (he : R_fread_All n args (ro h) = some (v, h2)) (ho : Out h.length h2 v sz k cs) (hf : flats cs = true) : S_fread_All args h = some (.c (.sl h.length 0 k sz), h ++ [some ⟨cs, true⟩]) := K_fread_All.out he ho hf
end Go.Proofs.Ytdgggnlbdoiloaa
end
section
namespace Go.Proofs.Ytdgggnlbdoiloaa
open Go Go.Esc

theorem amax_i {k : IntKind} {a b : Int} : amax (.c (.i k a)) (.c (.i k b)) = some (.c (.i k (if a < b then b else a))) := rfl
theorem amin_i {k : IntKind} {a b : Int} : amin (.c (.i k a)) (.c (.i k b)) = some (.c (.i k (if b < a then b else a))) := rfl

def offI (off : Int) : Int := if 0 < off then off else 0
def manyS (off n : Int) : Nat := if offI off < 34304 then (if 34304 - offI off < (if 0 < n then n else 0) then 34304 - offI off else (if 0 < n then n else 0)).toNat else 0
def spansI (off n : Int) : List Spn := spn (manyS off n) (offI off).toNat (manyS off n)

theorem fspans_loop {g : Heap} {q : Nat} : ∀ (e off n m id : Nat) (h : Heap) (l : List Spn), n ≤ e → e < m → off + n ≤ 34304 → l.length + n ≤ 40000 → Low g.length g h → g.length ≤ id → rd h id = some ⟨spC l, true⟩ →
    ∃ v' h', fread_Spans_l0 q m (.c (.i .i64 (off : Int))) (.c (.i .i64 (n : Int))) (.c (.sl id 0 l.length 3)) h = some (v', h') ∧ Out g.length h' v' 3 (l ++ spn e off n).length (spC (l ++ spn e off n))
  | e, off, n, 0, id, h, l, _, hm, _, _, _, _, _ => by omega
  | 0, off, n, m + 1, id, h, l, hn, hm, ho, hl, hlow, hb, hr => by
    have e0 : n = 0 := by omega
    subst e0
    have c0 : ¬ (0 : Int) < ((0 : Nat) : Int) := by omega
    rw [fread_Spans_l0_eq, spn_zero, List.append_nil]
    exact ⟨_, _, by simp only [afAddr_p, List.append_nil, if_true, if_false, bnd_some, mp_some, cnd_t, cnd_f, gd_no, gd_tt, gd_tf, gd_ft, gd_ff, alenS_s, alen_sl, alen_ns, abin_add, abin_sub, abin_mul, abin_eql, abin_neq, abin_lss, abin_leq, abin_gtr, abin_geq, abin_seql, abin_sneq, abin_slss, aun_not, aun_neg, agn_some, aeqN_nf, aeqN_f, aeqN_np, aeqN_p, anilc_p, aeqB_t, aeqB_f, aconv_i, apick_b, cond_true, cond_false, decide_true, decide_false, Bool.not_true, Bool.not_false, aext_t, ofPart_c, ofPart_a, part?_c, part?_a, cells?_c, cells?_a, tupN_2, tupN_3, Option.map_some, Option.some.injEq, List.getElem?_cons_zero, List.getElem?_cons_succ, not_true_eq_false, not_false_eq_true, quiet_same, bytesI_length, Option.join_some, List.append_assoc, List.cons_append, List.nil_append, List.length_append, List.length_cons, List.length_nil, Nat.zero_add, Nat.add_zero, rd_at, rd_at0, set_at, set_at0, List.set_cons_zero, List.set_cons_succ, ne_eq, decide_not, quiet_ext, newOk_some, List.cons_prefix_cons, List.nil_prefix, List.drop_succ_cons, List.drop_zero, List.all_cons, List.all_nil, Bool.and_true, true_and, and_true, c0] <;> rfl, spC_length, id, rfl, hb, hr⟩
  | e + 1, off, n, m + 1, id, h, l, hn, hm, ho, hl, hlow, hb, hr => by
    by_cases h0 : n = 0
    · subst h0
      have c0 : ¬ (0 : Int) < ((0 : Nat) : Int) := by omega
      rw [fread_Spans_l0_eq, spn_zero, List.append_nil]
      exact ⟨_, _, by simp only [afAddr_p, List.append_nil, if_true, if_false, bnd_some, mp_some, cnd_t, cnd_f, gd_no, gd_tt, gd_tf, gd_ft, gd_ff, alenS_s, alen_sl, alen_ns, abin_add, abin_sub, abin_mul, abin_eql, abin_neq, abin_lss, abin_leq, abin_gtr, abin_geq, abin_seql, abin_sneq, abin_slss, aun_not, aun_neg, agn_some, aeqN_nf, aeqN_f, aeqN_np, aeqN_p, anilc_p, aeqB_t, aeqB_f, aconv_i, apick_b, cond_true, cond_false, decide_true, decide_false, Bool.not_true, Bool.not_false, aext_t, ofPart_c, ofPart_a, part?_c, part?_a, cells?_c, cells?_a, tupN_2, tupN_3, Option.map_some, Option.some.injEq, List.getElem?_cons_zero, List.getElem?_cons_succ, not_true_eq_false, not_false_eq_true, quiet_same, bytesI_length, Option.join_some, List.append_assoc, List.cons_append, List.nil_append, List.length_append, List.length_cons, List.length_nil, Nat.zero_add, Nat.add_zero, rd_at, rd_at0, set_at, set_at0, List.set_cons_zero, List.set_cons_succ, ne_eq, decide_not, quiet_ext, newOk_some, List.cons_prefix_cons, List.nil_prefix, List.drop_succ_cons, List.drop_zero, List.all_cons, List.all_nil, Bool.and_true, true_and, and_true, c0] <;> rfl, spC_length, id, rfl, hb, hr⟩
    · have c0 : (0 : Int) < (n : Int) := by omega
      rw [spn_step (by omega)]
      generalize hK : min n (256 - off % 256) = K
      have r1 : abin .rem (.c (.i .i64 (off : Int))) (.c (.i .i64 256)) = some (.c (.i .i64 ((off % 256 : Nat) : Int))) := by
        rw [rem_i (by omega) (by omega)]; congr 3
      have w1 : IntKind.wrap .i64 (256 - ((off % 256 : Nat) : Int)) = ((256 - off % 256 : Nat) : Int) := by rw [wrap_i64 (by omega) (by omega)]; omega
      have m1 : amin (.c (.i .i64 (n : Int))) (.c (.i .i64 ((256 - off % 256 : Nat) : Int))) = some (.c (.i .i64 (K : Int))) := by
        rw [amin_i]
        congr 3
        split <;> omega
      have q1 : abin .quo (.c (.i .i64 (off : Int))) (.c (.i .i64 256)) = some (.c (.i .i64 ((off / 256 : Nat) : Int))) := by
        rw [quo_i64 (by omega) (by omega) (by omega)]; congr 3
      have ef1 : afill [Cell.i .i64 0, .i .i64 0, .i .i64 0] [(0, 1, .c (.i .i64 ((off / 256 : Nat) : Int))), (1, 1, .c (.i .i64 ((off % 256 : Nat) : Int))), (2, 1, .c (.i .i64 (K : Int)))] = some (spC [(off / 256, off % 256, K)]) := rfl
      have ef2 : afill [Cell.i .i64 0, .i .i64 0, .i .i64 0] [(0, 3, .a (spC [(off / 256, off % 256, K)]))] = some (spC [(off / 256, off % 256, K)]) := rfl
      obtain ⟨h', a1, a2, a3, a4, a5⟩ := push (ys := spC [(off / 256, off % 256, K)]) hlow hr spC_length hb rfl (by omega) (by omega)
      rw [← spC_append] at a2 a5
      have w2 : IntKind.wrap .i64 ((off : Int) + (K : Int)) = ((off + K : Nat) : Int) := wi_add (by omega)
      have w3 : IntKind.wrap .i64 ((n : Int) - (K : Int)) = ((n - K : Nat) : Int) := by rw [wrap_i64 (by omega) (by omega)]; omega
      have el : (l ++ [(off / 256, off % 256, K)]).length = l.length + 1 := by simp
      obtain ⟨v', h'', f1, f2⟩ := fspans_loop (q := q) e (off + K) (n - K) m (h.length + 1) h' (l ++ [(off / 256, off % 256, K)]) (by omega) (by omega) (by omega) (by simp; omega) a3 a4 a2
      rw [List.append_assoc, List.singleton_append] at f2
      rw [el] at f1
      refine ⟨v', h'', ?_, f2⟩
      rw [fread_Spans_l0_eq]
      simp only [afAddr_p, List.append_nil, if_true, if_false, bnd_some, mp_some, cnd_t, cnd_f, gd_no, gd_tt, gd_tf, gd_ft, gd_ff, alenS_s, alen_sl, alen_ns, abin_add, abin_sub, abin_mul, abin_eql, abin_neq, abin_lss, abin_leq, abin_gtr, abin_geq, abin_seql, abin_sneq, abin_slss, aun_not, aun_neg, agn_some, aeqN_nf, aeqN_f, aeqN_np, aeqN_p, anilc_p, aeqB_t, aeqB_f, aconv_i, apick_b, cond_true, cond_false, decide_true, decide_false, Bool.not_true, Bool.not_false, aext_t, ofPart_c, ofPart_a, part?_c, part?_a, cells?_c, cells?_a, tupN_2, tupN_3, Option.map_some, Option.some.injEq, List.getElem?_cons_zero, List.getElem?_cons_succ, not_true_eq_false, not_false_eq_true, quiet_same, bytesI_length, Option.join_some, List.append_assoc, List.cons_append, List.nil_append, List.length_append, List.length_cons, List.length_nil, Nat.zero_add, Nat.add_zero, rd_at, rd_at0, set_at, set_at0, List.set_cons_zero, List.set_cons_succ, ne_eq, decide_not, quiet_ext, newOk_some, List.cons_prefix_cons, List.nil_prefix, List.drop_succ_cons, List.drop_zero, List.all_cons, List.all_nil, Bool.and_true, true_and, and_true, c0, r1, w1, m1, q1, ef1, ef2, a1, w2, w3]
      exact f1

theorem fread_Spans_eq {off n : Int} {h : Heap} (h1 : off < 9223372036854775808) : S_fread_Spans [.c (.i .i64 off), .c (.i .i64 n)] h = some (.c (.sl h.length 0 (spansI off n).length 3), h ++ [some ⟨spC (spansI off n), true⟩]) := by
  have key : ∀ g, ∃ v g', R_fread_Spans (manyS off n + 1) [.c (.i .i64 off), .c (.i .i64 n)] g = some (v, g') ∧ Out g.length g' v 3 (spansI off n).length (spC (spansI off n)) := by
    intro g
    have x1 := amax_i (k := .i64) (a := 0) (b := off)
    have x2 := amax_i (k := .i64) (a := 0) (b := n)
    rw [R_fread_Spans_eq]
    unfold spansI
    have ho : (if 0 < off then off else 0) = offI off := rfl
    rw [ho] at x1
    have hN : manyS off n = if offI off < 34304 then (if 34304 - offI off < (if 0 < n then n else 0) then 34304 - offI off else (if 0 < n then n else 0)).toNat else 0 := rfl
    have p1 : 0 ≤ offI off := by unfold offI; split <;> omega
    have p2 : 0 ≤ (if 0 < n then n else 0) := by split <;> omega
    generalize (if 0 < n then n else 0) = n1 at *
    generalize offI off = o1 at *
    by_cases c1 : 34304 ≤ o1
    · rw [if_neg (by omega)] at hN
      rw [hN, spn_zero]
      exact ⟨_, _, by simp only [afAddr_p, List.append_nil, if_true, if_false, bnd_some, mp_some, cnd_t, cnd_f, gd_no, gd_tt, gd_tf, gd_ft, gd_ff, alenS_s, alen_sl, alen_ns, abin_add, abin_sub, abin_mul, abin_eql, abin_neq, abin_lss, abin_leq, abin_gtr, abin_geq, abin_seql, abin_sneq, abin_slss, aun_not, aun_neg, agn_some, aeqN_nf, aeqN_f, aeqN_np, aeqN_p, anilc_p, aeqB_t, aeqB_f, aconv_i, apick_b, cond_true, cond_false, decide_true, decide_false, Bool.not_true, Bool.not_false, aext_t, ofPart_c, ofPart_a, part?_c, part?_a, cells?_c, cells?_a, tupN_2, tupN_3, Option.map_some, Option.some.injEq, List.getElem?_cons_zero, List.getElem?_cons_succ, not_true_eq_false, not_false_eq_true, quiet_same, bytesI_length, Option.join_some, List.append_assoc, List.cons_append, List.nil_append, List.length_append, List.length_cons, List.length_nil, Nat.zero_add, Nat.add_zero, rd_at, rd_at0, set_at, set_at0, List.set_cons_zero, List.set_cons_succ, ne_eq, decide_not, quiet_ext, newOk_some, List.cons_prefix_cons, List.nil_prefix, List.drop_succ_cons, List.drop_zero, List.all_cons, List.all_nil, Bool.and_true, true_and, and_true, x1, c1] <;> rfl, rfl, g.length + 1, by simp, by omega, by simp [spC]⟩
    · rw [if_pos (by omega)] at hN
      have w1 : IntKind.wrap .i64 (34304 - o1) = 34304 - o1 := wrap_i64 (by omega) (by omega)
      have x3 := amin_i (k := .i64) (a := n1) (b := 34304 - o1)
      have e1 : (if 34304 - o1 < n1 then 34304 - o1 else n1) = ((manyS off n : Nat) : Int) := by rw [hN]; split <;> omega
      rw [e1] at x3
      generalize manyS off n = N at *
      obtain ⟨o2, rfl⟩ : ∃ o2 : Nat, o1 = o2 := ⟨o1.toNat, by omega⟩
      obtain ⟨v', h', f1, f2⟩ := fspans_loop (g := g) (q := N + 1) N o2 N (N + 1) (g.length + 1) (g ++ [some (Row.mk [] true), some (Row.mk [] true)]) [] (by omega) (by omega) (by split at e1 <;> omega) (by simp; split at e1 <;> omega) ((Low.refl (Nat.le_refl _)).new _) (by omega) (by simp [spC])
      rw [List.nil_append] at f2
      rw [List.length_nil] at f1
      refine ⟨v', h', ?_, f2⟩
      simp only [afAddr_p, List.append_nil, if_true, if_false, bnd_some, mp_some, cnd_t, cnd_f, gd_no, gd_tt, gd_tf, gd_ft, gd_ff, alenS_s, alen_sl, alen_ns, abin_add, abin_sub, abin_mul, abin_eql, abin_neq, abin_lss, abin_leq, abin_gtr, abin_geq, abin_seql, abin_sneq, abin_slss, aun_not, aun_neg, agn_some, aeqN_nf, aeqN_f, aeqN_np, aeqN_p, anilc_p, aeqB_t, aeqB_f, aconv_i, apick_b, cond_true, cond_false, decide_true, decide_false, Bool.not_true, Bool.not_false, aext_t, ofPart_c, ofPart_a, part?_c, part?_a, cells?_c, cells?_a, tupN_2, tupN_3, Option.map_some, Option.some.injEq, List.getElem?_cons_zero, List.getElem?_cons_succ, not_true_eq_false, not_false_eq_true, quiet_same, bytesI_length, Option.join_some, List.append_assoc, List.cons_append, List.nil_append, List.length_append, List.length_cons, List.length_nil, Nat.zero_add, Nat.add_zero, rd_at, rd_at0, set_at, set_at0, List.set_cons_zero, List.set_cons_succ, ne_eq, decide_not, quiet_ext, newOk_some, List.cons_prefix_cons, List.nil_prefix, List.drop_succ_cons, List.drop_zero, List.all_cons, List.all_nil, Bool.and_true, true_and, and_true, x1, x2, c1, w1, x3]
      exact f1
  obtain ⟨v, g', e, ho⟩ := key (ro h)
  exact S_fread_Spans_out e (by simpa [ro_length] using ho) spC_flat

end Go.Proofs.Ytdgggnlbdoiloaa
end
section
namespace Go.Proofs.Ytdgggnlbdoiloaa
open Go Go.Esc

def sizeF (k s : Int) : Int := if k = 1 then (if 0 < (if 34304 < s then 34304 else s) then (if 34304 < s then 34304 else s) else 0) else 0
theorem sizeF_range {k s : Int} : 0 ≤ sizeF k s ∧ sizeF k s ≤ 34304 := by
  unfold sizeF
  split
  · split <;> split <;> omega
  · omega
theorem sizeF_kind {k s : Int} (h : 0 < sizeF k s) : k = 1 := by
  unfold sizeF at h
  split at h
  · assumption
  · omega

theorem fread_Size_eq {k l s p : Int} {d : List Int} {h : Heap} : S_fread_Size [.a (inoC k l s p d)] h = some (.c (.i .i64 (sizeF k s)), h) := by
  have key : ∀ g, ∃ g', R_fread_Size 0 [.a (inoC k l s p d)] g = some (.c (.i .i64 (sizeF k s)), g') := by
    intro g
    have i0 : (inoC k l s p d)[0]? = some (.i .i64 k) := rfl
    have i2 : (inoC k l s p d)[2]? = some (.i .i64 s) := rfl
    have x1 := amin_i (k := .i64) (a := s) (b := 34304)
    rw [R_fread_Size_eq]
    generalize inoC k l s p d = I at *
    unfold sizeF
    by_cases c1 : k = 1
    · rw [if_pos c1]
      generalize (if 34304 < s then 34304 else s) = y at *
      have x2 := amax_i (k := .i64) (a := 0) (b := y)
      exact ⟨_, by simp only [afAddr_p, List.append_nil, if_true, if_false, bnd_some, mp_some, cnd_t, cnd_f, gd_no, gd_tt, gd_tf, gd_ft, gd_ff, alenS_s, alen_sl, alen_ns, abin_add, abin_sub, abin_mul, abin_eql, abin_neq, abin_lss, abin_leq, abin_gtr, abin_geq, abin_seql, abin_sneq, abin_slss, aun_not, aun_neg, agn_some, aeqN_nf, aeqN_f, aeqN_np, aeqN_p, anilc_p, aeqB_t, aeqB_f, aconv_i, apick_b, cond_true, cond_false, decide_true, decide_false, Bool.not_true, Bool.not_false, aext_t, ofPart_c, ofPart_a, part?_c, part?_a, cells?_c, cells?_a, tupN_2, tupN_3, Option.map_some, Option.some.injEq, List.getElem?_cons_zero, List.getElem?_cons_succ, not_true_eq_false, not_false_eq_true, quiet_same, bytesI_length, Option.join_some, List.append_assoc, List.cons_append, List.nil_append, List.length_append, List.length_cons, List.length_nil, Nat.zero_add, Nat.add_zero, rd_at, rd_at0, set_at, set_at0, List.set_cons_zero, List.set_cons_succ, ne_eq, decide_not, quiet_ext, newOk_some, List.cons_prefix_cons, List.nil_prefix, List.drop_succ_cons, List.drop_zero, List.all_cons, List.all_nil, Bool.and_true, true_and, and_true, aloadN_at, aloadN_at0, aload1_at, aload1_at0, astoreN_at, astoreN_at0, astore1_at, astore1_at0, aslA_at, aslA_at0, ldN_all, ld1_row, stN_all, st1_row, slr_all, Nat.reduceAdd, Nat.reduceMul, Nat.reduceLT, eq_self, i0, i2, c1, x1, x2] <;> rfl⟩
    · rw [if_neg c1]
      exact ⟨_, by simp only [afAddr_p, List.append_nil, if_true, if_false, bnd_some, mp_some, cnd_t, cnd_f, gd_no, gd_tt, gd_tf, gd_ft, gd_ff, alenS_s, alen_sl, alen_ns, abin_add, abin_sub, abin_mul, abin_eql, abin_neq, abin_lss, abin_leq, abin_gtr, abin_geq, abin_seql, abin_sneq, abin_slss, aun_not, aun_neg, agn_some, aeqN_nf, aeqN_f, aeqN_np, aeqN_p, anilc_p, aeqB_t, aeqB_f, aconv_i, apick_b, cond_true, cond_false, decide_true, decide_false, Bool.not_true, Bool.not_false, aext_t, ofPart_c, ofPart_a, part?_c, part?_a, cells?_c, cells?_a, tupN_2, tupN_3, Option.map_some, Option.some.injEq, List.getElem?_cons_zero, List.getElem?_cons_succ, not_true_eq_false, not_false_eq_true, quiet_same, bytesI_length, Option.join_some, List.append_assoc, List.cons_append, List.nil_append, List.length_append, List.length_cons, List.length_nil, Nat.zero_add, Nat.add_zero, rd_at, rd_at0, set_at, set_at0, List.set_cons_zero, List.set_cons_succ, ne_eq, decide_not, quiet_ext, newOk_some, List.cons_prefix_cons, List.nil_prefix, List.drop_succ_cons, List.drop_zero, List.all_cons, List.all_nil, Bool.and_true, true_and, and_true, aloadN_at, aloadN_at0, aload1_at, aload1_at0, astoreN_at, astoreN_at0, astore1_at, astore1_at0, aslA_at, aslA_at0, ldN_all, ld1_row, stN_all, st1_row, slr_all, Nat.reduceAdd, Nat.reduceMul, Nat.reduceLT, eq_self, i0, i2, c1] <;> rfl⟩
  obtain ⟨g', e⟩ := key (ro h)
  exact S_fread_Size_flat e rfl

def byteF (D : Dev) (n : Int) (d : List Int) (p : Nat) : UInt8 := if datF1 D n d (p / 256) = 0 then 0 else (blk D (datF1 D n d (p / 256))).getD (p % 256) 0
def pieceF (D : Dev) (n : Int) (d : List Int) (s : Spn) : List UInt8 := (List.range' (s.1 * 256 + s.2.1) s.2.2).map (byteF D n d)
theorem pieceF_none {D : Dev} {n : Int} {d : List Int} {a b c : Nat} (hc : b + c ≤ 256) (h0 : datF1 D n d a = 0) : pieceF D n d (a, b, c) = zeros c := by
  unfold pieceF zeros
  refine List.ext_getElem (by simp) fun i h1 h2 => ?_
  simp only [List.length_replicate] at h2
  rw [List.getElem_map, List.getElem_range', List.getElem_replicate]
  unfold byteF
  have e : (a * 256 + b + 1 * i) / 256 = a := by omega
  rw [e, if_pos h0]
theorem pieceF_some {D : Dev} {n : Int} {d : List Int} {a b c : Nat} (hD : okD D) (hc : b + c ≤ 256) (h0 : datF1 D n d a ≠ 0) : pieceF D n d (a, b, c) = ((blk D (datF1 D n d a)).drop b).take c := by
  have hl := blk_length hD (i := datF1 D n d a)
  unfold pieceF
  refine List.ext_getElem (by simp [hl]; omega) fun i h1 h2 => ?_
  have hi : i < c := by simpa using h1
  rw [List.getElem_map, List.getElem_range', List.getElem_take, List.getElem_drop]
  unfold byteF
  have e : (a * 256 + b + 1 * i) / 256 = a := by omega
  have e2 : (a * 256 + b + 1 * i) % 256 = b + i := by omega
  rw [e, e2, if_neg h0, List.getD_eq_getElem?_getD, List.getElem?_eq_getElem (by omega)]
  rfl

theorem pushK {h : Heap} {id n m sz : Nat} {cs ys : List Cell} (hr : rd h id = some ⟨cs, true⟩) (hl : cs.length = n * sz) (hy : ys.length = m * sz) (hsz : 0 < sz) (hn : n + m ≤ 1073741824) :
    ∃ h', aapp (h ++ [some ⟨ys, true⟩]) sz (.c (.sl id 0 n sz)) (.c (.sl h.length 0 m sz)) = some (.c (.sl (h.length + 1) 0 (n + m) sz), h') ∧ rd h' (h.length + 1) = some ⟨cs ++ ys, true⟩ ∧ (∀ i r, i ≠ id → rd h i = some r → rd h' i = some r) ∧ (∀ b, b ≤ id → b ≤ h.length → Low b h h') := by
  have hlt := rd_lt hr
  refine ⟨(h ++ [some (Row.mk ys true)]).set id none ++ [some (Row.mk (cs ++ ys) true)], ?_, ?_, fun i r hi hir => ?_, fun b hb hb2 => (((Low.refl hb2).new _).set hb none).new _⟩
  · rw [app_of (h := h ++ [some ⟨ys, true⟩]) (rd_append hr) hl rd_new hy rfl hsz hn]
    simp
  · have := rd_new (h := (h ++ [some (Row.mk ys true)]).set id none) (r := Row.mk (cs ++ ys) true)
    rw [List.length_set] at this
    simpa using this
  · refine rd_append ?_
    rw [rd_set_other (Ne.symm hi)]
    exact rd_append hir

theorem pushZK {h : Heap} {id n m : Nat} {cs : List Cell} (hr : rd h id = some ⟨cs, true⟩) (hl : cs.length = n) (hn : n + m ≤ 1073741824) :
    ∃ h', aappZ h 1 [.i .u8 0] (.c (.sl id 0 n 1)) (.c (.i .i64 (m : Int))) = some (.c (.sl h.length 0 (n + m) 1), h') ∧ rd h' h.length = some ⟨cs ++ encB (zeros m), true⟩ ∧ (∀ i r, i ≠ id → rd h i = some r → rd h' i = some r) ∧ (∀ b, b ≤ id → b ≤ h.length → Low b h h') := by
  have hm : nat? (.c (.i .i64 (m : Int))) = some m := by simp only [nat?]; rw [if_pos (by omega)]; simp
  refine ⟨h.set id none ++ [some (Row.mk (cs ++ encB (zeros m)) true)], ?_, ?_, fun i r hi hir => ?_, fun b hb hb2 => ((Low.refl hb2).set hb none).new _⟩
  · simp only [aappZ, hm, Option.bind_some, hr, rows_zero]
    rw [if_pos ⟨trivial, trivial, by omega, trivial, hn⟩]
  · have := rd_new (h := h.set id none) (r := Row.mk (cs ++ encB (zeros m)) true)
    rw [List.length_set] at this
    exact this
  · refine rd_append ?_
    rw [rd_set_other (Ne.symm hi)]
    exact hir

theorem low_of {g h h' : Heap} (h1 : Low g.length g h) (h2 : Low g.length h h') : Low g.length g h' := h1.trans h2

theorem read_loop {D : Dev} {n m k l s p : Int} {d : List Int} {f : Cell} {g : Heap} {pv q sid : Nat} {L : List Spn} (hD : okD D) (hd : d.length = 7) (hv : IsView g f D) (hk : k = 1)
    (h1 : rd g pv = some ⟨vwC D.length n m f, true⟩) (h2 : rd g (pv + 1) = some ⟨inoC k l s p d, true⟩) (hL : ∀ s ∈ L, s.2.1 < 256 ∧ s.2.1 + s.2.2 ≤ 256 ∧ s.1 < 134) (hLl : L.length ≤ 40000) :
    ∀ (e i M id : Nat) (h : Heap) (bs : List UInt8), i + e = L.length → e < M → bs.length ≤ i * 256 → Low g.length g h → g.length ≤ id → id ≠ sid → rd h sid = some ⟨spC L, true⟩ → rd h id = some ⟨encB bs, true⟩ →
    ∃ v' h', fread_Read_l0 q M (.c (.p pv 0)) (.c (.p (pv + 1) 0)) (.c (.sl id 0 bs.length 1)) (.c (.sl sid 0 L.length 3)) (.c (.i .i64 (L.length : Int))) (.c (.i .i64 (i : Int))) h = some (v', h') ∧
      Out g.length h' v' 1 (bs ++ ((L.drop i).map (pieceF D n d)).flatten).length (encB (bs ++ ((L.drop i).map (pieceF D n d)).flatten))
  | e, i, 0, id, h, bs, _, hM, _, _, _, _, _, _ => by omega
  | 0, i, M + 1, id, h, bs, hi, hM, hb, hlow, hid, hne, hs, hr => by
    have e0 : i = L.length := by omega
    subst e0
    have c0 : ¬ ((L.length : Nat) : Int) < (L.length : Nat) := by omega
    have e1 : (L.drop L.length) = [] := List.drop_of_length_le (Nat.le_refl _)
    rw [fread_Read_l0_eq, e1, List.map_nil, List.flatten_nil, List.append_nil]
    exact ⟨_, _, by simp only [afAddr_p, List.append_nil, if_true, if_false, bnd_some, mp_some, cnd_t, cnd_f, gd_no, gd_tt, gd_tf, gd_ft, gd_ff, alenS_s, alen_sl, alen_ns, abin_add, abin_sub, abin_mul, abin_eql, abin_neq, abin_lss, abin_leq, abin_gtr, abin_geq, abin_seql, abin_sneq, abin_slss, aun_not, aun_neg, agn_some, aeqN_nf, aeqN_f, aeqN_np, aeqN_p, anilc_p, aeqB_t, aeqB_f, aconv_i, apick_b, cond_true, cond_false, decide_true, decide_false, Bool.not_true, Bool.not_false, aext_t, ofPart_c, ofPart_a, part?_c, part?_a, cells?_c, cells?_a, tupN_2, tupN_3, Option.map_some, Option.some.injEq, List.getElem?_cons_zero, List.getElem?_cons_succ, not_true_eq_false, not_false_eq_true, quiet_same, bytesI_length, Option.join_some, List.append_assoc, List.cons_append, List.nil_append, List.length_append, List.length_cons, List.length_nil, Nat.zero_add, Nat.add_zero, rd_at, rd_at0, set_at, set_at0, List.set_cons_zero, List.set_cons_succ, ne_eq, decide_not, quiet_ext, newOk_some, List.cons_prefix_cons, List.nil_prefix, List.drop_succ_cons, List.drop_zero, List.all_cons, List.all_nil, Bool.and_true, true_and, and_true, c0] <;> rfl, by rw [encB_length, Nat.mul_one], id, rfl, hid, hr⟩
  | e + 1, i, M + 1, id, h, bs, hi, hM, hb, hlow, hid, hne, hs, hr => by
    have hil : i < L.length := by omega
    have c0 : (i : Int) < (L.length : Nat) := by omega
    obtain ⟨a, b, c⟩ : ∃ x, x = L[i] := ⟨_, rfl⟩
    obtain ⟨sp, hsp⟩ : ∃ x, x = L[i] := ⟨_, rfl⟩
    obtain ⟨a, b, c⟩ := sp
    have hm := hL L[i] (List.getElem_mem hil)
    rw [← hsp] at hm
    dsimp only at hm
    have g1 := hlow.rd h1
    have hgl := hlow.2.1
    have g2 := hlow.rd h2
    have hvh := hv.since hlow
    have ad : aiAddrL 3 (.c (.sl sid 0 L.length 3)) (.c (.i .i64 (i : Int))) = some (.c (.p sid (i * 3))) := by rw [iAddrL_of hil, Nat.zero_add]
    have t1 : aloadN h 3 (.c (.p sid (i * 3))) = some (.a [Cell.i .i64 (a : Int), .i .i64 (b : Int), .i .i64 (c : Int)]) := by
      rw [loadN_of hs (by rw [spC_length]; omega) (by simp), spC_at L i (a, b, c) (by rw [List.getElem?_eq_getElem hil, hsp])]
    obtain ⟨H, hH⟩ : ∃ H, H = h ++ [some (Row.mk [Cell.i .i64 (a : Int), .i .i64 (b : Int), .i .i64 (c : Int)] true)] := ⟨_, rfl⟩
    have lH : H.length = h.length + 1 := by rw [hH]; simp
    have k1 : rd H pv = some ⟨vwC D.length n m f, true⟩ := by rw [hH]; exact rd_append g1
    have k2 : rd H (pv + 1) = some ⟨inoC k l s p d, true⟩ := by rw [hH]; exact rd_append g2
    have k3 : rd H h.length = some ⟨[Cell.i .i64 (a : Int), .i .i64 (b : Int), .i .i64 (c : Int)], true⟩ := by rw [hH]; exact rd_new
    have lowH : Low g.length g H := by rw [hH]; exact hlow.new _
    have hs2 : rd H sid = some ⟨spC L, true⟩ := by rw [hH]; exact rd_append hs
    have hr2 : rd H id = some ⟨encB bs, true⟩ := by rw [hH]; exact rd_append hr
    have hvH := hv.since lowH
    have st : astoreN (h ++ [some (Row.mk [.i .i64 0, .i .i64 0, .i .i64 0] true)]) 3 (.c (.p h.length 0)) (.a [Cell.i .i64 (a : Int), .i .i64 (b : Int), .i .i64 (c : Int)]) = some H := by
      rw [hH, astoreN_at0]
      rfl
    have q1 := loadAll (h := H) (id := pv) k1 (n := 4) rfl
    have q2 := loadAll (h := H) (id := pv + 1) k2 (n := 11) (by show (inoC k l s p d).length = 11; simp [inoC, encI_length, hd])
    have q3 : aload1 H (.c (.p h.length 0)) = some (.c (.i .i64 (a : Int))) := load1_of k3 rfl rfl
    have q4 : aload1 H (.c (.p h.length 1)) = some (.c (.i .i64 (b : Int))) := load1_of k3 rfl rfl
    have q5 : aload1 H (.c (.p h.length 2)) = some (.c (.i .i64 (c : Int))) := load1_of k3 rfl rfl
    have ad0 : aiAddrA 3 1 (.c (.p h.length 0)) (.c (.i .i64 0)) = some (.c (.p h.length 0)) := rfl
    have ad1 : aiAddrA 3 1 (.c (.p h.length 0)) (.c (.i .i64 1)) = some (.c (.p h.length 1)) := rfl
    have ad2 : aiAddrA 3 1 (.c (.p h.length 0)) (.c (.i .i64 2)) = some (.c (.p h.length 2)) := rfl
    have hA := fmap_At_eq (n := n) (m := m) (k := k) (l := l) (s := s) (p := p) (j := (a : Int)) hD hd hvH
    have hat : atF D n k d (a : Int) = datF1 D n d a := by unfold atF; rw [if_pos (by omega), Int.toNat_natCast]
    rw [hat] at hA
    have hdrop : L.drop i = (a, b, c) :: L.drop (i + 1) := by rw [List.drop_eq_getElem_cons hil, ← hsp]
    have w1 := wi_succ (show i + 1 < 9223372036854775808 by omega)
    rw [hdrop, List.map_cons, List.flatten_cons, fread_Read_l0_eq]
    obtain ⟨V, hV0⟩ : ∃ V, vwC D.length n m f = V := ⟨_, rfl⟩
    rw [hV0] at q1 hA
    obtain ⟨I, hI0⟩ : ∃ I, inoC k l s p d = I := ⟨_, rfl⟩
    rw [hI0] at q2 hA
    by_cases cz : datF1 D n d a = 0
    · rw [pieceF_none (by omega) cz]
      rw [cz] at hA
      obtain ⟨h', a1, a2, a3, a4⟩ := pushZK (m := c) hr2 (by rw [encB_length]) (by omega)
      rw [← encB_append] at a2
      have el : (bs ++ zeros c).length = bs.length + c := by simp
      obtain ⟨v', h'', f1, f2⟩ := read_loop hD hd hv hk h1 h2 hL hLl e (i + 1) M H.length h' (bs ++ zeros c) (by omega) (by omega) (by rw [el]; omega) (low_of lowH (a4 _ hid (by omega))) (by omega) (by have := rd_lt hs; omega) (a3 _ _ (Ne.symm hne) hs2) a2
      rw [List.append_assoc] at f2
      rw [el] at f1
      refine ⟨v', h'', ?_, f2⟩
      simp only [afAddr_p, List.append_nil, if_true, if_false, bnd_some, mp_some, cnd_t, cnd_f, gd_no, gd_tt, gd_tf, gd_ft, gd_ff, alenS_s, alen_sl, alen_ns, abin_add, abin_sub, abin_mul, abin_eql, abin_neq, abin_lss, abin_leq, abin_gtr, abin_geq, abin_seql, abin_sneq, abin_slss, aun_not, aun_neg, agn_some, aeqN_nf, aeqN_f, aeqN_np, aeqN_p, anilc_p, aeqB_t, aeqB_f, aconv_i, apick_b, cond_true, cond_false, decide_true, decide_false, Bool.not_true, Bool.not_false, aext_t, ofPart_c, ofPart_a, part?_c, part?_a, cells?_c, cells?_a, tupN_2, tupN_3, Option.map_some, Option.some.injEq, List.getElem?_cons_zero, List.getElem?_cons_succ, not_true_eq_false, not_false_eq_true, quiet_same, bytesI_length, Option.join_some, List.append_assoc, List.cons_append, List.nil_append, List.length_append, List.length_cons, List.length_nil, Nat.zero_add, Nat.add_zero, rd_at, rd_at0, set_at, set_at0, List.set_cons_zero, List.set_cons_succ, ne_eq, decide_not, quiet_ext, newOk_some, List.cons_prefix_cons, List.nil_prefix, List.drop_succ_cons, List.drop_zero, List.all_cons, List.all_nil, Bool.and_true, true_and, and_true, c0, ad, t1, st, q1, q2, q5, ad0, q3, ad2, hA, eq_self, a1, fread_Read_j0_eq, w1]
      exact f1
    · rw [pieceF_some hD (by omega) cz]
      have hB := view_Block_eq (n := n) (m := m) (no := datF1 D n d a) hD hvH
      rw [hV0] at hB
      have hC := num_Cut_eq (h := H) (blk_length hD (i := datF1 D n d a)) (a := (b : Int)) (n := (c : Int))
      have ecut : cutB (blk D (datF1 D n d a)) (b : Int) (c : Int) = ((blk D (datF1 D n d a)).drop b).take c := by
        unfold cutB
        rw [if_pos (by omega), Int.toNat_natCast, Int.toNat_natCast]
      rw [ecut] at hC
      have hcl : (((blk D (datF1 D n d a)).drop b).take c).length = c := by
        rw [List.length_take, List.length_drop, blk_length hD]; omega
      generalize ((blk D (datF1 D n d a)).drop b).take c = cc at *
      rw [hcl] at hC
      have hQ := quiet_grows (h := H) (v := .c (.sl H.length 0 c 1)) (Grows.rfl'.new (encB cc))
      obtain ⟨h', a1, a2, a3, a4⟩ := pushK (n := bs.length) (m := c) (sz := 1) (ys := encB cc) hr2 (by rw [encB_length]; omega) (by rw [encB_length]; omega) (by omega) (by omega)
      rw [← encB_append] at a2
      have el : (bs ++ cc).length = bs.length + c := by simp [hcl]
      obtain ⟨v', h'', f1, f2⟩ := read_loop hD hd hv hk h1 h2 hL hLl e (i + 1) M (H.length + 1) h' (bs ++ cc) (by omega) (by omega) (by rw [el]; omega) (low_of lowH (a4 _ hid (by omega))) (by omega) (by have := rd_lt hs; omega) (a3 _ _ (Ne.symm hne) hs2) a2
      rw [List.append_assoc] at f2
      rw [el] at f1
      refine ⟨v', h'', ?_, f2⟩
      simp only [afAddr_p, List.append_nil, if_true, if_false, bnd_some, mp_some, cnd_t, cnd_f, gd_no, gd_tt, gd_tf, gd_ft, gd_ff, alenS_s, alen_sl, alen_ns, abin_add, abin_sub, abin_mul, abin_eql, abin_neq, abin_lss, abin_leq, abin_gtr, abin_geq, abin_seql, abin_sneq, abin_slss, aun_not, aun_neg, agn_some, aeqN_nf, aeqN_f, aeqN_np, aeqN_p, anilc_p, aeqB_t, aeqB_f, aconv_i, apick_b, cond_true, cond_false, decide_true, decide_false, Bool.not_true, Bool.not_false, aext_t, ofPart_c, ofPart_a, part?_c, part?_a, cells?_c, cells?_a, tupN_2, tupN_3, Option.map_some, Option.some.injEq, List.getElem?_cons_zero, List.getElem?_cons_succ, not_true_eq_false, not_false_eq_true, quiet_same, bytesI_length, Option.join_some, List.append_assoc, List.cons_append, List.nil_append, List.length_append, List.length_cons, List.length_nil, Nat.zero_add, Nat.add_zero, rd_at, rd_at0, set_at, set_at0, List.set_cons_zero, List.set_cons_succ, ne_eq, decide_not, quiet_ext, newOk_some, List.cons_prefix_cons, List.nil_prefix, List.drop_succ_cons, List.drop_zero, List.all_cons, List.all_nil, Bool.and_true, true_and, and_true, c0, cz, ad, t1, st, q1, q2, q4, q5, ad0, ad1, q3, ad2, hA, hB, hC, hQ, eq_self, a1, fread_Read_j0_eq, w1]
      exact f1

def manyR (k s off cnt : Int) : Nat := if 0 ≤ off ∧ off < sizeF k s ∧ 1 ≤ cnt then (min cnt (sizeF k s - off)).toNat else 0
def readF (D : Dev) (n k s : Int) (d : List Int) (off cnt : Int) : List UInt8 := (List.range' off.toNat (manyR k s off cnt)).map (byteF D n d)
theorem readF_length {D : Dev} {n k s off cnt : Int} {d : List Int} : (readF D n k s d off cnt).length = manyR k s off cnt := by simp [readF]

theorem fread_Read_eq {D : Dev} {n m k l s p off cnt : Int} {d : List Int} {f : Cell} {h : Heap} (hD : okD D) (hd : d.length = 7) (hv : IsView h f D) :
    S_fread_Read [.a (vwC D.length n m f), .a (inoC k l s p d), .c (.i .i64 off), .c (.i .i64 cnt)] h = some (.c (.sl h.length 0 (readF D n k s d off cnt).length 1), h ++ [some ⟨encB (readF D n k s d off cnt), true⟩]) := by
  have key : ∀ g, IsView g f D → ∃ v g', R_fread_Read 40001 [.a (vwC D.length n m f), .a (inoC k l s p d), .c (.i .i64 off), .c (.i .i64 cnt)] g = some (v, g') ∧ Out g.length g' v 1 (readF D n k s d off cnt).length (encB (readF D n k s d off cnt)) := by
    intro g hv
    have hIl : (inoC k l s p d).length = 11 := by simp [inoC, encI_length, hd]
    have hS := fun h => fread_Size_eq (k := k) (l := l) (s := s) (p := p) (d := d) (h := h)
    have hsz := sizeF_range (k := k) (s := s)
    rw [R_fread_Read_eq]
    by_cases c : 0 ≤ off ∧ off < sizeF k s ∧ 1 ≤ cnt
    · have hk : k = 1 := sizeF_kind (s := s) (by omega)
      have c1 : ¬ off < 0 := by omega
      have c2 : ¬ sizeF k s ≤ off := by omega
      have c3 : ¬ cnt < 1 := by omega
      have w1 : IntKind.wrap .i64 (sizeF k s - off) = sizeF k s - off := wrap_i64 (by omega) (by omega)
      have m1 := amin_i (k := .i64) (a := cnt) (b := sizeF k s - off)
      have hN : (if sizeF k s - off < cnt then sizeF k s - off else cnt) = ((manyR k s off cnt : Nat) : Int) := by
        unfold manyR
        rw [if_pos c]
        split <;> omega
      rw [hN] at m1
      have hNo : off.toNat + manyR k s off cnt ≤ 34304 := by
        have : (manyR k s off cnt : Int) ≤ sizeF k s - off := by rw [← hN]; split <;> omega
        omega
      have e1 : spansI off (manyR k s off cnt : Int) = spn (manyR k s off cnt) off.toNat (manyR k s off cnt) := by
        have eo : offI off = off := by unfold offI; split <;> omega
        have em : manyS off (manyR k s off cnt : Int) = manyR k s off cnt := by
          unfold manyS
          rw [eo, if_pos (by omega)]
          generalize manyR k s off cnt = N at *
          have e2 : (if (0 : Int) < (N : Int) then (N : Int) else 0) = N := by split <;> omega
          rw [e2, if_neg (by omega), Int.toNat_natCast]
        unfold spansI
        rw [em, eo]
      have eb := spn_bytes (byteF D n d) (manyR k s off cnt) off.toNat (manyR k s off cnt) (Nat.le_refl _)
      have hmem := spn_mem (manyR k s off cnt) off.toNat (manyR k s off cnt)
      have hlen := spn_length (manyR k s off cnt) off.toNat (manyR k s off cnt)
      have hSp := fun h => fread_Spans_eq (off := off) (n := (manyR k s off cnt : Int)) (h := h) (by omega)
      rw [e1] at hSp
      have hpos : 0 < manyR k s off cnt := by
        have : (0 : Int) < (manyR k s off cnt : Int) := by rw [← hN]; split <;> omega
        omega
      have er : readF D n k s d off cnt = ((spn (manyR k s off cnt) off.toNat (manyR k s off cnt)).map (pieceF D n d)).flatten := by
        unfold readF
        rw [← eb]; rfl
      rw [er]
      generalize spn (manyR k s off cnt) off.toNat (manyR k s off cnt) = L at *
      have hLd : L.drop 0 = L := rfl
      obtain ⟨v', h', f1, f2⟩ := read_loop (l := l) (n := n) (m := m) (s := s) (p := p) (g := g ++ [some (Row.mk (vwC D.length n m f) true), some (Row.mk (inoC k l s p d) true), some (Row.mk [] true)]) (pv := g.length) (q := 40001) (sid := g.length + 4) (L := L) hD hd (hv.more _) hk (by simp) (by simp)
        (fun x hx => by
          have h1 := hmem x hx
          have h2 := h1.2.2.2.2 hpos
          exact ⟨h1.1, h1.2.2.1, by omega⟩) (by omega) L.length 0 40001 (g.length + 3) (g ++ [some (Row.mk (vwC D.length n m f) true), some (Row.mk (inoC k l s p d) true), some (Row.mk [] true), some (Row.mk [] true), some (Row.mk (spC L) true)]) [] (by omega) (by omega) (by simp)
        (by
          have := (Low.refl (h := g ++ [some (Row.mk (vwC D.length n m f) true), some (Row.mk (inoC k l s p d) true), some (Row.mk [] true)]) (Nat.le_refl _)).new [some (Row.mk [] true), some (Row.mk (spC L) true)]
          simpa using this) (by simp) (by omega) (by simp) (by simp [encB])
      rw [hLd, List.nil_append] at f2
      rw [List.length_nil] at f1
      refine ⟨v', h', ?_, f2.1, ?_⟩
      · have l11 : ldN (some (Row.mk (inoC k l s p d) true)) 0 11 = some (.a (inoC k l s p d)) := ldN_all hIl
        generalize vwC D.length n m f = V at *
        generalize inoC k l s p d = I at *
        simp only [afAddr_p, List.append_nil, if_true, if_false, bnd_some, mp_some, cnd_t, cnd_f, gd_no, gd_tt, gd_tf, gd_ft, gd_ff, alenS_s, alen_sl, alen_ns, abin_add, abin_sub, abin_mul, abin_eql, abin_neq, abin_lss, abin_leq, abin_gtr, abin_geq, abin_seql, abin_sneq, abin_slss, aun_not, aun_neg, agn_some, aeqN_nf, aeqN_f, aeqN_np, aeqN_p, anilc_p, aeqB_t, aeqB_f, aconv_i, apick_b, cond_true, cond_false, decide_true, decide_false, Bool.not_true, Bool.not_false, aext_t, ofPart_c, ofPart_a, part?_c, part?_a, cells?_c, cells?_a, tupN_2, tupN_3, Option.map_some, Option.some.injEq, List.getElem?_cons_zero, List.getElem?_cons_succ, not_true_eq_false, not_false_eq_true, quiet_same, bytesI_length, Option.join_some, List.append_assoc, List.cons_append, List.nil_append, List.length_append, List.length_cons, List.length_nil, Nat.zero_add, Nat.add_zero, rd_at, rd_at0, set_at, set_at0, List.set_cons_zero, List.set_cons_succ, ne_eq, decide_not, quiet_ext, newOk_some, List.cons_prefix_cons, List.nil_prefix, List.drop_succ_cons, List.drop_zero, List.all_cons, List.all_nil, Bool.and_true, true_and, and_true, aloadN_at, aloadN_at0, aload1_at, aload1_at0, astoreN_at, astoreN_at0, astore1_at, astore1_at0, aslA_at, aslA_at0, ldN_all, ld1_row, stN_all, st1_row, slr_all, Nat.reduceAdd, Nat.reduceMul, Nat.reduceLT, c1, c2, c3, hS, w1, m1, hSp, l11]
        exact f1
      · obtain ⟨id, e, hb, hr⟩ := f2.2
        exact ⟨id, e, by simp at hb; omega, hr⟩
    · have er : readF D n k s d off cnt = [] := by
        unfold readF manyR
        rw [if_neg c]; rfl
      rw [er]
      have l11 : ldN (some (Row.mk (inoC k l s p d) true)) 0 11 = some (.a (inoC k l s p d)) := ldN_all hIl
      have fin : ∀ h : Heap, Out g.length (g ++ [some (Row.mk (vwC D.length n m f) true), some (Row.mk (inoC k l s p d) true), some (Row.mk [] true), some (Row.mk [] true)]) (.c (.sl (g.length + 3) 0 0 1)) 1 ([] : List UInt8).length (encB []) := fun h => ⟨rfl, g.length + 3, rfl, by omega, by simp [encB]⟩
      refine ⟨.c (.sl (g.length + 3) 0 0 1), _, ?_, fin g⟩
      generalize vwC D.length n m f = V at *
      generalize inoC k l s p d = I at *
      by_cases c1 : off < 0
      · simp only [afAddr_p, List.append_nil, if_true, if_false, bnd_some, mp_some, cnd_t, cnd_f, gd_no, gd_tt, gd_tf, gd_ft, gd_ff, alenS_s, alen_sl, alen_ns, abin_add, abin_sub, abin_mul, abin_eql, abin_neq, abin_lss, abin_leq, abin_gtr, abin_geq, abin_seql, abin_sneq, abin_slss, aun_not, aun_neg, agn_some, aeqN_nf, aeqN_f, aeqN_np, aeqN_p, anilc_p, aeqB_t, aeqB_f, aconv_i, apick_b, cond_true, cond_false, decide_true, decide_false, Bool.not_true, Bool.not_false, aext_t, ofPart_c, ofPart_a, part?_c, part?_a, cells?_c, cells?_a, tupN_2, tupN_3, Option.map_some, Option.some.injEq, List.getElem?_cons_zero, List.getElem?_cons_succ, not_true_eq_false, not_false_eq_true, quiet_same, bytesI_length, Option.join_some, List.append_assoc, List.cons_append, List.nil_append, List.length_append, List.length_cons, List.length_nil, Nat.zero_add, Nat.add_zero, rd_at, rd_at0, set_at, set_at0, List.set_cons_zero, List.set_cons_succ, ne_eq, decide_not, quiet_ext, newOk_some, List.cons_prefix_cons, List.nil_prefix, List.drop_succ_cons, List.drop_zero, List.all_cons, List.all_nil, Bool.and_true, true_and, and_true, aloadN_at, aloadN_at0, aload1_at, aload1_at0, astoreN_at, astoreN_at0, astore1_at, astore1_at0, aslA_at, aslA_at0, ldN_all, ld1_row, stN_all, st1_row, slr_all, Nat.reduceAdd, Nat.reduceMul, Nat.reduceLT, c1]
      · by_cases c2 : sizeF k s ≤ off
        · simp only [afAddr_p, List.append_nil, if_true, if_false, bnd_some, mp_some, cnd_t, cnd_f, gd_no, gd_tt, gd_tf, gd_ft, gd_ff, alenS_s, alen_sl, alen_ns, abin_add, abin_sub, abin_mul, abin_eql, abin_neq, abin_lss, abin_leq, abin_gtr, abin_geq, abin_seql, abin_sneq, abin_slss, aun_not, aun_neg, agn_some, aeqN_nf, aeqN_f, aeqN_np, aeqN_p, anilc_p, aeqB_t, aeqB_f, aconv_i, apick_b, cond_true, cond_false, decide_true, decide_false, Bool.not_true, Bool.not_false, aext_t, ofPart_c, ofPart_a, part?_c, part?_a, cells?_c, cells?_a, tupN_2, tupN_3, Option.map_some, Option.some.injEq, List.getElem?_cons_zero, List.getElem?_cons_succ, not_true_eq_false, not_false_eq_true, quiet_same, bytesI_length, Option.join_some, List.append_assoc, List.cons_append, List.nil_append, List.length_append, List.length_cons, List.length_nil, Nat.zero_add, Nat.add_zero, rd_at, rd_at0, set_at, set_at0, List.set_cons_zero, List.set_cons_succ, ne_eq, decide_not, quiet_ext, newOk_some, List.cons_prefix_cons, List.nil_prefix, List.drop_succ_cons, List.drop_zero, List.all_cons, List.all_nil, Bool.and_true, true_and, and_true, aloadN_at, aloadN_at0, aload1_at, aload1_at0, astoreN_at, astoreN_at0, astore1_at, astore1_at0, aslA_at, aslA_at0, ldN_all, ld1_row, stN_all, st1_row, slr_all, Nat.reduceAdd, Nat.reduceMul, Nat.reduceLT, c1, c2, hS, l11]
        · have c3 : cnt < 1 := by omega
          simp only [afAddr_p, List.append_nil, if_true, if_false, bnd_some, mp_some, cnd_t, cnd_f, gd_no, gd_tt, gd_tf, gd_ft, gd_ff, alenS_s, alen_sl, alen_ns, abin_add, abin_sub, abin_mul, abin_eql, abin_neq, abin_lss, abin_leq, abin_gtr, abin_geq, abin_seql, abin_sneq, abin_slss, aun_not, aun_neg, agn_some, aeqN_nf, aeqN_f, aeqN_np, aeqN_p, anilc_p, aeqB_t, aeqB_f, aconv_i, apick_b, cond_true, cond_false, decide_true, decide_false, Bool.not_true, Bool.not_false, aext_t, ofPart_c, ofPart_a, part?_c, part?_a, cells?_c, cells?_a, tupN_2, tupN_3, Option.map_some, Option.some.injEq, List.getElem?_cons_zero, List.getElem?_cons_succ, not_true_eq_false, not_false_eq_true, quiet_same, bytesI_length, Option.join_some, List.append_assoc, List.cons_append, List.nil_append, List.length_append, List.length_cons, List.length_nil, Nat.zero_add, Nat.add_zero, rd_at, rd_at0, set_at, set_at0, List.set_cons_zero, List.set_cons_succ, ne_eq, decide_not, quiet_ext, newOk_some, List.cons_prefix_cons, List.nil_prefix, List.drop_succ_cons, List.drop_zero, List.all_cons, List.all_nil, Bool.and_true, true_and, and_true, aloadN_at, aloadN_at0, aload1_at, aload1_at0, astoreN_at, astoreN_at0, astore1_at, astore1_at0, aslA_at, aslA_at0, ldN_all, ld1_row, stN_all, st1_row, slr_all, Nat.reduceAdd, Nat.reduceMul, Nat.reduceLT, c1, c2, c3, hS, l11]
  obtain ⟨v, g', e, ho⟩ := key (ro h) hv.ro
  exact S_fread_Read_out e (by simpa [ro_length] using ho) (by simp)

theorem fread_All_eq {D : Dev} {n m k l s p : Int} {d : List Int} {f : Cell} {h : Heap} (hD : okD D) (hd : d.length = 7) (hv : IsView h f D) :
    S_fread_All [.a (vwC D.length n m f), .a (inoC k l s p d)] h = some (.c (.sl h.length 0 (readF D n k s d 0 34304).length 1), h ++ [some ⟨encB (readF D n k s d 0 34304), true⟩]) := by
  have key : ∀ g, IsView g f D → ∃ v g', R_fread_All 0 [.a (vwC D.length n m f), .a (inoC k l s p d)] g = some (v, g') ∧ Out g.length g' v 1 (readF D n k s d 0 34304).length (encB (readF D n k s d 0 34304)) := by
    intro g hv
    have hIl : (inoC k l s p d).length = 11 := by simp [inoC, encI_length, hd]
    have l11 : ldN (some (Row.mk (inoC k l s p d) true)) 0 11 = some (.a (inoC k l s p d)) := ldN_all hIl
    have l4 := vw_l4 (b := D.length) (n := n) (m := m) (f := f)
    have hR := fread_Read_eq (n := n) (m := m) (k := k) (l := l) (s := s) (p := p) (off := 0) (cnt := 34304) (h := g ++ [some (Row.mk (vwC D.length n m f) true), some (Row.mk (inoC k l s p d) true), some (Row.mk [] true)]) hD hd (hv.more _)
    simp only [afAddr_p, List.append_nil, if_true, if_false, bnd_some, mp_some, cnd_t, cnd_f, gd_no, gd_tt, gd_tf, gd_ft, gd_ff, alenS_s, alen_sl, alen_ns, abin_add, abin_sub, abin_mul, abin_eql, abin_neq, abin_lss, abin_leq, abin_gtr, abin_geq, abin_seql, abin_sneq, abin_slss, aun_not, aun_neg, agn_some, aeqN_nf, aeqN_f, aeqN_np, aeqN_p, anilc_p, aeqB_t, aeqB_f, aconv_i, apick_b, cond_true, cond_false, decide_true, decide_false, Bool.not_true, Bool.not_false, aext_t, ofPart_c, ofPart_a, part?_c, part?_a, cells?_c, cells?_a, tupN_2, tupN_3, Option.map_some, Option.some.injEq, List.getElem?_cons_zero, List.getElem?_cons_succ, not_true_eq_false, not_false_eq_true, quiet_same, bytesI_length, Option.join_some, List.append_assoc, List.cons_append, List.nil_append, List.length_append, List.length_cons, List.length_nil, Nat.zero_add, Nat.add_zero, rd_at, rd_at0, set_at, set_at0, List.set_cons_zero, List.set_cons_succ, ne_eq, decide_not, quiet_ext, newOk_some, List.cons_prefix_cons, List.nil_prefix, List.drop_succ_cons, List.drop_zero, List.all_cons, List.all_nil, Bool.and_true, true_and, and_true] at hR
    rw [R_fread_All_eq]
    generalize readF D n k s d 0 34304 = bs at *
    generalize vwC D.length n m f = V at *
    generalize inoC k l s p d = I at *
    exact ⟨_, _, by simp only [afAddr_p, List.append_nil, if_true, if_false, bnd_some, mp_some, cnd_t, cnd_f, gd_no, gd_tt, gd_tf, gd_ft, gd_ff, alenS_s, alen_sl, alen_ns, abin_add, abin_sub, abin_mul, abin_eql, abin_neq, abin_lss, abin_leq, abin_gtr, abin_geq, abin_seql, abin_sneq, abin_slss, aun_not, aun_neg, agn_some, aeqN_nf, aeqN_f, aeqN_np, aeqN_p, anilc_p, aeqB_t, aeqB_f, aconv_i, apick_b, cond_true, cond_false, decide_true, decide_false, Bool.not_true, Bool.not_false, aext_t, ofPart_c, ofPart_a, part?_c, part?_a, cells?_c, cells?_a, tupN_2, tupN_3, Option.map_some, Option.some.injEq, List.getElem?_cons_zero, List.getElem?_cons_succ, not_true_eq_false, not_false_eq_true, quiet_same, bytesI_length, Option.join_some, List.append_assoc, List.cons_append, List.nil_append, List.length_append, List.length_cons, List.length_nil, Nat.zero_add, Nat.add_zero, rd_at, rd_at0, set_at, set_at0, List.set_cons_zero, List.set_cons_succ, ne_eq, decide_not, quiet_ext, newOk_some, List.cons_prefix_cons, List.nil_prefix, List.drop_succ_cons, List.drop_zero, List.all_cons, List.all_nil, Bool.and_true, true_and, and_true, aloadN_at, aloadN_at0, aload1_at, aload1_at0, astoreN_at, astoreN_at0, astore1_at, astore1_at0, aslA_at, aslA_at0, ldN_all, ld1_row, stN_all, st1_row, slr_all, Nat.reduceAdd, Nat.reduceMul, Nat.reduceLT, l4, l11, hR] <;> rfl, by rw [encB_length, Nat.mul_one], g.length + 3, rfl, by omega, by simp⟩
  obtain ⟨v, g', e, ho⟩ := key (ro h) hv.ro
  exact S_fread_All_out e (by simpa [ro_length] using ho) (by simp)

end Go.Proofs.Ytdgggnlbdoiloaa
end
section
namespace Go.Proofs.Ytdgggnlbdoiloaa
open Go Go.Esc
set_option maxRecDepth 100000
def escheatlaw23_works_o0 : List AOper := [{ dst := some 0, op := .mv (.v (.c (.b false))) }]
def escheatlaw23_works_c0 : ACode := .ops escheatlaw23_works_o0
def escheatlaw23_works_o1 : List AOper := [{ dst := some 5, op := .mkSl 256 (List.replicate 256 (.i .u8 0)) (.v (.c (.i .i64 16))) (.v (.c (.i .i64 16))) }, { dst := some 1, op := .mv (.t 5) }]
def escheatlaw23_works_c1 : ACode := .ops escheatlaw23_works_o1
def escheatlaw23_works_o2 : List AOper := [{ dst := some 7, op := .mv (.t 1) }, { dst := some 8, op := .build ([.i .i64 0, .i .i64 0, .i .u64 0]) [(0, 1, (.v (.c (.i .i64 16)))), (1, 1, (.v (.c (.i .i64 8))))] }, { dst := some 9, op := .call 52 [(.t 8)] }, { dst := some 6, op := .mv (.t 9) }, { dst := some 10, op := .ext (.t 6) 0 }, { dst := some 11, op := .ext (.t 6) 1 }, { dst := some 12, op := .iAddrL 256 (.t 7) (.v (.c (.i .i64 0))) }, { dst := none, op := .storeN 256 (.t 12) (.t 10) }]
def escheatlaw23_works_c2 : ACode := .ops escheatlaw23_works_o2
def escheatlaw23_works_o3 : List AOper := [{ dst := some 14, op := .mv (.t 1) }, { dst := some 15, op := .call 15 [(.t 14)] }, { dst := some 13, op := .mv (.t 15) }, { dst := some 16, op := .ext (.t 13) 0 }, { dst := some 17, op := .ext (.t 13) 1 }, { dst := some 2, op := .alloc ([.i .i64 0, .i .i64 0, .i .u64 0, .nf]) }, { dst := none, op := .storeN 4 (.t 2) (.t 16) }, { dst := some 3, op := .mv (.t 17) }]
def escheatlaw23_works_c3 : ACode := .ops escheatlaw23_works_o3
def escheatlaw23_works_o4 : List AOper := [{ dst := some 18, op := .call 13 [(.v (.c (.i .i64 255))), (.v (.c (.i .i64 3)))] }, { dst := some 4, op := .mv (.t 18) }]
def escheatlaw23_works_c4 : ACode := .ops escheatlaw23_works_o4
def escheatlaw23_works_o5 : List AOper := [{ dst := some 19, op := .loadN 4 (.t 2) }, { dst := some 20, op := .build ([.i .i64 0, .i .i64 0, .i .i64 0, .i .i64 0, .i .i64 0, .i .i64 0, .i .i64 0, .i .i64 0, .i .i64 0, .i .i64 0, .i .i64 0]) [(0, 1, (.v (.c (.i .i64 1)))), (2, 1, (.v (.c (.i .i64 3))))] }, { dst := some 21, op := .call 18 [(.t 19), (.t 20)] }, { dst := some 22, op := .buildSl 1 3 ([.i .u8 0, .i .u8 0, .i .u8 0]) [(0, 1, (.v (.c (.i .u8 0)))), (1, 1, (.v (.c (.i .u8 0)))), (2, 1, (.v (.c (.i .u8 0))))] }, { dst := some 23, op := .call 21 [(.t 21), (.t 22)] }, { dst := some 24, op := .mv (.t 23) }, { dst := some 25, op := .mv (.t 4), guard := some (24, true) }, { dst := some 26, op := .len (.t 25), guard := some (24, true) }, { dst := some 27, op := .bin .eql (.t 26) (.v (.c (.i .i64 2))), guard := some (24, true) }, { dst := some 28, op := .pick (.t 24) (.t 27) (.v (.c (.b false))) }, { dst := some 29, op := .mv (.t 28) }, { dst := some 30, op := .mv (.t 4), guard := some (29, true) }, { dst := some 31, op := .iAddrL 3 (.t 30) (.v (.c (.i .i64 0))), guard := some (29, true) }, { dst := some 32, op := .loadN 3 (.t 31), guard := some (29, true) }, { dst := some 33, op := .build ([.i .i64 0, .i .i64 0, .i .i64 0]) [(0, 1, (.v (.c (.i .i64 0)))), (1, 1, (.v (.c (.i .i64 255)))), (2, 1, (.v (.c (.i .i64 1))))], guard := some (29, true) }, { dst := some 34, op := .eqA false ([.i .i64, .i .i64, .i .i64]) (.t 32) (.t 33), guard := some (29, true) }, { dst := some 35, op := .pick (.t 29) (.t 34) (.v (.c (.b false))) }, { dst := some 36, op := .mv (.t 35) }, { dst := some 37, op := .mv (.t 4), guard := some (36, true) }, { dst := some 38, op := .iAddrL 3 (.t 37) (.v (.c (.i .i64 1))), guard := some (36, true) }, { dst := some 39, op := .loadN 3 (.t 38), guard := some (36, true) }, { dst := some 40, op := .build ([.i .i64 0, .i .i64 0, .i .i64 0]) [(0, 1, (.v (.c (.i .i64 1)))), (1, 1, (.v (.c (.i .i64 0)))), (2, 1, (.v (.c (.i .i64 2))))], guard := some (36, true) }, { dst := some 41, op := .eqA false ([.i .i64, .i .i64, .i .i64]) (.t 39) (.t 40), guard := some (36, true) }, { dst := some 42, op := .pick (.t 36) (.t 41) (.v (.c (.b false))) }, { dst := some 0, op := .mv (.t 42) }]
def escheatlaw23_works_c5 : ACode := .ops escheatlaw23_works_o5
def escheatlaw23_works_c6 : ACode := .seq [0] escheatlaw23_works_c5 .ret
def escheatlaw23_works_c7 : ACode := .seq [2, 4] escheatlaw23_works_c4 escheatlaw23_works_c6
def escheatlaw23_works_c8 : ACode := .seq [2] escheatlaw23_works_c3 escheatlaw23_works_c7
def escheatlaw23_works_c9 : ACode := .seq [1] escheatlaw23_works_c2 escheatlaw23_works_c8
def escheatlaw23_works_c10 : ACode := .seq [1] escheatlaw23_works_c1 escheatlaw23_works_c9
def escheatlaw23_works_c11 : ACode := .seq [] escheatlaw23_works_c0 escheatlaw23_works_c10
def A_escheatlaw23_works : AFn := ⟨escheatlaw23_works_c11, [.tmp 0]⟩
noncomputable def E_escheatlaw23_works : Sums := disp 52 S_super_Put (disp 15 S_view_Of (disp 13 S_fread_Spans (disp 18 S_fread_All (disp 21 S_escheatref01_Same disp0))))
noncomputable def escheatlaw23_works_c0_d (n : Nat) : SmV := smOps E_escheatlaw23_works escheatlaw23_works_o0
noncomputable def escheatlaw23_works_c1_d (n : Nat) : SmV := smOps E_escheatlaw23_works escheatlaw23_works_o1
noncomputable def escheatlaw23_works_c2_d (n : Nat) : SmV := smOps E_escheatlaw23_works escheatlaw23_works_o2
noncomputable def escheatlaw23_works_c3_d (n : Nat) : SmV := smOps E_escheatlaw23_works escheatlaw23_works_o3
noncomputable def escheatlaw23_works_c4_d (n : Nat) : SmV := smOps E_escheatlaw23_works escheatlaw23_works_o4
noncomputable def escheatlaw23_works_c5_d (n : Nat) : SmV := smOps E_escheatlaw23_works escheatlaw23_works_o5
noncomputable def escheatlaw23_works_c6_d (n : Nat) : SmV := smSeq [0] (escheatlaw23_works_c5_d n) smRet
noncomputable def escheatlaw23_works_c7_d (n : Nat) : SmV := smSeq [2, 4] (escheatlaw23_works_c4_d n) (escheatlaw23_works_c6_d n)
noncomputable def escheatlaw23_works_c8_d (n : Nat) : SmV := smSeq [2] (escheatlaw23_works_c3_d n) (escheatlaw23_works_c7_d n)
noncomputable def escheatlaw23_works_c9_d (n : Nat) : SmV := smSeq [1] (escheatlaw23_works_c2_d n) (escheatlaw23_works_c8_d n)
noncomputable def escheatlaw23_works_c10_d (n : Nat) : SmV := smSeq [1] (escheatlaw23_works_c1_d n) (escheatlaw23_works_c9_d n)
noncomputable def escheatlaw23_works_c11_d (n : Nat) : SmV := smSeq [] (escheatlaw23_works_c0_d n) (escheatlaw23_works_c10_d n)
noncomputable def R_escheatlaw23_works (n : Nat) (args : List Val) (h : Heap) : OptV := (escheatlaw23_works_c11_d n) A_escheatlaw23_works.fin (params 0 args) h
theorem R_escheatlaw23_works_eq (n : Nat) (h : Heap) : R_escheatlaw23_works n [] h = bnd (amkn (.c (.i .i64 16)) (.c (.i .i64 16))) fun n1 => bnd (afill ([.i .i64 0, .i .i64 0, .i .u64 0]) [(0, 1, .c (.i .i64 16)), (1, 1, .c (.i .i64 8))]) fun c2 => bnd (S_super_Put [(.a c2)] ((h ++ [some (Row.mk (rows (List.replicate 256 (.i .u8 0)) n1) true)]))) fun p3 => bnd (aext p3.1 0) fun v4 => bnd (aext p3.1 1) fun v5 => bnd (aiAddrL 256 ((.c (.sl h.length 0 n1 256))) (.c (.i .i64 0))) fun v6 => bnd (astoreN p3.2 256 v6 v4) fun h7 => bnd (S_view_Of [(.c (.sl h.length 0 n1 256))] h7) fun p8 => bnd (aext p8.1 0) fun v9 => bnd (aext p8.1 1) fun v10 => bnd (astoreN ((p8.2 ++ [some (Row.mk ([.i .i64 0, .i .i64 0, .i .u64 0, .nf]) true)])) 4 ((.c (.p p8.2.length 0))) v9) fun h11 => bnd (S_fread_Spans [.c (.i .i64 255), .c (.i .i64 3)] h11) fun p12 => bnd (aloadN p12.2 4 ((.c (.p p8.2.length 0)))) fun v13 => bnd (afill ([.i .i64 0, .i .i64 0, .i .i64 0, .i .i64 0, .i .i64 0, .i .i64 0, .i .i64 0, .i .i64 0, .i .i64 0, .i .i64 0, .i .i64 0]) [(0, 1, .c (.i .i64 1)), (2, 1, .c (.i .i64 3))]) fun c14 => bnd (S_fread_All [v13, (.a c14)] p12.2) fun p15 => bnd (afill ([.i .u8 0, .i .u8 0, .i .u8 0]) [(0, 1, .c (.i .u8 0)), (1, 1, .c (.i .u8 0)), (2, 1, .c (.i .u8 0))]) fun c16 => bnd (S_escheatref01_Same [p15.1, (.c (.sl p15.2.length 0 3 1))] ((p15.2 ++ [some (Row.mk (c16) true)]))) fun p17 => bnd (gd p17.1 true (some (p12.1, p17.2)) (some (.no, p17.2))) fun p18 => bnd (gd p17.1 true (bnd (alen p18.1) fun v19 => some (v19, p18.2)) (some (.no, p18.2))) fun p20 => bnd (gd p17.1 true (bnd (abin .eql p20.1 (.c (.i .i64 2))) fun v21 => some (v21, p20.2)) (some (.no, p20.2))) fun p22 => bnd (apick p17.1 p22.1 (.c (.b false))) fun v23 => bnd (gd v23 true (some (p12.1, p22.2)) (some (.no, p22.2))) fun p24 => bnd (gd v23 true (bnd (aiAddrL 3 p24.1 (.c (.i .i64 0))) fun v25 => some (v25, p24.2)) (some (.no, p24.2))) fun p26 => bnd (gd v23 true (bnd (aloadN p26.2 3 p26.1) fun v27 => some (v27, p26.2)) (some (.no, p26.2))) fun p28 => bnd (gd v23 true (bnd (afill ([.i .i64 0, .i .i64 0, .i .i64 0]) [(0, 1, .c (.i .i64 0)), (1, 1, .c (.i .i64 255)), (2, 1, .c (.i .i64 1))]) fun c29 => some ((.a c29), p28.2)) (some (.no, p28.2))) fun p30 => bnd (gd v23 true (bnd (aeq false ([.i .i64, .i .i64, .i .i64]) p28.1 p30.1) fun v31 => some (v31, p30.2)) (some (.no, p30.2))) fun p32 => bnd (apick v23 p32.1 (.c (.b false))) fun v33 => bnd (gd v33 true (some (p12.1, p32.2)) (some (.no, p32.2))) fun p34 => bnd (gd v33 true (bnd (aiAddrL 3 p34.1 (.c (.i .i64 1))) fun v35 => some (v35, p34.2)) (some (.no, p34.2))) fun p36 => bnd (gd v33 true (bnd (aloadN p36.2 3 p36.1) fun v37 => some (v37, p36.2)) (some (.no, p36.2))) fun p38 => bnd (gd v33 true (bnd (afill ([.i .i64 0, .i .i64 0, .i .i64 0]) [(0, 1, .c (.i .i64 1)), (1, 1, .c (.i .i64 0)), (2, 1, .c (.i .i64 2))]) fun c39 => some ((.a c39), p38.2)) (some (.no, p38.2))) fun p40 => bnd (gd v33 true (bnd (aeq false ([.i .i64, .i .i64, .i .i64]) p38.1 p40.1) fun v41 => some (v41, p40.2)) (some (.no, p40.2))) fun p42 => bnd (apick v33 p42.1 (.c (.b false))) fun v43 => some (v43, p42.2) := by kernel_rfl
theorem K_escheatlaw23_works : FnK Try.prog 12 A_escheatlaw23_works E_escheatlaw23_works R_escheatlaw23_works := .mk' (sound1 S_super_Put_ok (sound1 S_view_Of_ok (sound1 S_fread_Spans_ok (sound1 S_fread_All_ok (sound1 S_escheatref01_Same_ok sound0))))) Try.func12 (by kernel_rfl) (by intro n args h; kernel_rfl)
noncomputable def S_escheatlaw23_works : Fun := tidy (Lim A_escheatlaw23_works E_escheatlaw23_works)
theorem S_escheatlaw23_works_ok : SOk Try.prog 12 S_escheatlaw23_works := K_escheatlaw23_works.sok
theorem S_escheatlaw23_works_flat {n : Nat} {args : List Val} {h h2 : Heap} {v : Val} (he : R_escheatlaw23_works n args (ro h) = some (v, h2)) (hf : v.flat = true) : S_escheatlaw23_works args h = some (v, h) := K_escheatlaw23_works.flat he hf
end Go.Proofs.Ytdgggnlbdoiloaa
end
section
namespace Go.Proofs.Ytdgggnlbdoiloaa
open Go Go.Esc

def D16 : Dev := (List.replicate 16 (zeros 256)).set 0 (supB 16 8 0)
theorem okD16 : okD D16 := (okD_zeros 16).set supB_length
theorem D16_length : D16.length = 16 := by unfold D16; rw [List.length_set, List.length_replicate]
theorem devL16 : devL D16 = true := by decide +kernel
theorem devN16 : devN D16 = 8 := by decide +kernel
theorem devM16 : devM D16 = 0 := by decide +kernel

theorem works23_eq (h : Heap) : S_escheatlaw23_works [] h = some (.c (.b true), h) := by
  have key : ∀ g, ∃ g', R_escheatlaw23_works 0 [] g = some (.c (.b true), g') := by
    intro g
    have mk : amkn (.c (.i .i64 16)) (.c (.i .i64 16)) = some 16 := rfl
    have ef1 : afill [Cell.i .i64 0, .i .i64 0, .i .u64 0] [(0, 1, .c (.i .i64 16)), (1, 1, .c (.i .i64 8))] = some (layC 16 8 0) := rfl
    have hp := fun h => super_Put_eq (b := 16) (n := 8) (m := 0) (h := h) (by omega) (by omega)
    have hm : mayL 16 8 = true := by decide
    simp only [hm, cond_true] at hp
    have a1 : aiAddrL 256 (.c (.sl g.length 0 16 256)) (.c (.i .i64 0)) = some (.c (.p g.length 0)) := rfl
    have s1 := stN_dev (D := List.replicate 16 (zeros 256)) (i := 0) (okD_zeros 16) (supB_length (b := 16) (n := 8) (m := 0)) (by simp)
    have e16 : (List.replicate 16 (zeros 256)).set 0 (supB 16 8 0) = D16 := rfl
    rw [e16, Nat.zero_mul] at s1
    have l16 := D16_length
    obtain ⟨f, t, hO, hv⟩ := view_Of_ok (v := .c (.sl g.length 0 16 256)) (h := g ++ [some (Row.mk (cellsD D16) true)]) (D := D16) (by rw [l16]; exact Has.tr (by simp) (by rw [cellsD_length okD16, l16]) (noX_cellsD _)) okD16 devL16 (by rw [l16]; omega)
    rw [devN16, devM16] at hO
    have ef0 : afill [Cell.i .i64 0, .i .i64 0, .i .u64 0, .nf] [] = some [Cell.i .i64 0, .i .i64 0, .i .u64 0, .nf] := rfl
    obtain ⟨H, hH⟩ : ∃ H, H = g ++ [some (Row.mk (cellsD D16) true)] ++ t := ⟨_, rfl⟩
    rw [← hH] at hO hv
    have hV4 : ∀ x y z w : Cell, aloadN (H ++ [some (Row.mk [x, y, z, w] true)]) 4 (.c (.p H.length 0)) = some (.a [x, y, z, w]) := fun x y z w => by rw [aloadN_at0]; rfl
    have hS4 : ∀ x y z w : Cell, astoreN (H ++ [some (Row.mk [.i .i64 0, .i .i64 0, .i .u64 0, .nf] true)]) 4 (.c (.p H.length 0)) (.a [x, y, z, w]) = some (H ++ [some (Row.mk [x, y, z, w] true)]) := fun x y z w => by rw [astoreN_at0]; rfl
    have hSp := fread_Spans_eq (off := 255) (n := 3) (h := H ++ [some (Row.mk (vwC D16.length 8 0 f) true)]) (by omega)
    have eS : spansI 255 3 = [(0, 255, 1), (1, 0, 2)] := by decide +kernel
    rw [eS] at hSp
    have ef3 : afill [Cell.i .i64 0, .i .i64 0, .i .i64 0, .i .i64 0, .i .i64 0, .i .i64 0, .i .i64 0, .i .i64 0, .i .i64 0, .i .i64 0, .i .i64 0] [(0, 1, .c (.i .i64 1)), (2, 1, .c (.i .i64 3))] = some (inoC 1 0 3 0 (zI 7)) := rfl
    have hA := fread_All_eq (D := D16) (n := 8) (m := 0) (k := 1) (l := 0) (s := 3) (p := 0) (d := zI 7) (f := f) (h := H ++ [some (Row.mk (vwC D16.length 8 0 f) true), some (Row.mk (spC [(0, 255, 1), (1, 0, 2)]) true)]) okD16 rfl (hv.more _)
    have eA : readF D16 8 1 3 (zI 7) 0 34304 = [0, 0, 0] := by decide +kernel
    rw [eA] at hA
    have ef4 : afill [Cell.i .u8 0, .i .u8 0, .i .u8 0] [(0, 1, .c (.i .u8 0)), (1, 1, .c (.i .u8 0)), (2, 1, .c (.i .u8 0))] = some (encB [0, 0, 0]) := rfl
    have hSm := ref01_Same_eq (h := H ++ [some (Row.mk (vwC D16.length 8 0 f) true), some (Row.mk (spC [(0, 255, 1), (1, 0, 2)]) true), some ⟨encB [0, 0, 0], true⟩, some ⟨encB [0, 0, 0], true⟩]) (v := .c (.sl (H.length + 2) 0 3 1)) (nv := 3) (u := .c (.sl (H.length + 3) 0 3 1)) (nu := 3) (l := [0, 0, 0]) (r := [0, 0, 0])
      (Has.tr (by simp) (by simp [encB_length]) (noX_encB _)) (Has.tr (by simp) (by simp [encB_length]) (noX_encB _)) (by decide)
    rw [decide_eq_true rfl] at hSm
    have ef5 : afill [Cell.i .i64 0, .i .i64 0, .i .i64 0] [(0, 1, .c (.i .i64 0)), (1, 1, .c (.i .i64 255)), (2, 1, .c (.i .i64 1))] = some [.i .i64 0, .i .i64 255, .i .i64 1] := rfl
    have ef6 : afill [Cell.i .i64 0, .i .i64 0, .i .i64 0] [(0, 1, .c (.i .i64 1)), (1, 1, .c (.i .i64 0)), (2, 1, .c (.i .i64 2))] = some [.i .i64 1, .i .i64 0, .i .i64 2] := rfl
    have x1 : aiAddrL 3 (.c (.sl (H.length + 1) 0 2 3)) (.c (.i .i64 0)) = some (.c (.p (H.length + 1) 0)) := rfl
    have x2 : aiAddrL 3 (.c (.sl (H.length + 1) 0 2 3)) (.c (.i .i64 1)) = some (.c (.p (H.length + 1) 3)) := rfl
    have y1 : ldN (some (Row.mk (spC [(0, 255, 1), (1, 0, 2)]) true)) 0 3 = some (.a [.i .i64 0, .i .i64 255, .i .i64 1]) := rfl
    have y2 : ldN (some (Row.mk (spC [(0, 255, 1), (1, 0, 2)]) true)) 3 3 = some (.a [.i .i64 1, .i .i64 0, .i .i64 2]) := rfl
    have z1 : aeq false [Sh.i .i64, .i .i64, .i .i64] (.a [.i .i64 0, .i .i64 255, .i .i64 1]) (.a [.i .i64 0, .i .i64 255, .i .i64 1]) = some (.c (.b true)) := rfl
    have z2 : aeq false [Sh.i .i64, .i .i64, .i .i64] (.a [.i .i64 1, .i .i64 0, .i .i64 2]) (.a [.i .i64 1, .i .i64 0, .i .i64 2]) = some (.c (.b true)) := rfl
    have n22 : (((2 : Nat) : Int) = 2) = True := eq_true rfl
    rw [R_escheatlaw23_works_eq]
    simp only [rows_dev]
    rw [show ([(0, 255, 1), (1, 0, 2)] : List Spn).length = 2 from rfl] at hSp
    rw [show ([0, 0, 0] : List UInt8).length = 3 from rfl] at hA
    have l4 := vw_l4 (b := D16.length) (n := 8) (m := 0) (f := f)
    generalize spC [(0, 255, 1), (1, 0, 2)] = sp at *
    generalize cellsD D16 = c1 at *
    generalize encB (supB 16 8 0) = c2 at *
    generalize encB [0, 0, 0] = c3 at *
    have hS5 : astoreN (H ++ [some (Row.mk [.i .i64 0, .i .i64 0, .i .u64 0, .nf] true)]) 4 (.c (.p H.length 0)) (.a (vwC D16.length 8 0 f)) = some (H ++ [some (Row.mk (vwC D16.length 8 0 f) true)]) := hS4 _ _ _ _
    generalize vwC D16.length 8 0 f = V at *
    exact ⟨_, by simp only [afAddr_p, List.append_nil, if_true, if_false, bnd_some, mp_some, cnd_t, cnd_f, gd_no, gd_tt, gd_tf, gd_ft, gd_ff, alenS_s, alen_sl, alen_ns, abin_add, abin_sub, abin_mul, abin_eql, abin_neq, abin_lss, abin_leq, abin_gtr, abin_geq, abin_seql, abin_sneq, abin_slss, aun_not, aun_neg, agn_some, aeqN_nf, aeqN_f, aeqN_np, aeqN_p, anilc_p, aeqB_t, aeqB_f, aconv_i, apick_b, cond_true, cond_false, decide_true, decide_false, Bool.not_true, Bool.not_false, aext_t, ofPart_c, ofPart_a, part?_c, part?_a, cells?_c, cells?_a, tupN_2, tupN_3, Option.map_some, Option.some.injEq, List.getElem?_cons_zero, List.getElem?_cons_succ, not_true_eq_false, not_false_eq_true, quiet_same, bytesI_length, Option.join_some, List.append_assoc, List.cons_append, List.nil_append, List.length_append, List.length_cons, List.length_nil, Nat.zero_add, Nat.add_zero, rd_at, rd_at0, set_at, set_at0, List.set_cons_zero, List.set_cons_succ, ne_eq, decide_not, quiet_ext, newOk_some, List.cons_prefix_cons, List.nil_prefix, List.drop_succ_cons, List.drop_zero, List.all_cons, List.all_nil, Bool.and_true, true_and, and_true, aloadN_at, aloadN_at0, aload1_at, aload1_at0, astoreN_at, astoreN_at0, astore1_at, astore1_at0, aslA_at, aslA_at0, ldN_all, ld1_row, stN_all, st1_row, slr_all, Nat.reduceAdd, Nat.reduceMul, Nat.reduceLT, eq_self, n22, mk, ef1, hp, a1, s1, hO, ef0, hS5, hSp, l4, ef3, hA, ef4, hSm, ef5, ef6, x1, x2, y1, y2, z1, z2] <;> rfl⟩
  obtain ⟨g', e⟩ := key (ro h)
  exact S_escheatlaw23_works_flat e rfl

end Go.Proofs.Ytdgggnlbdoiloaa
end
section
namespace Go.Proofs.Ytdgggnlbdoiloaa
open Go Go.Esc
set_option maxRecDepth 100000
def escheatlaw21_To_o0 : List AOper := [{ dst := some 2, op := .nilrow 256 }]
def escheatlaw21_To_c0 : ACode := .ops escheatlaw21_To_o0
def escheatlaw21_To_o1 : List AOper := [{ dst := some 3, op := .nilrow 256 }]
def escheatlaw21_To_c1 : ACode := .ops escheatlaw21_To_o1
def escheatlaw21_To_o2 : List AOper := [{ dst := some 4, op := .mv (.v (.c (.i .i64 0))) }]
def escheatlaw21_To_c2 : ACode := .ops escheatlaw21_To_o2
def escheatlaw21_To_o3 : List AOper := [{ dst := some 5, op := .mv (.t 4) }, { dst := some 6, op := .mv (.t 0) }, { dst := some 7, op := .len (.t 6) }, { dst := some 8, op := .bin .lss (.t 5) (.t 7) }]
def escheatlaw21_To_c3 : ACode := .ops escheatlaw21_To_o3
def escheatlaw21_To_c4 : ACode := .cond (.t 8) .skip (.exit 0)
def escheatlaw21_To_c5 : ACode := .seq [0, 3, 4, 8] escheatlaw21_To_c3 escheatlaw21_To_c4
def escheatlaw21_To_o4 : List AOper := [{ dst := some 11, op := .mv (.t 3) }, { dst := some 12, op := .mv (.t 0) }, { dst := some 13, op := .mv (.t 4) }, { dst := some 14, op := .iAddrL 256 (.t 12) (.t 13) }, { dst := some 15, op := .loadN 256 (.t 14) }, { dst := some 16, op := .buildSl 256 1 (List.replicate 256 (.i .u8 0)) [(0, 256, (.t 15))] }, { dst := some 17, op := .app 256 (.t 11) (.t 16) }, { dst := some 3, op := .mv (.t 17) }]
def escheatlaw21_To_c6 : ACode := .ops escheatlaw21_To_o4
def escheatlaw21_To_c7 : ACode := .block 1 escheatlaw21_To_c6
def escheatlaw21_To_o5 : List AOper := [{ dst := some 9, op := .mv (.t 4) }, { dst := some 10, op := .bin .add (.t 9) (.v (.c (.i .i64 1))) }, { dst := some 4, op := .mv (.t 10) }]
def escheatlaw21_To_c8 : ACode := .ops escheatlaw21_To_o5
def escheatlaw21_To_c9 : ACode := .seq [0, 3, 4] escheatlaw21_To_c7 escheatlaw21_To_c8
def escheatlaw21_To_c10 : ACode := .seq [0, 3, 4] escheatlaw21_To_c5 escheatlaw21_To_c9
def escheatlaw21_To_c11 : ACode := .loop [0, 3, 4] escheatlaw21_To_c10
def escheatlaw21_To_c12 : ACode := .block 0 escheatlaw21_To_c11
def escheatlaw21_To_c13 : ACode := .seq [0, 3, 4] escheatlaw21_To_c2 escheatlaw21_To_c12
def escheatlaw21_To_o6 : List AOper := [{ dst := some 18, op := .mv (.t 3) }, { dst := some 2, op := .mv (.t 18) }]
def escheatlaw21_To_c14 : ACode := .ops escheatlaw21_To_o6
def escheatlaw21_To_c15 : ACode := .seq [2] escheatlaw21_To_c14 .ret
def escheatlaw21_To_c16 : ACode := .seq [3] escheatlaw21_To_c13 escheatlaw21_To_c15
def escheatlaw21_To_c17 : ACode := .seq [0, 3] escheatlaw21_To_c1 escheatlaw21_To_c16
def escheatlaw21_To_c18 : ACode := .seq [0] escheatlaw21_To_c0 escheatlaw21_To_c17
def A_escheatlaw21_To : AFn := ⟨escheatlaw21_To_c18, [.tmp 2]⟩
noncomputable def E_escheatlaw21_To : Sums := disp0
noncomputable def escheatlaw21_To_c0_d (n : Nat) : SmV := smOps E_escheatlaw21_To escheatlaw21_To_o0
noncomputable def escheatlaw21_To_c1_d (n : Nat) : SmV := smOps E_escheatlaw21_To escheatlaw21_To_o1
noncomputable def escheatlaw21_To_c2_d (n : Nat) : SmV := smOps E_escheatlaw21_To escheatlaw21_To_o2
noncomputable def escheatlaw21_To_c3_d (n : Nat) : SmV := smOps E_escheatlaw21_To escheatlaw21_To_o3
noncomputable def escheatlaw21_To_c4_d (n : Nat) : SmV := smCond (.t 8) smSkip (smExit 0)
noncomputable def escheatlaw21_To_c5_d (n : Nat) : SmV := smSeq [0, 3, 4, 8] (escheatlaw21_To_c3_d n) (escheatlaw21_To_c4_d n)
noncomputable def escheatlaw21_To_c6_d (n : Nat) : SmV := smOps E_escheatlaw21_To escheatlaw21_To_o4
noncomputable def escheatlaw21_To_c7_d (n : Nat) : SmV := smBlock 1 (escheatlaw21_To_c6_d n)
noncomputable def escheatlaw21_To_c8_d (n : Nat) : SmV := smOps E_escheatlaw21_To escheatlaw21_To_o5
noncomputable def escheatlaw21_To_c9_d (n : Nat) : SmV := smSeq [0, 3, 4] (escheatlaw21_To_c7_d n) (escheatlaw21_To_c8_d n)
noncomputable def escheatlaw21_To_c10_d (n : Nat) : SmV := smSeq [0, 3, 4] (escheatlaw21_To_c5_d n) (escheatlaw21_To_c9_d n)
noncomputable def escheatlaw21_To_c11_d (n : Nat) : SmV := smLoop n [0, 3, 4] (escheatlaw21_To_c10_d n)
noncomputable def escheatlaw21_To_c12_d (n : Nat) : SmV := smBlock 0 (escheatlaw21_To_c11_d n)
noncomputable def escheatlaw21_To_c13_d (n : Nat) : SmV := smSeq [0, 3, 4] (escheatlaw21_To_c2_d n) (escheatlaw21_To_c12_d n)
noncomputable def escheatlaw21_To_c14_d (n : Nat) : SmV := smOps E_escheatlaw21_To escheatlaw21_To_o6
noncomputable def escheatlaw21_To_c15_d (n : Nat) : SmV := smSeq [2] (escheatlaw21_To_c14_d n) smRet
noncomputable def escheatlaw21_To_c16_d (n : Nat) : SmV := smSeq [3] (escheatlaw21_To_c13_d n) (escheatlaw21_To_c15_d n)
noncomputable def escheatlaw21_To_c17_d (n : Nat) : SmV := smSeq [0, 3] (escheatlaw21_To_c1_d n) (escheatlaw21_To_c16_d n)
noncomputable def escheatlaw21_To_c18_d (n : Nat) : SmV := smSeq [0] (escheatlaw21_To_c0_d n) (escheatlaw21_To_c17_d n)
noncomputable def escheatlaw21_To_k0 (n : Nat) : AExit → Env → Heap → OptV := fun x e h => match x with | .normal => hold ((escheatlaw21_To_c15_d n) A_escheatlaw21_To.fin (e.keep [3]) h) | .exit id => A_escheatlaw21_To.fin (.exit id) e h | .ret => A_escheatlaw21_To.fin .ret e h
noncomputable def escheatlaw21_To_k1 (n : Nat) : AExit → Env → Heap → OptV := fun x e h => match x with | .exit i => bif Nat.beq i 0 then (escheatlaw21_To_k0 n) .normal e h else (escheatlaw21_To_k0 n) (.exit i) e h | .normal => (escheatlaw21_To_k0 n) .normal e h | .ret => (escheatlaw21_To_k0 n) .ret e h
noncomputable def escheatlaw21_To_l0 (n m : Nat) (x0 x3 x4 : Val) (h : Heap) : OptV := around (escheatlaw21_To_c10_d n) [0, 3, 4] (escheatlaw21_To_k1 n) m [(0, x0), (3, x3), (4, x4)] h
noncomputable def R_escheatlaw21_To (n : Nat) (args : List Val) (h : Heap) : OptV := (escheatlaw21_To_c18_d n) A_escheatlaw21_To.fin (params 0 args) h
theorem R_escheatlaw21_To_eq (n : Nat) (a0 : Val) (h : Heap) : R_escheatlaw21_To n [a0] h = escheatlaw21_To_l0 n n a0 ((.c (.sl ((h ++ [some (Row.mk ([]) true)])).length 0 0 256))) (.c (.i .i64 0)) (((h ++ [some (Row.mk ([]) true)]) ++ [some (Row.mk ([]) true)])) := by kernel_rfl
theorem escheatlaw21_To_l0_eq (n m : Nat) (x0 x3 x4 : Val) (h : Heap) : escheatlaw21_To_l0 n (m + 1) x0 x3 x4 h = bnd (alen x0) fun v1 => bnd (abin .lss x4 v1) fun v2 => cnd v2 (bnd (aiAddrL 256 x0 x4) fun v3 => bnd (aloadN h 256 v3) fun v4 => bnd (afill (List.replicate 256 (.i .u8 0)) [(0, 256, v4)]) fun c5 => bnd (aapp ((h ++ [some (Row.mk (c5) true)])) 256 x3 ((.c (.sl h.length 0 1 256)))) fun p6 => bnd (abin .add x4 (.c (.i .i64 1))) fun v7 => escheatlaw21_To_l0 n m x0 p6.1 v7 p6.2) (some (x3, h)) := by kernel_rfl
theorem K_escheatlaw21_To : FnK Try.prog 16 A_escheatlaw21_To E_escheatlaw21_To R_escheatlaw21_To := .mk' (sound0) Try.func16 (by kernel_rfl) (by intro n args h; kernel_rfl)
noncomputable def S_escheatlaw21_To : Fun := tidy (Lim A_escheatlaw21_To E_escheatlaw21_To)
theorem S_escheatlaw21_To_ok : SOk Try.prog 16 S_escheatlaw21_To := K_escheatlaw21_To.sok
theorem S_escheatlaw21_To_out {n : Nat} {args : List Val} {h h2 : Heap} {v : Val} {sz k : Nat} {cs : List Cell} (he : R_escheatlaw21_To n args (ro h) = some (v, h2)) (ho : Out h.length h2 v sz k cs) (hf : flats cs = true) : S_escheatlaw21_To args h = some (.c (.sl h.length 0 k sz), h ++ [some ⟨cs, true⟩]) := K_escheatlaw21_To.out he ho hf
end Go.Proofs.Ytdgggnlbdoiloaa
end
section
namespace Go.Proofs.Ytdgggnlbdoiloaa
open Go Go.Esc

theorem has_blk {h : Heap} {v : Val} {D : Dev} (hv : Has h v 256 D.length (cellsD D)) (hD : okD D) {i : Nat} (hi : i < D.length) :
    ∃ id off, v = .c (.sl id off D.length 256) ∧ id < h.length ∧ aiAddrL 256 v (.c (.i .i64 (i : Int))) = some (.c (.p id (off + i * 256))) ∧ aloadN h 256 (.c (.p id (off + i * 256))) = some (.a (encB D[i])) := by
  obtain ⟨id, off, rfl, hid, _, h2⟩ := hv.sl (by omega)
  refine ⟨id, off, rfl, hid, iAddrL_of hi, ?_⟩
  rw [h2 (i * 256) 256 (by rw [cellsD_length hD]; omega), cellsD_at hD hi]

theorem afill_blk {b : List UInt8} (hb : b.length = 256) : afill (List.replicate 256 (Cell.i .u8 0)) [(0, 256, .a (encB b))] = some (encB b) := by
  have hl : (encB b).length = 256 := by rw [encB_length, hb]
  have hz : (List.replicate 256 (Cell.i .u8 0)).length = 256 := List.length_replicate
  generalize List.replicate 256 (Cell.i .u8 0) = z at *
  generalize encB b = y at *
  simp only [afill, cells?_a, Option.bind_some]
  rw [if_pos ⟨hl, by omega⟩]
  simp only [lay_all (by omega : y.length = z.length)]

theorem to_loop {g : Heap} {D : Dev} {v : Val} {q : Nat} (hv : Has g v 256 D.length (cellsD D)) (hD : okD D) (h60 : D.length ≤ 1073741823) : ∀ (e i m id : Nat) (h : Heap), i + e = D.length → e < m → Low g.length g h → g.length ≤ id → rd h id = some ⟨cellsD (D.take i), true⟩ →
    ∃ v' h', escheatlaw21_To_l0 q m v (.c (.sl id 0 i 256)) (.c (.i .i64 (i : Int))) h = some (v', h') ∧ Out g.length h' v' 256 D.length (cellsD D)
  | e, i, 0, id, h, _, hm, _, _, _ => by omega
  | 0, i, m + 1, id, h, hi, hm, hlow, hid, hr => by
    have e0 : i = D.length := by omega
    have c0 : ¬ (i : Int) < (D.length : Nat) := by omega
    have hl := (hv.since hlow).len
    rw [e0, List.take_length] at hr
    rw [escheatlaw21_To_l0_eq]
    exact ⟨_, _, by simp only [afAddr_p, List.append_nil, if_true, if_false, bnd_some, mp_some, cnd_t, cnd_f, gd_no, gd_tt, gd_tf, gd_ft, gd_ff, alenS_s, alen_sl, alen_ns, abin_add, abin_sub, abin_mul, abin_eql, abin_neq, abin_lss, abin_leq, abin_gtr, abin_geq, abin_seql, abin_sneq, abin_slss, aun_not, aun_neg, agn_some, aeqN_nf, aeqN_f, aeqN_np, aeqN_p, anilc_p, aeqB_t, aeqB_f, aconv_i, apick_b, cond_true, cond_false, decide_true, decide_false, Bool.not_true, Bool.not_false, aext_t, ofPart_c, ofPart_a, part?_c, part?_a, cells?_c, cells?_a, tupN_2, tupN_3, Option.map_some, Option.some.injEq, List.getElem?_cons_zero, List.getElem?_cons_succ, not_true_eq_false, not_false_eq_true, quiet_same, bytesI_length, Option.join_some, List.append_assoc, List.cons_append, List.nil_append, List.length_append, List.length_cons, List.length_nil, Nat.zero_add, Nat.add_zero, rd_at, rd_at0, set_at, set_at0, List.set_cons_zero, List.set_cons_succ, ne_eq, decide_not, quiet_ext, newOk_some, List.cons_prefix_cons, List.nil_prefix, List.drop_succ_cons, List.drop_zero, List.all_cons, List.all_nil, Bool.and_true, true_and, and_true, hl, c0] <;> rfl, cellsD_length hD, id, by rw [e0], hid, hr⟩
  | e + 1, i, m + 1, id, h, hi, hm, hlow, hid, hr => by
    have hil : i < D.length := by omega
    have c0 : (i : Int) < (D.length : Nat) := by omega
    have hvh := hv.since hlow
    have hl := hvh.len
    obtain ⟨jd, off, e1, hj, a1, l1⟩ := has_blk hvh hD hil
    have ef := afill_blk (hD.at hil)
    have htl : (D.take i).length = i := by rw [List.length_take]; omega
    obtain ⟨h', p1, p2, p3, p4, p5⟩ := push (ys := encB D[i]) hlow hr (by rw [cellsD_length (hD.take i), htl]) hid (by rw [encB_length, hD.at hil]) (by omega) (by omega)
    have et : cellsD (D.take i) ++ encB D[i] = cellsD (D.take (i + 1)) := by
      rw [List.take_succ_eq_append_getElem hil, cellsD_append, cellsD_one]
    rw [et] at p2
    obtain ⟨v', h'', f1, f2⟩ := to_loop (q := q) hv hD h60 e (i + 1) m (h.length + 1) h' (by omega) (by omega) p3 p4 p2
    refine ⟨v', h'', ?_, f2⟩
    rw [escheatlaw21_To_l0_eq]
    generalize encB D[i] = y at *
    simp only [afAddr_p, List.append_nil, if_true, if_false, bnd_some, mp_some, cnd_t, cnd_f, gd_no, gd_tt, gd_tf, gd_ft, gd_ff, alenS_s, alen_sl, alen_ns, abin_add, abin_sub, abin_mul, abin_eql, abin_neq, abin_lss, abin_leq, abin_gtr, abin_geq, abin_seql, abin_sneq, abin_slss, aun_not, aun_neg, agn_some, aeqN_nf, aeqN_f, aeqN_np, aeqN_p, anilc_p, aeqB_t, aeqB_f, aconv_i, apick_b, cond_true, cond_false, decide_true, decide_false, Bool.not_true, Bool.not_false, aext_t, ofPart_c, ofPart_a, part?_c, part?_a, cells?_c, cells?_a, tupN_2, tupN_3, Option.map_some, Option.some.injEq, List.getElem?_cons_zero, List.getElem?_cons_succ, not_true_eq_false, not_false_eq_true, quiet_same, bytesI_length, Option.join_some, List.append_assoc, List.cons_append, List.nil_append, List.length_append, List.length_cons, List.length_nil, Nat.zero_add, Nat.add_zero, rd_at, rd_at0, set_at, set_at0, List.set_cons_zero, List.set_cons_succ, ne_eq, decide_not, quiet_ext, newOk_some, List.cons_prefix_cons, List.nil_prefix, List.drop_succ_cons, List.drop_zero, List.all_cons, List.all_nil, Bool.and_true, true_and, and_true, hl, c0, a1, l1, ef, p1, wi_succ (show i + 1 < 9223372036854775808 by omega)]
    exact f1

theorem to_eq {v : Val} {D : Dev} {h : Heap} (hv : Has h v 256 D.length (cellsD D)) (hD : okD D) (h60 : D.length ≤ 1073741823) : S_escheatlaw21_To [v] h = some (.c (.sl h.length 0 D.length 256), h ++ [some ⟨cellsD D, true⟩]) := by
  have key : ∀ g, Has g v 256 D.length (cellsD D) → ∃ v' g', R_escheatlaw21_To (D.length + 1) [v] g = some (v', g') ∧ Out g.length g' v' 256 D.length (cellsD D) := by
    intro g hv
    obtain ⟨v', h', f1, f2⟩ := to_loop (q := D.length + 1) hv hD h60 D.length 0 (D.length + 1) (g.length + 1) (g ++ [some (Row.mk [] true), some (Row.mk [] true)]) (by omega) (by omega) ((Low.refl (Nat.le_refl _)).new _) (by omega) (by simp [cellsD])
    rw [R_escheatlaw21_To_eq]
    exact ⟨v', h', by simp only [afAddr_p, List.append_nil, if_true, if_false, bnd_some, mp_some, cnd_t, cnd_f, gd_no, gd_tt, gd_tf, gd_ft, gd_ff, alenS_s, alen_sl, alen_ns, abin_add, abin_sub, abin_mul, abin_eql, abin_neq, abin_lss, abin_leq, abin_gtr, abin_geq, abin_seql, abin_sneq, abin_slss, aun_not, aun_neg, agn_some, aeqN_nf, aeqN_f, aeqN_np, aeqN_p, anilc_p, aeqB_t, aeqB_f, aconv_i, apick_b, cond_true, cond_false, decide_true, decide_false, Bool.not_true, Bool.not_false, aext_t, ofPart_c, ofPart_a, part?_c, part?_a, cells?_c, cells?_a, tupN_2, tupN_3, Option.map_some, Option.some.injEq, List.getElem?_cons_zero, List.getElem?_cons_succ, not_true_eq_false, not_false_eq_true, quiet_same, bytesI_length, Option.join_some, List.append_assoc, List.cons_append, List.nil_append, List.length_append, List.length_cons, List.length_nil, Nat.zero_add, Nat.add_zero, rd_at, rd_at0, set_at, set_at0, List.set_cons_zero, List.set_cons_succ, ne_eq, decide_not, quiet_ext, newOk_some, List.cons_prefix_cons, List.nil_prefix, List.drop_succ_cons, List.drop_zero, List.all_cons, List.all_nil, Bool.and_true, true_and, and_true]; exact f1, f2⟩
  obtain ⟨v', g', e, ho⟩ := key (ro h) hv.ro
  exact S_escheatlaw21_To_out e (by simpa [ro_length] using ho) flats_cellsD

end Go.Proofs.Ytdgggnlbdoiloaa
end
section
namespace Go.Proofs.Ytdgggnlbdoiloaa
open Go Go.Esc

def rawT (b : List UInt8) (j : Nat) : List UInt8 := (b.drop (32 * j)).take 32
theorem rawT_length {b : List UInt8} {j : Nat} (hb : b.length = 256) (hj : j < 8) : (rawT b j).length = 32 := by unfold rawT; simp; omega

theorem raw_loop {g : Heap} {b : List UInt8} {z : List Cell} {j q : Nat} (hb : b.length = 256) (hz : z.length = 32) (hj : j < 8) : ∀ e i m : Nat, i + e = 32 → e < m →
    table_Raw_l0 q m (.c (.i .i64 j)) (.c (.p g.length 0)) (.c (.p (g.length + 1) 0)) (.c (.p (g.length + 2) 0)) (.c (.i .i64 i)) (g ++ [some ⟨encB b, true⟩, some ⟨z, true⟩, some ⟨encB ((rawT b j).take i ++ zeros (32 - i)), true⟩]) =
      some (.a (encB (rawT b j)), g ++ [some ⟨encB b, true⟩, some ⟨encB (rawT b j), true⟩, some ⟨encB (rawT b j), true⟩])
  | e, i, 0, _, hm => by omega
  | 0, i, m + 1, hi, hm => by
    have e0 : i = 32 := by omega
    subst e0
    have h1' : ¬ ((32 : Nat) : Int) < 32 := by omega
    have hR := rawT_length hb hj
    have hl : (encB (rawT b j)).length = 32 := by rw [encB_length, hR]
    have e1 : encB ((rawT b j).take 32 ++ zeros (32 - 32)) = encB (rawT b j) := by rw [List.take_of_length_le (by omega)]; simp [zeros]
    rw [table_Raw_l0_eq, e1]
    simp only [afAddr_p, List.append_nil, if_true, if_false, bnd_some, mp_some, cnd_t, cnd_f, gd_no, gd_tt, gd_tf, gd_ft, gd_ff, alenS_s, alen_sl, alen_ns, abin_add, abin_sub, abin_mul, abin_eql, abin_neq, abin_lss, abin_leq, abin_gtr, abin_geq, abin_seql, abin_sneq, abin_slss, aun_not, aun_neg, agn_some, aeqN_nf, aeqN_f, aeqN_np, aeqN_p, anilc_p, aeqB_t, aeqB_f, aconv_i, apick_b, cond_true, cond_false, decide_true, decide_false, Bool.not_true, Bool.not_false, aext_t, ofPart_c, ofPart_a, part?_c, part?_a, cells?_c, cells?_a, tupN_2, tupN_3, Option.map_some, Option.some.injEq, List.getElem?_cons_zero, List.getElem?_cons_succ, not_true_eq_false, not_false_eq_true, quiet_same, bytesI_length, Option.join_some, List.append_assoc, List.cons_append, List.nil_append, List.length_append, List.length_cons, List.length_nil, Nat.zero_add, Nat.add_zero, rd_at, rd_at0, set_at, set_at0, List.set_cons_zero, List.set_cons_succ, ne_eq, decide_not, quiet_ext, newOk_some, List.cons_prefix_cons, List.nil_prefix, List.drop_succ_cons, List.drop_zero, List.all_cons, List.all_nil, Bool.and_true, true_and, and_true, aloadN_at, aloadN_at0, aload1_at, aload1_at0, astoreN_at, astoreN_at0, astore1_at, astore1_at0, aslA_at, aslA_at0, ldN_all, ld1_row, stN_all, st1_row, slr_all, Nat.reduceAdd, Nat.reduceMul, Nat.reduceLT, h1', hl, hz]
  | e + 1, i, m + 1, hi, hm => by
    have ih := raw_loop (g := g) (q := q) hb hz hj e (i + 1) m (by omega) (by omega)
    have hR := rawT_length hb hj
    have h1' : (i : Int) < 32 := by omega
    have w1 : IntKind.wrap .i64 ((j : Int) * 32) = ((32 * j : Nat) : Int) := by rw [wrap_i64 (by omega) (by omega)]; omega
    have a1 : aiAddrA 256 1 (.c (.p g.length 0)) (.c (.i .i64 ((32 * j + i : Nat) : Int))) = some (.c (.p g.length (32 * j + i))) := by rw [iAddrA_of (by omega)]; simp
    have a2 : aiAddrA 32 1 (.c (.p (g.length + 2) 0)) (.c (.i .i64 (i : Int))) = some (.c (.p (g.length + 2) i)) := by rw [iAddrA_of (by omega)]; simp
    have l1 : (encB b)[32 * j + i]? = some (.i .u8 (rawT b j)[i].toNat) := by
      rw [encB_get, List.getElem?_eq_getElem (by omega)]
      have : (rawT b j)[i] = b[32 * j + i]'(by omega) := by simp [rawT]
      rw [this]; rfl
    have ho : i < (encB ((rawT b j).take i ++ zeros (32 - i))).length := by rw [encB_length, List.length_append, zeros_length, List.length_take]; omega
    have es : (encB ((rawT b j).take i ++ zeros (32 - i))).set i (.i .u8 (rawT b j)[i].toNat) = encB ((rawT b j).take (i + 1) ++ zeros (32 - (i + 1))) := by
      rw [encB_set]
      refine congrArg encB ?_
      have h6 : ((rawT b j).take i).length = i := by simp; omega
      rw [List.set_append_right _ _ (by omega), h6, Nat.sub_self, List.take_succ_eq_append_getElem (by omega), List.append_assoc]
      refine congrArg ((rawT b j).take i ++ ·) ?_
      rw [show 32 - i = 32 - (i + 1) + 1 by omega]
      unfold zeros
      rw [List.replicate_succ, List.set_cons_zero]; rfl
    rw [table_Raw_l0_eq]
    simp only [afAddr_p, List.append_nil, if_true, if_false, bnd_some, mp_some, cnd_t, cnd_f, gd_no, gd_tt, gd_tf, gd_ft, gd_ff, alenS_s, alen_sl, alen_ns, abin_add, abin_sub, abin_mul, abin_eql, abin_neq, abin_lss, abin_leq, abin_gtr, abin_geq, abin_seql, abin_sneq, abin_slss, aun_not, aun_neg, agn_some, aeqN_nf, aeqN_f, aeqN_np, aeqN_p, anilc_p, aeqB_t, aeqB_f, aconv_i, apick_b, cond_true, cond_false, decide_true, decide_false, Bool.not_true, Bool.not_false, aext_t, ofPart_c, ofPart_a, part?_c, part?_a, cells?_c, cells?_a, tupN_2, tupN_3, Option.map_some, Option.some.injEq, List.getElem?_cons_zero, List.getElem?_cons_succ, not_true_eq_false, not_false_eq_true, quiet_same, bytesI_length, Option.join_some, List.append_assoc, List.cons_append, List.nil_append, List.length_append, List.length_cons, List.length_nil, Nat.zero_add, Nat.add_zero, rd_at, rd_at0, set_at, set_at0, List.set_cons_zero, List.set_cons_succ, ne_eq, decide_not, quiet_ext, newOk_some, List.cons_prefix_cons, List.nil_prefix, List.drop_succ_cons, List.drop_zero, List.all_cons, List.all_nil, Bool.and_true, true_and, and_true, aloadN_at, aloadN_at0, aload1_at, aload1_at0, astoreN_at, astoreN_at0, astore1_at, astore1_at0, aslA_at, aslA_at0, ldN_all, ld1_row, stN_all, st1_row, slr_all, Nat.reduceAdd, Nat.reduceMul, Nat.reduceLT, h1', w1, wi_add (show 32 * j + i < 9223372036854775808 by omega), a1, a2, l1, ho, es, wi_succ (show i + 1 < 9223372036854775808 by omega)]
    exact ih

theorem table_Raw_eq {b : List UInt8} {j : Nat} {h : Heap} (hb : b.length = 256) (hj : j < 8) : S_table_Raw [.a (encB b), .c (.i .i64 j)] h = some (.a (encB (rawT b j)), h) := by
  have key : ∀ N, 32 < N → ∀ g, ∃ g', R_table_Raw N [.a (encB b), .c (.i .i64 j)] g = some (.a (encB (rawT b j)), g') := by
    intro N hN g
    have c1 : ¬ (j : Int) < 0 := by omega
    have c2 : ¬ (8 : Int) ≤ j := by omega
    have hz : (encB (zeros 32)).length = 32 := by rw [encB_length]; exact zeros_length
    have e := raw_loop (g := g) (z := encB (zeros 32)) (q := N) hb hz hj 32 0 N (by omega) (by omega)
    simp only [List.take_zero, List.nil_append, Nat.sub_zero] at e
    rw [R_table_Raw_eq, zeros_enc]
    generalize zeros 32 = zz at *
    exact ⟨_, by simp only [afAddr_p, List.append_nil, if_true, if_false, bnd_some, mp_some, cnd_t, cnd_f, gd_no, gd_tt, gd_tf, gd_ft, gd_ff, alenS_s, alen_sl, alen_ns, abin_add, abin_sub, abin_mul, abin_eql, abin_neq, abin_lss, abin_leq, abin_gtr, abin_geq, abin_seql, abin_sneq, abin_slss, aun_not, aun_neg, agn_some, aeqN_nf, aeqN_f, aeqN_np, aeqN_p, anilc_p, aeqB_t, aeqB_f, aconv_i, apick_b, cond_true, cond_false, decide_true, decide_false, Bool.not_true, Bool.not_false, aext_t, ofPart_c, ofPart_a, part?_c, part?_a, cells?_c, cells?_a, tupN_2, tupN_3, Option.map_some, Option.some.injEq, List.getElem?_cons_zero, List.getElem?_cons_succ, not_true_eq_false, not_false_eq_true, quiet_same, bytesI_length, Option.join_some, List.append_assoc, List.cons_append, List.nil_append, List.length_append, List.length_cons, List.length_nil, Nat.zero_add, Nat.add_zero, rd_at, rd_at0, set_at, set_at0, List.set_cons_zero, List.set_cons_succ, ne_eq, decide_not, quiet_ext, newOk_some, List.cons_prefix_cons, List.nil_prefix, List.drop_succ_cons, List.drop_zero, List.all_cons, List.all_nil, Bool.and_true, true_and, and_true, aloadN_at, aloadN_at0, aload1_at, aload1_at0, astoreN_at, astoreN_at0, astore1_at, astore1_at0, aslA_at, aslA_at0, ldN_all, ld1_row, stN_all, st1_row, slr_all, Nat.reduceAdd, Nat.reduceMul, Nat.reduceLT, c1, c2]; exact e⟩
  obtain ⟨g', e⟩ := key (h.length + 33) (by omega) (ro h)
  exact S_table_Raw_flat e (by simp)

end Go.Proofs.Ytdgggnlbdoiloaa
end
section
namespace Go.Proofs.Ytdgggnlbdoiloaa
open Go Go.Esc

theorem ino0_length : (inoC 0 0 0 0 (zI 7)).length = 11 := rfl
theorem ino0_eq : [Cell.i .i64 0, .i .i64 0, .i .i64 0, .i .i64 0, .i .i64 0, .i .i64 0, .i .i64 0, .i .i64 0, .i .i64 0, .i .i64 0, .i .i64 0] = inoC 0 0 0 0 (zI 7) := rfl
theorem afill_ino0 : afill (inoC 0 0 0 0 (zI 7)) [] = some (inoC 0 0 0 0 (zI 7)) := rfl

theorem table_Get_at {b : List UInt8} {j : Nat} {h : Heap} (hb : b.length = 256) (hj : j < 8) : S_table_Get [.a (encB b), .c (.i .i64 j)] h = some (.t [.a (cleanC (rawT b j)), .c (.b (cleanI (rawT b j)))], h) := by
  have key : ∀ g, ∃ g', R_table_Get 0 [.a (encB b), .c (.i .i64 j)] g = some (.t [.a (cleanC (rawT b j)), .c (.b (cleanI (rawT b j)))], g') := by
    intro g
    have c1 : ¬ (j : Int) < 0 := by omega
    have c2 : ¬ (8 : Int) ≤ j := by omega
    have hB : (encB b).length = 256 := by rw [encB_length, hb]
    have hR := fun h => table_Raw_eq (h := h) hb hj
    have hC := fun h => inode_Clean_eq (b := rawT b j) (h := h) (rawT_length hb hj)
    have hl := ino0_length
    have hcl := cleanC_length (b := rawT b j)
    rw [R_table_Get_eq, ino0_eq]
    generalize inoC 0 0 0 0 (zI 7) = z at *
    exact ⟨_, by simp only [afAddr_p, List.append_nil, if_true, if_false, bnd_some, mp_some, cnd_t, cnd_f, gd_no, gd_tt, gd_tf, gd_ft, gd_ff, alenS_s, alen_sl, alen_ns, abin_add, abin_sub, abin_mul, abin_eql, abin_neq, abin_lss, abin_leq, abin_gtr, abin_geq, abin_seql, abin_sneq, abin_slss, aun_not, aun_neg, agn_some, aeqN_nf, aeqN_f, aeqN_np, aeqN_p, anilc_p, aeqB_t, aeqB_f, aconv_i, apick_b, cond_true, cond_false, decide_true, decide_false, Bool.not_true, Bool.not_false, aext_t, ofPart_c, ofPart_a, part?_c, part?_a, cells?_c, cells?_a, tupN_2, tupN_3, Option.map_some, Option.some.injEq, List.getElem?_cons_zero, List.getElem?_cons_succ, not_true_eq_false, not_false_eq_true, quiet_same, bytesI_length, Option.join_some, List.append_assoc, List.cons_append, List.nil_append, List.length_append, List.length_cons, List.length_nil, Nat.zero_add, Nat.add_zero, rd_at, rd_at0, set_at, set_at0, List.set_cons_zero, List.set_cons_succ, ne_eq, decide_not, quiet_ext, newOk_some, List.cons_prefix_cons, List.nil_prefix, List.drop_succ_cons, List.drop_zero, List.all_cons, List.all_nil, Bool.and_true, true_and, and_true, aloadN_at, aloadN_at0, aload1_at, aload1_at0, astoreN_at, astoreN_at0, astore1_at, astore1_at0, aslA_at, aslA_at0, ldN_all, ld1_row, stN_all, st1_row, slr_all, Nat.reduceAdd, Nat.reduceMul, Nat.reduceLT, c1, c2, hB, hR, hC, hl, hcl] <;> rfl⟩
  obtain ⟨g', e⟩ := key (ro h)
  exact S_table_Get_flat e (by simp [flats_cleanC])

end Go.Proofs.Ytdgggnlbdoiloaa
end
section
namespace Go.Proofs.Ytdgggnlbdoiloaa
open Go Go.Esc

def rawV (D : Dev) (n i : Int) : List UInt8 := rawT (blk D (whereB D.length n i)) (whereK D.length n i).toNat
def inoV (D : Dev) (n i : Int) : List Cell := bif isInoL D.length n i then cleanC (rawV D n i) else inoC 0 0 0 0 (zI 7)
def kdV (D : Dev) (n i : Int) : Int := bif isInoL D.length n i then (bif cleanI (rawV D n i) then getK (rawV D n i) else 0) else 0
theorem inoV_form (D : Dev) (n i : Int) : ∃ l s p d, inoV D n i = inoC (kdV D n i) l s p d ∧ d.length = 7 := by
  unfold inoV kdV
  cases isInoL D.length n i with
  | false => exact ⟨0, 0, 0, zI 7, rfl, zI_length⟩
  | true =>
    unfold cleanC
    cases cleanI (rawV D n i) with
    | false => exact ⟨0, 0, 0, zI 7, rfl, zI_length⟩
    | true => exact ⟨_, _, _, _, rfl, getD7_length⟩
theorem flats_inoV (D : Dev) (n i : Int) : flats (inoV D n i) = true := by
  obtain ⟨l, s, p, d, e, hd⟩ := inoV_form D n i
  rw [e]
  exact flats_encI (l := _ :: _ :: _ :: _ :: d)

theorem view_Inode_no {b n m i : Int} {f : Cell} {h : Heap} (hi : isInoL b n i = false) : S_view_View_Inode [.a (vwC b n m f), .c (.i .i64 i)] h = some (.a (inoC 0 0 0 0 (zI 7)), h) := by
  have key : ∀ g, ∃ g', R_view_View_Inode 0 [.a (vwC b n m f), .c (.i .i64 i)] g = some (.a (inoC 0 0 0 0 (zI 7)), g') := by
    intro g
    have l3 := vw_l3 (b := b) (n := n) (m := m) (f := f)
    have hW := fun h => geom_Where_eq (b := b) (n := n) (m := m) (i := i) (h := h)
    simp only [hi] at hW
    have hf := afill_ino0
    have hl := ino0_length
    rw [R_view_View_Inode_eq, ino0_eq]
    generalize vwC b n m f = V at *
    generalize inoC 0 0 0 0 (zI 7) = z at *
    exact ⟨_, by simp only [afAddr_p, List.append_nil, if_true, if_false, bnd_some, mp_some, cnd_t, cnd_f, gd_no, gd_tt, gd_tf, gd_ft, gd_ff, alenS_s, alen_sl, alen_ns, abin_add, abin_sub, abin_mul, abin_eql, abin_neq, abin_lss, abin_leq, abin_gtr, abin_geq, abin_seql, abin_sneq, abin_slss, aun_not, aun_neg, agn_some, aeqN_nf, aeqN_f, aeqN_np, aeqN_p, anilc_p, aeqB_t, aeqB_f, aconv_i, apick_b, cond_true, cond_false, decide_true, decide_false, Bool.not_true, Bool.not_false, aext_t, ofPart_c, ofPart_a, part?_c, part?_a, cells?_c, cells?_a, tupN_2, tupN_3, Option.map_some, Option.some.injEq, List.getElem?_cons_zero, List.getElem?_cons_succ, not_true_eq_false, not_false_eq_true, quiet_same, bytesI_length, Option.join_some, List.append_assoc, List.cons_append, List.nil_append, List.length_append, List.length_cons, List.length_nil, Nat.zero_add, Nat.add_zero, rd_at, rd_at0, set_at, set_at0, List.set_cons_zero, List.set_cons_succ, ne_eq, decide_not, quiet_ext, newOk_some, List.cons_prefix_cons, List.nil_prefix, List.drop_succ_cons, List.drop_zero, List.all_cons, List.all_nil, Bool.and_true, true_and, and_true, aloadN_at, aloadN_at0, aload1_at, aload1_at0, astoreN_at, astoreN_at0, astore1_at, astore1_at0, aslA_at, aslA_at0, ldN_all, ld1_row, stN_all, st1_row, slr_all, Nat.reduceAdd, Nat.reduceMul, Nat.reduceLT, l3, hW, hf, hl] <;> rfl⟩
  obtain ⟨g', e⟩ := key (ro h)
  exact S_view_View_Inode_flat e rfl

theorem view_Inode_eq {n m i : Int} {f : Cell} {D : Dev} {h : Heap} (hD : okD D) (hv : IsView h f D) : S_view_View_Inode [.a (vwC D.length n m f), .c (.i .i64 i)] h = some (.a (inoV D n i), h) := by
  cases hi : isInoL D.length n i with
  | false =>
    rw [view_Inode_no hi]
    unfold inoV
    rw [hi]; rfl
  | true =>
    have key : ∀ g, IsView g f D → ∃ g', R_view_View_Inode 0 [.a (vwC D.length n m f), .c (.i .i64 i)] g = some (.a (inoV D n i), g') := by
      intro g hv
      have l3 := vw_l3 (b := D.length) (n := n) (m := m) (f := f)
      have l4 := vw_l4 (b := D.length) (n := n) (m := m) (f := f)
      have hW := fun h => geom_Where_eq (b := D.length) (n := n) (m := m) (i := i) (h := h)
      simp only [hi] at hW
      have hf := afill_ino0
      have hl := ino0_length
      have hK : ∃ j : Nat, whereK D.length n i = j ∧ j < 8 := by
        refine ⟨(whereK D.length n i).toNat, ?_, ?_⟩ <;> unfold whereK <;> rw [hi, cond_true] <;> omega
      obtain ⟨j, hj, hj8⟩ := hK
      have hB := view_Block_eq (n := n) (m := m) (no := whereB D.length n i) (h := g ++ [some (Row.mk (vwC D.length n m f) true), some (Row.mk (inoC 0 0 0 0 (zI 7)) true)]) hD (hv.more _)
      have hG := fun h => table_Get_at (b := blk D (whereB D.length n i)) (j := j) (h := h) (blk_length hD) hj8
      have er : rawT (blk D (whereB D.length n i)) j = rawV D n i := by unfold rawV; rw [hj, Int.toNat_natCast]
      simp only [er] at hG
      simp only [hj] at hW
      have hcl := cleanC_length (b := rawV D n i)
      have ei : inoV D n i = cleanC (rawV D n i) := by unfold inoV; rw [hi]; rfl
      rw [R_view_View_Inode_eq, ino0_eq, ei]
      generalize vwC D.length n m f = V at *
      generalize inoC 0 0 0 0 (zI 7) = z at *
      generalize cleanC (rawV D n i) = y at *
      exact ⟨_, by simp only [afAddr_p, List.append_nil, if_true, if_false, bnd_some, mp_some, cnd_t, cnd_f, gd_no, gd_tt, gd_tf, gd_ft, gd_ff, alenS_s, alen_sl, alen_ns, abin_add, abin_sub, abin_mul, abin_eql, abin_neq, abin_lss, abin_leq, abin_gtr, abin_geq, abin_seql, abin_sneq, abin_slss, aun_not, aun_neg, agn_some, aeqN_nf, aeqN_f, aeqN_np, aeqN_p, anilc_p, aeqB_t, aeqB_f, aconv_i, apick_b, cond_true, cond_false, decide_true, decide_false, Bool.not_true, Bool.not_false, aext_t, ofPart_c, ofPart_a, part?_c, part?_a, cells?_c, cells?_a, tupN_2, tupN_3, Option.map_some, Option.some.injEq, List.getElem?_cons_zero, List.getElem?_cons_succ, not_true_eq_false, not_false_eq_true, quiet_same, bytesI_length, Option.join_some, List.append_assoc, List.cons_append, List.nil_append, List.length_append, List.length_cons, List.length_nil, Nat.zero_add, Nat.add_zero, rd_at, rd_at0, set_at, set_at0, List.set_cons_zero, List.set_cons_succ, ne_eq, decide_not, quiet_ext, newOk_some, List.cons_prefix_cons, List.nil_prefix, List.drop_succ_cons, List.drop_zero, List.all_cons, List.all_nil, Bool.and_true, true_and, and_true, aloadN_at, aloadN_at0, aload1_at, aload1_at0, astoreN_at, astoreN_at0, astore1_at, astore1_at0, aslA_at, aslA_at0, ldN_all, ld1_row, stN_all, st1_row, slr_all, Nat.reduceAdd, Nat.reduceMul, Nat.reduceLT, l3, l4, hW, hB, hG, hf, hl, hcl] <;> rfl⟩
    obtain ⟨g', e⟩ := key (ro h) hv.ro
    exact S_view_View_Inode_flat e (flats_inoV D n i)

end Go.Proofs.Ytdgggnlbdoiloaa
end
section
namespace Go.Proofs.Ytdgggnlbdoiloaa
open Go Go.Esc
set_option maxRecDepth 100000
def escheatlaw23_FreadParts_o0 : List AOper := [{ dst := some 6, op := .mv (.v (.c (.b false))) }]
def escheatlaw23_FreadParts_c0 : ACode := .ops escheatlaw23_FreadParts_o0
def escheatlaw23_FreadParts_o1 : List AOper := [{ dst := some 14, op := .mv (.t 0) }, { dst := some 15, op := .len (.t 14) }, { dst := some 16, op := .bin .gtr (.t 15) (.v (.c (.i .i64 60))) }]
def escheatlaw23_FreadParts_c1 : ACode := .ops escheatlaw23_FreadParts_o1
def escheatlaw23_FreadParts_o2 : List AOper := [{ dst := some 17, op := .call 12 [] }, { dst := some 6, op := .mv (.t 17) }]
def escheatlaw23_FreadParts_c2 : ACode := .ops escheatlaw23_FreadParts_o2
def escheatlaw23_FreadParts_c3 : ACode := .seq [6] escheatlaw23_FreadParts_c2 .ret
def escheatlaw23_FreadParts_c4 : ACode := .cond (.t 16) escheatlaw23_FreadParts_c3 .skip
def escheatlaw23_FreadParts_c5 : ACode := .seq [0, 1, 2, 16] escheatlaw23_FreadParts_c1 escheatlaw23_FreadParts_c4
def escheatlaw23_FreadParts_o3 : List AOper := [{ dst := some 19, op := .mv (.t 0) }, { dst := some 20, op := .call 16 [(.t 19)] }, { dst := some 21, op := .call 15 [(.t 20)] }, { dst := some 18, op := .mv (.t 21) }, { dst := some 22, op := .ext (.t 18) 0 }, { dst := some 23, op := .ext (.t 18) 1 }, { dst := some 7, op := .alloc ([.i .i64 0, .i .i64 0, .i .u64 0, .nf]) }, { dst := none, op := .storeN 4 (.t 7) (.t 22) }, { dst := some 8, op := .mv (.t 23) }]
def escheatlaw23_FreadParts_c6 : ACode := .ops escheatlaw23_FreadParts_o3
def escheatlaw23_FreadParts_o4 : List AOper := [{ dst := some 24, op := .mv (.t 8) }, { dst := some 25, op := .bin .neq (.t 24) (.v (.c (.i .i64 0))) }]
def escheatlaw23_FreadParts_c7 : ACode := .ops escheatlaw23_FreadParts_o4
def escheatlaw23_FreadParts_o5 : List AOper := [{ dst := some 26, op := .call 12 [] }, { dst := some 6, op := .mv (.t 26) }]
def escheatlaw23_FreadParts_c8 : ACode := .ops escheatlaw23_FreadParts_o5
def escheatlaw23_FreadParts_c9 : ACode := .seq [6] escheatlaw23_FreadParts_c8 .ret
def escheatlaw23_FreadParts_c10 : ACode := .cond (.t 25) escheatlaw23_FreadParts_c9 .skip
def escheatlaw23_FreadParts_c11 : ACode := .seq [1, 2, 7, 25] escheatlaw23_FreadParts_c7 escheatlaw23_FreadParts_c10
def escheatlaw23_FreadParts_o6 : List AOper := [{ dst := some 27, op := .loadN 4 (.t 7) }, { dst := some 28, op := .mv (.t 1) }, { dst := some 29, op := .call 17 [(.t 27), (.t 28)] }, { dst := some 9, op := .alloc ([.i .i64 0, .i .i64 0, .i .i64 0, .i .i64 0, .i .i64 0, .i .i64 0, .i .i64 0, .i .i64 0, .i .i64 0, .i .i64 0, .i .i64 0]) }, { dst := none, op := .storeN 11 (.t 9) (.t 29) }]
def escheatlaw23_FreadParts_c12 : ACode := .ops escheatlaw23_FreadParts_o6
def escheatlaw23_FreadParts_o7 : List AOper := [{ dst := some 30, op := .loadN 4 (.t 7) }, { dst := some 31, op := .loadN 11 (.t 9) }, { dst := some 32, op := .call 18 [(.t 30), (.t 31)] }, { dst := some 10, op := .mv (.t 32) }]
def escheatlaw23_FreadParts_c13 : ACode := .ops escheatlaw23_FreadParts_o7
def escheatlaw23_FreadParts_o8 : List AOper := [{ dst := some 33, op := .mv (.t 2) }, { dst := some 34, op := .conv .i64 (.t 33) }, { dst := some 35, op := .loadN 11 (.t 9) }, { dst := some 36, op := .call 19 [(.t 35)] }, { dst := some 37, op := .bin .add (.t 36) (.v (.c (.i .i64 1))) }, { dst := some 38, op := .bin .rem (.t 34) (.t 37) }, { dst := some 11, op := .mv (.t 38) }]
def escheatlaw23_FreadParts_c14 : ACode := .ops escheatlaw23_FreadParts_o8
def escheatlaw23_FreadParts_o9 : List AOper := [{ dst := some 39, op := .loadN 4 (.t 7) }, { dst := some 40, op := .loadN 11 (.t 9) }, { dst := some 41, op := .mv (.t 11) }, { dst := some 42, op := .call 20 [(.t 39), (.t 40), (.v (.c (.i .i64 0))), (.t 41)] }, { dst := some 43, op := .loadN 4 (.t 7) }, { dst := some 44, op := .loadN 11 (.t 9) }, { dst := some 45, op := .mv (.t 11) }]
def escheatlaw23_FreadParts_o10 : List AOper := [{ dst := some 46, op := .call 20 [(.t 43), (.t 44), (.t 45), (.v (.c (.i .i64 34304)))] }, { dst := some 12, op := .mv (.t 42) }, { dst := some 13, op := .mv (.t 46) }]
def escheatlaw23_FreadParts_c15 : ACode := .draw 0 escheatlaw23_FreadParts_o9 escheatlaw23_FreadParts_o10
def escheatlaw23_FreadParts_o11 : List AOper := [{ dst := some 47, op := .mv (.t 10) }, { dst := some 48, op := .len (.t 47) }, { dst := some 49, op := .loadN 11 (.t 9) }, { dst := some 50, op := .call 19 [(.t 49)] }, { dst := some 51, op := .bin .eql (.t 48) (.t 50) }, { dst := some 52, op := .mv (.t 51) }, { dst := some 53, op := .mv (.t 12), guard := some (52, true) }, { dst := some 54, op := .len (.t 53), guard := some (52, true) }, { dst := some 55, op := .mv (.t 11), guard := some (52, true) }, { dst := some 56, op := .bin .eql (.t 54) (.t 55), guard := some (52, true) }, { dst := some 57, op := .pick (.t 52) (.t 56) (.v (.c (.b false))) }, { dst := some 58, op := .mv (.t 57) }, { dst := some 59, op := .buildSl 1 0 ([]) [], guard := some (58, true) }, { dst := some 60, op := .mv (.t 12), guard := some (58, true) }, { dst := some 61, op := .app 1 (.t 59) (.t 60), guard := some (58, true) }, { dst := some 62, op := .mv (.t 13), guard := some (58, true) }, { dst := some 63, op := .app 1 (.t 61) (.t 62), guard := some (58, true) }, { dst := some 64, op := .mv (.t 10), guard := some (58, true) }, { dst := some 65, op := .call 21 [(.t 63), (.t 64)], guard := some (58, true) }, { dst := some 66, op := .pick (.t 58) (.t 65) (.v (.c (.b false))) }, { dst := some 67, op := .mv (.t 66) }, { dst := some 68, op := .call 12 [], guard := some (67, true) }, { dst := some 69, op := .pick (.t 67) (.t 68) (.v (.c (.b false))) }, { dst := some 6, op := .mv (.t 69) }]
def escheatlaw23_FreadParts_c16 : ACode := .ops escheatlaw23_FreadParts_o11
def escheatlaw23_FreadParts_c17 : ACode := .seq [6] escheatlaw23_FreadParts_c16 .ret
def escheatlaw23_FreadParts_c18 : ACode := .seq [9, 10, 11, 12, 13] escheatlaw23_FreadParts_c15 escheatlaw23_FreadParts_c17
def escheatlaw23_FreadParts_c19 : ACode := .seq [7, 9, 10, 11] escheatlaw23_FreadParts_c14 escheatlaw23_FreadParts_c18
def escheatlaw23_FreadParts_c20 : ACode := .seq [2, 7, 9, 10] escheatlaw23_FreadParts_c13 escheatlaw23_FreadParts_c19
def escheatlaw23_FreadParts_c21 : ACode := .seq [2, 7, 9] escheatlaw23_FreadParts_c12 escheatlaw23_FreadParts_c20
def escheatlaw23_FreadParts_c22 : ACode := .seq [1, 2, 7] escheatlaw23_FreadParts_c11 escheatlaw23_FreadParts_c21
def escheatlaw23_FreadParts_c23 : ACode := .seq [1, 2, 7, 8] escheatlaw23_FreadParts_c6 escheatlaw23_FreadParts_c22
def escheatlaw23_FreadParts_c24 : ACode := .seq [0, 1, 2] escheatlaw23_FreadParts_c5 escheatlaw23_FreadParts_c23
def escheatlaw23_FreadParts_c25 : ACode := .seq [0, 1, 2] escheatlaw23_FreadParts_c0 escheatlaw23_FreadParts_c24
def A_escheatlaw23_FreadParts : AFn := ⟨escheatlaw23_FreadParts_c25, [.tmp 6]⟩
noncomputable def E_escheatlaw23_FreadParts : Sums := disp 12 S_escheatlaw23_works (disp 16 S_escheatlaw21_To (disp 15 S_view_Of (disp 17 S_view_View_Inode (disp 18 S_fread_All (disp 19 S_fread_Size (disp 20 S_fread_Read (disp 21 S_escheatref01_Same disp0)))))))
noncomputable def escheatlaw23_FreadParts_c0_d (n : Nat) : SmV := smOps E_escheatlaw23_FreadParts escheatlaw23_FreadParts_o0
noncomputable def escheatlaw23_FreadParts_c1_d (n : Nat) : SmV := smOps E_escheatlaw23_FreadParts escheatlaw23_FreadParts_o1
noncomputable def escheatlaw23_FreadParts_c2_d (n : Nat) : SmV := smOps E_escheatlaw23_FreadParts escheatlaw23_FreadParts_o2
noncomputable def escheatlaw23_FreadParts_c3_d (n : Nat) : SmV := smSeq [6] (escheatlaw23_FreadParts_c2_d n) smRet
noncomputable def escheatlaw23_FreadParts_c4_d (n : Nat) : SmV := smCond (.t 16) (escheatlaw23_FreadParts_c3_d n) smSkip
noncomputable def escheatlaw23_FreadParts_c5_d (n : Nat) : SmV := smSeq [0, 1, 2, 16] (escheatlaw23_FreadParts_c1_d n) (escheatlaw23_FreadParts_c4_d n)
noncomputable def escheatlaw23_FreadParts_c6_d (n : Nat) : SmV := smOps E_escheatlaw23_FreadParts escheatlaw23_FreadParts_o3
noncomputable def escheatlaw23_FreadParts_c7_d (n : Nat) : SmV := smOps E_escheatlaw23_FreadParts escheatlaw23_FreadParts_o4
noncomputable def escheatlaw23_FreadParts_c8_d (n : Nat) : SmV := smOps E_escheatlaw23_FreadParts escheatlaw23_FreadParts_o5
noncomputable def escheatlaw23_FreadParts_c9_d (n : Nat) : SmV := smSeq [6] (escheatlaw23_FreadParts_c8_d n) smRet
noncomputable def escheatlaw23_FreadParts_c10_d (n : Nat) : SmV := smCond (.t 25) (escheatlaw23_FreadParts_c9_d n) smSkip
noncomputable def escheatlaw23_FreadParts_c11_d (n : Nat) : SmV := smSeq [1, 2, 7, 25] (escheatlaw23_FreadParts_c7_d n) (escheatlaw23_FreadParts_c10_d n)
noncomputable def escheatlaw23_FreadParts_c12_d (n : Nat) : SmV := smOps E_escheatlaw23_FreadParts escheatlaw23_FreadParts_o6
noncomputable def escheatlaw23_FreadParts_c13_d (n : Nat) : SmV := smOps E_escheatlaw23_FreadParts escheatlaw23_FreadParts_o7
noncomputable def escheatlaw23_FreadParts_c14_d (n : Nat) : SmV := smOps E_escheatlaw23_FreadParts escheatlaw23_FreadParts_o8
noncomputable def escheatlaw23_FreadParts_c15_d (n : Nat) : SmV := smDraw E_escheatlaw23_FreadParts 0 escheatlaw23_FreadParts_o9 escheatlaw23_FreadParts_o10
noncomputable def escheatlaw23_FreadParts_c16_d (n : Nat) : SmV := smOps E_escheatlaw23_FreadParts escheatlaw23_FreadParts_o11
noncomputable def escheatlaw23_FreadParts_c17_d (n : Nat) : SmV := smSeq [6] (escheatlaw23_FreadParts_c16_d n) smRet
noncomputable def escheatlaw23_FreadParts_c18_d (n : Nat) : SmV := smSeq [9, 10, 11, 12, 13] (escheatlaw23_FreadParts_c15_d n) (escheatlaw23_FreadParts_c17_d n)
noncomputable def escheatlaw23_FreadParts_c19_d (n : Nat) : SmV := smSeq [7, 9, 10, 11] (escheatlaw23_FreadParts_c14_d n) (escheatlaw23_FreadParts_c18_d n)
noncomputable def escheatlaw23_FreadParts_c20_d (n : Nat) : SmV := smSeq [2, 7, 9, 10] (escheatlaw23_FreadParts_c13_d n) (escheatlaw23_FreadParts_c19_d n)
noncomputable def escheatlaw23_FreadParts_c21_d (n : Nat) : SmV := smSeq [2, 7, 9] (escheatlaw23_FreadParts_c12_d n) (escheatlaw23_FreadParts_c20_d n)
noncomputable def escheatlaw23_FreadParts_c22_d (n : Nat) : SmV := smSeq [1, 2, 7] (escheatlaw23_FreadParts_c11_d n) (escheatlaw23_FreadParts_c21_d n)
noncomputable def escheatlaw23_FreadParts_c23_d (n : Nat) : SmV := smSeq [1, 2, 7, 8] (escheatlaw23_FreadParts_c6_d n) (escheatlaw23_FreadParts_c22_d n)
noncomputable def escheatlaw23_FreadParts_c24_d (n : Nat) : SmV := smSeq [0, 1, 2] (escheatlaw23_FreadParts_c5_d n) (escheatlaw23_FreadParts_c23_d n)
noncomputable def escheatlaw23_FreadParts_c25_d (n : Nat) : SmV := smSeq [0, 1, 2] (escheatlaw23_FreadParts_c0_d n) (escheatlaw23_FreadParts_c24_d n)
noncomputable def R_escheatlaw23_FreadParts (n : Nat) (args : List Val) (h : Heap) : OptV := (escheatlaw23_FreadParts_c25_d n) A_escheatlaw23_FreadParts.fin (params 0 args) h
theorem R_escheatlaw23_FreadParts_eq (n : Nat) (a0 a1 a2 : Val) (h : Heap) : R_escheatlaw23_FreadParts n [a0, a1, a2] h = bnd (alen a0) fun v1 => bnd (abin .gtr v1 (.c (.i .i64 60))) fun v2 => cnd v2 (bnd (S_escheatlaw23_works [] h) fun p3 => some (p3.1, p3.2)) (bnd (S_escheatlaw21_To [a0] h) fun p4 => bnd (S_view_Of [p4.1] p4.2) fun p5 => bnd (aext p5.1 0) fun v6 => bnd (aext p5.1 1) fun v7 => bnd (astoreN ((p5.2 ++ [some (Row.mk ([.i .i64 0, .i .i64 0, .i .u64 0, .nf]) true)])) 4 ((.c (.p p5.2.length 0))) v6) fun h8 => bnd (abin .neq v7 (.c (.i .i64 0))) fun v9 => cnd v9 (bnd (S_escheatlaw23_works [] h8) fun p10 => some (p10.1, p10.2)) (bnd (aloadN h8 4 ((.c (.p p5.2.length 0)))) fun v11 => bnd (S_view_View_Inode [v11, a1] h8) fun p12 => bnd (astoreN ((p12.2 ++ [some (Row.mk ([.i .i64 0, .i .i64 0, .i .i64 0, .i .i64 0, .i .i64 0, .i .i64 0, .i .i64 0, .i .i64 0, .i .i64 0, .i .i64 0, .i .i64 0]) true)])) 11 ((.c (.p p12.2.length 0))) p12.1) fun h13 => bnd (aloadN h13 4 ((.c (.p p5.2.length 0)))) fun v14 => bnd (aloadN h13 11 ((.c (.p p12.2.length 0)))) fun v15 => bnd (S_fread_All [v14, v15] h13) fun p16 => bnd (aconv .i64 a2) fun v17 => bnd (aloadN p16.2 11 ((.c (.p p12.2.length 0)))) fun v18 => bnd (S_fread_Size [v18] p16.2) fun p19 => bnd (abin .add p19.1 (.c (.i .i64 1))) fun v20 => bnd (abin .rem v17 v20) fun v21 => bnd (aloadN p19.2 4 ((.c (.p p5.2.length 0)))) fun v22 => bnd (aloadN p19.2 11 ((.c (.p p12.2.length 0)))) fun v23 => bnd (quiet ((p19.2 ++ [])) (S_fread_Read [v22, v23, .c (.i .i64 0), v21] ((p19.2 ++ [])))) fun p24 => bnd (aloadN p19.2 4 ((.c (.p p5.2.length 0)))) fun v25 => bnd (aloadN p19.2 11 ((.c (.p p12.2.length 0)))) fun v26 => bnd (S_fread_Read [v25, v26, v21, .c (.i .i64 34304)] p24.2) fun p27 => bnd (alen p16.1) fun v28 => bnd (aloadN p27.2 11 ((.c (.p p12.2.length 0)))) fun v29 => bnd (S_fread_Size [v29] p27.2) fun p30 => bnd (abin .eql v28 p30.1) fun v31 => bnd (gd v31 true (some (p24.1, p30.2)) (some (.no, p30.2))) fun p32 => bnd (gd v31 true (bnd (alen p32.1) fun v33 => some (v33, p32.2)) (some (.no, p32.2))) fun p34 => bnd (gd v31 true (some (v21, p34.2)) (some (.no, p34.2))) fun p35 => bnd (gd v31 true (bnd (abin .eql p34.1 p35.1) fun v36 => some (v36, p35.2)) (some (.no, p35.2))) fun p37 => bnd (apick v31 p37.1 (.c (.b false))) fun v38 => bnd (gd v38 true (bnd (afill ([]) []) fun c39 => some ((.c (.sl p37.2.length 0 0 1)), (p37.2 ++ [some (Row.mk (c39) true)]))) (some (.no, p37.2))) fun p40 => bnd (gd v38 true (some (p24.1, p40.2)) (some (.no, p40.2))) fun p41 => bnd (gd v38 true (bnd (aapp p41.2 1 p40.1 p41.1) fun p42 => some (p42.1, p42.2)) (some (.no, p41.2))) fun p43 => bnd (gd v38 true (some (p27.1, p43.2)) (some (.no, p43.2))) fun p44 => bnd (gd v38 true (bnd (aapp p44.2 1 p43.1 p44.1) fun p45 => some (p45.1, p45.2)) (some (.no, p44.2))) fun p46 => bnd (gd v38 true (some (p16.1, p46.2)) (some (.no, p46.2))) fun p47 => bnd (gd v38 true (bnd (S_escheatref01_Same [p46.1, p47.1] p47.2) fun p48 => some (p48.1, p48.2)) (some (.no, p47.2))) fun p49 => bnd (apick v38 p49.1 (.c (.b false))) fun v50 => bnd (gd v50 true (bnd (S_escheatlaw23_works [] p49.2) fun p51 => some (p51.1, p51.2)) (some (.no, p49.2))) fun p52 => bnd (apick v50 p52.1 (.c (.b false))) fun v53 => some (v53, p52.2))) := by kernel_rfl
theorem K_escheatlaw23_FreadParts : FnK Try.prog 5 A_escheatlaw23_FreadParts E_escheatlaw23_FreadParts R_escheatlaw23_FreadParts := .mk' (sound1 S_escheatlaw23_works_ok (sound1 S_escheatlaw21_To_ok (sound1 S_view_Of_ok (sound1 S_view_View_Inode_ok (sound1 S_fread_All_ok (sound1 S_fread_Size_ok (sound1 S_fread_Read_ok (sound1 S_escheatref01_Same_ok sound0)))))))) Try.func5 (by kernel_rfl) (by intro n args h; kernel_rfl)
noncomputable def S_escheatlaw23_FreadParts : Fun := tidy (Lim A_escheatlaw23_FreadParts E_escheatlaw23_FreadParts)
theorem S_escheatlaw23_FreadParts_ok : SOk Try.prog 5 S_escheatlaw23_FreadParts := K_escheatlaw23_FreadParts.sok
theorem S_escheatlaw23_FreadParts_flat {n : Nat} {args : List Val} {h h2 : Heap} {v : Val} (he : R_escheatlaw23_FreadParts n args (ro h) = some (v, h2)) (hf : v.flat = true) : S_escheatlaw23_FreadParts args h = some (v, h) := K_escheatlaw23_FreadParts.flat he hf
end Go.Proofs.Ytdgggnlbdoiloaa
end
section
namespace Go.Proofs.Ytdgggnlbdoiloaa
open Go Go.Esc

theorem manyR_all {k s : Int} : (manyR k s 0 34304 : Int) = sizeF k s := by
  have := sizeF_range (k := k) (s := s)
  unfold manyR
  split <;> omega
theorem manyR_head {k s c : Int} (h0 : 0 ≤ c) (hc : c ≤ sizeF k s) : (manyR k s 0 c : Int) = c := by
  unfold manyR
  split <;> omega
theorem manyR_tail {k s c : Int} (h0 : 0 ≤ c) (hc : c ≤ sizeF k s) : (manyR k s c 34304 : Int) = sizeF k s - c := by
  have := sizeF_range (k := k) (s := s)
  unfold manyR
  split <;> omega
theorem read_parts {D : Dev} {n k s c : Int} {d : List Int} (h0 : 0 ≤ c) (hc : c ≤ sizeF k s) : readF D n k s d 0 c ++ readF D n k s d c 34304 = readF D n k s d 0 34304 := by
  have h1 := manyR_all (k := k) (s := s)
  have h2 := manyR_head (k := k) (s := s) h0 hc
  have h3 := manyR_tail (k := k) (s := s) h0 hc
  unfold readF
  rw [← List.map_append]
  congr 1
  have e1 : c.toNat = 0 + 1 * manyR k s 0 c := by omega
  have e2 : manyR k s 0 34304 = manyR k s 0 c + manyR k s c 34304 := by omega
  rw [e2, show (0 : Int).toNat = 0 from rfl, ← List.range'_append (step := 1), ← e1]

set_option maxHeartbeats 1000000 in
theorem freadParts_eq {v : Val} {D : Dev} {ino cut : Int} {h : Heap} (hv : Has h v 256 D.length (cellsD D)) (hD : okD D) (h0 : 0 ≤ cut) (h1 : cut ≤ 65535) : S_escheatlaw23_FreadParts [v, .c (.i .i64 ino), .c (.i .u16 cut)] h = some (.c (.b true), h) := by
  have key : ∀ g, Has g v 256 D.length (cellsD D) → ∃ g', R_escheatlaw23_FreadParts 0 [v, .c (.i .i64 ino), .c (.i .u16 cut)] g = some (.c (.b true), g') := by
    intro g hv
    have hl := hv.len
    rw [R_escheatlaw23_FreadParts_eq]
    by_cases c0 : (60 : Int) < (D.length : Nat)
    · exact ⟨_, by simp only [afAddr_p, List.append_nil, if_true, if_false, bnd_some, mp_some, cnd_t, cnd_f, gd_no, gd_tt, gd_tf, gd_ft, gd_ff, alenS_s, alen_sl, alen_ns, abin_add, abin_sub, abin_mul, abin_eql, abin_neq, abin_lss, abin_leq, abin_gtr, abin_geq, abin_seql, abin_sneq, abin_slss, aun_not, aun_neg, agn_some, aeqN_nf, aeqN_f, aeqN_np, aeqN_p, anilc_p, aeqB_t, aeqB_f, aconv_i, apick_b, cond_true, cond_false, decide_true, decide_false, Bool.not_true, Bool.not_false, aext_t, ofPart_c, ofPart_a, part?_c, part?_a, cells?_c, cells?_a, tupN_2, tupN_3, Option.map_some, Option.some.injEq, List.getElem?_cons_zero, List.getElem?_cons_succ, not_true_eq_false, not_false_eq_true, quiet_same, bytesI_length, Option.join_some, List.append_assoc, List.cons_append, List.nil_append, List.length_append, List.length_cons, List.length_nil, Nat.zero_add, Nat.add_zero, rd_at, rd_at0, set_at, set_at0, List.set_cons_zero, List.set_cons_succ, ne_eq, decide_not, quiet_ext, newOk_some, List.cons_prefix_cons, List.nil_prefix, List.drop_succ_cons, List.drop_zero, List.all_cons, List.all_nil, Bool.and_true, true_and, and_true, hl, c0, works23_eq] <;> rfl⟩
    · have hT := to_eq hv hD (by omega)
      have hH : Has (g ++ [some ⟨cellsD D, true⟩]) (.c (.sl g.length 0 D.length 256)) 256 D.length (cellsD D) := Has.tr (by simp) (cellsD_length hD) (noX_cellsD D)
      cases cd : devL D with
      | false =>
        obtain ⟨t, hO⟩ := view_Of_bad hH hD cd
        have n13 : ¬ (13 : Int) = 0 := by decide
        obtain ⟨H, hHe⟩ : ∃ H, H = g ++ [some (Row.mk (cellsD D) true)] ++ t := ⟨_, rfl⟩
        rw [← hHe] at hO
        have hS5 : astoreN (H ++ [some (Row.mk [.i .i64 0, .i .i64 0, .i .u64 0, .nf] true)]) 4 (.c (.p H.length 0)) (.a (vwC 0 0 0 .nf)) = some (H ++ [some (Row.mk (vwC 0 0 0 .nf) true)]) := by rw [astoreN_at0]; rfl
        exact ⟨_, by simp only [afAddr_p, List.append_nil, if_true, if_false, bnd_some, mp_some, cnd_t, cnd_f, gd_no, gd_tt, gd_tf, gd_ft, gd_ff, alenS_s, alen_sl, alen_ns, abin_add, abin_sub, abin_mul, abin_eql, abin_neq, abin_lss, abin_leq, abin_gtr, abin_geq, abin_seql, abin_sneq, abin_slss, aun_not, aun_neg, agn_some, aeqN_nf, aeqN_f, aeqN_np, aeqN_p, anilc_p, aeqB_t, aeqB_f, aconv_i, apick_b, cond_true, cond_false, decide_true, decide_false, Bool.not_true, Bool.not_false, aext_t, ofPart_c, ofPart_a, part?_c, part?_a, cells?_c, cells?_a, tupN_2, tupN_3, Option.map_some, Option.some.injEq, List.getElem?_cons_zero, List.getElem?_cons_succ, not_true_eq_false, not_false_eq_true, quiet_same, bytesI_length, Option.join_some, List.append_assoc, List.cons_append, List.nil_append, List.length_append, List.length_cons, List.length_nil, Nat.zero_add, Nat.add_zero, rd_at, rd_at0, set_at, set_at0, List.set_cons_zero, List.set_cons_succ, ne_eq, decide_not, quiet_ext, newOk_some, List.cons_prefix_cons, List.nil_prefix, List.drop_succ_cons, List.drop_zero, List.all_cons, List.all_nil, Bool.and_true, true_and, and_true, hl, c0, hT, hO, hS5, n13, works23_eq] <;> rfl⟩
      | true =>
        obtain ⟨f, t, hO, hV⟩ := view_Of_ok hH hD cd (by omega)
        obtain ⟨H, hHe⟩ : ∃ H, H = g ++ [some (Row.mk (cellsD D) true)] ++ t := ⟨_, rfl⟩
        rw [← hHe] at hO hV
        generalize hn : devN D = n at *
        generalize hm : devM D = m at *
        obtain ⟨V, hVe⟩ : ∃ V, V = vwC D.length n m f := ⟨_, rfl⟩
        have hS5 : astoreN (H ++ [some (Row.mk [.i .i64 0, .i .i64 0, .i .u64 0, .nf] true)]) 4 (.c (.p H.length 0)) (.a V) = some (H ++ [some (Row.mk V true)]) := by rw [hVe, astoreN_at0]; rfl
        have l4 : ldN (some (Row.mk V true)) 0 4 = some (.a V) := by rw [hVe]; rfl
        have hI := view_Inode_eq (n := n) (m := m) (i := ino) (h := H ++ [some (Row.mk V true)]) hD (hV.more _)
        obtain ⟨l, s, p, d, ei, hd⟩ := inoV_form D n ino
        rw [ei] at hI
        generalize kdV D n ino = k at *
        have hIl : (inoC k l s p d).length = 11 := by simp [inoC, encI_length, hd]
        have l11 : ldN (some (Row.mk (inoC k l s p d) true)) 0 11 = some (.a (inoC k l s p d)) := ldN_all hIl
        have hsz := sizeF_range (k := k) (s := s)
        have hc0 : 0 ≤ cut % (sizeF k s + 1) := Int.emod_nonneg _ (by omega)
        have hc1 : cut % (sizeF k s + 1) ≤ sizeF k s := by have := Int.emod_lt_of_pos cut (show 0 < sizeF k s + 1 by omega); omega
        have r1 : abin .rem (.c (.i .i64 cut)) (.c (.i .i64 (sizeF k s + 1))) = some (.c (.i .i64 (cut % (sizeF k s + 1)))) := rem_i (by omega) (by omega)
        have w1 : IntKind.wrap .i64 (sizeF k s + 1) = sizeF k s + 1 := wrap_i64 (by omega) (by omega)
        have w2 : IntKind.wrap .i64 cut = cut := wrap_i64 (by omega) (by omega)
        have hA := fread_All_eq (n := n) (m := m) (k := k) (l := l) (s := s) (p := p) (h := H ++ [some (Row.mk V true), some (Row.mk (inoC k l s p d) true)]) hD hd (hV.more _)
        have hSz := fun h => fread_Size_eq (k := k) (l := l) (s := s) (p := p) (d := d) (h := h)
        generalize cut % (sizeF k s + 1) = c at *
        have m1 := manyR_all (k := k) (s := s)
        have m2 := manyR_head (k := k) (s := s) hc0 hc1
        have m3 := manyR_tail (k := k) (s := s) hc0 hc1
        have hp := read_parts (D := D) (n := n) (d := d) hc0 hc1
        have z1 := readF_length (D := D) (n := n) (k := k) (s := s) (d := d) (off := 0) (cnt := 34304)
        have z2 := readF_length (D := D) (n := n) (k := k) (s := s) (d := d) (off := 0) (cnt := c)
        have z3 := readF_length (D := D) (n := n) (k := k) (s := s) (d := d) (off := c) (cnt := 34304)
        have hB := fun h hv => fread_Read_eq (f := f) (n := n) (m := m) (k := k) (l := l) (s := s) (p := p) (off := 0) (cnt := c) (h := h) hD hd hv
        have hC := fun h hv => fread_Read_eq (f := f) (n := n) (m := m) (k := k) (l := l) (s := s) (p := p) (off := c) (cnt := 34304) (h := h) hD hd hv
        rw [← hVe] at hO hI hA
        simp only [← hVe] at hB hC
        generalize readF D n k s d 0 34304 = A at *
        generalize readF D n k s d 0 c = a at *
        generalize readF D n k s d c 34304 = b at *
        have hB2 := hB (H ++ [some (Row.mk V true), some (Row.mk (inoC k l s p d) true), some (Row.mk (encB A) true)]) (hV.more _)
        have hC2 := hC (H ++ [some (Row.mk V true), some (Row.mk (inoC k l s p d) true), some (Row.mk (encB A) true), some (Row.mk (encB a) true)]) (hV.more _)
        have hQ := quiet_grows (h := H ++ [some (Row.mk V true), some (Row.mk (inoC k l s p d) true), some (Row.mk (encB A) true)]) (v := .c (.sl (H ++ [some (Row.mk V true), some (Row.mk (inoC k l s p d) true), some (Row.mk (encB A) true)]).length 0 a.length 1)) (Grows.rfl'.new (encB a))
        have e1 : ((A.length : Nat) : Int) = sizeF k s := by omega
        have e2 : ((a.length : Nat) : Int) = c := by omega
        have ef0 : afill ([] : List Cell) [] = some [] := rfl
        have p1 := app_has (h := H ++ [some (Row.mk V true), some (Row.mk (inoC k l s p d) true), some (Row.mk (encB A) true), some (Row.mk (encB a) true), some (Row.mk (encB b) true), some (Row.mk [] true)]) (id := H.length + 5) (m := a.length) (sz := 1) (ys := encB a) (y := .c (.sl (H.length + 3) 0 a.length 1)) (by simp) (Has.tr (by simp) (by rw [encB_length, Nat.mul_one]) (noX_encB _)) (by omega) (by omega)
        have p2 := app_of (h := H ++ [some (Row.mk V true), some (Row.mk (inoC k l s p d) true), some (Row.mk (encB A) true), some (Row.mk (encB a) true), some (Row.mk (encB b) true), none, some (Row.mk (encB a) true)]) (id := H.length + 6) (jd := H.length + 4) (n := a.length) (m := b.length) (sz := 1) (cs := encB a) (ys := encB b) (rw := true) (by simp) (by rw [encB_length, Nat.mul_one]) (by simp) (by rw [encB_length, Nat.mul_one]) rfl (by omega) (by omega)
        rw [← encB_append, hp] at p2
        have eAl : a.length + b.length = A.length := by rw [← hp, List.length_append]
        rw [eAl] at p2
        have hSm := ref01_Same_eq (h := H ++ [some (Row.mk V true), some (Row.mk (inoC k l s p d) true), some (Row.mk (encB A) true), some (Row.mk (encB a) true), some (Row.mk (encB b) true), none, none, some (Row.mk (encB A) true)]) (v := .c (.sl (H.length + 7) 0 A.length 1)) (nv := A.length) (u := .c (.sl (H.length + 2) 0 A.length 1)) (nu := A.length) (l := A) (r := A)
          (Has.tr (by simp) (by rw [encB_length, Nat.mul_one]) (noX_encB _)) (Has.tr (by simp) (by rw [encB_length, Nat.mul_one]) (noX_encB _)) (by omega)
        rw [decide_eq_true rfl] at hSm
        rw [ino0_eq]
        have hl0 : (inoC 0 0 0 0 (zI 7)).length = 11 := rfl
        generalize inoC 0 0 0 0 (zI 7) = z0 at *
        generalize inoC k l s p d = I at *
        generalize encB A = yA at *
        generalize encB a = ya at *
        generalize encB b = yb at *
        simp only [afAddr_p, List.append_nil, if_true, if_false, bnd_some, mp_some, cnd_t, cnd_f, gd_no, gd_tt, gd_tf, gd_ft, gd_ff, alenS_s, alen_sl, alen_ns, abin_add, abin_sub, abin_mul, abin_eql, abin_neq, abin_lss, abin_leq, abin_gtr, abin_geq, abin_seql, abin_sneq, abin_slss, aun_not, aun_neg, agn_some, aeqN_nf, aeqN_f, aeqN_np, aeqN_p, anilc_p, aeqB_t, aeqB_f, aconv_i, apick_b, cond_true, cond_false, decide_true, decide_false, Bool.not_true, Bool.not_false, aext_t, ofPart_c, ofPart_a, part?_c, part?_a, cells?_c, cells?_a, tupN_2, tupN_3, Option.map_some, Option.some.injEq, List.getElem?_cons_zero, List.getElem?_cons_succ, not_true_eq_false, not_false_eq_true, quiet_same, bytesI_length, Option.join_some, List.append_assoc, List.cons_append, List.nil_append, List.length_append, List.length_cons, List.length_nil, Nat.zero_add, Nat.add_zero, rd_at, rd_at0, set_at, set_at0, List.set_cons_zero, List.set_cons_succ, ne_eq, decide_not, quiet_ext, newOk_some, List.cons_prefix_cons, List.nil_prefix, List.drop_succ_cons, List.drop_zero, List.all_cons, List.all_nil, Bool.and_true, true_and, and_true] at hA hB2 hC2 hQ p1 p2
        exact ⟨_, by simp only [afAddr_p, List.append_nil, if_true, if_false, bnd_some, mp_some, cnd_t, cnd_f, gd_no, gd_tt, gd_tf, gd_ft, gd_ff, alenS_s, alen_sl, alen_ns, abin_add, abin_sub, abin_mul, abin_eql, abin_neq, abin_lss, abin_leq, abin_gtr, abin_geq, abin_seql, abin_sneq, abin_slss, aun_not, aun_neg, agn_some, aeqN_nf, aeqN_f, aeqN_np, aeqN_p, anilc_p, aeqB_t, aeqB_f, aconv_i, apick_b, cond_true, cond_false, decide_true, decide_false, Bool.not_true, Bool.not_false, aext_t, ofPart_c, ofPart_a, part?_c, part?_a, cells?_c, cells?_a, tupN_2, tupN_3, Option.map_some, Option.some.injEq, List.getElem?_cons_zero, List.getElem?_cons_succ, not_true_eq_false, not_false_eq_true, quiet_same, bytesI_length, Option.join_some, List.append_assoc, List.cons_append, List.nil_append, List.length_append, List.length_cons, List.length_nil, Nat.zero_add, Nat.add_zero, rd_at, rd_at0, set_at, set_at0, List.set_cons_zero, List.set_cons_succ, ne_eq, decide_not, quiet_ext, newOk_some, List.cons_prefix_cons, List.nil_prefix, List.drop_succ_cons, List.drop_zero, List.all_cons, List.all_nil, Bool.and_true, true_and, and_true, aloadN_at, aloadN_at0, aload1_at, aload1_at0, astoreN_at, astoreN_at0, astore1_at, astore1_at0, aslA_at, aslA_at0, ldN_all, ld1_row, stN_all, st1_row, slr_all, Nat.reduceAdd, Nat.reduceMul, Nat.reduceLT, eq_self, hl, c0, hT, hO, hS5, l4, hI, hl0, hIl, l11, hA, w2, hSz, w1, r1, hB2, hQ, hC2, e1, e2, ef0, p1, p2, hSm, works23_eq] <;> rfl⟩
  obtain ⟨g', e⟩ := key (ro h) hv.ro
  exact S_escheatlaw23_FreadParts_flat e rfl

end Go.Proofs.Ytdgggnlbdoiloaa
end
section
namespace Go.Proofs.Ytdgggnlbdoiloaa
open Go

def startWords : List Char := (([104, 97, 114, 110, 101, 115, 115, 32, 102, 53, 49, 98, 54, 51, 100, 100, 54, 97, 57, 49, 52, 55, 49, 97, 52, 49, 55, 51, 48, 53, 98, 100, 50, 53, 100, 51, 52, 98, 48, 51, 50, 50, 54, 51, 53, 54, 57, 49, 49, 101, 54, 51, 100, 55, 55, 98, 99, 101, 98, 51, 101, 49, 50, 56, 100, 100, 49, 50, 49, 55, 53, 51, 32, 99, 117, 116, 32, 97, 116, 32, 101, 115, 99, 104, 101, 97, 116, 47, 101, 115, 99, 104, 101, 97, 116, 108, 97, 119, 50, 51, 46, 70, 114, 101, 97, 100, 83, 112, 97, 110, 115, 32, 101, 115, 99, 104, 101, 97, 116, 47, 101, 115, 99, 104, 101, 97, 116, 108, 97, 119, 50, 51, 46, 70, 114, 101, 97, 100, 79, 110, 99, 101, 32, 101, 115, 99, 104, 101, 97, 116, 47, 101, 115, 99, 104, 101, 97, 116, 108, 97, 119, 50, 51, 46, 70, 114, 101, 97, 100, 80, 97, 114, 116, 115, 32, 101, 115, 99, 104, 101, 97, 116, 47, 101, 115, 99, 104, 101, 97, 116, 108, 97, 119, 50, 50, 46, 70, 109, 97, 112, 79, 119, 110, 115, 32, 101, 115, 99, 104, 101, 97, 116, 47, 101, 115, 99, 104, 101, 97, 116, 108, 97, 119, 50, 49, 46, 86, 105, 101, 119, 82, 101, 97, 100, 115, 32, 101, 115, 99, 104, 101, 97, 116, 47, 101, 115, 99, 104, 101, 97, 116, 108, 97, 119, 50, 49, 46, 86, 105, 101, 119, 66, 97, 99, 107, 32, 101, 115, 99, 104, 101, 97, 116, 47, 101, 115, 99, 104, 101, 97, 116, 108, 97, 119, 50, 49, 46, 86, 105, 101, 119, 79, 110, 32, 101, 115, 99, 104, 101, 97, 116, 47, 101, 115, 99, 104, 101, 97, 116, 108, 97, 119, 50, 50, 46, 70, 109, 97, 112, 68, 105, 114, 115, 32, 101, 115, 99, 104, 101, 97, 116, 47, 101, 115, 99, 104, 101, 97, 116, 108, 97, 119, 50, 52, 46, 68, 114, 101, 97, 100, 79, 110, 99, 101] : List Nat).map Char.ofNat)
set_option maxRecDepth 100000
theorem own_ok : ownKnob Try.prog.godebug = none := by kernel_rfl
theorem laid_ok : laidOutB Try.prog = true := by kernel_rfl
theorem start_eq : Try.prog.initOrder = String.ofList startWords := by kernel_rfl
theorem start_list : Try.prog.initOrder.toList = startWords := by rw [start_eq, String.toList_ofList]
def startRest : List (List Char) := (([[99, 117, 116], [97, 116], [101, 115, 99, 104, 101, 97, 116, 47, 101, 115, 99, 104, 101, 97, 116, 108, 97, 119, 50, 51, 46, 70, 114, 101, 97, 100, 83, 112, 97, 110, 115], [101, 115, 99, 104, 101, 97, 116, 47, 101, 115, 99, 104, 101, 97, 116, 108, 97, 119, 50, 51, 46, 70, 114, 101, 97, 100, 79, 110, 99, 101], [101, 115, 99, 104, 101, 97, 116, 47, 101, 115, 99, 104, 101, 97, 116, 108, 97, 119, 50, 51, 46, 70, 114, 101, 97, 100, 80, 97, 114, 116, 115], [101, 115, 99, 104, 101, 97, 116, 47, 101, 115, 99, 104, 101, 97, 116, 108, 97, 119, 50, 50, 46, 70, 109, 97, 112, 79, 119, 110, 115], [101, 115, 99, 104, 101, 97, 116, 47, 101, 115, 99, 104, 101, 97, 116, 108, 97, 119, 50, 49, 46, 86, 105, 101, 119, 82, 101, 97, 100, 115], [101, 115, 99, 104, 101, 97, 116, 47, 101, 115, 99, 104, 101, 97, 116, 108, 97, 119, 50, 49, 46, 86, 105, 101, 119, 66, 97, 99, 107], [101, 115, 99, 104, 101, 97, 116, 47, 101, 115, 99, 104, 101, 97, 116, 108, 97, 119, 50, 49, 46, 86, 105, 101, 119, 79, 110], [101, 115, 99, 104, 101, 97, 116, 47, 101, 115, 99, 104, 101, 97, 116, 108, 97, 119, 50, 50, 46, 70, 109, 97, 112, 68, 105, 114, 115], [101, 115, 99, 104, 101, 97, 116, 47, 101, 115, 99, 104, 101, 97, 116, 108, 97, 119, 50, 52, 46, 68, 114, 101, 97, 100, 79, 110, 99, 101]] : List (List Nat)).map (fun l => l.map Char.ofNat))
theorem split_eq : wordsSigns startWords = (([104, 97, 114, 110, 101, 115, 115] : List Nat).map Char.ofNat) :: (([102, 53, 49, 98, 54, 51, 100, 100, 54, 97, 57, 49, 52, 55, 49, 97, 52, 49, 55, 51, 48, 53, 98, 100, 50, 53, 100, 51, 52, 98, 48, 51, 50, 50, 54, 51, 53, 54, 57, 49, 49, 101, 54, 51, 100, 55, 55, 98, 99, 101, 98, 51, 101, 49, 50, 56, 100, 100, 49, 50, 49, 55, 53, 51] : List Nat).map Char.ofNat) :: startRest := by kernel_rfl
theorem sum_ok : isSumSigns ((([102, 53, 49, 98, 54, 51, 100, 100, 54, 97, 57, 49, 52, 55, 49, 97, 52, 49, 55, 51, 48, 53, 98, 100, 50, 53, 100, 51, 52, 98, 48, 51, 50, 50, 54, 51, 53, 54, 57, 49, 49, 101, 54, 51, 100, 55, 55, 98, 99, 101, 98, 51, 101, 49, 50, 56, 100, 100, 49, 50, 49, 55, 53, 51] : List Nat).map Char.ofNat)) = true := by decide +kernel
theorem harness_ok : ((([104, 97, 114, 110, 101, 115, 115] : List Nat).map Char.ofNat) == "harness".toList) = true := by decide +kernel
theorem behind_gen (h s : List Char) (r : List (List Char)) (h1 : (h == "harness".toList) = true) (h2 : isSumSigns s = true) : behindMainWord (h :: s :: r) = r := by
  unfold behindMainWord
  simp only [h1, h2, Bool.true_or, Bool.true_and, if_true]
theorem behind_eq : behindMainWord (wordsSigns startWords) = startRest := by rw [split_eq]; exact behind_gen _ _ _ harness_ok sum_ok
theorem start_words : behindMainWord (wordsSigns Try.prog.initOrder.toList) = startRest := by rw [start_list]; exact behind_eq
def startTail : List (List Char) := startRest.drop 1
theorem rest_eq : startRest = "cut".toList :: startTail := by decide +kernel
theorem make_gen {P : Program} {rest : List (List Char)} (h : behindMainWord (wordsSigns P.initOrder.toList) = "cut".toList :: rest) : P.make = some .cut := by
  have e1 : ("cut".toList == "gc".toList) = false := by decide +kernel
  have e2 : ("cut".toList == "spec".toList) = false := by decide +kernel
  have e3 : ("cut".toList == "cut".toList) = true := by decide +kernel
  unfold Program.make
  rw [h]
  simp only [e1, e2, e3, Bool.or_self, Bool.true_or, Bool.false_eq_true, if_false, if_true]
theorem make_ok : Try.prog.make = some .cut := make_gen (start_words.trans rest_eq)
theorem strip_none {w : List Char} {ws : List (List Char)} : ∀ os : List String, (os.all fun o => !(w == o.toList)) = true → stripLifts os (w :: ws) = ([], w :: ws)
  | [], _ => rfl
  | o :: os, h => by
    simp only [List.all_cons, Bool.and_eq_true, Bool.not_eq_true'] at h
    unfold stripLifts
    rw [h.1, if_neg (by simp)]
    exact strip_none os h.2
theorem strip_cut (rest : List (List Char)) : stripLifts liftWords ("cut".toList :: rest) = ([], "cut".toList :: rest) := strip_none _ (by decide +kernel)
theorem later_ok : Try.prog.laysLater = false := by kernel_rfl
theorem reflect_ok : Try.prog.bearsReflect = false := by kernel_rfl
theorem door_ok : Try.prog.doorFits [] = true := by kernel_rfl
theorem enter_gen {P : Program} {rest : List (List Char)} (h : behindMainWord (wordsSigns P.initOrder.toList) = "cut".toList :: rest) (h1 : P.laysLater = false) (h2 : P.bearsReflect = false) (h3 : P.doorFits [] = true) : P.mayEnter = true := by
  unfold Program.mayEnter
  rw [h]
  simp only [strip_cut, h1, h2, h3]
  simp
theorem mayEnter_ok : Try.prog.mayEnter = true := enter_gen (start_words.trans rest_eq) later_ok reflect_ok door_ok
theorem lifts_gen {P : Program} {rest : List (List Char)} (h : behindMainWord (wordsSigns P.initOrder.toList) = "cut".toList :: rest) : P.liftsFinal = false := by
  unfold Program.liftsFinal Program.headLifts
  rw [h]
  simp only [strip_cut]
  simp
theorem lifts_ok : Try.prog.liftsFinal = false := lifts_gen (start_words.trans rest_eq)
end Go.Proofs.Ytdgggnlbdoiloaa
end
