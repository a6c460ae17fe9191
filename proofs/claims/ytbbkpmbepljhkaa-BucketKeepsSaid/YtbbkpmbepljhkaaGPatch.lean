/- Patch: the Go functions of this package as the abstract evaluator computes them: printed by a program, checked by Lean. -/
import Derived.Test.YtbbkpmbepljhkaaEscS
import Derived.Test.YtbbkpmbepljhkaaChecked
import Derived.KernelRfl
namespace Go.Proofs.Ytbbkpmbepljhkaa
open Go Go.Esc
set_option maxRecDepth 100000
set_option linter.all false
def patch_Check_o0 : List AOper := [{ dst := some 1, op := .box (.t 0) }, { dst := some 2, op := .mv (.v (.c (.i .i64 0))) }]
def patch_Check_c0 : ACode := .ops patch_Check_o0
def patch_Check_o1 : List AOper := [{ dst := some 4, op := .fAddr (.t 1) 1 }, { dst := some 5, op := .load1 (.t 4) }, { dst := some 6, op := .len (.t 5) }, { dst := some 3, op := .mv (.t 6) }]
def patch_Check_c1 : ACode := .ops patch_Check_o1
def patch_Check_o2 : List AOper := [{ dst := some 7, op := .mv (.t 3) }, { dst := some 8, op := .bin .lss (.t 7) (.v (.c (.i .i64 1))) }, { dst := some 9, op := .mv (.t 8) }, { dst := some 10, op := .mv (.t 3), guard := some (9, false) }, { dst := some 11, op := .bin .gtr (.t 10) (.v (.c (.i .i64 256))), guard := some (9, false) }, { dst := some 12, op := .pick (.t 9) (.v (.c (.b true))) (.t 11) }, { dst := some 13, op := .mv (.t 12) }, { dst := some 14, op := .fAddr (.t 1) 0, guard := some (13, false) }, { dst := some 15, op := .load1 (.t 14), guard := some (13, false) }, { dst := some 16, op := .bin .lss (.t 15) (.v (.c (.i .i64 0))), guard := some (13, false) }, { dst := some 17, op := .pick (.t 13) (.v (.c (.b true))) (.t 16) }, { dst := some 18, op := .mv (.t 17) }, { dst := some 19, op := .fAddr (.t 1) 0, guard := some (18, false) }, { dst := some 20, op := .load1 (.t 19), guard := some (18, false) }, { dst := some 21, op := .mv (.t 3), guard := some (18, false) }, { dst := some 22, op := .bin .sub (.v (.c (.i .i64 256))) (.t 21), guard := some (18, false) }, { dst := some 23, op := .bin .gtr (.t 20) (.t 22), guard := some (18, false) }, { dst := some 24, op := .pick (.t 18) (.v (.c (.b true))) (.t 23) }]
def patch_Check_c2 : ACode := .ops patch_Check_o2
def patch_Check_o3 : List AOper := [{ dst := some 2, op := .mv (.v (.c (.i .i64 2))) }]
def patch_Check_c3 : ACode := .ops patch_Check_o3
def patch_Check_c4 : ACode := .seq [2] patch_Check_c3 .ret
def patch_Check_c5 : ACode := .cond (.t 24) patch_Check_c4 .skip
def patch_Check_c6 : ACode := .seq [24] patch_Check_c2 patch_Check_c5
def patch_Check_o4 : List AOper := [{ dst := some 2, op := .mv (.v (.c (.i .i64 0))) }]
def patch_Check_c7 : ACode := .ops patch_Check_o4
def patch_Check_c8 : ACode := .seq [2] patch_Check_c7 .ret
def patch_Check_c9 : ACode := .seq [] patch_Check_c6 patch_Check_c8
def patch_Check_c10 : ACode := .seq [1, 3] patch_Check_c1 patch_Check_c9
def patch_Check_c11 : ACode := .seq [1] patch_Check_c0 patch_Check_c10
def A_patch_Check : AFn := ⟨patch_Check_c11, [.tmp 2]⟩
noncomputable def E_patch_Check : Sums := disp0
noncomputable def patch_Check_c0_d (n : Nat) : SmV := smOps E_patch_Check patch_Check_o0
noncomputable def patch_Check_c1_d (n : Nat) : SmV := smOps E_patch_Check patch_Check_o1
noncomputable def patch_Check_c2_d (n : Nat) : SmV := smOps E_patch_Check patch_Check_o2
noncomputable def patch_Check_c3_d (n : Nat) : SmV := smOps E_patch_Check patch_Check_o3
noncomputable def patch_Check_c4_d (n : Nat) : SmV := smSeq [2] (patch_Check_c3_d n) smRet
noncomputable def patch_Check_c5_d (n : Nat) : SmV := smCond (.t 24) (patch_Check_c4_d n) smSkip
noncomputable def patch_Check_c6_d (n : Nat) : SmV := smSeq [24] (patch_Check_c2_d n) (patch_Check_c5_d n)
noncomputable def patch_Check_c7_d (n : Nat) : SmV := smOps E_patch_Check patch_Check_o4
noncomputable def patch_Check_c8_d (n : Nat) : SmV := smSeq [2] (patch_Check_c7_d n) smRet
noncomputable def patch_Check_c9_d (n : Nat) : SmV := smSeq [] (patch_Check_c6_d n) (patch_Check_c8_d n)
noncomputable def patch_Check_c10_d (n : Nat) : SmV := smSeq [1, 3] (patch_Check_c1_d n) (patch_Check_c9_d n)
noncomputable def patch_Check_c11_d (n : Nat) : SmV := smSeq [1] (patch_Check_c0_d n) (patch_Check_c10_d n)
noncomputable def R_patch_Check (n : Nat) (args : List Val) (h : Heap) : OptV := (patch_Check_c11_d n) A_patch_Check.fin (params 0 args) h
theorem R_patch_Check_eq (n : Nat) (a0 : Val) (h : Heap) : R_patch_Check n [a0] h = bnd (cells? a0) fun c1 => bnd (afAddr ((.c (.p h.length 0))) 1) fun v2 => bnd (aload1 ((h ++ [some (Row.mk (c1) true)])) v2) fun v3 => bnd (alen v3) fun v4 => bnd (abin .lss v4 (.c (.i .i64 1))) fun v5 => bnd (gd v5 false (some (v4, (h ++ [some (Row.mk (c1) true)]))) (some (.no, (h ++ [some (Row.mk (c1) true)])))) fun p6 => bnd (gd v5 false (bnd (abin .gtr p6.1 (.c (.i .i64 256))) fun v7 => some (v7, p6.2)) (some (.no, p6.2))) fun p8 => bnd (apick v5 (.c (.b true)) p8.1) fun v9 => bnd (gd v9 false (bnd (afAddr ((.c (.p h.length 0))) 0) fun v10 => some (v10, p8.2)) (some (.no, p8.2))) fun p11 => bnd (gd v9 false (bnd (aload1 p11.2 p11.1) fun v12 => some (v12, p11.2)) (some (.no, p11.2))) fun p13 => bnd (gd v9 false (bnd (abin .lss p13.1 (.c (.i .i64 0))) fun v14 => some (v14, p13.2)) (some (.no, p13.2))) fun p15 => bnd (apick v9 (.c (.b true)) p15.1) fun v16 => bnd (gd v16 false (bnd (afAddr ((.c (.p h.length 0))) 0) fun v17 => some (v17, p15.2)) (some (.no, p15.2))) fun p18 => bnd (gd v16 false (bnd (aload1 p18.2 p18.1) fun v19 => some (v19, p18.2)) (some (.no, p18.2))) fun p20 => bnd (gd v16 false (some (v4, p20.2)) (some (.no, p20.2))) fun p21 => bnd (gd v16 false (bnd (abin .sub (.c (.i .i64 256)) p21.1) fun v22 => some (v22, p21.2)) (some (.no, p21.2))) fun p23 => bnd (gd v16 false (bnd (abin .gtr p20.1 p23.1) fun v24 => some (v24, p23.2)) (some (.no, p23.2))) fun p25 => bnd (apick v16 (.c (.b true)) p25.1) fun v26 => cnd v26 (some ((.c (.i .i64 2)), p25.2)) (some ((.c (.i .i64 0)), p25.2)) := by kernel_rfl
theorem K_patch_Check : FnK Try.prog 185 A_patch_Check E_patch_Check R_patch_Check := .mk' (sound0) Try.func185 (by kernel_rfl) (by intro n args h; kernel_rfl)
noncomputable def S_patch_Check : Fun := tidy (Lim A_patch_Check E_patch_Check)
theorem S_patch_Check_ok : SOk Try.prog 185 S_patch_Check := K_patch_Check.sok
theorem S_patch_Check_flat {n : Nat} {args : List Val} {h h2 : Heap} {v : Val} (he : R_patch_Check n args (ro h) = some (v, h2)) (hf : v.flat = true) : S_patch_Check args h = some (v, h) := K_patch_Check.flat he hf
def patch_Lay_o0 : List AOper := [{ dst := some 2, op := .box (.t 0) }, { dst := some 3, op := .box (.t 1) }, { dst := some 4, op := .alloc (List.replicate 256 (.i .u8 0)) }]
def patch_Lay_c0 : ACode := .ops patch_Lay_o0
def patch_Lay_o1 : List AOper := [{ dst := some 7, op := .loadN 2 (.t 3) }, { dst := some 8, op := .call 185 [(.t 7)] }, { dst := some 9, op := .bin .neq (.t 8) (.v (.c (.i .i64 0))) }]
def patch_Lay_c1 : ACode := .ops patch_Lay_o1
def patch_Lay_o2 : List AOper := [{ dst := some 10, op := .loadN 256 (.t 2) }, { dst := none, op := .storeN 256 (.t 4) (.t 10) }]
def patch_Lay_c2 : ACode := .ops patch_Lay_o2
def patch_Lay_c3 : ACode := .seq [4] patch_Lay_c2 .ret
def patch_Lay_c4 : ACode := .cond (.t 9) patch_Lay_c3 .skip
def patch_Lay_c5 : ACode := .seq [2, 3, 4, 9] patch_Lay_c1 patch_Lay_c4
def patch_Lay_o3 : List AOper := [{ dst := some 11, op := .fAddr (.t 3) 1 }, { dst := some 12, op := .load1 (.t 11) }, { dst := some 13, op := .len (.t 12) }, { dst := some 14, op := .mv (.v (.c (.i .i64 0))) }]
def patch_Lay_c6 : ACode := .ops patch_Lay_o3
def patch_Lay_o4 : List AOper := [{ dst := some 15, op := .bin .lss (.t 14) (.t 13) }]
def patch_Lay_c7 : ACode := .ops patch_Lay_o4
def patch_Lay_c8 : ACode := .cond (.t 15) .skip (.exit 0)
def patch_Lay_o5 : List AOper := [{ dst := some 16, op := .mv (.t 14) }, { dst := some 17, op := .iAddrL 1 (.t 12) (.t 14) }, { dst := some 18, op := .load1 (.t 17) }, { dst := some 5, op := .mv (.t 16) }, { dst := some 6, op := .mv (.t 18) }]
def patch_Lay_c9 : ACode := .ops patch_Lay_o5
def patch_Lay_o6 : List AOper := [{ dst := some 19, op := .fAddr (.t 3) 0 }, { dst := some 20, op := .load1 (.t 19) }, { dst := some 21, op := .mv (.t 5) }, { dst := some 22, op := .bin .add (.t 20) (.t 21) }, { dst := some 23, op := .mv (.t 6) }, { dst := some 24, op := .iAddrA 256 1 (.t 2) (.t 22) }, { dst := none, op := .store1 (.t 24) (.t 23) }]
def patch_Lay_c10 : ACode := .ops patch_Lay_o6
def patch_Lay_c11 : ACode := .seq [2, 3, 4, 5, 6, 12, 13, 14] patch_Lay_c9 patch_Lay_c10
def patch_Lay_c12 : ACode := .block 1 patch_Lay_c11
def patch_Lay_o7 : List AOper := [{ dst := some 25, op := .bin .add (.t 14) (.v (.c (.i .i64 1))) }, { dst := some 14, op := .mv (.t 25) }]
def patch_Lay_c13 : ACode := .ops patch_Lay_o7
def patch_Lay_c14 : ACode := .seq [2, 3, 4, 12, 13, 14] patch_Lay_c12 patch_Lay_c13
def patch_Lay_c15 : ACode := .seq [2, 3, 4, 12, 13, 14] patch_Lay_c8 patch_Lay_c14
def patch_Lay_c16 : ACode := .seq [2, 3, 4, 12, 13, 14, 15] patch_Lay_c7 patch_Lay_c15
def patch_Lay_c17 : ACode := .loop [2, 3, 4, 12, 13, 14] patch_Lay_c16
def patch_Lay_c18 : ACode := .block 0 patch_Lay_c17
def patch_Lay_c19 : ACode := .seq [2, 3, 4, 12, 13, 14] patch_Lay_c6 patch_Lay_c18
def patch_Lay_o8 : List AOper := [{ dst := some 26, op := .loadN 256 (.t 2) }, { dst := none, op := .storeN 256 (.t 4) (.t 26) }]
def patch_Lay_c20 : ACode := .ops patch_Lay_o8
def patch_Lay_c21 : ACode := .seq [4] patch_Lay_c20 .ret
def patch_Lay_c22 : ACode := .seq [2, 4] patch_Lay_c19 patch_Lay_c21
def patch_Lay_c23 : ACode := .seq [2, 3, 4] patch_Lay_c5 patch_Lay_c22
def patch_Lay_c24 : ACode := .seq [2, 3, 4] patch_Lay_c0 patch_Lay_c23
def A_patch_Lay : AFn := ⟨patch_Lay_c24, [.cellN 4 256]⟩
noncomputable def E_patch_Lay : Sums := disp 185 S_patch_Check disp0
noncomputable def patch_Lay_c0_d (n : Nat) : SmV := smOps E_patch_Lay patch_Lay_o0
noncomputable def patch_Lay_c1_d (n : Nat) : SmV := smOps E_patch_Lay patch_Lay_o1
noncomputable def patch_Lay_c2_d (n : Nat) : SmV := smOps E_patch_Lay patch_Lay_o2
noncomputable def patch_Lay_c3_d (n : Nat) : SmV := smSeq [4] (patch_Lay_c2_d n) smRet
noncomputable def patch_Lay_c4_d (n : Nat) : SmV := smCond (.t 9) (patch_Lay_c3_d n) smSkip
noncomputable def patch_Lay_c5_d (n : Nat) : SmV := smSeq [2, 3, 4, 9] (patch_Lay_c1_d n) (patch_Lay_c4_d n)
noncomputable def patch_Lay_c6_d (n : Nat) : SmV := smOps E_patch_Lay patch_Lay_o3
noncomputable def patch_Lay_c7_d (n : Nat) : SmV := smOps E_patch_Lay patch_Lay_o4
noncomputable def patch_Lay_c8_d (n : Nat) : SmV := smCond (.t 15) smSkip (smExit 0)
noncomputable def patch_Lay_c9_d (n : Nat) : SmV := smOps E_patch_Lay patch_Lay_o5
noncomputable def patch_Lay_c10_d (n : Nat) : SmV := smOps E_patch_Lay patch_Lay_o6
noncomputable def patch_Lay_c11_d (n : Nat) : SmV := smSeq [2, 3, 4, 5, 6, 12, 13, 14] (patch_Lay_c9_d n) (patch_Lay_c10_d n)
noncomputable def patch_Lay_c12_d (n : Nat) : SmV := smBlock 1 (patch_Lay_c11_d n)
noncomputable def patch_Lay_c13_d (n : Nat) : SmV := smOps E_patch_Lay patch_Lay_o7
noncomputable def patch_Lay_c14_d (n : Nat) : SmV := smSeq [2, 3, 4, 12, 13, 14] (patch_Lay_c12_d n) (patch_Lay_c13_d n)
noncomputable def patch_Lay_c15_d (n : Nat) : SmV := smSeq [2, 3, 4, 12, 13, 14] (patch_Lay_c8_d n) (patch_Lay_c14_d n)
noncomputable def patch_Lay_c16_d (n : Nat) : SmV := smSeq [2, 3, 4, 12, 13, 14, 15] (patch_Lay_c7_d n) (patch_Lay_c15_d n)
noncomputable def patch_Lay_c17_d (n : Nat) : SmV := smLoop n [2, 3, 4, 12, 13, 14] (patch_Lay_c16_d n)
noncomputable def patch_Lay_c18_d (n : Nat) : SmV := smBlock 0 (patch_Lay_c17_d n)
noncomputable def patch_Lay_c19_d (n : Nat) : SmV := smSeq [2, 3, 4, 12, 13, 14] (patch_Lay_c6_d n) (patch_Lay_c18_d n)
noncomputable def patch_Lay_c20_d (n : Nat) : SmV := smOps E_patch_Lay patch_Lay_o8
noncomputable def patch_Lay_c21_d (n : Nat) : SmV := smSeq [4] (patch_Lay_c20_d n) smRet
noncomputable def patch_Lay_c22_d (n : Nat) : SmV := smSeq [2, 4] (patch_Lay_c19_d n) (patch_Lay_c21_d n)
noncomputable def patch_Lay_c23_d (n : Nat) : SmV := smSeq [2, 3, 4] (patch_Lay_c5_d n) (patch_Lay_c22_d n)
noncomputable def patch_Lay_c24_d (n : Nat) : SmV := smSeq [2, 3, 4] (patch_Lay_c0_d n) (patch_Lay_c23_d n)
noncomputable def patch_Lay_k0 (n : Nat) : AExit → Env → Heap → OptV := fun x e h => match x with | .normal => hold ((patch_Lay_c21_d n) A_patch_Lay.fin (e.keep [2, 4]) h) | .exit id => A_patch_Lay.fin (.exit id) e h | .ret => A_patch_Lay.fin .ret e h
noncomputable def patch_Lay_k1 (n : Nat) : AExit → Env → Heap → OptV := fun x e h => match x with | .exit i => bif Nat.beq i 0 then (patch_Lay_k0 n) .normal e h else (patch_Lay_k0 n) (.exit i) e h | .normal => (patch_Lay_k0 n) .normal e h | .ret => (patch_Lay_k0 n) .ret e h
noncomputable def patch_Lay_l0 (n m : Nat) (x2 x3 x4 x12 x13 x14 : Val) (h : Heap) : OptV := around (patch_Lay_c16_d n) [2, 3, 4, 12, 13, 14] (patch_Lay_k1 n) m [(2, x2), (3, x3), (4, x4), (12, x12), (13, x13), (14, x14)] h
noncomputable def R_patch_Lay (n : Nat) (args : List Val) (h : Heap) : OptV := (patch_Lay_c24_d n) A_patch_Lay.fin (params 0 args) h
theorem R_patch_Lay_eq (n : Nat) (a0 a1 : Val) (h : Heap) : R_patch_Lay n [a0, a1] h = bnd (cells? a0) fun c1 => bnd (cells? a1) fun c2 => bnd (aloadN ((((h ++ [some (Row.mk (c1) true)]) ++ [some (Row.mk (c2) true)]) ++ [some (Row.mk (List.replicate 256 (.i .u8 0)) true)])) 2 ((.c (.p ((h ++ [some (Row.mk (c1) true)])).length 0)))) fun v3 => bnd (S_patch_Check [v3] ((((h ++ [some (Row.mk (c1) true)]) ++ [some (Row.mk (c2) true)]) ++ [some (Row.mk (List.replicate 256 (.i .u8 0)) true)]))) fun p4 => bnd (abin .neq p4.1 (.c (.i .i64 0))) fun v5 => cnd v5 (bnd (aloadN p4.2 256 ((.c (.p h.length 0)))) fun v6 => bnd (astoreN p4.2 256 ((.c (.p (((h ++ [some (Row.mk (c1) true)]) ++ [some (Row.mk (c2) true)])).length 0))) v6) fun h7 => mp (aloadN h7 256 ((.c (.p (((h ++ [some (Row.mk (c1) true)]) ++ [some (Row.mk (c2) true)])).length 0)))) fun v => (v, h7)) (bnd (afAddr ((.c (.p ((h ++ [some (Row.mk (c1) true)])).length 0))) 1) fun v8 => bnd (aload1 p4.2 v8) fun v9 => bnd (alen v9) fun v10 => patch_Lay_l0 n n ((.c (.p h.length 0))) ((.c (.p ((h ++ [some (Row.mk (c1) true)])).length 0))) ((.c (.p (((h ++ [some (Row.mk (c1) true)]) ++ [some (Row.mk (c2) true)])).length 0))) v9 v10 (.c (.i .i64 0)) p4.2) := by kernel_rfl
theorem patch_Lay_l0_eq (n m : Nat) (x2 x3 x4 x12 x13 x14 : Val) (h : Heap) : patch_Lay_l0 n (m + 1) x2 x3 x4 x12 x13 x14 h = bnd (abin .lss x14 x13) fun v11 => cnd v11 (bnd (aiAddrL 1 x12 x14) fun v12 => bnd (aload1 h v12) fun v13 => bnd (afAddr x3 0) fun v14 => bnd (aload1 h v14) fun v15 => bnd (abin .add v15 x14) fun v16 => bnd (aiAddrA 256 1 x2 v16) fun v17 => bnd (astore1 h v17 v13) fun h18 => bnd (abin .add x14 (.c (.i .i64 1))) fun v19 => patch_Lay_l0 n m x2 x3 x4 x12 x13 v19 h18) (bnd (aloadN h 256 x2) fun v20 => bnd (astoreN h 256 x4 v20) fun h21 => mp (aloadN h21 256 x4) fun v => (v, h21)) := by kernel_rfl
theorem K_patch_Lay : FnK Try.prog 111 A_patch_Lay E_patch_Lay R_patch_Lay := .mk' (sound1 S_patch_Check_ok sound0) Try.func111 (by kernel_rfl) (by intro n args h; kernel_rfl)
noncomputable def S_patch_Lay : Fun := tidy (Lim A_patch_Lay E_patch_Lay)
theorem S_patch_Lay_ok : SOk Try.prog 111 S_patch_Lay := K_patch_Lay.sok
theorem S_patch_Lay_flat {n : Nat} {args : List Val} {h h2 : Heap} {v : Val} (he : R_patch_Lay n args (ro h) = some (v, h2)) (hf : v.flat = true) : S_patch_Lay args h = some (v, h) := K_patch_Lay.flat he hf
end Go.Proofs.Ytbbkpmbepljhkaa
