/- Table: the Go functions of this package as the abstract evaluator computes them: printed by a program, checked by Lean. -/
import Derived.Test.YtbbkpmbepljhkaaEscS
import Derived.Test.YtbbkpmbepljhkaaChecked
import Derived.KernelRfl
import Derived.Test.YtbbkpmbepljhkaaGInode
import Derived.Test.YtbbkpmbepljhkaaGPatch
namespace Go.Proofs.Ytbbkpmbepljhkaa
open Go Go.Esc
set_option maxRecDepth 100000
set_option linter.all false
def table_Patch_c0 : ACode := .ops [{ dst := some 3, op := .box (.t 1) }, { dst := some 4, op := .alloc ([.i .i64 0, .ns]) }, { dst := some 5, op := .mv (.v (.c (.i .i64 0))) }]
def table_Patch_c1 : ACode := .ops [{ dst := some 8, op := .mv (.t 0) }, { dst := some 9, op := .bin .lss (.t 8) (.v (.c (.i .i64 0))) }, { dst := some 10, op := .mv (.t 9) }, { dst := some 11, op := .mv (.t 0), guard := some (10, false) }, { dst := some 12, op := .bin .geq (.t 11) (.v (.c (.i .i64 8))), guard := some (10, false) }, { dst := some 13, op := .pick (.t 10) (.v (.c (.b true))) (.t 12) }]
def table_Patch_c2 : ACode := .ops [{ dst := some 14, op := .build ([.i .i64 0, .ns]) [] }, { dst := none, op := .storeN 2 (.t 4) (.t 14) }, { dst := some 5, op := .mv (.v (.c (.i .i64 2))) }]
def table_Patch_c3 : ACode := .seq [4, 5] table_Patch_c2 .ret
def table_Patch_c4 : ACode := .cond (.t 13) table_Patch_c3 .skip
def table_Patch_c5 : ACode := .seq [0, 3, 4, 13] table_Patch_c1 table_Patch_c4
def table_Patch_c6 : ACode := .ops [{ dst := some 16, op := .loadN 11 (.t 3) }, { dst := some 17, op := .call 92 [(.t 16)] }, { dst := some 15, op := .mv (.t 17) }, { dst := some 18, op := .ext (.t 15) 0 }, { dst := some 19, op := .ext (.t 15) 1 }, { dst := some 6, op := .alloc (List.replicate 32 (.i .u8 0)) }, { dst := none, op := .storeN 32 (.t 6) (.t 18) }, { dst := some 7, op := .mv (.t 19) }]
def table_Patch_c7 : ACode := .ops [{ dst := some 20, op := .mv (.t 7) }, { dst := some 21, op := .bin .neq (.t 20) (.v (.c (.i .i64 0))) }]
def table_Patch_c8 : ACode := .ops [{ dst := some 22, op := .build ([.i .i64 0, .ns]) [] }, { dst := some 23, op := .mv (.t 7) }, { dst := none, op := .storeN 2 (.t 4) (.t 22) }, { dst := some 5, op := .mv (.t 23) }]
def table_Patch_c9 : ACode := .seq [4, 5] table_Patch_c8 .ret
def table_Patch_c10 : ACode := .cond (.t 21) table_Patch_c9 .skip
def table_Patch_c11 : ACode := .seq [0, 4, 6, 7, 21] table_Patch_c7 table_Patch_c10
def table_Patch_c12 : ACode := .ops [{ dst := some 24, op := .mv (.t 0) }, { dst := some 25, op := .bin .mul (.t 24) (.v (.c (.i .i64 32))) }, { dst := some 26, op := .buildSl 1 0 ([]) [] }, { dst := some 27, op := .slA 32 1 (.t 6) none none }, { dst := some 28, op := .app 1 (.t 26) (.t 27) }, { dst := some 29, op := .build ([.i .i64 0, .ns]) [(0, 1, (.t 25)), (1, 1, (.t 28))] }, { dst := none, op := .storeN 2 (.t 4) (.t 29) }, { dst := some 5, op := .mv (.v (.c (.i .i64 0))) }]
def table_Patch_c13 : ACode := .seq [4, 5] table_Patch_c12 .ret
def table_Patch_c14 : ACode := .seq [0, 4, 6] table_Patch_c11 table_Patch_c13
def table_Patch_c15 : ACode := .seq [0, 4, 6, 7] table_Patch_c6 table_Patch_c14
def table_Patch_c16 : ACode := .seq [0, 3, 4] table_Patch_c5 table_Patch_c15
def table_Patch_c17 : ACode := .seq [0, 3, 4] table_Patch_c0 table_Patch_c16
def A_table_Patch : AFn := ⟨table_Patch_c17, [.cellN 4 2, .tmp 5]⟩
noncomputable def E_table_Patch : Sums := fun f args h => bif Nat.beq f 92 then S_inode_Put args h else none
noncomputable def table_Patch_c0_d (n : Nat) : Sm (Val × Heap) := smOps E_table_Patch [{ dst := some 3, op := .box (.t 1) }, { dst := some 4, op := .alloc ([.i .i64 0, .ns]) }, { dst := some 5, op := .mv (.v (.c (.i .i64 0))) }]
noncomputable def table_Patch_c1_d (n : Nat) : Sm (Val × Heap) := smOps E_table_Patch [{ dst := some 8, op := .mv (.t 0) }, { dst := some 9, op := .bin .lss (.t 8) (.v (.c (.i .i64 0))) }, { dst := some 10, op := .mv (.t 9) }, { dst := some 11, op := .mv (.t 0), guard := some (10, false) }, { dst := some 12, op := .bin .geq (.t 11) (.v (.c (.i .i64 8))), guard := some (10, false) }, { dst := some 13, op := .pick (.t 10) (.v (.c (.b true))) (.t 12) }]
noncomputable def table_Patch_c2_d (n : Nat) : Sm (Val × Heap) := smOps E_table_Patch [{ dst := some 14, op := .build ([.i .i64 0, .ns]) [] }, { dst := none, op := .storeN 2 (.t 4) (.t 14) }, { dst := some 5, op := .mv (.v (.c (.i .i64 2))) }]
noncomputable def table_Patch_c3_d (n : Nat) : Sm (Val × Heap) := smSeq [4, 5] (table_Patch_c2_d n) smRet
noncomputable def table_Patch_c4_d (n : Nat) : Sm (Val × Heap) := smCond (.t 13) (table_Patch_c3_d n) smSkip
noncomputable def table_Patch_c5_d (n : Nat) : Sm (Val × Heap) := smSeq [0, 3, 4, 13] (table_Patch_c1_d n) (table_Patch_c4_d n)
noncomputable def table_Patch_c6_d (n : Nat) : Sm (Val × Heap) := smOps E_table_Patch [{ dst := some 16, op := .loadN 11 (.t 3) }, { dst := some 17, op := .call 92 [(.t 16)] }, { dst := some 15, op := .mv (.t 17) }, { dst := some 18, op := .ext (.t 15) 0 }, { dst := some 19, op := .ext (.t 15) 1 }, { dst := some 6, op := .alloc (List.replicate 32 (.i .u8 0)) }, { dst := none, op := .storeN 32 (.t 6) (.t 18) }, { dst := some 7, op := .mv (.t 19) }]
noncomputable def table_Patch_c7_d (n : Nat) : Sm (Val × Heap) := smOps E_table_Patch [{ dst := some 20, op := .mv (.t 7) }, { dst := some 21, op := .bin .neq (.t 20) (.v (.c (.i .i64 0))) }]
noncomputable def table_Patch_c8_d (n : Nat) : Sm (Val × Heap) := smOps E_table_Patch [{ dst := some 22, op := .build ([.i .i64 0, .ns]) [] }, { dst := some 23, op := .mv (.t 7) }, { dst := none, op := .storeN 2 (.t 4) (.t 22) }, { dst := some 5, op := .mv (.t 23) }]
noncomputable def table_Patch_c9_d (n : Nat) : Sm (Val × Heap) := smSeq [4, 5] (table_Patch_c8_d n) smRet
noncomputable def table_Patch_c10_d (n : Nat) : Sm (Val × Heap) := smCond (.t 21) (table_Patch_c9_d n) smSkip
noncomputable def table_Patch_c11_d (n : Nat) : Sm (Val × Heap) := smSeq [0, 4, 6, 7, 21] (table_Patch_c7_d n) (table_Patch_c10_d n)
noncomputable def table_Patch_c12_d (n : Nat) : Sm (Val × Heap) := smOps E_table_Patch [{ dst := some 24, op := .mv (.t 0) }, { dst := some 25, op := .bin .mul (.t 24) (.v (.c (.i .i64 32))) }, { dst := some 26, op := .buildSl 1 0 ([]) [] }, { dst := some 27, op := .slA 32 1 (.t 6) none none }, { dst := some 28, op := .app 1 (.t 26) (.t 27) }, { dst := some 29, op := .build ([.i .i64 0, .ns]) [(0, 1, (.t 25)), (1, 1, (.t 28))] }, { dst := none, op := .storeN 2 (.t 4) (.t 29) }, { dst := some 5, op := .mv (.v (.c (.i .i64 0))) }]
noncomputable def table_Patch_c13_d (n : Nat) : Sm (Val × Heap) := smSeq [4, 5] (table_Patch_c12_d n) smRet
noncomputable def table_Patch_c14_d (n : Nat) : Sm (Val × Heap) := smSeq [0, 4, 6] (table_Patch_c11_d n) (table_Patch_c13_d n)
noncomputable def table_Patch_c15_d (n : Nat) : Sm (Val × Heap) := smSeq [0, 4, 6, 7] (table_Patch_c6_d n) (table_Patch_c14_d n)
noncomputable def table_Patch_c16_d (n : Nat) : Sm (Val × Heap) := smSeq [0, 3, 4] (table_Patch_c5_d n) (table_Patch_c15_d n)
noncomputable def table_Patch_c17_d (n : Nat) : Sm (Val × Heap) := smSeq [0, 3, 4] (table_Patch_c0_d n) (table_Patch_c16_d n)
noncomputable def R_table_Patch (n : Nat) (args : List Val) (h : Heap) : Option (Val × Heap) := (table_Patch_c17_d n) A_table_Patch.fin (params 0 args) h
theorem R_table_Patch_run (n : Nat) (args : List Val) (h : Heap) : A_table_Patch.run E_table_Patch n args h = R_table_Patch n args h := by kernel_rfl
theorem R_table_Patch_eq (n : Nat) (a0 a1 : Val) (h : Heap) : R_table_Patch n [a0, a1] h = bnd (cells? a1) fun c1 => bnd (abin .lss a0 (.c (.i .i64 0))) fun v2 => bnd (gd v2 false (some (a0, ((h ++ [some (Row.mk (c1) true)]) ++ [some (Row.mk ([.i .i64 0, .ns]) true)]))) (some (.no, ((h ++ [some (Row.mk (c1) true)]) ++ [some (Row.mk ([.i .i64 0, .ns]) true)])))) fun p3 => bnd (gd v2 false (bnd (abin .geq p3.1 (.c (.i .i64 8))) fun v4 => some (v4, p3.2)) (some (.no, p3.2))) fun p5 => bnd (apick v2 (.c (.b true)) p5.1) fun v6 => cnd v6 (bnd (afill ([.i .i64 0, .ns]) []) fun c7 => bnd (astoreN p5.2 2 ((.c (.p ((h ++ [some (Row.mk (c1) true)])).length 0))) ((.a c7))) fun h8 => tupN [aloadN h8 2 ((.c (.p ((h ++ [some (Row.mk (c1) true)])).length 0))), some (.c (.i .i64 2))] h8) (bnd (aloadN p5.2 11 ((.c (.p h.length 0)))) fun v9 => bnd (S_inode_Put [v9] p5.2) fun p10 => bnd (aext p10.1 0) fun v11 => bnd (aext p10.1 1) fun v12 => bnd (astoreN ((p10.2 ++ [some (Row.mk (List.replicate 32 (.i .u8 0)) true)])) 32 ((.c (.p p10.2.length 0))) v11) fun h13 => bnd (abin .neq v12 (.c (.i .i64 0))) fun v14 => cnd v14 (bnd (afill ([.i .i64 0, .ns]) []) fun c15 => bnd (astoreN h13 2 ((.c (.p ((h ++ [some (Row.mk (c1) true)])).length 0))) ((.a c15))) fun h16 => tupN [aloadN h16 2 ((.c (.p ((h ++ [some (Row.mk (c1) true)])).length 0))), some v12] h16) (bnd (abin .mul a0 (.c (.i .i64 32))) fun v17 => bnd (afill ([]) []) fun c18 => bnd (aslA ((h13 ++ [some (Row.mk (c18) true)])) 32 1 ((.c (.p p10.2.length 0))) none none) fun v19 => bnd (aapp ((h13 ++ [some (Row.mk (c18) true)])) 1 ((.c (.sl h13.length 0 0 1))) v19) fun p20 => bnd (afill ([.i .i64 0, .ns]) [(0, 1, v17), (1, 1, p20.1)]) fun c21 => bnd (astoreN p20.2 2 ((.c (.p ((h ++ [some (Row.mk (c1) true)])).length 0))) ((.a c21))) fun h22 => tupN [aloadN h22 2 ((.c (.p ((h ++ [some (Row.mk (c1) true)])).length 0))), some (.c (.i .i64 0))] h22)) := by kernel_rfl
theorem chk_table_Patch : chkFn Try.prog Try.f138 A_table_Patch = true := by kernel_rfl
theorem E_table_Patch_sound : Sound Try.prog E_table_Patch := by
  intro f args h v h2 he
  unfold E_table_Patch at he
  cases hb0 : Nat.beq f 92 with
  | true => rw [hb0] at he; have e := Nat.eq_of_beq_eq_true hb0; subst e; exact S_inode_Put_ok args h v h2 he
  | false =>
    rw [hb0] at he; simp only [cond_false] at he
    cases he

theorem R_table_Patch_ok {n : Nat} {args : List Val} {h h2 : Heap} {v : Val} (he : R_table_Patch n args h = some (v, h2)) : Callable Try.prog 138 ∧ CallOk Try.prog 138 args h v h2 ∧ h.length ≤ h2.length := fn_ok E_table_Patch_sound Try.func138 chk_table_Patch ((R_table_Patch_run ..).trans he)
theorem L_table_Patch_ok (args : List Val) (h : Heap) (v : Val) (h2 : Heap) (he : Lim A_table_Patch E_table_Patch args h = some (v, h2)) : Callable Try.prog 138 ∧ CallOk Try.prog 138 args h v h2 ∧ h.length ≤ h2.length := (Lim_run he).elim fun _ e => R_table_Patch_ok ((R_table_Patch_run ..).symm.trans e)
theorem L_table_Patch_of {n : Nat} {args : List Val} {h : Heap} {p : Val × Heap} (he : R_table_Patch n args h = some p) : Lim A_table_Patch E_table_Patch args h = some p := Lim_of ((R_table_Patch_run ..).trans he)
noncomputable def S_table_Patch : List Val → Heap → Option (Val × Heap) := tidy (Lim A_table_Patch E_table_Patch)
theorem S_table_Patch_ok (args : List Val) (h : Heap) (v : Val) (h2 : Heap) (he : S_table_Patch args h = some (v, h2)) : Callable Try.prog 138 ∧ CallOk Try.prog 138 args h v h2 ∧ h.length ≤ h2.length := tidy_ok L_table_Patch_ok args h v h2 he
theorem S_table_Patch_flat {n : Nat} {args : List Val} {h h2 : Heap} {v : Val} (he : R_table_Patch n args (ro h) = some (v, h2)) (hf : v.flat = true) : S_table_Patch args h = some (v, h) := tidy_flat (L_table_Patch_of he) hf
theorem S_table_Patch_low {n : Nat} {args : List Val} {h h2 : Heap} {v : Val} (he : R_table_Patch n args (ro h) = some (v, h2)) (hf : v.low h.length = true) : S_table_Patch args h = some (v, h) := tidy_low (L_table_Patch_of he) hf
theorem S_table_Patch_out {n : Nat} {args : List Val} {h h2 : Heap} {v : Val} {sz k : Nat} {cs : List Cell} (he : R_table_Patch n args (ro h) = some (v, h2)) (ho : Out h.length h2 v sz k cs) (hf : flats cs = true) : S_table_Patch args h = some (.c (.sl h.length 0 k sz), h ++ [some ⟨cs, true⟩]) := tidy_out (L_table_Patch_of he) ho hf
theorem S_table_Patch_tidy {n : Nat} {args : List Val} {h h2 : Heap} {v v2 : Val} {ids : List Nat} (he : R_table_Patch n args (ro h) = some (v, h2)) (hc : canonV h2 h.length v = some (v2, ids)) : S_table_Patch args h = some (v2, h ++ ids.map (rd h2)) := tidy_of (L_table_Patch_of he) hc
def table_With_c0 : ACode := .ops [{ dst := some 3, op := .box (.t 0) }, { dst := some 5, op := .box (.t 2) }, { dst := some 6, op := .alloc (List.replicate 256 (.i .u8 0)) }, { dst := some 7, op := .mv (.v (.c (.i .i64 0))) }]
def table_With_c1 : ACode := .ops [{ dst := some 11, op := .mv (.t 1) }, { dst := some 12, op := .loadN 11 (.t 5) }, { dst := some 13, op := .call 138 [(.t 11), (.t 12)] }, { dst := some 10, op := .mv (.t 13) }, { dst := some 14, op := .ext (.t 10) 0 }, { dst := some 15, op := .ext (.t 10) 1 }, { dst := some 8, op := .alloc ([.i .i64 0, .ns]) }, { dst := none, op := .storeN 2 (.t 8) (.t 14) }, { dst := some 9, op := .mv (.t 15) }]
def table_With_c2 : ACode := .ops [{ dst := some 16, op := .mv (.t 9) }, { dst := some 17, op := .bin .neq (.t 16) (.v (.c (.i .i64 0))) }]
def table_With_c3 : ACode := .ops [{ dst := some 18, op := .loadN 256 (.t 3) }, { dst := some 19, op := .mv (.t 9) }, { dst := none, op := .storeN 256 (.t 6) (.t 18) }, { dst := some 7, op := .mv (.t 19) }]
def table_With_c4 : ACode := .seq [6, 7] table_With_c3 .ret
def table_With_c5 : ACode := .cond (.t 17) table_With_c4 .skip
def table_With_c6 : ACode := .seq [3, 6, 8, 9, 17] table_With_c2 table_With_c5
def table_With_c7 : ACode := .ops [{ dst := some 20, op := .loadN 256 (.t 3) }, { dst := some 21, op := .loadN 2 (.t 8) }, { dst := some 22, op := .call 111 [(.t 20), (.t 21)] }, { dst := none, op := .storeN 256 (.t 6) (.t 22) }, { dst := some 7, op := .mv (.v (.c (.i .i64 0))) }]
def table_With_c8 : ACode := .seq [6, 7] table_With_c7 .ret
def table_With_c9 : ACode := .seq [3, 6, 8] table_With_c6 table_With_c8
def table_With_c10 : ACode := .seq [3, 6, 8, 9] table_With_c1 table_With_c9
def table_With_c11 : ACode := .seq [1, 3, 5, 6] table_With_c0 table_With_c10
def A_table_With : AFn := ⟨table_With_c11, [.cellN 6 256, .tmp 7]⟩
noncomputable def E_table_With : Sums := fun f args h => bif Nat.beq f 138 then S_table_Patch args h else bif Nat.beq f 111 then S_patch_Lay args h else none
noncomputable def table_With_c0_d (n : Nat) : Sm (Val × Heap) := smOps E_table_With [{ dst := some 3, op := .box (.t 0) }, { dst := some 5, op := .box (.t 2) }, { dst := some 6, op := .alloc (List.replicate 256 (.i .u8 0)) }, { dst := some 7, op := .mv (.v (.c (.i .i64 0))) }]
noncomputable def table_With_c1_d (n : Nat) : Sm (Val × Heap) := smOps E_table_With [{ dst := some 11, op := .mv (.t 1) }, { dst := some 12, op := .loadN 11 (.t 5) }, { dst := some 13, op := .call 138 [(.t 11), (.t 12)] }, { dst := some 10, op := .mv (.t 13) }, { dst := some 14, op := .ext (.t 10) 0 }, { dst := some 15, op := .ext (.t 10) 1 }, { dst := some 8, op := .alloc ([.i .i64 0, .ns]) }, { dst := none, op := .storeN 2 (.t 8) (.t 14) }, { dst := some 9, op := .mv (.t 15) }]
noncomputable def table_With_c2_d (n : Nat) : Sm (Val × Heap) := smOps E_table_With [{ dst := some 16, op := .mv (.t 9) }, { dst := some 17, op := .bin .neq (.t 16) (.v (.c (.i .i64 0))) }]
noncomputable def table_With_c3_d (n : Nat) : Sm (Val × Heap) := smOps E_table_With [{ dst := some 18, op := .loadN 256 (.t 3) }, { dst := some 19, op := .mv (.t 9) }, { dst := none, op := .storeN 256 (.t 6) (.t 18) }, { dst := some 7, op := .mv (.t 19) }]
noncomputable def table_With_c4_d (n : Nat) : Sm (Val × Heap) := smSeq [6, 7] (table_With_c3_d n) smRet
noncomputable def table_With_c5_d (n : Nat) : Sm (Val × Heap) := smCond (.t 17) (table_With_c4_d n) smSkip
noncomputable def table_With_c6_d (n : Nat) : Sm (Val × Heap) := smSeq [3, 6, 8, 9, 17] (table_With_c2_d n) (table_With_c5_d n)
noncomputable def table_With_c7_d (n : Nat) : Sm (Val × Heap) := smOps E_table_With [{ dst := some 20, op := .loadN 256 (.t 3) }, { dst := some 21, op := .loadN 2 (.t 8) }, { dst := some 22, op := .call 111 [(.t 20), (.t 21)] }, { dst := none, op := .storeN 256 (.t 6) (.t 22) }, { dst := some 7, op := .mv (.v (.c (.i .i64 0))) }]
noncomputable def table_With_c8_d (n : Nat) : Sm (Val × Heap) := smSeq [6, 7] (table_With_c7_d n) smRet
noncomputable def table_With_c9_d (n : Nat) : Sm (Val × Heap) := smSeq [3, 6, 8] (table_With_c6_d n) (table_With_c8_d n)
noncomputable def table_With_c10_d (n : Nat) : Sm (Val × Heap) := smSeq [3, 6, 8, 9] (table_With_c1_d n) (table_With_c9_d n)
noncomputable def table_With_c11_d (n : Nat) : Sm (Val × Heap) := smSeq [1, 3, 5, 6] (table_With_c0_d n) (table_With_c10_d n)
noncomputable def R_table_With (n : Nat) (args : List Val) (h : Heap) : Option (Val × Heap) := (table_With_c11_d n) A_table_With.fin (params 0 args) h
theorem R_table_With_run (n : Nat) (args : List Val) (h : Heap) : A_table_With.run E_table_With n args h = R_table_With n args h := by kernel_rfl
theorem R_table_With_eq (n : Nat) (a0 a1 a2 : Val) (h : Heap) : R_table_With n [a0, a1, a2] h = bnd (cells? a0) fun c1 => bnd (cells? a2) fun c2 => bnd (aloadN ((((h ++ [some (Row.mk (c1) true)]) ++ [some (Row.mk (c2) true)]) ++ [some (Row.mk (List.replicate 256 (.i .u8 0)) true)])) 11 ((.c (.p ((h ++ [some (Row.mk (c1) true)])).length 0)))) fun v3 => bnd (S_table_Patch [a1, v3] ((((h ++ [some (Row.mk (c1) true)]) ++ [some (Row.mk (c2) true)]) ++ [some (Row.mk (List.replicate 256 (.i .u8 0)) true)]))) fun p4 => bnd (aext p4.1 0) fun v5 => bnd (aext p4.1 1) fun v6 => bnd (astoreN ((p4.2 ++ [some (Row.mk ([.i .i64 0, .ns]) true)])) 2 ((.c (.p p4.2.length 0))) v5) fun h7 => bnd (abin .neq v6 (.c (.i .i64 0))) fun v8 => cnd v8 (bnd (aloadN h7 256 ((.c (.p h.length 0)))) fun v9 => bnd (astoreN h7 256 ((.c (.p (((h ++ [some (Row.mk (c1) true)]) ++ [some (Row.mk (c2) true)])).length 0))) v9) fun h10 => tupN [aloadN h10 256 ((.c (.p (((h ++ [some (Row.mk (c1) true)]) ++ [some (Row.mk (c2) true)])).length 0))), some v6] h10) (bnd (aloadN h7 256 ((.c (.p h.length 0)))) fun v11 => bnd (aloadN h7 2 ((.c (.p p4.2.length 0)))) fun v12 => bnd (S_patch_Lay [v11, v12] h7) fun p13 => bnd (astoreN p13.2 256 ((.c (.p (((h ++ [some (Row.mk (c1) true)]) ++ [some (Row.mk (c2) true)])).length 0))) p13.1) fun h14 => tupN [aloadN h14 256 ((.c (.p (((h ++ [some (Row.mk (c1) true)]) ++ [some (Row.mk (c2) true)])).length 0))), some (.c (.i .i64 0))] h14) := by kernel_rfl
theorem chk_table_With : chkFn Try.prog Try.f136 A_table_With = true := by kernel_rfl
theorem E_table_With_sound : Sound Try.prog E_table_With := by
  intro f args h v h2 he
  unfold E_table_With at he
  cases hb0 : Nat.beq f 138 with
  | true => rw [hb0] at he; have e := Nat.eq_of_beq_eq_true hb0; subst e; exact S_table_Patch_ok args h v h2 he
  | false =>
    rw [hb0] at he; simp only [cond_false] at he
    cases hb1 : Nat.beq f 111 with
    | true => rw [hb1] at he; have e := Nat.eq_of_beq_eq_true hb1; subst e; exact S_patch_Lay_ok args h v h2 he
    | false =>
      rw [hb1] at he; simp only [cond_false] at he
      cases he

theorem R_table_With_ok {n : Nat} {args : List Val} {h h2 : Heap} {v : Val} (he : R_table_With n args h = some (v, h2)) : Callable Try.prog 136 ∧ CallOk Try.prog 136 args h v h2 ∧ h.length ≤ h2.length := fn_ok E_table_With_sound Try.func136 chk_table_With ((R_table_With_run ..).trans he)
theorem L_table_With_ok (args : List Val) (h : Heap) (v : Val) (h2 : Heap) (he : Lim A_table_With E_table_With args h = some (v, h2)) : Callable Try.prog 136 ∧ CallOk Try.prog 136 args h v h2 ∧ h.length ≤ h2.length := (Lim_run he).elim fun _ e => R_table_With_ok ((R_table_With_run ..).symm.trans e)
theorem L_table_With_of {n : Nat} {args : List Val} {h : Heap} {p : Val × Heap} (he : R_table_With n args h = some p) : Lim A_table_With E_table_With args h = some p := Lim_of ((R_table_With_run ..).trans he)
noncomputable def S_table_With : List Val → Heap → Option (Val × Heap) := tidy (Lim A_table_With E_table_With)
theorem S_table_With_ok (args : List Val) (h : Heap) (v : Val) (h2 : Heap) (he : S_table_With args h = some (v, h2)) : Callable Try.prog 136 ∧ CallOk Try.prog 136 args h v h2 ∧ h.length ≤ h2.length := tidy_ok L_table_With_ok args h v h2 he
theorem S_table_With_flat {n : Nat} {args : List Val} {h h2 : Heap} {v : Val} (he : R_table_With n args (ro h) = some (v, h2)) (hf : v.flat = true) : S_table_With args h = some (v, h) := tidy_flat (L_table_With_of he) hf
theorem S_table_With_low {n : Nat} {args : List Val} {h h2 : Heap} {v : Val} (he : R_table_With n args (ro h) = some (v, h2)) (hf : v.low h.length = true) : S_table_With args h = some (v, h) := tidy_low (L_table_With_of he) hf
theorem S_table_With_out {n : Nat} {args : List Val} {h h2 : Heap} {v : Val} {sz k : Nat} {cs : List Cell} (he : R_table_With n args (ro h) = some (v, h2)) (ho : Out h.length h2 v sz k cs) (hf : flats cs = true) : S_table_With args h = some (.c (.sl h.length 0 k sz), h ++ [some ⟨cs, true⟩]) := tidy_out (L_table_With_of he) ho hf
theorem S_table_With_tidy {n : Nat} {args : List Val} {h h2 : Heap} {v v2 : Val} {ids : List Nat} (he : R_table_With n args (ro h) = some (v, h2)) (hc : canonV h2 h.length v = some (v2, ids)) : S_table_With args h = some (v2, h ++ ids.map (rd h2)) := tidy_of (L_table_With_of he) hc
def table_Raw_c0 : ACode := .ops [{ dst := some 2, op := .box (.t 0) }, { dst := some 4, op := .alloc (List.replicate 32 (.i .u8 0)) }]
def table_Raw_c1 : ACode := .ops [{ dst := some 5, op := .alloc (List.replicate 32 (.i .u8 0)) }]
def table_Raw_c2 : ACode := .ops [{ dst := some 7, op := .mv (.t 1) }, { dst := some 8, op := .bin .lss (.t 7) (.v (.c (.i .i64 0))) }, { dst := some 9, op := .mv (.t 8) }, { dst := some 10, op := .mv (.t 1), guard := some (9, false) }, { dst := some 11, op := .bin .geq (.t 10) (.v (.c (.i .i64 8))), guard := some (9, false) }, { dst := some 12, op := .pick (.t 9) (.v (.c (.b true))) (.t 11) }]
def table_Raw_c3 : ACode := .ops [{ dst := some 13, op := .loadN 32 (.t 5) }, { dst := none, op := .storeN 32 (.t 4) (.t 13) }]
def table_Raw_c4 : ACode := .seq [4] table_Raw_c3 .ret
def table_Raw_c5 : ACode := .cond (.t 12) table_Raw_c4 .skip
def table_Raw_c6 : ACode := .seq [1, 2, 4, 5, 12] table_Raw_c2 table_Raw_c5
def table_Raw_c7 : ACode := .ops [{ dst := some 14, op := .mv (.v (.c (.i .i64 0))) }]
def table_Raw_c8 : ACode := .ops [{ dst := some 15, op := .bin .lss (.t 14) (.v (.c (.i .i64 32))) }]
def table_Raw_c9 : ACode := .cond (.t 15) .skip (.exit 0)
def table_Raw_c10 : ACode := .ops [{ dst := some 16, op := .mv (.t 14) }, { dst := some 6, op := .mv (.t 16) }]
def table_Raw_c11 : ACode := .ops [{ dst := some 17, op := .mv (.t 6) }, { dst := some 18, op := .mv (.t 1) }, { dst := some 19, op := .bin .mul (.t 18) (.v (.c (.i .i64 32))) }, { dst := some 20, op := .mv (.t 6) }, { dst := some 21, op := .bin .add (.t 19) (.t 20) }, { dst := some 22, op := .iAddrA 256 1 (.t 2) (.t 21) }, { dst := some 23, op := .load1 (.t 22) }, { dst := some 24, op := .iAddrA 32 1 (.t 5) (.t 17) }, { dst := none, op := .store1 (.t 24) (.t 23) }]
def table_Raw_c12 : ACode := .seq [1, 2, 4, 5, 6, 14] table_Raw_c10 table_Raw_c11
def table_Raw_c13 : ACode := .block 1 table_Raw_c12
def table_Raw_c14 : ACode := .ops [{ dst := some 25, op := .bin .add (.t 14) (.v (.c (.i .i64 1))) }, { dst := some 14, op := .mv (.t 25) }]
def table_Raw_c15 : ACode := .seq [1, 2, 4, 5, 14] table_Raw_c13 table_Raw_c14
def table_Raw_c16 : ACode := .seq [1, 2, 4, 5, 14] table_Raw_c9 table_Raw_c15
def table_Raw_c17 : ACode := .seq [1, 2, 4, 5, 14, 15] table_Raw_c8 table_Raw_c16
def table_Raw_c18 : ACode := .loop [1, 2, 4, 5, 14] table_Raw_c17
def table_Raw_c19 : ACode := .block 0 table_Raw_c18
def table_Raw_c20 : ACode := .seq [1, 2, 4, 5, 14] table_Raw_c7 table_Raw_c19
def table_Raw_c21 : ACode := .ops [{ dst := some 26, op := .loadN 32 (.t 5) }, { dst := none, op := .storeN 32 (.t 4) (.t 26) }]
def table_Raw_c22 : ACode := .seq [4] table_Raw_c21 .ret
def table_Raw_c23 : ACode := .seq [4, 5] table_Raw_c20 table_Raw_c22
def table_Raw_c24 : ACode := .seq [1, 2, 4, 5] table_Raw_c6 table_Raw_c23
def table_Raw_c25 : ACode := .seq [1, 2, 4, 5] table_Raw_c1 table_Raw_c24
def table_Raw_c26 : ACode := .seq [1, 2, 4] table_Raw_c0 table_Raw_c25
def A_table_Raw : AFn := ⟨table_Raw_c26, [.cellN 4 32]⟩
noncomputable def E_table_Raw : Sums := fun f args h => none
noncomputable def table_Raw_c0_d (n : Nat) : Sm (Val × Heap) := smOps E_table_Raw [{ dst := some 2, op := .box (.t 0) }, { dst := some 4, op := .alloc (List.replicate 32 (.i .u8 0)) }]
noncomputable def table_Raw_c1_d (n : Nat) : Sm (Val × Heap) := smOps E_table_Raw [{ dst := some 5, op := .alloc (List.replicate 32 (.i .u8 0)) }]
noncomputable def table_Raw_c2_d (n : Nat) : Sm (Val × Heap) := smOps E_table_Raw [{ dst := some 7, op := .mv (.t 1) }, { dst := some 8, op := .bin .lss (.t 7) (.v (.c (.i .i64 0))) }, { dst := some 9, op := .mv (.t 8) }, { dst := some 10, op := .mv (.t 1), guard := some (9, false) }, { dst := some 11, op := .bin .geq (.t 10) (.v (.c (.i .i64 8))), guard := some (9, false) }, { dst := some 12, op := .pick (.t 9) (.v (.c (.b true))) (.t 11) }]
noncomputable def table_Raw_c3_d (n : Nat) : Sm (Val × Heap) := smOps E_table_Raw [{ dst := some 13, op := .loadN 32 (.t 5) }, { dst := none, op := .storeN 32 (.t 4) (.t 13) }]
noncomputable def table_Raw_c4_d (n : Nat) : Sm (Val × Heap) := smSeq [4] (table_Raw_c3_d n) smRet
noncomputable def table_Raw_c5_d (n : Nat) : Sm (Val × Heap) := smCond (.t 12) (table_Raw_c4_d n) smSkip
noncomputable def table_Raw_c6_d (n : Nat) : Sm (Val × Heap) := smSeq [1, 2, 4, 5, 12] (table_Raw_c2_d n) (table_Raw_c5_d n)
noncomputable def table_Raw_c7_d (n : Nat) : Sm (Val × Heap) := smOps E_table_Raw [{ dst := some 14, op := .mv (.v (.c (.i .i64 0))) }]
noncomputable def table_Raw_c8_d (n : Nat) : Sm (Val × Heap) := smOps E_table_Raw [{ dst := some 15, op := .bin .lss (.t 14) (.v (.c (.i .i64 32))) }]
noncomputable def table_Raw_c9_d (n : Nat) : Sm (Val × Heap) := smCond (.t 15) smSkip (smExit 0)
noncomputable def table_Raw_c10_d (n : Nat) : Sm (Val × Heap) := smOps E_table_Raw [{ dst := some 16, op := .mv (.t 14) }, { dst := some 6, op := .mv (.t 16) }]
noncomputable def table_Raw_c11_d (n : Nat) : Sm (Val × Heap) := smOps E_table_Raw [{ dst := some 17, op := .mv (.t 6) }, { dst := some 18, op := .mv (.t 1) }, { dst := some 19, op := .bin .mul (.t 18) (.v (.c (.i .i64 32))) }, { dst := some 20, op := .mv (.t 6) }, { dst := some 21, op := .bin .add (.t 19) (.t 20) }, { dst := some 22, op := .iAddrA 256 1 (.t 2) (.t 21) }, { dst := some 23, op := .load1 (.t 22) }, { dst := some 24, op := .iAddrA 32 1 (.t 5) (.t 17) }, { dst := none, op := .store1 (.t 24) (.t 23) }]
noncomputable def table_Raw_c12_d (n : Nat) : Sm (Val × Heap) := smSeq [1, 2, 4, 5, 6, 14] (table_Raw_c10_d n) (table_Raw_c11_d n)
noncomputable def table_Raw_c13_d (n : Nat) : Sm (Val × Heap) := smBlock 1 (table_Raw_c12_d n)
noncomputable def table_Raw_c14_d (n : Nat) : Sm (Val × Heap) := smOps E_table_Raw [{ dst := some 25, op := .bin .add (.t 14) (.v (.c (.i .i64 1))) }, { dst := some 14, op := .mv (.t 25) }]
noncomputable def table_Raw_c15_d (n : Nat) : Sm (Val × Heap) := smSeq [1, 2, 4, 5, 14] (table_Raw_c13_d n) (table_Raw_c14_d n)
noncomputable def table_Raw_c16_d (n : Nat) : Sm (Val × Heap) := smSeq [1, 2, 4, 5, 14] (table_Raw_c9_d n) (table_Raw_c15_d n)
noncomputable def table_Raw_c17_d (n : Nat) : Sm (Val × Heap) := smSeq [1, 2, 4, 5, 14, 15] (table_Raw_c8_d n) (table_Raw_c16_d n)
noncomputable def table_Raw_c18_d (n : Nat) : Sm (Val × Heap) := smLoop n [1, 2, 4, 5, 14] (table_Raw_c17_d n)
noncomputable def table_Raw_c19_d (n : Nat) : Sm (Val × Heap) := smBlock 0 (table_Raw_c18_d n)
noncomputable def table_Raw_c20_d (n : Nat) : Sm (Val × Heap) := smSeq [1, 2, 4, 5, 14] (table_Raw_c7_d n) (table_Raw_c19_d n)
noncomputable def table_Raw_c21_d (n : Nat) : Sm (Val × Heap) := smOps E_table_Raw [{ dst := some 26, op := .loadN 32 (.t 5) }, { dst := none, op := .storeN 32 (.t 4) (.t 26) }]
noncomputable def table_Raw_c22_d (n : Nat) : Sm (Val × Heap) := smSeq [4] (table_Raw_c21_d n) smRet
noncomputable def table_Raw_c23_d (n : Nat) : Sm (Val × Heap) := smSeq [4, 5] (table_Raw_c20_d n) (table_Raw_c22_d n)
noncomputable def table_Raw_c24_d (n : Nat) : Sm (Val × Heap) := smSeq [1, 2, 4, 5] (table_Raw_c6_d n) (table_Raw_c23_d n)
noncomputable def table_Raw_c25_d (n : Nat) : Sm (Val × Heap) := smSeq [1, 2, 4, 5] (table_Raw_c1_d n) (table_Raw_c24_d n)
noncomputable def table_Raw_c26_d (n : Nat) : Sm (Val × Heap) := smSeq [1, 2, 4] (table_Raw_c0_d n) (table_Raw_c25_d n)
noncomputable def table_Raw_k0 (n : Nat) : AExit → Env → Heap → Option (Val × Heap) := fun x e h => match x with | .normal => hold ((table_Raw_c22_d n) A_table_Raw.fin (e.keep [4, 5]) h) | .exit id => A_table_Raw.fin (.exit id) e h | .ret => A_table_Raw.fin .ret e h
noncomputable def table_Raw_k1 (n : Nat) : AExit → Env → Heap → Option (Val × Heap) := fun x e h => match x with | .exit i => bif Nat.beq i 0 then (table_Raw_k0 n) .normal e h else (table_Raw_k0 n) (.exit i) e h | .normal => (table_Raw_k0 n) .normal e h | .ret => (table_Raw_k0 n) .ret e h
noncomputable def table_Raw_l0 (n m : Nat) (x1 x2 x4 x5 x14 : Val) (h : Heap) : Option (Val × Heap) := around (table_Raw_c17_d n) [1, 2, 4, 5, 14] (table_Raw_k1 n) m [(1, x1), (2, x2), (4, x4), (5, x5), (14, x14)] h
noncomputable def R_table_Raw (n : Nat) (args : List Val) (h : Heap) : Option (Val × Heap) := (table_Raw_c26_d n) A_table_Raw.fin (params 0 args) h
theorem R_table_Raw_run (n : Nat) (args : List Val) (h : Heap) : A_table_Raw.run E_table_Raw n args h = R_table_Raw n args h := by kernel_rfl
theorem R_table_Raw_eq (n : Nat) (a0 a1 : Val) (h : Heap) : R_table_Raw n [a0, a1] h = bnd (cells? a0) fun c1 => bnd (abin .lss a1 (.c (.i .i64 0))) fun v2 => bnd (gd v2 false (some (a1, (((h ++ [some (Row.mk (c1) true)]) ++ [some (Row.mk (List.replicate 32 (.i .u8 0)) true)]) ++ [some (Row.mk (List.replicate 32 (.i .u8 0)) true)]))) (some (.no, (((h ++ [some (Row.mk (c1) true)]) ++ [some (Row.mk (List.replicate 32 (.i .u8 0)) true)]) ++ [some (Row.mk (List.replicate 32 (.i .u8 0)) true)])))) fun p3 => bnd (gd v2 false (bnd (abin .geq p3.1 (.c (.i .i64 8))) fun v4 => some (v4, p3.2)) (some (.no, p3.2))) fun p5 => bnd (apick v2 (.c (.b true)) p5.1) fun v6 => cnd v6 (bnd (aloadN p5.2 32 ((.c (.p (((h ++ [some (Row.mk (c1) true)]) ++ [some (Row.mk (List.replicate 32 (.i .u8 0)) true)])).length 0)))) fun v7 => bnd (astoreN p5.2 32 ((.c (.p ((h ++ [some (Row.mk (c1) true)])).length 0))) v7) fun h8 => mp (aloadN h8 32 ((.c (.p ((h ++ [some (Row.mk (c1) true)])).length 0)))) fun v => (v, h8)) (table_Raw_l0 n n a1 ((.c (.p h.length 0))) ((.c (.p ((h ++ [some (Row.mk (c1) true)])).length 0))) ((.c (.p (((h ++ [some (Row.mk (c1) true)]) ++ [some (Row.mk (List.replicate 32 (.i .u8 0)) true)])).length 0))) (.c (.i .i64 0)) p5.2) := by kernel_rfl
theorem table_Raw_l0_eq (n m : Nat) (x1 x2 x4 x5 x14 : Val) (h : Heap) : table_Raw_l0 n (m + 1) x1 x2 x4 x5 x14 h = bnd (abin .lss x14 (.c (.i .i64 32))) fun v9 => cnd v9 (bnd (abin .mul x1 (.c (.i .i64 32))) fun v10 => bnd (abin .add v10 x14) fun v11 => bnd (aiAddrA 256 1 x2 v11) fun v12 => bnd (aload1 h v12) fun v13 => bnd (aiAddrA 32 1 x5 x14) fun v14 => bnd (astore1 h v14 v13) fun h15 => bnd (abin .add x14 (.c (.i .i64 1))) fun v16 => table_Raw_l0 n m x1 x2 x4 x5 v16 h15) (bnd (aloadN h 32 x5) fun v17 => bnd (astoreN h 32 x4 v17) fun h18 => mp (aloadN h18 32 x4) fun v => (v, h18)) := by kernel_rfl
theorem chk_table_Raw : chkFn Try.prog Try.f146 A_table_Raw = true := by kernel_rfl
theorem E_table_Raw_sound : Sound Try.prog E_table_Raw := by
  intro f args h v h2 he
  unfold E_table_Raw at he
  cases he

theorem R_table_Raw_ok {n : Nat} {args : List Val} {h h2 : Heap} {v : Val} (he : R_table_Raw n args h = some (v, h2)) : Callable Try.prog 146 ∧ CallOk Try.prog 146 args h v h2 ∧ h.length ≤ h2.length := fn_ok E_table_Raw_sound Try.func146 chk_table_Raw ((R_table_Raw_run ..).trans he)
theorem L_table_Raw_ok (args : List Val) (h : Heap) (v : Val) (h2 : Heap) (he : Lim A_table_Raw E_table_Raw args h = some (v, h2)) : Callable Try.prog 146 ∧ CallOk Try.prog 146 args h v h2 ∧ h.length ≤ h2.length := (Lim_run he).elim fun _ e => R_table_Raw_ok ((R_table_Raw_run ..).symm.trans e)
theorem L_table_Raw_of {n : Nat} {args : List Val} {h : Heap} {p : Val × Heap} (he : R_table_Raw n args h = some p) : Lim A_table_Raw E_table_Raw args h = some p := Lim_of ((R_table_Raw_run ..).trans he)
noncomputable def S_table_Raw : List Val → Heap → Option (Val × Heap) := tidy (Lim A_table_Raw E_table_Raw)
theorem S_table_Raw_ok (args : List Val) (h : Heap) (v : Val) (h2 : Heap) (he : S_table_Raw args h = some (v, h2)) : Callable Try.prog 146 ∧ CallOk Try.prog 146 args h v h2 ∧ h.length ≤ h2.length := tidy_ok L_table_Raw_ok args h v h2 he
theorem S_table_Raw_flat {n : Nat} {args : List Val} {h h2 : Heap} {v : Val} (he : R_table_Raw n args (ro h) = some (v, h2)) (hf : v.flat = true) : S_table_Raw args h = some (v, h) := tidy_flat (L_table_Raw_of he) hf
theorem S_table_Raw_low {n : Nat} {args : List Val} {h h2 : Heap} {v : Val} (he : R_table_Raw n args (ro h) = some (v, h2)) (hf : v.low h.length = true) : S_table_Raw args h = some (v, h) := tidy_low (L_table_Raw_of he) hf
theorem S_table_Raw_out {n : Nat} {args : List Val} {h h2 : Heap} {v : Val} {sz k : Nat} {cs : List Cell} (he : R_table_Raw n args (ro h) = some (v, h2)) (ho : Out h.length h2 v sz k cs) (hf : flats cs = true) : S_table_Raw args h = some (.c (.sl h.length 0 k sz), h ++ [some ⟨cs, true⟩]) := tidy_out (L_table_Raw_of he) ho hf
theorem S_table_Raw_tidy {n : Nat} {args : List Val} {h h2 : Heap} {v v2 : Val} {ids : List Nat} (he : R_table_Raw n args (ro h) = some (v, h2)) (hc : canonV h2 h.length v = some (v2, ids)) : S_table_Raw args h = some (v2, h ++ ids.map (rd h2)) := tidy_of (L_table_Raw_of he) hc
def table_Free_c0 : ACode := .ops [{ dst := some 1, op := .box (.t 0) }, { dst := some 2, op := .mv (.v (.c (.i .i64 0))) }, { dst := some 3, op := .mv (.v (.c (.b false))) }]
def table_Free_c1 : ACode := .ops [{ dst := some 5, op := .mv (.v (.c (.i .i64 0))) }]
def table_Free_c2 : ACode := .ops [{ dst := some 6, op := .bin .lss (.t 5) (.v (.c (.i .i64 8))) }]
def table_Free_c3 : ACode := .cond (.t 6) .skip (.exit 0)
def table_Free_c4 : ACode := .ops [{ dst := some 7, op := .mv (.t 5) }, { dst := some 4, op := .mv (.t 7) }]
def table_Free_c5 : ACode := .ops [{ dst := some 8, op := .loadN 256 (.t 1) }, { dst := some 9, op := .mv (.t 4) }, { dst := some 10, op := .call 146 [(.t 8), (.t 9)] }, { dst := some 11, op := .build (List.replicate 32 (.i .u8 0)) [] }, { dst := some 12, op := .eqA false (List.replicate 32 (.i .u8)) (.t 10) (.t 11) }]
def table_Free_c6 : ACode := .ops [{ dst := some 13, op := .mv (.t 4) }, { dst := some 2, op := .mv (.t 13) }, { dst := some 3, op := .mv (.v (.c (.b true))) }]
def table_Free_c7 : ACode := .seq [2, 3] table_Free_c6 .ret
def table_Free_c8 : ACode := .cond (.t 12) table_Free_c7 .skip
def table_Free_c9 : ACode := .seq [1, 4, 5, 12] table_Free_c5 table_Free_c8
def table_Free_c10 : ACode := .seq [1, 4, 5] table_Free_c4 table_Free_c9
def table_Free_c11 : ACode := .block 1 table_Free_c10
def table_Free_c12 : ACode := .ops [{ dst := some 14, op := .bin .add (.t 5) (.v (.c (.i .i64 1))) }, { dst := some 5, op := .mv (.t 14) }]
def table_Free_c13 : ACode := .seq [1, 5] table_Free_c11 table_Free_c12
def table_Free_c14 : ACode := .seq [1, 5] table_Free_c3 table_Free_c13
def table_Free_c15 : ACode := .seq [1, 5, 6] table_Free_c2 table_Free_c14
def table_Free_c16 : ACode := .loop [1, 5] table_Free_c15
def table_Free_c17 : ACode := .block 0 table_Free_c16
def table_Free_c18 : ACode := .seq [1, 5] table_Free_c1 table_Free_c17
def table_Free_c19 : ACode := .ops [{ dst := some 2, op := .mv (.v (.c (.i .i64 0))) }, { dst := some 3, op := .mv (.v (.c (.b false))) }]
def table_Free_c20 : ACode := .seq [2, 3] table_Free_c19 .ret
def table_Free_c21 : ACode := .seq [] table_Free_c18 table_Free_c20
def table_Free_c22 : ACode := .seq [1] table_Free_c0 table_Free_c21
def A_table_Free : AFn := ⟨table_Free_c22, [.tmp 2, .tmp 3]⟩
noncomputable def E_table_Free : Sums := fun f args h => bif Nat.beq f 146 then S_table_Raw args h else none
noncomputable def table_Free_c0_d (n : Nat) : Sm (Val × Heap) := smOps E_table_Free [{ dst := some 1, op := .box (.t 0) }, { dst := some 2, op := .mv (.v (.c (.i .i64 0))) }, { dst := some 3, op := .mv (.v (.c (.b false))) }]
noncomputable def table_Free_c1_d (n : Nat) : Sm (Val × Heap) := smOps E_table_Free [{ dst := some 5, op := .mv (.v (.c (.i .i64 0))) }]
noncomputable def table_Free_c2_d (n : Nat) : Sm (Val × Heap) := smOps E_table_Free [{ dst := some 6, op := .bin .lss (.t 5) (.v (.c (.i .i64 8))) }]
noncomputable def table_Free_c3_d (n : Nat) : Sm (Val × Heap) := smCond (.t 6) smSkip (smExit 0)
noncomputable def table_Free_c4_d (n : Nat) : Sm (Val × Heap) := smOps E_table_Free [{ dst := some 7, op := .mv (.t 5) }, { dst := some 4, op := .mv (.t 7) }]
noncomputable def table_Free_c5_d (n : Nat) : Sm (Val × Heap) := smOps E_table_Free [{ dst := some 8, op := .loadN 256 (.t 1) }, { dst := some 9, op := .mv (.t 4) }, { dst := some 10, op := .call 146 [(.t 8), (.t 9)] }, { dst := some 11, op := .build (List.replicate 32 (.i .u8 0)) [] }, { dst := some 12, op := .eqA false (List.replicate 32 (.i .u8)) (.t 10) (.t 11) }]
noncomputable def table_Free_c6_d (n : Nat) : Sm (Val × Heap) := smOps E_table_Free [{ dst := some 13, op := .mv (.t 4) }, { dst := some 2, op := .mv (.t 13) }, { dst := some 3, op := .mv (.v (.c (.b true))) }]
noncomputable def table_Free_c7_d (n : Nat) : Sm (Val × Heap) := smSeq [2, 3] (table_Free_c6_d n) smRet
noncomputable def table_Free_c8_d (n : Nat) : Sm (Val × Heap) := smCond (.t 12) (table_Free_c7_d n) smSkip
noncomputable def table_Free_c9_d (n : Nat) : Sm (Val × Heap) := smSeq [1, 4, 5, 12] (table_Free_c5_d n) (table_Free_c8_d n)
noncomputable def table_Free_c10_d (n : Nat) : Sm (Val × Heap) := smSeq [1, 4, 5] (table_Free_c4_d n) (table_Free_c9_d n)
noncomputable def table_Free_c11_d (n : Nat) : Sm (Val × Heap) := smBlock 1 (table_Free_c10_d n)
noncomputable def table_Free_c12_d (n : Nat) : Sm (Val × Heap) := smOps E_table_Free [{ dst := some 14, op := .bin .add (.t 5) (.v (.c (.i .i64 1))) }, { dst := some 5, op := .mv (.t 14) }]
noncomputable def table_Free_c13_d (n : Nat) : Sm (Val × Heap) := smSeq [1, 5] (table_Free_c11_d n) (table_Free_c12_d n)
noncomputable def table_Free_c14_d (n : Nat) : Sm (Val × Heap) := smSeq [1, 5] (table_Free_c3_d n) (table_Free_c13_d n)
noncomputable def table_Free_c15_d (n : Nat) : Sm (Val × Heap) := smSeq [1, 5, 6] (table_Free_c2_d n) (table_Free_c14_d n)
noncomputable def table_Free_c16_d (n : Nat) : Sm (Val × Heap) := smLoop n [1, 5] (table_Free_c15_d n)
noncomputable def table_Free_c17_d (n : Nat) : Sm (Val × Heap) := smBlock 0 (table_Free_c16_d n)
noncomputable def table_Free_c18_d (n : Nat) : Sm (Val × Heap) := smSeq [1, 5] (table_Free_c1_d n) (table_Free_c17_d n)
noncomputable def table_Free_c19_d (n : Nat) : Sm (Val × Heap) := smOps E_table_Free [{ dst := some 2, op := .mv (.v (.c (.i .i64 0))) }, { dst := some 3, op := .mv (.v (.c (.b false))) }]
noncomputable def table_Free_c20_d (n : Nat) : Sm (Val × Heap) := smSeq [2, 3] (table_Free_c19_d n) smRet
noncomputable def table_Free_c21_d (n : Nat) : Sm (Val × Heap) := smSeq [] (table_Free_c18_d n) (table_Free_c20_d n)
noncomputable def table_Free_c22_d (n : Nat) : Sm (Val × Heap) := smSeq [1] (table_Free_c0_d n) (table_Free_c21_d n)
noncomputable def table_Free_k0 (n : Nat) : AExit → Env → Heap → Option (Val × Heap) := fun x e h => match x with | .normal => hold ((table_Free_c20_d n) A_table_Free.fin (e.keep []) h) | .exit id => A_table_Free.fin (.exit id) e h | .ret => A_table_Free.fin .ret e h
noncomputable def table_Free_k1 (n : Nat) : AExit → Env → Heap → Option (Val × Heap) := fun x e h => match x with | .exit i => bif Nat.beq i 0 then (table_Free_k0 n) .normal e h else (table_Free_k0 n) (.exit i) e h | .normal => (table_Free_k0 n) .normal e h | .ret => (table_Free_k0 n) .ret e h
noncomputable def table_Free_l0 (n m : Nat) (x1 x5 : Val) (h : Heap) : Option (Val × Heap) := around (table_Free_c15_d n) [1, 5] (table_Free_k1 n) m [(1, x1), (5, x5)] h
noncomputable def R_table_Free (n : Nat) (args : List Val) (h : Heap) : Option (Val × Heap) := (table_Free_c22_d n) A_table_Free.fin (params 0 args) h
theorem R_table_Free_run (n : Nat) (args : List Val) (h : Heap) : A_table_Free.run E_table_Free n args h = R_table_Free n args h := by kernel_rfl
theorem R_table_Free_eq (n : Nat) (a0 : Val) (h : Heap) : R_table_Free n [a0] h = bnd (cells? a0) fun c1 => table_Free_l0 n n ((.c (.p h.length 0))) (.c (.i .i64 0)) ((h ++ [some (Row.mk (c1) true)])) := by kernel_rfl
theorem table_Free_l0_eq (n m : Nat) (x1 x5 : Val) (h : Heap) : table_Free_l0 n (m + 1) x1 x5 h = bnd (abin .lss x5 (.c (.i .i64 8))) fun v2 => cnd v2 (bnd (aloadN h 256 x1) fun v3 => bnd (S_table_Raw [v3, x5] h) fun p4 => bnd (afill (List.replicate 32 (.i .u8 0)) []) fun c5 => bnd (aeq false (List.replicate 32 (.i .u8)) p4.1 ((.a c5))) fun v6 => cnd v6 (tupN [some x5, some (.c (.b true))] p4.2) (bnd (abin .add x5 (.c (.i .i64 1))) fun v7 => table_Free_l0 n m x1 v7 p4.2)) (tupN [some (.c (.i .i64 0)), some (.c (.b false))] h) := by kernel_rfl
theorem chk_table_Free : chkFn Try.prog Try.f166 A_table_Free = true := by kernel_rfl
theorem E_table_Free_sound : Sound Try.prog E_table_Free := by
  intro f args h v h2 he
  unfold E_table_Free at he
  cases hb0 : Nat.beq f 146 with
  | true => rw [hb0] at he; have e := Nat.eq_of_beq_eq_true hb0; subst e; exact S_table_Raw_ok args h v h2 he
  | false =>
    rw [hb0] at he; simp only [cond_false] at he
    cases he

theorem R_table_Free_ok {n : Nat} {args : List Val} {h h2 : Heap} {v : Val} (he : R_table_Free n args h = some (v, h2)) : Callable Try.prog 166 ∧ CallOk Try.prog 166 args h v h2 ∧ h.length ≤ h2.length := fn_ok E_table_Free_sound Try.func166 chk_table_Free ((R_table_Free_run ..).trans he)
theorem L_table_Free_ok (args : List Val) (h : Heap) (v : Val) (h2 : Heap) (he : Lim A_table_Free E_table_Free args h = some (v, h2)) : Callable Try.prog 166 ∧ CallOk Try.prog 166 args h v h2 ∧ h.length ≤ h2.length := (Lim_run he).elim fun _ e => R_table_Free_ok ((R_table_Free_run ..).symm.trans e)
theorem L_table_Free_of {n : Nat} {args : List Val} {h : Heap} {p : Val × Heap} (he : R_table_Free n args h = some p) : Lim A_table_Free E_table_Free args h = some p := Lim_of ((R_table_Free_run ..).trans he)
noncomputable def S_table_Free : List Val → Heap → Option (Val × Heap) := tidy (Lim A_table_Free E_table_Free)
theorem S_table_Free_ok (args : List Val) (h : Heap) (v : Val) (h2 : Heap) (he : S_table_Free args h = some (v, h2)) : Callable Try.prog 166 ∧ CallOk Try.prog 166 args h v h2 ∧ h.length ≤ h2.length := tidy_ok L_table_Free_ok args h v h2 he
theorem S_table_Free_flat {n : Nat} {args : List Val} {h h2 : Heap} {v : Val} (he : R_table_Free n args (ro h) = some (v, h2)) (hf : v.flat = true) : S_table_Free args h = some (v, h) := tidy_flat (L_table_Free_of he) hf
theorem S_table_Free_low {n : Nat} {args : List Val} {h h2 : Heap} {v : Val} (he : R_table_Free n args (ro h) = some (v, h2)) (hf : v.low h.length = true) : S_table_Free args h = some (v, h) := tidy_low (L_table_Free_of he) hf
theorem S_table_Free_out {n : Nat} {args : List Val} {h h2 : Heap} {v : Val} {sz k : Nat} {cs : List Cell} (he : R_table_Free n args (ro h) = some (v, h2)) (ho : Out h.length h2 v sz k cs) (hf : flats cs = true) : S_table_Free args h = some (.c (.sl h.length 0 k sz), h ++ [some ⟨cs, true⟩]) := tidy_out (L_table_Free_of he) ho hf
theorem S_table_Free_tidy {n : Nat} {args : List Val} {h h2 : Heap} {v v2 : Val} {ids : List Nat} (he : R_table_Free n args (ro h) = some (v, h2)) (hc : canonV h2 h.length v = some (v2, ids)) : S_table_Free args h = some (v2, h ++ ids.map (rd h2)) := tidy_of (L_table_Free_of he) hc
def table_Used_c0 : ACode := .ops [{ dst := some 1, op := .box (.t 0) }, { dst := some 2, op := .nilrow 1 }]
def table_Used_c1 : ACode := .ops [{ dst := some 3, op := .nilrow 1 }]
def table_Used_c2 : ACode := .ops [{ dst := some 5, op := .mv (.v (.c (.i .i64 0))) }]
def table_Used_c3 : ACode := .ops [{ dst := some 6, op := .bin .lss (.t 5) (.v (.c (.i .i64 8))) }]
def table_Used_c4 : ACode := .cond (.t 6) .skip (.exit 0)
def table_Used_c5 : ACode := .ops [{ dst := some 7, op := .mv (.t 5) }, { dst := some 4, op := .mv (.t 7) }]
def table_Used_c6 : ACode := .ops [{ dst := some 8, op := .loadN 256 (.t 1) }, { dst := some 9, op := .mv (.t 4) }, { dst := some 10, op := .call 146 [(.t 8), (.t 9)] }, { dst := some 11, op := .build (List.replicate 32 (.i .u8 0)) [] }, { dst := some 12, op := .eqA true (List.replicate 32 (.i .u8)) (.t 10) (.t 11) }]
def table_Used_c7 : ACode := .ops [{ dst := some 13, op := .mv (.t 3) }, { dst := some 14, op := .mv (.t 4) }, { dst := some 15, op := .buildSl 1 1 ([.i .i64 0]) [(0, 1, (.t 14))] }, { dst := some 16, op := .app 1 (.t 13) (.t 15) }, { dst := some 3, op := .mv (.t 16) }]
def table_Used_c8 : ACode := .cond (.t 12) table_Used_c7 .skip
def table_Used_c9 : ACode := .seq [1, 3, 4, 5, 12] table_Used_c6 table_Used_c8
def table_Used_c10 : ACode := .seq [1, 3, 4, 5] table_Used_c5 table_Used_c9
def table_Used_c11 : ACode := .block 1 table_Used_c10
def table_Used_c12 : ACode := .ops [{ dst := some 17, op := .bin .add (.t 5) (.v (.c (.i .i64 1))) }, { dst := some 5, op := .mv (.t 17) }]
def table_Used_c13 : ACode := .seq [1, 3, 5] table_Used_c11 table_Used_c12
def table_Used_c14 : ACode := .seq [1, 3, 5] table_Used_c4 table_Used_c13
def table_Used_c15 : ACode := .seq [1, 3, 5, 6] table_Used_c3 table_Used_c14
def table_Used_c16 : ACode := .loop [1, 3, 5] table_Used_c15
def table_Used_c17 : ACode := .block 0 table_Used_c16
def table_Used_c18 : ACode := .seq [1, 3, 5] table_Used_c2 table_Used_c17
def table_Used_c19 : ACode := .ops [{ dst := some 18, op := .mv (.t 3) }, { dst := some 2, op := .mv (.t 18) }]
def table_Used_c20 : ACode := .seq [2] table_Used_c19 .ret
def table_Used_c21 : ACode := .seq [3] table_Used_c18 table_Used_c20
def table_Used_c22 : ACode := .seq [1, 3] table_Used_c1 table_Used_c21
def table_Used_c23 : ACode := .seq [1] table_Used_c0 table_Used_c22
def A_table_Used : AFn := ⟨table_Used_c23, [.tmp 2]⟩
noncomputable def E_table_Used : Sums := fun f args h => bif Nat.beq f 146 then S_table_Raw args h else none
noncomputable def table_Used_c0_d (n : Nat) : Sm (Val × Heap) := smOps E_table_Used [{ dst := some 1, op := .box (.t 0) }, { dst := some 2, op := .nilrow 1 }]
noncomputable def table_Used_c1_d (n : Nat) : Sm (Val × Heap) := smOps E_table_Used [{ dst := some 3, op := .nilrow 1 }]
noncomputable def table_Used_c2_d (n : Nat) : Sm (Val × Heap) := smOps E_table_Used [{ dst := some 5, op := .mv (.v (.c (.i .i64 0))) }]
noncomputable def table_Used_c3_d (n : Nat) : Sm (Val × Heap) := smOps E_table_Used [{ dst := some 6, op := .bin .lss (.t 5) (.v (.c (.i .i64 8))) }]
noncomputable def table_Used_c4_d (n : Nat) : Sm (Val × Heap) := smCond (.t 6) smSkip (smExit 0)
noncomputable def table_Used_c5_d (n : Nat) : Sm (Val × Heap) := smOps E_table_Used [{ dst := some 7, op := .mv (.t 5) }, { dst := some 4, op := .mv (.t 7) }]
noncomputable def table_Used_c6_d (n : Nat) : Sm (Val × Heap) := smOps E_table_Used [{ dst := some 8, op := .loadN 256 (.t 1) }, { dst := some 9, op := .mv (.t 4) }, { dst := some 10, op := .call 146 [(.t 8), (.t 9)] }, { dst := some 11, op := .build (List.replicate 32 (.i .u8 0)) [] }, { dst := some 12, op := .eqA true (List.replicate 32 (.i .u8)) (.t 10) (.t 11) }]
noncomputable def table_Used_c7_d (n : Nat) : Sm (Val × Heap) := smOps E_table_Used [{ dst := some 13, op := .mv (.t 3) }, { dst := some 14, op := .mv (.t 4) }, { dst := some 15, op := .buildSl 1 1 ([.i .i64 0]) [(0, 1, (.t 14))] }, { dst := some 16, op := .app 1 (.t 13) (.t 15) }, { dst := some 3, op := .mv (.t 16) }]
noncomputable def table_Used_c8_d (n : Nat) : Sm (Val × Heap) := smCond (.t 12) (table_Used_c7_d n) smSkip
noncomputable def table_Used_c9_d (n : Nat) : Sm (Val × Heap) := smSeq [1, 3, 4, 5, 12] (table_Used_c6_d n) (table_Used_c8_d n)
noncomputable def table_Used_c10_d (n : Nat) : Sm (Val × Heap) := smSeq [1, 3, 4, 5] (table_Used_c5_d n) (table_Used_c9_d n)
noncomputable def table_Used_c11_d (n : Nat) : Sm (Val × Heap) := smBlock 1 (table_Used_c10_d n)
noncomputable def table_Used_c12_d (n : Nat) : Sm (Val × Heap) := smOps E_table_Used [{ dst := some 17, op := .bin .add (.t 5) (.v (.c (.i .i64 1))) }, { dst := some 5, op := .mv (.t 17) }]
noncomputable def table_Used_c13_d (n : Nat) : Sm (Val × Heap) := smSeq [1, 3, 5] (table_Used_c11_d n) (table_Used_c12_d n)
noncomputable def table_Used_c14_d (n : Nat) : Sm (Val × Heap) := smSeq [1, 3, 5] (table_Used_c4_d n) (table_Used_c13_d n)
noncomputable def table_Used_c15_d (n : Nat) : Sm (Val × Heap) := smSeq [1, 3, 5, 6] (table_Used_c3_d n) (table_Used_c14_d n)
noncomputable def table_Used_c16_d (n : Nat) : Sm (Val × Heap) := smLoop n [1, 3, 5] (table_Used_c15_d n)
noncomputable def table_Used_c17_d (n : Nat) : Sm (Val × Heap) := smBlock 0 (table_Used_c16_d n)
noncomputable def table_Used_c18_d (n : Nat) : Sm (Val × Heap) := smSeq [1, 3, 5] (table_Used_c2_d n) (table_Used_c17_d n)
noncomputable def table_Used_c19_d (n : Nat) : Sm (Val × Heap) := smOps E_table_Used [{ dst := some 18, op := .mv (.t 3) }, { dst := some 2, op := .mv (.t 18) }]
noncomputable def table_Used_c20_d (n : Nat) : Sm (Val × Heap) := smSeq [2] (table_Used_c19_d n) smRet
noncomputable def table_Used_c21_d (n : Nat) : Sm (Val × Heap) := smSeq [3] (table_Used_c18_d n) (table_Used_c20_d n)
noncomputable def table_Used_c22_d (n : Nat) : Sm (Val × Heap) := smSeq [1, 3] (table_Used_c1_d n) (table_Used_c21_d n)
noncomputable def table_Used_c23_d (n : Nat) : Sm (Val × Heap) := smSeq [1] (table_Used_c0_d n) (table_Used_c22_d n)
noncomputable def table_Used_k0 (n : Nat) : AExit → Env → Heap → Option (Val × Heap) := fun x e h => match x with | .normal => hold ((table_Used_c20_d n) A_table_Used.fin (e.keep [3]) h) | .exit id => A_table_Used.fin (.exit id) e h | .ret => A_table_Used.fin .ret e h
noncomputable def table_Used_k1 (n : Nat) : AExit → Env → Heap → Option (Val × Heap) := fun x e h => match x with | .exit i => bif Nat.beq i 0 then (table_Used_k0 n) .normal e h else (table_Used_k0 n) (.exit i) e h | .normal => (table_Used_k0 n) .normal e h | .ret => (table_Used_k0 n) .ret e h
noncomputable def table_Used_l0 (n m : Nat) (x1 x3 x5 : Val) (h : Heap) : Option (Val × Heap) := around (table_Used_c15_d n) [1, 3, 5] (table_Used_k1 n) m [(1, x1), (3, x3), (5, x5)] h
noncomputable def R_table_Used (n : Nat) (args : List Val) (h : Heap) : Option (Val × Heap) := (table_Used_c23_d n) A_table_Used.fin (params 0 args) h
noncomputable def table_Used_k2 (n m : Nat) : AExit → Env → Heap → Option (Val × Heap) := fun x e h => match x with | .normal => around (table_Used_c15_d n) [1, 3, 5] (table_Used_k1 n) m (e.keep [1, 3, 5]) h | .exit id => (table_Used_k1 n) (.exit id) e h | .ret => (table_Used_k1 n) .ret e h
noncomputable def table_Used_j0 (n m : Nat) (x1 x3 x5 : Val) (h : Heap) : Option (Val × Heap) := hold ((table_Used_c12_d n) (table_Used_k2 n m) [(1, x1), (3, x3), (5, x5)] h)
theorem R_table_Used_run (n : Nat) (args : List Val) (h : Heap) : A_table_Used.run E_table_Used n args h = R_table_Used n args h := by kernel_rfl
theorem R_table_Used_eq (n : Nat) (a0 : Val) (h : Heap) : R_table_Used n [a0] h = bnd (cells? a0) fun c1 => table_Used_l0 n n ((.c (.p h.length 0))) ((.c (.sl (((h ++ [some (Row.mk (c1) true)]) ++ [some (Row.mk ([]) true)])).length 0 0 1))) (.c (.i .i64 0)) ((((h ++ [some (Row.mk (c1) true)]) ++ [some (Row.mk ([]) true)]) ++ [some (Row.mk ([]) true)])) := by kernel_rfl
theorem table_Used_l0_eq (n m : Nat) (x1 x3 x5 : Val) (h : Heap) : table_Used_l0 n (m + 1) x1 x3 x5 h = bnd (abin .lss x5 (.c (.i .i64 8))) fun v2 => cnd v2 (bnd (aloadN h 256 x1) fun v3 => bnd (S_table_Raw [v3, x5] h) fun p4 => bnd (afill (List.replicate 32 (.i .u8 0)) []) fun c5 => bnd (aeq true (List.replicate 32 (.i .u8)) p4.1 ((.a c5))) fun v6 => cnd v6 (bnd (afill ([.i .i64 0]) [(0, 1, x5)]) fun c7 => bnd (aapp ((p4.2 ++ [some (Row.mk (c7) true)])) 1 x3 ((.c (.sl p4.2.length 0 1 1)))) fun p8 => table_Used_j0 n m x1 p8.1 x5 p8.2) (table_Used_j0 n m x1 x3 x5 p4.2)) (some (x3, h)) := by kernel_rfl
theorem table_Used_j0_eq (n m : Nat) (x1 x3 x5 : Val) (h : Heap) : table_Used_j0 n m x1 x3 x5 h = bnd (abin .add x5 (.c (.i .i64 1))) fun v9 => table_Used_l0 n m x1 x3 v9 h := by kernel_rfl
theorem chk_table_Used : chkFn Try.prog Try.f148 A_table_Used = true := by kernel_rfl
theorem E_table_Used_sound : Sound Try.prog E_table_Used := by
  intro f args h v h2 he
  unfold E_table_Used at he
  cases hb0 : Nat.beq f 146 with
  | true => rw [hb0] at he; have e := Nat.eq_of_beq_eq_true hb0; subst e; exact S_table_Raw_ok args h v h2 he
  | false =>
    rw [hb0] at he; simp only [cond_false] at he
    cases he

theorem R_table_Used_ok {n : Nat} {args : List Val} {h h2 : Heap} {v : Val} (he : R_table_Used n args h = some (v, h2)) : Callable Try.prog 148 ∧ CallOk Try.prog 148 args h v h2 ∧ h.length ≤ h2.length := fn_ok E_table_Used_sound Try.func148 chk_table_Used ((R_table_Used_run ..).trans he)
theorem L_table_Used_ok (args : List Val) (h : Heap) (v : Val) (h2 : Heap) (he : Lim A_table_Used E_table_Used args h = some (v, h2)) : Callable Try.prog 148 ∧ CallOk Try.prog 148 args h v h2 ∧ h.length ≤ h2.length := (Lim_run he).elim fun _ e => R_table_Used_ok ((R_table_Used_run ..).symm.trans e)
theorem L_table_Used_of {n : Nat} {args : List Val} {h : Heap} {p : Val × Heap} (he : R_table_Used n args h = some p) : Lim A_table_Used E_table_Used args h = some p := Lim_of ((R_table_Used_run ..).trans he)
noncomputable def S_table_Used : List Val → Heap → Option (Val × Heap) := tidy (Lim A_table_Used E_table_Used)
theorem S_table_Used_ok (args : List Val) (h : Heap) (v : Val) (h2 : Heap) (he : S_table_Used args h = some (v, h2)) : Callable Try.prog 148 ∧ CallOk Try.prog 148 args h v h2 ∧ h.length ≤ h2.length := tidy_ok L_table_Used_ok args h v h2 he
theorem S_table_Used_flat {n : Nat} {args : List Val} {h h2 : Heap} {v : Val} (he : R_table_Used n args (ro h) = some (v, h2)) (hf : v.flat = true) : S_table_Used args h = some (v, h) := tidy_flat (L_table_Used_of he) hf
theorem S_table_Used_low {n : Nat} {args : List Val} {h h2 : Heap} {v : Val} (he : R_table_Used n args (ro h) = some (v, h2)) (hf : v.low h.length = true) : S_table_Used args h = some (v, h) := tidy_low (L_table_Used_of he) hf
theorem S_table_Used_out {n : Nat} {args : List Val} {h h2 : Heap} {v : Val} {sz k : Nat} {cs : List Cell} (he : R_table_Used n args (ro h) = some (v, h2)) (ho : Out h.length h2 v sz k cs) (hf : flats cs = true) : S_table_Used args h = some (.c (.sl h.length 0 k sz), h ++ [some ⟨cs, true⟩]) := tidy_out (L_table_Used_of he) ho hf
theorem S_table_Used_tidy {n : Nat} {args : List Val} {h h2 : Heap} {v v2 : Val} {ids : List Nat} (he : R_table_Used n args (ro h) = some (v, h2)) (hc : canonV h2 h.length v = some (v2, ids)) : S_table_Used args h = some (v2, h ++ ids.map (rd h2)) := tidy_of (L_table_Used_of he) hc
def table_Get_c0 : ACode := .ops [{ dst := some 2, op := .box (.t 0) }, { dst := some 4, op := .alloc ([.i .i64 0, .i .i64 0, .i .i64 0, .i .i64 0, .i .i64 0, .i .i64 0, .i .i64 0, .i .i64 0, .i .i64 0, .i .i64 0, .i .i64 0]) }, { dst := some 5, op := .mv (.v (.c (.b false))) }]
def table_Get_c1 : ACode := .ops [{ dst := some 6, op := .mv (.t 1) }, { dst := some 7, op := .bin .lss (.t 6) (.v (.c (.i .i64 0))) }, { dst := some 8, op := .mv (.t 7) }, { dst := some 9, op := .mv (.t 1), guard := some (8, false) }, { dst := some 10, op := .bin .geq (.t 9) (.v (.c (.i .i64 8))), guard := some (8, false) }, { dst := some 11, op := .pick (.t 8) (.v (.c (.b true))) (.t 10) }]
def table_Get_c2 : ACode := .ops [{ dst := some 12, op := .build ([.i .i64 0, .i .i64 0, .i .i64 0, .i .i64 0, .i .i64 0, .i .i64 0, .i .i64 0, .i .i64 0, .i .i64 0, .i .i64 0, .i .i64 0]) [] }, { dst := none, op := .storeN 11 (.t 4) (.t 12) }, { dst := some 5, op := .mv (.v (.c (.b false))) }]
def table_Get_c3 : ACode := .seq [4, 5] table_Get_c2 .ret
def table_Get_c4 : ACode := .cond (.t 11) table_Get_c3 .skip
def table_Get_c5 : ACode := .seq [1, 2, 4, 11] table_Get_c1 table_Get_c4
def table_Get_c6 : ACode := .ops [{ dst := some 13, op := .loadN 256 (.t 2) }, { dst := some 14, op := .mv (.t 1) }, { dst := some 15, op := .call 146 [(.t 13), (.t 14)] }, { dst := some 16, op := .call 112 [(.t 15)] }, { dst := some 17, op := .ext (.t 16) 0 }, { dst := some 18, op := .ext (.t 16) 1 }, { dst := none, op := .storeN 11 (.t 4) (.t 17) }, { dst := some 5, op := .mv (.t 18) }]
def table_Get_c7 : ACode := .seq [4, 5] table_Get_c6 .ret
def table_Get_c8 : ACode := .seq [1, 2, 4] table_Get_c5 table_Get_c7
def table_Get_c9 : ACode := .seq [1, 2, 4] table_Get_c0 table_Get_c8
def A_table_Get : AFn := ⟨table_Get_c9, [.cellN 4 11, .tmp 5]⟩
noncomputable def E_table_Get : Sums := fun f args h => bif Nat.beq f 146 then S_table_Raw args h else bif Nat.beq f 112 then S_inode_Clean args h else none
noncomputable def table_Get_c0_d (n : Nat) : Sm (Val × Heap) := smOps E_table_Get [{ dst := some 2, op := .box (.t 0) }, { dst := some 4, op := .alloc ([.i .i64 0, .i .i64 0, .i .i64 0, .i .i64 0, .i .i64 0, .i .i64 0, .i .i64 0, .i .i64 0, .i .i64 0, .i .i64 0, .i .i64 0]) }, { dst := some 5, op := .mv (.v (.c (.b false))) }]
noncomputable def table_Get_c1_d (n : Nat) : Sm (Val × Heap) := smOps E_table_Get [{ dst := some 6, op := .mv (.t 1) }, { dst := some 7, op := .bin .lss (.t 6) (.v (.c (.i .i64 0))) }, { dst := some 8, op := .mv (.t 7) }, { dst := some 9, op := .mv (.t 1), guard := some (8, false) }, { dst := some 10, op := .bin .geq (.t 9) (.v (.c (.i .i64 8))), guard := some (8, false) }, { dst := some 11, op := .pick (.t 8) (.v (.c (.b true))) (.t 10) }]
noncomputable def table_Get_c2_d (n : Nat) : Sm (Val × Heap) := smOps E_table_Get [{ dst := some 12, op := .build ([.i .i64 0, .i .i64 0, .i .i64 0, .i .i64 0, .i .i64 0, .i .i64 0, .i .i64 0, .i .i64 0, .i .i64 0, .i .i64 0, .i .i64 0]) [] }, { dst := none, op := .storeN 11 (.t 4) (.t 12) }, { dst := some 5, op := .mv (.v (.c (.b false))) }]
noncomputable def table_Get_c3_d (n : Nat) : Sm (Val × Heap) := smSeq [4, 5] (table_Get_c2_d n) smRet
noncomputable def table_Get_c4_d (n : Nat) : Sm (Val × Heap) := smCond (.t 11) (table_Get_c3_d n) smSkip
noncomputable def table_Get_c5_d (n : Nat) : Sm (Val × Heap) := smSeq [1, 2, 4, 11] (table_Get_c1_d n) (table_Get_c4_d n)
noncomputable def table_Get_c6_d (n : Nat) : Sm (Val × Heap) := smOps E_table_Get [{ dst := some 13, op := .loadN 256 (.t 2) }, { dst := some 14, op := .mv (.t 1) }, { dst := some 15, op := .call 146 [(.t 13), (.t 14)] }, { dst := some 16, op := .call 112 [(.t 15)] }, { dst := some 17, op := .ext (.t 16) 0 }, { dst := some 18, op := .ext (.t 16) 1 }, { dst := none, op := .storeN 11 (.t 4) (.t 17) }, { dst := some 5, op := .mv (.t 18) }]
noncomputable def table_Get_c7_d (n : Nat) : Sm (Val × Heap) := smSeq [4, 5] (table_Get_c6_d n) smRet
noncomputable def table_Get_c8_d (n : Nat) : Sm (Val × Heap) := smSeq [1, 2, 4] (table_Get_c5_d n) (table_Get_c7_d n)
noncomputable def table_Get_c9_d (n : Nat) : Sm (Val × Heap) := smSeq [1, 2, 4] (table_Get_c0_d n) (table_Get_c8_d n)
noncomputable def R_table_Get (n : Nat) (args : List Val) (h : Heap) : Option (Val × Heap) := (table_Get_c9_d n) A_table_Get.fin (params 0 args) h
theorem R_table_Get_run (n : Nat) (args : List Val) (h : Heap) : A_table_Get.run E_table_Get n args h = R_table_Get n args h := by kernel_rfl
theorem R_table_Get_eq (n : Nat) (a0 a1 : Val) (h : Heap) : R_table_Get n [a0, a1] h = bnd (cells? a0) fun c1 => bnd (abin .lss a1 (.c (.i .i64 0))) fun v2 => bnd (gd v2 false (some (a1, ((h ++ [some (Row.mk (c1) true)]) ++ [some (Row.mk ([.i .i64 0, .i .i64 0, .i .i64 0, .i .i64 0, .i .i64 0, .i .i64 0, .i .i64 0, .i .i64 0, .i .i64 0, .i .i64 0, .i .i64 0]) true)]))) (some (.no, ((h ++ [some (Row.mk (c1) true)]) ++ [some (Row.mk ([.i .i64 0, .i .i64 0, .i .i64 0, .i .i64 0, .i .i64 0, .i .i64 0, .i .i64 0, .i .i64 0, .i .i64 0, .i .i64 0, .i .i64 0]) true)])))) fun p3 => bnd (gd v2 false (bnd (abin .geq p3.1 (.c (.i .i64 8))) fun v4 => some (v4, p3.2)) (some (.no, p3.2))) fun p5 => bnd (apick v2 (.c (.b true)) p5.1) fun v6 => cnd v6 (bnd (afill ([.i .i64 0, .i .i64 0, .i .i64 0, .i .i64 0, .i .i64 0, .i .i64 0, .i .i64 0, .i .i64 0, .i .i64 0, .i .i64 0, .i .i64 0]) []) fun c7 => bnd (astoreN p5.2 11 ((.c (.p ((h ++ [some (Row.mk (c1) true)])).length 0))) ((.a c7))) fun h8 => tupN [aloadN h8 11 ((.c (.p ((h ++ [some (Row.mk (c1) true)])).length 0))), some (.c (.b false))] h8) (bnd (aloadN p5.2 256 ((.c (.p h.length 0)))) fun v9 => bnd (S_table_Raw [v9, a1] p5.2) fun p10 => bnd (S_inode_Clean [p10.1] p10.2) fun p11 => bnd (aext p11.1 0) fun v12 => bnd (aext p11.1 1) fun v13 => bnd (astoreN p11.2 11 ((.c (.p ((h ++ [some (Row.mk (c1) true)])).length 0))) v12) fun h14 => tupN [aloadN h14 11 ((.c (.p ((h ++ [some (Row.mk (c1) true)])).length 0))), some v13] h14) := by kernel_rfl
theorem chk_table_Get : chkFn Try.prog Try.f147 A_table_Get = true := by kernel_rfl
theorem E_table_Get_sound : Sound Try.prog E_table_Get := by
  intro f args h v h2 he
  unfold E_table_Get at he
  cases hb0 : Nat.beq f 146 with
  | true => rw [hb0] at he; have e := Nat.eq_of_beq_eq_true hb0; subst e; exact S_table_Raw_ok args h v h2 he
  | false =>
    rw [hb0] at he; simp only [cond_false] at he
    cases hb1 : Nat.beq f 112 with
    | true => rw [hb1] at he; have e := Nat.eq_of_beq_eq_true hb1; subst e; exact S_inode_Clean_ok args h v h2 he
    | false =>
      rw [hb1] at he; simp only [cond_false] at he
      cases he

theorem R_table_Get_ok {n : Nat} {args : List Val} {h h2 : Heap} {v : Val} (he : R_table_Get n args h = some (v, h2)) : Callable Try.prog 147 ∧ CallOk Try.prog 147 args h v h2 ∧ h.length ≤ h2.length := fn_ok E_table_Get_sound Try.func147 chk_table_Get ((R_table_Get_run ..).trans he)
theorem L_table_Get_ok (args : List Val) (h : Heap) (v : Val) (h2 : Heap) (he : Lim A_table_Get E_table_Get args h = some (v, h2)) : Callable Try.prog 147 ∧ CallOk Try.prog 147 args h v h2 ∧ h.length ≤ h2.length := (Lim_run he).elim fun _ e => R_table_Get_ok ((R_table_Get_run ..).symm.trans e)
theorem L_table_Get_of {n : Nat} {args : List Val} {h : Heap} {p : Val × Heap} (he : R_table_Get n args h = some p) : Lim A_table_Get E_table_Get args h = some p := Lim_of ((R_table_Get_run ..).trans he)
noncomputable def S_table_Get : List Val → Heap → Option (Val × Heap) := tidy (Lim A_table_Get E_table_Get)
theorem S_table_Get_ok (args : List Val) (h : Heap) (v : Val) (h2 : Heap) (he : S_table_Get args h = some (v, h2)) : Callable Try.prog 147 ∧ CallOk Try.prog 147 args h v h2 ∧ h.length ≤ h2.length := tidy_ok L_table_Get_ok args h v h2 he
theorem S_table_Get_flat {n : Nat} {args : List Val} {h h2 : Heap} {v : Val} (he : R_table_Get n args (ro h) = some (v, h2)) (hf : v.flat = true) : S_table_Get args h = some (v, h) := tidy_flat (L_table_Get_of he) hf
theorem S_table_Get_low {n : Nat} {args : List Val} {h h2 : Heap} {v : Val} (he : R_table_Get n args (ro h) = some (v, h2)) (hf : v.low h.length = true) : S_table_Get args h = some (v, h) := tidy_low (L_table_Get_of he) hf
theorem S_table_Get_out {n : Nat} {args : List Val} {h h2 : Heap} {v : Val} {sz k : Nat} {cs : List Cell} (he : R_table_Get n args (ro h) = some (v, h2)) (ho : Out h.length h2 v sz k cs) (hf : flats cs = true) : S_table_Get args h = some (.c (.sl h.length 0 k sz), h ++ [some ⟨cs, true⟩]) := tidy_out (L_table_Get_of he) ho hf
theorem S_table_Get_tidy {n : Nat} {args : List Val} {h h2 : Heap} {v v2 : Val} {ids : List Nat} (he : R_table_Get n args (ro h) = some (v, h2)) (hc : canonV h2 h.length v = some (v2, ids)) : S_table_Get args h = some (v2, h ++ ids.map (rd h2)) := tidy_of (L_table_Get_of he) hc
def table_Clean_c0 : ACode := .ops [{ dst := some 1, op := .box (.t 0) }, { dst := some 2, op := .mv (.v (.c (.b false))) }]
def table_Clean_c1 : ACode := .ops [{ dst := some 6, op := .mv (.v (.c (.i .i64 0))) }]
def table_Clean_c2 : ACode := .ops [{ dst := some 7, op := .bin .lss (.t 6) (.v (.c (.i .i64 8))) }]
def table_Clean_c3 : ACode := .cond (.t 7) .skip (.exit 0)
def table_Clean_c4 : ACode := .ops [{ dst := some 8, op := .mv (.t 6) }, { dst := some 3, op := .mv (.t 8) }]
def table_Clean_c5 : ACode := .ops [{ dst := some 10, op := .loadN 256 (.t 1) }, { dst := some 11, op := .mv (.t 3) }, { dst := some 12, op := .call 147 [(.t 10), (.t 11)] }, { dst := some 9, op := .mv (.t 12) }, { dst := some 13, op := .ext (.t 9) 0 }, { dst := some 14, op := .ext (.t 9) 1 }, { dst := some 4, op := .alloc ([.i .i64 0, .i .i64 0, .i .i64 0, .i .i64 0, .i .i64 0, .i .i64 0, .i .i64 0, .i .i64 0, .i .i64 0, .i .i64 0, .i .i64 0]) }, { dst := none, op := .storeN 11 (.t 4) (.t 13) }, { dst := some 5, op := .mv (.t 14) }]
def table_Clean_c6 : ACode := .ops [{ dst := some 15, op := .mv (.t 5) }, { dst := some 16, op := .un .not (.t 15) }]
def table_Clean_c7 : ACode := .ops [{ dst := some 2, op := .mv (.v (.c (.b false))) }]
def table_Clean_c8 : ACode := .seq [2] table_Clean_c7 .ret
def table_Clean_c9 : ACode := .cond (.t 16) table_Clean_c8 .skip
def table_Clean_c10 : ACode := .seq [1, 6, 16] table_Clean_c6 table_Clean_c9
def table_Clean_c11 : ACode := .seq [1, 5, 6] table_Clean_c5 table_Clean_c10
def table_Clean_c12 : ACode := .seq [1, 3, 6] table_Clean_c4 table_Clean_c11
def table_Clean_c13 : ACode := .block 1 table_Clean_c12
def table_Clean_c14 : ACode := .ops [{ dst := some 17, op := .bin .add (.t 6) (.v (.c (.i .i64 1))) }, { dst := some 6, op := .mv (.t 17) }]
def table_Clean_c15 : ACode := .seq [1, 6] table_Clean_c13 table_Clean_c14
def table_Clean_c16 : ACode := .seq [1, 6] table_Clean_c3 table_Clean_c15
def table_Clean_c17 : ACode := .seq [1, 6, 7] table_Clean_c2 table_Clean_c16
def table_Clean_c18 : ACode := .loop [1, 6] table_Clean_c17
def table_Clean_c19 : ACode := .block 0 table_Clean_c18
def table_Clean_c20 : ACode := .seq [1, 6] table_Clean_c1 table_Clean_c19
def table_Clean_c21 : ACode := .ops [{ dst := some 2, op := .mv (.v (.c (.b true))) }]
def table_Clean_c22 : ACode := .seq [2] table_Clean_c21 .ret
def table_Clean_c23 : ACode := .seq [] table_Clean_c20 table_Clean_c22
def table_Clean_c24 : ACode := .seq [1] table_Clean_c0 table_Clean_c23
def A_table_Clean : AFn := ⟨table_Clean_c24, [.tmp 2]⟩
noncomputable def E_table_Clean : Sums := fun f args h => bif Nat.beq f 147 then S_table_Get args h else none
noncomputable def table_Clean_c0_d (n : Nat) : Sm (Val × Heap) := smOps E_table_Clean [{ dst := some 1, op := .box (.t 0) }, { dst := some 2, op := .mv (.v (.c (.b false))) }]
noncomputable def table_Clean_c1_d (n : Nat) : Sm (Val × Heap) := smOps E_table_Clean [{ dst := some 6, op := .mv (.v (.c (.i .i64 0))) }]
noncomputable def table_Clean_c2_d (n : Nat) : Sm (Val × Heap) := smOps E_table_Clean [{ dst := some 7, op := .bin .lss (.t 6) (.v (.c (.i .i64 8))) }]
noncomputable def table_Clean_c3_d (n : Nat) : Sm (Val × Heap) := smCond (.t 7) smSkip (smExit 0)
noncomputable def table_Clean_c4_d (n : Nat) : Sm (Val × Heap) := smOps E_table_Clean [{ dst := some 8, op := .mv (.t 6) }, { dst := some 3, op := .mv (.t 8) }]
noncomputable def table_Clean_c5_d (n : Nat) : Sm (Val × Heap) := smOps E_table_Clean [{ dst := some 10, op := .loadN 256 (.t 1) }, { dst := some 11, op := .mv (.t 3) }, { dst := some 12, op := .call 147 [(.t 10), (.t 11)] }, { dst := some 9, op := .mv (.t 12) }, { dst := some 13, op := .ext (.t 9) 0 }, { dst := some 14, op := .ext (.t 9) 1 }, { dst := some 4, op := .alloc ([.i .i64 0, .i .i64 0, .i .i64 0, .i .i64 0, .i .i64 0, .i .i64 0, .i .i64 0, .i .i64 0, .i .i64 0, .i .i64 0, .i .i64 0]) }, { dst := none, op := .storeN 11 (.t 4) (.t 13) }, { dst := some 5, op := .mv (.t 14) }]
noncomputable def table_Clean_c6_d (n : Nat) : Sm (Val × Heap) := smOps E_table_Clean [{ dst := some 15, op := .mv (.t 5) }, { dst := some 16, op := .un .not (.t 15) }]
noncomputable def table_Clean_c7_d (n : Nat) : Sm (Val × Heap) := smOps E_table_Clean [{ dst := some 2, op := .mv (.v (.c (.b false))) }]
noncomputable def table_Clean_c8_d (n : Nat) : Sm (Val × Heap) := smSeq [2] (table_Clean_c7_d n) smRet
noncomputable def table_Clean_c9_d (n : Nat) : Sm (Val × Heap) := smCond (.t 16) (table_Clean_c8_d n) smSkip
noncomputable def table_Clean_c10_d (n : Nat) : Sm (Val × Heap) := smSeq [1, 6, 16] (table_Clean_c6_d n) (table_Clean_c9_d n)
noncomputable def table_Clean_c11_d (n : Nat) : Sm (Val × Heap) := smSeq [1, 5, 6] (table_Clean_c5_d n) (table_Clean_c10_d n)
noncomputable def table_Clean_c12_d (n : Nat) : Sm (Val × Heap) := smSeq [1, 3, 6] (table_Clean_c4_d n) (table_Clean_c11_d n)
noncomputable def table_Clean_c13_d (n : Nat) : Sm (Val × Heap) := smBlock 1 (table_Clean_c12_d n)
noncomputable def table_Clean_c14_d (n : Nat) : Sm (Val × Heap) := smOps E_table_Clean [{ dst := some 17, op := .bin .add (.t 6) (.v (.c (.i .i64 1))) }, { dst := some 6, op := .mv (.t 17) }]
noncomputable def table_Clean_c15_d (n : Nat) : Sm (Val × Heap) := smSeq [1, 6] (table_Clean_c13_d n) (table_Clean_c14_d n)
noncomputable def table_Clean_c16_d (n : Nat) : Sm (Val × Heap) := smSeq [1, 6] (table_Clean_c3_d n) (table_Clean_c15_d n)
noncomputable def table_Clean_c17_d (n : Nat) : Sm (Val × Heap) := smSeq [1, 6, 7] (table_Clean_c2_d n) (table_Clean_c16_d n)
noncomputable def table_Clean_c18_d (n : Nat) : Sm (Val × Heap) := smLoop n [1, 6] (table_Clean_c17_d n)
noncomputable def table_Clean_c19_d (n : Nat) : Sm (Val × Heap) := smBlock 0 (table_Clean_c18_d n)
noncomputable def table_Clean_c20_d (n : Nat) : Sm (Val × Heap) := smSeq [1, 6] (table_Clean_c1_d n) (table_Clean_c19_d n)
noncomputable def table_Clean_c21_d (n : Nat) : Sm (Val × Heap) := smOps E_table_Clean [{ dst := some 2, op := .mv (.v (.c (.b true))) }]
noncomputable def table_Clean_c22_d (n : Nat) : Sm (Val × Heap) := smSeq [2] (table_Clean_c21_d n) smRet
noncomputable def table_Clean_c23_d (n : Nat) : Sm (Val × Heap) := smSeq [] (table_Clean_c20_d n) (table_Clean_c22_d n)
noncomputable def table_Clean_c24_d (n : Nat) : Sm (Val × Heap) := smSeq [1] (table_Clean_c0_d n) (table_Clean_c23_d n)
noncomputable def table_Clean_k0 (n : Nat) : AExit → Env → Heap → Option (Val × Heap) := fun x e h => match x with | .normal => hold ((table_Clean_c22_d n) A_table_Clean.fin (e.keep []) h) | .exit id => A_table_Clean.fin (.exit id) e h | .ret => A_table_Clean.fin .ret e h
noncomputable def table_Clean_k1 (n : Nat) : AExit → Env → Heap → Option (Val × Heap) := fun x e h => match x with | .exit i => bif Nat.beq i 0 then (table_Clean_k0 n) .normal e h else (table_Clean_k0 n) (.exit i) e h | .normal => (table_Clean_k0 n) .normal e h | .ret => (table_Clean_k0 n) .ret e h
noncomputable def table_Clean_l0 (n m : Nat) (x1 x6 : Val) (h : Heap) : Option (Val × Heap) := around (table_Clean_c17_d n) [1, 6] (table_Clean_k1 n) m [(1, x1), (6, x6)] h
noncomputable def R_table_Clean (n : Nat) (args : List Val) (h : Heap) : Option (Val × Heap) := (table_Clean_c24_d n) A_table_Clean.fin (params 0 args) h
theorem R_table_Clean_run (n : Nat) (args : List Val) (h : Heap) : A_table_Clean.run E_table_Clean n args h = R_table_Clean n args h := by kernel_rfl
theorem R_table_Clean_eq (n : Nat) (a0 : Val) (h : Heap) : R_table_Clean n [a0] h = bnd (cells? a0) fun c1 => table_Clean_l0 n n ((.c (.p h.length 0))) (.c (.i .i64 0)) ((h ++ [some (Row.mk (c1) true)])) := by kernel_rfl
theorem table_Clean_l0_eq (n m : Nat) (x1 x6 : Val) (h : Heap) : table_Clean_l0 n (m + 1) x1 x6 h = bnd (abin .lss x6 (.c (.i .i64 8))) fun v2 => cnd v2 (bnd (aloadN h 256 x1) fun v3 => bnd (S_table_Get [v3, x6] h) fun p4 => bnd (aext p4.1 0) fun v5 => bnd (aext p4.1 1) fun v6 => bnd (astoreN ((p4.2 ++ [some (Row.mk ([.i .i64 0, .i .i64 0, .i .i64 0, .i .i64 0, .i .i64 0, .i .i64 0, .i .i64 0, .i .i64 0, .i .i64 0, .i .i64 0, .i .i64 0]) true)])) 11 ((.c (.p p4.2.length 0))) v5) fun h7 => bnd (aun .not v6) fun v8 => cnd v8 (some ((.c (.b false)), h7)) (bnd (abin .add x6 (.c (.i .i64 1))) fun v9 => table_Clean_l0 n m x1 v9 h7)) (some ((.c (.b true)), h)) := by kernel_rfl
theorem chk_table_Clean : chkFn Try.prog Try.f167 A_table_Clean = true := by kernel_rfl
theorem E_table_Clean_sound : Sound Try.prog E_table_Clean := by
  intro f args h v h2 he
  unfold E_table_Clean at he
  cases hb0 : Nat.beq f 147 with
  | true => rw [hb0] at he; have e := Nat.eq_of_beq_eq_true hb0; subst e; exact S_table_Get_ok args h v h2 he
  | false =>
    rw [hb0] at he; simp only [cond_false] at he
    cases he

theorem R_table_Clean_ok {n : Nat} {args : List Val} {h h2 : Heap} {v : Val} (he : R_table_Clean n args h = some (v, h2)) : Callable Try.prog 167 ∧ CallOk Try.prog 167 args h v h2 ∧ h.length ≤ h2.length := fn_ok E_table_Clean_sound Try.func167 chk_table_Clean ((R_table_Clean_run ..).trans he)
theorem L_table_Clean_ok (args : List Val) (h : Heap) (v : Val) (h2 : Heap) (he : Lim A_table_Clean E_table_Clean args h = some (v, h2)) : Callable Try.prog 167 ∧ CallOk Try.prog 167 args h v h2 ∧ h.length ≤ h2.length := (Lim_run he).elim fun _ e => R_table_Clean_ok ((R_table_Clean_run ..).symm.trans e)
theorem L_table_Clean_of {n : Nat} {args : List Val} {h : Heap} {p : Val × Heap} (he : R_table_Clean n args h = some p) : Lim A_table_Clean E_table_Clean args h = some p := Lim_of ((R_table_Clean_run ..).trans he)
noncomputable def S_table_Clean : List Val → Heap → Option (Val × Heap) := tidy (Lim A_table_Clean E_table_Clean)
theorem S_table_Clean_ok (args : List Val) (h : Heap) (v : Val) (h2 : Heap) (he : S_table_Clean args h = some (v, h2)) : Callable Try.prog 167 ∧ CallOk Try.prog 167 args h v h2 ∧ h.length ≤ h2.length := tidy_ok L_table_Clean_ok args h v h2 he
theorem S_table_Clean_flat {n : Nat} {args : List Val} {h h2 : Heap} {v : Val} (he : R_table_Clean n args (ro h) = some (v, h2)) (hf : v.flat = true) : S_table_Clean args h = some (v, h) := tidy_flat (L_table_Clean_of he) hf
theorem S_table_Clean_low {n : Nat} {args : List Val} {h h2 : Heap} {v : Val} (he : R_table_Clean n args (ro h) = some (v, h2)) (hf : v.low h.length = true) : S_table_Clean args h = some (v, h) := tidy_low (L_table_Clean_of he) hf
theorem S_table_Clean_out {n : Nat} {args : List Val} {h h2 : Heap} {v : Val} {sz k : Nat} {cs : List Cell} (he : R_table_Clean n args (ro h) = some (v, h2)) (ho : Out h.length h2 v sz k cs) (hf : flats cs = true) : S_table_Clean args h = some (.c (.sl h.length 0 k sz), h ++ [some ⟨cs, true⟩]) := tidy_out (L_table_Clean_of he) ho hf
theorem S_table_Clean_tidy {n : Nat} {args : List Val} {h h2 : Heap} {v v2 : Val} {ids : List Nat} (he : R_table_Clean n args (ro h) = some (v, h2)) (hc : canonV h2 h.length v = some (v2, ids)) : S_table_Clean args h = some (v2, h ++ ids.map (rd h2)) := tidy_of (L_table_Clean_of he) hc
end Go.Proofs.Ytbbkpmbepljhkaa
