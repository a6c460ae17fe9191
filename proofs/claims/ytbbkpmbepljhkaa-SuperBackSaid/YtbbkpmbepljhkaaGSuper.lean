/- Super: the Go functions of this package as the abstract evaluator computes them: printed by a program, checked by Lean. -/
import Derived.Test.YtbbkpmbepljhkaaEscS
import Derived.Test.YtbbkpmbepljhkaaChecked
import Derived.KernelRfl
import Derived.Test.YtbbkpmbepljhkaaGMix
import Derived.Test.YtbbkpmbepljhkaaGNum
namespace Go.Proofs.Ytbbkpmbepljhkaa
open Go Go.Esc
set_option maxRecDepth 100000
set_option linter.all false
def super_Check_c0 : ACode := .ops [{ dst := some 1, op := .box (.t 0) }, { dst := some 2, op := .mv (.v (.c (.i .i64 0))) }]
def super_Check_c1 : ACode := .ops [{ dst := some 4, op := .fAddr (.t 1) 0 }, { dst := some 5, op := .load1 (.t 4) }, { dst := some 6, op := .bin .lss (.t 5) (.v (.c (.i .i64 16))) }, { dst := some 3, op := .mv (.t 6) }]
def super_Check_c2 : ACode := .ops [{ dst := some 7, op := .fAddr (.t 1) 0 }, { dst := some 8, op := .load1 (.t 7) }, { dst := some 9, op := .bin .gtr (.t 8) (.v (.c (.i .i64 512))) }, { dst := some 3, op := .mv (.t 9) }]
def super_Check_c3 : ACode := .cond (.t 3) .skip super_Check_c2
def super_Check_c4 : ACode := .seq [1, 3] super_Check_c1 super_Check_c3
def super_Check_c5 : ACode := .ops [{ dst := some 2, op := .mv (.v (.c (.i .i64 1))) }]
def super_Check_c6 : ACode := .seq [2] super_Check_c5 .ret
def super_Check_c7 : ACode := .ops [{ dst := some 11, op := .fAddr (.t 1) 1 }, { dst := some 12, op := .load1 (.t 11) }, { dst := some 13, op := .bin .lss (.t 12) (.v (.c (.i .i64 8))) }, { dst := some 10, op := .mv (.t 13) }]
def super_Check_c8 : ACode := .ops [{ dst := some 14, op := .fAddr (.t 1) 1 }, { dst := some 15, op := .load1 (.t 14) }, { dst := some 16, op := .bin .gtr (.t 15) (.v (.c (.i .i64 128))) }, { dst := some 10, op := .mv (.t 16) }]
def super_Check_c9 : ACode := .ops [{ dst := some 17, op := .fAddr (.t 1) 1 }, { dst := some 18, op := .load1 (.t 17) }, { dst := some 19, op := .bin .rem (.t 18) (.v (.c (.i .i64 8))) }, { dst := some 20, op := .bin .neq (.t 19) (.v (.c (.i .i64 0))) }, { dst := some 10, op := .mv (.t 20) }]
def super_Check_c10 : ACode := .cond (.t 10) .skip super_Check_c9
def super_Check_c11 : ACode := .seq [1, 10] super_Check_c8 super_Check_c10
def super_Check_c12 : ACode := .cond (.t 10) .skip super_Check_c11
def super_Check_c13 : ACode := .seq [1, 10] super_Check_c7 super_Check_c12
def super_Check_c14 : ACode := .ops [{ dst := some 2, op := .mv (.v (.c (.i .i64 1))) }]
def super_Check_c15 : ACode := .seq [2] super_Check_c14 .ret
def super_Check_c16 : ACode := .ops [{ dst := some 22, op := .fAddr (.t 1) 1 }, { dst := some 23, op := .load1 (.t 22) }, { dst := some 24, op := .bin .quo (.t 23) (.v (.c (.i .i64 8))) }, { dst := some 25, op := .bin .add (.v (.c (.i .i64 2))) (.t 24) }, { dst := some 26, op := .fAddr (.t 1) 0 }, { dst := some 27, op := .load1 (.t 26) }, { dst := some 28, op := .bin .geq (.t 25) (.t 27) }, { dst := some 21, op := .mv (.t 28) }]
def super_Check_c17 : ACode := .ops [{ dst := some 2, op := .mv (.v (.c (.i .i64 1))) }]
def super_Check_c18 : ACode := .seq [2] super_Check_c17 .ret
def super_Check_c19 : ACode := .cond (.t 21) super_Check_c18 .skip
def super_Check_c20 : ACode := .seq [21] super_Check_c16 super_Check_c19
def super_Check_c21 : ACode := .cond (.t 10) super_Check_c15 super_Check_c20
def super_Check_c22 : ACode := .seq [1, 10] super_Check_c13 super_Check_c21
def super_Check_c23 : ACode := .cond (.t 3) super_Check_c6 super_Check_c22
def super_Check_c24 : ACode := .seq [1, 3] super_Check_c4 super_Check_c23
def super_Check_c25 : ACode := .block 0 super_Check_c24
def super_Check_c26 : ACode := .ops [{ dst := some 2, op := .mv (.v (.c (.i .i64 0))) }]
def super_Check_c27 : ACode := .seq [2] super_Check_c26 .ret
def super_Check_c28 : ACode := .seq [] super_Check_c25 super_Check_c27
def super_Check_c29 : ACode := .seq [1] super_Check_c0 super_Check_c28
def A_super_Check : AFn := ⟨super_Check_c29, [.tmp 2]⟩
noncomputable def E_super_Check : Sums := fun f args h => none
noncomputable def super_Check_c0_d (n : Nat) : Sm (Val × Heap) := smOps E_super_Check [{ dst := some 1, op := .box (.t 0) }, { dst := some 2, op := .mv (.v (.c (.i .i64 0))) }]
noncomputable def super_Check_c1_d (n : Nat) : Sm (Val × Heap) := smOps E_super_Check [{ dst := some 4, op := .fAddr (.t 1) 0 }, { dst := some 5, op := .load1 (.t 4) }, { dst := some 6, op := .bin .lss (.t 5) (.v (.c (.i .i64 16))) }, { dst := some 3, op := .mv (.t 6) }]
noncomputable def super_Check_c2_d (n : Nat) : Sm (Val × Heap) := smOps E_super_Check [{ dst := some 7, op := .fAddr (.t 1) 0 }, { dst := some 8, op := .load1 (.t 7) }, { dst := some 9, op := .bin .gtr (.t 8) (.v (.c (.i .i64 512))) }, { dst := some 3, op := .mv (.t 9) }]
noncomputable def super_Check_c3_d (n : Nat) : Sm (Val × Heap) := smCond (.t 3) smSkip (super_Check_c2_d n)
noncomputable def super_Check_c4_d (n : Nat) : Sm (Val × Heap) := smSeq [1, 3] (super_Check_c1_d n) (super_Check_c3_d n)
noncomputable def super_Check_c5_d (n : Nat) : Sm (Val × Heap) := smOps E_super_Check [{ dst := some 2, op := .mv (.v (.c (.i .i64 1))) }]
noncomputable def super_Check_c6_d (n : Nat) : Sm (Val × Heap) := smSeq [2] (super_Check_c5_d n) smRet
noncomputable def super_Check_c7_d (n : Nat) : Sm (Val × Heap) := smOps E_super_Check [{ dst := some 11, op := .fAddr (.t 1) 1 }, { dst := some 12, op := .load1 (.t 11) }, { dst := some 13, op := .bin .lss (.t 12) (.v (.c (.i .i64 8))) }, { dst := some 10, op := .mv (.t 13) }]
noncomputable def super_Check_c8_d (n : Nat) : Sm (Val × Heap) := smOps E_super_Check [{ dst := some 14, op := .fAddr (.t 1) 1 }, { dst := some 15, op := .load1 (.t 14) }, { dst := some 16, op := .bin .gtr (.t 15) (.v (.c (.i .i64 128))) }, { dst := some 10, op := .mv (.t 16) }]
noncomputable def super_Check_c9_d (n : Nat) : Sm (Val × Heap) := smOps E_super_Check [{ dst := some 17, op := .fAddr (.t 1) 1 }, { dst := some 18, op := .load1 (.t 17) }, { dst := some 19, op := .bin .rem (.t 18) (.v (.c (.i .i64 8))) }, { dst := some 20, op := .bin .neq (.t 19) (.v (.c (.i .i64 0))) }, { dst := some 10, op := .mv (.t 20) }]
noncomputable def super_Check_c10_d (n : Nat) : Sm (Val × Heap) := smCond (.t 10) smSkip (super_Check_c9_d n)
noncomputable def super_Check_c11_d (n : Nat) : Sm (Val × Heap) := smSeq [1, 10] (super_Check_c8_d n) (super_Check_c10_d n)
noncomputable def super_Check_c12_d (n : Nat) : Sm (Val × Heap) := smCond (.t 10) smSkip (super_Check_c11_d n)
noncomputable def super_Check_c13_d (n : Nat) : Sm (Val × Heap) := smSeq [1, 10] (super_Check_c7_d n) (super_Check_c12_d n)
noncomputable def super_Check_c14_d (n : Nat) : Sm (Val × Heap) := smOps E_super_Check [{ dst := some 2, op := .mv (.v (.c (.i .i64 1))) }]
noncomputable def super_Check_c15_d (n : Nat) : Sm (Val × Heap) := smSeq [2] (super_Check_c14_d n) smRet
noncomputable def super_Check_c16_d (n : Nat) : Sm (Val × Heap) := smOps E_super_Check [{ dst := some 22, op := .fAddr (.t 1) 1 }, { dst := some 23, op := .load1 (.t 22) }, { dst := some 24, op := .bin .quo (.t 23) (.v (.c (.i .i64 8))) }, { dst := some 25, op := .bin .add (.v (.c (.i .i64 2))) (.t 24) }, { dst := some 26, op := .fAddr (.t 1) 0 }, { dst := some 27, op := .load1 (.t 26) }, { dst := some 28, op := .bin .geq (.t 25) (.t 27) }, { dst := some 21, op := .mv (.t 28) }]
noncomputable def super_Check_c17_d (n : Nat) : Sm (Val × Heap) := smOps E_super_Check [{ dst := some 2, op := .mv (.v (.c (.i .i64 1))) }]
noncomputable def super_Check_c18_d (n : Nat) : Sm (Val × Heap) := smSeq [2] (super_Check_c17_d n) smRet
noncomputable def super_Check_c19_d (n : Nat) : Sm (Val × Heap) := smCond (.t 21) (super_Check_c18_d n) smSkip
noncomputable def super_Check_c20_d (n : Nat) : Sm (Val × Heap) := smSeq [21] (super_Check_c16_d n) (super_Check_c19_d n)
noncomputable def super_Check_c21_d (n : Nat) : Sm (Val × Heap) := smCond (.t 10) (super_Check_c15_d n) (super_Check_c20_d n)
noncomputable def super_Check_c22_d (n : Nat) : Sm (Val × Heap) := smSeq [1, 10] (super_Check_c13_d n) (super_Check_c21_d n)
noncomputable def super_Check_c23_d (n : Nat) : Sm (Val × Heap) := smCond (.t 3) (super_Check_c6_d n) (super_Check_c22_d n)
noncomputable def super_Check_c24_d (n : Nat) : Sm (Val × Heap) := smSeq [1, 3] (super_Check_c4_d n) (super_Check_c23_d n)
noncomputable def super_Check_c25_d (n : Nat) : Sm (Val × Heap) := smBlock 0 (super_Check_c24_d n)
noncomputable def super_Check_c26_d (n : Nat) : Sm (Val × Heap) := smOps E_super_Check [{ dst := some 2, op := .mv (.v (.c (.i .i64 0))) }]
noncomputable def super_Check_c27_d (n : Nat) : Sm (Val × Heap) := smSeq [2] (super_Check_c26_d n) smRet
noncomputable def super_Check_c28_d (n : Nat) : Sm (Val × Heap) := smSeq [] (super_Check_c25_d n) (super_Check_c27_d n)
noncomputable def super_Check_c29_d (n : Nat) : Sm (Val × Heap) := smSeq [1] (super_Check_c0_d n) (super_Check_c28_d n)
noncomputable def super_Check_k0 (n : Nat) : AExit → Env → Heap → Option (Val × Heap) := fun x e h => match x with | .normal => hold ((super_Check_c27_d n) A_super_Check.fin (e.keep []) h) | .exit id => A_super_Check.fin (.exit id) e h | .ret => A_super_Check.fin .ret e h
noncomputable def super_Check_k1 (n : Nat) : AExit → Env → Heap → Option (Val × Heap) := fun x e h => match x with | .exit i => bif Nat.beq i 0 then (super_Check_k0 n) .normal e h else (super_Check_k0 n) (.exit i) e h | .normal => (super_Check_k0 n) .normal e h | .ret => (super_Check_k0 n) .ret e h
noncomputable def super_Check_j0 (n : Nat) (x1 x3 : Val) (h : Heap) : Option (Val × Heap) := hold ((super_Check_c23_d n) (super_Check_k1 n) [(1, x1), (3, x3)] h)
noncomputable def R_super_Check (n : Nat) (args : List Val) (h : Heap) : Option (Val × Heap) := (super_Check_c29_d n) A_super_Check.fin (params 0 args) h
noncomputable def super_Check_j1 (n : Nat) (x1 x10 : Val) (h : Heap) : Option (Val × Heap) := hold ((super_Check_c21_d n) (super_Check_k1 n) [(1, x1), (10, x10)] h)
theorem R_super_Check_run (n : Nat) (args : List Val) (h : Heap) : A_super_Check.run E_super_Check n args h = R_super_Check n args h := by kernel_rfl
theorem R_super_Check_eq (n : Nat) (a0 : Val) (h : Heap) : R_super_Check n [a0] h = bnd (cells? a0) fun c1 => bnd (afAddr ((.c (.p h.length 0))) 0) fun v2 => bnd (aload1 ((h ++ [some (Row.mk (c1) true)])) v2) fun v3 => bnd (abin .lss v3 (.c (.i .i64 16))) fun v4 => cnd v4 (super_Check_j0 n ((.c (.p h.length 0))) v4 ((h ++ [some (Row.mk (c1) true)]))) (bnd (afAddr ((.c (.p h.length 0))) 0) fun v5 => bnd (aload1 ((h ++ [some (Row.mk (c1) true)])) v5) fun v6 => bnd (abin .gtr v6 (.c (.i .i64 512))) fun v7 => super_Check_j0 n ((.c (.p h.length 0))) v7 ((h ++ [some (Row.mk (c1) true)]))) := by kernel_rfl
theorem super_Check_j0_eq (n : Nat) (x1 x3 : Val) (h : Heap) : super_Check_j0 n x1 x3 h = cnd x3 (some ((.c (.i .i64 1)), h)) (bnd (afAddr x1 1) fun v8 => bnd (aload1 h v8) fun v9 => bnd (abin .lss v9 (.c (.i .i64 8))) fun v10 => cnd v10 (super_Check_j1 n x1 v10 h) (bnd (afAddr x1 1) fun v11 => bnd (aload1 h v11) fun v12 => bnd (abin .gtr v12 (.c (.i .i64 128))) fun v13 => cnd v13 (super_Check_j1 n x1 v13 h) (bnd (afAddr x1 1) fun v14 => bnd (aload1 h v14) fun v15 => bnd (abin .rem v15 (.c (.i .i64 8))) fun v16 => bnd (abin .neq v16 (.c (.i .i64 0))) fun v17 => super_Check_j1 n x1 v17 h))) := by kernel_rfl
theorem super_Check_j1_eq (n : Nat) (x1 x10 : Val) (h : Heap) : super_Check_j1 n x1 x10 h = cnd x10 (some ((.c (.i .i64 1)), h)) (bnd (afAddr x1 1) fun v18 => bnd (aload1 h v18) fun v19 => bnd (abin .quo v19 (.c (.i .i64 8))) fun v20 => bnd (abin .add (.c (.i .i64 2)) v20) fun v21 => bnd (afAddr x1 0) fun v22 => bnd (aload1 h v22) fun v23 => bnd (abin .geq v21 v23) fun v24 => cnd v24 (some ((.c (.i .i64 1)), h)) (some ((.c (.i .i64 0)), h))) := by kernel_rfl
theorem chk_super_Check : chkFn Try.prog Try.f121 A_super_Check = true := by kernel_rfl
theorem E_super_Check_sound : Sound Try.prog E_super_Check := by
  intro f args h v h2 he
  unfold E_super_Check at he
  cases he

theorem R_super_Check_ok {n : Nat} {args : List Val} {h h2 : Heap} {v : Val} (he : R_super_Check n args h = some (v, h2)) : Callable Try.prog 121 ∧ CallOk Try.prog 121 args h v h2 ∧ h.length ≤ h2.length := fn_ok E_super_Check_sound Try.func121 chk_super_Check ((R_super_Check_run ..).trans he)
theorem L_super_Check_ok (args : List Val) (h : Heap) (v : Val) (h2 : Heap) (he : Lim A_super_Check E_super_Check args h = some (v, h2)) : Callable Try.prog 121 ∧ CallOk Try.prog 121 args h v h2 ∧ h.length ≤ h2.length := (Lim_run he).elim fun _ e => R_super_Check_ok ((R_super_Check_run ..).symm.trans e)
theorem L_super_Check_of {n : Nat} {args : List Val} {h : Heap} {p : Val × Heap} (he : R_super_Check n args h = some p) : Lim A_super_Check E_super_Check args h = some p := Lim_of ((R_super_Check_run ..).trans he)
noncomputable def S_super_Check : List Val → Heap → Option (Val × Heap) := tidy (Lim A_super_Check E_super_Check)
theorem S_super_Check_ok (args : List Val) (h : Heap) (v : Val) (h2 : Heap) (he : S_super_Check args h = some (v, h2)) : Callable Try.prog 121 ∧ CallOk Try.prog 121 args h v h2 ∧ h.length ≤ h2.length := tidy_ok L_super_Check_ok args h v h2 he
theorem S_super_Check_flat {n : Nat} {args : List Val} {h h2 : Heap} {v : Val} (he : R_super_Check n args (ro h) = some (v, h2)) (hf : v.flat = true) : S_super_Check args h = some (v, h) := tidy_flat (L_super_Check_of he) hf
theorem S_super_Check_low {n : Nat} {args : List Val} {h h2 : Heap} {v : Val} (he : R_super_Check n args (ro h) = some (v, h2)) (hf : v.low h.length = true) : S_super_Check args h = some (v, h) := tidy_low (L_super_Check_of he) hf
theorem S_super_Check_out {n : Nat} {args : List Val} {h h2 : Heap} {v : Val} {sz k : Nat} {cs : List Cell} (he : R_super_Check n args (ro h) = some (v, h2)) (ho : Out h.length h2 v sz k cs) (hf : flats cs = true) : S_super_Check args h = some (.c (.sl h.length 0 k sz), h ++ [some ⟨cs, true⟩]) := tidy_out (L_super_Check_of he) ho hf
theorem S_super_Check_tidy {n : Nat} {args : List Val} {h h2 : Heap} {v v2 : Val} {ids : List Nat} (he : R_super_Check n args (ro h) = some (v, h2)) (hc : canonV h2 h.length v = some (v2, ids)) : S_super_Check args h = some (v2, h ++ ids.map (rd h2)) := tidy_of (L_super_Check_of he) hc
def super_Put_c0 : ACode := .ops [{ dst := some 1, op := .box (.t 0) }, { dst := some 2, op := .alloc (List.replicate 256 (.i .u8 0)) }, { dst := some 3, op := .mv (.v (.c (.i .i64 0))) }]
def super_Put_c1 : ACode := .ops [{ dst := some 9, op := .loadN 3 (.t 1) }, { dst := some 10, op := .call 121 [(.t 9)] }, { dst := some 4, op := .mv (.t 10) }]
def super_Put_c2 : ACode := .ops [{ dst := some 11, op := .mv (.t 4) }, { dst := some 12, op := .bin .neq (.t 11) (.v (.c (.i .i64 0))) }]
def super_Put_c3 : ACode := .ops [{ dst := some 13, op := .build (List.replicate 256 (.i .u8 0)) [] }, { dst := some 14, op := .mv (.t 4) }, { dst := none, op := .storeN 256 (.t 2) (.t 13) }, { dst := some 3, op := .mv (.t 14) }]
def super_Put_c4 : ACode := .seq [2, 3] super_Put_c3 .ret
def super_Put_c5 : ACode := .cond (.t 12) super_Put_c4 .skip
def super_Put_c6 : ACode := .seq [1, 2, 4, 12] super_Put_c2 super_Put_c5
def super_Put_c7 : ACode := .seq [1, 2, 4] super_Put_c1 super_Put_c6
def super_Put_c8 : ACode := .ops [{ dst := some 15, op := .buildSl 1 8 ([.i .u8 0, .i .u8 0, .i .u8 0, .i .u8 0, .i .u8 0, .i .u8 0, .i .u8 0, .i .u8 0]) [(0, 1, (.v (.c (.i .u8 101)))), (1, 1, (.v (.c (.i .u8 115)))), (2, 1, (.v (.c (.i .u8 99)))), (3, 1, (.v (.c (.i .u8 104)))), (4, 1, (.v (.c (.i .u8 101)))), (5, 1, (.v (.c (.i .u8 97)))), (6, 1, (.v (.c (.i .u8 116)))), (7, 1, (.v (.c (.i .u8 49))))] }, { dst := some 16, op := .mark (.t 15) }, { dst := some 17, op := .call 82 [(.t 16)] }, { dst := some 5, op := .alloc (List.replicate 256 (.i .u8 0)) }, { dst := none, op := .storeN 256 (.t 5) (.t 17) }]
def super_Put_c9 : ACode := .ops [{ dst := some 18, op := .loadN 256 (.t 5) }, { dst := some 19, op := .fAddr (.t 1) 0 }, { dst := some 20, op := .load1 (.t 19) }, { dst := some 21, op := .call 58 [(.t 18), (.v (.c (.i .i64 8))), (.v (.c (.i .i64 2))), (.t 20)] }, { dst := none, op := .storeN 256 (.t 5) (.t 21) }]
def super_Put_c10 : ACode := .ops [{ dst := some 22, op := .loadN 256 (.t 5) }, { dst := some 23, op := .fAddr (.t 1) 1 }, { dst := some 24, op := .load1 (.t 23) }, { dst := some 25, op := .call 58 [(.t 22), (.v (.c (.i .i64 10))), (.v (.c (.i .i64 2))), (.t 24)] }, { dst := none, op := .storeN 256 (.t 5) (.t 25) }]
def super_Put_c11 : ACode := .draw 1 [{ dst := some 27, op := .mkSl 1 ([.i .u8 0]) (.v (.c (.i .i64 8))) (.v (.c (.i .i64 8))), slot := some 0 }, { dst := some 28, op := .fAddr (.t 1) 2 }, { dst := some 29, op := .load1 (.t 28) }, { dst := some 30, op := .call 63 [(.t 27), (.v (.c (.i .i64 0))), (.v (.c (.i .i64 8))), (.t 29)] }, { dst := some 26, op := .mv (.t 30) }, { dst := some 31, op := .ext (.t 26) 0 }, { dst := some 32, op := .ext (.t 26) 1 }, { dst := some 6, op := .mv (.t 31) }] [{ dst := some 7, op := .mv (.t 32) }]
def super_Put_c12 : ACode := .ops [{ dst := some 33, op := .loadN 256 (.t 5) }, { dst := some 34, op := .mv (.t 6) }, { dst := some 35, op := .call 65 [(.t 33), (.v (.c (.i .i64 12))), (.t 34)] }, { dst := none, op := .storeN 256 (.t 5) (.t 35) }]
def super_Put_c13 : ACode := .ops [{ dst := some 36, op := .loadN 256 (.t 5) }, { dst := some 37, op := .call 66 [(.t 36), (.v (.c (.i .i64 0))), (.v (.c (.i .i64 20)))] }, { dst := some 38, op := .b2s (.t 37) }, { dst := some 39, op := .call 186 [(.t 38)] }, { dst := some 8, op := .mv (.t 39) }]
def super_Put_c14 : ACode := .ops [{ dst := some 40, op := .loadN 256 (.t 5) }, { dst := some 41, op := .mv (.t 8) }, { dst := some 42, op := .conv .i64 (.t 41) }, { dst := some 43, op := .call 58 [(.t 40), (.v (.c (.i .i64 20))), (.v (.c (.i .i64 4))), (.t 42)] }, { dst := none, op := .storeN 256 (.t 2) (.t 43) }, { dst := some 3, op := .mv (.v (.c (.i .i64 0))) }]
def super_Put_c15 : ACode := .seq [2, 3] super_Put_c14 .ret
def super_Put_c16 : ACode := .seq [2, 5, 8] super_Put_c13 super_Put_c15
def super_Put_c17 : ACode := .seq [2, 5] super_Put_c12 super_Put_c16
def super_Put_c18 : ACode := .seq [2, 5, 6] super_Put_c11 super_Put_c17
def super_Put_c19 : ACode := .seq [1, 2, 5] super_Put_c10 super_Put_c18
def super_Put_c20 : ACode := .seq [1, 2, 5] super_Put_c9 super_Put_c19
def super_Put_c21 : ACode := .seq [1, 2, 5] super_Put_c8 super_Put_c20
def super_Put_c22 : ACode := .seq [1, 2] super_Put_c7 super_Put_c21
def super_Put_c23 : ACode := .seq [1, 2] super_Put_c0 super_Put_c22
def A_super_Put : AFn := ⟨super_Put_c23, [.cellN 2 256, .tmp 3]⟩
noncomputable def E_super_Put : Sums := fun f args h => bif Nat.beq f 121 then S_super_Check args h else bif Nat.beq f 82 then S_num_Of args h else bif Nat.beq f 58 then S_num_With args h else bif Nat.beq f 63 then S_num_Put args h else bif Nat.beq f 65 then S_num_Lay args h else bif Nat.beq f 66 then S_num_Cut args h else bif Nat.beq f 186 then S_mix_Of args h else none
noncomputable def super_Put_c0_d (n : Nat) : Sm (Val × Heap) := smOps E_super_Put [{ dst := some 1, op := .box (.t 0) }, { dst := some 2, op := .alloc (List.replicate 256 (.i .u8 0)) }, { dst := some 3, op := .mv (.v (.c (.i .i64 0))) }]
noncomputable def super_Put_c1_d (n : Nat) : Sm (Val × Heap) := smOps E_super_Put [{ dst := some 9, op := .loadN 3 (.t 1) }, { dst := some 10, op := .call 121 [(.t 9)] }, { dst := some 4, op := .mv (.t 10) }]
noncomputable def super_Put_c2_d (n : Nat) : Sm (Val × Heap) := smOps E_super_Put [{ dst := some 11, op := .mv (.t 4) }, { dst := some 12, op := .bin .neq (.t 11) (.v (.c (.i .i64 0))) }]
noncomputable def super_Put_c3_d (n : Nat) : Sm (Val × Heap) := smOps E_super_Put [{ dst := some 13, op := .build (List.replicate 256 (.i .u8 0)) [] }, { dst := some 14, op := .mv (.t 4) }, { dst := none, op := .storeN 256 (.t 2) (.t 13) }, { dst := some 3, op := .mv (.t 14) }]
noncomputable def super_Put_c4_d (n : Nat) : Sm (Val × Heap) := smSeq [2, 3] (super_Put_c3_d n) smRet
noncomputable def super_Put_c5_d (n : Nat) : Sm (Val × Heap) := smCond (.t 12) (super_Put_c4_d n) smSkip
noncomputable def super_Put_c6_d (n : Nat) : Sm (Val × Heap) := smSeq [1, 2, 4, 12] (super_Put_c2_d n) (super_Put_c5_d n)
noncomputable def super_Put_c7_d (n : Nat) : Sm (Val × Heap) := smSeq [1, 2, 4] (super_Put_c1_d n) (super_Put_c6_d n)
noncomputable def super_Put_c8_d (n : Nat) : Sm (Val × Heap) := smOps E_super_Put [{ dst := some 15, op := .buildSl 1 8 ([.i .u8 0, .i .u8 0, .i .u8 0, .i .u8 0, .i .u8 0, .i .u8 0, .i .u8 0, .i .u8 0]) [(0, 1, (.v (.c (.i .u8 101)))), (1, 1, (.v (.c (.i .u8 115)))), (2, 1, (.v (.c (.i .u8 99)))), (3, 1, (.v (.c (.i .u8 104)))), (4, 1, (.v (.c (.i .u8 101)))), (5, 1, (.v (.c (.i .u8 97)))), (6, 1, (.v (.c (.i .u8 116)))), (7, 1, (.v (.c (.i .u8 49))))] }, { dst := some 16, op := .mark (.t 15) }, { dst := some 17, op := .call 82 [(.t 16)] }, { dst := some 5, op := .alloc (List.replicate 256 (.i .u8 0)) }, { dst := none, op := .storeN 256 (.t 5) (.t 17) }]
noncomputable def super_Put_c9_d (n : Nat) : Sm (Val × Heap) := smOps E_super_Put [{ dst := some 18, op := .loadN 256 (.t 5) }, { dst := some 19, op := .fAddr (.t 1) 0 }, { dst := some 20, op := .load1 (.t 19) }, { dst := some 21, op := .call 58 [(.t 18), (.v (.c (.i .i64 8))), (.v (.c (.i .i64 2))), (.t 20)] }, { dst := none, op := .storeN 256 (.t 5) (.t 21) }]
noncomputable def super_Put_c10_d (n : Nat) : Sm (Val × Heap) := smOps E_super_Put [{ dst := some 22, op := .loadN 256 (.t 5) }, { dst := some 23, op := .fAddr (.t 1) 1 }, { dst := some 24, op := .load1 (.t 23) }, { dst := some 25, op := .call 58 [(.t 22), (.v (.c (.i .i64 10))), (.v (.c (.i .i64 2))), (.t 24)] }, { dst := none, op := .storeN 256 (.t 5) (.t 25) }]
noncomputable def super_Put_c11_d (n : Nat) : Sm (Val × Heap) := smDraw E_super_Put 1 [{ dst := some 27, op := .mkSl 1 ([.i .u8 0]) (.v (.c (.i .i64 8))) (.v (.c (.i .i64 8))), slot := some 0 }, { dst := some 28, op := .fAddr (.t 1) 2 }, { dst := some 29, op := .load1 (.t 28) }, { dst := some 30, op := .call 63 [(.t 27), (.v (.c (.i .i64 0))), (.v (.c (.i .i64 8))), (.t 29)] }, { dst := some 26, op := .mv (.t 30) }, { dst := some 31, op := .ext (.t 26) 0 }, { dst := some 32, op := .ext (.t 26) 1 }, { dst := some 6, op := .mv (.t 31) }] [{ dst := some 7, op := .mv (.t 32) }]
noncomputable def super_Put_c12_d (n : Nat) : Sm (Val × Heap) := smOps E_super_Put [{ dst := some 33, op := .loadN 256 (.t 5) }, { dst := some 34, op := .mv (.t 6) }, { dst := some 35, op := .call 65 [(.t 33), (.v (.c (.i .i64 12))), (.t 34)] }, { dst := none, op := .storeN 256 (.t 5) (.t 35) }]
noncomputable def super_Put_c13_d (n : Nat) : Sm (Val × Heap) := smOps E_super_Put [{ dst := some 36, op := .loadN 256 (.t 5) }, { dst := some 37, op := .call 66 [(.t 36), (.v (.c (.i .i64 0))), (.v (.c (.i .i64 20)))] }, { dst := some 38, op := .b2s (.t 37) }, { dst := some 39, op := .call 186 [(.t 38)] }, { dst := some 8, op := .mv (.t 39) }]
noncomputable def super_Put_c14_d (n : Nat) : Sm (Val × Heap) := smOps E_super_Put [{ dst := some 40, op := .loadN 256 (.t 5) }, { dst := some 41, op := .mv (.t 8) }, { dst := some 42, op := .conv .i64 (.t 41) }, { dst := some 43, op := .call 58 [(.t 40), (.v (.c (.i .i64 20))), (.v (.c (.i .i64 4))), (.t 42)] }, { dst := none, op := .storeN 256 (.t 2) (.t 43) }, { dst := some 3, op := .mv (.v (.c (.i .i64 0))) }]
noncomputable def super_Put_c15_d (n : Nat) : Sm (Val × Heap) := smSeq [2, 3] (super_Put_c14_d n) smRet
noncomputable def super_Put_c16_d (n : Nat) : Sm (Val × Heap) := smSeq [2, 5, 8] (super_Put_c13_d n) (super_Put_c15_d n)
noncomputable def super_Put_c17_d (n : Nat) : Sm (Val × Heap) := smSeq [2, 5] (super_Put_c12_d n) (super_Put_c16_d n)
noncomputable def super_Put_c18_d (n : Nat) : Sm (Val × Heap) := smSeq [2, 5, 6] (super_Put_c11_d n) (super_Put_c17_d n)
noncomputable def super_Put_c19_d (n : Nat) : Sm (Val × Heap) := smSeq [1, 2, 5] (super_Put_c10_d n) (super_Put_c18_d n)
noncomputable def super_Put_c20_d (n : Nat) : Sm (Val × Heap) := smSeq [1, 2, 5] (super_Put_c9_d n) (super_Put_c19_d n)
noncomputable def super_Put_c21_d (n : Nat) : Sm (Val × Heap) := smSeq [1, 2, 5] (super_Put_c8_d n) (super_Put_c20_d n)
noncomputable def super_Put_c22_d (n : Nat) : Sm (Val × Heap) := smSeq [1, 2] (super_Put_c7_d n) (super_Put_c21_d n)
noncomputable def super_Put_c23_d (n : Nat) : Sm (Val × Heap) := smSeq [1, 2] (super_Put_c0_d n) (super_Put_c22_d n)
noncomputable def R_super_Put (n : Nat) (args : List Val) (h : Heap) : Option (Val × Heap) := (super_Put_c23_d n) A_super_Put.fin (params 0 args) h
theorem R_super_Put_run (n : Nat) (args : List Val) (h : Heap) : A_super_Put.run E_super_Put n args h = R_super_Put n args h := by kernel_rfl
theorem R_super_Put_eq (n : Nat) (a0 : Val) (h : Heap) : R_super_Put n [a0] h = bnd (cells? a0) fun c1 => bnd (aloadN (((h ++ [some (Row.mk (c1) true)]) ++ [some (Row.mk (List.replicate 256 (.i .u8 0)) true)])) 3 ((.c (.p h.length 0)))) fun v2 => bnd (S_super_Check [v2] (((h ++ [some (Row.mk (c1) true)]) ++ [some (Row.mk (List.replicate 256 (.i .u8 0)) true)]))) fun p3 => bnd (abin .neq p3.1 (.c (.i .i64 0))) fun v4 => cnd v4 (bnd (afill (List.replicate 256 (.i .u8 0)) []) fun c5 => bnd (astoreN p3.2 256 ((.c (.p ((h ++ [some (Row.mk (c1) true)])).length 0))) ((.a c5))) fun h6 => tupN [aloadN h6 256 ((.c (.p ((h ++ [some (Row.mk (c1) true)])).length 0))), some p3.1] h6) (bnd (afill ([.i .u8 0, .i .u8 0, .i .u8 0, .i .u8 0, .i .u8 0, .i .u8 0, .i .u8 0, .i .u8 0]) [(0, 1, .c (.i .u8 101)), (1, 1, .c (.i .u8 115)), (2, 1, .c (.i .u8 99)), (3, 1, .c (.i .u8 104)), (4, 1, .c (.i .u8 101)), (5, 1, .c (.i .u8 97)), (6, 1, .c (.i .u8 116)), (7, 1, .c (.i .u8 49))]) fun c7 => bnd (amark ((p3.2 ++ [some (Row.mk (c7) true)])) ((.c (.sl p3.2.length 0 8 1)))) fun v8 => bnd (S_num_Of [v8] ((p3.2 ++ [some (Row.mk (c7) true)]))) fun p9 => bnd (astoreN ((p9.2 ++ [some (Row.mk (List.replicate 256 (.i .u8 0)) true)])) 256 ((.c (.p p9.2.length 0))) p9.1) fun h10 => bnd (aloadN h10 256 ((.c (.p p9.2.length 0)))) fun v11 => bnd (afAddr ((.c (.p h.length 0))) 0) fun v12 => bnd (aload1 h10 v12) fun v13 => bnd (S_num_With [v11, .c (.i .i64 8), .c (.i .i64 2), v13] h10) fun p14 => bnd (astoreN p14.2 256 ((.c (.p p9.2.length 0))) p14.1) fun h15 => bnd (aloadN h15 256 ((.c (.p p9.2.length 0)))) fun v16 => bnd (afAddr ((.c (.p h.length 0))) 1) fun v17 => bnd (aload1 h15 v17) fun v18 => bnd (S_num_With [v16, .c (.i .i64 10), .c (.i .i64 2), v18] h15) fun p19 => bnd (astoreN p19.2 256 ((.c (.p p9.2.length 0))) p19.1) fun h20 => bnd (amkn (.c (.i .i64 8)) (.c (.i .i64 8))) fun n21 => bnd (afAddr ((.c (.p h.length 0))) 2) fun v22 => bnd (aload1 h20 v22) fun v23 => bnd (quiet ((((h20 ++ [none])).set (h20.length + 0) (some (Row.mk (rows ([.i .u8 0]) n21) true)))) (S_num_Put [(.c (.sl (h20.length + 0) 0 n21 1)), .c (.i .i64 0), .c (.i .i64 8), v23] ((((h20 ++ [none])).set (h20.length + 0) (some (Row.mk (rows ([.i .u8 0]) n21) true)))))) fun p24 => bnd (aext p24.1 0) fun v25 => bnd (aext p24.1 1) fun v26 => bnd (aloadN p24.2 256 ((.c (.p p9.2.length 0)))) fun v27 => bnd (S_num_Lay [v27, .c (.i .i64 12), v25] p24.2) fun p28 => bnd (astoreN p28.2 256 ((.c (.p p9.2.length 0))) p28.1) fun h29 => bnd (aloadN h29 256 ((.c (.p p9.2.length 0)))) fun v30 => bnd (S_num_Cut [v30, .c (.i .i64 0), .c (.i .i64 20)] h29) fun p31 => bnd (ab2s p31.2 p31.1) fun v32 => bnd (S_mix_Of [v32] p31.2) fun p33 => bnd (aloadN p33.2 256 ((.c (.p p9.2.length 0)))) fun v34 => bnd (aconv .i64 p33.1) fun v35 => bnd (S_num_With [v34, .c (.i .i64 20), .c (.i .i64 4), v35] p33.2) fun p36 => bnd (astoreN p36.2 256 ((.c (.p ((h ++ [some (Row.mk (c1) true)])).length 0))) p36.1) fun h37 => tupN [aloadN h37 256 ((.c (.p ((h ++ [some (Row.mk (c1) true)])).length 0))), some (.c (.i .i64 0))] h37) := by kernel_rfl
theorem chk_super_Put : chkFn Try.prog Try.f120 A_super_Put = true := by kernel_rfl
theorem E_super_Put_sound : Sound Try.prog E_super_Put := by
  intro f args h v h2 he
  unfold E_super_Put at he
  cases hb0 : Nat.beq f 121 with
  | true => rw [hb0] at he; have e := Nat.eq_of_beq_eq_true hb0; subst e; exact S_super_Check_ok args h v h2 he
  | false =>
    rw [hb0] at he; simp only [cond_false] at he
    cases hb1 : Nat.beq f 82 with
    | true => rw [hb1] at he; have e := Nat.eq_of_beq_eq_true hb1; subst e; exact S_num_Of_ok args h v h2 he
    | false =>
      rw [hb1] at he; simp only [cond_false] at he
      cases hb2 : Nat.beq f 58 with
      | true => rw [hb2] at he; have e := Nat.eq_of_beq_eq_true hb2; subst e; exact S_num_With_ok args h v h2 he
      | false =>
        rw [hb2] at he; simp only [cond_false] at he
        cases hb3 : Nat.beq f 63 with
        | true => rw [hb3] at he; have e := Nat.eq_of_beq_eq_true hb3; subst e; exact S_num_Put_ok args h v h2 he
        | false =>
          rw [hb3] at he; simp only [cond_false] at he
          cases hb4 : Nat.beq f 65 with
          | true => rw [hb4] at he; have e := Nat.eq_of_beq_eq_true hb4; subst e; exact S_num_Lay_ok args h v h2 he
          | false =>
            rw [hb4] at he; simp only [cond_false] at he
            cases hb5 : Nat.beq f 66 with
            | true => rw [hb5] at he; have e := Nat.eq_of_beq_eq_true hb5; subst e; exact S_num_Cut_ok args h v h2 he
            | false =>
              rw [hb5] at he; simp only [cond_false] at he
              cases hb6 : Nat.beq f 186 with
              | true => rw [hb6] at he; have e := Nat.eq_of_beq_eq_true hb6; subst e; exact S_mix_Of_ok args h v h2 he
              | false =>
                rw [hb6] at he; simp only [cond_false] at he
                cases he

theorem R_super_Put_ok {n : Nat} {args : List Val} {h h2 : Heap} {v : Val} (he : R_super_Put n args h = some (v, h2)) : Callable Try.prog 120 ∧ CallOk Try.prog 120 args h v h2 ∧ h.length ≤ h2.length := fn_ok E_super_Put_sound Try.func120 chk_super_Put ((R_super_Put_run ..).trans he)
theorem L_super_Put_ok (args : List Val) (h : Heap) (v : Val) (h2 : Heap) (he : Lim A_super_Put E_super_Put args h = some (v, h2)) : Callable Try.prog 120 ∧ CallOk Try.prog 120 args h v h2 ∧ h.length ≤ h2.length := (Lim_run he).elim fun _ e => R_super_Put_ok ((R_super_Put_run ..).symm.trans e)
theorem L_super_Put_of {n : Nat} {args : List Val} {h : Heap} {p : Val × Heap} (he : R_super_Put n args h = some p) : Lim A_super_Put E_super_Put args h = some p := Lim_of ((R_super_Put_run ..).trans he)
noncomputable def S_super_Put : List Val → Heap → Option (Val × Heap) := tidy (Lim A_super_Put E_super_Put)
theorem S_super_Put_ok (args : List Val) (h : Heap) (v : Val) (h2 : Heap) (he : S_super_Put args h = some (v, h2)) : Callable Try.prog 120 ∧ CallOk Try.prog 120 args h v h2 ∧ h.length ≤ h2.length := tidy_ok L_super_Put_ok args h v h2 he
theorem S_super_Put_flat {n : Nat} {args : List Val} {h h2 : Heap} {v : Val} (he : R_super_Put n args (ro h) = some (v, h2)) (hf : v.flat = true) : S_super_Put args h = some (v, h) := tidy_flat (L_super_Put_of he) hf
theorem S_super_Put_low {n : Nat} {args : List Val} {h h2 : Heap} {v : Val} (he : R_super_Put n args (ro h) = some (v, h2)) (hf : v.low h.length = true) : S_super_Put args h = some (v, h) := tidy_low (L_super_Put_of he) hf
theorem S_super_Put_out {n : Nat} {args : List Val} {h h2 : Heap} {v : Val} {sz k : Nat} {cs : List Cell} (he : R_super_Put n args (ro h) = some (v, h2)) (ho : Out h.length h2 v sz k cs) (hf : flats cs = true) : S_super_Put args h = some (.c (.sl h.length 0 k sz), h ++ [some ⟨cs, true⟩]) := tidy_out (L_super_Put_of he) ho hf
theorem S_super_Put_tidy {n : Nat} {args : List Val} {h h2 : Heap} {v v2 : Val} {ids : List Nat} (he : R_super_Put n args (ro h) = some (v, h2)) (hc : canonV h2 h.length v = some (v2, ids)) : S_super_Put args h = some (v2, h ++ ids.map (rd h2)) := tidy_of (L_super_Put_of he) hc
def super_Get_c0 : ACode := .ops [{ dst := some 1, op := .box (.t 0) }, { dst := some 2, op := .alloc ([.i .i64 0, .i .i64 0, .i .u64 0]) }, { dst := some 3, op := .mv (.v (.c (.i .i64 0))) }]
def super_Get_c1 : ACode := .ops [{ dst := some 10, op := .loadN 256 (.t 1) }, { dst := some 11, op := .call 66 [(.t 10), (.v (.c (.i .i64 12))), (.v (.c (.i .i64 8)))] }, { dst := some 12, op := .call 61 [(.t 11), (.v (.c (.i .i64 0))), (.v (.c (.i .i64 8)))] }, { dst := some 9, op := .mv (.t 12) }, { dst := some 13, op := .ext (.t 9) 0 }, { dst := some 14, op := .ext (.t 9) 1 }, { dst := some 4, op := .mv (.t 13) }, { dst := some 5, op := .mv (.t 14) }]
def super_Get_c2 : ACode := .draw 1 [{ dst := some 15, op := .loadN 256 (.t 1) }, { dst := some 16, op := .call 59 [(.t 15), (.v (.c (.i .i64 8))), (.v (.c (.i .i64 2)))] }, { dst := some 17, op := .loadN 256 (.t 1) }, { dst := some 18, op := .call 59 [(.t 17), (.v (.c (.i .i64 10))), (.v (.c (.i .i64 2)))] }, { dst := some 19, op := .mv (.t 4) }, { dst := some 20, op := .build ([.i .i64 0, .i .i64 0, .i .u64 0]) [(0, 1, (.t 16)), (1, 1, (.t 18)), (2, 1, (.t 19))] }, { dst := some 6, op := .alloc ([.i .i64 0, .i .i64 0, .i .u64 0]), slot := some 0 }] [{ dst := none, op := .storeN 3 (.t 6) (.t 20) }]
def super_Get_c3 : ACode := .ops [{ dst := some 22, op := .loadN 3 (.t 6) }, { dst := some 23, op := .call 120 [(.t 22)] }, { dst := some 21, op := .mv (.t 23) }, { dst := some 24, op := .ext (.t 21) 0 }, { dst := some 25, op := .ext (.t 21) 1 }, { dst := some 7, op := .alloc (List.replicate 256 (.i .u8 0)) }, { dst := none, op := .storeN 256 (.t 7) (.t 24) }, { dst := some 8, op := .mv (.t 25) }]
def super_Get_c4 : ACode := .ops [{ dst := some 26, op := .mv (.t 8) }, { dst := some 27, op := .bin .neq (.t 26) (.v (.c (.i .i64 0))) }, { dst := some 28, op := .mv (.t 27) }, { dst := some 29, op := .loadN 256 (.t 7), guard := some (28, false) }, { dst := some 30, op := .loadN 256 (.t 1), guard := some (28, false) }, { dst := some 31, op := .eqA true (List.replicate 256 (.i .u8)) (.t 29) (.t 30), guard := some (28, false) }, { dst := some 32, op := .pick (.t 28) (.v (.c (.b true))) (.t 31) }]
def super_Get_c5 : ACode := .ops [{ dst := some 33, op := .build ([.i .i64 0, .i .i64 0, .i .u64 0]) [] }, { dst := none, op := .storeN 3 (.t 2) (.t 33) }, { dst := some 3, op := .mv (.v (.c (.i .i64 13))) }]
def super_Get_c6 : ACode := .seq [2, 3] super_Get_c5 .ret
def super_Get_c7 : ACode := .cond (.t 32) super_Get_c6 .skip
def super_Get_c8 : ACode := .seq [2, 6, 32] super_Get_c4 super_Get_c7
def super_Get_c9 : ACode := .seq [1, 2, 6, 7, 8] super_Get_c3 super_Get_c8
def super_Get_c10 : ACode := .ops [{ dst := some 34, op := .loadN 3 (.t 6) }, { dst := none, op := .storeN 3 (.t 2) (.t 34) }, { dst := some 3, op := .mv (.v (.c (.i .i64 0))) }]
def super_Get_c11 : ACode := .seq [2, 3] super_Get_c10 .ret
def super_Get_c12 : ACode := .seq [2, 6] super_Get_c9 super_Get_c11
def super_Get_c13 : ACode := .seq [1, 2, 6] super_Get_c2 super_Get_c12
def super_Get_c14 : ACode := .seq [1, 2, 4] super_Get_c1 super_Get_c13
def super_Get_c15 : ACode := .seq [1, 2] super_Get_c0 super_Get_c14
def A_super_Get : AFn := ⟨super_Get_c15, [.cellN 2 3, .tmp 3]⟩
noncomputable def E_super_Get : Sums := fun f args h => bif Nat.beq f 66 then S_num_Cut args h else bif Nat.beq f 61 then S_num_Get args h else bif Nat.beq f 59 then S_num_At args h else bif Nat.beq f 120 then S_super_Put args h else none
noncomputable def super_Get_c0_d (n : Nat) : Sm (Val × Heap) := smOps E_super_Get [{ dst := some 1, op := .box (.t 0) }, { dst := some 2, op := .alloc ([.i .i64 0, .i .i64 0, .i .u64 0]) }, { dst := some 3, op := .mv (.v (.c (.i .i64 0))) }]
noncomputable def super_Get_c1_d (n : Nat) : Sm (Val × Heap) := smOps E_super_Get [{ dst := some 10, op := .loadN 256 (.t 1) }, { dst := some 11, op := .call 66 [(.t 10), (.v (.c (.i .i64 12))), (.v (.c (.i .i64 8)))] }, { dst := some 12, op := .call 61 [(.t 11), (.v (.c (.i .i64 0))), (.v (.c (.i .i64 8)))] }, { dst := some 9, op := .mv (.t 12) }, { dst := some 13, op := .ext (.t 9) 0 }, { dst := some 14, op := .ext (.t 9) 1 }, { dst := some 4, op := .mv (.t 13) }, { dst := some 5, op := .mv (.t 14) }]
noncomputable def super_Get_c2_d (n : Nat) : Sm (Val × Heap) := smDraw E_super_Get 1 [{ dst := some 15, op := .loadN 256 (.t 1) }, { dst := some 16, op := .call 59 [(.t 15), (.v (.c (.i .i64 8))), (.v (.c (.i .i64 2)))] }, { dst := some 17, op := .loadN 256 (.t 1) }, { dst := some 18, op := .call 59 [(.t 17), (.v (.c (.i .i64 10))), (.v (.c (.i .i64 2)))] }, { dst := some 19, op := .mv (.t 4) }, { dst := some 20, op := .build ([.i .i64 0, .i .i64 0, .i .u64 0]) [(0, 1, (.t 16)), (1, 1, (.t 18)), (2, 1, (.t 19))] }, { dst := some 6, op := .alloc ([.i .i64 0, .i .i64 0, .i .u64 0]), slot := some 0 }] [{ dst := none, op := .storeN 3 (.t 6) (.t 20) }]
noncomputable def super_Get_c3_d (n : Nat) : Sm (Val × Heap) := smOps E_super_Get [{ dst := some 22, op := .loadN 3 (.t 6) }, { dst := some 23, op := .call 120 [(.t 22)] }, { dst := some 21, op := .mv (.t 23) }, { dst := some 24, op := .ext (.t 21) 0 }, { dst := some 25, op := .ext (.t 21) 1 }, { dst := some 7, op := .alloc (List.replicate 256 (.i .u8 0)) }, { dst := none, op := .storeN 256 (.t 7) (.t 24) }, { dst := some 8, op := .mv (.t 25) }]
noncomputable def super_Get_c4_d (n : Nat) : Sm (Val × Heap) := smOps E_super_Get [{ dst := some 26, op := .mv (.t 8) }, { dst := some 27, op := .bin .neq (.t 26) (.v (.c (.i .i64 0))) }, { dst := some 28, op := .mv (.t 27) }, { dst := some 29, op := .loadN 256 (.t 7), guard := some (28, false) }, { dst := some 30, op := .loadN 256 (.t 1), guard := some (28, false) }, { dst := some 31, op := .eqA true (List.replicate 256 (.i .u8)) (.t 29) (.t 30), guard := some (28, false) }, { dst := some 32, op := .pick (.t 28) (.v (.c (.b true))) (.t 31) }]
noncomputable def super_Get_c5_d (n : Nat) : Sm (Val × Heap) := smOps E_super_Get [{ dst := some 33, op := .build ([.i .i64 0, .i .i64 0, .i .u64 0]) [] }, { dst := none, op := .storeN 3 (.t 2) (.t 33) }, { dst := some 3, op := .mv (.v (.c (.i .i64 13))) }]
noncomputable def super_Get_c6_d (n : Nat) : Sm (Val × Heap) := smSeq [2, 3] (super_Get_c5_d n) smRet
noncomputable def super_Get_c7_d (n : Nat) : Sm (Val × Heap) := smCond (.t 32) (super_Get_c6_d n) smSkip
noncomputable def super_Get_c8_d (n : Nat) : Sm (Val × Heap) := smSeq [2, 6, 32] (super_Get_c4_d n) (super_Get_c7_d n)
noncomputable def super_Get_c9_d (n : Nat) : Sm (Val × Heap) := smSeq [1, 2, 6, 7, 8] (super_Get_c3_d n) (super_Get_c8_d n)
noncomputable def super_Get_c10_d (n : Nat) : Sm (Val × Heap) := smOps E_super_Get [{ dst := some 34, op := .loadN 3 (.t 6) }, { dst := none, op := .storeN 3 (.t 2) (.t 34) }, { dst := some 3, op := .mv (.v (.c (.i .i64 0))) }]
noncomputable def super_Get_c11_d (n : Nat) : Sm (Val × Heap) := smSeq [2, 3] (super_Get_c10_d n) smRet
noncomputable def super_Get_c12_d (n : Nat) : Sm (Val × Heap) := smSeq [2, 6] (super_Get_c9_d n) (super_Get_c11_d n)
noncomputable def super_Get_c13_d (n : Nat) : Sm (Val × Heap) := smSeq [1, 2, 6] (super_Get_c2_d n) (super_Get_c12_d n)
noncomputable def super_Get_c14_d (n : Nat) : Sm (Val × Heap) := smSeq [1, 2, 4] (super_Get_c1_d n) (super_Get_c13_d n)
noncomputable def super_Get_c15_d (n : Nat) : Sm (Val × Heap) := smSeq [1, 2] (super_Get_c0_d n) (super_Get_c14_d n)
noncomputable def R_super_Get (n : Nat) (args : List Val) (h : Heap) : Option (Val × Heap) := (super_Get_c15_d n) A_super_Get.fin (params 0 args) h
theorem R_super_Get_run (n : Nat) (args : List Val) (h : Heap) : A_super_Get.run E_super_Get n args h = R_super_Get n args h := by kernel_rfl
theorem R_super_Get_eq (n : Nat) (a0 : Val) (h : Heap) : R_super_Get n [a0] h = bnd (cells? a0) fun c1 => bnd (aloadN (((h ++ [some (Row.mk (c1) true)]) ++ [some (Row.mk ([.i .i64 0, .i .i64 0, .i .u64 0]) true)])) 256 ((.c (.p h.length 0)))) fun v2 => bnd (S_num_Cut [v2, .c (.i .i64 12), .c (.i .i64 8)] (((h ++ [some (Row.mk (c1) true)]) ++ [some (Row.mk ([.i .i64 0, .i .i64 0, .i .u64 0]) true)]))) fun p3 => bnd (S_num_Get [p3.1, .c (.i .i64 0), .c (.i .i64 8)] p3.2) fun p4 => bnd (aext p4.1 0) fun v5 => bnd (aext p4.1 1) fun v6 => bnd (aloadN p4.2 256 ((.c (.p h.length 0)))) fun v7 => bnd (quiet ((p4.2 ++ [none])) (S_num_At [v7, .c (.i .i64 8), .c (.i .i64 2)] ((p4.2 ++ [none])))) fun p8 => bnd (aloadN p4.2 256 ((.c (.p h.length 0)))) fun v9 => bnd (quiet p8.2 (S_num_At [v9, .c (.i .i64 10), .c (.i .i64 2)] p8.2)) fun p10 => bnd (afill ([.i .i64 0, .i .i64 0, .i .u64 0]) [(0, 1, p8.1), (1, 1, p10.1), (2, 1, v5)]) fun c11 => bnd (astoreN ((p10.2.set (p4.2.length + 0) (some (Row.mk ([.i .i64 0, .i .i64 0, .i .u64 0]) true)))) 3 ((.c (.p (p4.2.length + 0) 0))) ((.a c11))) fun h12 => bnd (aloadN h12 3 ((.c (.p (p4.2.length + 0) 0)))) fun v13 => bnd (S_super_Put [v13] h12) fun p14 => bnd (aext p14.1 0) fun v15 => bnd (aext p14.1 1) fun v16 => bnd (astoreN ((p14.2 ++ [some (Row.mk (List.replicate 256 (.i .u8 0)) true)])) 256 ((.c (.p p14.2.length 0))) v15) fun h17 => bnd (abin .neq v16 (.c (.i .i64 0))) fun v18 => bnd (gd v18 false (bnd (aloadN h17 256 ((.c (.p p14.2.length 0)))) fun v19 => some (v19, h17)) (some (.no, h17))) fun p20 => bnd (gd v18 false (bnd (aloadN p20.2 256 ((.c (.p h.length 0)))) fun v21 => some (v21, p20.2)) (some (.no, p20.2))) fun p22 => bnd (gd v18 false (bnd (aeq true (List.replicate 256 (.i .u8)) p20.1 p22.1) fun v23 => some (v23, p22.2)) (some (.no, p22.2))) fun p24 => bnd (apick v18 (.c (.b true)) p24.1) fun v25 => cnd v25 (bnd (afill ([.i .i64 0, .i .i64 0, .i .u64 0]) []) fun c26 => bnd (astoreN p24.2 3 ((.c (.p ((h ++ [some (Row.mk (c1) true)])).length 0))) ((.a c26))) fun h27 => tupN [aloadN h27 3 ((.c (.p ((h ++ [some (Row.mk (c1) true)])).length 0))), some (.c (.i .i64 13))] h27) (bnd (aloadN p24.2 3 ((.c (.p (p4.2.length + 0) 0)))) fun v28 => bnd (astoreN p24.2 3 ((.c (.p ((h ++ [some (Row.mk (c1) true)])).length 0))) v28) fun h29 => tupN [aloadN h29 3 ((.c (.p ((h ++ [some (Row.mk (c1) true)])).length 0))), some (.c (.i .i64 0))] h29) := by kernel_rfl
theorem chk_super_Get : chkFn Try.prog Try.f117 A_super_Get = true := by kernel_rfl
theorem E_super_Get_sound : Sound Try.prog E_super_Get := by
  intro f args h v h2 he
  unfold E_super_Get at he
  cases hb0 : Nat.beq f 66 with
  | true => rw [hb0] at he; have e := Nat.eq_of_beq_eq_true hb0; subst e; exact S_num_Cut_ok args h v h2 he
  | false =>
    rw [hb0] at he; simp only [cond_false] at he
    cases hb1 : Nat.beq f 61 with
    | true => rw [hb1] at he; have e := Nat.eq_of_beq_eq_true hb1; subst e; exact S_num_Get_ok args h v h2 he
    | false =>
      rw [hb1] at he; simp only [cond_false] at he
      cases hb2 : Nat.beq f 59 with
      | true => rw [hb2] at he; have e := Nat.eq_of_beq_eq_true hb2; subst e; exact S_num_At_ok args h v h2 he
      | false =>
        rw [hb2] at he; simp only [cond_false] at he
        cases hb3 : Nat.beq f 120 with
        | true => rw [hb3] at he; have e := Nat.eq_of_beq_eq_true hb3; subst e; exact S_super_Put_ok args h v h2 he
        | false =>
          rw [hb3] at he; simp only [cond_false] at he
          cases he

theorem R_super_Get_ok {n : Nat} {args : List Val} {h h2 : Heap} {v : Val} (he : R_super_Get n args h = some (v, h2)) : Callable Try.prog 117 ∧ CallOk Try.prog 117 args h v h2 ∧ h.length ≤ h2.length := fn_ok E_super_Get_sound Try.func117 chk_super_Get ((R_super_Get_run ..).trans he)
theorem L_super_Get_ok (args : List Val) (h : Heap) (v : Val) (h2 : Heap) (he : Lim A_super_Get E_super_Get args h = some (v, h2)) : Callable Try.prog 117 ∧ CallOk Try.prog 117 args h v h2 ∧ h.length ≤ h2.length := (Lim_run he).elim fun _ e => R_super_Get_ok ((R_super_Get_run ..).symm.trans e)
theorem L_super_Get_of {n : Nat} {args : List Val} {h : Heap} {p : Val × Heap} (he : R_super_Get n args h = some p) : Lim A_super_Get E_super_Get args h = some p := Lim_of ((R_super_Get_run ..).trans he)
noncomputable def S_super_Get : List Val → Heap → Option (Val × Heap) := tidy (Lim A_super_Get E_super_Get)
theorem S_super_Get_ok (args : List Val) (h : Heap) (v : Val) (h2 : Heap) (he : S_super_Get args h = some (v, h2)) : Callable Try.prog 117 ∧ CallOk Try.prog 117 args h v h2 ∧ h.length ≤ h2.length := tidy_ok L_super_Get_ok args h v h2 he
theorem S_super_Get_flat {n : Nat} {args : List Val} {h h2 : Heap} {v : Val} (he : R_super_Get n args (ro h) = some (v, h2)) (hf : v.flat = true) : S_super_Get args h = some (v, h) := tidy_flat (L_super_Get_of he) hf
theorem S_super_Get_low {n : Nat} {args : List Val} {h h2 : Heap} {v : Val} (he : R_super_Get n args (ro h) = some (v, h2)) (hf : v.low h.length = true) : S_super_Get args h = some (v, h) := tidy_low (L_super_Get_of he) hf
theorem S_super_Get_out {n : Nat} {args : List Val} {h h2 : Heap} {v : Val} {sz k : Nat} {cs : List Cell} (he : R_super_Get n args (ro h) = some (v, h2)) (ho : Out h.length h2 v sz k cs) (hf : flats cs = true) : S_super_Get args h = some (.c (.sl h.length 0 k sz), h ++ [some ⟨cs, true⟩]) := tidy_out (L_super_Get_of he) ho hf
theorem S_super_Get_tidy {n : Nat} {args : List Val} {h h2 : Heap} {v v2 : Val} {ids : List Nat} (he : R_super_Get n args (ro h) = some (v, h2)) (hc : canonV h2 h.length v = some (v2, ids)) : S_super_Get args h = some (v2, h ++ ids.map (rd h2)) := tidy_of (L_super_Get_of he) hc
def super_Same_c0 : ACode := .ops [{ dst := some 2, op := .box (.t 0) }, { dst := some 3, op := .box (.t 1) }, { dst := some 4, op := .mv (.v (.c (.b false))) }]
def super_Same_c1 : ACode := .ops [{ dst := some 5, op := .loadN 3 (.t 2) }, { dst := some 6, op := .loadN 3 (.t 3) }, { dst := some 7, op := .eqA false ([.i .i64, .i .i64, .i .u64]) (.t 5) (.t 6) }, { dst := some 4, op := .mv (.t 7) }]
def super_Same_c2 : ACode := .seq [4] super_Same_c1 .ret
def super_Same_c3 : ACode := .seq [2, 3] super_Same_c0 super_Same_c2
def A_super_Same : AFn := ⟨super_Same_c3, [.tmp 4]⟩
noncomputable def E_super_Same : Sums := fun f args h => none
noncomputable def super_Same_c0_d (n : Nat) : Sm (Val × Heap) := smOps E_super_Same [{ dst := some 2, op := .box (.t 0) }, { dst := some 3, op := .box (.t 1) }, { dst := some 4, op := .mv (.v (.c (.b false))) }]
noncomputable def super_Same_c1_d (n : Nat) : Sm (Val × Heap) := smOps E_super_Same [{ dst := some 5, op := .loadN 3 (.t 2) }, { dst := some 6, op := .loadN 3 (.t 3) }, { dst := some 7, op := .eqA false ([.i .i64, .i .i64, .i .u64]) (.t 5) (.t 6) }, { dst := some 4, op := .mv (.t 7) }]
noncomputable def super_Same_c2_d (n : Nat) : Sm (Val × Heap) := smSeq [4] (super_Same_c1_d n) smRet
noncomputable def super_Same_c3_d (n : Nat) : Sm (Val × Heap) := smSeq [2, 3] (super_Same_c0_d n) (super_Same_c2_d n)
noncomputable def R_super_Same (n : Nat) (args : List Val) (h : Heap) : Option (Val × Heap) := (super_Same_c3_d n) A_super_Same.fin (params 0 args) h
theorem R_super_Same_run (n : Nat) (args : List Val) (h : Heap) : A_super_Same.run E_super_Same n args h = R_super_Same n args h := by kernel_rfl
theorem R_super_Same_eq (n : Nat) (a0 a1 : Val) (h : Heap) : R_super_Same n [a0, a1] h = bnd (cells? a0) fun c1 => bnd (cells? a1) fun c2 => bnd (aloadN (((h ++ [some (Row.mk (c1) true)]) ++ [some (Row.mk (c2) true)])) 3 ((.c (.p h.length 0)))) fun v3 => bnd (aloadN (((h ++ [some (Row.mk (c1) true)]) ++ [some (Row.mk (c2) true)])) 3 ((.c (.p ((h ++ [some (Row.mk (c1) true)])).length 0)))) fun v4 => bnd (aeq false ([.i .i64, .i .i64, .i .u64]) v3 v4) fun v5 => some (v5, ((h ++ [some (Row.mk (c1) true)]) ++ [some (Row.mk (c2) true)])) := by kernel_rfl
theorem chk_super_Same : chkFn Try.prog Try.f122 A_super_Same = true := by kernel_rfl
theorem E_super_Same_sound : Sound Try.prog E_super_Same := by
  intro f args h v h2 he
  unfold E_super_Same at he
  cases he

theorem R_super_Same_ok {n : Nat} {args : List Val} {h h2 : Heap} {v : Val} (he : R_super_Same n args h = some (v, h2)) : Callable Try.prog 122 ∧ CallOk Try.prog 122 args h v h2 ∧ h.length ≤ h2.length := fn_ok E_super_Same_sound Try.func122 chk_super_Same ((R_super_Same_run ..).trans he)
theorem L_super_Same_ok (args : List Val) (h : Heap) (v : Val) (h2 : Heap) (he : Lim A_super_Same E_super_Same args h = some (v, h2)) : Callable Try.prog 122 ∧ CallOk Try.prog 122 args h v h2 ∧ h.length ≤ h2.length := (Lim_run he).elim fun _ e => R_super_Same_ok ((R_super_Same_run ..).symm.trans e)
theorem L_super_Same_of {n : Nat} {args : List Val} {h : Heap} {p : Val × Heap} (he : R_super_Same n args h = some p) : Lim A_super_Same E_super_Same args h = some p := Lim_of ((R_super_Same_run ..).trans he)
noncomputable def S_super_Same : List Val → Heap → Option (Val × Heap) := tidy (Lim A_super_Same E_super_Same)
theorem S_super_Same_ok (args : List Val) (h : Heap) (v : Val) (h2 : Heap) (he : S_super_Same args h = some (v, h2)) : Callable Try.prog 122 ∧ CallOk Try.prog 122 args h v h2 ∧ h.length ≤ h2.length := tidy_ok L_super_Same_ok args h v h2 he
theorem S_super_Same_flat {n : Nat} {args : List Val} {h h2 : Heap} {v : Val} (he : R_super_Same n args (ro h) = some (v, h2)) (hf : v.flat = true) : S_super_Same args h = some (v, h) := tidy_flat (L_super_Same_of he) hf
theorem S_super_Same_low {n : Nat} {args : List Val} {h h2 : Heap} {v : Val} (he : R_super_Same n args (ro h) = some (v, h2)) (hf : v.low h.length = true) : S_super_Same args h = some (v, h) := tidy_low (L_super_Same_of he) hf
theorem S_super_Same_out {n : Nat} {args : List Val} {h h2 : Heap} {v : Val} {sz k : Nat} {cs : List Cell} (he : R_super_Same n args (ro h) = some (v, h2)) (ho : Out h.length h2 v sz k cs) (hf : flats cs = true) : S_super_Same args h = some (.c (.sl h.length 0 k sz), h ++ [some ⟨cs, true⟩]) := tidy_out (L_super_Same_of he) ho hf
theorem S_super_Same_tidy {n : Nat} {args : List Val} {h h2 : Heap} {v v2 : Val} {ids : List Nat} (he : R_super_Same n args (ro h) = some (v, h2)) (hc : canonV h2 h.length v = some (v2, ids)) : S_super_Same args h = some (v2, h ++ ids.map (rd h2)) := tidy_of (L_super_Same_of he) hc
end Go.Proofs.Ytbbkpmbepljhkaa
