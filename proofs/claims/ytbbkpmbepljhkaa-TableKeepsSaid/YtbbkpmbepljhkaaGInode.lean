/- Inode: the Go functions of this package as the abstract evaluator computes them: printed by a program, checked by Lean. -/
import Derived.Test.YtbbkpmbepljhkaaEscS
import Derived.Test.YtbbkpmbepljhkaaChecked
import Derived.KernelRfl
import Derived.Test.YtbbkpmbepljhkaaGNum
namespace Go.Proofs.Ytbbkpmbepljhkaa
open Go Go.Esc
set_option maxRecDepth 100000
set_option linter.all false
def inode_small_c0 : ACode := .ops [{ dst := some 2, op := .mv (.v (.c (.b false))) }]
def inode_small_c1 : ACode := .ops [{ dst := some 3, op := .mv (.t 0) }, { dst := some 4, op := .bin .geq (.t 3) (.v (.c (.i .i64 0))) }, { dst := some 5, op := .mv (.t 4) }, { dst := some 6, op := .mv (.t 0), guard := some (5, true) }, { dst := some 7, op := .bin .leq (.t 6) (.v (.c (.i .i64 65535))), guard := some (5, true) }, { dst := some 8, op := .pick (.t 5) (.t 7) (.v (.c (.b false))) }, { dst := some 2, op := .mv (.t 8) }]
def inode_small_c2 : ACode := .seq [2] inode_small_c1 .ret
def inode_small_c3 : ACode := .seq [0] inode_small_c0 inode_small_c2
def A_inode_small : AFn := ⟨inode_small_c3, [.tmp 2]⟩
noncomputable def E_inode_small : Sums := fun f args h => none
noncomputable def inode_small_c0_d (n : Nat) : Sm (Val × Heap) := smOps E_inode_small [{ dst := some 2, op := .mv (.v (.c (.b false))) }]
noncomputable def inode_small_c1_d (n : Nat) : Sm (Val × Heap) := smOps E_inode_small [{ dst := some 3, op := .mv (.t 0) }, { dst := some 4, op := .bin .geq (.t 3) (.v (.c (.i .i64 0))) }, { dst := some 5, op := .mv (.t 4) }, { dst := some 6, op := .mv (.t 0), guard := some (5, true) }, { dst := some 7, op := .bin .leq (.t 6) (.v (.c (.i .i64 65535))), guard := some (5, true) }, { dst := some 8, op := .pick (.t 5) (.t 7) (.v (.c (.b false))) }, { dst := some 2, op := .mv (.t 8) }]
noncomputable def inode_small_c2_d (n : Nat) : Sm (Val × Heap) := smSeq [2] (inode_small_c1_d n) smRet
noncomputable def inode_small_c3_d (n : Nat) : Sm (Val × Heap) := smSeq [0] (inode_small_c0_d n) (inode_small_c2_d n)
noncomputable def R_inode_small (n : Nat) (args : List Val) (h : Heap) : Option (Val × Heap) := (inode_small_c3_d n) A_inode_small.fin (params 0 args) h
theorem R_inode_small_run (n : Nat) (args : List Val) (h : Heap) : A_inode_small.run E_inode_small n args h = R_inode_small n args h := by kernel_rfl
theorem R_inode_small_eq (n : Nat) (a0 : Val) (h : Heap) : R_inode_small n [a0] h = bnd (abin .geq a0 (.c (.i .i64 0))) fun v1 => bnd (gd v1 true (some (a0, h)) (some (.no, h))) fun p2 => bnd (gd v1 true (bnd (abin .leq p2.1 (.c (.i .i64 65535))) fun v3 => some (v3, p2.2)) (some (.no, p2.2))) fun p4 => bnd (apick v1 p4.1 (.c (.b false))) fun v5 => some (v5, p4.2) := by kernel_rfl
theorem chk_inode_small : chkFn Try.prog Try.f177 A_inode_small = true := by kernel_rfl
theorem E_inode_small_sound : Sound Try.prog E_inode_small := by
  intro f args h v h2 he
  unfold E_inode_small at he
  cases he

theorem R_inode_small_ok {n : Nat} {args : List Val} {h h2 : Heap} {v : Val} (he : R_inode_small n args h = some (v, h2)) : Callable Try.prog 177 ∧ CallOk Try.prog 177 args h v h2 ∧ h.length ≤ h2.length := fn_ok E_inode_small_sound Try.func177 chk_inode_small ((R_inode_small_run ..).trans he)
theorem L_inode_small_ok (args : List Val) (h : Heap) (v : Val) (h2 : Heap) (he : Lim A_inode_small E_inode_small args h = some (v, h2)) : Callable Try.prog 177 ∧ CallOk Try.prog 177 args h v h2 ∧ h.length ≤ h2.length := (Lim_run he).elim fun _ e => R_inode_small_ok ((R_inode_small_run ..).symm.trans e)
theorem L_inode_small_of {n : Nat} {args : List Val} {h : Heap} {p : Val × Heap} (he : R_inode_small n args h = some p) : Lim A_inode_small E_inode_small args h = some p := Lim_of ((R_inode_small_run ..).trans he)
noncomputable def S_inode_small : List Val → Heap → Option (Val × Heap) := tidy (Lim A_inode_small E_inode_small)
theorem S_inode_small_ok (args : List Val) (h : Heap) (v : Val) (h2 : Heap) (he : S_inode_small args h = some (v, h2)) : Callable Try.prog 177 ∧ CallOk Try.prog 177 args h v h2 ∧ h.length ≤ h2.length := tidy_ok L_inode_small_ok args h v h2 he
theorem S_inode_small_flat {n : Nat} {args : List Val} {h h2 : Heap} {v : Val} (he : R_inode_small n args (ro h) = some (v, h2)) (hf : v.flat = true) : S_inode_small args h = some (v, h) := tidy_flat (L_inode_small_of he) hf
theorem S_inode_small_low {n : Nat} {args : List Val} {h h2 : Heap} {v : Val} (he : R_inode_small n args (ro h) = some (v, h2)) (hf : v.low h.length = true) : S_inode_small args h = some (v, h) := tidy_low (L_inode_small_of he) hf
theorem S_inode_small_out {n : Nat} {args : List Val} {h h2 : Heap} {v : Val} {sz k : Nat} {cs : List Cell} (he : R_inode_small n args (ro h) = some (v, h2)) (ho : Out h.length h2 v sz k cs) (hf : flats cs = true) : S_inode_small args h = some (.c (.sl h.length 0 k sz), h ++ [some ⟨cs, true⟩]) := tidy_out (L_inode_small_of he) ho hf
theorem S_inode_small_tidy {n : Nat} {args : List Val} {h h2 : Heap} {v v2 : Val} {ids : List Nat} (he : R_inode_small n args (ro h) = some (v, h2)) (hc : canonV h2 h.length v = some (v2, ids)) : S_inode_small args h = some (v2, h ++ ids.map (rd h2)) := tidy_of (L_inode_small_of he) hc
def inode_Numbers_c0 : ACode := .ops [{ dst := some 1, op := .box (.t 0) }, { dst := some 2, op := .alloc ([.i .i64 0, .i .i64 0, .i .i64 0, .i .i64 0, .i .i64 0, .i .i64 0, .i .i64 0]) }]
def inode_Numbers_c1 : ACode := .ops [{ dst := some 3, op := .alloc ([.i .i64 0, .i .i64 0, .i .i64 0, .i .i64 0, .i .i64 0, .i .i64 0, .i .i64 0]) }]
def inode_Numbers_c2 : ACode := .ops [{ dst := some 6, op := .fAddr (.t 1) 4 }, { dst := some 7, op := .loadN 6 (.t 6) }, { dst := some 8, op := .mv (.v (.c (.i .i64 0))) }]
def inode_Numbers_c3 : ACode := .ops [{ dst := some 9, op := .bin .lss (.t 8) (.v (.c (.i .i64 6))) }]
def inode_Numbers_c4 : ACode := .cond (.t 9) .skip (.exit 0)
def inode_Numbers_c5 : ACode := .ops [{ dst := some 10, op := .mv (.t 8) }, { dst := some 11, op := .idxA1 6 (.t 7) (.t 8) }, { dst := some 4, op := .mv (.t 10) }, { dst := some 5, op := .mv (.t 11) }]
def inode_Numbers_c6 : ACode := .ops [{ dst := some 12, op := .mv (.t 4) }, { dst := some 13, op := .mv (.t 5) }, { dst := some 14, op := .iAddrA 7 1 (.t 3) (.t 12) }, { dst := none, op := .store1 (.t 14) (.t 13) }]
def inode_Numbers_c7 : ACode := .seq [1, 2, 3, 4, 5, 7, 8] inode_Numbers_c5 inode_Numbers_c6
def inode_Numbers_c8 : ACode := .block 1 inode_Numbers_c7
def inode_Numbers_c9 : ACode := .ops [{ dst := some 15, op := .bin .add (.t 8) (.v (.c (.i .i64 1))) }, { dst := some 8, op := .mv (.t 15) }]
def inode_Numbers_c10 : ACode := .seq [1, 2, 3, 7, 8] inode_Numbers_c8 inode_Numbers_c9
def inode_Numbers_c11 : ACode := .seq [1, 2, 3, 7, 8] inode_Numbers_c4 inode_Numbers_c10
def inode_Numbers_c12 : ACode := .seq [1, 2, 3, 7, 8, 9] inode_Numbers_c3 inode_Numbers_c11
def inode_Numbers_c13 : ACode := .loop [1, 2, 3, 7, 8] inode_Numbers_c12
def inode_Numbers_c14 : ACode := .block 0 inode_Numbers_c13
def inode_Numbers_c15 : ACode := .seq [1, 2, 3, 7, 8] inode_Numbers_c2 inode_Numbers_c14
def inode_Numbers_c16 : ACode := .ops [{ dst := some 16, op := .fAddr (.t 1) 10 }, { dst := some 17, op := .load1 (.t 16) }, { dst := some 18, op := .iAddrA 7 1 (.t 3) (.v (.c (.i .i64 6))) }, { dst := none, op := .store1 (.t 18) (.t 17) }]
def inode_Numbers_c17 : ACode := .ops [{ dst := some 19, op := .loadN 7 (.t 3) }, { dst := none, op := .storeN 7 (.t 2) (.t 19) }]
def inode_Numbers_c18 : ACode := .seq [2] inode_Numbers_c17 .ret
def inode_Numbers_c19 : ACode := .seq [2, 3] inode_Numbers_c16 inode_Numbers_c18
def inode_Numbers_c20 : ACode := .seq [1, 2, 3] inode_Numbers_c15 inode_Numbers_c19
def inode_Numbers_c21 : ACode := .seq [1, 2, 3] inode_Numbers_c1 inode_Numbers_c20
def inode_Numbers_c22 : ACode := .seq [1, 2] inode_Numbers_c0 inode_Numbers_c21
def A_inode_Numbers : AFn := ⟨inode_Numbers_c22, [.cellN 2 7]⟩
noncomputable def E_inode_Numbers : Sums := fun f args h => none
noncomputable def inode_Numbers_c0_d (n : Nat) : Sm (Val × Heap) := smOps E_inode_Numbers [{ dst := some 1, op := .box (.t 0) }, { dst := some 2, op := .alloc ([.i .i64 0, .i .i64 0, .i .i64 0, .i .i64 0, .i .i64 0, .i .i64 0, .i .i64 0]) }]
noncomputable def inode_Numbers_c1_d (n : Nat) : Sm (Val × Heap) := smOps E_inode_Numbers [{ dst := some 3, op := .alloc ([.i .i64 0, .i .i64 0, .i .i64 0, .i .i64 0, .i .i64 0, .i .i64 0, .i .i64 0]) }]
noncomputable def inode_Numbers_c2_d (n : Nat) : Sm (Val × Heap) := smOps E_inode_Numbers [{ dst := some 6, op := .fAddr (.t 1) 4 }, { dst := some 7, op := .loadN 6 (.t 6) }, { dst := some 8, op := .mv (.v (.c (.i .i64 0))) }]
noncomputable def inode_Numbers_c3_d (n : Nat) : Sm (Val × Heap) := smOps E_inode_Numbers [{ dst := some 9, op := .bin .lss (.t 8) (.v (.c (.i .i64 6))) }]
noncomputable def inode_Numbers_c4_d (n : Nat) : Sm (Val × Heap) := smCond (.t 9) smSkip (smExit 0)
noncomputable def inode_Numbers_c5_d (n : Nat) : Sm (Val × Heap) := smOps E_inode_Numbers [{ dst := some 10, op := .mv (.t 8) }, { dst := some 11, op := .idxA1 6 (.t 7) (.t 8) }, { dst := some 4, op := .mv (.t 10) }, { dst := some 5, op := .mv (.t 11) }]
noncomputable def inode_Numbers_c6_d (n : Nat) : Sm (Val × Heap) := smOps E_inode_Numbers [{ dst := some 12, op := .mv (.t 4) }, { dst := some 13, op := .mv (.t 5) }, { dst := some 14, op := .iAddrA 7 1 (.t 3) (.t 12) }, { dst := none, op := .store1 (.t 14) (.t 13) }]
noncomputable def inode_Numbers_c7_d (n : Nat) : Sm (Val × Heap) := smSeq [1, 2, 3, 4, 5, 7, 8] (inode_Numbers_c5_d n) (inode_Numbers_c6_d n)
noncomputable def inode_Numbers_c8_d (n : Nat) : Sm (Val × Heap) := smBlock 1 (inode_Numbers_c7_d n)
noncomputable def inode_Numbers_c9_d (n : Nat) : Sm (Val × Heap) := smOps E_inode_Numbers [{ dst := some 15, op := .bin .add (.t 8) (.v (.c (.i .i64 1))) }, { dst := some 8, op := .mv (.t 15) }]
noncomputable def inode_Numbers_c10_d (n : Nat) : Sm (Val × Heap) := smSeq [1, 2, 3, 7, 8] (inode_Numbers_c8_d n) (inode_Numbers_c9_d n)
noncomputable def inode_Numbers_c11_d (n : Nat) : Sm (Val × Heap) := smSeq [1, 2, 3, 7, 8] (inode_Numbers_c4_d n) (inode_Numbers_c10_d n)
noncomputable def inode_Numbers_c12_d (n : Nat) : Sm (Val × Heap) := smSeq [1, 2, 3, 7, 8, 9] (inode_Numbers_c3_d n) (inode_Numbers_c11_d n)
noncomputable def inode_Numbers_c13_d (n : Nat) : Sm (Val × Heap) := smLoop n [1, 2, 3, 7, 8] (inode_Numbers_c12_d n)
noncomputable def inode_Numbers_c14_d (n : Nat) : Sm (Val × Heap) := smBlock 0 (inode_Numbers_c13_d n)
noncomputable def inode_Numbers_c15_d (n : Nat) : Sm (Val × Heap) := smSeq [1, 2, 3, 7, 8] (inode_Numbers_c2_d n) (inode_Numbers_c14_d n)
noncomputable def inode_Numbers_c16_d (n : Nat) : Sm (Val × Heap) := smOps E_inode_Numbers [{ dst := some 16, op := .fAddr (.t 1) 10 }, { dst := some 17, op := .load1 (.t 16) }, { dst := some 18, op := .iAddrA 7 1 (.t 3) (.v (.c (.i .i64 6))) }, { dst := none, op := .store1 (.t 18) (.t 17) }]
noncomputable def inode_Numbers_c17_d (n : Nat) : Sm (Val × Heap) := smOps E_inode_Numbers [{ dst := some 19, op := .loadN 7 (.t 3) }, { dst := none, op := .storeN 7 (.t 2) (.t 19) }]
noncomputable def inode_Numbers_c18_d (n : Nat) : Sm (Val × Heap) := smSeq [2] (inode_Numbers_c17_d n) smRet
noncomputable def inode_Numbers_c19_d (n : Nat) : Sm (Val × Heap) := smSeq [2, 3] (inode_Numbers_c16_d n) (inode_Numbers_c18_d n)
noncomputable def inode_Numbers_c20_d (n : Nat) : Sm (Val × Heap) := smSeq [1, 2, 3] (inode_Numbers_c15_d n) (inode_Numbers_c19_d n)
noncomputable def inode_Numbers_c21_d (n : Nat) : Sm (Val × Heap) := smSeq [1, 2, 3] (inode_Numbers_c1_d n) (inode_Numbers_c20_d n)
noncomputable def inode_Numbers_c22_d (n : Nat) : Sm (Val × Heap) := smSeq [1, 2] (inode_Numbers_c0_d n) (inode_Numbers_c21_d n)
noncomputable def inode_Numbers_k0 (n : Nat) : AExit → Env → Heap → Option (Val × Heap) := fun x e h => match x with | .normal => hold ((inode_Numbers_c19_d n) A_inode_Numbers.fin (e.keep [1, 2, 3]) h) | .exit id => A_inode_Numbers.fin (.exit id) e h | .ret => A_inode_Numbers.fin .ret e h
noncomputable def inode_Numbers_k1 (n : Nat) : AExit → Env → Heap → Option (Val × Heap) := fun x e h => match x with | .exit i => bif Nat.beq i 0 then (inode_Numbers_k0 n) .normal e h else (inode_Numbers_k0 n) (.exit i) e h | .normal => (inode_Numbers_k0 n) .normal e h | .ret => (inode_Numbers_k0 n) .ret e h
noncomputable def inode_Numbers_l0 (n m : Nat) (x1 x2 x3 x7 x8 : Val) (h : Heap) : Option (Val × Heap) := around (inode_Numbers_c12_d n) [1, 2, 3, 7, 8] (inode_Numbers_k1 n) m [(1, x1), (2, x2), (3, x3), (7, x7), (8, x8)] h
noncomputable def R_inode_Numbers (n : Nat) (args : List Val) (h : Heap) : Option (Val × Heap) := (inode_Numbers_c22_d n) A_inode_Numbers.fin (params 0 args) h
theorem R_inode_Numbers_run (n : Nat) (args : List Val) (h : Heap) : A_inode_Numbers.run E_inode_Numbers n args h = R_inode_Numbers n args h := by kernel_rfl
theorem R_inode_Numbers_eq (n : Nat) (a0 : Val) (h : Heap) : R_inode_Numbers n [a0] h = bnd (cells? a0) fun c1 => bnd (afAddr ((.c (.p h.length 0))) 4) fun v2 => bnd (aloadN ((((h ++ [some (Row.mk (c1) true)]) ++ [some (Row.mk ([.i .i64 0, .i .i64 0, .i .i64 0, .i .i64 0, .i .i64 0, .i .i64 0, .i .i64 0]) true)]) ++ [some (Row.mk ([.i .i64 0, .i .i64 0, .i .i64 0, .i .i64 0, .i .i64 0, .i .i64 0, .i .i64 0]) true)])) 6 v2) fun v3 => inode_Numbers_l0 n n ((.c (.p h.length 0))) ((.c (.p ((h ++ [some (Row.mk (c1) true)])).length 0))) ((.c (.p (((h ++ [some (Row.mk (c1) true)]) ++ [some (Row.mk ([.i .i64 0, .i .i64 0, .i .i64 0, .i .i64 0, .i .i64 0, .i .i64 0, .i .i64 0]) true)])).length 0))) v3 (.c (.i .i64 0)) ((((h ++ [some (Row.mk (c1) true)]) ++ [some (Row.mk ([.i .i64 0, .i .i64 0, .i .i64 0, .i .i64 0, .i .i64 0, .i .i64 0, .i .i64 0]) true)]) ++ [some (Row.mk ([.i .i64 0, .i .i64 0, .i .i64 0, .i .i64 0, .i .i64 0, .i .i64 0, .i .i64 0]) true)])) := by kernel_rfl
theorem inode_Numbers_l0_eq (n m : Nat) (x1 x2 x3 x7 x8 : Val) (h : Heap) : inode_Numbers_l0 n (m + 1) x1 x2 x3 x7 x8 h = bnd (abin .lss x8 (.c (.i .i64 6))) fun v4 => cnd v4 (bnd (aidxA1 6 x7 x8) fun v5 => bnd (aiAddrA 7 1 x3 x8) fun v6 => bnd (astore1 h v6 v5) fun h7 => bnd (abin .add x8 (.c (.i .i64 1))) fun v8 => inode_Numbers_l0 n m x1 x2 x3 x7 v8 h7) (bnd (afAddr x1 10) fun v9 => bnd (aload1 h v9) fun v10 => bnd (aiAddrA 7 1 x3 (.c (.i .i64 6))) fun v11 => bnd (astore1 h v11 v10) fun h12 => bnd (aloadN h12 7 x3) fun v13 => bnd (astoreN h12 7 x2 v13) fun h14 => mp (aloadN h14 7 x2) fun v => (v, h14)) := by kernel_rfl
theorem chk_inode_Numbers : chkFn Try.prog Try.f94 A_inode_Numbers = true := by kernel_rfl
theorem E_inode_Numbers_sound : Sound Try.prog E_inode_Numbers := by
  intro f args h v h2 he
  unfold E_inode_Numbers at he
  cases he

theorem R_inode_Numbers_ok {n : Nat} {args : List Val} {h h2 : Heap} {v : Val} (he : R_inode_Numbers n args h = some (v, h2)) : Callable Try.prog 94 ∧ CallOk Try.prog 94 args h v h2 ∧ h.length ≤ h2.length := fn_ok E_inode_Numbers_sound Try.func94 chk_inode_Numbers ((R_inode_Numbers_run ..).trans he)
theorem L_inode_Numbers_ok (args : List Val) (h : Heap) (v : Val) (h2 : Heap) (he : Lim A_inode_Numbers E_inode_Numbers args h = some (v, h2)) : Callable Try.prog 94 ∧ CallOk Try.prog 94 args h v h2 ∧ h.length ≤ h2.length := (Lim_run he).elim fun _ e => R_inode_Numbers_ok ((R_inode_Numbers_run ..).symm.trans e)
theorem L_inode_Numbers_of {n : Nat} {args : List Val} {h : Heap} {p : Val × Heap} (he : R_inode_Numbers n args h = some p) : Lim A_inode_Numbers E_inode_Numbers args h = some p := Lim_of ((R_inode_Numbers_run ..).trans he)
noncomputable def S_inode_Numbers : List Val → Heap → Option (Val × Heap) := tidy (Lim A_inode_Numbers E_inode_Numbers)
theorem S_inode_Numbers_ok (args : List Val) (h : Heap) (v : Val) (h2 : Heap) (he : S_inode_Numbers args h = some (v, h2)) : Callable Try.prog 94 ∧ CallOk Try.prog 94 args h v h2 ∧ h.length ≤ h2.length := tidy_ok L_inode_Numbers_ok args h v h2 he
theorem S_inode_Numbers_flat {n : Nat} {args : List Val} {h h2 : Heap} {v : Val} (he : R_inode_Numbers n args (ro h) = some (v, h2)) (hf : v.flat = true) : S_inode_Numbers args h = some (v, h) := tidy_flat (L_inode_Numbers_of he) hf
theorem S_inode_Numbers_low {n : Nat} {args : List Val} {h h2 : Heap} {v : Val} (he : R_inode_Numbers n args (ro h) = some (v, h2)) (hf : v.low h.length = true) : S_inode_Numbers args h = some (v, h) := tidy_low (L_inode_Numbers_of he) hf
theorem S_inode_Numbers_out {n : Nat} {args : List Val} {h h2 : Heap} {v : Val} {sz k : Nat} {cs : List Cell} (he : R_inode_Numbers n args (ro h) = some (v, h2)) (ho : Out h.length h2 v sz k cs) (hf : flats cs = true) : S_inode_Numbers args h = some (.c (.sl h.length 0 k sz), h ++ [some ⟨cs, true⟩]) := tidy_out (L_inode_Numbers_of he) ho hf
theorem S_inode_Numbers_tidy {n : Nat} {args : List Val} {h h2 : Heap} {v v2 : Val} {ids : List Nat} (he : R_inode_Numbers n args (ro h) = some (v, h2)) (hc : canonV h2 h.length v = some (v2, ids)) : S_inode_Numbers args h = some (v2, h ++ ids.map (rd h2)) := tidy_of (L_inode_Numbers_of he) hc
def inode_Check_c0 : ACode := .ops [{ dst := some 1, op := .box (.t 0) }, { dst := some 2, op := .mv (.v (.c (.i .i64 0))) }]
def inode_Check_c1 : ACode := .ops [{ dst := some 5, op := .fAddr (.t 1) 0 }, { dst := some 6, op := .load1 (.t 5) }, { dst := some 7, op := .bin .lss (.t 6) (.v (.c (.i .i64 0))) }, { dst := some 8, op := .mv (.t 7) }, { dst := some 9, op := .fAddr (.t 1) 0, guard := some (8, false) }, { dst := some 10, op := .load1 (.t 9), guard := some (8, false) }, { dst := some 11, op := .bin .gtr (.t 10) (.v (.c (.i .i64 2))), guard := some (8, false) }, { dst := some 12, op := .pick (.t 8) (.v (.c (.b true))) (.t 11) }, { dst := some 13, op := .mv (.t 12) }, { dst := some 14, op := .fAddr (.t 1) 0, guard := some (13, false) }, { dst := some 15, op := .load1 (.t 14), guard := some (13, false) }, { dst := some 16, op := .bin .eql (.t 15) (.v (.c (.i .i64 0))), guard := some (13, false) }, { dst := some 17, op := .mv (.t 16), guard := some (13, false) }, { dst := some 18, op := .loadN 11 (.t 1), guard := some (17, true) }, { dst := some 19, op := .build ([.i .i64 0, .i .i64 0, .i .i64 0, .i .i64 0, .i .i64 0, .i .i64 0, .i .i64 0, .i .i64 0, .i .i64 0, .i .i64 0, .i .i64 0]) [], guard := some (17, true) }, { dst := some 20, op := .eqA true ([.i .i64, .i .i64, .i .i64, .i .i64, .i .i64, .i .i64, .i .i64, .i .i64, .i .i64, .i .i64, .i .i64]) (.t 18) (.t 19), guard := some (17, true) }, { dst := some 21, op := .pick (.t 17) (.t 20) (.v (.c (.b false))), guard := some (13, false) }, { dst := some 22, op := .pick (.t 13) (.v (.c (.b true))) (.t 21) }]
def inode_Check_c2 : ACode := .ops [{ dst := some 2, op := .mv (.v (.c (.i .i64 1))) }]
def inode_Check_c3 : ACode := .seq [2] inode_Check_c2 .ret
def inode_Check_c4 : ACode := .cond (.t 22) inode_Check_c3 .skip
def inode_Check_c5 : ACode := .seq [1, 22] inode_Check_c1 inode_Check_c4
def inode_Check_c6 : ACode := .ops [{ dst := some 23, op := .fAddr (.t 1) 1 }, { dst := some 24, op := .load1 (.t 23) }, { dst := some 25, op := .call 177 [(.t 24)] }, { dst := some 26, op := .un .not (.t 25) }, { dst := some 27, op := .mv (.t 26) }, { dst := some 28, op := .fAddr (.t 1) 3, guard := some (27, false) }, { dst := some 29, op := .load1 (.t 28), guard := some (27, false) }, { dst := some 30, op := .call 177 [(.t 29)], guard := some (27, false) }, { dst := some 31, op := .un .not (.t 30), guard := some (27, false) }, { dst := some 32, op := .pick (.t 27) (.v (.c (.b true))) (.t 31) }, { dst := some 33, op := .mv (.t 32) }, { dst := some 34, op := .fAddr (.t 1) 2, guard := some (33, false) }, { dst := some 35, op := .load1 (.t 34), guard := some (33, false) }, { dst := some 36, op := .bin .lss (.t 35) (.v (.c (.i .i64 0))), guard := some (33, false) }, { dst := some 37, op := .pick (.t 33) (.v (.c (.b true))) (.t 36) }, { dst := some 38, op := .mv (.t 37) }, { dst := some 39, op := .fAddr (.t 1) 2, guard := some (38, false) }, { dst := some 40, op := .load1 (.t 39), guard := some (38, false) }, { dst := some 41, op := .bin .gtr (.t 40) (.v (.c (.i .i64 34304))), guard := some (38, false) }, { dst := some 42, op := .pick (.t 38) (.v (.c (.b true))) (.t 41) }]
def inode_Check_c7 : ACode := .ops [{ dst := some 2, op := .mv (.v (.c (.i .i64 1))) }]
def inode_Check_c8 : ACode := .seq [2] inode_Check_c7 .ret
def inode_Check_c9 : ACode := .cond (.t 42) inode_Check_c8 .skip
def inode_Check_c10 : ACode := .seq [1, 42] inode_Check_c6 inode_Check_c9
def inode_Check_c11 : ACode := .ops [{ dst := some 43, op := .loadN 11 (.t 1) }, { dst := some 44, op := .call 94 [(.t 43)] }, { dst := some 45, op := .mv (.v (.c (.i .i64 0))) }]
def inode_Check_c12 : ACode := .ops [{ dst := some 46, op := .bin .lss (.t 45) (.v (.c (.i .i64 7))) }]
def inode_Check_c13 : ACode := .cond (.t 46) .skip (.exit 0)
def inode_Check_c14 : ACode := .ops [{ dst := some 47, op := .idxA1 7 (.t 44) (.t 45) }, { dst := some 4, op := .mv (.t 47) }]
def inode_Check_c15 : ACode := .ops [{ dst := some 48, op := .mv (.t 4) }, { dst := some 49, op := .call 177 [(.t 48)] }, { dst := some 50, op := .un .not (.t 49) }]
def inode_Check_c16 : ACode := .ops [{ dst := some 2, op := .mv (.v (.c (.i .i64 1))) }]
def inode_Check_c17 : ACode := .seq [2] inode_Check_c16 .ret
def inode_Check_c18 : ACode := .cond (.t 50) inode_Check_c17 .skip
def inode_Check_c19 : ACode := .seq [44, 45, 50] inode_Check_c15 inode_Check_c18
def inode_Check_c20 : ACode := .seq [4, 44, 45] inode_Check_c14 inode_Check_c19
def inode_Check_c21 : ACode := .block 1 inode_Check_c20
def inode_Check_c22 : ACode := .ops [{ dst := some 51, op := .bin .add (.t 45) (.v (.c (.i .i64 1))) }, { dst := some 45, op := .mv (.t 51) }]
def inode_Check_c23 : ACode := .seq [44, 45] inode_Check_c21 inode_Check_c22
def inode_Check_c24 : ACode := .seq [44, 45] inode_Check_c13 inode_Check_c23
def inode_Check_c25 : ACode := .seq [44, 45, 46] inode_Check_c12 inode_Check_c24
def inode_Check_c26 : ACode := .loop [44, 45] inode_Check_c25
def inode_Check_c27 : ACode := .block 0 inode_Check_c26
def inode_Check_c28 : ACode := .seq [44, 45] inode_Check_c11 inode_Check_c27
def inode_Check_c29 : ACode := .ops [{ dst := some 2, op := .mv (.v (.c (.i .i64 0))) }]
def inode_Check_c30 : ACode := .seq [2] inode_Check_c29 .ret
def inode_Check_c31 : ACode := .seq [] inode_Check_c28 inode_Check_c30
def inode_Check_c32 : ACode := .seq [1] inode_Check_c10 inode_Check_c31
def inode_Check_c33 : ACode := .seq [1] inode_Check_c5 inode_Check_c32
def inode_Check_c34 : ACode := .seq [1] inode_Check_c0 inode_Check_c33
def A_inode_Check : AFn := ⟨inode_Check_c34, [.tmp 2]⟩
noncomputable def E_inode_Check : Sums := fun f args h => bif Nat.beq f 177 then S_inode_small args h else bif Nat.beq f 94 then S_inode_Numbers args h else none
noncomputable def inode_Check_c0_d (n : Nat) : Sm (Val × Heap) := smOps E_inode_Check [{ dst := some 1, op := .box (.t 0) }, { dst := some 2, op := .mv (.v (.c (.i .i64 0))) }]
noncomputable def inode_Check_c1_d (n : Nat) : Sm (Val × Heap) := smOps E_inode_Check [{ dst := some 5, op := .fAddr (.t 1) 0 }, { dst := some 6, op := .load1 (.t 5) }, { dst := some 7, op := .bin .lss (.t 6) (.v (.c (.i .i64 0))) }, { dst := some 8, op := .mv (.t 7) }, { dst := some 9, op := .fAddr (.t 1) 0, guard := some (8, false) }, { dst := some 10, op := .load1 (.t 9), guard := some (8, false) }, { dst := some 11, op := .bin .gtr (.t 10) (.v (.c (.i .i64 2))), guard := some (8, false) }, { dst := some 12, op := .pick (.t 8) (.v (.c (.b true))) (.t 11) }, { dst := some 13, op := .mv (.t 12) }, { dst := some 14, op := .fAddr (.t 1) 0, guard := some (13, false) }, { dst := some 15, op := .load1 (.t 14), guard := some (13, false) }, { dst := some 16, op := .bin .eql (.t 15) (.v (.c (.i .i64 0))), guard := some (13, false) }, { dst := some 17, op := .mv (.t 16), guard := some (13, false) }, { dst := some 18, op := .loadN 11 (.t 1), guard := some (17, true) }, { dst := some 19, op := .build ([.i .i64 0, .i .i64 0, .i .i64 0, .i .i64 0, .i .i64 0, .i .i64 0, .i .i64 0, .i .i64 0, .i .i64 0, .i .i64 0, .i .i64 0]) [], guard := some (17, true) }, { dst := some 20, op := .eqA true ([.i .i64, .i .i64, .i .i64, .i .i64, .i .i64, .i .i64, .i .i64, .i .i64, .i .i64, .i .i64, .i .i64]) (.t 18) (.t 19), guard := some (17, true) }, { dst := some 21, op := .pick (.t 17) (.t 20) (.v (.c (.b false))), guard := some (13, false) }, { dst := some 22, op := .pick (.t 13) (.v (.c (.b true))) (.t 21) }]
noncomputable def inode_Check_c2_d (n : Nat) : Sm (Val × Heap) := smOps E_inode_Check [{ dst := some 2, op := .mv (.v (.c (.i .i64 1))) }]
noncomputable def inode_Check_c3_d (n : Nat) : Sm (Val × Heap) := smSeq [2] (inode_Check_c2_d n) smRet
noncomputable def inode_Check_c4_d (n : Nat) : Sm (Val × Heap) := smCond (.t 22) (inode_Check_c3_d n) smSkip
noncomputable def inode_Check_c5_d (n : Nat) : Sm (Val × Heap) := smSeq [1, 22] (inode_Check_c1_d n) (inode_Check_c4_d n)
noncomputable def inode_Check_c6_d (n : Nat) : Sm (Val × Heap) := smOps E_inode_Check [{ dst := some 23, op := .fAddr (.t 1) 1 }, { dst := some 24, op := .load1 (.t 23) }, { dst := some 25, op := .call 177 [(.t 24)] }, { dst := some 26, op := .un .not (.t 25) }, { dst := some 27, op := .mv (.t 26) }, { dst := some 28, op := .fAddr (.t 1) 3, guard := some (27, false) }, { dst := some 29, op := .load1 (.t 28), guard := some (27, false) }, { dst := some 30, op := .call 177 [(.t 29)], guard := some (27, false) }, { dst := some 31, op := .un .not (.t 30), guard := some (27, false) }, { dst := some 32, op := .pick (.t 27) (.v (.c (.b true))) (.t 31) }, { dst := some 33, op := .mv (.t 32) }, { dst := some 34, op := .fAddr (.t 1) 2, guard := some (33, false) }, { dst := some 35, op := .load1 (.t 34), guard := some (33, false) }, { dst := some 36, op := .bin .lss (.t 35) (.v (.c (.i .i64 0))), guard := some (33, false) }, { dst := some 37, op := .pick (.t 33) (.v (.c (.b true))) (.t 36) }, { dst := some 38, op := .mv (.t 37) }, { dst := some 39, op := .fAddr (.t 1) 2, guard := some (38, false) }, { dst := some 40, op := .load1 (.t 39), guard := some (38, false) }, { dst := some 41, op := .bin .gtr (.t 40) (.v (.c (.i .i64 34304))), guard := some (38, false) }, { dst := some 42, op := .pick (.t 38) (.v (.c (.b true))) (.t 41) }]
noncomputable def inode_Check_c7_d (n : Nat) : Sm (Val × Heap) := smOps E_inode_Check [{ dst := some 2, op := .mv (.v (.c (.i .i64 1))) }]
noncomputable def inode_Check_c8_d (n : Nat) : Sm (Val × Heap) := smSeq [2] (inode_Check_c7_d n) smRet
noncomputable def inode_Check_c9_d (n : Nat) : Sm (Val × Heap) := smCond (.t 42) (inode_Check_c8_d n) smSkip
noncomputable def inode_Check_c10_d (n : Nat) : Sm (Val × Heap) := smSeq [1, 42] (inode_Check_c6_d n) (inode_Check_c9_d n)
noncomputable def inode_Check_c11_d (n : Nat) : Sm (Val × Heap) := smOps E_inode_Check [{ dst := some 43, op := .loadN 11 (.t 1) }, { dst := some 44, op := .call 94 [(.t 43)] }, { dst := some 45, op := .mv (.v (.c (.i .i64 0))) }]
noncomputable def inode_Check_c12_d (n : Nat) : Sm (Val × Heap) := smOps E_inode_Check [{ dst := some 46, op := .bin .lss (.t 45) (.v (.c (.i .i64 7))) }]
noncomputable def inode_Check_c13_d (n : Nat) : Sm (Val × Heap) := smCond (.t 46) smSkip (smExit 0)
noncomputable def inode_Check_c14_d (n : Nat) : Sm (Val × Heap) := smOps E_inode_Check [{ dst := some 47, op := .idxA1 7 (.t 44) (.t 45) }, { dst := some 4, op := .mv (.t 47) }]
noncomputable def inode_Check_c15_d (n : Nat) : Sm (Val × Heap) := smOps E_inode_Check [{ dst := some 48, op := .mv (.t 4) }, { dst := some 49, op := .call 177 [(.t 48)] }, { dst := some 50, op := .un .not (.t 49) }]
noncomputable def inode_Check_c16_d (n : Nat) : Sm (Val × Heap) := smOps E_inode_Check [{ dst := some 2, op := .mv (.v (.c (.i .i64 1))) }]
noncomputable def inode_Check_c17_d (n : Nat) : Sm (Val × Heap) := smSeq [2] (inode_Check_c16_d n) smRet
noncomputable def inode_Check_c18_d (n : Nat) : Sm (Val × Heap) := smCond (.t 50) (inode_Check_c17_d n) smSkip
noncomputable def inode_Check_c19_d (n : Nat) : Sm (Val × Heap) := smSeq [44, 45, 50] (inode_Check_c15_d n) (inode_Check_c18_d n)
noncomputable def inode_Check_c20_d (n : Nat) : Sm (Val × Heap) := smSeq [4, 44, 45] (inode_Check_c14_d n) (inode_Check_c19_d n)
noncomputable def inode_Check_c21_d (n : Nat) : Sm (Val × Heap) := smBlock 1 (inode_Check_c20_d n)
noncomputable def inode_Check_c22_d (n : Nat) : Sm (Val × Heap) := smOps E_inode_Check [{ dst := some 51, op := .bin .add (.t 45) (.v (.c (.i .i64 1))) }, { dst := some 45, op := .mv (.t 51) }]
noncomputable def inode_Check_c23_d (n : Nat) : Sm (Val × Heap) := smSeq [44, 45] (inode_Check_c21_d n) (inode_Check_c22_d n)
noncomputable def inode_Check_c24_d (n : Nat) : Sm (Val × Heap) := smSeq [44, 45] (inode_Check_c13_d n) (inode_Check_c23_d n)
noncomputable def inode_Check_c25_d (n : Nat) : Sm (Val × Heap) := smSeq [44, 45, 46] (inode_Check_c12_d n) (inode_Check_c24_d n)
noncomputable def inode_Check_c26_d (n : Nat) : Sm (Val × Heap) := smLoop n [44, 45] (inode_Check_c25_d n)
noncomputable def inode_Check_c27_d (n : Nat) : Sm (Val × Heap) := smBlock 0 (inode_Check_c26_d n)
noncomputable def inode_Check_c28_d (n : Nat) : Sm (Val × Heap) := smSeq [44, 45] (inode_Check_c11_d n) (inode_Check_c27_d n)
noncomputable def inode_Check_c29_d (n : Nat) : Sm (Val × Heap) := smOps E_inode_Check [{ dst := some 2, op := .mv (.v (.c (.i .i64 0))) }]
noncomputable def inode_Check_c30_d (n : Nat) : Sm (Val × Heap) := smSeq [2] (inode_Check_c29_d n) smRet
noncomputable def inode_Check_c31_d (n : Nat) : Sm (Val × Heap) := smSeq [] (inode_Check_c28_d n) (inode_Check_c30_d n)
noncomputable def inode_Check_c32_d (n : Nat) : Sm (Val × Heap) := smSeq [1] (inode_Check_c10_d n) (inode_Check_c31_d n)
noncomputable def inode_Check_c33_d (n : Nat) : Sm (Val × Heap) := smSeq [1] (inode_Check_c5_d n) (inode_Check_c32_d n)
noncomputable def inode_Check_c34_d (n : Nat) : Sm (Val × Heap) := smSeq [1] (inode_Check_c0_d n) (inode_Check_c33_d n)
noncomputable def inode_Check_k0 (n : Nat) : AExit → Env → Heap → Option (Val × Heap) := fun x e h => match x with | .normal => hold ((inode_Check_c30_d n) A_inode_Check.fin (e.keep []) h) | .exit id => A_inode_Check.fin (.exit id) e h | .ret => A_inode_Check.fin .ret e h
noncomputable def inode_Check_k1 (n : Nat) : AExit → Env → Heap → Option (Val × Heap) := fun x e h => match x with | .exit i => bif Nat.beq i 0 then (inode_Check_k0 n) .normal e h else (inode_Check_k0 n) (.exit i) e h | .normal => (inode_Check_k0 n) .normal e h | .ret => (inode_Check_k0 n) .ret e h
noncomputable def inode_Check_l0 (n m : Nat) (x44 x45 : Val) (h : Heap) : Option (Val × Heap) := around (inode_Check_c25_d n) [44, 45] (inode_Check_k1 n) m [(44, x44), (45, x45)] h
noncomputable def R_inode_Check (n : Nat) (args : List Val) (h : Heap) : Option (Val × Heap) := (inode_Check_c34_d n) A_inode_Check.fin (params 0 args) h
theorem R_inode_Check_run (n : Nat) (args : List Val) (h : Heap) : A_inode_Check.run E_inode_Check n args h = R_inode_Check n args h := by kernel_rfl
theorem R_inode_Check_eq (n : Nat) (a0 : Val) (h : Heap) : R_inode_Check n [a0] h = bnd (cells? a0) fun c1 => bnd (afAddr ((.c (.p h.length 0))) 0) fun v2 => bnd (aload1 ((h ++ [some (Row.mk (c1) true)])) v2) fun v3 => bnd (abin .lss v3 (.c (.i .i64 0))) fun v4 => bnd (gd v4 false (bnd (afAddr ((.c (.p h.length 0))) 0) fun v5 => some (v5, (h ++ [some (Row.mk (c1) true)]))) (some (.no, (h ++ [some (Row.mk (c1) true)])))) fun p6 => bnd (gd v4 false (bnd (aload1 p6.2 p6.1) fun v7 => some (v7, p6.2)) (some (.no, p6.2))) fun p8 => bnd (gd v4 false (bnd (abin .gtr p8.1 (.c (.i .i64 2))) fun v9 => some (v9, p8.2)) (some (.no, p8.2))) fun p10 => bnd (apick v4 (.c (.b true)) p10.1) fun v11 => bnd (gd v11 false (bnd (afAddr ((.c (.p h.length 0))) 0) fun v12 => some (v12, p10.2)) (some (.no, p10.2))) fun p13 => bnd (gd v11 false (bnd (aload1 p13.2 p13.1) fun v14 => some (v14, p13.2)) (some (.no, p13.2))) fun p15 => bnd (gd v11 false (bnd (abin .eql p15.1 (.c (.i .i64 0))) fun v16 => some (v16, p15.2)) (some (.no, p15.2))) fun p17 => bnd (gd v11 false (some (p17.1, p17.2)) (some (.no, p17.2))) fun p18 => bnd (gd p18.1 true (bnd (aloadN p18.2 11 ((.c (.p h.length 0)))) fun v19 => some (v19, p18.2)) (some (.no, p18.2))) fun p20 => bnd (gd p18.1 true (bnd (afill ([.i .i64 0, .i .i64 0, .i .i64 0, .i .i64 0, .i .i64 0, .i .i64 0, .i .i64 0, .i .i64 0, .i .i64 0, .i .i64 0, .i .i64 0]) []) fun c21 => some ((.a c21), p20.2)) (some (.no, p20.2))) fun p22 => bnd (gd p18.1 true (bnd (aeq true ([.i .i64, .i .i64, .i .i64, .i .i64, .i .i64, .i .i64, .i .i64, .i .i64, .i .i64, .i .i64, .i .i64]) p20.1 p22.1) fun v23 => some (v23, p22.2)) (some (.no, p22.2))) fun p24 => bnd (gd v11 false (bnd (apick p18.1 p24.1 (.c (.b false))) fun v25 => some (v25, p24.2)) (some (.no, p24.2))) fun p26 => bnd (apick v11 (.c (.b true)) p26.1) fun v27 => cnd v27 (some ((.c (.i .i64 1)), p26.2)) (bnd (afAddr ((.c (.p h.length 0))) 1) fun v28 => bnd (aload1 p26.2 v28) fun v29 => bnd (S_inode_small [v29] p26.2) fun p30 => bnd (aun .not p30.1) fun v31 => bnd (gd v31 false (bnd (afAddr ((.c (.p h.length 0))) 3) fun v32 => some (v32, p30.2)) (some (.no, p30.2))) fun p33 => bnd (gd v31 false (bnd (aload1 p33.2 p33.1) fun v34 => some (v34, p33.2)) (some (.no, p33.2))) fun p35 => bnd (gd v31 false (bnd (S_inode_small [p35.1] p35.2) fun p36 => some (p36.1, p36.2)) (some (.no, p35.2))) fun p37 => bnd (gd v31 false (bnd (aun .not p37.1) fun v38 => some (v38, p37.2)) (some (.no, p37.2))) fun p39 => bnd (apick v31 (.c (.b true)) p39.1) fun v40 => bnd (gd v40 false (bnd (afAddr ((.c (.p h.length 0))) 2) fun v41 => some (v41, p39.2)) (some (.no, p39.2))) fun p42 => bnd (gd v40 false (bnd (aload1 p42.2 p42.1) fun v43 => some (v43, p42.2)) (some (.no, p42.2))) fun p44 => bnd (gd v40 false (bnd (abin .lss p44.1 (.c (.i .i64 0))) fun v45 => some (v45, p44.2)) (some (.no, p44.2))) fun p46 => bnd (apick v40 (.c (.b true)) p46.1) fun v47 => bnd (gd v47 false (bnd (afAddr ((.c (.p h.length 0))) 2) fun v48 => some (v48, p46.2)) (some (.no, p46.2))) fun p49 => bnd (gd v47 false (bnd (aload1 p49.2 p49.1) fun v50 => some (v50, p49.2)) (some (.no, p49.2))) fun p51 => bnd (gd v47 false (bnd (abin .gtr p51.1 (.c (.i .i64 34304))) fun v52 => some (v52, p51.2)) (some (.no, p51.2))) fun p53 => bnd (apick v47 (.c (.b true)) p53.1) fun v54 => cnd v54 (some ((.c (.i .i64 1)), p53.2)) (bnd (aloadN p53.2 11 ((.c (.p h.length 0)))) fun v55 => bnd (S_inode_Numbers [v55] p53.2) fun p56 => inode_Check_l0 n n p56.1 (.c (.i .i64 0)) p56.2)) := by kernel_rfl
theorem inode_Check_l0_eq (n m : Nat) (x44 x45 : Val) (h : Heap) : inode_Check_l0 n (m + 1) x44 x45 h = bnd (abin .lss x45 (.c (.i .i64 7))) fun v57 => cnd v57 (bnd (aidxA1 7 x44 x45) fun v58 => bnd (S_inode_small [v58] h) fun p59 => bnd (aun .not p59.1) fun v60 => cnd v60 (some ((.c (.i .i64 1)), p59.2)) (bnd (abin .add x45 (.c (.i .i64 1))) fun v61 => inode_Check_l0 n m x44 v61 p59.2)) (some ((.c (.i .i64 0)), h)) := by kernel_rfl
theorem chk_inode_Check : chkFn Try.prog Try.f93 A_inode_Check = true := by kernel_rfl
theorem E_inode_Check_sound : Sound Try.prog E_inode_Check := by
  intro f args h v h2 he
  unfold E_inode_Check at he
  cases hb0 : Nat.beq f 177 with
  | true => rw [hb0] at he; have e := Nat.eq_of_beq_eq_true hb0; subst e; exact S_inode_small_ok args h v h2 he
  | false =>
    rw [hb0] at he; simp only [cond_false] at he
    cases hb1 : Nat.beq f 94 with
    | true => rw [hb1] at he; have e := Nat.eq_of_beq_eq_true hb1; subst e; exact S_inode_Numbers_ok args h v h2 he
    | false =>
      rw [hb1] at he; simp only [cond_false] at he
      cases he

theorem R_inode_Check_ok {n : Nat} {args : List Val} {h h2 : Heap} {v : Val} (he : R_inode_Check n args h = some (v, h2)) : Callable Try.prog 93 ∧ CallOk Try.prog 93 args h v h2 ∧ h.length ≤ h2.length := fn_ok E_inode_Check_sound Try.func93 chk_inode_Check ((R_inode_Check_run ..).trans he)
theorem L_inode_Check_ok (args : List Val) (h : Heap) (v : Val) (h2 : Heap) (he : Lim A_inode_Check E_inode_Check args h = some (v, h2)) : Callable Try.prog 93 ∧ CallOk Try.prog 93 args h v h2 ∧ h.length ≤ h2.length := (Lim_run he).elim fun _ e => R_inode_Check_ok ((R_inode_Check_run ..).symm.trans e)
theorem L_inode_Check_of {n : Nat} {args : List Val} {h : Heap} {p : Val × Heap} (he : R_inode_Check n args h = some p) : Lim A_inode_Check E_inode_Check args h = some p := Lim_of ((R_inode_Check_run ..).trans he)
noncomputable def S_inode_Check : List Val → Heap → Option (Val × Heap) := tidy (Lim A_inode_Check E_inode_Check)
theorem S_inode_Check_ok (args : List Val) (h : Heap) (v : Val) (h2 : Heap) (he : S_inode_Check args h = some (v, h2)) : Callable Try.prog 93 ∧ CallOk Try.prog 93 args h v h2 ∧ h.length ≤ h2.length := tidy_ok L_inode_Check_ok args h v h2 he
theorem S_inode_Check_flat {n : Nat} {args : List Val} {h h2 : Heap} {v : Val} (he : R_inode_Check n args (ro h) = some (v, h2)) (hf : v.flat = true) : S_inode_Check args h = some (v, h) := tidy_flat (L_inode_Check_of he) hf
theorem S_inode_Check_low {n : Nat} {args : List Val} {h h2 : Heap} {v : Val} (he : R_inode_Check n args (ro h) = some (v, h2)) (hf : v.low h.length = true) : S_inode_Check args h = some (v, h) := tidy_low (L_inode_Check_of he) hf
theorem S_inode_Check_out {n : Nat} {args : List Val} {h h2 : Heap} {v : Val} {sz k : Nat} {cs : List Cell} (he : R_inode_Check n args (ro h) = some (v, h2)) (ho : Out h.length h2 v sz k cs) (hf : flats cs = true) : S_inode_Check args h = some (.c (.sl h.length 0 k sz), h ++ [some ⟨cs, true⟩]) := tidy_out (L_inode_Check_of he) ho hf
theorem S_inode_Check_tidy {n : Nat} {args : List Val} {h h2 : Heap} {v v2 : Val} {ids : List Nat} (he : R_inode_Check n args (ro h) = some (v, h2)) (hc : canonV h2 h.length v = some (v2, ids)) : S_inode_Check args h = some (v2, h ++ ids.map (rd h2)) := tidy_of (L_inode_Check_of he) hc
def inode_Put_c0 : ACode := .ops [{ dst := some 1, op := .box (.t 0) }, { dst := some 2, op := .alloc (List.replicate 32 (.i .u8 0)) }, { dst := some 3, op := .mv (.v (.c (.i .i64 0))) }]
def inode_Put_c1 : ACode := .ops [{ dst := some 4, op := .alloc (List.replicate 32 (.i .u8 0)) }]
def inode_Put_c2 : ACode := .ops [{ dst := some 10, op := .loadN 11 (.t 1) }, { dst := some 11, op := .call 93 [(.t 10)] }, { dst := some 5, op := .mv (.t 11) }]
def inode_Put_c3 : ACode := .ops [{ dst := some 12, op := .mv (.t 5) }, { dst := some 13, op := .bin .neq (.t 12) (.v (.c (.i .i64 0))) }]
def inode_Put_c4 : ACode := .ops [{ dst := some 14, op := .loadN 32 (.t 4) }, { dst := some 15, op := .mv (.t 5) }, { dst := none, op := .storeN 32 (.t 2) (.t 14) }, { dst := some 3, op := .mv (.t 15) }]
def inode_Put_c5 : ACode := .seq [2, 3] inode_Put_c4 .ret
def inode_Put_c6 : ACode := .cond (.t 13) inode_Put_c5 .skip
def inode_Put_c7 : ACode := .seq [1, 2, 4, 5, 13] inode_Put_c3 inode_Put_c6
def inode_Put_c8 : ACode := .seq [1, 2, 4, 5] inode_Put_c2 inode_Put_c7
def inode_Put_c9 : ACode := .ops [{ dst := some 6, op := .alloc (List.replicate 256 (.i .u8 0)) }]
def inode_Put_c10 : ACode := .ops [{ dst := some 16, op := .loadN 256 (.t 6) }, { dst := some 17, op := .fAddr (.t 1) 0 }, { dst := some 18, op := .load1 (.t 17) }, { dst := some 19, op := .call 58 [(.t 16), (.v (.c (.i .i64 0))), (.v (.c (.i .i64 1))), (.t 18)] }, { dst := none, op := .storeN 256 (.t 6) (.t 19) }]
def inode_Put_c11 : ACode := .ops [{ dst := some 20, op := .loadN 256 (.t 6) }, { dst := some 21, op := .fAddr (.t 1) 1 }, { dst := some 22, op := .load1 (.t 21) }, { dst := some 23, op := .call 58 [(.t 20), (.v (.c (.i .i64 2))), (.v (.c (.i .i64 2))), (.t 22)] }, { dst := none, op := .storeN 256 (.t 6) (.t 23) }]
def inode_Put_c12 : ACode := .ops [{ dst := some 24, op := .loadN 256 (.t 6) }, { dst := some 25, op := .fAddr (.t 1) 2 }, { dst := some 26, op := .load1 (.t 25) }, { dst := some 27, op := .call 58 [(.t 24), (.v (.c (.i .i64 4))), (.v (.c (.i .i64 4))), (.t 26)] }, { dst := none, op := .storeN 256 (.t 6) (.t 27) }]
def inode_Put_c13 : ACode := .ops [{ dst := some 28, op := .loadN 256 (.t 6) }, { dst := some 29, op := .fAddr (.t 1) 3 }, { dst := some 30, op := .load1 (.t 29) }, { dst := some 31, op := .call 58 [(.t 28), (.v (.c (.i .i64 8))), (.v (.c (.i .i64 2))), (.t 30)] }, { dst := none, op := .storeN 256 (.t 6) (.t 31) }]
def inode_Put_c14 : ACode := .ops [{ dst := some 32, op := .loadN 11 (.t 1) }, { dst := some 33, op := .call 94 [(.t 32)] }, { dst := some 34, op := .mv (.v (.c (.i .i64 0))) }]
def inode_Put_c15 : ACode := .ops [{ dst := some 35, op := .bin .lss (.t 34) (.v (.c (.i .i64 7))) }]
def inode_Put_c16 : ACode := .cond (.t 35) .skip (.exit 0)
def inode_Put_c17 : ACode := .ops [{ dst := some 36, op := .mv (.t 34) }, { dst := some 37, op := .idxA1 7 (.t 33) (.t 34) }, { dst := some 7, op := .mv (.t 36) }, { dst := some 8, op := .mv (.t 37) }]
def inode_Put_c18 : ACode := .ops [{ dst := some 38, op := .loadN 256 (.t 6) }, { dst := some 39, op := .mv (.t 7) }, { dst := some 40, op := .bin .mul (.v (.c (.i .i64 2))) (.t 39) }, { dst := some 41, op := .bin .add (.v (.c (.i .i64 10))) (.t 40) }, { dst := some 42, op := .mv (.t 8) }, { dst := some 43, op := .call 58 [(.t 38), (.t 41), (.v (.c (.i .i64 2))), (.t 42)] }, { dst := none, op := .storeN 256 (.t 6) (.t 43) }]
def inode_Put_c19 : ACode := .seq [2, 4, 6, 7, 8, 33, 34] inode_Put_c17 inode_Put_c18
def inode_Put_c20 : ACode := .block 1 inode_Put_c19
def inode_Put_c21 : ACode := .ops [{ dst := some 44, op := .bin .add (.t 34) (.v (.c (.i .i64 1))) }, { dst := some 34, op := .mv (.t 44) }]
def inode_Put_c22 : ACode := .seq [2, 4, 6, 33, 34] inode_Put_c20 inode_Put_c21
def inode_Put_c23 : ACode := .seq [2, 4, 6, 33, 34] inode_Put_c16 inode_Put_c22
def inode_Put_c24 : ACode := .seq [2, 4, 6, 33, 34, 35] inode_Put_c15 inode_Put_c23
def inode_Put_c25 : ACode := .loop [2, 4, 6, 33, 34] inode_Put_c24
def inode_Put_c26 : ACode := .block 0 inode_Put_c25
def inode_Put_c27 : ACode := .seq [2, 4, 6, 33, 34] inode_Put_c14 inode_Put_c26
def inode_Put_c28 : ACode := .ops [{ dst := some 45, op := .mv (.v (.c (.i .i64 0))) }]
def inode_Put_c29 : ACode := .ops [{ dst := some 46, op := .bin .lss (.t 45) (.v (.c (.i .i64 32))) }]
def inode_Put_c30 : ACode := .cond (.t 46) .skip (.exit 2)
def inode_Put_c31 : ACode := .ops [{ dst := some 47, op := .mv (.t 45) }, { dst := some 9, op := .mv (.t 47) }]
def inode_Put_c32 : ACode := .ops [{ dst := some 48, op := .mv (.t 9) }, { dst := some 49, op := .mv (.t 9) }, { dst := some 50, op := .iAddrA 256 1 (.t 6) (.t 49) }, { dst := some 51, op := .load1 (.t 50) }, { dst := some 52, op := .iAddrA 32 1 (.t 4) (.t 48) }, { dst := none, op := .store1 (.t 52) (.t 51) }]
def inode_Put_c33 : ACode := .seq [2, 4, 6, 9, 45] inode_Put_c31 inode_Put_c32
def inode_Put_c34 : ACode := .block 3 inode_Put_c33
def inode_Put_c35 : ACode := .ops [{ dst := some 53, op := .bin .add (.t 45) (.v (.c (.i .i64 1))) }, { dst := some 45, op := .mv (.t 53) }]
def inode_Put_c36 : ACode := .seq [2, 4, 6, 45] inode_Put_c34 inode_Put_c35
def inode_Put_c37 : ACode := .seq [2, 4, 6, 45] inode_Put_c30 inode_Put_c36
def inode_Put_c38 : ACode := .seq [2, 4, 6, 45, 46] inode_Put_c29 inode_Put_c37
def inode_Put_c39 : ACode := .loop [2, 4, 6, 45] inode_Put_c38
def inode_Put_c40 : ACode := .block 2 inode_Put_c39
def inode_Put_c41 : ACode := .seq [2, 4, 6, 45] inode_Put_c28 inode_Put_c40
def inode_Put_c42 : ACode := .ops [{ dst := some 54, op := .loadN 32 (.t 4) }, { dst := none, op := .storeN 32 (.t 2) (.t 54) }, { dst := some 3, op := .mv (.v (.c (.i .i64 0))) }]
def inode_Put_c43 : ACode := .seq [2, 3] inode_Put_c42 .ret
def inode_Put_c44 : ACode := .seq [2, 4] inode_Put_c41 inode_Put_c43
def inode_Put_c45 : ACode := .seq [2, 4, 6] inode_Put_c27 inode_Put_c44
def inode_Put_c46 : ACode := .seq [1, 2, 4, 6] inode_Put_c13 inode_Put_c45
def inode_Put_c47 : ACode := .seq [1, 2, 4, 6] inode_Put_c12 inode_Put_c46
def inode_Put_c48 : ACode := .seq [1, 2, 4, 6] inode_Put_c11 inode_Put_c47
def inode_Put_c49 : ACode := .seq [1, 2, 4, 6] inode_Put_c10 inode_Put_c48
def inode_Put_c50 : ACode := .seq [1, 2, 4, 6] inode_Put_c9 inode_Put_c49
def inode_Put_c51 : ACode := .seq [1, 2, 4] inode_Put_c8 inode_Put_c50
def inode_Put_c52 : ACode := .seq [1, 2, 4] inode_Put_c1 inode_Put_c51
def inode_Put_c53 : ACode := .seq [1, 2] inode_Put_c0 inode_Put_c52
def A_inode_Put : AFn := ⟨inode_Put_c53, [.cellN 2 32, .tmp 3]⟩
noncomputable def E_inode_Put : Sums := fun f args h => bif Nat.beq f 93 then S_inode_Check args h else bif Nat.beq f 58 then S_num_With args h else bif Nat.beq f 94 then S_inode_Numbers args h else none
noncomputable def inode_Put_c0_d (n : Nat) : Sm (Val × Heap) := smOps E_inode_Put [{ dst := some 1, op := .box (.t 0) }, { dst := some 2, op := .alloc (List.replicate 32 (.i .u8 0)) }, { dst := some 3, op := .mv (.v (.c (.i .i64 0))) }]
noncomputable def inode_Put_c1_d (n : Nat) : Sm (Val × Heap) := smOps E_inode_Put [{ dst := some 4, op := .alloc (List.replicate 32 (.i .u8 0)) }]
noncomputable def inode_Put_c2_d (n : Nat) : Sm (Val × Heap) := smOps E_inode_Put [{ dst := some 10, op := .loadN 11 (.t 1) }, { dst := some 11, op := .call 93 [(.t 10)] }, { dst := some 5, op := .mv (.t 11) }]
noncomputable def inode_Put_c3_d (n : Nat) : Sm (Val × Heap) := smOps E_inode_Put [{ dst := some 12, op := .mv (.t 5) }, { dst := some 13, op := .bin .neq (.t 12) (.v (.c (.i .i64 0))) }]
noncomputable def inode_Put_c4_d (n : Nat) : Sm (Val × Heap) := smOps E_inode_Put [{ dst := some 14, op := .loadN 32 (.t 4) }, { dst := some 15, op := .mv (.t 5) }, { dst := none, op := .storeN 32 (.t 2) (.t 14) }, { dst := some 3, op := .mv (.t 15) }]
noncomputable def inode_Put_c5_d (n : Nat) : Sm (Val × Heap) := smSeq [2, 3] (inode_Put_c4_d n) smRet
noncomputable def inode_Put_c6_d (n : Nat) : Sm (Val × Heap) := smCond (.t 13) (inode_Put_c5_d n) smSkip
noncomputable def inode_Put_c7_d (n : Nat) : Sm (Val × Heap) := smSeq [1, 2, 4, 5, 13] (inode_Put_c3_d n) (inode_Put_c6_d n)
noncomputable def inode_Put_c8_d (n : Nat) : Sm (Val × Heap) := smSeq [1, 2, 4, 5] (inode_Put_c2_d n) (inode_Put_c7_d n)
noncomputable def inode_Put_c9_d (n : Nat) : Sm (Val × Heap) := smOps E_inode_Put [{ dst := some 6, op := .alloc (List.replicate 256 (.i .u8 0)) }]
noncomputable def inode_Put_c10_d (n : Nat) : Sm (Val × Heap) := smOps E_inode_Put [{ dst := some 16, op := .loadN 256 (.t 6) }, { dst := some 17, op := .fAddr (.t 1) 0 }, { dst := some 18, op := .load1 (.t 17) }, { dst := some 19, op := .call 58 [(.t 16), (.v (.c (.i .i64 0))), (.v (.c (.i .i64 1))), (.t 18)] }, { dst := none, op := .storeN 256 (.t 6) (.t 19) }]
noncomputable def inode_Put_c11_d (n : Nat) : Sm (Val × Heap) := smOps E_inode_Put [{ dst := some 20, op := .loadN 256 (.t 6) }, { dst := some 21, op := .fAddr (.t 1) 1 }, { dst := some 22, op := .load1 (.t 21) }, { dst := some 23, op := .call 58 [(.t 20), (.v (.c (.i .i64 2))), (.v (.c (.i .i64 2))), (.t 22)] }, { dst := none, op := .storeN 256 (.t 6) (.t 23) }]
noncomputable def inode_Put_c12_d (n : Nat) : Sm (Val × Heap) := smOps E_inode_Put [{ dst := some 24, op := .loadN 256 (.t 6) }, { dst := some 25, op := .fAddr (.t 1) 2 }, { dst := some 26, op := .load1 (.t 25) }, { dst := some 27, op := .call 58 [(.t 24), (.v (.c (.i .i64 4))), (.v (.c (.i .i64 4))), (.t 26)] }, { dst := none, op := .storeN 256 (.t 6) (.t 27) }]
noncomputable def inode_Put_c13_d (n : Nat) : Sm (Val × Heap) := smOps E_inode_Put [{ dst := some 28, op := .loadN 256 (.t 6) }, { dst := some 29, op := .fAddr (.t 1) 3 }, { dst := some 30, op := .load1 (.t 29) }, { dst := some 31, op := .call 58 [(.t 28), (.v (.c (.i .i64 8))), (.v (.c (.i .i64 2))), (.t 30)] }, { dst := none, op := .storeN 256 (.t 6) (.t 31) }]
noncomputable def inode_Put_c14_d (n : Nat) : Sm (Val × Heap) := smOps E_inode_Put [{ dst := some 32, op := .loadN 11 (.t 1) }, { dst := some 33, op := .call 94 [(.t 32)] }, { dst := some 34, op := .mv (.v (.c (.i .i64 0))) }]
noncomputable def inode_Put_c15_d (n : Nat) : Sm (Val × Heap) := smOps E_inode_Put [{ dst := some 35, op := .bin .lss (.t 34) (.v (.c (.i .i64 7))) }]
noncomputable def inode_Put_c16_d (n : Nat) : Sm (Val × Heap) := smCond (.t 35) smSkip (smExit 0)
noncomputable def inode_Put_c17_d (n : Nat) : Sm (Val × Heap) := smOps E_inode_Put [{ dst := some 36, op := .mv (.t 34) }, { dst := some 37, op := .idxA1 7 (.t 33) (.t 34) }, { dst := some 7, op := .mv (.t 36) }, { dst := some 8, op := .mv (.t 37) }]
noncomputable def inode_Put_c18_d (n : Nat) : Sm (Val × Heap) := smOps E_inode_Put [{ dst := some 38, op := .loadN 256 (.t 6) }, { dst := some 39, op := .mv (.t 7) }, { dst := some 40, op := .bin .mul (.v (.c (.i .i64 2))) (.t 39) }, { dst := some 41, op := .bin .add (.v (.c (.i .i64 10))) (.t 40) }, { dst := some 42, op := .mv (.t 8) }, { dst := some 43, op := .call 58 [(.t 38), (.t 41), (.v (.c (.i .i64 2))), (.t 42)] }, { dst := none, op := .storeN 256 (.t 6) (.t 43) }]
noncomputable def inode_Put_c19_d (n : Nat) : Sm (Val × Heap) := smSeq [2, 4, 6, 7, 8, 33, 34] (inode_Put_c17_d n) (inode_Put_c18_d n)
noncomputable def inode_Put_c20_d (n : Nat) : Sm (Val × Heap) := smBlock 1 (inode_Put_c19_d n)
noncomputable def inode_Put_c21_d (n : Nat) : Sm (Val × Heap) := smOps E_inode_Put [{ dst := some 44, op := .bin .add (.t 34) (.v (.c (.i .i64 1))) }, { dst := some 34, op := .mv (.t 44) }]
noncomputable def inode_Put_c22_d (n : Nat) : Sm (Val × Heap) := smSeq [2, 4, 6, 33, 34] (inode_Put_c20_d n) (inode_Put_c21_d n)
noncomputable def inode_Put_c23_d (n : Nat) : Sm (Val × Heap) := smSeq [2, 4, 6, 33, 34] (inode_Put_c16_d n) (inode_Put_c22_d n)
noncomputable def inode_Put_c24_d (n : Nat) : Sm (Val × Heap) := smSeq [2, 4, 6, 33, 34, 35] (inode_Put_c15_d n) (inode_Put_c23_d n)
noncomputable def inode_Put_c25_d (n : Nat) : Sm (Val × Heap) := smLoop n [2, 4, 6, 33, 34] (inode_Put_c24_d n)
noncomputable def inode_Put_c26_d (n : Nat) : Sm (Val × Heap) := smBlock 0 (inode_Put_c25_d n)
noncomputable def inode_Put_c27_d (n : Nat) : Sm (Val × Heap) := smSeq [2, 4, 6, 33, 34] (inode_Put_c14_d n) (inode_Put_c26_d n)
noncomputable def inode_Put_c28_d (n : Nat) : Sm (Val × Heap) := smOps E_inode_Put [{ dst := some 45, op := .mv (.v (.c (.i .i64 0))) }]
noncomputable def inode_Put_c29_d (n : Nat) : Sm (Val × Heap) := smOps E_inode_Put [{ dst := some 46, op := .bin .lss (.t 45) (.v (.c (.i .i64 32))) }]
noncomputable def inode_Put_c30_d (n : Nat) : Sm (Val × Heap) := smCond (.t 46) smSkip (smExit 2)
noncomputable def inode_Put_c31_d (n : Nat) : Sm (Val × Heap) := smOps E_inode_Put [{ dst := some 47, op := .mv (.t 45) }, { dst := some 9, op := .mv (.t 47) }]
noncomputable def inode_Put_c32_d (n : Nat) : Sm (Val × Heap) := smOps E_inode_Put [{ dst := some 48, op := .mv (.t 9) }, { dst := some 49, op := .mv (.t 9) }, { dst := some 50, op := .iAddrA 256 1 (.t 6) (.t 49) }, { dst := some 51, op := .load1 (.t 50) }, { dst := some 52, op := .iAddrA 32 1 (.t 4) (.t 48) }, { dst := none, op := .store1 (.t 52) (.t 51) }]
noncomputable def inode_Put_c33_d (n : Nat) : Sm (Val × Heap) := smSeq [2, 4, 6, 9, 45] (inode_Put_c31_d n) (inode_Put_c32_d n)
noncomputable def inode_Put_c34_d (n : Nat) : Sm (Val × Heap) := smBlock 3 (inode_Put_c33_d n)
noncomputable def inode_Put_c35_d (n : Nat) : Sm (Val × Heap) := smOps E_inode_Put [{ dst := some 53, op := .bin .add (.t 45) (.v (.c (.i .i64 1))) }, { dst := some 45, op := .mv (.t 53) }]
noncomputable def inode_Put_c36_d (n : Nat) : Sm (Val × Heap) := smSeq [2, 4, 6, 45] (inode_Put_c34_d n) (inode_Put_c35_d n)
noncomputable def inode_Put_c37_d (n : Nat) : Sm (Val × Heap) := smSeq [2, 4, 6, 45] (inode_Put_c30_d n) (inode_Put_c36_d n)
noncomputable def inode_Put_c38_d (n : Nat) : Sm (Val × Heap) := smSeq [2, 4, 6, 45, 46] (inode_Put_c29_d n) (inode_Put_c37_d n)
noncomputable def inode_Put_c39_d (n : Nat) : Sm (Val × Heap) := smLoop n [2, 4, 6, 45] (inode_Put_c38_d n)
noncomputable def inode_Put_c40_d (n : Nat) : Sm (Val × Heap) := smBlock 2 (inode_Put_c39_d n)
noncomputable def inode_Put_c41_d (n : Nat) : Sm (Val × Heap) := smSeq [2, 4, 6, 45] (inode_Put_c28_d n) (inode_Put_c40_d n)
noncomputable def inode_Put_c42_d (n : Nat) : Sm (Val × Heap) := smOps E_inode_Put [{ dst := some 54, op := .loadN 32 (.t 4) }, { dst := none, op := .storeN 32 (.t 2) (.t 54) }, { dst := some 3, op := .mv (.v (.c (.i .i64 0))) }]
noncomputable def inode_Put_c43_d (n : Nat) : Sm (Val × Heap) := smSeq [2, 3] (inode_Put_c42_d n) smRet
noncomputable def inode_Put_c44_d (n : Nat) : Sm (Val × Heap) := smSeq [2, 4] (inode_Put_c41_d n) (inode_Put_c43_d n)
noncomputable def inode_Put_c45_d (n : Nat) : Sm (Val × Heap) := smSeq [2, 4, 6] (inode_Put_c27_d n) (inode_Put_c44_d n)
noncomputable def inode_Put_c46_d (n : Nat) : Sm (Val × Heap) := smSeq [1, 2, 4, 6] (inode_Put_c13_d n) (inode_Put_c45_d n)
noncomputable def inode_Put_c47_d (n : Nat) : Sm (Val × Heap) := smSeq [1, 2, 4, 6] (inode_Put_c12_d n) (inode_Put_c46_d n)
noncomputable def inode_Put_c48_d (n : Nat) : Sm (Val × Heap) := smSeq [1, 2, 4, 6] (inode_Put_c11_d n) (inode_Put_c47_d n)
noncomputable def inode_Put_c49_d (n : Nat) : Sm (Val × Heap) := smSeq [1, 2, 4, 6] (inode_Put_c10_d n) (inode_Put_c48_d n)
noncomputable def inode_Put_c50_d (n : Nat) : Sm (Val × Heap) := smSeq [1, 2, 4, 6] (inode_Put_c9_d n) (inode_Put_c49_d n)
noncomputable def inode_Put_c51_d (n : Nat) : Sm (Val × Heap) := smSeq [1, 2, 4] (inode_Put_c8_d n) (inode_Put_c50_d n)
noncomputable def inode_Put_c52_d (n : Nat) : Sm (Val × Heap) := smSeq [1, 2, 4] (inode_Put_c1_d n) (inode_Put_c51_d n)
noncomputable def inode_Put_c53_d (n : Nat) : Sm (Val × Heap) := smSeq [1, 2] (inode_Put_c0_d n) (inode_Put_c52_d n)
noncomputable def inode_Put_k0 (n : Nat) : AExit → Env → Heap → Option (Val × Heap) := fun x e h => match x with | .normal => hold ((inode_Put_c44_d n) A_inode_Put.fin (e.keep [2, 4, 6]) h) | .exit id => A_inode_Put.fin (.exit id) e h | .ret => A_inode_Put.fin .ret e h
noncomputable def inode_Put_k1 (n : Nat) : AExit → Env → Heap → Option (Val × Heap) := fun x e h => match x with | .exit i => bif Nat.beq i 0 then (inode_Put_k0 n) .normal e h else (inode_Put_k0 n) (.exit i) e h | .normal => (inode_Put_k0 n) .normal e h | .ret => (inode_Put_k0 n) .ret e h
noncomputable def inode_Put_l0 (n m : Nat) (x2 x4 x6 x33 x34 : Val) (h : Heap) : Option (Val × Heap) := around (inode_Put_c24_d n) [2, 4, 6, 33, 34] (inode_Put_k1 n) m [(2, x2), (4, x4), (6, x6), (33, x33), (34, x34)] h
noncomputable def R_inode_Put (n : Nat) (args : List Val) (h : Heap) : Option (Val × Heap) := (inode_Put_c53_d n) A_inode_Put.fin (params 0 args) h
noncomputable def inode_Put_k2 (n : Nat) : AExit → Env → Heap → Option (Val × Heap) := fun x e h => match x with | .normal => hold ((inode_Put_c43_d n) A_inode_Put.fin (e.keep [2, 4]) h) | .exit id => A_inode_Put.fin (.exit id) e h | .ret => A_inode_Put.fin .ret e h
noncomputable def inode_Put_k3 (n : Nat) : AExit → Env → Heap → Option (Val × Heap) := fun x e h => match x with | .exit i => bif Nat.beq i 2 then (inode_Put_k2 n) .normal e h else (inode_Put_k2 n) (.exit i) e h | .normal => (inode_Put_k2 n) .normal e h | .ret => (inode_Put_k2 n) .ret e h
noncomputable def inode_Put_l1 (n m : Nat) (x2 x4 x6 x45 : Val) (h : Heap) : Option (Val × Heap) := around (inode_Put_c38_d n) [2, 4, 6, 45] (inode_Put_k3 n) m [(2, x2), (4, x4), (6, x6), (45, x45)] h
theorem R_inode_Put_run (n : Nat) (args : List Val) (h : Heap) : A_inode_Put.run E_inode_Put n args h = R_inode_Put n args h := by kernel_rfl
theorem R_inode_Put_eq (n : Nat) (a0 : Val) (h : Heap) : R_inode_Put n [a0] h = bnd (cells? a0) fun c1 => bnd (aloadN ((((h ++ [some (Row.mk (c1) true)]) ++ [some (Row.mk (List.replicate 32 (.i .u8 0)) true)]) ++ [some (Row.mk (List.replicate 32 (.i .u8 0)) true)])) 11 ((.c (.p h.length 0)))) fun v2 => bnd (S_inode_Check [v2] ((((h ++ [some (Row.mk (c1) true)]) ++ [some (Row.mk (List.replicate 32 (.i .u8 0)) true)]) ++ [some (Row.mk (List.replicate 32 (.i .u8 0)) true)]))) fun p3 => bnd (abin .neq p3.1 (.c (.i .i64 0))) fun v4 => cnd v4 (bnd (aloadN p3.2 32 ((.c (.p (((h ++ [some (Row.mk (c1) true)]) ++ [some (Row.mk (List.replicate 32 (.i .u8 0)) true)])).length 0)))) fun v5 => bnd (astoreN p3.2 32 ((.c (.p ((h ++ [some (Row.mk (c1) true)])).length 0))) v5) fun h6 => tupN [aloadN h6 32 ((.c (.p ((h ++ [some (Row.mk (c1) true)])).length 0))), some p3.1] h6) (bnd (aloadN ((p3.2 ++ [some (Row.mk (List.replicate 256 (.i .u8 0)) true)])) 256 ((.c (.p p3.2.length 0)))) fun v7 => bnd (afAddr ((.c (.p h.length 0))) 0) fun v8 => bnd (aload1 ((p3.2 ++ [some (Row.mk (List.replicate 256 (.i .u8 0)) true)])) v8) fun v9 => bnd (S_num_With [v7, .c (.i .i64 0), .c (.i .i64 1), v9] ((p3.2 ++ [some (Row.mk (List.replicate 256 (.i .u8 0)) true)]))) fun p10 => bnd (astoreN p10.2 256 ((.c (.p p3.2.length 0))) p10.1) fun h11 => bnd (aloadN h11 256 ((.c (.p p3.2.length 0)))) fun v12 => bnd (afAddr ((.c (.p h.length 0))) 1) fun v13 => bnd (aload1 h11 v13) fun v14 => bnd (S_num_With [v12, .c (.i .i64 2), .c (.i .i64 2), v14] h11) fun p15 => bnd (astoreN p15.2 256 ((.c (.p p3.2.length 0))) p15.1) fun h16 => bnd (aloadN h16 256 ((.c (.p p3.2.length 0)))) fun v17 => bnd (afAddr ((.c (.p h.length 0))) 2) fun v18 => bnd (aload1 h16 v18) fun v19 => bnd (S_num_With [v17, .c (.i .i64 4), .c (.i .i64 4), v19] h16) fun p20 => bnd (astoreN p20.2 256 ((.c (.p p3.2.length 0))) p20.1) fun h21 => bnd (aloadN h21 256 ((.c (.p p3.2.length 0)))) fun v22 => bnd (afAddr ((.c (.p h.length 0))) 3) fun v23 => bnd (aload1 h21 v23) fun v24 => bnd (S_num_With [v22, .c (.i .i64 8), .c (.i .i64 2), v24] h21) fun p25 => bnd (astoreN p25.2 256 ((.c (.p p3.2.length 0))) p25.1) fun h26 => bnd (aloadN h26 11 ((.c (.p h.length 0)))) fun v27 => bnd (S_inode_Numbers [v27] h26) fun p28 => inode_Put_l0 n n ((.c (.p ((h ++ [some (Row.mk (c1) true)])).length 0))) ((.c (.p (((h ++ [some (Row.mk (c1) true)]) ++ [some (Row.mk (List.replicate 32 (.i .u8 0)) true)])).length 0))) ((.c (.p p3.2.length 0))) p28.1 (.c (.i .i64 0)) p28.2) := by kernel_rfl
theorem inode_Put_l0_eq (n m : Nat) (x2 x4 x6 x33 x34 : Val) (h : Heap) : inode_Put_l0 n (m + 1) x2 x4 x6 x33 x34 h = bnd (abin .lss x34 (.c (.i .i64 7))) fun v29 => cnd v29 (bnd (aidxA1 7 x33 x34) fun v30 => bnd (aloadN h 256 x6) fun v31 => bnd (abin .mul (.c (.i .i64 2)) x34) fun v32 => bnd (abin .add (.c (.i .i64 10)) v32) fun v33 => bnd (S_num_With [v31, v33, .c (.i .i64 2), v30] h) fun p34 => bnd (astoreN p34.2 256 x6 p34.1) fun h35 => bnd (abin .add x34 (.c (.i .i64 1))) fun v36 => inode_Put_l0 n m x2 x4 x6 x33 v36 h35) (inode_Put_l1 n n x2 x4 x6 (.c (.i .i64 0)) h) := by kernel_rfl
theorem inode_Put_l1_eq (n m : Nat) (x2 x4 x6 x45 : Val) (h : Heap) : inode_Put_l1 n (m + 1) x2 x4 x6 x45 h = bnd (abin .lss x45 (.c (.i .i64 32))) fun v37 => cnd v37 (bnd (aiAddrA 256 1 x6 x45) fun v38 => bnd (aload1 h v38) fun v39 => bnd (aiAddrA 32 1 x4 x45) fun v40 => bnd (astore1 h v40 v39) fun h41 => bnd (abin .add x45 (.c (.i .i64 1))) fun v42 => inode_Put_l1 n m x2 x4 x6 v42 h41) (bnd (aloadN h 32 x4) fun v43 => bnd (astoreN h 32 x2 v43) fun h44 => tupN [aloadN h44 32 x2, some (.c (.i .i64 0))] h44) := by kernel_rfl
theorem chk_inode_Put : chkFn Try.prog Try.f92 A_inode_Put = true := by kernel_rfl
theorem E_inode_Put_sound : Sound Try.prog E_inode_Put := by
  intro f args h v h2 he
  unfold E_inode_Put at he
  cases hb0 : Nat.beq f 93 with
  | true => rw [hb0] at he; have e := Nat.eq_of_beq_eq_true hb0; subst e; exact S_inode_Check_ok args h v h2 he
  | false =>
    rw [hb0] at he; simp only [cond_false] at he
    cases hb1 : Nat.beq f 58 with
    | true => rw [hb1] at he; have e := Nat.eq_of_beq_eq_true hb1; subst e; exact S_num_With_ok args h v h2 he
    | false =>
      rw [hb1] at he; simp only [cond_false] at he
      cases hb2 : Nat.beq f 94 with
      | true => rw [hb2] at he; have e := Nat.eq_of_beq_eq_true hb2; subst e; exact S_inode_Numbers_ok args h v h2 he
      | false =>
        rw [hb2] at he; simp only [cond_false] at he
        cases he

theorem R_inode_Put_ok {n : Nat} {args : List Val} {h h2 : Heap} {v : Val} (he : R_inode_Put n args h = some (v, h2)) : Callable Try.prog 92 ∧ CallOk Try.prog 92 args h v h2 ∧ h.length ≤ h2.length := fn_ok E_inode_Put_sound Try.func92 chk_inode_Put ((R_inode_Put_run ..).trans he)
theorem L_inode_Put_ok (args : List Val) (h : Heap) (v : Val) (h2 : Heap) (he : Lim A_inode_Put E_inode_Put args h = some (v, h2)) : Callable Try.prog 92 ∧ CallOk Try.prog 92 args h v h2 ∧ h.length ≤ h2.length := (Lim_run he).elim fun _ e => R_inode_Put_ok ((R_inode_Put_run ..).symm.trans e)
theorem L_inode_Put_of {n : Nat} {args : List Val} {h : Heap} {p : Val × Heap} (he : R_inode_Put n args h = some p) : Lim A_inode_Put E_inode_Put args h = some p := Lim_of ((R_inode_Put_run ..).trans he)
noncomputable def S_inode_Put : List Val → Heap → Option (Val × Heap) := tidy (Lim A_inode_Put E_inode_Put)
theorem S_inode_Put_ok (args : List Val) (h : Heap) (v : Val) (h2 : Heap) (he : S_inode_Put args h = some (v, h2)) : Callable Try.prog 92 ∧ CallOk Try.prog 92 args h v h2 ∧ h.length ≤ h2.length := tidy_ok L_inode_Put_ok args h v h2 he
theorem S_inode_Put_flat {n : Nat} {args : List Val} {h h2 : Heap} {v : Val} (he : R_inode_Put n args (ro h) = some (v, h2)) (hf : v.flat = true) : S_inode_Put args h = some (v, h) := tidy_flat (L_inode_Put_of he) hf
theorem S_inode_Put_low {n : Nat} {args : List Val} {h h2 : Heap} {v : Val} (he : R_inode_Put n args (ro h) = some (v, h2)) (hf : v.low h.length = true) : S_inode_Put args h = some (v, h) := tidy_low (L_inode_Put_of he) hf
theorem S_inode_Put_out {n : Nat} {args : List Val} {h h2 : Heap} {v : Val} {sz k : Nat} {cs : List Cell} (he : R_inode_Put n args (ro h) = some (v, h2)) (ho : Out h.length h2 v sz k cs) (hf : flats cs = true) : S_inode_Put args h = some (.c (.sl h.length 0 k sz), h ++ [some ⟨cs, true⟩]) := tidy_out (L_inode_Put_of he) ho hf
theorem S_inode_Put_tidy {n : Nat} {args : List Val} {h h2 : Heap} {v v2 : Val} {ids : List Nat} (he : R_inode_Put n args (ro h) = some (v, h2)) (hc : canonV h2 h.length v = some (v2, ids)) : S_inode_Put args h = some (v2, h ++ ids.map (rd h2)) := tidy_of (L_inode_Put_of he) hc
def inode_Blocks_c0 : ACode := .ops [{ dst := some 2, op := .mv (.v (.c (.i .i64 0))) }]
def inode_Blocks_c1 : ACode := .ops [{ dst := some 4, op := .mv (.t 0) }, { dst := some 5, op := .bin .lss (.t 4) (.v (.c (.i .i64 1))) }, { dst := some 3, op := .mv (.t 5) }]
def inode_Blocks_c2 : ACode := .ops [{ dst := some 2, op := .mv (.v (.c (.i .i64 0))) }]
def inode_Blocks_c3 : ACode := .seq [2] inode_Blocks_c2 .ret
def inode_Blocks_c4 : ACode := .ops [{ dst := some 7, op := .mv (.t 0) }, { dst := some 8, op := .bin .gtr (.t 7) (.v (.c (.i .i64 34304))) }, { dst := some 6, op := .mv (.t 8) }]
def inode_Blocks_c5 : ACode := .ops [{ dst := some 2, op := .mv (.v (.c (.i .i64 134))) }]
def inode_Blocks_c6 : ACode := .seq [2] inode_Blocks_c5 .ret
def inode_Blocks_c7 : ACode := .cond (.t 6) inode_Blocks_c6 .skip
def inode_Blocks_c8 : ACode := .seq [0, 6] inode_Blocks_c4 inode_Blocks_c7
def inode_Blocks_c9 : ACode := .cond (.t 3) inode_Blocks_c3 inode_Blocks_c8
def inode_Blocks_c10 : ACode := .seq [0, 3] inode_Blocks_c1 inode_Blocks_c9
def inode_Blocks_c11 : ACode := .block 0 inode_Blocks_c10
def inode_Blocks_c12 : ACode := .ops [{ dst := some 9, op := .mv (.t 0) }, { dst := some 10, op := .bin .add (.t 9) (.v (.c (.i .i64 256))) }, { dst := some 11, op := .bin .sub (.t 10) (.v (.c (.i .i64 1))) }, { dst := some 12, op := .bin .quo (.t 11) (.v (.c (.i .i64 256))) }, { dst := some 2, op := .mv (.t 12) }]
def inode_Blocks_c13 : ACode := .seq [2] inode_Blocks_c12 .ret
def inode_Blocks_c14 : ACode := .seq [0] inode_Blocks_c11 inode_Blocks_c13
def inode_Blocks_c15 : ACode := .seq [0] inode_Blocks_c0 inode_Blocks_c14
def A_inode_Blocks : AFn := ⟨inode_Blocks_c15, [.tmp 2]⟩
noncomputable def E_inode_Blocks : Sums := fun f args h => none
noncomputable def inode_Blocks_c0_d (n : Nat) : Sm (Val × Heap) := smOps E_inode_Blocks [{ dst := some 2, op := .mv (.v (.c (.i .i64 0))) }]
noncomputable def inode_Blocks_c1_d (n : Nat) : Sm (Val × Heap) := smOps E_inode_Blocks [{ dst := some 4, op := .mv (.t 0) }, { dst := some 5, op := .bin .lss (.t 4) (.v (.c (.i .i64 1))) }, { dst := some 3, op := .mv (.t 5) }]
noncomputable def inode_Blocks_c2_d (n : Nat) : Sm (Val × Heap) := smOps E_inode_Blocks [{ dst := some 2, op := .mv (.v (.c (.i .i64 0))) }]
noncomputable def inode_Blocks_c3_d (n : Nat) : Sm (Val × Heap) := smSeq [2] (inode_Blocks_c2_d n) smRet
noncomputable def inode_Blocks_c4_d (n : Nat) : Sm (Val × Heap) := smOps E_inode_Blocks [{ dst := some 7, op := .mv (.t 0) }, { dst := some 8, op := .bin .gtr (.t 7) (.v (.c (.i .i64 34304))) }, { dst := some 6, op := .mv (.t 8) }]
noncomputable def inode_Blocks_c5_d (n : Nat) : Sm (Val × Heap) := smOps E_inode_Blocks [{ dst := some 2, op := .mv (.v (.c (.i .i64 134))) }]
noncomputable def inode_Blocks_c6_d (n : Nat) : Sm (Val × Heap) := smSeq [2] (inode_Blocks_c5_d n) smRet
noncomputable def inode_Blocks_c7_d (n : Nat) : Sm (Val × Heap) := smCond (.t 6) (inode_Blocks_c6_d n) smSkip
noncomputable def inode_Blocks_c8_d (n : Nat) : Sm (Val × Heap) := smSeq [0, 6] (inode_Blocks_c4_d n) (inode_Blocks_c7_d n)
noncomputable def inode_Blocks_c9_d (n : Nat) : Sm (Val × Heap) := smCond (.t 3) (inode_Blocks_c3_d n) (inode_Blocks_c8_d n)
noncomputable def inode_Blocks_c10_d (n : Nat) : Sm (Val × Heap) := smSeq [0, 3] (inode_Blocks_c1_d n) (inode_Blocks_c9_d n)
noncomputable def inode_Blocks_c11_d (n : Nat) : Sm (Val × Heap) := smBlock 0 (inode_Blocks_c10_d n)
noncomputable def inode_Blocks_c12_d (n : Nat) : Sm (Val × Heap) := smOps E_inode_Blocks [{ dst := some 9, op := .mv (.t 0) }, { dst := some 10, op := .bin .add (.t 9) (.v (.c (.i .i64 256))) }, { dst := some 11, op := .bin .sub (.t 10) (.v (.c (.i .i64 1))) }, { dst := some 12, op := .bin .quo (.t 11) (.v (.c (.i .i64 256))) }, { dst := some 2, op := .mv (.t 12) }]
noncomputable def inode_Blocks_c13_d (n : Nat) : Sm (Val × Heap) := smSeq [2] (inode_Blocks_c12_d n) smRet
noncomputable def inode_Blocks_c14_d (n : Nat) : Sm (Val × Heap) := smSeq [0] (inode_Blocks_c11_d n) (inode_Blocks_c13_d n)
noncomputable def inode_Blocks_c15_d (n : Nat) : Sm (Val × Heap) := smSeq [0] (inode_Blocks_c0_d n) (inode_Blocks_c14_d n)
noncomputable def R_inode_Blocks (n : Nat) (args : List Val) (h : Heap) : Option (Val × Heap) := (inode_Blocks_c15_d n) A_inode_Blocks.fin (params 0 args) h
theorem R_inode_Blocks_run (n : Nat) (args : List Val) (h : Heap) : A_inode_Blocks.run E_inode_Blocks n args h = R_inode_Blocks n args h := by kernel_rfl
theorem R_inode_Blocks_eq (n : Nat) (a0 : Val) (h : Heap) : R_inode_Blocks n [a0] h = bnd (abin .lss a0 (.c (.i .i64 1))) fun v1 => cnd v1 (some ((.c (.i .i64 0)), h)) (bnd (abin .gtr a0 (.c (.i .i64 34304))) fun v2 => cnd v2 (some ((.c (.i .i64 134)), h)) (bnd (abin .add a0 (.c (.i .i64 256))) fun v3 => bnd (abin .sub v3 (.c (.i .i64 1))) fun v4 => bnd (abin .quo v4 (.c (.i .i64 256))) fun v5 => some (v5, h))) := by kernel_rfl
theorem chk_inode_Blocks : chkFn Try.prog Try.f98 A_inode_Blocks = true := by kernel_rfl
theorem E_inode_Blocks_sound : Sound Try.prog E_inode_Blocks := by
  intro f args h v h2 he
  unfold E_inode_Blocks at he
  cases he

theorem R_inode_Blocks_ok {n : Nat} {args : List Val} {h h2 : Heap} {v : Val} (he : R_inode_Blocks n args h = some (v, h2)) : Callable Try.prog 98 ∧ CallOk Try.prog 98 args h v h2 ∧ h.length ≤ h2.length := fn_ok E_inode_Blocks_sound Try.func98 chk_inode_Blocks ((R_inode_Blocks_run ..).trans he)
theorem L_inode_Blocks_ok (args : List Val) (h : Heap) (v : Val) (h2 : Heap) (he : Lim A_inode_Blocks E_inode_Blocks args h = some (v, h2)) : Callable Try.prog 98 ∧ CallOk Try.prog 98 args h v h2 ∧ h.length ≤ h2.length := (Lim_run he).elim fun _ e => R_inode_Blocks_ok ((R_inode_Blocks_run ..).symm.trans e)
theorem L_inode_Blocks_of {n : Nat} {args : List Val} {h : Heap} {p : Val × Heap} (he : R_inode_Blocks n args h = some p) : Lim A_inode_Blocks E_inode_Blocks args h = some p := Lim_of ((R_inode_Blocks_run ..).trans he)
noncomputable def S_inode_Blocks : List Val → Heap → Option (Val × Heap) := tidy (Lim A_inode_Blocks E_inode_Blocks)
theorem S_inode_Blocks_ok (args : List Val) (h : Heap) (v : Val) (h2 : Heap) (he : S_inode_Blocks args h = some (v, h2)) : Callable Try.prog 98 ∧ CallOk Try.prog 98 args h v h2 ∧ h.length ≤ h2.length := tidy_ok L_inode_Blocks_ok args h v h2 he
theorem S_inode_Blocks_flat {n : Nat} {args : List Val} {h h2 : Heap} {v : Val} (he : R_inode_Blocks n args (ro h) = some (v, h2)) (hf : v.flat = true) : S_inode_Blocks args h = some (v, h) := tidy_flat (L_inode_Blocks_of he) hf
theorem S_inode_Blocks_low {n : Nat} {args : List Val} {h h2 : Heap} {v : Val} (he : R_inode_Blocks n args (ro h) = some (v, h2)) (hf : v.low h.length = true) : S_inode_Blocks args h = some (v, h) := tidy_low (L_inode_Blocks_of he) hf
theorem S_inode_Blocks_out {n : Nat} {args : List Val} {h h2 : Heap} {v : Val} {sz k : Nat} {cs : List Cell} (he : R_inode_Blocks n args (ro h) = some (v, h2)) (ho : Out h.length h2 v sz k cs) (hf : flats cs = true) : S_inode_Blocks args h = some (.c (.sl h.length 0 k sz), h ++ [some ⟨cs, true⟩]) := tidy_out (L_inode_Blocks_of he) ho hf
theorem S_inode_Blocks_tidy {n : Nat} {args : List Val} {h h2 : Heap} {v v2 : Val} {ids : List Nat} (he : R_inode_Blocks n args (ro h) = some (v, h2)) (hc : canonV h2 h.length v = some (v2, ids)) : S_inode_Blocks args h = some (v2, h ++ ids.map (rd h2)) := tidy_of (L_inode_Blocks_of he) hc
def inode_Get_c0 : ACode := .ops [{ dst := some 1, op := .box (.t 0) }, { dst := some 2, op := .alloc ([.i .i64 0, .i .i64 0, .i .i64 0, .i .i64 0, .i .i64 0, .i .i64 0, .i .i64 0, .i .i64 0, .i .i64 0, .i .i64 0, .i .i64 0]) }]
def inode_Get_c1 : ACode := .ops [{ dst := some 6, op := .slA 32 1 (.t 1) none none }, { dst := some 7, op := .call 82 [(.t 6)] }, { dst := some 3, op := .alloc (List.replicate 256 (.i .u8 0)) }, { dst := none, op := .storeN 256 (.t 3) (.t 7) }]
def inode_Get_c2 : ACode := .draw 1 [{ dst := some 8, op := .loadN 256 (.t 3) }, { dst := some 9, op := .call 59 [(.t 8), (.v (.c (.i .i64 0))), (.v (.c (.i .i64 1)))] }, { dst := some 10, op := .loadN 256 (.t 3) }, { dst := some 11, op := .call 59 [(.t 10), (.v (.c (.i .i64 2))), (.v (.c (.i .i64 2)))] }, { dst := some 12, op := .loadN 256 (.t 3) }, { dst := some 13, op := .call 59 [(.t 12), (.v (.c (.i .i64 4))), (.v (.c (.i .i64 4)))] }, { dst := some 14, op := .loadN 256 (.t 3) }, { dst := some 15, op := .call 59 [(.t 14), (.v (.c (.i .i64 8))), (.v (.c (.i .i64 2)))] }, { dst := some 16, op := .build ([.i .i64 0, .i .i64 0, .i .i64 0, .i .i64 0, .i .i64 0, .i .i64 0, .i .i64 0, .i .i64 0, .i .i64 0, .i .i64 0, .i .i64 0]) [(0, 1, (.t 9)), (1, 1, (.t 11)), (2, 1, (.t 13)), (3, 1, (.t 15))] }, { dst := some 4, op := .alloc ([.i .i64 0, .i .i64 0, .i .i64 0, .i .i64 0, .i .i64 0, .i .i64 0, .i .i64 0, .i .i64 0, .i .i64 0, .i .i64 0, .i .i64 0]), slot := some 0 }] [{ dst := none, op := .storeN 11 (.t 4) (.t 16) }]
def inode_Get_c3 : ACode := .ops [{ dst := some 17, op := .mv (.v (.c (.i .i64 0))) }]
def inode_Get_c4 : ACode := .ops [{ dst := some 18, op := .bin .lss (.t 17) (.v (.c (.i .i64 6))) }]
def inode_Get_c5 : ACode := .cond (.t 18) .skip (.exit 0)
def inode_Get_c6 : ACode := .ops [{ dst := some 19, op := .mv (.t 17) }, { dst := some 5, op := .mv (.t 19) }]
def inode_Get_c7 : ACode := .ops [{ dst := some 20, op := .mv (.t 5) }, { dst := some 21, op := .loadN 256 (.t 3) }, { dst := some 22, op := .mv (.t 5) }, { dst := some 23, op := .bin .mul (.v (.c (.i .i64 2))) (.t 22) }, { dst := some 24, op := .bin .add (.v (.c (.i .i64 10))) (.t 23) }, { dst := some 25, op := .call 59 [(.t 21), (.t 24), (.v (.c (.i .i64 2)))] }, { dst := some 26, op := .fAddr (.t 4) 4 }, { dst := some 27, op := .iAddrA 6 1 (.t 26) (.t 20) }, { dst := none, op := .store1 (.t 27) (.t 25) }]
def inode_Get_c8 : ACode := .seq [2, 3, 4, 5, 17] inode_Get_c6 inode_Get_c7
def inode_Get_c9 : ACode := .block 1 inode_Get_c8
def inode_Get_c10 : ACode := .ops [{ dst := some 28, op := .bin .add (.t 17) (.v (.c (.i .i64 1))) }, { dst := some 17, op := .mv (.t 28) }]
def inode_Get_c11 : ACode := .seq [2, 3, 4, 17] inode_Get_c9 inode_Get_c10
def inode_Get_c12 : ACode := .seq [2, 3, 4, 17] inode_Get_c5 inode_Get_c11
def inode_Get_c13 : ACode := .seq [2, 3, 4, 17, 18] inode_Get_c4 inode_Get_c12
def inode_Get_c14 : ACode := .loop [2, 3, 4, 17] inode_Get_c13
def inode_Get_c15 : ACode := .block 0 inode_Get_c14
def inode_Get_c16 : ACode := .seq [2, 3, 4, 17] inode_Get_c3 inode_Get_c15
def inode_Get_c17 : ACode := .ops [{ dst := some 29, op := .loadN 256 (.t 3) }, { dst := some 30, op := .call 59 [(.t 29), (.v (.c (.i .i64 22))), (.v (.c (.i .i64 2)))] }, { dst := some 31, op := .fAddr (.t 4) 10 }, { dst := none, op := .store1 (.t 31) (.t 30) }]
def inode_Get_c18 : ACode := .ops [{ dst := some 32, op := .loadN 11 (.t 4) }, { dst := none, op := .storeN 11 (.t 2) (.t 32) }]
def inode_Get_c19 : ACode := .seq [2] inode_Get_c18 .ret
def inode_Get_c20 : ACode := .seq [2, 4] inode_Get_c17 inode_Get_c19
def inode_Get_c21 : ACode := .seq [2, 3, 4] inode_Get_c16 inode_Get_c20
def inode_Get_c22 : ACode := .seq [2, 3, 4] inode_Get_c2 inode_Get_c21
def inode_Get_c23 : ACode := .seq [2, 3] inode_Get_c1 inode_Get_c22
def inode_Get_c24 : ACode := .seq [1, 2] inode_Get_c0 inode_Get_c23
def A_inode_Get : AFn := ⟨inode_Get_c24, [.cellN 2 11]⟩
noncomputable def E_inode_Get : Sums := fun f args h => bif Nat.beq f 82 then S_num_Of args h else bif Nat.beq f 59 then S_num_At args h else none
noncomputable def inode_Get_c0_d (n : Nat) : Sm (Val × Heap) := smOps E_inode_Get [{ dst := some 1, op := .box (.t 0) }, { dst := some 2, op := .alloc ([.i .i64 0, .i .i64 0, .i .i64 0, .i .i64 0, .i .i64 0, .i .i64 0, .i .i64 0, .i .i64 0, .i .i64 0, .i .i64 0, .i .i64 0]) }]
noncomputable def inode_Get_c1_d (n : Nat) : Sm (Val × Heap) := smOps E_inode_Get [{ dst := some 6, op := .slA 32 1 (.t 1) none none }, { dst := some 7, op := .call 82 [(.t 6)] }, { dst := some 3, op := .alloc (List.replicate 256 (.i .u8 0)) }, { dst := none, op := .storeN 256 (.t 3) (.t 7) }]
noncomputable def inode_Get_c2_d (n : Nat) : Sm (Val × Heap) := smDraw E_inode_Get 1 [{ dst := some 8, op := .loadN 256 (.t 3) }, { dst := some 9, op := .call 59 [(.t 8), (.v (.c (.i .i64 0))), (.v (.c (.i .i64 1)))] }, { dst := some 10, op := .loadN 256 (.t 3) }, { dst := some 11, op := .call 59 [(.t 10), (.v (.c (.i .i64 2))), (.v (.c (.i .i64 2)))] }, { dst := some 12, op := .loadN 256 (.t 3) }, { dst := some 13, op := .call 59 [(.t 12), (.v (.c (.i .i64 4))), (.v (.c (.i .i64 4)))] }, { dst := some 14, op := .loadN 256 (.t 3) }, { dst := some 15, op := .call 59 [(.t 14), (.v (.c (.i .i64 8))), (.v (.c (.i .i64 2)))] }, { dst := some 16, op := .build ([.i .i64 0, .i .i64 0, .i .i64 0, .i .i64 0, .i .i64 0, .i .i64 0, .i .i64 0, .i .i64 0, .i .i64 0, .i .i64 0, .i .i64 0]) [(0, 1, (.t 9)), (1, 1, (.t 11)), (2, 1, (.t 13)), (3, 1, (.t 15))] }, { dst := some 4, op := .alloc ([.i .i64 0, .i .i64 0, .i .i64 0, .i .i64 0, .i .i64 0, .i .i64 0, .i .i64 0, .i .i64 0, .i .i64 0, .i .i64 0, .i .i64 0]), slot := some 0 }] [{ dst := none, op := .storeN 11 (.t 4) (.t 16) }]
noncomputable def inode_Get_c3_d (n : Nat) : Sm (Val × Heap) := smOps E_inode_Get [{ dst := some 17, op := .mv (.v (.c (.i .i64 0))) }]
noncomputable def inode_Get_c4_d (n : Nat) : Sm (Val × Heap) := smOps E_inode_Get [{ dst := some 18, op := .bin .lss (.t 17) (.v (.c (.i .i64 6))) }]
noncomputable def inode_Get_c5_d (n : Nat) : Sm (Val × Heap) := smCond (.t 18) smSkip (smExit 0)
noncomputable def inode_Get_c6_d (n : Nat) : Sm (Val × Heap) := smOps E_inode_Get [{ dst := some 19, op := .mv (.t 17) }, { dst := some 5, op := .mv (.t 19) }]
noncomputable def inode_Get_c7_d (n : Nat) : Sm (Val × Heap) := smOps E_inode_Get [{ dst := some 20, op := .mv (.t 5) }, { dst := some 21, op := .loadN 256 (.t 3) }, { dst := some 22, op := .mv (.t 5) }, { dst := some 23, op := .bin .mul (.v (.c (.i .i64 2))) (.t 22) }, { dst := some 24, op := .bin .add (.v (.c (.i .i64 10))) (.t 23) }, { dst := some 25, op := .call 59 [(.t 21), (.t 24), (.v (.c (.i .i64 2)))] }, { dst := some 26, op := .fAddr (.t 4) 4 }, { dst := some 27, op := .iAddrA 6 1 (.t 26) (.t 20) }, { dst := none, op := .store1 (.t 27) (.t 25) }]
noncomputable def inode_Get_c8_d (n : Nat) : Sm (Val × Heap) := smSeq [2, 3, 4, 5, 17] (inode_Get_c6_d n) (inode_Get_c7_d n)
noncomputable def inode_Get_c9_d (n : Nat) : Sm (Val × Heap) := smBlock 1 (inode_Get_c8_d n)
noncomputable def inode_Get_c10_d (n : Nat) : Sm (Val × Heap) := smOps E_inode_Get [{ dst := some 28, op := .bin .add (.t 17) (.v (.c (.i .i64 1))) }, { dst := some 17, op := .mv (.t 28) }]
noncomputable def inode_Get_c11_d (n : Nat) : Sm (Val × Heap) := smSeq [2, 3, 4, 17] (inode_Get_c9_d n) (inode_Get_c10_d n)
noncomputable def inode_Get_c12_d (n : Nat) : Sm (Val × Heap) := smSeq [2, 3, 4, 17] (inode_Get_c5_d n) (inode_Get_c11_d n)
noncomputable def inode_Get_c13_d (n : Nat) : Sm (Val × Heap) := smSeq [2, 3, 4, 17, 18] (inode_Get_c4_d n) (inode_Get_c12_d n)
noncomputable def inode_Get_c14_d (n : Nat) : Sm (Val × Heap) := smLoop n [2, 3, 4, 17] (inode_Get_c13_d n)
noncomputable def inode_Get_c15_d (n : Nat) : Sm (Val × Heap) := smBlock 0 (inode_Get_c14_d n)
noncomputable def inode_Get_c16_d (n : Nat) : Sm (Val × Heap) := smSeq [2, 3, 4, 17] (inode_Get_c3_d n) (inode_Get_c15_d n)
noncomputable def inode_Get_c17_d (n : Nat) : Sm (Val × Heap) := smOps E_inode_Get [{ dst := some 29, op := .loadN 256 (.t 3) }, { dst := some 30, op := .call 59 [(.t 29), (.v (.c (.i .i64 22))), (.v (.c (.i .i64 2)))] }, { dst := some 31, op := .fAddr (.t 4) 10 }, { dst := none, op := .store1 (.t 31) (.t 30) }]
noncomputable def inode_Get_c18_d (n : Nat) : Sm (Val × Heap) := smOps E_inode_Get [{ dst := some 32, op := .loadN 11 (.t 4) }, { dst := none, op := .storeN 11 (.t 2) (.t 32) }]
noncomputable def inode_Get_c19_d (n : Nat) : Sm (Val × Heap) := smSeq [2] (inode_Get_c18_d n) smRet
noncomputable def inode_Get_c20_d (n : Nat) : Sm (Val × Heap) := smSeq [2, 4] (inode_Get_c17_d n) (inode_Get_c19_d n)
noncomputable def inode_Get_c21_d (n : Nat) : Sm (Val × Heap) := smSeq [2, 3, 4] (inode_Get_c16_d n) (inode_Get_c20_d n)
noncomputable def inode_Get_c22_d (n : Nat) : Sm (Val × Heap) := smSeq [2, 3, 4] (inode_Get_c2_d n) (inode_Get_c21_d n)
noncomputable def inode_Get_c23_d (n : Nat) : Sm (Val × Heap) := smSeq [2, 3] (inode_Get_c1_d n) (inode_Get_c22_d n)
noncomputable def inode_Get_c24_d (n : Nat) : Sm (Val × Heap) := smSeq [1, 2] (inode_Get_c0_d n) (inode_Get_c23_d n)
noncomputable def inode_Get_k0 (n : Nat) : AExit → Env → Heap → Option (Val × Heap) := fun x e h => match x with | .normal => hold ((inode_Get_c20_d n) A_inode_Get.fin (e.keep [2, 3, 4]) h) | .exit id => A_inode_Get.fin (.exit id) e h | .ret => A_inode_Get.fin .ret e h
noncomputable def inode_Get_k1 (n : Nat) : AExit → Env → Heap → Option (Val × Heap) := fun x e h => match x with | .exit i => bif Nat.beq i 0 then (inode_Get_k0 n) .normal e h else (inode_Get_k0 n) (.exit i) e h | .normal => (inode_Get_k0 n) .normal e h | .ret => (inode_Get_k0 n) .ret e h
noncomputable def inode_Get_l0 (n m : Nat) (x2 x3 x4 x17 : Val) (h : Heap) : Option (Val × Heap) := around (inode_Get_c13_d n) [2, 3, 4, 17] (inode_Get_k1 n) m [(2, x2), (3, x3), (4, x4), (17, x17)] h
noncomputable def R_inode_Get (n : Nat) (args : List Val) (h : Heap) : Option (Val × Heap) := (inode_Get_c24_d n) A_inode_Get.fin (params 0 args) h
theorem R_inode_Get_run (n : Nat) (args : List Val) (h : Heap) : A_inode_Get.run E_inode_Get n args h = R_inode_Get n args h := by kernel_rfl
theorem R_inode_Get_eq (n : Nat) (a0 : Val) (h : Heap) : R_inode_Get n [a0] h = bnd (cells? a0) fun c1 => bnd (aslA (((h ++ [some (Row.mk (c1) true)]) ++ [some (Row.mk ([.i .i64 0, .i .i64 0, .i .i64 0, .i .i64 0, .i .i64 0, .i .i64 0, .i .i64 0, .i .i64 0, .i .i64 0, .i .i64 0, .i .i64 0]) true)])) 32 1 ((.c (.p h.length 0))) none none) fun v2 => bnd (S_num_Of [v2] (((h ++ [some (Row.mk (c1) true)]) ++ [some (Row.mk ([.i .i64 0, .i .i64 0, .i .i64 0, .i .i64 0, .i .i64 0, .i .i64 0, .i .i64 0, .i .i64 0, .i .i64 0, .i .i64 0, .i .i64 0]) true)]))) fun p3 => bnd (astoreN ((p3.2 ++ [some (Row.mk (List.replicate 256 (.i .u8 0)) true)])) 256 ((.c (.p p3.2.length 0))) p3.1) fun h4 => bnd (aloadN h4 256 ((.c (.p p3.2.length 0)))) fun v5 => bnd (quiet ((h4 ++ [none])) (S_num_At [v5, .c (.i .i64 0), .c (.i .i64 1)] ((h4 ++ [none])))) fun p6 => bnd (aloadN h4 256 ((.c (.p p3.2.length 0)))) fun v7 => bnd (quiet p6.2 (S_num_At [v7, .c (.i .i64 2), .c (.i .i64 2)] p6.2)) fun p8 => bnd (aloadN h4 256 ((.c (.p p3.2.length 0)))) fun v9 => bnd (quiet p8.2 (S_num_At [v9, .c (.i .i64 4), .c (.i .i64 4)] p8.2)) fun p10 => bnd (aloadN h4 256 ((.c (.p p3.2.length 0)))) fun v11 => bnd (quiet p10.2 (S_num_At [v11, .c (.i .i64 8), .c (.i .i64 2)] p10.2)) fun p12 => bnd (afill ([.i .i64 0, .i .i64 0, .i .i64 0, .i .i64 0, .i .i64 0, .i .i64 0, .i .i64 0, .i .i64 0, .i .i64 0, .i .i64 0, .i .i64 0]) [(0, 1, p6.1), (1, 1, p8.1), (2, 1, p10.1), (3, 1, p12.1)]) fun c13 => bnd (astoreN ((p12.2.set (h4.length + 0) (some (Row.mk ([.i .i64 0, .i .i64 0, .i .i64 0, .i .i64 0, .i .i64 0, .i .i64 0, .i .i64 0, .i .i64 0, .i .i64 0, .i .i64 0, .i .i64 0]) true)))) 11 ((.c (.p (h4.length + 0) 0))) ((.a c13))) fun h14 => inode_Get_l0 n n ((.c (.p ((h ++ [some (Row.mk (c1) true)])).length 0))) ((.c (.p p3.2.length 0))) ((.c (.p (h4.length + 0) 0))) (.c (.i .i64 0)) h14 := by kernel_rfl
theorem inode_Get_l0_eq (n m : Nat) (x2 x3 x4 x17 : Val) (h : Heap) : inode_Get_l0 n (m + 1) x2 x3 x4 x17 h = bnd (abin .lss x17 (.c (.i .i64 6))) fun v15 => cnd v15 (bnd (aloadN h 256 x3) fun v16 => bnd (abin .mul (.c (.i .i64 2)) x17) fun v17 => bnd (abin .add (.c (.i .i64 10)) v17) fun v18 => bnd (S_num_At [v16, v18, .c (.i .i64 2)] h) fun p19 => bnd (afAddr x4 4) fun v20 => bnd (aiAddrA 6 1 v20 x17) fun v21 => bnd (astore1 p19.2 v21 p19.1) fun h22 => bnd (abin .add x17 (.c (.i .i64 1))) fun v23 => inode_Get_l0 n m x2 x3 x4 v23 h22) (bnd (aloadN h 256 x3) fun v24 => bnd (S_num_At [v24, .c (.i .i64 22), .c (.i .i64 2)] h) fun p25 => bnd (afAddr x4 10) fun v26 => bnd (astore1 p25.2 v26 p25.1) fun h27 => bnd (aloadN h27 11 x4) fun v28 => bnd (astoreN h27 11 x2 v28) fun h29 => mp (aloadN h29 11 x2) fun v => (v, h29)) := by kernel_rfl
theorem chk_inode_Get : chkFn Try.prog Try.f114 A_inode_Get = true := by kernel_rfl
theorem E_inode_Get_sound : Sound Try.prog E_inode_Get := by
  intro f args h v h2 he
  unfold E_inode_Get at he
  cases hb0 : Nat.beq f 82 with
  | true => rw [hb0] at he; have e := Nat.eq_of_beq_eq_true hb0; subst e; exact S_num_Of_ok args h v h2 he
  | false =>
    rw [hb0] at he; simp only [cond_false] at he
    cases hb1 : Nat.beq f 59 with
    | true => rw [hb1] at he; have e := Nat.eq_of_beq_eq_true hb1; subst e; exact S_num_At_ok args h v h2 he
    | false =>
      rw [hb1] at he; simp only [cond_false] at he
      cases he

theorem R_inode_Get_ok {n : Nat} {args : List Val} {h h2 : Heap} {v : Val} (he : R_inode_Get n args h = some (v, h2)) : Callable Try.prog 114 ∧ CallOk Try.prog 114 args h v h2 ∧ h.length ≤ h2.length := fn_ok E_inode_Get_sound Try.func114 chk_inode_Get ((R_inode_Get_run ..).trans he)
theorem L_inode_Get_ok (args : List Val) (h : Heap) (v : Val) (h2 : Heap) (he : Lim A_inode_Get E_inode_Get args h = some (v, h2)) : Callable Try.prog 114 ∧ CallOk Try.prog 114 args h v h2 ∧ h.length ≤ h2.length := (Lim_run he).elim fun _ e => R_inode_Get_ok ((R_inode_Get_run ..).symm.trans e)
theorem L_inode_Get_of {n : Nat} {args : List Val} {h : Heap} {p : Val × Heap} (he : R_inode_Get n args h = some p) : Lim A_inode_Get E_inode_Get args h = some p := Lim_of ((R_inode_Get_run ..).trans he)
noncomputable def S_inode_Get : List Val → Heap → Option (Val × Heap) := tidy (Lim A_inode_Get E_inode_Get)
theorem S_inode_Get_ok (args : List Val) (h : Heap) (v : Val) (h2 : Heap) (he : S_inode_Get args h = some (v, h2)) : Callable Try.prog 114 ∧ CallOk Try.prog 114 args h v h2 ∧ h.length ≤ h2.length := tidy_ok L_inode_Get_ok args h v h2 he
theorem S_inode_Get_flat {n : Nat} {args : List Val} {h h2 : Heap} {v : Val} (he : R_inode_Get n args (ro h) = some (v, h2)) (hf : v.flat = true) : S_inode_Get args h = some (v, h) := tidy_flat (L_inode_Get_of he) hf
theorem S_inode_Get_low {n : Nat} {args : List Val} {h h2 : Heap} {v : Val} (he : R_inode_Get n args (ro h) = some (v, h2)) (hf : v.low h.length = true) : S_inode_Get args h = some (v, h) := tidy_low (L_inode_Get_of he) hf
theorem S_inode_Get_out {n : Nat} {args : List Val} {h h2 : Heap} {v : Val} {sz k : Nat} {cs : List Cell} (he : R_inode_Get n args (ro h) = some (v, h2)) (ho : Out h.length h2 v sz k cs) (hf : flats cs = true) : S_inode_Get args h = some (.c (.sl h.length 0 k sz), h ++ [some ⟨cs, true⟩]) := tidy_out (L_inode_Get_of he) ho hf
theorem S_inode_Get_tidy {n : Nat} {args : List Val} {h h2 : Heap} {v v2 : Val} {ids : List Nat} (he : R_inode_Get n args (ro h) = some (v, h2)) (hc : canonV h2 h.length v = some (v2, ids)) : S_inode_Get args h = some (v2, h ++ ids.map (rd h2)) := tidy_of (L_inode_Get_of he) hc
def inode_Clean_c0 : ACode := .ops [{ dst := some 1, op := .box (.t 0) }, { dst := some 2, op := .alloc ([.i .i64 0, .i .i64 0, .i .i64 0, .i .i64 0, .i .i64 0, .i .i64 0, .i .i64 0, .i .i64 0, .i .i64 0, .i .i64 0, .i .i64 0]) }, { dst := some 3, op := .mv (.v (.c (.b false))) }]
def inode_Clean_c1 : ACode := .ops [{ dst := some 7, op := .loadN 32 (.t 1) }, { dst := some 8, op := .call 114 [(.t 7)] }, { dst := some 4, op := .alloc ([.i .i64 0, .i .i64 0, .i .i64 0, .i .i64 0, .i .i64 0, .i .i64 0, .i .i64 0, .i .i64 0, .i .i64 0, .i .i64 0, .i .i64 0]) }, { dst := none, op := .storeN 11 (.t 4) (.t 8) }]
def inode_Clean_c2 : ACode := .ops [{ dst := some 10, op := .loadN 11 (.t 4) }, { dst := some 11, op := .call 92 [(.t 10)] }, { dst := some 9, op := .mv (.t 11) }, { dst := some 12, op := .ext (.t 9) 0 }, { dst := some 13, op := .ext (.t 9) 1 }, { dst := some 5, op := .alloc (List.replicate 32 (.i .u8 0)) }, { dst := none, op := .storeN 32 (.t 5) (.t 12) }, { dst := some 6, op := .mv (.t 13) }]
def inode_Clean_c3 : ACode := .ops [{ dst := some 14, op := .mv (.t 6) }, { dst := some 15, op := .bin .neq (.t 14) (.v (.c (.i .i64 0))) }, { dst := some 16, op := .mv (.t 15) }, { dst := some 17, op := .loadN 32 (.t 5), guard := some (16, false) }, { dst := some 18, op := .loadN 32 (.t 1), guard := some (16, false) }, { dst := some 19, op := .eqA true (List.replicate 32 (.i .u8)) (.t 17) (.t 18), guard := some (16, false) }, { dst := some 20, op := .pick (.t 16) (.v (.c (.b true))) (.t 19) }]
def inode_Clean_c4 : ACode := .ops [{ dst := some 21, op := .build ([.i .i64 0, .i .i64 0, .i .i64 0, .i .i64 0, .i .i64 0, .i .i64 0, .i .i64 0, .i .i64 0, .i .i64 0, .i .i64 0, .i .i64 0]) [] }, { dst := none, op := .storeN 11 (.t 2) (.t 21) }, { dst := some 3, op := .mv (.v (.c (.b false))) }]
def inode_Clean_c5 : ACode := .seq [2, 3] inode_Clean_c4 .ret
def inode_Clean_c6 : ACode := .cond (.t 20) inode_Clean_c5 .skip
def inode_Clean_c7 : ACode := .seq [2, 4, 20] inode_Clean_c3 inode_Clean_c6
def inode_Clean_c8 : ACode := .seq [1, 2, 4, 5, 6] inode_Clean_c2 inode_Clean_c7
def inode_Clean_c9 : ACode := .ops [{ dst := some 22, op := .loadN 11 (.t 4) }, { dst := none, op := .storeN 11 (.t 2) (.t 22) }, { dst := some 3, op := .mv (.v (.c (.b true))) }]
def inode_Clean_c10 : ACode := .seq [2, 3] inode_Clean_c9 .ret
def inode_Clean_c11 : ACode := .seq [2, 4] inode_Clean_c8 inode_Clean_c10
def inode_Clean_c12 : ACode := .seq [1, 2, 4] inode_Clean_c1 inode_Clean_c11
def inode_Clean_c13 : ACode := .seq [1, 2] inode_Clean_c0 inode_Clean_c12
def A_inode_Clean : AFn := ⟨inode_Clean_c13, [.cellN 2 11, .tmp 3]⟩
noncomputable def E_inode_Clean : Sums := fun f args h => bif Nat.beq f 114 then S_inode_Get args h else bif Nat.beq f 92 then S_inode_Put args h else none
noncomputable def inode_Clean_c0_d (n : Nat) : Sm (Val × Heap) := smOps E_inode_Clean [{ dst := some 1, op := .box (.t 0) }, { dst := some 2, op := .alloc ([.i .i64 0, .i .i64 0, .i .i64 0, .i .i64 0, .i .i64 0, .i .i64 0, .i .i64 0, .i .i64 0, .i .i64 0, .i .i64 0, .i .i64 0]) }, { dst := some 3, op := .mv (.v (.c (.b false))) }]
noncomputable def inode_Clean_c1_d (n : Nat) : Sm (Val × Heap) := smOps E_inode_Clean [{ dst := some 7, op := .loadN 32 (.t 1) }, { dst := some 8, op := .call 114 [(.t 7)] }, { dst := some 4, op := .alloc ([.i .i64 0, .i .i64 0, .i .i64 0, .i .i64 0, .i .i64 0, .i .i64 0, .i .i64 0, .i .i64 0, .i .i64 0, .i .i64 0, .i .i64 0]) }, { dst := none, op := .storeN 11 (.t 4) (.t 8) }]
noncomputable def inode_Clean_c2_d (n : Nat) : Sm (Val × Heap) := smOps E_inode_Clean [{ dst := some 10, op := .loadN 11 (.t 4) }, { dst := some 11, op := .call 92 [(.t 10)] }, { dst := some 9, op := .mv (.t 11) }, { dst := some 12, op := .ext (.t 9) 0 }, { dst := some 13, op := .ext (.t 9) 1 }, { dst := some 5, op := .alloc (List.replicate 32 (.i .u8 0)) }, { dst := none, op := .storeN 32 (.t 5) (.t 12) }, { dst := some 6, op := .mv (.t 13) }]
noncomputable def inode_Clean_c3_d (n : Nat) : Sm (Val × Heap) := smOps E_inode_Clean [{ dst := some 14, op := .mv (.t 6) }, { dst := some 15, op := .bin .neq (.t 14) (.v (.c (.i .i64 0))) }, { dst := some 16, op := .mv (.t 15) }, { dst := some 17, op := .loadN 32 (.t 5), guard := some (16, false) }, { dst := some 18, op := .loadN 32 (.t 1), guard := some (16, false) }, { dst := some 19, op := .eqA true (List.replicate 32 (.i .u8)) (.t 17) (.t 18), guard := some (16, false) }, { dst := some 20, op := .pick (.t 16) (.v (.c (.b true))) (.t 19) }]
noncomputable def inode_Clean_c4_d (n : Nat) : Sm (Val × Heap) := smOps E_inode_Clean [{ dst := some 21, op := .build ([.i .i64 0, .i .i64 0, .i .i64 0, .i .i64 0, .i .i64 0, .i .i64 0, .i .i64 0, .i .i64 0, .i .i64 0, .i .i64 0, .i .i64 0]) [] }, { dst := none, op := .storeN 11 (.t 2) (.t 21) }, { dst := some 3, op := .mv (.v (.c (.b false))) }]
noncomputable def inode_Clean_c5_d (n : Nat) : Sm (Val × Heap) := smSeq [2, 3] (inode_Clean_c4_d n) smRet
noncomputable def inode_Clean_c6_d (n : Nat) : Sm (Val × Heap) := smCond (.t 20) (inode_Clean_c5_d n) smSkip
noncomputable def inode_Clean_c7_d (n : Nat) : Sm (Val × Heap) := smSeq [2, 4, 20] (inode_Clean_c3_d n) (inode_Clean_c6_d n)
noncomputable def inode_Clean_c8_d (n : Nat) : Sm (Val × Heap) := smSeq [1, 2, 4, 5, 6] (inode_Clean_c2_d n) (inode_Clean_c7_d n)
noncomputable def inode_Clean_c9_d (n : Nat) : Sm (Val × Heap) := smOps E_inode_Clean [{ dst := some 22, op := .loadN 11 (.t 4) }, { dst := none, op := .storeN 11 (.t 2) (.t 22) }, { dst := some 3, op := .mv (.v (.c (.b true))) }]
noncomputable def inode_Clean_c10_d (n : Nat) : Sm (Val × Heap) := smSeq [2, 3] (inode_Clean_c9_d n) smRet
noncomputable def inode_Clean_c11_d (n : Nat) : Sm (Val × Heap) := smSeq [2, 4] (inode_Clean_c8_d n) (inode_Clean_c10_d n)
noncomputable def inode_Clean_c12_d (n : Nat) : Sm (Val × Heap) := smSeq [1, 2, 4] (inode_Clean_c1_d n) (inode_Clean_c11_d n)
noncomputable def inode_Clean_c13_d (n : Nat) : Sm (Val × Heap) := smSeq [1, 2] (inode_Clean_c0_d n) (inode_Clean_c12_d n)
noncomputable def R_inode_Clean (n : Nat) (args : List Val) (h : Heap) : Option (Val × Heap) := (inode_Clean_c13_d n) A_inode_Clean.fin (params 0 args) h
theorem R_inode_Clean_run (n : Nat) (args : List Val) (h : Heap) : A_inode_Clean.run E_inode_Clean n args h = R_inode_Clean n args h := by kernel_rfl
theorem R_inode_Clean_eq (n : Nat) (a0 : Val) (h : Heap) : R_inode_Clean n [a0] h = bnd (cells? a0) fun c1 => bnd (aloadN (((h ++ [some (Row.mk (c1) true)]) ++ [some (Row.mk ([.i .i64 0, .i .i64 0, .i .i64 0, .i .i64 0, .i .i64 0, .i .i64 0, .i .i64 0, .i .i64 0, .i .i64 0, .i .i64 0, .i .i64 0]) true)])) 32 ((.c (.p h.length 0)))) fun v2 => bnd (S_inode_Get [v2] (((h ++ [some (Row.mk (c1) true)]) ++ [some (Row.mk ([.i .i64 0, .i .i64 0, .i .i64 0, .i .i64 0, .i .i64 0, .i .i64 0, .i .i64 0, .i .i64 0, .i .i64 0, .i .i64 0, .i .i64 0]) true)]))) fun p3 => bnd (astoreN ((p3.2 ++ [some (Row.mk ([.i .i64 0, .i .i64 0, .i .i64 0, .i .i64 0, .i .i64 0, .i .i64 0, .i .i64 0, .i .i64 0, .i .i64 0, .i .i64 0, .i .i64 0]) true)])) 11 ((.c (.p p3.2.length 0))) p3.1) fun h4 => bnd (aloadN h4 11 ((.c (.p p3.2.length 0)))) fun v5 => bnd (S_inode_Put [v5] h4) fun p6 => bnd (aext p6.1 0) fun v7 => bnd (aext p6.1 1) fun v8 => bnd (astoreN ((p6.2 ++ [some (Row.mk (List.replicate 32 (.i .u8 0)) true)])) 32 ((.c (.p p6.2.length 0))) v7) fun h9 => bnd (abin .neq v8 (.c (.i .i64 0))) fun v10 => bnd (gd v10 false (bnd (aloadN h9 32 ((.c (.p p6.2.length 0)))) fun v11 => some (v11, h9)) (some (.no, h9))) fun p12 => bnd (gd v10 false (bnd (aloadN p12.2 32 ((.c (.p h.length 0)))) fun v13 => some (v13, p12.2)) (some (.no, p12.2))) fun p14 => bnd (gd v10 false (bnd (aeq true (List.replicate 32 (.i .u8)) p12.1 p14.1) fun v15 => some (v15, p14.2)) (some (.no, p14.2))) fun p16 => bnd (apick v10 (.c (.b true)) p16.1) fun v17 => cnd v17 (bnd (afill ([.i .i64 0, .i .i64 0, .i .i64 0, .i .i64 0, .i .i64 0, .i .i64 0, .i .i64 0, .i .i64 0, .i .i64 0, .i .i64 0, .i .i64 0]) []) fun c18 => bnd (astoreN p16.2 11 ((.c (.p ((h ++ [some (Row.mk (c1) true)])).length 0))) ((.a c18))) fun h19 => tupN [aloadN h19 11 ((.c (.p ((h ++ [some (Row.mk (c1) true)])).length 0))), some (.c (.b false))] h19) (bnd (aloadN p16.2 11 ((.c (.p p3.2.length 0)))) fun v20 => bnd (astoreN p16.2 11 ((.c (.p ((h ++ [some (Row.mk (c1) true)])).length 0))) v20) fun h21 => tupN [aloadN h21 11 ((.c (.p ((h ++ [some (Row.mk (c1) true)])).length 0))), some (.c (.b true))] h21) := by kernel_rfl
theorem chk_inode_Clean : chkFn Try.prog Try.f112 A_inode_Clean = true := by kernel_rfl
theorem E_inode_Clean_sound : Sound Try.prog E_inode_Clean := by
  intro f args h v h2 he
  unfold E_inode_Clean at he
  cases hb0 : Nat.beq f 114 with
  | true => rw [hb0] at he; have e := Nat.eq_of_beq_eq_true hb0; subst e; exact S_inode_Get_ok args h v h2 he
  | false =>
    rw [hb0] at he; simp only [cond_false] at he
    cases hb1 : Nat.beq f 92 with
    | true => rw [hb1] at he; have e := Nat.eq_of_beq_eq_true hb1; subst e; exact S_inode_Put_ok args h v h2 he
    | false =>
      rw [hb1] at he; simp only [cond_false] at he
      cases he

theorem R_inode_Clean_ok {n : Nat} {args : List Val} {h h2 : Heap} {v : Val} (he : R_inode_Clean n args h = some (v, h2)) : Callable Try.prog 112 ∧ CallOk Try.prog 112 args h v h2 ∧ h.length ≤ h2.length := fn_ok E_inode_Clean_sound Try.func112 chk_inode_Clean ((R_inode_Clean_run ..).trans he)
theorem L_inode_Clean_ok (args : List Val) (h : Heap) (v : Val) (h2 : Heap) (he : Lim A_inode_Clean E_inode_Clean args h = some (v, h2)) : Callable Try.prog 112 ∧ CallOk Try.prog 112 args h v h2 ∧ h.length ≤ h2.length := (Lim_run he).elim fun _ e => R_inode_Clean_ok ((R_inode_Clean_run ..).symm.trans e)
theorem L_inode_Clean_of {n : Nat} {args : List Val} {h : Heap} {p : Val × Heap} (he : R_inode_Clean n args h = some p) : Lim A_inode_Clean E_inode_Clean args h = some p := Lim_of ((R_inode_Clean_run ..).trans he)
noncomputable def S_inode_Clean : List Val → Heap → Option (Val × Heap) := tidy (Lim A_inode_Clean E_inode_Clean)
theorem S_inode_Clean_ok (args : List Val) (h : Heap) (v : Val) (h2 : Heap) (he : S_inode_Clean args h = some (v, h2)) : Callable Try.prog 112 ∧ CallOk Try.prog 112 args h v h2 ∧ h.length ≤ h2.length := tidy_ok L_inode_Clean_ok args h v h2 he
theorem S_inode_Clean_flat {n : Nat} {args : List Val} {h h2 : Heap} {v : Val} (he : R_inode_Clean n args (ro h) = some (v, h2)) (hf : v.flat = true) : S_inode_Clean args h = some (v, h) := tidy_flat (L_inode_Clean_of he) hf
theorem S_inode_Clean_low {n : Nat} {args : List Val} {h h2 : Heap} {v : Val} (he : R_inode_Clean n args (ro h) = some (v, h2)) (hf : v.low h.length = true) : S_inode_Clean args h = some (v, h) := tidy_low (L_inode_Clean_of he) hf
theorem S_inode_Clean_out {n : Nat} {args : List Val} {h h2 : Heap} {v : Val} {sz k : Nat} {cs : List Cell} (he : R_inode_Clean n args (ro h) = some (v, h2)) (ho : Out h.length h2 v sz k cs) (hf : flats cs = true) : S_inode_Clean args h = some (.c (.sl h.length 0 k sz), h ++ [some ⟨cs, true⟩]) := tidy_out (L_inode_Clean_of he) ho hf
theorem S_inode_Clean_tidy {n : Nat} {args : List Val} {h h2 : Heap} {v v2 : Val} {ids : List Nat} (he : R_inode_Clean n args (ro h) = some (v, h2)) (hc : canonV h2 h.length v = some (v2, ids)) : S_inode_Clean args h = some (v2, h ++ ids.map (rd h2)) := tidy_of (L_inode_Clean_of he) hc
end Go.Proofs.Ytbbkpmbepljhkaa
