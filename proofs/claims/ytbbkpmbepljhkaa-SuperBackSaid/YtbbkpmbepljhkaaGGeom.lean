/- Geom: the Go functions of this package as the abstract evaluator computes them: printed by a program, checked by Lean. -/
import Derived.Test.YtbbkpmbepljhkaaEscS
import Derived.Test.YtbbkpmbepljhkaaChecked
import Derived.KernelRfl
import Derived.Test.YtbbkpmbepljhkaaGSuper
namespace Go.Proofs.Ytbbkpmbepljhkaa
open Go Go.Esc
set_option maxRecDepth 100000
set_option linter.all false
def geom_ok_c0 : ACode := .ops [{ dst := some 1, op := .box (.t 0) }, { dst := some 2, op := .mv (.v (.c (.b false))) }]
def geom_ok_c1 : ACode := .ops [{ dst := some 3, op := .loadN 3 (.t 1) }, { dst := some 4, op := .call 121 [(.t 3)] }, { dst := some 5, op := .bin .eql (.t 4) (.v (.c (.i .i64 0))) }, { dst := some 2, op := .mv (.t 5) }]
def geom_ok_c2 : ACode := .seq [2] geom_ok_c1 .ret
def geom_ok_c3 : ACode := .seq [1] geom_ok_c0 geom_ok_c2
def A_geom_ok : AFn := ⟨geom_ok_c3, [.tmp 2]⟩
noncomputable def E_geom_ok : Sums := fun f args h => bif Nat.beq f 121 then S_super_Check args h else none
noncomputable def geom_ok_c0_d (n : Nat) : Sm (Val × Heap) := smOps E_geom_ok [{ dst := some 1, op := .box (.t 0) }, { dst := some 2, op := .mv (.v (.c (.b false))) }]
noncomputable def geom_ok_c1_d (n : Nat) : Sm (Val × Heap) := smOps E_geom_ok [{ dst := some 3, op := .loadN 3 (.t 1) }, { dst := some 4, op := .call 121 [(.t 3)] }, { dst := some 5, op := .bin .eql (.t 4) (.v (.c (.i .i64 0))) }, { dst := some 2, op := .mv (.t 5) }]
noncomputable def geom_ok_c2_d (n : Nat) : Sm (Val × Heap) := smSeq [2] (geom_ok_c1_d n) smRet
noncomputable def geom_ok_c3_d (n : Nat) : Sm (Val × Heap) := smSeq [1] (geom_ok_c0_d n) (geom_ok_c2_d n)
noncomputable def R_geom_ok (n : Nat) (args : List Val) (h : Heap) : Option (Val × Heap) := (geom_ok_c3_d n) A_geom_ok.fin (params 0 args) h
theorem R_geom_ok_run (n : Nat) (args : List Val) (h : Heap) : A_geom_ok.run E_geom_ok n args h = R_geom_ok n args h := by kernel_rfl
theorem R_geom_ok_eq (n : Nat) (a0 : Val) (h : Heap) : R_geom_ok n [a0] h = bnd (cells? a0) fun c1 => bnd (aloadN ((h ++ [some (Row.mk (c1) true)])) 3 ((.c (.p h.length 0)))) fun v2 => bnd (S_super_Check [v2] ((h ++ [some (Row.mk (c1) true)]))) fun p3 => bnd (abin .eql p3.1 (.c (.i .i64 0))) fun v4 => some (v4, p3.2) := by kernel_rfl
theorem chk_geom_ok : chkFn Try.prog Try.f173 A_geom_ok = true := by kernel_rfl
theorem E_geom_ok_sound : Sound Try.prog E_geom_ok := by
  intro f args h v h2 he
  unfold E_geom_ok at he
  cases hb0 : Nat.beq f 121 with
  | true => rw [hb0] at he; have e := Nat.eq_of_beq_eq_true hb0; subst e; exact S_super_Check_ok args h v h2 he
  | false =>
    rw [hb0] at he; simp only [cond_false] at he
    cases he

theorem R_geom_ok_ok {n : Nat} {args : List Val} {h h2 : Heap} {v : Val} (he : R_geom_ok n args h = some (v, h2)) : Callable Try.prog 173 ∧ CallOk Try.prog 173 args h v h2 ∧ h.length ≤ h2.length := fn_ok E_geom_ok_sound Try.func173 chk_geom_ok ((R_geom_ok_run ..).trans he)
theorem L_geom_ok_ok (args : List Val) (h : Heap) (v : Val) (h2 : Heap) (he : Lim A_geom_ok E_geom_ok args h = some (v, h2)) : Callable Try.prog 173 ∧ CallOk Try.prog 173 args h v h2 ∧ h.length ≤ h2.length := (Lim_run he).elim fun _ e => R_geom_ok_ok ((R_geom_ok_run ..).symm.trans e)
theorem L_geom_ok_of {n : Nat} {args : List Val} {h : Heap} {p : Val × Heap} (he : R_geom_ok n args h = some p) : Lim A_geom_ok E_geom_ok args h = some p := Lim_of ((R_geom_ok_run ..).trans he)
noncomputable def S_geom_ok : List Val → Heap → Option (Val × Heap) := tidy (Lim A_geom_ok E_geom_ok)
theorem S_geom_ok_ok (args : List Val) (h : Heap) (v : Val) (h2 : Heap) (he : S_geom_ok args h = some (v, h2)) : Callable Try.prog 173 ∧ CallOk Try.prog 173 args h v h2 ∧ h.length ≤ h2.length := tidy_ok L_geom_ok_ok args h v h2 he
theorem S_geom_ok_flat {n : Nat} {args : List Val} {h h2 : Heap} {v : Val} (he : R_geom_ok n args (ro h) = some (v, h2)) (hf : v.flat = true) : S_geom_ok args h = some (v, h) := tidy_flat (L_geom_ok_of he) hf
theorem S_geom_ok_low {n : Nat} {args : List Val} {h h2 : Heap} {v : Val} (he : R_geom_ok n args (ro h) = some (v, h2)) (hf : v.low h.length = true) : S_geom_ok args h = some (v, h) := tidy_low (L_geom_ok_of he) hf
theorem S_geom_ok_out {n : Nat} {args : List Val} {h h2 : Heap} {v : Val} {sz k : Nat} {cs : List Cell} (he : R_geom_ok n args (ro h) = some (v, h2)) (ho : Out h.length h2 v sz k cs) (hf : flats cs = true) : S_geom_ok args h = some (.c (.sl h.length 0 k sz), h ++ [some ⟨cs, true⟩]) := tidy_out (L_geom_ok_of he) ho hf
theorem S_geom_ok_tidy {n : Nat} {args : List Val} {h h2 : Heap} {v v2 : Val} {ids : List Nat} (he : R_geom_ok n args (ro h) = some (v, h2)) (hc : canonV h2 h.length v = some (v2, ids)) : S_geom_ok args h = some (v2, h ++ ids.map (rd h2)) := tidy_of (L_geom_ok_of he) hc
def geom_IsInode_c0 : ACode := .ops [{ dst := some 2, op := .box (.t 0) }, { dst := some 4, op := .mv (.v (.c (.b false))) }]
def geom_IsInode_c1 : ACode := .ops [{ dst := some 5, op := .loadN 3 (.t 2) }, { dst := some 6, op := .call 173 [(.t 5)] }, { dst := some 7, op := .mv (.t 6) }, { dst := some 8, op := .mv (.t 1), guard := some (7, true) }, { dst := some 9, op := .bin .geq (.t 8) (.v (.c (.i .i64 1))), guard := some (7, true) }, { dst := some 10, op := .pick (.t 7) (.t 9) (.v (.c (.b false))) }, { dst := some 11, op := .mv (.t 10) }, { dst := some 12, op := .mv (.t 1), guard := some (11, true) }, { dst := some 13, op := .fAddr (.t 2) 1, guard := some (11, true) }, { dst := some 14, op := .load1 (.t 13), guard := some (11, true) }, { dst := some 15, op := .bin .leq (.t 12) (.t 14), guard := some (11, true) }, { dst := some 16, op := .pick (.t 11) (.t 15) (.v (.c (.b false))) }, { dst := some 4, op := .mv (.t 16) }]
def geom_IsInode_c2 : ACode := .seq [4] geom_IsInode_c1 .ret
def geom_IsInode_c3 : ACode := .seq [1, 2] geom_IsInode_c0 geom_IsInode_c2
def A_geom_IsInode : AFn := ⟨geom_IsInode_c3, [.tmp 4]⟩
noncomputable def E_geom_IsInode : Sums := fun f args h => bif Nat.beq f 173 then S_geom_ok args h else none
noncomputable def geom_IsInode_c0_d (n : Nat) : Sm (Val × Heap) := smOps E_geom_IsInode [{ dst := some 2, op := .box (.t 0) }, { dst := some 4, op := .mv (.v (.c (.b false))) }]
noncomputable def geom_IsInode_c1_d (n : Nat) : Sm (Val × Heap) := smOps E_geom_IsInode [{ dst := some 5, op := .loadN 3 (.t 2) }, { dst := some 6, op := .call 173 [(.t 5)] }, { dst := some 7, op := .mv (.t 6) }, { dst := some 8, op := .mv (.t 1), guard := some (7, true) }, { dst := some 9, op := .bin .geq (.t 8) (.v (.c (.i .i64 1))), guard := some (7, true) }, { dst := some 10, op := .pick (.t 7) (.t 9) (.v (.c (.b false))) }, { dst := some 11, op := .mv (.t 10) }, { dst := some 12, op := .mv (.t 1), guard := some (11, true) }, { dst := some 13, op := .fAddr (.t 2) 1, guard := some (11, true) }, { dst := some 14, op := .load1 (.t 13), guard := some (11, true) }, { dst := some 15, op := .bin .leq (.t 12) (.t 14), guard := some (11, true) }, { dst := some 16, op := .pick (.t 11) (.t 15) (.v (.c (.b false))) }, { dst := some 4, op := .mv (.t 16) }]
noncomputable def geom_IsInode_c2_d (n : Nat) : Sm (Val × Heap) := smSeq [4] (geom_IsInode_c1_d n) smRet
noncomputable def geom_IsInode_c3_d (n : Nat) : Sm (Val × Heap) := smSeq [1, 2] (geom_IsInode_c0_d n) (geom_IsInode_c2_d n)
noncomputable def R_geom_IsInode (n : Nat) (args : List Val) (h : Heap) : Option (Val × Heap) := (geom_IsInode_c3_d n) A_geom_IsInode.fin (params 0 args) h
theorem R_geom_IsInode_run (n : Nat) (args : List Val) (h : Heap) : A_geom_IsInode.run E_geom_IsInode n args h = R_geom_IsInode n args h := by kernel_rfl
theorem R_geom_IsInode_eq (n : Nat) (a0 a1 : Val) (h : Heap) : R_geom_IsInode n [a0, a1] h = bnd (cells? a0) fun c1 => bnd (aloadN ((h ++ [some (Row.mk (c1) true)])) 3 ((.c (.p h.length 0)))) fun v2 => bnd (S_geom_ok [v2] ((h ++ [some (Row.mk (c1) true)]))) fun p3 => bnd (gd p3.1 true (some (a1, p3.2)) (some (.no, p3.2))) fun p4 => bnd (gd p3.1 true (bnd (abin .geq p4.1 (.c (.i .i64 1))) fun v5 => some (v5, p4.2)) (some (.no, p4.2))) fun p6 => bnd (apick p3.1 p6.1 (.c (.b false))) fun v7 => bnd (gd v7 true (some (a1, p6.2)) (some (.no, p6.2))) fun p8 => bnd (gd v7 true (bnd (afAddr ((.c (.p h.length 0))) 1) fun v9 => some (v9, p8.2)) (some (.no, p8.2))) fun p10 => bnd (gd v7 true (bnd (aload1 p10.2 p10.1) fun v11 => some (v11, p10.2)) (some (.no, p10.2))) fun p12 => bnd (gd v7 true (bnd (abin .leq p8.1 p12.1) fun v13 => some (v13, p12.2)) (some (.no, p12.2))) fun p14 => bnd (apick v7 p14.1 (.c (.b false))) fun v15 => some (v15, p14.2) := by kernel_rfl
theorem chk_geom_IsInode : chkFn Try.prog Try.f53 A_geom_IsInode = true := by kernel_rfl
theorem E_geom_IsInode_sound : Sound Try.prog E_geom_IsInode := by
  intro f args h v h2 he
  unfold E_geom_IsInode at he
  cases hb0 : Nat.beq f 173 with
  | true => rw [hb0] at he; have e := Nat.eq_of_beq_eq_true hb0; subst e; exact S_geom_ok_ok args h v h2 he
  | false =>
    rw [hb0] at he; simp only [cond_false] at he
    cases he

theorem R_geom_IsInode_ok {n : Nat} {args : List Val} {h h2 : Heap} {v : Val} (he : R_geom_IsInode n args h = some (v, h2)) : Callable Try.prog 53 ∧ CallOk Try.prog 53 args h v h2 ∧ h.length ≤ h2.length := fn_ok E_geom_IsInode_sound Try.func53 chk_geom_IsInode ((R_geom_IsInode_run ..).trans he)
theorem L_geom_IsInode_ok (args : List Val) (h : Heap) (v : Val) (h2 : Heap) (he : Lim A_geom_IsInode E_geom_IsInode args h = some (v, h2)) : Callable Try.prog 53 ∧ CallOk Try.prog 53 args h v h2 ∧ h.length ≤ h2.length := (Lim_run he).elim fun _ e => R_geom_IsInode_ok ((R_geom_IsInode_run ..).symm.trans e)
theorem L_geom_IsInode_of {n : Nat} {args : List Val} {h : Heap} {p : Val × Heap} (he : R_geom_IsInode n args h = some p) : Lim A_geom_IsInode E_geom_IsInode args h = some p := Lim_of ((R_geom_IsInode_run ..).trans he)
noncomputable def S_geom_IsInode : List Val → Heap → Option (Val × Heap) := tidy (Lim A_geom_IsInode E_geom_IsInode)
theorem S_geom_IsInode_ok (args : List Val) (h : Heap) (v : Val) (h2 : Heap) (he : S_geom_IsInode args h = some (v, h2)) : Callable Try.prog 53 ∧ CallOk Try.prog 53 args h v h2 ∧ h.length ≤ h2.length := tidy_ok L_geom_IsInode_ok args h v h2 he
theorem S_geom_IsInode_flat {n : Nat} {args : List Val} {h h2 : Heap} {v : Val} (he : R_geom_IsInode n args (ro h) = some (v, h2)) (hf : v.flat = true) : S_geom_IsInode args h = some (v, h) := tidy_flat (L_geom_IsInode_of he) hf
theorem S_geom_IsInode_low {n : Nat} {args : List Val} {h h2 : Heap} {v : Val} (he : R_geom_IsInode n args (ro h) = some (v, h2)) (hf : v.low h.length = true) : S_geom_IsInode args h = some (v, h) := tidy_low (L_geom_IsInode_of he) hf
theorem S_geom_IsInode_out {n : Nat} {args : List Val} {h h2 : Heap} {v : Val} {sz k : Nat} {cs : List Cell} (he : R_geom_IsInode n args (ro h) = some (v, h2)) (ho : Out h.length h2 v sz k cs) (hf : flats cs = true) : S_geom_IsInode args h = some (.c (.sl h.length 0 k sz), h ++ [some ⟨cs, true⟩]) := tidy_out (L_geom_IsInode_of he) ho hf
theorem S_geom_IsInode_tidy {n : Nat} {args : List Val} {h h2 : Heap} {v v2 : Val} {ids : List Nat} (he : R_geom_IsInode n args (ro h) = some (v, h2)) (hc : canonV h2 h.length v = some (v2, ids)) : S_geom_IsInode args h = some (v2, h ++ ids.map (rd h2)) := tidy_of (L_geom_IsInode_of he) hc
def geom_Map_c0 : ACode := .ops [{ dst := some 0, op := .mv (.v (.c (.i .i64 0))) }]
def geom_Map_c1 : ACode := .ops [{ dst := some 0, op := .mv (.v (.c (.i .i64 1))) }]
def geom_Map_c2 : ACode := .seq [0] geom_Map_c1 .ret
def geom_Map_c3 : ACode := .seq [] geom_Map_c0 geom_Map_c2
def A_geom_Map : AFn := ⟨geom_Map_c3, [.tmp 0]⟩
noncomputable def E_geom_Map : Sums := fun f args h => none
noncomputable def geom_Map_c0_d (n : Nat) : Sm (Val × Heap) := smOps E_geom_Map [{ dst := some 0, op := .mv (.v (.c (.i .i64 0))) }]
noncomputable def geom_Map_c1_d (n : Nat) : Sm (Val × Heap) := smOps E_geom_Map [{ dst := some 0, op := .mv (.v (.c (.i .i64 1))) }]
noncomputable def geom_Map_c2_d (n : Nat) : Sm (Val × Heap) := smSeq [0] (geom_Map_c1_d n) smRet
noncomputable def geom_Map_c3_d (n : Nat) : Sm (Val × Heap) := smSeq [] (geom_Map_c0_d n) (geom_Map_c2_d n)
noncomputable def R_geom_Map (n : Nat) (args : List Val) (h : Heap) : Option (Val × Heap) := (geom_Map_c3_d n) A_geom_Map.fin (params 0 args) h
theorem R_geom_Map_run (n : Nat) (args : List Val) (h : Heap) : A_geom_Map.run E_geom_Map n args h = R_geom_Map n args h := by kernel_rfl
theorem R_geom_Map_eq (n : Nat) (h : Heap) : R_geom_Map n [] h = some ((.c (.i .i64 1)), h) := by kernel_rfl
theorem chk_geom_Map : chkFn Try.prog Try.f81 A_geom_Map = true := by kernel_rfl
theorem E_geom_Map_sound : Sound Try.prog E_geom_Map := by
  intro f args h v h2 he
  unfold E_geom_Map at he
  cases he

theorem R_geom_Map_ok {n : Nat} {args : List Val} {h h2 : Heap} {v : Val} (he : R_geom_Map n args h = some (v, h2)) : Callable Try.prog 81 ∧ CallOk Try.prog 81 args h v h2 ∧ h.length ≤ h2.length := fn_ok E_geom_Map_sound Try.func81 chk_geom_Map ((R_geom_Map_run ..).trans he)
theorem L_geom_Map_ok (args : List Val) (h : Heap) (v : Val) (h2 : Heap) (he : Lim A_geom_Map E_geom_Map args h = some (v, h2)) : Callable Try.prog 81 ∧ CallOk Try.prog 81 args h v h2 ∧ h.length ≤ h2.length := (Lim_run he).elim fun _ e => R_geom_Map_ok ((R_geom_Map_run ..).symm.trans e)
theorem L_geom_Map_of {n : Nat} {args : List Val} {h : Heap} {p : Val × Heap} (he : R_geom_Map n args h = some p) : Lim A_geom_Map E_geom_Map args h = some p := Lim_of ((R_geom_Map_run ..).trans he)
noncomputable def S_geom_Map : List Val → Heap → Option (Val × Heap) := tidy (Lim A_geom_Map E_geom_Map)
theorem S_geom_Map_ok (args : List Val) (h : Heap) (v : Val) (h2 : Heap) (he : S_geom_Map args h = some (v, h2)) : Callable Try.prog 81 ∧ CallOk Try.prog 81 args h v h2 ∧ h.length ≤ h2.length := tidy_ok L_geom_Map_ok args h v h2 he
theorem S_geom_Map_flat {n : Nat} {args : List Val} {h h2 : Heap} {v : Val} (he : R_geom_Map n args (ro h) = some (v, h2)) (hf : v.flat = true) : S_geom_Map args h = some (v, h) := tidy_flat (L_geom_Map_of he) hf
theorem S_geom_Map_low {n : Nat} {args : List Val} {h h2 : Heap} {v : Val} (he : R_geom_Map n args (ro h) = some (v, h2)) (hf : v.low h.length = true) : S_geom_Map args h = some (v, h) := tidy_low (L_geom_Map_of he) hf
theorem S_geom_Map_out {n : Nat} {args : List Val} {h h2 : Heap} {v : Val} {sz k : Nat} {cs : List Cell} (he : R_geom_Map n args (ro h) = some (v, h2)) (ho : Out h.length h2 v sz k cs) (hf : flats cs = true) : S_geom_Map args h = some (.c (.sl h.length 0 k sz), h ++ [some ⟨cs, true⟩]) := tidy_out (L_geom_Map_of he) ho hf
theorem S_geom_Map_tidy {n : Nat} {args : List Val} {h h2 : Heap} {v v2 : Val} {ids : List Nat} (he : R_geom_Map n args (ro h) = some (v, h2)) (hc : canonV h2 h.length v = some (v2, ids)) : S_geom_Map args h = some (v2, h ++ ids.map (rd h2)) := tidy_of (L_geom_Map_of he) hc
def geom_Table_c0 : ACode := .ops [{ dst := some 1, op := .box (.t 0) }, { dst := some 2, op := .mv (.v (.c (.i .i64 0))) }, { dst := some 3, op := .mv (.v (.c (.i .i64 0))) }]
def geom_Table_c1 : ACode := .ops [{ dst := some 4, op := .loadN 3 (.t 1) }, { dst := some 5, op := .call 173 [(.t 4)] }, { dst := some 6, op := .un .not (.t 5) }]
def geom_Table_c2 : ACode := .ops [{ dst := some 2, op := .mv (.v (.c (.i .i64 0))) }, { dst := some 3, op := .mv (.v (.c (.i .i64 0))) }]
def geom_Table_c3 : ACode := .seq [2, 3] geom_Table_c2 .ret
def geom_Table_c4 : ACode := .cond (.t 6) geom_Table_c3 .skip
def geom_Table_c5 : ACode := .seq [1, 6] geom_Table_c1 geom_Table_c4
def geom_Table_c6 : ACode := .draw 0 [{ dst := some 7, op := .call 81 [] }, { dst := some 8, op := .bin .add (.t 7) (.v (.c (.i .i64 1))) }, { dst := some 9, op := .fAddr (.t 1) 1 }, { dst := some 10, op := .load1 (.t 9) }, { dst := some 11, op := .bin .quo (.t 10) (.v (.c (.i .i64 8))) }, { dst := some 2, op := .mv (.t 8) }] [{ dst := some 3, op := .mv (.t 11) }]
def geom_Table_c7 : ACode := .seq [2, 3] geom_Table_c6 .ret
def geom_Table_c8 : ACode := .seq [1] geom_Table_c5 geom_Table_c7
def geom_Table_c9 : ACode := .seq [1] geom_Table_c0 geom_Table_c8
def A_geom_Table : AFn := ⟨geom_Table_c9, [.tmp 2, .tmp 3]⟩
noncomputable def E_geom_Table : Sums := fun f args h => bif Nat.beq f 173 then S_geom_ok args h else bif Nat.beq f 81 then S_geom_Map args h else none
noncomputable def geom_Table_c0_d (n : Nat) : Sm (Val × Heap) := smOps E_geom_Table [{ dst := some 1, op := .box (.t 0) }, { dst := some 2, op := .mv (.v (.c (.i .i64 0))) }, { dst := some 3, op := .mv (.v (.c (.i .i64 0))) }]
noncomputable def geom_Table_c1_d (n : Nat) : Sm (Val × Heap) := smOps E_geom_Table [{ dst := some 4, op := .loadN 3 (.t 1) }, { dst := some 5, op := .call 173 [(.t 4)] }, { dst := some 6, op := .un .not (.t 5) }]
noncomputable def geom_Table_c2_d (n : Nat) : Sm (Val × Heap) := smOps E_geom_Table [{ dst := some 2, op := .mv (.v (.c (.i .i64 0))) }, { dst := some 3, op := .mv (.v (.c (.i .i64 0))) }]
noncomputable def geom_Table_c3_d (n : Nat) : Sm (Val × Heap) := smSeq [2, 3] (geom_Table_c2_d n) smRet
noncomputable def geom_Table_c4_d (n : Nat) : Sm (Val × Heap) := smCond (.t 6) (geom_Table_c3_d n) smSkip
noncomputable def geom_Table_c5_d (n : Nat) : Sm (Val × Heap) := smSeq [1, 6] (geom_Table_c1_d n) (geom_Table_c4_d n)
noncomputable def geom_Table_c6_d (n : Nat) : Sm (Val × Heap) := smDraw E_geom_Table 0 [{ dst := some 7, op := .call 81 [] }, { dst := some 8, op := .bin .add (.t 7) (.v (.c (.i .i64 1))) }, { dst := some 9, op := .fAddr (.t 1) 1 }, { dst := some 10, op := .load1 (.t 9) }, { dst := some 11, op := .bin .quo (.t 10) (.v (.c (.i .i64 8))) }, { dst := some 2, op := .mv (.t 8) }] [{ dst := some 3, op := .mv (.t 11) }]
noncomputable def geom_Table_c7_d (n : Nat) : Sm (Val × Heap) := smSeq [2, 3] (geom_Table_c6_d n) smRet
noncomputable def geom_Table_c8_d (n : Nat) : Sm (Val × Heap) := smSeq [1] (geom_Table_c5_d n) (geom_Table_c7_d n)
noncomputable def geom_Table_c9_d (n : Nat) : Sm (Val × Heap) := smSeq [1] (geom_Table_c0_d n) (geom_Table_c8_d n)
noncomputable def R_geom_Table (n : Nat) (args : List Val) (h : Heap) : Option (Val × Heap) := (geom_Table_c9_d n) A_geom_Table.fin (params 0 args) h
theorem R_geom_Table_run (n : Nat) (args : List Val) (h : Heap) : A_geom_Table.run E_geom_Table n args h = R_geom_Table n args h := by kernel_rfl
theorem R_geom_Table_eq (n : Nat) (a0 : Val) (h : Heap) : R_geom_Table n [a0] h = bnd (cells? a0) fun c1 => bnd (aloadN ((h ++ [some (Row.mk (c1) true)])) 3 ((.c (.p h.length 0)))) fun v2 => bnd (S_geom_ok [v2] ((h ++ [some (Row.mk (c1) true)]))) fun p3 => bnd (aun .not p3.1) fun v4 => cnd v4 (tupN [some (.c (.i .i64 0)), some (.c (.i .i64 0))] p3.2) (bnd (quiet ((p3.2 ++ [])) (S_geom_Map [] ((p3.2 ++ [])))) fun p5 => bnd (abin .add p5.1 (.c (.i .i64 1))) fun v6 => bnd (afAddr ((.c (.p h.length 0))) 1) fun v7 => bnd (aload1 p3.2 v7) fun v8 => bnd (abin .quo v8 (.c (.i .i64 8))) fun v9 => tupN [some v6, some v9] p5.2) := by kernel_rfl
theorem chk_geom_Table : chkFn Try.prog Try.f68 A_geom_Table = true := by kernel_rfl
theorem E_geom_Table_sound : Sound Try.prog E_geom_Table := by
  intro f args h v h2 he
  unfold E_geom_Table at he
  cases hb0 : Nat.beq f 173 with
  | true => rw [hb0] at he; have e := Nat.eq_of_beq_eq_true hb0; subst e; exact S_geom_ok_ok args h v h2 he
  | false =>
    rw [hb0] at he; simp only [cond_false] at he
    cases hb1 : Nat.beq f 81 with
    | true => rw [hb1] at he; have e := Nat.eq_of_beq_eq_true hb1; subst e; exact S_geom_Map_ok args h v h2 he
    | false =>
      rw [hb1] at he; simp only [cond_false] at he
      cases he

theorem R_geom_Table_ok {n : Nat} {args : List Val} {h h2 : Heap} {v : Val} (he : R_geom_Table n args h = some (v, h2)) : Callable Try.prog 68 ∧ CallOk Try.prog 68 args h v h2 ∧ h.length ≤ h2.length := fn_ok E_geom_Table_sound Try.func68 chk_geom_Table ((R_geom_Table_run ..).trans he)
theorem L_geom_Table_ok (args : List Val) (h : Heap) (v : Val) (h2 : Heap) (he : Lim A_geom_Table E_geom_Table args h = some (v, h2)) : Callable Try.prog 68 ∧ CallOk Try.prog 68 args h v h2 ∧ h.length ≤ h2.length := (Lim_run he).elim fun _ e => R_geom_Table_ok ((R_geom_Table_run ..).symm.trans e)
theorem L_geom_Table_of {n : Nat} {args : List Val} {h : Heap} {p : Val × Heap} (he : R_geom_Table n args h = some p) : Lim A_geom_Table E_geom_Table args h = some p := Lim_of ((R_geom_Table_run ..).trans he)
noncomputable def S_geom_Table : List Val → Heap → Option (Val × Heap) := tidy (Lim A_geom_Table E_geom_Table)
theorem S_geom_Table_ok (args : List Val) (h : Heap) (v : Val) (h2 : Heap) (he : S_geom_Table args h = some (v, h2)) : Callable Try.prog 68 ∧ CallOk Try.prog 68 args h v h2 ∧ h.length ≤ h2.length := tidy_ok L_geom_Table_ok args h v h2 he
theorem S_geom_Table_flat {n : Nat} {args : List Val} {h h2 : Heap} {v : Val} (he : R_geom_Table n args (ro h) = some (v, h2)) (hf : v.flat = true) : S_geom_Table args h = some (v, h) := tidy_flat (L_geom_Table_of he) hf
theorem S_geom_Table_low {n : Nat} {args : List Val} {h h2 : Heap} {v : Val} (he : R_geom_Table n args (ro h) = some (v, h2)) (hf : v.low h.length = true) : S_geom_Table args h = some (v, h) := tidy_low (L_geom_Table_of he) hf
theorem S_geom_Table_out {n : Nat} {args : List Val} {h h2 : Heap} {v : Val} {sz k : Nat} {cs : List Cell} (he : R_geom_Table n args (ro h) = some (v, h2)) (ho : Out h.length h2 v sz k cs) (hf : flats cs = true) : S_geom_Table args h = some (.c (.sl h.length 0 k sz), h ++ [some ⟨cs, true⟩]) := tidy_out (L_geom_Table_of he) ho hf
theorem S_geom_Table_tidy {n : Nat} {args : List Val} {h h2 : Heap} {v v2 : Val} {ids : List Nat} (he : R_geom_Table n args (ro h) = some (v, h2)) (hc : canonV h2 h.length v = some (v2, ids)) : S_geom_Table args h = some (v2, h ++ ids.map (rd h2)) := tidy_of (L_geom_Table_of he) hc
def geom_Where_c0 : ACode := .ops [{ dst := some 2, op := .box (.t 0) }, { dst := some 4, op := .mv (.v (.c (.i .i64 0))) }, { dst := some 5, op := .mv (.v (.c (.i .i64 0))) }, { dst := some 6, op := .mv (.v (.c (.b false))) }]
def geom_Where_c1 : ACode := .ops [{ dst := some 9, op := .loadN 3 (.t 2) }, { dst := some 10, op := .mv (.t 1) }, { dst := some 11, op := .call 53 [(.t 9), (.t 10)] }, { dst := some 12, op := .un .not (.t 11) }]
def geom_Where_c2 : ACode := .ops [{ dst := some 4, op := .mv (.v (.c (.i .i64 0))) }, { dst := some 5, op := .mv (.v (.c (.i .i64 0))) }, { dst := some 6, op := .mv (.v (.c (.b false))) }]
def geom_Where_c3 : ACode := .seq [4, 5, 6] geom_Where_c2 .ret
def geom_Where_c4 : ACode := .cond (.t 12) geom_Where_c3 .skip
def geom_Where_c5 : ACode := .seq [1, 2, 12] geom_Where_c1 geom_Where_c4
def geom_Where_c6 : ACode := .ops [{ dst := some 14, op := .loadN 3 (.t 2) }, { dst := some 15, op := .call 68 [(.t 14)] }, { dst := some 13, op := .mv (.t 15) }, { dst := some 16, op := .ext (.t 13) 0 }, { dst := some 17, op := .ext (.t 13) 1 }, { dst := some 7, op := .mv (.t 16) }, { dst := some 8, op := .mv (.t 17) }]
def geom_Where_c7 : ACode := .ops [{ dst := some 18, op := .mv (.t 7) }, { dst := some 19, op := .mv (.t 1) }, { dst := some 20, op := .bin .sub (.t 19) (.v (.c (.i .i64 1))) }, { dst := some 21, op := .bin .quo (.t 20) (.v (.c (.i .i64 8))) }, { dst := some 22, op := .bin .add (.t 18) (.t 21) }, { dst := some 23, op := .mv (.t 1) }, { dst := some 24, op := .bin .sub (.t 23) (.v (.c (.i .i64 1))) }, { dst := some 25, op := .bin .rem (.t 24) (.v (.c (.i .i64 8))) }, { dst := some 4, op := .mv (.t 22) }, { dst := some 5, op := .mv (.t 25) }, { dst := some 6, op := .mv (.v (.c (.b true))) }]
def geom_Where_c8 : ACode := .seq [4, 5, 6] geom_Where_c7 .ret
def geom_Where_c9 : ACode := .seq [1, 7] geom_Where_c6 geom_Where_c8
def geom_Where_c10 : ACode := .seq [1, 2] geom_Where_c5 geom_Where_c9
def geom_Where_c11 : ACode := .seq [1, 2] geom_Where_c0 geom_Where_c10
def A_geom_Where : AFn := ⟨geom_Where_c11, [.tmp 4, .tmp 5, .tmp 6]⟩
noncomputable def E_geom_Where : Sums := fun f args h => bif Nat.beq f 53 then S_geom_IsInode args h else bif Nat.beq f 68 then S_geom_Table args h else none
noncomputable def geom_Where_c0_d (n : Nat) : Sm (Val × Heap) := smOps E_geom_Where [{ dst := some 2, op := .box (.t 0) }, { dst := some 4, op := .mv (.v (.c (.i .i64 0))) }, { dst := some 5, op := .mv (.v (.c (.i .i64 0))) }, { dst := some 6, op := .mv (.v (.c (.b false))) }]
noncomputable def geom_Where_c1_d (n : Nat) : Sm (Val × Heap) := smOps E_geom_Where [{ dst := some 9, op := .loadN 3 (.t 2) }, { dst := some 10, op := .mv (.t 1) }, { dst := some 11, op := .call 53 [(.t 9), (.t 10)] }, { dst := some 12, op := .un .not (.t 11) }]
noncomputable def geom_Where_c2_d (n : Nat) : Sm (Val × Heap) := smOps E_geom_Where [{ dst := some 4, op := .mv (.v (.c (.i .i64 0))) }, { dst := some 5, op := .mv (.v (.c (.i .i64 0))) }, { dst := some 6, op := .mv (.v (.c (.b false))) }]
noncomputable def geom_Where_c3_d (n : Nat) : Sm (Val × Heap) := smSeq [4, 5, 6] (geom_Where_c2_d n) smRet
noncomputable def geom_Where_c4_d (n : Nat) : Sm (Val × Heap) := smCond (.t 12) (geom_Where_c3_d n) smSkip
noncomputable def geom_Where_c5_d (n : Nat) : Sm (Val × Heap) := smSeq [1, 2, 12] (geom_Where_c1_d n) (geom_Where_c4_d n)
noncomputable def geom_Where_c6_d (n : Nat) : Sm (Val × Heap) := smOps E_geom_Where [{ dst := some 14, op := .loadN 3 (.t 2) }, { dst := some 15, op := .call 68 [(.t 14)] }, { dst := some 13, op := .mv (.t 15) }, { dst := some 16, op := .ext (.t 13) 0 }, { dst := some 17, op := .ext (.t 13) 1 }, { dst := some 7, op := .mv (.t 16) }, { dst := some 8, op := .mv (.t 17) }]
noncomputable def geom_Where_c7_d (n : Nat) : Sm (Val × Heap) := smOps E_geom_Where [{ dst := some 18, op := .mv (.t 7) }, { dst := some 19, op := .mv (.t 1) }, { dst := some 20, op := .bin .sub (.t 19) (.v (.c (.i .i64 1))) }, { dst := some 21, op := .bin .quo (.t 20) (.v (.c (.i .i64 8))) }, { dst := some 22, op := .bin .add (.t 18) (.t 21) }, { dst := some 23, op := .mv (.t 1) }, { dst := some 24, op := .bin .sub (.t 23) (.v (.c (.i .i64 1))) }, { dst := some 25, op := .bin .rem (.t 24) (.v (.c (.i .i64 8))) }, { dst := some 4, op := .mv (.t 22) }, { dst := some 5, op := .mv (.t 25) }, { dst := some 6, op := .mv (.v (.c (.b true))) }]
noncomputable def geom_Where_c8_d (n : Nat) : Sm (Val × Heap) := smSeq [4, 5, 6] (geom_Where_c7_d n) smRet
noncomputable def geom_Where_c9_d (n : Nat) : Sm (Val × Heap) := smSeq [1, 7] (geom_Where_c6_d n) (geom_Where_c8_d n)
noncomputable def geom_Where_c10_d (n : Nat) : Sm (Val × Heap) := smSeq [1, 2] (geom_Where_c5_d n) (geom_Where_c9_d n)
noncomputable def geom_Where_c11_d (n : Nat) : Sm (Val × Heap) := smSeq [1, 2] (geom_Where_c0_d n) (geom_Where_c10_d n)
noncomputable def R_geom_Where (n : Nat) (args : List Val) (h : Heap) : Option (Val × Heap) := (geom_Where_c11_d n) A_geom_Where.fin (params 0 args) h
theorem R_geom_Where_run (n : Nat) (args : List Val) (h : Heap) : A_geom_Where.run E_geom_Where n args h = R_geom_Where n args h := by kernel_rfl
theorem R_geom_Where_eq (n : Nat) (a0 a1 : Val) (h : Heap) : R_geom_Where n [a0, a1] h = bnd (cells? a0) fun c1 => bnd (aloadN ((h ++ [some (Row.mk (c1) true)])) 3 ((.c (.p h.length 0)))) fun v2 => bnd (S_geom_IsInode [v2, a1] ((h ++ [some (Row.mk (c1) true)]))) fun p3 => bnd (aun .not p3.1) fun v4 => cnd v4 (tupN [some (.c (.i .i64 0)), some (.c (.i .i64 0)), some (.c (.b false))] p3.2) (bnd (aloadN p3.2 3 ((.c (.p h.length 0)))) fun v5 => bnd (S_geom_Table [v5] p3.2) fun p6 => bnd (aext p6.1 0) fun v7 => bnd (aext p6.1 1) fun v8 => bnd (abin .sub a1 (.c (.i .i64 1))) fun v9 => bnd (abin .quo v9 (.c (.i .i64 8))) fun v10 => bnd (abin .add v7 v10) fun v11 => bnd (abin .sub a1 (.c (.i .i64 1))) fun v12 => bnd (abin .rem v12 (.c (.i .i64 8))) fun v13 => tupN [some v11, some v13, some (.c (.b true))] p6.2) := by kernel_rfl
theorem chk_geom_Where : chkFn Try.prog Try.f51 A_geom_Where = true := by kernel_rfl
theorem E_geom_Where_sound : Sound Try.prog E_geom_Where := by
  intro f args h v h2 he
  unfold E_geom_Where at he
  cases hb0 : Nat.beq f 53 with
  | true => rw [hb0] at he; have e := Nat.eq_of_beq_eq_true hb0; subst e; exact S_geom_IsInode_ok args h v h2 he
  | false =>
    rw [hb0] at he; simp only [cond_false] at he
    cases hb1 : Nat.beq f 68 with
    | true => rw [hb1] at he; have e := Nat.eq_of_beq_eq_true hb1; subst e; exact S_geom_Table_ok args h v h2 he
    | false =>
      rw [hb1] at he; simp only [cond_false] at he
      cases he

theorem R_geom_Where_ok {n : Nat} {args : List Val} {h h2 : Heap} {v : Val} (he : R_geom_Where n args h = some (v, h2)) : Callable Try.prog 51 ∧ CallOk Try.prog 51 args h v h2 ∧ h.length ≤ h2.length := fn_ok E_geom_Where_sound Try.func51 chk_geom_Where ((R_geom_Where_run ..).trans he)
theorem L_geom_Where_ok (args : List Val) (h : Heap) (v : Val) (h2 : Heap) (he : Lim A_geom_Where E_geom_Where args h = some (v, h2)) : Callable Try.prog 51 ∧ CallOk Try.prog 51 args h v h2 ∧ h.length ≤ h2.length := (Lim_run he).elim fun _ e => R_geom_Where_ok ((R_geom_Where_run ..).symm.trans e)
theorem L_geom_Where_of {n : Nat} {args : List Val} {h : Heap} {p : Val × Heap} (he : R_geom_Where n args h = some p) : Lim A_geom_Where E_geom_Where args h = some p := Lim_of ((R_geom_Where_run ..).trans he)
noncomputable def S_geom_Where : List Val → Heap → Option (Val × Heap) := tidy (Lim A_geom_Where E_geom_Where)
theorem S_geom_Where_ok (args : List Val) (h : Heap) (v : Val) (h2 : Heap) (he : S_geom_Where args h = some (v, h2)) : Callable Try.prog 51 ∧ CallOk Try.prog 51 args h v h2 ∧ h.length ≤ h2.length := tidy_ok L_geom_Where_ok args h v h2 he
theorem S_geom_Where_flat {n : Nat} {args : List Val} {h h2 : Heap} {v : Val} (he : R_geom_Where n args (ro h) = some (v, h2)) (hf : v.flat = true) : S_geom_Where args h = some (v, h) := tidy_flat (L_geom_Where_of he) hf
theorem S_geom_Where_low {n : Nat} {args : List Val} {h h2 : Heap} {v : Val} (he : R_geom_Where n args (ro h) = some (v, h2)) (hf : v.low h.length = true) : S_geom_Where args h = some (v, h) := tidy_low (L_geom_Where_of he) hf
theorem S_geom_Where_out {n : Nat} {args : List Val} {h h2 : Heap} {v : Val} {sz k : Nat} {cs : List Cell} (he : R_geom_Where n args (ro h) = some (v, h2)) (ho : Out h.length h2 v sz k cs) (hf : flats cs = true) : S_geom_Where args h = some (.c (.sl h.length 0 k sz), h ++ [some ⟨cs, true⟩]) := tidy_out (L_geom_Where_of he) ho hf
theorem S_geom_Where_tidy {n : Nat} {args : List Val} {h h2 : Heap} {v v2 : Val} {ids : List Nat} (he : R_geom_Where n args (ro h) = some (v, h2)) (hc : canonV h2 h.length v = some (v2, ids)) : S_geom_Where args h = some (v2, h ++ ids.map (rd h2)) := tidy_of (L_geom_Where_of he) hc
def geom_Inode_c0 : ACode := .ops [{ dst := some 3, op := .box (.t 0) }, { dst := some 6, op := .mv (.v (.c (.i .i64 0))) }, { dst := some 7, op := .mv (.v (.c (.b false))) }]
def geom_Inode_c1 : ACode := .ops [{ dst := some 11, op := .loadN 3 (.t 3) }, { dst := some 12, op := .call 68 [(.t 11)] }, { dst := some 10, op := .mv (.t 12) }, { dst := some 13, op := .ext (.t 10) 0 }, { dst := some 14, op := .ext (.t 10) 1 }, { dst := some 8, op := .mv (.t 13) }, { dst := some 9, op := .mv (.t 14) }]
def geom_Inode_c2 : ACode := .ops [{ dst := some 15, op := .mv (.t 2) }, { dst := some 16, op := .bin .lss (.t 15) (.v (.c (.i .i64 0))) }, { dst := some 17, op := .mv (.t 16) }, { dst := some 18, op := .mv (.t 2), guard := some (17, false) }, { dst := some 19, op := .bin .geq (.t 18) (.v (.c (.i .i64 8))), guard := some (17, false) }, { dst := some 20, op := .pick (.t 17) (.v (.c (.b true))) (.t 19) }, { dst := some 21, op := .mv (.t 20) }, { dst := some 22, op := .mv (.t 1), guard := some (21, false) }, { dst := some 23, op := .mv (.t 8), guard := some (21, false) }, { dst := some 24, op := .bin .lss (.t 22) (.t 23), guard := some (21, false) }, { dst := some 25, op := .pick (.t 21) (.v (.c (.b true))) (.t 24) }, { dst := some 26, op := .mv (.t 25) }, { dst := some 27, op := .mv (.t 1), guard := some (26, false) }, { dst := some 28, op := .mv (.t 8), guard := some (26, false) }, { dst := some 29, op := .bin .sub (.t 27) (.t 28), guard := some (26, false) }, { dst := some 30, op := .mv (.t 9), guard := some (26, false) }, { dst := some 31, op := .bin .geq (.t 29) (.t 30), guard := some (26, false) }, { dst := some 32, op := .pick (.t 26) (.v (.c (.b true))) (.t 31) }]
def geom_Inode_c3 : ACode := .ops [{ dst := some 6, op := .mv (.v (.c (.i .i64 0))) }, { dst := some 7, op := .mv (.v (.c (.b false))) }]
def geom_Inode_c4 : ACode := .seq [6, 7] geom_Inode_c3 .ret
def geom_Inode_c5 : ACode := .cond (.t 32) geom_Inode_c4 .skip
def geom_Inode_c6 : ACode := .seq [1, 2, 8, 32] geom_Inode_c2 geom_Inode_c5
def geom_Inode_c7 : ACode := .ops [{ dst := some 33, op := .mv (.t 1) }, { dst := some 34, op := .mv (.t 8) }, { dst := some 35, op := .bin .sub (.t 33) (.t 34) }, { dst := some 36, op := .bin .mul (.t 35) (.v (.c (.i .i64 8))) }, { dst := some 37, op := .mv (.t 2) }, { dst := some 38, op := .bin .add (.t 36) (.t 37) }, { dst := some 39, op := .bin .add (.t 38) (.v (.c (.i .i64 1))) }, { dst := some 6, op := .mv (.t 39) }, { dst := some 7, op := .mv (.v (.c (.b true))) }]
def geom_Inode_c8 : ACode := .seq [6, 7] geom_Inode_c7 .ret
def geom_Inode_c9 : ACode := .seq [1, 2, 8] geom_Inode_c6 geom_Inode_c8
def geom_Inode_c10 : ACode := .seq [1, 2, 8, 9] geom_Inode_c1 geom_Inode_c9
def geom_Inode_c11 : ACode := .seq [1, 2, 3] geom_Inode_c0 geom_Inode_c10
def A_geom_Inode : AFn := ⟨geom_Inode_c11, [.tmp 6, .tmp 7]⟩
noncomputable def E_geom_Inode : Sums := fun f args h => bif Nat.beq f 68 then S_geom_Table args h else none
noncomputable def geom_Inode_c0_d (n : Nat) : Sm (Val × Heap) := smOps E_geom_Inode [{ dst := some 3, op := .box (.t 0) }, { dst := some 6, op := .mv (.v (.c (.i .i64 0))) }, { dst := some 7, op := .mv (.v (.c (.b false))) }]
noncomputable def geom_Inode_c1_d (n : Nat) : Sm (Val × Heap) := smOps E_geom_Inode [{ dst := some 11, op := .loadN 3 (.t 3) }, { dst := some 12, op := .call 68 [(.t 11)] }, { dst := some 10, op := .mv (.t 12) }, { dst := some 13, op := .ext (.t 10) 0 }, { dst := some 14, op := .ext (.t 10) 1 }, { dst := some 8, op := .mv (.t 13) }, { dst := some 9, op := .mv (.t 14) }]
noncomputable def geom_Inode_c2_d (n : Nat) : Sm (Val × Heap) := smOps E_geom_Inode [{ dst := some 15, op := .mv (.t 2) }, { dst := some 16, op := .bin .lss (.t 15) (.v (.c (.i .i64 0))) }, { dst := some 17, op := .mv (.t 16) }, { dst := some 18, op := .mv (.t 2), guard := some (17, false) }, { dst := some 19, op := .bin .geq (.t 18) (.v (.c (.i .i64 8))), guard := some (17, false) }, { dst := some 20, op := .pick (.t 17) (.v (.c (.b true))) (.t 19) }, { dst := some 21, op := .mv (.t 20) }, { dst := some 22, op := .mv (.t 1), guard := some (21, false) }, { dst := some 23, op := .mv (.t 8), guard := some (21, false) }, { dst := some 24, op := .bin .lss (.t 22) (.t 23), guard := some (21, false) }, { dst := some 25, op := .pick (.t 21) (.v (.c (.b true))) (.t 24) }, { dst := some 26, op := .mv (.t 25) }, { dst := some 27, op := .mv (.t 1), guard := some (26, false) }, { dst := some 28, op := .mv (.t 8), guard := some (26, false) }, { dst := some 29, op := .bin .sub (.t 27) (.t 28), guard := some (26, false) }, { dst := some 30, op := .mv (.t 9), guard := some (26, false) }, { dst := some 31, op := .bin .geq (.t 29) (.t 30), guard := some (26, false) }, { dst := some 32, op := .pick (.t 26) (.v (.c (.b true))) (.t 31) }]
noncomputable def geom_Inode_c3_d (n : Nat) : Sm (Val × Heap) := smOps E_geom_Inode [{ dst := some 6, op := .mv (.v (.c (.i .i64 0))) }, { dst := some 7, op := .mv (.v (.c (.b false))) }]
noncomputable def geom_Inode_c4_d (n : Nat) : Sm (Val × Heap) := smSeq [6, 7] (geom_Inode_c3_d n) smRet
noncomputable def geom_Inode_c5_d (n : Nat) : Sm (Val × Heap) := smCond (.t 32) (geom_Inode_c4_d n) smSkip
noncomputable def geom_Inode_c6_d (n : Nat) : Sm (Val × Heap) := smSeq [1, 2, 8, 32] (geom_Inode_c2_d n) (geom_Inode_c5_d n)
noncomputable def geom_Inode_c7_d (n : Nat) : Sm (Val × Heap) := smOps E_geom_Inode [{ dst := some 33, op := .mv (.t 1) }, { dst := some 34, op := .mv (.t 8) }, { dst := some 35, op := .bin .sub (.t 33) (.t 34) }, { dst := some 36, op := .bin .mul (.t 35) (.v (.c (.i .i64 8))) }, { dst := some 37, op := .mv (.t 2) }, { dst := some 38, op := .bin .add (.t 36) (.t 37) }, { dst := some 39, op := .bin .add (.t 38) (.v (.c (.i .i64 1))) }, { dst := some 6, op := .mv (.t 39) }, { dst := some 7, op := .mv (.v (.c (.b true))) }]
noncomputable def geom_Inode_c8_d (n : Nat) : Sm (Val × Heap) := smSeq [6, 7] (geom_Inode_c7_d n) smRet
noncomputable def geom_Inode_c9_d (n : Nat) : Sm (Val × Heap) := smSeq [1, 2, 8] (geom_Inode_c6_d n) (geom_Inode_c8_d n)
noncomputable def geom_Inode_c10_d (n : Nat) : Sm (Val × Heap) := smSeq [1, 2, 8, 9] (geom_Inode_c1_d n) (geom_Inode_c9_d n)
noncomputable def geom_Inode_c11_d (n : Nat) : Sm (Val × Heap) := smSeq [1, 2, 3] (geom_Inode_c0_d n) (geom_Inode_c10_d n)
noncomputable def R_geom_Inode (n : Nat) (args : List Val) (h : Heap) : Option (Val × Heap) := (geom_Inode_c11_d n) A_geom_Inode.fin (params 0 args) h
theorem R_geom_Inode_run (n : Nat) (args : List Val) (h : Heap) : A_geom_Inode.run E_geom_Inode n args h = R_geom_Inode n args h := by kernel_rfl
theorem R_geom_Inode_eq (n : Nat) (a0 a1 a2 : Val) (h : Heap) : R_geom_Inode n [a0, a1, a2] h = bnd (cells? a0) fun c1 => bnd (aloadN ((h ++ [some (Row.mk (c1) true)])) 3 ((.c (.p h.length 0)))) fun v2 => bnd (S_geom_Table [v2] ((h ++ [some (Row.mk (c1) true)]))) fun p3 => bnd (aext p3.1 0) fun v4 => bnd (aext p3.1 1) fun v5 => bnd (abin .lss a2 (.c (.i .i64 0))) fun v6 => bnd (gd v6 false (some (a2, p3.2)) (some (.no, p3.2))) fun p7 => bnd (gd v6 false (bnd (abin .geq p7.1 (.c (.i .i64 8))) fun v8 => some (v8, p7.2)) (some (.no, p7.2))) fun p9 => bnd (apick v6 (.c (.b true)) p9.1) fun v10 => bnd (gd v10 false (some (a1, p9.2)) (some (.no, p9.2))) fun p11 => bnd (gd v10 false (some (v4, p11.2)) (some (.no, p11.2))) fun p12 => bnd (gd v10 false (bnd (abin .lss p11.1 p12.1) fun v13 => some (v13, p12.2)) (some (.no, p12.2))) fun p14 => bnd (apick v10 (.c (.b true)) p14.1) fun v15 => bnd (gd v15 false (some (a1, p14.2)) (some (.no, p14.2))) fun p16 => bnd (gd v15 false (some (v4, p16.2)) (some (.no, p16.2))) fun p17 => bnd (gd v15 false (bnd (abin .sub p16.1 p17.1) fun v18 => some (v18, p17.2)) (some (.no, p17.2))) fun p19 => bnd (gd v15 false (some (v5, p19.2)) (some (.no, p19.2))) fun p20 => bnd (gd v15 false (bnd (abin .geq p19.1 p20.1) fun v21 => some (v21, p20.2)) (some (.no, p20.2))) fun p22 => bnd (apick v15 (.c (.b true)) p22.1) fun v23 => cnd v23 (tupN [some (.c (.i .i64 0)), some (.c (.b false))] p22.2) (bnd (abin .sub a1 v4) fun v24 => bnd (abin .mul v24 (.c (.i .i64 8))) fun v25 => bnd (abin .add v25 a2) fun v26 => bnd (abin .add v26 (.c (.i .i64 1))) fun v27 => tupN [some v27, some (.c (.b true))] p22.2) := by kernel_rfl
theorem chk_geom_Inode : chkFn Try.prog Try.f55 A_geom_Inode = true := by kernel_rfl
theorem E_geom_Inode_sound : Sound Try.prog E_geom_Inode := by
  intro f args h v h2 he
  unfold E_geom_Inode at he
  cases hb0 : Nat.beq f 68 with
  | true => rw [hb0] at he; have e := Nat.eq_of_beq_eq_true hb0; subst e; exact S_geom_Table_ok args h v h2 he
  | false =>
    rw [hb0] at he; simp only [cond_false] at he
    cases he

theorem R_geom_Inode_ok {n : Nat} {args : List Val} {h h2 : Heap} {v : Val} (he : R_geom_Inode n args h = some (v, h2)) : Callable Try.prog 55 ∧ CallOk Try.prog 55 args h v h2 ∧ h.length ≤ h2.length := fn_ok E_geom_Inode_sound Try.func55 chk_geom_Inode ((R_geom_Inode_run ..).trans he)
theorem L_geom_Inode_ok (args : List Val) (h : Heap) (v : Val) (h2 : Heap) (he : Lim A_geom_Inode E_geom_Inode args h = some (v, h2)) : Callable Try.prog 55 ∧ CallOk Try.prog 55 args h v h2 ∧ h.length ≤ h2.length := (Lim_run he).elim fun _ e => R_geom_Inode_ok ((R_geom_Inode_run ..).symm.trans e)
theorem L_geom_Inode_of {n : Nat} {args : List Val} {h : Heap} {p : Val × Heap} (he : R_geom_Inode n args h = some p) : Lim A_geom_Inode E_geom_Inode args h = some p := Lim_of ((R_geom_Inode_run ..).trans he)
noncomputable def S_geom_Inode : List Val → Heap → Option (Val × Heap) := tidy (Lim A_geom_Inode E_geom_Inode)
theorem S_geom_Inode_ok (args : List Val) (h : Heap) (v : Val) (h2 : Heap) (he : S_geom_Inode args h = some (v, h2)) : Callable Try.prog 55 ∧ CallOk Try.prog 55 args h v h2 ∧ h.length ≤ h2.length := tidy_ok L_geom_Inode_ok args h v h2 he
theorem S_geom_Inode_flat {n : Nat} {args : List Val} {h h2 : Heap} {v : Val} (he : R_geom_Inode n args (ro h) = some (v, h2)) (hf : v.flat = true) : S_geom_Inode args h = some (v, h) := tidy_flat (L_geom_Inode_of he) hf
theorem S_geom_Inode_low {n : Nat} {args : List Val} {h h2 : Heap} {v : Val} (he : R_geom_Inode n args (ro h) = some (v, h2)) (hf : v.low h.length = true) : S_geom_Inode args h = some (v, h) := tidy_low (L_geom_Inode_of he) hf
theorem S_geom_Inode_out {n : Nat} {args : List Val} {h h2 : Heap} {v : Val} {sz k : Nat} {cs : List Cell} (he : R_geom_Inode n args (ro h) = some (v, h2)) (ho : Out h.length h2 v sz k cs) (hf : flats cs = true) : S_geom_Inode args h = some (.c (.sl h.length 0 k sz), h ++ [some ⟨cs, true⟩]) := tidy_out (L_geom_Inode_of he) ho hf
theorem S_geom_Inode_tidy {n : Nat} {args : List Val} {h h2 : Heap} {v v2 : Val} {ids : List Nat} (he : R_geom_Inode n args (ro h) = some (v, h2)) (hc : canonV h2 h.length v = some (v2, ids)) : S_geom_Inode args h = some (v2, h ++ ids.map (rd h2)) := tidy_of (L_geom_Inode_of he) hc
def geom_Data_c0 : ACode := .ops [{ dst := some 1, op := .box (.t 0) }, { dst := some 2, op := .mv (.v (.c (.i .i64 0))) }]
def geom_Data_c1 : ACode := .ops [{ dst := some 6, op := .loadN 3 (.t 1) }, { dst := some 7, op := .call 68 [(.t 6)] }, { dst := some 5, op := .mv (.t 7) }, { dst := some 8, op := .ext (.t 5) 0 }, { dst := some 9, op := .ext (.t 5) 1 }, { dst := some 3, op := .mv (.t 8) }, { dst := some 4, op := .mv (.t 9) }]
def geom_Data_c2 : ACode := .ops [{ dst := some 10, op := .mv (.t 3) }, { dst := some 11, op := .mv (.t 4) }, { dst := some 12, op := .bin .add (.t 10) (.t 11) }, { dst := some 2, op := .mv (.t 12) }]
def geom_Data_c3 : ACode := .seq [2] geom_Data_c2 .ret
def geom_Data_c4 : ACode := .seq [3, 4] geom_Data_c1 geom_Data_c3
def geom_Data_c5 : ACode := .seq [1] geom_Data_c0 geom_Data_c4
def A_geom_Data : AFn := ⟨geom_Data_c5, [.tmp 2]⟩
noncomputable def E_geom_Data : Sums := fun f args h => bif Nat.beq f 68 then S_geom_Table args h else none
noncomputable def geom_Data_c0_d (n : Nat) : Sm (Val × Heap) := smOps E_geom_Data [{ dst := some 1, op := .box (.t 0) }, { dst := some 2, op := .mv (.v (.c (.i .i64 0))) }]
noncomputable def geom_Data_c1_d (n : Nat) : Sm (Val × Heap) := smOps E_geom_Data [{ dst := some 6, op := .loadN 3 (.t 1) }, { dst := some 7, op := .call 68 [(.t 6)] }, { dst := some 5, op := .mv (.t 7) }, { dst := some 8, op := .ext (.t 5) 0 }, { dst := some 9, op := .ext (.t 5) 1 }, { dst := some 3, op := .mv (.t 8) }, { dst := some 4, op := .mv (.t 9) }]
noncomputable def geom_Data_c2_d (n : Nat) : Sm (Val × Heap) := smOps E_geom_Data [{ dst := some 10, op := .mv (.t 3) }, { dst := some 11, op := .mv (.t 4) }, { dst := some 12, op := .bin .add (.t 10) (.t 11) }, { dst := some 2, op := .mv (.t 12) }]
noncomputable def geom_Data_c3_d (n : Nat) : Sm (Val × Heap) := smSeq [2] (geom_Data_c2_d n) smRet
noncomputable def geom_Data_c4_d (n : Nat) : Sm (Val × Heap) := smSeq [3, 4] (geom_Data_c1_d n) (geom_Data_c3_d n)
noncomputable def geom_Data_c5_d (n : Nat) : Sm (Val × Heap) := smSeq [1] (geom_Data_c0_d n) (geom_Data_c4_d n)
noncomputable def R_geom_Data (n : Nat) (args : List Val) (h : Heap) : Option (Val × Heap) := (geom_Data_c5_d n) A_geom_Data.fin (params 0 args) h
theorem R_geom_Data_run (n : Nat) (args : List Val) (h : Heap) : A_geom_Data.run E_geom_Data n args h = R_geom_Data n args h := by kernel_rfl
theorem R_geom_Data_eq (n : Nat) (a0 : Val) (h : Heap) : R_geom_Data n [a0] h = bnd (cells? a0) fun c1 => bnd (aloadN ((h ++ [some (Row.mk (c1) true)])) 3 ((.c (.p h.length 0)))) fun v2 => bnd (S_geom_Table [v2] ((h ++ [some (Row.mk (c1) true)]))) fun p3 => bnd (aext p3.1 0) fun v4 => bnd (aext p3.1 1) fun v5 => bnd (abin .add v4 v5) fun v6 => some (v6, p3.2) := by kernel_rfl
theorem chk_geom_Data : chkFn Try.prog Try.f70 A_geom_Data = true := by kernel_rfl
theorem E_geom_Data_sound : Sound Try.prog E_geom_Data := by
  intro f args h v h2 he
  unfold E_geom_Data at he
  cases hb0 : Nat.beq f 68 with
  | true => rw [hb0] at he; have e := Nat.eq_of_beq_eq_true hb0; subst e; exact S_geom_Table_ok args h v h2 he
  | false =>
    rw [hb0] at he; simp only [cond_false] at he
    cases he

theorem R_geom_Data_ok {n : Nat} {args : List Val} {h h2 : Heap} {v : Val} (he : R_geom_Data n args h = some (v, h2)) : Callable Try.prog 70 ∧ CallOk Try.prog 70 args h v h2 ∧ h.length ≤ h2.length := fn_ok E_geom_Data_sound Try.func70 chk_geom_Data ((R_geom_Data_run ..).trans he)
theorem L_geom_Data_ok (args : List Val) (h : Heap) (v : Val) (h2 : Heap) (he : Lim A_geom_Data E_geom_Data args h = some (v, h2)) : Callable Try.prog 70 ∧ CallOk Try.prog 70 args h v h2 ∧ h.length ≤ h2.length := (Lim_run he).elim fun _ e => R_geom_Data_ok ((R_geom_Data_run ..).symm.trans e)
theorem L_geom_Data_of {n : Nat} {args : List Val} {h : Heap} {p : Val × Heap} (he : R_geom_Data n args h = some p) : Lim A_geom_Data E_geom_Data args h = some p := Lim_of ((R_geom_Data_run ..).trans he)
noncomputable def S_geom_Data : List Val → Heap → Option (Val × Heap) := tidy (Lim A_geom_Data E_geom_Data)
theorem S_geom_Data_ok (args : List Val) (h : Heap) (v : Val) (h2 : Heap) (he : S_geom_Data args h = some (v, h2)) : Callable Try.prog 70 ∧ CallOk Try.prog 70 args h v h2 ∧ h.length ≤ h2.length := tidy_ok L_geom_Data_ok args h v h2 he
theorem S_geom_Data_flat {n : Nat} {args : List Val} {h h2 : Heap} {v : Val} (he : R_geom_Data n args (ro h) = some (v, h2)) (hf : v.flat = true) : S_geom_Data args h = some (v, h) := tidy_flat (L_geom_Data_of he) hf
theorem S_geom_Data_low {n : Nat} {args : List Val} {h h2 : Heap} {v : Val} (he : R_geom_Data n args (ro h) = some (v, h2)) (hf : v.low h.length = true) : S_geom_Data args h = some (v, h) := tidy_low (L_geom_Data_of he) hf
theorem S_geom_Data_out {n : Nat} {args : List Val} {h h2 : Heap} {v : Val} {sz k : Nat} {cs : List Cell} (he : R_geom_Data n args (ro h) = some (v, h2)) (ho : Out h.length h2 v sz k cs) (hf : flats cs = true) : S_geom_Data args h = some (.c (.sl h.length 0 k sz), h ++ [some ⟨cs, true⟩]) := tidy_out (L_geom_Data_of he) ho hf
theorem S_geom_Data_tidy {n : Nat} {args : List Val} {h h2 : Heap} {v v2 : Val} {ids : List Nat} (he : R_geom_Data n args (ro h) = some (v, h2)) (hc : canonV h2 h.length v = some (v2, ids)) : S_geom_Data args h = some (v2, h ++ ids.map (rd h2)) := tidy_of (L_geom_Data_of he) hc
def geom_Own_c0 : ACode := .ops [{ dst := some 1, op := .box (.t 0) }, { dst := some 2, op := .nilrow 1 }]
def geom_Own_c1 : ACode := .ops [{ dst := some 3, op := .nilrow 1 }]
def geom_Own_c2 : ACode := .ops [{ dst := some 5, op := .loadN 3 (.t 1) }, { dst := some 6, op := .call 70 [(.t 5)] }, { dst := some 7, op := .mv (.v (.c (.i .i64 0))) }]
def geom_Own_c3 : ACode := .ops [{ dst := some 8, op := .bin .lss (.t 7) (.t 6) }]
def geom_Own_c4 : ACode := .cond (.t 8) .skip (.exit 0)
def geom_Own_c5 : ACode := .ops [{ dst := some 9, op := .mv (.t 7) }, { dst := some 4, op := .mv (.t 9) }]
def geom_Own_c6 : ACode := .ops [{ dst := some 10, op := .mv (.t 3) }, { dst := some 11, op := .mv (.t 4) }, { dst := some 12, op := .buildSl 1 1 ([.i .i64 0]) [(0, 1, (.t 11))] }, { dst := some 13, op := .app 1 (.t 10) (.t 12) }, { dst := some 3, op := .mv (.t 13) }]
def geom_Own_c7 : ACode := .seq [3, 4, 6, 7] geom_Own_c5 geom_Own_c6
def geom_Own_c8 : ACode := .block 1 geom_Own_c7
def geom_Own_c9 : ACode := .ops [{ dst := some 14, op := .bin .add (.t 7) (.v (.c (.i .i64 1))) }, { dst := some 7, op := .mv (.t 14) }]
def geom_Own_c10 : ACode := .seq [3, 6, 7] geom_Own_c8 geom_Own_c9
def geom_Own_c11 : ACode := .seq [3, 6, 7] geom_Own_c4 geom_Own_c10
def geom_Own_c12 : ACode := .seq [3, 6, 7, 8] geom_Own_c3 geom_Own_c11
def geom_Own_c13 : ACode := .loop [3, 6, 7] geom_Own_c12
def geom_Own_c14 : ACode := .block 0 geom_Own_c13
def geom_Own_c15 : ACode := .seq [3, 6, 7] geom_Own_c2 geom_Own_c14
def geom_Own_c16 : ACode := .ops [{ dst := some 15, op := .mv (.t 3) }, { dst := some 2, op := .mv (.t 15) }]
def geom_Own_c17 : ACode := .seq [2] geom_Own_c16 .ret
def geom_Own_c18 : ACode := .seq [3] geom_Own_c15 geom_Own_c17
def geom_Own_c19 : ACode := .seq [1, 3] geom_Own_c1 geom_Own_c18
def geom_Own_c20 : ACode := .seq [1] geom_Own_c0 geom_Own_c19
def A_geom_Own : AFn := ⟨geom_Own_c20, [.tmp 2]⟩
noncomputable def E_geom_Own : Sums := fun f args h => bif Nat.beq f 70 then S_geom_Data args h else none
noncomputable def geom_Own_c0_d (n : Nat) : Sm (Val × Heap) := smOps E_geom_Own [{ dst := some 1, op := .box (.t 0) }, { dst := some 2, op := .nilrow 1 }]
noncomputable def geom_Own_c1_d (n : Nat) : Sm (Val × Heap) := smOps E_geom_Own [{ dst := some 3, op := .nilrow 1 }]
noncomputable def geom_Own_c2_d (n : Nat) : Sm (Val × Heap) := smOps E_geom_Own [{ dst := some 5, op := .loadN 3 (.t 1) }, { dst := some 6, op := .call 70 [(.t 5)] }, { dst := some 7, op := .mv (.v (.c (.i .i64 0))) }]
noncomputable def geom_Own_c3_d (n : Nat) : Sm (Val × Heap) := smOps E_geom_Own [{ dst := some 8, op := .bin .lss (.t 7) (.t 6) }]
noncomputable def geom_Own_c4_d (n : Nat) : Sm (Val × Heap) := smCond (.t 8) smSkip (smExit 0)
noncomputable def geom_Own_c5_d (n : Nat) : Sm (Val × Heap) := smOps E_geom_Own [{ dst := some 9, op := .mv (.t 7) }, { dst := some 4, op := .mv (.t 9) }]
noncomputable def geom_Own_c6_d (n : Nat) : Sm (Val × Heap) := smOps E_geom_Own [{ dst := some 10, op := .mv (.t 3) }, { dst := some 11, op := .mv (.t 4) }, { dst := some 12, op := .buildSl 1 1 ([.i .i64 0]) [(0, 1, (.t 11))] }, { dst := some 13, op := .app 1 (.t 10) (.t 12) }, { dst := some 3, op := .mv (.t 13) }]
noncomputable def geom_Own_c7_d (n : Nat) : Sm (Val × Heap) := smSeq [3, 4, 6, 7] (geom_Own_c5_d n) (geom_Own_c6_d n)
noncomputable def geom_Own_c8_d (n : Nat) : Sm (Val × Heap) := smBlock 1 (geom_Own_c7_d n)
noncomputable def geom_Own_c9_d (n : Nat) : Sm (Val × Heap) := smOps E_geom_Own [{ dst := some 14, op := .bin .add (.t 7) (.v (.c (.i .i64 1))) }, { dst := some 7, op := .mv (.t 14) }]
noncomputable def geom_Own_c10_d (n : Nat) : Sm (Val × Heap) := smSeq [3, 6, 7] (geom_Own_c8_d n) (geom_Own_c9_d n)
noncomputable def geom_Own_c11_d (n : Nat) : Sm (Val × Heap) := smSeq [3, 6, 7] (geom_Own_c4_d n) (geom_Own_c10_d n)
noncomputable def geom_Own_c12_d (n : Nat) : Sm (Val × Heap) := smSeq [3, 6, 7, 8] (geom_Own_c3_d n) (geom_Own_c11_d n)
noncomputable def geom_Own_c13_d (n : Nat) : Sm (Val × Heap) := smLoop n [3, 6, 7] (geom_Own_c12_d n)
noncomputable def geom_Own_c14_d (n : Nat) : Sm (Val × Heap) := smBlock 0 (geom_Own_c13_d n)
noncomputable def geom_Own_c15_d (n : Nat) : Sm (Val × Heap) := smSeq [3, 6, 7] (geom_Own_c2_d n) (geom_Own_c14_d n)
noncomputable def geom_Own_c16_d (n : Nat) : Sm (Val × Heap) := smOps E_geom_Own [{ dst := some 15, op := .mv (.t 3) }, { dst := some 2, op := .mv (.t 15) }]
noncomputable def geom_Own_c17_d (n : Nat) : Sm (Val × Heap) := smSeq [2] (geom_Own_c16_d n) smRet
noncomputable def geom_Own_c18_d (n : Nat) : Sm (Val × Heap) := smSeq [3] (geom_Own_c15_d n) (geom_Own_c17_d n)
noncomputable def geom_Own_c19_d (n : Nat) : Sm (Val × Heap) := smSeq [1, 3] (geom_Own_c1_d n) (geom_Own_c18_d n)
noncomputable def geom_Own_c20_d (n : Nat) : Sm (Val × Heap) := smSeq [1] (geom_Own_c0_d n) (geom_Own_c19_d n)
noncomputable def geom_Own_k0 (n : Nat) : AExit → Env → Heap → Option (Val × Heap) := fun x e h => match x with | .normal => hold ((geom_Own_c17_d n) A_geom_Own.fin (e.keep [3]) h) | .exit id => A_geom_Own.fin (.exit id) e h | .ret => A_geom_Own.fin .ret e h
noncomputable def geom_Own_k1 (n : Nat) : AExit → Env → Heap → Option (Val × Heap) := fun x e h => match x with | .exit i => bif Nat.beq i 0 then (geom_Own_k0 n) .normal e h else (geom_Own_k0 n) (.exit i) e h | .normal => (geom_Own_k0 n) .normal e h | .ret => (geom_Own_k0 n) .ret e h
noncomputable def geom_Own_l0 (n m : Nat) (x3 x6 x7 : Val) (h : Heap) : Option (Val × Heap) := around (geom_Own_c12_d n) [3, 6, 7] (geom_Own_k1 n) m [(3, x3), (6, x6), (7, x7)] h
noncomputable def R_geom_Own (n : Nat) (args : List Val) (h : Heap) : Option (Val × Heap) := (geom_Own_c20_d n) A_geom_Own.fin (params 0 args) h
theorem R_geom_Own_run (n : Nat) (args : List Val) (h : Heap) : A_geom_Own.run E_geom_Own n args h = R_geom_Own n args h := by kernel_rfl
theorem R_geom_Own_eq (n : Nat) (a0 : Val) (h : Heap) : R_geom_Own n [a0] h = bnd (cells? a0) fun c1 => bnd (aloadN ((((h ++ [some (Row.mk (c1) true)]) ++ [some (Row.mk ([]) true)]) ++ [some (Row.mk ([]) true)])) 3 ((.c (.p h.length 0)))) fun v2 => bnd (S_geom_Data [v2] ((((h ++ [some (Row.mk (c1) true)]) ++ [some (Row.mk ([]) true)]) ++ [some (Row.mk ([]) true)]))) fun p3 => geom_Own_l0 n n ((.c (.sl (((h ++ [some (Row.mk (c1) true)]) ++ [some (Row.mk ([]) true)])).length 0 0 1))) p3.1 (.c (.i .i64 0)) p3.2 := by kernel_rfl
theorem geom_Own_l0_eq (n m : Nat) (x3 x6 x7 : Val) (h : Heap) : geom_Own_l0 n (m + 1) x3 x6 x7 h = bnd (abin .lss x7 x6) fun v4 => cnd v4 (bnd (afill ([.i .i64 0]) [(0, 1, x7)]) fun c5 => bnd (aapp ((h ++ [some (Row.mk (c5) true)])) 1 x3 ((.c (.sl h.length 0 1 1)))) fun p6 => bnd (abin .add x7 (.c (.i .i64 1))) fun v7 => geom_Own_l0 n m p6.1 x6 v7 p6.2) (some (x3, h)) := by kernel_rfl
theorem chk_geom_Own : chkFn Try.prog Try.f69 A_geom_Own = true := by kernel_rfl
theorem E_geom_Own_sound : Sound Try.prog E_geom_Own := by
  intro f args h v h2 he
  unfold E_geom_Own at he
  cases hb0 : Nat.beq f 70 with
  | true => rw [hb0] at he; have e := Nat.eq_of_beq_eq_true hb0; subst e; exact S_geom_Data_ok args h v h2 he
  | false =>
    rw [hb0] at he; simp only [cond_false] at he
    cases he

theorem R_geom_Own_ok {n : Nat} {args : List Val} {h h2 : Heap} {v : Val} (he : R_geom_Own n args h = some (v, h2)) : Callable Try.prog 69 ∧ CallOk Try.prog 69 args h v h2 ∧ h.length ≤ h2.length := fn_ok E_geom_Own_sound Try.func69 chk_geom_Own ((R_geom_Own_run ..).trans he)
theorem L_geom_Own_ok (args : List Val) (h : Heap) (v : Val) (h2 : Heap) (he : Lim A_geom_Own E_geom_Own args h = some (v, h2)) : Callable Try.prog 69 ∧ CallOk Try.prog 69 args h v h2 ∧ h.length ≤ h2.length := (Lim_run he).elim fun _ e => R_geom_Own_ok ((R_geom_Own_run ..).symm.trans e)
theorem L_geom_Own_of {n : Nat} {args : List Val} {h : Heap} {p : Val × Heap} (he : R_geom_Own n args h = some p) : Lim A_geom_Own E_geom_Own args h = some p := Lim_of ((R_geom_Own_run ..).trans he)
noncomputable def S_geom_Own : List Val → Heap → Option (Val × Heap) := tidy (Lim A_geom_Own E_geom_Own)
theorem S_geom_Own_ok (args : List Val) (h : Heap) (v : Val) (h2 : Heap) (he : S_geom_Own args h = some (v, h2)) : Callable Try.prog 69 ∧ CallOk Try.prog 69 args h v h2 ∧ h.length ≤ h2.length := tidy_ok L_geom_Own_ok args h v h2 he
theorem S_geom_Own_flat {n : Nat} {args : List Val} {h h2 : Heap} {v : Val} (he : R_geom_Own n args (ro h) = some (v, h2)) (hf : v.flat = true) : S_geom_Own args h = some (v, h) := tidy_flat (L_geom_Own_of he) hf
theorem S_geom_Own_low {n : Nat} {args : List Val} {h h2 : Heap} {v : Val} (he : R_geom_Own n args (ro h) = some (v, h2)) (hf : v.low h.length = true) : S_geom_Own args h = some (v, h) := tidy_low (L_geom_Own_of he) hf
theorem S_geom_Own_out {n : Nat} {args : List Val} {h h2 : Heap} {v : Val} {sz k : Nat} {cs : List Cell} (he : R_geom_Own n args (ro h) = some (v, h2)) (ho : Out h.length h2 v sz k cs) (hf : flats cs = true) : S_geom_Own args h = some (.c (.sl h.length 0 k sz), h ++ [some ⟨cs, true⟩]) := tidy_out (L_geom_Own_of he) ho hf
theorem S_geom_Own_tidy {n : Nat} {args : List Val} {h h2 : Heap} {v v2 : Val} {ids : List Nat} (he : R_geom_Own n args (ro h) = some (v, h2)) (hc : canonV h2 h.length v = some (v2, ids)) : S_geom_Own args h = some (v2, h ++ ids.map (rd h2)) := tidy_of (L_geom_Own_of he) hc
def geom_Many_c0 : ACode := .ops [{ dst := some 1, op := .box (.t 0) }, { dst := some 2, op := .mv (.v (.c (.i .i64 0))) }]
def geom_Many_c1 : ACode := .ops [{ dst := some 3, op := .loadN 3 (.t 1) }, { dst := some 4, op := .call 173 [(.t 3)] }, { dst := some 5, op := .un .not (.t 4) }]
def geom_Many_c2 : ACode := .ops [{ dst := some 2, op := .mv (.v (.c (.i .i64 0))) }]
def geom_Many_c3 : ACode := .seq [2] geom_Many_c2 .ret
def geom_Many_c4 : ACode := .cond (.t 5) geom_Many_c3 .skip
def geom_Many_c5 : ACode := .seq [1, 5] geom_Many_c1 geom_Many_c4
def geom_Many_c6 : ACode := .draw 0 [{ dst := some 6, op := .fAddr (.t 1) 0 }, { dst := some 7, op := .load1 (.t 6) }, { dst := some 8, op := .loadN 3 (.t 1) }, { dst := some 9, op := .call 70 [(.t 8)] }] [{ dst := some 10, op := .bin .sub (.t 7) (.t 9) }, { dst := some 2, op := .mv (.t 10) }]
def geom_Many_c7 : ACode := .seq [2] geom_Many_c6 .ret
def geom_Many_c8 : ACode := .seq [1] geom_Many_c5 geom_Many_c7
def geom_Many_c9 : ACode := .seq [1] geom_Many_c0 geom_Many_c8
def A_geom_Many : AFn := ⟨geom_Many_c9, [.tmp 2]⟩
noncomputable def E_geom_Many : Sums := fun f args h => bif Nat.beq f 173 then S_geom_ok args h else bif Nat.beq f 70 then S_geom_Data args h else none
noncomputable def geom_Many_c0_d (n : Nat) : Sm (Val × Heap) := smOps E_geom_Many [{ dst := some 1, op := .box (.t 0) }, { dst := some 2, op := .mv (.v (.c (.i .i64 0))) }]
noncomputable def geom_Many_c1_d (n : Nat) : Sm (Val × Heap) := smOps E_geom_Many [{ dst := some 3, op := .loadN 3 (.t 1) }, { dst := some 4, op := .call 173 [(.t 3)] }, { dst := some 5, op := .un .not (.t 4) }]
noncomputable def geom_Many_c2_d (n : Nat) : Sm (Val × Heap) := smOps E_geom_Many [{ dst := some 2, op := .mv (.v (.c (.i .i64 0))) }]
noncomputable def geom_Many_c3_d (n : Nat) : Sm (Val × Heap) := smSeq [2] (geom_Many_c2_d n) smRet
noncomputable def geom_Many_c4_d (n : Nat) : Sm (Val × Heap) := smCond (.t 5) (geom_Many_c3_d n) smSkip
noncomputable def geom_Many_c5_d (n : Nat) : Sm (Val × Heap) := smSeq [1, 5] (geom_Many_c1_d n) (geom_Many_c4_d n)
noncomputable def geom_Many_c6_d (n : Nat) : Sm (Val × Heap) := smDraw E_geom_Many 0 [{ dst := some 6, op := .fAddr (.t 1) 0 }, { dst := some 7, op := .load1 (.t 6) }, { dst := some 8, op := .loadN 3 (.t 1) }, { dst := some 9, op := .call 70 [(.t 8)] }] [{ dst := some 10, op := .bin .sub (.t 7) (.t 9) }, { dst := some 2, op := .mv (.t 10) }]
noncomputable def geom_Many_c7_d (n : Nat) : Sm (Val × Heap) := smSeq [2] (geom_Many_c6_d n) smRet
noncomputable def geom_Many_c8_d (n : Nat) : Sm (Val × Heap) := smSeq [1] (geom_Many_c5_d n) (geom_Many_c7_d n)
noncomputable def geom_Many_c9_d (n : Nat) : Sm (Val × Heap) := smSeq [1] (geom_Many_c0_d n) (geom_Many_c8_d n)
noncomputable def R_geom_Many (n : Nat) (args : List Val) (h : Heap) : Option (Val × Heap) := (geom_Many_c9_d n) A_geom_Many.fin (params 0 args) h
theorem R_geom_Many_run (n : Nat) (args : List Val) (h : Heap) : A_geom_Many.run E_geom_Many n args h = R_geom_Many n args h := by kernel_rfl
theorem R_geom_Many_eq (n : Nat) (a0 : Val) (h : Heap) : R_geom_Many n [a0] h = bnd (cells? a0) fun c1 => bnd (aloadN ((h ++ [some (Row.mk (c1) true)])) 3 ((.c (.p h.length 0)))) fun v2 => bnd (S_geom_ok [v2] ((h ++ [some (Row.mk (c1) true)]))) fun p3 => bnd (aun .not p3.1) fun v4 => cnd v4 (some ((.c (.i .i64 0)), p3.2)) (bnd (afAddr ((.c (.p h.length 0))) 0) fun v5 => bnd (aload1 p3.2 v5) fun v6 => bnd (aloadN p3.2 3 ((.c (.p h.length 0)))) fun v7 => bnd (quiet ((p3.2 ++ [])) (S_geom_Data [v7] ((p3.2 ++ [])))) fun p8 => bnd (abin .sub v6 p8.1) fun v9 => some (v9, p8.2)) := by kernel_rfl
theorem chk_geom_Many : chkFn Try.prog Try.f71 A_geom_Many = true := by kernel_rfl
theorem E_geom_Many_sound : Sound Try.prog E_geom_Many := by
  intro f args h v h2 he
  unfold E_geom_Many at he
  cases hb0 : Nat.beq f 173 with
  | true => rw [hb0] at he; have e := Nat.eq_of_beq_eq_true hb0; subst e; exact S_geom_ok_ok args h v h2 he
  | false =>
    rw [hb0] at he; simp only [cond_false] at he
    cases hb1 : Nat.beq f 70 with
    | true => rw [hb1] at he; have e := Nat.eq_of_beq_eq_true hb1; subst e; exact S_geom_Data_ok args h v h2 he
    | false =>
      rw [hb1] at he; simp only [cond_false] at he
      cases he

theorem R_geom_Many_ok {n : Nat} {args : List Val} {h h2 : Heap} {v : Val} (he : R_geom_Many n args h = some (v, h2)) : Callable Try.prog 71 ∧ CallOk Try.prog 71 args h v h2 ∧ h.length ≤ h2.length := fn_ok E_geom_Many_sound Try.func71 chk_geom_Many ((R_geom_Many_run ..).trans he)
theorem L_geom_Many_ok (args : List Val) (h : Heap) (v : Val) (h2 : Heap) (he : Lim A_geom_Many E_geom_Many args h = some (v, h2)) : Callable Try.prog 71 ∧ CallOk Try.prog 71 args h v h2 ∧ h.length ≤ h2.length := (Lim_run he).elim fun _ e => R_geom_Many_ok ((R_geom_Many_run ..).symm.trans e)
theorem L_geom_Many_of {n : Nat} {args : List Val} {h : Heap} {p : Val × Heap} (he : R_geom_Many n args h = some p) : Lim A_geom_Many E_geom_Many args h = some p := Lim_of ((R_geom_Many_run ..).trans he)
noncomputable def S_geom_Many : List Val → Heap → Option (Val × Heap) := tidy (Lim A_geom_Many E_geom_Many)
theorem S_geom_Many_ok (args : List Val) (h : Heap) (v : Val) (h2 : Heap) (he : S_geom_Many args h = some (v, h2)) : Callable Try.prog 71 ∧ CallOk Try.prog 71 args h v h2 ∧ h.length ≤ h2.length := tidy_ok L_geom_Many_ok args h v h2 he
theorem S_geom_Many_flat {n : Nat} {args : List Val} {h h2 : Heap} {v : Val} (he : R_geom_Many n args (ro h) = some (v, h2)) (hf : v.flat = true) : S_geom_Many args h = some (v, h) := tidy_flat (L_geom_Many_of he) hf
theorem S_geom_Many_low {n : Nat} {args : List Val} {h h2 : Heap} {v : Val} (he : R_geom_Many n args (ro h) = some (v, h2)) (hf : v.low h.length = true) : S_geom_Many args h = some (v, h) := tidy_low (L_geom_Many_of he) hf
theorem S_geom_Many_out {n : Nat} {args : List Val} {h h2 : Heap} {v : Val} {sz k : Nat} {cs : List Cell} (he : R_geom_Many n args (ro h) = some (v, h2)) (ho : Out h.length h2 v sz k cs) (hf : flats cs = true) : S_geom_Many args h = some (.c (.sl h.length 0 k sz), h ++ [some ⟨cs, true⟩]) := tidy_out (L_geom_Many_of he) ho hf
theorem S_geom_Many_tidy {n : Nat} {args : List Val} {h h2 : Heap} {v v2 : Val} {ids : List Nat} (he : R_geom_Many n args (ro h) = some (v, h2)) (hc : canonV h2 h.length v = some (v2, ids)) : S_geom_Many args h = some (v2, h ++ ids.map (rd h2)) := tidy_of (L_geom_Many_of he) hc
def geom_IsData_c0 : ACode := .ops [{ dst := some 2, op := .box (.t 0) }, { dst := some 4, op := .mv (.v (.c (.b false))) }]
def geom_IsData_c1 : ACode := .ops [{ dst := some 5, op := .loadN 3 (.t 2) }, { dst := some 6, op := .call 173 [(.t 5)] }, { dst := some 7, op := .mv (.t 6) }, { dst := some 8, op := .mv (.t 1), guard := some (7, true) }, { dst := some 9, op := .loadN 3 (.t 2), guard := some (7, true) }, { dst := some 10, op := .call 70 [(.t 9)], guard := some (7, true) }, { dst := some 11, op := .bin .geq (.t 8) (.t 10), guard := some (7, true) }, { dst := some 12, op := .pick (.t 7) (.t 11) (.v (.c (.b false))) }, { dst := some 13, op := .mv (.t 12) }, { dst := some 14, op := .mv (.t 1), guard := some (13, true) }, { dst := some 15, op := .fAddr (.t 2) 0, guard := some (13, true) }, { dst := some 16, op := .load1 (.t 15), guard := some (13, true) }, { dst := some 17, op := .bin .lss (.t 14) (.t 16), guard := some (13, true) }, { dst := some 18, op := .pick (.t 13) (.t 17) (.v (.c (.b false))) }, { dst := some 4, op := .mv (.t 18) }]
def geom_IsData_c2 : ACode := .seq [4] geom_IsData_c1 .ret
def geom_IsData_c3 : ACode := .seq [1, 2] geom_IsData_c0 geom_IsData_c2
def A_geom_IsData : AFn := ⟨geom_IsData_c3, [.tmp 4]⟩
noncomputable def E_geom_IsData : Sums := fun f args h => bif Nat.beq f 173 then S_geom_ok args h else bif Nat.beq f 70 then S_geom_Data args h else none
noncomputable def geom_IsData_c0_d (n : Nat) : Sm (Val × Heap) := smOps E_geom_IsData [{ dst := some 2, op := .box (.t 0) }, { dst := some 4, op := .mv (.v (.c (.b false))) }]
noncomputable def geom_IsData_c1_d (n : Nat) : Sm (Val × Heap) := smOps E_geom_IsData [{ dst := some 5, op := .loadN 3 (.t 2) }, { dst := some 6, op := .call 173 [(.t 5)] }, { dst := some 7, op := .mv (.t 6) }, { dst := some 8, op := .mv (.t 1), guard := some (7, true) }, { dst := some 9, op := .loadN 3 (.t 2), guard := some (7, true) }, { dst := some 10, op := .call 70 [(.t 9)], guard := some (7, true) }, { dst := some 11, op := .bin .geq (.t 8) (.t 10), guard := some (7, true) }, { dst := some 12, op := .pick (.t 7) (.t 11) (.v (.c (.b false))) }, { dst := some 13, op := .mv (.t 12) }, { dst := some 14, op := .mv (.t 1), guard := some (13, true) }, { dst := some 15, op := .fAddr (.t 2) 0, guard := some (13, true) }, { dst := some 16, op := .load1 (.t 15), guard := some (13, true) }, { dst := some 17, op := .bin .lss (.t 14) (.t 16), guard := some (13, true) }, { dst := some 18, op := .pick (.t 13) (.t 17) (.v (.c (.b false))) }, { dst := some 4, op := .mv (.t 18) }]
noncomputable def geom_IsData_c2_d (n : Nat) : Sm (Val × Heap) := smSeq [4] (geom_IsData_c1_d n) smRet
noncomputable def geom_IsData_c3_d (n : Nat) : Sm (Val × Heap) := smSeq [1, 2] (geom_IsData_c0_d n) (geom_IsData_c2_d n)
noncomputable def R_geom_IsData (n : Nat) (args : List Val) (h : Heap) : Option (Val × Heap) := (geom_IsData_c3_d n) A_geom_IsData.fin (params 0 args) h
theorem R_geom_IsData_run (n : Nat) (args : List Val) (h : Heap) : A_geom_IsData.run E_geom_IsData n args h = R_geom_IsData n args h := by kernel_rfl
theorem R_geom_IsData_eq (n : Nat) (a0 a1 : Val) (h : Heap) : R_geom_IsData n [a0, a1] h = bnd (cells? a0) fun c1 => bnd (aloadN ((h ++ [some (Row.mk (c1) true)])) 3 ((.c (.p h.length 0)))) fun v2 => bnd (S_geom_ok [v2] ((h ++ [some (Row.mk (c1) true)]))) fun p3 => bnd (gd p3.1 true (some (a1, p3.2)) (some (.no, p3.2))) fun p4 => bnd (gd p3.1 true (bnd (aloadN p4.2 3 ((.c (.p h.length 0)))) fun v5 => some (v5, p4.2)) (some (.no, p4.2))) fun p6 => bnd (gd p3.1 true (bnd (S_geom_Data [p6.1] p6.2) fun p7 => some (p7.1, p7.2)) (some (.no, p6.2))) fun p8 => bnd (gd p3.1 true (bnd (abin .geq p4.1 p8.1) fun v9 => some (v9, p8.2)) (some (.no, p8.2))) fun p10 => bnd (apick p3.1 p10.1 (.c (.b false))) fun v11 => bnd (gd v11 true (some (a1, p10.2)) (some (.no, p10.2))) fun p12 => bnd (gd v11 true (bnd (afAddr ((.c (.p h.length 0))) 0) fun v13 => some (v13, p12.2)) (some (.no, p12.2))) fun p14 => bnd (gd v11 true (bnd (aload1 p14.2 p14.1) fun v15 => some (v15, p14.2)) (some (.no, p14.2))) fun p16 => bnd (gd v11 true (bnd (abin .lss p12.1 p16.1) fun v17 => some (v17, p16.2)) (some (.no, p16.2))) fun p18 => bnd (apick v11 p18.1 (.c (.b false))) fun v19 => some (v19, p18.2) := by kernel_rfl
theorem chk_geom_IsData : chkFn Try.prog Try.f72 A_geom_IsData = true := by kernel_rfl
theorem E_geom_IsData_sound : Sound Try.prog E_geom_IsData := by
  intro f args h v h2 he
  unfold E_geom_IsData at he
  cases hb0 : Nat.beq f 173 with
  | true => rw [hb0] at he; have e := Nat.eq_of_beq_eq_true hb0; subst e; exact S_geom_ok_ok args h v h2 he
  | false =>
    rw [hb0] at he; simp only [cond_false] at he
    cases hb1 : Nat.beq f 70 with
    | true => rw [hb1] at he; have e := Nat.eq_of_beq_eq_true hb1; subst e; exact S_geom_Data_ok args h v h2 he
    | false =>
      rw [hb1] at he; simp only [cond_false] at he
      cases he

theorem R_geom_IsData_ok {n : Nat} {args : List Val} {h h2 : Heap} {v : Val} (he : R_geom_IsData n args h = some (v, h2)) : Callable Try.prog 72 ∧ CallOk Try.prog 72 args h v h2 ∧ h.length ≤ h2.length := fn_ok E_geom_IsData_sound Try.func72 chk_geom_IsData ((R_geom_IsData_run ..).trans he)
theorem L_geom_IsData_ok (args : List Val) (h : Heap) (v : Val) (h2 : Heap) (he : Lim A_geom_IsData E_geom_IsData args h = some (v, h2)) : Callable Try.prog 72 ∧ CallOk Try.prog 72 args h v h2 ∧ h.length ≤ h2.length := (Lim_run he).elim fun _ e => R_geom_IsData_ok ((R_geom_IsData_run ..).symm.trans e)
theorem L_geom_IsData_of {n : Nat} {args : List Val} {h : Heap} {p : Val × Heap} (he : R_geom_IsData n args h = some p) : Lim A_geom_IsData E_geom_IsData args h = some p := Lim_of ((R_geom_IsData_run ..).trans he)
noncomputable def S_geom_IsData : List Val → Heap → Option (Val × Heap) := tidy (Lim A_geom_IsData E_geom_IsData)
theorem S_geom_IsData_ok (args : List Val) (h : Heap) (v : Val) (h2 : Heap) (he : S_geom_IsData args h = some (v, h2)) : Callable Try.prog 72 ∧ CallOk Try.prog 72 args h v h2 ∧ h.length ≤ h2.length := tidy_ok L_geom_IsData_ok args h v h2 he
theorem S_geom_IsData_flat {n : Nat} {args : List Val} {h h2 : Heap} {v : Val} (he : R_geom_IsData n args (ro h) = some (v, h2)) (hf : v.flat = true) : S_geom_IsData args h = some (v, h) := tidy_flat (L_geom_IsData_of he) hf
theorem S_geom_IsData_low {n : Nat} {args : List Val} {h h2 : Heap} {v : Val} (he : R_geom_IsData n args (ro h) = some (v, h2)) (hf : v.low h.length = true) : S_geom_IsData args h = some (v, h) := tidy_low (L_geom_IsData_of he) hf
theorem S_geom_IsData_out {n : Nat} {args : List Val} {h h2 : Heap} {v : Val} {sz k : Nat} {cs : List Cell} (he : R_geom_IsData n args (ro h) = some (v, h2)) (ho : Out h.length h2 v sz k cs) (hf : flats cs = true) : S_geom_IsData args h = some (.c (.sl h.length 0 k sz), h ++ [some ⟨cs, true⟩]) := tidy_out (L_geom_IsData_of he) ho hf
theorem S_geom_IsData_tidy {n : Nat} {args : List Val} {h h2 : Heap} {v v2 : Val} {ids : List Nat} (he : R_geom_IsData n args (ro h) = some (v, h2)) (hc : canonV h2 h.length v = some (v2, ids)) : S_geom_IsData args h = some (v2, h ++ ids.map (rd h2)) := tidy_of (L_geom_IsData_of he) hc
end Go.Proofs.Ytbbkpmbepljhkaa
