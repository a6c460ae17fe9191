/- Escheatlaw20: the Go functions of this package as the abstract evaluator computes them: printed by a program, checked by Lean. -/
import Derived.Test.YtbbkpmbepljhkaaEscS
import Derived.Test.YtbbkpmbepljhkaaChecked
import Derived.KernelRfl
import Derived.Test.YtbbkpmbepljhkaaGEscheatref04
import Derived.Test.YtbbkpmbepljhkaaGPoints
namespace Go.Proofs.Ytbbkpmbepljhkaa
open Go Go.Esc
set_option maxRecDepth 100000
set_option linter.all false
def escheatlaw20_works_c0 : ACode := .ops [{ dst := some 0, op := .mv (.v (.c (.b false))) }]
def escheatlaw20_works_c1 : ACode := .ops [{ dst := some 4, op := .buildSl 1 3 ([.i .i64 0, .i .i64 0, .i .i64 0]) [(0, 1, (.v (.c (.i .i64 7)))), (1, 1, (.v (.c (.i .i64 0)))), (2, 1, (.v (.c (.i .i64 9))))] }, { dst := some 5, op := .call 88 [(.t 4)] }, { dst := some 3, op := .mv (.t 5) }, { dst := some 6, op := .ext (.t 3) 0 }, { dst := some 7, op := .ext (.t 3) 1 }, { dst := some 1, op := .alloc (List.replicate 256 (.i .u8 0)) }, { dst := none, op := .storeN 256 (.t 1) (.t 6) }, { dst := some 2, op := .mv (.t 7) }]
def escheatlaw20_works_c2 : ACode := .ops [{ dst := some 8, op := .mv (.t 2) }, { dst := some 9, op := .bin .eql (.t 8) (.v (.c (.i .i64 0))) }, { dst := some 10, op := .mv (.t 9) }, { dst := some 11, op := .loadN 256 (.t 1), guard := some (10, true) }, { dst := some 12, op := .call 89 [(.t 11)], guard := some (10, true) }, { dst := some 13, op := .buildSl 1 2 ([.i .i64 0, .i .i64 0]) [(0, 1, (.v (.c (.i .i64 7)))), (1, 1, (.v (.c (.i .i64 9))))], guard := some (10, true) }, { dst := some 14, op := .call 102 [(.t 12), (.t 13)], guard := some (10, true) }, { dst := some 15, op := .pick (.t 10) (.t 14) (.v (.c (.b false))) }, { dst := some 16, op := .mv (.t 15) }, { dst := some 17, op := .loadN 256 (.t 1), guard := some (16, true) }, { dst := some 18, op := .call 90 [(.t 17)], guard := some (16, true) }, { dst := some 19, op := .bin .eql (.t 18) (.v (.c (.i .i64 3))), guard := some (16, true) }, { dst := some 20, op := .pick (.t 16) (.t 19) (.v (.c (.b false))) }, { dst := some 21, op := .mv (.t 20) }, { dst := some 22, op := .loadN 256 (.t 1), guard := some (21, true) }, { dst := some 23, op := .call 87 [(.t 22), (.v (.c (.i .i64 2)))], guard := some (21, true) }, { dst := some 24, op := .bin .eql (.t 23) (.v (.c (.i .i64 9))), guard := some (21, true) }, { dst := some 25, op := .pick (.t 21) (.t 24) (.v (.c (.b false))) }, { dst := some 0, op := .mv (.t 25) }]
def escheatlaw20_works_c3 : ACode := .seq [0] escheatlaw20_works_c2 .ret
def escheatlaw20_works_c4 : ACode := .seq [1, 2] escheatlaw20_works_c1 escheatlaw20_works_c3
def escheatlaw20_works_c5 : ACode := .seq [] escheatlaw20_works_c0 escheatlaw20_works_c4
def A_escheatlaw20_works : AFn := ⟨escheatlaw20_works_c5, [.tmp 0]⟩
noncomputable def E_escheatlaw20_works : Sums := fun f args h => bif Nat.beq f 88 then S_points_Make args h else bif Nat.beq f 89 then S_points_List args h else bif Nat.beq f 102 then S_escheatref04_Ints args h else bif Nat.beq f 90 then S_points_Last args h else bif Nat.beq f 87 then S_points_Get args h else none
noncomputable def escheatlaw20_works_c0_d (n : Nat) : Sm (Val × Heap) := smOps E_escheatlaw20_works [{ dst := some 0, op := .mv (.v (.c (.b false))) }]
noncomputable def escheatlaw20_works_c1_d (n : Nat) : Sm (Val × Heap) := smOps E_escheatlaw20_works [{ dst := some 4, op := .buildSl 1 3 ([.i .i64 0, .i .i64 0, .i .i64 0]) [(0, 1, (.v (.c (.i .i64 7)))), (1, 1, (.v (.c (.i .i64 0)))), (2, 1, (.v (.c (.i .i64 9))))] }, { dst := some 5, op := .call 88 [(.t 4)] }, { dst := some 3, op := .mv (.t 5) }, { dst := some 6, op := .ext (.t 3) 0 }, { dst := some 7, op := .ext (.t 3) 1 }, { dst := some 1, op := .alloc (List.replicate 256 (.i .u8 0)) }, { dst := none, op := .storeN 256 (.t 1) (.t 6) }, { dst := some 2, op := .mv (.t 7) }]
noncomputable def escheatlaw20_works_c2_d (n : Nat) : Sm (Val × Heap) := smOps E_escheatlaw20_works [{ dst := some 8, op := .mv (.t 2) }, { dst := some 9, op := .bin .eql (.t 8) (.v (.c (.i .i64 0))) }, { dst := some 10, op := .mv (.t 9) }, { dst := some 11, op := .loadN 256 (.t 1), guard := some (10, true) }, { dst := some 12, op := .call 89 [(.t 11)], guard := some (10, true) }, { dst := some 13, op := .buildSl 1 2 ([.i .i64 0, .i .i64 0]) [(0, 1, (.v (.c (.i .i64 7)))), (1, 1, (.v (.c (.i .i64 9))))], guard := some (10, true) }, { dst := some 14, op := .call 102 [(.t 12), (.t 13)], guard := some (10, true) }, { dst := some 15, op := .pick (.t 10) (.t 14) (.v (.c (.b false))) }, { dst := some 16, op := .mv (.t 15) }, { dst := some 17, op := .loadN 256 (.t 1), guard := some (16, true) }, { dst := some 18, op := .call 90 [(.t 17)], guard := some (16, true) }, { dst := some 19, op := .bin .eql (.t 18) (.v (.c (.i .i64 3))), guard := some (16, true) }, { dst := some 20, op := .pick (.t 16) (.t 19) (.v (.c (.b false))) }, { dst := some 21, op := .mv (.t 20) }, { dst := some 22, op := .loadN 256 (.t 1), guard := some (21, true) }, { dst := some 23, op := .call 87 [(.t 22), (.v (.c (.i .i64 2)))], guard := some (21, true) }, { dst := some 24, op := .bin .eql (.t 23) (.v (.c (.i .i64 9))), guard := some (21, true) }, { dst := some 25, op := .pick (.t 21) (.t 24) (.v (.c (.b false))) }, { dst := some 0, op := .mv (.t 25) }]
noncomputable def escheatlaw20_works_c3_d (n : Nat) : Sm (Val × Heap) := smSeq [0] (escheatlaw20_works_c2_d n) smRet
noncomputable def escheatlaw20_works_c4_d (n : Nat) : Sm (Val × Heap) := smSeq [1, 2] (escheatlaw20_works_c1_d n) (escheatlaw20_works_c3_d n)
noncomputable def escheatlaw20_works_c5_d (n : Nat) : Sm (Val × Heap) := smSeq [] (escheatlaw20_works_c0_d n) (escheatlaw20_works_c4_d n)
noncomputable def R_escheatlaw20_works (n : Nat) (args : List Val) (h : Heap) : Option (Val × Heap) := (escheatlaw20_works_c5_d n) A_escheatlaw20_works.fin (params 0 args) h
theorem R_escheatlaw20_works_run (n : Nat) (args : List Val) (h : Heap) : A_escheatlaw20_works.run E_escheatlaw20_works n args h = R_escheatlaw20_works n args h := by kernel_rfl
theorem R_escheatlaw20_works_eq (n : Nat) (h : Heap) : R_escheatlaw20_works n [] h = bnd (afill ([.i .i64 0, .i .i64 0, .i .i64 0]) [(0, 1, .c (.i .i64 7)), (1, 1, .c (.i .i64 0)), (2, 1, .c (.i .i64 9))]) fun c1 => bnd (S_points_Make [(.c (.sl h.length 0 3 1))] ((h ++ [some (Row.mk (c1) true)]))) fun p2 => bnd (aext p2.1 0) fun v3 => bnd (aext p2.1 1) fun v4 => bnd (astoreN ((p2.2 ++ [some (Row.mk (List.replicate 256 (.i .u8 0)) true)])) 256 ((.c (.p p2.2.length 0))) v3) fun h5 => bnd (abin .eql v4 (.c (.i .i64 0))) fun v6 => bnd (gd v6 true (bnd (aloadN h5 256 ((.c (.p p2.2.length 0)))) fun v7 => some (v7, h5)) (some (.no, h5))) fun p8 => bnd (gd v6 true (bnd (S_points_List [p8.1] p8.2) fun p9 => some (p9.1, p9.2)) (some (.no, p8.2))) fun p10 => bnd (gd v6 true (bnd (afill ([.i .i64 0, .i .i64 0]) [(0, 1, .c (.i .i64 7)), (1, 1, .c (.i .i64 9))]) fun c11 => some ((.c (.sl p10.2.length 0 2 1)), (p10.2 ++ [some (Row.mk (c11) true)]))) (some (.no, p10.2))) fun p12 => bnd (gd v6 true (bnd (S_escheatref04_Ints [p10.1, p12.1] p12.2) fun p13 => some (p13.1, p13.2)) (some (.no, p12.2))) fun p14 => bnd (apick v6 p14.1 (.c (.b false))) fun v15 => bnd (gd v15 true (bnd (aloadN p14.2 256 ((.c (.p p2.2.length 0)))) fun v16 => some (v16, p14.2)) (some (.no, p14.2))) fun p17 => bnd (gd v15 true (bnd (S_points_Last [p17.1] p17.2) fun p18 => some (p18.1, p18.2)) (some (.no, p17.2))) fun p19 => bnd (gd v15 true (bnd (abin .eql p19.1 (.c (.i .i64 3))) fun v20 => some (v20, p19.2)) (some (.no, p19.2))) fun p21 => bnd (apick v15 p21.1 (.c (.b false))) fun v22 => bnd (gd v22 true (bnd (aloadN p21.2 256 ((.c (.p p2.2.length 0)))) fun v23 => some (v23, p21.2)) (some (.no, p21.2))) fun p24 => bnd (gd v22 true (bnd (S_points_Get [p24.1, .c (.i .i64 2)] p24.2) fun p25 => some (p25.1, p25.2)) (some (.no, p24.2))) fun p26 => bnd (gd v22 true (bnd (abin .eql p26.1 (.c (.i .i64 9))) fun v27 => some (v27, p26.2)) (some (.no, p26.2))) fun p28 => bnd (apick v22 p28.1 (.c (.b false))) fun v29 => some (v29, p28.2) := by kernel_rfl
theorem chk_escheatlaw20_works : chkFn Try.prog Try.f91 A_escheatlaw20_works = true := by kernel_rfl
theorem E_escheatlaw20_works_sound : Sound Try.prog E_escheatlaw20_works := by
  intro f args h v h2 he
  unfold E_escheatlaw20_works at he
  cases hb0 : Nat.beq f 88 with
  | true => rw [hb0] at he; have e := Nat.eq_of_beq_eq_true hb0; subst e; exact S_points_Make_ok args h v h2 he
  | false =>
    rw [hb0] at he; simp only [cond_false] at he
    cases hb1 : Nat.beq f 89 with
    | true => rw [hb1] at he; have e := Nat.eq_of_beq_eq_true hb1; subst e; exact S_points_List_ok args h v h2 he
    | false =>
      rw [hb1] at he; simp only [cond_false] at he
      cases hb2 : Nat.beq f 102 with
      | true => rw [hb2] at he; have e := Nat.eq_of_beq_eq_true hb2; subst e; exact S_escheatref04_Ints_ok args h v h2 he
      | false =>
        rw [hb2] at he; simp only [cond_false] at he
        cases hb3 : Nat.beq f 90 with
        | true => rw [hb3] at he; have e := Nat.eq_of_beq_eq_true hb3; subst e; exact S_points_Last_ok args h v h2 he
        | false =>
          rw [hb3] at he; simp only [cond_false] at he
          cases hb4 : Nat.beq f 87 with
          | true => rw [hb4] at he; have e := Nat.eq_of_beq_eq_true hb4; subst e; exact S_points_Get_ok args h v h2 he
          | false =>
            rw [hb4] at he; simp only [cond_false] at he
            cases he

theorem R_escheatlaw20_works_ok {n : Nat} {args : List Val} {h h2 : Heap} {v : Val} (he : R_escheatlaw20_works n args h = some (v, h2)) : Callable Try.prog 91 ∧ CallOk Try.prog 91 args h v h2 ∧ h.length ≤ h2.length := fn_ok E_escheatlaw20_works_sound Try.func91 chk_escheatlaw20_works ((R_escheatlaw20_works_run ..).trans he)
theorem L_escheatlaw20_works_ok (args : List Val) (h : Heap) (v : Val) (h2 : Heap) (he : Lim A_escheatlaw20_works E_escheatlaw20_works args h = some (v, h2)) : Callable Try.prog 91 ∧ CallOk Try.prog 91 args h v h2 ∧ h.length ≤ h2.length := (Lim_run he).elim fun _ e => R_escheatlaw20_works_ok ((R_escheatlaw20_works_run ..).symm.trans e)
theorem L_escheatlaw20_works_of {n : Nat} {args : List Val} {h : Heap} {p : Val × Heap} (he : R_escheatlaw20_works n args h = some p) : Lim A_escheatlaw20_works E_escheatlaw20_works args h = some p := Lim_of ((R_escheatlaw20_works_run ..).trans he)
noncomputable def S_escheatlaw20_works : List Val → Heap → Option (Val × Heap) := tidy (Lim A_escheatlaw20_works E_escheatlaw20_works)
theorem S_escheatlaw20_works_ok (args : List Val) (h : Heap) (v : Val) (h2 : Heap) (he : S_escheatlaw20_works args h = some (v, h2)) : Callable Try.prog 91 ∧ CallOk Try.prog 91 args h v h2 ∧ h.length ≤ h2.length := tidy_ok L_escheatlaw20_works_ok args h v h2 he
theorem S_escheatlaw20_works_flat {n : Nat} {args : List Val} {h h2 : Heap} {v : Val} (he : R_escheatlaw20_works n args (ro h) = some (v, h2)) (hf : v.flat = true) : S_escheatlaw20_works args h = some (v, h) := tidy_flat (L_escheatlaw20_works_of he) hf
theorem S_escheatlaw20_works_low {n : Nat} {args : List Val} {h h2 : Heap} {v : Val} (he : R_escheatlaw20_works n args (ro h) = some (v, h2)) (hf : v.low h.length = true) : S_escheatlaw20_works args h = some (v, h) := tidy_low (L_escheatlaw20_works_of he) hf
theorem S_escheatlaw20_works_out {n : Nat} {args : List Val} {h h2 : Heap} {v : Val} {sz k : Nat} {cs : List Cell} (he : R_escheatlaw20_works n args (ro h) = some (v, h2)) (ho : Out h.length h2 v sz k cs) (hf : flats cs = true) : S_escheatlaw20_works args h = some (.c (.sl h.length 0 k sz), h ++ [some ⟨cs, true⟩]) := tidy_out (L_escheatlaw20_works_of he) ho hf
theorem S_escheatlaw20_works_tidy {n : Nat} {args : List Val} {h h2 : Heap} {v v2 : Val} {ids : List Nat} (he : R_escheatlaw20_works n args (ro h) = some (v, h2)) (hc : canonV h2 h.length v = some (v2, ids)) : S_escheatlaw20_works args h = some (v2, h ++ ids.map (rd h2)) := tidy_of (L_escheatlaw20_works_of he) hc
def escheatlaw20_below_c0 : ACode := .ops [{ dst := some 1, op := .box (.t 0) }, { dst := some 2, op := .mv (.v (.c .nf)) }]
def escheatlaw20_below_c1 : ACode := .ops [{ dst := some 3, op := .mkf 179 [(.t 1)] }, { dst := some 2, op := .mv (.t 3) }]
def escheatlaw20_below_c2 : ACode := .seq [2] escheatlaw20_below_c1 .ret
def escheatlaw20_below_c3 : ACode := .seq [1] escheatlaw20_below_c0 escheatlaw20_below_c2
def A_escheatlaw20_below : AFn := ⟨escheatlaw20_below_c3, [.tmp 2]⟩
noncomputable def E_escheatlaw20_below : Sums := fun f args h => none
noncomputable def escheatlaw20_below_c0_d (n : Nat) : Sm (Val × Heap) := smOps E_escheatlaw20_below [{ dst := some 1, op := .box (.t 0) }, { dst := some 2, op := .mv (.v (.c .nf)) }]
noncomputable def escheatlaw20_below_c1_d (n : Nat) : Sm (Val × Heap) := smOps E_escheatlaw20_below [{ dst := some 3, op := .mkf 179 [(.t 1)] }, { dst := some 2, op := .mv (.t 3) }]
noncomputable def escheatlaw20_below_c2_d (n : Nat) : Sm (Val × Heap) := smSeq [2] (escheatlaw20_below_c1_d n) smRet
noncomputable def escheatlaw20_below_c3_d (n : Nat) : Sm (Val × Heap) := smSeq [1] (escheatlaw20_below_c0_d n) (escheatlaw20_below_c2_d n)
noncomputable def R_escheatlaw20_below (n : Nat) (args : List Val) (h : Heap) : Option (Val × Heap) := (escheatlaw20_below_c3_d n) A_escheatlaw20_below.fin (params 0 args) h
theorem R_escheatlaw20_below_run (n : Nat) (args : List Val) (h : Heap) : A_escheatlaw20_below.run E_escheatlaw20_below n args h = R_escheatlaw20_below n args h := by kernel_rfl
theorem R_escheatlaw20_below_eq (n : Nat) (a0 : Val) (h : Heap) : R_escheatlaw20_below n [a0] h = bnd (cells? a0) fun c1 => bnd (amkf 179 [(.c (.p h.length 0))]) fun v2 => some (v2, (h ++ [some (Row.mk (c1) true)])) := by kernel_rfl
theorem chk_escheatlaw20_below : chkFn Try.prog Try.f101 A_escheatlaw20_below = true := by kernel_rfl
theorem E_escheatlaw20_below_sound : Sound Try.prog E_escheatlaw20_below := by
  intro f args h v h2 he
  unfold E_escheatlaw20_below at he
  cases he

theorem R_escheatlaw20_below_ok {n : Nat} {args : List Val} {h h2 : Heap} {v : Val} (he : R_escheatlaw20_below n args h = some (v, h2)) : Callable Try.prog 101 ∧ CallOk Try.prog 101 args h v h2 ∧ h.length ≤ h2.length := fn_ok E_escheatlaw20_below_sound Try.func101 chk_escheatlaw20_below ((R_escheatlaw20_below_run ..).trans he)
theorem L_escheatlaw20_below_ok (args : List Val) (h : Heap) (v : Val) (h2 : Heap) (he : Lim A_escheatlaw20_below E_escheatlaw20_below args h = some (v, h2)) : Callable Try.prog 101 ∧ CallOk Try.prog 101 args h v h2 ∧ h.length ≤ h2.length := (Lim_run he).elim fun _ e => R_escheatlaw20_below_ok ((R_escheatlaw20_below_run ..).symm.trans e)
theorem L_escheatlaw20_below_of {n : Nat} {args : List Val} {h : Heap} {p : Val × Heap} (he : R_escheatlaw20_below n args h = some p) : Lim A_escheatlaw20_below E_escheatlaw20_below args h = some p := Lim_of ((R_escheatlaw20_below_run ..).trans he)
noncomputable def S_escheatlaw20_below : List Val → Heap → Option (Val × Heap) := tidy (Lim A_escheatlaw20_below E_escheatlaw20_below)
theorem S_escheatlaw20_below_ok (args : List Val) (h : Heap) (v : Val) (h2 : Heap) (he : S_escheatlaw20_below args h = some (v, h2)) : Callable Try.prog 101 ∧ CallOk Try.prog 101 args h v h2 ∧ h.length ≤ h2.length := tidy_ok L_escheatlaw20_below_ok args h v h2 he
theorem S_escheatlaw20_below_flat {n : Nat} {args : List Val} {h h2 : Heap} {v : Val} (he : R_escheatlaw20_below n args (ro h) = some (v, h2)) (hf : v.flat = true) : S_escheatlaw20_below args h = some (v, h) := tidy_flat (L_escheatlaw20_below_of he) hf
theorem S_escheatlaw20_below_low {n : Nat} {args : List Val} {h h2 : Heap} {v : Val} (he : R_escheatlaw20_below n args (ro h) = some (v, h2)) (hf : v.low h.length = true) : S_escheatlaw20_below args h = some (v, h) := tidy_low (L_escheatlaw20_below_of he) hf
theorem S_escheatlaw20_below_out {n : Nat} {args : List Val} {h h2 : Heap} {v : Val} {sz k : Nat} {cs : List Cell} (he : R_escheatlaw20_below n args (ro h) = some (v, h2)) (ho : Out h.length h2 v sz k cs) (hf : flats cs = true) : S_escheatlaw20_below args h = some (.c (.sl h.length 0 k sz), h ++ [some ⟨cs, true⟩]) := tidy_out (L_escheatlaw20_below_of he) ho hf
theorem S_escheatlaw20_below_tidy {n : Nat} {args : List Val} {h h2 : Heap} {v v2 : Val} {ids : List Nat} (he : R_escheatlaw20_below n args (ro h) = some (v, h2)) (hc : canonV h2 h.length v = some (v2, ids)) : S_escheatlaw20_below args h = some (v2, h ++ ids.map (rd h2)) := tidy_of (L_escheatlaw20_below_of he) hc
def escheatlaw20_below_1_c0 : ACode := .ops [{ dst := some 5, op := .mv (.v (.c (.b false))) }]
def escheatlaw20_below_1_c1 : ACode := .ops [{ dst := some 6, op := .mv (.t 1) }, { dst := some 7, op := .load1 (.t 2) }, { dst := some 8, op := .bin .lss (.t 6) (.t 7) }, { dst := some 9, op := .mv (.t 8) }, { dst := some 10, op := .mv (.t 0), guard := some (9, true) }, { dst := some 11, op := .bin .rem (.t 10) (.v (.c (.i .i64 3))), guard := some (9, true) }, { dst := some 12, op := .bin .neq (.t 11) (.v (.c (.i .i64 2))), guard := some (9, true) }, { dst := some 13, op := .pick (.t 9) (.t 12) (.v (.c (.b false))) }, { dst := some 5, op := .mv (.t 13) }]
def escheatlaw20_below_1_c2 : ACode := .seq [5] escheatlaw20_below_1_c1 .ret
def escheatlaw20_below_1_c3 : ACode := .seq [0, 1, 2] escheatlaw20_below_1_c0 escheatlaw20_below_1_c2
def A_escheatlaw20_below_1 : AFn := ⟨escheatlaw20_below_1_c3, [.tmp 5]⟩
noncomputable def E_escheatlaw20_below_1 : Sums := fun f args h => none
noncomputable def escheatlaw20_below_1_c0_d (n : Nat) : Sm (Val × Heap) := smOps E_escheatlaw20_below_1 [{ dst := some 5, op := .mv (.v (.c (.b false))) }]
noncomputable def escheatlaw20_below_1_c1_d (n : Nat) : Sm (Val × Heap) := smOps E_escheatlaw20_below_1 [{ dst := some 6, op := .mv (.t 1) }, { dst := some 7, op := .load1 (.t 2) }, { dst := some 8, op := .bin .lss (.t 6) (.t 7) }, { dst := some 9, op := .mv (.t 8) }, { dst := some 10, op := .mv (.t 0), guard := some (9, true) }, { dst := some 11, op := .bin .rem (.t 10) (.v (.c (.i .i64 3))), guard := some (9, true) }, { dst := some 12, op := .bin .neq (.t 11) (.v (.c (.i .i64 2))), guard := some (9, true) }, { dst := some 13, op := .pick (.t 9) (.t 12) (.v (.c (.b false))) }, { dst := some 5, op := .mv (.t 13) }]
noncomputable def escheatlaw20_below_1_c2_d (n : Nat) : Sm (Val × Heap) := smSeq [5] (escheatlaw20_below_1_c1_d n) smRet
noncomputable def escheatlaw20_below_1_c3_d (n : Nat) : Sm (Val × Heap) := smSeq [0, 1, 2] (escheatlaw20_below_1_c0_d n) (escheatlaw20_below_1_c2_d n)
noncomputable def R_escheatlaw20_below_1 (n : Nat) (args : List Val) (h : Heap) : Option (Val × Heap) := (escheatlaw20_below_1_c3_d n) A_escheatlaw20_below_1.fin (params 0 args) h
theorem R_escheatlaw20_below_1_run (n : Nat) (args : List Val) (h : Heap) : A_escheatlaw20_below_1.run E_escheatlaw20_below_1 n args h = R_escheatlaw20_below_1 n args h := by kernel_rfl
theorem R_escheatlaw20_below_1_eq (n : Nat) (a0 a1 a2 : Val) (h : Heap) : R_escheatlaw20_below_1 n [a0, a1, a2] h = bnd (aload1 h a2) fun v1 => bnd (abin .lss a1 v1) fun v2 => bnd (gd v2 true (some (a0, h)) (some (.no, h))) fun p3 => bnd (gd v2 true (bnd (abin .rem p3.1 (.c (.i .i64 3))) fun v4 => some (v4, p3.2)) (some (.no, p3.2))) fun p5 => bnd (gd v2 true (bnd (abin .neq p5.1 (.c (.i .i64 2))) fun v6 => some (v6, p5.2)) (some (.no, p5.2))) fun p7 => bnd (apick v2 p7.1 (.c (.b false))) fun v8 => some (v8, p7.2) := by kernel_rfl
theorem chk_escheatlaw20_below_1 : chkFn Try.prog Try.f179 A_escheatlaw20_below_1 = true := by kernel_rfl
theorem E_escheatlaw20_below_1_sound : Sound Try.prog E_escheatlaw20_below_1 := by
  intro f args h v h2 he
  unfold E_escheatlaw20_below_1 at he
  cases he

theorem R_escheatlaw20_below_1_ok {n : Nat} {args : List Val} {h h2 : Heap} {v : Val} (he : R_escheatlaw20_below_1 n args h = some (v, h2)) : Callable Try.prog 179 ∧ CallOk Try.prog 179 args h v h2 ∧ h.length ≤ h2.length := fn_ok E_escheatlaw20_below_1_sound Try.func179 chk_escheatlaw20_below_1 ((R_escheatlaw20_below_1_run ..).trans he)
theorem L_escheatlaw20_below_1_ok (args : List Val) (h : Heap) (v : Val) (h2 : Heap) (he : Lim A_escheatlaw20_below_1 E_escheatlaw20_below_1 args h = some (v, h2)) : Callable Try.prog 179 ∧ CallOk Try.prog 179 args h v h2 ∧ h.length ≤ h2.length := (Lim_run he).elim fun _ e => R_escheatlaw20_below_1_ok ((R_escheatlaw20_below_1_run ..).symm.trans e)
theorem L_escheatlaw20_below_1_of {n : Nat} {args : List Val} {h : Heap} {p : Val × Heap} (he : R_escheatlaw20_below_1 n args h = some p) : Lim A_escheatlaw20_below_1 E_escheatlaw20_below_1 args h = some p := Lim_of ((R_escheatlaw20_below_1_run ..).trans he)
noncomputable def S_escheatlaw20_below_1 : List Val → Heap → Option (Val × Heap) := tidy (Lim A_escheatlaw20_below_1 E_escheatlaw20_below_1)
theorem S_escheatlaw20_below_1_ok (args : List Val) (h : Heap) (v : Val) (h2 : Heap) (he : S_escheatlaw20_below_1 args h = some (v, h2)) : Callable Try.prog 179 ∧ CallOk Try.prog 179 args h v h2 ∧ h.length ≤ h2.length := tidy_ok L_escheatlaw20_below_1_ok args h v h2 he
theorem S_escheatlaw20_below_1_flat {n : Nat} {args : List Val} {h h2 : Heap} {v : Val} (he : R_escheatlaw20_below_1 n args (ro h) = some (v, h2)) (hf : v.flat = true) : S_escheatlaw20_below_1 args h = some (v, h) := tidy_flat (L_escheatlaw20_below_1_of he) hf
theorem S_escheatlaw20_below_1_low {n : Nat} {args : List Val} {h h2 : Heap} {v : Val} (he : R_escheatlaw20_below_1 n args (ro h) = some (v, h2)) (hf : v.low h.length = true) : S_escheatlaw20_below_1 args h = some (v, h) := tidy_low (L_escheatlaw20_below_1_of he) hf
theorem S_escheatlaw20_below_1_out {n : Nat} {args : List Val} {h h2 : Heap} {v : Val} {sz k : Nat} {cs : List Cell} (he : R_escheatlaw20_below_1 n args (ro h) = some (v, h2)) (ho : Out h.length h2 v sz k cs) (hf : flats cs = true) : S_escheatlaw20_below_1 args h = some (.c (.sl h.length 0 k sz), h ++ [some ⟨cs, true⟩]) := tidy_out (L_escheatlaw20_below_1_of he) ho hf
theorem S_escheatlaw20_below_1_tidy {n : Nat} {args : List Val} {h h2 : Heap} {v v2 : Val} {ids : List Nat} (he : R_escheatlaw20_below_1 n args (ro h) = some (v, h2)) (hc : canonV h2 h.length v = some (v2, ids)) : S_escheatlaw20_below_1 args h = some (v2, h ++ ids.map (rd h2)) := tidy_of (L_escheatlaw20_below_1_of he) hc
end Go.Proofs.Ytbbkpmbepljhkaa
