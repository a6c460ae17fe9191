/- Escheatlaw20PointsMakes: the Go functions of this package as the abstract evaluator computes them: printed by a program, checked by Lean. -/
import Derived.Test.YtbbkpmbepljhkaaEscS
import Derived.Test.YtbbkpmbepljhkaaChecked
import Derived.KernelRfl
import Derived.Test.YtbbkpmbepljhkaaGEscheatlaw20
import Derived.Test.YtbbkpmbepljhkaaGPoints
namespace Go.Proofs.Ytbbkpmbepljhkaa
open Go Go.Esc
set_option maxRecDepth 100000
set_option linter.all false
def escheatlaw20_PointsMakes_c0 : ACode := .ops [{ dst := some 1, op := .box (.t 0) }, { dst := some 2, op := .mv (.v (.c (.b false))) }]
def escheatlaw20_PointsMakes_c1 : ACode := .ops [{ dst := some 8, op := .loadN 256 (.t 1) }, { dst := some 3, op := .alloc (List.replicate 256 (.i .u8 0)) }, { dst := none, op := .storeN 256 (.t 3) (.t 8) }]
def escheatlaw20_PointsMakes_c2 : ACode := .ops [{ dst := some 4, op := .nilrow 1 }]
def escheatlaw20_PointsMakes_c3 : ACode := .ops [{ dst := some 5, op := .mv (.v (.c (.i .i64 0))) }]
def escheatlaw20_PointsMakes_c4 : ACode := .ops [{ dst := some 9, op := .mv (.t 5) }, { dst := some 10, op := .bin .lss (.t 9) (.v (.c (.i .i64 128))) }]
def escheatlaw20_PointsMakes_c5 : ACode := .cond (.t 10) .skip (.exit 0)
def escheatlaw20_PointsMakes_c6 : ACode := .seq [3, 4, 5, 10] escheatlaw20_PointsMakes_c4 escheatlaw20_PointsMakes_c5
def escheatlaw20_PointsMakes_c7 : ACode := .ops [{ dst := some 13, op := .mv (.t 4) }, { dst := some 14, op := .loadN 256 (.t 3) }, { dst := some 15, op := .mv (.t 5) }, { dst := some 16, op := .call 87 [(.t 14), (.t 15)] }, { dst := some 17, op := .buildSl 1 1 ([.i .i64 0]) [(0, 1, (.t 16))] }, { dst := some 18, op := .app 1 (.t 13) (.t 17) }, { dst := some 4, op := .mv (.t 18) }]
def escheatlaw20_PointsMakes_c8 : ACode := .block 1 escheatlaw20_PointsMakes_c7
def escheatlaw20_PointsMakes_c9 : ACode := .ops [{ dst := some 11, op := .mv (.t 5) }, { dst := some 12, op := .bin .add (.t 11) (.v (.c (.i .i64 1))) }, { dst := some 5, op := .mv (.t 12) }]
def escheatlaw20_PointsMakes_c10 : ACode := .seq [3, 4, 5] escheatlaw20_PointsMakes_c8 escheatlaw20_PointsMakes_c9
def escheatlaw20_PointsMakes_c11 : ACode := .seq [3, 4, 5] escheatlaw20_PointsMakes_c6 escheatlaw20_PointsMakes_c10
def escheatlaw20_PointsMakes_c12 : ACode := .loop [3, 4, 5] escheatlaw20_PointsMakes_c11
def escheatlaw20_PointsMakes_c13 : ACode := .block 0 escheatlaw20_PointsMakes_c12
def escheatlaw20_PointsMakes_c14 : ACode := .seq [3, 4, 5] escheatlaw20_PointsMakes_c3 escheatlaw20_PointsMakes_c13
def escheatlaw20_PointsMakes_c15 : ACode := .ops [{ dst := some 20, op := .mv (.t 4) }, { dst := some 21, op := .call 88 [(.t 20)] }, { dst := some 19, op := .mv (.t 21) }, { dst := some 22, op := .ext (.t 19) 0 }, { dst := some 23, op := .ext (.t 19) 1 }, { dst := some 6, op := .alloc (List.replicate 256 (.i .u8 0)) }, { dst := none, op := .storeN 256 (.t 6) (.t 22) }, { dst := some 7, op := .mv (.t 23) }]
def escheatlaw20_PointsMakes_c16 : ACode := .draw 0 [{ dst := some 24, op := .mv (.t 7) }, { dst := some 25, op := .bin .eql (.t 24) (.v (.c (.i .i64 0))) }, { dst := some 26, op := .mv (.t 25) }, { dst := some 27, op := .loadN 256 (.t 6), guard := some (26, true) }, { dst := some 28, op := .loadN 256 (.t 3), guard := some (26, true) }, { dst := some 29, op := .eqA false (List.replicate 256 (.i .u8)) (.t 27) (.t 28), guard := some (26, true) }, { dst := some 30, op := .pick (.t 26) (.t 29) (.v (.c (.b false))) }, { dst := some 31, op := .mv (.t 30) }, { dst := some 32, op := .loadN 256 (.t 3), guard := some (31, true) }, { dst := some 33, op := .call 89 [(.t 32)], guard := some (31, true) }, { dst := some 34, op := .len (.t 33), guard := some (31, true) }, { dst := some 35, op := .loadN 256 (.t 3), guard := some (31, true) }, { dst := some 36, op := .call 90 [(.t 35)], guard := some (31, true) }] [{ dst := some 37, op := .bin .leq (.t 34) (.t 36), guard := some (31, true) }, { dst := some 38, op := .pick (.t 31) (.t 37) (.v (.c (.b false))) }, { dst := some 39, op := .mv (.t 38) }, { dst := some 40, op := .call 91 [], guard := some (39, true) }, { dst := some 41, op := .pick (.t 39) (.t 40) (.v (.c (.b false))) }, { dst := some 2, op := .mv (.t 41) }]
def escheatlaw20_PointsMakes_c17 : ACode := .seq [2] escheatlaw20_PointsMakes_c16 .ret
def escheatlaw20_PointsMakes_c18 : ACode := .seq [3, 6, 7] escheatlaw20_PointsMakes_c15 escheatlaw20_PointsMakes_c17
def escheatlaw20_PointsMakes_c19 : ACode := .seq [3, 4] escheatlaw20_PointsMakes_c14 escheatlaw20_PointsMakes_c18
def escheatlaw20_PointsMakes_c20 : ACode := .seq [3, 4] escheatlaw20_PointsMakes_c2 escheatlaw20_PointsMakes_c19
def escheatlaw20_PointsMakes_c21 : ACode := .seq [3] escheatlaw20_PointsMakes_c1 escheatlaw20_PointsMakes_c20
def escheatlaw20_PointsMakes_c22 : ACode := .seq [1] escheatlaw20_PointsMakes_c0 escheatlaw20_PointsMakes_c21
def A_escheatlaw20_PointsMakes : AFn := ⟨escheatlaw20_PointsMakes_c22, [.tmp 2]⟩
noncomputable def E_escheatlaw20_PointsMakes : Sums := fun f args h => bif Nat.beq f 87 then S_points_Get args h else bif Nat.beq f 88 then S_points_Make args h else bif Nat.beq f 89 then S_points_List args h else bif Nat.beq f 90 then S_points_Last args h else bif Nat.beq f 91 then S_escheatlaw20_works args h else none
noncomputable def escheatlaw20_PointsMakes_c0_d (n : Nat) : Sm (Val × Heap) := smOps E_escheatlaw20_PointsMakes [{ dst := some 1, op := .box (.t 0) }, { dst := some 2, op := .mv (.v (.c (.b false))) }]
noncomputable def escheatlaw20_PointsMakes_c1_d (n : Nat) : Sm (Val × Heap) := smOps E_escheatlaw20_PointsMakes [{ dst := some 8, op := .loadN 256 (.t 1) }, { dst := some 3, op := .alloc (List.replicate 256 (.i .u8 0)) }, { dst := none, op := .storeN 256 (.t 3) (.t 8) }]
noncomputable def escheatlaw20_PointsMakes_c2_d (n : Nat) : Sm (Val × Heap) := smOps E_escheatlaw20_PointsMakes [{ dst := some 4, op := .nilrow 1 }]
noncomputable def escheatlaw20_PointsMakes_c3_d (n : Nat) : Sm (Val × Heap) := smOps E_escheatlaw20_PointsMakes [{ dst := some 5, op := .mv (.v (.c (.i .i64 0))) }]
noncomputable def escheatlaw20_PointsMakes_c4_d (n : Nat) : Sm (Val × Heap) := smOps E_escheatlaw20_PointsMakes [{ dst := some 9, op := .mv (.t 5) }, { dst := some 10, op := .bin .lss (.t 9) (.v (.c (.i .i64 128))) }]
noncomputable def escheatlaw20_PointsMakes_c5_d (n : Nat) : Sm (Val × Heap) := smCond (.t 10) smSkip (smExit 0)
noncomputable def escheatlaw20_PointsMakes_c6_d (n : Nat) : Sm (Val × Heap) := smSeq [3, 4, 5, 10] (escheatlaw20_PointsMakes_c4_d n) (escheatlaw20_PointsMakes_c5_d n)
noncomputable def escheatlaw20_PointsMakes_c7_d (n : Nat) : Sm (Val × Heap) := smOps E_escheatlaw20_PointsMakes [{ dst := some 13, op := .mv (.t 4) }, { dst := some 14, op := .loadN 256 (.t 3) }, { dst := some 15, op := .mv (.t 5) }, { dst := some 16, op := .call 87 [(.t 14), (.t 15)] }, { dst := some 17, op := .buildSl 1 1 ([.i .i64 0]) [(0, 1, (.t 16))] }, { dst := some 18, op := .app 1 (.t 13) (.t 17) }, { dst := some 4, op := .mv (.t 18) }]
noncomputable def escheatlaw20_PointsMakes_c8_d (n : Nat) : Sm (Val × Heap) := smBlock 1 (escheatlaw20_PointsMakes_c7_d n)
noncomputable def escheatlaw20_PointsMakes_c9_d (n : Nat) : Sm (Val × Heap) := smOps E_escheatlaw20_PointsMakes [{ dst := some 11, op := .mv (.t 5) }, { dst := some 12, op := .bin .add (.t 11) (.v (.c (.i .i64 1))) }, { dst := some 5, op := .mv (.t 12) }]
noncomputable def escheatlaw20_PointsMakes_c10_d (n : Nat) : Sm (Val × Heap) := smSeq [3, 4, 5] (escheatlaw20_PointsMakes_c8_d n) (escheatlaw20_PointsMakes_c9_d n)
noncomputable def escheatlaw20_PointsMakes_c11_d (n : Nat) : Sm (Val × Heap) := smSeq [3, 4, 5] (escheatlaw20_PointsMakes_c6_d n) (escheatlaw20_PointsMakes_c10_d n)
noncomputable def escheatlaw20_PointsMakes_c12_d (n : Nat) : Sm (Val × Heap) := smLoop n [3, 4, 5] (escheatlaw20_PointsMakes_c11_d n)
noncomputable def escheatlaw20_PointsMakes_c13_d (n : Nat) : Sm (Val × Heap) := smBlock 0 (escheatlaw20_PointsMakes_c12_d n)
noncomputable def escheatlaw20_PointsMakes_c14_d (n : Nat) : Sm (Val × Heap) := smSeq [3, 4, 5] (escheatlaw20_PointsMakes_c3_d n) (escheatlaw20_PointsMakes_c13_d n)
noncomputable def escheatlaw20_PointsMakes_c15_d (n : Nat) : Sm (Val × Heap) := smOps E_escheatlaw20_PointsMakes [{ dst := some 20, op := .mv (.t 4) }, { dst := some 21, op := .call 88 [(.t 20)] }, { dst := some 19, op := .mv (.t 21) }, { dst := some 22, op := .ext (.t 19) 0 }, { dst := some 23, op := .ext (.t 19) 1 }, { dst := some 6, op := .alloc (List.replicate 256 (.i .u8 0)) }, { dst := none, op := .storeN 256 (.t 6) (.t 22) }, { dst := some 7, op := .mv (.t 23) }]
noncomputable def escheatlaw20_PointsMakes_c16_d (n : Nat) : Sm (Val × Heap) := smDraw E_escheatlaw20_PointsMakes 0 [{ dst := some 24, op := .mv (.t 7) }, { dst := some 25, op := .bin .eql (.t 24) (.v (.c (.i .i64 0))) }, { dst := some 26, op := .mv (.t 25) }, { dst := some 27, op := .loadN 256 (.t 6), guard := some (26, true) }, { dst := some 28, op := .loadN 256 (.t 3), guard := some (26, true) }, { dst := some 29, op := .eqA false (List.replicate 256 (.i .u8)) (.t 27) (.t 28), guard := some (26, true) }, { dst := some 30, op := .pick (.t 26) (.t 29) (.v (.c (.b false))) }, { dst := some 31, op := .mv (.t 30) }, { dst := some 32, op := .loadN 256 (.t 3), guard := some (31, true) }, { dst := some 33, op := .call 89 [(.t 32)], guard := some (31, true) }, { dst := some 34, op := .len (.t 33), guard := some (31, true) }, { dst := some 35, op := .loadN 256 (.t 3), guard := some (31, true) }, { dst := some 36, op := .call 90 [(.t 35)], guard := some (31, true) }] [{ dst := some 37, op := .bin .leq (.t 34) (.t 36), guard := some (31, true) }, { dst := some 38, op := .pick (.t 31) (.t 37) (.v (.c (.b false))) }, { dst := some 39, op := .mv (.t 38) }, { dst := some 40, op := .call 91 [], guard := some (39, true) }, { dst := some 41, op := .pick (.t 39) (.t 40) (.v (.c (.b false))) }, { dst := some 2, op := .mv (.t 41) }]
noncomputable def escheatlaw20_PointsMakes_c17_d (n : Nat) : Sm (Val × Heap) := smSeq [2] (escheatlaw20_PointsMakes_c16_d n) smRet
noncomputable def escheatlaw20_PointsMakes_c18_d (n : Nat) : Sm (Val × Heap) := smSeq [3, 6, 7] (escheatlaw20_PointsMakes_c15_d n) (escheatlaw20_PointsMakes_c17_d n)
noncomputable def escheatlaw20_PointsMakes_c19_d (n : Nat) : Sm (Val × Heap) := smSeq [3, 4] (escheatlaw20_PointsMakes_c14_d n) (escheatlaw20_PointsMakes_c18_d n)
noncomputable def escheatlaw20_PointsMakes_c20_d (n : Nat) : Sm (Val × Heap) := smSeq [3, 4] (escheatlaw20_PointsMakes_c2_d n) (escheatlaw20_PointsMakes_c19_d n)
noncomputable def escheatlaw20_PointsMakes_c21_d (n : Nat) : Sm (Val × Heap) := smSeq [3] (escheatlaw20_PointsMakes_c1_d n) (escheatlaw20_PointsMakes_c20_d n)
noncomputable def escheatlaw20_PointsMakes_c22_d (n : Nat) : Sm (Val × Heap) := smSeq [1] (escheatlaw20_PointsMakes_c0_d n) (escheatlaw20_PointsMakes_c21_d n)
noncomputable def escheatlaw20_PointsMakes_k0 (n : Nat) : AExit → Env → Heap → Option (Val × Heap) := fun x e h => match x with | .normal => hold ((escheatlaw20_PointsMakes_c18_d n) A_escheatlaw20_PointsMakes.fin (e.keep [3, 4]) h) | .exit id => A_escheatlaw20_PointsMakes.fin (.exit id) e h | .ret => A_escheatlaw20_PointsMakes.fin .ret e h
noncomputable def escheatlaw20_PointsMakes_k1 (n : Nat) : AExit → Env → Heap → Option (Val × Heap) := fun x e h => match x with | .exit i => bif Nat.beq i 0 then (escheatlaw20_PointsMakes_k0 n) .normal e h else (escheatlaw20_PointsMakes_k0 n) (.exit i) e h | .normal => (escheatlaw20_PointsMakes_k0 n) .normal e h | .ret => (escheatlaw20_PointsMakes_k0 n) .ret e h
noncomputable def escheatlaw20_PointsMakes_l0 (n m : Nat) (x3 x4 x5 : Val) (h : Heap) : Option (Val × Heap) := around (escheatlaw20_PointsMakes_c11_d n) [3, 4, 5] (escheatlaw20_PointsMakes_k1 n) m [(3, x3), (4, x4), (5, x5)] h
noncomputable def R_escheatlaw20_PointsMakes (n : Nat) (args : List Val) (h : Heap) : Option (Val × Heap) := (escheatlaw20_PointsMakes_c22_d n) A_escheatlaw20_PointsMakes.fin (params 0 args) h
theorem R_escheatlaw20_PointsMakes_run (n : Nat) (args : List Val) (h : Heap) : A_escheatlaw20_PointsMakes.run E_escheatlaw20_PointsMakes n args h = R_escheatlaw20_PointsMakes n args h := by kernel_rfl
theorem R_escheatlaw20_PointsMakes_eq (n : Nat) (a0 : Val) (h : Heap) : R_escheatlaw20_PointsMakes n [a0] h = bnd (cells? a0) fun c1 => bnd (aloadN ((h ++ [some (Row.mk (c1) true)])) 256 ((.c (.p h.length 0)))) fun v2 => bnd (astoreN (((h ++ [some (Row.mk (c1) true)]) ++ [some (Row.mk (List.replicate 256 (.i .u8 0)) true)])) 256 ((.c (.p ((h ++ [some (Row.mk (c1) true)])).length 0))) v2) fun h3 => escheatlaw20_PointsMakes_l0 n n ((.c (.p ((h ++ [some (Row.mk (c1) true)])).length 0))) ((.c (.sl h3.length 0 0 1))) (.c (.i .i64 0)) ((h3 ++ [some (Row.mk ([]) true)])) := by kernel_rfl
theorem escheatlaw20_PointsMakes_l0_eq (n m : Nat) (x3 x4 x5 : Val) (h : Heap) : escheatlaw20_PointsMakes_l0 n (m + 1) x3 x4 x5 h = bnd (abin .lss x5 (.c (.i .i64 128))) fun v4 => cnd v4 (bnd (aloadN h 256 x3) fun v5 => bnd (S_points_Get [v5, x5] h) fun p6 => bnd (afill ([.i .i64 0]) [(0, 1, p6.1)]) fun c7 => bnd (aapp ((p6.2 ++ [some (Row.mk (c7) true)])) 1 x4 ((.c (.sl p6.2.length 0 1 1)))) fun p8 => bnd (abin .add x5 (.c (.i .i64 1))) fun v9 => escheatlaw20_PointsMakes_l0 n m x3 p8.1 v9 p8.2) (bnd (S_points_Make [x4] h) fun p10 => bnd (aext p10.1 0) fun v11 => bnd (aext p10.1 1) fun v12 => bnd (astoreN ((p10.2 ++ [some (Row.mk (List.replicate 256 (.i .u8 0)) true)])) 256 ((.c (.p p10.2.length 0))) v11) fun h13 => bnd (abin .eql v12 (.c (.i .i64 0))) fun v14 => bnd (gd v14 true (bnd (aloadN h13 256 ((.c (.p p10.2.length 0)))) fun v15 => some (v15, (h13 ++ []))) (some (.no, (h13 ++ [])))) fun p16 => bnd (gd v14 true (bnd (aloadN h13 256 x3) fun v17 => some (v17, p16.2)) (some (.no, p16.2))) fun p18 => bnd (gd v14 true (bnd (aeq false (List.replicate 256 (.i .u8)) p16.1 p18.1) fun v19 => some (v19, p18.2)) (some (.no, p18.2))) fun p20 => bnd (apick v14 p20.1 (.c (.b false))) fun v21 => bnd (gd v21 true (bnd (aloadN h13 256 x3) fun v22 => some (v22, p20.2)) (some (.no, p20.2))) fun p23 => bnd (gd v21 true (bnd (quiet p23.2 (S_points_List [p23.1] p23.2)) fun p24 => some (p24.1, p24.2)) (some (.no, p23.2))) fun p25 => bnd (gd v21 true (bnd (alen p25.1) fun v26 => some (v26, p25.2)) (some (.no, p25.2))) fun p27 => bnd (gd v21 true (bnd (aloadN h13 256 x3) fun v28 => some (v28, p27.2)) (some (.no, p27.2))) fun p29 => bnd (gd v21 true (bnd (quiet p29.2 (S_points_Last [p29.1] p29.2)) fun p30 => some (p30.1, p30.2)) (some (.no, p29.2))) fun p31 => bnd (gd v21 true (bnd (abin .leq p27.1 p31.1) fun v32 => some (v32, p31.2)) (some (.no, p31.2))) fun p33 => bnd (apick v21 p33.1 (.c (.b false))) fun v34 => bnd (gd v34 true (bnd (S_escheatlaw20_works [] p33.2) fun p35 => some (p35.1, p35.2)) (some (.no, p33.2))) fun p36 => bnd (apick v34 p36.1 (.c (.b false))) fun v37 => some (v37, p36.2)) := by kernel_rfl
theorem chk_escheatlaw20_PointsMakes : chkFn Try.prog Try.f15 A_escheatlaw20_PointsMakes = true := by kernel_rfl
theorem E_escheatlaw20_PointsMakes_sound : Sound Try.prog E_escheatlaw20_PointsMakes := by
  intro f args h v h2 he
  unfold E_escheatlaw20_PointsMakes at he
  cases hb0 : Nat.beq f 87 with
  | true => rw [hb0] at he; have e := Nat.eq_of_beq_eq_true hb0; subst e; exact S_points_Get_ok args h v h2 he
  | false =>
    rw [hb0] at he; simp only [cond_false] at he
    cases hb1 : Nat.beq f 88 with
    | true => rw [hb1] at he; have e := Nat.eq_of_beq_eq_true hb1; subst e; exact S_points_Make_ok args h v h2 he
    | false =>
      rw [hb1] at he; simp only [cond_false] at he
      cases hb2 : Nat.beq f 89 with
      | true => rw [hb2] at he; have e := Nat.eq_of_beq_eq_true hb2; subst e; exact S_points_List_ok args h v h2 he
      | false =>
        rw [hb2] at he; simp only [cond_false] at he
        cases hb3 : Nat.beq f 90 with
        | true => rw [hb3] at he; have e := Nat.eq_of_beq_eq_true hb3; subst e; exact S_points_Last_ok args h v h2 he
        | false =>
          rw [hb3] at he; simp only [cond_false] at he
          cases hb4 : Nat.beq f 91 with
          | true => rw [hb4] at he; have e := Nat.eq_of_beq_eq_true hb4; subst e; exact S_escheatlaw20_works_ok args h v h2 he
          | false =>
            rw [hb4] at he; simp only [cond_false] at he
            cases he

theorem R_escheatlaw20_PointsMakes_ok {n : Nat} {args : List Val} {h h2 : Heap} {v : Val} (he : R_escheatlaw20_PointsMakes n args h = some (v, h2)) : Callable Try.prog 15 ∧ CallOk Try.prog 15 args h v h2 ∧ h.length ≤ h2.length := fn_ok E_escheatlaw20_PointsMakes_sound Try.func15 chk_escheatlaw20_PointsMakes ((R_escheatlaw20_PointsMakes_run ..).trans he)
theorem L_escheatlaw20_PointsMakes_ok (args : List Val) (h : Heap) (v : Val) (h2 : Heap) (he : Lim A_escheatlaw20_PointsMakes E_escheatlaw20_PointsMakes args h = some (v, h2)) : Callable Try.prog 15 ∧ CallOk Try.prog 15 args h v h2 ∧ h.length ≤ h2.length := (Lim_run he).elim fun _ e => R_escheatlaw20_PointsMakes_ok ((R_escheatlaw20_PointsMakes_run ..).symm.trans e)
theorem L_escheatlaw20_PointsMakes_of {n : Nat} {args : List Val} {h : Heap} {p : Val × Heap} (he : R_escheatlaw20_PointsMakes n args h = some p) : Lim A_escheatlaw20_PointsMakes E_escheatlaw20_PointsMakes args h = some p := Lim_of ((R_escheatlaw20_PointsMakes_run ..).trans he)
noncomputable def S_escheatlaw20_PointsMakes : List Val → Heap → Option (Val × Heap) := tidy (Lim A_escheatlaw20_PointsMakes E_escheatlaw20_PointsMakes)
theorem S_escheatlaw20_PointsMakes_ok (args : List Val) (h : Heap) (v : Val) (h2 : Heap) (he : S_escheatlaw20_PointsMakes args h = some (v, h2)) : Callable Try.prog 15 ∧ CallOk Try.prog 15 args h v h2 ∧ h.length ≤ h2.length := tidy_ok L_escheatlaw20_PointsMakes_ok args h v h2 he
theorem S_escheatlaw20_PointsMakes_flat {n : Nat} {args : List Val} {h h2 : Heap} {v : Val} (he : R_escheatlaw20_PointsMakes n args (ro h) = some (v, h2)) (hf : v.flat = true) : S_escheatlaw20_PointsMakes args h = some (v, h) := tidy_flat (L_escheatlaw20_PointsMakes_of he) hf
theorem S_escheatlaw20_PointsMakes_low {n : Nat} {args : List Val} {h h2 : Heap} {v : Val} (he : R_escheatlaw20_PointsMakes n args (ro h) = some (v, h2)) (hf : v.low h.length = true) : S_escheatlaw20_PointsMakes args h = some (v, h) := tidy_low (L_escheatlaw20_PointsMakes_of he) hf
theorem S_escheatlaw20_PointsMakes_out {n : Nat} {args : List Val} {h h2 : Heap} {v : Val} {sz k : Nat} {cs : List Cell} (he : R_escheatlaw20_PointsMakes n args (ro h) = some (v, h2)) (ho : Out h.length h2 v sz k cs) (hf : flats cs = true) : S_escheatlaw20_PointsMakes args h = some (.c (.sl h.length 0 k sz), h ++ [some ⟨cs, true⟩]) := tidy_out (L_escheatlaw20_PointsMakes_of he) ho hf
theorem S_escheatlaw20_PointsMakes_tidy {n : Nat} {args : List Val} {h h2 : Heap} {v v2 : Val} {ids : List Nat} (he : R_escheatlaw20_PointsMakes n args (ro h) = some (v, h2)) (hc : canonV h2 h.length v = some (v2, ids)) : S_escheatlaw20_PointsMakes args h = some (v2, h ++ ids.map (rd h2)) := tidy_of (L_escheatlaw20_PointsMakes_of he) hc
end Go.Proofs.Ytbbkpmbepljhkaa
