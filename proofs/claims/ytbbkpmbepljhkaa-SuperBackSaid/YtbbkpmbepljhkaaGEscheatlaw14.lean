/- Escheatlaw14: the Go functions of this package as the abstract evaluator computes them: printed by a program, checked by Lean. -/
import Derived.Test.YtbbkpmbepljhkaaEscS
import Derived.Test.YtbbkpmbepljhkaaChecked
import Derived.KernelRfl
import Derived.Test.YtbbkpmbepljhkaaGEscheatref01
import Derived.Test.YtbbkpmbepljhkaaGNum
import Derived.Test.YtbbkpmbepljhkaaGSuper
namespace Go.Proofs.Ytbbkpmbepljhkaa
open Go Go.Esc
set_option maxRecDepth 100000
set_option linter.all false
def escheatlaw14_works_c0 : ACode := .ops [{ dst := some 0, op := .mv (.v (.c (.b false))) }]
def escheatlaw14_works_c1 : ACode := .ops [{ dst := some 6, op := .build ([.i .i64 0, .i .i64 0, .i .u64 0]) [(0, 1, (.v (.c (.i .i64 16)))), (1, 1, (.v (.c (.i .i64 8))))] }, { dst := some 7, op := .call 120 [(.t 6)] }, { dst := some 5, op := .mv (.t 7) }, { dst := some 8, op := .ext (.t 5) 0 }, { dst := some 9, op := .ext (.t 5) 1 }, { dst := some 1, op := .alloc (List.replicate 256 (.i .u8 0)) }, { dst := none, op := .storeN 256 (.t 1) (.t 8) }, { dst := some 2, op := .mv (.t 9) }]
def escheatlaw14_works_c2 : ACode := .ops [{ dst := some 11, op := .build (List.replicate 256 (.i .u8 0)) [] }, { dst := some 12, op := .call 117 [(.t 11)] }, { dst := some 10, op := .mv (.t 12) }, { dst := some 13, op := .ext (.t 10) 0 }, { dst := some 14, op := .ext (.t 10) 1 }, { dst := some 3, op := .alloc ([.i .i64 0, .i .i64 0, .i .u64 0]) }, { dst := none, op := .storeN 3 (.t 3) (.t 13) }, { dst := some 4, op := .mv (.t 14) }]
def escheatlaw14_works_c3 : ACode := .ops [{ dst := some 15, op := .mv (.t 2) }, { dst := some 16, op := .bin .eql (.t 15) (.v (.c (.i .i64 0))) }, { dst := some 17, op := .mv (.t 16) }, { dst := some 18, op := .mv (.t 4), guard := some (17, true) }, { dst := some 19, op := .bin .eql (.t 18) (.v (.c (.i .i64 13))), guard := some (17, true) }, { dst := some 20, op := .pick (.t 17) (.t 19) (.v (.c (.b false))) }, { dst := some 21, op := .mv (.t 20) }, { dst := some 22, op := .loadN 256 (.t 1), guard := some (21, true) }, { dst := some 23, op := .call 66 [(.t 22), (.v (.c (.i .i64 8))), (.v (.c (.i .i64 4)))], guard := some (21, true) }, { dst := some 24, op := .buildSl 1 4 ([.i .u8 0, .i .u8 0, .i .u8 0, .i .u8 0]) [(0, 1, (.v (.c (.i .u8 16)))), (1, 1, (.v (.c (.i .u8 0)))), (2, 1, (.v (.c (.i .u8 8)))), (3, 1, (.v (.c (.i .u8 0))))], guard := some (21, true) }, { dst := some 25, op := .call 47 [(.t 23), (.t 24)], guard := some (21, true) }, { dst := some 26, op := .pick (.t 21) (.t 25) (.v (.c (.b false))) }, { dst := some 0, op := .mv (.t 26) }]
def escheatlaw14_works_c4 : ACode := .seq [0] escheatlaw14_works_c3 .ret
def escheatlaw14_works_c5 : ACode := .seq [1, 2, 4] escheatlaw14_works_c2 escheatlaw14_works_c4
def escheatlaw14_works_c6 : ACode := .seq [1, 2] escheatlaw14_works_c1 escheatlaw14_works_c5
def escheatlaw14_works_c7 : ACode := .seq [] escheatlaw14_works_c0 escheatlaw14_works_c6
def A_escheatlaw14_works : AFn := ⟨escheatlaw14_works_c7, [.tmp 0]⟩
noncomputable def E_escheatlaw14_works : Sums := fun f args h => bif Nat.beq f 120 then S_super_Put args h else bif Nat.beq f 117 then S_super_Get args h else bif Nat.beq f 66 then S_num_Cut args h else bif Nat.beq f 47 then S_escheatref01_Same args h else none
noncomputable def escheatlaw14_works_c0_d (n : Nat) : Sm (Val × Heap) := smOps E_escheatlaw14_works [{ dst := some 0, op := .mv (.v (.c (.b false))) }]
noncomputable def escheatlaw14_works_c1_d (n : Nat) : Sm (Val × Heap) := smOps E_escheatlaw14_works [{ dst := some 6, op := .build ([.i .i64 0, .i .i64 0, .i .u64 0]) [(0, 1, (.v (.c (.i .i64 16)))), (1, 1, (.v (.c (.i .i64 8))))] }, { dst := some 7, op := .call 120 [(.t 6)] }, { dst := some 5, op := .mv (.t 7) }, { dst := some 8, op := .ext (.t 5) 0 }, { dst := some 9, op := .ext (.t 5) 1 }, { dst := some 1, op := .alloc (List.replicate 256 (.i .u8 0)) }, { dst := none, op := .storeN 256 (.t 1) (.t 8) }, { dst := some 2, op := .mv (.t 9) }]
noncomputable def escheatlaw14_works_c2_d (n : Nat) : Sm (Val × Heap) := smOps E_escheatlaw14_works [{ dst := some 11, op := .build (List.replicate 256 (.i .u8 0)) [] }, { dst := some 12, op := .call 117 [(.t 11)] }, { dst := some 10, op := .mv (.t 12) }, { dst := some 13, op := .ext (.t 10) 0 }, { dst := some 14, op := .ext (.t 10) 1 }, { dst := some 3, op := .alloc ([.i .i64 0, .i .i64 0, .i .u64 0]) }, { dst := none, op := .storeN 3 (.t 3) (.t 13) }, { dst := some 4, op := .mv (.t 14) }]
noncomputable def escheatlaw14_works_c3_d (n : Nat) : Sm (Val × Heap) := smOps E_escheatlaw14_works [{ dst := some 15, op := .mv (.t 2) }, { dst := some 16, op := .bin .eql (.t 15) (.v (.c (.i .i64 0))) }, { dst := some 17, op := .mv (.t 16) }, { dst := some 18, op := .mv (.t 4), guard := some (17, true) }, { dst := some 19, op := .bin .eql (.t 18) (.v (.c (.i .i64 13))), guard := some (17, true) }, { dst := some 20, op := .pick (.t 17) (.t 19) (.v (.c (.b false))) }, { dst := some 21, op := .mv (.t 20) }, { dst := some 22, op := .loadN 256 (.t 1), guard := some (21, true) }, { dst := some 23, op := .call 66 [(.t 22), (.v (.c (.i .i64 8))), (.v (.c (.i .i64 4)))], guard := some (21, true) }, { dst := some 24, op := .buildSl 1 4 ([.i .u8 0, .i .u8 0, .i .u8 0, .i .u8 0]) [(0, 1, (.v (.c (.i .u8 16)))), (1, 1, (.v (.c (.i .u8 0)))), (2, 1, (.v (.c (.i .u8 8)))), (3, 1, (.v (.c (.i .u8 0))))], guard := some (21, true) }, { dst := some 25, op := .call 47 [(.t 23), (.t 24)], guard := some (21, true) }, { dst := some 26, op := .pick (.t 21) (.t 25) (.v (.c (.b false))) }, { dst := some 0, op := .mv (.t 26) }]
noncomputable def escheatlaw14_works_c4_d (n : Nat) : Sm (Val × Heap) := smSeq [0] (escheatlaw14_works_c3_d n) smRet
noncomputable def escheatlaw14_works_c5_d (n : Nat) : Sm (Val × Heap) := smSeq [1, 2, 4] (escheatlaw14_works_c2_d n) (escheatlaw14_works_c4_d n)
noncomputable def escheatlaw14_works_c6_d (n : Nat) : Sm (Val × Heap) := smSeq [1, 2] (escheatlaw14_works_c1_d n) (escheatlaw14_works_c5_d n)
noncomputable def escheatlaw14_works_c7_d (n : Nat) : Sm (Val × Heap) := smSeq [] (escheatlaw14_works_c0_d n) (escheatlaw14_works_c6_d n)
noncomputable def R_escheatlaw14_works (n : Nat) (args : List Val) (h : Heap) : Option (Val × Heap) := (escheatlaw14_works_c7_d n) A_escheatlaw14_works.fin (params 0 args) h
theorem R_escheatlaw14_works_run (n : Nat) (args : List Val) (h : Heap) : A_escheatlaw14_works.run E_escheatlaw14_works n args h = R_escheatlaw14_works n args h := by kernel_rfl
theorem R_escheatlaw14_works_eq (n : Nat) (h : Heap) : R_escheatlaw14_works n [] h = bnd (afill ([.i .i64 0, .i .i64 0, .i .u64 0]) [(0, 1, .c (.i .i64 16)), (1, 1, .c (.i .i64 8))]) fun c1 => bnd (S_super_Put [(.a c1)] h) fun p2 => bnd (aext p2.1 0) fun v3 => bnd (aext p2.1 1) fun v4 => bnd (astoreN ((p2.2 ++ [some (Row.mk (List.replicate 256 (.i .u8 0)) true)])) 256 ((.c (.p p2.2.length 0))) v3) fun h5 => bnd (afill (List.replicate 256 (.i .u8 0)) []) fun c6 => bnd (S_super_Get [(.a c6)] h5) fun p7 => bnd (aext p7.1 0) fun v8 => bnd (aext p7.1 1) fun v9 => bnd (astoreN ((p7.2 ++ [some (Row.mk ([.i .i64 0, .i .i64 0, .i .u64 0]) true)])) 3 ((.c (.p p7.2.length 0))) v8) fun h10 => bnd (abin .eql v4 (.c (.i .i64 0))) fun v11 => bnd (gd v11 true (some (v9, h10)) (some (.no, h10))) fun p12 => bnd (gd v11 true (bnd (abin .eql p12.1 (.c (.i .i64 13))) fun v13 => some (v13, p12.2)) (some (.no, p12.2))) fun p14 => bnd (apick v11 p14.1 (.c (.b false))) fun v15 => bnd (gd v15 true (bnd (aloadN p14.2 256 ((.c (.p p2.2.length 0)))) fun v16 => some (v16, p14.2)) (some (.no, p14.2))) fun p17 => bnd (gd v15 true (bnd (S_num_Cut [p17.1, .c (.i .i64 8), .c (.i .i64 4)] p17.2) fun p18 => some (p18.1, p18.2)) (some (.no, p17.2))) fun p19 => bnd (gd v15 true (bnd (afill ([.i .u8 0, .i .u8 0, .i .u8 0, .i .u8 0]) [(0, 1, .c (.i .u8 16)), (1, 1, .c (.i .u8 0)), (2, 1, .c (.i .u8 8)), (3, 1, .c (.i .u8 0))]) fun c20 => some ((.c (.sl p19.2.length 0 4 1)), (p19.2 ++ [some (Row.mk (c20) true)]))) (some (.no, p19.2))) fun p21 => bnd (gd v15 true (bnd (S_escheatref01_Same [p19.1, p21.1] p21.2) fun p22 => some (p22.1, p22.2)) (some (.no, p21.2))) fun p23 => bnd (apick v15 p23.1 (.c (.b false))) fun v24 => some (v24, p23.2) := by kernel_rfl
theorem chk_escheatlaw14_works : chkFn Try.prog Try.f119 A_escheatlaw14_works = true := by kernel_rfl
theorem E_escheatlaw14_works_sound : Sound Try.prog E_escheatlaw14_works := by
  intro f args h v h2 he
  unfold E_escheatlaw14_works at he
  cases hb0 : Nat.beq f 120 with
  | true => rw [hb0] at he; have e := Nat.eq_of_beq_eq_true hb0; subst e; exact S_super_Put_ok args h v h2 he
  | false =>
    rw [hb0] at he; simp only [cond_false] at he
    cases hb1 : Nat.beq f 117 with
    | true => rw [hb1] at he; have e := Nat.eq_of_beq_eq_true hb1; subst e; exact S_super_Get_ok args h v h2 he
    | false =>
      rw [hb1] at he; simp only [cond_false] at he
      cases hb2 : Nat.beq f 66 with
      | true => rw [hb2] at he; have e := Nat.eq_of_beq_eq_true hb2; subst e; exact S_num_Cut_ok args h v h2 he
      | false =>
        rw [hb2] at he; simp only [cond_false] at he
        cases hb3 : Nat.beq f 47 with
        | true => rw [hb3] at he; have e := Nat.eq_of_beq_eq_true hb3; subst e; exact S_escheatref01_Same_ok args h v h2 he
        | false =>
          rw [hb3] at he; simp only [cond_false] at he
          cases he

theorem R_escheatlaw14_works_ok {n : Nat} {args : List Val} {h h2 : Heap} {v : Val} (he : R_escheatlaw14_works n args h = some (v, h2)) : Callable Try.prog 119 ∧ CallOk Try.prog 119 args h v h2 ∧ h.length ≤ h2.length := fn_ok E_escheatlaw14_works_sound Try.func119 chk_escheatlaw14_works ((R_escheatlaw14_works_run ..).trans he)
theorem L_escheatlaw14_works_ok (args : List Val) (h : Heap) (v : Val) (h2 : Heap) (he : Lim A_escheatlaw14_works E_escheatlaw14_works args h = some (v, h2)) : Callable Try.prog 119 ∧ CallOk Try.prog 119 args h v h2 ∧ h.length ≤ h2.length := (Lim_run he).elim fun _ e => R_escheatlaw14_works_ok ((R_escheatlaw14_works_run ..).symm.trans e)
theorem L_escheatlaw14_works_of {n : Nat} {args : List Val} {h : Heap} {p : Val × Heap} (he : R_escheatlaw14_works n args h = some p) : Lim A_escheatlaw14_works E_escheatlaw14_works args h = some p := Lim_of ((R_escheatlaw14_works_run ..).trans he)
noncomputable def S_escheatlaw14_works : List Val → Heap → Option (Val × Heap) := tidy (Lim A_escheatlaw14_works E_escheatlaw14_works)
theorem S_escheatlaw14_works_ok (args : List Val) (h : Heap) (v : Val) (h2 : Heap) (he : S_escheatlaw14_works args h = some (v, h2)) : Callable Try.prog 119 ∧ CallOk Try.prog 119 args h v h2 ∧ h.length ≤ h2.length := tidy_ok L_escheatlaw14_works_ok args h v h2 he
theorem S_escheatlaw14_works_flat {n : Nat} {args : List Val} {h h2 : Heap} {v : Val} (he : R_escheatlaw14_works n args (ro h) = some (v, h2)) (hf : v.flat = true) : S_escheatlaw14_works args h = some (v, h) := tidy_flat (L_escheatlaw14_works_of he) hf
theorem S_escheatlaw14_works_low {n : Nat} {args : List Val} {h h2 : Heap} {v : Val} (he : R_escheatlaw14_works n args (ro h) = some (v, h2)) (hf : v.low h.length = true) : S_escheatlaw14_works args h = some (v, h) := tidy_low (L_escheatlaw14_works_of he) hf
theorem S_escheatlaw14_works_out {n : Nat} {args : List Val} {h h2 : Heap} {v : Val} {sz k : Nat} {cs : List Cell} (he : R_escheatlaw14_works n args (ro h) = some (v, h2)) (ho : Out h.length h2 v sz k cs) (hf : flats cs = true) : S_escheatlaw14_works args h = some (.c (.sl h.length 0 k sz), h ++ [some ⟨cs, true⟩]) := tidy_out (L_escheatlaw14_works_of he) ho hf
theorem S_escheatlaw14_works_tidy {n : Nat} {args : List Val} {h h2 : Heap} {v v2 : Val} {ids : List Nat} (he : R_escheatlaw14_works n args (ro h) = some (v, h2)) (hc : canonV h2 h.length v = some (v2, ids)) : S_escheatlaw14_works args h = some (v2, h ++ ids.map (rd h2)) := tidy_of (L_escheatlaw14_works_of he) hc
end Go.Proofs.Ytbbkpmbepljhkaa
