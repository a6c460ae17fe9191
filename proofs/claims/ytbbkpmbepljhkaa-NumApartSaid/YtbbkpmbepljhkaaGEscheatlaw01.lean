/- Escheatlaw01: the Go functions of this package as the abstract evaluator computes them: printed by a program, checked by Lean. -/
import Derived.Test.YtbbkpmbepljhkaaEscS
import Derived.Test.YtbbkpmbepljhkaaChecked
import Derived.KernelRfl
import Derived.Test.YtbbkpmbepljhkaaGEscheatref01
import Derived.Test.YtbbkpmbepljhkaaGNum
namespace Go.Proofs.Ytbbkpmbepljhkaa
open Go Go.Esc
set_option maxRecDepth 100000
set_option linter.all false
def escheatlaw01_works_c0 : ACode := .ops [{ dst := some 0, op := .mv (.v (.c (.b false))) }]
def escheatlaw01_works_c1 : ACode := .ops [{ dst := some 4, op := .buildSl 1 3 ([.i .u8 0, .i .u8 0, .i .u8 0]) [(0, 1, (.v (.c (.i .u8 0)))), (1, 1, (.v (.c (.i .u8 0)))), (2, 1, (.v (.c (.i .u8 0))))] }, { dst := some 5, op := .call 63 [(.t 4), (.v (.c (.i .i64 1))), (.v (.c (.i .i64 2))), (.v (.c (.i .u64 258)))] }, { dst := some 3, op := .mv (.t 5) }, { dst := some 6, op := .ext (.t 3) 0 }, { dst := some 7, op := .ext (.t 3) 1 }, { dst := some 1, op := .mv (.t 6) }, { dst := some 2, op := .mv (.t 7) }]
def escheatlaw01_works_c2 : ACode := .ops [{ dst := some 8, op := .mv (.t 2) }, { dst := some 9, op := .mv (.t 8) }, { dst := some 10, op := .mv (.t 1), guard := some (9, true) }, { dst := some 11, op := .buildSl 1 3 ([.i .u8 0, .i .u8 0, .i .u8 0]) [(0, 1, (.v (.c (.i .u8 0)))), (1, 1, (.v (.c (.i .u8 2)))), (2, 1, (.v (.c (.i .u8 1))))], guard := some (9, true) }, { dst := some 12, op := .call 47 [(.t 10), (.t 11)], guard := some (9, true) }, { dst := some 13, op := .pick (.t 9) (.t 12) (.v (.c (.b false))) }, { dst := some 14, op := .mv (.t 13) }, { dst := some 15, op := .buildSl 1 2 ([.i .u8 0, .i .u8 0]) [(0, 1, (.v (.c (.i .u8 1)))), (1, 1, (.v (.c (.i .u8 1))))], guard := some (14, true) }, { dst := some 16, op := .call 82 [(.t 15)], guard := some (14, true) }, { dst := some 17, op := .call 59 [(.t 16), (.v (.c (.i .i64 0))), (.v (.c (.i .i64 2)))], guard := some (14, true) }, { dst := some 18, op := .bin .eql (.t 17) (.v (.c (.i .i64 257))), guard := some (14, true) }, { dst := some 19, op := .pick (.t 14) (.t 18) (.v (.c (.b false))) }, { dst := some 0, op := .mv (.t 19) }]
def escheatlaw01_works_c3 : ACode := .seq [0] escheatlaw01_works_c2 .ret
def escheatlaw01_works_c4 : ACode := .seq [1, 2] escheatlaw01_works_c1 escheatlaw01_works_c3
def escheatlaw01_works_c5 : ACode := .seq [] escheatlaw01_works_c0 escheatlaw01_works_c4
def A_escheatlaw01_works : AFn := ⟨escheatlaw01_works_c5, [.tmp 0]⟩
noncomputable def E_escheatlaw01_works : Sums := fun f args h => bif Nat.beq f 63 then S_num_Put args h else bif Nat.beq f 47 then S_escheatref01_Same args h else bif Nat.beq f 82 then S_num_Of args h else bif Nat.beq f 59 then S_num_At args h else none
noncomputable def escheatlaw01_works_c0_d (n : Nat) : Sm (Val × Heap) := smOps E_escheatlaw01_works [{ dst := some 0, op := .mv (.v (.c (.b false))) }]
noncomputable def escheatlaw01_works_c1_d (n : Nat) : Sm (Val × Heap) := smOps E_escheatlaw01_works [{ dst := some 4, op := .buildSl 1 3 ([.i .u8 0, .i .u8 0, .i .u8 0]) [(0, 1, (.v (.c (.i .u8 0)))), (1, 1, (.v (.c (.i .u8 0)))), (2, 1, (.v (.c (.i .u8 0))))] }, { dst := some 5, op := .call 63 [(.t 4), (.v (.c (.i .i64 1))), (.v (.c (.i .i64 2))), (.v (.c (.i .u64 258)))] }, { dst := some 3, op := .mv (.t 5) }, { dst := some 6, op := .ext (.t 3) 0 }, { dst := some 7, op := .ext (.t 3) 1 }, { dst := some 1, op := .mv (.t 6) }, { dst := some 2, op := .mv (.t 7) }]
noncomputable def escheatlaw01_works_c2_d (n : Nat) : Sm (Val × Heap) := smOps E_escheatlaw01_works [{ dst := some 8, op := .mv (.t 2) }, { dst := some 9, op := .mv (.t 8) }, { dst := some 10, op := .mv (.t 1), guard := some (9, true) }, { dst := some 11, op := .buildSl 1 3 ([.i .u8 0, .i .u8 0, .i .u8 0]) [(0, 1, (.v (.c (.i .u8 0)))), (1, 1, (.v (.c (.i .u8 2)))), (2, 1, (.v (.c (.i .u8 1))))], guard := some (9, true) }, { dst := some 12, op := .call 47 [(.t 10), (.t 11)], guard := some (9, true) }, { dst := some 13, op := .pick (.t 9) (.t 12) (.v (.c (.b false))) }, { dst := some 14, op := .mv (.t 13) }, { dst := some 15, op := .buildSl 1 2 ([.i .u8 0, .i .u8 0]) [(0, 1, (.v (.c (.i .u8 1)))), (1, 1, (.v (.c (.i .u8 1))))], guard := some (14, true) }, { dst := some 16, op := .call 82 [(.t 15)], guard := some (14, true) }, { dst := some 17, op := .call 59 [(.t 16), (.v (.c (.i .i64 0))), (.v (.c (.i .i64 2)))], guard := some (14, true) }, { dst := some 18, op := .bin .eql (.t 17) (.v (.c (.i .i64 257))), guard := some (14, true) }, { dst := some 19, op := .pick (.t 14) (.t 18) (.v (.c (.b false))) }, { dst := some 0, op := .mv (.t 19) }]
noncomputable def escheatlaw01_works_c3_d (n : Nat) : Sm (Val × Heap) := smSeq [0] (escheatlaw01_works_c2_d n) smRet
noncomputable def escheatlaw01_works_c4_d (n : Nat) : Sm (Val × Heap) := smSeq [1, 2] (escheatlaw01_works_c1_d n) (escheatlaw01_works_c3_d n)
noncomputable def escheatlaw01_works_c5_d (n : Nat) : Sm (Val × Heap) := smSeq [] (escheatlaw01_works_c0_d n) (escheatlaw01_works_c4_d n)
noncomputable def R_escheatlaw01_works (n : Nat) (args : List Val) (h : Heap) : Option (Val × Heap) := (escheatlaw01_works_c5_d n) A_escheatlaw01_works.fin (params 0 args) h
theorem R_escheatlaw01_works_run (n : Nat) (args : List Val) (h : Heap) : A_escheatlaw01_works.run E_escheatlaw01_works n args h = R_escheatlaw01_works n args h := by kernel_rfl
theorem R_escheatlaw01_works_eq (n : Nat) (h : Heap) : R_escheatlaw01_works n [] h = bnd (afill ([.i .u8 0, .i .u8 0, .i .u8 0]) [(0, 1, .c (.i .u8 0)), (1, 1, .c (.i .u8 0)), (2, 1, .c (.i .u8 0))]) fun c1 => bnd (S_num_Put [(.c (.sl h.length 0 3 1)), .c (.i .i64 1), .c (.i .i64 2), .c (.i .u64 258)] ((h ++ [some (Row.mk (c1) true)]))) fun p2 => bnd (aext p2.1 0) fun v3 => bnd (aext p2.1 1) fun v4 => bnd (gd v4 true (some (v3, p2.2)) (some (.no, p2.2))) fun p5 => bnd (gd v4 true (bnd (afill ([.i .u8 0, .i .u8 0, .i .u8 0]) [(0, 1, .c (.i .u8 0)), (1, 1, .c (.i .u8 2)), (2, 1, .c (.i .u8 1))]) fun c6 => some ((.c (.sl p5.2.length 0 3 1)), (p5.2 ++ [some (Row.mk (c6) true)]))) (some (.no, p5.2))) fun p7 => bnd (gd v4 true (bnd (S_escheatref01_Same [p5.1, p7.1] p7.2) fun p8 => some (p8.1, p8.2)) (some (.no, p7.2))) fun p9 => bnd (apick v4 p9.1 (.c (.b false))) fun v10 => bnd (gd v10 true (bnd (afill ([.i .u8 0, .i .u8 0]) [(0, 1, .c (.i .u8 1)), (1, 1, .c (.i .u8 1))]) fun c11 => some ((.c (.sl p9.2.length 0 2 1)), (p9.2 ++ [some (Row.mk (c11) true)]))) (some (.no, p9.2))) fun p12 => bnd (gd v10 true (bnd (S_num_Of [p12.1] p12.2) fun p13 => some (p13.1, p13.2)) (some (.no, p12.2))) fun p14 => bnd (gd v10 true (bnd (S_num_At [p14.1, .c (.i .i64 0), .c (.i .i64 2)] p14.2) fun p15 => some (p15.1, p15.2)) (some (.no, p14.2))) fun p16 => bnd (gd v10 true (bnd (abin .eql p16.1 (.c (.i .i64 257))) fun v17 => some (v17, p16.2)) (some (.no, p16.2))) fun p18 => bnd (apick v10 p18.1 (.c (.b false))) fun v19 => some (v19, p18.2) := by kernel_rfl
theorem chk_escheatlaw01_works : chkFn Try.prog Try.f60 A_escheatlaw01_works = true := by kernel_rfl
theorem E_escheatlaw01_works_sound : Sound Try.prog E_escheatlaw01_works := by
  intro f args h v h2 he
  unfold E_escheatlaw01_works at he
  cases hb0 : Nat.beq f 63 with
  | true => rw [hb0] at he; have e := Nat.eq_of_beq_eq_true hb0; subst e; exact S_num_Put_ok args h v h2 he
  | false =>
    rw [hb0] at he; simp only [cond_false] at he
    cases hb1 : Nat.beq f 47 with
    | true => rw [hb1] at he; have e := Nat.eq_of_beq_eq_true hb1; subst e; exact S_escheatref01_Same_ok args h v h2 he
    | false =>
      rw [hb1] at he; simp only [cond_false] at he
      cases hb2 : Nat.beq f 82 with
      | true => rw [hb2] at he; have e := Nat.eq_of_beq_eq_true hb2; subst e; exact S_num_Of_ok args h v h2 he
      | false =>
        rw [hb2] at he; simp only [cond_false] at he
        cases hb3 : Nat.beq f 59 with
        | true => rw [hb3] at he; have e := Nat.eq_of_beq_eq_true hb3; subst e; exact S_num_At_ok args h v h2 he
        | false =>
          rw [hb3] at he; simp only [cond_false] at he
          cases he

theorem R_escheatlaw01_works_ok {n : Nat} {args : List Val} {h h2 : Heap} {v : Val} (he : R_escheatlaw01_works n args h = some (v, h2)) : Callable Try.prog 60 ∧ CallOk Try.prog 60 args h v h2 ∧ h.length ≤ h2.length := fn_ok E_escheatlaw01_works_sound Try.func60 chk_escheatlaw01_works ((R_escheatlaw01_works_run ..).trans he)
theorem L_escheatlaw01_works_ok (args : List Val) (h : Heap) (v : Val) (h2 : Heap) (he : Lim A_escheatlaw01_works E_escheatlaw01_works args h = some (v, h2)) : Callable Try.prog 60 ∧ CallOk Try.prog 60 args h v h2 ∧ h.length ≤ h2.length := (Lim_run he).elim fun _ e => R_escheatlaw01_works_ok ((R_escheatlaw01_works_run ..).symm.trans e)
theorem L_escheatlaw01_works_of {n : Nat} {args : List Val} {h : Heap} {p : Val × Heap} (he : R_escheatlaw01_works n args h = some p) : Lim A_escheatlaw01_works E_escheatlaw01_works args h = some p := Lim_of ((R_escheatlaw01_works_run ..).trans he)
noncomputable def S_escheatlaw01_works : List Val → Heap → Option (Val × Heap) := tidy (Lim A_escheatlaw01_works E_escheatlaw01_works)
theorem S_escheatlaw01_works_ok (args : List Val) (h : Heap) (v : Val) (h2 : Heap) (he : S_escheatlaw01_works args h = some (v, h2)) : Callable Try.prog 60 ∧ CallOk Try.prog 60 args h v h2 ∧ h.length ≤ h2.length := tidy_ok L_escheatlaw01_works_ok args h v h2 he
theorem S_escheatlaw01_works_flat {n : Nat} {args : List Val} {h h2 : Heap} {v : Val} (he : R_escheatlaw01_works n args (ro h) = some (v, h2)) (hf : v.flat = true) : S_escheatlaw01_works args h = some (v, h) := tidy_flat (L_escheatlaw01_works_of he) hf
theorem S_escheatlaw01_works_low {n : Nat} {args : List Val} {h h2 : Heap} {v : Val} (he : R_escheatlaw01_works n args (ro h) = some (v, h2)) (hf : v.low h.length = true) : S_escheatlaw01_works args h = some (v, h) := tidy_low (L_escheatlaw01_works_of he) hf
theorem S_escheatlaw01_works_out {n : Nat} {args : List Val} {h h2 : Heap} {v : Val} {sz k : Nat} {cs : List Cell} (he : R_escheatlaw01_works n args (ro h) = some (v, h2)) (ho : Out h.length h2 v sz k cs) (hf : flats cs = true) : S_escheatlaw01_works args h = some (.c (.sl h.length 0 k sz), h ++ [some ⟨cs, true⟩]) := tidy_out (L_escheatlaw01_works_of he) ho hf
theorem S_escheatlaw01_works_tidy {n : Nat} {args : List Val} {h h2 : Heap} {v v2 : Val} {ids : List Nat} (he : R_escheatlaw01_works n args (ro h) = some (v, h2)) (hc : canonV h2 h.length v = some (v2, ids)) : S_escheatlaw01_works args h = some (v2, h ++ ids.map (rd h2)) := tidy_of (L_escheatlaw01_works_of he) hc
end Go.Proofs.Ytbbkpmbepljhkaa
