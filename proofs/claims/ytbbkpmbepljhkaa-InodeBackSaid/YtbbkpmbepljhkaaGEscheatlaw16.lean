/- Escheatlaw16: the Go functions of this package as the abstract evaluator computes them: printed by a program, checked by Lean. -/
import Derived.Test.YtbbkpmbepljhkaaEscS
import Derived.Test.YtbbkpmbepljhkaaChecked
import Derived.KernelRfl
import Derived.Test.YtbbkpmbepljhkaaGEscheatref01
import Derived.Test.YtbbkpmbepljhkaaGInode
namespace Go.Proofs.Ytbbkpmbepljhkaa
open Go Go.Esc
set_option maxRecDepth 100000
set_option linter.all false
def escheatlaw16_works_c0 : ACode := .ops [{ dst := some 0, op := .mv (.v (.c (.b false))) }]
def escheatlaw16_works_c1 : ACode := .ops [{ dst := some 4, op := .build ([.i .i64 0, .i .i64 0, .i .i64 0, .i .i64 0, .i .i64 0, .i .i64 0, .i .i64 0, .i .i64 0, .i .i64 0, .i .i64 0, .i .i64 0]) [(0, 1, (.v (.c (.i .i64 1)))), (1, 1, (.v (.c (.i .i64 1)))), (2, 1, (.v (.c (.i .i64 258))))] }, { dst := some 5, op := .call 92 [(.t 4)] }, { dst := some 3, op := .mv (.t 5) }, { dst := some 6, op := .ext (.t 3) 0 }, { dst := some 7, op := .ext (.t 3) 1 }, { dst := some 1, op := .alloc (List.replicate 32 (.i .u8 0)) }, { dst := none, op := .storeN 32 (.t 1) (.t 6) }, { dst := some 2, op := .mv (.t 7) }]
def escheatlaw16_works_c2 : ACode := .ops [{ dst := some 8, op := .mv (.t 2) }, { dst := some 9, op := .bin .eql (.t 8) (.v (.c (.i .i64 0))) }, { dst := some 10, op := .mv (.t 9) }, { dst := some 11, op := .slA 32 1 (.t 1) none (some (.v (.c (.i .i64 6)))), guard := some (10, true) }, { dst := some 12, op := .buildSl 1 6 ([.i .u8 0, .i .u8 0, .i .u8 0, .i .u8 0, .i .u8 0, .i .u8 0]) [(0, 1, (.v (.c (.i .u8 1)))), (1, 1, (.v (.c (.i .u8 0)))), (2, 1, (.v (.c (.i .u8 1)))), (3, 1, (.v (.c (.i .u8 0)))), (4, 1, (.v (.c (.i .u8 2)))), (5, 1, (.v (.c (.i .u8 1))))], guard := some (10, true) }, { dst := some 13, op := .call 47 [(.t 11), (.t 12)], guard := some (10, true) }, { dst := some 14, op := .pick (.t 10) (.t 13) (.v (.c (.b false))) }, { dst := some 15, op := .mv (.t 14) }, { dst := some 16, op := .call 98 [(.v (.c (.i .i64 257)))], guard := some (15, true) }, { dst := some 17, op := .bin .eql (.t 16) (.v (.c (.i .i64 2))), guard := some (15, true) }, { dst := some 18, op := .pick (.t 15) (.t 17) (.v (.c (.b false))) }, { dst := some 0, op := .mv (.t 18) }]
def escheatlaw16_works_c3 : ACode := .seq [0] escheatlaw16_works_c2 .ret
def escheatlaw16_works_c4 : ACode := .seq [1, 2] escheatlaw16_works_c1 escheatlaw16_works_c3
def escheatlaw16_works_c5 : ACode := .seq [] escheatlaw16_works_c0 escheatlaw16_works_c4
def A_escheatlaw16_works : AFn := ⟨escheatlaw16_works_c5, [.tmp 0]⟩
noncomputable def E_escheatlaw16_works : Sums := fun f args h => bif Nat.beq f 92 then S_inode_Put args h else bif Nat.beq f 47 then S_escheatref01_Same args h else bif Nat.beq f 98 then S_inode_Blocks args h else none
noncomputable def escheatlaw16_works_c0_d (n : Nat) : Sm (Val × Heap) := smOps E_escheatlaw16_works [{ dst := some 0, op := .mv (.v (.c (.b false))) }]
noncomputable def escheatlaw16_works_c1_d (n : Nat) : Sm (Val × Heap) := smOps E_escheatlaw16_works [{ dst := some 4, op := .build ([.i .i64 0, .i .i64 0, .i .i64 0, .i .i64 0, .i .i64 0, .i .i64 0, .i .i64 0, .i .i64 0, .i .i64 0, .i .i64 0, .i .i64 0]) [(0, 1, (.v (.c (.i .i64 1)))), (1, 1, (.v (.c (.i .i64 1)))), (2, 1, (.v (.c (.i .i64 258))))] }, { dst := some 5, op := .call 92 [(.t 4)] }, { dst := some 3, op := .mv (.t 5) }, { dst := some 6, op := .ext (.t 3) 0 }, { dst := some 7, op := .ext (.t 3) 1 }, { dst := some 1, op := .alloc (List.replicate 32 (.i .u8 0)) }, { dst := none, op := .storeN 32 (.t 1) (.t 6) }, { dst := some 2, op := .mv (.t 7) }]
noncomputable def escheatlaw16_works_c2_d (n : Nat) : Sm (Val × Heap) := smOps E_escheatlaw16_works [{ dst := some 8, op := .mv (.t 2) }, { dst := some 9, op := .bin .eql (.t 8) (.v (.c (.i .i64 0))) }, { dst := some 10, op := .mv (.t 9) }, { dst := some 11, op := .slA 32 1 (.t 1) none (some (.v (.c (.i .i64 6)))), guard := some (10, true) }, { dst := some 12, op := .buildSl 1 6 ([.i .u8 0, .i .u8 0, .i .u8 0, .i .u8 0, .i .u8 0, .i .u8 0]) [(0, 1, (.v (.c (.i .u8 1)))), (1, 1, (.v (.c (.i .u8 0)))), (2, 1, (.v (.c (.i .u8 1)))), (3, 1, (.v (.c (.i .u8 0)))), (4, 1, (.v (.c (.i .u8 2)))), (5, 1, (.v (.c (.i .u8 1))))], guard := some (10, true) }, { dst := some 13, op := .call 47 [(.t 11), (.t 12)], guard := some (10, true) }, { dst := some 14, op := .pick (.t 10) (.t 13) (.v (.c (.b false))) }, { dst := some 15, op := .mv (.t 14) }, { dst := some 16, op := .call 98 [(.v (.c (.i .i64 257)))], guard := some (15, true) }, { dst := some 17, op := .bin .eql (.t 16) (.v (.c (.i .i64 2))), guard := some (15, true) }, { dst := some 18, op := .pick (.t 15) (.t 17) (.v (.c (.b false))) }, { dst := some 0, op := .mv (.t 18) }]
noncomputable def escheatlaw16_works_c3_d (n : Nat) : Sm (Val × Heap) := smSeq [0] (escheatlaw16_works_c2_d n) smRet
noncomputable def escheatlaw16_works_c4_d (n : Nat) : Sm (Val × Heap) := smSeq [1, 2] (escheatlaw16_works_c1_d n) (escheatlaw16_works_c3_d n)
noncomputable def escheatlaw16_works_c5_d (n : Nat) : Sm (Val × Heap) := smSeq [] (escheatlaw16_works_c0_d n) (escheatlaw16_works_c4_d n)
noncomputable def R_escheatlaw16_works (n : Nat) (args : List Val) (h : Heap) : Option (Val × Heap) := (escheatlaw16_works_c5_d n) A_escheatlaw16_works.fin (params 0 args) h
theorem R_escheatlaw16_works_run (n : Nat) (args : List Val) (h : Heap) : A_escheatlaw16_works.run E_escheatlaw16_works n args h = R_escheatlaw16_works n args h := by kernel_rfl
theorem R_escheatlaw16_works_eq (n : Nat) (h : Heap) : R_escheatlaw16_works n [] h = bnd (afill ([.i .i64 0, .i .i64 0, .i .i64 0, .i .i64 0, .i .i64 0, .i .i64 0, .i .i64 0, .i .i64 0, .i .i64 0, .i .i64 0, .i .i64 0]) [(0, 1, .c (.i .i64 1)), (1, 1, .c (.i .i64 1)), (2, 1, .c (.i .i64 258))]) fun c1 => bnd (S_inode_Put [(.a c1)] h) fun p2 => bnd (aext p2.1 0) fun v3 => bnd (aext p2.1 1) fun v4 => bnd (astoreN ((p2.2 ++ [some (Row.mk (List.replicate 32 (.i .u8 0)) true)])) 32 ((.c (.p p2.2.length 0))) v3) fun h5 => bnd (abin .eql v4 (.c (.i .i64 0))) fun v6 => bnd (gd v6 true (bnd (aslA h5 32 1 ((.c (.p p2.2.length 0))) none (some (.c (.i .i64 6)))) fun v7 => some (v7, h5)) (some (.no, h5))) fun p8 => bnd (gd v6 true (bnd (afill ([.i .u8 0, .i .u8 0, .i .u8 0, .i .u8 0, .i .u8 0, .i .u8 0]) [(0, 1, .c (.i .u8 1)), (1, 1, .c (.i .u8 0)), (2, 1, .c (.i .u8 1)), (3, 1, .c (.i .u8 0)), (4, 1, .c (.i .u8 2)), (5, 1, .c (.i .u8 1))]) fun c9 => some ((.c (.sl p8.2.length 0 6 1)), (p8.2 ++ [some (Row.mk (c9) true)]))) (some (.no, p8.2))) fun p10 => bnd (gd v6 true (bnd (S_escheatref01_Same [p8.1, p10.1] p10.2) fun p11 => some (p11.1, p11.2)) (some (.no, p10.2))) fun p12 => bnd (apick v6 p12.1 (.c (.b false))) fun v13 => bnd (gd v13 true (bnd (S_inode_Blocks [.c (.i .i64 257)] p12.2) fun p14 => some (p14.1, p14.2)) (some (.no, p12.2))) fun p15 => bnd (gd v13 true (bnd (abin .eql p15.1 (.c (.i .i64 2))) fun v16 => some (v16, p15.2)) (some (.no, p15.2))) fun p17 => bnd (apick v13 p17.1 (.c (.b false))) fun v18 => some (v18, p17.2) := by kernel_rfl
theorem chk_escheatlaw16_works : chkFn Try.prog Try.f96 A_escheatlaw16_works = true := by kernel_rfl
theorem E_escheatlaw16_works_sound : Sound Try.prog E_escheatlaw16_works := by
  intro f args h v h2 he
  unfold E_escheatlaw16_works at he
  cases hb0 : Nat.beq f 92 with
  | true => rw [hb0] at he; have e := Nat.eq_of_beq_eq_true hb0; subst e; exact S_inode_Put_ok args h v h2 he
  | false =>
    rw [hb0] at he; simp only [cond_false] at he
    cases hb1 : Nat.beq f 47 with
    | true => rw [hb1] at he; have e := Nat.eq_of_beq_eq_true hb1; subst e; exact S_escheatref01_Same_ok args h v h2 he
    | false =>
      rw [hb1] at he; simp only [cond_false] at he
      cases hb2 : Nat.beq f 98 with
      | true => rw [hb2] at he; have e := Nat.eq_of_beq_eq_true hb2; subst e; exact S_inode_Blocks_ok args h v h2 he
      | false =>
        rw [hb2] at he; simp only [cond_false] at he
        cases he

theorem R_escheatlaw16_works_ok {n : Nat} {args : List Val} {h h2 : Heap} {v : Val} (he : R_escheatlaw16_works n args h = some (v, h2)) : Callable Try.prog 96 ∧ CallOk Try.prog 96 args h v h2 ∧ h.length ≤ h2.length := fn_ok E_escheatlaw16_works_sound Try.func96 chk_escheatlaw16_works ((R_escheatlaw16_works_run ..).trans he)
theorem L_escheatlaw16_works_ok (args : List Val) (h : Heap) (v : Val) (h2 : Heap) (he : Lim A_escheatlaw16_works E_escheatlaw16_works args h = some (v, h2)) : Callable Try.prog 96 ∧ CallOk Try.prog 96 args h v h2 ∧ h.length ≤ h2.length := (Lim_run he).elim fun _ e => R_escheatlaw16_works_ok ((R_escheatlaw16_works_run ..).symm.trans e)
theorem L_escheatlaw16_works_of {n : Nat} {args : List Val} {h : Heap} {p : Val × Heap} (he : R_escheatlaw16_works n args h = some p) : Lim A_escheatlaw16_works E_escheatlaw16_works args h = some p := Lim_of ((R_escheatlaw16_works_run ..).trans he)
noncomputable def S_escheatlaw16_works : List Val → Heap → Option (Val × Heap) := tidy (Lim A_escheatlaw16_works E_escheatlaw16_works)
theorem S_escheatlaw16_works_ok (args : List Val) (h : Heap) (v : Val) (h2 : Heap) (he : S_escheatlaw16_works args h = some (v, h2)) : Callable Try.prog 96 ∧ CallOk Try.prog 96 args h v h2 ∧ h.length ≤ h2.length := tidy_ok L_escheatlaw16_works_ok args h v h2 he
theorem S_escheatlaw16_works_flat {n : Nat} {args : List Val} {h h2 : Heap} {v : Val} (he : R_escheatlaw16_works n args (ro h) = some (v, h2)) (hf : v.flat = true) : S_escheatlaw16_works args h = some (v, h) := tidy_flat (L_escheatlaw16_works_of he) hf
theorem S_escheatlaw16_works_low {n : Nat} {args : List Val} {h h2 : Heap} {v : Val} (he : R_escheatlaw16_works n args (ro h) = some (v, h2)) (hf : v.low h.length = true) : S_escheatlaw16_works args h = some (v, h) := tidy_low (L_escheatlaw16_works_of he) hf
theorem S_escheatlaw16_works_out {n : Nat} {args : List Val} {h h2 : Heap} {v : Val} {sz k : Nat} {cs : List Cell} (he : R_escheatlaw16_works n args (ro h) = some (v, h2)) (ho : Out h.length h2 v sz k cs) (hf : flats cs = true) : S_escheatlaw16_works args h = some (.c (.sl h.length 0 k sz), h ++ [some ⟨cs, true⟩]) := tidy_out (L_escheatlaw16_works_of he) ho hf
theorem S_escheatlaw16_works_tidy {n : Nat} {args : List Val} {h h2 : Heap} {v v2 : Val} {ids : List Nat} (he : R_escheatlaw16_works n args (ro h) = some (v, h2)) (hc : canonV h2 h.length v = some (v2, ids)) : S_escheatlaw16_works args h = some (v2, h ++ ids.map (rd h2)) := tidy_of (L_escheatlaw16_works_of he) hc
end Go.Proofs.Ytbbkpmbepljhkaa
