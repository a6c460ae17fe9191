/- Escheatlaw14SuperApart: the Go functions of this package as the abstract evaluator computes them: printed by a program, checked by Lean. -/
import Derived.Test.YtbbkpmbepljhkaaEscS
import Derived.Test.YtbbkpmbepljhkaaChecked
import Derived.KernelRfl
import Derived.Test.YtbbkpmbepljhkaaGEscheatlaw14
import Derived.Test.YtbbkpmbepljhkaaGSuper
namespace Go.Proofs.Ytbbkpmbepljhkaa
open Go Go.Esc
set_option maxRecDepth 100000
set_option linter.all false
def escheatlaw14_SuperApart_c0 : ACode := .ops [{ dst := some 2, op := .box (.t 0) }, { dst := some 3, op := .box (.t 1) }, { dst := some 4, op := .mv (.v (.c (.b false))) }]
def escheatlaw14_SuperApart_c1 : ACode := .ops [{ dst := some 10, op := .loadN 3 (.t 2) }, { dst := some 11, op := .call 120 [(.t 10)] }, { dst := some 9, op := .mv (.t 11) }, { dst := some 12, op := .ext (.t 9) 0 }, { dst := some 13, op := .ext (.t 9) 1 }, { dst := some 5, op := .alloc (List.replicate 256 (.i .u8 0)) }, { dst := none, op := .storeN 256 (.t 5) (.t 12) }, { dst := some 6, op := .mv (.t 13) }]
def escheatlaw14_SuperApart_c2 : ACode := .ops [{ dst := some 15, op := .loadN 3 (.t 3) }, { dst := some 16, op := .call 120 [(.t 15)] }, { dst := some 14, op := .mv (.t 16) }, { dst := some 17, op := .ext (.t 14) 0 }, { dst := some 18, op := .ext (.t 14) 1 }, { dst := some 7, op := .alloc (List.replicate 256 (.i .u8 0)) }, { dst := none, op := .storeN 256 (.t 7) (.t 17) }, { dst := some 8, op := .mv (.t 18) }]
def escheatlaw14_SuperApart_c3 : ACode := .ops [{ dst := some 19, op := .mv (.t 6) }, { dst := some 20, op := .bin .neq (.t 19) (.v (.c (.i .i64 0))) }, { dst := some 21, op := .mv (.t 20) }, { dst := some 22, op := .mv (.t 8), guard := some (21, false) }, { dst := some 23, op := .bin .neq (.t 22) (.v (.c (.i .i64 0))), guard := some (21, false) }, { dst := some 24, op := .pick (.t 21) (.v (.c (.b true))) (.t 23) }]
def escheatlaw14_SuperApart_c4 : ACode := .ops [{ dst := some 25, op := .call 119 [] }, { dst := some 4, op := .mv (.t 25) }]
def escheatlaw14_SuperApart_c5 : ACode := .seq [4] escheatlaw14_SuperApart_c4 .ret
def escheatlaw14_SuperApart_c6 : ACode := .cond (.t 24) escheatlaw14_SuperApart_c5 .skip
def escheatlaw14_SuperApart_c7 : ACode := .seq [2, 3, 5, 7, 24] escheatlaw14_SuperApart_c3 escheatlaw14_SuperApart_c6
def escheatlaw14_SuperApart_c8 : ACode := .draw 0 [{ dst := some 26, op := .loadN 256 (.t 5) }, { dst := some 27, op := .loadN 256 (.t 7) }, { dst := some 28, op := .eqA false (List.replicate 256 (.i .u8)) (.t 26) (.t 27) }, { dst := some 29, op := .loadN 3 (.t 2) }, { dst := some 30, op := .loadN 3 (.t 3) }, { dst := some 31, op := .call 122 [(.t 29), (.t 30)] }] [{ dst := some 32, op := .eqB false (.t 28) (.t 31) }, { dst := some 33, op := .mv (.t 32) }, { dst := some 34, op := .call 119 [], guard := some (33, true) }, { dst := some 35, op := .pick (.t 33) (.t 34) (.v (.c (.b false))) }, { dst := some 4, op := .mv (.t 35) }]
def escheatlaw14_SuperApart_c9 : ACode := .seq [4] escheatlaw14_SuperApart_c8 .ret
def escheatlaw14_SuperApart_c10 : ACode := .seq [2, 3, 5, 7] escheatlaw14_SuperApart_c7 escheatlaw14_SuperApart_c9
def escheatlaw14_SuperApart_c11 : ACode := .seq [2, 3, 5, 6, 7, 8] escheatlaw14_SuperApart_c2 escheatlaw14_SuperApart_c10
def escheatlaw14_SuperApart_c12 : ACode := .seq [2, 3, 5, 6] escheatlaw14_SuperApart_c1 escheatlaw14_SuperApart_c11
def escheatlaw14_SuperApart_c13 : ACode := .seq [2, 3] escheatlaw14_SuperApart_c0 escheatlaw14_SuperApart_c12
def A_escheatlaw14_SuperApart : AFn := ⟨escheatlaw14_SuperApart_c13, [.tmp 4]⟩
noncomputable def E_escheatlaw14_SuperApart : Sums := fun f args h => bif Nat.beq f 120 then S_super_Put args h else bif Nat.beq f 119 then S_escheatlaw14_works args h else bif Nat.beq f 122 then S_super_Same args h else none
noncomputable def escheatlaw14_SuperApart_c0_d (n : Nat) : Sm (Val × Heap) := smOps E_escheatlaw14_SuperApart [{ dst := some 2, op := .box (.t 0) }, { dst := some 3, op := .box (.t 1) }, { dst := some 4, op := .mv (.v (.c (.b false))) }]
noncomputable def escheatlaw14_SuperApart_c1_d (n : Nat) : Sm (Val × Heap) := smOps E_escheatlaw14_SuperApart [{ dst := some 10, op := .loadN 3 (.t 2) }, { dst := some 11, op := .call 120 [(.t 10)] }, { dst := some 9, op := .mv (.t 11) }, { dst := some 12, op := .ext (.t 9) 0 }, { dst := some 13, op := .ext (.t 9) 1 }, { dst := some 5, op := .alloc (List.replicate 256 (.i .u8 0)) }, { dst := none, op := .storeN 256 (.t 5) (.t 12) }, { dst := some 6, op := .mv (.t 13) }]
noncomputable def escheatlaw14_SuperApart_c2_d (n : Nat) : Sm (Val × Heap) := smOps E_escheatlaw14_SuperApart [{ dst := some 15, op := .loadN 3 (.t 3) }, { dst := some 16, op := .call 120 [(.t 15)] }, { dst := some 14, op := .mv (.t 16) }, { dst := some 17, op := .ext (.t 14) 0 }, { dst := some 18, op := .ext (.t 14) 1 }, { dst := some 7, op := .alloc (List.replicate 256 (.i .u8 0)) }, { dst := none, op := .storeN 256 (.t 7) (.t 17) }, { dst := some 8, op := .mv (.t 18) }]
noncomputable def escheatlaw14_SuperApart_c3_d (n : Nat) : Sm (Val × Heap) := smOps E_escheatlaw14_SuperApart [{ dst := some 19, op := .mv (.t 6) }, { dst := some 20, op := .bin .neq (.t 19) (.v (.c (.i .i64 0))) }, { dst := some 21, op := .mv (.t 20) }, { dst := some 22, op := .mv (.t 8), guard := some (21, false) }, { dst := some 23, op := .bin .neq (.t 22) (.v (.c (.i .i64 0))), guard := some (21, false) }, { dst := some 24, op := .pick (.t 21) (.v (.c (.b true))) (.t 23) }]
noncomputable def escheatlaw14_SuperApart_c4_d (n : Nat) : Sm (Val × Heap) := smOps E_escheatlaw14_SuperApart [{ dst := some 25, op := .call 119 [] }, { dst := some 4, op := .mv (.t 25) }]
noncomputable def escheatlaw14_SuperApart_c5_d (n : Nat) : Sm (Val × Heap) := smSeq [4] (escheatlaw14_SuperApart_c4_d n) smRet
noncomputable def escheatlaw14_SuperApart_c6_d (n : Nat) : Sm (Val × Heap) := smCond (.t 24) (escheatlaw14_SuperApart_c5_d n) smSkip
noncomputable def escheatlaw14_SuperApart_c7_d (n : Nat) : Sm (Val × Heap) := smSeq [2, 3, 5, 7, 24] (escheatlaw14_SuperApart_c3_d n) (escheatlaw14_SuperApart_c6_d n)
noncomputable def escheatlaw14_SuperApart_c8_d (n : Nat) : Sm (Val × Heap) := smDraw E_escheatlaw14_SuperApart 0 [{ dst := some 26, op := .loadN 256 (.t 5) }, { dst := some 27, op := .loadN 256 (.t 7) }, { dst := some 28, op := .eqA false (List.replicate 256 (.i .u8)) (.t 26) (.t 27) }, { dst := some 29, op := .loadN 3 (.t 2) }, { dst := some 30, op := .loadN 3 (.t 3) }, { dst := some 31, op := .call 122 [(.t 29), (.t 30)] }] [{ dst := some 32, op := .eqB false (.t 28) (.t 31) }, { dst := some 33, op := .mv (.t 32) }, { dst := some 34, op := .call 119 [], guard := some (33, true) }, { dst := some 35, op := .pick (.t 33) (.t 34) (.v (.c (.b false))) }, { dst := some 4, op := .mv (.t 35) }]
noncomputable def escheatlaw14_SuperApart_c9_d (n : Nat) : Sm (Val × Heap) := smSeq [4] (escheatlaw14_SuperApart_c8_d n) smRet
noncomputable def escheatlaw14_SuperApart_c10_d (n : Nat) : Sm (Val × Heap) := smSeq [2, 3, 5, 7] (escheatlaw14_SuperApart_c7_d n) (escheatlaw14_SuperApart_c9_d n)
noncomputable def escheatlaw14_SuperApart_c11_d (n : Nat) : Sm (Val × Heap) := smSeq [2, 3, 5, 6, 7, 8] (escheatlaw14_SuperApart_c2_d n) (escheatlaw14_SuperApart_c10_d n)
noncomputable def escheatlaw14_SuperApart_c12_d (n : Nat) : Sm (Val × Heap) := smSeq [2, 3, 5, 6] (escheatlaw14_SuperApart_c1_d n) (escheatlaw14_SuperApart_c11_d n)
noncomputable def escheatlaw14_SuperApart_c13_d (n : Nat) : Sm (Val × Heap) := smSeq [2, 3] (escheatlaw14_SuperApart_c0_d n) (escheatlaw14_SuperApart_c12_d n)
noncomputable def R_escheatlaw14_SuperApart (n : Nat) (args : List Val) (h : Heap) : Option (Val × Heap) := (escheatlaw14_SuperApart_c13_d n) A_escheatlaw14_SuperApart.fin (params 0 args) h
theorem R_escheatlaw14_SuperApart_run (n : Nat) (args : List Val) (h : Heap) : A_escheatlaw14_SuperApart.run E_escheatlaw14_SuperApart n args h = R_escheatlaw14_SuperApart n args h := by kernel_rfl
theorem R_escheatlaw14_SuperApart_eq (n : Nat) (a0 a1 : Val) (h : Heap) : R_escheatlaw14_SuperApart n [a0, a1] h = bnd (cells? a0) fun c1 => bnd (cells? a1) fun c2 => bnd (aloadN (((h ++ [some (Row.mk (c1) true)]) ++ [some (Row.mk (c2) true)])) 3 ((.c (.p h.length 0)))) fun v3 => bnd (S_super_Put [v3] (((h ++ [some (Row.mk (c1) true)]) ++ [some (Row.mk (c2) true)]))) fun p4 => bnd (aext p4.1 0) fun v5 => bnd (aext p4.1 1) fun v6 => bnd (astoreN ((p4.2 ++ [some (Row.mk (List.replicate 256 (.i .u8 0)) true)])) 256 ((.c (.p p4.2.length 0))) v5) fun h7 => bnd (aloadN h7 3 ((.c (.p ((h ++ [some (Row.mk (c1) true)])).length 0)))) fun v8 => bnd (S_super_Put [v8] h7) fun p9 => bnd (aext p9.1 0) fun v10 => bnd (aext p9.1 1) fun v11 => bnd (astoreN ((p9.2 ++ [some (Row.mk (List.replicate 256 (.i .u8 0)) true)])) 256 ((.c (.p p9.2.length 0))) v10) fun h12 => bnd (abin .neq v6 (.c (.i .i64 0))) fun v13 => bnd (gd v13 false (some (v11, h12)) (some (.no, h12))) fun p14 => bnd (gd v13 false (bnd (abin .neq p14.1 (.c (.i .i64 0))) fun v15 => some (v15, p14.2)) (some (.no, p14.2))) fun p16 => bnd (apick v13 (.c (.b true)) p16.1) fun v17 => cnd v17 (bnd (S_escheatlaw14_works [] p16.2) fun p18 => some (p18.1, p18.2)) (bnd (aloadN p16.2 256 ((.c (.p p4.2.length 0)))) fun v19 => bnd (aloadN p16.2 256 ((.c (.p p9.2.length 0)))) fun v20 => bnd (aeq false (List.replicate 256 (.i .u8)) v19 v20) fun v21 => bnd (aloadN p16.2 3 ((.c (.p h.length 0)))) fun v22 => bnd (aloadN p16.2 3 ((.c (.p ((h ++ [some (Row.mk (c1) true)])).length 0)))) fun v23 => bnd (quiet ((p16.2 ++ [])) (S_super_Same [v22, v23] ((p16.2 ++ [])))) fun p24 => bnd (aeqB false v21 p24.1) fun v25 => bnd (gd v25 true (bnd (S_escheatlaw14_works [] p24.2) fun p26 => some (p26.1, p26.2)) (some (.no, p24.2))) fun p27 => bnd (apick v25 p27.1 (.c (.b false))) fun v28 => some (v28, p27.2)) := by kernel_rfl
theorem chk_escheatlaw14_SuperApart : chkFn Try.prog Try.f27 A_escheatlaw14_SuperApart = true := by kernel_rfl
theorem E_escheatlaw14_SuperApart_sound : Sound Try.prog E_escheatlaw14_SuperApart := by
  intro f args h v h2 he
  unfold E_escheatlaw14_SuperApart at he
  cases hb0 : Nat.beq f 120 with
  | true => rw [hb0] at he; have e := Nat.eq_of_beq_eq_true hb0; subst e; exact S_super_Put_ok args h v h2 he
  | false =>
    rw [hb0] at he; simp only [cond_false] at he
    cases hb1 : Nat.beq f 119 with
    | true => rw [hb1] at he; have e := Nat.eq_of_beq_eq_true hb1; subst e; exact S_escheatlaw14_works_ok args h v h2 he
    | false =>
      rw [hb1] at he; simp only [cond_false] at he
      cases hb2 : Nat.beq f 122 with
      | true => rw [hb2] at he; have e := Nat.eq_of_beq_eq_true hb2; subst e; exact S_super_Same_ok args h v h2 he
      | false =>
        rw [hb2] at he; simp only [cond_false] at he
        cases he

theorem R_escheatlaw14_SuperApart_ok {n : Nat} {args : List Val} {h h2 : Heap} {v : Val} (he : R_escheatlaw14_SuperApart n args h = some (v, h2)) : Callable Try.prog 27 ∧ CallOk Try.prog 27 args h v h2 ∧ h.length ≤ h2.length := fn_ok E_escheatlaw14_SuperApart_sound Try.func27 chk_escheatlaw14_SuperApart ((R_escheatlaw14_SuperApart_run ..).trans he)
theorem L_escheatlaw14_SuperApart_ok (args : List Val) (h : Heap) (v : Val) (h2 : Heap) (he : Lim A_escheatlaw14_SuperApart E_escheatlaw14_SuperApart args h = some (v, h2)) : Callable Try.prog 27 ∧ CallOk Try.prog 27 args h v h2 ∧ h.length ≤ h2.length := (Lim_run he).elim fun _ e => R_escheatlaw14_SuperApart_ok ((R_escheatlaw14_SuperApart_run ..).symm.trans e)
theorem L_escheatlaw14_SuperApart_of {n : Nat} {args : List Val} {h : Heap} {p : Val × Heap} (he : R_escheatlaw14_SuperApart n args h = some p) : Lim A_escheatlaw14_SuperApart E_escheatlaw14_SuperApart args h = some p := Lim_of ((R_escheatlaw14_SuperApart_run ..).trans he)
noncomputable def S_escheatlaw14_SuperApart : List Val → Heap → Option (Val × Heap) := tidy (Lim A_escheatlaw14_SuperApart E_escheatlaw14_SuperApart)
theorem S_escheatlaw14_SuperApart_ok (args : List Val) (h : Heap) (v : Val) (h2 : Heap) (he : S_escheatlaw14_SuperApart args h = some (v, h2)) : Callable Try.prog 27 ∧ CallOk Try.prog 27 args h v h2 ∧ h.length ≤ h2.length := tidy_ok L_escheatlaw14_SuperApart_ok args h v h2 he
theorem S_escheatlaw14_SuperApart_flat {n : Nat} {args : List Val} {h h2 : Heap} {v : Val} (he : R_escheatlaw14_SuperApart n args (ro h) = some (v, h2)) (hf : v.flat = true) : S_escheatlaw14_SuperApart args h = some (v, h) := tidy_flat (L_escheatlaw14_SuperApart_of he) hf
theorem S_escheatlaw14_SuperApart_low {n : Nat} {args : List Val} {h h2 : Heap} {v : Val} (he : R_escheatlaw14_SuperApart n args (ro h) = some (v, h2)) (hf : v.low h.length = true) : S_escheatlaw14_SuperApart args h = some (v, h) := tidy_low (L_escheatlaw14_SuperApart_of he) hf
theorem S_escheatlaw14_SuperApart_out {n : Nat} {args : List Val} {h h2 : Heap} {v : Val} {sz k : Nat} {cs : List Cell} (he : R_escheatlaw14_SuperApart n args (ro h) = some (v, h2)) (ho : Out h.length h2 v sz k cs) (hf : flats cs = true) : S_escheatlaw14_SuperApart args h = some (.c (.sl h.length 0 k sz), h ++ [some ⟨cs, true⟩]) := tidy_out (L_escheatlaw14_SuperApart_of he) ho hf
theorem S_escheatlaw14_SuperApart_tidy {n : Nat} {args : List Val} {h h2 : Heap} {v v2 : Val} {ids : List Nat} (he : R_escheatlaw14_SuperApart n args (ro h) = some (v, h2)) (hc : canonV h2 h.length v = some (v2, ids)) : S_escheatlaw14_SuperApart args h = some (v2, h ++ ids.map (rd h2)) := tidy_of (L_escheatlaw14_SuperApart_of he) hc
end Go.Proofs.Ytbbkpmbepljhkaa
