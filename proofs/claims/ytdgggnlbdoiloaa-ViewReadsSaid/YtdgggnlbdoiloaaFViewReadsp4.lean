/- What the proof of this claim leans on, part 4. -/
import Derived.Test.YtdgggnlbdoiloaaFViewReadsp3
set_option linter.all false
section
namespace Go.Proofs.Ytdgggnlbdoiloaa
open Go Go.Esc
set_option maxRecDepth 100000
def escheatref15_Is_o0 : List AOper := [{ dst := some 2, op := .box (.t 0) }, { dst := some 4, op := .mv (.v (.c (.b false))) }]
def escheatref15_Is_c0 : ACode := .ops escheatref15_Is_o0
def escheatref15_Is_o1 : List AOper := [{ dst := some 5, op := .loadN 3 (.t 2) }, { dst := some 6, op := .call 41 [(.t 5)] }, { dst := some 7, op := .mv (.t 6) }, { dst := some 8, op := .mv (.t 1), guard := some (7, true) }, { dst := some 9, op := .bin .geq (.t 8) (.v (.c (.i .i64 1))), guard := some (7, true) }, { dst := some 10, op := .pick (.t 7) (.t 9) (.v (.c (.b false))) }, { dst := some 11, op := .mv (.t 10) }, { dst := some 12, op := .mv (.t 1), guard := some (11, true) }, { dst := some 13, op := .fAddr (.t 2) 1, guard := some (11, true) }, { dst := some 14, op := .load1 (.t 13), guard := some (11, true) }, { dst := some 15, op := .bin .leq (.t 12) (.t 14), guard := some (11, true) }, { dst := some 16, op := .pick (.t 11) (.t 15) (.v (.c (.b false))) }, { dst := some 4, op := .mv (.t 16) }]
def escheatref15_Is_c1 : ACode := .ops escheatref15_Is_o1
def escheatref15_Is_c2 : ACode := .seq [4] escheatref15_Is_c1 .ret
def escheatref15_Is_c3 : ACode := .seq [1, 2] escheatref15_Is_c0 escheatref15_Is_c2
def A_escheatref15_Is : AFn := ⟨escheatref15_Is_c3, [.tmp 4]⟩
noncomputable def E_escheatref15_Is : Sums := disp 41 S_escheatref14_May disp0
noncomputable def escheatref15_Is_c0_d (n : Nat) : SmV := smOps E_escheatref15_Is escheatref15_Is_o0
noncomputable def escheatref15_Is_c1_d (n : Nat) : SmV := smOps E_escheatref15_Is escheatref15_Is_o1
noncomputable def escheatref15_Is_c2_d (n : Nat) : SmV := smSeq [4] (escheatref15_Is_c1_d n) smRet
noncomputable def escheatref15_Is_c3_d (n : Nat) : SmV := smSeq [1, 2] (escheatref15_Is_c0_d n) (escheatref15_Is_c2_d n)
noncomputable def R_escheatref15_Is (n : Nat) (args : List Val) (h : Heap) : OptV := (escheatref15_Is_c3_d n) A_escheatref15_Is.fin (params 0 args) h
theorem R_escheatref15_Is_eq (n : Nat) (a0 a1 : Val) (h : Heap) : R_escheatref15_Is n [a0, a1] h = bnd (cells? a0) fun c1 => bnd (aloadN ((h ++ [some (Row.mk (c1) true)])) 3 ((.c (.p h.length 0)))) fun v2 => bnd (S_escheatref14_May [v2] ((h ++ [some (Row.mk (c1) true)]))) fun p3 => bnd (gd p3.1 true (some (a1, p3.2)) (some (.no, p3.2))) fun p4 => bnd (gd p3.1 true (bnd (abin .geq p4.1 (.c (.i .i64 1))) fun v5 => some (v5, p4.2)) (some (.no, p4.2))) fun p6 => bnd (apick p3.1 p6.1 (.c (.b false))) fun v7 => bnd (gd v7 true (some (a1, p6.2)) (some (.no, p6.2))) fun p8 => bnd (gd v7 true (bnd (afAddr ((.c (.p h.length 0))) 1) fun v9 => some (v9, p8.2)) (some (.no, p8.2))) fun p10 => bnd (gd v7 true (bnd (aload1 p10.2 p10.1) fun v11 => some (v11, p10.2)) (some (.no, p10.2))) fun p12 => bnd (gd v7 true (bnd (abin .leq p8.1 p12.1) fun v13 => some (v13, p12.2)) (some (.no, p12.2))) fun p14 => bnd (apick v7 p14.1 (.c (.b false))) fun v15 => some (v15, p14.2) := by kernel_rfl
theorem K_escheatref15_Is : FnK Try.prog 114 A_escheatref15_Is E_escheatref15_Is R_escheatref15_Is := .mk' (sound1 S_escheatref14_May_ok sound0) Try.func114 (by kernel_rfl) (by intro n args h; kernel_rfl)
noncomputable def S_escheatref15_Is : Fun := tidy (Lim A_escheatref15_Is E_escheatref15_Is)
theorem S_escheatref15_Is_ok : SOk Try.prog 114 S_escheatref15_Is := K_escheatref15_Is.sok
theorem S_escheatref15_Is_flat {n : Nat} {args : List Val} {h h2 : Heap} {v : Val} (he : R_escheatref15_Is n args (ro h) = some (v, h2)) (hf : v.flat = true) : S_escheatref15_Is args h = some (v, h) := K_escheatref15_Is.flat he hf
def escheatref15_Where_o0 : List AOper := [{ dst := some 2, op := .box (.t 0) }, { dst := some 4, op := .mv (.v (.c (.i .i64 0))) }, { dst := some 5, op := .mv (.v (.c (.i .i64 0))) }, { dst := some 6, op := .mv (.v (.c (.b false))) }]
def escheatref15_Where_c0 : ACode := .ops escheatref15_Where_o0
def escheatref15_Where_o1 : List AOper := [{ dst := some 10, op := .loadN 3 (.t 2) }, { dst := some 11, op := .mv (.t 1) }, { dst := some 12, op := .call 114 [(.t 10), (.t 11)] }, { dst := some 13, op := .un .not (.t 12) }]
def escheatref15_Where_c1 : ACode := .ops escheatref15_Where_o1
def escheatref15_Where_o2 : List AOper := [{ dst := some 4, op := .mv (.v (.c (.i .i64 0))) }, { dst := some 5, op := .mv (.v (.c (.i .i64 0))) }, { dst := some 6, op := .mv (.v (.c (.b false))) }]
def escheatref15_Where_c2 : ACode := .ops escheatref15_Where_o2
def escheatref15_Where_c3 : ACode := .seq [4, 5, 6] escheatref15_Where_c2 .ret
def escheatref15_Where_c4 : ACode := .cond (.t 13) escheatref15_Where_c3 .skip
def escheatref15_Where_c5 : ACode := .seq [1, 13] escheatref15_Where_c1 escheatref15_Where_c4
def escheatref15_Where_o3 : List AOper := [{ dst := some 7, op := .mv (.v (.c (.i .i64 2))) }, { dst := some 8, op := .mv (.v (.c (.i .i64 0))) }]
def escheatref15_Where_c6 : ACode := .ops escheatref15_Where_o3
def escheatref15_Where_o4 : List AOper := [{ dst := some 9, op := .mv (.v (.c (.i .i64 1))) }]
def escheatref15_Where_c7 : ACode := .ops escheatref15_Where_o4
def escheatref15_Where_o5 : List AOper := [{ dst := some 14, op := .mv (.t 9) }, { dst := some 15, op := .mv (.t 1) }, { dst := some 16, op := .bin .lss (.t 14) (.t 15) }]
def escheatref15_Where_c8 : ACode := .ops escheatref15_Where_o5
def escheatref15_Where_c9 : ACode := .cond (.t 16) .skip (.exit 0)
def escheatref15_Where_c10 : ACode := .seq [1, 7, 8, 9, 16] escheatref15_Where_c8 escheatref15_Where_c9
def escheatref15_Where_o6 : List AOper := [{ dst := some 19, op := .mv (.t 8) }, { dst := some 20, op := .bin .add (.t 19) (.v (.c (.i .i64 1))) }, { dst := some 8, op := .mv (.t 20) }]
def escheatref15_Where_c11 : ACode := .ops escheatref15_Where_o6
def escheatref15_Where_o7 : List AOper := [{ dst := some 21, op := .mv (.t 8) }, { dst := some 22, op := .bin .eql (.t 21) (.v (.c (.i .i64 8))) }]
def escheatref15_Where_c12 : ACode := .ops escheatref15_Where_o7
def escheatref15_Where_o8 : List AOper := [{ dst := some 23, op := .mv (.t 7) }, { dst := some 24, op := .bin .add (.t 23) (.v (.c (.i .i64 1))) }, { dst := some 7, op := .mv (.t 24) }, { dst := some 8, op := .mv (.v (.c (.i .i64 0))) }]
def escheatref15_Where_c13 : ACode := .ops escheatref15_Where_o8
def escheatref15_Where_c14 : ACode := .cond (.t 22) escheatref15_Where_c13 .skip
def escheatref15_Where_c15 : ACode := .seq [1, 7, 8, 9, 22] escheatref15_Where_c12 escheatref15_Where_c14
def escheatref15_Where_c16 : ACode := .seq [1, 7, 8, 9] escheatref15_Where_c11 escheatref15_Where_c15
def escheatref15_Where_c17 : ACode := .block 1 escheatref15_Where_c16
def escheatref15_Where_o9 : List AOper := [{ dst := some 17, op := .mv (.t 9) }, { dst := some 18, op := .bin .add (.t 17) (.v (.c (.i .i64 1))) }, { dst := some 9, op := .mv (.t 18) }]
def escheatref15_Where_c18 : ACode := .ops escheatref15_Where_o9
def escheatref15_Where_c19 : ACode := .seq [1, 7, 8, 9] escheatref15_Where_c17 escheatref15_Where_c18
def escheatref15_Where_c20 : ACode := .seq [1, 7, 8, 9] escheatref15_Where_c10 escheatref15_Where_c19
def escheatref15_Where_c21 : ACode := .loop [1, 7, 8, 9] escheatref15_Where_c20
def escheatref15_Where_c22 : ACode := .block 0 escheatref15_Where_c21
def escheatref15_Where_c23 : ACode := .seq [1, 7, 8, 9] escheatref15_Where_c7 escheatref15_Where_c22
def escheatref15_Where_o10 : List AOper := [{ dst := some 25, op := .mv (.t 7) }, { dst := some 26, op := .mv (.t 8) }, { dst := some 4, op := .mv (.t 25) }, { dst := some 5, op := .mv (.t 26) }, { dst := some 6, op := .mv (.v (.c (.b true))) }]
def escheatref15_Where_c24 : ACode := .ops escheatref15_Where_o10
def escheatref15_Where_c25 : ACode := .seq [4, 5, 6] escheatref15_Where_c24 .ret
def escheatref15_Where_c26 : ACode := .seq [7, 8] escheatref15_Where_c23 escheatref15_Where_c25
def escheatref15_Where_c27 : ACode := .seq [1, 7, 8] escheatref15_Where_c6 escheatref15_Where_c26
def escheatref15_Where_c28 : ACode := .seq [1] escheatref15_Where_c5 escheatref15_Where_c27
def escheatref15_Where_c29 : ACode := .seq [1, 2] escheatref15_Where_c0 escheatref15_Where_c28
def A_escheatref15_Where : AFn := ⟨escheatref15_Where_c29, [.tmp 4, .tmp 5, .tmp 6]⟩
noncomputable def E_escheatref15_Where : Sums := disp 114 S_escheatref15_Is disp0
noncomputable def escheatref15_Where_c0_d (n : Nat) : SmV := smOps E_escheatref15_Where escheatref15_Where_o0
noncomputable def escheatref15_Where_c1_d (n : Nat) : SmV := smOps E_escheatref15_Where escheatref15_Where_o1
noncomputable def escheatref15_Where_c2_d (n : Nat) : SmV := smOps E_escheatref15_Where escheatref15_Where_o2
noncomputable def escheatref15_Where_c3_d (n : Nat) : SmV := smSeq [4, 5, 6] (escheatref15_Where_c2_d n) smRet
noncomputable def escheatref15_Where_c4_d (n : Nat) : SmV := smCond (.t 13) (escheatref15_Where_c3_d n) smSkip
noncomputable def escheatref15_Where_c5_d (n : Nat) : SmV := smSeq [1, 13] (escheatref15_Where_c1_d n) (escheatref15_Where_c4_d n)
noncomputable def escheatref15_Where_c6_d (n : Nat) : SmV := smOps E_escheatref15_Where escheatref15_Where_o3
noncomputable def escheatref15_Where_c7_d (n : Nat) : SmV := smOps E_escheatref15_Where escheatref15_Where_o4
noncomputable def escheatref15_Where_c8_d (n : Nat) : SmV := smOps E_escheatref15_Where escheatref15_Where_o5
noncomputable def escheatref15_Where_c9_d (n : Nat) : SmV := smCond (.t 16) smSkip (smExit 0)
noncomputable def escheatref15_Where_c10_d (n : Nat) : SmV := smSeq [1, 7, 8, 9, 16] (escheatref15_Where_c8_d n) (escheatref15_Where_c9_d n)
noncomputable def escheatref15_Where_c11_d (n : Nat) : SmV := smOps E_escheatref15_Where escheatref15_Where_o6
noncomputable def escheatref15_Where_c12_d (n : Nat) : SmV := smOps E_escheatref15_Where escheatref15_Where_o7
noncomputable def escheatref15_Where_c13_d (n : Nat) : SmV := smOps E_escheatref15_Where escheatref15_Where_o8
noncomputable def escheatref15_Where_c14_d (n : Nat) : SmV := smCond (.t 22) (escheatref15_Where_c13_d n) smSkip
noncomputable def escheatref15_Where_c15_d (n : Nat) : SmV := smSeq [1, 7, 8, 9, 22] (escheatref15_Where_c12_d n) (escheatref15_Where_c14_d n)
noncomputable def escheatref15_Where_c16_d (n : Nat) : SmV := smSeq [1, 7, 8, 9] (escheatref15_Where_c11_d n) (escheatref15_Where_c15_d n)
noncomputable def escheatref15_Where_c17_d (n : Nat) : SmV := smBlock 1 (escheatref15_Where_c16_d n)
noncomputable def escheatref15_Where_c18_d (n : Nat) : SmV := smOps E_escheatref15_Where escheatref15_Where_o9
noncomputable def escheatref15_Where_c19_d (n : Nat) : SmV := smSeq [1, 7, 8, 9] (escheatref15_Where_c17_d n) (escheatref15_Where_c18_d n)
noncomputable def escheatref15_Where_c20_d (n : Nat) : SmV := smSeq [1, 7, 8, 9] (escheatref15_Where_c10_d n) (escheatref15_Where_c19_d n)
noncomputable def escheatref15_Where_c21_d (n : Nat) : SmV := smLoop n [1, 7, 8, 9] (escheatref15_Where_c20_d n)
noncomputable def escheatref15_Where_c22_d (n : Nat) : SmV := smBlock 0 (escheatref15_Where_c21_d n)
noncomputable def escheatref15_Where_c23_d (n : Nat) : SmV := smSeq [1, 7, 8, 9] (escheatref15_Where_c7_d n) (escheatref15_Where_c22_d n)
noncomputable def escheatref15_Where_c24_d (n : Nat) : SmV := smOps E_escheatref15_Where escheatref15_Where_o10
noncomputable def escheatref15_Where_c25_d (n : Nat) : SmV := smSeq [4, 5, 6] (escheatref15_Where_c24_d n) smRet
noncomputable def escheatref15_Where_c26_d (n : Nat) : SmV := smSeq [7, 8] (escheatref15_Where_c23_d n) (escheatref15_Where_c25_d n)
noncomputable def escheatref15_Where_c27_d (n : Nat) : SmV := smSeq [1, 7, 8] (escheatref15_Where_c6_d n) (escheatref15_Where_c26_d n)
noncomputable def escheatref15_Where_c28_d (n : Nat) : SmV := smSeq [1] (escheatref15_Where_c5_d n) (escheatref15_Where_c27_d n)
noncomputable def escheatref15_Where_c29_d (n : Nat) : SmV := smSeq [1, 2] (escheatref15_Where_c0_d n) (escheatref15_Where_c28_d n)
noncomputable def escheatref15_Where_k0 (n : Nat) : AExit → Env → Heap → OptV := fun x e h => match x with | .normal => hold ((escheatref15_Where_c25_d n) A_escheatref15_Where.fin (e.keep [7, 8]) h) | .exit id => A_escheatref15_Where.fin (.exit id) e h | .ret => A_escheatref15_Where.fin .ret e h
noncomputable def escheatref15_Where_k1 (n : Nat) : AExit → Env → Heap → OptV := fun x e h => match x with | .exit i => bif Nat.beq i 0 then (escheatref15_Where_k0 n) .normal e h else (escheatref15_Where_k0 n) (.exit i) e h | .normal => (escheatref15_Where_k0 n) .normal e h | .ret => (escheatref15_Where_k0 n) .ret e h
noncomputable def escheatref15_Where_l0 (n m : Nat) (x1 x7 x8 x9 : Val) (h : Heap) : OptV := around (escheatref15_Where_c20_d n) [1, 7, 8, 9] (escheatref15_Where_k1 n) m [(1, x1), (7, x7), (8, x8), (9, x9)] h
noncomputable def R_escheatref15_Where (n : Nat) (args : List Val) (h : Heap) : OptV := (escheatref15_Where_c29_d n) A_escheatref15_Where.fin (params 0 args) h
noncomputable def escheatref15_Where_k2 (n m : Nat) : AExit → Env → Heap → OptV := fun x e h => match x with | .normal => around (escheatref15_Where_c20_d n) [1, 7, 8, 9] (escheatref15_Where_k1 n) m (e.keep [1, 7, 8, 9]) h | .exit id => (escheatref15_Where_k1 n) (.exit id) e h | .ret => (escheatref15_Where_k1 n) .ret e h
noncomputable def escheatref15_Where_j0 (n m : Nat) (x1 x7 x8 x9 : Val) (h : Heap) : OptV := hold ((escheatref15_Where_c18_d n) (escheatref15_Where_k2 n m) [(1, x1), (7, x7), (8, x8), (9, x9)] h)
theorem R_escheatref15_Where_eq (n : Nat) (a0 a1 : Val) (h : Heap) : R_escheatref15_Where n [a0, a1] h = bnd (cells? a0) fun c1 => bnd (aloadN ((h ++ [some (Row.mk (c1) true)])) 3 ((.c (.p h.length 0)))) fun v2 => bnd (S_escheatref15_Is [v2, a1] ((h ++ [some (Row.mk (c1) true)]))) fun p3 => bnd (aun .not p3.1) fun v4 => cnd v4 (tupN [some (.c (.i .i64 0)), some (.c (.i .i64 0)), some (.c (.b false))] p3.2) (escheatref15_Where_l0 n n a1 (.c (.i .i64 2)) (.c (.i .i64 0)) (.c (.i .i64 1)) p3.2) := by kernel_rfl
theorem escheatref15_Where_l0_eq (n m : Nat) (x1 x7 x8 x9 : Val) (h : Heap) : escheatref15_Where_l0 n (m + 1) x1 x7 x8 x9 h = bnd (abin .lss x9 x1) fun v5 => cnd v5 (bnd (abin .add x8 (.c (.i .i64 1))) fun v6 => bnd (abin .eql v6 (.c (.i .i64 8))) fun v7 => cnd v7 (bnd (abin .add x7 (.c (.i .i64 1))) fun v8 => escheatref15_Where_j0 n m x1 v8 (.c (.i .i64 0)) x9 h) (escheatref15_Where_j0 n m x1 x7 v6 x9 h)) (tupN [some x7, some x8, some (.c (.b true))] h) := by kernel_rfl
theorem escheatref15_Where_j0_eq (n m : Nat) (x1 x7 x8 x9 : Val) (h : Heap) : escheatref15_Where_j0 n m x1 x7 x8 x9 h = bnd (abin .add x9 (.c (.i .i64 1))) fun v9 => escheatref15_Where_l0 n m x1 x7 x8 v9 h := by kernel_rfl
theorem K_escheatref15_Where : FnK Try.prog 73 A_escheatref15_Where E_escheatref15_Where R_escheatref15_Where := .mk' (sound1 S_escheatref15_Is_ok sound0) Try.func73 (by kernel_rfl) (by intro n args h; kernel_rfl)
noncomputable def S_escheatref15_Where : Fun := tidy (Lim A_escheatref15_Where E_escheatref15_Where)
theorem S_escheatref15_Where_ok : SOk Try.prog 73 S_escheatref15_Where := K_escheatref15_Where.sok
theorem S_escheatref15_Where_flat {n : Nat} {args : List Val} {h h2 : Heap} {v : Val} (he : R_escheatref15_Where n args (ro h) = some (v, h2)) (hf : v.flat = true) : S_escheatref15_Where args h = some (v, h) := K_escheatref15_Where.flat he hf
end Go.Proofs.Ytdgggnlbdoiloaa
end
section
namespace Go.Proofs.Ytdgggnlbdoiloaa
open Go Go.Esc

def mayL (b n : Int) : Bool := decide (16 ≤ b) && decide (b ≤ 512) && decide (8 ≤ n) && decide (n ≤ 128) && decide (n % 8 = 0) && decide (2 + n / 8 < b)

theorem mayL_true {b n : Int} : mayL b n = true ↔ 16 ≤ b ∧ b ≤ 512 ∧ 8 ≤ n ∧ n ≤ 128 ∧ n % 8 = 0 ∧ 2 + n / 8 < b := by
  unfold mayL; simp [and_assoc]
theorem mayL_false {b n : Int} : mayL b n = false ↔ ¬ (16 ≤ b ∧ b ≤ 512 ∧ 8 ≤ n ∧ n ≤ 128 ∧ n % 8 = 0 ∧ 2 + n / 8 < b) := by
  rw [← mayL_true]; simp

abbrev layC (b n m : Int) : List Cell := [.i .i64 b, .i .i64 n, .i .u64 m]

theorem super_Check_eq {b n m : Int} {h : Heap} : S_super_Check [.a (layC b n m)] h = some (.c (.i .i64 (bif mayL b n then 0 else 1)), h) := by
  have key : ∀ g, ∃ g', R_super_Check 0 [.a (layC b n m)] g = some (.c (.i .i64 (bif mayL b n then 0 else 1)), g') := by
    intro g
    rw [R_super_Check_eq]
    have bad : mayL b n = false → (some (Val.c (.i .i64 1), g ++ [some ⟨layC b n m, true⟩])) = some (.c (.i .i64 (bif mayL b n then 0 else 1)), g ++ [some ⟨layC b n m, true⟩]) := fun h => by rw [h]; rfl
    by_cases c1 : b < 16
    · rw [mayL_false.2 (by omega)]
      exact ⟨_, by simp only [esc, esh, Nat.reduceAdd, Nat.reduceMul, Nat.reduceLT, c1, super_Check_j0_eq] <;> rfl⟩
    · by_cases c2 : 512 < b
      · rw [mayL_false.2 (by omega)]
        exact ⟨_, by simp only [esc, esh, Nat.reduceAdd, Nat.reduceMul, Nat.reduceLT, c1, c2, super_Check_j0_eq] <;> rfl⟩
      · by_cases c3 : n < 8
        · rw [mayL_false.2 (by omega)]
          exact ⟨_, by simp only [esc, esh, Nat.reduceAdd, Nat.reduceMul, Nat.reduceLT, c1, c2, c3, super_Check_j0_eq, super_Check_j1_eq] <;> rfl⟩
        · by_cases c4 : 128 < n
          · rw [mayL_false.2 (by omega)]
            exact ⟨_, by simp only [esc, esh, Nat.reduceAdd, Nat.reduceMul, Nat.reduceLT, c1, c2, c3, c4, super_Check_j0_eq, super_Check_j1_eq] <;> rfl⟩
          · have e1 := rem_i (a := n) (b := 8) (k := .i64) (by omega) (by omega)
            by_cases c5 : n % 8 = 0
            · have e2 := quo_i64 (a := n) (b := 8) (by omega) (by omega) (by omega)
              have e3 : IntKind.wrap .i64 (2 + n / 8) = 2 + n / 8 := wrap_i64 (by omega) (by omega)
              by_cases c6 : b ≤ 2 + n / 8
              · rw [mayL_false.2 (by omega)]
                exact ⟨_, by simp only [esc, esh, Nat.reduceAdd, Nat.reduceMul, Nat.reduceLT, c1, c2, c3, c4, e1, c5, e2, e3, c6, super_Check_j0_eq, super_Check_j1_eq] <;> rfl⟩
              · rw [mayL_true.2 (by omega)]
                exact ⟨_, by simp only [esc, esh, Nat.reduceAdd, Nat.reduceMul, Nat.reduceLT, c1, c2, c3, c4, e1, c5, e2, e3, c6, super_Check_j0_eq, super_Check_j1_eq] <;> rfl⟩
            · rw [mayL_false.2 (by omega)]
              exact ⟨_, by simp only [esc, esh, Nat.reduceAdd, Nat.reduceMul, Nat.reduceLT, c1, c2, c3, c4, e1, c5, super_Check_j0_eq, super_Check_j1_eq] <;> rfl⟩
  obtain ⟨g', e⟩ := key (ro h)
  exact S_super_Check_flat e (by simp)

theorem ref14_May_eq {b n m : Int} {h : Heap} : S_escheatref14_May [.a (layC b n m)] h = some (.c (.b (mayL b n)), h) := by
  have key : ∀ g, ∃ g', R_escheatref14_May 0 [.a (layC b n m)] g = some (.c (.b (mayL b n)), g') := by
    intro g
    rw [R_escheatref14_May_eq]
    by_cases c1 : 16 ≤ b
    · by_cases c2 : b ≤ 512
      · by_cases c3 : 8 ≤ n
        · by_cases c4 : n ≤ 128
          · have e1 := rem_i (a := n) (b := 8) (k := .i64) (by omega) (by omega)
            by_cases c5 : n % 8 = 0
            · have e2 := quo_i64 (a := n) (b := 8) (by omega) (by omega) (by omega)
              have e3 : IntKind.wrap .i64 (2 + n / 8) = 2 + n / 8 := wrap_i64 (by omega) (by omega)
              by_cases c6 : 2 + n / 8 < b
              · rw [mayL_true.2 (by omega)]
                exact ⟨_, by simp only [esc, esh, Nat.reduceAdd, Nat.reduceMul, Nat.reduceLT, c1, c2, c3, c4, e1, c5, e2, e3, c6] <;> rfl⟩
              · rw [mayL_false.2 (by omega)]
                exact ⟨_, by simp only [esc, esh, Nat.reduceAdd, Nat.reduceMul, Nat.reduceLT, c1, c2, c3, c4, e1, c5, e2, e3, c6] <;> rfl⟩
            · rw [mayL_false.2 (by omega)]
              exact ⟨_, by simp only [esc, esh, Nat.reduceAdd, Nat.reduceMul, Nat.reduceLT, c1, c2, c3, c4, e1, c5] <;> rfl⟩
          · rw [mayL_false.2 (by omega)]
            exact ⟨_, by simp only [esc, esh, Nat.reduceAdd, Nat.reduceMul, Nat.reduceLT, c1, c2, c3, c4] <;> rfl⟩
        · rw [mayL_false.2 (by omega)]
          exact ⟨_, by simp only [esc, esh, Nat.reduceAdd, Nat.reduceMul, Nat.reduceLT, c1, c2, c3] <;> rfl⟩
      · rw [mayL_false.2 (by omega)]
        exact ⟨_, by simp only [esc, esh, Nat.reduceAdd, Nat.reduceMul, Nat.reduceLT, c1, c2] <;> rfl⟩
    · rw [mayL_false.2 (by omega)]
      exact ⟨_, by simp only [esc, esh, Nat.reduceAdd, Nat.reduceMul, Nat.reduceLT, c1] <;> rfl⟩
  obtain ⟨g', e⟩ := key (ro h)
  exact S_escheatref14_May_flat e (by simp)

theorem geom_ok_eq {b n m : Int} {h : Heap} : S_geom_ok [.a (layC b n m)] h = some (.c (.b (mayL b n)), h) := by
  have key : ∀ g, ∃ g', R_geom_ok 0 [.a (layC b n m)] g = some (.c (.b (mayL b n)), g') := by
    intro g
    rw [R_geom_ok_eq]
    cases c : mayL b n with
    | true => exact ⟨_, by simp only [esc, esh, Nat.reduceAdd, Nat.reduceMul, Nat.reduceLT, super_Check_eq, c] <;> rfl⟩
    | false => exact ⟨_, by simp only [esc, esh, Nat.reduceAdd, Nat.reduceMul, Nat.reduceLT, super_Check_eq, c, Int.reduceEq] <;> rfl⟩
  obtain ⟨g', e⟩ := key (ro h)
  exact S_geom_ok_flat e (by simp)

theorem geom_Map_eq {h : Heap} : S_geom_Map [] h = some (.c (.i .i64 1), h) :=
  S_geom_Map_flat (n := 0) (h2 := ro h) (by rw [R_geom_Map_eq]) rfl

def tabF (b n : Int) : Int := bif mayL b n then 2 else 0
def tabN (b n : Int) : Int := bif mayL b n then n / 8 else 0
theorem geom_Table_eq {b n m : Int} {h : Heap} : S_geom_Table [.a (layC b n m)] h = some (.t [.c (.i .i64 (tabF b n)), .c (.i .i64 (tabN b n))], h) := by
  have key : ∀ g, ∃ g', R_geom_Table 0 [.a (layC b n m)] g = some (.t [.c (.i .i64 (tabF b n)), .c (.i .i64 (tabN b n))], g') := by
    intro g
    rw [R_geom_Table_eq]
    unfold tabF tabN
    cases c : mayL b n with
    | true =>
      have c' := mayL_true.1 c
      have e2 := quo_i64 (a := n) (b := 8) (by omega) (by omega) (by omega)
      have e3 : IntKind.wrap .i64 (1 + 1) = 2 := wrap_i64 (by omega) (by omega)
      exact ⟨_, by simp only [esc, esh, Nat.reduceAdd, Nat.reduceMul, Nat.reduceLT, geom_ok_eq, c, geom_Map_eq, e2, e3] <;> rfl⟩
    | false => exact ⟨_, by simp only [esc, esh, Nat.reduceAdd, Nat.reduceMul, Nat.reduceLT, geom_ok_eq, c] <;> rfl⟩
  obtain ⟨g', e⟩ := key (ro h)
  exact S_geom_Table_flat e (by simp)

def isInoL (b n i : Int) : Bool := mayL b n && decide (1 ≤ i) && decide (i ≤ n)
theorem geom_IsInode_eq {b n m i : Int} {h : Heap} : S_geom_IsInode [.a (layC b n m), .c (.i .i64 i)] h = some (.c (.b (isInoL b n i)), h) := by
  have key : ∀ g, ∃ g', R_geom_IsInode 0 [.a (layC b n m), .c (.i .i64 i)] g = some (.c (.b (isInoL b n i)), g') := by
    intro g
    rw [R_geom_IsInode_eq]
    unfold isInoL
    cases c : mayL b n with
    | true =>
      by_cases c1 : 1 ≤ i
      · exact ⟨_, by simp only [esc, esh, Nat.reduceAdd, Nat.reduceMul, Nat.reduceLT, geom_ok_eq, c, c1] <;> rfl⟩
      · exact ⟨_, by simp only [esc, esh, Nat.reduceAdd, Nat.reduceMul, Nat.reduceLT, geom_ok_eq, c, c1] <;> rfl⟩
    | false => exact ⟨_, by simp only [esc, esh, Nat.reduceAdd, Nat.reduceMul, Nat.reduceLT, geom_ok_eq, c] <;> rfl⟩
  obtain ⟨g', e⟩ := key (ro h)
  exact S_geom_IsInode_flat e (by simp)

theorem ref15_Is_eq {b n m i : Int} {h : Heap} : S_escheatref15_Is [.a (layC b n m), .c (.i .i64 i)] h = some (.c (.b (isInoL b n i)), h) := by
  have key : ∀ g, ∃ g', R_escheatref15_Is 0 [.a (layC b n m), .c (.i .i64 i)] g = some (.c (.b (isInoL b n i)), g') := by
    intro g
    rw [R_escheatref15_Is_eq]
    unfold isInoL
    cases c : mayL b n with
    | true =>
      by_cases c1 : 1 ≤ i
      · exact ⟨_, by simp only [esc, esh, Nat.reduceAdd, Nat.reduceMul, Nat.reduceLT, ref14_May_eq, c, c1] <;> rfl⟩
      · exact ⟨_, by simp only [esc, esh, Nat.reduceAdd, Nat.reduceMul, Nat.reduceLT, ref14_May_eq, c, c1] <;> rfl⟩
    | false => exact ⟨_, by simp only [esc, esh, Nat.reduceAdd, Nat.reduceMul, Nat.reduceLT, ref14_May_eq, c] <;> rfl⟩
  obtain ⟨g', e⟩ := key (ro h)
  exact S_escheatref15_Is_flat e (by simp)

def whereB (b n i : Int) : Int := bif isInoL b n i then 2 + (i - 1) / 8 else 0
def whereK (b n i : Int) : Int := bif isInoL b n i then (i - 1) % 8 else 0

theorem isInoL_true {b n i : Int} : isInoL b n i = true ↔ mayL b n = true ∧ 1 ≤ i ∧ i ≤ n := by
  unfold isInoL; simp [and_assoc]
theorem geom_Where_eq {b n m i : Int} {h : Heap} : S_geom_Where [.a (layC b n m), .c (.i .i64 i)] h = some (.t [.c (.i .i64 (whereB b n i)), .c (.i .i64 (whereK b n i)), .c (.b (isInoL b n i))], h) := by
  have key : ∀ g, ∃ g', R_geom_Where 0 [.a (layC b n m), .c (.i .i64 i)] g = some (.t [.c (.i .i64 (whereB b n i)), .c (.i .i64 (whereK b n i)), .c (.b (isInoL b n i))], g') := by
    intro g
    rw [R_geom_Where_eq]
    unfold whereB whereK
    cases c : isInoL b n i with
    | true =>
      obtain ⟨c1, c2, c3⟩ := isInoL_true.1 c
      have c' := mayL_true.1 c1
      have e0 : tabF b n = 2 := by unfold tabF; rw [c1]; rfl
      have e1 : IntKind.wrap .i64 (i - 1) = i - 1 := wrap_i64 (by omega) (by omega)
      have e2 := quo_i64 (a := i - 1) (b := 8) (by omega) (by omega) (by omega)
      have e3 : IntKind.wrap .i64 (2 + (i - 1) / 8) = 2 + (i - 1) / 8 := wrap_i64 (by omega) (by omega)
      have e4 := rem_i (a := i - 1) (b := 8) (k := .i64) (by omega) (by omega)
      exact ⟨_, by simp only [esc, esh, Nat.reduceAdd, Nat.reduceMul, Nat.reduceLT, geom_IsInode_eq, c, geom_Table_eq, e0, e1, e2, e3, e4] <;> rfl⟩
    | false => exact ⟨_, by simp only [esc, esh, Nat.reduceAdd, Nat.reduceMul, Nat.reduceLT, geom_IsInode_eq, c] <;> rfl⟩
  obtain ⟨g', e⟩ := key (ro h)
  exact S_geom_Where_flat e (by simp)

theorem ref15_Where_loop {h : Heap} {I k : Nat} (hI : 1 ≤ I) (hI2 : I ≤ 128) : ∀ d i m : Nat, i + d = I → d < m → 1 ≤ i →
    escheatref15_Where_l0 k m (.c (.i .i64 I)) (.c (.i .i64 ((2 + (i - 1) / 8 : Nat) : Int))) (.c (.i .i64 (((i - 1) % 8 : Nat) : Int))) (.c (.i .i64 i)) h = some (.t [.c (.i .i64 ((2 + (I - 1) / 8 : Nat) : Int)), .c (.i .i64 (((I - 1) % 8 : Nat) : Int)), .c (.b true)], h)
  | d, i, 0, _, hm, _ => by omega
  | 0, i, m + 1, hi, hm, h1 => by
    have e : i = I := by omega
    subst e
    have c0 : ¬ (i : Int) < i := by omega
    rw [escheatref15_Where_l0_eq]
    simp only [esc, c0]
  | d + 1, i, m + 1, hi, hm, h1 => by
    have ih := ref15_Where_loop (h := h) (k := k) hI hI2 d (i + 1) m (by omega) (by omega) (by omega)
    have c0 : (i : Int) < I := by omega
    rw [escheatref15_Where_l0_eq]
    by_cases c1 : (i - 1) % 8 + 1 = 8
    · have c1' : (((i - 1) % 8 + 1 : Nat) : Int) = 8 := by omega
      have e1 : 2 + (i + 1 - 1) / 8 = 2 + (i - 1) / 8 + 1 := by omega
      have e2 : (i + 1 - 1) % 8 = 0 := by omega
      rw [e1, e2] at ih
      simp only [esc, c0, wi_succ (show (i - 1) % 8 + 1 < 9223372036854775808 by omega), c1', wi_succ (show 2 + (i - 1) / 8 + 1 < 9223372036854775808 by omega), escheatref15_Where_j0_eq, wi_succ (show i + 1 < 9223372036854775808 by omega)]
      exact ih
    · have c1' : ¬ (((i - 1) % 8 + 1 : Nat) : Int) = 8 := by omega
      have e1 : 2 + (i + 1 - 1) / 8 = 2 + (i - 1) / 8 := by omega
      have e2 : (i + 1 - 1) % 8 = (i - 1) % 8 + 1 := by omega
      rw [e1, e2] at ih
      simp only [esc, c0, wi_succ (show (i - 1) % 8 + 1 < 9223372036854775808 by omega), c1', escheatref15_Where_j0_eq, wi_succ (show i + 1 < 9223372036854775808 by omega)]
      exact ih

theorem ref15_Where_eq {b n m i : Int} {h : Heap} : S_escheatref15_Where [.a (layC b n m), .c (.i .i64 i)] h = some (.t [.c (.i .i64 (whereB b n i)), .c (.i .i64 (whereK b n i)), .c (.b (isInoL b n i))], h) := by
  have key : ∀ g, ∃ g', R_escheatref15_Where (i.toNat + 1) [.a (layC b n m), .c (.i .i64 i)] g = some (.t [.c (.i .i64 (whereB b n i)), .c (.i .i64 (whereK b n i)), .c (.b (isInoL b n i))], g') := by
    intro g
    rw [R_escheatref15_Where_eq]
    unfold whereB whereK
    cases c : isInoL b n i with
    | true =>
      obtain ⟨c1, c2, c3⟩ := isInoL_true.1 c
      have c' := mayL_true.1 c1
      have := ref15_Where_loop (h := g ++ [some ⟨layC b n m, true⟩]) (I := i.toNat) (k := i.toNat + 1) (by omega) (by omega) (i.toNat - 1) 1 (i.toNat + 1) (by omega) (by omega) (by omega)
      rw [show ((i.toNat : Nat) : Int) = i by omega, show ((2 + (1 - 1) / 8 : Nat) : Int) = 2 from rfl, show (((1 - 1) % 8 : Nat) : Int) = 0 from rfl, show ((1 : Nat) : Int) = 1 from rfl, show ((2 + (i.toNat - 1) / 8 : Nat) : Int) = 2 + (i - 1) / 8 by omega, show (((i.toNat - 1) % 8 : Nat) : Int) = (i - 1) % 8 by omega] at this
      exact ⟨_, by simp only [esc, esh, Nat.reduceAdd, Nat.reduceMul, Nat.reduceLT, ref15_Is_eq, c]; exact this⟩
    | false => exact ⟨_, by simp only [esc, esh, Nat.reduceAdd, Nat.reduceMul, Nat.reduceLT, ref15_Is_eq, c] <;> rfl⟩
  obtain ⟨g', e⟩ := key (ro h)
  exact S_escheatref15_Where_flat e (by simp)

end Go.Proofs.Ytdgggnlbdoiloaa
end
section
namespace Go.Proofs.Ytdgggnlbdoiloaa
open Go Go.Esc

theorem wrap_u64_range (v : Int) : 0 ≤ IntKind.wrap .u64 v ∧ IntKind.wrap .u64 v < 18446744073709551616 := by
  have hw : IntKind.wrap .u64 v = v % 18446744073709551616 := by
    simp only [IntKind.wrap, IntKind.bits, IntKind.signed, Bool.false_and]
    rfl
  rw [hw]
  exact ⟨Int.emod_nonneg _ (by omega), Int.emod_lt_of_pos _ (by omega)⟩

theorem bytes_conv {w : Nat} {v : Int} {h : Heap} (hw : w ≤ 8) : S_escheatref01_Bytes [.c (.i .i64 w), .c (.i .u64 (IntKind.wrap .u64 v))] h = some (.c (.sl h.length 0 w 1), h ++ [some ⟨encB (bytesI w v), true⟩]) := by
  rw [ref01_Bytes_eq hw (wrap_u64_range v).1 (wrap_u64_range v).2, bytesI_wrap hw]


end Go.Proofs.Ytdgggnlbdoiloaa
end
section
namespace Go.Proofs.Ytdgggnlbdoiloaa
open Go Go.Esc

theorem amark_of {h : Heap} {id off len sz : Nat} {cs : List Cell} (hr : rd h id = some ⟨cs, true⟩) (hn : 0 < len) : amark h (.c (.sl id off len sz)) = some (.c (.sl id off len sz)) := by
  simp [amark, hr, hn]

def magicB : List UInt8 := [101, 115, 99, 104, 101, 97, 116, 49]
def supH (b n m : Int) : List UInt8 := magicB ++ bytesI 2 b ++ bytesI 2 n ++ bytesI 8 m
def supB (b n m : Int) : List UInt8 := padB 256 (supH b n m ++ bytesI 4 (mixH (supH b n m) : Nat))
theorem supH_length {b n m : Int} : (supH b n m).length = 20 := by simp [supH, magicB]
theorem supB_length {b n m : Int} : (supB b n m).length = 256 := padB_length (by rw [List.length_append, supH_length, bytesI_length]; omega)

theorem layI_pad {l xs : List UInt8} {a : Nat} (h1 : l.length ≤ a) (h2 : a + xs.length ≤ 256) (h3 : a < 256) : layI (padB 256 l) a xs = padB 256 (l ++ zeros (a - l.length) ++ xs) := by
  unfold layI
  rw [if_pos (by omega)]
  simp only [Int.toNat_natCast]
  rw [List.take_of_length_le (by omega), padB_lay h1 h2]

theorem super_Put_eq {b n m : Int} {h : Heap} (hm0 : 0 ≤ m) (hm1 : m < 18446744073709551616) :
    S_super_Put [.a (layC b n m)] h = some (.t [.a (encB (bif mayL b n then supB b n m else zeros 256)), .c (.i .i64 (bif mayL b n then 0 else 1))], h) := by
  have key : ∀ g, ∃ g', R_super_Put 0 [.a (layC b n m)] g = some (.t [.a (encB (bif mayL b n then supB b n m else zeros 256)), .c (.i .i64 (bif mayL b n then 0 else 1))], g') := by
    intro g
    have hz : (encB (zeros 256)).length = 256 := by rw [encB_length]; exact zeros_length
    have haf : afill (List.replicate 256 (Cell.i .u8 0)) [] = some (List.replicate 256 (Cell.i .u8 0)) := rfl
    rw [zeros_enc] at haf
    rw [R_super_Put_eq, zeros_enc]
    cases c : mayL b n with
    | false =>
      simp only [cond_false]
      generalize zeros 256 = z at *
      exact ⟨_, by simp only [esc, esh, Nat.reduceAdd, Nat.reduceMul, Nat.reduceLT, super_Check_eq, c, haf, hz, Int.reduceEq] <;> rfl⟩
    | true =>
      simp only [cond_true]
      have e7 : afill [Cell.i .u8 0, .i .u8 0, .i .u8 0, .i .u8 0, .i .u8 0, .i .u8 0, .i .u8 0, .i .u8 0] [(0, 1, .c (.i .u8 101)), (1, 1, .c (.i .u8 115)), (2, 1, .c (.i .u8 99)), (3, 1, .c (.i .u8 104)), (4, 1, .c (.i .u8 101)), (5, 1, .c (.i .u8 97)), (6, 1, .c (.i .u8 116)), (7, 1, .c (.i .u8 49))] = some (encB magicB) := rfl
      have hmk := amark_of (h := g ++ [some ⟨layC b n m, true⟩, some ⟨encB (zeros 256), true⟩, some ⟨encB magicB, true⟩]) (id := g.length + 2) (off := 0) (len := 8) (sz := 1) (cs := encB magicB) (by simp) (by omega)
      have ho := num_Of_eq (h := g ++ [some ⟨layC b n m, true⟩, some ⟨encB (zeros 256), true⟩, some ⟨encB magicB, true⟩]) (v := .c (.sl (g.length + 2) 0 8 1)) (nv := 8) (data := magicB) (Has.tr (by simp) (by simp [encB_length, magicB]) (noX_encB _)) (by decide)
      rw [of_pad (by decide)] at ho
      have lm : magicB.length = 8 := rfl
      have w1 := fun h => num_With_eq (h := h) (l := padB 256 magicB) (padB_length (by decide)) (a := 8) (w := 2) (v := b)
      have e1 := withB_pad (l := magicB) (a := 8) (w := 2) (v := b) (by decide) (by omega) (by omega) (by omega)
      simp only [lm, Nat.sub_self, show zeros 0 = [] from rfl, List.append_nil, Int.cast_ofNat_Int] at e1
      simp only [e1] at w1
      have l1 : (magicB ++ bytesI 2 b).length = 10 := by simp [lm]
      have w2 := fun h => num_With_eq (h := h) (l := padB 256 (magicB ++ bytesI 2 b)) (padB_length (by omega)) (a := 10) (w := 2) (v := n)
      have e2 := withB_pad (l := magicB ++ bytesI 2 b) (a := 10) (w := 2) (v := n) (by omega) (by omega) (by omega) (by omega)
      simp only [l1, Nat.sub_self, show zeros 0 = [] from rfl, List.append_nil, Int.cast_ofNat_Int] at e2
      simp only [e2] at w2
      have l2 : (magicB ++ bytesI 2 b ++ bytesI 2 n).length = 12 := by simp [lm]
      have L0 : (encB (padB 256 magicB)).length = 256 := by rw [encB_length, padB_length (by decide)]
      have L1 : (encB (padB 256 (magicB ++ bytesI 2 b))).length = 256 := by rw [encB_length, padB_length (by omega)]
      have L2 : (encB (padB 256 (magicB ++ bytesI 2 b ++ bytesI 2 n))).length = 256 := by rw [encB_length, padB_length (by omega)]
      have L3 : (encB (padB 256 (supH b n m))).length = 256 := by rw [encB_length, padB_length (by rw [supH_length]; omega)]
      have L4 : (encB (supB b n m)).length = 256 := by rw [encB_length, supB_length]
      have mk8 : amkn (.c (.i .i64 8)) (.c (.i .i64 8)) = some 8 := rfl
      have hp := num_Put_eq (h := g ++ [some ⟨layC b n m, true⟩, some ⟨encB (zeros 256), true⟩, some ⟨encB magicB, true⟩, some ⟨encB (padB 256 (magicB ++ bytesI 2 b ++ bytesI 2 n)), true⟩, some ⟨encB (zeros 8), true⟩]) (x := .c (.sl (g.length + 4) 0 8 1)) (nv := 8) (l := zeros 8) (a := 0) (w := 8) (v := m) (Has.tr (by simp) (by simp [encB_length]) (noX_encB _)) (by simp)
      have ep : putN (zeros 8) 0 8 m = some (bytesI 8 m) := by
        unfold putN
        rw [if_pos ⟨by omega, by decide⟩]
        unfold layB
        simp [zeros]
      rw [ep] at hp
      simp only [Option.getD_some, Option.isSome_some, bytesI_length] at hp
      have hl := num_Lay_eq (h := g ++ [some ⟨layC b n m, true⟩, some ⟨encB (zeros 256), true⟩, some ⟨encB magicB, true⟩, some ⟨encB (padB 256 (magicB ++ bytesI 2 b ++ bytesI 2 n)), true⟩, some ⟨encB (zeros 8), true⟩, some ⟨encB (bytesI 8 m), true⟩]) (v := .c (.sl (g.length + 5) 0 8 1)) (nv := 8) (data := bytesI 8 m) (l := padB 256 (magicB ++ bytesI 2 b ++ bytesI 2 n)) (a := 12) (Has.tr (by simp) (by simp [encB_length]) (noX_encB _)) (padB_length (by omega)) (by simp)
      have e3 := layI_pad (l := magicB ++ bytesI 2 b ++ bytesI 2 n) (xs := bytesI 8 m) (a := 12) (by omega) (by simp) (by omega)
      simp only [l2, Nat.sub_self, show zeros 0 = [] from rfl, List.append_nil, Int.cast_ofNat_Int] at e3
      rw [e3] at hl
      have hc := fun h => num_Cut_eq (h := h) (l := padB 256 (supH b n m)) (padB_length (by rw [supH_length]; omega)) (a := 0) (n := 20)
      have e4 : cutB (padB 256 (supH b n m)) 0 20 = supH b n m := by
        unfold cutB padB
        rw [if_pos (by omega)]
        simp only [Int.toNat_zero, List.drop_zero]
        exact List.take_left' supH_length
      simp only [e4, supH_length] at hc
      have hstr := (Has.tr (h := g ++ [some ⟨layC b n m, true⟩, some ⟨encB (zeros 256), true⟩, some ⟨encB magicB, true⟩, some ⟨encB (padB 256 (supH b n m)), true⟩, some ⟨encB (zeros 8), true⟩, some ⟨encB (bytesI 8 m), true⟩, some ⟨encB (supH b n m), true⟩]) (id := g.length + 6) (sz := 1) (n := 20) (cs := encB (supH b n m)) (by simp) (by rw [encB_length, supH_length]) (noX_encB _)).str
      have hmx := fun h => mix_Of_eq (s := supH b n m) (h := h) (by rw [supH_length]; omega)
      have hmlt := mixH_lt (s := supH b n m)
      have e5 : IntKind.wrap .i64 ((mixH (supH b n m) : Nat) : Int) = (mixH (supH b n m) : Nat) := wrap_i64 (by omega) (by omega)
      have w3 := fun h => num_With_eq (h := h) (l := padB 256 (supH b n m)) (padB_length (by rw [supH_length]; omega)) (a := 20) (w := 4) (v := (mixH (supH b n m) : Nat))
      have e6 := withB_pad (l := supH b n m) (a := 20) (w := 4) (v := (mixH (supH b n m) : Nat)) (by rw [supH_length]; omega) (by omega) (by omega) (by omega)
      simp only [supH_length, Nat.sub_self, show zeros 0 = [] from rfl, List.append_nil, Int.cast_ofNat_Int] at e6
      simp only [e6] at w3
      have eS : magicB ++ bytesI 2 b ++ bytesI 2 n ++ bytesI 8 m = supH b n m := rfl
      rw [eS] at hl
      have rz := rows_zero 8
      change ∀ h, S_num_With [_, _, _, _] h = some (.a (encB (supB b n m)), h) at w3
      generalize supB b n m = SB at *
      generalize padB 256 magicB = P0 at *
      generalize padB 256 (magicB ++ bytesI 2 b) = P1 at *
      generalize padB 256 (magicB ++ bytesI 2 b ++ bytesI 2 n) = P2 at *
      generalize padB 256 (supH b n m) = P3 at *
      simp only [esc] at hp
      generalize zeros 256 = z at *
      generalize zeros 8 = z8 at *
      exact ⟨_, by simp only [esc, esh, Nat.reduceAdd, Nat.reduceMul, Nat.reduceLT, super_Check_eq, c, e7, hmk, ho, hz, L0, w1, L1, w2, L2, mk8, rz, hp, hl, L3, hc, hstr, hmx, e5, w3, L4] <;> rfl⟩
  obtain ⟨g', e⟩ := key (ro h)
  exact S_super_Put_flat e (by simp)

theorem at_field {b : List UInt8} {a w : Nat} (hb : b.length = 256) (h1 : a + w ≤ 256) (hw : 1 ≤ w) (hw4 : w ≤ 4) : ((atN b a w : Nat) : Int) = fieldN b a w := by
  unfold atN fieldN
  rw [if_pos ⟨by omega, thereI_true.2 (by omega)⟩]
  simp only [Int.toNat_natCast]

theorem getN_cut {b : List UInt8} (hb : b.length = 256) : getN (cutB b 12 8) 0 8 = some (le ((b.drop 12).take 8)) := by
  have hc : cutB b 12 8 = (b.drop 12).take 8 := by
    unfold cutB
    rw [if_pos (by omega)]; rfl
  have hl : ((b.drop 12).take 8).length = 8 := by simp; omega
  unfold getN
  rw [hc, hl, if_pos ⟨by omega, by decide⟩]
  simp only [Int.toNat_zero, List.drop_zero]
  rw [List.take_of_length_le (by rw [hl]; decide)]

def okS (b : List UInt8) : Bool := mayL (fieldN b 8 2) (fieldN b 10 2) && decide (supB (fieldN b 8 2) (fieldN b 10 2) (fieldN b 12 8) = b)
def layS (b : List UInt8) : List Cell := bif okS b then layC (fieldN b 8 2) (fieldN b 10 2) (fieldN b 12 8) else layC 0 0 0

theorem field8_range (b : List UInt8) : 0 ≤ fieldN b 12 8 ∧ fieldN b 12 8 < 18446744073709551616 := by
  unfold fieldN
  have h1 := le_lt ((b.drop 12).take 8)
  have h2 : ((b.drop 12).take 8).length ≤ 8 := by simp; omega
  have h3 := pow256_le h2
  have h4 : (256 : Nat) ^ 8 = 18446744073709551616 := by decide
  omega


end Go.Proofs.Ytdgggnlbdoiloaa
end
section
namespace Go.Proofs.Ytdgggnlbdoiloaa
open Go Go.Esc

theorem super_Get_eq {b : List UInt8} {h : Heap} (hb : b.length = 256) : S_super_Get [.a (encB b)] h = some (.t [.a (layS b), .c (.i .i64 (bif okS b then 0 else 13))], h) := by
  have key : ∀ g, ∃ g', R_super_Get 0 [.a (encB b)] g = some (.t [.a (layS b), .c (.i .i64 (bif okS b then 0 else 13))], g') := by
    intro g
    have hl : (encB b).length = 256 := by rw [encB_length, hb]
    have hc := num_Cut_eq (h := g ++ [some ⟨encB b, true⟩, some ⟨layC 0 0 0, true⟩]) hb (a := 12) (n := 8)
    have hcl : (cutB b 12 8).length = 8 := by unfold cutB; rw [if_pos (by omega)]; simp; omega
    rw [hcl] at hc
    have hg := num_Get_eq (h := g ++ [some ⟨encB b, true⟩, some ⟨layC 0 0 0, true⟩, some ⟨encB (cutB b 12 8), true⟩]) (v := .c (.sl (g.length + 2) 0 8 1)) (nv := 8) (l := cutB b 12 8) (Has.tr (by simp) (by rw [encB_length, hcl]) (noX_encB _)) (a := 0) (w := 8) (by rw [hcl]; omega)
    rw [getN_cut hb] at hg
    simp only [Option.getD_some, Option.isSome_some] at hg
    have a1 := fun h => num_At_eq (h := h) hb (a := 8) (w := 2)
    have a2 := fun h => num_At_eq (h := h) hb (a := 10) (w := 2)
    have f1 := at_field (a := 8) (w := 2) hb (by omega) (by omega) (by omega)
    have f2 := at_field (a := 10) (w := 2) hb (by omega) (by omega) (by omega)
    simp only [Int.cast_ofNat_Int] at f1 f2
    simp only [f1] at a1
    simp only [f2] at a2
    have e12 : ((le ((b.drop 12).take 8) : Nat) : Int) = fieldN b 12 8 := rfl
    rw [e12] at hg
    have ef : ∀ x y z : Int, afill (layC 0 0 0) [(0, 1, .c (.i .i64 x)), (1, 1, .c (.i .i64 y)), (2, 1, .c (.i .u64 z))] = some (layC x y z) := fun _ _ _ => rfl
    have ef0 : afill (layC 0 0 0) [] = some (layC 0 0 0) := rfl
    have hp := fun h => super_Put_eq (b := fieldN b 8 2) (n := fieldN b 10 2) (m := fieldN b 12 8) (h := h) (field8_range b).1 (field8_range b).2
    have hz : (List.replicate 256 (Cell.i .u8 0)).length = 256 := List.length_replicate
    have hS : (encB (supB (fieldN b 8 2) (fieldN b 10 2) (fieldN b 12 8))).length = 256 := by rw [encB_length, supB_length]
    have hZ : (encB (zeros 256)).length = 256 := by rw [encB_length]; exact zeros_length
    have hq := aeq_t (l := supB (fieldN b 8 2) (fieldN b 10 2) (fieldN b 12 8)) (m := b) (n := 256) supB_length hb
    simp only [esc] at hc
    rw [R_super_Get_eq]
    unfold layS okS
    generalize List.replicate 256 (Cell.i .u8 0) = z at *
    cases c : mayL (fieldN b 8 2) (fieldN b 10 2) with
    | false =>
      simp only [c, cond_false] at hp
      generalize zeros 256 = zz at *
      exact ⟨_, by simp only [esc, esh, Nat.reduceAdd, Nat.reduceMul, Nat.reduceLT, hl, hc, hg, a1, a2, ef, ef0, hp, hz, hZ, Bool.false_and, Int.reduceEq] <;> rfl⟩
    | true =>
      simp only [c, cond_true] at hp
      cases c2 : decide (supB (fieldN b 8 2) (fieldN b 10 2) (fieldN b 12 8) = b) with
      | false =>
        rw [c2] at hq
        exact ⟨_, by simp only [esc, esh, Nat.reduceAdd, Nat.reduceMul, Nat.reduceLT, hl, hc, hg, a1, a2, ef, ef0, hp, hz, hS, hq, Bool.and_false] <;> rfl⟩
      | true =>
        rw [c2] at hq
        exact ⟨_, by simp only [esc, esh, Nat.reduceAdd, Nat.reduceMul, Nat.reduceLT, hl, hc, hg, a1, a2, ef, ef0, hp, hz, hS, hq, Bool.and_true] <;> rfl⟩
  obtain ⟨g', e⟩ := key (ro h)
  refine S_super_Get_flat e ?_
  unfold layS
  cases okS b <;> simp


end Go.Proofs.Ytdgggnlbdoiloaa
end
section
namespace Go.Proofs.Ytdgggnlbdoiloaa
open Go Go.Esc
set_option maxRecDepth 100000
def chart_where_o0 : List AOper := [{ dst := some 2, op := .mv (.v (.c (.i .i64 0))) }, { dst := some 3, op := .mv (.v (.c (.i .u8 0))) }, { dst := some 4, op := .mv (.v (.c (.b false))) }]
def chart_where_c0 : ACode := .ops chart_where_o0
def chart_where_o1 : List AOper := [{ dst := some 5, op := .mv (.t 0) }, { dst := some 6, op := .bin .lss (.t 5) (.v (.c (.i .i64 0))) }, { dst := some 7, op := .mv (.t 6) }, { dst := some 8, op := .mv (.t 0), guard := some (7, false) }, { dst := some 9, op := .bin .geq (.t 8) (.v (.c (.i .i64 2048))), guard := some (7, false) }, { dst := some 10, op := .pick (.t 7) (.v (.c (.b true))) (.t 9) }]
def chart_where_c1 : ACode := .ops chart_where_o1
def chart_where_o2 : List AOper := [{ dst := some 2, op := .mv (.v (.c (.i .i64 0))) }, { dst := some 3, op := .mv (.v (.c (.i .u8 0))) }, { dst := some 4, op := .mv (.v (.c (.b false))) }]
def chart_where_c2 : ACode := .ops chart_where_o2
def chart_where_c3 : ACode := .seq [2, 3, 4] chart_where_c2 .ret
def chart_where_c4 : ACode := .cond (.t 10) chart_where_c3 .skip
def chart_where_c5 : ACode := .seq [0, 10] chart_where_c1 chart_where_c4
def chart_where_o3 : List AOper := [{ dst := some 11, op := .mv (.t 0) }, { dst := some 12, op := .bin .quo (.t 11) (.v (.c (.i .i64 8))) }, { dst := some 13, op := .mv (.t 0) }, { dst := some 14, op := .bin .rem (.t 13) (.v (.c (.i .i64 8))) }, { dst := some 15, op := .conv .u64 (.t 14) }, { dst := some 16, op := .bin .shl (.v (.c (.i .u8 1))) (.t 15) }, { dst := some 2, op := .mv (.t 12) }, { dst := some 3, op := .mv (.t 16) }, { dst := some 4, op := .mv (.v (.c (.b true))) }]
def chart_where_c6 : ACode := .ops chart_where_o3
def chart_where_c7 : ACode := .seq [2, 3, 4] chart_where_c6 .ret
def chart_where_c8 : ACode := .seq [0] chart_where_c5 chart_where_c7
def chart_where_c9 : ACode := .seq [0] chart_where_c0 chart_where_c8
def A_chart_where : AFn := ⟨chart_where_c9, [.tmp 2, .tmp 3, .tmp 4]⟩
noncomputable def E_chart_where : Sums := disp0
noncomputable def chart_where_c0_d (n : Nat) : SmV := smOps E_chart_where chart_where_o0
noncomputable def chart_where_c1_d (n : Nat) : SmV := smOps E_chart_where chart_where_o1
noncomputable def chart_where_c2_d (n : Nat) : SmV := smOps E_chart_where chart_where_o2
noncomputable def chart_where_c3_d (n : Nat) : SmV := smSeq [2, 3, 4] (chart_where_c2_d n) smRet
noncomputable def chart_where_c4_d (n : Nat) : SmV := smCond (.t 10) (chart_where_c3_d n) smSkip
noncomputable def chart_where_c5_d (n : Nat) : SmV := smSeq [0, 10] (chart_where_c1_d n) (chart_where_c4_d n)
noncomputable def chart_where_c6_d (n : Nat) : SmV := smOps E_chart_where chart_where_o3
noncomputable def chart_where_c7_d (n : Nat) : SmV := smSeq [2, 3, 4] (chart_where_c6_d n) smRet
noncomputable def chart_where_c8_d (n : Nat) : SmV := smSeq [0] (chart_where_c5_d n) (chart_where_c7_d n)
noncomputable def chart_where_c9_d (n : Nat) : SmV := smSeq [0] (chart_where_c0_d n) (chart_where_c8_d n)
noncomputable def R_chart_where (n : Nat) (args : List Val) (h : Heap) : OptV := (chart_where_c9_d n) A_chart_where.fin (params 0 args) h
theorem R_chart_where_eq (n : Nat) (a0 : Val) (h : Heap) : R_chart_where n [a0] h = bnd (abin .lss a0 (.c (.i .i64 0))) fun v1 => bnd (gd v1 false (some (a0, h)) (some (.no, h))) fun p2 => bnd (gd v1 false (bnd (abin .geq p2.1 (.c (.i .i64 2048))) fun v3 => some (v3, p2.2)) (some (.no, p2.2))) fun p4 => bnd (apick v1 (.c (.b true)) p4.1) fun v5 => cnd v5 (tupN [some (.c (.i .i64 0)), some (.c (.i .u8 0)), some (.c (.b false))] p4.2) (bnd (abin .quo a0 (.c (.i .i64 8))) fun v6 => bnd (abin .rem a0 (.c (.i .i64 8))) fun v7 => bnd (aconv .u64 v7) fun v8 => bnd (abin .shl (.c (.i .u8 1)) v8) fun v9 => tupN [some v6, some v9, some (.c (.b true))] p4.2) := by kernel_rfl
theorem K_chart_where : FnK Try.prog 113 A_chart_where E_chart_where R_chart_where := .mk' (sound0) Try.func113 (by kernel_rfl) (by intro n args h; kernel_rfl)
noncomputable def S_chart_where : Fun := tidy (Lim A_chart_where E_chart_where)
theorem S_chart_where_ok : SOk Try.prog 113 S_chart_where := K_chart_where.sok
theorem S_chart_where_flat {n : Nat} {args : List Val} {h h2 : Heap} {v : Val} (he : R_chart_where n args (ro h) = some (v, h2)) (hf : v.flat = true) : S_chart_where args h = some (v, h) := K_chart_where.flat he hf
def chart_With_o0 : List AOper := [{ dst := some 3, op := .box (.t 0) }, { dst := some 6, op := .alloc (List.replicate 256 (.i .u8 0)) }]
def chart_With_c0 : ACode := .ops chart_With_o0
def chart_With_o1 : List AOper := [{ dst := some 11, op := .mv (.t 1) }, { dst := some 12, op := .call 113 [(.t 11)] }, { dst := some 10, op := .mv (.t 12) }, { dst := some 13, op := .ext (.t 10) 0 }, { dst := some 14, op := .ext (.t 10) 1 }, { dst := some 15, op := .ext (.t 10) 2 }, { dst := some 7, op := .mv (.t 13) }, { dst := some 8, op := .mv (.t 14) }, { dst := some 9, op := .mv (.t 15) }]
def chart_With_c1 : ACode := .ops chart_With_o1
def chart_With_o2 : List AOper := [{ dst := some 23, op := .mv (.t 9) }, { dst := some 24, op := .un .not (.t 23) }, { dst := some 22, op := .mv (.t 24) }]
def chart_With_c2 : ACode := .ops chart_With_o2
def chart_With_o3 : List AOper := [{ dst := some 26, op := .mv (.t 2) }, { dst := some 25, op := .mv (.t 26) }]
def chart_With_c3 : ACode := .ops chart_With_o3
def chart_With_o4 : List AOper := [{ dst := some 27, op := .mv (.t 7) }, { dst := some 28, op := .iAddrA 256 1 (.t 3) (.t 27) }, { dst := some 29, op := .load1 (.t 28) }, { dst := some 30, op := .mv (.t 8) }, { dst := some 31, op := .bin .or (.t 29) (.t 30) }, { dst := some 32, op := .iAddrA 256 1 (.t 3) (.t 27) }, { dst := none, op := .store1 (.t 32) (.t 31) }]
def chart_With_c4 : ACode := .ops chart_With_o4
def chart_With_o5 : List AOper := [{ dst := some 16, op := .mv (.t 7) }, { dst := some 17, op := .iAddrA 256 1 (.t 3) (.t 16) }, { dst := some 18, op := .load1 (.t 17) }, { dst := some 19, op := .mv (.t 8) }, { dst := some 20, op := .bin .andNot (.t 18) (.t 19) }, { dst := some 21, op := .iAddrA 256 1 (.t 3) (.t 16) }, { dst := none, op := .store1 (.t 21) (.t 20) }]
def chart_With_c5 : ACode := .ops chart_With_o5
def chart_With_c6 : ACode := .cond (.t 25) chart_With_c4 chart_With_c5
def chart_With_c7 : ACode := .seq [3, 6, 7, 8, 25] chart_With_c3 chart_With_c6
def chart_With_c8 : ACode := .cond (.t 22) .skip chart_With_c7
def chart_With_c9 : ACode := .seq [2, 3, 6, 7, 8, 22] chart_With_c2 chart_With_c8
def chart_With_c10 : ACode := .block 0 chart_With_c9
def chart_With_o6 : List AOper := [{ dst := some 33, op := .loadN 256 (.t 3) }, { dst := none, op := .storeN 256 (.t 6) (.t 33) }]
def chart_With_c11 : ACode := .ops chart_With_o6
def chart_With_c12 : ACode := .seq [6] chart_With_c11 .ret
def chart_With_c13 : ACode := .seq [3, 6] chart_With_c10 chart_With_c12
def chart_With_c14 : ACode := .seq [2, 3, 6, 7, 8, 9] chart_With_c1 chart_With_c13
def chart_With_c15 : ACode := .seq [1, 2, 3, 6] chart_With_c0 chart_With_c14
def A_chart_With : AFn := ⟨chart_With_c15, [.cellN 6 256]⟩
noncomputable def E_chart_With : Sums := disp 113 S_chart_where disp0
noncomputable def chart_With_c0_d (n : Nat) : SmV := smOps E_chart_With chart_With_o0
noncomputable def chart_With_c1_d (n : Nat) : SmV := smOps E_chart_With chart_With_o1
noncomputable def chart_With_c2_d (n : Nat) : SmV := smOps E_chart_With chart_With_o2
noncomputable def chart_With_c3_d (n : Nat) : SmV := smOps E_chart_With chart_With_o3
noncomputable def chart_With_c4_d (n : Nat) : SmV := smOps E_chart_With chart_With_o4
noncomputable def chart_With_c5_d (n : Nat) : SmV := smOps E_chart_With chart_With_o5
noncomputable def chart_With_c6_d (n : Nat) : SmV := smCond (.t 25) (chart_With_c4_d n) (chart_With_c5_d n)
noncomputable def chart_With_c7_d (n : Nat) : SmV := smSeq [3, 6, 7, 8, 25] (chart_With_c3_d n) (chart_With_c6_d n)
noncomputable def chart_With_c8_d (n : Nat) : SmV := smCond (.t 22) smSkip (chart_With_c7_d n)
noncomputable def chart_With_c9_d (n : Nat) : SmV := smSeq [2, 3, 6, 7, 8, 22] (chart_With_c2_d n) (chart_With_c8_d n)
noncomputable def chart_With_c10_d (n : Nat) : SmV := smBlock 0 (chart_With_c9_d n)
noncomputable def chart_With_c11_d (n : Nat) : SmV := smOps E_chart_With chart_With_o6
noncomputable def chart_With_c12_d (n : Nat) : SmV := smSeq [6] (chart_With_c11_d n) smRet
noncomputable def chart_With_c13_d (n : Nat) : SmV := smSeq [3, 6] (chart_With_c10_d n) (chart_With_c12_d n)
noncomputable def chart_With_c14_d (n : Nat) : SmV := smSeq [2, 3, 6, 7, 8, 9] (chart_With_c1_d n) (chart_With_c13_d n)
noncomputable def chart_With_c15_d (n : Nat) : SmV := smSeq [1, 2, 3, 6] (chart_With_c0_d n) (chart_With_c14_d n)
noncomputable def chart_With_j0 (n : Nat) (x3 x6 : Val) (h : Heap) : OptV := hold ((chart_With_c12_d n) A_chart_With.fin [(3, x3), (6, x6)] h)
noncomputable def R_chart_With (n : Nat) (args : List Val) (h : Heap) : OptV := (chart_With_c15_d n) A_chart_With.fin (params 0 args) h
theorem R_chart_With_eq (n : Nat) (a0 a1 a2 : Val) (h : Heap) : R_chart_With n [a0, a1, a2] h = bnd (cells? a0) fun c1 => bnd (S_chart_where [a1] (((h ++ [some (Row.mk (c1) true)]) ++ [some (Row.mk (List.replicate 256 (.i .u8 0)) true)]))) fun p2 => bnd (aext p2.1 0) fun v3 => bnd (aext p2.1 1) fun v4 => bnd (aext p2.1 2) fun v5 => bnd (aun .not v5) fun v6 => cnd v6 (chart_With_j0 n ((.c (.p h.length 0))) ((.c (.p ((h ++ [some (Row.mk (c1) true)])).length 0))) p2.2) (cnd a2 (bnd (aiAddrA 256 1 ((.c (.p h.length 0))) v3) fun v7 => bnd (aload1 p2.2 v7) fun v8 => bnd (abin .or v8 v4) fun v9 => bnd (aiAddrA 256 1 ((.c (.p h.length 0))) v3) fun v10 => bnd (astore1 p2.2 v10 v9) fun h11 => chart_With_j0 n ((.c (.p h.length 0))) ((.c (.p ((h ++ [some (Row.mk (c1) true)])).length 0))) h11) (bnd (aiAddrA 256 1 ((.c (.p h.length 0))) v3) fun v12 => bnd (aload1 p2.2 v12) fun v13 => bnd (abin .andNot v13 v4) fun v14 => bnd (aiAddrA 256 1 ((.c (.p h.length 0))) v3) fun v15 => bnd (astore1 p2.2 v15 v14) fun h16 => chart_With_j0 n ((.c (.p h.length 0))) ((.c (.p ((h ++ [some (Row.mk (c1) true)])).length 0))) h16)) := by kernel_rfl
theorem chart_With_j0_eq (n : Nat) (x3 x6 : Val) (h : Heap) : chart_With_j0 n x3 x6 h = bnd (aloadN h 256 x3) fun v17 => bnd (astoreN h 256 x6 v17) fun h18 => mp (aloadN h18 256 x6) fun v => (v, h18) := by kernel_rfl
theorem K_chart_With : FnK Try.prog 137 A_chart_With E_chart_With R_chart_With := .mk' (sound1 S_chart_where_ok sound0) Try.func137 (by kernel_rfl) (by intro n args h; kernel_rfl)
noncomputable def S_chart_With : Fun := tidy (Lim A_chart_With E_chart_With)
theorem S_chart_With_ok : SOk Try.prog 137 S_chart_With := K_chart_With.sok
theorem S_chart_With_flat {n : Nat} {args : List Val} {h h2 : Heap} {v : Val} (he : R_chart_With n args (ro h) = some (v, h2)) (hf : v.flat = true) : S_chart_With args h = some (v, h) := K_chart_With.flat he hf
def chart_Make_o0 : List AOper := [{ dst := some 2, op := .alloc (List.replicate 256 (.i .u8 0)) }]
def chart_Make_c0 : ACode := .ops chart_Make_o0
def chart_Make_o1 : List AOper := [{ dst := some 3, op := .alloc (List.replicate 256 (.i .u8 0)) }]
def chart_Make_c1 : ACode := .ops chart_Make_o1
def chart_Make_o2 : List AOper := [{ dst := some 6, op := .mv (.t 0) }, { dst := some 7, op := .len (.t 6) }, { dst := some 8, op := .mv (.v (.c (.i .i64 0))) }]
def chart_Make_c2 : ACode := .ops chart_Make_o2
def chart_Make_o3 : List AOper := [{ dst := some 9, op := .bin .lss (.t 8) (.t 7) }]
def chart_Make_c3 : ACode := .ops chart_Make_o3
def chart_Make_c4 : ACode := .cond (.t 9) .skip (.exit 0)
def chart_Make_o4 : List AOper := [{ dst := some 10, op := .iAddrL 1 (.t 6) (.t 8) }, { dst := some 11, op := .load1 (.t 10) }, { dst := some 5, op := .mv (.t 11) }]
def chart_Make_c5 : ACode := .ops chart_Make_o4
def chart_Make_o5 : List AOper := [{ dst := some 12, op := .loadN 256 (.t 3) }, { dst := some 13, op := .mv (.t 5) }, { dst := some 14, op := .call 137 [(.t 12), (.t 13), (.v (.c (.b true)))] }, { dst := none, op := .storeN 256 (.t 3) (.t 14) }]
def chart_Make_c6 : ACode := .ops chart_Make_o5
def chart_Make_c7 : ACode := .seq [2, 3, 5, 6, 7, 8] chart_Make_c5 chart_Make_c6
def chart_Make_c8 : ACode := .block 1 chart_Make_c7
def chart_Make_o6 : List AOper := [{ dst := some 15, op := .bin .add (.t 8) (.v (.c (.i .i64 1))) }, { dst := some 8, op := .mv (.t 15) }]
def chart_Make_c9 : ACode := .ops chart_Make_o6
def chart_Make_c10 : ACode := .seq [2, 3, 6, 7, 8] chart_Make_c8 chart_Make_c9
def chart_Make_c11 : ACode := .seq [2, 3, 6, 7, 8] chart_Make_c4 chart_Make_c10
def chart_Make_c12 : ACode := .seq [2, 3, 6, 7, 8, 9] chart_Make_c3 chart_Make_c11
def chart_Make_c13 : ACode := .loop [2, 3, 6, 7, 8] chart_Make_c12
def chart_Make_c14 : ACode := .block 0 chart_Make_c13
def chart_Make_c15 : ACode := .seq [2, 3, 6, 7, 8] chart_Make_c2 chart_Make_c14
def chart_Make_o7 : List AOper := [{ dst := some 16, op := .loadN 256 (.t 3) }, { dst := none, op := .storeN 256 (.t 2) (.t 16) }]
def chart_Make_c16 : ACode := .ops chart_Make_o7
def chart_Make_c17 : ACode := .seq [2] chart_Make_c16 .ret
def chart_Make_c18 : ACode := .seq [2, 3] chart_Make_c15 chart_Make_c17
def chart_Make_c19 : ACode := .seq [0, 2, 3] chart_Make_c1 chart_Make_c18
def chart_Make_c20 : ACode := .seq [0, 2] chart_Make_c0 chart_Make_c19
def A_chart_Make : AFn := ⟨chart_Make_c20, [.cellN 2 256]⟩
noncomputable def E_chart_Make : Sums := disp 137 S_chart_With disp0
noncomputable def chart_Make_c0_d (n : Nat) : SmV := smOps E_chart_Make chart_Make_o0
noncomputable def chart_Make_c1_d (n : Nat) : SmV := smOps E_chart_Make chart_Make_o1
noncomputable def chart_Make_c2_d (n : Nat) : SmV := smOps E_chart_Make chart_Make_o2
noncomputable def chart_Make_c3_d (n : Nat) : SmV := smOps E_chart_Make chart_Make_o3
noncomputable def chart_Make_c4_d (n : Nat) : SmV := smCond (.t 9) smSkip (smExit 0)
noncomputable def chart_Make_c5_d (n : Nat) : SmV := smOps E_chart_Make chart_Make_o4
noncomputable def chart_Make_c6_d (n : Nat) : SmV := smOps E_chart_Make chart_Make_o5
noncomputable def chart_Make_c7_d (n : Nat) : SmV := smSeq [2, 3, 5, 6, 7, 8] (chart_Make_c5_d n) (chart_Make_c6_d n)
noncomputable def chart_Make_c8_d (n : Nat) : SmV := smBlock 1 (chart_Make_c7_d n)
noncomputable def chart_Make_c9_d (n : Nat) : SmV := smOps E_chart_Make chart_Make_o6
noncomputable def chart_Make_c10_d (n : Nat) : SmV := smSeq [2, 3, 6, 7, 8] (chart_Make_c8_d n) (chart_Make_c9_d n)
noncomputable def chart_Make_c11_d (n : Nat) : SmV := smSeq [2, 3, 6, 7, 8] (chart_Make_c4_d n) (chart_Make_c10_d n)
noncomputable def chart_Make_c12_d (n : Nat) : SmV := smSeq [2, 3, 6, 7, 8, 9] (chart_Make_c3_d n) (chart_Make_c11_d n)
noncomputable def chart_Make_c13_d (n : Nat) : SmV := smLoop n [2, 3, 6, 7, 8] (chart_Make_c12_d n)
noncomputable def chart_Make_c14_d (n : Nat) : SmV := smBlock 0 (chart_Make_c13_d n)
noncomputable def chart_Make_c15_d (n : Nat) : SmV := smSeq [2, 3, 6, 7, 8] (chart_Make_c2_d n) (chart_Make_c14_d n)
noncomputable def chart_Make_c16_d (n : Nat) : SmV := smOps E_chart_Make chart_Make_o7
noncomputable def chart_Make_c17_d (n : Nat) : SmV := smSeq [2] (chart_Make_c16_d n) smRet
noncomputable def chart_Make_c18_d (n : Nat) : SmV := smSeq [2, 3] (chart_Make_c15_d n) (chart_Make_c17_d n)
noncomputable def chart_Make_c19_d (n : Nat) : SmV := smSeq [0, 2, 3] (chart_Make_c1_d n) (chart_Make_c18_d n)
noncomputable def chart_Make_c20_d (n : Nat) : SmV := smSeq [0, 2] (chart_Make_c0_d n) (chart_Make_c19_d n)
noncomputable def chart_Make_k0 (n : Nat) : AExit → Env → Heap → OptV := fun x e h => match x with | .normal => hold ((chart_Make_c17_d n) A_chart_Make.fin (e.keep [2, 3]) h) | .exit id => A_chart_Make.fin (.exit id) e h | .ret => A_chart_Make.fin .ret e h
noncomputable def chart_Make_k1 (n : Nat) : AExit → Env → Heap → OptV := fun x e h => match x with | .exit i => bif Nat.beq i 0 then (chart_Make_k0 n) .normal e h else (chart_Make_k0 n) (.exit i) e h | .normal => (chart_Make_k0 n) .normal e h | .ret => (chart_Make_k0 n) .ret e h
noncomputable def chart_Make_l0 (n m : Nat) (x2 x3 x6 x7 x8 : Val) (h : Heap) : OptV := around (chart_Make_c12_d n) [2, 3, 6, 7, 8] (chart_Make_k1 n) m [(2, x2), (3, x3), (6, x6), (7, x7), (8, x8)] h
noncomputable def R_chart_Make (n : Nat) (args : List Val) (h : Heap) : OptV := (chart_Make_c20_d n) A_chart_Make.fin (params 0 args) h
theorem R_chart_Make_eq (n : Nat) (a0 : Val) (h : Heap) : R_chart_Make n [a0] h = bnd (alen a0) fun v1 => chart_Make_l0 n n ((.c (.p h.length 0))) ((.c (.p ((h ++ [some (Row.mk (List.replicate 256 (.i .u8 0)) true)])).length 0))) a0 v1 (.c (.i .i64 0)) (((h ++ [some (Row.mk (List.replicate 256 (.i .u8 0)) true)]) ++ [some (Row.mk (List.replicate 256 (.i .u8 0)) true)])) := by kernel_rfl
theorem chart_Make_l0_eq (n m : Nat) (x2 x3 x6 x7 x8 : Val) (h : Heap) : chart_Make_l0 n (m + 1) x2 x3 x6 x7 x8 h = bnd (abin .lss x8 x7) fun v2 => cnd v2 (bnd (aiAddrL 1 x6 x8) fun v3 => bnd (aload1 h v3) fun v4 => bnd (aloadN h 256 x3) fun v5 => bnd (S_chart_With [v5, v4, .c (.b true)] h) fun p6 => bnd (astoreN p6.2 256 x3 p6.1) fun h7 => bnd (abin .add x8 (.c (.i .i64 1))) fun v8 => chart_Make_l0 n m x2 x3 x6 x7 v8 h7) (bnd (aloadN h 256 x3) fun v9 => bnd (astoreN h 256 x2 v9) fun h10 => mp (aloadN h10 256 x2) fun v => (v, h10)) := by kernel_rfl
theorem K_chart_Make : FnK Try.prog 109 A_chart_Make E_chart_Make R_chart_Make := .mk' (sound1 S_chart_With_ok sound0) Try.func109 (by kernel_rfl) (by intro n args h; kernel_rfl)
noncomputable def S_chart_Make : Fun := tidy (Lim A_chart_Make E_chart_Make)
theorem S_chart_Make_ok : SOk Try.prog 109 S_chart_Make := K_chart_Make.sok
theorem S_chart_Make_flat {n : Nat} {args : List Val} {h h2 : Heap} {v : Val} (he : R_chart_Make n args (ro h) = some (v, h2)) (hf : v.flat = true) : S_chart_Make args h = some (v, h) := K_chart_Make.flat he hf
def chart_Has_o0 : List AOper := [{ dst := some 2, op := .box (.t 0) }, { dst := some 4, op := .mv (.v (.c (.b false))) }]
def chart_Has_c0 : ACode := .ops chart_Has_o0
def chart_Has_o1 : List AOper := [{ dst := some 9, op := .mv (.t 1) }, { dst := some 10, op := .call 113 [(.t 9)] }, { dst := some 8, op := .mv (.t 10) }, { dst := some 11, op := .ext (.t 8) 0 }, { dst := some 12, op := .ext (.t 8) 1 }, { dst := some 13, op := .ext (.t 8) 2 }, { dst := some 5, op := .mv (.t 11) }, { dst := some 6, op := .mv (.t 12) }, { dst := some 7, op := .mv (.t 13) }]
def chart_Has_c1 : ACode := .ops chart_Has_o1
def chart_Has_o2 : List AOper := [{ dst := some 14, op := .mv (.t 7) }, { dst := some 15, op := .mv (.t 14) }, { dst := some 16, op := .mv (.t 5), guard := some (15, true) }, { dst := some 17, op := .iAddrA 256 1 (.t 2) (.t 16), guard := some (15, true) }, { dst := some 18, op := .load1 (.t 17), guard := some (15, true) }, { dst := some 19, op := .mv (.t 6), guard := some (15, true) }, { dst := some 20, op := .bin .and (.t 18) (.t 19), guard := some (15, true) }, { dst := some 21, op := .bin .neq (.t 20) (.v (.c (.i .u8 0))), guard := some (15, true) }, { dst := some 22, op := .pick (.t 15) (.t 21) (.v (.c (.b false))) }, { dst := some 4, op := .mv (.t 22) }]
def chart_Has_c2 : ACode := .ops chart_Has_o2
def chart_Has_c3 : ACode := .seq [4] chart_Has_c2 .ret
def chart_Has_c4 : ACode := .seq [2, 5, 6, 7] chart_Has_c1 chart_Has_c3
def chart_Has_c5 : ACode := .seq [1, 2] chart_Has_c0 chart_Has_c4
def A_chart_Has : AFn := ⟨chart_Has_c5, [.tmp 4]⟩
noncomputable def E_chart_Has : Sums := disp 113 S_chart_where disp0
noncomputable def chart_Has_c0_d (n : Nat) : SmV := smOps E_chart_Has chart_Has_o0
noncomputable def chart_Has_c1_d (n : Nat) : SmV := smOps E_chart_Has chart_Has_o1
noncomputable def chart_Has_c2_d (n : Nat) : SmV := smOps E_chart_Has chart_Has_o2
noncomputable def chart_Has_c3_d (n : Nat) : SmV := smSeq [4] (chart_Has_c2_d n) smRet
noncomputable def chart_Has_c4_d (n : Nat) : SmV := smSeq [2, 5, 6, 7] (chart_Has_c1_d n) (chart_Has_c3_d n)
noncomputable def chart_Has_c5_d (n : Nat) : SmV := smSeq [1, 2] (chart_Has_c0_d n) (chart_Has_c4_d n)
noncomputable def R_chart_Has (n : Nat) (args : List Val) (h : Heap) : OptV := (chart_Has_c5_d n) A_chart_Has.fin (params 0 args) h
theorem R_chart_Has_eq (n : Nat) (a0 a1 : Val) (h : Heap) : R_chart_Has n [a0, a1] h = bnd (cells? a0) fun c1 => bnd (S_chart_where [a1] ((h ++ [some (Row.mk (c1) true)]))) fun p2 => bnd (aext p2.1 0) fun v3 => bnd (aext p2.1 1) fun v4 => bnd (aext p2.1 2) fun v5 => bnd (gd v5 true (some (v3, p2.2)) (some (.no, p2.2))) fun p6 => bnd (gd v5 true (bnd (aiAddrA 256 1 ((.c (.p h.length 0))) p6.1) fun v7 => some (v7, p6.2)) (some (.no, p6.2))) fun p8 => bnd (gd v5 true (bnd (aload1 p8.2 p8.1) fun v9 => some (v9, p8.2)) (some (.no, p8.2))) fun p10 => bnd (gd v5 true (some (v4, p10.2)) (some (.no, p10.2))) fun p11 => bnd (gd v5 true (bnd (abin .and p10.1 p11.1) fun v12 => some (v12, p11.2)) (some (.no, p11.2))) fun p13 => bnd (gd v5 true (bnd (abin .neq p13.1 (.c (.i .u8 0))) fun v14 => some (v14, p13.2)) (some (.no, p13.2))) fun p15 => bnd (apick v5 p15.1 (.c (.b false))) fun v16 => some (v16, p15.2) := by kernel_rfl
theorem K_chart_Has : FnK Try.prog 71 A_chart_Has E_chart_Has R_chart_Has := .mk' (sound1 S_chart_where_ok sound0) Try.func71 (by kernel_rfl) (by intro n args h; kernel_rfl)
noncomputable def S_chart_Has : Fun := tidy (Lim A_chart_Has E_chart_Has)
theorem S_chart_Has_ok : SOk Try.prog 71 S_chart_Has := K_chart_Has.sok
theorem S_chart_Has_flat {n : Nat} {args : List Val} {h h2 : Heap} {v : Val} (he : R_chart_Has n args (ro h) = some (v, h2)) (hf : v.flat = true) : S_chart_Has args h = some (v, h) := K_chart_Has.flat he hf
end Go.Proofs.Ytdgggnlbdoiloaa
end
section
namespace Go.Proofs.Ytdgggnlbdoiloaa
open Go Go.Esc
set_option maxRecDepth 100000
def inode_Get_o0 : List AOper := [{ dst := some 1, op := .box (.t 0) }, { dst := some 2, op := .alloc ([.i .i64 0, .i .i64 0, .i .i64 0, .i .i64 0, .i .i64 0, .i .i64 0, .i .i64 0, .i .i64 0, .i .i64 0, .i .i64 0, .i .i64 0]) }]
def inode_Get_c0 : ACode := .ops inode_Get_o0
def inode_Get_o1 : List AOper := [{ dst := some 6, op := .slA 32 1 (.t 1) none none }, { dst := some 7, op := .call 95 [(.t 6)] }, { dst := some 3, op := .alloc (List.replicate 256 (.i .u8 0)) }, { dst := none, op := .storeN 256 (.t 3) (.t 7) }]
def inode_Get_c1 : ACode := .ops inode_Get_o1
def inode_Get_o2 : List AOper := [{ dst := some 8, op := .loadN 256 (.t 3) }, { dst := some 9, op := .call 101 [(.t 8), (.v (.c (.i .i64 0))), (.v (.c (.i .i64 1)))] }, { dst := some 10, op := .loadN 256 (.t 3) }, { dst := some 11, op := .call 101 [(.t 10), (.v (.c (.i .i64 2))), (.v (.c (.i .i64 2)))] }, { dst := some 12, op := .loadN 256 (.t 3) }, { dst := some 13, op := .call 101 [(.t 12), (.v (.c (.i .i64 4))), (.v (.c (.i .i64 4)))] }, { dst := some 14, op := .loadN 256 (.t 3) }, { dst := some 15, op := .call 101 [(.t 14), (.v (.c (.i .i64 8))), (.v (.c (.i .i64 2)))] }, { dst := some 16, op := .build ([.i .i64 0, .i .i64 0, .i .i64 0, .i .i64 0, .i .i64 0, .i .i64 0, .i .i64 0, .i .i64 0, .i .i64 0, .i .i64 0, .i .i64 0]) [(0, 1, (.t 9)), (1, 1, (.t 11)), (2, 1, (.t 13)), (3, 1, (.t 15))] }, { dst := some 4, op := .alloc ([.i .i64 0, .i .i64 0, .i .i64 0, .i .i64 0, .i .i64 0, .i .i64 0, .i .i64 0, .i .i64 0, .i .i64 0, .i .i64 0, .i .i64 0]), slot := some 0 }]
def inode_Get_o3 : List AOper := [{ dst := none, op := .storeN 11 (.t 4) (.t 16) }]
def inode_Get_c2 : ACode := .draw 1 inode_Get_o2 inode_Get_o3
def inode_Get_o4 : List AOper := [{ dst := some 17, op := .mv (.v (.c (.i .i64 0))) }]
def inode_Get_c3 : ACode := .ops inode_Get_o4
def inode_Get_o5 : List AOper := [{ dst := some 18, op := .bin .lss (.t 17) (.v (.c (.i .i64 6))) }]
def inode_Get_c4 : ACode := .ops inode_Get_o5
def inode_Get_c5 : ACode := .cond (.t 18) .skip (.exit 0)
def inode_Get_o6 : List AOper := [{ dst := some 19, op := .mv (.t 17) }, { dst := some 5, op := .mv (.t 19) }]
def inode_Get_c6 : ACode := .ops inode_Get_o6
def inode_Get_o7 : List AOper := [{ dst := some 20, op := .mv (.t 5) }, { dst := some 21, op := .loadN 256 (.t 3) }, { dst := some 22, op := .mv (.t 5) }, { dst := some 23, op := .bin .mul (.v (.c (.i .i64 2))) (.t 22) }, { dst := some 24, op := .bin .add (.v (.c (.i .i64 10))) (.t 23) }, { dst := some 25, op := .call 101 [(.t 21), (.t 24), (.v (.c (.i .i64 2)))] }, { dst := some 26, op := .fAddr (.t 4) 4 }, { dst := some 27, op := .iAddrA 6 1 (.t 26) (.t 20) }, { dst := none, op := .store1 (.t 27) (.t 25) }]
def inode_Get_c7 : ACode := .ops inode_Get_o7
def inode_Get_c8 : ACode := .seq [2, 3, 4, 5, 17] inode_Get_c6 inode_Get_c7
def inode_Get_c9 : ACode := .block 1 inode_Get_c8
def inode_Get_o8 : List AOper := [{ dst := some 28, op := .bin .add (.t 17) (.v (.c (.i .i64 1))) }, { dst := some 17, op := .mv (.t 28) }]
def inode_Get_c10 : ACode := .ops inode_Get_o8
def inode_Get_c11 : ACode := .seq [2, 3, 4, 17] inode_Get_c9 inode_Get_c10
def inode_Get_c12 : ACode := .seq [2, 3, 4, 17] inode_Get_c5 inode_Get_c11
def inode_Get_c13 : ACode := .seq [2, 3, 4, 17, 18] inode_Get_c4 inode_Get_c12
def inode_Get_c14 : ACode := .loop [2, 3, 4, 17] inode_Get_c13
def inode_Get_c15 : ACode := .block 0 inode_Get_c14
def inode_Get_c16 : ACode := .seq [2, 3, 4, 17] inode_Get_c3 inode_Get_c15
def inode_Get_o9 : List AOper := [{ dst := some 29, op := .loadN 256 (.t 3) }, { dst := some 30, op := .call 101 [(.t 29), (.v (.c (.i .i64 22))), (.v (.c (.i .i64 2)))] }, { dst := some 31, op := .fAddr (.t 4) 10 }, { dst := none, op := .store1 (.t 31) (.t 30) }]
def inode_Get_c17 : ACode := .ops inode_Get_o9
def inode_Get_o10 : List AOper := [{ dst := some 32, op := .loadN 11 (.t 4) }, { dst := none, op := .storeN 11 (.t 2) (.t 32) }]
def inode_Get_c18 : ACode := .ops inode_Get_o10
def inode_Get_c19 : ACode := .seq [2] inode_Get_c18 .ret
def inode_Get_c20 : ACode := .seq [2, 4] inode_Get_c17 inode_Get_c19
def inode_Get_c21 : ACode := .seq [2, 3, 4] inode_Get_c16 inode_Get_c20
def inode_Get_c22 : ACode := .seq [2, 3, 4] inode_Get_c2 inode_Get_c21
def inode_Get_c23 : ACode := .seq [2, 3] inode_Get_c1 inode_Get_c22
def inode_Get_c24 : ACode := .seq [1, 2] inode_Get_c0 inode_Get_c23
def A_inode_Get : AFn := ⟨inode_Get_c24, [.cellN 2 11]⟩
noncomputable def E_inode_Get : Sums := disp 95 S_num_Of (disp 101 S_num_At disp0)
noncomputable def inode_Get_c0_d (n : Nat) : SmV := smOps E_inode_Get inode_Get_o0
noncomputable def inode_Get_c1_d (n : Nat) : SmV := smOps E_inode_Get inode_Get_o1
noncomputable def inode_Get_c2_d (n : Nat) : SmV := smDraw E_inode_Get 1 inode_Get_o2 inode_Get_o3
noncomputable def inode_Get_c3_d (n : Nat) : SmV := smOps E_inode_Get inode_Get_o4
noncomputable def inode_Get_c4_d (n : Nat) : SmV := smOps E_inode_Get inode_Get_o5
noncomputable def inode_Get_c5_d (n : Nat) : SmV := smCond (.t 18) smSkip (smExit 0)
noncomputable def inode_Get_c6_d (n : Nat) : SmV := smOps E_inode_Get inode_Get_o6
noncomputable def inode_Get_c7_d (n : Nat) : SmV := smOps E_inode_Get inode_Get_o7
noncomputable def inode_Get_c8_d (n : Nat) : SmV := smSeq [2, 3, 4, 5, 17] (inode_Get_c6_d n) (inode_Get_c7_d n)
noncomputable def inode_Get_c9_d (n : Nat) : SmV := smBlock 1 (inode_Get_c8_d n)
noncomputable def inode_Get_c10_d (n : Nat) : SmV := smOps E_inode_Get inode_Get_o8
noncomputable def inode_Get_c11_d (n : Nat) : SmV := smSeq [2, 3, 4, 17] (inode_Get_c9_d n) (inode_Get_c10_d n)
noncomputable def inode_Get_c12_d (n : Nat) : SmV := smSeq [2, 3, 4, 17] (inode_Get_c5_d n) (inode_Get_c11_d n)
noncomputable def inode_Get_c13_d (n : Nat) : SmV := smSeq [2, 3, 4, 17, 18] (inode_Get_c4_d n) (inode_Get_c12_d n)
noncomputable def inode_Get_c14_d (n : Nat) : SmV := smLoop n [2, 3, 4, 17] (inode_Get_c13_d n)
noncomputable def inode_Get_c15_d (n : Nat) : SmV := smBlock 0 (inode_Get_c14_d n)
noncomputable def inode_Get_c16_d (n : Nat) : SmV := smSeq [2, 3, 4, 17] (inode_Get_c3_d n) (inode_Get_c15_d n)
noncomputable def inode_Get_c17_d (n : Nat) : SmV := smOps E_inode_Get inode_Get_o9
noncomputable def inode_Get_c18_d (n : Nat) : SmV := smOps E_inode_Get inode_Get_o10
noncomputable def inode_Get_c19_d (n : Nat) : SmV := smSeq [2] (inode_Get_c18_d n) smRet
noncomputable def inode_Get_c20_d (n : Nat) : SmV := smSeq [2, 4] (inode_Get_c17_d n) (inode_Get_c19_d n)
noncomputable def inode_Get_c21_d (n : Nat) : SmV := smSeq [2, 3, 4] (inode_Get_c16_d n) (inode_Get_c20_d n)
noncomputable def inode_Get_c22_d (n : Nat) : SmV := smSeq [2, 3, 4] (inode_Get_c2_d n) (inode_Get_c21_d n)
noncomputable def inode_Get_c23_d (n : Nat) : SmV := smSeq [2, 3] (inode_Get_c1_d n) (inode_Get_c22_d n)
noncomputable def inode_Get_c24_d (n : Nat) : SmV := smSeq [1, 2] (inode_Get_c0_d n) (inode_Get_c23_d n)
noncomputable def inode_Get_k0 (n : Nat) : AExit → Env → Heap → OptV := fun x e h => match x with | .normal => hold ((inode_Get_c20_d n) A_inode_Get.fin (e.keep [2, 3, 4]) h) | .exit id => A_inode_Get.fin (.exit id) e h | .ret => A_inode_Get.fin .ret e h
noncomputable def inode_Get_k1 (n : Nat) : AExit → Env → Heap → OptV := fun x e h => match x with | .exit i => bif Nat.beq i 0 then (inode_Get_k0 n) .normal e h else (inode_Get_k0 n) (.exit i) e h | .normal => (inode_Get_k0 n) .normal e h | .ret => (inode_Get_k0 n) .ret e h
noncomputable def inode_Get_l0 (n m : Nat) (x2 x3 x4 x17 : Val) (h : Heap) : OptV := around (inode_Get_c13_d n) [2, 3, 4, 17] (inode_Get_k1 n) m [(2, x2), (3, x3), (4, x4), (17, x17)] h
noncomputable def R_inode_Get (n : Nat) (args : List Val) (h : Heap) : OptV := (inode_Get_c24_d n) A_inode_Get.fin (params 0 args) h
theorem R_inode_Get_eq (n : Nat) (a0 : Val) (h : Heap) : R_inode_Get n [a0] h = bnd (cells? a0) fun c1 => bnd (aslA (((h ++ [some (Row.mk (c1) true)]) ++ [some (Row.mk ([.i .i64 0, .i .i64 0, .i .i64 0, .i .i64 0, .i .i64 0, .i .i64 0, .i .i64 0, .i .i64 0, .i .i64 0, .i .i64 0, .i .i64 0]) true)])) 32 1 ((.c (.p h.length 0))) none none) fun v2 => bnd (S_num_Of [v2] (((h ++ [some (Row.mk (c1) true)]) ++ [some (Row.mk ([.i .i64 0, .i .i64 0, .i .i64 0, .i .i64 0, .i .i64 0, .i .i64 0, .i .i64 0, .i .i64 0, .i .i64 0, .i .i64 0, .i .i64 0]) true)]))) fun p3 => bnd (astoreN ((p3.2 ++ [some (Row.mk (List.replicate 256 (.i .u8 0)) true)])) 256 ((.c (.p p3.2.length 0))) p3.1) fun h4 => bnd (aloadN h4 256 ((.c (.p p3.2.length 0)))) fun v5 => bnd (quiet ((h4 ++ [none])) (S_num_At [v5, .c (.i .i64 0), .c (.i .i64 1)] ((h4 ++ [none])))) fun p6 => bnd (aloadN h4 256 ((.c (.p p3.2.length 0)))) fun v7 => bnd (quiet p6.2 (S_num_At [v7, .c (.i .i64 2), .c (.i .i64 2)] p6.2)) fun p8 => bnd (aloadN h4 256 ((.c (.p p3.2.length 0)))) fun v9 => bnd (quiet p8.2 (S_num_At [v9, .c (.i .i64 4), .c (.i .i64 4)] p8.2)) fun p10 => bnd (aloadN h4 256 ((.c (.p p3.2.length 0)))) fun v11 => bnd (quiet p10.2 (S_num_At [v11, .c (.i .i64 8), .c (.i .i64 2)] p10.2)) fun p12 => bnd (afill ([.i .i64 0, .i .i64 0, .i .i64 0, .i .i64 0, .i .i64 0, .i .i64 0, .i .i64 0, .i .i64 0, .i .i64 0, .i .i64 0, .i .i64 0]) [(0, 1, p6.1), (1, 1, p8.1), (2, 1, p10.1), (3, 1, p12.1)]) fun c13 => bnd (astoreN ((p12.2.set (h4.length + 0) (some (Row.mk ([.i .i64 0, .i .i64 0, .i .i64 0, .i .i64 0, .i .i64 0, .i .i64 0, .i .i64 0, .i .i64 0, .i .i64 0, .i .i64 0, .i .i64 0]) true)))) 11 ((.c (.p (h4.length + 0) 0))) ((.a c13))) fun h14 => inode_Get_l0 n n ((.c (.p ((h ++ [some (Row.mk (c1) true)])).length 0))) ((.c (.p p3.2.length 0))) ((.c (.p (h4.length + 0) 0))) (.c (.i .i64 0)) h14 := by kernel_rfl
theorem inode_Get_l0_eq (n m : Nat) (x2 x3 x4 x17 : Val) (h : Heap) : inode_Get_l0 n (m + 1) x2 x3 x4 x17 h = bnd (abin .lss x17 (.c (.i .i64 6))) fun v15 => cnd v15 (bnd (aloadN h 256 x3) fun v16 => bnd (abin .mul (.c (.i .i64 2)) x17) fun v17 => bnd (abin .add (.c (.i .i64 10)) v17) fun v18 => bnd (S_num_At [v16, v18, .c (.i .i64 2)] h) fun p19 => bnd (afAddr x4 4) fun v20 => bnd (aiAddrA 6 1 v20 x17) fun v21 => bnd (astore1 p19.2 v21 p19.1) fun h22 => bnd (abin .add x17 (.c (.i .i64 1))) fun v23 => inode_Get_l0 n m x2 x3 x4 v23 h22) (bnd (aloadN h 256 x3) fun v24 => bnd (S_num_At [v24, .c (.i .i64 22), .c (.i .i64 2)] h) fun p25 => bnd (afAddr x4 10) fun v26 => bnd (astore1 p25.2 v26 p25.1) fun h27 => bnd (aloadN h27 11 x4) fun v28 => bnd (astoreN h27 11 x2 v28) fun h29 => mp (aloadN h29 11 x2) fun v => (v, h29)) := by kernel_rfl
theorem K_inode_Get : FnK Try.prog 133 A_inode_Get E_inode_Get R_inode_Get := .mk' (sound1 S_num_Of_ok (sound1 S_num_At_ok sound0)) Try.func133 (by kernel_rfl) (by intro n args h; kernel_rfl)
noncomputable def S_inode_Get : Fun := tidy (Lim A_inode_Get E_inode_Get)
theorem S_inode_Get_ok : SOk Try.prog 133 S_inode_Get := K_inode_Get.sok
theorem S_inode_Get_flat {n : Nat} {args : List Val} {h h2 : Heap} {v : Val} (he : R_inode_Get n args (ro h) = some (v, h2)) (hf : v.flat = true) : S_inode_Get args h = some (v, h) := K_inode_Get.flat he hf
def inode_small_o0 : List AOper := [{ dst := some 2, op := .mv (.v (.c (.b false))) }]
def inode_small_c0 : ACode := .ops inode_small_o0
def inode_small_o1 : List AOper := [{ dst := some 3, op := .mv (.t 0) }, { dst := some 4, op := .bin .geq (.t 3) (.v (.c (.i .i64 0))) }, { dst := some 5, op := .mv (.t 4) }, { dst := some 6, op := .mv (.t 0), guard := some (5, true) }, { dst := some 7, op := .bin .leq (.t 6) (.v (.c (.i .i64 65535))), guard := some (5, true) }, { dst := some 8, op := .pick (.t 5) (.t 7) (.v (.c (.b false))) }, { dst := some 2, op := .mv (.t 8) }]
def inode_small_c1 : ACode := .ops inode_small_o1
def inode_small_c2 : ACode := .seq [2] inode_small_c1 .ret
def inode_small_c3 : ACode := .seq [0] inode_small_c0 inode_small_c2
def A_inode_small : AFn := ⟨inode_small_c3, [.tmp 2]⟩
noncomputable def E_inode_small : Sums := disp0
noncomputable def inode_small_c0_d (n : Nat) : SmV := smOps E_inode_small inode_small_o0
noncomputable def inode_small_c1_d (n : Nat) : SmV := smOps E_inode_small inode_small_o1
noncomputable def inode_small_c2_d (n : Nat) : SmV := smSeq [2] (inode_small_c1_d n) smRet
noncomputable def inode_small_c3_d (n : Nat) : SmV := smSeq [0] (inode_small_c0_d n) (inode_small_c2_d n)
noncomputable def R_inode_small (n : Nat) (args : List Val) (h : Heap) : OptV := (inode_small_c3_d n) A_inode_small.fin (params 0 args) h
theorem R_inode_small_eq (n : Nat) (a0 : Val) (h : Heap) : R_inode_small n [a0] h = bnd (abin .geq a0 (.c (.i .i64 0))) fun v1 => bnd (gd v1 true (some (a0, h)) (some (.no, h))) fun p2 => bnd (gd v1 true (bnd (abin .leq p2.1 (.c (.i .i64 65535))) fun v3 => some (v3, p2.2)) (some (.no, p2.2))) fun p4 => bnd (apick v1 p4.1 (.c (.b false))) fun v5 => some (v5, p4.2) := by kernel_rfl
theorem K_inode_small : FnK Try.prog 163 A_inode_small E_inode_small R_inode_small := .mk' (sound0) Try.func163 (by kernel_rfl) (by intro n args h; kernel_rfl)
noncomputable def S_inode_small : Fun := tidy (Lim A_inode_small E_inode_small)
theorem S_inode_small_ok : SOk Try.prog 163 S_inode_small := K_inode_small.sok
theorem S_inode_small_flat {n : Nat} {args : List Val} {h h2 : Heap} {v : Val} (he : R_inode_small n args (ro h) = some (v, h2)) (hf : v.flat = true) : S_inode_small args h = some (v, h) := K_inode_small.flat he hf
def inode_Numbers_o0 : List AOper := [{ dst := some 1, op := .box (.t 0) }, { dst := some 2, op := .alloc ([.i .i64 0, .i .i64 0, .i .i64 0, .i .i64 0, .i .i64 0, .i .i64 0, .i .i64 0]) }]
def inode_Numbers_c0 : ACode := .ops inode_Numbers_o0
def inode_Numbers_o1 : List AOper := [{ dst := some 3, op := .alloc ([.i .i64 0, .i .i64 0, .i .i64 0, .i .i64 0, .i .i64 0, .i .i64 0, .i .i64 0]) }]
def inode_Numbers_c1 : ACode := .ops inode_Numbers_o1
def inode_Numbers_o2 : List AOper := [{ dst := some 6, op := .fAddr (.t 1) 4 }, { dst := some 7, op := .loadN 6 (.t 6) }, { dst := some 8, op := .mv (.v (.c (.i .i64 0))) }]
def inode_Numbers_c2 : ACode := .ops inode_Numbers_o2
def inode_Numbers_o3 : List AOper := [{ dst := some 9, op := .bin .lss (.t 8) (.v (.c (.i .i64 6))) }]
def inode_Numbers_c3 : ACode := .ops inode_Numbers_o3
def inode_Numbers_c4 : ACode := .cond (.t 9) .skip (.exit 0)
def inode_Numbers_o4 : List AOper := [{ dst := some 10, op := .mv (.t 8) }, { dst := some 11, op := .idxA1 6 (.t 7) (.t 8) }, { dst := some 4, op := .mv (.t 10) }, { dst := some 5, op := .mv (.t 11) }]
def inode_Numbers_c5 : ACode := .ops inode_Numbers_o4
def inode_Numbers_o5 : List AOper := [{ dst := some 12, op := .mv (.t 4) }, { dst := some 13, op := .mv (.t 5) }, { dst := some 14, op := .iAddrA 7 1 (.t 3) (.t 12) }, { dst := none, op := .store1 (.t 14) (.t 13) }]
def inode_Numbers_c6 : ACode := .ops inode_Numbers_o5
def inode_Numbers_c7 : ACode := .seq [1, 2, 3, 4, 5, 7, 8] inode_Numbers_c5 inode_Numbers_c6
def inode_Numbers_c8 : ACode := .block 1 inode_Numbers_c7
def inode_Numbers_o6 : List AOper := [{ dst := some 15, op := .bin .add (.t 8) (.v (.c (.i .i64 1))) }, { dst := some 8, op := .mv (.t 15) }]
def inode_Numbers_c9 : ACode := .ops inode_Numbers_o6
def inode_Numbers_c10 : ACode := .seq [1, 2, 3, 7, 8] inode_Numbers_c8 inode_Numbers_c9
def inode_Numbers_c11 : ACode := .seq [1, 2, 3, 7, 8] inode_Numbers_c4 inode_Numbers_c10
def inode_Numbers_c12 : ACode := .seq [1, 2, 3, 7, 8, 9] inode_Numbers_c3 inode_Numbers_c11
def inode_Numbers_c13 : ACode := .loop [1, 2, 3, 7, 8] inode_Numbers_c12
def inode_Numbers_c14 : ACode := .block 0 inode_Numbers_c13
def inode_Numbers_c15 : ACode := .seq [1, 2, 3, 7, 8] inode_Numbers_c2 inode_Numbers_c14
def inode_Numbers_o7 : List AOper := [{ dst := some 16, op := .fAddr (.t 1) 10 }, { dst := some 17, op := .load1 (.t 16) }, { dst := some 18, op := .iAddrA 7 1 (.t 3) (.v (.c (.i .i64 6))) }, { dst := none, op := .store1 (.t 18) (.t 17) }]
def inode_Numbers_c16 : ACode := .ops inode_Numbers_o7
def inode_Numbers_o8 : List AOper := [{ dst := some 19, op := .loadN 7 (.t 3) }, { dst := none, op := .storeN 7 (.t 2) (.t 19) }]
def inode_Numbers_c17 : ACode := .ops inode_Numbers_o8
def inode_Numbers_c18 : ACode := .seq [2] inode_Numbers_c17 .ret
def inode_Numbers_c19 : ACode := .seq [2, 3] inode_Numbers_c16 inode_Numbers_c18
def inode_Numbers_c20 : ACode := .seq [1, 2, 3] inode_Numbers_c15 inode_Numbers_c19
def inode_Numbers_c21 : ACode := .seq [1, 2, 3] inode_Numbers_c1 inode_Numbers_c20
def inode_Numbers_c22 : ACode := .seq [1, 2] inode_Numbers_c0 inode_Numbers_c21
def A_inode_Numbers : AFn := ⟨inode_Numbers_c22, [.cellN 2 7]⟩
noncomputable def E_inode_Numbers : Sums := disp0
noncomputable def inode_Numbers_c0_d (n : Nat) : SmV := smOps E_inode_Numbers inode_Numbers_o0
noncomputable def inode_Numbers_c1_d (n : Nat) : SmV := smOps E_inode_Numbers inode_Numbers_o1
noncomputable def inode_Numbers_c2_d (n : Nat) : SmV := smOps E_inode_Numbers inode_Numbers_o2
noncomputable def inode_Numbers_c3_d (n : Nat) : SmV := smOps E_inode_Numbers inode_Numbers_o3
noncomputable def inode_Numbers_c4_d (n : Nat) : SmV := smCond (.t 9) smSkip (smExit 0)
noncomputable def inode_Numbers_c5_d (n : Nat) : SmV := smOps E_inode_Numbers inode_Numbers_o4
noncomputable def inode_Numbers_c6_d (n : Nat) : SmV := smOps E_inode_Numbers inode_Numbers_o5
noncomputable def inode_Numbers_c7_d (n : Nat) : SmV := smSeq [1, 2, 3, 4, 5, 7, 8] (inode_Numbers_c5_d n) (inode_Numbers_c6_d n)
noncomputable def inode_Numbers_c8_d (n : Nat) : SmV := smBlock 1 (inode_Numbers_c7_d n)
noncomputable def inode_Numbers_c9_d (n : Nat) : SmV := smOps E_inode_Numbers inode_Numbers_o6
noncomputable def inode_Numbers_c10_d (n : Nat) : SmV := smSeq [1, 2, 3, 7, 8] (inode_Numbers_c8_d n) (inode_Numbers_c9_d n)
noncomputable def inode_Numbers_c11_d (n : Nat) : SmV := smSeq [1, 2, 3, 7, 8] (inode_Numbers_c4_d n) (inode_Numbers_c10_d n)
noncomputable def inode_Numbers_c12_d (n : Nat) : SmV := smSeq [1, 2, 3, 7, 8, 9] (inode_Numbers_c3_d n) (inode_Numbers_c11_d n)
noncomputable def inode_Numbers_c13_d (n : Nat) : SmV := smLoop n [1, 2, 3, 7, 8] (inode_Numbers_c12_d n)
noncomputable def inode_Numbers_c14_d (n : Nat) : SmV := smBlock 0 (inode_Numbers_c13_d n)
noncomputable def inode_Numbers_c15_d (n : Nat) : SmV := smSeq [1, 2, 3, 7, 8] (inode_Numbers_c2_d n) (inode_Numbers_c14_d n)
noncomputable def inode_Numbers_c16_d (n : Nat) : SmV := smOps E_inode_Numbers inode_Numbers_o7
noncomputable def inode_Numbers_c17_d (n : Nat) : SmV := smOps E_inode_Numbers inode_Numbers_o8
noncomputable def inode_Numbers_c18_d (n : Nat) : SmV := smSeq [2] (inode_Numbers_c17_d n) smRet
noncomputable def inode_Numbers_c19_d (n : Nat) : SmV := smSeq [2, 3] (inode_Numbers_c16_d n) (inode_Numbers_c18_d n)
noncomputable def inode_Numbers_c20_d (n : Nat) : SmV := smSeq [1, 2, 3] (inode_Numbers_c15_d n) (inode_Numbers_c19_d n)
noncomputable def inode_Numbers_c21_d (n : Nat) : SmV := smSeq [1, 2, 3] (inode_Numbers_c1_d n) (inode_Numbers_c20_d n)
noncomputable def inode_Numbers_c22_d (n : Nat) : SmV := smSeq [1, 2] (inode_Numbers_c0_d n) (inode_Numbers_c21_d n)
noncomputable def inode_Numbers_k0 (n : Nat) : AExit → Env → Heap → OptV := fun x e h => match x with | .normal => hold ((inode_Numbers_c19_d n) A_inode_Numbers.fin (e.keep [1, 2, 3]) h) | .exit id => A_inode_Numbers.fin (.exit id) e h | .ret => A_inode_Numbers.fin .ret e h
noncomputable def inode_Numbers_k1 (n : Nat) : AExit → Env → Heap → OptV := fun x e h => match x with | .exit i => bif Nat.beq i 0 then (inode_Numbers_k0 n) .normal e h else (inode_Numbers_k0 n) (.exit i) e h | .normal => (inode_Numbers_k0 n) .normal e h | .ret => (inode_Numbers_k0 n) .ret e h
noncomputable def inode_Numbers_l0 (n m : Nat) (x1 x2 x3 x7 x8 : Val) (h : Heap) : OptV := around (inode_Numbers_c12_d n) [1, 2, 3, 7, 8] (inode_Numbers_k1 n) m [(1, x1), (2, x2), (3, x3), (7, x7), (8, x8)] h
noncomputable def R_inode_Numbers (n : Nat) (args : List Val) (h : Heap) : OptV := (inode_Numbers_c22_d n) A_inode_Numbers.fin (params 0 args) h
theorem R_inode_Numbers_eq (n : Nat) (a0 : Val) (h : Heap) : R_inode_Numbers n [a0] h = bnd (cells? a0) fun c1 => bnd (afAddr ((.c (.p h.length 0))) 4) fun v2 => bnd (aloadN ((((h ++ [some (Row.mk (c1) true)]) ++ [some (Row.mk ([.i .i64 0, .i .i64 0, .i .i64 0, .i .i64 0, .i .i64 0, .i .i64 0, .i .i64 0]) true)]) ++ [some (Row.mk ([.i .i64 0, .i .i64 0, .i .i64 0, .i .i64 0, .i .i64 0, .i .i64 0, .i .i64 0]) true)])) 6 v2) fun v3 => inode_Numbers_l0 n n ((.c (.p h.length 0))) ((.c (.p ((h ++ [some (Row.mk (c1) true)])).length 0))) ((.c (.p (((h ++ [some (Row.mk (c1) true)]) ++ [some (Row.mk ([.i .i64 0, .i .i64 0, .i .i64 0, .i .i64 0, .i .i64 0, .i .i64 0, .i .i64 0]) true)])).length 0))) v3 (.c (.i .i64 0)) ((((h ++ [some (Row.mk (c1) true)]) ++ [some (Row.mk ([.i .i64 0, .i .i64 0, .i .i64 0, .i .i64 0, .i .i64 0, .i .i64 0, .i .i64 0]) true)]) ++ [some (Row.mk ([.i .i64 0, .i .i64 0, .i .i64 0, .i .i64 0, .i .i64 0, .i .i64 0, .i .i64 0]) true)])) := by kernel_rfl
theorem inode_Numbers_l0_eq (n m : Nat) (x1 x2 x3 x7 x8 : Val) (h : Heap) : inode_Numbers_l0 n (m + 1) x1 x2 x3 x7 x8 h = bnd (abin .lss x8 (.c (.i .i64 6))) fun v4 => cnd v4 (bnd (aidxA1 6 x7 x8) fun v5 => bnd (aiAddrA 7 1 x3 x8) fun v6 => bnd (astore1 h v6 v5) fun h7 => bnd (abin .add x8 (.c (.i .i64 1))) fun v8 => inode_Numbers_l0 n m x1 x2 x3 x7 v8 h7) (bnd (afAddr x1 10) fun v9 => bnd (aload1 h v9) fun v10 => bnd (aiAddrA 7 1 x3 (.c (.i .i64 6))) fun v11 => bnd (astore1 h v11 v10) fun h12 => bnd (aloadN h12 7 x3) fun v13 => bnd (astoreN h12 7 x2 v13) fun h14 => mp (aloadN h14 7 x2) fun v => (v, h14)) := by kernel_rfl
theorem K_inode_Numbers : FnK Try.prog 156 A_inode_Numbers E_inode_Numbers R_inode_Numbers := .mk' (sound0) Try.func156 (by kernel_rfl) (by intro n args h; kernel_rfl)
noncomputable def S_inode_Numbers : Fun := tidy (Lim A_inode_Numbers E_inode_Numbers)
theorem S_inode_Numbers_ok : SOk Try.prog 156 S_inode_Numbers := K_inode_Numbers.sok
theorem S_inode_Numbers_flat {n : Nat} {args : List Val} {h h2 : Heap} {v : Val} (he : R_inode_Numbers n args (ro h) = some (v, h2)) (hf : v.flat = true) : S_inode_Numbers args h = some (v, h) := K_inode_Numbers.flat he hf
def inode_Check_o0 : List AOper := [{ dst := some 1, op := .box (.t 0) }, { dst := some 2, op := .mv (.v (.c (.i .i64 0))) }]
def inode_Check_c0 : ACode := .ops inode_Check_o0
def inode_Check_o1 : List AOper := [{ dst := some 5, op := .fAddr (.t 1) 0 }, { dst := some 6, op := .load1 (.t 5) }, { dst := some 7, op := .bin .lss (.t 6) (.v (.c (.i .i64 0))) }, { dst := some 8, op := .mv (.t 7) }, { dst := some 9, op := .fAddr (.t 1) 0, guard := some (8, false) }, { dst := some 10, op := .load1 (.t 9), guard := some (8, false) }, { dst := some 11, op := .bin .gtr (.t 10) (.v (.c (.i .i64 2))), guard := some (8, false) }, { dst := some 12, op := .pick (.t 8) (.v (.c (.b true))) (.t 11) }, { dst := some 13, op := .mv (.t 12) }, { dst := some 14, op := .fAddr (.t 1) 0, guard := some (13, false) }, { dst := some 15, op := .load1 (.t 14), guard := some (13, false) }, { dst := some 16, op := .bin .eql (.t 15) (.v (.c (.i .i64 0))), guard := some (13, false) }, { dst := some 17, op := .mv (.t 16), guard := some (13, false) }, { dst := some 18, op := .loadN 11 (.t 1), guard := some (17, true) }, { dst := some 19, op := .build ([.i .i64 0, .i .i64 0, .i .i64 0, .i .i64 0, .i .i64 0, .i .i64 0, .i .i64 0, .i .i64 0, .i .i64 0, .i .i64 0, .i .i64 0]) [], guard := some (17, true) }, { dst := some 20, op := .eqA true ([.i .i64, .i .i64, .i .i64, .i .i64, .i .i64, .i .i64, .i .i64, .i .i64, .i .i64, .i .i64, .i .i64]) (.t 18) (.t 19), guard := some (17, true) }, { dst := some 21, op := .pick (.t 17) (.t 20) (.v (.c (.b false))), guard := some (13, false) }, { dst := some 22, op := .pick (.t 13) (.v (.c (.b true))) (.t 21) }]
def inode_Check_c1 : ACode := .ops inode_Check_o1
def inode_Check_o2 : List AOper := [{ dst := some 2, op := .mv (.v (.c (.i .i64 1))) }]
def inode_Check_c2 : ACode := .ops inode_Check_o2
def inode_Check_c3 : ACode := .seq [2] inode_Check_c2 .ret
def inode_Check_c4 : ACode := .cond (.t 22) inode_Check_c3 .skip
def inode_Check_c5 : ACode := .seq [1, 22] inode_Check_c1 inode_Check_c4
def inode_Check_o3 : List AOper := [{ dst := some 23, op := .fAddr (.t 1) 1 }, { dst := some 24, op := .load1 (.t 23) }, { dst := some 25, op := .call 163 [(.t 24)] }, { dst := some 26, op := .un .not (.t 25) }, { dst := some 27, op := .mv (.t 26) }, { dst := some 28, op := .fAddr (.t 1) 3, guard := some (27, false) }, { dst := some 29, op := .load1 (.t 28), guard := some (27, false) }, { dst := some 30, op := .call 163 [(.t 29)], guard := some (27, false) }, { dst := some 31, op := .un .not (.t 30), guard := some (27, false) }, { dst := some 32, op := .pick (.t 27) (.v (.c (.b true))) (.t 31) }, { dst := some 33, op := .mv (.t 32) }, { dst := some 34, op := .fAddr (.t 1) 2, guard := some (33, false) }, { dst := some 35, op := .load1 (.t 34), guard := some (33, false) }, { dst := some 36, op := .bin .lss (.t 35) (.v (.c (.i .i64 0))), guard := some (33, false) }, { dst := some 37, op := .pick (.t 33) (.v (.c (.b true))) (.t 36) }, { dst := some 38, op := .mv (.t 37) }, { dst := some 39, op := .fAddr (.t 1) 2, guard := some (38, false) }, { dst := some 40, op := .load1 (.t 39), guard := some (38, false) }, { dst := some 41, op := .bin .gtr (.t 40) (.v (.c (.i .i64 34304))), guard := some (38, false) }, { dst := some 42, op := .pick (.t 38) (.v (.c (.b true))) (.t 41) }]
def inode_Check_c6 : ACode := .ops inode_Check_o3
def inode_Check_o4 : List AOper := [{ dst := some 2, op := .mv (.v (.c (.i .i64 1))) }]
def inode_Check_c7 : ACode := .ops inode_Check_o4
def inode_Check_c8 : ACode := .seq [2] inode_Check_c7 .ret
def inode_Check_c9 : ACode := .cond (.t 42) inode_Check_c8 .skip
def inode_Check_c10 : ACode := .seq [1, 42] inode_Check_c6 inode_Check_c9
def inode_Check_o5 : List AOper := [{ dst := some 43, op := .loadN 11 (.t 1) }, { dst := some 44, op := .call 156 [(.t 43)] }, { dst := some 45, op := .mv (.v (.c (.i .i64 0))) }]
def inode_Check_c11 : ACode := .ops inode_Check_o5
def inode_Check_o6 : List AOper := [{ dst := some 46, op := .bin .lss (.t 45) (.v (.c (.i .i64 7))) }]
def inode_Check_c12 : ACode := .ops inode_Check_o6
def inode_Check_c13 : ACode := .cond (.t 46) .skip (.exit 0)
def inode_Check_o7 : List AOper := [{ dst := some 47, op := .idxA1 7 (.t 44) (.t 45) }, { dst := some 4, op := .mv (.t 47) }]
def inode_Check_c14 : ACode := .ops inode_Check_o7
def inode_Check_o8 : List AOper := [{ dst := some 48, op := .mv (.t 4) }, { dst := some 49, op := .call 163 [(.t 48)] }, { dst := some 50, op := .un .not (.t 49) }]
def inode_Check_c15 : ACode := .ops inode_Check_o8
def inode_Check_o9 : List AOper := [{ dst := some 2, op := .mv (.v (.c (.i .i64 1))) }]
def inode_Check_c16 : ACode := .ops inode_Check_o9
def inode_Check_c17 : ACode := .seq [2] inode_Check_c16 .ret
def inode_Check_c18 : ACode := .cond (.t 50) inode_Check_c17 .skip
def inode_Check_c19 : ACode := .seq [44, 45, 50] inode_Check_c15 inode_Check_c18
def inode_Check_c20 : ACode := .seq [4, 44, 45] inode_Check_c14 inode_Check_c19
def inode_Check_c21 : ACode := .block 1 inode_Check_c20
def inode_Check_o10 : List AOper := [{ dst := some 51, op := .bin .add (.t 45) (.v (.c (.i .i64 1))) }, { dst := some 45, op := .mv (.t 51) }]
def inode_Check_c22 : ACode := .ops inode_Check_o10
def inode_Check_c23 : ACode := .seq [44, 45] inode_Check_c21 inode_Check_c22
def inode_Check_c24 : ACode := .seq [44, 45] inode_Check_c13 inode_Check_c23
def inode_Check_c25 : ACode := .seq [44, 45, 46] inode_Check_c12 inode_Check_c24
def inode_Check_c26 : ACode := .loop [44, 45] inode_Check_c25
def inode_Check_c27 : ACode := .block 0 inode_Check_c26
def inode_Check_c28 : ACode := .seq [44, 45] inode_Check_c11 inode_Check_c27
def inode_Check_o11 : List AOper := [{ dst := some 2, op := .mv (.v (.c (.i .i64 0))) }]
def inode_Check_c29 : ACode := .ops inode_Check_o11
def inode_Check_c30 : ACode := .seq [2] inode_Check_c29 .ret
def inode_Check_c31 : ACode := .seq [] inode_Check_c28 inode_Check_c30
def inode_Check_c32 : ACode := .seq [1] inode_Check_c10 inode_Check_c31
def inode_Check_c33 : ACode := .seq [1] inode_Check_c5 inode_Check_c32
def inode_Check_c34 : ACode := .seq [1] inode_Check_c0 inode_Check_c33
def A_inode_Check : AFn := ⟨inode_Check_c34, [.tmp 2]⟩
noncomputable def E_inode_Check : Sums := disp 163 S_inode_small (disp 156 S_inode_Numbers disp0)
noncomputable def inode_Check_c0_d (n : Nat) : SmV := smOps E_inode_Check inode_Check_o0
noncomputable def inode_Check_c1_d (n : Nat) : SmV := smOps E_inode_Check inode_Check_o1
noncomputable def inode_Check_c2_d (n : Nat) : SmV := smOps E_inode_Check inode_Check_o2
noncomputable def inode_Check_c3_d (n : Nat) : SmV := smSeq [2] (inode_Check_c2_d n) smRet
noncomputable def inode_Check_c4_d (n : Nat) : SmV := smCond (.t 22) (inode_Check_c3_d n) smSkip
noncomputable def inode_Check_c5_d (n : Nat) : SmV := smSeq [1, 22] (inode_Check_c1_d n) (inode_Check_c4_d n)
noncomputable def inode_Check_c6_d (n : Nat) : SmV := smOps E_inode_Check inode_Check_o3
noncomputable def inode_Check_c7_d (n : Nat) : SmV := smOps E_inode_Check inode_Check_o4
noncomputable def inode_Check_c8_d (n : Nat) : SmV := smSeq [2] (inode_Check_c7_d n) smRet
noncomputable def inode_Check_c9_d (n : Nat) : SmV := smCond (.t 42) (inode_Check_c8_d n) smSkip
noncomputable def inode_Check_c10_d (n : Nat) : SmV := smSeq [1, 42] (inode_Check_c6_d n) (inode_Check_c9_d n)
noncomputable def inode_Check_c11_d (n : Nat) : SmV := smOps E_inode_Check inode_Check_o5
noncomputable def inode_Check_c12_d (n : Nat) : SmV := smOps E_inode_Check inode_Check_o6
noncomputable def inode_Check_c13_d (n : Nat) : SmV := smCond (.t 46) smSkip (smExit 0)
noncomputable def inode_Check_c14_d (n : Nat) : SmV := smOps E_inode_Check inode_Check_o7
noncomputable def inode_Check_c15_d (n : Nat) : SmV := smOps E_inode_Check inode_Check_o8
noncomputable def inode_Check_c16_d (n : Nat) : SmV := smOps E_inode_Check inode_Check_o9
noncomputable def inode_Check_c17_d (n : Nat) : SmV := smSeq [2] (inode_Check_c16_d n) smRet
noncomputable def inode_Check_c18_d (n : Nat) : SmV := smCond (.t 50) (inode_Check_c17_d n) smSkip
noncomputable def inode_Check_c19_d (n : Nat) : SmV := smSeq [44, 45, 50] (inode_Check_c15_d n) (inode_Check_c18_d n)
noncomputable def inode_Check_c20_d (n : Nat) : SmV := smSeq [4, 44, 45] (inode_Check_c14_d n) (inode_Check_c19_d n)
noncomputable def inode_Check_c21_d (n : Nat) : SmV := smBlock 1 (inode_Check_c20_d n)
noncomputable def inode_Check_c22_d (n : Nat) : SmV := smOps E_inode_Check inode_Check_o10
noncomputable def inode_Check_c23_d (n : Nat) : SmV := smSeq [44, 45] (inode_Check_c21_d n) (inode_Check_c22_d n)
noncomputable def inode_Check_c24_d (n : Nat) : SmV := smSeq [44, 45] (inode_Check_c13_d n) (inode_Check_c23_d n)
noncomputable def inode_Check_c25_d (n : Nat) : SmV := smSeq [44, 45, 46] (inode_Check_c12_d n) (inode_Check_c24_d n)
noncomputable def inode_Check_c26_d (n : Nat) : SmV := smLoop n [44, 45] (inode_Check_c25_d n)
noncomputable def inode_Check_c27_d (n : Nat) : SmV := smBlock 0 (inode_Check_c26_d n)
noncomputable def inode_Check_c28_d (n : Nat) : SmV := smSeq [44, 45] (inode_Check_c11_d n) (inode_Check_c27_d n)
noncomputable def inode_Check_c29_d (n : Nat) : SmV := smOps E_inode_Check inode_Check_o11
noncomputable def inode_Check_c30_d (n : Nat) : SmV := smSeq [2] (inode_Check_c29_d n) smRet
noncomputable def inode_Check_c31_d (n : Nat) : SmV := smSeq [] (inode_Check_c28_d n) (inode_Check_c30_d n)
noncomputable def inode_Check_c32_d (n : Nat) : SmV := smSeq [1] (inode_Check_c10_d n) (inode_Check_c31_d n)
noncomputable def inode_Check_c33_d (n : Nat) : SmV := smSeq [1] (inode_Check_c5_d n) (inode_Check_c32_d n)
noncomputable def inode_Check_c34_d (n : Nat) : SmV := smSeq [1] (inode_Check_c0_d n) (inode_Check_c33_d n)
noncomputable def inode_Check_k0 (n : Nat) : AExit → Env → Heap → OptV := fun x e h => match x with | .normal => hold ((inode_Check_c30_d n) A_inode_Check.fin (e.keep []) h) | .exit id => A_inode_Check.fin (.exit id) e h | .ret => A_inode_Check.fin .ret e h
noncomputable def inode_Check_k1 (n : Nat) : AExit → Env → Heap → OptV := fun x e h => match x with | .exit i => bif Nat.beq i 0 then (inode_Check_k0 n) .normal e h else (inode_Check_k0 n) (.exit i) e h | .normal => (inode_Check_k0 n) .normal e h | .ret => (inode_Check_k0 n) .ret e h
noncomputable def inode_Check_l0 (n m : Nat) (x44 x45 : Val) (h : Heap) : OptV := around (inode_Check_c25_d n) [44, 45] (inode_Check_k1 n) m [(44, x44), (45, x45)] h
noncomputable def R_inode_Check (n : Nat) (args : List Val) (h : Heap) : OptV := (inode_Check_c34_d n) A_inode_Check.fin (params 0 args) h
theorem R_inode_Check_eq (n : Nat) (a0 : Val) (h : Heap) : R_inode_Check n [a0] h = bnd (cells? a0) fun c1 => bnd (afAddr ((.c (.p h.length 0))) 0) fun v2 => bnd (aload1 ((h ++ [some (Row.mk (c1) true)])) v2) fun v3 => bnd (abin .lss v3 (.c (.i .i64 0))) fun v4 => bnd (gd v4 false (bnd (afAddr ((.c (.p h.length 0))) 0) fun v5 => some (v5, (h ++ [some (Row.mk (c1) true)]))) (some (.no, (h ++ [some (Row.mk (c1) true)])))) fun p6 => bnd (gd v4 false (bnd (aload1 p6.2 p6.1) fun v7 => some (v7, p6.2)) (some (.no, p6.2))) fun p8 => bnd (gd v4 false (bnd (abin .gtr p8.1 (.c (.i .i64 2))) fun v9 => some (v9, p8.2)) (some (.no, p8.2))) fun p10 => bnd (apick v4 (.c (.b true)) p10.1) fun v11 => bnd (gd v11 false (bnd (afAddr ((.c (.p h.length 0))) 0) fun v12 => some (v12, p10.2)) (some (.no, p10.2))) fun p13 => bnd (gd v11 false (bnd (aload1 p13.2 p13.1) fun v14 => some (v14, p13.2)) (some (.no, p13.2))) fun p15 => bnd (gd v11 false (bnd (abin .eql p15.1 (.c (.i .i64 0))) fun v16 => some (v16, p15.2)) (some (.no, p15.2))) fun p17 => bnd (gd v11 false (some (p17.1, p17.2)) (some (.no, p17.2))) fun p18 => bnd (gd p18.1 true (bnd (aloadN p18.2 11 ((.c (.p h.length 0)))) fun v19 => some (v19, p18.2)) (some (.no, p18.2))) fun p20 => bnd (gd p18.1 true (bnd (afill ([.i .i64 0, .i .i64 0, .i .i64 0, .i .i64 0, .i .i64 0, .i .i64 0, .i .i64 0, .i .i64 0, .i .i64 0, .i .i64 0, .i .i64 0]) []) fun c21 => some ((.a c21), p20.2)) (some (.no, p20.2))) fun p22 => bnd (gd p18.1 true (bnd (aeq true ([.i .i64, .i .i64, .i .i64, .i .i64, .i .i64, .i .i64, .i .i64, .i .i64, .i .i64, .i .i64, .i .i64]) p20.1 p22.1) fun v23 => some (v23, p22.2)) (some (.no, p22.2))) fun p24 => bnd (gd v11 false (bnd (apick p18.1 p24.1 (.c (.b false))) fun v25 => some (v25, p24.2)) (some (.no, p24.2))) fun p26 => bnd (apick v11 (.c (.b true)) p26.1) fun v27 => cnd v27 (some ((.c (.i .i64 1)), p26.2)) (bnd (afAddr ((.c (.p h.length 0))) 1) fun v28 => bnd (aload1 p26.2 v28) fun v29 => bnd (S_inode_small [v29] p26.2) fun p30 => bnd (aun .not p30.1) fun v31 => bnd (gd v31 false (bnd (afAddr ((.c (.p h.length 0))) 3) fun v32 => some (v32, p30.2)) (some (.no, p30.2))) fun p33 => bnd (gd v31 false (bnd (aload1 p33.2 p33.1) fun v34 => some (v34, p33.2)) (some (.no, p33.2))) fun p35 => bnd (gd v31 false (bnd (S_inode_small [p35.1] p35.2) fun p36 => some (p36.1, p36.2)) (some (.no, p35.2))) fun p37 => bnd (gd v31 false (bnd (aun .not p37.1) fun v38 => some (v38, p37.2)) (some (.no, p37.2))) fun p39 => bnd (apick v31 (.c (.b true)) p39.1) fun v40 => bnd (gd v40 false (bnd (afAddr ((.c (.p h.length 0))) 2) fun v41 => some (v41, p39.2)) (some (.no, p39.2))) fun p42 => bnd (gd v40 false (bnd (aload1 p42.2 p42.1) fun v43 => some (v43, p42.2)) (some (.no, p42.2))) fun p44 => bnd (gd v40 false (bnd (abin .lss p44.1 (.c (.i .i64 0))) fun v45 => some (v45, p44.2)) (some (.no, p44.2))) fun p46 => bnd (apick v40 (.c (.b true)) p46.1) fun v47 => bnd (gd v47 false (bnd (afAddr ((.c (.p h.length 0))) 2) fun v48 => some (v48, p46.2)) (some (.no, p46.2))) fun p49 => bnd (gd v47 false (bnd (aload1 p49.2 p49.1) fun v50 => some (v50, p49.2)) (some (.no, p49.2))) fun p51 => bnd (gd v47 false (bnd (abin .gtr p51.1 (.c (.i .i64 34304))) fun v52 => some (v52, p51.2)) (some (.no, p51.2))) fun p53 => bnd (apick v47 (.c (.b true)) p53.1) fun v54 => cnd v54 (some ((.c (.i .i64 1)), p53.2)) (bnd (aloadN p53.2 11 ((.c (.p h.length 0)))) fun v55 => bnd (S_inode_Numbers [v55] p53.2) fun p56 => inode_Check_l0 n n p56.1 (.c (.i .i64 0)) p56.2)) := by kernel_rfl
theorem inode_Check_l0_eq (n m : Nat) (x44 x45 : Val) (h : Heap) : inode_Check_l0 n (m + 1) x44 x45 h = bnd (abin .lss x45 (.c (.i .i64 7))) fun v57 => cnd v57 (bnd (aidxA1 7 x44 x45) fun v58 => bnd (S_inode_small [v58] h) fun p59 => bnd (aun .not p59.1) fun v60 => cnd v60 (some ((.c (.i .i64 1)), p59.2)) (bnd (abin .add x45 (.c (.i .i64 1))) fun v61 => inode_Check_l0 n m x44 v61 p59.2)) (some ((.c (.i .i64 0)), h)) := by kernel_rfl
theorem K_inode_Check : FnK Try.prog 155 A_inode_Check E_inode_Check R_inode_Check := .mk' (sound1 S_inode_small_ok (sound1 S_inode_Numbers_ok sound0)) Try.func155 (by kernel_rfl) (by intro n args h; kernel_rfl)
noncomputable def S_inode_Check : Fun := tidy (Lim A_inode_Check E_inode_Check)
theorem S_inode_Check_ok : SOk Try.prog 155 S_inode_Check := K_inode_Check.sok
theorem S_inode_Check_flat {n : Nat} {args : List Val} {h h2 : Heap} {v : Val} (he : R_inode_Check n args (ro h) = some (v, h2)) (hf : v.flat = true) : S_inode_Check args h = some (v, h) := K_inode_Check.flat he hf
def inode_Put_o0 : List AOper := [{ dst := some 1, op := .box (.t 0) }, { dst := some 2, op := .alloc (List.replicate 32 (.i .u8 0)) }, { dst := some 3, op := .mv (.v (.c (.i .i64 0))) }]
def inode_Put_c0 : ACode := .ops inode_Put_o0
def inode_Put_o1 : List AOper := [{ dst := some 4, op := .alloc (List.replicate 32 (.i .u8 0)) }]
def inode_Put_c1 : ACode := .ops inode_Put_o1
def inode_Put_o2 : List AOper := [{ dst := some 10, op := .loadN 11 (.t 1) }, { dst := some 11, op := .call 155 [(.t 10)] }, { dst := some 5, op := .mv (.t 11) }]
def inode_Put_c2 : ACode := .ops inode_Put_o2
def inode_Put_o3 : List AOper := [{ dst := some 12, op := .mv (.t 5) }, { dst := some 13, op := .bin .neq (.t 12) (.v (.c (.i .i64 0))) }]
def inode_Put_c3 : ACode := .ops inode_Put_o3
def inode_Put_o4 : List AOper := [{ dst := some 14, op := .loadN 32 (.t 4) }, { dst := some 15, op := .mv (.t 5) }, { dst := none, op := .storeN 32 (.t 2) (.t 14) }, { dst := some 3, op := .mv (.t 15) }]
def inode_Put_c4 : ACode := .ops inode_Put_o4
def inode_Put_c5 : ACode := .seq [2, 3] inode_Put_c4 .ret
def inode_Put_c6 : ACode := .cond (.t 13) inode_Put_c5 .skip
def inode_Put_c7 : ACode := .seq [1, 2, 4, 5, 13] inode_Put_c3 inode_Put_c6
def inode_Put_c8 : ACode := .seq [1, 2, 4, 5] inode_Put_c2 inode_Put_c7
def inode_Put_o5 : List AOper := [{ dst := some 6, op := .alloc (List.replicate 256 (.i .u8 0)) }]
def inode_Put_c9 : ACode := .ops inode_Put_o5
def inode_Put_o6 : List AOper := [{ dst := some 16, op := .loadN 256 (.t 6) }, { dst := some 17, op := .fAddr (.t 1) 0 }, { dst := some 18, op := .load1 (.t 17) }, { dst := some 19, op := .call 96 [(.t 16), (.v (.c (.i .i64 0))), (.v (.c (.i .i64 1))), (.t 18)] }, { dst := none, op := .storeN 256 (.t 6) (.t 19) }]
def inode_Put_c10 : ACode := .ops inode_Put_o6
def inode_Put_o7 : List AOper := [{ dst := some 20, op := .loadN 256 (.t 6) }, { dst := some 21, op := .fAddr (.t 1) 1 }, { dst := some 22, op := .load1 (.t 21) }, { dst := some 23, op := .call 96 [(.t 20), (.v (.c (.i .i64 2))), (.v (.c (.i .i64 2))), (.t 22)] }, { dst := none, op := .storeN 256 (.t 6) (.t 23) }]
def inode_Put_c11 : ACode := .ops inode_Put_o7
def inode_Put_o8 : List AOper := [{ dst := some 24, op := .loadN 256 (.t 6) }, { dst := some 25, op := .fAddr (.t 1) 2 }, { dst := some 26, op := .load1 (.t 25) }, { dst := some 27, op := .call 96 [(.t 24), (.v (.c (.i .i64 4))), (.v (.c (.i .i64 4))), (.t 26)] }, { dst := none, op := .storeN 256 (.t 6) (.t 27) }]
def inode_Put_c12 : ACode := .ops inode_Put_o8
def inode_Put_o9 : List AOper := [{ dst := some 28, op := .loadN 256 (.t 6) }, { dst := some 29, op := .fAddr (.t 1) 3 }, { dst := some 30, op := .load1 (.t 29) }, { dst := some 31, op := .call 96 [(.t 28), (.v (.c (.i .i64 8))), (.v (.c (.i .i64 2))), (.t 30)] }, { dst := none, op := .storeN 256 (.t 6) (.t 31) }]
def inode_Put_c13 : ACode := .ops inode_Put_o9
def inode_Put_o10 : List AOper := [{ dst := some 32, op := .loadN 11 (.t 1) }, { dst := some 33, op := .call 156 [(.t 32)] }, { dst := some 34, op := .mv (.v (.c (.i .i64 0))) }]
def inode_Put_c14 : ACode := .ops inode_Put_o10
def inode_Put_o11 : List AOper := [{ dst := some 35, op := .bin .lss (.t 34) (.v (.c (.i .i64 7))) }]
def inode_Put_c15 : ACode := .ops inode_Put_o11
def inode_Put_c16 : ACode := .cond (.t 35) .skip (.exit 0)
def inode_Put_o12 : List AOper := [{ dst := some 36, op := .mv (.t 34) }, { dst := some 37, op := .idxA1 7 (.t 33) (.t 34) }, { dst := some 7, op := .mv (.t 36) }, { dst := some 8, op := .mv (.t 37) }]
def inode_Put_c17 : ACode := .ops inode_Put_o12
def inode_Put_o13 : List AOper := [{ dst := some 38, op := .loadN 256 (.t 6) }, { dst := some 39, op := .mv (.t 7) }, { dst := some 40, op := .bin .mul (.v (.c (.i .i64 2))) (.t 39) }, { dst := some 41, op := .bin .add (.v (.c (.i .i64 10))) (.t 40) }, { dst := some 42, op := .mv (.t 8) }, { dst := some 43, op := .call 96 [(.t 38), (.t 41), (.v (.c (.i .i64 2))), (.t 42)] }, { dst := none, op := .storeN 256 (.t 6) (.t 43) }]
def inode_Put_c18 : ACode := .ops inode_Put_o13
def inode_Put_c19 : ACode := .seq [2, 4, 6, 7, 8, 33, 34] inode_Put_c17 inode_Put_c18
def inode_Put_c20 : ACode := .block 1 inode_Put_c19
def inode_Put_o14 : List AOper := [{ dst := some 44, op := .bin .add (.t 34) (.v (.c (.i .i64 1))) }, { dst := some 34, op := .mv (.t 44) }]
def inode_Put_c21 : ACode := .ops inode_Put_o14
def inode_Put_c22 : ACode := .seq [2, 4, 6, 33, 34] inode_Put_c20 inode_Put_c21
def inode_Put_c23 : ACode := .seq [2, 4, 6, 33, 34] inode_Put_c16 inode_Put_c22
def inode_Put_c24 : ACode := .seq [2, 4, 6, 33, 34, 35] inode_Put_c15 inode_Put_c23
def inode_Put_c25 : ACode := .loop [2, 4, 6, 33, 34] inode_Put_c24
def inode_Put_c26 : ACode := .block 0 inode_Put_c25
def inode_Put_c27 : ACode := .seq [2, 4, 6, 33, 34] inode_Put_c14 inode_Put_c26
def inode_Put_o15 : List AOper := [{ dst := some 45, op := .mv (.v (.c (.i .i64 0))) }]
def inode_Put_c28 : ACode := .ops inode_Put_o15
def inode_Put_o16 : List AOper := [{ dst := some 46, op := .bin .lss (.t 45) (.v (.c (.i .i64 32))) }]
def inode_Put_c29 : ACode := .ops inode_Put_o16
def inode_Put_c30 : ACode := .cond (.t 46) .skip (.exit 2)
def inode_Put_o17 : List AOper := [{ dst := some 47, op := .mv (.t 45) }, { dst := some 9, op := .mv (.t 47) }]
def inode_Put_c31 : ACode := .ops inode_Put_o17
def inode_Put_o18 : List AOper := [{ dst := some 48, op := .mv (.t 9) }, { dst := some 49, op := .mv (.t 9) }, { dst := some 50, op := .iAddrA 256 1 (.t 6) (.t 49) }, { dst := some 51, op := .load1 (.t 50) }, { dst := some 52, op := .iAddrA 32 1 (.t 4) (.t 48) }, { dst := none, op := .store1 (.t 52) (.t 51) }]
def inode_Put_c32 : ACode := .ops inode_Put_o18
def inode_Put_c33 : ACode := .seq [2, 4, 6, 9, 45] inode_Put_c31 inode_Put_c32
def inode_Put_c34 : ACode := .block 3 inode_Put_c33
def inode_Put_o19 : List AOper := [{ dst := some 53, op := .bin .add (.t 45) (.v (.c (.i .i64 1))) }, { dst := some 45, op := .mv (.t 53) }]
def inode_Put_c35 : ACode := .ops inode_Put_o19
def inode_Put_c36 : ACode := .seq [2, 4, 6, 45] inode_Put_c34 inode_Put_c35
def inode_Put_c37 : ACode := .seq [2, 4, 6, 45] inode_Put_c30 inode_Put_c36
def inode_Put_c38 : ACode := .seq [2, 4, 6, 45, 46] inode_Put_c29 inode_Put_c37
def inode_Put_c39 : ACode := .loop [2, 4, 6, 45] inode_Put_c38
def inode_Put_c40 : ACode := .block 2 inode_Put_c39
def inode_Put_c41 : ACode := .seq [2, 4, 6, 45] inode_Put_c28 inode_Put_c40
def inode_Put_o20 : List AOper := [{ dst := some 54, op := .loadN 32 (.t 4) }, { dst := none, op := .storeN 32 (.t 2) (.t 54) }, { dst := some 3, op := .mv (.v (.c (.i .i64 0))) }]
def inode_Put_c42 : ACode := .ops inode_Put_o20
def inode_Put_c43 : ACode := .seq [2, 3] inode_Put_c42 .ret
def inode_Put_c44 : ACode := .seq [2, 4] inode_Put_c41 inode_Put_c43
def inode_Put_c45 : ACode := .seq [2, 4, 6] inode_Put_c27 inode_Put_c44
def inode_Put_c46 : ACode := .seq [1, 2, 4, 6] inode_Put_c13 inode_Put_c45
def inode_Put_c47 : ACode := .seq [1, 2, 4, 6] inode_Put_c12 inode_Put_c46
def inode_Put_c48 : ACode := .seq [1, 2, 4, 6] inode_Put_c11 inode_Put_c47
def inode_Put_c49 : ACode := .seq [1, 2, 4, 6] inode_Put_c10 inode_Put_c48
def inode_Put_c50 : ACode := .seq [1, 2, 4, 6] inode_Put_c9 inode_Put_c49
def inode_Put_c51 : ACode := .seq [1, 2, 4] inode_Put_c8 inode_Put_c50
def inode_Put_c52 : ACode := .seq [1, 2, 4] inode_Put_c1 inode_Put_c51
def inode_Put_c53 : ACode := .seq [1, 2] inode_Put_c0 inode_Put_c52
def A_inode_Put : AFn := ⟨inode_Put_c53, [.cellN 2 32, .tmp 3]⟩
noncomputable def E_inode_Put : Sums := disp 155 S_inode_Check (disp 96 S_num_With (disp 156 S_inode_Numbers disp0))
noncomputable def inode_Put_c0_d (n : Nat) : SmV := smOps E_inode_Put inode_Put_o0
noncomputable def inode_Put_c1_d (n : Nat) : SmV := smOps E_inode_Put inode_Put_o1
noncomputable def inode_Put_c2_d (n : Nat) : SmV := smOps E_inode_Put inode_Put_o2
noncomputable def inode_Put_c3_d (n : Nat) : SmV := smOps E_inode_Put inode_Put_o3
noncomputable def inode_Put_c4_d (n : Nat) : SmV := smOps E_inode_Put inode_Put_o4
noncomputable def inode_Put_c5_d (n : Nat) : SmV := smSeq [2, 3] (inode_Put_c4_d n) smRet
noncomputable def inode_Put_c6_d (n : Nat) : SmV := smCond (.t 13) (inode_Put_c5_d n) smSkip
noncomputable def inode_Put_c7_d (n : Nat) : SmV := smSeq [1, 2, 4, 5, 13] (inode_Put_c3_d n) (inode_Put_c6_d n)
noncomputable def inode_Put_c8_d (n : Nat) : SmV := smSeq [1, 2, 4, 5] (inode_Put_c2_d n) (inode_Put_c7_d n)
noncomputable def inode_Put_c9_d (n : Nat) : SmV := smOps E_inode_Put inode_Put_o5
noncomputable def inode_Put_c10_d (n : Nat) : SmV := smOps E_inode_Put inode_Put_o6
noncomputable def inode_Put_c11_d (n : Nat) : SmV := smOps E_inode_Put inode_Put_o7
noncomputable def inode_Put_c12_d (n : Nat) : SmV := smOps E_inode_Put inode_Put_o8
noncomputable def inode_Put_c13_d (n : Nat) : SmV := smOps E_inode_Put inode_Put_o9
noncomputable def inode_Put_c14_d (n : Nat) : SmV := smOps E_inode_Put inode_Put_o10
noncomputable def inode_Put_c15_d (n : Nat) : SmV := smOps E_inode_Put inode_Put_o11
noncomputable def inode_Put_c16_d (n : Nat) : SmV := smCond (.t 35) smSkip (smExit 0)
noncomputable def inode_Put_c17_d (n : Nat) : SmV := smOps E_inode_Put inode_Put_o12
noncomputable def inode_Put_c18_d (n : Nat) : SmV := smOps E_inode_Put inode_Put_o13
noncomputable def inode_Put_c19_d (n : Nat) : SmV := smSeq [2, 4, 6, 7, 8, 33, 34] (inode_Put_c17_d n) (inode_Put_c18_d n)
noncomputable def inode_Put_c20_d (n : Nat) : SmV := smBlock 1 (inode_Put_c19_d n)
noncomputable def inode_Put_c21_d (n : Nat) : SmV := smOps E_inode_Put inode_Put_o14
noncomputable def inode_Put_c22_d (n : Nat) : SmV := smSeq [2, 4, 6, 33, 34] (inode_Put_c20_d n) (inode_Put_c21_d n)
noncomputable def inode_Put_c23_d (n : Nat) : SmV := smSeq [2, 4, 6, 33, 34] (inode_Put_c16_d n) (inode_Put_c22_d n)
noncomputable def inode_Put_c24_d (n : Nat) : SmV := smSeq [2, 4, 6, 33, 34, 35] (inode_Put_c15_d n) (inode_Put_c23_d n)
noncomputable def inode_Put_c25_d (n : Nat) : SmV := smLoop n [2, 4, 6, 33, 34] (inode_Put_c24_d n)
noncomputable def inode_Put_c26_d (n : Nat) : SmV := smBlock 0 (inode_Put_c25_d n)
noncomputable def inode_Put_c27_d (n : Nat) : SmV := smSeq [2, 4, 6, 33, 34] (inode_Put_c14_d n) (inode_Put_c26_d n)
noncomputable def inode_Put_c28_d (n : Nat) : SmV := smOps E_inode_Put inode_Put_o15
noncomputable def inode_Put_c29_d (n : Nat) : SmV := smOps E_inode_Put inode_Put_o16
noncomputable def inode_Put_c30_d (n : Nat) : SmV := smCond (.t 46) smSkip (smExit 2)
noncomputable def inode_Put_c31_d (n : Nat) : SmV := smOps E_inode_Put inode_Put_o17
noncomputable def inode_Put_c32_d (n : Nat) : SmV := smOps E_inode_Put inode_Put_o18
noncomputable def inode_Put_c33_d (n : Nat) : SmV := smSeq [2, 4, 6, 9, 45] (inode_Put_c31_d n) (inode_Put_c32_d n)
noncomputable def inode_Put_c34_d (n : Nat) : SmV := smBlock 3 (inode_Put_c33_d n)
noncomputable def inode_Put_c35_d (n : Nat) : SmV := smOps E_inode_Put inode_Put_o19
noncomputable def inode_Put_c36_d (n : Nat) : SmV := smSeq [2, 4, 6, 45] (inode_Put_c34_d n) (inode_Put_c35_d n)
noncomputable def inode_Put_c37_d (n : Nat) : SmV := smSeq [2, 4, 6, 45] (inode_Put_c30_d n) (inode_Put_c36_d n)
noncomputable def inode_Put_c38_d (n : Nat) : SmV := smSeq [2, 4, 6, 45, 46] (inode_Put_c29_d n) (inode_Put_c37_d n)
noncomputable def inode_Put_c39_d (n : Nat) : SmV := smLoop n [2, 4, 6, 45] (inode_Put_c38_d n)
noncomputable def inode_Put_c40_d (n : Nat) : SmV := smBlock 2 (inode_Put_c39_d n)
noncomputable def inode_Put_c41_d (n : Nat) : SmV := smSeq [2, 4, 6, 45] (inode_Put_c28_d n) (inode_Put_c40_d n)
noncomputable def inode_Put_c42_d (n : Nat) : SmV := smOps E_inode_Put inode_Put_o20
noncomputable def inode_Put_c43_d (n : Nat) : SmV := smSeq [2, 3] (inode_Put_c42_d n) smRet
noncomputable def inode_Put_c44_d (n : Nat) : SmV := smSeq [2, 4] (inode_Put_c41_d n) (inode_Put_c43_d n)
noncomputable def inode_Put_c45_d (n : Nat) : SmV := smSeq [2, 4, 6] (inode_Put_c27_d n) (inode_Put_c44_d n)
noncomputable def inode_Put_c46_d (n : Nat) : SmV := smSeq [1, 2, 4, 6] (inode_Put_c13_d n) (inode_Put_c45_d n)
noncomputable def inode_Put_c47_d (n : Nat) : SmV := smSeq [1, 2, 4, 6] (inode_Put_c12_d n) (inode_Put_c46_d n)
noncomputable def inode_Put_c48_d (n : Nat) : SmV := smSeq [1, 2, 4, 6] (inode_Put_c11_d n) (inode_Put_c47_d n)
noncomputable def inode_Put_c49_d (n : Nat) : SmV := smSeq [1, 2, 4, 6] (inode_Put_c10_d n) (inode_Put_c48_d n)
noncomputable def inode_Put_c50_d (n : Nat) : SmV := smSeq [1, 2, 4, 6] (inode_Put_c9_d n) (inode_Put_c49_d n)
noncomputable def inode_Put_c51_d (n : Nat) : SmV := smSeq [1, 2, 4] (inode_Put_c8_d n) (inode_Put_c50_d n)
noncomputable def inode_Put_c52_d (n : Nat) : SmV := smSeq [1, 2, 4] (inode_Put_c1_d n) (inode_Put_c51_d n)
noncomputable def inode_Put_c53_d (n : Nat) : SmV := smSeq [1, 2] (inode_Put_c0_d n) (inode_Put_c52_d n)
noncomputable def inode_Put_k0 (n : Nat) : AExit → Env → Heap → OptV := fun x e h => match x with | .normal => hold ((inode_Put_c44_d n) A_inode_Put.fin (e.keep [2, 4, 6]) h) | .exit id => A_inode_Put.fin (.exit id) e h | .ret => A_inode_Put.fin .ret e h
noncomputable def inode_Put_k1 (n : Nat) : AExit → Env → Heap → OptV := fun x e h => match x with | .exit i => bif Nat.beq i 0 then (inode_Put_k0 n) .normal e h else (inode_Put_k0 n) (.exit i) e h | .normal => (inode_Put_k0 n) .normal e h | .ret => (inode_Put_k0 n) .ret e h
noncomputable def inode_Put_l0 (n m : Nat) (x2 x4 x6 x33 x34 : Val) (h : Heap) : OptV := around (inode_Put_c24_d n) [2, 4, 6, 33, 34] (inode_Put_k1 n) m [(2, x2), (4, x4), (6, x6), (33, x33), (34, x34)] h
noncomputable def R_inode_Put (n : Nat) (args : List Val) (h : Heap) : OptV := (inode_Put_c53_d n) A_inode_Put.fin (params 0 args) h
noncomputable def inode_Put_k2 (n : Nat) : AExit → Env → Heap → OptV := fun x e h => match x with | .normal => hold ((inode_Put_c43_d n) A_inode_Put.fin (e.keep [2, 4]) h) | .exit id => A_inode_Put.fin (.exit id) e h | .ret => A_inode_Put.fin .ret e h
noncomputable def inode_Put_k3 (n : Nat) : AExit → Env → Heap → OptV := fun x e h => match x with | .exit i => bif Nat.beq i 2 then (inode_Put_k2 n) .normal e h else (inode_Put_k2 n) (.exit i) e h | .normal => (inode_Put_k2 n) .normal e h | .ret => (inode_Put_k2 n) .ret e h
noncomputable def inode_Put_l1 (n m : Nat) (x2 x4 x6 x45 : Val) (h : Heap) : OptV := around (inode_Put_c38_d n) [2, 4, 6, 45] (inode_Put_k3 n) m [(2, x2), (4, x4), (6, x6), (45, x45)] h
theorem R_inode_Put_eq (n : Nat) (a0 : Val) (h : Heap) : R_inode_Put n [a0] h = bnd (cells? a0) fun c1 => bnd (aloadN ((((h ++ [some (Row.mk (c1) true)]) ++ [some (Row.mk (List.replicate 32 (.i .u8 0)) true)]) ++ [some (Row.mk (List.replicate 32 (.i .u8 0)) true)])) 11 ((.c (.p h.length 0)))) fun v2 => bnd (S_inode_Check [v2] ((((h ++ [some (Row.mk (c1) true)]) ++ [some (Row.mk (List.replicate 32 (.i .u8 0)) true)]) ++ [some (Row.mk (List.replicate 32 (.i .u8 0)) true)]))) fun p3 => bnd (abin .neq p3.1 (.c (.i .i64 0))) fun v4 => cnd v4 (bnd (aloadN p3.2 32 ((.c (.p (((h ++ [some (Row.mk (c1) true)]) ++ [some (Row.mk (List.replicate 32 (.i .u8 0)) true)])).length 0)))) fun v5 => bnd (astoreN p3.2 32 ((.c (.p ((h ++ [some (Row.mk (c1) true)])).length 0))) v5) fun h6 => tupN [aloadN h6 32 ((.c (.p ((h ++ [some (Row.mk (c1) true)])).length 0))), some p3.1] h6) (bnd (aloadN ((p3.2 ++ [some (Row.mk (List.replicate 256 (.i .u8 0)) true)])) 256 ((.c (.p p3.2.length 0)))) fun v7 => bnd (afAddr ((.c (.p h.length 0))) 0) fun v8 => bnd (aload1 ((p3.2 ++ [some (Row.mk (List.replicate 256 (.i .u8 0)) true)])) v8) fun v9 => bnd (S_num_With [v7, .c (.i .i64 0), .c (.i .i64 1), v9] ((p3.2 ++ [some (Row.mk (List.replicate 256 (.i .u8 0)) true)]))) fun p10 => bnd (astoreN p10.2 256 ((.c (.p p3.2.length 0))) p10.1) fun h11 => bnd (aloadN h11 256 ((.c (.p p3.2.length 0)))) fun v12 => bnd (afAddr ((.c (.p h.length 0))) 1) fun v13 => bnd (aload1 h11 v13) fun v14 => bnd (S_num_With [v12, .c (.i .i64 2), .c (.i .i64 2), v14] h11) fun p15 => bnd (astoreN p15.2 256 ((.c (.p p3.2.length 0))) p15.1) fun h16 => bnd (aloadN h16 256 ((.c (.p p3.2.length 0)))) fun v17 => bnd (afAddr ((.c (.p h.length 0))) 2) fun v18 => bnd (aload1 h16 v18) fun v19 => bnd (S_num_With [v17, .c (.i .i64 4), .c (.i .i64 4), v19] h16) fun p20 => bnd (astoreN p20.2 256 ((.c (.p p3.2.length 0))) p20.1) fun h21 => bnd (aloadN h21 256 ((.c (.p p3.2.length 0)))) fun v22 => bnd (afAddr ((.c (.p h.length 0))) 3) fun v23 => bnd (aload1 h21 v23) fun v24 => bnd (S_num_With [v22, .c (.i .i64 8), .c (.i .i64 2), v24] h21) fun p25 => bnd (astoreN p25.2 256 ((.c (.p p3.2.length 0))) p25.1) fun h26 => bnd (aloadN h26 11 ((.c (.p h.length 0)))) fun v27 => bnd (S_inode_Numbers [v27] h26) fun p28 => inode_Put_l0 n n ((.c (.p ((h ++ [some (Row.mk (c1) true)])).length 0))) ((.c (.p (((h ++ [some (Row.mk (c1) true)]) ++ [some (Row.mk (List.replicate 32 (.i .u8 0)) true)])).length 0))) ((.c (.p p3.2.length 0))) p28.1 (.c (.i .i64 0)) p28.2) := by kernel_rfl
theorem inode_Put_l0_eq (n m : Nat) (x2 x4 x6 x33 x34 : Val) (h : Heap) : inode_Put_l0 n (m + 1) x2 x4 x6 x33 x34 h = bnd (abin .lss x34 (.c (.i .i64 7))) fun v29 => cnd v29 (bnd (aidxA1 7 x33 x34) fun v30 => bnd (aloadN h 256 x6) fun v31 => bnd (abin .mul (.c (.i .i64 2)) x34) fun v32 => bnd (abin .add (.c (.i .i64 10)) v32) fun v33 => bnd (S_num_With [v31, v33, .c (.i .i64 2), v30] h) fun p34 => bnd (astoreN p34.2 256 x6 p34.1) fun h35 => bnd (abin .add x34 (.c (.i .i64 1))) fun v36 => inode_Put_l0 n m x2 x4 x6 x33 v36 h35) (inode_Put_l1 n n x2 x4 x6 (.c (.i .i64 0)) h) := by kernel_rfl
theorem inode_Put_l1_eq (n m : Nat) (x2 x4 x6 x45 : Val) (h : Heap) : inode_Put_l1 n (m + 1) x2 x4 x6 x45 h = bnd (abin .lss x45 (.c (.i .i64 32))) fun v37 => cnd v37 (bnd (aiAddrA 256 1 x6 x45) fun v38 => bnd (aload1 h v38) fun v39 => bnd (aiAddrA 32 1 x4 x45) fun v40 => bnd (astore1 h v40 v39) fun h41 => bnd (abin .add x45 (.c (.i .i64 1))) fun v42 => inode_Put_l1 n m x2 x4 x6 v42 h41) (bnd (aloadN h 32 x4) fun v43 => bnd (astoreN h 32 x2 v43) fun h44 => tupN [aloadN h44 32 x2, some (.c (.i .i64 0))] h44) := by kernel_rfl
theorem K_inode_Put : FnK Try.prog 134 A_inode_Put E_inode_Put R_inode_Put := .mk' (sound1 S_inode_Check_ok (sound1 S_num_With_ok (sound1 S_inode_Numbers_ok sound0))) Try.func134 (by kernel_rfl) (by intro n args h; kernel_rfl)
noncomputable def S_inode_Put : Fun := tidy (Lim A_inode_Put E_inode_Put)
theorem S_inode_Put_ok : SOk Try.prog 134 S_inode_Put := K_inode_Put.sok
theorem S_inode_Put_flat {n : Nat} {args : List Val} {h h2 : Heap} {v : Val} (he : R_inode_Put n args (ro h) = some (v, h2)) (hf : v.flat = true) : S_inode_Put args h = some (v, h) := K_inode_Put.flat he hf
def inode_Clean_o0 : List AOper := [{ dst := some 1, op := .box (.t 0) }, { dst := some 2, op := .alloc ([.i .i64 0, .i .i64 0, .i .i64 0, .i .i64 0, .i .i64 0, .i .i64 0, .i .i64 0, .i .i64 0, .i .i64 0, .i .i64 0, .i .i64 0]) }, { dst := some 3, op := .mv (.v (.c (.b false))) }]
def inode_Clean_c0 : ACode := .ops inode_Clean_o0
def inode_Clean_o1 : List AOper := [{ dst := some 7, op := .loadN 32 (.t 1) }, { dst := some 8, op := .call 133 [(.t 7)] }, { dst := some 4, op := .alloc ([.i .i64 0, .i .i64 0, .i .i64 0, .i .i64 0, .i .i64 0, .i .i64 0, .i .i64 0, .i .i64 0, .i .i64 0, .i .i64 0, .i .i64 0]) }, { dst := none, op := .storeN 11 (.t 4) (.t 8) }]
def inode_Clean_c1 : ACode := .ops inode_Clean_o1
def inode_Clean_o2 : List AOper := [{ dst := some 10, op := .loadN 11 (.t 4) }, { dst := some 11, op := .call 134 [(.t 10)] }, { dst := some 9, op := .mv (.t 11) }, { dst := some 12, op := .ext (.t 9) 0 }, { dst := some 13, op := .ext (.t 9) 1 }, { dst := some 5, op := .alloc (List.replicate 32 (.i .u8 0)) }, { dst := none, op := .storeN 32 (.t 5) (.t 12) }, { dst := some 6, op := .mv (.t 13) }]
def inode_Clean_c2 : ACode := .ops inode_Clean_o2
def inode_Clean_o3 : List AOper := [{ dst := some 14, op := .mv (.t 6) }, { dst := some 15, op := .bin .neq (.t 14) (.v (.c (.i .i64 0))) }, { dst := some 16, op := .mv (.t 15) }, { dst := some 17, op := .loadN 32 (.t 5), guard := some (16, false) }, { dst := some 18, op := .loadN 32 (.t 1), guard := some (16, false) }, { dst := some 19, op := .eqA true (List.replicate 32 (.i .u8)) (.t 17) (.t 18), guard := some (16, false) }, { dst := some 20, op := .pick (.t 16) (.v (.c (.b true))) (.t 19) }]
def inode_Clean_c3 : ACode := .ops inode_Clean_o3
def inode_Clean_o4 : List AOper := [{ dst := some 21, op := .build ([.i .i64 0, .i .i64 0, .i .i64 0, .i .i64 0, .i .i64 0, .i .i64 0, .i .i64 0, .i .i64 0, .i .i64 0, .i .i64 0, .i .i64 0]) [] }, { dst := none, op := .storeN 11 (.t 2) (.t 21) }, { dst := some 3, op := .mv (.v (.c (.b false))) }]
def inode_Clean_c4 : ACode := .ops inode_Clean_o4
def inode_Clean_c5 : ACode := .seq [2, 3] inode_Clean_c4 .ret
def inode_Clean_c6 : ACode := .cond (.t 20) inode_Clean_c5 .skip
def inode_Clean_c7 : ACode := .seq [2, 4, 20] inode_Clean_c3 inode_Clean_c6
def inode_Clean_c8 : ACode := .seq [1, 2, 4, 5, 6] inode_Clean_c2 inode_Clean_c7
def inode_Clean_o5 : List AOper := [{ dst := some 22, op := .loadN 11 (.t 4) }, { dst := none, op := .storeN 11 (.t 2) (.t 22) }, { dst := some 3, op := .mv (.v (.c (.b true))) }]
def inode_Clean_c9 : ACode := .ops inode_Clean_o5
def inode_Clean_c10 : ACode := .seq [2, 3] inode_Clean_c9 .ret
def inode_Clean_c11 : ACode := .seq [2, 4] inode_Clean_c8 inode_Clean_c10
def inode_Clean_c12 : ACode := .seq [1, 2, 4] inode_Clean_c1 inode_Clean_c11
def inode_Clean_c13 : ACode := .seq [1, 2] inode_Clean_c0 inode_Clean_c12
def A_inode_Clean : AFn := ⟨inode_Clean_c13, [.cellN 2 11, .tmp 3]⟩
noncomputable def E_inode_Clean : Sums := disp 133 S_inode_Get (disp 134 S_inode_Put disp0)
noncomputable def inode_Clean_c0_d (n : Nat) : SmV := smOps E_inode_Clean inode_Clean_o0
noncomputable def inode_Clean_c1_d (n : Nat) : SmV := smOps E_inode_Clean inode_Clean_o1
noncomputable def inode_Clean_c2_d (n : Nat) : SmV := smOps E_inode_Clean inode_Clean_o2
noncomputable def inode_Clean_c3_d (n : Nat) : SmV := smOps E_inode_Clean inode_Clean_o3
noncomputable def inode_Clean_c4_d (n : Nat) : SmV := smOps E_inode_Clean inode_Clean_o4
noncomputable def inode_Clean_c5_d (n : Nat) : SmV := smSeq [2, 3] (inode_Clean_c4_d n) smRet
noncomputable def inode_Clean_c6_d (n : Nat) : SmV := smCond (.t 20) (inode_Clean_c5_d n) smSkip
noncomputable def inode_Clean_c7_d (n : Nat) : SmV := smSeq [2, 4, 20] (inode_Clean_c3_d n) (inode_Clean_c6_d n)
noncomputable def inode_Clean_c8_d (n : Nat) : SmV := smSeq [1, 2, 4, 5, 6] (inode_Clean_c2_d n) (inode_Clean_c7_d n)
noncomputable def inode_Clean_c9_d (n : Nat) : SmV := smOps E_inode_Clean inode_Clean_o5
noncomputable def inode_Clean_c10_d (n : Nat) : SmV := smSeq [2, 3] (inode_Clean_c9_d n) smRet
noncomputable def inode_Clean_c11_d (n : Nat) : SmV := smSeq [2, 4] (inode_Clean_c8_d n) (inode_Clean_c10_d n)
noncomputable def inode_Clean_c12_d (n : Nat) : SmV := smSeq [1, 2, 4] (inode_Clean_c1_d n) (inode_Clean_c11_d n)
noncomputable def inode_Clean_c13_d (n : Nat) : SmV := smSeq [1, 2] (inode_Clean_c0_d n) (inode_Clean_c12_d n)
noncomputable def R_inode_Clean (n : Nat) (args : List Val) (h : Heap) : OptV := (inode_Clean_c13_d n) A_inode_Clean.fin (params 0 args) h
theorem R_inode_Clean_eq (n : Nat) (a0 : Val) (h : Heap) : R_inode_Clean n [a0] h = bnd (cells? a0) fun c1 => bnd (aloadN (((h ++ [some (Row.mk (c1) true)]) ++ [some (Row.mk ([.i .i64 0, .i .i64 0, .i .i64 0, .i .i64 0, .i .i64 0, .i .i64 0, .i .i64 0, .i .i64 0, .i .i64 0, .i .i64 0, .i .i64 0]) true)])) 32 ((.c (.p h.length 0)))) fun v2 => bnd (S_inode_Get [v2] (((h ++ [some (Row.mk (c1) true)]) ++ [some (Row.mk ([.i .i64 0, .i .i64 0, .i .i64 0, .i .i64 0, .i .i64 0, .i .i64 0, .i .i64 0, .i .i64 0, .i .i64 0, .i .i64 0, .i .i64 0]) true)]))) fun p3 => bnd (astoreN ((p3.2 ++ [some (Row.mk ([.i .i64 0, .i .i64 0, .i .i64 0, .i .i64 0, .i .i64 0, .i .i64 0, .i .i64 0, .i .i64 0, .i .i64 0, .i .i64 0, .i .i64 0]) true)])) 11 ((.c (.p p3.2.length 0))) p3.1) fun h4 => bnd (aloadN h4 11 ((.c (.p p3.2.length 0)))) fun v5 => bnd (S_inode_Put [v5] h4) fun p6 => bnd (aext p6.1 0) fun v7 => bnd (aext p6.1 1) fun v8 => bnd (astoreN ((p6.2 ++ [some (Row.mk (List.replicate 32 (.i .u8 0)) true)])) 32 ((.c (.p p6.2.length 0))) v7) fun h9 => bnd (abin .neq v8 (.c (.i .i64 0))) fun v10 => bnd (gd v10 false (bnd (aloadN h9 32 ((.c (.p p6.2.length 0)))) fun v11 => some (v11, h9)) (some (.no, h9))) fun p12 => bnd (gd v10 false (bnd (aloadN p12.2 32 ((.c (.p h.length 0)))) fun v13 => some (v13, p12.2)) (some (.no, p12.2))) fun p14 => bnd (gd v10 false (bnd (aeq true (List.replicate 32 (.i .u8)) p12.1 p14.1) fun v15 => some (v15, p14.2)) (some (.no, p14.2))) fun p16 => bnd (apick v10 (.c (.b true)) p16.1) fun v17 => cnd v17 (bnd (afill ([.i .i64 0, .i .i64 0, .i .i64 0, .i .i64 0, .i .i64 0, .i .i64 0, .i .i64 0, .i .i64 0, .i .i64 0, .i .i64 0, .i .i64 0]) []) fun c18 => bnd (astoreN p16.2 11 ((.c (.p ((h ++ [some (Row.mk (c1) true)])).length 0))) ((.a c18))) fun h19 => tupN [aloadN h19 11 ((.c (.p ((h ++ [some (Row.mk (c1) true)])).length 0))), some (.c (.b false))] h19) (bnd (aloadN p16.2 11 ((.c (.p p3.2.length 0)))) fun v20 => bnd (astoreN p16.2 11 ((.c (.p ((h ++ [some (Row.mk (c1) true)])).length 0))) v20) fun h21 => tupN [aloadN h21 11 ((.c (.p ((h ++ [some (Row.mk (c1) true)])).length 0))), some (.c (.b true))] h21) := by kernel_rfl
theorem K_inode_Clean : FnK Try.prog 104 A_inode_Clean E_inode_Clean R_inode_Clean := .mk' (sound1 S_inode_Get_ok (sound1 S_inode_Put_ok sound0)) Try.func104 (by kernel_rfl) (by intro n args h; kernel_rfl)
noncomputable def S_inode_Clean : Fun := tidy (Lim A_inode_Clean E_inode_Clean)
theorem S_inode_Clean_ok : SOk Try.prog 104 S_inode_Clean := K_inode_Clean.sok
theorem S_inode_Clean_flat {n : Nat} {args : List Val} {h h2 : Heap} {v : Val} (he : R_inode_Clean n args (ro h) = some (v, h2)) (hf : v.flat = true) : S_inode_Clean args h = some (v, h) := K_inode_Clean.flat he hf
end Go.Proofs.Ytdgggnlbdoiloaa
end
section
namespace Go.Proofs.Ytdgggnlbdoiloaa
open Go Go.Esc
set_option maxRecDepth 100000
def patch_Check_o0 : List AOper := [{ dst := some 1, op := .box (.t 0) }, { dst := some 2, op := .mv (.v (.c (.i .i64 0))) }]
def patch_Check_c0 : ACode := .ops patch_Check_o0
def patch_Check_o1 : List AOper := [{ dst := some 4, op := .fAddr (.t 1) 1 }, { dst := some 5, op := .load1 (.t 4) }, { dst := some 6, op := .len (.t 5) }, { dst := some 3, op := .mv (.t 6) }]
def patch_Check_c1 : ACode := .ops patch_Check_o1
def patch_Check_o2 : List AOper := [{ dst := some 7, op := .mv (.t 3) }, { dst := some 8, op := .bin .lss (.t 7) (.v (.c (.i .i64 1))) }, { dst := some 9, op := .mv (.t 8) }, { dst := some 10, op := .mv (.t 3), guard := some (9, false) }, { dst := some 11, op := .bin .gtr (.t 10) (.v (.c (.i .i64 256))), guard := some (9, false) }, { dst := some 12, op := .pick (.t 9) (.v (.c (.b true))) (.t 11) }, { dst := some 13, op := .mv (.t 12) }, { dst := some 14, op := .fAddr (.t 1) 0, guard := some (13, false) }, { dst := some 15, op := .load1 (.t 14), guard := some (13, false) }, { dst := some 16, op := .bin .lss (.t 15) (.v (.c (.i .i64 0))), guard := some (13, false) }, { dst := some 17, op := .pick (.t 13) (.v (.c (.b true))) (.t 16) }, { dst := some 18, op := .mv (.t 17) }, { dst := some 19, op := .fAddr (.t 1) 0, guard := some (18, false) }, { dst := some 20, op := .load1 (.t 19), guard := some (18, false) }, { dst := some 21, op := .mv (.t 3), guard := some (18, false) }, { dst := some 22, op := .bin .sub (.v (.c (.i .i64 256))) (.t 21), guard := some (18, false) }, { dst := some 23, op := .bin .gtr (.t 20) (.t 22), guard := some (18, false) }, { dst := some 24, op := .pick (.t 18) (.v (.c (.b true))) (.t 23) }]
def patch_Check_c2 : ACode := .ops patch_Check_o2
def patch_Check_o3 : List AOper := [{ dst := some 2, op := .mv (.v (.c (.i .i64 2))) }]
def patch_Check_c3 : ACode := .ops patch_Check_o3
def patch_Check_c4 : ACode := .seq [2] patch_Check_c3 .ret
def patch_Check_c5 : ACode := .cond (.t 24) patch_Check_c4 .skip
def patch_Check_c6 : ACode := .seq [24] patch_Check_c2 patch_Check_c5
def patch_Check_o4 : List AOper := [{ dst := some 2, op := .mv (.v (.c (.i .i64 0))) }]
def patch_Check_c7 : ACode := .ops patch_Check_o4
def patch_Check_c8 : ACode := .seq [2] patch_Check_c7 .ret
def patch_Check_c9 : ACode := .seq [] patch_Check_c6 patch_Check_c8
def patch_Check_c10 : ACode := .seq [1, 3] patch_Check_c1 patch_Check_c9
def patch_Check_c11 : ACode := .seq [1] patch_Check_c0 patch_Check_c10
def A_patch_Check : AFn := ⟨patch_Check_c11, [.tmp 2]⟩
noncomputable def E_patch_Check : Sums := disp0
noncomputable def patch_Check_c0_d (n : Nat) : SmV := smOps E_patch_Check patch_Check_o0
noncomputable def patch_Check_c1_d (n : Nat) : SmV := smOps E_patch_Check patch_Check_o1
noncomputable def patch_Check_c2_d (n : Nat) : SmV := smOps E_patch_Check patch_Check_o2
noncomputable def patch_Check_c3_d (n : Nat) : SmV := smOps E_patch_Check patch_Check_o3
noncomputable def patch_Check_c4_d (n : Nat) : SmV := smSeq [2] (patch_Check_c3_d n) smRet
noncomputable def patch_Check_c5_d (n : Nat) : SmV := smCond (.t 24) (patch_Check_c4_d n) smSkip
noncomputable def patch_Check_c6_d (n : Nat) : SmV := smSeq [24] (patch_Check_c2_d n) (patch_Check_c5_d n)
noncomputable def patch_Check_c7_d (n : Nat) : SmV := smOps E_patch_Check patch_Check_o4
noncomputable def patch_Check_c8_d (n : Nat) : SmV := smSeq [2] (patch_Check_c7_d n) smRet
noncomputable def patch_Check_c9_d (n : Nat) : SmV := smSeq [] (patch_Check_c6_d n) (patch_Check_c8_d n)
noncomputable def patch_Check_c10_d (n : Nat) : SmV := smSeq [1, 3] (patch_Check_c1_d n) (patch_Check_c9_d n)
noncomputable def patch_Check_c11_d (n : Nat) : SmV := smSeq [1] (patch_Check_c0_d n) (patch_Check_c10_d n)
noncomputable def R_patch_Check (n : Nat) (args : List Val) (h : Heap) : OptV := (patch_Check_c11_d n) A_patch_Check.fin (params 0 args) h
theorem R_patch_Check_eq (n : Nat) (a0 : Val) (h : Heap) : R_patch_Check n [a0] h = bnd (cells? a0) fun c1 => bnd (afAddr ((.c (.p h.length 0))) 1) fun v2 => bnd (aload1 ((h ++ [some (Row.mk (c1) true)])) v2) fun v3 => bnd (alen v3) fun v4 => bnd (abin .lss v4 (.c (.i .i64 1))) fun v5 => bnd (gd v5 false (some (v4, (h ++ [some (Row.mk (c1) true)]))) (some (.no, (h ++ [some (Row.mk (c1) true)])))) fun p6 => bnd (gd v5 false (bnd (abin .gtr p6.1 (.c (.i .i64 256))) fun v7 => some (v7, p6.2)) (some (.no, p6.2))) fun p8 => bnd (apick v5 (.c (.b true)) p8.1) fun v9 => bnd (gd v9 false (bnd (afAddr ((.c (.p h.length 0))) 0) fun v10 => some (v10, p8.2)) (some (.no, p8.2))) fun p11 => bnd (gd v9 false (bnd (aload1 p11.2 p11.1) fun v12 => some (v12, p11.2)) (some (.no, p11.2))) fun p13 => bnd (gd v9 false (bnd (abin .lss p13.1 (.c (.i .i64 0))) fun v14 => some (v14, p13.2)) (some (.no, p13.2))) fun p15 => bnd (apick v9 (.c (.b true)) p15.1) fun v16 => bnd (gd v16 false (bnd (afAddr ((.c (.p h.length 0))) 0) fun v17 => some (v17, p15.2)) (some (.no, p15.2))) fun p18 => bnd (gd v16 false (bnd (aload1 p18.2 p18.1) fun v19 => some (v19, p18.2)) (some (.no, p18.2))) fun p20 => bnd (gd v16 false (some (v4, p20.2)) (some (.no, p20.2))) fun p21 => bnd (gd v16 false (bnd (abin .sub (.c (.i .i64 256)) p21.1) fun v22 => some (v22, p21.2)) (some (.no, p21.2))) fun p23 => bnd (gd v16 false (bnd (abin .gtr p20.1 p23.1) fun v24 => some (v24, p23.2)) (some (.no, p23.2))) fun p25 => bnd (apick v16 (.c (.b true)) p25.1) fun v26 => cnd v26 (some ((.c (.i .i64 2)), p25.2)) (some ((.c (.i .i64 0)), p25.2)) := by kernel_rfl
theorem K_patch_Check : FnK Try.prog 157 A_patch_Check E_patch_Check R_patch_Check := .mk' (sound0) Try.func157 (by kernel_rfl) (by intro n args h; kernel_rfl)
noncomputable def S_patch_Check : Fun := tidy (Lim A_patch_Check E_patch_Check)
theorem S_patch_Check_ok : SOk Try.prog 157 S_patch_Check := K_patch_Check.sok
theorem S_patch_Check_flat {n : Nat} {args : List Val} {h h2 : Heap} {v : Val} (he : R_patch_Check n args (ro h) = some (v, h2)) (hf : v.flat = true) : S_patch_Check args h = some (v, h) := K_patch_Check.flat he hf
def patch_Lay_o0 : List AOper := [{ dst := some 2, op := .box (.t 0) }, { dst := some 3, op := .box (.t 1) }, { dst := some 4, op := .alloc (List.replicate 256 (.i .u8 0)) }]
def patch_Lay_c0 : ACode := .ops patch_Lay_o0
def patch_Lay_o1 : List AOper := [{ dst := some 7, op := .loadN 2 (.t 3) }, { dst := some 8, op := .call 157 [(.t 7)] }, { dst := some 9, op := .bin .neq (.t 8) (.v (.c (.i .i64 0))) }]
def patch_Lay_c1 : ACode := .ops patch_Lay_o1
def patch_Lay_o2 : List AOper := [{ dst := some 10, op := .loadN 256 (.t 2) }, { dst := none, op := .storeN 256 (.t 4) (.t 10) }]
def patch_Lay_c2 : ACode := .ops patch_Lay_o2
def patch_Lay_c3 : ACode := .seq [4] patch_Lay_c2 .ret
def patch_Lay_c4 : ACode := .cond (.t 9) patch_Lay_c3 .skip
def patch_Lay_c5 : ACode := .seq [2, 3, 4, 9] patch_Lay_c1 patch_Lay_c4
def patch_Lay_o3 : List AOper := [{ dst := some 11, op := .fAddr (.t 3) 1 }, { dst := some 12, op := .load1 (.t 11) }, { dst := some 13, op := .len (.t 12) }, { dst := some 14, op := .mv (.v (.c (.i .i64 0))) }]
def patch_Lay_c6 : ACode := .ops patch_Lay_o3
def patch_Lay_o4 : List AOper := [{ dst := some 15, op := .bin .lss (.t 14) (.t 13) }]
def patch_Lay_c7 : ACode := .ops patch_Lay_o4
def patch_Lay_c8 : ACode := .cond (.t 15) .skip (.exit 0)
def patch_Lay_o5 : List AOper := [{ dst := some 16, op := .mv (.t 14) }, { dst := some 17, op := .iAddrL 1 (.t 12) (.t 14) }, { dst := some 18, op := .load1 (.t 17) }, { dst := some 5, op := .mv (.t 16) }, { dst := some 6, op := .mv (.t 18) }]
def patch_Lay_c9 : ACode := .ops patch_Lay_o5
def patch_Lay_o6 : List AOper := [{ dst := some 19, op := .fAddr (.t 3) 0 }, { dst := some 20, op := .load1 (.t 19) }, { dst := some 21, op := .mv (.t 5) }, { dst := some 22, op := .bin .add (.t 20) (.t 21) }, { dst := some 23, op := .mv (.t 6) }, { dst := some 24, op := .iAddrA 256 1 (.t 2) (.t 22) }, { dst := none, op := .store1 (.t 24) (.t 23) }]
def patch_Lay_c10 : ACode := .ops patch_Lay_o6
def patch_Lay_c11 : ACode := .seq [2, 3, 4, 5, 6, 12, 13, 14] patch_Lay_c9 patch_Lay_c10
def patch_Lay_c12 : ACode := .block 1 patch_Lay_c11
def patch_Lay_o7 : List AOper := [{ dst := some 25, op := .bin .add (.t 14) (.v (.c (.i .i64 1))) }, { dst := some 14, op := .mv (.t 25) }]
def patch_Lay_c13 : ACode := .ops patch_Lay_o7
def patch_Lay_c14 : ACode := .seq [2, 3, 4, 12, 13, 14] patch_Lay_c12 patch_Lay_c13
def patch_Lay_c15 : ACode := .seq [2, 3, 4, 12, 13, 14] patch_Lay_c8 patch_Lay_c14
def patch_Lay_c16 : ACode := .seq [2, 3, 4, 12, 13, 14, 15] patch_Lay_c7 patch_Lay_c15
def patch_Lay_c17 : ACode := .loop [2, 3, 4, 12, 13, 14] patch_Lay_c16
def patch_Lay_c18 : ACode := .block 0 patch_Lay_c17
def patch_Lay_c19 : ACode := .seq [2, 3, 4, 12, 13, 14] patch_Lay_c6 patch_Lay_c18
def patch_Lay_o8 : List AOper := [{ dst := some 26, op := .loadN 256 (.t 2) }, { dst := none, op := .storeN 256 (.t 4) (.t 26) }]
def patch_Lay_c20 : ACode := .ops patch_Lay_o8
def patch_Lay_c21 : ACode := .seq [4] patch_Lay_c20 .ret
def patch_Lay_c22 : ACode := .seq [2, 4] patch_Lay_c19 patch_Lay_c21
def patch_Lay_c23 : ACode := .seq [2, 3, 4] patch_Lay_c5 patch_Lay_c22
def patch_Lay_c24 : ACode := .seq [2, 3, 4] patch_Lay_c0 patch_Lay_c23
def A_patch_Lay : AFn := ⟨patch_Lay_c24, [.cellN 4 256]⟩
noncomputable def E_patch_Lay : Sums := disp 157 S_patch_Check disp0
noncomputable def patch_Lay_c0_d (n : Nat) : SmV := smOps E_patch_Lay patch_Lay_o0
noncomputable def patch_Lay_c1_d (n : Nat) : SmV := smOps E_patch_Lay patch_Lay_o1
noncomputable def patch_Lay_c2_d (n : Nat) : SmV := smOps E_patch_Lay patch_Lay_o2
noncomputable def patch_Lay_c3_d (n : Nat) : SmV := smSeq [4] (patch_Lay_c2_d n) smRet
noncomputable def patch_Lay_c4_d (n : Nat) : SmV := smCond (.t 9) (patch_Lay_c3_d n) smSkip
noncomputable def patch_Lay_c5_d (n : Nat) : SmV := smSeq [2, 3, 4, 9] (patch_Lay_c1_d n) (patch_Lay_c4_d n)
noncomputable def patch_Lay_c6_d (n : Nat) : SmV := smOps E_patch_Lay patch_Lay_o3
noncomputable def patch_Lay_c7_d (n : Nat) : SmV := smOps E_patch_Lay patch_Lay_o4
noncomputable def patch_Lay_c8_d (n : Nat) : SmV := smCond (.t 15) smSkip (smExit 0)
noncomputable def patch_Lay_c9_d (n : Nat) : SmV := smOps E_patch_Lay patch_Lay_o5
noncomputable def patch_Lay_c10_d (n : Nat) : SmV := smOps E_patch_Lay patch_Lay_o6
noncomputable def patch_Lay_c11_d (n : Nat) : SmV := smSeq [2, 3, 4, 5, 6, 12, 13, 14] (patch_Lay_c9_d n) (patch_Lay_c10_d n)
noncomputable def patch_Lay_c12_d (n : Nat) : SmV := smBlock 1 (patch_Lay_c11_d n)
noncomputable def patch_Lay_c13_d (n : Nat) : SmV := smOps E_patch_Lay patch_Lay_o7
noncomputable def patch_Lay_c14_d (n : Nat) : SmV := smSeq [2, 3, 4, 12, 13, 14] (patch_Lay_c12_d n) (patch_Lay_c13_d n)
noncomputable def patch_Lay_c15_d (n : Nat) : SmV := smSeq [2, 3, 4, 12, 13, 14] (patch_Lay_c8_d n) (patch_Lay_c14_d n)
noncomputable def patch_Lay_c16_d (n : Nat) : SmV := smSeq [2, 3, 4, 12, 13, 14, 15] (patch_Lay_c7_d n) (patch_Lay_c15_d n)
noncomputable def patch_Lay_c17_d (n : Nat) : SmV := smLoop n [2, 3, 4, 12, 13, 14] (patch_Lay_c16_d n)
noncomputable def patch_Lay_c18_d (n : Nat) : SmV := smBlock 0 (patch_Lay_c17_d n)
noncomputable def patch_Lay_c19_d (n : Nat) : SmV := smSeq [2, 3, 4, 12, 13, 14] (patch_Lay_c6_d n) (patch_Lay_c18_d n)
noncomputable def patch_Lay_c20_d (n : Nat) : SmV := smOps E_patch_Lay patch_Lay_o8
noncomputable def patch_Lay_c21_d (n : Nat) : SmV := smSeq [4] (patch_Lay_c20_d n) smRet
noncomputable def patch_Lay_c22_d (n : Nat) : SmV := smSeq [2, 4] (patch_Lay_c19_d n) (patch_Lay_c21_d n)
noncomputable def patch_Lay_c23_d (n : Nat) : SmV := smSeq [2, 3, 4] (patch_Lay_c5_d n) (patch_Lay_c22_d n)
noncomputable def patch_Lay_c24_d (n : Nat) : SmV := smSeq [2, 3, 4] (patch_Lay_c0_d n) (patch_Lay_c23_d n)
noncomputable def patch_Lay_k0 (n : Nat) : AExit → Env → Heap → OptV := fun x e h => match x with | .normal => hold ((patch_Lay_c21_d n) A_patch_Lay.fin (e.keep [2, 4]) h) | .exit id => A_patch_Lay.fin (.exit id) e h | .ret => A_patch_Lay.fin .ret e h
noncomputable def patch_Lay_k1 (n : Nat) : AExit → Env → Heap → OptV := fun x e h => match x with | .exit i => bif Nat.beq i 0 then (patch_Lay_k0 n) .normal e h else (patch_Lay_k0 n) (.exit i) e h | .normal => (patch_Lay_k0 n) .normal e h | .ret => (patch_Lay_k0 n) .ret e h
noncomputable def patch_Lay_l0 (n m : Nat) (x2 x3 x4 x12 x13 x14 : Val) (h : Heap) : OptV := around (patch_Lay_c16_d n) [2, 3, 4, 12, 13, 14] (patch_Lay_k1 n) m [(2, x2), (3, x3), (4, x4), (12, x12), (13, x13), (14, x14)] h
noncomputable def R_patch_Lay (n : Nat) (args : List Val) (h : Heap) : OptV := (patch_Lay_c24_d n) A_patch_Lay.fin (params 0 args) h
theorem R_patch_Lay_eq (n : Nat) (a0 a1 : Val) (h : Heap) : R_patch_Lay n [a0, a1] h = bnd (cells? a0) fun c1 => bnd (cells? a1) fun c2 => bnd (aloadN ((((h ++ [some (Row.mk (c1) true)]) ++ [some (Row.mk (c2) true)]) ++ [some (Row.mk (List.replicate 256 (.i .u8 0)) true)])) 2 ((.c (.p ((h ++ [some (Row.mk (c1) true)])).length 0)))) fun v3 => bnd (S_patch_Check [v3] ((((h ++ [some (Row.mk (c1) true)]) ++ [some (Row.mk (c2) true)]) ++ [some (Row.mk (List.replicate 256 (.i .u8 0)) true)]))) fun p4 => bnd (abin .neq p4.1 (.c (.i .i64 0))) fun v5 => cnd v5 (bnd (aloadN p4.2 256 ((.c (.p h.length 0)))) fun v6 => bnd (astoreN p4.2 256 ((.c (.p (((h ++ [some (Row.mk (c1) true)]) ++ [some (Row.mk (c2) true)])).length 0))) v6) fun h7 => mp (aloadN h7 256 ((.c (.p (((h ++ [some (Row.mk (c1) true)]) ++ [some (Row.mk (c2) true)])).length 0)))) fun v => (v, h7)) (bnd (afAddr ((.c (.p ((h ++ [some (Row.mk (c1) true)])).length 0))) 1) fun v8 => bnd (aload1 p4.2 v8) fun v9 => bnd (alen v9) fun v10 => patch_Lay_l0 n n ((.c (.p h.length 0))) ((.c (.p ((h ++ [some (Row.mk (c1) true)])).length 0))) ((.c (.p (((h ++ [some (Row.mk (c1) true)]) ++ [some (Row.mk (c2) true)])).length 0))) v9 v10 (.c (.i .i64 0)) p4.2) := by kernel_rfl
theorem patch_Lay_l0_eq (n m : Nat) (x2 x3 x4 x12 x13 x14 : Val) (h : Heap) : patch_Lay_l0 n (m + 1) x2 x3 x4 x12 x13 x14 h = bnd (abin .lss x14 x13) fun v11 => cnd v11 (bnd (aiAddrL 1 x12 x14) fun v12 => bnd (aload1 h v12) fun v13 => bnd (afAddr x3 0) fun v14 => bnd (aload1 h v14) fun v15 => bnd (abin .add v15 x14) fun v16 => bnd (aiAddrA 256 1 x2 v16) fun v17 => bnd (astore1 h v17 v13) fun h18 => bnd (abin .add x14 (.c (.i .i64 1))) fun v19 => patch_Lay_l0 n m x2 x3 x4 x12 x13 v19 h18) (bnd (aloadN h 256 x2) fun v20 => bnd (astoreN h 256 x4 v20) fun h21 => mp (aloadN h21 256 x4) fun v => (v, h21)) := by kernel_rfl
theorem K_patch_Lay : FnK Try.prog 136 A_patch_Lay E_patch_Lay R_patch_Lay := .mk' (sound1 S_patch_Check_ok sound0) Try.func136 (by kernel_rfl) (by intro n args h; kernel_rfl)
noncomputable def S_patch_Lay : Fun := tidy (Lim A_patch_Lay E_patch_Lay)
theorem S_patch_Lay_ok : SOk Try.prog 136 S_patch_Lay := K_patch_Lay.sok
theorem S_patch_Lay_flat {n : Nat} {args : List Val} {h h2 : Heap} {v : Val} (he : R_patch_Lay n args (ro h) = some (v, h2)) (hf : v.flat = true) : S_patch_Lay args h = some (v, h) := K_patch_Lay.flat he hf
end Go.Proofs.Ytdgggnlbdoiloaa
end
section
namespace Go.Proofs.Ytdgggnlbdoiloaa
open Go Go.Esc
set_option maxRecDepth 100000
def table_Raw_o0 : List AOper := [{ dst := some 2, op := .box (.t 0) }, { dst := some 4, op := .alloc (List.replicate 32 (.i .u8 0)) }]
def table_Raw_c0 : ACode := .ops table_Raw_o0
def table_Raw_o1 : List AOper := [{ dst := some 5, op := .alloc (List.replicate 32 (.i .u8 0)) }]
def table_Raw_c1 : ACode := .ops table_Raw_o1
def table_Raw_o2 : List AOper := [{ dst := some 7, op := .mv (.t 1) }, { dst := some 8, op := .bin .lss (.t 7) (.v (.c (.i .i64 0))) }, { dst := some 9, op := .mv (.t 8) }, { dst := some 10, op := .mv (.t 1), guard := some (9, false) }, { dst := some 11, op := .bin .geq (.t 10) (.v (.c (.i .i64 8))), guard := some (9, false) }, { dst := some 12, op := .pick (.t 9) (.v (.c (.b true))) (.t 11) }]
def table_Raw_c2 : ACode := .ops table_Raw_o2
def table_Raw_o3 : List AOper := [{ dst := some 13, op := .loadN 32 (.t 5) }, { dst := none, op := .storeN 32 (.t 4) (.t 13) }]
def table_Raw_c3 : ACode := .ops table_Raw_o3
def table_Raw_c4 : ACode := .seq [4] table_Raw_c3 .ret
def table_Raw_c5 : ACode := .cond (.t 12) table_Raw_c4 .skip
def table_Raw_c6 : ACode := .seq [1, 2, 4, 5, 12] table_Raw_c2 table_Raw_c5
def table_Raw_o4 : List AOper := [{ dst := some 14, op := .mv (.v (.c (.i .i64 0))) }]
def table_Raw_c7 : ACode := .ops table_Raw_o4
def table_Raw_o5 : List AOper := [{ dst := some 15, op := .bin .lss (.t 14) (.v (.c (.i .i64 32))) }]
def table_Raw_c8 : ACode := .ops table_Raw_o5
def table_Raw_c9 : ACode := .cond (.t 15) .skip (.exit 0)
def table_Raw_o6 : List AOper := [{ dst := some 16, op := .mv (.t 14) }, { dst := some 6, op := .mv (.t 16) }]
def table_Raw_c10 : ACode := .ops table_Raw_o6
def table_Raw_o7 : List AOper := [{ dst := some 17, op := .mv (.t 6) }, { dst := some 18, op := .mv (.t 1) }, { dst := some 19, op := .bin .mul (.t 18) (.v (.c (.i .i64 32))) }, { dst := some 20, op := .mv (.t 6) }, { dst := some 21, op := .bin .add (.t 19) (.t 20) }, { dst := some 22, op := .iAddrA 256 1 (.t 2) (.t 21) }, { dst := some 23, op := .load1 (.t 22) }, { dst := some 24, op := .iAddrA 32 1 (.t 5) (.t 17) }, { dst := none, op := .store1 (.t 24) (.t 23) }]
def table_Raw_c11 : ACode := .ops table_Raw_o7
def table_Raw_c12 : ACode := .seq [1, 2, 4, 5, 6, 14] table_Raw_c10 table_Raw_c11
def table_Raw_c13 : ACode := .block 1 table_Raw_c12
def table_Raw_o8 : List AOper := [{ dst := some 25, op := .bin .add (.t 14) (.v (.c (.i .i64 1))) }, { dst := some 14, op := .mv (.t 25) }]
def table_Raw_c14 : ACode := .ops table_Raw_o8
def table_Raw_c15 : ACode := .seq [1, 2, 4, 5, 14] table_Raw_c13 table_Raw_c14
def table_Raw_c16 : ACode := .seq [1, 2, 4, 5, 14] table_Raw_c9 table_Raw_c15
def table_Raw_c17 : ACode := .seq [1, 2, 4, 5, 14, 15] table_Raw_c8 table_Raw_c16
def table_Raw_c18 : ACode := .loop [1, 2, 4, 5, 14] table_Raw_c17
def table_Raw_c19 : ACode := .block 0 table_Raw_c18
def table_Raw_c20 : ACode := .seq [1, 2, 4, 5, 14] table_Raw_c7 table_Raw_c19
def table_Raw_o9 : List AOper := [{ dst := some 26, op := .loadN 32 (.t 5) }, { dst := none, op := .storeN 32 (.t 4) (.t 26) }]
def table_Raw_c21 : ACode := .ops table_Raw_o9
def table_Raw_c22 : ACode := .seq [4] table_Raw_c21 .ret
def table_Raw_c23 : ACode := .seq [4, 5] table_Raw_c20 table_Raw_c22
def table_Raw_c24 : ACode := .seq [1, 2, 4, 5] table_Raw_c6 table_Raw_c23
def table_Raw_c25 : ACode := .seq [1, 2, 4, 5] table_Raw_c1 table_Raw_c24
def table_Raw_c26 : ACode := .seq [1, 2, 4] table_Raw_c0 table_Raw_c25
def A_table_Raw : AFn := ⟨table_Raw_c26, [.cellN 4 32]⟩
noncomputable def E_table_Raw : Sums := disp0
noncomputable def table_Raw_c0_d (n : Nat) : SmV := smOps E_table_Raw table_Raw_o0
noncomputable def table_Raw_c1_d (n : Nat) : SmV := smOps E_table_Raw table_Raw_o1
noncomputable def table_Raw_c2_d (n : Nat) : SmV := smOps E_table_Raw table_Raw_o2
noncomputable def table_Raw_c3_d (n : Nat) : SmV := smOps E_table_Raw table_Raw_o3
noncomputable def table_Raw_c4_d (n : Nat) : SmV := smSeq [4] (table_Raw_c3_d n) smRet
noncomputable def table_Raw_c5_d (n : Nat) : SmV := smCond (.t 12) (table_Raw_c4_d n) smSkip
noncomputable def table_Raw_c6_d (n : Nat) : SmV := smSeq [1, 2, 4, 5, 12] (table_Raw_c2_d n) (table_Raw_c5_d n)
noncomputable def table_Raw_c7_d (n : Nat) : SmV := smOps E_table_Raw table_Raw_o4
noncomputable def table_Raw_c8_d (n : Nat) : SmV := smOps E_table_Raw table_Raw_o5
noncomputable def table_Raw_c9_d (n : Nat) : SmV := smCond (.t 15) smSkip (smExit 0)
noncomputable def table_Raw_c10_d (n : Nat) : SmV := smOps E_table_Raw table_Raw_o6
noncomputable def table_Raw_c11_d (n : Nat) : SmV := smOps E_table_Raw table_Raw_o7
noncomputable def table_Raw_c12_d (n : Nat) : SmV := smSeq [1, 2, 4, 5, 6, 14] (table_Raw_c10_d n) (table_Raw_c11_d n)
noncomputable def table_Raw_c13_d (n : Nat) : SmV := smBlock 1 (table_Raw_c12_d n)
noncomputable def table_Raw_c14_d (n : Nat) : SmV := smOps E_table_Raw table_Raw_o8
noncomputable def table_Raw_c15_d (n : Nat) : SmV := smSeq [1, 2, 4, 5, 14] (table_Raw_c13_d n) (table_Raw_c14_d n)
noncomputable def table_Raw_c16_d (n : Nat) : SmV := smSeq [1, 2, 4, 5, 14] (table_Raw_c9_d n) (table_Raw_c15_d n)
noncomputable def table_Raw_c17_d (n : Nat) : SmV := smSeq [1, 2, 4, 5, 14, 15] (table_Raw_c8_d n) (table_Raw_c16_d n)
noncomputable def table_Raw_c18_d (n : Nat) : SmV := smLoop n [1, 2, 4, 5, 14] (table_Raw_c17_d n)
noncomputable def table_Raw_c19_d (n : Nat) : SmV := smBlock 0 (table_Raw_c18_d n)
noncomputable def table_Raw_c20_d (n : Nat) : SmV := smSeq [1, 2, 4, 5, 14] (table_Raw_c7_d n) (table_Raw_c19_d n)
noncomputable def table_Raw_c21_d (n : Nat) : SmV := smOps E_table_Raw table_Raw_o9
noncomputable def table_Raw_c22_d (n : Nat) : SmV := smSeq [4] (table_Raw_c21_d n) smRet
noncomputable def table_Raw_c23_d (n : Nat) : SmV := smSeq [4, 5] (table_Raw_c20_d n) (table_Raw_c22_d n)
noncomputable def table_Raw_c24_d (n : Nat) : SmV := smSeq [1, 2, 4, 5] (table_Raw_c6_d n) (table_Raw_c23_d n)
noncomputable def table_Raw_c25_d (n : Nat) : SmV := smSeq [1, 2, 4, 5] (table_Raw_c1_d n) (table_Raw_c24_d n)
noncomputable def table_Raw_c26_d (n : Nat) : SmV := smSeq [1, 2, 4] (table_Raw_c0_d n) (table_Raw_c25_d n)
noncomputable def table_Raw_k0 (n : Nat) : AExit → Env → Heap → OptV := fun x e h => match x with | .normal => hold ((table_Raw_c22_d n) A_table_Raw.fin (e.keep [4, 5]) h) | .exit id => A_table_Raw.fin (.exit id) e h | .ret => A_table_Raw.fin .ret e h
noncomputable def table_Raw_k1 (n : Nat) : AExit → Env → Heap → OptV := fun x e h => match x with | .exit i => bif Nat.beq i 0 then (table_Raw_k0 n) .normal e h else (table_Raw_k0 n) (.exit i) e h | .normal => (table_Raw_k0 n) .normal e h | .ret => (table_Raw_k0 n) .ret e h
noncomputable def table_Raw_l0 (n m : Nat) (x1 x2 x4 x5 x14 : Val) (h : Heap) : OptV := around (table_Raw_c17_d n) [1, 2, 4, 5, 14] (table_Raw_k1 n) m [(1, x1), (2, x2), (4, x4), (5, x5), (14, x14)] h
noncomputable def R_table_Raw (n : Nat) (args : List Val) (h : Heap) : OptV := (table_Raw_c26_d n) A_table_Raw.fin (params 0 args) h
theorem R_table_Raw_eq (n : Nat) (a0 a1 : Val) (h : Heap) : R_table_Raw n [a0, a1] h = bnd (cells? a0) fun c1 => bnd (abin .lss a1 (.c (.i .i64 0))) fun v2 => bnd (gd v2 false (some (a1, (((h ++ [some (Row.mk (c1) true)]) ++ [some (Row.mk (List.replicate 32 (.i .u8 0)) true)]) ++ [some (Row.mk (List.replicate 32 (.i .u8 0)) true)]))) (some (.no, (((h ++ [some (Row.mk (c1) true)]) ++ [some (Row.mk (List.replicate 32 (.i .u8 0)) true)]) ++ [some (Row.mk (List.replicate 32 (.i .u8 0)) true)])))) fun p3 => bnd (gd v2 false (bnd (abin .geq p3.1 (.c (.i .i64 8))) fun v4 => some (v4, p3.2)) (some (.no, p3.2))) fun p5 => bnd (apick v2 (.c (.b true)) p5.1) fun v6 => cnd v6 (bnd (aloadN p5.2 32 ((.c (.p (((h ++ [some (Row.mk (c1) true)]) ++ [some (Row.mk (List.replicate 32 (.i .u8 0)) true)])).length 0)))) fun v7 => bnd (astoreN p5.2 32 ((.c (.p ((h ++ [some (Row.mk (c1) true)])).length 0))) v7) fun h8 => mp (aloadN h8 32 ((.c (.p ((h ++ [some (Row.mk (c1) true)])).length 0)))) fun v => (v, h8)) (table_Raw_l0 n n a1 ((.c (.p h.length 0))) ((.c (.p ((h ++ [some (Row.mk (c1) true)])).length 0))) ((.c (.p (((h ++ [some (Row.mk (c1) true)]) ++ [some (Row.mk (List.replicate 32 (.i .u8 0)) true)])).length 0))) (.c (.i .i64 0)) p5.2) := by kernel_rfl
theorem table_Raw_l0_eq (n m : Nat) (x1 x2 x4 x5 x14 : Val) (h : Heap) : table_Raw_l0 n (m + 1) x1 x2 x4 x5 x14 h = bnd (abin .lss x14 (.c (.i .i64 32))) fun v9 => cnd v9 (bnd (abin .mul x1 (.c (.i .i64 32))) fun v10 => bnd (abin .add v10 x14) fun v11 => bnd (aiAddrA 256 1 x2 v11) fun v12 => bnd (aload1 h v12) fun v13 => bnd (aiAddrA 32 1 x5 x14) fun v14 => bnd (astore1 h v14 v13) fun h15 => bnd (abin .add x14 (.c (.i .i64 1))) fun v16 => table_Raw_l0 n m x1 x2 x4 x5 v16 h15) (bnd (aloadN h 32 x5) fun v17 => bnd (astoreN h 32 x4 v17) fun h18 => mp (aloadN h18 32 x4) fun v => (v, h18)) := by kernel_rfl
theorem K_table_Raw : FnK Try.prog 105 A_table_Raw E_table_Raw R_table_Raw := .mk' (sound0) Try.func105 (by kernel_rfl) (by intro n args h; kernel_rfl)
noncomputable def S_table_Raw : Fun := tidy (Lim A_table_Raw E_table_Raw)
theorem S_table_Raw_ok : SOk Try.prog 105 S_table_Raw := K_table_Raw.sok
theorem S_table_Raw_flat {n : Nat} {args : List Val} {h h2 : Heap} {v : Val} (he : R_table_Raw n args (ro h) = some (v, h2)) (hf : v.flat = true) : S_table_Raw args h = some (v, h) := K_table_Raw.flat he hf
def table_Get_o0 : List AOper := [{ dst := some 2, op := .box (.t 0) }, { dst := some 4, op := .alloc ([.i .i64 0, .i .i64 0, .i .i64 0, .i .i64 0, .i .i64 0, .i .i64 0, .i .i64 0, .i .i64 0, .i .i64 0, .i .i64 0, .i .i64 0]) }, { dst := some 5, op := .mv (.v (.c (.b false))) }]
def table_Get_c0 : ACode := .ops table_Get_o0
def table_Get_o1 : List AOper := [{ dst := some 6, op := .mv (.t 1) }, { dst := some 7, op := .bin .lss (.t 6) (.v (.c (.i .i64 0))) }, { dst := some 8, op := .mv (.t 7) }, { dst := some 9, op := .mv (.t 1), guard := some (8, false) }, { dst := some 10, op := .bin .geq (.t 9) (.v (.c (.i .i64 8))), guard := some (8, false) }, { dst := some 11, op := .pick (.t 8) (.v (.c (.b true))) (.t 10) }]
def table_Get_c1 : ACode := .ops table_Get_o1
def table_Get_o2 : List AOper := [{ dst := some 12, op := .build ([.i .i64 0, .i .i64 0, .i .i64 0, .i .i64 0, .i .i64 0, .i .i64 0, .i .i64 0, .i .i64 0, .i .i64 0, .i .i64 0, .i .i64 0]) [] }, { dst := none, op := .storeN 11 (.t 4) (.t 12) }, { dst := some 5, op := .mv (.v (.c (.b false))) }]
def table_Get_c2 : ACode := .ops table_Get_o2
def table_Get_c3 : ACode := .seq [4, 5] table_Get_c2 .ret
def table_Get_c4 : ACode := .cond (.t 11) table_Get_c3 .skip
def table_Get_c5 : ACode := .seq [1, 2, 4, 11] table_Get_c1 table_Get_c4
def table_Get_o3 : List AOper := [{ dst := some 13, op := .loadN 256 (.t 2) }, { dst := some 14, op := .mv (.t 1) }, { dst := some 15, op := .call 105 [(.t 13), (.t 14)] }, { dst := some 16, op := .call 104 [(.t 15)] }, { dst := some 17, op := .ext (.t 16) 0 }, { dst := some 18, op := .ext (.t 16) 1 }, { dst := none, op := .storeN 11 (.t 4) (.t 17) }, { dst := some 5, op := .mv (.t 18) }]
def table_Get_c6 : ACode := .ops table_Get_o3
def table_Get_c7 : ACode := .seq [4, 5] table_Get_c6 .ret
def table_Get_c8 : ACode := .seq [1, 2, 4] table_Get_c5 table_Get_c7
def table_Get_c9 : ACode := .seq [1, 2, 4] table_Get_c0 table_Get_c8
def A_table_Get : AFn := ⟨table_Get_c9, [.cellN 4 11, .tmp 5]⟩
noncomputable def E_table_Get : Sums := disp 105 S_table_Raw (disp 104 S_inode_Clean disp0)
noncomputable def table_Get_c0_d (n : Nat) : SmV := smOps E_table_Get table_Get_o0
noncomputable def table_Get_c1_d (n : Nat) : SmV := smOps E_table_Get table_Get_o1
noncomputable def table_Get_c2_d (n : Nat) : SmV := smOps E_table_Get table_Get_o2
noncomputable def table_Get_c3_d (n : Nat) : SmV := smSeq [4, 5] (table_Get_c2_d n) smRet
noncomputable def table_Get_c4_d (n : Nat) : SmV := smCond (.t 11) (table_Get_c3_d n) smSkip
noncomputable def table_Get_c5_d (n : Nat) : SmV := smSeq [1, 2, 4, 11] (table_Get_c1_d n) (table_Get_c4_d n)
noncomputable def table_Get_c6_d (n : Nat) : SmV := smOps E_table_Get table_Get_o3
noncomputable def table_Get_c7_d (n : Nat) : SmV := smSeq [4, 5] (table_Get_c6_d n) smRet
noncomputable def table_Get_c8_d (n : Nat) : SmV := smSeq [1, 2, 4] (table_Get_c5_d n) (table_Get_c7_d n)
noncomputable def table_Get_c9_d (n : Nat) : SmV := smSeq [1, 2, 4] (table_Get_c0_d n) (table_Get_c8_d n)
noncomputable def R_table_Get (n : Nat) (args : List Val) (h : Heap) : OptV := (table_Get_c9_d n) A_table_Get.fin (params 0 args) h
theorem R_table_Get_eq (n : Nat) (a0 a1 : Val) (h : Heap) : R_table_Get n [a0, a1] h = bnd (cells? a0) fun c1 => bnd (abin .lss a1 (.c (.i .i64 0))) fun v2 => bnd (gd v2 false (some (a1, ((h ++ [some (Row.mk (c1) true)]) ++ [some (Row.mk ([.i .i64 0, .i .i64 0, .i .i64 0, .i .i64 0, .i .i64 0, .i .i64 0, .i .i64 0, .i .i64 0, .i .i64 0, .i .i64 0, .i .i64 0]) true)]))) (some (.no, ((h ++ [some (Row.mk (c1) true)]) ++ [some (Row.mk ([.i .i64 0, .i .i64 0, .i .i64 0, .i .i64 0, .i .i64 0, .i .i64 0, .i .i64 0, .i .i64 0, .i .i64 0, .i .i64 0, .i .i64 0]) true)])))) fun p3 => bnd (gd v2 false (bnd (abin .geq p3.1 (.c (.i .i64 8))) fun v4 => some (v4, p3.2)) (some (.no, p3.2))) fun p5 => bnd (apick v2 (.c (.b true)) p5.1) fun v6 => cnd v6 (bnd (afill ([.i .i64 0, .i .i64 0, .i .i64 0, .i .i64 0, .i .i64 0, .i .i64 0, .i .i64 0, .i .i64 0, .i .i64 0, .i .i64 0, .i .i64 0]) []) fun c7 => bnd (astoreN p5.2 11 ((.c (.p ((h ++ [some (Row.mk (c1) true)])).length 0))) ((.a c7))) fun h8 => tupN [aloadN h8 11 ((.c (.p ((h ++ [some (Row.mk (c1) true)])).length 0))), some (.c (.b false))] h8) (bnd (aloadN p5.2 256 ((.c (.p h.length 0)))) fun v9 => bnd (S_table_Raw [v9, a1] p5.2) fun p10 => bnd (S_inode_Clean [p10.1] p10.2) fun p11 => bnd (aext p11.1 0) fun v12 => bnd (aext p11.1 1) fun v13 => bnd (astoreN p11.2 11 ((.c (.p ((h ++ [some (Row.mk (c1) true)])).length 0))) v12) fun h14 => tupN [aloadN h14 11 ((.c (.p ((h ++ [some (Row.mk (c1) true)])).length 0))), some v13] h14) := by kernel_rfl
theorem K_table_Get : FnK Try.prog 56 A_table_Get E_table_Get R_table_Get := .mk' (sound1 S_table_Raw_ok (sound1 S_inode_Clean_ok sound0)) Try.func56 (by kernel_rfl) (by intro n args h; kernel_rfl)
noncomputable def S_table_Get : Fun := tidy (Lim A_table_Get E_table_Get)
theorem S_table_Get_ok : SOk Try.prog 56 S_table_Get := K_table_Get.sok
theorem S_table_Get_flat {n : Nat} {args : List Val} {h h2 : Heap} {v : Val} (he : R_table_Get n args (ro h) = some (v, h2)) (hf : v.flat = true) : S_table_Get args h = some (v, h) := K_table_Get.flat he hf
def table_Patch_o0 : List AOper := [{ dst := some 3, op := .box (.t 1) }, { dst := some 4, op := .alloc ([.i .i64 0, .ns]) }, { dst := some 5, op := .mv (.v (.c (.i .i64 0))) }]
def table_Patch_c0 : ACode := .ops table_Patch_o0
def table_Patch_o1 : List AOper := [{ dst := some 8, op := .mv (.t 0) }, { dst := some 9, op := .bin .lss (.t 8) (.v (.c (.i .i64 0))) }, { dst := some 10, op := .mv (.t 9) }, { dst := some 11, op := .mv (.t 0), guard := some (10, false) }, { dst := some 12, op := .bin .geq (.t 11) (.v (.c (.i .i64 8))), guard := some (10, false) }, { dst := some 13, op := .pick (.t 10) (.v (.c (.b true))) (.t 12) }]
def table_Patch_c1 : ACode := .ops table_Patch_o1
def table_Patch_o2 : List AOper := [{ dst := some 14, op := .build ([.i .i64 0, .ns]) [] }, { dst := none, op := .storeN 2 (.t 4) (.t 14) }, { dst := some 5, op := .mv (.v (.c (.i .i64 2))) }]
def table_Patch_c2 : ACode := .ops table_Patch_o2
def table_Patch_c3 : ACode := .seq [4, 5] table_Patch_c2 .ret
def table_Patch_c4 : ACode := .cond (.t 13) table_Patch_c3 .skip
def table_Patch_c5 : ACode := .seq [0, 3, 4, 13] table_Patch_c1 table_Patch_c4
def table_Patch_o3 : List AOper := [{ dst := some 16, op := .loadN 11 (.t 3) }, { dst := some 17, op := .call 134 [(.t 16)] }, { dst := some 15, op := .mv (.t 17) }, { dst := some 18, op := .ext (.t 15) 0 }, { dst := some 19, op := .ext (.t 15) 1 }, { dst := some 6, op := .alloc (List.replicate 32 (.i .u8 0)) }, { dst := none, op := .storeN 32 (.t 6) (.t 18) }, { dst := some 7, op := .mv (.t 19) }]
def table_Patch_c6 : ACode := .ops table_Patch_o3
def table_Patch_o4 : List AOper := [{ dst := some 20, op := .mv (.t 7) }, { dst := some 21, op := .bin .neq (.t 20) (.v (.c (.i .i64 0))) }]
def table_Patch_c7 : ACode := .ops table_Patch_o4
def table_Patch_o5 : List AOper := [{ dst := some 22, op := .build ([.i .i64 0, .ns]) [] }, { dst := some 23, op := .mv (.t 7) }, { dst := none, op := .storeN 2 (.t 4) (.t 22) }, { dst := some 5, op := .mv (.t 23) }]
def table_Patch_c8 : ACode := .ops table_Patch_o5
def table_Patch_c9 : ACode := .seq [4, 5] table_Patch_c8 .ret
def table_Patch_c10 : ACode := .cond (.t 21) table_Patch_c9 .skip
def table_Patch_c11 : ACode := .seq [0, 4, 6, 7, 21] table_Patch_c7 table_Patch_c10
def table_Patch_o6 : List AOper := [{ dst := some 24, op := .mv (.t 0) }, { dst := some 25, op := .bin .mul (.t 24) (.v (.c (.i .i64 32))) }, { dst := some 26, op := .buildSl 1 0 ([]) [] }, { dst := some 27, op := .slA 32 1 (.t 6) none none }, { dst := some 28, op := .app 1 (.t 26) (.t 27) }, { dst := some 29, op := .build ([.i .i64 0, .ns]) [(0, 1, (.t 25)), (1, 1, (.t 28))] }, { dst := none, op := .storeN 2 (.t 4) (.t 29) }, { dst := some 5, op := .mv (.v (.c (.i .i64 0))) }]
def table_Patch_c12 : ACode := .ops table_Patch_o6
def table_Patch_c13 : ACode := .seq [4, 5] table_Patch_c12 .ret
def table_Patch_c14 : ACode := .seq [0, 4, 6] table_Patch_c11 table_Patch_c13
def table_Patch_c15 : ACode := .seq [0, 4, 6, 7] table_Patch_c6 table_Patch_c14
def table_Patch_c16 : ACode := .seq [0, 3, 4] table_Patch_c5 table_Patch_c15
def table_Patch_c17 : ACode := .seq [0, 3, 4] table_Patch_c0 table_Patch_c16
def A_table_Patch : AFn := ⟨table_Patch_c17, [.cellN 4 2, .tmp 5]⟩
noncomputable def E_table_Patch : Sums := disp 134 S_inode_Put disp0
noncomputable def table_Patch_c0_d (n : Nat) : SmV := smOps E_table_Patch table_Patch_o0
noncomputable def table_Patch_c1_d (n : Nat) : SmV := smOps E_table_Patch table_Patch_o1
noncomputable def table_Patch_c2_d (n : Nat) : SmV := smOps E_table_Patch table_Patch_o2
noncomputable def table_Patch_c3_d (n : Nat) : SmV := smSeq [4, 5] (table_Patch_c2_d n) smRet
noncomputable def table_Patch_c4_d (n : Nat) : SmV := smCond (.t 13) (table_Patch_c3_d n) smSkip
noncomputable def table_Patch_c5_d (n : Nat) : SmV := smSeq [0, 3, 4, 13] (table_Patch_c1_d n) (table_Patch_c4_d n)
noncomputable def table_Patch_c6_d (n : Nat) : SmV := smOps E_table_Patch table_Patch_o3
noncomputable def table_Patch_c7_d (n : Nat) : SmV := smOps E_table_Patch table_Patch_o4
noncomputable def table_Patch_c8_d (n : Nat) : SmV := smOps E_table_Patch table_Patch_o5
noncomputable def table_Patch_c9_d (n : Nat) : SmV := smSeq [4, 5] (table_Patch_c8_d n) smRet
noncomputable def table_Patch_c10_d (n : Nat) : SmV := smCond (.t 21) (table_Patch_c9_d n) smSkip
noncomputable def table_Patch_c11_d (n : Nat) : SmV := smSeq [0, 4, 6, 7, 21] (table_Patch_c7_d n) (table_Patch_c10_d n)
noncomputable def table_Patch_c12_d (n : Nat) : SmV := smOps E_table_Patch table_Patch_o6
noncomputable def table_Patch_c13_d (n : Nat) : SmV := smSeq [4, 5] (table_Patch_c12_d n) smRet
noncomputable def table_Patch_c14_d (n : Nat) : SmV := smSeq [0, 4, 6] (table_Patch_c11_d n) (table_Patch_c13_d n)
noncomputable def table_Patch_c15_d (n : Nat) : SmV := smSeq [0, 4, 6, 7] (table_Patch_c6_d n) (table_Patch_c14_d n)
noncomputable def table_Patch_c16_d (n : Nat) : SmV := smSeq [0, 3, 4] (table_Patch_c5_d n) (table_Patch_c15_d n)
noncomputable def table_Patch_c17_d (n : Nat) : SmV := smSeq [0, 3, 4] (table_Patch_c0_d n) (table_Patch_c16_d n)
noncomputable def R_table_Patch (n : Nat) (args : List Val) (h : Heap) : OptV := (table_Patch_c17_d n) A_table_Patch.fin (params 0 args) h
theorem R_table_Patch_eq (n : Nat) (a0 a1 : Val) (h : Heap) : R_table_Patch n [a0, a1] h = bnd (cells? a1) fun c1 => bnd (abin .lss a0 (.c (.i .i64 0))) fun v2 => bnd (gd v2 false (some (a0, ((h ++ [some (Row.mk (c1) true)]) ++ [some (Row.mk ([.i .i64 0, .ns]) true)]))) (some (.no, ((h ++ [some (Row.mk (c1) true)]) ++ [some (Row.mk ([.i .i64 0, .ns]) true)])))) fun p3 => bnd (gd v2 false (bnd (abin .geq p3.1 (.c (.i .i64 8))) fun v4 => some (v4, p3.2)) (some (.no, p3.2))) fun p5 => bnd (apick v2 (.c (.b true)) p5.1) fun v6 => cnd v6 (bnd (afill ([.i .i64 0, .ns]) []) fun c7 => bnd (astoreN p5.2 2 ((.c (.p ((h ++ [some (Row.mk (c1) true)])).length 0))) ((.a c7))) fun h8 => tupN [aloadN h8 2 ((.c (.p ((h ++ [some (Row.mk (c1) true)])).length 0))), some (.c (.i .i64 2))] h8) (bnd (aloadN p5.2 11 ((.c (.p h.length 0)))) fun v9 => bnd (S_inode_Put [v9] p5.2) fun p10 => bnd (aext p10.1 0) fun v11 => bnd (aext p10.1 1) fun v12 => bnd (astoreN ((p10.2 ++ [some (Row.mk (List.replicate 32 (.i .u8 0)) true)])) 32 ((.c (.p p10.2.length 0))) v11) fun h13 => bnd (abin .neq v12 (.c (.i .i64 0))) fun v14 => cnd v14 (bnd (afill ([.i .i64 0, .ns]) []) fun c15 => bnd (astoreN h13 2 ((.c (.p ((h ++ [some (Row.mk (c1) true)])).length 0))) ((.a c15))) fun h16 => tupN [aloadN h16 2 ((.c (.p ((h ++ [some (Row.mk (c1) true)])).length 0))), some v12] h16) (bnd (abin .mul a0 (.c (.i .i64 32))) fun v17 => bnd (afill ([]) []) fun c18 => bnd (aslA ((h13 ++ [some (Row.mk (c18) true)])) 32 1 ((.c (.p p10.2.length 0))) none none) fun v19 => bnd (aapp ((h13 ++ [some (Row.mk (c18) true)])) 1 ((.c (.sl h13.length 0 0 1))) v19) fun p20 => bnd (afill ([.i .i64 0, .ns]) [(0, 1, v17), (1, 1, p20.1)]) fun c21 => bnd (astoreN p20.2 2 ((.c (.p ((h ++ [some (Row.mk (c1) true)])).length 0))) ((.a c21))) fun h22 => tupN [aloadN h22 2 ((.c (.p ((h ++ [some (Row.mk (c1) true)])).length 0))), some (.c (.i .i64 0))] h22)) := by kernel_rfl
theorem K_table_Patch : FnK Try.prog 135 A_table_Patch E_table_Patch R_table_Patch := .mk' (sound1 S_inode_Put_ok sound0) Try.func135 (by kernel_rfl) (by intro n args h; kernel_rfl)
noncomputable def S_table_Patch : Fun := tidy (Lim A_table_Patch E_table_Patch)
theorem S_table_Patch_ok : SOk Try.prog 135 S_table_Patch := K_table_Patch.sok
theorem S_table_Patch_tidy {n : Nat} {args : List Val} {h h2 : Heap} {v : Val} {v2 : Val} {ids : List Nat} (he : R_table_Patch n args (ro h) = some (v, h2)) (hc : canonV h2 h.length v = some (v2, ids)) : S_table_Patch args h = some (v2, h ++ ids.map (rd h2)) := K_table_Patch.tidy he hc
def table_With_o0 : List AOper := [{ dst := some 3, op := .box (.t 0) }, { dst := some 5, op := .box (.t 2) }, { dst := some 6, op := .alloc (List.replicate 256 (.i .u8 0)) }, { dst := some 7, op := .mv (.v (.c (.i .i64 0))) }]
def table_With_c0 : ACode := .ops table_With_o0
def table_With_o1 : List AOper := [{ dst := some 11, op := .mv (.t 1) }, { dst := some 12, op := .loadN 11 (.t 5) }, { dst := some 13, op := .call 135 [(.t 11), (.t 12)] }, { dst := some 10, op := .mv (.t 13) }, { dst := some 14, op := .ext (.t 10) 0 }, { dst := some 15, op := .ext (.t 10) 1 }, { dst := some 8, op := .alloc ([.i .i64 0, .ns]) }, { dst := none, op := .storeN 2 (.t 8) (.t 14) }, { dst := some 9, op := .mv (.t 15) }]
def table_With_c1 : ACode := .ops table_With_o1
def table_With_o2 : List AOper := [{ dst := some 16, op := .mv (.t 9) }, { dst := some 17, op := .bin .neq (.t 16) (.v (.c (.i .i64 0))) }]
def table_With_c2 : ACode := .ops table_With_o2
def table_With_o3 : List AOper := [{ dst := some 18, op := .loadN 256 (.t 3) }, { dst := some 19, op := .mv (.t 9) }, { dst := none, op := .storeN 256 (.t 6) (.t 18) }, { dst := some 7, op := .mv (.t 19) }]
def table_With_c3 : ACode := .ops table_With_o3
def table_With_c4 : ACode := .seq [6, 7] table_With_c3 .ret
def table_With_c5 : ACode := .cond (.t 17) table_With_c4 .skip
def table_With_c6 : ACode := .seq [3, 6, 8, 9, 17] table_With_c2 table_With_c5
def table_With_o4 : List AOper := [{ dst := some 20, op := .loadN 256 (.t 3) }, { dst := some 21, op := .loadN 2 (.t 8) }, { dst := some 22, op := .call 136 [(.t 20), (.t 21)] }, { dst := none, op := .storeN 256 (.t 6) (.t 22) }, { dst := some 7, op := .mv (.v (.c (.i .i64 0))) }]
def table_With_c7 : ACode := .ops table_With_o4
def table_With_c8 : ACode := .seq [6, 7] table_With_c7 .ret
def table_With_c9 : ACode := .seq [3, 6, 8] table_With_c6 table_With_c8
def table_With_c10 : ACode := .seq [3, 6, 8, 9] table_With_c1 table_With_c9
def table_With_c11 : ACode := .seq [1, 3, 5, 6] table_With_c0 table_With_c10
def A_table_With : AFn := ⟨table_With_c11, [.cellN 6 256, .tmp 7]⟩
noncomputable def E_table_With : Sums := disp 135 S_table_Patch (disp 136 S_patch_Lay disp0)
noncomputable def table_With_c0_d (n : Nat) : SmV := smOps E_table_With table_With_o0
noncomputable def table_With_c1_d (n : Nat) : SmV := smOps E_table_With table_With_o1
noncomputable def table_With_c2_d (n : Nat) : SmV := smOps E_table_With table_With_o2
noncomputable def table_With_c3_d (n : Nat) : SmV := smOps E_table_With table_With_o3
noncomputable def table_With_c4_d (n : Nat) : SmV := smSeq [6, 7] (table_With_c3_d n) smRet
noncomputable def table_With_c5_d (n : Nat) : SmV := smCond (.t 17) (table_With_c4_d n) smSkip
noncomputable def table_With_c6_d (n : Nat) : SmV := smSeq [3, 6, 8, 9, 17] (table_With_c2_d n) (table_With_c5_d n)
noncomputable def table_With_c7_d (n : Nat) : SmV := smOps E_table_With table_With_o4
noncomputable def table_With_c8_d (n : Nat) : SmV := smSeq [6, 7] (table_With_c7_d n) smRet
noncomputable def table_With_c9_d (n : Nat) : SmV := smSeq [3, 6, 8] (table_With_c6_d n) (table_With_c8_d n)
noncomputable def table_With_c10_d (n : Nat) : SmV := smSeq [3, 6, 8, 9] (table_With_c1_d n) (table_With_c9_d n)
noncomputable def table_With_c11_d (n : Nat) : SmV := smSeq [1, 3, 5, 6] (table_With_c0_d n) (table_With_c10_d n)
noncomputable def R_table_With (n : Nat) (args : List Val) (h : Heap) : OptV := (table_With_c11_d n) A_table_With.fin (params 0 args) h
theorem R_table_With_eq (n : Nat) (a0 a1 a2 : Val) (h : Heap) : R_table_With n [a0, a1, a2] h = bnd (cells? a0) fun c1 => bnd (cells? a2) fun c2 => bnd (aloadN ((((h ++ [some (Row.mk (c1) true)]) ++ [some (Row.mk (c2) true)]) ++ [some (Row.mk (List.replicate 256 (.i .u8 0)) true)])) 11 ((.c (.p ((h ++ [some (Row.mk (c1) true)])).length 0)))) fun v3 => bnd (S_table_Patch [a1, v3] ((((h ++ [some (Row.mk (c1) true)]) ++ [some (Row.mk (c2) true)]) ++ [some (Row.mk (List.replicate 256 (.i .u8 0)) true)]))) fun p4 => bnd (aext p4.1 0) fun v5 => bnd (aext p4.1 1) fun v6 => bnd (astoreN ((p4.2 ++ [some (Row.mk ([.i .i64 0, .ns]) true)])) 2 ((.c (.p p4.2.length 0))) v5) fun h7 => bnd (abin .neq v6 (.c (.i .i64 0))) fun v8 => cnd v8 (bnd (aloadN h7 256 ((.c (.p h.length 0)))) fun v9 => bnd (astoreN h7 256 ((.c (.p (((h ++ [some (Row.mk (c1) true)]) ++ [some (Row.mk (c2) true)])).length 0))) v9) fun h10 => tupN [aloadN h10 256 ((.c (.p (((h ++ [some (Row.mk (c1) true)]) ++ [some (Row.mk (c2) true)])).length 0))), some v6] h10) (bnd (aloadN h7 256 ((.c (.p h.length 0)))) fun v11 => bnd (aloadN h7 2 ((.c (.p p4.2.length 0)))) fun v12 => bnd (S_patch_Lay [v11, v12] h7) fun p13 => bnd (astoreN p13.2 256 ((.c (.p (((h ++ [some (Row.mk (c1) true)]) ++ [some (Row.mk (c2) true)])).length 0))) p13.1) fun h14 => tupN [aloadN h14 256 ((.c (.p (((h ++ [some (Row.mk (c1) true)]) ++ [some (Row.mk (c2) true)])).length 0))), some (.c (.i .i64 0))] h14) := by kernel_rfl
theorem K_table_With : FnK Try.prog 108 A_table_With E_table_With R_table_With := .mk' (sound1 S_table_Patch_ok (sound1 S_patch_Lay_ok sound0)) Try.func108 (by kernel_rfl) (by intro n args h; kernel_rfl)
noncomputable def S_table_With : Fun := tidy (Lim A_table_With E_table_With)
theorem S_table_With_ok : SOk Try.prog 108 S_table_With := K_table_With.sok
theorem S_table_With_flat {n : Nat} {args : List Val} {h h2 : Heap} {v : Val} (he : R_table_With n args (ro h) = some (v, h2)) (hf : v.flat = true) : S_table_With args h = some (v, h) := K_table_With.flat he hf
end Go.Proofs.Ytdgggnlbdoiloaa
end
section
namespace Go.Proofs.Ytdgggnlbdoiloaa
open Go Go.Esc
set_option maxRecDepth 100000
def view_Of_o0 : List AOper := [{ dst := some 2, op := .alloc ([.i .i64 0, .i .i64 0, .i .u64 0, .nf]) }, { dst := some 3, op := .mv (.v (.c (.i .i64 0))) }]
def view_Of_c0 : ACode := .ops view_Of_o0
def view_Of_o1 : List AOper := [{ dst := some 7, op := .mv (.t 0) }, { dst := some 8, op := .len (.t 7) }, { dst := some 9, op := .bin .eql (.t 8) (.v (.c (.i .i64 0))) }]
def view_Of_c1 : ACode := .ops view_Of_o1
def view_Of_o2 : List AOper := [{ dst := some 10, op := .build ([.i .i64 0, .i .i64 0, .i .u64 0, .nf]) [] }, { dst := none, op := .storeN 4 (.t 2) (.t 10) }, { dst := some 3, op := .mv (.v (.c (.i .i64 13))) }]
def view_Of_c2 : ACode := .ops view_Of_o2
def view_Of_c3 : ACode := .seq [2, 3] view_Of_c2 .ret
def view_Of_c4 : ACode := .cond (.t 9) view_Of_c3 .skip
def view_Of_c5 : ACode := .seq [0, 2, 9] view_Of_c1 view_Of_c4
def view_Of_o3 : List AOper := [{ dst := some 12, op := .mv (.t 0) }, { dst := some 13, op := .iAddrL 256 (.t 12) (.v (.c (.i .i64 0))) }, { dst := some 14, op := .loadN 256 (.t 13) }, { dst := some 15, op := .call 53 [(.t 14)] }, { dst := some 11, op := .mv (.t 15) }, { dst := some 16, op := .ext (.t 11) 0 }, { dst := some 17, op := .ext (.t 11) 1 }, { dst := some 4, op := .alloc ([.i .i64 0, .i .i64 0, .i .u64 0]) }, { dst := none, op := .storeN 3 (.t 4) (.t 16) }, { dst := some 5, op := .mv (.t 17) }]
def view_Of_c6 : ACode := .ops view_Of_o3
def view_Of_o4 : List AOper := [{ dst := some 18, op := .mv (.t 5) }, { dst := some 19, op := .bin .neq (.t 18) (.v (.c (.i .i64 0))) }, { dst := some 20, op := .mv (.t 19) }, { dst := some 21, op := .fAddr (.t 4) 0, guard := some (20, false) }, { dst := some 22, op := .load1 (.t 21), guard := some (20, false) }, { dst := some 23, op := .mv (.t 0), guard := some (20, false) }, { dst := some 24, op := .len (.t 23), guard := some (20, false) }, { dst := some 25, op := .bin .neq (.t 22) (.t 24), guard := some (20, false) }, { dst := some 26, op := .pick (.t 20) (.v (.c (.b true))) (.t 25) }]
def view_Of_c7 : ACode := .ops view_Of_o4
def view_Of_o5 : List AOper := [{ dst := some 27, op := .build ([.i .i64 0, .i .i64 0, .i .u64 0, .nf]) [] }, { dst := none, op := .storeN 4 (.t 2) (.t 27) }, { dst := some 3, op := .mv (.v (.c (.i .i64 13))) }]
def view_Of_c8 : ACode := .ops view_Of_o5
def view_Of_c9 : ACode := .seq [2, 3] view_Of_c8 .ret
def view_Of_c10 : ACode := .cond (.t 26) view_Of_c9 .skip
def view_Of_c11 : ACode := .seq [0, 2, 4, 26] view_Of_c7 view_Of_c10
def view_Of_o6 : List AOper := [{ dst := some 28, op := .buildSl 256 0 ([]) [] }, { dst := some 29, op := .mv (.t 0) }, { dst := some 30, op := .app 256 (.t 28) (.t 29) }, { dst := some 6, op := .alloc ([.ns]) }, { dst := none, op := .store1 (.t 6) (.t 30) }]
def view_Of_c12 : ACode := .ops view_Of_o6
def view_Of_o7 : List AOper := [{ dst := some 31, op := .loadN 3 (.t 4) }, { dst := some 32, op := .mkf 54 [(.t 6)] }, { dst := some 33, op := .build ([.i .i64 0, .i .i64 0, .i .u64 0, .nf]) [(0, 3, (.t 31)), (3, 1, (.t 32))] }, { dst := none, op := .storeN 4 (.t 2) (.t 33) }, { dst := some 3, op := .mv (.v (.c (.i .i64 0))) }]
def view_Of_c13 : ACode := .ops view_Of_o7
def view_Of_c14 : ACode := .seq [2, 3] view_Of_c13 .ret
def view_Of_c15 : ACode := .seq [2, 4, 6] view_Of_c12 view_Of_c14
def view_Of_c16 : ACode := .seq [0, 2, 4] view_Of_c11 view_Of_c15
def view_Of_c17 : ACode := .seq [0, 2, 4, 5] view_Of_c6 view_Of_c16
def view_Of_c18 : ACode := .seq [0, 2] view_Of_c5 view_Of_c17
def view_Of_c19 : ACode := .seq [0, 2] view_Of_c0 view_Of_c18
def A_view_Of : AFn := ⟨view_Of_c19, [.cellN 2 4, .tmp 3]⟩
noncomputable def E_view_Of : Sums := disp 53 S_super_Get disp0
noncomputable def view_Of_c0_d (n : Nat) : SmV := smOps E_view_Of view_Of_o0
noncomputable def view_Of_c1_d (n : Nat) : SmV := smOps E_view_Of view_Of_o1
noncomputable def view_Of_c2_d (n : Nat) : SmV := smOps E_view_Of view_Of_o2
noncomputable def view_Of_c3_d (n : Nat) : SmV := smSeq [2, 3] (view_Of_c2_d n) smRet
noncomputable def view_Of_c4_d (n : Nat) : SmV := smCond (.t 9) (view_Of_c3_d n) smSkip
noncomputable def view_Of_c5_d (n : Nat) : SmV := smSeq [0, 2, 9] (view_Of_c1_d n) (view_Of_c4_d n)
noncomputable def view_Of_c6_d (n : Nat) : SmV := smOps E_view_Of view_Of_o3
noncomputable def view_Of_c7_d (n : Nat) : SmV := smOps E_view_Of view_Of_o4
noncomputable def view_Of_c8_d (n : Nat) : SmV := smOps E_view_Of view_Of_o5
noncomputable def view_Of_c9_d (n : Nat) : SmV := smSeq [2, 3] (view_Of_c8_d n) smRet
noncomputable def view_Of_c10_d (n : Nat) : SmV := smCond (.t 26) (view_Of_c9_d n) smSkip
noncomputable def view_Of_c11_d (n : Nat) : SmV := smSeq [0, 2, 4, 26] (view_Of_c7_d n) (view_Of_c10_d n)
noncomputable def view_Of_c12_d (n : Nat) : SmV := smOps E_view_Of view_Of_o6
noncomputable def view_Of_c13_d (n : Nat) : SmV := smOps E_view_Of view_Of_o7
noncomputable def view_Of_c14_d (n : Nat) : SmV := smSeq [2, 3] (view_Of_c13_d n) smRet
noncomputable def view_Of_c15_d (n : Nat) : SmV := smSeq [2, 4, 6] (view_Of_c12_d n) (view_Of_c14_d n)
noncomputable def view_Of_c16_d (n : Nat) : SmV := smSeq [0, 2, 4] (view_Of_c11_d n) (view_Of_c15_d n)
noncomputable def view_Of_c17_d (n : Nat) : SmV := smSeq [0, 2, 4, 5] (view_Of_c6_d n) (view_Of_c16_d n)
noncomputable def view_Of_c18_d (n : Nat) : SmV := smSeq [0, 2] (view_Of_c5_d n) (view_Of_c17_d n)
noncomputable def view_Of_c19_d (n : Nat) : SmV := smSeq [0, 2] (view_Of_c0_d n) (view_Of_c18_d n)
noncomputable def R_view_Of (n : Nat) (args : List Val) (h : Heap) : OptV := (view_Of_c19_d n) A_view_Of.fin (params 0 args) h
theorem R_view_Of_eq (n : Nat) (a0 : Val) (h : Heap) : R_view_Of n [a0] h = bnd (alen a0) fun v1 => bnd (abin .eql v1 (.c (.i .i64 0))) fun v2 => cnd v2 (bnd (afill ([.i .i64 0, .i .i64 0, .i .u64 0, .nf]) []) fun c3 => bnd (astoreN ((h ++ [some (Row.mk ([.i .i64 0, .i .i64 0, .i .u64 0, .nf]) true)])) 4 ((.c (.p h.length 0))) ((.a c3))) fun h4 => tupN [aloadN h4 4 ((.c (.p h.length 0))), some (.c (.i .i64 13))] h4) (bnd (aiAddrL 256 a0 (.c (.i .i64 0))) fun v5 => bnd (aloadN ((h ++ [some (Row.mk ([.i .i64 0, .i .i64 0, .i .u64 0, .nf]) true)])) 256 v5) fun v6 => bnd (S_super_Get [v6] ((h ++ [some (Row.mk ([.i .i64 0, .i .i64 0, .i .u64 0, .nf]) true)]))) fun p7 => bnd (aext p7.1 0) fun v8 => bnd (aext p7.1 1) fun v9 => bnd (astoreN ((p7.2 ++ [some (Row.mk ([.i .i64 0, .i .i64 0, .i .u64 0]) true)])) 3 ((.c (.p p7.2.length 0))) v8) fun h10 => bnd (abin .neq v9 (.c (.i .i64 0))) fun v11 => bnd (gd v11 false (bnd (afAddr ((.c (.p p7.2.length 0))) 0) fun v12 => some (v12, h10)) (some (.no, h10))) fun p13 => bnd (gd v11 false (bnd (aload1 p13.2 p13.1) fun v14 => some (v14, p13.2)) (some (.no, p13.2))) fun p15 => bnd (gd v11 false (some (a0, p15.2)) (some (.no, p15.2))) fun p16 => bnd (gd v11 false (bnd (alen p16.1) fun v17 => some (v17, p16.2)) (some (.no, p16.2))) fun p18 => bnd (gd v11 false (bnd (abin .neq p15.1 p18.1) fun v19 => some (v19, p18.2)) (some (.no, p18.2))) fun p20 => bnd (apick v11 (.c (.b true)) p20.1) fun v21 => cnd v21 (bnd (afill ([.i .i64 0, .i .i64 0, .i .u64 0, .nf]) []) fun c22 => bnd (astoreN p20.2 4 ((.c (.p h.length 0))) ((.a c22))) fun h23 => tupN [aloadN h23 4 ((.c (.p h.length 0))), some (.c (.i .i64 13))] h23) (bnd (afill ([]) []) fun c24 => bnd (aapp ((p20.2 ++ [some (Row.mk (c24) true)])) 256 ((.c (.sl p20.2.length 0 0 256))) a0) fun p25 => bnd (astore1 ((p25.2 ++ [some (Row.mk ([.ns]) true)])) ((.c (.p p25.2.length 0))) p25.1) fun h26 => bnd (aloadN h26 3 ((.c (.p p7.2.length 0)))) fun v27 => bnd (amkf 54 [(.c (.p p25.2.length 0))]) fun v28 => bnd (afill ([.i .i64 0, .i .i64 0, .i .u64 0, .nf]) [(0, 3, v27), (3, 1, v28)]) fun c29 => bnd (astoreN h26 4 ((.c (.p h.length 0))) ((.a c29))) fun h30 => tupN [aloadN h30 4 ((.c (.p h.length 0))), some (.c (.i .i64 0))] h30)) := by kernel_rfl
theorem K_view_Of : FnK Try.prog 15 A_view_Of E_view_Of R_view_Of := .mk' (sound1 S_super_Get_ok sound0) Try.func15 (by kernel_rfl) (by intro n args h; kernel_rfl)
noncomputable def S_view_Of : Fun := Lim A_view_Of E_view_Of
theorem S_view_Of_ok : SOk Try.prog 15 S_view_Of := K_view_Of.ok
theorem S_view_Of_of {n : Nat} {args : List Val} {h : Heap} {p : Val × Heap} (he : R_view_Of n args h = some p) : S_view_Of args h = some p := K_view_Of.of he
def view_View_there_o0 : List AOper := [{ dst := some 2, op := .box (.t 0) }, { dst := some 4, op := .mv (.v (.c (.b false))) }]
def view_View_there_c0 : ACode := .ops view_View_there_o0
def view_View_there_o1 : List AOper := [{ dst := some 5, op := .fAddr (.t 2) 3 }, { dst := some 6, op := .load1 (.t 5) }, { dst := some 7, op := .eqN true true (.t 6) }, { dst := some 8, op := .mv (.t 7) }, { dst := some 9, op := .mv (.t 1), guard := some (8, true) }, { dst := some 10, op := .bin .geq (.t 9) (.v (.c (.i .i64 0))), guard := some (8, true) }, { dst := some 11, op := .pick (.t 8) (.t 10) (.v (.c (.b false))) }, { dst := some 12, op := .mv (.t 11) }, { dst := some 13, op := .mv (.t 1), guard := some (12, true) }, { dst := some 14, op := .fAddr (.t 2) 0, guard := some (12, true) }, { dst := some 15, op := .fAddr (.t 14) 0, guard := some (12, true) }, { dst := some 16, op := .load1 (.t 15), guard := some (12, true) }, { dst := some 17, op := .bin .lss (.t 13) (.t 16), guard := some (12, true) }, { dst := some 18, op := .pick (.t 12) (.t 17) (.v (.c (.b false))) }, { dst := some 4, op := .mv (.t 18) }]
def view_View_there_c1 : ACode := .ops view_View_there_o1
def view_View_there_c2 : ACode := .seq [4] view_View_there_c1 .ret
def view_View_there_c3 : ACode := .seq [1, 2] view_View_there_c0 view_View_there_c2
def A_view_View_there : AFn := ⟨view_View_there_c3, [.tmp 4]⟩
noncomputable def E_view_View_there : Sums := disp0
noncomputable def view_View_there_c0_d (n : Nat) : SmV := smOps E_view_View_there view_View_there_o0
noncomputable def view_View_there_c1_d (n : Nat) : SmV := smOps E_view_View_there view_View_there_o1
noncomputable def view_View_there_c2_d (n : Nat) : SmV := smSeq [4] (view_View_there_c1_d n) smRet
noncomputable def view_View_there_c3_d (n : Nat) : SmV := smSeq [1, 2] (view_View_there_c0_d n) (view_View_there_c2_d n)
noncomputable def R_view_View_there (n : Nat) (args : List Val) (h : Heap) : OptV := (view_View_there_c3_d n) A_view_View_there.fin (params 0 args) h
theorem R_view_View_there_eq (n : Nat) (a0 a1 : Val) (h : Heap) : R_view_View_there n [a0, a1] h = bnd (cells? a0) fun c1 => bnd (afAddr ((.c (.p h.length 0))) 3) fun v2 => bnd (aload1 ((h ++ [some (Row.mk (c1) true)])) v2) fun v3 => bnd (aeqN true true v3) fun v4 => bnd (gd v4 true (some (a1, (h ++ [some (Row.mk (c1) true)]))) (some (.no, (h ++ [some (Row.mk (c1) true)])))) fun p5 => bnd (gd v4 true (bnd (abin .geq p5.1 (.c (.i .i64 0))) fun v6 => some (v6, p5.2)) (some (.no, p5.2))) fun p7 => bnd (apick v4 p7.1 (.c (.b false))) fun v8 => bnd (gd v8 true (some (a1, p7.2)) (some (.no, p7.2))) fun p9 => bnd (gd v8 true (bnd (afAddr ((.c (.p h.length 0))) 0) fun v10 => some (v10, p9.2)) (some (.no, p9.2))) fun p11 => bnd (gd v8 true (bnd (afAddr p11.1 0) fun v12 => some (v12, p11.2)) (some (.no, p11.2))) fun p13 => bnd (gd v8 true (bnd (aload1 p13.2 p13.1) fun v14 => some (v14, p13.2)) (some (.no, p13.2))) fun p15 => bnd (gd v8 true (bnd (abin .lss p9.1 p15.1) fun v16 => some (v16, p15.2)) (some (.no, p15.2))) fun p17 => bnd (apick v8 p17.1 (.c (.b false))) fun v18 => some (v18, p17.2) := by kernel_rfl
theorem K_view_View_there : FnK Try.prog 76 A_view_View_there E_view_View_there R_view_View_there := .mk' (sound0) Try.func76 (by kernel_rfl) (by intro n args h; kernel_rfl)
noncomputable def S_view_View_there : Fun := tidy (Lim A_view_View_there E_view_View_there)
theorem S_view_View_there_ok : SOk Try.prog 76 S_view_View_there := K_view_View_there.sok
theorem S_view_View_there_flat {n : Nat} {args : List Val} {h h2 : Heap} {v : Val} (he : R_view_View_there n args (ro h) = some (v, h2)) (hf : v.flat = true) : S_view_View_there args h = some (v, h) := K_view_View_there.flat he hf
def view_Of_1_o0 : List AOper := [{ dst := some 3, op := .alloc (List.replicate 256 (.i .u8 0)) }]
def view_Of_1_c0 : ACode := .ops view_Of_1_o0
def view_Of_1_o1 : List AOper := [{ dst := some 4, op := .load1 (.t 1) }, { dst := some 5, op := .mv (.t 0) }, { dst := some 6, op := .iAddrL 256 (.t 4) (.t 5) }, { dst := some 7, op := .loadN 256 (.t 6) }, { dst := none, op := .storeN 256 (.t 3) (.t 7) }]
def view_Of_1_c1 : ACode := .ops view_Of_1_o1
def view_Of_1_c2 : ACode := .seq [3] view_Of_1_c1 .ret
def view_Of_1_c3 : ACode := .seq [0, 1, 3] view_Of_1_c0 view_Of_1_c2
def A_view_Of_1 : AFn := ⟨view_Of_1_c3, [.cellN 3 256]⟩
noncomputable def E_view_Of_1 : Sums := disp0
noncomputable def view_Of_1_c0_d (n : Nat) : SmV := smOps E_view_Of_1 view_Of_1_o0
noncomputable def view_Of_1_c1_d (n : Nat) : SmV := smOps E_view_Of_1 view_Of_1_o1
noncomputable def view_Of_1_c2_d (n : Nat) : SmV := smSeq [3] (view_Of_1_c1_d n) smRet
noncomputable def view_Of_1_c3_d (n : Nat) : SmV := smSeq [0, 1, 3] (view_Of_1_c0_d n) (view_Of_1_c2_d n)
noncomputable def R_view_Of_1 (n : Nat) (args : List Val) (h : Heap) : OptV := (view_Of_1_c3_d n) A_view_Of_1.fin (params 0 args) h
theorem R_view_Of_1_eq (n : Nat) (a0 a1 : Val) (h : Heap) : R_view_Of_1 n [a0, a1] h = bnd (aload1 ((h ++ [some (Row.mk (List.replicate 256 (.i .u8 0)) true)])) a1) fun v1 => bnd (aiAddrL 256 v1 a0) fun v2 => bnd (aloadN ((h ++ [some (Row.mk (List.replicate 256 (.i .u8 0)) true)])) 256 v2) fun v3 => bnd (astoreN ((h ++ [some (Row.mk (List.replicate 256 (.i .u8 0)) true)])) 256 ((.c (.p h.length 0))) v3) fun h4 => mp (aloadN h4 256 ((.c (.p h.length 0)))) fun v => (v, h4) := by kernel_rfl
theorem K_view_Of_1 : FnK Try.prog 54 A_view_Of_1 E_view_Of_1 R_view_Of_1 := .mk' (sound0) Try.func54 (by kernel_rfl) (by intro n args h; kernel_rfl)
noncomputable def S_view_Of_1 : Fun := tidy (Lim A_view_Of_1 E_view_Of_1)
theorem S_view_Of_1_ok : SOk Try.prog 54 S_view_Of_1 := K_view_Of_1.sok
theorem S_view_Of_1_flat {n : Nat} {args : List Val} {h h2 : Heap} {v : Val} (he : R_view_Of_1 n args (ro h) = some (v, h2)) (hf : v.flat = true) : S_view_Of_1 args h = some (v, h) := K_view_Of_1.flat he hf
def view_View_Block__Of_1_o0 : List AOper := [{ dst := some 2, op := .box (.t 0) }, { dst := some 4, op := .alloc (List.replicate 256 (.i .u8 0)) }]
def view_View_Block__Of_1_c0 : ACode := .ops view_View_Block__Of_1_o0
def view_View_Block__Of_1_o1 : List AOper := [{ dst := some 5, op := .loadN 4 (.t 2) }, { dst := some 6, op := .mv (.t 1) }, { dst := some 7, op := .call 76 [(.t 5), (.t 6)] }, { dst := some 8, op := .un .not (.t 7) }]
def view_View_Block__Of_1_c1 : ACode := .ops view_View_Block__Of_1_o1
def view_View_Block__Of_1_o2 : List AOper := [{ dst := some 9, op := .build (List.replicate 256 (.i .u8 0)) [] }, { dst := none, op := .storeN 256 (.t 4) (.t 9) }]
def view_View_Block__Of_1_c2 : ACode := .ops view_View_Block__Of_1_o2
def view_View_Block__Of_1_c3 : ACode := .seq [4] view_View_Block__Of_1_c2 .ret
def view_View_Block__Of_1_c4 : ACode := .cond (.t 8) view_View_Block__Of_1_c3 .skip
def view_View_Block__Of_1_c5 : ACode := .seq [1, 2, 4, 8] view_View_Block__Of_1_c1 view_View_Block__Of_1_c4
def view_View_Block__Of_1_o3 : List AOper := [{ dst := some 10, op := .fAddr (.t 2) 3 }, { dst := some 11, op := .load1 (.t 10) }, { dst := some 12, op := .mv (.t 1) }, { dst := some 13, op := .callV (.t 11) [(.t 12)] }, { dst := none, op := .storeN 256 (.t 4) (.t 13) }]
def view_View_Block__Of_1_c6 : ACode := .ops view_View_Block__Of_1_o3
def view_View_Block__Of_1_c7 : ACode := .seq [4] view_View_Block__Of_1_c6 .ret
def view_View_Block__Of_1_c8 : ACode := .seq [1, 2, 4] view_View_Block__Of_1_c5 view_View_Block__Of_1_c7
def view_View_Block__Of_1_c9 : ACode := .seq [1, 2, 4] view_View_Block__Of_1_c0 view_View_Block__Of_1_c8
def A_view_View_Block__Of_1 : AFn := ⟨view_View_Block__Of_1_c9, [.cellN 4 256]⟩
noncomputable def E_view_View_Block__Of_1 : Sums := disp 76 S_view_View_there (disp 54 S_view_Of_1 disp0)
noncomputable def view_View_Block__Of_1_c0_d (n : Nat) : SmV := smOps E_view_View_Block__Of_1 view_View_Block__Of_1_o0
noncomputable def view_View_Block__Of_1_c1_d (n : Nat) : SmV := smOps E_view_View_Block__Of_1 view_View_Block__Of_1_o1
noncomputable def view_View_Block__Of_1_c2_d (n : Nat) : SmV := smOps E_view_View_Block__Of_1 view_View_Block__Of_1_o2
noncomputable def view_View_Block__Of_1_c3_d (n : Nat) : SmV := smSeq [4] (view_View_Block__Of_1_c2_d n) smRet
noncomputable def view_View_Block__Of_1_c4_d (n : Nat) : SmV := smCond (.t 8) (view_View_Block__Of_1_c3_d n) smSkip
noncomputable def view_View_Block__Of_1_c5_d (n : Nat) : SmV := smSeq [1, 2, 4, 8] (view_View_Block__Of_1_c1_d n) (view_View_Block__Of_1_c4_d n)
noncomputable def view_View_Block__Of_1_c6_d (n : Nat) : SmV := smOps E_view_View_Block__Of_1 view_View_Block__Of_1_o3
noncomputable def view_View_Block__Of_1_c7_d (n : Nat) : SmV := smSeq [4] (view_View_Block__Of_1_c6_d n) smRet
noncomputable def view_View_Block__Of_1_c8_d (n : Nat) : SmV := smSeq [1, 2, 4] (view_View_Block__Of_1_c5_d n) (view_View_Block__Of_1_c7_d n)
noncomputable def view_View_Block__Of_1_c9_d (n : Nat) : SmV := smSeq [1, 2, 4] (view_View_Block__Of_1_c0_d n) (view_View_Block__Of_1_c8_d n)
noncomputable def R_view_View_Block__Of_1 (n : Nat) (args : List Val) (h : Heap) : OptV := (view_View_Block__Of_1_c9_d n) A_view_View_Block__Of_1.fin (params 0 args) h
theorem R_view_View_Block__Of_1_eq (n : Nat) (a0 a1 : Val) (h : Heap) : R_view_View_Block__Of_1 n [a0, a1] h = bnd (cells? a0) fun c1 => bnd (aloadN (((h ++ [some (Row.mk (c1) true)]) ++ [some (Row.mk (List.replicate 256 (.i .u8 0)) true)])) 4 ((.c (.p h.length 0)))) fun v2 => bnd (S_view_View_there [v2, a1] (((h ++ [some (Row.mk (c1) true)]) ++ [some (Row.mk (List.replicate 256 (.i .u8 0)) true)]))) fun p3 => bnd (aun .not p3.1) fun v4 => cnd v4 (bnd (afill (List.replicate 256 (.i .u8 0)) []) fun c5 => bnd (astoreN p3.2 256 ((.c (.p ((h ++ [some (Row.mk (c1) true)])).length 0))) ((.a c5))) fun h6 => mp (aloadN h6 256 ((.c (.p ((h ++ [some (Row.mk (c1) true)])).length 0)))) fun v => (v, h6)) (bnd (afAddr ((.c (.p h.length 0))) 3) fun v7 => bnd (aload1 p3.2 v7) fun v8 => bnd (callv E_view_View_Block__Of_1 v8 [a1] p3.2) fun p9 => bnd (astoreN p9.2 256 ((.c (.p ((h ++ [some (Row.mk (c1) true)])).length 0))) p9.1) fun h10 => mp (aloadN h10 256 ((.c (.p ((h ++ [some (Row.mk (c1) true)])).length 0)))) fun v => (v, h10)) := by kernel_rfl
theorem K_view_View_Block__Of_1 : FnK Try.prog 38 A_view_View_Block__Of_1 E_view_View_Block__Of_1 R_view_View_Block__Of_1 := .mk' (sound1 S_view_View_there_ok (sound1 S_view_Of_1_ok sound0)) Try.func38 (by kernel_rfl) (by intro n args h; kernel_rfl)
noncomputable def S_view_View_Block__Of_1 : Fun := tidy (Lim A_view_View_Block__Of_1 E_view_View_Block__Of_1)
theorem S_view_View_Block__Of_1_ok : SOk Try.prog 38 S_view_View_Block__Of_1 := K_view_View_Block__Of_1.sok
theorem S_view_View_Block__Of_1_flat {n : Nat} {args : List Val} {h h2 : Heap} {v : Val} (he : R_view_View_Block__Of_1 n args (ro h) = some (v, h2)) (hf : v.flat = true) : S_view_View_Block__Of_1 args h = some (v, h) := K_view_View_Block__Of_1.flat he hf
def view_View_Inode_o0 : List AOper := [{ dst := some 2, op := .box (.t 0) }, { dst := some 4, op := .alloc ([.i .i64 0, .i .i64 0, .i .i64 0, .i .i64 0, .i .i64 0, .i .i64 0, .i .i64 0, .i .i64 0, .i .i64 0, .i .i64 0, .i .i64 0]) }]
def view_View_Inode_c0 : ACode := .ops view_View_Inode_o0
def view_View_Inode_o1 : List AOper := [{ dst := some 11, op := .fAddr (.t 2) 0 }, { dst := some 12, op := .loadN 3 (.t 11) }, { dst := some 13, op := .mv (.t 1) }, { dst := some 14, op := .call 55 [(.t 12), (.t 13)] }, { dst := some 10, op := .mv (.t 14) }, { dst := some 15, op := .ext (.t 10) 0 }, { dst := some 16, op := .ext (.t 10) 1 }, { dst := some 17, op := .ext (.t 10) 2 }, { dst := some 5, op := .mv (.t 15) }, { dst := some 6, op := .mv (.t 16) }, { dst := some 7, op := .mv (.t 17) }]
def view_View_Inode_c1 : ACode := .ops view_View_Inode_o1
def view_View_Inode_o2 : List AOper := [{ dst := some 18, op := .mv (.t 7) }, { dst := some 19, op := .un .not (.t 18) }]
def view_View_Inode_c2 : ACode := .ops view_View_Inode_o2
def view_View_Inode_o3 : List AOper := [{ dst := some 20, op := .build ([.i .i64 0, .i .i64 0, .i .i64 0, .i .i64 0, .i .i64 0, .i .i64 0, .i .i64 0, .i .i64 0, .i .i64 0, .i .i64 0, .i .i64 0]) [] }, { dst := none, op := .storeN 11 (.t 4) (.t 20) }]
def view_View_Inode_c3 : ACode := .ops view_View_Inode_o3
def view_View_Inode_c4 : ACode := .seq [4] view_View_Inode_c3 .ret
def view_View_Inode_c5 : ACode := .cond (.t 19) view_View_Inode_c4 .skip
def view_View_Inode_c6 : ACode := .seq [2, 4, 5, 6, 19] view_View_Inode_c2 view_View_Inode_c5
def view_View_Inode_o4 : List AOper := [{ dst := some 22, op := .loadN 4 (.t 2) }, { dst := some 23, op := .mv (.t 5) }, { dst := some 24, op := .call 38 [(.t 22), (.t 23)] }, { dst := some 25, op := .mv (.t 6) }, { dst := some 26, op := .call 56 [(.t 24), (.t 25)] }, { dst := some 21, op := .mv (.t 26) }, { dst := some 27, op := .ext (.t 21) 0 }, { dst := some 28, op := .ext (.t 21) 1 }, { dst := some 8, op := .alloc ([.i .i64 0, .i .i64 0, .i .i64 0, .i .i64 0, .i .i64 0, .i .i64 0, .i .i64 0, .i .i64 0, .i .i64 0, .i .i64 0, .i .i64 0]) }, { dst := none, op := .storeN 11 (.t 8) (.t 27) }, { dst := some 9, op := .mv (.t 28) }]
def view_View_Inode_c7 : ACode := .ops view_View_Inode_o4
def view_View_Inode_o5 : List AOper := [{ dst := some 29, op := .loadN 11 (.t 8) }, { dst := none, op := .storeN 11 (.t 4) (.t 29) }]
def view_View_Inode_c8 : ACode := .ops view_View_Inode_o5
def view_View_Inode_c9 : ACode := .seq [4] view_View_Inode_c8 .ret
def view_View_Inode_c10 : ACode := .seq [4, 8] view_View_Inode_c7 view_View_Inode_c9
def view_View_Inode_c11 : ACode := .seq [2, 4, 5, 6] view_View_Inode_c6 view_View_Inode_c10
def view_View_Inode_c12 : ACode := .seq [2, 4, 5, 6, 7] view_View_Inode_c1 view_View_Inode_c11
def view_View_Inode_c13 : ACode := .seq [1, 2, 4] view_View_Inode_c0 view_View_Inode_c12
def A_view_View_Inode : AFn := ⟨view_View_Inode_c13, [.cellN 4 11]⟩
noncomputable def E_view_View_Inode : Sums := disp 55 S_geom_Where (disp 38 S_view_View_Block__Of_1 (disp 56 S_table_Get disp0))
noncomputable def view_View_Inode_c0_d (n : Nat) : SmV := smOps E_view_View_Inode view_View_Inode_o0
noncomputable def view_View_Inode_c1_d (n : Nat) : SmV := smOps E_view_View_Inode view_View_Inode_o1
noncomputable def view_View_Inode_c2_d (n : Nat) : SmV := smOps E_view_View_Inode view_View_Inode_o2
noncomputable def view_View_Inode_c3_d (n : Nat) : SmV := smOps E_view_View_Inode view_View_Inode_o3
noncomputable def view_View_Inode_c4_d (n : Nat) : SmV := smSeq [4] (view_View_Inode_c3_d n) smRet
noncomputable def view_View_Inode_c5_d (n : Nat) : SmV := smCond (.t 19) (view_View_Inode_c4_d n) smSkip
noncomputable def view_View_Inode_c6_d (n : Nat) : SmV := smSeq [2, 4, 5, 6, 19] (view_View_Inode_c2_d n) (view_View_Inode_c5_d n)
noncomputable def view_View_Inode_c7_d (n : Nat) : SmV := smOps E_view_View_Inode view_View_Inode_o4
noncomputable def view_View_Inode_c8_d (n : Nat) : SmV := smOps E_view_View_Inode view_View_Inode_o5
noncomputable def view_View_Inode_c9_d (n : Nat) : SmV := smSeq [4] (view_View_Inode_c8_d n) smRet
noncomputable def view_View_Inode_c10_d (n : Nat) : SmV := smSeq [4, 8] (view_View_Inode_c7_d n) (view_View_Inode_c9_d n)
noncomputable def view_View_Inode_c11_d (n : Nat) : SmV := smSeq [2, 4, 5, 6] (view_View_Inode_c6_d n) (view_View_Inode_c10_d n)
noncomputable def view_View_Inode_c12_d (n : Nat) : SmV := smSeq [2, 4, 5, 6, 7] (view_View_Inode_c1_d n) (view_View_Inode_c11_d n)
noncomputable def view_View_Inode_c13_d (n : Nat) : SmV := smSeq [1, 2, 4] (view_View_Inode_c0_d n) (view_View_Inode_c12_d n)
noncomputable def R_view_View_Inode (n : Nat) (args : List Val) (h : Heap) : OptV := (view_View_Inode_c13_d n) A_view_View_Inode.fin (params 0 args) h
theorem R_view_View_Inode_eq (n : Nat) (a0 a1 : Val) (h : Heap) : R_view_View_Inode n [a0, a1] h = bnd (cells? a0) fun c1 => bnd (afAddr ((.c (.p h.length 0))) 0) fun v2 => bnd (aloadN (((h ++ [some (Row.mk (c1) true)]) ++ [some (Row.mk ([.i .i64 0, .i .i64 0, .i .i64 0, .i .i64 0, .i .i64 0, .i .i64 0, .i .i64 0, .i .i64 0, .i .i64 0, .i .i64 0, .i .i64 0]) true)])) 3 v2) fun v3 => bnd (S_geom_Where [v3, a1] (((h ++ [some (Row.mk (c1) true)]) ++ [some (Row.mk ([.i .i64 0, .i .i64 0, .i .i64 0, .i .i64 0, .i .i64 0, .i .i64 0, .i .i64 0, .i .i64 0, .i .i64 0, .i .i64 0, .i .i64 0]) true)]))) fun p4 => bnd (aext p4.1 0) fun v5 => bnd (aext p4.1 1) fun v6 => bnd (aext p4.1 2) fun v7 => bnd (aun .not v7) fun v8 => cnd v8 (bnd (afill ([.i .i64 0, .i .i64 0, .i .i64 0, .i .i64 0, .i .i64 0, .i .i64 0, .i .i64 0, .i .i64 0, .i .i64 0, .i .i64 0, .i .i64 0]) []) fun c9 => bnd (astoreN p4.2 11 ((.c (.p ((h ++ [some (Row.mk (c1) true)])).length 0))) ((.a c9))) fun h10 => mp (aloadN h10 11 ((.c (.p ((h ++ [some (Row.mk (c1) true)])).length 0)))) fun v => (v, h10)) (bnd (aloadN p4.2 4 ((.c (.p h.length 0)))) fun v11 => bnd (S_view_View_Block__Of_1 [v11, v5] p4.2) fun p12 => bnd (S_table_Get [p12.1, v6] p12.2) fun p13 => bnd (aext p13.1 0) fun v14 => bnd (aext p13.1 1) fun v15 => bnd (astoreN ((p13.2 ++ [some (Row.mk ([.i .i64 0, .i .i64 0, .i .i64 0, .i .i64 0, .i .i64 0, .i .i64 0, .i .i64 0, .i .i64 0, .i .i64 0, .i .i64 0, .i .i64 0]) true)])) 11 ((.c (.p p13.2.length 0))) v14) fun h16 => bnd (aloadN h16 11 ((.c (.p p13.2.length 0)))) fun v17 => bnd (astoreN h16 11 ((.c (.p ((h ++ [some (Row.mk (c1) true)])).length 0))) v17) fun h18 => mp (aloadN h18 11 ((.c (.p ((h ++ [some (Row.mk (c1) true)])).length 0)))) fun v => (v, h18)) := by kernel_rfl
theorem K_view_View_Inode : FnK Try.prog 17 A_view_View_Inode E_view_View_Inode R_view_View_Inode := .mk' (sound1 S_geom_Where_ok (sound1 S_view_View_Block__Of_1_ok (sound1 S_table_Get_ok sound0))) Try.func17 (by kernel_rfl) (by intro n args h; kernel_rfl)
noncomputable def S_view_View_Inode : Fun := tidy (Lim A_view_View_Inode E_view_View_Inode)
theorem S_view_View_Inode_ok : SOk Try.prog 17 S_view_View_Inode := K_view_View_Inode.sok
theorem S_view_View_Inode_flat {n : Nat} {args : List Val} {h h2 : Heap} {v : Val} (he : R_view_View_Inode n args (ro h) = some (v, h2)) (hf : v.flat = true) : S_view_View_Inode args h = some (v, h) := K_view_View_Inode.flat he hf
def view_View_Used_o0 : List AOper := [{ dst := some 2, op := .box (.t 0) }, { dst := some 4, op := .mv (.v (.c (.b false))) }]
def view_View_Used_c0 : ACode := .ops view_View_Used_o0
def view_View_Used_o1 : List AOper := [{ dst := some 5, op := .fAddr (.t 2) 0 }, { dst := some 6, op := .loadN 3 (.t 5) }, { dst := some 7, op := .call 70 [(.t 6)] }, { dst := some 8, op := .bin .eql (.t 7) (.v (.c (.i .i64 0))) }, { dst := some 9, op := .mv (.t 8) }, { dst := some 10, op := .mv (.t 1), guard := some (9, true) }, { dst := some 11, op := .bin .geq (.t 10) (.v (.c (.i .i64 0))), guard := some (9, true) }, { dst := some 12, op := .pick (.t 9) (.t 11) (.v (.c (.b false))) }, { dst := some 13, op := .mv (.t 12) }, { dst := some 14, op := .mv (.t 1), guard := some (13, true) }, { dst := some 15, op := .fAddr (.t 2) 0, guard := some (13, true) }, { dst := some 16, op := .fAddr (.t 15) 0, guard := some (13, true) }, { dst := some 17, op := .load1 (.t 16), guard := some (13, true) }, { dst := some 18, op := .bin .lss (.t 14) (.t 17), guard := some (13, true) }, { dst := some 19, op := .pick (.t 13) (.t 18) (.v (.c (.b false))) }, { dst := some 20, op := .mv (.t 19) }, { dst := some 21, op := .loadN 4 (.t 2), guard := some (20, true) }, { dst := some 22, op := .call 72 [], guard := some (20, true) }, { dst := some 23, op := .call 38 [(.t 21), (.t 22)], guard := some (20, true) }, { dst := some 24, op := .mv (.t 1), guard := some (20, true) }]
def view_View_Used_o2 : List AOper := [{ dst := some 25, op := .call 71 [(.t 23), (.t 24)], guard := some (20, true) }, { dst := some 26, op := .pick (.t 20) (.t 25) (.v (.c (.b false))) }, { dst := some 4, op := .mv (.t 26) }]
def view_View_Used_c1 : ACode := .draw 0 view_View_Used_o1 view_View_Used_o2
def view_View_Used_c2 : ACode := .seq [4] view_View_Used_c1 .ret
def view_View_Used_c3 : ACode := .seq [1, 2] view_View_Used_c0 view_View_Used_c2
def A_view_View_Used : AFn := ⟨view_View_Used_c3, [.tmp 4]⟩
noncomputable def E_view_View_Used : Sums := disp 70 S_super_Check (disp 72 S_geom_Map (disp 38 S_view_View_Block__Of_1 (disp 71 S_chart_Has disp0)))
noncomputable def view_View_Used_c0_d (n : Nat) : SmV := smOps E_view_View_Used view_View_Used_o0
noncomputable def view_View_Used_c1_d (n : Nat) : SmV := smDraw E_view_View_Used 0 view_View_Used_o1 view_View_Used_o2
noncomputable def view_View_Used_c2_d (n : Nat) : SmV := smSeq [4] (view_View_Used_c1_d n) smRet
noncomputable def view_View_Used_c3_d (n : Nat) : SmV := smSeq [1, 2] (view_View_Used_c0_d n) (view_View_Used_c2_d n)
noncomputable def R_view_View_Used (n : Nat) (args : List Val) (h : Heap) : OptV := (view_View_Used_c3_d n) A_view_View_Used.fin (params 0 args) h
theorem R_view_View_Used_eq (n : Nat) (a0 a1 : Val) (h : Heap) : R_view_View_Used n [a0, a1] h = bnd (cells? a0) fun c1 => bnd (afAddr ((.c (.p h.length 0))) 0) fun v2 => bnd (aloadN ((h ++ [some (Row.mk (c1) true)])) 3 v2) fun v3 => bnd (quiet ((((h ++ [some (Row.mk (c1) true)])) ++ [])) (S_super_Check [v3] ((((h ++ [some (Row.mk (c1) true)])) ++ [])))) fun p4 => bnd (abin .eql p4.1 (.c (.i .i64 0))) fun v5 => bnd (gd v5 true (some (a1, p4.2)) (some (.no, p4.2))) fun p6 => bnd (gd v5 true (bnd (abin .geq p6.1 (.c (.i .i64 0))) fun v7 => some (v7, p6.2)) (some (.no, p6.2))) fun p8 => bnd (apick v5 p8.1 (.c (.b false))) fun v9 => bnd (gd v9 true (some (a1, p8.2)) (some (.no, p8.2))) fun p10 => bnd (gd v9 true (bnd (afAddr ((.c (.p h.length 0))) 0) fun v11 => some (v11, p10.2)) (some (.no, p10.2))) fun p12 => bnd (gd v9 true (bnd (afAddr p12.1 0) fun v13 => some (v13, p12.2)) (some (.no, p12.2))) fun p14 => bnd (gd v9 true (bnd (aload1 ((h ++ [some (Row.mk (c1) true)])) p14.1) fun v15 => some (v15, p14.2)) (some (.no, p14.2))) fun p16 => bnd (gd v9 true (bnd (abin .lss p10.1 p16.1) fun v17 => some (v17, p16.2)) (some (.no, p16.2))) fun p18 => bnd (apick v9 p18.1 (.c (.b false))) fun v19 => bnd (gd v19 true (bnd (aloadN ((h ++ [some (Row.mk (c1) true)])) 4 ((.c (.p h.length 0)))) fun v20 => some (v20, p18.2)) (some (.no, p18.2))) fun p21 => bnd (gd v19 true (bnd (quiet p21.2 (S_geom_Map [] p21.2)) fun p22 => some (p22.1, p22.2)) (some (.no, p21.2))) fun p23 => bnd (gd v19 true (bnd (quiet p23.2 (S_view_View_Block__Of_1 [p21.1, p23.1] p23.2)) fun p24 => some (p24.1, p24.2)) (some (.no, p23.2))) fun p25 => bnd (gd v19 true (some (a1, p25.2)) (some (.no, p25.2))) fun p26 => bnd (gd v19 true (bnd (S_chart_Has [p25.1, p26.1] p26.2) fun p27 => some (p27.1, p27.2)) (some (.no, p26.2))) fun p28 => bnd (apick v19 p28.1 (.c (.b false))) fun v29 => some (v29, p28.2) := by kernel_rfl
theorem K_view_View_Used : FnK Try.prog 33 A_view_View_Used E_view_View_Used R_view_View_Used := .mk' (sound1 S_super_Check_ok (sound1 S_geom_Map_ok (sound1 S_view_View_Block__Of_1_ok (sound1 S_chart_Has_ok sound0)))) Try.func33 (by kernel_rfl) (by intro n args h; kernel_rfl)
noncomputable def S_view_View_Used : Fun := tidy (Lim A_view_View_Used E_view_View_Used)
theorem S_view_View_Used_ok : SOk Try.prog 33 S_view_View_Used := K_view_View_Used.sok
theorem S_view_View_Used_flat {n : Nat} {args : List Val} {h h2 : Heap} {v : Val} (he : R_view_View_Used n args (ro h) = some (v, h2)) (hf : v.flat = true) : S_view_View_Used args h = some (v, h) := K_view_View_Used.flat he hf
def view_View_Inodes_o0 : List AOper := [{ dst := some 1, op := .box (.t 0) }, { dst := some 2, op := .nilrow 1 }]
def view_View_Inodes_c0 : ACode := .ops view_View_Inodes_o0
def view_View_Inodes_o1 : List AOper := [{ dst := some 3, op := .nilrow 1 }]
def view_View_Inodes_c1 : ACode := .ops view_View_Inodes_o1
def view_View_Inodes_o2 : List AOper := [{ dst := some 5, op := .mv (.v (.c (.i .i64 0))) }]
def view_View_Inodes_c2 : ACode := .ops view_View_Inodes_o2
def view_View_Inodes_o3 : List AOper := [{ dst := some 6, op := .bin .lss (.t 5) (.v (.c (.i .i64 128))) }]
def view_View_Inodes_c3 : ACode := .ops view_View_Inodes_o3
def view_View_Inodes_c4 : ACode := .cond (.t 6) .skip (.exit 0)
def view_View_Inodes_o4 : List AOper := [{ dst := some 7, op := .mv (.t 5) }, { dst := some 4, op := .mv (.t 7) }]
def view_View_Inodes_c5 : ACode := .ops view_View_Inodes_o4
def view_View_Inodes_o5 : List AOper := [{ dst := some 8, op := .loadN 4 (.t 1) }, { dst := some 9, op := .mv (.t 4) }, { dst := some 10, op := .bin .add (.t 9) (.v (.c (.i .i64 1))) }, { dst := some 11, op := .call 17 [(.t 8), (.t 10)] }, { dst := some 12, op := .fld1 (.t 11) 0 }, { dst := some 13, op := .bin .neq (.t 12) (.v (.c (.i .i64 0))) }]
def view_View_Inodes_c6 : ACode := .ops view_View_Inodes_o5
def view_View_Inodes_o6 : List AOper := [{ dst := some 14, op := .mv (.t 3) }, { dst := some 15, op := .mv (.t 4) }, { dst := some 16, op := .bin .add (.t 15) (.v (.c (.i .i64 1))) }, { dst := some 17, op := .buildSl 1 1 ([.i .i64 0]) [(0, 1, (.t 16))] }, { dst := some 18, op := .app 1 (.t 14) (.t 17) }, { dst := some 3, op := .mv (.t 18) }]
def view_View_Inodes_c7 : ACode := .ops view_View_Inodes_o6
def view_View_Inodes_c8 : ACode := .cond (.t 13) view_View_Inodes_c7 .skip
def view_View_Inodes_c9 : ACode := .seq [1, 3, 4, 5, 13] view_View_Inodes_c6 view_View_Inodes_c8
def view_View_Inodes_c10 : ACode := .seq [1, 3, 4, 5] view_View_Inodes_c5 view_View_Inodes_c9
def view_View_Inodes_c11 : ACode := .block 1 view_View_Inodes_c10
def view_View_Inodes_o7 : List AOper := [{ dst := some 19, op := .bin .add (.t 5) (.v (.c (.i .i64 1))) }, { dst := some 5, op := .mv (.t 19) }]
def view_View_Inodes_c12 : ACode := .ops view_View_Inodes_o7
def view_View_Inodes_c13 : ACode := .seq [1, 3, 5] view_View_Inodes_c11 view_View_Inodes_c12
def view_View_Inodes_c14 : ACode := .seq [1, 3, 5] view_View_Inodes_c4 view_View_Inodes_c13
def view_View_Inodes_c15 : ACode := .seq [1, 3, 5, 6] view_View_Inodes_c3 view_View_Inodes_c14
def view_View_Inodes_c16 : ACode := .loop [1, 3, 5] view_View_Inodes_c15
def view_View_Inodes_c17 : ACode := .block 0 view_View_Inodes_c16
def view_View_Inodes_c18 : ACode := .seq [1, 3, 5] view_View_Inodes_c2 view_View_Inodes_c17
def view_View_Inodes_o8 : List AOper := [{ dst := some 20, op := .mv (.t 3) }, { dst := some 2, op := .mv (.t 20) }]
def view_View_Inodes_c19 : ACode := .ops view_View_Inodes_o8
def view_View_Inodes_c20 : ACode := .seq [2] view_View_Inodes_c19 .ret
def view_View_Inodes_c21 : ACode := .seq [3] view_View_Inodes_c18 view_View_Inodes_c20
def view_View_Inodes_c22 : ACode := .seq [1, 3] view_View_Inodes_c1 view_View_Inodes_c21
def view_View_Inodes_c23 : ACode := .seq [1] view_View_Inodes_c0 view_View_Inodes_c22
def A_view_View_Inodes : AFn := ⟨view_View_Inodes_c23, [.tmp 2]⟩
noncomputable def E_view_View_Inodes : Sums := disp 17 S_view_View_Inode disp0
noncomputable def view_View_Inodes_c0_d (n : Nat) : SmV := smOps E_view_View_Inodes view_View_Inodes_o0
noncomputable def view_View_Inodes_c1_d (n : Nat) : SmV := smOps E_view_View_Inodes view_View_Inodes_o1
noncomputable def view_View_Inodes_c2_d (n : Nat) : SmV := smOps E_view_View_Inodes view_View_Inodes_o2
noncomputable def view_View_Inodes_c3_d (n : Nat) : SmV := smOps E_view_View_Inodes view_View_Inodes_o3
noncomputable def view_View_Inodes_c4_d (n : Nat) : SmV := smCond (.t 6) smSkip (smExit 0)
noncomputable def view_View_Inodes_c5_d (n : Nat) : SmV := smOps E_view_View_Inodes view_View_Inodes_o4
noncomputable def view_View_Inodes_c6_d (n : Nat) : SmV := smOps E_view_View_Inodes view_View_Inodes_o5
noncomputable def view_View_Inodes_c7_d (n : Nat) : SmV := smOps E_view_View_Inodes view_View_Inodes_o6
noncomputable def view_View_Inodes_c8_d (n : Nat) : SmV := smCond (.t 13) (view_View_Inodes_c7_d n) smSkip
noncomputable def view_View_Inodes_c9_d (n : Nat) : SmV := smSeq [1, 3, 4, 5, 13] (view_View_Inodes_c6_d n) (view_View_Inodes_c8_d n)
noncomputable def view_View_Inodes_c10_d (n : Nat) : SmV := smSeq [1, 3, 4, 5] (view_View_Inodes_c5_d n) (view_View_Inodes_c9_d n)
noncomputable def view_View_Inodes_c11_d (n : Nat) : SmV := smBlock 1 (view_View_Inodes_c10_d n)
noncomputable def view_View_Inodes_c12_d (n : Nat) : SmV := smOps E_view_View_Inodes view_View_Inodes_o7
noncomputable def view_View_Inodes_c13_d (n : Nat) : SmV := smSeq [1, 3, 5] (view_View_Inodes_c11_d n) (view_View_Inodes_c12_d n)
noncomputable def view_View_Inodes_c14_d (n : Nat) : SmV := smSeq [1, 3, 5] (view_View_Inodes_c4_d n) (view_View_Inodes_c13_d n)
noncomputable def view_View_Inodes_c15_d (n : Nat) : SmV := smSeq [1, 3, 5, 6] (view_View_Inodes_c3_d n) (view_View_Inodes_c14_d n)
noncomputable def view_View_Inodes_c16_d (n : Nat) : SmV := smLoop n [1, 3, 5] (view_View_Inodes_c15_d n)
noncomputable def view_View_Inodes_c17_d (n : Nat) : SmV := smBlock 0 (view_View_Inodes_c16_d n)
noncomputable def view_View_Inodes_c18_d (n : Nat) : SmV := smSeq [1, 3, 5] (view_View_Inodes_c2_d n) (view_View_Inodes_c17_d n)
noncomputable def view_View_Inodes_c19_d (n : Nat) : SmV := smOps E_view_View_Inodes view_View_Inodes_o8
noncomputable def view_View_Inodes_c20_d (n : Nat) : SmV := smSeq [2] (view_View_Inodes_c19_d n) smRet
noncomputable def view_View_Inodes_c21_d (n : Nat) : SmV := smSeq [3] (view_View_Inodes_c18_d n) (view_View_Inodes_c20_d n)
noncomputable def view_View_Inodes_c22_d (n : Nat) : SmV := smSeq [1, 3] (view_View_Inodes_c1_d n) (view_View_Inodes_c21_d n)
noncomputable def view_View_Inodes_c23_d (n : Nat) : SmV := smSeq [1] (view_View_Inodes_c0_d n) (view_View_Inodes_c22_d n)
noncomputable def view_View_Inodes_k0 (n : Nat) : AExit → Env → Heap → OptV := fun x e h => match x with | .normal => hold ((view_View_Inodes_c20_d n) A_view_View_Inodes.fin (e.keep [3]) h) | .exit id => A_view_View_Inodes.fin (.exit id) e h | .ret => A_view_View_Inodes.fin .ret e h
noncomputable def view_View_Inodes_k1 (n : Nat) : AExit → Env → Heap → OptV := fun x e h => match x with | .exit i => bif Nat.beq i 0 then (view_View_Inodes_k0 n) .normal e h else (view_View_Inodes_k0 n) (.exit i) e h | .normal => (view_View_Inodes_k0 n) .normal e h | .ret => (view_View_Inodes_k0 n) .ret e h
noncomputable def view_View_Inodes_l0 (n m : Nat) (x1 x3 x5 : Val) (h : Heap) : OptV := around (view_View_Inodes_c15_d n) [1, 3, 5] (view_View_Inodes_k1 n) m [(1, x1), (3, x3), (5, x5)] h
noncomputable def R_view_View_Inodes (n : Nat) (args : List Val) (h : Heap) : OptV := (view_View_Inodes_c23_d n) A_view_View_Inodes.fin (params 0 args) h
noncomputable def view_View_Inodes_k2 (n m : Nat) : AExit → Env → Heap → OptV := fun x e h => match x with | .normal => around (view_View_Inodes_c15_d n) [1, 3, 5] (view_View_Inodes_k1 n) m (e.keep [1, 3, 5]) h | .exit id => (view_View_Inodes_k1 n) (.exit id) e h | .ret => (view_View_Inodes_k1 n) .ret e h
noncomputable def view_View_Inodes_j0 (n m : Nat) (x1 x3 x5 : Val) (h : Heap) : OptV := hold ((view_View_Inodes_c12_d n) (view_View_Inodes_k2 n m) [(1, x1), (3, x3), (5, x5)] h)
theorem R_view_View_Inodes_eq (n : Nat) (a0 : Val) (h : Heap) : R_view_View_Inodes n [a0] h = bnd (cells? a0) fun c1 => view_View_Inodes_l0 n n ((.c (.p h.length 0))) ((.c (.sl (((h ++ [some (Row.mk (c1) true)]) ++ [some (Row.mk ([]) true)])).length 0 0 1))) (.c (.i .i64 0)) ((((h ++ [some (Row.mk (c1) true)]) ++ [some (Row.mk ([]) true)]) ++ [some (Row.mk ([]) true)])) := by kernel_rfl
theorem view_View_Inodes_l0_eq (n m : Nat) (x1 x3 x5 : Val) (h : Heap) : view_View_Inodes_l0 n (m + 1) x1 x3 x5 h = bnd (abin .lss x5 (.c (.i .i64 128))) fun v2 => cnd v2 (bnd (aloadN h 4 x1) fun v3 => bnd (abin .add x5 (.c (.i .i64 1))) fun v4 => bnd (S_view_View_Inode [v3, v4] h) fun p5 => bnd (afld1 p5.1 0) fun v6 => bnd (abin .neq v6 (.c (.i .i64 0))) fun v7 => cnd v7 (bnd (abin .add x5 (.c (.i .i64 1))) fun v8 => bnd (afill ([.i .i64 0]) [(0, 1, v8)]) fun c9 => bnd (aapp ((p5.2 ++ [some (Row.mk (c9) true)])) 1 x3 ((.c (.sl p5.2.length 0 1 1)))) fun p10 => view_View_Inodes_j0 n m x1 p10.1 x5 p10.2) (view_View_Inodes_j0 n m x1 x3 x5 p5.2)) (some (x3, h)) := by kernel_rfl
theorem view_View_Inodes_j0_eq (n m : Nat) (x1 x3 x5 : Val) (h : Heap) : view_View_Inodes_j0 n m x1 x3 x5 h = bnd (abin .add x5 (.c (.i .i64 1))) fun v11 => view_View_Inodes_l0 n m x1 x3 v11 h := by kernel_rfl
theorem K_view_View_Inodes : FnK Try.prog 31 A_view_View_Inodes E_view_View_Inodes R_view_View_Inodes := .mk' (sound1 S_view_View_Inode_ok sound0) Try.func31 (by kernel_rfl) (by intro n args h; kernel_rfl)
noncomputable def S_view_View_Inodes : Fun := tidy (Lim A_view_View_Inodes E_view_View_Inodes)
theorem S_view_View_Inodes_ok : SOk Try.prog 31 S_view_View_Inodes := K_view_View_Inodes.sok
theorem S_view_View_Inodes_out {n : Nat} {args : List Val} {h h2 : Heap} {v : Val} {sz k : Nat} {cs : List Cell} (he : R_view_View_Inodes n args (ro h) = some (v, h2)) (ho : Out h.length h2 v sz k cs) (hf : flats cs = true) : S_view_View_Inodes args h = some (.c (.sl h.length 0 k sz), h ++ [some ⟨cs, true⟩]) := K_view_View_Inodes.out he ho hf
def view_View_Image_o0 : List AOper := [{ dst := some 1, op := .box (.t 0) }, { dst := some 2, op := .nilrow 256 }]
def view_View_Image_c0 : ACode := .ops view_View_Image_o0
def view_View_Image_o1 : List AOper := [{ dst := some 5, op := .fAddr (.t 1) 0 }, { dst := some 6, op := .loadN 3 (.t 5) }, { dst := some 7, op := .call 70 [(.t 6)] }, { dst := some 8, op := .bin .neq (.t 7) (.v (.c (.i .i64 0))) }]
def view_View_Image_c1 : ACode := .ops view_View_Image_o1
def view_View_Image_o2 : List AOper := [{ dst := some 2, op := .nilrow 256 }]
def view_View_Image_c2 : ACode := .ops view_View_Image_o2
def view_View_Image_c3 : ACode := .seq [2] view_View_Image_c2 .ret
def view_View_Image_c4 : ACode := .cond (.t 8) view_View_Image_c3 .skip
def view_View_Image_c5 : ACode := .seq [1, 8] view_View_Image_c1 view_View_Image_c4
def view_View_Image_o3 : List AOper := [{ dst := some 9, op := .fAddr (.t 1) 0 }, { dst := some 10, op := .fAddr (.t 9) 0 }, { dst := some 11, op := .load1 (.t 10) }, { dst := some 12, op := .mkSl 256 (List.replicate 256 (.i .u8 0)) (.t 11) (.t 11) }, { dst := some 3, op := .mv (.t 12) }]
def view_View_Image_c6 : ACode := .ops view_View_Image_o3
def view_View_Image_o4 : List AOper := [{ dst := some 13, op := .mv (.t 3) }, { dst := some 14, op := .len (.t 13) }, { dst := some 15, op := .mv (.v (.c (.i .i64 0))) }]
def view_View_Image_c7 : ACode := .ops view_View_Image_o4
def view_View_Image_o5 : List AOper := [{ dst := some 16, op := .bin .lss (.t 15) (.t 14) }]
def view_View_Image_c8 : ACode := .ops view_View_Image_o5
def view_View_Image_c9 : ACode := .cond (.t 16) .skip (.exit 0)
def view_View_Image_o6 : List AOper := [{ dst := some 17, op := .mv (.t 15) }, { dst := some 4, op := .mv (.t 17) }]
def view_View_Image_c10 : ACode := .ops view_View_Image_o6
def view_View_Image_o7 : List AOper := [{ dst := some 18, op := .mv (.t 3) }, { dst := some 19, op := .mv (.t 4) }, { dst := some 20, op := .loadN 4 (.t 1) }, { dst := some 21, op := .mv (.t 4) }, { dst := some 22, op := .call 38 [(.t 20), (.t 21)] }, { dst := some 23, op := .iAddrL 256 (.t 18) (.t 19) }, { dst := none, op := .storeN 256 (.t 23) (.t 22) }]
def view_View_Image_c11 : ACode := .ops view_View_Image_o7
def view_View_Image_c12 : ACode := .seq [1, 3, 4, 14, 15] view_View_Image_c10 view_View_Image_c11
def view_View_Image_c13 : ACode := .block 1 view_View_Image_c12
def view_View_Image_o8 : List AOper := [{ dst := some 24, op := .bin .add (.t 15) (.v (.c (.i .i64 1))) }, { dst := some 15, op := .mv (.t 24) }]
def view_View_Image_c14 : ACode := .ops view_View_Image_o8
def view_View_Image_c15 : ACode := .seq [1, 3, 14, 15] view_View_Image_c13 view_View_Image_c14
def view_View_Image_c16 : ACode := .seq [1, 3, 14, 15] view_View_Image_c9 view_View_Image_c15
def view_View_Image_c17 : ACode := .seq [1, 3, 14, 15, 16] view_View_Image_c8 view_View_Image_c16
def view_View_Image_c18 : ACode := .loop [1, 3, 14, 15] view_View_Image_c17
def view_View_Image_c19 : ACode := .block 0 view_View_Image_c18
def view_View_Image_c20 : ACode := .seq [1, 3, 14, 15] view_View_Image_c7 view_View_Image_c19
def view_View_Image_o9 : List AOper := [{ dst := some 25, op := .mv (.t 3) }, { dst := some 2, op := .mv (.t 25) }]
def view_View_Image_c21 : ACode := .ops view_View_Image_o9
def view_View_Image_c22 : ACode := .seq [2] view_View_Image_c21 .ret
def view_View_Image_c23 : ACode := .seq [3] view_View_Image_c20 view_View_Image_c22
def view_View_Image_c24 : ACode := .seq [1, 3] view_View_Image_c6 view_View_Image_c23
def view_View_Image_c25 : ACode := .seq [1] view_View_Image_c5 view_View_Image_c24
def view_View_Image_c26 : ACode := .seq [1] view_View_Image_c0 view_View_Image_c25
def A_view_View_Image : AFn := ⟨view_View_Image_c26, [.tmp 2]⟩
noncomputable def E_view_View_Image : Sums := disp 70 S_super_Check (disp 38 S_view_View_Block__Of_1 disp0)
noncomputable def view_View_Image_c0_d (n : Nat) : SmV := smOps E_view_View_Image view_View_Image_o0
noncomputable def view_View_Image_c1_d (n : Nat) : SmV := smOps E_view_View_Image view_View_Image_o1
noncomputable def view_View_Image_c2_d (n : Nat) : SmV := smOps E_view_View_Image view_View_Image_o2
noncomputable def view_View_Image_c3_d (n : Nat) : SmV := smSeq [2] (view_View_Image_c2_d n) smRet
noncomputable def view_View_Image_c4_d (n : Nat) : SmV := smCond (.t 8) (view_View_Image_c3_d n) smSkip
noncomputable def view_View_Image_c5_d (n : Nat) : SmV := smSeq [1, 8] (view_View_Image_c1_d n) (view_View_Image_c4_d n)
noncomputable def view_View_Image_c6_d (n : Nat) : SmV := smOps E_view_View_Image view_View_Image_o3
noncomputable def view_View_Image_c7_d (n : Nat) : SmV := smOps E_view_View_Image view_View_Image_o4
noncomputable def view_View_Image_c8_d (n : Nat) : SmV := smOps E_view_View_Image view_View_Image_o5
noncomputable def view_View_Image_c9_d (n : Nat) : SmV := smCond (.t 16) smSkip (smExit 0)
noncomputable def view_View_Image_c10_d (n : Nat) : SmV := smOps E_view_View_Image view_View_Image_o6
noncomputable def view_View_Image_c11_d (n : Nat) : SmV := smOps E_view_View_Image view_View_Image_o7
noncomputable def view_View_Image_c12_d (n : Nat) : SmV := smSeq [1, 3, 4, 14, 15] (view_View_Image_c10_d n) (view_View_Image_c11_d n)
noncomputable def view_View_Image_c13_d (n : Nat) : SmV := smBlock 1 (view_View_Image_c12_d n)
noncomputable def view_View_Image_c14_d (n : Nat) : SmV := smOps E_view_View_Image view_View_Image_o8
noncomputable def view_View_Image_c15_d (n : Nat) : SmV := smSeq [1, 3, 14, 15] (view_View_Image_c13_d n) (view_View_Image_c14_d n)
noncomputable def view_View_Image_c16_d (n : Nat) : SmV := smSeq [1, 3, 14, 15] (view_View_Image_c9_d n) (view_View_Image_c15_d n)
noncomputable def view_View_Image_c17_d (n : Nat) : SmV := smSeq [1, 3, 14, 15, 16] (view_View_Image_c8_d n) (view_View_Image_c16_d n)
noncomputable def view_View_Image_c18_d (n : Nat) : SmV := smLoop n [1, 3, 14, 15] (view_View_Image_c17_d n)
noncomputable def view_View_Image_c19_d (n : Nat) : SmV := smBlock 0 (view_View_Image_c18_d n)
noncomputable def view_View_Image_c20_d (n : Nat) : SmV := smSeq [1, 3, 14, 15] (view_View_Image_c7_d n) (view_View_Image_c19_d n)
noncomputable def view_View_Image_c21_d (n : Nat) : SmV := smOps E_view_View_Image view_View_Image_o9
noncomputable def view_View_Image_c22_d (n : Nat) : SmV := smSeq [2] (view_View_Image_c21_d n) smRet
noncomputable def view_View_Image_c23_d (n : Nat) : SmV := smSeq [3] (view_View_Image_c20_d n) (view_View_Image_c22_d n)
noncomputable def view_View_Image_c24_d (n : Nat) : SmV := smSeq [1, 3] (view_View_Image_c6_d n) (view_View_Image_c23_d n)
noncomputable def view_View_Image_c25_d (n : Nat) : SmV := smSeq [1] (view_View_Image_c5_d n) (view_View_Image_c24_d n)
noncomputable def view_View_Image_c26_d (n : Nat) : SmV := smSeq [1] (view_View_Image_c0_d n) (view_View_Image_c25_d n)
noncomputable def view_View_Image_k0 (n : Nat) : AExit → Env → Heap → OptV := fun x e h => match x with | .normal => hold ((view_View_Image_c22_d n) A_view_View_Image.fin (e.keep [3]) h) | .exit id => A_view_View_Image.fin (.exit id) e h | .ret => A_view_View_Image.fin .ret e h
noncomputable def view_View_Image_k1 (n : Nat) : AExit → Env → Heap → OptV := fun x e h => match x with | .exit i => bif Nat.beq i 0 then (view_View_Image_k0 n) .normal e h else (view_View_Image_k0 n) (.exit i) e h | .normal => (view_View_Image_k0 n) .normal e h | .ret => (view_View_Image_k0 n) .ret e h
noncomputable def view_View_Image_l0 (n m : Nat) (x1 x3 x14 x15 : Val) (h : Heap) : OptV := around (view_View_Image_c17_d n) [1, 3, 14, 15] (view_View_Image_k1 n) m [(1, x1), (3, x3), (14, x14), (15, x15)] h
noncomputable def R_view_View_Image (n : Nat) (args : List Val) (h : Heap) : OptV := (view_View_Image_c26_d n) A_view_View_Image.fin (params 0 args) h
theorem R_view_View_Image_eq (n : Nat) (a0 : Val) (h : Heap) : R_view_View_Image n [a0] h = bnd (cells? a0) fun c1 => bnd (afAddr ((.c (.p h.length 0))) 0) fun v2 => bnd (aloadN (((h ++ [some (Row.mk (c1) true)]) ++ [some (Row.mk ([]) true)])) 3 v2) fun v3 => bnd (S_super_Check [v3] (((h ++ [some (Row.mk (c1) true)]) ++ [some (Row.mk ([]) true)]))) fun p4 => bnd (abin .neq p4.1 (.c (.i .i64 0))) fun v5 => cnd v5 (some (((.c (.sl p4.2.length 0 0 256))), (p4.2 ++ [some (Row.mk ([]) true)]))) (bnd (afAddr ((.c (.p h.length 0))) 0) fun v6 => bnd (afAddr v6 0) fun v7 => bnd (aload1 p4.2 v7) fun v8 => bnd (amkn v8 v8) fun n9 => bnd (alen ((.c (.sl p4.2.length 0 n9 256)))) fun v10 => view_View_Image_l0 n n ((.c (.p h.length 0))) ((.c (.sl p4.2.length 0 n9 256))) v10 (.c (.i .i64 0)) ((p4.2 ++ [some (Row.mk (rows (List.replicate 256 (.i .u8 0)) n9) true)]))) := by kernel_rfl
theorem view_View_Image_l0_eq (n m : Nat) (x1 x3 x14 x15 : Val) (h : Heap) : view_View_Image_l0 n (m + 1) x1 x3 x14 x15 h = bnd (abin .lss x15 x14) fun v11 => cnd v11 (bnd (aloadN h 4 x1) fun v12 => bnd (S_view_View_Block__Of_1 [v12, x15] h) fun p13 => bnd (aiAddrL 256 x3 x15) fun v14 => bnd (astoreN p13.2 256 v14 p13.1) fun h15 => bnd (abin .add x15 (.c (.i .i64 1))) fun v16 => view_View_Image_l0 n m x1 x3 x14 v16 h15) (some (x3, h)) := by kernel_rfl
theorem K_view_View_Image : FnK Try.prog 32 A_view_View_Image E_view_View_Image R_view_View_Image := .mk' (sound1 S_super_Check_ok (sound1 S_view_View_Block__Of_1_ok sound0)) Try.func32 (by kernel_rfl) (by intro n args h; kernel_rfl)
noncomputable def S_view_View_Image : Fun := tidy (Lim A_view_View_Image E_view_View_Image)
theorem S_view_View_Image_ok : SOk Try.prog 32 S_view_View_Image := K_view_View_Image.sok
theorem S_view_View_Image_out {n : Nat} {args : List Val} {h h2 : Heap} {v : Val} {sz k : Nat} {cs : List Cell} (he : R_view_View_Image n args (ro h) = some (v, h2)) (ho : Out h.length h2 v sz k cs) (hf : flats cs = true) : S_view_View_Image args h = some (.c (.sl h.length 0 k sz), h ++ [some ⟨cs, true⟩]) := K_view_View_Image.out he ho hf
end Go.Proofs.Ytdgggnlbdoiloaa
end
section
namespace Go.Proofs.Ytdgggnlbdoiloaa
open Go Go.Esc

def IsView (h : Heap) (f : Cell) (D : Dev) : Prop := ∃ r q rw rw', f = .f 54 [(r, 0)] ∧ rd h r = some ⟨[.sl q 0 D.length 256], rw⟩ ∧ rd h q = some ⟨cellsD D, rw'⟩
theorem IsView.ro {h : Heap} {f : Cell} {D : Dev} (hv : IsView h f D) : IsView (ro h) f D := by
  obtain ⟨r, q, rw, rw', e, h1, h2⟩ := hv
  exact ⟨r, q, false, false, e, by rw [rd_ro, h1]; rfl, by rw [rd_ro, h2]; rfl⟩
theorem IsView.more {h : Heap} {f : Cell} {D : Dev} (hv : IsView h f D) (l : Heap) : IsView (h ++ l) f D := by
  obtain ⟨r, q, rw, rw', e, h1, h2⟩ := hv
  exact ⟨r, q, rw, rw', e, rd_append h1, rd_append h2⟩
theorem IsView.since {g h : Heap} {f : Cell} {D : Dev} (hv : IsView g f D) (h1 : Low g.length g h) : IsView h f D := by
  obtain ⟨r, q, rw, rw', e, h2, h3⟩ := hv
  exact ⟨r, q, rw, rw', e, h1.rd h2, h1.rd h3⟩
theorem IsView.get {h : Heap} {f : Cell} {D : Dev} (hv : IsView h f D) : ∃ id cs, f = .f id cs := by
  obtain ⟨r, q, rw, rw', e, _⟩ := hv
  exact ⟨_, _, e⟩

def vwC (b n m : Int) (f : Cell) : List Cell := [.i .i64 b, .i .i64 n, .i .u64 m, f]

section
variable {D : Dev} {n m : Int} {f : Cell}
theorem vw_l3 {b : Int} : ldN (some (Row.mk (vwC b n m f) true)) 0 3 = some (.a (layC b n m)) := rfl
theorem vw_l4 {b : Int} : ldN (some (Row.mk (vwC b n m f) true)) 0 4 = some (.a (vwC b n m f)) := rfl
end

theorem view_Of_1_eq {h : Heap} {r q : Nat} {rw rw' : Bool} {D : Dev} {no : Nat} (hD : okD D) (hno : no < D.length) (h1 : rd h r = some ⟨[.sl q 0 D.length 256], rw⟩) (h2 : rd h q = some ⟨cellsD D, rw'⟩) :
    S_view_Of_1 [.c (.i .i64 (no : Int)), .c (.p r 0)] h = some (.a (encB D[no]), h) := by
  have key : ∀ g rw rw', rd g r = some ⟨[.sl q 0 D.length 256], rw⟩ → rd g q = some ⟨cellsD D, rw'⟩ → ∃ g', R_view_Of_1 0 [.c (.i .i64 (no : Int)), .c (.p r 0)] g = some (.a (encB D[no]), g') := by
    intro g rw rw' h1 h2
    have hz : (List.replicate 256 (Cell.i .u8 0)).length = 256 := List.length_replicate
    have hB : (encB D[no]).length = 256 := by rw [encB_length, hD.at hno]
    have l1 : aload1 (g ++ [some (Row.mk (List.replicate 256 (.i .u8 0)) true)]) (.c (.p r 0)) = some (.c (.sl q 0 D.length 256)) := load1_of (cs := [.sl q 0 D.length 256]) (rd_append h1) rfl (by cases rw <;> rfl)
    have a1 : aiAddrL 256 (.c (.sl q 0 D.length 256)) (.c (.i .i64 (no : Int))) = some (.c (.p q (0 + no * 256))) := iAddrL_of hno
    have l2 : aloadN (g ++ [some (Row.mk (List.replicate 256 (.i .u8 0)) true)]) 256 (.c (.p q (0 + no * 256))) = some (.a (encB D[no])) := by
      rw [loadN_of (cs := cellsD D) (rw := rw') (rd_append h2) (by rw [cellsD_length hD]; omega) (by
        rw [Nat.zero_add, cellsD_at hD hno, noX_encB]; simp), Nat.zero_add, cellsD_at hD hno]
    rw [Nat.zero_add] at a1 l2
    rw [R_view_Of_1_eq]
    generalize List.replicate 256 (Cell.i .u8 0) = z at *
    generalize encB D[no] = y at *
    exact ⟨_, by simp only [esc, esh, Nat.reduceAdd, Nat.reduceMul, Nat.reduceLT, l1, a1, l2, hz, hB] <;> rfl⟩
  obtain ⟨g', e⟩ := key (ro h) false false (by rw [rd_ro, h1]; rfl) (by rw [rd_ro, h2]; rfl)
  exact S_view_Of_1_flat e (by simp [Val.flat])

theorem view_there_eq {b n m no : Int} {f : Nat} {cs : List (Nat × Nat)} {h : Heap} : S_view_View_there [.a (vwC b n m (.f f cs)), .c (.i .i64 no)] h = some (.c (.b (decide (0 ≤ no) && decide (no < b))), h) := by
  have key : ∀ g, ∃ g', R_view_View_there 0 [.a (vwC b n m (.f f cs)), .c (.i .i64 no)] g = some (.c (.b (decide (0 ≤ no) && decide (no < b))), g') := by
    intro g
    rw [R_view_View_there_eq]
    unfold vwC
    by_cases c1 : 0 ≤ no
    · exact ⟨_, by simp only [esc, esh, Nat.reduceAdd, Nat.reduceMul, Nat.reduceLT, c1] <;> rfl⟩
    · exact ⟨_, by simp only [esc, esh, Nat.reduceAdd, Nat.reduceMul, Nat.reduceLT, c1, Bool.false_and] <;> rfl⟩
  obtain ⟨g', e⟩ := key (ro h)
  exact S_view_View_there_flat e rfl
theorem view_Block_eq {n m no : Int} {f : Cell} {D : Dev} {h : Heap} (hD : okD D) (hv : IsView h f D) : S_view_View_Block__Of_1 [.a (vwC D.length n m f), .c (.i .i64 no)] h = some (.a (encB (blk D no)), h) := by
  have key : ∀ g, IsView g f D → ∃ g', R_view_View_Block__Of_1 0 [.a (vwC D.length n m f), .c (.i .i64 no)] g = some (.a (encB (blk D no)), g') := by
    intro g hv
    have hz : (encB (zeros 256)).length = 256 := by rw [encB_length]; exact zeros_length
    have hB : (encB (blk D no)).length = 256 := by rw [encB_length, blk_length hD]
    obtain ⟨r, q, rw', rw'', rfl, h1, h2⟩ := hv
    have hT := fun h => view_there_eq (b := D.length) (n := n) (m := m) (no := no) (f := 54) (cs := [(r, 0)]) (h := h)
    have hcv : ∀ (x : Val) (h : Heap), callv E_view_View_Block__Of_1 (.c (.f 54 [(r, 0)])) [x] h = S_view_Of_1 [x, .c (.p r 0)] h := fun _ _ => Eq.trans rfl rfl
    rw [R_view_View_Block__Of_1_eq, zeros_enc]
    by_cases c1 : 0 ≤ no ∧ no < D.length
    · have c2 := c1.1
      have c3 := c1.2
      obtain ⟨k, rfl⟩ : ∃ k : Nat, no = k := ⟨no.toNat, by omega⟩
      have e1 := blk_at (D := D) (i := k) (by omega)
      have hO := view_Of_1_eq (h := g ++ [some (Row.mk (vwC D.length n m (.f 54 [(r, 0)])) true), some (Row.mk (encB (zeros 256)) true)]) hD (show k < D.length by omega) (rd_append h1) (rd_append h2)
      rw [← e1] at hO
      simp only [c2, c3, decide_true, Bool.and_self] at hT
      generalize encB (zeros 256) = z at *
      generalize encB (blk D k) = y at *
      unfold vwC at *
      exact ⟨_, by simp only [esc, esh, Nat.reduceAdd, Nat.reduceMul, Nat.reduceLT, hT, hcv, hO, hz, hB] <;> rfl⟩
    · have e1 := blk_none (D := D) (i := no) (by omega)
      have ht : (decide (0 ≤ no) && decide (no < (D.length : Int))) = false := by
        rw [Bool.and_eq_false_iff, decide_eq_false_iff_not, decide_eq_false_iff_not]; omega
      simp only [ht] at hT
      rw [e1] at hB ⊢
      have ef : afill (encB (zeros 256)) [] = some (encB (zeros 256)) := rfl
      generalize encB (zeros 256) = z at *
      unfold vwC at *
      exact ⟨_, by simp only [esc, esh, Nat.reduceAdd, Nat.reduceMul, Nat.reduceLT, hT, ef, hz] <;> rfl⟩
  obtain ⟨g', e⟩ := key (ro h) hv.ro
  exact S_view_View_Block__Of_1_flat e (by simp [Val.flat])

theorem app_has {h : Heap} {id m sz : Nat} {ys : List Cell} {y : Val} (hr : rd h id = some ⟨[], true⟩) (hy : Has h y sz m ys) (hsz : 0 < sz) (hn : m ≤ 1073741824) :
    aapp h sz (.c (.sl id 0 0 sz)) y = some (.c (.sl h.length 0 m sz), h.set id none ++ [some ⟨ys, true⟩]) := by
  have h1 := hy.add
  have h2 : ys.length / sz = m := by rw [hy.length]; exact Nat.mul_div_cancel m hsz
  simp only [aapp, h1, hr, Option.bind_some, h2, List.nil_append, Nat.zero_add]
  rw [if_pos ⟨trivial, trivial, by simp, trivial, hn⟩]

def devL (D : Dev) : Bool := okS (D.headD []) && decide (fieldN (D.headD []) 8 2 = D.length)
def devN (D : Dev) : Int := fieldN (D.headD []) 10 2
def devM (D : Dev) : Int := fieldN (D.headD []) 12 8

theorem view_Of_nil {v : Val} {h : Heap} (hv : Has h v 256 0 []) : ∃ t, S_view_Of [v] h = some (.t [.a (vwC 0 0 0 .nf), .c (.i .i64 13)], h ++ t) := by
  have ef : afill [Cell.i .i64 0, .i .i64 0, .i .u64 0, .nf] [] = some [Cell.i .i64 0, .i .i64 0, .i .u64 0, .nf] := rfl
  have hl := hv.len
  rw [show ((0 : Nat) : Int) = 0 from rfl] at hl
  exact ⟨_, S_view_Of_of (n := 0) (by rw [R_view_Of_eq]; simp only [esc, esh, Nat.reduceAdd, Nat.reduceMul, Nat.reduceLT, hl, ef, vwC] <;> rfl)⟩

theorem layS_no {b : List UInt8} (h : okS b = false) : layS b = layC 0 0 0 := by unfold layS; rw [h]; rfl
theorem layS_ok {b : List UInt8} (h : okS b = true) : layS b = layC (fieldN b 8 2) (fieldN b 10 2) (fieldN b 12 8) := by unfold layS; rw [h]; rfl

theorem view_Of_no {v : Val} {D : Dev} {h : Heap} (hv : Has h v 256 D.length (cellsD D)) (hD : okD D) (h0 : 0 < D.length) (hn : devL D = false) : ∃ t, S_view_Of [v] h = some (.t [.a (vwC 0 0 0 .nf), .c (.i .i64 13)], h ++ t) := by
  have ef : afill [Cell.i .i64 0, .i .i64 0, .i .u64 0, .nf] [] = some [Cell.i .i64 0, .i .i64 0, .i .u64 0, .nf] := rfl
  have hl := hv.len
  have hv2 := hv.more [some (Row.mk [.i .i64 0, .i .i64 0, .i .u64 0, .nf] true)]
  obtain ⟨b, E, rfl⟩ : ∃ b E, D = b :: E := by cases D with | nil => simp at h0 | cons b E => exact ⟨b, E, rfl⟩
  obtain ⟨id, off, rfl, hid, _, hB⟩ := hv2.sl h0
  have hBl : (encB b).length = 256 := by rw [encB_length, hD.cons.1]
  have l2 := hB 0 256 (by rw [cellsD_length hD]; omega)
  have ec : ((cellsD (b :: E)).drop 0).take 256 = encB b := by
    have := cellsD_at (i := 0) hD h0
    rwa [Nat.zero_mul] at this
  rw [ec, Nat.add_zero] at l2
  have a1 : aiAddrL 256 (.c (.sl id off (b :: E).length 256)) (.c (.i .i64 0)) = some (.c (.p id off)) := by
    have := iAddrL_of (k := .i64) (id := id) (off := off) (sz := 256) (j := 0) (len := (b :: E).length) h0
    rwa [Nat.zero_mul, Nat.add_zero] at this
  have hG := fun h => super_Get_eq (h := h) hD.cons.1
  have c0 : ¬ (((b :: E).length : Nat) : Int) = 0 := by omega
  have n13 : ¬ (13 : Int) = 0 := by decide
  unfold devL at hn
  simp only [List.headD_cons] at hn
  cases ho : okS b with
  | false =>
    simp only [ho, layS_no ho, cond_false] at hG
    refine ⟨[some (Row.mk [.i .i64 0, .i .i64 0, .i .u64 0, .nf] true), some (Row.mk [.i .i64 0, .i .i64 0, .i .u64 0] true)], S_view_Of_of (n := 0) ?_⟩
    rw [R_view_Of_eq]
    generalize (b :: E).length = N at *
    generalize encB b = y at *
    unfold layC at *
    simp only [esc, esh, Nat.reduceAdd, Nat.reduceMul, Nat.reduceLT, ef, vwC, l2, a1, hG, n13, eq_self, c0] <;> rfl
  | true =>
    rw [ho, Bool.true_and] at hn
    replace hn := of_decide_eq_false hn
    simp only [ho, layS_ok ho, cond_true] at hG
    refine ⟨[some (Row.mk [.i .i64 0, .i .i64 0, .i .u64 0, .nf] true), some (Row.mk [.i .i64 (fieldN b 8 2), .i .i64 (fieldN b 10 2), .i .u64 (fieldN b 12 8)] true)], S_view_Of_of (n := 0) ?_⟩
    rw [R_view_Of_eq]
    generalize (b :: E).length = N at *
    generalize encB b = y at *
    generalize fieldN b 8 2 = n1 at *
    unfold layC at *
    simp only [esc, esh, Nat.reduceAdd, Nat.reduceMul, Nat.reduceLT, ef, vwC, l2, a1, hG, n13, eq_self, c0, hn] <;> rfl

theorem view_Of_bad {v : Val} {D : Dev} {h : Heap} (hv : Has h v 256 D.length (cellsD D)) (hD : okD D) (hn : devL D = false) : ∃ t, S_view_Of [v] h = some (.t [.a (vwC 0 0 0 .nf), .c (.i .i64 13)], h ++ t) := by
  by_cases h0 : D = []
  · subst h0; exact view_Of_nil hv
  · exact view_Of_no hv hD (List.length_pos_iff.2 h0) hn

theorem view_Of_ok {v : Val} {D : Dev} {h : Heap} (hv : Has h v 256 D.length (cellsD D)) (hD : okD D) (hn : devL D = true) (h60 : D.length ≤ 1073741824) :
    ∃ f t, S_view_Of [v] h = some (.t [.a (vwC D.length (devN D) (devM D) f), .c (.i .i64 0)], h ++ t) ∧ IsView (h ++ t) f D := by
  obtain ⟨b, E, rfl⟩ : ∃ b E, D = b :: E := by
    cases D with
    | nil => simp only [devL, List.headD_nil, List.length_nil, Bool.and_eq_true, decide_eq_true_eq] at hn; exact absurd hn.1 (by decide)
    | cons b E => exact ⟨b, E, rfl⟩
  have h0 : 0 < (b :: E).length := by simp
  have hv2 := hv.more [some (Row.mk [.i .i64 0, .i .i64 0, .i .u64 0, .nf] true)]
  unfold devL at hn
  simp only [List.headD_cons, Bool.and_eq_true, decide_eq_true_eq] at hn
  have ho := hn.1
  have hn2 := of_decide_eq_true hn.2
  have hv3 := hv.more [some (Row.mk [.i .i64 0, .i .i64 0, .i .u64 0, .nf] true), some (Row.mk (layC (b :: E).length (fieldN b 10 2) (fieldN b 12 8)) true), some (Row.mk [] true)]
  obtain ⟨id, off, rfl, hid, _, hB⟩ := hv2.sl h0
  have hBl : (encB b).length = 256 := by rw [encB_length, hD.cons.1]
  have l2 := hB 0 256 (by rw [cellsD_length hD]; omega)
  have ec : ((cellsD (b :: E)).drop 0).take 256 = encB b := by
    have := cellsD_at (i := 0) hD h0
    rwa [Nat.zero_mul] at this
  rw [ec, Nat.add_zero] at l2
  have a1 : aiAddrL 256 (.c (.sl id off (b :: E).length 256)) (.c (.i .i64 0)) = some (.c (.p id off)) := by
    have := iAddrL_of (k := .i64) (id := id) (off := off) (sz := 256) (j := 0) (len := (b :: E).length) h0
    rwa [Nat.zero_mul, Nat.add_zero] at this
  have hG := fun h => super_Get_eq (h := h) hD.cons.1
  have c0 : ¬ (((b :: E).length : Nat) : Int) = 0 := by omega
  have n13 : ¬ (13 : Int) = 0 := by decide
  simp only [ho, layS_ok ho, cond_true, hn2] at hG
  have eN : devN (b :: E) = fieldN b 10 2 := rfl
  have eM : devM (b :: E) = fieldN b 12 8 := rfl
  have hA := app_has (id := h.length + 2) (by simp) hv3 (by omega) h60
  have ef1 : afill ([] : List Cell) [] = some [] := rfl
  have hlt : id < h.length := by
    rcases hv with ⟨e, _⟩ | ⟨i, o, r, e, hr, _⟩
    · cases e
    · cases e; exact rd_lt hr
  rw [eN, eM]
  unfold IsView
  generalize cellsD (b :: E) = C at *
  have emk : amkf 54 [.c (.p (h.length + 4) 0)] = some (.c (.f 54 [(h.length + 4, 0)])) := rfl
  refine ⟨.f 54 [(h.length + 4, 0)], [some (Row.mk (vwC (b :: E).length (fieldN b 10 2) (fieldN b 12 8) (.f 54 [(h.length + 4, 0)])) true), some (Row.mk (layC (b :: E).length (fieldN b 10 2) (fieldN b 12 8)) true), none, some (Row.mk C true), some (Row.mk [.sl (h.length + 3) 0 (b :: E).length 256] true)], S_view_Of_of (n := 0) ?_, h.length + 4, h.length + 3, true, true, rfl, rd_at, rd_at⟩
  rw [R_view_Of_eq]
  generalize (b :: E).length = N at *
  generalize encB b = y at *
  generalize fieldN b 10 2 = n1 at *
  generalize fieldN b 12 8 = n2 at *
  have ef2 : ∀ x, afill [Cell.i .i64 0, .i .i64 0, .i .u64 0, .nf] [(0, 3, .a [.i .i64 (N : Int), .i .i64 n1, .i .u64 n2]), (3, 1, .c x)] = some [.i .i64 (N : Int), .i .i64 n1, .i .u64 n2, x] := fun _ => rfl
  unfold layC vwC at *
  simp only [esc, esh, Nat.reduceAdd, Nat.reduceMul, Nat.reduceLT] at hA
  simp only [esc, esh, Nat.reduceAdd, Nat.reduceMul, Nat.reduceLT, l2, a1, hG, n13, eq_self, c0, hA, ef1, ef2, emk] <;> rfl

end Go.Proofs.Ytdgggnlbdoiloaa
end
section
namespace Go.Proofs.Ytdgggnlbdoiloaa
open Go Go.Esc

def zI (n : Nat) : List Int := List.replicate n 0
theorem zI_length {n : Nat} : (zI n).length = n := by simp [zI]

end Go.Proofs.Ytdgggnlbdoiloaa
end
section
namespace Go.Proofs.Ytdgggnlbdoiloaa
open Go Go.Esc

abbrev inoC (k l s p : Int) (d : List Int) : List Cell := .i .i64 k :: .i .i64 l :: .i .i64 s :: .i .i64 p :: encI d

def smallI (n : Int) : Bool := decide (0 ≤ n) && decide (n ≤ 65535)
theorem inode_small_eq {n : Int} {h : Heap} : S_inode_small [.c (.i .i64 n)] h = some (.c (.b (smallI n)), h) := by
  refine S_inode_small_flat (n := 0) (h2 := ro h) ?_ rfl
  rw [R_inode_small_eq]
  unfold smallI
  by_cases c : 0 ≤ n
  · simp only [esc, c, Bool.true_and]
  · simp only [esc, c, Bool.false_and]

theorem numbers_loop {g : Heap} {k l s p : Int} {d : List Int} {z : List Cell} {q : Nat} (hd : d.length = 7) (hz : z.length = 7) : ∀ e i m : Nat, i + e = 6 → e < m →
    inode_Numbers_l0 q m (.c (.p g.length 0)) (.c (.p (g.length + 1) 0)) (.c (.p (g.length + 2) 0)) (.a (encI (d.take 6))) (.c (.i .i64 i)) (g ++ [some ⟨inoC k l s p d, true⟩, some ⟨z, true⟩, some ⟨encI (d.take i ++ zI (7 - i)), true⟩]) =
      some (.a (encI d), g ++ [some ⟨inoC k l s p d, true⟩, some ⟨encI d, true⟩, some ⟨encI d, true⟩])
  | e, i, 0, _, hm => by omega
  | 0, i, m + 1, hi, hm => by
    have e0 : i = 6 := by omega
    subst e0
    have h1' : ¬ ((6 : Nat) : Int) < 6 := by omega
    have l1 : (inoC k l s p d)[10]? = some (.i .i64 d[6]) := by
      have : (encI d)[6]? = some (.i .i64 d[6]) := by rw [encI_get, List.getElem?_eq_getElem (by omega)]; rfl
      exact this
    have a1 : aiAddrA 7 1 (.c (.p (g.length + 2) 0)) (.c (.i .i64 6)) = some (.c (.p (g.length + 2) 6)) := rfl
    have ho : 6 < (encI (d.take 6 ++ zI (7 - 6))).length := by rw [encI_length, List.length_append, zI_length, List.length_take]; omega
    have es : (encI (d.take 6 ++ zI (7 - 6))).set 6 (.i .i64 d[6]) = encI d := by
      rw [encI_set]
      congr 1
      have h6 : (d.take 6).length = 6 := by simp; omega
      rw [List.set_append_right _ _ (by omega), h6]
      have : d = d.take 6 ++ [d[6]] := by
        rw [← List.take_succ_eq_append_getElem (by omega), List.take_of_length_le (by omega)]
      conv => rhs; rw [this]
      rfl
    have hl : (encI d).length = 7 := by rw [encI_length, hd]
    rw [inode_Numbers_l0_eq]
    simp only [esc, esh, Nat.reduceAdd, Nat.reduceMul, Nat.reduceLT, h1', l1, a1, ho, es, hl, hz]
  | e + 1, i, m + 1, hi, hm => by
    have ih := numbers_loop (g := g) (k := k) (l := l) (s := s) (p := p) (q := q) hd hz e (i + 1) m (by omega) (by omega)
    have h1' : (i : Int) < 6 := by omega
    have hx : aidxA1 6 (.a (encI (d.take 6))) (.c (.i .i64 (i : Int))) = some (.c (.i .i64 d[i])) := by
      rw [idxA1_of (by omega), encI_get, List.getElem?_take_of_lt (by omega), List.getElem?_eq_getElem (by omega)]; rfl
    have a1 : aiAddrA 7 1 (.c (.p (g.length + 2) 0)) (.c (.i .i64 (i : Int))) = some (.c (.p (g.length + 2) i)) := by rw [iAddrA_of (by omega)]; simp
    have ho : i < (encI (d.take i ++ zI (7 - i))).length := by rw [encI_length, List.length_append, zI_length, List.length_take]; omega
    have es : (encI (d.take i ++ zI (7 - i))).set i (.i .i64 d[i]) = encI (d.take (i + 1) ++ zI (7 - (i + 1))) := by
      rw [encI_set]
      refine congrArg encI ?_
      have h6 : (d.take i).length = i := by simp; omega
      rw [List.set_append_right _ _ (by omega), h6, Nat.sub_self, List.take_succ_eq_append_getElem (by omega), List.append_assoc]
      refine congrArg (d.take i ++ ·) ?_
      rw [show 7 - i = 7 - (i + 1) + 1 by omega]
      unfold zI
      rw [List.replicate_succ, List.set_cons_zero]; rfl
    rw [inode_Numbers_l0_eq]
    simp only [esc, esh, Nat.reduceAdd, Nat.reduceMul, Nat.reduceLT, h1', hx, a1, ho, es, wi_succ (show i + 1 < 9223372036854775808 by omega)]
    exact ih

theorem ino_dir {k l s p : Int} {d : List Int} (hd : d.length = 7) : ldN (some ⟨inoC k l s p d, true⟩) 4 6 = some (.a (encI (d.take 6))) := by
  have h1 : (inoC k l s p d).length = 11 := by simp [encI_length, hd]
  simp only [ldN, Option.bind_some]
  rw [if_pos ⟨by omega, by simp⟩]
  simp only [List.drop_succ_cons, List.drop_zero]
  unfold encI
  rw [List.map_take]

theorem inode_Numbers_eq {k l s p : Int} {d : List Int} {h : Heap} (hd : d.length = 7) : S_inode_Numbers [.a (inoC k l s p d)] h = some (.a (encI d), h) := by
  have key : ∀ N, 7 < N → ∀ g, ∃ g', R_inode_Numbers N [.a (inoC k l s p d)] g = some (.a (encI d), g') := by
    intro N hN g
    have := numbers_loop (g := g) (k := k) (l := l) (s := s) (p := p) (z := encI (zI 7)) (q := N) hd (by rw [encI_length, zI_length]) 6 0 N (by omega) (by omega)
    have e0 : encI (d.take 0 ++ zI (7 - 0)) = [Cell.i .i64 0, .i .i64 0, .i .i64 0, .i .i64 0, .i .i64 0, .i .i64 0, .i .i64 0] := rfl
    have e1 : encI (zI 7) = [Cell.i .i64 0, .i .i64 0, .i .i64 0, .i .i64 0, .i .i64 0, .i .i64 0, .i .i64 0] := rfl
    rw [e0, e1] at this
    rw [R_inode_Numbers_eq]
    exact ⟨_, by simp only [esc, esh, Nat.reduceAdd, Nat.reduceMul, Nat.reduceLT, ino_dir hd]; exact this⟩
  obtain ⟨g', e⟩ := key (h.length + 8) (by omega) (ro h)
  exact S_inode_Numbers_flat e (by simp)

def zeroI (l s p : Int) (d : List Int) : Bool := decide (l = 0 ∧ s = 0 ∧ p = 0 ∧ d = zI 7)
def restI (k l s p : Int) (d : List Int) : Bool := decide (0 ≤ k ∧ k ≤ 2) && (smallI l && (smallI p && (decide (0 ≤ s ∧ s ≤ 34304) && d.all smallI)))
def mayI (k l s p : Int) (d : List Int) : Bool := if k = 0 then zeroI l s p d else restI k l s p d

theorem check_loopI {h : Heap} {d : List Int} {q : Nat} (hd : d.length = 7) : ∀ e i m : Nat, i + e = 7 → e < m →
    inode_Check_l0 q m (.a (encI d)) (.c (.i .i64 i)) h = some (.c (.i .i64 (bif (d.drop i).all smallI then 0 else 1)), h)
  | e, i, 0, _, hm => by omega
  | 0, i, m + 1, hi, hm => by
    have c0 : ¬ (i : Int) < 7 := by omega
    rw [inode_Check_l0_eq, List.drop_of_length_le (by omega)]
    simp only [esc, c0, List.all_nil]
  | e + 1, i, m + 1, hi, hm => by
    have ih := check_loopI (h := h) (q := q) hd e (i + 1) m (by omega) (by omega)
    have c0 : (i : Int) < 7 := by omega
    have hx : aidxA1 7 (.a (encI d)) (.c (.i .i64 (i : Int))) = some (.c (.i .i64 d[i])) := by
      rw [idxA1_of (by omega), encI_get, List.getElem?_eq_getElem (by omega)]; rfl
    rw [inode_Check_l0_eq, List.drop_eq_getElem_cons (by omega), List.all_cons]
    cases c1 : smallI d[i] with
    | true =>
      simp only [esc, c0, hx, inode_small_eq, c1, Bool.true_and, wi_succ (show i + 1 < 9223372036854775808 by omega)]
      exact ih
    | false => simp only [esc, c0, hx, inode_small_eq, c1, Bool.false_and]

theorem aeq_ino {k l s p k' l' s' p' : Int} {d d' : List Int} {neg : Bool} (hd : d.length = 7) (hd' : d'.length = 7) :
    aeq neg [Sh.i .i64, .i .i64, .i .i64, .i .i64, .i .i64, .i .i64, .i .i64, .i .i64, .i .i64, .i .i64, .i .i64] (.a (inoC k l s p d)) (.a (inoC k' l' s' p' d')) = some (.c (.b (bif neg then !decide (k :: l :: s :: p :: d = k' :: l' :: s' :: p' :: d') else decide (k :: l :: s :: p :: d = k' :: l' :: s' :: p' :: d')))) := by
  have h1 := aeqI_t (l := k :: l :: s :: p :: d) (m := k' :: l' :: s' :: p' :: d') (n := 11) (by simp [hd]) (by simp [hd'])
  have h2 := aeqI_f (l := k :: l :: s :: p :: d) (m := k' :: l' :: s' :: p' :: d') (n := 11) (by simp [hd]) (by simp [hd'])
  cases neg
  · exact h2
  · exact h1

theorem zero_ino {l s p : Int} {d : List Int} : decide ((0 : Int) :: l :: s :: p :: d = 0 :: 0 :: 0 :: 0 :: zI 7) = zeroI l s p d := by
  unfold zeroI
  simp

theorem afill_ino : afill [Cell.i .i64 0, .i .i64 0, .i .i64 0, .i .i64 0, .i .i64 0, .i .i64 0, .i .i64 0, .i .i64 0, .i .i64 0, .i .i64 0, .i .i64 0] [] = some (inoC 0 0 0 0 (zI 7)) := rfl

theorem inode_Check_eq {k l s p : Int} {d : List Int} {h : Heap} (hd : d.length = 7) : S_inode_Check [.a (inoC k l s p d)] h = some (.c (.i .i64 (bif mayI k l s p d then 0 else 1)), h) := by
  have hlen : (inoC k l s p d).length = 11 := by simp [encI_length, hd]
  have key : ∀ N, 8 < N → ∀ g, ∃ g', R_inode_Check N [.a (inoC k l s p d)] g = some (.c (.i .i64 (bif mayI k l s p d then 0 else 1)), g') := by
    intro N hN g
    have lp := fun g => check_loopI (h := g) (q := N) hd 7 0 N (by omega) (by omega)
    simp only [List.drop_zero, Int.cast_ofNat_Int] at lp
    rw [R_inode_Check_eq]
    unfold mayI
    by_cases k0 : k = 0
    · subst k0
      rw [if_pos rfl]
      have c1 : ¬ (0 : Int) < 0 := by omega
      have c2 : ¬ (2 : Int) < 0 := by omega
      have hq := aeq_ino (k := 0) (l := l) (s := s) (p := p) (k' := 0) (l' := 0) (s' := 0) (p' := 0) (neg := true) hd (zI_length (n := 7))
      simp only [cond_true, zero_ino] at hq
      cases hz : zeroI l s p d with
      | false =>
        rw [hz] at hq
        exact ⟨_, by simp only [esc, esh, Nat.reduceAdd, Nat.reduceMul, Nat.reduceLT, c1, c2, hlen, afill_ino, hq] <;> rfl⟩
      | true =>
        rw [hz] at hq
        have hz' := of_decide_eq_true hz
        obtain ⟨rfl, rfl, rfl, rfl⟩ := hz'
        have sm : smallI 0 = true := by decide
        have al : (zI 7).all smallI = true := by decide
        have c3 : ¬ (34304 : Int) < 0 := by omega
        rw [al] at lp
        exact ⟨_, by simp only [esc, esh, Nat.reduceAdd, Nat.reduceMul, Nat.reduceLT, c1, c2, c3, hlen, afill_ino, hq, inode_small_eq, sm, inode_Numbers_eq hd, lp] <;> rfl⟩
    · rw [if_neg k0]
      unfold restI
      by_cases c1 : k < 0
      · rw [decide_eq_false (show ¬ (0 ≤ k ∧ k ≤ 2) by omega)]
        exact ⟨_, by simp only [esc, esh, Nat.reduceAdd, Nat.reduceMul, Nat.reduceLT, c1, Bool.false_and] <;> rfl⟩
      · by_cases c2 : 2 < k
        · rw [decide_eq_false (show ¬ (0 ≤ k ∧ k ≤ 2) by omega)]
          exact ⟨_, by simp only [esc, esh, Nat.reduceAdd, Nat.reduceMul, Nat.reduceLT, c1, c2, Bool.false_and] <;> rfl⟩
        · rw [decide_eq_true (show 0 ≤ k ∧ k ≤ 2 by omega), Bool.true_and]
          cases sl : smallI l with
          | false => exact ⟨_, by simp only [esc, esh, Nat.reduceAdd, Nat.reduceMul, Nat.reduceLT, c1, c2, k0, inode_small_eq, sl, Bool.false_and] <;> rfl⟩
          | true =>
            cases sp : smallI p with
            | false => exact ⟨_, by simp only [esc, esh, Nat.reduceAdd, Nat.reduceMul, Nat.reduceLT, c1, c2, k0, inode_small_eq, sl, sp, Bool.true_and, Bool.false_and] <;> rfl⟩
            | true =>
              by_cases c3 : s < 0
              · rw [decide_eq_false (show ¬ (0 ≤ s ∧ s ≤ 34304) by omega)]
                exact ⟨_, by simp only [esc, esh, Nat.reduceAdd, Nat.reduceMul, Nat.reduceLT, c1, c2, k0, inode_small_eq, sl, sp, c3, Bool.true_and, Bool.false_and] <;> rfl⟩
              · by_cases c4 : 34304 < s
                · rw [decide_eq_false (show ¬ (0 ≤ s ∧ s ≤ 34304) by omega)]
                  exact ⟨_, by simp only [esc, esh, Nat.reduceAdd, Nat.reduceMul, Nat.reduceLT, c1, c2, k0, inode_small_eq, sl, sp, c3, c4, Bool.true_and, Bool.false_and] <;> rfl⟩
                · rw [decide_eq_true (show 0 ≤ s ∧ s ≤ 34304 by omega)]
                  exact ⟨_, by simp only [esc, esh, Nat.reduceAdd, Nat.reduceMul, Nat.reduceLT, c1, c2, k0, inode_small_eq, sl, sp, c3, c4, Bool.true_and, hlen, inode_Numbers_eq hd, lp] <;> rfl⟩
  obtain ⟨g', e⟩ := key (h.length + 9) (by omega) (ro h)
  exact S_inode_Check_flat e rfl

def inoH (k l s p : Int) : List UInt8 := bytesI 1 k ++ zeros 1 ++ bytesI 2 l ++ bytesI 4 s ++ bytesI 2 p
def inoD (d : List Int) : List UInt8 := (d.map (bytesI 2)).flatten
def inoB (k l s p : Int) (d : List Int) : List UInt8 := inoH k l s p ++ inoD d ++ zeros 8

theorem inoH_length {k l s p : Int} : (inoH k l s p).length = 10 := by simp [inoH]
theorem inoD_length {d : List Int} : (inoD d).length = 2 * d.length := by
  unfold inoD
  induction d with
  | nil => rfl
  | cons x d ih => simp only [List.map_cons, List.flatten_cons, List.length_append, bytesI_length, List.length_cons, ih]; omega
theorem inoB_length {k l s p : Int} {d : List Int} (hd : d.length = 7) : (inoB k l s p d).length = 32 := by
  unfold inoB; rw [List.length_append, List.length_append, inoH_length, inoD_length, zeros_length, hd]
theorem inoD_snoc {d : List Int} {x : Int} : inoD (d ++ [x]) = inoD d ++ bytesI 2 x := by simp [inoD]

theorem inoH_with {k l s p : Int} : withB (withB (withB (withB (zeros 256) 0 1 k) 2 2 l) 4 4 s) 8 2 p = padB 256 (inoH k l s p) := by
  rw [← padB_nil]
  have h1 := withB_pad (l := []) (a := 0) (w := 1) (v := k) (by simp) (by omega) (by omega) (by omega)
  have h2 := withB_pad (l := [] ++ zeros (0 - 0) ++ bytesI 1 k) (a := 2) (w := 2) (v := l) (by simp) (by omega) (by omega) (by omega)
  have h3 := withB_pad (l := [] ++ zeros (0 - 0) ++ bytesI 1 k ++ zeros 1 ++ bytesI 2 l) (a := 4) (w := 4) (v := s) (by simp) (by omega) (by omega) (by omega)
  have h4 := withB_pad (l := [] ++ zeros (0 - 0) ++ bytesI 1 k ++ zeros 1 ++ bytesI 2 l ++ zeros 0 ++ bytesI 4 s) (a := 8) (w := 2) (v := p) (by simp) (by omega) (by omega) (by omega)
  simp only [List.length_append, List.length_nil, zeros_length, bytesI_length, Nat.sub_self, Nat.zero_sub, Nat.reduceAdd, Nat.reduceSub] at h1 h2 h3 h4
  simp only [Int.cast_ofNat_Int] at h1 h2 h3 h4
  rw [h1, h2, h3, h4]
  congr 1

theorem put_copy {g : Heap} {c0 : List Cell} {B : List UInt8} {z : List Cell} {q : Nat} (hB : B.length = 256) (hz : z.length = 32) : ∀ e i m : Nat, i + e = 32 → e < m →
    inode_Put_l1 q m (.c (.p (g.length + 1) 0)) (.c (.p (g.length + 2) 0)) (.c (.p (g.length + 3) 0)) (.c (.i .i64 i)) (g ++ [some ⟨c0, true⟩, some ⟨z, true⟩, some ⟨encB (B.take i ++ zeros (32 - i)), true⟩, some ⟨encB B, true⟩]) =
      some (.t [.a (encB (B.take 32)), .c (.i .i64 0)], g ++ [some ⟨c0, true⟩, some ⟨encB (B.take 32), true⟩, some ⟨encB (B.take 32), true⟩, some ⟨encB B, true⟩])
  | e, i, 0, _, hm => by omega
  | 0, i, m + 1, hi, hm => by
    have e0 : i = 32 := by omega
    subst e0
    have h1' : ¬ ((32 : Nat) : Int) < 32 := by omega
    have hl : (encB (B.take 32)).length = 32 := by rw [encB_length, List.length_take]; omega
    have e1 : encB (B.take 32 ++ zeros (32 - 32)) = encB (B.take 32) := by simp [zeros]
    rw [inode_Put_l1_eq, e1]
    simp only [esc, esh, Nat.reduceAdd, Nat.reduceMul, Nat.reduceLT, h1', hl, hz]
  | e + 1, i, m + 1, hi, hm => by
    have ih := put_copy (g := g) (c0 := c0) (q := q) hB hz e (i + 1) m (by omega) (by omega)
    have h1' : (i : Int) < 32 := by omega
    have a1 : aiAddrA 256 1 (.c (.p (g.length + 3) 0)) (.c (.i .i64 (i : Int))) = some (.c (.p (g.length + 3) i)) := by rw [iAddrA_of (by omega)]; simp
    have a2 : aiAddrA 32 1 (.c (.p (g.length + 2) 0)) (.c (.i .i64 (i : Int))) = some (.c (.p (g.length + 2) i)) := by rw [iAddrA_of (by omega)]; simp
    have l1 : (encB B)[i]? = some (.i .u8 B[i].toNat) := by rw [encB_get, List.getElem?_eq_getElem (by omega)]; rfl
    have ho : i < (encB (B.take i ++ zeros (32 - i))).length := by rw [encB_length, List.length_append, zeros_length, List.length_take]; omega
    have es : (encB (B.take i ++ zeros (32 - i))).set i (.i .u8 B[i].toNat) = encB (B.take (i + 1) ++ zeros (32 - (i + 1))) := by
      rw [encB_set]
      refine congrArg encB ?_
      have h6 : (B.take i).length = i := by simp; omega
      rw [List.set_append_right _ _ (by omega), h6, Nat.sub_self, List.take_succ_eq_append_getElem (by omega), List.append_assoc]
      refine congrArg (B.take i ++ ·) ?_
      rw [show 32 - i = 32 - (i + 1) + 1 by omega]
      unfold zeros
      rw [List.replicate_succ, List.set_cons_zero]; rfl
    rw [inode_Put_l1_eq]
    simp only [esc, esh, Nat.reduceAdd, Nat.reduceMul, Nat.reduceLT, h1', a1, a2, l1, ho, es, wi_succ (show i + 1 < 9223372036854775808 by omega)]
    exact ih

theorem put_loop {g : Heap} {k l s p : Int} {d : List Int} {c0 z : List Cell} {q : Nat} (hd : d.length = 7) (hz : z.length = 32) (hq : 33 < q) : ∀ e i m : Nat, i + e = 7 → e < m →
    inode_Put_l0 q m (.c (.p (g.length + 1) 0)) (.c (.p (g.length + 2) 0)) (.c (.p (g.length + 3) 0)) (.a (encI d)) (.c (.i .i64 i)) (g ++ [some ⟨c0, true⟩, some ⟨z, true⟩, some ⟨encB (zeros 32), true⟩, some ⟨encB (padB 256 (inoH k l s p ++ inoD (d.take i))), true⟩]) =
      some (.t [.a (encB (inoB k l s p d)), .c (.i .i64 0)], g ++ [some ⟨c0, true⟩, some ⟨encB (inoB k l s p d), true⟩, some ⟨encB (inoB k l s p d), true⟩, some ⟨encB (padB 256 (inoH k l s p ++ inoD d)), true⟩])
  | e, i, 0, _, hm => by omega
  | 0, i, m + 1, hi, hm => by
    have e0 : i = 7 := by omega
    subst e0
    have h1' : ¬ ((7 : Nat) : Int) < 7 := by omega
    rw [List.take_of_length_le (by omega)]
    have hlen : (inoH k l s p ++ inoD d).length = 24 := by rw [List.length_append, inoH_length, inoD_length, hd]
    have := put_copy (g := g) (c0 := c0) (z := z) (q := q) (B := padB 256 (inoH k l s p ++ inoD d)) (padB_length (by omega)) hz 32 0 q (by omega) (by omega)
    have e1 : (padB 256 (inoH k l s p ++ inoD d)).take 32 = inoB k l s p d := by
      unfold padB inoB
      rw [List.take_append, List.take_of_length_le (by omega), hlen]
      refine congrArg (inoH k l s p ++ inoD d ++ ·) ?_
      unfold zeros
      rw [List.take_replicate]; rfl
    rw [e1] at this
    simp only [List.take_zero, List.nil_append, Nat.sub_zero] at this
    rw [inode_Put_l0_eq]
    simp only [esc, h1']
    exact this
  | e + 1, i, m + 1, hi, hm => by
    have ih := put_loop (g := g) (k := k) (l := l) (s := s) (p := p) (c0 := c0) hd hz hq e (i + 1) m (by omega) (by omega)
    have h1' : (i : Int) < 7 := by omega
    have hx : aidxA1 7 (.a (encI d)) (.c (.i .i64 (i : Int))) = some (.c (.i .i64 d[i])) := by
      rw [idxA1_of (by omega), encI_get, List.getElem?_eq_getElem (by omega)]; rfl
    have hlen : (inoH k l s p ++ inoD (d.take i)).length = 10 + 2 * i := by rw [List.length_append, inoH_length, inoD_length, List.length_take]; omega
    have hL : (encB (padB 256 (inoH k l s p ++ inoD (d.take i)))).length = 256 := by rw [encB_length, padB_length (by omega)]
    have e2 : IntKind.wrap .i64 (2 * (i : Int)) = ((2 * i : Nat) : Int) := by rw [wrap_i64 (by omega) (by omega)]; omega
    have e3 : IntKind.wrap .i64 (10 + ((2 * i : Nat) : Int)) = ((10 + 2 * i : Nat) : Int) := by rw [wrap_i64 (by omega) (by omega)]; omega
    have hw := num_With_eq (l := padB 256 (inoH k l s p ++ inoD (d.take i))) (h := g ++ [some ⟨c0, true⟩, some ⟨z, true⟩, some ⟨encB (zeros 32), true⟩, some ⟨encB (padB 256 (inoH k l s p ++ inoD (d.take i))), true⟩]) (padB_length (by omega)) (a := ((10 + 2 * i : Nat) : Int)) (w := 2) (v := d[i])
    have e4 := withB_pad (l := inoH k l s p ++ inoD (d.take i)) (a := 10 + 2 * i) (w := 2) (v := d[i]) (by omega) (by omega) (by omega) (by omega)
    rw [show ((2 : Nat) : Int) = 2 from rfl, hlen, Nat.sub_self, show zeros 0 = [] from rfl, List.append_nil, List.append_assoc, ← inoD_snoc, ← List.take_succ_eq_append_getElem (by omega)] at e4
    rw [e4] at hw
    have hL' : (encB (padB 256 (inoH k l s p ++ inoD (d.take (i + 1))))).length = 256 := by
      rw [encB_length, padB_length (by rw [List.length_append, inoH_length, inoD_length, List.length_take]; omega)]
    rw [inode_Put_l0_eq]
    simp only [esc, esh, Nat.reduceAdd, Nat.reduceMul, Nat.reduceLT, h1', hx, hL, e2, e3, hw, hL', wi_succ (show i + 1 < 9223372036854775808 by omega)]
    exact ih

theorem inode_Put_eq {k l s p : Int} {d : List Int} {h : Heap} (hd : d.length = 7) :
    S_inode_Put [.a (inoC k l s p d)] h = some (.t [.a (encB (bif mayI k l s p d then inoB k l s p d else zeros 32)), .c (.i .i64 (bif mayI k l s p d then 0 else 1))], h) := by
  have hlen : (inoC k l s p d).length = 11 := by simp [encI_length, hd]
  have key : ∀ N, 33 < N → ∀ g, ∃ g', R_inode_Put N [.a (inoC k l s p d)] g = some (.t [.a (encB (bif mayI k l s p d then inoB k l s p d else zeros 32)), .c (.i .i64 (bif mayI k l s p d then 0 else 1))], g') := by
    intro N hN g
    have hz : (encB (zeros 32)).length = 32 := by rw [encB_length]; exact zeros_length
    have hz2 : (encB (zeros 256)).length = 256 := by rw [encB_length]; exact zeros_length
    rw [R_inode_Put_eq, zeros_enc, zeros_enc]
    cases c : mayI k l s p d with
    | false =>
      generalize zeros 32 = z at *
      generalize zeros 256 = y at *
      exact ⟨_, by simp only [esc, esh, Nat.reduceAdd, Nat.reduceMul, Nat.reduceLT, hlen, inode_Check_eq hd, c, hz, Int.reduceEq] <;> rfl⟩
    | true =>
      have := put_loop (g := g) (k := k) (l := l) (s := s) (p := p) (c0 := inoC k l s p d) (z := encB (zeros 32)) (q := N) hd hz hN 7 0 N (by omega) (by omega)
      simp only [List.take_zero, show inoD [] = [] from rfl, List.append_nil] at this
      have w1 := fun h => num_With_eq (h := h) (l := zeros 256) zeros_length (a := 0) (w := 1) (v := k)
      have w2 := fun h => num_With_eq (h := h) (l := withB (zeros 256) 0 1 k) (withB_length zeros_length) (a := 2) (w := 2) (v := l)
      have w3 := fun h => num_With_eq (h := h) (l := withB (withB (zeros 256) 0 1 k) 2 2 l) (withB_length (withB_length zeros_length)) (a := 4) (w := 4) (v := s)
      have w4 := fun h => num_With_eq (h := h) (l := withB (withB (withB (zeros 256) 0 1 k) 2 2 l) 4 4 s) (withB_length (withB_length (withB_length zeros_length))) (a := 8) (w := 2) (v := p)
      have l1 : (encB (withB (zeros 256) 0 1 k)).length = 256 := by rw [encB_length, withB_length zeros_length]
      have l2 : (encB (withB (withB (zeros 256) 0 1 k) 2 2 l)).length = 256 := by rw [encB_length, withB_length (withB_length zeros_length)]
      have l3 : (encB (withB (withB (withB (zeros 256) 0 1 k) 2 2 l) 4 4 s)).length = 256 := by rw [encB_length, withB_length (withB_length (withB_length zeros_length))]
      have l4 : (encB (padB 256 (inoH k l s p))).length = 256 := by rw [encB_length, padB_length (by rw [inoH_length]; omega)]
      simp only [inoH_with] at w4
      generalize zeros 32 = z at *
      generalize zeros 256 = y at *
      exact ⟨_, by simp only [esc, esh, Nat.reduceAdd, Nat.reduceMul, Nat.reduceLT, hlen, inode_Check_eq hd, c, hz, hz2, w1, w2, w3, w4, l1, l2, l3, l4, inode_Numbers_eq hd]; exact this⟩
  obtain ⟨g', e⟩ := key (h.length + 34) (by omega) (ro h)
  exact S_inode_Put_flat e (by simp)

def getK (b : List UInt8) : Int := fieldN b 0 1
def getL (b : List UInt8) : Int := fieldN b 2 2
def getS (b : List UInt8) : Int := fieldN b 4 4
def getP (b : List UInt8) : Int := fieldN b 8 2
def getD7 (b : List UInt8) : List Int := (List.range 7).map fun j => fieldN b (10 + 2 * j) 2
theorem getD7_length {b : List UInt8} : (getD7 b).length = 7 := by simp [getD7]
theorem getD7_get {b : List UInt8} {i : Nat} (hi : i < 7) : (getD7 b)[i]? = some (fieldN b (10 + 2 * i) 2) := by simp [getD7, hi]

theorem inoC_set {k l s p x : Int} {d : List Int} {i : Nat} : (inoC k l s p d).set (4 + i) (.i .i64 x) = inoC k l s p (d.set i x) := by
  rw [show 4 + i = i + 1 + 1 + 1 + 1 by omega]
  simp only [inoC, List.set_cons_succ, encI_set]

theorem take_pad_set {D : List Int} (hD : D.length = 7) {i : Nat} (hi : i < 7) : (D.take i ++ zI (7 - i)).set i D[i] = D.take (i + 1) ++ zI (7 - (i + 1)) := by
  have h6 : (D.take i).length = i := by simp; omega
  rw [List.set_append_right _ _ (by omega), h6, Nat.sub_self, List.take_succ_eq_append_getElem (by omega), List.append_assoc]
  refine congrArg (D.take i ++ ·) ?_
  rw [show 7 - i = 7 - (i + 1) + 1 by omega]
  unfold zI
  rw [List.replicate_succ, List.set_cons_zero]; rfl

theorem iget_loop {g : Heap} {b : List UInt8} {k l s p : Int} {c0 z : List Cell} {q : Nat} (hb : b.length = 32) (hz : z.length = 11) : ∀ e i m : Nat, i + e = 6 → e < m →
    inode_Get_l0 q m (.c (.p (g.length + 1) 0)) (.c (.p (g.length + 2) 0)) (.c (.p (g.length + 3) 0)) (.c (.i .i64 i)) (g ++ [some ⟨c0, true⟩, some ⟨z, true⟩, some ⟨encB (padB 256 b), true⟩, some ⟨inoC k l s p ((getD7 b).take i ++ zI (7 - i)), true⟩]) =
      some (.a (inoC k l s p (getD7 b)), g ++ [some ⟨c0, true⟩, some ⟨inoC k l s p (getD7 b), true⟩, some ⟨encB (padB 256 b), true⟩, some ⟨inoC k l s p (getD7 b), true⟩])
  | e, i, 0, _, hm => by omega
  | 0, i, m + 1, hi, hm => by
    have e0 : i = 6 := by omega
    subst e0
    have h1' : ¬ ((6 : Nat) : Int) < 6 := by omega
    have hX : (encB (padB 256 b)).length = 256 := by rw [encB_length, padB_length (by omega)]
    have ha := fun h => num_At_eq (h := h) (l := padB 256 b) (padB_length (by omega)) (a := 22) (w := 2)
    have e1 := at_pad (b := b) (a := 22) (w := 2) (by omega) (by omega) (by omega) (by omega)
    simp only [Int.cast_ofNat_Int] at e1
    simp only [e1] at ha
    have hl0 : (inoC k l s p ((getD7 b).take 6 ++ zI (7 - 6))).length = 11 := by simp [encI_length, getD7_length, zI_length]
    have ho : (encI ((getD7 b).take 6 ++ zI (7 - 6))).length = 7 := by simp [encI_length, getD7_length, zI_length]
    have hg6 : (getD7 b)[6]'(by rw [getD7_length]; omega) = fieldN b 22 2 := by
      have := getD7_get (b := b) (i := 6) (by omega)
      rw [List.getElem?_eq_getElem (by rw [getD7_length]; omega)] at this
      exact Option.some.inj this
    have es : (inoC k l s p ((getD7 b).take 6 ++ zI (7 - 6))).set 10 (.i .i64 (fieldN b 22 2)) = inoC k l s p (getD7 b) := by
      have h1 := inoC_set (k := k) (l := l) (s := s) (p := p) (x := fieldN b 22 2) (d := (getD7 b).take 6 ++ zI (7 - 6)) (i := 6)
      rw [show 4 + 6 = 10 from rfl] at h1
      rw [h1, ← hg6, take_pad_set getD7_length (by omega)]
      have : (getD7 b).take (6 + 1) ++ zI (7 - (6 + 1)) = getD7 b := by rw [List.take_of_length_le (by rw [getD7_length]; omega)]; simp [zI]
      rw [this]
    have hl1 : (inoC k l s p (getD7 b)).length = 11 := by simp [encI_length, getD7_length]
    rw [inode_Get_l0_eq]
    simp only [esc, esh, Nat.reduceAdd, Nat.reduceMul, Nat.reduceLT, h1', hX, ha, ho, es, hl1, hz, encI_length, getD7_length]
  | e + 1, i, m + 1, hi, hm => by
    have ih := iget_loop (g := g) (k := k) (l := l) (s := s) (p := p) (c0 := c0) (q := q) hb hz e (i + 1) m (by omega) (by omega)
    have h1' : (i : Int) < 6 := by omega
    have hX : (encB (padB 256 b)).length = 256 := by rw [encB_length, padB_length (by omega)]
    have e2 : IntKind.wrap .i64 (2 * (i : Int)) = ((2 * i : Nat) : Int) := by rw [wrap_i64 (by omega) (by omega)]; omega
    have e3 : IntKind.wrap .i64 (10 + ((2 * i : Nat) : Int)) = ((10 + 2 * i : Nat) : Int) := by rw [wrap_i64 (by omega) (by omega)]; omega
    have ha := fun h => num_At_eq (h := h) (l := padB 256 b) (padB_length (by omega)) (a := ((10 + 2 * i : Nat) : Int)) (w := 2)
    have e1 := at_pad (b := b) (a := 10 + 2 * i) (w := 2) (by omega) (by omega) (by omega) (by omega)
    rw [show ((2 : Nat) : Int) = 2 from rfl] at e1
    simp only [e1] at ha
    have a1 : aiAddrA 6 1 (.c (.p (g.length + 3) 4)) (.c (.i .i64 (i : Int))) = some (.c (.p (g.length + 3) (4 + i))) := by rw [iAddrA_of (by omega)]; simp
    have ho : (encI ((getD7 b).take i ++ zI (7 - i))).length = 7 := by simp [encI_length, getD7_length, zI_length]; omega
    have ho2 : 4 + i < 11 := by omega
    have hgi : (getD7 b)[i]'(by rw [getD7_length]; omega) = fieldN b (10 + 2 * i) 2 := by
      have := getD7_get (b := b) (i := i) (by omega)
      rw [List.getElem?_eq_getElem (by rw [getD7_length]; omega)] at this
      exact Option.some.inj this
    have es : (inoC k l s p ((getD7 b).take i ++ zI (7 - i))).set (4 + i) (.i .i64 (fieldN b (10 + 2 * i) 2)) = inoC k l s p ((getD7 b).take (i + 1) ++ zI (7 - (i + 1))) := by
      rw [inoC_set, ← hgi, take_pad_set getD7_length (by omega)]
    rw [inode_Get_l0_eq]
    simp only [esc, esh, Nat.reduceAdd, Nat.reduceMul, Nat.reduceLT, h1', hX, e2, e3, ha, a1, ho, ho2, es, wi_succ (show i + 1 < 9223372036854775808 by omega)]
    exact ih

theorem inode_Get_eq {b : List UInt8} {h : Heap} (hb : b.length = 32) : S_inode_Get [.a (encB b)] h = some (.a (inoC (getK b) (getL b) (getS b) (getP b) (getD7 b)), h) := by
  have key : ∀ N, 7 < N → ∀ g, ∃ g', R_inode_Get N [.a (encB b)] g = some (.a (inoC (getK b) (getL b) (getS b) (getP b) (getD7 b)), g') := by
    intro N hN g
    have hl : (encB b).length = 32 := by rw [encB_length, hb]
    have hX : (encB (padB 256 b)).length = 256 := by rw [encB_length, padB_length (by omega)]
    have hz : (List.replicate 256 (Cell.i .u8 0)).length = 256 := List.length_replicate
    have z11 : [Cell.i .i64 0, .i .i64 0, .i .i64 0, .i .i64 0, .i .i64 0, .i .i64 0, .i .i64 0, .i .i64 0, .i .i64 0, .i .i64 0, .i .i64 0] = inoC 0 0 0 0 (zI 7) := rfl
    have l11 : (inoC 0 0 0 0 (zI 7)).length = 11 := rfl
    have ho := num_Of_eq (h := g ++ [some ⟨encB b, true⟩, some ⟨inoC 0 0 0 0 (zI 7), true⟩]) (v := .c (.sl g.length 0 32 1)) (nv := 32) (data := b) (Has.tr (by simp) (by omega) (noX_encB _)) (by omega)
    rw [of_pad (by omega)] at ho
    have at_ : ∀ (a w : Nat), a + w ≤ 32 → 1 ≤ w → w ≤ 4 → ∀ h, S_num_At [.a (encB (padB 256 b)), .c (.i .i64 a), .c (.i .i64 w)] h = some (.c (.i .i64 (fieldN b a w)), h) := fun a w h1 h2 h3 h => by
      rw [num_At_eq (padB_length (by omega)), at_pad (by omega) (by omega) h2 h3]
    have a1 := at_ 0 1 (by omega) (by omega) (by omega)
    have a2 := at_ 2 2 (by omega) (by omega) (by omega)
    have a3 := at_ 4 4 (by omega) (by omega) (by omega)
    have a4 := at_ 8 2 (by omega) (by omega) (by omega)
    simp only [Int.cast_ofNat_Int] at a1 a2 a3 a4
    have ef : afill (inoC 0 0 0 0 (zI 7)) [(0, 1, .c (.i .i64 (fieldN b 0 1))), (1, 1, .c (.i .i64 (fieldN b 2 2))), (2, 1, .c (.i .i64 (fieldN b 4 4))), (3, 1, .c (.i .i64 (fieldN b 8 2)))] = some (inoC (getK b) (getL b) (getS b) (getP b) (zI 7)) := rfl
    have lf : (inoC (getK b) (getL b) (getS b) (getP b) (zI 7)).length = 11 := rfl
    have := iget_loop (g := g) (b := b) (k := getK b) (l := getL b) (s := getS b) (p := getP b) (c0 := encB b) (z := inoC 0 0 0 0 (zI 7)) (q := N) hb l11 6 0 N (by omega) (by omega)
    simp only [List.take_zero, List.nil_append, Nat.sub_zero] at this
    rw [R_inode_Get_eq, z11]
    generalize List.replicate 256 (Cell.i .u8 0) = z at *
    generalize inoC 0 0 0 0 (zI 7) = y at *
    exact ⟨_, by simp only [esc, esh, Nat.reduceAdd, Nat.reduceMul, Nat.reduceLT, hl, ho, hz, hX, a1, a2, a3, a4, ef, l11, lf]; exact this⟩
  obtain ⟨g', e⟩ := key (h.length + 8) (by omega) (ro h)
  exact S_inode_Get_flat e (by simp)

def cleanI (b : List UInt8) : Bool := mayI (getK b) (getL b) (getS b) (getP b) (getD7 b) && decide (inoB (getK b) (getL b) (getS b) (getP b) (getD7 b) = b)

def cleanC (b : List UInt8) : List Cell := bif cleanI b then inoC (getK b) (getL b) (getS b) (getP b) (getD7 b) else inoC 0 0 0 0 (zI 7)

theorem cleanC_length {b : List UInt8} : (cleanC b).length = 11 := by
  unfold cleanC
  cases cleanI b <;> simp [encI_length, getD7_length, zI_length]
theorem flats_cleanC {b : List UInt8} : flats (cleanC b) = true := by
  unfold cleanC
  cases cleanI b <;> simp

theorem inode_Clean_eq {b : List UInt8} {h : Heap} (hb : b.length = 32) : S_inode_Clean [.a (encB b)] h = some (.t [.a (cleanC b), .c (.b (cleanI b))], h) := by
  have key : ∀ g, ∃ g', R_inode_Clean 0 [.a (encB b)] g = some (.t [.a (cleanC b), .c (.b (cleanI b))], g') := by
    intro g
    have hl : (encB b).length = 32 := by rw [encB_length, hb]
    have hI : (inoC (getK b) (getL b) (getS b) (getP b) (getD7 b)).length = 11 := by simp [encI_length, getD7_length]
    have z11 : [Cell.i .i64 0, .i .i64 0, .i .i64 0, .i .i64 0, .i .i64 0, .i .i64 0, .i .i64 0, .i .i64 0, .i .i64 0, .i .i64 0, .i .i64 0] = inoC 0 0 0 0 (zI 7) := rfl
    have l11 : (inoC 0 0 0 0 (zI 7)).length = 11 := rfl
    have af := afill_ino
    rw [z11] at af
    have hz : (List.replicate 32 (Cell.i .u8 0)).length = 32 := List.length_replicate
    have hp := fun h => inode_Put_eq (h := h) (k := getK b) (l := getL b) (s := getS b) (p := getP b) (d := getD7 b) getD7_length
    have hB : (encB (inoB (getK b) (getL b) (getS b) (getP b) (getD7 b))).length = 32 := by rw [encB_length, inoB_length getD7_length]
    have hZ : (encB (zeros 32)).length = 32 := by rw [encB_length]; exact zeros_length
    have hq := aeq_t (l := inoB (getK b) (getL b) (getS b) (getP b) (getD7 b)) (m := b) (n := 32) (inoB_length getD7_length) hb
    rw [R_inode_Clean_eq, z11]
    unfold cleanC cleanI
    generalize List.replicate 32 (Cell.i .u8 0) = z at *
    generalize inoC 0 0 0 0 (zI 7) = y at *
    cases c : mayI (getK b) (getL b) (getS b) (getP b) (getD7 b) with
    | false =>
      simp only [c, cond_false] at hp
      exact ⟨_, by simp only [esc, esh, Nat.reduceAdd, Nat.reduceMul, Nat.reduceLT, hl, inode_Get_eq hb, hI, l11, hp, hz, hZ, Int.reduceEq, af, Bool.false_and] <;> rfl⟩
    | true =>
      simp only [c, cond_true] at hp
      cases c2 : decide (inoB (getK b) (getL b) (getS b) (getP b) (getD7 b) = b) with
      | false =>
        rw [c2] at hq
        exact ⟨_, by simp only [esc, esh, Nat.reduceAdd, Nat.reduceMul, Nat.reduceLT, hl, inode_Get_eq hb, hI, l11, hp, hz, hB, hq, af, Bool.and_false] <;> rfl⟩
      | true =>
        rw [c2] at hq
        exact ⟨_, by simp only [esc, esh, Nat.reduceAdd, Nat.reduceMul, Nat.reduceLT, hl, inode_Get_eq hb, hI, l11, hp, hz, hB, hq, Bool.and_true] <;> rfl⟩
  obtain ⟨g', e⟩ := key (ro h)
  exact S_inode_Clean_flat e (by simp [flats_cleanC])

end Go.Proofs.Ytdgggnlbdoiloaa
end
