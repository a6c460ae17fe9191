/- What the laws of the chapter of blocks of numbers have in common. -/
import Derived.Test.YtbbkpmbepljhkaaSPoints
import Derived.Test.YtbbkpmbepljhkaaSInts
import Derived.Test.YtbbkpmbepljhkaaGEscheatlaw20
set_option linter.all false
namespace Go.Proofs.Ytbbkpmbepljhkaa
open Go Go.Esc

def sixB : List UInt8 := [7, 0, 0, 0, 9, 0]
theorem six_eq : numsB [7, 0, 9] = sixB := by decide
def makP : List UInt8 := padB 256 (numsB [7, 0, 9])
theorem makP_eq : makP = sixB ++ zeros 250 := by
  unfold makP padB
  rw [six_eq]; rfl
theorem makP_length : makP.length = 256 := padB_length (by rw [numsB_length]; decide)
theorem mak0 : ptP makP 0 = 7 := by rw [makP_eq]; rfl
theorem mak1 : ptP makP 1 = 0 := by rw [makP_eq]; rfl
theorem mak2 : ptP makP 2 = 9 := by rw [makP_eq]; rfl
theorem mak3 {i : Nat} (h3 : 3 ≤ i) (hi : i < 128) : ptP makP i = 0 := by
  have hs : sixB.length = 6 := rfl
  unfold ptP fieldN
  rw [makP_eq, List.drop_append, List.drop_of_length_le (by omega), List.nil_append, hs]
  unfold zeros
  rw [List.drop_replicate, List.take_replicate, Nat.min_eq_left (by omega)]
  rfl
theorem list3 : ∀ e, 3 + e ≤ 128 → listP makP (3 + e) = [7, 9]
  | 0, _ => by simp [listP, mak0, mak1, mak2]
  | e + 1, h => by
    rw [show 3 + (e + 1) = 3 + e + 1 by omega, listP, list3 e (by omega), mak3 (by omega) (by omega)]
    simp
theorem last3 : ∀ e, 3 + e ≤ 128 → lastP makP (3 + e) = 3
  | 0, _ => by simp [lastP, mak0, mak1, mak2]
  | e + 1, h => by
    rw [show 3 + (e + 1) = 3 + e + 1 by omega, lastP, last3 e (by omega), mak3 (by omega) (by omega)]
    simp

theorem works20_eq (h : Heap) : S_escheatlaw20_works [] h = some (.c (.b true), h) := by
  have key : ∀ g, ∃ g', R_escheatlaw20_works 0 [] g = some (.c (.b true), g') := by
    intro g
    have ef : afill [Cell.i .i64 0, .i .i64 0, .i .i64 0] [(0, 1, .c (.i .i64 7)), (1, 1, .c (.i .i64 0)), (2, 1, .c (.i .i64 9))] = some (encI [7, 0, 9]) := rfl
    have ef2 : afill [Cell.i .i64 0, .i .i64 0] [(0, 1, .c (.i .i64 7)), (1, 1, .c (.i .i64 9))] = some (encI [7, 9]) := rfl
    have hM := points_Make_eq (h := g ++ [some (Row.mk (encI [7, 0, 9]) true)]) (v := .c (.sl g.length 0 3 1)) (nv := 3) (l := [7, 0, 9]) (Has.tr (by simp) rfl rfl) (by omega)
    have hall : ([7, 0, 9] : List Int).all fineP = true := by decide
    rw [hall, cond_true, cond_true] at hM
    have eM : padB 256 (numsB [7, 0, 9]) = makP := rfl
    rw [eM] at hM
    have hP : (encB makP).length = 256 := by rw [encB_length, makP_length]
    have hz : (List.replicate 256 (Cell.i .u8 0)).length = 256 := List.length_replicate
    have hL := fun h => points_List_eq (h := h) makP_length
    have l3 := list3 125 (by omega)
    have l4 := last3 125 (by omega)
    rw [show 3 + 125 = 128 from rfl] at l3 l4
    simp only [l3] at hL
    have hT := fun h => points_Last_eq (h := h) makP_length
    simp only [l4] at hT
    rw [show ((3 : Nat) : Int) = 3 from rfl] at hT
    have hG := fun h => points_Get_at (b := makP) (k := 2) (h := h) makP_length (by omega)
    rw [mak2, show ((2 : Nat) : Int) = 2 from rfl] at hG
    rw [show ([7, 9] : List Int).length = 2 from rfl] at hL
    have hI := ref04_Ints_eq (h := g ++ [some (Row.mk (encI [7, 0, 9]) true), some (Row.mk (encB makP) true), some (Row.mk (encI [7, 9]) true), some (Row.mk (encI [7, 9]) true)]) (v := .c (.sl (g.length + 2) 0 2 1)) (nv := 2) (u := .c (.sl (g.length + 3) 0 2 1)) (nu := 2) (l := [7, 9]) (r := [7, 9]) (Has.tr (by simp) rfl rfl) (Has.tr (by simp) rfl rfl) (by decide)
    rw [decide_eq_true rfl] at hI
    rw [R_escheatlaw20_works_eq]
    generalize List.replicate 256 (Cell.i .u8 0) = z at *
    generalize makP = P at *
    generalize encI [7, 0, 9] = c1 at *
    generalize encI [7, 9] = c2 at *
    exact ⟨_, by simp only [afAddr_p, List.append_nil, if_true, if_false, bnd_some, mp_some, cnd_t, cnd_f, gd_no, gd_tt, gd_tf, gd_ft, gd_ff, alenS_s, alen_sl, alen_ns, abin_add, abin_sub, abin_mul, abin_eql, abin_neq, abin_lss, abin_leq, abin_gtr, abin_geq, abin_seql, abin_sneq, abin_slss, aun_not, aun_neg, agn_some, aeqN_nf, aeqN_f, aeqN_np, aeqN_p, anilc_p, aeqB_t, aeqB_f, aconv_i, apick_b, cond_true, cond_false, decide_true, decide_false, Bool.not_true, Bool.not_false, aext_t, ofPart_c, ofPart_a, part?_c, part?_a, cells?_c, cells?_a, tupN_2, tupN_3, Option.map_some, Option.some.injEq, List.getElem?_cons_zero, List.getElem?_cons_succ, not_true_eq_false, not_false_eq_true, quiet_same, bytesI_length, Option.join_some, List.append_assoc, List.cons_append, List.nil_append, List.length_append, List.length_cons, List.length_nil, Nat.zero_add, Nat.add_zero, rd_at, rd_at0, set_at, set_at0, List.set_cons_zero, List.set_cons_succ, ne_eq, decide_not, quiet_ext, newOk_some, List.cons_prefix_cons, List.nil_prefix, List.drop_succ_cons, List.drop_zero, List.all_cons, List.all_nil, Bool.and_true, true_and, and_true, aloadN_at, aloadN_at0, aload1_at, aload1_at0, astoreN_at, astoreN_at0, astore1_at, astore1_at0, aslA_at, aslA_at0, ldN_all, ld1_row, stN_all, st1_row, slr_all, Nat.reduceAdd, Nat.reduceMul, Nat.reduceLT, ef, ef2, hM, hz, hP, hL, hI, hT, hG] <;> rfl⟩
  obtain ⟨g', e⟩ := key (ro h)
  exact S_escheatlaw20_works_flat e rfl

end Go.Proofs.Ytbbkpmbepljhkaa
