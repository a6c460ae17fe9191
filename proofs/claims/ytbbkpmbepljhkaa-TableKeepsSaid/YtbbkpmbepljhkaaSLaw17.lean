/- What the laws of the chapter of the places have in common. -/
import Derived.Test.YtbbkpmbepljhkaaSTableWith
import Derived.Test.YtbbkpmbepljhkaaGEscheatlaw17
set_option linter.all false
namespace Go.Proofs.Ytbbkpmbepljhkaa
open Go Go.Esc

theorem rawT_lay {b xs : List UInt8} {j i : Nat} (hb : b.length = 256) (hx : xs.length = 32) (hj : j < 8) (hi : i < 8) : rawT (layB b (32 * j) xs) i = if i = j then xs else rawT b i := by
  have hl : (layB b (32 * j) xs).length = 256 := by rw [layB_length (by omega), hb]
  apply List.ext_getElem?
  intro n
  by_cases hn : n < 32
  · have e1 : ∀ c : List UInt8, (rawT c i)[n]? = c[32 * i + n]? := fun c => by simp [rawT, hn]
    rw [e1, layB_get (by omega), hx]
    by_cases c : i = j
    · subst c
      rw [if_pos (by omega), if_pos rfl]
      congr 1; omega
    · rw [if_neg (by omega), if_neg c, e1]
  · have h1 := rawT_length (b := layB b (32 * j) xs) hl hi
    have h2 := rawT_length hb hi
    rw [List.getElem?_eq_none (by omega), List.getElem?_eq_none]
    split <;> omega

theorem rawT_zeros {i : Nat} (hi : i < 8) : rawT (zeros 256) i = zeros 32 := by
  unfold rawT zeros
  rw [List.drop_replicate, List.take_replicate]
  congr 1; omega

def oneB : List UInt8 := inoB 2 1 0 0 (zI 7)
theorem oneB_length : oneB.length = 32 := inoB_length zI_length
theorem oneB_head : ∃ r, oneB = 2 :: r := ⟨_, rfl⟩
theorem oneB_ne : oneB ≠ zeros 32 := by
  obtain ⟨r, e⟩ := oneB_head
  rw [e]
  unfold zeros
  rw [List.replicate_succ]
  intro h
  have := (List.cons.inj h).1
  exact absurd this (by decide)
theorem one_may : mayI 2 1 0 0 (zI 7) = true := by decide

theorem works17_eq (h : Heap) : S_escheatlaw17_works [] h = some (.c (.b true), h) := by
  have key : ∀ g, ∃ g', R_escheatlaw17_works 0 [] g = some (.c (.b true), g') := by
    intro g
    have haf : afill (List.replicate 256 (Cell.i .u8 0)) [] = some (List.replicate 256 (Cell.i .u8 0)) := rfl
    have ef : afill [Cell.i .i64 0, .i .i64 0, .i .i64 0, .i .i64 0, .i .i64 0, .i .i64 0, .i .i64 0, .i .i64 0, .i .i64 0, .i .i64 0, .i .i64 0] [(0, 1, .c (.i .i64 2)), (1, 1, .c (.i .i64 1))] = some (inoC 2 1 0 0 (zI 7)) := rfl
    have hW := fun h => table_With_ok (j := 2) (b := zeros 256) (h := h) zeros_length zI_length (by omega) one_may
    have hW' : ∀ h, S_table_With [.a (encB (zeros 256)), .c (.i .i64 2), .a (inoC 2 1 0 0 (zI 7))] h = some (.t [.a (encB (layB (zeros 256) (32 * 2) oneB)), .c (.i .i64 0)], h) := fun h => by
      have := hW h
      rwa [show ((2 : Nat) : Int) = 2 from rfl] at this
    have hB : (layB (zeros 256) (32 * 2) oneB).length = 256 := by rw [layB_length (by rw [oneB_length, zeros_length]; omega), zeros_length]
    have hBe : (encB (layB (zeros 256) (32 * 2) oneB)).length = 256 := by rw [encB_length, hB]
    have hr : ∀ i, i < 8 → rawT (layB (zeros 256) (32 * 2) oneB) i = if i = 2 then oneB else zeros 32 := fun i hi => by
      rw [rawT_lay zeros_length oneB_length (by omega) hi]
      split
      · rfl
      · exact rawT_zeros hi
    have hF := fun h => table_Free_eq (h := h) hB
    have f1 : freeT (layB (zeros 256) (32 * 2) oneB) 8 0 = ((0 : Int), true) := by
      have r0 : rawT (layB (zeros 256) (32 * 2) oneB) 0 = zeros 32 := by
        rw [hr 0 (by omega)]
        exact if_neg (by decide)
      rw [freeT, if_pos r0]; rfl
    simp only [f1] at hF
    have hU := fun h => table_Used_eq (h := h) hB
    have f2 : usedT (layB (zeros 256) (32 * 2) oneB) 8 = [2] := by
      simp only [usedT]
      rw [hr 0 (by omega), hr 1 (by omega), hr 2 (by omega), hr 3 (by omega), hr 4 (by omega), hr 5 (by omega), hr 6 (by omega), hr 7 (by omega)]
      simp [oneB_ne]
    simp only [f2] at hU
    have a0 : aiAddrA 256 1 (.c (.p g.length 0)) (.c (.i .i64 64)) = some (.c (.p g.length 64)) := rfl
    have g0 : (encB (layB (zeros 256) (32 * 2) oneB))[64]? = some (.i .u8 2) := by
      rw [encB_get, layB_get (by rw [oneB_length, zeros_length]; omega), if_pos (by rw [oneB_length]; omega)]
      obtain ⟨r, e⟩ := oneB_head
      rw [e]; rfl
    rw [R_escheatlaw17_works_eq]
    rw [zeros_enc] at haf ⊢
    generalize layB (zeros 256) (32 * 2) oneB = W at *
    have hz : (encB (zeros 256)).length = 256 := by rw [encB_length]; exact zeros_length
    generalize zeros 256 = z at *
    exact ⟨_, by simp only [afAddr_p, List.append_nil, if_true, if_false, bnd_some, mp_some, cnd_t, cnd_f, gd_no, gd_tt, gd_tf, gd_ft, gd_ff, alenS_s, alen_sl, alen_ns, abin_add, abin_sub, abin_mul, abin_eql, abin_neq, abin_lss, abin_leq, abin_gtr, abin_geq, abin_seql, abin_sneq, abin_slss, aun_not, aun_neg, aeqB_t, aeqB_f, aconv_i, apick_b, cond_true, cond_false, decide_true, decide_false, Bool.not_true, Bool.not_false, aext_t, ofPart_c, ofPart_a, part?_c, part?_a, cells?_c, cells?_a, tupN_2, tupN_3, Option.map_some, Option.some.injEq, List.getElem?_cons_zero, List.getElem?_cons_succ, not_true_eq_false, not_false_eq_true, quiet_same, bytesI_length, Option.join_some, List.append_assoc, List.cons_append, List.nil_append, List.length_append, List.length_cons, List.length_nil, Nat.zero_add, Nat.add_zero, rd_at, rd_at0, set_at, set_at0, List.set_cons_zero, List.set_cons_succ, ne_eq, decide_not, quiet_ext, newOk_some, List.cons_prefix_cons, List.nil_prefix, List.drop_succ_cons, List.drop_zero, List.all_cons, List.all_nil, Bool.and_true, true_and, and_true, aloadN_at, aloadN_at0, aload1_at, aload1_at0, astoreN_at, astoreN_at0, astore1_at, astore1_at0, aslA_at, aslA_at0, ldN_all, ld1_row, stN_all, st1_row, slr_all, Nat.reduceAdd, Nat.reduceMul, Nat.reduceLT, haf, ef, hW', hz, hBe, hF, hU, a0, g0] <;> rfl⟩
  obtain ⟨g', e⟩ := key (ro h)
  exact S_escheatlaw17_works_flat e rfl

end Go.Proofs.Ytbbkpmbepljhkaa
