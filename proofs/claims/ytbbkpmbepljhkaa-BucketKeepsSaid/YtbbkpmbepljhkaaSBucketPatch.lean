/- The patches of a slot. -/
import Derived.Test.YtbbkpmbepljhkaaSBucketSlot
set_option linter.all false
namespace Go.Proofs.Ytbbkpmbepljhkaa
open Go Go.Esc

/-! ### Patches -/

theorem canon_pat {h : Heap} {b id n : Nat} {a : Int} {cs : List Cell} (hb : b ≤ id) (hr : rd h id = some ⟨cs, true⟩) (hf : flats cs = true) :
    canonV h b (.t [.a [.i .i64 a, .sl id 0 n 1], .c (.i .i64 0)]) = some (.t [.a [.i .i64 a, .sl b 0 n 1], .c (.i .i64 0)], [id]) := by
  have h1 : ¬ id < b := by omega
  have hc1 : canonC h b [] [.i .i64 a, .sl id 0 n 1] = some ([.i .i64 a, .sl b 0 n 1], [id]) := by
    simp [canonC, Cell.low, Cell.flat, newRow_of hr hf, h1, hb]
  have hc2 : canonC h b [id] [.i .i64 0] = some ([.i .i64 0], [id]) := canonC_flat (by simp)
  simp only [canonV, canonP, hc1, hc2, Option.bind_some, Option.map_some]

theorem ef_pat {a : Int} {x : Cell} : afill [Cell.i .i64 0, .ns] [(0, 1, .c (.i .i64 a)), (1, 1, .c x)] = some [.i .i64 a, x] := rfl
theorem ef_pat0 : afill [Cell.i .i64 0, .ns] [] = some [.i .i64 0, .ns] := rfl

theorem bucket_laid_range {k : Int} {x : Val} {h : Heap} (hk : k < 0 ∨ 7 ≤ k) : S_bucket_laid [.c (.i .i64 k), .c (.i .i64 0), x] h = some (.t [.a [.i .i64 0, .ns], .c (.i .i64 2)], h) := by
  have key : ∀ g, ∃ g', R_bucket_laid 0 [.c (.i .i64 k), .c (.i .i64 0), x] g = some (.t [.a [.i .i64 0, .ns], .c (.i .i64 2)], g') := by
    intro g
    rw [R_bucket_laid_eq]
    by_cases c1 : k < 0
    · exact ⟨_, by simp only [afAddr_p, List.append_nil, if_true, if_false, bnd_some, mp_some, cnd_t, cnd_f, gd_no, gd_tt, gd_tf, gd_ft, gd_ff, alenS_s, alen_sl, alen_ns, abin_add, abin_sub, abin_mul, abin_eql, abin_neq, abin_lss, abin_leq, abin_gtr, abin_geq, abin_seql, abin_sneq, abin_slss, aun_not, aun_neg, agn_some, aeqN_nf, aeqN_f, aeqN_np, aeqN_p, anilc_p, aeqB_t, aeqB_f, aconv_i, apick_b, cond_true, cond_false, decide_true, decide_false, Bool.not_true, Bool.not_false, aext_t, ofPart_c, ofPart_a, part?_c, part?_a, cells?_c, cells?_a, tupN_2, tupN_3, Option.map_some, Option.some.injEq, List.getElem?_cons_zero, List.getElem?_cons_succ, not_true_eq_false, not_false_eq_true, quiet_same, bytesI_length, Option.join_some, List.append_assoc, List.cons_append, List.nil_append, List.length_append, List.length_cons, List.length_nil, Nat.zero_add, Nat.add_zero, rd_at, rd_at0, set_at, set_at0, List.set_cons_zero, List.set_cons_succ, ne_eq, decide_not, quiet_ext, newOk_some, List.cons_prefix_cons, List.nil_prefix, List.drop_succ_cons, List.drop_zero, List.all_cons, List.all_nil, Bool.and_true, true_and, and_true, aloadN_at, aloadN_at0, aload1_at, aload1_at0, astoreN_at, astoreN_at0, astore1_at, astore1_at0, aslA_at, aslA_at0, ldN_all, ld1_row, stN_all, st1_row, slr_all, Nat.reduceAdd, Nat.reduceMul, Nat.reduceLT, c1, ef_pat0] <;> rfl⟩
    · have c2 : 7 ≤ k := by omega
      exact ⟨_, by simp only [afAddr_p, List.append_nil, if_true, if_false, bnd_some, mp_some, cnd_t, cnd_f, gd_no, gd_tt, gd_tf, gd_ft, gd_ff, alenS_s, alen_sl, alen_ns, abin_add, abin_sub, abin_mul, abin_eql, abin_neq, abin_lss, abin_leq, abin_gtr, abin_geq, abin_seql, abin_sneq, abin_slss, aun_not, aun_neg, agn_some, aeqN_nf, aeqN_f, aeqN_np, aeqN_p, anilc_p, aeqB_t, aeqB_f, aconv_i, apick_b, cond_true, cond_false, decide_true, decide_false, Bool.not_true, Bool.not_false, aext_t, ofPart_c, ofPart_a, part?_c, part?_a, cells?_c, cells?_a, tupN_2, tupN_3, Option.map_some, Option.some.injEq, List.getElem?_cons_zero, List.getElem?_cons_succ, not_true_eq_false, not_false_eq_true, quiet_same, bytesI_length, Option.join_some, List.append_assoc, List.cons_append, List.nil_append, List.length_append, List.length_cons, List.length_nil, Nat.zero_add, Nat.add_zero, rd_at, rd_at0, set_at, set_at0, List.set_cons_zero, List.set_cons_succ, ne_eq, decide_not, quiet_ext, newOk_some, List.cons_prefix_cons, List.nil_prefix, List.drop_succ_cons, List.drop_zero, List.all_cons, List.all_nil, Bool.and_true, true_and, and_true, aloadN_at, aloadN_at0, aload1_at, aload1_at0, astoreN_at, astoreN_at0, astore1_at, astore1_at0, aslA_at, aslA_at0, ldN_all, ld1_row, stN_all, st1_row, slr_all, Nat.reduceAdd, Nat.reduceMul, Nat.reduceLT, c1, c2, ef_pat0] <;> rfl⟩
  obtain ⟨g', e⟩ := key (ro h)
  exact S_bucket_laid_flat e rfl

theorem bucket_laid_in {k id n : Nat} {h : Heap} (hk : k < 7) (hid : id < h.length) : S_bucket_laid [.c (.i .i64 (k : Int)), .c (.i .i64 0), .c (.sl id 0 n 1)] h = some (.t [.a [.i .i64 (slotA k : Nat), .sl id 0 n 1], .c (.i .i64 0)], h) := by
  have key : ∀ g, ∃ g', R_bucket_laid 0 [.c (.i .i64 (k : Int)), .c (.i .i64 0), .c (.sl id 0 n 1)] g = some (.t [.a [.i .i64 (slotA k : Nat), .sl id 0 n 1], .c (.i .i64 0)], g') := by
    intro g
    have c1 : ¬ (k : Int) < 0 := by omega
    have c2 : ¬ 7 ≤ (k : Int) := by omega
    have hF := fun h => bucket_first_eq (h := h) hk
    have w1 : IntKind.wrap .i64 (((slotA k : Nat) : Int) + 0) = ((slotA k : Nat) : Int) := by unfold slotA; rw [wrap_i64 (by omega) (by omega)]; omega
    rw [R_bucket_laid_eq]
    exact ⟨_, by simp only [afAddr_p, List.append_nil, if_true, if_false, bnd_some, mp_some, cnd_t, cnd_f, gd_no, gd_tt, gd_tf, gd_ft, gd_ff, alenS_s, alen_sl, alen_ns, abin_add, abin_sub, abin_mul, abin_eql, abin_neq, abin_lss, abin_leq, abin_gtr, abin_geq, abin_seql, abin_sneq, abin_slss, aun_not, aun_neg, agn_some, aeqN_nf, aeqN_f, aeqN_np, aeqN_p, anilc_p, aeqB_t, aeqB_f, aconv_i, apick_b, cond_true, cond_false, decide_true, decide_false, Bool.not_true, Bool.not_false, aext_t, ofPart_c, ofPart_a, part?_c, part?_a, cells?_c, cells?_a, tupN_2, tupN_3, Option.map_some, Option.some.injEq, List.getElem?_cons_zero, List.getElem?_cons_succ, not_true_eq_false, not_false_eq_true, quiet_same, bytesI_length, Option.join_some, List.append_assoc, List.cons_append, List.nil_append, List.length_append, List.length_cons, List.length_nil, Nat.zero_add, Nat.add_zero, rd_at, rd_at0, set_at, set_at0, List.set_cons_zero, List.set_cons_succ, ne_eq, decide_not, quiet_ext, newOk_some, List.cons_prefix_cons, List.nil_prefix, List.drop_succ_cons, List.drop_zero, List.all_cons, List.all_nil, Bool.and_true, true_and, and_true, aloadN_at, aloadN_at0, aload1_at, aload1_at0, astoreN_at, astoreN_at0, astore1_at, astore1_at0, aslA_at, aslA_at0, ldN_all, ld1_row, stN_all, st1_row, slr_all, Nat.reduceAdd, Nat.reduceMul, Nat.reduceLT, c1, c2, hF, w1, ef_pat] <;> rfl⟩
  obtain ⟨g', e⟩ := key (ro h)
  exact S_bucket_laid_low e (by simp [Val.low, Cell.low, Cell.flat, hid])

theorem bucket_Clear_range {k : Int} {h : Heap} (hk : k < 0 ∨ 7 ≤ k) : S_bucket_Clear [.c (.i .i64 k)] h = some (.t [.a [.i .i64 0, .ns], .c (.i .i64 2)], h) := by
  have key : ∀ g, ∃ g', R_bucket_Clear 0 [.c (.i .i64 k)] g = some (.t [.a [.i .i64 0, .ns], .c (.i .i64 2)], g') := by
    intro g
    have hn : amkn (.c (.i .i64 32)) (.c (.i .i64 32)) = some 32 := rfl
    have rz := rows_zero 32
    have hL := fun x h => bucket_laid_range (x := x) (h := h) hk
    rw [R_bucket_Clear_eq]
    exact ⟨_, by simp only [afAddr_p, List.append_nil, if_true, if_false, bnd_some, mp_some, cnd_t, cnd_f, gd_no, gd_tt, gd_tf, gd_ft, gd_ff, alenS_s, alen_sl, alen_ns, abin_add, abin_sub, abin_mul, abin_eql, abin_neq, abin_lss, abin_leq, abin_gtr, abin_geq, abin_seql, abin_sneq, abin_slss, aun_not, aun_neg, agn_some, aeqN_nf, aeqN_f, aeqN_np, aeqN_p, anilc_p, aeqB_t, aeqB_f, aconv_i, apick_b, cond_true, cond_false, decide_true, decide_false, Bool.not_true, Bool.not_false, aext_t, ofPart_c, ofPart_a, part?_c, part?_a, cells?_c, cells?_a, tupN_2, tupN_3, Option.map_some, Option.some.injEq, List.getElem?_cons_zero, List.getElem?_cons_succ, not_true_eq_false, not_false_eq_true, quiet_same, bytesI_length, Option.join_some, List.append_assoc, List.cons_append, List.nil_append, List.length_append, List.length_cons, List.length_nil, Nat.zero_add, Nat.add_zero, rd_at, rd_at0, set_at, set_at0, List.set_cons_zero, List.set_cons_succ, ne_eq, decide_not, quiet_ext, newOk_some, List.cons_prefix_cons, List.nil_prefix, List.drop_succ_cons, List.drop_zero, List.all_cons, List.all_nil, Bool.and_true, true_and, and_true, aloadN_at, aloadN_at0, aload1_at, aload1_at0, astoreN_at, astoreN_at0, astore1_at, astore1_at0, aslA_at, aslA_at0, ldN_all, ld1_row, stN_all, st1_row, slr_all, Nat.reduceAdd, Nat.reduceMul, Nat.reduceLT, hn, hL] <;> rfl⟩
  obtain ⟨g', e⟩ := key (ro h)
  exact S_bucket_Clear_flat e rfl

theorem bucket_Clear_in {k : Nat} {h : Heap} (hk : k < 7) : S_bucket_Clear [.c (.i .i64 (k : Int))] h = some (.t [.a [.i .i64 (slotA k : Nat), .sl h.length 0 32 1], .c (.i .i64 0)], h ++ [some ⟨encB (zeros 32), true⟩]) := by
  have key : ∀ g, ∃ g', R_bucket_Clear 0 [.c (.i .i64 (k : Int))] g = some (.t [.a [.i .i64 (slotA k : Nat), .sl (g.length + 1) 0 32 1], .c (.i .i64 0)], g') ∧ rd g' (g.length + 1) = some ⟨encB (zeros 32), true⟩ := by
    intro g
    have hn : amkn (.c (.i .i64 32)) (.c (.i .i64 32)) = some 32 := rfl
    have rz := rows_zero 32
    have hL := bucket_laid_in (k := k) (id := g.length + 1) (n := 32) (h := g ++ [some (Row.mk [.i .i64 0, .ns] true), some (Row.mk (encB (zeros 32)) true)]) hk (by simp)
    rw [R_bucket_Clear_eq]
    generalize zeros 32 = z at *
    exact ⟨_, by simp only [afAddr_p, List.append_nil, if_true, if_false, bnd_some, mp_some, cnd_t, cnd_f, gd_no, gd_tt, gd_tf, gd_ft, gd_ff, alenS_s, alen_sl, alen_ns, abin_add, abin_sub, abin_mul, abin_eql, abin_neq, abin_lss, abin_leq, abin_gtr, abin_geq, abin_seql, abin_sneq, abin_slss, aun_not, aun_neg, agn_some, aeqN_nf, aeqN_f, aeqN_np, aeqN_p, anilc_p, aeqB_t, aeqB_f, aconv_i, apick_b, cond_true, cond_false, decide_true, decide_false, Bool.not_true, Bool.not_false, aext_t, ofPart_c, ofPart_a, part?_c, part?_a, cells?_c, cells?_a, tupN_2, tupN_3, Option.map_some, Option.some.injEq, List.getElem?_cons_zero, List.getElem?_cons_succ, not_true_eq_false, not_false_eq_true, quiet_same, bytesI_length, Option.join_some, List.append_assoc, List.cons_append, List.nil_append, List.length_append, List.length_cons, List.length_nil, Nat.zero_add, Nat.add_zero, rd_at, rd_at0, set_at, set_at0, List.set_cons_zero, List.set_cons_succ, ne_eq, decide_not, quiet_ext, newOk_some, List.cons_prefix_cons, List.nil_prefix, List.drop_succ_cons, List.drop_zero, List.all_cons, List.all_nil, Bool.and_true, true_and, and_true, aloadN_at, aloadN_at0, aload1_at, aload1_at0, astoreN_at, astoreN_at0, astore1_at, astore1_at0, aslA_at, aslA_at0, ldN_all, ld1_row, stN_all, st1_row, slr_all, Nat.reduceAdd, Nat.reduceMul, Nat.reduceLT, hn, rz, hL] <;> rfl, by simp⟩
  obtain ⟨g', e, hr⟩ := key (ro h)
  rw [ro_length] at hr
  have := S_bucket_Clear_tidy e (canon_pat (b := h.length) (by rw [ro_length]; omega) (by rw [ro_length]; exact hr) (by simp))
  rw [this, ro_length]
  simp [hr]

theorem bucket_Point_range {k n : Int} {h : Heap} (hk : k < 0 ∨ 7 ≤ k) : S_bucket_Point [.c (.i .i64 k), .c (.i .i64 n)] h = some (.t [.a [.i .i64 0, .ns], .c (.i .i64 2)], h) := by
  have key : ∀ g, ∃ g', R_bucket_Point 0 [.c (.i .i64 k), .c (.i .i64 n)] g = some (.t [.a [.i .i64 0, .ns], .c (.i .i64 2)], g') := by
    intro g
    have e4 : abin .shr (.c (.i .i64 n)) (.c (.i .u64 8)) = some (.c (.i .i64 (n / 256))) := abin_shr (by omega)
    have ef : ∀ x y : Cell, afill [Cell.i .u8 0, .i .u8 0] [(0, 1, .c x), (1, 1, .c y)] = some [x, y] := fun _ _ => rfl
    have hL := fun x h => bucket_laid_range (x := x) (h := h) hk
    rw [R_bucket_Point_eq]
    by_cases c1 : 0 ≤ k
    · have c2 : ¬ k < 7 := by omega
      exact ⟨_, by simp only [afAddr_p, List.append_nil, if_true, if_false, bnd_some, mp_some, cnd_t, cnd_f, gd_no, gd_tt, gd_tf, gd_ft, gd_ff, alenS_s, alen_sl, alen_ns, abin_add, abin_sub, abin_mul, abin_eql, abin_neq, abin_lss, abin_leq, abin_gtr, abin_geq, abin_seql, abin_sneq, abin_slss, aun_not, aun_neg, agn_some, aeqN_nf, aeqN_f, aeqN_np, aeqN_p, anilc_p, aeqB_t, aeqB_f, aconv_i, apick_b, cond_true, cond_false, decide_true, decide_false, Bool.not_true, Bool.not_false, aext_t, ofPart_c, ofPart_a, part?_c, part?_a, cells?_c, cells?_a, tupN_2, tupN_3, Option.map_some, Option.some.injEq, List.getElem?_cons_zero, List.getElem?_cons_succ, not_true_eq_false, not_false_eq_true, quiet_same, bytesI_length, Option.join_some, List.append_assoc, List.cons_append, List.nil_append, List.length_append, List.length_cons, List.length_nil, Nat.zero_add, Nat.add_zero, rd_at, rd_at0, set_at, set_at0, List.set_cons_zero, List.set_cons_succ, ne_eq, decide_not, quiet_ext, newOk_some, List.cons_prefix_cons, List.nil_prefix, List.drop_succ_cons, List.drop_zero, List.all_cons, List.all_nil, Bool.and_true, true_and, and_true, aloadN_at, aloadN_at0, aload1_at, aload1_at0, astoreN_at, astoreN_at0, astore1_at, astore1_at0, aslA_at, aslA_at0, ldN_all, ld1_row, stN_all, st1_row, slr_all, Nat.reduceAdd, Nat.reduceMul, Nat.reduceLT, c1, c2, e4, ef, hL] <;> rfl⟩
    · exact ⟨_, by simp only [afAddr_p, List.append_nil, if_true, if_false, bnd_some, mp_some, cnd_t, cnd_f, gd_no, gd_tt, gd_tf, gd_ft, gd_ff, alenS_s, alen_sl, alen_ns, abin_add, abin_sub, abin_mul, abin_eql, abin_neq, abin_lss, abin_leq, abin_gtr, abin_geq, abin_seql, abin_sneq, abin_slss, aun_not, aun_neg, agn_some, aeqN_nf, aeqN_f, aeqN_np, aeqN_p, anilc_p, aeqB_t, aeqB_f, aconv_i, apick_b, cond_true, cond_false, decide_true, decide_false, Bool.not_true, Bool.not_false, aext_t, ofPart_c, ofPart_a, part?_c, part?_a, cells?_c, cells?_a, tupN_2, tupN_3, Option.map_some, Option.some.injEq, List.getElem?_cons_zero, List.getElem?_cons_succ, not_true_eq_false, not_false_eq_true, quiet_same, bytesI_length, Option.join_some, List.append_assoc, List.cons_append, List.nil_append, List.length_append, List.length_cons, List.length_nil, Nat.zero_add, Nat.add_zero, rd_at, rd_at0, set_at, set_at0, List.set_cons_zero, List.set_cons_succ, ne_eq, decide_not, quiet_ext, newOk_some, List.cons_prefix_cons, List.nil_prefix, List.drop_succ_cons, List.drop_zero, List.all_cons, List.all_nil, Bool.and_true, true_and, and_true, aloadN_at, aloadN_at0, aload1_at, aload1_at0, astoreN_at, astoreN_at0, astore1_at, astore1_at0, aslA_at, aslA_at0, ldN_all, ld1_row, stN_all, st1_row, slr_all, Nat.reduceAdd, Nat.reduceMul, Nat.reduceLT, c1, e4, ef, hL] <;> rfl⟩
  obtain ⟨g', e⟩ := key (ro h)
  exact S_bucket_Point_flat e rfl

theorem bucket_Point_bad {k : Nat} {n : Int} {h : Heap} (hk : k < 7) (hn : n < 1 ∨ 128 < n) : S_bucket_Point [.c (.i .i64 (k : Int)), .c (.i .i64 n)] h = some (.t [.a [.i .i64 0, .ns], .c (.i .i64 1)], h) := by
  have key : ∀ g, ∃ g', R_bucket_Point 0 [.c (.i .i64 (k : Int)), .c (.i .i64 n)] g = some (.t [.a [.i .i64 0, .ns], .c (.i .i64 1)], g') := by
    intro g
    have c1 : 0 ≤ (k : Int) := by omega
    have c2 : (k : Int) < 7 := by omega
    rw [R_bucket_Point_eq]
    by_cases c3 : n < 1
    · exact ⟨_, by simp only [afAddr_p, List.append_nil, if_true, if_false, bnd_some, mp_some, cnd_t, cnd_f, gd_no, gd_tt, gd_tf, gd_ft, gd_ff, alenS_s, alen_sl, alen_ns, abin_add, abin_sub, abin_mul, abin_eql, abin_neq, abin_lss, abin_leq, abin_gtr, abin_geq, abin_seql, abin_sneq, abin_slss, aun_not, aun_neg, agn_some, aeqN_nf, aeqN_f, aeqN_np, aeqN_p, anilc_p, aeqB_t, aeqB_f, aconv_i, apick_b, cond_true, cond_false, decide_true, decide_false, Bool.not_true, Bool.not_false, aext_t, ofPart_c, ofPart_a, part?_c, part?_a, cells?_c, cells?_a, tupN_2, tupN_3, Option.map_some, Option.some.injEq, List.getElem?_cons_zero, List.getElem?_cons_succ, not_true_eq_false, not_false_eq_true, quiet_same, bytesI_length, Option.join_some, List.append_assoc, List.cons_append, List.nil_append, List.length_append, List.length_cons, List.length_nil, Nat.zero_add, Nat.add_zero, rd_at, rd_at0, set_at, set_at0, List.set_cons_zero, List.set_cons_succ, ne_eq, decide_not, quiet_ext, newOk_some, List.cons_prefix_cons, List.nil_prefix, List.drop_succ_cons, List.drop_zero, List.all_cons, List.all_nil, Bool.and_true, true_and, and_true, aloadN_at, aloadN_at0, aload1_at, aload1_at0, astoreN_at, astoreN_at0, astore1_at, astore1_at0, aslA_at, aslA_at0, ldN_all, ld1_row, stN_all, st1_row, slr_all, Nat.reduceAdd, Nat.reduceMul, Nat.reduceLT, c1, c2, c3, ef_pat0] <;> rfl⟩
    · have c4 : 128 < n := by omega
      exact ⟨_, by simp only [afAddr_p, List.append_nil, if_true, if_false, bnd_some, mp_some, cnd_t, cnd_f, gd_no, gd_tt, gd_tf, gd_ft, gd_ff, alenS_s, alen_sl, alen_ns, abin_add, abin_sub, abin_mul, abin_eql, abin_neq, abin_lss, abin_leq, abin_gtr, abin_geq, abin_seql, abin_sneq, abin_slss, aun_not, aun_neg, agn_some, aeqN_nf, aeqN_f, aeqN_np, aeqN_p, anilc_p, aeqB_t, aeqB_f, aconv_i, apick_b, cond_true, cond_false, decide_true, decide_false, Bool.not_true, Bool.not_false, aext_t, ofPart_c, ofPart_a, part?_c, part?_a, cells?_c, cells?_a, tupN_2, tupN_3, Option.map_some, Option.some.injEq, List.getElem?_cons_zero, List.getElem?_cons_succ, not_true_eq_false, not_false_eq_true, quiet_same, bytesI_length, Option.join_some, List.append_assoc, List.cons_append, List.nil_append, List.length_append, List.length_cons, List.length_nil, Nat.zero_add, Nat.add_zero, rd_at, rd_at0, set_at, set_at0, List.set_cons_zero, List.set_cons_succ, ne_eq, decide_not, quiet_ext, newOk_some, List.cons_prefix_cons, List.nil_prefix, List.drop_succ_cons, List.drop_zero, List.all_cons, List.all_nil, Bool.and_true, true_and, and_true, aloadN_at, aloadN_at0, aload1_at, aload1_at0, astoreN_at, astoreN_at0, astore1_at, astore1_at0, aslA_at, aslA_at0, ldN_all, ld1_row, stN_all, st1_row, slr_all, Nat.reduceAdd, Nat.reduceMul, Nat.reduceLT, c1, c2, c3, c4, ef_pat0] <;> rfl⟩
  obtain ⟨g', e⟩ := key (ro h)
  exact S_bucket_Point_flat e rfl

theorem bucket_Point_in {k : Nat} {n : Int} {h : Heap} (hk : k < 7) (h1 : 1 ≤ n) (h2 : n ≤ 128) : S_bucket_Point [.c (.i .i64 (k : Int)), .c (.i .i64 n)] h = some (.t [.a [.i .i64 (slotA k : Nat), .sl h.length 0 2 1], .c (.i .i64 0)], h ++ [some ⟨encB (bytesI 2 n), true⟩]) := by
  have key : ∀ g, ∃ g', R_bucket_Point 0 [.c (.i .i64 (k : Int)), .c (.i .i64 n)] g = some (.t [.a [.i .i64 (slotA k : Nat), .sl (g.length + 1) 0 2 1], .c (.i .i64 0)], g') ∧ rd g' (g.length + 1) = some ⟨encB (bytesI 2 n), true⟩ := by
    intro g
    have c1 : 0 ≤ (k : Int) := by omega
    have c2 : (k : Int) < 7 := by omega
    have c3 : ¬ n < 1 := by omega
    have c4 : ¬ 128 < n := by omega
    have e4 : abin .shr (.c (.i .i64 n)) (.c (.i .u64 8)) = some (.c (.i .i64 (n / 256))) := abin_shr (by omega)
    have wm : ∀ a : Int, IntKind.wrap .u8 a = a % 256 := fun a => by
      simp only [IntKind.wrap, IntKind.bits, IntKind.signed, Bool.false_and]
      rfl
    have b0 : IntKind.wrap .u8 n = ((byI n 0).toNat : Int) := by rw [wm, byI_int]; simp
    have b1 : IntKind.wrap .u8 (n / 256) = ((byI n 1).toNat : Int) := by rw [wm, byI_int]; simp
    have ef : afill [Cell.i .u8 0, .i .u8 0] [(0, 1, .c (.i .u8 (byI n 0).toNat)), (1, 1, .c (.i .u8 (byI n 1).toNat))] = some (encB (bytesI 2 n)) := rfl
    have hL := bucket_laid_in (k := k) (id := g.length + 1) (n := 2) (h := g ++ [some (Row.mk [.i .i64 0, .ns] true), some (Row.mk (encB (bytesI 2 n)) true)]) hk (by simp)
    rw [R_bucket_Point_eq]
    exact ⟨_, by simp only [afAddr_p, List.append_nil, if_true, if_false, bnd_some, mp_some, cnd_t, cnd_f, gd_no, gd_tt, gd_tf, gd_ft, gd_ff, alenS_s, alen_sl, alen_ns, abin_add, abin_sub, abin_mul, abin_eql, abin_neq, abin_lss, abin_leq, abin_gtr, abin_geq, abin_seql, abin_sneq, abin_slss, aun_not, aun_neg, agn_some, aeqN_nf, aeqN_f, aeqN_np, aeqN_p, anilc_p, aeqB_t, aeqB_f, aconv_i, apick_b, cond_true, cond_false, decide_true, decide_false, Bool.not_true, Bool.not_false, aext_t, ofPart_c, ofPart_a, part?_c, part?_a, cells?_c, cells?_a, tupN_2, tupN_3, Option.map_some, Option.some.injEq, List.getElem?_cons_zero, List.getElem?_cons_succ, not_true_eq_false, not_false_eq_true, quiet_same, bytesI_length, Option.join_some, List.append_assoc, List.cons_append, List.nil_append, List.length_append, List.length_cons, List.length_nil, Nat.zero_add, Nat.add_zero, rd_at, rd_at0, set_at, set_at0, List.set_cons_zero, List.set_cons_succ, ne_eq, decide_not, quiet_ext, newOk_some, List.cons_prefix_cons, List.nil_prefix, List.drop_succ_cons, List.drop_zero, List.all_cons, List.all_nil, Bool.and_true, true_and, and_true, aloadN_at, aloadN_at0, aload1_at, aload1_at0, astoreN_at, astoreN_at0, astore1_at, astore1_at0, aslA_at, aslA_at0, ldN_all, ld1_row, stN_all, st1_row, slr_all, Nat.reduceAdd, Nat.reduceMul, Nat.reduceLT, c1, c2, c3, c4, b0, e4, b1, ef, hL] <;> rfl, by simp⟩
  obtain ⟨g', e, hr⟩ := key (ro h)
  rw [ro_length] at hr
  have := S_bucket_Point_tidy e (canon_pat (b := h.length) (by rw [ro_length]; omega) (by rw [ro_length]; exact hr) (by simp))
  rw [this, ro_length]
  simp [hr]

theorem bucket_Put_range {k : Int} {s : List UInt8} {n : Int} {h : Heap} (hs : s.length < 9223372036854775807) (hk : k < 0 ∨ 7 ≤ k) : S_bucket_Put [.c (.i .i64 k), .a [.s s, .i .i64 n]] h = some (.t [.a [.i .i64 0, .ns], .c (.i .i64 2)], h) := by
  have key : ∀ g, ∃ g', R_bucket_Put 0 [.c (.i .i64 k), .a [.s s, .i .i64 n]] g = some (.t [.a [.i .i64 0, .ns], .c (.i .i64 2)], g') := by
    intro g
    have hW := fun h => bucket_written_eq (s := s) (n := n) (h := h) hs
    have hL := fun x h => bucket_laid_range (x := x) (h := h) hk
    rw [R_bucket_Put_eq]
    by_cases c1 : 0 ≤ k
    · have c2 : ¬ k < 7 := by omega
      exact ⟨_, by simp only [afAddr_p, List.append_nil, if_true, if_false, bnd_some, mp_some, cnd_t, cnd_f, gd_no, gd_tt, gd_tf, gd_ft, gd_ff, alenS_s, alen_sl, alen_ns, abin_add, abin_sub, abin_mul, abin_eql, abin_neq, abin_lss, abin_leq, abin_gtr, abin_geq, abin_seql, abin_sneq, abin_slss, aun_not, aun_neg, agn_some, aeqN_nf, aeqN_f, aeqN_np, aeqN_p, anilc_p, aeqB_t, aeqB_f, aconv_i, apick_b, cond_true, cond_false, decide_true, decide_false, Bool.not_true, Bool.not_false, aext_t, ofPart_c, ofPart_a, part?_c, part?_a, cells?_c, cells?_a, tupN_2, tupN_3, Option.map_some, Option.some.injEq, List.getElem?_cons_zero, List.getElem?_cons_succ, not_true_eq_false, not_false_eq_true, quiet_same, bytesI_length, Option.join_some, List.append_assoc, List.cons_append, List.nil_append, List.length_append, List.length_cons, List.length_nil, Nat.zero_add, Nat.add_zero, rd_at, rd_at0, set_at, set_at0, List.set_cons_zero, List.set_cons_succ, ne_eq, decide_not, quiet_ext, newOk_some, List.cons_prefix_cons, List.nil_prefix, List.drop_succ_cons, List.drop_zero, List.all_cons, List.all_nil, Bool.and_true, true_and, and_true, aloadN_at, aloadN_at0, aload1_at, aload1_at0, astoreN_at, astoreN_at0, astore1_at, astore1_at0, aslA_at, aslA_at0, ldN_all, ld1_row, stN_all, st1_row, slr_all, Nat.reduceAdd, Nat.reduceMul, Nat.reduceLT, c1, c2, hW, hL] <;> rfl⟩
    · exact ⟨_, by simp only [afAddr_p, List.append_nil, if_true, if_false, bnd_some, mp_some, cnd_t, cnd_f, gd_no, gd_tt, gd_tf, gd_ft, gd_ff, alenS_s, alen_sl, alen_ns, abin_add, abin_sub, abin_mul, abin_eql, abin_neq, abin_lss, abin_leq, abin_gtr, abin_geq, abin_seql, abin_sneq, abin_slss, aun_not, aun_neg, agn_some, aeqN_nf, aeqN_f, aeqN_np, aeqN_p, anilc_p, aeqB_t, aeqB_f, aconv_i, apick_b, cond_true, cond_false, decide_true, decide_false, Bool.not_true, Bool.not_false, aext_t, ofPart_c, ofPart_a, part?_c, part?_a, cells?_c, cells?_a, tupN_2, tupN_3, Option.map_some, Option.some.injEq, List.getElem?_cons_zero, List.getElem?_cons_succ, not_true_eq_false, not_false_eq_true, quiet_same, bytesI_length, Option.join_some, List.append_assoc, List.cons_append, List.nil_append, List.length_append, List.length_cons, List.length_nil, Nat.zero_add, Nat.add_zero, rd_at, rd_at0, set_at, set_at0, List.set_cons_zero, List.set_cons_succ, ne_eq, decide_not, quiet_ext, newOk_some, List.cons_prefix_cons, List.nil_prefix, List.drop_succ_cons, List.drop_zero, List.all_cons, List.all_nil, Bool.and_true, true_and, and_true, aloadN_at, aloadN_at0, aload1_at, aload1_at0, astoreN_at, astoreN_at0, astore1_at, astore1_at0, aslA_at, aslA_at0, ldN_all, ld1_row, stN_all, st1_row, slr_all, Nat.reduceAdd, Nat.reduceMul, Nat.reduceLT, c1, hW, hL] <;> rfl⟩
  obtain ⟨g', e⟩ := key (ro h)
  exact S_bucket_Put_flat e rfl

theorem bucket_Put_bad {k : Nat} {s : List UInt8} {n : Int} {h : Heap} (hs : s.length < 9223372036854775807) (hk : k < 7) (hm : mayE s n = false) : S_bucket_Put [.c (.i .i64 (k : Int)), .a [.s s, .i .i64 n]] h = some (.t [.a [.i .i64 0, .ns], .c (.i .i64 1)], h) := by
  have key : ∀ g, ∃ g', R_bucket_Put 0 [.c (.i .i64 (k : Int)), .a [.s s, .i .i64 n]] g = some (.t [.a [.i .i64 0, .ns], .c (.i .i64 1)], g') := by
    intro g
    have c1 : 0 ≤ (k : Int) := by omega
    have c2 : (k : Int) < 7 := by omega
    have hM := fun h => bucket_may_eq (s := s) (n := n) (h := h) hs
    rw [hm] at hM
    rw [R_bucket_Put_eq]
    exact ⟨_, by simp only [afAddr_p, List.append_nil, if_true, if_false, bnd_some, mp_some, cnd_t, cnd_f, gd_no, gd_tt, gd_tf, gd_ft, gd_ff, alenS_s, alen_sl, alen_ns, abin_add, abin_sub, abin_mul, abin_eql, abin_neq, abin_lss, abin_leq, abin_gtr, abin_geq, abin_seql, abin_sneq, abin_slss, aun_not, aun_neg, agn_some, aeqN_nf, aeqN_f, aeqN_np, aeqN_p, anilc_p, aeqB_t, aeqB_f, aconv_i, apick_b, cond_true, cond_false, decide_true, decide_false, Bool.not_true, Bool.not_false, aext_t, ofPart_c, ofPart_a, part?_c, part?_a, cells?_c, cells?_a, tupN_2, tupN_3, Option.map_some, Option.some.injEq, List.getElem?_cons_zero, List.getElem?_cons_succ, not_true_eq_false, not_false_eq_true, quiet_same, bytesI_length, Option.join_some, List.append_assoc, List.cons_append, List.nil_append, List.length_append, List.length_cons, List.length_nil, Nat.zero_add, Nat.add_zero, rd_at, rd_at0, set_at, set_at0, List.set_cons_zero, List.set_cons_succ, ne_eq, decide_not, quiet_ext, newOk_some, List.cons_prefix_cons, List.nil_prefix, List.drop_succ_cons, List.drop_zero, List.all_cons, List.all_nil, Bool.and_true, true_and, and_true, aloadN_at, aloadN_at0, aload1_at, aload1_at0, astoreN_at, astoreN_at0, astore1_at, astore1_at0, aslA_at, aslA_at0, ldN_all, ld1_row, stN_all, st1_row, slr_all, Nat.reduceAdd, Nat.reduceMul, Nat.reduceLT, c1, c2, hM, ef_pat0] <;> rfl⟩
  obtain ⟨g', e⟩ := key (ro h)
  exact S_bucket_Put_flat e rfl

theorem bucket_Put_in {k : Nat} {s : List UInt8} {n : Int} {h : Heap} (hs : s.length < 9223372036854775807) (hk : k < 7) (hm : mayE s n = true) : S_bucket_Put [.c (.i .i64 (k : Int)), .a [.s s, .i .i64 n]] h = some (.t [.a [.i .i64 (slotA k : Nat), .sl h.length 0 32 1], .c (.i .i64 0)], h ++ [some ⟨encB (entB s n), true⟩]) := by
  have key : ∀ g, ∃ g', R_bucket_Put 0 [.c (.i .i64 (k : Int)), .a [.s s, .i .i64 n]] g = some (.t [.a [.i .i64 (slotA k : Nat), .sl (g.length + 2) 0 32 1], .c (.i .i64 0)], g') ∧ rd g' (g.length + 2) = some ⟨encB (entB s n), true⟩ := by
    intro g
    have c1 : 0 ≤ (k : Int) := by omega
    have c2 : (k : Int) < 7 := by omega
    have hM := fun h => bucket_may_eq (s := s) (n := n) (h := h) hs
    rw [hm] at hM
    have hW := fun h => bucket_written_eq (s := s) (n := n) (h := h) hs
    have hL := bucket_laid_in (k := k) (id := g.length + 2) (n := 32) (h := g ++ [some (Row.mk [.s s, .i .i64 n] true), some (Row.mk [.i .i64 0, .ns] true), some (Row.mk (encB (entB s n)) true)]) hk (by simp)
    rw [R_bucket_Put_eq]
    generalize entB s n = E at *
    exact ⟨_, by simp only [afAddr_p, List.append_nil, if_true, if_false, bnd_some, mp_some, cnd_t, cnd_f, gd_no, gd_tt, gd_tf, gd_ft, gd_ff, alenS_s, alen_sl, alen_ns, abin_add, abin_sub, abin_mul, abin_eql, abin_neq, abin_lss, abin_leq, abin_gtr, abin_geq, abin_seql, abin_sneq, abin_slss, aun_not, aun_neg, agn_some, aeqN_nf, aeqN_f, aeqN_np, aeqN_p, anilc_p, aeqB_t, aeqB_f, aconv_i, apick_b, cond_true, cond_false, decide_true, decide_false, Bool.not_true, Bool.not_false, aext_t, ofPart_c, ofPart_a, part?_c, part?_a, cells?_c, cells?_a, tupN_2, tupN_3, Option.map_some, Option.some.injEq, List.getElem?_cons_zero, List.getElem?_cons_succ, not_true_eq_false, not_false_eq_true, quiet_same, bytesI_length, Option.join_some, List.append_assoc, List.cons_append, List.nil_append, List.length_append, List.length_cons, List.length_nil, Nat.zero_add, Nat.add_zero, rd_at, rd_at0, set_at, set_at0, List.set_cons_zero, List.set_cons_succ, ne_eq, decide_not, quiet_ext, newOk_some, List.cons_prefix_cons, List.nil_prefix, List.drop_succ_cons, List.drop_zero, List.all_cons, List.all_nil, Bool.and_true, true_and, and_true, aloadN_at, aloadN_at0, aload1_at, aload1_at0, astoreN_at, astoreN_at0, astore1_at, astore1_at0, aslA_at, aslA_at0, ldN_all, ld1_row, stN_all, st1_row, slr_all, Nat.reduceAdd, Nat.reduceMul, Nat.reduceLT, c1, c2, hM, hW, hL] <;> rfl, by simp⟩
  obtain ⟨g', e, hr⟩ := key (ro h)
  rw [ro_length] at hr
  have := S_bucket_Put_tidy e (canon_pat (b := h.length) (by rw [ro_length]; omega) (by rw [ro_length]; exact hr) (by simp))
  rw [this, ro_length]
  simp [hr]

end Go.Proofs.Ytbbkpmbepljhkaa
