/- A block with an inode in a place, and which places are free. -/
import Derived.Test.YtbbkpmbepljhkaaSTable
set_option linter.all false
namespace Go.Proofs.Ytbbkpmbepljhkaa
open Go Go.Esc

theorem table_With_range {j : Int} {cs : List Cell} {b : List UInt8} {h : Heap} (hb : b.length = 256) (hc : cs.length = 11) (hj : j < 0 ∨ 8 ≤ j) :
    S_table_With [.a (encB b), .c (.i .i64 j), .a cs] h = some (.t [.a (encB b), .c (.i .i64 2)], h) := by
  have key : ∀ g, ∃ g', R_table_With 0 [.a (encB b), .c (.i .i64 j), .a cs] g = some (.t [.a (encB b), .c (.i .i64 2)], g') := by
    intro g
    have hB : (encB b).length = 256 := by rw [encB_length, hb]
    have hz : (List.replicate 256 (Cell.i .u8 0)).length = 256 := List.length_replicate
    have hP := fun h => table_Patch_range (cs := cs) (h := h) hj
    rw [R_table_With_eq]
    generalize List.replicate 256 (Cell.i .u8 0) = z at *
    exact ⟨_, by simp only [afAddr_p, List.append_nil, if_true, if_false, bnd_some, mp_some, cnd_t, cnd_f, gd_no, gd_tt, gd_tf, gd_ft, gd_ff, alenS_s, alen_sl, alen_ns, abin_add, abin_sub, abin_mul, abin_eql, abin_neq, abin_lss, abin_leq, abin_gtr, abin_geq, abin_seql, abin_sneq, abin_slss, aun_not, aun_neg, aeqB_t, aeqB_f, aconv_i, apick_b, cond_true, cond_false, decide_true, decide_false, Bool.not_true, Bool.not_false, aext_t, ofPart_c, ofPart_a, part?_c, part?_a, cells?_c, cells?_a, tupN_2, tupN_3, Option.map_some, Option.some.injEq, List.getElem?_cons_zero, List.getElem?_cons_succ, not_true_eq_false, not_false_eq_true, quiet_same, bytesI_length, Option.join_some, List.append_assoc, List.cons_append, List.nil_append, List.length_append, List.length_cons, List.length_nil, Nat.zero_add, Nat.add_zero, rd_at, rd_at0, set_at, set_at0, List.set_cons_zero, List.set_cons_succ, ne_eq, decide_not, quiet_ext, newOk_some, List.cons_prefix_cons, List.nil_prefix, List.drop_succ_cons, List.drop_zero, List.all_cons, List.all_nil, Bool.and_true, true_and, and_true, aloadN_at, aloadN_at0, aload1_at, aload1_at0, astoreN_at, astoreN_at0, astore1_at, astore1_at0, aslA_at, aslA_at0, ldN_all, ld1_row, stN_all, st1_row, slr_all, Nat.reduceAdd, Nat.reduceMul, Nat.reduceLT, hB, hc, hz, hP, Int.reduceEq] <;> rfl⟩
  obtain ⟨g', e⟩ := key (ro h)
  exact S_table_With_flat e (by simp)

theorem table_With_may {j k l s p : Int} {d : List Int} {b : List UInt8} {h : Heap} (hb : b.length = 256) (hd : d.length = 7) (h0 : 0 ≤ j) (h8 : j < 8) (c : mayI k l s p d = false) :
    S_table_With [.a (encB b), .c (.i .i64 j), .a (inoC k l s p d)] h = some (.t [.a (encB b), .c (.i .i64 1)], h) := by
  have key : ∀ g, ∃ g', R_table_With 0 [.a (encB b), .c (.i .i64 j), .a (inoC k l s p d)] g = some (.t [.a (encB b), .c (.i .i64 1)], g') := by
    intro g
    have hB : (encB b).length = 256 := by rw [encB_length, hb]
    have hE : (encI d).length = 7 := by rw [encI_length, hd]
    have hz : (List.replicate 256 (Cell.i .u8 0)).length = 256 := List.length_replicate
    have hP := fun h => table_Patch_may (h := h) hd h0 h8 c
    rw [R_table_With_eq]
    generalize List.replicate 256 (Cell.i .u8 0) = z at *
    exact ⟨_, by simp only [afAddr_p, List.append_nil, if_true, if_false, bnd_some, mp_some, cnd_t, cnd_f, gd_no, gd_tt, gd_tf, gd_ft, gd_ff, alenS_s, alen_sl, alen_ns, abin_add, abin_sub, abin_mul, abin_eql, abin_neq, abin_lss, abin_leq, abin_gtr, abin_geq, abin_seql, abin_sneq, abin_slss, aun_not, aun_neg, aeqB_t, aeqB_f, aconv_i, apick_b, cond_true, cond_false, decide_true, decide_false, Bool.not_true, Bool.not_false, aext_t, ofPart_c, ofPart_a, part?_c, part?_a, cells?_c, cells?_a, tupN_2, tupN_3, Option.map_some, Option.some.injEq, List.getElem?_cons_zero, List.getElem?_cons_succ, not_true_eq_false, not_false_eq_true, quiet_same, bytesI_length, Option.join_some, List.append_assoc, List.cons_append, List.nil_append, List.length_append, List.length_cons, List.length_nil, Nat.zero_add, Nat.add_zero, rd_at, rd_at0, set_at, set_at0, List.set_cons_zero, List.set_cons_succ, ne_eq, decide_not, quiet_ext, newOk_some, List.cons_prefix_cons, List.nil_prefix, List.drop_succ_cons, List.drop_zero, List.all_cons, List.all_nil, Bool.and_true, true_and, and_true, aloadN_at, aloadN_at0, aload1_at, aload1_at0, astoreN_at, astoreN_at0, astore1_at, astore1_at0, aslA_at, aslA_at0, ldN_all, ld1_row, stN_all, st1_row, slr_all, Nat.reduceAdd, Nat.reduceMul, Nat.reduceLT, hB, hE, hz, hP, Int.reduceEq] <;> rfl⟩
  obtain ⟨g', e⟩ := key (ro h)
  exact S_table_With_flat e (by simp)

theorem table_With_ok {j : Nat} {k l s p : Int} {d : List Int} {b : List UInt8} {h : Heap} (hb : b.length = 256) (hd : d.length = 7) (h8 : j < 8) (c : mayI k l s p d = true) :
    S_table_With [.a (encB b), .c (.i .i64 j), .a (inoC k l s p d)] h = some (.t [.a (encB (layB b (32 * j) (inoB k l s p d))), .c (.i .i64 0)], h) := by
  have key : ∀ g, ∃ g', R_table_With 0 [.a (encB b), .c (.i .i64 j), .a (inoC k l s p d)] g = some (.t [.a (encB (layB b (32 * j) (inoB k l s p d))), .c (.i .i64 0)], g') := by
    intro g
    have hB : (encB b).length = 256 := by rw [encB_length, hb]
    have hE : (encI d).length = 7 := by rw [encI_length, hd]
    have hI : (encB (inoB k l s p d)).length = 32 := by rw [encB_length, inoB_length hd]
    have hz : (List.replicate 256 (Cell.i .u8 0)).length = 256 := List.length_replicate
    have hP := fun h => table_Patch_ok (h := h) hd h8 c
    rw [R_table_With_eq]
    generalize List.replicate 256 (Cell.i .u8 0) = z at *
    have hL := patch_Lay_eq (h := g ++ [some (Row.mk (encB b) true), some (Row.mk (inoC k l s p d) true), some (Row.mk z true), some (Row.mk (encB (inoB k l s p d)) true), some (Row.mk [.i .i64 ((32 * j : Nat) : Int), .sl (g.length + 3) 0 32 1] true)]) (x := .sl (g.length + 3) 0 32 1) (n := 32) (a := 32 * j) (data := inoB k l s p d) (l := b) (Has.tr (by simp) (by rw [hI]) (noX_encB _)) (by omega) (by omega) hb
    have hR : (encB (layB b (32 * j) (inoB k l s p d))).length = 256 := by rw [encB_length, layB_length (by rw [inoB_length hd]; omega), hb]
    exact ⟨_, by simp only [afAddr_p, List.append_nil, if_true, if_false, bnd_some, mp_some, cnd_t, cnd_f, gd_no, gd_tt, gd_tf, gd_ft, gd_ff, alenS_s, alen_sl, alen_ns, abin_add, abin_sub, abin_mul, abin_eql, abin_neq, abin_lss, abin_leq, abin_gtr, abin_geq, abin_seql, abin_sneq, abin_slss, aun_not, aun_neg, aeqB_t, aeqB_f, aconv_i, apick_b, cond_true, cond_false, decide_true, decide_false, Bool.not_true, Bool.not_false, aext_t, ofPart_c, ofPart_a, part?_c, part?_a, cells?_c, cells?_a, tupN_2, tupN_3, Option.map_some, Option.some.injEq, List.getElem?_cons_zero, List.getElem?_cons_succ, not_true_eq_false, not_false_eq_true, quiet_same, bytesI_length, Option.join_some, List.append_assoc, List.cons_append, List.nil_append, List.length_append, List.length_cons, List.length_nil, Nat.zero_add, Nat.add_zero, rd_at, rd_at0, set_at, set_at0, List.set_cons_zero, List.set_cons_succ, ne_eq, decide_not, quiet_ext, newOk_some, List.cons_prefix_cons, List.nil_prefix, List.drop_succ_cons, List.drop_zero, List.all_cons, List.all_nil, Bool.and_true, true_and, and_true, aloadN_at, aloadN_at0, aload1_at, aload1_at0, astoreN_at, astoreN_at0, astore1_at, astore1_at0, aslA_at, aslA_at0, ldN_all, ld1_row, stN_all, st1_row, slr_all, Nat.reduceAdd, Nat.reduceMul, Nat.reduceLT, hB, hE, hz, hP, hL, hR] <;> rfl⟩
  obtain ⟨g', e⟩ := key (ro h)
  exact S_table_With_flat e (by simp)

/-! ### The bytes of a place -/

def rawT (b : List UInt8) (j : Nat) : List UInt8 := (b.drop (32 * j)).take 32
theorem rawT_length {b : List UInt8} {j : Nat} (hb : b.length = 256) (hj : j < 8) : (rawT b j).length = 32 := by unfold rawT; simp; omega

theorem raw_loop {g : Heap} {b : List UInt8} {z : List Cell} {j q : Nat} (hb : b.length = 256) (hz : z.length = 32) (hj : j < 8) : ∀ e i m : Nat, i + e = 32 → e < m →
    table_Raw_l0 q m (.c (.i .i64 j)) (.c (.p g.length 0)) (.c (.p (g.length + 1) 0)) (.c (.p (g.length + 2) 0)) (.c (.i .i64 i)) (g ++ [some ⟨encB b, true⟩, some ⟨z, true⟩, some ⟨encB ((rawT b j).take i ++ zeros (32 - i)), true⟩]) =
      some (.a (encB (rawT b j)), g ++ [some ⟨encB b, true⟩, some ⟨encB (rawT b j), true⟩, some ⟨encB (rawT b j), true⟩])
  | e, i, 0, _, hm => by omega
  | 0, i, m + 1, hi, hm => by
    have e0 : i = 32 := by omega
    subst e0
    have h1' : ¬ ((32 : Nat) : Int) < 32 := by omega
    have hR := rawT_length hb hj
    have hl : (encB (rawT b j)).length = 32 := by rw [encB_length, hR]
    have e1 : encB ((rawT b j).take 32 ++ zeros (32 - 32)) = encB (rawT b j) := by rw [List.take_of_length_le (by omega)]; simp [zeros]
    rw [table_Raw_l0_eq, e1]
    simp only [afAddr_p, List.append_nil, if_true, if_false, bnd_some, mp_some, cnd_t, cnd_f, gd_no, gd_tt, gd_tf, gd_ft, gd_ff, alenS_s, alen_sl, alen_ns, abin_add, abin_sub, abin_mul, abin_eql, abin_neq, abin_lss, abin_leq, abin_gtr, abin_geq, abin_seql, abin_sneq, abin_slss, aun_not, aun_neg, aeqB_t, aeqB_f, aconv_i, apick_b, cond_true, cond_false, decide_true, decide_false, Bool.not_true, Bool.not_false, aext_t, ofPart_c, ofPart_a, part?_c, part?_a, cells?_c, cells?_a, tupN_2, tupN_3, Option.map_some, Option.some.injEq, List.getElem?_cons_zero, List.getElem?_cons_succ, not_true_eq_false, not_false_eq_true, quiet_same, bytesI_length, Option.join_some, List.append_assoc, List.cons_append, List.nil_append, List.length_append, List.length_cons, List.length_nil, Nat.zero_add, Nat.add_zero, rd_at, rd_at0, set_at, set_at0, List.set_cons_zero, List.set_cons_succ, ne_eq, decide_not, quiet_ext, newOk_some, List.cons_prefix_cons, List.nil_prefix, List.drop_succ_cons, List.drop_zero, List.all_cons, List.all_nil, Bool.and_true, true_and, and_true, aloadN_at, aloadN_at0, aload1_at, aload1_at0, astoreN_at, astoreN_at0, astore1_at, astore1_at0, aslA_at, aslA_at0, ldN_all, ld1_row, stN_all, st1_row, slr_all, Nat.reduceAdd, Nat.reduceMul, Nat.reduceLT, h1', hl, hz]
  | e + 1, i, m + 1, hi, hm => by
    have ih := raw_loop (g := g) (q := q) hb hz hj e (i + 1) m (by omega) (by omega)
    have hR := rawT_length hb hj
    have h1' : (i : Int) < 32 := by omega
    have w1 : IntKind.wrap .i64 ((j : Int) * 32) = ((32 * j : Nat) : Int) := by rw [wrap_i64 (by omega) (by omega)]; omega
    have a1 : aiAddrA 256 1 (.c (.p g.length 0)) (.c (.i .i64 ((32 * j + i : Nat) : Int))) = some (.c (.p g.length (32 * j + i))) := by rw [iAddrA_of (by omega)]; simp
    have a2 : aiAddrA 32 1 (.c (.p (g.length + 2) 0)) (.c (.i .i64 (i : Int))) = some (.c (.p (g.length + 2) i)) := by rw [iAddrA_of (by omega)]; simp
    have l1 : (encB b)[32 * j + i]? = some (.i .u8 (rawT b j)[i].toNat) := by
      rw [encB_get, List.getElem?_eq_getElem (by omega)]
      have : (rawT b j)[i] = b[32 * j + i]'(by omega) := by simp [rawT]
      rw [this]; rfl
    have ho : i < (encB ((rawT b j).take i ++ zeros (32 - i))).length := by rw [encB_length, List.length_append, zeros_length, List.length_take]; omega
    have es : (encB ((rawT b j).take i ++ zeros (32 - i))).set i (.i .u8 (rawT b j)[i].toNat) = encB ((rawT b j).take (i + 1) ++ zeros (32 - (i + 1))) := by
      rw [encB_set]
      refine congrArg encB ?_
      have h6 : ((rawT b j).take i).length = i := by simp; omega
      rw [List.set_append_right _ _ (by omega), h6, Nat.sub_self, List.take_succ_eq_append_getElem (by omega), List.append_assoc]
      refine congrArg ((rawT b j).take i ++ ·) ?_
      rw [show 32 - i = 32 - (i + 1) + 1 by omega]
      unfold zeros
      rw [List.replicate_succ, List.set_cons_zero]; rfl
    rw [table_Raw_l0_eq]
    simp only [afAddr_p, List.append_nil, if_true, if_false, bnd_some, mp_some, cnd_t, cnd_f, gd_no, gd_tt, gd_tf, gd_ft, gd_ff, alenS_s, alen_sl, alen_ns, abin_add, abin_sub, abin_mul, abin_eql, abin_neq, abin_lss, abin_leq, abin_gtr, abin_geq, abin_seql, abin_sneq, abin_slss, aun_not, aun_neg, aeqB_t, aeqB_f, aconv_i, apick_b, cond_true, cond_false, decide_true, decide_false, Bool.not_true, Bool.not_false, aext_t, ofPart_c, ofPart_a, part?_c, part?_a, cells?_c, cells?_a, tupN_2, tupN_3, Option.map_some, Option.some.injEq, List.getElem?_cons_zero, List.getElem?_cons_succ, not_true_eq_false, not_false_eq_true, quiet_same, bytesI_length, Option.join_some, List.append_assoc, List.cons_append, List.nil_append, List.length_append, List.length_cons, List.length_nil, Nat.zero_add, Nat.add_zero, rd_at, rd_at0, set_at, set_at0, List.set_cons_zero, List.set_cons_succ, ne_eq, decide_not, quiet_ext, newOk_some, List.cons_prefix_cons, List.nil_prefix, List.drop_succ_cons, List.drop_zero, List.all_cons, List.all_nil, Bool.and_true, true_and, and_true, aloadN_at, aloadN_at0, aload1_at, aload1_at0, astoreN_at, astoreN_at0, astore1_at, astore1_at0, aslA_at, aslA_at0, ldN_all, ld1_row, stN_all, st1_row, slr_all, Nat.reduceAdd, Nat.reduceMul, Nat.reduceLT, h1', w1, wi_add (show 32 * j + i < 9223372036854775808 by omega), a1, a2, l1, ho, es, wi_succ (show i + 1 < 9223372036854775808 by omega)]
    exact ih

theorem table_Raw_eq {b : List UInt8} {j : Nat} {h : Heap} (hb : b.length = 256) (hj : j < 8) : S_table_Raw [.a (encB b), .c (.i .i64 j)] h = some (.a (encB (rawT b j)), h) := by
  have key : ∀ N, 32 < N → ∀ g, ∃ g', R_table_Raw N [.a (encB b), .c (.i .i64 j)] g = some (.a (encB (rawT b j)), g') := by
    intro N hN g
    have c1 : ¬ (j : Int) < 0 := by omega
    have c2 : ¬ (8 : Int) ≤ j := by omega
    have hz : (encB (zeros 32)).length = 32 := by rw [encB_length]; exact zeros_length
    have e := raw_loop (g := g) (z := encB (zeros 32)) (q := N) hb hz hj 32 0 N (by omega) (by omega)
    simp only [List.take_zero, List.nil_append, Nat.sub_zero] at e
    rw [R_table_Raw_eq, zeros_enc]
    generalize zeros 32 = zz at *
    exact ⟨_, by simp only [afAddr_p, List.append_nil, if_true, if_false, bnd_some, mp_some, cnd_t, cnd_f, gd_no, gd_tt, gd_tf, gd_ft, gd_ff, alenS_s, alen_sl, alen_ns, abin_add, abin_sub, abin_mul, abin_eql, abin_neq, abin_lss, abin_leq, abin_gtr, abin_geq, abin_seql, abin_sneq, abin_slss, aun_not, aun_neg, aeqB_t, aeqB_f, aconv_i, apick_b, cond_true, cond_false, decide_true, decide_false, Bool.not_true, Bool.not_false, aext_t, ofPart_c, ofPart_a, part?_c, part?_a, cells?_c, cells?_a, tupN_2, tupN_3, Option.map_some, Option.some.injEq, List.getElem?_cons_zero, List.getElem?_cons_succ, not_true_eq_false, not_false_eq_true, quiet_same, bytesI_length, Option.join_some, List.append_assoc, List.cons_append, List.nil_append, List.length_append, List.length_cons, List.length_nil, Nat.zero_add, Nat.add_zero, rd_at, rd_at0, set_at, set_at0, List.set_cons_zero, List.set_cons_succ, ne_eq, decide_not, quiet_ext, newOk_some, List.cons_prefix_cons, List.nil_prefix, List.drop_succ_cons, List.drop_zero, List.all_cons, List.all_nil, Bool.and_true, true_and, and_true, aloadN_at, aloadN_at0, aload1_at, aload1_at0, astoreN_at, astoreN_at0, astore1_at, astore1_at0, aslA_at, aslA_at0, ldN_all, ld1_row, stN_all, st1_row, slr_all, Nat.reduceAdd, Nat.reduceMul, Nat.reduceLT, c1, c2]; exact e⟩
  obtain ⟨g', e⟩ := key (h.length + 33) (by omega) (ro h)
  exact S_table_Raw_flat e (by simp)

/-! ### Which places are free -/

def freeT (b : List UInt8) : Nat → Nat → Int × Bool
  | 0, _ => (0, false)
  | e + 1, i => if rawT b i = zeros 32 then ((i : Int), true) else freeT b e (i + 1)

theorem free_loop {g : Heap} {b : List UInt8} {q : Nat} (hb : b.length = 256) : ∀ e i m : Nat, i + e = 8 → e < m →
    table_Free_l0 q m (.c (.p g.length 0)) (.c (.i .i64 i)) (g ++ [some ⟨encB b, true⟩]) = some (.t [.c (.i .i64 (freeT b e i).1), .c (.b (freeT b e i).2)], g ++ [some ⟨encB b, true⟩])
  | e, i, 0, _, hm => by omega
  | 0, i, m + 1, hi, hm => by
    have c0 : ¬ (i : Int) < 8 := by omega
    rw [table_Free_l0_eq]
    simp only [afAddr_p, List.append_nil, if_true, if_false, bnd_some, mp_some, cnd_t, cnd_f, gd_no, gd_tt, gd_tf, gd_ft, gd_ff, alenS_s, alen_sl, alen_ns, abin_add, abin_sub, abin_mul, abin_eql, abin_neq, abin_lss, abin_leq, abin_gtr, abin_geq, abin_seql, abin_sneq, abin_slss, aun_not, aun_neg, aeqB_t, aeqB_f, aconv_i, apick_b, cond_true, cond_false, decide_true, decide_false, Bool.not_true, Bool.not_false, aext_t, ofPart_c, ofPart_a, part?_c, part?_a, cells?_c, cells?_a, tupN_2, tupN_3, Option.map_some, Option.some.injEq, List.getElem?_cons_zero, List.getElem?_cons_succ, not_true_eq_false, not_false_eq_true, quiet_same, bytesI_length, Option.join_some, List.append_assoc, List.cons_append, List.nil_append, List.length_append, List.length_cons, List.length_nil, Nat.zero_add, Nat.add_zero, rd_at, rd_at0, set_at, set_at0, List.set_cons_zero, List.set_cons_succ, ne_eq, decide_not, quiet_ext, newOk_some, List.cons_prefix_cons, List.nil_prefix, List.drop_succ_cons, List.drop_zero, List.all_cons, List.all_nil, Bool.and_true, true_and, and_true, aloadN_at, aloadN_at0, aload1_at, aload1_at0, astoreN_at, astoreN_at0, astore1_at, astore1_at0, aslA_at, aslA_at0, ldN_all, ld1_row, stN_all, st1_row, slr_all, Nat.reduceAdd, Nat.reduceMul, Nat.reduceLT, c0, freeT]
  | e + 1, i, m + 1, hi, hm => by
    have ih := free_loop (g := g) (q := q) hb e (i + 1) m (by omega) (by omega)
    have c0 : (i : Int) < 8 := by omega
    have hB : (encB b).length = 256 := by rw [encB_length, hb]
    have hR := fun h => table_Raw_eq (h := h) hb (show i < 8 by omega)
    have haf : afill (List.replicate 32 (Cell.i .u8 0)) [] = some (List.replicate 32 (Cell.i .u8 0)) := rfl
    have hq := aeq_f (l := rawT b i) (m := zeros 32) (n := 32) (rawT_length hb (by omega)) zeros_length
    rw [zeros_enc] at haf
    rw [table_Free_l0_eq, zeros_enc]
    unfold freeT
    generalize zeros 32 = z at *
    by_cases c : rawT b i = z
    · rw [decide_eq_true c] at hq
      rw [if_pos c]
      simp only [afAddr_p, List.append_nil, if_true, if_false, bnd_some, mp_some, cnd_t, cnd_f, gd_no, gd_tt, gd_tf, gd_ft, gd_ff, alenS_s, alen_sl, alen_ns, abin_add, abin_sub, abin_mul, abin_eql, abin_neq, abin_lss, abin_leq, abin_gtr, abin_geq, abin_seql, abin_sneq, abin_slss, aun_not, aun_neg, aeqB_t, aeqB_f, aconv_i, apick_b, cond_true, cond_false, decide_true, decide_false, Bool.not_true, Bool.not_false, aext_t, ofPart_c, ofPart_a, part?_c, part?_a, cells?_c, cells?_a, tupN_2, tupN_3, Option.map_some, Option.some.injEq, List.getElem?_cons_zero, List.getElem?_cons_succ, not_true_eq_false, not_false_eq_true, quiet_same, bytesI_length, Option.join_some, List.append_assoc, List.cons_append, List.nil_append, List.length_append, List.length_cons, List.length_nil, Nat.zero_add, Nat.add_zero, rd_at, rd_at0, set_at, set_at0, List.set_cons_zero, List.set_cons_succ, ne_eq, decide_not, quiet_ext, newOk_some, List.cons_prefix_cons, List.nil_prefix, List.drop_succ_cons, List.drop_zero, List.all_cons, List.all_nil, Bool.and_true, true_and, and_true, aloadN_at, aloadN_at0, aload1_at, aload1_at0, astoreN_at, astoreN_at0, astore1_at, astore1_at0, aslA_at, aslA_at0, ldN_all, ld1_row, stN_all, st1_row, slr_all, Nat.reduceAdd, Nat.reduceMul, Nat.reduceLT, c0, hB, hR, haf, hq]
    · rw [decide_eq_false c] at hq
      rw [if_neg c]
      simp only [afAddr_p, List.append_nil, if_true, if_false, bnd_some, mp_some, cnd_t, cnd_f, gd_no, gd_tt, gd_tf, gd_ft, gd_ff, alenS_s, alen_sl, alen_ns, abin_add, abin_sub, abin_mul, abin_eql, abin_neq, abin_lss, abin_leq, abin_gtr, abin_geq, abin_seql, abin_sneq, abin_slss, aun_not, aun_neg, aeqB_t, aeqB_f, aconv_i, apick_b, cond_true, cond_false, decide_true, decide_false, Bool.not_true, Bool.not_false, aext_t, ofPart_c, ofPart_a, part?_c, part?_a, cells?_c, cells?_a, tupN_2, tupN_3, Option.map_some, Option.some.injEq, List.getElem?_cons_zero, List.getElem?_cons_succ, not_true_eq_false, not_false_eq_true, quiet_same, bytesI_length, Option.join_some, List.append_assoc, List.cons_append, List.nil_append, List.length_append, List.length_cons, List.length_nil, Nat.zero_add, Nat.add_zero, rd_at, rd_at0, set_at, set_at0, List.set_cons_zero, List.set_cons_succ, ne_eq, decide_not, quiet_ext, newOk_some, List.cons_prefix_cons, List.nil_prefix, List.drop_succ_cons, List.drop_zero, List.all_cons, List.all_nil, Bool.and_true, true_and, and_true, aloadN_at, aloadN_at0, aload1_at, aload1_at0, astoreN_at, astoreN_at0, astore1_at, astore1_at0, aslA_at, aslA_at0, ldN_all, ld1_row, stN_all, st1_row, slr_all, Nat.reduceAdd, Nat.reduceMul, Nat.reduceLT, c0, hB, hR, haf, hq, wi_succ (show i + 1 < 9223372036854775808 by omega)]
      exact ih

theorem table_Free_eq {b : List UInt8} {h : Heap} (hb : b.length = 256) : S_table_Free [.a (encB b)] h = some (.t [.c (.i .i64 (freeT b 8 0).1), .c (.b (freeT b 8 0).2)], h) := by
  have key : ∀ N, 8 < N → ∀ g, ∃ g', R_table_Free N [.a (encB b)] g = some (.t [.c (.i .i64 (freeT b 8 0).1), .c (.b (freeT b 8 0).2)], g') := by
    intro N hN g
    rw [R_table_Free_eq]
    exact ⟨_, by simp only [afAddr_p, List.append_nil, if_true, if_false, bnd_some, mp_some, cnd_t, cnd_f, gd_no, gd_tt, gd_tf, gd_ft, gd_ff, alenS_s, alen_sl, alen_ns, abin_add, abin_sub, abin_mul, abin_eql, abin_neq, abin_lss, abin_leq, abin_gtr, abin_geq, abin_seql, abin_sneq, abin_slss, aun_not, aun_neg, aeqB_t, aeqB_f, aconv_i, apick_b, cond_true, cond_false, decide_true, decide_false, Bool.not_true, Bool.not_false, aext_t, ofPart_c, ofPart_a, part?_c, part?_a, cells?_c, cells?_a, tupN_2, tupN_3, Option.map_some, Option.some.injEq, List.getElem?_cons_zero, List.getElem?_cons_succ, not_true_eq_false, not_false_eq_true, quiet_same, bytesI_length, Option.join_some, List.append_assoc, List.cons_append, List.nil_append, List.length_append, List.length_cons, List.length_nil, Nat.zero_add, Nat.add_zero, rd_at, rd_at0, set_at, set_at0, List.set_cons_zero, List.set_cons_succ, ne_eq, decide_not, quiet_ext, newOk_some, List.cons_prefix_cons, List.nil_prefix, List.drop_succ_cons, List.drop_zero, List.all_cons, List.all_nil, Bool.and_true, true_and, and_true, aloadN_at, aloadN_at0, aload1_at, aload1_at0, astoreN_at, astoreN_at0, astore1_at, astore1_at0, aslA_at, aslA_at0, ldN_all, ld1_row, stN_all, st1_row, slr_all, Nat.reduceAdd, Nat.reduceMul, Nat.reduceLT]; exact free_loop hb 8 0 N (by omega) (by omega)⟩
  obtain ⟨g', e⟩ := key (h.length + 9) (by omega) (ro h)
  exact S_table_Free_flat e rfl

/-- The places below one that are not nought. -/
def usedT (b : List UInt8) : Nat → List Int
  | 0 => []
  | i + 1 => usedT b i ++ (if rawT b i = zeros 32 then [] else [(i : Int)])
theorem usedT_length {b : List UInt8} : ∀ i, (usedT b i).length ≤ i
  | 0 => by simp [usedT]
  | i + 1 => by
    have := usedT_length (b := b) i
    unfold usedT
    split <;> simp <;> omega

theorem used_loop {g : Heap} {b : List UInt8} {q : Nat} (hb : b.length = 256) : ∀ e i m (h : Heap) (id : Nat), i + e = 8 → e < m → Low (g ++ [some (Row.mk (encB b) true)]).length (g ++ [some (Row.mk (encB b) true)]) h → (g ++ [some (Row.mk (encB b) true)]).length ≤ id → rd h id = some ⟨encI (usedT b i), true⟩ →
    ∃ v h', table_Used_l0 q m (.c (.p g.length 0)) (.c (.sl id 0 (usedT b i).length 1)) (.c (.i .i64 i)) h = some (v, h') ∧ Out g.length h' v 1 (usedT b 8).length (encI (usedT b 8))
  | e, i, 0, h, id, _, hm, _, _, _ => by omega
  | 0, i, m + 1, h, id, hi, hm, hlow, hid, hr => by
    have e0 : i = 8 := by omega
    subst e0
    have c0 : ¬ ((8 : Nat) : Int) < 8 := by omega
    rw [List.length_append] at hid
    rw [table_Used_l0_eq]
    exact ⟨_, _, by simp only [afAddr_p, List.append_nil, if_true, if_false, bnd_some, mp_some, cnd_t, cnd_f, gd_no, gd_tt, gd_tf, gd_ft, gd_ff, alenS_s, alen_sl, alen_ns, abin_add, abin_sub, abin_mul, abin_eql, abin_neq, abin_lss, abin_leq, abin_gtr, abin_geq, abin_seql, abin_sneq, abin_slss, aun_not, aun_neg, aeqB_t, aeqB_f, aconv_i, apick_b, cond_true, cond_false, decide_true, decide_false, Bool.not_true, Bool.not_false, aext_t, ofPart_c, ofPart_a, part?_c, part?_a, cells?_c, cells?_a, tupN_2, tupN_3, Option.map_some, Option.some.injEq, List.getElem?_cons_zero, List.getElem?_cons_succ, not_true_eq_false, not_false_eq_true, quiet_same, bytesI_length, Option.join_some, List.append_assoc, List.cons_append, List.nil_append, List.length_append, List.length_cons, List.length_nil, Nat.zero_add, Nat.add_zero, rd_at, rd_at0, set_at, set_at0, List.set_cons_zero, List.set_cons_succ, ne_eq, decide_not, quiet_ext, newOk_some, List.cons_prefix_cons, List.nil_prefix, List.drop_succ_cons, List.drop_zero, List.all_cons, List.all_nil, Bool.and_true, true_and, and_true, c0] <;> rfl, by rw [encI_length]; omega, _, rfl, by omega, hr⟩
  | e + 1, i, m + 1, h, id, hi, hm, hlow, hid, hr => by
    have c0 : (i : Int) < 8 := by omega
    have hB : (encB b).length = 256 := by rw [encB_length, hb]
    have s1 := loadAll (h := h) (id := g.length) (cs := encB b) (hlow.rd (by simp)) hB
    have hR := fun h => table_Raw_eq (h := h) hb (show i < 8 by omega)
    have haf : afill (List.replicate 32 (Cell.i .u8 0)) [] = some (List.replicate 32 (Cell.i .u8 0)) := rfl
    have hq := aeq_t (l := rawT b i) (m := zeros 32) (n := 32) (rawT_length hb (by omega)) zeros_length
    have hul := usedT_length (b := b) i
    rw [zeros_enc] at haf
    rw [table_Used_l0_eq, zeros_enc]
    by_cases c : rawT b i = zeros 32
    · have hu : usedT b (i + 1) = usedT b i := by rw [usedT, if_pos c, List.append_nil]
      obtain ⟨v, h', f1, f2⟩ := used_loop (q := q) hb e (i + 1) m h id (by omega) (by omega) hlow hid (by rw [hu]; exact hr)
      rw [hu] at f1
      rw [decide_eq_true c] at hq
      generalize zeros 32 = z at *
      refine ⟨v, h', ?_, f2⟩
      simp only [afAddr_p, List.append_nil, if_true, if_false, bnd_some, mp_some, cnd_t, cnd_f, gd_no, gd_tt, gd_tf, gd_ft, gd_ff, alenS_s, alen_sl, alen_ns, abin_add, abin_sub, abin_mul, abin_eql, abin_neq, abin_lss, abin_leq, abin_gtr, abin_geq, abin_seql, abin_sneq, abin_slss, aun_not, aun_neg, aeqB_t, aeqB_f, aconv_i, apick_b, cond_true, cond_false, decide_true, decide_false, Bool.not_true, Bool.not_false, aext_t, ofPart_c, ofPart_a, part?_c, part?_a, cells?_c, cells?_a, tupN_2, tupN_3, Option.map_some, Option.some.injEq, List.getElem?_cons_zero, List.getElem?_cons_succ, not_true_eq_false, not_false_eq_true, quiet_same, bytesI_length, Option.join_some, List.append_assoc, List.cons_append, List.nil_append, List.length_append, List.length_cons, List.length_nil, Nat.zero_add, Nat.add_zero, rd_at, rd_at0, set_at, set_at0, List.set_cons_zero, List.set_cons_succ, ne_eq, decide_not, quiet_ext, newOk_some, List.cons_prefix_cons, List.nil_prefix, List.drop_succ_cons, List.drop_zero, List.all_cons, List.all_nil, Bool.and_true, true_and, and_true, c0, s1, hR, haf, hq, table_Used_j0_eq, wi_succ (show i + 1 < 9223372036854775808 by omega)]
      exact f1
    · have hu : usedT b (i + 1) = usedT b i ++ [(i : Int)] := by rw [usedT, if_neg c]
      obtain ⟨h1, a1, a2, a3, a4, a5⟩ := push (ys := [.i .i64 (i : Int)]) (sz := 1) (n := (usedT b i).length) hlow hr (by rw [encI_length]; omega) hid rfl (by omega) (by omega)
      have he : encI (usedT b i) ++ [.i .i64 (i : Int)] = encI (usedT b (i + 1)) := by rw [hu]; simp [encI]
      rw [he] at a2
      obtain ⟨v, h', f1, f2⟩ := used_loop (q := q) hb e (i + 1) m h1 (h.length + 1) (by omega) (by omega) a3 a4 a2
      have hl1 : (usedT b (i + 1)).length = (usedT b i).length + 1 := by rw [hu]; simp
      rw [hl1] at f1
      rw [decide_eq_false c] at hq
      have ef : afill [Cell.i .i64 0] [(0, 1, .c (.i .i64 (i : Int)))] = some [.i .i64 (i : Int)] := rfl
      generalize zeros 32 = z at *
      refine ⟨v, h', ?_, f2⟩
      simp only [afAddr_p, List.append_nil, if_true, if_false, bnd_some, mp_some, cnd_t, cnd_f, gd_no, gd_tt, gd_tf, gd_ft, gd_ff, alenS_s, alen_sl, alen_ns, abin_add, abin_sub, abin_mul, abin_eql, abin_neq, abin_lss, abin_leq, abin_gtr, abin_geq, abin_seql, abin_sneq, abin_slss, aun_not, aun_neg, aeqB_t, aeqB_f, aconv_i, apick_b, cond_true, cond_false, decide_true, decide_false, Bool.not_true, Bool.not_false, aext_t, ofPart_c, ofPart_a, part?_c, part?_a, cells?_c, cells?_a, tupN_2, tupN_3, Option.map_some, Option.some.injEq, List.getElem?_cons_zero, List.getElem?_cons_succ, not_true_eq_false, not_false_eq_true, quiet_same, bytesI_length, Option.join_some, List.append_assoc, List.cons_append, List.nil_append, List.length_append, List.length_cons, List.length_nil, Nat.zero_add, Nat.add_zero, rd_at, rd_at0, set_at, set_at0, List.set_cons_zero, List.set_cons_succ, ne_eq, decide_not, quiet_ext, newOk_some, List.cons_prefix_cons, List.nil_prefix, List.drop_succ_cons, List.drop_zero, List.all_cons, List.all_nil, Bool.and_true, true_and, and_true, c0, s1, hR, haf, hq, ef, a1, table_Used_j0_eq, wi_succ (show i + 1 < 9223372036854775808 by omega)]
      exact f1

theorem table_Used_eq {b : List UInt8} {h : Heap} (hb : b.length = 256) : S_table_Used [.a (encB b)] h = some (.c (.sl h.length 0 (usedT b 8).length 1), h ++ [some ⟨encI (usedT b 8), true⟩]) := by
  have key : ∀ N, 8 < N → ∀ g, ∃ v g', R_table_Used N [.a (encB b)] g = some (v, g') ∧ Out g.length g' v 1 (usedT b 8).length (encI (usedT b 8)) := by
    intro N hN g
    obtain ⟨v, g', f1, f2⟩ := used_loop (g := g) (q := N) hb 8 0 N (g ++ [some ⟨encB b, true⟩, some ⟨[], true⟩, some ⟨[], true⟩]) (g.length + 2) (by omega) (by omega)
      (by have := (Low.refl (h := g ++ [some (Row.mk (encB b) true)]) (Nat.le_refl _)).new [some ⟨[], true⟩, some ⟨[], true⟩]
          simpa using this) (by simp) (by simp [usedT, encI])
    rw [R_table_Used_eq]
    exact ⟨v, g', by simp only [afAddr_p, List.append_nil, if_true, if_false, bnd_some, mp_some, cnd_t, cnd_f, gd_no, gd_tt, gd_tf, gd_ft, gd_ff, alenS_s, alen_sl, alen_ns, abin_add, abin_sub, abin_mul, abin_eql, abin_neq, abin_lss, abin_leq, abin_gtr, abin_geq, abin_seql, abin_sneq, abin_slss, aun_not, aun_neg, aeqB_t, aeqB_f, aconv_i, apick_b, cond_true, cond_false, decide_true, decide_false, Bool.not_true, Bool.not_false, aext_t, ofPart_c, ofPart_a, part?_c, part?_a, cells?_c, cells?_a, tupN_2, tupN_3, Option.map_some, Option.some.injEq, List.getElem?_cons_zero, List.getElem?_cons_succ, not_true_eq_false, not_false_eq_true, quiet_same, bytesI_length, Option.join_some, List.append_assoc, List.cons_append, List.nil_append, List.length_append, List.length_cons, List.length_nil, Nat.zero_add, Nat.add_zero, rd_at, rd_at0, set_at, set_at0, List.set_cons_zero, List.set_cons_succ, ne_eq, decide_not, quiet_ext, newOk_some, List.cons_prefix_cons, List.nil_prefix, List.drop_succ_cons, List.drop_zero, List.all_cons, List.all_nil, Bool.and_true, true_and, and_true, aloadN_at, aloadN_at0, aload1_at, aload1_at0, astoreN_at, astoreN_at0, astore1_at, astore1_at0, aslA_at, aslA_at0, ldN_all, ld1_row, stN_all, st1_row, slr_all, Nat.reduceAdd, Nat.reduceMul, Nat.reduceLT]; exact f1, f2⟩
  obtain ⟨v, g', e, ho⟩ := key (h.length + 9) (by omega) (ro h)
  exact S_table_Used_out e (by simpa [ro_length] using ho) (by simp)

end Go.Proofs.Ytbbkpmbepljhkaa
