/- What the document's answer of inodes computes. -/
import Derived.Test.YtbbkpmbepljhkaaSInode
import Derived.Test.YtbbkpmbepljhkaaSConv
import Derived.Test.YtbbkpmbepljhkaaGEscheatref16
set_option linter.all false
namespace Go.Proofs.Ytbbkpmbepljhkaa
open Go Go.Esc

def inI (n top : Int) : Bool := decide (0 ≤ n) && decide (n ≤ top)
theorem ref16_In_eq {n top : Int} {h : Heap} : S_escheatref16_In [.c (.i .i64 n), .c (.i .i64 top)] h = some (.c (.b (inI n top)), h) := by
  refine S_escheatref16_In_flat (n := 0) (h2 := ro h) ?_ rfl
  rw [R_escheatref16_In_eq]
  unfold inI
  by_cases c : 0 ≤ n
  · simp only [afAddr_p, List.append_nil, if_true, if_false, bnd_some, mp_some, cnd_t, cnd_f, gd_no, gd_tt, gd_tf, gd_ft, gd_ff, alenS_s, alen_sl, alen_ns, abin_add, abin_sub, abin_mul, abin_eql, abin_neq, abin_lss, abin_leq, abin_gtr, abin_geq, abin_seql, abin_sneq, abin_slss, aun_not, aun_neg, aeqB_t, aeqB_f, aconv_i, apick_b, cond_true, cond_false, decide_true, decide_false, Bool.not_true, Bool.not_false, aext_t, ofPart_c, ofPart_a, part?_c, part?_a, cells?_c, cells?_a, tupN_2, tupN_3, Option.map_some, Option.some.injEq, List.getElem?_cons_zero, List.getElem?_cons_succ, not_true_eq_false, not_false_eq_true, quiet_same, bytesI_length, Option.join_some, List.append_assoc, List.cons_append, List.nil_append, List.length_append, List.length_cons, List.length_nil, Nat.zero_add, Nat.add_zero, rd_at, rd_at0, set_at, set_at0, List.set_cons_zero, List.set_cons_succ, ne_eq, decide_not, quiet_ext, newOk_some, List.cons_prefix_cons, List.nil_prefix, List.drop_succ_cons, List.drop_zero, List.all_cons, List.all_nil, Bool.and_true, true_and, and_true, c, Bool.true_and]
  · simp only [afAddr_p, List.append_nil, if_true, if_false, bnd_some, mp_some, cnd_t, cnd_f, gd_no, gd_tt, gd_tf, gd_ft, gd_ff, alenS_s, alen_sl, alen_ns, abin_add, abin_sub, abin_mul, abin_eql, abin_neq, abin_lss, abin_leq, abin_gtr, abin_geq, abin_seql, abin_sneq, abin_slss, aun_not, aun_neg, aeqB_t, aeqB_f, aconv_i, apick_b, cond_true, cond_false, decide_true, decide_false, Bool.not_true, Bool.not_false, aext_t, ofPart_c, ofPart_a, part?_c, part?_a, cells?_c, cells?_a, tupN_2, tupN_3, Option.map_some, Option.some.injEq, List.getElem?_cons_zero, List.getElem?_cons_succ, not_true_eq_false, not_false_eq_true, quiet_same, bytesI_length, Option.join_some, List.append_assoc, List.cons_append, List.nil_append, List.length_append, List.length_cons, List.length_nil, Nat.zero_add, Nat.add_zero, rd_at, rd_at0, set_at, set_at0, List.set_cons_zero, List.set_cons_succ, ne_eq, decide_not, quiet_ext, newOk_some, List.cons_prefix_cons, List.nil_prefix, List.drop_succ_cons, List.drop_zero, List.all_cons, List.all_nil, Bool.and_true, true_and, and_true, c, Bool.false_and]
theorem inI_small {n : Int} : inI n 65535 = smallI n := rfl

theorem ref16_Blocks_loop {x : Int} {h : Heap} {q : Nat} : ∀ e i m : Nat, i + e = 134 → e < m → (i = 0 ∨ 256 * ((i : Int) - 1) < x) →
    escheatref16_Blocks_l0 q m (.c (.i .i64 x)) (.c (.i .i64 i)) h = some (.c (.i .i64 (if x < 1 then 0 else if 34304 < x then 134 else (x + 255) / 256)), h)
  | e, i, 0, _, hm, _ => by omega
  | 0, i, m + 1, hi, hm, hx => by
    have c0 : ¬ (i : Int) < 134 := by omega
    have hv : (if x < 1 then 0 else if 34304 < x then 134 else (x + 255) / 256) = (i : Int) := by
      rw [if_neg (by omega)]
      by_cases c : 34304 < x
      · rw [if_pos c]; omega
      · rw [if_neg c]; omega
    rw [escheatref16_Blocks_l0_eq, hv]
    simp only [afAddr_p, List.append_nil, if_true, if_false, bnd_some, mp_some, cnd_t, cnd_f, gd_no, gd_tt, gd_tf, gd_ft, gd_ff, alenS_s, alen_sl, alen_ns, abin_add, abin_sub, abin_mul, abin_eql, abin_neq, abin_lss, abin_leq, abin_gtr, abin_geq, abin_seql, abin_sneq, abin_slss, aun_not, aun_neg, aeqB_t, aeqB_f, aconv_i, apick_b, cond_true, cond_false, decide_true, decide_false, Bool.not_true, Bool.not_false, aext_t, ofPart_c, ofPart_a, part?_c, part?_a, cells?_c, cells?_a, tupN_2, tupN_3, Option.map_some, Option.some.injEq, List.getElem?_cons_zero, List.getElem?_cons_succ, not_true_eq_false, not_false_eq_true, quiet_same, bytesI_length, Option.join_some, List.append_assoc, List.cons_append, List.nil_append, List.length_append, List.length_cons, List.length_nil, Nat.zero_add, Nat.add_zero, rd_at, rd_at0, set_at, set_at0, List.set_cons_zero, List.set_cons_succ, ne_eq, decide_not, quiet_ext, newOk_some, List.cons_prefix_cons, List.nil_prefix, List.drop_succ_cons, List.drop_zero, List.all_cons, List.all_nil, Bool.and_true, true_and, and_true, c0]
  | e + 1, i, m + 1, hi, hm, hx => by
    have c0 : (i : Int) < 134 := by omega
    have e1 : IntKind.wrap .i64 (256 * (i : Int)) = 256 * i := wrap_i64 (by omega) (by omega)
    rw [escheatref16_Blocks_l0_eq]
    by_cases c1 : 256 * (i : Int) < x
    · have ih := ref16_Blocks_loop (x := x) (h := h) (q := q) e (i + 1) m (by omega) (by omega) (.inr (by omega))
      simp only [afAddr_p, List.append_nil, if_true, if_false, bnd_some, mp_some, cnd_t, cnd_f, gd_no, gd_tt, gd_tf, gd_ft, gd_ff, alenS_s, alen_sl, alen_ns, abin_add, abin_sub, abin_mul, abin_eql, abin_neq, abin_lss, abin_leq, abin_gtr, abin_geq, abin_seql, abin_sneq, abin_slss, aun_not, aun_neg, aeqB_t, aeqB_f, aconv_i, apick_b, cond_true, cond_false, decide_true, decide_false, Bool.not_true, Bool.not_false, aext_t, ofPart_c, ofPart_a, part?_c, part?_a, cells?_c, cells?_a, tupN_2, tupN_3, Option.map_some, Option.some.injEq, List.getElem?_cons_zero, List.getElem?_cons_succ, not_true_eq_false, not_false_eq_true, quiet_same, bytesI_length, Option.join_some, List.append_assoc, List.cons_append, List.nil_append, List.length_append, List.length_cons, List.length_nil, Nat.zero_add, Nat.add_zero, rd_at, rd_at0, set_at, set_at0, List.set_cons_zero, List.set_cons_succ, ne_eq, decide_not, quiet_ext, newOk_some, List.cons_prefix_cons, List.nil_prefix, List.drop_succ_cons, List.drop_zero, List.all_cons, List.all_nil, Bool.and_true, true_and, and_true, c0, e1, c1, wi_succ (show i + 1 < 9223372036854775808 by omega)]
      exact ih
    · have hv : (if x < 1 then 0 else if 34304 < x then 134 else (x + 255) / 256) = (i : Int) := by
        by_cases c : x < 1
        · rw [if_pos c]; omega
        · rw [if_neg c, if_neg (by omega)]; omega
      rw [hv]
      simp only [afAddr_p, List.append_nil, if_true, if_false, bnd_some, mp_some, cnd_t, cnd_f, gd_no, gd_tt, gd_tf, gd_ft, gd_ff, alenS_s, alen_sl, alen_ns, abin_add, abin_sub, abin_mul, abin_eql, abin_neq, abin_lss, abin_leq, abin_gtr, abin_geq, abin_seql, abin_sneq, abin_slss, aun_not, aun_neg, aeqB_t, aeqB_f, aconv_i, apick_b, cond_true, cond_false, decide_true, decide_false, Bool.not_true, Bool.not_false, aext_t, ofPart_c, ofPart_a, part?_c, part?_a, cells?_c, cells?_a, tupN_2, tupN_3, Option.map_some, Option.some.injEq, List.getElem?_cons_zero, List.getElem?_cons_succ, not_true_eq_false, not_false_eq_true, quiet_same, bytesI_length, Option.join_some, List.append_assoc, List.cons_append, List.nil_append, List.length_append, List.length_cons, List.length_nil, Nat.zero_add, Nat.add_zero, rd_at, rd_at0, set_at, set_at0, List.set_cons_zero, List.set_cons_succ, ne_eq, decide_not, quiet_ext, newOk_some, List.cons_prefix_cons, List.nil_prefix, List.drop_succ_cons, List.drop_zero, List.all_cons, List.all_nil, Bool.and_true, true_and, and_true, c0, e1, c1]

theorem ref16_Blocks_eq {x : Int} {h : Heap} : S_escheatref16_Blocks [.c (.i .i64 x)] h = some (.c (.i .i64 (if x < 1 then 0 else if 34304 < x then 134 else (x + 255) / 256)), h) := by
  have key : ∀ N, 135 < N → ∀ g, ∃ g', R_escheatref16_Blocks N [.c (.i .i64 x)] g = some (.c (.i .i64 (if x < 1 then 0 else if 34304 < x then 134 else (x + 255) / 256)), g') := by
    intro N hN g
    have := ref16_Blocks_loop (x := x) (h := g) (q := N) 134 0 N (by omega) (by omega) (.inl rfl)
    rw [R_escheatref16_Blocks_eq]
    exact ⟨_, this⟩
  obtain ⟨g', e⟩ := key (h.length + 136) (by omega) (ro h)
  exact S_escheatref16_Blocks_flat e rfl

theorem ref16_May_loop {g : Heap} {k l s p : Int} {d : List Int} {q : Nat} (hd : d.length = 7) (hk : k ≠ 0) : ∀ e i m : Nat, i + e = 6 → e < m →
    escheatref16_May_l0 q m (.c (.p g.length 0)) (.c (.i .i64 i)) (g ++ [some ⟨inoC k l s p d, true⟩]) = some (.c (.b ((d.drop i).all smallI && restI k l s p [])), g ++ [some ⟨inoC k l s p d, true⟩])
  | e, i, 0, _, hm => by omega
  | 0, i, m + 1, hi, hm => by
    have e0 : i = 6 := by omega
    subst e0
    have c0 : ¬ ((6 : Nat) : Int) < 6 := by omega
    have l1 : (encI d)[6]? = some (.i .i64 d[6]) := by rw [encI_get, List.getElem?_eq_getElem (by omega)]; rfl
    have e1 : (d.drop 6).all smallI = smallI d[6] := by
      rw [List.drop_eq_getElem_cons (by omega), List.drop_of_length_le (by omega)]; simp
    have e2 : restI k l s p [] = (inI k 2 && (smallI l && (smallI p && inI s 34304))) := by
      unfold restI inI
      by_cases a : 0 ≤ k <;> by_cases b : k ≤ 2 <;> by_cases c : 0 ≤ s <;> by_cases f : s ≤ 34304 <;> simp [a, b, c, f]
    rw [escheatref16_May_l0_eq, e1, e2]
    cases h1 : inI k 2 with
    | false => simp only [afAddr_p, List.append_nil, if_true, if_false, bnd_some, mp_some, cnd_t, cnd_f, gd_no, gd_tt, gd_tf, gd_ft, gd_ff, alenS_s, alen_sl, alen_ns, abin_add, abin_sub, abin_mul, abin_eql, abin_neq, abin_lss, abin_leq, abin_gtr, abin_geq, abin_seql, abin_sneq, abin_slss, aun_not, aun_neg, aeqB_t, aeqB_f, aconv_i, apick_b, cond_true, cond_false, decide_true, decide_false, Bool.not_true, Bool.not_false, aext_t, ofPart_c, ofPart_a, part?_c, part?_a, cells?_c, cells?_a, tupN_2, tupN_3, Option.map_some, Option.some.injEq, List.getElem?_cons_zero, List.getElem?_cons_succ, not_true_eq_false, not_false_eq_true, quiet_same, bytesI_length, Option.join_some, List.append_assoc, List.cons_append, List.nil_append, List.length_append, List.length_cons, List.length_nil, Nat.zero_add, Nat.add_zero, rd_at, rd_at0, set_at, set_at0, List.set_cons_zero, List.set_cons_succ, ne_eq, decide_not, quiet_ext, newOk_some, List.cons_prefix_cons, List.nil_prefix, List.drop_succ_cons, List.drop_zero, List.all_cons, List.all_nil, Bool.and_true, true_and, and_true, aloadN_at, aloadN_at0, aload1_at, aload1_at0, astoreN_at, astoreN_at0, astore1_at, astore1_at0, aslA_at, aslA_at0, ldN_all, ld1_row, stN_all, st1_row, slr_all, Nat.reduceAdd, Nat.reduceMul, Nat.reduceLT, c0, ref16_In_eq, h1, Bool.false_and, Bool.and_false]
    | true =>
      cases h2 : smallI l with
      | false => simp only [afAddr_p, List.append_nil, if_true, if_false, bnd_some, mp_some, cnd_t, cnd_f, gd_no, gd_tt, gd_tf, gd_ft, gd_ff, alenS_s, alen_sl, alen_ns, abin_add, abin_sub, abin_mul, abin_eql, abin_neq, abin_lss, abin_leq, abin_gtr, abin_geq, abin_seql, abin_sneq, abin_slss, aun_not, aun_neg, aeqB_t, aeqB_f, aconv_i, apick_b, cond_true, cond_false, decide_true, decide_false, Bool.not_true, Bool.not_false, aext_t, ofPart_c, ofPart_a, part?_c, part?_a, cells?_c, cells?_a, tupN_2, tupN_3, Option.map_some, Option.some.injEq, List.getElem?_cons_zero, List.getElem?_cons_succ, not_true_eq_false, not_false_eq_true, quiet_same, bytesI_length, Option.join_some, List.append_assoc, List.cons_append, List.nil_append, List.length_append, List.length_cons, List.length_nil, Nat.zero_add, Nat.add_zero, rd_at, rd_at0, set_at, set_at0, List.set_cons_zero, List.set_cons_succ, ne_eq, decide_not, quiet_ext, newOk_some, List.cons_prefix_cons, List.nil_prefix, List.drop_succ_cons, List.drop_zero, List.all_cons, List.all_nil, Bool.and_true, true_and, and_true, aloadN_at, aloadN_at0, aload1_at, aload1_at0, astoreN_at, astoreN_at0, astore1_at, astore1_at0, aslA_at, aslA_at0, ldN_all, ld1_row, stN_all, st1_row, slr_all, Nat.reduceAdd, Nat.reduceMul, Nat.reduceLT, c0, ref16_In_eq, h1, inI_small, h2, Bool.false_and, Bool.and_false, Bool.true_and]
      | true =>
        cases h3 : inI s 34304 with
        | false => simp only [afAddr_p, List.append_nil, if_true, if_false, bnd_some, mp_some, cnd_t, cnd_f, gd_no, gd_tt, gd_tf, gd_ft, gd_ff, alenS_s, alen_sl, alen_ns, abin_add, abin_sub, abin_mul, abin_eql, abin_neq, abin_lss, abin_leq, abin_gtr, abin_geq, abin_seql, abin_sneq, abin_slss, aun_not, aun_neg, aeqB_t, aeqB_f, aconv_i, apick_b, cond_true, cond_false, decide_true, decide_false, Bool.not_true, Bool.not_false, aext_t, ofPart_c, ofPart_a, part?_c, part?_a, cells?_c, cells?_a, tupN_2, tupN_3, Option.map_some, Option.some.injEq, List.getElem?_cons_zero, List.getElem?_cons_succ, not_true_eq_false, not_false_eq_true, quiet_same, bytesI_length, Option.join_some, List.append_assoc, List.cons_append, List.nil_append, List.length_append, List.length_cons, List.length_nil, Nat.zero_add, Nat.add_zero, rd_at, rd_at0, set_at, set_at0, List.set_cons_zero, List.set_cons_succ, ne_eq, decide_not, quiet_ext, newOk_some, List.cons_prefix_cons, List.nil_prefix, List.drop_succ_cons, List.drop_zero, List.all_cons, List.all_nil, Bool.and_true, true_and, and_true, aloadN_at, aloadN_at0, aload1_at, aload1_at0, astoreN_at, astoreN_at0, astore1_at, astore1_at0, aslA_at, aslA_at0, ldN_all, ld1_row, stN_all, st1_row, slr_all, Nat.reduceAdd, Nat.reduceMul, Nat.reduceLT, c0, ref16_In_eq, h1, inI_small, h2, h3, Bool.false_and, Bool.and_false, Bool.true_and]
        | true =>
          cases h4 : smallI p with
          | false => simp only [afAddr_p, List.append_nil, if_true, if_false, bnd_some, mp_some, cnd_t, cnd_f, gd_no, gd_tt, gd_tf, gd_ft, gd_ff, alenS_s, alen_sl, alen_ns, abin_add, abin_sub, abin_mul, abin_eql, abin_neq, abin_lss, abin_leq, abin_gtr, abin_geq, abin_seql, abin_sneq, abin_slss, aun_not, aun_neg, aeqB_t, aeqB_f, aconv_i, apick_b, cond_true, cond_false, decide_true, decide_false, Bool.not_true, Bool.not_false, aext_t, ofPart_c, ofPart_a, part?_c, part?_a, cells?_c, cells?_a, tupN_2, tupN_3, Option.map_some, Option.some.injEq, List.getElem?_cons_zero, List.getElem?_cons_succ, not_true_eq_false, not_false_eq_true, quiet_same, bytesI_length, Option.join_some, List.append_assoc, List.cons_append, List.nil_append, List.length_append, List.length_cons, List.length_nil, Nat.zero_add, Nat.add_zero, rd_at, rd_at0, set_at, set_at0, List.set_cons_zero, List.set_cons_succ, ne_eq, decide_not, quiet_ext, newOk_some, List.cons_prefix_cons, List.nil_prefix, List.drop_succ_cons, List.drop_zero, List.all_cons, List.all_nil, Bool.and_true, true_and, and_true, aloadN_at, aloadN_at0, aload1_at, aload1_at0, astoreN_at, astoreN_at0, astore1_at, astore1_at0, aslA_at, aslA_at0, ldN_all, ld1_row, stN_all, st1_row, slr_all, Nat.reduceAdd, Nat.reduceMul, Nat.reduceLT, c0, ref16_In_eq, h1, inI_small, h2, h3, h4, Bool.false_and, Bool.and_false, Bool.true_and]
          | true => simp only [afAddr_p, List.append_nil, if_true, if_false, bnd_some, mp_some, cnd_t, cnd_f, gd_no, gd_tt, gd_tf, gd_ft, gd_ff, alenS_s, alen_sl, alen_ns, abin_add, abin_sub, abin_mul, abin_eql, abin_neq, abin_lss, abin_leq, abin_gtr, abin_geq, abin_seql, abin_sneq, abin_slss, aun_not, aun_neg, aeqB_t, aeqB_f, aconv_i, apick_b, cond_true, cond_false, decide_true, decide_false, Bool.not_true, Bool.not_false, aext_t, ofPart_c, ofPart_a, part?_c, part?_a, cells?_c, cells?_a, tupN_2, tupN_3, Option.map_some, Option.some.injEq, List.getElem?_cons_zero, List.getElem?_cons_succ, not_true_eq_false, not_false_eq_true, quiet_same, bytesI_length, Option.join_some, List.append_assoc, List.cons_append, List.nil_append, List.length_append, List.length_cons, List.length_nil, Nat.zero_add, Nat.add_zero, rd_at, rd_at0, set_at, set_at0, List.set_cons_zero, List.set_cons_succ, ne_eq, decide_not, quiet_ext, newOk_some, List.cons_prefix_cons, List.nil_prefix, List.drop_succ_cons, List.drop_zero, List.all_cons, List.all_nil, Bool.and_true, true_and, and_true, aloadN_at, aloadN_at0, aload1_at, aload1_at0, astoreN_at, astoreN_at0, astore1_at, astore1_at0, aslA_at, aslA_at0, ldN_all, ld1_row, stN_all, st1_row, slr_all, Nat.reduceAdd, Nat.reduceMul, Nat.reduceLT, c0, ref16_In_eq, h1, inI_small, h2, h3, h4, l1, Bool.false_and, Bool.and_true, Bool.true_and]
  | e + 1, i, m + 1, hi, hm => by
    have ih := ref16_May_loop (g := g) (l := l) (s := s) (p := p) (q := q) hd hk e (i + 1) m (by omega) (by omega)
    have c0 : (i : Int) < 6 := by omega
    have a1 : aiAddrA 6 1 (.c (.p g.length 4)) (.c (.i .i64 (i : Int))) = some (.c (.p g.length (i + 1 + 1 + 1 + 1))) := by rw [iAddrA_of (by omega)]; congr 3; omega
    have l1 : (encI d)[i]? = some (.i .i64 d[i]) := by rw [encI_get, List.getElem?_eq_getElem (by omega)]; rfl
    rw [escheatref16_May_l0_eq, List.drop_eq_getElem_cons (by omega), List.all_cons]
    cases c1 : smallI d[i] with
    | true =>
      simp only [afAddr_p, List.append_nil, if_true, if_false, bnd_some, mp_some, cnd_t, cnd_f, gd_no, gd_tt, gd_tf, gd_ft, gd_ff, alenS_s, alen_sl, alen_ns, abin_add, abin_sub, abin_mul, abin_eql, abin_neq, abin_lss, abin_leq, abin_gtr, abin_geq, abin_seql, abin_sneq, abin_slss, aun_not, aun_neg, aeqB_t, aeqB_f, aconv_i, apick_b, cond_true, cond_false, decide_true, decide_false, Bool.not_true, Bool.not_false, aext_t, ofPart_c, ofPart_a, part?_c, part?_a, cells?_c, cells?_a, tupN_2, tupN_3, Option.map_some, Option.some.injEq, List.getElem?_cons_zero, List.getElem?_cons_succ, not_true_eq_false, not_false_eq_true, quiet_same, bytesI_length, Option.join_some, List.append_assoc, List.cons_append, List.nil_append, List.length_append, List.length_cons, List.length_nil, Nat.zero_add, Nat.add_zero, rd_at, rd_at0, set_at, set_at0, List.set_cons_zero, List.set_cons_succ, ne_eq, decide_not, quiet_ext, newOk_some, List.cons_prefix_cons, List.nil_prefix, List.drop_succ_cons, List.drop_zero, List.all_cons, List.all_nil, Bool.and_true, true_and, and_true, aloadN_at, aloadN_at0, aload1_at, aload1_at0, astoreN_at, astoreN_at0, astore1_at, astore1_at0, aslA_at, aslA_at0, ldN_all, ld1_row, stN_all, st1_row, slr_all, Nat.reduceAdd, Nat.reduceMul, Nat.reduceLT, c0, a1, l1, ref16_In_eq, inI_small, c1, Bool.true_and, wi_succ (show i + 1 < 9223372036854775808 by omega)]
      exact ih
    | false => simp only [afAddr_p, List.append_nil, if_true, if_false, bnd_some, mp_some, cnd_t, cnd_f, gd_no, gd_tt, gd_tf, gd_ft, gd_ff, alenS_s, alen_sl, alen_ns, abin_add, abin_sub, abin_mul, abin_eql, abin_neq, abin_lss, abin_leq, abin_gtr, abin_geq, abin_seql, abin_sneq, abin_slss, aun_not, aun_neg, aeqB_t, aeqB_f, aconv_i, apick_b, cond_true, cond_false, decide_true, decide_false, Bool.not_true, Bool.not_false, aext_t, ofPart_c, ofPart_a, part?_c, part?_a, cells?_c, cells?_a, tupN_2, tupN_3, Option.map_some, Option.some.injEq, List.getElem?_cons_zero, List.getElem?_cons_succ, not_true_eq_false, not_false_eq_true, quiet_same, bytesI_length, Option.join_some, List.append_assoc, List.cons_append, List.nil_append, List.length_append, List.length_cons, List.length_nil, Nat.zero_add, Nat.add_zero, rd_at, rd_at0, set_at, set_at0, List.set_cons_zero, List.set_cons_succ, ne_eq, decide_not, quiet_ext, newOk_some, List.cons_prefix_cons, List.nil_prefix, List.drop_succ_cons, List.drop_zero, List.all_cons, List.all_nil, Bool.and_true, true_and, and_true, aloadN_at, aloadN_at0, aload1_at, aload1_at0, astoreN_at, astoreN_at0, astore1_at, astore1_at0, aslA_at, aslA_at0, ldN_all, ld1_row, stN_all, st1_row, slr_all, Nat.reduceAdd, Nat.reduceMul, Nat.reduceLT, c0, a1, l1, ref16_In_eq, inI_small, c1, Bool.false_and]

theorem ref16_May_eq {k l s p : Int} {d : List Int} {h : Heap} (hd : d.length = 7) : S_escheatref16_May [.a (inoC k l s p d)] h = some (.c (.b (mayI k l s p d)), h) := by
  have hlen : (inoC k l s p d).length = 11 := by simp [encI_length, hd]
  have key : ∀ N, 7 < N → ∀ g, ∃ g', R_escheatref16_May N [.a (inoC k l s p d)] g = some (.c (.b (mayI k l s p d)), g') := by
    intro N hN g
    rw [R_escheatref16_May_eq]
    unfold mayI
    by_cases k0 : k = 0
    · subst k0
      rw [if_pos rfl]
      have hq := aeq_ino (k := 0) (l := l) (s := s) (p := p) (k' := 0) (l' := 0) (s' := 0) (p' := 0) (neg := false) hd (zI_length (n := 7))
      simp only [cond_false, zero_ino] at hq
      exact ⟨_, by simp only [afAddr_p, List.append_nil, if_true, if_false, bnd_some, mp_some, cnd_t, cnd_f, gd_no, gd_tt, gd_tf, gd_ft, gd_ff, alenS_s, alen_sl, alen_ns, abin_add, abin_sub, abin_mul, abin_eql, abin_neq, abin_lss, abin_leq, abin_gtr, abin_geq, abin_seql, abin_sneq, abin_slss, aun_not, aun_neg, aeqB_t, aeqB_f, aconv_i, apick_b, cond_true, cond_false, decide_true, decide_false, Bool.not_true, Bool.not_false, aext_t, ofPart_c, ofPart_a, part?_c, part?_a, cells?_c, cells?_a, tupN_2, tupN_3, Option.map_some, Option.some.injEq, List.getElem?_cons_zero, List.getElem?_cons_succ, not_true_eq_false, not_false_eq_true, quiet_same, bytesI_length, Option.join_some, List.append_assoc, List.cons_append, List.nil_append, List.length_append, List.length_cons, List.length_nil, Nat.zero_add, Nat.add_zero, rd_at, rd_at0, set_at, set_at0, List.set_cons_zero, List.set_cons_succ, ne_eq, decide_not, quiet_ext, newOk_some, List.cons_prefix_cons, List.nil_prefix, List.drop_succ_cons, List.drop_zero, List.all_cons, List.all_nil, Bool.and_true, true_and, and_true, aloadN_at, aloadN_at0, aload1_at, aload1_at0, astoreN_at, astoreN_at0, astore1_at, astore1_at0, aslA_at, aslA_at0, ldN_all, ld1_row, stN_all, st1_row, slr_all, Nat.reduceAdd, Nat.reduceMul, Nat.reduceLT, hlen, afill_ino, hq] <;> rfl⟩
    · rw [if_neg k0]
      have := ref16_May_loop (g := g) (l := l) (s := s) (p := p) (q := N) hd k0 6 0 N (by omega) (by omega)
      have e1 : ((d.drop 0).all smallI && restI k l s p []) = restI k l s p d := by
        unfold restI
        simp only [List.drop_zero, List.all_nil, Bool.and_true]
        cases d.all smallI <;> simp
      rw [e1] at this
      exact ⟨_, by simp only [afAddr_p, List.append_nil, if_true, if_false, bnd_some, mp_some, cnd_t, cnd_f, gd_no, gd_tt, gd_tf, gd_ft, gd_ff, alenS_s, alen_sl, alen_ns, abin_add, abin_sub, abin_mul, abin_eql, abin_neq, abin_lss, abin_leq, abin_gtr, abin_geq, abin_seql, abin_sneq, abin_slss, aun_not, aun_neg, aeqB_t, aeqB_f, aconv_i, apick_b, cond_true, cond_false, decide_true, decide_false, Bool.not_true, Bool.not_false, aext_t, ofPart_c, ofPart_a, part?_c, part?_a, cells?_c, cells?_a, tupN_2, tupN_3, Option.map_some, Option.some.injEq, List.getElem?_cons_zero, List.getElem?_cons_succ, not_true_eq_false, not_false_eq_true, quiet_same, bytesI_length, Option.join_some, List.append_assoc, List.cons_append, List.nil_append, List.length_append, List.length_cons, List.length_nil, Nat.zero_add, Nat.add_zero, rd_at, rd_at0, set_at, set_at0, List.set_cons_zero, List.set_cons_succ, ne_eq, decide_not, quiet_ext, newOk_some, List.cons_prefix_cons, List.nil_prefix, List.drop_succ_cons, List.drop_zero, List.all_cons, List.all_nil, Bool.and_true, true_and, and_true, aloadN_at, aloadN_at0, aload1_at, aload1_at0, astoreN_at, astoreN_at0, astore1_at, astore1_at0, aslA_at, aslA_at0, ldN_all, ld1_row, stN_all, st1_row, slr_all, Nat.reduceAdd, Nat.reduceMul, Nat.reduceLT, k0]; exact this⟩
  obtain ⟨g', e⟩ := key (h.length + 8) (by omega) (ro h)
  exact S_escheatref16_May_flat e rfl

theorem ref16_Put_loop {g : Heap} {k l s p : Int} {d : List Int} {q : Nat} (hd : d.length = 7) : ∀ e i m h id, i + e = 6 → e < m → Low (g ++ [some (Row.mk (inoC k l s p d) true)]).length (g ++ [some (Row.mk (inoC k l s p d) true)]) h → (g ++ [some (Row.mk (inoC k l s p d) true)]).length ≤ id → rd h id = some ⟨encB (inoH k l s p ++ inoD (d.take i)), true⟩ →
    ∃ v' h', escheatref16_Put_l0 q m (.c (.p g.length 0)) (.c (.sl id 0 (10 + 2 * i) 1)) (.c (.i .i64 i)) h = some (v', h') ∧ Out g.length h' v' 1 32 (encB (inoB k l s p d))
  | e, i, 0, h, id, _, hm, _, _, _ => by omega
  | 0, i, m + 1, h, id, hi, hm, hlow, hb, hr => by
    have e0 : i = 6 := by omega
    subst e0
    have c0 : ¬ ((6 : Nat) : Int) < 6 := by omega
    have hrow : rd h g.length = some ⟨inoC k l s p d, true⟩ := hlow.rd rd_new
    have l1 := load1_of (off := 10) (c := .i .i64 d[6]) hrow (by
      have : (encI d)[6]? = some (.i .i64 d[6]) := by rw [encI_get, List.getElem?_eq_getElem (by omega)]; rfl
      exact this) rfl
    have eb := bytes_conv (w := 2) (v := d[6]) (h := h) (by omega)
    rw [show ((2 : Nat) : Int) = 2 from rfl] at eb
    have hlen : (encB (inoH k l s p ++ inoD (d.take 6))).length = (10 + 2 * 6) * 1 := by rw [encB_length, List.length_append, inoH_length, inoD_length, List.length_take]; omega
    obtain ⟨h1, a1, a2, a3, a4, a5⟩ := pushN (ys := encB (bytesI 2 d[6])) (m := 2) (sz := 1) (n := 10 + 2 * 6) hlow hr hlen hb (by simp [encB_length]) (by omega) (by omega)
    obtain ⟨h2, b1, b2, b3, b4⟩ := pushZ (m := 8) (n := 24) a3 a2 (by rw [a5]) a4 (by omega)
    rw [show ((8 : Nat) : Int) = 8 from rfl] at b1
    have eB : encB (inoH k l s p ++ inoD (d.take 6)) ++ encB (bytesI 2 d[6]) ++ encB (zeros 8) = encB (inoB k l s p d) := by
      rw [← encB_append, ← encB_append]
      unfold inoB
      refine congrArg (fun x => encB (x ++ zeros 8)) ?_
      rw [List.append_assoc]
      refine congrArg (inoH k l s p ++ ·) ?_
      rw [← inoD_snoc, ← List.take_succ_eq_append_getElem (by omega), List.take_of_length_le (by omega)]
    rw [eB] at b2
    simp only [Nat.reduceMul, Nat.reduceAdd] at a1 b1
    rw [escheatref16_Put_l0_eq]
    have hg : g.length ≤ h1.length := by simp at b4; omega
    exact ⟨_, _, by simp only [afAddr_p, List.append_nil, if_true, if_false, bnd_some, mp_some, cnd_t, cnd_f, gd_no, gd_tt, gd_tf, gd_ft, gd_ff, alenS_s, alen_sl, alen_ns, abin_add, abin_sub, abin_mul, abin_eql, abin_neq, abin_lss, abin_leq, abin_gtr, abin_geq, abin_seql, abin_sneq, abin_slss, aun_not, aun_neg, aeqB_t, aeqB_f, aconv_i, apick_b, cond_true, cond_false, decide_true, decide_false, Bool.not_true, Bool.not_false, aext_t, ofPart_c, ofPart_a, part?_c, part?_a, cells?_c, cells?_a, tupN_2, tupN_3, Option.map_some, Option.some.injEq, List.getElem?_cons_zero, List.getElem?_cons_succ, not_true_eq_false, not_false_eq_true, quiet_same, bytesI_length, Option.join_some, List.append_assoc, List.cons_append, List.nil_append, List.length_append, List.length_cons, List.length_nil, Nat.zero_add, Nat.add_zero, rd_at, rd_at0, set_at, set_at0, List.set_cons_zero, List.set_cons_succ, ne_eq, decide_not, quiet_ext, newOk_some, List.cons_prefix_cons, List.nil_prefix, List.drop_succ_cons, List.drop_zero, List.all_cons, List.all_nil, Bool.and_true, true_and, and_true, c0, l1, eb, Nat.reduceMul, a1, b1] <;> rfl, by rw [encB_length, inoB_length hd], _, rfl, hg, b2⟩
  | e + 1, i, m + 1, h, id, hi, hm, hlow, hb, hr => by
    have c0 : (i : Int) < 6 := by omega
    have hrow : rd h g.length = some ⟨inoC k l s p d, true⟩ := hlow.rd rd_new
    have ea : aiAddrA 6 1 (.c (.p g.length 4)) (.c (.i .i64 (i : Int))) = some (.c (.p g.length (i + 1 + 1 + 1 + 1))) := by rw [iAddrA_of (by omega)]; congr 3; omega
    have l1 := load1_of (off := i + 1 + 1 + 1 + 1) (c := .i .i64 d[i]) hrow (by
      have : (encI d)[i]? = some (.i .i64 d[i]) := by rw [encI_get, List.getElem?_eq_getElem (by omega)]; rfl
      exact this) rfl
    have eb := bytes_conv (w := 2) (v := d[i]) (h := h) (by omega)
    rw [show ((2 : Nat) : Int) = 2 from rfl] at eb
    have hlen : (encB (inoH k l s p ++ inoD (d.take i))).length = (10 + 2 * i) * 1 := by rw [encB_length, List.length_append, inoH_length, inoD_length, List.length_take]; omega
    obtain ⟨h1, a1, a2, a3, a4, a5⟩ := pushN (ys := encB (bytesI 2 d[i])) (m := 2) (sz := 1) (n := 10 + 2 * i) hlow hr hlen hb (by simp [encB_length]) (by omega) (by omega)
    have eB : encB (inoH k l s p ++ inoD (d.take i)) ++ encB (bytesI 2 d[i]) = encB (inoH k l s p ++ inoD (d.take (i + 1))) := by
      rw [← encB_append, List.append_assoc, ← inoD_snoc, ← List.take_succ_eq_append_getElem (by omega)]
    rw [eB] at a2
    obtain ⟨v', h', b1, b2⟩ := ref16_Put_loop (q := q) hd e (i + 1) m h1 (h.length + 1) (by omega) (by omega) a3 a4 a2
    rw [show 10 + 2 * (i + 1) = 10 + 2 * i + 2 by omega] at b1
    rw [escheatref16_Put_l0_eq]
    exact ⟨v', h', by simp only [afAddr_p, List.append_nil, if_true, if_false, bnd_some, mp_some, cnd_t, cnd_f, gd_no, gd_tt, gd_tf, gd_ft, gd_ff, alenS_s, alen_sl, alen_ns, abin_add, abin_sub, abin_mul, abin_eql, abin_neq, abin_lss, abin_leq, abin_gtr, abin_geq, abin_seql, abin_sneq, abin_slss, aun_not, aun_neg, aeqB_t, aeqB_f, aconv_i, apick_b, cond_true, cond_false, decide_true, decide_false, Bool.not_true, Bool.not_false, aext_t, ofPart_c, ofPart_a, part?_c, part?_a, cells?_c, cells?_a, tupN_2, tupN_3, Option.map_some, Option.some.injEq, List.getElem?_cons_zero, List.getElem?_cons_succ, not_true_eq_false, not_false_eq_true, quiet_same, bytesI_length, Option.join_some, List.append_assoc, List.cons_append, List.nil_append, List.length_append, List.length_cons, List.length_nil, Nat.zero_add, Nat.add_zero, rd_at, rd_at0, set_at, set_at0, List.set_cons_zero, List.set_cons_succ, ne_eq, decide_not, quiet_ext, newOk_some, List.cons_prefix_cons, List.nil_prefix, List.drop_succ_cons, List.drop_zero, List.all_cons, List.all_nil, Bool.and_true, true_and, and_true, c0, ea, l1, eb, a1, wi_succ (show i + 1 < 9223372036854775808 by omega)]; exact b1, b2⟩

theorem ref16_Put_eq {k l s p : Int} {d : List Int} {h : Heap} (hd : d.length = 7) : S_escheatref16_Put [.a (inoC k l s p d)] h = some (.c (.sl h.length 0 32 1), h ++ [some ⟨encB (inoB k l s p d), true⟩]) := by
  have key : ∀ N, 7 < N → ∀ g, ∃ v g', R_escheatref16_Put N [.a (inoC k l s p d)] g = some (v, g') ∧ Out g.length g' v 1 32 (encB (inoB k l s p d)) := by
    intro N hN g
    have e0 : IntKind.wrap .u8 k = ((byI k 0).toNat : Int) := by rw [wrap_u8_mod, byI_int]; simp
    have ef : afill [Cell.i .u8 0, .i .u8 0] [(0, 1, .c (.i .u8 (byI k 0).toNat)), (1, 1, .c (.i .u8 0))] = some (encB (bytesI 1 k ++ zeros 1)) := rfl
    have b1 := bytes_conv (w := 2) (v := l) (h := g ++ [some ⟨inoC k l s p d, true⟩, some ⟨[], true⟩, some ⟨encB (bytesI 1 k ++ zeros 1), true⟩]) (by omega)
    have p1 := app_of (h := g ++ [some ⟨inoC k l s p d, true⟩, some ⟨[], true⟩, some ⟨encB (bytesI 1 k ++ zeros 1), true⟩, some ⟨encB (bytesI 2 l), true⟩]) (id := g.length + 2) (jd := g.length + 3) (n := 2) (m := 2) (sz := 1) (cs := encB (bytesI 1 k ++ zeros 1)) (ys := encB (bytesI 2 l)) (rw := true) (by simp) (by simp [encB_length]) (by simp) (by simp [encB_length]) rfl (by omega) (by omega)
    have b2 := bytes_conv (w := 4) (v := s) (h := g ++ [some ⟨inoC k l s p d, true⟩, some ⟨[], true⟩, none, some ⟨encB (bytesI 2 l), true⟩, some ⟨encB (bytesI 1 k ++ zeros 1) ++ encB (bytesI 2 l), true⟩]) (by omega)
    have p2 := app_of (h := g ++ [some ⟨inoC k l s p d, true⟩, some ⟨[], true⟩, none, some ⟨encB (bytesI 2 l), true⟩, some ⟨encB (bytesI 1 k ++ zeros 1) ++ encB (bytesI 2 l), true⟩, some ⟨encB (bytesI 4 s), true⟩]) (id := g.length + 4) (jd := g.length + 5) (n := 4) (m := 4) (sz := 1) (cs := encB (bytesI 1 k ++ zeros 1) ++ encB (bytesI 2 l)) (ys := encB (bytesI 4 s)) (rw := true) (by simp) (by simp [encB_length]) (by simp) (by simp [encB_length]) rfl (by omega) (by omega)
    have b3 := bytes_conv (w := 2) (v := p) (h := g ++ [some ⟨inoC k l s p d, true⟩, some ⟨[], true⟩, none, some ⟨encB (bytesI 2 l), true⟩, none, some ⟨encB (bytesI 4 s), true⟩, some ⟨encB (bytesI 1 k ++ zeros 1) ++ encB (bytesI 2 l) ++ encB (bytesI 4 s), true⟩]) (by omega)
    have p3 := app_of (h := g ++ [some ⟨inoC k l s p d, true⟩, some ⟨[], true⟩, none, some ⟨encB (bytesI 2 l), true⟩, none, some ⟨encB (bytesI 4 s), true⟩, some ⟨encB (bytesI 1 k ++ zeros 1) ++ encB (bytesI 2 l) ++ encB (bytesI 4 s), true⟩, some ⟨encB (bytesI 2 p), true⟩]) (id := g.length + 6) (jd := g.length + 7) (n := 8) (m := 2) (sz := 1) (cs := encB (bytesI 1 k ++ zeros 1) ++ encB (bytesI 2 l) ++ encB (bytesI 4 s)) (ys := encB (bytesI 2 p)) (rw := true) (by simp) (by simp [encB_length]) (by simp) (by simp [encB_length]) rfl (by omega) (by omega)
    have eh : encB (bytesI 1 k ++ zeros 1) ++ encB (bytesI 2 l) ++ encB (bytesI 4 s) ++ encB (bytesI 2 p) = encB (inoH k l s p ++ inoD (d.take 0)) := by
      rw [← encB_append, ← encB_append, ← encB_append]
      simp [inoH, inoD]
    rw [eh] at p3
    obtain ⟨v', h', f1, f2⟩ := ref16_Put_loop (g := g) (k := k) (l := l) (s := s) (p := p) (q := N) hd 6 0 N (g ++ [some ⟨inoC k l s p d, true⟩, some ⟨[], true⟩, none, some ⟨encB (bytesI 2 l), true⟩, none, some ⟨encB (bytesI 4 s), true⟩, none, some ⟨encB (bytesI 2 p), true⟩, some ⟨encB (inoH k l s p ++ inoD (d.take 0)), true⟩]) (g.length + 8) (by omega) (by omega)
      (by have := (Low.refl (h := g ++ [some (Row.mk (inoC k l s p d) true)]) (Nat.le_refl _)).new [some ⟨[], true⟩, none, some ⟨encB (bytesI 2 l), true⟩, none, some ⟨encB (bytesI 4 s), true⟩, none, some ⟨encB (bytesI 2 p), true⟩, some ⟨encB (inoH k l s p ++ inoD (d.take 0)), true⟩]
          simpa using this) (by simp) (by simp)
    simp only [afAddr_p, List.append_nil, if_true, if_false, bnd_some, mp_some, cnd_t, cnd_f, gd_no, gd_tt, gd_tf, gd_ft, gd_ff, alenS_s, alen_sl, alen_ns, abin_add, abin_sub, abin_mul, abin_eql, abin_neq, abin_lss, abin_leq, abin_gtr, abin_geq, abin_seql, abin_sneq, abin_slss, aun_not, aun_neg, aeqB_t, aeqB_f, aconv_i, apick_b, cond_true, cond_false, decide_true, decide_false, Bool.not_true, Bool.not_false, aext_t, ofPart_c, ofPart_a, part?_c, part?_a, cells?_c, cells?_a, tupN_2, tupN_3, Option.map_some, Option.some.injEq, List.getElem?_cons_zero, List.getElem?_cons_succ, not_true_eq_false, not_false_eq_true, quiet_same, bytesI_length, Option.join_some, List.append_assoc, List.cons_append, List.nil_append, List.length_append, List.length_cons, List.length_nil, Nat.zero_add, Nat.add_zero, rd_at, rd_at0, set_at, set_at0, List.set_cons_zero, List.set_cons_succ, ne_eq, decide_not, quiet_ext, newOk_some, List.cons_prefix_cons, List.nil_prefix, List.drop_succ_cons, List.drop_zero, List.all_cons, List.all_nil, Bool.and_true, true_and, and_true, Int.cast_ofNat_Int] at b1 b2 b3 p1 p2 p3
    rw [R_escheatref16_Put_eq]
    exact ⟨v', h', by simp only [afAddr_p, List.append_nil, if_true, if_false, bnd_some, mp_some, cnd_t, cnd_f, gd_no, gd_tt, gd_tf, gd_ft, gd_ff, alenS_s, alen_sl, alen_ns, abin_add, abin_sub, abin_mul, abin_eql, abin_neq, abin_lss, abin_leq, abin_gtr, abin_geq, abin_seql, abin_sneq, abin_slss, aun_not, aun_neg, aeqB_t, aeqB_f, aconv_i, apick_b, cond_true, cond_false, decide_true, decide_false, Bool.not_true, Bool.not_false, aext_t, ofPart_c, ofPart_a, part?_c, part?_a, cells?_c, cells?_a, tupN_2, tupN_3, Option.map_some, Option.some.injEq, List.getElem?_cons_zero, List.getElem?_cons_succ, not_true_eq_false, not_false_eq_true, quiet_same, bytesI_length, Option.join_some, List.append_assoc, List.cons_append, List.nil_append, List.length_append, List.length_cons, List.length_nil, Nat.zero_add, Nat.add_zero, rd_at, rd_at0, set_at, set_at0, List.set_cons_zero, List.set_cons_succ, ne_eq, decide_not, quiet_ext, newOk_some, List.cons_prefix_cons, List.nil_prefix, List.drop_succ_cons, List.drop_zero, List.all_cons, List.all_nil, Bool.and_true, true_and, and_true, aloadN_at, aloadN_at0, aload1_at, aload1_at0, astoreN_at, astoreN_at0, astore1_at, astore1_at0, aslA_at, aslA_at0, ldN_all, ld1_row, stN_all, st1_row, slr_all, Nat.reduceAdd, Nat.reduceMul, Nat.reduceLT, e0, ef, b1, p1, b2, p2, b3, p3]; exact f1, f2⟩
  obtain ⟨v, g', e, ho⟩ := key (h.length + 8) (by omega) (ro h)
  exact S_escheatref16_Put_out e (by simpa [ro_length] using ho) (by simp)

theorem atG_field {b : List UInt8} {a w : Nat} (h1 : a + w ≤ b.length) (hw : 1 ≤ w) (hw4 : w ≤ 4) : ((atG b a w : Nat) : Int) = fieldN b a w := by
  unfold atG fieldN
  rw [if_pos ⟨by omega, thereI_true.2 (by omega)⟩]
  simp only [Int.toNat_natCast]

theorem ref16_At {v : Val} {nv : Nat} {b : List UInt8} {h : Heap} (hv : Has h v 1 nv (encB b)) (hb : b.length = 32) (a w : Nat) (h1 : a + w ≤ 32) (hw : 1 ≤ w) (hw4 : w ≤ 4) :
    S_escheatref01_At [v, .c (.i .i64 a), .c (.i .i64 w)] h = some (.c (.i .i64 (fieldN b a w)), h) := by
  rw [ref01_AtG hv (by omega), atG_field (by omega) hw hw4]

theorem ref16_Get_loop {g : Heap} {v : Val} {nv : Nat} {b : List UInt8} {k l s p : Int} {z : List Cell} {q : Nat} (hv : Has g v 1 nv (encB b)) (hb : b.length = 32) (hz : z.length = 11) : ∀ e i m : Nat, i + e = 6 → e < m →
    escheatref16_Get_l0 q m v (.c (.p g.length 0)) (.c (.p (g.length + 1) 0)) (.c (.i .i64 i)) (g ++ [some ⟨z, true⟩, some ⟨inoC k l s p ((getD7 b).take i ++ zI (7 - i)), true⟩]) =
      some (.a (inoC k l s p (getD7 b)), g ++ [some ⟨inoC k l s p (getD7 b), true⟩, some ⟨inoC k l s p (getD7 b), true⟩])
  | e, i, 0, _, hm => by omega
  | 0, i, m + 1, hi, hm => by
    have e0 : i = 6 := by omega
    subst e0
    have h1' : ¬ ((6 : Nat) : Int) < 6 := by omega
    have ha := ref16_At (hv.more [some ⟨z, true⟩, some ⟨inoC k l s p ((getD7 b).take 6 ++ zI (7 - 6)), true⟩]) hb 22 2 (by omega) (by omega) (by omega)
    simp only [Int.cast_ofNat_Int] at ha
    have ho : (encI ((getD7 b).take 6 ++ zI (7 - 6))).length = 7 := by simp [encI_length, getD7_length, zI_length]
    have hg6 : (getD7 b)[6]'(by rw [getD7_length]; omega) = fieldN b 22 2 := by
      have := getD7_get (b := b) (i := 6) (by omega)
      rw [List.getElem?_eq_getElem (by rw [getD7_length]; omega)] at this
      exact Option.some.inj this
    have es : (inoC k l s p ((getD7 b).take 6 ++ zI (7 - 6))).set 10 (.i .i64 (fieldN b 22 2)) = inoC k l s p (getD7 b) := by
      have h1 := inoC_set (k := k) (l := l) (s := s) (p := p) (x := fieldN b 22 2) (d := (getD7 b).take 6 ++ zI (7 - 6)) (i := 6)
      rw [show 4 + 6 = 10 from rfl] at h1
      rw [h1, ← hg6, take_pad_set getD7_length (by omega)]
      have : (getD7 b).take (6 + 1) ++ zI (7 - (6 + 1)) = getD7 b := by rw [List.take_of_length_le (by rw [getD7_length]; omega)]; simp [zI]
      rw [this]
    rw [escheatref16_Get_l0_eq]
    simp only [afAddr_p, List.append_nil, if_true, if_false, bnd_some, mp_some, cnd_t, cnd_f, gd_no, gd_tt, gd_tf, gd_ft, gd_ff, alenS_s, alen_sl, alen_ns, abin_add, abin_sub, abin_mul, abin_eql, abin_neq, abin_lss, abin_leq, abin_gtr, abin_geq, abin_seql, abin_sneq, abin_slss, aun_not, aun_neg, aeqB_t, aeqB_f, aconv_i, apick_b, cond_true, cond_false, decide_true, decide_false, Bool.not_true, Bool.not_false, aext_t, ofPart_c, ofPart_a, part?_c, part?_a, cells?_c, cells?_a, tupN_2, tupN_3, Option.map_some, Option.some.injEq, List.getElem?_cons_zero, List.getElem?_cons_succ, not_true_eq_false, not_false_eq_true, quiet_same, bytesI_length, Option.join_some, List.append_assoc, List.cons_append, List.nil_append, List.length_append, List.length_cons, List.length_nil, Nat.zero_add, Nat.add_zero, rd_at, rd_at0, set_at, set_at0, List.set_cons_zero, List.set_cons_succ, ne_eq, decide_not, quiet_ext, newOk_some, List.cons_prefix_cons, List.nil_prefix, List.drop_succ_cons, List.drop_zero, List.all_cons, List.all_nil, Bool.and_true, true_and, and_true, aloadN_at, aloadN_at0, aload1_at, aload1_at0, astoreN_at, astoreN_at0, astore1_at, astore1_at0, aslA_at, aslA_at0, ldN_all, ld1_row, stN_all, st1_row, slr_all, Nat.reduceAdd, Nat.reduceMul, Nat.reduceLT, h1', ha, ho, es, hz, encI_length, getD7_length]
  | e + 1, i, m + 1, hi, hm => by
    have ih := ref16_Get_loop (k := k) (l := l) (s := s) (p := p) (q := q) hv hb hz e (i + 1) m (by omega) (by omega)
    have h1' : (i : Int) < 6 := by omega
    have e2 : IntKind.wrap .i64 (2 * (i : Int)) = ((2 * i : Nat) : Int) := by rw [wrap_i64 (by omega) (by omega)]; omega
    have e3 : IntKind.wrap .i64 (10 + ((2 * i : Nat) : Int)) = ((10 + 2 * i : Nat) : Int) := by rw [wrap_i64 (by omega) (by omega)]; omega
    have ha := ref16_At (hv.more [some ⟨z, true⟩, some ⟨inoC k l s p ((getD7 b).take i ++ zI (7 - i)), true⟩]) hb (10 + 2 * i) 2 (by omega) (by omega) (by omega)
    rw [show ((2 : Nat) : Int) = 2 from rfl] at ha
    have a1 : aiAddrA 6 1 (.c (.p (g.length + 1) 4)) (.c (.i .i64 (i : Int))) = some (.c (.p (g.length + 1) (4 + i))) := by rw [iAddrA_of (by omega)]; simp
    have ho : (encI ((getD7 b).take i ++ zI (7 - i))).length = 7 := by simp [encI_length, getD7_length, zI_length]; omega
    have ho2 : 4 + i < 11 := by omega
    have hgi : (getD7 b)[i]'(by rw [getD7_length]; omega) = fieldN b (10 + 2 * i) 2 := by
      have := getD7_get (b := b) (i := i) (by omega)
      rw [List.getElem?_eq_getElem (by rw [getD7_length]; omega)] at this
      exact Option.some.inj this
    have es : (inoC k l s p ((getD7 b).take i ++ zI (7 - i))).set (4 + i) (.i .i64 (fieldN b (10 + 2 * i) 2)) = inoC k l s p ((getD7 b).take (i + 1) ++ zI (7 - (i + 1))) := by
      rw [inoC_set, ← hgi, take_pad_set getD7_length (by omega)]
    rw [escheatref16_Get_l0_eq]
    simp only [afAddr_p, List.append_nil, if_true, if_false, bnd_some, mp_some, cnd_t, cnd_f, gd_no, gd_tt, gd_tf, gd_ft, gd_ff, alenS_s, alen_sl, alen_ns, abin_add, abin_sub, abin_mul, abin_eql, abin_neq, abin_lss, abin_leq, abin_gtr, abin_geq, abin_seql, abin_sneq, abin_slss, aun_not, aun_neg, aeqB_t, aeqB_f, aconv_i, apick_b, cond_true, cond_false, decide_true, decide_false, Bool.not_true, Bool.not_false, aext_t, ofPart_c, ofPart_a, part?_c, part?_a, cells?_c, cells?_a, tupN_2, tupN_3, Option.map_some, Option.some.injEq, List.getElem?_cons_zero, List.getElem?_cons_succ, not_true_eq_false, not_false_eq_true, quiet_same, bytesI_length, Option.join_some, List.append_assoc, List.cons_append, List.nil_append, List.length_append, List.length_cons, List.length_nil, Nat.zero_add, Nat.add_zero, rd_at, rd_at0, set_at, set_at0, List.set_cons_zero, List.set_cons_succ, ne_eq, decide_not, quiet_ext, newOk_some, List.cons_prefix_cons, List.nil_prefix, List.drop_succ_cons, List.drop_zero, List.all_cons, List.all_nil, Bool.and_true, true_and, and_true, aloadN_at, aloadN_at0, aload1_at, aload1_at0, astoreN_at, astoreN_at0, astore1_at, astore1_at0, aslA_at, aslA_at0, ldN_all, ld1_row, stN_all, st1_row, slr_all, Nat.reduceAdd, Nat.reduceMul, Nat.reduceLT, h1', e2, e3, ha, a1, ho, ho2, es, wi_succ (show i + 1 < 9223372036854775808 by omega)]
    exact ih

theorem ref16_Get_eq {v : Val} {nv : Nat} {b : List UInt8} {h : Heap} (hv : Has h v 1 nv (encB b)) (hb : b.length = 32) : S_escheatref16_Get [v] h = some (.a (inoC (getK b) (getL b) (getS b) (getP b) (getD7 b)), h) := by
  have key : ∀ N, 7 < N → ∀ g, Has g v 1 nv (encB b) → ∃ g', R_escheatref16_Get N [v] g = some (.a (inoC (getK b) (getL b) (getS b) (getP b) (getD7 b)), g') := by
    intro N hN g hv
    have z11 : [Cell.i .i64 0, .i .i64 0, .i .i64 0, .i .i64 0, .i .i64 0, .i .i64 0, .i .i64 0, .i .i64 0, .i .i64 0, .i .i64 0, .i .i64 0] = inoC 0 0 0 0 (zI 7) := rfl
    have l11 : (inoC 0 0 0 0 (zI 7)).length = 11 := rfl
    have hv1 := hv.more [some ⟨inoC 0 0 0 0 (zI 7), true⟩]
    have a1 := ref16_At hv1 hb 0 1 (by omega) (by omega) (by omega)
    have a2 := ref16_At hv1 hb 2 2 (by omega) (by omega) (by omega)
    have a3 := ref16_At hv1 hb 4 4 (by omega) (by omega) (by omega)
    have a4 := ref16_At hv1 hb 8 2 (by omega) (by omega) (by omega)
    simp only [Int.cast_ofNat_Int] at a1 a2 a3 a4
    have ef : afill (inoC 0 0 0 0 (zI 7)) [(0, 1, .c (.i .i64 (fieldN b 0 1))), (1, 1, .c (.i .i64 (fieldN b 2 2))), (2, 1, .c (.i .i64 (fieldN b 4 4))), (3, 1, .c (.i .i64 (fieldN b 8 2)))] = some (inoC (getK b) (getL b) (getS b) (getP b) (zI 7)) := rfl
    have lf : (inoC (getK b) (getL b) (getS b) (getP b) (zI 7)).length = 11 := rfl
    have := ref16_Get_loop (k := getK b) (l := getL b) (s := getS b) (p := getP b) (z := inoC 0 0 0 0 (zI 7)) (q := N) hv hb l11 6 0 N (by omega) (by omega)
    simp only [List.take_zero, List.nil_append, Nat.sub_zero] at this
    rw [R_escheatref16_Get_eq, z11]
    generalize inoC 0 0 0 0 (zI 7) = y at *
    exact ⟨_, by simp only [afAddr_p, List.append_nil, if_true, if_false, bnd_some, mp_some, cnd_t, cnd_f, gd_no, gd_tt, gd_tf, gd_ft, gd_ff, alenS_s, alen_sl, alen_ns, abin_add, abin_sub, abin_mul, abin_eql, abin_neq, abin_lss, abin_leq, abin_gtr, abin_geq, abin_seql, abin_sneq, abin_slss, aun_not, aun_neg, aeqB_t, aeqB_f, aconv_i, apick_b, cond_true, cond_false, decide_true, decide_false, Bool.not_true, Bool.not_false, aext_t, ofPart_c, ofPart_a, part?_c, part?_a, cells?_c, cells?_a, tupN_2, tupN_3, Option.map_some, Option.some.injEq, List.getElem?_cons_zero, List.getElem?_cons_succ, not_true_eq_false, not_false_eq_true, quiet_same, bytesI_length, Option.join_some, List.append_assoc, List.cons_append, List.nil_append, List.length_append, List.length_cons, List.length_nil, Nat.zero_add, Nat.add_zero, rd_at, rd_at0, set_at, set_at0, List.set_cons_zero, List.set_cons_succ, ne_eq, decide_not, quiet_ext, newOk_some, List.cons_prefix_cons, List.nil_prefix, List.drop_succ_cons, List.drop_zero, List.all_cons, List.all_nil, Bool.and_true, true_and, and_true, aloadN_at, aloadN_at0, aload1_at, aload1_at0, astoreN_at, astoreN_at0, astore1_at, astore1_at0, aslA_at, aslA_at0, ldN_all, ld1_row, stN_all, st1_row, slr_all, Nat.reduceAdd, Nat.reduceMul, Nat.reduceLT, a1, a2, a3, a4, ef, l11, lf]; exact this⟩
  obtain ⟨g', e⟩ := key (h.length + 8) (by omega) (ro h) hv.ro
  exact S_escheatref16_Get_flat e (by simp)

theorem ref16_Clean_eq {v : Val} {nv : Nat} {b : List UInt8} {h : Heap} (hv : Has h v 1 nv (encB b)) (hb : b.length = 32) : S_escheatref16_Clean [v] h = some (.t [.a (cleanC b), .c (.b (cleanI b))], h) := by
  have key : ∀ g, Has g v 1 nv (encB b) → ∃ g', R_escheatref16_Clean 0 [v] g = some (.t [.a (cleanC b), .c (.b (cleanI b))], g') := by
    intro g hv
    have hI : (inoC (getK b) (getL b) (getS b) (getP b) (getD7 b)).length = 11 := by simp [encI_length, getD7_length]
    have z11 : [Cell.i .i64 0, .i .i64 0, .i .i64 0, .i .i64 0, .i .i64 0, .i .i64 0, .i .i64 0, .i .i64 0, .i .i64 0, .i .i64 0, .i .i64 0] = inoC 0 0 0 0 (zI 7) := rfl
    have l11 : (inoC 0 0 0 0 (zI 7)).length = 11 := rfl
    have af := afill_ino
    rw [z11] at af
    have hg := ref16_Get_eq (hv.more [some ⟨inoC 0 0 0 0 (zI 7), true⟩]) hb
    have hm := fun h => ref16_May_eq (h := h) (k := getK b) (l := getL b) (s := getS b) (p := getP b) (d := getD7 b) getD7_length
    have hp := fun h => ref16_Put_eq (h := h) (k := getK b) (l := getL b) (s := getS b) (p := getP b) (d := getD7 b) getD7_length
    have hB : (inoB (getK b) (getL b) (getS b) (getP b) (getD7 b)).length = 32 := inoB_length getD7_length
    rw [R_escheatref16_Clean_eq, z11]
    unfold cleanC cleanI
    cases c : mayI (getK b) (getL b) (getS b) (getP b) (getD7 b) with
    | false =>
      simp only [c] at hm
      generalize inoC 0 0 0 0 (zI 7) = y at *
      exact ⟨_, by simp only [afAddr_p, List.append_nil, if_true, if_false, bnd_some, mp_some, cnd_t, cnd_f, gd_no, gd_tt, gd_tf, gd_ft, gd_ff, alenS_s, alen_sl, alen_ns, abin_add, abin_sub, abin_mul, abin_eql, abin_neq, abin_lss, abin_leq, abin_gtr, abin_geq, abin_seql, abin_sneq, abin_slss, aun_not, aun_neg, aeqB_t, aeqB_f, aconv_i, apick_b, cond_true, cond_false, decide_true, decide_false, Bool.not_true, Bool.not_false, aext_t, ofPart_c, ofPart_a, part?_c, part?_a, cells?_c, cells?_a, tupN_2, tupN_3, Option.map_some, Option.some.injEq, List.getElem?_cons_zero, List.getElem?_cons_succ, not_true_eq_false, not_false_eq_true, quiet_same, bytesI_length, Option.join_some, List.append_assoc, List.cons_append, List.nil_append, List.length_append, List.length_cons, List.length_nil, Nat.zero_add, Nat.add_zero, rd_at, rd_at0, set_at, set_at0, List.set_cons_zero, List.set_cons_succ, ne_eq, decide_not, quiet_ext, newOk_some, List.cons_prefix_cons, List.nil_prefix, List.drop_succ_cons, List.drop_zero, List.all_cons, List.all_nil, Bool.and_true, true_and, and_true, aloadN_at, aloadN_at0, aload1_at, aload1_at0, astoreN_at, astoreN_at0, astore1_at, astore1_at0, aslA_at, aslA_at0, ldN_all, ld1_row, stN_all, st1_row, slr_all, Nat.reduceAdd, Nat.reduceMul, Nat.reduceLT, hg, hI, l11, hm, af, Bool.false_and] <;> rfl⟩
    | true =>
      simp only [c] at hm
      have hS := ref01_Same_eq (h := g ++ [some ⟨inoC 0 0 0 0 (zI 7), true⟩, some ⟨inoC (getK b) (getL b) (getS b) (getP b) (getD7 b), true⟩, some ⟨encB (inoB (getK b) (getL b) (getS b) (getP b) (getD7 b)), true⟩]) (v := .c (.sl (g.length + 2) 0 32 1)) (nv := 32) (u := v) (nu := nv) (l := inoB (getK b) (getL b) (getS b) (getP b) (getD7 b)) (r := b)
        (Has.tr (by simp) (by rw [encB_length, hB]) (noX_encB _)) (hv.more _) (by rw [hB]; omega)
      generalize inoC 0 0 0 0 (zI 7) = y at *
      cases c2 : decide (inoB (getK b) (getL b) (getS b) (getP b) (getD7 b) = b) with
      | false =>
        rw [c2] at hS
        exact ⟨_, by simp only [afAddr_p, List.append_nil, if_true, if_false, bnd_some, mp_some, cnd_t, cnd_f, gd_no, gd_tt, gd_tf, gd_ft, gd_ff, alenS_s, alen_sl, alen_ns, abin_add, abin_sub, abin_mul, abin_eql, abin_neq, abin_lss, abin_leq, abin_gtr, abin_geq, abin_seql, abin_sneq, abin_slss, aun_not, aun_neg, aeqB_t, aeqB_f, aconv_i, apick_b, cond_true, cond_false, decide_true, decide_false, Bool.not_true, Bool.not_false, aext_t, ofPart_c, ofPart_a, part?_c, part?_a, cells?_c, cells?_a, tupN_2, tupN_3, Option.map_some, Option.some.injEq, List.getElem?_cons_zero, List.getElem?_cons_succ, not_true_eq_false, not_false_eq_true, quiet_same, bytesI_length, Option.join_some, List.append_assoc, List.cons_append, List.nil_append, List.length_append, List.length_cons, List.length_nil, Nat.zero_add, Nat.add_zero, rd_at, rd_at0, set_at, set_at0, List.set_cons_zero, List.set_cons_succ, ne_eq, decide_not, quiet_ext, newOk_some, List.cons_prefix_cons, List.nil_prefix, List.drop_succ_cons, List.drop_zero, List.all_cons, List.all_nil, Bool.and_true, true_and, and_true, aloadN_at, aloadN_at0, aload1_at, aload1_at0, astoreN_at, astoreN_at0, astore1_at, astore1_at0, aslA_at, aslA_at0, ldN_all, ld1_row, stN_all, st1_row, slr_all, Nat.reduceAdd, Nat.reduceMul, Nat.reduceLT, hg, hI, l11, hm, hp, hS, af, Bool.and_false] <;> rfl⟩
      | true =>
        rw [c2] at hS
        exact ⟨_, by simp only [afAddr_p, List.append_nil, if_true, if_false, bnd_some, mp_some, cnd_t, cnd_f, gd_no, gd_tt, gd_tf, gd_ft, gd_ff, alenS_s, alen_sl, alen_ns, abin_add, abin_sub, abin_mul, abin_eql, abin_neq, abin_lss, abin_leq, abin_gtr, abin_geq, abin_seql, abin_sneq, abin_slss, aun_not, aun_neg, aeqB_t, aeqB_f, aconv_i, apick_b, cond_true, cond_false, decide_true, decide_false, Bool.not_true, Bool.not_false, aext_t, ofPart_c, ofPart_a, part?_c, part?_a, cells?_c, cells?_a, tupN_2, tupN_3, Option.map_some, Option.some.injEq, List.getElem?_cons_zero, List.getElem?_cons_succ, not_true_eq_false, not_false_eq_true, quiet_same, bytesI_length, Option.join_some, List.append_assoc, List.cons_append, List.nil_append, List.length_append, List.length_cons, List.length_nil, Nat.zero_add, Nat.add_zero, rd_at, rd_at0, set_at, set_at0, List.set_cons_zero, List.set_cons_succ, ne_eq, decide_not, quiet_ext, newOk_some, List.cons_prefix_cons, List.nil_prefix, List.drop_succ_cons, List.drop_zero, List.all_cons, List.all_nil, Bool.and_true, true_and, and_true, aloadN_at, aloadN_at0, aload1_at, aload1_at0, astoreN_at, astoreN_at0, astore1_at, astore1_at0, aslA_at, aslA_at0, ldN_all, ld1_row, stN_all, st1_row, slr_all, Nat.reduceAdd, Nat.reduceMul, Nat.reduceLT, hg, hI, l11, hm, hp, hS, Bool.and_true] <;> rfl⟩
  obtain ⟨g', e⟩ := key (ro h) hv.ro
  exact S_escheatref16_Clean_flat e (by simp [flats_cleanC])

end Go.Proofs.Ytbbkpmbepljhkaa
