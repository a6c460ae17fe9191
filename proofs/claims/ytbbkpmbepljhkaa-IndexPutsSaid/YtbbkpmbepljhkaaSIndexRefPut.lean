/- The document's answers of the chapter of indexes: an index as a block, and the index of a block. -/
import Derived.Test.YtbbkpmbepljhkaaSIndexIs
import Derived.Test.YtbbkpmbepljhkaaSIndexPut
import Derived.Test.YtbbkpmbepljhkaaSConv
import Derived.Test.YtbbkpmbepljhkaaSRef01
set_option linter.all false
namespace Go.Proofs.Ytbbkpmbepljhkaa
open Go Go.Esc

theorem ref19_Fine_eq {n : Int} {h : Heap} : S_escheatref19_Fine [.c (.i .i64 n)] h = some (.c (.b (finI n)), h) := by
  refine S_escheatref19_Fine_flat (n := 0) (h2 := ro h) ?_ rfl
  rw [R_escheatref19_Fine_eq]
  unfold finI
  by_cases c : 0 ≤ n
  · simp only [afAddr_p, List.append_nil, if_true, if_false, bnd_some, mp_some, cnd_t, cnd_f, gd_no, gd_tt, gd_tf, gd_ft, gd_ff, alenS_s, alen_sl, alen_ns, abin_add, abin_sub, abin_mul, abin_eql, abin_neq, abin_lss, abin_leq, abin_gtr, abin_geq, abin_seql, abin_sneq, abin_slss, aun_not, aun_neg, agn_some, aeqN_nf, aeqN_f, aeqN_np, aeqN_p, anilc_p, aeqB_t, aeqB_f, aconv_i, apick_b, cond_true, cond_false, decide_true, decide_false, Bool.not_true, Bool.not_false, aext_t, ofPart_c, ofPart_a, part?_c, part?_a, cells?_c, cells?_a, tupN_2, tupN_3, Option.map_some, Option.some.injEq, List.getElem?_cons_zero, List.getElem?_cons_succ, not_true_eq_false, not_false_eq_true, quiet_same, bytesI_length, Option.join_some, List.append_assoc, List.cons_append, List.nil_append, List.length_append, List.length_cons, List.length_nil, Nat.zero_add, Nat.add_zero, rd_at, rd_at0, set_at, set_at0, List.set_cons_zero, List.set_cons_succ, ne_eq, decide_not, quiet_ext, newOk_some, List.cons_prefix_cons, List.nil_prefix, List.drop_succ_cons, List.drop_zero, List.all_cons, List.all_nil, Bool.and_true, true_and, and_true, c, Bool.true_and]
  · simp only [afAddr_p, List.append_nil, if_true, if_false, bnd_some, mp_some, cnd_t, cnd_f, gd_no, gd_tt, gd_tf, gd_ft, gd_ff, alenS_s, alen_sl, alen_ns, abin_add, abin_sub, abin_mul, abin_eql, abin_neq, abin_lss, abin_leq, abin_gtr, abin_geq, abin_seql, abin_sneq, abin_slss, aun_not, aun_neg, agn_some, aeqN_nf, aeqN_f, aeqN_np, aeqN_p, anilc_p, aeqB_t, aeqB_f, aconv_i, apick_b, cond_true, cond_false, decide_true, decide_false, Bool.not_true, Bool.not_false, aext_t, ofPart_c, ofPart_a, part?_c, part?_a, cells?_c, cells?_a, tupN_2, tupN_3, Option.map_some, Option.some.injEq, List.getElem?_cons_zero, List.getElem?_cons_succ, not_true_eq_false, not_false_eq_true, quiet_same, bytesI_length, Option.join_some, List.append_assoc, List.cons_append, List.nil_append, List.length_append, List.length_cons, List.length_nil, Nat.zero_add, Nat.add_zero, rd_at, rd_at0, set_at, set_at0, List.set_cons_zero, List.set_cons_succ, ne_eq, decide_not, quiet_ext, newOk_some, List.cons_prefix_cons, List.nil_prefix, List.drop_succ_cons, List.drop_zero, List.all_cons, List.all_nil, Bool.and_true, true_and, and_true, c, Bool.false_and]

theorem appZ_of {h : Heap} {id n m : Nat} {cs : List Cell} (hr : rd h id = some ⟨cs, true⟩) (hl : cs.length = n) (hn : n + m ≤ 1073741824) :
    aappZ h 1 [.i .u8 0] (.c (.sl id 0 n 1)) (.c (.i .i64 (m : Int))) = some (.c (.sl h.length 0 (n + m) 1), h.set id none ++ [some ⟨cs ++ encB (zeros m), true⟩]) := by
  have hm : nat? (.c (.i .i64 (m : Int))) = some m := by simp only [nat?]; rw [if_pos (by omega)]; simp
  have hz := rows_zero m
  simp only [aappZ, hm, Option.bind_some, hr, hz]
  rw [if_pos ⟨trivial, trivial, by omega, trivial, hn⟩]

theorem rput_loop {d : Int} {t : List Int} {g : Heap} {q : Nat} (ht : t.length = 32) : ∀ (e i m : Nat) (h : Heap) (id : Nat), i + e = 32 → e < m → Low (g ++ [some (Row.mk (encI (d :: t)) true)]).length (g ++ [some (Row.mk (encI (d :: t)) true)]) h → (g ++ [some (Row.mk (encI (d :: t)) true)]).length ≤ id → rd h id = some ⟨encB (idxH d ++ numB (t.take i)), true⟩ →
    ∃ j h', escheatref19_Put_l0 q m (.c (.p g.length 0)) (.c (.sl id 0 (32 + 2 * i) 1)) (.c (.i .i64 (i : Int))) h = some (.t [.c (.sl j 0 (bif (t.drop i).all finI then 256 else 0) 1), .c (.b ((t.drop i).all finI))], h') ∧
      Out g.length h' (.c (.sl j 0 (bif (t.drop i).all finI then 256 else 0) 1)) 1 (bif (t.drop i).all finI then 256 else 0) (encB (bif (t.drop i).all finI then idxB d t else []))
  | e, i, 0, h, id, _, hm, _, _, _ => by omega
  | 0, i, m + 1, h, id, hi, hm, hlow, hid, hr => by
    have e0 : i = 32 := by omega
    subst e0
    have c0 : ¬ ((32 : Nat) : Int) < 32 := by omega
    have mk : amkn (.c (.i .i64 256)) (.c (.i .i64 256)) = some 256 := rfl
    have rz := rows_zero 256
    have zl : (zeros 256).length = 256 := zeros_length
    rw [List.take_of_length_le (by omega)] at hr
    have hnl : (idxH d ++ numB t).length = 96 := by rw [List.length_append, idxH_length, numB_length]; omega
    have hL := ref01_Lay_eq (h := h ++ [some (Row.mk (encB (zeros 256)) true)]) (v := .c (.sl h.length 0 256 1)) (nv := 256) (l := zeros 256) (u := .c (.sl id 0 (32 + 2 * 32) 1)) (nu := 32 + 2 * 32) (data := idxH d ++ numB t) (Has.tr (by simp) (by rw [encB_length]; exact zeros_length) (noX_encB _)) (Has.tr (rd_append hr) (by rw [encB_length, hnl]) (noX_encB _)) (a := 0) (by omega) (by omega)
    have eL : layR (zeros 256) 0 (idxH d ++ numB t) = idxB d t := by
      have h1 := layR_layB (l := zeros 256) (xs := idxH d ++ numB t) (a := 0) (by omega)
      have h2 := padB_lay (l := []) (xs := idxH d ++ numB t) (a := 0) (by simp) (by omega)
      rw [show ((0 : Nat) : Int) = 0 from rfl] at h1
      rw [h1, ← padB_nil, h2, List.length_nil, Nat.sub_self, show zeros 0 = [] from rfl, List.append_nil, List.nil_append]; rfl
    rw [eL, zl] at hL
    have hil := idxB_length (d := d) ht
    rw [escheatref19_Put_l0_eq, List.drop_of_length_le (by omega), List.all_nil]
    simp only [cond_true]
    rw [List.length_append] at hid
    have hll := hlow.2.1
    rw [List.length_append] at hll
    simp only [List.length_cons, List.length_nil] at hll hid
    refine ⟨h.length + 1, h ++ [some (Row.mk (encB (zeros 256)) true), some (Row.mk (encB (idxB d t)) true)], ?_, by rw [encB_length, hil], _, rfl, by omega, by simp⟩
    generalize idxB d t = P at *
    generalize zeros 256 = z at *
    simp only [afAddr_p, List.append_nil, if_true, if_false, bnd_some, mp_some, cnd_t, cnd_f, gd_no, gd_tt, gd_tf, gd_ft, gd_ff, alenS_s, alen_sl, alen_ns, abin_add, abin_sub, abin_mul, abin_eql, abin_neq, abin_lss, abin_leq, abin_gtr, abin_geq, abin_seql, abin_sneq, abin_slss, aun_not, aun_neg, agn_some, aeqN_nf, aeqN_f, aeqN_np, aeqN_p, anilc_p, aeqB_t, aeqB_f, aconv_i, apick_b, cond_true, cond_false, decide_true, decide_false, Bool.not_true, Bool.not_false, aext_t, ofPart_c, ofPart_a, part?_c, part?_a, cells?_c, cells?_a, tupN_2, tupN_3, Option.map_some, Option.some.injEq, List.getElem?_cons_zero, List.getElem?_cons_succ, not_true_eq_false, not_false_eq_true, quiet_same, bytesI_length, Option.join_some, List.append_assoc, List.cons_append, List.nil_append, List.length_append, List.length_cons, List.length_nil, Nat.zero_add, Nat.add_zero, rd_at, rd_at0, set_at, set_at0, List.set_cons_zero, List.set_cons_succ, ne_eq, decide_not, quiet_ext, newOk_some, List.cons_prefix_cons, List.nil_prefix, List.drop_succ_cons, List.drop_zero, List.all_cons, List.all_nil, Bool.and_true, true_and, and_true] at hL
    simp only [afAddr_p, List.append_nil, if_true, if_false, bnd_some, mp_some, cnd_t, cnd_f, gd_no, gd_tt, gd_tf, gd_ft, gd_ff, alenS_s, alen_sl, alen_ns, abin_add, abin_sub, abin_mul, abin_eql, abin_neq, abin_lss, abin_leq, abin_gtr, abin_geq, abin_seql, abin_sneq, abin_slss, aun_not, aun_neg, agn_some, aeqN_nf, aeqN_f, aeqN_np, aeqN_p, anilc_p, aeqB_t, aeqB_f, aconv_i, apick_b, cond_true, cond_false, decide_true, decide_false, Bool.not_true, Bool.not_false, aext_t, ofPart_c, ofPart_a, part?_c, part?_a, cells?_c, cells?_a, tupN_2, tupN_3, Option.map_some, Option.some.injEq, List.getElem?_cons_zero, List.getElem?_cons_succ, not_true_eq_false, not_false_eq_true, quiet_same, bytesI_length, Option.join_some, List.append_assoc, List.cons_append, List.nil_append, List.length_append, List.length_cons, List.length_nil, Nat.zero_add, Nat.add_zero, rd_at, rd_at0, set_at, set_at0, List.set_cons_zero, List.set_cons_succ, ne_eq, decide_not, quiet_ext, newOk_some, List.cons_prefix_cons, List.nil_prefix, List.drop_succ_cons, List.drop_zero, List.all_cons, List.all_nil, Bool.and_true, true_and, and_true, aloadN_at, aloadN_at0, aload1_at, aload1_at0, astoreN_at, astoreN_at0, astore1_at, astore1_at0, aslA_at, aslA_at0, ldN_all, ld1_row, stN_all, st1_row, slr_all, Nat.reduceAdd, Nat.reduceMul, Nat.reduceLT, c0, mk, rz, hL]
  | e + 1, i, m + 1, h, id, hi, hm, hlow, hid, hr => by
    have c0 : (i : Int) < 32 := by omega
    have hrd : rd h g.length = some ⟨encI (d :: t), true⟩ := hlow.rd (by simp)
    have a1 := adX (id := g.length) (i := i) (by omega)
    have l1 := ldX (h := h) (id := g.length) hrd ht (i := i) (by omega)
    have et : toX t i = t[i] := by unfold toX; rw [List.getD_eq_getElem?_getD, List.getElem?_eq_getElem (by omega)]; rfl
    rw [et] at l1
    have hF := fun h => ref19_Fine_eq (n := t[i]) (h := h)
    rw [escheatref19_Put_l0_eq, List.drop_eq_getElem_cons (by omega : i < t.length), List.all_cons]
    have hll := hlow.2.1
    rw [List.length_append] at hll
    simp only [List.length_cons, List.length_nil] at hll
    cases c : finI t[i] with
    | false =>
      rw [c] at hF
      rw [Bool.false_and]
      simp only [cond_false]
      refine ⟨h.length, h ++ [some (Row.mk [] true)], ?_, rfl, _, rfl, by omega, by simp [encB]⟩
      generalize encI (d :: t) = y at *
      simp only [afAddr_p, List.append_nil, if_true, if_false, bnd_some, mp_some, cnd_t, cnd_f, gd_no, gd_tt, gd_tf, gd_ft, gd_ff, alenS_s, alen_sl, alen_ns, abin_add, abin_sub, abin_mul, abin_eql, abin_neq, abin_lss, abin_leq, abin_gtr, abin_geq, abin_seql, abin_sneq, abin_slss, aun_not, aun_neg, agn_some, aeqN_nf, aeqN_f, aeqN_np, aeqN_p, anilc_p, aeqB_t, aeqB_f, aconv_i, apick_b, cond_true, cond_false, decide_true, decide_false, Bool.not_true, Bool.not_false, aext_t, ofPart_c, ofPart_a, part?_c, part?_a, cells?_c, cells?_a, tupN_2, tupN_3, Option.map_some, Option.some.injEq, List.getElem?_cons_zero, List.getElem?_cons_succ, not_true_eq_false, not_false_eq_true, quiet_same, bytesI_length, Option.join_some, List.append_assoc, List.cons_append, List.nil_append, List.length_append, List.length_cons, List.length_nil, Nat.zero_add, Nat.add_zero, rd_at, rd_at0, set_at, set_at0, List.set_cons_zero, List.set_cons_succ, ne_eq, decide_not, quiet_ext, newOk_some, List.cons_prefix_cons, List.nil_prefix, List.drop_succ_cons, List.drop_zero, List.all_cons, List.all_nil, Bool.and_true, true_and, and_true, c0, a1, l1, hF]
    | true =>
      rw [c] at hF
      rw [Bool.true_and]
      have hnl : (idxH d ++ numB (t.take i)).length = 32 + 2 * i := by rw [List.length_append, idxH_length, numB_length, List.length_take]; omega
      have hb := fun h => bytes_conv (w := 2) (v := t[i]) (h := h) (by omega)
      simp only [Int.cast_ofNat_Int] at hb
      obtain ⟨h1', b1, b2, b3, b4, b5⟩ := pushN (ys := encB (bytesI 2 t[i])) (m := 2) (sz := 1) (n := 32 + 2 * i) hlow hr (by rw [encB_length, hnl]; omega) hid (by simp [encB_length]) (by omega) (by omega)
      rw [← encB_append, List.append_assoc, ← numB_snoc, ← List.take_succ_eq_append_getElem (by omega)] at b2
      obtain ⟨j, h', f1, f2⟩ := rput_loop (q := q) ht e (i + 1) m h1' (h.length + 1) (by omega) (by omega) b3 b4 b2
      rw [show 32 + 2 * (i + 1) = 32 + 2 * i + 2 by omega] at f1
      refine ⟨j, h', ?_, f2⟩
      generalize encI (d :: t) = y at *
      simp only [afAddr_p, List.append_nil, if_true, if_false, bnd_some, mp_some, cnd_t, cnd_f, gd_no, gd_tt, gd_tf, gd_ft, gd_ff, alenS_s, alen_sl, alen_ns, abin_add, abin_sub, abin_mul, abin_eql, abin_neq, abin_lss, abin_leq, abin_gtr, abin_geq, abin_seql, abin_sneq, abin_slss, aun_not, aun_neg, agn_some, aeqN_nf, aeqN_f, aeqN_np, aeqN_p, anilc_p, aeqB_t, aeqB_f, aconv_i, apick_b, cond_true, cond_false, decide_true, decide_false, Bool.not_true, Bool.not_false, aext_t, ofPart_c, ofPart_a, part?_c, part?_a, cells?_c, cells?_a, tupN_2, tupN_3, Option.map_some, Option.some.injEq, List.getElem?_cons_zero, List.getElem?_cons_succ, not_true_eq_false, not_false_eq_true, quiet_same, bytesI_length, Option.join_some, List.append_assoc, List.cons_append, List.nil_append, List.length_append, List.length_cons, List.length_nil, Nat.zero_add, Nat.add_zero, rd_at, rd_at0, set_at, set_at0, List.set_cons_zero, List.set_cons_succ, ne_eq, decide_not, quiet_ext, newOk_some, List.cons_prefix_cons, List.nil_prefix, List.drop_succ_cons, List.drop_zero, List.all_cons, List.all_nil, Bool.and_true, true_and, and_true, c0, a1, l1, hF, hb, b1, wi_succ (show i + 1 < 9223372036854775808 by omega)]
      exact f1

theorem ref19_Put_eq {d : Int} {t : List Int} {h : Heap} (ht : t.length = 32) : S_escheatref19_Put [.a (encI (d :: t))] h = some (.t [.c (.sl h.length 0 (bif okX d t then 256 else 0) 1), .c (.b (okX d t))], h ++ [some ⟨encB (bif okX d t then idxB d t else []), true⟩]) := by
  have key : ∀ N, 32 < N → ∀ g, ∃ j g', R_escheatref19_Put N [.a (encI (d :: t))] g = some (.t [.c (.sl j 0 (bif okX d t then 256 else 0) 1), .c (.b (okX d t))], g') ∧ Out g.length g' (.c (.sl j 0 (bif okX d t then 256 else 0) 1)) 1 (bif okX d t then 256 else 0) (encB (bif okX d t then idxB d t else [])) := by
    intro N hN g
    have l0 : (encI (d :: t))[0]? = some (.i .i64 d) := rfl
    rw [R_escheatref19_Put_eq]
    unfold okX
    by_cases c1 : d < 0
    · rw [decide_eq_false (show ¬ 0 ≤ d by omega), Bool.false_and]
      simp only [cond_false]
      refine ⟨g.length + 2, g ++ [some (Row.mk (encI (d :: t)) true), some (Row.mk [] true), some (Row.mk [] true)], ?_, rfl, _, rfl, by omega, by simp [encB]⟩
      generalize encI (d :: t) = y at *
      simp only [afAddr_p, List.append_nil, if_true, if_false, bnd_some, mp_some, cnd_t, cnd_f, gd_no, gd_tt, gd_tf, gd_ft, gd_ff, alenS_s, alen_sl, alen_ns, abin_add, abin_sub, abin_mul, abin_eql, abin_neq, abin_lss, abin_leq, abin_gtr, abin_geq, abin_seql, abin_sneq, abin_slss, aun_not, aun_neg, agn_some, aeqN_nf, aeqN_f, aeqN_np, aeqN_p, anilc_p, aeqB_t, aeqB_f, aconv_i, apick_b, cond_true, cond_false, decide_true, decide_false, Bool.not_true, Bool.not_false, aext_t, ofPart_c, ofPart_a, part?_c, part?_a, cells?_c, cells?_a, tupN_2, tupN_3, Option.map_some, Option.some.injEq, List.getElem?_cons_zero, List.getElem?_cons_succ, not_true_eq_false, not_false_eq_true, quiet_same, bytesI_length, Option.join_some, List.append_assoc, List.cons_append, List.nil_append, List.length_append, List.length_cons, List.length_nil, Nat.zero_add, Nat.add_zero, rd_at, rd_at0, set_at, set_at0, List.set_cons_zero, List.set_cons_succ, ne_eq, decide_not, quiet_ext, newOk_some, List.cons_prefix_cons, List.nil_prefix, List.drop_succ_cons, List.drop_zero, List.all_cons, List.all_nil, Bool.and_true, true_and, and_true, aloadN_at, aloadN_at0, aload1_at, aload1_at0, astoreN_at, astoreN_at0, astore1_at, astore1_at0, aslA_at, aslA_at0, ldN_all, ld1_row, stN_all, st1_row, slr_all, Nat.reduceAdd, Nat.reduceMul, Nat.reduceLT, l0, c1]
    · rw [decide_eq_true (show 0 ≤ d by omega), Bool.true_and]
      by_cases c2 : 5 < d
      · rw [decide_eq_false (show ¬ d ≤ 5 by omega), Bool.false_and]
        simp only [cond_false]
        refine ⟨g.length + 2, g ++ [some (Row.mk (encI (d :: t)) true), some (Row.mk [] true), some (Row.mk [] true)], ?_, rfl, _, rfl, by omega, by simp [encB]⟩
        generalize encI (d :: t) = y at *
        simp only [afAddr_p, List.append_nil, if_true, if_false, bnd_some, mp_some, cnd_t, cnd_f, gd_no, gd_tt, gd_tf, gd_ft, gd_ff, alenS_s, alen_sl, alen_ns, abin_add, abin_sub, abin_mul, abin_eql, abin_neq, abin_lss, abin_leq, abin_gtr, abin_geq, abin_seql, abin_sneq, abin_slss, aun_not, aun_neg, agn_some, aeqN_nf, aeqN_f, aeqN_np, aeqN_p, anilc_p, aeqB_t, aeqB_f, aconv_i, apick_b, cond_true, cond_false, decide_true, decide_false, Bool.not_true, Bool.not_false, aext_t, ofPart_c, ofPart_a, part?_c, part?_a, cells?_c, cells?_a, tupN_2, tupN_3, Option.map_some, Option.some.injEq, List.getElem?_cons_zero, List.getElem?_cons_succ, not_true_eq_false, not_false_eq_true, quiet_same, bytesI_length, Option.join_some, List.append_assoc, List.cons_append, List.nil_append, List.length_append, List.length_cons, List.length_nil, Nat.zero_add, Nat.add_zero, rd_at, rd_at0, set_at, set_at0, List.set_cons_zero, List.set_cons_succ, ne_eq, decide_not, quiet_ext, newOk_some, List.cons_prefix_cons, List.nil_prefix, List.drop_succ_cons, List.drop_zero, List.all_cons, List.all_nil, Bool.and_true, true_and, and_true, aloadN_at, aloadN_at0, aload1_at, aload1_at0, astoreN_at, astoreN_at0, astore1_at, astore1_at0, aslA_at, aslA_at0, ldN_all, ld1_row, stN_all, st1_row, slr_all, Nat.reduceAdd, Nat.reduceMul, Nat.reduceLT, l0, c1, c2]
      · rw [decide_eq_true (show d ≤ 5 by omega), Bool.true_and]
        have ef : afill [Cell.i .u8 0, .i .u8 0, .i .u8 0, .i .u8 0] [(0, 1, .c (.i .u8 105)), (1, 1, .c (.i .u8 100)), (2, 1, .c (.i .u8 120)), (3, 1, .c (.i .u8 33))] = some (encB magX) := rfl
        have b0 : IntKind.wrap .u8 d = ((byI d 0).toNat : Int) := by rw [wrap_u8_mod, byI_int]; simp
        have ef1 : afill [Cell.i .u8 0] [(0, 1, .c (.i .u8 ((byI d 0).toNat : Int)))] = some (encB (bytesI 1 d)) := rfl
        have hM : amark (g ++ [some (Row.mk (encI (d :: t)) true), some (Row.mk [] true), some (Row.mk (encB magX) true)]) (.c (.sl (g.length + 2) 0 4 1)) = some (.c (.sl (g.length + 2) 0 4 1)) := by simp [amark]
        have hA := app_of (h := g ++ [some (Row.mk (encI (d :: t)) true), some (Row.mk [] true), some (Row.mk (encB magX) true), some (Row.mk (encB (bytesI 1 d)) true)]) (id := g.length + 2) (jd := g.length + 3) (n := 4) (m := 1) (sz := 1) (cs := encB magX) (ys := encB (bytesI 1 d)) (rw := true) (by simp) rfl (by simp) (by simp [encB_length]) rfl (by omega) (by omega)
        simp only [List.length_append, List.length_cons, List.length_nil, Nat.zero_add, List.append_assoc, List.cons_append, List.nil_append, set_at, List.set_cons_succ, List.set_cons_zero, Nat.reduceAdd, ← encB_append] at hA
        have hZ := appZ_of (h := g ++ [some (Row.mk (encI (d :: t)) true), some (Row.mk [] true), none, some (Row.mk (encB (bytesI 1 d)) true), some (Row.mk (encB (magX ++ bytesI 1 d)) true)]) (id := g.length + 4) (n := 5) (m := 27) (cs := encB (magX ++ bytesI 1 d)) (by simp) (by rw [encB_length]; simp [magX]) (by omega)
        simp only [List.length_append, List.length_cons, List.length_nil, Nat.zero_add, List.append_assoc, List.cons_append, List.nil_append, set_at, List.set_cons_succ, List.set_cons_zero, Nat.reduceAdd, ← encB_append] at hZ
        rw [show ((27 : Nat) : Int) = 27 from rfl] at hZ
        obtain ⟨j, g', f1, f2⟩ := rput_loop (g := g) (d := d) (t := t) (q := N) ht 32 0 N (g ++ [some (Row.mk (encI (d :: t)) true), some (Row.mk [] true), none, some (Row.mk (encB (bytesI 1 d)) true), none, some (Row.mk (encB (magX ++ (bytesI 1 d ++ zeros 27))) true)]) (g.length + 5) (by omega) hN
          (by have := (Low.refl (h := g ++ [some (Row.mk (encI (d :: t)) true)]) (Nat.le_refl _)).new [some (Row.mk [] true), none, some (Row.mk (encB (bytesI 1 d)) true), none, some (Row.mk (encB (magX ++ (bytesI 1 d ++ zeros 27))) true)]
              simpa using this) (by simp) (by simp [idxH, numB])
        rw [List.drop_zero] at f1 f2
        refine ⟨j, g', ?_, f2⟩
        generalize magX ++ (bytesI 1 d ++ zeros 27) = P3 at *
        generalize magX ++ bytesI 1 d = P2 at *
        generalize encB (bytesI 1 d) = P1 at *
        generalize encB magX = mg at *
        generalize encI (d :: t) = y at *
        simp only [afAddr_p, List.append_nil, if_true, if_false, bnd_some, mp_some, cnd_t, cnd_f, gd_no, gd_tt, gd_tf, gd_ft, gd_ff, alenS_s, alen_sl, alen_ns, abin_add, abin_sub, abin_mul, abin_eql, abin_neq, abin_lss, abin_leq, abin_gtr, abin_geq, abin_seql, abin_sneq, abin_slss, aun_not, aun_neg, agn_some, aeqN_nf, aeqN_f, aeqN_np, aeqN_p, anilc_p, aeqB_t, aeqB_f, aconv_i, apick_b, cond_true, cond_false, decide_true, decide_false, Bool.not_true, Bool.not_false, aext_t, ofPart_c, ofPart_a, part?_c, part?_a, cells?_c, cells?_a, tupN_2, tupN_3, Option.map_some, Option.some.injEq, List.getElem?_cons_zero, List.getElem?_cons_succ, not_true_eq_false, not_false_eq_true, quiet_same, bytesI_length, Option.join_some, List.append_assoc, List.cons_append, List.nil_append, List.length_append, List.length_cons, List.length_nil, Nat.zero_add, Nat.add_zero, rd_at, rd_at0, set_at, set_at0, List.set_cons_zero, List.set_cons_succ, ne_eq, decide_not, quiet_ext, newOk_some, List.cons_prefix_cons, List.nil_prefix, List.drop_succ_cons, List.drop_zero, List.all_cons, List.all_nil, Bool.and_true, true_and, and_true, aloadN_at, aloadN_at0, aload1_at, aload1_at0, astoreN_at, astoreN_at0, astore1_at, astore1_at0, aslA_at, aslA_at0, ldN_all, ld1_row, stN_all, st1_row, slr_all, Nat.reduceAdd, Nat.reduceMul, Nat.reduceLT, l0, c1, c2, ef, hM, b0, ef1, hA, hZ]
        exact f1
  obtain ⟨j, g', e, ho⟩ := key (h.length + 33) (by omega) (ro h)
  exact S_escheatref19_Put_out2 e (by simpa [ro_length] using ho) (by simp) rfl

/-! ### The index of a block -/

theorem rget_l1 {d : Int} {t : List Int} {ix iz q : Nat} {h : Heap} (ht : t.length = 32) (hx : rd h ix = some ⟨encI (d :: t), true⟩) (hz : rd h iz = some ⟨encI (0 :: zI 32), true⟩) : ∀ e i m : Nat, i + e = 32 → e < m →
    ∃ h', escheatref19_Get_l1 q m (.c (.p iz 0)) (.c (.p ix 0)) (.c (.i .i64 (i : Int))) h = some (.t [.a (encI (bif restX t i e then d :: t else 0 :: zI 32)), .c (.b (restX t i e))], h')
  | e, i, 0, _, hm => by omega
  | 0, i, m + 1, hi, hm => by
    have e0 : i = 32 := by omega
    subst e0
    have c0 : ¬ ((32 : Nat) : Int) < 32 := by omega
    have hX := encX_length (d := d) ht
    have hZ : (encI (0 :: zI 32)).length = 33 := encX_length (d := 0) zI_length
    have s1 := loadAll (h := h) (id := ix) hx hX
    have s2 := storeAll (h := h) (id := iz) (xs := encI (d :: t)) hz hZ hX
    have s3 := loadAll (h := h.set iz (some ⟨encI (d :: t), true⟩)) (id := iz) (rd_set_same (rd_lt hz)) hX
    have er : restX t 32 0 = true := rfl
    rw [escheatref19_Get_l1_eq, er, cond_true]
    generalize encI (d :: t) = y at *
    exact ⟨_, by simp only [afAddr_p, List.append_nil, if_true, if_false, bnd_some, mp_some, cnd_t, cnd_f, gd_no, gd_tt, gd_tf, gd_ft, gd_ff, alenS_s, alen_sl, alen_ns, abin_add, abin_sub, abin_mul, abin_eql, abin_neq, abin_lss, abin_leq, abin_gtr, abin_geq, abin_seql, abin_sneq, abin_slss, aun_not, aun_neg, agn_some, aeqN_nf, aeqN_f, aeqN_np, aeqN_p, anilc_p, aeqB_t, aeqB_f, aconv_i, apick_b, cond_true, cond_false, decide_true, decide_false, Bool.not_true, Bool.not_false, aext_t, ofPart_c, ofPart_a, part?_c, part?_a, cells?_c, cells?_a, tupN_2, tupN_3, Option.map_some, Option.some.injEq, List.getElem?_cons_zero, List.getElem?_cons_succ, not_true_eq_false, not_false_eq_true, quiet_same, bytesI_length, Option.join_some, List.append_assoc, List.cons_append, List.nil_append, List.length_append, List.length_cons, List.length_nil, Nat.zero_add, Nat.add_zero, rd_at, rd_at0, set_at, set_at0, List.set_cons_zero, List.set_cons_succ, ne_eq, decide_not, quiet_ext, newOk_some, List.cons_prefix_cons, List.nil_prefix, List.drop_succ_cons, List.drop_zero, List.all_cons, List.all_nil, Bool.and_true, true_and, and_true, c0, s1, s2, s3] <;> rfl⟩
  | e + 1, i, m + 1, hi, hm => by
    obtain ⟨h', ih⟩ := rget_l1 (q := q) ht hx hz e (i + 1) m (by omega) (by omega)
    have c0 : (i : Int) < 32 := by omega
    have hZ : (encI (0 :: zI 32)).length = 33 := encX_length (d := 0) zI_length
    have a1 := adX (id := ix) (i := i) (by omega)
    have l1 := ldX (h := h) (id := ix) hx ht (i := i) (by omega)
    have haf : afill (encI (0 :: zI 32)) [] = some (encI (0 :: zI 32)) := rfl
    have s2 := storeAll (h := h) (id := iz) (xs := encI (0 :: zI 32)) hz hZ hZ
    have s3 := loadAll (h := h.set iz (some ⟨encI (0 :: zI 32), true⟩)) (id := iz) (rd_set_same (rd_lt hz)) hZ
    have er : restX t i (e + 1) = (decide (toX t i = 0) && restX t (i + 1) e) := by unfold restX; rw [List.range'_succ, List.all_cons]
    rw [escheatref19_Get_l1_eq, er, zI_enc]
    by_cases c : toX t i = 0
    · rw [decide_eq_true c, Bool.true_and]
      rw [c] at l1
      generalize encI (0 :: zI 32) = z at *
      exact ⟨h', by simp only [afAddr_p, List.append_nil, if_true, if_false, bnd_some, mp_some, cnd_t, cnd_f, gd_no, gd_tt, gd_tf, gd_ft, gd_ff, alenS_s, alen_sl, alen_ns, abin_add, abin_sub, abin_mul, abin_eql, abin_neq, abin_lss, abin_leq, abin_gtr, abin_geq, abin_seql, abin_sneq, abin_slss, aun_not, aun_neg, agn_some, aeqN_nf, aeqN_f, aeqN_np, aeqN_p, anilc_p, aeqB_t, aeqB_f, aconv_i, apick_b, cond_true, cond_false, decide_true, decide_false, Bool.not_true, Bool.not_false, aext_t, ofPart_c, ofPart_a, part?_c, part?_a, cells?_c, cells?_a, tupN_2, tupN_3, Option.map_some, Option.some.injEq, List.getElem?_cons_zero, List.getElem?_cons_succ, not_true_eq_false, not_false_eq_true, quiet_same, bytesI_length, Option.join_some, List.append_assoc, List.cons_append, List.nil_append, List.length_append, List.length_cons, List.length_nil, Nat.zero_add, Nat.add_zero, rd_at, rd_at0, set_at, set_at0, List.set_cons_zero, List.set_cons_succ, ne_eq, decide_not, quiet_ext, newOk_some, List.cons_prefix_cons, List.nil_prefix, List.drop_succ_cons, List.drop_zero, List.all_cons, List.all_nil, Bool.and_true, true_and, and_true, c0, a1, l1, wi_succ (show i + 1 < 9223372036854775808 by omega)]; exact ih⟩
    · rw [decide_eq_false c, Bool.false_and, cond_false]
      generalize encI (0 :: zI 32) = z at *
      exact ⟨_, by simp only [afAddr_p, List.append_nil, if_true, if_false, bnd_some, mp_some, cnd_t, cnd_f, gd_no, gd_tt, gd_tf, gd_ft, gd_ff, alenS_s, alen_sl, alen_ns, abin_add, abin_sub, abin_mul, abin_eql, abin_neq, abin_lss, abin_leq, abin_gtr, abin_geq, abin_seql, abin_sneq, abin_slss, aun_not, aun_neg, agn_some, aeqN_nf, aeqN_f, aeqN_np, aeqN_p, anilc_p, aeqB_t, aeqB_f, aconv_i, apick_b, cond_true, cond_false, decide_true, decide_false, Bool.not_true, Bool.not_false, aext_t, ofPart_c, ofPart_a, part?_c, part?_a, cells?_c, cells?_a, tupN_2, tupN_3, Option.map_some, Option.some.injEq, List.getElem?_cons_zero, List.getElem?_cons_succ, not_true_eq_false, not_false_eq_true, quiet_same, bytesI_length, Option.join_some, List.append_assoc, List.cons_append, List.nil_append, List.length_append, List.length_cons, List.length_nil, Nat.zero_add, Nat.add_zero, rd_at, rd_at0, set_at, set_at0, List.set_cons_zero, List.set_cons_succ, ne_eq, decide_not, quiet_ext, newOk_some, List.cons_prefix_cons, List.nil_prefix, List.drop_succ_cons, List.drop_zero, List.all_cons, List.all_nil, Bool.and_true, true_and, and_true, c0, a1, l1, c, haf, s2, s3] <;> rfl⟩

theorem okX_depth {d : Int} {t : List Int} (h : okX d t = true) : 0 ≤ d ∧ d ≤ 5 := by
  unfold okX at h
  simp only [Bool.and_eq_true, decide_eq_true_eq] at h
  exact ⟨h.1, h.2.1⟩

theorem rget_l0 {v : Val} {nv : Nat} {b : List UInt8} {g : Heap} {q : Nat} (hb : b.length = 256) (hv : Has g v 1 nv (encB b)) (hq : 32 < q) : ∀ e i m : Nat, i + e = 32 → e < m →
    ∃ h', escheatref19_Get_l0 q m v (.c (.p g.length 0)) (.c (.p (g.length + 1) 0)) (.c (.i .i64 (i : Int))) (g ++ [some (Row.mk (encI (0 :: zI 32)) true), some (Row.mk (encI (getD b :: getT b i)) true)]) =
      some (.t [.a (encI (bif goodX b then getD b :: getT b 32 else 0 :: zI 32)), .c (.b (goodX b))], h')
  | e, i, 0, _, hm => by omega
  | 0, i, m + 1, hi, hm => by
    have e0 : i = 32 := by omega
    subst e0
    have c0 : ¬ ((32 : Nat) : Int) < 32 := by omega
    have ht := getT_length (b := b) (n := 32) (Nat.le_refl _)
    have hX := encX_length (d := getD b) ht
    have hZ : (encI (0 :: zI 32)).length = 33 := encX_length (d := 0) zI_length
    have hP := ref19_Put_eq (d := getD b) (t := getT b 32) (h := g ++ [some (Row.mk (encI (0 :: zI 32)) true), some (Row.mk (encI (getD b :: getT b 32)) true)]) ht
    simp only [List.length_append, List.length_cons, List.length_nil, Nat.zero_add, List.append_assoc, List.cons_append, List.nil_append] at hP
    have haf : afill (encI (0 :: zI 32)) [] = some (encI (0 :: zI 32)) := rfl
    have hm32 := manyX_le (getD b)
    unfold goodX
    rw [escheatref19_Get_l0_eq, zI_enc]
    cases co : okX (getD b) (getT b 32) with
    | false =>
      rw [co] at hP
      simp only [cond_false] at hP
      rw [Bool.false_and, cond_false]
      generalize encI (0 :: zI 32) = z at *
      generalize encI (getD b :: getT b 32) = y at *
      exact ⟨_, by simp only [afAddr_p, List.append_nil, if_true, if_false, bnd_some, mp_some, cnd_t, cnd_f, gd_no, gd_tt, gd_tf, gd_ft, gd_ff, alenS_s, alen_sl, alen_ns, abin_add, abin_sub, abin_mul, abin_eql, abin_neq, abin_lss, abin_leq, abin_gtr, abin_geq, abin_seql, abin_sneq, abin_slss, aun_not, aun_neg, agn_some, aeqN_nf, aeqN_f, aeqN_np, aeqN_p, anilc_p, aeqB_t, aeqB_f, aconv_i, apick_b, cond_true, cond_false, decide_true, decide_false, Bool.not_true, Bool.not_false, aext_t, ofPart_c, ofPart_a, part?_c, part?_a, cells?_c, cells?_a, tupN_2, tupN_3, Option.map_some, Option.some.injEq, List.getElem?_cons_zero, List.getElem?_cons_succ, not_true_eq_false, not_false_eq_true, quiet_same, bytesI_length, Option.join_some, List.append_assoc, List.cons_append, List.nil_append, List.length_append, List.length_cons, List.length_nil, Nat.zero_add, Nat.add_zero, rd_at, rd_at0, set_at, set_at0, List.set_cons_zero, List.set_cons_succ, ne_eq, decide_not, quiet_ext, newOk_some, List.cons_prefix_cons, List.nil_prefix, List.drop_succ_cons, List.drop_zero, List.all_cons, List.all_nil, Bool.and_true, true_and, and_true, aloadN_at, aloadN_at0, aload1_at, aload1_at0, astoreN_at, astoreN_at0, astore1_at, astore1_at0, aslA_at, aslA_at0, ldN_all, ld1_row, stN_all, st1_row, slr_all, Nat.reduceAdd, Nat.reduceMul, Nat.reduceLT, c0, hX, hP, haf, hZ] <;> rfl⟩
    | true =>
      rw [co] at hP
      simp only [cond_true] at hP
      rw [Bool.true_and]
      have hil := idxB_length (d := getD b) ht
      have l0 : (encI (getD b :: getT b 32))[0]? = some (.i .i64 (getD b)) := rfl
      have hS := ref01_Same_eq (l := idxB (getD b) (getT b 32)) (r := b) (h := g ++ [some (Row.mk (encI (0 :: zI 32)) true), some (Row.mk (encI (getD b :: getT b 32)) true), some (Row.mk (encB (idxB (getD b) (getT b 32))) true)]) (v := .c (.sl (g.length + 2) 0 256 1)) (u := v) (nv := 256) (nu := nv) (Has.row (rw := true) (by simp) (by rw [encB_length, hil]) (noX_encB _)) (hv.more _) (by omega)
      by_cases ce : idxB (getD b) (getT b 32) = b
      · rw [decide_eq_true ce, Bool.true_and]
        rw [decide_eq_true ce] at hS
        have hd := okX_depth co
        have hPw := fun h => ref19_Pow_eq (k := depX (getD b)) (h := h) (by have := depX_le (getD b); omega)
        rw [depX_of hd.1 hd.2] at hPw
        rw [show 2 ^ depX (getD b) = manyX (getD b) from rfl] at hPw
        obtain ⟨h', e⟩ := rget_l1 (d := getD b) (t := getT b 32) (ix := g.length + 1) (iz := g.length) (q := q) (h := g ++ [some (Row.mk (encI (0 :: zI 32)) true), some (Row.mk (encI (getD b :: getT b 32)) true), some (Row.mk (encB (idxB (getD b) (getT b 32))) true)]) ht (by simp) (by simp) (32 - manyX (getD b)) (manyX (getD b)) q (by omega) (by omega)
        refine ⟨h', ?_⟩
        generalize restX (getT b 32) (manyX (getD b)) (32 - manyX (getD b)) = R at *
        generalize encI (getD b :: getT b 32) = Y at *
        generalize idxB (getD b) (getT b 32) = I at *
        generalize encI (0 :: zI 32) = z at *
        simp only [afAddr_p, List.append_nil, if_true, if_false, bnd_some, mp_some, cnd_t, cnd_f, gd_no, gd_tt, gd_tf, gd_ft, gd_ff, alenS_s, alen_sl, alen_ns, abin_add, abin_sub, abin_mul, abin_eql, abin_neq, abin_lss, abin_leq, abin_gtr, abin_geq, abin_seql, abin_sneq, abin_slss, aun_not, aun_neg, agn_some, aeqN_nf, aeqN_f, aeqN_np, aeqN_p, anilc_p, aeqB_t, aeqB_f, aconv_i, apick_b, cond_true, cond_false, decide_true, decide_false, Bool.not_true, Bool.not_false, aext_t, ofPart_c, ofPart_a, part?_c, part?_a, cells?_c, cells?_a, tupN_2, tupN_3, Option.map_some, Option.some.injEq, List.getElem?_cons_zero, List.getElem?_cons_succ, not_true_eq_false, not_false_eq_true, quiet_same, bytesI_length, Option.join_some, List.append_assoc, List.cons_append, List.nil_append, List.length_append, List.length_cons, List.length_nil, Nat.zero_add, Nat.add_zero, rd_at, rd_at0, set_at, set_at0, List.set_cons_zero, List.set_cons_succ, ne_eq, decide_not, quiet_ext, newOk_some, List.cons_prefix_cons, List.nil_prefix, List.drop_succ_cons, List.drop_zero, List.all_cons, List.all_nil, Bool.and_true, true_and, and_true, aloadN_at, aloadN_at0, aload1_at, aload1_at0, astoreN_at, astoreN_at0, astore1_at, astore1_at0, aslA_at, aslA_at0, ldN_all, ld1_row, stN_all, st1_row, slr_all, Nat.reduceAdd, Nat.reduceMul, Nat.reduceLT, c0, hX, hP, hS, l0, hPw]
        exact e
      · rw [decide_eq_false ce, Bool.false_and, cond_false]
        rw [decide_eq_false ce] at hS
        generalize idxB (getD b) (getT b 32) = I at *
        generalize encI (0 :: zI 32) = z at *
        generalize encI (getD b :: getT b 32) = y at *
        exact ⟨_, by simp only [afAddr_p, List.append_nil, if_true, if_false, bnd_some, mp_some, cnd_t, cnd_f, gd_no, gd_tt, gd_tf, gd_ft, gd_ff, alenS_s, alen_sl, alen_ns, abin_add, abin_sub, abin_mul, abin_eql, abin_neq, abin_lss, abin_leq, abin_gtr, abin_geq, abin_seql, abin_sneq, abin_slss, aun_not, aun_neg, agn_some, aeqN_nf, aeqN_f, aeqN_np, aeqN_p, anilc_p, aeqB_t, aeqB_f, aconv_i, apick_b, cond_true, cond_false, decide_true, decide_false, Bool.not_true, Bool.not_false, aext_t, ofPart_c, ofPart_a, part?_c, part?_a, cells?_c, cells?_a, tupN_2, tupN_3, Option.map_some, Option.some.injEq, List.getElem?_cons_zero, List.getElem?_cons_succ, not_true_eq_false, not_false_eq_true, quiet_same, bytesI_length, Option.join_some, List.append_assoc, List.cons_append, List.nil_append, List.length_append, List.length_cons, List.length_nil, Nat.zero_add, Nat.add_zero, rd_at, rd_at0, set_at, set_at0, List.set_cons_zero, List.set_cons_succ, ne_eq, decide_not, quiet_ext, newOk_some, List.cons_prefix_cons, List.nil_prefix, List.drop_succ_cons, List.drop_zero, List.all_cons, List.all_nil, Bool.and_true, true_and, and_true, aloadN_at, aloadN_at0, aload1_at, aload1_at0, astoreN_at, astoreN_at0, astore1_at, astore1_at0, aslA_at, aslA_at0, ldN_all, ld1_row, stN_all, st1_row, slr_all, Nat.reduceAdd, Nat.reduceMul, Nat.reduceLT, c0, hX, hP, hS, haf, hZ] <;> rfl⟩
  | e + 1, i, m + 1, hi, hm => by
    obtain ⟨h', ih⟩ := rget_l0 (q := q) hb hv hq e (i + 1) m (by omega) (by omega)
    have c0 : (i : Int) < 32 := by omega
    have ht := getT_length (b := b) (n := i) (by omega)
    have hX := encX_length (d := getD b) ht
    have hA := fun l => ref01_At_eq (hv.more l) hb (a := ((32 + 2 * i : Nat) : Int)) (w := 2)
    have ea := at_fld (b := b) (a := 32 + 2 * i) (w := 2) (by omega) (by omega) (by omega)
    rw [show ((2 : Nat) : Int) = 2 from rfl] at ea
    rw [ea] at hA
    have w1 : IntKind.wrap .i64 (2 * (i : Int)) = ((2 * i : Nat) : Int) := by rw [wrap_i64 (by omega) (by omega)]; omega
    have w2 : IntKind.wrap .i64 (32 + ((2 * i : Nat) : Int)) = ((32 + 2 * i : Nat) : Int) := by rw [wrap_i64 (by omega) (by omega)]; omega
    have a1 := adX (id := g.length + 1) (i := i) (by omega)
    have hs : (encI (getD b :: getT b i)).set (1 + i) (.i .i64 (fieldN b (32 + 2 * i) 2)) = encI (getD b :: getT b (i + 1)) := by rw [encX_set, getT_succ (by omega)]; rfl
    have hlt : 1 + i < (encI (getD b :: getT b i)).length := by rw [hX]; omega
    rw [escheatref19_Get_l0_eq]
    generalize goodX b = G at *
    generalize getD b :: getT b 32 = Y at *
    generalize encI (getD b :: getT b (i + 1)) = y1 at *
    generalize encI (getD b :: getT b i) = y at *
    generalize encI (0 :: zI 32) = z at *
    refine ⟨h', ?_⟩
    simp only [afAddr_p, List.append_nil, if_true, if_false, bnd_some, mp_some, cnd_t, cnd_f, gd_no, gd_tt, gd_tf, gd_ft, gd_ff, alenS_s, alen_sl, alen_ns, abin_add, abin_sub, abin_mul, abin_eql, abin_neq, abin_lss, abin_leq, abin_gtr, abin_geq, abin_seql, abin_sneq, abin_slss, aun_not, aun_neg, agn_some, aeqN_nf, aeqN_f, aeqN_np, aeqN_p, anilc_p, aeqB_t, aeqB_f, aconv_i, apick_b, cond_true, cond_false, decide_true, decide_false, Bool.not_true, Bool.not_false, aext_t, ofPart_c, ofPart_a, part?_c, part?_a, cells?_c, cells?_a, tupN_2, tupN_3, Option.map_some, Option.some.injEq, List.getElem?_cons_zero, List.getElem?_cons_succ, not_true_eq_false, not_false_eq_true, quiet_same, bytesI_length, Option.join_some, List.append_assoc, List.cons_append, List.nil_append, List.length_append, List.length_cons, List.length_nil, Nat.zero_add, Nat.add_zero, rd_at, rd_at0, set_at, set_at0, List.set_cons_zero, List.set_cons_succ, ne_eq, decide_not, quiet_ext, newOk_some, List.cons_prefix_cons, List.nil_prefix, List.drop_succ_cons, List.drop_zero, List.all_cons, List.all_nil, Bool.and_true, true_and, and_true, aloadN_at, aloadN_at0, aload1_at, aload1_at0, astoreN_at, astoreN_at0, astore1_at, astore1_at0, aslA_at, aslA_at0, ldN_all, ld1_row, stN_all, st1_row, slr_all, Nat.reduceAdd, Nat.reduceMul, Nat.reduceLT, c0, w1, w2, hA, a1, hlt, hs, wi_succ (show i + 1 < 9223372036854775808 by omega)]
    exact ih

theorem ref19_Get_eq {v : Val} {nv : Nat} {b : List UInt8} {h : Heap} (hb : b.length = 256) (hv : Has h v 1 nv (encB b)) : S_escheatref19_Get [v] h = some (.t [.a (encI (bif goodX b then getD b :: getT b 32 else 0 :: zI 32)), .c (.b (goodX b))], h) := by
  have key : ∀ N, 32 < N → ∀ g, Has g v 1 nv (encB b) → ∃ g', R_escheatref19_Get N [v] g = some (.t [.a (encI (bif goodX b then getD b :: getT b 32 else 0 :: zI 32)), .c (.b (goodX b))], g') := by
    intro N hN g hv
    have hZ : (encI (0 :: zI 32)).length = 33 := encX_length (d := 0) zI_length
    have hA := fun l => ref01_At_eq (hv.more l) hb (a := 4) (w := 1)
    have ea := at_fld (b := b) (a := 4) (w := 1) (by omega) (by omega) (by omega)
    rw [show ((4 : Nat) : Int) = 4 from rfl, show ((1 : Nat) : Int) = 1 from rfl] at ea
    rw [ea] at hA
    have ef : afill (encI (0 :: zI 32)) [(0, 1, .c (.i .i64 (fieldN b 4 1)))] = some (encI (getD b :: getT b 0)) := by
      have e1 : (0 + 1 ≤ (encI (0 :: zI 32)).length) := by rw [hZ]; omega
      simp only [afill, cells?]
      rw [if_pos ⟨rfl, e1⟩]
      rfl
    have hX := encX_length (d := getD b) (getT_length (b := b) (n := 0) (by omega))
    obtain ⟨h', e⟩ := rget_l0 (g := g) (q := N) hb hv hN 32 0 N (by omega) hN
    rw [R_escheatref19_Get_eq, zI_enc]
    generalize goodX b = G at *
    generalize getD b :: getT b 32 = Y at *
    generalize encI (getD b :: getT b 0) = y at *
    generalize encI (0 :: zI 32) = z at *
    exact ⟨h', by simp only [afAddr_p, List.append_nil, if_true, if_false, bnd_some, mp_some, cnd_t, cnd_f, gd_no, gd_tt, gd_tf, gd_ft, gd_ff, alenS_s, alen_sl, alen_ns, abin_add, abin_sub, abin_mul, abin_eql, abin_neq, abin_lss, abin_leq, abin_gtr, abin_geq, abin_seql, abin_sneq, abin_slss, aun_not, aun_neg, agn_some, aeqN_nf, aeqN_f, aeqN_np, aeqN_p, anilc_p, aeqB_t, aeqB_f, aconv_i, apick_b, cond_true, cond_false, decide_true, decide_false, Bool.not_true, Bool.not_false, aext_t, ofPart_c, ofPart_a, part?_c, part?_a, cells?_c, cells?_a, tupN_2, tupN_3, Option.map_some, Option.some.injEq, List.getElem?_cons_zero, List.getElem?_cons_succ, not_true_eq_false, not_false_eq_true, quiet_same, bytesI_length, Option.join_some, List.append_assoc, List.cons_append, List.nil_append, List.length_append, List.length_cons, List.length_nil, Nat.zero_add, Nat.add_zero, rd_at, rd_at0, set_at, set_at0, List.set_cons_zero, List.set_cons_succ, ne_eq, decide_not, quiet_ext, newOk_some, List.cons_prefix_cons, List.nil_prefix, List.drop_succ_cons, List.drop_zero, List.all_cons, List.all_nil, Bool.and_true, true_and, and_true, aloadN_at, aloadN_at0, aload1_at, aload1_at0, astoreN_at, astoreN_at0, astore1_at, astore1_at0, aslA_at, aslA_at0, ldN_all, ld1_row, stN_all, st1_row, slr_all, Nat.reduceAdd, Nat.reduceMul, Nat.reduceLT, hZ, hA, ef, hX]; exact e⟩
  obtain ⟨g', e⟩ := key (h.length + 33) (by omega) (ro h) hv.ro
  refine S_escheatref19_Get_flat e ?_
  cases goodX b <;> simp

end Go.Proofs.Ytbbkpmbepljhkaa
