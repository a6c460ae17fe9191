/- The law that numbers in a block are as the document has them answers true. -/
import Derived.Test.YtbbkpmbepljhkaaSLaw20
import Derived.Test.YtbbkpmbepljhkaaSPointsPatch
import Derived.Test.YtbbkpmbepljhkaaGEscheatlaw20PointsPuts
set_option linter.all false
namespace Go.Proofs.Ytbbkpmbepljhkaa
open Go Go.Esc

theorem slA_pt {h : Heap} {id n : Nat} {cs : List Cell} (hr : rd h id = some ⟨cs, true⟩) (hl : cs.length = n) : aslA h n 1 (.c (.p id 0)) none none = some (.c (.sl id 0 n 1)) := by
  simp [aslA, bound, hr, hl]

theorem puts_loop {v : Val} {nv y q : Nat} {l : List Int} {B : List UInt8} {f : Int} {h : Heap} (hv : Has h v 1 nv (encI l)) (hn : l.length = nv) (h200 : nv ≤ 200) (hB0 : B.length = 256) (hr : rd h y = some ⟨encB B, true⟩)
    (hbig : 128 < nv → f = 2 ∧ B = zeros 256) (hbad : nv ≤ 128 → l.all fineP = false → f = 1 ∧ B = zeros 256) (hok : nv ≤ 128 → l.all fineP = true → f = 0 ∧ B = padB 256 (numsB l)) : ∀ e i m : Nat, i + e = nv → e < m →
    ∃ h', escheatlaw20_PointsPuts_l0 q m v (.c (.p y 0)) (.c (.i .i64 f)) (.c (.b ((l.take i).all fineP))) (.c (.i .i64 i)) h = some (.c (.b true), h')
  | e, i, 0, _, hm => by omega
  | 0, i, m + 1, hi, hm => by
    have e0 : i = nv := by omega
    subst e0
    have c0 : ¬ (i : Int) < i := by omega
    have hlen := hv.len
    have hB : (encB B).length = 256 := by rw [encB_length, hB0]
    have s1 := loadAll (h := h) (id := y) (cs := encB B) hr hB
    have haf : afill (List.replicate 256 (Cell.i .u8 0)) [] = some (List.replicate 256 (Cell.i .u8 0)) := rfl
    rw [zeros_enc] at haf
    have hq := aeq_f (l := zeros 256) (m := zeros 256) (n := 256) zeros_length zeros_length
    rw [decide_eq_true rfl] at hq
    rw [escheatlaw20_PointsPuts_l0_eq, zeros_enc, List.take_of_length_le (by omega)]
    by_cases c1 : 128 < i
    · obtain ⟨rfl, rfl⟩ := hbig c1
      have c1' : (128 : Int) < i := by omega
      generalize zeros 256 = z at *
      exact ⟨_, by simp only [afAddr_p, List.append_nil, if_true, if_false, bnd_some, mp_some, cnd_t, cnd_f, gd_no, gd_tt, gd_tf, gd_ft, gd_ff, alenS_s, alen_sl, alen_ns, abin_add, abin_sub, abin_mul, abin_eql, abin_neq, abin_lss, abin_leq, abin_gtr, abin_geq, abin_seql, abin_sneq, abin_slss, aun_not, aun_neg, aeqB_t, aeqB_f, aconv_i, apick_b, cond_true, cond_false, decide_true, decide_false, Bool.not_true, Bool.not_false, aext_t, ofPart_c, ofPart_a, part?_c, part?_a, cells?_c, cells?_a, tupN_2, tupN_3, Option.map_some, Option.some.injEq, List.getElem?_cons_zero, List.getElem?_cons_succ, not_true_eq_false, not_false_eq_true, quiet_same, bytesI_length, Option.join_some, List.append_assoc, List.cons_append, List.nil_append, List.length_append, List.length_cons, List.length_nil, Nat.zero_add, Nat.add_zero, rd_at, rd_at0, set_at, set_at0, List.set_cons_zero, List.set_cons_succ, ne_eq, decide_not, quiet_ext, newOk_some, List.cons_prefix_cons, List.nil_prefix, List.drop_succ_cons, List.drop_zero, List.all_cons, List.all_nil, Bool.and_true, true_and, and_true, c0, hlen, c1', s1, haf, hq, works20_eq] <;> rfl⟩
    · have c1' : ¬ (128 : Int) < i := by omega
      cases c2 : l.all fineP with
      | false =>
        obtain ⟨rfl, rfl⟩ := hbad (by omega) c2
        generalize zeros 256 = z at *
        exact ⟨_, by simp only [afAddr_p, List.append_nil, if_true, if_false, bnd_some, mp_some, cnd_t, cnd_f, gd_no, gd_tt, gd_tf, gd_ft, gd_ff, alenS_s, alen_sl, alen_ns, abin_add, abin_sub, abin_mul, abin_eql, abin_neq, abin_lss, abin_leq, abin_gtr, abin_geq, abin_seql, abin_sneq, abin_slss, aun_not, aun_neg, aeqB_t, aeqB_f, aconv_i, apick_b, cond_true, cond_false, decide_true, decide_false, Bool.not_true, Bool.not_false, aext_t, ofPart_c, ofPart_a, part?_c, part?_a, cells?_c, cells?_a, tupN_2, tupN_3, Option.map_some, Option.some.injEq, List.getElem?_cons_zero, List.getElem?_cons_succ, not_true_eq_false, not_false_eq_true, quiet_same, bytesI_length, Option.join_some, List.append_assoc, List.cons_append, List.nil_append, List.length_append, List.length_cons, List.length_nil, Nat.zero_add, Nat.add_zero, rd_at, rd_at0, set_at, set_at0, List.set_cons_zero, List.set_cons_succ, ne_eq, decide_not, quiet_ext, newOk_some, List.cons_prefix_cons, List.nil_prefix, List.drop_succ_cons, List.drop_zero, List.all_cons, List.all_nil, Bool.and_true, true_and, and_true, c0, hlen, c1', s1, haf, hq, works20_eq] <;> rfl⟩
      | true =>
        obtain ⟨rfl, eB⟩ := hok (by omega) c2
        have sl := slA_pt hr hB
        have hK := ref20_Block_eq hv (by omega)
        rw [← eB] at hK
        have qK := quiet_grows (v := .c (.sl h.length 0 256 1)) (Grows.rfl'.new (a := h) (encB B))
        have hS := ref01_Same_eq (h := h ++ [some (Row.mk (encB B) true)]) (v := .c (.sl y 0 256 1)) (nv := 256) (u := .c (.sl h.length 0 256 1)) (nu := 256) (l := B) (r := B) (Has.tr (rd_append hr) (by rw [hB]) (noX_encB _)) (Has.tr (by simp) (by rw [hB]) (noX_encB _)) (by omega)
        rw [decide_eq_true rfl] at hS
        generalize zeros 256 = z at *
        exact ⟨_, by simp only [afAddr_p, List.append_nil, if_true, if_false, bnd_some, mp_some, cnd_t, cnd_f, gd_no, gd_tt, gd_tf, gd_ft, gd_ff, alenS_s, alen_sl, alen_ns, abin_add, abin_sub, abin_mul, abin_eql, abin_neq, abin_lss, abin_leq, abin_gtr, abin_geq, abin_seql, abin_sneq, abin_slss, aun_not, aun_neg, aeqB_t, aeqB_f, aconv_i, apick_b, cond_true, cond_false, decide_true, decide_false, Bool.not_true, Bool.not_false, aext_t, ofPart_c, ofPart_a, part?_c, part?_a, cells?_c, cells?_a, tupN_2, tupN_3, Option.map_some, Option.some.injEq, List.getElem?_cons_zero, List.getElem?_cons_succ, not_true_eq_false, not_false_eq_true, quiet_same, bytesI_length, Option.join_some, List.append_assoc, List.cons_append, List.nil_append, List.length_append, List.length_cons, List.length_nil, Nat.zero_add, Nat.add_zero, rd_at, rd_at0, set_at, set_at0, List.set_cons_zero, List.set_cons_succ, ne_eq, decide_not, quiet_ext, newOk_some, List.cons_prefix_cons, List.nil_prefix, List.drop_succ_cons, List.drop_zero, List.all_cons, List.all_nil, Bool.and_true, true_and, and_true, c0, hlen, c1', sl, hK, qK, hS, works20_eq] <;> rfl⟩
  | e + 1, i, m + 1, hi, hm => by
    obtain ⟨h', ih⟩ := puts_loop (q := q) hv hn h200 hB0 hr hbig hbad hok e (i + 1) m (by omega) (by omega)
    have hlen := hv.len
    obtain ⟨id, off, ev, hid, h1, h2⟩ := hv.sl (by omega)
    have c0 : (i : Int) < nv := by omega
    have hx := h1 i (.i .i64 l[i]) (by rw [encI_get, List.getElem?_eq_getElem (by omega)]; rfl)
    have eb : aiAddrL 1 v (.c (.i .i64 (i : Int))) = some (.c (.p id (off + i))) := by rw [ev, iAddrL_of (by omega)]; simp
    have hF := fun h => ref20_Fine_eq (n := l[i]) (h := h)
    have et : (l.take (i + 1)).all fineP = ((l.take i).all fineP && fineP l[i]) := by
      rw [List.take_succ_eq_append_getElem (by omega), List.all_append]; simp
    rw [et] at ih
    rw [escheatlaw20_PointsPuts_l0_eq]
    refine ⟨h', ?_⟩
    cases c : (l.take i).all fineP with
    | false =>
      rw [c, Bool.false_and] at ih
      simp only [afAddr_p, List.append_nil, if_true, if_false, bnd_some, mp_some, cnd_t, cnd_f, gd_no, gd_tt, gd_tf, gd_ft, gd_ff, alenS_s, alen_sl, alen_ns, abin_add, abin_sub, abin_mul, abin_eql, abin_neq, abin_lss, abin_leq, abin_gtr, abin_geq, abin_seql, abin_sneq, abin_slss, aun_not, aun_neg, aeqB_t, aeqB_f, aconv_i, apick_b, cond_true, cond_false, decide_true, decide_false, Bool.not_true, Bool.not_false, aext_t, ofPart_c, ofPart_a, part?_c, part?_a, cells?_c, cells?_a, tupN_2, tupN_3, Option.map_some, Option.some.injEq, List.getElem?_cons_zero, List.getElem?_cons_succ, not_true_eq_false, not_false_eq_true, quiet_same, bytesI_length, Option.join_some, List.append_assoc, List.cons_append, List.nil_append, List.length_append, List.length_cons, List.length_nil, Nat.zero_add, Nat.add_zero, rd_at, rd_at0, set_at, set_at0, List.set_cons_zero, List.set_cons_succ, ne_eq, decide_not, quiet_ext, newOk_some, List.cons_prefix_cons, List.nil_prefix, List.drop_succ_cons, List.drop_zero, List.all_cons, List.all_nil, Bool.and_true, true_and, and_true, hlen, c0, wi_succ (show i + 1 < 9223372036854775808 by omega)]
      exact ih
    | true =>
      rw [c, Bool.true_and] at ih
      simp only [afAddr_p, List.append_nil, if_true, if_false, bnd_some, mp_some, cnd_t, cnd_f, gd_no, gd_tt, gd_tf, gd_ft, gd_ff, alenS_s, alen_sl, alen_ns, abin_add, abin_sub, abin_mul, abin_eql, abin_neq, abin_lss, abin_leq, abin_gtr, abin_geq, abin_seql, abin_sneq, abin_slss, aun_not, aun_neg, aeqB_t, aeqB_f, aconv_i, apick_b, cond_true, cond_false, decide_true, decide_false, Bool.not_true, Bool.not_false, aext_t, ofPart_c, ofPart_a, part?_c, part?_a, cells?_c, cells?_a, tupN_2, tupN_3, Option.map_some, Option.some.injEq, List.getElem?_cons_zero, List.getElem?_cons_succ, not_true_eq_false, not_false_eq_true, quiet_same, bytesI_length, Option.join_some, List.append_assoc, List.cons_append, List.nil_append, List.length_append, List.length_cons, List.length_nil, Nat.zero_add, Nat.add_zero, rd_at, rd_at0, set_at, set_at0, List.set_cons_zero, List.set_cons_succ, ne_eq, decide_not, quiet_ext, newOk_some, List.cons_prefix_cons, List.nil_prefix, List.drop_succ_cons, List.drop_zero, List.all_cons, List.all_nil, Bool.and_true, true_and, and_true, hlen, c0, eb, hx, hF, wi_succ (show i + 1 < 9223372036854775808 by omega)]
      exact ih

theorem puts_j {v : Val} {nv q : Nat} {l : List Int} {h : Heap} (hv : Has h v 1 nv (encI l)) (h200 : nv ≤ 200) (hq : nv < q) : ∃ h', escheatlaw20_PointsPuts_j0 q v h = some (.c (.b true), h') := by
  have hn : l.length = nv := by simpa [encI_length] using hv.length
  have hz : (List.replicate 256 (Cell.i .u8 0)).length = 256 := List.length_replicate
  rw [escheatlaw20_PointsPuts_j0_eq]
  generalize List.replicate 256 (Cell.i .u8 0) = z at *
  by_cases c1 : 128 < nv
  · have hM := points_Make_big hv c1
    have hB : (encB (zeros 256)).length = 256 := by rw [encB_length]; exact zeros_length
    obtain ⟨h', e⟩ := puts_loop (q := q) (y := h.length) (B := zeros 256) (f := 2) (hv.more [some (Row.mk (encB (zeros 256)) true)]) hn h200 zeros_length (by simp) (fun _ => ⟨rfl, rfl⟩) (fun h => by omega) (fun h => by omega) nv 0 q (by omega) hq
    rw [List.take_zero, List.all_nil] at e
    generalize zeros 256 = zz at *
    exact ⟨h', by simp only [afAddr_p, List.append_nil, if_true, if_false, bnd_some, mp_some, cnd_t, cnd_f, gd_no, gd_tt, gd_tf, gd_ft, gd_ff, alenS_s, alen_sl, alen_ns, abin_add, abin_sub, abin_mul, abin_eql, abin_neq, abin_lss, abin_leq, abin_gtr, abin_geq, abin_seql, abin_sneq, abin_slss, aun_not, aun_neg, aeqB_t, aeqB_f, aconv_i, apick_b, cond_true, cond_false, decide_true, decide_false, Bool.not_true, Bool.not_false, aext_t, ofPart_c, ofPart_a, part?_c, part?_a, cells?_c, cells?_a, tupN_2, tupN_3, Option.map_some, Option.some.injEq, List.getElem?_cons_zero, List.getElem?_cons_succ, not_true_eq_false, not_false_eq_true, quiet_same, bytesI_length, Option.join_some, List.append_assoc, List.cons_append, List.nil_append, List.length_append, List.length_cons, List.length_nil, Nat.zero_add, Nat.add_zero, rd_at, rd_at0, set_at, set_at0, List.set_cons_zero, List.set_cons_succ, ne_eq, decide_not, quiet_ext, newOk_some, List.cons_prefix_cons, List.nil_prefix, List.drop_succ_cons, List.drop_zero, List.all_cons, List.all_nil, Bool.and_true, true_and, and_true, aloadN_at, aloadN_at0, aload1_at, aload1_at0, astoreN_at, astoreN_at0, astore1_at, astore1_at0, aslA_at, aslA_at0, ldN_all, ld1_row, stN_all, st1_row, slr_all, Nat.reduceAdd, Nat.reduceMul, Nat.reduceLT, hM, hz, hB]; exact e⟩
  · have hM := points_Make_eq hv (by omega)
    cases c2 : l.all fineP with
    | false =>
      rw [c2, cond_false, cond_false] at hM
      have hB : (encB (zeros 256)).length = 256 := by rw [encB_length]; exact zeros_length
      obtain ⟨h', e⟩ := puts_loop (q := q) (y := h.length) (B := zeros 256) (f := 1) (hv.more [some (Row.mk (encB (zeros 256)) true)]) hn h200 zeros_length (by simp) (fun h => by omega) (fun _ _ => ⟨rfl, rfl⟩) (fun _ h => by rw [c2] at h; exact absurd h (by decide)) nv 0 q (by omega) hq
      rw [List.take_zero, List.all_nil] at e
      generalize zeros 256 = zz at *
      exact ⟨h', by simp only [afAddr_p, List.append_nil, if_true, if_false, bnd_some, mp_some, cnd_t, cnd_f, gd_no, gd_tt, gd_tf, gd_ft, gd_ff, alenS_s, alen_sl, alen_ns, abin_add, abin_sub, abin_mul, abin_eql, abin_neq, abin_lss, abin_leq, abin_gtr, abin_geq, abin_seql, abin_sneq, abin_slss, aun_not, aun_neg, aeqB_t, aeqB_f, aconv_i, apick_b, cond_true, cond_false, decide_true, decide_false, Bool.not_true, Bool.not_false, aext_t, ofPart_c, ofPart_a, part?_c, part?_a, cells?_c, cells?_a, tupN_2, tupN_3, Option.map_some, Option.some.injEq, List.getElem?_cons_zero, List.getElem?_cons_succ, not_true_eq_false, not_false_eq_true, quiet_same, bytesI_length, Option.join_some, List.append_assoc, List.cons_append, List.nil_append, List.length_append, List.length_cons, List.length_nil, Nat.zero_add, Nat.add_zero, rd_at, rd_at0, set_at, set_at0, List.set_cons_zero, List.set_cons_succ, ne_eq, decide_not, quiet_ext, newOk_some, List.cons_prefix_cons, List.nil_prefix, List.drop_succ_cons, List.drop_zero, List.all_cons, List.all_nil, Bool.and_true, true_and, and_true, aloadN_at, aloadN_at0, aload1_at, aload1_at0, astoreN_at, astoreN_at0, astore1_at, astore1_at0, aslA_at, aslA_at0, ldN_all, ld1_row, stN_all, st1_row, slr_all, Nat.reduceAdd, Nat.reduceMul, Nat.reduceLT, hM, hz, hB]; exact e⟩
    | true =>
      rw [c2, cond_true, cond_true] at hM
      have hP : (padB 256 (numsB l)).length = 256 := padB_length (by rw [numsB_length]; omega)
      have hB : (encB (padB 256 (numsB l))).length = 256 := by rw [encB_length, hP]
      obtain ⟨h', e⟩ := puts_loop (q := q) (y := h.length) (B := padB 256 (numsB l)) (f := 0) (hv.more [some (Row.mk (encB (padB 256 (numsB l))) true)]) hn h200 hP (by simp) (fun h => by omega) (fun _ h => by rw [c2] at h; exact absurd h (by decide)) (fun _ _ => ⟨rfl, rfl⟩) nv 0 q (by omega) hq
      rw [List.take_zero, List.all_nil] at e
      generalize padB 256 (numsB l) = P at *
      exact ⟨h', by simp only [afAddr_p, List.append_nil, if_true, if_false, bnd_some, mp_some, cnd_t, cnd_f, gd_no, gd_tt, gd_tf, gd_ft, gd_ff, alenS_s, alen_sl, alen_ns, abin_add, abin_sub, abin_mul, abin_eql, abin_neq, abin_lss, abin_leq, abin_gtr, abin_geq, abin_seql, abin_sneq, abin_slss, aun_not, aun_neg, aeqB_t, aeqB_f, aconv_i, apick_b, cond_true, cond_false, decide_true, decide_false, Bool.not_true, Bool.not_false, aext_t, ofPart_c, ofPart_a, part?_c, part?_a, cells?_c, cells?_a, tupN_2, tupN_3, Option.map_some, Option.some.injEq, List.getElem?_cons_zero, List.getElem?_cons_succ, not_true_eq_false, not_false_eq_true, quiet_same, bytesI_length, Option.join_some, List.append_assoc, List.cons_append, List.nil_append, List.length_append, List.length_cons, List.length_nil, Nat.zero_add, Nat.add_zero, rd_at, rd_at0, set_at, set_at0, List.set_cons_zero, List.set_cons_succ, ne_eq, decide_not, quiet_ext, newOk_some, List.cons_prefix_cons, List.nil_prefix, List.drop_succ_cons, List.drop_zero, List.all_cons, List.all_nil, Bool.and_true, true_and, and_true, aloadN_at, aloadN_at0, aload1_at, aload1_at0, astoreN_at, astoreN_at0, astore1_at, astore1_at0, aslA_at, aslA_at0, ldN_all, ld1_row, stN_all, st1_row, slr_all, Nat.reduceAdd, Nat.reduceMul, Nat.reduceLT, hM, hz, hB]; exact e⟩

theorem pointsPuts_eq {v : Val} {nv : Nat} {l : List Int} {k no : Int} (h : Heap) (hv : Has h v 1 nv (encI l)) : S_escheatlaw20_PointsPuts [.c (.i .i64 k), .c (.i .i64 no), v] h = some (.c (.b true), h) := by
  have key : ∀ N, nv < N → ∀ g, Has g v 1 nv (encI l) → ∃ g', R_escheatlaw20_PointsPuts N [.c (.i .i64 k), .c (.i .i64 no), v] g = some (.c (.b true), g') := by
    intro N hN g hv
    have hlen := hv.len
    have w0 : IntKind.wrap .i64 ((0 : Int) + 0) = 0 := rfl
    have w0' : IntKind.wrap .i64 0 = 0 := rfl
    rw [R_escheatlaw20_PointsPuts_eq]
    by_cases c200 : 200 < nv
    · have c200' : (200 : Int) < nv := by omega
      exact ⟨_, by simp only [afAddr_p, List.append_nil, if_true, if_false, bnd_some, mp_some, cnd_t, cnd_f, gd_no, gd_tt, gd_tf, gd_ft, gd_ff, alenS_s, alen_sl, alen_ns, abin_add, abin_sub, abin_mul, abin_eql, abin_neq, abin_lss, abin_leq, abin_gtr, abin_geq, abin_seql, abin_sneq, abin_slss, aun_not, aun_neg, aeqB_t, aeqB_f, aconv_i, apick_b, cond_true, cond_false, decide_true, decide_false, Bool.not_true, Bool.not_false, aext_t, ofPart_c, ofPart_a, part?_c, part?_a, cells?_c, cells?_a, tupN_2, tupN_3, Option.map_some, Option.some.injEq, List.getElem?_cons_zero, List.getElem?_cons_succ, not_true_eq_false, not_false_eq_true, quiet_same, bytesI_length, Option.join_some, List.append_assoc, List.cons_append, List.nil_append, List.length_append, List.length_cons, List.length_nil, Nat.zero_add, Nat.add_zero, rd_at, rd_at0, set_at, set_at0, List.set_cons_zero, List.set_cons_succ, ne_eq, decide_not, quiet_ext, newOk_some, List.cons_prefix_cons, List.nil_prefix, List.drop_succ_cons, List.drop_zero, List.all_cons, List.all_nil, Bool.and_true, true_and, and_true, hlen, c200', works20_eq] <;> rfl⟩
    · have c200' : ¬ (200 : Int) < nv := by omega
      obtain ⟨h0, e0⟩ := puts_j (q := N) (hv.more [some (Row.mk [.i .i64 0, .ns] true)]) (by omega) hN
      by_cases ck : k < 0 ∨ 128 ≤ k
      · have hP := fun h => points_Patch_range (no := no) (h := h) ck
        by_cases c1 : k < 0
        · exact ⟨h0, by simp only [afAddr_p, List.append_nil, if_true, if_false, bnd_some, mp_some, cnd_t, cnd_f, gd_no, gd_tt, gd_tf, gd_ft, gd_ff, alenS_s, alen_sl, alen_ns, abin_add, abin_sub, abin_mul, abin_eql, abin_neq, abin_lss, abin_leq, abin_gtr, abin_geq, abin_seql, abin_sneq, abin_slss, aun_not, aun_neg, aeqB_t, aeqB_f, aconv_i, apick_b, cond_true, cond_false, decide_true, decide_false, Bool.not_true, Bool.not_false, aext_t, ofPart_c, ofPart_a, part?_c, part?_a, cells?_c, cells?_a, tupN_2, tupN_3, Option.map_some, Option.some.injEq, List.getElem?_cons_zero, List.getElem?_cons_succ, not_true_eq_false, not_false_eq_true, quiet_same, bytesI_length, Option.join_some, List.append_assoc, List.cons_append, List.nil_append, List.length_append, List.length_cons, List.length_nil, Nat.zero_add, Nat.add_zero, rd_at, rd_at0, set_at, set_at0, List.set_cons_zero, List.set_cons_succ, ne_eq, decide_not, quiet_ext, newOk_some, List.cons_prefix_cons, List.nil_prefix, List.drop_succ_cons, List.drop_zero, List.all_cons, List.all_nil, Bool.and_true, true_and, and_true, aloadN_at, aloadN_at0, aload1_at, aload1_at0, astoreN_at, astoreN_at0, astore1_at, astore1_at0, aslA_at, aslA_at0, ldN_all, ld1_row, stN_all, st1_row, slr_all, Nat.reduceAdd, Nat.reduceMul, Nat.reduceLT, hlen, c200', hP, c1, w0, w0']; exact e0⟩
        · have c2 : 127 < k := by omega
          exact ⟨h0, by simp only [afAddr_p, List.append_nil, if_true, if_false, bnd_some, mp_some, cnd_t, cnd_f, gd_no, gd_tt, gd_tf, gd_ft, gd_ff, alenS_s, alen_sl, alen_ns, abin_add, abin_sub, abin_mul, abin_eql, abin_neq, abin_lss, abin_leq, abin_gtr, abin_geq, abin_seql, abin_sneq, abin_slss, aun_not, aun_neg, aeqB_t, aeqB_f, aconv_i, apick_b, cond_true, cond_false, decide_true, decide_false, Bool.not_true, Bool.not_false, aext_t, ofPart_c, ofPart_a, part?_c, part?_a, cells?_c, cells?_a, tupN_2, tupN_3, Option.map_some, Option.some.injEq, List.getElem?_cons_zero, List.getElem?_cons_succ, not_true_eq_false, not_false_eq_true, quiet_same, bytesI_length, Option.join_some, List.append_assoc, List.cons_append, List.nil_append, List.length_append, List.length_cons, List.length_nil, Nat.zero_add, Nat.add_zero, rd_at, rd_at0, set_at, set_at0, List.set_cons_zero, List.set_cons_succ, ne_eq, decide_not, quiet_ext, newOk_some, List.cons_prefix_cons, List.nil_prefix, List.drop_succ_cons, List.drop_zero, List.all_cons, List.all_nil, Bool.and_true, true_and, and_true, aloadN_at, aloadN_at0, aload1_at, aload1_at0, astoreN_at, astoreN_at0, astore1_at, astore1_at0, aslA_at, aslA_at0, ldN_all, ld1_row, stN_all, st1_row, slr_all, Nat.reduceAdd, Nat.reduceMul, Nat.reduceLT, hlen, c200', hP, c1, c2, w0, w0']; exact e0⟩
      · obtain ⟨i, rfl⟩ : ∃ i : Nat, k = i := ⟨k.toNat, by omega⟩
        have hi : i < 128 := by omega
        have c1 : ¬ (i : Int) < 0 := by omega
        have c2 : ¬ (127 : Int) < i := by omega
        have hF := fun h => ref20_Fine_eq (n := no) (h := h)
        cases c : fineP no with
        | false =>
          rw [c] at hF
          have hP := fun h => points_Patch_fine (h := h) hi c
          exact ⟨h0, by simp only [afAddr_p, List.append_nil, if_true, if_false, bnd_some, mp_some, cnd_t, cnd_f, gd_no, gd_tt, gd_tf, gd_ft, gd_ff, alenS_s, alen_sl, alen_ns, abin_add, abin_sub, abin_mul, abin_eql, abin_neq, abin_lss, abin_leq, abin_gtr, abin_geq, abin_seql, abin_sneq, abin_slss, aun_not, aun_neg, aeqB_t, aeqB_f, aconv_i, apick_b, cond_true, cond_false, decide_true, decide_false, Bool.not_true, Bool.not_false, aext_t, ofPart_c, ofPart_a, part?_c, part?_a, cells?_c, cells?_a, tupN_2, tupN_3, Option.map_some, Option.some.injEq, List.getElem?_cons_zero, List.getElem?_cons_succ, not_true_eq_false, not_false_eq_true, quiet_same, bytesI_length, Option.join_some, List.append_assoc, List.cons_append, List.nil_append, List.length_append, List.length_cons, List.length_nil, Nat.zero_add, Nat.add_zero, rd_at, rd_at0, set_at, set_at0, List.set_cons_zero, List.set_cons_succ, ne_eq, decide_not, quiet_ext, newOk_some, List.cons_prefix_cons, List.nil_prefix, List.drop_succ_cons, List.drop_zero, List.all_cons, List.all_nil, Bool.and_true, true_and, and_true, aloadN_at, aloadN_at0, aload1_at, aload1_at0, astoreN_at, astoreN_at0, astore1_at, astore1_at0, aslA_at, aslA_at0, ldN_all, ld1_row, stN_all, st1_row, slr_all, Nat.reduceAdd, Nat.reduceMul, Nat.reduceLT, hlen, c200', hP, c1, c2, hF, w0, w0']; exact e0⟩
        | true =>
          rw [c] at hF
          have hP := fun h => points_Patch_ok (h := h) hi c
          have hb := fun h => bytes_conv (w := 2) (v := no) (h := h) (by omega)
          rw [show ((2 : Nat) : Int) = 2 from rfl] at hb
          have hS := ref01_Same_eq (h := g ++ [some (Row.mk (encB (bytesI 2 no)) true), some (Row.mk [.i .i64 ((2 * i : Nat) : Int), .sl g.length 0 2 1] true), some (Row.mk (encB (bytesI 2 no)) true)]) (v := .c (.sl g.length 0 2 1)) (nv := 2) (u := .c (.sl (g.length + 2) 0 2 1)) (nu := 2) (l := bytesI 2 no) (r := bytesI 2 no) (Has.tr (by simp) (by rw [encB_length, bytesI_length]) (noX_encB _)) (Has.tr (by simp) (by rw [encB_length, bytesI_length]) (noX_encB _)) (by rw [bytesI_length]; omega)
          rw [decide_eq_true rfl] at hS
          obtain ⟨h1, e1⟩ := puts_j (q := N) (hv.more [some (Row.mk (encB (bytesI 2 no)) true), some (Row.mk [.i .i64 ((2 * i : Nat) : Int), .sl g.length 0 2 1] true), some (Row.mk (encB (bytesI 2 no)) true)]) (by omega) hN
          exact ⟨h1, by simp only [afAddr_p, List.append_nil, if_true, if_false, bnd_some, mp_some, cnd_t, cnd_f, gd_no, gd_tt, gd_tf, gd_ft, gd_ff, alenS_s, alen_sl, alen_ns, abin_add, abin_sub, abin_mul, abin_eql, abin_neq, abin_lss, abin_leq, abin_gtr, abin_geq, abin_seql, abin_sneq, abin_slss, aun_not, aun_neg, aeqB_t, aeqB_f, aconv_i, apick_b, cond_true, cond_false, decide_true, decide_false, Bool.not_true, Bool.not_false, aext_t, ofPart_c, ofPart_a, part?_c, part?_a, cells?_c, cells?_a, tupN_2, tupN_3, Option.map_some, Option.some.injEq, List.getElem?_cons_zero, List.getElem?_cons_succ, not_true_eq_false, not_false_eq_true, quiet_same, bytesI_length, Option.join_some, List.append_assoc, List.cons_append, List.nil_append, List.length_append, List.length_cons, List.length_nil, Nat.zero_add, Nat.add_zero, rd_at, rd_at0, set_at, set_at0, List.set_cons_zero, List.set_cons_succ, ne_eq, decide_not, quiet_ext, newOk_some, List.cons_prefix_cons, List.nil_prefix, List.drop_succ_cons, List.drop_zero, List.all_cons, List.all_nil, Bool.and_true, true_and, and_true, aloadN_at, aloadN_at0, aload1_at, aload1_at0, astoreN_at, astoreN_at0, astore1_at, astore1_at0, aslA_at, aslA_at0, ldN_all, ld1_row, stN_all, st1_row, slr_all, Nat.reduceAdd, Nat.reduceMul, Nat.reduceLT, hlen, c200', hP, c1, c2, hF, wi_two hi, hb, hS]; exact e1⟩
  obtain ⟨g', e⟩ := key (nv + 1) (by omega) (ro h) hv.ro
  exact S_escheatlaw20_PointsPuts_flat e rfl

end Go.Proofs.Ytbbkpmbepljhkaa
