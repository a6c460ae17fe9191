/- The document's numbers of a block, and those below an end. -/
import Derived.Test.YtbbkpmbepljhkaaSPointsPlain
import Derived.Test.YtbbkpmbepljhkaaSPointsPatch
import Derived.Test.YtbbkpmbepljhkaaSRef01
import Derived.Test.YtbbkpmbepljhkaaGEscheatref20
set_option linter.all false
namespace Go.Proofs.Ytbbkpmbepljhkaa
open Go Go.Esc

theorem numbers_loop {v : Val} {nv : Nat} {b : List UInt8} {g : Heap} {q : Nat} (hv : Has g v 1 nv (encB b)) (hb : b.length = 256) : ∀ (e i m : Nat) (h : Heap) (id : Nat), i + e = 128 → e < m → Low g.length g h → g.length ≤ id → rd h id = some ⟨encI (fldsP b i), true⟩ →
    ∃ v2 h', escheatref20_Numbers_l0 q m v (.c (.sl id 0 i 1)) (.c (.i .i64 (i : Int))) h = some (v2, h') ∧ Out g.length h' v2 1 128 (encI (fldsP b 128))
  | e, i, 0, h, id, _, hm, _, _, _ => by omega
  | 0, i, m + 1, h, id, hi, hm, hlow, hid, hr => by
    have e0 : i = 128 := by omega
    subst e0
    have c0 : ¬ ((128 : Nat) : Int) < 128 := by omega
    rw [escheatref20_Numbers_l0_eq]
    exact ⟨_, _, by simp only [afAddr_p, List.append_nil, if_true, if_false, bnd_some, mp_some, cnd_t, cnd_f, gd_no, gd_tt, gd_tf, gd_ft, gd_ff, alenS_s, alen_sl, alen_ns, abin_add, abin_sub, abin_mul, abin_eql, abin_neq, abin_lss, abin_leq, abin_gtr, abin_geq, abin_seql, abin_sneq, abin_slss, aun_not, aun_neg, agn_some, aeqN_nf, aeqN_f, aeqN_np, aeqN_p, anilc_p, aeqB_t, aeqB_f, aconv_i, apick_b, cond_true, cond_false, decide_true, decide_false, Bool.not_true, Bool.not_false, aext_t, ofPart_c, ofPart_a, part?_c, part?_a, cells?_c, cells?_a, tupN_2, tupN_3, Option.map_some, Option.some.injEq, List.getElem?_cons_zero, List.getElem?_cons_succ, not_true_eq_false, not_false_eq_true, quiet_same, bytesI_length, Option.join_some, List.append_assoc, List.cons_append, List.nil_append, List.length_append, List.length_cons, List.length_nil, Nat.zero_add, Nat.add_zero, rd_at, rd_at0, set_at, set_at0, List.set_cons_zero, List.set_cons_succ, ne_eq, decide_not, quiet_ext, newOk_some, List.cons_prefix_cons, List.nil_prefix, List.drop_succ_cons, List.drop_zero, List.all_cons, List.all_nil, Bool.and_true, true_and, and_true, c0] <;> rfl, by rw [encI_length, fldsP_length], _, rfl, hid, hr⟩
  | e + 1, i, m + 1, h, id, hi, hm, hlow, hid, hr => by
    have c0 : (i : Int) < 128 := by omega
    have hA := ref01_At_eq (hv.since hlow) (a := ((2 * i : Nat) : Int)) (w := 2) hb
    rw [at_pt hb (by omega)] at hA
    obtain ⟨h1, a1, a2, a3, a4, a5⟩ := push (ys := [.i .i64 (ptP b i)]) (sz := 1) (n := i) hlow hr (by rw [encI_length, fldsP_length]; omega) hid rfl (by omega) (by omega)
    have he : encI (fldsP b i) ++ [.i .i64 (ptP b i)] = encI (fldsP b (i + 1)) := by rw [fldsP]; simp [encI]
    rw [he] at a2
    obtain ⟨v2, h', f1, f2⟩ := numbers_loop (q := q) hv hb e (i + 1) m h1 (h.length + 1) (by omega) (by omega) a3 a4 a2
    have ef : afill [Cell.i .i64 0] [(0, 1, .c (.i .i64 (ptP b i)))] = some [.i .i64 (ptP b i)] := rfl
    rw [escheatref20_Numbers_l0_eq]
    refine ⟨v2, h', ?_, f2⟩
    simp only [afAddr_p, List.append_nil, if_true, if_false, bnd_some, mp_some, cnd_t, cnd_f, gd_no, gd_tt, gd_tf, gd_ft, gd_ff, alenS_s, alen_sl, alen_ns, abin_add, abin_sub, abin_mul, abin_eql, abin_neq, abin_lss, abin_leq, abin_gtr, abin_geq, abin_seql, abin_sneq, abin_slss, aun_not, aun_neg, agn_some, aeqN_nf, aeqN_f, aeqN_np, aeqN_p, anilc_p, aeqB_t, aeqB_f, aconv_i, apick_b, cond_true, cond_false, decide_true, decide_false, Bool.not_true, Bool.not_false, aext_t, ofPart_c, ofPart_a, part?_c, part?_a, cells?_c, cells?_a, tupN_2, tupN_3, Option.map_some, Option.some.injEq, List.getElem?_cons_zero, List.getElem?_cons_succ, not_true_eq_false, not_false_eq_true, quiet_same, bytesI_length, Option.join_some, List.append_assoc, List.cons_append, List.nil_append, List.length_append, List.length_cons, List.length_nil, Nat.zero_add, Nat.add_zero, rd_at, rd_at0, set_at, set_at0, List.set_cons_zero, List.set_cons_succ, ne_eq, decide_not, quiet_ext, newOk_some, List.cons_prefix_cons, List.nil_prefix, List.drop_succ_cons, List.drop_zero, List.all_cons, List.all_nil, Bool.and_true, true_and, and_true, c0, wi_two (show i < 128 by omega), hA, ef, a1, wi_succ (show i + 1 < 9223372036854775808 by omega)]
    exact f1

theorem ref20_Numbers_eq {v : Val} {nv : Nat} {b : List UInt8} {h : Heap} (hv : Has h v 1 nv (encB b)) (hb : b.length = 256) : S_escheatref20_Numbers [v] h = some (.c (.sl h.length 0 128 1), h ++ [some ⟨encI (fldsP b 128), true⟩]) := by
  have key : ∀ N, 128 < N → ∀ g, Has g v 1 nv (encB b) → ∃ v2 g', R_escheatref20_Numbers N [v] g = some (v2, g') ∧ Out g.length g' v2 1 128 (encI (fldsP b 128)) := by
    intro N hN g hv
    obtain ⟨v2, g', f1, f2⟩ := numbers_loop (q := N) hv hb 128 0 N ((g ++ [some (Row.mk [] true)]) ++ [some (Row.mk [] true)]) (g.length + 1) (by omega) hN (((Low.refl (Nat.le_refl _)).new _).new _) (by omega) (by simp [fldsP, encI])
    rw [R_escheatref20_Numbers_eq]
    refine ⟨v2, g', ?_, f2⟩
    simpa using f1
  obtain ⟨v2, g', e, ho⟩ := key (h.length + 129) (by omega) (ro h) hv.ro
  exact S_escheatref20_Numbers_out e (by simpa [ro_length] using ho) (by simp)

def belL (b : List UInt8) (e : Int) (n : Nat) : List Int := (List.range 128).map fun i => if i < n then keptP b e i else ptP b i
theorem belL_length {b : List UInt8} {e : Int} {n : Nat} : (belL b e n).length = 128 := by simp [belL]
theorem belL_zero {b : List UInt8} {e : Int} : belL b e 0 = fldsP b 128 := by
  rw [fldsP_map]; unfold belL
  exact List.map_congr_left fun i _ => if_neg (by omega)
theorem belL_all {b : List UInt8} {e : Int} (hb : b.length = 256) : padB 256 (numsB (belL b e 128)) = keepB b e 128 := by
  rw [← fldsP_all (keepB_length (e := e) hb 128 (Nat.le_refl _)), fldsP_map]
  congr 2
  unfold belL
  refine List.map_congr_left fun i hi => ?_
  have := List.mem_range.1 hi
  rw [if_pos this, keepB_all hb this]
theorem belL_get {b : List UInt8} {e : Int} {n i : Nat} (hi : i < 128) : (belL b e n)[i]? = some (if i < n then keptP b e i else ptP b i) := by
  unfold belL; rw [List.getElem?_map, List.getElem?_range hi]; rfl
theorem belL_succ {b : List UInt8} {e : Int} {n : Nat} (hn : n < 128) : belL b e (n + 1) = (belL b e n).set n (keptP b e n) := by
  apply List.ext_getElem?
  intro i
  by_cases hi : i < 128
  · rw [belL_get hi, List.getElem?_set]
    by_cases c : n = i
    · subst c
      rw [if_pos rfl, if_pos (by omega), if_pos (by rw [belL_length]; omega)]
    · rw [if_neg c, belL_get hi]
      by_cases c2 : i < n
      · rw [if_pos c2, if_pos (by omega)]
      · rw [if_neg c2, if_neg (by omega)]
  · rw [List.getElem?_eq_none (by rw [belL_length]; omega), List.getElem?_eq_none (by rw [List.length_set, belL_length]; omega)]

theorem below_loop {b : List UInt8} {e : Int} {g : Heap} {q : Nat} (hb : b.length = 256) : ∀ f n m : Nat, n + f = 128 → f < m →
    ∃ v2 h', escheatref20_Below_l0 q m (.c (.i .i64 e)) (.c (.sl (g.length + 1) 0 128 1)) (.c (.i .i64 (n : Int))) (g ++ [some (Row.mk [] true), some (Row.mk (encI (belL b e n)) true)]) = some (v2, h') ∧ Out g.length h' v2 1 256 (encB (keepB b e 128))
  | f, n, 0, _, hm => by omega
  | 0, n, m + 1, hn, hm => by
    have e0 : n = 128 := by omega
    subst e0
    have c0 : ¬ ((128 : Nat) : Int) < 128 := by omega
    have hB := ref20_Block_eq (v := .c (.sl (g.length + 1) 0 128 1)) (l := belL b e 128) (h := g ++ [some (Row.mk [] true), some (Row.mk (encI (belL b e 128)) true)]) (Has.row (rw := true) (by simp) (by rw [encI_length, belL_length]) (noX_encI _)) (by omega)
    rw [belL_all hb] at hB
    simp only [List.length_append, List.length_cons, List.length_nil, Nat.zero_add, List.append_assoc, List.cons_append, List.nil_append] at hB
    rw [escheatref20_Below_l0_eq]
    refine ⟨.c (.sl (g.length + 2) 0 256 1), g ++ [some (Row.mk [] true), some (Row.mk (encI (belL b e 128)) true), some (Row.mk (encB (keepB b e 128)) true)], ?_, by rw [encB_length]; exact keepB_length hb 128 (Nat.le_refl _), _, rfl, by omega, by simp⟩
    generalize encI (belL b e 128) = y at *
    generalize encB (keepB b e 128) = z at *
    simp only [afAddr_p, List.append_nil, if_true, if_false, bnd_some, mp_some, cnd_t, cnd_f, gd_no, gd_tt, gd_tf, gd_ft, gd_ff, alenS_s, alen_sl, alen_ns, abin_add, abin_sub, abin_mul, abin_eql, abin_neq, abin_lss, abin_leq, abin_gtr, abin_geq, abin_seql, abin_sneq, abin_slss, aun_not, aun_neg, agn_some, aeqN_nf, aeqN_f, aeqN_np, aeqN_p, anilc_p, aeqB_t, aeqB_f, aconv_i, apick_b, cond_true, cond_false, decide_true, decide_false, Bool.not_true, Bool.not_false, aext_t, ofPart_c, ofPart_a, part?_c, part?_a, cells?_c, cells?_a, tupN_2, tupN_3, Option.map_some, Option.some.injEq, List.getElem?_cons_zero, List.getElem?_cons_succ, not_true_eq_false, not_false_eq_true, quiet_same, bytesI_length, Option.join_some, List.append_assoc, List.cons_append, List.nil_append, List.length_append, List.length_cons, List.length_nil, Nat.zero_add, Nat.add_zero, rd_at, rd_at0, set_at, set_at0, List.set_cons_zero, List.set_cons_succ, ne_eq, decide_not, quiet_ext, newOk_some, List.cons_prefix_cons, List.nil_prefix, List.drop_succ_cons, List.drop_zero, List.all_cons, List.all_nil, Bool.and_true, true_and, and_true, c0, hB]
  | f + 1, n, m + 1, hn, hm => by
    obtain ⟨v2, h', f1, f2⟩ := below_loop (g := g) (q := q) hb f (n + 1) m (by omega) (by omega)
    have c0 : (n : Int) < 128 := by omega
    have eb : aiAddrL 1 (.c (.sl (g.length + 1) 0 128 1)) (.c (.i .i64 (n : Int))) = some (.c (.p (g.length + 1) n)) := by rw [iAddrL_of (by omega)]; simp
    have hx : (encI (belL b e n))[n]? = some (.i .i64 (ptP b n)) := by rw [encI_get, belL_get (by omega), if_neg (by omega)]; rfl
    have hlt : n < (encI (belL b e n)).length := by rw [encI_length, belL_length]; omega
    have hs : keptP b e n = 0 → (encI (belL b e n)).set n (.i .i64 0) = encI (belL b e (n + 1)) := by
      intro h
      rw [encI_set, belL_succ (by omega), h]
    have hs2 : keptP b e n = ptP b n → belL b e (n + 1) = belL b e n := by
      intro h
      rw [belL_succ (by omega), h]
      apply List.ext_getElem?
      intro i
      rw [List.getElem?_set]
      by_cases c : n = i
      · subst c
        rw [if_pos rfl, if_pos (by rw [belL_length]; omega), belL_get (by omega), if_neg (by omega)]
      · rw [if_neg c]
    have e3 : abin .rem (.c (.i .i64 (n : Int))) (.c (.i .i64 3)) = some (.c (.i .i64 ((n % 3 : Nat) : Int))) := by rw [rem_i (a := (n : Int)) (b := 3) (by omega) (by omega)]; simp
    have w1 := wi_succ (show n + 1 < 9223372036854775808 by omega)
    rw [escheatref20_Below_l0_eq]
    by_cases c : e ≤ ptP b n
    · have hk : keptP b e n = 0 := by
        unfold keptP killP
        rw [decide_eq_false (by omega)]; rfl
      have hs := hs hk
      refine ⟨v2, h', ?_, f2⟩
      generalize encI (belL b e (n + 1)) = y1 at *
      generalize encI (belL b e n) = y at *
      simp only [afAddr_p, List.append_nil, if_true, if_false, bnd_some, mp_some, cnd_t, cnd_f, gd_no, gd_tt, gd_tf, gd_ft, gd_ff, alenS_s, alen_sl, alen_ns, abin_add, abin_sub, abin_mul, abin_eql, abin_neq, abin_lss, abin_leq, abin_gtr, abin_geq, abin_seql, abin_sneq, abin_slss, aun_not, aun_neg, agn_some, aeqN_nf, aeqN_f, aeqN_np, aeqN_p, anilc_p, aeqB_t, aeqB_f, aconv_i, apick_b, cond_true, cond_false, decide_true, decide_false, Bool.not_true, Bool.not_false, aext_t, ofPart_c, ofPart_a, part?_c, part?_a, cells?_c, cells?_a, tupN_2, tupN_3, Option.map_some, Option.some.injEq, List.getElem?_cons_zero, List.getElem?_cons_succ, not_true_eq_false, not_false_eq_true, quiet_same, bytesI_length, Option.join_some, List.append_assoc, List.cons_append, List.nil_append, List.length_append, List.length_cons, List.length_nil, Nat.zero_add, Nat.add_zero, rd_at, rd_at0, set_at, set_at0, List.set_cons_zero, List.set_cons_succ, ne_eq, decide_not, quiet_ext, newOk_some, List.cons_prefix_cons, List.nil_prefix, List.drop_succ_cons, List.drop_zero, List.all_cons, List.all_nil, Bool.and_true, true_and, and_true, aloadN_at, aloadN_at0, aload1_at, aload1_at0, astoreN_at, astoreN_at0, astore1_at, astore1_at0, aslA_at, aslA_at0, ldN_all, ld1_row, stN_all, st1_row, slr_all, Nat.reduceAdd, Nat.reduceMul, Nat.reduceLT, c0, eb, hx, c, hlt, hs, escheatref20_Below_j0_eq, w1]
      exact f1
    · by_cases c2 : n % 3 = 2
      · have c3 : ((n % 3 : Nat) : Int) = 2 := by omega
        have hk : keptP b e n = 0 := by
          unfold keptP killP
          rw [decide_eq_true c2, Bool.not_true, Bool.and_false]; rfl
        have hs := hs hk
        refine ⟨v2, h', ?_, f2⟩
        generalize encI (belL b e (n + 1)) = y1 at *
        generalize encI (belL b e n) = y at *
        simp only [afAddr_p, List.append_nil, if_true, if_false, bnd_some, mp_some, cnd_t, cnd_f, gd_no, gd_tt, gd_tf, gd_ft, gd_ff, alenS_s, alen_sl, alen_ns, abin_add, abin_sub, abin_mul, abin_eql, abin_neq, abin_lss, abin_leq, abin_gtr, abin_geq, abin_seql, abin_sneq, abin_slss, aun_not, aun_neg, agn_some, aeqN_nf, aeqN_f, aeqN_np, aeqN_p, anilc_p, aeqB_t, aeqB_f, aconv_i, apick_b, cond_true, cond_false, decide_true, decide_false, Bool.not_true, Bool.not_false, aext_t, ofPart_c, ofPart_a, part?_c, part?_a, cells?_c, cells?_a, tupN_2, tupN_3, Option.map_some, Option.some.injEq, List.getElem?_cons_zero, List.getElem?_cons_succ, not_true_eq_false, not_false_eq_true, quiet_same, bytesI_length, Option.join_some, List.append_assoc, List.cons_append, List.nil_append, List.length_append, List.length_cons, List.length_nil, Nat.zero_add, Nat.add_zero, rd_at, rd_at0, set_at, set_at0, List.set_cons_zero, List.set_cons_succ, ne_eq, decide_not, quiet_ext, newOk_some, List.cons_prefix_cons, List.nil_prefix, List.drop_succ_cons, List.drop_zero, List.all_cons, List.all_nil, Bool.and_true, true_and, and_true, aloadN_at, aloadN_at0, aload1_at, aload1_at0, astoreN_at, astoreN_at0, astore1_at, astore1_at0, aslA_at, aslA_at0, ldN_all, ld1_row, stN_all, st1_row, slr_all, Nat.reduceAdd, Nat.reduceMul, Nat.reduceLT, c0, eb, hx, c, e3, c3, hlt, hs, escheatref20_Below_j0_eq, w1]
        exact f1
      · have c3 : ¬ ((n % 3 : Nat) : Int) = 2 := by omega
        have hk : keptP b e n = ptP b n := by
          unfold keptP killP
          rw [decide_eq_false c2, decide_eq_true (by omega)]; rfl
        have hs2 := hs2 hk
        rw [hs2] at f1
        refine ⟨v2, h', ?_, f2⟩
        generalize encI (belL b e n) = y at *
        simp only [afAddr_p, List.append_nil, if_true, if_false, bnd_some, mp_some, cnd_t, cnd_f, gd_no, gd_tt, gd_tf, gd_ft, gd_ff, alenS_s, alen_sl, alen_ns, abin_add, abin_sub, abin_mul, abin_eql, abin_neq, abin_lss, abin_leq, abin_gtr, abin_geq, abin_seql, abin_sneq, abin_slss, aun_not, aun_neg, agn_some, aeqN_nf, aeqN_f, aeqN_np, aeqN_p, anilc_p, aeqB_t, aeqB_f, aconv_i, apick_b, cond_true, cond_false, decide_true, decide_false, Bool.not_true, Bool.not_false, aext_t, ofPart_c, ofPart_a, part?_c, part?_a, cells?_c, cells?_a, tupN_2, tupN_3, Option.map_some, Option.some.injEq, List.getElem?_cons_zero, List.getElem?_cons_succ, not_true_eq_false, not_false_eq_true, quiet_same, bytesI_length, Option.join_some, List.append_assoc, List.cons_append, List.nil_append, List.length_append, List.length_cons, List.length_nil, Nat.zero_add, Nat.add_zero, rd_at, rd_at0, set_at, set_at0, List.set_cons_zero, List.set_cons_succ, ne_eq, decide_not, quiet_ext, newOk_some, List.cons_prefix_cons, List.nil_prefix, List.drop_succ_cons, List.drop_zero, List.all_cons, List.all_nil, Bool.and_true, true_and, and_true, aloadN_at, aloadN_at0, aload1_at, aload1_at0, astoreN_at, astoreN_at0, astore1_at, astore1_at0, aslA_at, aslA_at0, ldN_all, ld1_row, stN_all, st1_row, slr_all, Nat.reduceAdd, Nat.reduceMul, Nat.reduceLT, c0, eb, hx, c, e3, c3, escheatref20_Below_j0_eq, w1]
        exact f1

theorem ref20_Below_eq {v : Val} {nv : Nat} {b : List UInt8} {e : Int} {h : Heap} (hv : Has h v 1 nv (encB b)) (hb : b.length = 256) : S_escheatref20_Below [v, .c (.i .i64 e)] h = some (.c (.sl h.length 0 256 1), h ++ [some ⟨encB (keepB b e 128), true⟩]) := by
  have key : ∀ N, 128 < N → ∀ g, Has g v 1 nv (encB b) → ∃ v2 g', R_escheatref20_Below N [v, .c (.i .i64 e)] g = some (v2, g') ∧ Out g.length g' v2 1 256 (encB (keepB b e 128)) := by
    intro N hN g hv
    obtain ⟨v2, g', f1, f2⟩ := below_loop (e := e) (g := g) (q := N) hb 128 0 N (by omega) hN
    have hNu := ref20_Numbers_eq (hv.more [some (Row.mk [] true)]) hb
    simp only [List.length_append, List.length_cons, List.length_nil, Nat.zero_add, List.append_assoc, List.cons_append, List.nil_append] at hNu
    rw [belL_zero] at f1
    rw [R_escheatref20_Below_eq]
    refine ⟨v2, g', ?_, f2⟩
    generalize encI (fldsP b 128) = y at *
    simp only [afAddr_p, List.append_nil, if_true, if_false, bnd_some, mp_some, cnd_t, cnd_f, gd_no, gd_tt, gd_tf, gd_ft, gd_ff, alenS_s, alen_sl, alen_ns, abin_add, abin_sub, abin_mul, abin_eql, abin_neq, abin_lss, abin_leq, abin_gtr, abin_geq, abin_seql, abin_sneq, abin_slss, aun_not, aun_neg, agn_some, aeqN_nf, aeqN_f, aeqN_np, aeqN_p, anilc_p, aeqB_t, aeqB_f, aconv_i, apick_b, cond_true, cond_false, decide_true, decide_false, Bool.not_true, Bool.not_false, aext_t, ofPart_c, ofPart_a, part?_c, part?_a, cells?_c, cells?_a, tupN_2, tupN_3, Option.map_some, Option.some.injEq, List.getElem?_cons_zero, List.getElem?_cons_succ, not_true_eq_false, not_false_eq_true, quiet_same, bytesI_length, Option.join_some, List.append_assoc, List.cons_append, List.nil_append, List.length_append, List.length_cons, List.length_nil, Nat.zero_add, Nat.add_zero, rd_at, rd_at0, set_at, set_at0, List.set_cons_zero, List.set_cons_succ, ne_eq, decide_not, quiet_ext, newOk_some, List.cons_prefix_cons, List.nil_prefix, List.drop_succ_cons, List.drop_zero, List.all_cons, List.all_nil, Bool.and_true, true_and, and_true, hNu]
    exact f1
  obtain ⟨v2, g', e, ho⟩ := key (h.length + 129) (by omega) (ro h) hv.ro
  exact S_escheatref20_Below_out e (by simpa [ro_length] using ho) (by simp)

end Go.Proofs.Ytbbkpmbepljhkaa
