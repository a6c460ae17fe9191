/- The law of a class that is parted in two answers true. -/
import Derived.Test.YtbbkpmbepljhkaaSIndexHalf
import Derived.Test.YtbbkpmbepljhkaaSLaw19
import Derived.Test.YtbbkpmbepljhkaaGEscheatlaw19IndexParts
set_option linter.all false
namespace Go.Proofs.Ytbbkpmbepljhkaa
open Go Go.Esc

theorem lowM_bits {x b : Nat} (h1 : 1 ≤ b) (h2 : b < 32) : lowM x b = x % 2 ^ b := by
  unfold lowM
  rw [if_neg (by omega), if_neg (by omega), Int.toNat_natCast]

theorem indexParts_eq {d : Int} {t : List Int} {pl x : Nat} (h : Heap) (ht : t.length = 32) (hpl : pl < 256) (hx : x < 4294967296) : S_escheatlaw19_IndexParts [.a (encI (d :: t)), .c (.i .u8 (pl : Int)), .c (.i .u32 (x : Int))] h = some (.c (.b true), h) := by
  have key : ∀ g, ∃ g', R_escheatlaw19_IndexParts 0 [.a (encI (d :: t)), .c (.i .u8 (pl : Int)), .c (.i .u32 (x : Int))] g = some (.c (.b true), g') := by
    intro g
    have hB := encX_length (d := d) ht
    have hz : (encI (0 :: zI 32)).length = 33 := encX_length (d := 0) zI_length
    have hR := fun h => index_Right_eq (d := d) (t := t) (h := h) ht
    have l0 : (encI (d :: t))[0]? = some (.i .i64 d) := rfl
    rw [R_escheatlaw19_IndexParts_eq, zI_enc]
    cases cr : rightX d t with
    | false =>
      rw [cr] at hR
      generalize encI (d :: t) = y at *
      generalize encI (0 :: zI 32) = z at *
      exact ⟨_, by simp only [afAddr_p, List.append_nil, if_true, if_false, bnd_some, mp_some, cnd_t, cnd_f, gd_no, gd_tt, gd_tf, gd_ft, gd_ff, alenS_s, alen_sl, alen_ns, abin_add, abin_sub, abin_mul, abin_eql, abin_neq, abin_lss, abin_leq, abin_gtr, abin_geq, abin_seql, abin_sneq, abin_slss, aun_not, aun_neg, aeqB_t, aeqB_f, aconv_i, apick_b, cond_true, cond_false, decide_true, decide_false, Bool.not_true, Bool.not_false, aext_t, ofPart_c, ofPart_a, part?_c, part?_a, cells?_c, cells?_a, tupN_2, tupN_3, Option.map_some, Option.some.injEq, List.getElem?_cons_zero, List.getElem?_cons_succ, not_true_eq_false, not_false_eq_true, quiet_same, bytesI_length, Option.join_some, List.append_assoc, List.cons_append, List.nil_append, List.length_append, List.length_cons, List.length_nil, Nat.zero_add, Nat.add_zero, rd_at, rd_at0, set_at, set_at0, List.set_cons_zero, List.set_cons_succ, ne_eq, decide_not, quiet_ext, newOk_some, List.cons_prefix_cons, List.nil_prefix, List.drop_succ_cons, List.drop_zero, List.all_cons, List.all_nil, Bool.and_true, true_and, and_true, aloadN_at, aloadN_at0, aload1_at, aload1_at0, astoreN_at, astoreN_at0, astore1_at, astore1_at0, aslA_at, aslA_at0, ldN_all, ld1_row, stN_all, st1_row, slr_all, Nat.reduceAdd, Nat.reduceMul, Nat.reduceLT, hB, hz, hR, works19_eq] <;> rfl⟩
    | true =>
      rw [cr] at hR
      obtain ⟨h0, h5, _⟩ := right_iff.1 cr
      have hf := fair_of ht cr
      by_cases c1 : d < 1
      · generalize encI (d :: t) = y at *
        generalize encI (0 :: zI 32) = z at *
        exact ⟨_, by simp only [afAddr_p, List.append_nil, if_true, if_false, bnd_some, mp_some, cnd_t, cnd_f, gd_no, gd_tt, gd_tf, gd_ft, gd_ff, alenS_s, alen_sl, alen_ns, abin_add, abin_sub, abin_mul, abin_eql, abin_neq, abin_lss, abin_leq, abin_gtr, abin_geq, abin_seql, abin_sneq, abin_slss, aun_not, aun_neg, aeqB_t, aeqB_f, aconv_i, apick_b, cond_true, cond_false, decide_true, decide_false, Bool.not_true, Bool.not_false, aext_t, ofPart_c, ofPart_a, part?_c, part?_a, cells?_c, cells?_a, tupN_2, tupN_3, Option.map_some, Option.some.injEq, List.getElem?_cons_zero, List.getElem?_cons_succ, not_true_eq_false, not_false_eq_true, quiet_same, bytesI_length, Option.join_some, List.append_assoc, List.cons_append, List.nil_append, List.length_append, List.length_cons, List.length_nil, Nat.zero_add, Nat.add_zero, rd_at, rd_at0, set_at, set_at0, List.set_cons_zero, List.set_cons_succ, ne_eq, decide_not, quiet_ext, newOk_some, List.cons_prefix_cons, List.nil_prefix, List.drop_succ_cons, List.drop_zero, List.all_cons, List.all_nil, Bool.and_true, true_and, and_true, aloadN_at, aloadN_at0, aload1_at, aload1_at0, astoreN_at, astoreN_at0, astore1_at, astore1_at0, aslA_at, aslA_at0, ldN_all, ld1_row, stN_all, st1_row, slr_all, Nat.reduceAdd, Nat.reduceMul, Nat.reduceLT, hB, hz, hR, l0, c1, works19_eq] <;> rfl⟩
      have hdd := depX_of h0 h5
      have hdl := depX_le d
      have w1 : IntKind.wrap .i64 (pl : Int) = (pl : Int) := wrap_i64 (by omega) (by omega)
      have w2 : IntKind.wrap .u64 d = d := wrap_u64 (by omega) (by omega)
      have e1 := shl_one hdl
      rw [hdd] at e1
      rw [show 2 ^ depX d = manyX d from rfl] at e1
      have hm0 := manyX_pos d
      have e2 : abin .rem (.c (.i .i64 (pl : Int))) (.c (.i .i64 ((manyX d : Nat) : Int))) = some (.c (.i .i64 ((pl % manyX d : Nat) : Int))) := by rw [rem_i (a := (pl : Int)) (b := (manyX d : Nat)) (by omega) (by omega)]; simp
      have hp : pl % manyX d < manyX d := Nat.mod_lt _ hm0
      generalize pl % manyX d = p at *
      have hm32 := manyX_le d
      have hBi := fun h => index_Bits_eq (d := d) (t := t) (p := (p : Int)) (h := h) ht
      rw [bitX_of hp] at hBi
      have hbl := bitsX_le (d := d) (t := t) (p := p)
      by_cases c2 : d ≤ ((bitsX d t p : Nat) : Int)
      · generalize bitsX d t p = b at *
        generalize encI (d :: t) = y at *
        generalize encI (0 :: zI 32) = z at *
        exact ⟨_, by simp only [afAddr_p, List.append_nil, if_true, if_false, bnd_some, mp_some, cnd_t, cnd_f, gd_no, gd_tt, gd_tf, gd_ft, gd_ff, alenS_s, alen_sl, alen_ns, abin_add, abin_sub, abin_mul, abin_eql, abin_neq, abin_lss, abin_leq, abin_gtr, abin_geq, abin_seql, abin_sneq, abin_slss, aun_not, aun_neg, aeqB_t, aeqB_f, aconv_i, apick_b, cond_true, cond_false, decide_true, decide_false, Bool.not_true, Bool.not_false, aext_t, ofPart_c, ofPart_a, part?_c, part?_a, cells?_c, cells?_a, tupN_2, tupN_3, Option.map_some, Option.some.injEq, List.getElem?_cons_zero, List.getElem?_cons_succ, not_true_eq_false, not_false_eq_true, quiet_same, bytesI_length, Option.join_some, List.append_assoc, List.cons_append, List.nil_append, List.length_append, List.length_cons, List.length_nil, Nat.zero_add, Nat.add_zero, rd_at, rd_at0, set_at, set_at0, List.set_cons_zero, List.set_cons_succ, ne_eq, decide_not, quiet_ext, newOk_some, List.cons_prefix_cons, List.nil_prefix, List.drop_succ_cons, List.drop_zero, List.all_cons, List.all_nil, Bool.and_true, true_and, and_true, aloadN_at, aloadN_at0, aload1_at, aload1_at0, astoreN_at, astoreN_at0, astore1_at, astore1_at0, aslA_at, aslA_at0, ldN_all, ld1_row, stN_all, st1_row, slr_all, Nat.reduceAdd, Nat.reduceMul, Nat.reduceLT, hB, hz, hR, l0, c1, w1, w2, e1, e2, hBi, c2, works19_eq] <;> rfl⟩
      have a1 := adX (id := g.length + 1) (i := p) (by omega)
      have x1 := encX_get (d := d) (i := p) ht (by omega)
      by_cases c3 : toX t p = 0
      · rw [c3] at x1
        generalize bitsX d t p = b at *
        generalize encI (d :: t) = y at *
        generalize encI (0 :: zI 32) = z at *
        exact ⟨_, by simp only [afAddr_p, List.append_nil, if_true, if_false, bnd_some, mp_some, cnd_t, cnd_f, gd_no, gd_tt, gd_tf, gd_ft, gd_ff, alenS_s, alen_sl, alen_ns, abin_add, abin_sub, abin_mul, abin_eql, abin_neq, abin_lss, abin_leq, abin_gtr, abin_geq, abin_seql, abin_sneq, abin_slss, aun_not, aun_neg, aeqB_t, aeqB_f, aconv_i, apick_b, cond_true, cond_false, decide_true, decide_false, Bool.not_true, Bool.not_false, aext_t, ofPart_c, ofPart_a, part?_c, part?_a, cells?_c, cells?_a, tupN_2, tupN_3, Option.map_some, Option.some.injEq, List.getElem?_cons_zero, List.getElem?_cons_succ, not_true_eq_false, not_false_eq_true, quiet_same, bytesI_length, Option.join_some, List.append_assoc, List.cons_append, List.nil_append, List.length_append, List.length_cons, List.length_nil, Nat.zero_add, Nat.add_zero, rd_at, rd_at0, set_at, set_at0, List.set_cons_zero, List.set_cons_succ, ne_eq, decide_not, quiet_ext, newOk_some, List.cons_prefix_cons, List.nil_prefix, List.drop_succ_cons, List.drop_zero, List.all_cons, List.all_nil, Bool.and_true, true_and, and_true, aloadN_at, aloadN_at0, aload1_at, aload1_at0, astoreN_at, astoreN_at0, astore1_at, astore1_at0, aslA_at, aslA_at0, ldN_all, ld1_row, stN_all, st1_row, slr_all, Nat.reduceAdd, Nat.reduceMul, Nat.reduceLT, hB, hz, hR, l0, c1, w1, w2, e1, e2, hBi, c2, a1, x1, works19_eq] <;> rfl⟩
      have hBu := fun h => index_Buckets_eq (d := d) (h := h) ht
      have hbul := bucL_length t (manyX d)
      have hIn := fun h => ref09_In_eq (x := 60000) (h := h ++ [some ⟨encI (bucL t (manyX d)), true⟩]) (v := .c (.sl h.length 0 (bucL t (manyX d)).length 1)) (Has.row (rw := true) rd_new (by rw [encI_length]; omega) (noX_encI _)) (by omega)
      have hin := mem_bucL (t := t) (x := 60000) (by omega) (manyX d)
      have hIn2 := hIn (g ++ [some (Row.mk (encI (d :: t)) true), some (Row.mk (encI (d :: t)) true)])
      simp only [List.length_append, List.length_cons, List.length_nil, Nat.zero_add, List.append_assoc, List.cons_append, List.nil_append] at hIn2
      by_cases c4 : (60000 : Int) ∈ bucL t (manyX d)
      · rw [decide_eq_true c4] at hIn2
        generalize bucL t (manyX d) = Bu at *
        generalize bitsX d t p = b at *
        generalize encI (d :: t) = y at *
        generalize encI (0 :: zI 32) = z at *
        generalize encI Bu = w at *
        exact ⟨_, by simp only [afAddr_p, List.append_nil, if_true, if_false, bnd_some, mp_some, cnd_t, cnd_f, gd_no, gd_tt, gd_tf, gd_ft, gd_ff, alenS_s, alen_sl, alen_ns, abin_add, abin_sub, abin_mul, abin_eql, abin_neq, abin_lss, abin_leq, abin_gtr, abin_geq, abin_seql, abin_sneq, abin_slss, aun_not, aun_neg, aeqB_t, aeqB_f, aconv_i, apick_b, cond_true, cond_false, decide_true, decide_false, Bool.not_true, Bool.not_false, aext_t, ofPart_c, ofPart_a, part?_c, part?_a, cells?_c, cells?_a, tupN_2, tupN_3, Option.map_some, Option.some.injEq, List.getElem?_cons_zero, List.getElem?_cons_succ, not_true_eq_false, not_false_eq_true, quiet_same, bytesI_length, Option.join_some, List.append_assoc, List.cons_append, List.nil_append, List.length_append, List.length_cons, List.length_nil, Nat.zero_add, Nat.add_zero, rd_at, rd_at0, set_at, set_at0, List.set_cons_zero, List.set_cons_succ, ne_eq, decide_not, quiet_ext, newOk_some, List.cons_prefix_cons, List.nil_prefix, List.drop_succ_cons, List.drop_zero, List.all_cons, List.all_nil, Bool.and_true, true_and, and_true, aloadN_at, aloadN_at0, aload1_at, aload1_at0, astoreN_at, astoreN_at0, astore1_at, astore1_at0, aslA_at, aslA_at0, ldN_all, ld1_row, stN_all, st1_row, slr_all, Nat.reduceAdd, Nat.reduceMul, Nat.reduceLT, hB, hz, hR, l0, c1, w1, w2, e1, e2, hBi, c2, a1, x1, c3, hBu, hIn2, works19_eq] <;> rfl⟩
      rw [decide_eq_false c4] at hIn2
      have hno : ∀ i, i < manyX d → toX t i ≠ 60000 := fun i hi he => c4 (hin.2 ⟨i, hi, he⟩)
      have hbd : bitsX d t p < depX d := by omega
      have hfz := half_fair (no := 60000) hf hp c3 hbd hno (by omega) (by decide)
      have hrz := right_of h0 h5 hfz
      have w3 := wi_succ (show bitsX d t p + 1 < 9223372036854775808 by omega)
      have hS := fun h => index_Set_eq (d := d) (p := (p : Int)) (b := ((bitsX d t p + 1 : Nat) : Int)) (v := 60000) (h := h) ht
      rw [plX_of hp (by omega)] at hS
      rw [show setX t (placesX (manyX d) p (bitsX d t p + 1)) 60000 = halfX d t p 60000 from rfl] at hS
      have hZ := encX_length (d := d) hfz.len
      have hPl := fun h => index_Place_eq (d := d) (h := h) hfz.len hx
      have hRz := fun h => index_Right_eq (d := d) (t := halfX d t p 60000) (h := h) hfz.len
      rw [hrz] at hRz
      have hi : x % manyX d < manyX d := Nat.mod_lt _ hm0
      have hLo := fun h => mix_Low_eq (x := x) (b := ((bitsX d t p + 1 : Nat) : Int)) (h := h) hx
      rw [lowM_bits (by omega) (by omega)] at hLo
      have w4 := wrap_u64n (k := bitsX d t p) (by omega)
      have e3 : abin .shl (.c (.i .i64 2)) (.c (.i .u64 ((bitsX d t p : Nat) : Int))) = some (.c (.i .i64 ((2 ^ (bitsX d t p + 1) : Nat) : Int))) := by
        rw [abin_shl (by omega)]
        have h1 : Nat.min ((bitsX d t p : Nat) : Int).toNat (IntKind.i64).bits = bitsX d t p := by
          have : (IntKind.i64).bits = 64 := rfl
          rw [this, Int.toNat_natCast]; exact Nat.min_eq_left (by omega)
        have hp5 := pow_le32 (show bitsX d t p ≤ 5 by omega)
        have e : (2 : Int) * 2 ^ bitsX d t p = ((2 ^ (bitsX d t p + 1) : Nat) : Int) := by rw [Nat.pow_succ]; simp; omega
        rw [h1, e]
        rw [Nat.pow_succ]
        generalize 2 ^ bitsX d t p = y at hp5 ⊢
        rw [wrap_i64 (by omega) (by omega)]
      have hp1 : 0 < 2 ^ (bitsX d t p + 1) := Nat.pow_pos (by omega)
      have e4 : abin .rem (.c (.i .i64 (p : Int))) (.c (.i .i64 ((2 ^ (bitsX d t p + 1) : Nat) : Int))) = some (.c (.i .i64 ((p % 2 ^ (bitsX d t p + 1) : Nat) : Int))) := by rw [rem_i (a := (p : Int)) (b := ((2 ^ (bitsX d t p + 1) : Nat) : Int)) (by omega) (by omega)]; simp
      have hg := toX_half (d := d) (p := p) (i := x % manyX d) (no := 60000) ht
      have hmm : x % manyX d % 2 ^ (bitsX d t p + 1) = x % 2 ^ (bitsX d t p + 1) := Nat.mod_mod_of_dvd x (Nat.pow_dvd_pow 2 (by omega))
      rw [hmm] at hg
      have c5 : ¬ ((x % manyX d : Nat) : Int) < 0 := by omega
      have c6 : ¬ (31 : Int) < ((x % manyX d : Nat) : Int) := by omega
      have x2 := encX_get (d := d) (i := x % manyX d) ht (by omega)
      have x3 := encX_get (d := d) (i := x % manyX d) hfz.len (by omega)
      have hnx := hno (x % manyX d) hi
      have a2 := adX (id := g.length + 1) (i := x % manyX d) (by omega)
      have a3 := adX (id := g.length + 3) (i := x % manyX d) (by omega)
      generalize hzz : halfX d t p 60000 = tz at *
      generalize x % manyX d = i at *
      generalize bitsX d t p + 1 = b1 at *
      generalize bucL t (manyX d) = Bu at *
      by_cases c7 : x % 2 ^ b1 = p % 2 ^ b1
      · rw [if_pos ⟨hi, c7⟩] at hg
        rw [hg] at x3
        rw [c7] at hLo
        generalize ((2 ^ b1 : Nat) : Int) = P1 at *
        generalize p % 2 ^ b1 = P2 at *
        generalize bitsX d t p = b at *
        generalize encI (d :: tz) = yz at *
        generalize encI (d :: t) = y at *
        generalize encI (0 :: zI 32) = z at *
        generalize encI Bu = w at *
        exact ⟨_, by simp only [afAddr_p, List.append_nil, if_true, if_false, bnd_some, mp_some, cnd_t, cnd_f, gd_no, gd_tt, gd_tf, gd_ft, gd_ff, alenS_s, alen_sl, alen_ns, abin_add, abin_sub, abin_mul, abin_eql, abin_neq, abin_lss, abin_leq, abin_gtr, abin_geq, abin_seql, abin_sneq, abin_slss, aun_not, aun_neg, aeqB_t, aeqB_f, aconv_i, apick_b, cond_true, cond_false, decide_true, decide_false, Bool.not_true, Bool.not_false, aext_t, ofPart_c, ofPart_a, part?_c, part?_a, cells?_c, cells?_a, tupN_2, tupN_3, Option.map_some, Option.some.injEq, List.getElem?_cons_zero, List.getElem?_cons_succ, not_true_eq_false, not_false_eq_true, quiet_same, bytesI_length, Option.join_some, List.append_assoc, List.cons_append, List.nil_append, List.length_append, List.length_cons, List.length_nil, Nat.zero_add, Nat.add_zero, rd_at, rd_at0, set_at, set_at0, List.set_cons_zero, List.set_cons_succ, ne_eq, decide_not, quiet_ext, newOk_some, List.cons_prefix_cons, List.nil_prefix, List.drop_succ_cons, List.drop_zero, List.all_cons, List.all_nil, Bool.and_true, true_and, and_true, aloadN_at, aloadN_at0, aload1_at, aload1_at0, astoreN_at, astoreN_at0, astore1_at, astore1_at0, aslA_at, aslA_at0, ldN_all, ld1_row, stN_all, st1_row, slr_all, Nat.reduceAdd, Nat.reduceMul, Nat.reduceLT, hB, hz, hR, l0, c1, w1, w2, e1, e2, hBi, c2, a1, x1, c3, hBu, hIn2, w3, hS, hZ, hPl, c5, c6, hRz, hLo, w4, e3, e4, a2, a3, x2, x3, works19_eq, escheatlaw19_IndexParts_j0_eq, beq_self_eq_true] <;> rfl⟩
      · rw [if_neg (fun h => c7 h.2)] at hg
        rw [hg] at x3
        have c8 : ¬ ((x % 2 ^ b1 : Nat) : Int) = ((p % 2 ^ b1 : Nat) : Int) := by omega
        generalize ((2 ^ b1 : Nat) : Int) = P1 at *
        generalize x % 2 ^ b1 = P3 at *
        generalize p % 2 ^ b1 = P2 at *
        generalize bitsX d t p = b at *
        generalize encI (d :: tz) = yz at *
        generalize encI (d :: t) = y at *
        generalize encI (0 :: zI 32) = z at *
        generalize encI Bu = w at *
        exact ⟨_, by simp only [afAddr_p, List.append_nil, if_true, if_false, bnd_some, mp_some, cnd_t, cnd_f, gd_no, gd_tt, gd_tf, gd_ft, gd_ff, alenS_s, alen_sl, alen_ns, abin_add, abin_sub, abin_mul, abin_eql, abin_neq, abin_lss, abin_leq, abin_gtr, abin_geq, abin_seql, abin_sneq, abin_slss, aun_not, aun_neg, aeqB_t, aeqB_f, aconv_i, apick_b, cond_true, cond_false, decide_true, decide_false, Bool.not_true, Bool.not_false, aext_t, ofPart_c, ofPart_a, part?_c, part?_a, cells?_c, cells?_a, tupN_2, tupN_3, Option.map_some, Option.some.injEq, List.getElem?_cons_zero, List.getElem?_cons_succ, not_true_eq_false, not_false_eq_true, quiet_same, bytesI_length, Option.join_some, List.append_assoc, List.cons_append, List.nil_append, List.length_append, List.length_cons, List.length_nil, Nat.zero_add, Nat.add_zero, rd_at, rd_at0, set_at, set_at0, List.set_cons_zero, List.set_cons_succ, ne_eq, decide_not, quiet_ext, newOk_some, List.cons_prefix_cons, List.nil_prefix, List.drop_succ_cons, List.drop_zero, List.all_cons, List.all_nil, Bool.and_true, true_and, and_true, aloadN_at, aloadN_at0, aload1_at, aload1_at0, astoreN_at, astoreN_at0, astore1_at, astore1_at0, aslA_at, aslA_at0, ldN_all, ld1_row, stN_all, st1_row, slr_all, Nat.reduceAdd, Nat.reduceMul, Nat.reduceLT, hB, hz, hR, l0, c1, w1, w2, e1, e2, hBi, c2, a1, x1, c3, hBu, hIn2, w3, hS, hZ, hPl, c5, c6, hRz, hLo, w4, e3, e4, c8, a2, a3, x2, x3, hnx, works19_eq, escheatlaw19_IndexParts_j0_eq, beq_self_eq_true] <;> rfl⟩
  obtain ⟨g', e⟩ := key (ro h)
  exact S_escheatlaw19_IndexParts_flat e rfl

end Go.Proofs.Ytbbkpmbepljhkaa
