/- The law of what a block has as a bucket answers true. -/
import Derived.Test.YtbbkpmbepljhkaaSLaw18
import Derived.Test.YtbbkpmbepljhkaaSBucketRefFix
import Derived.Test.YtbbkpmbepljhkaaGEscheatlaw18BucketLooks
set_option linter.all false
namespace Go.Proofs.Ytbbkpmbepljhkaa
open Go Go.Esc

theorem slAll {h : Heap} {id n : Nat} {cs : List Cell} (hr : rd h id = some ⟨cs, true⟩) (hl : cs.length = n) : aslA h n 1 (.c (.p id 0)) none none = some (.c (.sl id 0 n 1)) := by
  simp [aslA, hr, bound, hl]

theorem looks_end {b : List UInt8} {r0 r1 q : Nat} {h : Heap} (hb : b.length = 256) (h0 : rd h r0 = some ⟨encB b, true⟩) (h1 : rd h r1 = some ⟨encB b, true⟩) : ∃ h', escheatlaw18_BucketLooks_j1 q (.c (.p r0 0)) (.c (.p r1 0)) h = some (.c (.b true), h') := by
  have hbl : (encB b).length = 256 := by rw [encB_length, hb]
  have hxl : (encB (fixX b)).length = 256 := by rw [encB_length]; exact fixX_length
  have l1 := loadAll h1 hbl
  have l2 := fun t => loadAll (h := h ++ t) (rd_append h1) hbl
  have s0 := slAll h0 hbl
  have s2 := fun t => slAll (h := h ++ t) (rd_append h0) hbl
  have hv : Has h (.c (.sl r0 0 256 1)) 1 256 (encB b) := Has.row h0 hbl (noX_encB _)
  have hRo := fun h => bucket_Room_eq (h := h) hb
  have hRr := ref18_Room_eq hv hb
  have hF := fun h => bucket_Fix_eq (h := h) hb
  have hR := fun h => bucket_Right_eq (h := h) hb
  have hrR := fun t => ref18_Right_eq (hv.more t) hb
  have hrF := fun t => ref18_Fix_eq (hv.more t) hb
  have hz : (List.replicate 256 (Cell.i .u8 0)).length = 256 := List.length_replicate
  have hS := ref01_Same_eq (l := fixX b) (r := fixX b) (v := .c (.sl h.length 0 256 1)) (u := .c (.sl (h.length + 1) 0 256 1)) (nv := 256) (nu := 256) (h := h ++ [some (Row.mk (encB (fixX b)) true), some (Row.mk (encB (fixX b)) true)]) (Has.row (rw := true) (by simp) hxl (noX_encB _)) (Has.row (rw := true) (by simp) hxl (noX_encB _)) (by rw [fixX_length]; omega)
  rw [escheatlaw18_BucketLooks_j1_eq]
  cases hr : roomX b with
  | none =>
    rw [hr] at hRo hRr
    have hRr : S_escheatref18_Room [.c (.sl r0 0 256 1)] h = some (.c (.i .i64 (-1)), h) := hRr
    have hRo : ∀ h, S_bucket_Room [.a (encB b)] h = some (.t [.c (.i .i64 0), .c (.b false)], h) := hRo
    have c1 : ¬ (-1 : Int) ≥ 0 := by omega
    have em : amax (.c (.i .i64 (-1))) (.c (.i .i64 0)) = some (.c (.i .i64 0)) := rfl
    generalize rightB b = R at *
    generalize fixX b = X at *
    generalize encB b = y at *
    generalize List.replicate 256 (Cell.i .u8 0) = z at *
    cases R <;> exact ⟨_, by simp only [afAddr_p, List.append_nil, if_true, if_false, bnd_some, mp_some, cnd_t, cnd_f, gd_no, gd_tt, gd_tf, gd_ft, gd_ff, alenS_s, alen_sl, alen_ns, abin_add, abin_sub, abin_mul, abin_eql, abin_neq, abin_lss, abin_leq, abin_gtr, abin_geq, abin_seql, abin_sneq, abin_slss, aun_not, aun_neg, agn_some, aeqN_nf, aeqN_f, aeqN_np, aeqN_p, anilc_p, aeqB_t, aeqB_f, aconv_i, apick_b, cond_true, cond_false, decide_true, decide_false, Bool.not_true, Bool.not_false, aext_t, ofPart_c, ofPart_a, part?_c, part?_a, cells?_c, cells?_a, tupN_2, tupN_3, Option.map_some, Option.some.injEq, List.getElem?_cons_zero, List.getElem?_cons_succ, not_true_eq_false, not_false_eq_true, quiet_same, bytesI_length, Option.join_some, List.append_assoc, List.cons_append, List.nil_append, List.length_append, List.length_cons, List.length_nil, Nat.zero_add, Nat.add_zero, rd_at, rd_at0, set_at, set_at0, List.set_cons_zero, List.set_cons_succ, ne_eq, decide_not, quiet_ext, newOk_some, List.cons_prefix_cons, List.nil_prefix, List.drop_succ_cons, List.drop_zero, List.all_cons, List.all_nil, Bool.and_true, true_and, and_true, aloadN_at, aloadN_at0, aload1_at, aload1_at0, astoreN_at, astoreN_at0, astore1_at, astore1_at0, aslA_at, aslA_at0, ldN_all, ld1_row, stN_all, st1_row, slr_all, Nat.reduceAdd, Nat.reduceMul, Nat.reduceLT, l1, l2, s0, s2, hRo, hRr, hF, hR, hrR, hrF, hz, hxl, c1, em, quiet1, hS, works18_eq, eq_self, decide_true, beq_self_eq_true, Int.reduceEq, Int.reduceLE] <;> rfl⟩
  | some k =>
    rw [hr] at hRo hRr
    have hRr : S_escheatref18_Room [.c (.sl r0 0 256 1)] h = some (.c (.i .i64 (k : Int)), h) := hRr
    have hRo : ∀ h, S_bucket_Room [.a (encB b)] h = some (.t [.c (.i .i64 (k : Int)), .c (.b true)], h) := hRo
    have c1 : (0 : Int) ≤ (k : Int) := by omega
    have em : amax (.c (.i .i64 (k : Int))) (.c (.i .i64 0)) = some (.c (.i .i64 (k : Int))) := by
      simp only [amax]
      simp [Int.max_eq_left c1]
      omega
    generalize rightB b = R at *
    generalize fixX b = X at *
    generalize encB b = y at *
    generalize List.replicate 256 (Cell.i .u8 0) = z at *
    cases R <;> exact ⟨_, by simp only [afAddr_p, List.append_nil, if_true, if_false, bnd_some, mp_some, cnd_t, cnd_f, gd_no, gd_tt, gd_tf, gd_ft, gd_ff, alenS_s, alen_sl, alen_ns, abin_add, abin_sub, abin_mul, abin_eql, abin_neq, abin_lss, abin_leq, abin_gtr, abin_geq, abin_seql, abin_sneq, abin_slss, aun_not, aun_neg, agn_some, aeqN_nf, aeqN_f, aeqN_np, aeqN_p, anilc_p, aeqB_t, aeqB_f, aconv_i, apick_b, cond_true, cond_false, decide_true, decide_false, Bool.not_true, Bool.not_false, aext_t, ofPart_c, ofPart_a, part?_c, part?_a, cells?_c, cells?_a, tupN_2, tupN_3, Option.map_some, Option.some.injEq, List.getElem?_cons_zero, List.getElem?_cons_succ, not_true_eq_false, not_false_eq_true, quiet_same, bytesI_length, Option.join_some, List.append_assoc, List.cons_append, List.nil_append, List.length_append, List.length_cons, List.length_nil, Nat.zero_add, Nat.add_zero, rd_at, rd_at0, set_at, set_at0, List.set_cons_zero, List.set_cons_succ, ne_eq, decide_not, quiet_ext, newOk_some, List.cons_prefix_cons, List.nil_prefix, List.drop_succ_cons, List.drop_zero, List.all_cons, List.all_nil, Bool.and_true, true_and, and_true, aloadN_at, aloadN_at0, aload1_at, aload1_at0, astoreN_at, astoreN_at0, astore1_at, astore1_at0, aslA_at, aslA_at0, ldN_all, ld1_row, stN_all, st1_row, slr_all, Nat.reduceAdd, Nat.reduceMul, Nat.reduceLT, l1, l2, s0, s2, hRo, hRr, hF, hR, hrR, hrF, hz, hxl, c1, em, quiet1, hS, works18_eq, eq_self, decide_true, beq_self_eq_true, Int.reduceEq] <;> rfl⟩

theorem slCs_drop {pre rest : List Slt} {x : Slt} : (slCs (pre ++ x :: rest)).drop (pre.length * 3) = slC (some x) ++ slCs rest := by
  have e : slCs (pre ++ x :: rest) = slCs pre ++ (slC (some x) ++ slCs rest) := by simp [slCs]
  rw [e, ← slCs_length, List.drop_left]
theorem slCs_head {pre rest : List Slt} {x : Slt} : (slCs (pre ++ x :: rest))[pre.length * 3]? = some (.i .i64 (x.1 : Int)) := by
  have := slCs_drop (pre := pre) (rest := rest) (x := x)
  have h2 : ((slCs (pre ++ x :: rest)).drop (pre.length * 3))[0]? = some (.i .i64 (x.1 : Int)) := by rw [this]; rfl
  rw [List.getElem?_drop, Nat.add_zero] at h2
  exact h2
theorem slCs_tail {pre rest : List Slt} {x : Slt} : ((slCs (pre ++ x :: rest)).drop (pre.length * 3 + 1)).take 2 = entC (some x.2) := by
  rw [← List.drop_drop, slCs_drop]
  rfl

theorem aeq_ent {s : List UInt8} {n : Int} : aeq true [.s, .i .i64] (.a [.s s, .i .i64 n]) (.a [.s s, .i .i64 n]) = some (.c (.b false)) := by
  simp only [aeq]
  rw [if_pos ⟨rfl, rfl⟩]
  simp
theorem aeq_sl0 {o : Option Slt} : aeq true [.i .i64, .s, .i .i64] (.a (slC o)) (.a (slC o)) = some (.c (.b false)) := by
  simp only [aeq]
  rw [if_pos (by cases o <;> exact ⟨rfl, rfl⟩)]
  simp

theorem findFrom_lt {b nm : List UInt8} : ∀ (e k : Nat) {x : Slt}, findFrom b nm e k = some x → x.1 < k + e
  | 0, k, x, h => by cases h
  | e + 1, k, x, h => by
    cases hx : readE b k with
    | none => rw [findFrom_none hx] at h; have := findFrom_lt e (k + 1) h; omega
    | some y =>
      obtain ⟨s, n⟩ := y
      by_cases c : s = nm
      · subst c
        rw [findFrom_hit hx] at h
        cases h
        show k < _
        omega
      · rw [findFrom_miss hx c] at h; have := findFrom_lt e (k + 1) h; omega

theorem looks_loop {b nm : List UInt8} {v : Val} {r0 r1 q : Nat} (hb : b.length = 256) : ∀ (e k m : Nat) (h : Heap) (pre : List Slt), k + e = 7 → e < m → rd h r0 = some ⟨encB b, true⟩ → rd h r1 = some ⟨encB b, true⟩ → Has h v 3 (listX b).length (slCs (listX b)) → listX b = pre ++ listFrom b e k → pre.length ≤ k →
    ∃ h', escheatlaw18_BucketLooks_l0 q m (.c (.s nm)) (.c (.p r0 0)) (.c (.p r1 0)) v (.c (.i .i64 (pre.length : Int))) (.c (.i .i64 (k : Int))) h = some (.c (.b true), h')
  | e, k, 0, h, pre, _, hm, _, _, _, _, _ => by omega
  | 0, k, m + 1, h, pre, hk, hm, h0, h1, hv, hl, hpk => by
    have e0 : k = 7 := by omega
    subst e0
    have c0 : ¬ ((7 : Nat) : Int) < 7 := by omega
    have hbl : (encB b).length = 256 := by rw [encB_length, hb]
    rw [listFrom, List.append_nil] at hl
    have hlen := hv.len
    rw [hl] at hlen
    have l1 := loadAll (h := h) h1 hbl
    have s2 := fun u => slAll (h := h ++ u) (rd_append h0) hbl
    have hvr : Has h (.c (.sl r0 0 256 1)) 1 256 (encB b) := Has.row h0 hbl (noX_encB _)
    have hF := fun h => bucket_Find_eq (b := b) (nm := nm) (h := h) hb
    have hrF := fun u => ref18_Find_eq (nm := nm) (hvr.more u) hb
    have hSl := slC_length (o := findX b nm)
    rw [escheatlaw18_BucketLooks_l0_eq]
    cases hf : findX b nm with
    | none =>
      rw [hf] at hF hrF
      have hrF : ∀ u, S_escheatref18_Find [.c (.sl r0 0 256 1), .c (.s nm)] (h ++ u) = some (.c (.i .i64 (-1)), h ++ u) := hrF
      have hF : ∀ h, S_bucket_Find [.a (encB b), .c (.s nm)] h = some (.t [.a [.i .i64 0, .s [], .i .i64 0], .c (.b false)], h) := hF
      have c1 : ¬ (-1 : Int) ≥ 0 := by omega
      have ef0 : afill [Cell.i .i64 0, .s [], .i .i64 0] [] = some [.i .i64 0, .s [], .i .i64 0] := rfl
      have hq : aeq true [.i .i64, .s, .i .i64] (.a [.i .i64 0, .s [], .i .i64 0]) (.a [.i .i64 0, .s [], .i .i64 0]) = some (.c (.b false)) := aeq_sl0 (o := none)
      obtain ⟨h', e⟩ := looks_end (q := q) (h := h ++ [some (Row.mk [.i .i64 0, .s [], .i .i64 0] true)]) hb (rd_append h0) (rd_append h1)
      refine ⟨h', ?_⟩
      generalize encB b = y at *
      simp only [afAddr_p, List.append_nil, if_true, if_false, bnd_some, mp_some, cnd_t, cnd_f, gd_no, gd_tt, gd_tf, gd_ft, gd_ff, alenS_s, alen_sl, alen_ns, abin_add, abin_sub, abin_mul, abin_eql, abin_neq, abin_lss, abin_leq, abin_gtr, abin_geq, abin_seql, abin_sneq, abin_slss, aun_not, aun_neg, agn_some, aeqN_nf, aeqN_f, aeqN_np, aeqN_p, anilc_p, aeqB_t, aeqB_f, aconv_i, apick_b, cond_true, cond_false, decide_true, decide_false, Bool.not_true, Bool.not_false, aext_t, ofPart_c, ofPart_a, part?_c, part?_a, cells?_c, cells?_a, tupN_2, tupN_3, Option.map_some, Option.some.injEq, List.getElem?_cons_zero, List.getElem?_cons_succ, not_true_eq_false, not_false_eq_true, quiet_same, bytesI_length, Option.join_some, List.append_assoc, List.cons_append, List.nil_append, List.length_append, List.length_cons, List.length_nil, Nat.zero_add, Nat.add_zero, rd_at, rd_at0, set_at, set_at0, List.set_cons_zero, List.set_cons_succ, ne_eq, decide_not, quiet_ext, newOk_some, List.cons_prefix_cons, List.nil_prefix, List.drop_succ_cons, List.drop_zero, List.all_cons, List.all_nil, Bool.and_true, true_and, and_true, aloadN_at, aloadN_at0, aload1_at, aload1_at0, astoreN_at, astoreN_at0, astore1_at, astore1_at0, aslA_at, aslA_at0, ldN_all, ld1_row, stN_all, st1_row, slr_all, Nat.reduceAdd, Nat.reduceMul, Nat.reduceLT, c0, l1, hF, s2, hrF, hlen, c1, ef0, hq, eq_self, decide_true, Int.reduceEq, Int.reduceLE, beq_self_eq_true]
      exact e
    | some x =>
      obtain ⟨i, s, n⟩ := x
      have hy := findFrom_some 7 0 hf
      have hilt := findFrom_lt 7 0 hf
      simp only at hy hilt
      rw [hf] at hF hrF
      have hrF : ∀ u, S_escheatref18_Find [.c (.sl r0 0 256 1), .c (.s nm)] (h ++ u) = some (.c (.i .i64 (i : Int)), h ++ u) := hrF
      have hF : ∀ h, S_bucket_Find [.a (encB b), .c (.s nm)] h = some (.t [.a [.i .i64 (i : Int), .s s, .i .i64 n], .c (.b true)], h) := hF
      have c1 : (0 : Int) ≤ (i : Int) := by omega
      have hldn : ldN (some (Row.mk [.i .i64 (i : Int), .s s, .i .i64 n] true)) 1 2 = some (.a [.s s, .i .i64 n]) := rfl
      have hRd := fun u => ref18_Read_eq (hvr.more u) hb (show i < 7 by omega)
      rw [hy.1] at hRd
      have hRd : ∀ u, S_escheatref18_Read [.c (.sl r0 0 256 1), .c (.i .i64 (i : Int))] (h ++ u) = some (.t [.a [.s s, .i .i64 n], .c (.b true)], h ++ u) := hRd
      obtain ⟨h', e⟩ := looks_end (q := q) (h := h ++ [some (Row.mk [.i .i64 (i : Int), .s s, .i .i64 n] true), some (Row.mk [.s s, .i .i64 n] true)]) hb (rd_append h0) (rd_append h1)
      refine ⟨h', ?_⟩
      generalize encB b = y at *
      simp only [afAddr_p, List.append_nil, if_true, if_false, bnd_some, mp_some, cnd_t, cnd_f, gd_no, gd_tt, gd_tf, gd_ft, gd_ff, alenS_s, alen_sl, alen_ns, abin_add, abin_sub, abin_mul, abin_eql, abin_neq, abin_lss, abin_leq, abin_gtr, abin_geq, abin_seql, abin_sneq, abin_slss, aun_not, aun_neg, agn_some, aeqN_nf, aeqN_f, aeqN_np, aeqN_p, anilc_p, aeqB_t, aeqB_f, aconv_i, apick_b, cond_true, cond_false, decide_true, decide_false, Bool.not_true, Bool.not_false, aext_t, ofPart_c, ofPart_a, part?_c, part?_a, cells?_c, cells?_a, tupN_2, tupN_3, Option.map_some, Option.some.injEq, List.getElem?_cons_zero, List.getElem?_cons_succ, not_true_eq_false, not_false_eq_true, quiet_same, bytesI_length, Option.join_some, List.append_assoc, List.cons_append, List.nil_append, List.length_append, List.length_cons, List.length_nil, Nat.zero_add, Nat.add_zero, rd_at, rd_at0, set_at, set_at0, List.set_cons_zero, List.set_cons_succ, ne_eq, decide_not, quiet_ext, newOk_some, List.cons_prefix_cons, List.nil_prefix, List.drop_succ_cons, List.drop_zero, List.all_cons, List.all_nil, Bool.and_true, true_and, and_true, aloadN_at, aloadN_at0, aload1_at, aload1_at0, astoreN_at, astoreN_at0, astore1_at, astore1_at0, aslA_at, aslA_at0, ldN_all, ld1_row, stN_all, st1_row, slr_all, Nat.reduceAdd, Nat.reduceMul, Nat.reduceLT, c0, l1, hF, s2, hrF, hRd, hlen, c1, hldn, aeq_ent, eq_self, decide_true, Int.reduceEq, beq_self_eq_true]
      exact e
  | e + 1, k, m + 1, h, pre, hk, hm, h0, h1, hv, hl, hpk => by
    have c0 : (k : Int) < 7 := by omega
    have hbl : (encB b).length = 256 := by rw [encB_length, hb]
    have w1 := wi_succ (show k + 1 < 9223372036854775808 by omega)
    have w2 := wi_succ (show pre.length + 1 < 9223372036854775808 by omega)
    have s2 := slAll (h := h) h0 hbl
    have hvr : Has h (.c (.sl r0 0 256 1)) 1 256 (encB b) := Has.row h0 hbl (noX_encB _)
    have hRd := ref18_Read_eq (k := k) hvr hb (by omega)
    rw [escheatlaw18_BucketLooks_l0_eq]
    cases hx : readE b k with
    | none =>
      rw [listFrom_none hx] at hl
      rw [hx] at hRd
      have hRd : S_escheatref18_Read [.c (.sl r0 0 256 1), .c (.i .i64 (k : Int))] h = some (.t [.a [.s [], .i .i64 0], .c (.b false)], h) := hRd
      obtain ⟨h', e⟩ := looks_loop (nm := nm) (q := q) hb e (k + 1) m (h ++ [some (Row.mk [.s [], .i .i64 0] true)]) pre (by omega) (by omega) (rd_append h0) (rd_append h1) (hv.more _) hl (by omega)
      refine ⟨h', ?_⟩
      generalize encB b = y at *
      simp only [afAddr_p, List.append_nil, if_true, if_false, bnd_some, mp_some, cnd_t, cnd_f, gd_no, gd_tt, gd_tf, gd_ft, gd_ff, alenS_s, alen_sl, alen_ns, abin_add, abin_sub, abin_mul, abin_eql, abin_neq, abin_lss, abin_leq, abin_gtr, abin_geq, abin_seql, abin_sneq, abin_slss, aun_not, aun_neg, agn_some, aeqN_nf, aeqN_f, aeqN_np, aeqN_p, anilc_p, aeqB_t, aeqB_f, aconv_i, apick_b, cond_true, cond_false, decide_true, decide_false, Bool.not_true, Bool.not_false, aext_t, ofPart_c, ofPart_a, part?_c, part?_a, cells?_c, cells?_a, tupN_2, tupN_3, Option.map_some, Option.some.injEq, List.getElem?_cons_zero, List.getElem?_cons_succ, not_true_eq_false, not_false_eq_true, quiet_same, bytesI_length, Option.join_some, List.append_assoc, List.cons_append, List.nil_append, List.length_append, List.length_cons, List.length_nil, Nat.zero_add, Nat.add_zero, rd_at, rd_at0, set_at, set_at0, List.set_cons_zero, List.set_cons_succ, ne_eq, decide_not, quiet_ext, newOk_some, List.cons_prefix_cons, List.nil_prefix, List.drop_succ_cons, List.drop_zero, List.all_cons, List.all_nil, Bool.and_true, true_and, and_true, aloadN_at, aloadN_at0, aload1_at, aload1_at0, astoreN_at, astoreN_at0, astore1_at, astore1_at0, aslA_at, aslA_at0, ldN_all, ld1_row, stN_all, st1_row, slr_all, Nat.reduceAdd, Nat.reduceMul, Nat.reduceLT, c0, s2, hRd, escheatlaw18_BucketLooks_j0_eq, w1]
      exact e
    | some x =>
      rw [listFrom_some hx] at hl
      obtain ⟨s, n⟩ := x
      rw [hx] at hRd
      have hRd : S_escheatref18_Read [.c (.sl r0 0 256 1), .c (.i .i64 (k : Int))] h = some (.t [.a [.s s, .i .i64 n], .c (.b true)], h) := hRd
      have hn : pre.length < (listX b).length := by rw [hl]; simp
      have c1 : ¬ (pre.length : Int) ≥ ((listX b).length : Int) := by omega
      have c1' : ¬ ((listX b).length : Int) ≤ (pre.length : Int) := by omega
      have hvt := hv.more [some (Row.mk [.s s, .i .i64 n] true)]
      have hlen := hvt.len
      obtain ⟨id, off, ev, hid, k1, k2⟩ := hvt.sl (by omega)
      have eb : aiAddrL 3 v (.c (.i .i64 (pre.length : Int))) = some (.c (.p id (off + pre.length * 3))) := by rw [ev, iAddrL_of hn]
      have g1 := k1 (pre.length * 3) (.i .i64 (k : Int)) (by rw [hl]; exact slCs_head)
      have g2 := k2 (pre.length * 3 + 1) 2 (by rw [slCs_length]; omega)
      rw [hl, slCs_tail] at g2
      have g2 : aloadN (h ++ [some (Row.mk [.s s, .i .i64 n] true)]) 2 (.c (.p id (off + pre.length * 3 + 1))) = some (.a [.s s, .i .i64 n]) := g2
      obtain ⟨h', e⟩ := looks_loop (nm := nm) (q := q) hb e (k + 1) m (h ++ [some (Row.mk [.s s, .i .i64 n] true)]) (pre ++ [(k, (s, n))]) (by omega) (by omega) (rd_append h0) (rd_append h1) (hv.more _) (by rw [hl]; simp) (by simp; omega)
      rw [List.length_append, List.length_singleton] at e
      refine ⟨h', ?_⟩
      generalize (listX b).length = L at *
      generalize encB b = y at *
      simp only [afAddr_p, List.append_nil, if_true, if_false, bnd_some, mp_some, cnd_t, cnd_f, gd_no, gd_tt, gd_tf, gd_ft, gd_ff, alenS_s, alen_sl, alen_ns, abin_add, abin_sub, abin_mul, abin_eql, abin_neq, abin_lss, abin_leq, abin_gtr, abin_geq, abin_seql, abin_sneq, abin_slss, aun_not, aun_neg, agn_some, aeqN_nf, aeqN_f, aeqN_np, aeqN_p, anilc_p, aeqB_t, aeqB_f, aconv_i, apick_b, cond_true, cond_false, decide_true, decide_false, Bool.not_true, Bool.not_false, aext_t, ofPart_c, ofPart_a, part?_c, part?_a, cells?_c, cells?_a, tupN_2, tupN_3, Option.map_some, Option.some.injEq, List.getElem?_cons_zero, List.getElem?_cons_succ, not_true_eq_false, not_false_eq_true, quiet_same, bytesI_length, Option.join_some, List.append_assoc, List.cons_append, List.nil_append, List.length_append, List.length_cons, List.length_nil, Nat.zero_add, Nat.add_zero, rd_at, rd_at0, set_at, set_at0, List.set_cons_zero, List.set_cons_succ, ne_eq, decide_not, quiet_ext, newOk_some, List.cons_prefix_cons, List.nil_prefix, List.drop_succ_cons, List.drop_zero, List.all_cons, List.all_nil, Bool.and_true, true_and, and_true, aloadN_at, aloadN_at0, aload1_at, aload1_at0, astoreN_at, astoreN_at0, astore1_at, astore1_at0, aslA_at, aslA_at0, ldN_all, ld1_row, stN_all, st1_row, slr_all, Nat.reduceAdd, Nat.reduceMul, Nat.reduceLT, c0, s2, hRd, hlen, c1, c1', eb, g1, Nat.add_zero, g2, aeq_ent, eq_self, decide_true, escheatlaw18_BucketLooks_j0_eq, w1, w2]
      exact e

theorem bucketLooks_eq {b nm : List UInt8} (h : Heap) (hb : b.length = 256) : S_escheatlaw18_BucketLooks [.a (encB b), .c (.s nm)] h = some (.c (.b true), h) := by
  have key : ∀ g, ∃ g', R_escheatlaw18_BucketLooks 8 [.a (encB b), .c (.s nm)] g = some (.c (.b true), g') := by
    intro g
    have hbl : (encB b).length = 256 := by rw [encB_length, hb]
    have hz : (List.replicate 256 (Cell.i .u8 0)).length = 256 := List.length_replicate
    rw [R_escheatlaw18_BucketLooks_eq]
    by_cases c60 : (60 : Int) < nm.length
    · generalize List.replicate 256 (Cell.i .u8 0) = z at *
      exact ⟨_, by simp only [afAddr_p, List.append_nil, if_true, if_false, bnd_some, mp_some, cnd_t, cnd_f, gd_no, gd_tt, gd_tf, gd_ft, gd_ff, alenS_s, alen_sl, alen_ns, abin_add, abin_sub, abin_mul, abin_eql, abin_neq, abin_lss, abin_leq, abin_gtr, abin_geq, abin_seql, abin_sneq, abin_slss, aun_not, aun_neg, agn_some, aeqN_nf, aeqN_f, aeqN_np, aeqN_p, anilc_p, aeqB_t, aeqB_f, aconv_i, apick_b, cond_true, cond_false, decide_true, decide_false, Bool.not_true, Bool.not_false, aext_t, ofPart_c, ofPart_a, part?_c, part?_a, cells?_c, cells?_a, tupN_2, tupN_3, Option.map_some, Option.some.injEq, List.getElem?_cons_zero, List.getElem?_cons_succ, not_true_eq_false, not_false_eq_true, quiet_same, bytesI_length, Option.join_some, List.append_assoc, List.cons_append, List.nil_append, List.length_append, List.length_cons, List.length_nil, Nat.zero_add, Nat.add_zero, rd_at, rd_at0, set_at, set_at0, List.set_cons_zero, List.set_cons_succ, ne_eq, decide_not, quiet_ext, newOk_some, List.cons_prefix_cons, List.nil_prefix, List.drop_succ_cons, List.drop_zero, List.all_cons, List.all_nil, Bool.and_true, true_and, and_true, aloadN_at, aloadN_at0, aload1_at, aload1_at0, astoreN_at, astoreN_at0, astore1_at, astore1_at0, aslA_at, aslA_at0, ldN_all, ld1_row, stN_all, st1_row, slr_all, Nat.reduceAdd, Nat.reduceMul, Nat.reduceLT, c60, works18_eq] <;> rfl⟩
    obtain ⟨v, t, hL, hv, _⟩ := bucket_List_eq (b := b) (h := g ++ [some (Row.mk (encB b) true), some (Row.mk (encB b) true)]) hb
    have hrd : ∀ i, i < 2 → rd (g ++ [some (Row.mk (encB b) true), some (Row.mk (encB b) true)] ++ t) (g.length + i) = some ⟨encB b, true⟩ := by
      intro i hi
      refine rd_append ?_
      match i, hi with
      | 0, _ => simp
      | 1, _ => simp
    obtain ⟨h', e⟩ := looks_loop (nm := nm) (v := v) (r0 := g.length) (r1 := g.length + 1) (q := 8) hb 7 0 8 (g ++ [some (Row.mk (encB b) true), some (Row.mk (encB b) true)] ++ t) [] (by omega) (by omega) (hrd 0 (by omega)) (hrd 1 (by omega)) hv rfl (by simp)
    refine ⟨h', ?_⟩
    simp only [List.append_assoc, List.cons_append, List.nil_append] at e hL
    generalize encB b = y at *
    generalize List.replicate 256 (Cell.i .u8 0) = z at *
    simp only [afAddr_p, List.append_nil, if_true, if_false, bnd_some, mp_some, cnd_t, cnd_f, gd_no, gd_tt, gd_tf, gd_ft, gd_ff, alenS_s, alen_sl, alen_ns, abin_add, abin_sub, abin_mul, abin_eql, abin_neq, abin_lss, abin_leq, abin_gtr, abin_geq, abin_seql, abin_sneq, abin_slss, aun_not, aun_neg, agn_some, aeqN_nf, aeqN_f, aeqN_np, aeqN_p, anilc_p, aeqB_t, aeqB_f, aconv_i, apick_b, cond_true, cond_false, decide_true, decide_false, Bool.not_true, Bool.not_false, aext_t, ofPart_c, ofPart_a, part?_c, part?_a, cells?_c, cells?_a, tupN_2, tupN_3, Option.map_some, Option.some.injEq, List.getElem?_cons_zero, List.getElem?_cons_succ, not_true_eq_false, not_false_eq_true, quiet_same, bytesI_length, Option.join_some, List.append_assoc, List.cons_append, List.nil_append, List.length_append, List.length_cons, List.length_nil, Nat.zero_add, Nat.add_zero, rd_at, rd_at0, set_at, set_at0, List.set_cons_zero, List.set_cons_succ, ne_eq, decide_not, quiet_ext, newOk_some, List.cons_prefix_cons, List.nil_prefix, List.drop_succ_cons, List.drop_zero, List.all_cons, List.all_nil, Bool.and_true, true_and, and_true, aloadN_at, aloadN_at0, aload1_at, aload1_at0, astoreN_at, astoreN_at0, astore1_at, astore1_at0, aslA_at, aslA_at0, ldN_all, ld1_row, stN_all, st1_row, slr_all, Nat.reduceAdd, Nat.reduceMul, Nat.reduceLT, c60, hbl, hz, hL]
    exact e
  obtain ⟨g', e⟩ := key (ro h)
  exact S_escheatlaw18_BucketLooks_flat e rfl

end Go.Proofs.Ytbbkpmbepljhkaa
