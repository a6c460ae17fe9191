/- The law of a bucket with one entry more, or one less, answers true. -/
import Derived.Test.YtbbkpmbepljhkaaSLaw18
import Derived.Test.YtbbkpmbepljhkaaSOkEnts
import Derived.Test.YtbbkpmbepljhkaaSBucketTurn
import Derived.Test.YtbbkpmbepljhkaaSBucketMuch
import Derived.Test.YtbbkpmbepljhkaaSBucketPatch
import Derived.Test.YtbbkpmbepljhkaaSPatchLay
import Derived.Test.YtbbkpmbepljhkaaGEscheatlaw18BucketKeeps
set_option linter.all false
namespace Go.Proofs.Ytbbkpmbepljhkaa
open Go Go.Esc

theorem aeq_ent0 {s : List UInt8} {n : Int} : aeq true [.s, .i .i64] (.a [.s s, .i .i64 n]) (.a [.s s, .i .i64 n]) = some (.c (.b false)) := by
  simp only [aeq]
  rw [if_pos ⟨rfl, rfl⟩]
  simp

theorem keeps_l0 {v : Val} {nv q i rc : Nat} {l : List Ent} (hn : l.length = nv) (h7 : nv ≤ 7) (hi : i < nv) (hm : mayN l = true) (ho : otherN l = true) : ∀ (e k m : Nat) (h : Heap), k + e = nv → e < m → Has h v 2 nv (entsC l) → rd h rc = some ⟨encB (lessB l i), true⟩ →
    ∃ h', escheatlaw18_BucketKeeps_l0 q m v (.c (.i .i64 (i : Int))) (.c (.p rc 0)) (.c (.i .i64 (k : Int))) h = some (.c (.b true), h')
  | e, k, 0, h, _, hm, _, _ => by omega
  | 0, k, m + 1, h, hk, _, hv, hr => by
    have e0 : k = nv := by omega
    subst e0
    have c0 : ¬ (k : Int) < k := by omega
    have hL : (encB (lessB l i)).length = 256 := by rw [encB_length]; exact lessB_length (by omega) (by omega)
    have l1 := loadAll hr hL
    have hR := fun h => bucket_Right_eq (b := lessB l i) (h := h) (lessB_length (by omega) (by omega))
    rw [right_less hm ho (by omega) (by omega)] at hR
    rw [escheatlaw18_BucketKeeps_l0_eq]
    generalize encB (lessB l i) = y at *
    exact ⟨_, by simp only [afAddr_p, List.append_nil, if_true, if_false, bnd_some, mp_some, cnd_t, cnd_f, gd_no, gd_tt, gd_tf, gd_ft, gd_ff, alenS_s, alen_sl, alen_ns, abin_add, abin_sub, abin_mul, abin_eql, abin_neq, abin_lss, abin_leq, abin_gtr, abin_geq, abin_seql, abin_sneq, abin_slss, aun_not, aun_neg, agn_some, aeqN_nf, aeqN_f, aeqN_np, aeqN_p, anilc_p, aeqB_t, aeqB_f, aconv_i, apick_b, cond_true, cond_false, decide_true, decide_false, Bool.not_true, Bool.not_false, aext_t, ofPart_c, ofPart_a, part?_c, part?_a, cells?_c, cells?_a, tupN_2, tupN_3, Option.map_some, Option.some.injEq, List.getElem?_cons_zero, List.getElem?_cons_succ, not_true_eq_false, not_false_eq_true, quiet_same, bytesI_length, Option.join_some, List.append_assoc, List.cons_append, List.nil_append, List.length_append, List.length_cons, List.length_nil, Nat.zero_add, Nat.add_zero, rd_at, rd_at0, set_at, set_at0, List.set_cons_zero, List.set_cons_succ, ne_eq, decide_not, quiet_ext, newOk_some, List.cons_prefix_cons, List.nil_prefix, List.drop_succ_cons, List.drop_zero, List.all_cons, List.all_nil, Bool.and_true, true_and, and_true, hv.len, c0, l1, hR, works18_eq] <;> rfl⟩
  | e + 1, k, m + 1, h, hk, hmm, hv, hr => by
    have c0 : (k : Int) < nv := by omega
    have hL : (encB (lessB l i)).length = 256 := by rw [encB_length]; exact lessB_length (by omega) (by omega)
    have l1 := loadAll hr hL
    have hlen := hv.len
    obtain ⟨id, off, ev, hid, k1, k2⟩ := hv.sl (by omega)
    have eb : aiAddrL 2 v (.c (.i .i64 (k : Int))) = some (.c (.p id (off + k * 2))) := by rw [ev, iAddrL_of (by omega)]
    have hnm : (entsC l)[k * 2]? = some (.s (entK l k).1) := by
      have h := entsC_at l k (by omega)
      have h2 : (((entsC l).drop (k * 2)).take 2)[0]? = some (.s l[k].1) := by rw [h]; rfl
      rw [List.getElem?_take, if_pos (by omega), List.getElem?_drop, Nat.add_zero] at h2
      rw [h2, entK_get (by omega)]
    have g1 := k1 (k * 2) _ hnm
    have hF := fun h => bucket_Find_eq (b := lessB l i) (nm := (entK l k).1) (h := h) (lessB_length (by omega) (by omega))
    have hfl := find_less hm ho (by omega) (show i < l.length by omega) (show k < l.length by omega)
    have w1 := wi_succ (show k + 1 < 9223372036854775808 by omega)
    rw [escheatlaw18_BucketKeeps_l0_eq]
    by_cases c : k = i
    · subst c
      rw [if_pos rfl] at hfl
      rw [hfl] at hF
      have hF : ∀ h, S_bucket_Find [.a (encB (lessB l k)), .c (.s (entK l k).1)] h = some (.t [.a [.i .i64 0, .s [], .i .i64 0], .c (.b false)], h) := hF
      obtain ⟨h', ih⟩ := keeps_l0 (q := q) hn h7 hi hm ho e (k + 1) m (h ++ [some (Row.mk [.i .i64 0, .s [], .i .i64 0] true)]) (by omega) (by omega) (hv.more _) (rd_append hr)
      refine ⟨h', ?_⟩
      generalize encB (lessB l k) = y at *
      simp only [afAddr_p, List.append_nil, if_true, if_false, bnd_some, mp_some, cnd_t, cnd_f, gd_no, gd_tt, gd_tf, gd_ft, gd_ff, alenS_s, alen_sl, alen_ns, abin_add, abin_sub, abin_mul, abin_eql, abin_neq, abin_lss, abin_leq, abin_gtr, abin_geq, abin_seql, abin_sneq, abin_slss, aun_not, aun_neg, agn_some, aeqN_nf, aeqN_f, aeqN_np, aeqN_p, anilc_p, aeqB_t, aeqB_f, aconv_i, apick_b, cond_true, cond_false, decide_true, decide_false, Bool.not_true, Bool.not_false, aext_t, ofPart_c, ofPart_a, part?_c, part?_a, cells?_c, cells?_a, tupN_2, tupN_3, Option.map_some, Option.some.injEq, List.getElem?_cons_zero, List.getElem?_cons_succ, not_true_eq_false, not_false_eq_true, quiet_same, bytesI_length, Option.join_some, List.append_assoc, List.cons_append, List.nil_append, List.length_append, List.length_cons, List.length_nil, Nat.zero_add, Nat.add_zero, rd_at, rd_at0, set_at, set_at0, List.set_cons_zero, List.set_cons_succ, ne_eq, decide_not, quiet_ext, newOk_some, List.cons_prefix_cons, List.nil_prefix, List.drop_succ_cons, List.drop_zero, List.all_cons, List.all_nil, Bool.and_true, true_and, and_true, aloadN_at, aloadN_at0, aload1_at, aload1_at0, astoreN_at, astoreN_at0, astore1_at, astore1_at0, aslA_at, aslA_at0, ldN_all, ld1_row, stN_all, st1_row, slr_all, Nat.reduceAdd, Nat.reduceMul, Nat.reduceLT, hlen, c0, l1, eb, g1, hF, eq_self, decide_true, beq_self_eq_true, w1]
      exact ih
    · rw [if_neg c] at hfl
      rw [hfl] at hF
      have hF : ∀ h, S_bucket_Find [.a (encB (lessB l i)), .c (.s (entK l k).1)] h = some (.t [.a [.i .i64 (k : Int), .s (entK l k).1, .i .i64 (entK l k).2], .c (.b true)], h) := hF
      obtain ⟨h', ih⟩ := keeps_l0 (q := q) hn h7 hi hm ho e (k + 1) m (h ++ [some (Row.mk [.i .i64 (k : Int), .s (entK l k).1, .i .i64 (entK l k).2] true)]) (by omega) (by omega) (hv.more _) (rd_append hr)
      have c1 : ¬ (k : Int) = (i : Int) := by omega
      have hldn : ldN (some (Row.mk [.i .i64 (k : Int), .s (entK l k).1, .i .i64 (entK l k).2] true)) 1 2 = some (.a [.s (entK l k).1, .i .i64 (entK l k).2]) := rfl
      have hvt := (hv.more [some (Row.mk [.i .i64 (k : Int), .s (entK l k).1, .i .i64 (entK l k).2] true)])
      have hld := (hv.more [some (Row.mk [.i .i64 (k : Int), .s (entK l k).1, .i .i64 (entK l k).2] true)]).sl (by omega)
      obtain ⟨id', off', ev', _, _, k2'⟩ := hld
      rw [ev] at ev'
      cases ev'
      have hld := k2' (k * 2) 2 (by rw [entsC_length]; omega)
      rw [entsC_at l k (by omega), ← entK_get (by omega)] at hld
      simp only [entC] at hld
      refine ⟨h', ?_⟩
      generalize encB (lessB l i) = y at *
      simp only [afAddr_p, List.append_nil, if_true, if_false, bnd_some, mp_some, cnd_t, cnd_f, gd_no, gd_tt, gd_tf, gd_ft, gd_ff, alenS_s, alen_sl, alen_ns, abin_add, abin_sub, abin_mul, abin_eql, abin_neq, abin_lss, abin_leq, abin_gtr, abin_geq, abin_seql, abin_sneq, abin_slss, aun_not, aun_neg, agn_some, aeqN_nf, aeqN_f, aeqN_np, aeqN_p, anilc_p, aeqB_t, aeqB_f, aconv_i, apick_b, cond_true, cond_false, decide_true, decide_false, Bool.not_true, Bool.not_false, aext_t, ofPart_c, ofPart_a, part?_c, part?_a, cells?_c, cells?_a, tupN_2, tupN_3, Option.map_some, Option.some.injEq, List.getElem?_cons_zero, List.getElem?_cons_succ, not_true_eq_false, not_false_eq_true, quiet_same, bytesI_length, Option.join_some, List.append_assoc, List.cons_append, List.nil_append, List.length_append, List.length_cons, List.length_nil, Nat.zero_add, Nat.add_zero, rd_at, rd_at0, set_at, set_at0, List.set_cons_zero, List.set_cons_succ, ne_eq, decide_not, quiet_ext, newOk_some, List.cons_prefix_cons, List.nil_prefix, List.drop_succ_cons, List.drop_zero, List.all_cons, List.all_nil, Bool.and_true, true_and, and_true, aloadN_at, aloadN_at0, aload1_at, aload1_at0, astoreN_at, astoreN_at0, astore1_at, astore1_at0, aslA_at, aslA_at0, ldN_all, ld1_row, stN_all, st1_row, slr_all, Nat.reduceAdd, Nat.reduceMul, Nat.reduceLT, hlen, c0, l1, eb, g1, hF, c1, hldn, hld, aeq_ent0, eq_self, decide_true, beq_self_eq_true, w1]
      exact ih

theorem keeps_j1 {v : Val} {nv x rb : Nat} {l : List Ent} {h : Heap} (hv : Has h v 2 nv (entsC l)) (hn : l.length = nv) (h7 : nv ≤ 7) (hx : x < 256) (hm : mayN l = true) (ho : otherN l = true) (hr : rd h rb = some ⟨encB (newL l l.length), true⟩) :
    ∃ h', escheatlaw18_BucketKeeps_j1 8 v (.c (.i .u8 (x : Int))) (.c (.p rb 0)) h = some (.c (.b true), h') := by
  have hlen := hv.len
  rw [escheatlaw18_BucketKeeps_j1_eq]
  by_cases c : nv = 0
  · have c1 : (nv : Int) = 0 := by omega
    exact ⟨_, by simp only [afAddr_p, List.append_nil, if_true, if_false, bnd_some, mp_some, cnd_t, cnd_f, gd_no, gd_tt, gd_tf, gd_ft, gd_ff, alenS_s, alen_sl, alen_ns, abin_add, abin_sub, abin_mul, abin_eql, abin_neq, abin_lss, abin_leq, abin_gtr, abin_geq, abin_seql, abin_sneq, abin_slss, aun_not, aun_neg, agn_some, aeqN_nf, aeqN_f, aeqN_np, aeqN_p, anilc_p, aeqB_t, aeqB_f, aconv_i, apick_b, cond_true, cond_false, decide_true, decide_false, Bool.not_true, Bool.not_false, aext_t, ofPart_c, ofPart_a, part?_c, part?_a, cells?_c, cells?_a, tupN_2, tupN_3, Option.map_some, Option.some.injEq, List.getElem?_cons_zero, List.getElem?_cons_succ, not_true_eq_false, not_false_eq_true, quiet_same, bytesI_length, Option.join_some, List.append_assoc, List.cons_append, List.nil_append, List.length_append, List.length_cons, List.length_nil, Nat.zero_add, Nat.add_zero, rd_at, rd_at0, set_at, set_at0, List.set_cons_zero, List.set_cons_succ, ne_eq, decide_not, quiet_ext, newOk_some, List.cons_prefix_cons, List.nil_prefix, List.drop_succ_cons, List.drop_zero, List.all_cons, List.all_nil, Bool.and_true, true_and, and_true, hlen, c1, eq_self, decide_true, works18_eq] <;> rfl⟩
  · have c1 : ¬ (nv : Int) = 0 := by omega
    have hi : x % nv < nv := Nat.mod_lt _ (by omega)
    have er : abin .rem (.c (.i .i64 (x : Int))) (.c (.i .i64 (nv : Int))) = some (.c (.i .i64 ((x % nv : Nat) : Int))) := by rw [rem_i (a := (x : Int)) (b := (nv : Int)) (by omega) (by omega)]; simp
    have wx : IntKind.wrap .i64 (x : Int) = (x : Int) := wrap_i64 (by omega) (by omega)
    have hC := bucket_Clear_in (h := h) (show x % nv < 7 by omega)
    have hL : (encB (newL l l.length)).length = 256 := by rw [encB_length]; exact newL_length _ (by omega)
    have hL2 : (encB (lessB l (x % nv))).length = 256 := by rw [encB_length]; exact lessB_length (by omega) (by omega)
    have l1 := fun t => loadAll (h := h ++ t) (rd_append hr) hL
    have hP := patch_Lay_eq (x := .sl h.length 0 32 1) (n := 32) (a := slotA (x % nv)) (data := zeros 32) (l := newL l l.length) (h := h ++ [some (Row.mk (encB (zeros 32)) true), some (Row.mk [.i .i64 (slotA (x % nv) : Nat), .sl h.length 0 32 1] true)]) (Has.row (rw := true) (by simp) (by rw [encB_length, zeros_length]) (noX_encB _)) (by omega) (by unfold slotA; omega) (newL_length _ (by omega))
    rw [show layB (newL l l.length) (slotA (x % nv)) (zeros 32) = lessB l (x % nv) from rfl] at hP
    have hz : (List.replicate 256 (Cell.i .u8 0)).length = 256 := List.length_replicate
    obtain ⟨h', e⟩ := keeps_l0 (v := v) (q := 8) (i := x % nv) (rc := h.length + 2) hn h7 hi hm ho nv 0 8 (h ++ [some (Row.mk (encB (zeros 32)) true), some (Row.mk [.i .i64 (slotA (x % nv) : Nat), .sl h.length 0 32 1] true), some (Row.mk (encB (lessB l (x % nv))) true)]) (by omega) (by omega) (hv.more _) (by simp)
    refine ⟨h', ?_⟩
    generalize zeros 32 = z at *
    generalize List.replicate 256 (Cell.i .u8 0) = zz at *
    generalize encB (lessB l (x % nv)) = y2 at *
    generalize encB (newL l l.length) = y at *
    generalize x % nv = i at *
    simp only [afAddr_p, List.append_nil, if_true, if_false, bnd_some, mp_some, cnd_t, cnd_f, gd_no, gd_tt, gd_tf, gd_ft, gd_ff, alenS_s, alen_sl, alen_ns, abin_add, abin_sub, abin_mul, abin_eql, abin_neq, abin_lss, abin_leq, abin_gtr, abin_geq, abin_seql, abin_sneq, abin_slss, aun_not, aun_neg, agn_some, aeqN_nf, aeqN_f, aeqN_np, aeqN_p, anilc_p, aeqB_t, aeqB_f, aconv_i, apick_b, cond_true, cond_false, decide_true, decide_false, Bool.not_true, Bool.not_false, aext_t, ofPart_c, ofPart_a, part?_c, part?_a, cells?_c, cells?_a, tupN_2, tupN_3, Option.map_some, Option.some.injEq, List.getElem?_cons_zero, List.getElem?_cons_succ, not_true_eq_false, not_false_eq_true, quiet_same, bytesI_length, Option.join_some, List.append_assoc, List.cons_append, List.nil_append, List.length_append, List.length_cons, List.length_nil, Nat.zero_add, Nat.add_zero, rd_at, rd_at0, set_at, set_at0, List.set_cons_zero, List.set_cons_succ, ne_eq, decide_not, quiet_ext, newOk_some, List.cons_prefix_cons, List.nil_prefix, List.drop_succ_cons, List.drop_zero, List.all_cons, List.all_nil, Bool.and_true, true_and, and_true, aloadN_at, aloadN_at0, aload1_at, aload1_at0, astoreN_at, astoreN_at0, astore1_at, astore1_at0, aslA_at, aslA_at0, ldN_all, ld1_row, stN_all, st1_row, slr_all, Nat.reduceAdd, Nat.reduceMul, Nat.reduceLT, hlen, c1, wx, er, hC, l1, hP, hz, hL2]
    exact e

set_option maxHeartbeats 4000000 in
theorem bucketKeeps_eq {v : Val} {nv x : Nat} {l : List Ent} {s : List UInt8} {n : Int} {h : Heap} (hv : Has h v 2 nv (entsC l)) (hx : x < 256) : S_escheatlaw18_BucketKeeps [v, .a [.s s, .i .i64 n], .c (.i .u8 (x : Int))] h = some (.c (.b true), h) := by
  have hn : l.length = nv := by have := hv.length; rw [entsC_length] at this; omega
  have key : ∀ g, Has g v 2 nv (entsC l) → ∃ g', R_escheatlaw18_BucketKeeps 8 [v, .a [.s s, .i .i64 n], .c (.i .u8 (x : Int))] g = some (.c (.b true), g') := by
    intro g hv
    have hMu := fun t => ref18_Much_eq (M := 7) (hv.more t) (by omega)
    have hz : (List.replicate 256 (Cell.i .u8 0)).length = 256 := List.length_replicate
    rw [R_escheatlaw18_BucketKeeps_eq]
    cases cm : (decide ((7 : Int) < (nv : Int)) || longN l) with
    | true =>
      rw [cm] at hMu
      generalize List.replicate 256 (Cell.i .u8 0) = z at *
      exact ⟨_, by simp only [afAddr_p, List.append_nil, if_true, if_false, bnd_some, mp_some, cnd_t, cnd_f, gd_no, gd_tt, gd_tf, gd_ft, gd_ff, alenS_s, alen_sl, alen_ns, abin_add, abin_sub, abin_mul, abin_eql, abin_neq, abin_lss, abin_leq, abin_gtr, abin_geq, abin_seql, abin_sneq, abin_slss, aun_not, aun_neg, agn_some, aeqN_nf, aeqN_f, aeqN_np, aeqN_p, anilc_p, aeqB_t, aeqB_f, aconv_i, apick_b, cond_true, cond_false, decide_true, decide_false, Bool.not_true, Bool.not_false, aext_t, ofPart_c, ofPart_a, part?_c, part?_a, cells?_c, cells?_a, tupN_2, tupN_3, Option.map_some, Option.some.injEq, List.getElem?_cons_zero, List.getElem?_cons_succ, not_true_eq_false, not_false_eq_true, quiet_same, bytesI_length, Option.join_some, List.append_assoc, List.cons_append, List.nil_append, List.length_append, List.length_cons, List.length_nil, Nat.zero_add, Nat.add_zero, rd_at, rd_at0, set_at, set_at0, List.set_cons_zero, List.set_cons_succ, ne_eq, decide_not, quiet_ext, newOk_some, List.cons_prefix_cons, List.nil_prefix, List.drop_succ_cons, List.drop_zero, List.all_cons, List.all_nil, Bool.and_true, true_and, and_true, aloadN_at, aloadN_at0, aload1_at, aload1_at0, astoreN_at, astoreN_at0, astore1_at, astore1_at0, aslA_at, aslA_at0, ldN_all, ld1_row, stN_all, st1_row, slr_all, Nat.reduceAdd, Nat.reduceMul, Nat.reduceLT, hMu, works18_eq] <;> rfl⟩
    | false =>
      rw [cm] at hMu
      rw [Bool.or_eq_false_iff] at cm
      have h7 : nv ≤ 7 := by have := cm.1; simp only [decide_eq_false_iff_not] at this; omega
      have hls : ∀ x ∈ l, x.1.length ≤ 60 := by
        intro x hx
        have := List.any_eq_false.1 cm.2 x hx
        simp only [decide_eq_true_eq] at this
        omega
      by_cases c60 : (60 : Int) < s.length
      · generalize List.replicate 256 (Cell.i .u8 0) = z at *
        exact ⟨_, by simp only [afAddr_p, List.append_nil, if_true, if_false, bnd_some, mp_some, cnd_t, cnd_f, gd_no, gd_tt, gd_tf, gd_ft, gd_ff, alenS_s, alen_sl, alen_ns, abin_add, abin_sub, abin_mul, abin_eql, abin_neq, abin_lss, abin_leq, abin_gtr, abin_geq, abin_seql, abin_sneq, abin_slss, aun_not, aun_neg, agn_some, aeqN_nf, aeqN_f, aeqN_np, aeqN_p, anilc_p, aeqB_t, aeqB_f, aconv_i, apick_b, cond_true, cond_false, decide_true, decide_false, Bool.not_true, Bool.not_false, aext_t, ofPart_c, ofPart_a, part?_c, part?_a, cells?_c, cells?_a, tupN_2, tupN_3, Option.map_some, Option.some.injEq, List.getElem?_cons_zero, List.getElem?_cons_succ, not_true_eq_false, not_false_eq_true, quiet_same, bytesI_length, Option.join_some, List.append_assoc, List.cons_append, List.nil_append, List.length_append, List.length_cons, List.length_nil, Nat.zero_add, Nat.add_zero, rd_at, rd_at0, set_at, set_at0, List.set_cons_zero, List.set_cons_succ, ne_eq, decide_not, quiet_ext, newOk_some, List.cons_prefix_cons, List.nil_prefix, List.drop_succ_cons, List.drop_zero, List.all_cons, List.all_nil, Bool.and_true, true_and, and_true, aloadN_at, aloadN_at0, aload1_at, aload1_at0, astoreN_at, astoreN_at0, astore1_at, astore1_at0, aslA_at, aslA_at0, ldN_all, ld1_row, stN_all, st1_row, slr_all, Nat.reduceAdd, Nat.reduceMul, Nat.reduceLT, hMu, c60, works18_eq] <;> rfl⟩
      have hs : s.length < 9223372036854775807 := by omega
      have hN := fun t => bucket_New_eq (hv.more t) hls
      have hbl : (encB (newB l)).length = 256 := by rw [encB_length, newB_length]
      by_cases ce : newE l = 0
      · have eb : newB l = newL l l.length := by unfold newB; rw [if_pos ce]
        have hmy : mayN l = true := by
          cases c : mayN l with
          | true => rfl
          | false => unfold newE at ce; rw [if_neg (by omega), c] at ce; simp at ce
        have hon : otherN l = true := by
          rw [← onceN_other hmy (by omega)]
          cases c : onceN l with
          | true => rfl
          | false => unfold newE at ce; rw [if_neg (by omega), hmy, c] at ce; simp at ce
        rw [ce, eb] at hN
        rw [eb] at hbl
        have hBl := newL_length (l := l) l.length (by omega)
        have hRo := fun h => bucket_Room_eq (b := newL l l.length) (h := h) hBl
        rw [room_newL hmy (by omega)] at hRo
        have hF := fun h => bucket_Find_eq (b := newL l l.length) (nm := s) (h := h) hBl
        have hSl := slC_length (o := findX (newL l l.length) s)
        -- what is behind
        have fin : ∀ h, (∃ t, h = g ++ [some (Row.mk [.s s, .i .i64 n] true), some (Row.mk (encB (newL l l.length)) true)] ++ t) → ∃ h', escheatlaw18_BucketKeeps_j1 8 v (.c (.i .u8 (x : Int))) (.c (.p (g.length + 1) 0)) h = some (.c (.b true), h') := by
          rintro h ⟨t, rfl⟩
          exact keeps_j1 ((hv.more _).more _) hn h7 hx hmy hon (rd_append (by simp))
        have hlen := hv.len
        have efp : ∀ (a : Int) (x : Cell), [Cell.i .i64 a, x].length = 2 := fun _ _ => rfl
        by_cases c6 : nv < 7
        · rw [if_pos (by omega)] at hRo
          have hRo : ∀ h, S_bucket_Room [.a (encB (newL l l.length))] h = some (.t [.c (.i .i64 (nv : Int)), .c (.b true)], h) := by rw [hn] at hRo ⊢; exact hRo
          cases hm : mayE s n with
          | false =>
            have hPu := fun h => bucket_Put_bad (h := h) hs c6 hm
            obtain ⟨h', e⟩ := fin (g ++ [some (Row.mk [.s s, .i .i64 n] true), some (Row.mk (encB (newL l l.length)) true), some (Row.mk (slC (findX (newL l l.length) s)) true), some (Row.mk [.i .i64 0, .ns] true)]) ⟨[some (Row.mk (slC (findX (newL l l.length) s)) true), some (Row.mk [.i .i64 0, .ns] true)], by simp⟩
            refine ⟨h', ?_⟩
            generalize slC (findX (newL l l.length) s) = S at *
            generalize (findX (newL l l.length) s).isSome = D at *
            generalize encB (newL l l.length) = y at *
            generalize List.replicate 256 (Cell.i .u8 0) = z at *
            cases D <;> (simp only [afAddr_p, List.append_nil, if_true, if_false, bnd_some, mp_some, cnd_t, cnd_f, gd_no, gd_tt, gd_tf, gd_ft, gd_ff, alenS_s, alen_sl, alen_ns, abin_add, abin_sub, abin_mul, abin_eql, abin_neq, abin_lss, abin_leq, abin_gtr, abin_geq, abin_seql, abin_sneq, abin_slss, aun_not, aun_neg, agn_some, aeqN_nf, aeqN_f, aeqN_np, aeqN_p, anilc_p, aeqB_t, aeqB_f, aconv_i, apick_b, cond_true, cond_false, decide_true, decide_false, Bool.not_true, Bool.not_false, aext_t, ofPart_c, ofPart_a, part?_c, part?_a, cells?_c, cells?_a, tupN_2, tupN_3, Option.map_some, Option.some.injEq, List.getElem?_cons_zero, List.getElem?_cons_succ, not_true_eq_false, not_false_eq_true, quiet_same, bytesI_length, Option.join_some, List.append_assoc, List.cons_append, List.nil_append, List.length_append, List.length_cons, List.length_nil, Nat.zero_add, Nat.add_zero, rd_at, rd_at0, set_at, set_at0, List.set_cons_zero, List.set_cons_succ, ne_eq, decide_not, quiet_ext, newOk_some, List.cons_prefix_cons, List.nil_prefix, List.drop_succ_cons, List.drop_zero, List.all_cons, List.all_nil, Bool.and_true, true_and, and_true, aloadN_at, aloadN_at0, aload1_at, aload1_at0, astoreN_at, astoreN_at0, astore1_at, astore1_at0, aslA_at, aslA_at0, ldN_all, ld1_row, stN_all, st1_row, slr_all, Nat.reduceAdd, Nat.reduceMul, Nat.reduceLT, hMu, c60, hN, hz, hbl, hRo, hF, hSl, hPu, Int.reduceEq, eq_self, decide_true]; exact e)
          | true =>
            have hPu := fun h => bucket_Put_in (h := h) hs c6 hm
            cases hf : findX (newL l l.length) s with
            | some w =>
              obtain ⟨h', e⟩ := fin (g ++ [some (Row.mk [.s s, .i .i64 n] true), some (Row.mk (encB (newL l l.length)) true), some (Row.mk (slC (some w)) true), some (Row.mk (encB (entB s n)) true), some (Row.mk [.i .i64 (slotA nv : Nat), .sl (g.length + 3) 0 32 1] true)]) ⟨[some (Row.mk (slC (some w)) true), some (Row.mk (encB (entB s n)) true), some (Row.mk [.i .i64 (slotA nv : Nat), .sl (g.length + 3) 0 32 1] true)], by simp⟩
              rw [hf] at hF hSl
              refine ⟨h', ?_⟩
              generalize slC (some w) = S at *
              generalize entB s n = E at *
              generalize encB (newL l l.length) = y at *
              generalize List.replicate 256 (Cell.i .u8 0) = z at *
              simp only [afAddr_p, List.append_nil, if_true, if_false, bnd_some, mp_some, cnd_t, cnd_f, gd_no, gd_tt, gd_tf, gd_ft, gd_ff, alenS_s, alen_sl, alen_ns, abin_add, abin_sub, abin_mul, abin_eql, abin_neq, abin_lss, abin_leq, abin_gtr, abin_geq, abin_seql, abin_sneq, abin_slss, aun_not, aun_neg, agn_some, aeqN_nf, aeqN_f, aeqN_np, aeqN_p, anilc_p, aeqB_t, aeqB_f, aconv_i, apick_b, cond_true, cond_false, decide_true, decide_false, Bool.not_true, Bool.not_false, aext_t, ofPart_c, ofPart_a, part?_c, part?_a, cells?_c, cells?_a, tupN_2, tupN_3, Option.map_some, Option.some.injEq, List.getElem?_cons_zero, List.getElem?_cons_succ, not_true_eq_false, not_false_eq_true, quiet_same, bytesI_length, Option.join_some, List.append_assoc, List.cons_append, List.nil_append, List.length_append, List.length_cons, List.length_nil, Nat.zero_add, Nat.add_zero, rd_at, rd_at0, set_at, set_at0, List.set_cons_zero, List.set_cons_succ, ne_eq, decide_not, quiet_ext, newOk_some, List.cons_prefix_cons, List.nil_prefix, List.drop_succ_cons, List.drop_zero, List.all_cons, List.all_nil, Bool.and_true, true_and, and_true, aloadN_at, aloadN_at0, aload1_at, aload1_at0, astoreN_at, astoreN_at0, astore1_at, astore1_at0, aslA_at, aslA_at0, ldN_all, ld1_row, stN_all, st1_row, slr_all, Nat.reduceAdd, Nat.reduceMul, Nat.reduceLT, hMu, c60, hN, hz, hbl, hRo, hF, hSl, hPu, Option.isSome_some, Int.reduceEq, eq_self, decide_true, Nat.add_assoc g.length, Nat.reduceAdd]
              exact e
            | none =>
              -- it is put
              obtain ⟨m1, m2⟩ := more_ok (x := (s, n)) hmy hon (by omega) hm hf
              have hcl : (newL (l ++ [(s, n)]) (l ++ [(s, n)]).length).length = 256 := newL_length _ (by simp; omega)
              have hPL := patch_Lay_eq (x := .sl (g.length + 3) 0 32 1) (n := 32) (a := slotA nv) (data := entB s n) (l := newL l l.length) (h := g ++ [some (Row.mk [.s s, .i .i64 n] true), some (Row.mk (encB (newL l l.length)) true), some (Row.mk (slC none) true), some (Row.mk (encB (entB s n)) true), some (Row.mk [.i .i64 (slotA nv : Nat), .sl (g.length + 3) 0 32 1] true)]) (Has.row (rw := true) (by simp) (by rw [encB_length, entB_length]) (noX_encB _)) (by omega) (by unfold slotA; omega) hBl
              have ec : layB (newL l l.length) (slotA nv) (entB s n) = newL (l ++ [(s, n)]) (l ++ [(s, n)]).length := by rw [newL_more, hn]
              rw [ec] at hPL
              have hll : (l ++ [(s, n)]).length = nv + 1 := by simp [hn]
              have hkn : entK (l ++ [(s, n)]) nv = (s, n) := by rw [entK_snoc, if_neg (by omega), if_pos hn.symm]
              have hFc := fun h => bucket_Find_eq (b := newL (l ++ [(s, n)]) (l ++ [(s, n)]).length) (nm := s) (h := h) hcl
              have hfx := find_newL (k := nv) m1 (by omega) (by omega) (List.all_eq_true.1 m2 nv (by rw [← List.range_eq_range']; exact List.mem_range.2 (by omega)))
              rw [hkn] at hfx
              rw [hfx] at hFc
              have hFc : ∀ h, S_bucket_Find [.a (encB (newL (l ++ [(s, n)]) (l ++ [(s, n)]).length)), .c (.s s)] h = some (.t [.a [.i .i64 (nv : Int), .s s, .i .i64 n], .c (.b true)], h) := hFc
              have hRc := fun h => bucket_Right_eq (b := newL (l ++ [(s, n)]) (l ++ [(s, n)]).length) (h := h) hcl
              rw [right_newL m1 (by omega) m2] at hRc
              have hll2 := list_newL m1 (show (l ++ [(s, n)]).length ≤ 7 by omega)
              have hccl : (encB (newL (l ++ [(s, n)]) (l ++ [(s, n)]).length)).length = 256 := by rw [encB_length]; exact hcl
              obtain ⟨vl, t, hLi, hvl, _⟩ := bucket_List_eq (b := newL (l ++ [(s, n)]) (l ++ [(s, n)]).length) (h := g ++ [some (Row.mk [.s s, .i .i64 n] true), some (Row.mk (encB (newL l l.length)) true), some (Row.mk (slC none) true), some (Row.mk (encB (entB s n)) true), some (Row.mk [.i .i64 (slotA nv : Nat), .sl (g.length + 3) 0 32 1] true), some (Row.mk (encB (newL (l ++ [(s, n)]) (l ++ [(s, n)]).length)) true), some (Row.mk [.i .i64 (nv : Int), .s s, .i .i64 n] true)]) hcl
              have hvlen := hvl.len
              rw [hll2, hll] at hvlen
              have w1 := wi_succ (show nv + 1 < 9223372036854775808 by omega)
              have hldn : ldN (some (Row.mk [.i .i64 (nv : Int), .s s, .i .i64 n] true)) 1 2 = some (.a [.s s, .i .i64 n]) := rfl
              obtain ⟨h', e⟩ := fin (g ++ [some (Row.mk [.s s, .i .i64 n] true), some (Row.mk (encB (newL l l.length)) true), some (Row.mk (slC none) true), some (Row.mk (encB (entB s n)) true), some (Row.mk [.i .i64 (slotA nv : Nat), .sl (g.length + 3) 0 32 1] true), some (Row.mk (encB (newL (l ++ [(s, n)]) (l ++ [(s, n)]).length)) true), some (Row.mk [.i .i64 (nv : Int), .s s, .i .i64 n] true)] ++ t) ⟨[some (Row.mk (slC none) true), some (Row.mk (encB (entB s n)) true), some (Row.mk [.i .i64 (slotA nv : Nat), .sl (g.length + 3) 0 32 1] true), some (Row.mk (encB (newL (l ++ [(s, n)]) (l ++ [(s, n)]).length)) true), some (Row.mk [.i .i64 (nv : Int), .s s, .i .i64 n] true)] ++ t, by simp⟩
              simp only [List.append_assoc, List.cons_append, List.nil_append] at hLi e
              rw [hf] at hF hSl
              refine ⟨h', ?_⟩
              generalize slC none = S at *
              generalize entB s n = E at *
              generalize encB (newL (l ++ [(s, n)]) (l ++ [(s, n)]).length) = c at *
              generalize encB (newL l l.length) = y at *
              generalize List.replicate 256 (Cell.i .u8 0) = z at *
              simp only [afAddr_p, List.append_nil, if_true, if_false, bnd_some, mp_some, cnd_t, cnd_f, gd_no, gd_tt, gd_tf, gd_ft, gd_ff, alenS_s, alen_sl, alen_ns, abin_add, abin_sub, abin_mul, abin_eql, abin_neq, abin_lss, abin_leq, abin_gtr, abin_geq, abin_seql, abin_sneq, abin_slss, aun_not, aun_neg, agn_some, aeqN_nf, aeqN_f, aeqN_np, aeqN_p, anilc_p, aeqB_t, aeqB_f, aconv_i, apick_b, cond_true, cond_false, decide_true, decide_false, Bool.not_true, Bool.not_false, aext_t, ofPart_c, ofPart_a, part?_c, part?_a, cells?_c, cells?_a, tupN_2, tupN_3, Option.map_some, Option.some.injEq, List.getElem?_cons_zero, List.getElem?_cons_succ, not_true_eq_false, not_false_eq_true, quiet_same, bytesI_length, Option.join_some, List.append_assoc, List.cons_append, List.nil_append, List.length_append, List.length_cons, List.length_nil, Nat.zero_add, Nat.add_zero, rd_at, rd_at0, set_at, set_at0, List.set_cons_zero, List.set_cons_succ, ne_eq, decide_not, quiet_ext, newOk_some, List.cons_prefix_cons, List.nil_prefix, List.drop_succ_cons, List.drop_zero, List.all_cons, List.all_nil, Bool.and_true, true_and, and_true, aloadN_at, aloadN_at0, aload1_at, aload1_at0, astoreN_at, astoreN_at0, astore1_at, astore1_at0, aslA_at, aslA_at0, ldN_all, ld1_row, stN_all, st1_row, slr_all, Nat.reduceAdd, Nat.reduceMul, Nat.reduceLT, hMu, c60, hN, hz, hbl, hRo, hF, hSl, hPu, Option.isSome_none, hPL, hccl, hFc, hldn, aeq_ent0, hRc, hLi, hvlen, hlen, w1, escheatlaw18_BucketKeeps_j0_eq, Int.reduceEq, eq_self, decide_true, Nat.add_assoc g.length, Nat.reduceAdd]
              exact e
        · rw [if_neg (by omega)] at hRo
          have hRo : ∀ h, S_bucket_Room [.a (encB (newL l l.length))] h = some (.t [.c (.i .i64 ((0 : Nat) : Int)), .c (.b false)], h) := hRo
          cases hm : mayE s n with
          | false =>
            have hPu := fun h => bucket_Put_bad (k := 0) (h := h) hs (by omega) hm
            obtain ⟨h', e⟩ := fin (g ++ [some (Row.mk [.s s, .i .i64 n] true), some (Row.mk (encB (newL l l.length)) true), some (Row.mk (slC (findX (newL l l.length) s)) true), some (Row.mk [.i .i64 0, .ns] true)]) ⟨[some (Row.mk (slC (findX (newL l l.length) s)) true), some (Row.mk [.i .i64 0, .ns] true)], by simp⟩
            refine ⟨h', ?_⟩
            generalize slC (findX (newL l l.length) s) = S at *
            generalize (findX (newL l l.length) s).isSome = D at *
            generalize encB (newL l l.length) = y at *
            generalize List.replicate 256 (Cell.i .u8 0) = z at *
            cases D <;> (simp only [afAddr_p, List.append_nil, if_true, if_false, bnd_some, mp_some, cnd_t, cnd_f, gd_no, gd_tt, gd_tf, gd_ft, gd_ff, alenS_s, alen_sl, alen_ns, abin_add, abin_sub, abin_mul, abin_eql, abin_neq, abin_lss, abin_leq, abin_gtr, abin_geq, abin_seql, abin_sneq, abin_slss, aun_not, aun_neg, agn_some, aeqN_nf, aeqN_f, aeqN_np, aeqN_p, anilc_p, aeqB_t, aeqB_f, aconv_i, apick_b, cond_true, cond_false, decide_true, decide_false, Bool.not_true, Bool.not_false, aext_t, ofPart_c, ofPart_a, part?_c, part?_a, cells?_c, cells?_a, tupN_2, tupN_3, Option.map_some, Option.some.injEq, List.getElem?_cons_zero, List.getElem?_cons_succ, not_true_eq_false, not_false_eq_true, quiet_same, bytesI_length, Option.join_some, List.append_assoc, List.cons_append, List.nil_append, List.length_append, List.length_cons, List.length_nil, Nat.zero_add, Nat.add_zero, rd_at, rd_at0, set_at, set_at0, List.set_cons_zero, List.set_cons_succ, ne_eq, decide_not, quiet_ext, newOk_some, List.cons_prefix_cons, List.nil_prefix, List.drop_succ_cons, List.drop_zero, List.all_cons, List.all_nil, Bool.and_true, true_and, and_true, aloadN_at, aloadN_at0, aload1_at, aload1_at0, astoreN_at, astoreN_at0, astore1_at, astore1_at0, aslA_at, aslA_at0, ldN_all, ld1_row, stN_all, st1_row, slr_all, Nat.reduceAdd, Nat.reduceMul, Nat.reduceLT, hMu, c60, hN, hz, hbl, hRo, hF, hSl, hPu, Int.reduceEq, eq_self, decide_true]; exact e)
          | true =>
            have hPu := fun h => bucket_Put_in (k := 0) (h := h) hs (by omega) hm
            obtain ⟨h', e⟩ := fin (g ++ [some (Row.mk [.s s, .i .i64 n] true), some (Row.mk (encB (newL l l.length)) true), some (Row.mk (slC (findX (newL l l.length) s)) true), some (Row.mk (encB (entB s n)) true), some (Row.mk [.i .i64 (slotA 0 : Nat), .sl (g.length + 3) 0 32 1] true)]) ⟨[some (Row.mk (slC (findX (newL l l.length) s)) true), some (Row.mk (encB (entB s n)) true), some (Row.mk [.i .i64 (slotA 0 : Nat), .sl (g.length + 3) 0 32 1] true)], by simp⟩
            refine ⟨h', ?_⟩
            generalize slC (findX (newL l l.length) s) = S at *
            generalize (findX (newL l l.length) s).isSome = D at *
            generalize entB s n = E at *
            generalize encB (newL l l.length) = y at *
            generalize List.replicate 256 (Cell.i .u8 0) = z at *
            cases D <;> (simp only [afAddr_p, List.append_nil, if_true, if_false, bnd_some, mp_some, cnd_t, cnd_f, gd_no, gd_tt, gd_tf, gd_ft, gd_ff, alenS_s, alen_sl, alen_ns, abin_add, abin_sub, abin_mul, abin_eql, abin_neq, abin_lss, abin_leq, abin_gtr, abin_geq, abin_seql, abin_sneq, abin_slss, aun_not, aun_neg, agn_some, aeqN_nf, aeqN_f, aeqN_np, aeqN_p, anilc_p, aeqB_t, aeqB_f, aconv_i, apick_b, cond_true, cond_false, decide_true, decide_false, Bool.not_true, Bool.not_false, aext_t, ofPart_c, ofPart_a, part?_c, part?_a, cells?_c, cells?_a, tupN_2, tupN_3, Option.map_some, Option.some.injEq, List.getElem?_cons_zero, List.getElem?_cons_succ, not_true_eq_false, not_false_eq_true, quiet_same, bytesI_length, Option.join_some, List.append_assoc, List.cons_append, List.nil_append, List.length_append, List.length_cons, List.length_nil, Nat.zero_add, Nat.add_zero, rd_at, rd_at0, set_at, set_at0, List.set_cons_zero, List.set_cons_succ, ne_eq, decide_not, quiet_ext, newOk_some, List.cons_prefix_cons, List.nil_prefix, List.drop_succ_cons, List.drop_zero, List.all_cons, List.all_nil, Bool.and_true, true_and, and_true, aloadN_at, aloadN_at0, aload1_at, aload1_at0, astoreN_at, astoreN_at0, astore1_at, astore1_at0, aslA_at, aslA_at0, ldN_all, ld1_row, stN_all, st1_row, slr_all, Nat.reduceAdd, Nat.reduceMul, Nat.reduceLT, hMu, c60, hN, hz, hbl, hRo, hF, hSl, hPu, Int.reduceEq, eq_self, decide_true, Nat.add_assoc g.length, Nat.reduceAdd]; exact e)
      · generalize newE l = E at *
        generalize newB l = N at *
        generalize List.replicate 256 (Cell.i .u8 0) = z at *
        exact ⟨_, by simp only [afAddr_p, List.append_nil, if_true, if_false, bnd_some, mp_some, cnd_t, cnd_f, gd_no, gd_tt, gd_tf, gd_ft, gd_ff, alenS_s, alen_sl, alen_ns, abin_add, abin_sub, abin_mul, abin_eql, abin_neq, abin_lss, abin_leq, abin_gtr, abin_geq, abin_seql, abin_sneq, abin_slss, aun_not, aun_neg, agn_some, aeqN_nf, aeqN_f, aeqN_np, aeqN_p, anilc_p, aeqB_t, aeqB_f, aconv_i, apick_b, cond_true, cond_false, decide_true, decide_false, Bool.not_true, Bool.not_false, aext_t, ofPart_c, ofPart_a, part?_c, part?_a, cells?_c, cells?_a, tupN_2, tupN_3, Option.map_some, Option.some.injEq, List.getElem?_cons_zero, List.getElem?_cons_succ, not_true_eq_false, not_false_eq_true, quiet_same, bytesI_length, Option.join_some, List.append_assoc, List.cons_append, List.nil_append, List.length_append, List.length_cons, List.length_nil, Nat.zero_add, Nat.add_zero, rd_at, rd_at0, set_at, set_at0, List.set_cons_zero, List.set_cons_succ, ne_eq, decide_not, quiet_ext, newOk_some, List.cons_prefix_cons, List.nil_prefix, List.drop_succ_cons, List.drop_zero, List.all_cons, List.all_nil, Bool.and_true, true_and, and_true, aloadN_at, aloadN_at0, aload1_at, aload1_at0, astoreN_at, astoreN_at0, astore1_at, astore1_at0, aslA_at, aslA_at0, ldN_all, ld1_row, stN_all, st1_row, slr_all, Nat.reduceAdd, Nat.reduceMul, Nat.reduceLT, hMu, c60, hN, hz, hbl, ce, works18_eq] <;> rfl⟩
  obtain ⟨g', e⟩ := key (ro h) hv.ro
  exact S_escheatlaw18_BucketKeeps_flat e rfl

end Go.Proofs.Ytbbkpmbepljhkaa
