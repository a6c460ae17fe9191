/- The document's bucket of entries. -/
import Derived.Test.YtbbkpmbepljhkaaSBucketPlain
import Derived.Test.YtbbkpmbepljhkaaSBucketRefFix
set_option linter.all false
namespace Go.Proofs.Ytbbkpmbepljhkaa
open Go Go.Esc

theorem entsC_name {l : List Ent} {k : Nat} (hk : k < l.length) : (entsC l)[k * 2]? = some (.s (entK l k).1) := by
  have h := entsC_at l k hk
  have h2 : (((entsC l).drop (k * 2)).take 2)[0]? = some (.s l[k].1) := by rw [h]; rfl
  rw [List.getElem?_take, if_pos (by omega), List.getElem?_drop, Nat.add_zero] at h2
  rw [h2, entK_get hk]

def longN (l : List Ent) : Bool := l.any fun x => decide ((60 : Int) < (x.1.length : Int))
theorem much_loop {v : Val} {nv q : Nat} {l : List Ent} {h : Heap} (hv : Has h v 2 nv (entsC l)) (hn : l.length = nv) (h62 : nv < 4611686018427387904) : ∀ e k m : Nat, k + e = nv → e < m →
    escheatref18_Much_l0 q m v (.c (.i .i64 (k : Int))) h = some (.c (.b (longN (l.drop k))), h)
  | e, k, 0, _, hm => by omega
  | 0, k, m + 1, hk, hm => by
    have e0 : k = nv := by omega
    subst e0
    have c0 : ¬ (k : Int) < k := by omega
    rw [escheatref18_Much_l0_eq, List.drop_of_length_le (by omega)]
    simp only [afAddr_p, List.append_nil, if_true, if_false, bnd_some, mp_some, cnd_t, cnd_f, gd_no, gd_tt, gd_tf, gd_ft, gd_ff, alenS_s, alen_sl, alen_ns, abin_add, abin_sub, abin_mul, abin_eql, abin_neq, abin_lss, abin_leq, abin_gtr, abin_geq, abin_seql, abin_sneq, abin_slss, aun_not, aun_neg, agn_some, aeqN_nf, aeqN_f, aeqN_np, aeqN_p, anilc_p, aeqB_t, aeqB_f, aconv_i, apick_b, cond_true, cond_false, decide_true, decide_false, Bool.not_true, Bool.not_false, aext_t, ofPart_c, ofPart_a, part?_c, part?_a, cells?_c, cells?_a, tupN_2, tupN_3, Option.map_some, Option.some.injEq, List.getElem?_cons_zero, List.getElem?_cons_succ, not_true_eq_false, not_false_eq_true, quiet_same, bytesI_length, Option.join_some, List.append_assoc, List.cons_append, List.nil_append, List.length_append, List.length_cons, List.length_nil, Nat.zero_add, Nat.add_zero, rd_at, rd_at0, set_at, set_at0, List.set_cons_zero, List.set_cons_succ, ne_eq, decide_not, quiet_ext, newOk_some, List.cons_prefix_cons, List.nil_prefix, List.drop_succ_cons, List.drop_zero, List.all_cons, List.all_nil, Bool.and_true, true_and, and_true, hv.len, c0] <;> rfl
  | e + 1, k, m + 1, hk, hm => by
    have ih := much_loop (q := q) hv hn h62 e (k + 1) m (by omega) (by omega)
    have c0 : (k : Int) < nv := by omega
    have hlen := hv.len
    obtain ⟨id, off, ev, hid, k1, k2⟩ := hv.sl (by omega)
    have eb : aiAddrL 2 v (.c (.i .i64 (k : Int))) = some (.c (.p id (off + k * 2))) := by rw [ev, iAddrL_of (by omega)]
    have g1 := k1 (k * 2) _ (entsC_name (by omega))
    have w1 := wi_succ (show k + 1 < 9223372036854775808 by omega)
    rw [escheatref18_Much_l0_eq, List.drop_eq_getElem_cons (by omega : k < l.length), show longN (l[k] :: l.drop (k + 1)) = (decide ((60 : Int) < (l[k].1.length : Int)) || longN (l.drop (k + 1))) from rfl, ← entK_get (by omega)]
    by_cases c : (60 : Int) < ((entK l k).1.length : Int)
    · rw [decide_eq_true c, Bool.true_or]
      simp only [afAddr_p, List.append_nil, if_true, if_false, bnd_some, mp_some, cnd_t, cnd_f, gd_no, gd_tt, gd_tf, gd_ft, gd_ff, alenS_s, alen_sl, alen_ns, abin_add, abin_sub, abin_mul, abin_eql, abin_neq, abin_lss, abin_leq, abin_gtr, abin_geq, abin_seql, abin_sneq, abin_slss, aun_not, aun_neg, agn_some, aeqN_nf, aeqN_f, aeqN_np, aeqN_p, anilc_p, aeqB_t, aeqB_f, aconv_i, apick_b, cond_true, cond_false, decide_true, decide_false, Bool.not_true, Bool.not_false, aext_t, ofPart_c, ofPart_a, part?_c, part?_a, cells?_c, cells?_a, tupN_2, tupN_3, Option.map_some, Option.some.injEq, List.getElem?_cons_zero, List.getElem?_cons_succ, not_true_eq_false, not_false_eq_true, quiet_same, bytesI_length, Option.join_some, List.append_assoc, List.cons_append, List.nil_append, List.length_append, List.length_cons, List.length_nil, Nat.zero_add, Nat.add_zero, rd_at, rd_at0, set_at, set_at0, List.set_cons_zero, List.set_cons_succ, ne_eq, decide_not, quiet_ext, newOk_some, List.cons_prefix_cons, List.nil_prefix, List.drop_succ_cons, List.drop_zero, List.all_cons, List.all_nil, Bool.and_true, true_and, and_true, hlen, c0, eb, g1, c]
    · rw [decide_eq_false c, Bool.false_or]
      simp only [afAddr_p, List.append_nil, if_true, if_false, bnd_some, mp_some, cnd_t, cnd_f, gd_no, gd_tt, gd_tf, gd_ft, gd_ff, alenS_s, alen_sl, alen_ns, abin_add, abin_sub, abin_mul, abin_eql, abin_neq, abin_lss, abin_leq, abin_gtr, abin_geq, abin_seql, abin_sneq, abin_slss, aun_not, aun_neg, agn_some, aeqN_nf, aeqN_f, aeqN_np, aeqN_p, anilc_p, aeqB_t, aeqB_f, aconv_i, apick_b, cond_true, cond_false, decide_true, decide_false, Bool.not_true, Bool.not_false, aext_t, ofPart_c, ofPart_a, part?_c, part?_a, cells?_c, cells?_a, tupN_2, tupN_3, Option.map_some, Option.some.injEq, List.getElem?_cons_zero, List.getElem?_cons_succ, not_true_eq_false, not_false_eq_true, quiet_same, bytesI_length, Option.join_some, List.append_assoc, List.cons_append, List.nil_append, List.length_append, List.length_cons, List.length_nil, Nat.zero_add, Nat.add_zero, rd_at, rd_at0, set_at, set_at0, List.set_cons_zero, List.set_cons_succ, ne_eq, decide_not, quiet_ext, newOk_some, List.cons_prefix_cons, List.nil_prefix, List.drop_succ_cons, List.drop_zero, List.all_cons, List.all_nil, Bool.and_true, true_and, and_true, hlen, c0, eb, g1, c, w1]
      exact ih
theorem ref18_Much_eq {v : Val} {nv : Nat} {M : Int} {l : List Ent} {h : Heap} (hv : Has h v 2 nv (entsC l)) (hM : M < 4611686018427387904) : S_escheatref18_Much [v, .c (.i .i64 M)] h = some (.c (.b (decide (M < (nv : Int)) || longN l)), h) := by
  have hn : l.length = nv := by have := hv.length; rw [entsC_length] at this; omega
  have key : ∃ n g', R_escheatref18_Much n [v, .c (.i .i64 M)] (ro h) = some (.c (.b (decide (M < (nv : Int)) || longN l)), g') := by
    have hl := hv.ro.len
    by_cases c : M < (nv : Int)
    · rw [decide_eq_true c, Bool.true_or]
      exact ⟨0, _, by rw [R_escheatref18_Much_eq]; simp only [afAddr_p, List.append_nil, if_true, if_false, bnd_some, mp_some, cnd_t, cnd_f, gd_no, gd_tt, gd_tf, gd_ft, gd_ff, alenS_s, alen_sl, alen_ns, abin_add, abin_sub, abin_mul, abin_eql, abin_neq, abin_lss, abin_leq, abin_gtr, abin_geq, abin_seql, abin_sneq, abin_slss, aun_not, aun_neg, agn_some, aeqN_nf, aeqN_f, aeqN_np, aeqN_p, anilc_p, aeqB_t, aeqB_f, aconv_i, apick_b, cond_true, cond_false, decide_true, decide_false, Bool.not_true, Bool.not_false, aext_t, ofPart_c, ofPart_a, part?_c, part?_a, cells?_c, cells?_a, tupN_2, tupN_3, Option.map_some, Option.some.injEq, List.getElem?_cons_zero, List.getElem?_cons_succ, not_true_eq_false, not_false_eq_true, quiet_same, bytesI_length, Option.join_some, List.append_assoc, List.cons_append, List.nil_append, List.length_append, List.length_cons, List.length_nil, Nat.zero_add, Nat.add_zero, rd_at, rd_at0, set_at, set_at0, List.set_cons_zero, List.set_cons_succ, ne_eq, decide_not, quiet_ext, newOk_some, List.cons_prefix_cons, List.nil_prefix, List.drop_succ_cons, List.drop_zero, List.all_cons, List.all_nil, Bool.and_true, true_and, and_true, hl, c] <;> rfl⟩
    · have e := much_loop (q := nv + 1) hv.ro hn (by omega) nv 0 (nv + 1) (by omega) (by omega)
      rw [List.drop_zero] at e
      rw [decide_eq_false c, Bool.false_or]
      exact ⟨nv + 1, _, by rw [R_escheatref18_Much_eq]; simp only [afAddr_p, List.append_nil, if_true, if_false, bnd_some, mp_some, cnd_t, cnd_f, gd_no, gd_tt, gd_tf, gd_ft, gd_ff, alenS_s, alen_sl, alen_ns, abin_add, abin_sub, abin_mul, abin_eql, abin_neq, abin_lss, abin_leq, abin_gtr, abin_geq, abin_seql, abin_sneq, abin_slss, aun_not, aun_neg, agn_some, aeqN_nf, aeqN_f, aeqN_np, aeqN_p, anilc_p, aeqB_t, aeqB_f, aconv_i, apick_b, cond_true, cond_false, decide_true, decide_false, Bool.not_true, Bool.not_false, aext_t, ofPart_c, ofPart_a, part?_c, part?_a, cells?_c, cells?_a, tupN_2, tupN_3, Option.map_some, Option.some.injEq, List.getElem?_cons_zero, List.getElem?_cons_succ, not_true_eq_false, not_false_eq_true, quiet_same, bytesI_length, Option.join_some, List.append_assoc, List.cons_append, List.nil_append, List.length_append, List.length_cons, List.length_nil, Nat.zero_add, Nat.add_zero, rd_at, rd_at0, set_at, set_at0, List.set_cons_zero, List.set_cons_succ, ne_eq, decide_not, quiet_ext, newOk_some, List.cons_prefix_cons, List.nil_prefix, List.drop_succ_cons, List.drop_zero, List.all_cons, List.all_nil, Bool.and_true, true_and, and_true, hl, c]; exact e⟩
  obtain ⟨n, g', e⟩ := key
  exact S_escheatref18_Much_flat e rfl

theorem rnew_l2 {v x4 : Val} {nv q m k : Nat} {l : List Ent} {h : Heap} (hv : Has h v 2 nv (entsC l)) (hn : l.length = nv) (h7 : nv ≤ 7) (hk : k < nv) : ∀ e j m2 : Nat, j + e = k → e < m2 →
    escheatref18_New_l2 q m m2 v x4 (.c (.i .i64 (k : Int))) (.c (.i .i64 (j : Int))) h = bif (List.range' j e).all fun j => !decide ((entK l j).1 = (entK l k).1) then escheatref18_New_l1 q m v x4 (.c (.i .i64 ((k + 1 : Nat) : Int))) h else some (.t [.c (.sl h.length 0 0 1), .c (.i .i64 5)], h ++ [some ⟨[], true⟩])
  | e, j, 0, _, hm => by omega
  | 0, j, m2 + 1, hj, hm => by
    have e0 : j = k := by omega
    subst e0
    have c0 : ¬ (j : Int) < j := by omega
    have w1 := wi_succ (show j + 1 < 9223372036854775808 by omega)
    rw [escheatref18_New_l2_eq, List.range'_zero, List.all_nil, cond_true]
    simp only [afAddr_p, List.append_nil, if_true, if_false, bnd_some, mp_some, cnd_t, cnd_f, gd_no, gd_tt, gd_tf, gd_ft, gd_ff, alenS_s, alen_sl, alen_ns, abin_add, abin_sub, abin_mul, abin_eql, abin_neq, abin_lss, abin_leq, abin_gtr, abin_geq, abin_seql, abin_sneq, abin_slss, aun_not, aun_neg, agn_some, aeqN_nf, aeqN_f, aeqN_np, aeqN_p, anilc_p, aeqB_t, aeqB_f, aconv_i, apick_b, cond_true, cond_false, decide_true, decide_false, Bool.not_true, Bool.not_false, aext_t, ofPart_c, ofPart_a, part?_c, part?_a, cells?_c, cells?_a, tupN_2, tupN_3, Option.map_some, Option.some.injEq, List.getElem?_cons_zero, List.getElem?_cons_succ, not_true_eq_false, not_false_eq_true, quiet_same, bytesI_length, Option.join_some, List.append_assoc, List.cons_append, List.nil_append, List.length_append, List.length_cons, List.length_nil, Nat.zero_add, Nat.add_zero, rd_at, rd_at0, set_at, set_at0, List.set_cons_zero, List.set_cons_succ, ne_eq, decide_not, quiet_ext, newOk_some, List.cons_prefix_cons, List.nil_prefix, List.drop_succ_cons, List.drop_zero, List.all_cons, List.all_nil, Bool.and_true, true_and, and_true, c0, w1]
  | e + 1, j, m2 + 1, hj, hm => by
    have ih := rnew_l2 (x4 := x4) (q := q) (m := m) hv hn h7 hk e (j + 1) m2 (by omega) (by omega)
    have c0 : (j : Int) < k := by omega
    obtain ⟨id, off, ev, hid, k1, k2⟩ := hv.sl (by omega)
    have eb : aiAddrL 2 v (.c (.i .i64 (j : Int))) = some (.c (.p id (off + j * 2))) := by rw [ev, iAddrL_of (by omega)]
    have eb2 : aiAddrL 2 v (.c (.i .i64 (k : Int))) = some (.c (.p id (off + k * 2))) := by rw [ev, iAddrL_of (by omega)]
    have g1 := k1 (j * 2) _ (entsC_name (by omega))
    have g2 := k1 (k * 2) _ (entsC_name (by omega))
    have w1 := wi_succ (show j + 1 < 9223372036854775808 by omega)
    rw [escheatref18_New_l2_eq, List.range'_succ, List.all_cons]
    by_cases c : (entK l j).1 = (entK l k).1
    · rw [decide_eq_true c, Bool.not_true, Bool.false_and, cond_false]
      simp only [afAddr_p, List.append_nil, if_true, if_false, bnd_some, mp_some, cnd_t, cnd_f, gd_no, gd_tt, gd_tf, gd_ft, gd_ff, alenS_s, alen_sl, alen_ns, abin_add, abin_sub, abin_mul, abin_eql, abin_neq, abin_lss, abin_leq, abin_gtr, abin_geq, abin_seql, abin_sneq, abin_slss, aun_not, aun_neg, agn_some, aeqN_nf, aeqN_f, aeqN_np, aeqN_p, anilc_p, aeqB_t, aeqB_f, aconv_i, apick_b, cond_true, cond_false, decide_true, decide_false, Bool.not_true, Bool.not_false, aext_t, ofPart_c, ofPart_a, part?_c, part?_a, cells?_c, cells?_a, tupN_2, tupN_3, Option.map_some, Option.some.injEq, List.getElem?_cons_zero, List.getElem?_cons_succ, not_true_eq_false, not_false_eq_true, quiet_same, bytesI_length, Option.join_some, List.append_assoc, List.cons_append, List.nil_append, List.length_append, List.length_cons, List.length_nil, Nat.zero_add, Nat.add_zero, rd_at, rd_at0, set_at, set_at0, List.set_cons_zero, List.set_cons_succ, ne_eq, decide_not, quiet_ext, newOk_some, List.cons_prefix_cons, List.nil_prefix, List.drop_succ_cons, List.drop_zero, List.all_cons, List.all_nil, Bool.and_true, true_and, and_true, c0, eb, eb2, g1, g2, c] <;> rfl
    · rw [decide_eq_false c, Bool.not_false, Bool.true_and, ← ih]
      simp only [afAddr_p, List.append_nil, if_true, if_false, bnd_some, mp_some, cnd_t, cnd_f, gd_no, gd_tt, gd_tf, gd_ft, gd_ff, alenS_s, alen_sl, alen_ns, abin_add, abin_sub, abin_mul, abin_eql, abin_neq, abin_lss, abin_leq, abin_gtr, abin_geq, abin_seql, abin_sneq, abin_slss, aun_not, aun_neg, agn_some, aeqN_nf, aeqN_f, aeqN_np, aeqN_p, anilc_p, aeqB_t, aeqB_f, aconv_i, apick_b, cond_true, cond_false, decide_true, decide_false, Bool.not_true, Bool.not_false, aext_t, ofPart_c, ofPart_a, part?_c, part?_a, cells?_c, cells?_a, tupN_2, tupN_3, Option.map_some, Option.some.injEq, List.getElem?_cons_zero, List.getElem?_cons_succ, not_true_eq_false, not_false_eq_true, quiet_same, bytesI_length, Option.join_some, List.append_assoc, List.cons_append, List.nil_append, List.length_append, List.length_cons, List.length_nil, Nat.zero_add, Nat.add_zero, rd_at, rd_at0, set_at, set_at0, List.set_cons_zero, List.set_cons_succ, ne_eq, decide_not, quiet_ext, newOk_some, List.cons_prefix_cons, List.nil_prefix, List.drop_succ_cons, List.drop_zero, List.all_cons, List.all_nil, Bool.and_true, true_and, and_true, c0, eb, eb2, g1, g2, c, w1]

theorem rnew_l1 {v : Val} {i nv q : Nat} {l : List Ent} {h : Heap} (hv : Has h v 2 nv (entsC l)) (hn : l.length = nv) (h7 : nv ≤ 7) (hq : nv < q) : ∀ e k m : Nat, k + e = nv → e < m →
    escheatref18_New_l1 q m v (.c (.sl i 0 256 1)) (.c (.i .i64 (k : Int))) h = bif (List.range' k e).all (otherK l) then some (.t [.c (.sl i 0 256 1), .c (.i .i64 0)], h) else some (.t [.c (.sl h.length 0 0 1), .c (.i .i64 5)], h ++ [some ⟨[], true⟩])
  | e, k, 0, _, hm => by omega
  | 0, k, m + 1, hk, hm => by
    have e0 : k = nv := by omega
    subst e0
    have c0 : ¬ (k : Int) < k := by omega
    rw [escheatref18_New_l1_eq, List.range'_zero, List.all_nil, cond_true]
    simp only [afAddr_p, List.append_nil, if_true, if_false, bnd_some, mp_some, cnd_t, cnd_f, gd_no, gd_tt, gd_tf, gd_ft, gd_ff, alenS_s, alen_sl, alen_ns, abin_add, abin_sub, abin_mul, abin_eql, abin_neq, abin_lss, abin_leq, abin_gtr, abin_geq, abin_seql, abin_sneq, abin_slss, aun_not, aun_neg, agn_some, aeqN_nf, aeqN_f, aeqN_np, aeqN_p, anilc_p, aeqB_t, aeqB_f, aconv_i, apick_b, cond_true, cond_false, decide_true, decide_false, Bool.not_true, Bool.not_false, aext_t, ofPart_c, ofPart_a, part?_c, part?_a, cells?_c, cells?_a, tupN_2, tupN_3, Option.map_some, Option.some.injEq, List.getElem?_cons_zero, List.getElem?_cons_succ, not_true_eq_false, not_false_eq_true, quiet_same, bytesI_length, Option.join_some, List.append_assoc, List.cons_append, List.nil_append, List.length_append, List.length_cons, List.length_nil, Nat.zero_add, Nat.add_zero, rd_at, rd_at0, set_at, set_at0, List.set_cons_zero, List.set_cons_succ, ne_eq, decide_not, quiet_ext, newOk_some, List.cons_prefix_cons, List.nil_prefix, List.drop_succ_cons, List.drop_zero, List.all_cons, List.all_nil, Bool.and_true, true_and, and_true, hv.len, c0]
  | e + 1, k, m + 1, hk, hm => by
    have ih := rnew_l1 (i := i) (q := q) hv hn h7 hq e (k + 1) m (by omega) (by omega)
    have c0 : (k : Int) < nv := by omega
    have hlen := hv.len
    have h2 := rnew_l2 (x4 := .c (.sl i 0 256 1)) (q := q) (m := m) hv hn h7 (show k < nv by omega) k 0 q (by omega) (by omega)
    rw [show (List.range' 0 k).all (fun j => !decide ((entK l j).1 = (entK l k).1)) = otherK l k from rfl, show ((0 : Nat) : Int) = 0 from rfl] at h2
    rw [escheatref18_New_l1_eq, List.range'_succ, List.all_cons]
    simp only [afAddr_p, List.append_nil, if_true, if_false, bnd_some, mp_some, cnd_t, cnd_f, gd_no, gd_tt, gd_tf, gd_ft, gd_ff, alenS_s, alen_sl, alen_ns, abin_add, abin_sub, abin_mul, abin_eql, abin_neq, abin_lss, abin_leq, abin_gtr, abin_geq, abin_seql, abin_sneq, abin_slss, aun_not, aun_neg, agn_some, aeqN_nf, aeqN_f, aeqN_np, aeqN_p, anilc_p, aeqB_t, aeqB_f, aconv_i, apick_b, cond_true, cond_false, decide_true, decide_false, Bool.not_true, Bool.not_false, aext_t, ofPart_c, ofPart_a, part?_c, part?_a, cells?_c, cells?_a, tupN_2, tupN_3, Option.map_some, Option.some.injEq, List.getElem?_cons_zero, List.getElem?_cons_succ, not_true_eq_false, not_false_eq_true, quiet_same, bytesI_length, Option.join_some, List.append_assoc, List.cons_append, List.nil_append, List.length_append, List.length_cons, List.length_nil, Nat.zero_add, Nat.add_zero, rd_at, rd_at0, set_at, set_at0, List.set_cons_zero, List.set_cons_succ, ne_eq, decide_not, quiet_ext, newOk_some, List.cons_prefix_cons, List.nil_prefix, List.drop_succ_cons, List.drop_zero, List.all_cons, List.all_nil, Bool.and_true, true_and, and_true, hlen, c0, h2]
    cases c : otherK l k with
    | true => rw [cond_true, Bool.true_and]; exact ih
    | false => rw [cond_false, Bool.false_and, cond_false]

/-- Why there is none, as the document has it. -/
def refE (l : List Ent) : Int := if 7 < l.length then 11 else if mayN l = true then (if otherN l = true then 0 else 5) else 1

theorem rnew_l0 {v : Val} {nv q : Nat} {l : List Ent} {B : Heap} (hls : ∀ x ∈ l, x.1.length ≤ 60) (hn : l.length = nv) (h7 : nv ≤ 7) (hq : nv < q) : ∀ (e k m : Nat) (h : Heap) (id : Nat), k + e = nv → e < m → Has h v 2 nv (entsC l) → B.length ≤ id → B.length ≤ h.length → rd h id = some ⟨encB (newL l k), true⟩ →
    ∃ i h', escheatref18_New_l0 q m v (.c (.sl id 0 256 1)) (.c (.i .i64 (k : Int))) h = some (.t [.c (.sl i 0 (bif mayN (l.drop k) && otherN l then 256 else 0) 1), .c (.i .i64 (bif mayN (l.drop k) then (bif otherN l then 0 else 5) else 1))], h') ∧ B.length ≤ i ∧ rd h' i = some ⟨encB (bif mayN (l.drop k) && otherN l then newL l nv else []), true⟩
  | e, k, 0, h, id, _, hm, _, _, _, _ => by omega
  | 0, k, m + 1, h, id, hk, hm, hv, hid, hBh, hr => by
    have e0 : k = nv := by omega
    subst e0
    have c0 : ¬ (k : Int) < k := by omega
    have e := rnew_l1 (i := id) (q := q) hv hn h7 hq k 0 q (by omega) hq
    have em : mayN (l.drop k) = true := by rw [List.drop_of_length_le (by omega)]; rfl
    have eo : (List.range' 0 k).all (otherK l) = otherN l := by unfold otherN; rw [hn]
    rw [eo, show ((0 : Nat) : Int) = 0 from rfl] at e
    rw [escheatref18_New_l0_eq, em, Bool.true_and, cond_true]
    cases c : otherN l with
    | true =>
      rw [c, cond_true] at e
      exact ⟨id, h, by simp only [afAddr_p, List.append_nil, if_true, if_false, bnd_some, mp_some, cnd_t, cnd_f, gd_no, gd_tt, gd_tf, gd_ft, gd_ff, alenS_s, alen_sl, alen_ns, abin_add, abin_sub, abin_mul, abin_eql, abin_neq, abin_lss, abin_leq, abin_gtr, abin_geq, abin_seql, abin_sneq, abin_slss, aun_not, aun_neg, agn_some, aeqN_nf, aeqN_f, aeqN_np, aeqN_p, anilc_p, aeqB_t, aeqB_f, aconv_i, apick_b, cond_true, cond_false, decide_true, decide_false, Bool.not_true, Bool.not_false, aext_t, ofPart_c, ofPart_a, part?_c, part?_a, cells?_c, cells?_a, tupN_2, tupN_3, Option.map_some, Option.some.injEq, List.getElem?_cons_zero, List.getElem?_cons_succ, not_true_eq_false, not_false_eq_true, quiet_same, bytesI_length, Option.join_some, List.append_assoc, List.cons_append, List.nil_append, List.length_append, List.length_cons, List.length_nil, Nat.zero_add, Nat.add_zero, rd_at, rd_at0, set_at, set_at0, List.set_cons_zero, List.set_cons_succ, ne_eq, decide_not, quiet_ext, newOk_some, List.cons_prefix_cons, List.nil_prefix, List.drop_succ_cons, List.drop_zero, List.all_cons, List.all_nil, Bool.and_true, true_and, and_true, hv.len, c0]; exact e, hid, hr⟩
    | false =>
      rw [c, cond_false] at e
      exact ⟨h.length, _, by simp only [afAddr_p, List.append_nil, if_true, if_false, bnd_some, mp_some, cnd_t, cnd_f, gd_no, gd_tt, gd_tf, gd_ft, gd_ff, alenS_s, alen_sl, alen_ns, abin_add, abin_sub, abin_mul, abin_eql, abin_neq, abin_lss, abin_leq, abin_gtr, abin_geq, abin_seql, abin_sneq, abin_slss, aun_not, aun_neg, agn_some, aeqN_nf, aeqN_f, aeqN_np, aeqN_p, anilc_p, aeqB_t, aeqB_f, aconv_i, apick_b, cond_true, cond_false, decide_true, decide_false, Bool.not_true, Bool.not_false, aext_t, ofPart_c, ofPart_a, part?_c, part?_a, cells?_c, cells?_a, tupN_2, tupN_3, Option.map_some, Option.some.injEq, List.getElem?_cons_zero, List.getElem?_cons_succ, not_true_eq_false, not_false_eq_true, quiet_same, bytesI_length, Option.join_some, List.append_assoc, List.cons_append, List.nil_append, List.length_append, List.length_cons, List.length_nil, Nat.zero_add, Nat.add_zero, rd_at, rd_at0, set_at, set_at0, List.set_cons_zero, List.set_cons_succ, ne_eq, decide_not, quiet_ext, newOk_some, List.cons_prefix_cons, List.nil_prefix, List.drop_succ_cons, List.drop_zero, List.all_cons, List.all_nil, Bool.and_true, true_and, and_true, hv.len, c0]; exact e, hBh, by simp [encB]⟩
  | e + 1, k, m + 1, h, id, hk, hm, hv, hid, hBh, hr => by
    have c0 : (k : Int) < nv := by omega
    have hNl := newL_length (l := l) k (by omega)
    have hlen := hv.len
    obtain ⟨idv, off, ev, hidv, k1, k2⟩ := hv.sl (by omega)
    have eb : aiAddrL 2 v (.c (.i .i64 (k : Int))) = some (.c (.p idv (off + k * 2))) := by rw [ev, iAddrL_of (by omega)]
    have hld := k2 (k * 2) 2 (by rw [entsC_length]; omega)
    rw [entsC_at l k (by omega), ← entK_get (by omega)] at hld
    have w1 := wi_succ (show k + 1 < 9223372036854775808 by omega)
    have w0 := rmul (show k < 7 by omega)
    have w2 := radd (show k < 7 by omega)
    have hmd : mayN (l.drop k) = (mayE (entK l k).1 (entK l k).2 && mayN (l.drop (k + 1))) := by
      rw [List.drop_eq_getElem_cons (by omega : k < l.length), entK_get (by omega)]; rfl
    rw [escheatref18_New_l0_eq, hmd]
    have hs : (entK l k).1.length < 9223372036854775807 := by
      have := hls _ (List.getElem_mem (by omega : k < l.length))
      rw [← entK_get] at this
      omega
    · have hM := fun h => ref18_May_eq (n := (entK l k).2) (h := h) hs
      cases cm : mayE (entK l k).1 (entK l k).2 with
      | false =>
        rw [cm] at hM
        rw [Bool.false_and, Bool.false_and, cond_false, cond_false]
        simp only [entC] at hld
        exact ⟨h.length, _, by simp only [afAddr_p, List.append_nil, if_true, if_false, bnd_some, mp_some, cnd_t, cnd_f, gd_no, gd_tt, gd_tf, gd_ft, gd_ff, alenS_s, alen_sl, alen_ns, abin_add, abin_sub, abin_mul, abin_eql, abin_neq, abin_lss, abin_leq, abin_gtr, abin_geq, abin_seql, abin_sneq, abin_slss, aun_not, aun_neg, agn_some, aeqN_nf, aeqN_f, aeqN_np, aeqN_p, anilc_p, aeqB_t, aeqB_f, aconv_i, apick_b, cond_true, cond_false, decide_true, decide_false, Bool.not_true, Bool.not_false, aext_t, ofPart_c, ofPart_a, part?_c, part?_a, cells?_c, cells?_a, tupN_2, tupN_3, Option.map_some, Option.some.injEq, List.getElem?_cons_zero, List.getElem?_cons_succ, not_true_eq_false, not_false_eq_true, quiet_same, bytesI_length, Option.join_some, List.append_assoc, List.cons_append, List.nil_append, List.length_append, List.length_cons, List.length_nil, Nat.zero_add, Nat.add_zero, rd_at, rd_at0, set_at, set_at0, List.set_cons_zero, List.set_cons_succ, ne_eq, decide_not, quiet_ext, newOk_some, List.cons_prefix_cons, List.nil_prefix, List.drop_succ_cons, List.drop_zero, List.all_cons, List.all_nil, Bool.and_true, true_and, and_true, hlen, c0, eb, hld, hM] <;> rfl, hBh, by simp [encB]⟩
      | true =>
        rw [cm] at hM
        rw [Bool.true_and]
        have hB := fun h => ref18_Bytes_eq (h := h) cm
        have hL := ref01_Lay_eq (v := .c (.sl id 0 256 1)) (u := .c (.sl h.length 0 32 1)) (nv := 256) (nu := 32) (l := newL l k) (data := entB (entK l k).1 (entK l k).2) (a := (slotA k : Nat)) (h := h ++ [some (Row.mk (encB (entB (entK l k).1 (entK l k).2)) true)]) (Has.row (rw := true) (rd_append hr) (by rw [encB_length, hNl]) (noX_encB _)) (Has.row (rw := true) (by simp) (by rw [encB_length, entB_length]) (noX_encB _)) (by unfold slotA; omega) (by omega)
        rw [layR_layB (by rw [hNl, entB_length]; unfold slotA; omega), hNl, show layB (newL l k) (slotA k) (entB (entK l k).1 (entK l k).2) = newL l (k + 1) from rfl] at hL
        obtain ⟨i, h', f1, f2⟩ := rnew_l0 (v := v) (q := q) (B := B) hls hn h7 hq e (k + 1) m (h ++ [some (Row.mk (encB (entB (entK l k).1 (entK l k).2)) true), some (Row.mk (encB (newL l (k + 1))) true)]) (h.length + 1) (by omega) (by omega) (hv.more _) (by omega) (by simp; omega) (by simp)
        refine ⟨i, h', ?_, f2⟩
        generalize entB (entK l k).1 (entK l k).2 = E at *
        simp only [entC] at hld
        simp only [afAddr_p, List.append_nil, if_true, if_false, bnd_some, mp_some, cnd_t, cnd_f, gd_no, gd_tt, gd_tf, gd_ft, gd_ff, alenS_s, alen_sl, alen_ns, abin_add, abin_sub, abin_mul, abin_eql, abin_neq, abin_lss, abin_leq, abin_gtr, abin_geq, abin_seql, abin_sneq, abin_slss, aun_not, aun_neg, agn_some, aeqN_nf, aeqN_f, aeqN_np, aeqN_p, anilc_p, aeqB_t, aeqB_f, aconv_i, apick_b, cond_true, cond_false, decide_true, decide_false, Bool.not_true, Bool.not_false, aext_t, ofPart_c, ofPart_a, part?_c, part?_a, cells?_c, cells?_a, tupN_2, tupN_3, Option.map_some, Option.some.injEq, List.getElem?_cons_zero, List.getElem?_cons_succ, not_true_eq_false, not_false_eq_true, quiet_same, bytesI_length, Option.join_some, List.append_assoc, List.cons_append, List.nil_append, List.length_append, List.length_cons, List.length_nil, Nat.zero_add, Nat.add_zero, rd_at, rd_at0, set_at, set_at0, List.set_cons_zero, List.set_cons_succ, ne_eq, decide_not, quiet_ext, newOk_some, List.cons_prefix_cons, List.nil_prefix, List.drop_succ_cons, List.drop_zero, List.all_cons, List.all_nil, Bool.and_true, true_and, and_true, aloadN_at, aloadN_at0, aload1_at, aload1_at0, astoreN_at, astoreN_at0, astore1_at, astore1_at0, aslA_at, aslA_at0, ldN_all, ld1_row, stN_all, st1_row, slr_all, Nat.reduceAdd, Nat.reduceMul, Nat.reduceLT, hlen, c0, eb, hld, hM, w0, w2, hB, hL, w1]
        exact f1

theorem ref_newE {l : List Ent} : newE l = refE l := by
  unfold newE refE
  by_cases c : 7 < l.length
  · rw [if_pos c, if_pos c]
  · rw [if_neg c, if_neg c]
    by_cases cm : mayN l = true
    · rw [if_pos cm, if_pos cm, onceN_other cm (by omega)]
    · rw [if_neg cm, if_neg cm]

theorem ref18_New_eq {v : Val} {nv : Nat} {l : List Ent} {h : Heap} (hv : Has h v 2 nv (entsC l)) (hls : ∀ x ∈ l, x.1.length ≤ 60) : S_escheatref18_New [v] h = some (.t [.c (.sl h.length 0 (if newE l = 0 then 256 else 0) 1), .c (.i .i64 (newE l))], h ++ [some ⟨encB (if newE l = 0 then newL l l.length else []), true⟩]) := by
  have hn : l.length = nv := by have := hv.length; rw [entsC_length] at this; omega
  have key : ∃ i g', R_escheatref18_New 8 [v] (ro h) = some (.t [.c (.sl i 0 (if newE l = 0 then 256 else 0) 1), .c (.i .i64 (newE l))], g') ∧ h.length ≤ i ∧ rd g' i = some ⟨encB (if newE l = 0 then newL l l.length else []), true⟩ := by
    have hl := hv.ro.len
    have hlr := ro_length (h := h)
    rw [R_escheatref18_New_eq, ref_newE]
    by_cases c : 7 < nv
    · have c0 : (7 : Int) < nv := by omega
      have e1 : refE l = 11 := by unfold refE; rw [if_pos (by omega)]
      rw [e1]
      refine ⟨(ro h).length + 1, ro h ++ [some ⟨[], true⟩, some ⟨[], true⟩], ?_, by omega, by simp [encB]⟩
      simp only [afAddr_p, List.append_nil, if_true, if_false, bnd_some, mp_some, cnd_t, cnd_f, gd_no, gd_tt, gd_tf, gd_ft, gd_ff, alenS_s, alen_sl, alen_ns, abin_add, abin_sub, abin_mul, abin_eql, abin_neq, abin_lss, abin_leq, abin_gtr, abin_geq, abin_seql, abin_sneq, abin_slss, aun_not, aun_neg, agn_some, aeqN_nf, aeqN_f, aeqN_np, aeqN_p, anilc_p, aeqB_t, aeqB_f, aconv_i, apick_b, cond_true, cond_false, decide_true, decide_false, Bool.not_true, Bool.not_false, aext_t, ofPart_c, ofPart_a, part?_c, part?_a, cells?_c, cells?_a, tupN_2, tupN_3, Option.map_some, Option.some.injEq, List.getElem?_cons_zero, List.getElem?_cons_succ, not_true_eq_false, not_false_eq_true, quiet_same, bytesI_length, Option.join_some, List.append_assoc, List.cons_append, List.nil_append, List.length_append, List.length_cons, List.length_nil, Nat.zero_add, Nat.add_zero, rd_at, rd_at0, set_at, set_at0, List.set_cons_zero, List.set_cons_succ, ne_eq, decide_not, quiet_ext, newOk_some, List.cons_prefix_cons, List.nil_prefix, List.drop_succ_cons, List.drop_zero, List.all_cons, List.all_nil, Bool.and_true, true_and, and_true, aloadN_at, aloadN_at0, aload1_at, aload1_at0, astoreN_at, astoreN_at0, astore1_at, astore1_at0, aslA_at, aslA_at0, ldN_all, ld1_row, stN_all, st1_row, slr_all, Nat.reduceAdd, Nat.reduceMul, Nat.reduceLT, hl, c0] <;> rfl
    · have c0 : ¬ (7 : Int) < nv := by omega
      have hH := fun h => ref18_Head_eq (h := h)
      obtain ⟨i, h', f1, f2, f3⟩ := rnew_l0 (v := v) (nv := nv) (q := 8) (B := ro h) hls hn (by omega) (by omega) nv 0 8 (ro h ++ [some (Row.mk [] true), some (Row.mk (encB (newL l 0)) true)]) ((ro h).length + 1) (by omega) (by omega) (hv.ro.more _) (by omega) (by simp) (by simp)
      rw [List.drop_zero] at f1 f3
      have e1 : refE l = (bif mayN l then (bif otherN l then 0 else 5) else 1) := by
        unfold refE
        rw [if_neg (by omega)]
        cases mayN l <;> cases otherN l <;> simp
      have e2 : (if refE l = 0 then 256 else 0) = (bif mayN l && otherN l then 256 else 0) := by rw [e1]; cases mayN l <;> cases otherN l <;> simp
      have e3 : (if refE l = 0 then newL l l.length else []) = (bif mayN l && otherN l then newL l nv else []) := by rw [e1, ← hn]; cases mayN l <;> cases otherN l <;> simp
      rw [e2, e3, e1]
      rw [show newL l 0 = hdB from rfl] at f1
      refine ⟨i, h', ?_, by omega, f3⟩
      generalize hdB = H at *
      simp only [afAddr_p, List.append_nil, if_true, if_false, bnd_some, mp_some, cnd_t, cnd_f, gd_no, gd_tt, gd_tf, gd_ft, gd_ff, alenS_s, alen_sl, alen_ns, abin_add, abin_sub, abin_mul, abin_eql, abin_neq, abin_lss, abin_leq, abin_gtr, abin_geq, abin_seql, abin_sneq, abin_slss, aun_not, aun_neg, agn_some, aeqN_nf, aeqN_f, aeqN_np, aeqN_p, anilc_p, aeqB_t, aeqB_f, aconv_i, apick_b, cond_true, cond_false, decide_true, decide_false, Bool.not_true, Bool.not_false, aext_t, ofPart_c, ofPart_a, part?_c, part?_a, cells?_c, cells?_a, tupN_2, tupN_3, Option.map_some, Option.some.injEq, List.getElem?_cons_zero, List.getElem?_cons_succ, not_true_eq_false, not_false_eq_true, quiet_same, bytesI_length, Option.join_some, List.append_assoc, List.cons_append, List.nil_append, List.length_append, List.length_cons, List.length_nil, Nat.zero_add, Nat.add_zero, rd_at, rd_at0, set_at, set_at0, List.set_cons_zero, List.set_cons_succ, ne_eq, decide_not, quiet_ext, newOk_some, List.cons_prefix_cons, List.nil_prefix, List.drop_succ_cons, List.drop_zero, List.all_cons, List.all_nil, Bool.and_true, true_and, and_true, aloadN_at, aloadN_at0, aload1_at, aload1_at0, astoreN_at, astoreN_at0, astore1_at, astore1_at0, aslA_at, aslA_at0, ldN_all, ld1_row, stN_all, st1_row, slr_all, Nat.reduceAdd, Nat.reduceMul, Nat.reduceLT, hl, c0, hH]
      exact f1
  obtain ⟨i, g', e, hi, hr⟩ := key
  refine S_escheatref18_New_out2 e ⟨?_, i, rfl, hi, hr⟩ (by simp) rfl
  by_cases c : newE l = 0
  · rw [if_pos c, if_pos c, encB_length]
    refine newL_length _ ?_
    false_or_by_contra
    unfold newE at c
    rw [if_pos (by omega)] at c
    omega
  · rw [if_neg c, if_neg c]; rfl

end Go.Proofs.Ytbbkpmbepljhkaa
