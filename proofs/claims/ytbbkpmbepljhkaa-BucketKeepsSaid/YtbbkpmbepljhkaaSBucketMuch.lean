/- More entries than are gone through? -/
import Derived.Test.YtbbkpmbepljhkaaSBucketNew
import Derived.Test.YtbbkpmbepljhkaaGEscheatref18
set_option linter.all false
namespace Go.Proofs.Ytbbkpmbepljhkaa
open Go Go.Esc

theorem entsC_name {l : List Ent} {k : Nat} (hk : k < l.length) : (entsC l)[k * 2]? = some (.s (entK l k).1) := by
  have h := entsC_at l k hk
  have h2 : (((entsC l).drop (k * 2)).take 2)[0]? = some (.s l[k].1) := by rw [h]; rfl
  rw [List.getElem?_take, if_pos (by omega), List.getElem?_drop, Nat.add_zero] at h2
  rw [h2, entK_get hk]

def longN (l : List Ent) : Bool := l.any fun x => decide ((60 : Int) < (x.1.length : Int))
theorem much_loop {v : Val} {nv q : Nat} {l : List Ent} {h : Heap} (hv : Has h v 2 nv (entsC l)) (hn : l.length = nv) (h62 : nv < 4611686018427387904) : ∀ e k m : Nat, k + e = nv → e < m →
    escheatref18_Much_l0 q m v (.c (.i .i64 (k : Int))) h = some (.c (.b (longN (l.drop k))), h)
  | e, k, 0, _, hm => by omega
  | 0, k, m + 1, hk, hm => by
    have e0 : k = nv := by omega
    subst e0
    have c0 : ¬ (k : Int) < k := by omega
    rw [escheatref18_Much_l0_eq, List.drop_of_length_le (by omega)]
    simp only [afAddr_p, List.append_nil, if_true, if_false, bnd_some, mp_some, cnd_t, cnd_f, gd_no, gd_tt, gd_tf, gd_ft, gd_ff, alenS_s, alen_sl, alen_ns, abin_add, abin_sub, abin_mul, abin_eql, abin_neq, abin_lss, abin_leq, abin_gtr, abin_geq, abin_seql, abin_sneq, abin_slss, aun_not, aun_neg, agn_some, aeqN_nf, aeqN_f, aeqN_np, aeqN_p, anilc_p, aeqB_t, aeqB_f, aconv_i, apick_b, cond_true, cond_false, decide_true, decide_false, Bool.not_true, Bool.not_false, aext_t, ofPart_c, ofPart_a, part?_c, part?_a, cells?_c, cells?_a, tupN_2, tupN_3, Option.map_some, Option.some.injEq, List.getElem?_cons_zero, List.getElem?_cons_succ, not_true_eq_false, not_false_eq_true, quiet_same, bytesI_length, Option.join_some, List.append_assoc, List.cons_append, List.nil_append, List.length_append, List.length_cons, List.length_nil, Nat.zero_add, Nat.add_zero, rd_at, rd_at0, set_at, set_at0, List.set_cons_zero, List.set_cons_succ, ne_eq, decide_not, quiet_ext, newOk_some, List.cons_prefix_cons, List.nil_prefix, List.drop_succ_cons, List.drop_zero, List.all_cons, List.all_nil, Bool.and_true, true_and, and_true, hv.len, c0] <;> rfl
  | e + 1, k, m + 1, hk, hm => by
    have ih := much_loop (q := q) hv hn h62 e (k + 1) m (by omega) (by omega)
    have c0 : (k : Int) < nv := by omega
    have hlen := hv.len
    obtain ⟨id, off, ev, hid, k1, k2⟩ := hv.sl (by omega)
    have eb : aiAddrL 2 v (.c (.i .i64 (k : Int))) = some (.c (.p id (off + k * 2))) := by rw [ev, iAddrL_of (by omega)]
    have g1 := k1 (k * 2) _ (entsC_name (by omega))
    have w1 := wi_succ (show k + 1 < 9223372036854775808 by omega)
    rw [escheatref18_Much_l0_eq, List.drop_eq_getElem_cons (by omega : k < l.length), show longN (l[k] :: l.drop (k + 1)) = (decide ((60 : Int) < (l[k].1.length : Int)) || longN (l.drop (k + 1))) from rfl, ← entK_get (by omega)]
    by_cases c : (60 : Int) < ((entK l k).1.length : Int)
    · rw [decide_eq_true c, Bool.true_or]
      simp only [afAddr_p, List.append_nil, if_true, if_false, bnd_some, mp_some, cnd_t, cnd_f, gd_no, gd_tt, gd_tf, gd_ft, gd_ff, alenS_s, alen_sl, alen_ns, abin_add, abin_sub, abin_mul, abin_eql, abin_neq, abin_lss, abin_leq, abin_gtr, abin_geq, abin_seql, abin_sneq, abin_slss, aun_not, aun_neg, agn_some, aeqN_nf, aeqN_f, aeqN_np, aeqN_p, anilc_p, aeqB_t, aeqB_f, aconv_i, apick_b, cond_true, cond_false, decide_true, decide_false, Bool.not_true, Bool.not_false, aext_t, ofPart_c, ofPart_a, part?_c, part?_a, cells?_c, cells?_a, tupN_2, tupN_3, Option.map_some, Option.some.injEq, List.getElem?_cons_zero, List.getElem?_cons_succ, not_true_eq_false, not_false_eq_true, quiet_same, bytesI_length, Option.join_some, List.append_assoc, List.cons_append, List.nil_append, List.length_append, List.length_cons, List.length_nil, Nat.zero_add, Nat.add_zero, rd_at, rd_at0, set_at, set_at0, List.set_cons_zero, List.set_cons_succ, ne_eq, decide_not, quiet_ext, newOk_some, List.cons_prefix_cons, List.nil_prefix, List.drop_succ_cons, List.drop_zero, List.all_cons, List.all_nil, Bool.and_true, true_and, and_true, hlen, c0, eb, g1, c]
    · rw [decide_eq_false c, Bool.false_or]
      simp only [afAddr_p, List.append_nil, if_true, if_false, bnd_some, mp_some, cnd_t, cnd_f, gd_no, gd_tt, gd_tf, gd_ft, gd_ff, alenS_s, alen_sl, alen_ns, abin_add, abin_sub, abin_mul, abin_eql, abin_neq, abin_lss, abin_leq, abin_gtr, abin_geq, abin_seql, abin_sneq, abin_slss, aun_not, aun_neg, agn_some, aeqN_nf, aeqN_f, aeqN_np, aeqN_p, anilc_p, aeqB_t, aeqB_f, aconv_i, apick_b, cond_true, cond_false, decide_true, decide_false, Bool.not_true, Bool.not_false, aext_t, ofPart_c, ofPart_a, part?_c, part?_a, cells?_c, cells?_a, tupN_2, tupN_3, Option.map_some, Option.some.injEq, List.getElem?_cons_zero, List.getElem?_cons_succ, not_true_eq_false, not_false_eq_true, quiet_same, bytesI_length, Option.join_some, List.append_assoc, List.cons_append, List.nil_append, List.length_append, List.length_cons, List.length_nil, Nat.zero_add, Nat.add_zero, rd_at, rd_at0, set_at, set_at0, List.set_cons_zero, List.set_cons_succ, ne_eq, decide_not, quiet_ext, newOk_some, List.cons_prefix_cons, List.nil_prefix, List.drop_succ_cons, List.drop_zero, List.all_cons, List.all_nil, Bool.and_true, true_and, and_true, hlen, c0, eb, g1, c, w1]
      exact ih
theorem ref18_Much_eq {v : Val} {nv : Nat} {M : Int} {l : List Ent} {h : Heap} (hv : Has h v 2 nv (entsC l)) (hM : M < 4611686018427387904) : S_escheatref18_Much [v, .c (.i .i64 M)] h = some (.c (.b (decide (M < (nv : Int)) || longN l)), h) := by
  have hn : l.length = nv := by have := hv.length; rw [entsC_length] at this; omega
  have key : ∃ n g', R_escheatref18_Much n [v, .c (.i .i64 M)] (ro h) = some (.c (.b (decide (M < (nv : Int)) || longN l)), g') := by
    have hl := hv.ro.len
    by_cases c : M < (nv : Int)
    · rw [decide_eq_true c, Bool.true_or]
      exact ⟨0, _, by rw [R_escheatref18_Much_eq]; simp only [afAddr_p, List.append_nil, if_true, if_false, bnd_some, mp_some, cnd_t, cnd_f, gd_no, gd_tt, gd_tf, gd_ft, gd_ff, alenS_s, alen_sl, alen_ns, abin_add, abin_sub, abin_mul, abin_eql, abin_neq, abin_lss, abin_leq, abin_gtr, abin_geq, abin_seql, abin_sneq, abin_slss, aun_not, aun_neg, agn_some, aeqN_nf, aeqN_f, aeqN_np, aeqN_p, anilc_p, aeqB_t, aeqB_f, aconv_i, apick_b, cond_true, cond_false, decide_true, decide_false, Bool.not_true, Bool.not_false, aext_t, ofPart_c, ofPart_a, part?_c, part?_a, cells?_c, cells?_a, tupN_2, tupN_3, Option.map_some, Option.some.injEq, List.getElem?_cons_zero, List.getElem?_cons_succ, not_true_eq_false, not_false_eq_true, quiet_same, bytesI_length, Option.join_some, List.append_assoc, List.cons_append, List.nil_append, List.length_append, List.length_cons, List.length_nil, Nat.zero_add, Nat.add_zero, rd_at, rd_at0, set_at, set_at0, List.set_cons_zero, List.set_cons_succ, ne_eq, decide_not, quiet_ext, newOk_some, List.cons_prefix_cons, List.nil_prefix, List.drop_succ_cons, List.drop_zero, List.all_cons, List.all_nil, Bool.and_true, true_and, and_true, hl, c] <;> rfl⟩
    · have e := much_loop (q := nv + 1) hv.ro hn (by omega) nv 0 (nv + 1) (by omega) (by omega)
      rw [List.drop_zero] at e
      rw [decide_eq_false c, Bool.false_or]
      exact ⟨nv + 1, _, by rw [R_escheatref18_Much_eq]; simp only [afAddr_p, List.append_nil, if_true, if_false, bnd_some, mp_some, cnd_t, cnd_f, gd_no, gd_tt, gd_tf, gd_ft, gd_ff, alenS_s, alen_sl, alen_ns, abin_add, abin_sub, abin_mul, abin_eql, abin_neq, abin_lss, abin_leq, abin_gtr, abin_geq, abin_seql, abin_sneq, abin_slss, aun_not, aun_neg, agn_some, aeqN_nf, aeqN_f, aeqN_np, aeqN_p, anilc_p, aeqB_t, aeqB_f, aconv_i, apick_b, cond_true, cond_false, decide_true, decide_false, Bool.not_true, Bool.not_false, aext_t, ofPart_c, ofPart_a, part?_c, part?_a, cells?_c, cells?_a, tupN_2, tupN_3, Option.map_some, Option.some.injEq, List.getElem?_cons_zero, List.getElem?_cons_succ, not_true_eq_false, not_false_eq_true, quiet_same, bytesI_length, Option.join_some, List.append_assoc, List.cons_append, List.nil_append, List.length_append, List.length_cons, List.length_nil, Nat.zero_add, Nat.add_zero, rd_at, rd_at0, set_at, set_at0, List.set_cons_zero, List.set_cons_succ, ne_eq, decide_not, quiet_ext, newOk_some, List.cons_prefix_cons, List.nil_prefix, List.drop_succ_cons, List.drop_zero, List.all_cons, List.all_nil, Bool.and_true, true_and, and_true, hl, c]; exact e⟩
  obtain ⟨n, g', e⟩ := key
  exact S_escheatref18_Much_flat e rfl

end Go.Proofs.Ytbbkpmbepljhkaa
