/- The document's place of a text, and whether a list rises; whether there are too many texts. -/
import Derived.Test.YtbbkpmbepljhkaaSTexts
import Derived.Test.YtbbkpmbepljhkaaGEscheatref03
set_option linter.all false
namespace Go.Proofs.Ytbbkpmbepljhkaa
open Go Go.Esc

theorem fewer_loop {v : Val} {nv q : Nat} {l : List (List UInt8)} {s : List UInt8} {h : Heap} (hv : Has h v 1 nv (encS l)) (hn : l.length = nv) (h62 : nv < 4611686018427387904) (hb : ∀ x ∈ l, x.length < 9223372036854775807) : ∀ e i m : Nat, i + e = nv → e < m →
    escheatref03_Fewer_l0 q m v (.c (.s s)) (.c (.i .i64 (fewS (l.take i) s : Nat))) (.c (.b (decide (s ∈ l.take i)))) (.c (.i .i64 i)) h = some (.t [.c (.i .i64 (fewS l s : Nat)), .c (.b (decide (s ∈ l)))], h)
  | e, i, 0, _, hm => by omega
  | 0, i, m + 1, hi, hm => by
    have e0 : i = nv := by omega
    subst e0
    have c0 : ¬ (i : Int) < i := by omega
    have hlen := hv.len
    rw [escheatref03_Fewer_l0_eq, List.take_of_length_le (by omega)]
    simp only [afAddr_p, List.append_nil, if_true, if_false, bnd_some, mp_some, cnd_t, cnd_f, gd_no, gd_tt, gd_tf, gd_ft, gd_ff, alenS_s, alen_sl, alen_ns, abin_add, abin_sub, abin_mul, abin_eql, abin_neq, abin_lss, abin_leq, abin_gtr, abin_geq, abin_seql, abin_sneq, abin_slss, aun_not, aun_neg, aeqB_t, aeqB_f, aconv_i, apick_b, cond_true, cond_false, decide_true, decide_false, Bool.not_true, Bool.not_false, aext_t, ofPart_c, ofPart_a, part?_c, part?_a, cells?_c, cells?_a, tupN_2, tupN_3, Option.map_some, Option.some.injEq, List.getElem?_cons_zero, List.getElem?_cons_succ, not_true_eq_false, not_false_eq_true, quiet_same, bytesI_length, Option.join_some, List.append_assoc, List.cons_append, List.nil_append, List.length_append, List.length_cons, List.length_nil, Nat.zero_add, Nat.add_zero, rd_at, rd_at0, set_at, set_at0, List.set_cons_zero, List.set_cons_succ, ne_eq, decide_not, quiet_ext, newOk_some, List.cons_prefix_cons, List.nil_prefix, List.drop_succ_cons, List.drop_zero, List.all_cons, List.all_nil, Bool.and_true, true_and, and_true, hlen, c0]
  | e + 1, i, m + 1, hi, hm => by
    have ih := fewer_loop (q := q) (s := s) hv hn h62 hb e (i + 1) m (by omega) (by omega)
    have hlen := hv.len
    have c0 : (i : Int) < nv := by omega
    obtain ⟨id, off, ev, hid, k1, k2⟩ := hv.sl (by omega)
    have hx := k1 i (.s l[i]) (by rw [encS_get, List.getElem?_eq_getElem (by omega)]; rfl)
    have eb : aiAddrL 1 v (.c (.i .i64 (i : Int))) = some (.c (.p id (off + i))) := by rw [ev, iAddrL_of (by omega)]; simp
    have hL := fun h => refless_eq (s := l[i]) (t := s) (hb _ (List.getElem_mem (by omega))) h
    have et : l.take (i + 1) = l.take i ++ [l[i]] := List.take_succ_eq_append_getElem (by omega)
    have ef : fewS (l.take (i + 1)) s = fewS (l.take i) s + (if bless l[i] s = true then 1 else 0) := by
      rw [et]; unfold fewS
      rw [List.filter_append, List.length_append, List.filter_cons]
      split <;> rfl
    have em : decide (s ∈ l.take (i + 1)) = (decide (s ∈ l.take i) || decide (l[i] = s)) := by
      rw [et]
      by_cases c : s ∈ l.take i
      · rw [decide_eq_true c, Bool.true_or, decide_eq_true (List.mem_append_left _ c)]
      · have e3 : (s ∈ l.take i ++ [l[i]]) ↔ l[i] = s := by
          rw [List.mem_append, List.mem_singleton]
          exact ⟨fun h => by rcases h with h | h; exact absurd h c; exact h.symm, fun h => .inr h.symm⟩
        rw [decide_eq_false c, Bool.false_or]
        exact decide_eq_decide.2 e3
    have hfl : fewS (l.take i) s ≤ i := by
      unfold fewS
      exact Nat.le_trans (List.length_filter_le _ _) (by rw [List.length_take]; omega)
    rw [ef, em] at ih
    rw [escheatref03_Fewer_l0_eq]
    generalize fewS (l.take i) s = F at *
    cases cb : bless l[i] s with
    | true =>
      rw [cb] at hL ih
      rw [if_pos rfl] at ih
      cases cm : decide (s ∈ l.take i) with
      | true =>
        rw [cm, Bool.true_or] at ih
        simp only [afAddr_p, List.append_nil, if_true, if_false, bnd_some, mp_some, cnd_t, cnd_f, gd_no, gd_tt, gd_tf, gd_ft, gd_ff, alenS_s, alen_sl, alen_ns, abin_add, abin_sub, abin_mul, abin_eql, abin_neq, abin_lss, abin_leq, abin_gtr, abin_geq, abin_seql, abin_sneq, abin_slss, aun_not, aun_neg, aeqB_t, aeqB_f, aconv_i, apick_b, cond_true, cond_false, decide_true, decide_false, Bool.not_true, Bool.not_false, aext_t, ofPart_c, ofPart_a, part?_c, part?_a, cells?_c, cells?_a, tupN_2, tupN_3, Option.map_some, Option.some.injEq, List.getElem?_cons_zero, List.getElem?_cons_succ, not_true_eq_false, not_false_eq_true, quiet_same, bytesI_length, Option.join_some, List.append_assoc, List.cons_append, List.nil_append, List.length_append, List.length_cons, List.length_nil, Nat.zero_add, Nat.add_zero, rd_at, rd_at0, set_at, set_at0, List.set_cons_zero, List.set_cons_succ, ne_eq, decide_not, quiet_ext, newOk_some, List.cons_prefix_cons, List.nil_prefix, List.drop_succ_cons, List.drop_zero, List.all_cons, List.all_nil, Bool.and_true, true_and, and_true, hlen, c0, eb, hx, hL, escheatref03_Fewer_j0_eq, wi_succ (show F + 1 < 9223372036854775808 by omega), wi_succ (show i + 1 < 9223372036854775808 by omega)]
        exact ih
      | false =>
        rw [cm, Bool.false_or] at ih
        simp only [afAddr_p, List.append_nil, if_true, if_false, bnd_some, mp_some, cnd_t, cnd_f, gd_no, gd_tt, gd_tf, gd_ft, gd_ff, alenS_s, alen_sl, alen_ns, abin_add, abin_sub, abin_mul, abin_eql, abin_neq, abin_lss, abin_leq, abin_gtr, abin_geq, abin_seql, abin_sneq, abin_slss, aun_not, aun_neg, aeqB_t, aeqB_f, aconv_i, apick_b, cond_true, cond_false, decide_true, decide_false, Bool.not_true, Bool.not_false, aext_t, ofPart_c, ofPart_a, part?_c, part?_a, cells?_c, cells?_a, tupN_2, tupN_3, Option.map_some, Option.some.injEq, List.getElem?_cons_zero, List.getElem?_cons_succ, not_true_eq_false, not_false_eq_true, quiet_same, bytesI_length, Option.join_some, List.append_assoc, List.cons_append, List.nil_append, List.length_append, List.length_cons, List.length_nil, Nat.zero_add, Nat.add_zero, rd_at, rd_at0, set_at, set_at0, List.set_cons_zero, List.set_cons_succ, ne_eq, decide_not, quiet_ext, newOk_some, List.cons_prefix_cons, List.nil_prefix, List.drop_succ_cons, List.drop_zero, List.all_cons, List.all_nil, Bool.and_true, true_and, and_true, hlen, c0, eb, hx, hL, escheatref03_Fewer_j0_eq, wi_succ (show F + 1 < 9223372036854775808 by omega), wi_succ (show i + 1 < 9223372036854775808 by omega)]
        exact ih
    | false =>
      rw [cb] at hL ih
      rw [if_neg (by simp), Nat.add_zero] at ih
      cases cm : decide (s ∈ l.take i) with
      | true =>
        rw [cm, Bool.true_or] at ih
        simp only [afAddr_p, List.append_nil, if_true, if_false, bnd_some, mp_some, cnd_t, cnd_f, gd_no, gd_tt, gd_tf, gd_ft, gd_ff, alenS_s, alen_sl, alen_ns, abin_add, abin_sub, abin_mul, abin_eql, abin_neq, abin_lss, abin_leq, abin_gtr, abin_geq, abin_seql, abin_sneq, abin_slss, aun_not, aun_neg, aeqB_t, aeqB_f, aconv_i, apick_b, cond_true, cond_false, decide_true, decide_false, Bool.not_true, Bool.not_false, aext_t, ofPart_c, ofPart_a, part?_c, part?_a, cells?_c, cells?_a, tupN_2, tupN_3, Option.map_some, Option.some.injEq, List.getElem?_cons_zero, List.getElem?_cons_succ, not_true_eq_false, not_false_eq_true, quiet_same, bytesI_length, Option.join_some, List.append_assoc, List.cons_append, List.nil_append, List.length_append, List.length_cons, List.length_nil, Nat.zero_add, Nat.add_zero, rd_at, rd_at0, set_at, set_at0, List.set_cons_zero, List.set_cons_succ, ne_eq, decide_not, quiet_ext, newOk_some, List.cons_prefix_cons, List.nil_prefix, List.drop_succ_cons, List.drop_zero, List.all_cons, List.all_nil, Bool.and_true, true_and, and_true, hlen, c0, eb, hx, hL, escheatref03_Fewer_j0_eq, wi_succ (show i + 1 < 9223372036854775808 by omega)]
        exact ih
      | false =>
        rw [cm, Bool.false_or] at ih
        simp only [afAddr_p, List.append_nil, if_true, if_false, bnd_some, mp_some, cnd_t, cnd_f, gd_no, gd_tt, gd_tf, gd_ft, gd_ff, alenS_s, alen_sl, alen_ns, abin_add, abin_sub, abin_mul, abin_eql, abin_neq, abin_lss, abin_leq, abin_gtr, abin_geq, abin_seql, abin_sneq, abin_slss, aun_not, aun_neg, aeqB_t, aeqB_f, aconv_i, apick_b, cond_true, cond_false, decide_true, decide_false, Bool.not_true, Bool.not_false, aext_t, ofPart_c, ofPart_a, part?_c, part?_a, cells?_c, cells?_a, tupN_2, tupN_3, Option.map_some, Option.some.injEq, List.getElem?_cons_zero, List.getElem?_cons_succ, not_true_eq_false, not_false_eq_true, quiet_same, bytesI_length, Option.join_some, List.append_assoc, List.cons_append, List.nil_append, List.length_append, List.length_cons, List.length_nil, Nat.zero_add, Nat.add_zero, rd_at, rd_at0, set_at, set_at0, List.set_cons_zero, List.set_cons_succ, ne_eq, decide_not, quiet_ext, newOk_some, List.cons_prefix_cons, List.nil_prefix, List.drop_succ_cons, List.drop_zero, List.all_cons, List.all_nil, Bool.and_true, true_and, and_true, hlen, c0, eb, hx, hL, escheatref03_Fewer_j0_eq, wi_succ (show i + 1 < 9223372036854775808 by omega)]
        exact ih

theorem ref03_Fewer_eq {v : Val} {nv : Nat} {l : List (List UInt8)} {s : List UInt8} {h : Heap} (hv : Has h v 1 nv (encS l)) (h62 : nv < 4611686018427387904) (hb : ∀ x ∈ l, x.length < 9223372036854775807) :
    S_escheatref03_Fewer [v, .c (.s s)] h = some (.t [.c (.i .i64 (fewS l s : Nat)), .c (.b (decide (s ∈ l)))], h) := by
  have hn : l.length = nv := by simpa [encS_length] using hv.length
  have key : ∀ N, nv < N → ∀ g, Has g v 1 nv (encS l) → ∃ g', R_escheatref03_Fewer N [v, .c (.s s)] g = some (.t [.c (.i .i64 (fewS l s : Nat)), .c (.b (decide (s ∈ l)))], g') := by
    intro N hN g hv
    have e := fewer_loop (q := N) (s := s) hv hn h62 hb nv 0 N (by omega) hN
    rw [List.take_zero, show decide (s ∈ ([] : List (List UInt8))) = false from by simp, show fewS [] s = 0 from rfl] at e
    rw [R_escheatref03_Fewer_eq]
    exact ⟨_, e⟩
  obtain ⟨g', e⟩ := key (nv + 1) (by omega) (ro h) hv.ro
  exact S_escheatref03_Fewer_flat e rfl

end Go.Proofs.Ytbbkpmbepljhkaa
