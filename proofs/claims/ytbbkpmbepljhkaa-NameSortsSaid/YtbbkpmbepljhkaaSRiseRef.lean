/- Whether a list rises, as the document asks it. -/
import Derived.Test.YtbbkpmbepljhkaaSLong
set_option linter.all false
namespace Go.Proofs.Ytbbkpmbepljhkaa
open Go Go.Esc

def riseB : List (List UInt8) → Bool
  | x :: y :: r => bless x y && riseB (y :: r)
  | _ => true

theorem riseB_pairwise : ∀ l : List (List UInt8), riseB l = true → l.Pairwise fun a b => bless a b = true
  | [], _ => List.Pairwise.nil
  | [x], _ => by simp
  | x :: y :: r, h => by
    simp only [riseB, Bool.and_eq_true] at h
    have ih := riseB_pairwise (y :: r) h.2
    rw [List.pairwise_cons]
    refine ⟨fun z hz => ?_, ih⟩
    rcases List.mem_cons.1 hz with e | hz
    · subst e; exact h.1
    · exact bless_tr h.1 ((List.pairwise_cons.1 ih).1 z hz)

theorem rise_loop {v : Val} {nv q : Nat} {l : List (List UInt8)} {h : Heap} (hv : Has h v 1 nv (encS l)) (hn : l.length = nv) (h62 : nv < 4611686018427387904) (hb : ∀ x ∈ l, x.length < 9223372036854775807) : ∀ e i m : Nat, i + 1 + e = nv → e < m →
    escheatref03_Rise_l0 q m v (.c (.i .i64 ((i + 1 : Nat) : Int))) h = some (.c (.b (riseB (l.drop i))), h)
  | e, i, 0, _, hm => by omega
  | 0, i, m + 1, hi, hm => by
    have c0 : ¬ ((i + 1 : Nat) : Int) < nv := by omega
    have hlen := hv.len
    have ed : riseB (l.drop i) = true := by
      rw [List.drop_eq_getElem_cons (by omega : i < l.length), List.drop_of_length_le (by omega)]; rfl
    rw [escheatref03_Rise_l0_eq, ed]
    simp only [afAddr_p, List.append_nil, if_true, if_false, bnd_some, mp_some, cnd_t, cnd_f, gd_no, gd_tt, gd_tf, gd_ft, gd_ff, alenS_s, alen_sl, alen_ns, abin_add, abin_sub, abin_mul, abin_eql, abin_neq, abin_lss, abin_leq, abin_gtr, abin_geq, abin_seql, abin_sneq, abin_slss, aun_not, aun_neg, aeqB_t, aeqB_f, aconv_i, apick_b, cond_true, cond_false, decide_true, decide_false, Bool.not_true, Bool.not_false, aext_t, ofPart_c, ofPart_a, part?_c, part?_a, cells?_c, cells?_a, tupN_2, tupN_3, Option.map_some, Option.some.injEq, List.getElem?_cons_zero, List.getElem?_cons_succ, not_true_eq_false, not_false_eq_true, quiet_same, bytesI_length, Option.join_some, List.append_assoc, List.cons_append, List.nil_append, List.length_append, List.length_cons, List.length_nil, Nat.zero_add, Nat.add_zero, rd_at, rd_at0, set_at, set_at0, List.set_cons_zero, List.set_cons_succ, ne_eq, decide_not, quiet_ext, newOk_some, List.cons_prefix_cons, List.nil_prefix, List.drop_succ_cons, List.drop_zero, List.all_cons, List.all_nil, Bool.and_true, true_and, and_true, hlen, c0]
  | e + 1, i, m + 1, hi, hm => by
    have ih := rise_loop (q := q) hv hn h62 hb e (i + 1) m (by omega) (by omega)
    have hlen := hv.len
    have c0 : ((i + 1 : Nat) : Int) < nv := by omega
    obtain ⟨id, off, ev, hid, k1, k2⟩ := hv.sl (by omega)
    have w1 : IntKind.wrap .i64 (((i + 1 : Nat) : Int) - 1) = (i : Int) := by rw [wrap_i64 (by omega) (by omega)]; omega
    have hx := k1 i (.s l[i]) (by rw [encS_get, List.getElem?_eq_getElem (by omega)]; rfl)
    have eb : aiAddrL 1 v (.c (.i .i64 (i : Int))) = some (.c (.p id (off + i))) := by rw [ev, iAddrL_of (by omega)]; simp
    have hy := k1 (i + 1) (.s l[i + 1]) (by rw [encS_get, List.getElem?_eq_getElem (by omega)]; rfl)
    have ec : aiAddrL 1 v (.c (.i .i64 ((i + 1 : Nat) : Int))) = some (.c (.p id (off + (i + 1)))) := by rw [ev, iAddrL_of (by omega)]; simp
    have hL := fun h => refless_eq (s := l[i]) (t := l[i + 1]) (hb _ (List.getElem_mem (by omega))) h
    have ed : riseB (l.drop i) = (bless l[i] l[i + 1] && riseB (l.drop (i + 1))) := by
      rw [List.drop_eq_getElem_cons (by omega : i < l.length), List.drop_eq_getElem_cons (by omega : i + 1 < l.length)]; rfl
    rw [ed, escheatref03_Rise_l0_eq]
    cases cb : bless l[i] l[i + 1] with
    | false =>
      rw [cb] at hL
      rw [Bool.false_and]
      simp only [afAddr_p, List.append_nil, if_true, if_false, bnd_some, mp_some, cnd_t, cnd_f, gd_no, gd_tt, gd_tf, gd_ft, gd_ff, alenS_s, alen_sl, alen_ns, abin_add, abin_sub, abin_mul, abin_eql, abin_neq, abin_lss, abin_leq, abin_gtr, abin_geq, abin_seql, abin_sneq, abin_slss, aun_not, aun_neg, aeqB_t, aeqB_f, aconv_i, apick_b, cond_true, cond_false, decide_true, decide_false, Bool.not_true, Bool.not_false, aext_t, ofPart_c, ofPart_a, part?_c, part?_a, cells?_c, cells?_a, tupN_2, tupN_3, Option.map_some, Option.some.injEq, List.getElem?_cons_zero, List.getElem?_cons_succ, not_true_eq_false, not_false_eq_true, quiet_same, bytesI_length, Option.join_some, List.append_assoc, List.cons_append, List.nil_append, List.length_append, List.length_cons, List.length_nil, Nat.zero_add, Nat.add_zero, rd_at, rd_at0, set_at, set_at0, List.set_cons_zero, List.set_cons_succ, ne_eq, decide_not, quiet_ext, newOk_some, List.cons_prefix_cons, List.nil_prefix, List.drop_succ_cons, List.drop_zero, List.all_cons, List.all_nil, Bool.and_true, true_and, and_true, hlen, c0, w1, eb, hx, ec, hy, hL]
    | true =>
      rw [cb] at hL
      rw [Bool.true_and]
      simp only [afAddr_p, List.append_nil, if_true, if_false, bnd_some, mp_some, cnd_t, cnd_f, gd_no, gd_tt, gd_tf, gd_ft, gd_ff, alenS_s, alen_sl, alen_ns, abin_add, abin_sub, abin_mul, abin_eql, abin_neq, abin_lss, abin_leq, abin_gtr, abin_geq, abin_seql, abin_sneq, abin_slss, aun_not, aun_neg, aeqB_t, aeqB_f, aconv_i, apick_b, cond_true, cond_false, decide_true, decide_false, Bool.not_true, Bool.not_false, aext_t, ofPart_c, ofPart_a, part?_c, part?_a, cells?_c, cells?_a, tupN_2, tupN_3, Option.map_some, Option.some.injEq, List.getElem?_cons_zero, List.getElem?_cons_succ, not_true_eq_false, not_false_eq_true, quiet_same, bytesI_length, Option.join_some, List.append_assoc, List.cons_append, List.nil_append, List.length_append, List.length_cons, List.length_nil, Nat.zero_add, Nat.add_zero, rd_at, rd_at0, set_at, set_at0, List.set_cons_zero, List.set_cons_succ, ne_eq, decide_not, quiet_ext, newOk_some, List.cons_prefix_cons, List.nil_prefix, List.drop_succ_cons, List.drop_zero, List.all_cons, List.all_nil, Bool.and_true, true_and, and_true, hlen, c0, w1, eb, hx, ec, hy, hL, wi_succ (show i + 1 + 1 < 9223372036854775808 by omega)]
      exact ih

theorem ref03_Rise_eq {v : Val} {nv : Nat} {l : List (List UInt8)} {h : Heap} (hv : Has h v 1 nv (encS l)) (h62 : nv < 4611686018427387904) (hb : ∀ x ∈ l, x.length < 9223372036854775807) :
    S_escheatref03_Rise [v] h = some (.c (.b (riseB l)), h) := by
  have hn : l.length = nv := by simpa [encS_length] using hv.length
  have key : ∀ N, nv < N → ∀ g, Has g v 1 nv (encS l) → ∃ g', R_escheatref03_Rise N [v] g = some (.c (.b (riseB l)), g') := by
    intro N hN g hv
    rw [R_escheatref03_Rise_eq]
    cases nv with
    | zero =>
      obtain ⟨M, rfl⟩ : ∃ M, N = M + 1 := ⟨N - 1, by omega⟩
      have hlen := hv.len
      have el : l = [] := List.eq_nil_of_length_eq_zero hn
      subst el
      rw [escheatref03_Rise_l0_eq]
      have c0 : ¬ (1 : Int) < ((0 : Nat) : Int) := by omega
      exact ⟨_, by simp only [afAddr_p, List.append_nil, if_true, if_false, bnd_some, mp_some, cnd_t, cnd_f, gd_no, gd_tt, gd_tf, gd_ft, gd_ff, alenS_s, alen_sl, alen_ns, abin_add, abin_sub, abin_mul, abin_eql, abin_neq, abin_lss, abin_leq, abin_gtr, abin_geq, abin_seql, abin_sneq, abin_slss, aun_not, aun_neg, aeqB_t, aeqB_f, aconv_i, apick_b, cond_true, cond_false, decide_true, decide_false, Bool.not_true, Bool.not_false, aext_t, ofPart_c, ofPart_a, part?_c, part?_a, cells?_c, cells?_a, tupN_2, tupN_3, Option.map_some, Option.some.injEq, List.getElem?_cons_zero, List.getElem?_cons_succ, not_true_eq_false, not_false_eq_true, quiet_same, bytesI_length, Option.join_some, List.append_assoc, List.cons_append, List.nil_append, List.length_append, List.length_cons, List.length_nil, Nat.zero_add, Nat.add_zero, rd_at, rd_at0, set_at, set_at0, List.set_cons_zero, List.set_cons_succ, ne_eq, decide_not, quiet_ext, newOk_some, List.cons_prefix_cons, List.nil_prefix, List.drop_succ_cons, List.drop_zero, List.all_cons, List.all_nil, Bool.and_true, true_and, and_true, hlen, c0] <;> rfl⟩
    | succ k =>
      have e := rise_loop (q := N) hv hn h62 hb k 0 N (by omega) (by omega)
      rw [List.drop_zero] at e
      exact ⟨_, e⟩
  obtain ⟨g', e⟩ := key (nv + 1) (by omega) (ro h) hv.ro
  exact S_escheatref03_Rise_flat e rfl

end Go.Proofs.Ytbbkpmbepljhkaa
