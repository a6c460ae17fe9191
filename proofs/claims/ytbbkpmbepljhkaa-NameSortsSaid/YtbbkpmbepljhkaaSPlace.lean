/- The place of a text in a list: the code's search by halves. -/
import Derived.Test.YtbbkpmbepljhkaaSBless
import Derived.Test.YtbbkpmbepljhkaaSName
set_option linter.all false
namespace Go.Proofs.Ytbbkpmbepljhkaa
open Go Go.Esc

/-- The search, at most so many steps. -/
def plc (l : List (List UInt8)) (s : List UInt8) : Nat → Nat → Nat → Nat
  | 0, lo, _ => lo
  | f + 1, lo, hi => if lo < hi then (if bless (l.getD (lo + (hi - lo) / 2) []) s then plc l s f (lo + (hi - lo) / 2 + 1) hi else plc l s f lo (lo + (hi - lo) / 2)) else lo

theorem plc_le (l : List (List UInt8)) (s : List UInt8) : ∀ f lo hi, lo ≤ hi → plc l s f lo hi ≤ hi
  | 0, lo, hi, h => h
  | f + 1, lo, hi, h => by
    unfold plc
    split
    · split
      · exact plc_le l s f _ hi (by omega)
      · exact Nat.le_trans (plc_le l s f lo _ (by omega)) (by omega)
    · exact h

/-- In a list that rises: what lies ahead is less, what lies behind is not. -/
theorem plc_rise {l : List (List UInt8)} {s : List UInt8} (hl : l.Pairwise fun a b => bless a b = true) : ∀ f lo hi, lo ≤ hi → hi ≤ l.length → hi - lo ≤ f → (∀ i x, i < lo → l[i]? = some x → bless x s = true) → (∀ i x, hi ≤ i → l[i]? = some x → bless x s = false) →
    (∀ i x, i < plc l s f lo hi → l[i]? = some x → bless x s = true) ∧ (∀ i x, plc l s f lo hi ≤ i → l[i]? = some x → bless x s = false)
  | 0, lo, hi, h, _, hf, h1, h2 => by
    have : hi = lo := by omega
    subst this
    exact ⟨h1, h2⟩
  | f + 1, lo, hi, h, hh, hf, h1, h2 => by
    unfold plc
    by_cases c : lo < hi
    · rw [if_pos c]
      have hm : lo + (hi - lo) / 2 < hi := by omega
      have hlo : lo ≤ lo + (hi - lo) / 2 := by omega
      generalize lo + (hi - lo) / 2 = mid at *
      have hg : l[mid]? = some (l.getD mid []) := by rw [List.getD_eq_getElem?_getD, List.getElem?_eq_getElem (by omega)]; rfl
      have mono : ∀ (i j : Nat) (x y : List UInt8), i < j → l[i]? = some x → l[j]? = some y → bless x y = true := by
        intro i j x y hij hi hj
        rw [List.pairwise_iff_getElem] at hl
        obtain ⟨a, rfl⟩ := List.getElem?_eq_some_iff.1 hi
        obtain ⟨b, rfl⟩ := List.getElem?_eq_some_iff.1 hj
        exact hl i j a b hij
      cases cb : bless (l.getD mid []) s with
      | true =>
        rw [if_pos rfl]
        refine plc_rise hl f (mid + 1) hi (by omega) hh (by omega) (fun i x hi hx => ?_) h2
        by_cases e : i = mid
        · subst e
          rw [hg] at hx
          rw [← Option.some.inj hx]; exact cb
        · exact bless_tr (mono i mid x _ (by omega) hx hg) cb
      | false =>
        rw [if_neg (by simp)]
        refine plc_rise hl f lo mid (by omega) (by omega) (by omega) h1 (fun i x hi hx => ?_)
        by_cases e : i = mid
        · subst e
          rw [hg] at hx
          rw [← Option.some.inj hx]; exact cb
        · cases cx : bless x s with
          | false => rfl
          | true => rw [bless_tr (mono mid i _ x (by omega) hg hx) cx] at cb; exact cb
    · rw [if_neg c]
      have : hi = lo := by omega
      subst this
      exact ⟨h1, h2⟩

def isAt (l : List (List UInt8)) (s : List UInt8) (n : Nat) : Bool := decide (l[n]? = some s)

theorem encS_get (l : List (List UInt8)) (i : Nat) : (encS l)[i]? = (l[i]?).map fun x => .s x := by simp [encS]

theorem place_loop {v : Val} {nv q : Nat} {l : List (List UInt8)} {s : List UInt8} {h : Heap} (hv : Has h v 1 nv (encS l)) (hn : l.length = nv) (h62 : nv < 4611686018427387904) : ∀ f m lo hi : Nat, lo ≤ hi → hi ≤ nv → hi - lo ≤ f → f < m →
    name_Place_l0 q m v (.c (.s s)) (.c (.i .i64 lo)) (.c (.i .i64 hi)) h = some (.t [.c (.i .i64 (plc l s f lo hi : Nat)), .c (.b (isAt l s (plc l s f lo hi)))], h)
  | f, 0, lo, hi, _, _, _, hm => by omega
  | f, m + 1, lo, hi, h1, h2, hf, hm => by
    have hlen := hv.len
    have fin : lo = hi → name_Place_l0 q (m + 1) v (.c (.s s)) (.c (.i .i64 lo)) (.c (.i .i64 hi)) h = some (.t [.c (.i .i64 lo), .c (.b (isAt l s lo))], h) := by
      intro e
      subst e
      have c0 : ¬ (lo : Int) < lo := by omega
      rw [name_Place_l0_eq]
      unfold isAt
      by_cases c1 : lo < nv
      · have c1' : (lo : Int) < nv := by omega
        obtain ⟨id, off, ev, hid, k1, k2⟩ := hv.sl (by omega)
        have hx := k1 lo (.s l[lo]) (by rw [encS_get, List.getElem?_eq_getElem (by omega)]; rfl)
        have eb : aiAddrL 1 v (.c (.i .i64 (lo : Int))) = some (.c (.p id (off + lo))) := by rw [ev, iAddrL_of (by omega)]; simp
        have e2 : l[lo]? = some l[lo] := List.getElem?_eq_getElem (by omega)
        rw [e2]
        simp only [afAddr_p, List.append_nil, if_true, if_false, bnd_some, mp_some, cnd_t, cnd_f, gd_no, gd_tt, gd_tf, gd_ft, gd_ff, alenS_s, alen_sl, alen_ns, abin_add, abin_sub, abin_mul, abin_eql, abin_neq, abin_lss, abin_leq, abin_gtr, abin_geq, abin_seql, abin_sneq, abin_slss, aun_not, aun_neg, aeqB_t, aeqB_f, aconv_i, apick_b, cond_true, cond_false, decide_true, decide_false, Bool.not_true, Bool.not_false, aext_t, ofPart_c, ofPart_a, part?_c, part?_a, cells?_c, cells?_a, tupN_2, tupN_3, Option.map_some, Option.some.injEq, List.getElem?_cons_zero, List.getElem?_cons_succ, not_true_eq_false, not_false_eq_true, quiet_same, bytesI_length, Option.join_some, List.append_assoc, List.cons_append, List.nil_append, List.length_append, List.length_cons, List.length_nil, Nat.zero_add, Nat.add_zero, rd_at, rd_at0, set_at, set_at0, List.set_cons_zero, List.set_cons_succ, ne_eq, decide_not, quiet_ext, newOk_some, List.cons_prefix_cons, List.nil_prefix, List.drop_succ_cons, List.drop_zero, List.all_cons, List.all_nil, Bool.and_true, true_and, and_true, hlen, c0, c1', eb, hx]
      · have c1' : ¬ (lo : Int) < nv := by omega
        have e2 : l[lo]? = none := List.getElem?_eq_none (by omega)
        rw [e2]
        simp only [afAddr_p, List.append_nil, if_true, if_false, bnd_some, mp_some, cnd_t, cnd_f, gd_no, gd_tt, gd_tf, gd_ft, gd_ff, alenS_s, alen_sl, alen_ns, abin_add, abin_sub, abin_mul, abin_eql, abin_neq, abin_lss, abin_leq, abin_gtr, abin_geq, abin_seql, abin_sneq, abin_slss, aun_not, aun_neg, aeqB_t, aeqB_f, aconv_i, apick_b, cond_true, cond_false, decide_true, decide_false, Bool.not_true, Bool.not_false, aext_t, ofPart_c, ofPart_a, part?_c, part?_a, cells?_c, cells?_a, tupN_2, tupN_3, Option.map_some, Option.some.injEq, List.getElem?_cons_zero, List.getElem?_cons_succ, not_true_eq_false, not_false_eq_true, quiet_same, bytesI_length, Option.join_some, List.append_assoc, List.cons_append, List.nil_append, List.length_append, List.length_cons, List.length_nil, Nat.zero_add, Nat.add_zero, rd_at, rd_at0, set_at, set_at0, List.set_cons_zero, List.set_cons_succ, ne_eq, decide_not, quiet_ext, newOk_some, List.cons_prefix_cons, List.nil_prefix, List.drop_succ_cons, List.drop_zero, List.all_cons, List.all_nil, Bool.and_true, true_and, and_true, hlen, c0, c1', reduceCtorEq]
    cases f with
    | zero =>
      have e : lo = hi := by omega
      exact fin e
    | succ f =>
      unfold plc
      by_cases c : lo < hi
      · rw [if_pos c]
        have c' : (lo : Int) < hi := by omega
        obtain ⟨id, off, ev, hid, k1, k2⟩ := hv.sl (by omega)
        have w1 : IntKind.wrap .i64 ((hi : Int) - lo) = ((hi - lo : Nat) : Int) := by rw [wrap_i64 (by omega) (by omega)]; omega
        have w2 := quo_i64 (a := ((hi - lo : Nat) : Int)) (b := 2) (by omega) (by omega) (by omega)
        have w3 : ((hi - lo : Nat) : Int) / 2 = (((hi - lo) / 2 : Nat) : Int) := by omega
        rw [w3] at w2
        have w4 : IntKind.wrap .i64 ((lo : Int) + (((hi - lo) / 2 : Nat) : Int)) = ((lo + (hi - lo) / 2 : Nat) : Int) := wi_add (by omega)
        have hm1 : lo + (hi - lo) / 2 < hi := by omega
        have hm2 : lo ≤ lo + (hi - lo) / 2 := by omega
        generalize (hi - lo) / 2 = d at *
        generalize lo + d = mid at *
        have hx := k1 mid (.s l[mid]) (by rw [encS_get, List.getElem?_eq_getElem (by omega)]; rfl)
        have eb : aiAddrL 1 v (.c (.i .i64 (mid : Int))) = some (.c (.p id (off + mid))) := by rw [ev, iAddrL_of (by omega)]; simp
        have eg : l.getD mid [] = l[mid] := by rw [List.getD_eq_getElem?_getD, List.getElem?_eq_getElem (by omega)]; rfl
        rw [eg]
        have hL := fun h => name_Less_eq (a := l[mid]) (b := s) (h := h)
        rw [name_Place_l0_eq]
        cases cb : bless l[mid] s with
        | true =>
          rw [cb] at hL
          have ih := place_loop (q := q) (s := s) hv hn h62 f m (mid + 1) hi (by omega) h2 (by omega) (by omega)
          rw [if_pos rfl]
          simp only [afAddr_p, List.append_nil, if_true, if_false, bnd_some, mp_some, cnd_t, cnd_f, gd_no, gd_tt, gd_tf, gd_ft, gd_ff, alenS_s, alen_sl, alen_ns, abin_add, abin_sub, abin_mul, abin_eql, abin_neq, abin_lss, abin_leq, abin_gtr, abin_geq, abin_seql, abin_sneq, abin_slss, aun_not, aun_neg, aeqB_t, aeqB_f, aconv_i, apick_b, cond_true, cond_false, decide_true, decide_false, Bool.not_true, Bool.not_false, aext_t, ofPart_c, ofPart_a, part?_c, part?_a, cells?_c, cells?_a, tupN_2, tupN_3, Option.map_some, Option.some.injEq, List.getElem?_cons_zero, List.getElem?_cons_succ, not_true_eq_false, not_false_eq_true, quiet_same, bytesI_length, Option.join_some, List.append_assoc, List.cons_append, List.nil_append, List.length_append, List.length_cons, List.length_nil, Nat.zero_add, Nat.add_zero, rd_at, rd_at0, set_at, set_at0, List.set_cons_zero, List.set_cons_succ, ne_eq, decide_not, quiet_ext, newOk_some, List.cons_prefix_cons, List.nil_prefix, List.drop_succ_cons, List.drop_zero, List.all_cons, List.all_nil, Bool.and_true, true_and, and_true, hlen, c', w1, w2, w4, eb, hx, hL, wi_succ (show mid + 1 < 9223372036854775808 by omega)]
          exact ih
        | false =>
          rw [cb] at hL
          have ih := place_loop (q := q) (s := s) hv hn h62 f m lo mid hm2 (by omega) (by omega) (by omega)
          rw [if_neg (by simp)]
          simp only [afAddr_p, List.append_nil, if_true, if_false, bnd_some, mp_some, cnd_t, cnd_f, gd_no, gd_tt, gd_tf, gd_ft, gd_ff, alenS_s, alen_sl, alen_ns, abin_add, abin_sub, abin_mul, abin_eql, abin_neq, abin_lss, abin_leq, abin_gtr, abin_geq, abin_seql, abin_sneq, abin_slss, aun_not, aun_neg, aeqB_t, aeqB_f, aconv_i, apick_b, cond_true, cond_false, decide_true, decide_false, Bool.not_true, Bool.not_false, aext_t, ofPart_c, ofPart_a, part?_c, part?_a, cells?_c, cells?_a, tupN_2, tupN_3, Option.map_some, Option.some.injEq, List.getElem?_cons_zero, List.getElem?_cons_succ, not_true_eq_false, not_false_eq_true, quiet_same, bytesI_length, Option.join_some, List.append_assoc, List.cons_append, List.nil_append, List.length_append, List.length_cons, List.length_nil, Nat.zero_add, Nat.add_zero, rd_at, rd_at0, set_at, set_at0, List.set_cons_zero, List.set_cons_succ, ne_eq, decide_not, quiet_ext, newOk_some, List.cons_prefix_cons, List.nil_prefix, List.drop_succ_cons, List.drop_zero, List.all_cons, List.all_nil, Bool.and_true, true_and, and_true, hlen, c', w1, w2, w4, eb, hx, hL]
          exact ih
      · rw [if_neg c]
        exact fin (by omega)

theorem name_Place_eq {v : Val} {nv : Nat} {l : List (List UInt8)} {s : List UInt8} {h : Heap} (hv : Has h v 1 nv (encS l)) (h62 : nv < 4611686018427387904) :
    S_name_Place [v, .c (.s s)] h = some (.t [.c (.i .i64 (plc l s nv 0 nv : Nat)), .c (.b (isAt l s (plc l s nv 0 nv)))], h) := by
  have hn : l.length = nv := by simpa [encS_length] using hv.length
  have key : ∀ N, nv < N → ∀ g, Has g v 1 nv (encS l) → ∃ g', R_name_Place N [v, .c (.s s)] g = some (.t [.c (.i .i64 (plc l s nv 0 nv : Nat)), .c (.b (isAt l s (plc l s nv 0 nv)))], g') := by
    intro N hN g hv
    have e := place_loop (q := N) (s := s) hv hn h62 nv N 0 nv (by omega) (by omega) (by omega) hN
    rw [R_name_Place_eq]
    exact ⟨_, by simp only [afAddr_p, List.append_nil, if_true, if_false, bnd_some, mp_some, cnd_t, cnd_f, gd_no, gd_tt, gd_tf, gd_ft, gd_ff, alenS_s, alen_sl, alen_ns, abin_add, abin_sub, abin_mul, abin_eql, abin_neq, abin_lss, abin_leq, abin_gtr, abin_geq, abin_seql, abin_sneq, abin_slss, aun_not, aun_neg, aeqB_t, aeqB_f, aconv_i, apick_b, cond_true, cond_false, decide_true, decide_false, Bool.not_true, Bool.not_false, aext_t, ofPart_c, ofPart_a, part?_c, part?_a, cells?_c, cells?_a, tupN_2, tupN_3, Option.map_some, Option.some.injEq, List.getElem?_cons_zero, List.getElem?_cons_succ, not_true_eq_false, not_false_eq_true, quiet_same, bytesI_length, Option.join_some, List.append_assoc, List.cons_append, List.nil_append, List.length_append, List.length_cons, List.length_nil, Nat.zero_add, Nat.add_zero, rd_at, rd_at0, set_at, set_at0, List.set_cons_zero, List.set_cons_succ, ne_eq, decide_not, quiet_ext, newOk_some, List.cons_prefix_cons, List.nil_prefix, List.drop_succ_cons, List.drop_zero, List.all_cons, List.all_nil, Bool.and_true, true_and, and_true, hv.len]; exact e⟩
  obtain ⟨g', e⟩ := key (nv + 1) (by omega) (ro h) hv.ro
  exact S_name_Place_flat e rfl

end Go.Proofs.Ytbbkpmbepljhkaa
