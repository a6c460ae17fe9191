/- The document's sorting of texts: the least one above the last, as long as there is one. -/
import Derived.Test.YtbbkpmbepljhkaaSSortOf
set_option linter.all false
namespace Go.Proofs.Ytbbkpmbepljhkaa
open Go Go.Esc

def above (o : Txts) (x : List UInt8) : Bool := match o.getLast? with | none => true | some y => bless y x
def lstep (o : Txts) (a : Option (List UInt8)) (x : List UInt8) : Option (List UInt8) :=
  bif above o x then (match a with | none => some x | some y => bif bless x y then some x else some y) else a
def leastS (o : Txts) (l : Txts) (a : Option (List UInt8)) : Option (List UInt8) := l.foldl (lstep o) a

theorem sortref_inner {v : Val} {nv q m id : Nat} {l o : Txts} {h : Heap} (hv : Has h v 1 nv (encS l)) (hn : l.length = nv) (h62 : nv < 1073741824) (hb : ∀ x ∈ l, x.length < 9223372036854775807) (hr : rd h id = some ⟨encS o, true⟩) (hol : o.length < 9223372036854775808) (hob : ∀ x ∈ o, x.length < 9223372036854775807) :
    ∀ (e i m2 : Nat) (a : Option (List UInt8)), i + e = nv → e < m2 →
    escheatref03_Sort_l1 q m m2 v (.c (.sl id 0 o.length 1)) (.c (.b a.isSome)) (.c (.s (a.getD []))) (.c (.i .i64 i)) h =
      match leastS o (l.drop i) a with
      | none => some (.c (.sl id 0 o.length 1), h)
      | some y => bnd (aapp (h ++ [some (Row.mk [.s y] true)]) 1 (.c (.sl id 0 o.length 1)) (.c (.sl h.length 0 1 1))) fun p => escheatref03_Sort_l0 q m v p.1 p.2
  | e, i, 0, a, _, hm => by omega
  | 0, i, m2 + 1, a, hi, hm => by
    have e0 : i = nv := by omega
    subst e0
    have c0 : ¬ (i : Int) < i := by omega
    rw [escheatref03_Sort_l1_eq, List.drop_of_length_le (by omega)]
    unfold leastS
    rw [List.foldl_nil]
    cases a with
    | none => simp only [afAddr_p, List.append_nil, if_true, if_false, bnd_some, mp_some, cnd_t, cnd_f, gd_no, gd_tt, gd_tf, gd_ft, gd_ff, alenS_s, alen_sl, alen_ns, abin_add, abin_sub, abin_mul, abin_eql, abin_neq, abin_lss, abin_leq, abin_gtr, abin_geq, abin_seql, abin_sneq, abin_slss, aun_not, aun_neg, aeqB_t, aeqB_f, aconv_i, apick_b, cond_true, cond_false, decide_true, decide_false, Bool.not_true, Bool.not_false, aext_t, ofPart_c, ofPart_a, part?_c, part?_a, cells?_c, cells?_a, tupN_2, tupN_3, Option.map_some, Option.some.injEq, List.getElem?_cons_zero, List.getElem?_cons_succ, not_true_eq_false, not_false_eq_true, quiet_same, bytesI_length, Option.join_some, List.append_assoc, List.cons_append, List.nil_append, List.length_append, List.length_cons, List.length_nil, Nat.zero_add, Nat.add_zero, rd_at, rd_at0, set_at, set_at0, List.set_cons_zero, List.set_cons_succ, ne_eq, decide_not, quiet_ext, newOk_some, List.cons_prefix_cons, List.nil_prefix, List.drop_succ_cons, List.drop_zero, List.all_cons, List.all_nil, Bool.and_true, true_and, and_true, hv.len, c0, Option.isSome_none]
    | some y =>
      have ef : afill [Cell.s []] [(0, 1, .c (.s y))] = some [.s y] := rfl
      simp only [afAddr_p, List.append_nil, if_true, if_false, bnd_some, mp_some, cnd_t, cnd_f, gd_no, gd_tt, gd_tf, gd_ft, gd_ff, alenS_s, alen_sl, alen_ns, abin_add, abin_sub, abin_mul, abin_eql, abin_neq, abin_lss, abin_leq, abin_gtr, abin_geq, abin_seql, abin_sneq, abin_slss, aun_not, aun_neg, aeqB_t, aeqB_f, aconv_i, apick_b, cond_true, cond_false, decide_true, decide_false, Bool.not_true, Bool.not_false, aext_t, ofPart_c, ofPart_a, part?_c, part?_a, cells?_c, cells?_a, tupN_2, tupN_3, Option.map_some, Option.some.injEq, List.getElem?_cons_zero, List.getElem?_cons_succ, not_true_eq_false, not_false_eq_true, quiet_same, bytesI_length, Option.join_some, List.append_assoc, List.cons_append, List.nil_append, List.length_append, List.length_cons, List.length_nil, Nat.zero_add, Nat.add_zero, rd_at, rd_at0, set_at, set_at0, List.set_cons_zero, List.set_cons_succ, ne_eq, decide_not, quiet_ext, newOk_some, List.cons_prefix_cons, List.nil_prefix, List.drop_succ_cons, List.drop_zero, List.all_cons, List.all_nil, Bool.and_true, true_and, and_true, hv.len, c0, Option.isSome_some, Option.getD_some, ef]
  | e + 1, i, m2 + 1, a, hi, hm => by
    have ih := fun a => sortref_inner (q := q) (m := m) hv hn h62 hb hr hol hob e (i + 1) m2 a (by omega) (by omega)
    have c0 : (i : Int) < nv := by omega
    have hlen := hv.len
    obtain ⟨jd, off, ev, hjd, k1, k2⟩ := hv.sl (by omega)
    have hx := k1 i (.s l[i]) (by rw [encS_get, List.getElem?_eq_getElem (by omega)]; rfl)
    have eb : aiAddrL 1 v (.c (.i .i64 (i : Int))) = some (.c (.p jd (off + i))) := by rw [ev, iAddrL_of (by omega)]; simp
    have w1 := wi_succ (show i + 1 < 9223372036854775808 by omega)
    have hxb := hb l[i] (List.getElem_mem (by omega))
    have ed : leastS o (l.drop i) a = leastS o (l.drop (i + 1)) (lstep o a l[i]) := by
      unfold leastS
      rw [List.drop_eq_getElem_cons (by omega : i < l.length), List.foldl_cons]
    rw [ed, escheatref03_Sort_l1_eq]
    generalize l[i] = s at *
    -- what is above the last one
    rcases Nat.eq_zero_or_pos o.length with h0 | h0
    · have eo : o = [] := List.eq_nil_of_length_eq_zero h0
      subst eo
      have ea : above [] s = true := rfl
      have c1 : ¬ (0 : Int) < ((0 : Nat) : Int) := by omega
      cases a with
      | none =>
        have es : lstep [] none s = some s := rfl
        have ih := ih (some s)
        rw [es]
        simp only [Option.isSome_some, Option.getD_some, Option.isSome_none, Option.getD_none] at ih ⊢
        simp only [afAddr_p, List.append_nil, if_true, if_false, bnd_some, mp_some, cnd_t, cnd_f, gd_no, gd_tt, gd_tf, gd_ft, gd_ff, alenS_s, alen_sl, alen_ns, abin_add, abin_sub, abin_mul, abin_eql, abin_neq, abin_lss, abin_leq, abin_gtr, abin_geq, abin_seql, abin_sneq, abin_slss, aun_not, aun_neg, aeqB_t, aeqB_f, aconv_i, apick_b, cond_true, cond_false, decide_true, decide_false, Bool.not_true, Bool.not_false, aext_t, ofPart_c, ofPart_a, part?_c, part?_a, cells?_c, cells?_a, tupN_2, tupN_3, Option.map_some, Option.some.injEq, List.getElem?_cons_zero, List.getElem?_cons_succ, not_true_eq_false, not_false_eq_true, quiet_same, bytesI_length, Option.join_some, List.append_assoc, List.cons_append, List.nil_append, List.length_append, List.length_cons, List.length_nil, Nat.zero_add, Nat.add_zero, rd_at, rd_at0, set_at, set_at0, List.set_cons_zero, List.set_cons_succ, ne_eq, decide_not, quiet_ext, newOk_some, List.cons_prefix_cons, List.nil_prefix, List.drop_succ_cons, List.drop_zero, List.all_cons, List.all_nil, Bool.and_true, true_and, and_true, hlen, c0, c1, eb, hx, escheatref03_Sort_j0_eq, w1] at ih ⊢
        exact ih
      | some y =>
        have hL := fun h => refless_eq (s := s) (t := y) hxb h
        cases cb : bless s y with
        | true =>
          have es : lstep [] (some y) s = some s := by unfold lstep; rw [ea, cond_true]; simp only; rw [cb, cond_true]
          have ih := ih (some s)
          rw [cb] at hL
          rw [es]
          simp only [Option.isSome_some, Option.getD_some] at ih ⊢
          simp only [afAddr_p, List.append_nil, if_true, if_false, bnd_some, mp_some, cnd_t, cnd_f, gd_no, gd_tt, gd_tf, gd_ft, gd_ff, alenS_s, alen_sl, alen_ns, abin_add, abin_sub, abin_mul, abin_eql, abin_neq, abin_lss, abin_leq, abin_gtr, abin_geq, abin_seql, abin_sneq, abin_slss, aun_not, aun_neg, aeqB_t, aeqB_f, aconv_i, apick_b, cond_true, cond_false, decide_true, decide_false, Bool.not_true, Bool.not_false, aext_t, ofPart_c, ofPart_a, part?_c, part?_a, cells?_c, cells?_a, tupN_2, tupN_3, Option.map_some, Option.some.injEq, List.getElem?_cons_zero, List.getElem?_cons_succ, not_true_eq_false, not_false_eq_true, quiet_same, bytesI_length, Option.join_some, List.append_assoc, List.cons_append, List.nil_append, List.length_append, List.length_cons, List.length_nil, Nat.zero_add, Nat.add_zero, rd_at, rd_at0, set_at, set_at0, List.set_cons_zero, List.set_cons_succ, ne_eq, decide_not, quiet_ext, newOk_some, List.cons_prefix_cons, List.nil_prefix, List.drop_succ_cons, List.drop_zero, List.all_cons, List.all_nil, Bool.and_true, true_and, and_true, hlen, c0, c1, eb, hx, hL, escheatref03_Sort_j0_eq, w1] at ih ⊢
          exact ih
        | false =>
          have es : lstep [] (some y) s = some y := by unfold lstep; rw [ea, cond_true]; simp only; rw [cb, cond_false]
          have ih := ih (some y)
          rw [cb] at hL
          rw [es]
          simp only [Option.isSome_some, Option.getD_some] at ih ⊢
          simp only [afAddr_p, List.append_nil, if_true, if_false, bnd_some, mp_some, cnd_t, cnd_f, gd_no, gd_tt, gd_tf, gd_ft, gd_ff, alenS_s, alen_sl, alen_ns, abin_add, abin_sub, abin_mul, abin_eql, abin_neq, abin_lss, abin_leq, abin_gtr, abin_geq, abin_seql, abin_sneq, abin_slss, aun_not, aun_neg, aeqB_t, aeqB_f, aconv_i, apick_b, cond_true, cond_false, decide_true, decide_false, Bool.not_true, Bool.not_false, aext_t, ofPart_c, ofPart_a, part?_c, part?_a, cells?_c, cells?_a, tupN_2, tupN_3, Option.map_some, Option.some.injEq, List.getElem?_cons_zero, List.getElem?_cons_succ, not_true_eq_false, not_false_eq_true, quiet_same, bytesI_length, Option.join_some, List.append_assoc, List.cons_append, List.nil_append, List.length_append, List.length_cons, List.length_nil, Nat.zero_add, Nat.add_zero, rd_at, rd_at0, set_at, set_at0, List.set_cons_zero, List.set_cons_succ, ne_eq, decide_not, quiet_ext, newOk_some, List.cons_prefix_cons, List.nil_prefix, List.drop_succ_cons, List.drop_zero, List.all_cons, List.all_nil, Bool.and_true, true_and, and_true, hlen, c0, c1, eb, hx, hL, escheatref03_Sort_j0_eq, w1] at ih ⊢
          exact ih
    · have c1 : (0 : Int) < (o.length : Nat) := by omega
      have w2 : IntKind.wrap .i64 ((o.length : Int) - 1) = ((o.length - 1 : Nat) : Int) := by rw [wrap_i64 (by omega) (by omega)]; omega
      have eg : o.getLast? = some o[o.length - 1] := by rw [List.getLast?_eq_getElem?, List.getElem?_eq_getElem (by omega)]
      have ea2 : aiAddrL 1 (.c (.sl id 0 o.length 1)) (.c (.i .i64 ((o.length - 1 : Nat) : Int))) = some (.c (.p id (o.length - 1))) := by rw [iAddrL_of (by omega)]; simp
      have hy : aload1 h (.c (.p id (o.length - 1))) = some (.c (.s o[o.length - 1])) := load1_of hr (by rw [encS_get, List.getElem?_eq_getElem (by omega)]; rfl) rfl
      have hL := fun h => refless_eq (s := o[o.length - 1]) (t := s) (hob _ (List.getElem_mem (by omega))) h
      have eab : above o s = bless o[o.length - 1] s := by unfold above; rw [eg]
      generalize o[o.length - 1] = z at *
      generalize o.length - 1 = k at *
      cases ca : bless z s with
      | false =>
        rw [ca] at hL eab
        have es : lstep o a s = a := by unfold lstep; rw [eab, cond_false]
        rw [es]
        have ih := ih a
        simp only [afAddr_p, List.append_nil, if_true, if_false, bnd_some, mp_some, cnd_t, cnd_f, gd_no, gd_tt, gd_tf, gd_ft, gd_ff, alenS_s, alen_sl, alen_ns, abin_add, abin_sub, abin_mul, abin_eql, abin_neq, abin_lss, abin_leq, abin_gtr, abin_geq, abin_seql, abin_sneq, abin_slss, aun_not, aun_neg, aeqB_t, aeqB_f, aconv_i, apick_b, cond_true, cond_false, decide_true, decide_false, Bool.not_true, Bool.not_false, aext_t, ofPart_c, ofPart_a, part?_c, part?_a, cells?_c, cells?_a, tupN_2, tupN_3, Option.map_some, Option.some.injEq, List.getElem?_cons_zero, List.getElem?_cons_succ, not_true_eq_false, not_false_eq_true, quiet_same, bytesI_length, Option.join_some, List.append_assoc, List.cons_append, List.nil_append, List.length_append, List.length_cons, List.length_nil, Nat.zero_add, Nat.add_zero, rd_at, rd_at0, set_at, set_at0, List.set_cons_zero, List.set_cons_succ, ne_eq, decide_not, quiet_ext, newOk_some, List.cons_prefix_cons, List.nil_prefix, List.drop_succ_cons, List.drop_zero, List.all_cons, List.all_nil, Bool.and_true, true_and, and_true, hlen, c0, c1, w2, ea2, hy, eb, hx, hL, escheatref03_Sort_j0_eq, w1] at ih ⊢
        exact ih
      | true =>
        rw [ca] at hL eab
        cases a with
        | none =>
          have es : lstep o none s = some s := by unfold lstep; rw [eab, cond_true]
          have ih := ih (some s)
          rw [es]
          simp only [Option.isSome_some, Option.getD_some, Option.isSome_none, Option.getD_none] at ih ⊢
          simp only [afAddr_p, List.append_nil, if_true, if_false, bnd_some, mp_some, cnd_t, cnd_f, gd_no, gd_tt, gd_tf, gd_ft, gd_ff, alenS_s, alen_sl, alen_ns, abin_add, abin_sub, abin_mul, abin_eql, abin_neq, abin_lss, abin_leq, abin_gtr, abin_geq, abin_seql, abin_sneq, abin_slss, aun_not, aun_neg, aeqB_t, aeqB_f, aconv_i, apick_b, cond_true, cond_false, decide_true, decide_false, Bool.not_true, Bool.not_false, aext_t, ofPart_c, ofPart_a, part?_c, part?_a, cells?_c, cells?_a, tupN_2, tupN_3, Option.map_some, Option.some.injEq, List.getElem?_cons_zero, List.getElem?_cons_succ, not_true_eq_false, not_false_eq_true, quiet_same, bytesI_length, Option.join_some, List.append_assoc, List.cons_append, List.nil_append, List.length_append, List.length_cons, List.length_nil, Nat.zero_add, Nat.add_zero, rd_at, rd_at0, set_at, set_at0, List.set_cons_zero, List.set_cons_succ, ne_eq, decide_not, quiet_ext, newOk_some, List.cons_prefix_cons, List.nil_prefix, List.drop_succ_cons, List.drop_zero, List.all_cons, List.all_nil, Bool.and_true, true_and, and_true, hlen, c0, c1, w2, ea2, hy, eb, hx, hL, escheatref03_Sort_j0_eq, w1] at ih ⊢
          exact ih
        | some y =>
          have hL2 := fun h => refless_eq (s := s) (t := y) hxb h
          cases cb : bless s y with
          | true =>
            have es : lstep o (some y) s = some s := by unfold lstep; rw [eab, cond_true]; simp only; rw [cb, cond_true]
            have ih := ih (some s)
            rw [cb] at hL2
            rw [es]
            simp only [Option.isSome_some, Option.getD_some] at ih ⊢
            simp only [afAddr_p, List.append_nil, if_true, if_false, bnd_some, mp_some, cnd_t, cnd_f, gd_no, gd_tt, gd_tf, gd_ft, gd_ff, alenS_s, alen_sl, alen_ns, abin_add, abin_sub, abin_mul, abin_eql, abin_neq, abin_lss, abin_leq, abin_gtr, abin_geq, abin_seql, abin_sneq, abin_slss, aun_not, aun_neg, aeqB_t, aeqB_f, aconv_i, apick_b, cond_true, cond_false, decide_true, decide_false, Bool.not_true, Bool.not_false, aext_t, ofPart_c, ofPart_a, part?_c, part?_a, cells?_c, cells?_a, tupN_2, tupN_3, Option.map_some, Option.some.injEq, List.getElem?_cons_zero, List.getElem?_cons_succ, not_true_eq_false, not_false_eq_true, quiet_same, bytesI_length, Option.join_some, List.append_assoc, List.cons_append, List.nil_append, List.length_append, List.length_cons, List.length_nil, Nat.zero_add, Nat.add_zero, rd_at, rd_at0, set_at, set_at0, List.set_cons_zero, List.set_cons_succ, ne_eq, decide_not, quiet_ext, newOk_some, List.cons_prefix_cons, List.nil_prefix, List.drop_succ_cons, List.drop_zero, List.all_cons, List.all_nil, Bool.and_true, true_and, and_true, hlen, c0, c1, w2, ea2, hy, eb, hx, hL, hL2, escheatref03_Sort_j0_eq, w1] at ih ⊢
            exact ih
          | false =>
            have es : lstep o (some y) s = some y := by unfold lstep; rw [eab, cond_true]; simp only; rw [cb, cond_false]
            have ih := ih (some y)
            rw [cb] at hL2
            rw [es]
            simp only [Option.isSome_some, Option.getD_some] at ih ⊢
            simp only [afAddr_p, List.append_nil, if_true, if_false, bnd_some, mp_some, cnd_t, cnd_f, gd_no, gd_tt, gd_tf, gd_ft, gd_ff, alenS_s, alen_sl, alen_ns, abin_add, abin_sub, abin_mul, abin_eql, abin_neq, abin_lss, abin_leq, abin_gtr, abin_geq, abin_seql, abin_sneq, abin_slss, aun_not, aun_neg, aeqB_t, aeqB_f, aconv_i, apick_b, cond_true, cond_false, decide_true, decide_false, Bool.not_true, Bool.not_false, aext_t, ofPart_c, ofPart_a, part?_c, part?_a, cells?_c, cells?_a, tupN_2, tupN_3, Option.map_some, Option.some.injEq, List.getElem?_cons_zero, List.getElem?_cons_succ, not_true_eq_false, not_false_eq_true, quiet_same, bytesI_length, Option.join_some, List.append_assoc, List.cons_append, List.nil_append, List.length_append, List.length_cons, List.length_nil, Nat.zero_add, Nat.add_zero, rd_at, rd_at0, set_at, set_at0, List.set_cons_zero, List.set_cons_succ, ne_eq, decide_not, quiet_ext, newOk_some, List.cons_prefix_cons, List.nil_prefix, List.drop_succ_cons, List.drop_zero, List.all_cons, List.all_nil, Bool.and_true, true_and, and_true, hlen, c0, c1, w2, ea2, hy, eb, hx, hL, hL2, escheatref03_Sort_j0_eq, w1] at ih ⊢
            exact ih

/-! ### What the least one is -/

theorem leastS_some (o : Txts) : ∀ (l : Txts) (y : List UInt8), ∃ z, leastS o l (some y) = some z ∧ (z = y ∨ (z ∈ l ∧ above o z = true ∧ bless z y = true)) ∧ ∀ x ∈ l, above o x = true → bless x z = false
  | [], y => ⟨y, rfl, .inl rfl, by simp⟩
  | x :: l, y => by
    unfold leastS
    rw [List.foldl_cons]
    cases ca : above o x with
    | false =>
      have es : lstep o (some y) x = some y := by unfold lstep; rw [ca, cond_false]
      obtain ⟨z, h1, h2, h3⟩ := leastS_some o l y
      rw [es]
      refine ⟨z, h1, ?_, fun w hw haw => ?_⟩
      · rcases h2 with h2 | ⟨h2, h4⟩
        · exact .inl h2
        · exact .inr ⟨List.mem_cons_of_mem _ h2, h4⟩
      · rcases List.mem_cons.1 hw with e | hw
        · subst e; rw [ca] at haw; cases haw
        · exact h3 w hw haw
    | true =>
      cases cb : bless x y with
      | true =>
        have es : lstep o (some y) x = some x := by unfold lstep; rw [ca, cond_true]; simp only; rw [cb, cond_true]
        obtain ⟨z, h1, h2, h3⟩ := leastS_some o l x
        rw [es]
        refine ⟨z, h1, .inr ?_, fun w hw haw => ?_⟩
        · rcases h2 with h2 | ⟨h2, h4, h5⟩
          · subst h2; exact ⟨List.mem_cons_self .., ca, cb⟩
          · exact ⟨List.mem_cons_of_mem _ h2, h4, bless_tr h5 cb⟩
        · rcases List.mem_cons.1 hw with e | hw
          · subst e
            rcases h2 with h2 | ⟨_, _, h5⟩
            · subst h2; exact bless_irr _
            · cases c : bless w z with
              | false => rfl
              | true => have := bless_tr c h5; rw [bless_irr] at this; cases this
          · exact h3 w hw haw
      | false =>
        have es : lstep o (some y) x = some y := by unfold lstep; rw [ca, cond_true]; simp only; rw [cb, cond_false]
        obtain ⟨z, h1, h2, h3⟩ := leastS_some o l y
        rw [es]
        refine ⟨z, h1, ?_, fun w hw haw => ?_⟩
        · rcases h2 with h2 | ⟨h2, h4⟩
          · exact .inl h2
          · exact .inr ⟨List.mem_cons_of_mem _ h2, h4⟩
        · rcases List.mem_cons.1 hw with e | hw
          · subst e
            rcases h2 with h2 | ⟨_, _, h5⟩
            · subst h2; exact cb
            · cases c : bless w z with
              | false => rfl
              | true => have := bless_tr c h5; rw [cb] at this; cases this
          · exact h3 w hw haw

theorem leastS_none (o : Txts) : ∀ l : Txts, (leastS o l none = none ∧ ∀ x ∈ l, above o x = false) ∨ ∃ z, leastS o l none = some z ∧ z ∈ l ∧ above o z = true ∧ ∀ x ∈ l, above o x = true → bless x z = false
  | [] => .inl ⟨rfl, by simp⟩
  | x :: l => by
    unfold leastS
    rw [List.foldl_cons]
    cases ca : above o x with
    | false =>
      have es : lstep o none x = none := by unfold lstep; rw [ca, cond_false]
      rw [es]
      rcases leastS_none o l with ⟨h1, h2⟩ | ⟨z, h1, h2, h3, h4⟩
      · exact .inl ⟨h1, fun w hw => by rcases List.mem_cons.1 hw with e | hw; subst e; exact ca; exact h2 w hw⟩
      · exact .inr ⟨z, h1, List.mem_cons_of_mem _ h2, h3, fun w hw haw => by
          rcases List.mem_cons.1 hw with e | hw
          · subst e; rw [ca] at haw; cases haw
          · exact h4 w hw haw⟩
    | true =>
      have es : lstep o none x = some x := by unfold lstep; rw [ca, cond_true]
      rw [es]
      obtain ⟨z, h1, h2, h3⟩ := leastS_some o l x
      refine .inr ⟨z, h1, ?_⟩
      rcases h2 with h2 | ⟨h2, h4, h5⟩
      · subst h2
        exact ⟨List.mem_cons_self .., ca, fun w hw haw => by
          rcases List.mem_cons.1 hw with e | hw
          · subst e; exact bless_irr _
          · exact h3 w hw haw⟩
      · exact ⟨List.mem_cons_of_mem _ h2, h4, fun w hw haw => by
          rcases List.mem_cons.1 hw with e | hw
          · subst e
            cases c : bless w z with
            | false => rfl
            | true => have := bless_tr c h5; rw [bless_irr] at this; cases this
          · exact h3 w hw haw⟩

/-- What has been sorted: it rises, it is of the list, and has all that is not above its last one. -/
def Part (l o : Txts) : Prop := Up o ∧ (∀ x ∈ o, x ∈ l) ∧ ∀ x ∈ l, above o x = false → x ∈ o

theorem above_snoc {o : Txts} {z x : List UInt8} : above (o ++ [z]) x = bless z x := by unfold above; simp

theorem up_last {o : Txts} {z x : List UInt8} (ho : Up o) (ha : above o z = true) (hx : x ∈ o) : bless x z = true := by
  unfold above at ha
  cases hg : o.getLast? with
  | none => rw [List.getLast?_eq_none_iff] at hg; subst hg; cases hx
  | some y =>
    rw [hg] at ha
    obtain ⟨ini, rfl⟩ := List.getLast?_eq_some_iff.1 hg
    rcases List.mem_append.1 hx with h | h
    · have := (List.pairwise_append.1 ho).2.2 x h y (by simp)
      exact bless_tr this ha
    · simp at h; subst h; exact ha

theorem part_next {l o : Txts} {z : List UInt8} (hp : Part l o) (hz : z ∈ l) (ha : above o z = true) (hm : ∀ x ∈ l, above o x = true → bless x z = false) : Part l (o ++ [z]) := by
  obtain ⟨h1, h2, h3⟩ := hp
  refine ⟨?_, ?_, ?_⟩
  · show List.Pairwise _ _; rw [List.pairwise_append]
    exact ⟨h1, by simp, fun x hx y hy => by simp at hy; subst hy; exact up_last h1 ha hx⟩
  · intro x hx
    rcases List.mem_append.1 hx with h | h
    · exact h2 x h
    · simp at h; subst h; exact hz
  · intro x hx hab
    rw [above_snoc] at hab
    cases c : above o x with
    | false => exact List.mem_append_left _ (h3 x hx c)
    | true =>
      have k := hm x hx c
      rcases bless_tot x z with h | h | h
      · rw [h] at k; cases k
      · subst h; simp
      · rw [h] at hab; cases hab

def leftS (l o : Txts) : Nat := (l.filter (above o)).length

theorem filter_lt {α : Type} {p r : α → Bool} : ∀ {l : List α} {z : α}, (∀ x ∈ l, p x = true → r x = true) → z ∈ l → p z = false → r z = true → (l.filter p).length < (l.filter r).length
  | [], z, _, hz, _, _ => by cases hz
  | x :: l, z, h, hz, hp, hr => by
    have hle : ∀ {l : List α}, (∀ x ∈ l, p x = true → r x = true) → (l.filter p).length ≤ (l.filter r).length := by
      intro l
      induction l with
      | nil => intro _; simp
      | cons y l ih =>
        intro h
        have h1 := ih fun x hx => h x (List.mem_cons_of_mem _ hx)
        have h2 := h y (List.mem_cons_self ..)
        simp only [List.filter_cons]
        cases hy : p y with
        | true => rw [h2 hy]; simpa using h1
        | false => cases r y <;> simp <;> omega
    have h1 := h x (List.mem_cons_self ..)
    have h' : ∀ y ∈ l, p y = true → r y = true := fun y hy => h y (List.mem_cons_of_mem _ hy)
    rcases List.mem_cons.1 hz with e | hz
    · subst e
      have := hle h'
      simp only [List.filter_cons, hp, hr, if_true, List.length_cons]
      simp; omega
    · have ih := filter_lt h' hz hp hr
      simp only [List.filter_cons]
      cases hx : p x with
      | true => rw [h1 hx]; simpa using ih
      | false => cases r x <;> simp <;> omega

theorem leftS_next {l o : Txts} {z : List UInt8} (hz : z ∈ l) (ha : above o z = true) : leftS l (o ++ [z]) < leftS l o := by
  refine filter_lt (z := z) (fun x hx h => ?_) hz (by rw [above_snoc, bless_irr]) ha
  rw [above_snoc] at h
  unfold above at ha ⊢
  cases hg : o.getLast? with
  | none => rfl
  | some y => rw [hg] at ha; exact bless_tr ha h

theorem sortref_outer {v : Val} {nv q : Nat} {l : Txts} {g : Heap} (hq : nv < q) (hv : Has g v 1 nv (encS l)) (hn : l.length = nv) (h62 : nv < 1073741824) (hb : ∀ x ∈ l, x.length < 9223372036854775807) :
    ∀ (f m : Nat) (o : Txts) (h : Heap) (id : Nat), leftS l o ≤ f → f < m → o.length + leftS l o ≤ nv → Part l o → Low g.length g h → g.length ≤ id → rd h id = some ⟨encS o, true⟩ →
    ∃ v2 h2, escheatref03_Sort_l0 q m v (.c (.sl id 0 o.length 1)) h = some (v2, h2) ∧ Out g.length h2 v2 1 (sortS l).length (encS (sortS l))
  | f, 0, o, h, id, _, hm, _, _, _, _, _ => by omega
  | f, m + 1, o, h, id, hf, hm, hol, hp, hlow, hid, hr => by
    have e1 := sortref_inner (q := q) (m := m) (hv.since hlow) hn h62 hb hr (by omega) (fun x hx => hb x (hp.2.1 x hx)) nv 0 q none (by omega) hq
    rw [List.drop_zero] at e1
    rw [escheatref03_Sort_l0_eq]
    simp only [Option.isSome_none, Option.getD_none] at e1
    rw [show (((0 : Nat) : Int)) = 0 from rfl] at e1
    rcases leastS_none o l with ⟨k1, k2⟩ | ⟨z, k1, k2, k3, k4⟩
    · rw [k1] at e1
      have eo : o = sortS l := up_ext hp.1 (sortS_up l) fun x => by
        rw [sortS_mem]
        exact ⟨hp.2.1 x, fun hx => hp.2.2 x hx (k2 x hx)⟩
      rw [← eo]
      exact ⟨_, _, e1, by rw [encS_length]; omega, _, rfl, hid, hr⟩
    · rw [k1] at e1
      have hlt := leftS_next k2 k3 (o := o)
      obtain ⟨h1, a1, a2, a3, a4, a5⟩ := push (ys := [.s z]) (sz := 1) (n := o.length) hlow hr (by rw [encS_length]; omega) hid rfl (by omega) (by omega)
      have he : encS o ++ [.s z] = encS (o ++ [z]) := by simp [encS]
      rw [he] at a2
      have el : (o ++ [z]).length = o.length + 1 := by simp
      obtain ⟨v2, h2, f1, f2⟩ := sortref_outer hq hv hn h62 hb (f - 1) m (o ++ [z]) h1 (h.length + 1) (by omega) (by omega) (by omega) (part_next hp k2 k3 k4) a3 a4 a2
      rw [el] at f1
      refine ⟨v2, h2, ?_, f2⟩
      rw [e1]
      simp only [a1, bnd_some]
      exact f1

theorem ref03_Sort_eq {v : Val} {nv : Nat} {l : Txts} {h : Heap} (hv : Has h v 1 nv (encS l)) (h62 : nv < 1073741824) (hb : ∀ x ∈ l, x.length < 9223372036854775807) :
    S_escheatref03_Sort [v] h = some (.c (.sl h.length 0 (sortS l).length 1), h ++ [some ⟨encS (sortS l), true⟩]) := by
  have hn : l.length = nv := by simpa [encS_length] using hv.length
  have key : ∀ N, nv < N → ∀ g, Has g v 1 nv (encS l) → ∃ v2 g', R_escheatref03_Sort N [v] g = some (v2, g') ∧ Out g.length g' v2 1 (sortS l).length (encS (sortS l)) := by
    intro N hN g hv
    have hf : leftS l [] = nv := by
      unfold leftS
      have e : l.filter (above []) = l := List.filter_eq_self.2 fun x _ => rfl
      rw [e, hn]
    obtain ⟨v2, g', f1, f2⟩ := sortref_outer (q := N) hN hv hn h62 hb nv N [] ((g ++ [some (Row.mk [] true)]) ++ [some (Row.mk [] true)]) (g.length + 1) (by omega) hN (by simp; omega)
      ⟨List.Pairwise.nil, by simp, fun x _ h => by cases h⟩ (((Low.refl (Nat.le_refl _)).new _).new _) (by omega) (by simp [encS])
    rw [R_escheatref03_Sort_eq]
    refine ⟨v2, g', ?_, f2⟩
    simpa using f1
  obtain ⟨v2, g', e, ho⟩ := key (nv + 1) (by omega) (ro h) hv.ro
  exact S_escheatref03_Sort_out e (by simpa [ro_length] using ho) (by simp)

end Go.Proofs.Ytbbkpmbepljhkaa
