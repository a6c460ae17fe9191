/- The law of the order of names answers true. -/
import Derived.Test.YtbbkpmbepljhkaaSSortOf
import Derived.Test.YtbbkpmbepljhkaaSLaw03
import Derived.Test.YtbbkpmbepljhkaaGEscheatlaw03NameOrder
set_option linter.all false
namespace Go.Proofs.Ytbbkpmbepljhkaa
open Go Go.Esc

theorem order_loop {g : Heap} {id q : Nat} {o : Txts} (hr : rd g id = some ⟨encS o, true⟩) (hu : Up o) (hk : 1 ≤ o.length) (hk3 : o.length ≤ 3) : ∀ e i m : Nat, i + 1 + e = o.length → e < m →
    ∃ g', escheatlaw03_NameOrder_l0 q m (.c (.sl id 0 o.length 1)) (.c (.i .i64 ((i + 1 : Nat) : Int))) g = some (.c (.b true), g')
  | e, i, 0, _, hm => by omega
  | 0, i, m + 1, hi, hm => by
    have c0 : ¬ ((i + 1 : Nat) : Int) < (o.length : Nat) := by omega
    have c1 : (1 : Int) ≤ (o.length : Nat) := by omega
    have c2 : ((o.length : Nat) : Int) ≤ 3 := by omega
    have hv : Has g (.c (.sl id 0 o.length 1)) 1 o.length (encS o) := Has.row (rw := true) hr (by rw [encS_length]; omega) (noX_encS _)
    have hS := name_Sort_eq hv (by omega)
    rw [sortS_self hu] at hS
    have hX := ref02_Texts_eq (v := .c (.sl g.length 0 o.length 1)) (nv := o.length) (l := o) (r := o) (h := g ++ [some (Row.mk (encS o) true)]) (Has.row (rw := true) rd_new (by rw [encS_length]; omega) (noX_encS _)) (hv.more [some (Row.mk (encS o) true)]) (by omega)
    rw [decide_eq_true rfl] at hX
    rw [escheatlaw03_NameOrder_l0_eq]
    exact ⟨_, by simp only [afAddr_p, List.append_nil, if_true, if_false, bnd_some, mp_some, cnd_t, cnd_f, gd_no, gd_tt, gd_tf, gd_ft, gd_ff, alenS_s, alen_sl, alen_ns, abin_add, abin_sub, abin_mul, abin_eql, abin_neq, abin_lss, abin_leq, abin_gtr, abin_geq, abin_seql, abin_sneq, abin_slss, aun_not, aun_neg, aeqB_t, aeqB_f, aconv_i, apick_b, cond_true, cond_false, decide_true, decide_false, Bool.not_true, Bool.not_false, aext_t, ofPart_c, ofPart_a, part?_c, part?_a, cells?_c, cells?_a, tupN_2, tupN_3, Option.map_some, Option.some.injEq, List.getElem?_cons_zero, List.getElem?_cons_succ, not_true_eq_false, not_false_eq_true, quiet_same, bytesI_length, Option.join_some, List.append_assoc, List.cons_append, List.nil_append, List.length_append, List.length_cons, List.length_nil, Nat.zero_add, Nat.add_zero, rd_at, rd_at0, set_at, set_at0, List.set_cons_zero, List.set_cons_succ, ne_eq, decide_not, quiet_ext, newOk_some, List.cons_prefix_cons, List.nil_prefix, List.drop_succ_cons, List.drop_zero, List.all_cons, List.all_nil, Bool.and_true, true_and, and_true, c0, c1, c2, hS, hX, works03_eq] <;> rfl⟩
  | e + 1, i, m + 1, hi, hm => by
    obtain ⟨g', ih⟩ := order_loop (q := q) hr hu hk hk3 e (i + 1) m (by omega) (by omega)
    have c0 : ((i + 1 : Nat) : Int) < (o.length : Nat) := by omega
    have w1 : IntKind.wrap .i64 (((i + 1 : Nat) : Int) - 1) = (i : Int) := by rw [wrap_i64 (by omega) (by omega)]; omega
    have e1 : aiAddrL 1 (.c (.sl id 0 o.length 1)) (.c (.i .i64 (i : Int))) = some (.c (.p id i)) := by rw [iAddrL_of (by omega)]; simp
    have e2 : aiAddrL 1 (.c (.sl id 0 o.length 1)) (.c (.i .i64 ((i + 1 : Nat) : Int))) = some (.c (.p id (i + 1))) := by rw [iAddrL_of (by omega)]; simp
    have x1 : aload1 g (.c (.p id i)) = some (.c (.s o[i])) := load1_of hr (by rw [encS_get, List.getElem?_eq_getElem (by omega)]; rfl) rfl
    have x2 : aload1 g (.c (.p id (i + 1))) = some (.c (.s o[i + 1])) := load1_of hr (by rw [encS_get, List.getElem?_eq_getElem (by omega)]; rfl) rfl
    have hL := fun h => name_Less_eq (a := o[i]) (b := o[i + 1]) (h := h)
    have hb : bless o[i] o[i + 1] = true := by
      exact List.pairwise_iff_getElem.1 hu i (i + 1) (by omega) (by omega) (by omega)
    rw [hb] at hL
    rw [escheatlaw03_NameOrder_l0_eq]
    exact ⟨g', by simp only [afAddr_p, List.append_nil, if_true, if_false, bnd_some, mp_some, cnd_t, cnd_f, gd_no, gd_tt, gd_tf, gd_ft, gd_ff, alenS_s, alen_sl, alen_ns, abin_add, abin_sub, abin_mul, abin_eql, abin_neq, abin_lss, abin_leq, abin_gtr, abin_geq, abin_seql, abin_sneq, abin_slss, aun_not, aun_neg, aeqB_t, aeqB_f, aconv_i, apick_b, cond_true, cond_false, decide_true, decide_false, Bool.not_true, Bool.not_false, aext_t, ofPart_c, ofPart_a, part?_c, part?_a, cells?_c, cells?_a, tupN_2, tupN_3, Option.map_some, Option.some.injEq, List.getElem?_cons_zero, List.getElem?_cons_succ, not_true_eq_false, not_false_eq_true, quiet_same, bytesI_length, Option.join_some, List.append_assoc, List.cons_append, List.nil_append, List.length_append, List.length_cons, List.length_nil, Nat.zero_add, Nat.add_zero, rd_at, rd_at0, set_at, set_at0, List.set_cons_zero, List.set_cons_succ, ne_eq, decide_not, quiet_ext, newOk_some, List.cons_prefix_cons, List.nil_prefix, List.drop_succ_cons, List.drop_zero, List.all_cons, List.all_nil, Bool.and_true, true_and, and_true, c0, w1, e1, e2, x1, x2, hL, wi_succ (show i + 1 + 1 < 9223372036854775808 by omega)]; exact ih⟩

theorem nameOrder_eq {a b c : List UInt8} (h : Heap) : S_escheatlaw03_NameOrder [.c (.s a), .c (.s b), .c (.s c)] h = some (.c (.b true), h) := by
  have key : ∀ g, ∃ g', R_escheatlaw03_NameOrder 4 [.c (.s a), .c (.s b), .c (.s c)] g = some (.c (.b true), g') := by
    intro g
    rw [R_escheatlaw03_NameOrder_eq]
    by_cases c1 : (300 : Int) < a.length
    · exact ⟨_, by simp only [afAddr_p, List.append_nil, if_true, if_false, bnd_some, mp_some, cnd_t, cnd_f, gd_no, gd_tt, gd_tf, gd_ft, gd_ff, alenS_s, alen_sl, alen_ns, abin_add, abin_sub, abin_mul, abin_eql, abin_neq, abin_lss, abin_leq, abin_gtr, abin_geq, abin_seql, abin_sneq, abin_slss, aun_not, aun_neg, aeqB_t, aeqB_f, aconv_i, apick_b, cond_true, cond_false, decide_true, decide_false, Bool.not_true, Bool.not_false, aext_t, ofPart_c, ofPart_a, part?_c, part?_a, cells?_c, cells?_a, tupN_2, tupN_3, Option.map_some, Option.some.injEq, List.getElem?_cons_zero, List.getElem?_cons_succ, not_true_eq_false, not_false_eq_true, quiet_same, bytesI_length, Option.join_some, List.append_assoc, List.cons_append, List.nil_append, List.length_append, List.length_cons, List.length_nil, Nat.zero_add, Nat.add_zero, rd_at, rd_at0, set_at, set_at0, List.set_cons_zero, List.set_cons_succ, ne_eq, decide_not, quiet_ext, newOk_some, List.cons_prefix_cons, List.nil_prefix, List.drop_succ_cons, List.drop_zero, List.all_cons, List.all_nil, Bool.and_true, true_and, and_true, c1, works03_eq] <;> rfl⟩
    by_cases c2 : (300 : Int) < b.length
    · exact ⟨_, by simp only [afAddr_p, List.append_nil, if_true, if_false, bnd_some, mp_some, cnd_t, cnd_f, gd_no, gd_tt, gd_tf, gd_ft, gd_ff, alenS_s, alen_sl, alen_ns, abin_add, abin_sub, abin_mul, abin_eql, abin_neq, abin_lss, abin_leq, abin_gtr, abin_geq, abin_seql, abin_sneq, abin_slss, aun_not, aun_neg, aeqB_t, aeqB_f, aconv_i, apick_b, cond_true, cond_false, decide_true, decide_false, Bool.not_true, Bool.not_false, aext_t, ofPart_c, ofPart_a, part?_c, part?_a, cells?_c, cells?_a, tupN_2, tupN_3, Option.map_some, Option.some.injEq, List.getElem?_cons_zero, List.getElem?_cons_succ, not_true_eq_false, not_false_eq_true, quiet_same, bytesI_length, Option.join_some, List.append_assoc, List.cons_append, List.nil_append, List.length_append, List.length_cons, List.length_nil, Nat.zero_add, Nat.add_zero, rd_at, rd_at0, set_at, set_at0, List.set_cons_zero, List.set_cons_succ, ne_eq, decide_not, quiet_ext, newOk_some, List.cons_prefix_cons, List.nil_prefix, List.drop_succ_cons, List.drop_zero, List.all_cons, List.all_nil, Bool.and_true, true_and, and_true, c1, c2, works03_eq] <;> rfl⟩
    by_cases c3 : (300 : Int) < c.length
    · exact ⟨_, by simp only [afAddr_p, List.append_nil, if_true, if_false, bnd_some, mp_some, cnd_t, cnd_f, gd_no, gd_tt, gd_tf, gd_ft, gd_ff, alenS_s, alen_sl, alen_ns, abin_add, abin_sub, abin_mul, abin_eql, abin_neq, abin_lss, abin_leq, abin_gtr, abin_geq, abin_seql, abin_sneq, abin_slss, aun_not, aun_neg, aeqB_t, aeqB_f, aconv_i, apick_b, cond_true, cond_false, decide_true, decide_false, Bool.not_true, Bool.not_false, aext_t, ofPart_c, ofPart_a, part?_c, part?_a, cells?_c, cells?_a, tupN_2, tupN_3, Option.map_some, Option.some.injEq, List.getElem?_cons_zero, List.getElem?_cons_succ, not_true_eq_false, not_false_eq_true, quiet_same, bytesI_length, Option.join_some, List.append_assoc, List.cons_append, List.nil_append, List.length_append, List.length_cons, List.length_nil, Nat.zero_add, Nat.add_zero, rd_at, rd_at0, set_at, set_at0, List.set_cons_zero, List.set_cons_succ, ne_eq, decide_not, quiet_ext, newOk_some, List.cons_prefix_cons, List.nil_prefix, List.drop_succ_cons, List.drop_zero, List.all_cons, List.all_nil, Bool.and_true, true_and, and_true, c1, c2, c3, works03_eq] <;> rfl⟩
    have haa := fun h => name_Less_eq (a := a) (b := a) (h := h)
    rw [bless_irr] at haa
    have hab := fun h => name_Less_eq (a := a) (b := b) (h := h)
    have hba := fun h => name_Less_eq (a := b) (b := a) (h := h)
    have hbc := fun h => name_Less_eq (a := b) (b := c) (h := h)
    have hac := fun h => name_Less_eq (a := a) (b := c) (h := h)
    have hone : (bless a b == bless b a) = decide (a = b) := by
      rcases bless_tot a b with k | k | k
      · have : bless b a = false := by
          cases kk : bless b a with
          | false => rfl
          | true => have := bless_tr k kk; rw [bless_irr] at this; cases this
        have hne : a ≠ b := fun e => by subst e; rw [bless_irr] at k; cases k
        rw [k, this, decide_eq_false hne]; rfl
      · subst k; simp
      · have : bless a b = false := by
          cases kk : bless a b with
          | false => rfl
          | true => have := bless_tr k kk; rw [bless_irr] at this; cases this
        have hne : a ≠ b := fun e => by subst e; rw [bless_irr] at k; cases k
        rw [k, this, decide_eq_false hne]; rfl
    have htr : bless a b = true → bless b c = true → bless a c = true := bless_tr
    have ef : afill [Cell.s [], .s [], .s []] [(0, 1, .c (.s a)), (1, 1, .c (.s b)), (2, 1, .c (.s c))] = some [.s a, .s b, .s c] := rfl
    have hr0 : rd (g ++ [some (Row.mk [Cell.s a, .s b, .s c] true)]) g.length = some ⟨encS [a, b, c], true⟩ := rd_new
    have hS := name_Sort_eq (nv := 3) (l := [a, b, c]) (Has.row (sz := 1) hr0 rfl (noX_encS _)) (by omega)
    simp only [List.length_append, List.length_cons, List.length_nil, Nat.zero_add, List.append_assoc, List.cons_append, List.nil_append] at hS
    have hk3 : (sortS [a, b, c]).length ≤ 3 := sortS_length [a, b, c]
    have hk : 1 ≤ (sortS [a, b, c]).length := by
      have : a ∈ sortS [a, b, c] := (sortS_mem _ _).2 (by simp)
      exact List.length_pos_of_mem this
    obtain ⟨g', hl⟩ := order_loop (g := g ++ [some (Row.mk [Cell.s a, .s b, .s c] true), some (Row.mk (encS (sortS [a, b, c])) true)]) (id := g.length + 1) (q := 4) (by simp) (sortS_up [a, b, c]) hk hk3 ((sortS [a, b, c]).length - 1) 0 4 (by omega) (by omega)
    rw [show ((0 + 1 : Nat) : Int) = 1 from rfl] at hl
    refine ⟨g', ?_⟩
    generalize sortS [a, b, c] = o at *
    cases k1 : bless a b <;> cases k2 : bless b a <;> cases k3 : bless b c <;> cases k4 : bless a c <;> rw [k1] at hab hone htr <;> rw [k2] at hba hone <;> rw [k3] at hbc htr <;> rw [k4] at hac htr
    all_goals first
      | (have := htr rfl rfl; cases this; done)
      | (simp only [afAddr_p, List.append_nil, if_true, if_false, bnd_some, mp_some, cnd_t, cnd_f, gd_no, gd_tt, gd_tf, gd_ft, gd_ff, alenS_s, alen_sl, alen_ns, abin_add, abin_sub, abin_mul, abin_eql, abin_neq, abin_lss, abin_leq, abin_gtr, abin_geq, abin_seql, abin_sneq, abin_slss, aun_not, aun_neg, aeqB_t, aeqB_f, aconv_i, apick_b, cond_true, cond_false, decide_true, decide_false, Bool.not_true, Bool.not_false, aext_t, ofPart_c, ofPart_a, part?_c, part?_a, cells?_c, cells?_a, tupN_2, tupN_3, Option.map_some, Option.some.injEq, List.getElem?_cons_zero, List.getElem?_cons_succ, not_true_eq_false, not_false_eq_true, quiet_same, bytesI_length, Option.join_some, List.append_assoc, List.cons_append, List.nil_append, List.length_append, List.length_cons, List.length_nil, Nat.zero_add, Nat.add_zero, rd_at, rd_at0, set_at, set_at0, List.set_cons_zero, List.set_cons_succ, ne_eq, decide_not, quiet_ext, newOk_some, List.cons_prefix_cons, List.nil_prefix, List.drop_succ_cons, List.drop_zero, List.all_cons, List.all_nil, Bool.and_true, true_and, and_true, c1, c2, c3, haa, hab, hba, hbc, hac, ← hone, ef, hS, beq_self_eq_true, Bool.true_beq, Bool.false_beq]
         exact hl)
  obtain ⟨g', e⟩ := key (ro h)
  exact S_escheatlaw03_NameOrder_flat e rfl

end Go.Proofs.Ytbbkpmbepljhkaa
