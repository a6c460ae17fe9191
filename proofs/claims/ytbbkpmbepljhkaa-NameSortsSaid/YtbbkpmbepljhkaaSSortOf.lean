/- The code's sorting of texts: each one is put at its place. -/
import Derived.Test.YtbbkpmbepljhkaaSInsert
set_option linter.all false
namespace Go.Proofs.Ytbbkpmbepljhkaa
open Go Go.Esc

abbrev Txts := List (List UInt8)
def atS (o : Txts) (s : List UInt8) : Nat := plc o s o.length 0 o.length
def insS (o : Txts) (s : List UInt8) : Txts := bif isAt o s (atS o s) then o else o.take (atS o s) ++ s :: o.drop (atS o s)
def sortS (l : Txts) : Txts := l.foldl insS []

theorem atS_le (o : Txts) (s : List UInt8) : atS o s ≤ o.length := plc_le o s _ _ _ (Nat.zero_le _)
theorem insS_length (o : Txts) (s : List UInt8) : (insS o s).length ≤ o.length + 1 := by
  have := atS_le o s
  unfold insS
  cases isAt o s (atS o s) <;> simp <;> omega
theorem foldS_length (l : Txts) : ∀ o : Txts, (l.foldl insS o).length ≤ o.length + l.length := by
  induction l with
  | nil => intro o; simp
  | cons x l ih =>
    intro o
    have h1 := ih (insS o x)
    have h2 := insS_length o x
    simp only [List.foldl_cons, List.length_cons] at h1 ⊢
    omega
theorem sortS_length (l : Txts) : (sortS l).length ≤ l.length := by
  have := foldS_length l []
  simpa [sortS] using this

abbrev Up (l : Txts) : Prop := l.Pairwise fun a b => bless a b = true

theorem atS_rise {o : Txts} {s : List UInt8} (ho : Up o) : (∀ i x, i < atS o s → o[i]? = some x → bless x s = true) ∧ (∀ i x, atS o s ≤ i → o[i]? = some x → bless x s = false) :=
  plc_rise ho o.length 0 o.length (Nat.zero_le _) (Nat.le_refl _) (by omega) (fun i x hi => by omega) (fun i x hi hx => by
    have := (List.getElem?_eq_some_iff.1 hx).1; omega)

theorem isAt_iff {o : Txts} {s : List UInt8} (ho : Up o) : isAt o s (atS o s) = true ↔ s ∈ o := by
  unfold isAt
  rw [decide_eq_true_eq]
  constructor
  · intro h; exact List.mem_of_getElem? h
  · intro h
    obtain ⟨i, hi⟩ := List.mem_iff_getElem?.1 h
    obtain ⟨h1, h2⟩ := atS_rise (s := s) ho
    have hge : atS o s ≤ i := by
      false_or_by_contra
      have := h1 i s (by omega) hi
      rw [bless_irr] at this; cases this
    by_cases e : atS o s = i
    · rw [e]; exact hi
    · have hil := (List.getElem?_eq_some_iff.1 hi).1
      have hg : o[atS o s]? = some o[atS o s] := List.getElem?_eq_getElem (by omega)
      have k1 := h2 _ _ (Nat.le_refl _) hg
      have k2 : bless o[atS o s] s = true := by
        obtain ⟨a, ha⟩ := List.getElem?_eq_some_iff.1 hi
        have := List.pairwise_iff_getElem.1 ho (atS o s) i (by omega) a (by omega)
        rw [ha] at this; exact this
      rw [k1] at k2; cases k2

theorem insS_up {o : Txts} {s : List UInt8} (ho : Up o) : Up (insS o s) ∧ ∀ x, x ∈ insS o s ↔ x = s ∨ x ∈ o := by
  unfold insS
  cases c : isAt o s (atS o s) with
  | true =>
    have hm := (isAt_iff ho).1 c
    rw [cond_true]
    exact ⟨ho, fun x => ⟨fun h => .inr h, fun h => by rcases h with h | h; subst h; exact hm; exact h⟩⟩
  | false =>
    have hm : s ∉ o := fun h => by rw [(isAt_iff ho).2 h] at c; cases c
    obtain ⟨h1, h2⟩ := atS_rise (s := s) ho
    rw [cond_false]
    refine ⟨rise_insert (lt := fun a b => bless a b = true) (fun a b c => bless_tr) (fun a b => bless_tot a b) ho hm (fun y hy => ?_) (fun y hy => ?_), fun x => mem_insert⟩
    · obtain ⟨i, hi⟩ := List.mem_iff_getElem?.1 hy
      have hl := (List.getElem?_eq_some_iff.1 hi).1
      rw [List.length_take] at hl
      rw [List.getElem?_take_of_lt (by omega)] at hi
      exact h1 i y (by omega) hi
    · obtain ⟨i, hi⟩ := List.mem_iff_getElem?.1 hy
      rw [List.getElem?_drop] at hi
      have := h2 _ y (by omega) hi
      rw [this]; simp

theorem foldS_up (l : Txts) : ∀ o : Txts, Up o → Up (l.foldl insS o) ∧ ∀ x, x ∈ l.foldl insS o ↔ x ∈ o ∨ x ∈ l := by
  induction l with
  | nil => intro o ho; exact ⟨ho, fun x => by simp⟩
  | cons y l ih =>
    intro o ho
    obtain ⟨h1, h2⟩ := insS_up (s := y) ho
    obtain ⟨h3, h4⟩ := ih _ h1
    refine ⟨h3, fun x => ?_⟩
    rw [List.foldl_cons, h4, h2, List.mem_cons]
    constructor
    · rintro ((h | h) | h)
      · exact .inr (.inl h)
      · exact .inl h
      · exact .inr (.inr h)
    · rintro (h | h | h)
      · exact .inl (.inr h)
      · exact .inl (.inl h)
      · exact .inr h
theorem sortS_up (l : Txts) : Up (sortS l) := (foldS_up l [] List.Pairwise.nil).1
theorem sortS_mem (l : Txts) (x : List UInt8) : x ∈ sortS l ↔ x ∈ l := by
  have := (foldS_up l [] List.Pairwise.nil).2 x
  simpa [sortS] using this
/-- Two lists that rise and have the same texts are one. -/
theorem up_ext {l m : Txts} (hl : Up l) (hm : Up m) (h : ∀ x, x ∈ l ↔ x ∈ m) : l = m :=
  rise_ext (lt := fun a b => bless a b = true) (fun a => by rw [bless_irr]; simp) (fun a b c => bless_tr) hl hm h
theorem sortS_self {l : Txts} (hl : Up l) : sortS l = l := up_ext (sortS_up l) hl (sortS_mem l)

theorem sort_loop {v : Val} {nv q : Nat} {l : Txts} {g : Heap} (hv : Has g v 1 nv (encS l)) (hn : l.length = nv) (h62 : nv < 1073741824) : ∀ (e i m : Nat) (o : Txts) (h : Heap) (id : Nat), i + e = nv → e < m → o.length ≤ i → Low g.length g h → g.length ≤ id → rd h id = some ⟨encS o, true⟩ →
    ∃ v2 h2, name_Sort_l0 q m (.c (.sl id 0 o.length 1)) v (.c (.i .i64 nv)) (.c (.i .i64 i)) h = some (v2, h2) ∧ Out g.length h2 v2 1 ((l.drop i).foldl insS o).length (encS ((l.drop i).foldl insS o))
  | e, i, 0, o, h, id, _, hm, _, _, _, _ => by omega
  | 0, i, m + 1, o, h, id, hi, hm, hol, hlow, hid, hr => by
    have e0 : i = nv := by omega
    subst e0
    have c0 : ¬ (i : Int) < i := by omega
    rw [name_Sort_l0_eq, List.drop_of_length_le (by omega), List.foldl_nil]
    exact ⟨_, _, by simp only [afAddr_p, List.append_nil, if_true, if_false, bnd_some, mp_some, cnd_t, cnd_f, gd_no, gd_tt, gd_tf, gd_ft, gd_ff, alenS_s, alen_sl, alen_ns, abin_add, abin_sub, abin_mul, abin_eql, abin_neq, abin_lss, abin_leq, abin_gtr, abin_geq, abin_seql, abin_sneq, abin_slss, aun_not, aun_neg, aeqB_t, aeqB_f, aconv_i, apick_b, cond_true, cond_false, decide_true, decide_false, Bool.not_true, Bool.not_false, aext_t, ofPart_c, ofPart_a, part?_c, part?_a, cells?_c, cells?_a, tupN_2, tupN_3, Option.map_some, Option.some.injEq, List.getElem?_cons_zero, List.getElem?_cons_succ, not_true_eq_false, not_false_eq_true, quiet_same, bytesI_length, Option.join_some, List.append_assoc, List.cons_append, List.nil_append, List.length_append, List.length_cons, List.length_nil, Nat.zero_add, Nat.add_zero, rd_at, rd_at0, set_at, set_at0, List.set_cons_zero, List.set_cons_succ, ne_eq, decide_not, quiet_ext, newOk_some, List.cons_prefix_cons, List.nil_prefix, List.drop_succ_cons, List.drop_zero, List.all_cons, List.all_nil, Bool.and_true, true_and, and_true, c0] <;> rfl, by rw [encS_length]; omega, _, rfl, hid, hr⟩
  | e + 1, i, m + 1, o, h, id, hi, hm, hol, hlow, hid, hr => by
    have c0 : (i : Int) < nv := by omega
    obtain ⟨jd, off, ev, hjd, k1, k2⟩ := (hv.since hlow).sl (by omega)
    have hx := k1 i (.s l[i]) (by rw [encS_get, List.getElem?_eq_getElem (by omega)]; rfl)
    have eb : aiAddrL 1 v (.c (.i .i64 (i : Int))) = some (.c (.p jd (off + i))) := by rw [ev, iAddrL_of (by omega)]; simp
    have hP := name_Place_eq (s := l[i]) (Has.row (sz := 1) (n := o.length) hr (by rw [encS_length]; omega) (noX_encS o)) (by omega)
    rw [List.drop_eq_getElem_cons (by omega : i < l.length), List.foldl_cons]
    change S_name_Place _ h = some (.t [.c (.i .i64 (atS o l[i] : Nat)), .c (.b (isAt o l[i] (atS o l[i])))], h) at hP
    have hat := atS_le o l[i]
    rw [name_Sort_l0_eq]
    generalize hs : l[i] = s at *
    cases c : isAt o s (atS o s) with
    | true =>
      have ei : insS o s = o := by unfold insS; rw [c, cond_true]
      rw [c] at hP
      obtain ⟨v2, h2, f1, f2⟩ := sort_loop (q := q) hv hn h62 e (i + 1) m o h id (by omega) (by omega) (by omega) hlow hid hr
      rw [ei]
      refine ⟨v2, h2, ?_, f2⟩
      simp only [afAddr_p, List.append_nil, if_true, if_false, bnd_some, mp_some, cnd_t, cnd_f, gd_no, gd_tt, gd_tf, gd_ft, gd_ff, alenS_s, alen_sl, alen_ns, abin_add, abin_sub, abin_mul, abin_eql, abin_neq, abin_lss, abin_leq, abin_gtr, abin_geq, abin_seql, abin_sneq, abin_slss, aun_not, aun_neg, aeqB_t, aeqB_f, aconv_i, apick_b, cond_true, cond_false, decide_true, decide_false, Bool.not_true, Bool.not_false, aext_t, ofPart_c, ofPart_a, part?_c, part?_a, cells?_c, cells?_a, tupN_2, tupN_3, Option.map_some, Option.some.injEq, List.getElem?_cons_zero, List.getElem?_cons_succ, not_true_eq_false, not_false_eq_true, quiet_same, bytesI_length, Option.join_some, List.append_assoc, List.cons_append, List.nil_append, List.length_append, List.length_cons, List.length_nil, Nat.zero_add, Nat.add_zero, rd_at, rd_at0, set_at, set_at0, List.set_cons_zero, List.set_cons_succ, ne_eq, decide_not, quiet_ext, newOk_some, List.cons_prefix_cons, List.nil_prefix, List.drop_succ_cons, List.drop_zero, List.all_cons, List.all_nil, Bool.and_true, true_and, and_true, c0, eb, hx, hP, name_Sort_j0_eq, wi_succ (show i + 1 < 9223372036854775808 by omega)]
      exact f1
    | false =>
      have ei : insS o s = o.take (atS o s) ++ s :: o.drop (atS o s) := by unfold insS; rw [c, cond_false]
      rw [c] at hP
      have il := insS_length o s
      generalize hp : atS o s = p at *
      obtain ⟨h1, a1, a2, a3, a4, a5⟩ := push (ys := [.s []]) (sz := 1) (n := o.length) hlow hr (by rw [encS_length]; omega) hid rfl (by omega) (by omega)
      have he : encS o ++ [.s []] = encS (o ++ [[]]) := by simp [encS]
      rw [he] at a2
      have ef : afill [Cell.s []] [(0, 1, .c (.s []))] = some [.s []] := rfl
      have w1 : IntKind.wrap .i64 ((p : Int) + 1) = ((p + 1 : Nat) : Int) := wi_succ (by omega)
      have t1 := slL_from (id := h.length + 1) (n := o.length + 1) (a := p + 1) (by omega)
      have t2 := slL_from (id := h.length + 1) (n := o.length + 1) (a := p) (by omega)
      rw [show o.length + 1 - (p + 1) = o.length - p by omega] at t1
      obtain ⟨cc, t3⟩ := copy_ins (H := h1) (id := h.length + 1) (k := o.length) (p := p) a2 rfl hat
      have t4 : aiAddrL 1 (.c (.sl (h.length + 1) 0 (o.length + 1) 1)) (.c (.i .i64 (p : Int))) = some (.c (.p (h.length + 1) p)) := by rw [iAddrL_of (by omega)]; simp
      have hlt := rd_lt a2
      have t5 : rd (h1.set (h.length + 1) (some ⟨encS ((o ++ [[]]).take (p + 1) ++ o.drop p), true⟩)) (h.length + 1) = some ⟨encS ((o ++ [[]]).take (p + 1) ++ o.drop p), true⟩ := rd_set_same hlt
      have t6 := store1_of (x := .s s) (off := p) t5 (by rw [encS_length, List.length_append, List.length_take, List.length_append]; simp; omega)
      have t7 : (encS ((o ++ [[]]).take (p + 1) ++ o.drop p)).set p (.s s) = encS (insS o s) := by
        rw [ei]
        have e1 : (o ++ [[]]).take (p + 1) = o.take p ++ [(o ++ [[]])[p]'(by simp; omega)] := by
          rw [List.take_succ_eq_append_getElem (by simp; omega), List.take_append_of_le_length hat]
        rw [e1]
        unfold encS
        rw [← List.map_set]
        congr 1
        rw [List.append_assoc, List.set_append_right _ _ (by simp; omega), List.length_take, Nat.min_eq_left hat, Nat.sub_self]
        rfl
      rw [List.set_set, t7] at t6
      obtain ⟨v2, h2, f1, f2⟩ := sort_loop (q := q) hv hn h62 e (i + 1) m (insS o s) (h1.set (h.length + 1) (some ⟨encS (insS o s), true⟩)) (h.length + 1) (by omega) (by omega) (by omega) (a3.set a4 _) a4 (rd_set_same hlt)
      have el : (insS o s).length = o.length + 1 := by rw [ei]; simp; omega
      rw [el] at f1
      refine ⟨v2, h2, ?_, f2⟩
      simp only [afAddr_p, List.append_nil, if_true, if_false, bnd_some, mp_some, cnd_t, cnd_f, gd_no, gd_tt, gd_tf, gd_ft, gd_ff, alenS_s, alen_sl, alen_ns, abin_add, abin_sub, abin_mul, abin_eql, abin_neq, abin_lss, abin_leq, abin_gtr, abin_geq, abin_seql, abin_sneq, abin_slss, aun_not, aun_neg, aeqB_t, aeqB_f, aconv_i, apick_b, cond_true, cond_false, decide_true, decide_false, Bool.not_true, Bool.not_false, aext_t, ofPart_c, ofPart_a, part?_c, part?_a, cells?_c, cells?_a, tupN_2, tupN_3, Option.map_some, Option.some.injEq, List.getElem?_cons_zero, List.getElem?_cons_succ, not_true_eq_false, not_false_eq_true, quiet_same, bytesI_length, Option.join_some, List.append_assoc, List.cons_append, List.nil_append, List.length_append, List.length_cons, List.length_nil, Nat.zero_add, Nat.add_zero, rd_at, rd_at0, set_at, set_at0, List.set_cons_zero, List.set_cons_succ, ne_eq, decide_not, quiet_ext, newOk_some, List.cons_prefix_cons, List.nil_prefix, List.drop_succ_cons, List.drop_zero, List.all_cons, List.all_nil, Bool.and_true, true_and, and_true, c0, eb, hx, hP, ef, a1, w1, t1, t2, t3, t4, t6, name_Sort_j0_eq, wi_succ (show i + 1 < 9223372036854775808 by omega)]
      exact f1

theorem name_Sort_eq {v : Val} {nv : Nat} {l : Txts} {h : Heap} (hv : Has h v 1 nv (encS l)) (h62 : nv < 1073741824) :
    S_name_Sort [v] h = some (.c (.sl h.length 0 (sortS l).length 1), h ++ [some ⟨encS (sortS l), true⟩]) := by
  have hn : l.length = nv := by simpa [encS_length] using hv.length
  have key : ∀ N, nv < N → ∀ g, Has g v 1 nv (encS l) → ∃ v2 g', R_name_Sort N [v] g = some (v2, g') ∧ Out g.length g' v2 1 (sortS l).length (encS (sortS l)) := by
    intro N hN g hv
    obtain ⟨v2, g', f1, f2⟩ := sort_loop (q := N) hv hn h62 nv 0 N [] ((g ++ [some (Row.mk [] true)]) ++ [some (Row.mk [] true)]) (g.length + 1) (by omega) hN (Nat.le_refl _) (((Low.refl (Nat.le_refl _)).new _).new _) (by omega) (by simp [encS])
    rw [List.drop_zero] at f2
    rw [R_name_Sort_eq]
    refine ⟨v2, g', ?_, f2⟩
    rw [hv.len, bnd_some]
    simpa using f1
  obtain ⟨v2, g', e, ho⟩ := key (nv + 1) (by omega) (ro h) hv.ro
  exact S_name_Sort_out e (by simpa [ro_length] using ho) (by simp)

end Go.Proofs.Ytbbkpmbepljhkaa
