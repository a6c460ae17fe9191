/- The law that bytes apart in a block do not meet answers true. -/
import Derived.Test.YtbbkpmbepljhkaaSLaw01
import Derived.Test.YtbbkpmbepljhkaaGEscheatlaw01NumApart
set_option linter.all false
namespace Go.Proofs.Ytbbkpmbepljhkaa
open Go Go.Esc

theorem lay_apart {b x y : List UInt8} {a : Nat} (ha : x.length ≤ a) (hy : a + y.length ≤ b.length) : layB (layB b 0 x) a y = layB (layB b a y) 0 x := by
  have h1 : (layB b 0 x).length = b.length := layB_length (by omega)
  have h2 : (layB b a y).length = b.length := layB_length hy
  apply List.ext_getElem?
  intro n
  rw [layB_get (by omega), layB_get (by omega), layB_get (by omega), layB_get (by omega)]
  by_cases c1 : a ≤ n ∧ n < a + y.length
  · rw [if_pos c1, if_neg (by omega), if_pos c1]
  · rw [if_neg c1, if_neg c1]

theorem cut_lay {b x : List UInt8} {a : Nat} (h : a + x.length ≤ b.length) : cutB (layB b a x) a x.length = x := by
  unfold cutB layB
  rw [if_pos (by omega)]
  simp only [Int.toNat_natCast]
  rw [List.drop_left' (by simp; omega), List.take_left' rfl]

theorem layI_at {l x : List UInt8} {a : Nat} (ha : a < 256) (h : a + x.length ≤ 256) : layI l (a : Int) x = layB l a x := by
  unfold layI
  rw [if_pos (by omega)]
  simp only [Int.toNat_natCast]
  rw [List.take_of_length_le (by omega)]

theorem numApart_eq {x1 x2 : Cell} {n1 n2 : Nat} {b p q : List UInt8} {w : UInt8} (h : Heap) (hv1 : Has h (.c x1) 1 n1 (encB p)) (hv2 : Has h (.c x2) 1 n2 (encB q)) (hb : b.length = 256) (b1 : n1 < 4611686018427387904) (b2 : n2 < 4611686018427387904) :
    S_escheatlaw01_NumApart [.a (encB b), .a [x1, x2], .c (.i .u8 w.toNat)] h = some (.c (.b true), h) := by
  have key : ∀ g, Has g (.c x1) 1 n1 (encB p) → Has g (.c x2) 1 n2 (encB q) → ∃ g', R_escheatlaw01_NumApart 0 [.a (encB b), .a [x1, x2], .c (.i .u8 w.toNat)] g = some (.c (.b true), g') := by
    intro g hv1 hv2
    have hp : p.length = n1 := by simpa [encB_length] using hv1.length
    have hq : q.length = n2 := by simpa [encB_length] using hv2.length
    have hB : (encB b).length = 256 := by rw [encB_length, hb]
    have hz : (List.replicate 256 (Cell.i .u8 0)).length = 256 := List.length_replicate
    have a0 : aiAddrA 2 1 (.c (.p (g.length + 1) 0)) (.c (.i .i64 0)) = some (.c (.p (g.length + 1) 0)) := rfl
    have a1 : aiAddrA 2 1 (.c (.p (g.length + 1) 0)) (.c (.i .i64 1)) = some (.c (.p (g.length + 1) 1)) := rfl
    have l1 := hv1.len
    have l2 := hv2.len
    rw [R_escheatlaw01_NumApart_eq]
    generalize List.replicate 256 (Cell.i .u8 0) = z at *
    by_cases c1 : (n1 : Int) = 0
    · exact ⟨_, by simp only [afAddr_p, List.append_nil, if_true, if_false, bnd_some, mp_some, cnd_t, cnd_f, gd_no, gd_tt, gd_tf, gd_ft, gd_ff, alenS_s, alen_sl, alen_ns, abin_add, abin_sub, abin_mul, abin_eql, abin_neq, abin_lss, abin_leq, abin_gtr, abin_geq, abin_seql, abin_sneq, abin_slss, aun_not, aun_neg, aeqB_t, aeqB_f, aconv_i, apick_b, cond_true, cond_false, decide_true, decide_false, Bool.not_true, Bool.not_false, aext_t, ofPart_c, ofPart_a, part?_c, part?_a, cells?_c, cells?_a, tupN_2, tupN_3, Option.map_some, Option.some.injEq, List.getElem?_cons_zero, List.getElem?_cons_succ, not_true_eq_false, not_false_eq_true, quiet_same, bytesI_length, Option.join_some, List.append_assoc, List.cons_append, List.nil_append, List.length_append, List.length_cons, List.length_nil, Nat.zero_add, Nat.add_zero, rd_at, rd_at0, set_at, set_at0, List.set_cons_zero, List.set_cons_succ, ne_eq, decide_not, quiet_ext, newOk_some, List.cons_prefix_cons, List.nil_prefix, List.drop_succ_cons, List.drop_zero, List.all_cons, List.all_nil, Bool.and_true, true_and, and_true, aloadN_at, aloadN_at0, aload1_at, aload1_at0, astoreN_at, astoreN_at0, astore1_at, astore1_at0, aslA_at, aslA_at0, ldN_all, ld1_row, stN_all, st1_row, slr_all, Nat.reduceAdd, Nat.reduceMul, Nat.reduceLT, hB, a0, a1, l1, l2, c1, works01_eq] <;> rfl⟩
    · by_cases c2 : (n2 : Int) = 0
      · exact ⟨_, by simp only [afAddr_p, List.append_nil, if_true, if_false, bnd_some, mp_some, cnd_t, cnd_f, gd_no, gd_tt, gd_tf, gd_ft, gd_ff, alenS_s, alen_sl, alen_ns, abin_add, abin_sub, abin_mul, abin_eql, abin_neq, abin_lss, abin_leq, abin_gtr, abin_geq, abin_seql, abin_sneq, abin_slss, aun_not, aun_neg, aeqB_t, aeqB_f, aconv_i, apick_b, cond_true, cond_false, decide_true, decide_false, Bool.not_true, Bool.not_false, aext_t, ofPart_c, ofPart_a, part?_c, part?_a, cells?_c, cells?_a, tupN_2, tupN_3, Option.map_some, Option.some.injEq, List.getElem?_cons_zero, List.getElem?_cons_succ, not_true_eq_false, not_false_eq_true, quiet_same, bytesI_length, Option.join_some, List.append_assoc, List.cons_append, List.nil_append, List.length_append, List.length_cons, List.length_nil, Nat.zero_add, Nat.add_zero, rd_at, rd_at0, set_at, set_at0, List.set_cons_zero, List.set_cons_succ, ne_eq, decide_not, quiet_ext, newOk_some, List.cons_prefix_cons, List.nil_prefix, List.drop_succ_cons, List.drop_zero, List.all_cons, List.all_nil, Bool.and_true, true_and, and_true, aloadN_at, aloadN_at0, aload1_at, aload1_at0, astoreN_at, astoreN_at0, astore1_at, astore1_at0, aslA_at, aslA_at0, ldN_all, ld1_row, stN_all, st1_row, slr_all, Nat.reduceAdd, Nat.reduceMul, Nat.reduceLT, hB, a0, a1, l1, l2, c1, c2, works01_eq] <;> rfl⟩
      · have w1 : IntKind.wrap .i64 ((n1 : Int) + n2) = ((n1 + n2 : Nat) : Int) := wi_add (by omega)
        by_cases c3 : (200 : Int) < ((n1 + n2 : Nat) : Int)
        · exact ⟨_, by simp only [afAddr_p, List.append_nil, if_true, if_false, bnd_some, mp_some, cnd_t, cnd_f, gd_no, gd_tt, gd_tf, gd_ft, gd_ff, alenS_s, alen_sl, alen_ns, abin_add, abin_sub, abin_mul, abin_eql, abin_neq, abin_lss, abin_leq, abin_gtr, abin_geq, abin_seql, abin_sneq, abin_slss, aun_not, aun_neg, aeqB_t, aeqB_f, aconv_i, apick_b, cond_true, cond_false, decide_true, decide_false, Bool.not_true, Bool.not_false, aext_t, ofPart_c, ofPart_a, part?_c, part?_a, cells?_c, cells?_a, tupN_2, tupN_3, Option.map_some, Option.some.injEq, List.getElem?_cons_zero, List.getElem?_cons_succ, not_true_eq_false, not_false_eq_true, quiet_same, bytesI_length, Option.join_some, List.append_assoc, List.cons_append, List.nil_append, List.length_append, List.length_cons, List.length_nil, Nat.zero_add, Nat.add_zero, rd_at, rd_at0, set_at, set_at0, List.set_cons_zero, List.set_cons_succ, ne_eq, decide_not, quiet_ext, newOk_some, List.cons_prefix_cons, List.nil_prefix, List.drop_succ_cons, List.drop_zero, List.all_cons, List.all_nil, Bool.and_true, true_and, and_true, aloadN_at, aloadN_at0, aload1_at, aload1_at0, astoreN_at, astoreN_at0, astore1_at, astore1_at0, aslA_at, aslA_at0, ldN_all, ld1_row, stN_all, st1_row, slr_all, Nat.reduceAdd, Nat.reduceMul, Nat.reduceLT, hB, a0, a1, l1, l2, c1, c2, w1, c3, works01_eq] <;> rfl⟩
        · have hw := w.toNat_lt
          have e1 := rem_i (a := (w.toNat : Int)) (b := 56) (k := .u8) (by omega) (by omega)
          have e2 : IntKind.wrap .i64 ((w.toNat : Int) % 56) = ((w.toNat % 56 : Nat) : Int) := by rw [wrap_i64 (by omega) (by omega)]; omega
          have e3 : IntKind.wrap .i64 ((n1 : Int) + ((w.toNat % 56 : Nat) : Int)) = ((n1 + w.toNat % 56 : Nat) : Int) := wi_add (by omega)
          have hA : n1 + w.toNat % 56 + n2 ≤ 256 ∧ n1 + w.toNat % 56 < 256 := by omega
          have hA1 : n1 ≤ n1 + w.toNat % 56 := by omega
          generalize w.toNat % 56 = G at *
          generalize n1 + G = A at *
          have hP : (layB b 0 p).length = 256 := by rw [layB_length (by omega), hb]
          have hQ : (layB b A q).length = 256 := by rw [layB_length (by omega), hb]
          have hX : (layB (layB b 0 p) A q).length = 256 := by rw [layB_length (by omega), hP]
          have hXe : (encB (layB (layB b 0 p) A q)).length = 256 := by rw [encB_length, hX]
          have i1 : ∀ l : List UInt8, layI l 0 p = layB l 0 p := fun l => layI_at (a := 0) (by omega) (by omega)
          have i2 : ∀ l : List UInt8, layI l (A : Int) q = layB l A q := fun l => layI_at (by omega) (by omega)
          have p1 := fun l' => num_Lay_eq (h := g ++ l') (hv1.more l') hb (by omega) (a := 0)
          have p2 := fun l' => num_Lay_eq (h := g ++ l') (hv2.more l') hP (by omega) (a := (A : Int))
          have p3 := fun l' => num_Lay_eq (h := g ++ l') (hv2.more l') hb (by omega) (a := (A : Int))
          have p4 := fun l' => num_Lay_eq (h := g ++ l') (hv1.more l') hQ (by omega) (a := 0)
          rw [i1] at p1 p4
          rw [i2] at p2 p3
          rw [← lay_apart (by omega) (by omega)] at p4
          have hqq := aeq_f (n := 256) hX hX
          rw [decide_eq_true rfl] at hqq
          have k1 : cutB (layB (layB b 0 p) A q) 0 (n1 : Int) = p := by
            rw [lay_apart (by omega) (by omega), ← hp]
            exact cut_lay (a := 0) (by omega)
          have k2 : cutB (layB (layB b 0 p) A q) (A : Int) (n2 : Int) = q := by
            rw [← hq]
            exact cut_lay (by omega)
          have u1 := fun h => num_Cut_eq (h := h) hX (a := 0) (n := (n1 : Int))
          have u2 := fun h => num_Cut_eq (h := h) hX (a := (A : Int)) (n := (n2 : Int))
          rw [k1, hp] at u1
          rw [k2, hq] at u2
          have s1 := ref01_Same_eq (h := g ++ [some (Row.mk (encB b) true), some (Row.mk [x1, x2] true), some (Row.mk (encB (layB (layB b 0 p) A q)) true), some (Row.mk (encB (layB (layB b 0 p) A q)) true), some (Row.mk (encB p) true)]) (v := .c (.sl (g.length + 4) 0 n1 1)) (nv := n1) (u := .c x1) (nu := n1) (l := p) (r := p) (Has.tr (by simp) (by rw [encB_length]; omega) (noX_encB _)) (hv1.more _) (by omega)
          have s2 := ref01_Same_eq (h := g ++ [some (Row.mk (encB b) true), some (Row.mk [x1, x2] true), some (Row.mk (encB (layB (layB b 0 p) A q)) true), some (Row.mk (encB (layB (layB b 0 p) A q)) true), some (Row.mk (encB p) true), some (Row.mk (encB q) true)]) (v := .c (.sl (g.length + 5) 0 n2 1)) (nv := n2) (u := .c x2) (nu := n2) (l := q) (r := q) (Has.tr (by simp) (by rw [encB_length]; omega) (noX_encB _)) (hv2.more _) (by omega)
          rw [decide_eq_true rfl] at s1 s2
          generalize layB (layB b 0 p) A q = X at *
          generalize layB b 0 p = P at *
          generalize layB b A q = Q at *
          exact ⟨_, by simp only [afAddr_p, List.append_nil, if_true, if_false, bnd_some, mp_some, cnd_t, cnd_f, gd_no, gd_tt, gd_tf, gd_ft, gd_ff, alenS_s, alen_sl, alen_ns, abin_add, abin_sub, abin_mul, abin_eql, abin_neq, abin_lss, abin_leq, abin_gtr, abin_geq, abin_seql, abin_sneq, abin_slss, aun_not, aun_neg, aeqB_t, aeqB_f, aconv_i, apick_b, cond_true, cond_false, decide_true, decide_false, Bool.not_true, Bool.not_false, aext_t, ofPart_c, ofPart_a, part?_c, part?_a, cells?_c, cells?_a, tupN_2, tupN_3, Option.map_some, Option.some.injEq, List.getElem?_cons_zero, List.getElem?_cons_succ, not_true_eq_false, not_false_eq_true, quiet_same, bytesI_length, Option.join_some, List.append_assoc, List.cons_append, List.nil_append, List.length_append, List.length_cons, List.length_nil, Nat.zero_add, Nat.add_zero, rd_at, rd_at0, set_at, set_at0, List.set_cons_zero, List.set_cons_succ, ne_eq, decide_not, quiet_ext, newOk_some, List.cons_prefix_cons, List.nil_prefix, List.drop_succ_cons, List.drop_zero, List.all_cons, List.all_nil, Bool.and_true, true_and, and_true, aloadN_at, aloadN_at0, aload1_at, aload1_at0, astoreN_at, astoreN_at0, astore1_at, astore1_at0, aslA_at, aslA_at0, ldN_all, ld1_row, stN_all, st1_row, slr_all, Nat.reduceAdd, Nat.reduceMul, Nat.reduceLT, hB, a0, a1, l1, l2, c1, c2, w1, c3, e1, e2, e3, p1, p2, hz, hXe, p3, p4, hqq, u1, s1, u2, s2, works01_eq] <;> rfl⟩
  obtain ⟨g', e⟩ := key (ro h) hv1.ro hv2.ro
  exact S_escheatlaw01_NumApart_flat e rfl

end Go.Proofs.Ytbbkpmbepljhkaa
