/- The law of numbers that are read again answers true. -/
import Derived.Test.YtbbkpmbepljhkaaSLaw01
import Derived.Test.YtbbkpmbepljhkaaGEscheatlaw01NumBack
set_option linter.all false
namespace Go.Proofs.Ytbbkpmbepljhkaa
open Go Go.Esc

theorem numBack_loop {l : List UInt8} {c2 : List Cell} {g : Heap} {w p k : Nat} {n : Int} (hl : l.length = 256) (hw : 1 ≤ w) (hw4 : w ≤ 4) (hp : p + w ≤ 256) (hn : n = le (bytesI w n)) : ∀ d i m : Nat, i + d = 256 → d < m →
    escheatlaw01_NumBack_l0 k m (.c (.p g.length 0)) (.c (.i .i64 w)) (.c (.i .i64 p)) (.c (.i .i64 n)) (.c (.p (g.length + 2) 0)) (.c (.i .i64 i)) (g ++ [some ⟨encB l, true⟩, some ⟨c2, true⟩, some ⟨encB (withB l p w n), true⟩]) =
      some (.c (.b true), g ++ [some ⟨encB l, true⟩, some ⟨c2, true⟩, some ⟨encB (withB l p w n), true⟩])
  | d, i, 0, _, hm => by omega
  | 0, i, m + 1, hi, hm => by
    have e : i = 256 := by omega
    subst e
    have hX : (encB (withB l p w n)).length = 256 := by rw [encB_length, withB_length hl]
    have ht : thereI p w 256 = true := by rw [thereI_true]; omega
    have ha := num_At_eq (h := g ++ [some ⟨encB l, true⟩, some ⟨c2, true⟩, some ⟨encB (withB l p w n), true⟩]) (l := withB l p w n) (withB_length hl) (a := p) (w := w)
    have e2 : ((atN (withB l p w n) p w : Nat) : Int) = n := by
      unfold atN withB
      rw [if_pos ⟨by omega, ht⟩, if_pos ⟨by omega, ht⟩]
      simp only [Int.toNat_natCast]
      have := layB_cut (l := l) (xs := bytesI w n) (a := p) (by simp; omega)
      rw [bytesI_length] at this
      rw [this]; exact hn.symm
    rw [e2] at ha
    have h1' : ¬ ((256 : Nat) : Int) < 256 := by omega
    rw [escheatlaw01_NumBack_l0_eq]
    simp only [List.append_nil, if_true, if_false, bnd_some, mp_some, cnd_t, cnd_f, gd_no, gd_tt, gd_tf, gd_ft, gd_ff, alenS_s, alen_sl, alen_ns, abin_add, abin_sub, abin_mul, abin_eql, abin_neq, abin_lss, abin_leq, abin_gtr, abin_geq, abin_seql, abin_sneq, abin_slss, aun_not, aun_neg, aeqB_t, aeqB_f, aconv_i, apick_b, cond_true, cond_false, decide_true, decide_false, Bool.not_true, Bool.not_false, aext_t, ofPart_c, ofPart_a, part?_c, part?_a, cells?_c, cells?_a, tupN_2, tupN_3, Option.map_some, Option.some.injEq, List.getElem?_cons_zero, List.getElem?_cons_succ, not_true_eq_false, not_false_eq_true, quiet_same, bytesI_length, Option.join_some, List.append_assoc, List.cons_append, List.nil_append, List.length_append, List.length_cons, List.length_nil, Nat.zero_add, Nat.add_zero, rd_at, rd_at0, set_at, set_at0, List.set_cons_zero, List.set_cons_succ, ne_eq, decide_not, aloadN_at, aloadN_at0, aload1_at, aload1_at0, astoreN_at, astoreN_at0, astore1_at, astore1_at0, aslA_at, aslA_at0, ldN_all, ld1_row, stN_all, st1_row, slr_all, Nat.reduceAdd, Nat.reduceMul, Nat.reduceLT, h1', hX, ha, works01_eq]
  | d + 1, i, m + 1, hi, hm => by
    have ih := numBack_loop (g := g) (c2 := c2) (k := k) hl hw hw4 hp hn d (i + 1) m (by omega) (by omega)
    have h1' : (i : Int) < 256 := by omega
    have ea : aiAddrA 256 1 (.c (.p g.length 0)) (.c (.i .i64 (i : Int))) = some (.c (.p g.length i)) := by rw [iAddrA_of (by omega)]; simp
    have eb : aiAddrA 256 1 (.c (.p (g.length + 2) 0)) (.c (.i .i64 (i : Int))) = some (.c (.p (g.length + 2) i)) := by rw [iAddrA_of (by omega)]; simp
    have ht : thereI p w 256 = true := by rw [thereI_true]; omega
    have eq : ¬ (p ≤ i ∧ i < p + w) → (withB l p w n)[i]? = some l[i] := by
      intro hc
      unfold withB
      rw [if_pos ⟨by omega, ht⟩]
      simp only [Int.toNat_natCast]
      rw [layB_get (by simp; omega), if_neg (by simpa using hc)]
      exact List.getElem?_eq_getElem (by omega)
    have g1 : (encB l)[i]? = some (.i .u8 l[i].toNat) := by rw [encB_get, List.getElem?_eq_getElem (by omega)]; rfl
    rw [escheatlaw01_NumBack_l0_eq]
    by_cases c1 : i < p
    · have c1' : (i : Int) < p := by omega
      have g2 : (encB (withB l p w n))[i]? = some (.i .u8 l[i].toNat) := by rw [encB_get, eq (by omega)]; rfl
      simp only [List.append_nil, if_true, if_false, bnd_some, mp_some, cnd_t, cnd_f, gd_no, gd_tt, gd_tf, gd_ft, gd_ff, alenS_s, alen_sl, alen_ns, abin_add, abin_sub, abin_mul, abin_eql, abin_neq, abin_lss, abin_leq, abin_gtr, abin_geq, abin_seql, abin_sneq, abin_slss, aun_not, aun_neg, aeqB_t, aeqB_f, aconv_i, apick_b, cond_true, cond_false, decide_true, decide_false, Bool.not_true, Bool.not_false, aext_t, ofPart_c, ofPart_a, part?_c, part?_a, cells?_c, cells?_a, tupN_2, tupN_3, Option.map_some, Option.some.injEq, List.getElem?_cons_zero, List.getElem?_cons_succ, not_true_eq_false, not_false_eq_true, quiet_same, bytesI_length, Option.join_some, List.append_assoc, List.cons_append, List.nil_append, List.length_append, List.length_cons, List.length_nil, Nat.zero_add, Nat.add_zero, rd_at, rd_at0, set_at, set_at0, List.set_cons_zero, List.set_cons_succ, ne_eq, decide_not, aloadN_at, aloadN_at0, aload1_at, aload1_at0, astoreN_at, astoreN_at0, astore1_at, astore1_at0, aslA_at, aslA_at0, ldN_all, ld1_row, stN_all, st1_row, slr_all, Nat.reduceAdd, Nat.reduceMul, Nat.reduceLT, h1', c1', ea, eb, g1, g2, wi_succ (show i + 1 < 9223372036854775808 by omega)]
      exact ih
    · have c1' : ¬ (i : Int) < p := by omega
      by_cases c2' : p + w ≤ i
      · have c3 : ((p + w : Nat) : Int) ≤ i := by omega
        have g2 : (encB (withB l p w n))[i]? = some (.i .u8 l[i].toNat) := by rw [encB_get, eq (by omega)]; rfl
        simp only [List.append_nil, if_true, if_false, bnd_some, mp_some, cnd_t, cnd_f, gd_no, gd_tt, gd_tf, gd_ft, gd_ff, alenS_s, alen_sl, alen_ns, abin_add, abin_sub, abin_mul, abin_eql, abin_neq, abin_lss, abin_leq, abin_gtr, abin_geq, abin_seql, abin_sneq, abin_slss, aun_not, aun_neg, aeqB_t, aeqB_f, aconv_i, apick_b, cond_true, cond_false, decide_true, decide_false, Bool.not_true, Bool.not_false, aext_t, ofPart_c, ofPart_a, part?_c, part?_a, cells?_c, cells?_a, tupN_2, tupN_3, Option.map_some, Option.some.injEq, List.getElem?_cons_zero, List.getElem?_cons_succ, not_true_eq_false, not_false_eq_true, quiet_same, bytesI_length, Option.join_some, List.append_assoc, List.cons_append, List.nil_append, List.length_append, List.length_cons, List.length_nil, Nat.zero_add, Nat.add_zero, rd_at, rd_at0, set_at, set_at0, List.set_cons_zero, List.set_cons_succ, ne_eq, decide_not, aloadN_at, aloadN_at0, aload1_at, aload1_at0, astoreN_at, astoreN_at0, astore1_at, astore1_at0, aslA_at, aslA_at0, ldN_all, ld1_row, stN_all, st1_row, slr_all, Nat.reduceAdd, Nat.reduceMul, Nat.reduceLT, h1', c1', wi_add (show p + w < 9223372036854775808 by omega), c3, ea, eb, g1, g2, wi_succ (show i + 1 < 9223372036854775808 by omega)]
        exact ih
      · have c3 : ¬ ((p + w : Nat) : Int) ≤ i := by omega
        simp only [List.append_nil, if_true, if_false, bnd_some, mp_some, cnd_t, cnd_f, gd_no, gd_tt, gd_tf, gd_ft, gd_ff, alenS_s, alen_sl, alen_ns, abin_add, abin_sub, abin_mul, abin_eql, abin_neq, abin_lss, abin_leq, abin_gtr, abin_geq, abin_seql, abin_sneq, abin_slss, aun_not, aun_neg, aeqB_t, aeqB_f, aconv_i, apick_b, cond_true, cond_false, decide_true, decide_false, Bool.not_true, Bool.not_false, aext_t, ofPart_c, ofPart_a, part?_c, part?_a, cells?_c, cells?_a, tupN_2, tupN_3, Option.map_some, Option.some.injEq, List.getElem?_cons_zero, List.getElem?_cons_succ, not_true_eq_false, not_false_eq_true, quiet_same, bytesI_length, Option.join_some, List.append_assoc, List.cons_append, List.nil_append, List.length_append, List.length_cons, List.length_nil, Nat.zero_add, Nat.add_zero, rd_at, rd_at0, set_at, set_at0, List.set_cons_zero, List.set_cons_succ, ne_eq, decide_not, aloadN_at, aloadN_at0, aload1_at, aload1_at0, astoreN_at, astoreN_at0, astore1_at, astore1_at0, aslA_at, aslA_at0, ldN_all, ld1_row, stN_all, st1_row, slr_all, Nat.reduceAdd, Nat.reduceMul, Nat.reduceLT, h1', c1', wi_add (show p + w < 9223372036854775808 by omega), c3, wi_succ (show i + 1 < 9223372036854775808 by omega)]
        exact ih

theorem numBack_eq {l : List UInt8} {a b : UInt8} {v : Int} (h : Heap) (hl : l.length = 256) (hv0 : 0 ≤ v) (hv1 : v < 4294967296) :
    S_escheatlaw01_NumBack [.a (encB l), .a (encB [a, b]), .c (.i .u32 v)] h = some (.c (.b true), h) := by
  have key : ∀ g, ∃ g', R_escheatlaw01_NumBack 257 [.a (encB l), .a (encB [a, b]), .c (.i .u32 v)] g = some (.c (.b true), g') := by
    intro g
    have ha := a.toNat_lt
    have hb := b.toNat_lt
    obtain ⟨w, hw⟩ : ∃ w : Nat, w = 1 + b.toNat % 4 := ⟨_, rfl⟩
    obtain ⟨p, hp⟩ : ∃ p : Nat, p = a.toNat % (257 - w) := ⟨_, rfl⟩
    have hp2 : p < 257 - w := by rw [hp]; exact Nat.mod_lt _ (by omega)
    have hX : (encB l).length = 256 := by rw [encB_length, hl]
    have a0 : aiAddrA 2 1 (.c (.p (g.length + 1) 0)) (.c (.i .i64 0)) = some (.c (.p (g.length + 1) 0)) := rfl
    have a1 : aiAddrA 2 1 (.c (.p (g.length + 1) 0)) (.c (.i .i64 1)) = some (.c (.p (g.length + 1) 1)) := rfl
    have l0 : (encB [a, b])[0]? = some (.i .u8 a.toNat) := rfl
    have l1 : (encB [a, b])[1]? = some (.i .u8 b.toNat) := rfl
    have e1 : abin .rem (.c (.i .u8 (b.toNat : Int))) (.c (.i .u8 4)) = some (.c (.i .u8 ((b.toNat % 4 : Nat) : Int))) := by
      rw [abin_rem (by omega), Int.tmod_eq_emod_of_nonneg (by omega)]; simp
    have e2 : IntKind.wrap .i64 ((b.toNat % 4 : Nat) : Int) = ((b.toNat % 4 : Nat) : Int) := wrap_i64 (by omega) (by omega)
    have e3 : IntKind.wrap .i64 (1 + ((b.toNat % 4 : Nat) : Int)) = (w : Int) := by rw [wrap_i64 (by omega) (by omega)]; omega
    have e4 : IntKind.wrap .i64 (a.toNat : Int) = a.toNat := wrap_i64 (by omega) (by omega)
    have e5 : IntKind.wrap .i64 (257 - (w : Int)) = ((257 - w : Nat) : Int) := by rw [wrap_i64 (by omega) (by omega)]; omega
    have e6 : abin .rem (.c (.i .i64 (a.toNat : Int))) (.c (.i .i64 ((257 - w : Nat) : Int))) = some (.c (.i .i64 (p : Int))) := by
      rw [abin_rem (by omega), Int.tmod_eq_emod_of_nonneg (by omega), hp]; simp
    have e7 : IntKind.wrap .i64 v = v := wrap_i64 (by omega) (by omega)
    have fin : ∀ n : Int, 0 ≤ n → n < 256 ^ w → ∃ g', escheatlaw01_NumBack_j0 257 (.c (.p g.length 0)) (.c (.i .i64 w)) (.c (.i .i64 p)) (.c (.i .i64 n)) (g ++ [some ⟨encB l, true⟩, some ⟨encB [a, b], true⟩]) = some (.c (.b true), g') := by
      intro n h0 h1
      have hn : n = le (bytesI w n) := by rw [le_bytesI, Int.emod_eq_of_lt h0 h1]
      have f1 := num_With_eq (h := g ++ [some ⟨encB l, true⟩, some ⟨encB [a, b], true⟩]) hl (a := p) (w := w) (v := n)
      have hY : (encB (withB l p w n)).length = 256 := by rw [encB_length, withB_length hl]
      have hz : (List.replicate 256 (Cell.i .u8 0)).length = 256 := List.length_replicate
      have := numBack_loop (g := g) (c2 := encB [a, b]) (w := w) (p := p) (k := 257) hl (by omega) (by omega) (by omega) hn 256 0 257 (by omega) (by omega)
      rw [escheatlaw01_NumBack_j0_eq]
      generalize List.replicate 256 (Cell.i .u8 0) = z at *
      exact ⟨_, by simp only [List.append_nil, if_true, if_false, bnd_some, mp_some, cnd_t, cnd_f, gd_no, gd_tt, gd_tf, gd_ft, gd_ff, alenS_s, alen_sl, alen_ns, abin_add, abin_sub, abin_mul, abin_eql, abin_neq, abin_lss, abin_leq, abin_gtr, abin_geq, abin_seql, abin_sneq, abin_slss, aun_not, aun_neg, aeqB_t, aeqB_f, aconv_i, apick_b, cond_true, cond_false, decide_true, decide_false, Bool.not_true, Bool.not_false, aext_t, ofPart_c, ofPart_a, part?_c, part?_a, cells?_c, cells?_a, tupN_2, tupN_3, Option.map_some, Option.some.injEq, List.getElem?_cons_zero, List.getElem?_cons_succ, not_true_eq_false, not_false_eq_true, quiet_same, bytesI_length, Option.join_some, List.append_assoc, List.cons_append, List.nil_append, List.length_append, List.length_cons, List.length_nil, Nat.zero_add, Nat.add_zero, rd_at, rd_at0, set_at, set_at0, List.set_cons_zero, List.set_cons_succ, ne_eq, decide_not, aloadN_at, aloadN_at0, aload1_at, aload1_at0, astoreN_at, astoreN_at0, astore1_at, astore1_at0, aslA_at, aslA_at0, ldN_all, ld1_row, stN_all, st1_row, slr_all, Nat.reduceAdd, Nat.reduceMul, Nat.reduceLT, hX, f1, hY, hz]; exact this⟩
    rw [R_escheatlaw01_NumBack_eq]
    by_cases c1 : w < 4
    · have c1' : (w : Int) < 4 := by omega
      have e8 : IntKind.wrap .i64 (8 * (w : Int)) = 8 * w := wrap_i64 (by omega) (by omega)
      have e9 : IntKind.wrap .u64 (8 * (w : Int)) = 8 * w := wrap_u64 (by omega) (by omega)
      have hpw : (256 : Nat) ^ w = 2 ^ (8 * w) := by rw [Nat.pow_mul]
      have hpl : 256 ^ w ≤ 256 ^ 3 := pow256_le (by omega)
      have hpp : 0 < 256 ^ w := Nat.pow_pos (by omega)
      have e10 : abin .shl (.c (.i .i64 1)) (.c (.i .u64 (8 * (w : Int)))) = some (.c (.i .i64 ((256 ^ w : Nat) : Int))) := by
        rw [abin_shl (by omega)]
        have : Nat.min (8 * (w : Int)).toNat IntKind.i64.bits = 8 * w := by
          have : (8 * (w : Int)).toNat = 8 * w := by omega
          rw [this]; exact Nat.min_eq_left (by show 8 * w ≤ 64; omega)
        rw [this, Int.one_mul]
        have e : (2 : Int) ^ (8 * w) = ((256 ^ w : Nat) : Int) := by rw [hpw]; simp
        rw [e, wrap_i64 (by omega) (by omega)]
      have e11 : abin .rem (.c (.i .i64 v)) (.c (.i .i64 ((256 ^ w : Nat) : Int))) = some (.c (.i .i64 (v % 256 ^ w))) := by
        rw [abin_rem (by omega), Int.tmod_eq_emod_of_nonneg hv0]; simp
      obtain ⟨g', f⟩ := fin (v % 256 ^ w) (Int.emod_nonneg _ (Int.ne_of_gt (Int.pow_pos (by omega)))) (Int.emod_lt_of_pos _ (Int.pow_pos (by omega)))
      exact ⟨g', by simp only [List.append_nil, if_true, if_false, bnd_some, mp_some, cnd_t, cnd_f, gd_no, gd_tt, gd_tf, gd_ft, gd_ff, alenS_s, alen_sl, alen_ns, abin_add, abin_sub, abin_mul, abin_eql, abin_neq, abin_lss, abin_leq, abin_gtr, abin_geq, abin_seql, abin_sneq, abin_slss, aun_not, aun_neg, aeqB_t, aeqB_f, aconv_i, apick_b, cond_true, cond_false, decide_true, decide_false, Bool.not_true, Bool.not_false, aext_t, ofPart_c, ofPart_a, part?_c, part?_a, cells?_c, cells?_a, tupN_2, tupN_3, Option.map_some, Option.some.injEq, List.getElem?_cons_zero, List.getElem?_cons_succ, not_true_eq_false, not_false_eq_true, quiet_same, bytesI_length, Option.join_some, List.append_assoc, List.cons_append, List.nil_append, List.length_append, List.length_cons, List.length_nil, Nat.zero_add, Nat.add_zero, rd_at, rd_at0, set_at, set_at0, List.set_cons_zero, List.set_cons_succ, ne_eq, decide_not, aloadN_at, aloadN_at0, aload1_at, aload1_at0, astoreN_at, astoreN_at0, astore1_at, astore1_at0, aslA_at, aslA_at0, ldN_all, ld1_row, stN_all, st1_row, slr_all, Nat.reduceAdd, Nat.reduceMul, Nat.reduceLT, a0, a1, l0, l1, e1, e2, e3, e4, e5, e6, e7, c1', e8, e9, e10, e11]; exact f⟩
    · have c1' : ¬ (w : Int) < 4 := by omega
      have hw4 : w = 4 := by omega
      obtain ⟨g', f⟩ := fin v hv0 (by rw [hw4]; simpa using hv1)
      exact ⟨g', by simp only [List.append_nil, if_true, if_false, bnd_some, mp_some, cnd_t, cnd_f, gd_no, gd_tt, gd_tf, gd_ft, gd_ff, alenS_s, alen_sl, alen_ns, abin_add, abin_sub, abin_mul, abin_eql, abin_neq, abin_lss, abin_leq, abin_gtr, abin_geq, abin_seql, abin_sneq, abin_slss, aun_not, aun_neg, aeqB_t, aeqB_f, aconv_i, apick_b, cond_true, cond_false, decide_true, decide_false, Bool.not_true, Bool.not_false, aext_t, ofPart_c, ofPart_a, part?_c, part?_a, cells?_c, cells?_a, tupN_2, tupN_3, Option.map_some, Option.some.injEq, List.getElem?_cons_zero, List.getElem?_cons_succ, not_true_eq_false, not_false_eq_true, quiet_same, bytesI_length, Option.join_some, List.append_assoc, List.cons_append, List.nil_append, List.length_append, List.length_cons, List.length_nil, Nat.zero_add, Nat.add_zero, rd_at, rd_at0, set_at, set_at0, List.set_cons_zero, List.set_cons_succ, ne_eq, decide_not, aloadN_at, aloadN_at0, aload1_at, aload1_at0, astoreN_at, astoreN_at0, astore1_at, astore1_at0, aslA_at, aslA_at0, ldN_all, ld1_row, stN_all, st1_row, slr_all, Nat.reduceAdd, Nat.reduceMul, Nat.reduceLT, a0, a1, l0, l1, e1, e2, e3, e4, e5, e6, e7, c1']; exact f⟩
  obtain ⟨g', e⟩ := key (ro h)
  exact S_escheatlaw01_NumBack_flat e rfl

end Go.Proofs.Ytbbkpmbepljhkaa
