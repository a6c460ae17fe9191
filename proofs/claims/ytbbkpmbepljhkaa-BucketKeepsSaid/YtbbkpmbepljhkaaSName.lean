/- What the package of names computes, and the document's answer. -/
import Derived.Test.YtbbkpmbepljhkaaEscU
import Derived.Test.YtbbkpmbepljhkaaGName
import Derived.Test.YtbbkpmbepljhkaaSNum
set_option linter.all false
namespace Go.Proofs.Ytbbkpmbepljhkaa
open Go Go.Esc

/-- May the byte be in a name? -/
def fineByte (c : UInt8) : Bool := !(decide ((c.toNat : Int) = 0) || decide ((c.toNat : Int) = 47))

/-- Is it a name? -/
def fineName (s : List UInt8) : Bool := !(decide ((s.length : Int) < 1) || decide (24 < (s.length : Int)) || decide (s = [46]) || decide (s = [46, 46])) && s.all fineByte

theorem fineName_length {s : List UInt8} (h : fineName s = true) : 1 ≤ s.length ∧ s.length ≤ 24 := by
  unfold fineName at h
  simp at h
  omega

theorem check_loop (s : List UInt8) (hs : s.length < 9223372036854775807) (n : Nat) (h : Heap) : ∀ d i m : Nat, i + d = s.length → d < m →
    name_Check_l0 n m (.c (.s s)) (.c (.i .i64 s.length)) (.c (.i .i64 i)) h = some (.c (.i .i64 (bif (s.drop i).all fineByte then 0 else 3)), h)
  | d, i, 0, _, hm => by omega
  | 0, i, m + 1, hi, hm => by
    have c0 : ¬ ((i : Int) < s.length) := by omega
    rw [name_Check_l0_eq, show s.drop i = [] from List.drop_of_length_le (by omega)]
    simp only [afAddr_p, List.append_nil, if_true, if_false, bnd_some, mp_some, cnd_t, cnd_f, gd_no, gd_tt, gd_tf, gd_ft, gd_ff, alenS_s, alen_sl, alen_ns, abin_add, abin_sub, abin_mul, abin_eql, abin_neq, abin_lss, abin_leq, abin_gtr, abin_geq, abin_seql, abin_sneq, abin_slss, aun_not, aun_neg, agn_some, aeqN_nf, aeqN_f, aeqN_np, aeqN_p, anilc_p, aeqB_t, aeqB_f, aconv_i, apick_b, cond_true, cond_false, decide_true, decide_false, Bool.not_true, Bool.not_false, aext_t, ofPart_c, ofPart_a, part?_c, part?_a, cells?_c, cells?_a, tupN_2, tupN_3, Option.map_some, Option.some.injEq, List.getElem?_cons_zero, List.getElem?_cons_succ, not_true_eq_false, not_false_eq_true, quiet_same, bytesI_length, Option.join_some, List.append_assoc, List.cons_append, List.nil_append, List.length_append, List.length_cons, List.length_nil, Nat.zero_add, Nat.add_zero, rd_at, rd_at0, set_at, set_at0, List.set_cons_zero, List.set_cons_succ, ne_eq, decide_not, quiet_ext, newOk_some, List.cons_prefix_cons, List.nil_prefix, List.drop_succ_cons, List.drop_zero, List.all_cons, List.all_nil, Bool.and_true, true_and, and_true, c0, List.all_nil]
  | d + 1, i, m + 1, hi, hm => by
    have h1 : (i : Int) < s.length := by omega
    have h2 : i < s.length := by omega
    have ih := check_loop s hs n h d (i + 1) m (by omega) (by omega)
    rw [name_Check_l0_eq, List.drop_eq_getElem_cons h2, List.all_cons]
    by_cases c1 : (s[i].toNat : Int) = 0
    · have f : fineByte s[i] = false := by unfold fineByte; rw [decide_eq_true c1]; rfl
      simp only [afAddr_p, List.append_nil, if_true, if_false, bnd_some, mp_some, cnd_t, cnd_f, gd_no, gd_tt, gd_tf, gd_ft, gd_ff, alenS_s, alen_sl, alen_ns, abin_add, abin_sub, abin_mul, abin_eql, abin_neq, abin_lss, abin_leq, abin_gtr, abin_geq, abin_seql, abin_sneq, abin_slss, aun_not, aun_neg, agn_some, aeqN_nf, aeqN_f, aeqN_np, aeqN_p, anilc_p, aeqB_t, aeqB_f, aconv_i, apick_b, cond_true, cond_false, decide_true, decide_false, Bool.not_true, Bool.not_false, aext_t, ofPart_c, ofPart_a, part?_c, part?_a, cells?_c, cells?_a, tupN_2, tupN_3, Option.map_some, Option.some.injEq, List.getElem?_cons_zero, List.getElem?_cons_succ, not_true_eq_false, not_false_eq_true, quiet_same, bytesI_length, Option.join_some, List.append_assoc, List.cons_append, List.nil_append, List.length_append, List.length_cons, List.length_nil, Nat.zero_add, Nat.add_zero, rd_at, rd_at0, set_at, set_at0, List.set_cons_zero, List.set_cons_succ, ne_eq, decide_not, quiet_ext, newOk_some, List.cons_prefix_cons, List.nil_prefix, List.drop_succ_cons, List.drop_zero, List.all_cons, List.all_nil, Bool.and_true, true_and, and_true, h1, idxS_of h2, c1, f, Bool.false_and]
    · by_cases c2 : (s[i].toNat : Int) = 47
      · have f : fineByte s[i] = false := by unfold fineByte; rw [decide_eq_true c2]; simp
        simp only [afAddr_p, List.append_nil, if_true, if_false, bnd_some, mp_some, cnd_t, cnd_f, gd_no, gd_tt, gd_tf, gd_ft, gd_ff, alenS_s, alen_sl, alen_ns, abin_add, abin_sub, abin_mul, abin_eql, abin_neq, abin_lss, abin_leq, abin_gtr, abin_geq, abin_seql, abin_sneq, abin_slss, aun_not, aun_neg, agn_some, aeqN_nf, aeqN_f, aeqN_np, aeqN_p, anilc_p, aeqB_t, aeqB_f, aconv_i, apick_b, cond_true, cond_false, decide_true, decide_false, Bool.not_true, Bool.not_false, aext_t, ofPart_c, ofPart_a, part?_c, part?_a, cells?_c, cells?_a, tupN_2, tupN_3, Option.map_some, Option.some.injEq, List.getElem?_cons_zero, List.getElem?_cons_succ, not_true_eq_false, not_false_eq_true, quiet_same, bytesI_length, Option.join_some, List.append_assoc, List.cons_append, List.nil_append, List.length_append, List.length_cons, List.length_nil, Nat.zero_add, Nat.add_zero, rd_at, rd_at0, set_at, set_at0, List.set_cons_zero, List.set_cons_succ, ne_eq, decide_not, quiet_ext, newOk_some, List.cons_prefix_cons, List.nil_prefix, List.drop_succ_cons, List.drop_zero, List.all_cons, List.all_nil, Bool.and_true, true_and, and_true, h1, idxS_of h2, c1, c2, f, Bool.false_and, Int.reduceEq]
      · have f : fineByte s[i] = true := by unfold fineByte; rw [decide_eq_false c1, decide_eq_false c2]; rfl
        simp only [afAddr_p, List.append_nil, if_true, if_false, bnd_some, mp_some, cnd_t, cnd_f, gd_no, gd_tt, gd_tf, gd_ft, gd_ff, alenS_s, alen_sl, alen_ns, abin_add, abin_sub, abin_mul, abin_eql, abin_neq, abin_lss, abin_leq, abin_gtr, abin_geq, abin_seql, abin_sneq, abin_slss, aun_not, aun_neg, agn_some, aeqN_nf, aeqN_f, aeqN_np, aeqN_p, anilc_p, aeqB_t, aeqB_f, aconv_i, apick_b, cond_true, cond_false, decide_true, decide_false, Bool.not_true, Bool.not_false, aext_t, ofPart_c, ofPart_a, part?_c, part?_a, cells?_c, cells?_a, tupN_2, tupN_3, Option.map_some, Option.some.injEq, List.getElem?_cons_zero, List.getElem?_cons_succ, not_true_eq_false, not_false_eq_true, quiet_same, bytesI_length, Option.join_some, List.append_assoc, List.cons_append, List.nil_append, List.length_append, List.length_cons, List.length_nil, Nat.zero_add, Nat.add_zero, rd_at, rd_at0, set_at, set_at0, List.set_cons_zero, List.set_cons_succ, ne_eq, decide_not, quiet_ext, newOk_some, List.cons_prefix_cons, List.nil_prefix, List.drop_succ_cons, List.drop_zero, List.all_cons, List.all_nil, Bool.and_true, true_and, and_true, h1, idxS_of h2, c1, c2, f, Bool.true_and, wi_succ (show i + 1 < 9223372036854775808 by omega)]
        exact ih

theorem check_eq {s : List UInt8} (hs : s.length < 9223372036854775807) (h : Heap) : S_name_Check [.c (.s s)] h = some (.c (.i .i64 (bif fineName s then 0 else 3)), h) := by
  refine S_name_Check_flat (n := s.length + 1) (h2 := ro h) ?_ rfl
  rw [R_name_Check_eq]
  have hl := check_loop s hs (s.length + 1) (ro h) s.length 0 (s.length + 1) (by omega) (by omega)
  rw [List.drop_zero] at hl
  unfold fineName
  by_cases c1 : (s.length : Int) < 1
  · simp only [afAddr_p, List.append_nil, if_true, if_false, bnd_some, mp_some, cnd_t, cnd_f, gd_no, gd_tt, gd_tf, gd_ft, gd_ff, alenS_s, alen_sl, alen_ns, abin_add, abin_sub, abin_mul, abin_eql, abin_neq, abin_lss, abin_leq, abin_gtr, abin_geq, abin_seql, abin_sneq, abin_slss, aun_not, aun_neg, agn_some, aeqN_nf, aeqN_f, aeqN_np, aeqN_p, anilc_p, aeqB_t, aeqB_f, aconv_i, apick_b, cond_true, cond_false, decide_true, decide_false, Bool.not_true, Bool.not_false, aext_t, ofPart_c, ofPart_a, part?_c, part?_a, cells?_c, cells?_a, tupN_2, tupN_3, Option.map_some, Option.some.injEq, List.getElem?_cons_zero, List.getElem?_cons_succ, not_true_eq_false, not_false_eq_true, quiet_same, bytesI_length, Option.join_some, List.append_assoc, List.cons_append, List.nil_append, List.length_append, List.length_cons, List.length_nil, Nat.zero_add, Nat.add_zero, rd_at, rd_at0, set_at, set_at0, List.set_cons_zero, List.set_cons_succ, ne_eq, decide_not, quiet_ext, newOk_some, List.cons_prefix_cons, List.nil_prefix, List.drop_succ_cons, List.drop_zero, List.all_cons, List.all_nil, Bool.and_true, true_and, and_true, c1, Bool.true_or, Bool.false_and]
  · by_cases c2 : (24 : Int) < s.length
    · simp only [afAddr_p, List.append_nil, if_true, if_false, bnd_some, mp_some, cnd_t, cnd_f, gd_no, gd_tt, gd_tf, gd_ft, gd_ff, alenS_s, alen_sl, alen_ns, abin_add, abin_sub, abin_mul, abin_eql, abin_neq, abin_lss, abin_leq, abin_gtr, abin_geq, abin_seql, abin_sneq, abin_slss, aun_not, aun_neg, agn_some, aeqN_nf, aeqN_f, aeqN_np, aeqN_p, anilc_p, aeqB_t, aeqB_f, aconv_i, apick_b, cond_true, cond_false, decide_true, decide_false, Bool.not_true, Bool.not_false, aext_t, ofPart_c, ofPart_a, part?_c, part?_a, cells?_c, cells?_a, tupN_2, tupN_3, Option.map_some, Option.some.injEq, List.getElem?_cons_zero, List.getElem?_cons_succ, not_true_eq_false, not_false_eq_true, quiet_same, bytesI_length, Option.join_some, List.append_assoc, List.cons_append, List.nil_append, List.length_append, List.length_cons, List.length_nil, Nat.zero_add, Nat.add_zero, rd_at, rd_at0, set_at, set_at0, List.set_cons_zero, List.set_cons_succ, ne_eq, decide_not, quiet_ext, newOk_some, List.cons_prefix_cons, List.nil_prefix, List.drop_succ_cons, List.drop_zero, List.all_cons, List.all_nil, Bool.and_true, true_and, and_true, c1, c2, Bool.true_or, Bool.false_and, Bool.or_true]
    · by_cases c3 : s = [46]
      · subst c3; simp only [afAddr_p, List.append_nil, if_true, if_false, bnd_some, mp_some, cnd_t, cnd_f, gd_no, gd_tt, gd_tf, gd_ft, gd_ff, alenS_s, alen_sl, alen_ns, abin_add, abin_sub, abin_mul, abin_eql, abin_neq, abin_lss, abin_leq, abin_gtr, abin_geq, abin_seql, abin_sneq, abin_slss, aun_not, aun_neg, agn_some, aeqN_nf, aeqN_f, aeqN_np, aeqN_p, anilc_p, aeqB_t, aeqB_f, aconv_i, apick_b, cond_true, cond_false, decide_true, decide_false, Bool.not_true, Bool.not_false, aext_t, ofPart_c, ofPart_a, part?_c, part?_a, cells?_c, cells?_a, tupN_2, tupN_3, Option.map_some, Option.some.injEq, List.getElem?_cons_zero, List.getElem?_cons_succ, not_true_eq_false, not_false_eq_true, quiet_same, bytesI_length, Option.join_some, List.append_assoc, List.cons_append, List.nil_append, List.length_append, List.length_cons, List.length_nil, Nat.zero_add, Nat.add_zero, rd_at, rd_at0, set_at, set_at0, List.set_cons_zero, List.set_cons_succ, ne_eq, decide_not, quiet_ext, newOk_some, List.cons_prefix_cons, List.nil_prefix, List.drop_succ_cons, List.drop_zero, List.all_cons, List.all_nil, Bool.and_true, true_and, and_true]; rfl
      · by_cases c4 : s = [46, 46]
        · subst c4; simp only [afAddr_p, List.append_nil, if_true, if_false, bnd_some, mp_some, cnd_t, cnd_f, gd_no, gd_tt, gd_tf, gd_ft, gd_ff, alenS_s, alen_sl, alen_ns, abin_add, abin_sub, abin_mul, abin_eql, abin_neq, abin_lss, abin_leq, abin_gtr, abin_geq, abin_seql, abin_sneq, abin_slss, aun_not, aun_neg, agn_some, aeqN_nf, aeqN_f, aeqN_np, aeqN_p, anilc_p, aeqB_t, aeqB_f, aconv_i, apick_b, cond_true, cond_false, decide_true, decide_false, Bool.not_true, Bool.not_false, aext_t, ofPart_c, ofPart_a, part?_c, part?_a, cells?_c, cells?_a, tupN_2, tupN_3, Option.map_some, Option.some.injEq, List.getElem?_cons_zero, List.getElem?_cons_succ, not_true_eq_false, not_false_eq_true, quiet_same, bytesI_length, Option.join_some, List.append_assoc, List.cons_append, List.nil_append, List.length_append, List.length_cons, List.length_nil, Nat.zero_add, Nat.add_zero, rd_at, rd_at0, set_at, set_at0, List.set_cons_zero, List.set_cons_succ, ne_eq, decide_not, quiet_ext, newOk_some, List.cons_prefix_cons, List.nil_prefix, List.drop_succ_cons, List.drop_zero, List.all_cons, List.all_nil, Bool.and_true, true_and, and_true]; rfl
        · simp only [afAddr_p, List.append_nil, if_true, if_false, bnd_some, mp_some, cnd_t, cnd_f, gd_no, gd_tt, gd_tf, gd_ft, gd_ff, alenS_s, alen_sl, alen_ns, abin_add, abin_sub, abin_mul, abin_eql, abin_neq, abin_lss, abin_leq, abin_gtr, abin_geq, abin_seql, abin_sneq, abin_slss, aun_not, aun_neg, agn_some, aeqN_nf, aeqN_f, aeqN_np, aeqN_p, anilc_p, aeqB_t, aeqB_f, aconv_i, apick_b, cond_true, cond_false, decide_true, decide_false, Bool.not_true, Bool.not_false, aext_t, ofPart_c, ofPart_a, part?_c, part?_a, cells?_c, cells?_a, tupN_2, tupN_3, Option.map_some, Option.some.injEq, List.getElem?_cons_zero, List.getElem?_cons_succ, not_true_eq_false, not_false_eq_true, quiet_same, bytesI_length, Option.join_some, List.append_assoc, List.cons_append, List.nil_append, List.length_append, List.length_cons, List.length_nil, Nat.zero_add, Nat.add_zero, rd_at, rd_at0, set_at, set_at0, List.set_cons_zero, List.set_cons_succ, ne_eq, decide_not, quiet_ext, newOk_some, List.cons_prefix_cons, List.nil_prefix, List.drop_succ_cons, List.drop_zero, List.all_cons, List.all_nil, Bool.and_true, true_and, and_true, c1, c2, c3, c4, Bool.or_self, Bool.true_and]
          exact hl

/-! ### Names in 25 bytes -/

def packN (s : List UInt8) (i : Nat) : List UInt8 := UInt8.ofNat s.length :: (s.take i ++ zeros (24 - i))
def packB (s : List UInt8) : List UInt8 := bif fineName s then packN s s.length else zeros 25

theorem packN_length {s : List UInt8} {i : Nat} (hi : i ≤ s.length) (hs : s.length ≤ 24) : (packN s i).length = 25 := by
  unfold packN
  rw [List.length_cons, List.length_append, zeros_length, List.length_take]
  omega

theorem packB_length {s : List UInt8} : (packB s).length = 25 := by
  unfold packB
  cases hf : fineName s with
  | false => exact zeros_length
  | true => exact packN_length (Nat.le_refl _) (fineName_length hf).2

theorem packN_set {s : List UInt8} {i : Nat} (hi : i < s.length) (hs : s.length ≤ 24) : (packN s i).set (1 + i) s[i] = packN s (i + 1) := by
  unfold packN
  rw [Nat.add_comm 1 i, List.set_cons_succ]
  refine congrArg (UInt8.ofNat s.length :: ·) ?_
  have hlen : (List.take i s).length = i := by simp; omega
  rw [List.set_append_right _ _ (by omega), hlen, Nat.sub_self, List.take_succ_eq_append_getElem hi, List.append_assoc]
  refine congrArg (List.take i s ++ ·) ?_
  have e : 24 - i = (24 - (i + 1)) + 1 := by omega
  rw [e]
  unfold zeros
  rw [List.replicate_succ, List.set_cons_zero]; rfl

theorem pack_loop (s : List UInt8) (hs : s.length ≤ 24) (h : Heap) (c2 : List Cell) (l2 : c2.length = 25) (n : Nat) : ∀ d i m : Nat, i + d = s.length → d < m →
    name_Pack_l0 n m (.c (.s s)) (.c (.p h.length 0)) (.c (.p (h.length + 1) 0)) (.c (.i .i64 s.length)) (.c (.i .i64 i)) (h ++ [some ⟨c2, true⟩, some ⟨encB (packN s i), true⟩]) =
      some (.t [.a (encB (packN s s.length)), .c (.i .i64 0)], h ++ [some ⟨encB (packN s s.length), true⟩, some ⟨encB (packN s s.length), true⟩])
  | d, i, 0, _, hm => by omega
  | 0, i, m + 1, hi, hm => by
    have h1 : ¬ ((i : Int) < s.length) := by omega
    have e : i = s.length := by omega
    subst e
    have hl : (encB (packN s s.length)).length = 25 := by rw [encB_length]; exact packN_length (Nat.le_refl _) hs
    rw [name_Pack_l0_eq]
    simp only [afAddr_p, List.append_nil, if_true, if_false, bnd_some, mp_some, cnd_t, cnd_f, gd_no, gd_tt, gd_tf, gd_ft, gd_ff, alenS_s, alen_sl, alen_ns, abin_add, abin_sub, abin_mul, abin_eql, abin_neq, abin_lss, abin_leq, abin_gtr, abin_geq, abin_seql, abin_sneq, abin_slss, aun_not, aun_neg, agn_some, aeqN_nf, aeqN_f, aeqN_np, aeqN_p, anilc_p, aeqB_t, aeqB_f, aconv_i, apick_b, cond_true, cond_false, decide_true, decide_false, Bool.not_true, Bool.not_false, aext_t, ofPart_c, ofPart_a, part?_c, part?_a, cells?_c, cells?_a, tupN_2, tupN_3, Option.map_some, Option.some.injEq, List.getElem?_cons_zero, List.getElem?_cons_succ, not_true_eq_false, not_false_eq_true, quiet_same, bytesI_length, Option.join_some, List.append_assoc, List.cons_append, List.nil_append, List.length_append, List.length_cons, List.length_nil, Nat.zero_add, Nat.add_zero, rd_at, rd_at0, set_at, set_at0, List.set_cons_zero, List.set_cons_succ, ne_eq, decide_not, quiet_ext, newOk_some, List.cons_prefix_cons, List.nil_prefix, List.drop_succ_cons, List.drop_zero, List.all_cons, List.all_nil, Bool.and_true, true_and, and_true, aloadN_at, aloadN_at0, aload1_at, aload1_at0, astoreN_at, astoreN_at0, astore1_at, astore1_at0, aslA_at, aslA_at0, ldN_all, ld1_row, stN_all, st1_row, slr_all, Nat.reduceAdd, Nat.reduceMul, Nat.reduceLT, h1, hl, l2]
  | d + 1, i, m + 1, hi, hm => by
    have h1 : (i : Int) < s.length := by omega
    have h3 : i < s.length := by omega
    have hl : (encB (packN s i)).length = 25 := by rw [encB_length]; exact packN_length (by omega) hs
    have ih := pack_loop s hs h c2 l2 n d (i + 1) m (by omega) (by omega)
    have e1 : IntKind.wrap .i64 (1 + (i : Int)) = ((1 + i : Nat) : Int) := by rw [wrap_i64 (by omega) (by omega)]; omega
    have ea : aiAddrA 25 1 (.c (.p (h.length + 1) 0)) (.c (.i .i64 ((1 + i : Nat) : Int))) = some (.c (.p (h.length + 1) (1 + i))) := by rw [iAddrA_of (by omega)]; simp
    have ho : 1 + i < (encB (packN s i)).length := by omega
    rw [name_Pack_l0_eq]
    simp only [afAddr_p, List.append_nil, if_true, if_false, bnd_some, mp_some, cnd_t, cnd_f, gd_no, gd_tt, gd_tf, gd_ft, gd_ff, alenS_s, alen_sl, alen_ns, abin_add, abin_sub, abin_mul, abin_eql, abin_neq, abin_lss, abin_leq, abin_gtr, abin_geq, abin_seql, abin_sneq, abin_slss, aun_not, aun_neg, agn_some, aeqN_nf, aeqN_f, aeqN_np, aeqN_p, anilc_p, aeqB_t, aeqB_f, aconv_i, apick_b, cond_true, cond_false, decide_true, decide_false, Bool.not_true, Bool.not_false, aext_t, ofPart_c, ofPart_a, part?_c, part?_a, cells?_c, cells?_a, tupN_2, tupN_3, Option.map_some, Option.some.injEq, List.getElem?_cons_zero, List.getElem?_cons_succ, not_true_eq_false, not_false_eq_true, quiet_same, bytesI_length, Option.join_some, List.append_assoc, List.cons_append, List.nil_append, List.length_append, List.length_cons, List.length_nil, Nat.zero_add, Nat.add_zero, rd_at, rd_at0, set_at, set_at0, List.set_cons_zero, List.set_cons_succ, ne_eq, decide_not, quiet_ext, newOk_some, List.cons_prefix_cons, List.nil_prefix, List.drop_succ_cons, List.drop_zero, List.all_cons, List.all_nil, Bool.and_true, true_and, and_true, aloadN_at, aloadN_at0, aload1_at, aload1_at0, astoreN_at, astoreN_at0, astore1_at, astore1_at0, aslA_at, aslA_at0, ldN_all, ld1_row, stN_all, st1_row, slr_all, Nat.reduceAdd, Nat.reduceMul, Nat.reduceLT, h1, e1, idxS_of h3, ea, ho, encB_set, packN_set h3 hs, wi_succ (show i + 1 < 9223372036854775808 by omega)]
    exact ih

theorem pack_eq {s : List UInt8} (hs : s.length < 9223372036854775807) (h : Heap) :
    S_name_Pack [.c (.s s)] h = some (.t [.a (encB (packB s)), .c (.i .i64 (bif fineName s then 0 else 3))], h) := by
  have key : ∀ g, ∃ g', R_name_Pack (s.length + 1) [.c (.s s)] g = some (.t [.a (encB (packB s)), .c (.i .i64 (bif fineName s then 0 else 3))], g') := by
    intro g
    have hz := zeros_enc 25
    have hl : (encB (zeros 25)).length = 25 := by rw [encB_length]; exact zeros_length
    rw [R_name_Pack_eq, hz]
    unfold packB
    cases hf : fineName s with
    | false =>
      generalize zeros 25 = Z at *
      exact ⟨_, by simp only [afAddr_p, List.append_nil, if_true, if_false, bnd_some, mp_some, cnd_t, cnd_f, gd_no, gd_tt, gd_tf, gd_ft, gd_ff, alenS_s, alen_sl, alen_ns, abin_add, abin_sub, abin_mul, abin_eql, abin_neq, abin_lss, abin_leq, abin_gtr, abin_geq, abin_seql, abin_sneq, abin_slss, aun_not, aun_neg, agn_some, aeqN_nf, aeqN_f, aeqN_np, aeqN_p, anilc_p, aeqB_t, aeqB_f, aconv_i, apick_b, cond_true, cond_false, decide_true, decide_false, Bool.not_true, Bool.not_false, aext_t, ofPart_c, ofPart_a, part?_c, part?_a, cells?_c, cells?_a, tupN_2, tupN_3, Option.map_some, Option.some.injEq, List.getElem?_cons_zero, List.getElem?_cons_succ, not_true_eq_false, not_false_eq_true, quiet_same, bytesI_length, Option.join_some, List.append_assoc, List.cons_append, List.nil_append, List.length_append, List.length_cons, List.length_nil, Nat.zero_add, Nat.add_zero, rd_at, rd_at0, set_at, set_at0, List.set_cons_zero, List.set_cons_succ, ne_eq, decide_not, quiet_ext, newOk_some, List.cons_prefix_cons, List.nil_prefix, List.drop_succ_cons, List.drop_zero, List.all_cons, List.all_nil, Bool.and_true, true_and, and_true, aloadN_at, aloadN_at0, aload1_at, aload1_at0, astoreN_at, astoreN_at0, astore1_at, astore1_at0, aslA_at, aslA_at0, ldN_all, ld1_row, stN_all, st1_row, slr_all, Nat.reduceAdd, Nat.reduceMul, Nat.reduceLT, check_eq hs, hf, hl, Int.reduceEq] <;> rfl⟩
    | true =>
      have hs24 := (fineName_length hf).2
      have e0 : (encB (zeros 25)).set 0 (.i .u8 (IntKind.wrap .u8 s.length)) = encB (packN s 0) := by
        rw [wrap_u8 (by omega) (by omega)]
        have : ((s.length : Nat) : Int) = ((UInt8.ofNat s.length).toNat : Int) := by rw [UInt8.toNat_ofNat']; omega
        rw [this, encB_set]
        rfl
      have := pack_loop s hs24 g (encB (zeros 25)) hl (s.length + 1) s.length 0 (s.length + 1) (by omega) (by omega)
      rw [← e0] at this
      generalize zeros 25 = Z at *
      have a0 : aiAddrA 25 1 (.c (.p (g.length + 1) 0)) (.c (.i .i64 0)) = some (.c (.p (g.length + 1) 0)) := rfl
      have ho : 0 < (encB Z).length := by omega
      exact ⟨_, by simp only [afAddr_p, List.append_nil, if_true, if_false, bnd_some, mp_some, cnd_t, cnd_f, gd_no, gd_tt, gd_tf, gd_ft, gd_ff, alenS_s, alen_sl, alen_ns, abin_add, abin_sub, abin_mul, abin_eql, abin_neq, abin_lss, abin_leq, abin_gtr, abin_geq, abin_seql, abin_sneq, abin_slss, aun_not, aun_neg, agn_some, aeqN_nf, aeqN_f, aeqN_np, aeqN_p, anilc_p, aeqB_t, aeqB_f, aconv_i, apick_b, cond_true, cond_false, decide_true, decide_false, Bool.not_true, Bool.not_false, aext_t, ofPart_c, ofPart_a, part?_c, part?_a, cells?_c, cells?_a, tupN_2, tupN_3, Option.map_some, Option.some.injEq, List.getElem?_cons_zero, List.getElem?_cons_succ, not_true_eq_false, not_false_eq_true, quiet_same, bytesI_length, Option.join_some, List.append_assoc, List.cons_append, List.nil_append, List.length_append, List.length_cons, List.length_nil, Nat.zero_add, Nat.add_zero, rd_at, rd_at0, set_at, set_at0, List.set_cons_zero, List.set_cons_succ, ne_eq, decide_not, quiet_ext, newOk_some, List.cons_prefix_cons, List.nil_prefix, List.drop_succ_cons, List.drop_zero, List.all_cons, List.all_nil, Bool.and_true, true_and, and_true, aloadN_at, aloadN_at0, aload1_at, aload1_at0, astoreN_at, astoreN_at0, astore1_at, astore1_at0, aslA_at, aslA_at0, ldN_all, ld1_row, stN_all, st1_row, slr_all, Nat.reduceAdd, Nat.reduceMul, Nat.reduceLT, check_eq hs, hf, a0, ho]; exact this⟩
  obtain ⟨g', e⟩ := key (ro h)
  exact S_name_Pack_flat e (by simp)

/-- The name of 25 bytes, if there is one. -/
def unpackB (l : List UInt8) : Option (List UInt8) :=
  if (l.headD 0).toNat ≤ 24 then
    if fineName ((l.drop 1).take (l.headD 0).toNat) = true ∧ packB ((l.drop 1).take (l.headD 0).toNat) = l then some ((l.drop 1).take (l.headD 0).toNat) else none
  else none

theorem unpack_eq {l : List UInt8} (hl : l.length = 25) (h : Heap) :
    S_name_Unpack [.a (encB l)] h = some (.t [.c (.s ((unpackB l).getD [])), .c (.i .i64 (if (unpackB l).isSome then 0 else 3))], h) := by
  have key : ∀ g, ∃ g', R_name_Unpack 0 [.a (encB l)] g = some (.t [.c (.s ((unpackB l).getD [])), .c (.i .i64 (if (unpackB l).isSome then 0 else 3))], g') := by
    intro g
    obtain ⟨x, r, rfl⟩ : ∃ x r, l = x :: r := by
      cases l with
      | nil => simp at hl
      | cons x r => exact ⟨x, r, rfl⟩
    have hx := x.toNat_lt
    rw [R_name_Unpack_eq]
    have a0 : aiAddrA 25 1 (.c (.p g.length 0)) (.c (.i .i64 0)) = some (.c (.p g.length 0)) := rfl
    have l0 : (encB (x :: r))[0]? = some (.i .u8 x.toNat) := rfl
    have e1 : IntKind.wrap .i64 (x.toNat : Int) = x.toNat := wrap_i64 (by omega) (by omega)
    have hle : (encB (x :: r)).length = 25 := by rw [encB_length, hl]
    unfold unpackB
    simp only [List.headD_cons, List.drop_succ_cons, List.drop_zero]
    by_cases c1 : x.toNat ≤ 24
    · rw [if_pos c1]
      have c1' : ¬ (24 : Int) < x.toNat := by omega
      have e2 : IntKind.wrap .i64 (1 + (x.toNat : Int)) = ((1 + x.toNat : Nat) : Int) := by rw [wrap_i64 (by omega) (by omega)]; omega
      have e3 := slA_of (h := g) (l := [some ⟨encB (x :: r), true⟩]) (k := 0) (n := 25) (a := 1) (b := 1 + x.toNat) (cs := encB (x :: r)) rfl hle (by omega) (by omega)
      rw [Nat.add_zero, show 1 + x.toNat - 1 = x.toNat by omega, show ((1 : Nat) : Int) = 1 from rfl] at e3
      have hh : Has (g ++ [some ⟨encB (x :: r), true⟩]) (.c (.sl g.length 1 x.toNat 1)) 1 x.toNat (encB (r.take x.toNat)) := Has.part rd_new (by omega) (by
        rw [encB_drop, encB_take]; simp) (noX_encB _)
      have hs : (r.take x.toNat).length < 9223372036854775807 := by simp; omega
      have hp := pack_eq hs (g ++ [some ⟨encB (x :: r), true⟩])
      have hpl : (encB (packB (r.take x.toNat))).length = 25 := by rw [encB_length, packB_length]
      have hz : (List.replicate 25 (Cell.i .u8 0)).length = 25 := List.length_replicate
      have hq := aeq_t (l := packB (r.take x.toNat)) (m := x :: r) packB_length hl
      generalize List.replicate 25 (Cell.i .u8 0) = z at *
      cases hf : fineName (r.take x.toNat) with
      | false =>
        rw [hf] at hp
        rw [if_neg (by simp)]
        exact ⟨_, by simp only [afAddr_p, List.append_nil, if_true, if_false, bnd_some, mp_some, cnd_t, cnd_f, gd_no, gd_tt, gd_tf, gd_ft, gd_ff, alenS_s, alen_sl, alen_ns, abin_add, abin_sub, abin_mul, abin_eql, abin_neq, abin_lss, abin_leq, abin_gtr, abin_geq, abin_seql, abin_sneq, abin_slss, aun_not, aun_neg, agn_some, aeqN_nf, aeqN_f, aeqN_np, aeqN_p, anilc_p, aeqB_t, aeqB_f, aconv_i, apick_b, cond_true, cond_false, decide_true, decide_false, Bool.not_true, Bool.not_false, aext_t, ofPart_c, ofPart_a, part?_c, part?_a, cells?_c, cells?_a, tupN_2, tupN_3, Option.map_some, Option.some.injEq, List.getElem?_cons_zero, List.getElem?_cons_succ, not_true_eq_false, not_false_eq_true, quiet_same, bytesI_length, Option.join_some, List.append_assoc, List.cons_append, List.nil_append, List.length_append, List.length_cons, List.length_nil, Nat.zero_add, Nat.add_zero, rd_at, rd_at0, set_at, set_at0, List.set_cons_zero, List.set_cons_succ, ne_eq, decide_not, quiet_ext, newOk_some, List.cons_prefix_cons, List.nil_prefix, List.drop_succ_cons, List.drop_zero, List.all_cons, List.all_nil, Bool.and_true, true_and, and_true, aloadN_at, aloadN_at0, aload1_at, aload1_at0, astoreN_at, astoreN_at0, astore1_at, astore1_at0, aslA_at, aslA_at0, ldN_all, ld1_row, stN_all, st1_row, slr_all, Nat.reduceAdd, Nat.reduceMul, Nat.reduceLT, a0, l0, e1, c1', e2, e3, hh.str, hp, hpl, hz, Int.reduceEq, Option.getD_none, Option.isSome_none, Bool.false_eq_true] <;> rfl⟩
      | true =>
        rw [hf] at hp
        by_cases c2 : packB (r.take x.toNat) = x :: r
        · rw [if_pos ⟨rfl, c2⟩]
          exact ⟨_, by simp only [afAddr_p, List.append_nil, if_true, if_false, bnd_some, mp_some, cnd_t, cnd_f, gd_no, gd_tt, gd_tf, gd_ft, gd_ff, alenS_s, alen_sl, alen_ns, abin_add, abin_sub, abin_mul, abin_eql, abin_neq, abin_lss, abin_leq, abin_gtr, abin_geq, abin_seql, abin_sneq, abin_slss, aun_not, aun_neg, agn_some, aeqN_nf, aeqN_f, aeqN_np, aeqN_p, anilc_p, aeqB_t, aeqB_f, aconv_i, apick_b, cond_true, cond_false, decide_true, decide_false, Bool.not_true, Bool.not_false, aext_t, ofPart_c, ofPart_a, part?_c, part?_a, cells?_c, cells?_a, tupN_2, tupN_3, Option.map_some, Option.some.injEq, List.getElem?_cons_zero, List.getElem?_cons_succ, not_true_eq_false, not_false_eq_true, quiet_same, bytesI_length, Option.join_some, List.append_assoc, List.cons_append, List.nil_append, List.length_append, List.length_cons, List.length_nil, Nat.zero_add, Nat.add_zero, rd_at, rd_at0, set_at, set_at0, List.set_cons_zero, List.set_cons_succ, ne_eq, decide_not, quiet_ext, newOk_some, List.cons_prefix_cons, List.nil_prefix, List.drop_succ_cons, List.drop_zero, List.all_cons, List.all_nil, Bool.and_true, true_and, and_true, aloadN_at, aloadN_at0, aload1_at, aload1_at0, astoreN_at, astoreN_at0, astore1_at, astore1_at0, aslA_at, aslA_at0, ldN_all, ld1_row, stN_all, st1_row, slr_all, Nat.reduceAdd, Nat.reduceMul, Nat.reduceLT, a0, l0, e1, c1', e2, e3, hh.str, hp, hpl, hz, hle, hq, decide_eq_true c2, Int.reduceEq, Option.getD_some, Option.isSome_some, Bool.false_eq_true] <;> rfl⟩
        · rw [if_neg (fun h => c2 h.2)]
          exact ⟨_, by simp only [afAddr_p, List.append_nil, if_true, if_false, bnd_some, mp_some, cnd_t, cnd_f, gd_no, gd_tt, gd_tf, gd_ft, gd_ff, alenS_s, alen_sl, alen_ns, abin_add, abin_sub, abin_mul, abin_eql, abin_neq, abin_lss, abin_leq, abin_gtr, abin_geq, abin_seql, abin_sneq, abin_slss, aun_not, aun_neg, agn_some, aeqN_nf, aeqN_f, aeqN_np, aeqN_p, anilc_p, aeqB_t, aeqB_f, aconv_i, apick_b, cond_true, cond_false, decide_true, decide_false, Bool.not_true, Bool.not_false, aext_t, ofPart_c, ofPart_a, part?_c, part?_a, cells?_c, cells?_a, tupN_2, tupN_3, Option.map_some, Option.some.injEq, List.getElem?_cons_zero, List.getElem?_cons_succ, not_true_eq_false, not_false_eq_true, quiet_same, bytesI_length, Option.join_some, List.append_assoc, List.cons_append, List.nil_append, List.length_append, List.length_cons, List.length_nil, Nat.zero_add, Nat.add_zero, rd_at, rd_at0, set_at, set_at0, List.set_cons_zero, List.set_cons_succ, ne_eq, decide_not, quiet_ext, newOk_some, List.cons_prefix_cons, List.nil_prefix, List.drop_succ_cons, List.drop_zero, List.all_cons, List.all_nil, Bool.and_true, true_and, and_true, aloadN_at, aloadN_at0, aload1_at, aload1_at0, astoreN_at, astoreN_at0, astore1_at, astore1_at0, aslA_at, aslA_at0, ldN_all, ld1_row, stN_all, st1_row, slr_all, Nat.reduceAdd, Nat.reduceMul, Nat.reduceLT, a0, l0, e1, c1', e2, e3, hh.str, hp, hpl, hz, hle, hq, decide_eq_false c2, Int.reduceEq, Option.getD_none, Option.isSome_none, Bool.false_eq_true] <;> rfl⟩
    · rw [if_neg c1]
      have c1' : (24 : Int) < x.toNat := by omega
      exact ⟨_, by simp only [afAddr_p, List.append_nil, if_true, if_false, bnd_some, mp_some, cnd_t, cnd_f, gd_no, gd_tt, gd_tf, gd_ft, gd_ff, alenS_s, alen_sl, alen_ns, abin_add, abin_sub, abin_mul, abin_eql, abin_neq, abin_lss, abin_leq, abin_gtr, abin_geq, abin_seql, abin_sneq, abin_slss, aun_not, aun_neg, agn_some, aeqN_nf, aeqN_f, aeqN_np, aeqN_p, anilc_p, aeqB_t, aeqB_f, aconv_i, apick_b, cond_true, cond_false, decide_true, decide_false, Bool.not_true, Bool.not_false, aext_t, ofPart_c, ofPart_a, part?_c, part?_a, cells?_c, cells?_a, tupN_2, tupN_3, Option.map_some, Option.some.injEq, List.getElem?_cons_zero, List.getElem?_cons_succ, not_true_eq_false, not_false_eq_true, quiet_same, bytesI_length, Option.join_some, List.append_assoc, List.cons_append, List.nil_append, List.length_append, List.length_cons, List.length_nil, Nat.zero_add, Nat.add_zero, rd_at, rd_at0, set_at, set_at0, List.set_cons_zero, List.set_cons_succ, ne_eq, decide_not, quiet_ext, newOk_some, List.cons_prefix_cons, List.nil_prefix, List.drop_succ_cons, List.drop_zero, List.all_cons, List.all_nil, Bool.and_true, true_and, and_true, aloadN_at, aloadN_at0, aload1_at, aload1_at0, astoreN_at, astoreN_at0, astore1_at, astore1_at0, aslA_at, aslA_at0, ldN_all, ld1_row, stN_all, st1_row, slr_all, Nat.reduceAdd, Nat.reduceMul, Nat.reduceLT, a0, l0, e1, c1', Option.getD_none, Option.isSome_none, Bool.false_eq_true] <;> rfl⟩
  obtain ⟨g', e⟩ := key (ro h)
  exact S_name_Unpack_flat e (by simp)

end Go.Proofs.Ytbbkpmbepljhkaa
