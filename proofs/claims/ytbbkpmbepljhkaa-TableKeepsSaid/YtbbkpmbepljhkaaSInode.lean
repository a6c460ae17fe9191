/- What the package of inodes computes. -/
import Derived.Test.YtbbkpmbepljhkaaSPad
import Derived.Test.YtbbkpmbepljhkaaGInode
set_option linter.all false
namespace Go.Proofs.Ytbbkpmbepljhkaa
open Go Go.Esc

/-- An inode's cells: its kind, links, size, parent, and the seven numbers. -/
abbrev inoC (k l s p : Int) (d : List Int) : List Cell := .i .i64 k :: .i .i64 l :: .i .i64 s :: .i .i64 p :: encI d

def zI (n : Nat) : List Int := List.replicate n 0
theorem zI_length {n : Nat} : (zI n).length = n := by simp [zI]
theorem inoC_enc {k l s p : Int} {d : List Int} : inoC k l s p d = encI (k :: l :: s :: p :: d) := rfl

def smallI (n : Int) : Bool := decide (0 ≤ n) && decide (n ≤ 65535)
theorem smallI_true {n : Int} : smallI n = true ↔ 0 ≤ n ∧ n ≤ 65535 := by unfold smallI; simp

theorem inode_small_eq {n : Int} {h : Heap} : S_inode_small [.c (.i .i64 n)] h = some (.c (.b (smallI n)), h) := by
  refine S_inode_small_flat (n := 0) (h2 := ro h) ?_ rfl
  rw [R_inode_small_eq]
  unfold smallI
  by_cases c : 0 ≤ n
  · simp only [afAddr_p, List.append_nil, if_true, if_false, bnd_some, mp_some, cnd_t, cnd_f, gd_no, gd_tt, gd_tf, gd_ft, gd_ff, alenS_s, alen_sl, alen_ns, abin_add, abin_sub, abin_mul, abin_eql, abin_neq, abin_lss, abin_leq, abin_gtr, abin_geq, abin_seql, abin_sneq, abin_slss, aun_not, aun_neg, aeqB_t, aeqB_f, aconv_i, apick_b, cond_true, cond_false, decide_true, decide_false, Bool.not_true, Bool.not_false, aext_t, ofPart_c, ofPart_a, part?_c, part?_a, cells?_c, cells?_a, tupN_2, tupN_3, Option.map_some, Option.some.injEq, List.getElem?_cons_zero, List.getElem?_cons_succ, not_true_eq_false, not_false_eq_true, quiet_same, bytesI_length, Option.join_some, List.append_assoc, List.cons_append, List.nil_append, List.length_append, List.length_cons, List.length_nil, Nat.zero_add, Nat.add_zero, rd_at, rd_at0, set_at, set_at0, List.set_cons_zero, List.set_cons_succ, ne_eq, decide_not, quiet_ext, newOk_some, List.cons_prefix_cons, List.nil_prefix, List.drop_succ_cons, List.drop_zero, List.all_cons, List.all_nil, Bool.and_true, true_and, and_true, c, Bool.true_and]
  · simp only [afAddr_p, List.append_nil, if_true, if_false, bnd_some, mp_some, cnd_t, cnd_f, gd_no, gd_tt, gd_tf, gd_ft, gd_ff, alenS_s, alen_sl, alen_ns, abin_add, abin_sub, abin_mul, abin_eql, abin_neq, abin_lss, abin_leq, abin_gtr, abin_geq, abin_seql, abin_sneq, abin_slss, aun_not, aun_neg, aeqB_t, aeqB_f, aconv_i, apick_b, cond_true, cond_false, decide_true, decide_false, Bool.not_true, Bool.not_false, aext_t, ofPart_c, ofPart_a, part?_c, part?_a, cells?_c, cells?_a, tupN_2, tupN_3, Option.map_some, Option.some.injEq, List.getElem?_cons_zero, List.getElem?_cons_succ, not_true_eq_false, not_false_eq_true, quiet_same, bytesI_length, Option.join_some, List.append_assoc, List.cons_append, List.nil_append, List.length_append, List.length_cons, List.length_nil, Nat.zero_add, Nat.add_zero, rd_at, rd_at0, set_at, set_at0, List.set_cons_zero, List.set_cons_succ, ne_eq, decide_not, quiet_ext, newOk_some, List.cons_prefix_cons, List.nil_prefix, List.drop_succ_cons, List.drop_zero, List.all_cons, List.all_nil, Bool.and_true, true_and, and_true, c, Bool.false_and]

theorem inode_Blocks_eq {n : Int} {h : Heap} : S_inode_Blocks [.c (.i .i64 n)] h = some (.c (.i .i64 (if n < 1 then 0 else if 34304 < n then 134 else (n + 255) / 256)), h) := by
  refine S_inode_Blocks_flat (n := 0) (h2 := ro h) ?_ rfl
  rw [R_inode_Blocks_eq]
  by_cases c1 : n < 1
  · rw [if_pos c1]; simp only [afAddr_p, List.append_nil, if_true, if_false, bnd_some, mp_some, cnd_t, cnd_f, gd_no, gd_tt, gd_tf, gd_ft, gd_ff, alenS_s, alen_sl, alen_ns, abin_add, abin_sub, abin_mul, abin_eql, abin_neq, abin_lss, abin_leq, abin_gtr, abin_geq, abin_seql, abin_sneq, abin_slss, aun_not, aun_neg, aeqB_t, aeqB_f, aconv_i, apick_b, cond_true, cond_false, decide_true, decide_false, Bool.not_true, Bool.not_false, aext_t, ofPart_c, ofPart_a, part?_c, part?_a, cells?_c, cells?_a, tupN_2, tupN_3, Option.map_some, Option.some.injEq, List.getElem?_cons_zero, List.getElem?_cons_succ, not_true_eq_false, not_false_eq_true, quiet_same, bytesI_length, Option.join_some, List.append_assoc, List.cons_append, List.nil_append, List.length_append, List.length_cons, List.length_nil, Nat.zero_add, Nat.add_zero, rd_at, rd_at0, set_at, set_at0, List.set_cons_zero, List.set_cons_succ, ne_eq, decide_not, quiet_ext, newOk_some, List.cons_prefix_cons, List.nil_prefix, List.drop_succ_cons, List.drop_zero, List.all_cons, List.all_nil, Bool.and_true, true_and, and_true, c1]
  · rw [if_neg c1]
    by_cases c2 : 34304 < n
    · rw [if_pos c2]; simp only [afAddr_p, List.append_nil, if_true, if_false, bnd_some, mp_some, cnd_t, cnd_f, gd_no, gd_tt, gd_tf, gd_ft, gd_ff, alenS_s, alen_sl, alen_ns, abin_add, abin_sub, abin_mul, abin_eql, abin_neq, abin_lss, abin_leq, abin_gtr, abin_geq, abin_seql, abin_sneq, abin_slss, aun_not, aun_neg, aeqB_t, aeqB_f, aconv_i, apick_b, cond_true, cond_false, decide_true, decide_false, Bool.not_true, Bool.not_false, aext_t, ofPart_c, ofPart_a, part?_c, part?_a, cells?_c, cells?_a, tupN_2, tupN_3, Option.map_some, Option.some.injEq, List.getElem?_cons_zero, List.getElem?_cons_succ, not_true_eq_false, not_false_eq_true, quiet_same, bytesI_length, Option.join_some, List.append_assoc, List.cons_append, List.nil_append, List.length_append, List.length_cons, List.length_nil, Nat.zero_add, Nat.add_zero, rd_at, rd_at0, set_at, set_at0, List.set_cons_zero, List.set_cons_succ, ne_eq, decide_not, quiet_ext, newOk_some, List.cons_prefix_cons, List.nil_prefix, List.drop_succ_cons, List.drop_zero, List.all_cons, List.all_nil, Bool.and_true, true_and, and_true, c1, c2]
    · rw [if_neg c2]
      have e1 : IntKind.wrap .i64 (n + 256) = n + 256 := wrap_i64 (by omega) (by omega)
      have e2 : IntKind.wrap .i64 (n + 256 - 1) = n + 255 := by rw [wrap_i64 (by omega) (by omega)]; omega
      simp only [afAddr_p, List.append_nil, if_true, if_false, bnd_some, mp_some, cnd_t, cnd_f, gd_no, gd_tt, gd_tf, gd_ft, gd_ff, alenS_s, alen_sl, alen_ns, abin_add, abin_sub, abin_mul, abin_eql, abin_neq, abin_lss, abin_leq, abin_gtr, abin_geq, abin_seql, abin_sneq, abin_slss, aun_not, aun_neg, aeqB_t, aeqB_f, aconv_i, apick_b, cond_true, cond_false, decide_true, decide_false, Bool.not_true, Bool.not_false, aext_t, ofPart_c, ofPart_a, part?_c, part?_a, cells?_c, cells?_a, tupN_2, tupN_3, Option.map_some, Option.some.injEq, List.getElem?_cons_zero, List.getElem?_cons_succ, not_true_eq_false, not_false_eq_true, quiet_same, bytesI_length, Option.join_some, List.append_assoc, List.cons_append, List.nil_append, List.length_append, List.length_cons, List.length_nil, Nat.zero_add, Nat.add_zero, rd_at, rd_at0, set_at, set_at0, List.set_cons_zero, List.set_cons_succ, ne_eq, decide_not, quiet_ext, newOk_some, List.cons_prefix_cons, List.nil_prefix, List.drop_succ_cons, List.drop_zero, List.all_cons, List.all_nil, Bool.and_true, true_and, and_true, c1, c2, e1, e2, quo_i64 (a := n + 255) (b := 256) (by omega) (by omega) (by omega)]

theorem numbers_loop {g : Heap} {k l s p : Int} {d : List Int} {z : List Cell} {q : Nat} (hd : d.length = 7) (hz : z.length = 7) : ∀ e i m : Nat, i + e = 6 → e < m →
    inode_Numbers_l0 q m (.c (.p g.length 0)) (.c (.p (g.length + 1) 0)) (.c (.p (g.length + 2) 0)) (.a (encI (d.take 6))) (.c (.i .i64 i)) (g ++ [some ⟨inoC k l s p d, true⟩, some ⟨z, true⟩, some ⟨encI (d.take i ++ zI (7 - i)), true⟩]) =
      some (.a (encI d), g ++ [some ⟨inoC k l s p d, true⟩, some ⟨encI d, true⟩, some ⟨encI d, true⟩])
  | e, i, 0, _, hm => by omega
  | 0, i, m + 1, hi, hm => by
    have e0 : i = 6 := by omega
    subst e0
    have h1' : ¬ ((6 : Nat) : Int) < 6 := by omega
    have l1 : (inoC k l s p d)[10]? = some (.i .i64 d[6]) := by
      have : (encI d)[6]? = some (.i .i64 d[6]) := by rw [encI_get, List.getElem?_eq_getElem (by omega)]; rfl
      exact this
    have a1 : aiAddrA 7 1 (.c (.p (g.length + 2) 0)) (.c (.i .i64 6)) = some (.c (.p (g.length + 2) 6)) := rfl
    have ho : 6 < (encI (d.take 6 ++ zI (7 - 6))).length := by rw [encI_length, List.length_append, zI_length, List.length_take]; omega
    have es : (encI (d.take 6 ++ zI (7 - 6))).set 6 (.i .i64 d[6]) = encI d := by
      rw [encI_set]
      congr 1
      have h6 : (d.take 6).length = 6 := by simp; omega
      rw [List.set_append_right _ _ (by omega), h6]
      have : d = d.take 6 ++ [d[6]] := by
        rw [← List.take_succ_eq_append_getElem (by omega), List.take_of_length_le (by omega)]
      conv => rhs; rw [this]
      rfl
    have hl : (encI d).length = 7 := by rw [encI_length, hd]
    rw [inode_Numbers_l0_eq]
    simp only [afAddr_p, List.append_nil, if_true, if_false, bnd_some, mp_some, cnd_t, cnd_f, gd_no, gd_tt, gd_tf, gd_ft, gd_ff, alenS_s, alen_sl, alen_ns, abin_add, abin_sub, abin_mul, abin_eql, abin_neq, abin_lss, abin_leq, abin_gtr, abin_geq, abin_seql, abin_sneq, abin_slss, aun_not, aun_neg, aeqB_t, aeqB_f, aconv_i, apick_b, cond_true, cond_false, decide_true, decide_false, Bool.not_true, Bool.not_false, aext_t, ofPart_c, ofPart_a, part?_c, part?_a, cells?_c, cells?_a, tupN_2, tupN_3, Option.map_some, Option.some.injEq, List.getElem?_cons_zero, List.getElem?_cons_succ, not_true_eq_false, not_false_eq_true, quiet_same, bytesI_length, Option.join_some, List.append_assoc, List.cons_append, List.nil_append, List.length_append, List.length_cons, List.length_nil, Nat.zero_add, Nat.add_zero, rd_at, rd_at0, set_at, set_at0, List.set_cons_zero, List.set_cons_succ, ne_eq, decide_not, quiet_ext, newOk_some, List.cons_prefix_cons, List.nil_prefix, List.drop_succ_cons, List.drop_zero, List.all_cons, List.all_nil, Bool.and_true, true_and, and_true, aloadN_at, aloadN_at0, aload1_at, aload1_at0, astoreN_at, astoreN_at0, astore1_at, astore1_at0, aslA_at, aslA_at0, ldN_all, ld1_row, stN_all, st1_row, slr_all, Nat.reduceAdd, Nat.reduceMul, Nat.reduceLT, h1', l1, a1, ho, es, hl, hz]
  | e + 1, i, m + 1, hi, hm => by
    have ih := numbers_loop (g := g) (k := k) (l := l) (s := s) (p := p) (q := q) hd hz e (i + 1) m (by omega) (by omega)
    have h1' : (i : Int) < 6 := by omega
    have hx : aidxA1 6 (.a (encI (d.take 6))) (.c (.i .i64 (i : Int))) = some (.c (.i .i64 d[i])) := by
      rw [idxA1_of (by omega), encI_get, List.getElem?_take_of_lt (by omega), List.getElem?_eq_getElem (by omega)]; rfl
    have a1 : aiAddrA 7 1 (.c (.p (g.length + 2) 0)) (.c (.i .i64 (i : Int))) = some (.c (.p (g.length + 2) i)) := by rw [iAddrA_of (by omega)]; simp
    have ho : i < (encI (d.take i ++ zI (7 - i))).length := by rw [encI_length, List.length_append, zI_length, List.length_take]; omega
    have es : (encI (d.take i ++ zI (7 - i))).set i (.i .i64 d[i]) = encI (d.take (i + 1) ++ zI (7 - (i + 1))) := by
      rw [encI_set]
      refine congrArg encI ?_
      have h6 : (d.take i).length = i := by simp; omega
      rw [List.set_append_right _ _ (by omega), h6, Nat.sub_self, List.take_succ_eq_append_getElem (by omega), List.append_assoc]
      refine congrArg (d.take i ++ ·) ?_
      rw [show 7 - i = 7 - (i + 1) + 1 by omega]
      unfold zI
      rw [List.replicate_succ, List.set_cons_zero]; rfl
    rw [inode_Numbers_l0_eq]
    simp only [afAddr_p, List.append_nil, if_true, if_false, bnd_some, mp_some, cnd_t, cnd_f, gd_no, gd_tt, gd_tf, gd_ft, gd_ff, alenS_s, alen_sl, alen_ns, abin_add, abin_sub, abin_mul, abin_eql, abin_neq, abin_lss, abin_leq, abin_gtr, abin_geq, abin_seql, abin_sneq, abin_slss, aun_not, aun_neg, aeqB_t, aeqB_f, aconv_i, apick_b, cond_true, cond_false, decide_true, decide_false, Bool.not_true, Bool.not_false, aext_t, ofPart_c, ofPart_a, part?_c, part?_a, cells?_c, cells?_a, tupN_2, tupN_3, Option.map_some, Option.some.injEq, List.getElem?_cons_zero, List.getElem?_cons_succ, not_true_eq_false, not_false_eq_true, quiet_same, bytesI_length, Option.join_some, List.append_assoc, List.cons_append, List.nil_append, List.length_append, List.length_cons, List.length_nil, Nat.zero_add, Nat.add_zero, rd_at, rd_at0, set_at, set_at0, List.set_cons_zero, List.set_cons_succ, ne_eq, decide_not, quiet_ext, newOk_some, List.cons_prefix_cons, List.nil_prefix, List.drop_succ_cons, List.drop_zero, List.all_cons, List.all_nil, Bool.and_true, true_and, and_true, aloadN_at, aloadN_at0, aload1_at, aload1_at0, astoreN_at, astoreN_at0, astore1_at, astore1_at0, aslA_at, aslA_at0, ldN_all, ld1_row, stN_all, st1_row, slr_all, Nat.reduceAdd, Nat.reduceMul, Nat.reduceLT, h1', hx, a1, ho, es, wi_succ (show i + 1 < 9223372036854775808 by omega)]
    exact ih

theorem ino_dir {k l s p : Int} {d : List Int} (hd : d.length = 7) : ldN (some ⟨inoC k l s p d, true⟩) 4 6 = some (.a (encI (d.take 6))) := by
  have h1 : (inoC k l s p d).length = 11 := by simp [encI_length, hd]
  simp only [ldN, Option.bind_some]
  rw [if_pos ⟨by omega, by simp⟩]
  simp only [List.drop_succ_cons, List.drop_zero]
  unfold encI
  rw [List.map_take]

theorem inode_Numbers_eq {k l s p : Int} {d : List Int} {h : Heap} (hd : d.length = 7) : S_inode_Numbers [.a (inoC k l s p d)] h = some (.a (encI d), h) := by
  have key : ∀ N, 7 < N → ∀ g, ∃ g', R_inode_Numbers N [.a (inoC k l s p d)] g = some (.a (encI d), g') := by
    intro N hN g
    have := numbers_loop (g := g) (k := k) (l := l) (s := s) (p := p) (z := encI (zI 7)) (q := N) hd (by rw [encI_length, zI_length]) 6 0 N (by omega) (by omega)
    have e0 : encI (d.take 0 ++ zI (7 - 0)) = [Cell.i .i64 0, .i .i64 0, .i .i64 0, .i .i64 0, .i .i64 0, .i .i64 0, .i .i64 0] := rfl
    have e1 : encI (zI 7) = [Cell.i .i64 0, .i .i64 0, .i .i64 0, .i .i64 0, .i .i64 0, .i .i64 0, .i .i64 0] := rfl
    rw [e0, e1] at this
    rw [R_inode_Numbers_eq]
    exact ⟨_, by simp only [afAddr_p, List.append_nil, if_true, if_false, bnd_some, mp_some, cnd_t, cnd_f, gd_no, gd_tt, gd_tf, gd_ft, gd_ff, alenS_s, alen_sl, alen_ns, abin_add, abin_sub, abin_mul, abin_eql, abin_neq, abin_lss, abin_leq, abin_gtr, abin_geq, abin_seql, abin_sneq, abin_slss, aun_not, aun_neg, aeqB_t, aeqB_f, aconv_i, apick_b, cond_true, cond_false, decide_true, decide_false, Bool.not_true, Bool.not_false, aext_t, ofPart_c, ofPart_a, part?_c, part?_a, cells?_c, cells?_a, tupN_2, tupN_3, Option.map_some, Option.some.injEq, List.getElem?_cons_zero, List.getElem?_cons_succ, not_true_eq_false, not_false_eq_true, quiet_same, bytesI_length, Option.join_some, List.append_assoc, List.cons_append, List.nil_append, List.length_append, List.length_cons, List.length_nil, Nat.zero_add, Nat.add_zero, rd_at, rd_at0, set_at, set_at0, List.set_cons_zero, List.set_cons_succ, ne_eq, decide_not, quiet_ext, newOk_some, List.cons_prefix_cons, List.nil_prefix, List.drop_succ_cons, List.drop_zero, List.all_cons, List.all_nil, Bool.and_true, true_and, and_true, aloadN_at, aloadN_at0, aload1_at, aload1_at0, astoreN_at, astoreN_at0, astore1_at, astore1_at0, aslA_at, aslA_at0, ldN_all, ld1_row, stN_all, st1_row, slr_all, Nat.reduceAdd, Nat.reduceMul, Nat.reduceLT, ino_dir hd]; exact this⟩
  obtain ⟨g', e⟩ := key (h.length + 8) (by omega) (ro h)
  exact S_inode_Numbers_flat e (by simp)

/-- May an inode be? -/
def zeroI (l s p : Int) (d : List Int) : Bool := decide (l = 0 ∧ s = 0 ∧ p = 0 ∧ d = zI 7)
def restI (k l s p : Int) (d : List Int) : Bool := decide (0 ≤ k ∧ k ≤ 2) && (smallI l && (smallI p && (decide (0 ≤ s ∧ s ≤ 34304) && d.all smallI)))
def mayI (k l s p : Int) (d : List Int) : Bool := if k = 0 then zeroI l s p d else restI k l s p d

theorem check_loopI {h : Heap} {d : List Int} {q : Nat} (hd : d.length = 7) : ∀ e i m : Nat, i + e = 7 → e < m →
    inode_Check_l0 q m (.a (encI d)) (.c (.i .i64 i)) h = some (.c (.i .i64 (bif (d.drop i).all smallI then 0 else 1)), h)
  | e, i, 0, _, hm => by omega
  | 0, i, m + 1, hi, hm => by
    have c0 : ¬ (i : Int) < 7 := by omega
    rw [inode_Check_l0_eq, List.drop_of_length_le (by omega)]
    simp only [afAddr_p, List.append_nil, if_true, if_false, bnd_some, mp_some, cnd_t, cnd_f, gd_no, gd_tt, gd_tf, gd_ft, gd_ff, alenS_s, alen_sl, alen_ns, abin_add, abin_sub, abin_mul, abin_eql, abin_neq, abin_lss, abin_leq, abin_gtr, abin_geq, abin_seql, abin_sneq, abin_slss, aun_not, aun_neg, aeqB_t, aeqB_f, aconv_i, apick_b, cond_true, cond_false, decide_true, decide_false, Bool.not_true, Bool.not_false, aext_t, ofPart_c, ofPart_a, part?_c, part?_a, cells?_c, cells?_a, tupN_2, tupN_3, Option.map_some, Option.some.injEq, List.getElem?_cons_zero, List.getElem?_cons_succ, not_true_eq_false, not_false_eq_true, quiet_same, bytesI_length, Option.join_some, List.append_assoc, List.cons_append, List.nil_append, List.length_append, List.length_cons, List.length_nil, Nat.zero_add, Nat.add_zero, rd_at, rd_at0, set_at, set_at0, List.set_cons_zero, List.set_cons_succ, ne_eq, decide_not, quiet_ext, newOk_some, List.cons_prefix_cons, List.nil_prefix, List.drop_succ_cons, List.drop_zero, List.all_cons, List.all_nil, Bool.and_true, true_and, and_true, c0, List.all_nil]
  | e + 1, i, m + 1, hi, hm => by
    have ih := check_loopI (h := h) (q := q) hd e (i + 1) m (by omega) (by omega)
    have c0 : (i : Int) < 7 := by omega
    have hx : aidxA1 7 (.a (encI d)) (.c (.i .i64 (i : Int))) = some (.c (.i .i64 d[i])) := by
      rw [idxA1_of (by omega), encI_get, List.getElem?_eq_getElem (by omega)]; rfl
    rw [inode_Check_l0_eq, List.drop_eq_getElem_cons (by omega), List.all_cons]
    cases c1 : smallI d[i] with
    | true =>
      simp only [afAddr_p, List.append_nil, if_true, if_false, bnd_some, mp_some, cnd_t, cnd_f, gd_no, gd_tt, gd_tf, gd_ft, gd_ff, alenS_s, alen_sl, alen_ns, abin_add, abin_sub, abin_mul, abin_eql, abin_neq, abin_lss, abin_leq, abin_gtr, abin_geq, abin_seql, abin_sneq, abin_slss, aun_not, aun_neg, aeqB_t, aeqB_f, aconv_i, apick_b, cond_true, cond_false, decide_true, decide_false, Bool.not_true, Bool.not_false, aext_t, ofPart_c, ofPart_a, part?_c, part?_a, cells?_c, cells?_a, tupN_2, tupN_3, Option.map_some, Option.some.injEq, List.getElem?_cons_zero, List.getElem?_cons_succ, not_true_eq_false, not_false_eq_true, quiet_same, bytesI_length, Option.join_some, List.append_assoc, List.cons_append, List.nil_append, List.length_append, List.length_cons, List.length_nil, Nat.zero_add, Nat.add_zero, rd_at, rd_at0, set_at, set_at0, List.set_cons_zero, List.set_cons_succ, ne_eq, decide_not, quiet_ext, newOk_some, List.cons_prefix_cons, List.nil_prefix, List.drop_succ_cons, List.drop_zero, List.all_cons, List.all_nil, Bool.and_true, true_and, and_true, c0, hx, inode_small_eq, c1, Bool.true_and, wi_succ (show i + 1 < 9223372036854775808 by omega)]
      exact ih
    | false => simp only [afAddr_p, List.append_nil, if_true, if_false, bnd_some, mp_some, cnd_t, cnd_f, gd_no, gd_tt, gd_tf, gd_ft, gd_ff, alenS_s, alen_sl, alen_ns, abin_add, abin_sub, abin_mul, abin_eql, abin_neq, abin_lss, abin_leq, abin_gtr, abin_geq, abin_seql, abin_sneq, abin_slss, aun_not, aun_neg, aeqB_t, aeqB_f, aconv_i, apick_b, cond_true, cond_false, decide_true, decide_false, Bool.not_true, Bool.not_false, aext_t, ofPart_c, ofPart_a, part?_c, part?_a, cells?_c, cells?_a, tupN_2, tupN_3, Option.map_some, Option.some.injEq, List.getElem?_cons_zero, List.getElem?_cons_succ, not_true_eq_false, not_false_eq_true, quiet_same, bytesI_length, Option.join_some, List.append_assoc, List.cons_append, List.nil_append, List.length_append, List.length_cons, List.length_nil, Nat.zero_add, Nat.add_zero, rd_at, rd_at0, set_at, set_at0, List.set_cons_zero, List.set_cons_succ, ne_eq, decide_not, quiet_ext, newOk_some, List.cons_prefix_cons, List.nil_prefix, List.drop_succ_cons, List.drop_zero, List.all_cons, List.all_nil, Bool.and_true, true_and, and_true, c0, hx, inode_small_eq, c1, Bool.false_and]

theorem aeq_ino {k l s p k' l' s' p' : Int} {d d' : List Int} {neg : Bool} (hd : d.length = 7) (hd' : d'.length = 7) :
    aeq neg [Sh.i .i64, .i .i64, .i .i64, .i .i64, .i .i64, .i .i64, .i .i64, .i .i64, .i .i64, .i .i64, .i .i64] (.a (inoC k l s p d)) (.a (inoC k' l' s' p' d')) = some (.c (.b (bif neg then !decide (k :: l :: s :: p :: d = k' :: l' :: s' :: p' :: d') else decide (k :: l :: s :: p :: d = k' :: l' :: s' :: p' :: d')))) := by
  have h1 := aeqI_t (l := k :: l :: s :: p :: d) (m := k' :: l' :: s' :: p' :: d') (n := 11) (by simp [hd]) (by simp [hd'])
  have h2 := aeqI_f (l := k :: l :: s :: p :: d) (m := k' :: l' :: s' :: p' :: d') (n := 11) (by simp [hd]) (by simp [hd'])
  cases neg
  · exact h2
  · exact h1

theorem zero_ino {l s p : Int} {d : List Int} : decide ((0 : Int) :: l :: s :: p :: d = 0 :: 0 :: 0 :: 0 :: zI 7) = zeroI l s p d := by
  unfold zeroI
  simp

theorem afill_ino : afill [Cell.i .i64 0, .i .i64 0, .i .i64 0, .i .i64 0, .i .i64 0, .i .i64 0, .i .i64 0, .i .i64 0, .i .i64 0, .i .i64 0, .i .i64 0] [] = some (inoC 0 0 0 0 (zI 7)) := rfl

theorem inode_Check_eq {k l s p : Int} {d : List Int} {h : Heap} (hd : d.length = 7) : S_inode_Check [.a (inoC k l s p d)] h = some (.c (.i .i64 (bif mayI k l s p d then 0 else 1)), h) := by
  have hlen : (inoC k l s p d).length = 11 := by simp [encI_length, hd]
  have key : ∀ N, 8 < N → ∀ g, ∃ g', R_inode_Check N [.a (inoC k l s p d)] g = some (.c (.i .i64 (bif mayI k l s p d then 0 else 1)), g') := by
    intro N hN g
    have lp := fun g => check_loopI (h := g) (q := N) hd 7 0 N (by omega) (by omega)
    simp only [List.drop_zero, Int.cast_ofNat_Int] at lp
    rw [R_inode_Check_eq]
    unfold mayI
    by_cases k0 : k = 0
    · subst k0
      rw [if_pos rfl]
      have c1 : ¬ (0 : Int) < 0 := by omega
      have c2 : ¬ (2 : Int) < 0 := by omega
      have hq := aeq_ino (k := 0) (l := l) (s := s) (p := p) (k' := 0) (l' := 0) (s' := 0) (p' := 0) (neg := true) hd (zI_length (n := 7))
      simp only [cond_true, zero_ino] at hq
      cases hz : zeroI l s p d with
      | false =>
        rw [hz] at hq
        exact ⟨_, by simp only [afAddr_p, List.append_nil, if_true, if_false, bnd_some, mp_some, cnd_t, cnd_f, gd_no, gd_tt, gd_tf, gd_ft, gd_ff, alenS_s, alen_sl, alen_ns, abin_add, abin_sub, abin_mul, abin_eql, abin_neq, abin_lss, abin_leq, abin_gtr, abin_geq, abin_seql, abin_sneq, abin_slss, aun_not, aun_neg, aeqB_t, aeqB_f, aconv_i, apick_b, cond_true, cond_false, decide_true, decide_false, Bool.not_true, Bool.not_false, aext_t, ofPart_c, ofPart_a, part?_c, part?_a, cells?_c, cells?_a, tupN_2, tupN_3, Option.map_some, Option.some.injEq, List.getElem?_cons_zero, List.getElem?_cons_succ, not_true_eq_false, not_false_eq_true, quiet_same, bytesI_length, Option.join_some, List.append_assoc, List.cons_append, List.nil_append, List.length_append, List.length_cons, List.length_nil, Nat.zero_add, Nat.add_zero, rd_at, rd_at0, set_at, set_at0, List.set_cons_zero, List.set_cons_succ, ne_eq, decide_not, quiet_ext, newOk_some, List.cons_prefix_cons, List.nil_prefix, List.drop_succ_cons, List.drop_zero, List.all_cons, List.all_nil, Bool.and_true, true_and, and_true, aloadN_at, aloadN_at0, aload1_at, aload1_at0, astoreN_at, astoreN_at0, astore1_at, astore1_at0, aslA_at, aslA_at0, ldN_all, ld1_row, stN_all, st1_row, slr_all, Nat.reduceAdd, Nat.reduceMul, Nat.reduceLT, c1, c2, hlen, afill_ino, hq] <;> rfl⟩
      | true =>
        rw [hz] at hq
        have hz' := of_decide_eq_true hz
        obtain ⟨rfl, rfl, rfl, rfl⟩ := hz'
        have sm : smallI 0 = true := by decide
        have al : (zI 7).all smallI = true := by decide
        have c3 : ¬ (34304 : Int) < 0 := by omega
        rw [al] at lp
        exact ⟨_, by simp only [afAddr_p, List.append_nil, if_true, if_false, bnd_some, mp_some, cnd_t, cnd_f, gd_no, gd_tt, gd_tf, gd_ft, gd_ff, alenS_s, alen_sl, alen_ns, abin_add, abin_sub, abin_mul, abin_eql, abin_neq, abin_lss, abin_leq, abin_gtr, abin_geq, abin_seql, abin_sneq, abin_slss, aun_not, aun_neg, aeqB_t, aeqB_f, aconv_i, apick_b, cond_true, cond_false, decide_true, decide_false, Bool.not_true, Bool.not_false, aext_t, ofPart_c, ofPart_a, part?_c, part?_a, cells?_c, cells?_a, tupN_2, tupN_3, Option.map_some, Option.some.injEq, List.getElem?_cons_zero, List.getElem?_cons_succ, not_true_eq_false, not_false_eq_true, quiet_same, bytesI_length, Option.join_some, List.append_assoc, List.cons_append, List.nil_append, List.length_append, List.length_cons, List.length_nil, Nat.zero_add, Nat.add_zero, rd_at, rd_at0, set_at, set_at0, List.set_cons_zero, List.set_cons_succ, ne_eq, decide_not, quiet_ext, newOk_some, List.cons_prefix_cons, List.nil_prefix, List.drop_succ_cons, List.drop_zero, List.all_cons, List.all_nil, Bool.and_true, true_and, and_true, aloadN_at, aloadN_at0, aload1_at, aload1_at0, astoreN_at, astoreN_at0, astore1_at, astore1_at0, aslA_at, aslA_at0, ldN_all, ld1_row, stN_all, st1_row, slr_all, Nat.reduceAdd, Nat.reduceMul, Nat.reduceLT, c1, c2, c3, hlen, afill_ino, hq, inode_small_eq, sm, inode_Numbers_eq hd, lp] <;> rfl⟩
    · rw [if_neg k0]
      unfold restI
      by_cases c1 : k < 0
      · rw [decide_eq_false (show ¬ (0 ≤ k ∧ k ≤ 2) by omega)]
        exact ⟨_, by simp only [afAddr_p, List.append_nil, if_true, if_false, bnd_some, mp_some, cnd_t, cnd_f, gd_no, gd_tt, gd_tf, gd_ft, gd_ff, alenS_s, alen_sl, alen_ns, abin_add, abin_sub, abin_mul, abin_eql, abin_neq, abin_lss, abin_leq, abin_gtr, abin_geq, abin_seql, abin_sneq, abin_slss, aun_not, aun_neg, aeqB_t, aeqB_f, aconv_i, apick_b, cond_true, cond_false, decide_true, decide_false, Bool.not_true, Bool.not_false, aext_t, ofPart_c, ofPart_a, part?_c, part?_a, cells?_c, cells?_a, tupN_2, tupN_3, Option.map_some, Option.some.injEq, List.getElem?_cons_zero, List.getElem?_cons_succ, not_true_eq_false, not_false_eq_true, quiet_same, bytesI_length, Option.join_some, List.append_assoc, List.cons_append, List.nil_append, List.length_append, List.length_cons, List.length_nil, Nat.zero_add, Nat.add_zero, rd_at, rd_at0, set_at, set_at0, List.set_cons_zero, List.set_cons_succ, ne_eq, decide_not, quiet_ext, newOk_some, List.cons_prefix_cons, List.nil_prefix, List.drop_succ_cons, List.drop_zero, List.all_cons, List.all_nil, Bool.and_true, true_and, and_true, aloadN_at, aloadN_at0, aload1_at, aload1_at0, astoreN_at, astoreN_at0, astore1_at, astore1_at0, aslA_at, aslA_at0, ldN_all, ld1_row, stN_all, st1_row, slr_all, Nat.reduceAdd, Nat.reduceMul, Nat.reduceLT, c1, Bool.false_and] <;> rfl⟩
      · by_cases c2 : 2 < k
        · rw [decide_eq_false (show ¬ (0 ≤ k ∧ k ≤ 2) by omega)]
          exact ⟨_, by simp only [afAddr_p, List.append_nil, if_true, if_false, bnd_some, mp_some, cnd_t, cnd_f, gd_no, gd_tt, gd_tf, gd_ft, gd_ff, alenS_s, alen_sl, alen_ns, abin_add, abin_sub, abin_mul, abin_eql, abin_neq, abin_lss, abin_leq, abin_gtr, abin_geq, abin_seql, abin_sneq, abin_slss, aun_not, aun_neg, aeqB_t, aeqB_f, aconv_i, apick_b, cond_true, cond_false, decide_true, decide_false, Bool.not_true, Bool.not_false, aext_t, ofPart_c, ofPart_a, part?_c, part?_a, cells?_c, cells?_a, tupN_2, tupN_3, Option.map_some, Option.some.injEq, List.getElem?_cons_zero, List.getElem?_cons_succ, not_true_eq_false, not_false_eq_true, quiet_same, bytesI_length, Option.join_some, List.append_assoc, List.cons_append, List.nil_append, List.length_append, List.length_cons, List.length_nil, Nat.zero_add, Nat.add_zero, rd_at, rd_at0, set_at, set_at0, List.set_cons_zero, List.set_cons_succ, ne_eq, decide_not, quiet_ext, newOk_some, List.cons_prefix_cons, List.nil_prefix, List.drop_succ_cons, List.drop_zero, List.all_cons, List.all_nil, Bool.and_true, true_and, and_true, aloadN_at, aloadN_at0, aload1_at, aload1_at0, astoreN_at, astoreN_at0, astore1_at, astore1_at0, aslA_at, aslA_at0, ldN_all, ld1_row, stN_all, st1_row, slr_all, Nat.reduceAdd, Nat.reduceMul, Nat.reduceLT, c1, c2, Bool.false_and] <;> rfl⟩
        · rw [decide_eq_true (show 0 ≤ k ∧ k ≤ 2 by omega), Bool.true_and]
          cases sl : smallI l with
          | false => exact ⟨_, by simp only [afAddr_p, List.append_nil, if_true, if_false, bnd_some, mp_some, cnd_t, cnd_f, gd_no, gd_tt, gd_tf, gd_ft, gd_ff, alenS_s, alen_sl, alen_ns, abin_add, abin_sub, abin_mul, abin_eql, abin_neq, abin_lss, abin_leq, abin_gtr, abin_geq, abin_seql, abin_sneq, abin_slss, aun_not, aun_neg, aeqB_t, aeqB_f, aconv_i, apick_b, cond_true, cond_false, decide_true, decide_false, Bool.not_true, Bool.not_false, aext_t, ofPart_c, ofPart_a, part?_c, part?_a, cells?_c, cells?_a, tupN_2, tupN_3, Option.map_some, Option.some.injEq, List.getElem?_cons_zero, List.getElem?_cons_succ, not_true_eq_false, not_false_eq_true, quiet_same, bytesI_length, Option.join_some, List.append_assoc, List.cons_append, List.nil_append, List.length_append, List.length_cons, List.length_nil, Nat.zero_add, Nat.add_zero, rd_at, rd_at0, set_at, set_at0, List.set_cons_zero, List.set_cons_succ, ne_eq, decide_not, quiet_ext, newOk_some, List.cons_prefix_cons, List.nil_prefix, List.drop_succ_cons, List.drop_zero, List.all_cons, List.all_nil, Bool.and_true, true_and, and_true, aloadN_at, aloadN_at0, aload1_at, aload1_at0, astoreN_at, astoreN_at0, astore1_at, astore1_at0, aslA_at, aslA_at0, ldN_all, ld1_row, stN_all, st1_row, slr_all, Nat.reduceAdd, Nat.reduceMul, Nat.reduceLT, c1, c2, k0, inode_small_eq, sl, Bool.false_and] <;> rfl⟩
          | true =>
            cases sp : smallI p with
            | false => exact ⟨_, by simp only [afAddr_p, List.append_nil, if_true, if_false, bnd_some, mp_some, cnd_t, cnd_f, gd_no, gd_tt, gd_tf, gd_ft, gd_ff, alenS_s, alen_sl, alen_ns, abin_add, abin_sub, abin_mul, abin_eql, abin_neq, abin_lss, abin_leq, abin_gtr, abin_geq, abin_seql, abin_sneq, abin_slss, aun_not, aun_neg, aeqB_t, aeqB_f, aconv_i, apick_b, cond_true, cond_false, decide_true, decide_false, Bool.not_true, Bool.not_false, aext_t, ofPart_c, ofPart_a, part?_c, part?_a, cells?_c, cells?_a, tupN_2, tupN_3, Option.map_some, Option.some.injEq, List.getElem?_cons_zero, List.getElem?_cons_succ, not_true_eq_false, not_false_eq_true, quiet_same, bytesI_length, Option.join_some, List.append_assoc, List.cons_append, List.nil_append, List.length_append, List.length_cons, List.length_nil, Nat.zero_add, Nat.add_zero, rd_at, rd_at0, set_at, set_at0, List.set_cons_zero, List.set_cons_succ, ne_eq, decide_not, quiet_ext, newOk_some, List.cons_prefix_cons, List.nil_prefix, List.drop_succ_cons, List.drop_zero, List.all_cons, List.all_nil, Bool.and_true, true_and, and_true, aloadN_at, aloadN_at0, aload1_at, aload1_at0, astoreN_at, astoreN_at0, astore1_at, astore1_at0, aslA_at, aslA_at0, ldN_all, ld1_row, stN_all, st1_row, slr_all, Nat.reduceAdd, Nat.reduceMul, Nat.reduceLT, c1, c2, k0, inode_small_eq, sl, sp, Bool.true_and, Bool.false_and] <;> rfl⟩
            | true =>
              by_cases c3 : s < 0
              · rw [decide_eq_false (show ¬ (0 ≤ s ∧ s ≤ 34304) by omega)]
                exact ⟨_, by simp only [afAddr_p, List.append_nil, if_true, if_false, bnd_some, mp_some, cnd_t, cnd_f, gd_no, gd_tt, gd_tf, gd_ft, gd_ff, alenS_s, alen_sl, alen_ns, abin_add, abin_sub, abin_mul, abin_eql, abin_neq, abin_lss, abin_leq, abin_gtr, abin_geq, abin_seql, abin_sneq, abin_slss, aun_not, aun_neg, aeqB_t, aeqB_f, aconv_i, apick_b, cond_true, cond_false, decide_true, decide_false, Bool.not_true, Bool.not_false, aext_t, ofPart_c, ofPart_a, part?_c, part?_a, cells?_c, cells?_a, tupN_2, tupN_3, Option.map_some, Option.some.injEq, List.getElem?_cons_zero, List.getElem?_cons_succ, not_true_eq_false, not_false_eq_true, quiet_same, bytesI_length, Option.join_some, List.append_assoc, List.cons_append, List.nil_append, List.length_append, List.length_cons, List.length_nil, Nat.zero_add, Nat.add_zero, rd_at, rd_at0, set_at, set_at0, List.set_cons_zero, List.set_cons_succ, ne_eq, decide_not, quiet_ext, newOk_some, List.cons_prefix_cons, List.nil_prefix, List.drop_succ_cons, List.drop_zero, List.all_cons, List.all_nil, Bool.and_true, true_and, and_true, aloadN_at, aloadN_at0, aload1_at, aload1_at0, astoreN_at, astoreN_at0, astore1_at, astore1_at0, aslA_at, aslA_at0, ldN_all, ld1_row, stN_all, st1_row, slr_all, Nat.reduceAdd, Nat.reduceMul, Nat.reduceLT, c1, c2, k0, inode_small_eq, sl, sp, c3, Bool.true_and, Bool.false_and] <;> rfl⟩
              · by_cases c4 : 34304 < s
                · rw [decide_eq_false (show ¬ (0 ≤ s ∧ s ≤ 34304) by omega)]
                  exact ⟨_, by simp only [afAddr_p, List.append_nil, if_true, if_false, bnd_some, mp_some, cnd_t, cnd_f, gd_no, gd_tt, gd_tf, gd_ft, gd_ff, alenS_s, alen_sl, alen_ns, abin_add, abin_sub, abin_mul, abin_eql, abin_neq, abin_lss, abin_leq, abin_gtr, abin_geq, abin_seql, abin_sneq, abin_slss, aun_not, aun_neg, aeqB_t, aeqB_f, aconv_i, apick_b, cond_true, cond_false, decide_true, decide_false, Bool.not_true, Bool.not_false, aext_t, ofPart_c, ofPart_a, part?_c, part?_a, cells?_c, cells?_a, tupN_2, tupN_3, Option.map_some, Option.some.injEq, List.getElem?_cons_zero, List.getElem?_cons_succ, not_true_eq_false, not_false_eq_true, quiet_same, bytesI_length, Option.join_some, List.append_assoc, List.cons_append, List.nil_append, List.length_append, List.length_cons, List.length_nil, Nat.zero_add, Nat.add_zero, rd_at, rd_at0, set_at, set_at0, List.set_cons_zero, List.set_cons_succ, ne_eq, decide_not, quiet_ext, newOk_some, List.cons_prefix_cons, List.nil_prefix, List.drop_succ_cons, List.drop_zero, List.all_cons, List.all_nil, Bool.and_true, true_and, and_true, aloadN_at, aloadN_at0, aload1_at, aload1_at0, astoreN_at, astoreN_at0, astore1_at, astore1_at0, aslA_at, aslA_at0, ldN_all, ld1_row, stN_all, st1_row, slr_all, Nat.reduceAdd, Nat.reduceMul, Nat.reduceLT, c1, c2, k0, inode_small_eq, sl, sp, c3, c4, Bool.true_and, Bool.false_and] <;> rfl⟩
                · rw [decide_eq_true (show 0 ≤ s ∧ s ≤ 34304 by omega)]
                  exact ⟨_, by simp only [afAddr_p, List.append_nil, if_true, if_false, bnd_some, mp_some, cnd_t, cnd_f, gd_no, gd_tt, gd_tf, gd_ft, gd_ff, alenS_s, alen_sl, alen_ns, abin_add, abin_sub, abin_mul, abin_eql, abin_neq, abin_lss, abin_leq, abin_gtr, abin_geq, abin_seql, abin_sneq, abin_slss, aun_not, aun_neg, aeqB_t, aeqB_f, aconv_i, apick_b, cond_true, cond_false, decide_true, decide_false, Bool.not_true, Bool.not_false, aext_t, ofPart_c, ofPart_a, part?_c, part?_a, cells?_c, cells?_a, tupN_2, tupN_3, Option.map_some, Option.some.injEq, List.getElem?_cons_zero, List.getElem?_cons_succ, not_true_eq_false, not_false_eq_true, quiet_same, bytesI_length, Option.join_some, List.append_assoc, List.cons_append, List.nil_append, List.length_append, List.length_cons, List.length_nil, Nat.zero_add, Nat.add_zero, rd_at, rd_at0, set_at, set_at0, List.set_cons_zero, List.set_cons_succ, ne_eq, decide_not, quiet_ext, newOk_some, List.cons_prefix_cons, List.nil_prefix, List.drop_succ_cons, List.drop_zero, List.all_cons, List.all_nil, Bool.and_true, true_and, and_true, aloadN_at, aloadN_at0, aload1_at, aload1_at0, astoreN_at, astoreN_at0, astore1_at, astore1_at0, aslA_at, aslA_at0, ldN_all, ld1_row, stN_all, st1_row, slr_all, Nat.reduceAdd, Nat.reduceMul, Nat.reduceLT, c1, c2, k0, inode_small_eq, sl, sp, c3, c4, Bool.true_and, hlen, inode_Numbers_eq hd, lp] <;> rfl⟩
  obtain ⟨g', e⟩ := key (h.length + 9) (by omega) (ro h)
  exact S_inode_Check_flat e rfl

/-! ### An inode's bytes -/

/-- Bytes filled up to a block. -/
def inoH (k l s p : Int) : List UInt8 := bytesI 1 k ++ zeros 1 ++ bytesI 2 l ++ bytesI 4 s ++ bytesI 2 p
def inoD (d : List Int) : List UInt8 := (d.map (bytesI 2)).flatten
/-- An inode's 32 bytes. -/
def inoB (k l s p : Int) (d : List Int) : List UInt8 := inoH k l s p ++ inoD d ++ zeros 8

theorem inoH_length {k l s p : Int} : (inoH k l s p).length = 10 := by simp [inoH]
theorem inoD_length {d : List Int} : (inoD d).length = 2 * d.length := by
  unfold inoD
  induction d with
  | nil => rfl
  | cons x d ih => simp only [List.map_cons, List.flatten_cons, List.length_append, bytesI_length, List.length_cons, ih]; omega
theorem inoB_length {k l s p : Int} {d : List Int} (hd : d.length = 7) : (inoB k l s p d).length = 32 := by
  unfold inoB; rw [List.length_append, List.length_append, inoH_length, inoD_length, zeros_length, hd]
theorem inoD_snoc {d : List Int} {x : Int} : inoD (d ++ [x]) = inoD d ++ bytesI 2 x := by simp [inoD]

theorem inoH_with {k l s p : Int} : withB (withB (withB (withB (zeros 256) 0 1 k) 2 2 l) 4 4 s) 8 2 p = padB 256 (inoH k l s p) := by
  rw [← padB_nil]
  have h1 := withB_pad (l := []) (a := 0) (w := 1) (v := k) (by simp) (by omega) (by omega) (by omega)
  have h2 := withB_pad (l := [] ++ zeros (0 - 0) ++ bytesI 1 k) (a := 2) (w := 2) (v := l) (by simp) (by omega) (by omega) (by omega)
  have h3 := withB_pad (l := [] ++ zeros (0 - 0) ++ bytesI 1 k ++ zeros 1 ++ bytesI 2 l) (a := 4) (w := 4) (v := s) (by simp) (by omega) (by omega) (by omega)
  have h4 := withB_pad (l := [] ++ zeros (0 - 0) ++ bytesI 1 k ++ zeros 1 ++ bytesI 2 l ++ zeros 0 ++ bytesI 4 s) (a := 8) (w := 2) (v := p) (by simp) (by omega) (by omega) (by omega)
  simp only [List.length_append, List.length_nil, zeros_length, bytesI_length, Nat.sub_self, Nat.zero_sub, Nat.reduceAdd, Nat.reduceSub] at h1 h2 h3 h4
  simp only [Int.cast_ofNat_Int] at h1 h2 h3 h4
  rw [h1, h2, h3, h4]
  congr 1

theorem put_copy {g : Heap} {c0 : List Cell} {B : List UInt8} {z : List Cell} {q : Nat} (hB : B.length = 256) (hz : z.length = 32) : ∀ e i m : Nat, i + e = 32 → e < m →
    inode_Put_l1 q m (.c (.p (g.length + 1) 0)) (.c (.p (g.length + 2) 0)) (.c (.p (g.length + 3) 0)) (.c (.i .i64 i)) (g ++ [some ⟨c0, true⟩, some ⟨z, true⟩, some ⟨encB (B.take i ++ zeros (32 - i)), true⟩, some ⟨encB B, true⟩]) =
      some (.t [.a (encB (B.take 32)), .c (.i .i64 0)], g ++ [some ⟨c0, true⟩, some ⟨encB (B.take 32), true⟩, some ⟨encB (B.take 32), true⟩, some ⟨encB B, true⟩])
  | e, i, 0, _, hm => by omega
  | 0, i, m + 1, hi, hm => by
    have e0 : i = 32 := by omega
    subst e0
    have h1' : ¬ ((32 : Nat) : Int) < 32 := by omega
    have hl : (encB (B.take 32)).length = 32 := by rw [encB_length, List.length_take]; omega
    have e1 : encB (B.take 32 ++ zeros (32 - 32)) = encB (B.take 32) := by simp [zeros]
    rw [inode_Put_l1_eq, e1]
    simp only [afAddr_p, List.append_nil, if_true, if_false, bnd_some, mp_some, cnd_t, cnd_f, gd_no, gd_tt, gd_tf, gd_ft, gd_ff, alenS_s, alen_sl, alen_ns, abin_add, abin_sub, abin_mul, abin_eql, abin_neq, abin_lss, abin_leq, abin_gtr, abin_geq, abin_seql, abin_sneq, abin_slss, aun_not, aun_neg, aeqB_t, aeqB_f, aconv_i, apick_b, cond_true, cond_false, decide_true, decide_false, Bool.not_true, Bool.not_false, aext_t, ofPart_c, ofPart_a, part?_c, part?_a, cells?_c, cells?_a, tupN_2, tupN_3, Option.map_some, Option.some.injEq, List.getElem?_cons_zero, List.getElem?_cons_succ, not_true_eq_false, not_false_eq_true, quiet_same, bytesI_length, Option.join_some, List.append_assoc, List.cons_append, List.nil_append, List.length_append, List.length_cons, List.length_nil, Nat.zero_add, Nat.add_zero, rd_at, rd_at0, set_at, set_at0, List.set_cons_zero, List.set_cons_succ, ne_eq, decide_not, quiet_ext, newOk_some, List.cons_prefix_cons, List.nil_prefix, List.drop_succ_cons, List.drop_zero, List.all_cons, List.all_nil, Bool.and_true, true_and, and_true, aloadN_at, aloadN_at0, aload1_at, aload1_at0, astoreN_at, astoreN_at0, astore1_at, astore1_at0, aslA_at, aslA_at0, ldN_all, ld1_row, stN_all, st1_row, slr_all, Nat.reduceAdd, Nat.reduceMul, Nat.reduceLT, h1', hl, hz]
  | e + 1, i, m + 1, hi, hm => by
    have ih := put_copy (g := g) (c0 := c0) (q := q) hB hz e (i + 1) m (by omega) (by omega)
    have h1' : (i : Int) < 32 := by omega
    have a1 : aiAddrA 256 1 (.c (.p (g.length + 3) 0)) (.c (.i .i64 (i : Int))) = some (.c (.p (g.length + 3) i)) := by rw [iAddrA_of (by omega)]; simp
    have a2 : aiAddrA 32 1 (.c (.p (g.length + 2) 0)) (.c (.i .i64 (i : Int))) = some (.c (.p (g.length + 2) i)) := by rw [iAddrA_of (by omega)]; simp
    have l1 : (encB B)[i]? = some (.i .u8 B[i].toNat) := by rw [encB_get, List.getElem?_eq_getElem (by omega)]; rfl
    have ho : i < (encB (B.take i ++ zeros (32 - i))).length := by rw [encB_length, List.length_append, zeros_length, List.length_take]; omega
    have es : (encB (B.take i ++ zeros (32 - i))).set i (.i .u8 B[i].toNat) = encB (B.take (i + 1) ++ zeros (32 - (i + 1))) := by
      rw [encB_set]
      refine congrArg encB ?_
      have h6 : (B.take i).length = i := by simp; omega
      rw [List.set_append_right _ _ (by omega), h6, Nat.sub_self, List.take_succ_eq_append_getElem (by omega), List.append_assoc]
      refine congrArg (B.take i ++ ·) ?_
      rw [show 32 - i = 32 - (i + 1) + 1 by omega]
      unfold zeros
      rw [List.replicate_succ, List.set_cons_zero]; rfl
    rw [inode_Put_l1_eq]
    simp only [afAddr_p, List.append_nil, if_true, if_false, bnd_some, mp_some, cnd_t, cnd_f, gd_no, gd_tt, gd_tf, gd_ft, gd_ff, alenS_s, alen_sl, alen_ns, abin_add, abin_sub, abin_mul, abin_eql, abin_neq, abin_lss, abin_leq, abin_gtr, abin_geq, abin_seql, abin_sneq, abin_slss, aun_not, aun_neg, aeqB_t, aeqB_f, aconv_i, apick_b, cond_true, cond_false, decide_true, decide_false, Bool.not_true, Bool.not_false, aext_t, ofPart_c, ofPart_a, part?_c, part?_a, cells?_c, cells?_a, tupN_2, tupN_3, Option.map_some, Option.some.injEq, List.getElem?_cons_zero, List.getElem?_cons_succ, not_true_eq_false, not_false_eq_true, quiet_same, bytesI_length, Option.join_some, List.append_assoc, List.cons_append, List.nil_append, List.length_append, List.length_cons, List.length_nil, Nat.zero_add, Nat.add_zero, rd_at, rd_at0, set_at, set_at0, List.set_cons_zero, List.set_cons_succ, ne_eq, decide_not, quiet_ext, newOk_some, List.cons_prefix_cons, List.nil_prefix, List.drop_succ_cons, List.drop_zero, List.all_cons, List.all_nil, Bool.and_true, true_and, and_true, aloadN_at, aloadN_at0, aload1_at, aload1_at0, astoreN_at, astoreN_at0, astore1_at, astore1_at0, aslA_at, aslA_at0, ldN_all, ld1_row, stN_all, st1_row, slr_all, Nat.reduceAdd, Nat.reduceMul, Nat.reduceLT, h1', a1, a2, l1, ho, es, wi_succ (show i + 1 < 9223372036854775808 by omega)]
    exact ih

theorem put_loop {g : Heap} {k l s p : Int} {d : List Int} {c0 z : List Cell} {q : Nat} (hd : d.length = 7) (hz : z.length = 32) (hq : 33 < q) : ∀ e i m : Nat, i + e = 7 → e < m →
    inode_Put_l0 q m (.c (.p (g.length + 1) 0)) (.c (.p (g.length + 2) 0)) (.c (.p (g.length + 3) 0)) (.a (encI d)) (.c (.i .i64 i)) (g ++ [some ⟨c0, true⟩, some ⟨z, true⟩, some ⟨encB (zeros 32), true⟩, some ⟨encB (padB 256 (inoH k l s p ++ inoD (d.take i))), true⟩]) =
      some (.t [.a (encB (inoB k l s p d)), .c (.i .i64 0)], g ++ [some ⟨c0, true⟩, some ⟨encB (inoB k l s p d), true⟩, some ⟨encB (inoB k l s p d), true⟩, some ⟨encB (padB 256 (inoH k l s p ++ inoD d)), true⟩])
  | e, i, 0, _, hm => by omega
  | 0, i, m + 1, hi, hm => by
    have e0 : i = 7 := by omega
    subst e0
    have h1' : ¬ ((7 : Nat) : Int) < 7 := by omega
    rw [List.take_of_length_le (by omega)]
    have hlen : (inoH k l s p ++ inoD d).length = 24 := by rw [List.length_append, inoH_length, inoD_length, hd]
    have := put_copy (g := g) (c0 := c0) (z := z) (q := q) (B := padB 256 (inoH k l s p ++ inoD d)) (padB_length (by omega)) hz 32 0 q (by omega) (by omega)
    have e1 : (padB 256 (inoH k l s p ++ inoD d)).take 32 = inoB k l s p d := by
      unfold padB inoB
      rw [List.take_append, List.take_of_length_le (by omega), hlen]
      refine congrArg (inoH k l s p ++ inoD d ++ ·) ?_
      unfold zeros
      rw [List.take_replicate]; rfl
    rw [e1] at this
    simp only [List.take_zero, List.nil_append, Nat.sub_zero] at this
    rw [inode_Put_l0_eq]
    simp only [afAddr_p, List.append_nil, if_true, if_false, bnd_some, mp_some, cnd_t, cnd_f, gd_no, gd_tt, gd_tf, gd_ft, gd_ff, alenS_s, alen_sl, alen_ns, abin_add, abin_sub, abin_mul, abin_eql, abin_neq, abin_lss, abin_leq, abin_gtr, abin_geq, abin_seql, abin_sneq, abin_slss, aun_not, aun_neg, aeqB_t, aeqB_f, aconv_i, apick_b, cond_true, cond_false, decide_true, decide_false, Bool.not_true, Bool.not_false, aext_t, ofPart_c, ofPart_a, part?_c, part?_a, cells?_c, cells?_a, tupN_2, tupN_3, Option.map_some, Option.some.injEq, List.getElem?_cons_zero, List.getElem?_cons_succ, not_true_eq_false, not_false_eq_true, quiet_same, bytesI_length, Option.join_some, List.append_assoc, List.cons_append, List.nil_append, List.length_append, List.length_cons, List.length_nil, Nat.zero_add, Nat.add_zero, rd_at, rd_at0, set_at, set_at0, List.set_cons_zero, List.set_cons_succ, ne_eq, decide_not, quiet_ext, newOk_some, List.cons_prefix_cons, List.nil_prefix, List.drop_succ_cons, List.drop_zero, List.all_cons, List.all_nil, Bool.and_true, true_and, and_true, h1']
    exact this
  | e + 1, i, m + 1, hi, hm => by
    have ih := put_loop (g := g) (k := k) (l := l) (s := s) (p := p) (c0 := c0) hd hz hq e (i + 1) m (by omega) (by omega)
    have h1' : (i : Int) < 7 := by omega
    have hx : aidxA1 7 (.a (encI d)) (.c (.i .i64 (i : Int))) = some (.c (.i .i64 d[i])) := by
      rw [idxA1_of (by omega), encI_get, List.getElem?_eq_getElem (by omega)]; rfl
    have hlen : (inoH k l s p ++ inoD (d.take i)).length = 10 + 2 * i := by rw [List.length_append, inoH_length, inoD_length, List.length_take]; omega
    have hL : (encB (padB 256 (inoH k l s p ++ inoD (d.take i)))).length = 256 := by rw [encB_length, padB_length (by omega)]
    have e2 : IntKind.wrap .i64 (2 * (i : Int)) = ((2 * i : Nat) : Int) := by rw [wrap_i64 (by omega) (by omega)]; omega
    have e3 : IntKind.wrap .i64 (10 + ((2 * i : Nat) : Int)) = ((10 + 2 * i : Nat) : Int) := by rw [wrap_i64 (by omega) (by omega)]; omega
    have hw := num_With_eq (l := padB 256 (inoH k l s p ++ inoD (d.take i))) (h := g ++ [some ⟨c0, true⟩, some ⟨z, true⟩, some ⟨encB (zeros 32), true⟩, some ⟨encB (padB 256 (inoH k l s p ++ inoD (d.take i))), true⟩]) (padB_length (by omega)) (a := ((10 + 2 * i : Nat) : Int)) (w := 2) (v := d[i])
    have e4 := withB_pad (l := inoH k l s p ++ inoD (d.take i)) (a := 10 + 2 * i) (w := 2) (v := d[i]) (by omega) (by omega) (by omega) (by omega)
    rw [show ((2 : Nat) : Int) = 2 from rfl, hlen, Nat.sub_self, show zeros 0 = [] from rfl, List.append_nil, List.append_assoc, ← inoD_snoc, ← List.take_succ_eq_append_getElem (by omega)] at e4
    rw [e4] at hw
    have hL' : (encB (padB 256 (inoH k l s p ++ inoD (d.take (i + 1))))).length = 256 := by
      rw [encB_length, padB_length (by rw [List.length_append, inoH_length, inoD_length, List.length_take]; omega)]
    rw [inode_Put_l0_eq]
    simp only [afAddr_p, List.append_nil, if_true, if_false, bnd_some, mp_some, cnd_t, cnd_f, gd_no, gd_tt, gd_tf, gd_ft, gd_ff, alenS_s, alen_sl, alen_ns, abin_add, abin_sub, abin_mul, abin_eql, abin_neq, abin_lss, abin_leq, abin_gtr, abin_geq, abin_seql, abin_sneq, abin_slss, aun_not, aun_neg, aeqB_t, aeqB_f, aconv_i, apick_b, cond_true, cond_false, decide_true, decide_false, Bool.not_true, Bool.not_false, aext_t, ofPart_c, ofPart_a, part?_c, part?_a, cells?_c, cells?_a, tupN_2, tupN_3, Option.map_some, Option.some.injEq, List.getElem?_cons_zero, List.getElem?_cons_succ, not_true_eq_false, not_false_eq_true, quiet_same, bytesI_length, Option.join_some, List.append_assoc, List.cons_append, List.nil_append, List.length_append, List.length_cons, List.length_nil, Nat.zero_add, Nat.add_zero, rd_at, rd_at0, set_at, set_at0, List.set_cons_zero, List.set_cons_succ, ne_eq, decide_not, quiet_ext, newOk_some, List.cons_prefix_cons, List.nil_prefix, List.drop_succ_cons, List.drop_zero, List.all_cons, List.all_nil, Bool.and_true, true_and, and_true, aloadN_at, aloadN_at0, aload1_at, aload1_at0, astoreN_at, astoreN_at0, astore1_at, astore1_at0, aslA_at, aslA_at0, ldN_all, ld1_row, stN_all, st1_row, slr_all, Nat.reduceAdd, Nat.reduceMul, Nat.reduceLT, h1', hx, hL, e2, e3, hw, hL', wi_succ (show i + 1 < 9223372036854775808 by omega)]
    exact ih

theorem inode_Put_eq {k l s p : Int} {d : List Int} {h : Heap} (hd : d.length = 7) :
    S_inode_Put [.a (inoC k l s p d)] h = some (.t [.a (encB (bif mayI k l s p d then inoB k l s p d else zeros 32)), .c (.i .i64 (bif mayI k l s p d then 0 else 1))], h) := by
  have hlen : (inoC k l s p d).length = 11 := by simp [encI_length, hd]
  have key : ∀ N, 33 < N → ∀ g, ∃ g', R_inode_Put N [.a (inoC k l s p d)] g = some (.t [.a (encB (bif mayI k l s p d then inoB k l s p d else zeros 32)), .c (.i .i64 (bif mayI k l s p d then 0 else 1))], g') := by
    intro N hN g
    have hz : (encB (zeros 32)).length = 32 := by rw [encB_length]; exact zeros_length
    have hz2 : (encB (zeros 256)).length = 256 := by rw [encB_length]; exact zeros_length
    rw [R_inode_Put_eq, zeros_enc, zeros_enc]
    cases c : mayI k l s p d with
    | false =>
      generalize zeros 32 = z at *
      generalize zeros 256 = y at *
      exact ⟨_, by simp only [afAddr_p, List.append_nil, if_true, if_false, bnd_some, mp_some, cnd_t, cnd_f, gd_no, gd_tt, gd_tf, gd_ft, gd_ff, alenS_s, alen_sl, alen_ns, abin_add, abin_sub, abin_mul, abin_eql, abin_neq, abin_lss, abin_leq, abin_gtr, abin_geq, abin_seql, abin_sneq, abin_slss, aun_not, aun_neg, aeqB_t, aeqB_f, aconv_i, apick_b, cond_true, cond_false, decide_true, decide_false, Bool.not_true, Bool.not_false, aext_t, ofPart_c, ofPart_a, part?_c, part?_a, cells?_c, cells?_a, tupN_2, tupN_3, Option.map_some, Option.some.injEq, List.getElem?_cons_zero, List.getElem?_cons_succ, not_true_eq_false, not_false_eq_true, quiet_same, bytesI_length, Option.join_some, List.append_assoc, List.cons_append, List.nil_append, List.length_append, List.length_cons, List.length_nil, Nat.zero_add, Nat.add_zero, rd_at, rd_at0, set_at, set_at0, List.set_cons_zero, List.set_cons_succ, ne_eq, decide_not, quiet_ext, newOk_some, List.cons_prefix_cons, List.nil_prefix, List.drop_succ_cons, List.drop_zero, List.all_cons, List.all_nil, Bool.and_true, true_and, and_true, aloadN_at, aloadN_at0, aload1_at, aload1_at0, astoreN_at, astoreN_at0, astore1_at, astore1_at0, aslA_at, aslA_at0, ldN_all, ld1_row, stN_all, st1_row, slr_all, Nat.reduceAdd, Nat.reduceMul, Nat.reduceLT, hlen, inode_Check_eq hd, c, hz, Int.reduceEq] <;> rfl⟩
    | true =>
      have := put_loop (g := g) (k := k) (l := l) (s := s) (p := p) (c0 := inoC k l s p d) (z := encB (zeros 32)) (q := N) hd hz hN 7 0 N (by omega) (by omega)
      simp only [List.take_zero, show inoD [] = [] from rfl, List.append_nil] at this
      have w1 := fun h => num_With_eq (h := h) (l := zeros 256) zeros_length (a := 0) (w := 1) (v := k)
      have w2 := fun h => num_With_eq (h := h) (l := withB (zeros 256) 0 1 k) (withB_length zeros_length) (a := 2) (w := 2) (v := l)
      have w3 := fun h => num_With_eq (h := h) (l := withB (withB (zeros 256) 0 1 k) 2 2 l) (withB_length (withB_length zeros_length)) (a := 4) (w := 4) (v := s)
      have w4 := fun h => num_With_eq (h := h) (l := withB (withB (withB (zeros 256) 0 1 k) 2 2 l) 4 4 s) (withB_length (withB_length (withB_length zeros_length))) (a := 8) (w := 2) (v := p)
      have l1 : (encB (withB (zeros 256) 0 1 k)).length = 256 := by rw [encB_length, withB_length zeros_length]
      have l2 : (encB (withB (withB (zeros 256) 0 1 k) 2 2 l)).length = 256 := by rw [encB_length, withB_length (withB_length zeros_length)]
      have l3 : (encB (withB (withB (withB (zeros 256) 0 1 k) 2 2 l) 4 4 s)).length = 256 := by rw [encB_length, withB_length (withB_length (withB_length zeros_length))]
      have l4 : (encB (padB 256 (inoH k l s p))).length = 256 := by rw [encB_length, padB_length (by rw [inoH_length]; omega)]
      simp only [inoH_with] at w4
      generalize zeros 32 = z at *
      generalize zeros 256 = y at *
      exact ⟨_, by simp only [afAddr_p, List.append_nil, if_true, if_false, bnd_some, mp_some, cnd_t, cnd_f, gd_no, gd_tt, gd_tf, gd_ft, gd_ff, alenS_s, alen_sl, alen_ns, abin_add, abin_sub, abin_mul, abin_eql, abin_neq, abin_lss, abin_leq, abin_gtr, abin_geq, abin_seql, abin_sneq, abin_slss, aun_not, aun_neg, aeqB_t, aeqB_f, aconv_i, apick_b, cond_true, cond_false, decide_true, decide_false, Bool.not_true, Bool.not_false, aext_t, ofPart_c, ofPart_a, part?_c, part?_a, cells?_c, cells?_a, tupN_2, tupN_3, Option.map_some, Option.some.injEq, List.getElem?_cons_zero, List.getElem?_cons_succ, not_true_eq_false, not_false_eq_true, quiet_same, bytesI_length, Option.join_some, List.append_assoc, List.cons_append, List.nil_append, List.length_append, List.length_cons, List.length_nil, Nat.zero_add, Nat.add_zero, rd_at, rd_at0, set_at, set_at0, List.set_cons_zero, List.set_cons_succ, ne_eq, decide_not, quiet_ext, newOk_some, List.cons_prefix_cons, List.nil_prefix, List.drop_succ_cons, List.drop_zero, List.all_cons, List.all_nil, Bool.and_true, true_and, and_true, aloadN_at, aloadN_at0, aload1_at, aload1_at0, astoreN_at, astoreN_at0, astore1_at, astore1_at0, aslA_at, aslA_at0, ldN_all, ld1_row, stN_all, st1_row, slr_all, Nat.reduceAdd, Nat.reduceMul, Nat.reduceLT, hlen, inode_Check_eq hd, c, hz, hz2, w1, w2, w3, w4, l1, l2, l3, l4, inode_Numbers_eq hd]; exact this⟩
  obtain ⟨g', e⟩ := key (h.length + 34) (by omega) (ro h)
  exact S_inode_Put_flat e (by simp)

/-! ### The inode of bytes -/

def getK (b : List UInt8) : Int := fieldN b 0 1
def getL (b : List UInt8) : Int := fieldN b 2 2
def getS (b : List UInt8) : Int := fieldN b 4 4
def getP (b : List UInt8) : Int := fieldN b 8 2
def getD7 (b : List UInt8) : List Int := (List.range 7).map fun j => fieldN b (10 + 2 * j) 2
theorem getD7_length {b : List UInt8} : (getD7 b).length = 7 := by simp [getD7]
theorem getD7_get {b : List UInt8} {i : Nat} (hi : i < 7) : (getD7 b)[i]? = some (fieldN b (10 + 2 * i) 2) := by simp [getD7, hi]

theorem inoC_set {k l s p x : Int} {d : List Int} {i : Nat} : (inoC k l s p d).set (4 + i) (.i .i64 x) = inoC k l s p (d.set i x) := by
  rw [show 4 + i = i + 1 + 1 + 1 + 1 by omega]
  simp only [inoC, List.set_cons_succ, encI_set]

theorem take_pad_set {D : List Int} (hD : D.length = 7) {i : Nat} (hi : i < 7) : (D.take i ++ zI (7 - i)).set i D[i] = D.take (i + 1) ++ zI (7 - (i + 1)) := by
  have h6 : (D.take i).length = i := by simp; omega
  rw [List.set_append_right _ _ (by omega), h6, Nat.sub_self, List.take_succ_eq_append_getElem (by omega), List.append_assoc]
  refine congrArg (D.take i ++ ·) ?_
  rw [show 7 - i = 7 - (i + 1) + 1 by omega]
  unfold zI
  rw [List.replicate_succ, List.set_cons_zero]; rfl

theorem iget_loop {g : Heap} {b : List UInt8} {k l s p : Int} {c0 z : List Cell} {q : Nat} (hb : b.length = 32) (hz : z.length = 11) : ∀ e i m : Nat, i + e = 6 → e < m →
    inode_Get_l0 q m (.c (.p (g.length + 1) 0)) (.c (.p (g.length + 2) 0)) (.c (.p (g.length + 3) 0)) (.c (.i .i64 i)) (g ++ [some ⟨c0, true⟩, some ⟨z, true⟩, some ⟨encB (padB 256 b), true⟩, some ⟨inoC k l s p ((getD7 b).take i ++ zI (7 - i)), true⟩]) =
      some (.a (inoC k l s p (getD7 b)), g ++ [some ⟨c0, true⟩, some ⟨inoC k l s p (getD7 b), true⟩, some ⟨encB (padB 256 b), true⟩, some ⟨inoC k l s p (getD7 b), true⟩])
  | e, i, 0, _, hm => by omega
  | 0, i, m + 1, hi, hm => by
    have e0 : i = 6 := by omega
    subst e0
    have h1' : ¬ ((6 : Nat) : Int) < 6 := by omega
    have hX : (encB (padB 256 b)).length = 256 := by rw [encB_length, padB_length (by omega)]
    have ha := fun h => num_At_eq (h := h) (l := padB 256 b) (padB_length (by omega)) (a := 22) (w := 2)
    have e1 := at_pad (b := b) (a := 22) (w := 2) (by omega) (by omega) (by omega) (by omega)
    simp only [Int.cast_ofNat_Int] at e1
    simp only [e1] at ha
    have hl0 : (inoC k l s p ((getD7 b).take 6 ++ zI (7 - 6))).length = 11 := by simp [encI_length, getD7_length, zI_length]
    have ho : (encI ((getD7 b).take 6 ++ zI (7 - 6))).length = 7 := by simp [encI_length, getD7_length, zI_length]
    have hg6 : (getD7 b)[6]'(by rw [getD7_length]; omega) = fieldN b 22 2 := by
      have := getD7_get (b := b) (i := 6) (by omega)
      rw [List.getElem?_eq_getElem (by rw [getD7_length]; omega)] at this
      exact Option.some.inj this
    have es : (inoC k l s p ((getD7 b).take 6 ++ zI (7 - 6))).set 10 (.i .i64 (fieldN b 22 2)) = inoC k l s p (getD7 b) := by
      have h1 := inoC_set (k := k) (l := l) (s := s) (p := p) (x := fieldN b 22 2) (d := (getD7 b).take 6 ++ zI (7 - 6)) (i := 6)
      rw [show 4 + 6 = 10 from rfl] at h1
      rw [h1, ← hg6, take_pad_set getD7_length (by omega)]
      have : (getD7 b).take (6 + 1) ++ zI (7 - (6 + 1)) = getD7 b := by rw [List.take_of_length_le (by rw [getD7_length]; omega)]; simp [zI]
      rw [this]
    have hl1 : (inoC k l s p (getD7 b)).length = 11 := by simp [encI_length, getD7_length]
    rw [inode_Get_l0_eq]
    simp only [afAddr_p, List.append_nil, if_true, if_false, bnd_some, mp_some, cnd_t, cnd_f, gd_no, gd_tt, gd_tf, gd_ft, gd_ff, alenS_s, alen_sl, alen_ns, abin_add, abin_sub, abin_mul, abin_eql, abin_neq, abin_lss, abin_leq, abin_gtr, abin_geq, abin_seql, abin_sneq, abin_slss, aun_not, aun_neg, aeqB_t, aeqB_f, aconv_i, apick_b, cond_true, cond_false, decide_true, decide_false, Bool.not_true, Bool.not_false, aext_t, ofPart_c, ofPart_a, part?_c, part?_a, cells?_c, cells?_a, tupN_2, tupN_3, Option.map_some, Option.some.injEq, List.getElem?_cons_zero, List.getElem?_cons_succ, not_true_eq_false, not_false_eq_true, quiet_same, bytesI_length, Option.join_some, List.append_assoc, List.cons_append, List.nil_append, List.length_append, List.length_cons, List.length_nil, Nat.zero_add, Nat.add_zero, rd_at, rd_at0, set_at, set_at0, List.set_cons_zero, List.set_cons_succ, ne_eq, decide_not, quiet_ext, newOk_some, List.cons_prefix_cons, List.nil_prefix, List.drop_succ_cons, List.drop_zero, List.all_cons, List.all_nil, Bool.and_true, true_and, and_true, aloadN_at, aloadN_at0, aload1_at, aload1_at0, astoreN_at, astoreN_at0, astore1_at, astore1_at0, aslA_at, aslA_at0, ldN_all, ld1_row, stN_all, st1_row, slr_all, Nat.reduceAdd, Nat.reduceMul, Nat.reduceLT, h1', hX, ha, ho, es, hl1, hz, encI_length, getD7_length]
  | e + 1, i, m + 1, hi, hm => by
    have ih := iget_loop (g := g) (k := k) (l := l) (s := s) (p := p) (c0 := c0) (q := q) hb hz e (i + 1) m (by omega) (by omega)
    have h1' : (i : Int) < 6 := by omega
    have hX : (encB (padB 256 b)).length = 256 := by rw [encB_length, padB_length (by omega)]
    have e2 : IntKind.wrap .i64 (2 * (i : Int)) = ((2 * i : Nat) : Int) := by rw [wrap_i64 (by omega) (by omega)]; omega
    have e3 : IntKind.wrap .i64 (10 + ((2 * i : Nat) : Int)) = ((10 + 2 * i : Nat) : Int) := by rw [wrap_i64 (by omega) (by omega)]; omega
    have ha := fun h => num_At_eq (h := h) (l := padB 256 b) (padB_length (by omega)) (a := ((10 + 2 * i : Nat) : Int)) (w := 2)
    have e1 := at_pad (b := b) (a := 10 + 2 * i) (w := 2) (by omega) (by omega) (by omega) (by omega)
    rw [show ((2 : Nat) : Int) = 2 from rfl] at e1
    simp only [e1] at ha
    have a1 : aiAddrA 6 1 (.c (.p (g.length + 3) 4)) (.c (.i .i64 (i : Int))) = some (.c (.p (g.length + 3) (4 + i))) := by rw [iAddrA_of (by omega)]; simp
    have ho : (encI ((getD7 b).take i ++ zI (7 - i))).length = 7 := by simp [encI_length, getD7_length, zI_length]; omega
    have ho2 : 4 + i < 11 := by omega
    have hgi : (getD7 b)[i]'(by rw [getD7_length]; omega) = fieldN b (10 + 2 * i) 2 := by
      have := getD7_get (b := b) (i := i) (by omega)
      rw [List.getElem?_eq_getElem (by rw [getD7_length]; omega)] at this
      exact Option.some.inj this
    have es : (inoC k l s p ((getD7 b).take i ++ zI (7 - i))).set (4 + i) (.i .i64 (fieldN b (10 + 2 * i) 2)) = inoC k l s p ((getD7 b).take (i + 1) ++ zI (7 - (i + 1))) := by
      rw [inoC_set, ← hgi, take_pad_set getD7_length (by omega)]
    rw [inode_Get_l0_eq]
    simp only [afAddr_p, List.append_nil, if_true, if_false, bnd_some, mp_some, cnd_t, cnd_f, gd_no, gd_tt, gd_tf, gd_ft, gd_ff, alenS_s, alen_sl, alen_ns, abin_add, abin_sub, abin_mul, abin_eql, abin_neq, abin_lss, abin_leq, abin_gtr, abin_geq, abin_seql, abin_sneq, abin_slss, aun_not, aun_neg, aeqB_t, aeqB_f, aconv_i, apick_b, cond_true, cond_false, decide_true, decide_false, Bool.not_true, Bool.not_false, aext_t, ofPart_c, ofPart_a, part?_c, part?_a, cells?_c, cells?_a, tupN_2, tupN_3, Option.map_some, Option.some.injEq, List.getElem?_cons_zero, List.getElem?_cons_succ, not_true_eq_false, not_false_eq_true, quiet_same, bytesI_length, Option.join_some, List.append_assoc, List.cons_append, List.nil_append, List.length_append, List.length_cons, List.length_nil, Nat.zero_add, Nat.add_zero, rd_at, rd_at0, set_at, set_at0, List.set_cons_zero, List.set_cons_succ, ne_eq, decide_not, quiet_ext, newOk_some, List.cons_prefix_cons, List.nil_prefix, List.drop_succ_cons, List.drop_zero, List.all_cons, List.all_nil, Bool.and_true, true_and, and_true, aloadN_at, aloadN_at0, aload1_at, aload1_at0, astoreN_at, astoreN_at0, astore1_at, astore1_at0, aslA_at, aslA_at0, ldN_all, ld1_row, stN_all, st1_row, slr_all, Nat.reduceAdd, Nat.reduceMul, Nat.reduceLT, h1', hX, e2, e3, ha, a1, ho, ho2, es, wi_succ (show i + 1 < 9223372036854775808 by omega)]
    exact ih

theorem inode_Get_eq {b : List UInt8} {h : Heap} (hb : b.length = 32) : S_inode_Get [.a (encB b)] h = some (.a (inoC (getK b) (getL b) (getS b) (getP b) (getD7 b)), h) := by
  have key : ∀ N, 7 < N → ∀ g, ∃ g', R_inode_Get N [.a (encB b)] g = some (.a (inoC (getK b) (getL b) (getS b) (getP b) (getD7 b)), g') := by
    intro N hN g
    have hl : (encB b).length = 32 := by rw [encB_length, hb]
    have hX : (encB (padB 256 b)).length = 256 := by rw [encB_length, padB_length (by omega)]
    have hz : (List.replicate 256 (Cell.i .u8 0)).length = 256 := List.length_replicate
    have z11 : [Cell.i .i64 0, .i .i64 0, .i .i64 0, .i .i64 0, .i .i64 0, .i .i64 0, .i .i64 0, .i .i64 0, .i .i64 0, .i .i64 0, .i .i64 0] = inoC 0 0 0 0 (zI 7) := rfl
    have l11 : (inoC 0 0 0 0 (zI 7)).length = 11 := rfl
    have ho := num_Of_eq (h := g ++ [some ⟨encB b, true⟩, some ⟨inoC 0 0 0 0 (zI 7), true⟩]) (v := .c (.sl g.length 0 32 1)) (nv := 32) (data := b) (Has.tr (by simp) (by omega) (noX_encB _)) (by omega)
    rw [of_pad (by omega)] at ho
    have at_ : ∀ (a w : Nat), a + w ≤ 32 → 1 ≤ w → w ≤ 4 → ∀ h, S_num_At [.a (encB (padB 256 b)), .c (.i .i64 a), .c (.i .i64 w)] h = some (.c (.i .i64 (fieldN b a w)), h) := fun a w h1 h2 h3 h => by
      rw [num_At_eq (padB_length (by omega)), at_pad (by omega) (by omega) h2 h3]
    have a1 := at_ 0 1 (by omega) (by omega) (by omega)
    have a2 := at_ 2 2 (by omega) (by omega) (by omega)
    have a3 := at_ 4 4 (by omega) (by omega) (by omega)
    have a4 := at_ 8 2 (by omega) (by omega) (by omega)
    simp only [Int.cast_ofNat_Int] at a1 a2 a3 a4
    have ef : afill (inoC 0 0 0 0 (zI 7)) [(0, 1, .c (.i .i64 (fieldN b 0 1))), (1, 1, .c (.i .i64 (fieldN b 2 2))), (2, 1, .c (.i .i64 (fieldN b 4 4))), (3, 1, .c (.i .i64 (fieldN b 8 2)))] = some (inoC (getK b) (getL b) (getS b) (getP b) (zI 7)) := rfl
    have lf : (inoC (getK b) (getL b) (getS b) (getP b) (zI 7)).length = 11 := rfl
    have := iget_loop (g := g) (b := b) (k := getK b) (l := getL b) (s := getS b) (p := getP b) (c0 := encB b) (z := inoC 0 0 0 0 (zI 7)) (q := N) hb l11 6 0 N (by omega) (by omega)
    simp only [List.take_zero, List.nil_append, Nat.sub_zero] at this
    rw [R_inode_Get_eq, z11]
    generalize List.replicate 256 (Cell.i .u8 0) = z at *
    generalize inoC 0 0 0 0 (zI 7) = y at *
    exact ⟨_, by simp only [afAddr_p, List.append_nil, if_true, if_false, bnd_some, mp_some, cnd_t, cnd_f, gd_no, gd_tt, gd_tf, gd_ft, gd_ff, alenS_s, alen_sl, alen_ns, abin_add, abin_sub, abin_mul, abin_eql, abin_neq, abin_lss, abin_leq, abin_gtr, abin_geq, abin_seql, abin_sneq, abin_slss, aun_not, aun_neg, aeqB_t, aeqB_f, aconv_i, apick_b, cond_true, cond_false, decide_true, decide_false, Bool.not_true, Bool.not_false, aext_t, ofPart_c, ofPart_a, part?_c, part?_a, cells?_c, cells?_a, tupN_2, tupN_3, Option.map_some, Option.some.injEq, List.getElem?_cons_zero, List.getElem?_cons_succ, not_true_eq_false, not_false_eq_true, quiet_same, bytesI_length, Option.join_some, List.append_assoc, List.cons_append, List.nil_append, List.length_append, List.length_cons, List.length_nil, Nat.zero_add, Nat.add_zero, rd_at, rd_at0, set_at, set_at0, List.set_cons_zero, List.set_cons_succ, ne_eq, decide_not, quiet_ext, newOk_some, List.cons_prefix_cons, List.nil_prefix, List.drop_succ_cons, List.drop_zero, List.all_cons, List.all_nil, Bool.and_true, true_and, and_true, aloadN_at, aloadN_at0, aload1_at, aload1_at0, astoreN_at, astoreN_at0, astore1_at, astore1_at0, aslA_at, aslA_at0, ldN_all, ld1_row, stN_all, st1_row, slr_all, Nat.reduceAdd, Nat.reduceMul, Nat.reduceLT, hl, ho, hz, hX, a1, a2, a3, a4, ef, l11, lf]; exact this⟩
  obtain ⟨g', e⟩ := key (h.length + 8) (by omega) (ro h)
  exact S_inode_Get_flat e (by simp)

/-- Are bytes those of an inode that may be? -/
def cleanI (b : List UInt8) : Bool := mayI (getK b) (getL b) (getS b) (getP b) (getD7 b) && decide (inoB (getK b) (getL b) (getS b) (getP b) (getD7 b) = b)

/-- The inode of bytes, if they are clean. -/
def cleanC (b : List UInt8) : List Cell := bif cleanI b then inoC (getK b) (getL b) (getS b) (getP b) (getD7 b) else inoC 0 0 0 0 (zI 7)

theorem cleanC_length {b : List UInt8} : (cleanC b).length = 11 := by
  unfold cleanC
  cases cleanI b <;> simp [encI_length, getD7_length, zI_length]
theorem flats_cleanC {b : List UInt8} : flats (cleanC b) = true := by
  unfold cleanC
  cases cleanI b <;> simp

theorem inode_Clean_eq {b : List UInt8} {h : Heap} (hb : b.length = 32) : S_inode_Clean [.a (encB b)] h = some (.t [.a (cleanC b), .c (.b (cleanI b))], h) := by
  have key : ∀ g, ∃ g', R_inode_Clean 0 [.a (encB b)] g = some (.t [.a (cleanC b), .c (.b (cleanI b))], g') := by
    intro g
    have hl : (encB b).length = 32 := by rw [encB_length, hb]
    have hI : (inoC (getK b) (getL b) (getS b) (getP b) (getD7 b)).length = 11 := by simp [encI_length, getD7_length]
    have z11 : [Cell.i .i64 0, .i .i64 0, .i .i64 0, .i .i64 0, .i .i64 0, .i .i64 0, .i .i64 0, .i .i64 0, .i .i64 0, .i .i64 0, .i .i64 0] = inoC 0 0 0 0 (zI 7) := rfl
    have l11 : (inoC 0 0 0 0 (zI 7)).length = 11 := rfl
    have af := afill_ino
    rw [z11] at af
    have hz : (List.replicate 32 (Cell.i .u8 0)).length = 32 := List.length_replicate
    have hp := fun h => inode_Put_eq (h := h) (k := getK b) (l := getL b) (s := getS b) (p := getP b) (d := getD7 b) getD7_length
    have hB : (encB (inoB (getK b) (getL b) (getS b) (getP b) (getD7 b))).length = 32 := by rw [encB_length, inoB_length getD7_length]
    have hZ : (encB (zeros 32)).length = 32 := by rw [encB_length]; exact zeros_length
    have hq := aeq_t (l := inoB (getK b) (getL b) (getS b) (getP b) (getD7 b)) (m := b) (n := 32) (inoB_length getD7_length) hb
    rw [R_inode_Clean_eq, z11]
    unfold cleanC cleanI
    generalize List.replicate 32 (Cell.i .u8 0) = z at *
    generalize inoC 0 0 0 0 (zI 7) = y at *
    cases c : mayI (getK b) (getL b) (getS b) (getP b) (getD7 b) with
    | false =>
      simp only [c, cond_false] at hp
      exact ⟨_, by simp only [afAddr_p, List.append_nil, if_true, if_false, bnd_some, mp_some, cnd_t, cnd_f, gd_no, gd_tt, gd_tf, gd_ft, gd_ff, alenS_s, alen_sl, alen_ns, abin_add, abin_sub, abin_mul, abin_eql, abin_neq, abin_lss, abin_leq, abin_gtr, abin_geq, abin_seql, abin_sneq, abin_slss, aun_not, aun_neg, aeqB_t, aeqB_f, aconv_i, apick_b, cond_true, cond_false, decide_true, decide_false, Bool.not_true, Bool.not_false, aext_t, ofPart_c, ofPart_a, part?_c, part?_a, cells?_c, cells?_a, tupN_2, tupN_3, Option.map_some, Option.some.injEq, List.getElem?_cons_zero, List.getElem?_cons_succ, not_true_eq_false, not_false_eq_true, quiet_same, bytesI_length, Option.join_some, List.append_assoc, List.cons_append, List.nil_append, List.length_append, List.length_cons, List.length_nil, Nat.zero_add, Nat.add_zero, rd_at, rd_at0, set_at, set_at0, List.set_cons_zero, List.set_cons_succ, ne_eq, decide_not, quiet_ext, newOk_some, List.cons_prefix_cons, List.nil_prefix, List.drop_succ_cons, List.drop_zero, List.all_cons, List.all_nil, Bool.and_true, true_and, and_true, aloadN_at, aloadN_at0, aload1_at, aload1_at0, astoreN_at, astoreN_at0, astore1_at, astore1_at0, aslA_at, aslA_at0, ldN_all, ld1_row, stN_all, st1_row, slr_all, Nat.reduceAdd, Nat.reduceMul, Nat.reduceLT, hl, inode_Get_eq hb, hI, l11, hp, hz, hZ, Int.reduceEq, af, Bool.false_and] <;> rfl⟩
    | true =>
      simp only [c, cond_true] at hp
      cases c2 : decide (inoB (getK b) (getL b) (getS b) (getP b) (getD7 b) = b) with
      | false =>
        rw [c2] at hq
        exact ⟨_, by simp only [afAddr_p, List.append_nil, if_true, if_false, bnd_some, mp_some, cnd_t, cnd_f, gd_no, gd_tt, gd_tf, gd_ft, gd_ff, alenS_s, alen_sl, alen_ns, abin_add, abin_sub, abin_mul, abin_eql, abin_neq, abin_lss, abin_leq, abin_gtr, abin_geq, abin_seql, abin_sneq, abin_slss, aun_not, aun_neg, aeqB_t, aeqB_f, aconv_i, apick_b, cond_true, cond_false, decide_true, decide_false, Bool.not_true, Bool.not_false, aext_t, ofPart_c, ofPart_a, part?_c, part?_a, cells?_c, cells?_a, tupN_2, tupN_3, Option.map_some, Option.some.injEq, List.getElem?_cons_zero, List.getElem?_cons_succ, not_true_eq_false, not_false_eq_true, quiet_same, bytesI_length, Option.join_some, List.append_assoc, List.cons_append, List.nil_append, List.length_append, List.length_cons, List.length_nil, Nat.zero_add, Nat.add_zero, rd_at, rd_at0, set_at, set_at0, List.set_cons_zero, List.set_cons_succ, ne_eq, decide_not, quiet_ext, newOk_some, List.cons_prefix_cons, List.nil_prefix, List.drop_succ_cons, List.drop_zero, List.all_cons, List.all_nil, Bool.and_true, true_and, and_true, aloadN_at, aloadN_at0, aload1_at, aload1_at0, astoreN_at, astoreN_at0, astore1_at, astore1_at0, aslA_at, aslA_at0, ldN_all, ld1_row, stN_all, st1_row, slr_all, Nat.reduceAdd, Nat.reduceMul, Nat.reduceLT, hl, inode_Get_eq hb, hI, l11, hp, hz, hB, hq, af, Bool.and_false] <;> rfl⟩
      | true =>
        rw [c2] at hq
        exact ⟨_, by simp only [afAddr_p, List.append_nil, if_true, if_false, bnd_some, mp_some, cnd_t, cnd_f, gd_no, gd_tt, gd_tf, gd_ft, gd_ff, alenS_s, alen_sl, alen_ns, abin_add, abin_sub, abin_mul, abin_eql, abin_neq, abin_lss, abin_leq, abin_gtr, abin_geq, abin_seql, abin_sneq, abin_slss, aun_not, aun_neg, aeqB_t, aeqB_f, aconv_i, apick_b, cond_true, cond_false, decide_true, decide_false, Bool.not_true, Bool.not_false, aext_t, ofPart_c, ofPart_a, part?_c, part?_a, cells?_c, cells?_a, tupN_2, tupN_3, Option.map_some, Option.some.injEq, List.getElem?_cons_zero, List.getElem?_cons_succ, not_true_eq_false, not_false_eq_true, quiet_same, bytesI_length, Option.join_some, List.append_assoc, List.cons_append, List.nil_append, List.length_append, List.length_cons, List.length_nil, Nat.zero_add, Nat.add_zero, rd_at, rd_at0, set_at, set_at0, List.set_cons_zero, List.set_cons_succ, ne_eq, decide_not, quiet_ext, newOk_some, List.cons_prefix_cons, List.nil_prefix, List.drop_succ_cons, List.drop_zero, List.all_cons, List.all_nil, Bool.and_true, true_and, and_true, aloadN_at, aloadN_at0, aload1_at, aload1_at0, astoreN_at, astoreN_at0, astore1_at, astore1_at0, aslA_at, aslA_at0, ldN_all, ld1_row, stN_all, st1_row, slr_all, Nat.reduceAdd, Nat.reduceMul, Nat.reduceLT, hl, inode_Get_eq hb, hI, l11, hp, hz, hB, hq, Bool.and_true] <;> rfl⟩
  obtain ⟨g', e⟩ := key (ro h)
  exact S_inode_Clean_flat e (by simp [flats_cleanC])

end Go.Proofs.Ytbbkpmbepljhkaa
