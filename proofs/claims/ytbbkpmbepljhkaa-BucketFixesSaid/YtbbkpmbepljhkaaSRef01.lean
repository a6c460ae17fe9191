/- What the document's answer of the numbers computes. -/
import Derived.Test.YtbbkpmbepljhkaaSNum
import Derived.Test.YtbbkpmbepljhkaaGEscheatref01
set_option linter.all false
namespace Go.Proofs.Ytbbkpmbepljhkaa
open Go Go.Esc

theorem ref01_Same_loop {v u : Val} {nv nu : Nat} {l r : List UInt8} {h : Heap} (hv : Has h v 1 nv (encB l)) (hu : Has h u 1 nu (encB r)) (hlr : l.length = r.length) (hl : l.length < 9223372036854775807) {k : Nat} : ∀ d i m, i + d = l.length → d < m →
    escheatref01_Same_l0 k m v u (.c (.i .i64 i)) h = some (.c (.b (decide (l.drop i = r.drop i))), h)
  | d, i, 0, _, hm => by omega
  | 0, i, m + 1, hi, hm => by
    have hnv : l.length = nv := by simpa [encB_length] using hv.length
    have e1 : l.drop i = [] := List.drop_of_length_le (by omega)
    have e2 : r.drop i = [] := List.drop_of_length_le (by omega)
    have h1' : ¬ (i : Int) < l.length := by omega
    rw [escheatref01_Same_l0_eq]
    simp only [afAddr_p, List.append_nil, if_true, if_false, bnd_some, mp_some, cnd_t, cnd_f, gd_no, gd_tt, gd_tf, gd_ft, gd_ff, alenS_s, alen_sl, alen_ns, abin_add, abin_sub, abin_mul, abin_eql, abin_neq, abin_lss, abin_leq, abin_gtr, abin_geq, abin_seql, abin_sneq, abin_slss, aun_not, aun_neg, agn_some, aeqN_nf, aeqN_f, aeqN_np, aeqN_p, anilc_p, aeqB_t, aeqB_f, aconv_i, apick_b, cond_true, cond_false, decide_true, decide_false, Bool.not_true, Bool.not_false, aext_t, ofPart_c, ofPart_a, part?_c, part?_a, cells?_c, cells?_a, tupN_2, tupN_3, Option.map_some, Option.some.injEq, List.getElem?_cons_zero, List.getElem?_cons_succ, not_true_eq_false, not_false_eq_true, quiet_same, bytesI_length, Option.join_some, List.append_assoc, List.cons_append, List.nil_append, List.length_append, List.length_cons, List.length_nil, Nat.zero_add, Nat.add_zero, rd_at, rd_at0, set_at, set_at0, List.set_cons_zero, List.set_cons_succ, ne_eq, decide_not, quiet_ext, newOk_some, List.cons_prefix_cons, List.nil_prefix, List.drop_succ_cons, List.drop_zero, List.all_cons, List.all_nil, Bool.and_true, true_and, and_true, hv.len, ← hnv, h1', e1, e2]
  | d + 1, i, m + 1, hi, hm => by
    have ih := ref01_Same_loop hv hu hlr hl (k := k) d (i + 1) m (by omega) (by omega)
    have hnv : l.length = nv := by simpa [encB_length] using hv.length
    have hnu : r.length = nu := by simpa [encB_length] using hu.length
    have hlen := hv.len
    obtain ⟨id, off, rfl, hid, h1, h2⟩ := hv.sl (by omega)
    obtain ⟨id', off', rfl, hid', h1', h2'⟩ := hu.sl (by omega)
    have hx := h1 i (.i .u8 l[i].toNat) (by rw [encB_get, List.getElem?_eq_getElem (by omega)]; rfl)
    have hy := h1' i (.i .u8 r[i].toNat) (by rw [encB_get, List.getElem?_eq_getElem (by omega)]; rfl)
    have ea : aiAddrL 1 (.c (.sl id off nv 1)) (.c (.i .i64 (i : Int))) = some (.c (.p id (off + i))) := by rw [iAddrL_of (by omega)]; simp
    have eb : aiAddrL 1 (.c (.sl id' off' nu 1)) (.c (.i .i64 (i : Int))) = some (.c (.p id' (off' + i))) := by rw [iAddrL_of (by omega)]; simp
    have c1 : (i : Int) < nv := by omega
    rw [escheatref01_Same_l0_eq, List.drop_eq_getElem_cons (by omega : i < l.length), List.drop_eq_getElem_cons (by omega : i < r.length)]
    by_cases c : l[i] = r[i]
    · simp only [afAddr_p, List.append_nil, if_true, if_false, bnd_some, mp_some, cnd_t, cnd_f, gd_no, gd_tt, gd_tf, gd_ft, gd_ff, alenS_s, alen_sl, alen_ns, abin_add, abin_sub, abin_mul, abin_eql, abin_neq, abin_lss, abin_leq, abin_gtr, abin_geq, abin_seql, abin_sneq, abin_slss, aun_not, aun_neg, agn_some, aeqN_nf, aeqN_f, aeqN_np, aeqN_p, anilc_p, aeqB_t, aeqB_f, aconv_i, apick_b, cond_true, cond_false, decide_true, decide_false, Bool.not_true, Bool.not_false, aext_t, ofPart_c, ofPart_a, part?_c, part?_a, cells?_c, cells?_a, tupN_2, tupN_3, Option.map_some, Option.some.injEq, List.getElem?_cons_zero, List.getElem?_cons_succ, not_true_eq_false, not_false_eq_true, quiet_same, bytesI_length, Option.join_some, List.append_assoc, List.cons_append, List.nil_append, List.length_append, List.length_cons, List.length_nil, Nat.zero_add, Nat.add_zero, rd_at, rd_at0, set_at, set_at0, List.set_cons_zero, List.set_cons_succ, ne_eq, decide_not, quiet_ext, newOk_some, List.cons_prefix_cons, List.nil_prefix, List.drop_succ_cons, List.drop_zero, List.all_cons, List.all_nil, Bool.and_true, true_and, and_true, c1, ea, eb, hx, hy, c, wi_succ (show i + 1 < 9223372036854775808 by omega), List.cons.injEq, true_and]
      exact ih
    · have c' : ¬ (l[i].toNat : Int) = r[i].toNat := fun e => c (UInt8.toNat_inj.1 (by omega))
      simp only [afAddr_p, List.append_nil, if_true, if_false, bnd_some, mp_some, cnd_t, cnd_f, gd_no, gd_tt, gd_tf, gd_ft, gd_ff, alenS_s, alen_sl, alen_ns, abin_add, abin_sub, abin_mul, abin_eql, abin_neq, abin_lss, abin_leq, abin_gtr, abin_geq, abin_seql, abin_sneq, abin_slss, aun_not, aun_neg, agn_some, aeqN_nf, aeqN_f, aeqN_np, aeqN_p, anilc_p, aeqB_t, aeqB_f, aconv_i, apick_b, cond_true, cond_false, decide_true, decide_false, Bool.not_true, Bool.not_false, aext_t, ofPart_c, ofPart_a, part?_c, part?_a, cells?_c, cells?_a, tupN_2, tupN_3, Option.map_some, Option.some.injEq, List.getElem?_cons_zero, List.getElem?_cons_succ, not_true_eq_false, not_false_eq_true, quiet_same, bytesI_length, Option.join_some, List.append_assoc, List.cons_append, List.nil_append, List.length_append, List.length_cons, List.length_nil, Nat.zero_add, Nat.add_zero, rd_at, rd_at0, set_at, set_at0, List.set_cons_zero, List.set_cons_succ, ne_eq, decide_not, quiet_ext, newOk_some, List.cons_prefix_cons, List.nil_prefix, List.drop_succ_cons, List.drop_zero, List.all_cons, List.all_nil, Bool.and_true, true_and, and_true, c1, ea, eb, hx, hy, c', c, List.cons.injEq, false_and]

theorem ref01_Same_eq {v u : Val} {nv nu : Nat} {l r : List UInt8} {h : Heap} (hv : Has h v 1 nv (encB l)) (hu : Has h u 1 nu (encB r)) (hl : l.length < 9223372036854775807) :
    S_escheatref01_Same [v, u] h = some (.c (.b (decide (l = r))), h) := by
  refine S_escheatref01_Same_flat (n := l.length + 1) (h2 := ro h) ?_ (by simp)
  have hnv : l.length = nv := by simpa [encB_length] using hv.length
  have hnu : r.length = nu := by simpa [encB_length] using hu.length
  rw [R_escheatref01_Same_eq]
  by_cases c : l.length = r.length
  · have := ref01_Same_loop hv.ro hu.ro c hl (k := l.length + 1) l.length 0 (l.length + 1) (by omega) (by omega)
    simp only [List.drop_zero] at this
    have c' : (nv : Int) = nu := by omega
    simp only [afAddr_p, List.append_nil, if_true, if_false, bnd_some, mp_some, cnd_t, cnd_f, gd_no, gd_tt, gd_tf, gd_ft, gd_ff, alenS_s, alen_sl, alen_ns, abin_add, abin_sub, abin_mul, abin_eql, abin_neq, abin_lss, abin_leq, abin_gtr, abin_geq, abin_seql, abin_sneq, abin_slss, aun_not, aun_neg, agn_some, aeqN_nf, aeqN_f, aeqN_np, aeqN_p, anilc_p, aeqB_t, aeqB_f, aconv_i, apick_b, cond_true, cond_false, decide_true, decide_false, Bool.not_true, Bool.not_false, aext_t, ofPart_c, ofPart_a, part?_c, part?_a, cells?_c, cells?_a, tupN_2, tupN_3, Option.map_some, Option.some.injEq, List.getElem?_cons_zero, List.getElem?_cons_succ, not_true_eq_false, not_false_eq_true, quiet_same, bytesI_length, Option.join_some, List.append_assoc, List.cons_append, List.nil_append, List.length_append, List.length_cons, List.length_nil, Nat.zero_add, Nat.add_zero, rd_at, rd_at0, set_at, set_at0, List.set_cons_zero, List.set_cons_succ, ne_eq, decide_not, quiet_ext, newOk_some, List.cons_prefix_cons, List.nil_prefix, List.drop_succ_cons, List.drop_zero, List.all_cons, List.all_nil, Bool.and_true, true_and, and_true, hv.len, hu.len, c']
    exact this
  · have c' : ¬ (nv : Int) = nu := by omega
    have c2 : ¬ l = r := fun e => c (by rw [e])
    simp only [afAddr_p, List.append_nil, if_true, if_false, bnd_some, mp_some, cnd_t, cnd_f, gd_no, gd_tt, gd_tf, gd_ft, gd_ff, alenS_s, alen_sl, alen_ns, abin_add, abin_sub, abin_mul, abin_eql, abin_neq, abin_lss, abin_leq, abin_gtr, abin_geq, abin_seql, abin_sneq, abin_slss, aun_not, aun_neg, agn_some, aeqN_nf, aeqN_f, aeqN_np, aeqN_p, anilc_p, aeqB_t, aeqB_f, aconv_i, apick_b, cond_true, cond_false, decide_true, decide_false, Bool.not_true, Bool.not_false, aext_t, ofPart_c, ofPart_a, part?_c, part?_a, cells?_c, cells?_a, tupN_2, tupN_3, Option.map_some, Option.some.injEq, List.getElem?_cons_zero, List.getElem?_cons_succ, not_true_eq_false, not_false_eq_true, quiet_same, bytesI_length, Option.join_some, List.append_assoc, List.cons_append, List.nil_append, List.length_append, List.length_cons, List.length_nil, Nat.zero_add, Nat.add_zero, rd_at, rd_at0, set_at, set_at0, List.set_cons_zero, List.set_cons_succ, ne_eq, decide_not, quiet_ext, newOk_some, List.cons_prefix_cons, List.nil_prefix, List.drop_succ_cons, List.drop_zero, List.all_cons, List.all_nil, Bool.and_true, true_and, and_true, hv.len, hu.len, c', c2]

theorem ref01_Get_loop {v : Val} {nv : Nat} {l : List UInt8} {h : Heap} (hv : Has h v 1 nv (encB l)) {a w k : Nat} (hw : w ≤ 8) (haw : a + w ≤ l.length) (hl : l.length < 9223372036854775808) : ∀ j m, j ≤ w → j < m →
    escheatref01_Get_l0 k m v (.c (.i .i64 a)) (.c (.i .u64 (le ((l.drop (a + j)).take (w - j))))) (.c (.i .i64 ((j : Int) - 1))) h = some (.t [.c (.i .u64 (le ((l.drop a).take w))), .c (.b true)], h)
  | j, 0, _, hm => by omega
  | 0, m + 1, hj, hm => by
    rw [escheatref01_Get_l0_eq]
    have h1' : ¬ (0 : Int) ≤ ((0 : Nat) : Int) - 1 := by omega
    simp only [afAddr_p, List.append_nil, if_true, if_false, bnd_some, mp_some, cnd_t, cnd_f, gd_no, gd_tt, gd_tf, gd_ft, gd_ff, alenS_s, alen_sl, alen_ns, abin_add, abin_sub, abin_mul, abin_eql, abin_neq, abin_lss, abin_leq, abin_gtr, abin_geq, abin_seql, abin_sneq, abin_slss, aun_not, aun_neg, agn_some, aeqN_nf, aeqN_f, aeqN_np, aeqN_p, anilc_p, aeqB_t, aeqB_f, aconv_i, apick_b, cond_true, cond_false, decide_true, decide_false, Bool.not_true, Bool.not_false, aext_t, ofPart_c, ofPart_a, part?_c, part?_a, cells?_c, cells?_a, tupN_2, tupN_3, Option.map_some, Option.some.injEq, List.getElem?_cons_zero, List.getElem?_cons_succ, not_true_eq_false, not_false_eq_true, quiet_same, bytesI_length, Option.join_some, List.append_assoc, List.cons_append, List.nil_append, List.length_append, List.length_cons, List.length_nil, Nat.zero_add, Nat.add_zero, rd_at, rd_at0, set_at, set_at0, List.set_cons_zero, List.set_cons_succ, ne_eq, decide_not, quiet_ext, newOk_some, List.cons_prefix_cons, List.nil_prefix, List.drop_succ_cons, List.drop_zero, List.all_cons, List.all_nil, Bool.and_true, true_and, and_true, h1', Nat.sub_zero]
  | j + 1, m + 1, hj, hm => by
    have ih := ref01_Get_loop hv (k := k) hw haw hl j m (by omega) (by omega)
    have hnv : l.length = nv := by simpa [encB_length] using hv.length
    obtain ⟨id, off, rfl, hid, h1, h2⟩ := hv.sl (by omega)
    have hx := h1 (a + j) (.i .u8 l[a + j].toNat) (by rw [encB_get, List.getElem?_eq_getElem (by omega)]; rfl)
    have hb := l[a + j].toNat_lt
    have ea : aiAddrL 1 (.c (.sl id off nv 1)) (.c (.i .i64 ((a + j : Nat) : Int))) = some (.c (.p id (off + (a + j)))) := by rw [iAddrL_of (by omega)]; simp
    have e0 : ((j + 1 : Nat) : Int) - 1 = j := by omega
    have e5 : IntKind.wrap .u64 (l[a + j].toNat : Int) = l[a + j].toNat := wrap_u64 (by omega) (by omega)
    have e6 : IntKind.wrap .i64 ((j : Int) - 1) = (j : Int) - 1 := wrap_i64 (by omega) (by omega)
    have hlen : ((l.drop (a + (j + 1))).take (w - (j + 1))).length = w - (j + 1) := by simp; omega
    have hle := le_lt ((l.drop (a + (j + 1))).take (w - (j + 1)))
    rw [hlen] at hle
    have hp : 256 ^ (w - (j + 1)) ≤ 256 ^ 7 := pow256_le (by omega)
    have e7 : (l.drop (a + j)).take (w - j) = l[a + j] :: (l.drop (a + (j + 1))).take (w - (j + 1)) := by
      rw [List.drop_eq_getElem_cons (by omega), show w - j = (w - (j + 1)) + 1 by omega, List.take_succ_cons]
      rfl
    rw [e7] at ih
    have e8 : IntKind.wrap .u64 ((le ((l.drop (a + (j + 1))).take (w - (j + 1))) : Nat) * 256) = ((le ((l.drop (a + (j + 1))).take (w - (j + 1))) * 256 : Nat) : Int) := by
      rw [wrap_u64 (by omega) (by omega)]; omega
    have e9 : IntKind.wrap .u64 (((le ((l.drop (a + (j + 1))).take (w - (j + 1))) * 256 : Nat) : Int) + l[a + j].toNat) = ((le (l[a + j] :: (l.drop (a + (j + 1))).take (w - (j + 1))) : Nat) : Int) := by
      simp only [le]
      rw [wrap_u64 (by omega) (by omega)]; omega
    have h1' : (0 : Int) ≤ j := by omega
    rw [escheatref01_Get_l0_eq, e0]
    simp only [afAddr_p, List.append_nil, if_true, if_false, bnd_some, mp_some, cnd_t, cnd_f, gd_no, gd_tt, gd_tf, gd_ft, gd_ff, alenS_s, alen_sl, alen_ns, abin_add, abin_sub, abin_mul, abin_eql, abin_neq, abin_lss, abin_leq, abin_gtr, abin_geq, abin_seql, abin_sneq, abin_slss, aun_not, aun_neg, agn_some, aeqN_nf, aeqN_f, aeqN_np, aeqN_p, anilc_p, aeqB_t, aeqB_f, aconv_i, apick_b, cond_true, cond_false, decide_true, decide_false, Bool.not_true, Bool.not_false, aext_t, ofPart_c, ofPart_a, part?_c, part?_a, cells?_c, cells?_a, tupN_2, tupN_3, Option.map_some, Option.some.injEq, List.getElem?_cons_zero, List.getElem?_cons_succ, not_true_eq_false, not_false_eq_true, quiet_same, bytesI_length, Option.join_some, List.append_assoc, List.cons_append, List.nil_append, List.length_append, List.length_cons, List.length_nil, Nat.zero_add, Nat.add_zero, rd_at, rd_at0, set_at, set_at0, List.set_cons_zero, List.set_cons_succ, ne_eq, decide_not, quiet_ext, newOk_some, List.cons_prefix_cons, List.nil_prefix, List.drop_succ_cons, List.drop_zero, List.all_cons, List.all_nil, Bool.and_true, true_and, and_true, h1', wi_add (show a + j < 9223372036854775808 by omega), ea, hx, e5, e8, e9, e6]
    exact ih

theorem ref01_Get_eq {v : Val} {nv : Nat} {l : List UInt8} {h : Heap} (hv : Has h v 1 nv (encB l)) {a w : Int} (hl : l.length < 9223372036854775808) :
    S_escheatref01_Get [v, .c (.i .i64 a), .c (.i .i64 w)] h = some (.t [.c (.i .u64 ((getN l a w).getD 0 : Nat)), .c (.b (getN l a w).isSome)], h) := by
  refine S_escheatref01_Get_flat (n := w.toNat + 1) (h2 := ro h) ?_ (by simp)
  rw [R_escheatref01_Get_eq]
  have hv' := hv.ro
  have hnv : l.length = nv := by simpa [encB_length] using hv.length
  unfold getN
  by_cases c1 : w < 1
  · rw [if_neg (by rw [thereI_true]; omega)]
    simp only [afAddr_p, List.append_nil, if_true, if_false, bnd_some, mp_some, cnd_t, cnd_f, gd_no, gd_tt, gd_tf, gd_ft, gd_ff, alenS_s, alen_sl, alen_ns, abin_add, abin_sub, abin_mul, abin_eql, abin_neq, abin_lss, abin_leq, abin_gtr, abin_geq, abin_seql, abin_sneq, abin_slss, aun_not, aun_neg, agn_some, aeqN_nf, aeqN_f, aeqN_np, aeqN_p, anilc_p, aeqB_t, aeqB_f, aconv_i, apick_b, cond_true, cond_false, decide_true, decide_false, Bool.not_true, Bool.not_false, aext_t, ofPart_c, ofPart_a, part?_c, part?_a, cells?_c, cells?_a, tupN_2, tupN_3, Option.map_some, Option.some.injEq, List.getElem?_cons_zero, List.getElem?_cons_succ, not_true_eq_false, not_false_eq_true, quiet_same, bytesI_length, Option.join_some, List.append_assoc, List.cons_append, List.nil_append, List.length_append, List.length_cons, List.length_nil, Nat.zero_add, Nat.add_zero, rd_at, rd_at0, set_at, set_at0, List.set_cons_zero, List.set_cons_succ, ne_eq, decide_not, quiet_ext, newOk_some, List.cons_prefix_cons, List.nil_prefix, List.drop_succ_cons, List.drop_zero, List.all_cons, List.all_nil, Bool.and_true, true_and, and_true, c1, Option.getD_none, Option.isSome_none] <;> rfl
  · by_cases c2 : 8 < w
    · rw [if_neg (by omega)]
      simp only [afAddr_p, List.append_nil, if_true, if_false, bnd_some, mp_some, cnd_t, cnd_f, gd_no, gd_tt, gd_tf, gd_ft, gd_ff, alenS_s, alen_sl, alen_ns, abin_add, abin_sub, abin_mul, abin_eql, abin_neq, abin_lss, abin_leq, abin_gtr, abin_geq, abin_seql, abin_sneq, abin_slss, aun_not, aun_neg, agn_some, aeqN_nf, aeqN_f, aeqN_np, aeqN_p, anilc_p, aeqB_t, aeqB_f, aconv_i, apick_b, cond_true, cond_false, decide_true, decide_false, Bool.not_true, Bool.not_false, aext_t, ofPart_c, ofPart_a, part?_c, part?_a, cells?_c, cells?_a, tupN_2, tupN_3, Option.map_some, Option.some.injEq, List.getElem?_cons_zero, List.getElem?_cons_succ, not_true_eq_false, not_false_eq_true, quiet_same, bytesI_length, Option.join_some, List.append_assoc, List.cons_append, List.nil_append, List.length_append, List.length_cons, List.length_nil, Nat.zero_add, Nat.add_zero, rd_at, rd_at0, set_at, set_at0, List.set_cons_zero, List.set_cons_succ, ne_eq, decide_not, quiet_ext, newOk_some, List.cons_prefix_cons, List.nil_prefix, List.drop_succ_cons, List.drop_zero, List.all_cons, List.all_nil, Bool.and_true, true_and, and_true, c1, c2, Option.getD_none, Option.isSome_none] <;> rfl
    · by_cases c3 : a < 0
      · rw [if_neg (by rw [thereI_true]; omega)]
        simp only [afAddr_p, List.append_nil, if_true, if_false, bnd_some, mp_some, cnd_t, cnd_f, gd_no, gd_tt, gd_tf, gd_ft, gd_ff, alenS_s, alen_sl, alen_ns, abin_add, abin_sub, abin_mul, abin_eql, abin_neq, abin_lss, abin_leq, abin_gtr, abin_geq, abin_seql, abin_sneq, abin_slss, aun_not, aun_neg, agn_some, aeqN_nf, aeqN_f, aeqN_np, aeqN_p, anilc_p, aeqB_t, aeqB_f, aconv_i, apick_b, cond_true, cond_false, decide_true, decide_false, Bool.not_true, Bool.not_false, aext_t, ofPart_c, ofPart_a, part?_c, part?_a, cells?_c, cells?_a, tupN_2, tupN_3, Option.map_some, Option.some.injEq, List.getElem?_cons_zero, List.getElem?_cons_succ, not_true_eq_false, not_false_eq_true, quiet_same, bytesI_length, Option.join_some, List.append_assoc, List.cons_append, List.nil_append, List.length_append, List.length_cons, List.length_nil, Nat.zero_add, Nat.add_zero, rd_at, rd_at0, set_at, set_at0, List.set_cons_zero, List.set_cons_succ, ne_eq, decide_not, quiet_ext, newOk_some, List.cons_prefix_cons, List.nil_prefix, List.drop_succ_cons, List.drop_zero, List.all_cons, List.all_nil, Bool.and_true, true_and, and_true, c1, c2, c3, Option.getD_none, Option.isSome_none] <;> rfl
      · have e1 : IntKind.wrap .i64 ((nv : Int) - w) = nv - w := wrap_i64 (by omega) (by omega)
        by_cases c4 : (nv : Int) - w < a
        · rw [if_neg (by rw [thereI_true]; omega)]
          simp only [afAddr_p, List.append_nil, if_true, if_false, bnd_some, mp_some, cnd_t, cnd_f, gd_no, gd_tt, gd_tf, gd_ft, gd_ff, alenS_s, alen_sl, alen_ns, abin_add, abin_sub, abin_mul, abin_eql, abin_neq, abin_lss, abin_leq, abin_gtr, abin_geq, abin_seql, abin_sneq, abin_slss, aun_not, aun_neg, agn_some, aeqN_nf, aeqN_f, aeqN_np, aeqN_p, anilc_p, aeqB_t, aeqB_f, aconv_i, apick_b, cond_true, cond_false, decide_true, decide_false, Bool.not_true, Bool.not_false, aext_t, ofPart_c, ofPart_a, part?_c, part?_a, cells?_c, cells?_a, tupN_2, tupN_3, Option.map_some, Option.some.injEq, List.getElem?_cons_zero, List.getElem?_cons_succ, not_true_eq_false, not_false_eq_true, quiet_same, bytesI_length, Option.join_some, List.append_assoc, List.cons_append, List.nil_append, List.length_append, List.length_cons, List.length_nil, Nat.zero_add, Nat.add_zero, rd_at, rd_at0, set_at, set_at0, List.set_cons_zero, List.set_cons_succ, ne_eq, decide_not, quiet_ext, newOk_some, List.cons_prefix_cons, List.nil_prefix, List.drop_succ_cons, List.drop_zero, List.all_cons, List.all_nil, Bool.and_true, true_and, and_true, c1, c2, c3, c4, hv'.len, e1, Option.getD_none, Option.isSome_none] <;> rfl
        · rw [if_pos (by rw [thereI_true]; omega)]
          have := ref01_Get_loop hv' (a := a.toNat) (w := w.toNat) (k := w.toNat + 1) (by omega) (by omega) hl w.toNat (w.toNat + 1) (by omega) (by omega)
          simp only [show ((a.toNat : Nat) : Int) = a by omega, show ((w.toNat : Nat) : Int) = w by omega, Nat.sub_self, List.take_zero, le] at this
          have e2 : IntKind.wrap .i64 (w - 1) = w - 1 := wrap_i64 (by omega) (by omega)
          simp only [afAddr_p, List.append_nil, if_true, if_false, bnd_some, mp_some, cnd_t, cnd_f, gd_no, gd_tt, gd_tf, gd_ft, gd_ff, alenS_s, alen_sl, alen_ns, abin_add, abin_sub, abin_mul, abin_eql, abin_neq, abin_lss, abin_leq, abin_gtr, abin_geq, abin_seql, abin_sneq, abin_slss, aun_not, aun_neg, agn_some, aeqN_nf, aeqN_f, aeqN_np, aeqN_p, anilc_p, aeqB_t, aeqB_f, aconv_i, apick_b, cond_true, cond_false, decide_true, decide_false, Bool.not_true, Bool.not_false, aext_t, ofPart_c, ofPart_a, part?_c, part?_a, cells?_c, cells?_a, tupN_2, tupN_3, Option.map_some, Option.some.injEq, List.getElem?_cons_zero, List.getElem?_cons_succ, not_true_eq_false, not_false_eq_true, quiet_same, bytesI_length, Option.join_some, List.append_assoc, List.cons_append, List.nil_append, List.length_append, List.length_cons, List.length_nil, Nat.zero_add, Nat.add_zero, rd_at, rd_at0, set_at, set_at0, List.set_cons_zero, List.set_cons_succ, ne_eq, decide_not, quiet_ext, newOk_some, List.cons_prefix_cons, List.nil_prefix, List.drop_succ_cons, List.drop_zero, List.all_cons, List.all_nil, Bool.and_true, true_and, and_true, c1, c2, c3, c4, hv'.len, e1, e2, Option.getD_some, Option.isSome_some]
          exact this

theorem ref01_Bytes_loop {g : Heap} {w k : Nat} {v : Int} (hw : w ≤ 8) (hv : 0 ≤ v) (hv2 : v < 18446744073709551616) : ∀ d i m h id, i + d = w → d < m → Low g.length g h → g.length ≤ id → rd h id = some ⟨encB (bytesI i v), true⟩ →
    ∃ v' h', escheatref01_Bytes_l0 k m (.c (.i .i64 w)) (.c (.i .u64 (v / 256 ^ i))) (.c (.sl id 0 i 1)) (.c (.i .i64 i)) h = some (v', h') ∧ Out g.length h' v' 1 w (encB (bytesI w v))
  | d, i, 0, h, id, _, hm, _, _, _ => by omega
  | 0, i, m + 1, h, id, hi, hm, hlow, hb, hr => by
    have e : i = w := by omega
    subst e
    have h1' : ¬ (i : Int) < i := by omega
    rw [escheatref01_Bytes_l0_eq]
    exact ⟨_, _, by simp only [afAddr_p, List.append_nil, if_true, if_false, bnd_some, mp_some, cnd_t, cnd_f, gd_no, gd_tt, gd_tf, gd_ft, gd_ff, alenS_s, alen_sl, alen_ns, abin_add, abin_sub, abin_mul, abin_eql, abin_neq, abin_lss, abin_leq, abin_gtr, abin_geq, abin_seql, abin_sneq, abin_slss, aun_not, aun_neg, agn_some, aeqN_nf, aeqN_f, aeqN_np, aeqN_p, anilc_p, aeqB_t, aeqB_f, aconv_i, apick_b, cond_true, cond_false, decide_true, decide_false, Bool.not_true, Bool.not_false, aext_t, ofPart_c, ofPart_a, part?_c, part?_a, cells?_c, cells?_a, tupN_2, tupN_3, Option.map_some, Option.some.injEq, List.getElem?_cons_zero, List.getElem?_cons_succ, not_true_eq_false, not_false_eq_true, quiet_same, bytesI_length, Option.join_some, List.append_assoc, List.cons_append, List.nil_append, List.length_append, List.length_cons, List.length_nil, Nat.zero_add, Nat.add_zero, rd_at, rd_at0, set_at, set_at0, List.set_cons_zero, List.set_cons_succ, ne_eq, decide_not, quiet_ext, newOk_some, List.cons_prefix_cons, List.nil_prefix, List.drop_succ_cons, List.drop_zero, List.all_cons, List.all_nil, Bool.and_true, true_and, and_true, h1'] <;> rfl, by simp [encB_length], id, rfl, hb, hr⟩
  | d + 1, i, m + 1, h, id, hi, hm, hlow, hb, hr => by
    have hq : 0 ≤ v / 256 ^ i := Int.ediv_nonneg hv (Int.pow_nonneg (by omega))
    have e1 : abin .rem (.c (.i .u64 (v / 256 ^ i))) (.c (.i .u64 256)) = some (.c (.i .u64 (v / 256 ^ i % 256))) := by
      rw [abin_rem (by omega), Int.tmod_eq_emod_of_nonneg hq]
    have e2 : IntKind.wrap .u8 (v / 256 ^ i % 256) = ((byI v i).toNat : Int) := by rw [wrap_u8_mod, byI_int]; omega
    have hle : v / 256 ^ i ≤ v := Int.ediv_le_self _ hv
    have e3 : abin .quo (.c (.i .u64 (v / 256 ^ i))) (.c (.i .u64 256)) = some (.c (.i .u64 (v / 256 ^ (i + 1)))) := by
      have h0 : v / 256 ^ i / 256 = v / 256 ^ (i + 1) := by rw [Int.ediv_ediv_of_nonneg (Int.pow_nonneg (by omega)), Int.pow_succ]
      rw [abin_quo (by omega), Int.tdiv_eq_ediv_of_nonneg hq, h0]
      have h1 : 0 ≤ v / 256 ^ (i + 1) := Int.ediv_nonneg hv (Int.pow_nonneg (by omega))
      have h2 : v / 256 ^ (i + 1) ≤ v := Int.ediv_le_self _ hv
      exact congrArg some (congrArg Val.c (congrArg (Cell.i .u64) (wrap_u64 h1 (by omega))))
    obtain ⟨h', a1, a2, a3, a4, a5⟩ := push (ys := [.i .u8 (byI v i).toNat]) (sz := 1) (n := i) hlow hr (by simp [encB_length]) hb rfl (by omega) (by omega)
    have e4 : encB (bytesI i v) ++ [Cell.i .u8 (byI v i).toNat] = encB (bytesI (i + 1) v) := by rw [bytesI_succ, encB_append]; rfl
    rw [e4] at a2
    obtain ⟨v', h'', b1, b2⟩ := ref01_Bytes_loop (k := k) hw hv hv2 d (i + 1) m h' (h.length + 1) (by omega) (by omega) a3 a4 a2
    have h1' : (i : Int) < w := by omega
    have e5 : afill [Cell.i .u8 0] [(0, 1, .c (.i .u8 (byI v i).toNat))] = some [.i .u8 (byI v i).toNat] := rfl
    rw [escheatref01_Bytes_l0_eq]
    exact ⟨v', h'', by simp only [afAddr_p, List.append_nil, if_true, if_false, bnd_some, mp_some, cnd_t, cnd_f, gd_no, gd_tt, gd_tf, gd_ft, gd_ff, alenS_s, alen_sl, alen_ns, abin_add, abin_sub, abin_mul, abin_eql, abin_neq, abin_lss, abin_leq, abin_gtr, abin_geq, abin_seql, abin_sneq, abin_slss, aun_not, aun_neg, agn_some, aeqN_nf, aeqN_f, aeqN_np, aeqN_p, anilc_p, aeqB_t, aeqB_f, aconv_i, apick_b, cond_true, cond_false, decide_true, decide_false, Bool.not_true, Bool.not_false, aext_t, ofPart_c, ofPart_a, part?_c, part?_a, cells?_c, cells?_a, tupN_2, tupN_3, Option.map_some, Option.some.injEq, List.getElem?_cons_zero, List.getElem?_cons_succ, not_true_eq_false, not_false_eq_true, quiet_same, bytesI_length, Option.join_some, List.append_assoc, List.cons_append, List.nil_append, List.length_append, List.length_cons, List.length_nil, Nat.zero_add, Nat.add_zero, rd_at, rd_at0, set_at, set_at0, List.set_cons_zero, List.set_cons_succ, ne_eq, decide_not, quiet_ext, newOk_some, List.cons_prefix_cons, List.nil_prefix, List.drop_succ_cons, List.drop_zero, List.all_cons, List.all_nil, Bool.and_true, true_and, and_true, h1', e1, e2, e5, a1, e3, wi_succ (show i + 1 < 9223372036854775808 by omega)]; exact b1, b2⟩

theorem ref01_Bytes_eq {w : Nat} {v : Int} {h : Heap} (hw : w ≤ 8) (hv : 0 ≤ v) (hv2 : v < 18446744073709551616) :
    S_escheatref01_Bytes [.c (.i .i64 w), .c (.i .u64 v)] h = some (.c (.sl h.length 0 w 1), h ++ [some ⟨encB (bytesI w v), true⟩]) := by
  obtain ⟨v', h', e, ho⟩ := ref01_Bytes_loop (g := ro h) (k := w + 1) hw hv hv2 w 0 (w + 1) (ro h ++ [some ⟨[], true⟩, some ⟨[], true⟩]) ((ro h).length + 1) (by omega) (by omega) ((Low.refl (Nat.le_refl _)).new _) (by simp) (by simp [bytesI]; rfl)
  refine S_escheatref01_Bytes_out (n := w + 1) (v := v') (h2 := h') ?_ (by simpa [ro_length] using ho) (by simp)
  rw [R_escheatref01_Bytes_eq]
  simp only [Int.pow_zero, Int.ediv_one] at e
  simp only [afAddr_p, List.append_nil, if_true, if_false, bnd_some, mp_some, cnd_t, cnd_f, gd_no, gd_tt, gd_tf, gd_ft, gd_ff, alenS_s, alen_sl, alen_ns, abin_add, abin_sub, abin_mul, abin_eql, abin_neq, abin_lss, abin_leq, abin_gtr, abin_geq, abin_seql, abin_sneq, abin_slss, aun_not, aun_neg, agn_some, aeqN_nf, aeqN_f, aeqN_np, aeqN_p, anilc_p, aeqB_t, aeqB_f, aconv_i, apick_b, cond_true, cond_false, decide_true, decide_false, Bool.not_true, Bool.not_false, aext_t, ofPart_c, ofPart_a, part?_c, part?_a, cells?_c, cells?_a, tupN_2, tupN_3, Option.map_some, Option.some.injEq, List.getElem?_cons_zero, List.getElem?_cons_succ, not_true_eq_false, not_false_eq_true, quiet_same, bytesI_length, Option.join_some, List.append_assoc, List.cons_append, List.nil_append, List.length_append, List.length_cons, List.length_nil, Nat.zero_add, Nat.add_zero, rd_at, rd_at0, set_at, set_at0, List.set_cons_zero, List.set_cons_succ, ne_eq, decide_not, quiet_ext, newOk_some, List.cons_prefix_cons, List.nil_prefix, List.drop_succ_cons, List.drop_zero, List.all_cons, List.all_nil, Bool.and_true, true_and, and_true]
  exact e

/-- Bytes with others from a place on, as far as it goes. -/
def layR (l : List UInt8) (a : Int) (data : List UInt8) : List UInt8 := if 0 ≤ a then l.take a.toNat ++ ((data.take (l.length - a.toNat)) ++ l.drop (a.toNat + data.length)) else l

theorem layR_length {l data : List UInt8} {a : Int} : (layR l a data).length = l.length := by
  unfold layR
  split
  · simp; omega
  · rfl

theorem layR_get {l data : List UInt8} {a : Int} {i : Nat} (hi : i < l.length) : (layR l a data)[i]? = if 0 ≤ a ∧ a ≤ i ∧ i - a < data.length then data[i - a.toNat]? else l[i]? := by
  unfold layR
  by_cases c1 : 0 ≤ a
  · rw [if_pos c1]
    by_cases c2 : a ≤ i
    · rw [List.getElem?_append_right (by simp; omega)]
      have e1 : (l.take a.toNat).length = a.toNat := by simp; omega
      rw [e1]
      by_cases c3 : i - a < data.length
      · rw [if_pos ⟨c1, c2, c3⟩, List.getElem?_append_left (by simp; omega), List.getElem?_take_of_lt (by omega)]
      · rw [if_neg (by omega), List.getElem?_append_right (by simp; omega), List.getElem?_drop]
        congr 1
        simp; omega
    · rw [if_neg (by omega), List.getElem?_append_left (by simp; omega), List.getElem?_take_of_lt (by omega)]
  · rw [if_neg c1, if_neg (by omega)]

theorem ref01_Lay_loop {g : Heap} {v u : Val} {nv nu : Nat} {l data : List UInt8} (hv : Has g v 1 nv (encB l)) (hu : Has g u 1 nu (encB data)) {a : Int} (ha : a < 9223372036854775808) {k : Nat} (hl : l.length ≤ 1073741824) : ∀ d i m h id, i + d = l.length → d < m → Low g.length g h → g.length ≤ id → rd h id = some ⟨encB ((layR l a data).take i), true⟩ →
    ∃ v' h', escheatref01_Lay_l0 k m v (.c (.i .i64 a)) u (.c (.sl id 0 i 1)) (.c (.i .i64 i)) h = some (v', h') ∧ Out g.length h' v' 1 l.length (encB (layR l a data))
  | d, i, 0, h, id, _, hm, _, _, _ => by omega
  | 0, i, m + 1, h, id, hi, hm, hlow, hb, hr => by
    have hnv : l.length = nv := by simpa [encB_length] using hv.length
    have e : i = nv := by omega
    subst e
    have h1' : ¬ (i : Int) < i := by omega
    rw [List.take_of_length_le (by rw [layR_length]; omega)] at hr
    rw [escheatref01_Lay_l0_eq]
    exact ⟨_, _, by simp only [afAddr_p, List.append_nil, if_true, if_false, bnd_some, mp_some, cnd_t, cnd_f, gd_no, gd_tt, gd_tf, gd_ft, gd_ff, alenS_s, alen_sl, alen_ns, abin_add, abin_sub, abin_mul, abin_eql, abin_neq, abin_lss, abin_leq, abin_gtr, abin_geq, abin_seql, abin_sneq, abin_slss, aun_not, aun_neg, agn_some, aeqN_nf, aeqN_f, aeqN_np, aeqN_p, anilc_p, aeqB_t, aeqB_f, aconv_i, apick_b, cond_true, cond_false, decide_true, decide_false, Bool.not_true, Bool.not_false, aext_t, ofPart_c, ofPart_a, part?_c, part?_a, cells?_c, cells?_a, tupN_2, tupN_3, Option.map_some, Option.some.injEq, List.getElem?_cons_zero, List.getElem?_cons_succ, not_true_eq_false, not_false_eq_true, quiet_same, bytesI_length, Option.join_some, List.append_assoc, List.cons_append, List.nil_append, List.length_append, List.length_cons, List.length_nil, Nat.zero_add, Nat.add_zero, rd_at, rd_at0, set_at, set_at0, List.set_cons_zero, List.set_cons_succ, ne_eq, decide_not, quiet_ext, newOk_some, List.cons_prefix_cons, List.nil_prefix, List.drop_succ_cons, List.drop_zero, List.all_cons, List.all_nil, Bool.and_true, true_and, and_true, (hv.since hlow).len, h1'] <;> rfl, by simp [encB_length, layR_length], id, by rw [hnv], hb, hr⟩
  | d + 1, i, m + 1, h, id, hi, hm, hlow, hb, hr => by
    have hnv : l.length = nv := by simpa [encB_length] using hv.length
    have hnu : data.length = nu := by simpa [encB_length] using hu.length
    have hvl := (hv.since hlow).len
    have hul := (hu.since hlow).len
    obtain ⟨idv, offv, rfl, -, hv1, -⟩ := (hv.since hlow).sl (by omega)
    have hx := hv1 i (.i .u8 l[i].toNat) (by rw [encB_get, List.getElem?_eq_getElem (by omega)]; rfl)
    have ea : aiAddrL 1 (.c (.sl idv offv nv 1)) (.c (.i .i64 (i : Int))) = some (.c (.p idv (offv + i))) := by rw [iAddrL_of (by omega)]; simp
    have c1 : (i : Int) < nv := by omega
    have step : ∀ x : UInt8, (layR l a data)[i]? = some x → ∃ v' h', escheatref01_Lay_j0 k m (.c (.sl idv offv nv 1)) (.c (.i .i64 a)) u (.c (.sl id 0 i 1)) (.c (.i .i64 i)) (.c (.i .u8 x.toNat)) h = some (v', h') ∧ Out g.length h' v' 1 l.length (encB (layR l a data)) := by
      intro x hx
      obtain ⟨h', a1, a2, a3, a4, a5⟩ := push (ys := [.i .u8 x.toNat]) (sz := 1) (n := i) hlow hr (by rw [encB_length, List.length_take, layR_length]; omega) hb rfl (by omega) (by omega)
      have e4 : encB ((layR l a data).take i) ++ [Cell.i .u8 x.toNat] = encB ((layR l a data).take (i + 1)) := by
        rw [List.take_add_one, hx, encB_append]; rfl
      rw [e4] at a2
      obtain ⟨v', h'', b1, b2⟩ := ref01_Lay_loop (k := k) hv hu ha hl d (i + 1) m h' (h.length + 1) (by omega) (by omega) a3 a4 a2
      have e5 : afill [Cell.i .u8 0] [(0, 1, .c (.i .u8 x.toNat))] = some [.i .u8 x.toNat] := rfl
      rw [escheatref01_Lay_j0_eq]
      exact ⟨v', h'', by simp only [afAddr_p, List.append_nil, if_true, if_false, bnd_some, mp_some, cnd_t, cnd_f, gd_no, gd_tt, gd_tf, gd_ft, gd_ff, alenS_s, alen_sl, alen_ns, abin_add, abin_sub, abin_mul, abin_eql, abin_neq, abin_lss, abin_leq, abin_gtr, abin_geq, abin_seql, abin_sneq, abin_slss, aun_not, aun_neg, agn_some, aeqN_nf, aeqN_f, aeqN_np, aeqN_p, anilc_p, aeqB_t, aeqB_f, aconv_i, apick_b, cond_true, cond_false, decide_true, decide_false, Bool.not_true, Bool.not_false, aext_t, ofPart_c, ofPart_a, part?_c, part?_a, cells?_c, cells?_a, tupN_2, tupN_3, Option.map_some, Option.some.injEq, List.getElem?_cons_zero, List.getElem?_cons_succ, not_true_eq_false, not_false_eq_true, quiet_same, bytesI_length, Option.join_some, List.append_assoc, List.cons_append, List.nil_append, List.length_append, List.length_cons, List.length_nil, Nat.zero_add, Nat.add_zero, rd_at, rd_at0, set_at, set_at0, List.set_cons_zero, List.set_cons_succ, ne_eq, decide_not, quiet_ext, newOk_some, List.cons_prefix_cons, List.nil_prefix, List.drop_succ_cons, List.drop_zero, List.all_cons, List.all_nil, Bool.and_true, true_and, and_true, e5, a1, wi_succ (show i + 1 < 9223372036854775808 by omega)]; exact b1, b2⟩
    have hg := layR_get (l := l) (data := data) (a := a) (i := i) (by omega)
    have hli : l[i]? = some l[i] := List.getElem?_eq_getElem (by omega)
    rw [escheatref01_Lay_l0_eq]
    by_cases c2 : 0 ≤ a
    · by_cases c3 : a ≤ i
      · have e6 : IntKind.wrap .i64 ((i : Int) - a) = ((i - a.toNat : Nat) : Int) := by rw [wrap_i64 (by omega) (by omega)]; omega
        by_cases c4 : i - a.toNat < data.length
        · rw [if_pos (by omega), List.getElem?_eq_getElem c4] at hg
          obtain ⟨idu, offu, rfl, -, hu1, -⟩ := (hu.since hlow).sl (by omega)
          have hy := hu1 (i - a.toNat) (.i .u8 (data[i - a.toNat]'(by omega)).toNat) (by rw [encB_get, List.getElem?_eq_getElem c4]; rfl)
          have eb : aiAddrL 1 (.c (.sl idu offu nu 1)) (.c (.i .i64 ((i - a.toNat : Nat) : Int))) = some (.c (.p idu (offu + (i - a.toNat)))) := by rw [iAddrL_of (by omega)]; simp
          have c4' : ((i - a.toNat : Nat) : Int) < nu := by omega
          simp only [afAddr_p, List.append_nil, if_true, if_false, bnd_some, mp_some, cnd_t, cnd_f, gd_no, gd_tt, gd_tf, gd_ft, gd_ff, alenS_s, alen_sl, alen_ns, abin_add, abin_sub, abin_mul, abin_eql, abin_neq, abin_lss, abin_leq, abin_gtr, abin_geq, abin_seql, abin_sneq, abin_slss, aun_not, aun_neg, agn_some, aeqN_nf, aeqN_f, aeqN_np, aeqN_p, anilc_p, aeqB_t, aeqB_f, aconv_i, apick_b, cond_true, cond_false, decide_true, decide_false, Bool.not_true, Bool.not_false, aext_t, ofPart_c, ofPart_a, part?_c, part?_a, cells?_c, cells?_a, tupN_2, tupN_3, Option.map_some, Option.some.injEq, List.getElem?_cons_zero, List.getElem?_cons_succ, not_true_eq_false, not_false_eq_true, quiet_same, bytesI_length, Option.join_some, List.append_assoc, List.cons_append, List.nil_append, List.length_append, List.length_cons, List.length_nil, Nat.zero_add, Nat.add_zero, rd_at, rd_at0, set_at, set_at0, List.set_cons_zero, List.set_cons_succ, ne_eq, decide_not, quiet_ext, newOk_some, List.cons_prefix_cons, List.nil_prefix, List.drop_succ_cons, List.drop_zero, List.all_cons, List.all_nil, Bool.and_true, true_and, and_true, hvl, c1, ea, hx, c2, c3, e6, hul, c4', eb, hy]
          exact step _ hg
        · rw [if_neg (by omega), hli] at hg
          have c4' : ¬ ((i - a.toNat : Nat) : Int) < nu := by omega
          simp only [afAddr_p, List.append_nil, if_true, if_false, bnd_some, mp_some, cnd_t, cnd_f, gd_no, gd_tt, gd_tf, gd_ft, gd_ff, alenS_s, alen_sl, alen_ns, abin_add, abin_sub, abin_mul, abin_eql, abin_neq, abin_lss, abin_leq, abin_gtr, abin_geq, abin_seql, abin_sneq, abin_slss, aun_not, aun_neg, agn_some, aeqN_nf, aeqN_f, aeqN_np, aeqN_p, anilc_p, aeqB_t, aeqB_f, aconv_i, apick_b, cond_true, cond_false, decide_true, decide_false, Bool.not_true, Bool.not_false, aext_t, ofPart_c, ofPart_a, part?_c, part?_a, cells?_c, cells?_a, tupN_2, tupN_3, Option.map_some, Option.some.injEq, List.getElem?_cons_zero, List.getElem?_cons_succ, not_true_eq_false, not_false_eq_true, quiet_same, bytesI_length, Option.join_some, List.append_assoc, List.cons_append, List.nil_append, List.length_append, List.length_cons, List.length_nil, Nat.zero_add, Nat.add_zero, rd_at, rd_at0, set_at, set_at0, List.set_cons_zero, List.set_cons_succ, ne_eq, decide_not, quiet_ext, newOk_some, List.cons_prefix_cons, List.nil_prefix, List.drop_succ_cons, List.drop_zero, List.all_cons, List.all_nil, Bool.and_true, true_and, and_true, hvl, c1, ea, hx, c2, c3, e6, hul, c4']
          exact step _ hg
      · rw [if_neg (by omega), hli] at hg
        simp only [afAddr_p, List.append_nil, if_true, if_false, bnd_some, mp_some, cnd_t, cnd_f, gd_no, gd_tt, gd_tf, gd_ft, gd_ff, alenS_s, alen_sl, alen_ns, abin_add, abin_sub, abin_mul, abin_eql, abin_neq, abin_lss, abin_leq, abin_gtr, abin_geq, abin_seql, abin_sneq, abin_slss, aun_not, aun_neg, agn_some, aeqN_nf, aeqN_f, aeqN_np, aeqN_p, anilc_p, aeqB_t, aeqB_f, aconv_i, apick_b, cond_true, cond_false, decide_true, decide_false, Bool.not_true, Bool.not_false, aext_t, ofPart_c, ofPart_a, part?_c, part?_a, cells?_c, cells?_a, tupN_2, tupN_3, Option.map_some, Option.some.injEq, List.getElem?_cons_zero, List.getElem?_cons_succ, not_true_eq_false, not_false_eq_true, quiet_same, bytesI_length, Option.join_some, List.append_assoc, List.cons_append, List.nil_append, List.length_append, List.length_cons, List.length_nil, Nat.zero_add, Nat.add_zero, rd_at, rd_at0, set_at, set_at0, List.set_cons_zero, List.set_cons_succ, ne_eq, decide_not, quiet_ext, newOk_some, List.cons_prefix_cons, List.nil_prefix, List.drop_succ_cons, List.drop_zero, List.all_cons, List.all_nil, Bool.and_true, true_and, and_true, hvl, c1, ea, hx, c2, c3]
        exact step _ hg
    · rw [if_neg (by omega), hli] at hg
      simp only [afAddr_p, List.append_nil, if_true, if_false, bnd_some, mp_some, cnd_t, cnd_f, gd_no, gd_tt, gd_tf, gd_ft, gd_ff, alenS_s, alen_sl, alen_ns, abin_add, abin_sub, abin_mul, abin_eql, abin_neq, abin_lss, abin_leq, abin_gtr, abin_geq, abin_seql, abin_sneq, abin_slss, aun_not, aun_neg, agn_some, aeqN_nf, aeqN_f, aeqN_np, aeqN_p, anilc_p, aeqB_t, aeqB_f, aconv_i, apick_b, cond_true, cond_false, decide_true, decide_false, Bool.not_true, Bool.not_false, aext_t, ofPart_c, ofPart_a, part?_c, part?_a, cells?_c, cells?_a, tupN_2, tupN_3, Option.map_some, Option.some.injEq, List.getElem?_cons_zero, List.getElem?_cons_succ, not_true_eq_false, not_false_eq_true, quiet_same, bytesI_length, Option.join_some, List.append_assoc, List.cons_append, List.nil_append, List.length_append, List.length_cons, List.length_nil, Nat.zero_add, Nat.add_zero, rd_at, rd_at0, set_at, set_at0, List.set_cons_zero, List.set_cons_succ, ne_eq, decide_not, quiet_ext, newOk_some, List.cons_prefix_cons, List.nil_prefix, List.drop_succ_cons, List.drop_zero, List.all_cons, List.all_nil, Bool.and_true, true_and, and_true, hvl, c1, ea, hx, c2]
      exact step _ hg

theorem ref01_Lay_eq {v u : Val} {nv nu : Nat} {l data : List UInt8} {h : Heap} (hv : Has h v 1 nv (encB l)) (hu : Has h u 1 nu (encB data)) {a : Int} (ha : a < 9223372036854775808) (hl : l.length ≤ 1073741824) :
    S_escheatref01_Lay [v, .c (.i .i64 a), u] h = some (.c (.sl h.length 0 l.length 1), h ++ [some ⟨encB (layR l a data), true⟩]) := by
  obtain ⟨v', h', e, ho⟩ := ref01_Lay_loop (k := l.length + 1) hv.ro hu.ro ha hl l.length 0 (l.length + 1) (ro h ++ [some ⟨[], true⟩, some ⟨[], true⟩]) ((ro h).length + 1) (by omega) (by omega) ((Low.refl (Nat.le_refl _)).new _) (by simp) (by simp; rfl)
  refine S_escheatref01_Lay_out (n := l.length + 1) (v := v') (h2 := h') ?_ (by simpa [ro_length] using ho) (by simp)
  rw [R_escheatref01_Lay_eq]
  simp only [afAddr_p, List.append_nil, if_true, if_false, bnd_some, mp_some, cnd_t, cnd_f, gd_no, gd_tt, gd_tf, gd_ft, gd_ff, alenS_s, alen_sl, alen_ns, abin_add, abin_sub, abin_mul, abin_eql, abin_neq, abin_lss, abin_leq, abin_gtr, abin_geq, abin_seql, abin_sneq, abin_slss, aun_not, aun_neg, agn_some, aeqN_nf, aeqN_f, aeqN_np, aeqN_p, anilc_p, aeqB_t, aeqB_f, aconv_i, apick_b, cond_true, cond_false, decide_true, decide_false, Bool.not_true, Bool.not_false, aext_t, ofPart_c, ofPart_a, part?_c, part?_a, cells?_c, cells?_a, tupN_2, tupN_3, Option.map_some, Option.some.injEq, List.getElem?_cons_zero, List.getElem?_cons_succ, not_true_eq_false, not_false_eq_true, quiet_same, bytesI_length, Option.join_some, List.append_assoc, List.cons_append, List.nil_append, List.length_append, List.length_cons, List.length_nil, Nat.zero_add, Nat.add_zero, rd_at, rd_at0, set_at, set_at0, List.set_cons_zero, List.set_cons_succ, ne_eq, decide_not, quiet_ext, newOk_some, List.cons_prefix_cons, List.nil_prefix, List.drop_succ_cons, List.drop_zero, List.all_cons, List.all_nil, Bool.and_true, true_and, and_true]
  exact e

theorem layR_layB {l xs : List UInt8} {a : Nat} (h : a + xs.length ≤ l.length) : layR l a xs = layB l a xs := by
  unfold layR layB
  rw [if_pos (by omega)]
  simp only [Int.toNat_natCast]
  rw [List.take_of_length_le (l := xs) (by omega)]

/-- The number at a place of any bytes. -/
def atG (l : List UInt8) (a w : Int) : Nat := if w ≤ 4 ∧ thereI a w l.length = true then le ((l.drop a.toNat).take w.toNat) else 0

theorem atG_256 {l : List UInt8} {a w : Int} (hl : l.length = 256) : atG l a w = atN l a w := by
  unfold atG atN; rw [hl]; rfl

theorem ref01_AtG {v : Val} {nv : Nat} {l : List UInt8} {h : Heap} (hv : Has h v 1 nv (encB l)) {a w : Int} (hl : l.length < 9223372036854775808) :
    S_escheatref01_At [v, .c (.i .i64 a), .c (.i .i64 w)] h = some (.c (.i .i64 (atG l a w)), h) := by
  have key : ∀ g, Has g v 1 nv (encB l) → R_escheatref01_At 0 [v, .c (.i .i64 a), .c (.i .i64 w)] g = some (.c (.i .i64 (atG l a w)), g) := by
    intro g hv
    rw [R_escheatref01_At_eq]
    unfold atG
    by_cases c1 : 4 < w
    · rw [if_neg (by omega)]
      simp only [afAddr_p, List.append_nil, if_true, if_false, bnd_some, mp_some, cnd_t, cnd_f, gd_no, gd_tt, gd_tf, gd_ft, gd_ff, alenS_s, alen_sl, alen_ns, abin_add, abin_sub, abin_mul, abin_eql, abin_neq, abin_lss, abin_leq, abin_gtr, abin_geq, abin_seql, abin_sneq, abin_slss, aun_not, aun_neg, agn_some, aeqN_nf, aeqN_f, aeqN_np, aeqN_p, anilc_p, aeqB_t, aeqB_f, aconv_i, apick_b, cond_true, cond_false, decide_true, decide_false, Bool.not_true, Bool.not_false, aext_t, ofPart_c, ofPart_a, part?_c, part?_a, cells?_c, cells?_a, tupN_2, tupN_3, Option.map_some, Option.some.injEq, List.getElem?_cons_zero, List.getElem?_cons_succ, not_true_eq_false, not_false_eq_true, quiet_same, bytesI_length, Option.join_some, List.append_assoc, List.cons_append, List.nil_append, List.length_append, List.length_cons, List.length_nil, Nat.zero_add, Nat.add_zero, rd_at, rd_at0, set_at, set_at0, List.set_cons_zero, List.set_cons_succ, ne_eq, decide_not, quiet_ext, newOk_some, List.cons_prefix_cons, List.nil_prefix, List.drop_succ_cons, List.drop_zero, List.all_cons, List.all_nil, Bool.and_true, true_and, and_true, c1] <;> rfl
    · have e := ref01_Get_eq hv (a := a) (w := w) hl
      unfold getN at e
      by_cases c2 : thereI a w l.length = true
      · have c3 := thereI_true.1 c2
        rw [if_pos ⟨by omega, c2⟩] at e
        rw [if_pos ⟨by omega, c2⟩]
        have hle := le_lt ((l.drop a.toNat).take w.toNat)
        have hlen : ((l.drop a.toNat).take w.toNat).length = w.toNat := by simp; omega
        rw [hlen] at hle
        have hp : 256 ^ w.toNat ≤ 256 ^ 4 := pow256_le (by omega)
        simp only [Option.getD_some, Option.isSome_some] at e
        have e2 : IntKind.wrap .i64 ((le ((l.drop a.toNat).take w.toNat) : Nat) : Int) = le ((l.drop a.toNat).take w.toNat) := wrap_i64 (by omega) (by omega)
        simp only [afAddr_p, List.append_nil, if_true, if_false, bnd_some, mp_some, cnd_t, cnd_f, gd_no, gd_tt, gd_tf, gd_ft, gd_ff, alenS_s, alen_sl, alen_ns, abin_add, abin_sub, abin_mul, abin_eql, abin_neq, abin_lss, abin_leq, abin_gtr, abin_geq, abin_seql, abin_sneq, abin_slss, aun_not, aun_neg, agn_some, aeqN_nf, aeqN_f, aeqN_np, aeqN_p, anilc_p, aeqB_t, aeqB_f, aconv_i, apick_b, cond_true, cond_false, decide_true, decide_false, Bool.not_true, Bool.not_false, aext_t, ofPart_c, ofPart_a, part?_c, part?_a, cells?_c, cells?_a, tupN_2, tupN_3, Option.map_some, Option.some.injEq, List.getElem?_cons_zero, List.getElem?_cons_succ, not_true_eq_false, not_false_eq_true, quiet_same, bytesI_length, Option.join_some, List.append_assoc, List.cons_append, List.nil_append, List.length_append, List.length_cons, List.length_nil, Nat.zero_add, Nat.add_zero, rd_at, rd_at0, set_at, set_at0, List.set_cons_zero, List.set_cons_succ, ne_eq, decide_not, quiet_ext, newOk_some, List.cons_prefix_cons, List.nil_prefix, List.drop_succ_cons, List.drop_zero, List.all_cons, List.all_nil, Bool.and_true, true_and, and_true, c1, e, e2]
      · rw [if_neg (fun h => c2 h.2)] at e
        rw [if_neg (fun h => c2 h.2)]
        simp only [Option.getD_none, Option.isSome_none] at e
        simp only [afAddr_p, List.append_nil, if_true, if_false, bnd_some, mp_some, cnd_t, cnd_f, gd_no, gd_tt, gd_tf, gd_ft, gd_ff, alenS_s, alen_sl, alen_ns, abin_add, abin_sub, abin_mul, abin_eql, abin_neq, abin_lss, abin_leq, abin_gtr, abin_geq, abin_seql, abin_sneq, abin_slss, aun_not, aun_neg, agn_some, aeqN_nf, aeqN_f, aeqN_np, aeqN_p, anilc_p, aeqB_t, aeqB_f, aconv_i, apick_b, cond_true, cond_false, decide_true, decide_false, Bool.not_true, Bool.not_false, aext_t, ofPart_c, ofPart_a, part?_c, part?_a, cells?_c, cells?_a, tupN_2, tupN_3, Option.map_some, Option.some.injEq, List.getElem?_cons_zero, List.getElem?_cons_succ, not_true_eq_false, not_false_eq_true, quiet_same, bytesI_length, Option.join_some, List.append_assoc, List.cons_append, List.nil_append, List.length_append, List.length_cons, List.length_nil, Nat.zero_add, Nat.add_zero, rd_at, rd_at0, set_at, set_at0, List.set_cons_zero, List.set_cons_succ, ne_eq, decide_not, quiet_ext, newOk_some, List.cons_prefix_cons, List.nil_prefix, List.drop_succ_cons, List.drop_zero, List.all_cons, List.all_nil, Bool.and_true, true_and, and_true, c1, e] <;> rfl
  exact S_escheatref01_At_flat (key _ hv.ro) (by simp)

theorem ref01_At_eq {v : Val} {nv : Nat} {l : List UInt8} {h : Heap} (hv : Has h v 1 nv (encB l)) {a w : Int} (hl : l.length = 256) :
    S_escheatref01_At [v, .c (.i .i64 a), .c (.i .i64 w)] h = some (.c (.i .i64 (atN l a w)), h) := by
  rw [ref01_AtG hv (by omega), atG_256 hl]

theorem byI_wrap {v : Int} {i : Nat} (hi : i < 8) : byI (IntKind.wrap .u64 v) i = byI v i := by
  have hw : IntKind.wrap .u64 v = v % 18446744073709551616 := by
    simp only [IntKind.wrap, IntKind.bits, IntKind.signed, Bool.false_and]
    rfl
  apply UInt8.toNat_inj.1
  have h1 : ((byI (IntKind.wrap .u64 v) i).toNat : Int) = (v % 18446744073709551616) / 256 ^ i % 256 := by rw [byI_int, hw]
  have h2 := byI_int v i
  have h3 : (v % 18446744073709551616) / 256 ^ i % 256 = v / 256 ^ i % 256 := by
    have : i = 0 ∨ i = 1 ∨ i = 2 ∨ i = 3 ∨ i = 4 ∨ i = 5 ∨ i = 6 ∨ i = 7 := by omega
    rcases this with rfl | rfl | rfl | rfl | rfl | rfl | rfl | rfl <;> simp only [Int.reducePow] <;> omega
  omega

theorem bytesI_wrap {v : Int} {w : Nat} (hw : w ≤ 8) : bytesI w (IntKind.wrap .u64 v) = bytesI w v := by
  unfold bytesI
  refine List.map_congr_left fun i hi => byI_wrap ?_
  have := List.mem_range.1 hi
  omega

theorem ref01_Cut_loop {g : Heap} {v : Val} {nv : Nat} {l : List UInt8} (hv : Has g v 1 nv (encB l)) {a n : Int} (h0 : 0 ≤ a) (h1 : a < 9223372036854775808) {k : Nat} (hl : l.length ≤ 1073741824) : ∀ d i m h id, i + d = (cutB l a n).length → d < m → Low g.length g h → g.length ≤ id → rd h id = some ⟨encB ((cutB l a n).take i), true⟩ →
    ∃ v' h', escheatref01_Cut_l0 k m v (.c (.i .i64 a)) (.c (.i .i64 n)) (.c (.sl id 0 i 1)) (.c (.i .i64 (a + i))) h = some (v', h') ∧ Out g.length h' v' 1 (cutB l a n).length (encB (cutB l a n))
  | d, i, 0, h, id, _, hm, _, _, _ => by omega
  | 0, i, m + 1, h, id, hi, hm, hlow, hb, hr => by
    have hnv : l.length = nv := by simpa [encB_length] using hv.length
    have e : i = (cutB l a n).length := by omega
    rw [List.take_of_length_le (by omega)] at hr
    have hc : (cutB l a n).length = min n.toNat (l.length - a.toNat) := by unfold cutB; rw [if_pos h0]; simp
    rw [escheatref01_Cut_l0_eq]
    subst e
    by_cases c1 : a + ((cutB l a n).length : Int) < nv
    · have c2 : ¬ ((cutB l a n).length : Int) < n := by omega
      have e1 : IntKind.wrap .i64 (a + ((cutB l a n).length : Int) - a) = (cutB l a n).length := by rw [wrap_i64 (by omega) (by omega)]; omega
      exact ⟨_, _, by simp only [afAddr_p, List.append_nil, if_true, if_false, bnd_some, mp_some, cnd_t, cnd_f, gd_no, gd_tt, gd_tf, gd_ft, gd_ff, alenS_s, alen_sl, alen_ns, abin_add, abin_sub, abin_mul, abin_eql, abin_neq, abin_lss, abin_leq, abin_gtr, abin_geq, abin_seql, abin_sneq, abin_slss, aun_not, aun_neg, agn_some, aeqN_nf, aeqN_f, aeqN_np, aeqN_p, anilc_p, aeqB_t, aeqB_f, aconv_i, apick_b, cond_true, cond_false, decide_true, decide_false, Bool.not_true, Bool.not_false, aext_t, ofPart_c, ofPart_a, part?_c, part?_a, cells?_c, cells?_a, tupN_2, tupN_3, Option.map_some, Option.some.injEq, List.getElem?_cons_zero, List.getElem?_cons_succ, not_true_eq_false, not_false_eq_true, quiet_same, bytesI_length, Option.join_some, List.append_assoc, List.cons_append, List.nil_append, List.length_append, List.length_cons, List.length_nil, Nat.zero_add, Nat.add_zero, rd_at, rd_at0, set_at, set_at0, List.set_cons_zero, List.set_cons_succ, ne_eq, decide_not, quiet_ext, newOk_some, List.cons_prefix_cons, List.nil_prefix, List.drop_succ_cons, List.drop_zero, List.all_cons, List.all_nil, Bool.and_true, true_and, and_true, (hv.since hlow).len, h0, c1, e1, c2] <;> rfl, by simp [encB_length], id, rfl, hb, hr⟩
    · exact ⟨_, _, by simp only [afAddr_p, List.append_nil, if_true, if_false, bnd_some, mp_some, cnd_t, cnd_f, gd_no, gd_tt, gd_tf, gd_ft, gd_ff, alenS_s, alen_sl, alen_ns, abin_add, abin_sub, abin_mul, abin_eql, abin_neq, abin_lss, abin_leq, abin_gtr, abin_geq, abin_seql, abin_sneq, abin_slss, aun_not, aun_neg, agn_some, aeqN_nf, aeqN_f, aeqN_np, aeqN_p, anilc_p, aeqB_t, aeqB_f, aconv_i, apick_b, cond_true, cond_false, decide_true, decide_false, Bool.not_true, Bool.not_false, aext_t, ofPart_c, ofPart_a, part?_c, part?_a, cells?_c, cells?_a, tupN_2, tupN_3, Option.map_some, Option.some.injEq, List.getElem?_cons_zero, List.getElem?_cons_succ, not_true_eq_false, not_false_eq_true, quiet_same, bytesI_length, Option.join_some, List.append_assoc, List.cons_append, List.nil_append, List.length_append, List.length_cons, List.length_nil, Nat.zero_add, Nat.add_zero, rd_at, rd_at0, set_at, set_at0, List.set_cons_zero, List.set_cons_succ, ne_eq, decide_not, quiet_ext, newOk_some, List.cons_prefix_cons, List.nil_prefix, List.drop_succ_cons, List.drop_zero, List.all_cons, List.all_nil, Bool.and_true, true_and, and_true, (hv.since hlow).len, h0, c1] <;> rfl, by simp [encB_length], id, rfl, hb, hr⟩
  | d + 1, i, m + 1, h, id, hi, hm, hlow, hb, hr => by
    have hnv : l.length = nv := by simpa [encB_length] using hv.length
    have hc : (cutB l a n).length = min n.toNat (l.length - a.toNat) := by unfold cutB; rw [if_pos h0]; simp
    have hvl := (hv.since hlow).len
    obtain ⟨idv, offv, rfl, -, hv1, -⟩ := (hv.since hlow).sl (by omega)
    have hx := hv1 (a.toNat + i) (.i .u8 (l[a.toNat + i]'(by omega)).toNat) (by rw [encB_get, List.getElem?_eq_getElem (by omega)]; rfl)
    have e0 : (a + (i : Int)) = ((a.toNat + i : Nat) : Int) := by omega
    have ea : aiAddrL 1 (.c (.sl idv offv nv 1)) (.c (.i .i64 ((a.toNat + i : Nat) : Int))) = some (.c (.p idv (offv + (a.toNat + i)))) := by rw [iAddrL_of (by omega)]; simp
    have c1 : ((a.toNat + i : Nat) : Int) < nv := by omega
    have e1 : IntKind.wrap .i64 (((a.toNat + i : Nat) : Int) - a) = i := by rw [wrap_i64 (by omega) (by omega)]; omega
    have c2 : (i : Int) < n := by omega
    obtain ⟨h', a1, a2, a3, a4, a5⟩ := push (ys := [.i .u8 (l[a.toNat + i]'(by omega)).toNat]) (sz := 1) (n := i) hlow hr (by rw [encB_length, List.length_take]; omega) hb rfl (by omega) (by omega)
    have e4 : encB ((cutB l a n).take i) ++ [Cell.i .u8 (l[a.toNat + i]'(by omega)).toNat] = encB ((cutB l a n).take (i + 1)) := by
      have : (cutB l a n)[i]? = some (l[a.toNat + i]'(by omega)) := by
        unfold cutB
        rw [if_pos h0, List.getElem?_take_of_lt (by omega), List.getElem?_drop, List.getElem?_eq_getElem (by omega)]
      rw [List.take_add_one, this, encB_append]; rfl
    rw [e4] at a2
    obtain ⟨v', h'', b1, b2⟩ := ref01_Cut_loop (k := k) hv h0 h1 hl d (i + 1) m h' (h.length + 1) (by omega) (by omega) a3 a4 a2
    have e6 : a + ((i + 1 : Nat) : Int) = ((a.toNat + i + 1 : Nat) : Int) := by omega
    rw [e6] at b1
    have e5 : afill [Cell.i .u8 0] [(0, 1, .c (.i .u8 (l[a.toNat + i]'(by omega)).toNat))] = some [.i .u8 (l[a.toNat + i]'(by omega)).toNat] := rfl
    rw [escheatref01_Cut_l0_eq, e0]
    exact ⟨v', h'', by simp only [afAddr_p, List.append_nil, if_true, if_false, bnd_some, mp_some, cnd_t, cnd_f, gd_no, gd_tt, gd_tf, gd_ft, gd_ff, alenS_s, alen_sl, alen_ns, abin_add, abin_sub, abin_mul, abin_eql, abin_neq, abin_lss, abin_leq, abin_gtr, abin_geq, abin_seql, abin_sneq, abin_slss, aun_not, aun_neg, agn_some, aeqN_nf, aeqN_f, aeqN_np, aeqN_p, anilc_p, aeqB_t, aeqB_f, aconv_i, apick_b, cond_true, cond_false, decide_true, decide_false, Bool.not_true, Bool.not_false, aext_t, ofPart_c, ofPart_a, part?_c, part?_a, cells?_c, cells?_a, tupN_2, tupN_3, Option.map_some, Option.some.injEq, List.getElem?_cons_zero, List.getElem?_cons_succ, not_true_eq_false, not_false_eq_true, quiet_same, bytesI_length, Option.join_some, List.append_assoc, List.cons_append, List.nil_append, List.length_append, List.length_cons, List.length_nil, Nat.zero_add, Nat.add_zero, rd_at, rd_at0, set_at, set_at0, List.set_cons_zero, List.set_cons_succ, ne_eq, decide_not, quiet_ext, newOk_some, List.cons_prefix_cons, List.nil_prefix, List.drop_succ_cons, List.drop_zero, List.all_cons, List.all_nil, Bool.and_true, true_and, and_true, hvl, h0, c1, e1, c2, ea, hx, e5, a1, wi_succ (show a.toNat + i + 1 < 9223372036854775808 by omega)]; exact b1, b2⟩

theorem ref01_Cut_eq {v : Val} {nv : Nat} {l : List UInt8} {h : Heap} (hv : Has h v 1 nv (encB l)) {a n : Int} (h1 : a < 9223372036854775808) (hl : l.length ≤ 1073741824) :
    S_escheatref01_Cut [v, .c (.i .i64 a), .c (.i .i64 n)] h = some (.c (.sl h.length 0 (cutB l a n).length 1), h ++ [some ⟨encB (cutB l a n), true⟩]) := by
  by_cases h0 : 0 ≤ a
  · obtain ⟨v', h', e, ho⟩ := ref01_Cut_loop (k := (cutB l a n).length + 1) (n := n) hv.ro h0 h1 hl (cutB l a n).length 0 ((cutB l a n).length + 1) (ro h ++ [some ⟨[], true⟩, some ⟨[], true⟩]) ((ro h).length + 1) (by omega) (by omega) ((Low.refl (Nat.le_refl _)).new _) (by simp) (by simp; rfl)
    refine S_escheatref01_Cut_out (n := (cutB l a n).length + 1) (v := v') (h2 := h') ?_ (by simpa [ro_length] using ho) (by simp)
    rw [R_escheatref01_Cut_eq]
    simp only [afAddr_p, List.append_nil, if_true, if_false, bnd_some, mp_some, cnd_t, cnd_f, gd_no, gd_tt, gd_tf, gd_ft, gd_ff, alenS_s, alen_sl, alen_ns, abin_add, abin_sub, abin_mul, abin_eql, abin_neq, abin_lss, abin_leq, abin_gtr, abin_geq, abin_seql, abin_sneq, abin_slss, aun_not, aun_neg, agn_some, aeqN_nf, aeqN_f, aeqN_np, aeqN_p, anilc_p, aeqB_t, aeqB_f, aconv_i, apick_b, cond_true, cond_false, decide_true, decide_false, Bool.not_true, Bool.not_false, aext_t, ofPart_c, ofPart_a, part?_c, part?_a, cells?_c, cells?_a, tupN_2, tupN_3, Option.map_some, Option.some.injEq, List.getElem?_cons_zero, List.getElem?_cons_succ, not_true_eq_false, not_false_eq_true, quiet_same, bytesI_length, Option.join_some, List.append_assoc, List.cons_append, List.nil_append, List.length_append, List.length_cons, List.length_nil, Nat.zero_add, Nat.add_zero, rd_at, rd_at0, set_at, set_at0, List.set_cons_zero, List.set_cons_succ, ne_eq, decide_not, quiet_ext, newOk_some, List.cons_prefix_cons, List.nil_prefix, List.drop_succ_cons, List.drop_zero, List.all_cons, List.all_nil, Bool.and_true, true_and, and_true]
    simpa using e
  · have e : cutB l a n = [] := by unfold cutB; rw [if_neg h0]
    rw [e]
    refine S_escheatref01_Cut_out (n := 1) (v := .c (.sl ((ro h).length + 1) 0 0 1)) (h2 := ro h ++ [some ⟨[], true⟩, some ⟨[], true⟩]) ?_ ⟨by simp [encB_length], _, rfl, by rw [ro_length]; omega, by simp; rfl⟩ (by simp)
    rw [R_escheatref01_Cut_eq]
    have : ∀ n : Nat, ∀ x h, escheatref01_Cut_l0 n 1 v (.c (.i .i64 a)) x (.c (.sl ((ro h).length + 1) 0 0 1)) (.c (.i .i64 a)) h = some (.c (.sl ((ro h).length + 1) 0 0 1), h) := by
      intro n x h
      rw [escheatref01_Cut_l0_eq n 0]
      simp only [afAddr_p, List.append_nil, if_true, if_false, bnd_some, mp_some, cnd_t, cnd_f, gd_no, gd_tt, gd_tf, gd_ft, gd_ff, alenS_s, alen_sl, alen_ns, abin_add, abin_sub, abin_mul, abin_eql, abin_neq, abin_lss, abin_leq, abin_gtr, abin_geq, abin_seql, abin_sneq, abin_slss, aun_not, aun_neg, agn_some, aeqN_nf, aeqN_f, aeqN_np, aeqN_p, anilc_p, aeqB_t, aeqB_f, aconv_i, apick_b, cond_true, cond_false, decide_true, decide_false, Bool.not_true, Bool.not_false, aext_t, ofPart_c, ofPart_a, part?_c, part?_a, cells?_c, cells?_a, tupN_2, tupN_3, Option.map_some, Option.some.injEq, List.getElem?_cons_zero, List.getElem?_cons_succ, not_true_eq_false, not_false_eq_true, quiet_same, bytesI_length, Option.join_some, List.append_assoc, List.cons_append, List.nil_append, List.length_append, List.length_cons, List.length_nil, Nat.zero_add, Nat.add_zero, rd_at, rd_at0, set_at, set_at0, List.set_cons_zero, List.set_cons_succ, ne_eq, decide_not, quiet_ext, newOk_some, List.cons_prefix_cons, List.nil_prefix, List.drop_succ_cons, List.drop_zero, List.all_cons, List.all_nil, Bool.and_true, true_and, and_true, h0]
    simp only [afAddr_p, List.append_nil, if_true, if_false, bnd_some, mp_some, cnd_t, cnd_f, gd_no, gd_tt, gd_tf, gd_ft, gd_ff, alenS_s, alen_sl, alen_ns, abin_add, abin_sub, abin_mul, abin_eql, abin_neq, abin_lss, abin_leq, abin_gtr, abin_geq, abin_seql, abin_sneq, abin_slss, aun_not, aun_neg, agn_some, aeqN_nf, aeqN_f, aeqN_np, aeqN_p, anilc_p, aeqB_t, aeqB_f, aconv_i, apick_b, cond_true, cond_false, decide_true, decide_false, Bool.not_true, Bool.not_false, aext_t, ofPart_c, ofPart_a, part?_c, part?_a, cells?_c, cells?_a, tupN_2, tupN_3, Option.map_some, Option.some.injEq, List.getElem?_cons_zero, List.getElem?_cons_succ, not_true_eq_false, not_false_eq_true, quiet_same, bytesI_length, Option.join_some, List.append_assoc, List.cons_append, List.nil_append, List.length_append, List.length_cons, List.length_nil, Nat.zero_add, Nat.add_zero, rd_at, rd_at0, set_at, set_at0, List.set_cons_zero, List.set_cons_succ, ne_eq, decide_not, quiet_ext, newOk_some, List.cons_prefix_cons, List.nil_prefix, List.drop_succ_cons, List.drop_zero, List.all_cons, List.all_nil, Bool.and_true, true_and, and_true]
    have e2 := escheatref01_Cut_l0_eq 1 0 v (.c (.i .i64 a)) (.c (.i .i64 n)) (.c (.sl ((ro h).length + 1) 0 0 1)) (.c (.i .i64 a)) (ro h ++ [some ⟨[], true⟩, some ⟨[], true⟩])
    rw [e2]
    simp only [afAddr_p, List.append_nil, if_true, if_false, bnd_some, mp_some, cnd_t, cnd_f, gd_no, gd_tt, gd_tf, gd_ft, gd_ff, alenS_s, alen_sl, alen_ns, abin_add, abin_sub, abin_mul, abin_eql, abin_neq, abin_lss, abin_leq, abin_gtr, abin_geq, abin_seql, abin_sneq, abin_slss, aun_not, aun_neg, agn_some, aeqN_nf, aeqN_f, aeqN_np, aeqN_p, anilc_p, aeqB_t, aeqB_f, aconv_i, apick_b, cond_true, cond_false, decide_true, decide_false, Bool.not_true, Bool.not_false, aext_t, ofPart_c, ofPart_a, part?_c, part?_a, cells?_c, cells?_a, tupN_2, tupN_3, Option.map_some, Option.some.injEq, List.getElem?_cons_zero, List.getElem?_cons_succ, not_true_eq_false, not_false_eq_true, quiet_same, bytesI_length, Option.join_some, List.append_assoc, List.cons_append, List.nil_append, List.length_append, List.length_cons, List.length_nil, Nat.zero_add, Nat.add_zero, rd_at, rd_at0, set_at, set_at0, List.set_cons_zero, List.set_cons_succ, ne_eq, decide_not, quiet_ext, newOk_some, List.cons_prefix_cons, List.nil_prefix, List.drop_succ_cons, List.drop_zero, List.all_cons, List.all_nil, Bool.and_true, true_and, and_true, h0]

end Go.Proofs.Ytbbkpmbepljhkaa
