/- A patch is laid into a block. -/
import Derived.Test.YtbbkpmbepljhkaaEscU
import Derived.Test.YtbbkpmbepljhkaaGPatch
set_option linter.all false
namespace Go.Proofs.Ytbbkpmbepljhkaa
open Go Go.Esc

theorem patch_Check_ok {x : Cell} {a n : Nat} {cs : List Cell} {h : Heap} (hv : Has h (.c x) 1 n cs) (hn : 1 ≤ n) (han : a + n ≤ 256) :
    S_patch_Check [.a [.i .i64 a, x]] h = some (.c (.i .i64 0), h) := by
  have key : ∀ g, Has g (.c x) 1 n cs → ∃ g', R_patch_Check 0 [.a [.i .i64 a, x]] g = some (.c (.i .i64 0), g') := by
    intro g hv
    have c1 : ¬ (n : Int) < 1 := by omega
    have c2 : ¬ (256 : Int) < n := by omega
    have c3 : ¬ (a : Int) < 0 := by omega
    have e1 : IntKind.wrap .i64 (256 - (n : Int)) = 256 - n := wrap_i64 (by omega) (by omega)
    have c4 : ¬ (256 : Int) - n < a := by omega
    rw [R_patch_Check_eq]
    exact ⟨_, by simp only [afAddr_p, List.append_nil, if_true, if_false, bnd_some, mp_some, cnd_t, cnd_f, gd_no, gd_tt, gd_tf, gd_ft, gd_ff, alenS_s, alen_sl, alen_ns, abin_add, abin_sub, abin_mul, abin_eql, abin_neq, abin_lss, abin_leq, abin_gtr, abin_geq, abin_seql, abin_sneq, abin_slss, aun_not, aun_neg, agn_some, aeqN_nf, aeqN_f, aeqN_np, aeqN_p, anilc_p, aeqB_t, aeqB_f, aconv_i, apick_b, cond_true, cond_false, decide_true, decide_false, Bool.not_true, Bool.not_false, aext_t, ofPart_c, ofPart_a, part?_c, part?_a, cells?_c, cells?_a, tupN_2, tupN_3, Option.map_some, Option.some.injEq, List.getElem?_cons_zero, List.getElem?_cons_succ, not_true_eq_false, not_false_eq_true, quiet_same, bytesI_length, Option.join_some, List.append_assoc, List.cons_append, List.nil_append, List.length_append, List.length_cons, List.length_nil, Nat.zero_add, Nat.add_zero, rd_at, rd_at0, set_at, set_at0, List.set_cons_zero, List.set_cons_succ, ne_eq, decide_not, quiet_ext, newOk_some, List.cons_prefix_cons, List.nil_prefix, List.drop_succ_cons, List.drop_zero, List.all_cons, List.all_nil, Bool.and_true, true_and, and_true, aloadN_at, aloadN_at0, aload1_at, aload1_at0, astoreN_at, astoreN_at0, astore1_at, astore1_at0, aslA_at, aslA_at0, ldN_all, ld1_row, stN_all, st1_row, slr_all, Nat.reduceAdd, Nat.reduceMul, Nat.reduceLT, hv.len, c1, c2, c3, e1, c4] <;> rfl⟩
  obtain ⟨g', e⟩ := key (ro h) hv.ro
  exact S_patch_Check_flat e rfl

theorem patch_Lay_loop {x : Cell} {n : Nat} {data l : List UInt8} {z : List Cell} {g : Heap} (hv : Has g (.c x) 1 n (encB data)) {a q : Nat} (han : a + n ≤ 256) (hl : l.length = 256) (hz : z.length = 256) (hn : data.length = n) : ∀ d i m, i + d = n → d < m →
    patch_Lay_l0 q m (.c (.p g.length 0)) (.c (.p (g.length + 1) 0)) (.c (.p (g.length + 2) 0)) (.c x) (.c (.i .i64 n)) (.c (.i .i64 i)) (g ++ [some ⟨encB (layB l a (data.take i)), true⟩, some ⟨[.i .i64 a, x], true⟩, some ⟨z, true⟩]) =
      some (.a (encB (layB l a data)), g ++ [some ⟨encB (layB l a data), true⟩, some ⟨[.i .i64 a, x], true⟩, some ⟨encB (layB l a data), true⟩])
  | d, i, 0, _, hm => by omega
  | 0, i, m + 1, hi, hm => by
    have e0 : i = n := by omega
    subst e0
    have c0 : ¬ (i : Int) < i := by omega
    have hE : (encB (layB l a data)).length = 256 := by rw [encB_length, layB_length (by omega), hl]
    rw [patch_Lay_l0_eq, List.take_of_length_le (by omega)]
    simp only [afAddr_p, List.append_nil, if_true, if_false, bnd_some, mp_some, cnd_t, cnd_f, gd_no, gd_tt, gd_tf, gd_ft, gd_ff, alenS_s, alen_sl, alen_ns, abin_add, abin_sub, abin_mul, abin_eql, abin_neq, abin_lss, abin_leq, abin_gtr, abin_geq, abin_seql, abin_sneq, abin_slss, aun_not, aun_neg, agn_some, aeqN_nf, aeqN_f, aeqN_np, aeqN_p, anilc_p, aeqB_t, aeqB_f, aconv_i, apick_b, cond_true, cond_false, decide_true, decide_false, Bool.not_true, Bool.not_false, aext_t, ofPart_c, ofPart_a, part?_c, part?_a, cells?_c, cells?_a, tupN_2, tupN_3, Option.map_some, Option.some.injEq, List.getElem?_cons_zero, List.getElem?_cons_succ, not_true_eq_false, not_false_eq_true, quiet_same, bytesI_length, Option.join_some, List.append_assoc, List.cons_append, List.nil_append, List.length_append, List.length_cons, List.length_nil, Nat.zero_add, Nat.add_zero, rd_at, rd_at0, set_at, set_at0, List.set_cons_zero, List.set_cons_succ, ne_eq, decide_not, quiet_ext, newOk_some, List.cons_prefix_cons, List.nil_prefix, List.drop_succ_cons, List.drop_zero, List.all_cons, List.all_nil, Bool.and_true, true_and, and_true, aloadN_at, aloadN_at0, aload1_at, aload1_at0, astoreN_at, astoreN_at0, astore1_at, astore1_at0, aslA_at, aslA_at0, ldN_all, ld1_row, stN_all, st1_row, slr_all, Nat.reduceAdd, Nat.reduceMul, Nat.reduceLT, c0, hE, hz]
  | d + 1, i, m + 1, hi, hm => by
    have ih := patch_Lay_loop hv (z := z) (q := q) han hl hz hn d (i + 1) m (by omega) (by omega)
    obtain ⟨id, off, e, hid, h1, h2⟩ := (hv.more [some ⟨encB (layB l a (data.take i)), true⟩, some ⟨[.i .i64 a, x], true⟩, some ⟨z, true⟩]).sl (by omega)
    cases e
    have c0 : (i : Int) < n := by omega
    have hx := h1 i (.i .u8 data[i].toNat) (by rw [encB_get, List.getElem?_eq_getElem (by omega)]; rfl)
    have eb : aiAddrL 1 (.c (.sl id off n 1)) (.c (.i .i64 (i : Int))) = some (.c (.p id (off + i))) := by rw [iAddrL_of (by omega)]; simp
    have ea : aiAddrA 256 1 (.c (.p g.length 0)) (.c (.i .i64 ((a + i : Nat) : Int))) = some (.c (.p g.length (a + i))) := by rw [iAddrA_of (by omega)]; simp
    have hE : (encB (layB l a (data.take i))).length = 256 := by rw [encB_length, layB_length (by simp; omega), hl]
    have ho : a + i < 256 := by omega
    have e5 : (layB l a (data.take i)).set (a + i) data[i] = layB l a (data.take (i + 1)) := by
      have := layB_snoc (l := l) (xs := data.take i) (a := a) (x := data[i]) (by simp; omega)
      rw [List.length_take, Nat.min_eq_left (by omega)] at this
      rw [this, List.take_succ_eq_append_getElem (by omega)]
    have es : (encB (layB l a (data.take i))).set (a + i) (.i .u8 data[i].toNat) = encB (layB l a (data.take (i + 1))) := by rw [encB_set, e5]
    rw [patch_Lay_l0_eq]
    simp only [afAddr_p, List.append_nil, if_true, if_false, bnd_some, mp_some, cnd_t, cnd_f, gd_no, gd_tt, gd_tf, gd_ft, gd_ff, alenS_s, alen_sl, alen_ns, abin_add, abin_sub, abin_mul, abin_eql, abin_neq, abin_lss, abin_leq, abin_gtr, abin_geq, abin_seql, abin_sneq, abin_slss, aun_not, aun_neg, agn_some, aeqN_nf, aeqN_f, aeqN_np, aeqN_p, anilc_p, aeqB_t, aeqB_f, aconv_i, apick_b, cond_true, cond_false, decide_true, decide_false, Bool.not_true, Bool.not_false, aext_t, ofPart_c, ofPart_a, part?_c, part?_a, cells?_c, cells?_a, tupN_2, tupN_3, Option.map_some, Option.some.injEq, List.getElem?_cons_zero, List.getElem?_cons_succ, not_true_eq_false, not_false_eq_true, quiet_same, bytesI_length, Option.join_some, List.append_assoc, List.cons_append, List.nil_append, List.length_append, List.length_cons, List.length_nil, Nat.zero_add, Nat.add_zero, rd_at, rd_at0, set_at, set_at0, List.set_cons_zero, List.set_cons_succ, ne_eq, decide_not, quiet_ext, newOk_some, List.cons_prefix_cons, List.nil_prefix, List.drop_succ_cons, List.drop_zero, List.all_cons, List.all_nil, Bool.and_true, true_and, and_true, aloadN_at, aloadN_at0, aload1_at, aload1_at0, astoreN_at, astoreN_at0, astore1_at, astore1_at0, aslA_at, aslA_at0, ldN_all, ld1_row, stN_all, st1_row, slr_all, Nat.reduceAdd, Nat.reduceMul, Nat.reduceLT, c0, eb, hx, wi_add (show a + i < 9223372036854775808 by omega), ea, hE, ho, es, wi_succ (show i + 1 < 9223372036854775808 by omega)]
    exact ih

theorem patch_Lay_eq {x : Cell} {n a : Nat} {data l : List UInt8} {h : Heap} (hv : Has h (.c x) 1 n (encB data)) (hn : 1 ≤ n) (han : a + n ≤ 256) (hl : l.length = 256) :
    S_patch_Lay [.a (encB l), .a [.i .i64 a, x]] h = some (.a (encB (layB l a data)), h) := by
  have hd : data.length = n := by simpa [encB_length] using hv.length
  have key : ∀ N, n < N → ∀ g, Has g (.c x) 1 n (encB data) → ∃ g', R_patch_Lay N [.a (encB l), .a [.i .i64 a, x]] g = some (.a (encB (layB l a data)), g') := by
    intro N hN g hv
    have hz : (List.replicate 256 (Cell.i .u8 0)).length = 256 := List.length_replicate
    have hE : (encB l).length = 256 := by rw [encB_length, hl]
    rw [R_patch_Lay_eq]
    generalize List.replicate 256 (Cell.i .u8 0) = z at *
    have e := patch_Lay_loop hv (l := l) (z := z) (q := N) han hl hz hd n 0 N (by omega) (by omega)
    simp only [List.take_zero, layB_nil] at e
    have hc := patch_Check_ok (hv.more [some ⟨encB l, true⟩, some ⟨[.i .i64 a, x], true⟩, some ⟨z, true⟩]) hn han
    exact ⟨_, by simp only [afAddr_p, List.append_nil, if_true, if_false, bnd_some, mp_some, cnd_t, cnd_f, gd_no, gd_tt, gd_tf, gd_ft, gd_ff, alenS_s, alen_sl, alen_ns, abin_add, abin_sub, abin_mul, abin_eql, abin_neq, abin_lss, abin_leq, abin_gtr, abin_geq, abin_seql, abin_sneq, abin_slss, aun_not, aun_neg, agn_some, aeqN_nf, aeqN_f, aeqN_np, aeqN_p, anilc_p, aeqB_t, aeqB_f, aconv_i, apick_b, cond_true, cond_false, decide_true, decide_false, Bool.not_true, Bool.not_false, aext_t, ofPart_c, ofPart_a, part?_c, part?_a, cells?_c, cells?_a, tupN_2, tupN_3, Option.map_some, Option.some.injEq, List.getElem?_cons_zero, List.getElem?_cons_succ, not_true_eq_false, not_false_eq_true, quiet_same, bytesI_length, Option.join_some, List.append_assoc, List.cons_append, List.nil_append, List.length_append, List.length_cons, List.length_nil, Nat.zero_add, Nat.add_zero, rd_at, rd_at0, set_at, set_at0, List.set_cons_zero, List.set_cons_succ, ne_eq, decide_not, quiet_ext, newOk_some, List.cons_prefix_cons, List.nil_prefix, List.drop_succ_cons, List.drop_zero, List.all_cons, List.all_nil, Bool.and_true, true_and, and_true, aloadN_at, aloadN_at0, aload1_at, aload1_at0, astoreN_at, astoreN_at0, astore1_at, astore1_at0, aslA_at, aslA_at0, ldN_all, ld1_row, stN_all, st1_row, slr_all, Nat.reduceAdd, Nat.reduceMul, Nat.reduceLT, hE, hz, hc, hv.len]; exact e⟩
  obtain ⟨g', e⟩ := key (n + 1) (by omega) (ro h) hv.ro
  exact S_patch_Lay_flat e (by simp)

end Go.Proofs.Ytbbkpmbepljhkaa
