/- The document's block with an inode in a place. -/
import Derived.Test.YtbbkpmbepljhkaaSInode
import Derived.Test.YtbbkpmbepljhkaaSRef16
import Derived.Test.YtbbkpmbepljhkaaGEscheatref17
set_option linter.all false
namespace Go.Proofs.Ytbbkpmbepljhkaa
open Go Go.Esc

theorem low_part {h : Heap} {x : Cell} {sz n : Nat} {cs : List Cell} {e : Int} (hv : Has h (.c x) sz n cs) : (Val.t [.c x, .c (.i .i64 e)]).low h.length = true := by
  rcases hv with ⟨ex, _⟩ | ⟨id, off, r, ex, hr, _⟩
  · cases ex; rfl
  · cases ex
    simp [Val.low, Cell.low, Cell.flat, rd_lt hr]

theorem ref17_With_range {x : Cell} {n : Nat} {j : Int} {cs bs : List Cell} {h : Heap} (hv : Has h (.c x) 1 n bs) (hj : j < 0 ∨ 8 ≤ j) :
    S_escheatref17_With [.c x, .c (.i .i64 j), .a cs] h = some (.t [.c x, .c (.i .i64 2)], h) := by
  have key : ∀ g, ∃ g', R_escheatref17_With 0 [.c x, .c (.i .i64 j), .a cs] g = some (.t [.c x, .c (.i .i64 2)], g') := by
    intro g
    rw [R_escheatref17_With_eq]
    by_cases c1 : j < 0
    · exact ⟨_, by simp only [afAddr_p, List.append_nil, if_true, if_false, bnd_some, mp_some, cnd_t, cnd_f, gd_no, gd_tt, gd_tf, gd_ft, gd_ff, alenS_s, alen_sl, alen_ns, abin_add, abin_sub, abin_mul, abin_eql, abin_neq, abin_lss, abin_leq, abin_gtr, abin_geq, abin_seql, abin_sneq, abin_slss, aun_not, aun_neg, aeqB_t, aeqB_f, aconv_i, apick_b, cond_true, cond_false, decide_true, decide_false, Bool.not_true, Bool.not_false, aext_t, ofPart_c, ofPart_a, part?_c, part?_a, cells?_c, cells?_a, tupN_2, tupN_3, Option.map_some, Option.some.injEq, List.getElem?_cons_zero, List.getElem?_cons_succ, not_true_eq_false, not_false_eq_true, quiet_same, bytesI_length, Option.join_some, List.append_assoc, List.cons_append, List.nil_append, List.length_append, List.length_cons, List.length_nil, Nat.zero_add, Nat.add_zero, rd_at, rd_at0, set_at, set_at0, List.set_cons_zero, List.set_cons_succ, ne_eq, decide_not, quiet_ext, newOk_some, List.cons_prefix_cons, List.nil_prefix, List.drop_succ_cons, List.drop_zero, List.all_cons, List.all_nil, Bool.and_true, true_and, and_true, aloadN_at, aloadN_at0, aload1_at, aload1_at0, astoreN_at, astoreN_at0, astore1_at, astore1_at0, aslA_at, aslA_at0, ldN_all, ld1_row, stN_all, st1_row, slr_all, Nat.reduceAdd, Nat.reduceMul, Nat.reduceLT, c1] <;> rfl⟩
    · have c2 : 7 < j := by omega
      exact ⟨_, by simp only [afAddr_p, List.append_nil, if_true, if_false, bnd_some, mp_some, cnd_t, cnd_f, gd_no, gd_tt, gd_tf, gd_ft, gd_ff, alenS_s, alen_sl, alen_ns, abin_add, abin_sub, abin_mul, abin_eql, abin_neq, abin_lss, abin_leq, abin_gtr, abin_geq, abin_seql, abin_sneq, abin_slss, aun_not, aun_neg, aeqB_t, aeqB_f, aconv_i, apick_b, cond_true, cond_false, decide_true, decide_false, Bool.not_true, Bool.not_false, aext_t, ofPart_c, ofPart_a, part?_c, part?_a, cells?_c, cells?_a, tupN_2, tupN_3, Option.map_some, Option.some.injEq, List.getElem?_cons_zero, List.getElem?_cons_succ, not_true_eq_false, not_false_eq_true, quiet_same, bytesI_length, Option.join_some, List.append_assoc, List.cons_append, List.nil_append, List.length_append, List.length_cons, List.length_nil, Nat.zero_add, Nat.add_zero, rd_at, rd_at0, set_at, set_at0, List.set_cons_zero, List.set_cons_succ, ne_eq, decide_not, quiet_ext, newOk_some, List.cons_prefix_cons, List.nil_prefix, List.drop_succ_cons, List.drop_zero, List.all_cons, List.all_nil, Bool.and_true, true_and, and_true, aloadN_at, aloadN_at0, aload1_at, aload1_at0, astoreN_at, astoreN_at0, astore1_at, astore1_at0, aslA_at, aslA_at0, ldN_all, ld1_row, stN_all, st1_row, slr_all, Nat.reduceAdd, Nat.reduceMul, Nat.reduceLT, c1, c2] <;> rfl⟩
  obtain ⟨g', e⟩ := key (ro h)
  exact S_escheatref17_With_low e (low_part hv)

theorem ref17_With_may {x : Cell} {n : Nat} {j k l s p : Int} {d : List Int} {bs : List Cell} {h : Heap} (hv : Has h (.c x) 1 n bs) (hd : d.length = 7) (h0 : 0 ≤ j) (h8 : j < 8) (c : mayI k l s p d = false) :
    S_escheatref17_With [.c x, .c (.i .i64 j), .a (inoC k l s p d)] h = some (.t [.c x, .c (.i .i64 1)], h) := by
  have key : ∀ g, ∃ g', R_escheatref17_With 0 [.c x, .c (.i .i64 j), .a (inoC k l s p d)] g = some (.t [.c x, .c (.i .i64 1)], g') := by
    intro g
    have c1 : ¬ j < 0 := by omega
    have c2 : ¬ 7 < j := by omega
    have hE : (encI d).length = 7 := by rw [encI_length, hd]
    have hM := fun h => ref16_May_eq (k := k) (l := l) (s := s) (p := p) (h := h) hd
    simp only [c] at hM
    rw [R_escheatref17_With_eq]
    exact ⟨_, by simp only [afAddr_p, List.append_nil, if_true, if_false, bnd_some, mp_some, cnd_t, cnd_f, gd_no, gd_tt, gd_tf, gd_ft, gd_ff, alenS_s, alen_sl, alen_ns, abin_add, abin_sub, abin_mul, abin_eql, abin_neq, abin_lss, abin_leq, abin_gtr, abin_geq, abin_seql, abin_sneq, abin_slss, aun_not, aun_neg, aeqB_t, aeqB_f, aconv_i, apick_b, cond_true, cond_false, decide_true, decide_false, Bool.not_true, Bool.not_false, aext_t, ofPart_c, ofPart_a, part?_c, part?_a, cells?_c, cells?_a, tupN_2, tupN_3, Option.map_some, Option.some.injEq, List.getElem?_cons_zero, List.getElem?_cons_succ, not_true_eq_false, not_false_eq_true, quiet_same, bytesI_length, Option.join_some, List.append_assoc, List.cons_append, List.nil_append, List.length_append, List.length_cons, List.length_nil, Nat.zero_add, Nat.add_zero, rd_at, rd_at0, set_at, set_at0, List.set_cons_zero, List.set_cons_succ, ne_eq, decide_not, quiet_ext, newOk_some, List.cons_prefix_cons, List.nil_prefix, List.drop_succ_cons, List.drop_zero, List.all_cons, List.all_nil, Bool.and_true, true_and, and_true, aloadN_at, aloadN_at0, aload1_at, aload1_at0, astoreN_at, astoreN_at0, astore1_at, astore1_at0, aslA_at, aslA_at0, ldN_all, ld1_row, stN_all, st1_row, slr_all, Nat.reduceAdd, Nat.reduceMul, Nat.reduceLT, c1, c2, hE, hM] <;> rfl⟩
  obtain ⟨g', e⟩ := key (ro h)
  exact S_escheatref17_With_low e (low_part hv)

theorem ref17_With_ok {x : Cell} {n j : Nat} {k l s p : Int} {d : List Int} {b : List UInt8} {h : Heap} (hv : Has h (.c x) 1 n (encB b)) (hb : b.length = 256) (hd : d.length = 7) (h8 : j < 8) (c : mayI k l s p d = true) :
    S_escheatref17_With [.c x, .c (.i .i64 j), .a (inoC k l s p d)] h = some (.t [.c (.sl h.length 0 256 1), .c (.i .i64 0)], h ++ [some ⟨encB (layB b (32 * j) (inoB k l s p d)), true⟩]) := by
  have key : ∀ g, Has g (.c x) 1 n (encB b) → ∃ g', R_escheatref17_With 0 [.c x, .c (.i .i64 j), .a (inoC k l s p d)] g = some (.t [.c (.sl (g.length + 3) 0 256 1), .c (.i .i64 0)], g') ∧ rd g' (g.length + 3) = some ⟨encB (layB b (32 * j) (inoB k l s p d)), true⟩ := by
    intro g hv
    have c1 : ¬ (j : Int) < 0 := by omega
    have c2 : ¬ (7 : Int) < j := by omega
    have hE : (encI d).length = 7 := by rw [encI_length, hd]
    have hM := fun h => ref16_May_eq (k := k) (l := l) (s := s) (p := p) (h := h) hd
    simp only [c] at hM
    have hI : (inoB k l s p d).length = 32 := inoB_length hd
    have w1 : IntKind.wrap .i64 (32 * (j : Int)) = ((32 * j : Nat) : Int) := by rw [wrap_i64 (by omega) (by omega)]; omega
    have hP := fun h => ref16_Put_eq (k := k) (l := l) (s := s) (p := p) (h := h) hd
    have hL := ref01_Lay_eq (h := g ++ [some (Row.mk (inoC k l s p d) true), some (Row.mk [] true), some (Row.mk (encB (inoB k l s p d)) true)]) (v := .c x) (nv := n) (l := b) (u := .c (.sl (g.length + 2) 0 32 1)) (nu := 32) (data := inoB k l s p d) (hv.more _) (Has.tr (by simp) (by rw [encB_length, hI]) (noX_encB _)) (a := ((32 * j : Nat) : Int)) (by omega) (by omega)
    rw [layR_layB (by rw [hI]; omega), hb] at hL
    simp only [afAddr_p, List.append_nil, if_true, if_false, bnd_some, mp_some, cnd_t, cnd_f, gd_no, gd_tt, gd_tf, gd_ft, gd_ff, alenS_s, alen_sl, alen_ns, abin_add, abin_sub, abin_mul, abin_eql, abin_neq, abin_lss, abin_leq, abin_gtr, abin_geq, abin_seql, abin_sneq, abin_slss, aun_not, aun_neg, aeqB_t, aeqB_f, aconv_i, apick_b, cond_true, cond_false, decide_true, decide_false, Bool.not_true, Bool.not_false, aext_t, ofPart_c, ofPart_a, part?_c, part?_a, cells?_c, cells?_a, tupN_2, tupN_3, Option.map_some, Option.some.injEq, List.getElem?_cons_zero, List.getElem?_cons_succ, not_true_eq_false, not_false_eq_true, quiet_same, bytesI_length, Option.join_some, List.append_assoc, List.cons_append, List.nil_append, List.length_append, List.length_cons, List.length_nil, Nat.zero_add, Nat.add_zero, rd_at, rd_at0, set_at, set_at0, List.set_cons_zero, List.set_cons_succ, ne_eq, decide_not, quiet_ext, newOk_some, List.cons_prefix_cons, List.nil_prefix, List.drop_succ_cons, List.drop_zero, List.all_cons, List.all_nil, Bool.and_true, true_and, and_true] at hL
    rw [R_escheatref17_With_eq]
    exact ⟨_, by simp only [afAddr_p, List.append_nil, if_true, if_false, bnd_some, mp_some, cnd_t, cnd_f, gd_no, gd_tt, gd_tf, gd_ft, gd_ff, alenS_s, alen_sl, alen_ns, abin_add, abin_sub, abin_mul, abin_eql, abin_neq, abin_lss, abin_leq, abin_gtr, abin_geq, abin_seql, abin_sneq, abin_slss, aun_not, aun_neg, aeqB_t, aeqB_f, aconv_i, apick_b, cond_true, cond_false, decide_true, decide_false, Bool.not_true, Bool.not_false, aext_t, ofPart_c, ofPart_a, part?_c, part?_a, cells?_c, cells?_a, tupN_2, tupN_3, Option.map_some, Option.some.injEq, List.getElem?_cons_zero, List.getElem?_cons_succ, not_true_eq_false, not_false_eq_true, quiet_same, bytesI_length, Option.join_some, List.append_assoc, List.cons_append, List.nil_append, List.length_append, List.length_cons, List.length_nil, Nat.zero_add, Nat.add_zero, rd_at, rd_at0, set_at, set_at0, List.set_cons_zero, List.set_cons_succ, ne_eq, decide_not, quiet_ext, newOk_some, List.cons_prefix_cons, List.nil_prefix, List.drop_succ_cons, List.drop_zero, List.all_cons, List.all_nil, Bool.and_true, true_and, and_true, aloadN_at, aloadN_at0, aload1_at, aload1_at0, astoreN_at, astoreN_at0, astore1_at, astore1_at0, aslA_at, aslA_at0, ldN_all, ld1_row, stN_all, st1_row, slr_all, Nat.reduceAdd, Nat.reduceMul, Nat.reduceLT, c1, c2, hE, hM, w1, hP, hL] <;> rfl, by simp⟩
  obtain ⟨g', e, hr⟩ := key (ro h) hv.ro
  have hr' := hr
  rw [ro_length] at hr'
  have hf : flats (encB (layB b (32 * j) (inoB k l s p d))) = true := by simp
  have hc1 : canonC g' h.length [] [.sl ((ro h).length + 3) 0 256 1] = some ([.sl h.length 0 256 1], [h.length + 3]) := by
    rw [ro_length]
    simp [canonC, Cell.low, Cell.flat, newRow_of hr' hf]
  have hc2 : canonC g' h.length [h.length + 3] [.i .i64 0] = some ([.i .i64 0], [h.length + 3]) := canonC_flat (by simp)
  have := S_escheatref17_With_tidy e (v2 := .t [.c (.sl h.length 0 256 1), .c (.i .i64 0)]) (ids := [h.length + 3]) (by
    simp only [canonV, canonP, hc1, hc2, Option.bind_some, Option.map_some])
  rw [this]
  simp [hr']

end Go.Proofs.Ytbbkpmbepljhkaa
