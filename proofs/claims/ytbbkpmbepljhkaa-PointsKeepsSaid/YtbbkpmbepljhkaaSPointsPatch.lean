/- A patch of one number of a block, and the document's block of numbers. -/
import Derived.Test.YtbbkpmbepljhkaaSPoints
import Derived.Test.YtbbkpmbepljhkaaSConv
import Derived.Test.YtbbkpmbepljhkaaGEscheatref20
set_option linter.all false
namespace Go.Proofs.Ytbbkpmbepljhkaa
open Go Go.Esc

theorem points_there_out {k : Int} {h : Heap} (hk : k < 0 ∨ 128 ≤ k) : S_points_there [.c (.i .i64 k)] h = some (.c (.b false), h) := by
  have key : ∀ g, ∃ g', R_points_there 0 [.c (.i .i64 k)] g = some (.c (.b false), g') := by
    intro g
    rw [R_points_there_eq]
    by_cases c1 : 0 ≤ k
    · have c2 : ¬ k < 128 := by omega
      exact ⟨_, by simp only [afAddr_p, List.append_nil, if_true, if_false, bnd_some, mp_some, cnd_t, cnd_f, gd_no, gd_tt, gd_tf, gd_ft, gd_ff, alenS_s, alen_sl, alen_ns, abin_add, abin_sub, abin_mul, abin_eql, abin_neq, abin_lss, abin_leq, abin_gtr, abin_geq, abin_seql, abin_sneq, abin_slss, aun_not, aun_neg, agn_some, aeqN_nf, aeqN_f, aeqN_np, aeqN_p, anilc_p, aeqB_t, aeqB_f, aconv_i, apick_b, cond_true, cond_false, decide_true, decide_false, Bool.not_true, Bool.not_false, aext_t, ofPart_c, ofPart_a, part?_c, part?_a, cells?_c, cells?_a, tupN_2, tupN_3, Option.map_some, Option.some.injEq, List.getElem?_cons_zero, List.getElem?_cons_succ, not_true_eq_false, not_false_eq_true, quiet_same, bytesI_length, Option.join_some, List.append_assoc, List.cons_append, List.nil_append, List.length_append, List.length_cons, List.length_nil, Nat.zero_add, Nat.add_zero, rd_at, rd_at0, set_at, set_at0, List.set_cons_zero, List.set_cons_succ, ne_eq, decide_not, quiet_ext, newOk_some, List.cons_prefix_cons, List.nil_prefix, List.drop_succ_cons, List.drop_zero, List.all_cons, List.all_nil, Bool.and_true, true_and, and_true, c1, c2] <;> rfl⟩
    · exact ⟨_, by simp only [afAddr_p, List.append_nil, if_true, if_false, bnd_some, mp_some, cnd_t, cnd_f, gd_no, gd_tt, gd_tf, gd_ft, gd_ff, alenS_s, alen_sl, alen_ns, abin_add, abin_sub, abin_mul, abin_eql, abin_neq, abin_lss, abin_leq, abin_gtr, abin_geq, abin_seql, abin_sneq, abin_slss, aun_not, aun_neg, agn_some, aeqN_nf, aeqN_f, aeqN_np, aeqN_p, anilc_p, aeqB_t, aeqB_f, aconv_i, apick_b, cond_true, cond_false, decide_true, decide_false, Bool.not_true, Bool.not_false, aext_t, ofPart_c, ofPart_a, part?_c, part?_a, cells?_c, cells?_a, tupN_2, tupN_3, Option.map_some, Option.some.injEq, List.getElem?_cons_zero, List.getElem?_cons_succ, not_true_eq_false, not_false_eq_true, quiet_same, bytesI_length, Option.join_some, List.append_assoc, List.cons_append, List.nil_append, List.length_append, List.length_cons, List.length_nil, Nat.zero_add, Nat.add_zero, rd_at, rd_at0, set_at, set_at0, List.set_cons_zero, List.set_cons_succ, ne_eq, decide_not, quiet_ext, newOk_some, List.cons_prefix_cons, List.nil_prefix, List.drop_succ_cons, List.drop_zero, List.all_cons, List.all_nil, Bool.and_true, true_and, and_true, c1] <;> rfl⟩
  obtain ⟨g', e⟩ := key (ro h)
  exact S_points_there_flat e rfl

theorem afill_pat0' : afill [Cell.i .i64 0, .ns] [] = some [.i .i64 0, .ns] := rfl

theorem points_Patch_range {k no : Int} {h : Heap} (hk : k < 0 ∨ 128 ≤ k) : S_points_Patch [.c (.i .i64 k), .c (.i .i64 no)] h = some (.t [.a [.i .i64 0, .ns], .c (.i .i64 2)], h) := by
  have key : ∀ g, ∃ g', R_points_Patch 0 [.c (.i .i64 k), .c (.i .i64 no)] g = some (.t [.a [.i .i64 0, .ns], .c (.i .i64 2)], g') := by
    intro g
    have hT := fun h => points_there_out (h := h) hk
    rw [R_points_Patch_eq]
    exact ⟨_, by simp only [afAddr_p, List.append_nil, if_true, if_false, bnd_some, mp_some, cnd_t, cnd_f, gd_no, gd_tt, gd_tf, gd_ft, gd_ff, alenS_s, alen_sl, alen_ns, abin_add, abin_sub, abin_mul, abin_eql, abin_neq, abin_lss, abin_leq, abin_gtr, abin_geq, abin_seql, abin_sneq, abin_slss, aun_not, aun_neg, agn_some, aeqN_nf, aeqN_f, aeqN_np, aeqN_p, anilc_p, aeqB_t, aeqB_f, aconv_i, apick_b, cond_true, cond_false, decide_true, decide_false, Bool.not_true, Bool.not_false, aext_t, ofPart_c, ofPart_a, part?_c, part?_a, cells?_c, cells?_a, tupN_2, tupN_3, Option.map_some, Option.some.injEq, List.getElem?_cons_zero, List.getElem?_cons_succ, not_true_eq_false, not_false_eq_true, quiet_same, bytesI_length, Option.join_some, List.append_assoc, List.cons_append, List.nil_append, List.length_append, List.length_cons, List.length_nil, Nat.zero_add, Nat.add_zero, rd_at, rd_at0, set_at, set_at0, List.set_cons_zero, List.set_cons_succ, ne_eq, decide_not, quiet_ext, newOk_some, List.cons_prefix_cons, List.nil_prefix, List.drop_succ_cons, List.drop_zero, List.all_cons, List.all_nil, Bool.and_true, true_and, and_true, aloadN_at, aloadN_at0, aload1_at, aload1_at0, astoreN_at, astoreN_at0, astore1_at, astore1_at0, aslA_at, aslA_at0, ldN_all, ld1_row, stN_all, st1_row, slr_all, Nat.reduceAdd, Nat.reduceMul, Nat.reduceLT, hT, afill_pat0'] <;> rfl⟩
  obtain ⟨g', e⟩ := key (ro h)
  exact S_points_Patch_flat e rfl

theorem points_Patch_fine {k : Nat} {no : Int} {h : Heap} (hk : k < 128) (hf : fineP no = false) : S_points_Patch [.c (.i .i64 k), .c (.i .i64 no)] h = some (.t [.a [.i .i64 0, .ns], .c (.i .i64 1)], h) := by
  have key : ∀ g, ∃ g', R_points_Patch 0 [.c (.i .i64 k), .c (.i .i64 no)] g = some (.t [.a [.i .i64 0, .ns], .c (.i .i64 1)], g') := by
    intro g
    have hT := fun h => points_there_in (h := h) hk
    have hF := fun h => points_fine_eq (n := no) (h := h)
    rw [hf] at hF
    rw [R_points_Patch_eq]
    exact ⟨_, by simp only [afAddr_p, List.append_nil, if_true, if_false, bnd_some, mp_some, cnd_t, cnd_f, gd_no, gd_tt, gd_tf, gd_ft, gd_ff, alenS_s, alen_sl, alen_ns, abin_add, abin_sub, abin_mul, abin_eql, abin_neq, abin_lss, abin_leq, abin_gtr, abin_geq, abin_seql, abin_sneq, abin_slss, aun_not, aun_neg, agn_some, aeqN_nf, aeqN_f, aeqN_np, aeqN_p, anilc_p, aeqB_t, aeqB_f, aconv_i, apick_b, cond_true, cond_false, decide_true, decide_false, Bool.not_true, Bool.not_false, aext_t, ofPart_c, ofPart_a, part?_c, part?_a, cells?_c, cells?_a, tupN_2, tupN_3, Option.map_some, Option.some.injEq, List.getElem?_cons_zero, List.getElem?_cons_succ, not_true_eq_false, not_false_eq_true, quiet_same, bytesI_length, Option.join_some, List.append_assoc, List.cons_append, List.nil_append, List.length_append, List.length_cons, List.length_nil, Nat.zero_add, Nat.add_zero, rd_at, rd_at0, set_at, set_at0, List.set_cons_zero, List.set_cons_succ, ne_eq, decide_not, quiet_ext, newOk_some, List.cons_prefix_cons, List.nil_prefix, List.drop_succ_cons, List.drop_zero, List.all_cons, List.all_nil, Bool.and_true, true_and, and_true, aloadN_at, aloadN_at0, aload1_at, aload1_at0, astoreN_at, astoreN_at0, astore1_at, astore1_at0, aslA_at, aslA_at0, ldN_all, ld1_row, stN_all, st1_row, slr_all, Nat.reduceAdd, Nat.reduceMul, Nat.reduceLT, hT, hF, afill_pat0'] <;> rfl⟩
  obtain ⟨g', e⟩ := key (ro h)
  exact S_points_Patch_flat e rfl

theorem wrap_u8_mod {a : Int} : IntKind.wrap .u8 a = a % 256 := by
  simp only [IntKind.wrap, IntKind.bits, IntKind.signed, Bool.false_and]
  rfl

theorem points_Patch_ok {k : Nat} {no : Int} {h : Heap} (hk : k < 128) (hf : fineP no = true) :
    S_points_Patch [.c (.i .i64 k), .c (.i .i64 no)] h = some (.t [.a [.i .i64 ((2 * k : Nat) : Int), .sl h.length 0 2 1], .c (.i .i64 0)], h ++ [some ⟨encB (bytesI 2 no), true⟩]) := by
  have key : ∀ g, ∃ g', R_points_Patch 0 [.c (.i .i64 k), .c (.i .i64 no)] g = some (.t [.a [.i .i64 ((2 * k : Nat) : Int), .sl (g.length + 1) 0 2 1], .c (.i .i64 0)], g') ∧ rd g' (g.length + 1) = some ⟨encB (bytesI 2 no), true⟩ := by
    intro g
    have hT := fun h => points_there_in (h := h) hk
    have hF := fun h => points_fine_eq (n := no) (h := h)
    rw [hf] at hF
    have e4 : abin .shr (.c (.i .i64 no)) (.c (.i .u64 8)) = some (.c (.i .i64 (no / 256))) := abin_shr (by omega)
    have b0 : IntKind.wrap .u8 no = ((byI no 0).toNat : Int) := by rw [wrap_u8_mod, byI_int]; simp
    have b1 : IntKind.wrap .u8 (no / 256) = ((byI no 1).toNat : Int) := by rw [wrap_u8_mod, byI_int]; simp
    have ef : ∀ x y : Cell, afill [Cell.i .u8 0, .i .u8 0] [(0, 1, .c x), (1, 1, .c y)] = some [x, y] := fun _ _ => rfl
    have eb : [Cell.i .u8 (byI no 0).toNat, .i .u8 (byI no 1).toNat] = encB (bytesI 2 no) := rfl
    have ep : ∀ (a : Int) (x : Cell), afill [Cell.i .i64 0, .ns] [(0, 1, .c (.i .i64 a)), (1, 1, .c x)] = some [.i .i64 a, x] := fun _ _ => rfl
    rw [R_points_Patch_eq]
    exact ⟨_, by simp only [afAddr_p, List.append_nil, if_true, if_false, bnd_some, mp_some, cnd_t, cnd_f, gd_no, gd_tt, gd_tf, gd_ft, gd_ff, alenS_s, alen_sl, alen_ns, abin_add, abin_sub, abin_mul, abin_eql, abin_neq, abin_lss, abin_leq, abin_gtr, abin_geq, abin_seql, abin_sneq, abin_slss, aun_not, aun_neg, agn_some, aeqN_nf, aeqN_f, aeqN_np, aeqN_p, anilc_p, aeqB_t, aeqB_f, aconv_i, apick_b, cond_true, cond_false, decide_true, decide_false, Bool.not_true, Bool.not_false, aext_t, ofPart_c, ofPart_a, part?_c, part?_a, cells?_c, cells?_a, tupN_2, tupN_3, Option.map_some, Option.some.injEq, List.getElem?_cons_zero, List.getElem?_cons_succ, not_true_eq_false, not_false_eq_true, quiet_same, bytesI_length, Option.join_some, List.append_assoc, List.cons_append, List.nil_append, List.length_append, List.length_cons, List.length_nil, Nat.zero_add, Nat.add_zero, rd_at, rd_at0, set_at, set_at0, List.set_cons_zero, List.set_cons_succ, ne_eq, decide_not, quiet_ext, newOk_some, List.cons_prefix_cons, List.nil_prefix, List.drop_succ_cons, List.drop_zero, List.all_cons, List.all_nil, Bool.and_true, true_and, and_true, aloadN_at, aloadN_at0, aload1_at, aload1_at0, astoreN_at, astoreN_at0, astore1_at, astore1_at0, aslA_at, aslA_at0, ldN_all, ld1_row, stN_all, st1_row, slr_all, Nat.reduceAdd, Nat.reduceMul, Nat.reduceLT, hT, hF, wi_two hk, e4, b0, b1, ef, eb, ep] <;> rfl, by simp⟩
  obtain ⟨g', e, hr⟩ := key (ro h)
  have hr' := hr
  rw [ro_length] at hr'
  have hff : flats (encB (bytesI 2 no)) = true := by simp
  have hc1 : canonC g' h.length [] [.i .i64 ((2 * k : Nat) : Int), .sl ((ro h).length + 1) 0 2 1] = some ([.i .i64 ((2 * k : Nat) : Int), .sl h.length 0 2 1], [h.length + 1]) := by
    rw [ro_length]
    simp [canonC, Cell.low, Cell.flat, newRow_of hr' hff]
  have hc2 : canonC g' h.length [h.length + 1] [.i .i64 0] = some ([.i .i64 0], [h.length + 1]) := canonC_flat (by simp)
  have := S_points_Patch_tidy e (v2 := .t [.a [.i .i64 ((2 * k : Nat) : Int), .sl h.length 0 2 1], .c (.i .i64 0)]) (ids := [h.length + 1]) (by
    simp only [canonV, canonP, hc1, hc2, Option.bind_some, Option.map_some])
  rw [this]
  simp [hr']

theorem points_Make_big {v : Val} {nv : Nat} {cs : List Cell} {h : Heap} (hv : Has h v 1 nv cs) (hl : 128 < nv) :
    S_points_Make [v] h = some (.t [.a (encB (zeros 256)), .c (.i .i64 2)], h) := by
  have key : ∀ g, Has g v 1 nv cs → ∃ g', R_points_Make 0 [v] g = some (.t [.a (encB (zeros 256)), .c (.i .i64 2)], g') := by
    intro g hv
    have c0 : (128 : Int) < nv := by omega
    have hz : (encB (zeros 256)).length = 256 := by rw [encB_length]; exact zeros_length
    rw [R_points_Make_eq, zeros_enc]
    generalize zeros 256 = z at *
    exact ⟨_, by simp only [afAddr_p, List.append_nil, if_true, if_false, bnd_some, mp_some, cnd_t, cnd_f, gd_no, gd_tt, gd_tf, gd_ft, gd_ff, alenS_s, alen_sl, alen_ns, abin_add, abin_sub, abin_mul, abin_eql, abin_neq, abin_lss, abin_leq, abin_gtr, abin_geq, abin_seql, abin_sneq, abin_slss, aun_not, aun_neg, agn_some, aeqN_nf, aeqN_f, aeqN_np, aeqN_p, anilc_p, aeqB_t, aeqB_f, aconv_i, apick_b, cond_true, cond_false, decide_true, decide_false, Bool.not_true, Bool.not_false, aext_t, ofPart_c, ofPart_a, part?_c, part?_a, cells?_c, cells?_a, tupN_2, tupN_3, Option.map_some, Option.some.injEq, List.getElem?_cons_zero, List.getElem?_cons_succ, not_true_eq_false, not_false_eq_true, quiet_same, bytesI_length, Option.join_some, List.append_assoc, List.cons_append, List.nil_append, List.length_append, List.length_cons, List.length_nil, Nat.zero_add, Nat.add_zero, rd_at, rd_at0, set_at, set_at0, List.set_cons_zero, List.set_cons_succ, ne_eq, decide_not, quiet_ext, newOk_some, List.cons_prefix_cons, List.nil_prefix, List.drop_succ_cons, List.drop_zero, List.all_cons, List.all_nil, Bool.and_true, true_and, and_true, aloadN_at, aloadN_at0, aload1_at, aload1_at0, astoreN_at, astoreN_at0, astore1_at, astore1_at0, aslA_at, aslA_at0, ldN_all, ld1_row, stN_all, st1_row, slr_all, Nat.reduceAdd, Nat.reduceMul, Nat.reduceLT, hv.len, c0, hz] <;> rfl⟩
  obtain ⟨g', e⟩ := key (ro h) hv.ro
  exact S_points_Make_flat e (by simp)

/-! ### The document's -/

theorem ref20_Fine_eq {n : Int} {h : Heap} : S_escheatref20_Fine [.c (.i .i64 n)] h = some (.c (.b (fineP n)), h) := by
  refine S_escheatref20_Fine_flat (n := 0) (h2 := ro h) ?_ rfl
  rw [R_escheatref20_Fine_eq]
  unfold fineP
  by_cases c : 0 ≤ n
  · simp only [afAddr_p, List.append_nil, if_true, if_false, bnd_some, mp_some, cnd_t, cnd_f, gd_no, gd_tt, gd_tf, gd_ft, gd_ff, alenS_s, alen_sl, alen_ns, abin_add, abin_sub, abin_mul, abin_eql, abin_neq, abin_lss, abin_leq, abin_gtr, abin_geq, abin_seql, abin_sneq, abin_slss, aun_not, aun_neg, agn_some, aeqN_nf, aeqN_f, aeqN_np, aeqN_p, anilc_p, aeqB_t, aeqB_f, aconv_i, apick_b, cond_true, cond_false, decide_true, decide_false, Bool.not_true, Bool.not_false, aext_t, ofPart_c, ofPart_a, part?_c, part?_a, cells?_c, cells?_a, tupN_2, tupN_3, Option.map_some, Option.some.injEq, List.getElem?_cons_zero, List.getElem?_cons_succ, not_true_eq_false, not_false_eq_true, quiet_same, bytesI_length, Option.join_some, List.append_assoc, List.cons_append, List.nil_append, List.length_append, List.length_cons, List.length_nil, Nat.zero_add, Nat.add_zero, rd_at, rd_at0, set_at, set_at0, List.set_cons_zero, List.set_cons_succ, ne_eq, decide_not, quiet_ext, newOk_some, List.cons_prefix_cons, List.nil_prefix, List.drop_succ_cons, List.drop_zero, List.all_cons, List.all_nil, Bool.and_true, true_and, and_true, c, Bool.true_and]
  · simp only [afAddr_p, List.append_nil, if_true, if_false, bnd_some, mp_some, cnd_t, cnd_f, gd_no, gd_tt, gd_tf, gd_ft, gd_ff, alenS_s, alen_sl, alen_ns, abin_add, abin_sub, abin_mul, abin_eql, abin_neq, abin_lss, abin_leq, abin_gtr, abin_geq, abin_seql, abin_sneq, abin_slss, aun_not, aun_neg, agn_some, aeqN_nf, aeqN_f, aeqN_np, aeqN_p, anilc_p, aeqB_t, aeqB_f, aconv_i, apick_b, cond_true, cond_false, decide_true, decide_false, Bool.not_true, Bool.not_false, aext_t, ofPart_c, ofPart_a, part?_c, part?_a, cells?_c, cells?_a, tupN_2, tupN_3, Option.map_some, Option.some.injEq, List.getElem?_cons_zero, List.getElem?_cons_succ, not_true_eq_false, not_false_eq_true, quiet_same, bytesI_length, Option.join_some, List.append_assoc, List.cons_append, List.nil_append, List.length_append, List.length_cons, List.length_nil, Nat.zero_add, Nat.add_zero, rd_at, rd_at0, set_at, set_at0, List.set_cons_zero, List.set_cons_succ, ne_eq, decide_not, quiet_ext, newOk_some, List.cons_prefix_cons, List.nil_prefix, List.drop_succ_cons, List.drop_zero, List.all_cons, List.all_nil, Bool.and_true, true_and, and_true, c, Bool.false_and]

theorem block_loop {v : Val} {nv : Nat} {l : List Int} {g : Heap} {q : Nat} (hv : Has g v 1 nv (encI l)) (hn : l.length = nv) (hl : nv ≤ 128) : ∀ (e i m : Nat) (h : Heap) (id : Nat), i + e = nv → e < m → Low g.length g h → g.length ≤ id → rd h id = some ⟨encB (numsB (l.take i)), true⟩ →
    ∃ w h', escheatref20_Block_l0 q m v (.c (.sl id 0 (2 * i) 1)) (.c (.i .i64 i)) h = some (w, h') ∧ Out g.length h' w 1 256 (encB (padB 256 (numsB l)))
  | e, i, 0, h, id, _, hm, _, _, _ => by omega
  | 0, i, m + 1, h, id, hi, hm, hlow, hid, hr => by
    have e0 : i = nv := by omega
    subst e0
    have c0 : ¬ (i : Int) < i := by omega
    have hlen := hv.len
    have mk : amkn (.c (.i .i64 256)) (.c (.i .i64 256)) = some 256 := rfl
    have rz := rows_zero 256
    have zl : (zeros 256).length = 256 := zeros_length
    rw [List.take_of_length_le (by omega)] at hr
    have hnl : (numsB l).length = 2 * i := by rw [numsB_length]; omega
    have hL := ref01_Lay_eq (h := h ++ [some (Row.mk (encB (zeros 256)) true)]) (v := .c (.sl h.length 0 256 1)) (nv := 256) (l := zeros 256) (u := .c (.sl id 0 (2 * i) 1)) (nu := 2 * i) (data := numsB l) (Has.tr (by simp) (by rw [encB_length]; exact zeros_length) (noX_encB _)) (Has.tr (rd_append hr) (by rw [encB_length, hnl]; omega) (noX_encB _)) (a := 0) (by omega) (by omega)
    have eL : layR (zeros 256) 0 (numsB l) = padB 256 (numsB l) := by
      have h1 := layR_layB (l := zeros 256) (xs := numsB l) (a := 0) (by omega)
      have h2 := padB_lay (l := []) (xs := numsB l) (a := 0) (by simp) (by omega)
      rw [show ((0 : Nat) : Int) = 0 from rfl] at h1
      rw [h1, ← padB_nil, h2, List.length_nil, Nat.sub_self, show zeros 0 = [] from rfl, List.append_nil, List.nil_append]
    rw [eL, zl] at hL
    have hp : (encB (padB 256 (numsB l))).length = 256 := by rw [encB_length, padB_length (by omega)]
    rw [escheatref20_Block_l0_eq]
    generalize padB 256 (numsB l) = P at *
    generalize zeros 256 = z at *
    simp only [afAddr_p, List.append_nil, if_true, if_false, bnd_some, mp_some, cnd_t, cnd_f, gd_no, gd_tt, gd_tf, gd_ft, gd_ff, alenS_s, alen_sl, alen_ns, abin_add, abin_sub, abin_mul, abin_eql, abin_neq, abin_lss, abin_leq, abin_gtr, abin_geq, abin_seql, abin_sneq, abin_slss, aun_not, aun_neg, agn_some, aeqN_nf, aeqN_f, aeqN_np, aeqN_p, anilc_p, aeqB_t, aeqB_f, aconv_i, apick_b, cond_true, cond_false, decide_true, decide_false, Bool.not_true, Bool.not_false, aext_t, ofPart_c, ofPart_a, part?_c, part?_a, cells?_c, cells?_a, tupN_2, tupN_3, Option.map_some, Option.some.injEq, List.getElem?_cons_zero, List.getElem?_cons_succ, not_true_eq_false, not_false_eq_true, quiet_same, bytesI_length, Option.join_some, List.append_assoc, List.cons_append, List.nil_append, List.length_append, List.length_cons, List.length_nil, Nat.zero_add, Nat.add_zero, rd_at, rd_at0, set_at, set_at0, List.set_cons_zero, List.set_cons_succ, ne_eq, decide_not, quiet_ext, newOk_some, List.cons_prefix_cons, List.nil_prefix, List.drop_succ_cons, List.drop_zero, List.all_cons, List.all_nil, Bool.and_true, true_and, and_true] at hL
    exact ⟨_, _, by simp only [afAddr_p, List.append_nil, if_true, if_false, bnd_some, mp_some, cnd_t, cnd_f, gd_no, gd_tt, gd_tf, gd_ft, gd_ff, alenS_s, alen_sl, alen_ns, abin_add, abin_sub, abin_mul, abin_eql, abin_neq, abin_lss, abin_leq, abin_gtr, abin_geq, abin_seql, abin_sneq, abin_slss, aun_not, aun_neg, agn_some, aeqN_nf, aeqN_f, aeqN_np, aeqN_p, anilc_p, aeqB_t, aeqB_f, aconv_i, apick_b, cond_true, cond_false, decide_true, decide_false, Bool.not_true, Bool.not_false, aext_t, ofPart_c, ofPart_a, part?_c, part?_a, cells?_c, cells?_a, tupN_2, tupN_3, Option.map_some, Option.some.injEq, List.getElem?_cons_zero, List.getElem?_cons_succ, not_true_eq_false, not_false_eq_true, quiet_same, bytesI_length, Option.join_some, List.append_assoc, List.cons_append, List.nil_append, List.length_append, List.length_cons, List.length_nil, Nat.zero_add, Nat.add_zero, rd_at, rd_at0, set_at, set_at0, List.set_cons_zero, List.set_cons_succ, ne_eq, decide_not, quiet_ext, newOk_some, List.cons_prefix_cons, List.nil_prefix, List.drop_succ_cons, List.drop_zero, List.all_cons, List.all_nil, Bool.and_true, true_and, and_true, aloadN_at, aloadN_at0, aload1_at, aload1_at0, astoreN_at, astoreN_at0, astore1_at, astore1_at0, aslA_at, aslA_at0, ldN_all, ld1_row, stN_all, st1_row, slr_all, Nat.reduceAdd, Nat.reduceMul, Nat.reduceLT, hlen, c0, mk, rz, hL] <;> rfl, by omega, _, rfl, by have := hlow.2.1; omega, by simp⟩
  | e + 1, i, m + 1, h, id, hi, hm, hlow, hid, hr => by
    obtain ⟨jd, off, ev, hjd, h1, h2⟩ := (hv.since hlow).sl (by omega)
    have hlen := hv.len
    have c0 : (i : Int) < nv := by omega
    have hx := h1 i (.i .i64 l[i]) (by rw [encI_get, List.getElem?_eq_getElem (by omega)]; rfl)
    have eb : aiAddrL 1 v (.c (.i .i64 (i : Int))) = some (.c (.p jd (off + i))) := by rw [ev, iAddrL_of (by omega)]; simp
    have hb := fun h => bytes_conv (w := 2) (v := l[i]) (h := h) (by omega)
    have hnl : (numsB (l.take i)).length = 2 * i := by rw [numsB_length, List.length_take]; omega
    obtain ⟨h1', a1, a2, a3, a4, a5⟩ := pushN (ys := encB (bytesI 2 l[i])) (m := 2) (sz := 1) (n := 2 * i) hlow hr (by rw [encB_length, hnl]; omega) hid (by simp [encB_length]) (by omega) (by omega)
    rw [← encB_append, ← numsB_snoc, ← List.take_succ_eq_append_getElem (by omega)] at a2
    obtain ⟨w, h', f1, f2⟩ := block_loop (q := q) hv hn hl e (i + 1) m h1' (h.length + 1) (by omega) (by omega) a3 a4 a2
    rw [show 2 * (i + 1) = 2 * i + 2 by omega] at f1
    simp only [Int.cast_ofNat_Int] at hb
    rw [escheatref20_Block_l0_eq]
    refine ⟨w, h', ?_, f2⟩
    simp only [afAddr_p, List.append_nil, if_true, if_false, bnd_some, mp_some, cnd_t, cnd_f, gd_no, gd_tt, gd_tf, gd_ft, gd_ff, alenS_s, alen_sl, alen_ns, abin_add, abin_sub, abin_mul, abin_eql, abin_neq, abin_lss, abin_leq, abin_gtr, abin_geq, abin_seql, abin_sneq, abin_slss, aun_not, aun_neg, agn_some, aeqN_nf, aeqN_f, aeqN_np, aeqN_p, anilc_p, aeqB_t, aeqB_f, aconv_i, apick_b, cond_true, cond_false, decide_true, decide_false, Bool.not_true, Bool.not_false, aext_t, ofPart_c, ofPart_a, part?_c, part?_a, cells?_c, cells?_a, tupN_2, tupN_3, Option.map_some, Option.some.injEq, List.getElem?_cons_zero, List.getElem?_cons_succ, not_true_eq_false, not_false_eq_true, quiet_same, bytesI_length, Option.join_some, List.append_assoc, List.cons_append, List.nil_append, List.length_append, List.length_cons, List.length_nil, Nat.zero_add, Nat.add_zero, rd_at, rd_at0, set_at, set_at0, List.set_cons_zero, List.set_cons_succ, ne_eq, decide_not, quiet_ext, newOk_some, List.cons_prefix_cons, List.nil_prefix, List.drop_succ_cons, List.drop_zero, List.all_cons, List.all_nil, Bool.and_true, true_and, and_true, hlen, c0, eb, hx, hb, a1, wi_succ (show i + 1 < 9223372036854775808 by omega)]
    exact f1

theorem ref20_Block_eq {v : Val} {nv : Nat} {l : List Int} {h : Heap} (hv : Has h v 1 nv (encI l)) (hl : nv ≤ 128) : S_escheatref20_Block [v] h = some (.c (.sl h.length 0 256 1), h ++ [some ⟨encB (padB 256 (numsB l)), true⟩]) := by
  have hn : l.length = nv := by simpa [encI_length] using hv.length
  have key : ∀ N, nv < N → ∀ g, Has g v 1 nv (encI l) → ∃ w g', R_escheatref20_Block N [v] g = some (w, g') ∧ Out g.length g' w 1 256 (encB (padB 256 (numsB l))) := by
    intro N hN g hv
    obtain ⟨w, g', f1, f2⟩ := block_loop (g := g) (q := N) hv hn hl nv 0 N (g ++ [some ⟨[], true⟩, some ⟨[], true⟩]) (g.length + 1) (by omega) (by omega) ((Low.refl (Nat.le_refl _)).new _) (by omega) (by simp [numsB, encB])
    rw [R_escheatref20_Block_eq]
    exact ⟨w, g', by simp only [afAddr_p, List.append_nil, if_true, if_false, bnd_some, mp_some, cnd_t, cnd_f, gd_no, gd_tt, gd_tf, gd_ft, gd_ff, alenS_s, alen_sl, alen_ns, abin_add, abin_sub, abin_mul, abin_eql, abin_neq, abin_lss, abin_leq, abin_gtr, abin_geq, abin_seql, abin_sneq, abin_slss, aun_not, aun_neg, agn_some, aeqN_nf, aeqN_f, aeqN_np, aeqN_p, anilc_p, aeqB_t, aeqB_f, aconv_i, apick_b, cond_true, cond_false, decide_true, decide_false, Bool.not_true, Bool.not_false, aext_t, ofPart_c, ofPart_a, part?_c, part?_a, cells?_c, cells?_a, tupN_2, tupN_3, Option.map_some, Option.some.injEq, List.getElem?_cons_zero, List.getElem?_cons_succ, not_true_eq_false, not_false_eq_true, quiet_same, bytesI_length, Option.join_some, List.append_assoc, List.cons_append, List.nil_append, List.length_append, List.length_cons, List.length_nil, Nat.zero_add, Nat.add_zero, rd_at, rd_at0, set_at, set_at0, List.set_cons_zero, List.set_cons_succ, ne_eq, decide_not, quiet_ext, newOk_some, List.cons_prefix_cons, List.nil_prefix, List.drop_succ_cons, List.drop_zero, List.all_cons, List.all_nil, Bool.and_true, true_and, and_true, aloadN_at, aloadN_at0, aload1_at, aload1_at0, astoreN_at, astoreN_at0, astore1_at, astore1_at0, aslA_at, aslA_at0, ldN_all, ld1_row, stN_all, st1_row, slr_all, Nat.reduceAdd, Nat.reduceMul, Nat.reduceLT]; exact f1, f2⟩
  obtain ⟨w, g', e, ho⟩ := key (nv + 1) (by omega) (ro h) hv.ro
  exact S_escheatref20_Block_out e (by simpa [ro_length] using ho) (by simp)

end Go.Proofs.Ytbbkpmbepljhkaa
