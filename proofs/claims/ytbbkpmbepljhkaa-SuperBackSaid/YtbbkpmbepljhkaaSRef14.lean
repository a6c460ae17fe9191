/- The document's first block is made. -/
import Derived.Test.YtbbkpmbepljhkaaSSuper
set_option linter.all false
namespace Go.Proofs.Ytbbkpmbepljhkaa
open Go Go.Esc

/-! ### The document's answer -/

theorem ref14_Put_eq {b n m : Int} {h : Heap} (hm0 : 0 ≤ m) (hm1 : m < 18446744073709551616) : S_escheatref14_Put [.a (layC b n m)] h = some (.c (.sl h.length 0 256 1), h ++ [some ⟨encB (supB b n m), true⟩]) := by
  have key : ∀ g, ∃ v g', R_escheatref14_Put 0 [.a (layC b n m)] g = some (v, g') ∧ Out g.length g' v 1 256 (encB (supB b n m)) := by
    intro g
    have e7 : afill [Cell.i .u8 0, .i .u8 0, .i .u8 0, .i .u8 0, .i .u8 0, .i .u8 0, .i .u8 0, .i .u8 0] [(0, 1, .c (.i .u8 101)), (1, 1, .c (.i .u8 115)), (2, 1, .c (.i .u8 99)), (3, 1, .c (.i .u8 104)), (4, 1, .c (.i .u8 101)), (5, 1, .c (.i .u8 97)), (6, 1, .c (.i .u8 116)), (7, 1, .c (.i .u8 49))] = some (encB magicB) := rfl
    have lm : magicB.length = 8 := rfl
    obtain ⟨c0, hc0⟩ : ∃ c0 : Option Row, c0 = some ⟨layC b n m, true⟩ := ⟨_, rfl⟩
    have hmk := amark_of (h := g ++ [some ⟨layC b n m, true⟩, some ⟨[], true⟩, some ⟨encB magicB, true⟩]) (id := g.length + 2) (off := 0) (len := 8) (sz := 1) (cs := encB magicB) (by simp) (by omega)
    have b1 := fun h => bytes_conv (w := 2) (v := b) (h := h) (by omega)
    have b2 := fun h => bytes_conv (w := 2) (v := n) (h := h) (by omega)
    have b3 := fun h => ref01_Bytes_eq (w := 8) (v := m) (h := h) (by omega) hm0 hm1
    have hmlt := mixH_lt (s := supH b n m)
    have b4 := fun h => ref01_Bytes_eq (w := 4) (v := (mixH (supH b n m) : Nat)) (h := h) (by omega) (by omega) (by omega)
    have p1 := app_of (h := g ++ [some ⟨layC b n m, true⟩, some ⟨[], true⟩, some ⟨encB magicB, true⟩, some ⟨encB (bytesI 2 b), true⟩]) (id := g.length + 2) (jd := g.length + 3) (n := 8) (m := 2) (sz := 1) (cs := encB magicB) (ys := encB (bytesI 2 b)) (rw := true) (by simp) (by simp [encB_length, lm]) (by simp) (by simp [encB_length]) rfl (by omega) (by omega)
    have p2 := app_of (h := g ++ [some ⟨layC b n m, true⟩, some ⟨[], true⟩, none, some ⟨encB (bytesI 2 b), true⟩, some ⟨encB magicB ++ encB (bytesI 2 b), true⟩, some ⟨encB (bytesI 2 n), true⟩]) (id := g.length + 4) (jd := g.length + 5) (n := 10) (m := 2) (sz := 1) (cs := encB magicB ++ encB (bytesI 2 b)) (ys := encB (bytesI 2 n)) (rw := true) (by simp) (by simp [encB_length, lm]) (by simp) (by simp [encB_length]) rfl (by omega) (by omega)
    have p3 := app_of (h := g ++ [some ⟨layC b n m, true⟩, some ⟨[], true⟩, none, some ⟨encB (bytesI 2 b), true⟩, none, some ⟨encB (bytesI 2 n), true⟩, some ⟨encB magicB ++ encB (bytesI 2 b) ++ encB (bytesI 2 n), true⟩, some ⟨encB (bytesI 8 m), true⟩]) (id := g.length + 6) (jd := g.length + 7) (n := 12) (m := 8) (sz := 1) (cs := encB magicB ++ encB (bytesI 2 b) ++ encB (bytesI 2 n)) (ys := encB (bytesI 8 m)) (rw := true) (by simp) (by simp [encB_length, lm]) (by simp) (by simp [encB_length]) rfl (by omega) (by omega)
    have eS : encB magicB ++ encB (bytesI 2 b) ++ encB (bytesI 2 n) ++ encB (bytesI 8 m) = encB (supH b n m) := by unfold supH; simp only [encB_append]
    rw [eS] at p3
    have hstr := (Has.tr (h := g ++ [some ⟨layC b n m, true⟩, some ⟨[], true⟩, none, some ⟨encB (bytesI 2 b), true⟩, none, some ⟨encB (bytesI 2 n), true⟩, none, some ⟨encB (bytesI 8 m), true⟩, some ⟨encB (supH b n m), true⟩]) (id := g.length + 8) (sz := 1) (n := 20) (cs := encB (supH b n m)) (by simp) (by rw [encB_length, supH_length]) (noX_encB _)).str
    have hmx := fun h => ref02_Of_eq (s := supH b n m) (h := h) (by rw [supH_length]; omega)
    have p4 := app_of (h := g ++ [some ⟨layC b n m, true⟩, some ⟨[], true⟩, none, some ⟨encB (bytesI 2 b), true⟩, none, some ⟨encB (bytesI 2 n), true⟩, none, some ⟨encB (bytesI 8 m), true⟩, some ⟨encB (supH b n m), true⟩, some ⟨encB (bytesI 4 (mixH (supH b n m) : Nat)), true⟩]) (id := g.length + 8) (jd := g.length + 9) (n := 20) (m := 4) (sz := 1) (cs := encB (supH b n m)) (ys := encB (bytesI 4 (mixH (supH b n m) : Nat))) (rw := true) (by simp) (by rw [encB_length, supH_length]) (by simp) (by simp [encB_length]) rfl (by omega) (by omega)
    rw [← encB_append] at p4
    have mk : amkn (.c (.i .i64 256)) (.c (.i .i64 256)) = some 256 := rfl
    have rz := rows_zero 256
    have l24 : (supH b n m ++ bytesI 4 (mixH (supH b n m) : Nat)).length = 24 := by rw [List.length_append, supH_length, bytesI_length]
    have hL := ref01_Lay_eq (h := g ++ [some ⟨layC b n m, true⟩, some ⟨[], true⟩, none, some ⟨encB (bytesI 2 b), true⟩, none, some ⟨encB (bytesI 2 n), true⟩, none, some ⟨encB (bytesI 8 m), true⟩, none, some ⟨encB (bytesI 4 (mixH (supH b n m) : Nat)), true⟩, some ⟨encB (supH b n m ++ bytesI 4 (mixH (supH b n m) : Nat)), true⟩, some ⟨encB (zeros 256), true⟩]) (v := .c (.sl (g.length + 11) 0 256 1)) (nv := 256) (l := zeros 256) (u := .c (.sl (g.length + 10) 0 24 1)) (nu := 24) (data := supH b n m ++ bytesI 4 (mixH (supH b n m) : Nat)) (Has.tr (by simp) (by rw [encB_length]; exact zeros_length) (noX_encB _)) (Has.tr (by simp) (by rw [encB_length, l24]) (noX_encB _)) (a := 0) (by omega) (by rw [zeros_length]; omega)
    have eL : layR (zeros 256) 0 (supH b n m ++ bytesI 4 (mixH (supH b n m) : Nat)) = supB b n m := by
      have h1 := layR_layB (l := zeros 256) (xs := supH b n m ++ bytesI 4 (mixH (supH b n m) : Nat)) (a := 0) (by rw [l24, zeros_length]; omega)
      have h2 := padB_lay (l := []) (xs := supH b n m ++ bytesI 4 (mixH (supH b n m) : Nat)) (a := 0) (by simp) (by rw [l24]; omega)
      rw [show ((0 : Nat) : Int) = 0 from rfl] at h1
      rw [h1, ← padB_nil, h2, List.length_nil, Nat.sub_self, show zeros 0 = [] from rfl, List.append_nil, List.nil_append, supB]
    have zl : (zeros 256).length = 256 := zeros_length
    rw [eL, zl] at hL
    simp only [afAddr_p, List.append_nil, if_true, if_false, bnd_some, mp_some, cnd_t, cnd_f, gd_no, gd_tt, gd_tf, gd_ft, gd_ff, alenS_s, alen_sl, alen_ns, abin_add, abin_sub, abin_mul, abin_eql, abin_neq, abin_lss, abin_leq, abin_gtr, abin_geq, abin_seql, abin_sneq, abin_slss, aun_not, aun_neg, aeqB_t, aeqB_f, aconv_i, apick_b, cond_true, cond_false, decide_true, decide_false, Bool.not_true, Bool.not_false, aext_t, ofPart_c, ofPart_a, part?_c, part?_a, cells?_c, cells?_a, tupN_2, tupN_3, Option.map_some, Option.some.injEq, List.getElem?_cons_zero, List.getElem?_cons_succ, not_true_eq_false, not_false_eq_true, quiet_same, bytesI_length, Option.join_some, List.append_assoc, List.cons_append, List.nil_append, List.length_append, List.length_cons, List.length_nil, Nat.zero_add, Nat.add_zero, rd_at, rd_at0, set_at, set_at0, List.set_cons_zero, List.set_cons_succ, ne_eq, decide_not, quiet_ext, newOk_some, List.cons_prefix_cons, List.nil_prefix, List.drop_succ_cons, List.drop_zero, List.all_cons, List.all_nil, Bool.and_true, true_and, and_true, Int.cast_ofNat_Int] at p1 p2 p3 p4 hL b1 b2 b3 b4
    rw [R_escheatref14_Put_eq]
    generalize zeros 256 = z at *
    exact ⟨_, _, by simp only [afAddr_p, List.append_nil, if_true, if_false, bnd_some, mp_some, cnd_t, cnd_f, gd_no, gd_tt, gd_tf, gd_ft, gd_ff, alenS_s, alen_sl, alen_ns, abin_add, abin_sub, abin_mul, abin_eql, abin_neq, abin_lss, abin_leq, abin_gtr, abin_geq, abin_seql, abin_sneq, abin_slss, aun_not, aun_neg, aeqB_t, aeqB_f, aconv_i, apick_b, cond_true, cond_false, decide_true, decide_false, Bool.not_true, Bool.not_false, aext_t, ofPart_c, ofPart_a, part?_c, part?_a, cells?_c, cells?_a, tupN_2, tupN_3, Option.map_some, Option.some.injEq, List.getElem?_cons_zero, List.getElem?_cons_succ, not_true_eq_false, not_false_eq_true, quiet_same, bytesI_length, Option.join_some, List.append_assoc, List.cons_append, List.nil_append, List.length_append, List.length_cons, List.length_nil, Nat.zero_add, Nat.add_zero, rd_at, rd_at0, set_at, set_at0, List.set_cons_zero, List.set_cons_succ, ne_eq, decide_not, quiet_ext, newOk_some, List.cons_prefix_cons, List.nil_prefix, List.drop_succ_cons, List.drop_zero, List.all_cons, List.all_nil, Bool.and_true, true_and, and_true, aloadN_at, aloadN_at0, aload1_at, aload1_at0, astoreN_at, astoreN_at0, astore1_at, astore1_at0, aslA_at, aslA_at0, ldN_all, ld1_row, stN_all, st1_row, slr_all, Nat.reduceAdd, Nat.reduceMul, Nat.reduceLT, e7, hmk, b1, p1, b2, p2, b3, p3, hstr, hmx, b4, p4, mk, rz, hL] <;> rfl, by rw [encB_length, supB_length], _, rfl, by omega, by simp⟩
  obtain ⟨v, g', e, ho⟩ := key (ro h)
  exact S_escheatref14_Put_out e (by simpa [ro_length] using ho) (by simp)


end Go.Proofs.Ytbbkpmbepljhkaa
