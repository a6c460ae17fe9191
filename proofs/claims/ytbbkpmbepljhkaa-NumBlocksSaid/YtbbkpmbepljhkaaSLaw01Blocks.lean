/- The law of numbers in blocks answers true. -/
import Derived.Test.YtbbkpmbepljhkaaSLaw01
import Derived.Test.YtbbkpmbepljhkaaGEscheatlaw01NumBlocks
set_option linter.all false
namespace Go.Proofs.Ytbbkpmbepljhkaa
open Go Go.Esc

theorem layI_zeros_layR {data : List UInt8} : layI (zeros 256) 0 data = layR (zeros 256) 0 data := by
  unfold layI layR
  rw [if_pos (by omega), if_pos (by omega)]
  unfold layB
  simp only [Int.toNat_zero, List.take_zero, List.nil_append, Nat.sub_zero, zeros_length, Nat.zero_add]
  by_cases h : data.length ≤ 256
  · rw [List.take_of_length_le h]
  · rw [List.drop_of_length_le (by simp; omega), List.drop_of_length_le (by simp; omega)]

theorem layI_layR {l data : List UInt8} {a : Int} (hl : l.length = 256) : layI l a data = layR l a data := by
  unfold layI layR
  by_cases h0 : 0 ≤ a
  · rw [if_pos h0]
    by_cases h1 : a < 256
    · rw [if_pos ⟨h0, h1⟩]
      unfold layB
      rw [hl]
      by_cases h : data.length ≤ 256 - a.toNat
      · rw [List.take_of_length_le h]
      · rw [List.drop_of_length_le (l := l) (by simp; omega), List.drop_of_length_le (l := l) (by omega)]
    · rw [if_neg (by omega), List.take_of_length_le (by omega), List.drop_of_length_le (by omega), hl, show 256 - a.toNat = 0 by omega]
      simp
  · rw [if_neg (by omega), if_neg (by omega)]

theorem quiet_snoc {h : Heap} {cs : List Cell} {v : Val} : quiet h (some (v, h ++ [some (Row.mk cs true)])) = some (v, h ++ [some (Row.mk cs true)]) := quiet_grows (Grows.rfl'.new _)

theorem numBlocks_eq {v : Val} {nv : Nat} {l data : List UInt8} {a w x : Int} (h : Heap) (hv : Has h v 1 nv (encB data)) (hl : l.length = 256) (ha : a < 9223372036854775808) :
    S_escheatlaw01_NumBlocks [.a (encB l), .a [.i .i64 a, .i .i64 w, .i .i64 x], v] h = some (.c (.b true), h) := by
  have key : ∀ g, Has g v 1 nv (encB data) → ∃ g', R_escheatlaw01_NumBlocks 0 [.a (encB l), .a [.i .i64 a, .i .i64 w, .i .i64 x], v] g = some (.c (.b true), g') := by
    intro g hv
    have hnv : data.length = nv := by simpa [encB_length] using hv.length
    have hX : (encB l).length = 256 := by rw [encB_length, hl]
    have hz : (List.replicate 256 (Cell.i .u8 0)).length = 256 := List.length_replicate
    rw [R_escheatlaw01_NumBlocks_eq]
    generalize List.replicate 256 (Cell.i .u8 0) = z at *
    by_cases c1 : (600 : Int) < nv
    · exact ⟨_, by simp only [afAddr_p, List.append_nil, if_true, if_false, bnd_some, mp_some, cnd_t, cnd_f, gd_no, gd_tt, gd_tf, gd_ft, gd_ff, alenS_s, alen_sl, alen_ns, abin_add, abin_sub, abin_mul, abin_eql, abin_neq, abin_lss, abin_leq, abin_gtr, abin_geq, abin_seql, abin_sneq, abin_slss, aun_not, aun_neg, aeqB_t, aeqB_f, aconv_i, apick_b, cond_true, cond_false, decide_true, decide_false, Bool.not_true, Bool.not_false, aext_t, ofPart_c, ofPart_a, part?_c, part?_a, cells?_c, cells?_a, tupN_2, tupN_3, Option.map_some, Option.some.injEq, List.getElem?_cons_zero, List.getElem?_cons_succ, not_true_eq_false, not_false_eq_true, quiet_same, bytesI_length, Option.join_some, List.append_assoc, List.cons_append, List.nil_append, List.length_append, List.length_cons, List.length_nil, Nat.zero_add, Nat.add_zero, rd_at, rd_at0, set_at, set_at0, List.set_cons_zero, List.set_cons_succ, ne_eq, decide_not, quiet_ext, newOk_some, List.cons_prefix_cons, List.nil_prefix, List.drop_succ_cons, List.drop_zero, List.all_cons, List.all_nil, Bool.and_true, true_and, and_true, aloadN_at, aloadN_at0, aload1_at, aload1_at0, astoreN_at, astoreN_at0, astore1_at, astore1_at0, aslA_at, aslA_at0, ldN_all, ld1_row, stN_all, st1_row, slr_all, Nat.reduceAdd, Nat.reduceMul, Nat.reduceLT, hv.len, c1, works01_eq] <;> rfl⟩
    · have hW : (encB (withB l a w x)).length = 256 := by rw [encB_length, withB_length hl]
      have hL : (encB (layI l a data)).length = 256 := by rw [encB_length, layI_length hl]
      have hO : (encB (layI (zeros 256) 0 data)).length = 256 := by rw [encB_length, layI_length zeros_length]
      have a0 : aiAddrA 3 1 (.c (.p (g.length + 1) 0)) (.c (.i .i64 0)) = some (.c (.p (g.length + 1) 0)) := rfl
      have a1 : aiAddrA 3 1 (.c (.p (g.length + 1) 0)) (.c (.i .i64 1)) = some (.c (.p (g.length + 1) 1)) := rfl
      have a2 : aiAddrA 3 1 (.c (.p (g.length + 1) 0)) (.c (.i .i64 2)) = some (.c (.p (g.length + 1) 2)) := rfl
      have p0 : ∀ h, S_num_With [.a (encB l), .c (.i .i64 a), .c (.i .i64 w), .c (.i .i64 x)] h = some (.a (encB (withB l a w x)), h) := fun h => num_With_eq hl
      have p1 := fun l' => num_Lay_eq (h := g ++ l') (hv.more l') hl (by omega) (a := a)
      have p2 := fun l' => num_Of_eq (h := g ++ l') (hv.more l') (by omega)
      have p3 : ∀ h, S_num_At [.a (encB l), .c (.i .i64 a), .c (.i .i64 w)] h = some (.c (.i .i64 (atN l a w)), h) := fun h => num_At_eq hl
      have p4 : ∀ l', S_escheatref01_At [.c (.sl g.length 0 256 1), .c (.i .i64 a), .c (.i .i64 w)] (g ++ (some (Row.mk (encB l) true) :: l')) = some (.c (.i .i64 (atN l a w)), g ++ (some (Row.mk (encB l) true) :: l')) := fun l' => ref01_At_eq (Has.tr (by simp) (by rw [hX]) (noX_encB _)) hl
      obtain ⟨y, t, eW, hy, gr⟩ := ref01_With_eq (h := g ++ [some (Row.mk (encB l) true), some (Row.mk ([.i .i64 a, .i .i64 w, .i .i64 x]) true), some (Row.mk (encB l) true), some (Row.mk (encB (withB l a w x)) true), some (Row.mk (encB (layI l a data)) true), some (Row.mk (encB (layI (zeros 256) 0 data)) true), none]) (x := .c (.sl g.length 0 256 1)) (nv := 256) (l := l) (a := a) (w := w) (v := x) (Has.tr (by simp) (by rw [hX]) (noX_encB _)) hl
      have qW := quiet_grows (v := y) gr
      rw [← eW] at qW
      rw [eW] at qW
      have s1 := ref01_Same_eq (h := (g ++ [some (Row.mk (encB l) true), some (Row.mk ([.i .i64 a, .i .i64 w, .i .i64 x]) true), some (Row.mk (encB l) true), some (Row.mk (encB (withB l a w x)) true), some (Row.mk (encB (layI l a data)) true), some (Row.mk (encB (layI (zeros 256) 0 data)) true), none]) ++ t) (v := .c (.sl (g.length + 3) 0 256 1)) (nv := 256) (l := withB l a w x) (Has.tr (by simp) (by rw [hW]) (noX_encB _)) hy (by rw [withB_length hl]; omega)
      have p5 := fun h => num_Cut_eq (h := h) hl (a := a) (n := x)
      have p6 := ref01_Cut_eq (h := (g ++ [some (Row.mk (encB l) true), some (Row.mk ([.i .i64 a, .i .i64 w, .i .i64 x]) true), some (Row.mk (encB l) true), some (Row.mk (encB (withB l a w x)) true), some (Row.mk (encB (layI l a data)) true), some (Row.mk (encB (layI (zeros 256) 0 data)) true), none]) ++ (t ++ [some (Row.mk (encB (cutB l a x)) true)])) (v := .c (.sl g.length 0 256 1)) (nv := 256) (l := l) (a := a) (n := x) (Has.tr (by simp) (by rw [hX]) (noX_encB _)) ha (by omega)
      have hcl : (cutB l a x).length ≤ 256 := by
        unfold cutB
        split
        · simp; omega
        · simp
      have s2 := ref01_Same_eq (h := (g ++ [some (Row.mk (encB l) true), some (Row.mk ([.i .i64 a, .i .i64 w, .i .i64 x]) true), some (Row.mk (encB l) true), some (Row.mk (encB (withB l a w x)) true), some (Row.mk (encB (layI l a data)) true), some (Row.mk (encB (layI (zeros 256) 0 data)) true), none]) ++ (t ++ [some (Row.mk (encB (cutB l a x)) true), some (Row.mk (encB (cutB l a x)) true)])) (v := .c (.sl ((g ++ [some (Row.mk (encB l) true), some (Row.mk ([.i .i64 a, .i .i64 w, .i .i64 x]) true), some (Row.mk (encB l) true), some (Row.mk (encB (withB l a w x)) true), some (Row.mk (encB (layI l a data)) true), some (Row.mk (encB (layI (zeros 256) 0 data)) true), none]) ++ t).length 0 (cutB l a x).length 1)) (nv := (cutB l a x).length) (u := .c (.sl ((g ++ [some (Row.mk (encB l) true), some (Row.mk ([.i .i64 a, .i .i64 w, .i .i64 x]) true), some (Row.mk (encB l) true), some (Row.mk (encB (withB l a w x)) true), some (Row.mk (encB (layI l a data)) true), some (Row.mk (encB (layI (zeros 256) 0 data)) true), none]) ++ (t ++ [some (Row.mk (encB (cutB l a x)) true)])).length 0 (cutB l a x).length 1)) (nu := (cutB l a x).length) (l := cutB l a x) (r := cutB l a x) (Has.tr (by simp) (by simp [encB_length]) (noX_encB _)) (Has.tr (by simp) (by simp [encB_length]) (noX_encB _)) (by omega)
      have p7 := ref01_Lay_eq (h := (g ++ [some (Row.mk (encB l) true), some (Row.mk ([.i .i64 a, .i .i64 w, .i .i64 x]) true), some (Row.mk (encB l) true), some (Row.mk (encB (withB l a w x)) true), some (Row.mk (encB (layI l a data)) true), some (Row.mk (encB (layI (zeros 256) 0 data)) true), none]) ++ (t ++ [some (Row.mk (encB (cutB l a x)) true), some (Row.mk (encB (cutB l a x)) true)])) (v := .c (.sl g.length 0 256 1)) (nv := 256) (l := l) (u := v) (nu := nv) (data := data) (Has.tr (by simp) (by rw [hX]) (noX_encB _)) (by rw [List.append_assoc]; exact hv.more _) (a := a) ha (by omega)
      rw [← layI_layR hl, hl] at p7
      have s3 := ref01_Same_eq (h := (g ++ [some (Row.mk (encB l) true), some (Row.mk ([.i .i64 a, .i .i64 w, .i .i64 x]) true), some (Row.mk (encB l) true), some (Row.mk (encB (withB l a w x)) true), some (Row.mk (encB (layI l a data)) true), some (Row.mk (encB (layI (zeros 256) 0 data)) true), none]) ++ (t ++ [some (Row.mk (encB (cutB l a x)) true), some (Row.mk (encB (cutB l a x)) true), some (Row.mk (encB (layI l a data)) true)])) (v := .c (.sl (g.length + 4) 0 256 1)) (nv := 256) (u := .c (.sl ((g ++ [some (Row.mk (encB l) true), some (Row.mk ([.i .i64 a, .i .i64 w, .i .i64 x]) true), some (Row.mk (encB l) true), some (Row.mk (encB (withB l a w x)) true), some (Row.mk (encB (layI l a data)) true), some (Row.mk (encB (layI (zeros 256) 0 data)) true), none]) ++ (t ++ [some (Row.mk (encB (cutB l a x)) true), some (Row.mk (encB (cutB l a x)) true)])).length 0 256 1)) (nu := 256) (l := layI l a data) (r := layI l a data) (Has.tr (by simp) (by rw [hL]) (noX_encB _)) (Has.tr (by simp) (by rw [hL]) (noX_encB _)) (by rw [layI_length hl]; omega)
      have mk : amkn (.c (.i .i64 256)) (.c (.i .i64 256)) = some 256 := rfl
      have rz := rows_zero 256
      have hZ : (encB (zeros 256)).length = 256 := by rw [encB_length]; exact zeros_length
      have zl : (zeros 256).length = 256 := zeros_length
      have p8 := ref01_Lay_eq (h := (g ++ [some (Row.mk (encB l) true), some (Row.mk ([.i .i64 a, .i .i64 w, .i .i64 x]) true), some (Row.mk (encB l) true), some (Row.mk (encB (withB l a w x)) true), some (Row.mk (encB (layI l a data)) true), some (Row.mk (encB (layI (zeros 256) 0 data)) true), some (Row.mk (encB (zeros 256)) true)]) ++ (t ++ [some (Row.mk (encB (cutB l a x)) true), some (Row.mk (encB (cutB l a x)) true), some (Row.mk (encB (layI l a data)) true)])) (v := .c (.sl (g.length + 6) 0 256 1)) (nv := 256) (l := zeros 256) (u := v) (nu := nv) (data := data) (Has.tr (by simp) (by rw [hZ]) (noX_encB _)) (by rw [List.append_assoc]; exact hv.more _) (a := 0) (by omega) (by rw [zl]; omega)
      rw [← layI_zeros_layR, zl] at p8
      have s4 := ref01_Same_eq (h := (g ++ [some (Row.mk (encB l) true), some (Row.mk ([.i .i64 a, .i .i64 w, .i .i64 x]) true), some (Row.mk (encB l) true), some (Row.mk (encB (withB l a w x)) true), some (Row.mk (encB (layI l a data)) true), some (Row.mk (encB (layI (zeros 256) 0 data)) true), some (Row.mk (encB (zeros 256)) true)]) ++ (t ++ [some (Row.mk (encB (cutB l a x)) true), some (Row.mk (encB (cutB l a x)) true), some (Row.mk (encB (layI l a data)) true), some (Row.mk (encB (layI (zeros 256) 0 data)) true)])) (v := .c (.sl (g.length + 5) 0 256 1)) (nv := 256) (u := .c (.sl ((g ++ [some (Row.mk (encB l) true), some (Row.mk ([.i .i64 a, .i .i64 w, .i .i64 x]) true), some (Row.mk (encB l) true), some (Row.mk (encB (withB l a w x)) true), some (Row.mk (encB (layI l a data)) true), some (Row.mk (encB (layI (zeros 256) 0 data)) true), some (Row.mk (encB (zeros 256)) true)]) ++ (t ++ [some (Row.mk (encB (cutB l a x)) true), some (Row.mk (encB (cutB l a x)) true), some (Row.mk (encB (layI l a data)) true)])).length 0 256 1)) (nu := 256) (l := layI (zeros 256) 0 data) (r := layI (zeros 256) 0 data) (Has.tr (by simp) (by rw [hO]) (noX_encB _)) (Has.tr (by simp) (by rw [hO]) (noX_encB _)) (by rw [layI_length zl]; omega)
      have q5 := fun v => quiet_snoc (h := (g ++ [some (Row.mk (encB l) true), some (Row.mk ([.i .i64 a, .i .i64 w, .i .i64 x]) true), some (Row.mk (encB l) true), some (Row.mk (encB (withB l a w x)) true), some (Row.mk (encB (layI l a data)) true), some (Row.mk (encB (layI (zeros 256) 0 data)) true), none]) ++ t) (cs := encB (cutB l a x)) (v := v)
      have q6 := fun v => quiet_snoc (h := (g ++ [some (Row.mk (encB l) true), some (Row.mk ([.i .i64 a, .i .i64 w, .i .i64 x]) true), some (Row.mk (encB l) true), some (Row.mk (encB (withB l a w x)) true), some (Row.mk (encB (layI l a data)) true), some (Row.mk (encB (layI (zeros 256) 0 data)) true), none]) ++ (t ++ [some (Row.mk (encB (cutB l a x)) true)])) (cs := encB (cutB l a x)) (v := v)
      have q7 := fun v => quiet_snoc (h := (g ++ [some (Row.mk (encB l) true), some (Row.mk ([.i .i64 a, .i .i64 w, .i .i64 x]) true), some (Row.mk (encB l) true), some (Row.mk (encB (withB l a w x)) true), some (Row.mk (encB (layI l a data)) true), some (Row.mk (encB (layI (zeros 256) 0 data)) true), none]) ++ (t ++ [some (Row.mk (encB (cutB l a x)) true), some (Row.mk (encB (cutB l a x)) true)])) (cs := encB (layI l a data)) (v := v)
      have q8 := fun v => quiet_snoc (h := (g ++ [some (Row.mk (encB l) true), some (Row.mk ([.i .i64 a, .i .i64 w, .i .i64 x]) true), some (Row.mk (encB l) true), some (Row.mk (encB (withB l a w x)) true), some (Row.mk (encB (layI l a data)) true), some (Row.mk (encB (layI (zeros 256) 0 data)) true), some (Row.mk (encB (zeros 256)) true)]) ++ (t ++ [some (Row.mk (encB (cutB l a x)) true), some (Row.mk (encB (cutB l a x)) true), some (Row.mk (encB (layI l a data)) true)])) (cs := encB (layI (zeros 256) 0 data)) (v := v)
      generalize zeros 256 = zz at *
      simp only [afAddr_p, List.append_nil, if_true, if_false, bnd_some, mp_some, cnd_t, cnd_f, gd_no, gd_tt, gd_tf, gd_ft, gd_ff, alenS_s, alen_sl, alen_ns, abin_add, abin_sub, abin_mul, abin_eql, abin_neq, abin_lss, abin_leq, abin_gtr, abin_geq, abin_seql, abin_sneq, abin_slss, aun_not, aun_neg, aeqB_t, aeqB_f, aconv_i, apick_b, cond_true, cond_false, decide_true, decide_false, Bool.not_true, Bool.not_false, aext_t, ofPart_c, ofPart_a, part?_c, part?_a, cells?_c, cells?_a, tupN_2, tupN_3, Option.map_some, Option.some.injEq, List.getElem?_cons_zero, List.getElem?_cons_succ, not_true_eq_false, not_false_eq_true, quiet_same, bytesI_length, Option.join_some, List.append_assoc, List.cons_append, List.nil_append, List.length_append, List.length_cons, List.length_nil, Nat.zero_add, Nat.add_zero, rd_at, rd_at0, set_at, set_at0, List.set_cons_zero, List.set_cons_succ, ne_eq, decide_not, quiet_ext, newOk_some, List.cons_prefix_cons, List.nil_prefix, List.drop_succ_cons, List.drop_zero, List.all_cons, List.all_nil, Bool.and_true, true_and, and_true, aloadN_at, aloadN_at0, aload1_at, aload1_at0, astoreN_at, astoreN_at0, astore1_at, astore1_at0, aslA_at, aslA_at0, ldN_all, ld1_row, stN_all, st1_row, slr_all, Nat.reduceAdd, Nat.reduceMul, Nat.reduceLT] at eW qW s1 p6 s2 p7 s3 p8 s4 q5 q6 q7 q8
      exact ⟨_, by simp only [afAddr_p, List.append_nil, if_true, if_false, bnd_some, mp_some, cnd_t, cnd_f, gd_no, gd_tt, gd_tf, gd_ft, gd_ff, alenS_s, alen_sl, alen_ns, abin_add, abin_sub, abin_mul, abin_eql, abin_neq, abin_lss, abin_leq, abin_gtr, abin_geq, abin_seql, abin_sneq, abin_slss, aun_not, aun_neg, aeqB_t, aeqB_f, aconv_i, apick_b, cond_true, cond_false, decide_true, decide_false, Bool.not_true, Bool.not_false, aext_t, ofPart_c, ofPart_a, part?_c, part?_a, cells?_c, cells?_a, tupN_2, tupN_3, Option.map_some, Option.some.injEq, List.getElem?_cons_zero, List.getElem?_cons_succ, not_true_eq_false, not_false_eq_true, quiet_same, bytesI_length, Option.join_some, List.append_assoc, List.cons_append, List.nil_append, List.length_append, List.length_cons, List.length_nil, Nat.zero_add, Nat.add_zero, rd_at, rd_at0, set_at, set_at0, List.set_cons_zero, List.set_cons_succ, ne_eq, decide_not, quiet_ext, newOk_some, List.cons_prefix_cons, List.nil_prefix, List.drop_succ_cons, List.drop_zero, List.all_cons, List.all_nil, Bool.and_true, true_and, and_true, aloadN_at, aloadN_at0, aload1_at, aload1_at0, astoreN_at, astoreN_at0, astore1_at, astore1_at0, aslA_at, aslA_at0, ldN_all, ld1_row, stN_all, st1_row, slr_all, Nat.reduceAdd, Nat.reduceMul, Nat.reduceLT, hv.len, c1, hX, hW, hL, hO, hZ, hz, a0, a1, a2, p0, p1, p2, p3, p4, eW, qW, s1, p5, p6, s2, p7, s3, mk, rz, p8, s4, q5, q6, q7, q8, works01_eq] <;> rfl⟩
  obtain ⟨g', e⟩ := key (ro h) hv.ro
  exact S_escheatlaw01_NumBlocks_flat e rfl

end Go.Proofs.Ytbbkpmbepljhkaa
