/- What the proof of this claim leans on, part 5. -/
import Derived.Test.YtdgggnlbdoiloaaFViewBackp4
set_option linter.all false
section
namespace Go.Proofs.Ytdgggnlbdoiloaa
open Go Go.Esc

theorem table_With_ok {j : Nat} {k l s p : Int} {d : List Int} {b : List UInt8} {h : Heap} (hb : b.length = 256) (hd : d.length = 7) (h8 : j < 8) (c : mayI k l s p d = true) :
    S_table_With [.a (encB b), .c (.i .i64 j), .a (inoC k l s p d)] h = some (.t [.a (encB (layB b (32 * j) (inoB k l s p d))), .c (.i .i64 0)], h) := by
  have key : ∀ g, ∃ g', R_table_With 0 [.a (encB b), .c (.i .i64 j), .a (inoC k l s p d)] g = some (.t [.a (encB (layB b (32 * j) (inoB k l s p d))), .c (.i .i64 0)], g') := by
    intro g
    have hB : (encB b).length = 256 := by rw [encB_length, hb]
    have hE : (encI d).length = 7 := by rw [encI_length, hd]
    have hI : (encB (inoB k l s p d)).length = 32 := by rw [encB_length, inoB_length hd]
    have hz : (List.replicate 256 (Cell.i .u8 0)).length = 256 := List.length_replicate
    have hP := fun h => table_Patch_ok (h := h) hd h8 c
    rw [R_table_With_eq]
    generalize List.replicate 256 (Cell.i .u8 0) = z at *
    have hL := patch_Lay_eq (h := g ++ [some (Row.mk (encB b) true), some (Row.mk (inoC k l s p d) true), some (Row.mk z true), some (Row.mk (encB (inoB k l s p d)) true), some (Row.mk [.i .i64 ((32 * j : Nat) : Int), .sl (g.length + 3) 0 32 1] true)]) (x := .sl (g.length + 3) 0 32 1) (n := 32) (a := 32 * j) (data := inoB k l s p d) (l := b) (Has.tr (by simp) (by rw [hI]) (noX_encB _)) (by omega) (by omega) hb
    have hR : (encB (layB b (32 * j) (inoB k l s p d))).length = 256 := by rw [encB_length, layB_length (by rw [inoB_length hd]; omega), hb]
    exact ⟨_, by simp only [afAddr_p, List.append_nil, if_true, if_false, bnd_some, mp_some, cnd_t, cnd_f, gd_no, gd_tt, gd_tf, gd_ft, gd_ff, alenS_s, alen_sl, alen_ns, abin_add, abin_sub, abin_mul, abin_eql, abin_neq, abin_lss, abin_leq, abin_gtr, abin_geq, abin_seql, abin_sneq, abin_slss, aun_not, aun_neg, agn_some, aeqN_nf, aeqN_f, aeqN_np, aeqN_p, anilc_p, aeqB_t, aeqB_f, aconv_i, apick_b, cond_true, cond_false, decide_true, decide_false, Bool.not_true, Bool.not_false, aext_t, ofPart_c, ofPart_a, part?_c, part?_a, cells?_c, cells?_a, tupN_2, tupN_3, Option.map_some, Option.some.injEq, List.getElem?_cons_zero, List.getElem?_cons_succ, not_true_eq_false, not_false_eq_true, quiet_same, bytesI_length, Option.join_some, List.append_assoc, List.cons_append, List.nil_append, List.length_append, List.length_cons, List.length_nil, Nat.zero_add, Nat.add_zero, rd_at, rd_at0, set_at, set_at0, List.set_cons_zero, List.set_cons_succ, ne_eq, decide_not, quiet_ext, newOk_some, List.cons_prefix_cons, List.nil_prefix, List.drop_succ_cons, List.drop_zero, List.all_cons, List.all_nil, Bool.and_true, true_and, and_true, aloadN_at, aloadN_at0, aload1_at, aload1_at0, astoreN_at, astoreN_at0, astore1_at, astore1_at0, aslA_at, aslA_at0, ldN_all, ld1_row, stN_all, st1_row, slr_all, Nat.reduceAdd, Nat.reduceMul, Nat.reduceLT, hB, hE, hz, hP, hL, hR] <;> rfl⟩
  obtain ⟨g', e⟩ := key (ro h)
  exact S_table_With_flat e (by simp)

def rawT (b : List UInt8) (j : Nat) : List UInt8 := (b.drop (32 * j)).take 32
theorem rawT_length {b : List UInt8} {j : Nat} (hb : b.length = 256) (hj : j < 8) : (rawT b j).length = 32 := by unfold rawT; simp; omega

theorem raw_loop {g : Heap} {b : List UInt8} {z : List Cell} {j q : Nat} (hb : b.length = 256) (hz : z.length = 32) (hj : j < 8) : ∀ e i m : Nat, i + e = 32 → e < m →
    table_Raw_l0 q m (.c (.i .i64 j)) (.c (.p g.length 0)) (.c (.p (g.length + 1) 0)) (.c (.p (g.length + 2) 0)) (.c (.i .i64 i)) (g ++ [some ⟨encB b, true⟩, some ⟨z, true⟩, some ⟨encB ((rawT b j).take i ++ zeros (32 - i)), true⟩]) =
      some (.a (encB (rawT b j)), g ++ [some ⟨encB b, true⟩, some ⟨encB (rawT b j), true⟩, some ⟨encB (rawT b j), true⟩])
  | e, i, 0, _, hm => by omega
  | 0, i, m + 1, hi, hm => by
    have e0 : i = 32 := by omega
    subst e0
    have h1' : ¬ ((32 : Nat) : Int) < 32 := by omega
    have hR := rawT_length hb hj
    have hl : (encB (rawT b j)).length = 32 := by rw [encB_length, hR]
    have e1 : encB ((rawT b j).take 32 ++ zeros (32 - 32)) = encB (rawT b j) := by rw [List.take_of_length_le (by omega)]; simp [zeros]
    rw [table_Raw_l0_eq, e1]
    simp only [afAddr_p, List.append_nil, if_true, if_false, bnd_some, mp_some, cnd_t, cnd_f, gd_no, gd_tt, gd_tf, gd_ft, gd_ff, alenS_s, alen_sl, alen_ns, abin_add, abin_sub, abin_mul, abin_eql, abin_neq, abin_lss, abin_leq, abin_gtr, abin_geq, abin_seql, abin_sneq, abin_slss, aun_not, aun_neg, agn_some, aeqN_nf, aeqN_f, aeqN_np, aeqN_p, anilc_p, aeqB_t, aeqB_f, aconv_i, apick_b, cond_true, cond_false, decide_true, decide_false, Bool.not_true, Bool.not_false, aext_t, ofPart_c, ofPart_a, part?_c, part?_a, cells?_c, cells?_a, tupN_2, tupN_3, Option.map_some, Option.some.injEq, List.getElem?_cons_zero, List.getElem?_cons_succ, not_true_eq_false, not_false_eq_true, quiet_same, bytesI_length, Option.join_some, List.append_assoc, List.cons_append, List.nil_append, List.length_append, List.length_cons, List.length_nil, Nat.zero_add, Nat.add_zero, rd_at, rd_at0, set_at, set_at0, List.set_cons_zero, List.set_cons_succ, ne_eq, decide_not, quiet_ext, newOk_some, List.cons_prefix_cons, List.nil_prefix, List.drop_succ_cons, List.drop_zero, List.all_cons, List.all_nil, Bool.and_true, true_and, and_true, aloadN_at, aloadN_at0, aload1_at, aload1_at0, astoreN_at, astoreN_at0, astore1_at, astore1_at0, aslA_at, aslA_at0, ldN_all, ld1_row, stN_all, st1_row, slr_all, Nat.reduceAdd, Nat.reduceMul, Nat.reduceLT, h1', hl, hz]
  | e + 1, i, m + 1, hi, hm => by
    have ih := raw_loop (g := g) (q := q) hb hz hj e (i + 1) m (by omega) (by omega)
    have hR := rawT_length hb hj
    have h1' : (i : Int) < 32 := by omega
    have w1 : IntKind.wrap .i64 ((j : Int) * 32) = ((32 * j : Nat) : Int) := by rw [wrap_i64 (by omega) (by omega)]; omega
    have a1 : aiAddrA 256 1 (.c (.p g.length 0)) (.c (.i .i64 ((32 * j + i : Nat) : Int))) = some (.c (.p g.length (32 * j + i))) := by rw [iAddrA_of (by omega)]; simp
    have a2 : aiAddrA 32 1 (.c (.p (g.length + 2) 0)) (.c (.i .i64 (i : Int))) = some (.c (.p (g.length + 2) i)) := by rw [iAddrA_of (by omega)]; simp
    have l1 : (encB b)[32 * j + i]? = some (.i .u8 (rawT b j)[i].toNat) := by
      rw [encB_get, List.getElem?_eq_getElem (by omega)]
      have : (rawT b j)[i] = b[32 * j + i]'(by omega) := by simp [rawT]
      rw [this]; rfl
    have ho : i < (encB ((rawT b j).take i ++ zeros (32 - i))).length := by rw [encB_length, List.length_append, zeros_length, List.length_take]; omega
    have es : (encB ((rawT b j).take i ++ zeros (32 - i))).set i (.i .u8 (rawT b j)[i].toNat) = encB ((rawT b j).take (i + 1) ++ zeros (32 - (i + 1))) := by
      rw [encB_set]
      refine congrArg encB ?_
      have h6 : ((rawT b j).take i).length = i := by simp; omega
      rw [List.set_append_right _ _ (by omega), h6, Nat.sub_self, List.take_succ_eq_append_getElem (by omega), List.append_assoc]
      refine congrArg ((rawT b j).take i ++ ·) ?_
      rw [show 32 - i = 32 - (i + 1) + 1 by omega]
      unfold zeros
      rw [List.replicate_succ, List.set_cons_zero]; rfl
    rw [table_Raw_l0_eq]
    simp only [afAddr_p, List.append_nil, if_true, if_false, bnd_some, mp_some, cnd_t, cnd_f, gd_no, gd_tt, gd_tf, gd_ft, gd_ff, alenS_s, alen_sl, alen_ns, abin_add, abin_sub, abin_mul, abin_eql, abin_neq, abin_lss, abin_leq, abin_gtr, abin_geq, abin_seql, abin_sneq, abin_slss, aun_not, aun_neg, agn_some, aeqN_nf, aeqN_f, aeqN_np, aeqN_p, anilc_p, aeqB_t, aeqB_f, aconv_i, apick_b, cond_true, cond_false, decide_true, decide_false, Bool.not_true, Bool.not_false, aext_t, ofPart_c, ofPart_a, part?_c, part?_a, cells?_c, cells?_a, tupN_2, tupN_3, Option.map_some, Option.some.injEq, List.getElem?_cons_zero, List.getElem?_cons_succ, not_true_eq_false, not_false_eq_true, quiet_same, bytesI_length, Option.join_some, List.append_assoc, List.cons_append, List.nil_append, List.length_append, List.length_cons, List.length_nil, Nat.zero_add, Nat.add_zero, rd_at, rd_at0, set_at, set_at0, List.set_cons_zero, List.set_cons_succ, ne_eq, decide_not, quiet_ext, newOk_some, List.cons_prefix_cons, List.nil_prefix, List.drop_succ_cons, List.drop_zero, List.all_cons, List.all_nil, Bool.and_true, true_and, and_true, aloadN_at, aloadN_at0, aload1_at, aload1_at0, astoreN_at, astoreN_at0, astore1_at, astore1_at0, aslA_at, aslA_at0, ldN_all, ld1_row, stN_all, st1_row, slr_all, Nat.reduceAdd, Nat.reduceMul, Nat.reduceLT, h1', w1, wi_add (show 32 * j + i < 9223372036854775808 by omega), a1, a2, l1, ho, es, wi_succ (show i + 1 < 9223372036854775808 by omega)]
    exact ih

theorem table_Raw_eq {b : List UInt8} {j : Nat} {h : Heap} (hb : b.length = 256) (hj : j < 8) : S_table_Raw [.a (encB b), .c (.i .i64 j)] h = some (.a (encB (rawT b j)), h) := by
  have key : ∀ N, 32 < N → ∀ g, ∃ g', R_table_Raw N [.a (encB b), .c (.i .i64 j)] g = some (.a (encB (rawT b j)), g') := by
    intro N hN g
    have c1 : ¬ (j : Int) < 0 := by omega
    have c2 : ¬ (8 : Int) ≤ j := by omega
    have hz : (encB (zeros 32)).length = 32 := by rw [encB_length]; exact zeros_length
    have e := raw_loop (g := g) (z := encB (zeros 32)) (q := N) hb hz hj 32 0 N (by omega) (by omega)
    simp only [List.take_zero, List.nil_append, Nat.sub_zero] at e
    rw [R_table_Raw_eq, zeros_enc]
    generalize zeros 32 = zz at *
    exact ⟨_, by simp only [afAddr_p, List.append_nil, if_true, if_false, bnd_some, mp_some, cnd_t, cnd_f, gd_no, gd_tt, gd_tf, gd_ft, gd_ff, alenS_s, alen_sl, alen_ns, abin_add, abin_sub, abin_mul, abin_eql, abin_neq, abin_lss, abin_leq, abin_gtr, abin_geq, abin_seql, abin_sneq, abin_slss, aun_not, aun_neg, agn_some, aeqN_nf, aeqN_f, aeqN_np, aeqN_p, anilc_p, aeqB_t, aeqB_f, aconv_i, apick_b, cond_true, cond_false, decide_true, decide_false, Bool.not_true, Bool.not_false, aext_t, ofPart_c, ofPart_a, part?_c, part?_a, cells?_c, cells?_a, tupN_2, tupN_3, Option.map_some, Option.some.injEq, List.getElem?_cons_zero, List.getElem?_cons_succ, not_true_eq_false, not_false_eq_true, quiet_same, bytesI_length, Option.join_some, List.append_assoc, List.cons_append, List.nil_append, List.length_append, List.length_cons, List.length_nil, Nat.zero_add, Nat.add_zero, rd_at, rd_at0, set_at, set_at0, List.set_cons_zero, List.set_cons_succ, ne_eq, decide_not, quiet_ext, newOk_some, List.cons_prefix_cons, List.nil_prefix, List.drop_succ_cons, List.drop_zero, List.all_cons, List.all_nil, Bool.and_true, true_and, and_true, aloadN_at, aloadN_at0, aload1_at, aload1_at0, astoreN_at, astoreN_at0, astore1_at, astore1_at0, aslA_at, aslA_at0, ldN_all, ld1_row, stN_all, st1_row, slr_all, Nat.reduceAdd, Nat.reduceMul, Nat.reduceLT, c1, c2]; exact e⟩
  obtain ⟨g', e⟩ := key (h.length + 33) (by omega) (ro h)
  exact S_table_Raw_flat e (by simp)

end Go.Proofs.Ytdgggnlbdoiloaa
end
section
namespace Go.Proofs.Ytdgggnlbdoiloaa
open Go Go.Esc

theorem ino0_length : (inoC 0 0 0 0 (zI 7)).length = 11 := rfl
theorem ino0_eq : [Cell.i .i64 0, .i .i64 0, .i .i64 0, .i .i64 0, .i .i64 0, .i .i64 0, .i .i64 0, .i .i64 0, .i .i64 0, .i .i64 0, .i .i64 0] = inoC 0 0 0 0 (zI 7) := rfl
theorem afill_ino0 : afill (inoC 0 0 0 0 (zI 7)) [] = some (inoC 0 0 0 0 (zI 7)) := rfl

theorem table_Get_at {b : List UInt8} {j : Nat} {h : Heap} (hb : b.length = 256) (hj : j < 8) : S_table_Get [.a (encB b), .c (.i .i64 j)] h = some (.t [.a (cleanC (rawT b j)), .c (.b (cleanI (rawT b j)))], h) := by
  have key : ∀ g, ∃ g', R_table_Get 0 [.a (encB b), .c (.i .i64 j)] g = some (.t [.a (cleanC (rawT b j)), .c (.b (cleanI (rawT b j)))], g') := by
    intro g
    have c1 : ¬ (j : Int) < 0 := by omega
    have c2 : ¬ (8 : Int) ≤ j := by omega
    have hB : (encB b).length = 256 := by rw [encB_length, hb]
    have hR := fun h => table_Raw_eq (h := h) hb hj
    have hC := fun h => inode_Clean_eq (b := rawT b j) (h := h) (rawT_length hb hj)
    have hl := ino0_length
    have hcl := cleanC_length (b := rawT b j)
    rw [R_table_Get_eq, ino0_eq]
    generalize inoC 0 0 0 0 (zI 7) = z at *
    exact ⟨_, by simp only [afAddr_p, List.append_nil, if_true, if_false, bnd_some, mp_some, cnd_t, cnd_f, gd_no, gd_tt, gd_tf, gd_ft, gd_ff, alenS_s, alen_sl, alen_ns, abin_add, abin_sub, abin_mul, abin_eql, abin_neq, abin_lss, abin_leq, abin_gtr, abin_geq, abin_seql, abin_sneq, abin_slss, aun_not, aun_neg, agn_some, aeqN_nf, aeqN_f, aeqN_np, aeqN_p, anilc_p, aeqB_t, aeqB_f, aconv_i, apick_b, cond_true, cond_false, decide_true, decide_false, Bool.not_true, Bool.not_false, aext_t, ofPart_c, ofPart_a, part?_c, part?_a, cells?_c, cells?_a, tupN_2, tupN_3, Option.map_some, Option.some.injEq, List.getElem?_cons_zero, List.getElem?_cons_succ, not_true_eq_false, not_false_eq_true, quiet_same, bytesI_length, Option.join_some, List.append_assoc, List.cons_append, List.nil_append, List.length_append, List.length_cons, List.length_nil, Nat.zero_add, Nat.add_zero, rd_at, rd_at0, set_at, set_at0, List.set_cons_zero, List.set_cons_succ, ne_eq, decide_not, quiet_ext, newOk_some, List.cons_prefix_cons, List.nil_prefix, List.drop_succ_cons, List.drop_zero, List.all_cons, List.all_nil, Bool.and_true, true_and, and_true, aloadN_at, aloadN_at0, aload1_at, aload1_at0, astoreN_at, astoreN_at0, astore1_at, astore1_at0, aslA_at, aslA_at0, ldN_all, ld1_row, stN_all, st1_row, slr_all, Nat.reduceAdd, Nat.reduceMul, Nat.reduceLT, c1, c2, hB, hR, hC, hl, hcl] <;> rfl⟩
  obtain ⟨g', e⟩ := key (ro h)
  exact S_table_Get_flat e (by simp [flats_cleanC])

end Go.Proofs.Ytdgggnlbdoiloaa
end
section
namespace Go.Proofs.Ytdgggnlbdoiloaa
open Go Go.Esc

def rawV (D : Dev) (n i : Int) : List UInt8 := rawT (blk D (whereB D.length n i)) (whereK D.length n i).toNat
def inoV (D : Dev) (n i : Int) : List Cell := bif isInoL D.length n i then cleanC (rawV D n i) else inoC 0 0 0 0 (zI 7)
def kdV (D : Dev) (n i : Int) : Int := bif isInoL D.length n i then (bif cleanI (rawV D n i) then getK (rawV D n i) else 0) else 0
theorem inoV_form (D : Dev) (n i : Int) : ∃ l s p d, inoV D n i = inoC (kdV D n i) l s p d ∧ d.length = 7 := by
  unfold inoV kdV
  cases isInoL D.length n i with
  | false => exact ⟨0, 0, 0, zI 7, rfl, zI_length⟩
  | true =>
    unfold cleanC
    cases cleanI (rawV D n i) with
    | false => exact ⟨0, 0, 0, zI 7, rfl, zI_length⟩
    | true => exact ⟨_, _, _, _, rfl, getD7_length⟩
theorem flats_inoV (D : Dev) (n i : Int) : flats (inoV D n i) = true := by
  obtain ⟨l, s, p, d, e, hd⟩ := inoV_form D n i
  rw [e]
  exact flats_encI (l := _ :: _ :: _ :: _ :: d)

theorem view_Inode_no {b n m i : Int} {f : Cell} {h : Heap} (hi : isInoL b n i = false) : S_view_View_Inode [.a (vwC b n m f), .c (.i .i64 i)] h = some (.a (inoC 0 0 0 0 (zI 7)), h) := by
  have key : ∀ g, ∃ g', R_view_View_Inode 0 [.a (vwC b n m f), .c (.i .i64 i)] g = some (.a (inoC 0 0 0 0 (zI 7)), g') := by
    intro g
    have l3 := vw_l3 (b := b) (n := n) (m := m) (f := f)
    have hW := fun h => geom_Where_eq (b := b) (n := n) (m := m) (i := i) (h := h)
    simp only [hi] at hW
    have hf := afill_ino0
    have hl := ino0_length
    rw [R_view_View_Inode_eq, ino0_eq]
    generalize vwC b n m f = V at *
    generalize inoC 0 0 0 0 (zI 7) = z at *
    exact ⟨_, by simp only [afAddr_p, List.append_nil, if_true, if_false, bnd_some, mp_some, cnd_t, cnd_f, gd_no, gd_tt, gd_tf, gd_ft, gd_ff, alenS_s, alen_sl, alen_ns, abin_add, abin_sub, abin_mul, abin_eql, abin_neq, abin_lss, abin_leq, abin_gtr, abin_geq, abin_seql, abin_sneq, abin_slss, aun_not, aun_neg, agn_some, aeqN_nf, aeqN_f, aeqN_np, aeqN_p, anilc_p, aeqB_t, aeqB_f, aconv_i, apick_b, cond_true, cond_false, decide_true, decide_false, Bool.not_true, Bool.not_false, aext_t, ofPart_c, ofPart_a, part?_c, part?_a, cells?_c, cells?_a, tupN_2, tupN_3, Option.map_some, Option.some.injEq, List.getElem?_cons_zero, List.getElem?_cons_succ, not_true_eq_false, not_false_eq_true, quiet_same, bytesI_length, Option.join_some, List.append_assoc, List.cons_append, List.nil_append, List.length_append, List.length_cons, List.length_nil, Nat.zero_add, Nat.add_zero, rd_at, rd_at0, set_at, set_at0, List.set_cons_zero, List.set_cons_succ, ne_eq, decide_not, quiet_ext, newOk_some, List.cons_prefix_cons, List.nil_prefix, List.drop_succ_cons, List.drop_zero, List.all_cons, List.all_nil, Bool.and_true, true_and, and_true, aloadN_at, aloadN_at0, aload1_at, aload1_at0, astoreN_at, astoreN_at0, astore1_at, astore1_at0, aslA_at, aslA_at0, ldN_all, ld1_row, stN_all, st1_row, slr_all, Nat.reduceAdd, Nat.reduceMul, Nat.reduceLT, l3, hW, hf, hl] <;> rfl⟩
  obtain ⟨g', e⟩ := key (ro h)
  exact S_view_View_Inode_flat e rfl

theorem view_Inode_eq {n m i : Int} {f : Cell} {D : Dev} {h : Heap} (hD : okD D) (hv : IsView h f D) : S_view_View_Inode [.a (vwC D.length n m f), .c (.i .i64 i)] h = some (.a (inoV D n i), h) := by
  cases hi : isInoL D.length n i with
  | false =>
    rw [view_Inode_no hi]
    unfold inoV
    rw [hi]; rfl
  | true =>
    have key : ∀ g, IsView g f D → ∃ g', R_view_View_Inode 0 [.a (vwC D.length n m f), .c (.i .i64 i)] g = some (.a (inoV D n i), g') := by
      intro g hv
      have l3 := vw_l3 (b := D.length) (n := n) (m := m) (f := f)
      have l4 := vw_l4 (b := D.length) (n := n) (m := m) (f := f)
      have hW := fun h => geom_Where_eq (b := D.length) (n := n) (m := m) (i := i) (h := h)
      simp only [hi] at hW
      have hf := afill_ino0
      have hl := ino0_length
      have hK : ∃ j : Nat, whereK D.length n i = j ∧ j < 8 := by
        refine ⟨(whereK D.length n i).toNat, ?_, ?_⟩ <;> unfold whereK <;> rw [hi, cond_true] <;> omega
      obtain ⟨j, hj, hj8⟩ := hK
      have hB := view_Block_eq (n := n) (m := m) (no := whereB D.length n i) (h := g ++ [some (Row.mk (vwC D.length n m f) true), some (Row.mk (inoC 0 0 0 0 (zI 7)) true)]) hD (hv.more _)
      have hG := fun h => table_Get_at (b := blk D (whereB D.length n i)) (j := j) (h := h) (blk_length hD) hj8
      have er : rawT (blk D (whereB D.length n i)) j = rawV D n i := by unfold rawV; rw [hj, Int.toNat_natCast]
      simp only [er] at hG
      simp only [hj] at hW
      have hcl := cleanC_length (b := rawV D n i)
      have ei : inoV D n i = cleanC (rawV D n i) := by unfold inoV; rw [hi]; rfl
      rw [R_view_View_Inode_eq, ino0_eq, ei]
      generalize vwC D.length n m f = V at *
      generalize inoC 0 0 0 0 (zI 7) = z at *
      generalize cleanC (rawV D n i) = y at *
      exact ⟨_, by simp only [afAddr_p, List.append_nil, if_true, if_false, bnd_some, mp_some, cnd_t, cnd_f, gd_no, gd_tt, gd_tf, gd_ft, gd_ff, alenS_s, alen_sl, alen_ns, abin_add, abin_sub, abin_mul, abin_eql, abin_neq, abin_lss, abin_leq, abin_gtr, abin_geq, abin_seql, abin_sneq, abin_slss, aun_not, aun_neg, agn_some, aeqN_nf, aeqN_f, aeqN_np, aeqN_p, anilc_p, aeqB_t, aeqB_f, aconv_i, apick_b, cond_true, cond_false, decide_true, decide_false, Bool.not_true, Bool.not_false, aext_t, ofPart_c, ofPart_a, part?_c, part?_a, cells?_c, cells?_a, tupN_2, tupN_3, Option.map_some, Option.some.injEq, List.getElem?_cons_zero, List.getElem?_cons_succ, not_true_eq_false, not_false_eq_true, quiet_same, bytesI_length, Option.join_some, List.append_assoc, List.cons_append, List.nil_append, List.length_append, List.length_cons, List.length_nil, Nat.zero_add, Nat.add_zero, rd_at, rd_at0, set_at, set_at0, List.set_cons_zero, List.set_cons_succ, ne_eq, decide_not, quiet_ext, newOk_some, List.cons_prefix_cons, List.nil_prefix, List.drop_succ_cons, List.drop_zero, List.all_cons, List.all_nil, Bool.and_true, true_and, and_true, aloadN_at, aloadN_at0, aload1_at, aload1_at0, astoreN_at, astoreN_at0, astore1_at, astore1_at0, aslA_at, aslA_at0, ldN_all, ld1_row, stN_all, st1_row, slr_all, Nat.reduceAdd, Nat.reduceMul, Nat.reduceLT, l3, l4, hW, hB, hG, hf, hl, hcl] <;> rfl⟩
    obtain ⟨g', e⟩ := key (ro h) hv.ro
    exact S_view_View_Inode_flat e (flats_inoV D n i)

end Go.Proofs.Ytdgggnlbdoiloaa
end
section
namespace Go.Proofs.Ytdgggnlbdoiloaa
open Go Go.Esc

def hasC (b : List UInt8) (i : Int) : Bool := decide (0 ≤ i) && decide (i < 2048) && decide ((b.getD (i / 8).toNat 0).toNat / 2 ^ (i % 8).toNat % 2 = 1)
def maskC (i : Nat) : Nat := 2 ^ (i % 8)
theorem maskC_lt (i : Nat) : maskC i < 256 := by
  have h : i % 8 < 8 := by omega
  unfold maskC
  generalize i % 8 = j at *
  have : j = 0 ∨ j = 1 ∨ j = 2 ∨ j = 3 ∨ j = 4 ∨ j = 5 ∨ j = 6 ∨ j = 7 := by omega
  rcases this with rfl | rfl | rfl | rfl | rfl | rfl | rfl | rfl <;> decide

theorem chart_where_in {i : Nat} {h : Heap} (hi : i < 2048) : S_chart_where [.c (.i .i64 (i : Int))] h = some (.t [.c (.i .i64 ((i / 8 : Nat) : Int)), .c (.i .u8 (maskC i : Int)), .c (.b true)], h) := by
  refine S_chart_where_flat (n := 0) (h2 := ro h) ?_ rfl
  have c1 : ¬ (i : Int) < 0 := by omega
  have c2 : ¬ (2048 : Int) ≤ i := by omega
  have q1 : abin .quo (.c (.i .i64 (i : Int))) (.c (.i .i64 8)) = some (.c (.i .i64 ((i / 8 : Nat) : Int))) := by
    rw [quo_i64 (by omega) (by omega) (by omega)]; congr 3
  have r1 : abin .rem (.c (.i .i64 (i : Int))) (.c (.i .i64 8)) = some (.c (.i .i64 ((i % 8 : Nat) : Int))) := by
    rw [rem_i (by omega) (by omega)]; congr 3
  have w1 : IntKind.wrap .u64 ((i % 8 : Nat) : Int) = ((i % 8 : Nat) : Int) := wrap_u64 (by omega) (by omega)
  have s1 : abin .shl (.c (.i .u8 1)) (.c (.i .u64 ((i % 8 : Nat) : Int))) = some (.c (.i .u8 (maskC i : Int))) := by
    have hm := maskC_lt i
    rw [abin_shl (by omega), Int.toNat_natCast]
    have e1 : Nat.min (i % 8) IntKind.u8.bits = i % 8 := by
      have : IntKind.u8.bits = 8 := rfl
      rw [this]; exact Nat.min_eq_left (by omega)
    have e2 : (1 : Int) * 2 ^ (i % 8) = (maskC i : Int) := by unfold maskC; rw [Int.natCast_pow]; simp
    rw [e1, e2, wrap_u8 (by omega) (by omega)]
  rw [R_chart_where_eq]
  simp only [afAddr_p, List.append_nil, if_true, if_false, bnd_some, mp_some, cnd_t, cnd_f, gd_no, gd_tt, gd_tf, gd_ft, gd_ff, alenS_s, alen_sl, alen_ns, abin_add, abin_sub, abin_mul, abin_eql, abin_neq, abin_lss, abin_leq, abin_gtr, abin_geq, abin_seql, abin_sneq, abin_slss, aun_not, aun_neg, agn_some, aeqN_nf, aeqN_f, aeqN_np, aeqN_p, anilc_p, aeqB_t, aeqB_f, aconv_i, apick_b, cond_true, cond_false, decide_true, decide_false, Bool.not_true, Bool.not_false, aext_t, ofPart_c, ofPart_a, part?_c, part?_a, cells?_c, cells?_a, tupN_2, tupN_3, Option.map_some, Option.some.injEq, List.getElem?_cons_zero, List.getElem?_cons_succ, not_true_eq_false, not_false_eq_true, quiet_same, bytesI_length, Option.join_some, List.append_assoc, List.cons_append, List.nil_append, List.length_append, List.length_cons, List.length_nil, Nat.zero_add, Nat.add_zero, rd_at, rd_at0, set_at, set_at0, List.set_cons_zero, List.set_cons_succ, ne_eq, decide_not, quiet_ext, newOk_some, List.cons_prefix_cons, List.nil_prefix, List.drop_succ_cons, List.drop_zero, List.all_cons, List.all_nil, Bool.and_true, true_and, and_true, c1, c2, q1, r1, w1, s1]

theorem chart_where_out {i : Int} {h : Heap} (hi : i < 0 ∨ 2048 ≤ i) : S_chart_where [.c (.i .i64 i)] h = some (.t [.c (.i .i64 0), .c (.i .u8 0), .c (.b false)], h) := by
  refine S_chart_where_flat (n := 0) (h2 := ro h) ?_ rfl
  rw [R_chart_where_eq]
  by_cases c1 : i < 0
  · simp only [afAddr_p, List.append_nil, if_true, if_false, bnd_some, mp_some, cnd_t, cnd_f, gd_no, gd_tt, gd_tf, gd_ft, gd_ff, alenS_s, alen_sl, alen_ns, abin_add, abin_sub, abin_mul, abin_eql, abin_neq, abin_lss, abin_leq, abin_gtr, abin_geq, abin_seql, abin_sneq, abin_slss, aun_not, aun_neg, agn_some, aeqN_nf, aeqN_f, aeqN_np, aeqN_p, anilc_p, aeqB_t, aeqB_f, aconv_i, apick_b, cond_true, cond_false, decide_true, decide_false, Bool.not_true, Bool.not_false, aext_t, ofPart_c, ofPart_a, part?_c, part?_a, cells?_c, cells?_a, tupN_2, tupN_3, Option.map_some, Option.some.injEq, List.getElem?_cons_zero, List.getElem?_cons_succ, not_true_eq_false, not_false_eq_true, quiet_same, bytesI_length, Option.join_some, List.append_assoc, List.cons_append, List.nil_append, List.length_append, List.length_cons, List.length_nil, Nat.zero_add, Nat.add_zero, rd_at, rd_at0, set_at, set_at0, List.set_cons_zero, List.set_cons_succ, ne_eq, decide_not, quiet_ext, newOk_some, List.cons_prefix_cons, List.nil_prefix, List.drop_succ_cons, List.drop_zero, List.all_cons, List.all_nil, Bool.and_true, true_and, and_true, c1]
  · have c2 : 2048 ≤ i := by omega
    simp only [afAddr_p, List.append_nil, if_true, if_false, bnd_some, mp_some, cnd_t, cnd_f, gd_no, gd_tt, gd_tf, gd_ft, gd_ff, alenS_s, alen_sl, alen_ns, abin_add, abin_sub, abin_mul, abin_eql, abin_neq, abin_lss, abin_leq, abin_gtr, abin_geq, abin_seql, abin_sneq, abin_slss, aun_not, aun_neg, agn_some, aeqN_nf, aeqN_f, aeqN_np, aeqN_p, anilc_p, aeqB_t, aeqB_f, aconv_i, apick_b, cond_true, cond_false, decide_true, decide_false, Bool.not_true, Bool.not_false, aext_t, ofPart_c, ofPart_a, part?_c, part?_a, cells?_c, cells?_a, tupN_2, tupN_3, Option.map_some, Option.some.injEq, List.getElem?_cons_zero, List.getElem?_cons_succ, not_true_eq_false, not_false_eq_true, quiet_same, bytesI_length, Option.join_some, List.append_assoc, List.cons_append, List.nil_append, List.length_append, List.length_cons, List.length_nil, Nat.zero_add, Nat.add_zero, rd_at, rd_at0, set_at, set_at0, List.set_cons_zero, List.set_cons_succ, ne_eq, decide_not, quiet_ext, newOk_some, List.cons_prefix_cons, List.nil_prefix, List.drop_succ_cons, List.drop_zero, List.all_cons, List.all_nil, Bool.and_true, true_and, and_true, c1, c2]

theorem and_u8 {a b : Nat} (ha : a < 256) (hb : b < 256) : abin .and (.c (.i .u8 a)) (.c (.i .u8 b)) = some (.c (.i .u8 ((a &&& b : Nat) : Int))) := by
  have h1 : a &&& b < 2 ^ 8 := Nat.and_lt_two_pow _ hb
  rw [abin_and]
  have e : (BitVec.ofInt IntKind.u8.bits (a : Int) &&& BitVec.ofInt IntKind.u8.bits (b : Int)).toNat = a &&& b := by
    have h8 : IntKind.u8.bits = 8 := rfl
    rw [BitVec.toNat_and, BitVec.toNat_ofInt, BitVec.toNat_ofInt, h8]
    have e1 : ((a : Int) % (2 ^ 8 : Nat)).toNat = a := by omega
    have e2 : ((b : Int) % (2 ^ 8 : Nat)).toNat = b := by omega
    rw [e1, e2]
  rw [e, wrap_u8 (by omega) (by omega)]
theorem or_u8 {a b : Nat} (ha : a < 256) (hb : b < 256) : abin .or (.c (.i .u8 a)) (.c (.i .u8 b)) = some (.c (.i .u8 ((a ||| b : Nat) : Int))) := by
  have h1 : a ||| b < 2 ^ 8 := Nat.or_lt_two_pow ha hb
  rw [abin_or]
  have e : (BitVec.ofInt IntKind.u8.bits (a : Int) ||| BitVec.ofInt IntKind.u8.bits (b : Int)).toNat = a ||| b := by
    have h8 : IntKind.u8.bits = 8 := rfl
    rw [BitVec.toNat_or, BitVec.toNat_ofInt, BitVec.toNat_ofInt, h8]
    have e1 : ((a : Int) % (2 ^ 8 : Nat)).toNat = a := by omega
    have e2 : ((b : Int) % (2 ^ 8 : Nat)).toNat = b := by omega
    rw [e1, e2]
  rw [e, wrap_u8 (by omega) (by omega)]

theorem and_bit {a j : Nat} : (a &&& 2 ^ j = 0) ↔ ¬ a / 2 ^ j % 2 = 1 := by
  have h := Nat.testBit_eq_decide_div_mod_eq (x := a) (i := j)
  constructor
  · intro h0 h1
    rw [decide_eq_true h1] at h
    have h2 : (a &&& 2 ^ j).testBit j = true := by rw [Nat.testBit_and, h, Nat.testBit_two_pow, decide_eq_true rfl]; rfl
    rw [h0, Nat.zero_testBit] at h2
    cases h2
  · intro h1
    rw [decide_eq_false h1] at h
    refine Nat.eq_of_testBit_eq fun i => ?_
    rw [Nat.testBit_and, Nat.testBit_two_pow, Nat.zero_testBit]
    by_cases c : j = i
    · subst c; rw [h]; rfl
    · rw [decide_eq_false c, Bool.and_false]

theorem chart_Has_eq {b : List UInt8} {i : Int} {h : Heap} (hb : b.length = 256) : S_chart_Has [.a (encB b), .c (.i .i64 i)] h = some (.c (.b (hasC b i)), h) := by
  have key : ∀ g, ∃ g', R_chart_Has 0 [.a (encB b), .c (.i .i64 i)] g = some (.c (.b (hasC b i)), g') := by
    intro g
    rw [R_chart_Has_eq]
    by_cases c : 0 ≤ i ∧ i < 2048
    · obtain ⟨k, rfl⟩ : ∃ k : Nat, i = k := ⟨i.toNat, by omega⟩
      have hk : k < 2048 := by omega
      have hW := fun h => chart_where_in (h := h) hk
      have hlt : k / 8 < b.length := by omega
      have ad := iAddrA_of (k := .i64) (id := g.length) (off := 0) (sz := 1) (j := k / 8) (n := 256) (by omega)
      rw [Nat.mul_one, Nat.zero_add] at ad
      have l1 : (encB b)[k / 8]? = some (.i .u8 b[k / 8].toNat) := by rw [encB_get, List.getElem?_eq_getElem hlt]; rfl
      have a1 := and_u8 (a := b[k / 8].toNat) (b := maskC k) b[k / 8].toNat_lt (maskC_lt k)
      have e : hasC b k = decide (¬ (((b[k / 8].toNat &&& maskC k : Nat) : Int) = 0)) := by
        have h1 : (k : Int) / 8 = ((k / 8 : Nat) : Int) := rfl
        have h2 : (k : Int) % 8 = ((k % 8 : Nat) : Int) := rfl
        unfold hasC
        rw [decide_eq_true c.1, decide_eq_true c.2, Bool.true_and, Bool.true_and, h1, h2, Int.toNat_natCast, Int.toNat_natCast, List.getD_eq_getElem?_getD, List.getElem?_eq_getElem hlt, Option.getD_some]
        have := and_bit (a := b[k / 8].toNat) (j := k % 8)
        unfold maskC
        by_cases c : b[k / 8].toNat / 2 ^ (k % 8) % 2 = 1
        · rw [decide_eq_true c, decide_eq_true]; intro h; exact this.1 (by omega) c
        · rw [decide_eq_false c, decide_eq_false]; intro h; exact h (by have := this.2 c; omega)
      rw [e]
      generalize encB b = y at *
      exact ⟨_, by simp only [afAddr_p, List.append_nil, if_true, if_false, bnd_some, mp_some, cnd_t, cnd_f, gd_no, gd_tt, gd_tf, gd_ft, gd_ff, alenS_s, alen_sl, alen_ns, abin_add, abin_sub, abin_mul, abin_eql, abin_neq, abin_lss, abin_leq, abin_gtr, abin_geq, abin_seql, abin_sneq, abin_slss, aun_not, aun_neg, agn_some, aeqN_nf, aeqN_f, aeqN_np, aeqN_p, anilc_p, aeqB_t, aeqB_f, aconv_i, apick_b, cond_true, cond_false, decide_true, decide_false, Bool.not_true, Bool.not_false, aext_t, ofPart_c, ofPart_a, part?_c, part?_a, cells?_c, cells?_a, tupN_2, tupN_3, Option.map_some, Option.some.injEq, List.getElem?_cons_zero, List.getElem?_cons_succ, not_true_eq_false, not_false_eq_true, quiet_same, bytesI_length, Option.join_some, List.append_assoc, List.cons_append, List.nil_append, List.length_append, List.length_cons, List.length_nil, Nat.zero_add, Nat.add_zero, rd_at, rd_at0, set_at, set_at0, List.set_cons_zero, List.set_cons_succ, ne_eq, decide_not, quiet_ext, newOk_some, List.cons_prefix_cons, List.nil_prefix, List.drop_succ_cons, List.drop_zero, List.all_cons, List.all_nil, Bool.and_true, true_and, and_true, aloadN_at, aloadN_at0, aload1_at, aload1_at0, astoreN_at, astoreN_at0, astore1_at, astore1_at0, aslA_at, aslA_at0, ldN_all, ld1_row, stN_all, st1_row, slr_all, Nat.reduceAdd, Nat.reduceMul, Nat.reduceLT, hW, ad, l1, a1] <;> rfl⟩
    · have hW := fun h => chart_where_out (i := i) (h := h) (by omega)
      have e : hasC b i = false := by
        unfold hasC
        rw [Bool.and_eq_false_iff, Bool.and_eq_false_iff, decide_eq_false_iff_not, decide_eq_false_iff_not]; omega
      rw [e]
      generalize encB b = y at *
      exact ⟨_, by simp only [afAddr_p, List.append_nil, if_true, if_false, bnd_some, mp_some, cnd_t, cnd_f, gd_no, gd_tt, gd_tf, gd_ft, gd_ff, alenS_s, alen_sl, alen_ns, abin_add, abin_sub, abin_mul, abin_eql, abin_neq, abin_lss, abin_leq, abin_gtr, abin_geq, abin_seql, abin_sneq, abin_slss, aun_not, aun_neg, agn_some, aeqN_nf, aeqN_f, aeqN_np, aeqN_p, anilc_p, aeqB_t, aeqB_f, aconv_i, apick_b, cond_true, cond_false, decide_true, decide_false, Bool.not_true, Bool.not_false, aext_t, ofPart_c, ofPart_a, part?_c, part?_a, cells?_c, cells?_a, tupN_2, tupN_3, Option.map_some, Option.some.injEq, List.getElem?_cons_zero, List.getElem?_cons_succ, not_true_eq_false, not_false_eq_true, quiet_same, bytesI_length, Option.join_some, List.append_assoc, List.cons_append, List.nil_append, List.length_append, List.length_cons, List.length_nil, Nat.zero_add, Nat.add_zero, rd_at, rd_at0, set_at, set_at0, List.set_cons_zero, List.set_cons_succ, ne_eq, decide_not, quiet_ext, newOk_some, List.cons_prefix_cons, List.nil_prefix, List.drop_succ_cons, List.drop_zero, List.all_cons, List.all_nil, Bool.and_true, true_and, and_true, aloadN_at, aloadN_at0, aload1_at, aload1_at0, astoreN_at, astoreN_at0, astore1_at, astore1_at0, aslA_at, aslA_at0, ldN_all, ld1_row, stN_all, st1_row, slr_all, Nat.reduceAdd, Nat.reduceMul, Nat.reduceLT, hW] <;> rfl⟩
  obtain ⟨g', e⟩ := key (ro h)
  exact S_chart_Has_flat e rfl

end Go.Proofs.Ytdgggnlbdoiloaa
end
section
namespace Go.Proofs.Ytdgggnlbdoiloaa
open Go Go.Esc

def inosF (kd : Int → Int) : Nat → Nat → List Int
  | 0, _ => []
  | e + 1, k => if kd ((k : Int) + 1) = 0 then inosF kd e (k + 1) else ((k : Int) + 1) :: inosF kd e (k + 1)
theorem inosF_length (kd : Int → Int) : ∀ e k, (inosF kd e k).length ≤ e
  | 0, k => by simp [inosF]
  | e + 1, k => by
    have := inosF_length kd e (k + 1)
    unfold inosF
    split <;> simp <;> omega

theorem inodes_loop {b n m : Int} {f : Cell} {kd : Int → Int} {g : Heap} {p q : Nat} (h1 : rd g p = some ⟨vwC b n m f, true⟩)
    (hI : ∀ (i : Int) (h : Heap), Low g.length g h → ∃ l s q d, S_view_View_Inode [.a (vwC b n m f), .c (.i .i64 i)] h = some (.a (inoC (kd i) l s q d), h)) :
    ∀ (e k M id : Nat) (h : Heap) (l : List Int), k + e = 128 → e < M → l.length ≤ k → Low g.length g h → g.length ≤ id → rd h id = some ⟨encI l, true⟩ →
    ∃ v' h', view_View_Inodes_l0 q M (.c (.p p 0)) (.c (.sl id 0 l.length 1)) (.c (.i .i64 (k : Int))) h = some (v', h') ∧ Out g.length h' v' 1 (l ++ inosF kd e k).length (encI (l ++ inosF kd e k))
  | e, k, 0, id, h, l, _, hm, _, _, _, _ => by omega
  | 0, k, M + 1, id, h, l, hk, hm, hl, hlow, hid, hr => by
    have c0 : ¬ (k : Int) < 128 := by omega
    rw [view_View_Inodes_l0_eq, inosF, List.append_nil]
    exact ⟨_, _, by simp only [afAddr_p, List.append_nil, if_true, if_false, bnd_some, mp_some, cnd_t, cnd_f, gd_no, gd_tt, gd_tf, gd_ft, gd_ff, alenS_s, alen_sl, alen_ns, abin_add, abin_sub, abin_mul, abin_eql, abin_neq, abin_lss, abin_leq, abin_gtr, abin_geq, abin_seql, abin_sneq, abin_slss, aun_not, aun_neg, agn_some, aeqN_nf, aeqN_f, aeqN_np, aeqN_p, anilc_p, aeqB_t, aeqB_f, aconv_i, apick_b, cond_true, cond_false, decide_true, decide_false, Bool.not_true, Bool.not_false, aext_t, ofPart_c, ofPart_a, part?_c, part?_a, cells?_c, cells?_a, tupN_2, tupN_3, Option.map_some, Option.some.injEq, List.getElem?_cons_zero, List.getElem?_cons_succ, not_true_eq_false, not_false_eq_true, quiet_same, bytesI_length, Option.join_some, List.append_assoc, List.cons_append, List.nil_append, List.length_append, List.length_cons, List.length_nil, Nat.zero_add, Nat.add_zero, rd_at, rd_at0, set_at, set_at0, List.set_cons_zero, List.set_cons_succ, ne_eq, decide_not, quiet_ext, newOk_some, List.cons_prefix_cons, List.nil_prefix, List.drop_succ_cons, List.drop_zero, List.all_cons, List.all_nil, Bool.and_true, true_and, and_true, c0] <;> rfl, by rw [encI_length, Nat.mul_one], id, rfl, hid, hr⟩
  | e + 1, k, M + 1, id, h, l, hk, hm, hl, hlow, hid, hr => by
    have c0 : (k : Int) < 128 := by omega
    have w1 : IntKind.wrap .i64 ((k : Int) + 1) = (k : Int) + 1 := wrap_i64 (by omega) (by omega)
    have hV := loadAll (h := h) (id := p) (hlow.rd h1) (n := 4) rfl
    obtain ⟨l', s', q', d', hi⟩ := hI ((k : Int) + 1) h hlow
    have f1 : afld1 (.a (inoC (kd ((k : Int) + 1)) l' s' q' d')) 0 = some (.c (.i .i64 (kd ((k : Int) + 1)))) := rfl
    have ek : (k : Int) + 1 = ((k + 1 : Nat) : Int) := by omega
    rw [view_View_Inodes_l0_eq, inosF]
    by_cases c : kd ((k : Int) + 1) = 0
    · obtain ⟨v', h', g1, g2⟩ := inodes_loop (q := q) h1 hI e (k + 1) M id h l (by omega) (by omega) (by omega) hlow hid hr
      rw [if_pos c]
      rw [← ek] at g1
      refine ⟨v', h', ?_, g2⟩
      generalize vwC b n m f = V at *
      simp only [afAddr_p, List.append_nil, if_true, if_false, bnd_some, mp_some, cnd_t, cnd_f, gd_no, gd_tt, gd_tf, gd_ft, gd_ff, alenS_s, alen_sl, alen_ns, abin_add, abin_sub, abin_mul, abin_eql, abin_neq, abin_lss, abin_leq, abin_gtr, abin_geq, abin_seql, abin_sneq, abin_slss, aun_not, aun_neg, agn_some, aeqN_nf, aeqN_f, aeqN_np, aeqN_p, anilc_p, aeqB_t, aeqB_f, aconv_i, apick_b, cond_true, cond_false, decide_true, decide_false, Bool.not_true, Bool.not_false, aext_t, ofPart_c, ofPart_a, part?_c, part?_a, cells?_c, cells?_a, tupN_2, tupN_3, Option.map_some, Option.some.injEq, List.getElem?_cons_zero, List.getElem?_cons_succ, not_true_eq_false, not_false_eq_true, quiet_same, bytesI_length, Option.join_some, List.append_assoc, List.cons_append, List.nil_append, List.length_append, List.length_cons, List.length_nil, Nat.zero_add, Nat.add_zero, rd_at, rd_at0, set_at, set_at0, List.set_cons_zero, List.set_cons_succ, ne_eq, decide_not, quiet_ext, newOk_some, List.cons_prefix_cons, List.nil_prefix, List.drop_succ_cons, List.drop_zero, List.all_cons, List.all_nil, Bool.and_true, true_and, and_true, c0, hV, w1, hi, f1, c, eq_self, view_View_Inodes_j0_eq]
      exact g1
    · have ef : afill [Cell.i .i64 0] [(0, 1, .c (.i .i64 ((k : Int) + 1)))] = some (encI [(k : Int) + 1]) := rfl
      obtain ⟨h', a1, a2, a3, a4, a5⟩ := push (n := l.length) (sz := 1) (ys := encI [(k : Int) + 1]) hlow hr (by rw [encI_length, Nat.mul_one]) hid rfl (by omega) (by omega)
      rw [← encI_append] at a2
      obtain ⟨v', h'', g1, g2⟩ := inodes_loop (q := q) h1 hI e (k + 1) M (h.length + 1) h' (l ++ [(k : Int) + 1]) (by omega) (by omega) (by simp; omega) a3 a4 a2
      rw [List.append_assoc, List.singleton_append] at g2
      have el : (l ++ [(k : Int) + 1]).length = l.length + 1 := by simp
      rw [el, ← ek] at g1
      rw [if_neg c]
      refine ⟨v', h'', ?_, g2⟩
      generalize vwC b n m f = V at *
      simp only [afAddr_p, List.append_nil, if_true, if_false, bnd_some, mp_some, cnd_t, cnd_f, gd_no, gd_tt, gd_tf, gd_ft, gd_ff, alenS_s, alen_sl, alen_ns, abin_add, abin_sub, abin_mul, abin_eql, abin_neq, abin_lss, abin_leq, abin_gtr, abin_geq, abin_seql, abin_sneq, abin_slss, aun_not, aun_neg, agn_some, aeqN_nf, aeqN_f, aeqN_np, aeqN_p, anilc_p, aeqB_t, aeqB_f, aconv_i, apick_b, cond_true, cond_false, decide_true, decide_false, Bool.not_true, Bool.not_false, aext_t, ofPart_c, ofPart_a, part?_c, part?_a, cells?_c, cells?_a, tupN_2, tupN_3, Option.map_some, Option.some.injEq, List.getElem?_cons_zero, List.getElem?_cons_succ, not_true_eq_false, not_false_eq_true, quiet_same, bytesI_length, Option.join_some, List.append_assoc, List.cons_append, List.nil_append, List.length_append, List.length_cons, List.length_nil, Nat.zero_add, Nat.add_zero, rd_at, rd_at0, set_at, set_at0, List.set_cons_zero, List.set_cons_succ, ne_eq, decide_not, quiet_ext, newOk_some, List.cons_prefix_cons, List.nil_prefix, List.drop_succ_cons, List.drop_zero, List.all_cons, List.all_nil, Bool.and_true, true_and, and_true, c0, hV, w1, hi, f1, c, eq_self, view_View_Inodes_j0_eq, ef, a1]
      exact g1

theorem view_Inodes_of {b n m : Int} {f : Cell} {kd : Int → Int} {h : Heap} (hI : ∀ (i : Int) (g : Heap), Low h.length (ro h) g → ∃ l s q d, S_view_View_Inode [.a (vwC b n m f), .c (.i .i64 i)] g = some (.a (inoC (kd i) l s q d), g)) :
    S_view_View_Inodes [.a (vwC b n m f)] h = some (.c (.sl h.length 0 (inosF kd 128 0).length 1), h ++ [some ⟨encI (inosF kd 128 0), true⟩]) := by
  have key : ∃ v g', R_view_View_Inodes 129 [.a (vwC b n m f)] (ro h) = some (v, g') ∧ Out (ro h).length g' v 1 (inosF kd 128 0).length (encI (inosF kd 128 0)) := by
    have hl := ro_length (h := h)
    generalize hg : ro h = g at *
    obtain ⟨v', h', g1, g2⟩ := inodes_loop (p := g.length) (q := 129) (g := g ++ [some (Row.mk (vwC b n m f) true)]) (by simp) (fun i k hk => hI i k ⟨by omega, by have := hk.2.1; simp at this; omega, fun id hid => by rw [hk.2.2 id (by simp; omega)]; exact rd_append_left (by omega)⟩)
      128 0 129 (g.length + 2) (g ++ [some (Row.mk (vwC b n m f) true), some (Row.mk [] true), some (Row.mk [] true)]) [] (by omega) (by omega) (by simp)
      (by
        have := (Low.refl (h := g ++ [some (Row.mk (vwC b n m f) true)]) (Nat.le_refl _)).new [some (Row.mk [] true), some (Row.mk [] true)]
        simpa using this) (by simp) (by simp [encI])
    rw [List.nil_append] at g2
    rw [List.length_nil] at g1
    rw [R_view_View_Inodes_eq]
    refine ⟨v', h', ?_, g2.1, ?_⟩
    · generalize vwC b n m f = V at *
      simp only [afAddr_p, List.append_nil, if_true, if_false, bnd_some, mp_some, cnd_t, cnd_f, gd_no, gd_tt, gd_tf, gd_ft, gd_ff, alenS_s, alen_sl, alen_ns, abin_add, abin_sub, abin_mul, abin_eql, abin_neq, abin_lss, abin_leq, abin_gtr, abin_geq, abin_seql, abin_sneq, abin_slss, aun_not, aun_neg, agn_some, aeqN_nf, aeqN_f, aeqN_np, aeqN_p, anilc_p, aeqB_t, aeqB_f, aconv_i, apick_b, cond_true, cond_false, decide_true, decide_false, Bool.not_true, Bool.not_false, aext_t, ofPart_c, ofPart_a, part?_c, part?_a, cells?_c, cells?_a, tupN_2, tupN_3, Option.map_some, Option.some.injEq, List.getElem?_cons_zero, List.getElem?_cons_succ, not_true_eq_false, not_false_eq_true, quiet_same, bytesI_length, Option.join_some, List.append_assoc, List.cons_append, List.nil_append, List.length_append, List.length_cons, List.length_nil, Nat.zero_add, Nat.add_zero, rd_at, rd_at0, set_at, set_at0, List.set_cons_zero, List.set_cons_succ, ne_eq, decide_not, quiet_ext, newOk_some, List.cons_prefix_cons, List.nil_prefix, List.drop_succ_cons, List.drop_zero, List.all_cons, List.all_nil, Bool.and_true, true_and, and_true]
      exact g1
    · obtain ⟨id, e, hb, hr⟩ := g2.2
      exact ⟨id, e, by simp at hb; omega, hr⟩
  obtain ⟨v, g', e, ho⟩ := key
  exact S_view_View_Inodes_out e (by simpa [ro_length] using ho) (by simp)

theorem view_Inodes_eq {n m : Int} {f : Cell} {D : Dev} {h : Heap} (hD : okD D) (hv : IsView h f D) : S_view_View_Inodes [.a (vwC D.length n m f)] h = some (.c (.sl h.length 0 (inosF (kdV D n) 128 0).length 1), h ++ [some ⟨encI (inosF (kdV D n) 128 0), true⟩]) :=
  view_Inodes_of fun i g hg => by
    obtain ⟨l, s, p, d, e, hd⟩ := inoV_form D n i
    have h2 : Low (ro h).length (ro h) g := by rw [ro_length]; exact hg
    exact ⟨l, s, p, d, by rw [view_Inode_eq hD (hv.ro.since h2), e]⟩

def usedV (D : Dev) (n i : Int) : Bool := mayL D.length n && decide (0 ≤ i) && decide (i < D.length) && hasC (blk D 1) i

theorem view_Used_eq {n m i : Int} {f : Cell} {D : Dev} {h : Heap} (hD : okD D) (hv : IsView h f D) : S_view_View_Used [.a (vwC D.length n m f), .c (.i .i64 i)] h = some (.c (.b (usedV D n i)), h) := by
  have key : ∀ g, IsView g f D → ∃ g', R_view_View_Used 0 [.a (vwC D.length n m f), .c (.i .i64 i)] g = some (.c (.b (usedV D n i)), g') := by
    intro g hv
    have l3 := vw_l3 (b := D.length) (n := n) (m := m) (f := f)
    have l4 := vw_l4 (b := D.length) (n := n) (m := m) (f := f)
    have l0 : (vwC D.length n m f)[0]? = some (.i .i64 (D.length : Int)) := rfl
    have hC := fun h => super_Check_eq (b := D.length) (n := n) (m := m) (h := h)
    have n10 : ¬ (1 : Int) = 0 := by decide
    rw [R_view_View_Used_eq]
    unfold usedV
    cases c1 : mayL D.length n with
    | false =>
      simp only [c1] at hC
      generalize vwC D.length n m f = V at *
      exact ⟨_, by simp only [afAddr_p, List.append_nil, if_true, if_false, bnd_some, mp_some, cnd_t, cnd_f, gd_no, gd_tt, gd_tf, gd_ft, gd_ff, alenS_s, alen_sl, alen_ns, abin_add, abin_sub, abin_mul, abin_eql, abin_neq, abin_lss, abin_leq, abin_gtr, abin_geq, abin_seql, abin_sneq, abin_slss, aun_not, aun_neg, agn_some, aeqN_nf, aeqN_f, aeqN_np, aeqN_p, anilc_p, aeqB_t, aeqB_f, aconv_i, apick_b, cond_true, cond_false, decide_true, decide_false, Bool.not_true, Bool.not_false, aext_t, ofPart_c, ofPart_a, part?_c, part?_a, cells?_c, cells?_a, tupN_2, tupN_3, Option.map_some, Option.some.injEq, List.getElem?_cons_zero, List.getElem?_cons_succ, not_true_eq_false, not_false_eq_true, quiet_same, bytesI_length, Option.join_some, List.append_assoc, List.cons_append, List.nil_append, List.length_append, List.length_cons, List.length_nil, Nat.zero_add, Nat.add_zero, rd_at, rd_at0, set_at, set_at0, List.set_cons_zero, List.set_cons_succ, ne_eq, decide_not, quiet_ext, newOk_some, List.cons_prefix_cons, List.nil_prefix, List.drop_succ_cons, List.drop_zero, List.all_cons, List.all_nil, Bool.and_true, true_and, and_true, aloadN_at, aloadN_at0, aload1_at, aload1_at0, astoreN_at, astoreN_at0, astore1_at, astore1_at0, aslA_at, aslA_at0, ldN_all, ld1_row, stN_all, st1_row, slr_all, Nat.reduceAdd, Nat.reduceMul, Nat.reduceLT, l3, hC, n10, eq_self, Bool.false_and] <;> rfl⟩
    | true =>
      simp only [c1] at hC
      by_cases c2 : 0 ≤ i
      · by_cases c3 : i < D.length
        · have hB := view_Block_eq (n := n) (m := m) (no := 1) (h := g ++ [some (Row.mk (vwC D.length n m f) true)]) hD (hv.more _)
          have hH := fun h => chart_Has_eq (i := i) (h := h) (blk_length hD (i := 1))
          generalize vwC D.length n m f = V at *
          exact ⟨_, by simp only [afAddr_p, List.append_nil, if_true, if_false, bnd_some, mp_some, cnd_t, cnd_f, gd_no, gd_tt, gd_tf, gd_ft, gd_ff, alenS_s, alen_sl, alen_ns, abin_add, abin_sub, abin_mul, abin_eql, abin_neq, abin_lss, abin_leq, abin_gtr, abin_geq, abin_seql, abin_sneq, abin_slss, aun_not, aun_neg, agn_some, aeqN_nf, aeqN_f, aeqN_np, aeqN_p, anilc_p, aeqB_t, aeqB_f, aconv_i, apick_b, cond_true, cond_false, decide_true, decide_false, Bool.not_true, Bool.not_false, aext_t, ofPart_c, ofPart_a, part?_c, part?_a, cells?_c, cells?_a, tupN_2, tupN_3, Option.map_some, Option.some.injEq, List.getElem?_cons_zero, List.getElem?_cons_succ, not_true_eq_false, not_false_eq_true, quiet_same, bytesI_length, Option.join_some, List.append_assoc, List.cons_append, List.nil_append, List.length_append, List.length_cons, List.length_nil, Nat.zero_add, Nat.add_zero, rd_at, rd_at0, set_at, set_at0, List.set_cons_zero, List.set_cons_succ, ne_eq, decide_not, quiet_ext, newOk_some, List.cons_prefix_cons, List.nil_prefix, List.drop_succ_cons, List.drop_zero, List.all_cons, List.all_nil, Bool.and_true, true_and, and_true, aloadN_at, aloadN_at0, aload1_at, aload1_at0, astoreN_at, astoreN_at0, astore1_at, astore1_at0, aslA_at, aslA_at0, ldN_all, ld1_row, stN_all, st1_row, slr_all, Nat.reduceAdd, Nat.reduceMul, Nat.reduceLT, l3, l4, l0, hC, n10, eq_self, c2, c3, geom_Map_eq, hB, hH, Bool.true_and] <;> rfl⟩
        · generalize vwC D.length n m f = V at *
          exact ⟨_, by simp only [afAddr_p, List.append_nil, if_true, if_false, bnd_some, mp_some, cnd_t, cnd_f, gd_no, gd_tt, gd_tf, gd_ft, gd_ff, alenS_s, alen_sl, alen_ns, abin_add, abin_sub, abin_mul, abin_eql, abin_neq, abin_lss, abin_leq, abin_gtr, abin_geq, abin_seql, abin_sneq, abin_slss, aun_not, aun_neg, agn_some, aeqN_nf, aeqN_f, aeqN_np, aeqN_p, anilc_p, aeqB_t, aeqB_f, aconv_i, apick_b, cond_true, cond_false, decide_true, decide_false, Bool.not_true, Bool.not_false, aext_t, ofPart_c, ofPart_a, part?_c, part?_a, cells?_c, cells?_a, tupN_2, tupN_3, Option.map_some, Option.some.injEq, List.getElem?_cons_zero, List.getElem?_cons_succ, not_true_eq_false, not_false_eq_true, quiet_same, bytesI_length, Option.join_some, List.append_assoc, List.cons_append, List.nil_append, List.length_append, List.length_cons, List.length_nil, Nat.zero_add, Nat.add_zero, rd_at, rd_at0, set_at, set_at0, List.set_cons_zero, List.set_cons_succ, ne_eq, decide_not, quiet_ext, newOk_some, List.cons_prefix_cons, List.nil_prefix, List.drop_succ_cons, List.drop_zero, List.all_cons, List.all_nil, Bool.and_true, true_and, and_true, aloadN_at, aloadN_at0, aload1_at, aload1_at0, astoreN_at, astoreN_at0, astore1_at, astore1_at0, aslA_at, aslA_at0, ldN_all, ld1_row, stN_all, st1_row, slr_all, Nat.reduceAdd, Nat.reduceMul, Nat.reduceLT, l3, l4, l0, hC, n10, eq_self, c2, c3, Bool.true_and, Bool.false_and] <;> rfl⟩
      · generalize vwC D.length n m f = V at *
        exact ⟨_, by simp only [afAddr_p, List.append_nil, if_true, if_false, bnd_some, mp_some, cnd_t, cnd_f, gd_no, gd_tt, gd_tf, gd_ft, gd_ff, alenS_s, alen_sl, alen_ns, abin_add, abin_sub, abin_mul, abin_eql, abin_neq, abin_lss, abin_leq, abin_gtr, abin_geq, abin_seql, abin_sneq, abin_slss, aun_not, aun_neg, agn_some, aeqN_nf, aeqN_f, aeqN_np, aeqN_p, anilc_p, aeqB_t, aeqB_f, aconv_i, apick_b, cond_true, cond_false, decide_true, decide_false, Bool.not_true, Bool.not_false, aext_t, ofPart_c, ofPart_a, part?_c, part?_a, cells?_c, cells?_a, tupN_2, tupN_3, Option.map_some, Option.some.injEq, List.getElem?_cons_zero, List.getElem?_cons_succ, not_true_eq_false, not_false_eq_true, quiet_same, bytesI_length, Option.join_some, List.append_assoc, List.cons_append, List.nil_append, List.length_append, List.length_cons, List.length_nil, Nat.zero_add, Nat.add_zero, rd_at, rd_at0, set_at, set_at0, List.set_cons_zero, List.set_cons_succ, ne_eq, decide_not, quiet_ext, newOk_some, List.cons_prefix_cons, List.nil_prefix, List.drop_succ_cons, List.drop_zero, List.all_cons, List.all_nil, Bool.and_true, true_and, and_true, aloadN_at, aloadN_at0, aload1_at, aload1_at0, astoreN_at, astoreN_at0, astore1_at, astore1_at0, aslA_at, aslA_at0, ldN_all, ld1_row, stN_all, st1_row, slr_all, Nat.reduceAdd, Nat.reduceMul, Nat.reduceLT, l3, l4, l0, hC, n10, eq_self, c2, Bool.true_and, Bool.false_and] <;> rfl⟩
  obtain ⟨g', e⟩ := key (ro h) hv.ro
  exact S_view_View_Used_flat e rfl

theorem amkn_n {N : Nat} (hN : N ≤ 1073741823) : amkn (.c (.i .i64 (N : Int))) (.c (.i .i64 (N : Int))) = some N := by
  have : nat? (.c (.i .i64 (N : Int))) = some N := by simp only [nat?]; rw [if_pos (by omega)]; simp
  simp [amkn, this]

theorem set_step {D : Dev} {i : Nat} {z : List UInt8} (hi : i < D.length) : (D.take i ++ List.replicate (D.length - i) z).set i D[i] = D.take (i + 1) ++ List.replicate (D.length - (i + 1)) z := by
  have hl : (D.take i).length = i := by rw [List.length_take]; omega
  rw [List.set_append_right _ _ (by omega), hl, Nat.sub_self, show D.length - i = D.length - (i + 1) + 1 by omega, List.replicate_succ, List.set_cons_zero, List.take_succ_eq_append_getElem hi, List.append_assoc]
  rfl
theorem okD_step {D : Dev} (hD : okD D) (i : Nat) : okD (D.take i ++ List.replicate (D.length - i) (zeros 256)) := fun b hb => by
  rcases List.mem_append.1 hb with hb | hb
  · exact hD.take i b hb
  · exact okD_zeros _ b hb

theorem image_loop {n m : Int} {f : Cell} {D : Dev} {g : Heap} {p q id : Nat} (hD : okD D) (h60 : D.length ≤ 1073741823) (h1 : rd g p = some ⟨vwC D.length n m f, true⟩) (hv : IsView g f D) (hid : g.length ≤ id) : ∀ (e i M : Nat) (h : Heap), i + e = D.length → e < M → Low g.length g h →
    rd h id = some ⟨cellsD (D.take i ++ List.replicate (D.length - i) (zeros 256)), true⟩ →
    ∃ h', view_View_Image_l0 q M (.c (.p p 0)) (.c (.sl id 0 D.length 256)) (.c (.i .i64 (D.length : Int))) (.c (.i .i64 (i : Int))) h = some (.c (.sl id 0 D.length 256), h') ∧ rd h' id = some ⟨cellsD D, true⟩
  | e, i, 0, h, _, hm, _, _ => by omega
  | 0, i, M + 1, h, hi, hm, hlow, hr => by
    have e0 : i = D.length := by omega
    have c0 : ¬ (i : Int) < (D.length : Nat) := by omega
    rw [e0, List.take_length, Nat.sub_self, List.replicate_zero, List.append_nil] at hr
    rw [view_View_Image_l0_eq]
    exact ⟨h, by simp only [afAddr_p, List.append_nil, if_true, if_false, bnd_some, mp_some, cnd_t, cnd_f, gd_no, gd_tt, gd_tf, gd_ft, gd_ff, alenS_s, alen_sl, alen_ns, abin_add, abin_sub, abin_mul, abin_eql, abin_neq, abin_lss, abin_leq, abin_gtr, abin_geq, abin_seql, abin_sneq, abin_slss, aun_not, aun_neg, agn_some, aeqN_nf, aeqN_f, aeqN_np, aeqN_p, anilc_p, aeqB_t, aeqB_f, aconv_i, apick_b, cond_true, cond_false, decide_true, decide_false, Bool.not_true, Bool.not_false, aext_t, ofPart_c, ofPart_a, part?_c, part?_a, cells?_c, cells?_a, tupN_2, tupN_3, Option.map_some, Option.some.injEq, List.getElem?_cons_zero, List.getElem?_cons_succ, not_true_eq_false, not_false_eq_true, quiet_same, bytesI_length, Option.join_some, List.append_assoc, List.cons_append, List.nil_append, List.length_append, List.length_cons, List.length_nil, Nat.zero_add, Nat.add_zero, rd_at, rd_at0, set_at, set_at0, List.set_cons_zero, List.set_cons_succ, ne_eq, decide_not, quiet_ext, newOk_some, List.cons_prefix_cons, List.nil_prefix, List.drop_succ_cons, List.drop_zero, List.all_cons, List.all_nil, Bool.and_true, true_and, and_true, c0], hr⟩
  | e + 1, i, M + 1, h, hi, hm, hlow, hr => by
    have hil : i < D.length := by omega
    have c0 : (i : Int) < (D.length : Nat) := by omega
    have hV := loadAll (h := h) (id := p) (hlow.rd h1) (n := 4) rfl
    have hB := view_Block_eq (n := n) (m := m) (no := (i : Int)) hD (hv.since hlow)
    rw [blk_at hil] at hB
    have ad : aiAddrL 256 (.c (.sl id 0 D.length 256)) (.c (.i .i64 (i : Int))) = some (.c (.p id (i * 256))) := by rw [iAddrL_of hil, Nat.zero_add]
    have hl : (D.take i).length = i := by rw [List.length_take]; omega
    have hs := store_dev (i := i) (b := D[i]) hr (okD_step hD i) (hD.at hil) (by rw [List.length_append, hl, List.length_replicate]; omega)
    rw [set_step hil] at hs
    have hlt := rd_lt hr
    obtain ⟨h', g1, g2⟩ := image_loop (q := q) hD h60 h1 hv hid e (i + 1) M (h.set id (some ⟨cellsD (D.take (i + 1) ++ List.replicate (D.length - (i + 1)) (zeros 256)), true⟩)) (by omega) (by omega) (hlow.set hid _) (rd_set_same hlt)
    refine ⟨h', ?_, g2⟩
    rw [view_View_Image_l0_eq]
    generalize vwC D.length n m f = V at *
    generalize encB D[i] = y at *
    simp only [bnd_some, abin_lss, c0, decide_true, cnd_t, hV, hB, ad, hs, abin_add, wi_succ (show i + 1 < 9223372036854775808 by omega)]
    exact g1

theorem view_Image_eq {n m : Int} {f : Cell} {D : Dev} {h : Heap} (hD : okD D) (hv : IsView h f D) (hm : mayL D.length n = true) : S_view_View_Image [.a (vwC D.length n m f)] h = some (.c (.sl h.length 0 D.length 256), h ++ [some ⟨cellsD D, true⟩]) := by
  have key : ∀ g, IsView g f D → ∃ v g', R_view_View_Image (D.length + 1) [.a (vwC D.length n m f)] g = some (v, g') ∧ Out g.length g' v 256 D.length (cellsD D) := by
    intro g hv
    have h60 : D.length ≤ 512 := by
      unfold mayL at hm
      simp only [Bool.and_eq_true, decide_eq_true_eq] at hm
      omega
    have l3 := vw_l3 (b := D.length) (n := n) (m := m) (f := f)
    have l0 : (vwC D.length n m f)[0]? = some (.i .i64 (D.length : Int)) := rfl
    have hC := fun h => super_Check_eq (b := D.length) (n := n) (m := m) (h := h)
    simp only [hm] at hC
    have mk := amkn_n (N := D.length) (by omega)
    obtain ⟨h', g1, g2⟩ := image_loop (n := n) (m := m) (p := g.length) (q := D.length + 1) (id := g.length + 2) (g := g ++ [some (Row.mk (vwC D.length n m f) true), some (Row.mk [] true)]) hD (by omega) (by simp) (hv.more _) (by simp) D.length 0 (D.length + 1) (g ++ [some (Row.mk (vwC D.length n m f) true), some (Row.mk [] true), some (Row.mk (cellsD (List.replicate D.length (zeros 256))) true)]) (by omega) (by omega)
      (by
        have := (Low.refl (h := g ++ [some (Row.mk (vwC D.length n m f) true), some (Row.mk [] true)]) (Nat.le_refl _)).new [some (Row.mk (cellsD (List.replicate D.length (zeros 256))) true)]
        simpa using this) (by simp)
    rw [R_view_View_Image_eq]
    simp only [rows_dev]
    refine ⟨_, h', ?_, cellsD_length hD, g.length + 2, rfl, by omega, g2⟩
    generalize vwC D.length n m f = V at *
    simp only [afAddr_p, List.append_nil, if_true, if_false, bnd_some, mp_some, cnd_t, cnd_f, gd_no, gd_tt, gd_tf, gd_ft, gd_ff, alenS_s, alen_sl, alen_ns, abin_add, abin_sub, abin_mul, abin_eql, abin_neq, abin_lss, abin_leq, abin_gtr, abin_geq, abin_seql, abin_sneq, abin_slss, aun_not, aun_neg, agn_some, aeqN_nf, aeqN_f, aeqN_np, aeqN_p, anilc_p, aeqB_t, aeqB_f, aconv_i, apick_b, cond_true, cond_false, decide_true, decide_false, Bool.not_true, Bool.not_false, aext_t, ofPart_c, ofPart_a, part?_c, part?_a, cells?_c, cells?_a, tupN_2, tupN_3, Option.map_some, Option.some.injEq, List.getElem?_cons_zero, List.getElem?_cons_succ, not_true_eq_false, not_false_eq_true, quiet_same, bytesI_length, Option.join_some, List.append_assoc, List.cons_append, List.nil_append, List.length_append, List.length_cons, List.length_nil, Nat.zero_add, Nat.add_zero, rd_at, rd_at0, set_at, set_at0, List.set_cons_zero, List.set_cons_succ, ne_eq, decide_not, quiet_ext, newOk_some, List.cons_prefix_cons, List.nil_prefix, List.drop_succ_cons, List.drop_zero, List.all_cons, List.all_nil, Bool.and_true, true_and, and_true, aloadN_at, aloadN_at0, aload1_at, aload1_at0, astoreN_at, astoreN_at0, astore1_at, astore1_at0, aslA_at, aslA_at0, ldN_all, ld1_row, stN_all, st1_row, slr_all, Nat.reduceAdd, Nat.reduceMul, Nat.reduceLT, l3, hC, eq_self, l0, mk]
    exact g1
  obtain ⟨v, g', e, ho⟩ := key (ro h) hv.ro
  exact S_view_View_Image_out e (by simpa [ro_length] using ho) flats_cellsD

end Go.Proofs.Ytdgggnlbdoiloaa
end
section
namespace Go.Proofs.Ytdgggnlbdoiloaa
open Go Go.Esc
set_option maxRecDepth 100000
def escheatref04_Ints_o0 : List AOper := [{ dst := some 4, op := .mv (.v (.c (.b false))) }]
def escheatref04_Ints_c0 : ACode := .ops escheatref04_Ints_o0
def escheatref04_Ints_o1 : List AOper := [{ dst := some 6, op := .mv (.t 0) }, { dst := some 7, op := .len (.t 6) }, { dst := some 8, op := .mv (.t 1) }, { dst := some 9, op := .len (.t 8) }, { dst := some 10, op := .bin .neq (.t 7) (.t 9) }]
def escheatref04_Ints_c1 : ACode := .ops escheatref04_Ints_o1
def escheatref04_Ints_o2 : List AOper := [{ dst := some 4, op := .mv (.v (.c (.b false))) }]
def escheatref04_Ints_c2 : ACode := .ops escheatref04_Ints_o2
def escheatref04_Ints_c3 : ACode := .seq [4] escheatref04_Ints_c2 .ret
def escheatref04_Ints_c4 : ACode := .cond (.t 10) escheatref04_Ints_c3 .skip
def escheatref04_Ints_c5 : ACode := .seq [0, 1, 10] escheatref04_Ints_c1 escheatref04_Ints_c4
def escheatref04_Ints_o3 : List AOper := [{ dst := some 5, op := .mv (.v (.c (.i .i64 0))) }]
def escheatref04_Ints_c6 : ACode := .ops escheatref04_Ints_o3
def escheatref04_Ints_o4 : List AOper := [{ dst := some 11, op := .mv (.t 5) }, { dst := some 12, op := .mv (.t 0) }, { dst := some 13, op := .len (.t 12) }, { dst := some 14, op := .bin .lss (.t 11) (.t 13) }]
def escheatref04_Ints_c7 : ACode := .ops escheatref04_Ints_o4
def escheatref04_Ints_c8 : ACode := .cond (.t 14) .skip (.exit 0)
def escheatref04_Ints_c9 : ACode := .seq [0, 1, 5, 14] escheatref04_Ints_c7 escheatref04_Ints_c8
def escheatref04_Ints_o5 : List AOper := [{ dst := some 17, op := .mv (.t 0) }, { dst := some 18, op := .mv (.t 5) }, { dst := some 19, op := .iAddrL 1 (.t 17) (.t 18) }, { dst := some 20, op := .load1 (.t 19) }, { dst := some 21, op := .mv (.t 1) }, { dst := some 22, op := .mv (.t 5) }, { dst := some 23, op := .iAddrL 1 (.t 21) (.t 22) }, { dst := some 24, op := .load1 (.t 23) }]
def escheatref04_Ints_o6 : List AOper := [{ dst := some 25, op := .bin .neq (.t 20) (.t 24) }]
def escheatref04_Ints_c10 : ACode := .draw 0 escheatref04_Ints_o5 escheatref04_Ints_o6
def escheatref04_Ints_o7 : List AOper := [{ dst := some 4, op := .mv (.v (.c (.b false))) }]
def escheatref04_Ints_c11 : ACode := .ops escheatref04_Ints_o7
def escheatref04_Ints_c12 : ACode := .seq [4] escheatref04_Ints_c11 .ret
def escheatref04_Ints_c13 : ACode := .cond (.t 25) escheatref04_Ints_c12 .skip
def escheatref04_Ints_c14 : ACode := .seq [0, 1, 5, 25] escheatref04_Ints_c10 escheatref04_Ints_c13
def escheatref04_Ints_c15 : ACode := .block 1 escheatref04_Ints_c14
def escheatref04_Ints_o8 : List AOper := [{ dst := some 15, op := .mv (.t 5) }, { dst := some 16, op := .bin .add (.t 15) (.v (.c (.i .i64 1))) }, { dst := some 5, op := .mv (.t 16) }]
def escheatref04_Ints_c16 : ACode := .ops escheatref04_Ints_o8
def escheatref04_Ints_c17 : ACode := .seq [0, 1, 5] escheatref04_Ints_c15 escheatref04_Ints_c16
def escheatref04_Ints_c18 : ACode := .seq [0, 1, 5] escheatref04_Ints_c9 escheatref04_Ints_c17
def escheatref04_Ints_c19 : ACode := .loop [0, 1, 5] escheatref04_Ints_c18
def escheatref04_Ints_c20 : ACode := .block 0 escheatref04_Ints_c19
def escheatref04_Ints_c21 : ACode := .seq [0, 1, 5] escheatref04_Ints_c6 escheatref04_Ints_c20
def escheatref04_Ints_o9 : List AOper := [{ dst := some 4, op := .mv (.v (.c (.b true))) }]
def escheatref04_Ints_c22 : ACode := .ops escheatref04_Ints_o9
def escheatref04_Ints_c23 : ACode := .seq [4] escheatref04_Ints_c22 .ret
def escheatref04_Ints_c24 : ACode := .seq [] escheatref04_Ints_c21 escheatref04_Ints_c23
def escheatref04_Ints_c25 : ACode := .seq [0, 1] escheatref04_Ints_c5 escheatref04_Ints_c24
def escheatref04_Ints_c26 : ACode := .seq [0, 1] escheatref04_Ints_c0 escheatref04_Ints_c25
def A_escheatref04_Ints : AFn := ⟨escheatref04_Ints_c26, [.tmp 4]⟩
noncomputable def E_escheatref04_Ints : Sums := disp0
noncomputable def escheatref04_Ints_c0_d (n : Nat) : SmV := smOps E_escheatref04_Ints escheatref04_Ints_o0
noncomputable def escheatref04_Ints_c1_d (n : Nat) : SmV := smOps E_escheatref04_Ints escheatref04_Ints_o1
noncomputable def escheatref04_Ints_c2_d (n : Nat) : SmV := smOps E_escheatref04_Ints escheatref04_Ints_o2
noncomputable def escheatref04_Ints_c3_d (n : Nat) : SmV := smSeq [4] (escheatref04_Ints_c2_d n) smRet
noncomputable def escheatref04_Ints_c4_d (n : Nat) : SmV := smCond (.t 10) (escheatref04_Ints_c3_d n) smSkip
noncomputable def escheatref04_Ints_c5_d (n : Nat) : SmV := smSeq [0, 1, 10] (escheatref04_Ints_c1_d n) (escheatref04_Ints_c4_d n)
noncomputable def escheatref04_Ints_c6_d (n : Nat) : SmV := smOps E_escheatref04_Ints escheatref04_Ints_o3
noncomputable def escheatref04_Ints_c7_d (n : Nat) : SmV := smOps E_escheatref04_Ints escheatref04_Ints_o4
noncomputable def escheatref04_Ints_c8_d (n : Nat) : SmV := smCond (.t 14) smSkip (smExit 0)
noncomputable def escheatref04_Ints_c9_d (n : Nat) : SmV := smSeq [0, 1, 5, 14] (escheatref04_Ints_c7_d n) (escheatref04_Ints_c8_d n)
noncomputable def escheatref04_Ints_c10_d (n : Nat) : SmV := smDraw E_escheatref04_Ints 0 escheatref04_Ints_o5 escheatref04_Ints_o6
noncomputable def escheatref04_Ints_c11_d (n : Nat) : SmV := smOps E_escheatref04_Ints escheatref04_Ints_o7
noncomputable def escheatref04_Ints_c12_d (n : Nat) : SmV := smSeq [4] (escheatref04_Ints_c11_d n) smRet
noncomputable def escheatref04_Ints_c13_d (n : Nat) : SmV := smCond (.t 25) (escheatref04_Ints_c12_d n) smSkip
noncomputable def escheatref04_Ints_c14_d (n : Nat) : SmV := smSeq [0, 1, 5, 25] (escheatref04_Ints_c10_d n) (escheatref04_Ints_c13_d n)
noncomputable def escheatref04_Ints_c15_d (n : Nat) : SmV := smBlock 1 (escheatref04_Ints_c14_d n)
noncomputable def escheatref04_Ints_c16_d (n : Nat) : SmV := smOps E_escheatref04_Ints escheatref04_Ints_o8
noncomputable def escheatref04_Ints_c17_d (n : Nat) : SmV := smSeq [0, 1, 5] (escheatref04_Ints_c15_d n) (escheatref04_Ints_c16_d n)
noncomputable def escheatref04_Ints_c18_d (n : Nat) : SmV := smSeq [0, 1, 5] (escheatref04_Ints_c9_d n) (escheatref04_Ints_c17_d n)
noncomputable def escheatref04_Ints_c19_d (n : Nat) : SmV := smLoop n [0, 1, 5] (escheatref04_Ints_c18_d n)
noncomputable def escheatref04_Ints_c20_d (n : Nat) : SmV := smBlock 0 (escheatref04_Ints_c19_d n)
noncomputable def escheatref04_Ints_c21_d (n : Nat) : SmV := smSeq [0, 1, 5] (escheatref04_Ints_c6_d n) (escheatref04_Ints_c20_d n)
noncomputable def escheatref04_Ints_c22_d (n : Nat) : SmV := smOps E_escheatref04_Ints escheatref04_Ints_o9
noncomputable def escheatref04_Ints_c23_d (n : Nat) : SmV := smSeq [4] (escheatref04_Ints_c22_d n) smRet
noncomputable def escheatref04_Ints_c24_d (n : Nat) : SmV := smSeq [] (escheatref04_Ints_c21_d n) (escheatref04_Ints_c23_d n)
noncomputable def escheatref04_Ints_c25_d (n : Nat) : SmV := smSeq [0, 1] (escheatref04_Ints_c5_d n) (escheatref04_Ints_c24_d n)
noncomputable def escheatref04_Ints_c26_d (n : Nat) : SmV := smSeq [0, 1] (escheatref04_Ints_c0_d n) (escheatref04_Ints_c25_d n)
noncomputable def escheatref04_Ints_k0 (n : Nat) : AExit → Env → Heap → OptV := fun x e h => match x with | .normal => hold ((escheatref04_Ints_c23_d n) A_escheatref04_Ints.fin (e.keep []) h) | .exit id => A_escheatref04_Ints.fin (.exit id) e h | .ret => A_escheatref04_Ints.fin .ret e h
noncomputable def escheatref04_Ints_k1 (n : Nat) : AExit → Env → Heap → OptV := fun x e h => match x with | .exit i => bif Nat.beq i 0 then (escheatref04_Ints_k0 n) .normal e h else (escheatref04_Ints_k0 n) (.exit i) e h | .normal => (escheatref04_Ints_k0 n) .normal e h | .ret => (escheatref04_Ints_k0 n) .ret e h
noncomputable def escheatref04_Ints_l0 (n m : Nat) (x0 x1 x5 : Val) (h : Heap) : OptV := around (escheatref04_Ints_c18_d n) [0, 1, 5] (escheatref04_Ints_k1 n) m [(0, x0), (1, x1), (5, x5)] h
noncomputable def R_escheatref04_Ints (n : Nat) (args : List Val) (h : Heap) : OptV := (escheatref04_Ints_c26_d n) A_escheatref04_Ints.fin (params 0 args) h
theorem R_escheatref04_Ints_eq (n : Nat) (a0 a1 : Val) (h : Heap) : R_escheatref04_Ints n [a0, a1] h = bnd (alen a0) fun v1 => bnd (alen a1) fun v2 => bnd (abin .neq v1 v2) fun v3 => cnd v3 (some ((.c (.b false)), h)) (escheatref04_Ints_l0 n n a0 a1 (.c (.i .i64 0)) h) := by kernel_rfl
theorem escheatref04_Ints_l0_eq (n m : Nat) (x0 x1 x5 : Val) (h : Heap) : escheatref04_Ints_l0 n (m + 1) x0 x1 x5 h = bnd (alen x0) fun v4 => bnd (abin .lss x5 v4) fun v5 => cnd v5 (bnd (aiAddrL 1 x0 x5) fun v6 => bnd (aload1 h v6) fun v7 => bnd (aiAddrL 1 x1 x5) fun v8 => bnd (aload1 h v8) fun v9 => bnd (abin .neq v7 v9) fun v10 => cnd v10 (some ((.c (.b false)), (h ++ []))) (bnd (abin .add x5 (.c (.i .i64 1))) fun v11 => escheatref04_Ints_l0 n m x0 x1 v11 ((h ++ [])))) (some ((.c (.b true)), h)) := by kernel_rfl
theorem K_escheatref04_Ints : FnK Try.prog 37 A_escheatref04_Ints E_escheatref04_Ints R_escheatref04_Ints := .mk' (sound0) Try.func37 (by kernel_rfl) (by intro n args h; kernel_rfl)
noncomputable def S_escheatref04_Ints : Fun := tidy (Lim A_escheatref04_Ints E_escheatref04_Ints)
theorem S_escheatref04_Ints_ok : SOk Try.prog 37 S_escheatref04_Ints := K_escheatref04_Ints.sok
theorem S_escheatref04_Ints_flat {n : Nat} {args : List Val} {h h2 : Heap} {v : Val} (he : R_escheatref04_Ints n args (ro h) = some (v, h2)) (hf : v.flat = true) : S_escheatref04_Ints args h = some (v, h) := K_escheatref04_Ints.flat he hf
end Go.Proofs.Ytdgggnlbdoiloaa
end
section
namespace Go.Proofs.Ytdgggnlbdoiloaa
open Go Go.Esc

def setC (b : List UInt8) (i : Nat) : List UInt8 := b.set (i / 8) (UInt8.ofNat ((b.getD (i / 8) 0).toNat ||| maskC i))
theorem setC_length {b : List UInt8} {i : Nat} : (setC b i).length = b.length := by simp [setC]

theorem chart_With_in {b : List UInt8} {i : Nat} {h : Heap} (hb : b.length = 256) (hi : i < 2048) : S_chart_With [.a (encB b), .c (.i .i64 (i : Int)), .c (.b true)] h = some (.a (encB (setC b i)), h) := by
  have key : ∀ g, ∃ g', R_chart_With 0 [.a (encB b), .c (.i .i64 (i : Int)), .c (.b true)] g = some (.a (encB (setC b i)), g') := by
    intro g
    have hW := fun h => chart_where_in (h := h) hi
    have hlt : i / 8 < b.length := by omega
    have ad := iAddrA_of (k := .i64) (id := g.length) (off := 0) (sz := 1) (j := i / 8) (n := 256) (by omega)
    rw [Nat.mul_one, Nat.zero_add] at ad
    have l1 : (encB b)[i / 8]? = some (.i .u8 b[i / 8].toNat) := by rw [encB_get, List.getElem?_eq_getElem hlt]; rfl
    have a1 := or_u8 (a := b[i / 8].toNat) (b := maskC i) b[i / 8].toNat_lt (maskC_lt i)
    have hor : b[i / 8].toNat ||| maskC i < 2 ^ 8 := Nat.or_lt_two_pow b[i / 8].toNat_lt (maskC_lt i)
    have es : (encB b).set (i / 8) (.i .u8 ((b[i / 8].toNat ||| maskC i : Nat) : Int)) = encB (setC b i) := by
      have ew : (b[i / 8].toNat ||| maskC i) = (UInt8.ofNat (b[i / 8].toNat ||| maskC i)).toNat := by rw [UInt8.toNat_ofNat', Nat.mod_eq_of_lt hor]
      unfold setC
      rw [List.getD_eq_getElem?_getD, List.getElem?_eq_getElem hlt, Option.getD_some, ← encB_set, ← ew]
    have hB : (encB b).length = 256 := by rw [encB_length, hb]
    have hC : (encB (setC b i)).length = 256 := by rw [encB_length, setC_length, hb]
    have s1 := st1_row (cs := encB b) (off := i / 8) (x := .i .u8 ((b[i / 8].toNat ||| maskC i : Nat) : Int)) (by omega)
    rw [es] at s1
    have hz : (List.replicate 256 (Cell.i .u8 0)).length = 256 := List.length_replicate
    rw [R_chart_With_eq]
    generalize List.replicate 256 (Cell.i .u8 0) = z at *
    generalize encB b = y at *
    generalize encB (setC b i) = y2 at *
    exact ⟨_, by simp only [afAddr_p, List.append_nil, if_true, if_false, bnd_some, mp_some, cnd_t, cnd_f, gd_no, gd_tt, gd_tf, gd_ft, gd_ff, alenS_s, alen_sl, alen_ns, abin_add, abin_sub, abin_mul, abin_eql, abin_neq, abin_lss, abin_leq, abin_gtr, abin_geq, abin_seql, abin_sneq, abin_slss, aun_not, aun_neg, agn_some, aeqN_nf, aeqN_f, aeqN_np, aeqN_p, anilc_p, aeqB_t, aeqB_f, aconv_i, apick_b, cond_true, cond_false, decide_true, decide_false, Bool.not_true, Bool.not_false, aext_t, ofPart_c, ofPart_a, part?_c, part?_a, cells?_c, cells?_a, tupN_2, tupN_3, Option.map_some, Option.some.injEq, List.getElem?_cons_zero, List.getElem?_cons_succ, not_true_eq_false, not_false_eq_true, quiet_same, bytesI_length, Option.join_some, List.append_assoc, List.cons_append, List.nil_append, List.length_append, List.length_cons, List.length_nil, Nat.zero_add, Nat.add_zero, rd_at, rd_at0, set_at, set_at0, List.set_cons_zero, List.set_cons_succ, ne_eq, decide_not, quiet_ext, newOk_some, List.cons_prefix_cons, List.nil_prefix, List.drop_succ_cons, List.drop_zero, List.all_cons, List.all_nil, Bool.and_true, true_and, and_true, aloadN_at, aloadN_at0, aload1_at, aload1_at0, astoreN_at, astoreN_at0, astore1_at, astore1_at0, ldN_all, ld1_row, stN_all, hW, ad, l1, a1, s1, chart_With_j0_eq, hB, hC, hz] <;> rfl⟩
  obtain ⟨g', e⟩ := key (ro h)
  exact S_chart_With_flat e (by simp [Val.flat])

def makeC (l : List Nat) : List UInt8 := l.foldl setC (zeros 256)
theorem foldC_length {l : List Nat} : ∀ {b : List UInt8}, (l.foldl setC b).length = b.length := by
  induction l with
  | nil => intro b; rfl
  | cons x l ih => intro b; rw [List.foldl_cons, ih, setC_length]

theorem make_loop {g : Heap} {l : List Nat} {q p : Nat} {v : Val} {nv : Nat} (hl : ∀ x ∈ l, x < 2048) (h60 : l.length ≤ 2048) (hv : Has g v 1 nv (encI (l.map fun x : Nat => (x : Int)))) (hp : p = g.length) : ∀ (e i m : Nat), i + e = l.length → e < m →
    chart_Make_l0 q m (.c (.p p 0)) (.c (.p (p + 1) 0)) v (.c (.i .i64 (l.length : Int))) (.c (.i .i64 (i : Int))) (g ++ [some (Row.mk (encB (zeros 256)) true), some (Row.mk (encB ((l.take i).foldl setC (zeros 256))) true)]) =
      some (.a (encB (makeC l)), g ++ [some (Row.mk (encB (makeC l)) true), some (Row.mk (encB (makeC l)) true)])
  | e, i, 0, _, hm => by omega
  | 0, i, m + 1, hi, hm => by
    have e0 : i = l.length := by omega
    subst e0 hp
    have c0 : ¬ (l.length : Int) < (l.length : Nat) := by omega
    have hB : (encB (makeC l)).length = 256 := by rw [encB_length]; unfold makeC; rw [foldC_length]; exact zeros_length
    have hz : (encB (zeros 256)).length = 256 := by rw [encB_length]; exact zeros_length
    rw [chart_Make_l0_eq, List.take_length]
    have em : l.foldl setC (zeros 256) = makeC l := rfl
    rw [em]
    generalize encB (zeros 256) = z at *
    generalize encB (makeC l) = y at *
    simp only [afAddr_p, List.append_nil, if_true, if_false, bnd_some, mp_some, cnd_t, cnd_f, gd_no, gd_tt, gd_tf, gd_ft, gd_ff, alenS_s, alen_sl, alen_ns, abin_add, abin_sub, abin_mul, abin_eql, abin_neq, abin_lss, abin_leq, abin_gtr, abin_geq, abin_seql, abin_sneq, abin_slss, aun_not, aun_neg, agn_some, aeqN_nf, aeqN_f, aeqN_np, aeqN_p, anilc_p, aeqB_t, aeqB_f, aconv_i, apick_b, cond_true, cond_false, decide_true, decide_false, Bool.not_true, Bool.not_false, aext_t, ofPart_c, ofPart_a, part?_c, part?_a, cells?_c, cells?_a, tupN_2, tupN_3, Option.map_some, Option.some.injEq, List.getElem?_cons_zero, List.getElem?_cons_succ, not_true_eq_false, not_false_eq_true, quiet_same, bytesI_length, Option.join_some, List.append_assoc, List.cons_append, List.nil_append, List.length_append, List.length_cons, List.length_nil, Nat.zero_add, Nat.add_zero, rd_at, rd_at0, set_at, set_at0, List.set_cons_zero, List.set_cons_succ, ne_eq, decide_not, quiet_ext, newOk_some, List.cons_prefix_cons, List.nil_prefix, List.drop_succ_cons, List.drop_zero, List.all_cons, List.all_nil, Bool.and_true, true_and, and_true, aloadN_at, aloadN_at0, aload1_at, aload1_at0, astoreN_at, astoreN_at0, astore1_at, astore1_at0, aslA_at, aslA_at0, ldN_all, ld1_row, stN_all, st1_row, slr_all, Nat.reduceAdd, Nat.reduceMul, Nat.reduceLT, c0, hB, hz]
  | e + 1, i, m + 1, hi, hm => by
    have hil : i < l.length := by omega
    have ih := make_loop (q := q) hl h60 hv hp e (i + 1) m (by omega) (by omega)
    subst hp
    have c0 : (i : Int) < (l.length : Nat) := by omega
    have hnv : l.length = nv := by
      have := hv.length
      rw [encI_length, List.length_map] at this
      omega
    obtain ⟨id, off, rfl, hid, h1, _⟩ := (hv.more [some (Row.mk (encB (zeros 256)) true), some (Row.mk (encB ((l.take i).foldl setC (zeros 256))) true)]).sl (by omega)
    have hx := h1 i (.i .i64 (l[i] : Int)) (by rw [encI_get, List.getElem?_map, List.getElem?_eq_getElem hil]; rfl)
    have ea : aiAddrL 1 (.c (.sl id off nv 1)) (.c (.i .i64 (i : Int))) = some (.c (.p id (off + i))) := by rw [iAddrL_of (by omega)]; simp
    have hfl : ((l.take i).foldl setC (zeros 256)).length = 256 := by rw [foldC_length]; exact zeros_length
    have hW := fun h => chart_With_in (h := h) hfl (hl _ (List.getElem_mem hil))
    have et : setC ((l.take i).foldl setC (zeros 256)) l[i] = (l.take (i + 1)).foldl setC (zeros 256) := by
      rw [List.take_succ_eq_append_getElem hil, List.foldl_append]; rfl
    rw [et] at hW
    have hB : (encB ((l.take i).foldl setC (zeros 256))).length = 256 := by rw [encB_length, hfl]
    have hB2 : (encB ((l.take (i + 1)).foldl setC (zeros 256))).length = 256 := by rw [encB_length, foldC_length]; exact zeros_length
    rw [chart_Make_l0_eq]
    generalize encB (zeros 256) = z at *
    generalize encB ((l.take i).foldl setC (zeros 256)) = y at *
    generalize encB ((l.take (i + 1)).foldl setC (zeros 256)) = y2 at *
    simp only [afAddr_p, List.append_nil, if_true, if_false, bnd_some, mp_some, cnd_t, cnd_f, gd_no, gd_tt, gd_tf, gd_ft, gd_ff, alenS_s, alen_sl, alen_ns, abin_add, abin_sub, abin_mul, abin_eql, abin_neq, abin_lss, abin_leq, abin_gtr, abin_geq, abin_seql, abin_sneq, abin_slss, aun_not, aun_neg, agn_some, aeqN_nf, aeqN_f, aeqN_np, aeqN_p, anilc_p, aeqB_t, aeqB_f, aconv_i, apick_b, cond_true, cond_false, decide_true, decide_false, Bool.not_true, Bool.not_false, aext_t, ofPart_c, ofPart_a, part?_c, part?_a, cells?_c, cells?_a, tupN_2, tupN_3, Option.map_some, Option.some.injEq, List.getElem?_cons_zero, List.getElem?_cons_succ, not_true_eq_false, not_false_eq_true, quiet_same, bytesI_length, Option.join_some, List.append_assoc, List.cons_append, List.nil_append, List.length_append, List.length_cons, List.length_nil, Nat.zero_add, Nat.add_zero, rd_at, rd_at0, set_at, set_at0, List.set_cons_zero, List.set_cons_succ, ne_eq, decide_not, quiet_ext, newOk_some, List.cons_prefix_cons, List.nil_prefix, List.drop_succ_cons, List.drop_zero, List.all_cons, List.all_nil, Bool.and_true, true_and, and_true, aloadN_at, aloadN_at0, aload1_at, aload1_at0, astoreN_at, astoreN_at0, astore1_at, astore1_at0, aslA_at, aslA_at0, ldN_all, ld1_row, stN_all, st1_row, slr_all, Nat.reduceAdd, Nat.reduceMul, Nat.reduceLT, c0, ea, hx, hW, hB, hB2, wi_succ (show i + 1 < 9223372036854775808 by omega)]
    exact ih

theorem chart_Make_eq {v : Val} {nv : Nat} {l : List Nat} {h : Heap} (hl : ∀ x ∈ l, x < 2048) (h60 : l.length ≤ 2048) (hv : Has h v 1 nv (encI (l.map fun x : Nat => (x : Int)))) : S_chart_Make [v] h = some (.a (encB (makeC l)), h) := by
  have key : ∀ g, Has g v 1 nv (encI (l.map fun x : Nat => (x : Int))) → ∃ g', R_chart_Make (l.length + 1) [v] g = some (.a (encB (makeC l)), g') := by
    intro g hv
    have hnv : l.length = nv := by
      have := hv.length
      rw [encI_length, List.length_map] at this
      omega
    have hL := make_loop (q := l.length + 1) hl h60 hv rfl l.length 0 (l.length + 1) (by omega) (by omega)
    have hlen := hv.len
    rw [← hnv] at hlen
    rw [R_chart_Make_eq, zeros_enc]
    rw [List.take_zero, List.foldl_nil] at hL
    generalize encB (zeros 256) = z at *
    exact ⟨_, by simp only [afAddr_p, List.append_nil, if_true, if_false, bnd_some, mp_some, cnd_t, cnd_f, gd_no, gd_tt, gd_tf, gd_ft, gd_ff, alenS_s, alen_sl, alen_ns, abin_add, abin_sub, abin_mul, abin_eql, abin_neq, abin_lss, abin_leq, abin_gtr, abin_geq, abin_seql, abin_sneq, abin_slss, aun_not, aun_neg, agn_some, aeqN_nf, aeqN_f, aeqN_np, aeqN_p, anilc_p, aeqB_t, aeqB_f, aconv_i, apick_b, cond_true, cond_false, decide_true, decide_false, Bool.not_true, Bool.not_false, aext_t, ofPart_c, ofPart_a, part?_c, part?_a, cells?_c, cells?_a, tupN_2, tupN_3, Option.map_some, Option.some.injEq, List.getElem?_cons_zero, List.getElem?_cons_succ, not_true_eq_false, not_false_eq_true, quiet_same, bytesI_length, Option.join_some, List.append_assoc, List.cons_append, List.nil_append, List.length_append, List.length_cons, List.length_nil, Nat.zero_add, Nat.add_zero, rd_at, rd_at0, set_at, set_at0, List.set_cons_zero, List.set_cons_succ, ne_eq, decide_not, quiet_ext, newOk_some, List.cons_prefix_cons, List.nil_prefix, List.drop_succ_cons, List.drop_zero, List.all_cons, List.all_nil, Bool.and_true, true_and, and_true, hlen]; exact hL⟩
  obtain ⟨g', e⟩ := key (ro h) hv.ro
  exact S_chart_Make_flat e (by simp [Val.flat])

end Go.Proofs.Ytdgggnlbdoiloaa
end
section
namespace Go.Proofs.Ytdgggnlbdoiloaa
open Go Go.Esc

theorem ints_loop {v u : Val} {nv nu : Nat} {l r : List Int} {h : Heap} (hv : Has h v 1 nv (encI l)) (hu : Has h u 1 nu (encI r)) (hlr : l.length = r.length) (hl : l.length < 9223372036854775807) {k : Nat} : ∀ d i m, i + d = l.length → d < m →
    escheatref04_Ints_l0 k m v u (.c (.i .i64 i)) h = some (.c (.b (decide (l.drop i = r.drop i))), h)
  | d, i, 0, _, hm => by omega
  | 0, i, m + 1, hi, hm => by
    have hnv : l.length = nv := by simpa [encI_length] using hv.length
    have e1 : l.drop i = [] := List.drop_of_length_le (by omega)
    have e2 : r.drop i = [] := List.drop_of_length_le (by omega)
    have h1' : ¬ (i : Int) < l.length := by omega
    rw [escheatref04_Ints_l0_eq]
    simp only [afAddr_p, List.append_nil, if_true, if_false, bnd_some, mp_some, cnd_t, cnd_f, gd_no, gd_tt, gd_tf, gd_ft, gd_ff, alenS_s, alen_sl, alen_ns, abin_add, abin_sub, abin_mul, abin_eql, abin_neq, abin_lss, abin_leq, abin_gtr, abin_geq, abin_seql, abin_sneq, abin_slss, aun_not, aun_neg, agn_some, aeqN_nf, aeqN_f, aeqN_np, aeqN_p, anilc_p, aeqB_t, aeqB_f, aconv_i, apick_b, cond_true, cond_false, decide_true, decide_false, Bool.not_true, Bool.not_false, aext_t, ofPart_c, ofPart_a, part?_c, part?_a, cells?_c, cells?_a, tupN_2, tupN_3, Option.map_some, Option.some.injEq, List.getElem?_cons_zero, List.getElem?_cons_succ, not_true_eq_false, not_false_eq_true, quiet_same, bytesI_length, Option.join_some, List.append_assoc, List.cons_append, List.nil_append, List.length_append, List.length_cons, List.length_nil, Nat.zero_add, Nat.add_zero, rd_at, rd_at0, set_at, set_at0, List.set_cons_zero, List.set_cons_succ, ne_eq, decide_not, quiet_ext, newOk_some, List.cons_prefix_cons, List.nil_prefix, List.drop_succ_cons, List.drop_zero, List.all_cons, List.all_nil, Bool.and_true, true_and, and_true, hv.len, ← hnv, h1', e1, e2]
  | d + 1, i, m + 1, hi, hm => by
    have ih := ints_loop hv hu hlr hl (k := k) d (i + 1) m (by omega) (by omega)
    have hnv : l.length = nv := by simpa [encI_length] using hv.length
    have hnu : r.length = nu := by simpa [encI_length] using hu.length
    have hlen := hv.len
    obtain ⟨id, off, rfl, hid, h1, h2⟩ := hv.sl (by omega)
    obtain ⟨id', off', rfl, hid', h1', h2'⟩ := hu.sl (by omega)
    have hx := h1 i (.i .i64 l[i]) (by rw [encI_get, List.getElem?_eq_getElem (by omega)]; rfl)
    have hy := h1' i (.i .i64 r[i]) (by rw [encI_get, List.getElem?_eq_getElem (by omega)]; rfl)
    have ea : aiAddrL 1 (.c (.sl id off nv 1)) (.c (.i .i64 (i : Int))) = some (.c (.p id (off + i))) := by rw [iAddrL_of (by omega)]; simp
    have eb : aiAddrL 1 (.c (.sl id' off' nu 1)) (.c (.i .i64 (i : Int))) = some (.c (.p id' (off' + i))) := by rw [iAddrL_of (by omega)]; simp
    have c1 : (i : Int) < nv := by omega
    rw [escheatref04_Ints_l0_eq, List.drop_eq_getElem_cons (by omega : i < l.length), List.drop_eq_getElem_cons (by omega : i < r.length)]
    by_cases c : l[i] = r[i]
    · simp only [afAddr_p, List.append_nil, if_true, if_false, bnd_some, mp_some, cnd_t, cnd_f, gd_no, gd_tt, gd_tf, gd_ft, gd_ff, alenS_s, alen_sl, alen_ns, abin_add, abin_sub, abin_mul, abin_eql, abin_neq, abin_lss, abin_leq, abin_gtr, abin_geq, abin_seql, abin_sneq, abin_slss, aun_not, aun_neg, agn_some, aeqN_nf, aeqN_f, aeqN_np, aeqN_p, anilc_p, aeqB_t, aeqB_f, aconv_i, apick_b, cond_true, cond_false, decide_true, decide_false, Bool.not_true, Bool.not_false, aext_t, ofPart_c, ofPart_a, part?_c, part?_a, cells?_c, cells?_a, tupN_2, tupN_3, Option.map_some, Option.some.injEq, List.getElem?_cons_zero, List.getElem?_cons_succ, not_true_eq_false, not_false_eq_true, quiet_same, bytesI_length, Option.join_some, List.append_assoc, List.cons_append, List.nil_append, List.length_append, List.length_cons, List.length_nil, Nat.zero_add, Nat.add_zero, rd_at, rd_at0, set_at, set_at0, List.set_cons_zero, List.set_cons_succ, ne_eq, decide_not, quiet_ext, newOk_some, List.cons_prefix_cons, List.nil_prefix, List.drop_succ_cons, List.drop_zero, List.all_cons, List.all_nil, Bool.and_true, true_and, and_true, c1, ea, eb, hx, hy, c, wi_succ (show i + 1 < 9223372036854775808 by omega), List.cons.injEq, true_and]
      exact ih
    · simp only [afAddr_p, List.append_nil, if_true, if_false, bnd_some, mp_some, cnd_t, cnd_f, gd_no, gd_tt, gd_tf, gd_ft, gd_ff, alenS_s, alen_sl, alen_ns, abin_add, abin_sub, abin_mul, abin_eql, abin_neq, abin_lss, abin_leq, abin_gtr, abin_geq, abin_seql, abin_sneq, abin_slss, aun_not, aun_neg, agn_some, aeqN_nf, aeqN_f, aeqN_np, aeqN_p, anilc_p, aeqB_t, aeqB_f, aconv_i, apick_b, cond_true, cond_false, decide_true, decide_false, Bool.not_true, Bool.not_false, aext_t, ofPart_c, ofPart_a, part?_c, part?_a, cells?_c, cells?_a, tupN_2, tupN_3, Option.map_some, Option.some.injEq, List.getElem?_cons_zero, List.getElem?_cons_succ, not_true_eq_false, not_false_eq_true, quiet_same, bytesI_length, Option.join_some, List.append_assoc, List.cons_append, List.nil_append, List.length_append, List.length_cons, List.length_nil, Nat.zero_add, Nat.add_zero, rd_at, rd_at0, set_at, set_at0, List.set_cons_zero, List.set_cons_succ, ne_eq, decide_not, quiet_ext, newOk_some, List.cons_prefix_cons, List.nil_prefix, List.drop_succ_cons, List.drop_zero, List.all_cons, List.all_nil, Bool.and_true, true_and, and_true, c1, ea, eb, hx, hy, c, List.cons.injEq, false_and]

theorem ref04_Ints_eq {v u : Val} {nv nu : Nat} {l r : List Int} {h : Heap} (hv : Has h v 1 nv (encI l)) (hu : Has h u 1 nu (encI r)) (hl : l.length < 9223372036854775807) :
    S_escheatref04_Ints [v, u] h = some (.c (.b (decide (l = r))), h) := by
  refine S_escheatref04_Ints_flat (n := l.length + 1) (h2 := ro h) ?_ (by simp)
  have hnv : l.length = nv := by simpa [encI_length] using hv.length
  have hnu : r.length = nu := by simpa [encI_length] using hu.length
  rw [R_escheatref04_Ints_eq]
  by_cases c : l.length = r.length
  · have := ints_loop hv.ro hu.ro c hl (k := l.length + 1) l.length 0 (l.length + 1) (by omega) (by omega)
    simp only [List.drop_zero] at this
    have c' : (nv : Int) = nu := by omega
    simp only [afAddr_p, List.append_nil, if_true, if_false, bnd_some, mp_some, cnd_t, cnd_f, gd_no, gd_tt, gd_tf, gd_ft, gd_ff, alenS_s, alen_sl, alen_ns, abin_add, abin_sub, abin_mul, abin_eql, abin_neq, abin_lss, abin_leq, abin_gtr, abin_geq, abin_seql, abin_sneq, abin_slss, aun_not, aun_neg, agn_some, aeqN_nf, aeqN_f, aeqN_np, aeqN_p, anilc_p, aeqB_t, aeqB_f, aconv_i, apick_b, cond_true, cond_false, decide_true, decide_false, Bool.not_true, Bool.not_false, aext_t, ofPart_c, ofPart_a, part?_c, part?_a, cells?_c, cells?_a, tupN_2, tupN_3, Option.map_some, Option.some.injEq, List.getElem?_cons_zero, List.getElem?_cons_succ, not_true_eq_false, not_false_eq_true, quiet_same, bytesI_length, Option.join_some, List.append_assoc, List.cons_append, List.nil_append, List.length_append, List.length_cons, List.length_nil, Nat.zero_add, Nat.add_zero, rd_at, rd_at0, set_at, set_at0, List.set_cons_zero, List.set_cons_succ, ne_eq, decide_not, quiet_ext, newOk_some, List.cons_prefix_cons, List.nil_prefix, List.drop_succ_cons, List.drop_zero, List.all_cons, List.all_nil, Bool.and_true, true_and, and_true, hv.len, hu.len, c']
    exact this
  · have c' : ¬ (nv : Int) = nu := by omega
    have c2 : ¬ l = r := fun e => c (by rw [e])
    simp only [afAddr_p, List.append_nil, if_true, if_false, bnd_some, mp_some, cnd_t, cnd_f, gd_no, gd_tt, gd_tf, gd_ft, gd_ff, alenS_s, alen_sl, alen_ns, abin_add, abin_sub, abin_mul, abin_eql, abin_neq, abin_lss, abin_leq, abin_gtr, abin_geq, abin_seql, abin_sneq, abin_slss, aun_not, aun_neg, agn_some, aeqN_nf, aeqN_f, aeqN_np, aeqN_p, anilc_p, aeqB_t, aeqB_f, aconv_i, apick_b, cond_true, cond_false, decide_true, decide_false, Bool.not_true, Bool.not_false, aext_t, ofPart_c, ofPart_a, part?_c, part?_a, cells?_c, cells?_a, tupN_2, tupN_3, Option.map_some, Option.some.injEq, List.getElem?_cons_zero, List.getElem?_cons_succ, not_true_eq_false, not_false_eq_true, quiet_same, bytesI_length, Option.join_some, List.append_assoc, List.cons_append, List.nil_append, List.length_append, List.length_cons, List.length_nil, Nat.zero_add, Nat.add_zero, rd_at, rd_at0, set_at, set_at0, List.set_cons_zero, List.set_cons_succ, ne_eq, decide_not, quiet_ext, newOk_some, List.cons_prefix_cons, List.nil_prefix, List.drop_succ_cons, List.drop_zero, List.all_cons, List.all_nil, Bool.and_true, true_and, and_true, hv.len, hu.len, c', c2]

end Go.Proofs.Ytdgggnlbdoiloaa
end
section
namespace Go.Proofs.Ytdgggnlbdoiloaa
open Go Go.Esc
set_option maxRecDepth 100000
def escheatlaw21_small_o0 : List AOper := [{ dst := some 0, op := .nilrow 256 }]
def escheatlaw21_small_c0 : ACode := .ops escheatlaw21_small_o0
def escheatlaw21_small_o1 : List AOper := [{ dst := some 2, op := .mkSl 256 (List.replicate 256 (.i .u8 0)) (.v (.c (.i .i64 16))) (.v (.c (.i .i64 16))) }, { dst := some 1, op := .mv (.t 2) }]
def escheatlaw21_small_c1 : ACode := .ops escheatlaw21_small_o1
def escheatlaw21_small_o2 : List AOper := [{ dst := some 4, op := .mv (.t 1) }, { dst := some 5, op := .build ([.i .i64 0, .i .i64 0, .i .u64 0]) [(0, 1, (.v (.c (.i .i64 16)))), (1, 1, (.v (.c (.i .i64 8))))] }, { dst := some 6, op := .call 52 [(.t 5)] }, { dst := some 3, op := .mv (.t 6) }, { dst := some 7, op := .ext (.t 3) 0 }, { dst := some 8, op := .ext (.t 3) 1 }, { dst := some 9, op := .iAddrL 256 (.t 4) (.v (.c (.i .i64 0))) }, { dst := none, op := .storeN 256 (.t 9) (.t 7) }]
def escheatlaw21_small_c2 : ACode := .ops escheatlaw21_small_o2
def escheatlaw21_small_o3 : List AOper := [{ dst := some 11, op := .mv (.t 1) }, { dst := some 12, op := .mv (.t 1) }, { dst := some 13, op := .iAddrL 256 (.t 12) (.v (.c (.i .i64 2))) }, { dst := some 14, op := .loadN 256 (.t 13) }, { dst := some 15, op := .build ([.i .i64 0, .i .i64 0, .i .i64 0, .i .i64 0, .i .i64 0, .i .i64 0, .i .i64 0, .i .i64 0, .i .i64 0, .i .i64 0, .i .i64 0]) [(0, 1, (.v (.c (.i .i64 2)))), (1, 1, (.v (.c (.i .i64 1)))), (3, 1, (.v (.c (.i .i64 1))))] }, { dst := some 16, op := .call 108 [(.t 14), (.v (.c (.i .i64 0))), (.t 15)] }, { dst := some 10, op := .mv (.t 16) }, { dst := some 17, op := .ext (.t 10) 0 }, { dst := some 18, op := .ext (.t 10) 1 }, { dst := some 19, op := .iAddrL 256 (.t 11) (.v (.c (.i .i64 2))) }, { dst := none, op := .storeN 256 (.t 19) (.t 17) }]
def escheatlaw21_small_c3 : ACode := .ops escheatlaw21_small_o3
def escheatlaw21_small_o4 : List AOper := [{ dst := some 20, op := .mv (.t 1) }, { dst := some 21, op := .buildSl 1 3 ([.i .i64 0, .i .i64 0, .i .i64 0]) [(0, 1, (.v (.c (.i .i64 0)))), (1, 1, (.v (.c (.i .i64 1)))), (2, 1, (.v (.c (.i .i64 2))))] }, { dst := some 22, op := .call 109 [(.t 21)] }, { dst := some 23, op := .iAddrL 256 (.t 20) (.v (.c (.i .i64 1))) }, { dst := none, op := .storeN 256 (.t 23) (.t 22) }]
def escheatlaw21_small_c4 : ACode := .ops escheatlaw21_small_o4
def escheatlaw21_small_o5 : List AOper := [{ dst := some 24, op := .mv (.t 1) }, { dst := some 0, op := .mv (.t 24) }]
def escheatlaw21_small_c5 : ACode := .ops escheatlaw21_small_o5
def escheatlaw21_small_c6 : ACode := .seq [0] escheatlaw21_small_c5 .ret
def escheatlaw21_small_c7 : ACode := .seq [1] escheatlaw21_small_c4 escheatlaw21_small_c6
def escheatlaw21_small_c8 : ACode := .seq [1] escheatlaw21_small_c3 escheatlaw21_small_c7
def escheatlaw21_small_c9 : ACode := .seq [1] escheatlaw21_small_c2 escheatlaw21_small_c8
def escheatlaw21_small_c10 : ACode := .seq [1] escheatlaw21_small_c1 escheatlaw21_small_c9
def escheatlaw21_small_c11 : ACode := .seq [] escheatlaw21_small_c0 escheatlaw21_small_c10
def A_escheatlaw21_small : AFn := ⟨escheatlaw21_small_c11, [.tmp 0]⟩
noncomputable def E_escheatlaw21_small : Sums := disp 52 S_super_Put (disp 108 S_table_With (disp 109 S_chart_Make disp0))
noncomputable def escheatlaw21_small_c0_d (n : Nat) : SmV := smOps E_escheatlaw21_small escheatlaw21_small_o0
noncomputable def escheatlaw21_small_c1_d (n : Nat) : SmV := smOps E_escheatlaw21_small escheatlaw21_small_o1
noncomputable def escheatlaw21_small_c2_d (n : Nat) : SmV := smOps E_escheatlaw21_small escheatlaw21_small_o2
noncomputable def escheatlaw21_small_c3_d (n : Nat) : SmV := smOps E_escheatlaw21_small escheatlaw21_small_o3
noncomputable def escheatlaw21_small_c4_d (n : Nat) : SmV := smOps E_escheatlaw21_small escheatlaw21_small_o4
noncomputable def escheatlaw21_small_c5_d (n : Nat) : SmV := smOps E_escheatlaw21_small escheatlaw21_small_o5
noncomputable def escheatlaw21_small_c6_d (n : Nat) : SmV := smSeq [0] (escheatlaw21_small_c5_d n) smRet
noncomputable def escheatlaw21_small_c7_d (n : Nat) : SmV := smSeq [1] (escheatlaw21_small_c4_d n) (escheatlaw21_small_c6_d n)
noncomputable def escheatlaw21_small_c8_d (n : Nat) : SmV := smSeq [1] (escheatlaw21_small_c3_d n) (escheatlaw21_small_c7_d n)
noncomputable def escheatlaw21_small_c9_d (n : Nat) : SmV := smSeq [1] (escheatlaw21_small_c2_d n) (escheatlaw21_small_c8_d n)
noncomputable def escheatlaw21_small_c10_d (n : Nat) : SmV := smSeq [1] (escheatlaw21_small_c1_d n) (escheatlaw21_small_c9_d n)
noncomputable def escheatlaw21_small_c11_d (n : Nat) : SmV := smSeq [] (escheatlaw21_small_c0_d n) (escheatlaw21_small_c10_d n)
noncomputable def R_escheatlaw21_small (n : Nat) (args : List Val) (h : Heap) : OptV := (escheatlaw21_small_c11_d n) A_escheatlaw21_small.fin (params 0 args) h
theorem R_escheatlaw21_small_eq (n : Nat) (h : Heap) : R_escheatlaw21_small n [] h = bnd (amkn (.c (.i .i64 16)) (.c (.i .i64 16))) fun n1 => bnd (afill ([.i .i64 0, .i .i64 0, .i .u64 0]) [(0, 1, .c (.i .i64 16)), (1, 1, .c (.i .i64 8))]) fun c2 => bnd (S_super_Put [(.a c2)] (((h ++ [some (Row.mk ([]) true)]) ++ [some (Row.mk (rows (List.replicate 256 (.i .u8 0)) n1) true)]))) fun p3 => bnd (aext p3.1 0) fun v4 => bnd (aext p3.1 1) fun v5 => bnd (aiAddrL 256 ((.c (.sl ((h ++ [some (Row.mk ([]) true)])).length 0 n1 256))) (.c (.i .i64 0))) fun v6 => bnd (astoreN p3.2 256 v6 v4) fun h7 => bnd (aiAddrL 256 ((.c (.sl ((h ++ [some (Row.mk ([]) true)])).length 0 n1 256))) (.c (.i .i64 2))) fun v8 => bnd (aloadN h7 256 v8) fun v9 => bnd (afill ([.i .i64 0, .i .i64 0, .i .i64 0, .i .i64 0, .i .i64 0, .i .i64 0, .i .i64 0, .i .i64 0, .i .i64 0, .i .i64 0, .i .i64 0]) [(0, 1, .c (.i .i64 2)), (1, 1, .c (.i .i64 1)), (3, 1, .c (.i .i64 1))]) fun c10 => bnd (S_table_With [v9, .c (.i .i64 0), (.a c10)] h7) fun p11 => bnd (aext p11.1 0) fun v12 => bnd (aext p11.1 1) fun v13 => bnd (aiAddrL 256 ((.c (.sl ((h ++ [some (Row.mk ([]) true)])).length 0 n1 256))) (.c (.i .i64 2))) fun v14 => bnd (astoreN p11.2 256 v14 v12) fun h15 => bnd (afill ([.i .i64 0, .i .i64 0, .i .i64 0]) [(0, 1, .c (.i .i64 0)), (1, 1, .c (.i .i64 1)), (2, 1, .c (.i .i64 2))]) fun c16 => bnd (S_chart_Make [(.c (.sl h15.length 0 3 1))] ((h15 ++ [some (Row.mk (c16) true)]))) fun p17 => bnd (aiAddrL 256 ((.c (.sl ((h ++ [some (Row.mk ([]) true)])).length 0 n1 256))) (.c (.i .i64 1))) fun v18 => bnd (astoreN p17.2 256 v18 p17.1) fun h19 => some (((.c (.sl ((h ++ [some (Row.mk ([]) true)])).length 0 n1 256))), h19) := by kernel_rfl
theorem K_escheatlaw21_small : FnK Try.prog 68 A_escheatlaw21_small E_escheatlaw21_small R_escheatlaw21_small := .mk' (sound1 S_super_Put_ok (sound1 S_table_With_ok (sound1 S_chart_Make_ok sound0))) Try.func68 (by kernel_rfl) (by intro n args h; kernel_rfl)
noncomputable def S_escheatlaw21_small : Fun := tidy (Lim A_escheatlaw21_small E_escheatlaw21_small)
theorem S_escheatlaw21_small_ok : SOk Try.prog 68 S_escheatlaw21_small := K_escheatlaw21_small.sok
theorem S_escheatlaw21_small_out {n : Nat} {args : List Val} {h h2 : Heap} {v : Val} {sz k : Nat} {cs : List Cell} (he : R_escheatlaw21_small n args (ro h) = some (v, h2)) (ho : Out h.length h2 v sz k cs) (hf : flats cs = true) : S_escheatlaw21_small args h = some (.c (.sl h.length 0 k sz), h ++ [some ⟨cs, true⟩]) := K_escheatlaw21_small.out he ho hf
def escheatlaw21_works_o0 : List AOper := [{ dst := some 0, op := .mv (.v (.c (.b false))) }]
def escheatlaw21_works_c0 : ACode := .ops escheatlaw21_works_o0
def escheatlaw21_works_o1 : List AOper := [{ dst := some 6, op := .call 68 [] }, { dst := some 7, op := .call 15 [(.t 6)] }, { dst := some 5, op := .mv (.t 7) }, { dst := some 8, op := .ext (.t 5) 0 }, { dst := some 9, op := .ext (.t 5) 1 }, { dst := some 1, op := .alloc ([.i .i64 0, .i .i64 0, .i .u64 0, .nf]) }, { dst := none, op := .storeN 4 (.t 1) (.t 8) }, { dst := some 2, op := .mv (.t 9) }]
def escheatlaw21_works_c1 : ACode := .ops escheatlaw21_works_o1
def escheatlaw21_works_o2 : List AOper := [{ dst := some 11, op := .mkSl 256 (List.replicate 256 (.i .u8 0)) (.v (.c (.i .i64 16))) (.v (.c (.i .i64 16))) }, { dst := some 12, op := .call 15 [(.t 11)] }, { dst := some 10, op := .mv (.t 12) }, { dst := some 13, op := .ext (.t 10) 0 }, { dst := some 14, op := .ext (.t 10) 1 }, { dst := some 3, op := .alloc ([.i .i64 0, .i .i64 0, .i .u64 0, .nf]) }, { dst := none, op := .storeN 4 (.t 3) (.t 13) }, { dst := some 4, op := .mv (.t 14) }]
def escheatlaw21_works_c2 : ACode := .ops escheatlaw21_works_o2
def escheatlaw21_works_o3 : List AOper := [{ dst := some 15, op := .mv (.t 2) }, { dst := some 16, op := .bin .eql (.t 15) (.v (.c (.i .i64 0))) }, { dst := some 17, op := .mv (.t 16) }, { dst := some 18, op := .mv (.t 4), guard := some (17, true) }, { dst := some 19, op := .bin .eql (.t 18) (.v (.c (.i .i64 13))), guard := some (17, true) }, { dst := some 20, op := .pick (.t 17) (.t 19) (.v (.c (.b false))) }, { dst := some 21, op := .mv (.t 20) }, { dst := some 22, op := .loadN 4 (.t 1), guard := some (21, true) }, { dst := some 23, op := .call 17 [(.t 22), (.v (.c (.i .i64 1)))], guard := some (21, true) }, { dst := some 24, op := .fld1 (.t 23) 0, guard := some (21, true) }, { dst := some 25, op := .bin .eql (.t 24) (.v (.c (.i .i64 2))), guard := some (21, true) }, { dst := some 26, op := .pick (.t 21) (.t 25) (.v (.c (.b false))) }, { dst := some 27, op := .mv (.t 26) }, { dst := some 28, op := .loadN 4 (.t 1), guard := some (27, true) }, { dst := some 29, op := .call 33 [(.t 28), (.v (.c (.i .i64 2)))], guard := some (27, true) }, { dst := some 30, op := .pick (.t 27) (.t 29) (.v (.c (.b false))) }, { dst := some 31, op := .mv (.t 30) }, { dst := some 32, op := .loadN 4 (.t 1), guard := some (31, true) }, { dst := some 33, op := .call 33 [(.t 32), (.v (.c (.i .i64 3)))], guard := some (31, true) }, { dst := some 34, op := .un .not (.t 33), guard := some (31, true) }, { dst := some 35, op := .pick (.t 31) (.t 34) (.v (.c (.b false))) }, { dst := some 36, op := .mv (.t 35) }, { dst := some 37, op := .loadN 4 (.t 1), guard := some (36, true) }, { dst := some 38, op := .call 31 [(.t 37)], guard := some (36, true) }, { dst := some 39, op := .buildSl 1 1 ([.i .i64 0]) [(0, 1, (.v (.c (.i .i64 1))))], guard := some (36, true) }, { dst := some 40, op := .call 37 [(.t 38), (.t 39)], guard := some (36, true) }, { dst := some 41, op := .pick (.t 36) (.t 40) (.v (.c (.b false))) }, { dst := some 0, op := .mv (.t 41) }]
def escheatlaw21_works_c3 : ACode := .ops escheatlaw21_works_o3
def escheatlaw21_works_c4 : ACode := .seq [0] escheatlaw21_works_c3 .ret
def escheatlaw21_works_c5 : ACode := .seq [1, 2, 4] escheatlaw21_works_c2 escheatlaw21_works_c4
def escheatlaw21_works_c6 : ACode := .seq [1, 2] escheatlaw21_works_c1 escheatlaw21_works_c5
def escheatlaw21_works_c7 : ACode := .seq [] escheatlaw21_works_c0 escheatlaw21_works_c6
def A_escheatlaw21_works : AFn := ⟨escheatlaw21_works_c7, [.tmp 0]⟩
noncomputable def E_escheatlaw21_works : Sums := disp 68 S_escheatlaw21_small (disp 15 S_view_Of (disp 17 S_view_View_Inode (disp 33 S_view_View_Used (disp 31 S_view_View_Inodes (disp 37 S_escheatref04_Ints disp0)))))
noncomputable def escheatlaw21_works_c0_d (n : Nat) : SmV := smOps E_escheatlaw21_works escheatlaw21_works_o0
noncomputable def escheatlaw21_works_c1_d (n : Nat) : SmV := smOps E_escheatlaw21_works escheatlaw21_works_o1
noncomputable def escheatlaw21_works_c2_d (n : Nat) : SmV := smOps E_escheatlaw21_works escheatlaw21_works_o2
noncomputable def escheatlaw21_works_c3_d (n : Nat) : SmV := smOps E_escheatlaw21_works escheatlaw21_works_o3
noncomputable def escheatlaw21_works_c4_d (n : Nat) : SmV := smSeq [0] (escheatlaw21_works_c3_d n) smRet
noncomputable def escheatlaw21_works_c5_d (n : Nat) : SmV := smSeq [1, 2, 4] (escheatlaw21_works_c2_d n) (escheatlaw21_works_c4_d n)
noncomputable def escheatlaw21_works_c6_d (n : Nat) : SmV := smSeq [1, 2] (escheatlaw21_works_c1_d n) (escheatlaw21_works_c5_d n)
noncomputable def escheatlaw21_works_c7_d (n : Nat) : SmV := smSeq [] (escheatlaw21_works_c0_d n) (escheatlaw21_works_c6_d n)
noncomputable def R_escheatlaw21_works (n : Nat) (args : List Val) (h : Heap) : OptV := (escheatlaw21_works_c7_d n) A_escheatlaw21_works.fin (params 0 args) h
theorem R_escheatlaw21_works_eq (n : Nat) (h : Heap) : R_escheatlaw21_works n [] h = bnd (S_escheatlaw21_small [] h) fun p1 => bnd (S_view_Of [p1.1] p1.2) fun p2 => bnd (aext p2.1 0) fun v3 => bnd (aext p2.1 1) fun v4 => bnd (astoreN ((p2.2 ++ [some (Row.mk ([.i .i64 0, .i .i64 0, .i .u64 0, .nf]) true)])) 4 ((.c (.p p2.2.length 0))) v3) fun h5 => bnd (amkn (.c (.i .i64 16)) (.c (.i .i64 16))) fun n6 => bnd (S_view_Of [(.c (.sl h5.length 0 n6 256))] ((h5 ++ [some (Row.mk (rows (List.replicate 256 (.i .u8 0)) n6) true)]))) fun p7 => bnd (aext p7.1 0) fun v8 => bnd (aext p7.1 1) fun v9 => bnd (astoreN ((p7.2 ++ [some (Row.mk ([.i .i64 0, .i .i64 0, .i .u64 0, .nf]) true)])) 4 ((.c (.p p7.2.length 0))) v8) fun h10 => bnd (abin .eql v4 (.c (.i .i64 0))) fun v11 => bnd (gd v11 true (some (v9, h10)) (some (.no, h10))) fun p12 => bnd (gd v11 true (bnd (abin .eql p12.1 (.c (.i .i64 13))) fun v13 => some (v13, p12.2)) (some (.no, p12.2))) fun p14 => bnd (apick v11 p14.1 (.c (.b false))) fun v15 => bnd (gd v15 true (bnd (aloadN p14.2 4 ((.c (.p p2.2.length 0)))) fun v16 => some (v16, p14.2)) (some (.no, p14.2))) fun p17 => bnd (gd v15 true (bnd (S_view_View_Inode [p17.1, .c (.i .i64 1)] p17.2) fun p18 => some (p18.1, p18.2)) (some (.no, p17.2))) fun p19 => bnd (gd v15 true (bnd (afld1 p19.1 0) fun v20 => some (v20, p19.2)) (some (.no, p19.2))) fun p21 => bnd (gd v15 true (bnd (abin .eql p21.1 (.c (.i .i64 2))) fun v22 => some (v22, p21.2)) (some (.no, p21.2))) fun p23 => bnd (apick v15 p23.1 (.c (.b false))) fun v24 => bnd (gd v24 true (bnd (aloadN p23.2 4 ((.c (.p p2.2.length 0)))) fun v25 => some (v25, p23.2)) (some (.no, p23.2))) fun p26 => bnd (gd v24 true (bnd (S_view_View_Used [p26.1, .c (.i .i64 2)] p26.2) fun p27 => some (p27.1, p27.2)) (some (.no, p26.2))) fun p28 => bnd (apick v24 p28.1 (.c (.b false))) fun v29 => bnd (gd v29 true (bnd (aloadN p28.2 4 ((.c (.p p2.2.length 0)))) fun v30 => some (v30, p28.2)) (some (.no, p28.2))) fun p31 => bnd (gd v29 true (bnd (S_view_View_Used [p31.1, .c (.i .i64 3)] p31.2) fun p32 => some (p32.1, p32.2)) (some (.no, p31.2))) fun p33 => bnd (gd v29 true (bnd (aun .not p33.1) fun v34 => some (v34, p33.2)) (some (.no, p33.2))) fun p35 => bnd (apick v29 p35.1 (.c (.b false))) fun v36 => bnd (gd v36 true (bnd (aloadN p35.2 4 ((.c (.p p2.2.length 0)))) fun v37 => some (v37, p35.2)) (some (.no, p35.2))) fun p38 => bnd (gd v36 true (bnd (S_view_View_Inodes [p38.1] p38.2) fun p39 => some (p39.1, p39.2)) (some (.no, p38.2))) fun p40 => bnd (gd v36 true (bnd (afill ([.i .i64 0]) [(0, 1, .c (.i .i64 1))]) fun c41 => some ((.c (.sl p40.2.length 0 1 1)), (p40.2 ++ [some (Row.mk (c41) true)]))) (some (.no, p40.2))) fun p42 => bnd (gd v36 true (bnd (S_escheatref04_Ints [p40.1, p42.1] p42.2) fun p43 => some (p43.1, p43.2)) (some (.no, p42.2))) fun p44 => bnd (apick v36 p44.1 (.c (.b false))) fun v45 => some (v45, p44.2) := by kernel_rfl
theorem K_escheatlaw21_works : FnK Try.prog 29 A_escheatlaw21_works E_escheatlaw21_works R_escheatlaw21_works := .mk' (sound1 S_escheatlaw21_small_ok (sound1 S_view_Of_ok (sound1 S_view_View_Inode_ok (sound1 S_view_View_Used_ok (sound1 S_view_View_Inodes_ok (sound1 S_escheatref04_Ints_ok sound0)))))) Try.func29 (by kernel_rfl) (by intro n args h; kernel_rfl)
noncomputable def S_escheatlaw21_works : Fun := tidy (Lim A_escheatlaw21_works E_escheatlaw21_works)
theorem S_escheatlaw21_works_ok : SOk Try.prog 29 S_escheatlaw21_works := K_escheatlaw21_works.sok
theorem S_escheatlaw21_works_flat {n : Nat} {args : List Val} {h h2 : Heap} {v : Val} (he : R_escheatlaw21_works n args (ro h) = some (v, h2)) (hf : v.flat = true) : S_escheatlaw21_works args h = some (v, h) := K_escheatlaw21_works.flat he hf
end Go.Proofs.Ytdgggnlbdoiloaa
end
section
namespace Go.Proofs.Ytdgggnlbdoiloaa
open Go Go.Esc

theorem ldN_dev {i : Nat} {D : Dev} {rw : Bool} (hD : okD D) (hi : i < D.length) : ldN (some ⟨cellsD D, rw⟩) (i * 256) 256 = some (.a (encB D[i])) := by
  simp only [ldN, Option.bind_some]
  rw [if_pos ⟨by rw [cellsD_length hD]; omega, by rw [cellsD_at hD hi, noX_encB]; simp⟩, cellsD_at hD hi]

def inoS : List UInt8 := layB (zeros 256) (32 * 0) (inoB 2 1 0 1 (zI 7))
theorem inoS_length : inoS.length = 256 := by decide +kernel
def mapS : List UInt8 := makeC [0, 1, 2]
theorem mapS_length : mapS.length = 256 := by unfold mapS makeC; rw [foldC_length]; exact zeros_length
def D16a : Dev := (List.replicate 16 (zeros 256)).set 0 (supB 16 8 0)
def D16b : Dev := D16a.set 2 inoS
def DS : Dev := D16b.set 1 mapS
theorem okDa : okD D16a := (okD_zeros 16).set supB_length
theorem okDb : okD D16b := okDa.set inoS_length
theorem okDS : okD DS := okDb.set mapS_length
theorem lenDa : D16a.length = 16 := by unfold D16a; rw [List.length_set, List.length_replicate]
theorem lenDb : D16b.length = 16 := by unfold D16b; rw [List.length_set, lenDa]
theorem lenDS : DS.length = 16 := by unfold DS; rw [List.length_set, lenDb]
theorem devLS : devL DS = true := by decide +kernel
theorem devNS : devN DS = 8 := by decide +kernel
theorem devMS : devM DS = 0 := by decide +kernel
theorem devL0 : devL (List.replicate 16 (zeros 256)) = false := by decide +kernel

theorem small_eq (h : Heap) : S_escheatlaw21_small [] h = some (.c (.sl h.length 0 16 256), h ++ [some ⟨cellsD DS, true⟩]) := by
  have key : ∀ g, ∃ v g', R_escheatlaw21_small 0 [] g = some (v, g') ∧ Out g.length g' v 256 16 (cellsD DS) := by
    intro g
    have mk : amkn (.c (.i .i64 16)) (.c (.i .i64 16)) = some 16 := rfl
    have ef1 : afill [Cell.i .i64 0, .i .i64 0, .i .u64 0] [(0, 1, .c (.i .i64 16)), (1, 1, .c (.i .i64 8))] = some (layC 16 8 0) := rfl
    have hp := fun h => super_Put_eq (b := 16) (n := 8) (m := 0) (h := h) (by omega) (by omega)
    have hm : mayL 16 8 = true := by decide
    simp only [hm, cond_true] at hp
    have a0 : aiAddrL 256 (.c (.sl (g.length + 1) 0 16 256)) (.c (.i .i64 0)) = some (.c (.p (g.length + 1) 0)) := rfl
    have a1 : aiAddrL 256 (.c (.sl (g.length + 1) 0 16 256)) (.c (.i .i64 1)) = some (.c (.p (g.length + 1) 256)) := rfl
    have a2 : aiAddrL 256 (.c (.sl (g.length + 1) 0 16 256)) (.c (.i .i64 2)) = some (.c (.p (g.length + 1) 512)) := rfl
    have s1 := stN_dev (D := List.replicate 16 (zeros 256)) (i := 0) (okD_zeros 16) (supB_length (b := 16) (n := 8) (m := 0)) (by simp)
    have e1 : (List.replicate 16 (zeros 256)).set 0 (supB 16 8 0) = D16a := rfl
    rw [e1, Nat.zero_mul] at s1
    have hx : D16a[2]'(by rw [lenDa]; omega) = zeros 256 := by decide +kernel
    have y1 := ldN_dev (D := D16a) (i := 2) (rw := true) okDa (by rw [lenDa]; omega)
    rw [hx] at y1
    have ef2 : afill [Cell.i .i64 0, .i .i64 0, .i .i64 0, .i .i64 0, .i .i64 0, .i .i64 0, .i .i64 0, .i .i64 0, .i .i64 0, .i .i64 0, .i .i64 0] [(0, 1, .c (.i .i64 2)), (1, 1, .c (.i .i64 1)), (3, 1, .c (.i .i64 1))] = some (inoC 2 1 0 1 (zI 7)) := rfl
    have hW := fun h => table_With_ok (j := 0) (k := 2) (l := 1) (s := 0) (p := 1) (d := zI 7) (b := zeros 256) (h := h) zeros_length rfl (by omega) (by decide)
    have eW : layB (zeros 256) (32 * 0) (inoB 2 1 0 1 (zI 7)) = inoS := rfl
    simp only [eW] at hW
    have s2 := stN_dev (D := D16a) (i := 2) okDa inoS_length (by rw [lenDa]; omega)
    have e2 : D16a.set 2 inoS = D16b := rfl
    rw [e2] at s2
    have ef3 : afill [Cell.i .i64 0, .i .i64 0, .i .i64 0] [(0, 1, .c (.i .i64 0)), (1, 1, .c (.i .i64 1)), (2, 1, .c (.i .i64 2))] = some (encI ([0, 1, 2].map fun x : Nat => (x : Int))) := rfl
    have hM := fun h (hv : Has h (.c (.sl (g.length + 2) 0 3 1)) 1 3 (encI ([0, 1, 2].map fun x : Nat => (x : Int)))) => chart_Make_eq (l := [0, 1, 2]) (h := h) (by decide) (by decide) hv
    have eM : makeC [0, 1, 2] = mapS := rfl
    simp only [eM] at hM
    have hM2 := hM (g ++ [some (Row.mk [] true), some (Row.mk (cellsD D16b) true), some (Row.mk (encI ([0, 1, 2].map fun x : Nat => (x : Int))) true)]) (Has.tr (by simp) rfl (noX_encI _))
    have s3 := stN_dev (D := D16b) (i := 1) okDb mapS_length (by rw [lenDb]; omega)
    have e3 : D16b.set 1 mapS = DS := rfl
    rw [e3] at s3
    rw [R_escheatlaw21_small_eq]
    simp only [rows_dev]
    rw [show (2 * 256 : Nat) = 512 from rfl] at y1 s2
    rw [show (1 * 256 : Nat) = 256 from rfl] at s3
    refine ⟨.c (.sl (g.length + 1) 0 16 256), g ++ [some (Row.mk [] true), some (Row.mk (cellsD DS) true), some (Row.mk (encI ([0, 1, 2].map fun x : Nat => (x : Int))) true)], ?_, by rw [cellsD_length okDS, lenDS], g.length + 1, rfl, by omega, by simp⟩
    generalize cellsD D16a = c1 at *
    generalize cellsD D16b = c2 at *
    generalize cellsD DS = c3 at *
    generalize encB (supB 16 8 0) = b1 at *
    generalize encB (zeros 256) = b2 at *
    generalize encB inoS = b3 at *
    generalize encB mapS = b4 at *
    generalize encI ([0, 1, 2].map fun x : Nat => (x : Int)) = i1 at *
    have z0 : ((0 : Nat) : Int) = 0 := rfl
    simp only [z0] at hW
    simp only [afAddr_p, List.append_nil, if_true, if_false, bnd_some, mp_some, cnd_t, cnd_f, gd_no, gd_tt, gd_tf, gd_ft, gd_ff, alenS_s, alen_sl, alen_ns, abin_add, abin_sub, abin_mul, abin_eql, abin_neq, abin_lss, abin_leq, abin_gtr, abin_geq, abin_seql, abin_sneq, abin_slss, aun_not, aun_neg, agn_some, aeqN_nf, aeqN_f, aeqN_np, aeqN_p, anilc_p, aeqB_t, aeqB_f, aconv_i, apick_b, cond_true, cond_false, decide_true, decide_false, Bool.not_true, Bool.not_false, aext_t, ofPart_c, ofPart_a, part?_c, part?_a, cells?_c, cells?_a, tupN_2, tupN_3, Option.map_some, Option.some.injEq, List.getElem?_cons_zero, List.getElem?_cons_succ, not_true_eq_false, not_false_eq_true, quiet_same, bytesI_length, Option.join_some, List.append_assoc, List.cons_append, List.nil_append, List.length_append, List.length_cons, List.length_nil, Nat.zero_add, Nat.add_zero, rd_at, rd_at0, set_at, set_at0, List.set_cons_zero, List.set_cons_succ, ne_eq, decide_not, quiet_ext, newOk_some, List.cons_prefix_cons, List.nil_prefix, List.drop_succ_cons, List.drop_zero, List.all_cons, List.all_nil, Bool.and_true, true_and, and_true, aloadN_at, aloadN_at0, aload1_at, aload1_at0, astoreN_at, astoreN_at0, astore1_at, astore1_at0, aslA_at, aslA_at0, ldN_all, ld1_row, stN_all, st1_row, slr_all, Nat.reduceAdd, Nat.reduceMul, Nat.reduceLT, mk, ef1, hp, a0, s1, a2, y1, ef2, hW, s2, ef3, hM2, a1, s3]
  obtain ⟨v, g', e, ho⟩ := key (ro h)
  exact S_escheatlaw21_small_out e (by simpa [ro_length] using ho) flats_cellsD

set_option maxHeartbeats 1000000 in
theorem works21_eq (h : Heap) : S_escheatlaw21_works [] h = some (.c (.b true), h) := by
  have key : ∀ g, ∃ g', R_escheatlaw21_works 0 [] g = some (.c (.b true), g') := by
    intro g
    have hS := small_eq g
    have l16 := lenDS
    obtain ⟨f, t, hO, hv⟩ := view_Of_ok (v := .c (.sl g.length 0 16 256)) (h := g ++ [some (Row.mk (cellsD DS) true)]) (D := DS) (by rw [l16]; exact Has.tr (by simp) (by rw [cellsD_length okDS, l16]) (noX_cellsD _)) okDS devLS (by rw [l16]; omega)
    rw [devNS, devMS] at hO
    obtain ⟨H, hH⟩ : ∃ H, H = g ++ [some (Row.mk (cellsD DS) true)] ++ t := ⟨_, rfl⟩
    rw [← hH] at hO hv
    obtain ⟨V, hV⟩ : ∃ V, V = vwC DS.length 8 0 f := ⟨_, rfl⟩
    have hS4 : astoreN (H ++ [some (Row.mk [.i .i64 0, .i .i64 0, .i .u64 0, .nf] true)]) 4 (.c (.p H.length 0)) (.a V) = some (H ++ [some (Row.mk V true)]) := by rw [hV, astoreN_at0]; rfl
    have mk : amkn (.c (.i .i64 16)) (.c (.i .i64 16)) = some 16 := rfl
    obtain ⟨t2, hO2⟩ := view_Of_bad (v := .c (.sl (H ++ [some (Row.mk V true)]).length 0 16 256)) (h := H ++ [some (Row.mk V true)] ++ [some (Row.mk (cellsD (List.replicate 16 (zeros 256))) true)]) (D := List.replicate 16 (zeros 256)) (by
      rw [List.length_replicate]
      exact Has.tr (by simp) (by rw [cellsD_length (okD_zeros 16), List.length_replicate]) (noX_cellsD _)) (okD_zeros 16) devL0
    obtain ⟨H2, hH2⟩ : ∃ H2, H2 = H ++ [some (Row.mk V true)] ++ [some (Row.mk (cellsD (List.replicate 16 (zeros 256))) true)] ++ t2 := ⟨_, rfl⟩
    rw [← hH2] at hO2
    simp only [List.append_assoc, List.cons_append, List.nil_append, List.length_append, List.length_cons, List.length_nil, Nat.zero_add] at hO2
    have hS5 : astoreN (H2 ++ [some (Row.mk [.i .i64 0, .i .i64 0, .i .u64 0, .nf] true)]) 4 (.c (.p H2.length 0)) (.a (vwC 0 0 0 .nf)) = some (H2 ++ [some (Row.mk (vwC 0 0 0 .nf) true)]) := by rw [astoreN_at0]; rfl
    obtain ⟨K, hK⟩ : ∃ K, K = H2 ++ [some (Row.mk (vwC 0 0 0 .nf) true)] := ⟨_, rfl⟩
    rw [← hK] at hS5
    have hKr : rd K H.length = some ⟨V, true⟩ := by
      rw [hK, hH2]
      exact rd_append (rd_append (rd_append (by simp)))
    have hvK : IsView K f DS := by
      rw [hK, hH2]
      exact (((hv.more _).more _).more _).more _
    have hL := loadAll (n := 4) hKr (by rw [hV]; rfl)
    have hI := view_Inode_eq (n := 8) (m := 0) (i := 1) okDS hvK
    obtain ⟨l, s, p, d, ei, hd⟩ := inoV_form DS 8 1
    have ek : kdV DS 8 1 = 2 := by decide +kernel
    rw [ei, ek] at hI
    have f1 : afld1 (.a (inoC 2 l s p d)) 0 = some (.c (.i .i64 2)) := rfl
    have hU2 := view_Used_eq (n := 8) (m := 0) (i := 2) okDS hvK
    have hU3 := view_Used_eq (n := 8) (m := 0) (i := 3) okDS hvK
    have eu2 : usedV DS 8 2 = true := by decide +kernel
    have eu3 : usedV DS 8 3 = false := by decide +kernel
    rw [eu2] at hU2
    rw [eu3] at hU3
    have hN := view_Inodes_eq (n := 8) (m := 0) okDS hvK
    have en : inosF (kdV DS 8) 128 0 = [1] := by decide +kernel
    rw [en] at hN
    rw [show ([1] : List Int).length = 1 from rfl] at hN
    rw [← hV] at hO hI hU2 hU3 hN
    have ef : afill [Cell.i .i64 0] [(0, 1, .c (.i .i64 1))] = some (encI [1]) := rfl
    have hQ := ref04_Ints_eq (h := K ++ [some (Row.mk (encI [1]) true), some (Row.mk (encI [1]) true)]) (v := .c (.sl K.length 0 1 1)) (nv := 1) (u := .c (.sl (K.length + 1) 0 1 1)) (nu := 1) (l := [1]) (r := [1]) (Has.tr (by simp) rfl rfl) (Has.tr (by simp) rfl rfl) (by decide)
    rw [decide_eq_true rfl] at hQ
    rw [R_escheatlaw21_works_eq]
    simp only [rows_dev]
    generalize cellsD DS = c1 at *
    generalize encI [1] = i1 at *
    generalize inoC 2 l s p d = I at *
    exact ⟨_, by simp only [bnd_some, aext_t, List.getElem?_cons_zero, List.getElem?_cons_succ, Option.map_some, ofPart_c, ofPart_a, hS, hO, hS4, mk, hO2, hS5, abin_eql, eq_self, decide_true, gd_tt, apick_b, cond_true, hL, hI, f1, hU2, hU3, aun_not, Bool.not_false, hN, ef, List.append_assoc, List.cons_append, List.nil_append, List.length_append, List.length_cons, List.length_nil, Nat.zero_add, hQ] <;> rfl⟩
  obtain ⟨g', e⟩ := key (ro h)
  exact S_escheatlaw21_works_flat e rfl

end Go.Proofs.Ytdgggnlbdoiloaa
end
section
namespace Go.Proofs.Ytdgggnlbdoiloaa
open Go Go.Esc
set_option maxRecDepth 100000
def escheatlaw21_To_o0 : List AOper := [{ dst := some 2, op := .nilrow 256 }]
def escheatlaw21_To_c0 : ACode := .ops escheatlaw21_To_o0
def escheatlaw21_To_o1 : List AOper := [{ dst := some 3, op := .nilrow 256 }]
def escheatlaw21_To_c1 : ACode := .ops escheatlaw21_To_o1
def escheatlaw21_To_o2 : List AOper := [{ dst := some 4, op := .mv (.v (.c (.i .i64 0))) }]
def escheatlaw21_To_c2 : ACode := .ops escheatlaw21_To_o2
def escheatlaw21_To_o3 : List AOper := [{ dst := some 5, op := .mv (.t 4) }, { dst := some 6, op := .mv (.t 0) }, { dst := some 7, op := .len (.t 6) }, { dst := some 8, op := .bin .lss (.t 5) (.t 7) }]
def escheatlaw21_To_c3 : ACode := .ops escheatlaw21_To_o3
def escheatlaw21_To_c4 : ACode := .cond (.t 8) .skip (.exit 0)
def escheatlaw21_To_c5 : ACode := .seq [0, 3, 4, 8] escheatlaw21_To_c3 escheatlaw21_To_c4
def escheatlaw21_To_o4 : List AOper := [{ dst := some 11, op := .mv (.t 3) }, { dst := some 12, op := .mv (.t 0) }, { dst := some 13, op := .mv (.t 4) }, { dst := some 14, op := .iAddrL 256 (.t 12) (.t 13) }, { dst := some 15, op := .loadN 256 (.t 14) }, { dst := some 16, op := .buildSl 256 1 (List.replicate 256 (.i .u8 0)) [(0, 256, (.t 15))] }, { dst := some 17, op := .app 256 (.t 11) (.t 16) }, { dst := some 3, op := .mv (.t 17) }]
def escheatlaw21_To_c6 : ACode := .ops escheatlaw21_To_o4
def escheatlaw21_To_c7 : ACode := .block 1 escheatlaw21_To_c6
def escheatlaw21_To_o5 : List AOper := [{ dst := some 9, op := .mv (.t 4) }, { dst := some 10, op := .bin .add (.t 9) (.v (.c (.i .i64 1))) }, { dst := some 4, op := .mv (.t 10) }]
def escheatlaw21_To_c8 : ACode := .ops escheatlaw21_To_o5
def escheatlaw21_To_c9 : ACode := .seq [0, 3, 4] escheatlaw21_To_c7 escheatlaw21_To_c8
def escheatlaw21_To_c10 : ACode := .seq [0, 3, 4] escheatlaw21_To_c5 escheatlaw21_To_c9
def escheatlaw21_To_c11 : ACode := .loop [0, 3, 4] escheatlaw21_To_c10
def escheatlaw21_To_c12 : ACode := .block 0 escheatlaw21_To_c11
def escheatlaw21_To_c13 : ACode := .seq [0, 3, 4] escheatlaw21_To_c2 escheatlaw21_To_c12
def escheatlaw21_To_o6 : List AOper := [{ dst := some 18, op := .mv (.t 3) }, { dst := some 2, op := .mv (.t 18) }]
def escheatlaw21_To_c14 : ACode := .ops escheatlaw21_To_o6
def escheatlaw21_To_c15 : ACode := .seq [2] escheatlaw21_To_c14 .ret
def escheatlaw21_To_c16 : ACode := .seq [3] escheatlaw21_To_c13 escheatlaw21_To_c15
def escheatlaw21_To_c17 : ACode := .seq [0, 3] escheatlaw21_To_c1 escheatlaw21_To_c16
def escheatlaw21_To_c18 : ACode := .seq [0] escheatlaw21_To_c0 escheatlaw21_To_c17
def A_escheatlaw21_To : AFn := ⟨escheatlaw21_To_c18, [.tmp 2]⟩
noncomputable def E_escheatlaw21_To : Sums := disp0
noncomputable def escheatlaw21_To_c0_d (n : Nat) : SmV := smOps E_escheatlaw21_To escheatlaw21_To_o0
noncomputable def escheatlaw21_To_c1_d (n : Nat) : SmV := smOps E_escheatlaw21_To escheatlaw21_To_o1
noncomputable def escheatlaw21_To_c2_d (n : Nat) : SmV := smOps E_escheatlaw21_To escheatlaw21_To_o2
noncomputable def escheatlaw21_To_c3_d (n : Nat) : SmV := smOps E_escheatlaw21_To escheatlaw21_To_o3
noncomputable def escheatlaw21_To_c4_d (n : Nat) : SmV := smCond (.t 8) smSkip (smExit 0)
noncomputable def escheatlaw21_To_c5_d (n : Nat) : SmV := smSeq [0, 3, 4, 8] (escheatlaw21_To_c3_d n) (escheatlaw21_To_c4_d n)
noncomputable def escheatlaw21_To_c6_d (n : Nat) : SmV := smOps E_escheatlaw21_To escheatlaw21_To_o4
noncomputable def escheatlaw21_To_c7_d (n : Nat) : SmV := smBlock 1 (escheatlaw21_To_c6_d n)
noncomputable def escheatlaw21_To_c8_d (n : Nat) : SmV := smOps E_escheatlaw21_To escheatlaw21_To_o5
noncomputable def escheatlaw21_To_c9_d (n : Nat) : SmV := smSeq [0, 3, 4] (escheatlaw21_To_c7_d n) (escheatlaw21_To_c8_d n)
noncomputable def escheatlaw21_To_c10_d (n : Nat) : SmV := smSeq [0, 3, 4] (escheatlaw21_To_c5_d n) (escheatlaw21_To_c9_d n)
noncomputable def escheatlaw21_To_c11_d (n : Nat) : SmV := smLoop n [0, 3, 4] (escheatlaw21_To_c10_d n)
noncomputable def escheatlaw21_To_c12_d (n : Nat) : SmV := smBlock 0 (escheatlaw21_To_c11_d n)
noncomputable def escheatlaw21_To_c13_d (n : Nat) : SmV := smSeq [0, 3, 4] (escheatlaw21_To_c2_d n) (escheatlaw21_To_c12_d n)
noncomputable def escheatlaw21_To_c14_d (n : Nat) : SmV := smOps E_escheatlaw21_To escheatlaw21_To_o6
noncomputable def escheatlaw21_To_c15_d (n : Nat) : SmV := smSeq [2] (escheatlaw21_To_c14_d n) smRet
noncomputable def escheatlaw21_To_c16_d (n : Nat) : SmV := smSeq [3] (escheatlaw21_To_c13_d n) (escheatlaw21_To_c15_d n)
noncomputable def escheatlaw21_To_c17_d (n : Nat) : SmV := smSeq [0, 3] (escheatlaw21_To_c1_d n) (escheatlaw21_To_c16_d n)
noncomputable def escheatlaw21_To_c18_d (n : Nat) : SmV := smSeq [0] (escheatlaw21_To_c0_d n) (escheatlaw21_To_c17_d n)
noncomputable def escheatlaw21_To_k0 (n : Nat) : AExit → Env → Heap → OptV := fun x e h => match x with | .normal => hold ((escheatlaw21_To_c15_d n) A_escheatlaw21_To.fin (e.keep [3]) h) | .exit id => A_escheatlaw21_To.fin (.exit id) e h | .ret => A_escheatlaw21_To.fin .ret e h
noncomputable def escheatlaw21_To_k1 (n : Nat) : AExit → Env → Heap → OptV := fun x e h => match x with | .exit i => bif Nat.beq i 0 then (escheatlaw21_To_k0 n) .normal e h else (escheatlaw21_To_k0 n) (.exit i) e h | .normal => (escheatlaw21_To_k0 n) .normal e h | .ret => (escheatlaw21_To_k0 n) .ret e h
noncomputable def escheatlaw21_To_l0 (n m : Nat) (x0 x3 x4 : Val) (h : Heap) : OptV := around (escheatlaw21_To_c10_d n) [0, 3, 4] (escheatlaw21_To_k1 n) m [(0, x0), (3, x3), (4, x4)] h
noncomputable def R_escheatlaw21_To (n : Nat) (args : List Val) (h : Heap) : OptV := (escheatlaw21_To_c18_d n) A_escheatlaw21_To.fin (params 0 args) h
theorem R_escheatlaw21_To_eq (n : Nat) (a0 : Val) (h : Heap) : R_escheatlaw21_To n [a0] h = escheatlaw21_To_l0 n n a0 ((.c (.sl ((h ++ [some (Row.mk ([]) true)])).length 0 0 256))) (.c (.i .i64 0)) (((h ++ [some (Row.mk ([]) true)]) ++ [some (Row.mk ([]) true)])) := by kernel_rfl
theorem escheatlaw21_To_l0_eq (n m : Nat) (x0 x3 x4 : Val) (h : Heap) : escheatlaw21_To_l0 n (m + 1) x0 x3 x4 h = bnd (alen x0) fun v1 => bnd (abin .lss x4 v1) fun v2 => cnd v2 (bnd (aiAddrL 256 x0 x4) fun v3 => bnd (aloadN h 256 v3) fun v4 => bnd (afill (List.replicate 256 (.i .u8 0)) [(0, 256, v4)]) fun c5 => bnd (aapp ((h ++ [some (Row.mk (c5) true)])) 256 x3 ((.c (.sl h.length 0 1 256)))) fun p6 => bnd (abin .add x4 (.c (.i .i64 1))) fun v7 => escheatlaw21_To_l0 n m x0 p6.1 v7 p6.2) (some (x3, h)) := by kernel_rfl
theorem K_escheatlaw21_To : FnK Try.prog 16 A_escheatlaw21_To E_escheatlaw21_To R_escheatlaw21_To := .mk' (sound0) Try.func16 (by kernel_rfl) (by intro n args h; kernel_rfl)
noncomputable def S_escheatlaw21_To : Fun := tidy (Lim A_escheatlaw21_To E_escheatlaw21_To)
theorem S_escheatlaw21_To_ok : SOk Try.prog 16 S_escheatlaw21_To := K_escheatlaw21_To.sok
theorem S_escheatlaw21_To_out {n : Nat} {args : List Val} {h h2 : Heap} {v : Val} {sz k : Nat} {cs : List Cell} (he : R_escheatlaw21_To n args (ro h) = some (v, h2)) (ho : Out h.length h2 v sz k cs) (hf : flats cs = true) : S_escheatlaw21_To args h = some (.c (.sl h.length 0 k sz), h ++ [some ⟨cs, true⟩]) := K_escheatlaw21_To.out he ho hf
end Go.Proofs.Ytdgggnlbdoiloaa
end
section
namespace Go.Proofs.Ytdgggnlbdoiloaa
open Go Go.Esc

theorem has_blk {h : Heap} {v : Val} {D : Dev} (hv : Has h v 256 D.length (cellsD D)) (hD : okD D) {i : Nat} (hi : i < D.length) :
    ∃ id off, v = .c (.sl id off D.length 256) ∧ id < h.length ∧ aiAddrL 256 v (.c (.i .i64 (i : Int))) = some (.c (.p id (off + i * 256))) ∧ aloadN h 256 (.c (.p id (off + i * 256))) = some (.a (encB D[i])) := by
  obtain ⟨id, off, rfl, hid, _, h2⟩ := hv.sl (by omega)
  refine ⟨id, off, rfl, hid, iAddrL_of hi, ?_⟩
  rw [h2 (i * 256) 256 (by rw [cellsD_length hD]; omega), cellsD_at hD hi]

theorem afill_blk {b : List UInt8} (hb : b.length = 256) : afill (List.replicate 256 (Cell.i .u8 0)) [(0, 256, .a (encB b))] = some (encB b) := by
  have hl : (encB b).length = 256 := by rw [encB_length, hb]
  have hz : (List.replicate 256 (Cell.i .u8 0)).length = 256 := List.length_replicate
  generalize List.replicate 256 (Cell.i .u8 0) = z at *
  generalize encB b = y at *
  simp only [afill, cells?_a, Option.bind_some]
  rw [if_pos ⟨hl, by omega⟩]
  simp only [lay_all (by omega : y.length = z.length)]

theorem to_loop {g : Heap} {D : Dev} {v : Val} {q : Nat} (hv : Has g v 256 D.length (cellsD D)) (hD : okD D) (h60 : D.length ≤ 1073741823) : ∀ (e i m id : Nat) (h : Heap), i + e = D.length → e < m → Low g.length g h → g.length ≤ id → rd h id = some ⟨cellsD (D.take i), true⟩ →
    ∃ v' h', escheatlaw21_To_l0 q m v (.c (.sl id 0 i 256)) (.c (.i .i64 (i : Int))) h = some (v', h') ∧ Out g.length h' v' 256 D.length (cellsD D)
  | e, i, 0, id, h, _, hm, _, _, _ => by omega
  | 0, i, m + 1, id, h, hi, hm, hlow, hid, hr => by
    have e0 : i = D.length := by omega
    have c0 : ¬ (i : Int) < (D.length : Nat) := by omega
    have hl := (hv.since hlow).len
    rw [e0, List.take_length] at hr
    rw [escheatlaw21_To_l0_eq]
    exact ⟨_, _, by simp only [afAddr_p, List.append_nil, if_true, if_false, bnd_some, mp_some, cnd_t, cnd_f, gd_no, gd_tt, gd_tf, gd_ft, gd_ff, alenS_s, alen_sl, alen_ns, abin_add, abin_sub, abin_mul, abin_eql, abin_neq, abin_lss, abin_leq, abin_gtr, abin_geq, abin_seql, abin_sneq, abin_slss, aun_not, aun_neg, agn_some, aeqN_nf, aeqN_f, aeqN_np, aeqN_p, anilc_p, aeqB_t, aeqB_f, aconv_i, apick_b, cond_true, cond_false, decide_true, decide_false, Bool.not_true, Bool.not_false, aext_t, ofPart_c, ofPart_a, part?_c, part?_a, cells?_c, cells?_a, tupN_2, tupN_3, Option.map_some, Option.some.injEq, List.getElem?_cons_zero, List.getElem?_cons_succ, not_true_eq_false, not_false_eq_true, quiet_same, bytesI_length, Option.join_some, List.append_assoc, List.cons_append, List.nil_append, List.length_append, List.length_cons, List.length_nil, Nat.zero_add, Nat.add_zero, rd_at, rd_at0, set_at, set_at0, List.set_cons_zero, List.set_cons_succ, ne_eq, decide_not, quiet_ext, newOk_some, List.cons_prefix_cons, List.nil_prefix, List.drop_succ_cons, List.drop_zero, List.all_cons, List.all_nil, Bool.and_true, true_and, and_true, hl, c0] <;> rfl, cellsD_length hD, id, by rw [e0], hid, hr⟩
  | e + 1, i, m + 1, id, h, hi, hm, hlow, hid, hr => by
    have hil : i < D.length := by omega
    have c0 : (i : Int) < (D.length : Nat) := by omega
    have hvh := hv.since hlow
    have hl := hvh.len
    obtain ⟨jd, off, e1, hj, a1, l1⟩ := has_blk hvh hD hil
    have ef := afill_blk (hD.at hil)
    have htl : (D.take i).length = i := by rw [List.length_take]; omega
    obtain ⟨h', p1, p2, p3, p4, p5⟩ := push (ys := encB D[i]) hlow hr (by rw [cellsD_length (hD.take i), htl]) hid (by rw [encB_length, hD.at hil]) (by omega) (by omega)
    have et : cellsD (D.take i) ++ encB D[i] = cellsD (D.take (i + 1)) := by
      rw [List.take_succ_eq_append_getElem hil, cellsD_append, cellsD_one]
    rw [et] at p2
    obtain ⟨v', h'', f1, f2⟩ := to_loop (q := q) hv hD h60 e (i + 1) m (h.length + 1) h' (by omega) (by omega) p3 p4 p2
    refine ⟨v', h'', ?_, f2⟩
    rw [escheatlaw21_To_l0_eq]
    generalize encB D[i] = y at *
    simp only [afAddr_p, List.append_nil, if_true, if_false, bnd_some, mp_some, cnd_t, cnd_f, gd_no, gd_tt, gd_tf, gd_ft, gd_ff, alenS_s, alen_sl, alen_ns, abin_add, abin_sub, abin_mul, abin_eql, abin_neq, abin_lss, abin_leq, abin_gtr, abin_geq, abin_seql, abin_sneq, abin_slss, aun_not, aun_neg, agn_some, aeqN_nf, aeqN_f, aeqN_np, aeqN_p, anilc_p, aeqB_t, aeqB_f, aconv_i, apick_b, cond_true, cond_false, decide_true, decide_false, Bool.not_true, Bool.not_false, aext_t, ofPart_c, ofPart_a, part?_c, part?_a, cells?_c, cells?_a, tupN_2, tupN_3, Option.map_some, Option.some.injEq, List.getElem?_cons_zero, List.getElem?_cons_succ, not_true_eq_false, not_false_eq_true, quiet_same, bytesI_length, Option.join_some, List.append_assoc, List.cons_append, List.nil_append, List.length_append, List.length_cons, List.length_nil, Nat.zero_add, Nat.add_zero, rd_at, rd_at0, set_at, set_at0, List.set_cons_zero, List.set_cons_succ, ne_eq, decide_not, quiet_ext, newOk_some, List.cons_prefix_cons, List.nil_prefix, List.drop_succ_cons, List.drop_zero, List.all_cons, List.all_nil, Bool.and_true, true_and, and_true, hl, c0, a1, l1, ef, p1, wi_succ (show i + 1 < 9223372036854775808 by omega)]
    exact f1

theorem to_eq {v : Val} {D : Dev} {h : Heap} (hv : Has h v 256 D.length (cellsD D)) (hD : okD D) (h60 : D.length ≤ 1073741823) : S_escheatlaw21_To [v] h = some (.c (.sl h.length 0 D.length 256), h ++ [some ⟨cellsD D, true⟩]) := by
  have key : ∀ g, Has g v 256 D.length (cellsD D) → ∃ v' g', R_escheatlaw21_To (D.length + 1) [v] g = some (v', g') ∧ Out g.length g' v' 256 D.length (cellsD D) := by
    intro g hv
    obtain ⟨v', h', f1, f2⟩ := to_loop (q := D.length + 1) hv hD h60 D.length 0 (D.length + 1) (g.length + 1) (g ++ [some (Row.mk [] true), some (Row.mk [] true)]) (by omega) (by omega) ((Low.refl (Nat.le_refl _)).new _) (by omega) (by simp [cellsD])
    rw [R_escheatlaw21_To_eq]
    exact ⟨v', h', by simp only [afAddr_p, List.append_nil, if_true, if_false, bnd_some, mp_some, cnd_t, cnd_f, gd_no, gd_tt, gd_tf, gd_ft, gd_ff, alenS_s, alen_sl, alen_ns, abin_add, abin_sub, abin_mul, abin_eql, abin_neq, abin_lss, abin_leq, abin_gtr, abin_geq, abin_seql, abin_sneq, abin_slss, aun_not, aun_neg, agn_some, aeqN_nf, aeqN_f, aeqN_np, aeqN_p, anilc_p, aeqB_t, aeqB_f, aconv_i, apick_b, cond_true, cond_false, decide_true, decide_false, Bool.not_true, Bool.not_false, aext_t, ofPart_c, ofPart_a, part?_c, part?_a, cells?_c, cells?_a, tupN_2, tupN_3, Option.map_some, Option.some.injEq, List.getElem?_cons_zero, List.getElem?_cons_succ, not_true_eq_false, not_false_eq_true, quiet_same, bytesI_length, Option.join_some, List.append_assoc, List.cons_append, List.nil_append, List.length_append, List.length_cons, List.length_nil, Nat.zero_add, Nat.add_zero, rd_at, rd_at0, set_at, set_at0, List.set_cons_zero, List.set_cons_succ, ne_eq, decide_not, quiet_ext, newOk_some, List.cons_prefix_cons, List.nil_prefix, List.drop_succ_cons, List.drop_zero, List.all_cons, List.all_nil, Bool.and_true, true_and, and_true]; exact f1, f2⟩
  obtain ⟨v', g', e, ho⟩ := key (ro h) hv.ro
  exact S_escheatlaw21_To_out e (by simpa [ro_length] using ho) flats_cellsD

end Go.Proofs.Ytdgggnlbdoiloaa
end
section
namespace Go.Proofs.Ytdgggnlbdoiloaa
open Go Go.Esc
set_option maxRecDepth 100000
def escheatlaw21_Same_o0 : List AOper := [{ dst := some 4, op := .mv (.v (.c (.b false))) }]
def escheatlaw21_Same_c0 : ACode := .ops escheatlaw21_Same_o0
def escheatlaw21_Same_o1 : List AOper := [{ dst := some 6, op := .mv (.t 0) }, { dst := some 7, op := .len (.t 6) }, { dst := some 8, op := .mv (.t 1) }, { dst := some 9, op := .len (.t 8) }, { dst := some 10, op := .bin .neq (.t 7) (.t 9) }]
def escheatlaw21_Same_c1 : ACode := .ops escheatlaw21_Same_o1
def escheatlaw21_Same_o2 : List AOper := [{ dst := some 4, op := .mv (.v (.c (.b false))) }]
def escheatlaw21_Same_c2 : ACode := .ops escheatlaw21_Same_o2
def escheatlaw21_Same_c3 : ACode := .seq [4] escheatlaw21_Same_c2 .ret
def escheatlaw21_Same_c4 : ACode := .cond (.t 10) escheatlaw21_Same_c3 .skip
def escheatlaw21_Same_c5 : ACode := .seq [0, 1, 10] escheatlaw21_Same_c1 escheatlaw21_Same_c4
def escheatlaw21_Same_o3 : List AOper := [{ dst := some 5, op := .mv (.v (.c (.i .i64 0))) }]
def escheatlaw21_Same_c6 : ACode := .ops escheatlaw21_Same_o3
def escheatlaw21_Same_o4 : List AOper := [{ dst := some 11, op := .mv (.t 5) }, { dst := some 12, op := .mv (.t 1) }, { dst := some 13, op := .len (.t 12) }, { dst := some 14, op := .bin .lss (.t 11) (.t 13) }]
def escheatlaw21_Same_c7 : ACode := .ops escheatlaw21_Same_o4
def escheatlaw21_Same_c8 : ACode := .cond (.t 14) .skip (.exit 0)
def escheatlaw21_Same_c9 : ACode := .seq [0, 1, 5, 14] escheatlaw21_Same_c7 escheatlaw21_Same_c8
def escheatlaw21_Same_o5 : List AOper := [{ dst := some 17, op := .mv (.t 0) }, { dst := some 18, op := .mv (.t 5) }, { dst := some 19, op := .iAddrL 256 (.t 17) (.t 18) }, { dst := some 20, op := .loadN 256 (.t 19) }, { dst := some 21, op := .mv (.t 1) }, { dst := some 22, op := .mv (.t 5) }, { dst := some 23, op := .iAddrL 256 (.t 21) (.t 22) }, { dst := some 24, op := .loadN 256 (.t 23) }]
def escheatlaw21_Same_o6 : List AOper := [{ dst := some 25, op := .eqA true (List.replicate 256 (.i .u8)) (.t 20) (.t 24) }]
def escheatlaw21_Same_c10 : ACode := .draw 0 escheatlaw21_Same_o5 escheatlaw21_Same_o6
def escheatlaw21_Same_o7 : List AOper := [{ dst := some 4, op := .mv (.v (.c (.b false))) }]
def escheatlaw21_Same_c11 : ACode := .ops escheatlaw21_Same_o7
def escheatlaw21_Same_c12 : ACode := .seq [4] escheatlaw21_Same_c11 .ret
def escheatlaw21_Same_c13 : ACode := .cond (.t 25) escheatlaw21_Same_c12 .skip
def escheatlaw21_Same_c14 : ACode := .seq [0, 1, 5, 25] escheatlaw21_Same_c10 escheatlaw21_Same_c13
def escheatlaw21_Same_c15 : ACode := .block 1 escheatlaw21_Same_c14
def escheatlaw21_Same_o8 : List AOper := [{ dst := some 15, op := .mv (.t 5) }, { dst := some 16, op := .bin .add (.t 15) (.v (.c (.i .i64 1))) }, { dst := some 5, op := .mv (.t 16) }]
def escheatlaw21_Same_c16 : ACode := .ops escheatlaw21_Same_o8
def escheatlaw21_Same_c17 : ACode := .seq [0, 1, 5] escheatlaw21_Same_c15 escheatlaw21_Same_c16
def escheatlaw21_Same_c18 : ACode := .seq [0, 1, 5] escheatlaw21_Same_c9 escheatlaw21_Same_c17
def escheatlaw21_Same_c19 : ACode := .loop [0, 1, 5] escheatlaw21_Same_c18
def escheatlaw21_Same_c20 : ACode := .block 0 escheatlaw21_Same_c19
def escheatlaw21_Same_c21 : ACode := .seq [0, 1, 5] escheatlaw21_Same_c6 escheatlaw21_Same_c20
def escheatlaw21_Same_o9 : List AOper := [{ dst := some 4, op := .mv (.v (.c (.b true))) }]
def escheatlaw21_Same_c22 : ACode := .ops escheatlaw21_Same_o9
def escheatlaw21_Same_c23 : ACode := .seq [4] escheatlaw21_Same_c22 .ret
def escheatlaw21_Same_c24 : ACode := .seq [] escheatlaw21_Same_c21 escheatlaw21_Same_c23
def escheatlaw21_Same_c25 : ACode := .seq [0, 1] escheatlaw21_Same_c5 escheatlaw21_Same_c24
def escheatlaw21_Same_c26 : ACode := .seq [0, 1] escheatlaw21_Same_c0 escheatlaw21_Same_c25
def A_escheatlaw21_Same : AFn := ⟨escheatlaw21_Same_c26, [.tmp 4]⟩
noncomputable def E_escheatlaw21_Same : Sums := disp0
noncomputable def escheatlaw21_Same_c0_d (n : Nat) : SmV := smOps E_escheatlaw21_Same escheatlaw21_Same_o0
noncomputable def escheatlaw21_Same_c1_d (n : Nat) : SmV := smOps E_escheatlaw21_Same escheatlaw21_Same_o1
noncomputable def escheatlaw21_Same_c2_d (n : Nat) : SmV := smOps E_escheatlaw21_Same escheatlaw21_Same_o2
noncomputable def escheatlaw21_Same_c3_d (n : Nat) : SmV := smSeq [4] (escheatlaw21_Same_c2_d n) smRet
noncomputable def escheatlaw21_Same_c4_d (n : Nat) : SmV := smCond (.t 10) (escheatlaw21_Same_c3_d n) smSkip
noncomputable def escheatlaw21_Same_c5_d (n : Nat) : SmV := smSeq [0, 1, 10] (escheatlaw21_Same_c1_d n) (escheatlaw21_Same_c4_d n)
noncomputable def escheatlaw21_Same_c6_d (n : Nat) : SmV := smOps E_escheatlaw21_Same escheatlaw21_Same_o3
noncomputable def escheatlaw21_Same_c7_d (n : Nat) : SmV := smOps E_escheatlaw21_Same escheatlaw21_Same_o4
noncomputable def escheatlaw21_Same_c8_d (n : Nat) : SmV := smCond (.t 14) smSkip (smExit 0)
noncomputable def escheatlaw21_Same_c9_d (n : Nat) : SmV := smSeq [0, 1, 5, 14] (escheatlaw21_Same_c7_d n) (escheatlaw21_Same_c8_d n)
noncomputable def escheatlaw21_Same_c10_d (n : Nat) : SmV := smDraw E_escheatlaw21_Same 0 escheatlaw21_Same_o5 escheatlaw21_Same_o6
noncomputable def escheatlaw21_Same_c11_d (n : Nat) : SmV := smOps E_escheatlaw21_Same escheatlaw21_Same_o7
noncomputable def escheatlaw21_Same_c12_d (n : Nat) : SmV := smSeq [4] (escheatlaw21_Same_c11_d n) smRet
noncomputable def escheatlaw21_Same_c13_d (n : Nat) : SmV := smCond (.t 25) (escheatlaw21_Same_c12_d n) smSkip
noncomputable def escheatlaw21_Same_c14_d (n : Nat) : SmV := smSeq [0, 1, 5, 25] (escheatlaw21_Same_c10_d n) (escheatlaw21_Same_c13_d n)
noncomputable def escheatlaw21_Same_c15_d (n : Nat) : SmV := smBlock 1 (escheatlaw21_Same_c14_d n)
noncomputable def escheatlaw21_Same_c16_d (n : Nat) : SmV := smOps E_escheatlaw21_Same escheatlaw21_Same_o8
noncomputable def escheatlaw21_Same_c17_d (n : Nat) : SmV := smSeq [0, 1, 5] (escheatlaw21_Same_c15_d n) (escheatlaw21_Same_c16_d n)
noncomputable def escheatlaw21_Same_c18_d (n : Nat) : SmV := smSeq [0, 1, 5] (escheatlaw21_Same_c9_d n) (escheatlaw21_Same_c17_d n)
noncomputable def escheatlaw21_Same_c19_d (n : Nat) : SmV := smLoop n [0, 1, 5] (escheatlaw21_Same_c18_d n)
noncomputable def escheatlaw21_Same_c20_d (n : Nat) : SmV := smBlock 0 (escheatlaw21_Same_c19_d n)
noncomputable def escheatlaw21_Same_c21_d (n : Nat) : SmV := smSeq [0, 1, 5] (escheatlaw21_Same_c6_d n) (escheatlaw21_Same_c20_d n)
noncomputable def escheatlaw21_Same_c22_d (n : Nat) : SmV := smOps E_escheatlaw21_Same escheatlaw21_Same_o9
noncomputable def escheatlaw21_Same_c23_d (n : Nat) : SmV := smSeq [4] (escheatlaw21_Same_c22_d n) smRet
noncomputable def escheatlaw21_Same_c24_d (n : Nat) : SmV := smSeq [] (escheatlaw21_Same_c21_d n) (escheatlaw21_Same_c23_d n)
noncomputable def escheatlaw21_Same_c25_d (n : Nat) : SmV := smSeq [0, 1] (escheatlaw21_Same_c5_d n) (escheatlaw21_Same_c24_d n)
noncomputable def escheatlaw21_Same_c26_d (n : Nat) : SmV := smSeq [0, 1] (escheatlaw21_Same_c0_d n) (escheatlaw21_Same_c25_d n)
noncomputable def escheatlaw21_Same_k0 (n : Nat) : AExit → Env → Heap → OptV := fun x e h => match x with | .normal => hold ((escheatlaw21_Same_c23_d n) A_escheatlaw21_Same.fin (e.keep []) h) | .exit id => A_escheatlaw21_Same.fin (.exit id) e h | .ret => A_escheatlaw21_Same.fin .ret e h
noncomputable def escheatlaw21_Same_k1 (n : Nat) : AExit → Env → Heap → OptV := fun x e h => match x with | .exit i => bif Nat.beq i 0 then (escheatlaw21_Same_k0 n) .normal e h else (escheatlaw21_Same_k0 n) (.exit i) e h | .normal => (escheatlaw21_Same_k0 n) .normal e h | .ret => (escheatlaw21_Same_k0 n) .ret e h
noncomputable def escheatlaw21_Same_l0 (n m : Nat) (x0 x1 x5 : Val) (h : Heap) : OptV := around (escheatlaw21_Same_c18_d n) [0, 1, 5] (escheatlaw21_Same_k1 n) m [(0, x0), (1, x1), (5, x5)] h
noncomputable def R_escheatlaw21_Same (n : Nat) (args : List Val) (h : Heap) : OptV := (escheatlaw21_Same_c26_d n) A_escheatlaw21_Same.fin (params 0 args) h
theorem R_escheatlaw21_Same_eq (n : Nat) (a0 a1 : Val) (h : Heap) : R_escheatlaw21_Same n [a0, a1] h = bnd (alen a0) fun v1 => bnd (alen a1) fun v2 => bnd (abin .neq v1 v2) fun v3 => cnd v3 (some ((.c (.b false)), h)) (escheatlaw21_Same_l0 n n a0 a1 (.c (.i .i64 0)) h) := by kernel_rfl
theorem escheatlaw21_Same_l0_eq (n m : Nat) (x0 x1 x5 : Val) (h : Heap) : escheatlaw21_Same_l0 n (m + 1) x0 x1 x5 h = bnd (alen x1) fun v4 => bnd (abin .lss x5 v4) fun v5 => cnd v5 (bnd (aiAddrL 256 x0 x5) fun v6 => bnd (aloadN h 256 v6) fun v7 => bnd (aiAddrL 256 x1 x5) fun v8 => bnd (aloadN h 256 v8) fun v9 => bnd (aeq true (List.replicate 256 (.i .u8)) v7 v9) fun v10 => cnd v10 (some ((.c (.b false)), (h ++ []))) (bnd (abin .add x5 (.c (.i .i64 1))) fun v11 => escheatlaw21_Same_l0 n m x0 x1 v11 ((h ++ [])))) (some ((.c (.b true)), h)) := by kernel_rfl
theorem K_escheatlaw21_Same : FnK Try.prog 36 A_escheatlaw21_Same E_escheatlaw21_Same R_escheatlaw21_Same := .mk' (sound0) Try.func36 (by kernel_rfl) (by intro n args h; kernel_rfl)
noncomputable def S_escheatlaw21_Same : Fun := tidy (Lim A_escheatlaw21_Same E_escheatlaw21_Same)
theorem S_escheatlaw21_Same_ok : SOk Try.prog 36 S_escheatlaw21_Same := K_escheatlaw21_Same.sok
theorem S_escheatlaw21_Same_flat {n : Nat} {args : List Val} {h h2 : Heap} {v : Val} (he : R_escheatlaw21_Same n args (ro h) = some (v, h2)) (hf : v.flat = true) : S_escheatlaw21_Same args h = some (v, h) := K_escheatlaw21_Same.flat he hf
end Go.Proofs.Ytdgggnlbdoiloaa
end
section
namespace Go.Proofs.Ytdgggnlbdoiloaa
open Go Go.Esc

theorem same_loop {v u : Val} {D : Dev} {q : Nat} {h : Heap} (hD : okD D) (h60 : D.length ≤ 1073741823) (hv : Has h v 256 D.length (cellsD D)) (hu : Has h u 256 D.length (cellsD D)) : ∀ (e i m : Nat), i + e = D.length → e < m →
    escheatlaw21_Same_l0 q m v u (.c (.i .i64 (i : Int))) h = some (.c (.b true), h)
  | e, i, 0, _, hm => by omega
  | 0, i, m + 1, hi, hm => by
    have c0 : ¬ (i : Int) < (D.length : Nat) := by omega
    rw [escheatlaw21_Same_l0_eq]
    simp only [afAddr_p, List.append_nil, if_true, if_false, bnd_some, mp_some, cnd_t, cnd_f, gd_no, gd_tt, gd_tf, gd_ft, gd_ff, alenS_s, alen_sl, alen_ns, abin_add, abin_sub, abin_mul, abin_eql, abin_neq, abin_lss, abin_leq, abin_gtr, abin_geq, abin_seql, abin_sneq, abin_slss, aun_not, aun_neg, agn_some, aeqN_nf, aeqN_f, aeqN_np, aeqN_p, anilc_p, aeqB_t, aeqB_f, aconv_i, apick_b, cond_true, cond_false, decide_true, decide_false, Bool.not_true, Bool.not_false, aext_t, ofPart_c, ofPart_a, part?_c, part?_a, cells?_c, cells?_a, tupN_2, tupN_3, Option.map_some, Option.some.injEq, List.getElem?_cons_zero, List.getElem?_cons_succ, not_true_eq_false, not_false_eq_true, quiet_same, bytesI_length, Option.join_some, List.append_assoc, List.cons_append, List.nil_append, List.length_append, List.length_cons, List.length_nil, Nat.zero_add, Nat.add_zero, rd_at, rd_at0, set_at, set_at0, List.set_cons_zero, List.set_cons_succ, ne_eq, decide_not, quiet_ext, newOk_some, List.cons_prefix_cons, List.nil_prefix, List.drop_succ_cons, List.drop_zero, List.all_cons, List.all_nil, Bool.and_true, true_and, and_true, hu.len, c0]
  | e + 1, i, m + 1, hi, hm => by
    have hil : i < D.length := by omega
    have c0 : (i : Int) < (D.length : Nat) := by omega
    have ih := same_loop (q := q) hD h60 hv hu e (i + 1) m (by omega) (by omega)
    have hl := hu.len
    obtain ⟨id, off, e1, _, a1, l1⟩ := has_blk hv hD hil
    obtain ⟨id', off', e1', _, a1', l1'⟩ := has_blk hu hD hil
    have q1 := aeq_t (l := D[i]) (m := D[i]) (n := 256) (hD.at hil) (hD.at hil)
    rw [decide_eq_true rfl] at q1
    rw [escheatlaw21_Same_l0_eq]
    generalize encB D[i] = y at *
    generalize List.replicate 256 (Sh.i .u8) = z at *
    simp only [afAddr_p, List.append_nil, if_true, if_false, bnd_some, mp_some, cnd_t, cnd_f, gd_no, gd_tt, gd_tf, gd_ft, gd_ff, alenS_s, alen_sl, alen_ns, abin_add, abin_sub, abin_mul, abin_eql, abin_neq, abin_lss, abin_leq, abin_gtr, abin_geq, abin_seql, abin_sneq, abin_slss, aun_not, aun_neg, agn_some, aeqN_nf, aeqN_f, aeqN_np, aeqN_p, anilc_p, aeqB_t, aeqB_f, aconv_i, apick_b, cond_true, cond_false, decide_true, decide_false, Bool.not_true, Bool.not_false, aext_t, ofPart_c, ofPart_a, part?_c, part?_a, cells?_c, cells?_a, tupN_2, tupN_3, Option.map_some, Option.some.injEq, List.getElem?_cons_zero, List.getElem?_cons_succ, not_true_eq_false, not_false_eq_true, quiet_same, bytesI_length, Option.join_some, List.append_assoc, List.cons_append, List.nil_append, List.length_append, List.length_cons, List.length_nil, Nat.zero_add, Nat.add_zero, rd_at, rd_at0, set_at, set_at0, List.set_cons_zero, List.set_cons_succ, ne_eq, decide_not, quiet_ext, newOk_some, List.cons_prefix_cons, List.nil_prefix, List.drop_succ_cons, List.drop_zero, List.all_cons, List.all_nil, Bool.and_true, true_and, and_true, hl, c0, a1, l1, a1', l1', q1, wi_succ (show i + 1 < 9223372036854775808 by omega)]
    exact ih

theorem same_eq {v u : Val} {D : Dev} {h : Heap} (hD : okD D) (h60 : D.length ≤ 1073741823) (hv : Has h v 256 D.length (cellsD D)) (hu : Has h u 256 D.length (cellsD D)) : S_escheatlaw21_Same [v, u] h = some (.c (.b true), h) := by
  refine S_escheatlaw21_Same_flat (n := D.length + 1) (h2 := ro h) ?_ rfl
  have hL := same_loop (q := D.length + 1) hD h60 hv.ro hu.ro D.length 0 (D.length + 1) (by omega) (by omega)
  rw [R_escheatlaw21_Same_eq]
  simp only [afAddr_p, List.append_nil, if_true, if_false, bnd_some, mp_some, cnd_t, cnd_f, gd_no, gd_tt, gd_tf, gd_ft, gd_ff, alenS_s, alen_sl, alen_ns, abin_add, abin_sub, abin_mul, abin_eql, abin_neq, abin_lss, abin_leq, abin_gtr, abin_geq, abin_seql, abin_sneq, abin_slss, aun_not, aun_neg, agn_some, aeqN_nf, aeqN_f, aeqN_np, aeqN_p, anilc_p, aeqB_t, aeqB_f, aconv_i, apick_b, cond_true, cond_false, decide_true, decide_false, Bool.not_true, Bool.not_false, aext_t, ofPart_c, ofPart_a, part?_c, part?_a, cells?_c, cells?_a, tupN_2, tupN_3, Option.map_some, Option.some.injEq, List.getElem?_cons_zero, List.getElem?_cons_succ, not_true_eq_false, not_false_eq_true, quiet_same, bytesI_length, Option.join_some, List.append_assoc, List.cons_append, List.nil_append, List.length_append, List.length_cons, List.length_nil, Nat.zero_add, Nat.add_zero, rd_at, rd_at0, set_at, set_at0, List.set_cons_zero, List.set_cons_succ, ne_eq, decide_not, quiet_ext, newOk_some, List.cons_prefix_cons, List.nil_prefix, List.drop_succ_cons, List.drop_zero, List.all_cons, List.all_nil, Bool.and_true, true_and, and_true, hv.len, hu.len, eq_self]
  exact hL

theorem aeq_layC {b n m : Int} : aeq false [Sh.i .i64, .i .i64, .i .u64] (.a (layC b n m)) (.a (layC b n m)) = some (.c (.b true)) := by
  simp only [aeq]
  rw [if_pos ⟨rfl, rfl⟩]; simp
theorem aeq_inoV {D : Dev} {n i : Int} : aeq false [Sh.i .i64, .i .i64, .i .i64, .i .i64, .i .i64, .i .i64, .i .i64, .i .i64, .i .i64, .i .i64, .i .i64] (.a (inoV D n i)) (.a (inoV D n i)) = some (.c (.b true)) := by
  obtain ⟨l, s, p, d, e, hd⟩ := inoV_form D n i
  have := aeqI_f (l := kdV D n i :: l :: s :: p :: d) (m := kdV D n i :: l :: s :: p :: d) (n := 11) (by simp [hd]) (by simp [hd])
  rw [decide_eq_true rfl] at this
  rw [e]
  exact this
theorem devL_may {D : Dev} (h : devL D = true) : mayL D.length (devN D) = true := by
  unfold devL at h
  rw [Bool.and_eq_true] at h
  have h1 := h.1
  unfold okS at h1
  rw [Bool.and_eq_true, of_decide_eq_true h.2] at h1
  exact h1.1

end Go.Proofs.Ytdgggnlbdoiloaa
end
section
namespace Go.Proofs.Ytdgggnlbdoiloaa
open Go Go.Esc
set_option maxRecDepth 100000
def escheatlaw21_ViewBack_o0 : List AOper := [{ dst := some 4, op := .mv (.v (.c (.b false))) }]
def escheatlaw21_ViewBack_c0 : ACode := .ops escheatlaw21_ViewBack_o0
def escheatlaw21_ViewBack_o1 : List AOper := [{ dst := some 9, op := .mv (.t 0) }, { dst := some 10, op := .len (.t 9) }, { dst := some 11, op := .bin .gtr (.t 10) (.v (.c (.i .i64 60))) }]
def escheatlaw21_ViewBack_c1 : ACode := .ops escheatlaw21_ViewBack_o1
def escheatlaw21_ViewBack_o2 : List AOper := [{ dst := some 12, op := .call 29 [] }, { dst := some 4, op := .mv (.t 12) }]
def escheatlaw21_ViewBack_c2 : ACode := .ops escheatlaw21_ViewBack_o2
def escheatlaw21_ViewBack_c3 : ACode := .seq [4] escheatlaw21_ViewBack_c2 .ret
def escheatlaw21_ViewBack_c4 : ACode := .cond (.t 11) escheatlaw21_ViewBack_c3 .skip
def escheatlaw21_ViewBack_c5 : ACode := .seq [0, 1, 11] escheatlaw21_ViewBack_c1 escheatlaw21_ViewBack_c4
def escheatlaw21_ViewBack_o3 : List AOper := [{ dst := some 14, op := .mv (.t 0) }, { dst := some 15, op := .call 16 [(.t 14)] }, { dst := some 16, op := .call 15 [(.t 15)] }, { dst := some 13, op := .mv (.t 16) }, { dst := some 17, op := .ext (.t 13) 0 }, { dst := some 18, op := .ext (.t 13) 1 }, { dst := some 5, op := .alloc ([.i .i64 0, .i .i64 0, .i .u64 0, .nf]) }, { dst := none, op := .storeN 4 (.t 5) (.t 17) }, { dst := some 6, op := .mv (.t 18) }]
def escheatlaw21_ViewBack_c6 : ACode := .ops escheatlaw21_ViewBack_o3
def escheatlaw21_ViewBack_o4 : List AOper := [{ dst := some 19, op := .mv (.t 6) }, { dst := some 20, op := .bin .neq (.t 19) (.v (.c (.i .i64 0))) }]
def escheatlaw21_ViewBack_c7 : ACode := .ops escheatlaw21_ViewBack_o4
def escheatlaw21_ViewBack_o5 : List AOper := [{ dst := some 21, op := .call 29 [] }, { dst := some 4, op := .mv (.t 21) }]
def escheatlaw21_ViewBack_c8 : ACode := .ops escheatlaw21_ViewBack_o5
def escheatlaw21_ViewBack_c9 : ACode := .seq [4] escheatlaw21_ViewBack_c8 .ret
def escheatlaw21_ViewBack_c10 : ACode := .cond (.t 20) escheatlaw21_ViewBack_c9 .skip
def escheatlaw21_ViewBack_c11 : ACode := .seq [0, 1, 5, 20] escheatlaw21_ViewBack_c7 escheatlaw21_ViewBack_c10
def escheatlaw21_ViewBack_o6 : List AOper := [{ dst := some 23, op := .loadN 4 (.t 5) }, { dst := some 24, op := .call 32 [(.t 23)] }, { dst := some 25, op := .call 15 [(.t 24)] }, { dst := some 22, op := .mv (.t 25) }, { dst := some 26, op := .ext (.t 22) 0 }, { dst := some 27, op := .ext (.t 22) 1 }, { dst := some 7, op := .alloc ([.i .i64 0, .i .i64 0, .i .u64 0, .nf]) }, { dst := none, op := .storeN 4 (.t 7) (.t 26) }, { dst := some 8, op := .mv (.t 27) }]
def escheatlaw21_ViewBack_c12 : ACode := .ops escheatlaw21_ViewBack_o6
def escheatlaw21_ViewBack_o7 : List AOper := [{ dst := some 28, op := .mv (.t 8) }, { dst := some 29, op := .bin .eql (.t 28) (.v (.c (.i .i64 0))) }, { dst := some 30, op := .mv (.t 29) }, { dst := some 31, op := .fAddr (.t 7) 0, guard := some (30, true) }, { dst := some 32, op := .loadN 3 (.t 31), guard := some (30, true) }, { dst := some 33, op := .fAddr (.t 5) 0, guard := some (30, true) }, { dst := some 34, op := .loadN 3 (.t 33), guard := some (30, true) }, { dst := some 35, op := .eqA false ([.i .i64, .i .i64, .i .u64]) (.t 32) (.t 34), guard := some (30, true) }, { dst := some 36, op := .pick (.t 30) (.t 35) (.v (.c (.b false))) }, { dst := some 37, op := .mv (.t 36) }, { dst := some 38, op := .loadN 4 (.t 7), guard := some (37, true) }, { dst := some 39, op := .call 32 [(.t 38)], guard := some (37, true) }, { dst := some 40, op := .mv (.t 0), guard := some (37, true) }, { dst := some 41, op := .call 36 [(.t 39), (.t 40)], guard := some (37, true) }, { dst := some 42, op := .pick (.t 37) (.t 41) (.v (.c (.b false))) }, { dst := some 43, op := .mv (.t 42) }, { dst := some 44, op := .loadN 4 (.t 7), guard := some (43, true) }, { dst := some 45, op := .mv (.t 1), guard := some (43, true) }, { dst := some 46, op := .call 17 [(.t 44), (.t 45)], guard := some (43, true) }, { dst := some 47, op := .loadN 4 (.t 5), guard := some (43, true) }, { dst := some 48, op := .mv (.t 1), guard := some (43, true) }, { dst := some 49, op := .call 17 [(.t 47), (.t 48)], guard := some (43, true) }, { dst := some 50, op := .eqA false ([.i .i64, .i .i64, .i .i64, .i .i64, .i .i64, .i .i64, .i .i64, .i .i64, .i .i64, .i .i64, .i .i64]) (.t 46) (.t 49), guard := some (43, true) }, { dst := some 51, op := .pick (.t 43) (.t 50) (.v (.c (.b false))) }, { dst := some 52, op := .mv (.t 51) }, { dst := some 53, op := .loadN 4 (.t 7), guard := some (52, true) }, { dst := some 54, op := .call 31 [(.t 53)], guard := some (52, true) }, { dst := some 55, op := .loadN 4 (.t 5), guard := some (52, true) }]
def escheatlaw21_ViewBack_o8 : List AOper := [{ dst := some 56, op := .call 31 [(.t 55)], guard := some (52, true) }, { dst := some 57, op := .call 37 [(.t 54), (.t 56)], guard := some (52, true) }, { dst := some 58, op := .pick (.t 52) (.t 57) (.v (.c (.b false))) }, { dst := some 59, op := .mv (.t 58) }, { dst := some 60, op := .call 29 [], guard := some (59, true) }, { dst := some 61, op := .pick (.t 59) (.t 60) (.v (.c (.b false))) }, { dst := some 4, op := .mv (.t 61) }]
def escheatlaw21_ViewBack_c13 : ACode := .draw 0 escheatlaw21_ViewBack_o7 escheatlaw21_ViewBack_o8
def escheatlaw21_ViewBack_c14 : ACode := .seq [4] escheatlaw21_ViewBack_c13 .ret
def escheatlaw21_ViewBack_c15 : ACode := .seq [0, 1, 5, 7, 8] escheatlaw21_ViewBack_c12 escheatlaw21_ViewBack_c14
def escheatlaw21_ViewBack_c16 : ACode := .seq [0, 1, 5] escheatlaw21_ViewBack_c11 escheatlaw21_ViewBack_c15
def escheatlaw21_ViewBack_c17 : ACode := .seq [0, 1, 5, 6] escheatlaw21_ViewBack_c6 escheatlaw21_ViewBack_c16
def escheatlaw21_ViewBack_c18 : ACode := .seq [0, 1] escheatlaw21_ViewBack_c5 escheatlaw21_ViewBack_c17
def escheatlaw21_ViewBack_c19 : ACode := .seq [0, 1] escheatlaw21_ViewBack_c0 escheatlaw21_ViewBack_c18
def A_escheatlaw21_ViewBack : AFn := ⟨escheatlaw21_ViewBack_c19, [.tmp 4]⟩
noncomputable def E_escheatlaw21_ViewBack : Sums := disp 29 S_escheatlaw21_works (disp 16 S_escheatlaw21_To (disp 15 S_view_Of (disp 32 S_view_View_Image (disp 36 S_escheatlaw21_Same (disp 17 S_view_View_Inode (disp 31 S_view_View_Inodes (disp 37 S_escheatref04_Ints disp0)))))))
noncomputable def escheatlaw21_ViewBack_c0_d (n : Nat) : SmV := smOps E_escheatlaw21_ViewBack escheatlaw21_ViewBack_o0
noncomputable def escheatlaw21_ViewBack_c1_d (n : Nat) : SmV := smOps E_escheatlaw21_ViewBack escheatlaw21_ViewBack_o1
noncomputable def escheatlaw21_ViewBack_c2_d (n : Nat) : SmV := smOps E_escheatlaw21_ViewBack escheatlaw21_ViewBack_o2
noncomputable def escheatlaw21_ViewBack_c3_d (n : Nat) : SmV := smSeq [4] (escheatlaw21_ViewBack_c2_d n) smRet
noncomputable def escheatlaw21_ViewBack_c4_d (n : Nat) : SmV := smCond (.t 11) (escheatlaw21_ViewBack_c3_d n) smSkip
noncomputable def escheatlaw21_ViewBack_c5_d (n : Nat) : SmV := smSeq [0, 1, 11] (escheatlaw21_ViewBack_c1_d n) (escheatlaw21_ViewBack_c4_d n)
noncomputable def escheatlaw21_ViewBack_c6_d (n : Nat) : SmV := smOps E_escheatlaw21_ViewBack escheatlaw21_ViewBack_o3
noncomputable def escheatlaw21_ViewBack_c7_d (n : Nat) : SmV := smOps E_escheatlaw21_ViewBack escheatlaw21_ViewBack_o4
noncomputable def escheatlaw21_ViewBack_c8_d (n : Nat) : SmV := smOps E_escheatlaw21_ViewBack escheatlaw21_ViewBack_o5
noncomputable def escheatlaw21_ViewBack_c9_d (n : Nat) : SmV := smSeq [4] (escheatlaw21_ViewBack_c8_d n) smRet
noncomputable def escheatlaw21_ViewBack_c10_d (n : Nat) : SmV := smCond (.t 20) (escheatlaw21_ViewBack_c9_d n) smSkip
noncomputable def escheatlaw21_ViewBack_c11_d (n : Nat) : SmV := smSeq [0, 1, 5, 20] (escheatlaw21_ViewBack_c7_d n) (escheatlaw21_ViewBack_c10_d n)
noncomputable def escheatlaw21_ViewBack_c12_d (n : Nat) : SmV := smOps E_escheatlaw21_ViewBack escheatlaw21_ViewBack_o6
noncomputable def escheatlaw21_ViewBack_c13_d (n : Nat) : SmV := smDraw E_escheatlaw21_ViewBack 0 escheatlaw21_ViewBack_o7 escheatlaw21_ViewBack_o8
noncomputable def escheatlaw21_ViewBack_c14_d (n : Nat) : SmV := smSeq [4] (escheatlaw21_ViewBack_c13_d n) smRet
noncomputable def escheatlaw21_ViewBack_c15_d (n : Nat) : SmV := smSeq [0, 1, 5, 7, 8] (escheatlaw21_ViewBack_c12_d n) (escheatlaw21_ViewBack_c14_d n)
noncomputable def escheatlaw21_ViewBack_c16_d (n : Nat) : SmV := smSeq [0, 1, 5] (escheatlaw21_ViewBack_c11_d n) (escheatlaw21_ViewBack_c15_d n)
noncomputable def escheatlaw21_ViewBack_c17_d (n : Nat) : SmV := smSeq [0, 1, 5, 6] (escheatlaw21_ViewBack_c6_d n) (escheatlaw21_ViewBack_c16_d n)
noncomputable def escheatlaw21_ViewBack_c18_d (n : Nat) : SmV := smSeq [0, 1] (escheatlaw21_ViewBack_c5_d n) (escheatlaw21_ViewBack_c17_d n)
noncomputable def escheatlaw21_ViewBack_c19_d (n : Nat) : SmV := smSeq [0, 1] (escheatlaw21_ViewBack_c0_d n) (escheatlaw21_ViewBack_c18_d n)
noncomputable def R_escheatlaw21_ViewBack (n : Nat) (args : List Val) (h : Heap) : OptV := (escheatlaw21_ViewBack_c19_d n) A_escheatlaw21_ViewBack.fin (params 0 args) h
theorem R_escheatlaw21_ViewBack_eq (n : Nat) (a0 a1 : Val) (h : Heap) : R_escheatlaw21_ViewBack n [a0, a1] h = bnd (alen a0) fun v1 => bnd (abin .gtr v1 (.c (.i .i64 60))) fun v2 => cnd v2 (bnd (S_escheatlaw21_works [] h) fun p3 => some (p3.1, p3.2)) (bnd (S_escheatlaw21_To [a0] h) fun p4 => bnd (S_view_Of [p4.1] p4.2) fun p5 => bnd (aext p5.1 0) fun v6 => bnd (aext p5.1 1) fun v7 => bnd (astoreN ((p5.2 ++ [some (Row.mk ([.i .i64 0, .i .i64 0, .i .u64 0, .nf]) true)])) 4 ((.c (.p p5.2.length 0))) v6) fun h8 => bnd (abin .neq v7 (.c (.i .i64 0))) fun v9 => cnd v9 (bnd (S_escheatlaw21_works [] h8) fun p10 => some (p10.1, p10.2)) (bnd (aloadN h8 4 ((.c (.p p5.2.length 0)))) fun v11 => bnd (S_view_View_Image [v11] h8) fun p12 => bnd (S_view_Of [p12.1] p12.2) fun p13 => bnd (aext p13.1 0) fun v14 => bnd (aext p13.1 1) fun v15 => bnd (astoreN ((p13.2 ++ [some (Row.mk ([.i .i64 0, .i .i64 0, .i .u64 0, .nf]) true)])) 4 ((.c (.p p13.2.length 0))) v14) fun h16 => bnd (abin .eql v15 (.c (.i .i64 0))) fun v17 => bnd (gd v17 true (bnd (afAddr ((.c (.p p13.2.length 0))) 0) fun v18 => some (v18, (h16 ++ []))) (some (.no, (h16 ++ [])))) fun p19 => bnd (gd v17 true (bnd (aloadN h16 3 p19.1) fun v20 => some (v20, p19.2)) (some (.no, p19.2))) fun p21 => bnd (gd v17 true (bnd (afAddr ((.c (.p p5.2.length 0))) 0) fun v22 => some (v22, p21.2)) (some (.no, p21.2))) fun p23 => bnd (gd v17 true (bnd (aloadN h16 3 p23.1) fun v24 => some (v24, p23.2)) (some (.no, p23.2))) fun p25 => bnd (gd v17 true (bnd (aeq false ([.i .i64, .i .i64, .i .u64]) p21.1 p25.1) fun v26 => some (v26, p25.2)) (some (.no, p25.2))) fun p27 => bnd (apick v17 p27.1 (.c (.b false))) fun v28 => bnd (gd v28 true (bnd (aloadN h16 4 ((.c (.p p13.2.length 0)))) fun v29 => some (v29, p27.2)) (some (.no, p27.2))) fun p30 => bnd (gd v28 true (bnd (quiet p30.2 (S_view_View_Image [p30.1] p30.2)) fun p31 => some (p31.1, p31.2)) (some (.no, p30.2))) fun p32 => bnd (gd v28 true (some (a0, p32.2)) (some (.no, p32.2))) fun p33 => bnd (gd v28 true (bnd (quiet p33.2 (S_escheatlaw21_Same [p32.1, p33.1] p33.2)) fun p34 => some (p34.1, p34.2)) (some (.no, p33.2))) fun p35 => bnd (apick v28 p35.1 (.c (.b false))) fun v36 => bnd (gd v36 true (bnd (aloadN h16 4 ((.c (.p p13.2.length 0)))) fun v37 => some (v37, p35.2)) (some (.no, p35.2))) fun p38 => bnd (gd v36 true (some (a1, p38.2)) (some (.no, p38.2))) fun p39 => bnd (gd v36 true (bnd (quiet p39.2 (S_view_View_Inode [p38.1, p39.1] p39.2)) fun p40 => some (p40.1, p40.2)) (some (.no, p39.2))) fun p41 => bnd (gd v36 true (bnd (aloadN h16 4 ((.c (.p p5.2.length 0)))) fun v42 => some (v42, p41.2)) (some (.no, p41.2))) fun p43 => bnd (gd v36 true (some (a1, p43.2)) (some (.no, p43.2))) fun p44 => bnd (gd v36 true (bnd (quiet p44.2 (S_view_View_Inode [p43.1, p44.1] p44.2)) fun p45 => some (p45.1, p45.2)) (some (.no, p44.2))) fun p46 => bnd (gd v36 true (bnd (aeq false ([.i .i64, .i .i64, .i .i64, .i .i64, .i .i64, .i .i64, .i .i64, .i .i64, .i .i64, .i .i64, .i .i64]) p41.1 p46.1) fun v47 => some (v47, p46.2)) (some (.no, p46.2))) fun p48 => bnd (apick v36 p48.1 (.c (.b false))) fun v49 => bnd (gd v49 true (bnd (aloadN h16 4 ((.c (.p p13.2.length 0)))) fun v50 => some (v50, p48.2)) (some (.no, p48.2))) fun p51 => bnd (gd v49 true (bnd (quiet p51.2 (S_view_View_Inodes [p51.1] p51.2)) fun p52 => some (p52.1, p52.2)) (some (.no, p51.2))) fun p53 => bnd (gd v49 true (bnd (aloadN h16 4 ((.c (.p p5.2.length 0)))) fun v54 => some (v54, p53.2)) (some (.no, p53.2))) fun p55 => bnd (gd v49 true (bnd (S_view_View_Inodes [p55.1] p55.2) fun p56 => some (p56.1, p56.2)) (some (.no, p55.2))) fun p57 => bnd (gd v49 true (bnd (S_escheatref04_Ints [p53.1, p57.1] p57.2) fun p58 => some (p58.1, p58.2)) (some (.no, p57.2))) fun p59 => bnd (apick v49 p59.1 (.c (.b false))) fun v60 => bnd (gd v60 true (bnd (S_escheatlaw21_works [] p59.2) fun p61 => some (p61.1, p61.2)) (some (.no, p59.2))) fun p62 => bnd (apick v60 p62.1 (.c (.b false))) fun v63 => some (v63, p62.2))) := by kernel_rfl
theorem K_escheatlaw21_ViewBack : FnK Try.prog 8 A_escheatlaw21_ViewBack E_escheatlaw21_ViewBack R_escheatlaw21_ViewBack := .mk' (sound1 S_escheatlaw21_works_ok (sound1 S_escheatlaw21_To_ok (sound1 S_view_Of_ok (sound1 S_view_View_Image_ok (sound1 S_escheatlaw21_Same_ok (sound1 S_view_View_Inode_ok (sound1 S_view_View_Inodes_ok (sound1 S_escheatref04_Ints_ok sound0)))))))) Try.func8 (by kernel_rfl) (by intro n args h; kernel_rfl)
noncomputable def S_escheatlaw21_ViewBack : Fun := tidy (Lim A_escheatlaw21_ViewBack E_escheatlaw21_ViewBack)
theorem S_escheatlaw21_ViewBack_ok : SOk Try.prog 8 S_escheatlaw21_ViewBack := K_escheatlaw21_ViewBack.sok
theorem S_escheatlaw21_ViewBack_flat {n : Nat} {args : List Val} {h h2 : Heap} {v : Val} (he : R_escheatlaw21_ViewBack n args (ro h) = some (v, h2)) (hf : v.flat = true) : S_escheatlaw21_ViewBack args h = some (v, h) := K_escheatlaw21_ViewBack.flat he hf
end Go.Proofs.Ytdgggnlbdoiloaa
end
section
namespace Go.Proofs.Ytdgggnlbdoiloaa
open Go Go.Esc

set_option maxHeartbeats 2000000 in
theorem viewBack_eq {v : Val} {D : Dev} {ino : Int} {h : Heap} (hv : Has h v 256 D.length (cellsD D)) (hD : okD D) : S_escheatlaw21_ViewBack [v, .c (.i .i64 ino)] h = some (.c (.b true), h) := by
  have key : ∀ g, Has g v 256 D.length (cellsD D) → ∃ g', R_escheatlaw21_ViewBack 0 [v, .c (.i .i64 ino)] g = some (.c (.b true), g') := by
    intro g hv
    have hl := hv.len
    rw [R_escheatlaw21_ViewBack_eq]
    by_cases c0 : (60 : Int) < (D.length : Nat)
    · exact ⟨_, by simp only [afAddr_p, List.append_nil, if_true, if_false, bnd_some, mp_some, cnd_t, cnd_f, gd_no, gd_tt, gd_tf, gd_ft, gd_ff, alenS_s, alen_sl, alen_ns, abin_add, abin_sub, abin_mul, abin_eql, abin_neq, abin_lss, abin_leq, abin_gtr, abin_geq, abin_seql, abin_sneq, abin_slss, aun_not, aun_neg, agn_some, aeqN_nf, aeqN_f, aeqN_np, aeqN_p, anilc_p, aeqB_t, aeqB_f, aconv_i, apick_b, cond_true, cond_false, decide_true, decide_false, Bool.not_true, Bool.not_false, aext_t, ofPart_c, ofPart_a, part?_c, part?_a, cells?_c, cells?_a, tupN_2, tupN_3, Option.map_some, Option.some.injEq, List.getElem?_cons_zero, List.getElem?_cons_succ, not_true_eq_false, not_false_eq_true, quiet_same, bytesI_length, Option.join_some, List.append_assoc, List.cons_append, List.nil_append, List.length_append, List.length_cons, List.length_nil, Nat.zero_add, Nat.add_zero, rd_at, rd_at0, set_at, set_at0, List.set_cons_zero, List.set_cons_succ, ne_eq, decide_not, quiet_ext, newOk_some, List.cons_prefix_cons, List.nil_prefix, List.drop_succ_cons, List.drop_zero, List.all_cons, List.all_nil, Bool.and_true, true_and, and_true, hl, c0, works21_eq] <;> rfl⟩
    · have hT := to_eq hv hD (by omega)
      have hH : Has (g ++ [some ⟨cellsD D, true⟩]) (.c (.sl g.length 0 D.length 256)) 256 D.length (cellsD D) := Has.tr (by simp) (cellsD_length hD) (noX_cellsD D)
      cases cd : devL D with
      | false =>
        obtain ⟨t, hO⟩ := view_Of_bad hH hD cd
        have n13 : ¬ (13 : Int) = 0 := by decide
        obtain ⟨H, hHe⟩ : ∃ H, H = g ++ [some (Row.mk (cellsD D) true)] ++ t := ⟨_, rfl⟩
        rw [← hHe] at hO
        have hS5 : astoreN (H ++ [some (Row.mk [.i .i64 0, .i .i64 0, .i .u64 0, .nf] true)]) 4 (.c (.p H.length 0)) (.a (vwC 0 0 0 .nf)) = some (H ++ [some (Row.mk (vwC 0 0 0 .nf) true)]) := by rw [astoreN_at0]; rfl
        exact ⟨_, by simp only [afAddr_p, List.append_nil, if_true, if_false, bnd_some, mp_some, cnd_t, cnd_f, gd_no, gd_tt, gd_tf, gd_ft, gd_ff, alenS_s, alen_sl, alen_ns, abin_add, abin_sub, abin_mul, abin_eql, abin_neq, abin_lss, abin_leq, abin_gtr, abin_geq, abin_seql, abin_sneq, abin_slss, aun_not, aun_neg, agn_some, aeqN_nf, aeqN_f, aeqN_np, aeqN_p, anilc_p, aeqB_t, aeqB_f, aconv_i, apick_b, cond_true, cond_false, decide_true, decide_false, Bool.not_true, Bool.not_false, aext_t, ofPart_c, ofPart_a, part?_c, part?_a, cells?_c, cells?_a, tupN_2, tupN_3, Option.map_some, Option.some.injEq, List.getElem?_cons_zero, List.getElem?_cons_succ, not_true_eq_false, not_false_eq_true, quiet_same, bytesI_length, Option.join_some, List.append_assoc, List.cons_append, List.nil_append, List.length_append, List.length_cons, List.length_nil, Nat.zero_add, Nat.add_zero, rd_at, rd_at0, set_at, set_at0, List.set_cons_zero, List.set_cons_succ, ne_eq, decide_not, quiet_ext, newOk_some, List.cons_prefix_cons, List.nil_prefix, List.drop_succ_cons, List.drop_zero, List.all_cons, List.all_nil, Bool.and_true, true_and, and_true, hl, c0, hT, hO, hS5, n13, works21_eq] <;> rfl⟩
      | true =>
        obtain ⟨f, t, hO, hV⟩ := view_Of_ok hH hD cd (by omega)
        obtain ⟨H, hHe⟩ : ∃ H, H = g ++ [some (Row.mk (cellsD D) true)] ++ t := ⟨_, rfl⟩
        have hvH : Has H v 256 D.length (cellsD D) := by rw [hHe]; exact (hv.more _).more _
        rw [← hHe] at hO hV
        have hmay := devL_may cd
        generalize hn : devN D = n at *
        generalize hm : devM D = m at *
        obtain ⟨V, hVe⟩ : ∃ V, V = vwC D.length n m f := ⟨_, rfl⟩
        have hS5 : astoreN (H ++ [some (Row.mk [.i .i64 0, .i .i64 0, .i .u64 0, .nf] true)]) 4 (.c (.p H.length 0)) (.a V) = some (H ++ [some (Row.mk V true)]) := by rw [hVe, astoreN_at0]; rfl
        have l4 : aloadN (H ++ [some (Row.mk V true)]) 4 (.c (.p H.length 0)) = some (.a V) := by rw [hVe, aloadN_at0]; rfl
        have hI1 := view_Image_eq (n := n) (m := m) (h := H ++ [some (Row.mk V true)]) hD (hV.more _) hmay
        have hH2 : Has (H ++ [some (Row.mk V true), some ⟨cellsD D, true⟩]) (.c (.sl (H.length + 1) 0 D.length 256)) 256 D.length (cellsD D) := Has.tr (by simp) (cellsD_length hD) (noX_cellsD D)
        obtain ⟨f2, t2, hO2, hV2⟩ := view_Of_ok hH2 hD cd (by omega)
        rw [hn, hm] at hO2
        obtain ⟨H2, hH2e⟩ : ∃ H2, H2 = H ++ [some (Row.mk V true), some ⟨cellsD D, true⟩] ++ t2 := ⟨_, rfl⟩
        rw [← hH2e] at hO2 hV2
        obtain ⟨W, hWe⟩ : ∃ W, W = vwC D.length n m f2 := ⟨_, rfl⟩
        have hS6 : astoreN (H2 ++ [some (Row.mk [.i .i64 0, .i .i64 0, .i .u64 0, .nf] true)]) 4 (.c (.p H2.length 0)) (.a W) = some (H2 ++ [some (Row.mk W true)]) := by rw [hWe, astoreN_at0]; rfl
        obtain ⟨K, hK⟩ : ∃ K, K = H2 ++ [some (Row.mk W true)] := ⟨_, rfl⟩
        rw [← hK] at hS6
        have hr1 : rd K H.length = some ⟨V, true⟩ := by rw [hK, hH2e]; exact rd_append (rd_append (by simp))
        have hr2 : rd K H2.length = some ⟨W, true⟩ := by rw [hK]; exact rd_new
        have hv1 : IsView K f D := by rw [hK, hH2e]; exact ((hV.more _).more _).more _
        have hv2 : IsView K f2 D := by rw [hK]; exact hV2.more _
        have hvK : Has K v 256 D.length (cellsD D) := by rw [hK, hH2e]; exact ((hvH.more _).more _).more _
        have x1 : aloadN K 4 (.c (.p H.length 0)) = some (.a V) := loadAll hr1 (by rw [hVe]; rfl)
        have x2 : aloadN K 4 (.c (.p H2.length 0)) = some (.a W) := loadAll hr2 (by rw [hWe]; rfl)
        have x3 : aloadN K 3 (.c (.p H.length 0)) = some (.a (layC D.length n m)) := by rw [loadN_of hr1 (by rw [hVe]; simp [vwC]) rfl, hVe]; rfl
        have x4 : aloadN K 3 (.c (.p H2.length 0)) = some (.a (layC D.length n m)) := by rw [loadN_of hr2 (by rw [hWe]; simp [vwC]) rfl, hWe]; rfl
        have hI2 := view_Image_eq (n := n) (m := m) (h := K) hD hv2 hmay
        have q1 := quiet_grows (h := K) (v := .c (.sl K.length 0 D.length 256)) (Grows.rfl'.new (cellsD D))
        have hSm := same_eq (h := K ++ [some ⟨cellsD D, true⟩]) hD (by omega) (Has.tr (id := K.length) (by simp) (cellsD_length hD) (noX_cellsD D)) (hvK.more _)
        have hN1 := view_Inode_eq (n := n) (m := m) (i := ino) (h := K ++ [some ⟨cellsD D, true⟩]) hD (hv2.more _)
        have hN2 := view_Inode_eq (n := n) (m := m) (i := ino) (h := K ++ [some ⟨cellsD D, true⟩]) hD (hv1.more _)
        have q2 := aeq_inoV (D := D) (n := n) (i := ino)
        have q3 := aeq_layC (b := D.length) (n := n) (m := m)
        have hL1 := view_Inodes_eq (n := n) (m := m) (h := K ++ [some ⟨cellsD D, true⟩]) hD (hv2.more _)
        have hL2 := view_Inodes_eq (n := n) (m := m) (h := K ++ [some ⟨cellsD D, true⟩, some ⟨encI (inosF (kdV D n) 128 0), true⟩]) hD (hv1.more _)
        have q4 := quiet_grows (h := K ++ [some ⟨cellsD D, true⟩]) (v := .c (.sl (K ++ [some (Row.mk (cellsD D) true)]).length 0 (inosF (kdV D n) 128 0).length 1)) (Grows.rfl'.new (encI (inosF (kdV D n) 128 0)))
        have hle := inosF_length (kdV D n) 128 0
        have hQ := ref04_Ints_eq (h := K ++ [some ⟨cellsD D, true⟩, some (Row.mk (encI (inosF (kdV D n) 128 0)) true), some (Row.mk (encI (inosF (kdV D n) 128 0)) true)]) (v := .c (.sl (K.length + 1) 0 (inosF (kdV D n) 128 0).length 1)) (nv := (inosF (kdV D n) 128 0).length) (u := .c (.sl (K.length + 2) 0 (inosF (kdV D n) 128 0).length 1)) (nu := (inosF (kdV D n) 128 0).length) (l := inosF (kdV D n) 128 0) (r := inosF (kdV D n) 128 0)
          (Has.tr (by simp) (by rw [encI_length, Nat.mul_one]) (noX_encI _)) (Has.tr (by simp) (by rw [encI_length, Nat.mul_one]) (noX_encI _)) (by omega)
        rw [decide_eq_true rfl] at hQ
        rw [← hVe] at hO hI1 hN2 hL2
        rw [← hWe] at hO2 hI2 hN1 hL1
        generalize inosF (kdV D n) 128 0 = li at *
        generalize encI li = yi at *
        generalize inoV D n ino = I at *
        generalize cellsD D = C at *
        generalize layC D.length n m = L at *
        simp only [afAddr_p, List.append_nil, if_true, if_false, bnd_some, mp_some, cnd_t, cnd_f, gd_no, gd_tt, gd_tf, gd_ft, gd_ff, alenS_s, alen_sl, alen_ns, abin_add, abin_sub, abin_mul, abin_eql, abin_neq, abin_lss, abin_leq, abin_gtr, abin_geq, abin_seql, abin_sneq, abin_slss, aun_not, aun_neg, agn_some, aeqN_nf, aeqN_f, aeqN_np, aeqN_p, anilc_p, aeqB_t, aeqB_f, aconv_i, apick_b, cond_true, cond_false, decide_true, decide_false, Bool.not_true, Bool.not_false, aext_t, ofPart_c, ofPart_a, part?_c, part?_a, cells?_c, cells?_a, tupN_2, tupN_3, Option.map_some, Option.some.injEq, List.getElem?_cons_zero, List.getElem?_cons_succ, not_true_eq_false, not_false_eq_true, quiet_same, bytesI_length, Option.join_some, List.append_assoc, List.cons_append, List.nil_append, List.length_append, List.length_cons, List.length_nil, Nat.zero_add, Nat.add_zero, rd_at, rd_at0, set_at, set_at0, List.set_cons_zero, List.set_cons_succ, ne_eq, decide_not, quiet_ext, newOk_some, List.cons_prefix_cons, List.nil_prefix, List.drop_succ_cons, List.drop_zero, List.all_cons, List.all_nil, Bool.and_true, true_and, and_true] at hI1 hL1 hL2 q4
        exact ⟨_, by simp only [afAddr_p, List.append_nil, if_true, if_false, bnd_some, mp_some, cnd_t, cnd_f, gd_no, gd_tt, gd_tf, gd_ft, gd_ff, alenS_s, alen_sl, alen_ns, abin_add, abin_sub, abin_mul, abin_eql, abin_neq, abin_lss, abin_leq, abin_gtr, abin_geq, abin_seql, abin_sneq, abin_slss, aun_not, aun_neg, agn_some, aeqN_nf, aeqN_f, aeqN_np, aeqN_p, anilc_p, aeqB_t, aeqB_f, aconv_i, apick_b, cond_true, cond_false, decide_true, decide_false, Bool.not_true, Bool.not_false, aext_t, ofPart_c, ofPart_a, part?_c, part?_a, cells?_c, cells?_a, tupN_2, tupN_3, Option.map_some, Option.some.injEq, List.getElem?_cons_zero, List.getElem?_cons_succ, not_true_eq_false, not_false_eq_true, quiet_same, bytesI_length, Option.join_some, List.append_assoc, List.cons_append, List.nil_append, List.length_append, List.length_cons, List.length_nil, Nat.zero_add, Nat.add_zero, rd_at, rd_at0, set_at, set_at0, List.set_cons_zero, List.set_cons_succ, ne_eq, decide_not, quiet_ext, newOk_some, List.cons_prefix_cons, List.nil_prefix, List.drop_succ_cons, List.drop_zero, List.all_cons, List.all_nil, Bool.and_true, true_and, and_true, eq_self, hl, c0, hT, hO, hS5, l4, hI1, hO2, hS6, x1, x2, x3, x4, hI2, q1, hSm, hN1, hN2, q2, q3, hL1, hL2, q4, hQ, works21_eq] <;> rfl⟩
  obtain ⟨g', e⟩ := key (ro h) hv.ro
  exact S_escheatlaw21_ViewBack_flat e rfl

end Go.Proofs.Ytdgggnlbdoiloaa
end
section
namespace Go.Proofs.Ytdgggnlbdoiloaa
open Go

def startWords : List Char := (([104, 97, 114, 110, 101, 115, 115, 32, 102, 53, 49, 98, 54, 51, 100, 100, 54, 97, 57, 49, 52, 55, 49, 97, 52, 49, 55, 51, 48, 53, 98, 100, 50, 53, 100, 51, 52, 98, 48, 51, 50, 50, 54, 51, 53, 54, 57, 49, 49, 101, 54, 51, 100, 55, 55, 98, 99, 101, 98, 51, 101, 49, 50, 56, 100, 100, 49, 50, 49, 55, 53, 51, 32, 99, 117, 116, 32, 97, 116, 32, 101, 115, 99, 104, 101, 97, 116, 47, 101, 115, 99, 104, 101, 97, 116, 108, 97, 119, 50, 51, 46, 70, 114, 101, 97, 100, 83, 112, 97, 110, 115, 32, 101, 115, 99, 104, 101, 97, 116, 47, 101, 115, 99, 104, 101, 97, 116, 108, 97, 119, 50, 51, 46, 70, 114, 101, 97, 100, 79, 110, 99, 101, 32, 101, 115, 99, 104, 101, 97, 116, 47, 101, 115, 99, 104, 101, 97, 116, 108, 97, 119, 50, 51, 46, 70, 114, 101, 97, 100, 80, 97, 114, 116, 115, 32, 101, 115, 99, 104, 101, 97, 116, 47, 101, 115, 99, 104, 101, 97, 116, 108, 97, 119, 50, 50, 46, 70, 109, 97, 112, 79, 119, 110, 115, 32, 101, 115, 99, 104, 101, 97, 116, 47, 101, 115, 99, 104, 101, 97, 116, 108, 97, 119, 50, 49, 46, 86, 105, 101, 119, 82, 101, 97, 100, 115, 32, 101, 115, 99, 104, 101, 97, 116, 47, 101, 115, 99, 104, 101, 97, 116, 108, 97, 119, 50, 49, 46, 86, 105, 101, 119, 66, 97, 99, 107, 32, 101, 115, 99, 104, 101, 97, 116, 47, 101, 115, 99, 104, 101, 97, 116, 108, 97, 119, 50, 49, 46, 86, 105, 101, 119, 79, 110, 32, 101, 115, 99, 104, 101, 97, 116, 47, 101, 115, 99, 104, 101, 97, 116, 108, 97, 119, 50, 50, 46, 70, 109, 97, 112, 68, 105, 114, 115, 32, 101, 115, 99, 104, 101, 97, 116, 47, 101, 115, 99, 104, 101, 97, 116, 108, 97, 119, 50, 52, 46, 68, 114, 101, 97, 100, 79, 110, 99, 101] : List Nat).map Char.ofNat)
set_option maxRecDepth 100000
theorem own_ok : ownKnob Try.prog.godebug = none := by kernel_rfl
theorem laid_ok : laidOutB Try.prog = true := by kernel_rfl
theorem start_eq : Try.prog.initOrder = String.ofList startWords := by kernel_rfl
theorem start_list : Try.prog.initOrder.toList = startWords := by rw [start_eq, String.toList_ofList]
def startRest : List (List Char) := (([[99, 117, 116], [97, 116], [101, 115, 99, 104, 101, 97, 116, 47, 101, 115, 99, 104, 101, 97, 116, 108, 97, 119, 50, 51, 46, 70, 114, 101, 97, 100, 83, 112, 97, 110, 115], [101, 115, 99, 104, 101, 97, 116, 47, 101, 115, 99, 104, 101, 97, 116, 108, 97, 119, 50, 51, 46, 70, 114, 101, 97, 100, 79, 110, 99, 101], [101, 115, 99, 104, 101, 97, 116, 47, 101, 115, 99, 104, 101, 97, 116, 108, 97, 119, 50, 51, 46, 70, 114, 101, 97, 100, 80, 97, 114, 116, 115], [101, 115, 99, 104, 101, 97, 116, 47, 101, 115, 99, 104, 101, 97, 116, 108, 97, 119, 50, 50, 46, 70, 109, 97, 112, 79, 119, 110, 115], [101, 115, 99, 104, 101, 97, 116, 47, 101, 115, 99, 104, 101, 97, 116, 108, 97, 119, 50, 49, 46, 86, 105, 101, 119, 82, 101, 97, 100, 115], [101, 115, 99, 104, 101, 97, 116, 47, 101, 115, 99, 104, 101, 97, 116, 108, 97, 119, 50, 49, 46, 86, 105, 101, 119, 66, 97, 99, 107], [101, 115, 99, 104, 101, 97, 116, 47, 101, 115, 99, 104, 101, 97, 116, 108, 97, 119, 50, 49, 46, 86, 105, 101, 119, 79, 110], [101, 115, 99, 104, 101, 97, 116, 47, 101, 115, 99, 104, 101, 97, 116, 108, 97, 119, 50, 50, 46, 70, 109, 97, 112, 68, 105, 114, 115], [101, 115, 99, 104, 101, 97, 116, 47, 101, 115, 99, 104, 101, 97, 116, 108, 97, 119, 50, 52, 46, 68, 114, 101, 97, 100, 79, 110, 99, 101]] : List (List Nat)).map (fun l => l.map Char.ofNat))
theorem split_eq : wordsSigns startWords = (([104, 97, 114, 110, 101, 115, 115] : List Nat).map Char.ofNat) :: (([102, 53, 49, 98, 54, 51, 100, 100, 54, 97, 57, 49, 52, 55, 49, 97, 52, 49, 55, 51, 48, 53, 98, 100, 50, 53, 100, 51, 52, 98, 48, 51, 50, 50, 54, 51, 53, 54, 57, 49, 49, 101, 54, 51, 100, 55, 55, 98, 99, 101, 98, 51, 101, 49, 50, 56, 100, 100, 49, 50, 49, 55, 53, 51] : List Nat).map Char.ofNat) :: startRest := by kernel_rfl
theorem sum_ok : isSumSigns ((([102, 53, 49, 98, 54, 51, 100, 100, 54, 97, 57, 49, 52, 55, 49, 97, 52, 49, 55, 51, 48, 53, 98, 100, 50, 53, 100, 51, 52, 98, 48, 51, 50, 50, 54, 51, 53, 54, 57, 49, 49, 101, 54, 51, 100, 55, 55, 98, 99, 101, 98, 51, 101, 49, 50, 56, 100, 100, 49, 50, 49, 55, 53, 51] : List Nat).map Char.ofNat)) = true := by decide +kernel
theorem harness_ok : ((([104, 97, 114, 110, 101, 115, 115] : List Nat).map Char.ofNat) == "harness".toList) = true := by decide +kernel
theorem behind_gen (h s : List Char) (r : List (List Char)) (h1 : (h == "harness".toList) = true) (h2 : isSumSigns s = true) : behindMainWord (h :: s :: r) = r := by
  unfold behindMainWord
  simp only [h1, h2, Bool.true_or, Bool.true_and, if_true]
theorem behind_eq : behindMainWord (wordsSigns startWords) = startRest := by rw [split_eq]; exact behind_gen _ _ _ harness_ok sum_ok
theorem start_words : behindMainWord (wordsSigns Try.prog.initOrder.toList) = startRest := by rw [start_list]; exact behind_eq
def startTail : List (List Char) := startRest.drop 1
theorem rest_eq : startRest = "cut".toList :: startTail := by decide +kernel
theorem make_gen {P : Program} {rest : List (List Char)} (h : behindMainWord (wordsSigns P.initOrder.toList) = "cut".toList :: rest) : P.make = some .cut := by
  have e1 : ("cut".toList == "gc".toList) = false := by decide +kernel
  have e2 : ("cut".toList == "spec".toList) = false := by decide +kernel
  have e3 : ("cut".toList == "cut".toList) = true := by decide +kernel
  unfold Program.make
  rw [h]
  simp only [e1, e2, e3, Bool.or_self, Bool.true_or, Bool.false_eq_true, if_false, if_true]
theorem make_ok : Try.prog.make = some .cut := make_gen (start_words.trans rest_eq)
theorem strip_none {w : List Char} {ws : List (List Char)} : ∀ os : List String, (os.all fun o => !(w == o.toList)) = true → stripLifts os (w :: ws) = ([], w :: ws)
  | [], _ => rfl
  | o :: os, h => by
    simp only [List.all_cons, Bool.and_eq_true, Bool.not_eq_true'] at h
    unfold stripLifts
    rw [h.1, if_neg (by simp)]
    exact strip_none os h.2
theorem strip_cut (rest : List (List Char)) : stripLifts liftWords ("cut".toList :: rest) = ([], "cut".toList :: rest) := strip_none _ (by decide +kernel)
theorem later_ok : Try.prog.laysLater = false := by kernel_rfl
theorem reflect_ok : Try.prog.bearsReflect = false := by kernel_rfl
theorem door_ok : Try.prog.doorFits [] = true := by kernel_rfl
theorem enter_gen {P : Program} {rest : List (List Char)} (h : behindMainWord (wordsSigns P.initOrder.toList) = "cut".toList :: rest) (h1 : P.laysLater = false) (h2 : P.bearsReflect = false) (h3 : P.doorFits [] = true) : P.mayEnter = true := by
  unfold Program.mayEnter
  rw [h]
  simp only [strip_cut, h1, h2, h3]
  simp
theorem mayEnter_ok : Try.prog.mayEnter = true := enter_gen (start_words.trans rest_eq) later_ok reflect_ok door_ok
theorem lifts_gen {P : Program} {rest : List (List Char)} (h : behindMainWord (wordsSigns P.initOrder.toList) = "cut".toList :: rest) : P.liftsFinal = false := by
  unfold Program.liftsFinal Program.headLifts
  rw [h]
  simp only [strip_cut]
  simp
theorem lifts_ok : Try.prog.liftsFinal = false := lifts_gen (start_words.trans rest_eq)
end Go.Proofs.Ytdgggnlbdoiloaa
end
