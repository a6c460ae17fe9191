/- The law of an index that is got again, and doubled, answers true. -/
import Derived.Test.YtbbkpmbepljhkaaSIndexDbl
import Derived.Test.YtbbkpmbepljhkaaSLaw19
import Derived.Test.YtbbkpmbepljhkaaGEscheatlaw19IndexBack
set_option linter.all false
namespace Go.Proofs.Ytbbkpmbepljhkaa
open Go Go.Esc

theorem indexBack_eq {d : Int} {t : List Int} {x : Nat} (h : Heap) (ht : t.length = 32) (hx : x < 4294967296) : S_escheatlaw19_IndexBack [.a (encI (d :: t)), .c (.i .u32 (x : Int))] h = some (.c (.b true), h) := by
  have key : ∀ g, ∃ g', R_escheatlaw19_IndexBack 0 [.a (encI (d :: t)), .c (.i .u32 (x : Int))] g = some (.c (.b true), g') := by
    intro g
    have hB := encX_length (d := d) ht
    have hz : (encI (0 :: zI 32)).length = 33 := encX_length (d := 0) zI_length
    have hR := fun h => index_Right_eq (d := d) (t := t) (h := h) ht
    have l0 : (encI (d :: t))[0]? = some (.i .i64 d) := rfl
    rw [R_escheatlaw19_IndexBack_eq, zI_enc, sh33]
    cases cr : rightX d t with
    | false =>
      rw [cr] at hR
      generalize encI (d :: t) = y at *
      generalize encI (0 :: zI 32) = z at *
      exact ⟨_, by simp only [afAddr_p, List.append_nil, if_true, if_false, bnd_some, mp_some, cnd_t, cnd_f, gd_no, gd_tt, gd_tf, gd_ft, gd_ff, alenS_s, alen_sl, alen_ns, abin_add, abin_sub, abin_mul, abin_eql, abin_neq, abin_lss, abin_leq, abin_gtr, abin_geq, abin_seql, abin_sneq, abin_slss, aun_not, aun_neg, agn_some, aeqN_nf, aeqN_f, aeqN_np, aeqN_p, anilc_p, aeqB_t, aeqB_f, aconv_i, apick_b, cond_true, cond_false, decide_true, decide_false, Bool.not_true, Bool.not_false, aext_t, ofPart_c, ofPart_a, part?_c, part?_a, cells?_c, cells?_a, tupN_2, tupN_3, Option.map_some, Option.some.injEq, List.getElem?_cons_zero, List.getElem?_cons_succ, not_true_eq_false, not_false_eq_true, quiet_same, bytesI_length, Option.join_some, List.append_assoc, List.cons_append, List.nil_append, List.length_append, List.length_cons, List.length_nil, Nat.zero_add, Nat.add_zero, rd_at, rd_at0, set_at, set_at0, List.set_cons_zero, List.set_cons_succ, ne_eq, decide_not, quiet_ext, newOk_some, List.cons_prefix_cons, List.nil_prefix, List.drop_succ_cons, List.drop_zero, List.all_cons, List.all_nil, Bool.and_true, true_and, and_true, aloadN_at, aloadN_at0, aload1_at, aload1_at0, astoreN_at, astoreN_at0, astore1_at, astore1_at0, aslA_at, aslA_at0, ldN_all, ld1_row, stN_all, st1_row, slr_all, Nat.reduceAdd, Nat.reduceMul, Nat.reduceLT, hB, hz, hR, works19_eq] <;> rfl⟩
    | true =>
      rw [cr] at hR
      obtain ⟨h0, h5, _⟩ := right_iff.1 cr
      have hf := fair_of ht cr
      obtain ⟨ho, hgd⟩ := good_idx h0 h5 hf
      have hP := fun h => index_Put_eq (d := d) (t := t) (h := h) ht
      rw [ho] at hP
      simp only [cond_true] at hP
      have hil := idxB_length (d := d) ht
      have hI : (encB (idxB d t)).length = 256 := by rw [encB_length, hil]
      have hG := fun h => index_Get_eq (b := idxB d t) (h := h) hil
      rw [hgd, getD_idx h0 h5, getT_idx ht (fair_all hf)] at hG
      simp only [cond_true] at hG
      have hz0 : (List.replicate 256 (Cell.i .u8 0)).length = 256 := List.length_replicate
      have hE := aeqI_t (l := d :: t) (m := d :: t) (n := 33) (by simp [ht]) (by simp [ht])
      rw [decide_eq_true rfl] at hE
      have hD := fun h => index_Double_eq (d := d) (t := t) (h := h) ht
      have hPl := fun h => index_Place_eq (d := d) (h := h) ht hx
      have hm0 := manyX_pos d
      have hm32 := manyX_le d
      have hi : x % manyX d < manyX d := Nat.mod_lt _ hm0
      have c5 : ¬ ((x % manyX d : Nat) : Int) < 0 := by omega
      have c6 : ¬ (31 : Int) < ((x % manyX d : Nat) : Int) := by omega
      have a2 := adX (id := g.length + 1) (i := x % manyX d) (by omega)
      have x2 := encX_get (d := d) (i := x % manyX d) ht (by omega)
      by_cases c : d < 5
      · have hdb : dblOk d = true := by unfold dblOk; rw [decide_eq_true h0, decide_eq_true c]; rfl
        have hdx : dblX d t = (d + 1) :: dblL t (manyX d) (manyX d) := by unfold dblX; rw [hdb]; rfl
        rw [hdb, hdx] at hD
        simp only [cond_true] at hD
        have hff := dbl_fair hf h0 c
        have hDl := encX_length (d := d + 1) hff.len
        have hPl2 := fun h => index_Place_eq (d := d + 1) (h := h) hff.len hx
        have hk : x % manyX (d + 1) < manyX (d + 1) := Nat.mod_lt _ (manyX_pos _)
        have hk32 := manyX_le (d + 1)
        have c7 : ¬ ((x % manyX (d + 1) : Nat) : Int) < 0 := by omega
        have c8 : ¬ (31 : Int) < ((x % manyX (d + 1) : Nat) : Int) := by omega
        have a3 := adX (id := g.length + 4) (i := x % manyX (d + 1)) (by omega)
        have x3 := encX_get (d := d + 1) (i := x % manyX (d + 1)) hff.len (by omega)
        have hms := manyX_succ h0 c
        have hsame : toX (dblL t (manyX d) (manyX d)) (x % manyX (d + 1)) = toX t (x % manyX d) := by
          rw [toX_dbl hf c, if_pos (by omega), hms]
          congr 1
          exact Nat.mod_mod_of_dvd x ⟨2, Nat.mul_comm _ _⟩
        rw [hsame] at x3
        have hRd := fun h => index_Right_eq (d := d + 1) (t := dblL t (manyX d) (manyX d)) (h := h) hff.len
        rw [right_of (by omega) (by omega) hff] at hRd
        generalize dblL t (manyX d) (manyX d) = T at *
        generalize x % manyX (d + 1) = k at *
        generalize x % manyX d = i at *
        generalize idxB d t = I at *
        generalize encI ((d + 1) :: T) = y2 at *
        generalize encI (d :: t) = y at *
        generalize encI (0 :: zI 32) = z at *
        generalize List.replicate 256 (Cell.i .u8 0) = zz at *
        exact ⟨_, by simp only [afAddr_p, List.append_nil, if_true, if_false, bnd_some, mp_some, cnd_t, cnd_f, gd_no, gd_tt, gd_tf, gd_ft, gd_ff, alenS_s, alen_sl, alen_ns, abin_add, abin_sub, abin_mul, abin_eql, abin_neq, abin_lss, abin_leq, abin_gtr, abin_geq, abin_seql, abin_sneq, abin_slss, aun_not, aun_neg, agn_some, aeqN_nf, aeqN_f, aeqN_np, aeqN_p, anilc_p, aeqB_t, aeqB_f, aconv_i, apick_b, cond_true, cond_false, decide_true, decide_false, Bool.not_true, Bool.not_false, aext_t, ofPart_c, ofPart_a, part?_c, part?_a, cells?_c, cells?_a, tupN_2, tupN_3, Option.map_some, Option.some.injEq, List.getElem?_cons_zero, List.getElem?_cons_succ, not_true_eq_false, not_false_eq_true, quiet_same, bytesI_length, Option.join_some, List.append_assoc, List.cons_append, List.nil_append, List.length_append, List.length_cons, List.length_nil, Nat.zero_add, Nat.add_zero, rd_at, rd_at0, set_at, set_at0, List.set_cons_zero, List.set_cons_succ, ne_eq, decide_not, quiet_ext, newOk_some, List.cons_prefix_cons, List.nil_prefix, List.drop_succ_cons, List.drop_zero, List.all_cons, List.all_nil, Bool.and_true, true_and, and_true, aloadN_at, aloadN_at0, aload1_at, aload1_at0, astoreN_at, astoreN_at0, astore1_at, astore1_at0, aslA_at, aslA_at0, ldN_all, ld1_row, stN_all, st1_row, slr_all, Nat.reduceAdd, Nat.reduceMul, Nat.reduceLT, hB, hz, hz0, hR, hP, hI, hG, hE, hD, hDl, l0, c, hPl, hPl2, c5, c6, c7, c8, a2, a3, x2, x3, hRd, works19_eq, eq_self, beq_self_eq_true] <;> rfl⟩
      · have hdb : dblOk d = false := by unfold dblOk; rw [decide_eq_false c, Bool.and_false]
        have hdx : dblX d t = d :: t := by unfold dblX; rw [hdb]; rfl
        rw [hdb, hdx] at hD
        simp only [cond_false] at hD
        have a3 := adX (id := g.length + 4) (i := x % manyX d) (by omega)
        generalize x % manyX d = i at *
        generalize idxB d t = I at *
        generalize encI (d :: t) = y at *
        generalize encI (0 :: zI 32) = z at *
        generalize List.replicate 256 (Cell.i .u8 0) = zz at *
        exact ⟨_, by simp only [afAddr_p, List.append_nil, if_true, if_false, bnd_some, mp_some, cnd_t, cnd_f, gd_no, gd_tt, gd_tf, gd_ft, gd_ff, alenS_s, alen_sl, alen_ns, abin_add, abin_sub, abin_mul, abin_eql, abin_neq, abin_lss, abin_leq, abin_gtr, abin_geq, abin_seql, abin_sneq, abin_slss, aun_not, aun_neg, agn_some, aeqN_nf, aeqN_f, aeqN_np, aeqN_p, anilc_p, aeqB_t, aeqB_f, aconv_i, apick_b, cond_true, cond_false, decide_true, decide_false, Bool.not_true, Bool.not_false, aext_t, ofPart_c, ofPart_a, part?_c, part?_a, cells?_c, cells?_a, tupN_2, tupN_3, Option.map_some, Option.some.injEq, List.getElem?_cons_zero, List.getElem?_cons_succ, not_true_eq_false, not_false_eq_true, quiet_same, bytesI_length, Option.join_some, List.append_assoc, List.cons_append, List.nil_append, List.length_append, List.length_cons, List.length_nil, Nat.zero_add, Nat.add_zero, rd_at, rd_at0, set_at, set_at0, List.set_cons_zero, List.set_cons_succ, ne_eq, decide_not, quiet_ext, newOk_some, List.cons_prefix_cons, List.nil_prefix, List.drop_succ_cons, List.drop_zero, List.all_cons, List.all_nil, Bool.and_true, true_and, and_true, aloadN_at, aloadN_at0, aload1_at, aload1_at0, astoreN_at, astoreN_at0, astore1_at, astore1_at0, aslA_at, aslA_at0, ldN_all, ld1_row, stN_all, st1_row, slr_all, Nat.reduceAdd, Nat.reduceMul, Nat.reduceLT, hB, hz, hz0, hR, hP, hI, hG, hE, hD, l0, c, hPl, c5, c6, a2, a3, x2, works19_eq, eq_self, beq_self_eq_true, Int.reduceEq] <;> rfl⟩
  obtain ⟨g', e⟩ := key (ro h)
  exact S_escheatlaw19_IndexBack_flat e rfl

end Go.Proofs.Ytbbkpmbepljhkaa
