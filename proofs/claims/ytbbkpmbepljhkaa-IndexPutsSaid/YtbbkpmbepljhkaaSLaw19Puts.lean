/- The law of an index's block, and of a block's index, answers true. -/
import Derived.Test.YtbbkpmbepljhkaaSIndexRefFix
import Derived.Test.YtbbkpmbepljhkaaSLaw19
import Derived.Test.YtbbkpmbepljhkaaGEscheatlaw19IndexPuts
set_option linter.all false
namespace Go.Proofs.Ytbbkpmbepljhkaa
open Go Go.Esc

theorem indexPuts_eq {d : Int} {t : List Int} {b : List UInt8} (h : Heap) (ht : t.length = 32) (hb : b.length = 256) : S_escheatlaw19_IndexPuts [.a (encI (d :: t)), .a (encB b)] h = some (.c (.b true), h) := by
  have key : ∀ g, ∃ g', R_escheatlaw19_IndexPuts 0 [.a (encI (d :: t)), .a (encB b)] g = some (.c (.b true), g') := by
    intro g
    have hB := encX_length (d := d) ht
    have hbl : (encB b).length = 256 := by rw [encB_length, hb]
    have hz : (encI (0 :: zI 32)).length = 33 := encX_length (d := 0) zI_length
    have hz0 : (encB (zeros 256)).length = 256 := by rw [encB_length]; exact zeros_length
    have hR := fun h => index_Right_eq (d := d) (t := t) (h := h) ht
    have hRr := fun h => ref19_Right_eq (d := d) (t := t) (h := h) ht
    have hP := fun h => index_Put_eq (d := d) (t := t) (h := h) ht
    have hG := fun h => index_Get_eq (b := b) (h := h) hb
    have hPr := ref19_Put_eq (d := d) (t := t) (h := g ++ [some (Row.mk (encI (d :: t)) true), some (Row.mk (encB b) true), some (Row.mk (encB (bif okX d t then idxB d t else zeros 256)) true)]) ht
    simp only [List.length_append, List.length_cons, List.length_nil, Nat.zero_add, List.append_assoc, List.cons_append, List.nil_append] at hPr
    have htl := getT_length (b := b) (n := 32) (Nat.le_refl _)
    have hYl : (encI (bif goodX b then getD b :: getT b 32 else 0 :: zI 32)).length = 33 := by
      cases goodX b
      · exact hz
      · exact encX_length (d := getD b) htl
    have hE : aeq false (List.replicate 33 (.i .i64)) (.a (encI (bif goodX b then getD b :: getT b 32 else 0 :: zI 32))) (.a (encI (bif goodX b then getD b :: getT b 32 else 0 :: zI 32))) = some (.c (.b true)) := by
      rw [aeqI_f (by have := hYl; rwa [encI_length] at this) (by have := hYl; rwa [encI_length] at this), decide_eq_true rfl]
    have hil := idxB_length (d := d) ht
    rw [R_escheatlaw19_IndexPuts_eq, zI_enc, sh33, zeros_enc]
    cases co : okX d t with
    | true =>
      rw [co] at hP hPr
      simp only [cond_true] at hP hPr
      have hI : (encB (idxB d t)).length = 256 := by rw [encB_length, hil]
      have hS := ref01_Same_eq (l := idxB d t) (r := idxB d t) (h := g ++ [some (Row.mk (encI (d :: t)) true), some (Row.mk (encB b) true), some (Row.mk (encB (idxB d t)) true), some (Row.mk (encB (idxB d t)) true)]) (v := .c (.sl (g.length + 2) 0 256 1)) (u := .c (.sl (g.length + 3) 0 256 1)) (nv := 256) (nu := 256) (Has.row (rw := true) (by simp) hI (noX_encB _)) (Has.row (rw := true) (by simp) hI (noX_encB _)) (by omega)
      rw [decide_eq_true rfl] at hS
      have hGr := fun hv => ref19_Get_eq (b := b) (v := .c (.sl (g.length + 1) 0 256 1)) (nv := 256) (h := g ++ [some (Row.mk (encI (d :: t)) true), some (Row.mk (encB b) true), some (Row.mk (encB (idxB d t)) true), some (Row.mk (encB (idxB d t)) true), some (Row.mk (encI (bif goodX b then getD b :: getT b 32 else 0 :: zI 32)) true)]) hb hv
      have hGr := hGr (Has.row (rw := true) (by simp) hbl (noX_encB _))
      generalize goodX b = G at *
      generalize encI (bif G then getD b :: getT b 32 else 0 :: zI 32) = Y at *
      generalize encI (0 :: zI 32) = z at *
      generalize idxB d t = I at *
      generalize encI (d :: t) = y at *
      generalize rightX d t = R at *
      cases R <;> cases G <;> exact ⟨_, by simp only [afAddr_p, List.append_nil, if_true, if_false, bnd_some, mp_some, cnd_t, cnd_f, gd_no, gd_tt, gd_tf, gd_ft, gd_ff, alenS_s, alen_sl, alen_ns, abin_add, abin_sub, abin_mul, abin_eql, abin_neq, abin_lss, abin_leq, abin_gtr, abin_geq, abin_seql, abin_sneq, abin_slss, aun_not, aun_neg, agn_some, aeqN_nf, aeqN_f, aeqN_np, aeqN_p, anilc_p, aeqB_t, aeqB_f, aconv_i, apick_b, cond_true, cond_false, decide_true, decide_false, Bool.not_true, Bool.not_false, aext_t, ofPart_c, ofPart_a, part?_c, part?_a, cells?_c, cells?_a, tupN_2, tupN_3, Option.map_some, Option.some.injEq, List.getElem?_cons_zero, List.getElem?_cons_succ, not_true_eq_false, not_false_eq_true, quiet_same, bytesI_length, Option.join_some, List.append_assoc, List.cons_append, List.nil_append, List.length_append, List.length_cons, List.length_nil, Nat.zero_add, Nat.add_zero, rd_at, rd_at0, set_at, set_at0, List.set_cons_zero, List.set_cons_succ, ne_eq, decide_not, quiet_ext, newOk_some, List.cons_prefix_cons, List.nil_prefix, List.drop_succ_cons, List.drop_zero, List.all_cons, List.all_nil, Bool.and_true, true_and, and_true, aloadN_at, aloadN_at0, aload1_at, aload1_at0, astoreN_at, astoreN_at0, astore1_at, astore1_at0, aslA_at, aslA_at0, ldN_all, ld1_row, stN_all, st1_row, slr_all, Nat.reduceAdd, Nat.reduceMul, Nat.reduceLT, hB, hz, hbl, hz0, hR, hRr, hP, hPr, hI, hS, hG, hYl, hGr, hE, works19_eq, eq_self, beq_self_eq_true, Int.reduceEq, cond_true, cond_false] <;> rfl⟩
    | false =>
      rw [co] at hP hPr
      simp only [cond_false] at hP hPr
      have hzz : afill (List.replicate 256 (Cell.i .u8 0)) [] = some (List.replicate 256 (Cell.i .u8 0)) := rfl
      rw [zeros_enc] at hzz
      have hEz : aeq true (List.replicate 256 (.i .u8)) (.a (encB (zeros 256))) (.a (encB (zeros 256))) = some (.c (.b false)) := by
        simp only [aeq]
        rw [if_pos ⟨by rw [encB_sh, zeros_length], by rw [encB_sh, zeros_length]⟩]
        simp
      have hGr := fun hv => ref19_Get_eq (b := b) (v := .c (.sl (g.length + 1) 0 256 1)) (nv := 256) (h := g ++ [some (Row.mk (encI (d :: t)) true), some (Row.mk (encB b) true), some (Row.mk (encB (zeros 256)) true), some (Row.mk (encB []) true), some (Row.mk (encI (bif goodX b then getD b :: getT b 32 else 0 :: zI 32)) true)]) hb hv
      have hGr := hGr (Has.row (rw := true) (by simp) hbl (noX_encB _))
      generalize goodX b = G at *
      generalize encI (bif G then getD b :: getT b 32 else 0 :: zI 32) = Y at *
      generalize encI (0 :: zI 32) = z at *
      generalize encI (d :: t) = y at *
      generalize zeros 256 = Z at *
      generalize rightX d t = R at *
      cases R <;> cases G <;> exact ⟨_, by simp only [afAddr_p, List.append_nil, if_true, if_false, bnd_some, mp_some, cnd_t, cnd_f, gd_no, gd_tt, gd_tf, gd_ft, gd_ff, alenS_s, alen_sl, alen_ns, abin_add, abin_sub, abin_mul, abin_eql, abin_neq, abin_lss, abin_leq, abin_gtr, abin_geq, abin_seql, abin_sneq, abin_slss, aun_not, aun_neg, agn_some, aeqN_nf, aeqN_f, aeqN_np, aeqN_p, anilc_p, aeqB_t, aeqB_f, aconv_i, apick_b, cond_true, cond_false, decide_true, decide_false, Bool.not_true, Bool.not_false, aext_t, ofPart_c, ofPart_a, part?_c, part?_a, cells?_c, cells?_a, tupN_2, tupN_3, Option.map_some, Option.some.injEq, List.getElem?_cons_zero, List.getElem?_cons_succ, not_true_eq_false, not_false_eq_true, quiet_same, bytesI_length, Option.join_some, List.append_assoc, List.cons_append, List.nil_append, List.length_append, List.length_cons, List.length_nil, Nat.zero_add, Nat.add_zero, rd_at, rd_at0, set_at, set_at0, List.set_cons_zero, List.set_cons_succ, ne_eq, decide_not, quiet_ext, newOk_some, List.cons_prefix_cons, List.nil_prefix, List.drop_succ_cons, List.drop_zero, List.all_cons, List.all_nil, Bool.and_true, true_and, and_true, aloadN_at, aloadN_at0, aload1_at, aload1_at0, astoreN_at, astoreN_at0, astore1_at, astore1_at0, aslA_at, aslA_at0, ldN_all, ld1_row, stN_all, st1_row, slr_all, Nat.reduceAdd, Nat.reduceMul, Nat.reduceLT, hB, hz, hbl, hz0, hzz, hEz, hR, hRr, hP, hPr, hG, hYl, hGr, hE, works19_eq, eq_self, beq_self_eq_true, Int.reduceEq, cond_true, cond_false] <;> rfl⟩
  obtain ⟨g', e⟩ := key (ro h)
  exact S_escheatlaw19_IndexPuts_flat e rfl

end Go.Proofs.Ytbbkpmbepljhkaa
