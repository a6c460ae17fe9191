/- The law of a bucket of any entries answers true. -/
import Derived.Test.YtbbkpmbepljhkaaSLaw18
import Derived.Test.YtbbkpmbepljhkaaSOkEnts
import Derived.Test.YtbbkpmbepljhkaaSBucketRefNew
import Derived.Test.YtbbkpmbepljhkaaGEscheatlaw18BucketNews
set_option linter.all false
namespace Go.Proofs.Ytbbkpmbepljhkaa
open Go Go.Esc

theorem bucketNews_eq {v : Val} {nv : Nat} {l : List Ent} {h : Heap} (hv : Has h v 2 nv (entsC l)) : S_escheatlaw18_BucketNews [v] h = some (.c (.b true), h) := by
  have hn : l.length = nv := by have := hv.length; rw [entsC_length] at this; omega
  have key : ∀ g, Has g v 2 nv (entsC l) → ∃ g', R_escheatlaw18_BucketNews 0 [v] g = some (.c (.b true), g') := by
    intro g hv
    have hMu := ref18_Much_eq (M := 20) hv (by omega)
    rw [R_escheatlaw18_BucketNews_eq]
    cases cm : (decide ((20 : Int) < (nv : Int)) || longN l) with
    | true =>
      rw [cm] at hMu
      generalize List.replicate 256 (Cell.i .u8 0) = z at *
      exact ⟨_, by simp only [afAddr_p, List.append_nil, if_true, if_false, bnd_some, mp_some, cnd_t, cnd_f, gd_no, gd_tt, gd_tf, gd_ft, gd_ff, alenS_s, alen_sl, alen_ns, abin_add, abin_sub, abin_mul, abin_eql, abin_neq, abin_lss, abin_leq, abin_gtr, abin_geq, abin_seql, abin_sneq, abin_slss, aun_not, aun_neg, agn_some, aeqN_nf, aeqN_f, aeqN_np, aeqN_p, anilc_p, aeqB_t, aeqB_f, aconv_i, apick_b, cond_true, cond_false, decide_true, decide_false, Bool.not_true, Bool.not_false, aext_t, ofPart_c, ofPart_a, part?_c, part?_a, cells?_c, cells?_a, tupN_2, tupN_3, Option.map_some, Option.some.injEq, List.getElem?_cons_zero, List.getElem?_cons_succ, not_true_eq_false, not_false_eq_true, quiet_same, bytesI_length, Option.join_some, List.append_assoc, List.cons_append, List.nil_append, List.length_append, List.length_cons, List.length_nil, Nat.zero_add, Nat.add_zero, rd_at, rd_at0, set_at, set_at0, List.set_cons_zero, List.set_cons_succ, ne_eq, decide_not, quiet_ext, newOk_some, List.cons_prefix_cons, List.nil_prefix, List.drop_succ_cons, List.drop_zero, List.all_cons, List.all_nil, Bool.and_true, true_and, and_true, aloadN_at, aloadN_at0, aload1_at, aload1_at0, astoreN_at, astoreN_at0, astore1_at, astore1_at0, aslA_at, aslA_at0, ldN_all, ld1_row, stN_all, st1_row, slr_all, Nat.reduceAdd, Nat.reduceMul, Nat.reduceLT, hMu, works18_eq] <;> rfl⟩
    | false =>
      rw [cm] at hMu
      have hls : ∀ x ∈ l, x.1.length ≤ 60 := by
        rw [Bool.or_eq_false_iff] at cm
        intro x hx
        have := List.any_eq_false.1 cm.2 x hx
        simp only [decide_eq_true_eq] at this
        omega
      have hN := fun t => bucket_New_eq (hv.more t) hls
      have hN0 := bucket_New_eq hv hls
      have hbl : (encB (newB l)).length = 256 := by rw [encB_length, newB_length]
      have hz : (encB (zeros 256)).length = 256 := by rw [encB_length]; exact zeros_length
      have hRN := ref18_New_eq (hv.more [some (Row.mk (encB (newB l)) true)]) hls
      rw [zeros_enc]
      by_cases ce : newE l = 0
      · have eb : newB l = newL l l.length := by unfold newB; rw [if_pos ce]
        rw [if_pos ce, if_pos ce, ← eb, ce] at hRN
        rw [ce] at hN0
        have h7 : l.length ≤ 7 := by
          false_or_by_contra
          unfold newE at ce
          rw [if_pos (by omega)] at ce
          omega
        have hmy : mayN l = true := by
          cases c : mayN l with
          | true => rfl
          | false => unfold newE at ce; rw [if_neg (by omega), c] at ce; simp at ce
        have hon : otherN l = true := by
          rw [← onceN_other hmy h7]
          cases c : onceN l with
          | true => rfl
          | false => unfold newE at ce; rw [if_neg (by omega), hmy, c] at ce; simp at ce
        have hR := fun h => bucket_Right_eq (b := newB l) (h := h) newB_length
        have hrt : rightB (newB l) = true := by rw [eb]; exact right_newL hmy h7 hon
        rw [hrt] at hR
        have hS := ref01_Same_eq (l := newB l) (r := newB l) (v := .c (.sl g.length 0 256 1)) (u := .c (.sl (g.length + 1) 0 256 1)) (nv := 256) (nu := 256) (h := g ++ [some (Row.mk (encB (newB l)) true), some (Row.mk (encB (newB l)) true)]) (Has.row (rw := true) (by simp) hbl (noX_encB _)) (Has.row (rw := true) (by simp) hbl (noX_encB _)) (by rw [newB_length]; omega)
        rw [decide_eq_true rfl] at hS
        generalize newB l = N at *
        generalize zeros 256 = z at *
        exact ⟨_, by simp only [afAddr_p, List.append_nil, if_true, if_false, bnd_some, mp_some, cnd_t, cnd_f, gd_no, gd_tt, gd_tf, gd_ft, gd_ff, alenS_s, alen_sl, alen_ns, abin_add, abin_sub, abin_mul, abin_eql, abin_neq, abin_lss, abin_leq, abin_gtr, abin_geq, abin_seql, abin_sneq, abin_slss, aun_not, aun_neg, agn_some, aeqN_nf, aeqN_f, aeqN_np, aeqN_p, anilc_p, aeqB_t, aeqB_f, aconv_i, apick_b, cond_true, cond_false, decide_true, decide_false, Bool.not_true, Bool.not_false, aext_t, ofPart_c, ofPart_a, part?_c, part?_a, cells?_c, cells?_a, tupN_2, tupN_3, Option.map_some, Option.some.injEq, List.getElem?_cons_zero, List.getElem?_cons_succ, not_true_eq_false, not_false_eq_true, quiet_same, bytesI_length, Option.join_some, List.append_assoc, List.cons_append, List.nil_append, List.length_append, List.length_cons, List.length_nil, Nat.zero_add, Nat.add_zero, rd_at, rd_at0, set_at, set_at0, List.set_cons_zero, List.set_cons_succ, ne_eq, decide_not, quiet_ext, newOk_some, List.cons_prefix_cons, List.nil_prefix, List.drop_succ_cons, List.drop_zero, List.all_cons, List.all_nil, Bool.and_true, true_and, and_true, aloadN_at, aloadN_at0, aload1_at, aload1_at0, astoreN_at, astoreN_at0, astore1_at, astore1_at0, aslA_at, aslA_at0, ldN_all, ld1_row, stN_all, st1_row, slr_all, Nat.reduceAdd, Nat.reduceMul, Nat.reduceLT, hMu, hN0, hbl, hz, hRN, hS, hR, works18_eq, eq_self, decide_true, Int.reduceEq] <;> rfl⟩
      · have eb : newB l = zeros 256 := by unfold newB; rw [if_neg ce]
        rw [if_neg ce, if_neg ce, eb] at hRN
        rw [eb] at hN0
        have haf : afill (List.replicate 256 (Cell.i .u8 0)) [] = some (List.replicate 256 (Cell.i .u8 0)) := rfl
        rw [zeros_enc] at haf
        have hEz : aeq false (List.replicate 256 (.i .u8)) (.a (encB (zeros 256))) (.a (encB (zeros 256))) = some (.c (.b true)) := by
          simp only [aeq]
          rw [if_pos ⟨by rw [encB_sh, zeros_length], by rw [encB_sh, zeros_length]⟩]
          simp
        generalize newE l = E at *
        generalize zeros 256 = z at *
        exact ⟨_, by simp only [afAddr_p, List.append_nil, if_true, if_false, bnd_some, mp_some, cnd_t, cnd_f, gd_no, gd_tt, gd_tf, gd_ft, gd_ff, alenS_s, alen_sl, alen_ns, abin_add, abin_sub, abin_mul, abin_eql, abin_neq, abin_lss, abin_leq, abin_gtr, abin_geq, abin_seql, abin_sneq, abin_slss, aun_not, aun_neg, agn_some, aeqN_nf, aeqN_f, aeqN_np, aeqN_p, anilc_p, aeqB_t, aeqB_f, aconv_i, apick_b, cond_true, cond_false, decide_true, decide_false, Bool.not_true, Bool.not_false, aext_t, ofPart_c, ofPart_a, part?_c, part?_a, cells?_c, cells?_a, tupN_2, tupN_3, Option.map_some, Option.some.injEq, List.getElem?_cons_zero, List.getElem?_cons_succ, not_true_eq_false, not_false_eq_true, quiet_same, bytesI_length, Option.join_some, List.append_assoc, List.cons_append, List.nil_append, List.length_append, List.length_cons, List.length_nil, Nat.zero_add, Nat.add_zero, rd_at, rd_at0, set_at, set_at0, List.set_cons_zero, List.set_cons_succ, ne_eq, decide_not, quiet_ext, newOk_some, List.cons_prefix_cons, List.nil_prefix, List.drop_succ_cons, List.drop_zero, List.all_cons, List.all_nil, Bool.and_true, true_and, and_true, aloadN_at, aloadN_at0, aload1_at, aload1_at0, astoreN_at, astoreN_at0, astore1_at, astore1_at0, aslA_at, aslA_at0, ldN_all, ld1_row, stN_all, st1_row, slr_all, Nat.reduceAdd, Nat.reduceMul, Nat.reduceLT, hMu, hN0, hz, hRN, ce, haf, hEz, works18_eq, eq_self, decide_true, Int.reduceEq] <;> rfl⟩
  obtain ⟨g', e⟩ := key (ro h) hv.ro
  exact S_escheatlaw18_BucketNews_flat e rfl

end Go.Proofs.Ytbbkpmbepljhkaa
