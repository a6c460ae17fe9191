/- The law of names that are packed answers true. -/
import Derived.Test.YtbbkpmbepljhkaaSLaw03
import Derived.Test.YtbbkpmbepljhkaaGEscheatlaw03NamePacks
set_option linter.all false
namespace Go.Proofs.Ytbbkpmbepljhkaa
open Go Go.Esc

theorem namePacks_eq {s l : List UInt8} (h : Heap) (hl : l.length = 25) : S_escheatlaw03_NamePacks [.c (.s s), .a (encB l)] h = some (.c (.b true), h) := by
  have key : ∀ g, ∃ g', R_escheatlaw03_NamePacks 0 [.c (.s s), .a (encB l)] g = some (.c (.b true), g') := by
    intro g
    have hle : (encB l).length = 25 := by rw [encB_length, hl]
    rw [R_escheatlaw03_NamePacks_eq]
    by_cases c1 : (300 : Int) < s.length
    · exact ⟨_, by simp only [List.append_nil, if_true, if_false, bnd_some, mp_some, cnd_t, cnd_f, gd_no, gd_tt, gd_tf, gd_ft, gd_ff, alenS_s, alen_sl, alen_ns, abin_add, abin_sub, abin_mul, abin_eql, abin_neq, abin_lss, abin_leq, abin_gtr, abin_geq, abin_seql, abin_sneq, abin_slss, aun_not, aun_neg, aeqB_t, aeqB_f, aconv_i, apick_b, cond_true, cond_false, decide_true, decide_false, Bool.not_true, Bool.not_false, aext_t, ofPart_c, ofPart_a, part?_c, part?_a, cells?_c, cells?_a, tupN_2, tupN_3, Option.map_some, Option.some.injEq, List.getElem?_cons_zero, List.getElem?_cons_succ, not_true_eq_false, not_false_eq_true, quiet_same, bytesI_length, Option.join_some, List.append_assoc, List.cons_append, List.nil_append, List.length_append, List.length_cons, List.length_nil, Nat.zero_add, Nat.add_zero, rd_at, rd_at0, set_at, set_at0, List.set_cons_zero, List.set_cons_succ, ne_eq, decide_not, quiet_ext, newOk_some, List.cons_prefix_cons, List.nil_prefix, List.drop_succ_cons, List.drop_zero, List.all_cons, List.all_nil, Bool.and_true, true_and, and_true, aloadN_at, aloadN_at0, aload1_at, aload1_at0, astoreN_at, astoreN_at0, astore1_at, astore1_at0, aslA_at, aslA_at0, ldN_all, ld1_row, stN_all, st1_row, slr_all, Nat.reduceAdd, Nat.reduceMul, Nat.reduceLT, c1, works03_eq] <;> rfl⟩
    · have hs : s.length < 9223372036854775807 := by omega
      have hp := pack_eq hs (g ++ [some ⟨encB l, true⟩])
      have hpl : (encB (packB s)).length = 25 := by rw [encB_length, packB_length]
      have hz : (List.replicate 25 (Cell.i .u8 0)).length = 25 := List.length_replicate
      have hu := unpack_eq hl
      cases hf : fineName s with
      | true =>
        rw [hf] at hp
        have hs24 := (fineName_length hf).2
        have hr := refPack_eq hs24 (g ++ [some ⟨encB l, true⟩, some ⟨encB (packB s), true⟩])
        have hpn : packB s = packN s s.length := by unfold packB; rw [hf]; rfl
        have hS := ref01_Same_eq (h := g ++ [some ⟨encB l, true⟩, some ⟨encB (packB s), true⟩, some ⟨encB (packB s), true⟩]) (v := .c (.sl (g.length + 1) 0 25 1)) (nv := 25) (u := .c (.sl (g.length + 2) 0 25 1)) (nu := 25) (l := packB s) (r := packB s)
          (Has.tr (by simp) (by rw [encB_length, packB_length]) (noX_encB _)) (Has.tr (by simp) (by rw [encB_length, packB_length]) (noX_encB _)) (by rw [packB_length]; omega)
        have hru := refUnpack_eq (h := g ++ [some ⟨encB l, true⟩, some ⟨encB (packB s), true⟩, some ⟨encB (packB s), true⟩]) (v := .c (.sl g.length 0 25 1)) (nv := 25) (l := l) (Has.tr (by simp) (by rw [encB_length, hl]) (noX_encB _)) hl
        rw [← hpn] at hr
        generalize List.replicate 25 (Cell.i .u8 0) = z at *
        cases hq : unpackB l with
        | none =>
          rw [hq] at hru
          simp only [hq] at hu
          simp only [Option.getD_none, Option.isSome_none, Bool.false_eq_true, if_false] at hu hru
          exact ⟨_, by simp only [List.append_nil, if_true, if_false, bnd_some, mp_some, cnd_t, cnd_f, gd_no, gd_tt, gd_tf, gd_ft, gd_ff, alenS_s, alen_sl, alen_ns, abin_add, abin_sub, abin_mul, abin_eql, abin_neq, abin_lss, abin_leq, abin_gtr, abin_geq, abin_seql, abin_sneq, abin_slss, aun_not, aun_neg, aeqB_t, aeqB_f, aconv_i, apick_b, cond_true, cond_false, decide_true, decide_false, Bool.not_true, Bool.not_false, aext_t, ofPart_c, ofPart_a, part?_c, part?_a, cells?_c, cells?_a, tupN_2, tupN_3, Option.map_some, Option.some.injEq, List.getElem?_cons_zero, List.getElem?_cons_succ, not_true_eq_false, not_false_eq_true, quiet_same, bytesI_length, Option.join_some, List.append_assoc, List.cons_append, List.nil_append, List.length_append, List.length_cons, List.length_nil, Nat.zero_add, Nat.add_zero, rd_at, rd_at0, set_at, set_at0, List.set_cons_zero, List.set_cons_succ, ne_eq, decide_not, quiet_ext, newOk_some, List.cons_prefix_cons, List.nil_prefix, List.drop_succ_cons, List.drop_zero, List.all_cons, List.all_nil, Bool.and_true, true_and, and_true, aloadN_at, aloadN_at0, aload1_at, aload1_at0, astoreN_at, astoreN_at0, astore1_at, astore1_at0, aslA_at, aslA_at0, ldN_all, ld1_row, stN_all, st1_row, slr_all, Nat.reduceAdd, Nat.reduceMul, Nat.reduceLT, c1, hp, hpl, hz, right_eq hs, hf, is03_eq, hr, hS, hle, hu, hru, works03_eq] <;> rfl⟩
        | some y =>
          rw [hq] at hru
          simp only [hq] at hu
          simp only [Option.getD_some, Option.isSome_some, if_true] at hu hru
          exact ⟨_, by simp only [List.append_nil, if_true, if_false, bnd_some, mp_some, cnd_t, cnd_f, gd_no, gd_tt, gd_tf, gd_ft, gd_ff, alenS_s, alen_sl, alen_ns, abin_add, abin_sub, abin_mul, abin_eql, abin_neq, abin_lss, abin_leq, abin_gtr, abin_geq, abin_seql, abin_sneq, abin_slss, aun_not, aun_neg, aeqB_t, aeqB_f, aconv_i, apick_b, cond_true, cond_false, decide_true, decide_false, Bool.not_true, Bool.not_false, aext_t, ofPart_c, ofPart_a, part?_c, part?_a, cells?_c, cells?_a, tupN_2, tupN_3, Option.map_some, Option.some.injEq, List.getElem?_cons_zero, List.getElem?_cons_succ, not_true_eq_false, not_false_eq_true, quiet_same, bytesI_length, Option.join_some, List.append_assoc, List.cons_append, List.nil_append, List.length_append, List.length_cons, List.length_nil, Nat.zero_add, Nat.add_zero, rd_at, rd_at0, set_at, set_at0, List.set_cons_zero, List.set_cons_succ, ne_eq, decide_not, quiet_ext, newOk_some, List.cons_prefix_cons, List.nil_prefix, List.drop_succ_cons, List.drop_zero, List.all_cons, List.all_nil, Bool.and_true, true_and, and_true, aloadN_at, aloadN_at0, aload1_at, aload1_at0, astoreN_at, astoreN_at0, astore1_at, astore1_at0, aslA_at, aslA_at0, ldN_all, ld1_row, stN_all, st1_row, slr_all, Nat.reduceAdd, Nat.reduceMul, Nat.reduceLT, c1, hp, hpl, hz, right_eq hs, hf, is03_eq, hr, hS, hle, hu, hru, works03_eq] <;> rfl⟩
      | false =>
        rw [hf] at hp
        have hpn : packB s = zeros 25 := by unfold packB; rw [hf]; rfl
        have hru := refUnpack_eq (h := g ++ [some ⟨encB l, true⟩, some ⟨encB (packB s), true⟩]) (v := .c (.sl g.length 0 25 1)) (nv := 25) (l := l) (Has.tr (by simp) (by rw [encB_length, hl]) (noX_encB _)) hl
        have haf : afill (List.replicate 25 (Cell.i .u8 0)) [] = some (List.replicate 25 (Cell.i .u8 0)) := rfl
        have hq2 := aeq_t (l := zeros 25) (m := zeros 25) zeros_length zeros_length
        rw [zeros_enc] at haf hz ⊢
        rw [hpn] at hp hpl hru
        generalize zeros 25 = z at *
        cases hq : unpackB l with
        | none =>
          rw [hq] at hru
          simp only [hq] at hu
          simp only [Option.getD_none, Option.isSome_none, Bool.false_eq_true, if_false] at hu hru
          exact ⟨_, by simp only [List.append_nil, if_true, if_false, bnd_some, mp_some, cnd_t, cnd_f, gd_no, gd_tt, gd_tf, gd_ft, gd_ff, alenS_s, alen_sl, alen_ns, abin_add, abin_sub, abin_mul, abin_eql, abin_neq, abin_lss, abin_leq, abin_gtr, abin_geq, abin_seql, abin_sneq, abin_slss, aun_not, aun_neg, aeqB_t, aeqB_f, aconv_i, apick_b, cond_true, cond_false, decide_true, decide_false, Bool.not_true, Bool.not_false, aext_t, ofPart_c, ofPart_a, part?_c, part?_a, cells?_c, cells?_a, tupN_2, tupN_3, Option.map_some, Option.some.injEq, List.getElem?_cons_zero, List.getElem?_cons_succ, not_true_eq_false, not_false_eq_true, quiet_same, bytesI_length, Option.join_some, List.append_assoc, List.cons_append, List.nil_append, List.length_append, List.length_cons, List.length_nil, Nat.zero_add, Nat.add_zero, rd_at, rd_at0, set_at, set_at0, List.set_cons_zero, List.set_cons_succ, ne_eq, decide_not, quiet_ext, newOk_some, List.cons_prefix_cons, List.nil_prefix, List.drop_succ_cons, List.drop_zero, List.all_cons, List.all_nil, Bool.and_true, true_and, and_true, aloadN_at, aloadN_at0, aload1_at, aload1_at0, astoreN_at, astoreN_at0, astore1_at, astore1_at0, aslA_at, aslA_at0, ldN_all, ld1_row, stN_all, st1_row, slr_all, Nat.reduceAdd, Nat.reduceMul, Nat.reduceLT, c1, hp, hpl, hz, right_eq hs, hf, is03_eq, haf, hq2, hle, hu, hru, works03_eq] <;> rfl⟩
        | some y =>
          rw [hq] at hru
          simp only [hq] at hu
          simp only [Option.getD_some, Option.isSome_some, if_true] at hu hru
          exact ⟨_, by simp only [List.append_nil, if_true, if_false, bnd_some, mp_some, cnd_t, cnd_f, gd_no, gd_tt, gd_tf, gd_ft, gd_ff, alenS_s, alen_sl, alen_ns, abin_add, abin_sub, abin_mul, abin_eql, abin_neq, abin_lss, abin_leq, abin_gtr, abin_geq, abin_seql, abin_sneq, abin_slss, aun_not, aun_neg, aeqB_t, aeqB_f, aconv_i, apick_b, cond_true, cond_false, decide_true, decide_false, Bool.not_true, Bool.not_false, aext_t, ofPart_c, ofPart_a, part?_c, part?_a, cells?_c, cells?_a, tupN_2, tupN_3, Option.map_some, Option.some.injEq, List.getElem?_cons_zero, List.getElem?_cons_succ, not_true_eq_false, not_false_eq_true, quiet_same, bytesI_length, Option.join_some, List.append_assoc, List.cons_append, List.nil_append, List.length_append, List.length_cons, List.length_nil, Nat.zero_add, Nat.add_zero, rd_at, rd_at0, set_at, set_at0, List.set_cons_zero, List.set_cons_succ, ne_eq, decide_not, quiet_ext, newOk_some, List.cons_prefix_cons, List.nil_prefix, List.drop_succ_cons, List.drop_zero, List.all_cons, List.all_nil, Bool.and_true, true_and, and_true, aloadN_at, aloadN_at0, aload1_at, aload1_at0, astoreN_at, astoreN_at0, astore1_at, astore1_at0, aslA_at, aslA_at0, ldN_all, ld1_row, stN_all, st1_row, slr_all, Nat.reduceAdd, Nat.reduceMul, Nat.reduceLT, c1, hp, hpl, hz, right_eq hs, hf, is03_eq, haf, hq2, hle, hu, hru, works03_eq] <;> rfl⟩
  obtain ⟨g', e⟩ := key (ro h)
  exact S_escheatlaw03_NamePacks_flat e rfl

end Go.Proofs.Ytbbkpmbepljhkaa
