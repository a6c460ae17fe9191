/- The law of how many blocks a size has answers true. -/
import Derived.Test.YtbbkpmbepljhkaaSLaw16
import Derived.Test.YtbbkpmbepljhkaaGEscheatlaw16InodeSizes
set_option linter.all false
namespace Go.Proofs.Ytbbkpmbepljhkaa
open Go Go.Esc

theorem inodeSizes_eq {a b : Int} (h : Heap) (ha0 : 0 ≤ a) (ha1 : a ≤ 65535) (hb0 : 0 ≤ b) (hb1 : b ≤ 65535) : S_escheatlaw16_InodeSizes [.c (.i .u16 a), .c (.i .u16 b)] h = some (.c (.b true), h) := by
  have key : ∀ g, ∃ g', R_escheatlaw16_InodeSizes 0 [.c (.i .u16 a), .c (.i .u16 b)] g = some (.c (.b true), g') := by
    intro g
    have e1 : IntKind.wrap .i64 a = a := wrap_i64 (by omega) (by omega)
    have e2 : IntKind.wrap .i64 b = b := wrap_i64 (by omega) (by omega)
    have r1 := rem_i (a := a) (b := 34305) (k := .i64) (by omega) (by omega)
    have r2 := rem_i (a := b) (b := 34305) (k := .i64) (by omega) (by omega)
    have h1 : 0 ≤ a % 34305 ∧ a % 34305 < 34305 := ⟨Int.emod_nonneg _ (by omega), Int.emod_lt_of_pos _ (by omega)⟩
    have h2 : 0 ≤ b % 34305 ∧ b % 34305 < 34305 := ⟨Int.emod_nonneg _ (by omega), Int.emod_lt_of_pos _ (by omega)⟩
    generalize a % 34305 = x at *
    generalize b % 34305 = y at *
    obtain ⟨n, hn⟩ : ∃ n, n = (if x < 1 then 0 else if 34304 < x then 134 else (x + 255) / 256) := ⟨_, rfl⟩
    obtain ⟨m, hm⟩ : ∃ m, m = (if y < 1 then 0 else if 34304 < y then 134 else (y + 255) / 256) := ⟨_, rfl⟩
    have bn := fun h => inode_Blocks_eq (n := x) (h := h)
    have bm := fun h => inode_Blocks_eq (n := y) (h := h)
    simp only [← hn] at bn
    simp only [← hm] at bm
    have hn1 : n = (x + 255) / 256 := by rw [hn]; split <;> (try split) <;> omega
    have hm1 : m = (y + 255) / 256 := by rw [hm]; split <;> (try split) <;> omega
    clear hn hm
    have e3 : IntKind.wrap .i64 (256 * n) = 256 * n := wrap_i64 (by omega) (by omega)
    have c1 : x ≤ 256 * n := by omega
    have e4 : IntKind.wrap .i64 (n - 1) = n - 1 := wrap_i64 (by omega) (by omega)
    have e5 : IntKind.wrap .i64 (256 * (n - 1)) = 256 * (n - 1) := wrap_i64 (by omega) (by omega)
    have c4 : n ≤ 134 := by omega
    rw [R_escheatlaw16_InodeSizes_eq]
    by_cases c2 : n = 0
    · by_cases c3 : y < x
      · exfalso; omega
      · have c5 : n ≤ m := by omega
        exact ⟨_, by simp only [afAddr_p, List.append_nil, if_true, if_false, bnd_some, mp_some, cnd_t, cnd_f, gd_no, gd_tt, gd_tf, gd_ft, gd_ff, alenS_s, alen_sl, alen_ns, abin_add, abin_sub, abin_mul, abin_eql, abin_neq, abin_lss, abin_leq, abin_gtr, abin_geq, abin_seql, abin_sneq, abin_slss, aun_not, aun_neg, aeqB_t, aeqB_f, aconv_i, apick_b, cond_true, cond_false, decide_true, decide_false, Bool.not_true, Bool.not_false, aext_t, ofPart_c, ofPart_a, part?_c, part?_a, cells?_c, cells?_a, tupN_2, tupN_3, Option.map_some, Option.some.injEq, List.getElem?_cons_zero, List.getElem?_cons_succ, not_true_eq_false, not_false_eq_true, quiet_same, bytesI_length, Option.join_some, List.append_assoc, List.cons_append, List.nil_append, List.length_append, List.length_cons, List.length_nil, Nat.zero_add, Nat.add_zero, rd_at, rd_at0, set_at, set_at0, List.set_cons_zero, List.set_cons_succ, ne_eq, decide_not, quiet_ext, newOk_some, List.cons_prefix_cons, List.nil_prefix, List.drop_succ_cons, List.drop_zero, List.all_cons, List.all_nil, Bool.and_true, true_and, and_true, e1, e2, r1, r2, bn, bm, e3, c1, decide_eq_true c2, c3, c5, c4, works16_eq] <;> rfl⟩
    · have c6 : 256 * (n - 1) < x := by omega
      by_cases c3 : y < x
      · exact ⟨_, by simp only [afAddr_p, List.append_nil, if_true, if_false, bnd_some, mp_some, cnd_t, cnd_f, gd_no, gd_tt, gd_tf, gd_ft, gd_ff, alenS_s, alen_sl, alen_ns, abin_add, abin_sub, abin_mul, abin_eql, abin_neq, abin_lss, abin_leq, abin_gtr, abin_geq, abin_seql, abin_sneq, abin_slss, aun_not, aun_neg, aeqB_t, aeqB_f, aconv_i, apick_b, cond_true, cond_false, decide_true, decide_false, Bool.not_true, Bool.not_false, aext_t, ofPart_c, ofPart_a, part?_c, part?_a, cells?_c, cells?_a, tupN_2, tupN_3, Option.map_some, Option.some.injEq, List.getElem?_cons_zero, List.getElem?_cons_succ, not_true_eq_false, not_false_eq_true, quiet_same, bytesI_length, Option.join_some, List.append_assoc, List.cons_append, List.nil_append, List.length_append, List.length_cons, List.length_nil, Nat.zero_add, Nat.add_zero, rd_at, rd_at0, set_at, set_at0, List.set_cons_zero, List.set_cons_succ, ne_eq, decide_not, quiet_ext, newOk_some, List.cons_prefix_cons, List.nil_prefix, List.drop_succ_cons, List.drop_zero, List.all_cons, List.all_nil, Bool.and_true, true_and, and_true, e1, e2, r1, r2, bn, e3, c1, c2, e4, e5, c6, c3, c4, works16_eq] <;> rfl⟩
      · have c5 : n ≤ m := by omega
        exact ⟨_, by simp only [afAddr_p, List.append_nil, if_true, if_false, bnd_some, mp_some, cnd_t, cnd_f, gd_no, gd_tt, gd_tf, gd_ft, gd_ff, alenS_s, alen_sl, alen_ns, abin_add, abin_sub, abin_mul, abin_eql, abin_neq, abin_lss, abin_leq, abin_gtr, abin_geq, abin_seql, abin_sneq, abin_slss, aun_not, aun_neg, aeqB_t, aeqB_f, aconv_i, apick_b, cond_true, cond_false, decide_true, decide_false, Bool.not_true, Bool.not_false, aext_t, ofPart_c, ofPart_a, part?_c, part?_a, cells?_c, cells?_a, tupN_2, tupN_3, Option.map_some, Option.some.injEq, List.getElem?_cons_zero, List.getElem?_cons_succ, not_true_eq_false, not_false_eq_true, quiet_same, bytesI_length, Option.join_some, List.append_assoc, List.cons_append, List.nil_append, List.length_append, List.length_cons, List.length_nil, Nat.zero_add, Nat.add_zero, rd_at, rd_at0, set_at, set_at0, List.set_cons_zero, List.set_cons_succ, ne_eq, decide_not, quiet_ext, newOk_some, List.cons_prefix_cons, List.nil_prefix, List.drop_succ_cons, List.drop_zero, List.all_cons, List.all_nil, Bool.and_true, true_and, and_true, e1, e2, r1, r2, bn, bm, e3, c1, c2, e4, e5, c6, c3, c5, c4, works16_eq] <;> rfl⟩
  obtain ⟨g', e⟩ := key (ro h)
  exact S_escheatlaw16_InodeSizes_flat e rfl

end Go.Proofs.Ytbbkpmbepljhkaa
