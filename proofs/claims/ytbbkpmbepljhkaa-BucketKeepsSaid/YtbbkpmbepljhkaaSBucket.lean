/- What the package of buckets computes: an entry's bytes, the entry of a slot. -/
import Derived.Test.YtbbkpmbepljhkaaSPad
import Derived.Test.YtbbkpmbepljhkaaSName
import Derived.Test.YtbbkpmbepljhkaaGBucket
set_option linter.all false
namespace Go.Proofs.Ytbbkpmbepljhkaa
open Go Go.Esc

theorem quietL {g : Heap} {l l' : List (Option Row)} {v : Val} {cs : List Cell} (hl : l' = l ++ [some ⟨cs, true⟩]) : quiet (g ++ l) (some (v, g ++ l')) = some (v, g ++ l') := by
  subst hl
  have := quiet_grows ((Grows.rfl' (h := g ++ l)).new cs) (v := v)
  rw [List.append_assoc] at this
  exact this
theorem quiet1 {g : Heap} {a : Option Row} {v : Val} {cs : List Cell} : quiet (g ++ [a]) (some (v, g ++ [a, some ⟨cs, true⟩])) = some (v, g ++ [a, some ⟨cs, true⟩]) := quietL rfl
theorem quiet2 {g : Heap} {a b : Option Row} {v : Val} {cs : List Cell} : quiet (g ++ [a, b]) (some (v, g ++ [a, b, some ⟨cs, true⟩])) = some (v, g ++ [a, b, some ⟨cs, true⟩]) := quietL rfl
theorem quiet3 {g : Heap} {a b c : Option Row} {v : Val} {cs : List Cell} : quiet (g ++ [a, b, c]) (some (v, g ++ [a, b, c, some ⟨cs, true⟩])) = some (v, g ++ [a, b, c, some ⟨cs, true⟩]) := quietL rfl
theorem quiet4 {g : Heap} {a b c d : Option Row} {v : Val} {cs : List Cell} : quiet (g ++ [a, b, c, d]) (some (v, g ++ [a, b, c, d, some ⟨cs, true⟩])) = some (v, g ++ [a, b, c, d, some ⟨cs, true⟩]) := quietL rfl
theorem quiet5 {g : Heap} {a b c d e : Option Row} {v : Val} {cs : List Cell} : quiet (g ++ [a, b, c, d, e]) (some (v, g ++ [a, b, c, d, e, some ⟨cs, true⟩])) = some (v, g ++ [a, b, c, d, e, some ⟨cs, true⟩]) := quietL rfl
theorem quiet6 {g : Heap} {a b c d e f : Option Row} {v : Val} {cs : List Cell} : quiet (g ++ [a, b, c, d, e, f]) (some (v, g ++ [a, b, c, d, e, f, some ⟨cs, true⟩])) = some (v, g ++ [a, b, c, d, e, f, some ⟨cs, true⟩]) := quietL rfl

def slotA (k : Nat) : Nat := 32 + 32 * k

theorem bucket_first_eq {k : Nat} {h : Heap} (hk : k < 7) : S_bucket_first [.c (.i .i64 (k : Int))] h = some (.c (.i .i64 (slotA k : Nat)), h) := by
  have key : ∀ g, ∃ g', R_bucket_first 0 [.c (.i .i64 (k : Int))] g = some (.c (.i .i64 (slotA k : Nat)), g') := by
    intro g
    have w1 := wi_succ (show k + 1 < 9223372036854775808 by omega)
    have w2 : IntKind.wrap .i64 (32 * ((k + 1 : Nat) : Int)) = ((slotA k : Nat) : Int) := by unfold slotA; rw [wrap_i64 (by omega) (by omega)]; omega
    rw [R_bucket_first_eq]
    exact ⟨_, by simp only [afAddr_p, List.append_nil, if_true, if_false, bnd_some, mp_some, cnd_t, cnd_f, gd_no, gd_tt, gd_tf, gd_ft, gd_ff, alenS_s, alen_sl, alen_ns, abin_add, abin_sub, abin_mul, abin_eql, abin_neq, abin_lss, abin_leq, abin_gtr, abin_geq, abin_seql, abin_sneq, abin_slss, aun_not, aun_neg, agn_some, aeqN_nf, aeqN_f, aeqN_np, aeqN_p, anilc_p, aeqB_t, aeqB_f, aconv_i, apick_b, cond_true, cond_false, decide_true, decide_false, Bool.not_true, Bool.not_false, aext_t, ofPart_c, ofPart_a, part?_c, part?_a, cells?_c, cells?_a, tupN_2, tupN_3, Option.map_some, Option.some.injEq, List.getElem?_cons_zero, List.getElem?_cons_succ, not_true_eq_false, not_false_eq_true, quiet_same, bytesI_length, Option.join_some, List.append_assoc, List.cons_append, List.nil_append, List.length_append, List.length_cons, List.length_nil, Nat.zero_add, Nat.add_zero, rd_at, rd_at0, set_at, set_at0, List.set_cons_zero, List.set_cons_succ, ne_eq, decide_not, quiet_ext, newOk_some, List.cons_prefix_cons, List.nil_prefix, List.drop_succ_cons, List.drop_zero, List.all_cons, List.all_nil, Bool.and_true, true_and, and_true, w1, w2] <;> rfl⟩
  obtain ⟨g', e⟩ := key (ro h)
  exact S_bucket_first_flat e rfl

def bktX : List UInt8 := [98, 107, 116, 33]
def hdB : List UInt8 := padB 256 bktX
theorem hdB_length : hdB.length = 256 := padB_length (by decide)

theorem bucket_head_eq {h : Heap} : S_bucket_head [] h = some (.a (encB hdB), h) := by
  have key : ∀ g, ∃ g', R_bucket_head 0 [] g = some (.a (encB hdB), g') := by
    intro g
    have hz : (encB (zeros 256)).length = 256 := by rw [encB_length]; exact zeros_length
    have hd : (encB hdB).length = 256 := by rw [encB_length]; exact hdB_length
    have ef : afill [Cell.i .u8 0, .i .u8 0, .i .u8 0, .i .u8 0] [(0, 1, .c (.i .u8 98)), (1, 1, .c (.i .u8 107)), (2, 1, .c (.i .u8 116)), (3, 1, .c (.i .u8 33))] = some (encB bktX) := rfl
    have hO := num_Of_eq (data := bktX) (v := .c (.sl (g.length + 1) 0 4 1)) (nv := 4) (h := g ++ [some (Row.mk (encB (zeros 256)) true), some (Row.mk (encB bktX) true)]) (Has.row (rw := true) (by simp) rfl (noX_encB _)) (by decide)
    rw [of_pad (by decide), show padB 256 bktX = hdB from rfl] at hO
    have hM : amark (g ++ [some (Row.mk (encB (zeros 256)) true), some (Row.mk (encB bktX) true)]) (.c (.sl (g.length + 1) 0 4 1)) = some (.c (.sl (g.length + 1) 0 4 1)) := by simp [amark]
    rw [R_bucket_head_eq, zeros_enc]
    generalize hdB = B at *
    generalize encB bktX = mg at *
    generalize zeros 256 = z at *
    exact ⟨_, by simp only [afAddr_p, List.append_nil, if_true, if_false, bnd_some, mp_some, cnd_t, cnd_f, gd_no, gd_tt, gd_tf, gd_ft, gd_ff, alenS_s, alen_sl, alen_ns, abin_add, abin_sub, abin_mul, abin_eql, abin_neq, abin_lss, abin_leq, abin_gtr, abin_geq, abin_seql, abin_sneq, abin_slss, aun_not, aun_neg, agn_some, aeqN_nf, aeqN_f, aeqN_np, aeqN_p, anilc_p, aeqB_t, aeqB_f, aconv_i, apick_b, cond_true, cond_false, decide_true, decide_false, Bool.not_true, Bool.not_false, aext_t, ofPart_c, ofPart_a, part?_c, part?_a, cells?_c, cells?_a, tupN_2, tupN_3, Option.map_some, Option.some.injEq, List.getElem?_cons_zero, List.getElem?_cons_succ, not_true_eq_false, not_false_eq_true, quiet_same, bytesI_length, Option.join_some, List.append_assoc, List.cons_append, List.nil_append, List.length_append, List.length_cons, List.length_nil, Nat.zero_add, Nat.add_zero, rd_at, rd_at0, set_at, set_at0, List.set_cons_zero, List.set_cons_succ, ne_eq, decide_not, quiet_ext, newOk_some, List.cons_prefix_cons, List.nil_prefix, List.drop_succ_cons, List.drop_zero, List.all_cons, List.all_nil, Bool.and_true, true_and, and_true, aloadN_at, aloadN_at0, aload1_at, aload1_at0, astoreN_at, astoreN_at0, astore1_at, astore1_at0, aslA_at, aslA_at0, ldN_all, ld1_row, stN_all, st1_row, slr_all, Nat.reduceAdd, Nat.reduceMul, Nat.reduceLT, ef, hM, hO, hz, hd] <;> rfl⟩
  obtain ⟨g', e⟩ := key (ro h)
  exact S_bucket_head_flat e (by simp)

/-! ### Entries -/

def mayE (s : List UInt8) (n : Int) : Bool := fineName s && (decide (1 ≤ n) && decide (n ≤ 128))

theorem bucket_may_eq {s : List UInt8} {n : Int} {h : Heap} (hs : s.length < 9223372036854775807) : S_bucket_may [.a [.s s, .i .i64 n]] h = some (.c (.b (mayE s n)), h) := by
  have key : ∀ g, ∃ g', R_bucket_may 0 [.a [.s s, .i .i64 n]] g = some (.c (.b (mayE s n)), g') := by
    intro g
    have hC := fun h => check_eq hs h
    rw [R_bucket_may_eq]
    unfold mayE
    cases hf : fineName s with
    | false =>
      rw [hf] at hC
      exact ⟨_, by simp only [afAddr_p, List.append_nil, if_true, if_false, bnd_some, mp_some, cnd_t, cnd_f, gd_no, gd_tt, gd_tf, gd_ft, gd_ff, alenS_s, alen_sl, alen_ns, abin_add, abin_sub, abin_mul, abin_eql, abin_neq, abin_lss, abin_leq, abin_gtr, abin_geq, abin_seql, abin_sneq, abin_slss, aun_not, aun_neg, agn_some, aeqN_nf, aeqN_f, aeqN_np, aeqN_p, anilc_p, aeqB_t, aeqB_f, aconv_i, apick_b, cond_true, cond_false, decide_true, decide_false, Bool.not_true, Bool.not_false, aext_t, ofPart_c, ofPart_a, part?_c, part?_a, cells?_c, cells?_a, tupN_2, tupN_3, Option.map_some, Option.some.injEq, List.getElem?_cons_zero, List.getElem?_cons_succ, not_true_eq_false, not_false_eq_true, quiet_same, bytesI_length, Option.join_some, List.append_assoc, List.cons_append, List.nil_append, List.length_append, List.length_cons, List.length_nil, Nat.zero_add, Nat.add_zero, rd_at, rd_at0, set_at, set_at0, List.set_cons_zero, List.set_cons_succ, ne_eq, decide_not, quiet_ext, newOk_some, List.cons_prefix_cons, List.nil_prefix, List.drop_succ_cons, List.drop_zero, List.all_cons, List.all_nil, Bool.and_true, true_and, and_true, aloadN_at, aloadN_at0, aload1_at, aload1_at0, astoreN_at, astoreN_at0, astore1_at, astore1_at0, aslA_at, aslA_at0, ldN_all, ld1_row, stN_all, st1_row, slr_all, Nat.reduceAdd, Nat.reduceMul, Nat.reduceLT, hC, Int.reduceEq] <;> rfl⟩
    | true =>
      rw [hf] at hC
      by_cases c1 : 1 ≤ n
      · by_cases c2 : n ≤ 128
        · rw [decide_eq_true c1, decide_eq_true c2]
          exact ⟨_, by simp only [afAddr_p, List.append_nil, if_true, if_false, bnd_some, mp_some, cnd_t, cnd_f, gd_no, gd_tt, gd_tf, gd_ft, gd_ff, alenS_s, alen_sl, alen_ns, abin_add, abin_sub, abin_mul, abin_eql, abin_neq, abin_lss, abin_leq, abin_gtr, abin_geq, abin_seql, abin_sneq, abin_slss, aun_not, aun_neg, agn_some, aeqN_nf, aeqN_f, aeqN_np, aeqN_p, anilc_p, aeqB_t, aeqB_f, aconv_i, apick_b, cond_true, cond_false, decide_true, decide_false, Bool.not_true, Bool.not_false, aext_t, ofPart_c, ofPart_a, part?_c, part?_a, cells?_c, cells?_a, tupN_2, tupN_3, Option.map_some, Option.some.injEq, List.getElem?_cons_zero, List.getElem?_cons_succ, not_true_eq_false, not_false_eq_true, quiet_same, bytesI_length, Option.join_some, List.append_assoc, List.cons_append, List.nil_append, List.length_append, List.length_cons, List.length_nil, Nat.zero_add, Nat.add_zero, rd_at, rd_at0, set_at, set_at0, List.set_cons_zero, List.set_cons_succ, ne_eq, decide_not, quiet_ext, newOk_some, List.cons_prefix_cons, List.nil_prefix, List.drop_succ_cons, List.drop_zero, List.all_cons, List.all_nil, Bool.and_true, true_and, and_true, aloadN_at, aloadN_at0, aload1_at, aload1_at0, astoreN_at, astoreN_at0, astore1_at, astore1_at0, aslA_at, aslA_at0, ldN_all, ld1_row, stN_all, st1_row, slr_all, Nat.reduceAdd, Nat.reduceMul, Nat.reduceLT, hC, c1, c2] <;> rfl⟩
        · rw [decide_eq_true c1, decide_eq_false c2]
          exact ⟨_, by simp only [afAddr_p, List.append_nil, if_true, if_false, bnd_some, mp_some, cnd_t, cnd_f, gd_no, gd_tt, gd_tf, gd_ft, gd_ff, alenS_s, alen_sl, alen_ns, abin_add, abin_sub, abin_mul, abin_eql, abin_neq, abin_lss, abin_leq, abin_gtr, abin_geq, abin_seql, abin_sneq, abin_slss, aun_not, aun_neg, agn_some, aeqN_nf, aeqN_f, aeqN_np, aeqN_p, anilc_p, aeqB_t, aeqB_f, aconv_i, apick_b, cond_true, cond_false, decide_true, decide_false, Bool.not_true, Bool.not_false, aext_t, ofPart_c, ofPart_a, part?_c, part?_a, cells?_c, cells?_a, tupN_2, tupN_3, Option.map_some, Option.some.injEq, List.getElem?_cons_zero, List.getElem?_cons_succ, not_true_eq_false, not_false_eq_true, quiet_same, bytesI_length, Option.join_some, List.append_assoc, List.cons_append, List.nil_append, List.length_append, List.length_cons, List.length_nil, Nat.zero_add, Nat.add_zero, rd_at, rd_at0, set_at, set_at0, List.set_cons_zero, List.set_cons_succ, ne_eq, decide_not, quiet_ext, newOk_some, List.cons_prefix_cons, List.nil_prefix, List.drop_succ_cons, List.drop_zero, List.all_cons, List.all_nil, Bool.and_true, true_and, and_true, aloadN_at, aloadN_at0, aload1_at, aload1_at0, astoreN_at, astoreN_at0, astore1_at, astore1_at0, aslA_at, aslA_at0, ldN_all, ld1_row, stN_all, st1_row, slr_all, Nat.reduceAdd, Nat.reduceMul, Nat.reduceLT, hC, c1, c2] <;> rfl⟩
      · rw [decide_eq_false c1]
        exact ⟨_, by simp only [afAddr_p, List.append_nil, if_true, if_false, bnd_some, mp_some, cnd_t, cnd_f, gd_no, gd_tt, gd_tf, gd_ft, gd_ff, alenS_s, alen_sl, alen_ns, abin_add, abin_sub, abin_mul, abin_eql, abin_neq, abin_lss, abin_leq, abin_gtr, abin_geq, abin_seql, abin_sneq, abin_slss, aun_not, aun_neg, agn_some, aeqN_nf, aeqN_f, aeqN_np, aeqN_p, anilc_p, aeqB_t, aeqB_f, aconv_i, apick_b, cond_true, cond_false, decide_true, decide_false, Bool.not_true, Bool.not_false, aext_t, ofPart_c, ofPart_a, part?_c, part?_a, cells?_c, cells?_a, tupN_2, tupN_3, Option.map_some, Option.some.injEq, List.getElem?_cons_zero, List.getElem?_cons_succ, not_true_eq_false, not_false_eq_true, quiet_same, bytesI_length, Option.join_some, List.append_assoc, List.cons_append, List.nil_append, List.length_append, List.length_cons, List.length_nil, Nat.zero_add, Nat.add_zero, rd_at, rd_at0, set_at, set_at0, List.set_cons_zero, List.set_cons_succ, ne_eq, decide_not, quiet_ext, newOk_some, List.cons_prefix_cons, List.nil_prefix, List.drop_succ_cons, List.drop_zero, List.all_cons, List.all_nil, Bool.and_true, true_and, and_true, aloadN_at, aloadN_at0, aload1_at, aload1_at0, astoreN_at, astoreN_at0, astore1_at, astore1_at0, aslA_at, aslA_at0, ldN_all, ld1_row, stN_all, st1_row, slr_all, Nat.reduceAdd, Nat.reduceMul, Nat.reduceLT, hC, c1] <;> rfl⟩
  obtain ⟨g', e⟩ := key (ro h)
  exact S_bucket_may_flat e rfl

def entB (s : List UInt8) (n : Int) : List UInt8 := bytesI 2 n ++ packB s ++ [0, 0, 0, 0, 0]
theorem entB_length {s : List UInt8} {n : Int} : (entB s n).length = 32 := by simp [entB, packB_length]

theorem bucket_written_eq {s : List UInt8} {n : Int} {h : Heap} (hs : s.length < 9223372036854775807) : S_bucket_written [.a [.s s, .i .i64 n]] h = some (.c (.sl h.length 0 32 1), h ++ [some ⟨encB (entB s n), true⟩]) := by
  have key : ∀ g, ∃ v g', R_bucket_written 0 [.a [.s s, .i .i64 n]] g = some (v, g') ∧ Out g.length g' v 1 32 (encB (entB s n)) := by
    intro g
    have e4 : abin .shr (.c (.i .i64 n)) (.c (.i .u64 8)) = some (.c (.i .i64 (n / 256))) := abin_shr (by omega)
    have wm : ∀ a : Int, IntKind.wrap .u8 a = a % 256 := fun a => by
      simp only [IntKind.wrap, IntKind.bits, IntKind.signed, Bool.false_and]
      rfl
    have b0 : IntKind.wrap .u8 n = ((byI n 0).toNat : Int) := by rw [wm, byI_int]; simp
    have b1 : IntKind.wrap .u8 (n / 256) = ((byI n 1).toNat : Int) := by rw [wm, byI_int]; simp
    have ef : afill [Cell.i .u8 0, .i .u8 0] [(0, 1, .c (.i .u8 (byI n 0).toNat)), (1, 1, .c (.i .u8 (byI n 1).toNat))] = some (encB (bytesI 2 n)) := rfl
    have ef5 : afill [Cell.i .u8 0, .i .u8 0, .i .u8 0, .i .u8 0, .i .u8 0] [(0, 1, .c (.i .u8 0)), (1, 1, .c (.i .u8 0)), (2, 1, .c (.i .u8 0)), (3, 1, .c (.i .u8 0)), (4, 1, .c (.i .u8 0))] = some (encB [0, 0, 0, 0, 0]) := rfl
    have hP := fun h => pack_eq hs h
    have hpl : (encB (packB s)).length = 25 := by rw [encB_length]; exact packB_length
    have hz : (encB (zeros 25)).length = 25 := by rw [encB_length]; exact zeros_length
    have hA := app_of (h := g ++ [some (Row.mk [.s s, .i .i64 n] true), some (Row.mk [] true), some (Row.mk (encB (bytesI 2 n)) true), some (Row.mk (encB (packB s)) true)]) (id := g.length + 2) (jd := g.length + 3) (n := 2) (m := 25) (sz := 1) (cs := encB (bytesI 2 n)) (ys := encB (packB s)) (rw := true) (by simp) (by simp [encB_length]) (by simp) (by rw [hpl]) rfl (by omega) (by omega)
    simp only [List.length_append, List.length_cons, List.length_nil, Nat.zero_add, List.append_assoc, List.cons_append, List.nil_append, set_at, List.set_cons_succ, List.set_cons_zero, Nat.reduceAdd, ← encB_append] at hA
    have hl27 : (encB (bytesI 2 n ++ packB s)).length = 27 * 1 := by rw [encB_length, List.length_append, bytesI_length, packB_length]
    have hA2 := app_of (h := g ++ [some (Row.mk [.s s, .i .i64 n] true), some (Row.mk [] true), none, some (Row.mk (encB (packB s)) true), some (Row.mk (encB (bytesI 2 n ++ packB s)) true), some (Row.mk (encB [0, 0, 0, 0, 0]) true)]) (id := g.length + 4) (jd := g.length + 5) (n := 27) (m := 5) (sz := 1) (cs := encB (bytesI 2 n ++ packB s)) (ys := encB [0, 0, 0, 0, 0]) (rw := true) (by simp) hl27 (by simp) rfl rfl (by omega) (by omega)
    simp only [List.length_append, List.length_cons, List.length_nil, Nat.zero_add, List.append_assoc, List.cons_append, List.nil_append, set_at, List.set_cons_succ, List.set_cons_zero, Nat.reduceAdd, ← encB_append] at hA2
    rw [← List.append_assoc (bytesI 2 n), show bytesI 2 n ++ packB s ++ [0, 0, 0, 0, 0] = entB s n from rfl] at hA2
    rw [R_bucket_written_eq, zeros_enc]
    refine ⟨.c (.sl (g.length + 6) 0 32 1), g ++ [some (Row.mk [.s s, .i .i64 n] true), some (Row.mk [] true), none, some (Row.mk (encB (packB s)) true), none, some (Row.mk (encB [0, 0, 0, 0, 0]) true), some (Row.mk (encB (entB s n)) true)], ?_, by rw [encB_length, entB_length], g.length + 6, rfl, by omega, ?_⟩
    · generalize entB s n = E at *
      generalize bytesI 2 n ++ packB s = Q at *
      generalize encB [0, 0, 0, 0, 0] = F at *
      generalize encB (packB s) = P at *
      generalize encB (bytesI 2 n) = B2 at *
      generalize zeros 25 = z at *
      simp only [afAddr_p, List.append_nil, if_true, if_false, bnd_some, mp_some, cnd_t, cnd_f, gd_no, gd_tt, gd_tf, gd_ft, gd_ff, alenS_s, alen_sl, alen_ns, abin_add, abin_sub, abin_mul, abin_eql, abin_neq, abin_lss, abin_leq, abin_gtr, abin_geq, abin_seql, abin_sneq, abin_slss, aun_not, aun_neg, agn_some, aeqN_nf, aeqN_f, aeqN_np, aeqN_p, anilc_p, aeqB_t, aeqB_f, aconv_i, apick_b, cond_true, cond_false, decide_true, decide_false, Bool.not_true, Bool.not_false, aext_t, ofPart_c, ofPart_a, part?_c, part?_a, cells?_c, cells?_a, tupN_2, tupN_3, Option.map_some, Option.some.injEq, List.getElem?_cons_zero, List.getElem?_cons_succ, not_true_eq_false, not_false_eq_true, quiet_same, bytesI_length, Option.join_some, List.append_assoc, List.cons_append, List.nil_append, List.length_append, List.length_cons, List.length_nil, Nat.zero_add, Nat.add_zero, rd_at, rd_at0, set_at, set_at0, List.set_cons_zero, List.set_cons_succ, ne_eq, decide_not, quiet_ext, newOk_some, List.cons_prefix_cons, List.nil_prefix, List.drop_succ_cons, List.drop_zero, List.all_cons, List.all_nil, Bool.and_true, true_and, and_true, aloadN_at, aloadN_at0, aload1_at, aload1_at0, astoreN_at, astoreN_at0, astore1_at, astore1_at0, aslA_at, aslA_at0, ldN_all, ld1_row, stN_all, st1_row, slr_all, Nat.reduceAdd, Nat.reduceMul, Nat.reduceLT, b0, e4, b1, ef, hP, hpl, hz, hA, ef5, hA2]
    · simp
  obtain ⟨v, g', e, ho⟩ := key (ro h)
  exact S_bucket_written_out e (by simpa [ro_length] using ho) (by simp)

end Go.Proofs.Ytbbkpmbepljhkaa
