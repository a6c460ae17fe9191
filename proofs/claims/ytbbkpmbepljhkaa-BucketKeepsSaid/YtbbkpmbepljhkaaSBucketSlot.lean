/- The entry of a slot; whether it is empty; the first one that is. -/
import Derived.Test.YtbbkpmbepljhkaaSBucketRead
set_option linter.all false
namespace Go.Proofs.Ytbbkpmbepljhkaa
open Go Go.Esc

theorem entC_flat {o : Option Ent} : flats (entC o) = true := by cases o <;> rfl

theorem bucket_read_eq {b : List UInt8} {k : Nat} {h : Heap} (hb : b.length = 256) (hk : k < 7) : S_bucket_read [.a (encB b), .c (.i .i64 (k : Int))] h = some (.t [.a (entC (readE b k)), .c (.b (readE b k).isSome)], h) := by
  have key : ∀ N, 25 < N → ∀ g, ∃ g', R_bucket_read N [.a (encB b), .c (.i .i64 (k : Int))] g = some (.t [.a (entC (readE b k)), .c (.b (readE b k).isSome)], g') := by
    intro N hN g
    obtain ⟨h', e⟩ := read_loop (g := g) (q := N) hb hk 25 0 N (by omega) hN
    have e0 : cpN (nameB b k) 0 = zeros 25 := by simp [cpN]
    rw [e0] at e
    rw [R_bucket_read_eq, zeros_enc]
    generalize zeros 25 = z at *
    generalize encB b = y at *
    exact ⟨h', by simp only [afAddr_p, List.append_nil, if_true, if_false, bnd_some, mp_some, cnd_t, cnd_f, gd_no, gd_tt, gd_tf, gd_ft, gd_ff, alenS_s, alen_sl, alen_ns, abin_add, abin_sub, abin_mul, abin_eql, abin_neq, abin_lss, abin_leq, abin_gtr, abin_geq, abin_seql, abin_sneq, abin_slss, aun_not, aun_neg, agn_some, aeqN_nf, aeqN_f, aeqN_np, aeqN_p, anilc_p, aeqB_t, aeqB_f, aconv_i, apick_b, cond_true, cond_false, decide_true, decide_false, Bool.not_true, Bool.not_false, aext_t, ofPart_c, ofPart_a, part?_c, part?_a, cells?_c, cells?_a, tupN_2, tupN_3, Option.map_some, Option.some.injEq, List.getElem?_cons_zero, List.getElem?_cons_succ, not_true_eq_false, not_false_eq_true, quiet_same, bytesI_length, Option.join_some, List.append_assoc, List.cons_append, List.nil_append, List.length_append, List.length_cons, List.length_nil, Nat.zero_add, Nat.add_zero, rd_at, rd_at0, set_at, set_at0, List.set_cons_zero, List.set_cons_succ, ne_eq, decide_not, quiet_ext, newOk_some, List.cons_prefix_cons, List.nil_prefix, List.drop_succ_cons, List.drop_zero, List.all_cons, List.all_nil, Bool.and_true, true_and, and_true, aloadN_at, aloadN_at0, aload1_at, aload1_at0, astoreN_at, astoreN_at0, astore1_at, astore1_at0, aslA_at, aslA_at0, ldN_all, ld1_row, stN_all, st1_row, slr_all, Nat.reduceAdd, Nat.reduceMul, Nat.reduceLT]; exact e⟩
  obtain ⟨g', e⟩ := key (h.length + 26) (by omega) (ro h)
  exact S_bucket_read_flat e (by simp [Val.flat, entC_flat, Cell.flat])

def emptyB (b : List UInt8) (k : Nat) : Bool := decide (slotB b k = zeros 32)

theorem bucket_empty_eq {b : List UInt8} {k : Nat} {h : Heap} (hb : b.length = 256) (hk : k < 7) : S_bucket_empty [.a (encB b), .c (.i .i64 (k : Int))] h = some (.c (.b (emptyB b k)), h) := by
  have key : ∀ g, ∃ g', R_bucket_empty 0 [.a (encB b), .c (.i .i64 (k : Int))] g = some (.c (.b (emptyB b k)), g') := by
    intro g
    have hbl : (encB b).length = 256 := by rw [encB_length, hb]
    have hF := fun h => bucket_first_eq (h := h) hk
    have hsl := slotB_length hb hk
    have hC := fun h => num_Cut_eq (h := h) hb (a := (slotA k : Nat)) (n := 32)
    rw [cut_slot, hsl] at hC
    have s1 := fun (c0 c1 : Option Row) => Has.str (l := slotB b k) (Has.row (h := g ++ [c0, c1, some (Row.mk (encB (slotB b k)) true)]) (id := g.length + 2) (sz := 1) (n := 32) (rw := true) (by simp) (by rw [encB_length, hsl]) (noX_encB _))
    have s2 : ∀ c0 c1 : Option Row, ab2sN (g ++ [c0, some (Row.mk (encB (zeros 32)) true), c1]) (g.length + 1) (some 0) (.c (.sl (g.length + 1) 0 32 1)) = some (.c (.s (zeros 32))) := by
      intro c0 c1
      simp only [ab2sN, Nat.add_zero, if_true]
      exact Has.str (l := zeros 32) (Has.row (id := g.length + 1) (sz := 1) (n := 32) (rw := true) (by simp) (by rw [encB_length, zeros_length]) (noX_encB _))
    have hn : amkn (.c (.i .i64 32)) (.c (.i .i64 32)) = some 32 := rfl
    have rz := rows_zero 32
    rw [R_bucket_empty_eq]
    unfold emptyB
    generalize slotB b k = L at *
    generalize zeros 32 = z at *
    generalize encB b = y at *
    exact ⟨_, by simp only [afAddr_p, List.append_nil, if_true, if_false, bnd_some, mp_some, cnd_t, cnd_f, gd_no, gd_tt, gd_tf, gd_ft, gd_ff, alenS_s, alen_sl, alen_ns, abin_add, abin_sub, abin_mul, abin_eql, abin_neq, abin_lss, abin_leq, abin_gtr, abin_geq, abin_seql, abin_sneq, abin_slss, aun_not, aun_neg, agn_some, aeqN_nf, aeqN_f, aeqN_np, aeqN_p, anilc_p, aeqB_t, aeqB_f, aconv_i, apick_b, cond_true, cond_false, decide_true, decide_false, Bool.not_true, Bool.not_false, aext_t, ofPart_c, ofPart_a, part?_c, part?_a, cells?_c, cells?_a, tupN_2, tupN_3, Option.map_some, Option.some.injEq, List.getElem?_cons_zero, List.getElem?_cons_succ, not_true_eq_false, not_false_eq_true, quiet_same, bytesI_length, Option.join_some, List.append_assoc, List.cons_append, List.nil_append, List.length_append, List.length_cons, List.length_nil, Nat.zero_add, Nat.add_zero, rd_at, rd_at0, set_at, set_at0, List.set_cons_zero, List.set_cons_succ, ne_eq, decide_not, quiet_ext, newOk_some, List.cons_prefix_cons, List.nil_prefix, List.drop_succ_cons, List.drop_zero, List.all_cons, List.all_nil, Bool.and_true, true_and, and_true, aloadN_at, aloadN_at0, aload1_at, aload1_at0, astoreN_at, astoreN_at0, astore1_at, astore1_at0, aslA_at, aslA_at0, ldN_all, ld1_row, stN_all, st1_row, slr_all, Nat.reduceAdd, Nat.reduceMul, Nat.reduceLT, hbl, hF, hC, quiet2, s1, hn, rz, s2] <;> rfl⟩
  obtain ⟨g', e⟩ := key (ro h)
  exact S_bucket_empty_flat e rfl

/-- The first empty slot from one on. -/
def roomFrom (b : List UInt8) : Nat → Nat → Option Nat
  | 0, _ => none
  | e + 1, i => bif emptyB b i then some i else roomFrom b e (i + 1)
def roomX (b : List UInt8) : Option Nat := roomFrom b 7 0

theorem room_loop {b : List UInt8} {q : Nat} {g : Heap} (hb : b.length = 256) : ∀ e i m : Nat, i + e = 7 → e < m →
    bucket_Room_l0 q m (.c (.p g.length 0)) (.c (.i .i64 (i : Int))) (g ++ [some (Row.mk (encB b) true)]) = some (.t [.c (.i .i64 (((roomFrom b e i).getD 0 : Nat) : Int)), .c (.b (roomFrom b e i).isSome)], g ++ [some (Row.mk (encB b) true)])
  | e, i, 0, _, hm => by omega
  | 0, i, m + 1, hi, hm => by
    have e0 : i = 7 := by omega
    subst e0
    have c0 : ¬ ((7 : Nat) : Int) < 7 := by omega
    rw [bucket_Room_l0_eq]
    generalize encB b = y at *
    simp only [afAddr_p, List.append_nil, if_true, if_false, bnd_some, mp_some, cnd_t, cnd_f, gd_no, gd_tt, gd_tf, gd_ft, gd_ff, alenS_s, alen_sl, alen_ns, abin_add, abin_sub, abin_mul, abin_eql, abin_neq, abin_lss, abin_leq, abin_gtr, abin_geq, abin_seql, abin_sneq, abin_slss, aun_not, aun_neg, agn_some, aeqN_nf, aeqN_f, aeqN_np, aeqN_p, anilc_p, aeqB_t, aeqB_f, aconv_i, apick_b, cond_true, cond_false, decide_true, decide_false, Bool.not_true, Bool.not_false, aext_t, ofPart_c, ofPart_a, part?_c, part?_a, cells?_c, cells?_a, tupN_2, tupN_3, Option.map_some, Option.some.injEq, List.getElem?_cons_zero, List.getElem?_cons_succ, not_true_eq_false, not_false_eq_true, quiet_same, bytesI_length, Option.join_some, List.append_assoc, List.cons_append, List.nil_append, List.length_append, List.length_cons, List.length_nil, Nat.zero_add, Nat.add_zero, rd_at, rd_at0, set_at, set_at0, List.set_cons_zero, List.set_cons_succ, ne_eq, decide_not, quiet_ext, newOk_some, List.cons_prefix_cons, List.nil_prefix, List.drop_succ_cons, List.drop_zero, List.all_cons, List.all_nil, Bool.and_true, true_and, and_true, aloadN_at, aloadN_at0, aload1_at, aload1_at0, astoreN_at, astoreN_at0, astore1_at, astore1_at0, aslA_at, aslA_at0, ldN_all, ld1_row, stN_all, st1_row, slr_all, Nat.reduceAdd, Nat.reduceMul, Nat.reduceLT, c0] <;> rfl
  | e + 1, i, m + 1, hi, hm => by
    have ih := room_loop (q := q) (g := g) hb e (i + 1) m (by omega) (by omega)
    have c0 : (i : Int) < 7 := by omega
    have hbl : (encB b).length = 256 := by rw [encB_length, hb]
    have hE := fun h => bucket_empty_eq (k := i) (h := h) hb (by omega)
    rw [bucket_Room_l0_eq, roomFrom]
    cases c : emptyB b i with
    | true =>
      rw [c] at hE
      generalize encB b = y at *
      simp only [afAddr_p, List.append_nil, if_true, if_false, bnd_some, mp_some, cnd_t, cnd_f, gd_no, gd_tt, gd_tf, gd_ft, gd_ff, alenS_s, alen_sl, alen_ns, abin_add, abin_sub, abin_mul, abin_eql, abin_neq, abin_lss, abin_leq, abin_gtr, abin_geq, abin_seql, abin_sneq, abin_slss, aun_not, aun_neg, agn_some, aeqN_nf, aeqN_f, aeqN_np, aeqN_p, anilc_p, aeqB_t, aeqB_f, aconv_i, apick_b, cond_true, cond_false, decide_true, decide_false, Bool.not_true, Bool.not_false, aext_t, ofPart_c, ofPart_a, part?_c, part?_a, cells?_c, cells?_a, tupN_2, tupN_3, Option.map_some, Option.some.injEq, List.getElem?_cons_zero, List.getElem?_cons_succ, not_true_eq_false, not_false_eq_true, quiet_same, bytesI_length, Option.join_some, List.append_assoc, List.cons_append, List.nil_append, List.length_append, List.length_cons, List.length_nil, Nat.zero_add, Nat.add_zero, rd_at, rd_at0, set_at, set_at0, List.set_cons_zero, List.set_cons_succ, ne_eq, decide_not, quiet_ext, newOk_some, List.cons_prefix_cons, List.nil_prefix, List.drop_succ_cons, List.drop_zero, List.all_cons, List.all_nil, Bool.and_true, true_and, and_true, aloadN_at, aloadN_at0, aload1_at, aload1_at0, astoreN_at, astoreN_at0, astore1_at, astore1_at0, aslA_at, aslA_at0, ldN_all, ld1_row, stN_all, st1_row, slr_all, Nat.reduceAdd, Nat.reduceMul, Nat.reduceLT, c0, hbl, hE] <;> rfl
    | false =>
      rw [c] at hE
      rw [cond_false]
      generalize encB b = y at *
      simp only [afAddr_p, List.append_nil, if_true, if_false, bnd_some, mp_some, cnd_t, cnd_f, gd_no, gd_tt, gd_tf, gd_ft, gd_ff, alenS_s, alen_sl, alen_ns, abin_add, abin_sub, abin_mul, abin_eql, abin_neq, abin_lss, abin_leq, abin_gtr, abin_geq, abin_seql, abin_sneq, abin_slss, aun_not, aun_neg, agn_some, aeqN_nf, aeqN_f, aeqN_np, aeqN_p, anilc_p, aeqB_t, aeqB_f, aconv_i, apick_b, cond_true, cond_false, decide_true, decide_false, Bool.not_true, Bool.not_false, aext_t, ofPart_c, ofPart_a, part?_c, part?_a, cells?_c, cells?_a, tupN_2, tupN_3, Option.map_some, Option.some.injEq, List.getElem?_cons_zero, List.getElem?_cons_succ, not_true_eq_false, not_false_eq_true, quiet_same, bytesI_length, Option.join_some, List.append_assoc, List.cons_append, List.nil_append, List.length_append, List.length_cons, List.length_nil, Nat.zero_add, Nat.add_zero, rd_at, rd_at0, set_at, set_at0, List.set_cons_zero, List.set_cons_succ, ne_eq, decide_not, quiet_ext, newOk_some, List.cons_prefix_cons, List.nil_prefix, List.drop_succ_cons, List.drop_zero, List.all_cons, List.all_nil, Bool.and_true, true_and, and_true, aloadN_at, aloadN_at0, aload1_at, aload1_at0, astoreN_at, astoreN_at0, astore1_at, astore1_at0, aslA_at, aslA_at0, ldN_all, ld1_row, stN_all, st1_row, slr_all, Nat.reduceAdd, Nat.reduceMul, Nat.reduceLT, c0, hbl, hE, wi_succ (show i + 1 < 9223372036854775808 by omega)]
      exact ih

theorem bucket_Room_eq {b : List UInt8} {h : Heap} (hb : b.length = 256) : S_bucket_Room [.a (encB b)] h = some (.t [.c (.i .i64 (((roomX b).getD 0 : Nat) : Int)), .c (.b (roomX b).isSome)], h) := by
  have e := room_loop (b := b) (q := 8) (g := ro h) hb 7 0 8 (by omega) (by omega)
  refine S_bucket_Room_flat (n := 8) (h2 := ro h ++ [some (Row.mk (encB b) true)]) ?_ rfl
  rw [R_bucket_Room_eq]
  exact e

end Go.Proofs.Ytbbkpmbepljhkaa
