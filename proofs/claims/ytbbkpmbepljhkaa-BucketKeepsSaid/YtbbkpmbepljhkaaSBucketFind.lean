/- The slot of a name. -/
import Derived.Test.YtbbkpmbepljhkaaSBucketSlot
set_option linter.all false
namespace Go.Proofs.Ytbbkpmbepljhkaa
open Go Go.Esc

abbrev Slt := Nat × Ent
def slC : Option Slt → List Cell
  | none => [.i .i64 0, .s [], .i .i64 0]
  | some x => [.i .i64 (x.1 : Int), .s x.2.1, .i .i64 x.2.2]
theorem slC_length {o : Option Slt} : (slC o).length = 3 := by cases o <;> rfl
theorem slC_flat {o : Option Slt} : flats (slC o) = true := by cases o <;> rfl

/-- The first slot from one on that has the name. -/
def findFrom (b nm : List UInt8) : Nat → Nat → Option Slt
  | 0, _ => none
  | e + 1, k => match readE b k with
    | some x => if x.1 = nm then some (k, x) else findFrom b nm e (k + 1)
    | none => findFrom b nm e (k + 1)
theorem findFrom_none {b nm : List UInt8} {e k : Nat} (hx : readE b k = none) : findFrom b nm (e + 1) k = findFrom b nm e (k + 1) := by rw [findFrom, hx]
theorem findFrom_hit {b nm : List UInt8} {e k : Nat} {n : Int} (hx : readE b k = some (nm, n)) : findFrom b nm (e + 1) k = some (k, (nm, n)) := by rw [findFrom, hx]; simp
theorem findFrom_miss {b nm s : List UInt8} {e k : Nat} {n : Int} (hx : readE b k = some (s, n)) (hne : s ≠ nm) : findFrom b nm (e + 1) k = findFrom b nm e (k + 1) := by rw [findFrom, hx]; simp [hne]
def findX (b nm : List UInt8) : Option Slt := findFrom b nm 7 0

theorem find1_no {k n : Int} {s nm : List UInt8} {r1 r2 r3 : Nat} {h : Heap} (h1 : rd h r1 = some ⟨[.s nm], true⟩) (h3 : rd h r3 = some ⟨[.b false], true⟩) (hne : s ≠ nm) :
    S_bucket_Find_1 [.a [.i .i64 k, .s s, .i .i64 n], .c (.p r1 0), .c (.p r2 0), .c (.p r3 0)] h = some (.c (.b true), h ++ [some ⟨[.i .i64 k, .s s, .i .i64 n], true⟩]) := by
  refine S_bucket_Find_1_of (n := 0) ?_
  have l1 : aload1 (h ++ [some (Row.mk [.i .i64 k, .s s, .i .i64 n] true)]) (.c (.p r1 0)) = some (.c (.s nm)) := load1_of (cs := [.s nm]) (rd_append h1) rfl rfl
  have l3 : aload1 (h ++ [some (Row.mk [.i .i64 k, .s s, .i .i64 n] true)]) (.c (.p r3 0)) = some (.c (.b false)) := load1_of (cs := [.b false]) (rd_append h3) rfl rfl
  rw [R_bucket_Find_1_eq]
  simp only [afAddr_p, List.append_nil, if_true, if_false, bnd_some, mp_some, cnd_t, cnd_f, gd_no, gd_tt, gd_tf, gd_ft, gd_ff, alenS_s, alen_sl, alen_ns, abin_add, abin_sub, abin_mul, abin_eql, abin_neq, abin_lss, abin_leq, abin_gtr, abin_geq, abin_seql, abin_sneq, abin_slss, aun_not, aun_neg, agn_some, aeqN_nf, aeqN_f, aeqN_np, aeqN_p, anilc_p, aeqB_t, aeqB_f, aconv_i, apick_b, cond_true, cond_false, decide_true, decide_false, Bool.not_true, Bool.not_false, aext_t, ofPart_c, ofPart_a, part?_c, part?_a, cells?_c, cells?_a, tupN_2, tupN_3, Option.map_some, Option.some.injEq, List.getElem?_cons_zero, List.getElem?_cons_succ, not_true_eq_false, not_false_eq_true, quiet_same, bytesI_length, Option.join_some, List.append_assoc, List.cons_append, List.nil_append, List.length_append, List.length_cons, List.length_nil, Nat.zero_add, Nat.add_zero, rd_at, rd_at0, set_at, set_at0, List.set_cons_zero, List.set_cons_succ, ne_eq, decide_not, quiet_ext, newOk_some, List.cons_prefix_cons, List.nil_prefix, List.drop_succ_cons, List.drop_zero, List.all_cons, List.all_nil, Bool.and_true, true_and, and_true, aloadN_at, aloadN_at0, aload1_at, aload1_at0, astoreN_at, astoreN_at0, astore1_at, astore1_at0, aslA_at, aslA_at0, ldN_all, ld1_row, stN_all, st1_row, slr_all, Nat.reduceAdd, Nat.reduceMul, Nat.reduceLT, l1, hne, bucket_Find_1_j0_eq, l3] <;> rfl

theorem find1_yes {k n : Int} {nm : List UInt8} {c2 : List Cell} {r1 r2 r3 : Nat} {h : Heap} (h1 : rd h r1 = some ⟨[.s nm], true⟩) (h2 : rd h r2 = some ⟨c2, true⟩) (hl : c2.length = 3) (h3 : rd h r3 = some ⟨[.b false], true⟩) (h23 : r2 ≠ r3) :
    S_bucket_Find_1 [.a [.i .i64 k, .s nm, .i .i64 n], .c (.p r1 0), .c (.p r2 0), .c (.p r3 0)] h = some (.c (.b false), ((h ++ [some (Row.mk [.i .i64 k, .s nm, .i .i64 n] true)]).set r2 (some (Row.mk [.i .i64 k, .s nm, .i .i64 n] true))).set r3 (some (Row.mk [.b true] true))) := by
  refine S_bucket_Find_1_of (n := 0) ?_
  have l1 : aload1 (h ++ [some (Row.mk [.i .i64 k, .s nm, .i .i64 n] true)]) (.c (.p r1 0)) = some (.c (.s nm)) := load1_of (cs := [.s nm]) (rd_append h1) rfl rfl
  have s2 := storeAll (h := h ++ [some (Row.mk [.i .i64 k, .s nm, .i .i64 n] true)]) (id := r2) (n := 3) (xs := [.i .i64 k, .s nm, .i .i64 n]) (rd_append h2) hl rfl
  have h3' : rd ((h ++ [some (Row.mk [.i .i64 k, .s nm, .i .i64 n] true)]).set r2 (some (Row.mk [.i .i64 k, .s nm, .i .i64 n] true))) r3 = some ⟨[.b false], true⟩ := by rw [rd_set_other h23]; exact rd_append h3
  have s3 := store1_of (x := .b true) (off := 0) h3' (by simp)
  have l4 : aload1 (((h ++ [some (Row.mk [.i .i64 k, .s nm, .i .i64 n] true)]).set r2 (some (Row.mk [.i .i64 k, .s nm, .i .i64 n] true))).set r3 (some (Row.mk [.b true] true))) (.c (.p r3 0)) = some (.c (.b true)) := load1_of (cs := [.b true]) (rd_set_same (by simpa using rd_lt h3')) rfl rfl
  rw [R_bucket_Find_1_eq]
  have s3 : astore1 ((h ++ [some (Row.mk [.i .i64 k, .s nm, .i .i64 n] true)]).set r2 (some (Row.mk [.i .i64 k, .s nm, .i .i64 n] true))) (.c (.p r3 0)) (.c (.b true)) = some (((h ++ [some (Row.mk [.i .i64 k, .s nm, .i .i64 n] true)]).set r2 (some (Row.mk [.i .i64 k, .s nm, .i .i64 n] true))).set r3 (some (Row.mk [.b true] true))) := s3
  simp only [afAddr_p, List.append_nil, if_true, if_false, bnd_some, mp_some, cnd_t, cnd_f, gd_no, gd_tt, gd_tf, gd_ft, gd_ff, alenS_s, alen_sl, alen_ns, abin_add, abin_sub, abin_mul, abin_eql, abin_neq, abin_lss, abin_leq, abin_gtr, abin_geq, abin_seql, abin_sneq, abin_slss, aun_not, aun_neg, agn_some, aeqN_nf, aeqN_f, aeqN_np, aeqN_p, anilc_p, aeqB_t, aeqB_f, aconv_i, apick_b, cond_true, cond_false, decide_true, decide_false, Bool.not_true, Bool.not_false, aext_t, ofPart_c, ofPart_a, part?_c, part?_a, cells?_c, cells?_a, tupN_2, tupN_3, Option.map_some, Option.some.injEq, List.getElem?_cons_zero, List.getElem?_cons_succ, not_true_eq_false, not_false_eq_true, quiet_same, bytesI_length, Option.join_some, List.append_assoc, List.cons_append, List.nil_append, List.length_append, List.length_cons, List.length_nil, Nat.zero_add, Nat.add_zero, rd_at, rd_at0, set_at, set_at0, List.set_cons_zero, List.set_cons_succ, ne_eq, decide_not, quiet_ext, newOk_some, List.cons_prefix_cons, List.nil_prefix, List.drop_succ_cons, List.drop_zero, List.all_cons, List.all_nil, Bool.and_true, true_and, and_true, aloadN_at, aloadN_at0, aload1_at, aload1_at0, astoreN_at, astoreN_at0, astore1_at, astore1_at0, aslA_at, aslA_at0, ldN_all, ld1_row, stN_all, st1_row, slr_all, Nat.reduceAdd, Nat.reduceMul, Nat.reduceLT, l1, s2, s3, bucket_Find_1_j0_eq, l4] <;> rfl

theorem each_find {b nm : List UInt8} {r0 r1 r2 r3 q : Nat} {B : Heap} (hb : b.length = 256) (hB1 : rd B r1 = some ⟨[.s nm], true⟩) (hr2 : B.length ≤ r2) (hr3 : B.length ≤ r3) (h23 : r2 ≠ r3) (h02 : r0 ≠ r2) (h03 : r0 ≠ r3) : ∀ (e k m : Nat) (h : Heap), k + e = 7 → e < m → Low B.length B h →
    rd h r2 = some ⟨slC none, true⟩ → rd h r3 = some ⟨[.b false], true⟩ → rd h r0 = some ⟨encB b, true⟩ →
    ∃ h', bucket_each__Find_1_l0 q m (.c (.f 200 [(r1, 0), (r2, 0), (r3, 0)])) (.c (.p r0 0)) (.c (.i .i64 (k : Int))) h = some (.t [], h') ∧ Low B.length B h' ∧ rd h' r2 = some ⟨slC (findFrom b nm e k), true⟩ ∧ rd h' r3 = some ⟨[.b (findFrom b nm e k).isSome], true⟩
  | e, k, 0, h, _, hm, _, _, _, _ => by omega
  | 0, k, m + 1, h, hk, hm, hlow, h2, h3, h0 => by
    have e0 : k = 7 := by omega
    subst e0
    have c0 : ¬ ((7 : Nat) : Int) < 7 := by omega
    refine ⟨h, ?_, hlow, h2, h3⟩
    rw [bucket_each__Find_1_l0_eq]
    simp only [afAddr_p, List.append_nil, if_true, if_false, bnd_some, mp_some, cnd_t, cnd_f, gd_no, gd_tt, gd_tf, gd_ft, gd_ff, alenS_s, alen_sl, alen_ns, abin_add, abin_sub, abin_mul, abin_eql, abin_neq, abin_lss, abin_leq, abin_gtr, abin_geq, abin_seql, abin_sneq, abin_slss, aun_not, aun_neg, agn_some, aeqN_nf, aeqN_f, aeqN_np, aeqN_p, anilc_p, aeqB_t, aeqB_f, aconv_i, apick_b, cond_true, cond_false, decide_true, decide_false, Bool.not_true, Bool.not_false, aext_t, ofPart_c, ofPart_a, part?_c, part?_a, cells?_c, cells?_a, tupN_2, tupN_3, Option.map_some, Option.some.injEq, List.getElem?_cons_zero, List.getElem?_cons_succ, not_true_eq_false, not_false_eq_true, quiet_same, bytesI_length, Option.join_some, List.append_assoc, List.cons_append, List.nil_append, List.length_append, List.length_cons, List.length_nil, Nat.zero_add, Nat.add_zero, rd_at, rd_at0, set_at, set_at0, List.set_cons_zero, List.set_cons_succ, ne_eq, decide_not, quiet_ext, newOk_some, List.cons_prefix_cons, List.nil_prefix, List.drop_succ_cons, List.drop_zero, List.all_cons, List.all_nil, Bool.and_true, true_and, and_true, c0] <;> rfl
  | e + 1, k, m + 1, h, hk, hm, hlow, h2, h3, h0 => by
    have c0 : (k : Int) < 7 := by omega
    have hbl : (encB b).length = 256 := by rw [encB_length, hb]
    have s1 := loadAll (h := h) (id := r0) h0 hbl
    have hR := bucket_read_eq (h := h) (k := k) hb (by omega)
    have w1 := wi_succ (show k + 1 < 9223372036854775808 by omega)
    have hcv : ∀ (x : Val) (h : Heap), callv E_bucket_each__Find_1 (.c (.f 200 [(r1, 0), (r2, 0), (r3, 0)])) [x] h = S_bucket_Find_1 [x, .c (.p r1 0), .c (.p r2 0), .c (.p r3 0)] h := fun _ _ => Eq.trans rfl rfl
    rw [bucket_each__Find_1_l0_eq]
    cases hx : readE b k with
    | none =>
      rw [hx] at hR
      rw [findFrom_none hx]
      obtain ⟨h', f1, f2⟩ := each_find (q := q) hb hB1 hr2 hr3 h23 h02 h03 e (k + 1) m (h ++ [some ⟨[.s [], .i .i64 0], true⟩]) (by omega) (by omega) (hlow.new _) (rd_append h2) (rd_append h3) (rd_append h0)
      refine ⟨h', ?_, f2⟩
      generalize encB b = y at *
      simp only [afAddr_p, List.append_nil, if_true, if_false, bnd_some, mp_some, cnd_t, cnd_f, gd_no, gd_tt, gd_tf, gd_ft, gd_ff, alenS_s, alen_sl, alen_ns, abin_add, abin_sub, abin_mul, abin_eql, abin_neq, abin_lss, abin_leq, abin_gtr, abin_geq, abin_seql, abin_sneq, abin_slss, aun_not, aun_neg, agn_some, aeqN_nf, aeqN_f, aeqN_np, aeqN_p, anilc_p, aeqB_t, aeqB_f, aconv_i, apick_b, cond_true, cond_false, decide_true, decide_false, Bool.not_true, Bool.not_false, aext_t, ofPart_c, ofPart_a, part?_c, part?_a, cells?_c, cells?_a, tupN_2, tupN_3, Option.map_some, Option.some.injEq, List.getElem?_cons_zero, List.getElem?_cons_succ, not_true_eq_false, not_false_eq_true, quiet_same, bytesI_length, Option.join_some, List.append_assoc, List.cons_append, List.nil_append, List.length_append, List.length_cons, List.length_nil, Nat.zero_add, Nat.add_zero, rd_at, rd_at0, set_at, set_at0, List.set_cons_zero, List.set_cons_succ, ne_eq, decide_not, quiet_ext, newOk_some, List.cons_prefix_cons, List.nil_prefix, List.drop_succ_cons, List.drop_zero, List.all_cons, List.all_nil, Bool.and_true, true_and, and_true, aloadN_at, aloadN_at0, aload1_at, aload1_at0, astoreN_at, astoreN_at0, astore1_at, astore1_at0, aslA_at, aslA_at0, ldN_all, ld1_row, stN_all, st1_row, slr_all, Nat.reduceAdd, Nat.reduceMul, Nat.reduceLT, c0, s1, hR, entC, Option.isSome_none, w1]
      exact f1
    | some x =>
      obtain ⟨s, n⟩ := x
      rw [hx] at hR
      have ef : afill [Cell.i .i64 0, .s [], .i .i64 0] [(0, 1, .c (.i .i64 (k : Int))), (1, 2, .a [.s s, .i .i64 n])] = some [.i .i64 (k : Int), .s s, .i .i64 n] := rfl
      have h1' : rd (h ++ [some (Row.mk [.s s, .i .i64 n] true)]) r1 = some ⟨[.s nm], true⟩ := rd_append (hlow.rd hB1)
      by_cases ce : s = nm
      · subst ce
        have hF := find1_yes (k := (k : Int)) (n := n) h1' (rd_append h2) slC_length (rd_append h3) h23
        simp only [List.append_assoc, List.cons_append, List.nil_append] at hF
        rw [findFrom_hit hx]
        refine ⟨((h ++ [some (Row.mk [.s s, .i .i64 n] true), some (Row.mk [.i .i64 (k : Int), .s s, .i .i64 n] true)]).set r2 (some (Row.mk [.i .i64 (k : Int), .s s, .i .i64 n] true))).set r3 (some (Row.mk [.b true] true)), ?_, ((hlow.new [some (Row.mk [.s s, .i .i64 n] true), some (Row.mk [.i .i64 (k : Int), .s s, .i .i64 n] true)]).set hr2 _).set hr3 _, ?_, ?_⟩
        · generalize encB b = y at *
          simp only [afAddr_p, List.append_nil, if_true, if_false, bnd_some, mp_some, cnd_t, cnd_f, gd_no, gd_tt, gd_tf, gd_ft, gd_ff, alenS_s, alen_sl, alen_ns, abin_add, abin_sub, abin_mul, abin_eql, abin_neq, abin_lss, abin_leq, abin_gtr, abin_geq, abin_seql, abin_sneq, abin_slss, aun_not, aun_neg, agn_some, aeqN_nf, aeqN_f, aeqN_np, aeqN_p, anilc_p, aeqB_t, aeqB_f, aconv_i, apick_b, cond_true, cond_false, decide_true, decide_false, Bool.not_true, Bool.not_false, aext_t, ofPart_c, ofPart_a, part?_c, part?_a, cells?_c, cells?_a, tupN_2, tupN_3, Option.map_some, Option.some.injEq, List.getElem?_cons_zero, List.getElem?_cons_succ, not_true_eq_false, not_false_eq_true, quiet_same, bytesI_length, Option.join_some, List.append_assoc, List.cons_append, List.nil_append, List.length_append, List.length_cons, List.length_nil, Nat.zero_add, Nat.add_zero, rd_at, rd_at0, set_at, set_at0, List.set_cons_zero, List.set_cons_succ, ne_eq, decide_not, quiet_ext, newOk_some, List.cons_prefix_cons, List.nil_prefix, List.drop_succ_cons, List.drop_zero, List.all_cons, List.all_nil, Bool.and_true, true_and, and_true, aloadN_at, aloadN_at0, aload1_at, aload1_at0, astoreN_at, astoreN_at0, astore1_at, astore1_at0, aslA_at, aslA_at0, ldN_all, ld1_row, stN_all, st1_row, slr_all, Nat.reduceAdd, Nat.reduceMul, Nat.reduceLT, c0, s1, hR, entC, Option.isSome_some, ef, hcv, hF] <;> rfl
        · rw [rd_set_other (Ne.symm h23)]
          exact rd_set_same (rd_lt (rd_append h2))
        · exact rd_set_same (by rw [List.length_set]; exact rd_lt (rd_append h3))
      · have hF := find1_no (k := (k : Int)) (n := n) (r2 := r2) h1' (rd_append h3) ce
        simp only [List.append_assoc, List.cons_append, List.nil_append] at hF
        rw [findFrom_miss hx ce]
        obtain ⟨h', f1, f2⟩ := each_find (q := q) hb hB1 hr2 hr3 h23 h02 h03 e (k + 1) m (h ++ [some (Row.mk [.s s, .i .i64 n] true), some (Row.mk [.i .i64 (k : Int), .s s, .i .i64 n] true)]) (by omega) (by omega) (hlow.new _) (rd_append h2) (rd_append h3) (rd_append h0)
        refine ⟨h', ?_, f2⟩
        generalize encB b = y at *
        simp only [afAddr_p, List.append_nil, if_true, if_false, bnd_some, mp_some, cnd_t, cnd_f, gd_no, gd_tt, gd_tf, gd_ft, gd_ff, alenS_s, alen_sl, alen_ns, abin_add, abin_sub, abin_mul, abin_eql, abin_neq, abin_lss, abin_leq, abin_gtr, abin_geq, abin_seql, abin_sneq, abin_slss, aun_not, aun_neg, agn_some, aeqN_nf, aeqN_f, aeqN_np, aeqN_p, anilc_p, aeqB_t, aeqB_f, aconv_i, apick_b, cond_true, cond_false, decide_true, decide_false, Bool.not_true, Bool.not_false, aext_t, ofPart_c, ofPart_a, part?_c, part?_a, cells?_c, cells?_a, tupN_2, tupN_3, Option.map_some, Option.some.injEq, List.getElem?_cons_zero, List.getElem?_cons_succ, not_true_eq_false, not_false_eq_true, quiet_same, bytesI_length, Option.join_some, List.append_assoc, List.cons_append, List.nil_append, List.length_append, List.length_cons, List.length_nil, Nat.zero_add, Nat.add_zero, rd_at, rd_at0, set_at, set_at0, List.set_cons_zero, List.set_cons_succ, ne_eq, decide_not, quiet_ext, newOk_some, List.cons_prefix_cons, List.nil_prefix, List.drop_succ_cons, List.drop_zero, List.all_cons, List.all_nil, Bool.and_true, true_and, and_true, aloadN_at, aloadN_at0, aload1_at, aload1_at0, astoreN_at, astoreN_at0, astore1_at, astore1_at0, aslA_at, aslA_at0, ldN_all, ld1_row, stN_all, st1_row, slr_all, Nat.reduceAdd, Nat.reduceMul, Nat.reduceLT, c0, s1, hR, entC, Option.isSome_some, ef, hcv, hF, w1]
        exact f1

theorem bucket_Find_eq {b nm : List UInt8} {h : Heap} (hb : b.length = 256) : S_bucket_Find [.a (encB b), .c (.s nm)] h = some (.t [.a (slC (findX b nm)), .c (.b (findX b nm).isSome)], h) := by
  have key : ∀ g, ∃ g', R_bucket_Find 0 [.a (encB b), .c (.s nm)] g = some (.t [.a (slC (findX b nm)), .c (.b (findX b nm).isSome)], g') := by
    intro g
    have hbl : (encB b).length = 256 := by rw [encB_length, hb]
    have emk : amkf 200 [.c (.p (g.length + 1) 0), .c (.p (g.length + 3) 0), .c (.p (g.length + 4) 0)] = some (.c (.f 200 [(g.length + 1, 0), (g.length + 3, 0), (g.length + 4, 0)])) := rfl
    obtain ⟨h', f1, f2, f3, f4⟩ := each_find (b := b) (nm := nm) (r0 := g.length + 5) (r1 := g.length + 1) (r2 := g.length + 3) (r3 := g.length + 4) (q := 8) (B := g ++ [some (Row.mk (encB b) true), some (Row.mk [.s nm] true), some (Row.mk (slC none) true)]) hb (by simp) (by simp) (by simp) (by omega) (by omega) (by omega) 7 0 8 (g ++ [some (Row.mk (encB b) true), some (Row.mk [.s nm] true), some (Row.mk (slC none) true), some (Row.mk (slC none) true), some (Row.mk [.b false] true), some (Row.mk (encB b) true)]) (by omega) (by omega)
      (by have := (Low.refl (h := g ++ [some (Row.mk (encB b) true), some (Row.mk [.s nm] true), some (Row.mk (slC none) true)]) (Nat.le_refl _)).new [some (Row.mk (slC none) true), some (Row.mk [.b false] true), some (Row.mk (encB b) true)]
          simpa using this) (by simp) (by simp) (by simp)
    have hS : S_bucket_each__Find_1 [.a (encB b), .c (.f 200 [(g.length + 1, 0), (g.length + 3, 0), (g.length + 4, 0)])] (g ++ [some (Row.mk (encB b) true), some (Row.mk [.s nm] true), some (Row.mk (slC none) true), some (Row.mk (slC none) true), some (Row.mk [.b false] true)]) = some (.t [], h') := by
      refine S_bucket_each__Find_1_of (n := 8) ?_
      rw [R_bucket_each__Find_1_eq]
      simp only [afAddr_p, List.append_nil, if_true, if_false, bnd_some, mp_some, cnd_t, cnd_f, gd_no, gd_tt, gd_tf, gd_ft, gd_ff, alenS_s, alen_sl, alen_ns, abin_add, abin_sub, abin_mul, abin_eql, abin_neq, abin_lss, abin_leq, abin_gtr, abin_geq, abin_seql, abin_sneq, abin_slss, aun_not, aun_neg, agn_some, aeqN_nf, aeqN_f, aeqN_np, aeqN_p, anilc_p, aeqB_t, aeqB_f, aconv_i, apick_b, cond_true, cond_false, decide_true, decide_false, Bool.not_true, Bool.not_false, aext_t, ofPart_c, ofPart_a, part?_c, part?_a, cells?_c, cells?_a, tupN_2, tupN_3, Option.map_some, Option.some.injEq, List.getElem?_cons_zero, List.getElem?_cons_succ, not_true_eq_false, not_false_eq_true, quiet_same, bytesI_length, Option.join_some, List.append_assoc, List.cons_append, List.nil_append, List.length_append, List.length_cons, List.length_nil, Nat.zero_add, Nat.add_zero, rd_at, rd_at0, set_at, set_at0, List.set_cons_zero, List.set_cons_succ, ne_eq, decide_not, quiet_ext, newOk_some, List.cons_prefix_cons, List.nil_prefix, List.drop_succ_cons, List.drop_zero, List.all_cons, List.all_nil, Bool.and_true, true_and, and_true, aloadN_at, aloadN_at0, aload1_at, aload1_at0, astoreN_at, astoreN_at0, astore1_at, astore1_at0, aslA_at, aslA_at0, ldN_all, ld1_row, stN_all, st1_row, slr_all, Nat.reduceAdd, Nat.reduceMul, Nat.reduceLT]
      exact f1
    have hr : rd h' (g.length + 2) = some ⟨slC none, true⟩ := by rw [f2.2.2 _ (by simp)]; simp
    change rd h' (g.length + 3) = some ⟨slC (findX b nm), true⟩ at f3
    change rd h' (g.length + 4) = some ⟨[.b (findX b nm).isSome], true⟩ at f4
    have t1 := loadAll (n := 3) f3 slC_length
    have t2 : aload1 h' (.c (.p (g.length + 4) 0)) = some (.c (.b (findX b nm).isSome)) := load1_of (cs := [.b (findX b nm).isSome]) f4 rfl rfl
    have t3 := storeAll (n := 3) (xs := slC (findX b nm)) hr slC_length slC_length
    have f4' : rd (h'.set (g.length + 2) (some ⟨slC (findX b nm), true⟩)) (g.length + 4) = some ⟨[.b (findX b nm).isSome], true⟩ := by rw [rd_set_other (by omega)]; exact f4
    have t4 : aload1 (h'.set (g.length + 2) (some ⟨slC (findX b nm), true⟩)) (.c (.p (g.length + 4) 0)) = some (.c (.b (findX b nm).isSome)) := load1_of (cs := [.b (findX b nm).isSome]) f4' rfl rfl
    have t5 := loadAll (n := 3) (rd_set_same (x := some ⟨slC (findX b nm), true⟩) (rd_lt hr)) slC_length
    have z0 : [Cell.i .i64 0, .s [], .i .i64 0] = slC none := rfl
    rw [R_bucket_Find_eq, z0]
    generalize slC (findX b nm) = Y at *
    generalize slC none = Z at *
    generalize (findX b nm).isSome = S at *
    generalize encB b = y at *
    exact ⟨_, by simp only [afAddr_p, List.append_nil, if_true, if_false, bnd_some, mp_some, cnd_t, cnd_f, gd_no, gd_tt, gd_tf, gd_ft, gd_ff, alenS_s, alen_sl, alen_ns, abin_add, abin_sub, abin_mul, abin_eql, abin_neq, abin_lss, abin_leq, abin_gtr, abin_geq, abin_seql, abin_sneq, abin_slss, aun_not, aun_neg, agn_some, aeqN_nf, aeqN_f, aeqN_np, aeqN_p, anilc_p, aeqB_t, aeqB_f, aconv_i, apick_b, cond_true, cond_false, decide_true, decide_false, Bool.not_true, Bool.not_false, aext_t, ofPart_c, ofPart_a, part?_c, part?_a, cells?_c, cells?_a, tupN_2, tupN_3, Option.map_some, Option.some.injEq, List.getElem?_cons_zero, List.getElem?_cons_succ, not_true_eq_false, not_false_eq_true, quiet_same, bytesI_length, Option.join_some, List.append_assoc, List.cons_append, List.nil_append, List.length_append, List.length_cons, List.length_nil, Nat.zero_add, Nat.add_zero, rd_at, rd_at0, set_at, set_at0, List.set_cons_zero, List.set_cons_succ, ne_eq, decide_not, quiet_ext, newOk_some, List.cons_prefix_cons, List.nil_prefix, List.drop_succ_cons, List.drop_zero, List.all_cons, List.all_nil, Bool.and_true, true_and, and_true, aloadN_at, aloadN_at0, aload1_at, aload1_at0, astoreN_at, astoreN_at0, astore1_at, astore1_at0, aslA_at, aslA_at0, ldN_all, ld1_row, stN_all, st1_row, slr_all, Nat.reduceAdd, Nat.reduceMul, Nat.reduceLT, hbl, emk, hS, t1, t2, t3, t4, t5] <;> rfl⟩
  obtain ⟨g', e⟩ := key (ro h)
  exact S_bucket_Find_flat e (by simp [Val.flat, slC_flat, Cell.flat])

end Go.Proofs.Ytbbkpmbepljhkaa
