/- The entries of a block. -/
import Derived.Test.YtbbkpmbepljhkaaSBucketFind
set_option linter.all false
namespace Go.Proofs.Ytbbkpmbepljhkaa
open Go Go.Esc

def slCs (l : List Slt) : List Cell := (l.map fun x => slC (some x)).flatten
theorem slCs_length {l : List Slt} : (slCs l).length = l.length * 3 := by
  induction l with
  | nil => rfl
  | cons x l ih => simp only [slCs, List.map_cons, List.flatten_cons, List.length_append, slC_length, List.length_cons] at ih ⊢; omega
theorem slCs_snoc {l : List Slt} {x : Slt} : slCs (l ++ [x]) = slCs l ++ slC (some x) := by simp [slCs]
theorem slCs_flat {l : List Slt} : flats (slCs l) = true := by
  induction l with
  | nil => rfl
  | cons x l ih =>
    have : slCs (x :: l) = slC (some x) ++ slCs l := rfl
    rw [this, flats_append, slC_flat, ih]; rfl
theorem noX_slCs {l : List Slt} : noX (slCs l) = true := by
  induction l with
  | nil => rfl
  | cons x l ih =>
    have : slCs (x :: l) = [.i .i64 (x.1 : Int), .s x.2.1, .i .i64 x.2.2] ++ slCs l := rfl
    rw [this]
    simp [noX, Cell.isX] at ih ⊢
    exact ih

def listFrom (b : List UInt8) : Nat → Nat → List Slt
  | 0, _ => []
  | e + 1, k => match readE b k with
    | some x => (k, x) :: listFrom b e (k + 1)
    | none => listFrom b e (k + 1)
def listX (b : List UInt8) : List Slt := listFrom b 7 0
theorem listFrom_none {b : List UInt8} {e k : Nat} (hx : readE b k = none) : listFrom b (e + 1) k = listFrom b e (k + 1) := by rw [listFrom, hx]
theorem listFrom_some {b : List UInt8} {e k : Nat} {x : Ent} (hx : readE b k = some x) : listFrom b (e + 1) k = (k, x) :: listFrom b e (k + 1) := by rw [listFrom, hx]

theorem app_ns {h : Heap} {jd m sz : Nat} {ys : List Cell} (hy : rd h jd = some ⟨ys, true⟩) (hyl : ys.length = m * sz) (hsz : 0 < sz) (hn : m ≤ 1073741824) :
    aapp h sz (.c .ns) (.c (.sl jd 0 m sz)) = some (.c (.sl h.length 0 m sz), h ++ [some ⟨ys, true⟩]) := by
  have h2 : addcells h sz (.c (.sl jd 0 m sz)) = some ys := by
    simp only [addcells, if_true, slcells, hy, Option.bind_some, List.drop_zero, Nat.zero_add]
    rw [← hyl, List.take_length, if_pos ⟨Nat.le_refl _, rfl⟩]
  have e1 : ys.length / sz = m := by rw [hyl]; exact Nat.mul_div_cancel _ hsz
  simp only [aapp, h2, Option.bind_some]
  rw [e1, if_pos hn]

/-- The variable has these slots. -/
def Held (h : Heap) (x : Cell) (l : List Slt) (b r0 r : Nat) : Prop := (l = [] ∧ x = .ns) ∨ ∃ id, x = .sl id 0 l.length 3 ∧ rd h id = some ⟨slCs l, true⟩ ∧ b ≤ id ∧ id ≠ r0 ∧ id ≠ r
theorem Held.more {h : Heap} {x : Cell} {l : List Slt} {b r0 r : Nat} (hd : Held h x l b r0 r) (t : Heap) : Held (h ++ t) x l b r0 r := by
  rcases hd with hd | ⟨id, h1, h2, h3⟩
  · exact .inl hd
  · exact .inr ⟨id, h1, rd_append h2, h3⟩

theorem list1_eq {k : Nat} {n : Int} {s : List UInt8} {x : Cell} {l : List Slt} {r0 r : Nat} {B h : Heap} {c0 : List Cell} (hlow : Low B.length B h) (hr : rd h r = some ⟨[x], true⟩) (h0 : rd h r0 = some ⟨c0, true⟩) (h0r : r0 ≠ r) (hBr : B.length ≤ r) (hB0 : B.length ≤ r0) (hd : Held h x l B.length r0 r) (hl : l.length ≤ 7) :
    ∃ x' h', S_bucket_List_1 [.a [.i .i64 (k : Int), .s s, .i .i64 n], .c (.p r 0)] h = some (.c (.b true), h') ∧ Low B.length B h' ∧ rd h' r = some ⟨[x'], true⟩ ∧ rd h' r0 = some ⟨c0, true⟩ ∧ Held h' x' (l ++ [(k, (s, n))]) B.length r0 r := by
  have hlt := rd_lt hr
  have hlt0 := rd_lt h0
  have l1 : aload1 (h ++ [some (Row.mk [.i .i64 (k : Int), .s s, .i .i64 n] true)]) (.c (.p r 0)) = some (.c x) := load1_of (cs := [x]) (rd_append hr) rfl (by simp)
  have ef : afill [Cell.i .i64 0, .s [], .i .i64 0] [(0, 3, .a [.i .i64 (k : Int), .s s, .i .i64 n])] = some [.i .i64 (k : Int), .s s, .i .i64 n] := rfl
  have hBh := hlow.2.1
  rcases hd with ⟨rfl, rfl⟩ | ⟨id, rfl, hi, hbi, hi0, hir⟩
  · have hA := app_ns (h := h ++ [some (Row.mk [.i .i64 (k : Int), .s s, .i .i64 n] true), some (Row.mk [.i .i64 (k : Int), .s s, .i .i64 n] true)]) (jd := h.length + 1) (m := 1) (sz := 3) (ys := [.i .i64 (k : Int), .s s, .i .i64 n]) (by simp) rfl (by omega) (by omega)
    simp only [List.length_append, List.length_cons, List.length_nil, Nat.zero_add, List.append_assoc, List.cons_append, List.nil_append, Nat.reduceAdd] at hA
    have hr2 : rd (h ++ [some (Row.mk [.i .i64 (k : Int), .s s, .i .i64 n] true), some (Row.mk [.i .i64 (k : Int), .s s, .i .i64 n] true), some (Row.mk [.i .i64 (k : Int), .s s, .i .i64 n] true)]) r = some ⟨[.ns], true⟩ := rd_append hr
    have t1 := store1_of (x := .sl (h.length + 2) 0 1 3) (off := 0) hr2 (by simp)
    refine ⟨.sl (h.length + 2) 0 1 3, _, S_bucket_List_1_of (n := 0) (by rw [R_bucket_List_1_eq]; simp only [afAddr_p, List.append_nil, if_true, if_false, bnd_some, mp_some, cnd_t, cnd_f, gd_no, gd_tt, gd_tf, gd_ft, gd_ff, alenS_s, alen_sl, alen_ns, abin_add, abin_sub, abin_mul, abin_eql, abin_neq, abin_lss, abin_leq, abin_gtr, abin_geq, abin_seql, abin_sneq, abin_slss, aun_not, aun_neg, agn_some, aeqN_nf, aeqN_f, aeqN_np, aeqN_p, anilc_p, aeqB_t, aeqB_f, aconv_i, apick_b, cond_true, cond_false, decide_true, decide_false, Bool.not_true, Bool.not_false, aext_t, ofPart_c, ofPart_a, part?_c, part?_a, cells?_c, cells?_a, tupN_2, tupN_3, Option.map_some, Option.some.injEq, List.getElem?_cons_zero, List.getElem?_cons_succ, not_true_eq_false, not_false_eq_true, quiet_same, bytesI_length, Option.join_some, List.append_assoc, List.cons_append, List.nil_append, List.length_append, List.length_cons, List.length_nil, Nat.zero_add, Nat.add_zero, rd_at, rd_at0, set_at, set_at0, List.set_cons_zero, List.set_cons_succ, ne_eq, decide_not, quiet_ext, newOk_some, List.cons_prefix_cons, List.nil_prefix, List.drop_succ_cons, List.drop_zero, List.all_cons, List.all_nil, Bool.and_true, true_and, and_true, aloadN_at, aloadN_at0, aload1_at, aload1_at0, astoreN_at, astoreN_at0, astore1_at, astore1_at0, aslA_at, aslA_at0, ldN_all, ld1_row, stN_all, st1_row, slr_all, Nat.reduceAdd, Nat.reduceMul, Nat.reduceLT, l1, ef, hA, t1] <;> rfl), (hlow.new _).set hBr _, ?_, ?_, .inr ⟨h.length + 2, rfl, ?_, by omega, by omega, by omega⟩⟩
    · exact rd_set_same (rd_lt hr2)
    · rw [rd_set_other (Ne.symm h0r)]; exact rd_append h0
    · rw [rd_set_other (by omega)]; simp [slCs, slC]
  · have hA := app_of (h := h ++ [some (Row.mk [.i .i64 (k : Int), .s s, .i .i64 n] true), some (Row.mk [.i .i64 (k : Int), .s s, .i .i64 n] true)]) (id := id) (jd := h.length + 1) (n := l.length) (m := 1) (sz := 3) (cs := slCs l) (ys := [.i .i64 (k : Int), .s s, .i .i64 n]) (rw := true) (rd_append hi) slCs_length (by simp) rfl rfl (by omega) (by omega)
    have hli := rd_lt hi
    have es : (h ++ [some (Row.mk [.i .i64 (k : Int), .s s, .i .i64 n] true), some (Row.mk [.i .i64 (k : Int), .s s, .i .i64 n] true)]).length = h.length + 2 := by simp
    rw [es] at hA
    have hr2 : rd ((h ++ [some (Row.mk [.i .i64 (k : Int), .s s, .i .i64 n] true), some (Row.mk [.i .i64 (k : Int), .s s, .i .i64 n] true)]).set id none ++ [some (Row.mk (slCs l ++ [.i .i64 (k : Int), .s s, .i .i64 n]) true)]) r = some ⟨[.sl id 0 l.length 3], true⟩ := by
      refine rd_append ?_
      rw [rd_set_other hir]; exact rd_append hr
    have t1 := store1_of (x := .sl (h.length + 2) 0 (l.length + 1) 3) (off := 0) hr2 (by simp)
    refine ⟨.sl (h.length + 2) 0 (l.length + 1) 3, _, S_bucket_List_1_of (n := 0) (by rw [R_bucket_List_1_eq]; simp only [afAddr_p, List.append_nil, if_true, if_false, bnd_some, mp_some, cnd_t, cnd_f, gd_no, gd_tt, gd_tf, gd_ft, gd_ff, alenS_s, alen_sl, alen_ns, abin_add, abin_sub, abin_mul, abin_eql, abin_neq, abin_lss, abin_leq, abin_gtr, abin_geq, abin_seql, abin_sneq, abin_slss, aun_not, aun_neg, agn_some, aeqN_nf, aeqN_f, aeqN_np, aeqN_p, anilc_p, aeqB_t, aeqB_f, aconv_i, apick_b, cond_true, cond_false, decide_true, decide_false, Bool.not_true, Bool.not_false, aext_t, ofPart_c, ofPart_a, part?_c, part?_a, cells?_c, cells?_a, tupN_2, tupN_3, Option.map_some, Option.some.injEq, List.getElem?_cons_zero, List.getElem?_cons_succ, not_true_eq_false, not_false_eq_true, quiet_same, bytesI_length, Option.join_some, List.append_assoc, List.cons_append, List.nil_append, List.length_append, List.length_cons, List.length_nil, Nat.zero_add, Nat.add_zero, rd_at, rd_at0, set_at, set_at0, List.set_cons_zero, List.set_cons_succ, ne_eq, decide_not, quiet_ext, newOk_some, List.cons_prefix_cons, List.nil_prefix, List.drop_succ_cons, List.drop_zero, List.all_cons, List.all_nil, Bool.and_true, true_and, and_true, aloadN_at, aloadN_at0, aload1_at, aload1_at0, astoreN_at, astoreN_at0, astore1_at, astore1_at0, aslA_at, aslA_at0, ldN_all, ld1_row, stN_all, st1_row, slr_all, Nat.reduceAdd, Nat.reduceMul, Nat.reduceLT, l1, ef, hA, t1] <;> rfl), (((hlow.new _).set hbi _).new _).set hBr _, ?_, ?_, .inr ⟨h.length + 2, by simp, ?_, by omega, by omega, by omega⟩⟩
    · exact rd_set_same (rd_lt hr2)
    · rw [rd_set_other (Ne.symm h0r)]
      refine rd_append ?_
      rw [rd_set_other hi0]; exact rd_append h0
    · rw [rd_set_other (by omega), slCs_snoc]
      have : ((h ++ [some (Row.mk [.i .i64 (k : Int), .s s, .i .i64 n] true), some (Row.mk [.i .i64 (k : Int), .s s, .i .i64 n] true)]).set id none).length = h.length + 2 := by simp
      rw [← this]
      exact rd_new

theorem each_list {b : List UInt8} {r0 r q : Nat} {B : Heap} (hb : b.length = 256) (h0r : r0 ≠ r) (hBr : B.length ≤ r) (hB0 : B.length ≤ r0) : ∀ (e k m : Nat) (h : Heap) (x : Cell) (l : List Slt), k + e = 7 → e < m → l.length ≤ k → Low B.length B h →
    rd h r = some ⟨[x], true⟩ → rd h r0 = some ⟨encB b, true⟩ → Held h x l B.length r0 r →
    ∃ x' h', bucket_each__List_1_l0 q m (.c (.f 199 [(r, 0)])) (.c (.p r0 0)) (.c (.i .i64 (k : Int))) h = some (.t [], h') ∧ Low B.length B h' ∧ rd h' r = some ⟨[x'], true⟩ ∧ Held h' x' (l ++ listFrom b e k) B.length r0 r
  | e, k, 0, h, x, l, _, hm, _, _, _, _, _ => by omega
  | 0, k, m + 1, h, x, l, hk, hm, hl, hlow, hr, h0, hd => by
    have e0 : k = 7 := by omega
    subst e0
    have c0 : ¬ ((7 : Nat) : Int) < 7 := by omega
    refine ⟨x, h, ?_, hlow, hr, by rw [listFrom, List.append_nil]; exact hd⟩
    rw [bucket_each__List_1_l0_eq]
    simp only [afAddr_p, List.append_nil, if_true, if_false, bnd_some, mp_some, cnd_t, cnd_f, gd_no, gd_tt, gd_tf, gd_ft, gd_ff, alenS_s, alen_sl, alen_ns, abin_add, abin_sub, abin_mul, abin_eql, abin_neq, abin_lss, abin_leq, abin_gtr, abin_geq, abin_seql, abin_sneq, abin_slss, aun_not, aun_neg, agn_some, aeqN_nf, aeqN_f, aeqN_np, aeqN_p, anilc_p, aeqB_t, aeqB_f, aconv_i, apick_b, cond_true, cond_false, decide_true, decide_false, Bool.not_true, Bool.not_false, aext_t, ofPart_c, ofPart_a, part?_c, part?_a, cells?_c, cells?_a, tupN_2, tupN_3, Option.map_some, Option.some.injEq, List.getElem?_cons_zero, List.getElem?_cons_succ, not_true_eq_false, not_false_eq_true, quiet_same, bytesI_length, Option.join_some, List.append_assoc, List.cons_append, List.nil_append, List.length_append, List.length_cons, List.length_nil, Nat.zero_add, Nat.add_zero, rd_at, rd_at0, set_at, set_at0, List.set_cons_zero, List.set_cons_succ, ne_eq, decide_not, quiet_ext, newOk_some, List.cons_prefix_cons, List.nil_prefix, List.drop_succ_cons, List.drop_zero, List.all_cons, List.all_nil, Bool.and_true, true_and, and_true, c0] <;> rfl
  | e + 1, k, m + 1, h, x, l, hk, hm, hl, hlow, hr, h0, hd => by
    have c0 : (k : Int) < 7 := by omega
    have hbl : (encB b).length = 256 := by rw [encB_length, hb]
    have s1 := loadAll (h := h) (id := r0) h0 hbl
    have hR := bucket_read_eq (h := h) (k := k) hb (by omega)
    have w1 := wi_succ (show k + 1 < 9223372036854775808 by omega)
    have hcv : ∀ (x : Val) (h : Heap), callv E_bucket_each__List_1 (.c (.f 199 [(r, 0)])) [x] h = S_bucket_List_1 [x, .c (.p r 0)] h := fun _ _ => Eq.trans rfl rfl
    rw [bucket_each__List_1_l0_eq]
    cases hx : readE b k with
    | none =>
      rw [hx] at hR
      rw [listFrom_none hx]
      obtain ⟨x', h', f1, f2⟩ := each_list (q := q) hb h0r hBr hB0 e (k + 1) m (h ++ [some ⟨[.s [], .i .i64 0], true⟩]) x l (by omega) (by omega) (by omega) (hlow.new _) (rd_append hr) (rd_append h0) (hd.more _)
      refine ⟨x', h', ?_, f2⟩
      generalize encB b = y at *
      simp only [afAddr_p, List.append_nil, if_true, if_false, bnd_some, mp_some, cnd_t, cnd_f, gd_no, gd_tt, gd_tf, gd_ft, gd_ff, alenS_s, alen_sl, alen_ns, abin_add, abin_sub, abin_mul, abin_eql, abin_neq, abin_lss, abin_leq, abin_gtr, abin_geq, abin_seql, abin_sneq, abin_slss, aun_not, aun_neg, agn_some, aeqN_nf, aeqN_f, aeqN_np, aeqN_p, anilc_p, aeqB_t, aeqB_f, aconv_i, apick_b, cond_true, cond_false, decide_true, decide_false, Bool.not_true, Bool.not_false, aext_t, ofPart_c, ofPart_a, part?_c, part?_a, cells?_c, cells?_a, tupN_2, tupN_3, Option.map_some, Option.some.injEq, List.getElem?_cons_zero, List.getElem?_cons_succ, not_true_eq_false, not_false_eq_true, quiet_same, bytesI_length, Option.join_some, List.append_assoc, List.cons_append, List.nil_append, List.length_append, List.length_cons, List.length_nil, Nat.zero_add, Nat.add_zero, rd_at, rd_at0, set_at, set_at0, List.set_cons_zero, List.set_cons_succ, ne_eq, decide_not, quiet_ext, newOk_some, List.cons_prefix_cons, List.nil_prefix, List.drop_succ_cons, List.drop_zero, List.all_cons, List.all_nil, Bool.and_true, true_and, and_true, aloadN_at, aloadN_at0, aload1_at, aload1_at0, astoreN_at, astoreN_at0, astore1_at, astore1_at0, aslA_at, aslA_at0, ldN_all, ld1_row, stN_all, st1_row, slr_all, Nat.reduceAdd, Nat.reduceMul, Nat.reduceLT, c0, s1, hR, entC, Option.isSome_none, w1]
      exact f1
    | some en =>
      obtain ⟨s, n⟩ := en
      rw [hx] at hR
      rw [listFrom_some hx]
      have ef : afill [Cell.i .i64 0, .s [], .i .i64 0] [(0, 1, .c (.i .i64 (k : Int))), (1, 2, .a [.s s, .i .i64 n])] = some [.i .i64 (k : Int), .s s, .i .i64 n] := rfl
      obtain ⟨x1, h1, g1, g2, g3, g4, g5⟩ := list1_eq (k := k) (n := n) (s := s) (hlow.new [some (Row.mk [.s s, .i .i64 n] true)]) (rd_append hr) (rd_append h0) h0r hBr hB0 (hd.more _) (by omega)
      obtain ⟨x', h', f1, f2, f3, f4⟩ := each_list (q := q) hb h0r hBr hB0 e (k + 1) m h1 x1 (l ++ [(k, (s, n))]) (by omega) (by omega) (by simp; omega) g2 g3 g4 g5
      rw [List.append_assoc, List.singleton_append] at f4
      refine ⟨x', h', ?_, f2, f3, f4⟩
      generalize encB b = y at *
      simp only [afAddr_p, List.append_nil, if_true, if_false, bnd_some, mp_some, cnd_t, cnd_f, gd_no, gd_tt, gd_tf, gd_ft, gd_ff, alenS_s, alen_sl, alen_ns, abin_add, abin_sub, abin_mul, abin_eql, abin_neq, abin_lss, abin_leq, abin_gtr, abin_geq, abin_seql, abin_sneq, abin_slss, aun_not, aun_neg, agn_some, aeqN_nf, aeqN_f, aeqN_np, aeqN_p, anilc_p, aeqB_t, aeqB_f, aconv_i, apick_b, cond_true, cond_false, decide_true, decide_false, Bool.not_true, Bool.not_false, aext_t, ofPart_c, ofPart_a, part?_c, part?_a, cells?_c, cells?_a, tupN_2, tupN_3, Option.map_some, Option.some.injEq, List.getElem?_cons_zero, List.getElem?_cons_succ, not_true_eq_false, not_false_eq_true, quiet_same, bytesI_length, Option.join_some, List.append_assoc, List.cons_append, List.nil_append, List.length_append, List.length_cons, List.length_nil, Nat.zero_add, Nat.add_zero, rd_at, rd_at0, set_at, set_at0, List.set_cons_zero, List.set_cons_succ, ne_eq, decide_not, quiet_ext, newOk_some, List.cons_prefix_cons, List.nil_prefix, List.drop_succ_cons, List.drop_zero, List.all_cons, List.all_nil, Bool.and_true, true_and, and_true, aloadN_at, aloadN_at0, aload1_at, aload1_at0, astoreN_at, astoreN_at0, astore1_at, astore1_at0, aslA_at, aslA_at0, ldN_all, ld1_row, stN_all, st1_row, slr_all, Nat.reduceAdd, Nat.reduceMul, Nat.reduceLT, c0, s1, hR, entC, Option.isSome_some, ef, hcv, g1, w1]
      exact f1

/-- The slots of a block, in a new row if there are any. -/
theorem bucket_List_eq {b : List UInt8} {h : Heap} (hb : b.length = 256) : ∃ v t, S_bucket_List [.a (encB b)] h = some (v, h ++ t) ∧ Has (h ++ t) v 3 (listX b).length (slCs (listX b)) ∧ (t = [] ∨ t = [some ⟨slCs (listX b), true⟩]) := by
  have key : ∀ g, ∃ x g', R_bucket_List 8 [.a (encB b)] g = some (.c x, g') ∧ Held g' x (listX b) g.length (g.length + 3) (g.length + 2) := by
    intro g
    have hbl : (encB b).length = 256 := by rw [encB_length, hb]
    have emk : amkf 199 [.c (.p (g.length + 2) 0)] = some (.c (.f 199 [(g.length + 2, 0)])) := rfl
    obtain ⟨x, h', f1, f2, f3, f4⟩ := each_list (b := b) (r0 := g.length + 3) (r := g.length + 2) (q := 8) (B := g) hb (by omega) (by omega) (by omega) 7 0 8 (g ++ [some (Row.mk (encB b) true), some (Row.mk [] true), some (Row.mk [.ns] true), some (Row.mk (encB b) true)]) .ns [] (by omega) (by omega) (by simp)
      ((Low.refl (Nat.le_refl _)).new _) (by simp) (by simp) (.inl ⟨rfl, rfl⟩)
    have hS : S_bucket_each__List_1 [.a (encB b), .c (.f 199 [(g.length + 2, 0)])] (g ++ [some (Row.mk (encB b) true), some (Row.mk [] true), some (Row.mk [.ns] true)]) = some (.t [], h') := by
      refine S_bucket_each__List_1_of (n := 8) ?_
      rw [R_bucket_each__List_1_eq]
      simp only [afAddr_p, List.append_nil, if_true, if_false, bnd_some, mp_some, cnd_t, cnd_f, gd_no, gd_tt, gd_tf, gd_ft, gd_ff, alenS_s, alen_sl, alen_ns, abin_add, abin_sub, abin_mul, abin_eql, abin_neq, abin_lss, abin_leq, abin_gtr, abin_geq, abin_seql, abin_sneq, abin_slss, aun_not, aun_neg, agn_some, aeqN_nf, aeqN_f, aeqN_np, aeqN_p, anilc_p, aeqB_t, aeqB_f, aconv_i, apick_b, cond_true, cond_false, decide_true, decide_false, Bool.not_true, Bool.not_false, aext_t, ofPart_c, ofPart_a, part?_c, part?_a, cells?_c, cells?_a, tupN_2, tupN_3, Option.map_some, Option.some.injEq, List.getElem?_cons_zero, List.getElem?_cons_succ, not_true_eq_false, not_false_eq_true, quiet_same, bytesI_length, Option.join_some, List.append_assoc, List.cons_append, List.nil_append, List.length_append, List.length_cons, List.length_nil, Nat.zero_add, Nat.add_zero, rd_at, rd_at0, set_at, set_at0, List.set_cons_zero, List.set_cons_succ, ne_eq, decide_not, quiet_ext, newOk_some, List.cons_prefix_cons, List.nil_prefix, List.drop_succ_cons, List.drop_zero, List.all_cons, List.all_nil, Bool.and_true, true_and, and_true, aloadN_at, aloadN_at0, aload1_at, aload1_at0, astoreN_at, astoreN_at0, astore1_at, astore1_at0, aslA_at, aslA_at0, ldN_all, ld1_row, stN_all, st1_row, slr_all, Nat.reduceAdd, Nat.reduceMul, Nat.reduceLT]
      exact f1
    have t1 : aload1 h' (.c (.p (g.length + 2) 0)) = some (.c x) := load1_of (cs := [x]) f3 rfl (by simp)
    rw [R_bucket_List_eq]
    generalize encB b = y at *
    exact ⟨x, h', by simp only [afAddr_p, List.append_nil, if_true, if_false, bnd_some, mp_some, cnd_t, cnd_f, gd_no, gd_tt, gd_tf, gd_ft, gd_ff, alenS_s, alen_sl, alen_ns, abin_add, abin_sub, abin_mul, abin_eql, abin_neq, abin_lss, abin_leq, abin_gtr, abin_geq, abin_seql, abin_sneq, abin_slss, aun_not, aun_neg, agn_some, aeqN_nf, aeqN_f, aeqN_np, aeqN_p, anilc_p, aeqB_t, aeqB_f, aconv_i, apick_b, cond_true, cond_false, decide_true, decide_false, Bool.not_true, Bool.not_false, aext_t, ofPart_c, ofPart_a, part?_c, part?_a, cells?_c, cells?_a, tupN_2, tupN_3, Option.map_some, Option.some.injEq, List.getElem?_cons_zero, List.getElem?_cons_succ, not_true_eq_false, not_false_eq_true, quiet_same, bytesI_length, Option.join_some, List.append_assoc, List.cons_append, List.nil_append, List.length_append, List.length_cons, List.length_nil, Nat.zero_add, Nat.add_zero, rd_at, rd_at0, set_at, set_at0, List.set_cons_zero, List.set_cons_succ, ne_eq, decide_not, quiet_ext, newOk_some, List.cons_prefix_cons, List.nil_prefix, List.drop_succ_cons, List.drop_zero, List.all_cons, List.all_nil, Bool.and_true, true_and, and_true, aloadN_at, aloadN_at0, aload1_at, aload1_at0, astoreN_at, astoreN_at0, astore1_at, astore1_at0, aslA_at, aslA_at0, ldN_all, ld1_row, stN_all, st1_row, slr_all, Nat.reduceAdd, Nat.reduceMul, Nat.reduceLT, hbl, emk, hS, t1], f4⟩
  obtain ⟨x, g', e, hd⟩ := key (ro h)
  rcases hd with ⟨hl, rfl⟩ | ⟨id, rfl, hr, hbi, _⟩
  · refine ⟨.c .ns, [], ?_, ?_, .inl rfl⟩
    · rw [List.append_nil]; exact S_bucket_List_low e (by simp [Val.low, Cell.low, Cell.flat])
    · rw [hl]; exact .inl ⟨rfl, rfl, rfl⟩
  · rw [ro_length] at hbi
    refine ⟨.c (.sl h.length 0 (listX b).length 3), [some ⟨slCs (listX b), true⟩], S_bucket_List_out e ⟨slCs_length, id, rfl, hbi, hr⟩ slCs_flat, Has.row (rw := true) (by simp) slCs_length noX_slCs, .inr rfl⟩

end Go.Proofs.Ytbbkpmbepljhkaa
