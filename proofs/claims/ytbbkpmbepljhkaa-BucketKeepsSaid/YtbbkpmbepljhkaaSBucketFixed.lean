/- A bucket is fixed; whether it is right. -/
import Derived.Test.YtbbkpmbepljhkaaSBucketFind
set_option linter.all false
namespace Go.Proofs.Ytbbkpmbepljhkaa
open Go Go.Esc

def keepsK (b : List UInt8) (k : Nat) (x : Ent) : Bool := decide (slC (findX b x.1) = slC (some (k, x)))
def fixK (b : List UInt8) (k : Nat) (cur : List UInt8) : List UInt8 := match readE b k with
  | some x => bif keepsK b k x then layB cur (slotA k) (entB x.1 x.2) else cur
  | none => cur
def fixF (b : List UInt8) : Nat → Nat → List UInt8 → List UInt8
  | 0, _, cur => cur
  | e + 1, k, cur => fixF b e (k + 1) (fixK b k cur)
def fixX (b : List UInt8) : List UInt8 := fixF b 7 0 hdB

theorem layS_length {cur : List UInt8} {k : Nat} {s : List UInt8} {n : Int} (hk : k < 7) (hc : cur.length = 256) : (layB cur (slotA k) (entB s n)).length = 256 := by
  rw [layB_length (by rw [hc, entB_length]; unfold slotA; omega)]; exact hc
theorem fixK_length {b : List UInt8} {k : Nat} {cur : List UInt8} (hk : k < 7) (hc : cur.length = 256) : (fixK b k cur).length = 256 := by
  unfold fixK
  split
  · rename_i x _
    cases keepsK b k x
    · exact hc
    · exact layS_length hk hc
  · exact hc
theorem fixF_length {b : List UInt8} : ∀ (e k : Nat) (cur : List UInt8), k + e ≤ 7 → cur.length = 256 → (fixF b e k cur).length = 256
  | 0, _, _, _, hc => hc
  | e + 1, k, cur, h, hc => fixF_length e (k + 1) _ (by omega) (fixK_length (by omega) hc)
theorem fixX_length {b : List UInt8} : (fixX b).length = 256 := fixF_length 7 0 hdB (by omega) hdB_length

theorem layI_slot {cur : List UInt8} {k : Nat} {s : List UInt8} {n : Int} (hk : k < 7) : layI cur (slotA k : Nat) (entB s n) = layB cur (slotA k) (entB s n) := by
  unfold layI
  have : slotA k < 256 := by unfold slotA; omega
  rw [if_pos ⟨by omega, by omega⟩, Int.toNat_natCast, List.take_of_length_le (by rw [entB_length]; unfold slotA; omega)]

theorem aeq_sl {a c : Int} {s t : List UInt8} {m n : Int} : aeq false [.i .i64, .s, .i .i64] (.a [.i .i64 a, .s s, .i .i64 m]) (.a [.i .i64 c, .s t, .i .i64 n]) = some (.c (.b (decide ([Cell.i .i64 a, .s s, .i .i64 m] = [.i .i64 c, .s t, .i .i64 n])))) := by
  simp only [aeq]
  rw [if_pos ⟨rfl, rfl⟩]
  simp
theorem aeq_slC {o p : Option Slt} : aeq false [.i .i64, .s, .i .i64] (.a (slC o)) (.a (slC p)) = some (.c (.b (decide (slC o = slC p)))) := by
  cases o <;> cases p <;> exact aeq_sl

theorem fix1_eq {k : Nat} {n : Int} {s b cur : List UInt8} {rb ro : Nat} {B h : Heap} (hk : k < 7) (hs : s.length ≤ 24) (hb : b.length = 256) (hc : cur.length = 256) (hlow : Low B.length B h) (hB : B.length ≤ ro)
    (h1 : rd h rb = some ⟨encB b, true⟩) (h2 : rd h ro = some ⟨encB cur, true⟩) :
    ∃ h', S_bucket_Fix_1 [.a [.i .i64 (k : Int), .s s, .i .i64 n], .c (.p rb 0), .c (.p ro 0)] h = some (.c (.b true), h') ∧ Low B.length B h' ∧ (∀ id, id ≠ ro → id < h.length → rd h' id = rd h id) ∧ h.length ≤ h'.length ∧
      rd h' ro = some ⟨encB (bif keepsK b k (s, n) then layB cur (slotA k) (entB s n) else cur), true⟩ := by
  have hbl : (encB b).length = 256 := by rw [encB_length, hb]
  have hcl : (encB cur).length = 256 := by rw [encB_length, hc]
  have s1 := fun t => loadAll (h := h ++ t) (rd_append h1) hbl
  have s2 := fun t => loadAll (h := h ++ t) (rd_append h2) hcl
  have hF := fun h => bucket_Find_eq (b := b) (nm := s) (h := h) hb
  have hSl := slC_length (o := findX b s)
  have hq : aeq false [.i .i64, .s, .i .i64] (.a (slC (findX b s))) (.a [.i .i64 (k : Int), .s s, .i .i64 n]) = some (.c (.b (keepsK b k (s, n)))) := aeq_slC (p := some (k, (s, n)))
  have hlt := rd_lt h2
  cases ck : keepsK b k (s, n) with
  | false =>
    rw [ck] at hq
    refine ⟨h ++ [some (Row.mk [.i .i64 (k : Int), .s s, .i .i64 n] true), some (Row.mk (slC (findX b s)) true)], S_bucket_Fix_1_of (n := 0) ?_, hlow.new _, fun id hid hl => rd_append_left hl, by simp, rd_append h2⟩
    rw [R_bucket_Fix_1_eq]
    generalize slC (findX b s) = S at *
    generalize encB b = y at *
    simp only [afAddr_p, List.append_nil, if_true, if_false, bnd_some, mp_some, cnd_t, cnd_f, gd_no, gd_tt, gd_tf, gd_ft, gd_ff, alenS_s, alen_sl, alen_ns, abin_add, abin_sub, abin_mul, abin_eql, abin_neq, abin_lss, abin_leq, abin_gtr, abin_geq, abin_seql, abin_sneq, abin_slss, aun_not, aun_neg, agn_some, aeqN_nf, aeqN_f, aeqN_np, aeqN_p, anilc_p, aeqB_t, aeqB_f, aconv_i, apick_b, cond_true, cond_false, decide_true, decide_false, Bool.not_true, Bool.not_false, aext_t, ofPart_c, ofPart_a, part?_c, part?_a, cells?_c, cells?_a, tupN_2, tupN_3, Option.map_some, Option.some.injEq, List.getElem?_cons_zero, List.getElem?_cons_succ, not_true_eq_false, not_false_eq_true, quiet_same, bytesI_length, Option.join_some, List.append_assoc, List.cons_append, List.nil_append, List.length_append, List.length_cons, List.length_nil, Nat.zero_add, Nat.add_zero, rd_at, rd_at0, set_at, set_at0, List.set_cons_zero, List.set_cons_succ, ne_eq, decide_not, quiet_ext, newOk_some, List.cons_prefix_cons, List.nil_prefix, List.drop_succ_cons, List.drop_zero, List.all_cons, List.all_nil, Bool.and_true, true_and, and_true, aloadN_at, aloadN_at0, aload1_at, aload1_at0, astoreN_at, astoreN_at0, astore1_at, astore1_at0, aslA_at, aslA_at0, ldN_all, ld1_row, stN_all, st1_row, slr_all, Nat.reduceAdd, Nat.reduceMul, Nat.reduceLT, s1, hF, hSl, hq, bucket_Fix_1_j0_eq]
  | true =>
    rw [ck] at hq
    have hfi := fun h => bucket_first_eq (h := h) hk
    have hldn : ldN (some (Row.mk [.i .i64 (k : Int), .s s, .i .i64 n] true)) 1 2 = some (.a [.s s, .i .i64 n]) := rfl
    have hW := fun h => bucket_written_eq (s := s) (n := n) (h := h) (by omega)
    have hLy := num_Lay_eq (v := .c (.sl (h.length + 2) 0 32 1)) (nv := 32) (data := entB s n) (l := cur) (h := h ++ [some (Row.mk [.i .i64 (k : Int), .s s, .i .i64 n] true), some (Row.mk (slC (findX b s)) true), some (Row.mk (encB (entB s n)) true)]) (Has.row (rw := true) (by simp) (by rw [encB_length, entB_length]) (noX_encB _)) hc (by rw [entB_length]; omega) (a := (slotA k : Nat))
    rw [layI_slot hk] at hLy
    have hn1 : (encB (layB cur (slotA k) (entB s n))).length = 256 := by rw [encB_length]; exact layS_length hk hc
    have s3 := fun t => storeAll (h := h ++ t) (xs := encB (layB cur (slotA k) (entB s n))) (rd_append h2) hcl hn1
    refine ⟨(h ++ [some (Row.mk [.i .i64 (k : Int), .s s, .i .i64 n] true), some (Row.mk (slC (findX b s)) true), some (Row.mk (encB (entB s n)) true)]).set ro (some (Row.mk (encB (layB cur (slotA k) (entB s n))) true)), S_bucket_Fix_1_of (n := 0) ?_, (hlow.new _).set hB _, fun id hid hl => by rw [rd_set_other (Ne.symm hid)]; exact rd_append_left hl, by simp, rd_set_same (by simp; omega)⟩
    rw [R_bucket_Fix_1_eq]
    generalize layB cur (slotA k) (entB s n) = N at *
    generalize entB s n = E at *
    generalize slC (findX b s) = S at *
    generalize encB b = y at *
    simp only [afAddr_p, List.append_nil, if_true, if_false, bnd_some, mp_some, cnd_t, cnd_f, gd_no, gd_tt, gd_tf, gd_ft, gd_ff, alenS_s, alen_sl, alen_ns, abin_add, abin_sub, abin_mul, abin_eql, abin_neq, abin_lss, abin_leq, abin_gtr, abin_geq, abin_seql, abin_sneq, abin_slss, aun_not, aun_neg, agn_some, aeqN_nf, aeqN_f, aeqN_np, aeqN_p, anilc_p, aeqB_t, aeqB_f, aconv_i, apick_b, cond_true, cond_false, decide_true, decide_false, Bool.not_true, Bool.not_false, aext_t, ofPart_c, ofPart_a, part?_c, part?_a, cells?_c, cells?_a, tupN_2, tupN_3, Option.map_some, Option.some.injEq, List.getElem?_cons_zero, List.getElem?_cons_succ, not_true_eq_false, not_false_eq_true, quiet_same, bytesI_length, Option.join_some, List.append_assoc, List.cons_append, List.nil_append, List.length_append, List.length_cons, List.length_nil, Nat.zero_add, Nat.add_zero, rd_at, rd_at0, set_at, set_at0, List.set_cons_zero, List.set_cons_succ, ne_eq, decide_not, quiet_ext, newOk_some, List.cons_prefix_cons, List.nil_prefix, List.drop_succ_cons, List.drop_zero, List.all_cons, List.all_nil, Bool.and_true, true_and, and_true, aloadN_at, aloadN_at0, aload1_at, aload1_at0, astoreN_at, astoreN_at0, astore1_at, astore1_at0, aslA_at, aslA_at0, ldN_all, ld1_row, stN_all, st1_row, slr_all, Nat.reduceAdd, Nat.reduceMul, Nat.reduceLT, s1, s2, hF, hSl, hq, hfi, hldn, hW, quiet2, hLy, s3, bucket_Fix_1_j0_eq]

theorem each_fix {b : List UInt8} {r0 rb ro q : Nat} {B : Heap} (hb : b.length = 256) (h0o : r0 ≠ ro) (hbo : rb ≠ ro) (hBo : B.length ≤ ro) : ∀ (e k m : Nat) (h : Heap) (cur : List UInt8), k + e = 7 → e < m → cur.length = 256 → Low B.length B h →
    rd h rb = some ⟨encB b, true⟩ → rd h ro = some ⟨encB cur, true⟩ → rd h r0 = some ⟨encB b, true⟩ →
    ∃ h', bucket_each__Fix_1_l0 q m (.c (.f 203 [(rb, 0), (ro, 0)])) (.c (.p r0 0)) (.c (.i .i64 (k : Int))) h = some (.t [], h') ∧ Low B.length B h' ∧ rd h' ro = some ⟨encB (fixF b e k cur), true⟩
  | e, k, 0, h, cur, _, hm, _, _, _, _, _ => by omega
  | 0, k, m + 1, h, cur, hk, hm, hc, hlow, h1, h2, h0 => by
    have e0 : k = 7 := by omega
    subst e0
    have c0 : ¬ ((7 : Nat) : Int) < 7 := by omega
    refine ⟨h, ?_, hlow, h2⟩
    rw [bucket_each__Fix_1_l0_eq]
    simp only [afAddr_p, List.append_nil, if_true, if_false, bnd_some, mp_some, cnd_t, cnd_f, gd_no, gd_tt, gd_tf, gd_ft, gd_ff, alenS_s, alen_sl, alen_ns, abin_add, abin_sub, abin_mul, abin_eql, abin_neq, abin_lss, abin_leq, abin_gtr, abin_geq, abin_seql, abin_sneq, abin_slss, aun_not, aun_neg, agn_some, aeqN_nf, aeqN_f, aeqN_np, aeqN_p, anilc_p, aeqB_t, aeqB_f, aconv_i, apick_b, cond_true, cond_false, decide_true, decide_false, Bool.not_true, Bool.not_false, aext_t, ofPart_c, ofPart_a, part?_c, part?_a, cells?_c, cells?_a, tupN_2, tupN_3, Option.map_some, Option.some.injEq, List.getElem?_cons_zero, List.getElem?_cons_succ, not_true_eq_false, not_false_eq_true, quiet_same, bytesI_length, Option.join_some, List.append_assoc, List.cons_append, List.nil_append, List.length_append, List.length_cons, List.length_nil, Nat.zero_add, Nat.add_zero, rd_at, rd_at0, set_at, set_at0, List.set_cons_zero, List.set_cons_succ, ne_eq, decide_not, quiet_ext, newOk_some, List.cons_prefix_cons, List.nil_prefix, List.drop_succ_cons, List.drop_zero, List.all_cons, List.all_nil, Bool.and_true, true_and, and_true, c0] <;> rfl
  | e + 1, k, m + 1, h, cur, hk, hm, hc, hlow, h1, h2, h0 => by
    have c0 : (k : Int) < 7 := by omega
    have hbl : (encB b).length = 256 := by rw [encB_length, hb]
    have s1 := loadAll (h := h) (id := r0) h0 hbl
    have hR := bucket_read_eq (h := h) (k := k) hb (by omega)
    have w1 := wi_succ (show k + 1 < 9223372036854775808 by omega)
    have hcv : ∀ (x : Val) (h : Heap), callv E_bucket_each__Fix_1 (.c (.f 203 [(rb, 0), (ro, 0)])) [x] h = S_bucket_Fix_1 [x, .c (.p rb 0), .c (.p ro 0)] h := fun _ _ => Eq.trans rfl rfl
    rw [bucket_each__Fix_1_l0_eq, fixF]
    cases hx : readE b k with
    | none =>
      have ef : fixK b k cur = cur := by unfold fixK; rw [hx]
      rw [hx] at hR
      rw [ef]
      obtain ⟨h', f1, f2⟩ := each_fix (q := q) hb h0o hbo hBo e (k + 1) m (h ++ [some ⟨[.s [], .i .i64 0], true⟩]) cur (by omega) (by omega) hc (hlow.new _) (rd_append h1) (rd_append h2) (rd_append h0)
      refine ⟨h', ?_, f2⟩
      generalize encB b = y at *
      simp only [afAddr_p, List.append_nil, if_true, if_false, bnd_some, mp_some, cnd_t, cnd_f, gd_no, gd_tt, gd_tf, gd_ft, gd_ff, alenS_s, alen_sl, alen_ns, abin_add, abin_sub, abin_mul, abin_eql, abin_neq, abin_lss, abin_leq, abin_gtr, abin_geq, abin_seql, abin_sneq, abin_slss, aun_not, aun_neg, agn_some, aeqN_nf, aeqN_f, aeqN_np, aeqN_p, anilc_p, aeqB_t, aeqB_f, aconv_i, apick_b, cond_true, cond_false, decide_true, decide_false, Bool.not_true, Bool.not_false, aext_t, ofPart_c, ofPart_a, part?_c, part?_a, cells?_c, cells?_a, tupN_2, tupN_3, Option.map_some, Option.some.injEq, List.getElem?_cons_zero, List.getElem?_cons_succ, not_true_eq_false, not_false_eq_true, quiet_same, bytesI_length, Option.join_some, List.append_assoc, List.cons_append, List.nil_append, List.length_append, List.length_cons, List.length_nil, Nat.zero_add, Nat.add_zero, rd_at, rd_at0, set_at, set_at0, List.set_cons_zero, List.set_cons_succ, ne_eq, decide_not, quiet_ext, newOk_some, List.cons_prefix_cons, List.nil_prefix, List.drop_succ_cons, List.drop_zero, List.all_cons, List.all_nil, Bool.and_true, true_and, and_true, aloadN_at, aloadN_at0, aload1_at, aload1_at0, astoreN_at, astoreN_at0, astore1_at, astore1_at0, aslA_at, aslA_at0, ldN_all, ld1_row, stN_all, st1_row, slr_all, Nat.reduceAdd, Nat.reduceMul, Nat.reduceLT, c0, s1, hR, entC, Option.isSome_none, w1]
      exact f1
    | some en =>
      obtain ⟨s, n⟩ := en
      have ef : fixK b k cur = bif keepsK b k (s, n) then layB cur (slotA k) (entB s n) else cur := by unfold fixK; rw [hx]
      rw [hx] at hR
      have hs : s.length ≤ 24 := by
        unfold readE at hx
        cases hu : unpackB (nameB b k) with
        | none => rw [hu] at hx; cases hx
        | some s' =>
          rw [hu, Option.bind_some] at hx
          split at hx
          · cases hx; exact (fineName_length (unpackB_fine hu)).2
          · cases hx
      have eaf : afill [Cell.i .i64 0, .s [], .i .i64 0] [(0, 1, .c (.i .i64 (k : Int))), (1, 2, .a [.s s, .i .i64 n])] = some [.i .i64 (k : Int), .s s, .i .i64 n] := rfl
      obtain ⟨hh, g1, g2, g3, g4, g5⟩ := fix1_eq (n := n) (show k < 7 by omega) hs hb hc (hlow.new [some (Row.mk [.s s, .i .i64 n] true)]) hBo (rd_append h1) (rd_append h2)
      rw [← ef] at g5
      have hlt1 := rd_lt h1
      have hlt0 := rd_lt h0
      obtain ⟨h', f1, f2⟩ := each_fix (q := q) hb h0o hbo hBo e (k + 1) m hh (fixK b k cur) (by omega) (by omega) (fixK_length (by omega) hc) g2 (by rw [g3 rb hbo (by simp; omega)]; exact rd_append h1) g5 (by rw [g3 r0 h0o (by simp; omega)]; exact rd_append h0)
      refine ⟨h', ?_, f2⟩
      generalize encB b = y at *
      simp only [afAddr_p, List.append_nil, if_true, if_false, bnd_some, mp_some, cnd_t, cnd_f, gd_no, gd_tt, gd_tf, gd_ft, gd_ff, alenS_s, alen_sl, alen_ns, abin_add, abin_sub, abin_mul, abin_eql, abin_neq, abin_lss, abin_leq, abin_gtr, abin_geq, abin_seql, abin_sneq, abin_slss, aun_not, aun_neg, agn_some, aeqN_nf, aeqN_f, aeqN_np, aeqN_p, anilc_p, aeqB_t, aeqB_f, aconv_i, apick_b, cond_true, cond_false, decide_true, decide_false, Bool.not_true, Bool.not_false, aext_t, ofPart_c, ofPart_a, part?_c, part?_a, cells?_c, cells?_a, tupN_2, tupN_3, Option.map_some, Option.some.injEq, List.getElem?_cons_zero, List.getElem?_cons_succ, not_true_eq_false, not_false_eq_true, quiet_same, bytesI_length, Option.join_some, List.append_assoc, List.cons_append, List.nil_append, List.length_append, List.length_cons, List.length_nil, Nat.zero_add, Nat.add_zero, rd_at, rd_at0, set_at, set_at0, List.set_cons_zero, List.set_cons_succ, ne_eq, decide_not, quiet_ext, newOk_some, List.cons_prefix_cons, List.nil_prefix, List.drop_succ_cons, List.drop_zero, List.all_cons, List.all_nil, Bool.and_true, true_and, and_true, aloadN_at, aloadN_at0, aload1_at, aload1_at0, astoreN_at, astoreN_at0, astore1_at, astore1_at0, aslA_at, aslA_at0, ldN_all, ld1_row, stN_all, st1_row, slr_all, Nat.reduceAdd, Nat.reduceMul, Nat.reduceLT, c0, s1, hR, entC, Option.isSome_some, eaf, hcv, g1, w1]
      exact f1

theorem bucket_Fix_eq {b : List UInt8} {h : Heap} (hb : b.length = 256) : S_bucket_Fix [.a (encB b)] h = some (.a (encB (fixX b)), h) := by
  have key : ∀ g, ∃ g', R_bucket_Fix 0 [.a (encB b)] g = some (.a (encB (fixX b)), g') := by
    intro g
    have hbl : (encB b).length = 256 := by rw [encB_length, hb]
    have hz : (encB (zeros 256)).length = 256 := by rw [encB_length]; exact zeros_length
    have hd : (encB hdB).length = 256 := by rw [encB_length]; exact hdB_length
    have hxl : (encB (fixX b)).length = 256 := by rw [encB_length]; exact fixX_length
    have hH := fun h => bucket_head_eq (h := h)
    have emk : amkf 203 [.c (.p g.length 0), .c (.p (g.length + 2) 0)] = some (.c (.f 203 [(g.length, 0), (g.length + 2, 0)])) := rfl
    obtain ⟨h', f1, f2, f3⟩ := each_fix (b := b) (r0 := g.length + 3) (rb := g.length) (ro := g.length + 2) (q := 8) (B := g ++ [some (Row.mk (encB b) true), some (Row.mk (encB (zeros 256)) true)]) hb (by omega) (by omega) (by simp) 7 0 8 (g ++ [some (Row.mk (encB b) true), some (Row.mk (encB (zeros 256)) true), some (Row.mk (encB hdB) true), some (Row.mk (encB b) true)]) hdB (by omega) (by omega) hdB_length
      (by have := (Low.refl (h := g ++ [some (Row.mk (encB b) true), some (Row.mk (encB (zeros 256)) true)]) (Nat.le_refl _)).new [some (Row.mk (encB hdB) true), some (Row.mk (encB b) true)]
          simpa using this) (by simp) (by simp) (by simp)
    have hS : S_bucket_each__Fix_1 [.a (encB b), .c (.f 203 [(g.length, 0), (g.length + 2, 0)])] (g ++ [some (Row.mk (encB b) true), some (Row.mk (encB (zeros 256)) true), some (Row.mk (encB hdB) true)]) = some (.t [], h') := by
      refine S_bucket_each__Fix_1_of (n := 8) ?_
      rw [R_bucket_each__Fix_1_eq]
      simp only [afAddr_p, List.append_nil, if_true, if_false, bnd_some, mp_some, cnd_t, cnd_f, gd_no, gd_tt, gd_tf, gd_ft, gd_ff, alenS_s, alen_sl, alen_ns, abin_add, abin_sub, abin_mul, abin_eql, abin_neq, abin_lss, abin_leq, abin_gtr, abin_geq, abin_seql, abin_sneq, abin_slss, aun_not, aun_neg, agn_some, aeqN_nf, aeqN_f, aeqN_np, aeqN_p, anilc_p, aeqB_t, aeqB_f, aconv_i, apick_b, cond_true, cond_false, decide_true, decide_false, Bool.not_true, Bool.not_false, aext_t, ofPart_c, ofPart_a, part?_c, part?_a, cells?_c, cells?_a, tupN_2, tupN_3, Option.map_some, Option.some.injEq, List.getElem?_cons_zero, List.getElem?_cons_succ, not_true_eq_false, not_false_eq_true, quiet_same, bytesI_length, Option.join_some, List.append_assoc, List.cons_append, List.nil_append, List.length_append, List.length_cons, List.length_nil, Nat.zero_add, Nat.add_zero, rd_at, rd_at0, set_at, set_at0, List.set_cons_zero, List.set_cons_succ, ne_eq, decide_not, quiet_ext, newOk_some, List.cons_prefix_cons, List.nil_prefix, List.drop_succ_cons, List.drop_zero, List.all_cons, List.all_nil, Bool.and_true, true_and, and_true, aloadN_at, aloadN_at0, aload1_at, aload1_at0, astoreN_at, astoreN_at0, astore1_at, astore1_at0, aslA_at, aslA_at0, ldN_all, ld1_row, stN_all, st1_row, slr_all, Nat.reduceAdd, Nat.reduceMul, Nat.reduceLT]
      exact f1
    have hr : rd h' (g.length + 1) = some ⟨encB (zeros 256), true⟩ := by rw [f2.2.2 _ (by simp)]; simp
    change rd h' (g.length + 2) = some ⟨encB (fixX b), true⟩ at f3
    have t1 := loadAll (n := 256) f3 hxl
    have t2 := storeAll (n := 256) (xs := encB (fixX b)) hr hz hxl
    have t3 := loadAll (n := 256) (rd_set_same (x := some ⟨encB (fixX b), true⟩) (rd_lt hr)) hxl
    rw [R_bucket_Fix_eq, zeros_enc]
    generalize fixX b = X at *
    generalize hdB = H at *
    generalize zeros 256 = z at *
    generalize encB b = y at *
    exact ⟨_, by simp only [afAddr_p, List.append_nil, if_true, if_false, bnd_some, mp_some, cnd_t, cnd_f, gd_no, gd_tt, gd_tf, gd_ft, gd_ff, alenS_s, alen_sl, alen_ns, abin_add, abin_sub, abin_mul, abin_eql, abin_neq, abin_lss, abin_leq, abin_gtr, abin_geq, abin_seql, abin_sneq, abin_slss, aun_not, aun_neg, agn_some, aeqN_nf, aeqN_f, aeqN_np, aeqN_p, anilc_p, aeqB_t, aeqB_f, aconv_i, apick_b, cond_true, cond_false, decide_true, decide_false, Bool.not_true, Bool.not_false, aext_t, ofPart_c, ofPart_a, part?_c, part?_a, cells?_c, cells?_a, tupN_2, tupN_3, Option.map_some, Option.some.injEq, List.getElem?_cons_zero, List.getElem?_cons_succ, not_true_eq_false, not_false_eq_true, quiet_same, bytesI_length, Option.join_some, List.append_assoc, List.cons_append, List.nil_append, List.length_append, List.length_cons, List.length_nil, Nat.zero_add, Nat.add_zero, rd_at, rd_at0, set_at, set_at0, List.set_cons_zero, List.set_cons_succ, ne_eq, decide_not, quiet_ext, newOk_some, List.cons_prefix_cons, List.nil_prefix, List.drop_succ_cons, List.drop_zero, List.all_cons, List.all_nil, Bool.and_true, true_and, and_true, aloadN_at, aloadN_at0, aload1_at, aload1_at0, astoreN_at, astoreN_at0, astore1_at, astore1_at0, aslA_at, aslA_at0, ldN_all, ld1_row, stN_all, st1_row, slr_all, Nat.reduceAdd, Nat.reduceMul, Nat.reduceLT, hbl, hH, hz, hd, emk, hS, t1, t2, t3] <;> rfl⟩
  obtain ⟨g', e⟩ := key (ro h)
  exact S_bucket_Fix_flat e (by simp)

def rightB (b : List UInt8) : Bool := decide (fixX b = b)
theorem bucket_Right_eq {b : List UInt8} {h : Heap} (hb : b.length = 256) : S_bucket_Right [.a (encB b)] h = some (.c (.b (rightB b)), h) := by
  have key : ∀ g, ∃ g', R_bucket_Right 0 [.a (encB b)] g = some (.c (.b (rightB b)), g') := by
    intro g
    have hbl : (encB b).length = 256 := by rw [encB_length, hb]
    have hF := fun h => bucket_Fix_eq (h := h) hb
    have hE : aeq false (List.replicate 256 (.i .u8)) (.a (encB (fixX b))) (.a (encB b)) = some (.c (.b (rightB b))) := by
      have hxl := fixX_length (b := b)
      simp only [aeq]
      rw [if_pos ⟨by rw [encB_sh, hxl], by rw [encB_sh, hb]⟩]
      unfold rightB
      simp [encB_inj]
    rw [R_bucket_Right_eq]
    generalize rightB b = D at *
    generalize encB (fixX b) = x at *
    generalize encB b = y at *
    exact ⟨_, by simp only [afAddr_p, List.append_nil, if_true, if_false, bnd_some, mp_some, cnd_t, cnd_f, gd_no, gd_tt, gd_tf, gd_ft, gd_ff, alenS_s, alen_sl, alen_ns, abin_add, abin_sub, abin_mul, abin_eql, abin_neq, abin_lss, abin_leq, abin_gtr, abin_geq, abin_seql, abin_sneq, abin_slss, aun_not, aun_neg, agn_some, aeqN_nf, aeqN_f, aeqN_np, aeqN_p, anilc_p, aeqB_t, aeqB_f, aconv_i, apick_b, cond_true, cond_false, decide_true, decide_false, Bool.not_true, Bool.not_false, aext_t, ofPart_c, ofPart_a, part?_c, part?_a, cells?_c, cells?_a, tupN_2, tupN_3, Option.map_some, Option.some.injEq, List.getElem?_cons_zero, List.getElem?_cons_succ, not_true_eq_false, not_false_eq_true, quiet_same, bytesI_length, Option.join_some, List.append_assoc, List.cons_append, List.nil_append, List.length_append, List.length_cons, List.length_nil, Nat.zero_add, Nat.add_zero, rd_at, rd_at0, set_at, set_at0, List.set_cons_zero, List.set_cons_succ, ne_eq, decide_not, quiet_ext, newOk_some, List.cons_prefix_cons, List.nil_prefix, List.drop_succ_cons, List.drop_zero, List.all_cons, List.all_nil, Bool.and_true, true_and, and_true, aloadN_at, aloadN_at0, aload1_at, aload1_at0, astoreN_at, astoreN_at0, astore1_at, astore1_at0, aslA_at, aslA_at0, ldN_all, ld1_row, stN_all, st1_row, slr_all, Nat.reduceAdd, Nat.reduceMul, Nat.reduceLT, hbl, hF, hE] <;> rfl⟩
  obtain ⟨g', e⟩ := key (ro h)
  exact S_bucket_Right_flat e rfl

end Go.Proofs.Ytbbkpmbepljhkaa
