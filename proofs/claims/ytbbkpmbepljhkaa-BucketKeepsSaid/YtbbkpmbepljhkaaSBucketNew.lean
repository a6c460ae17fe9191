/- A bucket of entries. -/
import Derived.Test.YtbbkpmbepljhkaaSBucketFind
set_option linter.all false
namespace Go.Proofs.Ytbbkpmbepljhkaa
open Go Go.Esc

def entsC (l : List Ent) : List Cell := (l.map fun x => entC (some x)).flatten
theorem entsC_length {l : List Ent} : (entsC l).length = l.length * 2 := by
  induction l with
  | nil => rfl
  | cons x l ih => simp only [entsC, List.map_cons, List.flatten_cons, List.length_append, entC, List.length_cons, List.length_nil] at ih ⊢; omega
theorem drop_ent {k : Nat} {x : Ent} {r : List Cell} : List.drop ((k + 1) * 2) (entC (some x) ++ r) = List.drop (k * 2) r := by
  rw [show (k + 1) * 2 = k * 2 + 2 by omega]
  rfl
theorem entsC_at : ∀ (l : List Ent) (k : Nat) (hk : k < l.length), ((entsC l).drop (k * 2)).take 2 = entC (some l[k])
  | [], k, hk => by simp at hk
  | x :: l, 0, _ => rfl
  | x :: l, k + 1, hk => by
    have e : entsC (x :: l) = entC (some x) ++ entsC l := rfl
    rw [e, drop_ent, List.getElem_cons_succ]
    exact entsC_at l k (by simpa using hk)

def entK (l : List Ent) (k : Nat) : Ent := l.getD k ([], 0)
theorem entK_get {l : List Ent} {k : Nat} (hk : k < l.length) : entK l k = l[k] := by simp [entK, List.getD, hk]
/-- The block with so many of them. -/
def newL (l : List Ent) : Nat → List UInt8
  | 0 => hdB
  | k + 1 => layB (newL l k) (slotA k) (entB (entK l k).1 (entK l k).2)
theorem newL_length {l : List Ent} : ∀ k, k ≤ 7 → (newL l k).length = 256
  | 0, _ => hdB_length
  | k + 1, hk => by rw [newL, layB_length (by rw [newL_length k (by omega), entB_length]; unfold slotA; omega)]; exact newL_length k (by omega)
def atX (b nm : List UInt8) : Nat := match findX b nm with
  | some x => x.1
  | none => 0
theorem slC_at {o : Option Slt} : (slC o)[0]? = some (.i .i64 ((match o with | some x => x.1 | none => 0 : Nat) : Int)) := by cases o <;> rfl
def onceK (l : List Ent) (k : Nat) : Bool := decide (atX (newL l l.length) (entK l k).1 = k)
def onceN (l : List Ent) : Bool := (List.range' 0 l.length).all (onceK l)
def mayN (l : List Ent) : Bool := l.all fun x => mayE x.1 x.2

theorem new_l1 {v : Val} {nv q : Nat} {l : List Ent} {B : Heap} {g : Nat} (hv : Has B v 2 nv (entsC l)) (hn : l.length = nv) (h7 : nv ≤ 7) (hg : rd B g = some ⟨encB (zeros 256), true⟩) : ∀ (e k m : Nat) (h : Heap), k + e = nv → e < m → Low B.length B h → rd h B.length = some ⟨encB (newL l nv), true⟩ →
    ∃ h', bucket_New_l1 q m (.c (.p g 0)) (.c (.p B.length 0)) v (.c (.i .i64 (nv : Int))) (.c (.i .i64 (k : Int))) h = some (.t [.a (encB (bif (List.range' k e).all (onceK l) then newL l nv else zeros 256)), .c (.i .i64 (bif (List.range' k e).all (onceK l) then 0 else 5))], h')
  | e, k, 0, h, _, hm, _, _ => by omega
  | 0, k, m + 1, h, hk, hm, hlow, hr => by
    have e0 : k = nv := by omega
    subst e0
    have c0 : ¬ (k : Int) < k := by omega
    have hL : (encB (newL l k)).length = 256 := by rw [encB_length]; exact newL_length k h7
    have hz : (encB (zeros 256)).length = 256 := by rw [encB_length]; exact zeros_length
    have hrg := hlow.rd hg
    have s1 := loadAll hr hL
    have s2 := storeAll (xs := encB (newL l k)) hrg hz hL
    have s3 := loadAll (h := h.set g (some ⟨encB (newL l k), true⟩)) (id := g) (rd_set_same (rd_lt hrg)) hL
    rw [bucket_New_l1_eq, List.range'_zero, List.all_nil, cond_true, cond_true]
    generalize encB (newL l k) = y at *
    exact ⟨_, by simp only [afAddr_p, List.append_nil, if_true, if_false, bnd_some, mp_some, cnd_t, cnd_f, gd_no, gd_tt, gd_tf, gd_ft, gd_ff, alenS_s, alen_sl, alen_ns, abin_add, abin_sub, abin_mul, abin_eql, abin_neq, abin_lss, abin_leq, abin_gtr, abin_geq, abin_seql, abin_sneq, abin_slss, aun_not, aun_neg, agn_some, aeqN_nf, aeqN_f, aeqN_np, aeqN_p, anilc_p, aeqB_t, aeqB_f, aconv_i, apick_b, cond_true, cond_false, decide_true, decide_false, Bool.not_true, Bool.not_false, aext_t, ofPart_c, ofPart_a, part?_c, part?_a, cells?_c, cells?_a, tupN_2, tupN_3, Option.map_some, Option.some.injEq, List.getElem?_cons_zero, List.getElem?_cons_succ, not_true_eq_false, not_false_eq_true, quiet_same, bytesI_length, Option.join_some, List.append_assoc, List.cons_append, List.nil_append, List.length_append, List.length_cons, List.length_nil, Nat.zero_add, Nat.add_zero, rd_at, rd_at0, set_at, set_at0, List.set_cons_zero, List.set_cons_succ, ne_eq, decide_not, quiet_ext, newOk_some, List.cons_prefix_cons, List.nil_prefix, List.drop_succ_cons, List.drop_zero, List.all_cons, List.all_nil, Bool.and_true, true_and, and_true, c0, s1, s2, s3] <;> rfl⟩
  | e + 1, k, m + 1, h, hk, hm, hlow, hr => by
    have c0 : (k : Int) < nv := by omega
    have hL : (encB (newL l nv)).length = 256 := by rw [encB_length]; exact newL_length nv h7
    have hvB : Has h v 2 nv (entsC l) := by
      refine hv.low hlow fun id off m he => ?_
      rcases hv with ⟨rfl, _⟩ | ⟨id', off', r', rfl, hrd, _⟩
      · cases he
      · cases he; exact rd_lt hrd
    obtain ⟨id, off, ev, hid, k1, k2⟩ := hvB.sl (by omega)
    have eb : aiAddrL 2 v (.c (.i .i64 (k : Int))) = some (.c (.p id (off + k * 2))) := by rw [ev, iAddrL_of (by omega)]
    have hld := k2 (k * 2) 2 (by rw [entsC_length]; omega)
    rw [entsC_at l k (by omega), ← entK_get (by omega)] at hld
    have w1 := wi_succ (show k + 1 < 9223372036854775808 by omega)
    have hF := fun h => bucket_Find_eq (b := newL l nv) (nm := (entK l k).1) (h := h) (newL_length nv h7)
    have s1 := fun t => loadAll (h := h ++ t) (rd_append hr) hL
    have hat : (slC (findX (newL l nv) (entK l k).1))[0]? = some (.i .i64 (atX (newL l nv) (entK l k).1 : Nat)) := slC_at
    have hSl := slC_length (o := findX (newL l nv) (entK l k).1)
    rw [bucket_New_l1_eq, List.range'_succ, List.all_cons]
    have hon : onceK l k = decide (atX (newL l nv) (entK l k).1 = k) := by unfold onceK; rw [hn]
    rw [hon]
    generalize slC (findX (newL l nv) (entK l k).1) = S at *
    generalize atX (newL l nv) (entK l k).1 = A at *
    obtain ⟨h', ih⟩ := new_l1 (q := q) hv hn h7 hg e (k + 1) m (h ++ [some (Row.mk (entC (some (entK l k))) true), some (Row.mk S true)]) (by omega) (by omega) (hlow.new _) (rd_append hr)
    simp only [entC] at *
    by_cases c : A = k
    · subst c
      rw [decide_eq_true rfl, Bool.true_and]
      refine ⟨h', ?_⟩
      generalize encB (newL l nv) = y at *
      simp only [afAddr_p, List.append_nil, if_true, if_false, bnd_some, mp_some, cnd_t, cnd_f, gd_no, gd_tt, gd_tf, gd_ft, gd_ff, alenS_s, alen_sl, alen_ns, abin_add, abin_sub, abin_mul, abin_eql, abin_neq, abin_lss, abin_leq, abin_gtr, abin_geq, abin_seql, abin_sneq, abin_slss, aun_not, aun_neg, agn_some, aeqN_nf, aeqN_f, aeqN_np, aeqN_p, anilc_p, aeqB_t, aeqB_f, aconv_i, apick_b, cond_true, cond_false, decide_true, decide_false, Bool.not_true, Bool.not_false, aext_t, ofPart_c, ofPart_a, part?_c, part?_a, cells?_c, cells?_a, tupN_2, tupN_3, Option.map_some, Option.some.injEq, List.getElem?_cons_zero, List.getElem?_cons_succ, not_true_eq_false, not_false_eq_true, quiet_same, bytesI_length, Option.join_some, List.append_assoc, List.cons_append, List.nil_append, List.length_append, List.length_cons, List.length_nil, Nat.zero_add, Nat.add_zero, rd_at, rd_at0, set_at, set_at0, List.set_cons_zero, List.set_cons_succ, ne_eq, decide_not, quiet_ext, newOk_some, List.cons_prefix_cons, List.nil_prefix, List.drop_succ_cons, List.drop_zero, List.all_cons, List.all_nil, Bool.and_true, true_and, and_true, aloadN_at, aloadN_at0, aload1_at, aload1_at0, astoreN_at, astoreN_at0, astore1_at, astore1_at0, aslA_at, aslA_at0, ldN_all, ld1_row, stN_all, st1_row, slr_all, Nat.reduceAdd, Nat.reduceMul, Nat.reduceLT, c0, eb, hld, s1, hF, hat, hSl, w1]
      exact ih
    · rw [decide_eq_false c, Bool.false_and, cond_false, cond_false]
      have c' : ¬ (A : Int) = k := by omega
      have hz : (encB (zeros 256)).length = 256 := by rw [encB_length]; exact zeros_length
      have hrg := fun t : Heap => rd_append (g := t) (hlow.rd hg)
      have haf : afill (List.replicate 256 (Cell.i .u8 0)) [] = some (List.replicate 256 (Cell.i .u8 0)) := rfl
      rw [zeros_enc] at haf
      have s2 := fun t => storeAll (xs := encB (zeros 256)) (hrg t) hz hz
      have s3 := fun t => loadAll (h := (h ++ t).set g (some ⟨encB (zeros 256), true⟩)) (id := g) (rd_set_same (rd_lt (hrg t))) hz
      rw [zeros_enc]
      generalize zeros 256 = z at *
      generalize encB (newL l nv) = y at *
      exact ⟨_, by simp only [afAddr_p, List.append_nil, if_true, if_false, bnd_some, mp_some, cnd_t, cnd_f, gd_no, gd_tt, gd_tf, gd_ft, gd_ff, alenS_s, alen_sl, alen_ns, abin_add, abin_sub, abin_mul, abin_eql, abin_neq, abin_lss, abin_leq, abin_gtr, abin_geq, abin_seql, abin_sneq, abin_slss, aun_not, aun_neg, agn_some, aeqN_nf, aeqN_f, aeqN_np, aeqN_p, anilc_p, aeqB_t, aeqB_f, aconv_i, apick_b, cond_true, cond_false, decide_true, decide_false, Bool.not_true, Bool.not_false, aext_t, ofPart_c, ofPart_a, part?_c, part?_a, cells?_c, cells?_a, tupN_2, tupN_3, Option.map_some, Option.some.injEq, List.getElem?_cons_zero, List.getElem?_cons_succ, not_true_eq_false, not_false_eq_true, quiet_same, bytesI_length, Option.join_some, List.append_assoc, List.cons_append, List.nil_append, List.length_append, List.length_cons, List.length_nil, Nat.zero_add, Nat.add_zero, rd_at, rd_at0, set_at, set_at0, List.set_cons_zero, List.set_cons_succ, ne_eq, decide_not, quiet_ext, newOk_some, List.cons_prefix_cons, List.nil_prefix, List.drop_succ_cons, List.drop_zero, List.all_cons, List.all_nil, Bool.and_true, true_and, and_true, aloadN_at, aloadN_at0, aload1_at, aload1_at0, astoreN_at, astoreN_at0, astore1_at, astore1_at0, aslA_at, aslA_at0, ldN_all, ld1_row, stN_all, st1_row, slr_all, Nat.reduceAdd, Nat.reduceMul, Nat.reduceLT, c0, eb, hld, s1, hF, hat, hSl, c', haf, s2, s3] <;> rfl⟩

theorem new_l0 {v : Val} {nv q : Nat} {l : List Ent} {B : Heap} {g : Nat} (hv : Has B v 2 nv (entsC l)) (hn : l.length = nv) (h7 : nv ≤ 7) (hs : ∀ x ∈ l, x.1.length ≤ 60) (hg : rd B g = some ⟨encB (zeros 256), true⟩) (hq : nv < q) : ∀ (e k m : Nat) (h : Heap), k + e = nv → e < m → Low B.length B h → rd h B.length = some ⟨encB (newL l k), true⟩ →
    ∃ h', bucket_New_l0 q m v (.c (.p g 0)) (.c (.p B.length 0)) v (.c (.i .i64 (nv : Int))) (.c (.i .i64 (k : Int))) h = some (.t [.a (encB (bif mayN (l.drop k) && onceN l then newL l nv else zeros 256)), .c (.i .i64 (bif mayN (l.drop k) then (bif onceN l then 0 else 5) else 1))], h')
  | e, k, 0, h, _, hm, _, _ => by omega
  | 0, k, m + 1, h, hk, hm, hlow, hr => by
    have e0 : k = nv := by omega
    subst e0
    have c0 : ¬ (k : Int) < k := by omega
    have hvB : Has h v 2 k (entsC l) := by
      refine hv.low hlow fun id off m he => ?_
      rcases hv with ⟨rfl, _⟩ | ⟨id', off', r', rfl, hrd, _⟩
      · cases he
      · cases he; exact rd_lt hrd
    obtain ⟨h', e⟩ := new_l1 (q := q) hv hn h7 hg k 0 q h (by omega) hq hlow hr
    have em : mayN (l.drop k) = true := by rw [List.drop_of_length_le (by omega)]; rfl
    have eo : (List.range' 0 k).all (onceK l) = onceN l := by unfold onceN; rw [hn]
    rw [eo] at e
    rw [bucket_New_l0_eq, em, Bool.true_and, cond_true]
    exact ⟨h', by simp only [afAddr_p, List.append_nil, if_true, if_false, bnd_some, mp_some, cnd_t, cnd_f, gd_no, gd_tt, gd_tf, gd_ft, gd_ff, alenS_s, alen_sl, alen_ns, abin_add, abin_sub, abin_mul, abin_eql, abin_neq, abin_lss, abin_leq, abin_gtr, abin_geq, abin_seql, abin_sneq, abin_slss, aun_not, aun_neg, agn_some, aeqN_nf, aeqN_f, aeqN_np, aeqN_p, anilc_p, aeqB_t, aeqB_f, aconv_i, apick_b, cond_true, cond_false, decide_true, decide_false, Bool.not_true, Bool.not_false, aext_t, ofPart_c, ofPart_a, part?_c, part?_a, cells?_c, cells?_a, tupN_2, tupN_3, Option.map_some, Option.some.injEq, List.getElem?_cons_zero, List.getElem?_cons_succ, not_true_eq_false, not_false_eq_true, quiet_same, bytesI_length, Option.join_some, List.append_assoc, List.cons_append, List.nil_append, List.length_append, List.length_cons, List.length_nil, Nat.zero_add, Nat.add_zero, rd_at, rd_at0, set_at, set_at0, List.set_cons_zero, List.set_cons_succ, ne_eq, decide_not, quiet_ext, newOk_some, List.cons_prefix_cons, List.nil_prefix, List.drop_succ_cons, List.drop_zero, List.all_cons, List.all_nil, Bool.and_true, true_and, and_true, c0, hvB.len]; exact e⟩
  | e + 1, k, m + 1, h, hk, hm, hlow, hr => by
    have c0 : (k : Int) < nv := by omega
    have hNl := newL_length (l := l) k (by omega)
    have hL : (encB (newL l k)).length = 256 := by rw [encB_length]; exact hNl
    have hvB : Has h v 2 nv (entsC l) := by
      refine hv.low hlow fun id off m he => ?_
      rcases hv with ⟨rfl, _⟩ | ⟨id', off', r', rfl, hrd, _⟩
      · cases he
      · cases he; exact rd_lt hrd
    obtain ⟨id, off, ev, hid, k1, k2⟩ := hvB.sl (by omega)
    have eb : aiAddrL 2 v (.c (.i .i64 (k : Int))) = some (.c (.p id (off + k * 2))) := by rw [ev, iAddrL_of (by omega)]
    have hld := k2 (k * 2) 2 (by rw [entsC_length]; omega)
    rw [entsC_at l k (by omega), ← entK_get (by omega)] at hld
    have w1 := wi_succ (show k + 1 < 9223372036854775808 by omega)
    have hsk : (entK l k).1.length ≤ 60 := by rw [entK_get (by omega)]; exact hs _ (List.getElem_mem _)
    have hM := fun h => bucket_may_eq (s := (entK l k).1) (n := (entK l k).2) (h := h) (by omega)
    have hW := fun h => bucket_written_eq (s := (entK l k).1) (n := (entK l k).2) (h := h) (by omega)
    have hF := fun h => bucket_first_eq (k := k) (h := h) (by omega)
    have hmd : mayN (l.drop k) = (mayE (entK l k).1 (entK l k).2 && mayN (l.drop (k + 1))) := by
      rw [List.drop_eq_getElem_cons (by omega : k < l.length), entK_get (by omega)]; rfl
    have hEl : (entB (entK l k).1 (entK l k).2).length = 32 := entB_length
    have hLy := num_Lay_eq (v := .c (.sl (h.length + 1) 0 32 1)) (nv := 32) (data := entB (entK l k).1 (entK l k).2) (l := newL l k) (h := h ++ [some (Row.mk (entC (some (entK l k))) true), some (Row.mk (encB (entB (entK l k).1 (entK l k).2)) true)]) (Has.row (rw := true) (by simp) (by rw [encB_length, entB_length]) (noX_encB _)) hNl (by rw [hEl]; omega) (a := (slotA k : Nat))
    have elay : layI (newL l k) (slotA k : Nat) (entB (entK l k).1 (entK l k).2) = newL l (k + 1) := by
      unfold layI
      have : slotA k < 256 := by unfold slotA; omega
      rw [if_pos ⟨by omega, by omega⟩, Int.toNat_natCast, List.take_of_length_le (by rw [hEl]; unfold slotA; omega)]
      rfl
    rw [elay] at hLy
    have hq2 : quiet (h ++ [some (Row.mk (entC (some (entK l k))) true)]) (some (.c (.sl (h.length + 1) 0 32 1), h ++ [some (Row.mk (entC (some (entK l k))) true), some (Row.mk (encB (entB (entK l k).1 (entK l k).2)) true)])) = _ := quiet1
    have hrk : ∀ t : Heap, rd (h ++ t) B.length = some ⟨encB (newL l k), true⟩ := fun t => rd_append hr
    have s1 := fun t => loadAll (h := h ++ t) (hrk t) hL
    have hN1 : (encB (newL l (k + 1))).length = 256 := by rw [encB_length]; exact newL_length (k + 1) (by omega)
    have s2 := fun t => storeAll (h := h ++ t) (xs := encB (newL l (k + 1))) (hrk t) hL hN1
    obtain ⟨h', ih⟩ := new_l0 (q := q) hv hn h7 hs hg hq e (k + 1) m ((h ++ [some (Row.mk (entC (some (entK l k))) true), some (Row.mk (encB (entB (entK l k).1 (entK l k).2)) true)]).set B.length (some ⟨encB (newL l (k + 1)), true⟩)) (by omega) (by omega) ((hlow.new _).set (Nat.le_refl _) _) (rd_set_same (rd_lt (hrk _)))
    rw [bucket_New_l0_eq, hmd]
    generalize entB (entK l k).1 (entK l k).2 = E at *
    simp only [entC] at *
    cases cm : mayE (entK l k).1 (entK l k).2 with
    | true =>
      rw [cm] at hM
      rw [Bool.true_and]
      refine ⟨h', ?_⟩
      generalize encB (newL l (k + 1)) = y1 at *
      generalize encB (newL l k) = y at *
      simp only [afAddr_p, List.append_nil, if_true, if_false, bnd_some, mp_some, cnd_t, cnd_f, gd_no, gd_tt, gd_tf, gd_ft, gd_ff, alenS_s, alen_sl, alen_ns, abin_add, abin_sub, abin_mul, abin_eql, abin_neq, abin_lss, abin_leq, abin_gtr, abin_geq, abin_seql, abin_sneq, abin_slss, aun_not, aun_neg, agn_some, aeqN_nf, aeqN_f, aeqN_np, aeqN_p, anilc_p, aeqB_t, aeqB_f, aconv_i, apick_b, cond_true, cond_false, decide_true, decide_false, Bool.not_true, Bool.not_false, aext_t, ofPart_c, ofPart_a, part?_c, part?_a, cells?_c, cells?_a, tupN_2, tupN_3, Option.map_some, Option.some.injEq, List.getElem?_cons_zero, List.getElem?_cons_succ, not_true_eq_false, not_false_eq_true, quiet_same, bytesI_length, Option.join_some, List.append_assoc, List.cons_append, List.nil_append, List.length_append, List.length_cons, List.length_nil, Nat.zero_add, Nat.add_zero, rd_at, rd_at0, set_at, set_at0, List.set_cons_zero, List.set_cons_succ, ne_eq, decide_not, quiet_ext, newOk_some, List.cons_prefix_cons, List.nil_prefix, List.drop_succ_cons, List.drop_zero, List.all_cons, List.all_nil, Bool.and_true, true_and, and_true, aloadN_at, aloadN_at0, aload1_at, aload1_at0, astoreN_at, astoreN_at0, astore1_at, astore1_at0, aslA_at, aslA_at0, ldN_all, ld1_row, stN_all, st1_row, slr_all, Nat.reduceAdd, Nat.reduceMul, Nat.reduceLT, c0, eb, hld, hM, hF, hW, hq2, s1, hLy, s2, w1]
      exact ih
    | false =>
      rw [cm] at hM
      rw [Bool.false_and, Bool.false_and, cond_false, cond_false]
      have hz : (encB (zeros 256)).length = 256 := by rw [encB_length]; exact zeros_length
      have hrg := fun t : Heap => rd_append (g := t) (hlow.rd hg)
      have haf : afill (List.replicate 256 (Cell.i .u8 0)) [] = some (List.replicate 256 (Cell.i .u8 0)) := rfl
      rw [zeros_enc] at haf
      have s2 := fun t => storeAll (xs := encB (zeros 256)) (hrg t) hz hz
      have s3 := fun t => loadAll (h := (h ++ t).set g (some ⟨encB (zeros 256), true⟩)) (id := g) (rd_set_same (rd_lt (hrg t))) hz
      rw [zeros_enc]
      generalize zeros 256 = z at *
      exact ⟨_, by simp only [afAddr_p, List.append_nil, if_true, if_false, bnd_some, mp_some, cnd_t, cnd_f, gd_no, gd_tt, gd_tf, gd_ft, gd_ff, alenS_s, alen_sl, alen_ns, abin_add, abin_sub, abin_mul, abin_eql, abin_neq, abin_lss, abin_leq, abin_gtr, abin_geq, abin_seql, abin_sneq, abin_slss, aun_not, aun_neg, agn_some, aeqN_nf, aeqN_f, aeqN_np, aeqN_p, anilc_p, aeqB_t, aeqB_f, aconv_i, apick_b, cond_true, cond_false, decide_true, decide_false, Bool.not_true, Bool.not_false, aext_t, ofPart_c, ofPart_a, part?_c, part?_a, cells?_c, cells?_a, tupN_2, tupN_3, Option.map_some, Option.some.injEq, List.getElem?_cons_zero, List.getElem?_cons_succ, not_true_eq_false, not_false_eq_true, quiet_same, bytesI_length, Option.join_some, List.append_assoc, List.cons_append, List.nil_append, List.length_append, List.length_cons, List.length_nil, Nat.zero_add, Nat.add_zero, rd_at, rd_at0, set_at, set_at0, List.set_cons_zero, List.set_cons_succ, ne_eq, decide_not, quiet_ext, newOk_some, List.cons_prefix_cons, List.nil_prefix, List.drop_succ_cons, List.drop_zero, List.all_cons, List.all_nil, Bool.and_true, true_and, and_true, aloadN_at, aloadN_at0, aload1_at, aload1_at0, astoreN_at, astoreN_at0, astore1_at, astore1_at0, aslA_at, aslA_at0, ldN_all, ld1_row, stN_all, st1_row, slr_all, Nat.reduceAdd, Nat.reduceMul, Nat.reduceLT, c0, eb, hld, hM, haf, s2, s3] <;> rfl⟩

/-- The bucket, or why there is none. -/
def newE (l : List Ent) : Int := if 7 < l.length then 11 else if mayN l = true then (if onceN l = true then 0 else 5) else 1
def newB (l : List Ent) : List UInt8 := if newE l = 0 then newL l l.length else zeros 256
theorem newB_length {l : List Ent} : (newB l).length = 256 := by
  unfold newB
  split
  · rename_i h
    refine newL_length _ ?_
    false_or_by_contra
    unfold newE at h
    rw [if_pos (by omega)] at h
    omega
  · exact zeros_length

theorem bucket_New_eq {v : Val} {nv : Nat} {l : List Ent} {h : Heap} (hv : Has h v 2 nv (entsC l)) (hs : ∀ x ∈ l, x.1.length ≤ 60) : S_bucket_New [v] h = some (.t [.a (encB (newB l)), .c (.i .i64 (newE l))], h) := by
  have hn : l.length = nv := by have := hv.length; rw [entsC_length] at this; omega
  have key : ∀ g, Has g v 2 nv (entsC l) → ∃ g', R_bucket_New 8 [v] g = some (.t [.a (encB (newB l)), .c (.i .i64 (newE l))], g') := by
    intro g hv
    have hz : (encB (zeros 256)).length = 256 := by rw [encB_length]; exact zeros_length
    have hd : (encB hdB).length = 256 := by rw [encB_length]; exact hdB_length
    have hl := hv.len
    have hH := fun h => bucket_head_eq (h := h)
    rw [R_bucket_New_eq, zeros_enc]
    by_cases c : 7 < nv
    · have c0 : (7 : Int) < nv := by omega
      have e1 : newE l = 11 := by unfold newE; rw [if_pos (by omega)]
      have e2 : newB l = zeros 256 := by unfold newB; rw [e1, if_neg (by omega)]
      have haf : afill (List.replicate 256 (Cell.i .u8 0)) [] = some (List.replicate 256 (Cell.i .u8 0)) := rfl
      rw [zeros_enc] at haf
      rw [e1, e2]
      generalize zeros 256 = z at *
      exact ⟨_, by simp only [afAddr_p, List.append_nil, if_true, if_false, bnd_some, mp_some, cnd_t, cnd_f, gd_no, gd_tt, gd_tf, gd_ft, gd_ff, alenS_s, alen_sl, alen_ns, abin_add, abin_sub, abin_mul, abin_eql, abin_neq, abin_lss, abin_leq, abin_gtr, abin_geq, abin_seql, abin_sneq, abin_slss, aun_not, aun_neg, agn_some, aeqN_nf, aeqN_f, aeqN_np, aeqN_p, anilc_p, aeqB_t, aeqB_f, aconv_i, apick_b, cond_true, cond_false, decide_true, decide_false, Bool.not_true, Bool.not_false, aext_t, ofPart_c, ofPart_a, part?_c, part?_a, cells?_c, cells?_a, tupN_2, tupN_3, Option.map_some, Option.some.injEq, List.getElem?_cons_zero, List.getElem?_cons_succ, not_true_eq_false, not_false_eq_true, quiet_same, bytesI_length, Option.join_some, List.append_assoc, List.cons_append, List.nil_append, List.length_append, List.length_cons, List.length_nil, Nat.zero_add, Nat.add_zero, rd_at, rd_at0, set_at, set_at0, List.set_cons_zero, List.set_cons_succ, ne_eq, decide_not, quiet_ext, newOk_some, List.cons_prefix_cons, List.nil_prefix, List.drop_succ_cons, List.drop_zero, List.all_cons, List.all_nil, Bool.and_true, true_and, and_true, aloadN_at, aloadN_at0, aload1_at, aload1_at0, astoreN_at, astoreN_at0, astore1_at, astore1_at0, aslA_at, aslA_at0, ldN_all, ld1_row, stN_all, st1_row, slr_all, Nat.reduceAdd, Nat.reduceMul, Nat.reduceLT, hl, c0, haf, hz] <;> rfl⟩
    · have c0 : ¬ (7 : Int) < nv := by omega
      obtain ⟨h', e⟩ := new_l0 (q := 8) (B := g ++ [some (Row.mk (encB (zeros 256)) true)]) (g := g.length) (hv.more _) hn (by omega) hs (by simp) (by omega) nv 0 8 (g ++ [some (Row.mk (encB (zeros 256)) true), some (Row.mk (encB (newL l 0)) true)]) (by omega) (by omega)
        (by have := (Low.refl (h := g ++ [some (Row.mk (encB (zeros 256)) true)]) (Nat.le_refl _)).new [some (Row.mk (encB (newL l 0)) true)]
            simpa using this) (by simp)
      have e1 : newE l = (bif mayN l then (bif onceN l then 0 else 5) else 1) := by
        unfold newE
        rw [if_neg (by omega)]
        cases mayN l <;> cases onceN l <;> simp
      have e2 : newB l = (bif mayN l && onceN l then newL l nv else zeros 256) := by
        unfold newB
        rw [e1, ← hn]
        cases mayN l <;> cases onceN l <;> simp
      rw [List.drop_zero, ← e1, ← e2] at e
      rw [show newL l 0 = hdB from rfl] at e
      simp only [List.length_append, List.length_cons, List.length_nil, Nat.zero_add] at e
      refine ⟨h', ?_⟩
      generalize newB l = R at *
      generalize hdB = H at *
      generalize zeros 256 = z at *
      simp only [afAddr_p, List.append_nil, if_true, if_false, bnd_some, mp_some, cnd_t, cnd_f, gd_no, gd_tt, gd_tf, gd_ft, gd_ff, alenS_s, alen_sl, alen_ns, abin_add, abin_sub, abin_mul, abin_eql, abin_neq, abin_lss, abin_leq, abin_gtr, abin_geq, abin_seql, abin_sneq, abin_slss, aun_not, aun_neg, agn_some, aeqN_nf, aeqN_f, aeqN_np, aeqN_p, anilc_p, aeqB_t, aeqB_f, aconv_i, apick_b, cond_true, cond_false, decide_true, decide_false, Bool.not_true, Bool.not_false, aext_t, ofPart_c, ofPart_a, part?_c, part?_a, cells?_c, cells?_a, tupN_2, tupN_3, Option.map_some, Option.some.injEq, List.getElem?_cons_zero, List.getElem?_cons_succ, not_true_eq_false, not_false_eq_true, quiet_same, bytesI_length, Option.join_some, List.append_assoc, List.cons_append, List.nil_append, List.length_append, List.length_cons, List.length_nil, Nat.zero_add, Nat.add_zero, rd_at, rd_at0, set_at, set_at0, List.set_cons_zero, List.set_cons_succ, ne_eq, decide_not, quiet_ext, newOk_some, List.cons_prefix_cons, List.nil_prefix, List.drop_succ_cons, List.drop_zero, List.all_cons, List.all_nil, Bool.and_true, true_and, and_true, aloadN_at, aloadN_at0, aload1_at, aload1_at0, astoreN_at, astoreN_at0, astore1_at, astore1_at0, aslA_at, aslA_at0, ldN_all, ld1_row, stN_all, st1_row, slr_all, Nat.reduceAdd, Nat.reduceMul, Nat.reduceLT, hl, c0, hH, hz, hd]
      exact e
  obtain ⟨g', e⟩ := key (ro h) hv.ro
  exact S_bucket_New_flat e (by simp)

end Go.Proofs.Ytbbkpmbepljhkaa
