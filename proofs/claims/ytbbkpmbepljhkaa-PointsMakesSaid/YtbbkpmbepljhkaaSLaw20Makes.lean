/- The law that a block is the block of its numbers answers true. -/
import Derived.Test.YtbbkpmbepljhkaaSLaw20
import Derived.Test.YtbbkpmbepljhkaaGEscheatlaw20PointsMakes
set_option linter.all false
namespace Go.Proofs.Ytbbkpmbepljhkaa
open Go Go.Esc

theorem le_inj : ∀ {l m : List UInt8}, l.length = m.length → le l = le m → l = m
  | [], [], _, _ => rfl
  | [], _ :: _, h, _ => by simp at h
  | _ :: _, [], h, _ => by simp at h
  | x :: r, y :: s, h, e => by
    have h1 := x.toNat_lt
    have h2 := y.toNat_lt
    simp only [le] at e
    have e1 : x.toNat = y.toNat := by omega
    have e2 : le r = le s := by omega
    rw [UInt8.toNat_inj.1 e1, le_inj (by simpa using h) e2]

theorem bytes_pt {b : List UInt8} {i : Nat} (hb : b.length = 256) (hi : i < 128) : bytesI 2 (ptP b i) = (b.drop (2 * i)).take 2 := by
  have hr := ptP_range b i
  refine le_inj (by simp; omega) ?_
  have h1 := le_bytesI 2 (ptP b i)
  have h2 : ptP b i % 256 ^ 2 = ptP b i := Int.emod_eq_of_lt hr.1 (by omega)
  rw [h2] at h1
  have h3 : ptP b i = ((le ((b.drop (2 * i)).take 2) : Nat) : Int) := rfl
  omega

def fldsP (b : List UInt8) : Nat → List Int
  | 0 => []
  | i + 1 => fldsP b i ++ [ptP b i]
theorem fldsP_length {b : List UInt8} : ∀ i, (fldsP b i).length = i
  | 0 => rfl
  | i + 1 => by rw [fldsP, List.length_append, fldsP_length i]; rfl
theorem fldsP_fine {b : List UInt8} : ∀ i, (fldsP b i).all fineP = true
  | 0 => rfl
  | i + 1 => by rw [fldsP, List.all_append, fldsP_fine i]; simp [fineP_pt]
theorem fldsP_bytes {b : List UInt8} (hb : b.length = 256) : ∀ i, i ≤ 128 → numsB (fldsP b i) = b.take (2 * i)
  | 0, _ => by simp [fldsP, numsB]
  | i + 1, h => by
    rw [fldsP, numsB_snoc, fldsP_bytes hb i (by omega), bytes_pt hb (by omega), show 2 * (i + 1) = 2 * i + 2 by omega, List.take_add]
theorem fldsP_all {b : List UInt8} (hb : b.length = 256) : padB 256 (numsB (fldsP b 128)) = b := by
  rw [fldsP_bytes hb 128 (by omega), List.take_of_length_le (by omega)]
  unfold padB
  rw [hb, Nat.sub_self, show zeros 0 = [] from rfl, List.append_nil]

theorem makes_loop {g : Heap} {b : List UInt8} {q : Nat} (hb : b.length = 256) : ∀ (e i m : Nat) (h : Heap) (id : Nat), i + e = 128 → e < m → Low (g ++ [some (Row.mk (encB b) true), some (Row.mk (encB b) true)]).length (g ++ [some (Row.mk (encB b) true), some (Row.mk (encB b) true)]) h → (g ++ [some (Row.mk (encB b) true), some (Row.mk (encB b) true)]).length ≤ id → rd h id = some ⟨encI (fldsP b i), true⟩ →
    ∃ h', escheatlaw20_PointsMakes_l0 q m (.c (.p (g.length + 1) 0)) (.c (.sl id 0 i 1)) (.c (.i .i64 i)) h = some (.c (.b true), h')
  | e, i, 0, h, id, _, hm, _, _, _ => by omega
  | 0, i, m + 1, h, id, hi, hm, hlow, hid, hr => by
    have e0 : i = 128 := by omega
    subst e0
    have c0 : ¬ ((128 : Nat) : Int) < 128 := by omega
    have hB : (encB b).length = 256 := by rw [encB_length, hb]
    have hz : (List.replicate 256 (Cell.i .u8 0)).length = 256 := List.length_replicate
    have hrb : rd h (g.length + 1) = some ⟨encB b, true⟩ := hlow.rd (by simp)
    have s1 : ∀ l, aloadN (h ++ l) 256 (.c (.p (g.length + 1) 0)) = some (.a (encB b)) := fun l => loadAll (rd_append hrb) hB
    have hM := points_Make_eq (h := h) (v := .c (.sl id 0 128 1)) (nv := 128) (l := fldsP b 128) (Has.tr hr (by rw [encI_length, fldsP_length]) (noX_encI _)) (by omega)
    rw [fldsP_fine, cond_true, cond_true, fldsP_all hb] at hM
    have hq := aeq_f (n := 256) hb hb
    rw [decide_eq_true rfl] at hq
    have hL := fun h => points_List_eq (h := h) hb
    have hT := fun h => points_Last_eq (h := h) hb
    have c1 : ((listP b 128).length : Int) ≤ (lastP b 128 : Nat) := by have := list_last (b := b) 128; omega
    rw [escheatlaw20_PointsMakes_l0_eq]
    generalize List.replicate 256 (Cell.i .u8 0) = z at *
    exact ⟨_, by simp only [afAddr_p, List.append_nil, if_true, if_false, bnd_some, mp_some, cnd_t, cnd_f, gd_no, gd_tt, gd_tf, gd_ft, gd_ff, alenS_s, alen_sl, alen_ns, abin_add, abin_sub, abin_mul, abin_eql, abin_neq, abin_lss, abin_leq, abin_gtr, abin_geq, abin_seql, abin_sneq, abin_slss, aun_not, aun_neg, aeqB_t, aeqB_f, aconv_i, apick_b, cond_true, cond_false, decide_true, decide_false, Bool.not_true, Bool.not_false, aext_t, ofPart_c, ofPart_a, part?_c, part?_a, cells?_c, cells?_a, tupN_2, tupN_3, Option.map_some, Option.some.injEq, List.getElem?_cons_zero, List.getElem?_cons_succ, not_true_eq_false, not_false_eq_true, quiet_same, bytesI_length, Option.join_some, List.append_assoc, List.cons_append, List.nil_append, List.length_append, List.length_cons, List.length_nil, Nat.zero_add, Nat.add_zero, rd_at, rd_at0, set_at, set_at0, List.set_cons_zero, List.set_cons_succ, ne_eq, decide_not, quiet_ext, newOk_some, List.cons_prefix_cons, List.nil_prefix, List.drop_succ_cons, List.drop_zero, List.all_cons, List.all_nil, Bool.and_true, true_and, and_true, aloadN_at, aloadN_at0, aload1_at, aload1_at0, astoreN_at, astoreN_at0, astore1_at, astore1_at0, aslA_at, aslA_at0, ldN_all, ld1_row, stN_all, st1_row, slr_all, Nat.reduceAdd, Nat.reduceMul, Nat.reduceLT, c0, hM, hz, hB, s1, hq, hL, hT, c1, works20_eq] <;> rfl⟩
  | e + 1, i, m + 1, h, id, hi, hm, hlow, hid, hr => by
    have c0 : (i : Int) < 128 := by omega
    have hB : (encB b).length = 256 := by rw [encB_length, hb]
    have s1 := loadAll (h := h) (id := g.length + 1) (cs := encB b) (hlow.rd (by simp)) hB
    have hG := fun h => points_Get_at (h := h) hb (show i < 128 by omega)
    obtain ⟨h1, a1, a2, a3, a4, a5⟩ := push (ys := [.i .i64 (ptP b i)]) (sz := 1) (n := i) hlow hr (by rw [encI_length, fldsP_length]; omega) hid rfl (by omega) (by omega)
    have he : encI (fldsP b i) ++ [.i .i64 (ptP b i)] = encI (fldsP b (i + 1)) := by rw [fldsP]; simp [encI]
    rw [he] at a2
    obtain ⟨h', ih⟩ := makes_loop (q := q) hb e (i + 1) m h1 (h.length + 1) (by omega) (by omega) a3 a4 a2
    have ef : afill [Cell.i .i64 0] [(0, 1, .c (.i .i64 (ptP b i)))] = some [.i .i64 (ptP b i)] := rfl
    rw [escheatlaw20_PointsMakes_l0_eq]
    refine ⟨h', ?_⟩
    simp only [afAddr_p, List.append_nil, if_true, if_false, bnd_some, mp_some, cnd_t, cnd_f, gd_no, gd_tt, gd_tf, gd_ft, gd_ff, alenS_s, alen_sl, alen_ns, abin_add, abin_sub, abin_mul, abin_eql, abin_neq, abin_lss, abin_leq, abin_gtr, abin_geq, abin_seql, abin_sneq, abin_slss, aun_not, aun_neg, aeqB_t, aeqB_f, aconv_i, apick_b, cond_true, cond_false, decide_true, decide_false, Bool.not_true, Bool.not_false, aext_t, ofPart_c, ofPart_a, part?_c, part?_a, cells?_c, cells?_a, tupN_2, tupN_3, Option.map_some, Option.some.injEq, List.getElem?_cons_zero, List.getElem?_cons_succ, not_true_eq_false, not_false_eq_true, quiet_same, bytesI_length, Option.join_some, List.append_assoc, List.cons_append, List.nil_append, List.length_append, List.length_cons, List.length_nil, Nat.zero_add, Nat.add_zero, rd_at, rd_at0, set_at, set_at0, List.set_cons_zero, List.set_cons_succ, ne_eq, decide_not, quiet_ext, newOk_some, List.cons_prefix_cons, List.nil_prefix, List.drop_succ_cons, List.drop_zero, List.all_cons, List.all_nil, Bool.and_true, true_and, and_true, c0, s1, hG, ef, a1, wi_succ (show i + 1 < 9223372036854775808 by omega)]
    exact ih

theorem pointsMakes_eq {b : List UInt8} (h : Heap) (hb : b.length = 256) : S_escheatlaw20_PointsMakes [.a (encB b)] h = some (.c (.b true), h) := by
  have key : ∀ N, 128 < N → ∀ g, ∃ g', R_escheatlaw20_PointsMakes N [.a (encB b)] g = some (.c (.b true), g') := by
    intro N hN g
    have hB : (encB b).length = 256 := by rw [encB_length, hb]
    have hz : (List.replicate 256 (Cell.i .u8 0)).length = 256 := List.length_replicate
    obtain ⟨h', e⟩ := makes_loop (g := g) (q := N) hb 128 0 N (g ++ [some ⟨encB b, true⟩, some ⟨encB b, true⟩, some ⟨[], true⟩]) (g.length + 2) (by omega) (by omega)
      (by have := (Low.refl (h := g ++ [some (Row.mk (encB b) true), some (Row.mk (encB b) true)]) (Nat.le_refl _)).new [some ⟨[], true⟩]
          simpa using this) (by simp) (by simp [fldsP, encI])
    rw [R_escheatlaw20_PointsMakes_eq]
    generalize List.replicate 256 (Cell.i .u8 0) = z at *
    exact ⟨h', by simp only [afAddr_p, List.append_nil, if_true, if_false, bnd_some, mp_some, cnd_t, cnd_f, gd_no, gd_tt, gd_tf, gd_ft, gd_ff, alenS_s, alen_sl, alen_ns, abin_add, abin_sub, abin_mul, abin_eql, abin_neq, abin_lss, abin_leq, abin_gtr, abin_geq, abin_seql, abin_sneq, abin_slss, aun_not, aun_neg, aeqB_t, aeqB_f, aconv_i, apick_b, cond_true, cond_false, decide_true, decide_false, Bool.not_true, Bool.not_false, aext_t, ofPart_c, ofPart_a, part?_c, part?_a, cells?_c, cells?_a, tupN_2, tupN_3, Option.map_some, Option.some.injEq, List.getElem?_cons_zero, List.getElem?_cons_succ, not_true_eq_false, not_false_eq_true, quiet_same, bytesI_length, Option.join_some, List.append_assoc, List.cons_append, List.nil_append, List.length_append, List.length_cons, List.length_nil, Nat.zero_add, Nat.add_zero, rd_at, rd_at0, set_at, set_at0, List.set_cons_zero, List.set_cons_succ, ne_eq, decide_not, quiet_ext, newOk_some, List.cons_prefix_cons, List.nil_prefix, List.drop_succ_cons, List.drop_zero, List.all_cons, List.all_nil, Bool.and_true, true_and, and_true, aloadN_at, aloadN_at0, aload1_at, aload1_at0, astoreN_at, astoreN_at0, astore1_at, astore1_at0, aslA_at, aslA_at0, ldN_all, ld1_row, stN_all, st1_row, slr_all, Nat.reduceAdd, Nat.reduceMul, Nat.reduceLT, hB, hz]; exact e⟩
  obtain ⟨g', e⟩ := key (h.length + 129) (by omega) (ro h)
  exact S_escheatlaw20_PointsMakes_flat e rfl

end Go.Proofs.Ytbbkpmbepljhkaa
