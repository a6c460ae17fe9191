/- The law that a layout is got again, and that a block with one other byte is none, answers true. -/
import Derived.Test.YtbbkpmbepljhkaaSLaw14Apart
import Derived.Test.YtbbkpmbepljhkaaGEscheatlaw14SuperBack
set_option linter.all false
namespace Go.Proofs.Ytbbkpmbepljhkaa
open Go Go.Esc

theorem xor_cancel {a b c : Nat} (h : a ^^^ c = b ^^^ c) : a = b := by
  have := congrArg (· ^^^ c) h
  simpa [Nat.xor_assoc] using this
theorem xor_cancel' {a b c : Nat} (h : c ^^^ a = c ^^^ b) : a = b := by
  rw [Nat.xor_comm c a, Nat.xor_comm c b] at h
  exact xor_cancel h
theorem mul_inj {a b : Nat} (ha : a < 4294967296) (hb : b < 4294967296) (h : a * 16777619 % 4294967296 = b * 16777619 % 4294967296) : a = b := by
  have k : ∀ z : Nat, z < 4294967296 → z * 16777619 % 4294967296 * 899433627 % 4294967296 = z := fun z hz => by
    have e : z * 16777619 * 899433627 = z + 4294967296 * (z * 3513497) := by omega
    rw [Nat.mul_mod, Nat.mod_mod, ← Nat.mul_mod, e, Nat.add_mul_mod_self_left, Nat.mod_eq_of_lt hz]
  rw [← k a ha, h, k b hb]
theorem mixS_inj {h h' : Nat} {c c' : UInt8} (hh : h < 4294967296) (hh' : h' < 4294967296) (e : mixS h c = mixS h' c') : h ^^^ c.toNat = h' ^^^ c'.toNat := by
  have h1 := c.toNat_lt
  have h2 := c'.toNat_lt
  have a1 : h ^^^ c.toNat < 2 ^ 32 := Nat.xor_lt_two_pow (by simpa using hh) (by omega)
  have a2 : h' ^^^ c'.toNat < 2 ^ 32 := Nat.xor_lt_two_pow (by simpa using hh') (by omega)
  exact mul_inj (by simpa using a1) (by simpa using a2) e
theorem mixFrom_inj : ∀ (s : List UInt8) {h h' : Nat}, h < 4294967296 → h' < 4294967296 → mixFrom h s = mixFrom h' s → h = h'
  | [], _, _, _, _, e => e
  | c :: s, h, h', hh, hh', e => xor_cancel (mixS_inj hh hh' (mixFrom_inj s mixS_lt mixS_lt e))
theorem mixFrom_set : ∀ (s : List UInt8) (i : Nat) (x : UInt8) {h : Nat}, h < 4294967296 → mixFrom h (s.set i x) = mixFrom h s → s.set i x = s
  | [], _, _, _, _, _ => rfl
  | c :: s, 0, x, h, hh, e => by
    have := xor_cancel' (mixS_inj hh hh (mixFrom_inj s mixS_lt mixS_lt e))
    rw [List.set_cons_zero, UInt8.toNat_inj.1 this]
  | c :: s, i + 1, x, h, hh, e => by
    rw [List.set_cons_succ, mixFrom_set s i x mixS_lt e]

theorem bytes4_inj {a b : Nat} (ha : a < 4294967296) (hb : b < 4294967296) (h : bytesI 4 (a : Int) = bytesI 4 (b : Int)) : a = b := by
  have h1 := le_small (w := 4) (v := (a : Int)) (by omega) (by omega)
  have h2 := le_small (w := 4) (v := (b : Int)) (by omega) (by omega)
  rw [h] at h1
  omega

/-- Its parts. -/
theorem sup_take {b n m : Int} : (supB b n m).take 20 = supH b n m ∧ ((supB b n m).drop 20).take 4 = bytesI 4 (mixH (supH b n m) : Nat) := by
  have e : supB b n m = supH b n m ++ (bytesI 4 (mixH (supH b n m) : Nat) ++ zeros (256 - (supH b n m ++ bytesI 4 (mixH (supH b n m) : Nat)).length)) := by
    unfold supB padB; simp only [List.append_assoc]
  refine ⟨by rw [e]; exact List.take_left' supH_length, ?_⟩
  rw [e, List.drop_left' supH_length]
  exact List.take_left' (by simp)

theorem sup_other {b n m : Int} {i : Nat} {x : UInt8} (hi : i < 256) (hne : (supB b n m).set i x ≠ supB b n m) : okS ((supB b n m).set i x) = false := by
  cases hc : okS ((supB b n m).set i x) with
  | false => rfl
  | true =>
    exfalso
    unfold okS at hc
    rw [Bool.and_eq_true, decide_eq_true_eq] at hc
    have e := hc.2
    generalize fieldN ((supB b n m).set i x) 8 2 = b' at e
    generalize fieldN ((supB b n m).set i x) 10 2 = n' at e
    generalize fieldN ((supB b n m).set i x) 12 8 = m' at e
    obtain ⟨t1, t2⟩ := sup_take (b := b) (n := n) (m := m)
    obtain ⟨t1', t2'⟩ := sup_take (b := b') (n := n') (m := m')
    rw [e] at t1' t2'
    have same : supH b' n' m' = supH b n m → False := fun h => by
      refine hne ?_
      rw [← e]
      unfold supB
      rw [h]
    by_cases h20 : i < 20
    · have hd : ((supB b n m).set i x).drop 20 = (supB b n m).drop 20 := by rw [List.drop_set, if_pos (by omega)]
      rw [hd, t2] at t2'
      have hh := bytes4_inj mixH_lt mixH_lt t2'
      rw [List.take_set, t1] at t1'
      rw [← t1'] at hh
      have := mixFrom_set (supH b n m) i x (h := 2166136261) (by omega) hh.symm
      exact same (t1'.symm.trans this)
    · refine same ?_
      rw [← t1', List.take_set, t1, List.set_eq_of_length_le (by rw [supH_length]; omega)]

theorem superBack_eq {b n m : Int} {a x : UInt8} (h : Heap) (hm0 : 0 ≤ m) (hm1 : m < 18446744073709551616) : S_escheatlaw14_SuperBack [.a (layC b n m), .c (.i .u8 a.toNat), .c (.i .u8 x.toNat)] h = some (.c (.b true), h) := by
  have key : ∀ g, ∃ g', R_escheatlaw14_SuperBack 0 [.a (layC b n m), .c (.i .u8 a.toNat), .c (.i .u8 x.toNat)] g = some (.c (.b true), g') := by
    intro g
    have ha := a.toNat_lt
    have hp := fun h => super_Put_eq (b := b) (n := n) (m := m) (h := h) hm0 hm1
    have hz : (List.replicate 256 (Cell.i .u8 0)).length = 256 := List.length_replicate
    rw [R_escheatlaw14_SuperBack_eq]
    generalize List.replicate 256 (Cell.i .u8 0) = z at *
    cases c : mayL b n with
    | false =>
      simp only [c, cond_false] at hp
      have hZ : (encB (zeros 256)).length = 256 := by rw [encB_length]; exact zeros_length
      generalize zeros 256 = zz at *
      exact ⟨_, by simp only [afAddr_p, List.append_nil, if_true, if_false, bnd_some, mp_some, cnd_t, cnd_f, gd_no, gd_tt, gd_tf, gd_ft, gd_ff, alenS_s, alen_sl, alen_ns, abin_add, abin_sub, abin_mul, abin_eql, abin_neq, abin_lss, abin_leq, abin_gtr, abin_geq, abin_seql, abin_sneq, abin_slss, aun_not, aun_neg, aeqB_t, aeqB_f, aconv_i, apick_b, cond_true, cond_false, decide_true, decide_false, Bool.not_true, Bool.not_false, aext_t, ofPart_c, ofPart_a, part?_c, part?_a, cells?_c, cells?_a, tupN_2, tupN_3, Option.map_some, Option.some.injEq, List.getElem?_cons_zero, List.getElem?_cons_succ, not_true_eq_false, not_false_eq_true, quiet_same, bytesI_length, Option.join_some, List.append_assoc, List.cons_append, List.nil_append, List.length_append, List.length_cons, List.length_nil, Nat.zero_add, Nat.add_zero, rd_at, rd_at0, set_at, set_at0, List.set_cons_zero, List.set_cons_succ, ne_eq, decide_not, quiet_ext, newOk_some, List.cons_prefix_cons, List.nil_prefix, List.drop_succ_cons, List.drop_zero, List.all_cons, List.all_nil, Bool.and_true, true_and, and_true, aloadN_at, aloadN_at0, aload1_at, aload1_at0, astoreN_at, astoreN_at0, astore1_at, astore1_at0, aslA_at, aslA_at0, ldN_all, ld1_row, stN_all, st1_row, slr_all, Nat.reduceAdd, Nat.reduceMul, Nat.reduceLT, hp, hz, hZ, Int.reduceEq, works14_eq] <;> rfl⟩
    | true =>
      simp only [c, cond_true] at hp
      obtain ⟨f1, f2, f3⟩ := sup_fields c hm0 hm1
      have ok : okS (supB b n m) = true := by unfold okS; rw [f1, f2, f3, c]; simp
      have ly : layS (supB b n m) = layC b n m := by unfold layS; rw [ok, f1, f2, f3]; rfl
      have hg := fun h => super_Get_eq (b := supB b n m) (h := h) supB_length
      simp only [ok, ly] at hg
      have hB : (encB (supB b n m)).length = 256 := by rw [encB_length, supB_length]
      have hsl : ((supB b n m).set a.toNat x).length = 256 := by rw [List.length_set, supB_length]
      have hB' : (encB ((supB b n m).set a.toNat x)).length = 256 := by rw [encB_length, hsl]
      have ea : aiAddrA 256 1 (.c (.p (g.length + 3) 0)) (.c (.i .u8 (a.toNat : Int))) = some (.c (.p (g.length + 3) a.toNat)) := by rw [iAddrA_of (by omega)]; simp
      have ho : a.toNat < 256 := by omega
      have hg' := fun h => super_Get_eq (b := (supB b n m).set a.toNat x) (h := h) hsl
      have hL := layS_length (b := (supB b n m).set a.toNat x)
      have hq := aeq_t (l := (supB b n m).set a.toNat x) (m := supB b n m) (n := 256) hsl supB_length
      have es : (encB (supB b n m)).set a.toNat (.i .u8 x.toNat) = encB ((supB b n m).set a.toNat x) := encB_set _ _ _
      by_cases e : (supB b n m).set a.toNat x = supB b n m
      · rw [decide_eq_true e] at hq
        have ok' : okS ((supB b n m).set a.toNat x) = true := by rw [e]; exact ok
        simp only [ok'] at hg'
        exact ⟨_, by simp only [afAddr_p, List.append_nil, if_true, if_false, bnd_some, mp_some, cnd_t, cnd_f, gd_no, gd_tt, gd_tf, gd_ft, gd_ff, alenS_s, alen_sl, alen_ns, abin_add, abin_sub, abin_mul, abin_eql, abin_neq, abin_lss, abin_leq, abin_gtr, abin_geq, abin_seql, abin_sneq, abin_slss, aun_not, aun_neg, aeqB_t, aeqB_f, aconv_i, apick_b, cond_true, cond_false, decide_true, decide_false, Bool.not_true, Bool.not_false, aext_t, ofPart_c, ofPart_a, part?_c, part?_a, cells?_c, cells?_a, tupN_2, tupN_3, Option.map_some, Option.some.injEq, List.getElem?_cons_zero, List.getElem?_cons_succ, not_true_eq_false, not_false_eq_true, quiet_same, bytesI_length, Option.join_some, List.append_assoc, List.cons_append, List.nil_append, List.length_append, List.length_cons, List.length_nil, Nat.zero_add, Nat.add_zero, rd_at, rd_at0, set_at, set_at0, List.set_cons_zero, List.set_cons_succ, ne_eq, decide_not, quiet_ext, newOk_some, List.cons_prefix_cons, List.nil_prefix, List.drop_succ_cons, List.drop_zero, List.all_cons, List.all_nil, Bool.and_true, true_and, and_true, aloadN_at, aloadN_at0, aload1_at, aload1_at0, astoreN_at, astoreN_at0, astore1_at, astore1_at0, aslA_at, aslA_at0, ldN_all, ld1_row, stN_all, st1_row, slr_all, Nat.reduceAdd, Nat.reduceMul, Nat.reduceLT, hp, hz, hB, hg, ea, ho, es, hg', hL, hB', hq, super_Same_eq, Int.reduceEq, beq_self_eq_true, works14_eq] <;> rfl⟩
      · rw [decide_eq_false e] at hq
        have ok' := sup_other (b := b) (n := n) (m := m) (i := a.toNat) (x := x) (by omega) e
        simp only [ok'] at hg'
        exact ⟨_, by simp only [afAddr_p, List.append_nil, if_true, if_false, bnd_some, mp_some, cnd_t, cnd_f, gd_no, gd_tt, gd_tf, gd_ft, gd_ff, alenS_s, alen_sl, alen_ns, abin_add, abin_sub, abin_mul, abin_eql, abin_neq, abin_lss, abin_leq, abin_gtr, abin_geq, abin_seql, abin_sneq, abin_slss, aun_not, aun_neg, aeqB_t, aeqB_f, aconv_i, apick_b, cond_true, cond_false, decide_true, decide_false, Bool.not_true, Bool.not_false, aext_t, ofPart_c, ofPart_a, part?_c, part?_a, cells?_c, cells?_a, tupN_2, tupN_3, Option.map_some, Option.some.injEq, List.getElem?_cons_zero, List.getElem?_cons_succ, not_true_eq_false, not_false_eq_true, quiet_same, bytesI_length, Option.join_some, List.append_assoc, List.cons_append, List.nil_append, List.length_append, List.length_cons, List.length_nil, Nat.zero_add, Nat.add_zero, rd_at, rd_at0, set_at, set_at0, List.set_cons_zero, List.set_cons_succ, ne_eq, decide_not, quiet_ext, newOk_some, List.cons_prefix_cons, List.nil_prefix, List.drop_succ_cons, List.drop_zero, List.all_cons, List.all_nil, Bool.and_true, true_and, and_true, aloadN_at, aloadN_at0, aload1_at, aload1_at0, astoreN_at, astoreN_at0, astore1_at, astore1_at0, aslA_at, aslA_at0, ldN_all, ld1_row, stN_all, st1_row, slr_all, Nat.reduceAdd, Nat.reduceMul, Nat.reduceLT, hp, hz, hB, hg, ea, ho, es, hg', hL, hB', hq, super_Same_eq, beq_self_eq_true, works14_eq] <;> rfl⟩
  obtain ⟨g', e⟩ := key (ro h)
  exact S_escheatlaw14_SuperBack_flat e rfl

end Go.Proofs.Ytbbkpmbepljhkaa
