/- The law of places of an index answers true. -/
import Derived.Test.YtbbkpmbepljhkaaSIndexRef
import Derived.Test.YtbbkpmbepljhkaaSLaw19
import Derived.Test.YtbbkpmbepljhkaaSInts
import Derived.Test.YtbbkpmbepljhkaaGEscheatlaw19IndexLooks
set_option linter.all false
namespace Go.Proofs.Ytbbkpmbepljhkaa
open Go Go.Esc

theorem lowM_depth {d : Int} {x : Nat} : lowM x (depX d : Nat) = x % manyX d := by
  unfold lowM manyX
  have := depX_le d
  rw [Int.toNat_natCast]
  by_cases c : ((depX d : Nat) : Int) < 1
  · have : depX d = 0 := by omega
    rw [if_pos c, this]; simp [Nat.mod_one]
  · rw [if_neg c, if_neg (by omega)]

theorem indexLooks_eq {d p b : Int} {t : List Int} {x : Nat} (h : Heap) (ht : t.length = 32) (hx : x < 4294967296) : S_escheatlaw19_IndexLooks [.a (encI (d :: t)), .c (.i .u32 (x : Int)), .a (encI [p, b])] h = some (.c (.b true), h) := by
  have key : ∀ g, ∃ g', R_escheatlaw19_IndexLooks 0 [.a (encI (d :: t)), .c (.i .u32 (x : Int)), .a (encI [p, b])] g = some (.c (.b true), g') := by
    intro g
    have hB := encX_length (d := d) ht
    have hz : (encI (0 :: zI 32)).length = 33 := encX_length (d := 0) zI_length
    have e2 : encI [p, b] = [.i .i64 p, .i .i64 b] := rfl
    have hPl := fun h => index_Place_eq (d := d) (h := h) ht hx
    have hD := fun h => ref19_Deep_eq (d := d) (t := t) (h := h)
    have hL := fun h => ref02_Low_eq (b := (depX d : Nat)) (h := h) hx
    rw [lowM_depth] at hL
    have w1 : IntKind.wrap .u64 (x : Int) = (x : Int) := wrap_u64 (by omega) (by omega)
    have hBi := fun h => index_Bits_eq (d := d) (p := p) (h := h) ht
    have hBr := fun h => ref19_Bits_eq (d := d) (p := p) (h := h) ht
    have hP := fun h => index_Places_eq (d := d) (p := p) (b := b) (h := h) ht
    have hPr := fun h => ref19_Places_eq (d := d) (p := p) (b := b) (h := h) ht
    have hBu := fun h => index_Buckets_eq (d := d) (h := h) ht
    have hBur := fun h => ref19_Buckets_eq (d := d) (h := h) ht
    have a0 : ∀ k, aiAddrA 2 1 (.c (.p k 0)) (.c (.i .i64 0)) = some (.c (.p k 0)) := fun k => rfl
    have a1 : ∀ k, aiAddrA 2 1 (.c (.p k 0)) (.c (.i .i64 1)) = some (.c (.p k 1)) := fun k => rfl
    have hll := plX_length d p b
    have hbl := bucL_length t (manyX d)
    have hm32 := manyX_le d
    -- both lists of places, and of buckets
    have hI : ∀ (h : Heap) (i j : Nat), rd h i = some ⟨encI (encN (plX d p b)), true⟩ → rd h j = some ⟨encI (encN (plX d p b)), true⟩ → S_escheatref04_Ints [.c (.sl i 0 (plX d p b).length 1), .c (.sl j 0 (plX d p b).length 1)] h = some (.c (.b true), h) := by
      intro h i j r1 r2
      have := ref04_Ints_eq (Has.row (sz := 1) (n := (plX d p b).length) r1 (by rw [encI_length, encN_length]; omega) (noX_encI _)) (Has.row (sz := 1) (n := (plX d p b).length) r2 (by rw [encI_length, encN_length]; omega) (noX_encI _)) (by rw [encN_length]; omega)
      rw [decide_eq_true rfl] at this; exact this
    have hJ : ∀ (h : Heap) (i j : Nat), rd h i = some ⟨encI (bucL t (manyX d)), true⟩ → rd h j = some ⟨encI (bucL t (manyX d)), true⟩ → S_escheatref04_Ints [.c (.sl i 0 (bucL t (manyX d)).length 1), .c (.sl j 0 (bucL t (manyX d)).length 1)] h = some (.c (.b true), h) := by
      intro h i j r1 r2
      have := ref04_Ints_eq (Has.row (sz := 1) (n := (bucL t (manyX d)).length) r1 (by rw [encI_length]; omega) (noX_encI _)) (Has.row (sz := 1) (n := (bucL t (manyX d)).length) r2 (by rw [encI_length]; omega) (noX_encI _)) (by omega)
      rw [decide_eq_true rfl] at this; exact this
    rw [R_escheatlaw19_IndexLooks_eq, zI_enc, e2]
    generalize bucL t (manyX d) = Bu at *
    generalize plX d p b = Pl at *
    generalize bitX d t p = Bi at *
    generalize x % manyX d = Lo at *
    generalize encI (0 :: zI 32) = z0 at *
    generalize encI (d :: t) = y at *
    generalize encI (encN Pl) = u at *
    generalize encI Bu = w at *
    exact ⟨_, by simp only [afAddr_p, List.append_nil, if_true, if_false, bnd_some, mp_some, cnd_t, cnd_f, gd_no, gd_tt, gd_tf, gd_ft, gd_ff, alenS_s, alen_sl, alen_ns, abin_add, abin_sub, abin_mul, abin_eql, abin_neq, abin_lss, abin_leq, abin_gtr, abin_geq, abin_seql, abin_sneq, abin_slss, aun_not, aun_neg, aeqB_t, aeqB_f, aconv_i, apick_b, cond_true, cond_false, decide_true, decide_false, Bool.not_true, Bool.not_false, aext_t, ofPart_c, ofPart_a, part?_c, part?_a, cells?_c, cells?_a, tupN_2, tupN_3, Option.map_some, Option.some.injEq, List.getElem?_cons_zero, List.getElem?_cons_succ, not_true_eq_false, not_false_eq_true, quiet_same, bytesI_length, Option.join_some, List.append_assoc, List.cons_append, List.nil_append, List.length_append, List.length_cons, List.length_nil, Nat.zero_add, Nat.add_zero, rd_at, rd_at0, set_at, set_at0, List.set_cons_zero, List.set_cons_succ, ne_eq, decide_not, quiet_ext, newOk_some, List.cons_prefix_cons, List.nil_prefix, List.drop_succ_cons, List.drop_zero, List.all_cons, List.all_nil, Bool.and_true, true_and, and_true, aloadN_at, aloadN_at0, aload1_at, aload1_at0, astoreN_at, astoreN_at0, astore1_at, astore1_at0, aslA_at, aslA_at0, ldN_all, ld1_row, stN_all, st1_row, slr_all, Nat.reduceAdd, Nat.reduceMul, Nat.reduceLT, hB, hz, hPl, w1, hD, hL, a0, a1, hBi, hBr, hP, hPr, hI, hJ, hBu, hBur, works19_eq] <;> rfl⟩
  obtain ⟨g', e⟩ := key (ro h)
  exact S_escheatlaw19_IndexLooks_flat e rfl

end Go.Proofs.Ytbbkpmbepljhkaa
