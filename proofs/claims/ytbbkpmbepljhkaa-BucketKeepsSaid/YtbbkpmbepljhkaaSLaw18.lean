/- The example of the chapter of buckets. -/
import Derived.Test.YtbbkpmbepljhkaaSBucketNew
import Derived.Test.YtbbkpmbepljhkaaSBucketList
import Derived.Test.YtbbkpmbepljhkaaGEscheatlaw18
set_option linter.all false
namespace Go.Proofs.Ytbbkpmbepljhkaa
open Go Go.Esc

theorem works18_eq (h : Heap) : S_escheatlaw18_works [] h = some (.c (.b true), h) := by
  have key : ∀ g, ∃ g', R_escheatlaw18_works 0 [] g = some (.c (.b true), g') := by
    intro g
    have ef : afill [Cell.s [], .i .i64 0] [(0, 1, .c (.s [97])), (1, 1, .c (.i .i64 5))] = some [.s [97], .i .i64 5] := rfl
    have ef2 : afill [Cell.s [], .i .i64 0] [(0, 2, .a [.s [97], .i .i64 5])] = some [.s [97], .i .i64 5] := rfl
    have ef3 : afill [Cell.i .i64 0, .s [], .i .i64 0] [(1, 2, .a [.s [97], .i .i64 5])] = some [.i .i64 0, .s [97], .i .i64 5] := rfl
    have hN := bucket_New_eq (v := .c (.sl g.length 0 1 2)) (nv := 1) (l := [([97], 5)]) (h := g ++ [some (Row.mk [.s [97], .i .i64 5] true)]) (Has.row (rw := true) (by simp [entsC, entC]) rfl rfl) (by simp)
    have e0 : newE [([97], 5)] = 0 := by decide +kernel
    rw [e0] at hN
    have hbl : (encB (newB [([97], 5)])).length = 256 := by rw [encB_length, newB_length]
    have hz : (List.replicate 256 (Cell.i .u8 0)).length = 256 := List.length_replicate
    obtain ⟨v, t, hL, hv, _⟩ := bucket_List_eq (b := newB [([97], 5)]) (h := g ++ [some (Row.mk [.s [97], .i .i64 5] true), some (Row.mk (encB (newB [([97], 5)])) true)]) newB_length
    have e1 : listX (newB [([97], 5)]) = [(0, ([97], 5))] := by decide +kernel
    rw [e1] at hv
    have hR := fun h => bucket_Room_eq (b := newB [([97], 5)]) (h := h) newB_length
    have e2 : roomX (newB [([97], 5)]) = some 1 := by decide +kernel
    rw [e2] at hR
    have hR : ∀ h, S_bucket_Room [.a (encB (newB [([97], 5)]))] h = some (.t [.c (.i .i64 1), .c (.b true)], h) := hR
    obtain ⟨id, off, ev, hid, k1, k2⟩ := hv.sl (by simp)
    have eb : aiAddrL 3 v (.c (.i .i64 0)) = some (.c (.p id off)) := by
      rw [ev]
      have := iAddrL_of (id := id) (off := off) (sz := 3) (k := .i64) (len := [((0 : Nat), (([97] : List UInt8), (5 : Int)))].length) (j := 0) (by simp)
      simpa using this
    have hld := k2 0 3 (by simp [slCs, slC])
    have e3 : ((slCs [(0, ([97], 5))]).drop 0).take 3 = [.i .i64 0, .s [97], .i .i64 5] := rfl
    rw [e3, Nat.add_zero] at hld
    have hlen : alen v = some (.c (.i .i64 1)) := hv.len
    have hq : aeq false [.i .i64, .s, .i .i64] (.a [.i .i64 0, .s [97], .i .i64 5]) (.a [.i .i64 0, .s [97], .i .i64 5]) = some (.c (.b true)) := by
      simp only [aeq]
      rw [if_pos ⟨rfl, rfl⟩]
      simp
    simp only [List.append_assoc, List.cons_append, List.nil_append] at hL hld
    rw [R_escheatlaw18_works_eq]
    generalize newB [([97], 5)] = B at *
    generalize List.replicate 256 (Cell.i .u8 0) = z at *
    generalize encB B = y at *
    exact ⟨_, by simp only [afAddr_p, List.append_nil, if_true, if_false, bnd_some, mp_some, cnd_t, cnd_f, gd_no, gd_tt, gd_tf, gd_ft, gd_ff, alenS_s, alen_sl, alen_ns, abin_add, abin_sub, abin_mul, abin_eql, abin_neq, abin_lss, abin_leq, abin_gtr, abin_geq, abin_seql, abin_sneq, abin_slss, aun_not, aun_neg, agn_some, aeqN_nf, aeqN_f, aeqN_np, aeqN_p, anilc_p, aeqB_t, aeqB_f, aconv_i, apick_b, cond_true, cond_false, decide_true, decide_false, Bool.not_true, Bool.not_false, aext_t, ofPart_c, ofPart_a, part?_c, part?_a, cells?_c, cells?_a, tupN_2, tupN_3, Option.map_some, Option.some.injEq, List.getElem?_cons_zero, List.getElem?_cons_succ, not_true_eq_false, not_false_eq_true, quiet_same, bytesI_length, Option.join_some, List.append_assoc, List.cons_append, List.nil_append, List.length_append, List.length_cons, List.length_nil, Nat.zero_add, Nat.add_zero, rd_at, rd_at0, set_at, set_at0, List.set_cons_zero, List.set_cons_succ, ne_eq, decide_not, quiet_ext, newOk_some, List.cons_prefix_cons, List.nil_prefix, List.drop_succ_cons, List.drop_zero, List.all_cons, List.all_nil, Bool.and_true, true_and, and_true, aloadN_at, aloadN_at0, aload1_at, aload1_at0, astoreN_at, astoreN_at0, astore1_at, astore1_at0, aslA_at, aslA_at0, ldN_all, ld1_row, stN_all, st1_row, slr_all, Nat.reduceAdd, Nat.reduceMul, Nat.reduceLT, ef, ef2, ef3, hN, hz, hbl, hL, hR, hlen, eb, hld, hq, List.length_cons, List.length_nil, Int.reduceEq] <;> rfl⟩
  obtain ⟨g', e⟩ := key (ro h)
  exact S_escheatlaw18_works_flat e rfl

end Go.Proofs.Ytbbkpmbepljhkaa
