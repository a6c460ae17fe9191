/- The law of the inode of bytes answers true. -/
import Derived.Test.YtbbkpmbepljhkaaSLaw16
import Derived.Test.YtbbkpmbepljhkaaSRef16
import Derived.Test.YtbbkpmbepljhkaaGEscheatlaw16InodeGets
set_option linter.all false
namespace Go.Proofs.Ytbbkpmbepljhkaa
open Go Go.Esc

/-- The same cells. -/
theorem aeq_clean {b : List UInt8} : aeq false [Sh.i .i64, .i .i64, .i .i64, .i .i64, .i .i64, .i .i64, .i .i64, .i .i64, .i .i64, .i .i64, .i .i64] (.a (cleanC b)) (.a (cleanC b)) = some (.c (.b true)) := by
  unfold cleanC
  cases cleanI b with
  | true =>
    have := aeq_ino (k := getK b) (l := getL b) (s := getS b) (p := getP b) (k' := getK b) (l' := getL b) (s' := getS b) (p' := getP b) (neg := false) (getD7_length (b := b)) (getD7_length (b := b))
    simpa using this
  | false =>
    have := aeq_ino (k := 0) (l := 0) (s := 0) (p := 0) (k' := 0) (l' := 0) (s' := 0) (p' := 0) (neg := false) (zI_length (n := 7)) (zI_length (n := 7))
    simpa using this

theorem inodeGets_eq {b : List UInt8} {x : Int} (h : Heap) (hb : b.length = 32) : S_escheatlaw16_InodeGets [.a (encB b), .c (.i .i64 x)] h = some (.c (.b true), h) := by
  have key : ∀ g, ∃ g', R_escheatlaw16_InodeGets 0 [.a (encB b), .c (.i .i64 x)] g = some (.c (.b true), g') := by
    intro g
    have hl : (encB b).length = 32 := by rw [encB_length, hb]
    have z11 : [Cell.i .i64 0, .i .i64 0, .i .i64 0, .i .i64 0, .i .i64 0, .i .i64 0, .i .i64 0, .i .i64 0, .i .i64 0, .i .i64 0, .i .i64 0] = inoC 0 0 0 0 (zI 7) := rfl
    have l11 : (inoC 0 0 0 0 (zI 7)).length = 11 := rfl
    have hC := cleanC_length (b := b)
    have r1 := ref16_Clean_eq (h := g ++ [some ⟨encB b, true⟩, some ⟨cleanC b, true⟩]) (v := .c (.sl g.length 0 32 1)) (nv := 32) (Has.tr (by simp) (by omega) (noX_encB _)) hb
    have r2 := ref16_Get_eq (h := g ++ [some ⟨encB b, true⟩, some ⟨cleanC b, true⟩, some ⟨cleanC b, true⟩]) (v := .c (.sl g.length 0 32 1)) (nv := 32) (Has.tr (by simp) (by omega) (noX_encB _)) hb
    have q1 := aeq_ino (k := getK b) (l := getL b) (s := getS b) (p := getP b) (k' := getK b) (l' := getL b) (s' := getS b) (p' := getP b) (neg := false) (getD7_length (b := b)) (getD7_length (b := b))
    simp only [cond_false, decide_true] at q1
    rw [R_escheatlaw16_InodeGets_eq, z11]
    generalize inoC 0 0 0 0 (zI 7) = y at *
    exact ⟨_, by simp only [afAddr_p, List.append_nil, if_true, if_false, bnd_some, mp_some, cnd_t, cnd_f, gd_no, gd_tt, gd_tf, gd_ft, gd_ff, alenS_s, alen_sl, alen_ns, abin_add, abin_sub, abin_mul, abin_eql, abin_neq, abin_lss, abin_leq, abin_gtr, abin_geq, abin_seql, abin_sneq, abin_slss, aun_not, aun_neg, aeqB_t, aeqB_f, aconv_i, apick_b, cond_true, cond_false, decide_true, decide_false, Bool.not_true, Bool.not_false, aext_t, ofPart_c, ofPart_a, part?_c, part?_a, cells?_c, cells?_a, tupN_2, tupN_3, Option.map_some, Option.some.injEq, List.getElem?_cons_zero, List.getElem?_cons_succ, not_true_eq_false, not_false_eq_true, quiet_same, bytesI_length, Option.join_some, List.append_assoc, List.cons_append, List.nil_append, List.length_append, List.length_cons, List.length_nil, Nat.zero_add, Nat.add_zero, rd_at, rd_at0, set_at, set_at0, List.set_cons_zero, List.set_cons_succ, ne_eq, decide_not, quiet_ext, newOk_some, List.cons_prefix_cons, List.nil_prefix, List.drop_succ_cons, List.drop_zero, List.all_cons, List.all_nil, Bool.and_true, true_and, and_true, aloadN_at, aloadN_at0, aload1_at, aload1_at0, astoreN_at, astoreN_at0, astore1_at, astore1_at0, aslA_at, aslA_at0, ldN_all, ld1_row, stN_all, st1_row, slr_all, Nat.reduceAdd, Nat.reduceMul, Nat.reduceLT, hl, inode_Clean_eq hb, l11, hC, r1, inode_Get_eq hb, r2, q1, aeq_clean, inode_Blocks_eq, ref16_Blocks_eq, beq_self_eq_true, works16_eq] <;> rfl⟩
  obtain ⟨g', e⟩ := key (ro h)
  exact S_escheatlaw16_InodeGets_flat e rfl

end Go.Proofs.Ytbbkpmbepljhkaa
