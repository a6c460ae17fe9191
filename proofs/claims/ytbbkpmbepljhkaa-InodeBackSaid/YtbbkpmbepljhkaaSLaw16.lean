/- What the laws of the chapter of inodes have in common. -/
import Derived.Test.YtbbkpmbepljhkaaSInode
import Derived.Test.YtbbkpmbepljhkaaSRef01
import Derived.Test.YtbbkpmbepljhkaaGEscheatlaw16
set_option linter.all false
namespace Go.Proofs.Ytbbkpmbepljhkaa
open Go Go.Esc

theorem works16_eq (h : Heap) : S_escheatlaw16_works [] h = some (.c (.b true), h) := by
  have key : ∀ g, ∃ g', R_escheatlaw16_works 0 [] g = some (.c (.b true), g') := by
    intro g
    have e1 : afill [Cell.i .i64 0, .i .i64 0, .i .i64 0, .i .i64 0, .i .i64 0, .i .i64 0, .i .i64 0, .i .i64 0, .i .i64 0, .i .i64 0, .i .i64 0] [(0, 1, .c (.i .i64 1)), (1, 1, .c (.i .i64 1)), (2, 1, .c (.i .i64 258))] = some (inoC 1 1 258 0 (zI 7)) := rfl
    have e2 : afill [Cell.i .u8 0, .i .u8 0, .i .u8 0, .i .u8 0, .i .u8 0, .i .u8 0] [(0, 1, .c (.i .u8 1)), (1, 1, .c (.i .u8 0)), (2, 1, .c (.i .u8 1)), (3, 1, .c (.i .u8 0)), (4, 1, .c (.i .u8 2)), (5, 1, .c (.i .u8 1))] = some (encB [1, 0, 1, 0, 2, 1]) := rfl
    have hp := inode_Put_eq (h := g) (k := 1) (l := 1) (s := 258) (p := 0) (d := zI 7) zI_length
    have hm : mayI 1 1 258 0 (zI 7) = true := by decide
    rw [hm] at hp
    simp only [cond_true] at hp
    have hB : (inoB 1 1 258 0 (zI 7)).length = 32 := inoB_length zI_length
    have hB' : (encB (inoB 1 1 258 0 (zI 7))).length = 32 := by rw [encB_length, hB]
    have h6 : (inoB 1 1 258 0 (zI 7)).take 6 = [1, 0, 1, 0, 2, 1] := by decide +kernel
    have hs : aslA (g ++ [some ⟨encB (inoB 1 1 258 0 (zI 7)), true⟩]) 32 1 (.c (.p g.length 0)) none (some (.c (.i .i64 6))) = some (.c (.sl g.length 0 6 1)) := by
      simp [aslA, bound, hB']
    have hS := ref01_Same_eq (h := g ++ [some ⟨encB (inoB 1 1 258 0 (zI 7)), true⟩, some ⟨encB [1, 0, 1, 0, 2, 1], true⟩]) (v := .c (.sl g.length 0 6 1)) (nv := 6) (u := .c (.sl (g.length + 1) 0 6 1)) (nu := 6) (l := [1, 0, 1, 0, 2, 1]) (r := [1, 0, 1, 0, 2, 1])
      (Has.part (cs := encB (inoB 1 1 258 0 (zI 7))) (rw := true) (by simp) (by omega) (by rw [List.drop_zero, encB_take, show 6 * 1 = 6 from rfl, h6]) (noX_encB _)) (Has.tr (by simp) (by simp [encB_length]) (noX_encB _)) (by decide)
    have hz : (List.replicate 32 (Cell.i .u8 0)).length = 32 := List.length_replicate
    have hb := inode_Blocks_eq (n := 257) (h := g ++ [some ⟨encB (inoB 1 1 258 0 (zI 7)), true⟩, some ⟨encB [1, 0, 1, 0, 2, 1], true⟩])
    simp only [Int.reduceLT, if_false, Int.reduceAdd, Int.reduceDiv] at hb
    rw [R_escheatlaw16_works_eq]
    generalize List.replicate 32 (Cell.i .u8 0) = z at *
    generalize inoB 1 1 258 0 (zI 7) = B at *
    exact ⟨_, by simp only [afAddr_p, List.append_nil, if_true, if_false, bnd_some, mp_some, cnd_t, cnd_f, gd_no, gd_tt, gd_tf, gd_ft, gd_ff, alenS_s, alen_sl, alen_ns, abin_add, abin_sub, abin_mul, abin_eql, abin_neq, abin_lss, abin_leq, abin_gtr, abin_geq, abin_seql, abin_sneq, abin_slss, aun_not, aun_neg, aeqB_t, aeqB_f, aconv_i, apick_b, cond_true, cond_false, decide_true, decide_false, Bool.not_true, Bool.not_false, aext_t, ofPart_c, ofPart_a, part?_c, part?_a, cells?_c, cells?_a, tupN_2, tupN_3, Option.map_some, Option.some.injEq, List.getElem?_cons_zero, List.getElem?_cons_succ, not_true_eq_false, not_false_eq_true, quiet_same, bytesI_length, Option.join_some, List.append_assoc, List.cons_append, List.nil_append, List.length_append, List.length_cons, List.length_nil, Nat.zero_add, Nat.add_zero, rd_at, rd_at0, set_at, set_at0, List.set_cons_zero, List.set_cons_succ, ne_eq, decide_not, quiet_ext, newOk_some, List.cons_prefix_cons, List.nil_prefix, List.drop_succ_cons, List.drop_zero, List.all_cons, List.all_nil, Bool.and_true, true_and, and_true, aloadN_at, aloadN_at0, aload1_at, aload1_at0, astoreN_at, astoreN_at0, astore1_at, astore1_at0, aslA_at, aslA_at0, ldN_all, ld1_row, stN_all, st1_row, slr_all, Nat.reduceAdd, Nat.reduceMul, Nat.reduceLT, e1, e2, hp, hz, hB', hs, hS, hb] <;> rfl⟩
  obtain ⟨g', e⟩ := key (ro h)
  exact S_escheatlaw16_works_flat e rfl

end Go.Proofs.Ytbbkpmbepljhkaa
