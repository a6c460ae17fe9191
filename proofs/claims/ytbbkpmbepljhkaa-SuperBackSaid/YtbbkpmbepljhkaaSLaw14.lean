/- What the laws of the chapter of the first block have in common. -/
import Derived.Test.YtbbkpmbepljhkaaSSuperGet
import Derived.Test.YtbbkpmbepljhkaaSRef14Get
import Derived.Test.YtbbkpmbepljhkaaGEscheatlaw14
set_option linter.all false
namespace Go.Proofs.Ytbbkpmbepljhkaa
open Go Go.Esc

theorem aeq_lay {b n m b' n' m' : Int} : aeq false [Sh.i .i64, .i .i64, .i .u64] (.a (layC b n m)) (.a (layC b' n' m')) = some (.c (.b (decide (b = b' ∧ n = n' ∧ m = m')))) := by
  simp only [aeq]
  rw [if_pos ⟨rfl, rfl⟩]
  simp
theorem aeq_layS {b : List UInt8} : aeq false [Sh.i .i64, .i .i64, .i .u64] (.a (layS b)) (.a (layS b)) = some (.c (.b true)) := by
  unfold layS
  cases okS b with
  | true => simp only [cond_true]; rw [aeq_lay]; simp
  | false => simp only [cond_false]; rw [aeq_lay]; simp
theorem layS_length {b : List UInt8} : (layS b).length = 3 := by unfold layS; cases okS b <;> rfl

theorem works14_eq (h : Heap) : S_escheatlaw14_works [] h = some (.c (.b true), h) := by
  have key : ∀ g, ∃ g', R_escheatlaw14_works 0 [] g = some (.c (.b true), g') := by
    intro g
    have e1 : afill [Cell.i .i64 0, .i .i64 0, .i .u64 0] [(0, 1, .c (.i .i64 16)), (1, 1, .c (.i .i64 8))] = some (layC 16 8 0) := rfl
    have e2 : afill [Cell.i .u8 0, .i .u8 0, .i .u8 0, .i .u8 0] [(0, 1, .c (.i .u8 16)), (1, 1, .c (.i .u8 0)), (2, 1, .c (.i .u8 8)), (3, 1, .c (.i .u8 0))] = some (encB [16, 0, 8, 0]) := rfl
    have haf : afill (List.replicate 256 (Cell.i .u8 0)) [] = some (List.replicate 256 (Cell.i .u8 0)) := rfl
    have hp := super_Put_eq (b := 16) (n := 8) (m := 0) (h := g) (by omega) (by omega)
    have hm : mayL 16 8 = true := by decide
    rw [hm] at hp
    simp only [cond_true] at hp
    have hB : (encB (supB 16 8 0)).length = 256 := by rw [encB_length, supB_length]
    have hg := fun h => super_Get_eq (b := zeros 256) (h := h) zeros_length
    have hk : okS (zeros 256) = false := by decide +kernel
    have hs : layS (zeros 256) = layC 0 0 0 := by unfold layS; rw [hk]; rfl
    simp only [hk, hs] at hg
    have hz : (encB (zeros 256)).length = 256 := by rw [encB_length]; exact zeros_length
    have hc := fun h => num_Cut_eq (h := h) (l := supB 16 8 0) supB_length (a := 8) (n := 4)
    have ec : cutB (supB 16 8 0) 8 4 = [16, 0, 8, 0] := by decide +kernel
    simp only [ec] at hc
    have hS := ref01_Same_eq (h := g ++ [some ⟨encB (supB 16 8 0), true⟩, some ⟨layC 0 0 0, true⟩, some ⟨encB [16, 0, 8, 0], true⟩, some ⟨encB [16, 0, 8, 0], true⟩]) (v := .c (.sl (g.length + 2) 0 4 1)) (nv := 4) (u := .c (.sl (g.length + 3) 0 4 1)) (nu := 4) (l := [16, 0, 8, 0]) (r := [16, 0, 8, 0])
      (Has.tr (by simp) (by simp [encB_length]) (noX_encB _)) (Has.tr (by simp) (by simp [encB_length]) (noX_encB _)) (by decide)
    rw [R_escheatlaw14_works_eq]
    rw [zeros_enc] at haf ⊢
    generalize zeros 256 = z at *
    generalize supB 16 8 0 = B at *
    exact ⟨_, by simp only [afAddr_p, List.append_nil, if_true, if_false, bnd_some, mp_some, cnd_t, cnd_f, gd_no, gd_tt, gd_tf, gd_ft, gd_ff, alenS_s, alen_sl, alen_ns, abin_add, abin_sub, abin_mul, abin_eql, abin_neq, abin_lss, abin_leq, abin_gtr, abin_geq, abin_seql, abin_sneq, abin_slss, aun_not, aun_neg, aeqB_t, aeqB_f, aconv_i, apick_b, cond_true, cond_false, decide_true, decide_false, Bool.not_true, Bool.not_false, aext_t, ofPart_c, ofPart_a, part?_c, part?_a, cells?_c, cells?_a, tupN_2, tupN_3, Option.map_some, Option.some.injEq, List.getElem?_cons_zero, List.getElem?_cons_succ, not_true_eq_false, not_false_eq_true, quiet_same, bytesI_length, Option.join_some, List.append_assoc, List.cons_append, List.nil_append, List.length_append, List.length_cons, List.length_nil, Nat.zero_add, Nat.add_zero, rd_at, rd_at0, set_at, set_at0, List.set_cons_zero, List.set_cons_succ, ne_eq, decide_not, quiet_ext, newOk_some, List.cons_prefix_cons, List.nil_prefix, List.drop_succ_cons, List.drop_zero, List.all_cons, List.all_nil, Bool.and_true, true_and, and_true, aloadN_at, aloadN_at0, aload1_at, aload1_at0, astoreN_at, astoreN_at0, astore1_at, astore1_at0, aslA_at, aslA_at0, ldN_all, ld1_row, stN_all, st1_row, slr_all, Nat.reduceAdd, Nat.reduceMul, Nat.reduceLT, e1, e2, hp, hz, haf, hB, hg, hc, hS] <;> rfl⟩
  obtain ⟨g', e⟩ := key (ro h)
  exact S_escheatlaw14_works_flat e rfl

end Go.Proofs.Ytbbkpmbepljhkaa
