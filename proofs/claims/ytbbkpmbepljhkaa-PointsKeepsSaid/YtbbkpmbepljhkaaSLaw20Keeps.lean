/- The law of numbers that are kept answers true. -/
import Derived.Test.YtbbkpmbepljhkaaSPointsKeep
import Derived.Test.YtbbkpmbepljhkaaSPointsPatch
import Derived.Test.YtbbkpmbepljhkaaSPatchLay
import Derived.Test.YtbbkpmbepljhkaaSLaw20
import Derived.Test.YtbbkpmbepljhkaaGEscheatlaw20PointsKeeps
set_option linter.all false
namespace Go.Proofs.Ytbbkpmbepljhkaa
open Go Go.Esc

theorem keeps_l1 {y : List UInt8} {e : Int} {ry rz id q : Nat} {h : Heap} (he : 0 ≤ e) (he2 : e < 65536) (hy : y.length = 256) (hry : rd h ry = some ⟨encB y, true⟩) (hrz : rd h rz = some ⟨encB (keepB y e 128), true⟩) (hrl : rd h id = some ⟨encI (listP (keepB y e 128) 128), true⟩) : ∀ f i m : Nat, i + f = (listP (keepB y e 128) 128).length → f < m →
    ∃ h', escheatlaw20_PointsKeeps_l1 q m (.c (.i .u16 e)) (.c (.p ry 0)) (.c (.p rz 0)) (.c (.sl id 0 (listP (keepB y e 128) 128).length 1)) (.c (.i .i64 (i : Int))) h = some (.c (.b true), h')
  | f, i, 0, _, hm => by omega
  | 0, i, m + 1, hi, hm => by
    have c0 : ¬ (i : Int) < ((listP (keepB y e 128) 128).length : Nat) := by omega
    have hzl := keepB_length (e := e) hy 128 (Nat.le_refl _)
    have hY : (encB y).length = 256 := by rw [encB_length, hy]
    have hZ : (encB (keepB y e 128)).length = 256 := by rw [encB_length, hzl]
    have s1 := loadAll (h := h) (id := rz) hrz hZ
    have s2 : ∀ l, aloadN (h ++ l) 256 (.c (.p rz 0)) = some (.a (encB (keepB y e 128))) := fun l => loadAll (rd_append hrz) hZ
    have s3 : ∀ l, aloadN (h ++ l) 256 (.c (.p ry 0)) = some (.a (encB y)) := fun l => loadAll (rd_append hry) hY
    have w1 : IntKind.wrap .i64 e = e := wrap_i64 (by omega) (by omega)
    have hb := below_eq (e := e) (h := h)
    have hq := quiet_grows ((Grows.rfl' (h := h)).new [.i .i64 e]) (v := .c (.f 179 [(h.length, 0)]))
    have s4 := loadAll (h := h) (id := ry) hry hY
    have hK := points_Keep_eq (b := keepB y e 128) (e := e) (r := h.length) (rw := true) (h := h ++ [some ⟨[.i .i64 e], true⟩]) hzl rd_new
    rw [kept_again hy] at hK
    have hE := aeq_f (n := 256) hzl hzl
    rw [decide_eq_true rfl] at hE
    have hL1 := fun h => points_Last_eq (h := h) hzl
    have hL2 := fun h => points_Last_eq (h := h) hy
    have hle : ((lastP (keepB y e 128) 128 : Nat) : Int) ≤ ((lastP y 128 : Nat) : Int) := by
      have := last_mono (b := keepB y e 128) (c := y) 128 (fun i hi hz => by
        rw [keepB_all hy hi] at hz
        intro h0
        apply hz
        unfold keptP
        rw [h0]; cases killP e i 0 <;> rfl)
      omega
    rw [escheatlaw20_PointsKeeps_l1_eq]
    generalize lastP (keepB y e 128) 128 = A at *
    generalize lastP y 128 = B at *
    generalize listP (keepB y e 128) 128 = L at *
    generalize keepB y e 128 = Z at *
    exact ⟨_, by simp only [afAddr_p, List.append_nil, if_true, if_false, bnd_some, mp_some, cnd_t, cnd_f, gd_no, gd_tt, gd_tf, gd_ft, gd_ff, alenS_s, alen_sl, alen_ns, abin_add, abin_sub, abin_mul, abin_eql, abin_neq, abin_lss, abin_leq, abin_gtr, abin_geq, abin_seql, abin_sneq, abin_slss, aun_not, aun_neg, agn_some, aeqN_nf, aeqN_f, aeqN_np, aeqN_p, anilc_p, aeqB_t, aeqB_f, aconv_i, apick_b, cond_true, cond_false, decide_true, decide_false, Bool.not_true, Bool.not_false, aext_t, ofPart_c, ofPart_a, part?_c, part?_a, cells?_c, cells?_a, tupN_2, tupN_3, Option.map_some, Option.some.injEq, List.getElem?_cons_zero, List.getElem?_cons_succ, not_true_eq_false, not_false_eq_true, quiet_same, bytesI_length, Option.join_some, List.append_assoc, List.cons_append, List.nil_append, List.length_append, List.length_cons, List.length_nil, Nat.zero_add, Nat.add_zero, rd_at, rd_at0, set_at, set_at0, List.set_cons_zero, List.set_cons_succ, ne_eq, decide_not, quiet_ext, newOk_some, List.cons_prefix_cons, List.nil_prefix, List.drop_succ_cons, List.drop_zero, List.all_cons, List.all_nil, Bool.and_true, true_and, and_true, c0, s1, s2, s3, s4, w1, hb, hq, hK, hE, hL1, hL2, hle, works20_eq] <;> rfl⟩
  | f + 1, i, m + 1, hi, hm => by
    obtain ⟨h', ih⟩ := keeps_l1 (q := q) he he2 hy hry hrz hrl f (i + 1) m (by omega) (by omega)
    have c0 : (i : Int) < ((listP (keepB y e 128) 128).length : Nat) := by omega
    have w1 : IntKind.wrap .i64 e = e := wrap_i64 (by omega) (by omega)
    have eb : aiAddrL 1 (.c (.sl id 0 (listP (keepB y e 128) 128).length 1)) (.c (.i .i64 (i : Int))) = some (.c (.p id i)) := by rw [iAddrL_of (by omega)]; simp
    obtain ⟨X, hx, hlt⟩ : ∃ X, aload1 h (.c (.p id i)) = some (.c (.i .i64 X)) ∧ ¬ e ≤ X := by
      refine ⟨(listP (keepB y e 128) 128)[i], load1_of hrl (by rw [encI_get, List.getElem?_eq_getElem (by omega)]; rfl) rfl, ?_⟩
      obtain ⟨k, hk, h1, h2⟩ := list_mem 128 (List.getElem_mem (l := listP (keepB y e 128) 128) (show i < _ by omega))
      rw [← h1] at h2 ⊢
      rw [keepB_all hy hk] at h2 ⊢
      unfold keptP at h2 ⊢
      cases ck : killP e k (ptP y k) with
      | true => rw [ck] at h2; exact absurd rfl h2
      | false =>
        rw [cond_false]
        unfold killP at ck
        simp only [Bool.not_eq_false', Bool.and_eq_true, decide_eq_true_eq] at ck
        omega
    have hll := listP_length (b := keepB y e 128) 128
    rw [escheatlaw20_PointsKeeps_l1_eq]
    generalize listP (keepB y e 128) 128 = L at *
    exact ⟨h', by simp only [afAddr_p, List.append_nil, if_true, if_false, bnd_some, mp_some, cnd_t, cnd_f, gd_no, gd_tt, gd_tf, gd_ft, gd_ff, alenS_s, alen_sl, alen_ns, abin_add, abin_sub, abin_mul, abin_eql, abin_neq, abin_lss, abin_leq, abin_gtr, abin_geq, abin_seql, abin_sneq, abin_slss, aun_not, aun_neg, agn_some, aeqN_nf, aeqN_f, aeqN_np, aeqN_p, anilc_p, aeqB_t, aeqB_f, aconv_i, apick_b, cond_true, cond_false, decide_true, decide_false, Bool.not_true, Bool.not_false, aext_t, ofPart_c, ofPart_a, part?_c, part?_a, cells?_c, cells?_a, tupN_2, tupN_3, Option.map_some, Option.some.injEq, List.getElem?_cons_zero, List.getElem?_cons_succ, not_true_eq_false, not_false_eq_true, quiet_same, bytesI_length, Option.join_some, List.append_assoc, List.cons_append, List.nil_append, List.length_append, List.length_cons, List.length_nil, Nat.zero_add, Nat.add_zero, rd_at, rd_at0, set_at, set_at0, List.set_cons_zero, List.set_cons_succ, ne_eq, decide_not, quiet_ext, newOk_some, List.cons_prefix_cons, List.nil_prefix, List.drop_succ_cons, List.drop_zero, List.all_cons, List.all_nil, Bool.and_true, true_and, and_true, c0, eb, hx, w1, hlt, wi_succ (show i + 1 < 9223372036854775808 by omega)]; exact ih⟩

theorem keeps_l0 {b : List UInt8} {e : Int} {k : Nat} {no : Int} {rx ry q : Nat} {h : Heap} (he : 0 ≤ e) (he2 : e < 65536) (hq : 128 < q) (hk : k < 128) (hn : 0 ≤ no) (hn2 : no < 65536) (hb : b.length = 256) (hrx : rd h rx = some ⟨encB b, true⟩) (hry : rd h ry = some ⟨encB (layB b (2 * k) (bytesI 2 no)), true⟩) : ∀ f i m : Nat, i + f = 128 → f < m →
    ∃ h', escheatlaw20_PointsKeeps_l0 q m (.c (.i .u16 e)) (.c (.p rx 0)) (.c (.i .i64 (k : Int))) (.c (.i .i64 no)) (.c (.p ry 0)) (.c (.i .i64 (i : Int))) h = some (.c (.b true), h')
  | f, i, 0, _, hm => by omega
  | 0, i, m + 1, hi, hm => by
    have e0 : i = 128 := by omega
    subst e0
    have c0 : ¬ ((128 : Nat) : Int) < 128 := by omega
    have hyl : (layB b (2 * k) (bytesI 2 no)).length = 256 := by rw [layB_length (by rw [bytesI_length]; omega)]; exact hb
    have hY : (encB (layB b (2 * k) (bytesI 2 no))).length = 256 := by rw [encB_length, hyl]
    have hzl := keepB_length (e := e) hyl 128 (Nat.le_refl _)
    have hZ : (encB (keepB (layB b (2 * k) (bytesI 2 no)) e 128)).length = 256 := by rw [encB_length, hzl]
    have hz0 : (List.replicate 256 (Cell.i .u8 0)).length = 256 := List.length_replicate
    have s1 := loadAll (h := h) (id := ry) hry hY
    have w1 : IntKind.wrap .i64 e = e := wrap_i64 (by omega) (by omega)
    have hbl := below_eq (e := e) (h := h ++ [none])
    simp only [List.length_append, List.length_cons, List.length_nil, Nat.zero_add, List.append_assoc, List.cons_append, List.nil_append] at hbl
    have hK := points_Keep_eq (b := layB b (2 * k) (bytesI 2 no)) (e := e) (r := h.length + 1) (rw := true) (h := h ++ [none, some ⟨[.i .i64 e], true⟩]) hyl (by simp)
    have hL := points_List_eq (h := h ++ [some (Row.mk (encB (keepB (layB b (2 * k) (bytesI 2 no)) e 128)) true), some (Row.mk [.i .i64 e] true)]) hzl
    simp only [List.length_append, List.length_cons, List.length_nil, Nat.zero_add, List.append_assoc, List.cons_append, List.nil_append] at hL
    obtain ⟨h', ih⟩ := keeps_l1 (q := q) (ry := ry) (rz := h.length) (id := h.length + 2) (h := h ++ [some (Row.mk (encB (keepB (layB b (2 * k) (bytesI 2 no)) e 128)) true), some (Row.mk [.i .i64 e] true), some (Row.mk (encI (listP (keepB (layB b (2 * k) (bytesI 2 no)) e 128) 128)) true)]) he he2 hyl (rd_append hry) (by simp) (by simp) _ 0 q (Nat.zero_add _) (by have := listP_length (b := keepB (layB b (2 * k) (bytesI 2 no)) e 128) 128; omega)
    rw [escheatlaw20_PointsKeeps_l0_eq]
    generalize listP (keepB (layB b (2 * k) (bytesI 2 no)) e 128) 128 = L at *
    generalize keepB (layB b (2 * k) (bytesI 2 no)) e 128 = Z at *
    generalize layB b (2 * k) (bytesI 2 no) = Y at *
    generalize List.replicate 256 (Cell.i .u8 0) = z at *
    exact ⟨h', by simp only [afAddr_p, List.append_nil, if_true, if_false, bnd_some, mp_some, cnd_t, cnd_f, gd_no, gd_tt, gd_tf, gd_ft, gd_ff, alenS_s, alen_sl, alen_ns, abin_add, abin_sub, abin_mul, abin_eql, abin_neq, abin_lss, abin_leq, abin_gtr, abin_geq, abin_seql, abin_sneq, abin_slss, aun_not, aun_neg, agn_some, aeqN_nf, aeqN_f, aeqN_np, aeqN_p, anilc_p, aeqB_t, aeqB_f, aconv_i, apick_b, cond_true, cond_false, decide_true, decide_false, Bool.not_true, Bool.not_false, aext_t, ofPart_c, ofPart_a, part?_c, part?_a, cells?_c, cells?_a, tupN_2, tupN_3, Option.map_some, Option.some.injEq, List.getElem?_cons_zero, List.getElem?_cons_succ, not_true_eq_false, not_false_eq_true, quiet_same, bytesI_length, Option.join_some, List.append_assoc, List.cons_append, List.nil_append, List.length_append, List.length_cons, List.length_nil, Nat.zero_add, Nat.add_zero, rd_at, rd_at0, set_at, set_at0, List.set_cons_zero, List.set_cons_succ, ne_eq, decide_not, quiet_ext, newOk_some, List.cons_prefix_cons, List.nil_prefix, List.drop_succ_cons, List.drop_zero, List.all_cons, List.all_nil, Bool.and_true, true_and, and_true, aloadN_at, aloadN_at0, aload1_at, aload1_at0, astoreN_at, astoreN_at0, astore1_at, astore1_at0, aslA_at, aslA_at0, ldN_all, ld1_row, stN_all, st1_row, slr_all, Nat.reduceAdd, Nat.reduceMul, Nat.reduceLT, c0, s1, w1, hbl, hK, hz0, hZ, hL]; exact ih⟩
  | f + 1, i, m + 1, hi, hm => by
    obtain ⟨h', ih⟩ := keeps_l0 (q := q) he he2 hq hk hn hn2 hb hrx hry f (i + 1) m (by omega) (by omega)
    have c0 : (i : Int) < 128 := by omega
    have hB : (encB b).length = 256 := by rw [encB_length, hb]
    have hyl : (layB b (2 * k) (bytesI 2 no)).length = 256 := by rw [layB_length (by rw [bytesI_length]; omega)]; exact hb
    have hY : (encB (layB b (2 * k) (bytesI 2 no))).length = 256 := by rw [encB_length, hyl]
    have s1 := loadAll (h := h) (id := ry) hry hY
    have s2 := loadAll (h := h) (id := rx) hrx hB
    have hG1 := fun h => points_Get_at (h := h) hb (show i < 128 by omega)
    have hG2 := fun h => points_Get_at (h := h) hyl (show i < 128 by omega)
    have hp := ptP_lay (i := i) (v := no) hb hk (by omega)
    have w1 := wi_succ (show i + 1 < 9223372036854775808 by omega)
    rw [escheatlaw20_PointsKeeps_l0_eq]
    by_cases c : i = k
    · subst c
      rw [if_pos rfl, show no % 65536 = no by omega] at hp
      rw [hp] at hG2
      have c1 : decide ((i : Int) = (i : Int)) = true := decide_eq_true rfl
      generalize layB b (2 * i) (bytesI 2 no) = Y at *
      exact ⟨h', by simp only [afAddr_p, List.append_nil, if_true, if_false, bnd_some, mp_some, cnd_t, cnd_f, gd_no, gd_tt, gd_tf, gd_ft, gd_ff, alenS_s, alen_sl, alen_ns, abin_add, abin_sub, abin_mul, abin_eql, abin_neq, abin_lss, abin_leq, abin_gtr, abin_geq, abin_seql, abin_sneq, abin_slss, aun_not, aun_neg, agn_some, aeqN_nf, aeqN_f, aeqN_np, aeqN_p, anilc_p, aeqB_t, aeqB_f, aconv_i, apick_b, cond_true, cond_false, decide_true, decide_false, Bool.not_true, Bool.not_false, aext_t, ofPart_c, ofPart_a, part?_c, part?_a, cells?_c, cells?_a, tupN_2, tupN_3, Option.map_some, Option.some.injEq, List.getElem?_cons_zero, List.getElem?_cons_succ, not_true_eq_false, not_false_eq_true, quiet_same, bytesI_length, Option.join_some, List.append_assoc, List.cons_append, List.nil_append, List.length_append, List.length_cons, List.length_nil, Nat.zero_add, Nat.add_zero, rd_at, rd_at0, set_at, set_at0, List.set_cons_zero, List.set_cons_succ, ne_eq, decide_not, quiet_ext, newOk_some, List.cons_prefix_cons, List.nil_prefix, List.drop_succ_cons, List.drop_zero, List.all_cons, List.all_nil, Bool.and_true, true_and, and_true, c0, s1, s2, hG1, c1, hG2, escheatlaw20_PointsKeeps_j0_eq, w1, eq_self]; exact ih⟩
    · rw [if_neg c] at hp
      rw [hp] at hG2
      have c1 : ¬ (i : Int) = (k : Int) := by omega
      generalize layB b (2 * k) (bytesI 2 no) = Y at *
      exact ⟨h', by simp only [afAddr_p, List.append_nil, if_true, if_false, bnd_some, mp_some, cnd_t, cnd_f, gd_no, gd_tt, gd_tf, gd_ft, gd_ff, alenS_s, alen_sl, alen_ns, abin_add, abin_sub, abin_mul, abin_eql, abin_neq, abin_lss, abin_leq, abin_gtr, abin_geq, abin_seql, abin_sneq, abin_slss, aun_not, aun_neg, agn_some, aeqN_nf, aeqN_f, aeqN_np, aeqN_p, anilc_p, aeqB_t, aeqB_f, aconv_i, apick_b, cond_true, cond_false, decide_true, decide_false, Bool.not_true, Bool.not_false, aext_t, ofPart_c, ofPart_a, part?_c, part?_a, cells?_c, cells?_a, tupN_2, tupN_3, Option.map_some, Option.some.injEq, List.getElem?_cons_zero, List.getElem?_cons_succ, not_true_eq_false, not_false_eq_true, quiet_same, bytesI_length, Option.join_some, List.append_assoc, List.cons_append, List.nil_append, List.length_append, List.length_cons, List.length_nil, Nat.zero_add, Nat.add_zero, rd_at, rd_at0, set_at, set_at0, List.set_cons_zero, List.set_cons_succ, ne_eq, decide_not, quiet_ext, newOk_some, List.cons_prefix_cons, List.nil_prefix, List.drop_succ_cons, List.drop_zero, List.all_cons, List.all_nil, Bool.and_true, true_and, and_true, c0, s1, s2, hG1, c1, hG2, escheatlaw20_PointsKeeps_j0_eq, w1]; exact ih⟩

theorem pointsKeeps_eq {b : List UInt8} {x y : UInt8} {e : Int} (h : Heap) (hb : b.length = 256) (he : 0 ≤ e) (he2 : e < 65536) : S_escheatlaw20_PointsKeeps [.a (encB b), .a (encB [x, y]), .c (.i .u16 e)] h = some (.c (.b true), h) := by
  have key : ∀ N, 128 < N → ∀ g, ∃ g', R_escheatlaw20_PointsKeeps N [.a (encB b), .a (encB [x, y]), .c (.i .u16 e)] g = some (.c (.b true), g') := by
    intro N hN g
    have hx := x.toNat_lt
    have hy := y.toNat_lt
    have hB : (encB b).length = 256 := by rw [encB_length, hb]
    have hz0 : (List.replicate 256 (Cell.i .u8 0)).length = 256 := List.length_replicate
    have a0 : ∀ k, aiAddrA 2 1 (.c (.p k 0)) (.c (.i .i64 0)) = some (.c (.p k 0)) := fun k => rfl
    have a1 : ∀ k, aiAddrA 2 1 (.c (.p k 0)) (.c (.i .i64 1)) = some (.c (.p k 1)) := fun k => rfl
    have ex : encB [x, y] = [.i .u8 x.toNat, .i .u8 y.toNat] := rfl
    have e1 : abin .rem (.c (.i .u8 (x.toNat : Int))) (.c (.i .u8 128)) = some (.c (.i .u8 ((x.toNat % 128 : Nat) : Int))) := by rw [rem_i (a := (x.toNat : Int)) (b := 128) (by omega) (by omega)]; simp
    have hk : x.toNat % 128 < 128 := Nat.mod_lt _ (by omega)
    have w1 : IntKind.wrap .i64 ((x.toNat % 128 : Nat) : Int) = ((x.toNat % 128 : Nat) : Int) := wrap_i64 (by omega) (by omega)
    have w2 : IntKind.wrap .i64 (y.toNat : Int) = (y.toNat : Int) := wrap_i64 (by omega) (by omega)
    have w3 : IntKind.wrap .i64 (x.toNat : Int) = (x.toNat : Int) := wrap_i64 (by omega) (by omega)
    have w4 : IntKind.wrap .i64 (256 * (y.toNat : Int)) = 256 * (y.toNat : Int) := wrap_i64 (by omega) (by omega)
    have w5 : IntKind.wrap .i64 (256 * (y.toNat : Int) + (x.toNat : Int)) = 256 * (y.toNat : Int) + (x.toNat : Int) := wrap_i64 (by omega) (by omega)
    have hn0 : 0 ≤ 256 * (y.toNat : Int) + (x.toNat : Int) := by omega
    have hn1 : 256 * (y.toNat : Int) + (x.toNat : Int) < 65536 := by omega
    generalize hno : 256 * (y.toNat : Int) + (x.toNat : Int) = no at *
    generalize hkk : x.toNat % 128 = k at *
    have hP := points_Patch_ok (k := k) (no := no) (h := g ++ [some (Row.mk (encB b) true), some (Row.mk [.i .u8 x.toNat, .i .u8 y.toNat] true), some (Row.mk (encB b) true)]) hk (fineP_true.2 (by omega))
    simp only [List.length_append, List.length_cons, List.length_nil, Nat.zero_add, List.append_assoc, List.cons_append, List.nil_append] at hP
    have hLa := fun l => patch_Lay_eq (x := .sl (g.length + 3) 0 2 1) (n := 2) (a := 2 * k) (data := bytesI 2 no) (l := b) (h := g ++ [some (Row.mk (encB b) true), some (Row.mk [.i .u8 x.toNat, .i .u8 y.toNat] true), some (Row.mk (encB b) true), some (Row.mk (encB (bytesI 2 no)) true), some (Row.mk l true)]) (Has.row (rw := true) (by simp) (by rw [encB_length, bytesI_length]) (noX_encB _)) (by omega) (by omega) hb
    have hyl : (layB b (2 * k) (bytesI 2 no)).length = 256 := by rw [layB_length (by rw [bytesI_length]; omega)]; exact hb
    have hY : (encB (layB b (2 * k) (bytesI 2 no))).length = 256 := by rw [encB_length, hyl]
    obtain ⟨h', ih⟩ := keeps_l0 (e := e) (k := k) (no := no) (rx := g.length + 2) (ry := g.length + 5) (q := N) (h := g ++ [some (Row.mk (encB b) true), some (Row.mk [.i .u8 x.toNat, .i .u8 y.toNat] true), some (Row.mk (encB b) true), some (Row.mk (encB (bytesI 2 no)) true), some (Row.mk [.i .i64 ((2 * k : Nat) : Int), .sl (g.length + 3) 0 2 1] true), some (Row.mk (encB (layB b (2 * k) (bytesI 2 no))) true)]) he he2 hN hk hn0 hn1 hb (by simp) (by simp) 128 0 N (by omega) hN
    rw [R_escheatlaw20_PointsKeeps_eq, ex]
    generalize layB b (2 * k) (bytesI 2 no) = Y at *
    generalize encB (bytesI 2 no) = dd at *
    generalize List.replicate 256 (Cell.i .u8 0) = z at *
    have l2 : ([Cell.i .i64 ((2 * k : Nat) : Int), .sl (g.length + 3) 0 2 1]).length = 2 := rfl
    have l3 : ([Cell.i .i64 0, .ns]).length = 2 := rfl
    exact ⟨h', by simp only [afAddr_p, List.append_nil, if_true, if_false, bnd_some, mp_some, cnd_t, cnd_f, gd_no, gd_tt, gd_tf, gd_ft, gd_ff, alenS_s, alen_sl, alen_ns, abin_add, abin_sub, abin_mul, abin_eql, abin_neq, abin_lss, abin_leq, abin_gtr, abin_geq, abin_seql, abin_sneq, abin_slss, aun_not, aun_neg, agn_some, aeqN_nf, aeqN_f, aeqN_np, aeqN_p, anilc_p, aeqB_t, aeqB_f, aconv_i, apick_b, cond_true, cond_false, decide_true, decide_false, Bool.not_true, Bool.not_false, aext_t, ofPart_c, ofPart_a, part?_c, part?_a, cells?_c, cells?_a, tupN_2, tupN_3, Option.map_some, Option.some.injEq, List.getElem?_cons_zero, List.getElem?_cons_succ, not_true_eq_false, not_false_eq_true, quiet_same, bytesI_length, Option.join_some, List.append_assoc, List.cons_append, List.nil_append, List.length_append, List.length_cons, List.length_nil, Nat.zero_add, Nat.add_zero, rd_at, rd_at0, set_at, set_at0, List.set_cons_zero, List.set_cons_succ, ne_eq, decide_not, quiet_ext, newOk_some, List.cons_prefix_cons, List.nil_prefix, List.drop_succ_cons, List.drop_zero, List.all_cons, List.all_nil, Bool.and_true, true_and, and_true, aloadN_at, aloadN_at0, aload1_at, aload1_at0, astoreN_at, astoreN_at0, astore1_at, astore1_at0, aslA_at, aslA_at0, ldN_all, ld1_row, stN_all, st1_row, slr_all, Nat.reduceAdd, Nat.reduceMul, Nat.reduceLT, hB, hz0, a0, a1, e1, w1, w2, w3, w4, hno, w5, hP, l2, l3, hLa, hY]; exact ih⟩
  obtain ⟨g', e⟩ := key (h.length + 129) (by omega) (ro h)
  exact S_escheatlaw20_PointsKeeps_flat e rfl

end Go.Proofs.Ytbbkpmbepljhkaa
