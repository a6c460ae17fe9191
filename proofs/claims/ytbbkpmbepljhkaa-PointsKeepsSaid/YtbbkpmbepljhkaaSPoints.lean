/- Blocks of numbers. -/
import Derived.Test.YtbbkpmbepljhkaaSPad
import Derived.Test.YtbbkpmbepljhkaaGPoints
set_option linter.all false
namespace Go.Proofs.Ytbbkpmbepljhkaa
open Go Go.Esc

def numsB (d : List Int) : List UInt8 := (d.map (bytesI 2)).flatten
theorem numsB_length {d : List Int} : (numsB d).length = 2 * d.length := by
  induction d with
  | nil => rfl
  | cons x d ih => simp only [numsB, List.map_cons, List.flatten_cons, List.length_append, bytesI_length, List.length_cons] at ih ⊢; omega
theorem numsB_snoc {d : List Int} {x : Int} : numsB (d ++ [x]) = numsB d ++ bytesI 2 x := by simp [numsB]

def ptP (b : List UInt8) (i : Nat) : Int := fieldN b (2 * i) 2
theorem ptP_range (b : List UInt8) (i : Nat) : 0 ≤ ptP b i ∧ ptP b i < 65536 := by
  unfold ptP fieldN
  have h1 := le_lt ((b.drop (2 * i)).take 2)
  have h2 : ((b.drop (2 * i)).take 2).length ≤ 2 := by simp; omega
  have h3 := pow256_le h2
  have h4 : (256 : Nat) ^ 2 = 65536 := by decide
  omega
def fineP (n : Int) : Bool := decide (0 ≤ n) && decide (n ≤ 65535)
theorem fineP_true {n : Int} : fineP n = true ↔ 0 ≤ n ∧ n ≤ 65535 := by unfold fineP; simp
theorem fineP_pt {b : List UInt8} {i : Nat} : fineP (ptP b i) = true := by
  have := ptP_range b i
  rw [fineP_true]; omega

theorem points_there_in {k : Nat} {h : Heap} (hk : k < 128) : S_points_there [.c (.i .i64 k)] h = some (.c (.b true), h) := by
  have key : ∀ g, ∃ g', R_points_there 0 [.c (.i .i64 k)] g = some (.c (.b true), g') := by
    intro g
    have c1 : (0 : Int) ≤ k := by omega
    have c2 : (k : Int) < 128 := by omega
    rw [R_points_there_eq]
    exact ⟨_, by simp only [afAddr_p, List.append_nil, if_true, if_false, bnd_some, mp_some, cnd_t, cnd_f, gd_no, gd_tt, gd_tf, gd_ft, gd_ff, alenS_s, alen_sl, alen_ns, abin_add, abin_sub, abin_mul, abin_eql, abin_neq, abin_lss, abin_leq, abin_gtr, abin_geq, abin_seql, abin_sneq, abin_slss, aun_not, aun_neg, agn_some, aeqN_nf, aeqN_f, aeqN_np, aeqN_p, anilc_p, aeqB_t, aeqB_f, aconv_i, apick_b, cond_true, cond_false, decide_true, decide_false, Bool.not_true, Bool.not_false, aext_t, ofPart_c, ofPart_a, part?_c, part?_a, cells?_c, cells?_a, tupN_2, tupN_3, Option.map_some, Option.some.injEq, List.getElem?_cons_zero, List.getElem?_cons_succ, not_true_eq_false, not_false_eq_true, quiet_same, bytesI_length, Option.join_some, List.append_assoc, List.cons_append, List.nil_append, List.length_append, List.length_cons, List.length_nil, Nat.zero_add, Nat.add_zero, rd_at, rd_at0, set_at, set_at0, List.set_cons_zero, List.set_cons_succ, ne_eq, decide_not, quiet_ext, newOk_some, List.cons_prefix_cons, List.nil_prefix, List.drop_succ_cons, List.drop_zero, List.all_cons, List.all_nil, Bool.and_true, true_and, and_true, c1, c2] <;> rfl⟩
  obtain ⟨g', e⟩ := key (ro h)
  exact S_points_there_flat e rfl

theorem points_fine_eq {n : Int} {h : Heap} : S_points_fine [.c (.i .i64 n)] h = some (.c (.b (fineP n)), h) := by
  refine S_points_fine_flat (n := 0) (h2 := ro h) ?_ rfl
  rw [R_points_fine_eq]
  unfold fineP
  by_cases c : 0 ≤ n
  · simp only [afAddr_p, List.append_nil, if_true, if_false, bnd_some, mp_some, cnd_t, cnd_f, gd_no, gd_tt, gd_tf, gd_ft, gd_ff, alenS_s, alen_sl, alen_ns, abin_add, abin_sub, abin_mul, abin_eql, abin_neq, abin_lss, abin_leq, abin_gtr, abin_geq, abin_seql, abin_sneq, abin_slss, aun_not, aun_neg, agn_some, aeqN_nf, aeqN_f, aeqN_np, aeqN_p, anilc_p, aeqB_t, aeqB_f, aconv_i, apick_b, cond_true, cond_false, decide_true, decide_false, Bool.not_true, Bool.not_false, aext_t, ofPart_c, ofPart_a, part?_c, part?_a, cells?_c, cells?_a, tupN_2, tupN_3, Option.map_some, Option.some.injEq, List.getElem?_cons_zero, List.getElem?_cons_succ, not_true_eq_false, not_false_eq_true, quiet_same, bytesI_length, Option.join_some, List.append_assoc, List.cons_append, List.nil_append, List.length_append, List.length_cons, List.length_nil, Nat.zero_add, Nat.add_zero, rd_at, rd_at0, set_at, set_at0, List.set_cons_zero, List.set_cons_succ, ne_eq, decide_not, quiet_ext, newOk_some, List.cons_prefix_cons, List.nil_prefix, List.drop_succ_cons, List.drop_zero, List.all_cons, List.all_nil, Bool.and_true, true_and, and_true, c, Bool.true_and]
  · simp only [afAddr_p, List.append_nil, if_true, if_false, bnd_some, mp_some, cnd_t, cnd_f, gd_no, gd_tt, gd_tf, gd_ft, gd_ff, alenS_s, alen_sl, alen_ns, abin_add, abin_sub, abin_mul, abin_eql, abin_neq, abin_lss, abin_leq, abin_gtr, abin_geq, abin_seql, abin_sneq, abin_slss, aun_not, aun_neg, agn_some, aeqN_nf, aeqN_f, aeqN_np, aeqN_p, anilc_p, aeqB_t, aeqB_f, aconv_i, apick_b, cond_true, cond_false, decide_true, decide_false, Bool.not_true, Bool.not_false, aext_t, ofPart_c, ofPart_a, part?_c, part?_a, cells?_c, cells?_a, tupN_2, tupN_3, Option.map_some, Option.some.injEq, List.getElem?_cons_zero, List.getElem?_cons_succ, not_true_eq_false, not_false_eq_true, quiet_same, bytesI_length, Option.join_some, List.append_assoc, List.cons_append, List.nil_append, List.length_append, List.length_cons, List.length_nil, Nat.zero_add, Nat.add_zero, rd_at, rd_at0, set_at, set_at0, List.set_cons_zero, List.set_cons_succ, ne_eq, decide_not, quiet_ext, newOk_some, List.cons_prefix_cons, List.nil_prefix, List.drop_succ_cons, List.drop_zero, List.all_cons, List.all_nil, Bool.and_true, true_and, and_true, c, Bool.false_and]

theorem at_pt {b : List UInt8} {i : Nat} (hb : b.length = 256) (hi : i < 128) : ((atN b ((2 * i : Nat) : Int) 2 : Nat) : Int) = ptP b i := by
  unfold atN ptP fieldN
  rw [if_pos ⟨by omega, thereI_true.2 (by omega)⟩]
  simp only [Int.toNat_natCast]
  rfl

theorem wi_two {i : Nat} (hi : i < 128) : IntKind.wrap .i64 (2 * (i : Int)) = ((2 * i : Nat) : Int) := by rw [wrap_i64 (by omega) (by omega)]; omega

theorem points_Get_at {b : List UInt8} {k : Nat} {h : Heap} (hb : b.length = 256) (hk : k < 128) : S_points_Get [.a (encB b), .c (.i .i64 k)] h = some (.c (.i .i64 (ptP b k)), h) := by
  have key : ∀ g, ∃ g', R_points_Get 0 [.a (encB b), .c (.i .i64 k)] g = some (.c (.i .i64 (ptP b k)), g') := by
    intro g
    have hB : (encB b).length = 256 := by rw [encB_length, hb]
    have hT := fun h => points_there_in (h := h) hk
    have hA := fun h => num_At_eq (h := h) hb (a := ((2 * k : Nat) : Int)) (w := 2)
    rw [at_pt hb hk] at hA
    rw [R_points_Get_eq]
    exact ⟨_, by simp only [afAddr_p, List.append_nil, if_true, if_false, bnd_some, mp_some, cnd_t, cnd_f, gd_no, gd_tt, gd_tf, gd_ft, gd_ff, alenS_s, alen_sl, alen_ns, abin_add, abin_sub, abin_mul, abin_eql, abin_neq, abin_lss, abin_leq, abin_gtr, abin_geq, abin_seql, abin_sneq, abin_slss, aun_not, aun_neg, agn_some, aeqN_nf, aeqN_f, aeqN_np, aeqN_p, anilc_p, aeqB_t, aeqB_f, aconv_i, apick_b, cond_true, cond_false, decide_true, decide_false, Bool.not_true, Bool.not_false, aext_t, ofPart_c, ofPart_a, part?_c, part?_a, cells?_c, cells?_a, tupN_2, tupN_3, Option.map_some, Option.some.injEq, List.getElem?_cons_zero, List.getElem?_cons_succ, not_true_eq_false, not_false_eq_true, quiet_same, bytesI_length, Option.join_some, List.append_assoc, List.cons_append, List.nil_append, List.length_append, List.length_cons, List.length_nil, Nat.zero_add, Nat.add_zero, rd_at, rd_at0, set_at, set_at0, List.set_cons_zero, List.set_cons_succ, ne_eq, decide_not, quiet_ext, newOk_some, List.cons_prefix_cons, List.nil_prefix, List.drop_succ_cons, List.drop_zero, List.all_cons, List.all_nil, Bool.and_true, true_and, and_true, aloadN_at, aloadN_at0, aload1_at, aload1_at0, astoreN_at, astoreN_at0, astore1_at, astore1_at0, aslA_at, aslA_at0, ldN_all, ld1_row, stN_all, st1_row, slr_all, Nat.reduceAdd, Nat.reduceMul, Nat.reduceLT, hB, hT, wi_two hk, hA] <;> rfl⟩
  obtain ⟨g', e⟩ := key (ro h)
  exact S_points_Get_flat e rfl

/-! ### A block of numbers -/

theorem make_loop {v : Val} {nv : Nat} {l : List Int} {g : Heap} {q : Nat} (hv : Has g v 1 nv (encI l)) (hn : l.length = nv) (hl : nv ≤ 128) : ∀ e i m : Nat, i + e = nv → e < m →
    ∃ h', points_Make_l0 q m (.c (.p g.length 0)) (.c (.p (g.length + 1) 0)) v (.c (.i .i64 nv)) (.c (.i .i64 i)) (g ++ [some ⟨encB (zeros 256), true⟩, some ⟨encB (padB 256 (numsB (l.take i))), true⟩]) =
      some (.t [.a (encB (bif (l.drop i).all fineP then padB 256 (numsB l) else zeros 256)), .c (.i .i64 (bif (l.drop i).all fineP then 0 else 1))], h')
  | e, i, 0, _, hm => by omega
  | 0, i, m + 1, hi, hm => by
    have e0 : i = nv := by omega
    subst e0
    have c0 : ¬ (i : Int) < i := by omega
    have hp : (encB (padB 256 (numsB l))).length = 256 := by rw [encB_length, padB_length (by rw [numsB_length]; omega)]
    have hz : (encB (zeros 256)).length = 256 := by rw [encB_length]; exact zeros_length
    rw [points_Make_l0_eq, List.take_of_length_le (by omega), List.drop_of_length_le (by omega), List.all_nil, cond_true, cond_true]
    generalize zeros 256 = z at *
    generalize padB 256 (numsB l) = P at *
    exact ⟨_, by simp only [afAddr_p, List.append_nil, if_true, if_false, bnd_some, mp_some, cnd_t, cnd_f, gd_no, gd_tt, gd_tf, gd_ft, gd_ff, alenS_s, alen_sl, alen_ns, abin_add, abin_sub, abin_mul, abin_eql, abin_neq, abin_lss, abin_leq, abin_gtr, abin_geq, abin_seql, abin_sneq, abin_slss, aun_not, aun_neg, agn_some, aeqN_nf, aeqN_f, aeqN_np, aeqN_p, anilc_p, aeqB_t, aeqB_f, aconv_i, apick_b, cond_true, cond_false, decide_true, decide_false, Bool.not_true, Bool.not_false, aext_t, ofPart_c, ofPart_a, part?_c, part?_a, cells?_c, cells?_a, tupN_2, tupN_3, Option.map_some, Option.some.injEq, List.getElem?_cons_zero, List.getElem?_cons_succ, not_true_eq_false, not_false_eq_true, quiet_same, bytesI_length, Option.join_some, List.append_assoc, List.cons_append, List.nil_append, List.length_append, List.length_cons, List.length_nil, Nat.zero_add, Nat.add_zero, rd_at, rd_at0, set_at, set_at0, List.set_cons_zero, List.set_cons_succ, ne_eq, decide_not, quiet_ext, newOk_some, List.cons_prefix_cons, List.nil_prefix, List.drop_succ_cons, List.drop_zero, List.all_cons, List.all_nil, Bool.and_true, true_and, and_true, aloadN_at, aloadN_at0, aload1_at, aload1_at0, astoreN_at, astoreN_at0, astore1_at, astore1_at0, aslA_at, aslA_at0, ldN_all, ld1_row, stN_all, st1_row, slr_all, Nat.reduceAdd, Nat.reduceMul, Nat.reduceLT, c0, hp, hz] <;> rfl⟩
  | e + 1, i, m + 1, hi, hm => by
    obtain ⟨h', ih⟩ := make_loop (q := q) hv hn hl e (i + 1) m (by omega) (by omega)
    obtain ⟨id, off, rfl, hid, h1, h2⟩ := (hv.more [some ⟨encB (zeros 256), true⟩, some ⟨encB (padB 256 (numsB (l.take i))), true⟩]).sl (by omega)
    have c0 : (i : Int) < nv := by omega
    have hx := h1 i (.i .i64 l[i]) (by rw [encI_get, List.getElem?_eq_getElem (by omega)]; rfl)
    have eb : aiAddrL 1 (.c (.sl id off nv 1)) (.c (.i .i64 (i : Int))) = some (.c (.p id (off + i))) := by rw [iAddrL_of (by omega)]; simp
    have hF := fun h => points_fine_eq (n := l[i]) (h := h)
    have hP0 : (padB 256 (numsB (l.take i))).length = 256 := padB_length (by rw [numsB_length, List.length_take]; omega)
    have hp : (encB (padB 256 (numsB (l.take i)))).length = 256 := by rw [encB_length, hP0]
    have hz : (encB (zeros 256)).length = 256 := by rw [encB_length]; exact zeros_length
    have haf : afill (List.replicate 256 (Cell.i .u8 0)) [] = some (List.replicate 256 (Cell.i .u8 0)) := rfl
    rw [zeros_enc] at haf
    have hW := fun h => num_With_eq (h := h) (l := padB 256 (numsB (l.take i))) hP0 (a := ((2 * i : Nat) : Int)) (w := 2) (v := l[i])
    have hnl : (numsB (l.take i)).length = 2 * i := by rw [numsB_length, List.length_take]; omega
    have ew := withB_pad (l := numsB (l.take i)) (a := 2 * i) (w := 2) (v := l[i]) (by omega) (by omega) (by omega) (by omega)
    rw [hnl, Nat.sub_self, show zeros 0 = [] from rfl, List.append_nil, ← numsB_snoc, ← List.take_succ_eq_append_getElem (by omega)] at ew
    rw [show ((2 : Nat) : Int) = 2 from rfl] at ew
    rw [ew] at hW
    have hp2 : (encB (padB 256 (numsB (l.take (i + 1))))).length = 256 := by rw [encB_length, padB_length (by rw [numsB_length, List.length_take]; omega)]
    rw [points_Make_l0_eq, zeros_enc, List.drop_eq_getElem_cons (by omega : i < l.length), List.all_cons]
    generalize padB 256 (numsB (l.take (i + 1))) = P1 at *
    generalize padB 256 (numsB (l.take i)) = P0 at *
    generalize padB 256 (numsB l) = P at *
    generalize zeros 256 = z at *
    cases c : fineP l[i] with
    | false =>
      rw [c] at hF
      rw [Bool.false_and, cond_false, cond_false]
      exact ⟨_, by simp only [afAddr_p, List.append_nil, if_true, if_false, bnd_some, mp_some, cnd_t, cnd_f, gd_no, gd_tt, gd_tf, gd_ft, gd_ff, alenS_s, alen_sl, alen_ns, abin_add, abin_sub, abin_mul, abin_eql, abin_neq, abin_lss, abin_leq, abin_gtr, abin_geq, abin_seql, abin_sneq, abin_slss, aun_not, aun_neg, agn_some, aeqN_nf, aeqN_f, aeqN_np, aeqN_p, anilc_p, aeqB_t, aeqB_f, aconv_i, apick_b, cond_true, cond_false, decide_true, decide_false, Bool.not_true, Bool.not_false, aext_t, ofPart_c, ofPart_a, part?_c, part?_a, cells?_c, cells?_a, tupN_2, tupN_3, Option.map_some, Option.some.injEq, List.getElem?_cons_zero, List.getElem?_cons_succ, not_true_eq_false, not_false_eq_true, quiet_same, bytesI_length, Option.join_some, List.append_assoc, List.cons_append, List.nil_append, List.length_append, List.length_cons, List.length_nil, Nat.zero_add, Nat.add_zero, rd_at, rd_at0, set_at, set_at0, List.set_cons_zero, List.set_cons_succ, ne_eq, decide_not, quiet_ext, newOk_some, List.cons_prefix_cons, List.nil_prefix, List.drop_succ_cons, List.drop_zero, List.all_cons, List.all_nil, Bool.and_true, true_and, and_true, aloadN_at, aloadN_at0, aload1_at, aload1_at0, astoreN_at, astoreN_at0, astore1_at, astore1_at0, aslA_at, aslA_at0, ldN_all, ld1_row, stN_all, st1_row, slr_all, Nat.reduceAdd, Nat.reduceMul, Nat.reduceLT, c0, eb, hx, hF, haf, hz] <;> rfl⟩
    | true =>
      rw [c] at hF
      rw [Bool.true_and]
      refine ⟨h', ?_⟩
      simp only [afAddr_p, List.append_nil, if_true, if_false, bnd_some, mp_some, cnd_t, cnd_f, gd_no, gd_tt, gd_tf, gd_ft, gd_ff, alenS_s, alen_sl, alen_ns, abin_add, abin_sub, abin_mul, abin_eql, abin_neq, abin_lss, abin_leq, abin_gtr, abin_geq, abin_seql, abin_sneq, abin_slss, aun_not, aun_neg, agn_some, aeqN_nf, aeqN_f, aeqN_np, aeqN_p, anilc_p, aeqB_t, aeqB_f, aconv_i, apick_b, cond_true, cond_false, decide_true, decide_false, Bool.not_true, Bool.not_false, aext_t, ofPart_c, ofPart_a, part?_c, part?_a, cells?_c, cells?_a, tupN_2, tupN_3, Option.map_some, Option.some.injEq, List.getElem?_cons_zero, List.getElem?_cons_succ, not_true_eq_false, not_false_eq_true, quiet_same, bytesI_length, Option.join_some, List.append_assoc, List.cons_append, List.nil_append, List.length_append, List.length_cons, List.length_nil, Nat.zero_add, Nat.add_zero, rd_at, rd_at0, set_at, set_at0, List.set_cons_zero, List.set_cons_succ, ne_eq, decide_not, quiet_ext, newOk_some, List.cons_prefix_cons, List.nil_prefix, List.drop_succ_cons, List.drop_zero, List.all_cons, List.all_nil, Bool.and_true, true_and, and_true, aloadN_at, aloadN_at0, aload1_at, aload1_at0, astoreN_at, astoreN_at0, astore1_at, astore1_at0, aslA_at, aslA_at0, ldN_all, ld1_row, stN_all, st1_row, slr_all, Nat.reduceAdd, Nat.reduceMul, Nat.reduceLT, c0, eb, hx, hF, hp, wi_two (show i < 128 by omega), hW, hp2, wi_succ (show i + 1 < 9223372036854775808 by omega)]
      exact ih

theorem points_Make_eq {v : Val} {nv : Nat} {l : List Int} {h : Heap} (hv : Has h v 1 nv (encI l)) (hl : nv ≤ 128) :
    S_points_Make [v] h = some (.t [.a (encB (bif l.all fineP then padB 256 (numsB l) else zeros 256)), .c (.i .i64 (bif l.all fineP then 0 else 1))], h) := by
  have hn : l.length = nv := by simpa [encI_length] using hv.length
  have key : ∀ N, nv < N → ∀ g, Has g v 1 nv (encI l) → ∃ g', R_points_Make N [v] g = some (.t [.a (encB (bif l.all fineP then padB 256 (numsB l) else zeros 256)), .c (.i .i64 (bif l.all fineP then 0 else 1))], g') := by
    intro N hN g hv
    have c0 : ¬ (128 : Int) < nv := by omega
    obtain ⟨h', e⟩ := make_loop (q := N) hv hn hl nv 0 N (by omega) (by omega)
    rw [List.drop_zero, List.take_zero, show numsB [] = [] from rfl, padB_nil] at e
    rw [R_points_Make_eq, zeros_enc]
    generalize padB 256 (numsB l) = P at *
    generalize zeros 256 = z at *
    exact ⟨h', by simp only [afAddr_p, List.append_nil, if_true, if_false, bnd_some, mp_some, cnd_t, cnd_f, gd_no, gd_tt, gd_tf, gd_ft, gd_ff, alenS_s, alen_sl, alen_ns, abin_add, abin_sub, abin_mul, abin_eql, abin_neq, abin_lss, abin_leq, abin_gtr, abin_geq, abin_seql, abin_sneq, abin_slss, aun_not, aun_neg, agn_some, aeqN_nf, aeqN_f, aeqN_np, aeqN_p, anilc_p, aeqB_t, aeqB_f, aconv_i, apick_b, cond_true, cond_false, decide_true, decide_false, Bool.not_true, Bool.not_false, aext_t, ofPart_c, ofPart_a, part?_c, part?_a, cells?_c, cells?_a, tupN_2, tupN_3, Option.map_some, Option.some.injEq, List.getElem?_cons_zero, List.getElem?_cons_succ, not_true_eq_false, not_false_eq_true, quiet_same, bytesI_length, Option.join_some, List.append_assoc, List.cons_append, List.nil_append, List.length_append, List.length_cons, List.length_nil, Nat.zero_add, Nat.add_zero, rd_at, rd_at0, set_at, set_at0, List.set_cons_zero, List.set_cons_succ, ne_eq, decide_not, quiet_ext, newOk_some, List.cons_prefix_cons, List.nil_prefix, List.drop_succ_cons, List.drop_zero, List.all_cons, List.all_nil, Bool.and_true, true_and, and_true, aloadN_at, aloadN_at0, aload1_at, aload1_at0, astoreN_at, astoreN_at0, astore1_at, astore1_at0, aslA_at, aslA_at0, ldN_all, ld1_row, stN_all, st1_row, slr_all, Nat.reduceAdd, Nat.reduceMul, Nat.reduceLT, hv.len, c0]; exact e⟩
  obtain ⟨g', e⟩ := key (nv + 1) (by omega) (ro h) hv.ro
  refine S_points_Make_flat e ?_
  cases l.all fineP <;> simp

/-! ### The numbers that are there -/

def listP (b : List UInt8) : Nat → List Int
  | 0 => []
  | i + 1 => listP b i ++ (if ptP b i = 0 then [] else [ptP b i])
def lastP (b : List UInt8) : Nat → Nat
  | 0 => 0
  | i + 1 => if ptP b i = 0 then lastP b i else i + 1
theorem listP_length {b : List UInt8} : ∀ i, (listP b i).length ≤ i
  | 0 => by simp [listP]
  | i + 1 => by
    have := listP_length (b := b) i
    unfold listP
    split <;> simp <;> omega
theorem list_last {b : List UInt8} : ∀ i, (listP b i).length ≤ lastP b i
  | 0 => by simp [listP]
  | i + 1 => by
    have h1 := list_last (b := b) i
    have h2 := listP_length (b := b) i
    unfold listP lastP
    by_cases c : ptP b i = 0
    · rw [if_pos c, if_pos c]; simpa using h1
    · rw [if_neg c, if_neg c]; simp; omega
theorem lastP_le {b : List UInt8} : ∀ i, lastP b i ≤ i
  | 0 => by simp [lastP]
  | i + 1 => by
    have := lastP_le (b := b) i
    unfold lastP
    split <;> omega

theorem list_loop {g : Heap} {b : List UInt8} {q : Nat} (hb : b.length = 256) : ∀ (e i m : Nat) (h : Heap) (id : Nat), i + e = 128 → e < m → Low (g ++ [some (Row.mk (encB b) true)]).length (g ++ [some (Row.mk (encB b) true)]) h → (g ++ [some (Row.mk (encB b) true)]).length ≤ id → rd h id = some ⟨encI (listP b i), true⟩ →
    ∃ v h', points_List_l0 q m (.c (.p g.length 0)) (.c (.sl id 0 (listP b i).length 1)) (.c (.i .i64 i)) h = some (v, h') ∧ Out g.length h' v 1 (listP b 128).length (encI (listP b 128))
  | e, i, 0, h, id, _, hm, _, _, _ => by omega
  | 0, i, m + 1, h, id, hi, hm, hlow, hid, hr => by
    have e0 : i = 128 := by omega
    subst e0
    have c0 : ¬ ((128 : Nat) : Int) < 128 := by omega
    rw [List.length_append] at hid
    rw [points_List_l0_eq]
    exact ⟨_, _, by simp only [afAddr_p, List.append_nil, if_true, if_false, bnd_some, mp_some, cnd_t, cnd_f, gd_no, gd_tt, gd_tf, gd_ft, gd_ff, alenS_s, alen_sl, alen_ns, abin_add, abin_sub, abin_mul, abin_eql, abin_neq, abin_lss, abin_leq, abin_gtr, abin_geq, abin_seql, abin_sneq, abin_slss, aun_not, aun_neg, agn_some, aeqN_nf, aeqN_f, aeqN_np, aeqN_p, anilc_p, aeqB_t, aeqB_f, aconv_i, apick_b, cond_true, cond_false, decide_true, decide_false, Bool.not_true, Bool.not_false, aext_t, ofPart_c, ofPart_a, part?_c, part?_a, cells?_c, cells?_a, tupN_2, tupN_3, Option.map_some, Option.some.injEq, List.getElem?_cons_zero, List.getElem?_cons_succ, not_true_eq_false, not_false_eq_true, quiet_same, bytesI_length, Option.join_some, List.append_assoc, List.cons_append, List.nil_append, List.length_append, List.length_cons, List.length_nil, Nat.zero_add, Nat.add_zero, rd_at, rd_at0, set_at, set_at0, List.set_cons_zero, List.set_cons_succ, ne_eq, decide_not, quiet_ext, newOk_some, List.cons_prefix_cons, List.nil_prefix, List.drop_succ_cons, List.drop_zero, List.all_cons, List.all_nil, Bool.and_true, true_and, and_true, c0] <;> rfl, by rw [encI_length]; omega, _, rfl, by omega, hr⟩
  | e + 1, i, m + 1, h, id, hi, hm, hlow, hid, hr => by
    have c0 : (i : Int) < 128 := by omega
    have hB : (encB b).length = 256 := by rw [encB_length, hb]
    have s1 := loadAll (h := h) (id := g.length) (cs := encB b) (hlow.rd (by simp)) hB
    have hG := fun h => points_Get_at (h := h) hb (show i < 128 by omega)
    have hul := listP_length (b := b) i
    rw [points_List_l0_eq]
    by_cases c : ptP b i = 0
    · have hu : listP b (i + 1) = listP b i := by rw [listP, if_pos c, List.append_nil]
      obtain ⟨v, h', f1, f2⟩ := list_loop (q := q) hb e (i + 1) m h id (by omega) (by omega) hlow hid (by rw [hu]; exact hr)
      rw [hu] at f1
      refine ⟨v, h', ?_, f2⟩
      simp only [afAddr_p, List.append_nil, if_true, if_false, bnd_some, mp_some, cnd_t, cnd_f, gd_no, gd_tt, gd_tf, gd_ft, gd_ff, alenS_s, alen_sl, alen_ns, abin_add, abin_sub, abin_mul, abin_eql, abin_neq, abin_lss, abin_leq, abin_gtr, abin_geq, abin_seql, abin_sneq, abin_slss, aun_not, aun_neg, agn_some, aeqN_nf, aeqN_f, aeqN_np, aeqN_p, anilc_p, aeqB_t, aeqB_f, aconv_i, apick_b, cond_true, cond_false, decide_true, decide_false, Bool.not_true, Bool.not_false, aext_t, ofPart_c, ofPart_a, part?_c, part?_a, cells?_c, cells?_a, tupN_2, tupN_3, Option.map_some, Option.some.injEq, List.getElem?_cons_zero, List.getElem?_cons_succ, not_true_eq_false, not_false_eq_true, quiet_same, bytesI_length, Option.join_some, List.append_assoc, List.cons_append, List.nil_append, List.length_append, List.length_cons, List.length_nil, Nat.zero_add, Nat.add_zero, rd_at, rd_at0, set_at, set_at0, List.set_cons_zero, List.set_cons_succ, ne_eq, decide_not, quiet_ext, newOk_some, List.cons_prefix_cons, List.nil_prefix, List.drop_succ_cons, List.drop_zero, List.all_cons, List.all_nil, Bool.and_true, true_and, and_true, c0, s1, hG, c, points_List_j0_eq, wi_succ (show i + 1 < 9223372036854775808 by omega)]
      exact f1
    · have hu : listP b (i + 1) = listP b i ++ [ptP b i] := by rw [listP, if_neg c]
      obtain ⟨h1, a1, a2, a3, a4, a5⟩ := push (ys := [.i .i64 (ptP b i)]) (sz := 1) (n := (listP b i).length) hlow hr (by rw [encI_length]; omega) hid rfl (by omega) (by omega)
      have he : encI (listP b i) ++ [.i .i64 (ptP b i)] = encI (listP b (i + 1)) := by rw [hu]; simp [encI]
      rw [he] at a2
      obtain ⟨v, h', f1, f2⟩ := list_loop (q := q) hb e (i + 1) m h1 (h.length + 1) (by omega) (by omega) a3 a4 a2
      have hl1 : (listP b (i + 1)).length = (listP b i).length + 1 := by rw [hu]; simp
      rw [hl1] at f1
      have ef : afill [Cell.i .i64 0] [(0, 1, .c (.i .i64 (ptP b i)))] = some [.i .i64 (ptP b i)] := rfl
      refine ⟨v, h', ?_, f2⟩
      simp only [afAddr_p, List.append_nil, if_true, if_false, bnd_some, mp_some, cnd_t, cnd_f, gd_no, gd_tt, gd_tf, gd_ft, gd_ff, alenS_s, alen_sl, alen_ns, abin_add, abin_sub, abin_mul, abin_eql, abin_neq, abin_lss, abin_leq, abin_gtr, abin_geq, abin_seql, abin_sneq, abin_slss, aun_not, aun_neg, agn_some, aeqN_nf, aeqN_f, aeqN_np, aeqN_p, anilc_p, aeqB_t, aeqB_f, aconv_i, apick_b, cond_true, cond_false, decide_true, decide_false, Bool.not_true, Bool.not_false, aext_t, ofPart_c, ofPart_a, part?_c, part?_a, cells?_c, cells?_a, tupN_2, tupN_3, Option.map_some, Option.some.injEq, List.getElem?_cons_zero, List.getElem?_cons_succ, not_true_eq_false, not_false_eq_true, quiet_same, bytesI_length, Option.join_some, List.append_assoc, List.cons_append, List.nil_append, List.length_append, List.length_cons, List.length_nil, Nat.zero_add, Nat.add_zero, rd_at, rd_at0, set_at, set_at0, List.set_cons_zero, List.set_cons_succ, ne_eq, decide_not, quiet_ext, newOk_some, List.cons_prefix_cons, List.nil_prefix, List.drop_succ_cons, List.drop_zero, List.all_cons, List.all_nil, Bool.and_true, true_and, and_true, c0, s1, hG, c, ef, a1, points_List_j0_eq, wi_succ (show i + 1 < 9223372036854775808 by omega)]
      exact f1

theorem points_List_eq {b : List UInt8} {h : Heap} (hb : b.length = 256) : S_points_List [.a (encB b)] h = some (.c (.sl h.length 0 (listP b 128).length 1), h ++ [some ⟨encI (listP b 128), true⟩]) := by
  have key : ∀ N, 128 < N → ∀ g, ∃ v g', R_points_List N [.a (encB b)] g = some (v, g') ∧ Out g.length g' v 1 (listP b 128).length (encI (listP b 128)) := by
    intro N hN g
    obtain ⟨v, g', f1, f2⟩ := list_loop (g := g) (q := N) hb 128 0 N (g ++ [some ⟨encB b, true⟩, some ⟨[], true⟩, some ⟨[], true⟩]) (g.length + 2) (by omega) (by omega)
      (by have := (Low.refl (h := g ++ [some (Row.mk (encB b) true)]) (Nat.le_refl _)).new [some ⟨[], true⟩, some ⟨[], true⟩]
          simpa using this) (by simp) (by simp [listP, encI])
    rw [R_points_List_eq]
    exact ⟨v, g', by simp only [afAddr_p, List.append_nil, if_true, if_false, bnd_some, mp_some, cnd_t, cnd_f, gd_no, gd_tt, gd_tf, gd_ft, gd_ff, alenS_s, alen_sl, alen_ns, abin_add, abin_sub, abin_mul, abin_eql, abin_neq, abin_lss, abin_leq, abin_gtr, abin_geq, abin_seql, abin_sneq, abin_slss, aun_not, aun_neg, agn_some, aeqN_nf, aeqN_f, aeqN_np, aeqN_p, anilc_p, aeqB_t, aeqB_f, aconv_i, apick_b, cond_true, cond_false, decide_true, decide_false, Bool.not_true, Bool.not_false, aext_t, ofPart_c, ofPart_a, part?_c, part?_a, cells?_c, cells?_a, tupN_2, tupN_3, Option.map_some, Option.some.injEq, List.getElem?_cons_zero, List.getElem?_cons_succ, not_true_eq_false, not_false_eq_true, quiet_same, bytesI_length, Option.join_some, List.append_assoc, List.cons_append, List.nil_append, List.length_append, List.length_cons, List.length_nil, Nat.zero_add, Nat.add_zero, rd_at, rd_at0, set_at, set_at0, List.set_cons_zero, List.set_cons_succ, ne_eq, decide_not, quiet_ext, newOk_some, List.cons_prefix_cons, List.nil_prefix, List.drop_succ_cons, List.drop_zero, List.all_cons, List.all_nil, Bool.and_true, true_and, and_true, aloadN_at, aloadN_at0, aload1_at, aload1_at0, astoreN_at, astoreN_at0, astore1_at, astore1_at0, aslA_at, aslA_at0, ldN_all, ld1_row, stN_all, st1_row, slr_all, Nat.reduceAdd, Nat.reduceMul, Nat.reduceLT]; exact f1, f2⟩
  obtain ⟨v, g', e, ho⟩ := key (h.length + 129) (by omega) (ro h)
  exact S_points_List_out e (by simpa [ro_length] using ho) (by simp)

theorem last_loop {g : Heap} {b : List UInt8} {q : Nat} (hb : b.length = 256) : ∀ e i m : Nat, i + e = 128 → e < m →
    points_Last_l0 q m (.c (.p g.length 0)) (.c (.i .i64 (lastP b i : Nat))) (.c (.i .i64 i)) (g ++ [some ⟨encB b, true⟩]) = some (.c (.i .i64 (lastP b 128 : Nat)), g ++ [some ⟨encB b, true⟩])
  | e, i, 0, _, hm => by omega
  | 0, i, m + 1, hi, hm => by
    have e0 : i = 128 := by omega
    subst e0
    have c0 : ¬ ((128 : Nat) : Int) < 128 := by omega
    rw [points_Last_l0_eq]
    simp only [afAddr_p, List.append_nil, if_true, if_false, bnd_some, mp_some, cnd_t, cnd_f, gd_no, gd_tt, gd_tf, gd_ft, gd_ff, alenS_s, alen_sl, alen_ns, abin_add, abin_sub, abin_mul, abin_eql, abin_neq, abin_lss, abin_leq, abin_gtr, abin_geq, abin_seql, abin_sneq, abin_slss, aun_not, aun_neg, agn_some, aeqN_nf, aeqN_f, aeqN_np, aeqN_p, anilc_p, aeqB_t, aeqB_f, aconv_i, apick_b, cond_true, cond_false, decide_true, decide_false, Bool.not_true, Bool.not_false, aext_t, ofPart_c, ofPart_a, part?_c, part?_a, cells?_c, cells?_a, tupN_2, tupN_3, Option.map_some, Option.some.injEq, List.getElem?_cons_zero, List.getElem?_cons_succ, not_true_eq_false, not_false_eq_true, quiet_same, bytesI_length, Option.join_some, List.append_assoc, List.cons_append, List.nil_append, List.length_append, List.length_cons, List.length_nil, Nat.zero_add, Nat.add_zero, rd_at, rd_at0, set_at, set_at0, List.set_cons_zero, List.set_cons_succ, ne_eq, decide_not, quiet_ext, newOk_some, List.cons_prefix_cons, List.nil_prefix, List.drop_succ_cons, List.drop_zero, List.all_cons, List.all_nil, Bool.and_true, true_and, and_true, c0]
  | e + 1, i, m + 1, hi, hm => by
    have ih := last_loop (g := g) (q := q) hb e (i + 1) m (by omega) (by omega)
    have c0 : (i : Int) < 128 := by omega
    have hB : (encB b).length = 256 := by rw [encB_length, hb]
    have hG := fun h => points_Get_at (h := h) hb (show i < 128 by omega)
    rw [points_Last_l0_eq]
    rw [lastP] at ih
    by_cases c : ptP b i = 0
    · rw [if_pos c] at ih
      simp only [afAddr_p, List.append_nil, if_true, if_false, bnd_some, mp_some, cnd_t, cnd_f, gd_no, gd_tt, gd_tf, gd_ft, gd_ff, alenS_s, alen_sl, alen_ns, abin_add, abin_sub, abin_mul, abin_eql, abin_neq, abin_lss, abin_leq, abin_gtr, abin_geq, abin_seql, abin_sneq, abin_slss, aun_not, aun_neg, agn_some, aeqN_nf, aeqN_f, aeqN_np, aeqN_p, anilc_p, aeqB_t, aeqB_f, aconv_i, apick_b, cond_true, cond_false, decide_true, decide_false, Bool.not_true, Bool.not_false, aext_t, ofPart_c, ofPart_a, part?_c, part?_a, cells?_c, cells?_a, tupN_2, tupN_3, Option.map_some, Option.some.injEq, List.getElem?_cons_zero, List.getElem?_cons_succ, not_true_eq_false, not_false_eq_true, quiet_same, bytesI_length, Option.join_some, List.append_assoc, List.cons_append, List.nil_append, List.length_append, List.length_cons, List.length_nil, Nat.zero_add, Nat.add_zero, rd_at, rd_at0, set_at, set_at0, List.set_cons_zero, List.set_cons_succ, ne_eq, decide_not, quiet_ext, newOk_some, List.cons_prefix_cons, List.nil_prefix, List.drop_succ_cons, List.drop_zero, List.all_cons, List.all_nil, Bool.and_true, true_and, and_true, aloadN_at, aloadN_at0, aload1_at, aload1_at0, astoreN_at, astoreN_at0, astore1_at, astore1_at0, aslA_at, aslA_at0, ldN_all, ld1_row, stN_all, st1_row, slr_all, Nat.reduceAdd, Nat.reduceMul, Nat.reduceLT, c0, hB, hG, c, points_Last_j0_eq, wi_succ (show i + 1 < 9223372036854775808 by omega)]
      exact ih
    · rw [if_neg c] at ih
      simp only [afAddr_p, List.append_nil, if_true, if_false, bnd_some, mp_some, cnd_t, cnd_f, gd_no, gd_tt, gd_tf, gd_ft, gd_ff, alenS_s, alen_sl, alen_ns, abin_add, abin_sub, abin_mul, abin_eql, abin_neq, abin_lss, abin_leq, abin_gtr, abin_geq, abin_seql, abin_sneq, abin_slss, aun_not, aun_neg, agn_some, aeqN_nf, aeqN_f, aeqN_np, aeqN_p, anilc_p, aeqB_t, aeqB_f, aconv_i, apick_b, cond_true, cond_false, decide_true, decide_false, Bool.not_true, Bool.not_false, aext_t, ofPart_c, ofPart_a, part?_c, part?_a, cells?_c, cells?_a, tupN_2, tupN_3, Option.map_some, Option.some.injEq, List.getElem?_cons_zero, List.getElem?_cons_succ, not_true_eq_false, not_false_eq_true, quiet_same, bytesI_length, Option.join_some, List.append_assoc, List.cons_append, List.nil_append, List.length_append, List.length_cons, List.length_nil, Nat.zero_add, Nat.add_zero, rd_at, rd_at0, set_at, set_at0, List.set_cons_zero, List.set_cons_succ, ne_eq, decide_not, quiet_ext, newOk_some, List.cons_prefix_cons, List.nil_prefix, List.drop_succ_cons, List.drop_zero, List.all_cons, List.all_nil, Bool.and_true, true_and, and_true, aloadN_at, aloadN_at0, aload1_at, aload1_at0, astoreN_at, astoreN_at0, astore1_at, astore1_at0, aslA_at, aslA_at0, ldN_all, ld1_row, stN_all, st1_row, slr_all, Nat.reduceAdd, Nat.reduceMul, Nat.reduceLT, c0, hB, hG, c, points_Last_j0_eq, wi_succ (show i + 1 < 9223372036854775808 by omega)]
      exact ih

theorem points_Last_eq {b : List UInt8} {h : Heap} (hb : b.length = 256) : S_points_Last [.a (encB b)] h = some (.c (.i .i64 (lastP b 128 : Nat)), h) := by
  have key : ∀ N, 128 < N → ∀ g, ∃ g', R_points_Last N [.a (encB b)] g = some (.c (.i .i64 (lastP b 128 : Nat)), g') := by
    intro N hN g
    have e := last_loop (g := g) (q := N) hb 128 0 N (by omega) (by omega)
    rw [show lastP b 0 = 0 from rfl] at e
    rw [R_points_Last_eq]
    exact ⟨_, by simp only [afAddr_p, List.append_nil, if_true, if_false, bnd_some, mp_some, cnd_t, cnd_f, gd_no, gd_tt, gd_tf, gd_ft, gd_ff, alenS_s, alen_sl, alen_ns, abin_add, abin_sub, abin_mul, abin_eql, abin_neq, abin_lss, abin_leq, abin_gtr, abin_geq, abin_seql, abin_sneq, abin_slss, aun_not, aun_neg, agn_some, aeqN_nf, aeqN_f, aeqN_np, aeqN_p, anilc_p, aeqB_t, aeqB_f, aconv_i, apick_b, cond_true, cond_false, decide_true, decide_false, Bool.not_true, Bool.not_false, aext_t, ofPart_c, ofPart_a, part?_c, part?_a, cells?_c, cells?_a, tupN_2, tupN_3, Option.map_some, Option.some.injEq, List.getElem?_cons_zero, List.getElem?_cons_succ, not_true_eq_false, not_false_eq_true, quiet_same, bytesI_length, Option.join_some, List.append_assoc, List.cons_append, List.nil_append, List.length_append, List.length_cons, List.length_nil, Nat.zero_add, Nat.add_zero, rd_at, rd_at0, set_at, set_at0, List.set_cons_zero, List.set_cons_succ, ne_eq, decide_not, quiet_ext, newOk_some, List.cons_prefix_cons, List.nil_prefix, List.drop_succ_cons, List.drop_zero, List.all_cons, List.all_nil, Bool.and_true, true_and, and_true, aloadN_at, aloadN_at0, aload1_at, aload1_at0, astoreN_at, astoreN_at0, astore1_at, astore1_at0, aslA_at, aslA_at0, ldN_all, ld1_row, stN_all, st1_row, slr_all, Nat.reduceAdd, Nat.reduceMul, Nat.reduceLT]; exact e⟩
  obtain ⟨g', e⟩ := key (h.length + 129) (by omega) (ro h)
  exact S_points_Last_flat e rfl

end Go.Proofs.Ytbbkpmbepljhkaa
