/- The hash of names, and the document's answer. -/
import Derived.Test.YtbbkpmbepljhkaaEscU
import Derived.Test.YtbbkpmbepljhkaaGMix
import Derived.Test.YtbbkpmbepljhkaaGEscheatref02
set_option linter.all false
namespace Go.Proofs.Ytbbkpmbepljhkaa
open Go Go.Esc

def mixS (h : Nat) (c : UInt8) : Nat := ((h ^^^ c.toNat) * 16777619) % 4294967296
def mixFrom (h : Nat) (s : List UInt8) : Nat := s.foldl mixS h
def mixH (s : List UInt8) : Nat := mixFrom 2166136261 s

theorem mixS_lt {h : Nat} {c : UInt8} : mixS h c < 4294967296 := Nat.mod_lt _ (by omega)
theorem mixFrom_lt {s : List UInt8} : ∀ {h : Nat}, h < 4294967296 → mixFrom h s < 4294967296 := by
  induction s with
  | nil => intro h hh; exact hh
  | cons c s ih => intro h _; exact ih mixS_lt
theorem mixH_lt {s : List UInt8} : mixH s < 4294967296 := mixFrom_lt (by omega)

theorem wrap_u32_mod {a : Int} : IntKind.wrap .u32 a = a % 4294967296 := by
  simp only [IntKind.wrap, IntKind.bits, IntKind.signed, Bool.false_and]
  rfl

theorem mix_More_loop {s : List UInt8} (hs : s.length < 9223372036854775807) {q : Nat} {h : Heap} : ∀ (d i m H : Nat), i + d = s.length → d < m → H < 4294967296 →
    mix_More_l0 q m (.c (.i .u32 H)) (.c (.s s)) (.c (.i .i64 s.length)) (.c (.i .i64 i)) h = some (.c (.i .u32 ((mixFrom H (s.drop i) : Nat) : Int)), h)
  | d, i, 0, H, _, hm, _ => by omega
  | 0, i, m + 1, H, hi, hm, hH => by
    have c0 : ¬ (i : Int) < s.length := by omega
    rw [mix_More_l0_eq, List.drop_of_length_le (by omega)]
    simp only [afAddr_p, List.append_nil, if_true, if_false, bnd_some, mp_some, cnd_t, cnd_f, gd_no, gd_tt, gd_tf, gd_ft, gd_ff, alenS_s, alen_sl, alen_ns, abin_add, abin_sub, abin_mul, abin_eql, abin_neq, abin_lss, abin_leq, abin_gtr, abin_geq, abin_seql, abin_sneq, abin_slss, aun_not, aun_neg, aeqB_t, aeqB_f, aconv_i, apick_b, cond_true, cond_false, decide_true, decide_false, Bool.not_true, Bool.not_false, aext_t, ofPart_c, ofPart_a, part?_c, part?_a, cells?_c, cells?_a, tupN_2, tupN_3, Option.map_some, Option.some.injEq, List.getElem?_cons_zero, List.getElem?_cons_succ, not_true_eq_false, not_false_eq_true, quiet_same, bytesI_length, Option.join_some, List.append_assoc, List.cons_append, List.nil_append, List.length_append, List.length_cons, List.length_nil, Nat.zero_add, Nat.add_zero, rd_at, rd_at0, set_at, set_at0, List.set_cons_zero, List.set_cons_succ, ne_eq, decide_not, quiet_ext, newOk_some, List.cons_prefix_cons, List.nil_prefix, List.drop_succ_cons, List.drop_zero, List.all_cons, List.all_nil, Bool.and_true, true_and, and_true, c0, mixFrom, List.foldl_nil]
  | d + 1, i, m + 1, H, hi, hm, hH => by
    have h2 : i < s.length := by omega
    have hb := s[i].toNat_lt
    have ih := mix_More_loop hs (q := q) (h := h) d (i + 1) m (mixS H s[i]) (by omega) (by omega) mixS_lt
    have c0 : (i : Int) < s.length := by omega
    have e1 : IntKind.wrap .u32 (s[i].toNat : Int) = s[i].toNat := wrap_u32 (by omega) (by omega)
    have e2 := xor_u32 (a := H) (b := s[i].toNat) hH (by omega)
    have e3 : IntKind.wrap .u32 (((H ^^^ s[i].toNat : Nat) : Int) * 16777619) = ((mixS H s[i] : Nat) : Int) := by
      rw [wrap_u32_mod]; unfold mixS; omega
    rw [mix_More_l0_eq, List.drop_eq_getElem_cons h2]
    simp only [afAddr_p, List.append_nil, if_true, if_false, bnd_some, mp_some, cnd_t, cnd_f, gd_no, gd_tt, gd_tf, gd_ft, gd_ff, alenS_s, alen_sl, alen_ns, abin_add, abin_sub, abin_mul, abin_eql, abin_neq, abin_lss, abin_leq, abin_gtr, abin_geq, abin_seql, abin_sneq, abin_slss, aun_not, aun_neg, aeqB_t, aeqB_f, aconv_i, apick_b, cond_true, cond_false, decide_true, decide_false, Bool.not_true, Bool.not_false, aext_t, ofPart_c, ofPart_a, part?_c, part?_a, cells?_c, cells?_a, tupN_2, tupN_3, Option.map_some, Option.some.injEq, List.getElem?_cons_zero, List.getElem?_cons_succ, not_true_eq_false, not_false_eq_true, quiet_same, bytesI_length, Option.join_some, List.append_assoc, List.cons_append, List.nil_append, List.length_append, List.length_cons, List.length_nil, Nat.zero_add, Nat.add_zero, rd_at, rd_at0, set_at, set_at0, List.set_cons_zero, List.set_cons_succ, ne_eq, decide_not, quiet_ext, newOk_some, List.cons_prefix_cons, List.nil_prefix, List.drop_succ_cons, List.drop_zero, List.all_cons, List.all_nil, Bool.and_true, true_and, and_true, c0, idxS_of h2, e1, e2, e3, wi_succ (show i + 1 < 9223372036854775808 by omega)]
    exact ih

theorem mix_Of_eq {s : List UInt8} (hs : s.length < 9223372036854775807) {h : Heap} : S_mix_Of [.c (.s s)] h = some (.c (.i .u32 ((mixH s : Nat) : Int)), h) := by
  have hm : ∀ h, S_mix_More [.c (.i .u32 2166136261), .c (.s s)] h = some (.c (.i .u32 ((mixH s : Nat) : Int)), h) := fun h => by
    refine S_mix_More_flat (n := s.length + 1) (h2 := ro h) ?_ rfl
    rw [R_mix_More_eq]
    have := mix_More_loop hs (q := s.length + 1) (h := ro h) s.length 0 (s.length + 1) 2166136261 (by omega) (by omega) (by omega)
    simp only [afAddr_p, List.append_nil, if_true, if_false, bnd_some, mp_some, cnd_t, cnd_f, gd_no, gd_tt, gd_tf, gd_ft, gd_ff, alenS_s, alen_sl, alen_ns, abin_add, abin_sub, abin_mul, abin_eql, abin_neq, abin_lss, abin_leq, abin_gtr, abin_geq, abin_seql, abin_sneq, abin_slss, aun_not, aun_neg, aeqB_t, aeqB_f, aconv_i, apick_b, cond_true, cond_false, decide_true, decide_false, Bool.not_true, Bool.not_false, aext_t, ofPart_c, ofPart_a, part?_c, part?_a, cells?_c, cells?_a, tupN_2, tupN_3, Option.map_some, Option.some.injEq, List.getElem?_cons_zero, List.getElem?_cons_succ, not_true_eq_false, not_false_eq_true, quiet_same, bytesI_length, Option.join_some, List.append_assoc, List.cons_append, List.nil_append, List.length_append, List.length_cons, List.length_nil, Nat.zero_add, Nat.add_zero, rd_at, rd_at0, set_at, set_at0, List.set_cons_zero, List.set_cons_succ, ne_eq, decide_not, quiet_ext, newOk_some, List.cons_prefix_cons, List.nil_prefix, List.drop_succ_cons, List.drop_zero, List.all_cons, List.all_nil, Bool.and_true, true_and, and_true]
    exact this
  refine S_mix_Of_flat (n := 0) (h2 := ro h) ?_ rfl
  rw [R_mix_Of_eq]
  simp only [afAddr_p, List.append_nil, if_true, if_false, bnd_some, mp_some, cnd_t, cnd_f, gd_no, gd_tt, gd_tf, gd_ft, gd_ff, alenS_s, alen_sl, alen_ns, abin_add, abin_sub, abin_mul, abin_eql, abin_neq, abin_lss, abin_leq, abin_gtr, abin_geq, abin_seql, abin_sneq, abin_slss, aun_not, aun_neg, aeqB_t, aeqB_f, aconv_i, apick_b, cond_true, cond_false, decide_true, decide_false, Bool.not_true, Bool.not_false, aext_t, ofPart_c, ofPart_a, part?_c, part?_a, cells?_c, cells?_a, tupN_2, tupN_3, Option.map_some, Option.some.injEq, List.getElem?_cons_zero, List.getElem?_cons_succ, not_true_eq_false, not_false_eq_true, quiet_same, bytesI_length, Option.join_some, List.append_assoc, List.cons_append, List.nil_append, List.length_append, List.length_cons, List.length_nil, Nat.zero_add, Nat.add_zero, rd_at, rd_at0, set_at, set_at0, List.set_cons_zero, List.set_cons_succ, ne_eq, decide_not, quiet_ext, newOk_some, List.cons_prefix_cons, List.nil_prefix, List.drop_succ_cons, List.drop_zero, List.all_cons, List.all_nil, Bool.and_true, true_and, and_true, hm]

theorem xor_low {h c : Nat} (hc : c < 256) : h - h % 256 + (h % 256 ^^^ c) = h ^^^ c := by
  have e1 : (h ^^^ c) / 256 = h / 256 := by
    have := Nat.xor_div_two_pow (a := h) (b := c) (n := 8)
    rw [show (2 : Nat) ^ 8 = 256 from rfl, Nat.div_eq_of_lt hc, Nat.xor_zero] at this
    exact this
  have e2 : (h ^^^ c) % 256 = h % 256 ^^^ c := by
    have := Nat.xor_mod_two_pow (a := h) (b := c) (n := 8)
    rw [show (2 : Nat) ^ 8 = 256 from rfl, Nat.mod_eq_of_lt hc] at this
    exact this
  have h1 := Nat.div_add_mod (h ^^^ c) 256
  have h2 := Nat.div_add_mod h 256
  rw [e1, e2] at h1
  omega

theorem ref02_More_loop {s : List UInt8} (hs : s.length < 9223372036854775807) {q : Nat} {h : Heap} : ∀ (d i m H : Nat), i + d = s.length → d < m → H < 4294967296 →
    escheatref02_More_l0 q m (.c (.i .u64 H)) (.c (.s s)) (.c (.i .i64 i)) h = some (.c (.i .u64 ((mixFrom H (s.drop i) : Nat) : Int)), h)
  | d, i, 0, H, _, hm, _ => by omega
  | 0, i, m + 1, H, hi, hm, hH => by
    have c0 : ¬ (i : Int) < s.length := by omega
    rw [escheatref02_More_l0_eq, List.drop_of_length_le (by omega)]
    simp only [afAddr_p, List.append_nil, if_true, if_false, bnd_some, mp_some, cnd_t, cnd_f, gd_no, gd_tt, gd_tf, gd_ft, gd_ff, alenS_s, alen_sl, alen_ns, abin_add, abin_sub, abin_mul, abin_eql, abin_neq, abin_lss, abin_leq, abin_gtr, abin_geq, abin_seql, abin_sneq, abin_slss, aun_not, aun_neg, aeqB_t, aeqB_f, aconv_i, apick_b, cond_true, cond_false, decide_true, decide_false, Bool.not_true, Bool.not_false, aext_t, ofPart_c, ofPart_a, part?_c, part?_a, cells?_c, cells?_a, tupN_2, tupN_3, Option.map_some, Option.some.injEq, List.getElem?_cons_zero, List.getElem?_cons_succ, not_true_eq_false, not_false_eq_true, quiet_same, bytesI_length, Option.join_some, List.append_assoc, List.cons_append, List.nil_append, List.length_append, List.length_cons, List.length_nil, Nat.zero_add, Nat.add_zero, rd_at, rd_at0, set_at, set_at0, List.set_cons_zero, List.set_cons_succ, ne_eq, decide_not, quiet_ext, newOk_some, List.cons_prefix_cons, List.nil_prefix, List.drop_succ_cons, List.drop_zero, List.all_cons, List.all_nil, Bool.and_true, true_and, and_true, c0, mixFrom, List.foldl_nil]
  | d + 1, i, m + 1, H, hi, hm, hH => by
    have h2 : i < s.length := by omega
    have hb := s[i].toNat_lt
    have ih := ref02_More_loop hs (q := q) (h := h) d (i + 1) m (mixS H s[i]) (by omega) (by omega) mixS_lt
    have c0 : (i : Int) < s.length := by omega
    have hx : (H ^^^ s[i].toNat) < 2 ^ 32 := Nat.xor_lt_two_pow (by simpa using hH) (by omega)
    have e0 : abin .rem (.c (.i .u64 (H : Int))) (.c (.i .u64 256)) = some (.c (.i .u64 ((H % 256 : Nat) : Int))) := by
      rw [rem_i (by omega) (by omega)]; simp
    have e1 : IntKind.wrap .u64 (s[i].toNat : Int) = s[i].toNat := wrap_u64 (by omega) (by omega)
    have e2 : abin .xor (.c (.i .u64 ((H % 256 : Nat) : Int))) (.c (.i .u64 (s[i].toNat : Int))) = some (.c (.i .u64 ((H % 256 ^^^ s[i].toNat : Nat) : Int))) := by
      rw [abin_xor]
      have h1 : (IntKind.u64).bits = 64 := rfl
      have h3 : (H % 256 ^^^ s[i].toNat) < 2 ^ 64 := Nat.xor_lt_two_pow (by omega) (by omega)
      rw [h1]
      simp only [BitVec.ofInt_natCast, BitVec.toNat_xor, BitVec.toNat_ofNat]
      rw [Nat.mod_eq_of_lt (show H % 256 < 2 ^ 64 by omega), Nat.mod_eq_of_lt (show s[i].toNat < 2 ^ 64 by omega)]
      exact congrArg some (congrArg Val.c (congrArg (Cell.i .u64) (wrap_u64 (by omega) (by omega))))
    have hl := xor_low (h := H) (c := s[i].toNat) (by omega)
    have e3 : IntKind.wrap .u64 ((H : Int) - ((H % 256 : Nat) : Int)) = ((H - H % 256 : Nat) : Int) := by rw [wrap_u64 (by omega) (by omega)]; omega
    have e4 : IntKind.wrap .u64 (((H - H % 256 : Nat) : Int) + ((H % 256 ^^^ s[i].toNat : Nat) : Int)) = ((H ^^^ s[i].toNat : Nat) : Int) := by
      have e : ((H - H % 256 : Nat) : Int) + ((H % 256 ^^^ s[i].toNat : Nat) : Int) = ((H ^^^ s[i].toNat : Nat) : Int) := by rw [← hl]; omega
      rw [e]; exact wrap_u64 (by omega) (by omega)
    have e5 : IntKind.wrap .u64 (((H ^^^ s[i].toNat : Nat) : Int) * 16777619) = (((H ^^^ s[i].toNat) * 16777619 : Nat) : Int) := by
      have e : ((H ^^^ s[i].toNat : Nat) : Int) * 16777619 = (((H ^^^ s[i].toNat) * 16777619 : Nat) : Int) := by omega
      rw [e]; exact wrap_u64 (by omega) (by omega)
    have e6 : abin .rem (.c (.i .u64 (((H ^^^ s[i].toNat) * 16777619 : Nat) : Int))) (.c (.i .u64 4294967296)) = some (.c (.i .u64 ((mixS H s[i] : Nat) : Int))) := by
      rw [rem_i (a := (((H ^^^ s[i].toNat) * 16777619 : Nat) : Int)) (b := 4294967296) (by omega) (by omega)]
      unfold mixS
      exact congrArg some (congrArg Val.c (congrArg (Cell.i .u64) (by omega)))
    rw [escheatref02_More_l0_eq, List.drop_eq_getElem_cons h2]
    simp only [afAddr_p, List.append_nil, if_true, if_false, bnd_some, mp_some, cnd_t, cnd_f, gd_no, gd_tt, gd_tf, gd_ft, gd_ff, alenS_s, alen_sl, alen_ns, abin_add, abin_sub, abin_mul, abin_eql, abin_neq, abin_lss, abin_leq, abin_gtr, abin_geq, abin_seql, abin_sneq, abin_slss, aun_not, aun_neg, aeqB_t, aeqB_f, aconv_i, apick_b, cond_true, cond_false, decide_true, decide_false, Bool.not_true, Bool.not_false, aext_t, ofPart_c, ofPart_a, part?_c, part?_a, cells?_c, cells?_a, tupN_2, tupN_3, Option.map_some, Option.some.injEq, List.getElem?_cons_zero, List.getElem?_cons_succ, not_true_eq_false, not_false_eq_true, quiet_same, bytesI_length, Option.join_some, List.append_assoc, List.cons_append, List.nil_append, List.length_append, List.length_cons, List.length_nil, Nat.zero_add, Nat.add_zero, rd_at, rd_at0, set_at, set_at0, List.set_cons_zero, List.set_cons_succ, ne_eq, decide_not, quiet_ext, newOk_some, List.cons_prefix_cons, List.nil_prefix, List.drop_succ_cons, List.drop_zero, List.all_cons, List.all_nil, Bool.and_true, true_and, and_true, c0, e0, idxS_of h2, e1, e2, e3, e4, e5, e6, wi_succ (show i + 1 < 9223372036854775808 by omega)]
    exact ih

theorem ref02_Of_eq {s : List UInt8} (hs : s.length < 9223372036854775807) {h : Heap} : S_escheatref02_Of [.c (.s s)] h = some (.c (.i .u64 ((mixH s : Nat) : Int)), h) := by
  have hm : ∀ h, S_escheatref02_More [.c (.i .u64 2166136261), .c (.s s)] h = some (.c (.i .u64 ((mixH s : Nat) : Int)), h) := fun h => by
    refine S_escheatref02_More_flat (n := s.length + 1) (h2 := ro h) ?_ rfl
    rw [R_escheatref02_More_eq]
    exact ref02_More_loop hs (q := s.length + 1) (h := ro h) s.length 0 (s.length + 1) 2166136261 (by omega) (by omega) (by omega)
  refine S_escheatref02_Of_flat (n := 0) (h2 := ro h) ?_ rfl
  rw [R_escheatref02_Of_eq]
  simp only [afAddr_p, List.append_nil, if_true, if_false, bnd_some, mp_some, cnd_t, cnd_f, gd_no, gd_tt, gd_tf, gd_ft, gd_ff, alenS_s, alen_sl, alen_ns, abin_add, abin_sub, abin_mul, abin_eql, abin_neq, abin_lss, abin_leq, abin_gtr, abin_geq, abin_seql, abin_sneq, abin_slss, aun_not, aun_neg, aeqB_t, aeqB_f, aconv_i, apick_b, cond_true, cond_false, decide_true, decide_false, Bool.not_true, Bool.not_false, aext_t, ofPart_c, ofPart_a, part?_c, part?_a, cells?_c, cells?_a, tupN_2, tupN_3, Option.map_some, Option.some.injEq, List.getElem?_cons_zero, List.getElem?_cons_succ, not_true_eq_false, not_false_eq_true, quiet_same, bytesI_length, Option.join_some, List.append_assoc, List.cons_append, List.nil_append, List.length_append, List.length_cons, List.length_nil, Nat.zero_add, Nat.add_zero, rd_at, rd_at0, set_at, set_at0, List.set_cons_zero, List.set_cons_succ, ne_eq, decide_not, quiet_ext, newOk_some, List.cons_prefix_cons, List.nil_prefix, List.drop_succ_cons, List.drop_zero, List.all_cons, List.all_nil, Bool.and_true, true_and, and_true, hm]

end Go.Proofs.Ytbbkpmbepljhkaa
