/- What the proof of this claim leans on, part 5. -/
import Derived.Test.YtdgggnlbdoiloaaFViewReadsp4
set_option linter.all false
section
namespace Go.Proofs.Ytdgggnlbdoiloaa
open Go Go.Esc

theorem patch_Check_ok {x : Cell} {a n : Nat} {cs : List Cell} {h : Heap} (hv : Has h (.c x) 1 n cs) (hn : 1 ≤ n) (han : a + n ≤ 256) :
    S_patch_Check [.a [.i .i64 a, x]] h = some (.c (.i .i64 0), h) := by
  have key : ∀ g, Has g (.c x) 1 n cs → ∃ g', R_patch_Check 0 [.a [.i .i64 a, x]] g = some (.c (.i .i64 0), g') := by
    intro g hv
    have c1 : ¬ (n : Int) < 1 := by omega
    have c2 : ¬ (256 : Int) < n := by omega
    have c3 : ¬ (a : Int) < 0 := by omega
    have e1 : IntKind.wrap .i64 (256 - (n : Int)) = 256 - n := wrap_i64 (by omega) (by omega)
    have c4 : ¬ (256 : Int) - n < a := by omega
    rw [R_patch_Check_eq]
    exact ⟨_, by simp only [esc, esh, Nat.reduceAdd, Nat.reduceMul, Nat.reduceLT, hv.len, c1, c2, c3, e1, c4] <;> rfl⟩
  obtain ⟨g', e⟩ := key (ro h) hv.ro
  exact S_patch_Check_flat e rfl

theorem patch_Lay_loop {x : Cell} {n : Nat} {data l : List UInt8} {z : List Cell} {g : Heap} (hv : Has g (.c x) 1 n (encB data)) {a q : Nat} (han : a + n ≤ 256) (hl : l.length = 256) (hz : z.length = 256) (hn : data.length = n) : ∀ d i m, i + d = n → d < m →
    patch_Lay_l0 q m (.c (.p g.length 0)) (.c (.p (g.length + 1) 0)) (.c (.p (g.length + 2) 0)) (.c x) (.c (.i .i64 n)) (.c (.i .i64 i)) (g ++ [some ⟨encB (layB l a (data.take i)), true⟩, some ⟨[.i .i64 a, x], true⟩, some ⟨z, true⟩]) =
      some (.a (encB (layB l a data)), g ++ [some ⟨encB (layB l a data), true⟩, some ⟨[.i .i64 a, x], true⟩, some ⟨encB (layB l a data), true⟩])
  | d, i, 0, _, hm => by omega
  | 0, i, m + 1, hi, hm => by
    have e0 : i = n := by omega
    subst e0
    have c0 : ¬ (i : Int) < i := by omega
    have hE : (encB (layB l a data)).length = 256 := by rw [encB_length, layB_length (by omega), hl]
    rw [patch_Lay_l0_eq, List.take_of_length_le (by omega)]
    simp only [esc, esh, Nat.reduceAdd, Nat.reduceMul, Nat.reduceLT, c0, hE, hz]
  | d + 1, i, m + 1, hi, hm => by
    have ih := patch_Lay_loop hv (z := z) (q := q) han hl hz hn d (i + 1) m (by omega) (by omega)
    obtain ⟨id, off, e, hid, h1, h2⟩ := (hv.more [some ⟨encB (layB l a (data.take i)), true⟩, some ⟨[.i .i64 a, x], true⟩, some ⟨z, true⟩]).sl (by omega)
    cases e
    have c0 : (i : Int) < n := by omega
    have hx := h1 i (.i .u8 data[i].toNat) (by rw [encB_get, List.getElem?_eq_getElem (by omega)]; rfl)
    have eb : aiAddrL 1 (.c (.sl id off n 1)) (.c (.i .i64 (i : Int))) = some (.c (.p id (off + i))) := by rw [iAddrL_of (by omega)]; simp
    have ea : aiAddrA 256 1 (.c (.p g.length 0)) (.c (.i .i64 ((a + i : Nat) : Int))) = some (.c (.p g.length (a + i))) := by rw [iAddrA_of (by omega)]; simp
    have hE : (encB (layB l a (data.take i))).length = 256 := by rw [encB_length, layB_length (by simp; omega), hl]
    have ho : a + i < 256 := by omega
    have e5 : (layB l a (data.take i)).set (a + i) data[i] = layB l a (data.take (i + 1)) := by
      have := layB_snoc (l := l) (xs := data.take i) (a := a) (x := data[i]) (by simp; omega)
      rw [List.length_take, Nat.min_eq_left (by omega)] at this
      rw [this, List.take_succ_eq_append_getElem (by omega)]
    have es : (encB (layB l a (data.take i))).set (a + i) (.i .u8 data[i].toNat) = encB (layB l a (data.take (i + 1))) := by rw [encB_set, e5]
    rw [patch_Lay_l0_eq]
    simp only [esc, esh, Nat.reduceAdd, Nat.reduceMul, Nat.reduceLT, c0, eb, hx, wi_add (show a + i < 9223372036854775808 by omega), ea, hE, ho, es, wi_succ (show i + 1 < 9223372036854775808 by omega)]
    exact ih

theorem patch_Lay_eq {x : Cell} {n a : Nat} {data l : List UInt8} {h : Heap} (hv : Has h (.c x) 1 n (encB data)) (hn : 1 ≤ n) (han : a + n ≤ 256) (hl : l.length = 256) :
    S_patch_Lay [.a (encB l), .a [.i .i64 a, x]] h = some (.a (encB (layB l a data)), h) := by
  have hd : data.length = n := by simpa [encB_length] using hv.length
  have key : ∀ N, n < N → ∀ g, Has g (.c x) 1 n (encB data) → ∃ g', R_patch_Lay N [.a (encB l), .a [.i .i64 a, x]] g = some (.a (encB (layB l a data)), g') := by
    intro N hN g hv
    have hz : (List.replicate 256 (Cell.i .u8 0)).length = 256 := List.length_replicate
    have hE : (encB l).length = 256 := by rw [encB_length, hl]
    rw [R_patch_Lay_eq]
    generalize List.replicate 256 (Cell.i .u8 0) = z at *
    have e := patch_Lay_loop hv (l := l) (z := z) (q := N) han hl hz hd n 0 N (by omega) (by omega)
    simp only [List.take_zero, layB_nil] at e
    have hc := patch_Check_ok (hv.more [some ⟨encB l, true⟩, some ⟨[.i .i64 a, x], true⟩, some ⟨z, true⟩]) hn han
    exact ⟨_, by simp only [esc, esh, Nat.reduceAdd, Nat.reduceMul, Nat.reduceLT, hE, hz, hc, hv.len]; exact e⟩
  obtain ⟨g', e⟩ := key (n + 1) (by omega) (ro h) hv.ro
  exact S_patch_Lay_flat e (by simp)

end Go.Proofs.Ytdgggnlbdoiloaa
end
section
namespace Go.Proofs.Ytdgggnlbdoiloaa
open Go Go.Esc

theorem afill_pat {a : Int} {x : Cell} : afill [Cell.i .i64 0, .ns] [(0, 1, .c (.i .i64 a)), (1, 1, .c x)] = some [.i .i64 a, x] := rfl
theorem afill_none : afill ([] : List Cell) [] = some [] := rfl

theorem table_Patch_ok {j : Nat} {k l s p : Int} {d : List Int} {h : Heap} (hd : d.length = 7) (h8 : j < 8) (c : mayI k l s p d = true) :
    S_table_Patch [.c (.i .i64 j), .a (inoC k l s p d)] h = some (.t [.a [.i .i64 ((32 * j : Nat) : Int), .sl h.length 0 32 1], .c (.i .i64 0)], h ++ [some ⟨encB (inoB k l s p d), true⟩]) := by
  have key : ∀ g, ∃ g', R_table_Patch 0 [.c (.i .i64 j), .a (inoC k l s p d)] g = some (.t [.a [.i .i64 ((32 * j : Nat) : Int), .sl (g.length + 4) 0 32 1], .c (.i .i64 0)], g') ∧ rd g' (g.length + 4) = some ⟨encB (inoB k l s p d), true⟩ := by
    intro g
    have c1 : ¬ (j : Int) < 0 := by omega
    have c2 : ¬ (8 : Int) ≤ j := by omega
    have hP := fun h => inode_Put_eq (k := k) (l := l) (s := s) (p := p) (h := h) hd
    simp only [c, cond_true] at hP
    have hE : (encI d).length = 7 := by rw [encI_length, hd]
    have hz : (List.replicate 32 (Cell.i .u8 0)).length = 32 := List.length_replicate
    have hB : (encB (inoB k l s p d)).length = 32 := by rw [encB_length, inoB_length hd]
    have w1 : IntKind.wrap .i64 ((j : Int) * 32) = ((32 * j : Nat) : Int) := by rw [wrap_i64 (by omega) (by omega)]; omega
    have p1 := app_of (h := g ++ [some ⟨inoC k l s p d, true⟩, some ⟨[.i .i64 0, .ns], true⟩, some ⟨encB (inoB k l s p d), true⟩, some ⟨[], true⟩]) (id := g.length + 3) (jd := g.length + 2) (n := 0) (m := 32) (sz := 1) (cs := []) (ys := encB (inoB k l s p d)) (rw := true) (by simp) (by simp) (by simp) (by rw [hB]) rfl (by omega) (by omega)
    generalize encB (inoB k l s p d) = B at *
    simp only [esc] at p1
    rw [R_table_Patch_eq]
    generalize List.replicate 32 (Cell.i .u8 0) = z at *
    exact ⟨_, by simp only [esc, esh, Nat.reduceAdd, Nat.reduceMul, Nat.reduceLT, c1, c2, hE, hP, hz, hB, w1, afill_none, p1, afill_pat, Int.cast_ofNat_Int] <;> rfl, by simp⟩
  obtain ⟨g', e, hr⟩ := key (ro h)
  have hr' := hr
  rw [ro_length] at hr'
  have hc1 : canonC g' h.length [] [.i .i64 ((32 * j : Nat) : Int), .sl ((ro h).length + 4) 0 32 1] = some ([.i .i64 ((32 * j : Nat) : Int), .sl h.length 0 32 1], [h.length + 4]) := by
    rw [ro_length]
    simp [canonC, Cell.low, Cell.flat, newRow_of hr' (by simp : flats (encB (inoB k l s p d)) = true)]
  have hc2 : canonC g' h.length [h.length + 4] [.i .i64 0] = some ([.i .i64 0], [h.length + 4]) := canonC_flat (by simp)
  have := S_table_Patch_tidy e (v2 := .t [.a [.i .i64 ((32 * j : Nat) : Int), .sl h.length 0 32 1], .c (.i .i64 0)]) (ids := [h.length + 4]) (by
    simp only [canonV, canonP, hc1, hc2, Option.bind_some, Option.map_some])
  rw [this]
  simp [hr']

end Go.Proofs.Ytdgggnlbdoiloaa
end
section
namespace Go.Proofs.Ytdgggnlbdoiloaa
open Go Go.Esc

theorem table_With_ok {j : Nat} {k l s p : Int} {d : List Int} {b : List UInt8} {h : Heap} (hb : b.length = 256) (hd : d.length = 7) (h8 : j < 8) (c : mayI k l s p d = true) :
    S_table_With [.a (encB b), .c (.i .i64 j), .a (inoC k l s p d)] h = some (.t [.a (encB (layB b (32 * j) (inoB k l s p d))), .c (.i .i64 0)], h) := by
  have key : ∀ g, ∃ g', R_table_With 0 [.a (encB b), .c (.i .i64 j), .a (inoC k l s p d)] g = some (.t [.a (encB (layB b (32 * j) (inoB k l s p d))), .c (.i .i64 0)], g') := by
    intro g
    have hB : (encB b).length = 256 := by rw [encB_length, hb]
    have hE : (encI d).length = 7 := by rw [encI_length, hd]
    have hI : (encB (inoB k l s p d)).length = 32 := by rw [encB_length, inoB_length hd]
    have hz : (List.replicate 256 (Cell.i .u8 0)).length = 256 := List.length_replicate
    have hP := fun h => table_Patch_ok (h := h) hd h8 c
    rw [R_table_With_eq]
    generalize List.replicate 256 (Cell.i .u8 0) = z at *
    have hL := patch_Lay_eq (h := g ++ [some (Row.mk (encB b) true), some (Row.mk (inoC k l s p d) true), some (Row.mk z true), some (Row.mk (encB (inoB k l s p d)) true), some (Row.mk [.i .i64 ((32 * j : Nat) : Int), .sl (g.length + 3) 0 32 1] true)]) (x := .sl (g.length + 3) 0 32 1) (n := 32) (a := 32 * j) (data := inoB k l s p d) (l := b) (Has.tr (by simp) (by rw [hI]) (noX_encB _)) (by omega) (by omega) hb
    have hR : (encB (layB b (32 * j) (inoB k l s p d))).length = 256 := by rw [encB_length, layB_length (by rw [inoB_length hd]; omega), hb]
    exact ⟨_, by simp only [esc, esh, Nat.reduceAdd, Nat.reduceMul, Nat.reduceLT, hB, hE, hz, hP, hL, hR] <;> rfl⟩
  obtain ⟨g', e⟩ := key (ro h)
  exact S_table_With_flat e (by simp)

def rawT (b : List UInt8) (j : Nat) : List UInt8 := (b.drop (32 * j)).take 32
theorem rawT_length {b : List UInt8} {j : Nat} (hb : b.length = 256) (hj : j < 8) : (rawT b j).length = 32 := by unfold rawT; simp; omega

theorem raw_loop {g : Heap} {b : List UInt8} {z : List Cell} {j q : Nat} (hb : b.length = 256) (hz : z.length = 32) (hj : j < 8) : ∀ e i m : Nat, i + e = 32 → e < m →
    table_Raw_l0 q m (.c (.i .i64 j)) (.c (.p g.length 0)) (.c (.p (g.length + 1) 0)) (.c (.p (g.length + 2) 0)) (.c (.i .i64 i)) (g ++ [some ⟨encB b, true⟩, some ⟨z, true⟩, some ⟨encB ((rawT b j).take i ++ zeros (32 - i)), true⟩]) =
      some (.a (encB (rawT b j)), g ++ [some ⟨encB b, true⟩, some ⟨encB (rawT b j), true⟩, some ⟨encB (rawT b j), true⟩])
  | e, i, 0, _, hm => by omega
  | 0, i, m + 1, hi, hm => by
    have e0 : i = 32 := by omega
    subst e0
    have h1' : ¬ ((32 : Nat) : Int) < 32 := by omega
    have hR := rawT_length hb hj
    have hl : (encB (rawT b j)).length = 32 := by rw [encB_length, hR]
    have e1 : encB ((rawT b j).take 32 ++ zeros (32 - 32)) = encB (rawT b j) := by rw [List.take_of_length_le (by omega)]; simp [zeros]
    rw [table_Raw_l0_eq, e1]
    simp only [esc, esh, Nat.reduceAdd, Nat.reduceMul, Nat.reduceLT, h1', hl, hz]
  | e + 1, i, m + 1, hi, hm => by
    have ih := raw_loop (g := g) (q := q) hb hz hj e (i + 1) m (by omega) (by omega)
    have hR := rawT_length hb hj
    have h1' : (i : Int) < 32 := by omega
    have w1 : IntKind.wrap .i64 ((j : Int) * 32) = ((32 * j : Nat) : Int) := by rw [wrap_i64 (by omega) (by omega)]; omega
    have a1 : aiAddrA 256 1 (.c (.p g.length 0)) (.c (.i .i64 ((32 * j + i : Nat) : Int))) = some (.c (.p g.length (32 * j + i))) := by rw [iAddrA_of (by omega)]; simp
    have a2 : aiAddrA 32 1 (.c (.p (g.length + 2) 0)) (.c (.i .i64 (i : Int))) = some (.c (.p (g.length + 2) i)) := by rw [iAddrA_of (by omega)]; simp
    have l1 : (encB b)[32 * j + i]? = some (.i .u8 (rawT b j)[i].toNat) := by
      rw [encB_get, List.getElem?_eq_getElem (by omega)]
      have : (rawT b j)[i] = b[32 * j + i]'(by omega) := by simp [rawT]
      rw [this]; rfl
    have ho : i < (encB ((rawT b j).take i ++ zeros (32 - i))).length := by rw [encB_length, List.length_append, zeros_length, List.length_take]; omega
    have es : (encB ((rawT b j).take i ++ zeros (32 - i))).set i (.i .u8 (rawT b j)[i].toNat) = encB ((rawT b j).take (i + 1) ++ zeros (32 - (i + 1))) := by
      rw [encB_set]
      refine congrArg encB ?_
      have h6 : ((rawT b j).take i).length = i := by simp; omega
      rw [List.set_append_right _ _ (by omega), h6, Nat.sub_self, List.take_succ_eq_append_getElem (by omega), List.append_assoc]
      refine congrArg ((rawT b j).take i ++ ·) ?_
      rw [show 32 - i = 32 - (i + 1) + 1 by omega]
      unfold zeros
      rw [List.replicate_succ, List.set_cons_zero]; rfl
    rw [table_Raw_l0_eq]
    simp only [esc, esh, Nat.reduceAdd, Nat.reduceMul, Nat.reduceLT, h1', w1, wi_add (show 32 * j + i < 9223372036854775808 by omega), a1, a2, l1, ho, es, wi_succ (show i + 1 < 9223372036854775808 by omega)]
    exact ih

theorem table_Raw_eq {b : List UInt8} {j : Nat} {h : Heap} (hb : b.length = 256) (hj : j < 8) : S_table_Raw [.a (encB b), .c (.i .i64 j)] h = some (.a (encB (rawT b j)), h) := by
  have key : ∀ N, 32 < N → ∀ g, ∃ g', R_table_Raw N [.a (encB b), .c (.i .i64 j)] g = some (.a (encB (rawT b j)), g') := by
    intro N hN g
    have c1 : ¬ (j : Int) < 0 := by omega
    have c2 : ¬ (8 : Int) ≤ j := by omega
    have hz : (encB (zeros 32)).length = 32 := by rw [encB_length]; exact zeros_length
    have e := raw_loop (g := g) (z := encB (zeros 32)) (q := N) hb hz hj 32 0 N (by omega) (by omega)
    simp only [List.take_zero, List.nil_append, Nat.sub_zero] at e
    rw [R_table_Raw_eq, zeros_enc]
    generalize zeros 32 = zz at *
    exact ⟨_, by simp only [esc, esh, Nat.reduceAdd, Nat.reduceMul, Nat.reduceLT, c1, c2]; exact e⟩
  obtain ⟨g', e⟩ := key (h.length + 33) (by omega) (ro h)
  exact S_table_Raw_flat e (by simp)

end Go.Proofs.Ytdgggnlbdoiloaa
end
section
namespace Go.Proofs.Ytdgggnlbdoiloaa
open Go Go.Esc

theorem ino0_length : (inoC 0 0 0 0 (zI 7)).length = 11 := rfl
theorem ino0_eq : [Cell.i .i64 0, .i .i64 0, .i .i64 0, .i .i64 0, .i .i64 0, .i .i64 0, .i .i64 0, .i .i64 0, .i .i64 0, .i .i64 0, .i .i64 0] = inoC 0 0 0 0 (zI 7) := rfl
theorem afill_ino0 : afill (inoC 0 0 0 0 (zI 7)) [] = some (inoC 0 0 0 0 (zI 7)) := rfl

theorem table_Get_at {b : List UInt8} {j : Nat} {h : Heap} (hb : b.length = 256) (hj : j < 8) : S_table_Get [.a (encB b), .c (.i .i64 j)] h = some (.t [.a (cleanC (rawT b j)), .c (.b (cleanI (rawT b j)))], h) := by
  have key : ∀ g, ∃ g', R_table_Get 0 [.a (encB b), .c (.i .i64 j)] g = some (.t [.a (cleanC (rawT b j)), .c (.b (cleanI (rawT b j)))], g') := by
    intro g
    have c1 : ¬ (j : Int) < 0 := by omega
    have c2 : ¬ (8 : Int) ≤ j := by omega
    have hB : (encB b).length = 256 := by rw [encB_length, hb]
    have hR := fun h => table_Raw_eq (h := h) hb hj
    have hC := fun h => inode_Clean_eq (b := rawT b j) (h := h) (rawT_length hb hj)
    have hl := ino0_length
    have hcl := cleanC_length (b := rawT b j)
    rw [R_table_Get_eq, ino0_eq]
    generalize inoC 0 0 0 0 (zI 7) = z at *
    exact ⟨_, by simp only [esc, esh, Nat.reduceAdd, Nat.reduceMul, Nat.reduceLT, c1, c2, hB, hR, hC, hl, hcl] <;> rfl⟩
  obtain ⟨g', e⟩ := key (ro h)
  exact S_table_Get_flat e (by simp [flats_cleanC])

end Go.Proofs.Ytdgggnlbdoiloaa
end
section
namespace Go.Proofs.Ytdgggnlbdoiloaa
open Go Go.Esc

def rawV (D : Dev) (n i : Int) : List UInt8 := rawT (blk D (whereB D.length n i)) (whereK D.length n i).toNat
def inoV (D : Dev) (n i : Int) : List Cell := bif isInoL D.length n i then cleanC (rawV D n i) else inoC 0 0 0 0 (zI 7)
def kdV (D : Dev) (n i : Int) : Int := bif isInoL D.length n i then (bif cleanI (rawV D n i) then getK (rawV D n i) else 0) else 0
theorem inoV_form (D : Dev) (n i : Int) : ∃ l s p d, inoV D n i = inoC (kdV D n i) l s p d ∧ d.length = 7 := by
  unfold inoV kdV
  cases isInoL D.length n i with
  | false => exact ⟨0, 0, 0, zI 7, rfl, zI_length⟩
  | true =>
    unfold cleanC
    cases cleanI (rawV D n i) with
    | false => exact ⟨0, 0, 0, zI 7, rfl, zI_length⟩
    | true => exact ⟨_, _, _, _, rfl, getD7_length⟩
theorem flats_inoV (D : Dev) (n i : Int) : flats (inoV D n i) = true := by
  obtain ⟨l, s, p, d, e, hd⟩ := inoV_form D n i
  rw [e]
  exact flats_encI (l := _ :: _ :: _ :: _ :: d)

theorem view_Inode_no {b n m i : Int} {f : Cell} {h : Heap} (hi : isInoL b n i = false) : S_view_View_Inode [.a (vwC b n m f), .c (.i .i64 i)] h = some (.a (inoC 0 0 0 0 (zI 7)), h) := by
  have key : ∀ g, ∃ g', R_view_View_Inode 0 [.a (vwC b n m f), .c (.i .i64 i)] g = some (.a (inoC 0 0 0 0 (zI 7)), g') := by
    intro g
    have l3 := vw_l3 (b := b) (n := n) (m := m) (f := f)
    have hW := fun h => geom_Where_eq (b := b) (n := n) (m := m) (i := i) (h := h)
    simp only [hi] at hW
    have hf := afill_ino0
    have hl := ino0_length
    rw [R_view_View_Inode_eq, ino0_eq]
    generalize vwC b n m f = V at *
    generalize inoC 0 0 0 0 (zI 7) = z at *
    exact ⟨_, by simp only [esc, esh, Nat.reduceAdd, Nat.reduceMul, Nat.reduceLT, l3, hW, hf, hl] <;> rfl⟩
  obtain ⟨g', e⟩ := key (ro h)
  exact S_view_View_Inode_flat e rfl

theorem view_Inode_eq {n m i : Int} {f : Cell} {D : Dev} {h : Heap} (hD : okD D) (hv : IsView h f D) : S_view_View_Inode [.a (vwC D.length n m f), .c (.i .i64 i)] h = some (.a (inoV D n i), h) := by
  cases hi : isInoL D.length n i with
  | false =>
    rw [view_Inode_no hi]
    unfold inoV
    rw [hi]; rfl
  | true =>
    have key : ∀ g, IsView g f D → ∃ g', R_view_View_Inode 0 [.a (vwC D.length n m f), .c (.i .i64 i)] g = some (.a (inoV D n i), g') := by
      intro g hv
      have l3 := vw_l3 (b := D.length) (n := n) (m := m) (f := f)
      have l4 := vw_l4 (b := D.length) (n := n) (m := m) (f := f)
      have hW := fun h => geom_Where_eq (b := D.length) (n := n) (m := m) (i := i) (h := h)
      simp only [hi] at hW
      have hf := afill_ino0
      have hl := ino0_length
      have hK : ∃ j : Nat, whereK D.length n i = j ∧ j < 8 := by
        refine ⟨(whereK D.length n i).toNat, ?_, ?_⟩ <;> unfold whereK <;> rw [hi, cond_true] <;> omega
      obtain ⟨j, hj, hj8⟩ := hK
      have hB := view_Block_eq (n := n) (m := m) (no := whereB D.length n i) (h := g ++ [some (Row.mk (vwC D.length n m f) true), some (Row.mk (inoC 0 0 0 0 (zI 7)) true)]) hD (hv.more _)
      have hG := fun h => table_Get_at (b := blk D (whereB D.length n i)) (j := j) (h := h) (blk_length hD) hj8
      have er : rawT (blk D (whereB D.length n i)) j = rawV D n i := by unfold rawV; rw [hj, Int.toNat_natCast]
      simp only [er] at hG
      simp only [hj] at hW
      have hcl := cleanC_length (b := rawV D n i)
      have ei : inoV D n i = cleanC (rawV D n i) := by unfold inoV; rw [hi]; rfl
      rw [R_view_View_Inode_eq, ino0_eq, ei]
      generalize vwC D.length n m f = V at *
      generalize inoC 0 0 0 0 (zI 7) = z at *
      generalize cleanC (rawV D n i) = y at *
      exact ⟨_, by simp only [esc, esh, Nat.reduceAdd, Nat.reduceMul, Nat.reduceLT, l3, l4, hW, hB, hG, hf, hl, hcl] <;> rfl⟩
    obtain ⟨g', e⟩ := key (ro h) hv.ro
    exact S_view_View_Inode_flat e (flats_inoV D n i)

end Go.Proofs.Ytdgggnlbdoiloaa
end
section
namespace Go.Proofs.Ytdgggnlbdoiloaa
open Go Go.Esc

def hasC (b : List UInt8) (i : Int) : Bool := decide (0 ≤ i) && decide (i < 2048) && decide ((b.getD (i / 8).toNat 0).toNat / 2 ^ (i % 8).toNat % 2 = 1)
def maskC (i : Nat) : Nat := 2 ^ (i % 8)
theorem maskC_lt (i : Nat) : maskC i < 256 := by
  have h : i % 8 < 8 := by omega
  unfold maskC
  generalize i % 8 = j at *
  have : j = 0 ∨ j = 1 ∨ j = 2 ∨ j = 3 ∨ j = 4 ∨ j = 5 ∨ j = 6 ∨ j = 7 := by omega
  rcases this with rfl | rfl | rfl | rfl | rfl | rfl | rfl | rfl <;> decide

theorem chart_where_in {i : Nat} {h : Heap} (hi : i < 2048) : S_chart_where [.c (.i .i64 (i : Int))] h = some (.t [.c (.i .i64 ((i / 8 : Nat) : Int)), .c (.i .u8 (maskC i : Int)), .c (.b true)], h) := by
  refine S_chart_where_flat (n := 0) (h2 := ro h) ?_ rfl
  have c1 : ¬ (i : Int) < 0 := by omega
  have c2 : ¬ (2048 : Int) ≤ i := by omega
  have q1 : abin .quo (.c (.i .i64 (i : Int))) (.c (.i .i64 8)) = some (.c (.i .i64 ((i / 8 : Nat) : Int))) := by
    rw [quo_i64 (by omega) (by omega) (by omega)]; congr 3
  have r1 : abin .rem (.c (.i .i64 (i : Int))) (.c (.i .i64 8)) = some (.c (.i .i64 ((i % 8 : Nat) : Int))) := by
    rw [rem_i (by omega) (by omega)]; congr 3
  have w1 : IntKind.wrap .u64 ((i % 8 : Nat) : Int) = ((i % 8 : Nat) : Int) := wrap_u64 (by omega) (by omega)
  have s1 : abin .shl (.c (.i .u8 1)) (.c (.i .u64 ((i % 8 : Nat) : Int))) = some (.c (.i .u8 (maskC i : Int))) := by
    have hm := maskC_lt i
    rw [abin_shl (by omega), Int.toNat_natCast]
    have e1 : Nat.min (i % 8) IntKind.u8.bits = i % 8 := by
      have : IntKind.u8.bits = 8 := rfl
      rw [this]; exact Nat.min_eq_left (by omega)
    have e2 : (1 : Int) * 2 ^ (i % 8) = (maskC i : Int) := by unfold maskC; rw [Int.natCast_pow]; simp
    rw [e1, e2, wrap_u8 (by omega) (by omega)]
  rw [R_chart_where_eq]
  simp only [esc, c1, c2, q1, r1, w1, s1]

theorem chart_where_out {i : Int} {h : Heap} (hi : i < 0 ∨ 2048 ≤ i) : S_chart_where [.c (.i .i64 i)] h = some (.t [.c (.i .i64 0), .c (.i .u8 0), .c (.b false)], h) := by
  refine S_chart_where_flat (n := 0) (h2 := ro h) ?_ rfl
  rw [R_chart_where_eq]
  by_cases c1 : i < 0
  · simp only [esc, c1]
  · have c2 : 2048 ≤ i := by omega
    simp only [esc, c1, c2]

theorem and_u8 {a b : Nat} (ha : a < 256) (hb : b < 256) : abin .and (.c (.i .u8 a)) (.c (.i .u8 b)) = some (.c (.i .u8 ((a &&& b : Nat) : Int))) := by
  have h1 : a &&& b < 2 ^ 8 := Nat.and_lt_two_pow _ hb
  rw [abin_and]
  have e : (BitVec.ofInt IntKind.u8.bits (a : Int) &&& BitVec.ofInt IntKind.u8.bits (b : Int)).toNat = a &&& b := by
    have h8 : IntKind.u8.bits = 8 := rfl
    rw [BitVec.toNat_and, BitVec.toNat_ofInt, BitVec.toNat_ofInt, h8]
    have e1 : ((a : Int) % (2 ^ 8 : Nat)).toNat = a := by omega
    have e2 : ((b : Int) % (2 ^ 8 : Nat)).toNat = b := by omega
    rw [e1, e2]
  rw [e, wrap_u8 (by omega) (by omega)]
theorem or_u8 {a b : Nat} (ha : a < 256) (hb : b < 256) : abin .or (.c (.i .u8 a)) (.c (.i .u8 b)) = some (.c (.i .u8 ((a ||| b : Nat) : Int))) := by
  have h1 : a ||| b < 2 ^ 8 := Nat.or_lt_two_pow ha hb
  rw [abin_or]
  have e : (BitVec.ofInt IntKind.u8.bits (a : Int) ||| BitVec.ofInt IntKind.u8.bits (b : Int)).toNat = a ||| b := by
    have h8 : IntKind.u8.bits = 8 := rfl
    rw [BitVec.toNat_or, BitVec.toNat_ofInt, BitVec.toNat_ofInt, h8]
    have e1 : ((a : Int) % (2 ^ 8 : Nat)).toNat = a := by omega
    have e2 : ((b : Int) % (2 ^ 8 : Nat)).toNat = b := by omega
    rw [e1, e2]
  rw [e, wrap_u8 (by omega) (by omega)]

theorem and_bit {a j : Nat} : (a &&& 2 ^ j = 0) ↔ ¬ a / 2 ^ j % 2 = 1 := by
  have h := Nat.testBit_eq_decide_div_mod_eq (x := a) (i := j)
  constructor
  · intro h0 h1
    rw [decide_eq_true h1] at h
    have h2 : (a &&& 2 ^ j).testBit j = true := by rw [Nat.testBit_and, h, Nat.testBit_two_pow, decide_eq_true rfl]; rfl
    rw [h0, Nat.zero_testBit] at h2
    cases h2
  · intro h1
    rw [decide_eq_false h1] at h
    refine Nat.eq_of_testBit_eq fun i => ?_
    rw [Nat.testBit_and, Nat.testBit_two_pow, Nat.zero_testBit]
    by_cases c : j = i
    · subst c; rw [h]; rfl
    · rw [decide_eq_false c, Bool.and_false]

theorem chart_Has_eq {b : List UInt8} {i : Int} {h : Heap} (hb : b.length = 256) : S_chart_Has [.a (encB b), .c (.i .i64 i)] h = some (.c (.b (hasC b i)), h) := by
  have key : ∀ g, ∃ g', R_chart_Has 0 [.a (encB b), .c (.i .i64 i)] g = some (.c (.b (hasC b i)), g') := by
    intro g
    rw [R_chart_Has_eq]
    by_cases c : 0 ≤ i ∧ i < 2048
    · obtain ⟨k, rfl⟩ : ∃ k : Nat, i = k := ⟨i.toNat, by omega⟩
      have hk : k < 2048 := by omega
      have hW := fun h => chart_where_in (h := h) hk
      have hlt : k / 8 < b.length := by omega
      have ad := iAddrA_of (k := .i64) (id := g.length) (off := 0) (sz := 1) (j := k / 8) (n := 256) (by omega)
      rw [Nat.mul_one, Nat.zero_add] at ad
      have l1 : (encB b)[k / 8]? = some (.i .u8 b[k / 8].toNat) := by rw [encB_get, List.getElem?_eq_getElem hlt]; rfl
      have a1 := and_u8 (a := b[k / 8].toNat) (b := maskC k) b[k / 8].toNat_lt (maskC_lt k)
      have e : hasC b k = decide (¬ (((b[k / 8].toNat &&& maskC k : Nat) : Int) = 0)) := by
        have h1 : (k : Int) / 8 = ((k / 8 : Nat) : Int) := rfl
        have h2 : (k : Int) % 8 = ((k % 8 : Nat) : Int) := rfl
        unfold hasC
        rw [decide_eq_true c.1, decide_eq_true c.2, Bool.true_and, Bool.true_and, h1, h2, Int.toNat_natCast, Int.toNat_natCast, List.getD_eq_getElem?_getD, List.getElem?_eq_getElem hlt, Option.getD_some]
        have := and_bit (a := b[k / 8].toNat) (j := k % 8)
        unfold maskC
        by_cases c : b[k / 8].toNat / 2 ^ (k % 8) % 2 = 1
        · rw [decide_eq_true c, decide_eq_true]; intro h; exact this.1 (by omega) c
        · rw [decide_eq_false c, decide_eq_false]; intro h; exact h (by have := this.2 c; omega)
      rw [e]
      generalize encB b = y at *
      exact ⟨_, by simp only [esc, esh, Nat.reduceAdd, Nat.reduceMul, Nat.reduceLT, hW, ad, l1, a1] <;> rfl⟩
    · have hW := fun h => chart_where_out (i := i) (h := h) (by omega)
      have e : hasC b i = false := by
        unfold hasC
        rw [Bool.and_eq_false_iff, Bool.and_eq_false_iff, decide_eq_false_iff_not, decide_eq_false_iff_not]; omega
      rw [e]
      generalize encB b = y at *
      exact ⟨_, by simp only [esc, esh, Nat.reduceAdd, Nat.reduceMul, Nat.reduceLT, hW] <;> rfl⟩
  obtain ⟨g', e⟩ := key (ro h)
  exact S_chart_Has_flat e rfl

end Go.Proofs.Ytdgggnlbdoiloaa
end
section
namespace Go.Proofs.Ytdgggnlbdoiloaa
open Go Go.Esc

def inosF (kd : Int → Int) : Nat → Nat → List Int
  | 0, _ => []
  | e + 1, k => if kd ((k : Int) + 1) = 0 then inosF kd e (k + 1) else ((k : Int) + 1) :: inosF kd e (k + 1)
theorem inosF_length (kd : Int → Int) : ∀ e k, (inosF kd e k).length ≤ e
  | 0, k => by simp [inosF]
  | e + 1, k => by
    have := inosF_length kd e (k + 1)
    unfold inosF
    split <;> simp <;> omega

theorem inodes_loop {b n m : Int} {f : Cell} {kd : Int → Int} {g : Heap} {p q : Nat} (h1 : rd g p = some ⟨vwC b n m f, true⟩)
    (hI : ∀ (i : Int) (h : Heap), Low g.length g h → ∃ l s q d, S_view_View_Inode [.a (vwC b n m f), .c (.i .i64 i)] h = some (.a (inoC (kd i) l s q d), h)) :
    ∀ (e k M id : Nat) (h : Heap) (l : List Int), k + e = 128 → e < M → l.length ≤ k → Low g.length g h → g.length ≤ id → rd h id = some ⟨encI l, true⟩ →
    ∃ v' h', view_View_Inodes_l0 q M (.c (.p p 0)) (.c (.sl id 0 l.length 1)) (.c (.i .i64 (k : Int))) h = some (v', h') ∧ Out g.length h' v' 1 (l ++ inosF kd e k).length (encI (l ++ inosF kd e k))
  | e, k, 0, id, h, l, _, hm, _, _, _, _ => by omega
  | 0, k, M + 1, id, h, l, hk, hm, hl, hlow, hid, hr => by
    have c0 : ¬ (k : Int) < 128 := by omega
    rw [view_View_Inodes_l0_eq, inosF, List.append_nil]
    exact ⟨_, _, by simp only [esc, c0] <;> rfl, by rw [encI_length, Nat.mul_one], id, rfl, hid, hr⟩
  | e + 1, k, M + 1, id, h, l, hk, hm, hl, hlow, hid, hr => by
    have c0 : (k : Int) < 128 := by omega
    have w1 : IntKind.wrap .i64 ((k : Int) + 1) = (k : Int) + 1 := wrap_i64 (by omega) (by omega)
    have hV := loadAll (h := h) (id := p) (hlow.rd h1) (n := 4) rfl
    obtain ⟨l', s', q', d', hi⟩ := hI ((k : Int) + 1) h hlow
    have f1 : afld1 (.a (inoC (kd ((k : Int) + 1)) l' s' q' d')) 0 = some (.c (.i .i64 (kd ((k : Int) + 1)))) := rfl
    have ek : (k : Int) + 1 = ((k + 1 : Nat) : Int) := by omega
    rw [view_View_Inodes_l0_eq, inosF]
    by_cases c : kd ((k : Int) + 1) = 0
    · obtain ⟨v', h', g1, g2⟩ := inodes_loop (q := q) h1 hI e (k + 1) M id h l (by omega) (by omega) (by omega) hlow hid hr
      rw [if_pos c]
      rw [← ek] at g1
      refine ⟨v', h', ?_, g2⟩
      generalize vwC b n m f = V at *
      simp only [esc, c0, hV, w1, hi, f1, c, eq_self, view_View_Inodes_j0_eq]
      exact g1
    · have ef : afill [Cell.i .i64 0] [(0, 1, .c (.i .i64 ((k : Int) + 1)))] = some (encI [(k : Int) + 1]) := rfl
      obtain ⟨h', a1, a2, a3, a4, a5⟩ := push (n := l.length) (sz := 1) (ys := encI [(k : Int) + 1]) hlow hr (by rw [encI_length, Nat.mul_one]) hid rfl (by omega) (by omega)
      rw [← encI_append] at a2
      obtain ⟨v', h'', g1, g2⟩ := inodes_loop (q := q) h1 hI e (k + 1) M (h.length + 1) h' (l ++ [(k : Int) + 1]) (by omega) (by omega) (by simp; omega) a3 a4 a2
      rw [List.append_assoc, List.singleton_append] at g2
      have el : (l ++ [(k : Int) + 1]).length = l.length + 1 := by simp
      rw [el, ← ek] at g1
      rw [if_neg c]
      refine ⟨v', h'', ?_, g2⟩
      generalize vwC b n m f = V at *
      simp only [esc, c0, hV, w1, hi, f1, c, eq_self, view_View_Inodes_j0_eq, ef, a1]
      exact g1

theorem view_Inodes_of {b n m : Int} {f : Cell} {kd : Int → Int} {h : Heap} (hI : ∀ (i : Int) (g : Heap), Low h.length (ro h) g → ∃ l s q d, S_view_View_Inode [.a (vwC b n m f), .c (.i .i64 i)] g = some (.a (inoC (kd i) l s q d), g)) :
    S_view_View_Inodes [.a (vwC b n m f)] h = some (.c (.sl h.length 0 (inosF kd 128 0).length 1), h ++ [some ⟨encI (inosF kd 128 0), true⟩]) := by
  have key : ∃ v g', R_view_View_Inodes 129 [.a (vwC b n m f)] (ro h) = some (v, g') ∧ Out (ro h).length g' v 1 (inosF kd 128 0).length (encI (inosF kd 128 0)) := by
    have hl := ro_length (h := h)
    generalize hg : ro h = g at *
    obtain ⟨v', h', g1, g2⟩ := inodes_loop (p := g.length) (q := 129) (g := g ++ [some (Row.mk (vwC b n m f) true)]) (by simp) (fun i k hk => hI i k ⟨by omega, by have := hk.2.1; simp at this; omega, fun id hid => by rw [hk.2.2 id (by simp; omega)]; exact rd_append_left (by omega)⟩)
      128 0 129 (g.length + 2) (g ++ [some (Row.mk (vwC b n m f) true), some (Row.mk [] true), some (Row.mk [] true)]) [] (by omega) (by omega) (by simp)
      (by
        have := (Low.refl (h := g ++ [some (Row.mk (vwC b n m f) true)]) (Nat.le_refl _)).new [some (Row.mk [] true), some (Row.mk [] true)]
        simpa using this) (by simp) (by simp [encI])
    rw [List.nil_append] at g2
    rw [List.length_nil] at g1
    rw [R_view_View_Inodes_eq]
    refine ⟨v', h', ?_, g2.1, ?_⟩
    · generalize vwC b n m f = V at *
      simp only [esc]
      exact g1
    · obtain ⟨id, e, hb, hr⟩ := g2.2
      exact ⟨id, e, by simp at hb; omega, hr⟩
  obtain ⟨v, g', e, ho⟩ := key
  exact S_view_View_Inodes_out e (by simpa [ro_length] using ho) (by simp)

theorem view_Inodes_eq {n m : Int} {f : Cell} {D : Dev} {h : Heap} (hD : okD D) (hv : IsView h f D) : S_view_View_Inodes [.a (vwC D.length n m f)] h = some (.c (.sl h.length 0 (inosF (kdV D n) 128 0).length 1), h ++ [some ⟨encI (inosF (kdV D n) 128 0), true⟩]) :=
  view_Inodes_of fun i g hg => by
    obtain ⟨l, s, p, d, e, hd⟩ := inoV_form D n i
    have h2 : Low (ro h).length (ro h) g := by rw [ro_length]; exact hg
    exact ⟨l, s, p, d, by rw [view_Inode_eq hD (hv.ro.since h2), e]⟩

theorem view_Inodes_zero {f : Cell} {h : Heap} : S_view_View_Inodes [.a (vwC 0 0 0 f)] h = some (.c (.sl h.length 0 0 1), h ++ [some ⟨[], true⟩]) := by
  have e : ∀ e k, inosF (fun _ => 0) e k = [] := by
    intro e
    induction e with
    | zero => intro k; rfl
    | succ e ih => intro k; rw [inosF, if_pos rfl, ih]
  have h1 := view_Inodes_of (b := 0) (n := 0) (m := 0) (f := f) (kd := fun _ => 0) (h := h) fun i g hg => ⟨0, 0, 0, zI 7, view_Inode_no (by
    have : mayL 0 0 = false := by decide
    unfold isInoL
    rw [this]; rfl)⟩
  rw [e] at h1
  exact h1

def usedV (D : Dev) (n i : Int) : Bool := mayL D.length n && decide (0 ≤ i) && decide (i < D.length) && hasC (blk D 1) i

theorem view_Used_eq {n m i : Int} {f : Cell} {D : Dev} {h : Heap} (hD : okD D) (hv : IsView h f D) : S_view_View_Used [.a (vwC D.length n m f), .c (.i .i64 i)] h = some (.c (.b (usedV D n i)), h) := by
  have key : ∀ g, IsView g f D → ∃ g', R_view_View_Used 0 [.a (vwC D.length n m f), .c (.i .i64 i)] g = some (.c (.b (usedV D n i)), g') := by
    intro g hv
    have l3 := vw_l3 (b := D.length) (n := n) (m := m) (f := f)
    have l4 := vw_l4 (b := D.length) (n := n) (m := m) (f := f)
    have l0 : (vwC D.length n m f)[0]? = some (.i .i64 (D.length : Int)) := rfl
    have hC := fun h => super_Check_eq (b := D.length) (n := n) (m := m) (h := h)
    have n10 : ¬ (1 : Int) = 0 := by decide
    rw [R_view_View_Used_eq]
    unfold usedV
    cases c1 : mayL D.length n with
    | false =>
      simp only [c1] at hC
      generalize vwC D.length n m f = V at *
      exact ⟨_, by simp only [esc, esh, Nat.reduceAdd, Nat.reduceMul, Nat.reduceLT, l3, hC, n10, eq_self, Bool.false_and] <;> rfl⟩
    | true =>
      simp only [c1] at hC
      by_cases c2 : 0 ≤ i
      · by_cases c3 : i < D.length
        · have hB := view_Block_eq (n := n) (m := m) (no := 1) (h := g ++ [some (Row.mk (vwC D.length n m f) true)]) hD (hv.more _)
          have hH := fun h => chart_Has_eq (i := i) (h := h) (blk_length hD (i := 1))
          generalize vwC D.length n m f = V at *
          exact ⟨_, by simp only [esc, esh, Nat.reduceAdd, Nat.reduceMul, Nat.reduceLT, l3, l4, l0, hC, n10, eq_self, c2, c3, geom_Map_eq, hB, hH, Bool.true_and] <;> rfl⟩
        · generalize vwC D.length n m f = V at *
          exact ⟨_, by simp only [esc, esh, Nat.reduceAdd, Nat.reduceMul, Nat.reduceLT, l3, l4, l0, hC, n10, eq_self, c2, c3, Bool.true_and, Bool.false_and] <;> rfl⟩
      · generalize vwC D.length n m f = V at *
        exact ⟨_, by simp only [esc, esh, Nat.reduceAdd, Nat.reduceMul, Nat.reduceLT, l3, l4, l0, hC, n10, eq_self, c2, Bool.true_and, Bool.false_and] <;> rfl⟩
  obtain ⟨g', e⟩ := key (ro h) hv.ro
  exact S_view_View_Used_flat e rfl

theorem view_Used_zero {i : Int} {f : Cell} {h : Heap} : S_view_View_Used [.a (vwC 0 0 0 f), .c (.i .i64 i)] h = some (.c (.b false), h) := by
  have key : ∀ g, ∃ g', R_view_View_Used 0 [.a (vwC 0 0 0 f), .c (.i .i64 i)] g = some (.c (.b false), g') := by
    intro g
    have l3 := vw_l3 (b := 0) (n := 0) (m := 0) (f := f)
    have hC := fun h => super_Check_eq (b := 0) (n := 0) (m := 0) (h := h)
    have n10 : ¬ (1 : Int) = 0 := by decide
    have c1 : mayL 0 0 = false := by decide
    simp only [c1] at hC
    rw [R_view_View_Used_eq]
    generalize vwC 0 0 0 f = V at *
    exact ⟨_, by simp only [esc, esh, Nat.reduceAdd, Nat.reduceMul, Nat.reduceLT, l3, hC, n10, eq_self] <;> rfl⟩
  obtain ⟨g', e⟩ := key (ro h)
  exact S_view_View_Used_flat e rfl

theorem amkn_n {N : Nat} (hN : N ≤ 1073741823) : amkn (.c (.i .i64 (N : Int))) (.c (.i .i64 (N : Int))) = some N := by
  have : nat? (.c (.i .i64 (N : Int))) = some N := by simp only [nat?]; rw [if_pos (by omega)]; simp
  simp [amkn, this]

theorem set_step {D : Dev} {i : Nat} {z : List UInt8} (hi : i < D.length) : (D.take i ++ List.replicate (D.length - i) z).set i D[i] = D.take (i + 1) ++ List.replicate (D.length - (i + 1)) z := by
  have hl : (D.take i).length = i := by rw [List.length_take]; omega
  rw [List.set_append_right _ _ (by omega), hl, Nat.sub_self, show D.length - i = D.length - (i + 1) + 1 by omega, List.replicate_succ, List.set_cons_zero, List.take_succ_eq_append_getElem hi, List.append_assoc]
  rfl
theorem okD_step {D : Dev} (hD : okD D) (i : Nat) : okD (D.take i ++ List.replicate (D.length - i) (zeros 256)) := fun b hb => by
  rcases List.mem_append.1 hb with hb | hb
  · exact hD.take i b hb
  · exact okD_zeros _ b hb

theorem image_loop {n m : Int} {f : Cell} {D : Dev} {g : Heap} {p q id : Nat} (hD : okD D) (h60 : D.length ≤ 1073741823) (h1 : rd g p = some ⟨vwC D.length n m f, true⟩) (hv : IsView g f D) (hid : g.length ≤ id) : ∀ (e i M : Nat) (h : Heap), i + e = D.length → e < M → Low g.length g h →
    rd h id = some ⟨cellsD (D.take i ++ List.replicate (D.length - i) (zeros 256)), true⟩ →
    ∃ h', view_View_Image_l0 q M (.c (.p p 0)) (.c (.sl id 0 D.length 256)) (.c (.i .i64 (D.length : Int))) (.c (.i .i64 (i : Int))) h = some (.c (.sl id 0 D.length 256), h') ∧ rd h' id = some ⟨cellsD D, true⟩
  | e, i, 0, h, _, hm, _, _ => by omega
  | 0, i, M + 1, h, hi, hm, hlow, hr => by
    have e0 : i = D.length := by omega
    have c0 : ¬ (i : Int) < (D.length : Nat) := by omega
    rw [e0, List.take_length, Nat.sub_self, List.replicate_zero, List.append_nil] at hr
    rw [view_View_Image_l0_eq]
    exact ⟨h, by simp only [esc, c0], hr⟩
  | e + 1, i, M + 1, h, hi, hm, hlow, hr => by
    have hil : i < D.length := by omega
    have c0 : (i : Int) < (D.length : Nat) := by omega
    have hV := loadAll (h := h) (id := p) (hlow.rd h1) (n := 4) rfl
    have hB := view_Block_eq (n := n) (m := m) (no := (i : Int)) hD (hv.since hlow)
    rw [blk_at hil] at hB
    have ad : aiAddrL 256 (.c (.sl id 0 D.length 256)) (.c (.i .i64 (i : Int))) = some (.c (.p id (i * 256))) := by rw [iAddrL_of hil, Nat.zero_add]
    have hl : (D.take i).length = i := by rw [List.length_take]; omega
    have hs := store_dev (i := i) (b := D[i]) hr (okD_step hD i) (hD.at hil) (by rw [List.length_append, hl, List.length_replicate]; omega)
    rw [set_step hil] at hs
    have hlt := rd_lt hr
    obtain ⟨h', g1, g2⟩ := image_loop (q := q) hD h60 h1 hv hid e (i + 1) M (h.set id (some ⟨cellsD (D.take (i + 1) ++ List.replicate (D.length - (i + 1)) (zeros 256)), true⟩)) (by omega) (by omega) (hlow.set hid _) (rd_set_same hlt)
    refine ⟨h', ?_, g2⟩
    rw [view_View_Image_l0_eq]
    generalize vwC D.length n m f = V at *
    generalize encB D[i] = y at *
    simp only [bnd_some, abin_lss, c0, decide_true, cnd_t, hV, hB, ad, hs, abin_add, wi_succ (show i + 1 < 9223372036854775808 by omega)]
    exact g1

theorem view_Image_eq {n m : Int} {f : Cell} {D : Dev} {h : Heap} (hD : okD D) (hv : IsView h f D) (hm : mayL D.length n = true) : S_view_View_Image [.a (vwC D.length n m f)] h = some (.c (.sl h.length 0 D.length 256), h ++ [some ⟨cellsD D, true⟩]) := by
  have key : ∀ g, IsView g f D → ∃ v g', R_view_View_Image (D.length + 1) [.a (vwC D.length n m f)] g = some (v, g') ∧ Out g.length g' v 256 D.length (cellsD D) := by
    intro g hv
    have h60 : D.length ≤ 512 := by
      unfold mayL at hm
      simp only [Bool.and_eq_true, decide_eq_true_eq] at hm
      omega
    have l3 := vw_l3 (b := D.length) (n := n) (m := m) (f := f)
    have l0 : (vwC D.length n m f)[0]? = some (.i .i64 (D.length : Int)) := rfl
    have hC := fun h => super_Check_eq (b := D.length) (n := n) (m := m) (h := h)
    simp only [hm] at hC
    have mk := amkn_n (N := D.length) (by omega)
    obtain ⟨h', g1, g2⟩ := image_loop (n := n) (m := m) (p := g.length) (q := D.length + 1) (id := g.length + 2) (g := g ++ [some (Row.mk (vwC D.length n m f) true), some (Row.mk [] true)]) hD (by omega) (by simp) (hv.more _) (by simp) D.length 0 (D.length + 1) (g ++ [some (Row.mk (vwC D.length n m f) true), some (Row.mk [] true), some (Row.mk (cellsD (List.replicate D.length (zeros 256))) true)]) (by omega) (by omega)
      (by
        have := (Low.refl (h := g ++ [some (Row.mk (vwC D.length n m f) true), some (Row.mk [] true)]) (Nat.le_refl _)).new [some (Row.mk (cellsD (List.replicate D.length (zeros 256))) true)]
        simpa using this) (by simp)
    rw [R_view_View_Image_eq]
    simp only [rows_dev]
    refine ⟨_, h', ?_, cellsD_length hD, g.length + 2, rfl, by omega, g2⟩
    generalize vwC D.length n m f = V at *
    simp only [esc, esh, Nat.reduceAdd, Nat.reduceMul, Nat.reduceLT, l3, hC, eq_self, l0, mk]
    exact g1
  obtain ⟨v, g', e, ho⟩ := key (ro h) hv.ro
  exact S_view_View_Image_out e (by simpa [ro_length] using ho) flats_cellsD

theorem view_Image_zero {f : Cell} {h : Heap} : S_view_View_Image [.a (vwC 0 0 0 f)] h = some (.c (.sl h.length 0 0 256), h ++ [some ⟨[], true⟩]) := by
  have key : ∀ g, ∃ v g', R_view_View_Image 0 [.a (vwC 0 0 0 f)] g = some (v, g') ∧ Out g.length g' v 256 0 [] := by
    intro g
    have l3 := vw_l3 (b := 0) (n := 0) (m := 0) (f := f)
    have hC := fun h => super_Check_eq (b := 0) (n := 0) (m := 0) (h := h)
    have n10 : ¬ (1 : Int) = 0 := by decide
    have c1 : mayL 0 0 = false := by decide
    simp only [c1] at hC
    rw [R_view_View_Image_eq]
    generalize vwC 0 0 0 f = V at *
    exact ⟨.c (.sl (g.length + 2) 0 0 256), _, by simp only [esc, esh, Nat.reduceAdd, Nat.reduceMul, Nat.reduceLT, l3, hC, n10, eq_self] <;> rfl, rfl, g.length + 2, rfl, by omega, by simp⟩
  obtain ⟨v, g', e, ho⟩ := key (ro h)
  exact S_view_View_Image_out e (by simpa [ro_length] using ho) rfl

end Go.Proofs.Ytdgggnlbdoiloaa
end
section
namespace Go.Proofs.Ytdgggnlbdoiloaa
open Go Go.Esc
set_option maxRecDepth 100000
def escheatref04_Ints_o0 : List AOper := [{ dst := some 4, op := .mv (.v (.c (.b false))) }]
def escheatref04_Ints_c0 : ACode := .ops escheatref04_Ints_o0
def escheatref04_Ints_o1 : List AOper := [{ dst := some 6, op := .mv (.t 0) }, { dst := some 7, op := .len (.t 6) }, { dst := some 8, op := .mv (.t 1) }, { dst := some 9, op := .len (.t 8) }, { dst := some 10, op := .bin .neq (.t 7) (.t 9) }]
def escheatref04_Ints_c1 : ACode := .ops escheatref04_Ints_o1
def escheatref04_Ints_o2 : List AOper := [{ dst := some 4, op := .mv (.v (.c (.b false))) }]
def escheatref04_Ints_c2 : ACode := .ops escheatref04_Ints_o2
def escheatref04_Ints_c3 : ACode := .seq [4] escheatref04_Ints_c2 .ret
def escheatref04_Ints_c4 : ACode := .cond (.t 10) escheatref04_Ints_c3 .skip
def escheatref04_Ints_c5 : ACode := .seq [0, 1, 10] escheatref04_Ints_c1 escheatref04_Ints_c4
def escheatref04_Ints_o3 : List AOper := [{ dst := some 5, op := .mv (.v (.c (.i .i64 0))) }]
def escheatref04_Ints_c6 : ACode := .ops escheatref04_Ints_o3
def escheatref04_Ints_o4 : List AOper := [{ dst := some 11, op := .mv (.t 5) }, { dst := some 12, op := .mv (.t 0) }, { dst := some 13, op := .len (.t 12) }, { dst := some 14, op := .bin .lss (.t 11) (.t 13) }]
def escheatref04_Ints_c7 : ACode := .ops escheatref04_Ints_o4
def escheatref04_Ints_c8 : ACode := .cond (.t 14) .skip (.exit 0)
def escheatref04_Ints_c9 : ACode := .seq [0, 1, 5, 14] escheatref04_Ints_c7 escheatref04_Ints_c8
def escheatref04_Ints_o5 : List AOper := [{ dst := some 17, op := .mv (.t 0) }, { dst := some 18, op := .mv (.t 5) }, { dst := some 19, op := .iAddrL 1 (.t 17) (.t 18) }, { dst := some 20, op := .load1 (.t 19) }, { dst := some 21, op := .mv (.t 1) }, { dst := some 22, op := .mv (.t 5) }, { dst := some 23, op := .iAddrL 1 (.t 21) (.t 22) }, { dst := some 24, op := .load1 (.t 23) }]
def escheatref04_Ints_o6 : List AOper := [{ dst := some 25, op := .bin .neq (.t 20) (.t 24) }]
def escheatref04_Ints_c10 : ACode := .draw 0 escheatref04_Ints_o5 escheatref04_Ints_o6
def escheatref04_Ints_o7 : List AOper := [{ dst := some 4, op := .mv (.v (.c (.b false))) }]
def escheatref04_Ints_c11 : ACode := .ops escheatref04_Ints_o7
def escheatref04_Ints_c12 : ACode := .seq [4] escheatref04_Ints_c11 .ret
def escheatref04_Ints_c13 : ACode := .cond (.t 25) escheatref04_Ints_c12 .skip
def escheatref04_Ints_c14 : ACode := .seq [0, 1, 5, 25] escheatref04_Ints_c10 escheatref04_Ints_c13
def escheatref04_Ints_c15 : ACode := .block 1 escheatref04_Ints_c14
def escheatref04_Ints_o8 : List AOper := [{ dst := some 15, op := .mv (.t 5) }, { dst := some 16, op := .bin .add (.t 15) (.v (.c (.i .i64 1))) }, { dst := some 5, op := .mv (.t 16) }]
def escheatref04_Ints_c16 : ACode := .ops escheatref04_Ints_o8
def escheatref04_Ints_c17 : ACode := .seq [0, 1, 5] escheatref04_Ints_c15 escheatref04_Ints_c16
def escheatref04_Ints_c18 : ACode := .seq [0, 1, 5] escheatref04_Ints_c9 escheatref04_Ints_c17
def escheatref04_Ints_c19 : ACode := .loop [0, 1, 5] escheatref04_Ints_c18
def escheatref04_Ints_c20 : ACode := .block 0 escheatref04_Ints_c19
def escheatref04_Ints_c21 : ACode := .seq [0, 1, 5] escheatref04_Ints_c6 escheatref04_Ints_c20
def escheatref04_Ints_o9 : List AOper := [{ dst := some 4, op := .mv (.v (.c (.b true))) }]
def escheatref04_Ints_c22 : ACode := .ops escheatref04_Ints_o9
def escheatref04_Ints_c23 : ACode := .seq [4] escheatref04_Ints_c22 .ret
def escheatref04_Ints_c24 : ACode := .seq [] escheatref04_Ints_c21 escheatref04_Ints_c23
def escheatref04_Ints_c25 : ACode := .seq [0, 1] escheatref04_Ints_c5 escheatref04_Ints_c24
def escheatref04_Ints_c26 : ACode := .seq [0, 1] escheatref04_Ints_c0 escheatref04_Ints_c25
def A_escheatref04_Ints : AFn := ⟨escheatref04_Ints_c26, [.tmp 4]⟩
noncomputable def E_escheatref04_Ints : Sums := disp0
noncomputable def escheatref04_Ints_c0_d (n : Nat) : SmV := smOps E_escheatref04_Ints escheatref04_Ints_o0
noncomputable def escheatref04_Ints_c1_d (n : Nat) : SmV := smOps E_escheatref04_Ints escheatref04_Ints_o1
noncomputable def escheatref04_Ints_c2_d (n : Nat) : SmV := smOps E_escheatref04_Ints escheatref04_Ints_o2
noncomputable def escheatref04_Ints_c3_d (n : Nat) : SmV := smSeq [4] (escheatref04_Ints_c2_d n) smRet
noncomputable def escheatref04_Ints_c4_d (n : Nat) : SmV := smCond (.t 10) (escheatref04_Ints_c3_d n) smSkip
noncomputable def escheatref04_Ints_c5_d (n : Nat) : SmV := smSeq [0, 1, 10] (escheatref04_Ints_c1_d n) (escheatref04_Ints_c4_d n)
noncomputable def escheatref04_Ints_c6_d (n : Nat) : SmV := smOps E_escheatref04_Ints escheatref04_Ints_o3
noncomputable def escheatref04_Ints_c7_d (n : Nat) : SmV := smOps E_escheatref04_Ints escheatref04_Ints_o4
noncomputable def escheatref04_Ints_c8_d (n : Nat) : SmV := smCond (.t 14) smSkip (smExit 0)
noncomputable def escheatref04_Ints_c9_d (n : Nat) : SmV := smSeq [0, 1, 5, 14] (escheatref04_Ints_c7_d n) (escheatref04_Ints_c8_d n)
noncomputable def escheatref04_Ints_c10_d (n : Nat) : SmV := smDraw E_escheatref04_Ints 0 escheatref04_Ints_o5 escheatref04_Ints_o6
noncomputable def escheatref04_Ints_c11_d (n : Nat) : SmV := smOps E_escheatref04_Ints escheatref04_Ints_o7
noncomputable def escheatref04_Ints_c12_d (n : Nat) : SmV := smSeq [4] (escheatref04_Ints_c11_d n) smRet
noncomputable def escheatref04_Ints_c13_d (n : Nat) : SmV := smCond (.t 25) (escheatref04_Ints_c12_d n) smSkip
noncomputable def escheatref04_Ints_c14_d (n : Nat) : SmV := smSeq [0, 1, 5, 25] (escheatref04_Ints_c10_d n) (escheatref04_Ints_c13_d n)
noncomputable def escheatref04_Ints_c15_d (n : Nat) : SmV := smBlock 1 (escheatref04_Ints_c14_d n)
noncomputable def escheatref04_Ints_c16_d (n : Nat) : SmV := smOps E_escheatref04_Ints escheatref04_Ints_o8
noncomputable def escheatref04_Ints_c17_d (n : Nat) : SmV := smSeq [0, 1, 5] (escheatref04_Ints_c15_d n) (escheatref04_Ints_c16_d n)
noncomputable def escheatref04_Ints_c18_d (n : Nat) : SmV := smSeq [0, 1, 5] (escheatref04_Ints_c9_d n) (escheatref04_Ints_c17_d n)
noncomputable def escheatref04_Ints_c19_d (n : Nat) : SmV := smLoop n [0, 1, 5] (escheatref04_Ints_c18_d n)
noncomputable def escheatref04_Ints_c20_d (n : Nat) : SmV := smBlock 0 (escheatref04_Ints_c19_d n)
noncomputable def escheatref04_Ints_c21_d (n : Nat) : SmV := smSeq [0, 1, 5] (escheatref04_Ints_c6_d n) (escheatref04_Ints_c20_d n)
noncomputable def escheatref04_Ints_c22_d (n : Nat) : SmV := smOps E_escheatref04_Ints escheatref04_Ints_o9
noncomputable def escheatref04_Ints_c23_d (n : Nat) : SmV := smSeq [4] (escheatref04_Ints_c22_d n) smRet
noncomputable def escheatref04_Ints_c24_d (n : Nat) : SmV := smSeq [] (escheatref04_Ints_c21_d n) (escheatref04_Ints_c23_d n)
noncomputable def escheatref04_Ints_c25_d (n : Nat) : SmV := smSeq [0, 1] (escheatref04_Ints_c5_d n) (escheatref04_Ints_c24_d n)
noncomputable def escheatref04_Ints_c26_d (n : Nat) : SmV := smSeq [0, 1] (escheatref04_Ints_c0_d n) (escheatref04_Ints_c25_d n)
noncomputable def escheatref04_Ints_k0 (n : Nat) : AExit → Env → Heap → OptV := fun x e h => match x with | .normal => hold ((escheatref04_Ints_c23_d n) A_escheatref04_Ints.fin (e.keep []) h) | .exit id => A_escheatref04_Ints.fin (.exit id) e h | .ret => A_escheatref04_Ints.fin .ret e h
noncomputable def escheatref04_Ints_k1 (n : Nat) : AExit → Env → Heap → OptV := fun x e h => match x with | .exit i => bif Nat.beq i 0 then (escheatref04_Ints_k0 n) .normal e h else (escheatref04_Ints_k0 n) (.exit i) e h | .normal => (escheatref04_Ints_k0 n) .normal e h | .ret => (escheatref04_Ints_k0 n) .ret e h
noncomputable def escheatref04_Ints_l0 (n m : Nat) (x0 x1 x5 : Val) (h : Heap) : OptV := around (escheatref04_Ints_c18_d n) [0, 1, 5] (escheatref04_Ints_k1 n) m [(0, x0), (1, x1), (5, x5)] h
noncomputable def R_escheatref04_Ints (n : Nat) (args : List Val) (h : Heap) : OptV := (escheatref04_Ints_c26_d n) A_escheatref04_Ints.fin (params 0 args) h
theorem R_escheatref04_Ints_eq (n : Nat) (a0 a1 : Val) (h : Heap) : R_escheatref04_Ints n [a0, a1] h = bnd (alen a0) fun v1 => bnd (alen a1) fun v2 => bnd (abin .neq v1 v2) fun v3 => cnd v3 (some ((.c (.b false)), h)) (escheatref04_Ints_l0 n n a0 a1 (.c (.i .i64 0)) h) := by kernel_rfl
theorem escheatref04_Ints_l0_eq (n m : Nat) (x0 x1 x5 : Val) (h : Heap) : escheatref04_Ints_l0 n (m + 1) x0 x1 x5 h = bnd (alen x0) fun v4 => bnd (abin .lss x5 v4) fun v5 => cnd v5 (bnd (aiAddrL 1 x0 x5) fun v6 => bnd (aload1 h v6) fun v7 => bnd (aiAddrL 1 x1 x5) fun v8 => bnd (aload1 h v8) fun v9 => bnd (abin .neq v7 v9) fun v10 => cnd v10 (some ((.c (.b false)), (h ++ []))) (bnd (abin .add x5 (.c (.i .i64 1))) fun v11 => escheatref04_Ints_l0 n m x0 x1 v11 ((h ++ [])))) (some ((.c (.b true)), h)) := by kernel_rfl
theorem K_escheatref04_Ints : FnK Try.prog 37 A_escheatref04_Ints E_escheatref04_Ints R_escheatref04_Ints := .mk' (sound0) Try.func37 (by kernel_rfl) (by intro n args h; kernel_rfl)
noncomputable def S_escheatref04_Ints : Fun := tidy (Lim A_escheatref04_Ints E_escheatref04_Ints)
theorem S_escheatref04_Ints_ok : SOk Try.prog 37 S_escheatref04_Ints := K_escheatref04_Ints.sok
theorem S_escheatref04_Ints_flat {n : Nat} {args : List Val} {h h2 : Heap} {v : Val} (he : R_escheatref04_Ints n args (ro h) = some (v, h2)) (hf : v.flat = true) : S_escheatref04_Ints args h = some (v, h) := K_escheatref04_Ints.flat he hf
def escheatref04_Has_o0 : List AOper := [{ dst := some 4, op := .mv (.v (.c (.b false))) }]
def escheatref04_Has_c0 : ACode := .ops escheatref04_Has_o0
def escheatref04_Has_o1 : List AOper := [{ dst := some 7, op := .mv (.t 1) }, { dst := some 8, op := .bin .lss (.t 7) (.v (.c (.i .i64 0))) }, { dst := some 9, op := .mv (.t 8) }, { dst := some 10, op := .mv (.t 1), guard := some (9, false) }, { dst := some 11, op := .mv (.t 0), guard := some (9, false) }, { dst := some 12, op := .len (.t 11), guard := some (9, false) }, { dst := some 13, op := .bin .mul (.v (.c (.i .i64 8))) (.t 12), guard := some (9, false) }, { dst := some 14, op := .bin .geq (.t 10) (.t 13), guard := some (9, false) }, { dst := some 15, op := .pick (.t 9) (.v (.c (.b true))) (.t 14) }]
def escheatref04_Has_c1 : ACode := .ops escheatref04_Has_o1
def escheatref04_Has_o2 : List AOper := [{ dst := some 4, op := .mv (.v (.c (.b false))) }]
def escheatref04_Has_c2 : ACode := .ops escheatref04_Has_o2
def escheatref04_Has_c3 : ACode := .seq [4] escheatref04_Has_c2 .ret
def escheatref04_Has_c4 : ACode := .cond (.t 15) escheatref04_Has_c3 .skip
def escheatref04_Has_c5 : ACode := .seq [0, 1, 15] escheatref04_Has_c1 escheatref04_Has_c4
def escheatref04_Has_o3 : List AOper := [{ dst := some 16, op := .mv (.t 0) }, { dst := some 17, op := .mv (.t 1) }, { dst := some 18, op := .bin .quo (.t 17) (.v (.c (.i .i64 8))) }, { dst := some 19, op := .iAddrL 1 (.t 16) (.t 18) }, { dst := some 20, op := .load1 (.t 19) }, { dst := some 21, op := .conv .i64 (.t 20) }, { dst := some 5, op := .mv (.t 21) }]
def escheatref04_Has_c6 : ACode := .ops escheatref04_Has_o3
def escheatref04_Has_o4 : List AOper := [{ dst := some 6, op := .mv (.v (.c (.i .i64 0))) }]
def escheatref04_Has_c7 : ACode := .ops escheatref04_Has_o4
def escheatref04_Has_o5 : List AOper := [{ dst := some 22, op := .mv (.t 6) }, { dst := some 23, op := .mv (.t 1) }, { dst := some 24, op := .bin .rem (.t 23) (.v (.c (.i .i64 8))) }, { dst := some 25, op := .bin .lss (.t 22) (.t 24) }]
def escheatref04_Has_c8 : ACode := .ops escheatref04_Has_o5
def escheatref04_Has_c9 : ACode := .cond (.t 25) .skip (.exit 0)
def escheatref04_Has_c10 : ACode := .seq [1, 5, 6, 25] escheatref04_Has_c8 escheatref04_Has_c9
def escheatref04_Has_o6 : List AOper := [{ dst := some 28, op := .mv (.t 5) }, { dst := some 29, op := .bin .quo (.t 28) (.v (.c (.i .i64 2))) }, { dst := some 5, op := .mv (.t 29) }]
def escheatref04_Has_c11 : ACode := .ops escheatref04_Has_o6
def escheatref04_Has_c12 : ACode := .block 1 escheatref04_Has_c11
def escheatref04_Has_o7 : List AOper := [{ dst := some 26, op := .mv (.t 6) }, { dst := some 27, op := .bin .add (.t 26) (.v (.c (.i .i64 1))) }, { dst := some 6, op := .mv (.t 27) }]
def escheatref04_Has_c13 : ACode := .ops escheatref04_Has_o7
def escheatref04_Has_c14 : ACode := .seq [1, 5, 6] escheatref04_Has_c12 escheatref04_Has_c13
def escheatref04_Has_c15 : ACode := .seq [1, 5, 6] escheatref04_Has_c10 escheatref04_Has_c14
def escheatref04_Has_c16 : ACode := .loop [1, 5, 6] escheatref04_Has_c15
def escheatref04_Has_c17 : ACode := .block 0 escheatref04_Has_c16
def escheatref04_Has_c18 : ACode := .seq [1, 5, 6] escheatref04_Has_c7 escheatref04_Has_c17
def escheatref04_Has_o8 : List AOper := [{ dst := some 30, op := .mv (.t 5) }, { dst := some 31, op := .bin .rem (.t 30) (.v (.c (.i .i64 2))) }, { dst := some 32, op := .bin .eql (.t 31) (.v (.c (.i .i64 1))) }, { dst := some 4, op := .mv (.t 32) }]
def escheatref04_Has_c19 : ACode := .ops escheatref04_Has_o8
def escheatref04_Has_c20 : ACode := .seq [4] escheatref04_Has_c19 .ret
def escheatref04_Has_c21 : ACode := .seq [5] escheatref04_Has_c18 escheatref04_Has_c20
def escheatref04_Has_c22 : ACode := .seq [1, 5] escheatref04_Has_c6 escheatref04_Has_c21
def escheatref04_Has_c23 : ACode := .seq [0, 1] escheatref04_Has_c5 escheatref04_Has_c22
def escheatref04_Has_c24 : ACode := .seq [0, 1] escheatref04_Has_c0 escheatref04_Has_c23
def A_escheatref04_Has : AFn := ⟨escheatref04_Has_c24, [.tmp 4]⟩
noncomputable def E_escheatref04_Has : Sums := disp0
noncomputable def escheatref04_Has_c0_d (n : Nat) : SmV := smOps E_escheatref04_Has escheatref04_Has_o0
noncomputable def escheatref04_Has_c1_d (n : Nat) : SmV := smOps E_escheatref04_Has escheatref04_Has_o1
noncomputable def escheatref04_Has_c2_d (n : Nat) : SmV := smOps E_escheatref04_Has escheatref04_Has_o2
noncomputable def escheatref04_Has_c3_d (n : Nat) : SmV := smSeq [4] (escheatref04_Has_c2_d n) smRet
noncomputable def escheatref04_Has_c4_d (n : Nat) : SmV := smCond (.t 15) (escheatref04_Has_c3_d n) smSkip
noncomputable def escheatref04_Has_c5_d (n : Nat) : SmV := smSeq [0, 1, 15] (escheatref04_Has_c1_d n) (escheatref04_Has_c4_d n)
noncomputable def escheatref04_Has_c6_d (n : Nat) : SmV := smOps E_escheatref04_Has escheatref04_Has_o3
noncomputable def escheatref04_Has_c7_d (n : Nat) : SmV := smOps E_escheatref04_Has escheatref04_Has_o4
noncomputable def escheatref04_Has_c8_d (n : Nat) : SmV := smOps E_escheatref04_Has escheatref04_Has_o5
noncomputable def escheatref04_Has_c9_d (n : Nat) : SmV := smCond (.t 25) smSkip (smExit 0)
noncomputable def escheatref04_Has_c10_d (n : Nat) : SmV := smSeq [1, 5, 6, 25] (escheatref04_Has_c8_d n) (escheatref04_Has_c9_d n)
noncomputable def escheatref04_Has_c11_d (n : Nat) : SmV := smOps E_escheatref04_Has escheatref04_Has_o6
noncomputable def escheatref04_Has_c12_d (n : Nat) : SmV := smBlock 1 (escheatref04_Has_c11_d n)
noncomputable def escheatref04_Has_c13_d (n : Nat) : SmV := smOps E_escheatref04_Has escheatref04_Has_o7
noncomputable def escheatref04_Has_c14_d (n : Nat) : SmV := smSeq [1, 5, 6] (escheatref04_Has_c12_d n) (escheatref04_Has_c13_d n)
noncomputable def escheatref04_Has_c15_d (n : Nat) : SmV := smSeq [1, 5, 6] (escheatref04_Has_c10_d n) (escheatref04_Has_c14_d n)
noncomputable def escheatref04_Has_c16_d (n : Nat) : SmV := smLoop n [1, 5, 6] (escheatref04_Has_c15_d n)
noncomputable def escheatref04_Has_c17_d (n : Nat) : SmV := smBlock 0 (escheatref04_Has_c16_d n)
noncomputable def escheatref04_Has_c18_d (n : Nat) : SmV := smSeq [1, 5, 6] (escheatref04_Has_c7_d n) (escheatref04_Has_c17_d n)
noncomputable def escheatref04_Has_c19_d (n : Nat) : SmV := smOps E_escheatref04_Has escheatref04_Has_o8
noncomputable def escheatref04_Has_c20_d (n : Nat) : SmV := smSeq [4] (escheatref04_Has_c19_d n) smRet
noncomputable def escheatref04_Has_c21_d (n : Nat) : SmV := smSeq [5] (escheatref04_Has_c18_d n) (escheatref04_Has_c20_d n)
noncomputable def escheatref04_Has_c22_d (n : Nat) : SmV := smSeq [1, 5] (escheatref04_Has_c6_d n) (escheatref04_Has_c21_d n)
noncomputable def escheatref04_Has_c23_d (n : Nat) : SmV := smSeq [0, 1] (escheatref04_Has_c5_d n) (escheatref04_Has_c22_d n)
noncomputable def escheatref04_Has_c24_d (n : Nat) : SmV := smSeq [0, 1] (escheatref04_Has_c0_d n) (escheatref04_Has_c23_d n)
noncomputable def escheatref04_Has_k0 (n : Nat) : AExit → Env → Heap → OptV := fun x e h => match x with | .normal => hold ((escheatref04_Has_c20_d n) A_escheatref04_Has.fin (e.keep [5]) h) | .exit id => A_escheatref04_Has.fin (.exit id) e h | .ret => A_escheatref04_Has.fin .ret e h
noncomputable def escheatref04_Has_k1 (n : Nat) : AExit → Env → Heap → OptV := fun x e h => match x with | .exit i => bif Nat.beq i 0 then (escheatref04_Has_k0 n) .normal e h else (escheatref04_Has_k0 n) (.exit i) e h | .normal => (escheatref04_Has_k0 n) .normal e h | .ret => (escheatref04_Has_k0 n) .ret e h
noncomputable def escheatref04_Has_l0 (n m : Nat) (x1 x5 x6 : Val) (h : Heap) : OptV := around (escheatref04_Has_c15_d n) [1, 5, 6] (escheatref04_Has_k1 n) m [(1, x1), (5, x5), (6, x6)] h
noncomputable def R_escheatref04_Has (n : Nat) (args : List Val) (h : Heap) : OptV := (escheatref04_Has_c24_d n) A_escheatref04_Has.fin (params 0 args) h
theorem R_escheatref04_Has_eq (n : Nat) (a0 a1 : Val) (h : Heap) : R_escheatref04_Has n [a0, a1] h = bnd (abin .lss a1 (.c (.i .i64 0))) fun v1 => bnd (gd v1 false (some (a1, h)) (some (.no, h))) fun p2 => bnd (gd v1 false (some (a0, p2.2)) (some (.no, p2.2))) fun p3 => bnd (gd v1 false (bnd (alen p3.1) fun v4 => some (v4, p3.2)) (some (.no, p3.2))) fun p5 => bnd (gd v1 false (bnd (abin .mul (.c (.i .i64 8)) p5.1) fun v6 => some (v6, p5.2)) (some (.no, p5.2))) fun p7 => bnd (gd v1 false (bnd (abin .geq p2.1 p7.1) fun v8 => some (v8, p7.2)) (some (.no, p7.2))) fun p9 => bnd (apick v1 (.c (.b true)) p9.1) fun v10 => cnd v10 (some ((.c (.b false)), p9.2)) (bnd (abin .quo a1 (.c (.i .i64 8))) fun v11 => bnd (aiAddrL 1 a0 v11) fun v12 => bnd (aload1 p9.2 v12) fun v13 => bnd (aconv .i64 v13) fun v14 => escheatref04_Has_l0 n n a1 v14 (.c (.i .i64 0)) p9.2) := by kernel_rfl
theorem escheatref04_Has_l0_eq (n m : Nat) (x1 x5 x6 : Val) (h : Heap) : escheatref04_Has_l0 n (m + 1) x1 x5 x6 h = bnd (abin .rem x1 (.c (.i .i64 8))) fun v15 => bnd (abin .lss x6 v15) fun v16 => cnd v16 (bnd (abin .quo x5 (.c (.i .i64 2))) fun v17 => bnd (abin .add x6 (.c (.i .i64 1))) fun v18 => escheatref04_Has_l0 n m x1 v17 v18 h) (bnd (abin .rem x5 (.c (.i .i64 2))) fun v19 => bnd (abin .eql v19 (.c (.i .i64 1))) fun v20 => some (v20, h)) := by kernel_rfl
theorem K_escheatref04_Has : FnK Try.prog 75 A_escheatref04_Has E_escheatref04_Has R_escheatref04_Has := .mk' (sound0) Try.func75 (by kernel_rfl) (by intro n args h; kernel_rfl)
noncomputable def S_escheatref04_Has : Fun := tidy (Lim A_escheatref04_Has E_escheatref04_Has)
theorem S_escheatref04_Has_ok : SOk Try.prog 75 S_escheatref04_Has := K_escheatref04_Has.sok
theorem S_escheatref04_Has_flat {n : Nat} {args : List Val} {h h2 : Heap} {v : Val} (he : R_escheatref04_Has n args (ro h) = some (v, h2)) (hf : v.flat = true) : S_escheatref04_Has args h = some (v, h) := K_escheatref04_Has.flat he hf
end Go.Proofs.Ytdgggnlbdoiloaa
end
section
namespace Go.Proofs.Ytdgggnlbdoiloaa
open Go Go.Esc

def setC (b : List UInt8) (i : Nat) : List UInt8 := b.set (i / 8) (UInt8.ofNat ((b.getD (i / 8) 0).toNat ||| maskC i))
theorem setC_length {b : List UInt8} {i : Nat} : (setC b i).length = b.length := by simp [setC]

theorem chart_With_in {b : List UInt8} {i : Nat} {h : Heap} (hb : b.length = 256) (hi : i < 2048) : S_chart_With [.a (encB b), .c (.i .i64 (i : Int)), .c (.b true)] h = some (.a (encB (setC b i)), h) := by
  have key : ∀ g, ∃ g', R_chart_With 0 [.a (encB b), .c (.i .i64 (i : Int)), .c (.b true)] g = some (.a (encB (setC b i)), g') := by
    intro g
    have hW := fun h => chart_where_in (h := h) hi
    have hlt : i / 8 < b.length := by omega
    have ad := iAddrA_of (k := .i64) (id := g.length) (off := 0) (sz := 1) (j := i / 8) (n := 256) (by omega)
    rw [Nat.mul_one, Nat.zero_add] at ad
    have l1 : (encB b)[i / 8]? = some (.i .u8 b[i / 8].toNat) := by rw [encB_get, List.getElem?_eq_getElem hlt]; rfl
    have a1 := or_u8 (a := b[i / 8].toNat) (b := maskC i) b[i / 8].toNat_lt (maskC_lt i)
    have hor : b[i / 8].toNat ||| maskC i < 2 ^ 8 := Nat.or_lt_two_pow b[i / 8].toNat_lt (maskC_lt i)
    have es : (encB b).set (i / 8) (.i .u8 ((b[i / 8].toNat ||| maskC i : Nat) : Int)) = encB (setC b i) := by
      have ew : (b[i / 8].toNat ||| maskC i) = (UInt8.ofNat (b[i / 8].toNat ||| maskC i)).toNat := by rw [UInt8.toNat_ofNat', Nat.mod_eq_of_lt hor]
      unfold setC
      rw [List.getD_eq_getElem?_getD, List.getElem?_eq_getElem hlt, Option.getD_some, ← encB_set, ← ew]
    have hB : (encB b).length = 256 := by rw [encB_length, hb]
    have hC : (encB (setC b i)).length = 256 := by rw [encB_length, setC_length, hb]
    have s1 := st1_row (cs := encB b) (off := i / 8) (x := .i .u8 ((b[i / 8].toNat ||| maskC i : Nat) : Int)) (by omega)
    rw [es] at s1
    have hz : (List.replicate 256 (Cell.i .u8 0)).length = 256 := List.length_replicate
    rw [R_chart_With_eq]
    generalize List.replicate 256 (Cell.i .u8 0) = z at *
    generalize encB b = y at *
    generalize encB (setC b i) = y2 at *
    exact ⟨_, by simp only [esc, aloadN_at, aloadN_at0, aload1_at, aload1_at0, astoreN_at, astoreN_at0, astore1_at, astore1_at0, ldN_all, ld1_row, stN_all, hW, ad, l1, a1, s1, chart_With_j0_eq, hB, hC, hz] <;> rfl⟩
  obtain ⟨g', e⟩ := key (ro h)
  exact S_chart_With_flat e (by simp [Val.flat])

def makeC (l : List Nat) : List UInt8 := l.foldl setC (zeros 256)
theorem foldC_length {l : List Nat} : ∀ {b : List UInt8}, (l.foldl setC b).length = b.length := by
  induction l with
  | nil => intro b; rfl
  | cons x l ih => intro b; rw [List.foldl_cons, ih, setC_length]

theorem cmake_loop {g : Heap} {l : List Nat} {q p : Nat} {v : Val} {nv : Nat} (hl : ∀ x ∈ l, x < 2048) (h60 : l.length ≤ 2048) (hv : Has g v 1 nv (encI (l.map fun x : Nat => (x : Int)))) (hp : p = g.length) : ∀ (e i m : Nat), i + e = l.length → e < m →
    chart_Make_l0 q m (.c (.p p 0)) (.c (.p (p + 1) 0)) v (.c (.i .i64 (l.length : Int))) (.c (.i .i64 (i : Int))) (g ++ [some (Row.mk (encB (zeros 256)) true), some (Row.mk (encB ((l.take i).foldl setC (zeros 256))) true)]) =
      some (.a (encB (makeC l)), g ++ [some (Row.mk (encB (makeC l)) true), some (Row.mk (encB (makeC l)) true)])
  | e, i, 0, _, hm => by omega
  | 0, i, m + 1, hi, hm => by
    have e0 : i = l.length := by omega
    subst e0 hp
    have c0 : ¬ (l.length : Int) < (l.length : Nat) := by omega
    have hB : (encB (makeC l)).length = 256 := by rw [encB_length]; unfold makeC; rw [foldC_length]; exact zeros_length
    have hz : (encB (zeros 256)).length = 256 := by rw [encB_length]; exact zeros_length
    rw [chart_Make_l0_eq, List.take_length]
    have em : l.foldl setC (zeros 256) = makeC l := rfl
    rw [em]
    generalize encB (zeros 256) = z at *
    generalize encB (makeC l) = y at *
    simp only [esc, esh, Nat.reduceAdd, Nat.reduceMul, Nat.reduceLT, c0, hB, hz]
  | e + 1, i, m + 1, hi, hm => by
    have hil : i < l.length := by omega
    have ih := cmake_loop (q := q) hl h60 hv hp e (i + 1) m (by omega) (by omega)
    subst hp
    have c0 : (i : Int) < (l.length : Nat) := by omega
    have hnv : l.length = nv := by
      have := hv.length
      rw [encI_length, List.length_map] at this
      omega
    obtain ⟨id, off, rfl, hid, h1, _⟩ := (hv.more [some (Row.mk (encB (zeros 256)) true), some (Row.mk (encB ((l.take i).foldl setC (zeros 256))) true)]).sl (by omega)
    have hx := h1 i (.i .i64 (l[i] : Int)) (by rw [encI_get, List.getElem?_map, List.getElem?_eq_getElem hil]; rfl)
    have ea : aiAddrL 1 (.c (.sl id off nv 1)) (.c (.i .i64 (i : Int))) = some (.c (.p id (off + i))) := by rw [iAddrL_of (by omega)]; simp
    have hfl : ((l.take i).foldl setC (zeros 256)).length = 256 := by rw [foldC_length]; exact zeros_length
    have hW := fun h => chart_With_in (h := h) hfl (hl _ (List.getElem_mem hil))
    have et : setC ((l.take i).foldl setC (zeros 256)) l[i] = (l.take (i + 1)).foldl setC (zeros 256) := by
      rw [List.take_succ_eq_append_getElem hil, List.foldl_append]; rfl
    rw [et] at hW
    have hB : (encB ((l.take i).foldl setC (zeros 256))).length = 256 := by rw [encB_length, hfl]
    have hB2 : (encB ((l.take (i + 1)).foldl setC (zeros 256))).length = 256 := by rw [encB_length, foldC_length]; exact zeros_length
    rw [chart_Make_l0_eq]
    generalize encB (zeros 256) = z at *
    generalize encB ((l.take i).foldl setC (zeros 256)) = y at *
    generalize encB ((l.take (i + 1)).foldl setC (zeros 256)) = y2 at *
    simp only [esc, esh, Nat.reduceAdd, Nat.reduceMul, Nat.reduceLT, c0, ea, hx, hW, hB, hB2, wi_succ (show i + 1 < 9223372036854775808 by omega)]
    exact ih

theorem chart_Make_eq {v : Val} {nv : Nat} {l : List Nat} {h : Heap} (hl : ∀ x ∈ l, x < 2048) (h60 : l.length ≤ 2048) (hv : Has h v 1 nv (encI (l.map fun x : Nat => (x : Int)))) : S_chart_Make [v] h = some (.a (encB (makeC l)), h) := by
  have key : ∀ g, Has g v 1 nv (encI (l.map fun x : Nat => (x : Int))) → ∃ g', R_chart_Make (l.length + 1) [v] g = some (.a (encB (makeC l)), g') := by
    intro g hv
    have hnv : l.length = nv := by
      have := hv.length
      rw [encI_length, List.length_map] at this
      omega
    have hL := cmake_loop (q := l.length + 1) hl h60 hv rfl l.length 0 (l.length + 1) (by omega) (by omega)
    have hlen := hv.len
    rw [← hnv] at hlen
    rw [R_chart_Make_eq, zeros_enc]
    rw [List.take_zero, List.foldl_nil] at hL
    generalize encB (zeros 256) = z at *
    exact ⟨_, by simp only [esc, hlen]; exact hL⟩
  obtain ⟨g', e⟩ := key (ro h) hv.ro
  exact S_chart_Make_flat e (by simp [Val.flat])

theorem rhas_loop {i : Nat} {x : Nat} {q : Nat} {h : Heap} (hx : x < 256) (hi : i < 2048) : ∀ (e k m : Nat), k + e = i % 8 → e < m →
    escheatref04_Has_l0 q m (.c (.i .i64 (i : Int))) (.c (.i .i64 ((x / 2 ^ k : Nat) : Int))) (.c (.i .i64 (k : Int))) h = some (.c (.b (decide (x / 2 ^ (i % 8) % 2 = 1))), h)
  | e, k, 0, _, hm => by omega
  | 0, k, m + 1, hk, hm => by
    have e0 : k = i % 8 := by omega
    subst e0
    have r1 : abin .rem (.c (.i .i64 (i : Int))) (.c (.i .i64 8)) = some (.c (.i .i64 ((i % 8 : Nat) : Int))) := by
      rw [rem_i (by omega) (by omega)]; congr 3
    have c0 : ¬ ((i % 8 : Nat) : Int) < ((i % 8 : Nat) : Int) := by omega
    have r2 : abin .rem (.c (.i .i64 ((x / 2 ^ (i % 8) : Nat) : Int))) (.c (.i .i64 2)) = some (.c (.i .i64 ((x / 2 ^ (i % 8) % 2 : Nat) : Int))) := by
      generalize x / 2 ^ (i % 8) = y
      rw [rem_i (by omega) (by omega)]; congr 3
    have ed : decide (((x / 2 ^ (i % 8) % 2 : Nat) : Int) = 1) = decide (x / 2 ^ (i % 8) % 2 = 1) := by
      by_cases c : x / 2 ^ (i % 8) % 2 = 1
      · rw [decide_eq_true c, decide_eq_true (by omega)]
      · rw [decide_eq_false c, decide_eq_false (by omega)]
    rw [escheatref04_Has_l0_eq]
    simp only [bnd_some, r1, abin_lss, c0, decide_false, cnd_f, r2, abin_eql, ed]
  | e + 1, k, m + 1, hk, hm => by
    have ih := rhas_loop (q := q) (h := h) hx hi e (k + 1) m (by omega) (by omega)
    have r1 : abin .rem (.c (.i .i64 (i : Int))) (.c (.i .i64 8)) = some (.c (.i .i64 ((i % 8 : Nat) : Int))) := by
      rw [rem_i (by omega) (by omega)]; congr 3
    have c0 : (k : Int) < ((i % 8 : Nat) : Int) := by omega
    have hle : x / 2 ^ k ≤ x := Nat.div_le_self _ _
    have q1 : abin .quo (.c (.i .i64 ((x / 2 ^ k : Nat) : Int))) (.c (.i .i64 2)) = some (.c (.i .i64 ((x / 2 ^ (k + 1) : Nat) : Int))) := by
      rw [Nat.pow_succ, ← Nat.div_div_eq_div_mul]
      generalize x / 2 ^ k = y at *
      rw [quo_i64 (by omega) (by omega) (by omega)]; congr 3
    rw [escheatref04_Has_l0_eq]
    simp only [bnd_some, r1, abin_lss, c0, decide_true, cnd_t, q1, abin_add, wi_succ (show k + 1 < 9223372036854775808 by omega)]
    exact ih

theorem ref04_Has_eq {v : Val} {b : List UInt8} {i : Int} {h : Heap} (hv : Has h v 1 256 (encB b)) (hb : b.length = 256) : S_escheatref04_Has [v, .c (.i .i64 i)] h = some (.c (.b (hasC b i)), h) := by
  have key : ∀ g, Has g v 1 256 (encB b) → ∃ g', R_escheatref04_Has 9 [v, .c (.i .i64 i)] g = some (.c (.b (hasC b i)), g') := by
    intro g hv
    have hlen := hv.len
    have w1 : IntKind.wrap .i64 (8 * ((256 : Nat) : Int)) = 2048 := by rw [wrap_i64 (by omega) (by omega)]; rfl
    rw [R_escheatref04_Has_eq]
    by_cases c : 0 ≤ i ∧ i < 2048
    · obtain ⟨k, rfl⟩ : ∃ k : Nat, i = k := ⟨i.toNat, by omega⟩
      have hk : k < 2048 := by omega
      have hlt : k / 8 < b.length := by omega
      obtain ⟨id, off, rfl, hid, h1, _⟩ := hv.sl (by omega)
      have hx := h1 (k / 8) (.i .u8 b[k / 8].toNat) (by rw [encB_get, List.getElem?_eq_getElem hlt]; rfl)
      have q1 : abin .quo (.c (.i .i64 (k : Int))) (.c (.i .i64 8)) = some (.c (.i .i64 ((k / 8 : Nat) : Int))) := by
        rw [quo_i64 (by omega) (by omega) (by omega)]; congr 3
      have ea : aiAddrL 1 (.c (.sl id off 256 1)) (.c (.i .i64 ((k / 8 : Nat) : Int))) = some (.c (.p id (off + k / 8))) := by rw [iAddrL_of (by omega)]; simp
      have hlt2 := b[k / 8].toNat_lt
      have w2 : IntKind.wrap .i64 (b[k / 8].toNat : Int) = (b[k / 8].toNat : Int) := wrap_i64 (by omega) (by omega)
      have c1 : ¬ (k : Int) < 0 := by omega
      have c2 : ¬ (2048 : Int) ≤ k := by omega
      have hL := rhas_loop (x := b[k / 8].toNat) (q := 9) (h := g) hlt2 hk (k % 8) 0 9 (by omega) (by omega)
      rw [Nat.pow_zero, Nat.div_one] at hL
      have e : hasC b k = decide (b[k / 8].toNat / 2 ^ (k % 8) % 2 = 1) := by
        have h1 : (k : Int) / 8 = ((k / 8 : Nat) : Int) := rfl
        have h2 : (k : Int) % 8 = ((k % 8 : Nat) : Int) := rfl
        unfold hasC
        rw [decide_eq_true c.1, decide_eq_true c.2, Bool.true_and, Bool.true_and, h1, h2, Int.toNat_natCast, Int.toNat_natCast, List.getD_eq_getElem?_getD, List.getElem?_eq_getElem hlt, Option.getD_some]
      rw [e]
      exact ⟨_, by simp only [esc, alen_sl, w1, c1, c2, q1, ea, hx, w2]; exact hL⟩
    · have e : hasC b i = false := by
        unfold hasC
        rw [Bool.and_eq_false_iff, Bool.and_eq_false_iff, decide_eq_false_iff_not, decide_eq_false_iff_not]; omega
      rw [e]
      by_cases c1 : i < 0
      · exact ⟨_, by simp only [esc, c1] <;> rfl⟩
      · have c2 : (2048 : Int) ≤ i := by omega
        exact ⟨_, by simp only [esc, c1, c2, hlen, w1] <;> rfl⟩
  obtain ⟨g', e⟩ := key (ro h) hv.ro
  exact S_escheatref04_Has_flat e rfl

end Go.Proofs.Ytdgggnlbdoiloaa
end
section
namespace Go.Proofs.Ytdgggnlbdoiloaa
open Go Go.Esc

theorem ints_loop {v u : Val} {nv nu : Nat} {l r : List Int} {h : Heap} (hv : Has h v 1 nv (encI l)) (hu : Has h u 1 nu (encI r)) (hlr : l.length = r.length) (hl : l.length < 9223372036854775807) {k : Nat} : ∀ d i m, i + d = l.length → d < m →
    escheatref04_Ints_l0 k m v u (.c (.i .i64 i)) h = some (.c (.b (decide (l.drop i = r.drop i))), h)
  | d, i, 0, _, hm => by omega
  | 0, i, m + 1, hi, hm => by
    have hnv : l.length = nv := by simpa [encI_length] using hv.length
    have e1 : l.drop i = [] := List.drop_of_length_le (by omega)
    have e2 : r.drop i = [] := List.drop_of_length_le (by omega)
    have h1' : ¬ (i : Int) < l.length := by omega
    rw [escheatref04_Ints_l0_eq]
    simp only [esc, hv.len, ← hnv, h1', e1, e2]
  | d + 1, i, m + 1, hi, hm => by
    have ih := ints_loop hv hu hlr hl (k := k) d (i + 1) m (by omega) (by omega)
    have hnv : l.length = nv := by simpa [encI_length] using hv.length
    have hnu : r.length = nu := by simpa [encI_length] using hu.length
    have hlen := hv.len
    obtain ⟨id, off, rfl, hid, h1, h2⟩ := hv.sl (by omega)
    obtain ⟨id', off', rfl, hid', h1', h2'⟩ := hu.sl (by omega)
    have hx := h1 i (.i .i64 l[i]) (by rw [encI_get, List.getElem?_eq_getElem (by omega)]; rfl)
    have hy := h1' i (.i .i64 r[i]) (by rw [encI_get, List.getElem?_eq_getElem (by omega)]; rfl)
    have ea : aiAddrL 1 (.c (.sl id off nv 1)) (.c (.i .i64 (i : Int))) = some (.c (.p id (off + i))) := by rw [iAddrL_of (by omega)]; simp
    have eb : aiAddrL 1 (.c (.sl id' off' nu 1)) (.c (.i .i64 (i : Int))) = some (.c (.p id' (off' + i))) := by rw [iAddrL_of (by omega)]; simp
    have c1 : (i : Int) < nv := by omega
    rw [escheatref04_Ints_l0_eq, List.drop_eq_getElem_cons (by omega : i < l.length), List.drop_eq_getElem_cons (by omega : i < r.length)]
    by_cases c : l[i] = r[i]
    · simp only [esc, c1, ea, eb, hx, hy, c, wi_succ (show i + 1 < 9223372036854775808 by omega), List.cons.injEq, true_and]
      exact ih
    · simp only [esc, c1, ea, eb, hx, hy, c, List.cons.injEq, false_and]

theorem ref04_Ints_eq {v u : Val} {nv nu : Nat} {l r : List Int} {h : Heap} (hv : Has h v 1 nv (encI l)) (hu : Has h u 1 nu (encI r)) (hl : l.length < 9223372036854775807) :
    S_escheatref04_Ints [v, u] h = some (.c (.b (decide (l = r))), h) := by
  refine S_escheatref04_Ints_flat (n := l.length + 1) (h2 := ro h) ?_ (by simp)
  have hnv : l.length = nv := by simpa [encI_length] using hv.length
  have hnu : r.length = nu := by simpa [encI_length] using hu.length
  rw [R_escheatref04_Ints_eq]
  by_cases c : l.length = r.length
  · have := ints_loop hv.ro hu.ro c hl (k := l.length + 1) l.length 0 (l.length + 1) (by omega) (by omega)
    simp only [List.drop_zero] at this
    have c' : (nv : Int) = nu := by omega
    simp only [esc, hv.len, hu.len, c']
    exact this
  · have c' : ¬ (nv : Int) = nu := by omega
    have c2 : ¬ l = r := fun e => c (by rw [e])
    simp only [esc, hv.len, hu.len, c', c2]

end Go.Proofs.Ytdgggnlbdoiloaa
end
section
namespace Go.Proofs.Ytdgggnlbdoiloaa
open Go Go.Esc
set_option maxRecDepth 100000
def escheatlaw21_small_o0 : List AOper := [{ dst := some 0, op := .nilrow 256 }]
def escheatlaw21_small_c0 : ACode := .ops escheatlaw21_small_o0
def escheatlaw21_small_o1 : List AOper := [{ dst := some 2, op := .mkSl 256 (List.replicate 256 (.i .u8 0)) (.v (.c (.i .i64 16))) (.v (.c (.i .i64 16))) }, { dst := some 1, op := .mv (.t 2) }]
def escheatlaw21_small_c1 : ACode := .ops escheatlaw21_small_o1
def escheatlaw21_small_o2 : List AOper := [{ dst := some 4, op := .mv (.t 1) }, { dst := some 5, op := .build ([.i .i64 0, .i .i64 0, .i .u64 0]) [(0, 1, (.v (.c (.i .i64 16)))), (1, 1, (.v (.c (.i .i64 8))))] }, { dst := some 6, op := .call 52 [(.t 5)] }, { dst := some 3, op := .mv (.t 6) }, { dst := some 7, op := .ext (.t 3) 0 }, { dst := some 8, op := .ext (.t 3) 1 }, { dst := some 9, op := .iAddrL 256 (.t 4) (.v (.c (.i .i64 0))) }, { dst := none, op := .storeN 256 (.t 9) (.t 7) }]
def escheatlaw21_small_c2 : ACode := .ops escheatlaw21_small_o2
def escheatlaw21_small_o3 : List AOper := [{ dst := some 11, op := .mv (.t 1) }, { dst := some 12, op := .mv (.t 1) }, { dst := some 13, op := .iAddrL 256 (.t 12) (.v (.c (.i .i64 2))) }, { dst := some 14, op := .loadN 256 (.t 13) }, { dst := some 15, op := .build ([.i .i64 0, .i .i64 0, .i .i64 0, .i .i64 0, .i .i64 0, .i .i64 0, .i .i64 0, .i .i64 0, .i .i64 0, .i .i64 0, .i .i64 0]) [(0, 1, (.v (.c (.i .i64 2)))), (1, 1, (.v (.c (.i .i64 1)))), (3, 1, (.v (.c (.i .i64 1))))] }, { dst := some 16, op := .call 108 [(.t 14), (.v (.c (.i .i64 0))), (.t 15)] }, { dst := some 10, op := .mv (.t 16) }, { dst := some 17, op := .ext (.t 10) 0 }, { dst := some 18, op := .ext (.t 10) 1 }, { dst := some 19, op := .iAddrL 256 (.t 11) (.v (.c (.i .i64 2))) }, { dst := none, op := .storeN 256 (.t 19) (.t 17) }]
def escheatlaw21_small_c3 : ACode := .ops escheatlaw21_small_o3
def escheatlaw21_small_o4 : List AOper := [{ dst := some 20, op := .mv (.t 1) }, { dst := some 21, op := .buildSl 1 3 ([.i .i64 0, .i .i64 0, .i .i64 0]) [(0, 1, (.v (.c (.i .i64 0)))), (1, 1, (.v (.c (.i .i64 1)))), (2, 1, (.v (.c (.i .i64 2))))] }, { dst := some 22, op := .call 109 [(.t 21)] }, { dst := some 23, op := .iAddrL 256 (.t 20) (.v (.c (.i .i64 1))) }, { dst := none, op := .storeN 256 (.t 23) (.t 22) }]
def escheatlaw21_small_c4 : ACode := .ops escheatlaw21_small_o4
def escheatlaw21_small_o5 : List AOper := [{ dst := some 24, op := .mv (.t 1) }, { dst := some 0, op := .mv (.t 24) }]
def escheatlaw21_small_c5 : ACode := .ops escheatlaw21_small_o5
def escheatlaw21_small_c6 : ACode := .seq [0] escheatlaw21_small_c5 .ret
def escheatlaw21_small_c7 : ACode := .seq [1] escheatlaw21_small_c4 escheatlaw21_small_c6
def escheatlaw21_small_c8 : ACode := .seq [1] escheatlaw21_small_c3 escheatlaw21_small_c7
def escheatlaw21_small_c9 : ACode := .seq [1] escheatlaw21_small_c2 escheatlaw21_small_c8
def escheatlaw21_small_c10 : ACode := .seq [1] escheatlaw21_small_c1 escheatlaw21_small_c9
def escheatlaw21_small_c11 : ACode := .seq [] escheatlaw21_small_c0 escheatlaw21_small_c10
def A_escheatlaw21_small : AFn := ⟨escheatlaw21_small_c11, [.tmp 0]⟩
noncomputable def E_escheatlaw21_small : Sums := disp 52 S_super_Put (disp 108 S_table_With (disp 109 S_chart_Make disp0))
noncomputable def escheatlaw21_small_c0_d (n : Nat) : SmV := smOps E_escheatlaw21_small escheatlaw21_small_o0
noncomputable def escheatlaw21_small_c1_d (n : Nat) : SmV := smOps E_escheatlaw21_small escheatlaw21_small_o1
noncomputable def escheatlaw21_small_c2_d (n : Nat) : SmV := smOps E_escheatlaw21_small escheatlaw21_small_o2
noncomputable def escheatlaw21_small_c3_d (n : Nat) : SmV := smOps E_escheatlaw21_small escheatlaw21_small_o3
noncomputable def escheatlaw21_small_c4_d (n : Nat) : SmV := smOps E_escheatlaw21_small escheatlaw21_small_o4
noncomputable def escheatlaw21_small_c5_d (n : Nat) : SmV := smOps E_escheatlaw21_small escheatlaw21_small_o5
noncomputable def escheatlaw21_small_c6_d (n : Nat) : SmV := smSeq [0] (escheatlaw21_small_c5_d n) smRet
noncomputable def escheatlaw21_small_c7_d (n : Nat) : SmV := smSeq [1] (escheatlaw21_small_c4_d n) (escheatlaw21_small_c6_d n)
noncomputable def escheatlaw21_small_c8_d (n : Nat) : SmV := smSeq [1] (escheatlaw21_small_c3_d n) (escheatlaw21_small_c7_d n)
noncomputable def escheatlaw21_small_c9_d (n : Nat) : SmV := smSeq [1] (escheatlaw21_small_c2_d n) (escheatlaw21_small_c8_d n)
noncomputable def escheatlaw21_small_c10_d (n : Nat) : SmV := smSeq [1] (escheatlaw21_small_c1_d n) (escheatlaw21_small_c9_d n)
noncomputable def escheatlaw21_small_c11_d (n : Nat) : SmV := smSeq [] (escheatlaw21_small_c0_d n) (escheatlaw21_small_c10_d n)
noncomputable def R_escheatlaw21_small (n : Nat) (args : List Val) (h : Heap) : OptV := (escheatlaw21_small_c11_d n) A_escheatlaw21_small.fin (params 0 args) h
theorem R_escheatlaw21_small_eq (n : Nat) (h : Heap) : R_escheatlaw21_small n [] h = bnd (amkn (.c (.i .i64 16)) (.c (.i .i64 16))) fun n1 => bnd (afill ([.i .i64 0, .i .i64 0, .i .u64 0]) [(0, 1, .c (.i .i64 16)), (1, 1, .c (.i .i64 8))]) fun c2 => bnd (S_super_Put [(.a c2)] (((h ++ [some (Row.mk ([]) true)]) ++ [some (Row.mk (rows (List.replicate 256 (.i .u8 0)) n1) true)]))) fun p3 => bnd (aext p3.1 0) fun v4 => bnd (aext p3.1 1) fun v5 => bnd (aiAddrL 256 ((.c (.sl ((h ++ [some (Row.mk ([]) true)])).length 0 n1 256))) (.c (.i .i64 0))) fun v6 => bnd (astoreN p3.2 256 v6 v4) fun h7 => bnd (aiAddrL 256 ((.c (.sl ((h ++ [some (Row.mk ([]) true)])).length 0 n1 256))) (.c (.i .i64 2))) fun v8 => bnd (aloadN h7 256 v8) fun v9 => bnd (afill ([.i .i64 0, .i .i64 0, .i .i64 0, .i .i64 0, .i .i64 0, .i .i64 0, .i .i64 0, .i .i64 0, .i .i64 0, .i .i64 0, .i .i64 0]) [(0, 1, .c (.i .i64 2)), (1, 1, .c (.i .i64 1)), (3, 1, .c (.i .i64 1))]) fun c10 => bnd (S_table_With [v9, .c (.i .i64 0), (.a c10)] h7) fun p11 => bnd (aext p11.1 0) fun v12 => bnd (aext p11.1 1) fun v13 => bnd (aiAddrL 256 ((.c (.sl ((h ++ [some (Row.mk ([]) true)])).length 0 n1 256))) (.c (.i .i64 2))) fun v14 => bnd (astoreN p11.2 256 v14 v12) fun h15 => bnd (afill ([.i .i64 0, .i .i64 0, .i .i64 0]) [(0, 1, .c (.i .i64 0)), (1, 1, .c (.i .i64 1)), (2, 1, .c (.i .i64 2))]) fun c16 => bnd (S_chart_Make [(.c (.sl h15.length 0 3 1))] ((h15 ++ [some (Row.mk (c16) true)]))) fun p17 => bnd (aiAddrL 256 ((.c (.sl ((h ++ [some (Row.mk ([]) true)])).length 0 n1 256))) (.c (.i .i64 1))) fun v18 => bnd (astoreN p17.2 256 v18 p17.1) fun h19 => some (((.c (.sl ((h ++ [some (Row.mk ([]) true)])).length 0 n1 256))), h19) := by kernel_rfl
theorem K_escheatlaw21_small : FnK Try.prog 68 A_escheatlaw21_small E_escheatlaw21_small R_escheatlaw21_small := .mk' (sound1 S_super_Put_ok (sound1 S_table_With_ok (sound1 S_chart_Make_ok sound0))) Try.func68 (by kernel_rfl) (by intro n args h; kernel_rfl)
noncomputable def S_escheatlaw21_small : Fun := tidy (Lim A_escheatlaw21_small E_escheatlaw21_small)
theorem S_escheatlaw21_small_ok : SOk Try.prog 68 S_escheatlaw21_small := K_escheatlaw21_small.sok
theorem S_escheatlaw21_small_out {n : Nat} {args : List Val} {h h2 : Heap} {v : Val} {sz k : Nat} {cs : List Cell} (he : R_escheatlaw21_small n args (ro h) = some (v, h2)) (ho : Out h.length h2 v sz k cs) (hf : flats cs = true) : S_escheatlaw21_small args h = some (.c (.sl h.length 0 k sz), h ++ [some ⟨cs, true⟩]) := K_escheatlaw21_small.out he ho hf
def escheatlaw21_works_o0 : List AOper := [{ dst := some 0, op := .mv (.v (.c (.b false))) }]
def escheatlaw21_works_c0 : ACode := .ops escheatlaw21_works_o0
def escheatlaw21_works_o1 : List AOper := [{ dst := some 6, op := .call 68 [] }, { dst := some 7, op := .call 15 [(.t 6)] }, { dst := some 5, op := .mv (.t 7) }, { dst := some 8, op := .ext (.t 5) 0 }, { dst := some 9, op := .ext (.t 5) 1 }, { dst := some 1, op := .alloc ([.i .i64 0, .i .i64 0, .i .u64 0, .nf]) }, { dst := none, op := .storeN 4 (.t 1) (.t 8) }, { dst := some 2, op := .mv (.t 9) }]
def escheatlaw21_works_c1 : ACode := .ops escheatlaw21_works_o1
def escheatlaw21_works_o2 : List AOper := [{ dst := some 11, op := .mkSl 256 (List.replicate 256 (.i .u8 0)) (.v (.c (.i .i64 16))) (.v (.c (.i .i64 16))) }, { dst := some 12, op := .call 15 [(.t 11)] }, { dst := some 10, op := .mv (.t 12) }, { dst := some 13, op := .ext (.t 10) 0 }, { dst := some 14, op := .ext (.t 10) 1 }, { dst := some 3, op := .alloc ([.i .i64 0, .i .i64 0, .i .u64 0, .nf]) }, { dst := none, op := .storeN 4 (.t 3) (.t 13) }, { dst := some 4, op := .mv (.t 14) }]
def escheatlaw21_works_c2 : ACode := .ops escheatlaw21_works_o2
def escheatlaw21_works_o3 : List AOper := [{ dst := some 15, op := .mv (.t 2) }, { dst := some 16, op := .bin .eql (.t 15) (.v (.c (.i .i64 0))) }, { dst := some 17, op := .mv (.t 16) }, { dst := some 18, op := .mv (.t 4), guard := some (17, true) }, { dst := some 19, op := .bin .eql (.t 18) (.v (.c (.i .i64 13))), guard := some (17, true) }, { dst := some 20, op := .pick (.t 17) (.t 19) (.v (.c (.b false))) }, { dst := some 21, op := .mv (.t 20) }, { dst := some 22, op := .loadN 4 (.t 1), guard := some (21, true) }, { dst := some 23, op := .call 17 [(.t 22), (.v (.c (.i .i64 1)))], guard := some (21, true) }, { dst := some 24, op := .fld1 (.t 23) 0, guard := some (21, true) }, { dst := some 25, op := .bin .eql (.t 24) (.v (.c (.i .i64 2))), guard := some (21, true) }, { dst := some 26, op := .pick (.t 21) (.t 25) (.v (.c (.b false))) }, { dst := some 27, op := .mv (.t 26) }, { dst := some 28, op := .loadN 4 (.t 1), guard := some (27, true) }, { dst := some 29, op := .call 33 [(.t 28), (.v (.c (.i .i64 2)))], guard := some (27, true) }, { dst := some 30, op := .pick (.t 27) (.t 29) (.v (.c (.b false))) }, { dst := some 31, op := .mv (.t 30) }, { dst := some 32, op := .loadN 4 (.t 1), guard := some (31, true) }, { dst := some 33, op := .call 33 [(.t 32), (.v (.c (.i .i64 3)))], guard := some (31, true) }, { dst := some 34, op := .un .not (.t 33), guard := some (31, true) }, { dst := some 35, op := .pick (.t 31) (.t 34) (.v (.c (.b false))) }, { dst := some 36, op := .mv (.t 35) }, { dst := some 37, op := .loadN 4 (.t 1), guard := some (36, true) }, { dst := some 38, op := .call 31 [(.t 37)], guard := some (36, true) }, { dst := some 39, op := .buildSl 1 1 ([.i .i64 0]) [(0, 1, (.v (.c (.i .i64 1))))], guard := some (36, true) }, { dst := some 40, op := .call 37 [(.t 38), (.t 39)], guard := some (36, true) }, { dst := some 41, op := .pick (.t 36) (.t 40) (.v (.c (.b false))) }, { dst := some 0, op := .mv (.t 41) }]
def escheatlaw21_works_c3 : ACode := .ops escheatlaw21_works_o3
def escheatlaw21_works_c4 : ACode := .seq [0] escheatlaw21_works_c3 .ret
def escheatlaw21_works_c5 : ACode := .seq [1, 2, 4] escheatlaw21_works_c2 escheatlaw21_works_c4
def escheatlaw21_works_c6 : ACode := .seq [1, 2] escheatlaw21_works_c1 escheatlaw21_works_c5
def escheatlaw21_works_c7 : ACode := .seq [] escheatlaw21_works_c0 escheatlaw21_works_c6
def A_escheatlaw21_works : AFn := ⟨escheatlaw21_works_c7, [.tmp 0]⟩
noncomputable def E_escheatlaw21_works : Sums := disp 68 S_escheatlaw21_small (disp 15 S_view_Of (disp 17 S_view_View_Inode (disp 33 S_view_View_Used (disp 31 S_view_View_Inodes (disp 37 S_escheatref04_Ints disp0)))))
noncomputable def escheatlaw21_works_c0_d (n : Nat) : SmV := smOps E_escheatlaw21_works escheatlaw21_works_o0
noncomputable def escheatlaw21_works_c1_d (n : Nat) : SmV := smOps E_escheatlaw21_works escheatlaw21_works_o1
noncomputable def escheatlaw21_works_c2_d (n : Nat) : SmV := smOps E_escheatlaw21_works escheatlaw21_works_o2
noncomputable def escheatlaw21_works_c3_d (n : Nat) : SmV := smOps E_escheatlaw21_works escheatlaw21_works_o3
noncomputable def escheatlaw21_works_c4_d (n : Nat) : SmV := smSeq [0] (escheatlaw21_works_c3_d n) smRet
noncomputable def escheatlaw21_works_c5_d (n : Nat) : SmV := smSeq [1, 2, 4] (escheatlaw21_works_c2_d n) (escheatlaw21_works_c4_d n)
noncomputable def escheatlaw21_works_c6_d (n : Nat) : SmV := smSeq [1, 2] (escheatlaw21_works_c1_d n) (escheatlaw21_works_c5_d n)
noncomputable def escheatlaw21_works_c7_d (n : Nat) : SmV := smSeq [] (escheatlaw21_works_c0_d n) (escheatlaw21_works_c6_d n)
noncomputable def R_escheatlaw21_works (n : Nat) (args : List Val) (h : Heap) : OptV := (escheatlaw21_works_c7_d n) A_escheatlaw21_works.fin (params 0 args) h
theorem R_escheatlaw21_works_eq (n : Nat) (h : Heap) : R_escheatlaw21_works n [] h = bnd (S_escheatlaw21_small [] h) fun p1 => bnd (S_view_Of [p1.1] p1.2) fun p2 => bnd (aext p2.1 0) fun v3 => bnd (aext p2.1 1) fun v4 => bnd (astoreN ((p2.2 ++ [some (Row.mk ([.i .i64 0, .i .i64 0, .i .u64 0, .nf]) true)])) 4 ((.c (.p p2.2.length 0))) v3) fun h5 => bnd (amkn (.c (.i .i64 16)) (.c (.i .i64 16))) fun n6 => bnd (S_view_Of [(.c (.sl h5.length 0 n6 256))] ((h5 ++ [some (Row.mk (rows (List.replicate 256 (.i .u8 0)) n6) true)]))) fun p7 => bnd (aext p7.1 0) fun v8 => bnd (aext p7.1 1) fun v9 => bnd (astoreN ((p7.2 ++ [some (Row.mk ([.i .i64 0, .i .i64 0, .i .u64 0, .nf]) true)])) 4 ((.c (.p p7.2.length 0))) v8) fun h10 => bnd (abin .eql v4 (.c (.i .i64 0))) fun v11 => bnd (gd v11 true (some (v9, h10)) (some (.no, h10))) fun p12 => bnd (gd v11 true (bnd (abin .eql p12.1 (.c (.i .i64 13))) fun v13 => some (v13, p12.2)) (some (.no, p12.2))) fun p14 => bnd (apick v11 p14.1 (.c (.b false))) fun v15 => bnd (gd v15 true (bnd (aloadN p14.2 4 ((.c (.p p2.2.length 0)))) fun v16 => some (v16, p14.2)) (some (.no, p14.2))) fun p17 => bnd (gd v15 true (bnd (S_view_View_Inode [p17.1, .c (.i .i64 1)] p17.2) fun p18 => some (p18.1, p18.2)) (some (.no, p17.2))) fun p19 => bnd (gd v15 true (bnd (afld1 p19.1 0) fun v20 => some (v20, p19.2)) (some (.no, p19.2))) fun p21 => bnd (gd v15 true (bnd (abin .eql p21.1 (.c (.i .i64 2))) fun v22 => some (v22, p21.2)) (some (.no, p21.2))) fun p23 => bnd (apick v15 p23.1 (.c (.b false))) fun v24 => bnd (gd v24 true (bnd (aloadN p23.2 4 ((.c (.p p2.2.length 0)))) fun v25 => some (v25, p23.2)) (some (.no, p23.2))) fun p26 => bnd (gd v24 true (bnd (S_view_View_Used [p26.1, .c (.i .i64 2)] p26.2) fun p27 => some (p27.1, p27.2)) (some (.no, p26.2))) fun p28 => bnd (apick v24 p28.1 (.c (.b false))) fun v29 => bnd (gd v29 true (bnd (aloadN p28.2 4 ((.c (.p p2.2.length 0)))) fun v30 => some (v30, p28.2)) (some (.no, p28.2))) fun p31 => bnd (gd v29 true (bnd (S_view_View_Used [p31.1, .c (.i .i64 3)] p31.2) fun p32 => some (p32.1, p32.2)) (some (.no, p31.2))) fun p33 => bnd (gd v29 true (bnd (aun .not p33.1) fun v34 => some (v34, p33.2)) (some (.no, p33.2))) fun p35 => bnd (apick v29 p35.1 (.c (.b false))) fun v36 => bnd (gd v36 true (bnd (aloadN p35.2 4 ((.c (.p p2.2.length 0)))) fun v37 => some (v37, p35.2)) (some (.no, p35.2))) fun p38 => bnd (gd v36 true (bnd (S_view_View_Inodes [p38.1] p38.2) fun p39 => some (p39.1, p39.2)) (some (.no, p38.2))) fun p40 => bnd (gd v36 true (bnd (afill ([.i .i64 0]) [(0, 1, .c (.i .i64 1))]) fun c41 => some ((.c (.sl p40.2.length 0 1 1)), (p40.2 ++ [some (Row.mk (c41) true)]))) (some (.no, p40.2))) fun p42 => bnd (gd v36 true (bnd (S_escheatref04_Ints [p40.1, p42.1] p42.2) fun p43 => some (p43.1, p43.2)) (some (.no, p42.2))) fun p44 => bnd (apick v36 p44.1 (.c (.b false))) fun v45 => some (v45, p44.2) := by kernel_rfl
theorem K_escheatlaw21_works : FnK Try.prog 29 A_escheatlaw21_works E_escheatlaw21_works R_escheatlaw21_works := .mk' (sound1 S_escheatlaw21_small_ok (sound1 S_view_Of_ok (sound1 S_view_View_Inode_ok (sound1 S_view_View_Used_ok (sound1 S_view_View_Inodes_ok (sound1 S_escheatref04_Ints_ok sound0)))))) Try.func29 (by kernel_rfl) (by intro n args h; kernel_rfl)
noncomputable def S_escheatlaw21_works : Fun := tidy (Lim A_escheatlaw21_works E_escheatlaw21_works)
theorem S_escheatlaw21_works_ok : SOk Try.prog 29 S_escheatlaw21_works := K_escheatlaw21_works.sok
theorem S_escheatlaw21_works_flat {n : Nat} {args : List Val} {h h2 : Heap} {v : Val} (he : R_escheatlaw21_works n args (ro h) = some (v, h2)) (hf : v.flat = true) : S_escheatlaw21_works args h = some (v, h) := K_escheatlaw21_works.flat he hf
end Go.Proofs.Ytdgggnlbdoiloaa
end
section
namespace Go.Proofs.Ytdgggnlbdoiloaa
open Go Go.Esc

theorem ldN_dev {i : Nat} {D : Dev} {rw : Bool} (hD : okD D) (hi : i < D.length) : ldN (some ⟨cellsD D, rw⟩) (i * 256) 256 = some (.a (encB D[i])) := by
  simp only [ldN, Option.bind_some]
  rw [if_pos ⟨by rw [cellsD_length hD]; omega, by rw [cellsD_at hD hi, noX_encB]; simp⟩, cellsD_at hD hi]

def inoS : List UInt8 := layB (zeros 256) (32 * 0) (inoB 2 1 0 1 (zI 7))
theorem inoS_length : inoS.length = 256 := by decide +kernel
def mapS : List UInt8 := makeC [0, 1, 2]
theorem mapS_length : mapS.length = 256 := by unfold mapS makeC; rw [foldC_length]; exact zeros_length
def D16a : Dev := (List.replicate 16 (zeros 256)).set 0 (supB 16 8 0)
def D16b : Dev := D16a.set 2 inoS
def DS : Dev := D16b.set 1 mapS
theorem okDa : okD D16a := (okD_zeros 16).set supB_length
theorem okDb : okD D16b := okDa.set inoS_length
theorem okDS : okD DS := okDb.set mapS_length
theorem lenDa : D16a.length = 16 := by unfold D16a; rw [List.length_set, List.length_replicate]
theorem lenDb : D16b.length = 16 := by unfold D16b; rw [List.length_set, lenDa]
theorem lenDS : DS.length = 16 := by unfold DS; rw [List.length_set, lenDb]
theorem devLS : devL DS = true := by decide +kernel
theorem devNS : devN DS = 8 := by decide +kernel
theorem devMS : devM DS = 0 := by decide +kernel
theorem devL0 : devL (List.replicate 16 (zeros 256)) = false := by decide +kernel

theorem small_eq (h : Heap) : S_escheatlaw21_small [] h = some (.c (.sl h.length 0 16 256), h ++ [some ⟨cellsD DS, true⟩]) := by
  have key : ∀ g, ∃ v g', R_escheatlaw21_small 0 [] g = some (v, g') ∧ Out g.length g' v 256 16 (cellsD DS) := by
    intro g
    have mk : amkn (.c (.i .i64 16)) (.c (.i .i64 16)) = some 16 := rfl
    have ef1 : afill [Cell.i .i64 0, .i .i64 0, .i .u64 0] [(0, 1, .c (.i .i64 16)), (1, 1, .c (.i .i64 8))] = some (layC 16 8 0) := rfl
    have hp := fun h => super_Put_eq (b := 16) (n := 8) (m := 0) (h := h) (by omega) (by omega)
    have hm : mayL 16 8 = true := by decide
    simp only [hm, cond_true] at hp
    have a0 : aiAddrL 256 (.c (.sl (g.length + 1) 0 16 256)) (.c (.i .i64 0)) = some (.c (.p (g.length + 1) 0)) := rfl
    have a1 : aiAddrL 256 (.c (.sl (g.length + 1) 0 16 256)) (.c (.i .i64 1)) = some (.c (.p (g.length + 1) 256)) := rfl
    have a2 : aiAddrL 256 (.c (.sl (g.length + 1) 0 16 256)) (.c (.i .i64 2)) = some (.c (.p (g.length + 1) 512)) := rfl
    have s1 := stN_dev (D := List.replicate 16 (zeros 256)) (i := 0) (okD_zeros 16) (supB_length (b := 16) (n := 8) (m := 0)) (by simp)
    have e1 : (List.replicate 16 (zeros 256)).set 0 (supB 16 8 0) = D16a := rfl
    rw [e1, Nat.zero_mul] at s1
    have hx : D16a[2]'(by rw [lenDa]; omega) = zeros 256 := by decide +kernel
    have y1 := ldN_dev (D := D16a) (i := 2) (rw := true) okDa (by rw [lenDa]; omega)
    rw [hx] at y1
    have ef2 : afill [Cell.i .i64 0, .i .i64 0, .i .i64 0, .i .i64 0, .i .i64 0, .i .i64 0, .i .i64 0, .i .i64 0, .i .i64 0, .i .i64 0, .i .i64 0] [(0, 1, .c (.i .i64 2)), (1, 1, .c (.i .i64 1)), (3, 1, .c (.i .i64 1))] = some (inoC 2 1 0 1 (zI 7)) := rfl
    have hW := fun h => table_With_ok (j := 0) (k := 2) (l := 1) (s := 0) (p := 1) (d := zI 7) (b := zeros 256) (h := h) zeros_length rfl (by omega) (by decide)
    have eW : layB (zeros 256) (32 * 0) (inoB 2 1 0 1 (zI 7)) = inoS := rfl
    simp only [eW] at hW
    have s2 := stN_dev (D := D16a) (i := 2) okDa inoS_length (by rw [lenDa]; omega)
    have e2 : D16a.set 2 inoS = D16b := rfl
    rw [e2] at s2
    have ef3 : afill [Cell.i .i64 0, .i .i64 0, .i .i64 0] [(0, 1, .c (.i .i64 0)), (1, 1, .c (.i .i64 1)), (2, 1, .c (.i .i64 2))] = some (encI ([0, 1, 2].map fun x : Nat => (x : Int))) := rfl
    have hM := fun h (hv : Has h (.c (.sl (g.length + 2) 0 3 1)) 1 3 (encI ([0, 1, 2].map fun x : Nat => (x : Int)))) => chart_Make_eq (l := [0, 1, 2]) (h := h) (by decide) (by decide) hv
    have eM : makeC [0, 1, 2] = mapS := rfl
    simp only [eM] at hM
    have hM2 := hM (g ++ [some (Row.mk [] true), some (Row.mk (cellsD D16b) true), some (Row.mk (encI ([0, 1, 2].map fun x : Nat => (x : Int))) true)]) (Has.tr (by simp) rfl (noX_encI _))
    have s3 := stN_dev (D := D16b) (i := 1) okDb mapS_length (by rw [lenDb]; omega)
    have e3 : D16b.set 1 mapS = DS := rfl
    rw [e3] at s3
    rw [R_escheatlaw21_small_eq]
    simp only [rows_dev]
    rw [show (2 * 256 : Nat) = 512 from rfl] at y1 s2
    rw [show (1 * 256 : Nat) = 256 from rfl] at s3
    refine ⟨.c (.sl (g.length + 1) 0 16 256), g ++ [some (Row.mk [] true), some (Row.mk (cellsD DS) true), some (Row.mk (encI ([0, 1, 2].map fun x : Nat => (x : Int))) true)], ?_, by rw [cellsD_length okDS, lenDS], g.length + 1, rfl, by omega, by simp⟩
    generalize cellsD D16a = c1 at *
    generalize cellsD D16b = c2 at *
    generalize cellsD DS = c3 at *
    generalize encB (supB 16 8 0) = b1 at *
    generalize encB (zeros 256) = b2 at *
    generalize encB inoS = b3 at *
    generalize encB mapS = b4 at *
    generalize encI ([0, 1, 2].map fun x : Nat => (x : Int)) = i1 at *
    have z0 : ((0 : Nat) : Int) = 0 := rfl
    simp only [z0] at hW
    simp only [esc, esh, Nat.reduceAdd, Nat.reduceMul, Nat.reduceLT, mk, ef1, hp, a0, s1, a2, y1, ef2, hW, s2, ef3, hM2, a1, s3]
  obtain ⟨v, g', e, ho⟩ := key (ro h)
  exact S_escheatlaw21_small_out e (by simpa [ro_length] using ho) flats_cellsD

set_option maxHeartbeats 1000000 in
theorem works21_eq (h : Heap) : S_escheatlaw21_works [] h = some (.c (.b true), h) := by
  have key : ∀ g, ∃ g', R_escheatlaw21_works 0 [] g = some (.c (.b true), g') := by
    intro g
    have hS := small_eq g
    have l16 := lenDS
    obtain ⟨f, t, hO, hv⟩ := view_Of_ok (v := .c (.sl g.length 0 16 256)) (h := g ++ [some (Row.mk (cellsD DS) true)]) (D := DS) (by rw [l16]; exact Has.tr (by simp) (by rw [cellsD_length okDS, l16]) (noX_cellsD _)) okDS devLS (by rw [l16]; omega)
    rw [devNS, devMS] at hO
    obtain ⟨H, hH⟩ : ∃ H, H = g ++ [some (Row.mk (cellsD DS) true)] ++ t := ⟨_, rfl⟩
    rw [← hH] at hO hv
    obtain ⟨V, hV⟩ : ∃ V, V = vwC DS.length 8 0 f := ⟨_, rfl⟩
    have hS4 : astoreN (H ++ [some (Row.mk [.i .i64 0, .i .i64 0, .i .u64 0, .nf] true)]) 4 (.c (.p H.length 0)) (.a V) = some (H ++ [some (Row.mk V true)]) := by rw [hV, astoreN_at0]; rfl
    have mk : amkn (.c (.i .i64 16)) (.c (.i .i64 16)) = some 16 := rfl
    obtain ⟨t2, hO2⟩ := view_Of_bad (v := .c (.sl (H ++ [some (Row.mk V true)]).length 0 16 256)) (h := H ++ [some (Row.mk V true)] ++ [some (Row.mk (cellsD (List.replicate 16 (zeros 256))) true)]) (D := List.replicate 16 (zeros 256)) (by
      rw [List.length_replicate]
      exact Has.tr (by simp) (by rw [cellsD_length (okD_zeros 16), List.length_replicate]) (noX_cellsD _)) (okD_zeros 16) devL0
    obtain ⟨H2, hH2⟩ : ∃ H2, H2 = H ++ [some (Row.mk V true)] ++ [some (Row.mk (cellsD (List.replicate 16 (zeros 256))) true)] ++ t2 := ⟨_, rfl⟩
    rw [← hH2] at hO2
    simp only [List.append_assoc, List.cons_append, List.nil_append, List.length_append, List.length_cons, List.length_nil, Nat.zero_add] at hO2
    have hS5 : astoreN (H2 ++ [some (Row.mk [.i .i64 0, .i .i64 0, .i .u64 0, .nf] true)]) 4 (.c (.p H2.length 0)) (.a (vwC 0 0 0 .nf)) = some (H2 ++ [some (Row.mk (vwC 0 0 0 .nf) true)]) := by rw [astoreN_at0]; rfl
    obtain ⟨K, hK⟩ : ∃ K, K = H2 ++ [some (Row.mk (vwC 0 0 0 .nf) true)] := ⟨_, rfl⟩
    rw [← hK] at hS5
    have hKr : rd K H.length = some ⟨V, true⟩ := by
      rw [hK, hH2]
      exact rd_append (rd_append (rd_append (by simp)))
    have hvK : IsView K f DS := by
      rw [hK, hH2]
      exact (((hv.more _).more _).more _).more _
    have hL := loadAll (n := 4) hKr (by rw [hV]; rfl)
    have hI := view_Inode_eq (n := 8) (m := 0) (i := 1) okDS hvK
    obtain ⟨l, s, p, d, ei, hd⟩ := inoV_form DS 8 1
    have ek : kdV DS 8 1 = 2 := by decide +kernel
    rw [ei, ek] at hI
    have f1 : afld1 (.a (inoC 2 l s p d)) 0 = some (.c (.i .i64 2)) := rfl
    have hU2 := view_Used_eq (n := 8) (m := 0) (i := 2) okDS hvK
    have hU3 := view_Used_eq (n := 8) (m := 0) (i := 3) okDS hvK
    have eu2 : usedV DS 8 2 = true := by decide +kernel
    have eu3 : usedV DS 8 3 = false := by decide +kernel
    rw [eu2] at hU2
    rw [eu3] at hU3
    have hN := view_Inodes_eq (n := 8) (m := 0) okDS hvK
    have en : inosF (kdV DS 8) 128 0 = [1] := by decide +kernel
    rw [en] at hN
    rw [show ([1] : List Int).length = 1 from rfl] at hN
    rw [← hV] at hO hI hU2 hU3 hN
    have ef : afill [Cell.i .i64 0] [(0, 1, .c (.i .i64 1))] = some (encI [1]) := rfl
    have hQ := ref04_Ints_eq (h := K ++ [some (Row.mk (encI [1]) true), some (Row.mk (encI [1]) true)]) (v := .c (.sl K.length 0 1 1)) (nv := 1) (u := .c (.sl (K.length + 1) 0 1 1)) (nu := 1) (l := [1]) (r := [1]) (Has.tr (by simp) rfl rfl) (Has.tr (by simp) rfl rfl) (by decide)
    rw [decide_eq_true rfl] at hQ
    rw [R_escheatlaw21_works_eq]
    simp only [rows_dev]
    generalize cellsD DS = c1 at *
    generalize encI [1] = i1 at *
    generalize inoC 2 l s p d = I at *
    exact ⟨_, by simp only [bnd_some, aext_t, List.getElem?_cons_zero, List.getElem?_cons_succ, Option.map_some, ofPart_c, ofPart_a, hS, hO, hS4, mk, hO2, hS5, abin_eql, eq_self, decide_true, gd_tt, apick_b, cond_true, hL, hI, f1, hU2, hU3, aun_not, Bool.not_false, hN, ef, List.append_assoc, List.cons_append, List.nil_append, List.length_append, List.length_cons, List.length_nil, Nat.zero_add, hQ] <;> rfl⟩
  obtain ⟨g', e⟩ := key (ro h)
  exact S_escheatlaw21_works_flat e rfl

end Go.Proofs.Ytdgggnlbdoiloaa
end
section
namespace Go.Proofs.Ytdgggnlbdoiloaa
open Go Go.Esc
set_option maxRecDepth 100000
def escheatlaw21_To_o0 : List AOper := [{ dst := some 2, op := .nilrow 256 }]
def escheatlaw21_To_c0 : ACode := .ops escheatlaw21_To_o0
def escheatlaw21_To_o1 : List AOper := [{ dst := some 3, op := .nilrow 256 }]
def escheatlaw21_To_c1 : ACode := .ops escheatlaw21_To_o1
def escheatlaw21_To_o2 : List AOper := [{ dst := some 4, op := .mv (.v (.c (.i .i64 0))) }]
def escheatlaw21_To_c2 : ACode := .ops escheatlaw21_To_o2
def escheatlaw21_To_o3 : List AOper := [{ dst := some 5, op := .mv (.t 4) }, { dst := some 6, op := .mv (.t 0) }, { dst := some 7, op := .len (.t 6) }, { dst := some 8, op := .bin .lss (.t 5) (.t 7) }]
def escheatlaw21_To_c3 : ACode := .ops escheatlaw21_To_o3
def escheatlaw21_To_c4 : ACode := .cond (.t 8) .skip (.exit 0)
def escheatlaw21_To_c5 : ACode := .seq [0, 3, 4, 8] escheatlaw21_To_c3 escheatlaw21_To_c4
def escheatlaw21_To_o4 : List AOper := [{ dst := some 11, op := .mv (.t 3) }, { dst := some 12, op := .mv (.t 0) }, { dst := some 13, op := .mv (.t 4) }, { dst := some 14, op := .iAddrL 256 (.t 12) (.t 13) }, { dst := some 15, op := .loadN 256 (.t 14) }, { dst := some 16, op := .buildSl 256 1 (List.replicate 256 (.i .u8 0)) [(0, 256, (.t 15))] }, { dst := some 17, op := .app 256 (.t 11) (.t 16) }, { dst := some 3, op := .mv (.t 17) }]
def escheatlaw21_To_c6 : ACode := .ops escheatlaw21_To_o4
def escheatlaw21_To_c7 : ACode := .block 1 escheatlaw21_To_c6
def escheatlaw21_To_o5 : List AOper := [{ dst := some 9, op := .mv (.t 4) }, { dst := some 10, op := .bin .add (.t 9) (.v (.c (.i .i64 1))) }, { dst := some 4, op := .mv (.t 10) }]
def escheatlaw21_To_c8 : ACode := .ops escheatlaw21_To_o5
def escheatlaw21_To_c9 : ACode := .seq [0, 3, 4] escheatlaw21_To_c7 escheatlaw21_To_c8
def escheatlaw21_To_c10 : ACode := .seq [0, 3, 4] escheatlaw21_To_c5 escheatlaw21_To_c9
def escheatlaw21_To_c11 : ACode := .loop [0, 3, 4] escheatlaw21_To_c10
def escheatlaw21_To_c12 : ACode := .block 0 escheatlaw21_To_c11
def escheatlaw21_To_c13 : ACode := .seq [0, 3, 4] escheatlaw21_To_c2 escheatlaw21_To_c12
def escheatlaw21_To_o6 : List AOper := [{ dst := some 18, op := .mv (.t 3) }, { dst := some 2, op := .mv (.t 18) }]
def escheatlaw21_To_c14 : ACode := .ops escheatlaw21_To_o6
def escheatlaw21_To_c15 : ACode := .seq [2] escheatlaw21_To_c14 .ret
def escheatlaw21_To_c16 : ACode := .seq [3] escheatlaw21_To_c13 escheatlaw21_To_c15
def escheatlaw21_To_c17 : ACode := .seq [0, 3] escheatlaw21_To_c1 escheatlaw21_To_c16
def escheatlaw21_To_c18 : ACode := .seq [0] escheatlaw21_To_c0 escheatlaw21_To_c17
def A_escheatlaw21_To : AFn := ⟨escheatlaw21_To_c18, [.tmp 2]⟩
noncomputable def E_escheatlaw21_To : Sums := disp0
noncomputable def escheatlaw21_To_c0_d (n : Nat) : SmV := smOps E_escheatlaw21_To escheatlaw21_To_o0
noncomputable def escheatlaw21_To_c1_d (n : Nat) : SmV := smOps E_escheatlaw21_To escheatlaw21_To_o1
noncomputable def escheatlaw21_To_c2_d (n : Nat) : SmV := smOps E_escheatlaw21_To escheatlaw21_To_o2
noncomputable def escheatlaw21_To_c3_d (n : Nat) : SmV := smOps E_escheatlaw21_To escheatlaw21_To_o3
noncomputable def escheatlaw21_To_c4_d (n : Nat) : SmV := smCond (.t 8) smSkip (smExit 0)
noncomputable def escheatlaw21_To_c5_d (n : Nat) : SmV := smSeq [0, 3, 4, 8] (escheatlaw21_To_c3_d n) (escheatlaw21_To_c4_d n)
noncomputable def escheatlaw21_To_c6_d (n : Nat) : SmV := smOps E_escheatlaw21_To escheatlaw21_To_o4
noncomputable def escheatlaw21_To_c7_d (n : Nat) : SmV := smBlock 1 (escheatlaw21_To_c6_d n)
noncomputable def escheatlaw21_To_c8_d (n : Nat) : SmV := smOps E_escheatlaw21_To escheatlaw21_To_o5
noncomputable def escheatlaw21_To_c9_d (n : Nat) : SmV := smSeq [0, 3, 4] (escheatlaw21_To_c7_d n) (escheatlaw21_To_c8_d n)
noncomputable def escheatlaw21_To_c10_d (n : Nat) : SmV := smSeq [0, 3, 4] (escheatlaw21_To_c5_d n) (escheatlaw21_To_c9_d n)
noncomputable def escheatlaw21_To_c11_d (n : Nat) : SmV := smLoop n [0, 3, 4] (escheatlaw21_To_c10_d n)
noncomputable def escheatlaw21_To_c12_d (n : Nat) : SmV := smBlock 0 (escheatlaw21_To_c11_d n)
noncomputable def escheatlaw21_To_c13_d (n : Nat) : SmV := smSeq [0, 3, 4] (escheatlaw21_To_c2_d n) (escheatlaw21_To_c12_d n)
noncomputable def escheatlaw21_To_c14_d (n : Nat) : SmV := smOps E_escheatlaw21_To escheatlaw21_To_o6
noncomputable def escheatlaw21_To_c15_d (n : Nat) : SmV := smSeq [2] (escheatlaw21_To_c14_d n) smRet
noncomputable def escheatlaw21_To_c16_d (n : Nat) : SmV := smSeq [3] (escheatlaw21_To_c13_d n) (escheatlaw21_To_c15_d n)
noncomputable def escheatlaw21_To_c17_d (n : Nat) : SmV := smSeq [0, 3] (escheatlaw21_To_c1_d n) (escheatlaw21_To_c16_d n)
noncomputable def escheatlaw21_To_c18_d (n : Nat) : SmV := smSeq [0] (escheatlaw21_To_c0_d n) (escheatlaw21_To_c17_d n)
noncomputable def escheatlaw21_To_k0 (n : Nat) : AExit → Env → Heap → OptV := fun x e h => match x with | .normal => hold ((escheatlaw21_To_c15_d n) A_escheatlaw21_To.fin (e.keep [3]) h) | .exit id => A_escheatlaw21_To.fin (.exit id) e h | .ret => A_escheatlaw21_To.fin .ret e h
noncomputable def escheatlaw21_To_k1 (n : Nat) : AExit → Env → Heap → OptV := fun x e h => match x with | .exit i => bif Nat.beq i 0 then (escheatlaw21_To_k0 n) .normal e h else (escheatlaw21_To_k0 n) (.exit i) e h | .normal => (escheatlaw21_To_k0 n) .normal e h | .ret => (escheatlaw21_To_k0 n) .ret e h
noncomputable def escheatlaw21_To_l0 (n m : Nat) (x0 x3 x4 : Val) (h : Heap) : OptV := around (escheatlaw21_To_c10_d n) [0, 3, 4] (escheatlaw21_To_k1 n) m [(0, x0), (3, x3), (4, x4)] h
noncomputable def R_escheatlaw21_To (n : Nat) (args : List Val) (h : Heap) : OptV := (escheatlaw21_To_c18_d n) A_escheatlaw21_To.fin (params 0 args) h
theorem R_escheatlaw21_To_eq (n : Nat) (a0 : Val) (h : Heap) : R_escheatlaw21_To n [a0] h = escheatlaw21_To_l0 n n a0 ((.c (.sl ((h ++ [some (Row.mk ([]) true)])).length 0 0 256))) (.c (.i .i64 0)) (((h ++ [some (Row.mk ([]) true)]) ++ [some (Row.mk ([]) true)])) := by kernel_rfl
theorem escheatlaw21_To_l0_eq (n m : Nat) (x0 x3 x4 : Val) (h : Heap) : escheatlaw21_To_l0 n (m + 1) x0 x3 x4 h = bnd (alen x0) fun v1 => bnd (abin .lss x4 v1) fun v2 => cnd v2 (bnd (aiAddrL 256 x0 x4) fun v3 => bnd (aloadN h 256 v3) fun v4 => bnd (afill (List.replicate 256 (.i .u8 0)) [(0, 256, v4)]) fun c5 => bnd (aapp ((h ++ [some (Row.mk (c5) true)])) 256 x3 ((.c (.sl h.length 0 1 256)))) fun p6 => bnd (abin .add x4 (.c (.i .i64 1))) fun v7 => escheatlaw21_To_l0 n m x0 p6.1 v7 p6.2) (some (x3, h)) := by kernel_rfl
theorem K_escheatlaw21_To : FnK Try.prog 16 A_escheatlaw21_To E_escheatlaw21_To R_escheatlaw21_To := .mk' (sound0) Try.func16 (by kernel_rfl) (by intro n args h; kernel_rfl)
noncomputable def S_escheatlaw21_To : Fun := tidy (Lim A_escheatlaw21_To E_escheatlaw21_To)
theorem S_escheatlaw21_To_ok : SOk Try.prog 16 S_escheatlaw21_To := K_escheatlaw21_To.sok
theorem S_escheatlaw21_To_out {n : Nat} {args : List Val} {h h2 : Heap} {v : Val} {sz k : Nat} {cs : List Cell} (he : R_escheatlaw21_To n args (ro h) = some (v, h2)) (ho : Out h.length h2 v sz k cs) (hf : flats cs = true) : S_escheatlaw21_To args h = some (.c (.sl h.length 0 k sz), h ++ [some ⟨cs, true⟩]) := K_escheatlaw21_To.out he ho hf
end Go.Proofs.Ytdgggnlbdoiloaa
end
section
namespace Go.Proofs.Ytdgggnlbdoiloaa
open Go Go.Esc

theorem has_blk {h : Heap} {v : Val} {D : Dev} (hv : Has h v 256 D.length (cellsD D)) (hD : okD D) {i : Nat} (hi : i < D.length) :
    ∃ id off, v = .c (.sl id off D.length 256) ∧ id < h.length ∧ aiAddrL 256 v (.c (.i .i64 (i : Int))) = some (.c (.p id (off + i * 256))) ∧ aloadN h 256 (.c (.p id (off + i * 256))) = some (.a (encB D[i])) := by
  obtain ⟨id, off, rfl, hid, _, h2⟩ := hv.sl (by omega)
  refine ⟨id, off, rfl, hid, iAddrL_of hi, ?_⟩
  rw [h2 (i * 256) 256 (by rw [cellsD_length hD]; omega), cellsD_at hD hi]

theorem afill_blk {b : List UInt8} (hb : b.length = 256) : afill (List.replicate 256 (Cell.i .u8 0)) [(0, 256, .a (encB b))] = some (encB b) := by
  have hl : (encB b).length = 256 := by rw [encB_length, hb]
  have hz : (List.replicate 256 (Cell.i .u8 0)).length = 256 := List.length_replicate
  generalize List.replicate 256 (Cell.i .u8 0) = z at *
  generalize encB b = y at *
  simp only [afill, cells?_a, Option.bind_some]
  rw [if_pos ⟨hl, by omega⟩]
  simp only [lay_all (by omega : y.length = z.length)]

theorem to_loop {g : Heap} {D : Dev} {v : Val} {q : Nat} (hv : Has g v 256 D.length (cellsD D)) (hD : okD D) (h60 : D.length ≤ 1073741823) : ∀ (e i m id : Nat) (h : Heap), i + e = D.length → e < m → Low g.length g h → g.length ≤ id → rd h id = some ⟨cellsD (D.take i), true⟩ →
    ∃ v' h', escheatlaw21_To_l0 q m v (.c (.sl id 0 i 256)) (.c (.i .i64 (i : Int))) h = some (v', h') ∧ Out g.length h' v' 256 D.length (cellsD D)
  | e, i, 0, id, h, _, hm, _, _, _ => by omega
  | 0, i, m + 1, id, h, hi, hm, hlow, hid, hr => by
    have e0 : i = D.length := by omega
    have c0 : ¬ (i : Int) < (D.length : Nat) := by omega
    have hl := (hv.since hlow).len
    rw [e0, List.take_length] at hr
    rw [escheatlaw21_To_l0_eq]
    exact ⟨_, _, by simp only [esc, hl, c0] <;> rfl, cellsD_length hD, id, by rw [e0], hid, hr⟩
  | e + 1, i, m + 1, id, h, hi, hm, hlow, hid, hr => by
    have hil : i < D.length := by omega
    have c0 : (i : Int) < (D.length : Nat) := by omega
    have hvh := hv.since hlow
    have hl := hvh.len
    obtain ⟨jd, off, e1, hj, a1, l1⟩ := has_blk hvh hD hil
    have ef := afill_blk (hD.at hil)
    have htl : (D.take i).length = i := by rw [List.length_take]; omega
    obtain ⟨h', p1, p2, p3, p4, p5⟩ := push (ys := encB D[i]) hlow hr (by rw [cellsD_length (hD.take i), htl]) hid (by rw [encB_length, hD.at hil]) (by omega) (by omega)
    have et : cellsD (D.take i) ++ encB D[i] = cellsD (D.take (i + 1)) := by
      rw [List.take_succ_eq_append_getElem hil, cellsD_append, cellsD_one]
    rw [et] at p2
    obtain ⟨v', h'', f1, f2⟩ := to_loop (q := q) hv hD h60 e (i + 1) m (h.length + 1) h' (by omega) (by omega) p3 p4 p2
    refine ⟨v', h'', ?_, f2⟩
    rw [escheatlaw21_To_l0_eq]
    generalize encB D[i] = y at *
    simp only [esc, hl, c0, a1, l1, ef, p1, wi_succ (show i + 1 < 9223372036854775808 by omega)]
    exact f1

theorem to_eq {v : Val} {D : Dev} {h : Heap} (hv : Has h v 256 D.length (cellsD D)) (hD : okD D) (h60 : D.length ≤ 1073741823) : S_escheatlaw21_To [v] h = some (.c (.sl h.length 0 D.length 256), h ++ [some ⟨cellsD D, true⟩]) := by
  have key : ∀ g, Has g v 256 D.length (cellsD D) → ∃ v' g', R_escheatlaw21_To (D.length + 1) [v] g = some (v', g') ∧ Out g.length g' v' 256 D.length (cellsD D) := by
    intro g hv
    obtain ⟨v', h', f1, f2⟩ := to_loop (q := D.length + 1) hv hD h60 D.length 0 (D.length + 1) (g.length + 1) (g ++ [some (Row.mk [] true), some (Row.mk [] true)]) (by omega) (by omega) ((Low.refl (Nat.le_refl _)).new _) (by omega) (by simp [cellsD])
    rw [R_escheatlaw21_To_eq]
    exact ⟨v', h', by simp only [esc]; exact f1, f2⟩
  obtain ⟨v', g', e, ho⟩ := key (ro h) hv.ro
  exact S_escheatlaw21_To_out e (by simpa [ro_length] using ho) flats_cellsD

end Go.Proofs.Ytdgggnlbdoiloaa
end
section
namespace Go.Proofs.Ytdgggnlbdoiloaa
open Go Go.Esc
set_option maxRecDepth 100000
def escheatlaw21_Same_o0 : List AOper := [{ dst := some 4, op := .mv (.v (.c (.b false))) }]
def escheatlaw21_Same_c0 : ACode := .ops escheatlaw21_Same_o0
def escheatlaw21_Same_o1 : List AOper := [{ dst := some 6, op := .mv (.t 0) }, { dst := some 7, op := .len (.t 6) }, { dst := some 8, op := .mv (.t 1) }, { dst := some 9, op := .len (.t 8) }, { dst := some 10, op := .bin .neq (.t 7) (.t 9) }]
def escheatlaw21_Same_c1 : ACode := .ops escheatlaw21_Same_o1
def escheatlaw21_Same_o2 : List AOper := [{ dst := some 4, op := .mv (.v (.c (.b false))) }]
def escheatlaw21_Same_c2 : ACode := .ops escheatlaw21_Same_o2
def escheatlaw21_Same_c3 : ACode := .seq [4] escheatlaw21_Same_c2 .ret
def escheatlaw21_Same_c4 : ACode := .cond (.t 10) escheatlaw21_Same_c3 .skip
def escheatlaw21_Same_c5 : ACode := .seq [0, 1, 10] escheatlaw21_Same_c1 escheatlaw21_Same_c4
def escheatlaw21_Same_o3 : List AOper := [{ dst := some 5, op := .mv (.v (.c (.i .i64 0))) }]
def escheatlaw21_Same_c6 : ACode := .ops escheatlaw21_Same_o3
def escheatlaw21_Same_o4 : List AOper := [{ dst := some 11, op := .mv (.t 5) }, { dst := some 12, op := .mv (.t 1) }, { dst := some 13, op := .len (.t 12) }, { dst := some 14, op := .bin .lss (.t 11) (.t 13) }]
def escheatlaw21_Same_c7 : ACode := .ops escheatlaw21_Same_o4
def escheatlaw21_Same_c8 : ACode := .cond (.t 14) .skip (.exit 0)
def escheatlaw21_Same_c9 : ACode := .seq [0, 1, 5, 14] escheatlaw21_Same_c7 escheatlaw21_Same_c8
def escheatlaw21_Same_o5 : List AOper := [{ dst := some 17, op := .mv (.t 0) }, { dst := some 18, op := .mv (.t 5) }, { dst := some 19, op := .iAddrL 256 (.t 17) (.t 18) }, { dst := some 20, op := .loadN 256 (.t 19) }, { dst := some 21, op := .mv (.t 1) }, { dst := some 22, op := .mv (.t 5) }, { dst := some 23, op := .iAddrL 256 (.t 21) (.t 22) }, { dst := some 24, op := .loadN 256 (.t 23) }]
def escheatlaw21_Same_o6 : List AOper := [{ dst := some 25, op := .eqA true (List.replicate 256 (.i .u8)) (.t 20) (.t 24) }]
def escheatlaw21_Same_c10 : ACode := .draw 0 escheatlaw21_Same_o5 escheatlaw21_Same_o6
def escheatlaw21_Same_o7 : List AOper := [{ dst := some 4, op := .mv (.v (.c (.b false))) }]
def escheatlaw21_Same_c11 : ACode := .ops escheatlaw21_Same_o7
def escheatlaw21_Same_c12 : ACode := .seq [4] escheatlaw21_Same_c11 .ret
def escheatlaw21_Same_c13 : ACode := .cond (.t 25) escheatlaw21_Same_c12 .skip
def escheatlaw21_Same_c14 : ACode := .seq [0, 1, 5, 25] escheatlaw21_Same_c10 escheatlaw21_Same_c13
def escheatlaw21_Same_c15 : ACode := .block 1 escheatlaw21_Same_c14
def escheatlaw21_Same_o8 : List AOper := [{ dst := some 15, op := .mv (.t 5) }, { dst := some 16, op := .bin .add (.t 15) (.v (.c (.i .i64 1))) }, { dst := some 5, op := .mv (.t 16) }]
def escheatlaw21_Same_c16 : ACode := .ops escheatlaw21_Same_o8
def escheatlaw21_Same_c17 : ACode := .seq [0, 1, 5] escheatlaw21_Same_c15 escheatlaw21_Same_c16
def escheatlaw21_Same_c18 : ACode := .seq [0, 1, 5] escheatlaw21_Same_c9 escheatlaw21_Same_c17
def escheatlaw21_Same_c19 : ACode := .loop [0, 1, 5] escheatlaw21_Same_c18
def escheatlaw21_Same_c20 : ACode := .block 0 escheatlaw21_Same_c19
def escheatlaw21_Same_c21 : ACode := .seq [0, 1, 5] escheatlaw21_Same_c6 escheatlaw21_Same_c20
def escheatlaw21_Same_o9 : List AOper := [{ dst := some 4, op := .mv (.v (.c (.b true))) }]
def escheatlaw21_Same_c22 : ACode := .ops escheatlaw21_Same_o9
def escheatlaw21_Same_c23 : ACode := .seq [4] escheatlaw21_Same_c22 .ret
def escheatlaw21_Same_c24 : ACode := .seq [] escheatlaw21_Same_c21 escheatlaw21_Same_c23
def escheatlaw21_Same_c25 : ACode := .seq [0, 1] escheatlaw21_Same_c5 escheatlaw21_Same_c24
def escheatlaw21_Same_c26 : ACode := .seq [0, 1] escheatlaw21_Same_c0 escheatlaw21_Same_c25
def A_escheatlaw21_Same : AFn := ⟨escheatlaw21_Same_c26, [.tmp 4]⟩
noncomputable def E_escheatlaw21_Same : Sums := disp0
noncomputable def escheatlaw21_Same_c0_d (n : Nat) : SmV := smOps E_escheatlaw21_Same escheatlaw21_Same_o0
noncomputable def escheatlaw21_Same_c1_d (n : Nat) : SmV := smOps E_escheatlaw21_Same escheatlaw21_Same_o1
noncomputable def escheatlaw21_Same_c2_d (n : Nat) : SmV := smOps E_escheatlaw21_Same escheatlaw21_Same_o2
noncomputable def escheatlaw21_Same_c3_d (n : Nat) : SmV := smSeq [4] (escheatlaw21_Same_c2_d n) smRet
noncomputable def escheatlaw21_Same_c4_d (n : Nat) : SmV := smCond (.t 10) (escheatlaw21_Same_c3_d n) smSkip
noncomputable def escheatlaw21_Same_c5_d (n : Nat) : SmV := smSeq [0, 1, 10] (escheatlaw21_Same_c1_d n) (escheatlaw21_Same_c4_d n)
noncomputable def escheatlaw21_Same_c6_d (n : Nat) : SmV := smOps E_escheatlaw21_Same escheatlaw21_Same_o3
noncomputable def escheatlaw21_Same_c7_d (n : Nat) : SmV := smOps E_escheatlaw21_Same escheatlaw21_Same_o4
noncomputable def escheatlaw21_Same_c8_d (n : Nat) : SmV := smCond (.t 14) smSkip (smExit 0)
noncomputable def escheatlaw21_Same_c9_d (n : Nat) : SmV := smSeq [0, 1, 5, 14] (escheatlaw21_Same_c7_d n) (escheatlaw21_Same_c8_d n)
noncomputable def escheatlaw21_Same_c10_d (n : Nat) : SmV := smDraw E_escheatlaw21_Same 0 escheatlaw21_Same_o5 escheatlaw21_Same_o6
noncomputable def escheatlaw21_Same_c11_d (n : Nat) : SmV := smOps E_escheatlaw21_Same escheatlaw21_Same_o7
noncomputable def escheatlaw21_Same_c12_d (n : Nat) : SmV := smSeq [4] (escheatlaw21_Same_c11_d n) smRet
noncomputable def escheatlaw21_Same_c13_d (n : Nat) : SmV := smCond (.t 25) (escheatlaw21_Same_c12_d n) smSkip
noncomputable def escheatlaw21_Same_c14_d (n : Nat) : SmV := smSeq [0, 1, 5, 25] (escheatlaw21_Same_c10_d n) (escheatlaw21_Same_c13_d n)
noncomputable def escheatlaw21_Same_c15_d (n : Nat) : SmV := smBlock 1 (escheatlaw21_Same_c14_d n)
noncomputable def escheatlaw21_Same_c16_d (n : Nat) : SmV := smOps E_escheatlaw21_Same escheatlaw21_Same_o8
noncomputable def escheatlaw21_Same_c17_d (n : Nat) : SmV := smSeq [0, 1, 5] (escheatlaw21_Same_c15_d n) (escheatlaw21_Same_c16_d n)
noncomputable def escheatlaw21_Same_c18_d (n : Nat) : SmV := smSeq [0, 1, 5] (escheatlaw21_Same_c9_d n) (escheatlaw21_Same_c17_d n)
noncomputable def escheatlaw21_Same_c19_d (n : Nat) : SmV := smLoop n [0, 1, 5] (escheatlaw21_Same_c18_d n)
noncomputable def escheatlaw21_Same_c20_d (n : Nat) : SmV := smBlock 0 (escheatlaw21_Same_c19_d n)
noncomputable def escheatlaw21_Same_c21_d (n : Nat) : SmV := smSeq [0, 1, 5] (escheatlaw21_Same_c6_d n) (escheatlaw21_Same_c20_d n)
noncomputable def escheatlaw21_Same_c22_d (n : Nat) : SmV := smOps E_escheatlaw21_Same escheatlaw21_Same_o9
noncomputable def escheatlaw21_Same_c23_d (n : Nat) : SmV := smSeq [4] (escheatlaw21_Same_c22_d n) smRet
noncomputable def escheatlaw21_Same_c24_d (n : Nat) : SmV := smSeq [] (escheatlaw21_Same_c21_d n) (escheatlaw21_Same_c23_d n)
noncomputable def escheatlaw21_Same_c25_d (n : Nat) : SmV := smSeq [0, 1] (escheatlaw21_Same_c5_d n) (escheatlaw21_Same_c24_d n)
noncomputable def escheatlaw21_Same_c26_d (n : Nat) : SmV := smSeq [0, 1] (escheatlaw21_Same_c0_d n) (escheatlaw21_Same_c25_d n)
noncomputable def escheatlaw21_Same_k0 (n : Nat) : AExit → Env → Heap → OptV := fun x e h => match x with | .normal => hold ((escheatlaw21_Same_c23_d n) A_escheatlaw21_Same.fin (e.keep []) h) | .exit id => A_escheatlaw21_Same.fin (.exit id) e h | .ret => A_escheatlaw21_Same.fin .ret e h
noncomputable def escheatlaw21_Same_k1 (n : Nat) : AExit → Env → Heap → OptV := fun x e h => match x with | .exit i => bif Nat.beq i 0 then (escheatlaw21_Same_k0 n) .normal e h else (escheatlaw21_Same_k0 n) (.exit i) e h | .normal => (escheatlaw21_Same_k0 n) .normal e h | .ret => (escheatlaw21_Same_k0 n) .ret e h
noncomputable def escheatlaw21_Same_l0 (n m : Nat) (x0 x1 x5 : Val) (h : Heap) : OptV := around (escheatlaw21_Same_c18_d n) [0, 1, 5] (escheatlaw21_Same_k1 n) m [(0, x0), (1, x1), (5, x5)] h
noncomputable def R_escheatlaw21_Same (n : Nat) (args : List Val) (h : Heap) : OptV := (escheatlaw21_Same_c26_d n) A_escheatlaw21_Same.fin (params 0 args) h
theorem R_escheatlaw21_Same_eq (n : Nat) (a0 a1 : Val) (h : Heap) : R_escheatlaw21_Same n [a0, a1] h = bnd (alen a0) fun v1 => bnd (alen a1) fun v2 => bnd (abin .neq v1 v2) fun v3 => cnd v3 (some ((.c (.b false)), h)) (escheatlaw21_Same_l0 n n a0 a1 (.c (.i .i64 0)) h) := by kernel_rfl
theorem escheatlaw21_Same_l0_eq (n m : Nat) (x0 x1 x5 : Val) (h : Heap) : escheatlaw21_Same_l0 n (m + 1) x0 x1 x5 h = bnd (alen x1) fun v4 => bnd (abin .lss x5 v4) fun v5 => cnd v5 (bnd (aiAddrL 256 x0 x5) fun v6 => bnd (aloadN h 256 v6) fun v7 => bnd (aiAddrL 256 x1 x5) fun v8 => bnd (aloadN h 256 v8) fun v9 => bnd (aeq true (List.replicate 256 (.i .u8)) v7 v9) fun v10 => cnd v10 (some ((.c (.b false)), (h ++ []))) (bnd (abin .add x5 (.c (.i .i64 1))) fun v11 => escheatlaw21_Same_l0 n m x0 x1 v11 ((h ++ [])))) (some ((.c (.b true)), h)) := by kernel_rfl
theorem K_escheatlaw21_Same : FnK Try.prog 36 A_escheatlaw21_Same E_escheatlaw21_Same R_escheatlaw21_Same := .mk' (sound0) Try.func36 (by kernel_rfl) (by intro n args h; kernel_rfl)
noncomputable def S_escheatlaw21_Same : Fun := tidy (Lim A_escheatlaw21_Same E_escheatlaw21_Same)
theorem S_escheatlaw21_Same_ok : SOk Try.prog 36 S_escheatlaw21_Same := K_escheatlaw21_Same.sok
theorem S_escheatlaw21_Same_flat {n : Nat} {args : List Val} {h h2 : Heap} {v : Val} (he : R_escheatlaw21_Same n args (ro h) = some (v, h2)) (hf : v.flat = true) : S_escheatlaw21_Same args h = some (v, h) := K_escheatlaw21_Same.flat he hf
end Go.Proofs.Ytdgggnlbdoiloaa
end
section
namespace Go.Proofs.Ytdgggnlbdoiloaa
open Go Go.Esc

theorem same_loop {v u : Val} {D : Dev} {q : Nat} {h : Heap} (hD : okD D) (h60 : D.length ≤ 1073741823) (hv : Has h v 256 D.length (cellsD D)) (hu : Has h u 256 D.length (cellsD D)) : ∀ (e i m : Nat), i + e = D.length → e < m →
    escheatlaw21_Same_l0 q m v u (.c (.i .i64 (i : Int))) h = some (.c (.b true), h)
  | e, i, 0, _, hm => by omega
  | 0, i, m + 1, hi, hm => by
    have c0 : ¬ (i : Int) < (D.length : Nat) := by omega
    rw [escheatlaw21_Same_l0_eq]
    simp only [esc, hu.len, c0]
  | e + 1, i, m + 1, hi, hm => by
    have hil : i < D.length := by omega
    have c0 : (i : Int) < (D.length : Nat) := by omega
    have ih := same_loop (q := q) hD h60 hv hu e (i + 1) m (by omega) (by omega)
    have hl := hu.len
    obtain ⟨id, off, e1, _, a1, l1⟩ := has_blk hv hD hil
    obtain ⟨id', off', e1', _, a1', l1'⟩ := has_blk hu hD hil
    have q1 := aeq_t (l := D[i]) (m := D[i]) (n := 256) (hD.at hil) (hD.at hil)
    rw [decide_eq_true rfl] at q1
    rw [escheatlaw21_Same_l0_eq]
    generalize encB D[i] = y at *
    generalize List.replicate 256 (Sh.i .u8) = z at *
    simp only [esc, hl, c0, a1, l1, a1', l1', q1, wi_succ (show i + 1 < 9223372036854775808 by omega)]
    exact ih

theorem same_eq {v u : Val} {D : Dev} {h : Heap} (hD : okD D) (h60 : D.length ≤ 1073741823) (hv : Has h v 256 D.length (cellsD D)) (hu : Has h u 256 D.length (cellsD D)) : S_escheatlaw21_Same [v, u] h = some (.c (.b true), h) := by
  refine S_escheatlaw21_Same_flat (n := D.length + 1) (h2 := ro h) ?_ rfl
  have hL := same_loop (q := D.length + 1) hD h60 hv.ro hu.ro D.length 0 (D.length + 1) (by omega) (by omega)
  rw [R_escheatlaw21_Same_eq]
  simp only [esc, hv.len, hu.len, eq_self]
  exact hL

theorem aeq_layC {b n m : Int} : aeq false [Sh.i .i64, .i .i64, .i .u64] (.a (layC b n m)) (.a (layC b n m)) = some (.c (.b true)) := by
  simp only [aeq]
  rw [if_pos ⟨rfl, rfl⟩]; simp
theorem aeqt_layC {b n m : Int} : aeq true [Sh.i .i64, .i .i64, .i .u64] (.a (layC b n m)) (.a (layC b n m)) = some (.c (.b false)) := by
  simp only [aeq]
  rw [if_pos ⟨rfl, rfl⟩]; simp
theorem aeqt_inoV {D : Dev} {n i : Int} : aeq true [Sh.i .i64, .i .i64, .i .i64, .i .i64, .i .i64, .i .i64, .i .i64, .i .i64, .i .i64, .i .i64, .i .i64] (.a (inoV D n i)) (.a (inoV D n i)) = some (.c (.b false)) := by
  obtain ⟨l, s, p, d, e, hd⟩ := inoV_form D n i
  have := aeqI_t (l := kdV D n i :: l :: s :: p :: d) (m := kdV D n i :: l :: s :: p :: d) (n := 11) (by simp [hd]) (by simp [hd])
  rw [decide_eq_true rfl] at this
  rw [e]
  exact this
theorem devL_may {D : Dev} (h : devL D = true) : mayL D.length (devN D) = true := by
  unfold devL at h
  rw [Bool.and_eq_true] at h
  have h1 := h.1
  unfold okS at h1
  rw [Bool.and_eq_true, of_decide_eq_true h.2] at h1
  exact h1.1

end Go.Proofs.Ytdgggnlbdoiloaa
end
section
namespace Go.Proofs.Ytdgggnlbdoiloaa
open Go Go.Esc

theorem ref14_Put_eq {b n m : Int} {h : Heap} (hm0 : 0 ≤ m) (hm1 : m < 18446744073709551616) : S_escheatref14_Put [.a (layC b n m)] h = some (.c (.sl h.length 0 256 1), h ++ [some ⟨encB (supB b n m), true⟩]) := by
  have key : ∀ g, ∃ v g', R_escheatref14_Put 0 [.a (layC b n m)] g = some (v, g') ∧ Out g.length g' v 1 256 (encB (supB b n m)) := by
    intro g
    have e7 : afill [Cell.i .u8 0, .i .u8 0, .i .u8 0, .i .u8 0, .i .u8 0, .i .u8 0, .i .u8 0, .i .u8 0] [(0, 1, .c (.i .u8 101)), (1, 1, .c (.i .u8 115)), (2, 1, .c (.i .u8 99)), (3, 1, .c (.i .u8 104)), (4, 1, .c (.i .u8 101)), (5, 1, .c (.i .u8 97)), (6, 1, .c (.i .u8 116)), (7, 1, .c (.i .u8 49))] = some (encB magicB) := rfl
    have lm : magicB.length = 8 := rfl
    obtain ⟨c0, hc0⟩ : ∃ c0 : Option Row, c0 = some ⟨layC b n m, true⟩ := ⟨_, rfl⟩
    have hmk := amark_of (h := g ++ [some ⟨layC b n m, true⟩, some ⟨[], true⟩, some ⟨encB magicB, true⟩]) (id := g.length + 2) (off := 0) (len := 8) (sz := 1) (cs := encB magicB) (by simp) (by omega)
    have b1 := fun h => bytes_conv (w := 2) (v := b) (h := h) (by omega)
    have b2 := fun h => bytes_conv (w := 2) (v := n) (h := h) (by omega)
    have b3 := fun h => ref01_Bytes_eq (w := 8) (v := m) (h := h) (by omega) hm0 hm1
    have hmlt := mixH_lt (s := supH b n m)
    have b4 := fun h => ref01_Bytes_eq (w := 4) (v := (mixH (supH b n m) : Nat)) (h := h) (by omega) (by omega) (by omega)
    have p1 := app_of (h := g ++ [some ⟨layC b n m, true⟩, some ⟨[], true⟩, some ⟨encB magicB, true⟩, some ⟨encB (bytesI 2 b), true⟩]) (id := g.length + 2) (jd := g.length + 3) (n := 8) (m := 2) (sz := 1) (cs := encB magicB) (ys := encB (bytesI 2 b)) (rw := true) (by simp) (by simp [encB_length, lm]) (by simp) (by simp [encB_length]) rfl (by omega) (by omega)
    have p2 := app_of (h := g ++ [some ⟨layC b n m, true⟩, some ⟨[], true⟩, none, some ⟨encB (bytesI 2 b), true⟩, some ⟨encB magicB ++ encB (bytesI 2 b), true⟩, some ⟨encB (bytesI 2 n), true⟩]) (id := g.length + 4) (jd := g.length + 5) (n := 10) (m := 2) (sz := 1) (cs := encB magicB ++ encB (bytesI 2 b)) (ys := encB (bytesI 2 n)) (rw := true) (by simp) (by simp [encB_length, lm]) (by simp) (by simp [encB_length]) rfl (by omega) (by omega)
    have p3 := app_of (h := g ++ [some ⟨layC b n m, true⟩, some ⟨[], true⟩, none, some ⟨encB (bytesI 2 b), true⟩, none, some ⟨encB (bytesI 2 n), true⟩, some ⟨encB magicB ++ encB (bytesI 2 b) ++ encB (bytesI 2 n), true⟩, some ⟨encB (bytesI 8 m), true⟩]) (id := g.length + 6) (jd := g.length + 7) (n := 12) (m := 8) (sz := 1) (cs := encB magicB ++ encB (bytesI 2 b) ++ encB (bytesI 2 n)) (ys := encB (bytesI 8 m)) (rw := true) (by simp) (by simp [encB_length, lm]) (by simp) (by simp [encB_length]) rfl (by omega) (by omega)
    have eS : encB magicB ++ encB (bytesI 2 b) ++ encB (bytesI 2 n) ++ encB (bytesI 8 m) = encB (supH b n m) := by unfold supH; simp only [encB_append]
    rw [eS] at p3
    have hstr := (Has.tr (h := g ++ [some ⟨layC b n m, true⟩, some ⟨[], true⟩, none, some ⟨encB (bytesI 2 b), true⟩, none, some ⟨encB (bytesI 2 n), true⟩, none, some ⟨encB (bytesI 8 m), true⟩, some ⟨encB (supH b n m), true⟩]) (id := g.length + 8) (sz := 1) (n := 20) (cs := encB (supH b n m)) (by simp) (by rw [encB_length, supH_length]) (noX_encB _)).str
    have hmx := fun h => ref02_Of_eq (s := supH b n m) (h := h) (by rw [supH_length]; omega)
    have p4 := app_of (h := g ++ [some ⟨layC b n m, true⟩, some ⟨[], true⟩, none, some ⟨encB (bytesI 2 b), true⟩, none, some ⟨encB (bytesI 2 n), true⟩, none, some ⟨encB (bytesI 8 m), true⟩, some ⟨encB (supH b n m), true⟩, some ⟨encB (bytesI 4 (mixH (supH b n m) : Nat)), true⟩]) (id := g.length + 8) (jd := g.length + 9) (n := 20) (m := 4) (sz := 1) (cs := encB (supH b n m)) (ys := encB (bytesI 4 (mixH (supH b n m) : Nat))) (rw := true) (by simp) (by rw [encB_length, supH_length]) (by simp) (by simp [encB_length]) rfl (by omega) (by omega)
    rw [← encB_append] at p4
    have mk : amkn (.c (.i .i64 256)) (.c (.i .i64 256)) = some 256 := rfl
    have rz := rows_zero 256
    have l24 : (supH b n m ++ bytesI 4 (mixH (supH b n m) : Nat)).length = 24 := by rw [List.length_append, supH_length, bytesI_length]
    have hL := ref01_Lay_eq (h := g ++ [some ⟨layC b n m, true⟩, some ⟨[], true⟩, none, some ⟨encB (bytesI 2 b), true⟩, none, some ⟨encB (bytesI 2 n), true⟩, none, some ⟨encB (bytesI 8 m), true⟩, none, some ⟨encB (bytesI 4 (mixH (supH b n m) : Nat)), true⟩, some ⟨encB (supH b n m ++ bytesI 4 (mixH (supH b n m) : Nat)), true⟩, some ⟨encB (zeros 256), true⟩]) (v := .c (.sl (g.length + 11) 0 256 1)) (nv := 256) (l := zeros 256) (u := .c (.sl (g.length + 10) 0 24 1)) (nu := 24) (data := supH b n m ++ bytesI 4 (mixH (supH b n m) : Nat)) (Has.tr (by simp) (by rw [encB_length]; exact zeros_length) (noX_encB _)) (Has.tr (by simp) (by rw [encB_length, l24]) (noX_encB _)) (a := 0) (by omega) (by rw [zeros_length]; omega)
    have eL : layR (zeros 256) 0 (supH b n m ++ bytesI 4 (mixH (supH b n m) : Nat)) = supB b n m := by
      have h1 := layR_layB (l := zeros 256) (xs := supH b n m ++ bytesI 4 (mixH (supH b n m) : Nat)) (a := 0) (by rw [l24, zeros_length]; omega)
      have h2 := padB_lay (l := []) (xs := supH b n m ++ bytesI 4 (mixH (supH b n m) : Nat)) (a := 0) (by simp) (by rw [l24]; omega)
      rw [show ((0 : Nat) : Int) = 0 from rfl] at h1
      rw [h1, ← padB_nil, h2, List.length_nil, Nat.sub_self, show zeros 0 = [] from rfl, List.append_nil, List.nil_append, supB]
    have zl : (zeros 256).length = 256 := zeros_length
    rw [eL, zl] at hL
    simp only [esc, Int.cast_ofNat_Int] at p1 p2 p3 p4 hL b1 b2 b3 b4
    rw [R_escheatref14_Put_eq]
    generalize zeros 256 = z at *
    exact ⟨_, _, by simp only [esc, esh, Nat.reduceAdd, Nat.reduceMul, Nat.reduceLT, e7, hmk, b1, p1, b2, p2, b3, p3, hstr, hmx, b4, p4, mk, rz, hL] <;> rfl, by rw [encB_length, supB_length], _, rfl, by omega, by simp⟩
  obtain ⟨v, g', e, ho⟩ := key (ro h)
  exact S_escheatref14_Put_out e (by simpa [ro_length] using ho) (by simp)


end Go.Proofs.Ytdgggnlbdoiloaa
end
section
namespace Go.Proofs.Ytdgggnlbdoiloaa
open Go Go.Esc

theorem ref14_Get_eq {v : Val} {nv : Nat} {b : List UInt8} {h : Heap} (hv : Has h v 1 nv (encB b)) (hb : b.length = 256) : S_escheatref14_Get [v] h = some (.t [.a (layS b), .c (.b (okS b))], h) := by
  have key : ∀ g, Has g v 1 nv (encB b) → ∃ g', R_escheatref14_Get 0 [v] g = some (.t [.a (layS b), .c (.b (okS b))], g') := by
    intro g hv
    have hv1 := hv.more [some ⟨layC 0 0 0, true⟩]
    have hg := ref01_Get_eq hv1 (a := 12) (w := 8) (by omega)
    have gN : getN b 12 8 = some (le ((b.drop 12).take 8)) := by
      unfold getN
      rw [hb, if_pos ⟨by omega, by decide⟩]; rfl
    rw [gN] at hg
    simp only [Option.getD_some, Option.isSome_some] at hg
    have e12 : ((le ((b.drop 12).take 8) : Nat) : Int) = fieldN b 12 8 := rfl
    rw [e12] at hg
    have a1 := ref01_At_eq hv1 (a := 8) (w := 2) hb
    have a2 := ref01_At_eq hv1 (a := 10) (w := 2) hb
    have f1 := at_field (a := 8) (w := 2) hb (by omega) (by omega) (by omega)
    have f2 := at_field (a := 10) (w := 2) hb (by omega) (by omega) (by omega)
    simp only [Int.cast_ofNat_Int] at f1 f2
    rw [f1] at a1
    rw [f2] at a2
    have ef : ∀ x y z : Int, afill (layC 0 0 0) [(0, 1, .c (.i .i64 x)), (1, 1, .c (.i .i64 y)), (2, 1, .c (.i .u64 z))] = some (layC x y z) := fun _ _ _ => rfl
    have ef0 : afill (layC 0 0 0) [] = some (layC 0 0 0) := rfl
    have hm := fun h => ref14_May_eq (b := fieldN b 8 2) (n := fieldN b 10 2) (m := fieldN b 12 8) (h := h)
    have hp := fun h => ref14_Put_eq (b := fieldN b 8 2) (n := fieldN b 10 2) (m := fieldN b 12 8) (h := h) (field8_range b).1 (field8_range b).2
    have hS := ref01_Same_eq (h := g ++ [some ⟨layC 0 0 0, true⟩, some ⟨layC (fieldN b 8 2) (fieldN b 10 2) (fieldN b 12 8), true⟩, some ⟨encB (supB (fieldN b 8 2) (fieldN b 10 2) (fieldN b 12 8)), true⟩]) (v := .c (.sl (g.length + 2) 0 256 1)) (nv := 256) (u := v) (nu := nv) (l := supB (fieldN b 8 2) (fieldN b 10 2) (fieldN b 12 8)) (r := b)
      (Has.tr (by simp) (by rw [encB_length, supB_length]) (noX_encB _)) (hv.more _) (by rw [supB_length]; omega)
    rw [R_escheatref14_Get_eq]
    unfold layS okS
    cases c : mayL (fieldN b 8 2) (fieldN b 10 2) with
    | false =>
      simp only [c] at hm
      exact ⟨_, by simp only [esc, esh, Nat.reduceAdd, Nat.reduceMul, Nat.reduceLT, hg, a1, a2, ef, ef0, hm, Bool.false_and] <;> rfl⟩
    | true =>
      simp only [c] at hm
      cases c2 : decide (supB (fieldN b 8 2) (fieldN b 10 2) (fieldN b 12 8) = b) with
      | false =>
        rw [c2] at hS
        exact ⟨_, by simp only [esc, esh, Nat.reduceAdd, Nat.reduceMul, Nat.reduceLT, hg, a1, a2, ef, ef0, hm, hp, hS, Bool.and_false] <;> rfl⟩
      | true =>
        rw [c2] at hS
        exact ⟨_, by simp only [esc, esh, Nat.reduceAdd, Nat.reduceMul, Nat.reduceLT, hg, a1, a2, ef, ef0, hm, hp, hS, Bool.and_true] <;> rfl⟩
  obtain ⟨g', e⟩ := key (ro h) hv.ro
  refine S_escheatref14_Get_flat e ?_
  unfold layS
  cases okS b <;> simp

end Go.Proofs.Ytdgggnlbdoiloaa
end
section
namespace Go.Proofs.Ytdgggnlbdoiloaa
open Go Go.Esc
set_option maxRecDepth 100000
def escheatref16_Get_o0 : List AOper := [{ dst := some 2, op := .alloc ([.i .i64 0, .i .i64 0, .i .i64 0, .i .i64 0, .i .i64 0, .i .i64 0, .i .i64 0, .i .i64 0, .i .i64 0, .i .i64 0, .i .i64 0]) }]
def escheatref16_Get_c0 : ACode := .ops escheatref16_Get_o0
def escheatref16_Get_o1 : List AOper := [{ dst := some 5, op := .mv (.t 0) }, { dst := some 6, op := .call 111 [(.t 5), (.v (.c (.i .i64 0))), (.v (.c (.i .i64 1)))] }, { dst := some 7, op := .mv (.t 0) }, { dst := some 8, op := .call 111 [(.t 7), (.v (.c (.i .i64 2))), (.v (.c (.i .i64 2)))] }, { dst := some 9, op := .mv (.t 0) }, { dst := some 10, op := .call 111 [(.t 9), (.v (.c (.i .i64 4))), (.v (.c (.i .i64 4)))] }, { dst := some 11, op := .mv (.t 0) }, { dst := some 12, op := .call 111 [(.t 11), (.v (.c (.i .i64 8))), (.v (.c (.i .i64 2)))] }, { dst := some 13, op := .build ([.i .i64 0, .i .i64 0, .i .i64 0, .i .i64 0, .i .i64 0, .i .i64 0, .i .i64 0, .i .i64 0, .i .i64 0, .i .i64 0, .i .i64 0]) [(0, 1, (.t 6)), (1, 1, (.t 8)), (2, 1, (.t 10)), (3, 1, (.t 12))] }, { dst := some 3, op := .alloc ([.i .i64 0, .i .i64 0, .i .i64 0, .i .i64 0, .i .i64 0, .i .i64 0, .i .i64 0, .i .i64 0, .i .i64 0, .i .i64 0, .i .i64 0]) }, { dst := none, op := .storeN 11 (.t 3) (.t 13) }]
def escheatref16_Get_c1 : ACode := .ops escheatref16_Get_o1
def escheatref16_Get_o2 : List AOper := [{ dst := some 4, op := .mv (.v (.c (.i .i64 0))) }]
def escheatref16_Get_c2 : ACode := .ops escheatref16_Get_o2
def escheatref16_Get_o3 : List AOper := [{ dst := some 14, op := .mv (.t 4) }, { dst := some 15, op := .bin .lss (.t 14) (.v (.c (.i .i64 6))) }]
def escheatref16_Get_c3 : ACode := .ops escheatref16_Get_o3
def escheatref16_Get_c4 : ACode := .cond (.t 15) .skip (.exit 0)
def escheatref16_Get_c5 : ACode := .seq [0, 2, 3, 4, 15] escheatref16_Get_c3 escheatref16_Get_c4
def escheatref16_Get_o4 : List AOper := [{ dst := some 18, op := .mv (.t 4) }, { dst := some 19, op := .mv (.t 0) }, { dst := some 20, op := .mv (.t 4) }, { dst := some 21, op := .bin .mul (.v (.c (.i .i64 2))) (.t 20) }, { dst := some 22, op := .bin .add (.v (.c (.i .i64 10))) (.t 21) }, { dst := some 23, op := .call 111 [(.t 19), (.t 22), (.v (.c (.i .i64 2)))] }, { dst := some 24, op := .fAddr (.t 3) 4 }, { dst := some 25, op := .iAddrA 6 1 (.t 24) (.t 18) }, { dst := none, op := .store1 (.t 25) (.t 23) }]
def escheatref16_Get_c6 : ACode := .ops escheatref16_Get_o4
def escheatref16_Get_c7 : ACode := .block 1 escheatref16_Get_c6
def escheatref16_Get_o5 : List AOper := [{ dst := some 16, op := .mv (.t 4) }, { dst := some 17, op := .bin .add (.t 16) (.v (.c (.i .i64 1))) }, { dst := some 4, op := .mv (.t 17) }]
def escheatref16_Get_c8 : ACode := .ops escheatref16_Get_o5
def escheatref16_Get_c9 : ACode := .seq [0, 2, 3, 4] escheatref16_Get_c7 escheatref16_Get_c8
def escheatref16_Get_c10 : ACode := .seq [0, 2, 3, 4] escheatref16_Get_c5 escheatref16_Get_c9
def escheatref16_Get_c11 : ACode := .loop [0, 2, 3, 4] escheatref16_Get_c10
def escheatref16_Get_c12 : ACode := .block 0 escheatref16_Get_c11
def escheatref16_Get_c13 : ACode := .seq [0, 2, 3, 4] escheatref16_Get_c2 escheatref16_Get_c12
def escheatref16_Get_o6 : List AOper := [{ dst := some 26, op := .mv (.t 0) }, { dst := some 27, op := .call 111 [(.t 26), (.v (.c (.i .i64 22))), (.v (.c (.i .i64 2)))] }, { dst := some 28, op := .fAddr (.t 3) 10 }, { dst := none, op := .store1 (.t 28) (.t 27) }]
def escheatref16_Get_c14 : ACode := .ops escheatref16_Get_o6
def escheatref16_Get_o7 : List AOper := [{ dst := some 29, op := .loadN 11 (.t 3) }, { dst := none, op := .storeN 11 (.t 2) (.t 29) }]
def escheatref16_Get_c15 : ACode := .ops escheatref16_Get_o7
def escheatref16_Get_c16 : ACode := .seq [2] escheatref16_Get_c15 .ret
def escheatref16_Get_c17 : ACode := .seq [2, 3] escheatref16_Get_c14 escheatref16_Get_c16
def escheatref16_Get_c18 : ACode := .seq [0, 2, 3] escheatref16_Get_c13 escheatref16_Get_c17
def escheatref16_Get_c19 : ACode := .seq [0, 2, 3] escheatref16_Get_c1 escheatref16_Get_c18
def escheatref16_Get_c20 : ACode := .seq [0, 2] escheatref16_Get_c0 escheatref16_Get_c19
def A_escheatref16_Get : AFn := ⟨escheatref16_Get_c20, [.cellN 2 11]⟩
noncomputable def E_escheatref16_Get : Sums := disp 111 S_escheatref01_At disp0
noncomputable def escheatref16_Get_c0_d (n : Nat) : SmV := smOps E_escheatref16_Get escheatref16_Get_o0
noncomputable def escheatref16_Get_c1_d (n : Nat) : SmV := smOps E_escheatref16_Get escheatref16_Get_o1
noncomputable def escheatref16_Get_c2_d (n : Nat) : SmV := smOps E_escheatref16_Get escheatref16_Get_o2
noncomputable def escheatref16_Get_c3_d (n : Nat) : SmV := smOps E_escheatref16_Get escheatref16_Get_o3
noncomputable def escheatref16_Get_c4_d (n : Nat) : SmV := smCond (.t 15) smSkip (smExit 0)
noncomputable def escheatref16_Get_c5_d (n : Nat) : SmV := smSeq [0, 2, 3, 4, 15] (escheatref16_Get_c3_d n) (escheatref16_Get_c4_d n)
noncomputable def escheatref16_Get_c6_d (n : Nat) : SmV := smOps E_escheatref16_Get escheatref16_Get_o4
noncomputable def escheatref16_Get_c7_d (n : Nat) : SmV := smBlock 1 (escheatref16_Get_c6_d n)
noncomputable def escheatref16_Get_c8_d (n : Nat) : SmV := smOps E_escheatref16_Get escheatref16_Get_o5
noncomputable def escheatref16_Get_c9_d (n : Nat) : SmV := smSeq [0, 2, 3, 4] (escheatref16_Get_c7_d n) (escheatref16_Get_c8_d n)
noncomputable def escheatref16_Get_c10_d (n : Nat) : SmV := smSeq [0, 2, 3, 4] (escheatref16_Get_c5_d n) (escheatref16_Get_c9_d n)
noncomputable def escheatref16_Get_c11_d (n : Nat) : SmV := smLoop n [0, 2, 3, 4] (escheatref16_Get_c10_d n)
noncomputable def escheatref16_Get_c12_d (n : Nat) : SmV := smBlock 0 (escheatref16_Get_c11_d n)
noncomputable def escheatref16_Get_c13_d (n : Nat) : SmV := smSeq [0, 2, 3, 4] (escheatref16_Get_c2_d n) (escheatref16_Get_c12_d n)
noncomputable def escheatref16_Get_c14_d (n : Nat) : SmV := smOps E_escheatref16_Get escheatref16_Get_o6
noncomputable def escheatref16_Get_c15_d (n : Nat) : SmV := smOps E_escheatref16_Get escheatref16_Get_o7
noncomputable def escheatref16_Get_c16_d (n : Nat) : SmV := smSeq [2] (escheatref16_Get_c15_d n) smRet
noncomputable def escheatref16_Get_c17_d (n : Nat) : SmV := smSeq [2, 3] (escheatref16_Get_c14_d n) (escheatref16_Get_c16_d n)
noncomputable def escheatref16_Get_c18_d (n : Nat) : SmV := smSeq [0, 2, 3] (escheatref16_Get_c13_d n) (escheatref16_Get_c17_d n)
noncomputable def escheatref16_Get_c19_d (n : Nat) : SmV := smSeq [0, 2, 3] (escheatref16_Get_c1_d n) (escheatref16_Get_c18_d n)
noncomputable def escheatref16_Get_c20_d (n : Nat) : SmV := smSeq [0, 2] (escheatref16_Get_c0_d n) (escheatref16_Get_c19_d n)
noncomputable def escheatref16_Get_k0 (n : Nat) : AExit → Env → Heap → OptV := fun x e h => match x with | .normal => hold ((escheatref16_Get_c17_d n) A_escheatref16_Get.fin (e.keep [0, 2, 3]) h) | .exit id => A_escheatref16_Get.fin (.exit id) e h | .ret => A_escheatref16_Get.fin .ret e h
noncomputable def escheatref16_Get_k1 (n : Nat) : AExit → Env → Heap → OptV := fun x e h => match x with | .exit i => bif Nat.beq i 0 then (escheatref16_Get_k0 n) .normal e h else (escheatref16_Get_k0 n) (.exit i) e h | .normal => (escheatref16_Get_k0 n) .normal e h | .ret => (escheatref16_Get_k0 n) .ret e h
noncomputable def escheatref16_Get_l0 (n m : Nat) (x0 x2 x3 x4 : Val) (h : Heap) : OptV := around (escheatref16_Get_c10_d n) [0, 2, 3, 4] (escheatref16_Get_k1 n) m [(0, x0), (2, x2), (3, x3), (4, x4)] h
noncomputable def R_escheatref16_Get (n : Nat) (args : List Val) (h : Heap) : OptV := (escheatref16_Get_c20_d n) A_escheatref16_Get.fin (params 0 args) h
theorem R_escheatref16_Get_eq (n : Nat) (a0 : Val) (h : Heap) : R_escheatref16_Get n [a0] h = bnd (S_escheatref01_At [a0, .c (.i .i64 0), .c (.i .i64 1)] ((h ++ [some (Row.mk ([.i .i64 0, .i .i64 0, .i .i64 0, .i .i64 0, .i .i64 0, .i .i64 0, .i .i64 0, .i .i64 0, .i .i64 0, .i .i64 0, .i .i64 0]) true)]))) fun p1 => bnd (S_escheatref01_At [a0, .c (.i .i64 2), .c (.i .i64 2)] p1.2) fun p2 => bnd (S_escheatref01_At [a0, .c (.i .i64 4), .c (.i .i64 4)] p2.2) fun p3 => bnd (S_escheatref01_At [a0, .c (.i .i64 8), .c (.i .i64 2)] p3.2) fun p4 => bnd (afill ([.i .i64 0, .i .i64 0, .i .i64 0, .i .i64 0, .i .i64 0, .i .i64 0, .i .i64 0, .i .i64 0, .i .i64 0, .i .i64 0, .i .i64 0]) [(0, 1, p1.1), (1, 1, p2.1), (2, 1, p3.1), (3, 1, p4.1)]) fun c5 => bnd (astoreN ((p4.2 ++ [some (Row.mk ([.i .i64 0, .i .i64 0, .i .i64 0, .i .i64 0, .i .i64 0, .i .i64 0, .i .i64 0, .i .i64 0, .i .i64 0, .i .i64 0, .i .i64 0]) true)])) 11 ((.c (.p p4.2.length 0))) ((.a c5))) fun h6 => escheatref16_Get_l0 n n a0 ((.c (.p h.length 0))) ((.c (.p p4.2.length 0))) (.c (.i .i64 0)) h6 := by kernel_rfl
theorem escheatref16_Get_l0_eq (n m : Nat) (x0 x2 x3 x4 : Val) (h : Heap) : escheatref16_Get_l0 n (m + 1) x0 x2 x3 x4 h = bnd (abin .lss x4 (.c (.i .i64 6))) fun v7 => cnd v7 (bnd (abin .mul (.c (.i .i64 2)) x4) fun v8 => bnd (abin .add (.c (.i .i64 10)) v8) fun v9 => bnd (S_escheatref01_At [x0, v9, .c (.i .i64 2)] h) fun p10 => bnd (afAddr x3 4) fun v11 => bnd (aiAddrA 6 1 v11 x4) fun v12 => bnd (astore1 p10.2 v12 p10.1) fun h13 => bnd (abin .add x4 (.c (.i .i64 1))) fun v14 => escheatref16_Get_l0 n m x0 x2 x3 v14 h13) (bnd (S_escheatref01_At [x0, .c (.i .i64 22), .c (.i .i64 2)] h) fun p15 => bnd (afAddr x3 10) fun v16 => bnd (astore1 p15.2 v16 p15.1) fun h17 => bnd (aloadN h17 11 x3) fun v18 => bnd (astoreN h17 11 x2 v18) fun h19 => mp (aloadN h19 11 x2) fun v => (v, h19)) := by kernel_rfl
theorem K_escheatref16_Get : FnK Try.prog 141 A_escheatref16_Get E_escheatref16_Get R_escheatref16_Get := .mk' (sound1 S_escheatref01_At_ok sound0) Try.func141 (by kernel_rfl) (by intro n args h; kernel_rfl)
noncomputable def S_escheatref16_Get : Fun := tidy (Lim A_escheatref16_Get E_escheatref16_Get)
theorem S_escheatref16_Get_ok : SOk Try.prog 141 S_escheatref16_Get := K_escheatref16_Get.sok
theorem S_escheatref16_Get_flat {n : Nat} {args : List Val} {h h2 : Heap} {v : Val} (he : R_escheatref16_Get n args (ro h) = some (v, h2)) (hf : v.flat = true) : S_escheatref16_Get args h = some (v, h) := K_escheatref16_Get.flat he hf
def escheatref16_In_o0 : List AOper := [{ dst := some 4, op := .mv (.v (.c (.b false))) }]
def escheatref16_In_c0 : ACode := .ops escheatref16_In_o0
def escheatref16_In_o1 : List AOper := [{ dst := some 5, op := .mv (.t 0) }, { dst := some 6, op := .bin .geq (.t 5) (.v (.c (.i .i64 0))) }, { dst := some 7, op := .mv (.t 6) }, { dst := some 8, op := .mv (.t 0), guard := some (7, true) }, { dst := some 9, op := .mv (.t 1), guard := some (7, true) }, { dst := some 10, op := .bin .leq (.t 8) (.t 9), guard := some (7, true) }, { dst := some 11, op := .pick (.t 7) (.t 10) (.v (.c (.b false))) }, { dst := some 4, op := .mv (.t 11) }]
def escheatref16_In_c1 : ACode := .ops escheatref16_In_o1
def escheatref16_In_c2 : ACode := .seq [4] escheatref16_In_c1 .ret
def escheatref16_In_c3 : ACode := .seq [0, 1] escheatref16_In_c0 escheatref16_In_c2
def A_escheatref16_In : AFn := ⟨escheatref16_In_c3, [.tmp 4]⟩
noncomputable def E_escheatref16_In : Sums := disp0
noncomputable def escheatref16_In_c0_d (n : Nat) : SmV := smOps E_escheatref16_In escheatref16_In_o0
noncomputable def escheatref16_In_c1_d (n : Nat) : SmV := smOps E_escheatref16_In escheatref16_In_o1
noncomputable def escheatref16_In_c2_d (n : Nat) : SmV := smSeq [4] (escheatref16_In_c1_d n) smRet
noncomputable def escheatref16_In_c3_d (n : Nat) : SmV := smSeq [0, 1] (escheatref16_In_c0_d n) (escheatref16_In_c2_d n)
noncomputable def R_escheatref16_In (n : Nat) (args : List Val) (h : Heap) : OptV := (escheatref16_In_c3_d n) A_escheatref16_In.fin (params 0 args) h
theorem R_escheatref16_In_eq (n : Nat) (a0 a1 : Val) (h : Heap) : R_escheatref16_In n [a0, a1] h = bnd (abin .geq a0 (.c (.i .i64 0))) fun v1 => bnd (gd v1 true (some (a0, h)) (some (.no, h))) fun p2 => bnd (gd v1 true (some (a1, p2.2)) (some (.no, p2.2))) fun p3 => bnd (gd v1 true (bnd (abin .leq p2.1 p3.1) fun v4 => some (v4, p3.2)) (some (.no, p3.2))) fun p5 => bnd (apick v1 p5.1 (.c (.b false))) fun v6 => some (v6, p5.2) := by kernel_rfl
theorem K_escheatref16_In : FnK Try.prog 159 A_escheatref16_In E_escheatref16_In R_escheatref16_In := .mk' (sound0) Try.func159 (by kernel_rfl) (by intro n args h; kernel_rfl)
noncomputable def S_escheatref16_In : Fun := tidy (Lim A_escheatref16_In E_escheatref16_In)
theorem S_escheatref16_In_ok : SOk Try.prog 159 S_escheatref16_In := K_escheatref16_In.sok
theorem S_escheatref16_In_flat {n : Nat} {args : List Val} {h h2 : Heap} {v : Val} (he : R_escheatref16_In n args (ro h) = some (v, h2)) (hf : v.flat = true) : S_escheatref16_In args h = some (v, h) := K_escheatref16_In.flat he hf
def escheatref16_May_o0 : List AOper := [{ dst := some 1, op := .box (.t 0) }, { dst := some 2, op := .mv (.v (.c (.b false))) }]
def escheatref16_May_c0 : ACode := .ops escheatref16_May_o0
def escheatref16_May_o1 : List AOper := [{ dst := some 4, op := .fAddr (.t 1) 0 }, { dst := some 5, op := .load1 (.t 4) }, { dst := some 6, op := .bin .eql (.t 5) (.v (.c (.i .i64 0))) }]
def escheatref16_May_c1 : ACode := .ops escheatref16_May_o1
def escheatref16_May_o2 : List AOper := [{ dst := some 7, op := .loadN 11 (.t 1) }, { dst := some 8, op := .build ([.i .i64 0, .i .i64 0, .i .i64 0, .i .i64 0, .i .i64 0, .i .i64 0, .i .i64 0, .i .i64 0, .i .i64 0, .i .i64 0, .i .i64 0]) [] }, { dst := some 9, op := .eqA false ([.i .i64, .i .i64, .i .i64, .i .i64, .i .i64, .i .i64, .i .i64, .i .i64, .i .i64, .i .i64, .i .i64]) (.t 7) (.t 8) }, { dst := some 2, op := .mv (.t 9) }]
def escheatref16_May_c2 : ACode := .ops escheatref16_May_o2
def escheatref16_May_c3 : ACode := .seq [2] escheatref16_May_c2 .ret
def escheatref16_May_c4 : ACode := .cond (.t 6) escheatref16_May_c3 .skip
def escheatref16_May_c5 : ACode := .seq [1, 6] escheatref16_May_c1 escheatref16_May_c4
def escheatref16_May_o3 : List AOper := [{ dst := some 3, op := .mv (.v (.c (.i .i64 0))) }]
def escheatref16_May_c6 : ACode := .ops escheatref16_May_o3
def escheatref16_May_o4 : List AOper := [{ dst := some 10, op := .mv (.t 3) }, { dst := some 11, op := .bin .lss (.t 10) (.v (.c (.i .i64 6))) }]
def escheatref16_May_c7 : ACode := .ops escheatref16_May_o4
def escheatref16_May_c8 : ACode := .cond (.t 11) .skip (.exit 0)
def escheatref16_May_c9 : ACode := .seq [1, 3, 11] escheatref16_May_c7 escheatref16_May_c8
def escheatref16_May_o5 : List AOper := [{ dst := some 14, op := .mv (.t 3) }, { dst := some 15, op := .fAddr (.t 1) 4 }, { dst := some 16, op := .iAddrA 6 1 (.t 15) (.t 14) }, { dst := some 17, op := .load1 (.t 16) }, { dst := some 18, op := .call 159 [(.t 17), (.v (.c (.i .i64 65535)))] }, { dst := some 19, op := .un .not (.t 18) }]
def escheatref16_May_c10 : ACode := .ops escheatref16_May_o5
def escheatref16_May_o6 : List AOper := [{ dst := some 2, op := .mv (.v (.c (.b false))) }]
def escheatref16_May_c11 : ACode := .ops escheatref16_May_o6
def escheatref16_May_c12 : ACode := .seq [2] escheatref16_May_c11 .ret
def escheatref16_May_c13 : ACode := .cond (.t 19) escheatref16_May_c12 .skip
def escheatref16_May_c14 : ACode := .seq [1, 3, 19] escheatref16_May_c10 escheatref16_May_c13
def escheatref16_May_c15 : ACode := .block 1 escheatref16_May_c14
def escheatref16_May_o7 : List AOper := [{ dst := some 12, op := .mv (.t 3) }, { dst := some 13, op := .bin .add (.t 12) (.v (.c (.i .i64 1))) }, { dst := some 3, op := .mv (.t 13) }]
def escheatref16_May_c16 : ACode := .ops escheatref16_May_o7
def escheatref16_May_c17 : ACode := .seq [1, 3] escheatref16_May_c15 escheatref16_May_c16
def escheatref16_May_c18 : ACode := .seq [1, 3] escheatref16_May_c9 escheatref16_May_c17
def escheatref16_May_c19 : ACode := .loop [1, 3] escheatref16_May_c18
def escheatref16_May_c20 : ACode := .block 0 escheatref16_May_c19
def escheatref16_May_c21 : ACode := .seq [1, 3] escheatref16_May_c6 escheatref16_May_c20
def escheatref16_May_o8 : List AOper := [{ dst := some 20, op := .fAddr (.t 1) 0 }, { dst := some 21, op := .load1 (.t 20) }, { dst := some 22, op := .call 159 [(.t 21), (.v (.c (.i .i64 2)))] }, { dst := some 23, op := .mv (.t 22) }, { dst := some 24, op := .fAddr (.t 1) 1, guard := some (23, true) }, { dst := some 25, op := .load1 (.t 24), guard := some (23, true) }, { dst := some 26, op := .call 159 [(.t 25), (.v (.c (.i .i64 65535)))], guard := some (23, true) }, { dst := some 27, op := .pick (.t 23) (.t 26) (.v (.c (.b false))) }, { dst := some 28, op := .mv (.t 27) }, { dst := some 29, op := .fAddr (.t 1) 2, guard := some (28, true) }, { dst := some 30, op := .load1 (.t 29), guard := some (28, true) }, { dst := some 31, op := .call 159 [(.t 30), (.v (.c (.i .i64 34304)))], guard := some (28, true) }, { dst := some 32, op := .pick (.t 28) (.t 31) (.v (.c (.b false))) }, { dst := some 33, op := .mv (.t 32) }, { dst := some 34, op := .fAddr (.t 1) 3, guard := some (33, true) }, { dst := some 35, op := .load1 (.t 34), guard := some (33, true) }, { dst := some 36, op := .call 159 [(.t 35), (.v (.c (.i .i64 65535)))], guard := some (33, true) }, { dst := some 37, op := .pick (.t 33) (.t 36) (.v (.c (.b false))) }, { dst := some 38, op := .mv (.t 37) }, { dst := some 39, op := .fAddr (.t 1) 10, guard := some (38, true) }, { dst := some 40, op := .load1 (.t 39), guard := some (38, true) }, { dst := some 41, op := .call 159 [(.t 40), (.v (.c (.i .i64 65535)))], guard := some (38, true) }, { dst := some 42, op := .pick (.t 38) (.t 41) (.v (.c (.b false))) }, { dst := some 2, op := .mv (.t 42) }]
def escheatref16_May_c22 : ACode := .ops escheatref16_May_o8
def escheatref16_May_c23 : ACode := .seq [2] escheatref16_May_c22 .ret
def escheatref16_May_c24 : ACode := .seq [1] escheatref16_May_c21 escheatref16_May_c23
def escheatref16_May_c25 : ACode := .seq [1] escheatref16_May_c5 escheatref16_May_c24
def escheatref16_May_c26 : ACode := .seq [1] escheatref16_May_c0 escheatref16_May_c25
def A_escheatref16_May : AFn := ⟨escheatref16_May_c26, [.tmp 2]⟩
noncomputable def E_escheatref16_May : Sums := disp 159 S_escheatref16_In disp0
noncomputable def escheatref16_May_c0_d (n : Nat) : SmV := smOps E_escheatref16_May escheatref16_May_o0
noncomputable def escheatref16_May_c1_d (n : Nat) : SmV := smOps E_escheatref16_May escheatref16_May_o1
noncomputable def escheatref16_May_c2_d (n : Nat) : SmV := smOps E_escheatref16_May escheatref16_May_o2
noncomputable def escheatref16_May_c3_d (n : Nat) : SmV := smSeq [2] (escheatref16_May_c2_d n) smRet
noncomputable def escheatref16_May_c4_d (n : Nat) : SmV := smCond (.t 6) (escheatref16_May_c3_d n) smSkip
noncomputable def escheatref16_May_c5_d (n : Nat) : SmV := smSeq [1, 6] (escheatref16_May_c1_d n) (escheatref16_May_c4_d n)
noncomputable def escheatref16_May_c6_d (n : Nat) : SmV := smOps E_escheatref16_May escheatref16_May_o3
noncomputable def escheatref16_May_c7_d (n : Nat) : SmV := smOps E_escheatref16_May escheatref16_May_o4
noncomputable def escheatref16_May_c8_d (n : Nat) : SmV := smCond (.t 11) smSkip (smExit 0)
noncomputable def escheatref16_May_c9_d (n : Nat) : SmV := smSeq [1, 3, 11] (escheatref16_May_c7_d n) (escheatref16_May_c8_d n)
noncomputable def escheatref16_May_c10_d (n : Nat) : SmV := smOps E_escheatref16_May escheatref16_May_o5
noncomputable def escheatref16_May_c11_d (n : Nat) : SmV := smOps E_escheatref16_May escheatref16_May_o6
noncomputable def escheatref16_May_c12_d (n : Nat) : SmV := smSeq [2] (escheatref16_May_c11_d n) smRet
noncomputable def escheatref16_May_c13_d (n : Nat) : SmV := smCond (.t 19) (escheatref16_May_c12_d n) smSkip
noncomputable def escheatref16_May_c14_d (n : Nat) : SmV := smSeq [1, 3, 19] (escheatref16_May_c10_d n) (escheatref16_May_c13_d n)
noncomputable def escheatref16_May_c15_d (n : Nat) : SmV := smBlock 1 (escheatref16_May_c14_d n)
noncomputable def escheatref16_May_c16_d (n : Nat) : SmV := smOps E_escheatref16_May escheatref16_May_o7
noncomputable def escheatref16_May_c17_d (n : Nat) : SmV := smSeq [1, 3] (escheatref16_May_c15_d n) (escheatref16_May_c16_d n)
noncomputable def escheatref16_May_c18_d (n : Nat) : SmV := smSeq [1, 3] (escheatref16_May_c9_d n) (escheatref16_May_c17_d n)
noncomputable def escheatref16_May_c19_d (n : Nat) : SmV := smLoop n [1, 3] (escheatref16_May_c18_d n)
noncomputable def escheatref16_May_c20_d (n : Nat) : SmV := smBlock 0 (escheatref16_May_c19_d n)
noncomputable def escheatref16_May_c21_d (n : Nat) : SmV := smSeq [1, 3] (escheatref16_May_c6_d n) (escheatref16_May_c20_d n)
noncomputable def escheatref16_May_c22_d (n : Nat) : SmV := smOps E_escheatref16_May escheatref16_May_o8
noncomputable def escheatref16_May_c23_d (n : Nat) : SmV := smSeq [2] (escheatref16_May_c22_d n) smRet
noncomputable def escheatref16_May_c24_d (n : Nat) : SmV := smSeq [1] (escheatref16_May_c21_d n) (escheatref16_May_c23_d n)
noncomputable def escheatref16_May_c25_d (n : Nat) : SmV := smSeq [1] (escheatref16_May_c5_d n) (escheatref16_May_c24_d n)
noncomputable def escheatref16_May_c26_d (n : Nat) : SmV := smSeq [1] (escheatref16_May_c0_d n) (escheatref16_May_c25_d n)
noncomputable def escheatref16_May_k0 (n : Nat) : AExit → Env → Heap → OptV := fun x e h => match x with | .normal => hold ((escheatref16_May_c23_d n) A_escheatref16_May.fin (e.keep [1]) h) | .exit id => A_escheatref16_May.fin (.exit id) e h | .ret => A_escheatref16_May.fin .ret e h
noncomputable def escheatref16_May_k1 (n : Nat) : AExit → Env → Heap → OptV := fun x e h => match x with | .exit i => bif Nat.beq i 0 then (escheatref16_May_k0 n) .normal e h else (escheatref16_May_k0 n) (.exit i) e h | .normal => (escheatref16_May_k0 n) .normal e h | .ret => (escheatref16_May_k0 n) .ret e h
noncomputable def escheatref16_May_l0 (n m : Nat) (x1 x3 : Val) (h : Heap) : OptV := around (escheatref16_May_c18_d n) [1, 3] (escheatref16_May_k1 n) m [(1, x1), (3, x3)] h
noncomputable def R_escheatref16_May (n : Nat) (args : List Val) (h : Heap) : OptV := (escheatref16_May_c26_d n) A_escheatref16_May.fin (params 0 args) h
theorem R_escheatref16_May_eq (n : Nat) (a0 : Val) (h : Heap) : R_escheatref16_May n [a0] h = bnd (cells? a0) fun c1 => bnd (afAddr ((.c (.p h.length 0))) 0) fun v2 => bnd (aload1 ((h ++ [some (Row.mk (c1) true)])) v2) fun v3 => bnd (abin .eql v3 (.c (.i .i64 0))) fun v4 => cnd v4 (bnd (aloadN ((h ++ [some (Row.mk (c1) true)])) 11 ((.c (.p h.length 0)))) fun v5 => bnd (afill ([.i .i64 0, .i .i64 0, .i .i64 0, .i .i64 0, .i .i64 0, .i .i64 0, .i .i64 0, .i .i64 0, .i .i64 0, .i .i64 0, .i .i64 0]) []) fun c6 => bnd (aeq false ([.i .i64, .i .i64, .i .i64, .i .i64, .i .i64, .i .i64, .i .i64, .i .i64, .i .i64, .i .i64, .i .i64]) v5 ((.a c6))) fun v7 => some (v7, (h ++ [some (Row.mk (c1) true)]))) (escheatref16_May_l0 n n ((.c (.p h.length 0))) (.c (.i .i64 0)) ((h ++ [some (Row.mk (c1) true)]))) := by kernel_rfl
theorem escheatref16_May_l0_eq (n m : Nat) (x1 x3 : Val) (h : Heap) : escheatref16_May_l0 n (m + 1) x1 x3 h = bnd (abin .lss x3 (.c (.i .i64 6))) fun v8 => cnd v8 (bnd (afAddr x1 4) fun v9 => bnd (aiAddrA 6 1 v9 x3) fun v10 => bnd (aload1 h v10) fun v11 => bnd (S_escheatref16_In [v11, .c (.i .i64 65535)] h) fun p12 => bnd (aun .not p12.1) fun v13 => cnd v13 (some ((.c (.b false)), p12.2)) (bnd (abin .add x3 (.c (.i .i64 1))) fun v14 => escheatref16_May_l0 n m x1 v14 p12.2)) (bnd (afAddr x1 0) fun v15 => bnd (aload1 h v15) fun v16 => bnd (S_escheatref16_In [v16, .c (.i .i64 2)] h) fun p17 => bnd (gd p17.1 true (bnd (afAddr x1 1) fun v18 => some (v18, p17.2)) (some (.no, p17.2))) fun p19 => bnd (gd p17.1 true (bnd (aload1 p19.2 p19.1) fun v20 => some (v20, p19.2)) (some (.no, p19.2))) fun p21 => bnd (gd p17.1 true (bnd (S_escheatref16_In [p21.1, .c (.i .i64 65535)] p21.2) fun p22 => some (p22.1, p22.2)) (some (.no, p21.2))) fun p23 => bnd (apick p17.1 p23.1 (.c (.b false))) fun v24 => bnd (gd v24 true (bnd (afAddr x1 2) fun v25 => some (v25, p23.2)) (some (.no, p23.2))) fun p26 => bnd (gd v24 true (bnd (aload1 p26.2 p26.1) fun v27 => some (v27, p26.2)) (some (.no, p26.2))) fun p28 => bnd (gd v24 true (bnd (S_escheatref16_In [p28.1, .c (.i .i64 34304)] p28.2) fun p29 => some (p29.1, p29.2)) (some (.no, p28.2))) fun p30 => bnd (apick v24 p30.1 (.c (.b false))) fun v31 => bnd (gd v31 true (bnd (afAddr x1 3) fun v32 => some (v32, p30.2)) (some (.no, p30.2))) fun p33 => bnd (gd v31 true (bnd (aload1 p33.2 p33.1) fun v34 => some (v34, p33.2)) (some (.no, p33.2))) fun p35 => bnd (gd v31 true (bnd (S_escheatref16_In [p35.1, .c (.i .i64 65535)] p35.2) fun p36 => some (p36.1, p36.2)) (some (.no, p35.2))) fun p37 => bnd (apick v31 p37.1 (.c (.b false))) fun v38 => bnd (gd v38 true (bnd (afAddr x1 10) fun v39 => some (v39, p37.2)) (some (.no, p37.2))) fun p40 => bnd (gd v38 true (bnd (aload1 p40.2 p40.1) fun v41 => some (v41, p40.2)) (some (.no, p40.2))) fun p42 => bnd (gd v38 true (bnd (S_escheatref16_In [p42.1, .c (.i .i64 65535)] p42.2) fun p43 => some (p43.1, p43.2)) (some (.no, p42.2))) fun p44 => bnd (apick v38 p44.1 (.c (.b false))) fun v45 => some (v45, p44.2)) := by kernel_rfl
theorem K_escheatref16_May : FnK Try.prog 142 A_escheatref16_May E_escheatref16_May R_escheatref16_May := .mk' (sound1 S_escheatref16_In_ok sound0) Try.func142 (by kernel_rfl) (by intro n args h; kernel_rfl)
noncomputable def S_escheatref16_May : Fun := tidy (Lim A_escheatref16_May E_escheatref16_May)
theorem S_escheatref16_May_ok : SOk Try.prog 142 S_escheatref16_May := K_escheatref16_May.sok
theorem S_escheatref16_May_flat {n : Nat} {args : List Val} {h h2 : Heap} {v : Val} (he : R_escheatref16_May n args (ro h) = some (v, h2)) (hf : v.flat = true) : S_escheatref16_May args h = some (v, h) := K_escheatref16_May.flat he hf
def escheatref16_Put_o0 : List AOper := [{ dst := some 1, op := .box (.t 0) }, { dst := some 2, op := .nilrow 1 }]
def escheatref16_Put_c0 : ACode := .ops escheatref16_Put_o0
def escheatref16_Put_o1 : List AOper := [{ dst := some 5, op := .fAddr (.t 1) 0 }, { dst := some 6, op := .load1 (.t 5) }, { dst := some 7, op := .conv .u8 (.t 6) }, { dst := some 8, op := .buildSl 1 2 ([.i .u8 0, .i .u8 0]) [(0, 1, (.t 7)), (1, 1, (.v (.c (.i .u8 0))))] }, { dst := some 3, op := .mv (.t 8) }]
def escheatref16_Put_c1 : ACode := .ops escheatref16_Put_o1
def escheatref16_Put_o2 : List AOper := [{ dst := some 9, op := .mv (.t 3) }, { dst := some 10, op := .fAddr (.t 1) 1 }, { dst := some 11, op := .load1 (.t 10) }, { dst := some 12, op := .conv .u64 (.t 11) }, { dst := some 13, op := .call 138 [(.v (.c (.i .i64 2))), (.t 12)] }, { dst := some 14, op := .app 1 (.t 9) (.t 13) }, { dst := some 3, op := .mv (.t 14) }]
def escheatref16_Put_c2 : ACode := .ops escheatref16_Put_o2
def escheatref16_Put_o3 : List AOper := [{ dst := some 15, op := .mv (.t 3) }, { dst := some 16, op := .fAddr (.t 1) 2 }, { dst := some 17, op := .load1 (.t 16) }, { dst := some 18, op := .conv .u64 (.t 17) }, { dst := some 19, op := .call 138 [(.v (.c (.i .i64 4))), (.t 18)] }, { dst := some 20, op := .app 1 (.t 15) (.t 19) }, { dst := some 3, op := .mv (.t 20) }]
def escheatref16_Put_c3 : ACode := .ops escheatref16_Put_o3
def escheatref16_Put_o4 : List AOper := [{ dst := some 21, op := .mv (.t 3) }, { dst := some 22, op := .fAddr (.t 1) 3 }, { dst := some 23, op := .load1 (.t 22) }, { dst := some 24, op := .conv .u64 (.t 23) }, { dst := some 25, op := .call 138 [(.v (.c (.i .i64 2))), (.t 24)] }, { dst := some 26, op := .app 1 (.t 21) (.t 25) }, { dst := some 3, op := .mv (.t 26) }]
def escheatref16_Put_c4 : ACode := .ops escheatref16_Put_o4
def escheatref16_Put_o5 : List AOper := [{ dst := some 4, op := .mv (.v (.c (.i .i64 0))) }]
def escheatref16_Put_c5 : ACode := .ops escheatref16_Put_o5
def escheatref16_Put_o6 : List AOper := [{ dst := some 27, op := .mv (.t 4) }, { dst := some 28, op := .bin .lss (.t 27) (.v (.c (.i .i64 6))) }]
def escheatref16_Put_c6 : ACode := .ops escheatref16_Put_o6
def escheatref16_Put_c7 : ACode := .cond (.t 28) .skip (.exit 0)
def escheatref16_Put_c8 : ACode := .seq [1, 3, 4, 28] escheatref16_Put_c6 escheatref16_Put_c7
def escheatref16_Put_o7 : List AOper := [{ dst := some 31, op := .mv (.t 3) }, { dst := some 32, op := .mv (.t 4) }, { dst := some 33, op := .fAddr (.t 1) 4 }, { dst := some 34, op := .iAddrA 6 1 (.t 33) (.t 32) }, { dst := some 35, op := .load1 (.t 34) }, { dst := some 36, op := .conv .u64 (.t 35) }, { dst := some 37, op := .call 138 [(.v (.c (.i .i64 2))), (.t 36)] }, { dst := some 38, op := .app 1 (.t 31) (.t 37) }, { dst := some 3, op := .mv (.t 38) }]
def escheatref16_Put_c9 : ACode := .ops escheatref16_Put_o7
def escheatref16_Put_c10 : ACode := .block 1 escheatref16_Put_c9
def escheatref16_Put_o8 : List AOper := [{ dst := some 29, op := .mv (.t 4) }, { dst := some 30, op := .bin .add (.t 29) (.v (.c (.i .i64 1))) }, { dst := some 4, op := .mv (.t 30) }]
def escheatref16_Put_c11 : ACode := .ops escheatref16_Put_o8
def escheatref16_Put_c12 : ACode := .seq [1, 3, 4] escheatref16_Put_c10 escheatref16_Put_c11
def escheatref16_Put_c13 : ACode := .seq [1, 3, 4] escheatref16_Put_c8 escheatref16_Put_c12
def escheatref16_Put_c14 : ACode := .loop [1, 3, 4] escheatref16_Put_c13
def escheatref16_Put_c15 : ACode := .block 0 escheatref16_Put_c14
def escheatref16_Put_c16 : ACode := .seq [1, 3, 4] escheatref16_Put_c5 escheatref16_Put_c15
def escheatref16_Put_o9 : List AOper := [{ dst := some 39, op := .mv (.t 3) }, { dst := some 40, op := .fAddr (.t 1) 10 }, { dst := some 41, op := .load1 (.t 40) }, { dst := some 42, op := .conv .u64 (.t 41) }, { dst := some 43, op := .call 138 [(.v (.c (.i .i64 2))), (.t 42)] }, { dst := some 44, op := .app 1 (.t 39) (.t 43) }, { dst := some 3, op := .mv (.t 44) }]
def escheatref16_Put_c17 : ACode := .ops escheatref16_Put_o9
def escheatref16_Put_o10 : List AOper := [{ dst := some 45, op := .mv (.t 3) }, { dst := some 46, op := .appZ 1 ([.i .u8 0]) (.t 45) (.v (.c (.i .i64 8))) }, { dst := some 2, op := .mv (.t 46) }]
def escheatref16_Put_c18 : ACode := .ops escheatref16_Put_o10
def escheatref16_Put_c19 : ACode := .seq [2] escheatref16_Put_c18 .ret
def escheatref16_Put_c20 : ACode := .seq [3] escheatref16_Put_c17 escheatref16_Put_c19
def escheatref16_Put_c21 : ACode := .seq [1, 3] escheatref16_Put_c16 escheatref16_Put_c20
def escheatref16_Put_c22 : ACode := .seq [1, 3] escheatref16_Put_c4 escheatref16_Put_c21
def escheatref16_Put_c23 : ACode := .seq [1, 3] escheatref16_Put_c3 escheatref16_Put_c22
def escheatref16_Put_c24 : ACode := .seq [1, 3] escheatref16_Put_c2 escheatref16_Put_c23
def escheatref16_Put_c25 : ACode := .seq [1, 3] escheatref16_Put_c1 escheatref16_Put_c24
def escheatref16_Put_c26 : ACode := .seq [1] escheatref16_Put_c0 escheatref16_Put_c25
def A_escheatref16_Put : AFn := ⟨escheatref16_Put_c26, [.tmp 2]⟩
noncomputable def E_escheatref16_Put : Sums := disp 138 S_escheatref01_Bytes disp0
noncomputable def escheatref16_Put_c0_d (n : Nat) : SmV := smOps E_escheatref16_Put escheatref16_Put_o0
noncomputable def escheatref16_Put_c1_d (n : Nat) : SmV := smOps E_escheatref16_Put escheatref16_Put_o1
noncomputable def escheatref16_Put_c2_d (n : Nat) : SmV := smOps E_escheatref16_Put escheatref16_Put_o2
noncomputable def escheatref16_Put_c3_d (n : Nat) : SmV := smOps E_escheatref16_Put escheatref16_Put_o3
noncomputable def escheatref16_Put_c4_d (n : Nat) : SmV := smOps E_escheatref16_Put escheatref16_Put_o4
noncomputable def escheatref16_Put_c5_d (n : Nat) : SmV := smOps E_escheatref16_Put escheatref16_Put_o5
noncomputable def escheatref16_Put_c6_d (n : Nat) : SmV := smOps E_escheatref16_Put escheatref16_Put_o6
noncomputable def escheatref16_Put_c7_d (n : Nat) : SmV := smCond (.t 28) smSkip (smExit 0)
noncomputable def escheatref16_Put_c8_d (n : Nat) : SmV := smSeq [1, 3, 4, 28] (escheatref16_Put_c6_d n) (escheatref16_Put_c7_d n)
noncomputable def escheatref16_Put_c9_d (n : Nat) : SmV := smOps E_escheatref16_Put escheatref16_Put_o7
noncomputable def escheatref16_Put_c10_d (n : Nat) : SmV := smBlock 1 (escheatref16_Put_c9_d n)
noncomputable def escheatref16_Put_c11_d (n : Nat) : SmV := smOps E_escheatref16_Put escheatref16_Put_o8
noncomputable def escheatref16_Put_c12_d (n : Nat) : SmV := smSeq [1, 3, 4] (escheatref16_Put_c10_d n) (escheatref16_Put_c11_d n)
noncomputable def escheatref16_Put_c13_d (n : Nat) : SmV := smSeq [1, 3, 4] (escheatref16_Put_c8_d n) (escheatref16_Put_c12_d n)
noncomputable def escheatref16_Put_c14_d (n : Nat) : SmV := smLoop n [1, 3, 4] (escheatref16_Put_c13_d n)
noncomputable def escheatref16_Put_c15_d (n : Nat) : SmV := smBlock 0 (escheatref16_Put_c14_d n)
noncomputable def escheatref16_Put_c16_d (n : Nat) : SmV := smSeq [1, 3, 4] (escheatref16_Put_c5_d n) (escheatref16_Put_c15_d n)
noncomputable def escheatref16_Put_c17_d (n : Nat) : SmV := smOps E_escheatref16_Put escheatref16_Put_o9
noncomputable def escheatref16_Put_c18_d (n : Nat) : SmV := smOps E_escheatref16_Put escheatref16_Put_o10
noncomputable def escheatref16_Put_c19_d (n : Nat) : SmV := smSeq [2] (escheatref16_Put_c18_d n) smRet
noncomputable def escheatref16_Put_c20_d (n : Nat) : SmV := smSeq [3] (escheatref16_Put_c17_d n) (escheatref16_Put_c19_d n)
noncomputable def escheatref16_Put_c21_d (n : Nat) : SmV := smSeq [1, 3] (escheatref16_Put_c16_d n) (escheatref16_Put_c20_d n)
noncomputable def escheatref16_Put_c22_d (n : Nat) : SmV := smSeq [1, 3] (escheatref16_Put_c4_d n) (escheatref16_Put_c21_d n)
noncomputable def escheatref16_Put_c23_d (n : Nat) : SmV := smSeq [1, 3] (escheatref16_Put_c3_d n) (escheatref16_Put_c22_d n)
noncomputable def escheatref16_Put_c24_d (n : Nat) : SmV := smSeq [1, 3] (escheatref16_Put_c2_d n) (escheatref16_Put_c23_d n)
noncomputable def escheatref16_Put_c25_d (n : Nat) : SmV := smSeq [1, 3] (escheatref16_Put_c1_d n) (escheatref16_Put_c24_d n)
noncomputable def escheatref16_Put_c26_d (n : Nat) : SmV := smSeq [1] (escheatref16_Put_c0_d n) (escheatref16_Put_c25_d n)
noncomputable def escheatref16_Put_k0 (n : Nat) : AExit → Env → Heap → OptV := fun x e h => match x with | .normal => hold ((escheatref16_Put_c20_d n) A_escheatref16_Put.fin (e.keep [1, 3]) h) | .exit id => A_escheatref16_Put.fin (.exit id) e h | .ret => A_escheatref16_Put.fin .ret e h
noncomputable def escheatref16_Put_k1 (n : Nat) : AExit → Env → Heap → OptV := fun x e h => match x with | .exit i => bif Nat.beq i 0 then (escheatref16_Put_k0 n) .normal e h else (escheatref16_Put_k0 n) (.exit i) e h | .normal => (escheatref16_Put_k0 n) .normal e h | .ret => (escheatref16_Put_k0 n) .ret e h
noncomputable def escheatref16_Put_l0 (n m : Nat) (x1 x3 x4 : Val) (h : Heap) : OptV := around (escheatref16_Put_c13_d n) [1, 3, 4] (escheatref16_Put_k1 n) m [(1, x1), (3, x3), (4, x4)] h
noncomputable def R_escheatref16_Put (n : Nat) (args : List Val) (h : Heap) : OptV := (escheatref16_Put_c26_d n) A_escheatref16_Put.fin (params 0 args) h
theorem R_escheatref16_Put_eq (n : Nat) (a0 : Val) (h : Heap) : R_escheatref16_Put n [a0] h = bnd (cells? a0) fun c1 => bnd (afAddr ((.c (.p h.length 0))) 0) fun v2 => bnd (aload1 (((h ++ [some (Row.mk (c1) true)]) ++ [some (Row.mk ([]) true)])) v2) fun v3 => bnd (aconv .u8 v3) fun v4 => bnd (afill ([.i .u8 0, .i .u8 0]) [(0, 1, v4), (1, 1, .c (.i .u8 0))]) fun c5 => bnd (afAddr ((.c (.p h.length 0))) 1) fun v6 => bnd (aload1 ((((h ++ [some (Row.mk (c1) true)]) ++ [some (Row.mk ([]) true)]) ++ [some (Row.mk (c5) true)])) v6) fun v7 => bnd (aconv .u64 v7) fun v8 => bnd (S_escheatref01_Bytes [.c (.i .i64 2), v8] ((((h ++ [some (Row.mk (c1) true)]) ++ [some (Row.mk ([]) true)]) ++ [some (Row.mk (c5) true)]))) fun p9 => bnd (aapp p9.2 1 ((.c (.sl (((h ++ [some (Row.mk (c1) true)]) ++ [some (Row.mk ([]) true)])).length 0 2 1))) p9.1) fun p10 => bnd (afAddr ((.c (.p h.length 0))) 2) fun v11 => bnd (aload1 p10.2 v11) fun v12 => bnd (aconv .u64 v12) fun v13 => bnd (S_escheatref01_Bytes [.c (.i .i64 4), v13] p10.2) fun p14 => bnd (aapp p14.2 1 p10.1 p14.1) fun p15 => bnd (afAddr ((.c (.p h.length 0))) 3) fun v16 => bnd (aload1 p15.2 v16) fun v17 => bnd (aconv .u64 v17) fun v18 => bnd (S_escheatref01_Bytes [.c (.i .i64 2), v18] p15.2) fun p19 => bnd (aapp p19.2 1 p15.1 p19.1) fun p20 => escheatref16_Put_l0 n n ((.c (.p h.length 0))) p20.1 (.c (.i .i64 0)) p20.2 := by kernel_rfl
theorem escheatref16_Put_l0_eq (n m : Nat) (x1 x3 x4 : Val) (h : Heap) : escheatref16_Put_l0 n (m + 1) x1 x3 x4 h = bnd (abin .lss x4 (.c (.i .i64 6))) fun v21 => cnd v21 (bnd (afAddr x1 4) fun v22 => bnd (aiAddrA 6 1 v22 x4) fun v23 => bnd (aload1 h v23) fun v24 => bnd (aconv .u64 v24) fun v25 => bnd (S_escheatref01_Bytes [.c (.i .i64 2), v25] h) fun p26 => bnd (aapp p26.2 1 x3 p26.1) fun p27 => bnd (abin .add x4 (.c (.i .i64 1))) fun v28 => escheatref16_Put_l0 n m x1 p27.1 v28 p27.2) (bnd (afAddr x1 10) fun v29 => bnd (aload1 h v29) fun v30 => bnd (aconv .u64 v30) fun v31 => bnd (S_escheatref01_Bytes [.c (.i .i64 2), v31] h) fun p32 => bnd (aapp p32.2 1 x3 p32.1) fun p33 => bnd (aappZ p33.2 1 ([.i .u8 0]) p33.1 (.c (.i .i64 8))) fun p34 => some (p34.1, p34.2)) := by kernel_rfl
theorem K_escheatref16_Put : FnK Try.prog 143 A_escheatref16_Put E_escheatref16_Put R_escheatref16_Put := .mk' (sound1 S_escheatref01_Bytes_ok sound0) Try.func143 (by kernel_rfl) (by intro n args h; kernel_rfl)
noncomputable def S_escheatref16_Put : Fun := tidy (Lim A_escheatref16_Put E_escheatref16_Put)
theorem S_escheatref16_Put_ok : SOk Try.prog 143 S_escheatref16_Put := K_escheatref16_Put.sok
theorem S_escheatref16_Put_out {n : Nat} {args : List Val} {h h2 : Heap} {v : Val} {sz k : Nat} {cs : List Cell} (he : R_escheatref16_Put n args (ro h) = some (v, h2)) (ho : Out h.length h2 v sz k cs) (hf : flats cs = true) : S_escheatref16_Put args h = some (.c (.sl h.length 0 k sz), h ++ [some ⟨cs, true⟩]) := K_escheatref16_Put.out he ho hf
def escheatref16_Clean_o0 : List AOper := [{ dst := some 2, op := .alloc ([.i .i64 0, .i .i64 0, .i .i64 0, .i .i64 0, .i .i64 0, .i .i64 0, .i .i64 0, .i .i64 0, .i .i64 0, .i .i64 0, .i .i64 0]) }, { dst := some 3, op := .mv (.v (.c (.b false))) }]
def escheatref16_Clean_c0 : ACode := .ops escheatref16_Clean_o0
def escheatref16_Clean_o1 : List AOper := [{ dst := some 5, op := .mv (.t 0) }, { dst := some 6, op := .call 141 [(.t 5)] }, { dst := some 4, op := .alloc ([.i .i64 0, .i .i64 0, .i .i64 0, .i .i64 0, .i .i64 0, .i .i64 0, .i .i64 0, .i .i64 0, .i .i64 0, .i .i64 0, .i .i64 0]) }, { dst := none, op := .storeN 11 (.t 4) (.t 6) }]
def escheatref16_Clean_c1 : ACode := .ops escheatref16_Clean_o1
def escheatref16_Clean_o2 : List AOper := [{ dst := some 7, op := .loadN 11 (.t 4) }, { dst := some 8, op := .call 142 [(.t 7)] }, { dst := some 9, op := .un .not (.t 8) }, { dst := some 10, op := .mv (.t 9) }, { dst := some 11, op := .loadN 11 (.t 4), guard := some (10, false) }, { dst := some 12, op := .call 143 [(.t 11)], guard := some (10, false) }, { dst := some 13, op := .mv (.t 0), guard := some (10, false) }, { dst := some 14, op := .call 21 [(.t 12), (.t 13)], guard := some (10, false) }, { dst := some 15, op := .un .not (.t 14), guard := some (10, false) }, { dst := some 16, op := .pick (.t 10) (.v (.c (.b true))) (.t 15) }]
def escheatref16_Clean_c2 : ACode := .ops escheatref16_Clean_o2
def escheatref16_Clean_o3 : List AOper := [{ dst := some 17, op := .build ([.i .i64 0, .i .i64 0, .i .i64 0, .i .i64 0, .i .i64 0, .i .i64 0, .i .i64 0, .i .i64 0, .i .i64 0, .i .i64 0, .i .i64 0]) [] }, { dst := none, op := .storeN 11 (.t 2) (.t 17) }, { dst := some 3, op := .mv (.v (.c (.b false))) }]
def escheatref16_Clean_c3 : ACode := .ops escheatref16_Clean_o3
def escheatref16_Clean_c4 : ACode := .seq [2, 3] escheatref16_Clean_c3 .ret
def escheatref16_Clean_c5 : ACode := .cond (.t 16) escheatref16_Clean_c4 .skip
def escheatref16_Clean_c6 : ACode := .seq [2, 4, 16] escheatref16_Clean_c2 escheatref16_Clean_c5
def escheatref16_Clean_o4 : List AOper := [{ dst := some 18, op := .loadN 11 (.t 4) }, { dst := none, op := .storeN 11 (.t 2) (.t 18) }, { dst := some 3, op := .mv (.v (.c (.b true))) }]
def escheatref16_Clean_c7 : ACode := .ops escheatref16_Clean_o4
def escheatref16_Clean_c8 : ACode := .seq [2, 3] escheatref16_Clean_c7 .ret
def escheatref16_Clean_c9 : ACode := .seq [2, 4] escheatref16_Clean_c6 escheatref16_Clean_c8
def escheatref16_Clean_c10 : ACode := .seq [0, 2, 4] escheatref16_Clean_c1 escheatref16_Clean_c9
def escheatref16_Clean_c11 : ACode := .seq [0, 2] escheatref16_Clean_c0 escheatref16_Clean_c10
def A_escheatref16_Clean : AFn := ⟨escheatref16_Clean_c11, [.cellN 2 11, .tmp 3]⟩
noncomputable def E_escheatref16_Clean : Sums := disp 141 S_escheatref16_Get (disp 142 S_escheatref16_May (disp 143 S_escheatref16_Put (disp 21 S_escheatref01_Same disp0)))
noncomputable def escheatref16_Clean_c0_d (n : Nat) : SmV := smOps E_escheatref16_Clean escheatref16_Clean_o0
noncomputable def escheatref16_Clean_c1_d (n : Nat) : SmV := smOps E_escheatref16_Clean escheatref16_Clean_o1
noncomputable def escheatref16_Clean_c2_d (n : Nat) : SmV := smOps E_escheatref16_Clean escheatref16_Clean_o2
noncomputable def escheatref16_Clean_c3_d (n : Nat) : SmV := smOps E_escheatref16_Clean escheatref16_Clean_o3
noncomputable def escheatref16_Clean_c4_d (n : Nat) : SmV := smSeq [2, 3] (escheatref16_Clean_c3_d n) smRet
noncomputable def escheatref16_Clean_c5_d (n : Nat) : SmV := smCond (.t 16) (escheatref16_Clean_c4_d n) smSkip
noncomputable def escheatref16_Clean_c6_d (n : Nat) : SmV := smSeq [2, 4, 16] (escheatref16_Clean_c2_d n) (escheatref16_Clean_c5_d n)
noncomputable def escheatref16_Clean_c7_d (n : Nat) : SmV := smOps E_escheatref16_Clean escheatref16_Clean_o4
noncomputable def escheatref16_Clean_c8_d (n : Nat) : SmV := smSeq [2, 3] (escheatref16_Clean_c7_d n) smRet
noncomputable def escheatref16_Clean_c9_d (n : Nat) : SmV := smSeq [2, 4] (escheatref16_Clean_c6_d n) (escheatref16_Clean_c8_d n)
noncomputable def escheatref16_Clean_c10_d (n : Nat) : SmV := smSeq [0, 2, 4] (escheatref16_Clean_c1_d n) (escheatref16_Clean_c9_d n)
noncomputable def escheatref16_Clean_c11_d (n : Nat) : SmV := smSeq [0, 2] (escheatref16_Clean_c0_d n) (escheatref16_Clean_c10_d n)
noncomputable def R_escheatref16_Clean (n : Nat) (args : List Val) (h : Heap) : OptV := (escheatref16_Clean_c11_d n) A_escheatref16_Clean.fin (params 0 args) h
theorem R_escheatref16_Clean_eq (n : Nat) (a0 : Val) (h : Heap) : R_escheatref16_Clean n [a0] h = bnd (S_escheatref16_Get [a0] ((h ++ [some (Row.mk ([.i .i64 0, .i .i64 0, .i .i64 0, .i .i64 0, .i .i64 0, .i .i64 0, .i .i64 0, .i .i64 0, .i .i64 0, .i .i64 0, .i .i64 0]) true)]))) fun p1 => bnd (astoreN ((p1.2 ++ [some (Row.mk ([.i .i64 0, .i .i64 0, .i .i64 0, .i .i64 0, .i .i64 0, .i .i64 0, .i .i64 0, .i .i64 0, .i .i64 0, .i .i64 0, .i .i64 0]) true)])) 11 ((.c (.p p1.2.length 0))) p1.1) fun h2 => bnd (aloadN h2 11 ((.c (.p p1.2.length 0)))) fun v3 => bnd (S_escheatref16_May [v3] h2) fun p4 => bnd (aun .not p4.1) fun v5 => bnd (gd v5 false (bnd (aloadN p4.2 11 ((.c (.p p1.2.length 0)))) fun v6 => some (v6, p4.2)) (some (.no, p4.2))) fun p7 => bnd (gd v5 false (bnd (S_escheatref16_Put [p7.1] p7.2) fun p8 => some (p8.1, p8.2)) (some (.no, p7.2))) fun p9 => bnd (gd v5 false (some (a0, p9.2)) (some (.no, p9.2))) fun p10 => bnd (gd v5 false (bnd (S_escheatref01_Same [p9.1, p10.1] p10.2) fun p11 => some (p11.1, p11.2)) (some (.no, p10.2))) fun p12 => bnd (gd v5 false (bnd (aun .not p12.1) fun v13 => some (v13, p12.2)) (some (.no, p12.2))) fun p14 => bnd (apick v5 (.c (.b true)) p14.1) fun v15 => cnd v15 (bnd (afill ([.i .i64 0, .i .i64 0, .i .i64 0, .i .i64 0, .i .i64 0, .i .i64 0, .i .i64 0, .i .i64 0, .i .i64 0, .i .i64 0, .i .i64 0]) []) fun c16 => bnd (astoreN p14.2 11 ((.c (.p h.length 0))) ((.a c16))) fun h17 => tupN [aloadN h17 11 ((.c (.p h.length 0))), some (.c (.b false))] h17) (bnd (aloadN p14.2 11 ((.c (.p p1.2.length 0)))) fun v18 => bnd (astoreN p14.2 11 ((.c (.p h.length 0))) v18) fun h19 => tupN [aloadN h19 11 ((.c (.p h.length 0))), some (.c (.b true))] h19) := by kernel_rfl
theorem K_escheatref16_Clean : FnK Try.prog 115 A_escheatref16_Clean E_escheatref16_Clean R_escheatref16_Clean := .mk' (sound1 S_escheatref16_Get_ok (sound1 S_escheatref16_May_ok (sound1 S_escheatref16_Put_ok (sound1 S_escheatref01_Same_ok sound0)))) Try.func115 (by kernel_rfl) (by intro n args h; kernel_rfl)
noncomputable def S_escheatref16_Clean : Fun := tidy (Lim A_escheatref16_Clean E_escheatref16_Clean)
theorem S_escheatref16_Clean_ok : SOk Try.prog 115 S_escheatref16_Clean := K_escheatref16_Clean.sok
theorem S_escheatref16_Clean_flat {n : Nat} {args : List Val} {h h2 : Heap} {v : Val} (he : R_escheatref16_Clean n args (ro h) = some (v, h2)) (hf : v.flat = true) : S_escheatref16_Clean args h = some (v, h) := K_escheatref16_Clean.flat he hf
end Go.Proofs.Ytdgggnlbdoiloaa
end
section
namespace Go.Proofs.Ytdgggnlbdoiloaa
open Go Go.Esc

def inI (n top : Int) : Bool := decide (0 ≤ n) && decide (n ≤ top)
theorem ref16_In_eq {n top : Int} {h : Heap} : S_escheatref16_In [.c (.i .i64 n), .c (.i .i64 top)] h = some (.c (.b (inI n top)), h) := by
  refine S_escheatref16_In_flat (n := 0) (h2 := ro h) ?_ rfl
  rw [R_escheatref16_In_eq]
  unfold inI
  by_cases c : 0 ≤ n
  · simp only [esc, c, Bool.true_and]
  · simp only [esc, c, Bool.false_and]
theorem inI_small {n : Int} : inI n 65535 = smallI n := rfl

theorem ref16_May_loop {g : Heap} {k l s p : Int} {d : List Int} {q : Nat} (hd : d.length = 7) (hk : k ≠ 0) : ∀ e i m : Nat, i + e = 6 → e < m →
    escheatref16_May_l0 q m (.c (.p g.length 0)) (.c (.i .i64 i)) (g ++ [some ⟨inoC k l s p d, true⟩]) = some (.c (.b ((d.drop i).all smallI && restI k l s p [])), g ++ [some ⟨inoC k l s p d, true⟩])
  | e, i, 0, _, hm => by omega
  | 0, i, m + 1, hi, hm => by
    have e0 : i = 6 := by omega
    subst e0
    have c0 : ¬ ((6 : Nat) : Int) < 6 := by omega
    have l1 : (encI d)[6]? = some (.i .i64 d[6]) := by rw [encI_get, List.getElem?_eq_getElem (by omega)]; rfl
    have e1 : (d.drop 6).all smallI = smallI d[6] := by
      rw [List.drop_eq_getElem_cons (by omega), List.drop_of_length_le (by omega)]; simp
    have e2 : restI k l s p [] = (inI k 2 && (smallI l && (smallI p && inI s 34304))) := by
      unfold restI inI
      by_cases a : 0 ≤ k <;> by_cases b : k ≤ 2 <;> by_cases c : 0 ≤ s <;> by_cases f : s ≤ 34304 <;> simp [a, b, c, f]
    rw [escheatref16_May_l0_eq, e1, e2]
    cases h1 : inI k 2 with
    | false => simp only [esc, esh, Nat.reduceAdd, Nat.reduceMul, Nat.reduceLT, c0, ref16_In_eq, h1, Bool.false_and, Bool.and_false]
    | true =>
      cases h2 : smallI l with
      | false => simp only [esc, esh, Nat.reduceAdd, Nat.reduceMul, Nat.reduceLT, c0, ref16_In_eq, h1, inI_small, h2, Bool.false_and, Bool.and_false, Bool.true_and]
      | true =>
        cases h3 : inI s 34304 with
        | false => simp only [esc, esh, Nat.reduceAdd, Nat.reduceMul, Nat.reduceLT, c0, ref16_In_eq, h1, inI_small, h2, h3, Bool.false_and, Bool.and_false, Bool.true_and]
        | true =>
          cases h4 : smallI p with
          | false => simp only [esc, esh, Nat.reduceAdd, Nat.reduceMul, Nat.reduceLT, c0, ref16_In_eq, h1, inI_small, h2, h3, h4, Bool.false_and, Bool.and_false, Bool.true_and]
          | true => simp only [esc, esh, Nat.reduceAdd, Nat.reduceMul, Nat.reduceLT, c0, ref16_In_eq, h1, inI_small, h2, h3, h4, l1, Bool.false_and, Bool.and_true, Bool.true_and]
  | e + 1, i, m + 1, hi, hm => by
    have ih := ref16_May_loop (g := g) (l := l) (s := s) (p := p) (q := q) hd hk e (i + 1) m (by omega) (by omega)
    have c0 : (i : Int) < 6 := by omega
    have a1 : aiAddrA 6 1 (.c (.p g.length 4)) (.c (.i .i64 (i : Int))) = some (.c (.p g.length (i + 1 + 1 + 1 + 1))) := by rw [iAddrA_of (by omega)]; congr 3; omega
    have l1 : (encI d)[i]? = some (.i .i64 d[i]) := by rw [encI_get, List.getElem?_eq_getElem (by omega)]; rfl
    rw [escheatref16_May_l0_eq, List.drop_eq_getElem_cons (by omega), List.all_cons]
    cases c1 : smallI d[i] with
    | true =>
      simp only [esc, esh, Nat.reduceAdd, Nat.reduceMul, Nat.reduceLT, c0, a1, l1, ref16_In_eq, inI_small, c1, Bool.true_and, wi_succ (show i + 1 < 9223372036854775808 by omega)]
      exact ih
    | false => simp only [esc, esh, Nat.reduceAdd, Nat.reduceMul, Nat.reduceLT, c0, a1, l1, ref16_In_eq, inI_small, c1, Bool.false_and]

theorem ref16_May_eq {k l s p : Int} {d : List Int} {h : Heap} (hd : d.length = 7) : S_escheatref16_May [.a (inoC k l s p d)] h = some (.c (.b (mayI k l s p d)), h) := by
  have hlen : (inoC k l s p d).length = 11 := by simp [encI_length, hd]
  have key : ∀ N, 7 < N → ∀ g, ∃ g', R_escheatref16_May N [.a (inoC k l s p d)] g = some (.c (.b (mayI k l s p d)), g') := by
    intro N hN g
    rw [R_escheatref16_May_eq]
    unfold mayI
    by_cases k0 : k = 0
    · subst k0
      rw [if_pos rfl]
      have hq := aeq_ino (k := 0) (l := l) (s := s) (p := p) (k' := 0) (l' := 0) (s' := 0) (p' := 0) (neg := false) hd (zI_length (n := 7))
      simp only [cond_false, zero_ino] at hq
      exact ⟨_, by simp only [esc, esh, Nat.reduceAdd, Nat.reduceMul, Nat.reduceLT, hlen, afill_ino, hq] <;> rfl⟩
    · rw [if_neg k0]
      have := ref16_May_loop (g := g) (l := l) (s := s) (p := p) (q := N) hd k0 6 0 N (by omega) (by omega)
      have e1 : ((d.drop 0).all smallI && restI k l s p []) = restI k l s p d := by
        unfold restI
        simp only [List.drop_zero, List.all_nil, Bool.and_true]
        cases d.all smallI <;> simp
      rw [e1] at this
      exact ⟨_, by simp only [esc, esh, Nat.reduceAdd, Nat.reduceMul, Nat.reduceLT, k0]; exact this⟩
  obtain ⟨g', e⟩ := key (h.length + 8) (by omega) (ro h)
  exact S_escheatref16_May_flat e rfl

theorem ref16_Put_loop {g : Heap} {k l s p : Int} {d : List Int} {q : Nat} (hd : d.length = 7) : ∀ e i m h id, i + e = 6 → e < m → Low (g ++ [some (Row.mk (inoC k l s p d) true)]).length (g ++ [some (Row.mk (inoC k l s p d) true)]) h → (g ++ [some (Row.mk (inoC k l s p d) true)]).length ≤ id → rd h id = some ⟨encB (inoH k l s p ++ inoD (d.take i)), true⟩ →
    ∃ v' h', escheatref16_Put_l0 q m (.c (.p g.length 0)) (.c (.sl id 0 (10 + 2 * i) 1)) (.c (.i .i64 i)) h = some (v', h') ∧ Out g.length h' v' 1 32 (encB (inoB k l s p d))
  | e, i, 0, h, id, _, hm, _, _, _ => by omega
  | 0, i, m + 1, h, id, hi, hm, hlow, hb, hr => by
    have e0 : i = 6 := by omega
    subst e0
    have c0 : ¬ ((6 : Nat) : Int) < 6 := by omega
    have hrow : rd h g.length = some ⟨inoC k l s p d, true⟩ := hlow.rd rd_new
    have l1 := load1_of (off := 10) (c := .i .i64 d[6]) hrow (by
      have : (encI d)[6]? = some (.i .i64 d[6]) := by rw [encI_get, List.getElem?_eq_getElem (by omega)]; rfl
      exact this) rfl
    have eb := bytes_conv (w := 2) (v := d[6]) (h := h) (by omega)
    rw [show ((2 : Nat) : Int) = 2 from rfl] at eb
    have hlen : (encB (inoH k l s p ++ inoD (d.take 6))).length = (10 + 2 * 6) * 1 := by rw [encB_length, List.length_append, inoH_length, inoD_length, List.length_take]; omega
    obtain ⟨h1, a1, a2, a3, a4, a5⟩ := pushN (ys := encB (bytesI 2 d[6])) (m := 2) (sz := 1) (n := 10 + 2 * 6) hlow hr hlen hb (by simp [encB_length]) (by omega) (by omega)
    obtain ⟨h2, b1, b2, b3, b4⟩ := pushZ (m := 8) (n := 24) a3 a2 (by rw [a5]) a4 (by omega)
    rw [show ((8 : Nat) : Int) = 8 from rfl] at b1
    have eB : encB (inoH k l s p ++ inoD (d.take 6)) ++ encB (bytesI 2 d[6]) ++ encB (zeros 8) = encB (inoB k l s p d) := by
      rw [← encB_append, ← encB_append]
      unfold inoB
      refine congrArg (fun x => encB (x ++ zeros 8)) ?_
      rw [List.append_assoc]
      refine congrArg (inoH k l s p ++ ·) ?_
      rw [← inoD_snoc, ← List.take_succ_eq_append_getElem (by omega), List.take_of_length_le (by omega)]
    rw [eB] at b2
    simp only [Nat.reduceMul, Nat.reduceAdd] at a1 b1
    rw [escheatref16_Put_l0_eq]
    have hg : g.length ≤ h1.length := by simp at b4; omega
    exact ⟨_, _, by simp only [esc, c0, l1, eb, Nat.reduceMul, a1, b1] <;> rfl, by rw [encB_length, inoB_length hd], _, rfl, hg, b2⟩
  | e + 1, i, m + 1, h, id, hi, hm, hlow, hb, hr => by
    have c0 : (i : Int) < 6 := by omega
    have hrow : rd h g.length = some ⟨inoC k l s p d, true⟩ := hlow.rd rd_new
    have ea : aiAddrA 6 1 (.c (.p g.length 4)) (.c (.i .i64 (i : Int))) = some (.c (.p g.length (i + 1 + 1 + 1 + 1))) := by rw [iAddrA_of (by omega)]; congr 3; omega
    have l1 := load1_of (off := i + 1 + 1 + 1 + 1) (c := .i .i64 d[i]) hrow (by
      have : (encI d)[i]? = some (.i .i64 d[i]) := by rw [encI_get, List.getElem?_eq_getElem (by omega)]; rfl
      exact this) rfl
    have eb := bytes_conv (w := 2) (v := d[i]) (h := h) (by omega)
    rw [show ((2 : Nat) : Int) = 2 from rfl] at eb
    have hlen : (encB (inoH k l s p ++ inoD (d.take i))).length = (10 + 2 * i) * 1 := by rw [encB_length, List.length_append, inoH_length, inoD_length, List.length_take]; omega
    obtain ⟨h1, a1, a2, a3, a4, a5⟩ := pushN (ys := encB (bytesI 2 d[i])) (m := 2) (sz := 1) (n := 10 + 2 * i) hlow hr hlen hb (by simp [encB_length]) (by omega) (by omega)
    have eB : encB (inoH k l s p ++ inoD (d.take i)) ++ encB (bytesI 2 d[i]) = encB (inoH k l s p ++ inoD (d.take (i + 1))) := by
      rw [← encB_append, List.append_assoc, ← inoD_snoc, ← List.take_succ_eq_append_getElem (by omega)]
    rw [eB] at a2
    obtain ⟨v', h', b1, b2⟩ := ref16_Put_loop (q := q) hd e (i + 1) m h1 (h.length + 1) (by omega) (by omega) a3 a4 a2
    rw [show 10 + 2 * (i + 1) = 10 + 2 * i + 2 by omega] at b1
    rw [escheatref16_Put_l0_eq]
    exact ⟨v', h', by simp only [esc, c0, ea, l1, eb, a1, wi_succ (show i + 1 < 9223372036854775808 by omega)]; exact b1, b2⟩

theorem ref16_Put_eq {k l s p : Int} {d : List Int} {h : Heap} (hd : d.length = 7) : S_escheatref16_Put [.a (inoC k l s p d)] h = some (.c (.sl h.length 0 32 1), h ++ [some ⟨encB (inoB k l s p d), true⟩]) := by
  have key : ∀ N, 7 < N → ∀ g, ∃ v g', R_escheatref16_Put N [.a (inoC k l s p d)] g = some (v, g') ∧ Out g.length g' v 1 32 (encB (inoB k l s p d)) := by
    intro N hN g
    have e0 : IntKind.wrap .u8 k = ((byI k 0).toNat : Int) := by rw [wrap_u8_mod, byI_int]; simp
    have ef : afill [Cell.i .u8 0, .i .u8 0] [(0, 1, .c (.i .u8 (byI k 0).toNat)), (1, 1, .c (.i .u8 0))] = some (encB (bytesI 1 k ++ zeros 1)) := rfl
    have b1 := bytes_conv (w := 2) (v := l) (h := g ++ [some ⟨inoC k l s p d, true⟩, some ⟨[], true⟩, some ⟨encB (bytesI 1 k ++ zeros 1), true⟩]) (by omega)
    have p1 := app_of (h := g ++ [some ⟨inoC k l s p d, true⟩, some ⟨[], true⟩, some ⟨encB (bytesI 1 k ++ zeros 1), true⟩, some ⟨encB (bytesI 2 l), true⟩]) (id := g.length + 2) (jd := g.length + 3) (n := 2) (m := 2) (sz := 1) (cs := encB (bytesI 1 k ++ zeros 1)) (ys := encB (bytesI 2 l)) (rw := true) (by simp) (by simp [encB_length]) (by simp) (by simp [encB_length]) rfl (by omega) (by omega)
    have b2 := bytes_conv (w := 4) (v := s) (h := g ++ [some ⟨inoC k l s p d, true⟩, some ⟨[], true⟩, none, some ⟨encB (bytesI 2 l), true⟩, some ⟨encB (bytesI 1 k ++ zeros 1) ++ encB (bytesI 2 l), true⟩]) (by omega)
    have p2 := app_of (h := g ++ [some ⟨inoC k l s p d, true⟩, some ⟨[], true⟩, none, some ⟨encB (bytesI 2 l), true⟩, some ⟨encB (bytesI 1 k ++ zeros 1) ++ encB (bytesI 2 l), true⟩, some ⟨encB (bytesI 4 s), true⟩]) (id := g.length + 4) (jd := g.length + 5) (n := 4) (m := 4) (sz := 1) (cs := encB (bytesI 1 k ++ zeros 1) ++ encB (bytesI 2 l)) (ys := encB (bytesI 4 s)) (rw := true) (by simp) (by simp [encB_length]) (by simp) (by simp [encB_length]) rfl (by omega) (by omega)
    have b3 := bytes_conv (w := 2) (v := p) (h := g ++ [some ⟨inoC k l s p d, true⟩, some ⟨[], true⟩, none, some ⟨encB (bytesI 2 l), true⟩, none, some ⟨encB (bytesI 4 s), true⟩, some ⟨encB (bytesI 1 k ++ zeros 1) ++ encB (bytesI 2 l) ++ encB (bytesI 4 s), true⟩]) (by omega)
    have p3 := app_of (h := g ++ [some ⟨inoC k l s p d, true⟩, some ⟨[], true⟩, none, some ⟨encB (bytesI 2 l), true⟩, none, some ⟨encB (bytesI 4 s), true⟩, some ⟨encB (bytesI 1 k ++ zeros 1) ++ encB (bytesI 2 l) ++ encB (bytesI 4 s), true⟩, some ⟨encB (bytesI 2 p), true⟩]) (id := g.length + 6) (jd := g.length + 7) (n := 8) (m := 2) (sz := 1) (cs := encB (bytesI 1 k ++ zeros 1) ++ encB (bytesI 2 l) ++ encB (bytesI 4 s)) (ys := encB (bytesI 2 p)) (rw := true) (by simp) (by simp [encB_length]) (by simp) (by simp [encB_length]) rfl (by omega) (by omega)
    have eh : encB (bytesI 1 k ++ zeros 1) ++ encB (bytesI 2 l) ++ encB (bytesI 4 s) ++ encB (bytesI 2 p) = encB (inoH k l s p ++ inoD (d.take 0)) := by
      rw [← encB_append, ← encB_append, ← encB_append]
      simp [inoH, inoD]
    rw [eh] at p3
    obtain ⟨v', h', f1, f2⟩ := ref16_Put_loop (g := g) (k := k) (l := l) (s := s) (p := p) (q := N) hd 6 0 N (g ++ [some ⟨inoC k l s p d, true⟩, some ⟨[], true⟩, none, some ⟨encB (bytesI 2 l), true⟩, none, some ⟨encB (bytesI 4 s), true⟩, none, some ⟨encB (bytesI 2 p), true⟩, some ⟨encB (inoH k l s p ++ inoD (d.take 0)), true⟩]) (g.length + 8) (by omega) (by omega)
      (by have := (Low.refl (h := g ++ [some (Row.mk (inoC k l s p d) true)]) (Nat.le_refl _)).new [some ⟨[], true⟩, none, some ⟨encB (bytesI 2 l), true⟩, none, some ⟨encB (bytesI 4 s), true⟩, none, some ⟨encB (bytesI 2 p), true⟩, some ⟨encB (inoH k l s p ++ inoD (d.take 0)), true⟩]
          simpa using this) (by simp) (by simp)
    simp only [esc, Int.cast_ofNat_Int] at b1 b2 b3 p1 p2 p3
    rw [R_escheatref16_Put_eq]
    exact ⟨v', h', by simp only [esc, esh, Nat.reduceAdd, Nat.reduceMul, Nat.reduceLT, e0, ef, b1, p1, b2, p2, b3, p3]; exact f1, f2⟩
  obtain ⟨v, g', e, ho⟩ := key (h.length + 8) (by omega) (ro h)
  exact S_escheatref16_Put_out e (by simpa [ro_length] using ho) (by simp)

theorem atG_field {b : List UInt8} {a w : Nat} (h1 : a + w ≤ b.length) (hw : 1 ≤ w) (hw4 : w ≤ 4) : ((atG b a w : Nat) : Int) = fieldN b a w := by
  unfold atG fieldN
  rw [if_pos ⟨by omega, thereI_true.2 (by omega)⟩]
  simp only [Int.toNat_natCast]

theorem ref16_At {v : Val} {nv : Nat} {b : List UInt8} {h : Heap} (hv : Has h v 1 nv (encB b)) (hb : b.length = 32) (a w : Nat) (h1 : a + w ≤ 32) (hw : 1 ≤ w) (hw4 : w ≤ 4) :
    S_escheatref01_At [v, .c (.i .i64 a), .c (.i .i64 w)] h = some (.c (.i .i64 (fieldN b a w)), h) := by
  rw [ref01_AtG hv (by omega), atG_field (by omega) hw hw4]

theorem ref16_Get_loop {g : Heap} {v : Val} {nv : Nat} {b : List UInt8} {k l s p : Int} {z : List Cell} {q : Nat} (hv : Has g v 1 nv (encB b)) (hb : b.length = 32) (hz : z.length = 11) : ∀ e i m : Nat, i + e = 6 → e < m →
    escheatref16_Get_l0 q m v (.c (.p g.length 0)) (.c (.p (g.length + 1) 0)) (.c (.i .i64 i)) (g ++ [some ⟨z, true⟩, some ⟨inoC k l s p ((getD7 b).take i ++ zI (7 - i)), true⟩]) =
      some (.a (inoC k l s p (getD7 b)), g ++ [some ⟨inoC k l s p (getD7 b), true⟩, some ⟨inoC k l s p (getD7 b), true⟩])
  | e, i, 0, _, hm => by omega
  | 0, i, m + 1, hi, hm => by
    have e0 : i = 6 := by omega
    subst e0
    have h1' : ¬ ((6 : Nat) : Int) < 6 := by omega
    have ha := ref16_At (hv.more [some ⟨z, true⟩, some ⟨inoC k l s p ((getD7 b).take 6 ++ zI (7 - 6)), true⟩]) hb 22 2 (by omega) (by omega) (by omega)
    simp only [Int.cast_ofNat_Int] at ha
    have ho : (encI ((getD7 b).take 6 ++ zI (7 - 6))).length = 7 := by simp [encI_length, getD7_length, zI_length]
    have hg6 : (getD7 b)[6]'(by rw [getD7_length]; omega) = fieldN b 22 2 := by
      have := getD7_get (b := b) (i := 6) (by omega)
      rw [List.getElem?_eq_getElem (by rw [getD7_length]; omega)] at this
      exact Option.some.inj this
    have es : (inoC k l s p ((getD7 b).take 6 ++ zI (7 - 6))).set 10 (.i .i64 (fieldN b 22 2)) = inoC k l s p (getD7 b) := by
      have h1 := inoC_set (k := k) (l := l) (s := s) (p := p) (x := fieldN b 22 2) (d := (getD7 b).take 6 ++ zI (7 - 6)) (i := 6)
      rw [show 4 + 6 = 10 from rfl] at h1
      rw [h1, ← hg6, take_pad_set getD7_length (by omega)]
      have : (getD7 b).take (6 + 1) ++ zI (7 - (6 + 1)) = getD7 b := by rw [List.take_of_length_le (by rw [getD7_length]; omega)]; simp [zI]
      rw [this]
    rw [escheatref16_Get_l0_eq]
    simp only [esc, esh, Nat.reduceAdd, Nat.reduceMul, Nat.reduceLT, h1', ha, ho, es, hz, encI_length, getD7_length]
  | e + 1, i, m + 1, hi, hm => by
    have ih := ref16_Get_loop (k := k) (l := l) (s := s) (p := p) (q := q) hv hb hz e (i + 1) m (by omega) (by omega)
    have h1' : (i : Int) < 6 := by omega
    have e2 : IntKind.wrap .i64 (2 * (i : Int)) = ((2 * i : Nat) : Int) := by rw [wrap_i64 (by omega) (by omega)]; omega
    have e3 : IntKind.wrap .i64 (10 + ((2 * i : Nat) : Int)) = ((10 + 2 * i : Nat) : Int) := by rw [wrap_i64 (by omega) (by omega)]; omega
    have ha := ref16_At (hv.more [some ⟨z, true⟩, some ⟨inoC k l s p ((getD7 b).take i ++ zI (7 - i)), true⟩]) hb (10 + 2 * i) 2 (by omega) (by omega) (by omega)
    rw [show ((2 : Nat) : Int) = 2 from rfl] at ha
    have a1 : aiAddrA 6 1 (.c (.p (g.length + 1) 4)) (.c (.i .i64 (i : Int))) = some (.c (.p (g.length + 1) (4 + i))) := by rw [iAddrA_of (by omega)]; simp
    have ho : (encI ((getD7 b).take i ++ zI (7 - i))).length = 7 := by simp [encI_length, getD7_length, zI_length]; omega
    have ho2 : 4 + i < 11 := by omega
    have hgi : (getD7 b)[i]'(by rw [getD7_length]; omega) = fieldN b (10 + 2 * i) 2 := by
      have := getD7_get (b := b) (i := i) (by omega)
      rw [List.getElem?_eq_getElem (by rw [getD7_length]; omega)] at this
      exact Option.some.inj this
    have es : (inoC k l s p ((getD7 b).take i ++ zI (7 - i))).set (4 + i) (.i .i64 (fieldN b (10 + 2 * i) 2)) = inoC k l s p ((getD7 b).take (i + 1) ++ zI (7 - (i + 1))) := by
      rw [inoC_set, ← hgi, take_pad_set getD7_length (by omega)]
    rw [escheatref16_Get_l0_eq]
    simp only [esc, esh, Nat.reduceAdd, Nat.reduceMul, Nat.reduceLT, h1', e2, e3, ha, a1, ho, ho2, es, wi_succ (show i + 1 < 9223372036854775808 by omega)]
    exact ih

theorem ref16_Get_eq {v : Val} {nv : Nat} {b : List UInt8} {h : Heap} (hv : Has h v 1 nv (encB b)) (hb : b.length = 32) : S_escheatref16_Get [v] h = some (.a (inoC (getK b) (getL b) (getS b) (getP b) (getD7 b)), h) := by
  have key : ∀ N, 7 < N → ∀ g, Has g v 1 nv (encB b) → ∃ g', R_escheatref16_Get N [v] g = some (.a (inoC (getK b) (getL b) (getS b) (getP b) (getD7 b)), g') := by
    intro N hN g hv
    have z11 : [Cell.i .i64 0, .i .i64 0, .i .i64 0, .i .i64 0, .i .i64 0, .i .i64 0, .i .i64 0, .i .i64 0, .i .i64 0, .i .i64 0, .i .i64 0] = inoC 0 0 0 0 (zI 7) := rfl
    have l11 : (inoC 0 0 0 0 (zI 7)).length = 11 := rfl
    have hv1 := hv.more [some ⟨inoC 0 0 0 0 (zI 7), true⟩]
    have a1 := ref16_At hv1 hb 0 1 (by omega) (by omega) (by omega)
    have a2 := ref16_At hv1 hb 2 2 (by omega) (by omega) (by omega)
    have a3 := ref16_At hv1 hb 4 4 (by omega) (by omega) (by omega)
    have a4 := ref16_At hv1 hb 8 2 (by omega) (by omega) (by omega)
    simp only [Int.cast_ofNat_Int] at a1 a2 a3 a4
    have ef : afill (inoC 0 0 0 0 (zI 7)) [(0, 1, .c (.i .i64 (fieldN b 0 1))), (1, 1, .c (.i .i64 (fieldN b 2 2))), (2, 1, .c (.i .i64 (fieldN b 4 4))), (3, 1, .c (.i .i64 (fieldN b 8 2)))] = some (inoC (getK b) (getL b) (getS b) (getP b) (zI 7)) := rfl
    have lf : (inoC (getK b) (getL b) (getS b) (getP b) (zI 7)).length = 11 := rfl
    have := ref16_Get_loop (k := getK b) (l := getL b) (s := getS b) (p := getP b) (z := inoC 0 0 0 0 (zI 7)) (q := N) hv hb l11 6 0 N (by omega) (by omega)
    simp only [List.take_zero, List.nil_append, Nat.sub_zero] at this
    rw [R_escheatref16_Get_eq, z11]
    generalize inoC 0 0 0 0 (zI 7) = y at *
    exact ⟨_, by simp only [esc, esh, Nat.reduceAdd, Nat.reduceMul, Nat.reduceLT, a1, a2, a3, a4, ef, l11, lf]; exact this⟩
  obtain ⟨g', e⟩ := key (h.length + 8) (by omega) (ro h) hv.ro
  exact S_escheatref16_Get_flat e (by simp)

theorem ref16_Clean_eq {v : Val} {nv : Nat} {b : List UInt8} {h : Heap} (hv : Has h v 1 nv (encB b)) (hb : b.length = 32) : S_escheatref16_Clean [v] h = some (.t [.a (cleanC b), .c (.b (cleanI b))], h) := by
  have key : ∀ g, Has g v 1 nv (encB b) → ∃ g', R_escheatref16_Clean 0 [v] g = some (.t [.a (cleanC b), .c (.b (cleanI b))], g') := by
    intro g hv
    have hI : (inoC (getK b) (getL b) (getS b) (getP b) (getD7 b)).length = 11 := by simp [encI_length, getD7_length]
    have z11 : [Cell.i .i64 0, .i .i64 0, .i .i64 0, .i .i64 0, .i .i64 0, .i .i64 0, .i .i64 0, .i .i64 0, .i .i64 0, .i .i64 0, .i .i64 0] = inoC 0 0 0 0 (zI 7) := rfl
    have l11 : (inoC 0 0 0 0 (zI 7)).length = 11 := rfl
    have af := afill_ino
    rw [z11] at af
    have hg := ref16_Get_eq (hv.more [some ⟨inoC 0 0 0 0 (zI 7), true⟩]) hb
    have hm := fun h => ref16_May_eq (h := h) (k := getK b) (l := getL b) (s := getS b) (p := getP b) (d := getD7 b) getD7_length
    have hp := fun h => ref16_Put_eq (h := h) (k := getK b) (l := getL b) (s := getS b) (p := getP b) (d := getD7 b) getD7_length
    have hB : (inoB (getK b) (getL b) (getS b) (getP b) (getD7 b)).length = 32 := inoB_length getD7_length
    rw [R_escheatref16_Clean_eq, z11]
    unfold cleanC cleanI
    cases c : mayI (getK b) (getL b) (getS b) (getP b) (getD7 b) with
    | false =>
      simp only [c] at hm
      generalize inoC 0 0 0 0 (zI 7) = y at *
      exact ⟨_, by simp only [esc, esh, Nat.reduceAdd, Nat.reduceMul, Nat.reduceLT, hg, hI, l11, hm, af, Bool.false_and] <;> rfl⟩
    | true =>
      simp only [c] at hm
      have hS := ref01_Same_eq (h := g ++ [some ⟨inoC 0 0 0 0 (zI 7), true⟩, some ⟨inoC (getK b) (getL b) (getS b) (getP b) (getD7 b), true⟩, some ⟨encB (inoB (getK b) (getL b) (getS b) (getP b) (getD7 b)), true⟩]) (v := .c (.sl (g.length + 2) 0 32 1)) (nv := 32) (u := v) (nu := nv) (l := inoB (getK b) (getL b) (getS b) (getP b) (getD7 b)) (r := b)
        (Has.tr (by simp) (by rw [encB_length, hB]) (noX_encB _)) (hv.more _) (by rw [hB]; omega)
      generalize inoC 0 0 0 0 (zI 7) = y at *
      cases c2 : decide (inoB (getK b) (getL b) (getS b) (getP b) (getD7 b) = b) with
      | false =>
        rw [c2] at hS
        exact ⟨_, by simp only [esc, esh, Nat.reduceAdd, Nat.reduceMul, Nat.reduceLT, hg, hI, l11, hm, hp, hS, af, Bool.and_false] <;> rfl⟩
      | true =>
        rw [c2] at hS
        exact ⟨_, by simp only [esc, esh, Nat.reduceAdd, Nat.reduceMul, Nat.reduceLT, hg, hI, l11, hm, hp, hS, Bool.and_true] <;> rfl⟩
  obtain ⟨g', e⟩ := key (ro h) hv.ro
  exact S_escheatref16_Clean_flat e (by simp [flats_cleanC])

end Go.Proofs.Ytdgggnlbdoiloaa
end
section
namespace Go.Proofs.Ytdgggnlbdoiloaa
open Go Go.Esc
set_option maxRecDepth 100000
def escheatref17_Raw_o0 : List AOper := [{ dst := some 4, op := .nilrow 1 }]
def escheatref17_Raw_c0 : ACode := .ops escheatref17_Raw_o0
def escheatref17_Raw_o1 : List AOper := [{ dst := some 5, op := .mv (.t 1) }, { dst := some 6, op := .bin .lss (.t 5) (.v (.c (.i .i64 0))) }, { dst := some 7, op := .mv (.t 6) }, { dst := some 8, op := .mv (.t 1), guard := some (7, false) }, { dst := some 9, op := .bin .gtr (.t 8) (.v (.c (.i .i64 7))), guard := some (7, false) }, { dst := some 10, op := .pick (.t 7) (.v (.c (.b true))) (.t 9) }]
def escheatref17_Raw_c1 : ACode := .ops escheatref17_Raw_o1
def escheatref17_Raw_o2 : List AOper := [{ dst := some 4, op := .nilrow 1 }]
def escheatref17_Raw_c2 : ACode := .ops escheatref17_Raw_o2
def escheatref17_Raw_c3 : ACode := .seq [4] escheatref17_Raw_c2 .ret
def escheatref17_Raw_c4 : ACode := .cond (.t 10) escheatref17_Raw_c3 .skip
def escheatref17_Raw_c5 : ACode := .seq [0, 1, 10] escheatref17_Raw_c1 escheatref17_Raw_c4
def escheatref17_Raw_o3 : List AOper := [{ dst := some 11, op := .mv (.t 0) }, { dst := some 12, op := .mv (.t 1) }, { dst := some 13, op := .bin .mul (.v (.c (.i .i64 32))) (.t 12) }, { dst := some 14, op := .call 144 [(.t 11), (.t 13), (.v (.c (.i .i64 32)))] }, { dst := some 4, op := .mv (.t 14) }]
def escheatref17_Raw_c6 : ACode := .ops escheatref17_Raw_o3
def escheatref17_Raw_c7 : ACode := .seq [4] escheatref17_Raw_c6 .ret
def escheatref17_Raw_c8 : ACode := .seq [0, 1] escheatref17_Raw_c5 escheatref17_Raw_c7
def escheatref17_Raw_c9 : ACode := .seq [0, 1] escheatref17_Raw_c0 escheatref17_Raw_c8
def A_escheatref17_Raw : AFn := ⟨escheatref17_Raw_c9, [.tmp 4]⟩
noncomputable def E_escheatref17_Raw : Sums := disp 144 S_escheatref01_Cut disp0
noncomputable def escheatref17_Raw_c0_d (n : Nat) : SmV := smOps E_escheatref17_Raw escheatref17_Raw_o0
noncomputable def escheatref17_Raw_c1_d (n : Nat) : SmV := smOps E_escheatref17_Raw escheatref17_Raw_o1
noncomputable def escheatref17_Raw_c2_d (n : Nat) : SmV := smOps E_escheatref17_Raw escheatref17_Raw_o2
noncomputable def escheatref17_Raw_c3_d (n : Nat) : SmV := smSeq [4] (escheatref17_Raw_c2_d n) smRet
noncomputable def escheatref17_Raw_c4_d (n : Nat) : SmV := smCond (.t 10) (escheatref17_Raw_c3_d n) smSkip
noncomputable def escheatref17_Raw_c5_d (n : Nat) : SmV := smSeq [0, 1, 10] (escheatref17_Raw_c1_d n) (escheatref17_Raw_c4_d n)
noncomputable def escheatref17_Raw_c6_d (n : Nat) : SmV := smOps E_escheatref17_Raw escheatref17_Raw_o3
noncomputable def escheatref17_Raw_c7_d (n : Nat) : SmV := smSeq [4] (escheatref17_Raw_c6_d n) smRet
noncomputable def escheatref17_Raw_c8_d (n : Nat) : SmV := smSeq [0, 1] (escheatref17_Raw_c5_d n) (escheatref17_Raw_c7_d n)
noncomputable def escheatref17_Raw_c9_d (n : Nat) : SmV := smSeq [0, 1] (escheatref17_Raw_c0_d n) (escheatref17_Raw_c8_d n)
noncomputable def R_escheatref17_Raw (n : Nat) (args : List Val) (h : Heap) : OptV := (escheatref17_Raw_c9_d n) A_escheatref17_Raw.fin (params 0 args) h
theorem R_escheatref17_Raw_eq (n : Nat) (a0 a1 : Val) (h : Heap) : R_escheatref17_Raw n [a0, a1] h = bnd (abin .lss a1 (.c (.i .i64 0))) fun v1 => bnd (gd v1 false (some (a1, (h ++ [some (Row.mk ([]) true)]))) (some (.no, (h ++ [some (Row.mk ([]) true)])))) fun p2 => bnd (gd v1 false (bnd (abin .gtr p2.1 (.c (.i .i64 7))) fun v3 => some (v3, p2.2)) (some (.no, p2.2))) fun p4 => bnd (apick v1 (.c (.b true)) p4.1) fun v5 => cnd v5 (some (((.c (.sl p4.2.length 0 0 1))), (p4.2 ++ [some (Row.mk ([]) true)]))) (bnd (abin .mul (.c (.i .i64 32)) a1) fun v6 => bnd (S_escheatref01_Cut [a0, v6, .c (.i .i64 32)] p4.2) fun p7 => some (p7.1, p7.2)) := by kernel_rfl
theorem K_escheatref17_Raw : FnK Try.prog 116 A_escheatref17_Raw E_escheatref17_Raw R_escheatref17_Raw := .mk' (sound1 S_escheatref01_Cut_ok sound0) Try.func116 (by kernel_rfl) (by intro n args h; kernel_rfl)
noncomputable def S_escheatref17_Raw : Fun := tidy (Lim A_escheatref17_Raw E_escheatref17_Raw)
theorem S_escheatref17_Raw_ok : SOk Try.prog 116 S_escheatref17_Raw := K_escheatref17_Raw.sok
theorem S_escheatref17_Raw_out {n : Nat} {args : List Val} {h h2 : Heap} {v : Val} {sz k : Nat} {cs : List Cell} (he : R_escheatref17_Raw n args (ro h) = some (v, h2)) (ho : Out h.length h2 v sz k cs) (hf : flats cs = true) : S_escheatref17_Raw args h = some (.c (.sl h.length 0 k sz), h ++ [some ⟨cs, true⟩]) := K_escheatref17_Raw.out he ho hf
def escheatref17_Get_o0 : List AOper := [{ dst := some 4, op := .alloc ([.i .i64 0, .i .i64 0, .i .i64 0, .i .i64 0, .i .i64 0, .i .i64 0, .i .i64 0, .i .i64 0, .i .i64 0, .i .i64 0, .i .i64 0]) }, { dst := some 5, op := .mv (.v (.c (.b false))) }]
def escheatref17_Get_c0 : ACode := .ops escheatref17_Get_o0
def escheatref17_Get_o1 : List AOper := [{ dst := some 6, op := .mv (.t 1) }, { dst := some 7, op := .bin .lss (.t 6) (.v (.c (.i .i64 0))) }, { dst := some 8, op := .mv (.t 7) }, { dst := some 9, op := .mv (.t 1), guard := some (8, false) }, { dst := some 10, op := .bin .gtr (.t 9) (.v (.c (.i .i64 7))), guard := some (8, false) }, { dst := some 11, op := .pick (.t 8) (.v (.c (.b true))) (.t 10) }]
def escheatref17_Get_c1 : ACode := .ops escheatref17_Get_o1
def escheatref17_Get_o2 : List AOper := [{ dst := some 12, op := .build ([.i .i64 0, .i .i64 0, .i .i64 0, .i .i64 0, .i .i64 0, .i .i64 0, .i .i64 0, .i .i64 0, .i .i64 0, .i .i64 0, .i .i64 0]) [] }, { dst := none, op := .storeN 11 (.t 4) (.t 12) }, { dst := some 5, op := .mv (.v (.c (.b false))) }]
def escheatref17_Get_c2 : ACode := .ops escheatref17_Get_o2
def escheatref17_Get_c3 : ACode := .seq [4, 5] escheatref17_Get_c2 .ret
def escheatref17_Get_c4 : ACode := .cond (.t 11) escheatref17_Get_c3 .skip
def escheatref17_Get_c5 : ACode := .seq [0, 1, 4, 11] escheatref17_Get_c1 escheatref17_Get_c4
def escheatref17_Get_o3 : List AOper := [{ dst := some 13, op := .mv (.t 0) }, { dst := some 14, op := .mv (.t 1) }, { dst := some 15, op := .call 116 [(.t 13), (.t 14)] }, { dst := some 16, op := .call 115 [(.t 15)] }, { dst := some 17, op := .ext (.t 16) 0 }, { dst := some 18, op := .ext (.t 16) 1 }, { dst := none, op := .storeN 11 (.t 4) (.t 17) }, { dst := some 5, op := .mv (.t 18) }]
def escheatref17_Get_c6 : ACode := .ops escheatref17_Get_o3
def escheatref17_Get_c7 : ACode := .seq [4, 5] escheatref17_Get_c6 .ret
def escheatref17_Get_c8 : ACode := .seq [0, 1, 4] escheatref17_Get_c5 escheatref17_Get_c7
def escheatref17_Get_c9 : ACode := .seq [0, 1, 4] escheatref17_Get_c0 escheatref17_Get_c8
def A_escheatref17_Get : AFn := ⟨escheatref17_Get_c9, [.cellN 4 11, .tmp 5]⟩
noncomputable def E_escheatref17_Get : Sums := disp 116 S_escheatref17_Raw (disp 115 S_escheatref16_Clean disp0)
noncomputable def escheatref17_Get_c0_d (n : Nat) : SmV := smOps E_escheatref17_Get escheatref17_Get_o0
noncomputable def escheatref17_Get_c1_d (n : Nat) : SmV := smOps E_escheatref17_Get escheatref17_Get_o1
noncomputable def escheatref17_Get_c2_d (n : Nat) : SmV := smOps E_escheatref17_Get escheatref17_Get_o2
noncomputable def escheatref17_Get_c3_d (n : Nat) : SmV := smSeq [4, 5] (escheatref17_Get_c2_d n) smRet
noncomputable def escheatref17_Get_c4_d (n : Nat) : SmV := smCond (.t 11) (escheatref17_Get_c3_d n) smSkip
noncomputable def escheatref17_Get_c5_d (n : Nat) : SmV := smSeq [0, 1, 4, 11] (escheatref17_Get_c1_d n) (escheatref17_Get_c4_d n)
noncomputable def escheatref17_Get_c6_d (n : Nat) : SmV := smOps E_escheatref17_Get escheatref17_Get_o3
noncomputable def escheatref17_Get_c7_d (n : Nat) : SmV := smSeq [4, 5] (escheatref17_Get_c6_d n) smRet
noncomputable def escheatref17_Get_c8_d (n : Nat) : SmV := smSeq [0, 1, 4] (escheatref17_Get_c5_d n) (escheatref17_Get_c7_d n)
noncomputable def escheatref17_Get_c9_d (n : Nat) : SmV := smSeq [0, 1, 4] (escheatref17_Get_c0_d n) (escheatref17_Get_c8_d n)
noncomputable def R_escheatref17_Get (n : Nat) (args : List Val) (h : Heap) : OptV := (escheatref17_Get_c9_d n) A_escheatref17_Get.fin (params 0 args) h
theorem R_escheatref17_Get_eq (n : Nat) (a0 a1 : Val) (h : Heap) : R_escheatref17_Get n [a0, a1] h = bnd (abin .lss a1 (.c (.i .i64 0))) fun v1 => bnd (gd v1 false (some (a1, (h ++ [some (Row.mk ([.i .i64 0, .i .i64 0, .i .i64 0, .i .i64 0, .i .i64 0, .i .i64 0, .i .i64 0, .i .i64 0, .i .i64 0, .i .i64 0, .i .i64 0]) true)]))) (some (.no, (h ++ [some (Row.mk ([.i .i64 0, .i .i64 0, .i .i64 0, .i .i64 0, .i .i64 0, .i .i64 0, .i .i64 0, .i .i64 0, .i .i64 0, .i .i64 0, .i .i64 0]) true)])))) fun p2 => bnd (gd v1 false (bnd (abin .gtr p2.1 (.c (.i .i64 7))) fun v3 => some (v3, p2.2)) (some (.no, p2.2))) fun p4 => bnd (apick v1 (.c (.b true)) p4.1) fun v5 => cnd v5 (bnd (afill ([.i .i64 0, .i .i64 0, .i .i64 0, .i .i64 0, .i .i64 0, .i .i64 0, .i .i64 0, .i .i64 0, .i .i64 0, .i .i64 0, .i .i64 0]) []) fun c6 => bnd (astoreN p4.2 11 ((.c (.p h.length 0))) ((.a c6))) fun h7 => tupN [aloadN h7 11 ((.c (.p h.length 0))), some (.c (.b false))] h7) (bnd (S_escheatref17_Raw [a0, a1] p4.2) fun p8 => bnd (S_escheatref16_Clean [p8.1] p8.2) fun p9 => bnd (aext p9.1 0) fun v10 => bnd (aext p9.1 1) fun v11 => bnd (astoreN p9.2 11 ((.c (.p h.length 0))) v10) fun h12 => tupN [aloadN h12 11 ((.c (.p h.length 0))), some v11] h12) := by kernel_rfl
theorem K_escheatref17_Get : FnK Try.prog 74 A_escheatref17_Get E_escheatref17_Get R_escheatref17_Get := .mk' (sound1 S_escheatref17_Raw_ok (sound1 S_escheatref16_Clean_ok sound0)) Try.func74 (by kernel_rfl) (by intro n args h; kernel_rfl)
noncomputable def S_escheatref17_Get : Fun := tidy (Lim A_escheatref17_Get E_escheatref17_Get)
theorem S_escheatref17_Get_ok : SOk Try.prog 74 S_escheatref17_Get := K_escheatref17_Get.sok
theorem S_escheatref17_Get_flat {n : Nat} {args : List Val} {h h2 : Heap} {v : Val} (he : R_escheatref17_Get n args (ro h) = some (v, h2)) (hf : v.flat = true) : S_escheatref17_Get args h = some (v, h) := K_escheatref17_Get.flat he hf
end Go.Proofs.Ytdgggnlbdoiloaa
end
section
namespace Go.Proofs.Ytdgggnlbdoiloaa
open Go Go.Esc

theorem cut_raw {b : List UInt8} {j : Nat} : cutB b ((32 * j : Nat) : Int) 32 = rawT b j := by
  unfold cutB rawT
  rw [if_pos (by omega)]
  rfl

theorem ref17_Raw_at {x : Val} {n j : Nat} {b : List UInt8} {h : Heap} (hv : Has h x 1 n (encB b)) (hb : b.length = 256) (hj : j < 8) : S_escheatref17_Raw [x, .c (.i .i64 j)] h = some (.c (.sl h.length 0 32 1), h ++ [some ⟨encB (rawT b j), true⟩]) := by
  have hR := rawT_length hb hj
  have key : ∀ g, Has g x 1 n (encB b) → ∃ v g', R_escheatref17_Raw 0 [x, .c (.i .i64 j)] g = some (v, g') ∧ Out g.length g' v 1 32 (encB (rawT b j)) := by
    intro g hv
    have c1 : ¬ (j : Int) < 0 := by omega
    have c2 : ¬ (7 : Int) < j := by omega
    have w1 : IntKind.wrap .i64 (32 * (j : Int)) = ((32 * j : Nat) : Int) := by rw [wrap_i64 (by omega) (by omega)]; omega
    have hC := ref01_Cut_eq (h := g ++ [some (Row.mk [] true)]) (hv.more _) (a := ((32 * j : Nat) : Int)) (n := 32) (by omega) (by omega)
    rw [cut_raw, hR] at hC
    simp only [esc] at hC
    rw [R_escheatref17_Raw_eq]
    exact ⟨_, _, by simp only [esc, esh, Nat.reduceAdd, Nat.reduceMul, Nat.reduceLT, c1, c2, w1, hC] <;> rfl, by rw [encB_length, hR], _, rfl, by omega, by simp⟩
  obtain ⟨v, g', e, ho⟩ := key (ro h) hv.ro
  exact S_escheatref17_Raw_out e (by simpa [ro_length] using ho) (by simp)

theorem ref17_Get_at {x : Val} {n j : Nat} {b : List UInt8} {h : Heap} (hv : Has h x 1 n (encB b)) (hb : b.length = 256) (hj : j < 8) : S_escheatref17_Get [x, .c (.i .i64 j)] h = some (.t [.a (cleanC (rawT b j)), .c (.b (cleanI (rawT b j)))], h) := by
  have key : ∀ g, Has g x 1 n (encB b) → ∃ g', R_escheatref17_Get 0 [x, .c (.i .i64 j)] g = some (.t [.a (cleanC (rawT b j)), .c (.b (cleanI (rawT b j)))], g') := by
    intro g hv
    have c1 : ¬ (j : Int) < 0 := by omega
    have c2 : ¬ (7 : Int) < j := by omega
    have hl := ino0_length
    have hcl := cleanC_length (b := rawT b j)
    rw [R_escheatref17_Get_eq, ino0_eq]
    generalize inoC 0 0 0 0 (zI 7) = z at *
    have hR := ref17_Raw_at (h := g ++ [some (Row.mk z true)]) (hv.more _) hb hj
    have hC := ref16_Clean_eq (h := g ++ [some (Row.mk z true), some (Row.mk (encB (rawT b j)) true)]) (v := .c (.sl (g.length + 1) 0 32 1)) (nv := 32) (b := rawT b j) (Has.tr (by simp) (by rw [encB_length, rawT_length hb hj]) (noX_encB _)) (rawT_length hb hj)
    simp only [esc] at hR
    exact ⟨_, by simp only [esc, esh, Nat.reduceAdd, Nat.reduceMul, Nat.reduceLT, c1, c2, hR, hC, hl, hcl] <;> rfl⟩
  obtain ⟨g', e⟩ := key (ro h) hv.ro
  exact S_escheatref17_Get_flat e (by simp [flats_cleanC])

end Go.Proofs.Ytdgggnlbdoiloaa
end
section
namespace Go.Proofs.Ytdgggnlbdoiloaa
open Go Go.Esc
set_option maxRecDepth 100000
def escheatref21_Layout_o0 : List AOper := [{ dst := some 2, op := .alloc ([.i .i64 0, .i .i64 0, .i .u64 0]) }, { dst := some 3, op := .mv (.v (.c (.b false))) }]
def escheatref21_Layout_c0 : ACode := .ops escheatref21_Layout_o0
def escheatref21_Layout_o1 : List AOper := [{ dst := some 6, op := .mv (.t 0) }, { dst := some 7, op := .len (.t 6) }, { dst := some 8, op := .bin .eql (.t 7) (.v (.c (.i .i64 0))) }]
def escheatref21_Layout_c1 : ACode := .ops escheatref21_Layout_o1
def escheatref21_Layout_o2 : List AOper := [{ dst := some 9, op := .build ([.i .i64 0, .i .i64 0, .i .u64 0]) [] }, { dst := none, op := .storeN 3 (.t 2) (.t 9) }, { dst := some 3, op := .mv (.v (.c (.b false))) }]
def escheatref21_Layout_c2 : ACode := .ops escheatref21_Layout_o2
def escheatref21_Layout_c3 : ACode := .seq [2, 3] escheatref21_Layout_c2 .ret
def escheatref21_Layout_c4 : ACode := .cond (.t 8) escheatref21_Layout_c3 .skip
def escheatref21_Layout_c5 : ACode := .seq [0, 2, 8] escheatref21_Layout_c1 escheatref21_Layout_c4
def escheatref21_Layout_o3 : List AOper := [{ dst := some 11, op := .mv (.t 0) }, { dst := some 12, op := .iAddrL 256 (.t 11) (.v (.c (.i .i64 0))) }, { dst := some 13, op := .slA 256 1 (.t 12) none none }, { dst := some 14, op := .call 69 [(.t 13)] }, { dst := some 10, op := .mv (.t 14) }, { dst := some 15, op := .ext (.t 10) 0 }, { dst := some 16, op := .ext (.t 10) 1 }, { dst := some 4, op := .alloc ([.i .i64 0, .i .i64 0, .i .u64 0]) }, { dst := none, op := .storeN 3 (.t 4) (.t 15) }, { dst := some 5, op := .mv (.t 16) }]
def escheatref21_Layout_c6 : ACode := .ops escheatref21_Layout_o3
def escheatref21_Layout_o4 : List AOper := [{ dst := some 17, op := .mv (.t 5) }, { dst := some 18, op := .un .not (.t 17) }, { dst := some 19, op := .mv (.t 18) }, { dst := some 20, op := .fAddr (.t 4) 0, guard := some (19, false) }, { dst := some 21, op := .load1 (.t 20), guard := some (19, false) }, { dst := some 22, op := .mv (.t 0), guard := some (19, false) }, { dst := some 23, op := .len (.t 22), guard := some (19, false) }, { dst := some 24, op := .bin .neq (.t 21) (.t 23), guard := some (19, false) }, { dst := some 25, op := .pick (.t 19) (.v (.c (.b true))) (.t 24) }]
def escheatref21_Layout_c7 : ACode := .ops escheatref21_Layout_o4
def escheatref21_Layout_o5 : List AOper := [{ dst := some 26, op := .build ([.i .i64 0, .i .i64 0, .i .u64 0]) [] }, { dst := none, op := .storeN 3 (.t 2) (.t 26) }, { dst := some 3, op := .mv (.v (.c (.b false))) }]
def escheatref21_Layout_c8 : ACode := .ops escheatref21_Layout_o5
def escheatref21_Layout_c9 : ACode := .seq [2, 3] escheatref21_Layout_c8 .ret
def escheatref21_Layout_c10 : ACode := .cond (.t 25) escheatref21_Layout_c9 .skip
def escheatref21_Layout_c11 : ACode := .seq [2, 4, 25] escheatref21_Layout_c7 escheatref21_Layout_c10
def escheatref21_Layout_o6 : List AOper := [{ dst := some 27, op := .loadN 3 (.t 4) }, { dst := none, op := .storeN 3 (.t 2) (.t 27) }, { dst := some 3, op := .mv (.v (.c (.b true))) }]
def escheatref21_Layout_c12 : ACode := .ops escheatref21_Layout_o6
def escheatref21_Layout_c13 : ACode := .seq [2, 3] escheatref21_Layout_c12 .ret
def escheatref21_Layout_c14 : ACode := .seq [2, 4] escheatref21_Layout_c11 escheatref21_Layout_c13
def escheatref21_Layout_c15 : ACode := .seq [0, 2, 4, 5] escheatref21_Layout_c6 escheatref21_Layout_c14
def escheatref21_Layout_c16 : ACode := .seq [0, 2] escheatref21_Layout_c5 escheatref21_Layout_c15
def escheatref21_Layout_c17 : ACode := .seq [0, 2] escheatref21_Layout_c0 escheatref21_Layout_c16
def A_escheatref21_Layout : AFn := ⟨escheatref21_Layout_c17, [.cellN 2 3, .tmp 3]⟩
noncomputable def E_escheatref21_Layout : Sums := disp 69 S_escheatref14_Get disp0
noncomputable def escheatref21_Layout_c0_d (n : Nat) : SmV := smOps E_escheatref21_Layout escheatref21_Layout_o0
noncomputable def escheatref21_Layout_c1_d (n : Nat) : SmV := smOps E_escheatref21_Layout escheatref21_Layout_o1
noncomputable def escheatref21_Layout_c2_d (n : Nat) : SmV := smOps E_escheatref21_Layout escheatref21_Layout_o2
noncomputable def escheatref21_Layout_c3_d (n : Nat) : SmV := smSeq [2, 3] (escheatref21_Layout_c2_d n) smRet
noncomputable def escheatref21_Layout_c4_d (n : Nat) : SmV := smCond (.t 8) (escheatref21_Layout_c3_d n) smSkip
noncomputable def escheatref21_Layout_c5_d (n : Nat) : SmV := smSeq [0, 2, 8] (escheatref21_Layout_c1_d n) (escheatref21_Layout_c4_d n)
noncomputable def escheatref21_Layout_c6_d (n : Nat) : SmV := smOps E_escheatref21_Layout escheatref21_Layout_o3
noncomputable def escheatref21_Layout_c7_d (n : Nat) : SmV := smOps E_escheatref21_Layout escheatref21_Layout_o4
noncomputable def escheatref21_Layout_c8_d (n : Nat) : SmV := smOps E_escheatref21_Layout escheatref21_Layout_o5
noncomputable def escheatref21_Layout_c9_d (n : Nat) : SmV := smSeq [2, 3] (escheatref21_Layout_c8_d n) smRet
noncomputable def escheatref21_Layout_c10_d (n : Nat) : SmV := smCond (.t 25) (escheatref21_Layout_c9_d n) smSkip
noncomputable def escheatref21_Layout_c11_d (n : Nat) : SmV := smSeq [2, 4, 25] (escheatref21_Layout_c7_d n) (escheatref21_Layout_c10_d n)
noncomputable def escheatref21_Layout_c12_d (n : Nat) : SmV := smOps E_escheatref21_Layout escheatref21_Layout_o6
noncomputable def escheatref21_Layout_c13_d (n : Nat) : SmV := smSeq [2, 3] (escheatref21_Layout_c12_d n) smRet
noncomputable def escheatref21_Layout_c14_d (n : Nat) : SmV := smSeq [2, 4] (escheatref21_Layout_c11_d n) (escheatref21_Layout_c13_d n)
noncomputable def escheatref21_Layout_c15_d (n : Nat) : SmV := smSeq [0, 2, 4, 5] (escheatref21_Layout_c6_d n) (escheatref21_Layout_c14_d n)
noncomputable def escheatref21_Layout_c16_d (n : Nat) : SmV := smSeq [0, 2] (escheatref21_Layout_c5_d n) (escheatref21_Layout_c15_d n)
noncomputable def escheatref21_Layout_c17_d (n : Nat) : SmV := smSeq [0, 2] (escheatref21_Layout_c0_d n) (escheatref21_Layout_c16_d n)
noncomputable def R_escheatref21_Layout (n : Nat) (args : List Val) (h : Heap) : OptV := (escheatref21_Layout_c17_d n) A_escheatref21_Layout.fin (params 0 args) h
theorem R_escheatref21_Layout_eq (n : Nat) (a0 : Val) (h : Heap) : R_escheatref21_Layout n [a0] h = bnd (alen a0) fun v1 => bnd (abin .eql v1 (.c (.i .i64 0))) fun v2 => cnd v2 (bnd (afill ([.i .i64 0, .i .i64 0, .i .u64 0]) []) fun c3 => bnd (astoreN ((h ++ [some (Row.mk ([.i .i64 0, .i .i64 0, .i .u64 0]) true)])) 3 ((.c (.p h.length 0))) ((.a c3))) fun h4 => tupN [aloadN h4 3 ((.c (.p h.length 0))), some (.c (.b false))] h4) (bnd (aiAddrL 256 a0 (.c (.i .i64 0))) fun v5 => bnd (aslA ((h ++ [some (Row.mk ([.i .i64 0, .i .i64 0, .i .u64 0]) true)])) 256 1 v5 none none) fun v6 => bnd (S_escheatref14_Get [v6] ((h ++ [some (Row.mk ([.i .i64 0, .i .i64 0, .i .u64 0]) true)]))) fun p7 => bnd (aext p7.1 0) fun v8 => bnd (aext p7.1 1) fun v9 => bnd (astoreN ((p7.2 ++ [some (Row.mk ([.i .i64 0, .i .i64 0, .i .u64 0]) true)])) 3 ((.c (.p p7.2.length 0))) v8) fun h10 => bnd (aun .not v9) fun v11 => bnd (gd v11 false (bnd (afAddr ((.c (.p p7.2.length 0))) 0) fun v12 => some (v12, h10)) (some (.no, h10))) fun p13 => bnd (gd v11 false (bnd (aload1 p13.2 p13.1) fun v14 => some (v14, p13.2)) (some (.no, p13.2))) fun p15 => bnd (gd v11 false (some (a0, p15.2)) (some (.no, p15.2))) fun p16 => bnd (gd v11 false (bnd (alen p16.1) fun v17 => some (v17, p16.2)) (some (.no, p16.2))) fun p18 => bnd (gd v11 false (bnd (abin .neq p15.1 p18.1) fun v19 => some (v19, p18.2)) (some (.no, p18.2))) fun p20 => bnd (apick v11 (.c (.b true)) p20.1) fun v21 => cnd v21 (bnd (afill ([.i .i64 0, .i .i64 0, .i .u64 0]) []) fun c22 => bnd (astoreN p20.2 3 ((.c (.p h.length 0))) ((.a c22))) fun h23 => tupN [aloadN h23 3 ((.c (.p h.length 0))), some (.c (.b false))] h23) (bnd (aloadN p20.2 3 ((.c (.p p7.2.length 0)))) fun v24 => bnd (astoreN p20.2 3 ((.c (.p h.length 0))) v24) fun h25 => tupN [aloadN h25 3 ((.c (.p h.length 0))), some (.c (.b true))] h25)) := by kernel_rfl
theorem K_escheatref21_Layout : FnK Try.prog 30 A_escheatref21_Layout E_escheatref21_Layout R_escheatref21_Layout := .mk' (sound1 S_escheatref14_Get_ok sound0) Try.func30 (by kernel_rfl) (by intro n args h; kernel_rfl)
noncomputable def S_escheatref21_Layout : Fun := tidy (Lim A_escheatref21_Layout E_escheatref21_Layout)
theorem S_escheatref21_Layout_ok : SOk Try.prog 30 S_escheatref21_Layout := K_escheatref21_Layout.sok
theorem S_escheatref21_Layout_flat {n : Nat} {args : List Val} {h h2 : Heap} {v : Val} (he : R_escheatref21_Layout n args (ro h) = some (v, h2)) (hf : v.flat = true) : S_escheatref21_Layout args h = some (v, h) := K_escheatref21_Layout.flat he hf
def escheatref21_Inode_o0 : List AOper := [{ dst := some 4, op := .box (.t 1) }, { dst := some 6, op := .alloc ([.i .i64 0, .i .i64 0, .i .i64 0, .i .i64 0, .i .i64 0, .i .i64 0, .i .i64 0, .i .i64 0, .i .i64 0, .i .i64 0, .i .i64 0]) }]
def escheatref21_Inode_c0 : ACode := .ops escheatref21_Inode_o0
def escheatref21_Inode_o1 : List AOper := [{ dst := some 13, op := .loadN 3 (.t 4) }, { dst := some 14, op := .mv (.t 2) }, { dst := some 15, op := .call 73 [(.t 13), (.t 14)] }, { dst := some 12, op := .mv (.t 15) }, { dst := some 16, op := .ext (.t 12) 0 }, { dst := some 17, op := .ext (.t 12) 1 }, { dst := some 18, op := .ext (.t 12) 2 }, { dst := some 7, op := .mv (.t 16) }, { dst := some 8, op := .mv (.t 17) }, { dst := some 9, op := .mv (.t 18) }]
def escheatref21_Inode_c1 : ACode := .ops escheatref21_Inode_o1
def escheatref21_Inode_o2 : List AOper := [{ dst := some 19, op := .mv (.t 9) }, { dst := some 20, op := .un .not (.t 19) }, { dst := some 21, op := .mv (.t 20) }, { dst := some 22, op := .mv (.t 7), guard := some (21, false) }, { dst := some 23, op := .mv (.t 0), guard := some (21, false) }, { dst := some 24, op := .len (.t 23), guard := some (21, false) }, { dst := some 25, op := .bin .geq (.t 22) (.t 24), guard := some (21, false) }, { dst := some 26, op := .pick (.t 21) (.v (.c (.b true))) (.t 25) }]
def escheatref21_Inode_c2 : ACode := .ops escheatref21_Inode_o2
def escheatref21_Inode_o3 : List AOper := [{ dst := some 27, op := .build ([.i .i64 0, .i .i64 0, .i .i64 0, .i .i64 0, .i .i64 0, .i .i64 0, .i .i64 0, .i .i64 0, .i .i64 0, .i .i64 0, .i .i64 0]) [] }, { dst := none, op := .storeN 11 (.t 6) (.t 27) }]
def escheatref21_Inode_c3 : ACode := .ops escheatref21_Inode_o3
def escheatref21_Inode_c4 : ACode := .seq [6] escheatref21_Inode_c3 .ret
def escheatref21_Inode_c5 : ACode := .cond (.t 26) escheatref21_Inode_c4 .skip
def escheatref21_Inode_c6 : ACode := .seq [0, 6, 7, 8, 26] escheatref21_Inode_c2 escheatref21_Inode_c5
def escheatref21_Inode_o4 : List AOper := [{ dst := some 29, op := .mv (.t 0) }, { dst := some 30, op := .mv (.t 7) }, { dst := some 31, op := .iAddrL 256 (.t 29) (.t 30) }, { dst := some 32, op := .slA 256 1 (.t 31) none none }, { dst := some 33, op := .mv (.t 8) }, { dst := some 34, op := .call 74 [(.t 32), (.t 33)] }, { dst := some 28, op := .mv (.t 34) }, { dst := some 35, op := .ext (.t 28) 0 }, { dst := some 36, op := .ext (.t 28) 1 }, { dst := some 10, op := .alloc ([.i .i64 0, .i .i64 0, .i .i64 0, .i .i64 0, .i .i64 0, .i .i64 0, .i .i64 0, .i .i64 0, .i .i64 0, .i .i64 0, .i .i64 0]) }, { dst := none, op := .storeN 11 (.t 10) (.t 35) }, { dst := some 11, op := .mv (.t 36) }]
def escheatref21_Inode_c7 : ACode := .ops escheatref21_Inode_o4
def escheatref21_Inode_o5 : List AOper := [{ dst := some 37, op := .loadN 11 (.t 10) }, { dst := none, op := .storeN 11 (.t 6) (.t 37) }]
def escheatref21_Inode_c8 : ACode := .ops escheatref21_Inode_o5
def escheatref21_Inode_c9 : ACode := .seq [6] escheatref21_Inode_c8 .ret
def escheatref21_Inode_c10 : ACode := .seq [6, 10] escheatref21_Inode_c7 escheatref21_Inode_c9
def escheatref21_Inode_c11 : ACode := .seq [0, 6, 7, 8] escheatref21_Inode_c6 escheatref21_Inode_c10
def escheatref21_Inode_c12 : ACode := .seq [0, 6, 7, 8, 9] escheatref21_Inode_c1 escheatref21_Inode_c11
def escheatref21_Inode_c13 : ACode := .seq [0, 2, 4, 6] escheatref21_Inode_c0 escheatref21_Inode_c12
def A_escheatref21_Inode : AFn := ⟨escheatref21_Inode_c13, [.cellN 6 11]⟩
noncomputable def E_escheatref21_Inode : Sums := disp 73 S_escheatref15_Where (disp 74 S_escheatref17_Get disp0)
noncomputable def escheatref21_Inode_c0_d (n : Nat) : SmV := smOps E_escheatref21_Inode escheatref21_Inode_o0
noncomputable def escheatref21_Inode_c1_d (n : Nat) : SmV := smOps E_escheatref21_Inode escheatref21_Inode_o1
noncomputable def escheatref21_Inode_c2_d (n : Nat) : SmV := smOps E_escheatref21_Inode escheatref21_Inode_o2
noncomputable def escheatref21_Inode_c3_d (n : Nat) : SmV := smOps E_escheatref21_Inode escheatref21_Inode_o3
noncomputable def escheatref21_Inode_c4_d (n : Nat) : SmV := smSeq [6] (escheatref21_Inode_c3_d n) smRet
noncomputable def escheatref21_Inode_c5_d (n : Nat) : SmV := smCond (.t 26) (escheatref21_Inode_c4_d n) smSkip
noncomputable def escheatref21_Inode_c6_d (n : Nat) : SmV := smSeq [0, 6, 7, 8, 26] (escheatref21_Inode_c2_d n) (escheatref21_Inode_c5_d n)
noncomputable def escheatref21_Inode_c7_d (n : Nat) : SmV := smOps E_escheatref21_Inode escheatref21_Inode_o4
noncomputable def escheatref21_Inode_c8_d (n : Nat) : SmV := smOps E_escheatref21_Inode escheatref21_Inode_o5
noncomputable def escheatref21_Inode_c9_d (n : Nat) : SmV := smSeq [6] (escheatref21_Inode_c8_d n) smRet
noncomputable def escheatref21_Inode_c10_d (n : Nat) : SmV := smSeq [6, 10] (escheatref21_Inode_c7_d n) (escheatref21_Inode_c9_d n)
noncomputable def escheatref21_Inode_c11_d (n : Nat) : SmV := smSeq [0, 6, 7, 8] (escheatref21_Inode_c6_d n) (escheatref21_Inode_c10_d n)
noncomputable def escheatref21_Inode_c12_d (n : Nat) : SmV := smSeq [0, 6, 7, 8, 9] (escheatref21_Inode_c1_d n) (escheatref21_Inode_c11_d n)
noncomputable def escheatref21_Inode_c13_d (n : Nat) : SmV := smSeq [0, 2, 4, 6] (escheatref21_Inode_c0_d n) (escheatref21_Inode_c12_d n)
noncomputable def R_escheatref21_Inode (n : Nat) (args : List Val) (h : Heap) : OptV := (escheatref21_Inode_c13_d n) A_escheatref21_Inode.fin (params 0 args) h
theorem R_escheatref21_Inode_eq (n : Nat) (a0 a1 a2 : Val) (h : Heap) : R_escheatref21_Inode n [a0, a1, a2] h = bnd (cells? a1) fun c1 => bnd (aloadN (((h ++ [some (Row.mk (c1) true)]) ++ [some (Row.mk ([.i .i64 0, .i .i64 0, .i .i64 0, .i .i64 0, .i .i64 0, .i .i64 0, .i .i64 0, .i .i64 0, .i .i64 0, .i .i64 0, .i .i64 0]) true)])) 3 ((.c (.p h.length 0)))) fun v2 => bnd (S_escheatref15_Where [v2, a2] (((h ++ [some (Row.mk (c1) true)]) ++ [some (Row.mk ([.i .i64 0, .i .i64 0, .i .i64 0, .i .i64 0, .i .i64 0, .i .i64 0, .i .i64 0, .i .i64 0, .i .i64 0, .i .i64 0, .i .i64 0]) true)]))) fun p3 => bnd (aext p3.1 0) fun v4 => bnd (aext p3.1 1) fun v5 => bnd (aext p3.1 2) fun v6 => bnd (aun .not v6) fun v7 => bnd (gd v7 false (some (v4, p3.2)) (some (.no, p3.2))) fun p8 => bnd (gd v7 false (some (a0, p8.2)) (some (.no, p8.2))) fun p9 => bnd (gd v7 false (bnd (alen p9.1) fun v10 => some (v10, p9.2)) (some (.no, p9.2))) fun p11 => bnd (gd v7 false (bnd (abin .geq p8.1 p11.1) fun v12 => some (v12, p11.2)) (some (.no, p11.2))) fun p13 => bnd (apick v7 (.c (.b true)) p13.1) fun v14 => cnd v14 (bnd (afill ([.i .i64 0, .i .i64 0, .i .i64 0, .i .i64 0, .i .i64 0, .i .i64 0, .i .i64 0, .i .i64 0, .i .i64 0, .i .i64 0, .i .i64 0]) []) fun c15 => bnd (astoreN p13.2 11 ((.c (.p ((h ++ [some (Row.mk (c1) true)])).length 0))) ((.a c15))) fun h16 => mp (aloadN h16 11 ((.c (.p ((h ++ [some (Row.mk (c1) true)])).length 0)))) fun v => (v, h16)) (bnd (aiAddrL 256 a0 v4) fun v17 => bnd (aslA p13.2 256 1 v17 none none) fun v18 => bnd (S_escheatref17_Get [v18, v5] p13.2) fun p19 => bnd (aext p19.1 0) fun v20 => bnd (aext p19.1 1) fun v21 => bnd (astoreN ((p19.2 ++ [some (Row.mk ([.i .i64 0, .i .i64 0, .i .i64 0, .i .i64 0, .i .i64 0, .i .i64 0, .i .i64 0, .i .i64 0, .i .i64 0, .i .i64 0, .i .i64 0]) true)])) 11 ((.c (.p p19.2.length 0))) v20) fun h22 => bnd (aloadN h22 11 ((.c (.p p19.2.length 0)))) fun v23 => bnd (astoreN h22 11 ((.c (.p ((h ++ [some (Row.mk (c1) true)])).length 0))) v23) fun h24 => mp (aloadN h24 11 ((.c (.p ((h ++ [some (Row.mk (c1) true)])).length 0)))) fun v => (v, h24)) := by kernel_rfl
theorem K_escheatref21_Inode : FnK Try.prog 34 A_escheatref21_Inode E_escheatref21_Inode R_escheatref21_Inode := .mk' (sound1 S_escheatref15_Where_ok (sound1 S_escheatref17_Get_ok sound0)) Try.func34 (by kernel_rfl) (by intro n args h; kernel_rfl)
noncomputable def S_escheatref21_Inode : Fun := tidy (Lim A_escheatref21_Inode E_escheatref21_Inode)
theorem S_escheatref21_Inode_ok : SOk Try.prog 34 S_escheatref21_Inode := K_escheatref21_Inode.sok
theorem S_escheatref21_Inode_flat {n : Nat} {args : List Val} {h h2 : Heap} {v : Val} (he : R_escheatref21_Inode n args (ro h) = some (v, h2)) (hf : v.flat = true) : S_escheatref21_Inode args h = some (v, h) := K_escheatref21_Inode.flat he hf
def escheatref21_Used_o0 : List AOper := [{ dst := some 4, op := .mv (.v (.c (.b false))) }]
def escheatref21_Used_c0 : ACode := .ops escheatref21_Used_o0
def escheatref21_Used_o1 : List AOper := [{ dst := some 5, op := .mv (.t 1) }, { dst := some 6, op := .bin .geq (.t 5) (.v (.c (.i .i64 0))) }, { dst := some 7, op := .mv (.t 6) }, { dst := some 8, op := .mv (.t 1), guard := some (7, true) }, { dst := some 9, op := .mv (.t 0), guard := some (7, true) }, { dst := some 10, op := .len (.t 9), guard := some (7, true) }, { dst := some 11, op := .bin .lss (.t 8) (.t 10), guard := some (7, true) }, { dst := some 12, op := .pick (.t 7) (.t 11) (.v (.c (.b false))) }, { dst := some 13, op := .mv (.t 12) }, { dst := some 14, op := .mv (.t 0), guard := some (13, true) }, { dst := some 15, op := .iAddrL 256 (.t 14) (.v (.c (.i .i64 1))), guard := some (13, true) }, { dst := some 16, op := .slA 256 1 (.t 15) none none, guard := some (13, true) }, { dst := some 17, op := .mv (.t 1), guard := some (13, true) }, { dst := some 18, op := .call 75 [(.t 16), (.t 17)], guard := some (13, true) }, { dst := some 19, op := .pick (.t 13) (.t 18) (.v (.c (.b false))) }, { dst := some 4, op := .mv (.t 19) }]
def escheatref21_Used_c1 : ACode := .ops escheatref21_Used_o1
def escheatref21_Used_c2 : ACode := .seq [4] escheatref21_Used_c1 .ret
def escheatref21_Used_c3 : ACode := .seq [0, 1] escheatref21_Used_c0 escheatref21_Used_c2
def A_escheatref21_Used : AFn := ⟨escheatref21_Used_c3, [.tmp 4]⟩
noncomputable def E_escheatref21_Used : Sums := disp 75 S_escheatref04_Has disp0
noncomputable def escheatref21_Used_c0_d (n : Nat) : SmV := smOps E_escheatref21_Used escheatref21_Used_o0
noncomputable def escheatref21_Used_c1_d (n : Nat) : SmV := smOps E_escheatref21_Used escheatref21_Used_o1
noncomputable def escheatref21_Used_c2_d (n : Nat) : SmV := smSeq [4] (escheatref21_Used_c1_d n) smRet
noncomputable def escheatref21_Used_c3_d (n : Nat) : SmV := smSeq [0, 1] (escheatref21_Used_c0_d n) (escheatref21_Used_c2_d n)
noncomputable def R_escheatref21_Used (n : Nat) (args : List Val) (h : Heap) : OptV := (escheatref21_Used_c3_d n) A_escheatref21_Used.fin (params 0 args) h
theorem R_escheatref21_Used_eq (n : Nat) (a0 a1 : Val) (h : Heap) : R_escheatref21_Used n [a0, a1] h = bnd (abin .geq a1 (.c (.i .i64 0))) fun v1 => bnd (gd v1 true (some (a1, h)) (some (.no, h))) fun p2 => bnd (gd v1 true (some (a0, p2.2)) (some (.no, p2.2))) fun p3 => bnd (gd v1 true (bnd (alen p3.1) fun v4 => some (v4, p3.2)) (some (.no, p3.2))) fun p5 => bnd (gd v1 true (bnd (abin .lss p2.1 p5.1) fun v6 => some (v6, p5.2)) (some (.no, p5.2))) fun p7 => bnd (apick v1 p7.1 (.c (.b false))) fun v8 => bnd (gd v8 true (some (a0, p7.2)) (some (.no, p7.2))) fun p9 => bnd (gd v8 true (bnd (aiAddrL 256 p9.1 (.c (.i .i64 1))) fun v10 => some (v10, p9.2)) (some (.no, p9.2))) fun p11 => bnd (gd v8 true (bnd (aslA p11.2 256 1 p11.1 none none) fun v12 => some (v12, p11.2)) (some (.no, p11.2))) fun p13 => bnd (gd v8 true (some (a1, p13.2)) (some (.no, p13.2))) fun p14 => bnd (gd v8 true (bnd (S_escheatref04_Has [p13.1, p14.1] p14.2) fun p15 => some (p15.1, p15.2)) (some (.no, p14.2))) fun p16 => bnd (apick v8 p16.1 (.c (.b false))) fun v17 => some (v17, p16.2) := by kernel_rfl
theorem K_escheatref21_Used : FnK Try.prog 35 A_escheatref21_Used E_escheatref21_Used R_escheatref21_Used := .mk' (sound1 S_escheatref04_Has_ok sound0) Try.func35 (by kernel_rfl) (by intro n args h; kernel_rfl)
noncomputable def S_escheatref21_Used : Fun := tidy (Lim A_escheatref21_Used E_escheatref21_Used)
theorem S_escheatref21_Used_ok : SOk Try.prog 35 S_escheatref21_Used := K_escheatref21_Used.sok
theorem S_escheatref21_Used_flat {n : Nat} {args : List Val} {h h2 : Heap} {v : Val} (he : R_escheatref21_Used n args (ro h) = some (v, h2)) (hf : v.flat = true) : S_escheatref21_Used args h = some (v, h) := K_escheatref21_Used.flat he hf
end Go.Proofs.Ytdgggnlbdoiloaa
end
section
namespace Go.Proofs.Ytdgggnlbdoiloaa
open Go Go.Esc

theorem has_row {h : Heap} {v : Val} {D : Dev} (hv : Has h v 256 D.length (cellsD D)) (hD : okD D) {i : Nat} (hi : i < D.length) :
    ∃ a u, aiAddrL 256 v (.c (.i .i64 (i : Int))) = some a ∧ aslA h 256 1 a none none = some u ∧ Has h u 1 256 (encB D[i]) := by
  rcases hv with ⟨_, h0, _⟩ | ⟨id, off, r, rfl, hr, h1, h2, h3, h4⟩
  · omega
  · have hle : off + i * 256 + 256 * 1 ≤ r.cells.length := by omega
    refine ⟨.c (.p id (off + i * 256)), .c (.sl id (off + i * 256) 256 1), iAddrL_of hi, ?_, ?_⟩
    · simp only [aslA, hr, Option.bind_some, bound]
      rw [if_pos ⟨by omega, by omega, hle⟩]; simp
    · refine Has.part (cs := r.cells) (rw := r.rw) hr hle ?_ (noX_encB _)
      rw [← cellsD_at hD hi, ← h3, List.drop_take, List.take_take, List.drop_drop]
      congr 1
      omega

theorem devL_nil : devL [] = false := by decide +kernel

theorem ref21_Layout_eq {v : Val} {D : Dev} {h : Heap} (hv : Has h v 256 D.length (cellsD D)) (hD : okD D) :
    S_escheatref21_Layout [v] h = some (.t [.a (bif devL D then layC D.length (devN D) (devM D) else layC 0 0 0), .c (.b (devL D))], h) := by
  have key : ∀ g, Has g v 256 D.length (cellsD D) → ∃ g', R_escheatref21_Layout 0 [v] g = some (.t [.a (bif devL D then layC D.length (devN D) (devM D) else layC 0 0 0), .c (.b (devL D))], g') := by
    intro g hv
    have hl := hv.len
    have ef : afill [Cell.i .i64 0, .i .i64 0, .i .u64 0] [] = some [Cell.i .i64 0, .i .i64 0, .i .u64 0] := rfl
    rw [R_escheatref21_Layout_eq]
    cases D with
    | nil =>
      rw [devL_nil]
      have z0 : ((([] : Dev).length : Nat) : Int) = 0 := rfl
      exact ⟨_, by simp only [esc, esh, Nat.reduceAdd, Nat.reduceMul, Nat.reduceLT, hl, z0, eq_self, ef, layC] <;> rfl⟩
    | cons b E =>
      have h0 : 0 < (b :: E).length := by simp
      have c0 : ¬ (((b :: E).length : Nat) : Int) = 0 := by omega
      have hv2 := hv.more [some (Row.mk [.i .i64 0, .i .i64 0, .i .u64 0] true)]
      obtain ⟨a, u, a1, s1, hu⟩ := has_row hv2 hD h0
      have z0 : ((0 : Nat) : Int) = 0 := rfl
      rw [z0] at a1
      have hG := ref14_Get_eq (h := g ++ [some (Row.mk [.i .i64 0, .i .i64 0, .i .u64 0] true)]) hu (hD.at h0)
      rw [List.getElem_cons_zero] at hG
      clear hu
      have ed : devL (b :: E) = (okS b && decide (fieldN b 8 2 = (((b :: E).length : Nat) : Int))) := rfl
      have en : devN (b :: E) = fieldN b 10 2 := rfl
      have em : devM (b :: E) = fieldN b 12 8 := rfl
      rw [ed, en, em]
      generalize hN : (b :: E).length = N at *
      cases ho : okS b with
      | false =>
        rw [ho, layS_no ho] at hG
        unfold layC at *
        exact ⟨_, by simp only [esc, esh, Nat.reduceAdd, Nat.reduceMul, Nat.reduceLT, hl, c0, a1, s1, hG, ef, Bool.false_and] <;> rfl⟩
      | true =>
        rw [ho, layS_ok ho] at hG
        by_cases c1 : fieldN b 8 2 = (N : Int)
        · unfold layC at *
          rw [c1] at hG ⊢
          exact ⟨_, by simp only [esc, esh, Nat.reduceAdd, Nat.reduceMul, Nat.reduceLT, hl, c0, a1, s1, hG, ef, eq_self] <;> rfl⟩
        · unfold layC at *
          exact ⟨_, by simp only [esc, esh, Nat.reduceAdd, Nat.reduceMul, Nat.reduceLT, hl, c0, a1, s1, hG, ef, c1, Bool.true_and] <;> rfl⟩
  obtain ⟨g', e⟩ := key (ro h) hv.ro
  refine S_escheatref21_Layout_flat e ?_
  cases devL D <;> rfl

theorem whereB_lt {D : Dev} {n i : Int} (hi : isInoL D.length n i = true) : ∃ k : Nat, whereB D.length n i = k ∧ k < D.length := by
  have h := hi
  unfold isInoL mayL at h
  simp only [Bool.and_eq_true, decide_eq_true_eq] at h
  have e : whereB D.length n i = 2 + (i - 1) / 8 := by unfold whereB; rw [hi]; rfl
  refine ⟨(whereB D.length n i).toNat, ?_, ?_⟩ <;> rw [e] <;> omega

theorem ref21_Inode_eq {v : Val} {D : Dev} {n m i : Int} {h : Heap} (hv : Has h v 256 D.length (cellsD D)) (hD : okD D) : S_escheatref21_Inode [v, .a (layC D.length n m), .c (.i .i64 i)] h = some (.a (inoV D n i), h) := by
  have key : ∀ g, Has g v 256 D.length (cellsD D) → ∃ g', R_escheatref21_Inode 0 [v, .a (layC D.length n m), .c (.i .i64 i)] g = some (.a (inoV D n i), g') := by
    intro g hv
    have hlen := hv.len
    have l3 : (layC D.length n m).length = 3 := rfl
    have hW := fun h => ref15_Where_eq (b := D.length) (n := n) (m := m) (i := i) (h := h)
    have hf := afill_ino0
    have hl := ino0_length
    rw [R_escheatref21_Inode_eq, ino0_eq]
    cases hi : isInoL D.length n i with
    | false =>
      have ei : inoV D n i = inoC 0 0 0 0 (zI 7) := by unfold inoV; rw [hi]; rfl
      rw [ei]
      simp only [hi] at hW
      generalize layC D.length n m = L at *
      generalize inoC 0 0 0 0 (zI 7) = z at *
      exact ⟨_, by simp only [esc, esh, Nat.reduceAdd, Nat.reduceMul, Nat.reduceLT, l3, hW, hf, hl] <;> rfl⟩
    | true =>
      simp only [hi] at hW
      obtain ⟨k, hk, hkl⟩ := whereB_lt hi
      have hK : ∃ j : Nat, whereK D.length n i = j ∧ j < 8 := by
        refine ⟨(whereK D.length n i).toNat, ?_, ?_⟩ <;> unfold whereK <;> rw [hi, cond_true] <;> omega
      obtain ⟨j, hj, hj8⟩ := hK
      have er : rawT D[k] j = rawV D n i := by unfold rawV; rw [hj, hk, Int.toNat_natCast, blk_at hkl]
      have ei : inoV D n i = cleanC (rawT D[k] j) := by unfold inoV; rw [hi, er]; rfl
      have hcl := cleanC_length (b := rawT D[k] j)
      have hv2 := hv.more [some (Row.mk (layC D.length n m) true), some (Row.mk (inoC 0 0 0 0 (zI 7)) true)]
      obtain ⟨a, u, a1, s1, hu⟩ := has_row hv2 hD hkl
      have hG := ref17_Get_at hu (hD.at hkl) hj8
      have c1 : ¬ ((D.length : Nat) : Int) ≤ (k : Int) := by omega
      simp only [hk, hj] at hW
      rw [ei]
      generalize layC D.length n m = L at *
      generalize inoC 0 0 0 0 (zI 7) = z at *
      generalize cleanC (rawT D[k] j) = y at *
      exact ⟨_, by simp only [esc, esh, Nat.reduceAdd, Nat.reduceMul, Nat.reduceLT, l3, hW, hlen, c1, a1, s1, hG, hl, hcl] <;> rfl⟩
  obtain ⟨g', e⟩ := key (ro h) hv.ro
  exact S_escheatref21_Inode_flat e (flats_inoV D n i)

theorem ref21_Used_eq {v : Val} {D : Dev} {n i : Int} {h : Heap} (hv : Has h v 256 D.length (cellsD D)) (hD : okD D) (hm : mayL D.length n = true) : S_escheatref21_Used [v, .c (.i .i64 i)] h = some (.c (.b (usedV D n i)), h) := by
  have h16 : 1 < D.length := by
    unfold mayL at hm
    simp only [Bool.and_eq_true, decide_eq_true_eq] at hm
    omega
  have key : ∀ g, Has g v 256 D.length (cellsD D) → ∃ g', R_escheatref21_Used 0 [v, .c (.i .i64 i)] g = some (.c (.b (usedV D n i)), g') := by
    intro g hv
    have hlen := hv.len
    obtain ⟨a, u, a1, s1, hu⟩ := has_row hv hD h16
    have z1 : ((1 : Nat) : Int) = 1 := rfl
    rw [z1] at a1
    have hH := ref04_Has_eq (i := i) hu (hD.at h16)
    have eb : blk D 1 = D[1] := blk_at h16
    rw [R_escheatref21_Used_eq]
    unfold usedV
    rw [hm, eb]
    by_cases c1 : 0 ≤ i
    · by_cases c2 : i < D.length
      · exact ⟨_, by simp only [esc, c1, c2, hlen, a1, s1, hH, Bool.true_and] <;> rfl⟩
      · exact ⟨_, by simp only [esc, c1, c2, hlen, Bool.true_and, Bool.false_and] <;> rfl⟩
    · exact ⟨_, by simp only [esc, c1, Bool.true_and, Bool.false_and] <;> rfl⟩
  obtain ⟨g', e⟩ := key (ro h) hv.ro
  exact S_escheatref21_Used_flat e rfl

end Go.Proofs.Ytdgggnlbdoiloaa
end
