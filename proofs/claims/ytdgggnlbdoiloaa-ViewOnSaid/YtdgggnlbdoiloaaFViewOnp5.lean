/- What the proof of this claim leans on, part 5. -/
import Derived.Test.YtdgggnlbdoiloaaFViewOnp4
set_option linter.all false
section
namespace Go.Proofs.Ytdgggnlbdoiloaa
open Go Go.Esc

theorem on_j1 {D : Dev} {b n m n0 n1 many : Int} {f1 f2 : Cell} {q p3 p5 p8 p9 p10 p11 : Nat} {h : Heap} (hD : okD D) (h3 : rd h p3 = some ⟨layC b n m, true⟩) (h5 : rd h p5 = some ⟨encI [n0, n1], true⟩) (h8 : rd h p8 = some ⟨vwC b n m f1, true⟩) (h9 : rd h p9 = some ⟨vwC b n m f2, true⟩) (h10 : rd h p10 = some ⟨vwC 0 0 0 .nf, true⟩)
    (hf1 : IsOn h f1 D n0 n1) (hf2 : IsNo h f2) (h11 : rd h p11 = some ⟨encB (if 0 ≤ n0 ∧ n0 < b then blkO D n1 n0 else zeros 256), true⟩) (hmany : many = if mayL b n = true then b else 0) :
    ∃ h', el21_ViewOn_j1 q (.c (.p p3 0)) (.c (.p p5 0)) (.c (.p p8 0)) (.c (.p p9 0)) (.c (.p p10 0)) (.c (.p p11 0)) (.c (.i .i64 many)) h = some (.c (.b true), h') := by
  have hwl : (if 0 ≤ n0 ∧ n0 < b then blkO D n1 n0 else zeros 256).length = 256 := by
    split
    · exact blkO_length hD
    · exact zeros_length
  have b1 := blockO_some (b := b) (n := n) (m := m) (no := n0) hD hf1
  have b2 := blockO_none (b := b) (n := n) (m := m) (no := n0) hf2
  have b3 := blockO_nf (b := 0) (n := 0) (m := 0) (no := n0) (h := h)
  generalize (if 0 ≤ n0 ∧ n0 < b then blkO D n1 n0 else zeros 256) = w at *
  have hw : (encB w).length = 256 := by rw [encB_length, hwl]
  have a8 := loadAll (n := 4) h8 rfl
  have a9 := loadAll (n := 4) h9 rfl
  have a10 := loadAll (n := 4) h10 rfl
  have a11 := loadAll (n := 256) h11 hw
  have ad : aiAddrA 2 1 (.c (.p p5 0)) (.c (.i .i64 0)) = some (.c (.p p5 0)) := rfl
  have a5 : aload1 h (.c (.p p5 0)) = some (.c (.i .i64 n0)) := load1_of h5 rfl rfl
  have a3 := loadAll (n := 3) h3 rfl
  have a83 : aloadN h 3 (.c (.p p8 0)) = some (.a (layC b n m)) := by rw [loadN_of h8 (by simp [vwC]) rfl]; rfl
  have fa : afAddr (.c (.p p8 0)) 0 = some (.c (.p p8 0)) := rfl
  have q1 := aeq_f (l := w) (m := w) (n := 256) hwl hwl
  rw [decide_eq_true rfl] at q1
  have q2 := aeq_f (l := zeros 256) (m := zeros 256) (n := 256) zeros_length zeros_length
  rw [decide_eq_true rfl] at q2
  have q3 := aeq_layC (b := b) (n := n) (m := m)
  have ef : afill (encB (zeros 256)) [] = some (encB (zeros 256)) := rfl
  have m00 : mayL 0 0 = false := by decide
  have i1 := imageO_zero (b := 0) (n := 0) (m := 0) (f := .nf) (h := h) m00
  have g1 := quiet_grows (h := h) (v := .c (.sl h.length 0 0 256)) (Grows.rfl'.new [])
  have z0 : (((0 : Nat) : Int) = 0) = True := eq_true rfl
  rw [el21_ViewOn_j1_eq, zeros_enc]
  cases hm : mayL b n with
  | false =>
    rw [hm, if_neg (by simp)] at hmany
    have i2 := imageO_zero (b := b) (n := n) (m := m) (f := f1) (h := h ++ [some ⟨[], true⟩]) hm
    have g2 := quiet_grows (h := h ++ [some ⟨[], true⟩]) (v := .c (.sl (h ++ [some (Row.mk [] true)]).length 0 0 256)) (Grows.rfl'.new [])
    simp only [esc] at i2 g2
    generalize encB (zeros 256) = z at *
    generalize encB w = y at *
    generalize vwC 0 0 0 .nf = V0 at *
    generalize vwC b n m f1 = V1 at *
    generalize vwC b n m f2 = V2 at *
    generalize layC b n m = L at *
    generalize List.replicate 256 (Sh.i .u8) = sh at *
    exact ⟨_, by simp only [esc, eq_self, hmany, a8, ad, a5, b1, a11, q1, a9, b2, ef, q2, a10, b3, i1, g1, z0, i2, g2, fa, a83, a3, q3, works21_eq] <;> rfl⟩
  | true =>
    rw [hm, if_pos rfl] at hmany
    have hb : ∃ N : Nat, b = N := by
      unfold mayL at hm
      simp only [Bool.and_eq_true, decide_eq_true_eq] at hm
      exact ⟨b.toNat, by omega⟩
    obtain ⟨N, rfl⟩ := hb
    obtain ⟨F, i2⟩ := imageO_eq (n := n) (m := m) (h := h ++ [some ⟨[], true⟩]) hD (hf1.more _) hm
    have g2 := quiet_grows (h := h ++ [some ⟨[], true⟩]) (v := .c (.sl (h ++ [some (Row.mk [] true)]).length 0 N 256)) (Grows.rfl'.new (cellsD F))
    simp only [esc] at i2 g2
    generalize cellsD F = CF at *
    generalize encB (zeros 256) = z at *
    generalize encB w = y at *
    generalize vwC 0 0 0 .nf = V0 at *
    generalize vwC (N : Int) n m f1 = V1 at *
    generalize vwC (N : Int) n m f2 = V2 at *
    generalize layC (N : Int) n m = L at *
    generalize List.replicate 256 (Sh.i .u8) = sh at *
    exact ⟨_, by simp only [esc, eq_self, hmany, a8, ad, a5, b1, a11, q1, a9, b2, ef, q2, a10, b3, i1, g1, z0, i2, g2, fa, a83, a3, q3, works21_eq] <;> rfl⟩

theorem on_j0 {D : Dev} {b n m n0 n1 : Int} {f1 f2 : Cell} {q p3 p5 p8 p9 p10 p11 : Nat} {h : Heap} (hD : okD D) (h3 : rd h p3 = some ⟨layC b n m, true⟩) (h5 : rd h p5 = some ⟨encI [n0, n1], true⟩) (h8 : rd h p8 = some ⟨vwC b n m f1, true⟩) (h9 : rd h p9 = some ⟨vwC b n m f2, true⟩) (h10 : rd h p10 = some ⟨vwC 0 0 0 .nf, true⟩)
    (hf1 : IsOn h f1 D n0 n1) (hf2 : IsNo h f2) (h11 : rd h p11 = some ⟨encB (if 0 ≤ n0 ∧ n0 < b then blkO D n1 n0 else zeros 256), true⟩) :
    ∃ h', el21_ViewOn_j0 q (.c (.p p3 0)) (.c (.p p5 0)) (.c (.p p8 0)) (.c (.p p9 0)) (.c (.p p10 0)) (.c (.p p11 0)) h = some (.c (.b true), h') := by
  have a3 := loadAll (n := 3) h3 rfl
  have hM := ref14_May_eq (b := b) (n := n) (m := m) (h := h)
  have fa : afAddr (.c (.p p3 0)) 0 = some (.c (.p p3 0)) := rfl
  have a30 : aload1 h (.c (.p p3 0)) = some (.c (.i .i64 b)) := load1_of h3 rfl rfl
  obtain ⟨h', e⟩ := on_j1 (q := q) hD h3 h5 h8 h9 h10 hf1 hf2 h11 rfl
  rw [el21_ViewOn_j0_eq]
  cases hm : mayL b n with
  | false =>
    rw [hm, if_neg (by simp)] at e
    rw [hm] at hM
    exact ⟨h', by simp only [bnd_some, a3, hM, cnd_f]; exact e⟩
  | true =>
    rw [hm, if_pos rfl] at e
    rw [hm] at hM
    exact ⟨h', by simp only [bnd_some, a3, hM, cnd_t, fa, a30]; exact e⟩

set_option maxHeartbeats 1000000 in
theorem viewOn_eq {v : Val} {D : Dev} {b n m n0 n1 : Int} {h : Heap} (hv : Has h v 256 D.length (cellsD D)) (hD : okD D) : S_el21_ViewOn [.a (layC b n m), v, .a (encI [n0, n1])] h = some (.c (.b true), h) := by
  have key : ∀ g, Has g v 256 D.length (cellsD D) → ∃ g', R_el21_ViewOn 0 [.a (layC b n m), v, .a (encI [n0, n1])] g = some (.c (.b true), g') := by
    intro g hv
    have hl := hv.len
    rw [R_el21_ViewOn_eq, zeros_enc]
    by_cases c0 : (60 : Int) < (D.length : Nat)
    · generalize layC b n m = L at *
      generalize encI [n0, n1] = N at *
      exact ⟨_, by simp only [esc, hl, c0, works21_eq] <;> rfl⟩
    · have hT := to_eq (hv.more [some (Row.mk (layC b n m) true), some (Row.mk (encI [n0, n1]) true)]) hD (by omega)
      have hLl : (layC b n m).length = 3 := rfl
      have s0 : st1 (some (Row.mk [.ns] true)) 0 (.sl (g.length + 2) 0 D.length 256) = some ⟨[.sl (g.length + 2) 0 D.length 256], true⟩ := rfl
      have emk : amkf 40 [.c (.p (g.length + 1) 0), .c (.p (g.length + 3) 0)] = some (.c (.f 40 [(g.length + 1, 0), (g.length + 3, 0)])) := rfl
      generalize hG : (Cell.f 40 [(g.length + 1, 0), (g.length + 3, 0)]) = G at *
      have hO1 := view_On_eq (b := b) (n := n) (m := m) (f := G) (h := g ++ [some (Row.mk (layC b n m) true), some (Row.mk (encI [n0, n1]) true), some (Row.mk (cellsD D) true), some (Row.mk [.sl (g.length + 2) 0 D.length 256] true)])
      simp only [esc] at hO1
      generalize hf1e : (Cell.f 77 [(g.length + 5, 0)]) = f1 at *
      have hO2 := view_On_eq (b := b) (n := n) (m := m) (f := .nf) (h := g ++ [some (Row.mk (layC b n m) true), some (Row.mk (encI [n0, n1]) true), some (Row.mk (cellsD D) true), some (Row.mk [.sl (g.length + 2) 0 D.length 256] true), some (Row.mk (layC b n m) true), some (Row.mk [G] true), some (Row.mk (vwC b n m f1) true), some (Row.mk (vwC b n m f1) true)])
      simp only [esc] at hO2
      generalize hf2e : (Cell.f 77 [(g.length + 9, 0)]) = f2 at *
      have e13 : g.length + 12 + 1 = g.length + 13 := rfl
      have hv41 : (vwC b n m f1).length = 4 := rfl
      have hv42 : (vwC b n m f2).length = 4 := rfl
      have hz4 : [Cell.i .i64 0, .i .i64 0, .i .u64 0, .nf].length = 4 := rfl
      have hz : (encB (zeros 256)).length = 256 := by rw [encB_length]; exact zeros_length
      have ef : afill (encB (zeros 256)) [] = some (encB (zeros 256)) := rfl
      have N0 : (encI [n0, n1])[0]? = some (.i .i64 n0) := rfl
      have N1 : (encI [n0, n1])[1]? = some (.i .i64 n1) := rfl
      have L0 : (layC b n m)[0]? = some (.i .i64 b) := rfl
      have ad0 : ∀ q, aiAddrA 2 1 (.c (.p q 0)) (.c (.i .i64 0)) = some (.c (.p q 0)) := fun q => rfl
      have ad1 : ∀ q, aiAddrA 2 1 (.c (.p q 0)) (.c (.i .i64 1)) = some (.c (.p q 1)) := fun q => rfl
      have vz : [Cell.i .i64 0, .i .i64 0, .i .u64 0, .nf] = vwC 0 0 0 .nf := rfl
      have fin : ∀ w : List UInt8, w = (if 0 ≤ n0 ∧ n0 < b then blkO D n1 n0 else zeros 256) → ∃ h', el21_ViewOn_j0 0 (.c (.p g.length 0)) (.c (.p (g.length + 1) 0)) (.c (.p (g.length + 7) 0)) (.c (.p (g.length + 11) 0)) (.c (.p (g.length + 12) 0)) (.c (.p (g.length + 13) 0))
          (g ++ [some (Row.mk (layC b n m) true), some (Row.mk (encI [n0, n1]) true), some (Row.mk (cellsD D) true), some (Row.mk [.sl (g.length + 2) 0 D.length 256] true), some (Row.mk (layC b n m) true), some (Row.mk [G] true), some (Row.mk (vwC b n m f1) true), some (Row.mk (vwC b n m f1) true), some (Row.mk (layC b n m) true), some (Row.mk [.nf] true), some (Row.mk (vwC b n m f2) true), some (Row.mk (vwC b n m f2) true), some (Row.mk [Cell.i .i64 0, .i .i64 0, .i .u64 0, .nf] true), some (Row.mk (encB w) true)]) = some (.c (.b true), h') := by
        intro w hw
        subst hw
        exact on_j0 (D := D) (b := b) (n := n) (m := m) (n0 := n0) (n1 := n1) (f1 := f1) (f2 := f2) hD (by simp) (by simp) (by simp) (by simp) (by simp [vwC]) ⟨g.length + 5, g.length + 1, g.length + 3, g.length + 2, true, true, true, true, hf1e.symm, by rw [hG]; simp, by simp, by simp, by simp⟩ ⟨g.length + 9, true, hf2e.symm, by simp⟩ (by simp)
      have hBlk : ∀ i : Nat, i < D.length → ∃ x : List UInt8, x = blk D i ∧ x.length = 256 ∧ ldN (some (Row.mk (cellsD D) true)) (i * 256) 256 = some (.a (encB x)) := fun i hi => ⟨D[i], (blk_at hi).symm, hD.at hi, ldN_dev hD hi⟩
      simp only [esc] at hT
      generalize hCD : cellsD D = CD at *
      by_cases c1 : n1 ≤ n0 ∧ 0 ≤ n0 ∧ n0 < D.length ∧ n0 < b
      · obtain ⟨i, rfl⟩ : ∃ i : Nat, n0 = i := ⟨n0.toNat, by omega⟩
        obtain ⟨x, hx, hxl, hld⟩ := hBlk i (by omega)
        obtain ⟨h', e⟩ := fin x (by rw [if_pos ⟨c1.2.1, c1.2.2.2⟩, hx]; unfold blkO; rw [if_neg (by omega)])
        have k1 := c1.1
        have k2 := c1.2.1
        have k3 := c1.2.2.1
        have k4 := c1.2.2.2
        have a1 : aiAddrL 256 (.c (.sl (g.length + 2) 0 D.length 256)) (.c (.i .i64 (i : Int))) = some (.c (.p (g.length + 2) (i * 256))) := by rw [iAddrL_of (by omega), Nat.zero_add]
        have hX : (encB x).length = 256 := by rw [encB_length, hxl]
        refine ⟨h', ?_⟩
        generalize encB (zeros 256) = z at *
        generalize encB x = y at *
        generalize vwC b n m f1 = V1 at *
        generalize vwC b n m f2 = V2 at *
        generalize layC b n m = L at *
        generalize encI [(i : Int), n1] = N at *
        simp only [esc, esh, Nat.reduceAdd, Nat.reduceMul, Nat.reduceLT, hl, c0, hT, s0, hLl, emk, hO1, hO2, e13, hv41, hv42, hz4, hz, ef, N0, N1, L0, ad0, ad1, k1, k2, k3, k4, a1, hld, hX]
        exact e
      · obtain ⟨h', e⟩ := fin (zeros 256) (by
          by_cases c2 : 0 ≤ n0 ∧ n0 < b
          · rw [if_pos c2]
            unfold blkO
            by_cases c3 : n0 < n1
            · rw [if_pos c3]
            · rw [if_neg c3, blk_none (by omega)]
          · rw [if_neg c2])
        refine ⟨h', ?_⟩
        generalize encB (zeros 256) = z at *
        generalize vwC b n m f1 = V1 at *
        generalize vwC b n m f2 = V2 at *
        generalize layC b n m = L at *
        generalize encI [n0, n1] = N at *
        by_cases k1 : n1 ≤ n0
        · by_cases k2 : 0 ≤ n0
          · by_cases k3 : n0 < D.length
            · have k4 : ¬ n0 < b := by omega
              simp only [esc, esh, Nat.reduceAdd, Nat.reduceMul, Nat.reduceLT, hl, c0, hT, s0, hLl, emk, hO1, hO2, e13, hv41, hv42, hz4, hz, ef, N0, N1, L0, ad0, ad1, k1, k2, k3, k4]
              exact e
            · simp only [esc, esh, Nat.reduceAdd, Nat.reduceMul, Nat.reduceLT, hl, c0, hT, s0, hLl, emk, hO1, hO2, e13, hv41, hv42, hz4, hz, ef, N0, N1, L0, ad0, ad1, k1, k2, k3]
              exact e
          · simp only [esc, esh, Nat.reduceAdd, Nat.reduceMul, Nat.reduceLT, hl, c0, hT, s0, hLl, emk, hO1, hO2, e13, hv41, hv42, hz4, hz, ef, N0, N1, L0, ad0, ad1, k1, k2]
            exact e
        · simp only [esc, esh, Nat.reduceAdd, Nat.reduceMul, Nat.reduceLT, hl, c0, hT, s0, hLl, emk, hO1, hO2, e13, hv41, hv42, hz4, hz, ef, N0, N1, L0, ad0, ad1, k1]
          exact e
  obtain ⟨g', e⟩ := key (ro h) hv.ro
  exact S_el21_ViewOn_flat e rfl

end Go.Proofs.Ytdgggnlbdoiloaa
end
section
namespace Go.Proofs.Ytdgggnlbdoiloaa
open Go

def startWords : List Char := (([104, 97, 114, 110, 101, 115, 115, 32, 102, 53, 49, 98, 54, 51, 100, 100, 54, 97, 57, 49, 52, 55, 49, 97, 52, 49, 55, 51, 48, 53, 98, 100, 50, 53, 100, 51, 52, 98, 48, 51, 50, 50, 54, 51, 53, 54, 57, 49, 49, 101, 54, 51, 100, 55, 55, 98, 99, 101, 98, 51, 101, 49, 50, 56, 100, 100, 49, 50, 49, 55, 53, 51, 32, 99, 117, 116, 32, 97, 116, 32, 101, 115, 99, 104, 101, 97, 116, 47, 101, 115, 99, 104, 101, 97, 116, 108, 97, 119, 50, 51, 46, 70, 114, 101, 97, 100, 83, 112, 97, 110, 115, 32, 101, 115, 99, 104, 101, 97, 116, 47, 101, 115, 99, 104, 101, 97, 116, 108, 97, 119, 50, 51, 46, 70, 114, 101, 97, 100, 79, 110, 99, 101, 32, 101, 115, 99, 104, 101, 97, 116, 47, 101, 115, 99, 104, 101, 97, 116, 108, 97, 119, 50, 51, 46, 70, 114, 101, 97, 100, 80, 97, 114, 116, 115, 32, 101, 115, 99, 104, 101, 97, 116, 47, 101, 115, 99, 104, 101, 97, 116, 108, 97, 119, 50, 50, 46, 70, 109, 97, 112, 79, 119, 110, 115, 32, 101, 115, 99, 104, 101, 97, 116, 47, 101, 115, 99, 104, 101, 97, 116, 108, 97, 119, 50, 49, 46, 86, 105, 101, 119, 82, 101, 97, 100, 115, 32, 101, 115, 99, 104, 101, 97, 116, 47, 101, 115, 99, 104, 101, 97, 116, 108, 97, 119, 50, 49, 46, 86, 105, 101, 119, 66, 97, 99, 107, 32, 101, 115, 99, 104, 101, 97, 116, 47, 101, 115, 99, 104, 101, 97, 116, 108, 97, 119, 50, 49, 46, 86, 105, 101, 119, 79, 110, 32, 101, 115, 99, 104, 101, 97, 116, 47, 101, 115, 99, 104, 101, 97, 116, 108, 97, 119, 50, 50, 46, 70, 109, 97, 112, 68, 105, 114, 115, 32, 101, 115, 99, 104, 101, 97, 116, 47, 101, 115, 99, 104, 101, 97, 116, 108, 97, 119, 50, 52, 46, 68, 114, 101, 97, 100, 79, 110, 99, 101] : List Nat).map Char.ofNat)
set_option maxRecDepth 100000
theorem own_ok : ownKnob Try.prog.godebug = none := by kernel_rfl
theorem laid_ok : laidOutB Try.prog = true := by kernel_rfl
theorem start_eq : Try.prog.initOrder = String.ofList startWords := by kernel_rfl
theorem start_list : Try.prog.initOrder.toList = startWords := by rw [start_eq, String.toList_ofList]
def startRest : List (List Char) := (([[99, 117, 116], [97, 116], [101, 115, 99, 104, 101, 97, 116, 47, 101, 115, 99, 104, 101, 97, 116, 108, 97, 119, 50, 51, 46, 70, 114, 101, 97, 100, 83, 112, 97, 110, 115], [101, 115, 99, 104, 101, 97, 116, 47, 101, 115, 99, 104, 101, 97, 116, 108, 97, 119, 50, 51, 46, 70, 114, 101, 97, 100, 79, 110, 99, 101], [101, 115, 99, 104, 101, 97, 116, 47, 101, 115, 99, 104, 101, 97, 116, 108, 97, 119, 50, 51, 46, 70, 114, 101, 97, 100, 80, 97, 114, 116, 115], [101, 115, 99, 104, 101, 97, 116, 47, 101, 115, 99, 104, 101, 97, 116, 108, 97, 119, 50, 50, 46, 70, 109, 97, 112, 79, 119, 110, 115], [101, 115, 99, 104, 101, 97, 116, 47, 101, 115, 99, 104, 101, 97, 116, 108, 97, 119, 50, 49, 46, 86, 105, 101, 119, 82, 101, 97, 100, 115], [101, 115, 99, 104, 101, 97, 116, 47, 101, 115, 99, 104, 101, 97, 116, 108, 97, 119, 50, 49, 46, 86, 105, 101, 119, 66, 97, 99, 107], [101, 115, 99, 104, 101, 97, 116, 47, 101, 115, 99, 104, 101, 97, 116, 108, 97, 119, 50, 49, 46, 86, 105, 101, 119, 79, 110], [101, 115, 99, 104, 101, 97, 116, 47, 101, 115, 99, 104, 101, 97, 116, 108, 97, 119, 50, 50, 46, 70, 109, 97, 112, 68, 105, 114, 115], [101, 115, 99, 104, 101, 97, 116, 47, 101, 115, 99, 104, 101, 97, 116, 108, 97, 119, 50, 52, 46, 68, 114, 101, 97, 100, 79, 110, 99, 101]] : List (List Nat)).map (fun l => l.map Char.ofNat))
theorem split_eq : wordsSigns startWords = (([104, 97, 114, 110, 101, 115, 115] : List Nat).map Char.ofNat) :: (([102, 53, 49, 98, 54, 51, 100, 100, 54, 97, 57, 49, 52, 55, 49, 97, 52, 49, 55, 51, 48, 53, 98, 100, 50, 53, 100, 51, 52, 98, 48, 51, 50, 50, 54, 51, 53, 54, 57, 49, 49, 101, 54, 51, 100, 55, 55, 98, 99, 101, 98, 51, 101, 49, 50, 56, 100, 100, 49, 50, 49, 55, 53, 51] : List Nat).map Char.ofNat) :: startRest := by kernel_rfl
theorem sum_ok : isSumSigns ((([102, 53, 49, 98, 54, 51, 100, 100, 54, 97, 57, 49, 52, 55, 49, 97, 52, 49, 55, 51, 48, 53, 98, 100, 50, 53, 100, 51, 52, 98, 48, 51, 50, 50, 54, 51, 53, 54, 57, 49, 49, 101, 54, 51, 100, 55, 55, 98, 99, 101, 98, 51, 101, 49, 50, 56, 100, 100, 49, 50, 49, 55, 53, 51] : List Nat).map Char.ofNat)) = true := by decide +kernel
theorem harness_ok : ((([104, 97, 114, 110, 101, 115, 115] : List Nat).map Char.ofNat) == "harness".toList) = true := by decide +kernel
theorem behind_gen (h s : List Char) (r : List (List Char)) (h1 : (h == "harness".toList) = true) (h2 : isSumSigns s = true) : behindMainWord (h :: s :: r) = r := by
  unfold behindMainWord
  simp only [h1, h2, Bool.true_or, Bool.true_and, if_true]
theorem behind_eq : behindMainWord (wordsSigns startWords) = startRest := by rw [split_eq]; exact behind_gen _ _ _ harness_ok sum_ok
theorem start_words : behindMainWord (wordsSigns Try.prog.initOrder.toList) = startRest := by rw [start_list]; exact behind_eq
def startTail : List (List Char) := startRest.drop 1
theorem rest_eq : startRest = "cut".toList :: startTail := by decide +kernel
theorem make_gen {P : Program} {rest : List (List Char)} (h : behindMainWord (wordsSigns P.initOrder.toList) = "cut".toList :: rest) : P.make = some .cut := by
  have e1 : ("cut".toList == "gc".toList) = false := by decide +kernel
  have e2 : ("cut".toList == "spec".toList) = false := by decide +kernel
  have e3 : ("cut".toList == "cut".toList) = true := by decide +kernel
  unfold Program.make
  rw [h]
  simp only [e1, e2, e3, Bool.or_self, Bool.true_or, Bool.false_eq_true, if_false, if_true]
theorem make_ok : Try.prog.make = some .cut := make_gen (start_words.trans rest_eq)
theorem strip_none {w : List Char} {ws : List (List Char)} : ∀ os : List String, (os.all fun o => !(w == o.toList)) = true → stripLifts os (w :: ws) = ([], w :: ws)
  | [], _ => rfl
  | o :: os, h => by
    simp only [List.all_cons, Bool.and_eq_true, Bool.not_eq_true'] at h
    unfold stripLifts
    rw [h.1, if_neg (by simp)]
    exact strip_none os h.2
theorem strip_cut (rest : List (List Char)) : stripLifts liftWords ("cut".toList :: rest) = ([], "cut".toList :: rest) := strip_none _ (by decide +kernel)
theorem later_ok : Try.prog.laysLater = false := by kernel_rfl
theorem reflect_ok : Try.prog.bearsReflect = false := by kernel_rfl
theorem door_ok : Try.prog.doorFits [] = true := by kernel_rfl
theorem enter_gen {P : Program} {rest : List (List Char)} (h : behindMainWord (wordsSigns P.initOrder.toList) = "cut".toList :: rest) (h1 : P.laysLater = false) (h2 : P.bearsReflect = false) (h3 : P.doorFits [] = true) : P.mayEnter = true := by
  unfold Program.mayEnter
  rw [h]
  simp only [strip_cut, h1, h2, h3]
  simp
theorem mayEnter_ok : Try.prog.mayEnter = true := enter_gen (start_words.trans rest_eq) later_ok reflect_ok door_ok
theorem lifts_gen {P : Program} {rest : List (List Char)} (h : behindMainWord (wordsSigns P.initOrder.toList) = "cut".toList :: rest) : P.liftsFinal = false := by
  unfold Program.liftsFinal Program.headLifts
  rw [h]
  simp only [strip_cut]
  simp
theorem lifts_ok : Try.prog.liftsFinal = false := lifts_gen (start_words.trans rest_eq)
end Go.Proofs.Ytdgggnlbdoiloaa
end
