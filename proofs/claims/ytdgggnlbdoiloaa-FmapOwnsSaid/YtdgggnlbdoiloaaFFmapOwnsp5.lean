/- What the proof of this claim leans on, part 5. -/
import Derived.Test.YtdgggnlbdoiloaaFFmapOwnsp4
set_option linter.all false
section
namespace Go.Proofs.Ytdgggnlbdoiloaa
open Go Go.Esc

theorem AnsI.low {h : Heap} {o : OptV} {l : List Int} (ha : AnsI h o l) : ∃ v t, o = some (v, h ++ t) ∧ Has (h ++ t) v 1 l.length (encI l) ∧ quiet h (some (v, h ++ t)) = some (v, h ++ t) := by
  obtain ⟨v, t, e, hh, ht⟩ := ha
  refine ⟨v, t, e, hh, ?_⟩
  rcases ht with ⟨rfl, _, _⟩ | ⟨rfl, _⟩
  · rw [List.append_nil]; exact quiet_grows Grows.rfl'
  · exact quiet_grows (Grows.rfl'.new _)

def pntS : List UInt8 := padB 256 (numsB [11])
theorem pntS_length : pntS.length = 256 := by decide +kernel
def D22a : Dev := (List.replicate 16 (zeros 256)).set 0 (supB 16 8 0)
def D22 : Dev := D22a.set 10 pntS
theorem okD22a : okD D22a := (okD_zeros 16).set supB_length
theorem okD22 : okD D22 := okD22a.set pntS_length
theorem lenD22a : D22a.length = 16 := by unfold D22a; rw [List.length_set, List.length_replicate]
theorem lenD22 : D22.length = 16 := by unfold D22; rw [List.length_set, lenD22a]
theorem devL22 : devL D22 = true := by decide +kernel
theorem devN22 : devN D22 = 8 := by decide +kernel
theorem devM22 : devM D22 = 0 := by decide +kernel
def d22 : List Int := [9, 0, 0, 0, 0, 0, 10]
theorem blo22 : (eachF (atF D22 8 1 d22) 134 0).map (·.2) = [9, 11] := by decide +kernel
theorem own22 : ownsF D22 8 1 d22 = [9, 10, 11] := by decide +kernel
theorem bey22 : beyF (atF D22 8 1 d22) 256 = [6] := by decide +kernel

set_option maxHeartbeats 2000000 in
theorem works22_eq (h : Heap) : S_escheatlaw22_works [] h = some (.c (.b true), h) := by
  have key : ∀ g, ∃ g', R_escheatlaw22_works 0 [] g = some (.c (.b true), g') := by
    intro g
    have mk : amkn (.c (.i .i64 16)) (.c (.i .i64 16)) = some 16 := rfl
    have ef1 : afill [Cell.i .i64 0, .i .i64 0, .i .u64 0] [(0, 1, .c (.i .i64 16)), (1, 1, .c (.i .i64 8))] = some (layC 16 8 0) := rfl
    have hp := fun h => super_Put_eq (b := 16) (n := 8) (m := 0) (h := h) (by omega) (by omega)
    have hm : mayL 16 8 = true := by decide
    simp only [hm, cond_true] at hp
    have a0 : aiAddrL 256 (.c (.sl g.length 0 16 256)) (.c (.i .i64 0)) = some (.c (.p g.length 0)) := rfl
    have a10 : aiAddrL 256 (.c (.sl g.length 0 16 256)) (.c (.i .i64 10)) = some (.c (.p g.length 2560)) := rfl
    have s1 := stN_dev (D := List.replicate 16 (zeros 256)) (i := 0) (okD_zeros 16) (supB_length (b := 16) (n := 8) (m := 0)) (by simp)
    have e1 : (List.replicate 16 (zeros 256)).set 0 (supB 16 8 0) = D22a := rfl
    rw [e1, Nat.zero_mul] at s1
    have ef2 : afill [Cell.i .i64 0] [(0, 1, .c (.i .i64 11))] = some (encI [11]) := rfl
    have hM := points_Make_eq (h := g ++ [some (Row.mk (cellsD D22a) true), some (Row.mk (encI [11]) true)]) (v := .c (.sl (g.length + 1) 0 1 1)) (nv := 1) (l := [11]) (Has.tr (by simp) rfl rfl) (by omega)
    have hall : ([11] : List Int).all fineP = true := by decide
    rw [hall, cond_true, cond_true] at hM
    have eM : padB 256 (numsB [11]) = pntS := rfl
    rw [eM] at hM
    have s2 := stN_dev (D := D22a) (i := 10) okD22a pntS_length (by rw [lenD22a]; omega)
    have e2 : D22a.set 10 pntS = D22 := rfl
    rw [e2, show (10 * 256 : Nat) = 2560 from rfl] at s2
    have l16 := lenD22
    obtain ⟨f, t, hO, hv⟩ := view_Of_ok (v := .c (.sl g.length 0 16 256)) (h := g ++ [some (Row.mk (cellsD D22) true), some (Row.mk (encI [11]) true)]) (D := D22) (by rw [l16]; exact Has.tr (by simp) (by rw [cellsD_length okD22, l16]) (noX_cellsD _)) okD22 devL22 (by rw [l16]; omega)
    rw [devN22, devM22] at hO
    obtain ⟨H, hH⟩ : ∃ H, H = g ++ [some (Row.mk (cellsD D22) true), some (Row.mk (encI [11]) true)] ++ t := ⟨_, rfl⟩
    rw [← hH] at hO hv
    obtain ⟨V, hV⟩ : ∃ V, V = vwC D22.length 8 0 f := ⟨_, rfl⟩
    have hS4 : astoreN (H ++ [some (Row.mk [.i .i64 0, .i .i64 0, .i .u64 0, .nf] true)]) 4 (.c (.p H.length 0)) (.a V) = some (H ++ [some (Row.mk V true)]) := by rw [hV, astoreN_at0]; rfl
    have ef3 : afill [Cell.i .i64 0, .i .i64 0, .i .i64 0, .i .i64 0, .i .i64 0, .i .i64 0, .i .i64 0, .i .i64 0, .i .i64 0, .i .i64 0, .i .i64 0] [(0, 1, .c (.i .i64 1)), (1, 1, .c (.i .i64 1)), (10, 1, .c (.i .i64 10)), (2, 1, .c (.i .i64 256))] = some (inoC 1 1 256 0 [0, 0, 0, 0, 0, 0, 10]) := rfl
    have hz : [Cell.i .i64 0, .i .i64 0, .i .i64 0, .i .i64 0, .i .i64 0, .i .i64 0, .i .i64 0, .i .i64 0, .i .i64 0, .i .i64 0, .i .i64 0].length = 11 := rfl
    have hi0 : (inoC 1 1 256 0 [0, 0, 0, 0, 0, 0, 10]).length = 11 := rfl
    have hi1 : (inoC 1 1 256 0 d22).length = 11 := rfl
    have ad : ∀ q, aiAddrA 6 1 (.c (.p q 4)) (.c (.i .i64 0)) = some (.c (.p q 4)) := fun q => rfl
    have s3 : st1 (some (Row.mk (inoC 1 1 256 0 [0, 0, 0, 0, 0, 0, 10]) true)) 4 (.i .i64 9) = some ⟨inoC 1 1 256 0 d22, true⟩ := rfl
    obtain ⟨K, hK⟩ : ∃ K, K = H ++ [some (Row.mk V true), some (Row.mk (inoC 1 1 256 0 d22) true)] := ⟨_, rfl⟩
    have hvK : IsView K f D22 := by rw [hK]; exact hv.more _
    have x1 : ∀ t, aloadN (K ++ t) 4 (.c (.p H.length 0)) = some (.a V) := fun t => loadAll (cs := V) (by rw [hK]; exact rd_append (by simp)) (by rw [hV]; rfl)
    have x2 : ∀ t, aloadN (K ++ t) 11 (.c (.p (H.length + 1) 0)) = some (.a (inoC 1 1 256 0 d22)) := fun t => loadAll (cs := inoC 1 1 256 0 d22) (by rw [hK]; exact rd_append (by simp)) rfl
    have x10 := x1 []
    have x20 := x2 []
    rw [List.append_nil] at x10 x20
    have hB := fmap_Blocks_eq (n := 8) (m := 0) (k := 1) (l := 1) (s := 256) (p := 0) (d := d22) okD22 rfl hvK
    rw [blo22] at hB
    obtain ⟨v1, t1, b1, b2, _⟩ := hB
    have c1 := ref04_Ints_eq (h := K ++ t1 ++ [some (Row.mk (encI [9, 11]) true)]) (u := .c (.sl (K ++ t1).length 0 2 1)) (nu := 2) (r := [9, 11]) (b2.more _) (Has.tr rd_new rfl rfl) (by decide)
    rw [decide_eq_true rfl] at c1
    have hOw := fmap_Owns_eq (n := 8) (m := 0) (k := 1) (l := 1) (s := 256) (p := 0) (d := d22) (h := K ++ t1 ++ [some (Row.mk (encI [9, 11]) true)]) okD22 rfl ((hvK.more _).more _)
    rw [own22] at hOw
    obtain ⟨v2, t2, b3, b4, _⟩ := hOw
    obtain ⟨K2, hK2⟩ : ∃ K2, K2 = K ++ t1 ++ [some (Row.mk (encI [9, 11]) true)] ++ t2 := ⟨_, rfl⟩
    rw [← hK2] at b3 b4
    have hvK2 : IsView K2 f D22 := by rw [hK2]; exact ((hvK.more _).more _).more _
    have c2 := ref04_Ints_eq (h := K2 ++ [some (Row.mk (encI [9, 10, 11]) true)]) (u := .c (.sl K2.length 0 3 1)) (nu := 3) (r := [9, 10, 11]) (b4.more _) (Has.tr rd_new rfl rfl) (by decide)
    rw [decide_eq_true rfl] at c2
    have hBe := fmap_Beyond_eq (n := 8) (m := 0) (k := 1) (l := 1) (s := 256) (p := 0) (d := d22) (h := K2 ++ [some (Row.mk (encI [9, 10, 11]) true)]) okD22 rfl (hvK2.more _)
    rw [bey22] at hBe
    obtain ⟨v3, t3, b5, b6, _⟩ := hBe
    obtain ⟨K3, hK3⟩ : ∃ K3, K3 = K2 ++ [some (Row.mk (encI [9, 10, 11]) true)] ++ t3 := ⟨_, rfl⟩
    rw [← hK3] at b5 b6
    have c3 := ref04_Ints_eq (h := K3 ++ [some (Row.mk (encI [6]) true)]) (u := .c (.sl K3.length 0 1 1)) (nu := 1) (r := [6]) (b6.more _) (Has.tr rd_new rfl rfl) (by decide)
    rw [decide_eq_true rfl] at c3
    have y1 : aloadN (K ++ t1 ++ [some (Row.mk (encI [9, 11]) true)]) 4 (.c (.p H.length 0)) = some (.a V) := by rw [List.append_assoc]; exact x1 _
    have y2 : aloadN (K ++ t1 ++ [some (Row.mk (encI [9, 11]) true)]) 11 (.c (.p (H.length + 1) 0)) = some (.a (inoC 1 1 256 0 d22)) := by rw [List.append_assoc]; exact x2 _
    have y3 : aloadN (K2 ++ [some (Row.mk (encI [9, 10, 11]) true)]) 4 (.c (.p H.length 0)) = some (.a V) := by rw [hK2]; simp only [List.append_assoc]; exact x1 _
    have y4 : aloadN (K2 ++ [some (Row.mk (encI [9, 10, 11]) true)]) 11 (.c (.p (H.length + 1) 0)) = some (.a (inoC 1 1 256 0 d22)) := by rw [hK2]; simp only [List.append_assoc]; exact x2 _
    have ef4 : afill [Cell.i .i64 0, .i .i64 0] [(0, 1, .c (.i .i64 9)), (1, 1, .c (.i .i64 11))] = some (encI [9, 11]) := rfl
    have ef5 : afill [Cell.i .i64 0, .i .i64 0, .i .i64 0] [(0, 1, .c (.i .i64 9)), (1, 1, .c (.i .i64 10)), (2, 1, .c (.i .i64 11))] = some (encI [9, 10, 11]) := rfl
    have ef6 : afill [Cell.i .i64 0] [(0, 1, .c (.i .i64 6))] = some (encI [6]) := rfl
    have fa4 : ∀ q, afAddr (.c (.p q 0)) 4 = some (.c (.p q 4)) := fun q => by simp [afAddr]
    rw [← hV] at hO b1 b3 b5
    have r1 : astoreN (g ++ [some (Row.mk (cellsD (List.replicate 16 (zeros 256))) true)]) 256 (.c (.p g.length 0)) (.a (encB (supB 16 8 0))) = some (g ++ [some (Row.mk (cellsD D22a) true)]) := by rw [astoreN_at0]; simp only [List.getElem?_cons_zero, Option.join_some, s1, mp_some, List.set_cons_zero]
    have r2 : astoreN (g ++ [some (Row.mk (cellsD D22a) true), some (Row.mk (encI [11]) true)]) 256 (.c (.p g.length 2560)) (.a (encB pntS)) = some (g ++ [some (Row.mk (cellsD D22) true), some (Row.mk (encI [11]) true)]) := by rw [astoreN_at0]; simp only [List.getElem?_cons_zero, Option.join_some, s2, mp_some, List.set_cons_zero]
    have r3 : astoreN (H ++ [some (Row.mk V true), some (Row.mk [Cell.i .i64 0, .i .i64 0, .i .i64 0, .i .i64 0, .i .i64 0, .i .i64 0, .i .i64 0, .i .i64 0, .i .i64 0, .i .i64 0, .i .i64 0] true)]) 11 (.c (.p (H.length + 1) 0)) (.a (inoC 1 1 256 0 [0, 0, 0, 0, 0, 0, 10])) = some (H ++ [some (Row.mk V true), some (Row.mk (inoC 1 1 256 0 [0, 0, 0, 0, 0, 0, 10]) true)]) := by rw [astoreN_at]; rfl
    have r4 : astore1 (H ++ [some (Row.mk V true), some (Row.mk (inoC 1 1 256 0 [0, 0, 0, 0, 0, 0, 10]) true)]) (.c (.p (H.length + 1) 4)) (.c (.i .i64 9)) = some K := by rw [astore1_at, hK]; rfl
    rw [R_escheatlaw22_works_eq]
    simp only [rows_dev]
    generalize cellsD D22a = q1 at *
    generalize cellsD D22 = q2 at *
    generalize encI [11] = q3 at *
    generalize encI [9, 11] = q4 at *
    generalize encI [9, 10, 11] = q5 at *
    generalize encI [6] = q6 at *
    generalize inoC 1 1 256 0 [0, 0, 0, 0, 0, 0, 10] = I0 at *
    generalize inoC 1 1 256 0 d22 = I1 at *
    refine ⟨K3 ++ [some (Row.mk q6 true)], ?_⟩
    simp only [bnd_some, aext_t, List.getElem?_cons_zero, List.getElem?_cons_succ, Option.map_some, ofPart_c, ofPart_a, mk, ef1, hp, a0, r1, ef2, List.append_assoc, List.cons_append, List.nil_append, List.length_append, List.length_cons, List.length_nil, Nat.zero_add, hM, a10, r2, hO, hS4, ef3, r3, fa4, ad, r4, x10, x20]
    simp only [bnd_some, b1, ef4, c1, gd_tt, y1, y2, b3, ef5, c2, apick_b, cond_true, y3, y4, b5, ef6, c3]
  obtain ⟨g', e⟩ := key (ro h)
  exact S_escheatlaw22_works_flat e rfl

end Go.Proofs.Ytdgggnlbdoiloaa
end
section
namespace Go.Proofs.Ytdgggnlbdoiloaa
open Go Go.Esc
set_option maxRecDepth 100000
def escheatlaw21_To_o0 : List AOper := [{ dst := some 2, op := .nilrow 256 }]
def escheatlaw21_To_c0 : ACode := .ops escheatlaw21_To_o0
def escheatlaw21_To_o1 : List AOper := [{ dst := some 3, op := .nilrow 256 }]
def escheatlaw21_To_c1 : ACode := .ops escheatlaw21_To_o1
def escheatlaw21_To_o2 : List AOper := [{ dst := some 4, op := .mv (.v (.c (.i .i64 0))) }]
def escheatlaw21_To_c2 : ACode := .ops escheatlaw21_To_o2
def escheatlaw21_To_o3 : List AOper := [{ dst := some 5, op := .mv (.t 4) }, { dst := some 6, op := .mv (.t 0) }, { dst := some 7, op := .len (.t 6) }, { dst := some 8, op := .bin .lss (.t 5) (.t 7) }]
def escheatlaw21_To_c3 : ACode := .ops escheatlaw21_To_o3
def escheatlaw21_To_c4 : ACode := .cond (.t 8) .skip (.exit 0)
def escheatlaw21_To_c5 : ACode := .seq [0, 3, 4, 8] escheatlaw21_To_c3 escheatlaw21_To_c4
def escheatlaw21_To_o4 : List AOper := [{ dst := some 11, op := .mv (.t 3) }, { dst := some 12, op := .mv (.t 0) }, { dst := some 13, op := .mv (.t 4) }, { dst := some 14, op := .iAddrL 256 (.t 12) (.t 13) }, { dst := some 15, op := .loadN 256 (.t 14) }, { dst := some 16, op := .buildSl 256 1 (List.replicate 256 (.i .u8 0)) [(0, 256, (.t 15))] }, { dst := some 17, op := .app 256 (.t 11) (.t 16) }, { dst := some 3, op := .mv (.t 17) }]
def escheatlaw21_To_c6 : ACode := .ops escheatlaw21_To_o4
def escheatlaw21_To_c7 : ACode := .block 1 escheatlaw21_To_c6
def escheatlaw21_To_o5 : List AOper := [{ dst := some 9, op := .mv (.t 4) }, { dst := some 10, op := .bin .add (.t 9) (.v (.c (.i .i64 1))) }, { dst := some 4, op := .mv (.t 10) }]
def escheatlaw21_To_c8 : ACode := .ops escheatlaw21_To_o5
def escheatlaw21_To_c9 : ACode := .seq [0, 3, 4] escheatlaw21_To_c7 escheatlaw21_To_c8
def escheatlaw21_To_c10 : ACode := .seq [0, 3, 4] escheatlaw21_To_c5 escheatlaw21_To_c9
def escheatlaw21_To_c11 : ACode := .loop [0, 3, 4] escheatlaw21_To_c10
def escheatlaw21_To_c12 : ACode := .block 0 escheatlaw21_To_c11
def escheatlaw21_To_c13 : ACode := .seq [0, 3, 4] escheatlaw21_To_c2 escheatlaw21_To_c12
def escheatlaw21_To_o6 : List AOper := [{ dst := some 18, op := .mv (.t 3) }, { dst := some 2, op := .mv (.t 18) }]
def escheatlaw21_To_c14 : ACode := .ops escheatlaw21_To_o6
def escheatlaw21_To_c15 : ACode := .seq [2] escheatlaw21_To_c14 .ret
def escheatlaw21_To_c16 : ACode := .seq [3] escheatlaw21_To_c13 escheatlaw21_To_c15
def escheatlaw21_To_c17 : ACode := .seq [0, 3] escheatlaw21_To_c1 escheatlaw21_To_c16
def escheatlaw21_To_c18 : ACode := .seq [0] escheatlaw21_To_c0 escheatlaw21_To_c17
def A_escheatlaw21_To : AFn := ⟨escheatlaw21_To_c18, [.tmp 2]⟩
noncomputable def E_escheatlaw21_To : Sums := disp0
noncomputable def escheatlaw21_To_c0_d (n : Nat) : SmV := smOps E_escheatlaw21_To escheatlaw21_To_o0
noncomputable def escheatlaw21_To_c1_d (n : Nat) : SmV := smOps E_escheatlaw21_To escheatlaw21_To_o1
noncomputable def escheatlaw21_To_c2_d (n : Nat) : SmV := smOps E_escheatlaw21_To escheatlaw21_To_o2
noncomputable def escheatlaw21_To_c3_d (n : Nat) : SmV := smOps E_escheatlaw21_To escheatlaw21_To_o3
noncomputable def escheatlaw21_To_c4_d (n : Nat) : SmV := smCond (.t 8) smSkip (smExit 0)
noncomputable def escheatlaw21_To_c5_d (n : Nat) : SmV := smSeq [0, 3, 4, 8] (escheatlaw21_To_c3_d n) (escheatlaw21_To_c4_d n)
noncomputable def escheatlaw21_To_c6_d (n : Nat) : SmV := smOps E_escheatlaw21_To escheatlaw21_To_o4
noncomputable def escheatlaw21_To_c7_d (n : Nat) : SmV := smBlock 1 (escheatlaw21_To_c6_d n)
noncomputable def escheatlaw21_To_c8_d (n : Nat) : SmV := smOps E_escheatlaw21_To escheatlaw21_To_o5
noncomputable def escheatlaw21_To_c9_d (n : Nat) : SmV := smSeq [0, 3, 4] (escheatlaw21_To_c7_d n) (escheatlaw21_To_c8_d n)
noncomputable def escheatlaw21_To_c10_d (n : Nat) : SmV := smSeq [0, 3, 4] (escheatlaw21_To_c5_d n) (escheatlaw21_To_c9_d n)
noncomputable def escheatlaw21_To_c11_d (n : Nat) : SmV := smLoop n [0, 3, 4] (escheatlaw21_To_c10_d n)
noncomputable def escheatlaw21_To_c12_d (n : Nat) : SmV := smBlock 0 (escheatlaw21_To_c11_d n)
noncomputable def escheatlaw21_To_c13_d (n : Nat) : SmV := smSeq [0, 3, 4] (escheatlaw21_To_c2_d n) (escheatlaw21_To_c12_d n)
noncomputable def escheatlaw21_To_c14_d (n : Nat) : SmV := smOps E_escheatlaw21_To escheatlaw21_To_o6
noncomputable def escheatlaw21_To_c15_d (n : Nat) : SmV := smSeq [2] (escheatlaw21_To_c14_d n) smRet
noncomputable def escheatlaw21_To_c16_d (n : Nat) : SmV := smSeq [3] (escheatlaw21_To_c13_d n) (escheatlaw21_To_c15_d n)
noncomputable def escheatlaw21_To_c17_d (n : Nat) : SmV := smSeq [0, 3] (escheatlaw21_To_c1_d n) (escheatlaw21_To_c16_d n)
noncomputable def escheatlaw21_To_c18_d (n : Nat) : SmV := smSeq [0] (escheatlaw21_To_c0_d n) (escheatlaw21_To_c17_d n)
noncomputable def escheatlaw21_To_k0 (n : Nat) : AExit → Env → Heap → OptV := fun x e h => match x with | .normal => hold ((escheatlaw21_To_c15_d n) A_escheatlaw21_To.fin (e.keep [3]) h) | .exit id => A_escheatlaw21_To.fin (.exit id) e h | .ret => A_escheatlaw21_To.fin .ret e h
noncomputable def escheatlaw21_To_k1 (n : Nat) : AExit → Env → Heap → OptV := fun x e h => match x with | .exit i => bif Nat.beq i 0 then (escheatlaw21_To_k0 n) .normal e h else (escheatlaw21_To_k0 n) (.exit i) e h | .normal => (escheatlaw21_To_k0 n) .normal e h | .ret => (escheatlaw21_To_k0 n) .ret e h
noncomputable def escheatlaw21_To_l0 (n m : Nat) (x0 x3 x4 : Val) (h : Heap) : OptV := around (escheatlaw21_To_c10_d n) [0, 3, 4] (escheatlaw21_To_k1 n) m [(0, x0), (3, x3), (4, x4)] h
noncomputable def R_escheatlaw21_To (n : Nat) (args : List Val) (h : Heap) : OptV := (escheatlaw21_To_c18_d n) A_escheatlaw21_To.fin (params 0 args) h
theorem R_escheatlaw21_To_eq (n : Nat) (a0 : Val) (h : Heap) : R_escheatlaw21_To n [a0] h = escheatlaw21_To_l0 n n a0 ((.c (.sl ((h ++ [some (Row.mk ([]) true)])).length 0 0 256))) (.c (.i .i64 0)) (((h ++ [some (Row.mk ([]) true)]) ++ [some (Row.mk ([]) true)])) := by kernel_rfl
theorem escheatlaw21_To_l0_eq (n m : Nat) (x0 x3 x4 : Val) (h : Heap) : escheatlaw21_To_l0 n (m + 1) x0 x3 x4 h = bnd (alen x0) fun v1 => bnd (abin .lss x4 v1) fun v2 => cnd v2 (bnd (aiAddrL 256 x0 x4) fun v3 => bnd (aloadN h 256 v3) fun v4 => bnd (afill (List.replicate 256 (.i .u8 0)) [(0, 256, v4)]) fun c5 => bnd (aapp ((h ++ [some (Row.mk (c5) true)])) 256 x3 ((.c (.sl h.length 0 1 256)))) fun p6 => bnd (abin .add x4 (.c (.i .i64 1))) fun v7 => escheatlaw21_To_l0 n m x0 p6.1 v7 p6.2) (some (x3, h)) := by kernel_rfl
theorem K_escheatlaw21_To : FnK Try.prog 16 A_escheatlaw21_To E_escheatlaw21_To R_escheatlaw21_To := .mk' (sound0) Try.func16 (by kernel_rfl) (by intro n args h; kernel_rfl)
noncomputable def S_escheatlaw21_To : Fun := tidy (Lim A_escheatlaw21_To E_escheatlaw21_To)
theorem S_escheatlaw21_To_ok : SOk Try.prog 16 S_escheatlaw21_To := K_escheatlaw21_To.sok
theorem S_escheatlaw21_To_out {n : Nat} {args : List Val} {h h2 : Heap} {v : Val} {sz k : Nat} {cs : List Cell} (he : R_escheatlaw21_To n args (ro h) = some (v, h2)) (ho : Out h.length h2 v sz k cs) (hf : flats cs = true) : S_escheatlaw21_To args h = some (.c (.sl h.length 0 k sz), h ++ [some ⟨cs, true⟩]) := K_escheatlaw21_To.out he ho hf
end Go.Proofs.Ytdgggnlbdoiloaa
end
section
namespace Go.Proofs.Ytdgggnlbdoiloaa
open Go Go.Esc

theorem has_blk {h : Heap} {v : Val} {D : Dev} (hv : Has h v 256 D.length (cellsD D)) (hD : okD D) {i : Nat} (hi : i < D.length) :
    ∃ id off, v = .c (.sl id off D.length 256) ∧ id < h.length ∧ aiAddrL 256 v (.c (.i .i64 (i : Int))) = some (.c (.p id (off + i * 256))) ∧ aloadN h 256 (.c (.p id (off + i * 256))) = some (.a (encB D[i])) := by
  obtain ⟨id, off, rfl, hid, _, h2⟩ := hv.sl (by omega)
  refine ⟨id, off, rfl, hid, iAddrL_of hi, ?_⟩
  rw [h2 (i * 256) 256 (by rw [cellsD_length hD]; omega), cellsD_at hD hi]

theorem afill_blk {b : List UInt8} (hb : b.length = 256) : afill (List.replicate 256 (Cell.i .u8 0)) [(0, 256, .a (encB b))] = some (encB b) := by
  have hl : (encB b).length = 256 := by rw [encB_length, hb]
  have hz : (List.replicate 256 (Cell.i .u8 0)).length = 256 := List.length_replicate
  generalize List.replicate 256 (Cell.i .u8 0) = z at *
  generalize encB b = y at *
  simp only [afill, cells?_a, Option.bind_some]
  rw [if_pos ⟨hl, by omega⟩]
  simp only [lay_all (by omega : y.length = z.length)]

theorem to_loop {g : Heap} {D : Dev} {v : Val} {q : Nat} (hv : Has g v 256 D.length (cellsD D)) (hD : okD D) (h60 : D.length ≤ 1073741823) : ∀ (e i m id : Nat) (h : Heap), i + e = D.length → e < m → Low g.length g h → g.length ≤ id → rd h id = some ⟨cellsD (D.take i), true⟩ →
    ∃ v' h', escheatlaw21_To_l0 q m v (.c (.sl id 0 i 256)) (.c (.i .i64 (i : Int))) h = some (v', h') ∧ Out g.length h' v' 256 D.length (cellsD D)
  | e, i, 0, id, h, _, hm, _, _, _ => by omega
  | 0, i, m + 1, id, h, hi, hm, hlow, hid, hr => by
    have e0 : i = D.length := by omega
    have c0 : ¬ (i : Int) < (D.length : Nat) := by omega
    have hl := (hv.since hlow).len
    rw [e0, List.take_length] at hr
    rw [escheatlaw21_To_l0_eq]
    exact ⟨_, _, by simp only [esc, hl, c0] <;> rfl, cellsD_length hD, id, by rw [e0], hid, hr⟩
  | e + 1, i, m + 1, id, h, hi, hm, hlow, hid, hr => by
    have hil : i < D.length := by omega
    have c0 : (i : Int) < (D.length : Nat) := by omega
    have hvh := hv.since hlow
    have hl := hvh.len
    obtain ⟨jd, off, e1, hj, a1, l1⟩ := has_blk hvh hD hil
    have ef := afill_blk (hD.at hil)
    have htl : (D.take i).length = i := by rw [List.length_take]; omega
    obtain ⟨h', p1, p2, p3, p4, p5⟩ := push (ys := encB D[i]) hlow hr (by rw [cellsD_length (hD.take i), htl]) hid (by rw [encB_length, hD.at hil]) (by omega) (by omega)
    have et : cellsD (D.take i) ++ encB D[i] = cellsD (D.take (i + 1)) := by
      rw [List.take_succ_eq_append_getElem hil, cellsD_append, cellsD_one]
    rw [et] at p2
    obtain ⟨v', h'', f1, f2⟩ := to_loop (q := q) hv hD h60 e (i + 1) m (h.length + 1) h' (by omega) (by omega) p3 p4 p2
    refine ⟨v', h'', ?_, f2⟩
    rw [escheatlaw21_To_l0_eq]
    generalize encB D[i] = y at *
    simp only [esc, hl, c0, a1, l1, ef, p1, wi_succ (show i + 1 < 9223372036854775808 by omega)]
    exact f1

theorem to_eq {v : Val} {D : Dev} {h : Heap} (hv : Has h v 256 D.length (cellsD D)) (hD : okD D) (h60 : D.length ≤ 1073741823) : S_escheatlaw21_To [v] h = some (.c (.sl h.length 0 D.length 256), h ++ [some ⟨cellsD D, true⟩]) := by
  have key : ∀ g, Has g v 256 D.length (cellsD D) → ∃ v' g', R_escheatlaw21_To (D.length + 1) [v] g = some (v', g') ∧ Out g.length g' v' 256 D.length (cellsD D) := by
    intro g hv
    obtain ⟨v', h', f1, f2⟩ := to_loop (q := D.length + 1) hv hD h60 D.length 0 (D.length + 1) (g.length + 1) (g ++ [some (Row.mk [] true), some (Row.mk [] true)]) (by omega) (by omega) ((Low.refl (Nat.le_refl _)).new _) (by omega) (by simp [cellsD])
    rw [R_escheatlaw21_To_eq]
    exact ⟨v', h', by simp only [esc]; exact f1, f2⟩
  obtain ⟨v', g', e, ho⟩ := key (ro h) hv.ro
  exact S_escheatlaw21_To_out e (by simpa [ro_length] using ho) flats_cellsD

end Go.Proofs.Ytdgggnlbdoiloaa
end
section
namespace Go.Proofs.Ytdgggnlbdoiloaa
open Go Go.Esc
set_option maxRecDepth 100000
def escheatref09_In_o0 : List AOper := [{ dst := some 4, op := .mv (.v (.c (.b false))) }]
def escheatref09_In_c0 : ACode := .ops escheatref09_In_o0
def escheatref09_In_o1 : List AOper := [{ dst := some 5, op := .mv (.v (.c (.i .i64 0))) }]
def escheatref09_In_c1 : ACode := .ops escheatref09_In_o1
def escheatref09_In_o2 : List AOper := [{ dst := some 6, op := .mv (.t 5) }, { dst := some 7, op := .mv (.t 0) }, { dst := some 8, op := .len (.t 7) }, { dst := some 9, op := .bin .lss (.t 6) (.t 8) }]
def escheatref09_In_c2 : ACode := .ops escheatref09_In_o2
def escheatref09_In_c3 : ACode := .cond (.t 9) .skip (.exit 0)
def escheatref09_In_c4 : ACode := .seq [0, 1, 5, 9] escheatref09_In_c2 escheatref09_In_c3
def escheatref09_In_o3 : List AOper := [{ dst := some 12, op := .mv (.t 0) }, { dst := some 13, op := .mv (.t 5) }, { dst := some 14, op := .iAddrL 1 (.t 12) (.t 13) }, { dst := some 15, op := .load1 (.t 14) }, { dst := some 16, op := .mv (.t 1) }, { dst := some 17, op := .bin .eql (.t 15) (.t 16) }]
def escheatref09_In_c5 : ACode := .ops escheatref09_In_o3
def escheatref09_In_o4 : List AOper := [{ dst := some 4, op := .mv (.v (.c (.b true))) }]
def escheatref09_In_c6 : ACode := .ops escheatref09_In_o4
def escheatref09_In_c7 : ACode := .seq [4] escheatref09_In_c6 .ret
def escheatref09_In_c8 : ACode := .cond (.t 17) escheatref09_In_c7 .skip
def escheatref09_In_c9 : ACode := .seq [0, 1, 5, 17] escheatref09_In_c5 escheatref09_In_c8
def escheatref09_In_c10 : ACode := .block 1 escheatref09_In_c9
def escheatref09_In_o5 : List AOper := [{ dst := some 10, op := .mv (.t 5) }, { dst := some 11, op := .bin .add (.t 10) (.v (.c (.i .i64 1))) }, { dst := some 5, op := .mv (.t 11) }]
def escheatref09_In_c11 : ACode := .ops escheatref09_In_o5
def escheatref09_In_c12 : ACode := .seq [0, 1, 5] escheatref09_In_c10 escheatref09_In_c11
def escheatref09_In_c13 : ACode := .seq [0, 1, 5] escheatref09_In_c4 escheatref09_In_c12
def escheatref09_In_c14 : ACode := .loop [0, 1, 5] escheatref09_In_c13
def escheatref09_In_c15 : ACode := .block 0 escheatref09_In_c14
def escheatref09_In_c16 : ACode := .seq [0, 1, 5] escheatref09_In_c1 escheatref09_In_c15
def escheatref09_In_o6 : List AOper := [{ dst := some 4, op := .mv (.v (.c (.b false))) }]
def escheatref09_In_c17 : ACode := .ops escheatref09_In_o6
def escheatref09_In_c18 : ACode := .seq [4] escheatref09_In_c17 .ret
def escheatref09_In_c19 : ACode := .seq [] escheatref09_In_c16 escheatref09_In_c18
def escheatref09_In_c20 : ACode := .seq [0, 1] escheatref09_In_c0 escheatref09_In_c19
def A_escheatref09_In : AFn := ⟨escheatref09_In_c20, [.tmp 4]⟩
noncomputable def E_escheatref09_In : Sums := disp0
noncomputable def escheatref09_In_c0_d (n : Nat) : SmV := smOps E_escheatref09_In escheatref09_In_o0
noncomputable def escheatref09_In_c1_d (n : Nat) : SmV := smOps E_escheatref09_In escheatref09_In_o1
noncomputable def escheatref09_In_c2_d (n : Nat) : SmV := smOps E_escheatref09_In escheatref09_In_o2
noncomputable def escheatref09_In_c3_d (n : Nat) : SmV := smCond (.t 9) smSkip (smExit 0)
noncomputable def escheatref09_In_c4_d (n : Nat) : SmV := smSeq [0, 1, 5, 9] (escheatref09_In_c2_d n) (escheatref09_In_c3_d n)
noncomputable def escheatref09_In_c5_d (n : Nat) : SmV := smOps E_escheatref09_In escheatref09_In_o3
noncomputable def escheatref09_In_c6_d (n : Nat) : SmV := smOps E_escheatref09_In escheatref09_In_o4
noncomputable def escheatref09_In_c7_d (n : Nat) : SmV := smSeq [4] (escheatref09_In_c6_d n) smRet
noncomputable def escheatref09_In_c8_d (n : Nat) : SmV := smCond (.t 17) (escheatref09_In_c7_d n) smSkip
noncomputable def escheatref09_In_c9_d (n : Nat) : SmV := smSeq [0, 1, 5, 17] (escheatref09_In_c5_d n) (escheatref09_In_c8_d n)
noncomputable def escheatref09_In_c10_d (n : Nat) : SmV := smBlock 1 (escheatref09_In_c9_d n)
noncomputable def escheatref09_In_c11_d (n : Nat) : SmV := smOps E_escheatref09_In escheatref09_In_o5
noncomputable def escheatref09_In_c12_d (n : Nat) : SmV := smSeq [0, 1, 5] (escheatref09_In_c10_d n) (escheatref09_In_c11_d n)
noncomputable def escheatref09_In_c13_d (n : Nat) : SmV := smSeq [0, 1, 5] (escheatref09_In_c4_d n) (escheatref09_In_c12_d n)
noncomputable def escheatref09_In_c14_d (n : Nat) : SmV := smLoop n [0, 1, 5] (escheatref09_In_c13_d n)
noncomputable def escheatref09_In_c15_d (n : Nat) : SmV := smBlock 0 (escheatref09_In_c14_d n)
noncomputable def escheatref09_In_c16_d (n : Nat) : SmV := smSeq [0, 1, 5] (escheatref09_In_c1_d n) (escheatref09_In_c15_d n)
noncomputable def escheatref09_In_c17_d (n : Nat) : SmV := smOps E_escheatref09_In escheatref09_In_o6
noncomputable def escheatref09_In_c18_d (n : Nat) : SmV := smSeq [4] (escheatref09_In_c17_d n) smRet
noncomputable def escheatref09_In_c19_d (n : Nat) : SmV := smSeq [] (escheatref09_In_c16_d n) (escheatref09_In_c18_d n)
noncomputable def escheatref09_In_c20_d (n : Nat) : SmV := smSeq [0, 1] (escheatref09_In_c0_d n) (escheatref09_In_c19_d n)
noncomputable def escheatref09_In_k0 (n : Nat) : AExit → Env → Heap → OptV := fun x e h => match x with | .normal => hold ((escheatref09_In_c18_d n) A_escheatref09_In.fin (e.keep []) h) | .exit id => A_escheatref09_In.fin (.exit id) e h | .ret => A_escheatref09_In.fin .ret e h
noncomputable def escheatref09_In_k1 (n : Nat) : AExit → Env → Heap → OptV := fun x e h => match x with | .exit i => bif Nat.beq i 0 then (escheatref09_In_k0 n) .normal e h else (escheatref09_In_k0 n) (.exit i) e h | .normal => (escheatref09_In_k0 n) .normal e h | .ret => (escheatref09_In_k0 n) .ret e h
noncomputable def escheatref09_In_l0 (n m : Nat) (x0 x1 x5 : Val) (h : Heap) : OptV := around (escheatref09_In_c13_d n) [0, 1, 5] (escheatref09_In_k1 n) m [(0, x0), (1, x1), (5, x5)] h
noncomputable def R_escheatref09_In (n : Nat) (args : List Val) (h : Heap) : OptV := (escheatref09_In_c20_d n) A_escheatref09_In.fin (params 0 args) h
theorem R_escheatref09_In_eq (n : Nat) (a0 a1 : Val) (h : Heap) : R_escheatref09_In n [a0, a1] h = escheatref09_In_l0 n n a0 a1 (.c (.i .i64 0)) h := by kernel_rfl
theorem escheatref09_In_l0_eq (n m : Nat) (x0 x1 x5 : Val) (h : Heap) : escheatref09_In_l0 n (m + 1) x0 x1 x5 h = bnd (alen x0) fun v1 => bnd (abin .lss x5 v1) fun v2 => cnd v2 (bnd (aiAddrL 1 x0 x5) fun v3 => bnd (aload1 h v3) fun v4 => bnd (abin .eql v4 x1) fun v5 => cnd v5 (some ((.c (.b true)), h)) (bnd (abin .add x5 (.c (.i .i64 1))) fun v6 => escheatref09_In_l0 n m x0 x1 v6 h)) (some ((.c (.b false)), h)) := by kernel_rfl
theorem K_escheatref09_In : FnK Try.prog 26 A_escheatref09_In E_escheatref09_In R_escheatref09_In := .mk' (sound0) Try.func26 (by kernel_rfl) (by intro n args h; kernel_rfl)
noncomputable def S_escheatref09_In : Fun := tidy (Lim A_escheatref09_In E_escheatref09_In)
theorem S_escheatref09_In_ok : SOk Try.prog 26 S_escheatref09_In := K_escheatref09_In.sok
theorem S_escheatref09_In_flat {n : Nat} {args : List Val} {h h2 : Heap} {v : Val} (he : R_escheatref09_In n args (ro h) = some (v, h2)) (hf : v.flat = true) : S_escheatref09_In args h = some (v, h) := K_escheatref09_In.flat he hf
end Go.Proofs.Ytdgggnlbdoiloaa
end
section
namespace Go.Proofs.Ytdgggnlbdoiloaa
open Go Go.Esc
set_option maxRecDepth 100000
def escheatlaw22_FmapOwns_o0 : List AOper := [{ dst := some 3, op := .box (.t 1) }, { dst := some 4, op := .mv (.v (.c (.b false))) }]
def escheatlaw22_FmapOwns_c0 : ACode := .ops escheatlaw22_FmapOwns_o0
def escheatlaw22_FmapOwns_o1 : List AOper := [{ dst := some 13, op := .mv (.t 0) }, { dst := some 14, op := .len (.t 13) }, { dst := some 15, op := .bin .gtr (.t 14) (.v (.c (.i .i64 60))) }]
def escheatlaw22_FmapOwns_c1 : ACode := .ops escheatlaw22_FmapOwns_o1
def escheatlaw22_FmapOwns_o2 : List AOper := [{ dst := some 16, op := .call 22 [] }, { dst := some 4, op := .mv (.t 16) }]
def escheatlaw22_FmapOwns_c2 : ACode := .ops escheatlaw22_FmapOwns_o2
def escheatlaw22_FmapOwns_c3 : ACode := .seq [4] escheatlaw22_FmapOwns_c2 .ret
def escheatlaw22_FmapOwns_c4 : ACode := .cond (.t 15) escheatlaw22_FmapOwns_c3 .skip
def escheatlaw22_FmapOwns_c5 : ACode := .seq [0, 3, 15] escheatlaw22_FmapOwns_c1 escheatlaw22_FmapOwns_c4
def escheatlaw22_FmapOwns_o3 : List AOper := [{ dst := some 18, op := .mv (.t 0) }, { dst := some 19, op := .call 16 [(.t 18)] }, { dst := some 20, op := .call 15 [(.t 19)] }, { dst := some 17, op := .mv (.t 20) }, { dst := some 21, op := .ext (.t 17) 0 }, { dst := some 22, op := .ext (.t 17) 1 }, { dst := some 5, op := .alloc ([.i .i64 0, .i .i64 0, .i .u64 0, .nf]) }, { dst := none, op := .storeN 4 (.t 5) (.t 21) }, { dst := some 6, op := .mv (.t 22) }]
def escheatlaw22_FmapOwns_c6 : ACode := .ops escheatlaw22_FmapOwns_o3
def escheatlaw22_FmapOwns_o4 : List AOper := [{ dst := some 23, op := .mv (.t 6) }, { dst := some 24, op := .bin .neq (.t 23) (.v (.c (.i .i64 0))) }]
def escheatlaw22_FmapOwns_c7 : ACode := .ops escheatlaw22_FmapOwns_o4
def escheatlaw22_FmapOwns_o5 : List AOper := [{ dst := some 25, op := .call 22 [] }, { dst := some 4, op := .mv (.t 25) }]
def escheatlaw22_FmapOwns_c8 : ACode := .ops escheatlaw22_FmapOwns_o5
def escheatlaw22_FmapOwns_c9 : ACode := .seq [4] escheatlaw22_FmapOwns_c8 .ret
def escheatlaw22_FmapOwns_c10 : ACode := .cond (.t 24) escheatlaw22_FmapOwns_c9 .skip
def escheatlaw22_FmapOwns_c11 : ACode := .seq [3, 5, 24] escheatlaw22_FmapOwns_c7 escheatlaw22_FmapOwns_c10
def escheatlaw22_FmapOwns_o6 : List AOper := [{ dst := some 26, op := .loadN 4 (.t 5) }, { dst := some 27, op := .loadN 11 (.t 3) }, { dst := some 28, op := .call 23 [(.t 26), (.t 27)] }, { dst := some 29, op := .loadN 4 (.t 5) }, { dst := some 30, op := .loadN 11 (.t 3) }]
def escheatlaw22_FmapOwns_o7 : List AOper := [{ dst := some 31, op := .call 24 [(.t 29), (.t 30)] }, { dst := some 7, op := .mv (.t 28) }, { dst := some 8, op := .mv (.t 31) }]
def escheatlaw22_FmapOwns_c12 : ACode := .draw 0 escheatlaw22_FmapOwns_o6 escheatlaw22_FmapOwns_o7
def escheatlaw22_FmapOwns_o8 : List AOper := [{ dst := some 9, op := .mv (.v (.c (.i .i64 0))) }]
def escheatlaw22_FmapOwns_c13 : ACode := .ops escheatlaw22_FmapOwns_o8
def escheatlaw22_FmapOwns_o9 : List AOper := [{ dst := some 32, op := .mv (.t 9) }, { dst := some 33, op := .mv (.t 7) }, { dst := some 34, op := .len (.t 33) }, { dst := some 35, op := .bin .lss (.t 32) (.t 34) }]
def escheatlaw22_FmapOwns_c14 : ACode := .ops escheatlaw22_FmapOwns_o9
def escheatlaw22_FmapOwns_c15 : ACode := .cond (.t 35) .skip (.exit 0)
def escheatlaw22_FmapOwns_c16 : ACode := .seq [3, 5, 7, 8, 9, 35] escheatlaw22_FmapOwns_c14 escheatlaw22_FmapOwns_c15
def escheatlaw22_FmapOwns_o10 : List AOper := [{ dst := some 38, op := .fAddr (.t 5) 0 }, { dst := some 39, op := .loadN 3 (.t 38) }, { dst := some 40, op := .mv (.t 7) }, { dst := some 41, op := .mv (.t 9) }, { dst := some 42, op := .iAddrL 1 (.t 40) (.t 41) }, { dst := some 43, op := .load1 (.t 42) }]
def escheatlaw22_FmapOwns_o11 : List AOper := [{ dst := some 44, op := .call 25 [(.t 39), (.t 43)] }, { dst := some 45, op := .un .not (.t 44) }]
def escheatlaw22_FmapOwns_c17 : ACode := .draw 0 escheatlaw22_FmapOwns_o10 escheatlaw22_FmapOwns_o11
def escheatlaw22_FmapOwns_o12 : List AOper := [{ dst := some 4, op := .mv (.v (.c (.b false))) }]
def escheatlaw22_FmapOwns_c18 : ACode := .ops escheatlaw22_FmapOwns_o12
def escheatlaw22_FmapOwns_c19 : ACode := .seq [4] escheatlaw22_FmapOwns_c18 .ret
def escheatlaw22_FmapOwns_c20 : ACode := .cond (.t 45) escheatlaw22_FmapOwns_c19 .skip
def escheatlaw22_FmapOwns_c21 : ACode := .seq [3, 5, 7, 8, 9, 45] escheatlaw22_FmapOwns_c17 escheatlaw22_FmapOwns_c20
def escheatlaw22_FmapOwns_c22 : ACode := .block 1 escheatlaw22_FmapOwns_c21
def escheatlaw22_FmapOwns_o13 : List AOper := [{ dst := some 36, op := .mv (.t 9) }, { dst := some 37, op := .bin .add (.t 36) (.v (.c (.i .i64 1))) }, { dst := some 9, op := .mv (.t 37) }]
def escheatlaw22_FmapOwns_c23 : ACode := .ops escheatlaw22_FmapOwns_o13
def escheatlaw22_FmapOwns_c24 : ACode := .seq [3, 5, 7, 8, 9] escheatlaw22_FmapOwns_c22 escheatlaw22_FmapOwns_c23
def escheatlaw22_FmapOwns_c25 : ACode := .seq [3, 5, 7, 8, 9] escheatlaw22_FmapOwns_c16 escheatlaw22_FmapOwns_c24
def escheatlaw22_FmapOwns_c26 : ACode := .loop [3, 5, 7, 8, 9] escheatlaw22_FmapOwns_c25
def escheatlaw22_FmapOwns_c27 : ACode := .block 0 escheatlaw22_FmapOwns_c26
def escheatlaw22_FmapOwns_c28 : ACode := .seq [3, 5, 7, 8, 9] escheatlaw22_FmapOwns_c13 escheatlaw22_FmapOwns_c27
def escheatlaw22_FmapOwns_o14 : List AOper := [{ dst := some 10, op := .mv (.v (.c (.i .i64 0))) }]
def escheatlaw22_FmapOwns_c29 : ACode := .ops escheatlaw22_FmapOwns_o14
def escheatlaw22_FmapOwns_o15 : List AOper := [{ dst := some 46, op := .mv (.t 10) }, { dst := some 47, op := .mv (.t 8) }, { dst := some 48, op := .len (.t 47) }, { dst := some 49, op := .bin .lss (.t 46) (.t 48) }]
def escheatlaw22_FmapOwns_c30 : ACode := .ops escheatlaw22_FmapOwns_o15
def escheatlaw22_FmapOwns_c31 : ACode := .cond (.t 49) .skip (.exit 2)
def escheatlaw22_FmapOwns_c32 : ACode := .seq [3, 5, 7, 8, 10, 49] escheatlaw22_FmapOwns_c30 escheatlaw22_FmapOwns_c31
def escheatlaw22_FmapOwns_o16 : List AOper := [{ dst := some 52, op := .mv (.t 7) }, { dst := some 53, op := .mv (.t 8) }, { dst := some 54, op := .mv (.t 10) }, { dst := some 55, op := .iAddrL 1 (.t 53) (.t 54) }, { dst := some 56, op := .load1 (.t 55) }, { dst := some 57, op := .call 26 [(.t 52), (.t 56)] }, { dst := some 58, op := .un .not (.t 57) }]
def escheatlaw22_FmapOwns_c33 : ACode := .ops escheatlaw22_FmapOwns_o16
def escheatlaw22_FmapOwns_o17 : List AOper := [{ dst := some 4, op := .mv (.v (.c (.b false))) }]
def escheatlaw22_FmapOwns_c34 : ACode := .ops escheatlaw22_FmapOwns_o17
def escheatlaw22_FmapOwns_c35 : ACode := .seq [4] escheatlaw22_FmapOwns_c34 .ret
def escheatlaw22_FmapOwns_c36 : ACode := .cond (.t 58) escheatlaw22_FmapOwns_c35 .skip
def escheatlaw22_FmapOwns_c37 : ACode := .seq [3, 5, 7, 8, 10, 58] escheatlaw22_FmapOwns_c33 escheatlaw22_FmapOwns_c36
def escheatlaw22_FmapOwns_c38 : ACode := .block 3 escheatlaw22_FmapOwns_c37
def escheatlaw22_FmapOwns_o18 : List AOper := [{ dst := some 50, op := .mv (.t 10) }, { dst := some 51, op := .bin .add (.t 50) (.v (.c (.i .i64 1))) }, { dst := some 10, op := .mv (.t 51) }]
def escheatlaw22_FmapOwns_c39 : ACode := .ops escheatlaw22_FmapOwns_o18
def escheatlaw22_FmapOwns_c40 : ACode := .seq [3, 5, 7, 8, 10] escheatlaw22_FmapOwns_c38 escheatlaw22_FmapOwns_c39
def escheatlaw22_FmapOwns_c41 : ACode := .seq [3, 5, 7, 8, 10] escheatlaw22_FmapOwns_c32 escheatlaw22_FmapOwns_c40
def escheatlaw22_FmapOwns_c42 : ACode := .loop [3, 5, 7, 8, 10] escheatlaw22_FmapOwns_c41
def escheatlaw22_FmapOwns_c43 : ACode := .block 2 escheatlaw22_FmapOwns_c42
def escheatlaw22_FmapOwns_c44 : ACode := .seq [3, 5, 7, 8, 10] escheatlaw22_FmapOwns_c29 escheatlaw22_FmapOwns_c43
def escheatlaw22_FmapOwns_o19 : List AOper := [{ dst := some 59, op := .loadN 4 (.t 5) }, { dst := some 60, op := .loadN 11 (.t 3) }, { dst := some 61, op := .call 27 [(.t 59), (.t 60)] }, { dst := some 11, op := .mv (.t 61) }]
def escheatlaw22_FmapOwns_c45 : ACode := .ops escheatlaw22_FmapOwns_o19
def escheatlaw22_FmapOwns_o20 : List AOper := [{ dst := some 12, op := .mv (.v (.c (.i .i64 0))) }]
def escheatlaw22_FmapOwns_c46 : ACode := .ops escheatlaw22_FmapOwns_o20
def escheatlaw22_FmapOwns_o21 : List AOper := [{ dst := some 62, op := .mv (.t 12) }, { dst := some 63, op := .mv (.t 11) }, { dst := some 64, op := .len (.t 63) }, { dst := some 65, op := .bin .lss (.t 62) (.t 64) }]
def escheatlaw22_FmapOwns_c47 : ACode := .ops escheatlaw22_FmapOwns_o21
def escheatlaw22_FmapOwns_c48 : ACode := .cond (.t 65) .skip (.exit 4)
def escheatlaw22_FmapOwns_c49 : ACode := .seq [3, 5, 7, 8, 11, 12, 65] escheatlaw22_FmapOwns_c47 escheatlaw22_FmapOwns_c48
def escheatlaw22_FmapOwns_o22 : List AOper := [{ dst := some 68, op := .mv (.t 7) }, { dst := some 69, op := .loadN 4 (.t 5) }, { dst := some 70, op := .loadN 11 (.t 3) }, { dst := some 71, op := .mv (.t 11) }, { dst := some 72, op := .mv (.t 12) }, { dst := some 73, op := .iAddrL 1 (.t 71) (.t 72) }, { dst := some 74, op := .load1 (.t 73) }, { dst := some 75, op := .call 28 [(.t 69), (.t 70), (.t 74)] }]
def escheatlaw22_FmapOwns_o23 : List AOper := [{ dst := some 76, op := .call 26 [(.t 68), (.t 75)] }, { dst := some 77, op := .un .not (.t 76) }]
def escheatlaw22_FmapOwns_c50 : ACode := .draw 0 escheatlaw22_FmapOwns_o22 escheatlaw22_FmapOwns_o23
def escheatlaw22_FmapOwns_o24 : List AOper := [{ dst := some 4, op := .mv (.v (.c (.b false))) }]
def escheatlaw22_FmapOwns_c51 : ACode := .ops escheatlaw22_FmapOwns_o24
def escheatlaw22_FmapOwns_c52 : ACode := .seq [4] escheatlaw22_FmapOwns_c51 .ret
def escheatlaw22_FmapOwns_c53 : ACode := .cond (.t 77) escheatlaw22_FmapOwns_c52 .skip
def escheatlaw22_FmapOwns_c54 : ACode := .seq [3, 5, 7, 8, 11, 12, 77] escheatlaw22_FmapOwns_c50 escheatlaw22_FmapOwns_c53
def escheatlaw22_FmapOwns_c55 : ACode := .block 5 escheatlaw22_FmapOwns_c54
def escheatlaw22_FmapOwns_o25 : List AOper := [{ dst := some 66, op := .mv (.t 12) }, { dst := some 67, op := .bin .add (.t 66) (.v (.c (.i .i64 1))) }, { dst := some 12, op := .mv (.t 67) }]
def escheatlaw22_FmapOwns_c56 : ACode := .ops escheatlaw22_FmapOwns_o25
def escheatlaw22_FmapOwns_c57 : ACode := .seq [3, 5, 7, 8, 11, 12] escheatlaw22_FmapOwns_c55 escheatlaw22_FmapOwns_c56
def escheatlaw22_FmapOwns_c58 : ACode := .seq [3, 5, 7, 8, 11, 12] escheatlaw22_FmapOwns_c49 escheatlaw22_FmapOwns_c57
def escheatlaw22_FmapOwns_c59 : ACode := .loop [3, 5, 7, 8, 11, 12] escheatlaw22_FmapOwns_c58
def escheatlaw22_FmapOwns_c60 : ACode := .block 4 escheatlaw22_FmapOwns_c59
def escheatlaw22_FmapOwns_c61 : ACode := .seq [3, 5, 7, 8, 11, 12] escheatlaw22_FmapOwns_c46 escheatlaw22_FmapOwns_c60
def escheatlaw22_FmapOwns_o26 : List AOper := [{ dst := some 78, op := .fAddr (.t 3) 0 }, { dst := some 79, op := .load1 (.t 78) }, { dst := some 80, op := .bin .neq (.t 79) (.v (.c (.i .i64 1))) }, { dst := some 81, op := .mv (.t 80) }, { dst := some 82, op := .mv (.t 7), guard := some (81, false) }, { dst := some 83, op := .len (.t 82), guard := some (81, false) }, { dst := some 84, op := .mv (.t 8), guard := some (81, false) }, { dst := some 85, op := .len (.t 84), guard := some (81, false) }, { dst := some 86, op := .bin .add (.t 85) (.v (.c (.i .i64 1))), guard := some (81, false) }, { dst := some 87, op := .bin .leq (.t 83) (.t 86), guard := some (81, false) }, { dst := some 88, op := .pick (.t 81) (.v (.c (.b true))) (.t 87) }, { dst := some 89, op := .mv (.t 88) }, { dst := some 90, op := .fAddr (.t 3) 0, guard := some (89, true) }, { dst := some 91, op := .load1 (.t 90), guard := some (89, true) }, { dst := some 92, op := .bin .eql (.t 91) (.v (.c (.i .i64 1))), guard := some (89, true) }, { dst := some 93, op := .mv (.t 92), guard := some (89, true) }, { dst := some 94, op := .mv (.t 8), guard := some (93, false) }, { dst := some 95, op := .len (.t 94), guard := some (93, false) }, { dst := some 96, op := .mv (.t 11), guard := some (93, false) }, { dst := some 97, op := .len (.t 96), guard := some (93, false) }, { dst := some 98, op := .bin .add (.t 95) (.t 97), guard := some (93, false) }, { dst := some 99, op := .bin .eql (.t 98) (.v (.c (.i .i64 0))), guard := some (93, false) }, { dst := some 100, op := .pick (.t 93) (.v (.c (.b true))) (.t 99), guard := some (89, true) }, { dst := some 101, op := .pick (.t 89) (.t 100) (.v (.c (.b false))) }, { dst := some 102, op := .mv (.t 101) }, { dst := some 103, op := .call 22 [], guard := some (102, true) }, { dst := some 104, op := .pick (.t 102) (.t 103) (.v (.c (.b false))) }, { dst := some 4, op := .mv (.t 104) }]
def escheatlaw22_FmapOwns_c62 : ACode := .ops escheatlaw22_FmapOwns_o26
def escheatlaw22_FmapOwns_c63 : ACode := .seq [4] escheatlaw22_FmapOwns_c62 .ret
def escheatlaw22_FmapOwns_c64 : ACode := .seq [3, 7, 8, 11] escheatlaw22_FmapOwns_c61 escheatlaw22_FmapOwns_c63
def escheatlaw22_FmapOwns_c65 : ACode := .seq [3, 5, 7, 8, 11] escheatlaw22_FmapOwns_c45 escheatlaw22_FmapOwns_c64
def escheatlaw22_FmapOwns_c66 : ACode := .seq [3, 5, 7, 8] escheatlaw22_FmapOwns_c44 escheatlaw22_FmapOwns_c65
def escheatlaw22_FmapOwns_c67 : ACode := .seq [3, 5, 7, 8] escheatlaw22_FmapOwns_c28 escheatlaw22_FmapOwns_c66
def escheatlaw22_FmapOwns_c68 : ACode := .seq [3, 5, 7, 8] escheatlaw22_FmapOwns_c12 escheatlaw22_FmapOwns_c67
def escheatlaw22_FmapOwns_c69 : ACode := .seq [3, 5] escheatlaw22_FmapOwns_c11 escheatlaw22_FmapOwns_c68
def escheatlaw22_FmapOwns_c70 : ACode := .seq [3, 5, 6] escheatlaw22_FmapOwns_c6 escheatlaw22_FmapOwns_c69
def escheatlaw22_FmapOwns_c71 : ACode := .seq [0, 3] escheatlaw22_FmapOwns_c5 escheatlaw22_FmapOwns_c70
def escheatlaw22_FmapOwns_c72 : ACode := .seq [0, 3] escheatlaw22_FmapOwns_c0 escheatlaw22_FmapOwns_c71
def A_escheatlaw22_FmapOwns : AFn := ⟨escheatlaw22_FmapOwns_c72, [.tmp 4]⟩
noncomputable def E_escheatlaw22_FmapOwns : Sums := disp 22 S_escheatlaw22_works (disp 16 S_escheatlaw21_To (disp 15 S_view_Of (disp 23 S_fmap_Owns__Owns_1 (disp 24 S_fmap_Blocks (disp 25 S_geom_IsData (disp 26 S_escheatref09_In (disp 27 S_fmap_Beyond (disp 28 S_fmap_At disp0))))))))
noncomputable def escheatlaw22_FmapOwns_c0_d (n : Nat) : SmV := smOps E_escheatlaw22_FmapOwns escheatlaw22_FmapOwns_o0
noncomputable def escheatlaw22_FmapOwns_c1_d (n : Nat) : SmV := smOps E_escheatlaw22_FmapOwns escheatlaw22_FmapOwns_o1
noncomputable def escheatlaw22_FmapOwns_c2_d (n : Nat) : SmV := smOps E_escheatlaw22_FmapOwns escheatlaw22_FmapOwns_o2
noncomputable def escheatlaw22_FmapOwns_c3_d (n : Nat) : SmV := smSeq [4] (escheatlaw22_FmapOwns_c2_d n) smRet
noncomputable def escheatlaw22_FmapOwns_c4_d (n : Nat) : SmV := smCond (.t 15) (escheatlaw22_FmapOwns_c3_d n) smSkip
noncomputable def escheatlaw22_FmapOwns_c5_d (n : Nat) : SmV := smSeq [0, 3, 15] (escheatlaw22_FmapOwns_c1_d n) (escheatlaw22_FmapOwns_c4_d n)
noncomputable def escheatlaw22_FmapOwns_c6_d (n : Nat) : SmV := smOps E_escheatlaw22_FmapOwns escheatlaw22_FmapOwns_o3
noncomputable def escheatlaw22_FmapOwns_c7_d (n : Nat) : SmV := smOps E_escheatlaw22_FmapOwns escheatlaw22_FmapOwns_o4
noncomputable def escheatlaw22_FmapOwns_c8_d (n : Nat) : SmV := smOps E_escheatlaw22_FmapOwns escheatlaw22_FmapOwns_o5
noncomputable def escheatlaw22_FmapOwns_c9_d (n : Nat) : SmV := smSeq [4] (escheatlaw22_FmapOwns_c8_d n) smRet
noncomputable def escheatlaw22_FmapOwns_c10_d (n : Nat) : SmV := smCond (.t 24) (escheatlaw22_FmapOwns_c9_d n) smSkip
noncomputable def escheatlaw22_FmapOwns_c11_d (n : Nat) : SmV := smSeq [3, 5, 24] (escheatlaw22_FmapOwns_c7_d n) (escheatlaw22_FmapOwns_c10_d n)
noncomputable def escheatlaw22_FmapOwns_c12_d (n : Nat) : SmV := smDraw E_escheatlaw22_FmapOwns 0 escheatlaw22_FmapOwns_o6 escheatlaw22_FmapOwns_o7
noncomputable def escheatlaw22_FmapOwns_c13_d (n : Nat) : SmV := smOps E_escheatlaw22_FmapOwns escheatlaw22_FmapOwns_o8
noncomputable def escheatlaw22_FmapOwns_c14_d (n : Nat) : SmV := smOps E_escheatlaw22_FmapOwns escheatlaw22_FmapOwns_o9
noncomputable def escheatlaw22_FmapOwns_c15_d (n : Nat) : SmV := smCond (.t 35) smSkip (smExit 0)
noncomputable def escheatlaw22_FmapOwns_c16_d (n : Nat) : SmV := smSeq [3, 5, 7, 8, 9, 35] (escheatlaw22_FmapOwns_c14_d n) (escheatlaw22_FmapOwns_c15_d n)
noncomputable def escheatlaw22_FmapOwns_c17_d (n : Nat) : SmV := smDraw E_escheatlaw22_FmapOwns 0 escheatlaw22_FmapOwns_o10 escheatlaw22_FmapOwns_o11
noncomputable def escheatlaw22_FmapOwns_c18_d (n : Nat) : SmV := smOps E_escheatlaw22_FmapOwns escheatlaw22_FmapOwns_o12
noncomputable def escheatlaw22_FmapOwns_c19_d (n : Nat) : SmV := smSeq [4] (escheatlaw22_FmapOwns_c18_d n) smRet
noncomputable def escheatlaw22_FmapOwns_c20_d (n : Nat) : SmV := smCond (.t 45) (escheatlaw22_FmapOwns_c19_d n) smSkip
noncomputable def escheatlaw22_FmapOwns_c21_d (n : Nat) : SmV := smSeq [3, 5, 7, 8, 9, 45] (escheatlaw22_FmapOwns_c17_d n) (escheatlaw22_FmapOwns_c20_d n)
noncomputable def escheatlaw22_FmapOwns_c22_d (n : Nat) : SmV := smBlock 1 (escheatlaw22_FmapOwns_c21_d n)
noncomputable def escheatlaw22_FmapOwns_c23_d (n : Nat) : SmV := smOps E_escheatlaw22_FmapOwns escheatlaw22_FmapOwns_o13
noncomputable def escheatlaw22_FmapOwns_c24_d (n : Nat) : SmV := smSeq [3, 5, 7, 8, 9] (escheatlaw22_FmapOwns_c22_d n) (escheatlaw22_FmapOwns_c23_d n)
noncomputable def escheatlaw22_FmapOwns_c25_d (n : Nat) : SmV := smSeq [3, 5, 7, 8, 9] (escheatlaw22_FmapOwns_c16_d n) (escheatlaw22_FmapOwns_c24_d n)
noncomputable def escheatlaw22_FmapOwns_c26_d (n : Nat) : SmV := smLoop n [3, 5, 7, 8, 9] (escheatlaw22_FmapOwns_c25_d n)
noncomputable def escheatlaw22_FmapOwns_c27_d (n : Nat) : SmV := smBlock 0 (escheatlaw22_FmapOwns_c26_d n)
noncomputable def escheatlaw22_FmapOwns_c28_d (n : Nat) : SmV := smSeq [3, 5, 7, 8, 9] (escheatlaw22_FmapOwns_c13_d n) (escheatlaw22_FmapOwns_c27_d n)
noncomputable def escheatlaw22_FmapOwns_c29_d (n : Nat) : SmV := smOps E_escheatlaw22_FmapOwns escheatlaw22_FmapOwns_o14
noncomputable def escheatlaw22_FmapOwns_c30_d (n : Nat) : SmV := smOps E_escheatlaw22_FmapOwns escheatlaw22_FmapOwns_o15
noncomputable def escheatlaw22_FmapOwns_c31_d (n : Nat) : SmV := smCond (.t 49) smSkip (smExit 2)
noncomputable def escheatlaw22_FmapOwns_c32_d (n : Nat) : SmV := smSeq [3, 5, 7, 8, 10, 49] (escheatlaw22_FmapOwns_c30_d n) (escheatlaw22_FmapOwns_c31_d n)
noncomputable def escheatlaw22_FmapOwns_c33_d (n : Nat) : SmV := smOps E_escheatlaw22_FmapOwns escheatlaw22_FmapOwns_o16
noncomputable def escheatlaw22_FmapOwns_c34_d (n : Nat) : SmV := smOps E_escheatlaw22_FmapOwns escheatlaw22_FmapOwns_o17
noncomputable def escheatlaw22_FmapOwns_c35_d (n : Nat) : SmV := smSeq [4] (escheatlaw22_FmapOwns_c34_d n) smRet
noncomputable def escheatlaw22_FmapOwns_c36_d (n : Nat) : SmV := smCond (.t 58) (escheatlaw22_FmapOwns_c35_d n) smSkip
noncomputable def escheatlaw22_FmapOwns_c37_d (n : Nat) : SmV := smSeq [3, 5, 7, 8, 10, 58] (escheatlaw22_FmapOwns_c33_d n) (escheatlaw22_FmapOwns_c36_d n)
noncomputable def escheatlaw22_FmapOwns_c38_d (n : Nat) : SmV := smBlock 3 (escheatlaw22_FmapOwns_c37_d n)
noncomputable def escheatlaw22_FmapOwns_c39_d (n : Nat) : SmV := smOps E_escheatlaw22_FmapOwns escheatlaw22_FmapOwns_o18
noncomputable def escheatlaw22_FmapOwns_c40_d (n : Nat) : SmV := smSeq [3, 5, 7, 8, 10] (escheatlaw22_FmapOwns_c38_d n) (escheatlaw22_FmapOwns_c39_d n)
noncomputable def escheatlaw22_FmapOwns_c41_d (n : Nat) : SmV := smSeq [3, 5, 7, 8, 10] (escheatlaw22_FmapOwns_c32_d n) (escheatlaw22_FmapOwns_c40_d n)
noncomputable def escheatlaw22_FmapOwns_c42_d (n : Nat) : SmV := smLoop n [3, 5, 7, 8, 10] (escheatlaw22_FmapOwns_c41_d n)
noncomputable def escheatlaw22_FmapOwns_c43_d (n : Nat) : SmV := smBlock 2 (escheatlaw22_FmapOwns_c42_d n)
noncomputable def escheatlaw22_FmapOwns_c44_d (n : Nat) : SmV := smSeq [3, 5, 7, 8, 10] (escheatlaw22_FmapOwns_c29_d n) (escheatlaw22_FmapOwns_c43_d n)
noncomputable def escheatlaw22_FmapOwns_c45_d (n : Nat) : SmV := smOps E_escheatlaw22_FmapOwns escheatlaw22_FmapOwns_o19
noncomputable def escheatlaw22_FmapOwns_c46_d (n : Nat) : SmV := smOps E_escheatlaw22_FmapOwns escheatlaw22_FmapOwns_o20
noncomputable def escheatlaw22_FmapOwns_c47_d (n : Nat) : SmV := smOps E_escheatlaw22_FmapOwns escheatlaw22_FmapOwns_o21
noncomputable def escheatlaw22_FmapOwns_c48_d (n : Nat) : SmV := smCond (.t 65) smSkip (smExit 4)
noncomputable def escheatlaw22_FmapOwns_c49_d (n : Nat) : SmV := smSeq [3, 5, 7, 8, 11, 12, 65] (escheatlaw22_FmapOwns_c47_d n) (escheatlaw22_FmapOwns_c48_d n)
noncomputable def escheatlaw22_FmapOwns_c50_d (n : Nat) : SmV := smDraw E_escheatlaw22_FmapOwns 0 escheatlaw22_FmapOwns_o22 escheatlaw22_FmapOwns_o23
noncomputable def escheatlaw22_FmapOwns_c51_d (n : Nat) : SmV := smOps E_escheatlaw22_FmapOwns escheatlaw22_FmapOwns_o24
noncomputable def escheatlaw22_FmapOwns_c52_d (n : Nat) : SmV := smSeq [4] (escheatlaw22_FmapOwns_c51_d n) smRet
noncomputable def escheatlaw22_FmapOwns_c53_d (n : Nat) : SmV := smCond (.t 77) (escheatlaw22_FmapOwns_c52_d n) smSkip
noncomputable def escheatlaw22_FmapOwns_c54_d (n : Nat) : SmV := smSeq [3, 5, 7, 8, 11, 12, 77] (escheatlaw22_FmapOwns_c50_d n) (escheatlaw22_FmapOwns_c53_d n)
noncomputable def escheatlaw22_FmapOwns_c55_d (n : Nat) : SmV := smBlock 5 (escheatlaw22_FmapOwns_c54_d n)
noncomputable def escheatlaw22_FmapOwns_c56_d (n : Nat) : SmV := smOps E_escheatlaw22_FmapOwns escheatlaw22_FmapOwns_o25
noncomputable def escheatlaw22_FmapOwns_c57_d (n : Nat) : SmV := smSeq [3, 5, 7, 8, 11, 12] (escheatlaw22_FmapOwns_c55_d n) (escheatlaw22_FmapOwns_c56_d n)
noncomputable def escheatlaw22_FmapOwns_c58_d (n : Nat) : SmV := smSeq [3, 5, 7, 8, 11, 12] (escheatlaw22_FmapOwns_c49_d n) (escheatlaw22_FmapOwns_c57_d n)
noncomputable def escheatlaw22_FmapOwns_c59_d (n : Nat) : SmV := smLoop n [3, 5, 7, 8, 11, 12] (escheatlaw22_FmapOwns_c58_d n)
noncomputable def escheatlaw22_FmapOwns_c60_d (n : Nat) : SmV := smBlock 4 (escheatlaw22_FmapOwns_c59_d n)
noncomputable def escheatlaw22_FmapOwns_c61_d (n : Nat) : SmV := smSeq [3, 5, 7, 8, 11, 12] (escheatlaw22_FmapOwns_c46_d n) (escheatlaw22_FmapOwns_c60_d n)
noncomputable def escheatlaw22_FmapOwns_c62_d (n : Nat) : SmV := smOps E_escheatlaw22_FmapOwns escheatlaw22_FmapOwns_o26
noncomputable def escheatlaw22_FmapOwns_c63_d (n : Nat) : SmV := smSeq [4] (escheatlaw22_FmapOwns_c62_d n) smRet
noncomputable def escheatlaw22_FmapOwns_c64_d (n : Nat) : SmV := smSeq [3, 7, 8, 11] (escheatlaw22_FmapOwns_c61_d n) (escheatlaw22_FmapOwns_c63_d n)
noncomputable def escheatlaw22_FmapOwns_c65_d (n : Nat) : SmV := smSeq [3, 5, 7, 8, 11] (escheatlaw22_FmapOwns_c45_d n) (escheatlaw22_FmapOwns_c64_d n)
noncomputable def escheatlaw22_FmapOwns_c66_d (n : Nat) : SmV := smSeq [3, 5, 7, 8] (escheatlaw22_FmapOwns_c44_d n) (escheatlaw22_FmapOwns_c65_d n)
noncomputable def escheatlaw22_FmapOwns_c67_d (n : Nat) : SmV := smSeq [3, 5, 7, 8] (escheatlaw22_FmapOwns_c28_d n) (escheatlaw22_FmapOwns_c66_d n)
noncomputable def escheatlaw22_FmapOwns_c68_d (n : Nat) : SmV := smSeq [3, 5, 7, 8] (escheatlaw22_FmapOwns_c12_d n) (escheatlaw22_FmapOwns_c67_d n)
noncomputable def escheatlaw22_FmapOwns_c69_d (n : Nat) : SmV := smSeq [3, 5] (escheatlaw22_FmapOwns_c11_d n) (escheatlaw22_FmapOwns_c68_d n)
noncomputable def escheatlaw22_FmapOwns_c70_d (n : Nat) : SmV := smSeq [3, 5, 6] (escheatlaw22_FmapOwns_c6_d n) (escheatlaw22_FmapOwns_c69_d n)
noncomputable def escheatlaw22_FmapOwns_c71_d (n : Nat) : SmV := smSeq [0, 3] (escheatlaw22_FmapOwns_c5_d n) (escheatlaw22_FmapOwns_c70_d n)
noncomputable def escheatlaw22_FmapOwns_c72_d (n : Nat) : SmV := smSeq [0, 3] (escheatlaw22_FmapOwns_c0_d n) (escheatlaw22_FmapOwns_c71_d n)
noncomputable def escheatlaw22_FmapOwns_k0 (n : Nat) : AExit → Env → Heap → OptV := fun x e h => match x with | .normal => hold ((escheatlaw22_FmapOwns_c66_d n) A_escheatlaw22_FmapOwns.fin (e.keep [3, 5, 7, 8]) h) | .exit id => A_escheatlaw22_FmapOwns.fin (.exit id) e h | .ret => A_escheatlaw22_FmapOwns.fin .ret e h
noncomputable def escheatlaw22_FmapOwns_k1 (n : Nat) : AExit → Env → Heap → OptV := fun x e h => match x with | .exit i => bif Nat.beq i 0 then (escheatlaw22_FmapOwns_k0 n) .normal e h else (escheatlaw22_FmapOwns_k0 n) (.exit i) e h | .normal => (escheatlaw22_FmapOwns_k0 n) .normal e h | .ret => (escheatlaw22_FmapOwns_k0 n) .ret e h
noncomputable def escheatlaw22_FmapOwns_l0 (n m : Nat) (x3 x5 x7 x8 x9 : Val) (h : Heap) : OptV := around (escheatlaw22_FmapOwns_c25_d n) [3, 5, 7, 8, 9] (escheatlaw22_FmapOwns_k1 n) m [(3, x3), (5, x5), (7, x7), (8, x8), (9, x9)] h
noncomputable def R_escheatlaw22_FmapOwns (n : Nat) (args : List Val) (h : Heap) : OptV := (escheatlaw22_FmapOwns_c72_d n) A_escheatlaw22_FmapOwns.fin (params 0 args) h
noncomputable def escheatlaw22_FmapOwns_k2 (n : Nat) : AExit → Env → Heap → OptV := fun x e h => match x with | .normal => hold ((escheatlaw22_FmapOwns_c65_d n) A_escheatlaw22_FmapOwns.fin (e.keep [3, 5, 7, 8]) h) | .exit id => A_escheatlaw22_FmapOwns.fin (.exit id) e h | .ret => A_escheatlaw22_FmapOwns.fin .ret e h
noncomputable def escheatlaw22_FmapOwns_k3 (n : Nat) : AExit → Env → Heap → OptV := fun x e h => match x with | .exit i => bif Nat.beq i 2 then (escheatlaw22_FmapOwns_k2 n) .normal e h else (escheatlaw22_FmapOwns_k2 n) (.exit i) e h | .normal => (escheatlaw22_FmapOwns_k2 n) .normal e h | .ret => (escheatlaw22_FmapOwns_k2 n) .ret e h
noncomputable def escheatlaw22_FmapOwns_l1 (n m : Nat) (x3 x5 x7 x8 x10 : Val) (h : Heap) : OptV := around (escheatlaw22_FmapOwns_c41_d n) [3, 5, 7, 8, 10] (escheatlaw22_FmapOwns_k3 n) m [(3, x3), (5, x5), (7, x7), (8, x8), (10, x10)] h
noncomputable def escheatlaw22_FmapOwns_k4 (n : Nat) : AExit → Env → Heap → OptV := fun x e h => match x with | .normal => hold ((escheatlaw22_FmapOwns_c63_d n) A_escheatlaw22_FmapOwns.fin (e.keep [3, 7, 8, 11]) h) | .exit id => A_escheatlaw22_FmapOwns.fin (.exit id) e h | .ret => A_escheatlaw22_FmapOwns.fin .ret e h
noncomputable def escheatlaw22_FmapOwns_k5 (n : Nat) : AExit → Env → Heap → OptV := fun x e h => match x with | .exit i => bif Nat.beq i 4 then (escheatlaw22_FmapOwns_k4 n) .normal e h else (escheatlaw22_FmapOwns_k4 n) (.exit i) e h | .normal => (escheatlaw22_FmapOwns_k4 n) .normal e h | .ret => (escheatlaw22_FmapOwns_k4 n) .ret e h
noncomputable def escheatlaw22_FmapOwns_l2 (n m : Nat) (x3 x5 x7 x8 x11 x12 : Val) (h : Heap) : OptV := around (escheatlaw22_FmapOwns_c58_d n) [3, 5, 7, 8, 11, 12] (escheatlaw22_FmapOwns_k5 n) m [(3, x3), (5, x5), (7, x7), (8, x8), (11, x11), (12, x12)] h
theorem R_escheatlaw22_FmapOwns_eq (n : Nat) (a0 a1 : Val) (h : Heap) : R_escheatlaw22_FmapOwns n [a0, a1] h = bnd (cells? a1) fun c1 => bnd (alen a0) fun v2 => bnd (abin .gtr v2 (.c (.i .i64 60))) fun v3 => cnd v3 (bnd (S_escheatlaw22_works [] ((h ++ [some (Row.mk (c1) true)]))) fun p4 => some (p4.1, p4.2)) (bnd (S_escheatlaw21_To [a0] ((h ++ [some (Row.mk (c1) true)]))) fun p5 => bnd (S_view_Of [p5.1] p5.2) fun p6 => bnd (aext p6.1 0) fun v7 => bnd (aext p6.1 1) fun v8 => bnd (astoreN ((p6.2 ++ [some (Row.mk ([.i .i64 0, .i .i64 0, .i .u64 0, .nf]) true)])) 4 ((.c (.p p6.2.length 0))) v7) fun h9 => bnd (abin .neq v8 (.c (.i .i64 0))) fun v10 => cnd v10 (bnd (S_escheatlaw22_works [] h9) fun p11 => some (p11.1, p11.2)) (bnd (aloadN h9 4 ((.c (.p p6.2.length 0)))) fun v12 => bnd (aloadN h9 11 ((.c (.p h.length 0)))) fun v13 => bnd (quiet ((h9 ++ [])) (S_fmap_Owns__Owns_1 [v12, v13] ((h9 ++ [])))) fun p14 => bnd (aloadN h9 4 ((.c (.p p6.2.length 0)))) fun v15 => bnd (aloadN h9 11 ((.c (.p h.length 0)))) fun v16 => bnd (S_fmap_Blocks [v15, v16] p14.2) fun p17 => escheatlaw22_FmapOwns_l0 n n ((.c (.p h.length 0))) ((.c (.p p6.2.length 0))) p14.1 p17.1 (.c (.i .i64 0)) p17.2)) := by kernel_rfl
theorem escheatlaw22_FmapOwns_l0_eq (n m : Nat) (x3 x5 x7 x8 x9 : Val) (h : Heap) : escheatlaw22_FmapOwns_l0 n (m + 1) x3 x5 x7 x8 x9 h = bnd (alen x7) fun v18 => bnd (abin .lss x9 v18) fun v19 => cnd v19 (bnd (afAddr x5 0) fun v20 => bnd (aloadN h 3 v20) fun v21 => bnd (aiAddrL 1 x7 x9) fun v22 => bnd (aload1 h v22) fun v23 => bnd (S_geom_IsData [v21, v23] ((h ++ []))) fun p24 => bnd (aun .not p24.1) fun v25 => cnd v25 (some ((.c (.b false)), p24.2)) (bnd (abin .add x9 (.c (.i .i64 1))) fun v26 => escheatlaw22_FmapOwns_l0 n m x3 x5 x7 x8 v26 p24.2)) (escheatlaw22_FmapOwns_l1 n n x3 x5 x7 x8 (.c (.i .i64 0)) h) := by kernel_rfl
theorem escheatlaw22_FmapOwns_l1_eq (n m : Nat) (x3 x5 x7 x8 x10 : Val) (h : Heap) : escheatlaw22_FmapOwns_l1 n (m + 1) x3 x5 x7 x8 x10 h = bnd (alen x8) fun v27 => bnd (abin .lss x10 v27) fun v28 => cnd v28 (bnd (aiAddrL 1 x8 x10) fun v29 => bnd (aload1 h v29) fun v30 => bnd (S_escheatref09_In [x7, v30] h) fun p31 => bnd (aun .not p31.1) fun v32 => cnd v32 (some ((.c (.b false)), p31.2)) (bnd (abin .add x10 (.c (.i .i64 1))) fun v33 => escheatlaw22_FmapOwns_l1 n m x3 x5 x7 x8 v33 p31.2)) (bnd (aloadN h 4 x5) fun v34 => bnd (aloadN h 11 x3) fun v35 => bnd (S_fmap_Beyond [v34, v35] h) fun p36 => escheatlaw22_FmapOwns_l2 n n x3 x5 x7 x8 p36.1 (.c (.i .i64 0)) p36.2) := by kernel_rfl
theorem escheatlaw22_FmapOwns_l2_eq (n m : Nat) (x3 x5 x7 x8 x11 x12 : Val) (h : Heap) : escheatlaw22_FmapOwns_l2 n (m + 1) x3 x5 x7 x8 x11 x12 h = bnd (alen x11) fun v37 => bnd (abin .lss x12 v37) fun v38 => cnd v38 (bnd (aloadN h 4 x5) fun v39 => bnd (aloadN h 11 x3) fun v40 => bnd (aiAddrL 1 x11 x12) fun v41 => bnd (aload1 h v41) fun v42 => bnd (quiet ((h ++ [])) (S_fmap_At [v39, v40, v42] ((h ++ [])))) fun p43 => bnd (S_escheatref09_In [x7, p43.1] p43.2) fun p44 => bnd (aun .not p44.1) fun v45 => cnd v45 (some ((.c (.b false)), p44.2)) (bnd (abin .add x12 (.c (.i .i64 1))) fun v46 => escheatlaw22_FmapOwns_l2 n m x3 x5 x7 x8 x11 v46 p44.2)) (bnd (afAddr x3 0) fun v47 => bnd (aload1 h v47) fun v48 => bnd (abin .neq v48 (.c (.i .i64 1))) fun v49 => bnd (gd v49 false (some (x7, h)) (some (.no, h))) fun p50 => bnd (gd v49 false (bnd (alen p50.1) fun v51 => some (v51, p50.2)) (some (.no, p50.2))) fun p52 => bnd (gd v49 false (some (x8, p52.2)) (some (.no, p52.2))) fun p53 => bnd (gd v49 false (bnd (alen p53.1) fun v54 => some (v54, p53.2)) (some (.no, p53.2))) fun p55 => bnd (gd v49 false (bnd (abin .add p55.1 (.c (.i .i64 1))) fun v56 => some (v56, p55.2)) (some (.no, p55.2))) fun p57 => bnd (gd v49 false (bnd (abin .leq p52.1 p57.1) fun v58 => some (v58, p57.2)) (some (.no, p57.2))) fun p59 => bnd (apick v49 (.c (.b true)) p59.1) fun v60 => bnd (gd v60 true (bnd (afAddr x3 0) fun v61 => some (v61, p59.2)) (some (.no, p59.2))) fun p62 => bnd (gd v60 true (bnd (aload1 p62.2 p62.1) fun v63 => some (v63, p62.2)) (some (.no, p62.2))) fun p64 => bnd (gd v60 true (bnd (abin .eql p64.1 (.c (.i .i64 1))) fun v65 => some (v65, p64.2)) (some (.no, p64.2))) fun p66 => bnd (gd v60 true (some (p66.1, p66.2)) (some (.no, p66.2))) fun p67 => bnd (gd p67.1 false (some (x8, p67.2)) (some (.no, p67.2))) fun p68 => bnd (gd p67.1 false (bnd (alen p68.1) fun v69 => some (v69, p68.2)) (some (.no, p68.2))) fun p70 => bnd (gd p67.1 false (some (x11, p70.2)) (some (.no, p70.2))) fun p71 => bnd (gd p67.1 false (bnd (alen p71.1) fun v72 => some (v72, p71.2)) (some (.no, p71.2))) fun p73 => bnd (gd p67.1 false (bnd (abin .add p70.1 p73.1) fun v74 => some (v74, p73.2)) (some (.no, p73.2))) fun p75 => bnd (gd p67.1 false (bnd (abin .eql p75.1 (.c (.i .i64 0))) fun v76 => some (v76, p75.2)) (some (.no, p75.2))) fun p77 => bnd (gd v60 true (bnd (apick p67.1 (.c (.b true)) p77.1) fun v78 => some (v78, p77.2)) (some (.no, p77.2))) fun p79 => bnd (apick v60 p79.1 (.c (.b false))) fun v80 => bnd (gd v80 true (bnd (S_escheatlaw22_works [] p79.2) fun p81 => some (p81.1, p81.2)) (some (.no, p79.2))) fun p82 => bnd (apick v80 p82.1 (.c (.b false))) fun v83 => some (v83, p82.2)) := by kernel_rfl
theorem K_escheatlaw22_FmapOwns : FnK Try.prog 6 A_escheatlaw22_FmapOwns E_escheatlaw22_FmapOwns R_escheatlaw22_FmapOwns := .mk' (sound1 S_escheatlaw22_works_ok (sound1 S_escheatlaw21_To_ok (sound1 S_view_Of_ok (sound1 S_fmap_Owns__Owns_1_ok (sound1 S_fmap_Blocks_ok (sound1 S_geom_IsData_ok (sound1 S_escheatref09_In_ok (sound1 S_fmap_Beyond_ok (sound1 S_fmap_At_ok sound0))))))))) Try.func6 (by kernel_rfl) (by intro n args h; kernel_rfl)
noncomputable def S_escheatlaw22_FmapOwns : Fun := tidy (Lim A_escheatlaw22_FmapOwns E_escheatlaw22_FmapOwns)
theorem S_escheatlaw22_FmapOwns_ok : SOk Try.prog 6 S_escheatlaw22_FmapOwns := K_escheatlaw22_FmapOwns.sok
theorem S_escheatlaw22_FmapOwns_flat {n : Nat} {args : List Val} {h h2 : Heap} {v : Val} (he : R_escheatlaw22_FmapOwns n args (ro h) = some (v, h2)) (hf : v.flat = true) : S_escheatlaw22_FmapOwns args h = some (v, h) := K_escheatlaw22_FmapOwns.flat he hf
end Go.Proofs.Ytdgggnlbdoiloaa
end
section
namespace Go.Proofs.Ytdgggnlbdoiloaa
open Go Go.Esc

theorem ok_ino : ∀ (a : List Int), a.length = 11 → ∃ k l s p d, a = k :: l :: s :: p :: d ∧ d.length = 7
  | [], h => by simp at h
  | [_], h => by simp at h
  | [_, _], h => by simp at h
  | [_, _, _], h => by simp at h
  | k :: l :: s :: p :: d, h => ⟨k, l, s, p, d, rfl, by simpa using h⟩

theorem in_loop {v : Val} {nv : Nat} {l : List Int} {n : Int} {q : Nat} {h : Heap} (hv : Has h v 1 nv (encI l)) (hl : l.length < 9223372036854775807) : ∀ e i m, i + e = l.length → e < m →
    escheatref09_In_l0 q m v (.c (.i .i64 n)) (.c (.i .i64 (i : Int))) h = some (.c (.b (decide (n ∈ l.drop i))), h)
  | e, i, 0, _, hm => by omega
  | 0, i, m + 1, hi, hm => by
    have hnv : l.length = nv := by simpa [encI_length] using hv.length
    have c0 : ¬ (i : Int) < (nv : Nat) := by omega
    rw [escheatref09_In_l0_eq, List.drop_of_length_le (by omega)]
    simp only [bnd_some, hv.len, abin_lss, c0, decide_false, cnd_f, List.not_mem_nil]
  | e + 1, i, m + 1, hi, hm => by
    have ih := in_loop (n := n) (q := q) hv hl e (i + 1) m (by omega) (by omega)
    have hnv : l.length = nv := by simpa [encI_length] using hv.length
    have hlen := hv.len
    have hil : i < l.length := by omega
    obtain ⟨id, off, rfl, hid, h1, _⟩ := hv.sl (by omega)
    have hx := h1 i (.i .i64 l[i]) (by rw [encI_get, List.getElem?_eq_getElem hil]; rfl)
    have ea : aiAddrL 1 (.c (.sl id off nv 1)) (.c (.i .i64 (i : Int))) = some (.c (.p id (off + i))) := by rw [iAddrL_of (by omega)]; simp
    have c0 : (i : Int) < (nv : Nat) := by omega
    rw [escheatref09_In_l0_eq, List.drop_eq_getElem_cons hil]
    by_cases c : l[i] = n
    · have : n ∈ l[i] :: l.drop (i + 1) := by rw [c]; exact List.mem_cons_self ..
      rw [decide_eq_true this]
      simp only [bnd_some, hlen, abin_lss, c0, decide_true, cnd_t, ea, hx, abin_eql, c]
    · have : (n ∈ l[i] :: l.drop (i + 1)) = (n ∈ l.drop (i + 1)) := by rw [List.mem_cons]; simp [Ne.symm c]
      have e2 : decide (n ∈ l[i] :: l.drop (i + 1)) = decide (n ∈ l.drop (i + 1)) := by rw [decide_eq_decide]; rw [this]
      rw [e2]
      simp only [bnd_some, hlen, abin_lss, c0, decide_true, cnd_t, ea, hx, abin_eql, c, decide_false, cnd_f, abin_add, wi_succ (show i + 1 < 9223372036854775808 by omega)]
      exact ih

theorem ref09_In_eq {v : Val} {nv : Nat} {l : List Int} {n : Int} {h : Heap} (hv : Has h v 1 nv (encI l)) (hl : l.length < 9223372036854775807) : S_escheatref09_In [v, .c (.i .i64 n)] h = some (.c (.b (decide (n ∈ l))), h) := by
  refine S_escheatref09_In_flat (n := l.length + 1) (h2 := ro h) ?_ rfl
  have := in_loop (n := n) (q := l.length + 1) hv.ro hl l.length 0 (l.length + 1) (by omega) (by omega)
  rw [List.drop_zero] at this
  rw [R_escheatref09_In_eq]
  exact this

theorem datL_at {D : Dev} {n k : Int} {d : List Int} {j : Int} (h : atF D n k d j ≠ 0) : k = 1 ∧ isDatL D.length n (atF D n k d j) = true := by
  unfold atF at h ⊢
  split at h
  · rename_i c
    rw [if_pos c]
    refine ⟨c.1, ?_⟩
    unfold datF1 at h ⊢
    cases e : isDatL D.length n (rawF D n d j.toNat) with
    | true => rw [cond_true]; exact e
    | false => rw [e, cond_false] at h; exact absurd rfl h
  · exact absurd rfl h
theorem owns_dat {D : Dev} {n k : Int} {d : List Int} : ∀ x ∈ ownsF D n k d, isDatL D.length n x = true := by
  intro x hx
  unfold ownsF at hx
  have he : ∀ e j, x ∈ (eachF (atF D n k d) e j).map (·.2) → isDatL D.length n x = true := fun e j h => by
    obtain ⟨q, hq, rfl⟩ := List.mem_map.1 h
    have := eachF_mem e j q hq
    rw [this.2.2.1]
    exact (datL_at (by rw [← this.2.2.1]; exact this.2.2.2)).2
  split at hx
  · rcases List.mem_append.1 hx with hx | hx
    · split at hx
      · rename_i c
        rw [List.mem_singleton.1 hx]
        unfold idxOk at c
        rw [Bool.and_eq_true, Bool.and_eq_true] at c
        exact c.1.2
      · simp at hx
    · unfold bukF at hx
      cases c : idxOk D n k d with
      | true => rw [c, cond_true] at hx; exact (List.mem_filter.1 hx).2
      | false => rw [c, cond_false] at hx; simp at hx
  · rcases List.mem_append.1 hx with hx | hx
    · rcases List.mem_append.1 hx with hx | hx
      · exact he _ _ hx
      · split at hx
        · rename_i c
          rw [List.mem_singleton.1 hx]; exact c.2
        · simp at hx
    · exact he _ _ hx
theorem at_none {D : Dev} {n k : Int} {d : List Int} (hk : k ≠ 1) (j : Int) : atF D n k d j = 0 := by unfold atF; rw [if_neg (by omega)]
theorem blocks_none {D : Dev} {n k : Int} {d : List Int} (hk : k ≠ 1) : (eachF (atF D n k d) 134 0).map (·.2) = [] := by rw [eachF_none (at_none hk)]; rfl
theorem beyond_none {D : Dev} {n k s : Int} {d : List Int} (hk : k ≠ 1) : beyF (atF D n k d) s = [] := by unfold beyF; rw [eachF_none (at_none hk)]; rfl
theorem owns_file {D : Dev} {n : Int} {d : List Int} : ownsF D n 1 d = (eachF (atF D n 1 d) 6 0).map (·.2) ++ (if isDatL D.length n (d.getD 6 0) = true then [d.getD 6 0] else []) ++ (eachF (atF D n 1 d) 128 6).map (·.2) := by
  unfold ownsF; rw [if_neg (by decide)]; simp only [true_and]
theorem blocks_split {D : Dev} {n k : Int} {d : List Int} : (eachF (atF D n k d) 134 0).map (·.2) = (eachF (atF D n k d) 6 0).map (·.2) ++ (eachF (atF D n k d) 128 6).map (·.2) := by
  have : eachF (atF D n k d) 134 0 = eachF (atF D n k d) 6 0 ++ eachF (atF D n k d) 128 6 := eachF_split _ 6 128 0
  rw [this, List.map_append]
theorem blocks_in {D : Dev} {n k : Int} {d : List Int} : ∀ x ∈ (eachF (atF D n k d) 134 0).map (·.2), x ∈ ownsF D n k d := by
  intro x hx
  by_cases hk : k = 1
  · subst hk
    rw [blocks_split] at hx
    rw [owns_file]
    rcases List.mem_append.1 hx with hx | hx
    · exact List.mem_append_left _ (List.mem_append_left _ hx)
    · exact List.mem_append_right _ hx
  · rw [blocks_none hk] at hx; simp at hx
theorem beyond_in {D : Dev} {n k s : Int} {d : List Int} : ∀ j ∈ beyF (atF D n k d) s, atF D n k d j ∈ ownsF D n k d := by
  intro j hj
  unfold beyF at hj
  obtain ⟨q, hq, rfl⟩ := List.mem_map.1 hj
  have hq2 := (List.mem_filter.1 hq).1
  have := eachF_mem 134 0 q hq2
  rw [← this.2.2.1]
  exact blocks_in _ (List.mem_map.2 ⟨q, hq2, rfl⟩)
theorem owns_len {D : Dev} {n : Int} {d : List Int} : (ownsF D n 1 d).length ≤ ((eachF (atF D n 1 d) 134 0).map (·.2)).length + 1 := by
  rw [owns_file, blocks_split]
  simp only [List.length_append]
  split
  · simp; omega
  · simp
theorem owns_much {D : Dev} {n k : Int} {d : List Int} : (ownsF D n k d).length ≤ 1000 := by
  unfold ownsF
  split
  · have hbl : (bukF D n k d).length ≤ 32 := by
      unfold bukF
      cases idxOk D n k d with
      | false => simp
      | true =>
        have h1 := List.length_filter_le (isDatL D.length n) (bucL (getT (blk D (d.getD 0 0)) 32) (manyX (getD (blk D (d.getD 0 0)))))
        have h2 := bucL_length (getT (blk D (d.getD 0 0)) 32) (manyX (getD (blk D (d.getD 0 0))))
        have h3 := manyX_le (getD (blk D (d.getD 0 0)))
        simp only [cond_true]
        omega
    rw [List.length_append]
    split
    · simp; omega
    · simp; omega
  · have h1 := eachF_length (atF D n k d) 6 0
    have h2 := eachF_length (atF D n k d) 128 6
    simp only [List.length_append, List.length_map]
    split
    · simp; omega
    · simp; omega

theorem elem_at {h : Heap} {v : Val} {l : List Int} (hv : Has h v 1 l.length (encI l)) {i : Nat} (hi : i < l.length) : ∃ a, aiAddrL 1 v (.c (.i .i64 (i : Int))) = some a ∧ aload1 h a = some (.c (.i .i64 l[i])) := by
  obtain ⟨id, off, rfl, hid, h1, _⟩ := hv.sl (by omega)
  exact ⟨.c (.p id (off + i)), by rw [iAddrL_of hi]; simp, h1 i (.i .i64 l[i]) (by rw [encI_get, List.getElem?_eq_getElem hi]; rfl)⟩

section
variable {D : Dev} {n m k l s p : Int} {d : List Int} {f : Cell} {q pi pv : Nat}

theorem fo_l2 {h : Heap} {own all bey : Val} (hD : okD D) (hd : d.length = 7) (hv : IsView h f D) (hpv : rd h pv = some ⟨vwC D.length n m f, true⟩) (hpi : rd h pi = some ⟨inoC k l s p d, true⟩)
    (ho : Has h own 1 (ownsF D n k d).length (encI (ownsF D n k d))) (ha : Has h all 1 ((eachF (atF D n k d) 134 0).map (·.2)).length (encI ((eachF (atF D n k d) 134 0).map (·.2)))) (hb : Has h bey 1 (beyF (atF D n k d) s).length (encI (beyF (atF D n k d) s))) :
    ∀ e i M, i + e = (beyF (atF D n k d) s).length → e < M → ∃ h', escheatlaw22_FmapOwns_l2 q M (.c (.p pi 0)) (.c (.p pv 0)) own all bey (.c (.i .i64 (i : Int))) h = some (.c (.b true), h')
  | e, i, 0, _, hm => by omega
  | 0, i, M + 1, hi, hm => by
    have c0 : ¬ (i : Int) < ((beyF (atF D n k d) s).length : Nat) := by omega
    have fa0 : afAddr (.c (.p pi 0)) 0 = some (.c (.p pi 0)) := rfl
    have i0 : aload1 h (.c (.p pi 0)) = some (.c (.i .i64 k)) := load1_of hpi rfl rfl
    have e1 := eachF_length (atF D n k d) 134 0
    have e2 := ho.len
    have e3 := ha.len
    have e4 := hb.len
    rw [escheatlaw22_FmapOwns_l2_eq]
    by_cases ck : k = 1
    · subst ck
      have c1 : ((ownsF D n 1 d).length : Int) ≤ (((eachF (atF D n 1 d) 134 0).map (·.2)).length : Int) + 1 := by
        have := owns_len (D := D) (n := n) (d := d)
        omega
      have w1 : IntKind.wrap .i64 ((((eachF (atF D n 1 d) 134 0).map (·.2)).length : Int) + 1) = (((eachF (atF D n 1 d) 134 0).map (·.2)).length : Int) + 1 := by
        rw [List.length_map]
        exact wrap_i64 (by omega) (by omega)
      generalize (eachF (atF D n 1 d) 134 0).map (·.2) = A at *
      generalize ownsF D n 1 d = O at *
      exact ⟨_, by simp only [esc, e4, c0, fa0, i0, eq_self, e2, e3, w1, c1, works22_eq] <;> rfl⟩
    · have h1 := blocks_none (D := D) (n := n) (d := d) ck
      have h2 := beyond_none (D := D) (n := n) (s := s) (d := d) ck
      rw [h1] at e3
      rw [h2] at e4 c0
      have w0 : IntKind.wrap .i64 (((([] : List Int).length : Nat) : Int) + ((([] : List Int).length : Nat) : Int)) = 0 := by decide
      exact ⟨_, by simp only [bnd_some, e4, abin_lss, c0, decide_false, cnd_f, fa0, i0, abin_neq, ne_eq, ck, not_false_eq_true, decide_true, gd_tf, gd_tt, gd_ff, apick_b, cond_true, cond_false, abin_eql, eq_self, e3, abin_add, w0, works22_eq] <;> rfl⟩
  | e + 1, i, M + 1, hi, hm => by
    have hil : i < (beyF (atF D n k d) s).length := by omega
    have c0 : (i : Int) < ((beyF (atF D n k d) s).length : Nat) := by omega
    obtain ⟨a, a1, a2⟩ := elem_at hb hil
    have hIl : (inoC k l s p d).length = 11 := by simp [inoC, encI_length, hd]
    have b1 := loadAll (n := 4) hpv rfl
    have b2 := loadAll (n := 11) hpi hIl
    have hA := fmap_At_eq (n := n) (m := m) (k := k) (l := l) (s := s) (p := p) (j := (beyF (atF D n k d) s)[i]) hD hd hv
    have hIn := ref09_In_eq (n := atF D n k d (beyF (atF D n k d) s)[i]) ho (by have := owns_much (D := D) (n := n) (k := k) (d := d); omega)
    rw [decide_eq_true (beyond_in _ (List.getElem_mem hil))] at hIn
    have hbl : (beyF (atF D n k d) s).length ≤ 134 := by
      unfold beyF
      rw [List.length_map]
      exact Nat.le_trans (List.length_filter_le _ _) (eachF_length _ _ _)
    obtain ⟨h', ih⟩ := fo_l2 hD hd hv hpv hpi ho ha hb e (i + 1) M (by omega) (by omega)
    refine ⟨h', ?_⟩
    rw [escheatlaw22_FmapOwns_l2_eq]
    simp only [bnd_some, hb.len, abin_lss, c0, decide_true, cnd_t, b1, b2, a1, a2, List.append_nil, hA, quiet_same, hIn, aun_not, Bool.not_true, cnd_f, abin_add, wi_succ (show i + 1 < 9223372036854775808 by omega)]
    exact ih

theorem fo_l1 {h : Heap} {own all : Val} (hD : okD D) (hd : d.length = 7) (hv : IsView h f D) (hpv : rd h pv = some ⟨vwC D.length n m f, true⟩) (hpi : rd h pi = some ⟨inoC k l s p d, true⟩) (hq : 1001 ≤ q)
    (ho : Has h own 1 (ownsF D n k d).length (encI (ownsF D n k d))) (ha : Has h all 1 ((eachF (atF D n k d) 134 0).map (·.2)).length (encI ((eachF (atF D n k d) 134 0).map (·.2)))) :
    ∀ e i M, i + e = ((eachF (atF D n k d) 134 0).map (·.2)).length → e < M → ∃ h', escheatlaw22_FmapOwns_l1 q M (.c (.p pi 0)) (.c (.p pv 0)) own all (.c (.i .i64 (i : Int))) h = some (.c (.b true), h')
  | e, i, 0, _, hm => by omega
  | 0, i, M + 1, hi, hm => by
    have c0 : ¬ (i : Int) < (((eachF (atF D n k d) 134 0).map (·.2)).length : Nat) := by omega
    have hIl : (inoC k l s p d).length = 11 := by simp [inoC, encI_length, hd]
    have b1 := loadAll (n := 4) hpv rfl
    have b2 := loadAll (n := 11) hpi hIl
    obtain ⟨v, t, g1, g2, _⟩ := fmap_Beyond_eq (n := n) (m := m) (k := k) (l := l) (s := s) (p := p) hD hd hv
    have hbl : (beyF (atF D n k d) s).length ≤ 134 := by
      unfold beyF
      rw [List.length_map]
      exact Nat.le_trans (List.length_filter_le _ _) (eachF_length _ _ _)
    obtain ⟨h', ih⟩ := fo_l2 (q := q) (pi := pi) (pv := pv) (m := m) (l := l) (p := p) hD hd (hv.more t) (rd_append hpv) (rd_append hpi) (ho.more t) (ha.more t) g2 (beyF (atF D n k d) s).length 0 q (by omega) (by omega)
    refine ⟨h', ?_⟩
    rw [escheatlaw22_FmapOwns_l1_eq]
    simp only [bnd_some, ha.len, abin_lss, c0, decide_false, cnd_f, b1, b2, g1]
    exact ih
  | e + 1, i, M + 1, hi, hm => by
    have hil : i < ((eachF (atF D n k d) 134 0).map (·.2)).length := by omega
    have c0 : (i : Int) < (((eachF (atF D n k d) 134 0).map (·.2)).length : Nat) := by omega
    obtain ⟨a, a1, a2⟩ := elem_at ha hil
    have hIn := ref09_In_eq (n := ((eachF (atF D n k d) 134 0).map (·.2))[i]) ho (by have := owns_much (D := D) (n := n) (k := k) (d := d); omega)
    rw [decide_eq_true (blocks_in _ (List.getElem_mem hil))] at hIn
    have hbl : ((eachF (atF D n k d) 134 0).map (·.2)).length ≤ 134 := by rw [List.length_map]; exact eachF_length _ _ _
    obtain ⟨h', ih⟩ := fo_l1 hD hd hv hpv hpi hq ho ha e (i + 1) M (by omega) (by omega)
    refine ⟨h', ?_⟩
    rw [escheatlaw22_FmapOwns_l1_eq]
    simp only [bnd_some, ha.len, abin_lss, c0, decide_true, cnd_t, a1, a2, hIn, aun_not, Bool.not_true, cnd_f, abin_add, wi_succ (show i + 1 < 9223372036854775808 by omega)]
    exact ih

theorem fo_l0 {h : Heap} {own all : Val} (hD : okD D) (hd : d.length = 7) (hv : IsView h f D) (hpv : rd h pv = some ⟨vwC D.length n m f, true⟩) (hpi : rd h pi = some ⟨inoC k l s p d, true⟩) (hq : 1001 ≤ q)
    (ho : Has h own 1 (ownsF D n k d).length (encI (ownsF D n k d))) (ha : Has h all 1 ((eachF (atF D n k d) 134 0).map (·.2)).length (encI ((eachF (atF D n k d) 134 0).map (·.2)))) :
    ∀ e i M, i + e = (ownsF D n k d).length → e < M → ∃ h', escheatlaw22_FmapOwns_l0 q M (.c (.p pi 0)) (.c (.p pv 0)) own all (.c (.i .i64 (i : Int))) h = some (.c (.b true), h')
  | e, i, 0, _, hm => by omega
  | 0, i, M + 1, hi, hm => by
    have c0 : ¬ (i : Int) < ((ownsF D n k d).length : Nat) := by omega
    have hbl : ((eachF (atF D n k d) 134 0).map (·.2)).length ≤ 134 := by rw [List.length_map]; exact eachF_length _ _ _
    obtain ⟨h', ih⟩ := fo_l1 hD hd hv hpv hpi hq ho ha _ 0 q (Nat.zero_add _) (by omega)
    refine ⟨h', ?_⟩
    rw [escheatlaw22_FmapOwns_l0_eq]
    simp only [bnd_some, ho.len, abin_lss, c0, decide_false, cnd_f]
    exact ih
  | e + 1, i, M + 1, hi, hm => by
    have hil : i < (ownsF D n k d).length := by omega
    have c0 : (i : Int) < ((ownsF D n k d).length : Nat) := by omega
    obtain ⟨a, a1, a2⟩ := elem_at ho hil
    have fa0 : afAddr (.c (.p pv 0)) 0 = some (.c (.p pv 0)) := rfl
    have l3 : aloadN h 3 (.c (.p pv 0)) = some (.a (layC D.length n m)) := by rw [loadN_of hpv (by simp [vwC]) rfl]; rfl
    have hI := geom_IsData_eq (b := D.length) (n := n) (m := m) (i := (ownsF D n k d)[i]) (h := h)
    rw [owns_dat _ (List.getElem_mem hil)] at hI
    have hom := owns_much (D := D) (n := n) (k := k) (d := d)
    obtain ⟨h', ih⟩ := fo_l0 hD hd hv hpv hpi hq ho ha e (i + 1) M (by omega) (by omega)
    refine ⟨h', ?_⟩
    rw [escheatlaw22_FmapOwns_l0_eq]
    simp only [bnd_some, ho.len, abin_lss, c0, decide_true, cnd_t, fa0, l3, a1, a2, List.append_nil, hI, aun_not, Bool.not_true, cnd_f, abin_add, wi_succ (show i + 1 < 9223372036854775808 by omega)]
    exact ih
end

theorem fmapOwns_eq {v : Val} {D : Dev} {k l s p : Int} {d : List Int} {h : Heap} (hv : Has h v 256 D.length (cellsD D)) (hD : okD D) (hd : d.length = 7) : S_escheatlaw22_FmapOwns [v, .a (inoC k l s p d)] h = some (.c (.b true), h) := by
  have key : ∀ g, Has g v 256 D.length (cellsD D) → ∃ g', R_escheatlaw22_FmapOwns 1001 [v, .a (inoC k l s p d)] g = some (.c (.b true), g') := by
    intro g hv
    have hl := hv.len
    have hIl : (inoC k l s p d).length = 11 := by simp [inoC, encI_length, hd]
    rw [R_escheatlaw22_FmapOwns_eq]
    by_cases c0 : (60 : Int) < (D.length : Nat)
    · generalize inoC k l s p d = I at *
      exact ⟨_, by simp only [esc, hl, c0, works22_eq] <;> rfl⟩
    · have hT := to_eq (hv.more [some (Row.mk (inoC k l s p d) true)]) hD (by omega)
      have hH : Has (g ++ [some (Row.mk (inoC k l s p d) true), some ⟨cellsD D, true⟩]) (.c (.sl (g.length + 1) 0 D.length 256)) 256 D.length (cellsD D) := Has.tr (by simp) (cellsD_length hD) (noX_cellsD D)
      simp only [List.append_assoc, List.cons_append, List.nil_append, List.length_append, List.length_cons, List.length_nil, Nat.zero_add] at hT
      cases cd : devL D with
      | false =>
        obtain ⟨t, hO⟩ := view_Of_bad hH hD cd
        have n13 : ¬ (13 : Int) = 0 := by decide
        obtain ⟨H, hHe⟩ : ∃ H, H = g ++ [some (Row.mk (inoC k l s p d) true), some (Row.mk (cellsD D) true)] ++ t := ⟨_, rfl⟩
        rw [← hHe] at hO
        have hS5 : astoreN (H ++ [some (Row.mk [.i .i64 0, .i .i64 0, .i .u64 0, .nf] true)]) 4 (.c (.p H.length 0)) (.a (vwC 0 0 0 .nf)) = some (H ++ [some (Row.mk (vwC 0 0 0 .nf) true)]) := by rw [astoreN_at0]; rfl
        generalize inoC k l s p d = I at *
        exact ⟨_, by simp only [esc, hl, c0, hT, hO, hS5, n13, works22_eq] <;> rfl⟩
      | true =>
        obtain ⟨f, t, hO, hV⟩ := view_Of_ok hH hD cd (by omega)
        obtain ⟨H, hHe⟩ : ∃ H, H = g ++ [some (Row.mk (inoC k l s p d) true), some (Row.mk (cellsD D) true)] ++ t := ⟨_, rfl⟩
        rw [← hHe] at hO hV
        generalize devN D = n at *
        generalize devM D = m at *
        have hS5 : astoreN (H ++ [some (Row.mk [.i .i64 0, .i .i64 0, .i .u64 0, .nf] true)]) 4 (.c (.p H.length 0)) (.a (vwC D.length n m f)) = some (H ++ [some (Row.mk (vwC D.length n m f) true)]) := by rw [astoreN_at0]; rfl
        obtain ⟨K, hK⟩ : ∃ K, K = H ++ [some (Row.mk (vwC D.length n m f) true)] := ⟨_, rfl⟩
        rw [← hK] at hS5
        have hpv : rd K H.length = some ⟨vwC D.length n m f, true⟩ := by rw [hK]; exact rd_new
        have hpi : rd K g.length = some ⟨inoC k l s p d, true⟩ := by rw [hK, hHe]; exact rd_append (rd_append (by simp))
        have hvK : IsView K f D := by rw [hK]; exact hV.more _
        have b1 := loadAll (n := 4) hpv rfl
        have b2 := loadAll (n := 11) hpi hIl
        obtain ⟨v1, t1, o1, o2, o3⟩ := (fmap_Owns_eq (n := n) (m := m) (k := k) (l := l) (s := s) (p := p) hD hd hvK).low
        obtain ⟨v2, t2, a1, a2, _⟩ := fmap_Blocks_eq (n := n) (m := m) (k := k) (l := l) (s := s) (p := p) hD hd (hvK.more t1)
        have hom := owns_much (D := D) (n := n) (k := k) (d := d)
        obtain ⟨h', ih⟩ := fo_l0 (q := 1001) (pi := g.length) (pv := H.length) (m := m) (l := l) (s := s) (p := p) hD hd ((hvK.more t1).more t2) (rd_append (rd_append hpv)) (rd_append (rd_append hpi)) (by omega) (o2.more t2) a2 _ 0 1001 (Nat.zero_add _) (by omega)
        refine ⟨h', ?_⟩
        generalize vwC D.length n m f = V at *
        generalize inoC k l s p d = I at *
        have n00 : ¬ ¬ (0 : Int) = 0 := by decide
        simp only [bnd_some, cells?_a, hl, abin_gtr, c0, decide_false, cnd_f, List.append_assoc, List.cons_append, List.nil_append, hT, hO, aext_t, List.getElem?_cons_zero, List.getElem?_cons_succ, Option.map_some, ofPart_c, ofPart_a, hS5, abin_neq, ne_eq, n00, eq_self, not_true_eq_false, List.append_nil, b1, b2]
        simp only [bnd_some, o1, o3, a1]
        exact ih
  obtain ⟨g', e⟩ := key (ro h) hv.ro
  exact S_escheatlaw22_FmapOwns_flat e rfl

end Go.Proofs.Ytdgggnlbdoiloaa
end
section
namespace Go.Proofs.Ytdgggnlbdoiloaa
open Go

def startWords : List Char := (([104, 97, 114, 110, 101, 115, 115, 32, 102, 53, 49, 98, 54, 51, 100, 100, 54, 97, 57, 49, 52, 55, 49, 97, 52, 49, 55, 51, 48, 53, 98, 100, 50, 53, 100, 51, 52, 98, 48, 51, 50, 50, 54, 51, 53, 54, 57, 49, 49, 101, 54, 51, 100, 55, 55, 98, 99, 101, 98, 51, 101, 49, 50, 56, 100, 100, 49, 50, 49, 55, 53, 51, 32, 99, 117, 116, 32, 97, 116, 32, 101, 115, 99, 104, 101, 97, 116, 47, 101, 115, 99, 104, 101, 97, 116, 108, 97, 119, 50, 51, 46, 70, 114, 101, 97, 100, 83, 112, 97, 110, 115, 32, 101, 115, 99, 104, 101, 97, 116, 47, 101, 115, 99, 104, 101, 97, 116, 108, 97, 119, 50, 51, 46, 70, 114, 101, 97, 100, 79, 110, 99, 101, 32, 101, 115, 99, 104, 101, 97, 116, 47, 101, 115, 99, 104, 101, 97, 116, 108, 97, 119, 50, 51, 46, 70, 114, 101, 97, 100, 80, 97, 114, 116, 115, 32, 101, 115, 99, 104, 101, 97, 116, 47, 101, 115, 99, 104, 101, 97, 116, 108, 97, 119, 50, 50, 46, 70, 109, 97, 112, 79, 119, 110, 115, 32, 101, 115, 99, 104, 101, 97, 116, 47, 101, 115, 99, 104, 101, 97, 116, 108, 97, 119, 50, 49, 46, 86, 105, 101, 119, 82, 101, 97, 100, 115, 32, 101, 115, 99, 104, 101, 97, 116, 47, 101, 115, 99, 104, 101, 97, 116, 108, 97, 119, 50, 49, 46, 86, 105, 101, 119, 66, 97, 99, 107, 32, 101, 115, 99, 104, 101, 97, 116, 47, 101, 115, 99, 104, 101, 97, 116, 108, 97, 119, 50, 49, 46, 86, 105, 101, 119, 79, 110, 32, 101, 115, 99, 104, 101, 97, 116, 47, 101, 115, 99, 104, 101, 97, 116, 108, 97, 119, 50, 50, 46, 70, 109, 97, 112, 68, 105, 114, 115, 32, 101, 115, 99, 104, 101, 97, 116, 47, 101, 115, 99, 104, 101, 97, 116, 108, 97, 119, 50, 52, 46, 68, 114, 101, 97, 100, 79, 110, 99, 101] : List Nat).map Char.ofNat)
set_option maxRecDepth 100000
theorem own_ok : ownKnob Try.prog.godebug = none := by kernel_rfl
theorem laid_ok : laidOutB Try.prog = true := by kernel_rfl
theorem start_eq : Try.prog.initOrder = String.ofList startWords := by kernel_rfl
theorem start_list : Try.prog.initOrder.toList = startWords := by rw [start_eq, String.toList_ofList]
def startRest : List (List Char) := (([[99, 117, 116], [97, 116], [101, 115, 99, 104, 101, 97, 116, 47, 101, 115, 99, 104, 101, 97, 116, 108, 97, 119, 50, 51, 46, 70, 114, 101, 97, 100, 83, 112, 97, 110, 115], [101, 115, 99, 104, 101, 97, 116, 47, 101, 115, 99, 104, 101, 97, 116, 108, 97, 119, 50, 51, 46, 70, 114, 101, 97, 100, 79, 110, 99, 101], [101, 115, 99, 104, 101, 97, 116, 47, 101, 115, 99, 104, 101, 97, 116, 108, 97, 119, 50, 51, 46, 70, 114, 101, 97, 100, 80, 97, 114, 116, 115], [101, 115, 99, 104, 101, 97, 116, 47, 101, 115, 99, 104, 101, 97, 116, 108, 97, 119, 50, 50, 46, 70, 109, 97, 112, 79, 119, 110, 115], [101, 115, 99, 104, 101, 97, 116, 47, 101, 115, 99, 104, 101, 97, 116, 108, 97, 119, 50, 49, 46, 86, 105, 101, 119, 82, 101, 97, 100, 115], [101, 115, 99, 104, 101, 97, 116, 47, 101, 115, 99, 104, 101, 97, 116, 108, 97, 119, 50, 49, 46, 86, 105, 101, 119, 66, 97, 99, 107], [101, 115, 99, 104, 101, 97, 116, 47, 101, 115, 99, 104, 101, 97, 116, 108, 97, 119, 50, 49, 46, 86, 105, 101, 119, 79, 110], [101, 115, 99, 104, 101, 97, 116, 47, 101, 115, 99, 104, 101, 97, 116, 108, 97, 119, 50, 50, 46, 70, 109, 97, 112, 68, 105, 114, 115], [101, 115, 99, 104, 101, 97, 116, 47, 101, 115, 99, 104, 101, 97, 116, 108, 97, 119, 50, 52, 46, 68, 114, 101, 97, 100, 79, 110, 99, 101]] : List (List Nat)).map (fun l => l.map Char.ofNat))
theorem split_eq : wordsSigns startWords = (([104, 97, 114, 110, 101, 115, 115] : List Nat).map Char.ofNat) :: (([102, 53, 49, 98, 54, 51, 100, 100, 54, 97, 57, 49, 52, 55, 49, 97, 52, 49, 55, 51, 48, 53, 98, 100, 50, 53, 100, 51, 52, 98, 48, 51, 50, 50, 54, 51, 53, 54, 57, 49, 49, 101, 54, 51, 100, 55, 55, 98, 99, 101, 98, 51, 101, 49, 50, 56, 100, 100, 49, 50, 49, 55, 53, 51] : List Nat).map Char.ofNat) :: startRest := by kernel_rfl
theorem sum_ok : isSumSigns ((([102, 53, 49, 98, 54, 51, 100, 100, 54, 97, 57, 49, 52, 55, 49, 97, 52, 49, 55, 51, 48, 53, 98, 100, 50, 53, 100, 51, 52, 98, 48, 51, 50, 50, 54, 51, 53, 54, 57, 49, 49, 101, 54, 51, 100, 55, 55, 98, 99, 101, 98, 51, 101, 49, 50, 56, 100, 100, 49, 50, 49, 55, 53, 51] : List Nat).map Char.ofNat)) = true := by decide +kernel
theorem harness_ok : ((([104, 97, 114, 110, 101, 115, 115] : List Nat).map Char.ofNat) == "harness".toList) = true := by decide +kernel
theorem behind_gen (h s : List Char) (r : List (List Char)) (h1 : (h == "harness".toList) = true) (h2 : isSumSigns s = true) : behindMainWord (h :: s :: r) = r := by
  unfold behindMainWord
  simp only [h1, h2, Bool.true_or, Bool.true_and, if_true]
theorem behind_eq : behindMainWord (wordsSigns startWords) = startRest := by rw [split_eq]; exact behind_gen _ _ _ harness_ok sum_ok
theorem start_words : behindMainWord (wordsSigns Try.prog.initOrder.toList) = startRest := by rw [start_list]; exact behind_eq
def startTail : List (List Char) := startRest.drop 1
theorem rest_eq : startRest = "cut".toList :: startTail := by decide +kernel
theorem make_gen {P : Program} {rest : List (List Char)} (h : behindMainWord (wordsSigns P.initOrder.toList) = "cut".toList :: rest) : P.make = some .cut := by
  have e1 : ("cut".toList == "gc".toList) = false := by decide +kernel
  have e2 : ("cut".toList == "spec".toList) = false := by decide +kernel
  have e3 : ("cut".toList == "cut".toList) = true := by decide +kernel
  unfold Program.make
  rw [h]
  simp only [e1, e2, e3, Bool.or_self, Bool.true_or, Bool.false_eq_true, if_false, if_true]
theorem make_ok : Try.prog.make = some .cut := make_gen (start_words.trans rest_eq)
theorem strip_none {w : List Char} {ws : List (List Char)} : ∀ os : List String, (os.all fun o => !(w == o.toList)) = true → stripLifts os (w :: ws) = ([], w :: ws)
  | [], _ => rfl
  | o :: os, h => by
    simp only [List.all_cons, Bool.and_eq_true, Bool.not_eq_true'] at h
    unfold stripLifts
    rw [h.1, if_neg (by simp)]
    exact strip_none os h.2
theorem strip_cut (rest : List (List Char)) : stripLifts liftWords ("cut".toList :: rest) = ([], "cut".toList :: rest) := strip_none _ (by decide +kernel)
theorem later_ok : Try.prog.laysLater = false := by kernel_rfl
theorem reflect_ok : Try.prog.bearsReflect = false := by kernel_rfl
theorem door_ok : Try.prog.doorFits [] = true := by kernel_rfl
theorem enter_gen {P : Program} {rest : List (List Char)} (h : behindMainWord (wordsSigns P.initOrder.toList) = "cut".toList :: rest) (h1 : P.laysLater = false) (h2 : P.bearsReflect = false) (h3 : P.doorFits [] = true) : P.mayEnter = true := by
  unfold Program.mayEnter
  rw [h]
  simp only [strip_cut, h1, h2, h3]
  simp
theorem mayEnter_ok : Try.prog.mayEnter = true := enter_gen (start_words.trans rest_eq) later_ok reflect_ok door_ok
theorem lifts_gen {P : Program} {rest : List (List Char)} (h : behindMainWord (wordsSigns P.initOrder.toList) = "cut".toList :: rest) : P.liftsFinal = false := by
  unfold Program.liftsFinal Program.headLifts
  rw [h]
  simp only [strip_cut]
  simp
theorem lifts_ok : Try.prog.liftsFinal = false := lifts_gen (start_words.trans rest_eq)
end Go.Proofs.Ytdgggnlbdoiloaa
end
