/- What the proof of this claim leans on, part 4. -/
import Derived.Test.YtdgggnlbdoiloaaFFmapDirsp3
set_option linter.all false
noncomputable section
namespace Go.Proofs.Ytdgggnlbdoiloaa
open Go Go.Esc
set_option maxRecDepth 100000
def inode_Get_o0 : List AOper := [aO 1 (.box (.t 0)), aO 2 (.alloc ([.i .i64 0, .i .i64 0, .i .i64 0, .i .i64 0, .i .i64 0, .i .i64 0, .i .i64 0, .i .i64 0, .i .i64 0, .i .i64 0, .i .i64 0]))]
def inode_Get_c0 : ACode := .ops inode_Get_o0
def inode_Get_o1 : List AOper := [aO 6 (.slA 32 1 (.t 1) none none), aO 7 (.call 95 [(.t 6)]), aO 3 (.alloc (List.replicate 256 (.i .u8 0))), { dst := none, op := .storeN 256 (.t 3) (.t 7) }]
def inode_Get_c1 : ACode := .ops inode_Get_o1
def inode_Get_o2 : List AOper := [aO 8 (.loadN 256 (.t 3)), aO 9 (.call 101 [(.t 8), (.v (.c (.i .i64 0))), (.v (.c (.i .i64 1)))]), aO 10 (.loadN 256 (.t 3)), aO 11 (.call 101 [(.t 10), (.v (.c (.i .i64 2))), (.v (.c (.i .i64 2)))]), aO 12 (.loadN 256 (.t 3)), aO 13 (.call 101 [(.t 12), (.v (.c (.i .i64 4))), (.v (.c (.i .i64 4)))]), aO 14 (.loadN 256 (.t 3)), aO 15 (.call 101 [(.t 14), (.v (.c (.i .i64 8))), (.v (.c (.i .i64 2)))]), aO 16 (.build ([.i .i64 0, .i .i64 0, .i .i64 0, .i .i64 0, .i .i64 0, .i .i64 0, .i .i64 0, .i .i64 0, .i .i64 0, .i .i64 0, .i .i64 0]) [(0, 1, (.t 9)), (1, 1, (.t 11)), (2, 1, (.t 13)), (3, 1, (.t 15))]), { dst := some 4, op := .alloc ([.i .i64 0, .i .i64 0, .i .i64 0, .i .i64 0, .i .i64 0, .i .i64 0, .i .i64 0, .i .i64 0, .i .i64 0, .i .i64 0, .i .i64 0]), slot := some 0 }]
def inode_Get_o3 : List AOper := [{ dst := none, op := .storeN 11 (.t 4) (.t 16) }]
def inode_Get_c2 : ACode := .draw 1 inode_Get_o2 inode_Get_o3
def inode_Get_o4 : List AOper := [aO 17 (.mv (.v (.c (.i .i64 0))))]
def inode_Get_c3 : ACode := .ops inode_Get_o4
def inode_Get_o5 : List AOper := [aO 18 (.bin .lss (.t 17) (.v (.c (.i .i64 6))))]
def inode_Get_c4 : ACode := .ops inode_Get_o5
def inode_Get_c5 : ACode := .cond (.t 18) .skip (.exit 0)
def inode_Get_o6 : List AOper := [aO 19 (.mv (.t 17)), aO 5 (.mv (.t 19))]
def inode_Get_c6 : ACode := .ops inode_Get_o6
def inode_Get_o7 : List AOper := [aO 20 (.mv (.t 5)), aO 21 (.loadN 256 (.t 3)), aO 22 (.mv (.t 5)), aO 23 (.bin .mul (.v (.c (.i .i64 2))) (.t 22)), aO 24 (.bin .add (.v (.c (.i .i64 10))) (.t 23)), aO 25 (.call 101 [(.t 21), (.t 24), (.v (.c (.i .i64 2)))]), aO 26 (.fAddr (.t 4) 4), aO 27 (.iAddrA 6 1 (.t 26) (.t 20)), { dst := none, op := .store1 (.t 27) (.t 25) }]
def inode_Get_c7 : ACode := .ops inode_Get_o7
def inode_Get_c8 : ACode := .seq [2, 3, 4, 5, 17] inode_Get_c6 inode_Get_c7
def inode_Get_c9 : ACode := .block 1 inode_Get_c8
def inode_Get_o8 : List AOper := [aO 28 (.bin .add (.t 17) (.v (.c (.i .i64 1)))), aO 17 (.mv (.t 28))]
def inode_Get_c10 : ACode := .ops inode_Get_o8
def inode_Get_c11 : ACode := .seq [2, 3, 4, 17] inode_Get_c9 inode_Get_c10
def inode_Get_c12 : ACode := .seq [2, 3, 4, 17] inode_Get_c5 inode_Get_c11
def inode_Get_c13 : ACode := .seq [2, 3, 4, 17, 18] inode_Get_c4 inode_Get_c12
def inode_Get_c14 : ACode := .loop [2, 3, 4, 17] inode_Get_c13
def inode_Get_c15 : ACode := .block 0 inode_Get_c14
def inode_Get_c16 : ACode := .seq [2, 3, 4, 17] inode_Get_c3 inode_Get_c15
def inode_Get_o9 : List AOper := [aO 29 (.loadN 256 (.t 3)), aO 30 (.call 101 [(.t 29), (.v (.c (.i .i64 22))), (.v (.c (.i .i64 2)))]), aO 31 (.fAddr (.t 4) 10), { dst := none, op := .store1 (.t 31) (.t 30) }]
def inode_Get_c17 : ACode := .ops inode_Get_o9
def inode_Get_o10 : List AOper := [aO 32 (.loadN 11 (.t 4)), { dst := none, op := .storeN 11 (.t 2) (.t 32) }]
def inode_Get_c18 : ACode := .ops inode_Get_o10
def inode_Get_c19 : ACode := .seq [2] inode_Get_c18 .ret
def inode_Get_c20 : ACode := .seq [2, 4] inode_Get_c17 inode_Get_c19
def inode_Get_c21 : ACode := .seq [2, 3, 4] inode_Get_c16 inode_Get_c20
def inode_Get_c22 : ACode := .seq [2, 3, 4] inode_Get_c2 inode_Get_c21
def inode_Get_c23 : ACode := .seq [2, 3] inode_Get_c1 inode_Get_c22
def inode_Get_c24 : ACode := .seq [1, 2] inode_Get_c0 inode_Get_c23
def A_inode_Get : AFn := ⟨inode_Get_c24, [.cellN 2 11]⟩
def E_inode_Get : Sums := disp 95 S_num_Of (disp 101 S_num_At disp0)
def inode_Get_c0_d (n : Nat) : SmV := smOps E_inode_Get inode_Get_o0
def inode_Get_c1_d (n : Nat) : SmV := smOps E_inode_Get inode_Get_o1
def inode_Get_c2_d (n : Nat) : SmV := smDraw E_inode_Get 1 inode_Get_o2 inode_Get_o3
def inode_Get_c3_d (n : Nat) : SmV := smOps E_inode_Get inode_Get_o4
def inode_Get_c4_d (n : Nat) : SmV := smOps E_inode_Get inode_Get_o5
def inode_Get_c5_d (n : Nat) : SmV := smCond (.t 18) smSkip (smExit 0)
def inode_Get_c6_d (n : Nat) : SmV := smOps E_inode_Get inode_Get_o6
def inode_Get_c7_d (n : Nat) : SmV := smOps E_inode_Get inode_Get_o7
def inode_Get_c8_d (n : Nat) : SmV := smSeq [2, 3, 4, 5, 17] (inode_Get_c6_d n) (inode_Get_c7_d n)
def inode_Get_c9_d (n : Nat) : SmV := smBlock 1 (inode_Get_c8_d n)
def inode_Get_c10_d (n : Nat) : SmV := smOps E_inode_Get inode_Get_o8
def inode_Get_c11_d (n : Nat) : SmV := smSeq [2, 3, 4, 17] (inode_Get_c9_d n) (inode_Get_c10_d n)
def inode_Get_c12_d (n : Nat) : SmV := smSeq [2, 3, 4, 17] (inode_Get_c5_d n) (inode_Get_c11_d n)
def inode_Get_c13_d (n : Nat) : SmV := smSeq [2, 3, 4, 17, 18] (inode_Get_c4_d n) (inode_Get_c12_d n)
def inode_Get_c14_d (n : Nat) : SmV := smLoop n [2, 3, 4, 17] (inode_Get_c13_d n)
def inode_Get_c15_d (n : Nat) : SmV := smBlock 0 (inode_Get_c14_d n)
def inode_Get_c16_d (n : Nat) : SmV := smSeq [2, 3, 4, 17] (inode_Get_c3_d n) (inode_Get_c15_d n)
def inode_Get_c17_d (n : Nat) : SmV := smOps E_inode_Get inode_Get_o9
def inode_Get_c18_d (n : Nat) : SmV := smOps E_inode_Get inode_Get_o10
def inode_Get_c19_d (n : Nat) : SmV := smSeq [2] (inode_Get_c18_d n) smRet
def inode_Get_c20_d (n : Nat) : SmV := smSeq [2, 4] (inode_Get_c17_d n) (inode_Get_c19_d n)
def inode_Get_c21_d (n : Nat) : SmV := smSeq [2, 3, 4] (inode_Get_c16_d n) (inode_Get_c20_d n)
def inode_Get_c22_d (n : Nat) : SmV := smSeq [2, 3, 4] (inode_Get_c2_d n) (inode_Get_c21_d n)
def inode_Get_c23_d (n : Nat) : SmV := smSeq [2, 3] (inode_Get_c1_d n) (inode_Get_c22_d n)
def inode_Get_c24_d (n : Nat) : SmV := smSeq [1, 2] (inode_Get_c0_d n) (inode_Get_c23_d n)
def inode_Get_k0 (n : Nat) : AExit → Env → Heap → OptV := fun x e h => match x with | .normal => hold ((inode_Get_c20_d n) A_inode_Get.fin (e.keep [2, 3, 4]) h) | .exit id => A_inode_Get.fin (.exit id) e h | .ret => A_inode_Get.fin .ret e h
def inode_Get_k1 (n : Nat) : AExit → Env → Heap → OptV := fun x e h => match x with | .exit i => bif Nat.beq i 0 then (inode_Get_k0 n) .normal e h else (inode_Get_k0 n) (.exit i) e h | .normal => (inode_Get_k0 n) .normal e h | .ret => (inode_Get_k0 n) .ret e h
def inode_Get_l0 (n m : Nat) (x2 x3 x4 x17 : Val) (h : Heap) : OptV := around (inode_Get_c13_d n) [2, 3, 4, 17] (inode_Get_k1 n) m [(2, x2), (3, x3), (4, x4), (17, x17)] h
def R_inode_Get (n : Nat) (args : List Val) (h : Heap) : OptV := (inode_Get_c24_d n) A_inode_Get.fin (params 0 args) h
theorem R_inode_Get_eq (n : Nat) (a0 : Val) (h : Heap) : R_inode_Get n [a0] h = bnd (cells? a0) fun c1 => bnd (aslA (((h ++ [some (Row.mk (c1) true)]) ++ [some (Row.mk ([.i .i64 0, .i .i64 0, .i .i64 0, .i .i64 0, .i .i64 0, .i .i64 0, .i .i64 0, .i .i64 0, .i .i64 0, .i .i64 0, .i .i64 0]) true)])) 32 1 ((.c (.p h.length 0))) none none) fun v2 => bnd (S_num_Of [v2] (((h ++ [some (Row.mk (c1) true)]) ++ [some (Row.mk ([.i .i64 0, .i .i64 0, .i .i64 0, .i .i64 0, .i .i64 0, .i .i64 0, .i .i64 0, .i .i64 0, .i .i64 0, .i .i64 0, .i .i64 0]) true)]))) fun p3 => bnd (astoreN ((p3.2 ++ [some (Row.mk (List.replicate 256 (.i .u8 0)) true)])) 256 ((.c (.p p3.2.length 0))) p3.1) fun h4 => bnd (aloadN h4 256 ((.c (.p p3.2.length 0)))) fun v5 => bnd (quiet ((h4 ++ [none])) (S_num_At [v5, .c (.i .i64 0), .c (.i .i64 1)] ((h4 ++ [none])))) fun p6 => bnd (aloadN h4 256 ((.c (.p p3.2.length 0)))) fun v7 => bnd (quiet p6.2 (S_num_At [v7, .c (.i .i64 2), .c (.i .i64 2)] p6.2)) fun p8 => bnd (aloadN h4 256 ((.c (.p p3.2.length 0)))) fun v9 => bnd (quiet p8.2 (S_num_At [v9, .c (.i .i64 4), .c (.i .i64 4)] p8.2)) fun p10 => bnd (aloadN h4 256 ((.c (.p p3.2.length 0)))) fun v11 => bnd (quiet p10.2 (S_num_At [v11, .c (.i .i64 8), .c (.i .i64 2)] p10.2)) fun p12 => bnd (afill ([.i .i64 0, .i .i64 0, .i .i64 0, .i .i64 0, .i .i64 0, .i .i64 0, .i .i64 0, .i .i64 0, .i .i64 0, .i .i64 0, .i .i64 0]) [(0, 1, p6.1), (1, 1, p8.1), (2, 1, p10.1), (3, 1, p12.1)]) fun c13 => bnd (astoreN ((p12.2.set (h4.length + 0) (some (Row.mk ([.i .i64 0, .i .i64 0, .i .i64 0, .i .i64 0, .i .i64 0, .i .i64 0, .i .i64 0, .i .i64 0, .i .i64 0, .i .i64 0, .i .i64 0]) true)))) 11 ((.c (.p (h4.length + 0) 0))) ((.a c13))) fun h14 => inode_Get_l0 n n ((.c (.p ((h ++ [some (Row.mk (c1) true)])).length 0))) ((.c (.p p3.2.length 0))) ((.c (.p (h4.length + 0) 0))) (.c (.i .i64 0)) h14 := by kernel_rfl
theorem inode_Get_l0_eq (n m : Nat) (x2 x3 x4 x17 : Val) (h : Heap) : inode_Get_l0 n (m + 1) x2 x3 x4 x17 h = bnd (abin .lss x17 (.c (.i .i64 6))) fun v15 => cnd v15 (bnd (aloadN h 256 x3) fun v16 => bnd (abin .mul (.c (.i .i64 2)) x17) fun v17 => bnd (abin .add (.c (.i .i64 10)) v17) fun v18 => bnd (S_num_At [v16, v18, .c (.i .i64 2)] h) fun p19 => bnd (afAddr x4 4) fun v20 => bnd (aiAddrA 6 1 v20 x17) fun v21 => bnd (astore1 p19.2 v21 p19.1) fun h22 => bnd (abin .add x17 (.c (.i .i64 1))) fun v23 => inode_Get_l0 n m x2 x3 x4 v23 h22) (bnd (aloadN h 256 x3) fun v24 => bnd (S_num_At [v24, .c (.i .i64 22), .c (.i .i64 2)] h) fun p25 => bnd (afAddr x4 10) fun v26 => bnd (astore1 p25.2 v26 p25.1) fun h27 => bnd (aloadN h27 11 x4) fun v28 => bnd (astoreN h27 11 x2 v28) fun h29 => mp (aloadN h29 11 x2) fun v => (v, h29)) := by kernel_rfl
theorem K_inode_Get : FnK Try.prog 133 A_inode_Get E_inode_Get R_inode_Get := .mk' (sound1 S_num_Of_ok (sound1 S_num_At_ok sound0)) Try.func133 (by kernel_rfl) (by intro n args h; kernel_rfl)
def S_inode_Get : Fun := tidy (Lim A_inode_Get E_inode_Get)
theorem S_inode_Get_ok : SOk Try.prog 133 S_inode_Get := K_inode_Get.sok
theorem S_inode_Get_flat {n : Nat} {args : List Val} {h h2 : Heap} {v : Val} (he : R_inode_Get n args (ro h) = some (v, h2)) (hf : v.flat = true) : S_inode_Get args h = some (v, h) := K_inode_Get.flat he hf
def inode_small_o0 : List AOper := [aO 2 (.mv (.v (.c (.b false))))]
def inode_small_c0 : ACode := .ops inode_small_o0
def inode_small_o1 : List AOper := [aO 3 (.mv (.t 0)), aO 4 (.bin .geq (.t 3) (.v (.c (.i .i64 0)))), aO 5 (.mv (.t 4)), { dst := some 6, op := .mv (.t 0), guard := some (5, true) }, { dst := some 7, op := .bin .leq (.t 6) (.v (.c (.i .i64 65535))), guard := some (5, true) }, aO 8 (.pick (.t 5) (.t 7) (.v (.c (.b false)))), aO 2 (.mv (.t 8))]
def inode_small_c1 : ACode := .ops inode_small_o1
def inode_small_c2 : ACode := .seq [2] inode_small_c1 .ret
def inode_small_c3 : ACode := .seq [0] inode_small_c0 inode_small_c2
def A_inode_small : AFn := ⟨inode_small_c3, [.tmp 2]⟩
def E_inode_small : Sums := disp0
def inode_small_c0_d (n : Nat) : SmV := smOps E_inode_small inode_small_o0
def inode_small_c1_d (n : Nat) : SmV := smOps E_inode_small inode_small_o1
def inode_small_c2_d (n : Nat) : SmV := smSeq [2] (inode_small_c1_d n) smRet
def inode_small_c3_d (n : Nat) : SmV := smSeq [0] (inode_small_c0_d n) (inode_small_c2_d n)
def R_inode_small (n : Nat) (args : List Val) (h : Heap) : OptV := (inode_small_c3_d n) A_inode_small.fin (params 0 args) h
theorem R_inode_small_eq (n : Nat) (a0 : Val) (h : Heap) : R_inode_small n [a0] h = bnd (abin .geq a0 (.c (.i .i64 0))) fun v1 => bnd (gd v1 true (some (a0, h)) (some (.no, h))) fun p2 => bnd (gd v1 true (bnd (abin .leq p2.1 (.c (.i .i64 65535))) fun v3 => some (v3, p2.2)) (some (.no, p2.2))) fun p4 => bnd (apick v1 p4.1 (.c (.b false))) fun v5 => some (v5, p4.2) := by kernel_rfl
theorem K_inode_small : FnK Try.prog 163 A_inode_small E_inode_small R_inode_small := .mk' (sound0) Try.func163 (by kernel_rfl) (by intro n args h; kernel_rfl)
def S_inode_small : Fun := tidy (Lim A_inode_small E_inode_small)
theorem S_inode_small_ok : SOk Try.prog 163 S_inode_small := K_inode_small.sok
theorem S_inode_small_flat {n : Nat} {args : List Val} {h h2 : Heap} {v : Val} (he : R_inode_small n args (ro h) = some (v, h2)) (hf : v.flat = true) : S_inode_small args h = some (v, h) := K_inode_small.flat he hf
def inode_Numbers_o0 : List AOper := [aO 1 (.box (.t 0)), aO 2 (.alloc ([.i .i64 0, .i .i64 0, .i .i64 0, .i .i64 0, .i .i64 0, .i .i64 0, .i .i64 0]))]
def inode_Numbers_c0 : ACode := .ops inode_Numbers_o0
def inode_Numbers_o1 : List AOper := [aO 3 (.alloc ([.i .i64 0, .i .i64 0, .i .i64 0, .i .i64 0, .i .i64 0, .i .i64 0, .i .i64 0]))]
def inode_Numbers_c1 : ACode := .ops inode_Numbers_o1
def inode_Numbers_o2 : List AOper := [aO 6 (.fAddr (.t 1) 4), aO 7 (.loadN 6 (.t 6)), aO 8 (.mv (.v (.c (.i .i64 0))))]
def inode_Numbers_c2 : ACode := .ops inode_Numbers_o2
def inode_Numbers_o3 : List AOper := [aO 9 (.bin .lss (.t 8) (.v (.c (.i .i64 6))))]
def inode_Numbers_c3 : ACode := .ops inode_Numbers_o3
def inode_Numbers_c4 : ACode := .cond (.t 9) .skip (.exit 0)
def inode_Numbers_o4 : List AOper := [aO 10 (.mv (.t 8)), aO 11 (.idxA1 6 (.t 7) (.t 8)), aO 4 (.mv (.t 10)), aO 5 (.mv (.t 11))]
def inode_Numbers_c5 : ACode := .ops inode_Numbers_o4
def inode_Numbers_o5 : List AOper := [aO 12 (.mv (.t 4)), aO 13 (.mv (.t 5)), aO 14 (.iAddrA 7 1 (.t 3) (.t 12)), { dst := none, op := .store1 (.t 14) (.t 13) }]
def inode_Numbers_c6 : ACode := .ops inode_Numbers_o5
def inode_Numbers_c7 : ACode := .seq [1, 2, 3, 4, 5, 7, 8] inode_Numbers_c5 inode_Numbers_c6
def inode_Numbers_c8 : ACode := .block 1 inode_Numbers_c7
def inode_Numbers_o6 : List AOper := [aO 15 (.bin .add (.t 8) (.v (.c (.i .i64 1)))), aO 8 (.mv (.t 15))]
def inode_Numbers_c9 : ACode := .ops inode_Numbers_o6
def inode_Numbers_c10 : ACode := .seq [1, 2, 3, 7, 8] inode_Numbers_c8 inode_Numbers_c9
def inode_Numbers_c11 : ACode := .seq [1, 2, 3, 7, 8] inode_Numbers_c4 inode_Numbers_c10
def inode_Numbers_c12 : ACode := .seq [1, 2, 3, 7, 8, 9] inode_Numbers_c3 inode_Numbers_c11
def inode_Numbers_c13 : ACode := .loop [1, 2, 3, 7, 8] inode_Numbers_c12
def inode_Numbers_c14 : ACode := .block 0 inode_Numbers_c13
def inode_Numbers_c15 : ACode := .seq [1, 2, 3, 7, 8] inode_Numbers_c2 inode_Numbers_c14
def inode_Numbers_o7 : List AOper := [aO 16 (.fAddr (.t 1) 10), aO 17 (.load1 (.t 16)), aO 18 (.iAddrA 7 1 (.t 3) (.v (.c (.i .i64 6)))), { dst := none, op := .store1 (.t 18) (.t 17) }]
def inode_Numbers_c16 : ACode := .ops inode_Numbers_o7
def inode_Numbers_o8 : List AOper := [aO 19 (.loadN 7 (.t 3)), { dst := none, op := .storeN 7 (.t 2) (.t 19) }]
def inode_Numbers_c17 : ACode := .ops inode_Numbers_o8
def inode_Numbers_c18 : ACode := .seq [2] inode_Numbers_c17 .ret
def inode_Numbers_c19 : ACode := .seq [2, 3] inode_Numbers_c16 inode_Numbers_c18
def inode_Numbers_c20 : ACode := .seq [1, 2, 3] inode_Numbers_c15 inode_Numbers_c19
def inode_Numbers_c21 : ACode := .seq [1, 2, 3] inode_Numbers_c1 inode_Numbers_c20
def inode_Numbers_c22 : ACode := .seq [1, 2] inode_Numbers_c0 inode_Numbers_c21
def A_inode_Numbers : AFn := ⟨inode_Numbers_c22, [.cellN 2 7]⟩
def E_inode_Numbers : Sums := disp0
def inode_Numbers_c0_d (n : Nat) : SmV := smOps E_inode_Numbers inode_Numbers_o0
def inode_Numbers_c1_d (n : Nat) : SmV := smOps E_inode_Numbers inode_Numbers_o1
def inode_Numbers_c2_d (n : Nat) : SmV := smOps E_inode_Numbers inode_Numbers_o2
def inode_Numbers_c3_d (n : Nat) : SmV := smOps E_inode_Numbers inode_Numbers_o3
def inode_Numbers_c4_d (n : Nat) : SmV := smCond (.t 9) smSkip (smExit 0)
def inode_Numbers_c5_d (n : Nat) : SmV := smOps E_inode_Numbers inode_Numbers_o4
def inode_Numbers_c6_d (n : Nat) : SmV := smOps E_inode_Numbers inode_Numbers_o5
def inode_Numbers_c7_d (n : Nat) : SmV := smSeq [1, 2, 3, 4, 5, 7, 8] (inode_Numbers_c5_d n) (inode_Numbers_c6_d n)
def inode_Numbers_c8_d (n : Nat) : SmV := smBlock 1 (inode_Numbers_c7_d n)
def inode_Numbers_c9_d (n : Nat) : SmV := smOps E_inode_Numbers inode_Numbers_o6
def inode_Numbers_c10_d (n : Nat) : SmV := smSeq [1, 2, 3, 7, 8] (inode_Numbers_c8_d n) (inode_Numbers_c9_d n)
def inode_Numbers_c11_d (n : Nat) : SmV := smSeq [1, 2, 3, 7, 8] (inode_Numbers_c4_d n) (inode_Numbers_c10_d n)
def inode_Numbers_c12_d (n : Nat) : SmV := smSeq [1, 2, 3, 7, 8, 9] (inode_Numbers_c3_d n) (inode_Numbers_c11_d n)
def inode_Numbers_c13_d (n : Nat) : SmV := smLoop n [1, 2, 3, 7, 8] (inode_Numbers_c12_d n)
def inode_Numbers_c14_d (n : Nat) : SmV := smBlock 0 (inode_Numbers_c13_d n)
def inode_Numbers_c15_d (n : Nat) : SmV := smSeq [1, 2, 3, 7, 8] (inode_Numbers_c2_d n) (inode_Numbers_c14_d n)
def inode_Numbers_c16_d (n : Nat) : SmV := smOps E_inode_Numbers inode_Numbers_o7
def inode_Numbers_c17_d (n : Nat) : SmV := smOps E_inode_Numbers inode_Numbers_o8
def inode_Numbers_c18_d (n : Nat) : SmV := smSeq [2] (inode_Numbers_c17_d n) smRet
def inode_Numbers_c19_d (n : Nat) : SmV := smSeq [2, 3] (inode_Numbers_c16_d n) (inode_Numbers_c18_d n)
def inode_Numbers_c20_d (n : Nat) : SmV := smSeq [1, 2, 3] (inode_Numbers_c15_d n) (inode_Numbers_c19_d n)
def inode_Numbers_c21_d (n : Nat) : SmV := smSeq [1, 2, 3] (inode_Numbers_c1_d n) (inode_Numbers_c20_d n)
def inode_Numbers_c22_d (n : Nat) : SmV := smSeq [1, 2] (inode_Numbers_c0_d n) (inode_Numbers_c21_d n)
def inode_Numbers_k0 (n : Nat) : AExit → Env → Heap → OptV := fun x e h => match x with | .normal => hold ((inode_Numbers_c19_d n) A_inode_Numbers.fin (e.keep [1, 2, 3]) h) | .exit id => A_inode_Numbers.fin (.exit id) e h | .ret => A_inode_Numbers.fin .ret e h
def inode_Numbers_k1 (n : Nat) : AExit → Env → Heap → OptV := fun x e h => match x with | .exit i => bif Nat.beq i 0 then (inode_Numbers_k0 n) .normal e h else (inode_Numbers_k0 n) (.exit i) e h | .normal => (inode_Numbers_k0 n) .normal e h | .ret => (inode_Numbers_k0 n) .ret e h
def inode_Numbers_l0 (n m : Nat) (x1 x2 x3 x7 x8 : Val) (h : Heap) : OptV := around (inode_Numbers_c12_d n) [1, 2, 3, 7, 8] (inode_Numbers_k1 n) m [(1, x1), (2, x2), (3, x3), (7, x7), (8, x8)] h
def R_inode_Numbers (n : Nat) (args : List Val) (h : Heap) : OptV := (inode_Numbers_c22_d n) A_inode_Numbers.fin (params 0 args) h
theorem R_inode_Numbers_eq (n : Nat) (a0 : Val) (h : Heap) : R_inode_Numbers n [a0] h = bnd (cells? a0) fun c1 => bnd (afAddr ((.c (.p h.length 0))) 4) fun v2 => bnd (aloadN ((((h ++ [some (Row.mk (c1) true)]) ++ [some (Row.mk ([.i .i64 0, .i .i64 0, .i .i64 0, .i .i64 0, .i .i64 0, .i .i64 0, .i .i64 0]) true)]) ++ [some (Row.mk ([.i .i64 0, .i .i64 0, .i .i64 0, .i .i64 0, .i .i64 0, .i .i64 0, .i .i64 0]) true)])) 6 v2) fun v3 => inode_Numbers_l0 n n ((.c (.p h.length 0))) ((.c (.p ((h ++ [some (Row.mk (c1) true)])).length 0))) ((.c (.p (((h ++ [some (Row.mk (c1) true)]) ++ [some (Row.mk ([.i .i64 0, .i .i64 0, .i .i64 0, .i .i64 0, .i .i64 0, .i .i64 0, .i .i64 0]) true)])).length 0))) v3 (.c (.i .i64 0)) ((((h ++ [some (Row.mk (c1) true)]) ++ [some (Row.mk ([.i .i64 0, .i .i64 0, .i .i64 0, .i .i64 0, .i .i64 0, .i .i64 0, .i .i64 0]) true)]) ++ [some (Row.mk ([.i .i64 0, .i .i64 0, .i .i64 0, .i .i64 0, .i .i64 0, .i .i64 0, .i .i64 0]) true)])) := by kernel_rfl
theorem inode_Numbers_l0_eq (n m : Nat) (x1 x2 x3 x7 x8 : Val) (h : Heap) : inode_Numbers_l0 n (m + 1) x1 x2 x3 x7 x8 h = bnd (abin .lss x8 (.c (.i .i64 6))) fun v4 => cnd v4 (bnd (aidxA1 6 x7 x8) fun v5 => bnd (aiAddrA 7 1 x3 x8) fun v6 => bnd (astore1 h v6 v5) fun h7 => bnd (abin .add x8 (.c (.i .i64 1))) fun v8 => inode_Numbers_l0 n m x1 x2 x3 x7 v8 h7) (bnd (afAddr x1 10) fun v9 => bnd (aload1 h v9) fun v10 => bnd (aiAddrA 7 1 x3 (.c (.i .i64 6))) fun v11 => bnd (astore1 h v11 v10) fun h12 => bnd (aloadN h12 7 x3) fun v13 => bnd (astoreN h12 7 x2 v13) fun h14 => mp (aloadN h14 7 x2) fun v => (v, h14)) := by kernel_rfl
theorem K_inode_Numbers : FnK Try.prog 156 A_inode_Numbers E_inode_Numbers R_inode_Numbers := .mk' (sound0) Try.func156 (by kernel_rfl) (by intro n args h; kernel_rfl)
def S_inode_Numbers : Fun := tidy (Lim A_inode_Numbers E_inode_Numbers)
theorem S_inode_Numbers_ok : SOk Try.prog 156 S_inode_Numbers := K_inode_Numbers.sok
theorem S_inode_Numbers_flat {n : Nat} {args : List Val} {h h2 : Heap} {v : Val} (he : R_inode_Numbers n args (ro h) = some (v, h2)) (hf : v.flat = true) : S_inode_Numbers args h = some (v, h) := K_inode_Numbers.flat he hf
def inode_Check_o0 : List AOper := [aO 1 (.box (.t 0)), aO 2 (.mv (.v (.c (.i .i64 0))))]
def inode_Check_c0 : ACode := .ops inode_Check_o0
def inode_Check_o1 : List AOper := [aO 5 (.fAddr (.t 1) 0), aO 6 (.load1 (.t 5)), aO 7 (.bin .lss (.t 6) (.v (.c (.i .i64 0)))), aO 8 (.mv (.t 7)), { dst := some 9, op := .fAddr (.t 1) 0, guard := some (8, false) }, { dst := some 10, op := .load1 (.t 9), guard := some (8, false) }, { dst := some 11, op := .bin .gtr (.t 10) (.v (.c (.i .i64 2))), guard := some (8, false) }, aO 12 (.pick (.t 8) (.v (.c (.b true))) (.t 11)), aO 13 (.mv (.t 12)), { dst := some 14, op := .fAddr (.t 1) 0, guard := some (13, false) }, { dst := some 15, op := .load1 (.t 14), guard := some (13, false) }, { dst := some 16, op := .bin .eql (.t 15) (.v (.c (.i .i64 0))), guard := some (13, false) }, { dst := some 17, op := .mv (.t 16), guard := some (13, false) }, { dst := some 18, op := .loadN 11 (.t 1), guard := some (17, true) }, { dst := some 19, op := .build ([.i .i64 0, .i .i64 0, .i .i64 0, .i .i64 0, .i .i64 0, .i .i64 0, .i .i64 0, .i .i64 0, .i .i64 0, .i .i64 0, .i .i64 0]) [], guard := some (17, true) }, { dst := some 20, op := .eqA true ([.i .i64, .i .i64, .i .i64, .i .i64, .i .i64, .i .i64, .i .i64, .i .i64, .i .i64, .i .i64, .i .i64]) (.t 18) (.t 19), guard := some (17, true) }, { dst := some 21, op := .pick (.t 17) (.t 20) (.v (.c (.b false))), guard := some (13, false) }, aO 22 (.pick (.t 13) (.v (.c (.b true))) (.t 21))]
def inode_Check_c1 : ACode := .ops inode_Check_o1
def inode_Check_o2 : List AOper := [aO 2 (.mv (.v (.c (.i .i64 1))))]
def inode_Check_c2 : ACode := .ops inode_Check_o2
def inode_Check_c3 : ACode := .seq [2] inode_Check_c2 .ret
def inode_Check_c4 : ACode := .cond (.t 22) inode_Check_c3 .skip
def inode_Check_c5 : ACode := .seq [1, 22] inode_Check_c1 inode_Check_c4
def inode_Check_o3 : List AOper := [aO 23 (.fAddr (.t 1) 1), aO 24 (.load1 (.t 23)), aO 25 (.call 163 [(.t 24)]), aO 26 (.un .not (.t 25)), aO 27 (.mv (.t 26)), { dst := some 28, op := .fAddr (.t 1) 3, guard := some (27, false) }, { dst := some 29, op := .load1 (.t 28), guard := some (27, false) }, { dst := some 30, op := .call 163 [(.t 29)], guard := some (27, false) }, { dst := some 31, op := .un .not (.t 30), guard := some (27, false) }, aO 32 (.pick (.t 27) (.v (.c (.b true))) (.t 31)), aO 33 (.mv (.t 32)), { dst := some 34, op := .fAddr (.t 1) 2, guard := some (33, false) }, { dst := some 35, op := .load1 (.t 34), guard := some (33, false) }, { dst := some 36, op := .bin .lss (.t 35) (.v (.c (.i .i64 0))), guard := some (33, false) }, aO 37 (.pick (.t 33) (.v (.c (.b true))) (.t 36)), aO 38 (.mv (.t 37)), { dst := some 39, op := .fAddr (.t 1) 2, guard := some (38, false) }, { dst := some 40, op := .load1 (.t 39), guard := some (38, false) }, { dst := some 41, op := .bin .gtr (.t 40) (.v (.c (.i .i64 34304))), guard := some (38, false) }, aO 42 (.pick (.t 38) (.v (.c (.b true))) (.t 41))]
def inode_Check_c6 : ACode := .ops inode_Check_o3
def inode_Check_o4 : List AOper := [aO 2 (.mv (.v (.c (.i .i64 1))))]
def inode_Check_c7 : ACode := .ops inode_Check_o4
def inode_Check_c8 : ACode := .seq [2] inode_Check_c7 .ret
def inode_Check_c9 : ACode := .cond (.t 42) inode_Check_c8 .skip
def inode_Check_c10 : ACode := .seq [1, 42] inode_Check_c6 inode_Check_c9
def inode_Check_o5 : List AOper := [aO 43 (.loadN 11 (.t 1)), aO 44 (.call 156 [(.t 43)]), aO 45 (.mv (.v (.c (.i .i64 0))))]
def inode_Check_c11 : ACode := .ops inode_Check_o5
def inode_Check_o6 : List AOper := [aO 46 (.bin .lss (.t 45) (.v (.c (.i .i64 7))))]
def inode_Check_c12 : ACode := .ops inode_Check_o6
def inode_Check_c13 : ACode := .cond (.t 46) .skip (.exit 0)
def inode_Check_o7 : List AOper := [aO 47 (.idxA1 7 (.t 44) (.t 45)), aO 4 (.mv (.t 47))]
def inode_Check_c14 : ACode := .ops inode_Check_o7
def inode_Check_o8 : List AOper := [aO 48 (.mv (.t 4)), aO 49 (.call 163 [(.t 48)]), aO 50 (.un .not (.t 49))]
def inode_Check_c15 : ACode := .ops inode_Check_o8
def inode_Check_o9 : List AOper := [aO 2 (.mv (.v (.c (.i .i64 1))))]
def inode_Check_c16 : ACode := .ops inode_Check_o9
def inode_Check_c17 : ACode := .seq [2] inode_Check_c16 .ret
def inode_Check_c18 : ACode := .cond (.t 50) inode_Check_c17 .skip
def inode_Check_c19 : ACode := .seq [44, 45, 50] inode_Check_c15 inode_Check_c18
def inode_Check_c20 : ACode := .seq [4, 44, 45] inode_Check_c14 inode_Check_c19
def inode_Check_c21 : ACode := .block 1 inode_Check_c20
def inode_Check_o10 : List AOper := [aO 51 (.bin .add (.t 45) (.v (.c (.i .i64 1)))), aO 45 (.mv (.t 51))]
def inode_Check_c22 : ACode := .ops inode_Check_o10
def inode_Check_c23 : ACode := .seq [44, 45] inode_Check_c21 inode_Check_c22
def inode_Check_c24 : ACode := .seq [44, 45] inode_Check_c13 inode_Check_c23
def inode_Check_c25 : ACode := .seq [44, 45, 46] inode_Check_c12 inode_Check_c24
def inode_Check_c26 : ACode := .loop [44, 45] inode_Check_c25
def inode_Check_c27 : ACode := .block 0 inode_Check_c26
def inode_Check_c28 : ACode := .seq [44, 45] inode_Check_c11 inode_Check_c27
def inode_Check_o11 : List AOper := [aO 2 (.mv (.v (.c (.i .i64 0))))]
def inode_Check_c29 : ACode := .ops inode_Check_o11
def inode_Check_c30 : ACode := .seq [2] inode_Check_c29 .ret
def inode_Check_c31 : ACode := .seq [] inode_Check_c28 inode_Check_c30
def inode_Check_c32 : ACode := .seq [1] inode_Check_c10 inode_Check_c31
def inode_Check_c33 : ACode := .seq [1] inode_Check_c5 inode_Check_c32
def inode_Check_c34 : ACode := .seq [1] inode_Check_c0 inode_Check_c33
def A_inode_Check : AFn := ⟨inode_Check_c34, [.tmp 2]⟩
def E_inode_Check : Sums := disp 163 S_inode_small (disp 156 S_inode_Numbers disp0)
def inode_Check_c0_d (n : Nat) : SmV := smOps E_inode_Check inode_Check_o0
def inode_Check_c1_d (n : Nat) : SmV := smOps E_inode_Check inode_Check_o1
def inode_Check_c2_d (n : Nat) : SmV := smOps E_inode_Check inode_Check_o2
def inode_Check_c3_d (n : Nat) : SmV := smSeq [2] (inode_Check_c2_d n) smRet
def inode_Check_c4_d (n : Nat) : SmV := smCond (.t 22) (inode_Check_c3_d n) smSkip
def inode_Check_c5_d (n : Nat) : SmV := smSeq [1, 22] (inode_Check_c1_d n) (inode_Check_c4_d n)
def inode_Check_c6_d (n : Nat) : SmV := smOps E_inode_Check inode_Check_o3
def inode_Check_c7_d (n : Nat) : SmV := smOps E_inode_Check inode_Check_o4
def inode_Check_c8_d (n : Nat) : SmV := smSeq [2] (inode_Check_c7_d n) smRet
def inode_Check_c9_d (n : Nat) : SmV := smCond (.t 42) (inode_Check_c8_d n) smSkip
def inode_Check_c10_d (n : Nat) : SmV := smSeq [1, 42] (inode_Check_c6_d n) (inode_Check_c9_d n)
def inode_Check_c11_d (n : Nat) : SmV := smOps E_inode_Check inode_Check_o5
def inode_Check_c12_d (n : Nat) : SmV := smOps E_inode_Check inode_Check_o6
def inode_Check_c13_d (n : Nat) : SmV := smCond (.t 46) smSkip (smExit 0)
def inode_Check_c14_d (n : Nat) : SmV := smOps E_inode_Check inode_Check_o7
def inode_Check_c15_d (n : Nat) : SmV := smOps E_inode_Check inode_Check_o8
def inode_Check_c16_d (n : Nat) : SmV := smOps E_inode_Check inode_Check_o9
def inode_Check_c17_d (n : Nat) : SmV := smSeq [2] (inode_Check_c16_d n) smRet
def inode_Check_c18_d (n : Nat) : SmV := smCond (.t 50) (inode_Check_c17_d n) smSkip
def inode_Check_c19_d (n : Nat) : SmV := smSeq [44, 45, 50] (inode_Check_c15_d n) (inode_Check_c18_d n)
def inode_Check_c20_d (n : Nat) : SmV := smSeq [4, 44, 45] (inode_Check_c14_d n) (inode_Check_c19_d n)
def inode_Check_c21_d (n : Nat) : SmV := smBlock 1 (inode_Check_c20_d n)
def inode_Check_c22_d (n : Nat) : SmV := smOps E_inode_Check inode_Check_o10
def inode_Check_c23_d (n : Nat) : SmV := smSeq [44, 45] (inode_Check_c21_d n) (inode_Check_c22_d n)
def inode_Check_c24_d (n : Nat) : SmV := smSeq [44, 45] (inode_Check_c13_d n) (inode_Check_c23_d n)
def inode_Check_c25_d (n : Nat) : SmV := smSeq [44, 45, 46] (inode_Check_c12_d n) (inode_Check_c24_d n)
def inode_Check_c26_d (n : Nat) : SmV := smLoop n [44, 45] (inode_Check_c25_d n)
def inode_Check_c27_d (n : Nat) : SmV := smBlock 0 (inode_Check_c26_d n)
def inode_Check_c28_d (n : Nat) : SmV := smSeq [44, 45] (inode_Check_c11_d n) (inode_Check_c27_d n)
def inode_Check_c29_d (n : Nat) : SmV := smOps E_inode_Check inode_Check_o11
def inode_Check_c30_d (n : Nat) : SmV := smSeq [2] (inode_Check_c29_d n) smRet
def inode_Check_c31_d (n : Nat) : SmV := smSeq [] (inode_Check_c28_d n) (inode_Check_c30_d n)
def inode_Check_c32_d (n : Nat) : SmV := smSeq [1] (inode_Check_c10_d n) (inode_Check_c31_d n)
def inode_Check_c33_d (n : Nat) : SmV := smSeq [1] (inode_Check_c5_d n) (inode_Check_c32_d n)
def inode_Check_c34_d (n : Nat) : SmV := smSeq [1] (inode_Check_c0_d n) (inode_Check_c33_d n)
def inode_Check_k0 (n : Nat) : AExit → Env → Heap → OptV := fun x e h => match x with | .normal => hold ((inode_Check_c30_d n) A_inode_Check.fin (e.keep []) h) | .exit id => A_inode_Check.fin (.exit id) e h | .ret => A_inode_Check.fin .ret e h
def inode_Check_k1 (n : Nat) : AExit → Env → Heap → OptV := fun x e h => match x with | .exit i => bif Nat.beq i 0 then (inode_Check_k0 n) .normal e h else (inode_Check_k0 n) (.exit i) e h | .normal => (inode_Check_k0 n) .normal e h | .ret => (inode_Check_k0 n) .ret e h
def inode_Check_l0 (n m : Nat) (x44 x45 : Val) (h : Heap) : OptV := around (inode_Check_c25_d n) [44, 45] (inode_Check_k1 n) m [(44, x44), (45, x45)] h
def R_inode_Check (n : Nat) (args : List Val) (h : Heap) : OptV := (inode_Check_c34_d n) A_inode_Check.fin (params 0 args) h
theorem R_inode_Check_eq (n : Nat) (a0 : Val) (h : Heap) : R_inode_Check n [a0] h = bnd (cells? a0) fun c1 => bnd (afAddr ((.c (.p h.length 0))) 0) fun v2 => bnd (aload1 ((h ++ [some (Row.mk (c1) true)])) v2) fun v3 => bnd (abin .lss v3 (.c (.i .i64 0))) fun v4 => bnd (gd v4 false (bnd (afAddr ((.c (.p h.length 0))) 0) fun v5 => some (v5, (h ++ [some (Row.mk (c1) true)]))) (some (.no, (h ++ [some (Row.mk (c1) true)])))) fun p6 => bnd (gd v4 false (bnd (aload1 p6.2 p6.1) fun v7 => some (v7, p6.2)) (some (.no, p6.2))) fun p8 => bnd (gd v4 false (bnd (abin .gtr p8.1 (.c (.i .i64 2))) fun v9 => some (v9, p8.2)) (some (.no, p8.2))) fun p10 => bnd (apick v4 (.c (.b true)) p10.1) fun v11 => bnd (gd v11 false (bnd (afAddr ((.c (.p h.length 0))) 0) fun v12 => some (v12, p10.2)) (some (.no, p10.2))) fun p13 => bnd (gd v11 false (bnd (aload1 p13.2 p13.1) fun v14 => some (v14, p13.2)) (some (.no, p13.2))) fun p15 => bnd (gd v11 false (bnd (abin .eql p15.1 (.c (.i .i64 0))) fun v16 => some (v16, p15.2)) (some (.no, p15.2))) fun p17 => bnd (gd v11 false (some (p17.1, p17.2)) (some (.no, p17.2))) fun p18 => bnd (gd p18.1 true (bnd (aloadN p18.2 11 ((.c (.p h.length 0)))) fun v19 => some (v19, p18.2)) (some (.no, p18.2))) fun p20 => bnd (gd p18.1 true (bnd (afill ([.i .i64 0, .i .i64 0, .i .i64 0, .i .i64 0, .i .i64 0, .i .i64 0, .i .i64 0, .i .i64 0, .i .i64 0, .i .i64 0, .i .i64 0]) []) fun c21 => some ((.a c21), p20.2)) (some (.no, p20.2))) fun p22 => bnd (gd p18.1 true (bnd (aeq true ([.i .i64, .i .i64, .i .i64, .i .i64, .i .i64, .i .i64, .i .i64, .i .i64, .i .i64, .i .i64, .i .i64]) p20.1 p22.1) fun v23 => some (v23, p22.2)) (some (.no, p22.2))) fun p24 => bnd (gd v11 false (bnd (apick p18.1 p24.1 (.c (.b false))) fun v25 => some (v25, p24.2)) (some (.no, p24.2))) fun p26 => bnd (apick v11 (.c (.b true)) p26.1) fun v27 => cnd v27 (some ((.c (.i .i64 1)), p26.2)) (bnd (afAddr ((.c (.p h.length 0))) 1) fun v28 => bnd (aload1 p26.2 v28) fun v29 => bnd (S_inode_small [v29] p26.2) fun p30 => bnd (aun .not p30.1) fun v31 => bnd (gd v31 false (bnd (afAddr ((.c (.p h.length 0))) 3) fun v32 => some (v32, p30.2)) (some (.no, p30.2))) fun p33 => bnd (gd v31 false (bnd (aload1 p33.2 p33.1) fun v34 => some (v34, p33.2)) (some (.no, p33.2))) fun p35 => bnd (gd v31 false (bnd (S_inode_small [p35.1] p35.2) fun p36 => some (p36.1, p36.2)) (some (.no, p35.2))) fun p37 => bnd (gd v31 false (bnd (aun .not p37.1) fun v38 => some (v38, p37.2)) (some (.no, p37.2))) fun p39 => bnd (apick v31 (.c (.b true)) p39.1) fun v40 => bnd (gd v40 false (bnd (afAddr ((.c (.p h.length 0))) 2) fun v41 => some (v41, p39.2)) (some (.no, p39.2))) fun p42 => bnd (gd v40 false (bnd (aload1 p42.2 p42.1) fun v43 => some (v43, p42.2)) (some (.no, p42.2))) fun p44 => bnd (gd v40 false (bnd (abin .lss p44.1 (.c (.i .i64 0))) fun v45 => some (v45, p44.2)) (some (.no, p44.2))) fun p46 => bnd (apick v40 (.c (.b true)) p46.1) fun v47 => bnd (gd v47 false (bnd (afAddr ((.c (.p h.length 0))) 2) fun v48 => some (v48, p46.2)) (some (.no, p46.2))) fun p49 => bnd (gd v47 false (bnd (aload1 p49.2 p49.1) fun v50 => some (v50, p49.2)) (some (.no, p49.2))) fun p51 => bnd (gd v47 false (bnd (abin .gtr p51.1 (.c (.i .i64 34304))) fun v52 => some (v52, p51.2)) (some (.no, p51.2))) fun p53 => bnd (apick v47 (.c (.b true)) p53.1) fun v54 => cnd v54 (some ((.c (.i .i64 1)), p53.2)) (bnd (aloadN p53.2 11 ((.c (.p h.length 0)))) fun v55 => bnd (S_inode_Numbers [v55] p53.2) fun p56 => inode_Check_l0 n n p56.1 (.c (.i .i64 0)) p56.2)) := by kernel_rfl
theorem inode_Check_l0_eq (n m : Nat) (x44 x45 : Val) (h : Heap) : inode_Check_l0 n (m + 1) x44 x45 h = bnd (abin .lss x45 (.c (.i .i64 7))) fun v57 => cnd v57 (bnd (aidxA1 7 x44 x45) fun v58 => bnd (S_inode_small [v58] h) fun p59 => bnd (aun .not p59.1) fun v60 => cnd v60 (some ((.c (.i .i64 1)), p59.2)) (bnd (abin .add x45 (.c (.i .i64 1))) fun v61 => inode_Check_l0 n m x44 v61 p59.2)) (some ((.c (.i .i64 0)), h)) := by kernel_rfl
theorem K_inode_Check : FnK Try.prog 155 A_inode_Check E_inode_Check R_inode_Check := .mk' (sound1 S_inode_small_ok (sound1 S_inode_Numbers_ok sound0)) Try.func155 (by kernel_rfl) (by intro n args h; kernel_rfl)
def S_inode_Check : Fun := tidy (Lim A_inode_Check E_inode_Check)
theorem S_inode_Check_ok : SOk Try.prog 155 S_inode_Check := K_inode_Check.sok
theorem S_inode_Check_flat {n : Nat} {args : List Val} {h h2 : Heap} {v : Val} (he : R_inode_Check n args (ro h) = some (v, h2)) (hf : v.flat = true) : S_inode_Check args h = some (v, h) := K_inode_Check.flat he hf
def inode_Put_o0 : List AOper := [aO 1 (.box (.t 0)), aO 2 (.alloc (List.replicate 32 (.i .u8 0))), aO 3 (.mv (.v (.c (.i .i64 0))))]
def inode_Put_c0 : ACode := .ops inode_Put_o0
def inode_Put_o1 : List AOper := [aO 4 (.alloc (List.replicate 32 (.i .u8 0)))]
def inode_Put_c1 : ACode := .ops inode_Put_o1
def inode_Put_o2 : List AOper := [aO 10 (.loadN 11 (.t 1)), aO 11 (.call 155 [(.t 10)]), aO 5 (.mv (.t 11))]
def inode_Put_c2 : ACode := .ops inode_Put_o2
def inode_Put_o3 : List AOper := [aO 12 (.mv (.t 5)), aO 13 (.bin .neq (.t 12) (.v (.c (.i .i64 0))))]
def inode_Put_c3 : ACode := .ops inode_Put_o3
def inode_Put_o4 : List AOper := [aO 14 (.loadN 32 (.t 4)), aO 15 (.mv (.t 5)), { dst := none, op := .storeN 32 (.t 2) (.t 14) }, aO 3 (.mv (.t 15))]
def inode_Put_c4 : ACode := .ops inode_Put_o4
def inode_Put_c5 : ACode := .seq [2, 3] inode_Put_c4 .ret
def inode_Put_c6 : ACode := .cond (.t 13) inode_Put_c5 .skip
def inode_Put_c7 : ACode := .seq [1, 2, 4, 5, 13] inode_Put_c3 inode_Put_c6
def inode_Put_c8 : ACode := .seq [1, 2, 4, 5] inode_Put_c2 inode_Put_c7
def inode_Put_o5 : List AOper := [aO 6 (.alloc (List.replicate 256 (.i .u8 0)))]
def inode_Put_c9 : ACode := .ops inode_Put_o5
def inode_Put_o6 : List AOper := [aO 16 (.loadN 256 (.t 6)), aO 17 (.fAddr (.t 1) 0), aO 18 (.load1 (.t 17)), aO 19 (.call 96 [(.t 16), (.v (.c (.i .i64 0))), (.v (.c (.i .i64 1))), (.t 18)]), { dst := none, op := .storeN 256 (.t 6) (.t 19) }]
def inode_Put_c10 : ACode := .ops inode_Put_o6
def inode_Put_o7 : List AOper := [aO 20 (.loadN 256 (.t 6)), aO 21 (.fAddr (.t 1) 1), aO 22 (.load1 (.t 21)), aO 23 (.call 96 [(.t 20), (.v (.c (.i .i64 2))), (.v (.c (.i .i64 2))), (.t 22)]), { dst := none, op := .storeN 256 (.t 6) (.t 23) }]
def inode_Put_c11 : ACode := .ops inode_Put_o7
def inode_Put_o8 : List AOper := [aO 24 (.loadN 256 (.t 6)), aO 25 (.fAddr (.t 1) 2), aO 26 (.load1 (.t 25)), aO 27 (.call 96 [(.t 24), (.v (.c (.i .i64 4))), (.v (.c (.i .i64 4))), (.t 26)]), { dst := none, op := .storeN 256 (.t 6) (.t 27) }]
def inode_Put_c12 : ACode := .ops inode_Put_o8
def inode_Put_o9 : List AOper := [aO 28 (.loadN 256 (.t 6)), aO 29 (.fAddr (.t 1) 3), aO 30 (.load1 (.t 29)), aO 31 (.call 96 [(.t 28), (.v (.c (.i .i64 8))), (.v (.c (.i .i64 2))), (.t 30)]), { dst := none, op := .storeN 256 (.t 6) (.t 31) }]
def inode_Put_c13 : ACode := .ops inode_Put_o9
def inode_Put_o10 : List AOper := [aO 32 (.loadN 11 (.t 1)), aO 33 (.call 156 [(.t 32)]), aO 34 (.mv (.v (.c (.i .i64 0))))]
def inode_Put_c14 : ACode := .ops inode_Put_o10
def inode_Put_o11 : List AOper := [aO 35 (.bin .lss (.t 34) (.v (.c (.i .i64 7))))]
def inode_Put_c15 : ACode := .ops inode_Put_o11
def inode_Put_c16 : ACode := .cond (.t 35) .skip (.exit 0)
def inode_Put_o12 : List AOper := [aO 36 (.mv (.t 34)), aO 37 (.idxA1 7 (.t 33) (.t 34)), aO 7 (.mv (.t 36)), aO 8 (.mv (.t 37))]
def inode_Put_c17 : ACode := .ops inode_Put_o12
def inode_Put_o13 : List AOper := [aO 38 (.loadN 256 (.t 6)), aO 39 (.mv (.t 7)), aO 40 (.bin .mul (.v (.c (.i .i64 2))) (.t 39)), aO 41 (.bin .add (.v (.c (.i .i64 10))) (.t 40)), aO 42 (.mv (.t 8)), aO 43 (.call 96 [(.t 38), (.t 41), (.v (.c (.i .i64 2))), (.t 42)]), { dst := none, op := .storeN 256 (.t 6) (.t 43) }]
def inode_Put_c18 : ACode := .ops inode_Put_o13
def inode_Put_c19 : ACode := .seq [2, 4, 6, 7, 8, 33, 34] inode_Put_c17 inode_Put_c18
def inode_Put_c20 : ACode := .block 1 inode_Put_c19
def inode_Put_o14 : List AOper := [aO 44 (.bin .add (.t 34) (.v (.c (.i .i64 1)))), aO 34 (.mv (.t 44))]
def inode_Put_c21 : ACode := .ops inode_Put_o14
def inode_Put_c22 : ACode := .seq [2, 4, 6, 33, 34] inode_Put_c20 inode_Put_c21
def inode_Put_c23 : ACode := .seq [2, 4, 6, 33, 34] inode_Put_c16 inode_Put_c22
def inode_Put_c24 : ACode := .seq [2, 4, 6, 33, 34, 35] inode_Put_c15 inode_Put_c23
def inode_Put_c25 : ACode := .loop [2, 4, 6, 33, 34] inode_Put_c24
def inode_Put_c26 : ACode := .block 0 inode_Put_c25
def inode_Put_c27 : ACode := .seq [2, 4, 6, 33, 34] inode_Put_c14 inode_Put_c26
def inode_Put_o15 : List AOper := [aO 45 (.mv (.v (.c (.i .i64 0))))]
def inode_Put_c28 : ACode := .ops inode_Put_o15
def inode_Put_o16 : List AOper := [aO 46 (.bin .lss (.t 45) (.v (.c (.i .i64 32))))]
def inode_Put_c29 : ACode := .ops inode_Put_o16
def inode_Put_c30 : ACode := .cond (.t 46) .skip (.exit 2)
def inode_Put_o17 : List AOper := [aO 47 (.mv (.t 45)), aO 9 (.mv (.t 47))]
def inode_Put_c31 : ACode := .ops inode_Put_o17
def inode_Put_o18 : List AOper := [aO 48 (.mv (.t 9)), aO 49 (.mv (.t 9)), aO 50 (.iAddrA 256 1 (.t 6) (.t 49)), aO 51 (.load1 (.t 50)), aO 52 (.iAddrA 32 1 (.t 4) (.t 48)), { dst := none, op := .store1 (.t 52) (.t 51) }]
def inode_Put_c32 : ACode := .ops inode_Put_o18
def inode_Put_c33 : ACode := .seq [2, 4, 6, 9, 45] inode_Put_c31 inode_Put_c32
def inode_Put_c34 : ACode := .block 3 inode_Put_c33
def inode_Put_o19 : List AOper := [aO 53 (.bin .add (.t 45) (.v (.c (.i .i64 1)))), aO 45 (.mv (.t 53))]
def inode_Put_c35 : ACode := .ops inode_Put_o19
def inode_Put_c36 : ACode := .seq [2, 4, 6, 45] inode_Put_c34 inode_Put_c35
def inode_Put_c37 : ACode := .seq [2, 4, 6, 45] inode_Put_c30 inode_Put_c36
def inode_Put_c38 : ACode := .seq [2, 4, 6, 45, 46] inode_Put_c29 inode_Put_c37
def inode_Put_c39 : ACode := .loop [2, 4, 6, 45] inode_Put_c38
def inode_Put_c40 : ACode := .block 2 inode_Put_c39
def inode_Put_c41 : ACode := .seq [2, 4, 6, 45] inode_Put_c28 inode_Put_c40
def inode_Put_o20 : List AOper := [aO 54 (.loadN 32 (.t 4)), { dst := none, op := .storeN 32 (.t 2) (.t 54) }, aO 3 (.mv (.v (.c (.i .i64 0))))]
def inode_Put_c42 : ACode := .ops inode_Put_o20
def inode_Put_c43 : ACode := .seq [2, 3] inode_Put_c42 .ret
def inode_Put_c44 : ACode := .seq [2, 4] inode_Put_c41 inode_Put_c43
def inode_Put_c45 : ACode := .seq [2, 4, 6] inode_Put_c27 inode_Put_c44
def inode_Put_c46 : ACode := .seq [1, 2, 4, 6] inode_Put_c13 inode_Put_c45
def inode_Put_c47 : ACode := .seq [1, 2, 4, 6] inode_Put_c12 inode_Put_c46
def inode_Put_c48 : ACode := .seq [1, 2, 4, 6] inode_Put_c11 inode_Put_c47
def inode_Put_c49 : ACode := .seq [1, 2, 4, 6] inode_Put_c10 inode_Put_c48
def inode_Put_c50 : ACode := .seq [1, 2, 4, 6] inode_Put_c9 inode_Put_c49
def inode_Put_c51 : ACode := .seq [1, 2, 4] inode_Put_c8 inode_Put_c50
def inode_Put_c52 : ACode := .seq [1, 2, 4] inode_Put_c1 inode_Put_c51
def inode_Put_c53 : ACode := .seq [1, 2] inode_Put_c0 inode_Put_c52
def A_inode_Put : AFn := ⟨inode_Put_c53, [.cellN 2 32, .tmp 3]⟩
def E_inode_Put : Sums := disp 155 S_inode_Check (disp 96 S_num_With (disp 156 S_inode_Numbers disp0))
def inode_Put_c0_d (n : Nat) : SmV := smOps E_inode_Put inode_Put_o0
def inode_Put_c1_d (n : Nat) : SmV := smOps E_inode_Put inode_Put_o1
def inode_Put_c2_d (n : Nat) : SmV := smOps E_inode_Put inode_Put_o2
def inode_Put_c3_d (n : Nat) : SmV := smOps E_inode_Put inode_Put_o3
def inode_Put_c4_d (n : Nat) : SmV := smOps E_inode_Put inode_Put_o4
def inode_Put_c5_d (n : Nat) : SmV := smSeq [2, 3] (inode_Put_c4_d n) smRet
def inode_Put_c6_d (n : Nat) : SmV := smCond (.t 13) (inode_Put_c5_d n) smSkip
def inode_Put_c7_d (n : Nat) : SmV := smSeq [1, 2, 4, 5, 13] (inode_Put_c3_d n) (inode_Put_c6_d n)
def inode_Put_c8_d (n : Nat) : SmV := smSeq [1, 2, 4, 5] (inode_Put_c2_d n) (inode_Put_c7_d n)
def inode_Put_c9_d (n : Nat) : SmV := smOps E_inode_Put inode_Put_o5
def inode_Put_c10_d (n : Nat) : SmV := smOps E_inode_Put inode_Put_o6
def inode_Put_c11_d (n : Nat) : SmV := smOps E_inode_Put inode_Put_o7
def inode_Put_c12_d (n : Nat) : SmV := smOps E_inode_Put inode_Put_o8
def inode_Put_c13_d (n : Nat) : SmV := smOps E_inode_Put inode_Put_o9
def inode_Put_c14_d (n : Nat) : SmV := smOps E_inode_Put inode_Put_o10
def inode_Put_c15_d (n : Nat) : SmV := smOps E_inode_Put inode_Put_o11
def inode_Put_c16_d (n : Nat) : SmV := smCond (.t 35) smSkip (smExit 0)
def inode_Put_c17_d (n : Nat) : SmV := smOps E_inode_Put inode_Put_o12
def inode_Put_c18_d (n : Nat) : SmV := smOps E_inode_Put inode_Put_o13
def inode_Put_c19_d (n : Nat) : SmV := smSeq [2, 4, 6, 7, 8, 33, 34] (inode_Put_c17_d n) (inode_Put_c18_d n)
def inode_Put_c20_d (n : Nat) : SmV := smBlock 1 (inode_Put_c19_d n)
def inode_Put_c21_d (n : Nat) : SmV := smOps E_inode_Put inode_Put_o14
def inode_Put_c22_d (n : Nat) : SmV := smSeq [2, 4, 6, 33, 34] (inode_Put_c20_d n) (inode_Put_c21_d n)
def inode_Put_c23_d (n : Nat) : SmV := smSeq [2, 4, 6, 33, 34] (inode_Put_c16_d n) (inode_Put_c22_d n)
def inode_Put_c24_d (n : Nat) : SmV := smSeq [2, 4, 6, 33, 34, 35] (inode_Put_c15_d n) (inode_Put_c23_d n)
def inode_Put_c25_d (n : Nat) : SmV := smLoop n [2, 4, 6, 33, 34] (inode_Put_c24_d n)
def inode_Put_c26_d (n : Nat) : SmV := smBlock 0 (inode_Put_c25_d n)
def inode_Put_c27_d (n : Nat) : SmV := smSeq [2, 4, 6, 33, 34] (inode_Put_c14_d n) (inode_Put_c26_d n)
def inode_Put_c28_d (n : Nat) : SmV := smOps E_inode_Put inode_Put_o15
def inode_Put_c29_d (n : Nat) : SmV := smOps E_inode_Put inode_Put_o16
def inode_Put_c30_d (n : Nat) : SmV := smCond (.t 46) smSkip (smExit 2)
def inode_Put_c31_d (n : Nat) : SmV := smOps E_inode_Put inode_Put_o17
def inode_Put_c32_d (n : Nat) : SmV := smOps E_inode_Put inode_Put_o18
def inode_Put_c33_d (n : Nat) : SmV := smSeq [2, 4, 6, 9, 45] (inode_Put_c31_d n) (inode_Put_c32_d n)
def inode_Put_c34_d (n : Nat) : SmV := smBlock 3 (inode_Put_c33_d n)
def inode_Put_c35_d (n : Nat) : SmV := smOps E_inode_Put inode_Put_o19
def inode_Put_c36_d (n : Nat) : SmV := smSeq [2, 4, 6, 45] (inode_Put_c34_d n) (inode_Put_c35_d n)
def inode_Put_c37_d (n : Nat) : SmV := smSeq [2, 4, 6, 45] (inode_Put_c30_d n) (inode_Put_c36_d n)
def inode_Put_c38_d (n : Nat) : SmV := smSeq [2, 4, 6, 45, 46] (inode_Put_c29_d n) (inode_Put_c37_d n)
def inode_Put_c39_d (n : Nat) : SmV := smLoop n [2, 4, 6, 45] (inode_Put_c38_d n)
def inode_Put_c40_d (n : Nat) : SmV := smBlock 2 (inode_Put_c39_d n)
def inode_Put_c41_d (n : Nat) : SmV := smSeq [2, 4, 6, 45] (inode_Put_c28_d n) (inode_Put_c40_d n)
def inode_Put_c42_d (n : Nat) : SmV := smOps E_inode_Put inode_Put_o20
def inode_Put_c43_d (n : Nat) : SmV := smSeq [2, 3] (inode_Put_c42_d n) smRet
def inode_Put_c44_d (n : Nat) : SmV := smSeq [2, 4] (inode_Put_c41_d n) (inode_Put_c43_d n)
def inode_Put_c45_d (n : Nat) : SmV := smSeq [2, 4, 6] (inode_Put_c27_d n) (inode_Put_c44_d n)
def inode_Put_c46_d (n : Nat) : SmV := smSeq [1, 2, 4, 6] (inode_Put_c13_d n) (inode_Put_c45_d n)
def inode_Put_c47_d (n : Nat) : SmV := smSeq [1, 2, 4, 6] (inode_Put_c12_d n) (inode_Put_c46_d n)
def inode_Put_c48_d (n : Nat) : SmV := smSeq [1, 2, 4, 6] (inode_Put_c11_d n) (inode_Put_c47_d n)
def inode_Put_c49_d (n : Nat) : SmV := smSeq [1, 2, 4, 6] (inode_Put_c10_d n) (inode_Put_c48_d n)
def inode_Put_c50_d (n : Nat) : SmV := smSeq [1, 2, 4, 6] (inode_Put_c9_d n) (inode_Put_c49_d n)
def inode_Put_c51_d (n : Nat) : SmV := smSeq [1, 2, 4] (inode_Put_c8_d n) (inode_Put_c50_d n)
def inode_Put_c52_d (n : Nat) : SmV := smSeq [1, 2, 4] (inode_Put_c1_d n) (inode_Put_c51_d n)
def inode_Put_c53_d (n : Nat) : SmV := smSeq [1, 2] (inode_Put_c0_d n) (inode_Put_c52_d n)
def inode_Put_k0 (n : Nat) : AExit → Env → Heap → OptV := fun x e h => match x with | .normal => hold ((inode_Put_c44_d n) A_inode_Put.fin (e.keep [2, 4, 6]) h) | .exit id => A_inode_Put.fin (.exit id) e h | .ret => A_inode_Put.fin .ret e h
def inode_Put_k1 (n : Nat) : AExit → Env → Heap → OptV := fun x e h => match x with | .exit i => bif Nat.beq i 0 then (inode_Put_k0 n) .normal e h else (inode_Put_k0 n) (.exit i) e h | .normal => (inode_Put_k0 n) .normal e h | .ret => (inode_Put_k0 n) .ret e h
def inode_Put_l0 (n m : Nat) (x2 x4 x6 x33 x34 : Val) (h : Heap) : OptV := around (inode_Put_c24_d n) [2, 4, 6, 33, 34] (inode_Put_k1 n) m [(2, x2), (4, x4), (6, x6), (33, x33), (34, x34)] h
def R_inode_Put (n : Nat) (args : List Val) (h : Heap) : OptV := (inode_Put_c53_d n) A_inode_Put.fin (params 0 args) h
def inode_Put_k2 (n : Nat) : AExit → Env → Heap → OptV := fun x e h => match x with | .normal => hold ((inode_Put_c43_d n) A_inode_Put.fin (e.keep [2, 4]) h) | .exit id => A_inode_Put.fin (.exit id) e h | .ret => A_inode_Put.fin .ret e h
def inode_Put_k3 (n : Nat) : AExit → Env → Heap → OptV := fun x e h => match x with | .exit i => bif Nat.beq i 2 then (inode_Put_k2 n) .normal e h else (inode_Put_k2 n) (.exit i) e h | .normal => (inode_Put_k2 n) .normal e h | .ret => (inode_Put_k2 n) .ret e h
def inode_Put_l1 (n m : Nat) (x2 x4 x6 x45 : Val) (h : Heap) : OptV := around (inode_Put_c38_d n) [2, 4, 6, 45] (inode_Put_k3 n) m [(2, x2), (4, x4), (6, x6), (45, x45)] h
theorem R_inode_Put_eq (n : Nat) (a0 : Val) (h : Heap) : R_inode_Put n [a0] h = bnd (cells? a0) fun c1 => bnd (aloadN ((((h ++ [some (Row.mk (c1) true)]) ++ [some (Row.mk (List.replicate 32 (.i .u8 0)) true)]) ++ [some (Row.mk (List.replicate 32 (.i .u8 0)) true)])) 11 ((.c (.p h.length 0)))) fun v2 => bnd (S_inode_Check [v2] ((((h ++ [some (Row.mk (c1) true)]) ++ [some (Row.mk (List.replicate 32 (.i .u8 0)) true)]) ++ [some (Row.mk (List.replicate 32 (.i .u8 0)) true)]))) fun p3 => bnd (abin .neq p3.1 (.c (.i .i64 0))) fun v4 => cnd v4 (bnd (aloadN p3.2 32 ((.c (.p (((h ++ [some (Row.mk (c1) true)]) ++ [some (Row.mk (List.replicate 32 (.i .u8 0)) true)])).length 0)))) fun v5 => bnd (astoreN p3.2 32 ((.c (.p ((h ++ [some (Row.mk (c1) true)])).length 0))) v5) fun h6 => tupN [aloadN h6 32 ((.c (.p ((h ++ [some (Row.mk (c1) true)])).length 0))), some p3.1] h6) (bnd (aloadN ((p3.2 ++ [some (Row.mk (List.replicate 256 (.i .u8 0)) true)])) 256 ((.c (.p p3.2.length 0)))) fun v7 => bnd (afAddr ((.c (.p h.length 0))) 0) fun v8 => bnd (aload1 ((p3.2 ++ [some (Row.mk (List.replicate 256 (.i .u8 0)) true)])) v8) fun v9 => bnd (S_num_With [v7, .c (.i .i64 0), .c (.i .i64 1), v9] ((p3.2 ++ [some (Row.mk (List.replicate 256 (.i .u8 0)) true)]))) fun p10 => bnd (astoreN p10.2 256 ((.c (.p p3.2.length 0))) p10.1) fun h11 => bnd (aloadN h11 256 ((.c (.p p3.2.length 0)))) fun v12 => bnd (afAddr ((.c (.p h.length 0))) 1) fun v13 => bnd (aload1 h11 v13) fun v14 => bnd (S_num_With [v12, .c (.i .i64 2), .c (.i .i64 2), v14] h11) fun p15 => bnd (astoreN p15.2 256 ((.c (.p p3.2.length 0))) p15.1) fun h16 => bnd (aloadN h16 256 ((.c (.p p3.2.length 0)))) fun v17 => bnd (afAddr ((.c (.p h.length 0))) 2) fun v18 => bnd (aload1 h16 v18) fun v19 => bnd (S_num_With [v17, .c (.i .i64 4), .c (.i .i64 4), v19] h16) fun p20 => bnd (astoreN p20.2 256 ((.c (.p p3.2.length 0))) p20.1) fun h21 => bnd (aloadN h21 256 ((.c (.p p3.2.length 0)))) fun v22 => bnd (afAddr ((.c (.p h.length 0))) 3) fun v23 => bnd (aload1 h21 v23) fun v24 => bnd (S_num_With [v22, .c (.i .i64 8), .c (.i .i64 2), v24] h21) fun p25 => bnd (astoreN p25.2 256 ((.c (.p p3.2.length 0))) p25.1) fun h26 => bnd (aloadN h26 11 ((.c (.p h.length 0)))) fun v27 => bnd (S_inode_Numbers [v27] h26) fun p28 => inode_Put_l0 n n ((.c (.p ((h ++ [some (Row.mk (c1) true)])).length 0))) ((.c (.p (((h ++ [some (Row.mk (c1) true)]) ++ [some (Row.mk (List.replicate 32 (.i .u8 0)) true)])).length 0))) ((.c (.p p3.2.length 0))) p28.1 (.c (.i .i64 0)) p28.2) := by kernel_rfl
theorem inode_Put_l0_eq (n m : Nat) (x2 x4 x6 x33 x34 : Val) (h : Heap) : inode_Put_l0 n (m + 1) x2 x4 x6 x33 x34 h = bnd (abin .lss x34 (.c (.i .i64 7))) fun v29 => cnd v29 (bnd (aidxA1 7 x33 x34) fun v30 => bnd (aloadN h 256 x6) fun v31 => bnd (abin .mul (.c (.i .i64 2)) x34) fun v32 => bnd (abin .add (.c (.i .i64 10)) v32) fun v33 => bnd (S_num_With [v31, v33, .c (.i .i64 2), v30] h) fun p34 => bnd (astoreN p34.2 256 x6 p34.1) fun h35 => bnd (abin .add x34 (.c (.i .i64 1))) fun v36 => inode_Put_l0 n m x2 x4 x6 x33 v36 h35) (inode_Put_l1 n n x2 x4 x6 (.c (.i .i64 0)) h) := by kernel_rfl
theorem inode_Put_l1_eq (n m : Nat) (x2 x4 x6 x45 : Val) (h : Heap) : inode_Put_l1 n (m + 1) x2 x4 x6 x45 h = bnd (abin .lss x45 (.c (.i .i64 32))) fun v37 => cnd v37 (bnd (aiAddrA 256 1 x6 x45) fun v38 => bnd (aload1 h v38) fun v39 => bnd (aiAddrA 32 1 x4 x45) fun v40 => bnd (astore1 h v40 v39) fun h41 => bnd (abin .add x45 (.c (.i .i64 1))) fun v42 => inode_Put_l1 n m x2 x4 x6 v42 h41) (bnd (aloadN h 32 x4) fun v43 => bnd (astoreN h 32 x2 v43) fun h44 => tupN [aloadN h44 32 x2, some (.c (.i .i64 0))] h44) := by kernel_rfl
theorem K_inode_Put : FnK Try.prog 134 A_inode_Put E_inode_Put R_inode_Put := .mk' (sound1 S_inode_Check_ok (sound1 S_num_With_ok (sound1 S_inode_Numbers_ok sound0))) Try.func134 (by kernel_rfl) (by intro n args h; kernel_rfl)
def S_inode_Put : Fun := tidy (Lim A_inode_Put E_inode_Put)
theorem S_inode_Put_ok : SOk Try.prog 134 S_inode_Put := K_inode_Put.sok
theorem S_inode_Put_flat {n : Nat} {args : List Val} {h h2 : Heap} {v : Val} (he : R_inode_Put n args (ro h) = some (v, h2)) (hf : v.flat = true) : S_inode_Put args h = some (v, h) := K_inode_Put.flat he hf
def inode_Clean_o0 : List AOper := [aO 1 (.box (.t 0)), aO 2 (.alloc ([.i .i64 0, .i .i64 0, .i .i64 0, .i .i64 0, .i .i64 0, .i .i64 0, .i .i64 0, .i .i64 0, .i .i64 0, .i .i64 0, .i .i64 0])), aO 3 (.mv (.v (.c (.b false))))]
def inode_Clean_c0 : ACode := .ops inode_Clean_o0
def inode_Clean_o1 : List AOper := [aO 7 (.loadN 32 (.t 1)), aO 8 (.call 133 [(.t 7)]), aO 4 (.alloc ([.i .i64 0, .i .i64 0, .i .i64 0, .i .i64 0, .i .i64 0, .i .i64 0, .i .i64 0, .i .i64 0, .i .i64 0, .i .i64 0, .i .i64 0])), { dst := none, op := .storeN 11 (.t 4) (.t 8) }]
def inode_Clean_c1 : ACode := .ops inode_Clean_o1
def inode_Clean_o2 : List AOper := [aO 10 (.loadN 11 (.t 4)), aO 11 (.call 134 [(.t 10)]), aO 9 (.mv (.t 11)), aO 12 (.ext (.t 9) 0), aO 13 (.ext (.t 9) 1), aO 5 (.alloc (List.replicate 32 (.i .u8 0))), { dst := none, op := .storeN 32 (.t 5) (.t 12) }, aO 6 (.mv (.t 13))]
def inode_Clean_c2 : ACode := .ops inode_Clean_o2
def inode_Clean_o3 : List AOper := [aO 14 (.mv (.t 6)), aO 15 (.bin .neq (.t 14) (.v (.c (.i .i64 0)))), aO 16 (.mv (.t 15)), { dst := some 17, op := .loadN 32 (.t 5), guard := some (16, false) }, { dst := some 18, op := .loadN 32 (.t 1), guard := some (16, false) }, { dst := some 19, op := .eqA true (List.replicate 32 (.i .u8)) (.t 17) (.t 18), guard := some (16, false) }, aO 20 (.pick (.t 16) (.v (.c (.b true))) (.t 19))]
def inode_Clean_c3 : ACode := .ops inode_Clean_o3
def inode_Clean_o4 : List AOper := [aO 21 (.build ([.i .i64 0, .i .i64 0, .i .i64 0, .i .i64 0, .i .i64 0, .i .i64 0, .i .i64 0, .i .i64 0, .i .i64 0, .i .i64 0, .i .i64 0]) []), { dst := none, op := .storeN 11 (.t 2) (.t 21) }, aO 3 (.mv (.v (.c (.b false))))]
def inode_Clean_c4 : ACode := .ops inode_Clean_o4
def inode_Clean_c5 : ACode := .seq [2, 3] inode_Clean_c4 .ret
def inode_Clean_c6 : ACode := .cond (.t 20) inode_Clean_c5 .skip
def inode_Clean_c7 : ACode := .seq [2, 4, 20] inode_Clean_c3 inode_Clean_c6
def inode_Clean_c8 : ACode := .seq [1, 2, 4, 5, 6] inode_Clean_c2 inode_Clean_c7
def inode_Clean_o5 : List AOper := [aO 22 (.loadN 11 (.t 4)), { dst := none, op := .storeN 11 (.t 2) (.t 22) }, aO 3 (.mv (.v (.c (.b true))))]
def inode_Clean_c9 : ACode := .ops inode_Clean_o5
def inode_Clean_c10 : ACode := .seq [2, 3] inode_Clean_c9 .ret
def inode_Clean_c11 : ACode := .seq [2, 4] inode_Clean_c8 inode_Clean_c10
def inode_Clean_c12 : ACode := .seq [1, 2, 4] inode_Clean_c1 inode_Clean_c11
def inode_Clean_c13 : ACode := .seq [1, 2] inode_Clean_c0 inode_Clean_c12
def A_inode_Clean : AFn := ⟨inode_Clean_c13, [.cellN 2 11, .tmp 3]⟩
def E_inode_Clean : Sums := disp 133 S_inode_Get (disp 134 S_inode_Put disp0)
def inode_Clean_c0_d (n : Nat) : SmV := smOps E_inode_Clean inode_Clean_o0
def inode_Clean_c1_d (n : Nat) : SmV := smOps E_inode_Clean inode_Clean_o1
def inode_Clean_c2_d (n : Nat) : SmV := smOps E_inode_Clean inode_Clean_o2
def inode_Clean_c3_d (n : Nat) : SmV := smOps E_inode_Clean inode_Clean_o3
def inode_Clean_c4_d (n : Nat) : SmV := smOps E_inode_Clean inode_Clean_o4
def inode_Clean_c5_d (n : Nat) : SmV := smSeq [2, 3] (inode_Clean_c4_d n) smRet
def inode_Clean_c6_d (n : Nat) : SmV := smCond (.t 20) (inode_Clean_c5_d n) smSkip
def inode_Clean_c7_d (n : Nat) : SmV := smSeq [2, 4, 20] (inode_Clean_c3_d n) (inode_Clean_c6_d n)
def inode_Clean_c8_d (n : Nat) : SmV := smSeq [1, 2, 4, 5, 6] (inode_Clean_c2_d n) (inode_Clean_c7_d n)
def inode_Clean_c9_d (n : Nat) : SmV := smOps E_inode_Clean inode_Clean_o5
def inode_Clean_c10_d (n : Nat) : SmV := smSeq [2, 3] (inode_Clean_c9_d n) smRet
def inode_Clean_c11_d (n : Nat) : SmV := smSeq [2, 4] (inode_Clean_c8_d n) (inode_Clean_c10_d n)
def inode_Clean_c12_d (n : Nat) : SmV := smSeq [1, 2, 4] (inode_Clean_c1_d n) (inode_Clean_c11_d n)
def inode_Clean_c13_d (n : Nat) : SmV := smSeq [1, 2] (inode_Clean_c0_d n) (inode_Clean_c12_d n)
def R_inode_Clean (n : Nat) (args : List Val) (h : Heap) : OptV := (inode_Clean_c13_d n) A_inode_Clean.fin (params 0 args) h
theorem R_inode_Clean_eq (n : Nat) (a0 : Val) (h : Heap) : R_inode_Clean n [a0] h = bnd (cells? a0) fun c1 => bnd (aloadN (((h ++ [some (Row.mk (c1) true)]) ++ [some (Row.mk ([.i .i64 0, .i .i64 0, .i .i64 0, .i .i64 0, .i .i64 0, .i .i64 0, .i .i64 0, .i .i64 0, .i .i64 0, .i .i64 0, .i .i64 0]) true)])) 32 ((.c (.p h.length 0)))) fun v2 => bnd (S_inode_Get [v2] (((h ++ [some (Row.mk (c1) true)]) ++ [some (Row.mk ([.i .i64 0, .i .i64 0, .i .i64 0, .i .i64 0, .i .i64 0, .i .i64 0, .i .i64 0, .i .i64 0, .i .i64 0, .i .i64 0, .i .i64 0]) true)]))) fun p3 => bnd (astoreN ((p3.2 ++ [some (Row.mk ([.i .i64 0, .i .i64 0, .i .i64 0, .i .i64 0, .i .i64 0, .i .i64 0, .i .i64 0, .i .i64 0, .i .i64 0, .i .i64 0, .i .i64 0]) true)])) 11 ((.c (.p p3.2.length 0))) p3.1) fun h4 => bnd (aloadN h4 11 ((.c (.p p3.2.length 0)))) fun v5 => bnd (S_inode_Put [v5] h4) fun p6 => bnd (aext p6.1 0) fun v7 => bnd (aext p6.1 1) fun v8 => bnd (astoreN ((p6.2 ++ [some (Row.mk (List.replicate 32 (.i .u8 0)) true)])) 32 ((.c (.p p6.2.length 0))) v7) fun h9 => bnd (abin .neq v8 (.c (.i .i64 0))) fun v10 => bnd (gd v10 false (bnd (aloadN h9 32 ((.c (.p p6.2.length 0)))) fun v11 => some (v11, h9)) (some (.no, h9))) fun p12 => bnd (gd v10 false (bnd (aloadN p12.2 32 ((.c (.p h.length 0)))) fun v13 => some (v13, p12.2)) (some (.no, p12.2))) fun p14 => bnd (gd v10 false (bnd (aeq true (List.replicate 32 (.i .u8)) p12.1 p14.1) fun v15 => some (v15, p14.2)) (some (.no, p14.2))) fun p16 => bnd (apick v10 (.c (.b true)) p16.1) fun v17 => cnd v17 (bnd (afill ([.i .i64 0, .i .i64 0, .i .i64 0, .i .i64 0, .i .i64 0, .i .i64 0, .i .i64 0, .i .i64 0, .i .i64 0, .i .i64 0, .i .i64 0]) []) fun c18 => bnd (astoreN p16.2 11 ((.c (.p ((h ++ [some (Row.mk (c1) true)])).length 0))) ((.a c18))) fun h19 => tupN [aloadN h19 11 ((.c (.p ((h ++ [some (Row.mk (c1) true)])).length 0))), some (.c (.b false))] h19) (bnd (aloadN p16.2 11 ((.c (.p p3.2.length 0)))) fun v20 => bnd (astoreN p16.2 11 ((.c (.p ((h ++ [some (Row.mk (c1) true)])).length 0))) v20) fun h21 => tupN [aloadN h21 11 ((.c (.p ((h ++ [some (Row.mk (c1) true)])).length 0))), some (.c (.b true))] h21) := by kernel_rfl
theorem K_inode_Clean : FnK Try.prog 104 A_inode_Clean E_inode_Clean R_inode_Clean := .mk' (sound1 S_inode_Get_ok (sound1 S_inode_Put_ok sound0)) Try.func104 (by kernel_rfl) (by intro n args h; kernel_rfl)
def S_inode_Clean : Fun := tidy (Lim A_inode_Clean E_inode_Clean)
theorem S_inode_Clean_ok : SOk Try.prog 104 S_inode_Clean := K_inode_Clean.sok
theorem S_inode_Clean_flat {n : Nat} {args : List Val} {h h2 : Heap} {v : Val} (he : R_inode_Clean n args (ro h) = some (v, h2)) (hf : v.flat = true) : S_inode_Clean args h = some (v, h) := K_inode_Clean.flat he hf
def inode_Blocks_o0 : List AOper := [aO 2 (.mv (.v (.c (.i .i64 0))))]
def inode_Blocks_c0 : ACode := .ops inode_Blocks_o0
def inode_Blocks_o1 : List AOper := [aO 4 (.mv (.t 0)), aO 5 (.bin .lss (.t 4) (.v (.c (.i .i64 1)))), aO 3 (.mv (.t 5))]
def inode_Blocks_c1 : ACode := .ops inode_Blocks_o1
def inode_Blocks_o2 : List AOper := [aO 2 (.mv (.v (.c (.i .i64 0))))]
def inode_Blocks_c2 : ACode := .ops inode_Blocks_o2
def inode_Blocks_c3 : ACode := .seq [2] inode_Blocks_c2 .ret
def inode_Blocks_o3 : List AOper := [aO 7 (.mv (.t 0)), aO 8 (.bin .gtr (.t 7) (.v (.c (.i .i64 34304)))), aO 6 (.mv (.t 8))]
def inode_Blocks_c4 : ACode := .ops inode_Blocks_o3
def inode_Blocks_o4 : List AOper := [aO 2 (.mv (.v (.c (.i .i64 134))))]
def inode_Blocks_c5 : ACode := .ops inode_Blocks_o4
def inode_Blocks_c6 : ACode := .seq [2] inode_Blocks_c5 .ret
def inode_Blocks_c7 : ACode := .cond (.t 6) inode_Blocks_c6 .skip
def inode_Blocks_c8 : ACode := .seq [0, 6] inode_Blocks_c4 inode_Blocks_c7
def inode_Blocks_c9 : ACode := .cond (.t 3) inode_Blocks_c3 inode_Blocks_c8
def inode_Blocks_c10 : ACode := .seq [0, 3] inode_Blocks_c1 inode_Blocks_c9
def inode_Blocks_c11 : ACode := .block 0 inode_Blocks_c10
def inode_Blocks_o5 : List AOper := [aO 9 (.mv (.t 0)), aO 10 (.bin .add (.t 9) (.v (.c (.i .i64 256)))), aO 11 (.bin .sub (.t 10) (.v (.c (.i .i64 1)))), aO 12 (.bin .quo (.t 11) (.v (.c (.i .i64 256)))), aO 2 (.mv (.t 12))]
def inode_Blocks_c12 : ACode := .ops inode_Blocks_o5
def inode_Blocks_c13 : ACode := .seq [2] inode_Blocks_c12 .ret
def inode_Blocks_c14 : ACode := .seq [0] inode_Blocks_c11 inode_Blocks_c13
def inode_Blocks_c15 : ACode := .seq [0] inode_Blocks_c0 inode_Blocks_c14
def A_inode_Blocks : AFn := ⟨inode_Blocks_c15, [.tmp 2]⟩
def E_inode_Blocks : Sums := disp0
def inode_Blocks_c0_d (n : Nat) : SmV := smOps E_inode_Blocks inode_Blocks_o0
def inode_Blocks_c1_d (n : Nat) : SmV := smOps E_inode_Blocks inode_Blocks_o1
def inode_Blocks_c2_d (n : Nat) : SmV := smOps E_inode_Blocks inode_Blocks_o2
def inode_Blocks_c3_d (n : Nat) : SmV := smSeq [2] (inode_Blocks_c2_d n) smRet
def inode_Blocks_c4_d (n : Nat) : SmV := smOps E_inode_Blocks inode_Blocks_o3
def inode_Blocks_c5_d (n : Nat) : SmV := smOps E_inode_Blocks inode_Blocks_o4
def inode_Blocks_c6_d (n : Nat) : SmV := smSeq [2] (inode_Blocks_c5_d n) smRet
def inode_Blocks_c7_d (n : Nat) : SmV := smCond (.t 6) (inode_Blocks_c6_d n) smSkip
def inode_Blocks_c8_d (n : Nat) : SmV := smSeq [0, 6] (inode_Blocks_c4_d n) (inode_Blocks_c7_d n)
def inode_Blocks_c9_d (n : Nat) : SmV := smCond (.t 3) (inode_Blocks_c3_d n) (inode_Blocks_c8_d n)
def inode_Blocks_c10_d (n : Nat) : SmV := smSeq [0, 3] (inode_Blocks_c1_d n) (inode_Blocks_c9_d n)
def inode_Blocks_c11_d (n : Nat) : SmV := smBlock 0 (inode_Blocks_c10_d n)
def inode_Blocks_c12_d (n : Nat) : SmV := smOps E_inode_Blocks inode_Blocks_o5
def inode_Blocks_c13_d (n : Nat) : SmV := smSeq [2] (inode_Blocks_c12_d n) smRet
def inode_Blocks_c14_d (n : Nat) : SmV := smSeq [0] (inode_Blocks_c11_d n) (inode_Blocks_c13_d n)
def inode_Blocks_c15_d (n : Nat) : SmV := smSeq [0] (inode_Blocks_c0_d n) (inode_Blocks_c14_d n)
def R_inode_Blocks (n : Nat) (args : List Val) (h : Heap) : OptV := (inode_Blocks_c15_d n) A_inode_Blocks.fin (params 0 args) h
theorem R_inode_Blocks_eq (n : Nat) (a0 : Val) (h : Heap) : R_inode_Blocks n [a0] h = bnd (abin .lss a0 (.c (.i .i64 1))) fun v1 => cnd v1 (some ((.c (.i .i64 0)), h)) (bnd (abin .gtr a0 (.c (.i .i64 34304))) fun v2 => cnd v2 (some ((.c (.i .i64 134)), h)) (bnd (abin .add a0 (.c (.i .i64 256))) fun v3 => bnd (abin .sub v3 (.c (.i .i64 1))) fun v4 => bnd (abin .quo v4 (.c (.i .i64 256))) fun v5 => some (v5, h))) := by kernel_rfl
theorem K_inode_Blocks : FnK Try.prog 66 A_inode_Blocks E_inode_Blocks R_inode_Blocks := .mk' (sound0) Try.func66 (by kernel_rfl) (by intro n args h; kernel_rfl)
def S_inode_Blocks : Fun := tidy (Lim A_inode_Blocks E_inode_Blocks)
theorem S_inode_Blocks_ok : SOk Try.prog 66 S_inode_Blocks := K_inode_Blocks.sok
theorem S_inode_Blocks_flat {n : Nat} {args : List Val} {h h2 : Heap} {v : Val} (he : R_inode_Blocks n args (ro h) = some (v, h2)) (hf : v.flat = true) : S_inode_Blocks args h = some (v, h) := K_inode_Blocks.flat he hf
end Go.Proofs.Ytdgggnlbdoiloaa
end
noncomputable section
namespace Go.Proofs.Ytdgggnlbdoiloaa
open Go Go.Esc
set_option maxRecDepth 100000
def table_Raw_o0 : List AOper := [aO 2 (.box (.t 0)), aO 4 (.alloc (List.replicate 32 (.i .u8 0)))]
def table_Raw_c0 : ACode := .ops table_Raw_o0
def table_Raw_o1 : List AOper := [aO 5 (.alloc (List.replicate 32 (.i .u8 0)))]
def table_Raw_c1 : ACode := .ops table_Raw_o1
def table_Raw_o2 : List AOper := [aO 7 (.mv (.t 1)), aO 8 (.bin .lss (.t 7) (.v (.c (.i .i64 0)))), aO 9 (.mv (.t 8)), { dst := some 10, op := .mv (.t 1), guard := some (9, false) }, { dst := some 11, op := .bin .geq (.t 10) (.v (.c (.i .i64 8))), guard := some (9, false) }, aO 12 (.pick (.t 9) (.v (.c (.b true))) (.t 11))]
def table_Raw_c2 : ACode := .ops table_Raw_o2
def table_Raw_o3 : List AOper := [aO 13 (.loadN 32 (.t 5)), { dst := none, op := .storeN 32 (.t 4) (.t 13) }]
def table_Raw_c3 : ACode := .ops table_Raw_o3
def table_Raw_c4 : ACode := .seq [4] table_Raw_c3 .ret
def table_Raw_c5 : ACode := .cond (.t 12) table_Raw_c4 .skip
def table_Raw_c6 : ACode := .seq [1, 2, 4, 5, 12] table_Raw_c2 table_Raw_c5
def table_Raw_o4 : List AOper := [aO 14 (.mv (.v (.c (.i .i64 0))))]
def table_Raw_c7 : ACode := .ops table_Raw_o4
def table_Raw_o5 : List AOper := [aO 15 (.bin .lss (.t 14) (.v (.c (.i .i64 32))))]
def table_Raw_c8 : ACode := .ops table_Raw_o5
def table_Raw_c9 : ACode := .cond (.t 15) .skip (.exit 0)
def table_Raw_o6 : List AOper := [aO 16 (.mv (.t 14)), aO 6 (.mv (.t 16))]
def table_Raw_c10 : ACode := .ops table_Raw_o6
def table_Raw_o7 : List AOper := [aO 17 (.mv (.t 6)), aO 18 (.mv (.t 1)), aO 19 (.bin .mul (.t 18) (.v (.c (.i .i64 32)))), aO 20 (.mv (.t 6)), aO 21 (.bin .add (.t 19) (.t 20)), aO 22 (.iAddrA 256 1 (.t 2) (.t 21)), aO 23 (.load1 (.t 22)), aO 24 (.iAddrA 32 1 (.t 5) (.t 17)), { dst := none, op := .store1 (.t 24) (.t 23) }]
def table_Raw_c11 : ACode := .ops table_Raw_o7
def table_Raw_c12 : ACode := .seq [1, 2, 4, 5, 6, 14] table_Raw_c10 table_Raw_c11
def table_Raw_c13 : ACode := .block 1 table_Raw_c12
def table_Raw_o8 : List AOper := [aO 25 (.bin .add (.t 14) (.v (.c (.i .i64 1)))), aO 14 (.mv (.t 25))]
def table_Raw_c14 : ACode := .ops table_Raw_o8
def table_Raw_c15 : ACode := .seq [1, 2, 4, 5, 14] table_Raw_c13 table_Raw_c14
def table_Raw_c16 : ACode := .seq [1, 2, 4, 5, 14] table_Raw_c9 table_Raw_c15
def table_Raw_c17 : ACode := .seq [1, 2, 4, 5, 14, 15] table_Raw_c8 table_Raw_c16
def table_Raw_c18 : ACode := .loop [1, 2, 4, 5, 14] table_Raw_c17
def table_Raw_c19 : ACode := .block 0 table_Raw_c18
def table_Raw_c20 : ACode := .seq [1, 2, 4, 5, 14] table_Raw_c7 table_Raw_c19
def table_Raw_o9 : List AOper := [aO 26 (.loadN 32 (.t 5)), { dst := none, op := .storeN 32 (.t 4) (.t 26) }]
def table_Raw_c21 : ACode := .ops table_Raw_o9
def table_Raw_c22 : ACode := .seq [4] table_Raw_c21 .ret
def table_Raw_c23 : ACode := .seq [4, 5] table_Raw_c20 table_Raw_c22
def table_Raw_c24 : ACode := .seq [1, 2, 4, 5] table_Raw_c6 table_Raw_c23
def table_Raw_c25 : ACode := .seq [1, 2, 4, 5] table_Raw_c1 table_Raw_c24
def table_Raw_c26 : ACode := .seq [1, 2, 4] table_Raw_c0 table_Raw_c25
def A_table_Raw : AFn := ⟨table_Raw_c26, [.cellN 4 32]⟩
def E_table_Raw : Sums := disp0
def table_Raw_c0_d (n : Nat) : SmV := smOps E_table_Raw table_Raw_o0
def table_Raw_c1_d (n : Nat) : SmV := smOps E_table_Raw table_Raw_o1
def table_Raw_c2_d (n : Nat) : SmV := smOps E_table_Raw table_Raw_o2
def table_Raw_c3_d (n : Nat) : SmV := smOps E_table_Raw table_Raw_o3
def table_Raw_c4_d (n : Nat) : SmV := smSeq [4] (table_Raw_c3_d n) smRet
def table_Raw_c5_d (n : Nat) : SmV := smCond (.t 12) (table_Raw_c4_d n) smSkip
def table_Raw_c6_d (n : Nat) : SmV := smSeq [1, 2, 4, 5, 12] (table_Raw_c2_d n) (table_Raw_c5_d n)
def table_Raw_c7_d (n : Nat) : SmV := smOps E_table_Raw table_Raw_o4
def table_Raw_c8_d (n : Nat) : SmV := smOps E_table_Raw table_Raw_o5
def table_Raw_c9_d (n : Nat) : SmV := smCond (.t 15) smSkip (smExit 0)
def table_Raw_c10_d (n : Nat) : SmV := smOps E_table_Raw table_Raw_o6
def table_Raw_c11_d (n : Nat) : SmV := smOps E_table_Raw table_Raw_o7
def table_Raw_c12_d (n : Nat) : SmV := smSeq [1, 2, 4, 5, 6, 14] (table_Raw_c10_d n) (table_Raw_c11_d n)
def table_Raw_c13_d (n : Nat) : SmV := smBlock 1 (table_Raw_c12_d n)
def table_Raw_c14_d (n : Nat) : SmV := smOps E_table_Raw table_Raw_o8
def table_Raw_c15_d (n : Nat) : SmV := smSeq [1, 2, 4, 5, 14] (table_Raw_c13_d n) (table_Raw_c14_d n)
def table_Raw_c16_d (n : Nat) : SmV := smSeq [1, 2, 4, 5, 14] (table_Raw_c9_d n) (table_Raw_c15_d n)
def table_Raw_c17_d (n : Nat) : SmV := smSeq [1, 2, 4, 5, 14, 15] (table_Raw_c8_d n) (table_Raw_c16_d n)
def table_Raw_c18_d (n : Nat) : SmV := smLoop n [1, 2, 4, 5, 14] (table_Raw_c17_d n)
def table_Raw_c19_d (n : Nat) : SmV := smBlock 0 (table_Raw_c18_d n)
def table_Raw_c20_d (n : Nat) : SmV := smSeq [1, 2, 4, 5, 14] (table_Raw_c7_d n) (table_Raw_c19_d n)
def table_Raw_c21_d (n : Nat) : SmV := smOps E_table_Raw table_Raw_o9
def table_Raw_c22_d (n : Nat) : SmV := smSeq [4] (table_Raw_c21_d n) smRet
def table_Raw_c23_d (n : Nat) : SmV := smSeq [4, 5] (table_Raw_c20_d n) (table_Raw_c22_d n)
def table_Raw_c24_d (n : Nat) : SmV := smSeq [1, 2, 4, 5] (table_Raw_c6_d n) (table_Raw_c23_d n)
def table_Raw_c25_d (n : Nat) : SmV := smSeq [1, 2, 4, 5] (table_Raw_c1_d n) (table_Raw_c24_d n)
def table_Raw_c26_d (n : Nat) : SmV := smSeq [1, 2, 4] (table_Raw_c0_d n) (table_Raw_c25_d n)
def table_Raw_k0 (n : Nat) : AExit → Env → Heap → OptV := fun x e h => match x with | .normal => hold ((table_Raw_c22_d n) A_table_Raw.fin (e.keep [4, 5]) h) | .exit id => A_table_Raw.fin (.exit id) e h | .ret => A_table_Raw.fin .ret e h
def table_Raw_k1 (n : Nat) : AExit → Env → Heap → OptV := fun x e h => match x with | .exit i => bif Nat.beq i 0 then (table_Raw_k0 n) .normal e h else (table_Raw_k0 n) (.exit i) e h | .normal => (table_Raw_k0 n) .normal e h | .ret => (table_Raw_k0 n) .ret e h
def table_Raw_l0 (n m : Nat) (x1 x2 x4 x5 x14 : Val) (h : Heap) : OptV := around (table_Raw_c17_d n) [1, 2, 4, 5, 14] (table_Raw_k1 n) m [(1, x1), (2, x2), (4, x4), (5, x5), (14, x14)] h
def R_table_Raw (n : Nat) (args : List Val) (h : Heap) : OptV := (table_Raw_c26_d n) A_table_Raw.fin (params 0 args) h
theorem R_table_Raw_eq (n : Nat) (a0 a1 : Val) (h : Heap) : R_table_Raw n [a0, a1] h = bnd (cells? a0) fun c1 => bnd (abin .lss a1 (.c (.i .i64 0))) fun v2 => bnd (gd v2 false (some (a1, (((h ++ [some (Row.mk (c1) true)]) ++ [some (Row.mk (List.replicate 32 (.i .u8 0)) true)]) ++ [some (Row.mk (List.replicate 32 (.i .u8 0)) true)]))) (some (.no, (((h ++ [some (Row.mk (c1) true)]) ++ [some (Row.mk (List.replicate 32 (.i .u8 0)) true)]) ++ [some (Row.mk (List.replicate 32 (.i .u8 0)) true)])))) fun p3 => bnd (gd v2 false (bnd (abin .geq p3.1 (.c (.i .i64 8))) fun v4 => some (v4, p3.2)) (some (.no, p3.2))) fun p5 => bnd (apick v2 (.c (.b true)) p5.1) fun v6 => cnd v6 (bnd (aloadN p5.2 32 ((.c (.p (((h ++ [some (Row.mk (c1) true)]) ++ [some (Row.mk (List.replicate 32 (.i .u8 0)) true)])).length 0)))) fun v7 => bnd (astoreN p5.2 32 ((.c (.p ((h ++ [some (Row.mk (c1) true)])).length 0))) v7) fun h8 => mp (aloadN h8 32 ((.c (.p ((h ++ [some (Row.mk (c1) true)])).length 0)))) fun v => (v, h8)) (table_Raw_l0 n n a1 ((.c (.p h.length 0))) ((.c (.p ((h ++ [some (Row.mk (c1) true)])).length 0))) ((.c (.p (((h ++ [some (Row.mk (c1) true)]) ++ [some (Row.mk (List.replicate 32 (.i .u8 0)) true)])).length 0))) (.c (.i .i64 0)) p5.2) := by kernel_rfl
theorem table_Raw_l0_eq (n m : Nat) (x1 x2 x4 x5 x14 : Val) (h : Heap) : table_Raw_l0 n (m + 1) x1 x2 x4 x5 x14 h = bnd (abin .lss x14 (.c (.i .i64 32))) fun v9 => cnd v9 (bnd (abin .mul x1 (.c (.i .i64 32))) fun v10 => bnd (abin .add v10 x14) fun v11 => bnd (aiAddrA 256 1 x2 v11) fun v12 => bnd (aload1 h v12) fun v13 => bnd (aiAddrA 32 1 x5 x14) fun v14 => bnd (astore1 h v14 v13) fun h15 => bnd (abin .add x14 (.c (.i .i64 1))) fun v16 => table_Raw_l0 n m x1 x2 x4 x5 v16 h15) (bnd (aloadN h 32 x5) fun v17 => bnd (astoreN h 32 x4 v17) fun h18 => mp (aloadN h18 32 x4) fun v => (v, h18)) := by kernel_rfl
theorem K_table_Raw : FnK Try.prog 105 A_table_Raw E_table_Raw R_table_Raw := .mk' (sound0) Try.func105 (by kernel_rfl) (by intro n args h; kernel_rfl)
def S_table_Raw : Fun := tidy (Lim A_table_Raw E_table_Raw)
theorem S_table_Raw_ok : SOk Try.prog 105 S_table_Raw := K_table_Raw.sok
theorem S_table_Raw_flat {n : Nat} {args : List Val} {h h2 : Heap} {v : Val} (he : R_table_Raw n args (ro h) = some (v, h2)) (hf : v.flat = true) : S_table_Raw args h = some (v, h) := K_table_Raw.flat he hf
def table_Get_o0 : List AOper := [aO 2 (.box (.t 0)), aO 4 (.alloc ([.i .i64 0, .i .i64 0, .i .i64 0, .i .i64 0, .i .i64 0, .i .i64 0, .i .i64 0, .i .i64 0, .i .i64 0, .i .i64 0, .i .i64 0])), aO 5 (.mv (.v (.c (.b false))))]
def table_Get_c0 : ACode := .ops table_Get_o0
def table_Get_o1 : List AOper := [aO 6 (.mv (.t 1)), aO 7 (.bin .lss (.t 6) (.v (.c (.i .i64 0)))), aO 8 (.mv (.t 7)), { dst := some 9, op := .mv (.t 1), guard := some (8, false) }, { dst := some 10, op := .bin .geq (.t 9) (.v (.c (.i .i64 8))), guard := some (8, false) }, aO 11 (.pick (.t 8) (.v (.c (.b true))) (.t 10))]
def table_Get_c1 : ACode := .ops table_Get_o1
def table_Get_o2 : List AOper := [aO 12 (.build ([.i .i64 0, .i .i64 0, .i .i64 0, .i .i64 0, .i .i64 0, .i .i64 0, .i .i64 0, .i .i64 0, .i .i64 0, .i .i64 0, .i .i64 0]) []), { dst := none, op := .storeN 11 (.t 4) (.t 12) }, aO 5 (.mv (.v (.c (.b false))))]
def table_Get_c2 : ACode := .ops table_Get_o2
def table_Get_c3 : ACode := .seq [4, 5] table_Get_c2 .ret
def table_Get_c4 : ACode := .cond (.t 11) table_Get_c3 .skip
def table_Get_c5 : ACode := .seq [1, 2, 4, 11] table_Get_c1 table_Get_c4
def table_Get_o3 : List AOper := [aO 13 (.loadN 256 (.t 2)), aO 14 (.mv (.t 1)), aO 15 (.call 105 [(.t 13), (.t 14)]), aO 16 (.call 104 [(.t 15)]), aO 17 (.ext (.t 16) 0), aO 18 (.ext (.t 16) 1), { dst := none, op := .storeN 11 (.t 4) (.t 17) }, aO 5 (.mv (.t 18))]
def table_Get_c6 : ACode := .ops table_Get_o3
def table_Get_c7 : ACode := .seq [4, 5] table_Get_c6 .ret
def table_Get_c8 : ACode := .seq [1, 2, 4] table_Get_c5 table_Get_c7
def table_Get_c9 : ACode := .seq [1, 2, 4] table_Get_c0 table_Get_c8
def A_table_Get : AFn := ⟨table_Get_c9, [.cellN 4 11, .tmp 5]⟩
def E_table_Get : Sums := disp 105 S_table_Raw (disp 104 S_inode_Clean disp0)
def table_Get_c0_d (n : Nat) : SmV := smOps E_table_Get table_Get_o0
def table_Get_c1_d (n : Nat) : SmV := smOps E_table_Get table_Get_o1
def table_Get_c2_d (n : Nat) : SmV := smOps E_table_Get table_Get_o2
def table_Get_c3_d (n : Nat) : SmV := smSeq [4, 5] (table_Get_c2_d n) smRet
def table_Get_c4_d (n : Nat) : SmV := smCond (.t 11) (table_Get_c3_d n) smSkip
def table_Get_c5_d (n : Nat) : SmV := smSeq [1, 2, 4, 11] (table_Get_c1_d n) (table_Get_c4_d n)
def table_Get_c6_d (n : Nat) : SmV := smOps E_table_Get table_Get_o3
def table_Get_c7_d (n : Nat) : SmV := smSeq [4, 5] (table_Get_c6_d n) smRet
def table_Get_c8_d (n : Nat) : SmV := smSeq [1, 2, 4] (table_Get_c5_d n) (table_Get_c7_d n)
def table_Get_c9_d (n : Nat) : SmV := smSeq [1, 2, 4] (table_Get_c0_d n) (table_Get_c8_d n)
def R_table_Get (n : Nat) (args : List Val) (h : Heap) : OptV := (table_Get_c9_d n) A_table_Get.fin (params 0 args) h
theorem R_table_Get_eq (n : Nat) (a0 a1 : Val) (h : Heap) : R_table_Get n [a0, a1] h = bnd (cells? a0) fun c1 => bnd (abin .lss a1 (.c (.i .i64 0))) fun v2 => bnd (gd v2 false (some (a1, ((h ++ [some (Row.mk (c1) true)]) ++ [some (Row.mk ([.i .i64 0, .i .i64 0, .i .i64 0, .i .i64 0, .i .i64 0, .i .i64 0, .i .i64 0, .i .i64 0, .i .i64 0, .i .i64 0, .i .i64 0]) true)]))) (some (.no, ((h ++ [some (Row.mk (c1) true)]) ++ [some (Row.mk ([.i .i64 0, .i .i64 0, .i .i64 0, .i .i64 0, .i .i64 0, .i .i64 0, .i .i64 0, .i .i64 0, .i .i64 0, .i .i64 0, .i .i64 0]) true)])))) fun p3 => bnd (gd v2 false (bnd (abin .geq p3.1 (.c (.i .i64 8))) fun v4 => some (v4, p3.2)) (some (.no, p3.2))) fun p5 => bnd (apick v2 (.c (.b true)) p5.1) fun v6 => cnd v6 (bnd (afill ([.i .i64 0, .i .i64 0, .i .i64 0, .i .i64 0, .i .i64 0, .i .i64 0, .i .i64 0, .i .i64 0, .i .i64 0, .i .i64 0, .i .i64 0]) []) fun c7 => bnd (astoreN p5.2 11 ((.c (.p ((h ++ [some (Row.mk (c1) true)])).length 0))) ((.a c7))) fun h8 => tupN [aloadN h8 11 ((.c (.p ((h ++ [some (Row.mk (c1) true)])).length 0))), some (.c (.b false))] h8) (bnd (aloadN p5.2 256 ((.c (.p h.length 0)))) fun v9 => bnd (S_table_Raw [v9, a1] p5.2) fun p10 => bnd (S_inode_Clean [p10.1] p10.2) fun p11 => bnd (aext p11.1 0) fun v12 => bnd (aext p11.1 1) fun v13 => bnd (astoreN p11.2 11 ((.c (.p ((h ++ [some (Row.mk (c1) true)])).length 0))) v12) fun h14 => tupN [aloadN h14 11 ((.c (.p ((h ++ [some (Row.mk (c1) true)])).length 0))), some v13] h14) := by kernel_rfl
theorem K_table_Get : FnK Try.prog 56 A_table_Get E_table_Get R_table_Get := .mk' (sound1 S_table_Raw_ok (sound1 S_inode_Clean_ok sound0)) Try.func56 (by kernel_rfl) (by intro n args h; kernel_rfl)
def S_table_Get : Fun := tidy (Lim A_table_Get E_table_Get)
theorem S_table_Get_ok : SOk Try.prog 56 S_table_Get := K_table_Get.sok
theorem S_table_Get_flat {n : Nat} {args : List Val} {h h2 : Heap} {v : Val} (he : R_table_Get n args (ro h) = some (v, h2)) (hf : v.flat = true) : S_table_Get args h = some (v, h) := K_table_Get.flat he hf
end Go.Proofs.Ytdgggnlbdoiloaa
end
noncomputable section
namespace Go.Proofs.Ytdgggnlbdoiloaa
open Go Go.Esc
set_option maxRecDepth 100000
def view_Of_o0 : List AOper := [aO 2 (.alloc ([.i .i64 0, .i .i64 0, .i .u64 0, .nf])), aO 3 (.mv (.v (.c (.i .i64 0))))]
def view_Of_c0 : ACode := .ops view_Of_o0
def view_Of_o1 : List AOper := [aO 7 (.mv (.t 0)), aO 8 (.len (.t 7)), aO 9 (.bin .eql (.t 8) (.v (.c (.i .i64 0))))]
def view_Of_c1 : ACode := .ops view_Of_o1
def view_Of_o2 : List AOper := [aO 10 (.build ([.i .i64 0, .i .i64 0, .i .u64 0, .nf]) []), { dst := none, op := .storeN 4 (.t 2) (.t 10) }, aO 3 (.mv (.v (.c (.i .i64 13))))]
def view_Of_c2 : ACode := .ops view_Of_o2
def view_Of_c3 : ACode := .seq [2, 3] view_Of_c2 .ret
def view_Of_c4 : ACode := .cond (.t 9) view_Of_c3 .skip
def view_Of_c5 : ACode := .seq [0, 2, 9] view_Of_c1 view_Of_c4
def view_Of_o3 : List AOper := [aO 12 (.mv (.t 0)), aO 13 (.iAddrL 256 (.t 12) (.v (.c (.i .i64 0)))), aO 14 (.loadN 256 (.t 13)), aO 15 (.call 53 [(.t 14)]), aO 11 (.mv (.t 15)), aO 16 (.ext (.t 11) 0), aO 17 (.ext (.t 11) 1), aO 4 (.alloc ([.i .i64 0, .i .i64 0, .i .u64 0])), { dst := none, op := .storeN 3 (.t 4) (.t 16) }, aO 5 (.mv (.t 17))]
def view_Of_c6 : ACode := .ops view_Of_o3
def view_Of_o4 : List AOper := [aO 18 (.mv (.t 5)), aO 19 (.bin .neq (.t 18) (.v (.c (.i .i64 0)))), aO 20 (.mv (.t 19)), { dst := some 21, op := .fAddr (.t 4) 0, guard := some (20, false) }, { dst := some 22, op := .load1 (.t 21), guard := some (20, false) }, { dst := some 23, op := .mv (.t 0), guard := some (20, false) }, { dst := some 24, op := .len (.t 23), guard := some (20, false) }, { dst := some 25, op := .bin .neq (.t 22) (.t 24), guard := some (20, false) }, aO 26 (.pick (.t 20) (.v (.c (.b true))) (.t 25))]
def view_Of_c7 : ACode := .ops view_Of_o4
def view_Of_o5 : List AOper := [aO 27 (.build ([.i .i64 0, .i .i64 0, .i .u64 0, .nf]) []), { dst := none, op := .storeN 4 (.t 2) (.t 27) }, aO 3 (.mv (.v (.c (.i .i64 13))))]
def view_Of_c8 : ACode := .ops view_Of_o5
def view_Of_c9 : ACode := .seq [2, 3] view_Of_c8 .ret
def view_Of_c10 : ACode := .cond (.t 26) view_Of_c9 .skip
def view_Of_c11 : ACode := .seq [0, 2, 4, 26] view_Of_c7 view_Of_c10
def view_Of_o6 : List AOper := [aO 28 (.buildSl 256 0 ([]) []), aO 29 (.mv (.t 0)), aO 30 (.app 256 (.t 28) (.t 29)), aO 6 (.alloc ([.ns])), { dst := none, op := .store1 (.t 6) (.t 30) }]
def view_Of_c12 : ACode := .ops view_Of_o6
def view_Of_o7 : List AOper := [aO 31 (.loadN 3 (.t 4)), aO 32 (.mkf 54 [(.t 6)]), aO 33 (.build ([.i .i64 0, .i .i64 0, .i .u64 0, .nf]) [(0, 3, (.t 31)), (3, 1, (.t 32))]), { dst := none, op := .storeN 4 (.t 2) (.t 33) }, aO 3 (.mv (.v (.c (.i .i64 0))))]
def view_Of_c13 : ACode := .ops view_Of_o7
def view_Of_c14 : ACode := .seq [2, 3] view_Of_c13 .ret
def view_Of_c15 : ACode := .seq [2, 4, 6] view_Of_c12 view_Of_c14
def view_Of_c16 : ACode := .seq [0, 2, 4] view_Of_c11 view_Of_c15
def view_Of_c17 : ACode := .seq [0, 2, 4, 5] view_Of_c6 view_Of_c16
def view_Of_c18 : ACode := .seq [0, 2] view_Of_c5 view_Of_c17
def view_Of_c19 : ACode := .seq [0, 2] view_Of_c0 view_Of_c18
def A_view_Of : AFn := ⟨view_Of_c19, [.cellN 2 4, .tmp 3]⟩
def E_view_Of : Sums := disp 53 S_super_Get disp0
def view_Of_c0_d (n : Nat) : SmV := smOps E_view_Of view_Of_o0
def view_Of_c1_d (n : Nat) : SmV := smOps E_view_Of view_Of_o1
def view_Of_c2_d (n : Nat) : SmV := smOps E_view_Of view_Of_o2
def view_Of_c3_d (n : Nat) : SmV := smSeq [2, 3] (view_Of_c2_d n) smRet
def view_Of_c4_d (n : Nat) : SmV := smCond (.t 9) (view_Of_c3_d n) smSkip
def view_Of_c5_d (n : Nat) : SmV := smSeq [0, 2, 9] (view_Of_c1_d n) (view_Of_c4_d n)
def view_Of_c6_d (n : Nat) : SmV := smOps E_view_Of view_Of_o3
def view_Of_c7_d (n : Nat) : SmV := smOps E_view_Of view_Of_o4
def view_Of_c8_d (n : Nat) : SmV := smOps E_view_Of view_Of_o5
def view_Of_c9_d (n : Nat) : SmV := smSeq [2, 3] (view_Of_c8_d n) smRet
def view_Of_c10_d (n : Nat) : SmV := smCond (.t 26) (view_Of_c9_d n) smSkip
def view_Of_c11_d (n : Nat) : SmV := smSeq [0, 2, 4, 26] (view_Of_c7_d n) (view_Of_c10_d n)
def view_Of_c12_d (n : Nat) : SmV := smOps E_view_Of view_Of_o6
def view_Of_c13_d (n : Nat) : SmV := smOps E_view_Of view_Of_o7
def view_Of_c14_d (n : Nat) : SmV := smSeq [2, 3] (view_Of_c13_d n) smRet
def view_Of_c15_d (n : Nat) : SmV := smSeq [2, 4, 6] (view_Of_c12_d n) (view_Of_c14_d n)
def view_Of_c16_d (n : Nat) : SmV := smSeq [0, 2, 4] (view_Of_c11_d n) (view_Of_c15_d n)
def view_Of_c17_d (n : Nat) : SmV := smSeq [0, 2, 4, 5] (view_Of_c6_d n) (view_Of_c16_d n)
def view_Of_c18_d (n : Nat) : SmV := smSeq [0, 2] (view_Of_c5_d n) (view_Of_c17_d n)
def view_Of_c19_d (n : Nat) : SmV := smSeq [0, 2] (view_Of_c0_d n) (view_Of_c18_d n)
def R_view_Of (n : Nat) (args : List Val) (h : Heap) : OptV := (view_Of_c19_d n) A_view_Of.fin (params 0 args) h
theorem R_view_Of_eq (n : Nat) (a0 : Val) (h : Heap) : R_view_Of n [a0] h = bnd (alen a0) fun v1 => bnd (abin .eql v1 (.c (.i .i64 0))) fun v2 => cnd v2 (bnd (afill ([.i .i64 0, .i .i64 0, .i .u64 0, .nf]) []) fun c3 => bnd (astoreN ((h ++ [some (Row.mk ([.i .i64 0, .i .i64 0, .i .u64 0, .nf]) true)])) 4 ((.c (.p h.length 0))) ((.a c3))) fun h4 => tupN [aloadN h4 4 ((.c (.p h.length 0))), some (.c (.i .i64 13))] h4) (bnd (aiAddrL 256 a0 (.c (.i .i64 0))) fun v5 => bnd (aloadN ((h ++ [some (Row.mk ([.i .i64 0, .i .i64 0, .i .u64 0, .nf]) true)])) 256 v5) fun v6 => bnd (S_super_Get [v6] ((h ++ [some (Row.mk ([.i .i64 0, .i .i64 0, .i .u64 0, .nf]) true)]))) fun p7 => bnd (aext p7.1 0) fun v8 => bnd (aext p7.1 1) fun v9 => bnd (astoreN ((p7.2 ++ [some (Row.mk ([.i .i64 0, .i .i64 0, .i .u64 0]) true)])) 3 ((.c (.p p7.2.length 0))) v8) fun h10 => bnd (abin .neq v9 (.c (.i .i64 0))) fun v11 => bnd (gd v11 false (bnd (afAddr ((.c (.p p7.2.length 0))) 0) fun v12 => some (v12, h10)) (some (.no, h10))) fun p13 => bnd (gd v11 false (bnd (aload1 p13.2 p13.1) fun v14 => some (v14, p13.2)) (some (.no, p13.2))) fun p15 => bnd (gd v11 false (some (a0, p15.2)) (some (.no, p15.2))) fun p16 => bnd (gd v11 false (bnd (alen p16.1) fun v17 => some (v17, p16.2)) (some (.no, p16.2))) fun p18 => bnd (gd v11 false (bnd (abin .neq p15.1 p18.1) fun v19 => some (v19, p18.2)) (some (.no, p18.2))) fun p20 => bnd (apick v11 (.c (.b true)) p20.1) fun v21 => cnd v21 (bnd (afill ([.i .i64 0, .i .i64 0, .i .u64 0, .nf]) []) fun c22 => bnd (astoreN p20.2 4 ((.c (.p h.length 0))) ((.a c22))) fun h23 => tupN [aloadN h23 4 ((.c (.p h.length 0))), some (.c (.i .i64 13))] h23) (bnd (afill ([]) []) fun c24 => bnd (aapp ((p20.2 ++ [some (Row.mk (c24) true)])) 256 ((.c (.sl p20.2.length 0 0 256))) a0) fun p25 => bnd (astore1 ((p25.2 ++ [some (Row.mk ([.ns]) true)])) ((.c (.p p25.2.length 0))) p25.1) fun h26 => bnd (aloadN h26 3 ((.c (.p p7.2.length 0)))) fun v27 => bnd (amkf 54 [(.c (.p p25.2.length 0))]) fun v28 => bnd (afill ([.i .i64 0, .i .i64 0, .i .u64 0, .nf]) [(0, 3, v27), (3, 1, v28)]) fun c29 => bnd (astoreN h26 4 ((.c (.p h.length 0))) ((.a c29))) fun h30 => tupN [aloadN h30 4 ((.c (.p h.length 0))), some (.c (.i .i64 0))] h30)) := by kernel_rfl
theorem K_view_Of : FnK Try.prog 15 A_view_Of E_view_Of R_view_Of := .mk' (sound1 S_super_Get_ok sound0) Try.func15 (by kernel_rfl) (by intro n args h; kernel_rfl)
def S_view_Of : Fun := Lim A_view_Of E_view_Of
theorem S_view_Of_ok : SOk Try.prog 15 S_view_Of := K_view_Of.ok
theorem S_view_Of_of {n : Nat} {args : List Val} {h : Heap} {p : Val × Heap} (he : R_view_Of n args h = some p) : S_view_Of args h = some p := K_view_Of.of he
def view_View_there_o0 : List AOper := [aO 2 (.box (.t 0)), aO 4 (.mv (.v (.c (.b false))))]
def view_View_there_c0 : ACode := .ops view_View_there_o0
def view_View_there_o1 : List AOper := [aO 5 (.fAddr (.t 2) 3), aO 6 (.load1 (.t 5)), aO 7 (.eqN true true (.t 6)), aO 8 (.mv (.t 7)), { dst := some 9, op := .mv (.t 1), guard := some (8, true) }, { dst := some 10, op := .bin .geq (.t 9) (.v (.c (.i .i64 0))), guard := some (8, true) }, aO 11 (.pick (.t 8) (.t 10) (.v (.c (.b false)))), aO 12 (.mv (.t 11)), { dst := some 13, op := .mv (.t 1), guard := some (12, true) }, { dst := some 14, op := .fAddr (.t 2) 0, guard := some (12, true) }, { dst := some 15, op := .fAddr (.t 14) 0, guard := some (12, true) }, { dst := some 16, op := .load1 (.t 15), guard := some (12, true) }, { dst := some 17, op := .bin .lss (.t 13) (.t 16), guard := some (12, true) }, aO 18 (.pick (.t 12) (.t 17) (.v (.c (.b false)))), aO 4 (.mv (.t 18))]
def view_View_there_c1 : ACode := .ops view_View_there_o1
def view_View_there_c2 : ACode := .seq [4] view_View_there_c1 .ret
def view_View_there_c3 : ACode := .seq [1, 2] view_View_there_c0 view_View_there_c2
def A_view_View_there : AFn := ⟨view_View_there_c3, [.tmp 4]⟩
def E_view_View_there : Sums := disp0
def view_View_there_c0_d (n : Nat) : SmV := smOps E_view_View_there view_View_there_o0
def view_View_there_c1_d (n : Nat) : SmV := smOps E_view_View_there view_View_there_o1
def view_View_there_c2_d (n : Nat) : SmV := smSeq [4] (view_View_there_c1_d n) smRet
def view_View_there_c3_d (n : Nat) : SmV := smSeq [1, 2] (view_View_there_c0_d n) (view_View_there_c2_d n)
def R_view_View_there (n : Nat) (args : List Val) (h : Heap) : OptV := (view_View_there_c3_d n) A_view_View_there.fin (params 0 args) h
theorem R_view_View_there_eq (n : Nat) (a0 a1 : Val) (h : Heap) : R_view_View_there n [a0, a1] h = bnd (cells? a0) fun c1 => bnd (afAddr ((.c (.p h.length 0))) 3) fun v2 => bnd (aload1 ((h ++ [some (Row.mk (c1) true)])) v2) fun v3 => bnd (aeqN true true v3) fun v4 => bnd (gd v4 true (some (a1, (h ++ [some (Row.mk (c1) true)]))) (some (.no, (h ++ [some (Row.mk (c1) true)])))) fun p5 => bnd (gd v4 true (bnd (abin .geq p5.1 (.c (.i .i64 0))) fun v6 => some (v6, p5.2)) (some (.no, p5.2))) fun p7 => bnd (apick v4 p7.1 (.c (.b false))) fun v8 => bnd (gd v8 true (some (a1, p7.2)) (some (.no, p7.2))) fun p9 => bnd (gd v8 true (bnd (afAddr ((.c (.p h.length 0))) 0) fun v10 => some (v10, p9.2)) (some (.no, p9.2))) fun p11 => bnd (gd v8 true (bnd (afAddr p11.1 0) fun v12 => some (v12, p11.2)) (some (.no, p11.2))) fun p13 => bnd (gd v8 true (bnd (aload1 p13.2 p13.1) fun v14 => some (v14, p13.2)) (some (.no, p13.2))) fun p15 => bnd (gd v8 true (bnd (abin .lss p9.1 p15.1) fun v16 => some (v16, p15.2)) (some (.no, p15.2))) fun p17 => bnd (apick v8 p17.1 (.c (.b false))) fun v18 => some (v18, p17.2) := by kernel_rfl
theorem K_view_View_there : FnK Try.prog 76 A_view_View_there E_view_View_there R_view_View_there := .mk' (sound0) Try.func76 (by kernel_rfl) (by intro n args h; kernel_rfl)
def S_view_View_there : Fun := tidy (Lim A_view_View_there E_view_View_there)
theorem S_view_View_there_ok : SOk Try.prog 76 S_view_View_there := K_view_View_there.sok
theorem S_view_View_there_flat {n : Nat} {args : List Val} {h h2 : Heap} {v : Val} (he : R_view_View_there n args (ro h) = some (v, h2)) (hf : v.flat = true) : S_view_View_there args h = some (v, h) := K_view_View_there.flat he hf
def view_Of_1_o0 : List AOper := [aO 3 (.alloc (List.replicate 256 (.i .u8 0)))]
def view_Of_1_c0 : ACode := .ops view_Of_1_o0
def view_Of_1_o1 : List AOper := [aO 4 (.load1 (.t 1)), aO 5 (.mv (.t 0)), aO 6 (.iAddrL 256 (.t 4) (.t 5)), aO 7 (.loadN 256 (.t 6)), { dst := none, op := .storeN 256 (.t 3) (.t 7) }]
def view_Of_1_c1 : ACode := .ops view_Of_1_o1
def view_Of_1_c2 : ACode := .seq [3] view_Of_1_c1 .ret
def view_Of_1_c3 : ACode := .seq [0, 1, 3] view_Of_1_c0 view_Of_1_c2
def A_view_Of_1 : AFn := ⟨view_Of_1_c3, [.cellN 3 256]⟩
def E_view_Of_1 : Sums := disp0
def view_Of_1_c0_d (n : Nat) : SmV := smOps E_view_Of_1 view_Of_1_o0
def view_Of_1_c1_d (n : Nat) : SmV := smOps E_view_Of_1 view_Of_1_o1
def view_Of_1_c2_d (n : Nat) : SmV := smSeq [3] (view_Of_1_c1_d n) smRet
def view_Of_1_c3_d (n : Nat) : SmV := smSeq [0, 1, 3] (view_Of_1_c0_d n) (view_Of_1_c2_d n)
def R_view_Of_1 (n : Nat) (args : List Val) (h : Heap) : OptV := (view_Of_1_c3_d n) A_view_Of_1.fin (params 0 args) h
theorem R_view_Of_1_eq (n : Nat) (a0 a1 : Val) (h : Heap) : R_view_Of_1 n [a0, a1] h = bnd (aload1 ((h ++ [some (Row.mk (List.replicate 256 (.i .u8 0)) true)])) a1) fun v1 => bnd (aiAddrL 256 v1 a0) fun v2 => bnd (aloadN ((h ++ [some (Row.mk (List.replicate 256 (.i .u8 0)) true)])) 256 v2) fun v3 => bnd (astoreN ((h ++ [some (Row.mk (List.replicate 256 (.i .u8 0)) true)])) 256 ((.c (.p h.length 0))) v3) fun h4 => mp (aloadN h4 256 ((.c (.p h.length 0)))) fun v => (v, h4) := by kernel_rfl
theorem K_view_Of_1 : FnK Try.prog 54 A_view_Of_1 E_view_Of_1 R_view_Of_1 := .mk' (sound0) Try.func54 (by kernel_rfl) (by intro n args h; kernel_rfl)
def S_view_Of_1 : Fun := tidy (Lim A_view_Of_1 E_view_Of_1)
theorem S_view_Of_1_ok : SOk Try.prog 54 S_view_Of_1 := K_view_Of_1.sok
theorem S_view_Of_1_flat {n : Nat} {args : List Val} {h h2 : Heap} {v : Val} (he : R_view_Of_1 n args (ro h) = some (v, h2)) (hf : v.flat = true) : S_view_Of_1 args h = some (v, h) := K_view_Of_1.flat he hf
def view_View_Block__Of_1_o0 : List AOper := [aO 2 (.box (.t 0)), aO 4 (.alloc (List.replicate 256 (.i .u8 0)))]
def view_View_Block__Of_1_c0 : ACode := .ops view_View_Block__Of_1_o0
def view_View_Block__Of_1_o1 : List AOper := [aO 5 (.loadN 4 (.t 2)), aO 6 (.mv (.t 1)), aO 7 (.call 76 [(.t 5), (.t 6)]), aO 8 (.un .not (.t 7))]
def view_View_Block__Of_1_c1 : ACode := .ops view_View_Block__Of_1_o1
def view_View_Block__Of_1_o2 : List AOper := [aO 9 (.build (List.replicate 256 (.i .u8 0)) []), { dst := none, op := .storeN 256 (.t 4) (.t 9) }]
def view_View_Block__Of_1_c2 : ACode := .ops view_View_Block__Of_1_o2
def view_View_Block__Of_1_c3 : ACode := .seq [4] view_View_Block__Of_1_c2 .ret
def view_View_Block__Of_1_c4 : ACode := .cond (.t 8) view_View_Block__Of_1_c3 .skip
def view_View_Block__Of_1_c5 : ACode := .seq [1, 2, 4, 8] view_View_Block__Of_1_c1 view_View_Block__Of_1_c4
def view_View_Block__Of_1_o3 : List AOper := [aO 10 (.fAddr (.t 2) 3), aO 11 (.load1 (.t 10)), aO 12 (.mv (.t 1)), aO 13 (.callV (.t 11) [(.t 12)]), { dst := none, op := .storeN 256 (.t 4) (.t 13) }]
def view_View_Block__Of_1_c6 : ACode := .ops view_View_Block__Of_1_o3
def view_View_Block__Of_1_c7 : ACode := .seq [4] view_View_Block__Of_1_c6 .ret
def view_View_Block__Of_1_c8 : ACode := .seq [1, 2, 4] view_View_Block__Of_1_c5 view_View_Block__Of_1_c7
def view_View_Block__Of_1_c9 : ACode := .seq [1, 2, 4] view_View_Block__Of_1_c0 view_View_Block__Of_1_c8
def A_view_View_Block__Of_1 : AFn := ⟨view_View_Block__Of_1_c9, [.cellN 4 256]⟩
def E_view_View_Block__Of_1 : Sums := disp 76 S_view_View_there (disp 54 S_view_Of_1 disp0)
def view_View_Block__Of_1_c0_d (n : Nat) : SmV := smOps E_view_View_Block__Of_1 view_View_Block__Of_1_o0
def view_View_Block__Of_1_c1_d (n : Nat) : SmV := smOps E_view_View_Block__Of_1 view_View_Block__Of_1_o1
def view_View_Block__Of_1_c2_d (n : Nat) : SmV := smOps E_view_View_Block__Of_1 view_View_Block__Of_1_o2
def view_View_Block__Of_1_c3_d (n : Nat) : SmV := smSeq [4] (view_View_Block__Of_1_c2_d n) smRet
def view_View_Block__Of_1_c4_d (n : Nat) : SmV := smCond (.t 8) (view_View_Block__Of_1_c3_d n) smSkip
def view_View_Block__Of_1_c5_d (n : Nat) : SmV := smSeq [1, 2, 4, 8] (view_View_Block__Of_1_c1_d n) (view_View_Block__Of_1_c4_d n)
def view_View_Block__Of_1_c6_d (n : Nat) : SmV := smOps E_view_View_Block__Of_1 view_View_Block__Of_1_o3
def view_View_Block__Of_1_c7_d (n : Nat) : SmV := smSeq [4] (view_View_Block__Of_1_c6_d n) smRet
def view_View_Block__Of_1_c8_d (n : Nat) : SmV := smSeq [1, 2, 4] (view_View_Block__Of_1_c5_d n) (view_View_Block__Of_1_c7_d n)
def view_View_Block__Of_1_c9_d (n : Nat) : SmV := smSeq [1, 2, 4] (view_View_Block__Of_1_c0_d n) (view_View_Block__Of_1_c8_d n)
def R_view_View_Block__Of_1 (n : Nat) (args : List Val) (h : Heap) : OptV := (view_View_Block__Of_1_c9_d n) A_view_View_Block__Of_1.fin (params 0 args) h
theorem R_view_View_Block__Of_1_eq (n : Nat) (a0 a1 : Val) (h : Heap) : R_view_View_Block__Of_1 n [a0, a1] h = bnd (cells? a0) fun c1 => bnd (aloadN (((h ++ [some (Row.mk (c1) true)]) ++ [some (Row.mk (List.replicate 256 (.i .u8 0)) true)])) 4 ((.c (.p h.length 0)))) fun v2 => bnd (S_view_View_there [v2, a1] (((h ++ [some (Row.mk (c1) true)]) ++ [some (Row.mk (List.replicate 256 (.i .u8 0)) true)]))) fun p3 => bnd (aun .not p3.1) fun v4 => cnd v4 (bnd (afill (List.replicate 256 (.i .u8 0)) []) fun c5 => bnd (astoreN p3.2 256 ((.c (.p ((h ++ [some (Row.mk (c1) true)])).length 0))) ((.a c5))) fun h6 => mp (aloadN h6 256 ((.c (.p ((h ++ [some (Row.mk (c1) true)])).length 0)))) fun v => (v, h6)) (bnd (afAddr ((.c (.p h.length 0))) 3) fun v7 => bnd (aload1 p3.2 v7) fun v8 => bnd (callv E_view_View_Block__Of_1 v8 [a1] p3.2) fun p9 => bnd (astoreN p9.2 256 ((.c (.p ((h ++ [some (Row.mk (c1) true)])).length 0))) p9.1) fun h10 => mp (aloadN h10 256 ((.c (.p ((h ++ [some (Row.mk (c1) true)])).length 0)))) fun v => (v, h10)) := by kernel_rfl
theorem K_view_View_Block__Of_1 : FnK Try.prog 38 A_view_View_Block__Of_1 E_view_View_Block__Of_1 R_view_View_Block__Of_1 := .mk' (sound1 S_view_View_there_ok (sound1 S_view_Of_1_ok sound0)) Try.func38 (by kernel_rfl) (by intro n args h; kernel_rfl)
def S_view_View_Block__Of_1 : Fun := tidy (Lim A_view_View_Block__Of_1 E_view_View_Block__Of_1)
theorem S_view_View_Block__Of_1_ok : SOk Try.prog 38 S_view_View_Block__Of_1 := K_view_View_Block__Of_1.sok
theorem S_view_View_Block__Of_1_flat {n : Nat} {args : List Val} {h h2 : Heap} {v : Val} (he : R_view_View_Block__Of_1 n args (ro h) = some (v, h2)) (hf : v.flat = true) : S_view_View_Block__Of_1 args h = some (v, h) := K_view_View_Block__Of_1.flat he hf
def view_View_Inode_o0 : List AOper := [aO 2 (.box (.t 0)), aO 4 (.alloc ([.i .i64 0, .i .i64 0, .i .i64 0, .i .i64 0, .i .i64 0, .i .i64 0, .i .i64 0, .i .i64 0, .i .i64 0, .i .i64 0, .i .i64 0]))]
def view_View_Inode_c0 : ACode := .ops view_View_Inode_o0
def view_View_Inode_o1 : List AOper := [aO 11 (.fAddr (.t 2) 0), aO 12 (.loadN 3 (.t 11)), aO 13 (.mv (.t 1)), aO 14 (.call 55 [(.t 12), (.t 13)]), aO 10 (.mv (.t 14)), aO 15 (.ext (.t 10) 0), aO 16 (.ext (.t 10) 1), aO 17 (.ext (.t 10) 2), aO 5 (.mv (.t 15)), aO 6 (.mv (.t 16)), aO 7 (.mv (.t 17))]
def view_View_Inode_c1 : ACode := .ops view_View_Inode_o1
def view_View_Inode_o2 : List AOper := [aO 18 (.mv (.t 7)), aO 19 (.un .not (.t 18))]
def view_View_Inode_c2 : ACode := .ops view_View_Inode_o2
def view_View_Inode_o3 : List AOper := [aO 20 (.build ([.i .i64 0, .i .i64 0, .i .i64 0, .i .i64 0, .i .i64 0, .i .i64 0, .i .i64 0, .i .i64 0, .i .i64 0, .i .i64 0, .i .i64 0]) []), { dst := none, op := .storeN 11 (.t 4) (.t 20) }]
def view_View_Inode_c3 : ACode := .ops view_View_Inode_o3
def view_View_Inode_c4 : ACode := .seq [4] view_View_Inode_c3 .ret
def view_View_Inode_c5 : ACode := .cond (.t 19) view_View_Inode_c4 .skip
def view_View_Inode_c6 : ACode := .seq [2, 4, 5, 6, 19] view_View_Inode_c2 view_View_Inode_c5
def view_View_Inode_o4 : List AOper := [aO 22 (.loadN 4 (.t 2)), aO 23 (.mv (.t 5)), aO 24 (.call 38 [(.t 22), (.t 23)]), aO 25 (.mv (.t 6)), aO 26 (.call 56 [(.t 24), (.t 25)]), aO 21 (.mv (.t 26)), aO 27 (.ext (.t 21) 0), aO 28 (.ext (.t 21) 1), aO 8 (.alloc ([.i .i64 0, .i .i64 0, .i .i64 0, .i .i64 0, .i .i64 0, .i .i64 0, .i .i64 0, .i .i64 0, .i .i64 0, .i .i64 0, .i .i64 0])), { dst := none, op := .storeN 11 (.t 8) (.t 27) }, aO 9 (.mv (.t 28))]
def view_View_Inode_c7 : ACode := .ops view_View_Inode_o4
def view_View_Inode_o5 : List AOper := [aO 29 (.loadN 11 (.t 8)), { dst := none, op := .storeN 11 (.t 4) (.t 29) }]
def view_View_Inode_c8 : ACode := .ops view_View_Inode_o5
def view_View_Inode_c9 : ACode := .seq [4] view_View_Inode_c8 .ret
def view_View_Inode_c10 : ACode := .seq [4, 8] view_View_Inode_c7 view_View_Inode_c9
def view_View_Inode_c11 : ACode := .seq [2, 4, 5, 6] view_View_Inode_c6 view_View_Inode_c10
def view_View_Inode_c12 : ACode := .seq [2, 4, 5, 6, 7] view_View_Inode_c1 view_View_Inode_c11
def view_View_Inode_c13 : ACode := .seq [1, 2, 4] view_View_Inode_c0 view_View_Inode_c12
def A_view_View_Inode : AFn := ⟨view_View_Inode_c13, [.cellN 4 11]⟩
def E_view_View_Inode : Sums := disp 55 S_geom_Where (disp 38 S_view_View_Block__Of_1 (disp 56 S_table_Get disp0))
def view_View_Inode_c0_d (n : Nat) : SmV := smOps E_view_View_Inode view_View_Inode_o0
def view_View_Inode_c1_d (n : Nat) : SmV := smOps E_view_View_Inode view_View_Inode_o1
def view_View_Inode_c2_d (n : Nat) : SmV := smOps E_view_View_Inode view_View_Inode_o2
def view_View_Inode_c3_d (n : Nat) : SmV := smOps E_view_View_Inode view_View_Inode_o3
def view_View_Inode_c4_d (n : Nat) : SmV := smSeq [4] (view_View_Inode_c3_d n) smRet
def view_View_Inode_c5_d (n : Nat) : SmV := smCond (.t 19) (view_View_Inode_c4_d n) smSkip
def view_View_Inode_c6_d (n : Nat) : SmV := smSeq [2, 4, 5, 6, 19] (view_View_Inode_c2_d n) (view_View_Inode_c5_d n)
def view_View_Inode_c7_d (n : Nat) : SmV := smOps E_view_View_Inode view_View_Inode_o4
def view_View_Inode_c8_d (n : Nat) : SmV := smOps E_view_View_Inode view_View_Inode_o5
def view_View_Inode_c9_d (n : Nat) : SmV := smSeq [4] (view_View_Inode_c8_d n) smRet
def view_View_Inode_c10_d (n : Nat) : SmV := smSeq [4, 8] (view_View_Inode_c7_d n) (view_View_Inode_c9_d n)
def view_View_Inode_c11_d (n : Nat) : SmV := smSeq [2, 4, 5, 6] (view_View_Inode_c6_d n) (view_View_Inode_c10_d n)
def view_View_Inode_c12_d (n : Nat) : SmV := smSeq [2, 4, 5, 6, 7] (view_View_Inode_c1_d n) (view_View_Inode_c11_d n)
def view_View_Inode_c13_d (n : Nat) : SmV := smSeq [1, 2, 4] (view_View_Inode_c0_d n) (view_View_Inode_c12_d n)
def R_view_View_Inode (n : Nat) (args : List Val) (h : Heap) : OptV := (view_View_Inode_c13_d n) A_view_View_Inode.fin (params 0 args) h
theorem R_view_View_Inode_eq (n : Nat) (a0 a1 : Val) (h : Heap) : R_view_View_Inode n [a0, a1] h = bnd (cells? a0) fun c1 => bnd (afAddr ((.c (.p h.length 0))) 0) fun v2 => bnd (aloadN (((h ++ [some (Row.mk (c1) true)]) ++ [some (Row.mk ([.i .i64 0, .i .i64 0, .i .i64 0, .i .i64 0, .i .i64 0, .i .i64 0, .i .i64 0, .i .i64 0, .i .i64 0, .i .i64 0, .i .i64 0]) true)])) 3 v2) fun v3 => bnd (S_geom_Where [v3, a1] (((h ++ [some (Row.mk (c1) true)]) ++ [some (Row.mk ([.i .i64 0, .i .i64 0, .i .i64 0, .i .i64 0, .i .i64 0, .i .i64 0, .i .i64 0, .i .i64 0, .i .i64 0, .i .i64 0, .i .i64 0]) true)]))) fun p4 => bnd (aext p4.1 0) fun v5 => bnd (aext p4.1 1) fun v6 => bnd (aext p4.1 2) fun v7 => bnd (aun .not v7) fun v8 => cnd v8 (bnd (afill ([.i .i64 0, .i .i64 0, .i .i64 0, .i .i64 0, .i .i64 0, .i .i64 0, .i .i64 0, .i .i64 0, .i .i64 0, .i .i64 0, .i .i64 0]) []) fun c9 => bnd (astoreN p4.2 11 ((.c (.p ((h ++ [some (Row.mk (c1) true)])).length 0))) ((.a c9))) fun h10 => mp (aloadN h10 11 ((.c (.p ((h ++ [some (Row.mk (c1) true)])).length 0)))) fun v => (v, h10)) (bnd (aloadN p4.2 4 ((.c (.p h.length 0)))) fun v11 => bnd (S_view_View_Block__Of_1 [v11, v5] p4.2) fun p12 => bnd (S_table_Get [p12.1, v6] p12.2) fun p13 => bnd (aext p13.1 0) fun v14 => bnd (aext p13.1 1) fun v15 => bnd (astoreN ((p13.2 ++ [some (Row.mk ([.i .i64 0, .i .i64 0, .i .i64 0, .i .i64 0, .i .i64 0, .i .i64 0, .i .i64 0, .i .i64 0, .i .i64 0, .i .i64 0, .i .i64 0]) true)])) 11 ((.c (.p p13.2.length 0))) v14) fun h16 => bnd (aloadN h16 11 ((.c (.p p13.2.length 0)))) fun v17 => bnd (astoreN h16 11 ((.c (.p ((h ++ [some (Row.mk (c1) true)])).length 0))) v17) fun h18 => mp (aloadN h18 11 ((.c (.p ((h ++ [some (Row.mk (c1) true)])).length 0)))) fun v => (v, h18)) := by kernel_rfl
theorem K_view_View_Inode : FnK Try.prog 17 A_view_View_Inode E_view_View_Inode R_view_View_Inode := .mk' (sound1 S_geom_Where_ok (sound1 S_view_View_Block__Of_1_ok (sound1 S_table_Get_ok sound0))) Try.func17 (by kernel_rfl) (by intro n args h; kernel_rfl)
def S_view_View_Inode : Fun := tidy (Lim A_view_View_Inode E_view_View_Inode)
theorem S_view_View_Inode_ok : SOk Try.prog 17 S_view_View_Inode := K_view_View_Inode.sok
theorem S_view_View_Inode_flat {n : Nat} {args : List Val} {h h2 : Heap} {v : Val} (he : R_view_View_Inode n args (ro h) = some (v, h2)) (hf : v.flat = true) : S_view_View_Inode args h = some (v, h) := K_view_View_Inode.flat he hf
end Go.Proofs.Ytdgggnlbdoiloaa
end
section
namespace Go.Proofs.Ytdgggnlbdoiloaa
open Go Go.Esc

def IsView (h : Heap) (f : Cell) (D : Dev) : Prop := ∃ r q rw rw', f = .f 54 [(r, 0)] ∧ rd h r = some ⟨[.sl q 0 D.length 256], rw⟩ ∧ rd h q = some ⟨cellsD D, rw'⟩
theorem IsView.ro {h : Heap} {f : Cell} {D : Dev} (hv : IsView h f D) : IsView (ro h) f D := by
  obtain ⟨r, q, rw, rw', e, h1, h2⟩ := hv
  exact ⟨r, q, false, false, e, by rw [rd_ro, h1]; rfl, by rw [rd_ro, h2]; rfl⟩
theorem IsView.more {h : Heap} {f : Cell} {D : Dev} (hv : IsView h f D) (l : Heap) : IsView (h ++ l) f D := by
  obtain ⟨r, q, rw, rw', e, h1, h2⟩ := hv
  exact ⟨r, q, rw, rw', e, rd_append h1, rd_append h2⟩
theorem IsView.since {g h : Heap} {f : Cell} {D : Dev} (hv : IsView g f D) (h1 : Low g.length g h) : IsView h f D := by
  obtain ⟨r, q, rw, rw', e, h2, h3⟩ := hv
  exact ⟨r, q, rw, rw', e, h1.rd h2, h1.rd h3⟩
theorem IsView.get {h : Heap} {f : Cell} {D : Dev} (hv : IsView h f D) : ∃ id cs, f = .f id cs := by
  obtain ⟨r, q, rw, rw', e, _⟩ := hv
  exact ⟨_, _, e⟩

def vwC (b n m : Int) (f : Cell) : List Cell := [.i .i64 b, .i .i64 n, .i .u64 m, f]

section
variable {D : Dev} {n m : Int} {f : Cell}
theorem vw_l3 {b : Int} : ldN (some (Row.mk (vwC b n m f) true)) 0 3 = some (.a (layC b n m)) := rfl
theorem vw_l4 {b : Int} : ldN (some (Row.mk (vwC b n m f) true)) 0 4 = some (.a (vwC b n m f)) := rfl
end

theorem view_Of_1_eq {h : Heap} {r q : Nat} {rw rw' : Bool} {D : Dev} {no : Nat} (hD : okD D) (hno : no < D.length) (h1 : rd h r = some ⟨[.sl q 0 D.length 256], rw⟩) (h2 : rd h q = some ⟨cellsD D, rw'⟩) :
    S_view_Of_1 [.c (.i .i64 (no : Int)), .c (.p r 0)] h = some (.a (encB D[no]), h) := by
  have key : ∀ g rw rw', rd g r = some ⟨[.sl q 0 D.length 256], rw⟩ → rd g q = some ⟨cellsD D, rw'⟩ → ∃ g', R_view_Of_1 0 [.c (.i .i64 (no : Int)), .c (.p r 0)] g = some (.a (encB D[no]), g') := by
    intro g rw rw' h1 h2
    have hz : (List.replicate 256 (Cell.i .u8 0)).length = 256 := List.length_replicate
    have hB : (encB D[no]).length = 256 := by rw [encB_length, hD.at hno]
    have l1 : aload1 (g ++ [some (Row.mk (List.replicate 256 (.i .u8 0)) true)]) (.c (.p r 0)) = some (.c (.sl q 0 D.length 256)) := load1_of (cs := [.sl q 0 D.length 256]) (rd_append h1) rfl (by cases rw <;> rfl)
    have a1 : aiAddrL 256 (.c (.sl q 0 D.length 256)) (.c (.i .i64 (no : Int))) = some (.c (.p q (0 + no * 256))) := iAddrL_of hno
    have l2 : aloadN (g ++ [some (Row.mk (List.replicate 256 (.i .u8 0)) true)]) 256 (.c (.p q (0 + no * 256))) = some (.a (encB D[no])) := by
      rw [loadN_of (cs := cellsD D) (rw := rw') (rd_append h2) (by rw [cellsD_length hD]; omega) (by
        rw [Nat.zero_add, cellsD_at hD hno, noX_encB]; simp), Nat.zero_add, cellsD_at hD hno]
    rw [Nat.zero_add] at a1 l2
    rw [R_view_Of_1_eq]
    generalize List.replicate 256 (Cell.i .u8 0) = z at *
    generalize encB D[no] = y at *
    exact ⟨_, by simp only [esc, esh, Nat.reduceAdd, Nat.reduceMul, Nat.reduceLT, l1, a1, l2, hz, hB] <;> rfl⟩
  obtain ⟨g', e⟩ := key (ro h) false false (by rw [rd_ro, h1]; rfl) (by rw [rd_ro, h2]; rfl)
  exact S_view_Of_1_flat e (by simp [Val.flat])

theorem view_there_eq {b n m no : Int} {f : Nat} {cs : List (Nat × Nat)} {h : Heap} : S_view_View_there [.a (vwC b n m (.f f cs)), .c (.i .i64 no)] h = some (.c (.b (decide (0 ≤ no) && decide (no < b))), h) := by
  have key : ∀ g, ∃ g', R_view_View_there 0 [.a (vwC b n m (.f f cs)), .c (.i .i64 no)] g = some (.c (.b (decide (0 ≤ no) && decide (no < b))), g') := by
    intro g
    rw [R_view_View_there_eq]
    unfold vwC
    by_cases c1 : 0 ≤ no
    · exact ⟨_, by simp only [esc, esh, Nat.reduceAdd, Nat.reduceMul, Nat.reduceLT, c1] <;> rfl⟩
    · exact ⟨_, by simp only [esc, esh, Nat.reduceAdd, Nat.reduceMul, Nat.reduceLT, c1, Bool.false_and] <;> rfl⟩
  obtain ⟨g', e⟩ := key (ro h)
  exact S_view_View_there_flat e rfl
theorem view_Block_eq {n m no : Int} {f : Cell} {D : Dev} {h : Heap} (hD : okD D) (hv : IsView h f D) : S_view_View_Block__Of_1 [.a (vwC D.length n m f), .c (.i .i64 no)] h = some (.a (encB (blk D no)), h) := by
  have key : ∀ g, IsView g f D → ∃ g', R_view_View_Block__Of_1 0 [.a (vwC D.length n m f), .c (.i .i64 no)] g = some (.a (encB (blk D no)), g') := by
    intro g hv
    have hz : (encB (zeros 256)).length = 256 := by rw [encB_length]; exact zeros_length
    have hB : (encB (blk D no)).length = 256 := by rw [encB_length, blk_length hD]
    obtain ⟨r, q, rw', rw'', rfl, h1, h2⟩ := hv
    have hT := fun h => view_there_eq (b := D.length) (n := n) (m := m) (no := no) (f := 54) (cs := [(r, 0)]) (h := h)
    have hcv : ∀ (x : Val) (h : Heap), callv E_view_View_Block__Of_1 (.c (.f 54 [(r, 0)])) [x] h = S_view_Of_1 [x, .c (.p r 0)] h := fun _ _ => Eq.trans rfl rfl
    rw [R_view_View_Block__Of_1_eq, zeros_enc]
    by_cases c1 : 0 ≤ no ∧ no < D.length
    · have c2 := c1.1
      have c3 := c1.2
      obtain ⟨k, rfl⟩ : ∃ k : Nat, no = k := ⟨no.toNat, by omega⟩
      have e1 := blk_at (D := D) (i := k) (by omega)
      have hO := view_Of_1_eq (h := g ++ [some (Row.mk (vwC D.length n m (.f 54 [(r, 0)])) true), some (Row.mk (encB (zeros 256)) true)]) hD (show k < D.length by omega) (rd_append h1) (rd_append h2)
      rw [← e1] at hO
      simp only [c2, c3, decide_true, Bool.and_self] at hT
      generalize encB (zeros 256) = z at *
      generalize encB (blk D k) = y at *
      unfold vwC at *
      exact ⟨_, by simp only [esc, esh, Nat.reduceAdd, Nat.reduceMul, Nat.reduceLT, hT, hcv, hO, hz, hB] <;> rfl⟩
    · have e1 := blk_none (D := D) (i := no) (by omega)
      have ht : (decide (0 ≤ no) && decide (no < (D.length : Int))) = false := by
        rw [Bool.and_eq_false_iff, decide_eq_false_iff_not, decide_eq_false_iff_not]; omega
      simp only [ht] at hT
      rw [e1] at hB ⊢
      have ef : afill (encB (zeros 256)) [] = some (encB (zeros 256)) := rfl
      generalize encB (zeros 256) = z at *
      unfold vwC at *
      exact ⟨_, by simp only [esc, esh, Nat.reduceAdd, Nat.reduceMul, Nat.reduceLT, hT, ef, hz] <;> rfl⟩
  obtain ⟨g', e⟩ := key (ro h) hv.ro
  exact S_view_View_Block__Of_1_flat e (by simp [Val.flat])

theorem app_has {h : Heap} {id m sz : Nat} {ys : List Cell} {y : Val} (hr : rd h id = some ⟨[], true⟩) (hy : Has h y sz m ys) (hsz : 0 < sz) (hn : m ≤ 1073741824) :
    aapp h sz (.c (.sl id 0 0 sz)) y = some (.c (.sl h.length 0 m sz), h.set id none ++ [some ⟨ys, true⟩]) := by
  have h1 := hy.add
  have h2 : ys.length / sz = m := by rw [hy.length]; exact Nat.mul_div_cancel m hsz
  simp only [aapp, h1, hr, Option.bind_some, h2, List.nil_append, Nat.zero_add]
  rw [if_pos ⟨trivial, trivial, by simp, trivial, hn⟩]

def devL (D : Dev) : Bool := okS (D.headD []) && decide (fieldN (D.headD []) 8 2 = D.length)
def devN (D : Dev) : Int := fieldN (D.headD []) 10 2
def devM (D : Dev) : Int := fieldN (D.headD []) 12 8

theorem view_Of_nil {v : Val} {h : Heap} (hv : Has h v 256 0 []) : ∃ t, S_view_Of [v] h = some (.t [.a (vwC 0 0 0 .nf), .c (.i .i64 13)], h ++ t) := by
  have ef : afill [Cell.i .i64 0, .i .i64 0, .i .u64 0, .nf] [] = some [Cell.i .i64 0, .i .i64 0, .i .u64 0, .nf] := rfl
  have hl := hv.len
  rw [show ((0 : Nat) : Int) = 0 from rfl] at hl
  exact ⟨_, S_view_Of_of (n := 0) (by rw [R_view_Of_eq]; simp only [esc, esh, Nat.reduceAdd, Nat.reduceMul, Nat.reduceLT, hl, ef, vwC] <;> rfl)⟩

theorem layS_no {b : List UInt8} (h : okS b = false) : layS b = layC 0 0 0 := by unfold layS; rw [h]; rfl
theorem layS_ok {b : List UInt8} (h : okS b = true) : layS b = layC (fieldN b 8 2) (fieldN b 10 2) (fieldN b 12 8) := by unfold layS; rw [h]; rfl

theorem view_Of_no {v : Val} {D : Dev} {h : Heap} (hv : Has h v 256 D.length (cellsD D)) (hD : okD D) (h0 : 0 < D.length) (hn : devL D = false) : ∃ t, S_view_Of [v] h = some (.t [.a (vwC 0 0 0 .nf), .c (.i .i64 13)], h ++ t) := by
  have ef : afill [Cell.i .i64 0, .i .i64 0, .i .u64 0, .nf] [] = some [Cell.i .i64 0, .i .i64 0, .i .u64 0, .nf] := rfl
  have hl := hv.len
  have hv2 := hv.more [some (Row.mk [.i .i64 0, .i .i64 0, .i .u64 0, .nf] true)]
  obtain ⟨b, E, rfl⟩ : ∃ b E, D = b :: E := by cases D with | nil => simp at h0 | cons b E => exact ⟨b, E, rfl⟩
  obtain ⟨id, off, rfl, hid, _, hB⟩ := hv2.sl h0
  have hBl : (encB b).length = 256 := by rw [encB_length, hD.cons.1]
  have l2 := hB 0 256 (by rw [cellsD_length hD]; omega)
  have ec : ((cellsD (b :: E)).drop 0).take 256 = encB b := by
    have := cellsD_at (i := 0) hD h0
    rwa [Nat.zero_mul] at this
  rw [ec, Nat.add_zero] at l2
  have a1 : aiAddrL 256 (.c (.sl id off (b :: E).length 256)) (.c (.i .i64 0)) = some (.c (.p id off)) := by
    have := iAddrL_of (k := .i64) (id := id) (off := off) (sz := 256) (j := 0) (len := (b :: E).length) h0
    rwa [Nat.zero_mul, Nat.add_zero] at this
  have hG := fun h => super_Get_eq (h := h) hD.cons.1
  have c0 : ¬ (((b :: E).length : Nat) : Int) = 0 := by omega
  have n13 : ¬ (13 : Int) = 0 := by decide
  unfold devL at hn
  simp only [List.headD_cons] at hn
  cases ho : okS b with
  | false =>
    simp only [ho, layS_no ho, cond_false] at hG
    refine ⟨[some (Row.mk [.i .i64 0, .i .i64 0, .i .u64 0, .nf] true), some (Row.mk [.i .i64 0, .i .i64 0, .i .u64 0] true)], S_view_Of_of (n := 0) ?_⟩
    rw [R_view_Of_eq]
    generalize (b :: E).length = N at *
    generalize encB b = y at *
    unfold layC at *
    simp only [esc, esh, Nat.reduceAdd, Nat.reduceMul, Nat.reduceLT, ef, vwC, l2, a1, hG, n13, eq_self, c0] <;> rfl
  | true =>
    rw [ho, Bool.true_and] at hn
    replace hn := of_decide_eq_false hn
    simp only [ho, layS_ok ho, cond_true] at hG
    refine ⟨[some (Row.mk [.i .i64 0, .i .i64 0, .i .u64 0, .nf] true), some (Row.mk [.i .i64 (fieldN b 8 2), .i .i64 (fieldN b 10 2), .i .u64 (fieldN b 12 8)] true)], S_view_Of_of (n := 0) ?_⟩
    rw [R_view_Of_eq]
    generalize (b :: E).length = N at *
    generalize encB b = y at *
    generalize fieldN b 8 2 = n1 at *
    unfold layC at *
    simp only [esc, esh, Nat.reduceAdd, Nat.reduceMul, Nat.reduceLT, ef, vwC, l2, a1, hG, n13, eq_self, c0, hn] <;> rfl

theorem view_Of_bad {v : Val} {D : Dev} {h : Heap} (hv : Has h v 256 D.length (cellsD D)) (hD : okD D) (hn : devL D = false) : ∃ t, S_view_Of [v] h = some (.t [.a (vwC 0 0 0 .nf), .c (.i .i64 13)], h ++ t) := by
  by_cases h0 : D = []
  · subst h0; exact view_Of_nil hv
  · exact view_Of_no hv hD (List.length_pos_iff.2 h0) hn

theorem view_Of_ok {v : Val} {D : Dev} {h : Heap} (hv : Has h v 256 D.length (cellsD D)) (hD : okD D) (hn : devL D = true) (h60 : D.length ≤ 1073741824) :
    ∃ f t, S_view_Of [v] h = some (.t [.a (vwC D.length (devN D) (devM D) f), .c (.i .i64 0)], h ++ t) ∧ IsView (h ++ t) f D := by
  obtain ⟨b, E, rfl⟩ : ∃ b E, D = b :: E := by
    cases D with
    | nil => simp only [devL, List.headD_nil, List.length_nil, Bool.and_eq_true, decide_eq_true_eq] at hn; exact absurd hn.1 (by decide)
    | cons b E => exact ⟨b, E, rfl⟩
  have h0 : 0 < (b :: E).length := by simp
  have hv2 := hv.more [some (Row.mk [.i .i64 0, .i .i64 0, .i .u64 0, .nf] true)]
  unfold devL at hn
  simp only [List.headD_cons, Bool.and_eq_true, decide_eq_true_eq] at hn
  have ho := hn.1
  have hn2 := of_decide_eq_true hn.2
  have hv3 := hv.more [some (Row.mk [.i .i64 0, .i .i64 0, .i .u64 0, .nf] true), some (Row.mk (layC (b :: E).length (fieldN b 10 2) (fieldN b 12 8)) true), some (Row.mk [] true)]
  obtain ⟨id, off, rfl, hid, _, hB⟩ := hv2.sl h0
  have hBl : (encB b).length = 256 := by rw [encB_length, hD.cons.1]
  have l2 := hB 0 256 (by rw [cellsD_length hD]; omega)
  have ec : ((cellsD (b :: E)).drop 0).take 256 = encB b := by
    have := cellsD_at (i := 0) hD h0
    rwa [Nat.zero_mul] at this
  rw [ec, Nat.add_zero] at l2
  have a1 : aiAddrL 256 (.c (.sl id off (b :: E).length 256)) (.c (.i .i64 0)) = some (.c (.p id off)) := by
    have := iAddrL_of (k := .i64) (id := id) (off := off) (sz := 256) (j := 0) (len := (b :: E).length) h0
    rwa [Nat.zero_mul, Nat.add_zero] at this
  have hG := fun h => super_Get_eq (h := h) hD.cons.1
  have c0 : ¬ (((b :: E).length : Nat) : Int) = 0 := by omega
  have n13 : ¬ (13 : Int) = 0 := by decide
  simp only [ho, layS_ok ho, cond_true, hn2] at hG
  have eN : devN (b :: E) = fieldN b 10 2 := rfl
  have eM : devM (b :: E) = fieldN b 12 8 := rfl
  have hA := app_has (id := h.length + 2) (by simp) hv3 (by omega) h60
  have ef1 : afill ([] : List Cell) [] = some [] := rfl
  have hlt : id < h.length := by
    rcases hv with ⟨e, _⟩ | ⟨i, o, r, e, hr, _⟩
    · cases e
    · cases e; exact rd_lt hr
  rw [eN, eM]
  unfold IsView
  generalize cellsD (b :: E) = C at *
  have emk : amkf 54 [.c (.p (h.length + 4) 0)] = some (.c (.f 54 [(h.length + 4, 0)])) := rfl
  refine ⟨.f 54 [(h.length + 4, 0)], [some (Row.mk (vwC (b :: E).length (fieldN b 10 2) (fieldN b 12 8) (.f 54 [(h.length + 4, 0)])) true), some (Row.mk (layC (b :: E).length (fieldN b 10 2) (fieldN b 12 8)) true), none, some (Row.mk C true), some (Row.mk [.sl (h.length + 3) 0 (b :: E).length 256] true)], S_view_Of_of (n := 0) ?_, h.length + 4, h.length + 3, true, true, rfl, rd_at, rd_at⟩
  rw [R_view_Of_eq]
  generalize (b :: E).length = N at *
  generalize encB b = y at *
  generalize fieldN b 10 2 = n1 at *
  generalize fieldN b 12 8 = n2 at *
  have ef2 : ∀ x, afill [Cell.i .i64 0, .i .i64 0, .i .u64 0, .nf] [(0, 3, .a [.i .i64 (N : Int), .i .i64 n1, .i .u64 n2]), (3, 1, .c x)] = some [.i .i64 (N : Int), .i .i64 n1, .i .u64 n2, x] := fun _ => rfl
  unfold layC vwC at *
  simp only [esc, esh, Nat.reduceAdd, Nat.reduceMul, Nat.reduceLT] at hA
  simp only [esc, esh, Nat.reduceAdd, Nat.reduceMul, Nat.reduceLT, l2, a1, hG, n13, eq_self, c0, hA, ef1, ef2, emk] <;> rfl

end Go.Proofs.Ytdgggnlbdoiloaa
end
noncomputable section
namespace Go.Proofs.Ytdgggnlbdoiloaa
open Go Go.Esc
set_option maxRecDepth 100000
def points_there_o0 : List AOper := [aO 2 (.mv (.v (.c (.b false))))]
def points_there_c0 : ACode := .ops points_there_o0
def points_there_o1 : List AOper := [aO 3 (.mv (.t 0)), aO 4 (.bin .geq (.t 3) (.v (.c (.i .i64 0)))), aO 5 (.mv (.t 4)), { dst := some 6, op := .mv (.t 0), guard := some (5, true) }, { dst := some 7, op := .bin .lss (.t 6) (.v (.c (.i .i64 128))), guard := some (5, true) }, aO 8 (.pick (.t 5) (.t 7) (.v (.c (.b false)))), aO 2 (.mv (.t 8))]
def points_there_c1 : ACode := .ops points_there_o1
def points_there_c2 : ACode := .seq [2] points_there_c1 .ret
def points_there_c3 : ACode := .seq [0] points_there_c0 points_there_c2
def A_points_there : AFn := ⟨points_there_c3, [.tmp 2]⟩
def E_points_there : Sums := disp0
def points_there_c0_d (n : Nat) : SmV := smOps E_points_there points_there_o0
def points_there_c1_d (n : Nat) : SmV := smOps E_points_there points_there_o1
def points_there_c2_d (n : Nat) : SmV := smSeq [2] (points_there_c1_d n) smRet
def points_there_c3_d (n : Nat) : SmV := smSeq [0] (points_there_c0_d n) (points_there_c2_d n)
def R_points_there (n : Nat) (args : List Val) (h : Heap) : OptV := (points_there_c3_d n) A_points_there.fin (params 0 args) h
theorem R_points_there_eq (n : Nat) (a0 : Val) (h : Heap) : R_points_there n [a0] h = bnd (abin .geq a0 (.c (.i .i64 0))) fun v1 => bnd (gd v1 true (some (a0, h)) (some (.no, h))) fun p2 => bnd (gd v1 true (bnd (abin .lss p2.1 (.c (.i .i64 128))) fun v3 => some (v3, p2.2)) (some (.no, p2.2))) fun p4 => bnd (apick v1 p4.1 (.c (.b false))) fun v5 => some (v5, p4.2) := by kernel_rfl
theorem K_points_there : FnK Try.prog 107 A_points_there E_points_there R_points_there := .mk' (sound0) Try.func107 (by kernel_rfl) (by intro n args h; kernel_rfl)
def S_points_there : Fun := tidy (Lim A_points_there E_points_there)
theorem S_points_there_ok : SOk Try.prog 107 S_points_there := K_points_there.sok
theorem S_points_there_flat {n : Nat} {args : List Val} {h h2 : Heap} {v : Val} (he : R_points_there n args (ro h) = some (v, h2)) (hf : v.flat = true) : S_points_there args h = some (v, h) := K_points_there.flat he hf
def points_Get_o0 : List AOper := [aO 2 (.box (.t 0)), aO 4 (.mv (.v (.c (.i .i64 0))))]
def points_Get_c0 : ACode := .ops points_Get_o0
def points_Get_o1 : List AOper := [aO 5 (.mv (.t 1)), aO 6 (.call 107 [(.t 5)]), aO 7 (.un .not (.t 6))]
def points_Get_c1 : ACode := .ops points_Get_o1
def points_Get_o2 : List AOper := [aO 4 (.mv (.v (.c (.i .i64 0))))]
def points_Get_c2 : ACode := .ops points_Get_o2
def points_Get_c3 : ACode := .seq [4] points_Get_c2 .ret
def points_Get_c4 : ACode := .cond (.t 7) points_Get_c3 .skip
def points_Get_c5 : ACode := .seq [1, 2, 7] points_Get_c1 points_Get_c4
def points_Get_o3 : List AOper := [aO 8 (.loadN 256 (.t 2)), aO 9 (.mv (.t 1)), aO 10 (.bin .mul (.v (.c (.i .i64 2))) (.t 9)), aO 11 (.call 101 [(.t 8), (.t 10), (.v (.c (.i .i64 2)))]), aO 4 (.mv (.t 11))]
def points_Get_c6 : ACode := .ops points_Get_o3
def points_Get_c7 : ACode := .seq [4] points_Get_c6 .ret
def points_Get_c8 : ACode := .seq [1, 2] points_Get_c5 points_Get_c7
def points_Get_c9 : ACode := .seq [1, 2] points_Get_c0 points_Get_c8
def A_points_Get : AFn := ⟨points_Get_c9, [.tmp 4]⟩
def E_points_Get : Sums := disp 107 S_points_there (disp 101 S_num_At disp0)
def points_Get_c0_d (n : Nat) : SmV := smOps E_points_Get points_Get_o0
def points_Get_c1_d (n : Nat) : SmV := smOps E_points_Get points_Get_o1
def points_Get_c2_d (n : Nat) : SmV := smOps E_points_Get points_Get_o2
def points_Get_c3_d (n : Nat) : SmV := smSeq [4] (points_Get_c2_d n) smRet
def points_Get_c4_d (n : Nat) : SmV := smCond (.t 7) (points_Get_c3_d n) smSkip
def points_Get_c5_d (n : Nat) : SmV := smSeq [1, 2, 7] (points_Get_c1_d n) (points_Get_c4_d n)
def points_Get_c6_d (n : Nat) : SmV := smOps E_points_Get points_Get_o3
def points_Get_c7_d (n : Nat) : SmV := smSeq [4] (points_Get_c6_d n) smRet
def points_Get_c8_d (n : Nat) : SmV := smSeq [1, 2] (points_Get_c5_d n) (points_Get_c7_d n)
def points_Get_c9_d (n : Nat) : SmV := smSeq [1, 2] (points_Get_c0_d n) (points_Get_c8_d n)
def R_points_Get (n : Nat) (args : List Val) (h : Heap) : OptV := (points_Get_c9_d n) A_points_Get.fin (params 0 args) h
theorem R_points_Get_eq (n : Nat) (a0 a1 : Val) (h : Heap) : R_points_Get n [a0, a1] h = bnd (cells? a0) fun c1 => bnd (S_points_there [a1] ((h ++ [some (Row.mk (c1) true)]))) fun p2 => bnd (aun .not p2.1) fun v3 => cnd v3 (some ((.c (.i .i64 0)), p2.2)) (bnd (aloadN p2.2 256 ((.c (.p h.length 0)))) fun v4 => bnd (abin .mul (.c (.i .i64 2)) a1) fun v5 => bnd (S_num_At [v4, v5, .c (.i .i64 2)] p2.2) fun p6 => some (p6.1, p6.2)) := by kernel_rfl
theorem K_points_Get : FnK Try.prog 67 A_points_Get E_points_Get R_points_Get := .mk' (sound1 S_points_there_ok (sound1 S_num_At_ok sound0)) Try.func67 (by kernel_rfl) (by intro n args h; kernel_rfl)
def S_points_Get : Fun := tidy (Lim A_points_Get E_points_Get)
theorem S_points_Get_ok : SOk Try.prog 67 S_points_Get := K_points_Get.sok
theorem S_points_Get_flat {n : Nat} {args : List Val} {h h2 : Heap} {v : Val} (he : R_points_Get n args (ro h) = some (v, h2)) (hf : v.flat = true) : S_points_Get args h = some (v, h) := K_points_Get.flat he hf
def points_fine_o0 : List AOper := [aO 2 (.mv (.v (.c (.b false))))]
def points_fine_c0 : ACode := .ops points_fine_o0
def points_fine_o1 : List AOper := [aO 3 (.mv (.t 0)), aO 4 (.bin .geq (.t 3) (.v (.c (.i .i64 0)))), aO 5 (.mv (.t 4)), { dst := some 6, op := .mv (.t 0), guard := some (5, true) }, { dst := some 7, op := .bin .leq (.t 6) (.v (.c (.i .i64 65535))), guard := some (5, true) }, aO 8 (.pick (.t 5) (.t 7) (.v (.c (.b false)))), aO 2 (.mv (.t 8))]
def points_fine_c1 : ACode := .ops points_fine_o1
def points_fine_c2 : ACode := .seq [2] points_fine_c1 .ret
def points_fine_c3 : ACode := .seq [0] points_fine_c0 points_fine_c2
def A_points_fine : AFn := ⟨points_fine_c3, [.tmp 2]⟩
def E_points_fine : Sums := disp0
def points_fine_c0_d (n : Nat) : SmV := smOps E_points_fine points_fine_o0
def points_fine_c1_d (n : Nat) : SmV := smOps E_points_fine points_fine_o1
def points_fine_c2_d (n : Nat) : SmV := smSeq [2] (points_fine_c1_d n) smRet
def points_fine_c3_d (n : Nat) : SmV := smSeq [0] (points_fine_c0_d n) (points_fine_c2_d n)
def R_points_fine (n : Nat) (args : List Val) (h : Heap) : OptV := (points_fine_c3_d n) A_points_fine.fin (params 0 args) h
theorem R_points_fine_eq (n : Nat) (a0 : Val) (h : Heap) : R_points_fine n [a0] h = bnd (abin .geq a0 (.c (.i .i64 0))) fun v1 => bnd (gd v1 true (some (a0, h)) (some (.no, h))) fun p2 => bnd (gd v1 true (bnd (abin .leq p2.1 (.c (.i .i64 65535))) fun v3 => some (v3, p2.2)) (some (.no, p2.2))) fun p4 => bnd (apick v1 p4.1 (.c (.b false))) fun v5 => some (v5, p4.2) := by kernel_rfl
theorem K_points_fine : FnK Try.prog 106 A_points_fine E_points_fine R_points_fine := .mk' (sound0) Try.func106 (by kernel_rfl) (by intro n args h; kernel_rfl)
def S_points_fine : Fun := tidy (Lim A_points_fine E_points_fine)
theorem S_points_fine_ok : SOk Try.prog 106 S_points_fine := K_points_fine.sok
theorem S_points_fine_flat {n : Nat} {args : List Val} {h h2 : Heap} {v : Val} (he : R_points_fine n args (ro h) = some (v, h2)) (hf : v.flat = true) : S_points_fine args h = some (v, h) := K_points_fine.flat he hf
def points_Make_o0 : List AOper := [aO 2 (.alloc (List.replicate 256 (.i .u8 0))), aO 3 (.mv (.v (.c (.i .i64 0))))]
def points_Make_c0 : ACode := .ops points_Make_o0
def points_Make_o1 : List AOper := [aO 4 (.alloc (List.replicate 256 (.i .u8 0)))]
def points_Make_c1 : ACode := .ops points_Make_o1
def points_Make_o2 : List AOper := [aO 7 (.mv (.t 0)), aO 8 (.len (.t 7)), aO 9 (.bin .gtr (.t 8) (.v (.c (.i .i64 128))))]
def points_Make_c2 : ACode := .ops points_Make_o2
def points_Make_o3 : List AOper := [aO 10 (.loadN 256 (.t 4)), { dst := none, op := .storeN 256 (.t 2) (.t 10) }, aO 3 (.mv (.v (.c (.i .i64 2))))]
def points_Make_c3 : ACode := .ops points_Make_o3
def points_Make_c4 : ACode := .seq [2, 3] points_Make_c3 .ret
def points_Make_c5 : ACode := .cond (.t 9) points_Make_c4 .skip
def points_Make_c6 : ACode := .seq [0, 2, 4, 9] points_Make_c2 points_Make_c5
def points_Make_o4 : List AOper := [aO 11 (.mv (.t 0)), aO 12 (.len (.t 11)), aO 13 (.mv (.v (.c (.i .i64 0))))]
def points_Make_c7 : ACode := .ops points_Make_o4
def points_Make_o5 : List AOper := [aO 14 (.bin .lss (.t 13) (.t 12))]
def points_Make_c8 : ACode := .ops points_Make_o5
def points_Make_c9 : ACode := .cond (.t 14) .skip (.exit 0)
def points_Make_o6 : List AOper := [aO 15 (.mv (.t 13)), aO 16 (.iAddrL 1 (.t 11) (.t 13)), aO 17 (.load1 (.t 16)), aO 5 (.mv (.t 15)), aO 6 (.mv (.t 17))]
def points_Make_c10 : ACode := .ops points_Make_o6
def points_Make_o7 : List AOper := [aO 18 (.mv (.t 6)), aO 19 (.call 106 [(.t 18)]), aO 20 (.un .not (.t 19))]
def points_Make_c11 : ACode := .ops points_Make_o7
def points_Make_o8 : List AOper := [aO 21 (.build (List.replicate 256 (.i .u8 0)) []), { dst := none, op := .storeN 256 (.t 2) (.t 21) }, aO 3 (.mv (.v (.c (.i .i64 1))))]
def points_Make_c12 : ACode := .ops points_Make_o8
def points_Make_c13 : ACode := .seq [2, 3] points_Make_c12 .ret
def points_Make_c14 : ACode := .cond (.t 20) points_Make_c13 .skip
def points_Make_c15 : ACode := .seq [2, 4, 5, 6, 11, 12, 13, 20] points_Make_c11 points_Make_c14
def points_Make_o9 : List AOper := [aO 22 (.loadN 256 (.t 4)), aO 23 (.mv (.t 5)), aO 24 (.bin .mul (.v (.c (.i .i64 2))) (.t 23)), aO 25 (.mv (.t 6)), aO 26 (.call 96 [(.t 22), (.t 24), (.v (.c (.i .i64 2))), (.t 25)]), { dst := none, op := .storeN 256 (.t 4) (.t 26) }]
def points_Make_c16 : ACode := .ops points_Make_o9
def points_Make_c17 : ACode := .seq [2, 4, 5, 6, 11, 12, 13] points_Make_c15 points_Make_c16
def points_Make_c18 : ACode := .seq [2, 4, 5, 6, 11, 12, 13] points_Make_c10 points_Make_c17
def points_Make_c19 : ACode := .block 1 points_Make_c18
def points_Make_o10 : List AOper := [aO 27 (.bin .add (.t 13) (.v (.c (.i .i64 1)))), aO 13 (.mv (.t 27))]
def points_Make_c20 : ACode := .ops points_Make_o10
def points_Make_c21 : ACode := .seq [2, 4, 11, 12, 13] points_Make_c19 points_Make_c20
def points_Make_c22 : ACode := .seq [2, 4, 11, 12, 13] points_Make_c9 points_Make_c21
def points_Make_c23 : ACode := .seq [2, 4, 11, 12, 13, 14] points_Make_c8 points_Make_c22
def points_Make_c24 : ACode := .loop [2, 4, 11, 12, 13] points_Make_c23
def points_Make_c25 : ACode := .block 0 points_Make_c24
def points_Make_c26 : ACode := .seq [2, 4, 11, 12, 13] points_Make_c7 points_Make_c25
def points_Make_o11 : List AOper := [aO 28 (.loadN 256 (.t 4)), { dst := none, op := .storeN 256 (.t 2) (.t 28) }, aO 3 (.mv (.v (.c (.i .i64 0))))]
def points_Make_c27 : ACode := .ops points_Make_o11
def points_Make_c28 : ACode := .seq [2, 3] points_Make_c27 .ret
def points_Make_c29 : ACode := .seq [2, 4] points_Make_c26 points_Make_c28
def points_Make_c30 : ACode := .seq [0, 2, 4] points_Make_c6 points_Make_c29
def points_Make_c31 : ACode := .seq [0, 2, 4] points_Make_c1 points_Make_c30
def points_Make_c32 : ACode := .seq [0, 2] points_Make_c0 points_Make_c31
def A_points_Make : AFn := ⟨points_Make_c32, [.cellN 2 256, .tmp 3]⟩
def E_points_Make : Sums := disp 106 S_points_fine (disp 96 S_num_With disp0)
def points_Make_c0_d (n : Nat) : SmV := smOps E_points_Make points_Make_o0
def points_Make_c1_d (n : Nat) : SmV := smOps E_points_Make points_Make_o1
def points_Make_c2_d (n : Nat) : SmV := smOps E_points_Make points_Make_o2
def points_Make_c3_d (n : Nat) : SmV := smOps E_points_Make points_Make_o3
def points_Make_c4_d (n : Nat) : SmV := smSeq [2, 3] (points_Make_c3_d n) smRet
def points_Make_c5_d (n : Nat) : SmV := smCond (.t 9) (points_Make_c4_d n) smSkip
def points_Make_c6_d (n : Nat) : SmV := smSeq [0, 2, 4, 9] (points_Make_c2_d n) (points_Make_c5_d n)
def points_Make_c7_d (n : Nat) : SmV := smOps E_points_Make points_Make_o4
def points_Make_c8_d (n : Nat) : SmV := smOps E_points_Make points_Make_o5
def points_Make_c9_d (n : Nat) : SmV := smCond (.t 14) smSkip (smExit 0)
def points_Make_c10_d (n : Nat) : SmV := smOps E_points_Make points_Make_o6
def points_Make_c11_d (n : Nat) : SmV := smOps E_points_Make points_Make_o7
def points_Make_c12_d (n : Nat) : SmV := smOps E_points_Make points_Make_o8
def points_Make_c13_d (n : Nat) : SmV := smSeq [2, 3] (points_Make_c12_d n) smRet
def points_Make_c14_d (n : Nat) : SmV := smCond (.t 20) (points_Make_c13_d n) smSkip
def points_Make_c15_d (n : Nat) : SmV := smSeq [2, 4, 5, 6, 11, 12, 13, 20] (points_Make_c11_d n) (points_Make_c14_d n)
def points_Make_c16_d (n : Nat) : SmV := smOps E_points_Make points_Make_o9
def points_Make_c17_d (n : Nat) : SmV := smSeq [2, 4, 5, 6, 11, 12, 13] (points_Make_c15_d n) (points_Make_c16_d n)
def points_Make_c18_d (n : Nat) : SmV := smSeq [2, 4, 5, 6, 11, 12, 13] (points_Make_c10_d n) (points_Make_c17_d n)
def points_Make_c19_d (n : Nat) : SmV := smBlock 1 (points_Make_c18_d n)
def points_Make_c20_d (n : Nat) : SmV := smOps E_points_Make points_Make_o10
def points_Make_c21_d (n : Nat) : SmV := smSeq [2, 4, 11, 12, 13] (points_Make_c19_d n) (points_Make_c20_d n)
def points_Make_c22_d (n : Nat) : SmV := smSeq [2, 4, 11, 12, 13] (points_Make_c9_d n) (points_Make_c21_d n)
def points_Make_c23_d (n : Nat) : SmV := smSeq [2, 4, 11, 12, 13, 14] (points_Make_c8_d n) (points_Make_c22_d n)
def points_Make_c24_d (n : Nat) : SmV := smLoop n [2, 4, 11, 12, 13] (points_Make_c23_d n)
def points_Make_c25_d (n : Nat) : SmV := smBlock 0 (points_Make_c24_d n)
def points_Make_c26_d (n : Nat) : SmV := smSeq [2, 4, 11, 12, 13] (points_Make_c7_d n) (points_Make_c25_d n)
def points_Make_c27_d (n : Nat) : SmV := smOps E_points_Make points_Make_o11
def points_Make_c28_d (n : Nat) : SmV := smSeq [2, 3] (points_Make_c27_d n) smRet
def points_Make_c29_d (n : Nat) : SmV := smSeq [2, 4] (points_Make_c26_d n) (points_Make_c28_d n)
def points_Make_c30_d (n : Nat) : SmV := smSeq [0, 2, 4] (points_Make_c6_d n) (points_Make_c29_d n)
def points_Make_c31_d (n : Nat) : SmV := smSeq [0, 2, 4] (points_Make_c1_d n) (points_Make_c30_d n)
def points_Make_c32_d (n : Nat) : SmV := smSeq [0, 2] (points_Make_c0_d n) (points_Make_c31_d n)
def points_Make_k0 (n : Nat) : AExit → Env → Heap → OptV := fun x e h => match x with | .normal => hold ((points_Make_c28_d n) A_points_Make.fin (e.keep [2, 4]) h) | .exit id => A_points_Make.fin (.exit id) e h | .ret => A_points_Make.fin .ret e h
def points_Make_k1 (n : Nat) : AExit → Env → Heap → OptV := fun x e h => match x with | .exit i => bif Nat.beq i 0 then (points_Make_k0 n) .normal e h else (points_Make_k0 n) (.exit i) e h | .normal => (points_Make_k0 n) .normal e h | .ret => (points_Make_k0 n) .ret e h
def points_Make_l0 (n m : Nat) (x2 x4 x11 x12 x13 : Val) (h : Heap) : OptV := around (points_Make_c23_d n) [2, 4, 11, 12, 13] (points_Make_k1 n) m [(2, x2), (4, x4), (11, x11), (12, x12), (13, x13)] h
def R_points_Make (n : Nat) (args : List Val) (h : Heap) : OptV := (points_Make_c32_d n) A_points_Make.fin (params 0 args) h
theorem R_points_Make_eq (n : Nat) (a0 : Val) (h : Heap) : R_points_Make n [a0] h = bnd (alen a0) fun v1 => bnd (abin .gtr v1 (.c (.i .i64 128))) fun v2 => cnd v2 (bnd (aloadN (((h ++ [some (Row.mk (List.replicate 256 (.i .u8 0)) true)]) ++ [some (Row.mk (List.replicate 256 (.i .u8 0)) true)])) 256 ((.c (.p ((h ++ [some (Row.mk (List.replicate 256 (.i .u8 0)) true)])).length 0)))) fun v3 => bnd (astoreN (((h ++ [some (Row.mk (List.replicate 256 (.i .u8 0)) true)]) ++ [some (Row.mk (List.replicate 256 (.i .u8 0)) true)])) 256 ((.c (.p h.length 0))) v3) fun h4 => tupN [aloadN h4 256 ((.c (.p h.length 0))), some (.c (.i .i64 2))] h4) (bnd (alen a0) fun v5 => points_Make_l0 n n ((.c (.p h.length 0))) ((.c (.p ((h ++ [some (Row.mk (List.replicate 256 (.i .u8 0)) true)])).length 0))) a0 v5 (.c (.i .i64 0)) (((h ++ [some (Row.mk (List.replicate 256 (.i .u8 0)) true)]) ++ [some (Row.mk (List.replicate 256 (.i .u8 0)) true)]))) := by kernel_rfl
theorem points_Make_l0_eq (n m : Nat) (x2 x4 x11 x12 x13 : Val) (h : Heap) : points_Make_l0 n (m + 1) x2 x4 x11 x12 x13 h = bnd (abin .lss x13 x12) fun v6 => cnd v6 (bnd (aiAddrL 1 x11 x13) fun v7 => bnd (aload1 h v7) fun v8 => bnd (S_points_fine [v8] h) fun p9 => bnd (aun .not p9.1) fun v10 => cnd v10 (bnd (afill (List.replicate 256 (.i .u8 0)) []) fun c11 => bnd (astoreN p9.2 256 x2 ((.a c11))) fun h12 => tupN [aloadN h12 256 x2, some (.c (.i .i64 1))] h12) (bnd (aloadN p9.2 256 x4) fun v13 => bnd (abin .mul (.c (.i .i64 2)) x13) fun v14 => bnd (S_num_With [v13, v14, .c (.i .i64 2), v8] p9.2) fun p15 => bnd (astoreN p15.2 256 x4 p15.1) fun h16 => bnd (abin .add x13 (.c (.i .i64 1))) fun v17 => points_Make_l0 n m x2 x4 x11 x12 v17 h16)) (bnd (aloadN h 256 x4) fun v18 => bnd (astoreN h 256 x2 v18) fun h19 => tupN [aloadN h19 256 x2, some (.c (.i .i64 0))] h19) := by kernel_rfl
theorem K_points_Make : FnK Try.prog 58 A_points_Make E_points_Make R_points_Make := .mk' (sound1 S_points_fine_ok (sound1 S_num_With_ok sound0)) Try.func58 (by kernel_rfl) (by intro n args h; kernel_rfl)
def S_points_Make : Fun := tidy (Lim A_points_Make E_points_Make)
theorem S_points_Make_ok : SOk Try.prog 58 S_points_Make := K_points_Make.sok
theorem S_points_Make_flat {n : Nat} {args : List Val} {h h2 : Heap} {v : Val} (he : R_points_Make n args (ro h) = some (v, h2)) (hf : v.flat = true) : S_points_Make args h = some (v, h) := K_points_Make.flat he hf
end Go.Proofs.Ytdgggnlbdoiloaa
end
section
namespace Go.Proofs.Ytdgggnlbdoiloaa
open Go Go.Esc

def numsB (d : List Int) : List UInt8 := (d.map (bytesI 2)).flatten
theorem numsB_length {d : List Int} : (numsB d).length = 2 * d.length := by
  induction d with
  | nil => rfl
  | cons x d ih => simp only [numsB, List.map_cons, List.flatten_cons, List.length_append, bytesI_length, List.length_cons] at ih ⊢; omega
theorem numsB_snoc {d : List Int} {x : Int} : numsB (d ++ [x]) = numsB d ++ bytesI 2 x := by simp [numsB]

def ptP (b : List UInt8) (i : Nat) : Int := fieldN b (2 * i) 2
def fineP (n : Int) : Bool := decide (0 ≤ n) && decide (n ≤ 65535)
theorem points_there_in {k : Nat} {h : Heap} (hk : k < 128) : S_points_there [.c (.i .i64 k)] h = some (.c (.b true), h) := by
  have key : ∀ g, ∃ g', R_points_there 0 [.c (.i .i64 k)] g = some (.c (.b true), g') := by
    intro g
    have c1 : (0 : Int) ≤ k := by omega
    have c2 : (k : Int) < 128 := by omega
    rw [R_points_there_eq]
    exact ⟨_, by simp only [esc, c1, c2] <;> rfl⟩
  obtain ⟨g', e⟩ := key (ro h)
  exact S_points_there_flat e rfl

theorem points_fine_eq {n : Int} {h : Heap} : S_points_fine [.c (.i .i64 n)] h = some (.c (.b (fineP n)), h) := by
  refine S_points_fine_flat (n := 0) (h2 := ro h) ?_ rfl
  rw [R_points_fine_eq]
  unfold fineP
  by_cases c : 0 ≤ n
  · simp only [esc, c, Bool.true_and]
  · simp only [esc, c, Bool.false_and]

theorem at_pt {b : List UInt8} {i : Nat} (hb : b.length = 256) (hi : i < 128) : ((atN b ((2 * i : Nat) : Int) 2 : Nat) : Int) = ptP b i := by
  unfold atN ptP fieldN
  rw [if_pos ⟨by omega, thereI_true.2 (by omega)⟩]
  simp only [Int.toNat_natCast]
  rfl

theorem wi_two {i : Nat} (hi : i < 128) : IntKind.wrap .i64 (2 * (i : Int)) = ((2 * i : Nat) : Int) := by rw [wrap_i64 (by omega) (by omega)]; omega

theorem points_Get_at {b : List UInt8} {k : Nat} {h : Heap} (hb : b.length = 256) (hk : k < 128) : S_points_Get [.a (encB b), .c (.i .i64 k)] h = some (.c (.i .i64 (ptP b k)), h) := by
  have key : ∀ g, ∃ g', R_points_Get 0 [.a (encB b), .c (.i .i64 k)] g = some (.c (.i .i64 (ptP b k)), g') := by
    intro g
    have hB : (encB b).length = 256 := by rw [encB_length, hb]
    have hT := fun h => points_there_in (h := h) hk
    have hA := fun h => num_At_eq (h := h) hb (a := ((2 * k : Nat) : Int)) (w := 2)
    rw [at_pt hb hk] at hA
    rw [R_points_Get_eq]
    exact ⟨_, by simp only [esc, esh, Nat.reduceAdd, Nat.reduceMul, Nat.reduceLT, hB, hT, wi_two hk, hA] <;> rfl⟩
  obtain ⟨g', e⟩ := key (ro h)
  exact S_points_Get_flat e rfl

theorem make_loop {v : Val} {nv : Nat} {l : List Int} {g : Heap} {q : Nat} (hv : Has g v 1 nv (encI l)) (hn : l.length = nv) (hl : nv ≤ 128) : ∀ e i m : Nat, i + e = nv → e < m →
    ∃ h', points_Make_l0 q m (.c (.p g.length 0)) (.c (.p (g.length + 1) 0)) v (.c (.i .i64 nv)) (.c (.i .i64 i)) (g ++ [some ⟨encB (zeros 256), true⟩, some ⟨encB (padB 256 (numsB (l.take i))), true⟩]) =
      some (.t [.a (encB (bif (l.drop i).all fineP then padB 256 (numsB l) else zeros 256)), .c (.i .i64 (bif (l.drop i).all fineP then 0 else 1))], h')
  | e, i, 0, _, hm => by omega
  | 0, i, m + 1, hi, hm => by
    have e0 : i = nv := by omega
    subst e0
    have c0 : ¬ (i : Int) < i := by omega
    have hp : (encB (padB 256 (numsB l))).length = 256 := by rw [encB_length, padB_length (by rw [numsB_length]; omega)]
    have hz : (encB (zeros 256)).length = 256 := by rw [encB_length]; exact zeros_length
    rw [points_Make_l0_eq, List.take_of_length_le (by omega), List.drop_of_length_le (by omega), List.all_nil, cond_true, cond_true]
    generalize zeros 256 = z at *
    generalize padB 256 (numsB l) = P at *
    exact ⟨_, by simp only [esc, esh, Nat.reduceAdd, Nat.reduceMul, Nat.reduceLT, c0, hp, hz] <;> rfl⟩
  | e + 1, i, m + 1, hi, hm => by
    obtain ⟨h', ih⟩ := make_loop (q := q) hv hn hl e (i + 1) m (by omega) (by omega)
    obtain ⟨id, off, rfl, hid, h1, h2⟩ := (hv.more [some ⟨encB (zeros 256), true⟩, some ⟨encB (padB 256 (numsB (l.take i))), true⟩]).sl (by omega)
    have c0 : (i : Int) < nv := by omega
    have hx := h1 i (.i .i64 l[i]) (by rw [encI_get, List.getElem?_eq_getElem (by omega)]; rfl)
    have eb : aiAddrL 1 (.c (.sl id off nv 1)) (.c (.i .i64 (i : Int))) = some (.c (.p id (off + i))) := by rw [iAddrL_of (by omega)]; simp
    have hF := fun h => points_fine_eq (n := l[i]) (h := h)
    have hP0 : (padB 256 (numsB (l.take i))).length = 256 := padB_length (by rw [numsB_length, List.length_take]; omega)
    have hp : (encB (padB 256 (numsB (l.take i)))).length = 256 := by rw [encB_length, hP0]
    have hz : (encB (zeros 256)).length = 256 := by rw [encB_length]; exact zeros_length
    have haf : afill (List.replicate 256 (Cell.i .u8 0)) [] = some (List.replicate 256 (Cell.i .u8 0)) := rfl
    rw [zeros_enc] at haf
    have hW := fun h => num_With_eq (h := h) (l := padB 256 (numsB (l.take i))) hP0 (a := ((2 * i : Nat) : Int)) (w := 2) (v := l[i])
    have hnl : (numsB (l.take i)).length = 2 * i := by rw [numsB_length, List.length_take]; omega
    have ew := withB_pad (l := numsB (l.take i)) (a := 2 * i) (w := 2) (v := l[i]) (by omega) (by omega) (by omega) (by omega)
    rw [hnl, Nat.sub_self, show zeros 0 = [] from rfl, List.append_nil, ← numsB_snoc, ← List.take_succ_eq_append_getElem (by omega)] at ew
    rw [show ((2 : Nat) : Int) = 2 from rfl] at ew
    rw [ew] at hW
    have hp2 : (encB (padB 256 (numsB (l.take (i + 1))))).length = 256 := by rw [encB_length, padB_length (by rw [numsB_length, List.length_take]; omega)]
    rw [points_Make_l0_eq, zeros_enc, List.drop_eq_getElem_cons (by omega : i < l.length), List.all_cons]
    generalize padB 256 (numsB (l.take (i + 1))) = P1 at *
    generalize padB 256 (numsB (l.take i)) = P0 at *
    generalize padB 256 (numsB l) = P at *
    generalize zeros 256 = z at *
    cases c : fineP l[i] with
    | false =>
      rw [c] at hF
      rw [Bool.false_and, cond_false, cond_false]
      exact ⟨_, by simp only [esc, esh, Nat.reduceAdd, Nat.reduceMul, Nat.reduceLT, c0, eb, hx, hF, haf, hz] <;> rfl⟩
    | true =>
      rw [c] at hF
      rw [Bool.true_and]
      refine ⟨h', ?_⟩
      simp only [esc, esh, Nat.reduceAdd, Nat.reduceMul, Nat.reduceLT, c0, eb, hx, hF, hp, wi_two (show i < 128 by omega), hW, hp2, wi_succ (show i + 1 < 9223372036854775808 by omega)]
      exact ih

theorem points_Make_eq {v : Val} {nv : Nat} {l : List Int} {h : Heap} (hv : Has h v 1 nv (encI l)) (hl : nv ≤ 128) :
    S_points_Make [v] h = some (.t [.a (encB (bif l.all fineP then padB 256 (numsB l) else zeros 256)), .c (.i .i64 (bif l.all fineP then 0 else 1))], h) := by
  have hn : l.length = nv := by simpa [encI_length] using hv.length
  have key : ∀ N, nv < N → ∀ g, Has g v 1 nv (encI l) → ∃ g', R_points_Make N [v] g = some (.t [.a (encB (bif l.all fineP then padB 256 (numsB l) else zeros 256)), .c (.i .i64 (bif l.all fineP then 0 else 1))], g') := by
    intro N hN g hv
    have c0 : ¬ (128 : Int) < nv := by omega
    obtain ⟨h', e⟩ := make_loop (q := N) hv hn hl nv 0 N (by omega) (by omega)
    rw [List.drop_zero, List.take_zero, show numsB [] = [] from rfl, padB_nil] at e
    rw [R_points_Make_eq, zeros_enc]
    generalize padB 256 (numsB l) = P at *
    generalize zeros 256 = z at *
    exact ⟨h', by simp only [esc, esh, Nat.reduceAdd, Nat.reduceMul, Nat.reduceLT, hv.len, c0]; exact e⟩
  obtain ⟨g', e⟩ := key (nv + 1) (by omega) (ro h) hv.ro
  refine S_points_Make_flat e ?_
  cases l.all fineP <;> simp

end Go.Proofs.Ytdgggnlbdoiloaa
end
section
namespace Go.Proofs.Ytdgggnlbdoiloaa
open Go Go.Esc

def zI (n : Nat) : List Int := List.replicate n 0
theorem zI_length {n : Nat} : (zI n).length = n := by simp [zI]

end Go.Proofs.Ytdgggnlbdoiloaa
end
section
namespace Go.Proofs.Ytdgggnlbdoiloaa
open Go Go.Esc

abbrev inoC (k l s p : Int) (d : List Int) : List Cell := .i .i64 k :: .i .i64 l :: .i .i64 s :: .i .i64 p :: encI d

def smallI (n : Int) : Bool := decide (0 ≤ n) && decide (n ≤ 65535)
theorem inode_small_eq {n : Int} {h : Heap} : S_inode_small [.c (.i .i64 n)] h = some (.c (.b (smallI n)), h) := by
  refine S_inode_small_flat (n := 0) (h2 := ro h) ?_ rfl
  rw [R_inode_small_eq]
  unfold smallI
  by_cases c : 0 ≤ n
  · simp only [esc, c, Bool.true_and]
  · simp only [esc, c, Bool.false_and]

theorem inode_Blocks_eq {n : Int} {h : Heap} : S_inode_Blocks [.c (.i .i64 n)] h = some (.c (.i .i64 (if n < 1 then 0 else if 34304 < n then 134 else (n + 255) / 256)), h) := by
  refine S_inode_Blocks_flat (n := 0) (h2 := ro h) ?_ rfl
  rw [R_inode_Blocks_eq]
  by_cases c1 : n < 1
  · rw [if_pos c1]; simp only [esc, c1]
  · rw [if_neg c1]
    by_cases c2 : 34304 < n
    · rw [if_pos c2]; simp only [esc, c1, c2]
    · rw [if_neg c2]
      have e1 : IntKind.wrap .i64 (n + 256) = n + 256 := wrap_i64 (by omega) (by omega)
      have e2 : IntKind.wrap .i64 (n + 256 - 1) = n + 255 := by rw [wrap_i64 (by omega) (by omega)]; omega
      simp only [esc, c1, c2, e1, e2, quo_i64 (a := n + 255) (b := 256) (by omega) (by omega) (by omega)]

theorem numbers_loop {g : Heap} {k l s p : Int} {d : List Int} {z : List Cell} {q : Nat} (hd : d.length = 7) (hz : z.length = 7) : ∀ e i m : Nat, i + e = 6 → e < m →
    inode_Numbers_l0 q m (.c (.p g.length 0)) (.c (.p (g.length + 1) 0)) (.c (.p (g.length + 2) 0)) (.a (encI (d.take 6))) (.c (.i .i64 i)) (g ++ [some ⟨inoC k l s p d, true⟩, some ⟨z, true⟩, some ⟨encI (d.take i ++ zI (7 - i)), true⟩]) =
      some (.a (encI d), g ++ [some ⟨inoC k l s p d, true⟩, some ⟨encI d, true⟩, some ⟨encI d, true⟩])
  | e, i, 0, _, hm => by omega
  | 0, i, m + 1, hi, hm => by
    have e0 : i = 6 := by omega
    subst e0
    have h1' : ¬ ((6 : Nat) : Int) < 6 := by omega
    have l1 : (inoC k l s p d)[10]? = some (.i .i64 d[6]) := by
      have : (encI d)[6]? = some (.i .i64 d[6]) := by rw [encI_get, List.getElem?_eq_getElem (by omega)]; rfl
      exact this
    have a1 : aiAddrA 7 1 (.c (.p (g.length + 2) 0)) (.c (.i .i64 6)) = some (.c (.p (g.length + 2) 6)) := rfl
    have ho : 6 < (encI (d.take 6 ++ zI (7 - 6))).length := by rw [encI_length, List.length_append, zI_length, List.length_take]; omega
    have es : (encI (d.take 6 ++ zI (7 - 6))).set 6 (.i .i64 d[6]) = encI d := by
      rw [encI_set]
      congr 1
      have h6 : (d.take 6).length = 6 := by simp; omega
      rw [List.set_append_right _ _ (by omega), h6]
      have : d = d.take 6 ++ [d[6]] := by
        rw [← List.take_succ_eq_append_getElem (by omega), List.take_of_length_le (by omega)]
      conv => rhs; rw [this]
      rfl
    have hl : (encI d).length = 7 := by rw [encI_length, hd]
    rw [inode_Numbers_l0_eq]
    simp only [esc, esh, Nat.reduceAdd, Nat.reduceMul, Nat.reduceLT, h1', l1, a1, ho, es, hl, hz]
  | e + 1, i, m + 1, hi, hm => by
    have ih := numbers_loop (g := g) (k := k) (l := l) (s := s) (p := p) (q := q) hd hz e (i + 1) m (by omega) (by omega)
    have h1' : (i : Int) < 6 := by omega
    have hx : aidxA1 6 (.a (encI (d.take 6))) (.c (.i .i64 (i : Int))) = some (.c (.i .i64 d[i])) := by
      rw [idxA1_of (by omega), encI_get, List.getElem?_take_of_lt (by omega), List.getElem?_eq_getElem (by omega)]; rfl
    have a1 : aiAddrA 7 1 (.c (.p (g.length + 2) 0)) (.c (.i .i64 (i : Int))) = some (.c (.p (g.length + 2) i)) := by rw [iAddrA_of (by omega)]; simp
    have ho : i < (encI (d.take i ++ zI (7 - i))).length := by rw [encI_length, List.length_append, zI_length, List.length_take]; omega
    have es : (encI (d.take i ++ zI (7 - i))).set i (.i .i64 d[i]) = encI (d.take (i + 1) ++ zI (7 - (i + 1))) := by
      rw [encI_set]
      refine congrArg encI ?_
      have h6 : (d.take i).length = i := by simp; omega
      rw [List.set_append_right _ _ (by omega), h6, Nat.sub_self, List.take_succ_eq_append_getElem (by omega), List.append_assoc]
      refine congrArg (d.take i ++ ·) ?_
      rw [show 7 - i = 7 - (i + 1) + 1 by omega]
      unfold zI
      rw [List.replicate_succ, List.set_cons_zero]; rfl
    rw [inode_Numbers_l0_eq]
    simp only [esc, esh, Nat.reduceAdd, Nat.reduceMul, Nat.reduceLT, h1', hx, a1, ho, es, wi_succ (show i + 1 < 9223372036854775808 by omega)]
    exact ih

theorem ino_dir {k l s p : Int} {d : List Int} (hd : d.length = 7) : ldN (some ⟨inoC k l s p d, true⟩) 4 6 = some (.a (encI (d.take 6))) := by
  have h1 : (inoC k l s p d).length = 11 := by simp [encI_length, hd]
  simp only [ldN, Option.bind_some]
  rw [if_pos ⟨by omega, by simp⟩]
  simp only [List.drop_succ_cons, List.drop_zero]
  unfold encI
  rw [List.map_take]

theorem inode_Numbers_eq {k l s p : Int} {d : List Int} {h : Heap} (hd : d.length = 7) : S_inode_Numbers [.a (inoC k l s p d)] h = some (.a (encI d), h) := by
  have key : ∀ N, 7 < N → ∀ g, ∃ g', R_inode_Numbers N [.a (inoC k l s p d)] g = some (.a (encI d), g') := by
    intro N hN g
    have := numbers_loop (g := g) (k := k) (l := l) (s := s) (p := p) (z := encI (zI 7)) (q := N) hd (by rw [encI_length, zI_length]) 6 0 N (by omega) (by omega)
    have e0 : encI (d.take 0 ++ zI (7 - 0)) = [Cell.i .i64 0, .i .i64 0, .i .i64 0, .i .i64 0, .i .i64 0, .i .i64 0, .i .i64 0] := rfl
    have e1 : encI (zI 7) = [Cell.i .i64 0, .i .i64 0, .i .i64 0, .i .i64 0, .i .i64 0, .i .i64 0, .i .i64 0] := rfl
    rw [e0, e1] at this
    rw [R_inode_Numbers_eq]
    exact ⟨_, by simp only [esc, esh, Nat.reduceAdd, Nat.reduceMul, Nat.reduceLT, ino_dir hd]; exact this⟩
  obtain ⟨g', e⟩ := key (h.length + 8) (by omega) (ro h)
  exact S_inode_Numbers_flat e (by simp)

def zeroI (l s p : Int) (d : List Int) : Bool := decide (l = 0 ∧ s = 0 ∧ p = 0 ∧ d = zI 7)
def restI (k l s p : Int) (d : List Int) : Bool := decide (0 ≤ k ∧ k ≤ 2) && (smallI l && (smallI p && (decide (0 ≤ s ∧ s ≤ 34304) && d.all smallI)))
def mayI (k l s p : Int) (d : List Int) : Bool := if k = 0 then zeroI l s p d else restI k l s p d

theorem check_loopI {h : Heap} {d : List Int} {q : Nat} (hd : d.length = 7) : ∀ e i m : Nat, i + e = 7 → e < m →
    inode_Check_l0 q m (.a (encI d)) (.c (.i .i64 i)) h = some (.c (.i .i64 (bif (d.drop i).all smallI then 0 else 1)), h)
  | e, i, 0, _, hm => by omega
  | 0, i, m + 1, hi, hm => by
    have c0 : ¬ (i : Int) < 7 := by omega
    rw [inode_Check_l0_eq, List.drop_of_length_le (by omega)]
    simp only [esc, c0, List.all_nil]
  | e + 1, i, m + 1, hi, hm => by
    have ih := check_loopI (h := h) (q := q) hd e (i + 1) m (by omega) (by omega)
    have c0 : (i : Int) < 7 := by omega
    have hx : aidxA1 7 (.a (encI d)) (.c (.i .i64 (i : Int))) = some (.c (.i .i64 d[i])) := by
      rw [idxA1_of (by omega), encI_get, List.getElem?_eq_getElem (by omega)]; rfl
    rw [inode_Check_l0_eq, List.drop_eq_getElem_cons (by omega), List.all_cons]
    cases c1 : smallI d[i] with
    | true =>
      simp only [esc, c0, hx, inode_small_eq, c1, Bool.true_and, wi_succ (show i + 1 < 9223372036854775808 by omega)]
      exact ih
    | false => simp only [esc, c0, hx, inode_small_eq, c1, Bool.false_and]

theorem aeq_ino {k l s p k' l' s' p' : Int} {d d' : List Int} {neg : Bool} (hd : d.length = 7) (hd' : d'.length = 7) :
    aeq neg [Sh.i .i64, .i .i64, .i .i64, .i .i64, .i .i64, .i .i64, .i .i64, .i .i64, .i .i64, .i .i64, .i .i64] (.a (inoC k l s p d)) (.a (inoC k' l' s' p' d')) = some (.c (.b (bif neg then !decide (k :: l :: s :: p :: d = k' :: l' :: s' :: p' :: d') else decide (k :: l :: s :: p :: d = k' :: l' :: s' :: p' :: d')))) := by
  have h1 := aeqI_t (l := k :: l :: s :: p :: d) (m := k' :: l' :: s' :: p' :: d') (n := 11) (by simp [hd]) (by simp [hd'])
  have h2 := aeqI_f (l := k :: l :: s :: p :: d) (m := k' :: l' :: s' :: p' :: d') (n := 11) (by simp [hd]) (by simp [hd'])
  cases neg
  · exact h2
  · exact h1

theorem zero_ino {l s p : Int} {d : List Int} : decide ((0 : Int) :: l :: s :: p :: d = 0 :: 0 :: 0 :: 0 :: zI 7) = zeroI l s p d := by
  unfold zeroI
  simp

theorem afill_ino : afill [Cell.i .i64 0, .i .i64 0, .i .i64 0, .i .i64 0, .i .i64 0, .i .i64 0, .i .i64 0, .i .i64 0, .i .i64 0, .i .i64 0, .i .i64 0] [] = some (inoC 0 0 0 0 (zI 7)) := rfl

theorem inode_Check_eq {k l s p : Int} {d : List Int} {h : Heap} (hd : d.length = 7) : S_inode_Check [.a (inoC k l s p d)] h = some (.c (.i .i64 (bif mayI k l s p d then 0 else 1)), h) := by
  have hlen : (inoC k l s p d).length = 11 := by simp [encI_length, hd]
  have key : ∀ N, 8 < N → ∀ g, ∃ g', R_inode_Check N [.a (inoC k l s p d)] g = some (.c (.i .i64 (bif mayI k l s p d then 0 else 1)), g') := by
    intro N hN g
    have lp := fun g => check_loopI (h := g) (q := N) hd 7 0 N (by omega) (by omega)
    simp only [List.drop_zero, Int.cast_ofNat_Int] at lp
    rw [R_inode_Check_eq]
    unfold mayI
    by_cases k0 : k = 0
    · subst k0
      rw [if_pos rfl]
      have c1 : ¬ (0 : Int) < 0 := by omega
      have c2 : ¬ (2 : Int) < 0 := by omega
      have hq := aeq_ino (k := 0) (l := l) (s := s) (p := p) (k' := 0) (l' := 0) (s' := 0) (p' := 0) (neg := true) hd (zI_length (n := 7))
      simp only [cond_true, zero_ino] at hq
      cases hz : zeroI l s p d with
      | false =>
        rw [hz] at hq
        exact ⟨_, by simp only [esc, esh, Nat.reduceAdd, Nat.reduceMul, Nat.reduceLT, c1, c2, hlen, afill_ino, hq] <;> rfl⟩
      | true =>
        rw [hz] at hq
        have hz' := of_decide_eq_true hz
        obtain ⟨rfl, rfl, rfl, rfl⟩ := hz'
        have sm : smallI 0 = true := by decide
        have al : (zI 7).all smallI = true := by decide
        have c3 : ¬ (34304 : Int) < 0 := by omega
        rw [al] at lp
        exact ⟨_, by simp only [esc, esh, Nat.reduceAdd, Nat.reduceMul, Nat.reduceLT, c1, c2, c3, hlen, afill_ino, hq, inode_small_eq, sm, inode_Numbers_eq hd, lp] <;> rfl⟩
    · rw [if_neg k0]
      unfold restI
      by_cases c1 : k < 0
      · rw [decide_eq_false (show ¬ (0 ≤ k ∧ k ≤ 2) by omega)]
        exact ⟨_, by simp only [esc, esh, Nat.reduceAdd, Nat.reduceMul, Nat.reduceLT, c1, Bool.false_and] <;> rfl⟩
      · by_cases c2 : 2 < k
        · rw [decide_eq_false (show ¬ (0 ≤ k ∧ k ≤ 2) by omega)]
          exact ⟨_, by simp only [esc, esh, Nat.reduceAdd, Nat.reduceMul, Nat.reduceLT, c1, c2, Bool.false_and] <;> rfl⟩
        · rw [decide_eq_true (show 0 ≤ k ∧ k ≤ 2 by omega), Bool.true_and]
          cases sl : smallI l with
          | false => exact ⟨_, by simp only [esc, esh, Nat.reduceAdd, Nat.reduceMul, Nat.reduceLT, c1, c2, k0, inode_small_eq, sl, Bool.false_and] <;> rfl⟩
          | true =>
            cases sp : smallI p with
            | false => exact ⟨_, by simp only [esc, esh, Nat.reduceAdd, Nat.reduceMul, Nat.reduceLT, c1, c2, k0, inode_small_eq, sl, sp, Bool.true_and, Bool.false_and] <;> rfl⟩
            | true =>
              by_cases c3 : s < 0
              · rw [decide_eq_false (show ¬ (0 ≤ s ∧ s ≤ 34304) by omega)]
                exact ⟨_, by simp only [esc, esh, Nat.reduceAdd, Nat.reduceMul, Nat.reduceLT, c1, c2, k0, inode_small_eq, sl, sp, c3, Bool.true_and, Bool.false_and] <;> rfl⟩
              · by_cases c4 : 34304 < s
                · rw [decide_eq_false (show ¬ (0 ≤ s ∧ s ≤ 34304) by omega)]
                  exact ⟨_, by simp only [esc, esh, Nat.reduceAdd, Nat.reduceMul, Nat.reduceLT, c1, c2, k0, inode_small_eq, sl, sp, c3, c4, Bool.true_and, Bool.false_and] <;> rfl⟩
                · rw [decide_eq_true (show 0 ≤ s ∧ s ≤ 34304 by omega)]
                  exact ⟨_, by simp only [esc, esh, Nat.reduceAdd, Nat.reduceMul, Nat.reduceLT, c1, c2, k0, inode_small_eq, sl, sp, c3, c4, Bool.true_and, hlen, inode_Numbers_eq hd, lp] <;> rfl⟩
  obtain ⟨g', e⟩ := key (h.length + 9) (by omega) (ro h)
  exact S_inode_Check_flat e rfl

def inoH (k l s p : Int) : List UInt8 := bytesI 1 k ++ zeros 1 ++ bytesI 2 l ++ bytesI 4 s ++ bytesI 2 p
def inoD (d : List Int) : List UInt8 := (d.map (bytesI 2)).flatten
def inoB (k l s p : Int) (d : List Int) : List UInt8 := inoH k l s p ++ inoD d ++ zeros 8

theorem inoH_length {k l s p : Int} : (inoH k l s p).length = 10 := by simp [inoH]
theorem inoD_length {d : List Int} : (inoD d).length = 2 * d.length := by
  unfold inoD
  induction d with
  | nil => rfl
  | cons x d ih => simp only [List.map_cons, List.flatten_cons, List.length_append, bytesI_length, List.length_cons, ih]; omega
theorem inoB_length {k l s p : Int} {d : List Int} (hd : d.length = 7) : (inoB k l s p d).length = 32 := by
  unfold inoB; rw [List.length_append, List.length_append, inoH_length, inoD_length, zeros_length, hd]
theorem inoD_snoc {d : List Int} {x : Int} : inoD (d ++ [x]) = inoD d ++ bytesI 2 x := by simp [inoD]

theorem inoH_with {k l s p : Int} : withB (withB (withB (withB (zeros 256) 0 1 k) 2 2 l) 4 4 s) 8 2 p = padB 256 (inoH k l s p) := by
  rw [← padB_nil]
  have h1 := withB_pad (l := []) (a := 0) (w := 1) (v := k) (by simp) (by omega) (by omega) (by omega)
  have h2 := withB_pad (l := [] ++ zeros (0 - 0) ++ bytesI 1 k) (a := 2) (w := 2) (v := l) (by simp) (by omega) (by omega) (by omega)
  have h3 := withB_pad (l := [] ++ zeros (0 - 0) ++ bytesI 1 k ++ zeros 1 ++ bytesI 2 l) (a := 4) (w := 4) (v := s) (by simp) (by omega) (by omega) (by omega)
  have h4 := withB_pad (l := [] ++ zeros (0 - 0) ++ bytesI 1 k ++ zeros 1 ++ bytesI 2 l ++ zeros 0 ++ bytesI 4 s) (a := 8) (w := 2) (v := p) (by simp) (by omega) (by omega) (by omega)
  simp only [List.length_append, List.length_nil, zeros_length, bytesI_length, Nat.sub_self, Nat.zero_sub, Nat.reduceAdd, Nat.reduceSub] at h1 h2 h3 h4
  simp only [Int.cast_ofNat_Int] at h1 h2 h3 h4
  rw [h1, h2, h3, h4]
  congr 1

theorem put_copy {g : Heap} {c0 : List Cell} {B : List UInt8} {z : List Cell} {q : Nat} (hB : B.length = 256) (hz : z.length = 32) : ∀ e i m : Nat, i + e = 32 → e < m →
    inode_Put_l1 q m (.c (.p (g.length + 1) 0)) (.c (.p (g.length + 2) 0)) (.c (.p (g.length + 3) 0)) (.c (.i .i64 i)) (g ++ [some ⟨c0, true⟩, some ⟨z, true⟩, some ⟨encB (B.take i ++ zeros (32 - i)), true⟩, some ⟨encB B, true⟩]) =
      some (.t [.a (encB (B.take 32)), .c (.i .i64 0)], g ++ [some ⟨c0, true⟩, some ⟨encB (B.take 32), true⟩, some ⟨encB (B.take 32), true⟩, some ⟨encB B, true⟩])
  | e, i, 0, _, hm => by omega
  | 0, i, m + 1, hi, hm => by
    have e0 : i = 32 := by omega
    subst e0
    have h1' : ¬ ((32 : Nat) : Int) < 32 := by omega
    have hl : (encB (B.take 32)).length = 32 := by rw [encB_length, List.length_take]; omega
    have e1 : encB (B.take 32 ++ zeros (32 - 32)) = encB (B.take 32) := by simp [zeros]
    rw [inode_Put_l1_eq, e1]
    simp only [esc, esh, Nat.reduceAdd, Nat.reduceMul, Nat.reduceLT, h1', hl, hz]
  | e + 1, i, m + 1, hi, hm => by
    have ih := put_copy (g := g) (c0 := c0) (q := q) hB hz e (i + 1) m (by omega) (by omega)
    have h1' : (i : Int) < 32 := by omega
    have a1 : aiAddrA 256 1 (.c (.p (g.length + 3) 0)) (.c (.i .i64 (i : Int))) = some (.c (.p (g.length + 3) i)) := by rw [iAddrA_of (by omega)]; simp
    have a2 : aiAddrA 32 1 (.c (.p (g.length + 2) 0)) (.c (.i .i64 (i : Int))) = some (.c (.p (g.length + 2) i)) := by rw [iAddrA_of (by omega)]; simp
    have l1 : (encB B)[i]? = some (.i .u8 B[i].toNat) := by rw [encB_get, List.getElem?_eq_getElem (by omega)]; rfl
    have ho : i < (encB (B.take i ++ zeros (32 - i))).length := by rw [encB_length, List.length_append, zeros_length, List.length_take]; omega
    have es : (encB (B.take i ++ zeros (32 - i))).set i (.i .u8 B[i].toNat) = encB (B.take (i + 1) ++ zeros (32 - (i + 1))) := by
      rw [encB_set]
      refine congrArg encB ?_
      have h6 : (B.take i).length = i := by simp; omega
      rw [List.set_append_right _ _ (by omega), h6, Nat.sub_self, List.take_succ_eq_append_getElem (by omega), List.append_assoc]
      refine congrArg (B.take i ++ ·) ?_
      rw [show 32 - i = 32 - (i + 1) + 1 by omega]
      unfold zeros
      rw [List.replicate_succ, List.set_cons_zero]; rfl
    rw [inode_Put_l1_eq]
    simp only [esc, esh, Nat.reduceAdd, Nat.reduceMul, Nat.reduceLT, h1', a1, a2, l1, ho, es, wi_succ (show i + 1 < 9223372036854775808 by omega)]
    exact ih

theorem put_loop {g : Heap} {k l s p : Int} {d : List Int} {c0 z : List Cell} {q : Nat} (hd : d.length = 7) (hz : z.length = 32) (hq : 33 < q) : ∀ e i m : Nat, i + e = 7 → e < m →
    inode_Put_l0 q m (.c (.p (g.length + 1) 0)) (.c (.p (g.length + 2) 0)) (.c (.p (g.length + 3) 0)) (.a (encI d)) (.c (.i .i64 i)) (g ++ [some ⟨c0, true⟩, some ⟨z, true⟩, some ⟨encB (zeros 32), true⟩, some ⟨encB (padB 256 (inoH k l s p ++ inoD (d.take i))), true⟩]) =
      some (.t [.a (encB (inoB k l s p d)), .c (.i .i64 0)], g ++ [some ⟨c0, true⟩, some ⟨encB (inoB k l s p d), true⟩, some ⟨encB (inoB k l s p d), true⟩, some ⟨encB (padB 256 (inoH k l s p ++ inoD d)), true⟩])
  | e, i, 0, _, hm => by omega
  | 0, i, m + 1, hi, hm => by
    have e0 : i = 7 := by omega
    subst e0
    have h1' : ¬ ((7 : Nat) : Int) < 7 := by omega
    rw [List.take_of_length_le (by omega)]
    have hlen : (inoH k l s p ++ inoD d).length = 24 := by rw [List.length_append, inoH_length, inoD_length, hd]
    have := put_copy (g := g) (c0 := c0) (z := z) (q := q) (B := padB 256 (inoH k l s p ++ inoD d)) (padB_length (by omega)) hz 32 0 q (by omega) (by omega)
    have e1 : (padB 256 (inoH k l s p ++ inoD d)).take 32 = inoB k l s p d := by
      unfold padB inoB
      rw [List.take_append, List.take_of_length_le (by omega), hlen]
      refine congrArg (inoH k l s p ++ inoD d ++ ·) ?_
      unfold zeros
      rw [List.take_replicate]; rfl
    rw [e1] at this
    simp only [List.take_zero, List.nil_append, Nat.sub_zero] at this
    rw [inode_Put_l0_eq]
    simp only [esc, h1']
    exact this
  | e + 1, i, m + 1, hi, hm => by
    have ih := put_loop (g := g) (k := k) (l := l) (s := s) (p := p) (c0 := c0) hd hz hq e (i + 1) m (by omega) (by omega)
    have h1' : (i : Int) < 7 := by omega
    have hx : aidxA1 7 (.a (encI d)) (.c (.i .i64 (i : Int))) = some (.c (.i .i64 d[i])) := by
      rw [idxA1_of (by omega), encI_get, List.getElem?_eq_getElem (by omega)]; rfl
    have hlen : (inoH k l s p ++ inoD (d.take i)).length = 10 + 2 * i := by rw [List.length_append, inoH_length, inoD_length, List.length_take]; omega
    have hL : (encB (padB 256 (inoH k l s p ++ inoD (d.take i)))).length = 256 := by rw [encB_length, padB_length (by omega)]
    have e2 : IntKind.wrap .i64 (2 * (i : Int)) = ((2 * i : Nat) : Int) := by rw [wrap_i64 (by omega) (by omega)]; omega
    have e3 : IntKind.wrap .i64 (10 + ((2 * i : Nat) : Int)) = ((10 + 2 * i : Nat) : Int) := by rw [wrap_i64 (by omega) (by omega)]; omega
    have hw := num_With_eq (l := padB 256 (inoH k l s p ++ inoD (d.take i))) (h := g ++ [some ⟨c0, true⟩, some ⟨z, true⟩, some ⟨encB (zeros 32), true⟩, some ⟨encB (padB 256 (inoH k l s p ++ inoD (d.take i))), true⟩]) (padB_length (by omega)) (a := ((10 + 2 * i : Nat) : Int)) (w := 2) (v := d[i])
    have e4 := withB_pad (l := inoH k l s p ++ inoD (d.take i)) (a := 10 + 2 * i) (w := 2) (v := d[i]) (by omega) (by omega) (by omega) (by omega)
    rw [show ((2 : Nat) : Int) = 2 from rfl, hlen, Nat.sub_self, show zeros 0 = [] from rfl, List.append_nil, List.append_assoc, ← inoD_snoc, ← List.take_succ_eq_append_getElem (by omega)] at e4
    rw [e4] at hw
    have hL' : (encB (padB 256 (inoH k l s p ++ inoD (d.take (i + 1))))).length = 256 := by
      rw [encB_length, padB_length (by rw [List.length_append, inoH_length, inoD_length, List.length_take]; omega)]
    rw [inode_Put_l0_eq]
    simp only [esc, esh, Nat.reduceAdd, Nat.reduceMul, Nat.reduceLT, h1', hx, hL, e2, e3, hw, hL', wi_succ (show i + 1 < 9223372036854775808 by omega)]
    exact ih

theorem inode_Put_eq {k l s p : Int} {d : List Int} {h : Heap} (hd : d.length = 7) :
    S_inode_Put [.a (inoC k l s p d)] h = some (.t [.a (encB (bif mayI k l s p d then inoB k l s p d else zeros 32)), .c (.i .i64 (bif mayI k l s p d then 0 else 1))], h) := by
  have hlen : (inoC k l s p d).length = 11 := by simp [encI_length, hd]
  have key : ∀ N, 33 < N → ∀ g, ∃ g', R_inode_Put N [.a (inoC k l s p d)] g = some (.t [.a (encB (bif mayI k l s p d then inoB k l s p d else zeros 32)), .c (.i .i64 (bif mayI k l s p d then 0 else 1))], g') := by
    intro N hN g
    have hz : (encB (zeros 32)).length = 32 := by rw [encB_length]; exact zeros_length
    have hz2 : (encB (zeros 256)).length = 256 := by rw [encB_length]; exact zeros_length
    rw [R_inode_Put_eq, zeros_enc, zeros_enc]
    cases c : mayI k l s p d with
    | false =>
      generalize zeros 32 = z at *
      generalize zeros 256 = y at *
      exact ⟨_, by simp only [esc, esh, Nat.reduceAdd, Nat.reduceMul, Nat.reduceLT, hlen, inode_Check_eq hd, c, hz, Int.reduceEq] <;> rfl⟩
    | true =>
      have := put_loop (g := g) (k := k) (l := l) (s := s) (p := p) (c0 := inoC k l s p d) (z := encB (zeros 32)) (q := N) hd hz hN 7 0 N (by omega) (by omega)
      simp only [List.take_zero, show inoD [] = [] from rfl, List.append_nil] at this
      have w1 := fun h => num_With_eq (h := h) (l := zeros 256) zeros_length (a := 0) (w := 1) (v := k)
      have w2 := fun h => num_With_eq (h := h) (l := withB (zeros 256) 0 1 k) (withB_length zeros_length) (a := 2) (w := 2) (v := l)
      have w3 := fun h => num_With_eq (h := h) (l := withB (withB (zeros 256) 0 1 k) 2 2 l) (withB_length (withB_length zeros_length)) (a := 4) (w := 4) (v := s)
      have w4 := fun h => num_With_eq (h := h) (l := withB (withB (withB (zeros 256) 0 1 k) 2 2 l) 4 4 s) (withB_length (withB_length (withB_length zeros_length))) (a := 8) (w := 2) (v := p)
      have l1 : (encB (withB (zeros 256) 0 1 k)).length = 256 := by rw [encB_length, withB_length zeros_length]
      have l2 : (encB (withB (withB (zeros 256) 0 1 k) 2 2 l)).length = 256 := by rw [encB_length, withB_length (withB_length zeros_length)]
      have l3 : (encB (withB (withB (withB (zeros 256) 0 1 k) 2 2 l) 4 4 s)).length = 256 := by rw [encB_length, withB_length (withB_length (withB_length zeros_length))]
      have l4 : (encB (padB 256 (inoH k l s p))).length = 256 := by rw [encB_length, padB_length (by rw [inoH_length]; omega)]
      simp only [inoH_with] at w4
      generalize zeros 32 = z at *
      generalize zeros 256 = y at *
      exact ⟨_, by simp only [esc, esh, Nat.reduceAdd, Nat.reduceMul, Nat.reduceLT, hlen, inode_Check_eq hd, c, hz, hz2, w1, w2, w3, w4, l1, l2, l3, l4, inode_Numbers_eq hd]; exact this⟩
  obtain ⟨g', e⟩ := key (h.length + 34) (by omega) (ro h)
  exact S_inode_Put_flat e (by simp)

def getK (b : List UInt8) : Int := fieldN b 0 1
def getL (b : List UInt8) : Int := fieldN b 2 2
def getS (b : List UInt8) : Int := fieldN b 4 4
def getP (b : List UInt8) : Int := fieldN b 8 2
def getD7 (b : List UInt8) : List Int := (List.range 7).map fun j => fieldN b (10 + 2 * j) 2
theorem getD7_length {b : List UInt8} : (getD7 b).length = 7 := by simp [getD7]
theorem getD7_get {b : List UInt8} {i : Nat} (hi : i < 7) : (getD7 b)[i]? = some (fieldN b (10 + 2 * i) 2) := by simp [getD7, hi]

theorem inoC_set {k l s p x : Int} {d : List Int} {i : Nat} : (inoC k l s p d).set (4 + i) (.i .i64 x) = inoC k l s p (d.set i x) := by
  rw [show 4 + i = i + 1 + 1 + 1 + 1 by omega]
  simp only [inoC, List.set_cons_succ, encI_set]

theorem take_pad_set {D : List Int} (hD : D.length = 7) {i : Nat} (hi : i < 7) : (D.take i ++ zI (7 - i)).set i D[i] = D.take (i + 1) ++ zI (7 - (i + 1)) := by
  have h6 : (D.take i).length = i := by simp; omega
  rw [List.set_append_right _ _ (by omega), h6, Nat.sub_self, List.take_succ_eq_append_getElem (by omega), List.append_assoc]
  refine congrArg (D.take i ++ ·) ?_
  rw [show 7 - i = 7 - (i + 1) + 1 by omega]
  unfold zI
  rw [List.replicate_succ, List.set_cons_zero]; rfl

theorem iget_loop {g : Heap} {b : List UInt8} {k l s p : Int} {c0 z : List Cell} {q : Nat} (hb : b.length = 32) (hz : z.length = 11) : ∀ e i m : Nat, i + e = 6 → e < m →
    inode_Get_l0 q m (.c (.p (g.length + 1) 0)) (.c (.p (g.length + 2) 0)) (.c (.p (g.length + 3) 0)) (.c (.i .i64 i)) (g ++ [some ⟨c0, true⟩, some ⟨z, true⟩, some ⟨encB (padB 256 b), true⟩, some ⟨inoC k l s p ((getD7 b).take i ++ zI (7 - i)), true⟩]) =
      some (.a (inoC k l s p (getD7 b)), g ++ [some ⟨c0, true⟩, some ⟨inoC k l s p (getD7 b), true⟩, some ⟨encB (padB 256 b), true⟩, some ⟨inoC k l s p (getD7 b), true⟩])
  | e, i, 0, _, hm => by omega
  | 0, i, m + 1, hi, hm => by
    have e0 : i = 6 := by omega
    subst e0
    have h1' : ¬ ((6 : Nat) : Int) < 6 := by omega
    have hX : (encB (padB 256 b)).length = 256 := by rw [encB_length, padB_length (by omega)]
    have ha := fun h => num_At_eq (h := h) (l := padB 256 b) (padB_length (by omega)) (a := 22) (w := 2)
    have e1 := at_pad (b := b) (a := 22) (w := 2) (by omega) (by omega) (by omega) (by omega)
    simp only [Int.cast_ofNat_Int] at e1
    simp only [e1] at ha
    have hl0 : (inoC k l s p ((getD7 b).take 6 ++ zI (7 - 6))).length = 11 := by simp [encI_length, getD7_length, zI_length]
    have ho : (encI ((getD7 b).take 6 ++ zI (7 - 6))).length = 7 := by simp [encI_length, getD7_length, zI_length]
    have hg6 : (getD7 b)[6]'(by rw [getD7_length]; omega) = fieldN b 22 2 := by
      have := getD7_get (b := b) (i := 6) (by omega)
      rw [List.getElem?_eq_getElem (by rw [getD7_length]; omega)] at this
      exact Option.some.inj this
    have es : (inoC k l s p ((getD7 b).take 6 ++ zI (7 - 6))).set 10 (.i .i64 (fieldN b 22 2)) = inoC k l s p (getD7 b) := by
      have h1 := inoC_set (k := k) (l := l) (s := s) (p := p) (x := fieldN b 22 2) (d := (getD7 b).take 6 ++ zI (7 - 6)) (i := 6)
      rw [show 4 + 6 = 10 from rfl] at h1
      rw [h1, ← hg6, take_pad_set getD7_length (by omega)]
      have : (getD7 b).take (6 + 1) ++ zI (7 - (6 + 1)) = getD7 b := by rw [List.take_of_length_le (by rw [getD7_length]; omega)]; simp [zI]
      rw [this]
    have hl1 : (inoC k l s p (getD7 b)).length = 11 := by simp [encI_length, getD7_length]
    rw [inode_Get_l0_eq]
    simp only [esc, esh, Nat.reduceAdd, Nat.reduceMul, Nat.reduceLT, h1', hX, ha, ho, es, hl1, hz, encI_length, getD7_length]
  | e + 1, i, m + 1, hi, hm => by
    have ih := iget_loop (g := g) (k := k) (l := l) (s := s) (p := p) (c0 := c0) (q := q) hb hz e (i + 1) m (by omega) (by omega)
    have h1' : (i : Int) < 6 := by omega
    have hX : (encB (padB 256 b)).length = 256 := by rw [encB_length, padB_length (by omega)]
    have e2 : IntKind.wrap .i64 (2 * (i : Int)) = ((2 * i : Nat) : Int) := by rw [wrap_i64 (by omega) (by omega)]; omega
    have e3 : IntKind.wrap .i64 (10 + ((2 * i : Nat) : Int)) = ((10 + 2 * i : Nat) : Int) := by rw [wrap_i64 (by omega) (by omega)]; omega
    have ha := fun h => num_At_eq (h := h) (l := padB 256 b) (padB_length (by omega)) (a := ((10 + 2 * i : Nat) : Int)) (w := 2)
    have e1 := at_pad (b := b) (a := 10 + 2 * i) (w := 2) (by omega) (by omega) (by omega) (by omega)
    rw [show ((2 : Nat) : Int) = 2 from rfl] at e1
    simp only [e1] at ha
    have a1 : aiAddrA 6 1 (.c (.p (g.length + 3) 4)) (.c (.i .i64 (i : Int))) = some (.c (.p (g.length + 3) (4 + i))) := by rw [iAddrA_of (by omega)]; simp
    have ho : (encI ((getD7 b).take i ++ zI (7 - i))).length = 7 := by simp [encI_length, getD7_length, zI_length]; omega
    have ho2 : 4 + i < 11 := by omega
    have hgi : (getD7 b)[i]'(by rw [getD7_length]; omega) = fieldN b (10 + 2 * i) 2 := by
      have := getD7_get (b := b) (i := i) (by omega)
      rw [List.getElem?_eq_getElem (by rw [getD7_length]; omega)] at this
      exact Option.some.inj this
    have es : (inoC k l s p ((getD7 b).take i ++ zI (7 - i))).set (4 + i) (.i .i64 (fieldN b (10 + 2 * i) 2)) = inoC k l s p ((getD7 b).take (i + 1) ++ zI (7 - (i + 1))) := by
      rw [inoC_set, ← hgi, take_pad_set getD7_length (by omega)]
    rw [inode_Get_l0_eq]
    simp only [esc, esh, Nat.reduceAdd, Nat.reduceMul, Nat.reduceLT, h1', hX, e2, e3, ha, a1, ho, ho2, es, wi_succ (show i + 1 < 9223372036854775808 by omega)]
    exact ih

theorem inode_Get_eq {b : List UInt8} {h : Heap} (hb : b.length = 32) : S_inode_Get [.a (encB b)] h = some (.a (inoC (getK b) (getL b) (getS b) (getP b) (getD7 b)), h) := by
  have key : ∀ N, 7 < N → ∀ g, ∃ g', R_inode_Get N [.a (encB b)] g = some (.a (inoC (getK b) (getL b) (getS b) (getP b) (getD7 b)), g') := by
    intro N hN g
    have hl : (encB b).length = 32 := by rw [encB_length, hb]
    have hX : (encB (padB 256 b)).length = 256 := by rw [encB_length, padB_length (by omega)]
    have hz : (List.replicate 256 (Cell.i .u8 0)).length = 256 := List.length_replicate
    have z11 : [Cell.i .i64 0, .i .i64 0, .i .i64 0, .i .i64 0, .i .i64 0, .i .i64 0, .i .i64 0, .i .i64 0, .i .i64 0, .i .i64 0, .i .i64 0] = inoC 0 0 0 0 (zI 7) := rfl
    have l11 : (inoC 0 0 0 0 (zI 7)).length = 11 := rfl
    have ho := num_Of_eq (h := g ++ [some ⟨encB b, true⟩, some ⟨inoC 0 0 0 0 (zI 7), true⟩]) (v := .c (.sl g.length 0 32 1)) (nv := 32) (data := b) (Has.tr (by simp) (by omega) (noX_encB _)) (by omega)
    rw [of_pad (by omega)] at ho
    have at_ : ∀ (a w : Nat), a + w ≤ 32 → 1 ≤ w → w ≤ 4 → ∀ h, S_num_At [.a (encB (padB 256 b)), .c (.i .i64 a), .c (.i .i64 w)] h = some (.c (.i .i64 (fieldN b a w)), h) := fun a w h1 h2 h3 h => by
      rw [num_At_eq (padB_length (by omega)), at_pad (by omega) (by omega) h2 h3]
    have a1 := at_ 0 1 (by omega) (by omega) (by omega)
    have a2 := at_ 2 2 (by omega) (by omega) (by omega)
    have a3 := at_ 4 4 (by omega) (by omega) (by omega)
    have a4 := at_ 8 2 (by omega) (by omega) (by omega)
    simp only [Int.cast_ofNat_Int] at a1 a2 a3 a4
    have ef : afill (inoC 0 0 0 0 (zI 7)) [(0, 1, .c (.i .i64 (fieldN b 0 1))), (1, 1, .c (.i .i64 (fieldN b 2 2))), (2, 1, .c (.i .i64 (fieldN b 4 4))), (3, 1, .c (.i .i64 (fieldN b 8 2)))] = some (inoC (getK b) (getL b) (getS b) (getP b) (zI 7)) := rfl
    have lf : (inoC (getK b) (getL b) (getS b) (getP b) (zI 7)).length = 11 := rfl
    have := iget_loop (g := g) (b := b) (k := getK b) (l := getL b) (s := getS b) (p := getP b) (c0 := encB b) (z := inoC 0 0 0 0 (zI 7)) (q := N) hb l11 6 0 N (by omega) (by omega)
    simp only [List.take_zero, List.nil_append, Nat.sub_zero] at this
    rw [R_inode_Get_eq, z11]
    generalize List.replicate 256 (Cell.i .u8 0) = z at *
    generalize inoC 0 0 0 0 (zI 7) = y at *
    exact ⟨_, by simp only [esc, esh, Nat.reduceAdd, Nat.reduceMul, Nat.reduceLT, hl, ho, hz, hX, a1, a2, a3, a4, ef, l11, lf]; exact this⟩
  obtain ⟨g', e⟩ := key (h.length + 8) (by omega) (ro h)
  exact S_inode_Get_flat e (by simp)

def cleanI (b : List UInt8) : Bool := mayI (getK b) (getL b) (getS b) (getP b) (getD7 b) && decide (inoB (getK b) (getL b) (getS b) (getP b) (getD7 b) = b)

def cleanC (b : List UInt8) : List Cell := bif cleanI b then inoC (getK b) (getL b) (getS b) (getP b) (getD7 b) else inoC 0 0 0 0 (zI 7)

theorem cleanC_length {b : List UInt8} : (cleanC b).length = 11 := by
  unfold cleanC
  cases cleanI b <;> simp [encI_length, getD7_length, zI_length]
theorem flats_cleanC {b : List UInt8} : flats (cleanC b) = true := by
  unfold cleanC
  cases cleanI b <;> simp

theorem inode_Clean_eq {b : List UInt8} {h : Heap} (hb : b.length = 32) : S_inode_Clean [.a (encB b)] h = some (.t [.a (cleanC b), .c (.b (cleanI b))], h) := by
  have key : ∀ g, ∃ g', R_inode_Clean 0 [.a (encB b)] g = some (.t [.a (cleanC b), .c (.b (cleanI b))], g') := by
    intro g
    have hl : (encB b).length = 32 := by rw [encB_length, hb]
    have hI : (inoC (getK b) (getL b) (getS b) (getP b) (getD7 b)).length = 11 := by simp [encI_length, getD7_length]
    have z11 : [Cell.i .i64 0, .i .i64 0, .i .i64 0, .i .i64 0, .i .i64 0, .i .i64 0, .i .i64 0, .i .i64 0, .i .i64 0, .i .i64 0, .i .i64 0] = inoC 0 0 0 0 (zI 7) := rfl
    have l11 : (inoC 0 0 0 0 (zI 7)).length = 11 := rfl
    have af := afill_ino
    rw [z11] at af
    have hz : (List.replicate 32 (Cell.i .u8 0)).length = 32 := List.length_replicate
    have hp := fun h => inode_Put_eq (h := h) (k := getK b) (l := getL b) (s := getS b) (p := getP b) (d := getD7 b) getD7_length
    have hB : (encB (inoB (getK b) (getL b) (getS b) (getP b) (getD7 b))).length = 32 := by rw [encB_length, inoB_length getD7_length]
    have hZ : (encB (zeros 32)).length = 32 := by rw [encB_length]; exact zeros_length
    have hq := aeq_t (l := inoB (getK b) (getL b) (getS b) (getP b) (getD7 b)) (m := b) (n := 32) (inoB_length getD7_length) hb
    rw [R_inode_Clean_eq, z11]
    unfold cleanC cleanI
    generalize List.replicate 32 (Cell.i .u8 0) = z at *
    generalize inoC 0 0 0 0 (zI 7) = y at *
    cases c : mayI (getK b) (getL b) (getS b) (getP b) (getD7 b) with
    | false =>
      simp only [c, cond_false] at hp
      exact ⟨_, by simp only [esc, esh, Nat.reduceAdd, Nat.reduceMul, Nat.reduceLT, hl, inode_Get_eq hb, hI, l11, hp, hz, hZ, Int.reduceEq, af, Bool.false_and] <;> rfl⟩
    | true =>
      simp only [c, cond_true] at hp
      cases c2 : decide (inoB (getK b) (getL b) (getS b) (getP b) (getD7 b) = b) with
      | false =>
        rw [c2] at hq
        exact ⟨_, by simp only [esc, esh, Nat.reduceAdd, Nat.reduceMul, Nat.reduceLT, hl, inode_Get_eq hb, hI, l11, hp, hz, hB, hq, af, Bool.and_false] <;> rfl⟩
      | true =>
        rw [c2] at hq
        exact ⟨_, by simp only [esc, esh, Nat.reduceAdd, Nat.reduceMul, Nat.reduceLT, hl, inode_Get_eq hb, hI, l11, hp, hz, hB, hq, Bool.and_true] <;> rfl⟩
  obtain ⟨g', e⟩ := key (ro h)
  exact S_inode_Clean_flat e (by simp [flats_cleanC])

end Go.Proofs.Ytdgggnlbdoiloaa
end
noncomputable section
namespace Go.Proofs.Ytdgggnlbdoiloaa
open Go Go.Esc
set_option maxRecDepth 100000
def index_depth_o0 : List AOper := [aO 1 (.box (.t 0)), aO 2 (.mv (.v (.c (.i .i64 0))))]
def index_depth_c0 : ACode := .ops index_depth_o0
def index_depth_o1 : List AOper := [aO 3 (.fAddr (.t 1) 0), aO 4 (.load1 (.t 3)), aO 5 (.min (.t 4) (.v (.c (.i .i64 5)))), aO 6 (.max (.v (.c (.i .i64 0))) (.t 5)), aO 2 (.mv (.t 6))]
def index_depth_c1 : ACode := .ops index_depth_o1
def index_depth_c2 : ACode := .seq [2] index_depth_c1 .ret
def index_depth_c3 : ACode := .seq [1] index_depth_c0 index_depth_c2
def A_index_depth : AFn := ⟨index_depth_c3, [.tmp 2]⟩
def E_index_depth : Sums := disp0
def index_depth_c0_d (n : Nat) : SmV := smOps E_index_depth index_depth_o0
def index_depth_c1_d (n : Nat) : SmV := smOps E_index_depth index_depth_o1
def index_depth_c2_d (n : Nat) : SmV := smSeq [2] (index_depth_c1_d n) smRet
def index_depth_c3_d (n : Nat) : SmV := smSeq [1] (index_depth_c0_d n) (index_depth_c2_d n)
def R_index_depth (n : Nat) (args : List Val) (h : Heap) : OptV := (index_depth_c3_d n) A_index_depth.fin (params 0 args) h
theorem R_index_depth_eq (n : Nat) (a0 : Val) (h : Heap) : R_index_depth n [a0] h = bnd (cells? a0) fun c1 => bnd (afAddr ((.c (.p h.length 0))) 0) fun v2 => bnd (aload1 ((h ++ [some (Row.mk (c1) true)])) v2) fun v3 => bnd (amin v3 (.c (.i .i64 5))) fun v4 => bnd (amax (.c (.i .i64 0)) v4) fun v5 => some (v5, (h ++ [some (Row.mk (c1) true)])) := by kernel_rfl
theorem K_index_depth : FnK Try.prog 145 A_index_depth E_index_depth R_index_depth := .mk' (sound0) Try.func145 (by kernel_rfl) (by intro n args h; kernel_rfl)
def S_index_depth : Fun := tidy (Lim A_index_depth E_index_depth)
theorem S_index_depth_ok : SOk Try.prog 145 S_index_depth := K_index_depth.sok
theorem S_index_depth_flat {n : Nat} {args : List Val} {h h2 : Heap} {v : Val} (he : R_index_depth n args (ro h) = some (v, h2)) (hf : v.flat = true) : S_index_depth args h = some (v, h) := K_index_depth.flat he hf
def index_fine_o0 : List AOper := [aO 2 (.mv (.v (.c (.b false))))]
def index_fine_c0 : ACode := .ops index_fine_o0
def index_fine_o1 : List AOper := [aO 3 (.mv (.t 0)), aO 4 (.bin .geq (.t 3) (.v (.c (.i .i64 0)))), aO 5 (.mv (.t 4)), { dst := some 6, op := .mv (.t 0), guard := some (5, true) }, { dst := some 7, op := .bin .leq (.t 6) (.v (.c (.i .i64 65535))), guard := some (5, true) }, aO 8 (.pick (.t 5) (.t 7) (.v (.c (.b false)))), aO 2 (.mv (.t 8))]
def index_fine_c1 : ACode := .ops index_fine_o1
def index_fine_c2 : ACode := .seq [2] index_fine_c1 .ret
def index_fine_c3 : ACode := .seq [0] index_fine_c0 index_fine_c2
def A_index_fine : AFn := ⟨index_fine_c3, [.tmp 2]⟩
def E_index_fine : Sums := disp0
def index_fine_c0_d (n : Nat) : SmV := smOps E_index_fine index_fine_o0
def index_fine_c1_d (n : Nat) : SmV := smOps E_index_fine index_fine_o1
def index_fine_c2_d (n : Nat) : SmV := smSeq [2] (index_fine_c1_d n) smRet
def index_fine_c3_d (n : Nat) : SmV := smSeq [0] (index_fine_c0_d n) (index_fine_c2_d n)
def R_index_fine (n : Nat) (args : List Val) (h : Heap) : OptV := (index_fine_c3_d n) A_index_fine.fin (params 0 args) h
theorem R_index_fine_eq (n : Nat) (a0 : Val) (h : Heap) : R_index_fine n [a0] h = bnd (abin .geq a0 (.c (.i .i64 0))) fun v1 => bnd (gd v1 true (some (a0, h)) (some (.no, h))) fun p2 => bnd (gd v1 true (bnd (abin .leq p2.1 (.c (.i .i64 65535))) fun v3 => some (v3, p2.2)) (some (.no, p2.2))) fun p4 => bnd (apick v1 p4.1 (.c (.b false))) fun v5 => some (v5, p4.2) := by kernel_rfl
theorem K_index_fine : FnK Try.prog 146 A_index_fine E_index_fine R_index_fine := .mk' (sound0) Try.func146 (by kernel_rfl) (by intro n args h; kernel_rfl)
def S_index_fine : Fun := tidy (Lim A_index_fine E_index_fine)
theorem S_index_fine_ok : SOk Try.prog 146 S_index_fine := K_index_fine.sok
theorem S_index_fine_flat {n : Nat} {args : List Val} {h h2 : Heap} {v : Val} (he : R_index_fine n args (ro h) = some (v, h2)) (hf : v.flat = true) : S_index_fine args h = some (v, h) := K_index_fine.flat he hf
def index_Put_o0 : List AOper := [aO 1 (.box (.t 0)), aO 2 (.alloc (List.replicate 256 (.i .u8 0))), aO 3 (.mv (.v (.c (.i .i64 0))))]
def index_Put_c0 : ACode := .ops index_Put_o0
def index_Put_o1 : List AOper := [aO 7 (.fAddr (.t 1) 0), aO 8 (.load1 (.t 7)), aO 9 (.loadN 33 (.t 1)), aO 10 (.call 145 [(.t 9)])]
def index_Put_o2 : List AOper := [aO 11 (.bin .neq (.t 8) (.t 10))]
def index_Put_c1 : ACode := .draw 0 index_Put_o1 index_Put_o2
def index_Put_o3 : List AOper := [aO 12 (.build (List.replicate 256 (.i .u8 0)) []), { dst := none, op := .storeN 256 (.t 2) (.t 12) }, aO 3 (.mv (.v (.c (.i .i64 1))))]
def index_Put_c2 : ACode := .ops index_Put_o3
def index_Put_c3 : ACode := .seq [2, 3] index_Put_c2 .ret
def index_Put_c4 : ACode := .cond (.t 11) index_Put_c3 .skip
def index_Put_c5 : ACode := .seq [1, 2, 11] index_Put_c1 index_Put_c4
def index_Put_o4 : List AOper := [{ dst := some 13, op := .buildSl 1 4 ([.i .u8 0, .i .u8 0, .i .u8 0, .i .u8 0]) [(0, 1, (.v (.c (.i .u8 105)))), (1, 1, (.v (.c (.i .u8 100)))), (2, 1, (.v (.c (.i .u8 120)))), (3, 1, (.v (.c (.i .u8 33))))], slot := some 0 }, aO 14 (.mark (.t 13)), aO 15 (.call 95 [(.t 14)]), aO 16 (.fAddr (.t 1) 0), aO 17 (.load1 (.t 16)), aO 18 (.call 96 [(.t 15), (.v (.c (.i .i64 4))), (.v (.c (.i .i64 1))), (.t 17)]), { dst := some 4, op := .alloc (List.replicate 256 (.i .u8 0)), slot := some 1 }]
def index_Put_o5 : List AOper := [{ dst := none, op := .storeN 256 (.t 4) (.t 18) }]
def index_Put_c6 : ACode := .draw 2 index_Put_o4 index_Put_o5
def index_Put_o6 : List AOper := [aO 19 (.fAddr (.t 1) 1), aO 20 (.loadN 32 (.t 19)), aO 21 (.mv (.v (.c (.i .i64 0))))]
def index_Put_c7 : ACode := .ops index_Put_o6
def index_Put_o7 : List AOper := [aO 22 (.bin .lss (.t 21) (.v (.c (.i .i64 32))))]
def index_Put_c8 : ACode := .ops index_Put_o7
def index_Put_c9 : ACode := .cond (.t 22) .skip (.exit 0)
def index_Put_o8 : List AOper := [aO 23 (.mv (.t 21)), aO 24 (.idxA1 32 (.t 20) (.t 21)), aO 5 (.mv (.t 23)), aO 6 (.mv (.t 24))]
def index_Put_c10 : ACode := .ops index_Put_o8
def index_Put_o9 : List AOper := [aO 25 (.mv (.t 6)), aO 26 (.call 146 [(.t 25)]), aO 27 (.un .not (.t 26))]
def index_Put_c11 : ACode := .ops index_Put_o9
def index_Put_o10 : List AOper := [aO 28 (.build (List.replicate 256 (.i .u8 0)) []), { dst := none, op := .storeN 256 (.t 2) (.t 28) }, aO 3 (.mv (.v (.c (.i .i64 1))))]
def index_Put_c12 : ACode := .ops index_Put_o10
def index_Put_c13 : ACode := .seq [2, 3] index_Put_c12 .ret
def index_Put_c14 : ACode := .cond (.t 27) index_Put_c13 .skip
def index_Put_c15 : ACode := .seq [2, 4, 5, 6, 20, 21, 27] index_Put_c11 index_Put_c14
def index_Put_o11 : List AOper := [aO 29 (.loadN 256 (.t 4)), aO 30 (.mv (.t 5)), aO 31 (.bin .mul (.v (.c (.i .i64 2))) (.t 30)), aO 32 (.bin .add (.v (.c (.i .i64 32))) (.t 31)), aO 33 (.mv (.t 6)), aO 34 (.call 96 [(.t 29), (.t 32), (.v (.c (.i .i64 2))), (.t 33)]), { dst := none, op := .storeN 256 (.t 4) (.t 34) }]
def index_Put_c16 : ACode := .ops index_Put_o11
def index_Put_c17 : ACode := .seq [2, 4, 5, 6, 20, 21] index_Put_c15 index_Put_c16
def index_Put_c18 : ACode := .seq [2, 4, 5, 6, 20, 21] index_Put_c10 index_Put_c17
def index_Put_c19 : ACode := .block 1 index_Put_c18
def index_Put_o12 : List AOper := [aO 35 (.bin .add (.t 21) (.v (.c (.i .i64 1)))), aO 21 (.mv (.t 35))]
def index_Put_c20 : ACode := .ops index_Put_o12
def index_Put_c21 : ACode := .seq [2, 4, 20, 21] index_Put_c19 index_Put_c20
def index_Put_c22 : ACode := .seq [2, 4, 20, 21] index_Put_c9 index_Put_c21
def index_Put_c23 : ACode := .seq [2, 4, 20, 21, 22] index_Put_c8 index_Put_c22
def index_Put_c24 : ACode := .loop [2, 4, 20, 21] index_Put_c23
def index_Put_c25 : ACode := .block 0 index_Put_c24
def index_Put_c26 : ACode := .seq [2, 4, 20, 21] index_Put_c7 index_Put_c25
def index_Put_o13 : List AOper := [aO 36 (.loadN 256 (.t 4)), { dst := none, op := .storeN 256 (.t 2) (.t 36) }, aO 3 (.mv (.v (.c (.i .i64 0))))]
def index_Put_c27 : ACode := .ops index_Put_o13
def index_Put_c28 : ACode := .seq [2, 3] index_Put_c27 .ret
def index_Put_c29 : ACode := .seq [2, 4] index_Put_c26 index_Put_c28
def index_Put_c30 : ACode := .seq [1, 2, 4] index_Put_c6 index_Put_c29
def index_Put_c31 : ACode := .seq [1, 2] index_Put_c5 index_Put_c30
def index_Put_c32 : ACode := .seq [1, 2] index_Put_c0 index_Put_c31
def A_index_Put : AFn := ⟨index_Put_c32, [.cellN 2 256, .tmp 3]⟩
def E_index_Put : Sums := disp 145 S_index_depth (disp 95 S_num_Of (disp 96 S_num_With (disp 146 S_index_fine disp0)))
def index_Put_c0_d (n : Nat) : SmV := smOps E_index_Put index_Put_o0
def index_Put_c1_d (n : Nat) : SmV := smDraw E_index_Put 0 index_Put_o1 index_Put_o2
def index_Put_c2_d (n : Nat) : SmV := smOps E_index_Put index_Put_o3
def index_Put_c3_d (n : Nat) : SmV := smSeq [2, 3] (index_Put_c2_d n) smRet
def index_Put_c4_d (n : Nat) : SmV := smCond (.t 11) (index_Put_c3_d n) smSkip
def index_Put_c5_d (n : Nat) : SmV := smSeq [1, 2, 11] (index_Put_c1_d n) (index_Put_c4_d n)
def index_Put_c6_d (n : Nat) : SmV := smDraw E_index_Put 2 index_Put_o4 index_Put_o5
def index_Put_c7_d (n : Nat) : SmV := smOps E_index_Put index_Put_o6
def index_Put_c8_d (n : Nat) : SmV := smOps E_index_Put index_Put_o7
def index_Put_c9_d (n : Nat) : SmV := smCond (.t 22) smSkip (smExit 0)
def index_Put_c10_d (n : Nat) : SmV := smOps E_index_Put index_Put_o8
def index_Put_c11_d (n : Nat) : SmV := smOps E_index_Put index_Put_o9
def index_Put_c12_d (n : Nat) : SmV := smOps E_index_Put index_Put_o10
def index_Put_c13_d (n : Nat) : SmV := smSeq [2, 3] (index_Put_c12_d n) smRet
def index_Put_c14_d (n : Nat) : SmV := smCond (.t 27) (index_Put_c13_d n) smSkip
def index_Put_c15_d (n : Nat) : SmV := smSeq [2, 4, 5, 6, 20, 21, 27] (index_Put_c11_d n) (index_Put_c14_d n)
def index_Put_c16_d (n : Nat) : SmV := smOps E_index_Put index_Put_o11
def index_Put_c17_d (n : Nat) : SmV := smSeq [2, 4, 5, 6, 20, 21] (index_Put_c15_d n) (index_Put_c16_d n)
def index_Put_c18_d (n : Nat) : SmV := smSeq [2, 4, 5, 6, 20, 21] (index_Put_c10_d n) (index_Put_c17_d n)
def index_Put_c19_d (n : Nat) : SmV := smBlock 1 (index_Put_c18_d n)
def index_Put_c20_d (n : Nat) : SmV := smOps E_index_Put index_Put_o12
def index_Put_c21_d (n : Nat) : SmV := smSeq [2, 4, 20, 21] (index_Put_c19_d n) (index_Put_c20_d n)
def index_Put_c22_d (n : Nat) : SmV := smSeq [2, 4, 20, 21] (index_Put_c9_d n) (index_Put_c21_d n)
def index_Put_c23_d (n : Nat) : SmV := smSeq [2, 4, 20, 21, 22] (index_Put_c8_d n) (index_Put_c22_d n)
def index_Put_c24_d (n : Nat) : SmV := smLoop n [2, 4, 20, 21] (index_Put_c23_d n)
def index_Put_c25_d (n : Nat) : SmV := smBlock 0 (index_Put_c24_d n)
def index_Put_c26_d (n : Nat) : SmV := smSeq [2, 4, 20, 21] (index_Put_c7_d n) (index_Put_c25_d n)
def index_Put_c27_d (n : Nat) : SmV := smOps E_index_Put index_Put_o13
def index_Put_c28_d (n : Nat) : SmV := smSeq [2, 3] (index_Put_c27_d n) smRet
def index_Put_c29_d (n : Nat) : SmV := smSeq [2, 4] (index_Put_c26_d n) (index_Put_c28_d n)
def index_Put_c30_d (n : Nat) : SmV := smSeq [1, 2, 4] (index_Put_c6_d n) (index_Put_c29_d n)
def index_Put_c31_d (n : Nat) : SmV := smSeq [1, 2] (index_Put_c5_d n) (index_Put_c30_d n)
def index_Put_c32_d (n : Nat) : SmV := smSeq [1, 2] (index_Put_c0_d n) (index_Put_c31_d n)
def index_Put_k0 (n : Nat) : AExit → Env → Heap → OptV := fun x e h => match x with | .normal => hold ((index_Put_c28_d n) A_index_Put.fin (e.keep [2, 4]) h) | .exit id => A_index_Put.fin (.exit id) e h | .ret => A_index_Put.fin .ret e h
def index_Put_k1 (n : Nat) : AExit → Env → Heap → OptV := fun x e h => match x with | .exit i => bif Nat.beq i 0 then (index_Put_k0 n) .normal e h else (index_Put_k0 n) (.exit i) e h | .normal => (index_Put_k0 n) .normal e h | .ret => (index_Put_k0 n) .ret e h
def index_Put_l0 (n m : Nat) (x2 x4 x20 x21 : Val) (h : Heap) : OptV := around (index_Put_c23_d n) [2, 4, 20, 21] (index_Put_k1 n) m [(2, x2), (4, x4), (20, x20), (21, x21)] h
def R_index_Put (n : Nat) (args : List Val) (h : Heap) : OptV := (index_Put_c32_d n) A_index_Put.fin (params 0 args) h
theorem R_index_Put_eq (n : Nat) (a0 : Val) (h : Heap) : R_index_Put n [a0] h = bnd (cells? a0) fun c1 => bnd (afAddr ((.c (.p h.length 0))) 0) fun v2 => bnd (aload1 (((h ++ [some (Row.mk (c1) true)]) ++ [some (Row.mk (List.replicate 256 (.i .u8 0)) true)])) v2) fun v3 => bnd (aloadN (((h ++ [some (Row.mk (c1) true)]) ++ [some (Row.mk (List.replicate 256 (.i .u8 0)) true)])) 33 ((.c (.p h.length 0)))) fun v4 => bnd (quiet (((((h ++ [some (Row.mk (c1) true)]) ++ [some (Row.mk (List.replicate 256 (.i .u8 0)) true)])) ++ [])) (S_index_depth [v4] (((((h ++ [some (Row.mk (c1) true)]) ++ [some (Row.mk (List.replicate 256 (.i .u8 0)) true)])) ++ [])))) fun p5 => bnd (abin .neq v3 p5.1) fun v6 => cnd v6 (bnd (afill (List.replicate 256 (.i .u8 0)) []) fun c7 => bnd (astoreN p5.2 256 ((.c (.p ((h ++ [some (Row.mk (c1) true)])).length 0))) ((.a c7))) fun h8 => tupN [aloadN h8 256 ((.c (.p ((h ++ [some (Row.mk (c1) true)])).length 0))), some (.c (.i .i64 1))] h8) (bnd (afill ([.i .u8 0, .i .u8 0, .i .u8 0, .i .u8 0]) [(0, 1, .c (.i .u8 105)), (1, 1, .c (.i .u8 100)), (2, 1, .c (.i .u8 120)), (3, 1, .c (.i .u8 33))]) fun c9 => bnd (amark ((((p5.2 ++ [none, none])).set (p5.2.length + 0) (some (Row.mk (c9) true)))) ((.c (.sl (p5.2.length + 0) 0 4 1)))) fun v10 => bnd (quiet ((((p5.2 ++ [none, none])).set (p5.2.length + 0) (some (Row.mk (c9) true)))) (S_num_Of [v10] ((((p5.2 ++ [none, none])).set (p5.2.length + 0) (some (Row.mk (c9) true)))))) fun p11 => bnd (afAddr ((.c (.p h.length 0))) 0) fun v12 => bnd (aload1 p5.2 v12) fun v13 => bnd (quiet p11.2 (S_num_With [p11.1, .c (.i .i64 4), .c (.i .i64 1), v13] p11.2)) fun p14 => bnd (astoreN ((p14.2.set (p5.2.length + 1) (some (Row.mk (List.replicate 256 (.i .u8 0)) true)))) 256 ((.c (.p (p5.2.length + 1) 0))) p14.1) fun h15 => bnd (afAddr ((.c (.p h.length 0))) 1) fun v16 => bnd (aloadN h15 32 v16) fun v17 => index_Put_l0 n n ((.c (.p ((h ++ [some (Row.mk (c1) true)])).length 0))) ((.c (.p (p5.2.length + 1) 0))) v17 (.c (.i .i64 0)) h15) := by kernel_rfl
theorem index_Put_l0_eq (n m : Nat) (x2 x4 x20 x21 : Val) (h : Heap) : index_Put_l0 n (m + 1) x2 x4 x20 x21 h = bnd (abin .lss x21 (.c (.i .i64 32))) fun v18 => cnd v18 (bnd (aidxA1 32 x20 x21) fun v19 => bnd (S_index_fine [v19] h) fun p20 => bnd (aun .not p20.1) fun v21 => cnd v21 (bnd (afill (List.replicate 256 (.i .u8 0)) []) fun c22 => bnd (astoreN p20.2 256 x2 ((.a c22))) fun h23 => tupN [aloadN h23 256 x2, some (.c (.i .i64 1))] h23) (bnd (aloadN p20.2 256 x4) fun v24 => bnd (abin .mul (.c (.i .i64 2)) x21) fun v25 => bnd (abin .add (.c (.i .i64 32)) v25) fun v26 => bnd (S_num_With [v24, v26, .c (.i .i64 2), v19] p20.2) fun p27 => bnd (astoreN p27.2 256 x4 p27.1) fun h28 => bnd (abin .add x21 (.c (.i .i64 1))) fun v29 => index_Put_l0 n m x2 x4 x20 v29 h28)) (bnd (aloadN h 256 x4) fun v30 => bnd (astoreN h 256 x2 v30) fun h31 => tupN [aloadN h31 256 x2, some (.c (.i .i64 0))] h31) := by kernel_rfl
theorem K_index_Put : FnK Try.prog 117 A_index_Put E_index_Put R_index_Put := .mk' (sound1 S_index_depth_ok (sound1 S_num_Of_ok (sound1 S_num_With_ok (sound1 S_index_fine_ok sound0)))) Try.func117 (by kernel_rfl) (by intro n args h; kernel_rfl)
def S_index_Put : Fun := tidy (Lim A_index_Put E_index_Put)
theorem S_index_Put_ok : SOk Try.prog 117 S_index_Put := K_index_Put.sok
theorem S_index_Put_flat {n : Nat} {args : List Val} {h h2 : Heap} {v : Val} (he : R_index_Put n args (ro h) = some (v, h2)) (hf : v.flat = true) : S_index_Put args h = some (v, h) := K_index_Put.flat he hf
def index_many_o0 : List AOper := [aO 1 (.box (.t 0)), aO 2 (.mv (.v (.c (.i .i64 0))))]
def index_many_c0 : ACode := .ops index_many_o0
def index_many_o1 : List AOper := [aO 3 (.loadN 33 (.t 1)), aO 4 (.call 145 [(.t 3)]), aO 5 (.conv .u64 (.t 4)), aO 6 (.bin .shl (.v (.c (.i .i64 1))) (.t 5)), aO 2 (.mv (.t 6))]
def index_many_c1 : ACode := .ops index_many_o1
def index_many_c2 : ACode := .seq [2] index_many_c1 .ret
def index_many_c3 : ACode := .seq [1] index_many_c0 index_many_c2
def A_index_many : AFn := ⟨index_many_c3, [.tmp 2]⟩
def E_index_many : Sums := disp 145 S_index_depth disp0
def index_many_c0_d (n : Nat) : SmV := smOps E_index_many index_many_o0
def index_many_c1_d (n : Nat) : SmV := smOps E_index_many index_many_o1
def index_many_c2_d (n : Nat) : SmV := smSeq [2] (index_many_c1_d n) smRet
def index_many_c3_d (n : Nat) : SmV := smSeq [1] (index_many_c0_d n) (index_many_c2_d n)
def R_index_many (n : Nat) (args : List Val) (h : Heap) : OptV := (index_many_c3_d n) A_index_many.fin (params 0 args) h
theorem R_index_many_eq (n : Nat) (a0 : Val) (h : Heap) : R_index_many n [a0] h = bnd (cells? a0) fun c1 => bnd (aloadN ((h ++ [some (Row.mk (c1) true)])) 33 ((.c (.p h.length 0)))) fun v2 => bnd (S_index_depth [v2] ((h ++ [some (Row.mk (c1) true)]))) fun p3 => bnd (aconv .u64 p3.1) fun v4 => bnd (abin .shl (.c (.i .i64 1)) v4) fun v5 => some (v5, p3.2) := by kernel_rfl
theorem K_index_many : FnK Try.prog 118 A_index_many E_index_many R_index_many := .mk' (sound1 S_index_depth_ok sound0) Try.func118 (by kernel_rfl) (by intro n args h; kernel_rfl)
def S_index_many : Fun := tidy (Lim A_index_many E_index_many)
theorem S_index_many_ok : SOk Try.prog 118 S_index_many := K_index_many.sok
theorem S_index_many_flat {n : Nat} {args : List Val} {h h2 : Heap} {v : Val} (he : R_index_many n args (ro h) = some (v, h2)) (hf : v.flat = true) : S_index_many args h = some (v, h) := K_index_many.flat he hf
def index_Get_o0 : List AOper := [aO 1 (.box (.t 0)), aO 2 (.alloc ([.i .i64 0] ++ List.replicate 32 (.i .i64 0))), aO 3 (.mv (.v (.c (.i .i64 0))))]
def index_Get_c0 : ACode := .ops index_Get_o0
def index_Get_o1 : List AOper := [aO 9 (.loadN 256 (.t 1)), aO 10 (.call 101 [(.t 9), (.v (.c (.i .i64 4))), (.v (.c (.i .i64 1)))]), aO 11 (.build ([.i .i64 0] ++ List.replicate 32 (.i .i64 0)) [(0, 1, (.t 10))]), aO 4 (.alloc ([.i .i64 0] ++ List.replicate 32 (.i .i64 0))), { dst := none, op := .storeN 33 (.t 4) (.t 11) }]
def index_Get_c1 : ACode := .ops index_Get_o1
def index_Get_o2 : List AOper := [aO 12 (.mv (.v (.c (.i .i64 0))))]
def index_Get_c2 : ACode := .ops index_Get_o2
def index_Get_o3 : List AOper := [aO 13 (.bin .lss (.t 12) (.v (.c (.i .i64 32))))]
def index_Get_c3 : ACode := .ops index_Get_o3
def index_Get_c4 : ACode := .cond (.t 13) .skip (.exit 0)
def index_Get_o4 : List AOper := [aO 14 (.mv (.t 12)), aO 5 (.mv (.t 14))]
def index_Get_c5 : ACode := .ops index_Get_o4
def index_Get_o5 : List AOper := [aO 15 (.mv (.t 5)), aO 16 (.loadN 256 (.t 1)), aO 17 (.mv (.t 5)), aO 18 (.bin .mul (.v (.c (.i .i64 2))) (.t 17)), aO 19 (.bin .add (.v (.c (.i .i64 32))) (.t 18)), aO 20 (.call 101 [(.t 16), (.t 19), (.v (.c (.i .i64 2)))]), aO 21 (.fAddr (.t 4) 1), aO 22 (.iAddrA 32 1 (.t 21) (.t 15)), { dst := none, op := .store1 (.t 22) (.t 20) }]
def index_Get_c6 : ACode := .ops index_Get_o5
def index_Get_c7 : ACode := .seq [1, 2, 4, 5, 12] index_Get_c5 index_Get_c6
def index_Get_c8 : ACode := .block 1 index_Get_c7
def index_Get_o6 : List AOper := [aO 23 (.bin .add (.t 12) (.v (.c (.i .i64 1)))), aO 12 (.mv (.t 23))]
def index_Get_c9 : ACode := .ops index_Get_o6
def index_Get_c10 : ACode := .seq [1, 2, 4, 12] index_Get_c8 index_Get_c9
def index_Get_c11 : ACode := .seq [1, 2, 4, 12] index_Get_c4 index_Get_c10
def index_Get_c12 : ACode := .seq [1, 2, 4, 12, 13] index_Get_c3 index_Get_c11
def index_Get_c13 : ACode := .loop [1, 2, 4, 12] index_Get_c12
def index_Get_c14 : ACode := .block 0 index_Get_c13
def index_Get_c15 : ACode := .seq [1, 2, 4, 12] index_Get_c2 index_Get_c14
def index_Get_o7 : List AOper := [aO 25 (.loadN 33 (.t 4)), aO 26 (.call 117 [(.t 25)]), aO 24 (.mv (.t 26)), aO 27 (.ext (.t 24) 0), aO 28 (.ext (.t 24) 1), aO 6 (.alloc (List.replicate 256 (.i .u8 0))), { dst := none, op := .storeN 256 (.t 6) (.t 27) }, aO 7 (.mv (.t 28))]
def index_Get_c16 : ACode := .ops index_Get_o7
def index_Get_o8 : List AOper := [aO 29 (.mv (.t 7)), aO 30 (.bin .neq (.t 29) (.v (.c (.i .i64 0)))), aO 31 (.mv (.t 30)), { dst := some 32, op := .loadN 256 (.t 6), guard := some (31, false) }, { dst := some 33, op := .loadN 256 (.t 1), guard := some (31, false) }, { dst := some 34, op := .eqA true (List.replicate 256 (.i .u8)) (.t 32) (.t 33), guard := some (31, false) }, aO 35 (.pick (.t 31) (.v (.c (.b true))) (.t 34))]
def index_Get_c17 : ACode := .ops index_Get_o8
def index_Get_o9 : List AOper := [aO 36 (.build ([.i .i64 0] ++ List.replicate 32 (.i .i64 0)) []), { dst := none, op := .storeN 33 (.t 2) (.t 36) }, aO 3 (.mv (.v (.c (.i .i64 14))))]
def index_Get_c18 : ACode := .ops index_Get_o9
def index_Get_c19 : ACode := .seq [2, 3] index_Get_c18 .ret
def index_Get_c20 : ACode := .cond (.t 35) index_Get_c19 .skip
def index_Get_c21 : ACode := .seq [2, 4, 35] index_Get_c17 index_Get_c20
def index_Get_o10 : List AOper := [aO 37 (.loadN 33 (.t 4)), aO 38 (.call 118 [(.t 37)]), aO 8 (.mv (.t 38))]
def index_Get_c22 : ACode := .ops index_Get_o10
def index_Get_o11 : List AOper := [aO 39 (.mv (.t 8)), aO 40 (.bin .lss (.t 39) (.v (.c (.i .i64 32))))]
def index_Get_c23 : ACode := .ops index_Get_o11
def index_Get_c24 : ACode := .cond (.t 40) .skip (.exit 2)
def index_Get_c25 : ACode := .seq [2, 4, 8, 40] index_Get_c23 index_Get_c24
def index_Get_o12 : List AOper := [aO 43 (.mv (.t 8)), aO 44 (.fAddr (.t 4) 1), aO 45 (.iAddrA 32 1 (.t 44) (.t 43)), aO 46 (.load1 (.t 45)), aO 47 (.bin .neq (.t 46) (.v (.c (.i .i64 0))))]
def index_Get_c26 : ACode := .ops index_Get_o12
def index_Get_o13 : List AOper := [aO 48 (.build ([.i .i64 0] ++ List.replicate 32 (.i .i64 0)) []), { dst := none, op := .storeN 33 (.t 2) (.t 48) }, aO 3 (.mv (.v (.c (.i .i64 14))))]
def index_Get_c27 : ACode := .ops index_Get_o13
def index_Get_c28 : ACode := .seq [2, 3] index_Get_c27 .ret
def index_Get_c29 : ACode := .cond (.t 47) index_Get_c28 .skip
def index_Get_c30 : ACode := .seq [2, 4, 8, 47] index_Get_c26 index_Get_c29
def index_Get_c31 : ACode := .block 3 index_Get_c30
def index_Get_o14 : List AOper := [aO 41 (.mv (.t 8)), aO 42 (.bin .add (.t 41) (.v (.c (.i .i64 1)))), aO 8 (.mv (.t 42))]
def index_Get_c32 : ACode := .ops index_Get_o14
def index_Get_c33 : ACode := .seq [2, 4, 8] index_Get_c31 index_Get_c32
def index_Get_c34 : ACode := .seq [2, 4, 8] index_Get_c25 index_Get_c33
def index_Get_c35 : ACode := .loop [2, 4, 8] index_Get_c34
def index_Get_c36 : ACode := .block 2 index_Get_c35
def index_Get_c37 : ACode := .seq [2, 4, 8] index_Get_c22 index_Get_c36
def index_Get_o15 : List AOper := [aO 49 (.loadN 33 (.t 4)), { dst := none, op := .storeN 33 (.t 2) (.t 49) }, aO 3 (.mv (.v (.c (.i .i64 0))))]
def index_Get_c38 : ACode := .ops index_Get_o15
def index_Get_c39 : ACode := .seq [2, 3] index_Get_c38 .ret
def index_Get_c40 : ACode := .seq [2, 4] index_Get_c37 index_Get_c39
def index_Get_c41 : ACode := .seq [2, 4] index_Get_c21 index_Get_c40
def index_Get_c42 : ACode := .seq [1, 2, 4, 6, 7] index_Get_c16 index_Get_c41
def index_Get_c43 : ACode := .seq [1, 2, 4] index_Get_c15 index_Get_c42
def index_Get_c44 : ACode := .seq [1, 2, 4] index_Get_c1 index_Get_c43
def index_Get_c45 : ACode := .seq [1, 2] index_Get_c0 index_Get_c44
def A_index_Get : AFn := ⟨index_Get_c45, [.cellN 2 33, .tmp 3]⟩
def E_index_Get : Sums := disp 101 S_num_At (disp 117 S_index_Put (disp 118 S_index_many disp0))
def index_Get_c0_d (n : Nat) : SmV := smOps E_index_Get index_Get_o0
def index_Get_c1_d (n : Nat) : SmV := smOps E_index_Get index_Get_o1
def index_Get_c2_d (n : Nat) : SmV := smOps E_index_Get index_Get_o2
def index_Get_c3_d (n : Nat) : SmV := smOps E_index_Get index_Get_o3
def index_Get_c4_d (n : Nat) : SmV := smCond (.t 13) smSkip (smExit 0)
def index_Get_c5_d (n : Nat) : SmV := smOps E_index_Get index_Get_o4
def index_Get_c6_d (n : Nat) : SmV := smOps E_index_Get index_Get_o5
def index_Get_c7_d (n : Nat) : SmV := smSeq [1, 2, 4, 5, 12] (index_Get_c5_d n) (index_Get_c6_d n)
def index_Get_c8_d (n : Nat) : SmV := smBlock 1 (index_Get_c7_d n)
def index_Get_c9_d (n : Nat) : SmV := smOps E_index_Get index_Get_o6
def index_Get_c10_d (n : Nat) : SmV := smSeq [1, 2, 4, 12] (index_Get_c8_d n) (index_Get_c9_d n)
def index_Get_c11_d (n : Nat) : SmV := smSeq [1, 2, 4, 12] (index_Get_c4_d n) (index_Get_c10_d n)
def index_Get_c12_d (n : Nat) : SmV := smSeq [1, 2, 4, 12, 13] (index_Get_c3_d n) (index_Get_c11_d n)
def index_Get_c13_d (n : Nat) : SmV := smLoop n [1, 2, 4, 12] (index_Get_c12_d n)
def index_Get_c14_d (n : Nat) : SmV := smBlock 0 (index_Get_c13_d n)
def index_Get_c15_d (n : Nat) : SmV := smSeq [1, 2, 4, 12] (index_Get_c2_d n) (index_Get_c14_d n)
def index_Get_c16_d (n : Nat) : SmV := smOps E_index_Get index_Get_o7
def index_Get_c17_d (n : Nat) : SmV := smOps E_index_Get index_Get_o8
def index_Get_c18_d (n : Nat) : SmV := smOps E_index_Get index_Get_o9
def index_Get_c19_d (n : Nat) : SmV := smSeq [2, 3] (index_Get_c18_d n) smRet
def index_Get_c20_d (n : Nat) : SmV := smCond (.t 35) (index_Get_c19_d n) smSkip
def index_Get_c21_d (n : Nat) : SmV := smSeq [2, 4, 35] (index_Get_c17_d n) (index_Get_c20_d n)
def index_Get_c22_d (n : Nat) : SmV := smOps E_index_Get index_Get_o10
def index_Get_c23_d (n : Nat) : SmV := smOps E_index_Get index_Get_o11
def index_Get_c24_d (n : Nat) : SmV := smCond (.t 40) smSkip (smExit 2)
def index_Get_c25_d (n : Nat) : SmV := smSeq [2, 4, 8, 40] (index_Get_c23_d n) (index_Get_c24_d n)
def index_Get_c26_d (n : Nat) : SmV := smOps E_index_Get index_Get_o12
def index_Get_c27_d (n : Nat) : SmV := smOps E_index_Get index_Get_o13
def index_Get_c28_d (n : Nat) : SmV := smSeq [2, 3] (index_Get_c27_d n) smRet
def index_Get_c29_d (n : Nat) : SmV := smCond (.t 47) (index_Get_c28_d n) smSkip
def index_Get_c30_d (n : Nat) : SmV := smSeq [2, 4, 8, 47] (index_Get_c26_d n) (index_Get_c29_d n)
def index_Get_c31_d (n : Nat) : SmV := smBlock 3 (index_Get_c30_d n)
def index_Get_c32_d (n : Nat) : SmV := smOps E_index_Get index_Get_o14
def index_Get_c33_d (n : Nat) : SmV := smSeq [2, 4, 8] (index_Get_c31_d n) (index_Get_c32_d n)
def index_Get_c34_d (n : Nat) : SmV := smSeq [2, 4, 8] (index_Get_c25_d n) (index_Get_c33_d n)
def index_Get_c35_d (n : Nat) : SmV := smLoop n [2, 4, 8] (index_Get_c34_d n)
def index_Get_c36_d (n : Nat) : SmV := smBlock 2 (index_Get_c35_d n)
def index_Get_c37_d (n : Nat) : SmV := smSeq [2, 4, 8] (index_Get_c22_d n) (index_Get_c36_d n)
def index_Get_c38_d (n : Nat) : SmV := smOps E_index_Get index_Get_o15
def index_Get_c39_d (n : Nat) : SmV := smSeq [2, 3] (index_Get_c38_d n) smRet
def index_Get_c40_d (n : Nat) : SmV := smSeq [2, 4] (index_Get_c37_d n) (index_Get_c39_d n)
def index_Get_c41_d (n : Nat) : SmV := smSeq [2, 4] (index_Get_c21_d n) (index_Get_c40_d n)
def index_Get_c42_d (n : Nat) : SmV := smSeq [1, 2, 4, 6, 7] (index_Get_c16_d n) (index_Get_c41_d n)
def index_Get_c43_d (n : Nat) : SmV := smSeq [1, 2, 4] (index_Get_c15_d n) (index_Get_c42_d n)
def index_Get_c44_d (n : Nat) : SmV := smSeq [1, 2, 4] (index_Get_c1_d n) (index_Get_c43_d n)
def index_Get_c45_d (n : Nat) : SmV := smSeq [1, 2] (index_Get_c0_d n) (index_Get_c44_d n)
def index_Get_k0 (n : Nat) : AExit → Env → Heap → OptV := fun x e h => match x with | .normal => hold ((index_Get_c42_d n) A_index_Get.fin (e.keep [1, 2, 4]) h) | .exit id => A_index_Get.fin (.exit id) e h | .ret => A_index_Get.fin .ret e h
def index_Get_k1 (n : Nat) : AExit → Env → Heap → OptV := fun x e h => match x with | .exit i => bif Nat.beq i 0 then (index_Get_k0 n) .normal e h else (index_Get_k0 n) (.exit i) e h | .normal => (index_Get_k0 n) .normal e h | .ret => (index_Get_k0 n) .ret e h
def index_Get_l0 (n m : Nat) (x1 x2 x4 x12 : Val) (h : Heap) : OptV := around (index_Get_c12_d n) [1, 2, 4, 12] (index_Get_k1 n) m [(1, x1), (2, x2), (4, x4), (12, x12)] h
def R_index_Get (n : Nat) (args : List Val) (h : Heap) : OptV := (index_Get_c45_d n) A_index_Get.fin (params 0 args) h
def index_Get_k2 (n : Nat) : AExit → Env → Heap → OptV := fun x e h => match x with | .normal => hold ((index_Get_c39_d n) A_index_Get.fin (e.keep [2, 4]) h) | .exit id => A_index_Get.fin (.exit id) e h | .ret => A_index_Get.fin .ret e h
def index_Get_k3 (n : Nat) : AExit → Env → Heap → OptV := fun x e h => match x with | .exit i => bif Nat.beq i 2 then (index_Get_k2 n) .normal e h else (index_Get_k2 n) (.exit i) e h | .normal => (index_Get_k2 n) .normal e h | .ret => (index_Get_k2 n) .ret e h
def index_Get_l1 (n m : Nat) (x2 x4 x8 : Val) (h : Heap) : OptV := around (index_Get_c34_d n) [2, 4, 8] (index_Get_k3 n) m [(2, x2), (4, x4), (8, x8)] h
theorem R_index_Get_eq (n : Nat) (a0 : Val) (h : Heap) : R_index_Get n [a0] h = bnd (cells? a0) fun c1 => bnd (aloadN (((h ++ [some (Row.mk (c1) true)]) ++ [some (Row.mk ([.i .i64 0] ++ List.replicate 32 (.i .i64 0)) true)])) 256 ((.c (.p h.length 0)))) fun v2 => bnd (S_num_At [v2, .c (.i .i64 4), .c (.i .i64 1)] (((h ++ [some (Row.mk (c1) true)]) ++ [some (Row.mk ([.i .i64 0] ++ List.replicate 32 (.i .i64 0)) true)]))) fun p3 => bnd (afill ([.i .i64 0] ++ List.replicate 32 (.i .i64 0)) [(0, 1, p3.1)]) fun c4 => bnd (astoreN ((p3.2 ++ [some (Row.mk ([.i .i64 0] ++ List.replicate 32 (.i .i64 0)) true)])) 33 ((.c (.p p3.2.length 0))) ((.a c4))) fun h5 => index_Get_l0 n n ((.c (.p h.length 0))) ((.c (.p ((h ++ [some (Row.mk (c1) true)])).length 0))) ((.c (.p p3.2.length 0))) (.c (.i .i64 0)) h5 := by kernel_rfl
theorem index_Get_l0_eq (n m : Nat) (x1 x2 x4 x12 : Val) (h : Heap) : index_Get_l0 n (m + 1) x1 x2 x4 x12 h = bnd (abin .lss x12 (.c (.i .i64 32))) fun v6 => cnd v6 (bnd (aloadN h 256 x1) fun v7 => bnd (abin .mul (.c (.i .i64 2)) x12) fun v8 => bnd (abin .add (.c (.i .i64 32)) v8) fun v9 => bnd (S_num_At [v7, v9, .c (.i .i64 2)] h) fun p10 => bnd (afAddr x4 1) fun v11 => bnd (aiAddrA 32 1 v11 x12) fun v12 => bnd (astore1 p10.2 v12 p10.1) fun h13 => bnd (abin .add x12 (.c (.i .i64 1))) fun v14 => index_Get_l0 n m x1 x2 x4 v14 h13) (bnd (aloadN h 33 x4) fun v15 => bnd (S_index_Put [v15] h) fun p16 => bnd (aext p16.1 0) fun v17 => bnd (aext p16.1 1) fun v18 => bnd (astoreN ((p16.2 ++ [some (Row.mk (List.replicate 256 (.i .u8 0)) true)])) 256 ((.c (.p p16.2.length 0))) v17) fun h19 => bnd (abin .neq v18 (.c (.i .i64 0))) fun v20 => bnd (gd v20 false (bnd (aloadN h19 256 ((.c (.p p16.2.length 0)))) fun v21 => some (v21, h19)) (some (.no, h19))) fun p22 => bnd (gd v20 false (bnd (aloadN p22.2 256 x1) fun v23 => some (v23, p22.2)) (some (.no, p22.2))) fun p24 => bnd (gd v20 false (bnd (aeq true (List.replicate 256 (.i .u8)) p22.1 p24.1) fun v25 => some (v25, p24.2)) (some (.no, p24.2))) fun p26 => bnd (apick v20 (.c (.b true)) p26.1) fun v27 => cnd v27 (bnd (afill ([.i .i64 0] ++ List.replicate 32 (.i .i64 0)) []) fun c28 => bnd (astoreN p26.2 33 x2 ((.a c28))) fun h29 => tupN [aloadN h29 33 x2, some (.c (.i .i64 14))] h29) (bnd (aloadN p26.2 33 x4) fun v30 => bnd (S_index_many [v30] p26.2) fun p31 => index_Get_l1 n n x2 x4 p31.1 p31.2)) := by kernel_rfl
theorem index_Get_l1_eq (n m : Nat) (x2 x4 x8 : Val) (h : Heap) : index_Get_l1 n (m + 1) x2 x4 x8 h = bnd (abin .lss x8 (.c (.i .i64 32))) fun v32 => cnd v32 (bnd (afAddr x4 1) fun v33 => bnd (aiAddrA 32 1 v33 x8) fun v34 => bnd (aload1 h v34) fun v35 => bnd (abin .neq v35 (.c (.i .i64 0))) fun v36 => cnd v36 (bnd (afill ([.i .i64 0] ++ List.replicate 32 (.i .i64 0)) []) fun c37 => bnd (astoreN h 33 x2 ((.a c37))) fun h38 => tupN [aloadN h38 33 x2, some (.c (.i .i64 14))] h38) (bnd (abin .add x8 (.c (.i .i64 1))) fun v39 => index_Get_l1 n m x2 x4 v39 h)) (bnd (aloadN h 33 x4) fun v40 => bnd (astoreN h 33 x2 v40) fun h41 => tupN [aloadN h41 33 x2, some (.c (.i .i64 0))] h41) := by kernel_rfl
theorem K_index_Get : FnK Try.prog 78 A_index_Get E_index_Get R_index_Get := .mk' (sound1 S_num_At_ok (sound1 S_index_Put_ok (sound1 S_index_many_ok sound0))) Try.func78 (by kernel_rfl) (by intro n args h; kernel_rfl)
def S_index_Get : Fun := tidy (Lim A_index_Get E_index_Get)
theorem S_index_Get_ok : SOk Try.prog 78 S_index_Get := K_index_Get.sok
theorem S_index_Get_flat {n : Nat} {args : List Val} {h h2 : Heap} {v : Val} (he : R_index_Get n args (ro h) = some (v, h2)) (hf : v.flat = true) : S_index_Get args h = some (v, h) := K_index_Get.flat he hf
def index_first_o0 : List AOper := [aO 2 (.box (.t 0)), aO 4 (.mv (.v (.c (.b false))))]
def index_first_c0 : ACode := .ops index_first_o0
def index_first_o1 : List AOper := [aO 6 (.mv (.t 1)), aO 7 (.mv (.v (.c (.i .i64 0))))]
def index_first_c1 : ACode := .ops index_first_o1
def index_first_o2 : List AOper := [aO 8 (.bin .lss (.t 7) (.t 6))]
def index_first_c2 : ACode := .ops index_first_o2
def index_first_c3 : ACode := .cond (.t 8) .skip (.exit 0)
def index_first_o3 : List AOper := [aO 9 (.mv (.t 7)), aO 5 (.mv (.t 9))]
def index_first_c4 : ACode := .ops index_first_o3
def index_first_o4 : List AOper := [aO 10 (.mv (.t 5)), aO 11 (.fAddr (.t 2) 1), aO 12 (.iAddrA 32 1 (.t 11) (.t 10)), aO 13 (.load1 (.t 12)), aO 14 (.mv (.t 1)), aO 15 (.fAddr (.t 2) 1), aO 16 (.iAddrA 32 1 (.t 15) (.t 14)), aO 17 (.load1 (.t 16))]
def index_first_o5 : List AOper := [aO 18 (.bin .eql (.t 13) (.t 17))]
def index_first_c5 : ACode := .draw 0 index_first_o4 index_first_o5
def index_first_o6 : List AOper := [aO 4 (.mv (.v (.c (.b false))))]
def index_first_c6 : ACode := .ops index_first_o6
def index_first_c7 : ACode := .seq [4] index_first_c6 .ret
def index_first_c8 : ACode := .cond (.t 18) index_first_c7 .skip
def index_first_c9 : ACode := .seq [1, 2, 6, 7, 18] index_first_c5 index_first_c8
def index_first_c10 : ACode := .seq [1, 2, 5, 6, 7] index_first_c4 index_first_c9
def index_first_c11 : ACode := .block 1 index_first_c10
def index_first_o7 : List AOper := [aO 19 (.bin .add (.t 7) (.v (.c (.i .i64 1)))), aO 7 (.mv (.t 19))]
def index_first_c12 : ACode := .ops index_first_o7
def index_first_c13 : ACode := .seq [1, 2, 6, 7] index_first_c11 index_first_c12
def index_first_c14 : ACode := .seq [1, 2, 6, 7] index_first_c3 index_first_c13
def index_first_c15 : ACode := .seq [1, 2, 6, 7, 8] index_first_c2 index_first_c14
def index_first_c16 : ACode := .loop [1, 2, 6, 7] index_first_c15
def index_first_c17 : ACode := .block 0 index_first_c16
def index_first_c18 : ACode := .seq [1, 2, 6, 7] index_first_c1 index_first_c17
def index_first_o8 : List AOper := [aO 4 (.mv (.v (.c (.b true))))]
def index_first_c19 : ACode := .ops index_first_o8
def index_first_c20 : ACode := .seq [4] index_first_c19 .ret
def index_first_c21 : ACode := .seq [] index_first_c18 index_first_c20
def index_first_c22 : ACode := .seq [1, 2] index_first_c0 index_first_c21
def A_index_first : AFn := ⟨index_first_c22, [.tmp 4]⟩
def E_index_first : Sums := disp0
def index_first_c0_d (n : Nat) : SmV := smOps E_index_first index_first_o0
def index_first_c1_d (n : Nat) : SmV := smOps E_index_first index_first_o1
def index_first_c2_d (n : Nat) : SmV := smOps E_index_first index_first_o2
def index_first_c3_d (n : Nat) : SmV := smCond (.t 8) smSkip (smExit 0)
def index_first_c4_d (n : Nat) : SmV := smOps E_index_first index_first_o3
def index_first_c5_d (n : Nat) : SmV := smDraw E_index_first 0 index_first_o4 index_first_o5
def index_first_c6_d (n : Nat) : SmV := smOps E_index_first index_first_o6
def index_first_c7_d (n : Nat) : SmV := smSeq [4] (index_first_c6_d n) smRet
def index_first_c8_d (n : Nat) : SmV := smCond (.t 18) (index_first_c7_d n) smSkip
def index_first_c9_d (n : Nat) : SmV := smSeq [1, 2, 6, 7, 18] (index_first_c5_d n) (index_first_c8_d n)
def index_first_c10_d (n : Nat) : SmV := smSeq [1, 2, 5, 6, 7] (index_first_c4_d n) (index_first_c9_d n)
def index_first_c11_d (n : Nat) : SmV := smBlock 1 (index_first_c10_d n)
def index_first_c12_d (n : Nat) : SmV := smOps E_index_first index_first_o7
def index_first_c13_d (n : Nat) : SmV := smSeq [1, 2, 6, 7] (index_first_c11_d n) (index_first_c12_d n)
def index_first_c14_d (n : Nat) : SmV := smSeq [1, 2, 6, 7] (index_first_c3_d n) (index_first_c13_d n)
def index_first_c15_d (n : Nat) : SmV := smSeq [1, 2, 6, 7, 8] (index_first_c2_d n) (index_first_c14_d n)
def index_first_c16_d (n : Nat) : SmV := smLoop n [1, 2, 6, 7] (index_first_c15_d n)
def index_first_c17_d (n : Nat) : SmV := smBlock 0 (index_first_c16_d n)
def index_first_c18_d (n : Nat) : SmV := smSeq [1, 2, 6, 7] (index_first_c1_d n) (index_first_c17_d n)
def index_first_c19_d (n : Nat) : SmV := smOps E_index_first index_first_o8
def index_first_c20_d (n : Nat) : SmV := smSeq [4] (index_first_c19_d n) smRet
def index_first_c21_d (n : Nat) : SmV := smSeq [] (index_first_c18_d n) (index_first_c20_d n)
def index_first_c22_d (n : Nat) : SmV := smSeq [1, 2] (index_first_c0_d n) (index_first_c21_d n)
def index_first_k0 (n : Nat) : AExit → Env → Heap → OptV := fun x e h => match x with | .normal => hold ((index_first_c20_d n) A_index_first.fin (e.keep []) h) | .exit id => A_index_first.fin (.exit id) e h | .ret => A_index_first.fin .ret e h
def index_first_k1 (n : Nat) : AExit → Env → Heap → OptV := fun x e h => match x with | .exit i => bif Nat.beq i 0 then (index_first_k0 n) .normal e h else (index_first_k0 n) (.exit i) e h | .normal => (index_first_k0 n) .normal e h | .ret => (index_first_k0 n) .ret e h
def index_first_l0 (n m : Nat) (x1 x2 x6 x7 : Val) (h : Heap) : OptV := around (index_first_c15_d n) [1, 2, 6, 7] (index_first_k1 n) m [(1, x1), (2, x2), (6, x6), (7, x7)] h
def R_index_first (n : Nat) (args : List Val) (h : Heap) : OptV := (index_first_c22_d n) A_index_first.fin (params 0 args) h
theorem R_index_first_eq (n : Nat) (a0 a1 : Val) (h : Heap) : R_index_first n [a0, a1] h = bnd (cells? a0) fun c1 => index_first_l0 n n a1 ((.c (.p h.length 0))) a1 (.c (.i .i64 0)) ((h ++ [some (Row.mk (c1) true)])) := by kernel_rfl
theorem index_first_l0_eq (n m : Nat) (x1 x2 x6 x7 : Val) (h : Heap) : index_first_l0 n (m + 1) x1 x2 x6 x7 h = bnd (abin .lss x7 x6) fun v2 => cnd v2 (bnd (afAddr x2 1) fun v3 => bnd (aiAddrA 32 1 v3 x7) fun v4 => bnd (aload1 h v4) fun v5 => bnd (afAddr x2 1) fun v6 => bnd (aiAddrA 32 1 v6 x1) fun v7 => bnd (aload1 h v7) fun v8 => bnd (abin .eql v5 v8) fun v9 => cnd v9 (some ((.c (.b false)), (h ++ []))) (bnd (abin .add x7 (.c (.i .i64 1))) fun v10 => index_first_l0 n m x1 x2 x6 v10 ((h ++ [])))) (some ((.c (.b true)), h)) := by kernel_rfl
theorem K_index_first : FnK Try.prog 122 A_index_first E_index_first R_index_first := .mk' (sound0) Try.func122 (by kernel_rfl) (by intro n args h; kernel_rfl)
def S_index_first : Fun := tidy (Lim A_index_first E_index_first)
theorem S_index_first_ok : SOk Try.prog 122 S_index_first := K_index_first.sok
theorem S_index_first_flat {n : Nat} {args : List Val} {h h2 : Heap} {v : Val} (he : R_index_first n args (ro h) = some (v, h2)) (hf : v.flat = true) : S_index_first args h = some (v, h) := K_index_first.flat he hf
def index_Buckets_o0 : List AOper := [aO 1 (.box (.t 0)), aO 2 (.nilrow 1)]
def index_Buckets_c0 : ACode := .ops index_Buckets_o0
def index_Buckets_o1 : List AOper := [aO 3 (.nilrow 1)]
def index_Buckets_c1 : ACode := .ops index_Buckets_o1
def index_Buckets_o2 : List AOper := [aO 5 (.loadN 33 (.t 1)), aO 6 (.call 118 [(.t 5)]), aO 7 (.mv (.v (.c (.i .i64 0))))]
def index_Buckets_c2 : ACode := .ops index_Buckets_o2
def index_Buckets_o3 : List AOper := [aO 8 (.bin .lss (.t 7) (.t 6))]
def index_Buckets_c3 : ACode := .ops index_Buckets_o3
def index_Buckets_c4 : ACode := .cond (.t 8) .skip (.exit 0)
def index_Buckets_o4 : List AOper := [aO 9 (.mv (.t 7)), aO 4 (.mv (.t 9))]
def index_Buckets_c5 : ACode := .ops index_Buckets_o4
def index_Buckets_o5 : List AOper := [aO 10 (.mv (.t 4)), aO 11 (.fAddr (.t 1) 1), aO 12 (.iAddrA 32 1 (.t 11) (.t 10)), aO 13 (.load1 (.t 12)), aO 14 (.bin .neq (.t 13) (.v (.c (.i .i64 0)))), aO 15 (.mv (.t 14)), { dst := some 16, op := .loadN 33 (.t 1), guard := some (15, true) }, { dst := some 17, op := .mv (.t 4), guard := some (15, true) }, { dst := some 18, op := .call 122 [(.t 16), (.t 17)], guard := some (15, true) }, aO 19 (.pick (.t 15) (.t 18) (.v (.c (.b false))))]
def index_Buckets_c6 : ACode := .ops index_Buckets_o5
def index_Buckets_o6 : List AOper := [aO 20 (.mv (.t 3)), aO 21 (.mv (.t 4)), aO 22 (.fAddr (.t 1) 1), aO 23 (.iAddrA 32 1 (.t 22) (.t 21)), aO 24 (.load1 (.t 23)), aO 25 (.buildSl 1 1 ([.i .i64 0]) [(0, 1, (.t 24))]), aO 26 (.app 1 (.t 20) (.t 25)), aO 3 (.mv (.t 26))]
def index_Buckets_c7 : ACode := .ops index_Buckets_o6
def index_Buckets_c8 : ACode := .cond (.t 19) index_Buckets_c7 .skip
def index_Buckets_c9 : ACode := .seq [1, 3, 4, 6, 7, 19] index_Buckets_c6 index_Buckets_c8
def index_Buckets_c10 : ACode := .seq [1, 3, 4, 6, 7] index_Buckets_c5 index_Buckets_c9
def index_Buckets_c11 : ACode := .block 1 index_Buckets_c10
def index_Buckets_o7 : List AOper := [aO 27 (.bin .add (.t 7) (.v (.c (.i .i64 1)))), aO 7 (.mv (.t 27))]
def index_Buckets_c12 : ACode := .ops index_Buckets_o7
def index_Buckets_c13 : ACode := .seq [1, 3, 6, 7] index_Buckets_c11 index_Buckets_c12
def index_Buckets_c14 : ACode := .seq [1, 3, 6, 7] index_Buckets_c4 index_Buckets_c13
def index_Buckets_c15 : ACode := .seq [1, 3, 6, 7, 8] index_Buckets_c3 index_Buckets_c14
def index_Buckets_c16 : ACode := .loop [1, 3, 6, 7] index_Buckets_c15
def index_Buckets_c17 : ACode := .block 0 index_Buckets_c16
def index_Buckets_c18 : ACode := .seq [1, 3, 6, 7] index_Buckets_c2 index_Buckets_c17
def index_Buckets_o8 : List AOper := [aO 28 (.mv (.t 3)), aO 2 (.mv (.t 28))]
def index_Buckets_c19 : ACode := .ops index_Buckets_o8
def index_Buckets_c20 : ACode := .seq [2] index_Buckets_c19 .ret
def index_Buckets_c21 : ACode := .seq [3] index_Buckets_c18 index_Buckets_c20
def index_Buckets_c22 : ACode := .seq [1, 3] index_Buckets_c1 index_Buckets_c21
def index_Buckets_c23 : ACode := .seq [1] index_Buckets_c0 index_Buckets_c22
def A_index_Buckets : AFn := ⟨index_Buckets_c23, [.tmp 2]⟩
def E_index_Buckets : Sums := disp 118 S_index_many (disp 122 S_index_first disp0)
def index_Buckets_c0_d (n : Nat) : SmV := smOps E_index_Buckets index_Buckets_o0
def index_Buckets_c1_d (n : Nat) : SmV := smOps E_index_Buckets index_Buckets_o1
def index_Buckets_c2_d (n : Nat) : SmV := smOps E_index_Buckets index_Buckets_o2
def index_Buckets_c3_d (n : Nat) : SmV := smOps E_index_Buckets index_Buckets_o3
def index_Buckets_c4_d (n : Nat) : SmV := smCond (.t 8) smSkip (smExit 0)
def index_Buckets_c5_d (n : Nat) : SmV := smOps E_index_Buckets index_Buckets_o4
def index_Buckets_c6_d (n : Nat) : SmV := smOps E_index_Buckets index_Buckets_o5
def index_Buckets_c7_d (n : Nat) : SmV := smOps E_index_Buckets index_Buckets_o6
def index_Buckets_c8_d (n : Nat) : SmV := smCond (.t 19) (index_Buckets_c7_d n) smSkip
def index_Buckets_c9_d (n : Nat) : SmV := smSeq [1, 3, 4, 6, 7, 19] (index_Buckets_c6_d n) (index_Buckets_c8_d n)
def index_Buckets_c10_d (n : Nat) : SmV := smSeq [1, 3, 4, 6, 7] (index_Buckets_c5_d n) (index_Buckets_c9_d n)
def index_Buckets_c11_d (n : Nat) : SmV := smBlock 1 (index_Buckets_c10_d n)
def index_Buckets_c12_d (n : Nat) : SmV := smOps E_index_Buckets index_Buckets_o7
def index_Buckets_c13_d (n : Nat) : SmV := smSeq [1, 3, 6, 7] (index_Buckets_c11_d n) (index_Buckets_c12_d n)
def index_Buckets_c14_d (n : Nat) : SmV := smSeq [1, 3, 6, 7] (index_Buckets_c4_d n) (index_Buckets_c13_d n)
def index_Buckets_c15_d (n : Nat) : SmV := smSeq [1, 3, 6, 7, 8] (index_Buckets_c3_d n) (index_Buckets_c14_d n)
def index_Buckets_c16_d (n : Nat) : SmV := smLoop n [1, 3, 6, 7] (index_Buckets_c15_d n)
def index_Buckets_c17_d (n : Nat) : SmV := smBlock 0 (index_Buckets_c16_d n)
def index_Buckets_c18_d (n : Nat) : SmV := smSeq [1, 3, 6, 7] (index_Buckets_c2_d n) (index_Buckets_c17_d n)
def index_Buckets_c19_d (n : Nat) : SmV := smOps E_index_Buckets index_Buckets_o8
def index_Buckets_c20_d (n : Nat) : SmV := smSeq [2] (index_Buckets_c19_d n) smRet
def index_Buckets_c21_d (n : Nat) : SmV := smSeq [3] (index_Buckets_c18_d n) (index_Buckets_c20_d n)
def index_Buckets_c22_d (n : Nat) : SmV := smSeq [1, 3] (index_Buckets_c1_d n) (index_Buckets_c21_d n)
def index_Buckets_c23_d (n : Nat) : SmV := smSeq [1] (index_Buckets_c0_d n) (index_Buckets_c22_d n)
def index_Buckets_k0 (n : Nat) : AExit → Env → Heap → OptV := fun x e h => match x with | .normal => hold ((index_Buckets_c20_d n) A_index_Buckets.fin (e.keep [3]) h) | .exit id => A_index_Buckets.fin (.exit id) e h | .ret => A_index_Buckets.fin .ret e h
def index_Buckets_k1 (n : Nat) : AExit → Env → Heap → OptV := fun x e h => match x with | .exit i => bif Nat.beq i 0 then (index_Buckets_k0 n) .normal e h else (index_Buckets_k0 n) (.exit i) e h | .normal => (index_Buckets_k0 n) .normal e h | .ret => (index_Buckets_k0 n) .ret e h
def index_Buckets_l0 (n m : Nat) (x1 x3 x6 x7 : Val) (h : Heap) : OptV := around (index_Buckets_c15_d n) [1, 3, 6, 7] (index_Buckets_k1 n) m [(1, x1), (3, x3), (6, x6), (7, x7)] h
def R_index_Buckets (n : Nat) (args : List Val) (h : Heap) : OptV := (index_Buckets_c23_d n) A_index_Buckets.fin (params 0 args) h
def index_Buckets_k2 (n m : Nat) : AExit → Env → Heap → OptV := fun x e h => match x with | .normal => around (index_Buckets_c15_d n) [1, 3, 6, 7] (index_Buckets_k1 n) m (e.keep [1, 3, 6, 7]) h | .exit id => (index_Buckets_k1 n) (.exit id) e h | .ret => (index_Buckets_k1 n) .ret e h
def index_Buckets_j0 (n m : Nat) (x1 x3 x6 x7 : Val) (h : Heap) : OptV := hold ((index_Buckets_c12_d n) (index_Buckets_k2 n m) [(1, x1), (3, x3), (6, x6), (7, x7)] h)
theorem R_index_Buckets_eq (n : Nat) (a0 : Val) (h : Heap) : R_index_Buckets n [a0] h = bnd (cells? a0) fun c1 => bnd (aloadN ((((h ++ [some (Row.mk (c1) true)]) ++ [some (Row.mk ([]) true)]) ++ [some (Row.mk ([]) true)])) 33 ((.c (.p h.length 0)))) fun v2 => bnd (S_index_many [v2] ((((h ++ [some (Row.mk (c1) true)]) ++ [some (Row.mk ([]) true)]) ++ [some (Row.mk ([]) true)]))) fun p3 => index_Buckets_l0 n n ((.c (.p h.length 0))) ((.c (.sl (((h ++ [some (Row.mk (c1) true)]) ++ [some (Row.mk ([]) true)])).length 0 0 1))) p3.1 (.c (.i .i64 0)) p3.2 := by kernel_rfl
theorem index_Buckets_l0_eq (n m : Nat) (x1 x3 x6 x7 : Val) (h : Heap) : index_Buckets_l0 n (m + 1) x1 x3 x6 x7 h = bnd (abin .lss x7 x6) fun v4 => cnd v4 (bnd (afAddr x1 1) fun v5 => bnd (aiAddrA 32 1 v5 x7) fun v6 => bnd (aload1 h v6) fun v7 => bnd (abin .neq v7 (.c (.i .i64 0))) fun v8 => bnd (gd v8 true (bnd (aloadN h 33 x1) fun v9 => some (v9, h)) (some (.no, h))) fun p10 => bnd (gd v8 true (some (x7, p10.2)) (some (.no, p10.2))) fun p11 => bnd (gd v8 true (bnd (S_index_first [p10.1, p11.1] p11.2) fun p12 => some (p12.1, p12.2)) (some (.no, p11.2))) fun p13 => bnd (apick v8 p13.1 (.c (.b false))) fun v14 => cnd v14 (bnd (afAddr x1 1) fun v15 => bnd (aiAddrA 32 1 v15 x7) fun v16 => bnd (aload1 p13.2 v16) fun v17 => bnd (afill ([.i .i64 0]) [(0, 1, v17)]) fun c18 => bnd (aapp ((p13.2 ++ [some (Row.mk (c18) true)])) 1 x3 ((.c (.sl p13.2.length 0 1 1)))) fun p19 => index_Buckets_j0 n m x1 p19.1 x6 x7 p19.2) (index_Buckets_j0 n m x1 x3 x6 x7 p13.2)) (some (x3, h)) := by kernel_rfl
theorem index_Buckets_j0_eq (n m : Nat) (x1 x3 x6 x7 : Val) (h : Heap) : index_Buckets_j0 n m x1 x3 x6 x7 h = bnd (abin .add x7 (.c (.i .i64 1))) fun v20 => index_Buckets_l0 n m x1 x3 x6 v20 h := by kernel_rfl
theorem K_index_Buckets : FnK Try.prog 82 A_index_Buckets E_index_Buckets R_index_Buckets := .mk' (sound1 S_index_many_ok (sound1 S_index_first_ok sound0)) Try.func82 (by kernel_rfl) (by intro n args h; kernel_rfl)
def S_index_Buckets : Fun := tidy (Lim A_index_Buckets E_index_Buckets)
theorem S_index_Buckets_ok : SOk Try.prog 82 S_index_Buckets := K_index_Buckets.sok
theorem S_index_Buckets_out {n : Nat} {args : List Val} {h h2 : Heap} {v : Val} {sz k : Nat} {cs : List Cell} (he : R_index_Buckets n args (ro h) = some (v, h2)) (ho : Out h.length h2 v sz k cs) (hf : flats cs = true) : S_index_Buckets args h = some (.c (.sl h.length 0 k sz), h ++ [some ⟨cs, true⟩]) := K_index_Buckets.out he ho hf
end Go.Proofs.Ytdgggnlbdoiloaa
end
