/- What the proof of this claim leans on, part 6. -/
import Derived.Test.YtdgggnlbdoiloaaFFmapDirsp5
set_option linter.all false
noncomputable section
namespace Go.Proofs.Ytdgggnlbdoiloaa
open Go Go.Esc
set_option maxRecDepth 100000
def er19_Fine_o0 : List AOper := [aO 2 (.mv (.v (.c (.b false))))]
def er19_Fine_c0 : ACode := .ops er19_Fine_o0
def er19_Fine_o1 : List AOper := [aO 3 (.mv (.t 0)), aO 4 (.bin .geq (.t 3) (.v (.c (.i .i64 0)))), aO 5 (.mv (.t 4)), { dst := some 6, op := .mv (.t 0), guard := some (5, true) }, { dst := some 7, op := .bin .leq (.t 6) (.v (.c (.i .i64 65535))), guard := some (5, true) }, aO 8 (.pick (.t 5) (.t 7) (.v (.c (.b false)))), aO 2 (.mv (.t 8))]
def er19_Fine_c1 : ACode := .ops er19_Fine_o1
def er19_Fine_c2 : ACode := .seq [2] er19_Fine_c1 .ret
def er19_Fine_c3 : ACode := .seq [0] er19_Fine_c0 er19_Fine_c2
def A_er19_Fine : AFn := ⟨er19_Fine_c3, [.tmp 2]⟩
def E_er19_Fine : Sums := disp0
def er19_Fine_c0_d (n : Nat) : SmV := smOps E_er19_Fine er19_Fine_o0
def er19_Fine_c1_d (n : Nat) : SmV := smOps E_er19_Fine er19_Fine_o1
def er19_Fine_c2_d (n : Nat) : SmV := smSeq [2] (er19_Fine_c1_d n) smRet
def er19_Fine_c3_d (n : Nat) : SmV := smSeq [0] (er19_Fine_c0_d n) (er19_Fine_c2_d n)
def R_er19_Fine (n : Nat) (args : List Val) (h : Heap) : OptV := (er19_Fine_c3_d n) A_er19_Fine.fin (params 0 args) h
theorem R_er19_Fine_eq (n : Nat) (a0 : Val) (h : Heap) : R_er19_Fine n [a0] h = bnd (abin .geq a0 (.c (.i .i64 0))) fun v1 => bnd (gd v1 true (some (a0, h)) (some (.no, h))) fun p2 => bnd (gd v1 true (bnd (abin .leq p2.1 (.c (.i .i64 65535))) fun v3 => some (v3, p2.2)) (some (.no, p2.2))) fun p4 => bnd (apick v1 p4.1 (.c (.b false))) fun v5 => some (v5, p4.2) := by kernel_rfl
theorem K_er19_Fine : FnK Try.prog 147 A_er19_Fine E_er19_Fine R_er19_Fine := .mk' (sound0) Try.func147 (by kernel_rfl) (by intro n args h; kernel_rfl)
def S_er19_Fine : Fun := tidy (Lim A_er19_Fine E_er19_Fine)
theorem S_er19_Fine_ok : SOk Try.prog 147 S_er19_Fine := K_er19_Fine.sok
theorem S_er19_Fine_flat {n : Nat} {args : List Val} {h h2 : Heap} {v : Val} (he : R_er19_Fine n args (ro h) = some (v, h2)) (hf : v.flat = true) : S_er19_Fine args h = some (v, h) := K_er19_Fine.flat he hf
def er19_Put_o0 : List AOper := [aO 1 (.box (.t 0)), aO 2 (.nilrow 1), aO 3 (.mv (.v (.c (.b false))))]
def er19_Put_c0 : ACode := .ops er19_Put_o0
def er19_Put_o1 : List AOper := [aO 6 (.fAddr (.t 1) 0), aO 7 (.load1 (.t 6)), aO 8 (.bin .lss (.t 7) (.v (.c (.i .i64 0)))), aO 9 (.mv (.t 8)), { dst := some 10, op := .fAddr (.t 1) 0, guard := some (9, false) }, { dst := some 11, op := .load1 (.t 10), guard := some (9, false) }, { dst := some 12, op := .bin .gtr (.t 11) (.v (.c (.i .i64 5))), guard := some (9, false) }, aO 13 (.pick (.t 9) (.v (.c (.b true))) (.t 12))]
def er19_Put_c1 : ACode := .ops er19_Put_o1
def er19_Put_o2 : List AOper := [aO 2 (.nilrow 1), aO 3 (.mv (.v (.c (.b false))))]
def er19_Put_c2 : ACode := .ops er19_Put_o2
def er19_Put_c3 : ACode := .seq [2, 3] er19_Put_c2 .ret
def er19_Put_c4 : ACode := .cond (.t 13) er19_Put_c3 .skip
def er19_Put_c5 : ACode := .seq [1, 13] er19_Put_c1 er19_Put_c4
def er19_Put_o3 : List AOper := [aO 14 (.buildSl 1 4 ([.i .u8 0, .i .u8 0, .i .u8 0, .i .u8 0]) [(0, 1, (.v (.c (.i .u8 105)))), (1, 1, (.v (.c (.i .u8 100)))), (2, 1, (.v (.c (.i .u8 120)))), (3, 1, (.v (.c (.i .u8 33))))]), aO 15 (.mark (.t 14)), aO 16 (.fAddr (.t 1) 0), aO 17 (.load1 (.t 16)), aO 18 (.conv .u8 (.t 17)), aO 19 (.buildSl 1 1 ([.i .u8 0]) [(0, 1, (.t 18))]), aO 20 (.app 1 (.t 15) (.t 19)), aO 4 (.mv (.t 20))]
def er19_Put_c6 : ACode := .ops er19_Put_o3
def er19_Put_o4 : List AOper := [aO 21 (.mv (.t 4)), aO 22 (.appZ 1 ([.i .u8 0]) (.t 21) (.v (.c (.i .i64 27)))), aO 4 (.mv (.t 22))]
def er19_Put_c7 : ACode := .ops er19_Put_o4
def er19_Put_o5 : List AOper := [aO 5 (.mv (.v (.c (.i .i64 0))))]
def er19_Put_c8 : ACode := .ops er19_Put_o5
def er19_Put_o6 : List AOper := [aO 23 (.mv (.t 5)), aO 24 (.bin .lss (.t 23) (.v (.c (.i .i64 32))))]
def er19_Put_c9 : ACode := .ops er19_Put_o6
def er19_Put_c10 : ACode := .cond (.t 24) .skip (.exit 0)
def er19_Put_c11 : ACode := .seq [1, 4, 5, 24] er19_Put_c9 er19_Put_c10
def er19_Put_o7 : List AOper := [aO 27 (.mv (.t 5)), aO 28 (.fAddr (.t 1) 1), aO 29 (.iAddrA 32 1 (.t 28) (.t 27)), aO 30 (.load1 (.t 29)), aO 31 (.call 147 [(.t 30)]), aO 32 (.un .not (.t 31))]
def er19_Put_c12 : ACode := .ops er19_Put_o7
def er19_Put_o8 : List AOper := [aO 2 (.nilrow 1), aO 3 (.mv (.v (.c (.b false))))]
def er19_Put_c13 : ACode := .ops er19_Put_o8
def er19_Put_c14 : ACode := .seq [2, 3] er19_Put_c13 .ret
def er19_Put_c15 : ACode := .cond (.t 32) er19_Put_c14 .skip
def er19_Put_c16 : ACode := .seq [1, 4, 5, 32] er19_Put_c12 er19_Put_c15
def er19_Put_o9 : List AOper := [aO 33 (.mv (.t 4)), aO 34 (.mv (.t 5)), aO 35 (.fAddr (.t 1) 1), aO 36 (.iAddrA 32 1 (.t 35) (.t 34)), aO 37 (.load1 (.t 36)), aO 38 (.conv .u64 (.t 37)), aO 39 (.call 138 [(.v (.c (.i .i64 2))), (.t 38)]), aO 40 (.app 1 (.t 33) (.t 39)), aO 4 (.mv (.t 40))]
def er19_Put_c17 : ACode := .ops er19_Put_o9
def er19_Put_c18 : ACode := .seq [1, 4, 5] er19_Put_c16 er19_Put_c17
def er19_Put_c19 : ACode := .block 1 er19_Put_c18
def er19_Put_o10 : List AOper := [aO 25 (.mv (.t 5)), aO 26 (.bin .add (.t 25) (.v (.c (.i .i64 1)))), aO 5 (.mv (.t 26))]
def er19_Put_c20 : ACode := .ops er19_Put_o10
def er19_Put_c21 : ACode := .seq [1, 4, 5] er19_Put_c19 er19_Put_c20
def er19_Put_c22 : ACode := .seq [1, 4, 5] er19_Put_c11 er19_Put_c21
def er19_Put_c23 : ACode := .loop [1, 4, 5] er19_Put_c22
def er19_Put_c24 : ACode := .block 0 er19_Put_c23
def er19_Put_c25 : ACode := .seq [1, 4, 5] er19_Put_c8 er19_Put_c24
def er19_Put_o11 : List AOper := [aO 41 (.mkSl 1 ([.i .u8 0]) (.v (.c (.i .i64 256))) (.v (.c (.i .i64 256)))), aO 42 (.mv (.t 4)), aO 43 (.call 140 [(.t 41), (.v (.c (.i .i64 0))), (.t 42)]), aO 2 (.mv (.t 43)), aO 3 (.mv (.v (.c (.b true))))]
def er19_Put_c26 : ACode := .ops er19_Put_o11
def er19_Put_c27 : ACode := .seq [2, 3] er19_Put_c26 .ret
def er19_Put_c28 : ACode := .seq [4] er19_Put_c25 er19_Put_c27
def er19_Put_c29 : ACode := .seq [1, 4] er19_Put_c7 er19_Put_c28
def er19_Put_c30 : ACode := .seq [1, 4] er19_Put_c6 er19_Put_c29
def er19_Put_c31 : ACode := .seq [1] er19_Put_c5 er19_Put_c30
def er19_Put_c32 : ACode := .seq [1] er19_Put_c0 er19_Put_c31
def A_er19_Put : AFn := ⟨er19_Put_c32, [.tmp 2, .tmp 3]⟩
def E_er19_Put : Sums := disp 147 S_er19_Fine (disp 138 S_er01_Bytes (disp 140 S_er01_Lay disp0))
def er19_Put_c0_d (n : Nat) : SmV := smOps E_er19_Put er19_Put_o0
def er19_Put_c1_d (n : Nat) : SmV := smOps E_er19_Put er19_Put_o1
def er19_Put_c2_d (n : Nat) : SmV := smOps E_er19_Put er19_Put_o2
def er19_Put_c3_d (n : Nat) : SmV := smSeq [2, 3] (er19_Put_c2_d n) smRet
def er19_Put_c4_d (n : Nat) : SmV := smCond (.t 13) (er19_Put_c3_d n) smSkip
def er19_Put_c5_d (n : Nat) : SmV := smSeq [1, 13] (er19_Put_c1_d n) (er19_Put_c4_d n)
def er19_Put_c6_d (n : Nat) : SmV := smOps E_er19_Put er19_Put_o3
def er19_Put_c7_d (n : Nat) : SmV := smOps E_er19_Put er19_Put_o4
def er19_Put_c8_d (n : Nat) : SmV := smOps E_er19_Put er19_Put_o5
def er19_Put_c9_d (n : Nat) : SmV := smOps E_er19_Put er19_Put_o6
def er19_Put_c10_d (n : Nat) : SmV := smCond (.t 24) smSkip (smExit 0)
def er19_Put_c11_d (n : Nat) : SmV := smSeq [1, 4, 5, 24] (er19_Put_c9_d n) (er19_Put_c10_d n)
def er19_Put_c12_d (n : Nat) : SmV := smOps E_er19_Put er19_Put_o7
def er19_Put_c13_d (n : Nat) : SmV := smOps E_er19_Put er19_Put_o8
def er19_Put_c14_d (n : Nat) : SmV := smSeq [2, 3] (er19_Put_c13_d n) smRet
def er19_Put_c15_d (n : Nat) : SmV := smCond (.t 32) (er19_Put_c14_d n) smSkip
def er19_Put_c16_d (n : Nat) : SmV := smSeq [1, 4, 5, 32] (er19_Put_c12_d n) (er19_Put_c15_d n)
def er19_Put_c17_d (n : Nat) : SmV := smOps E_er19_Put er19_Put_o9
def er19_Put_c18_d (n : Nat) : SmV := smSeq [1, 4, 5] (er19_Put_c16_d n) (er19_Put_c17_d n)
def er19_Put_c19_d (n : Nat) : SmV := smBlock 1 (er19_Put_c18_d n)
def er19_Put_c20_d (n : Nat) : SmV := smOps E_er19_Put er19_Put_o10
def er19_Put_c21_d (n : Nat) : SmV := smSeq [1, 4, 5] (er19_Put_c19_d n) (er19_Put_c20_d n)
def er19_Put_c22_d (n : Nat) : SmV := smSeq [1, 4, 5] (er19_Put_c11_d n) (er19_Put_c21_d n)
def er19_Put_c23_d (n : Nat) : SmV := smLoop n [1, 4, 5] (er19_Put_c22_d n)
def er19_Put_c24_d (n : Nat) : SmV := smBlock 0 (er19_Put_c23_d n)
def er19_Put_c25_d (n : Nat) : SmV := smSeq [1, 4, 5] (er19_Put_c8_d n) (er19_Put_c24_d n)
def er19_Put_c26_d (n : Nat) : SmV := smOps E_er19_Put er19_Put_o11
def er19_Put_c27_d (n : Nat) : SmV := smSeq [2, 3] (er19_Put_c26_d n) smRet
def er19_Put_c28_d (n : Nat) : SmV := smSeq [4] (er19_Put_c25_d n) (er19_Put_c27_d n)
def er19_Put_c29_d (n : Nat) : SmV := smSeq [1, 4] (er19_Put_c7_d n) (er19_Put_c28_d n)
def er19_Put_c30_d (n : Nat) : SmV := smSeq [1, 4] (er19_Put_c6_d n) (er19_Put_c29_d n)
def er19_Put_c31_d (n : Nat) : SmV := smSeq [1] (er19_Put_c5_d n) (er19_Put_c30_d n)
def er19_Put_c32_d (n : Nat) : SmV := smSeq [1] (er19_Put_c0_d n) (er19_Put_c31_d n)
def er19_Put_k0 (n : Nat) : AExit → Env → Heap → OptV := fun x e h => match x with | .normal => hold ((er19_Put_c27_d n) A_er19_Put.fin (e.keep [4]) h) | .exit id => A_er19_Put.fin (.exit id) e h | .ret => A_er19_Put.fin .ret e h
def er19_Put_k1 (n : Nat) : AExit → Env → Heap → OptV := fun x e h => match x with | .exit i => bif Nat.beq i 0 then (er19_Put_k0 n) .normal e h else (er19_Put_k0 n) (.exit i) e h | .normal => (er19_Put_k0 n) .normal e h | .ret => (er19_Put_k0 n) .ret e h
def er19_Put_l0 (n m : Nat) (x1 x4 x5 : Val) (h : Heap) : OptV := around (er19_Put_c22_d n) [1, 4, 5] (er19_Put_k1 n) m [(1, x1), (4, x4), (5, x5)] h
def R_er19_Put (n : Nat) (args : List Val) (h : Heap) : OptV := (er19_Put_c32_d n) A_er19_Put.fin (params 0 args) h
theorem R_er19_Put_eq (n : Nat) (a0 : Val) (h : Heap) : R_er19_Put n [a0] h = bnd (cells? a0) fun c1 => bnd (afAddr ((.c (.p h.length 0))) 0) fun v2 => bnd (aload1 (((h ++ [some (Row.mk (c1) true)]) ++ [some (Row.mk ([]) true)])) v2) fun v3 => bnd (abin .lss v3 (.c (.i .i64 0))) fun v4 => bnd (gd v4 false (bnd (afAddr ((.c (.p h.length 0))) 0) fun v5 => some (v5, ((h ++ [some (Row.mk (c1) true)]) ++ [some (Row.mk ([]) true)]))) (some (.no, ((h ++ [some (Row.mk (c1) true)]) ++ [some (Row.mk ([]) true)])))) fun p6 => bnd (gd v4 false (bnd (aload1 p6.2 p6.1) fun v7 => some (v7, p6.2)) (some (.no, p6.2))) fun p8 => bnd (gd v4 false (bnd (abin .gtr p8.1 (.c (.i .i64 5))) fun v9 => some (v9, p8.2)) (some (.no, p8.2))) fun p10 => bnd (apick v4 (.c (.b true)) p10.1) fun v11 => cnd v11 (tupN [some ((.c (.sl p10.2.length 0 0 1))), some (.c (.b false))] ((p10.2 ++ [some (Row.mk ([]) true)]))) (bnd (afill ([.i .u8 0, .i .u8 0, .i .u8 0, .i .u8 0]) [(0, 1, .c (.i .u8 105)), (1, 1, .c (.i .u8 100)), (2, 1, .c (.i .u8 120)), (3, 1, .c (.i .u8 33))]) fun c12 => bnd (amark ((p10.2 ++ [some (Row.mk (c12) true)])) ((.c (.sl p10.2.length 0 4 1)))) fun v13 => bnd (afAddr ((.c (.p h.length 0))) 0) fun v14 => bnd (aload1 ((p10.2 ++ [some (Row.mk (c12) true)])) v14) fun v15 => bnd (aconv .u8 v15) fun v16 => bnd (afill ([.i .u8 0]) [(0, 1, v16)]) fun c17 => bnd (aapp (((p10.2 ++ [some (Row.mk (c12) true)]) ++ [some (Row.mk (c17) true)])) 1 v13 ((.c (.sl ((p10.2 ++ [some (Row.mk (c12) true)])).length 0 1 1)))) fun p18 => bnd (aappZ p18.2 1 ([.i .u8 0]) p18.1 (.c (.i .i64 27))) fun p19 => er19_Put_l0 n n ((.c (.p h.length 0))) p19.1 (.c (.i .i64 0)) p19.2) := by kernel_rfl
theorem er19_Put_l0_eq (n m : Nat) (x1 x4 x5 : Val) (h : Heap) : er19_Put_l0 n (m + 1) x1 x4 x5 h = bnd (abin .lss x5 (.c (.i .i64 32))) fun v20 => cnd v20 (bnd (afAddr x1 1) fun v21 => bnd (aiAddrA 32 1 v21 x5) fun v22 => bnd (aload1 h v22) fun v23 => bnd (S_er19_Fine [v23] h) fun p24 => bnd (aun .not p24.1) fun v25 => cnd v25 (tupN [some ((.c (.sl p24.2.length 0 0 1))), some (.c (.b false))] ((p24.2 ++ [some (Row.mk ([]) true)]))) (bnd (afAddr x1 1) fun v26 => bnd (aiAddrA 32 1 v26 x5) fun v27 => bnd (aload1 p24.2 v27) fun v28 => bnd (aconv .u64 v28) fun v29 => bnd (S_er01_Bytes [.c (.i .i64 2), v29] p24.2) fun p30 => bnd (aapp p30.2 1 x4 p30.1) fun p31 => bnd (abin .add x5 (.c (.i .i64 1))) fun v32 => er19_Put_l0 n m x1 p31.1 v32 p31.2)) (bnd (amkn (.c (.i .i64 256)) (.c (.i .i64 256))) fun n33 => bnd (S_er01_Lay [(.c (.sl h.length 0 n33 1)), .c (.i .i64 0), x4] ((h ++ [some (Row.mk (rows ([.i .u8 0]) n33) true)]))) fun p34 => tupN [some p34.1, some (.c (.b true))] p34.2) := by kernel_rfl
theorem K_er19_Put : FnK Try.prog 120 A_er19_Put E_er19_Put R_er19_Put := .mk' (sound1 S_er19_Fine_ok (sound1 S_er01_Bytes_ok (sound1 S_er01_Lay_ok sound0))) Try.func120 (by kernel_rfl) (by intro n args h; kernel_rfl)
def S_er19_Put : Fun := tidy (Lim A_er19_Put E_er19_Put)
theorem S_er19_Put_ok : SOk Try.prog 120 S_er19_Put := K_er19_Put.sok
theorem S_er19_Put_out2 {n : Nat} {args : List Val} {h h2 : Heap} {i : Nat} {c : Cell} {sz k : Nat} {cs : List Cell} (he : R_er19_Put n args (ro h) = some (.t [.c (.sl i 0 k sz), .c c], h2)) (ho : Out h.length h2 (.c (.sl i 0 k sz)) sz k cs) (hf : flats cs = true) (hc : c.flat = true) : S_er19_Put args h = some (.t [.c (.sl h.length 0 k sz), .c c], h ++ [some ⟨cs, true⟩]) := K_er19_Put.out2 he ho hf hc
def er19_Pow_o0 : List AOper := [aO 2 (.mv (.v (.c (.i .i64 0))))]
def er19_Pow_c0 : ACode := .ops er19_Pow_o0
def er19_Pow_o1 : List AOper := [aO 3 (.mv (.v (.c (.i .i64 1))))]
def er19_Pow_c1 : ACode := .ops er19_Pow_o1
def er19_Pow_o2 : List AOper := [aO 4 (.mv (.v (.c (.i .i64 0))))]
def er19_Pow_c2 : ACode := .ops er19_Pow_o2
def er19_Pow_o3 : List AOper := [aO 5 (.mv (.t 4)), aO 6 (.mv (.t 0)), aO 7 (.bin .lss (.t 5) (.t 6))]
def er19_Pow_c3 : ACode := .ops er19_Pow_o3
def er19_Pow_c4 : ACode := .cond (.t 7) .skip (.exit 0)
def er19_Pow_c5 : ACode := .seq [0, 3, 4, 7] er19_Pow_c3 er19_Pow_c4
def er19_Pow_o4 : List AOper := [aO 10 (.mv (.t 3)), aO 11 (.bin .mul (.t 10) (.v (.c (.i .i64 2)))), aO 3 (.mv (.t 11))]
def er19_Pow_c6 : ACode := .ops er19_Pow_o4
def er19_Pow_c7 : ACode := .block 1 er19_Pow_c6
def er19_Pow_o5 : List AOper := [aO 8 (.mv (.t 4)), aO 9 (.bin .add (.t 8) (.v (.c (.i .i64 1)))), aO 4 (.mv (.t 9))]
def er19_Pow_c8 : ACode := .ops er19_Pow_o5
def er19_Pow_c9 : ACode := .seq [0, 3, 4] er19_Pow_c7 er19_Pow_c8
def er19_Pow_c10 : ACode := .seq [0, 3, 4] er19_Pow_c5 er19_Pow_c9
def er19_Pow_c11 : ACode := .loop [0, 3, 4] er19_Pow_c10
def er19_Pow_c12 : ACode := .block 0 er19_Pow_c11
def er19_Pow_c13 : ACode := .seq [0, 3, 4] er19_Pow_c2 er19_Pow_c12
def er19_Pow_o6 : List AOper := [aO 12 (.mv (.t 3)), aO 2 (.mv (.t 12))]
def er19_Pow_c14 : ACode := .ops er19_Pow_o6
def er19_Pow_c15 : ACode := .seq [2] er19_Pow_c14 .ret
def er19_Pow_c16 : ACode := .seq [3] er19_Pow_c13 er19_Pow_c15
def er19_Pow_c17 : ACode := .seq [0, 3] er19_Pow_c1 er19_Pow_c16
def er19_Pow_c18 : ACode := .seq [0] er19_Pow_c0 er19_Pow_c17
def A_er19_Pow : AFn := ⟨er19_Pow_c18, [.tmp 2]⟩
def E_er19_Pow : Sums := disp0
def er19_Pow_c0_d (n : Nat) : SmV := smOps E_er19_Pow er19_Pow_o0
def er19_Pow_c1_d (n : Nat) : SmV := smOps E_er19_Pow er19_Pow_o1
def er19_Pow_c2_d (n : Nat) : SmV := smOps E_er19_Pow er19_Pow_o2
def er19_Pow_c3_d (n : Nat) : SmV := smOps E_er19_Pow er19_Pow_o3
def er19_Pow_c4_d (n : Nat) : SmV := smCond (.t 7) smSkip (smExit 0)
def er19_Pow_c5_d (n : Nat) : SmV := smSeq [0, 3, 4, 7] (er19_Pow_c3_d n) (er19_Pow_c4_d n)
def er19_Pow_c6_d (n : Nat) : SmV := smOps E_er19_Pow er19_Pow_o4
def er19_Pow_c7_d (n : Nat) : SmV := smBlock 1 (er19_Pow_c6_d n)
def er19_Pow_c8_d (n : Nat) : SmV := smOps E_er19_Pow er19_Pow_o5
def er19_Pow_c9_d (n : Nat) : SmV := smSeq [0, 3, 4] (er19_Pow_c7_d n) (er19_Pow_c8_d n)
def er19_Pow_c10_d (n : Nat) : SmV := smSeq [0, 3, 4] (er19_Pow_c5_d n) (er19_Pow_c9_d n)
def er19_Pow_c11_d (n : Nat) : SmV := smLoop n [0, 3, 4] (er19_Pow_c10_d n)
def er19_Pow_c12_d (n : Nat) : SmV := smBlock 0 (er19_Pow_c11_d n)
def er19_Pow_c13_d (n : Nat) : SmV := smSeq [0, 3, 4] (er19_Pow_c2_d n) (er19_Pow_c12_d n)
def er19_Pow_c14_d (n : Nat) : SmV := smOps E_er19_Pow er19_Pow_o6
def er19_Pow_c15_d (n : Nat) : SmV := smSeq [2] (er19_Pow_c14_d n) smRet
def er19_Pow_c16_d (n : Nat) : SmV := smSeq [3] (er19_Pow_c13_d n) (er19_Pow_c15_d n)
def er19_Pow_c17_d (n : Nat) : SmV := smSeq [0, 3] (er19_Pow_c1_d n) (er19_Pow_c16_d n)
def er19_Pow_c18_d (n : Nat) : SmV := smSeq [0] (er19_Pow_c0_d n) (er19_Pow_c17_d n)
def er19_Pow_k0 (n : Nat) : AExit → Env → Heap → OptV := fun x e h => match x with | .normal => hold ((er19_Pow_c15_d n) A_er19_Pow.fin (e.keep [3]) h) | .exit id => A_er19_Pow.fin (.exit id) e h | .ret => A_er19_Pow.fin .ret e h
def er19_Pow_k1 (n : Nat) : AExit → Env → Heap → OptV := fun x e h => match x with | .exit i => bif Nat.beq i 0 then (er19_Pow_k0 n) .normal e h else (er19_Pow_k0 n) (.exit i) e h | .normal => (er19_Pow_k0 n) .normal e h | .ret => (er19_Pow_k0 n) .ret e h
def er19_Pow_l0 (n m : Nat) (x0 x3 x4 : Val) (h : Heap) : OptV := around (er19_Pow_c10_d n) [0, 3, 4] (er19_Pow_k1 n) m [(0, x0), (3, x3), (4, x4)] h
def R_er19_Pow (n : Nat) (args : List Val) (h : Heap) : OptV := (er19_Pow_c18_d n) A_er19_Pow.fin (params 0 args) h
theorem R_er19_Pow_eq (n : Nat) (a0 : Val) (h : Heap) : R_er19_Pow n [a0] h = er19_Pow_l0 n n a0 (.c (.i .i64 1)) (.c (.i .i64 0)) h := by kernel_rfl
theorem er19_Pow_l0_eq (n m : Nat) (x0 x3 x4 : Val) (h : Heap) : er19_Pow_l0 n (m + 1) x0 x3 x4 h = bnd (abin .lss x4 x0) fun v1 => cnd v1 (bnd (abin .mul x3 (.c (.i .i64 2))) fun v2 => bnd (abin .add x4 (.c (.i .i64 1))) fun v3 => er19_Pow_l0 n m x0 v2 v3 h) (some (x3, h)) := by kernel_rfl
theorem K_er19_Pow : FnK Try.prog 121 A_er19_Pow E_er19_Pow R_er19_Pow := .mk' (sound0) Try.func121 (by kernel_rfl) (by intro n args h; kernel_rfl)
def S_er19_Pow : Fun := tidy (Lim A_er19_Pow E_er19_Pow)
theorem S_er19_Pow_ok : SOk Try.prog 121 S_er19_Pow := K_er19_Pow.sok
theorem S_er19_Pow_flat {n : Nat} {args : List Val} {h h2 : Heap} {v : Val} (he : R_er19_Pow n args (ro h) = some (v, h2)) (hf : v.flat = true) : S_er19_Pow args h = some (v, h) := K_er19_Pow.flat he hf
def er19_Get_o0 : List AOper := [aO 2 (.alloc ([.i .i64 0] ++ List.replicate 32 (.i .i64 0))), aO 3 (.mv (.v (.c (.b false))))]
def er19_Get_c0 : ACode := .ops er19_Get_o0
def er19_Get_o1 : List AOper := [aO 9 (.mv (.t 0)), aO 10 (.call 111 [(.t 9), (.v (.c (.i .i64 4))), (.v (.c (.i .i64 1)))]), aO 11 (.build ([.i .i64 0] ++ List.replicate 32 (.i .i64 0)) [(0, 1, (.t 10))]), aO 4 (.alloc ([.i .i64 0] ++ List.replicate 32 (.i .i64 0))), { dst := none, op := .storeN 33 (.t 4) (.t 11) }]
def er19_Get_c1 : ACode := .ops er19_Get_o1
def er19_Get_o2 : List AOper := [aO 5 (.mv (.v (.c (.i .i64 0))))]
def er19_Get_c2 : ACode := .ops er19_Get_o2
def er19_Get_o3 : List AOper := [aO 12 (.mv (.t 5)), aO 13 (.bin .lss (.t 12) (.v (.c (.i .i64 32))))]
def er19_Get_c3 : ACode := .ops er19_Get_o3
def er19_Get_c4 : ACode := .cond (.t 13) .skip (.exit 0)
def er19_Get_c5 : ACode := .seq [0, 2, 4, 5, 13] er19_Get_c3 er19_Get_c4
def er19_Get_o4 : List AOper := [aO 16 (.mv (.t 5)), aO 17 (.mv (.t 0)), aO 18 (.mv (.t 5)), aO 19 (.bin .mul (.v (.c (.i .i64 2))) (.t 18)), aO 20 (.bin .add (.v (.c (.i .i64 32))) (.t 19)), aO 21 (.call 111 [(.t 17), (.t 20), (.v (.c (.i .i64 2)))]), aO 22 (.fAddr (.t 4) 1), aO 23 (.iAddrA 32 1 (.t 22) (.t 16)), { dst := none, op := .store1 (.t 23) (.t 21) }]
def er19_Get_c6 : ACode := .ops er19_Get_o4
def er19_Get_c7 : ACode := .block 1 er19_Get_c6
def er19_Get_o5 : List AOper := [aO 14 (.mv (.t 5)), aO 15 (.bin .add (.t 14) (.v (.c (.i .i64 1)))), aO 5 (.mv (.t 15))]
def er19_Get_c8 : ACode := .ops er19_Get_o5
def er19_Get_c9 : ACode := .seq [0, 2, 4, 5] er19_Get_c7 er19_Get_c8
def er19_Get_c10 : ACode := .seq [0, 2, 4, 5] er19_Get_c5 er19_Get_c9
def er19_Get_c11 : ACode := .loop [0, 2, 4, 5] er19_Get_c10
def er19_Get_c12 : ACode := .block 0 er19_Get_c11
def er19_Get_c13 : ACode := .seq [0, 2, 4, 5] er19_Get_c2 er19_Get_c12
def er19_Get_o6 : List AOper := [aO 25 (.loadN 33 (.t 4)), aO 26 (.call 120 [(.t 25)]), aO 24 (.mv (.t 26)), aO 27 (.ext (.t 24) 0), aO 28 (.ext (.t 24) 1), aO 6 (.mv (.t 27)), aO 7 (.mv (.t 28))]
def er19_Get_c14 : ACode := .ops er19_Get_o6
def er19_Get_o7 : List AOper := [aO 29 (.mv (.t 7)), aO 30 (.un .not (.t 29)), aO 31 (.mv (.t 30)), { dst := some 32, op := .mv (.t 6), guard := some (31, false) }, { dst := some 33, op := .mv (.t 0), guard := some (31, false) }, { dst := some 34, op := .call 21 [(.t 32), (.t 33)], guard := some (31, false) }, { dst := some 35, op := .un .not (.t 34), guard := some (31, false) }, aO 36 (.pick (.t 31) (.v (.c (.b true))) (.t 35))]
def er19_Get_c15 : ACode := .ops er19_Get_o7
def er19_Get_o8 : List AOper := [aO 37 (.build ([.i .i64 0] ++ List.replicate 32 (.i .i64 0)) []), { dst := none, op := .storeN 33 (.t 2) (.t 37) }, aO 3 (.mv (.v (.c (.b false))))]
def er19_Get_c16 : ACode := .ops er19_Get_o8
def er19_Get_c17 : ACode := .seq [2, 3] er19_Get_c16 .ret
def er19_Get_c18 : ACode := .cond (.t 36) er19_Get_c17 .skip
def er19_Get_c19 : ACode := .seq [2, 4, 36] er19_Get_c15 er19_Get_c18
def er19_Get_o9 : List AOper := [aO 38 (.fAddr (.t 4) 0), aO 39 (.load1 (.t 38)), aO 40 (.call 121 [(.t 39)]), aO 8 (.mv (.t 40))]
def er19_Get_c20 : ACode := .ops er19_Get_o9
def er19_Get_o10 : List AOper := [aO 41 (.mv (.t 8)), aO 42 (.bin .lss (.t 41) (.v (.c (.i .i64 32))))]
def er19_Get_c21 : ACode := .ops er19_Get_o10
def er19_Get_c22 : ACode := .cond (.t 42) .skip (.exit 2)
def er19_Get_c23 : ACode := .seq [2, 4, 8, 42] er19_Get_c21 er19_Get_c22
def er19_Get_o11 : List AOper := [aO 45 (.mv (.t 8)), aO 46 (.fAddr (.t 4) 1), aO 47 (.iAddrA 32 1 (.t 46) (.t 45)), aO 48 (.load1 (.t 47)), aO 49 (.bin .neq (.t 48) (.v (.c (.i .i64 0))))]
def er19_Get_c24 : ACode := .ops er19_Get_o11
def er19_Get_o12 : List AOper := [aO 50 (.build ([.i .i64 0] ++ List.replicate 32 (.i .i64 0)) []), { dst := none, op := .storeN 33 (.t 2) (.t 50) }, aO 3 (.mv (.v (.c (.b false))))]
def er19_Get_c25 : ACode := .ops er19_Get_o12
def er19_Get_c26 : ACode := .seq [2, 3] er19_Get_c25 .ret
def er19_Get_c27 : ACode := .cond (.t 49) er19_Get_c26 .skip
def er19_Get_c28 : ACode := .seq [2, 4, 8, 49] er19_Get_c24 er19_Get_c27
def er19_Get_c29 : ACode := .block 3 er19_Get_c28
def er19_Get_o13 : List AOper := [aO 43 (.mv (.t 8)), aO 44 (.bin .add (.t 43) (.v (.c (.i .i64 1)))), aO 8 (.mv (.t 44))]
def er19_Get_c30 : ACode := .ops er19_Get_o13
def er19_Get_c31 : ACode := .seq [2, 4, 8] er19_Get_c29 er19_Get_c30
def er19_Get_c32 : ACode := .seq [2, 4, 8] er19_Get_c23 er19_Get_c31
def er19_Get_c33 : ACode := .loop [2, 4, 8] er19_Get_c32
def er19_Get_c34 : ACode := .block 2 er19_Get_c33
def er19_Get_c35 : ACode := .seq [2, 4, 8] er19_Get_c20 er19_Get_c34
def er19_Get_o14 : List AOper := [aO 51 (.loadN 33 (.t 4)), { dst := none, op := .storeN 33 (.t 2) (.t 51) }, aO 3 (.mv (.v (.c (.b true))))]
def er19_Get_c36 : ACode := .ops er19_Get_o14
def er19_Get_c37 : ACode := .seq [2, 3] er19_Get_c36 .ret
def er19_Get_c38 : ACode := .seq [2, 4] er19_Get_c35 er19_Get_c37
def er19_Get_c39 : ACode := .seq [2, 4] er19_Get_c19 er19_Get_c38
def er19_Get_c40 : ACode := .seq [0, 2, 4, 6, 7] er19_Get_c14 er19_Get_c39
def er19_Get_c41 : ACode := .seq [0, 2, 4] er19_Get_c13 er19_Get_c40
def er19_Get_c42 : ACode := .seq [0, 2, 4] er19_Get_c1 er19_Get_c41
def er19_Get_c43 : ACode := .seq [0, 2] er19_Get_c0 er19_Get_c42
def A_er19_Get : AFn := ⟨er19_Get_c43, [.cellN 2 33, .tmp 3]⟩
def E_er19_Get : Sums := disp 111 S_er01_At (disp 120 S_er19_Put (disp 21 S_er01_Same (disp 121 S_er19_Pow disp0)))
def er19_Get_c0_d (n : Nat) : SmV := smOps E_er19_Get er19_Get_o0
def er19_Get_c1_d (n : Nat) : SmV := smOps E_er19_Get er19_Get_o1
def er19_Get_c2_d (n : Nat) : SmV := smOps E_er19_Get er19_Get_o2
def er19_Get_c3_d (n : Nat) : SmV := smOps E_er19_Get er19_Get_o3
def er19_Get_c4_d (n : Nat) : SmV := smCond (.t 13) smSkip (smExit 0)
def er19_Get_c5_d (n : Nat) : SmV := smSeq [0, 2, 4, 5, 13] (er19_Get_c3_d n) (er19_Get_c4_d n)
def er19_Get_c6_d (n : Nat) : SmV := smOps E_er19_Get er19_Get_o4
def er19_Get_c7_d (n : Nat) : SmV := smBlock 1 (er19_Get_c6_d n)
def er19_Get_c8_d (n : Nat) : SmV := smOps E_er19_Get er19_Get_o5
def er19_Get_c9_d (n : Nat) : SmV := smSeq [0, 2, 4, 5] (er19_Get_c7_d n) (er19_Get_c8_d n)
def er19_Get_c10_d (n : Nat) : SmV := smSeq [0, 2, 4, 5] (er19_Get_c5_d n) (er19_Get_c9_d n)
def er19_Get_c11_d (n : Nat) : SmV := smLoop n [0, 2, 4, 5] (er19_Get_c10_d n)
def er19_Get_c12_d (n : Nat) : SmV := smBlock 0 (er19_Get_c11_d n)
def er19_Get_c13_d (n : Nat) : SmV := smSeq [0, 2, 4, 5] (er19_Get_c2_d n) (er19_Get_c12_d n)
def er19_Get_c14_d (n : Nat) : SmV := smOps E_er19_Get er19_Get_o6
def er19_Get_c15_d (n : Nat) : SmV := smOps E_er19_Get er19_Get_o7
def er19_Get_c16_d (n : Nat) : SmV := smOps E_er19_Get er19_Get_o8
def er19_Get_c17_d (n : Nat) : SmV := smSeq [2, 3] (er19_Get_c16_d n) smRet
def er19_Get_c18_d (n : Nat) : SmV := smCond (.t 36) (er19_Get_c17_d n) smSkip
def er19_Get_c19_d (n : Nat) : SmV := smSeq [2, 4, 36] (er19_Get_c15_d n) (er19_Get_c18_d n)
def er19_Get_c20_d (n : Nat) : SmV := smOps E_er19_Get er19_Get_o9
def er19_Get_c21_d (n : Nat) : SmV := smOps E_er19_Get er19_Get_o10
def er19_Get_c22_d (n : Nat) : SmV := smCond (.t 42) smSkip (smExit 2)
def er19_Get_c23_d (n : Nat) : SmV := smSeq [2, 4, 8, 42] (er19_Get_c21_d n) (er19_Get_c22_d n)
def er19_Get_c24_d (n : Nat) : SmV := smOps E_er19_Get er19_Get_o11
def er19_Get_c25_d (n : Nat) : SmV := smOps E_er19_Get er19_Get_o12
def er19_Get_c26_d (n : Nat) : SmV := smSeq [2, 3] (er19_Get_c25_d n) smRet
def er19_Get_c27_d (n : Nat) : SmV := smCond (.t 49) (er19_Get_c26_d n) smSkip
def er19_Get_c28_d (n : Nat) : SmV := smSeq [2, 4, 8, 49] (er19_Get_c24_d n) (er19_Get_c27_d n)
def er19_Get_c29_d (n : Nat) : SmV := smBlock 3 (er19_Get_c28_d n)
def er19_Get_c30_d (n : Nat) : SmV := smOps E_er19_Get er19_Get_o13
def er19_Get_c31_d (n : Nat) : SmV := smSeq [2, 4, 8] (er19_Get_c29_d n) (er19_Get_c30_d n)
def er19_Get_c32_d (n : Nat) : SmV := smSeq [2, 4, 8] (er19_Get_c23_d n) (er19_Get_c31_d n)
def er19_Get_c33_d (n : Nat) : SmV := smLoop n [2, 4, 8] (er19_Get_c32_d n)
def er19_Get_c34_d (n : Nat) : SmV := smBlock 2 (er19_Get_c33_d n)
def er19_Get_c35_d (n : Nat) : SmV := smSeq [2, 4, 8] (er19_Get_c20_d n) (er19_Get_c34_d n)
def er19_Get_c36_d (n : Nat) : SmV := smOps E_er19_Get er19_Get_o14
def er19_Get_c37_d (n : Nat) : SmV := smSeq [2, 3] (er19_Get_c36_d n) smRet
def er19_Get_c38_d (n : Nat) : SmV := smSeq [2, 4] (er19_Get_c35_d n) (er19_Get_c37_d n)
def er19_Get_c39_d (n : Nat) : SmV := smSeq [2, 4] (er19_Get_c19_d n) (er19_Get_c38_d n)
def er19_Get_c40_d (n : Nat) : SmV := smSeq [0, 2, 4, 6, 7] (er19_Get_c14_d n) (er19_Get_c39_d n)
def er19_Get_c41_d (n : Nat) : SmV := smSeq [0, 2, 4] (er19_Get_c13_d n) (er19_Get_c40_d n)
def er19_Get_c42_d (n : Nat) : SmV := smSeq [0, 2, 4] (er19_Get_c1_d n) (er19_Get_c41_d n)
def er19_Get_c43_d (n : Nat) : SmV := smSeq [0, 2] (er19_Get_c0_d n) (er19_Get_c42_d n)
def er19_Get_k0 (n : Nat) : AExit → Env → Heap → OptV := fun x e h => match x with | .normal => hold ((er19_Get_c40_d n) A_er19_Get.fin (e.keep [0, 2, 4]) h) | .exit id => A_er19_Get.fin (.exit id) e h | .ret => A_er19_Get.fin .ret e h
def er19_Get_k1 (n : Nat) : AExit → Env → Heap → OptV := fun x e h => match x with | .exit i => bif Nat.beq i 0 then (er19_Get_k0 n) .normal e h else (er19_Get_k0 n) (.exit i) e h | .normal => (er19_Get_k0 n) .normal e h | .ret => (er19_Get_k0 n) .ret e h
def er19_Get_l0 (n m : Nat) (x0 x2 x4 x5 : Val) (h : Heap) : OptV := around (er19_Get_c10_d n) [0, 2, 4, 5] (er19_Get_k1 n) m [(0, x0), (2, x2), (4, x4), (5, x5)] h
def R_er19_Get (n : Nat) (args : List Val) (h : Heap) : OptV := (er19_Get_c43_d n) A_er19_Get.fin (params 0 args) h
def er19_Get_k2 (n : Nat) : AExit → Env → Heap → OptV := fun x e h => match x with | .normal => hold ((er19_Get_c37_d n) A_er19_Get.fin (e.keep [2, 4]) h) | .exit id => A_er19_Get.fin (.exit id) e h | .ret => A_er19_Get.fin .ret e h
def er19_Get_k3 (n : Nat) : AExit → Env → Heap → OptV := fun x e h => match x with | .exit i => bif Nat.beq i 2 then (er19_Get_k2 n) .normal e h else (er19_Get_k2 n) (.exit i) e h | .normal => (er19_Get_k2 n) .normal e h | .ret => (er19_Get_k2 n) .ret e h
def er19_Get_l1 (n m : Nat) (x2 x4 x8 : Val) (h : Heap) : OptV := around (er19_Get_c32_d n) [2, 4, 8] (er19_Get_k3 n) m [(2, x2), (4, x4), (8, x8)] h
theorem R_er19_Get_eq (n : Nat) (a0 : Val) (h : Heap) : R_er19_Get n [a0] h = bnd (S_er01_At [a0, .c (.i .i64 4), .c (.i .i64 1)] ((h ++ [some (Row.mk ([.i .i64 0] ++ List.replicate 32 (.i .i64 0)) true)]))) fun p1 => bnd (afill ([.i .i64 0] ++ List.replicate 32 (.i .i64 0)) [(0, 1, p1.1)]) fun c2 => bnd (astoreN ((p1.2 ++ [some (Row.mk ([.i .i64 0] ++ List.replicate 32 (.i .i64 0)) true)])) 33 ((.c (.p p1.2.length 0))) ((.a c2))) fun h3 => er19_Get_l0 n n a0 ((.c (.p h.length 0))) ((.c (.p p1.2.length 0))) (.c (.i .i64 0)) h3 := by kernel_rfl
theorem er19_Get_l0_eq (n m : Nat) (x0 x2 x4 x5 : Val) (h : Heap) : er19_Get_l0 n (m + 1) x0 x2 x4 x5 h = bnd (abin .lss x5 (.c (.i .i64 32))) fun v4 => cnd v4 (bnd (abin .mul (.c (.i .i64 2)) x5) fun v5 => bnd (abin .add (.c (.i .i64 32)) v5) fun v6 => bnd (S_er01_At [x0, v6, .c (.i .i64 2)] h) fun p7 => bnd (afAddr x4 1) fun v8 => bnd (aiAddrA 32 1 v8 x5) fun v9 => bnd (astore1 p7.2 v9 p7.1) fun h10 => bnd (abin .add x5 (.c (.i .i64 1))) fun v11 => er19_Get_l0 n m x0 x2 x4 v11 h10) (bnd (aloadN h 33 x4) fun v12 => bnd (S_er19_Put [v12] h) fun p13 => bnd (aext p13.1 0) fun v14 => bnd (aext p13.1 1) fun v15 => bnd (aun .not v15) fun v16 => bnd (gd v16 false (some (v14, p13.2)) (some (.no, p13.2))) fun p17 => bnd (gd v16 false (some (x0, p17.2)) (some (.no, p17.2))) fun p18 => bnd (gd v16 false (bnd (S_er01_Same [p17.1, p18.1] p18.2) fun p19 => some (p19.1, p19.2)) (some (.no, p18.2))) fun p20 => bnd (gd v16 false (bnd (aun .not p20.1) fun v21 => some (v21, p20.2)) (some (.no, p20.2))) fun p22 => bnd (apick v16 (.c (.b true)) p22.1) fun v23 => cnd v23 (bnd (afill ([.i .i64 0] ++ List.replicate 32 (.i .i64 0)) []) fun c24 => bnd (astoreN p22.2 33 x2 ((.a c24))) fun h25 => tupN [aloadN h25 33 x2, some (.c (.b false))] h25) (bnd (afAddr x4 0) fun v26 => bnd (aload1 p22.2 v26) fun v27 => bnd (S_er19_Pow [v27] p22.2) fun p28 => er19_Get_l1 n n x2 x4 p28.1 p28.2)) := by kernel_rfl
theorem er19_Get_l1_eq (n m : Nat) (x2 x4 x8 : Val) (h : Heap) : er19_Get_l1 n (m + 1) x2 x4 x8 h = bnd (abin .lss x8 (.c (.i .i64 32))) fun v29 => cnd v29 (bnd (afAddr x4 1) fun v30 => bnd (aiAddrA 32 1 v30 x8) fun v31 => bnd (aload1 h v31) fun v32 => bnd (abin .neq v32 (.c (.i .i64 0))) fun v33 => cnd v33 (bnd (afill ([.i .i64 0] ++ List.replicate 32 (.i .i64 0)) []) fun c34 => bnd (astoreN h 33 x2 ((.a c34))) fun h35 => tupN [aloadN h35 33 x2, some (.c (.b false))] h35) (bnd (abin .add x8 (.c (.i .i64 1))) fun v36 => er19_Get_l1 n m x2 x4 v36 h)) (bnd (aloadN h 33 x4) fun v37 => bnd (astoreN h 33 x2 v37) fun h38 => tupN [aloadN h38 33 x2, some (.c (.b true))] h38) := by kernel_rfl
theorem K_er19_Get : FnK Try.prog 80 A_er19_Get E_er19_Get R_er19_Get := .mk' (sound1 S_er01_At_ok (sound1 S_er19_Put_ok (sound1 S_er01_Same_ok (sound1 S_er19_Pow_ok sound0)))) Try.func80 (by kernel_rfl) (by intro n args h; kernel_rfl)
def S_er19_Get : Fun := tidy (Lim A_er19_Get E_er19_Get)
theorem S_er19_Get_ok : SOk Try.prog 80 S_er19_Get := K_er19_Get.sok
theorem S_er19_Get_flat {n : Nat} {args : List Val} {h h2 : Heap} {v : Val} (he : R_er19_Get n args (ro h) = some (v, h2)) (hf : v.flat = true) : S_er19_Get args h = some (v, h) := K_er19_Get.flat he hf
def er19_Deep_o0 : List AOper := [aO 1 (.box (.t 0)), aO 2 (.mv (.v (.c (.i .i64 0))))]
def er19_Deep_c0 : ACode := .ops er19_Deep_o0
def er19_Deep_o1 : List AOper := [aO 3 (.fAddr (.t 1) 0), aO 4 (.load1 (.t 3)), aO 5 (.bin .lss (.t 4) (.v (.c (.i .i64 0))))]
def er19_Deep_c1 : ACode := .ops er19_Deep_o1
def er19_Deep_o2 : List AOper := [aO 2 (.mv (.v (.c (.i .i64 0))))]
def er19_Deep_c2 : ACode := .ops er19_Deep_o2
def er19_Deep_c3 : ACode := .seq [2] er19_Deep_c2 .ret
def er19_Deep_c4 : ACode := .cond (.t 5) er19_Deep_c3 .skip
def er19_Deep_c5 : ACode := .seq [1, 5] er19_Deep_c1 er19_Deep_c4
def er19_Deep_o3 : List AOper := [aO 6 (.fAddr (.t 1) 0), aO 7 (.load1 (.t 6)), aO 8 (.bin .gtr (.t 7) (.v (.c (.i .i64 5))))]
def er19_Deep_c6 : ACode := .ops er19_Deep_o3
def er19_Deep_o4 : List AOper := [aO 2 (.mv (.v (.c (.i .i64 5))))]
def er19_Deep_c7 : ACode := .ops er19_Deep_o4
def er19_Deep_c8 : ACode := .seq [2] er19_Deep_c7 .ret
def er19_Deep_c9 : ACode := .cond (.t 8) er19_Deep_c8 .skip
def er19_Deep_c10 : ACode := .seq [1, 8] er19_Deep_c6 er19_Deep_c9
def er19_Deep_o5 : List AOper := [aO 9 (.fAddr (.t 1) 0), aO 10 (.load1 (.t 9)), aO 2 (.mv (.t 10))]
def er19_Deep_c11 : ACode := .ops er19_Deep_o5
def er19_Deep_c12 : ACode := .seq [2] er19_Deep_c11 .ret
def er19_Deep_c13 : ACode := .seq [1] er19_Deep_c10 er19_Deep_c12
def er19_Deep_c14 : ACode := .seq [1] er19_Deep_c5 er19_Deep_c13
def er19_Deep_c15 : ACode := .seq [1] er19_Deep_c0 er19_Deep_c14
def A_er19_Deep : AFn := ⟨er19_Deep_c15, [.tmp 2]⟩
def E_er19_Deep : Sums := disp0
def er19_Deep_c0_d (n : Nat) : SmV := smOps E_er19_Deep er19_Deep_o0
def er19_Deep_c1_d (n : Nat) : SmV := smOps E_er19_Deep er19_Deep_o1
def er19_Deep_c2_d (n : Nat) : SmV := smOps E_er19_Deep er19_Deep_o2
def er19_Deep_c3_d (n : Nat) : SmV := smSeq [2] (er19_Deep_c2_d n) smRet
def er19_Deep_c4_d (n : Nat) : SmV := smCond (.t 5) (er19_Deep_c3_d n) smSkip
def er19_Deep_c5_d (n : Nat) : SmV := smSeq [1, 5] (er19_Deep_c1_d n) (er19_Deep_c4_d n)
def er19_Deep_c6_d (n : Nat) : SmV := smOps E_er19_Deep er19_Deep_o3
def er19_Deep_c7_d (n : Nat) : SmV := smOps E_er19_Deep er19_Deep_o4
def er19_Deep_c8_d (n : Nat) : SmV := smSeq [2] (er19_Deep_c7_d n) smRet
def er19_Deep_c9_d (n : Nat) : SmV := smCond (.t 8) (er19_Deep_c8_d n) smSkip
def er19_Deep_c10_d (n : Nat) : SmV := smSeq [1, 8] (er19_Deep_c6_d n) (er19_Deep_c9_d n)
def er19_Deep_c11_d (n : Nat) : SmV := smOps E_er19_Deep er19_Deep_o5
def er19_Deep_c12_d (n : Nat) : SmV := smSeq [2] (er19_Deep_c11_d n) smRet
def er19_Deep_c13_d (n : Nat) : SmV := smSeq [1] (er19_Deep_c10_d n) (er19_Deep_c12_d n)
def er19_Deep_c14_d (n : Nat) : SmV := smSeq [1] (er19_Deep_c5_d n) (er19_Deep_c13_d n)
def er19_Deep_c15_d (n : Nat) : SmV := smSeq [1] (er19_Deep_c0_d n) (er19_Deep_c14_d n)
def R_er19_Deep (n : Nat) (args : List Val) (h : Heap) : OptV := (er19_Deep_c15_d n) A_er19_Deep.fin (params 0 args) h
theorem R_er19_Deep_eq (n : Nat) (a0 : Val) (h : Heap) : R_er19_Deep n [a0] h = bnd (cells? a0) fun c1 => bnd (afAddr ((.c (.p h.length 0))) 0) fun v2 => bnd (aload1 ((h ++ [some (Row.mk (c1) true)])) v2) fun v3 => bnd (abin .lss v3 (.c (.i .i64 0))) fun v4 => cnd v4 (some ((.c (.i .i64 0)), (h ++ [some (Row.mk (c1) true)]))) (bnd (afAddr ((.c (.p h.length 0))) 0) fun v5 => bnd (aload1 ((h ++ [some (Row.mk (c1) true)])) v5) fun v6 => bnd (abin .gtr v6 (.c (.i .i64 5))) fun v7 => cnd v7 (some ((.c (.i .i64 5)), (h ++ [some (Row.mk (c1) true)]))) (bnd (afAddr ((.c (.p h.length 0))) 0) fun v8 => bnd (aload1 ((h ++ [some (Row.mk (c1) true)])) v8) fun v9 => some (v9, (h ++ [some (Row.mk (c1) true)])))) := by kernel_rfl
theorem K_er19_Deep : FnK Try.prog 123 A_er19_Deep E_er19_Deep R_er19_Deep := .mk' (sound0) Try.func123 (by kernel_rfl) (by intro n args h; kernel_rfl)
def S_er19_Deep : Fun := tidy (Lim A_er19_Deep E_er19_Deep)
theorem S_er19_Deep_ok : SOk Try.prog 123 S_er19_Deep := K_er19_Deep.sok
theorem S_er19_Deep_flat {n : Nat} {args : List Val} {h h2 : Heap} {v : Val} (he : R_er19_Deep n args (ro h) = some (v, h2)) (hf : v.flat = true) : S_er19_Deep args h = some (v, h) := K_er19_Deep.flat he hf
def er19_Buckets_o0 : List AOper := [aO 1 (.box (.t 0)), aO 2 (.nilrow 1)]
def er19_Buckets_c0 : ACode := .ops er19_Buckets_o0
def er19_Buckets_o1 : List AOper := [aO 3 (.nilrow 1)]
def er19_Buckets_c1 : ACode := .ops er19_Buckets_o1
def er19_Buckets_o2 : List AOper := [aO 4 (.mv (.v (.c (.i .i64 0))))]
def er19_Buckets_c2 : ACode := .ops er19_Buckets_o2
def er19_Buckets_o3 : List AOper := [aO 5 (.mv (.t 4)), aO 6 (.loadN 33 (.t 1)), aO 7 (.call 123 [(.t 6)]), aO 8 (.call 121 [(.t 7)]), aO 9 (.bin .lss (.t 5) (.t 8))]
def er19_Buckets_c3 : ACode := .ops er19_Buckets_o3
def er19_Buckets_c4 : ACode := .cond (.t 9) .skip (.exit 0)
def er19_Buckets_c5 : ACode := .seq [1, 3, 4, 9] er19_Buckets_c3 er19_Buckets_c4
def er19_Buckets_o4 : List AOper := [aO 12 (.mv (.t 4)), aO 13 (.fAddr (.t 1) 1), aO 14 (.iAddrA 32 1 (.t 13) (.t 12)), aO 15 (.load1 (.t 14)), aO 16 (.bin .neq (.t 15) (.v (.c (.i .i64 0)))), aO 17 (.mv (.t 16)), { dst := some 18, op := .mv (.t 3), guard := some (17, true) }, { dst := some 19, op := .mv (.t 4), guard := some (17, true) }, { dst := some 20, op := .fAddr (.t 1) 1, guard := some (17, true) }, { dst := some 21, op := .iAddrA 32 1 (.t 20) (.t 19), guard := some (17, true) }, { dst := some 22, op := .load1 (.t 21), guard := some (17, true) }, { dst := some 23, op := .call 26 [(.t 18), (.t 22)], guard := some (17, true) }, { dst := some 24, op := .un .not (.t 23), guard := some (17, true) }, aO 25 (.pick (.t 17) (.t 24) (.v (.c (.b false))))]
def er19_Buckets_c6 : ACode := .ops er19_Buckets_o4
def er19_Buckets_o5 : List AOper := [aO 26 (.mv (.t 3)), aO 27 (.mv (.t 4)), aO 28 (.fAddr (.t 1) 1), aO 29 (.iAddrA 32 1 (.t 28) (.t 27)), aO 30 (.load1 (.t 29)), aO 31 (.buildSl 1 1 ([.i .i64 0]) [(0, 1, (.t 30))]), aO 32 (.app 1 (.t 26) (.t 31)), aO 3 (.mv (.t 32))]
def er19_Buckets_c7 : ACode := .ops er19_Buckets_o5
def er19_Buckets_c8 : ACode := .cond (.t 25) er19_Buckets_c7 .skip
def er19_Buckets_c9 : ACode := .seq [1, 3, 4, 25] er19_Buckets_c6 er19_Buckets_c8
def er19_Buckets_c10 : ACode := .block 1 er19_Buckets_c9
def er19_Buckets_o6 : List AOper := [aO 10 (.mv (.t 4)), aO 11 (.bin .add (.t 10) (.v (.c (.i .i64 1)))), aO 4 (.mv (.t 11))]
def er19_Buckets_c11 : ACode := .ops er19_Buckets_o6
def er19_Buckets_c12 : ACode := .seq [1, 3, 4] er19_Buckets_c10 er19_Buckets_c11
def er19_Buckets_c13 : ACode := .seq [1, 3, 4] er19_Buckets_c5 er19_Buckets_c12
def er19_Buckets_c14 : ACode := .loop [1, 3, 4] er19_Buckets_c13
def er19_Buckets_c15 : ACode := .block 0 er19_Buckets_c14
def er19_Buckets_c16 : ACode := .seq [1, 3, 4] er19_Buckets_c2 er19_Buckets_c15
def er19_Buckets_o7 : List AOper := [aO 33 (.mv (.t 3)), aO 2 (.mv (.t 33))]
def er19_Buckets_c17 : ACode := .ops er19_Buckets_o7
def er19_Buckets_c18 : ACode := .seq [2] er19_Buckets_c17 .ret
def er19_Buckets_c19 : ACode := .seq [3] er19_Buckets_c16 er19_Buckets_c18
def er19_Buckets_c20 : ACode := .seq [1, 3] er19_Buckets_c1 er19_Buckets_c19
def er19_Buckets_c21 : ACode := .seq [1] er19_Buckets_c0 er19_Buckets_c20
def A_er19_Buckets : AFn := ⟨er19_Buckets_c21, [.tmp 2]⟩
def E_er19_Buckets : Sums := disp 123 S_er19_Deep (disp 121 S_er19_Pow (disp 26 S_er09_In disp0))
def er19_Buckets_c0_d (n : Nat) : SmV := smOps E_er19_Buckets er19_Buckets_o0
def er19_Buckets_c1_d (n : Nat) : SmV := smOps E_er19_Buckets er19_Buckets_o1
def er19_Buckets_c2_d (n : Nat) : SmV := smOps E_er19_Buckets er19_Buckets_o2
def er19_Buckets_c3_d (n : Nat) : SmV := smOps E_er19_Buckets er19_Buckets_o3
def er19_Buckets_c4_d (n : Nat) : SmV := smCond (.t 9) smSkip (smExit 0)
def er19_Buckets_c5_d (n : Nat) : SmV := smSeq [1, 3, 4, 9] (er19_Buckets_c3_d n) (er19_Buckets_c4_d n)
def er19_Buckets_c6_d (n : Nat) : SmV := smOps E_er19_Buckets er19_Buckets_o4
def er19_Buckets_c7_d (n : Nat) : SmV := smOps E_er19_Buckets er19_Buckets_o5
def er19_Buckets_c8_d (n : Nat) : SmV := smCond (.t 25) (er19_Buckets_c7_d n) smSkip
def er19_Buckets_c9_d (n : Nat) : SmV := smSeq [1, 3, 4, 25] (er19_Buckets_c6_d n) (er19_Buckets_c8_d n)
def er19_Buckets_c10_d (n : Nat) : SmV := smBlock 1 (er19_Buckets_c9_d n)
def er19_Buckets_c11_d (n : Nat) : SmV := smOps E_er19_Buckets er19_Buckets_o6
def er19_Buckets_c12_d (n : Nat) : SmV := smSeq [1, 3, 4] (er19_Buckets_c10_d n) (er19_Buckets_c11_d n)
def er19_Buckets_c13_d (n : Nat) : SmV := smSeq [1, 3, 4] (er19_Buckets_c5_d n) (er19_Buckets_c12_d n)
def er19_Buckets_c14_d (n : Nat) : SmV := smLoop n [1, 3, 4] (er19_Buckets_c13_d n)
def er19_Buckets_c15_d (n : Nat) : SmV := smBlock 0 (er19_Buckets_c14_d n)
def er19_Buckets_c16_d (n : Nat) : SmV := smSeq [1, 3, 4] (er19_Buckets_c2_d n) (er19_Buckets_c15_d n)
def er19_Buckets_c17_d (n : Nat) : SmV := smOps E_er19_Buckets er19_Buckets_o7
def er19_Buckets_c18_d (n : Nat) : SmV := smSeq [2] (er19_Buckets_c17_d n) smRet
def er19_Buckets_c19_d (n : Nat) : SmV := smSeq [3] (er19_Buckets_c16_d n) (er19_Buckets_c18_d n)
def er19_Buckets_c20_d (n : Nat) : SmV := smSeq [1, 3] (er19_Buckets_c1_d n) (er19_Buckets_c19_d n)
def er19_Buckets_c21_d (n : Nat) : SmV := smSeq [1] (er19_Buckets_c0_d n) (er19_Buckets_c20_d n)
def er19_Buckets_k0 (n : Nat) : AExit → Env → Heap → OptV := fun x e h => match x with | .normal => hold ((er19_Buckets_c18_d n) A_er19_Buckets.fin (e.keep [3]) h) | .exit id => A_er19_Buckets.fin (.exit id) e h | .ret => A_er19_Buckets.fin .ret e h
def er19_Buckets_k1 (n : Nat) : AExit → Env → Heap → OptV := fun x e h => match x with | .exit i => bif Nat.beq i 0 then (er19_Buckets_k0 n) .normal e h else (er19_Buckets_k0 n) (.exit i) e h | .normal => (er19_Buckets_k0 n) .normal e h | .ret => (er19_Buckets_k0 n) .ret e h
def er19_Buckets_l0 (n m : Nat) (x1 x3 x4 : Val) (h : Heap) : OptV := around (er19_Buckets_c13_d n) [1, 3, 4] (er19_Buckets_k1 n) m [(1, x1), (3, x3), (4, x4)] h
def R_er19_Buckets (n : Nat) (args : List Val) (h : Heap) : OptV := (er19_Buckets_c21_d n) A_er19_Buckets.fin (params 0 args) h
def er19_Buckets_k2 (n m : Nat) : AExit → Env → Heap → OptV := fun x e h => match x with | .normal => around (er19_Buckets_c13_d n) [1, 3, 4] (er19_Buckets_k1 n) m (e.keep [1, 3, 4]) h | .exit id => (er19_Buckets_k1 n) (.exit id) e h | .ret => (er19_Buckets_k1 n) .ret e h
def er19_Buckets_j0 (n m : Nat) (x1 x3 x4 : Val) (h : Heap) : OptV := hold ((er19_Buckets_c11_d n) (er19_Buckets_k2 n m) [(1, x1), (3, x3), (4, x4)] h)
theorem R_er19_Buckets_eq (n : Nat) (a0 : Val) (h : Heap) : R_er19_Buckets n [a0] h = bnd (cells? a0) fun c1 => er19_Buckets_l0 n n ((.c (.p h.length 0))) ((.c (.sl (((h ++ [some (Row.mk (c1) true)]) ++ [some (Row.mk ([]) true)])).length 0 0 1))) (.c (.i .i64 0)) ((((h ++ [some (Row.mk (c1) true)]) ++ [some (Row.mk ([]) true)]) ++ [some (Row.mk ([]) true)])) := by kernel_rfl
theorem er19_Buckets_l0_eq (n m : Nat) (x1 x3 x4 : Val) (h : Heap) : er19_Buckets_l0 n (m + 1) x1 x3 x4 h = bnd (aloadN h 33 x1) fun v2 => bnd (S_er19_Deep [v2] h) fun p3 => bnd (S_er19_Pow [p3.1] p3.2) fun p4 => bnd (abin .lss x4 p4.1) fun v5 => cnd v5 (bnd (afAddr x1 1) fun v6 => bnd (aiAddrA 32 1 v6 x4) fun v7 => bnd (aload1 p4.2 v7) fun v8 => bnd (abin .neq v8 (.c (.i .i64 0))) fun v9 => bnd (gd v9 true (some (x3, p4.2)) (some (.no, p4.2))) fun p10 => bnd (gd v9 true (some (x4, p10.2)) (some (.no, p10.2))) fun p11 => bnd (gd v9 true (bnd (afAddr x1 1) fun v12 => some (v12, p11.2)) (some (.no, p11.2))) fun p13 => bnd (gd v9 true (bnd (aiAddrA 32 1 p13.1 p11.1) fun v14 => some (v14, p13.2)) (some (.no, p13.2))) fun p15 => bnd (gd v9 true (bnd (aload1 p15.2 p15.1) fun v16 => some (v16, p15.2)) (some (.no, p15.2))) fun p17 => bnd (gd v9 true (bnd (S_er09_In [p10.1, p17.1] p17.2) fun p18 => some (p18.1, p18.2)) (some (.no, p17.2))) fun p19 => bnd (gd v9 true (bnd (aun .not p19.1) fun v20 => some (v20, p19.2)) (some (.no, p19.2))) fun p21 => bnd (apick v9 p21.1 (.c (.b false))) fun v22 => cnd v22 (bnd (afAddr x1 1) fun v23 => bnd (aiAddrA 32 1 v23 x4) fun v24 => bnd (aload1 p21.2 v24) fun v25 => bnd (afill ([.i .i64 0]) [(0, 1, v25)]) fun c26 => bnd (aapp ((p21.2 ++ [some (Row.mk (c26) true)])) 1 x3 ((.c (.sl p21.2.length 0 1 1)))) fun p27 => er19_Buckets_j0 n m x1 p27.1 x4 p27.2) (er19_Buckets_j0 n m x1 x3 x4 p21.2)) (some (x3, p4.2)) := by kernel_rfl
theorem er19_Buckets_j0_eq (n m : Nat) (x1 x3 x4 : Val) (h : Heap) : er19_Buckets_j0 n m x1 x3 x4 h = bnd (abin .add x4 (.c (.i .i64 1))) fun v28 => er19_Buckets_l0 n m x1 x3 v28 h := by kernel_rfl
theorem K_er19_Buckets : FnK Try.prog 83 A_er19_Buckets E_er19_Buckets R_er19_Buckets := .mk' (sound1 S_er19_Deep_ok (sound1 S_er19_Pow_ok (sound1 S_er09_In_ok sound0))) Try.func83 (by kernel_rfl) (by intro n args h; kernel_rfl)
def S_er19_Buckets : Fun := tidy (Lim A_er19_Buckets E_er19_Buckets)
theorem S_er19_Buckets_ok : SOk Try.prog 83 S_er19_Buckets := K_er19_Buckets.sok
theorem S_er19_Buckets_out {n : Nat} {args : List Val} {h h2 : Heap} {v : Val} {sz k : Nat} {cs : List Cell} (he : R_er19_Buckets n args (ro h) = some (v, h2)) (ho : Out h.length h2 v sz k cs) (hf : flats cs = true) : S_er19_Buckets args h = some (.c (.sl h.length 0 k sz), h ++ [some ⟨cs, true⟩]) := K_er19_Buckets.out he ho hf
end Go.Proofs.Ytdgggnlbdoiloaa
end
section
namespace Go.Proofs.Ytdgggnlbdoiloaa
open Go Go.Esc

theorem ref19_Deep_eq {d : Int} {t : List Int} {h : Heap} : S_er19_Deep [.a (encI (d :: t))] h = some (.c (.i .i64 (depX d : Nat)), h) := by
  have key : ∀ g, ∃ g', R_er19_Deep 0 [.a (encI (d :: t))] g = some (.c (.i .i64 (depX d : Nat)), g') := by
    intro g
    have l0 : (encI (d :: t))[0]? = some (.i .i64 d) := rfl
    rw [R_er19_Deep_eq]
    generalize encI (d :: t) = y at *
    by_cases c1 : d < 0
    · have e : ((depX d : Nat) : Int) = 0 := by unfold depX; omega
      rw [e]
      exact ⟨_, by simp only [esc, esh, Nat.reduceAdd, Nat.reduceMul, Nat.reduceLT, l0, c1] <;> rfl⟩
    · by_cases c2 : 5 < d
      · have e : ((depX d : Nat) : Int) = 5 := by unfold depX; omega
        rw [e]
        exact ⟨_, by simp only [esc, esh, Nat.reduceAdd, Nat.reduceMul, Nat.reduceLT, l0, c1, c2] <;> rfl⟩
      · rw [depX_of (by omega) (by omega)]
        exact ⟨_, by simp only [esc, esh, Nat.reduceAdd, Nat.reduceMul, Nat.reduceLT, l0, c1, c2] <;> rfl⟩
  obtain ⟨g', e⟩ := key (ro h)
  exact S_er19_Deep_flat e rfl

theorem pow_loop {k q : Nat} {h : Heap} (hk : k ≤ 32) : ∀ e i m : Nat, i + e = k → e < m → er19_Pow_l0 q m (.c (.i .i64 (k : Int))) (.c (.i .i64 ((2 ^ i : Nat) : Int))) (.c (.i .i64 (i : Int))) h = some (.c (.i .i64 ((2 ^ k : Nat) : Int)), h)
  | e, i, 0, _, hm => by omega
  | 0, i, m + 1, hi, hm => by
    have e0 : i = k := by omega
    subst e0
    have c0 : ¬ (i : Int) < i := by omega
    rw [er19_Pow_l0_eq]
    simp only [esc, c0]
  | e + 1, i, m + 1, hi, hm => by
    have ih := pow_loop (q := q) (h := h) hk e (i + 1) m (by omega) (by omega)
    have c0 : (i : Int) < k := by omega
    have hp : 2 ^ i ≤ 2 ^ 32 := Nat.pow_le_pow_right (by omega) (by omega)
    have w1 : IntKind.wrap .i64 (((2 ^ i : Nat) : Int) * 2) = ((2 ^ (i + 1) : Nat) : Int) := by
      rw [Nat.pow_succ]
      generalize 2 ^ i = y at hp ⊢
      rw [wrap_i64 (by omega) (by omega)]; omega
    rw [er19_Pow_l0_eq]
    generalize ((2 ^ (i + 1) : Nat) : Int) = y1 at *
    generalize ((2 ^ i : Nat) : Int) = y at *
    simp only [esc, c0, w1, wi_succ (show i + 1 < 9223372036854775808 by omega)]
    exact ih
theorem ref19_Pow_eq {k : Nat} {h : Heap} (hk : k ≤ 32) : S_er19_Pow [.c (.i .i64 (k : Int))] h = some (.c (.i .i64 ((2 ^ k : Nat) : Int)), h) := by
  have e := pow_loop (q := k + 1) (h := ro h) hk k 0 (k + 1) (by omega) (by omega)
  exact S_er19_Pow_flat (n := k + 1) (h2 := ro h) (by rw [R_er19_Pow_eq]; exact e) rfl

theorem ref19_Powd_eq {d : Int} {h : Heap} : S_er19_Pow [.c (.i .i64 (depX d : Nat))] h = some (.c (.i .i64 (manyX d : Nat)), h) := ref19_Pow_eq (by have := depX_le d; omega)

end Go.Proofs.Ytdgggnlbdoiloaa
end
section
namespace Go.Proofs.Ytdgggnlbdoiloaa
open Go Go.Esc

theorem ref19_Fine_eq {n : Int} {h : Heap} : S_er19_Fine [.c (.i .i64 n)] h = some (.c (.b (finI n)), h) := by
  refine S_er19_Fine_flat (n := 0) (h2 := ro h) ?_ rfl
  rw [R_er19_Fine_eq]
  unfold finI
  by_cases c : 0 ≤ n
  · simp only [esc, c, Bool.true_and]
  · simp only [esc, c, Bool.false_and]

theorem appZ_of {h : Heap} {id n m : Nat} {cs : List Cell} (hr : rd h id = some ⟨cs, true⟩) (hl : cs.length = n) (hn : n + m ≤ 1073741824) :
    aappZ h 1 [.i .u8 0] (.c (.sl id 0 n 1)) (.c (.i .i64 (m : Int))) = some (.c (.sl h.length 0 (n + m) 1), h.set id none ++ [some ⟨cs ++ encB (zeros m), true⟩]) := by
  have hm : nat? (.c (.i .i64 (m : Int))) = some m := by simp only [nat?]; rw [if_pos (by omega)]; simp
  have hz := rows_zero m
  simp only [aappZ, hm, Option.bind_some, hr, hz]
  rw [if_pos ⟨trivial, trivial, by omega, trivial, hn⟩]

theorem rput_loop {d : Int} {t : List Int} {g : Heap} {q : Nat} (ht : t.length = 32) : ∀ (e i m : Nat) (h : Heap) (id : Nat), i + e = 32 → e < m → Low (g ++ [some (Row.mk (encI (d :: t)) true)]).length (g ++ [some (Row.mk (encI (d :: t)) true)]) h → (g ++ [some (Row.mk (encI (d :: t)) true)]).length ≤ id → rd h id = some ⟨encB (idxH d ++ numB (t.take i)), true⟩ →
    ∃ j h', er19_Put_l0 q m (.c (.p g.length 0)) (.c (.sl id 0 (32 + 2 * i) 1)) (.c (.i .i64 (i : Int))) h = some (.t [.c (.sl j 0 (bif (t.drop i).all finI then 256 else 0) 1), .c (.b ((t.drop i).all finI))], h') ∧
      Out g.length h' (.c (.sl j 0 (bif (t.drop i).all finI then 256 else 0) 1)) 1 (bif (t.drop i).all finI then 256 else 0) (encB (bif (t.drop i).all finI then idxB d t else []))
  | e, i, 0, h, id, _, hm, _, _, _ => by omega
  | 0, i, m + 1, h, id, hi, hm, hlow, hid, hr => by
    have e0 : i = 32 := by omega
    subst e0
    have c0 : ¬ ((32 : Nat) : Int) < 32 := by omega
    have mk : amkn (.c (.i .i64 256)) (.c (.i .i64 256)) = some 256 := rfl
    have rz := rows_zero 256
    have zl : (zeros 256).length = 256 := zeros_length
    rw [List.take_of_length_le (by omega)] at hr
    have hnl : (idxH d ++ numB t).length = 96 := by rw [List.length_append, idxH_length, numB_length]; omega
    have hL := ref01_Lay_eq (h := h ++ [some (Row.mk (encB (zeros 256)) true)]) (v := .c (.sl h.length 0 256 1)) (nv := 256) (l := zeros 256) (u := .c (.sl id 0 (32 + 2 * 32) 1)) (nu := 32 + 2 * 32) (data := idxH d ++ numB t) (Has.tr (by simp) (by rw [encB_length]; exact zeros_length) (noX_encB _)) (Has.tr (rd_append hr) (by rw [encB_length, hnl]) (noX_encB _)) (a := 0) (by omega) (by omega)
    have eL : layR (zeros 256) 0 (idxH d ++ numB t) = idxB d t := by
      have h1 := layR_layB (l := zeros 256) (xs := idxH d ++ numB t) (a := 0) (by omega)
      have h2 := padB_lay (l := []) (xs := idxH d ++ numB t) (a := 0) (by simp) (by omega)
      rw [show ((0 : Nat) : Int) = 0 from rfl] at h1
      rw [h1, ← padB_nil, h2, List.length_nil, Nat.sub_self, show zeros 0 = [] from rfl, List.append_nil, List.nil_append]; rfl
    rw [eL, zl] at hL
    have hil := idxB_length (d := d) ht
    rw [er19_Put_l0_eq, List.drop_of_length_le (by omega), List.all_nil]
    simp only [cond_true]
    rw [List.length_append] at hid
    have hll := hlow.2.1
    rw [List.length_append] at hll
    simp only [List.length_cons, List.length_nil] at hll hid
    refine ⟨h.length + 1, h ++ [some (Row.mk (encB (zeros 256)) true), some (Row.mk (encB (idxB d t)) true)], ?_, by rw [encB_length, hil], _, rfl, by omega, by simp⟩
    generalize idxB d t = P at *
    generalize zeros 256 = z at *
    simp only [esc] at hL
    simp only [esc, esh, Nat.reduceAdd, Nat.reduceMul, Nat.reduceLT, c0, mk, rz, hL]
  | e + 1, i, m + 1, h, id, hi, hm, hlow, hid, hr => by
    have c0 : (i : Int) < 32 := by omega
    have hrd : rd h g.length = some ⟨encI (d :: t), true⟩ := hlow.rd (by simp)
    have a1 := adX (id := g.length) (i := i) (by omega)
    have l1 := ldX (h := h) (id := g.length) hrd ht (i := i) (by omega)
    have et : toX t i = t[i] := by unfold toX; rw [List.getD_eq_getElem?_getD, List.getElem?_eq_getElem (by omega)]; rfl
    rw [et] at l1
    have hF := fun h => ref19_Fine_eq (n := t[i]) (h := h)
    rw [er19_Put_l0_eq, List.drop_eq_getElem_cons (by omega : i < t.length), List.all_cons]
    have hll := hlow.2.1
    rw [List.length_append] at hll
    simp only [List.length_cons, List.length_nil] at hll
    cases c : finI t[i] with
    | false =>
      rw [c] at hF
      rw [Bool.false_and]
      simp only [cond_false]
      refine ⟨h.length, h ++ [some (Row.mk [] true)], ?_, rfl, _, rfl, by omega, by simp [encB]⟩
      generalize encI (d :: t) = y at *
      simp only [esc, c0, a1, l1, hF]
    | true =>
      rw [c] at hF
      rw [Bool.true_and]
      have hnl : (idxH d ++ numB (t.take i)).length = 32 + 2 * i := by rw [List.length_append, idxH_length, numB_length, List.length_take]; omega
      have hb := fun h => bytes_conv (w := 2) (v := t[i]) (h := h) (by omega)
      simp only [Int.cast_ofNat_Int] at hb
      obtain ⟨h1', b1, b2, b3, b4, b5⟩ := pushN (ys := encB (bytesI 2 t[i])) (m := 2) (sz := 1) (n := 32 + 2 * i) hlow hr (by rw [encB_length, hnl]; omega) hid (by simp [encB_length]) (by omega) (by omega)
      rw [← encB_append, List.append_assoc, ← numB_snoc, ← List.take_succ_eq_append_getElem (by omega)] at b2
      obtain ⟨j, h', f1, f2⟩ := rput_loop (q := q) ht e (i + 1) m h1' (h.length + 1) (by omega) (by omega) b3 b4 b2
      rw [show 32 + 2 * (i + 1) = 32 + 2 * i + 2 by omega] at f1
      refine ⟨j, h', ?_, f2⟩
      generalize encI (d :: t) = y at *
      simp only [esc, c0, a1, l1, hF, hb, b1, wi_succ (show i + 1 < 9223372036854775808 by omega)]
      exact f1

theorem ref19_Put_eq {d : Int} {t : List Int} {h : Heap} (ht : t.length = 32) : S_er19_Put [.a (encI (d :: t))] h = some (.t [.c (.sl h.length 0 (bif okX d t then 256 else 0) 1), .c (.b (okX d t))], h ++ [some ⟨encB (bif okX d t then idxB d t else []), true⟩]) := by
  have key : ∀ N, 32 < N → ∀ g, ∃ j g', R_er19_Put N [.a (encI (d :: t))] g = some (.t [.c (.sl j 0 (bif okX d t then 256 else 0) 1), .c (.b (okX d t))], g') ∧ Out g.length g' (.c (.sl j 0 (bif okX d t then 256 else 0) 1)) 1 (bif okX d t then 256 else 0) (encB (bif okX d t then idxB d t else [])) := by
    intro N hN g
    have l0 : (encI (d :: t))[0]? = some (.i .i64 d) := rfl
    rw [R_er19_Put_eq]
    unfold okX
    by_cases c1 : d < 0
    · rw [decide_eq_false (show ¬ 0 ≤ d by omega), Bool.false_and]
      simp only [cond_false]
      refine ⟨g.length + 2, g ++ [some (Row.mk (encI (d :: t)) true), some (Row.mk [] true), some (Row.mk [] true)], ?_, rfl, _, rfl, by omega, by simp [encB]⟩
      generalize encI (d :: t) = y at *
      simp only [esc, esh, Nat.reduceAdd, Nat.reduceMul, Nat.reduceLT, l0, c1]
    · rw [decide_eq_true (show 0 ≤ d by omega), Bool.true_and]
      by_cases c2 : 5 < d
      · rw [decide_eq_false (show ¬ d ≤ 5 by omega), Bool.false_and]
        simp only [cond_false]
        refine ⟨g.length + 2, g ++ [some (Row.mk (encI (d :: t)) true), some (Row.mk [] true), some (Row.mk [] true)], ?_, rfl, _, rfl, by omega, by simp [encB]⟩
        generalize encI (d :: t) = y at *
        simp only [esc, esh, Nat.reduceAdd, Nat.reduceMul, Nat.reduceLT, l0, c1, c2]
      · rw [decide_eq_true (show d ≤ 5 by omega), Bool.true_and]
        have ef : afill [Cell.i .u8 0, .i .u8 0, .i .u8 0, .i .u8 0] [(0, 1, .c (.i .u8 105)), (1, 1, .c (.i .u8 100)), (2, 1, .c (.i .u8 120)), (3, 1, .c (.i .u8 33))] = some (encB magX) := rfl
        have b0 : IntKind.wrap .u8 d = ((byI d 0).toNat : Int) := by rw [wrap_u8_mod, byI_int]; simp
        have ef1 : afill [Cell.i .u8 0] [(0, 1, .c (.i .u8 ((byI d 0).toNat : Int)))] = some (encB (bytesI 1 d)) := rfl
        have hM : amark (g ++ [some (Row.mk (encI (d :: t)) true), some (Row.mk [] true), some (Row.mk (encB magX) true)]) (.c (.sl (g.length + 2) 0 4 1)) = some (.c (.sl (g.length + 2) 0 4 1)) := by simp [amark]
        have hA := app_of (h := g ++ [some (Row.mk (encI (d :: t)) true), some (Row.mk [] true), some (Row.mk (encB magX) true), some (Row.mk (encB (bytesI 1 d)) true)]) (id := g.length + 2) (jd := g.length + 3) (n := 4) (m := 1) (sz := 1) (cs := encB magX) (ys := encB (bytesI 1 d)) (rw := true) (by simp) rfl (by simp) (by simp [encB_length]) rfl (by omega) (by omega)
        simp only [List.length_append, List.length_cons, List.length_nil, Nat.zero_add, List.append_assoc, List.cons_append, List.nil_append, set_at, List.set_cons_succ, List.set_cons_zero, Nat.reduceAdd, ← encB_append] at hA
        have hZ := appZ_of (h := g ++ [some (Row.mk (encI (d :: t)) true), some (Row.mk [] true), none, some (Row.mk (encB (bytesI 1 d)) true), some (Row.mk (encB (magX ++ bytesI 1 d)) true)]) (id := g.length + 4) (n := 5) (m := 27) (cs := encB (magX ++ bytesI 1 d)) (by simp) (by rw [encB_length]; simp [magX]) (by omega)
        simp only [List.length_append, List.length_cons, List.length_nil, Nat.zero_add, List.append_assoc, List.cons_append, List.nil_append, set_at, List.set_cons_succ, List.set_cons_zero, Nat.reduceAdd, ← encB_append] at hZ
        rw [show ((27 : Nat) : Int) = 27 from rfl] at hZ
        obtain ⟨j, g', f1, f2⟩ := rput_loop (g := g) (d := d) (t := t) (q := N) ht 32 0 N (g ++ [some (Row.mk (encI (d :: t)) true), some (Row.mk [] true), none, some (Row.mk (encB (bytesI 1 d)) true), none, some (Row.mk (encB (magX ++ (bytesI 1 d ++ zeros 27))) true)]) (g.length + 5) (by omega) hN
          (by have := (Low.refl (h := g ++ [some (Row.mk (encI (d :: t)) true)]) (Nat.le_refl _)).new [some (Row.mk [] true), none, some (Row.mk (encB (bytesI 1 d)) true), none, some (Row.mk (encB (magX ++ (bytesI 1 d ++ zeros 27))) true)]
              simpa using this) (by simp) (by simp [idxH, numB])
        rw [List.drop_zero] at f1 f2
        refine ⟨j, g', ?_, f2⟩
        generalize magX ++ (bytesI 1 d ++ zeros 27) = P3 at *
        generalize magX ++ bytesI 1 d = P2 at *
        generalize encB (bytesI 1 d) = P1 at *
        generalize encB magX = mg at *
        generalize encI (d :: t) = y at *
        simp only [esc, esh, Nat.reduceAdd, Nat.reduceMul, Nat.reduceLT, l0, c1, c2, ef, hM, b0, ef1, hA, hZ]
        exact f1
  obtain ⟨j, g', e, ho⟩ := key (h.length + 33) (by omega) (ro h)
  exact S_er19_Put_out2 e (by simpa [ro_length] using ho) (by simp) rfl

theorem rget_l1 {d : Int} {t : List Int} {ix iz q : Nat} {h : Heap} (ht : t.length = 32) (hx : rd h ix = some ⟨encI (d :: t), true⟩) (hz : rd h iz = some ⟨encI (0 :: zI 32), true⟩) : ∀ e i m : Nat, i + e = 32 → e < m →
    ∃ h', er19_Get_l1 q m (.c (.p iz 0)) (.c (.p ix 0)) (.c (.i .i64 (i : Int))) h = some (.t [.a (encI (bif restX t i e then d :: t else 0 :: zI 32)), .c (.b (restX t i e))], h')
  | e, i, 0, _, hm => by omega
  | 0, i, m + 1, hi, hm => by
    have e0 : i = 32 := by omega
    subst e0
    have c0 : ¬ ((32 : Nat) : Int) < 32 := by omega
    have hX := encX_length (d := d) ht
    have hZ : (encI (0 :: zI 32)).length = 33 := encX_length (d := 0) zI_length
    have s1 := loadAll (h := h) (id := ix) hx hX
    have s2 := storeAll (h := h) (id := iz) (xs := encI (d :: t)) hz hZ hX
    have s3 := loadAll (h := h.set iz (some ⟨encI (d :: t), true⟩)) (id := iz) (rd_set_same (rd_lt hz)) hX
    have er : restX t 32 0 = true := rfl
    rw [er19_Get_l1_eq, er, cond_true]
    generalize encI (d :: t) = y at *
    exact ⟨_, by simp only [esc, c0, s1, s2, s3] <;> rfl⟩
  | e + 1, i, m + 1, hi, hm => by
    obtain ⟨h', ih⟩ := rget_l1 (q := q) ht hx hz e (i + 1) m (by omega) (by omega)
    have c0 : (i : Int) < 32 := by omega
    have hZ : (encI (0 :: zI 32)).length = 33 := encX_length (d := 0) zI_length
    have a1 := adX (id := ix) (i := i) (by omega)
    have l1 := ldX (h := h) (id := ix) hx ht (i := i) (by omega)
    have haf : afill (encI (0 :: zI 32)) [] = some (encI (0 :: zI 32)) := rfl
    have s2 := storeAll (h := h) (id := iz) (xs := encI (0 :: zI 32)) hz hZ hZ
    have s3 := loadAll (h := h.set iz (some ⟨encI (0 :: zI 32), true⟩)) (id := iz) (rd_set_same (rd_lt hz)) hZ
    have er : restX t i (e + 1) = (decide (toX t i = 0) && restX t (i + 1) e) := by unfold restX; rw [List.range'_succ, List.all_cons]
    rw [er19_Get_l1_eq, er, zI_enc]
    by_cases c : toX t i = 0
    · rw [decide_eq_true c, Bool.true_and]
      rw [c] at l1
      generalize encI (0 :: zI 32) = z at *
      exact ⟨h', by simp only [esc, c0, a1, l1, wi_succ (show i + 1 < 9223372036854775808 by omega)]; exact ih⟩
    · rw [decide_eq_false c, Bool.false_and, cond_false]
      generalize encI (0 :: zI 32) = z at *
      exact ⟨_, by simp only [esc, c0, a1, l1, c, haf, s2, s3] <;> rfl⟩

theorem okX_depth {d : Int} {t : List Int} (h : okX d t = true) : 0 ≤ d ∧ d ≤ 5 := by
  unfold okX at h
  simp only [Bool.and_eq_true, decide_eq_true_eq] at h
  exact ⟨h.1, h.2.1⟩

theorem rget_l0 {v : Val} {nv : Nat} {b : List UInt8} {g : Heap} {q : Nat} (hb : b.length = 256) (hv : Has g v 1 nv (encB b)) (hq : 32 < q) : ∀ e i m : Nat, i + e = 32 → e < m →
    ∃ h', er19_Get_l0 q m v (.c (.p g.length 0)) (.c (.p (g.length + 1) 0)) (.c (.i .i64 (i : Int))) (g ++ [some (Row.mk (encI (0 :: zI 32)) true), some (Row.mk (encI (getD b :: getT b i)) true)]) =
      some (.t [.a (encI (bif goodX b then getD b :: getT b 32 else 0 :: zI 32)), .c (.b (goodX b))], h')
  | e, i, 0, _, hm => by omega
  | 0, i, m + 1, hi, hm => by
    have e0 : i = 32 := by omega
    subst e0
    have c0 : ¬ ((32 : Nat) : Int) < 32 := by omega
    have ht := getT_length (b := b) (n := 32) (Nat.le_refl _)
    have hX := encX_length (d := getD b) ht
    have hZ : (encI (0 :: zI 32)).length = 33 := encX_length (d := 0) zI_length
    have hP := ref19_Put_eq (d := getD b) (t := getT b 32) (h := g ++ [some (Row.mk (encI (0 :: zI 32)) true), some (Row.mk (encI (getD b :: getT b 32)) true)]) ht
    simp only [List.length_append, List.length_cons, List.length_nil, Nat.zero_add, List.append_assoc, List.cons_append, List.nil_append] at hP
    have haf : afill (encI (0 :: zI 32)) [] = some (encI (0 :: zI 32)) := rfl
    have hm32 := manyX_le (getD b)
    unfold goodX
    rw [er19_Get_l0_eq, zI_enc]
    cases co : okX (getD b) (getT b 32) with
    | false =>
      rw [co] at hP
      simp only [cond_false] at hP
      rw [Bool.false_and, cond_false]
      generalize encI (0 :: zI 32) = z at *
      generalize encI (getD b :: getT b 32) = y at *
      exact ⟨_, by simp only [esc, esh, Nat.reduceAdd, Nat.reduceMul, Nat.reduceLT, c0, hX, hP, haf, hZ] <;> rfl⟩
    | true =>
      rw [co] at hP
      simp only [cond_true] at hP
      rw [Bool.true_and]
      have hil := idxB_length (d := getD b) ht
      have l0 : (encI (getD b :: getT b 32))[0]? = some (.i .i64 (getD b)) := rfl
      have hS := ref01_Same_eq (l := idxB (getD b) (getT b 32)) (r := b) (h := g ++ [some (Row.mk (encI (0 :: zI 32)) true), some (Row.mk (encI (getD b :: getT b 32)) true), some (Row.mk (encB (idxB (getD b) (getT b 32))) true)]) (v := .c (.sl (g.length + 2) 0 256 1)) (u := v) (nv := 256) (nu := nv) (Has.row (rw := true) (by simp) (by rw [encB_length, hil]) (noX_encB _)) (hv.more _) (by omega)
      by_cases ce : idxB (getD b) (getT b 32) = b
      · rw [decide_eq_true ce, Bool.true_and]
        rw [decide_eq_true ce] at hS
        have hd := okX_depth co
        have hPw := fun h => ref19_Pow_eq (k := depX (getD b)) (h := h) (by have := depX_le (getD b); omega)
        rw [depX_of hd.1 hd.2] at hPw
        rw [show 2 ^ depX (getD b) = manyX (getD b) from rfl] at hPw
        obtain ⟨h', e⟩ := rget_l1 (d := getD b) (t := getT b 32) (ix := g.length + 1) (iz := g.length) (q := q) (h := g ++ [some (Row.mk (encI (0 :: zI 32)) true), some (Row.mk (encI (getD b :: getT b 32)) true), some (Row.mk (encB (idxB (getD b) (getT b 32))) true)]) ht (by simp) (by simp) (32 - manyX (getD b)) (manyX (getD b)) q (by omega) (by omega)
        refine ⟨h', ?_⟩
        generalize restX (getT b 32) (manyX (getD b)) (32 - manyX (getD b)) = R at *
        generalize encI (getD b :: getT b 32) = Y at *
        generalize idxB (getD b) (getT b 32) = I at *
        generalize encI (0 :: zI 32) = z at *
        simp only [esc, esh, Nat.reduceAdd, Nat.reduceMul, Nat.reduceLT, c0, hX, hP, hS, l0, hPw]
        exact e
      · rw [decide_eq_false ce, Bool.false_and, cond_false]
        rw [decide_eq_false ce] at hS
        generalize idxB (getD b) (getT b 32) = I at *
        generalize encI (0 :: zI 32) = z at *
        generalize encI (getD b :: getT b 32) = y at *
        exact ⟨_, by simp only [esc, esh, Nat.reduceAdd, Nat.reduceMul, Nat.reduceLT, c0, hX, hP, hS, haf, hZ] <;> rfl⟩
  | e + 1, i, m + 1, hi, hm => by
    obtain ⟨h', ih⟩ := rget_l0 (q := q) hb hv hq e (i + 1) m (by omega) (by omega)
    have c0 : (i : Int) < 32 := by omega
    have ht := getT_length (b := b) (n := i) (by omega)
    have hX := encX_length (d := getD b) ht
    have hA := fun l => ref01_At_eq (hv.more l) hb (a := ((32 + 2 * i : Nat) : Int)) (w := 2)
    have ea := at_fld (b := b) (a := 32 + 2 * i) (w := 2) (by omega) (by omega) (by omega)
    rw [show ((2 : Nat) : Int) = 2 from rfl] at ea
    rw [ea] at hA
    have w1 : IntKind.wrap .i64 (2 * (i : Int)) = ((2 * i : Nat) : Int) := by rw [wrap_i64 (by omega) (by omega)]; omega
    have w2 : IntKind.wrap .i64 (32 + ((2 * i : Nat) : Int)) = ((32 + 2 * i : Nat) : Int) := by rw [wrap_i64 (by omega) (by omega)]; omega
    have a1 := adX (id := g.length + 1) (i := i) (by omega)
    have hs : (encI (getD b :: getT b i)).set (1 + i) (.i .i64 (fieldN b (32 + 2 * i) 2)) = encI (getD b :: getT b (i + 1)) := by rw [encX_set, getT_succ (by omega)]; rfl
    have hlt : 1 + i < (encI (getD b :: getT b i)).length := by rw [hX]; omega
    rw [er19_Get_l0_eq]
    generalize goodX b = G at *
    generalize getD b :: getT b 32 = Y at *
    generalize encI (getD b :: getT b (i + 1)) = y1 at *
    generalize encI (getD b :: getT b i) = y at *
    generalize encI (0 :: zI 32) = z at *
    refine ⟨h', ?_⟩
    simp only [esc, esh, Nat.reduceAdd, Nat.reduceMul, Nat.reduceLT, c0, w1, w2, hA, a1, hlt, hs, wi_succ (show i + 1 < 9223372036854775808 by omega)]
    exact ih

theorem ref19_Get_eq {v : Val} {nv : Nat} {b : List UInt8} {h : Heap} (hb : b.length = 256) (hv : Has h v 1 nv (encB b)) : S_er19_Get [v] h = some (.t [.a (encI (bif goodX b then getD b :: getT b 32 else 0 :: zI 32)), .c (.b (goodX b))], h) := by
  have key : ∀ N, 32 < N → ∀ g, Has g v 1 nv (encB b) → ∃ g', R_er19_Get N [v] g = some (.t [.a (encI (bif goodX b then getD b :: getT b 32 else 0 :: zI 32)), .c (.b (goodX b))], g') := by
    intro N hN g hv
    have hZ : (encI (0 :: zI 32)).length = 33 := encX_length (d := 0) zI_length
    have hA := fun l => ref01_At_eq (hv.more l) hb (a := 4) (w := 1)
    have ea := at_fld (b := b) (a := 4) (w := 1) (by omega) (by omega) (by omega)
    rw [show ((4 : Nat) : Int) = 4 from rfl, show ((1 : Nat) : Int) = 1 from rfl] at ea
    rw [ea] at hA
    have ef : afill (encI (0 :: zI 32)) [(0, 1, .c (.i .i64 (fieldN b 4 1)))] = some (encI (getD b :: getT b 0)) := by
      have e1 : (0 + 1 ≤ (encI (0 :: zI 32)).length) := by rw [hZ]; omega
      simp only [afill, cells?]
      rw [if_pos ⟨rfl, e1⟩]
      rfl
    have hX := encX_length (d := getD b) (getT_length (b := b) (n := 0) (by omega))
    obtain ⟨h', e⟩ := rget_l0 (g := g) (q := N) hb hv hN 32 0 N (by omega) hN
    rw [R_er19_Get_eq, zI_enc]
    generalize goodX b = G at *
    generalize getD b :: getT b 32 = Y at *
    generalize encI (getD b :: getT b 0) = y at *
    generalize encI (0 :: zI 32) = z at *
    exact ⟨h', by simp only [esc, esh, Nat.reduceAdd, Nat.reduceMul, Nat.reduceLT, hZ, hA, ef, hX]; exact e⟩
  obtain ⟨g', e⟩ := key (h.length + 33) (by omega) (ro h) hv.ro
  refine S_er19_Get_flat e ?_
  cases goodX b <;> simp

end Go.Proofs.Ytdgggnlbdoiloaa
end
section
namespace Go.Proofs.Ytdgggnlbdoiloaa
open Go Go.Esc

theorem in_loop {v : Val} {nv q : Nat} {l : List Int} {x : Int} {h : Heap} (hv : Has h v 1 nv (encI l)) (hn : l.length = nv) (h62 : nv < 9223372036854775808) : ∀ e i m : Nat, i + e = nv → e < m →
    er09_In_l0 q m v (.c (.i .i64 x)) (.c (.i .i64 (i : Int))) h = some (.c (.b (decide (x ∈ l.drop i))), h)
  | e, i, 0, _, hm => by omega
  | 0, i, m + 1, hi, hm => by
    have e0 : i = nv := by omega
    subst e0
    have c0 : ¬ (i : Int) < i := by omega
    rw [er09_In_l0_eq, List.drop_of_length_le (by omega)]
    simp only [esc, hv.len, c0, List.not_mem_nil]
  | e + 1, i, m + 1, hi, hm => by
    have ih := in_loop (q := q) (x := x) hv hn h62 e (i + 1) m (by omega) (by omega)
    have hlen := hv.len
    have c0 : (i : Int) < nv := by omega
    obtain ⟨id, off, ev, hid, k1, k2⟩ := hv.sl (by omega)
    have hx := k1 i (.i .i64 l[i]) (by rw [encI_get, List.getElem?_eq_getElem (by omega)]; rfl)
    have eb : aiAddrL 1 v (.c (.i .i64 (i : Int))) = some (.c (.p id (off + i))) := by rw [ev, iAddrL_of (by omega)]; simp
    rw [er09_In_l0_eq, List.drop_eq_getElem_cons (by omega : i < l.length)]
    by_cases c : l[i] = x
    · have : decide (x ∈ l[i] :: l.drop (i + 1)) = true := decide_eq_true (by rw [c]; exact List.mem_cons_self ..)
      rw [this]
      simp only [esc, hlen, c0, eb, hx, c]
    · have : decide (x ∈ l[i] :: l.drop (i + 1)) = decide (x ∈ l.drop (i + 1)) := by
        refine decide_eq_decide.2 ?_
        rw [List.mem_cons]
        exact ⟨fun h => by rcases h with h | h; exact absurd h.symm c; exact h, fun h => .inr h⟩
      rw [this]
      simp only [esc, hlen, c0, eb, hx, c, wi_succ (show i + 1 < 9223372036854775808 by omega)]
      exact ih
theorem ref09_In_eq {v : Val} {nv : Nat} {l : List Int} {x : Int} {h : Heap} (hv : Has h v 1 nv (encI l)) (h62 : nv < 9223372036854775808) : S_er09_In [v, .c (.i .i64 x)] h = some (.c (.b (decide (x ∈ l))), h) := by
  have hn : l.length = nv := by simpa [encI_length] using hv.length
  have e := in_loop (q := nv + 1) (x := x) hv.ro hn h62 nv 0 (nv + 1) (by omega) (by omega)
  exact S_er09_In_flat (n := nv + 1) (h2 := ro h) (by rw [R_er09_In_eq]; exact e) rfl

theorem mem_bucL {t : List Int} {x : Int} (hx : x ≠ 0) : ∀ k, x ∈ bucL t k ↔ ∃ j, j < k ∧ toX t j = x
  | 0 => by simp [bucL]
  | k + 1 => by
    rw [bucL_succ, List.mem_append, mem_bucL hx k]
    constructor
    · rintro (⟨j, h1, h2⟩ | h)
      · exact ⟨j, by omega, h2⟩
      · split at h
        · simp at h; exact ⟨k, by omega, h.symm⟩
        · cases h
    · rintro ⟨j, h1, h2⟩
      by_cases c : ∃ j, j < k ∧ toX t j = x
      · exact .inl c
      · right
        have : j = k := by
          by_cases e : j = k
          · exact e
          · exact absurd ⟨j, by omega, h2⟩ c
        subst this
        have hb : bucOk t j = true := by
          unfold bucOk
          rw [Bool.and_eq_true]
          refine ⟨by rw [h2]; simp [hx], ?_⟩
          rw [firstX_iff]
          intro k hk he
          exact c ⟨k, hk, he.trans h2⟩
        rw [if_pos hb, h2]; simp
theorem in_bucL {t : List Int} {i : Nat} (h : toX t i ≠ 0) : decide (toX t i ∈ bucL t i) = !firstX t i := by
  cases c : firstX t i with
  | true =>
    rw [Bool.not_true, decide_eq_false]
    rw [mem_bucL h]
    rintro ⟨j, h1, h2⟩
    exact firstX_iff.1 c j h1 h2
  | false =>
    rw [Bool.not_false, decide_eq_true]
    rw [mem_bucL h]
    false_or_by_contra
    rename_i hn
    have : firstX t i = true := firstX_iff.2 fun k hk he => hn ⟨k, hk, he⟩
    rw [c] at this; cases this

theorem rbuckets_loop {d : Int} {t : List Int} {g : Heap} {q : Nat} (ht : t.length = 32) : ∀ (e i m : Nat) (h : Heap) (id : Nat), i + e = manyX d → e < m → Low (g ++ [some (Row.mk (encI (d :: t)) true)]).length (g ++ [some (Row.mk (encI (d :: t)) true)]) h → (g ++ [some (Row.mk (encI (d :: t)) true)]).length ≤ id → rd h id = some ⟨encI (bucL t i), true⟩ →
    ∃ v h', er19_Buckets_l0 q m (.c (.p g.length 0)) (.c (.sl id 0 (bucL t i).length 1)) (.c (.i .i64 (i : Int))) h = some (v, h') ∧ Out g.length h' v 1 (bucL t (manyX d)).length (encI (bucL t (manyX d)))
  | e, i, 0, h, id, _, hm, _, _, _ => by omega
  | 0, i, m + 1, h, id, hi, hm, hlow, hid, hr => by
    have e0 : i = manyX d := by omega
    subst e0
    have c0 : ¬ ((manyX d : Nat) : Int) < (manyX d : Nat) := by omega
    have hB := encX_length (d := d) ht
    have s1 := loadAll (h := h) (id := g.length) (cs := encI (d :: t)) (hlow.rd (by simp)) hB
    have hD := fun h => ref19_Deep_eq (d := d) (t := t) (h := h)
    have hP := fun h => ref19_Powd_eq (d := d) (h := h)
    rw [List.length_append] at hid
    rw [er19_Buckets_l0_eq]
    generalize encI (d :: t) = y at *
    exact ⟨_, _, by simp only [esc, s1, hD, hP, c0] <;> rfl, by rw [encI_length]; omega, _, rfl, by omega, hr⟩
  | e + 1, i, m + 1, h, id, hi, hm, hlow, hid, hr => by
    have c0 : (i : Int) < (manyX d : Nat) := by omega
    have hm32 := manyX_le d
    have hB := encX_length (d := d) ht
    have hrd : rd h g.length = some ⟨encI (d :: t), true⟩ := hlow.rd (by simp)
    have s1 := loadAll (h := h) (id := g.length) (cs := encI (d :: t)) hrd hB
    have hD := fun h => ref19_Deep_eq (d := d) (t := t) (h := h)
    have hP := fun h => ref19_Powd_eq (d := d) (h := h)
    have a1 := adX (id := g.length) (i := i) (by omega)
    have l1 := ldX (h := h) (id := g.length) hrd ht (i := i) (by omega)
    have w1 := wi_succ (show i + 1 < 9223372036854775808 by omega)
    have hul := bucL_length t i
    have hIn := ref09_In_eq (x := toX t i) (Has.row (sz := 1) (n := (bucL t i).length) hr (by rw [encI_length]; omega) (noX_encI _)) (by omega)
    rw [er19_Buckets_l0_eq]
    have skip : bucOk t i = false → ∃ v h', er19_Buckets_l0 q m (.c (.p g.length 0)) (.c (.sl id 0 (bucL t i).length 1)) (.c (.i .i64 ((i + 1 : Nat) : Int))) h = some (v, h') ∧ Out g.length h' v 1 (bucL t (manyX d)).length (encI (bucL t (manyX d))) := by
      intro c
      have hu : bucL t (i + 1) = bucL t i := by rw [bucL_succ, c]; simp
      have := rbuckets_loop (d := d) (q := q) ht e (i + 1) m h id (by omega) (by omega) hlow hid (by rw [hu]; exact hr)
      rw [hu] at this; exact this
    by_cases cz : toX t i = 0
    · obtain ⟨v, h', f1, f2⟩ := skip (by unfold bucOk; rw [decide_eq_true cz]; rfl)
      rw [cz] at l1
      refine ⟨v, h', ?_, f2⟩
      generalize encI (d :: t) = z at *
      simp only [esc, s1, hD, hP, c0, a1, l1, er19_Buckets_j0_eq, w1]
      exact f1
    · rw [in_bucL cz] at hIn
      cases cs : firstX t i with
      | false =>
        obtain ⟨v, h', f1, f2⟩ := skip (by unfold bucOk; rw [cs, Bool.and_false])
        rw [cs] at hIn
        refine ⟨v, h', ?_, f2⟩
        generalize encI (d :: t) = z at *
        simp only [esc, s1, hD, hP, c0, a1, l1, cz, hIn, er19_Buckets_j0_eq, w1]
        exact f1
      | true =>
        rw [cs] at hIn
        have cb : bucOk t i = true := by unfold bucOk; rw [cs, decide_eq_false cz]; rfl
        have hu : bucL t (i + 1) = bucL t i ++ [toX t i] := by rw [bucL_succ, if_pos cb]
        obtain ⟨h1, b1, b2, b3, b4, b5⟩ := push (ys := [.i .i64 (toX t i)]) (sz := 1) (n := (bucL t i).length) hlow hr (by rw [encI_length]; omega) hid rfl (by omega) (by omega)
        have he : encI (bucL t i) ++ [.i .i64 (toX t i)] = encI (bucL t (i + 1)) := by rw [hu]; simp [encI]
        rw [he] at b2
        obtain ⟨v, h', f1, f2⟩ := rbuckets_loop (d := d) (q := q) ht e (i + 1) m h1 (h.length + 1) (by omega) (by omega) b3 b4 b2
        have hl1 : (bucL t (i + 1)).length = (bucL t i).length + 1 := by rw [hu]; simp
        rw [hl1] at f1
        have ef : afill [Cell.i .i64 0] [(0, 1, .c (.i .i64 (toX t i)))] = some [.i .i64 (toX t i)] := rfl
        refine ⟨v, h', ?_, f2⟩
        generalize encI (d :: t) = z at *
        simp only [esc, s1, hD, hP, c0, a1, l1, cz, hIn, ef, b1, er19_Buckets_j0_eq, w1]
        exact f1

theorem ref19_Buckets_eq {d : Int} {t : List Int} {h : Heap} (ht : t.length = 32) : S_er19_Buckets [.a (encI (d :: t))] h = some (.c (.sl h.length 0 (bucL t (manyX d)).length 1), h ++ [some ⟨encI (bucL t (manyX d)), true⟩]) := by
  have key : ∀ N, 32 < N → ∀ g, ∃ v g', R_er19_Buckets N [.a (encI (d :: t))] g = some (v, g') ∧ Out g.length g' v 1 (bucL t (manyX d)).length (encI (bucL t (manyX d))) := by
    intro N hN g
    have hm := manyX_le d
    obtain ⟨v, g', f1, f2⟩ := rbuckets_loop (g := g) (d := d) (q := N) ht (manyX d) 0 N (g ++ [some (Row.mk (encI (d :: t)) true), some (Row.mk [] true), some (Row.mk [] true)]) (g.length + 2) (by omega) (by omega)
      (by have := (Low.refl (h := g ++ [some (Row.mk (encI (d :: t)) true)]) (Nat.le_refl _)).new [some ⟨[], true⟩, some ⟨[], true⟩]
          simpa using this) (by simp) (by simp [bucL, encI])
    rw [show bucL t 0 = [] from rfl] at f1
    rw [R_er19_Buckets_eq]
    refine ⟨v, g', ?_, f2⟩
    generalize encI (d :: t) = z at *
    simp only [esc] at f1 ⊢
    exact f1
  obtain ⟨v, g', e, ho⟩ := key (h.length + 33) (by omega) (ro h)
  exact S_er19_Buckets_out e (by simpa [ro_length] using ho) (by simp)

end Go.Proofs.Ytdgggnlbdoiloaa
end
section
namespace Go.Proofs.Ytdgggnlbdoiloaa
open Go Go.Esc

def fldsP (b : List UInt8) : Nat → List Int
  | 0 => []
  | i + 1 => fldsP b i ++ [ptP b i]
theorem fldsP_length {b : List UInt8} : ∀ i, (fldsP b i).length = i
  | 0 => rfl
  | i + 1 => by rw [fldsP, List.length_append, fldsP_length i]; rfl
end Go.Proofs.Ytdgggnlbdoiloaa
end
noncomputable section
namespace Go.Proofs.Ytdgggnlbdoiloaa
open Go Go.Esc
set_option maxRecDepth 100000
def er20_Numbers_o0 : List AOper := [aO 2 (.nilrow 1)]
def er20_Numbers_c0 : ACode := .ops er20_Numbers_o0
def er20_Numbers_o1 : List AOper := [aO 3 (.nilrow 1)]
def er20_Numbers_c1 : ACode := .ops er20_Numbers_o1
def er20_Numbers_o2 : List AOper := [aO 4 (.mv (.v (.c (.i .i64 0))))]
def er20_Numbers_c2 : ACode := .ops er20_Numbers_o2
def er20_Numbers_o3 : List AOper := [aO 5 (.mv (.t 4)), aO 6 (.bin .lss (.t 5) (.v (.c (.i .i64 128))))]
def er20_Numbers_c3 : ACode := .ops er20_Numbers_o3
def er20_Numbers_c4 : ACode := .cond (.t 6) .skip (.exit 0)
def er20_Numbers_c5 : ACode := .seq [0, 3, 4, 6] er20_Numbers_c3 er20_Numbers_c4
def er20_Numbers_o4 : List AOper := [aO 9 (.mv (.t 3)), aO 10 (.mv (.t 0)), aO 11 (.mv (.t 4)), aO 12 (.bin .mul (.v (.c (.i .i64 2))) (.t 11)), aO 13 (.call 111 [(.t 10), (.t 12), (.v (.c (.i .i64 2)))]), aO 14 (.buildSl 1 1 ([.i .i64 0]) [(0, 1, (.t 13))]), aO 15 (.app 1 (.t 9) (.t 14)), aO 3 (.mv (.t 15))]
def er20_Numbers_c6 : ACode := .ops er20_Numbers_o4
def er20_Numbers_c7 : ACode := .block 1 er20_Numbers_c6
def er20_Numbers_o5 : List AOper := [aO 7 (.mv (.t 4)), aO 8 (.bin .add (.t 7) (.v (.c (.i .i64 1)))), aO 4 (.mv (.t 8))]
def er20_Numbers_c8 : ACode := .ops er20_Numbers_o5
def er20_Numbers_c9 : ACode := .seq [0, 3, 4] er20_Numbers_c7 er20_Numbers_c8
def er20_Numbers_c10 : ACode := .seq [0, 3, 4] er20_Numbers_c5 er20_Numbers_c9
def er20_Numbers_c11 : ACode := .loop [0, 3, 4] er20_Numbers_c10
def er20_Numbers_c12 : ACode := .block 0 er20_Numbers_c11
def er20_Numbers_c13 : ACode := .seq [0, 3, 4] er20_Numbers_c2 er20_Numbers_c12
def er20_Numbers_o6 : List AOper := [aO 16 (.mv (.t 3)), aO 2 (.mv (.t 16))]
def er20_Numbers_c14 : ACode := .ops er20_Numbers_o6
def er20_Numbers_c15 : ACode := .seq [2] er20_Numbers_c14 .ret
def er20_Numbers_c16 : ACode := .seq [3] er20_Numbers_c13 er20_Numbers_c15
def er20_Numbers_c17 : ACode := .seq [0, 3] er20_Numbers_c1 er20_Numbers_c16
def er20_Numbers_c18 : ACode := .seq [0] er20_Numbers_c0 er20_Numbers_c17
def A_er20_Numbers : AFn := ⟨er20_Numbers_c18, [.tmp 2]⟩
def E_er20_Numbers : Sums := disp 111 S_er01_At disp0
def er20_Numbers_c0_d (n : Nat) : SmV := smOps E_er20_Numbers er20_Numbers_o0
def er20_Numbers_c1_d (n : Nat) : SmV := smOps E_er20_Numbers er20_Numbers_o1
def er20_Numbers_c2_d (n : Nat) : SmV := smOps E_er20_Numbers er20_Numbers_o2
def er20_Numbers_c3_d (n : Nat) : SmV := smOps E_er20_Numbers er20_Numbers_o3
def er20_Numbers_c4_d (n : Nat) : SmV := smCond (.t 6) smSkip (smExit 0)
def er20_Numbers_c5_d (n : Nat) : SmV := smSeq [0, 3, 4, 6] (er20_Numbers_c3_d n) (er20_Numbers_c4_d n)
def er20_Numbers_c6_d (n : Nat) : SmV := smOps E_er20_Numbers er20_Numbers_o4
def er20_Numbers_c7_d (n : Nat) : SmV := smBlock 1 (er20_Numbers_c6_d n)
def er20_Numbers_c8_d (n : Nat) : SmV := smOps E_er20_Numbers er20_Numbers_o5
def er20_Numbers_c9_d (n : Nat) : SmV := smSeq [0, 3, 4] (er20_Numbers_c7_d n) (er20_Numbers_c8_d n)
def er20_Numbers_c10_d (n : Nat) : SmV := smSeq [0, 3, 4] (er20_Numbers_c5_d n) (er20_Numbers_c9_d n)
def er20_Numbers_c11_d (n : Nat) : SmV := smLoop n [0, 3, 4] (er20_Numbers_c10_d n)
def er20_Numbers_c12_d (n : Nat) : SmV := smBlock 0 (er20_Numbers_c11_d n)
def er20_Numbers_c13_d (n : Nat) : SmV := smSeq [0, 3, 4] (er20_Numbers_c2_d n) (er20_Numbers_c12_d n)
def er20_Numbers_c14_d (n : Nat) : SmV := smOps E_er20_Numbers er20_Numbers_o6
def er20_Numbers_c15_d (n : Nat) : SmV := smSeq [2] (er20_Numbers_c14_d n) smRet
def er20_Numbers_c16_d (n : Nat) : SmV := smSeq [3] (er20_Numbers_c13_d n) (er20_Numbers_c15_d n)
def er20_Numbers_c17_d (n : Nat) : SmV := smSeq [0, 3] (er20_Numbers_c1_d n) (er20_Numbers_c16_d n)
def er20_Numbers_c18_d (n : Nat) : SmV := smSeq [0] (er20_Numbers_c0_d n) (er20_Numbers_c17_d n)
def er20_Numbers_k0 (n : Nat) : AExit → Env → Heap → OptV := fun x e h => match x with | .normal => hold ((er20_Numbers_c15_d n) A_er20_Numbers.fin (e.keep [3]) h) | .exit id => A_er20_Numbers.fin (.exit id) e h | .ret => A_er20_Numbers.fin .ret e h
def er20_Numbers_k1 (n : Nat) : AExit → Env → Heap → OptV := fun x e h => match x with | .exit i => bif Nat.beq i 0 then (er20_Numbers_k0 n) .normal e h else (er20_Numbers_k0 n) (.exit i) e h | .normal => (er20_Numbers_k0 n) .normal e h | .ret => (er20_Numbers_k0 n) .ret e h
def er20_Numbers_l0 (n m : Nat) (x0 x3 x4 : Val) (h : Heap) : OptV := around (er20_Numbers_c10_d n) [0, 3, 4] (er20_Numbers_k1 n) m [(0, x0), (3, x3), (4, x4)] h
def R_er20_Numbers (n : Nat) (args : List Val) (h : Heap) : OptV := (er20_Numbers_c18_d n) A_er20_Numbers.fin (params 0 args) h
theorem R_er20_Numbers_eq (n : Nat) (a0 : Val) (h : Heap) : R_er20_Numbers n [a0] h = er20_Numbers_l0 n n a0 ((.c (.sl ((h ++ [some (Row.mk ([]) true)])).length 0 0 1))) (.c (.i .i64 0)) (((h ++ [some (Row.mk ([]) true)]) ++ [some (Row.mk ([]) true)])) := by kernel_rfl
theorem er20_Numbers_l0_eq (n m : Nat) (x0 x3 x4 : Val) (h : Heap) : er20_Numbers_l0 n (m + 1) x0 x3 x4 h = bnd (abin .lss x4 (.c (.i .i64 128))) fun v1 => cnd v1 (bnd (abin .mul (.c (.i .i64 2)) x4) fun v2 => bnd (S_er01_At [x0, v2, .c (.i .i64 2)] h) fun p3 => bnd (afill ([.i .i64 0]) [(0, 1, p3.1)]) fun c4 => bnd (aapp ((p3.2 ++ [some (Row.mk (c4) true)])) 1 x3 ((.c (.sl p3.2.length 0 1 1)))) fun p5 => bnd (abin .add x4 (.c (.i .i64 1))) fun v6 => er20_Numbers_l0 n m x0 p5.1 v6 p5.2) (some (x3, h)) := by kernel_rfl
theorem K_er20_Numbers : FnK Try.prog 124 A_er20_Numbers E_er20_Numbers R_er20_Numbers := .mk' (sound1 S_er01_At_ok sound0) Try.func124 (by kernel_rfl) (by intro n args h; kernel_rfl)
def S_er20_Numbers : Fun := tidy (Lim A_er20_Numbers E_er20_Numbers)
theorem S_er20_Numbers_ok : SOk Try.prog 124 S_er20_Numbers := K_er20_Numbers.sok
theorem S_er20_Numbers_out {n : Nat} {args : List Val} {h h2 : Heap} {v : Val} {sz k : Nat} {cs : List Cell} (he : R_er20_Numbers n args (ro h) = some (v, h2)) (ho : Out h.length h2 v sz k cs) (hf : flats cs = true) : S_er20_Numbers args h = some (.c (.sl h.length 0 k sz), h ++ [some ⟨cs, true⟩]) := K_er20_Numbers.out he ho hf
end Go.Proofs.Ytdgggnlbdoiloaa
end
section
namespace Go.Proofs.Ytdgggnlbdoiloaa
open Go Go.Esc

theorem wrap_u8_mod {a : Int} : IntKind.wrap .u8 a = a % 256 := by
  simp only [IntKind.wrap, IntKind.bits, IntKind.signed, Bool.false_and]
  rfl

end Go.Proofs.Ytdgggnlbdoiloaa
end
section
namespace Go.Proofs.Ytdgggnlbdoiloaa
open Go Go.Esc

theorem pnumbers_loop {v : Val} {nv : Nat} {b : List UInt8} {g : Heap} {q : Nat} (hv : Has g v 1 nv (encB b)) (hb : b.length = 256) : ∀ (e i m : Nat) (h : Heap) (id : Nat), i + e = 128 → e < m → Low g.length g h → g.length ≤ id → rd h id = some ⟨encI (fldsP b i), true⟩ →
    ∃ v2 h', er20_Numbers_l0 q m v (.c (.sl id 0 i 1)) (.c (.i .i64 (i : Int))) h = some (v2, h') ∧ Out g.length h' v2 1 128 (encI (fldsP b 128))
  | e, i, 0, h, id, _, hm, _, _, _ => by omega
  | 0, i, m + 1, h, id, hi, hm, hlow, hid, hr => by
    have e0 : i = 128 := by omega
    subst e0
    have c0 : ¬ ((128 : Nat) : Int) < 128 := by omega
    rw [er20_Numbers_l0_eq]
    exact ⟨_, _, by simp only [esc, c0] <;> rfl, by rw [encI_length, fldsP_length], _, rfl, hid, hr⟩
  | e + 1, i, m + 1, h, id, hi, hm, hlow, hid, hr => by
    have c0 : (i : Int) < 128 := by omega
    have hA := ref01_At_eq (hv.since hlow) (a := ((2 * i : Nat) : Int)) (w := 2) hb
    rw [at_pt hb (by omega)] at hA
    obtain ⟨h1, a1, a2, a3, a4, a5⟩ := push (ys := [.i .i64 (ptP b i)]) (sz := 1) (n := i) hlow hr (by rw [encI_length, fldsP_length]; omega) hid rfl (by omega) (by omega)
    have he : encI (fldsP b i) ++ [.i .i64 (ptP b i)] = encI (fldsP b (i + 1)) := by rw [fldsP]; simp [encI]
    rw [he] at a2
    obtain ⟨v2, h', f1, f2⟩ := pnumbers_loop (q := q) hv hb e (i + 1) m h1 (h.length + 1) (by omega) (by omega) a3 a4 a2
    have ef : afill [Cell.i .i64 0] [(0, 1, .c (.i .i64 (ptP b i)))] = some [.i .i64 (ptP b i)] := rfl
    rw [er20_Numbers_l0_eq]
    refine ⟨v2, h', ?_, f2⟩
    simp only [esc, c0, wi_two (show i < 128 by omega), hA, ef, a1, wi_succ (show i + 1 < 9223372036854775808 by omega)]
    exact f1

theorem ref20_Numbers_eq {v : Val} {nv : Nat} {b : List UInt8} {h : Heap} (hv : Has h v 1 nv (encB b)) (hb : b.length = 256) : S_er20_Numbers [v] h = some (.c (.sl h.length 0 128 1), h ++ [some ⟨encI (fldsP b 128), true⟩]) := by
  have key : ∀ N, 128 < N → ∀ g, Has g v 1 nv (encB b) → ∃ v2 g', R_er20_Numbers N [v] g = some (v2, g') ∧ Out g.length g' v2 1 128 (encI (fldsP b 128)) := by
    intro N hN g hv
    obtain ⟨v2, g', f1, f2⟩ := pnumbers_loop (q := N) hv hb 128 0 N ((g ++ [some (Row.mk [] true)]) ++ [some (Row.mk [] true)]) (g.length + 1) (by omega) hN (((Low.refl (Nat.le_refl _)).new _).new _) (by omega) (by simp [fldsP, encI])
    rw [R_er20_Numbers_eq]
    refine ⟨v2, g', ?_, f2⟩
    simpa using f1
  obtain ⟨v2, g', e, ho⟩ := key (h.length + 129) (by omega) (ro h) hv.ro
  exact S_er20_Numbers_out e (by simpa [ro_length] using ho) (by simp)

end Go.Proofs.Ytdgggnlbdoiloaa
end
noncomputable section
namespace Go.Proofs.Ytdgggnlbdoiloaa
open Go Go.Esc
set_option maxRecDepth 100000
def er22_Block_o0 : List AOper := [aO 4 (.nilrow 1)]
def er22_Block_c0 : ACode := .ops er22_Block_o0
def er22_Block_o1 : List AOper := [aO 5 (.mv (.t 1)), aO 6 (.bin .lss (.t 5) (.v (.c (.i .i64 0)))), aO 7 (.mv (.t 6)), { dst := some 8, op := .mv (.t 1), guard := some (7, false) }, { dst := some 9, op := .mv (.t 0), guard := some (7, false) }, { dst := some 10, op := .len (.t 9), guard := some (7, false) }, { dst := some 11, op := .bin .geq (.t 8) (.t 10), guard := some (7, false) }, aO 12 (.pick (.t 7) (.v (.c (.b true))) (.t 11))]
def er22_Block_c1 : ACode := .ops er22_Block_o1
def er22_Block_o2 : List AOper := [aO 13 (.mkSl 1 ([.i .u8 0]) (.v (.c (.i .i64 256))) (.v (.c (.i .i64 256)))), aO 4 (.mv (.t 13))]
def er22_Block_c2 : ACode := .ops er22_Block_o2
def er22_Block_c3 : ACode := .seq [4] er22_Block_c2 .ret
def er22_Block_c4 : ACode := .cond (.t 12) er22_Block_c3 .skip
def er22_Block_c5 : ACode := .seq [0, 1, 12] er22_Block_c1 er22_Block_c4
def er22_Block_o3 : List AOper := [aO 14 (.mv (.t 0)), aO 15 (.mv (.t 1)), aO 16 (.iAddrL 256 (.t 14) (.t 15)), aO 17 (.slA 256 1 (.t 16) none none), aO 4 (.mv (.t 17))]
def er22_Block_c6 : ACode := .ops er22_Block_o3
def er22_Block_c7 : ACode := .seq [4] er22_Block_c6 .ret
def er22_Block_c8 : ACode := .seq [0, 1] er22_Block_c5 er22_Block_c7
def er22_Block_c9 : ACode := .seq [0, 1] er22_Block_c0 er22_Block_c8
def A_er22_Block : AFn := ⟨er22_Block_c9, [.tmp 4]⟩
def E_er22_Block : Sums := disp0
def er22_Block_c0_d (n : Nat) : SmV := smOps E_er22_Block er22_Block_o0
def er22_Block_c1_d (n : Nat) : SmV := smOps E_er22_Block er22_Block_o1
def er22_Block_c2_d (n : Nat) : SmV := smOps E_er22_Block er22_Block_o2
def er22_Block_c3_d (n : Nat) : SmV := smSeq [4] (er22_Block_c2_d n) smRet
def er22_Block_c4_d (n : Nat) : SmV := smCond (.t 12) (er22_Block_c3_d n) smSkip
def er22_Block_c5_d (n : Nat) : SmV := smSeq [0, 1, 12] (er22_Block_c1_d n) (er22_Block_c4_d n)
def er22_Block_c6_d (n : Nat) : SmV := smOps E_er22_Block er22_Block_o3
def er22_Block_c7_d (n : Nat) : SmV := smSeq [4] (er22_Block_c6_d n) smRet
def er22_Block_c8_d (n : Nat) : SmV := smSeq [0, 1] (er22_Block_c5_d n) (er22_Block_c7_d n)
def er22_Block_c9_d (n : Nat) : SmV := smSeq [0, 1] (er22_Block_c0_d n) (er22_Block_c8_d n)
def R_er22_Block (n : Nat) (args : List Val) (h : Heap) : OptV := (er22_Block_c9_d n) A_er22_Block.fin (params 0 args) h
theorem R_er22_Block_eq (n : Nat) (a0 a1 : Val) (h : Heap) : R_er22_Block n [a0, a1] h = bnd (abin .lss a1 (.c (.i .i64 0))) fun v1 => bnd (gd v1 false (some (a1, (h ++ [some (Row.mk ([]) true)]))) (some (.no, (h ++ [some (Row.mk ([]) true)])))) fun p2 => bnd (gd v1 false (some (a0, p2.2)) (some (.no, p2.2))) fun p3 => bnd (gd v1 false (bnd (alen p3.1) fun v4 => some (v4, p3.2)) (some (.no, p3.2))) fun p5 => bnd (gd v1 false (bnd (abin .geq p2.1 p5.1) fun v6 => some (v6, p5.2)) (some (.no, p5.2))) fun p7 => bnd (apick v1 (.c (.b true)) p7.1) fun v8 => cnd v8 (bnd (amkn (.c (.i .i64 256)) (.c (.i .i64 256))) fun n9 => some (((.c (.sl p7.2.length 0 n9 1))), (p7.2 ++ [some (Row.mk (rows ([.i .u8 0]) n9) true)]))) (bnd (aiAddrL 256 a0 a1) fun v10 => bnd (aslA p7.2 256 1 v10 none none) fun v11 => some (v11, p7.2)) := by kernel_rfl
theorem K_er22_Block : FnK Try.prog 81 A_er22_Block E_er22_Block R_er22_Block := .mk' (sound0) Try.func81 (by kernel_rfl) (by intro n args h; kernel_rfl)
def S_er22_Block : Fun := tidy (Lim A_er22_Block E_er22_Block)
theorem S_er22_Block_ok : SOk Try.prog 81 S_er22_Block := K_er22_Block.sok
theorem S_er22_Block_low {n : Nat} {args : List Val} {h h2 : Heap} {v : Val} (he : R_er22_Block n args (ro h) = some (v, h2)) (hf : v.low h.length = true) : S_er22_Block args h = some (v, h) := K_er22_Block.low he hf
def er22_Index_o0 : List AOper := [aO 4 (.box (.t 1)), aO 5 (.box (.t 2)), aO 6 (.alloc ([.i .i64 0] ++ List.replicate 32 (.i .i64 0))), aO 7 (.mv (.v (.c (.b false))))]
def er22_Index_c0 : ACode := .ops er22_Index_o0
def er22_Index_o1 : List AOper := [aO 8 (.fAddr (.t 5) 0), aO 9 (.load1 (.t 8)), aO 10 (.bin .neq (.t 9) (.v (.c (.i .i64 2)))), aO 11 (.mv (.t 10)), { dst := some 12, op := .loadN 3 (.t 4), guard := some (11, false) }, { dst := some 13, op := .fAddr (.t 5) 4, guard := some (11, false) }, { dst := some 14, op := .iAddrA 6 1 (.t 13) (.v (.c (.i .i64 0))), guard := some (11, false) }, { dst := some 15, op := .load1 (.t 14), guard := some (11, false) }, { dst := some 16, op := .call 79 [(.t 12), (.t 15)], guard := some (11, false) }, { dst := some 17, op := .un .not (.t 16), guard := some (11, false) }, aO 18 (.pick (.t 11) (.v (.c (.b true))) (.t 17))]
def er22_Index_c1 : ACode := .ops er22_Index_o1
def er22_Index_o2 : List AOper := [aO 19 (.build ([.i .i64 0] ++ List.replicate 32 (.i .i64 0)) []), { dst := none, op := .storeN 33 (.t 6) (.t 19) }, aO 7 (.mv (.v (.c (.b false))))]
def er22_Index_c2 : ACode := .ops er22_Index_o2
def er22_Index_c3 : ACode := .seq [6, 7] er22_Index_c2 .ret
def er22_Index_c4 : ACode := .cond (.t 18) er22_Index_c3 .skip
def er22_Index_c5 : ACode := .seq [0, 5, 6, 18] er22_Index_c1 er22_Index_c4
def er22_Index_o3 : List AOper := [aO 20 (.mv (.t 0)), aO 21 (.fAddr (.t 5) 4), aO 22 (.iAddrA 6 1 (.t 21) (.v (.c (.i .i64 0)))), aO 23 (.load1 (.t 22)), aO 24 (.call 81 [(.t 20), (.t 23)]), aO 25 (.call 80 [(.t 24)]), aO 26 (.ext (.t 25) 0), aO 27 (.ext (.t 25) 1), { dst := none, op := .storeN 33 (.t 6) (.t 26) }, aO 7 (.mv (.t 27))]
def er22_Index_c6 : ACode := .ops er22_Index_o3
def er22_Index_c7 : ACode := .seq [6, 7] er22_Index_c6 .ret
def er22_Index_c8 : ACode := .seq [0, 5, 6] er22_Index_c5 er22_Index_c7
def er22_Index_c9 : ACode := .seq [0, 4, 5, 6] er22_Index_c0 er22_Index_c8
def A_er22_Index : AFn := ⟨er22_Index_c9, [.cellN 6 33, .tmp 7]⟩
def E_er22_Index : Sums := disp 79 S_er21_Data (disp 81 S_er22_Block (disp 80 S_er19_Get disp0))
def er22_Index_c0_d (n : Nat) : SmV := smOps E_er22_Index er22_Index_o0
def er22_Index_c1_d (n : Nat) : SmV := smOps E_er22_Index er22_Index_o1
def er22_Index_c2_d (n : Nat) : SmV := smOps E_er22_Index er22_Index_o2
def er22_Index_c3_d (n : Nat) : SmV := smSeq [6, 7] (er22_Index_c2_d n) smRet
def er22_Index_c4_d (n : Nat) : SmV := smCond (.t 18) (er22_Index_c3_d n) smSkip
def er22_Index_c5_d (n : Nat) : SmV := smSeq [0, 5, 6, 18] (er22_Index_c1_d n) (er22_Index_c4_d n)
def er22_Index_c6_d (n : Nat) : SmV := smOps E_er22_Index er22_Index_o3
def er22_Index_c7_d (n : Nat) : SmV := smSeq [6, 7] (er22_Index_c6_d n) smRet
def er22_Index_c8_d (n : Nat) : SmV := smSeq [0, 5, 6] (er22_Index_c5_d n) (er22_Index_c7_d n)
def er22_Index_c9_d (n : Nat) : SmV := smSeq [0, 4, 5, 6] (er22_Index_c0_d n) (er22_Index_c8_d n)
def R_er22_Index (n : Nat) (args : List Val) (h : Heap) : OptV := (er22_Index_c9_d n) A_er22_Index.fin (params 0 args) h
theorem R_er22_Index_eq (n : Nat) (a0 a1 a2 : Val) (h : Heap) : R_er22_Index n [a0, a1, a2] h = bnd (cells? a1) fun c1 => bnd (cells? a2) fun c2 => bnd (afAddr ((.c (.p ((h ++ [some (Row.mk (c1) true)])).length 0))) 0) fun v3 => bnd (aload1 ((((h ++ [some (Row.mk (c1) true)]) ++ [some (Row.mk (c2) true)]) ++ [some (Row.mk ([.i .i64 0] ++ List.replicate 32 (.i .i64 0)) true)])) v3) fun v4 => bnd (abin .neq v4 (.c (.i .i64 2))) fun v5 => bnd (gd v5 false (bnd (aloadN ((((h ++ [some (Row.mk (c1) true)]) ++ [some (Row.mk (c2) true)]) ++ [some (Row.mk ([.i .i64 0] ++ List.replicate 32 (.i .i64 0)) true)])) 3 ((.c (.p h.length 0)))) fun v6 => some (v6, (((h ++ [some (Row.mk (c1) true)]) ++ [some (Row.mk (c2) true)]) ++ [some (Row.mk ([.i .i64 0] ++ List.replicate 32 (.i .i64 0)) true)]))) (some (.no, (((h ++ [some (Row.mk (c1) true)]) ++ [some (Row.mk (c2) true)]) ++ [some (Row.mk ([.i .i64 0] ++ List.replicate 32 (.i .i64 0)) true)])))) fun p7 => bnd (gd v5 false (bnd (afAddr ((.c (.p ((h ++ [some (Row.mk (c1) true)])).length 0))) 4) fun v8 => some (v8, p7.2)) (some (.no, p7.2))) fun p9 => bnd (gd v5 false (bnd (aiAddrA 6 1 p9.1 (.c (.i .i64 0))) fun v10 => some (v10, p9.2)) (some (.no, p9.2))) fun p11 => bnd (gd v5 false (bnd (aload1 p11.2 p11.1) fun v12 => some (v12, p11.2)) (some (.no, p11.2))) fun p13 => bnd (gd v5 false (bnd (S_er21_Data [p7.1, p13.1] p13.2) fun p14 => some (p14.1, p14.2)) (some (.no, p13.2))) fun p15 => bnd (gd v5 false (bnd (aun .not p15.1) fun v16 => some (v16, p15.2)) (some (.no, p15.2))) fun p17 => bnd (apick v5 (.c (.b true)) p17.1) fun v18 => cnd v18 (bnd (afill ([.i .i64 0] ++ List.replicate 32 (.i .i64 0)) []) fun c19 => bnd (astoreN p17.2 33 ((.c (.p (((h ++ [some (Row.mk (c1) true)]) ++ [some (Row.mk (c2) true)])).length 0))) ((.a c19))) fun h20 => tupN [aloadN h20 33 ((.c (.p (((h ++ [some (Row.mk (c1) true)]) ++ [some (Row.mk (c2) true)])).length 0))), some (.c (.b false))] h20) (bnd (afAddr ((.c (.p ((h ++ [some (Row.mk (c1) true)])).length 0))) 4) fun v21 => bnd (aiAddrA 6 1 v21 (.c (.i .i64 0))) fun v22 => bnd (aload1 p17.2 v22) fun v23 => bnd (S_er22_Block [a0, v23] p17.2) fun p24 => bnd (S_er19_Get [p24.1] p24.2) fun p25 => bnd (aext p25.1 0) fun v26 => bnd (aext p25.1 1) fun v27 => bnd (astoreN p25.2 33 ((.c (.p (((h ++ [some (Row.mk (c1) true)]) ++ [some (Row.mk (c2) true)])).length 0))) v26) fun h28 => tupN [aloadN h28 33 ((.c (.p (((h ++ [some (Row.mk (c1) true)]) ++ [some (Row.mk (c2) true)])).length 0))), some v27] h28) := by kernel_rfl
theorem K_er22_Index : FnK Try.prog 43 A_er22_Index E_er22_Index R_er22_Index := .mk' (sound1 S_er21_Data_ok (sound1 S_er22_Block_ok (sound1 S_er19_Get_ok sound0))) Try.func43 (by kernel_rfl) (by intro n args h; kernel_rfl)
def S_er22_Index : Fun := tidy (Lim A_er22_Index E_er22_Index)
theorem S_er22_Index_ok : SOk Try.prog 43 S_er22_Index := K_er22_Index.sok
theorem S_er22_Index_flat {n : Nat} {args : List Val} {h h2 : Heap} {v : Val} (he : R_er22_Index n args (ro h) = some (v, h2)) (hf : v.flat = true) : S_er22_Index args h = some (v, h) := K_er22_Index.flat he hf
def er22_Buckets_o0 : List AOper := [aO 4 (.box (.t 1)), aO 5 (.box (.t 2)), aO 6 (.nilrow 1)]
def er22_Buckets_c0 : ACode := .ops er22_Buckets_o0
def er22_Buckets_o1 : List AOper := [aO 7 (.nilrow 1)]
def er22_Buckets_c1 : ACode := .ops er22_Buckets_o1
def er22_Buckets_o2 : List AOper := [aO 13 (.mv (.t 0)), aO 14 (.loadN 3 (.t 4)), aO 15 (.loadN 11 (.t 5)), aO 16 (.call 43 [(.t 13), (.t 14), (.t 15)]), aO 12 (.mv (.t 16)), aO 17 (.ext (.t 12) 0), aO 18 (.ext (.t 12) 1), aO 8 (.alloc ([.i .i64 0] ++ List.replicate 32 (.i .i64 0))), { dst := none, op := .storeN 33 (.t 8) (.t 17) }, aO 9 (.mv (.t 18))]
def er22_Buckets_c2 : ACode := .ops er22_Buckets_o2
def er22_Buckets_o3 : List AOper := [aO 19 (.mv (.t 9)), aO 20 (.un .not (.t 19))]
def er22_Buckets_c3 : ACode := .ops er22_Buckets_o3
def er22_Buckets_o4 : List AOper := [aO 21 (.mv (.t 7)), aO 6 (.mv (.t 21))]
def er22_Buckets_c4 : ACode := .ops er22_Buckets_o4
def er22_Buckets_c5 : ACode := .seq [6] er22_Buckets_c4 .ret
def er22_Buckets_c6 : ACode := .cond (.t 20) er22_Buckets_c5 .skip
def er22_Buckets_c7 : ACode := .seq [4, 7, 8, 20] er22_Buckets_c3 er22_Buckets_c6
def er22_Buckets_o5 : List AOper := [aO 22 (.loadN 33 (.t 8)), aO 23 (.call 83 [(.t 22)]), aO 10 (.mv (.t 23))]
def er22_Buckets_c8 : ACode := .ops er22_Buckets_o5
def er22_Buckets_o6 : List AOper := [aO 11 (.mv (.v (.c (.i .i64 0))))]
def er22_Buckets_c9 : ACode := .ops er22_Buckets_o6
def er22_Buckets_o7 : List AOper := [aO 24 (.mv (.t 11)), aO 25 (.mv (.t 10)), aO 26 (.len (.t 25)), aO 27 (.bin .lss (.t 24) (.t 26))]
def er22_Buckets_c10 : ACode := .ops er22_Buckets_o7
def er22_Buckets_c11 : ACode := .cond (.t 27) .skip (.exit 0)
def er22_Buckets_c12 : ACode := .seq [4, 7, 10, 11, 27] er22_Buckets_c10 er22_Buckets_c11
def er22_Buckets_o8 : List AOper := [aO 30 (.loadN 3 (.t 4)), aO 31 (.mv (.t 10)), aO 32 (.mv (.t 11)), aO 33 (.iAddrL 1 (.t 31) (.t 32)), aO 34 (.load1 (.t 33))]
def er22_Buckets_o9 : List AOper := [aO 35 (.call 79 [(.t 30), (.t 34)])]
def er22_Buckets_c13 : ACode := .draw 0 er22_Buckets_o8 er22_Buckets_o9
def er22_Buckets_o10 : List AOper := [aO 36 (.mv (.t 7)), aO 37 (.mv (.t 10)), aO 38 (.mv (.t 11)), aO 39 (.iAddrL 1 (.t 37) (.t 38)), aO 40 (.load1 (.t 39)), aO 41 (.buildSl 1 1 ([.i .i64 0]) [(0, 1, (.t 40))]), aO 42 (.app 1 (.t 36) (.t 41)), aO 7 (.mv (.t 42))]
def er22_Buckets_c14 : ACode := .ops er22_Buckets_o10
def er22_Buckets_c15 : ACode := .cond (.t 35) er22_Buckets_c14 .skip
def er22_Buckets_c16 : ACode := .seq [4, 7, 10, 11, 35] er22_Buckets_c13 er22_Buckets_c15
def er22_Buckets_c17 : ACode := .block 1 er22_Buckets_c16
def er22_Buckets_o11 : List AOper := [aO 28 (.mv (.t 11)), aO 29 (.bin .add (.t 28) (.v (.c (.i .i64 1)))), aO 11 (.mv (.t 29))]
def er22_Buckets_c18 : ACode := .ops er22_Buckets_o11
def er22_Buckets_c19 : ACode := .seq [4, 7, 10, 11] er22_Buckets_c17 er22_Buckets_c18
def er22_Buckets_c20 : ACode := .seq [4, 7, 10, 11] er22_Buckets_c12 er22_Buckets_c19
def er22_Buckets_c21 : ACode := .loop [4, 7, 10, 11] er22_Buckets_c20
def er22_Buckets_c22 : ACode := .block 0 er22_Buckets_c21
def er22_Buckets_c23 : ACode := .seq [4, 7, 10, 11] er22_Buckets_c9 er22_Buckets_c22
def er22_Buckets_o12 : List AOper := [aO 43 (.mv (.t 7)), aO 6 (.mv (.t 43))]
def er22_Buckets_c24 : ACode := .ops er22_Buckets_o12
def er22_Buckets_c25 : ACode := .seq [6] er22_Buckets_c24 .ret
def er22_Buckets_c26 : ACode := .seq [7] er22_Buckets_c23 er22_Buckets_c25
def er22_Buckets_c27 : ACode := .seq [4, 7, 10] er22_Buckets_c8 er22_Buckets_c26
def er22_Buckets_c28 : ACode := .seq [4, 7, 8] er22_Buckets_c7 er22_Buckets_c27
def er22_Buckets_c29 : ACode := .seq [4, 7, 8, 9] er22_Buckets_c2 er22_Buckets_c28
def er22_Buckets_c30 : ACode := .seq [0, 4, 5, 7] er22_Buckets_c1 er22_Buckets_c29
def er22_Buckets_c31 : ACode := .seq [0, 4, 5] er22_Buckets_c0 er22_Buckets_c30
def A_er22_Buckets : AFn := ⟨er22_Buckets_c31, [.tmp 6]⟩
def E_er22_Buckets : Sums := disp 43 S_er22_Index (disp 83 S_er19_Buckets (disp 79 S_er21_Data disp0))
def er22_Buckets_c0_d (n : Nat) : SmV := smOps E_er22_Buckets er22_Buckets_o0
def er22_Buckets_c1_d (n : Nat) : SmV := smOps E_er22_Buckets er22_Buckets_o1
def er22_Buckets_c2_d (n : Nat) : SmV := smOps E_er22_Buckets er22_Buckets_o2
def er22_Buckets_c3_d (n : Nat) : SmV := smOps E_er22_Buckets er22_Buckets_o3
def er22_Buckets_c4_d (n : Nat) : SmV := smOps E_er22_Buckets er22_Buckets_o4
def er22_Buckets_c5_d (n : Nat) : SmV := smSeq [6] (er22_Buckets_c4_d n) smRet
def er22_Buckets_c6_d (n : Nat) : SmV := smCond (.t 20) (er22_Buckets_c5_d n) smSkip
def er22_Buckets_c7_d (n : Nat) : SmV := smSeq [4, 7, 8, 20] (er22_Buckets_c3_d n) (er22_Buckets_c6_d n)
def er22_Buckets_c8_d (n : Nat) : SmV := smOps E_er22_Buckets er22_Buckets_o5
def er22_Buckets_c9_d (n : Nat) : SmV := smOps E_er22_Buckets er22_Buckets_o6
def er22_Buckets_c10_d (n : Nat) : SmV := smOps E_er22_Buckets er22_Buckets_o7
def er22_Buckets_c11_d (n : Nat) : SmV := smCond (.t 27) smSkip (smExit 0)
def er22_Buckets_c12_d (n : Nat) : SmV := smSeq [4, 7, 10, 11, 27] (er22_Buckets_c10_d n) (er22_Buckets_c11_d n)
def er22_Buckets_c13_d (n : Nat) : SmV := smDraw E_er22_Buckets 0 er22_Buckets_o8 er22_Buckets_o9
def er22_Buckets_c14_d (n : Nat) : SmV := smOps E_er22_Buckets er22_Buckets_o10
def er22_Buckets_c15_d (n : Nat) : SmV := smCond (.t 35) (er22_Buckets_c14_d n) smSkip
def er22_Buckets_c16_d (n : Nat) : SmV := smSeq [4, 7, 10, 11, 35] (er22_Buckets_c13_d n) (er22_Buckets_c15_d n)
def er22_Buckets_c17_d (n : Nat) : SmV := smBlock 1 (er22_Buckets_c16_d n)
def er22_Buckets_c18_d (n : Nat) : SmV := smOps E_er22_Buckets er22_Buckets_o11
def er22_Buckets_c19_d (n : Nat) : SmV := smSeq [4, 7, 10, 11] (er22_Buckets_c17_d n) (er22_Buckets_c18_d n)
def er22_Buckets_c20_d (n : Nat) : SmV := smSeq [4, 7, 10, 11] (er22_Buckets_c12_d n) (er22_Buckets_c19_d n)
def er22_Buckets_c21_d (n : Nat) : SmV := smLoop n [4, 7, 10, 11] (er22_Buckets_c20_d n)
def er22_Buckets_c22_d (n : Nat) : SmV := smBlock 0 (er22_Buckets_c21_d n)
def er22_Buckets_c23_d (n : Nat) : SmV := smSeq [4, 7, 10, 11] (er22_Buckets_c9_d n) (er22_Buckets_c22_d n)
def er22_Buckets_c24_d (n : Nat) : SmV := smOps E_er22_Buckets er22_Buckets_o12
def er22_Buckets_c25_d (n : Nat) : SmV := smSeq [6] (er22_Buckets_c24_d n) smRet
def er22_Buckets_c26_d (n : Nat) : SmV := smSeq [7] (er22_Buckets_c23_d n) (er22_Buckets_c25_d n)
def er22_Buckets_c27_d (n : Nat) : SmV := smSeq [4, 7, 10] (er22_Buckets_c8_d n) (er22_Buckets_c26_d n)
def er22_Buckets_c28_d (n : Nat) : SmV := smSeq [4, 7, 8] (er22_Buckets_c7_d n) (er22_Buckets_c27_d n)
def er22_Buckets_c29_d (n : Nat) : SmV := smSeq [4, 7, 8, 9] (er22_Buckets_c2_d n) (er22_Buckets_c28_d n)
def er22_Buckets_c30_d (n : Nat) : SmV := smSeq [0, 4, 5, 7] (er22_Buckets_c1_d n) (er22_Buckets_c29_d n)
def er22_Buckets_c31_d (n : Nat) : SmV := smSeq [0, 4, 5] (er22_Buckets_c0_d n) (er22_Buckets_c30_d n)
def er22_Buckets_k0 (n : Nat) : AExit → Env → Heap → OptV := fun x e h => match x with | .normal => hold ((er22_Buckets_c25_d n) A_er22_Buckets.fin (e.keep [7]) h) | .exit id => A_er22_Buckets.fin (.exit id) e h | .ret => A_er22_Buckets.fin .ret e h
def er22_Buckets_k1 (n : Nat) : AExit → Env → Heap → OptV := fun x e h => match x with | .exit i => bif Nat.beq i 0 then (er22_Buckets_k0 n) .normal e h else (er22_Buckets_k0 n) (.exit i) e h | .normal => (er22_Buckets_k0 n) .normal e h | .ret => (er22_Buckets_k0 n) .ret e h
def er22_Buckets_l0 (n m : Nat) (x4 x7 x10 x11 : Val) (h : Heap) : OptV := around (er22_Buckets_c20_d n) [4, 7, 10, 11] (er22_Buckets_k1 n) m [(4, x4), (7, x7), (10, x10), (11, x11)] h
def R_er22_Buckets (n : Nat) (args : List Val) (h : Heap) : OptV := (er22_Buckets_c31_d n) A_er22_Buckets.fin (params 0 args) h
def er22_Buckets_k2 (n m : Nat) : AExit → Env → Heap → OptV := fun x e h => match x with | .normal => around (er22_Buckets_c20_d n) [4, 7, 10, 11] (er22_Buckets_k1 n) m (e.keep [4, 7, 10, 11]) h | .exit id => (er22_Buckets_k1 n) (.exit id) e h | .ret => (er22_Buckets_k1 n) .ret e h
def er22_Buckets_j0 (n m : Nat) (x4 x7 x10 x11 : Val) (h : Heap) : OptV := hold ((er22_Buckets_c18_d n) (er22_Buckets_k2 n m) [(4, x4), (7, x7), (10, x10), (11, x11)] h)
theorem R_er22_Buckets_eq (n : Nat) (a0 a1 a2 : Val) (h : Heap) : R_er22_Buckets n [a0, a1, a2] h = bnd (cells? a1) fun c1 => bnd (cells? a2) fun c2 => bnd (aloadN (((((h ++ [some (Row.mk (c1) true)]) ++ [some (Row.mk (c2) true)]) ++ [some (Row.mk ([]) true)]) ++ [some (Row.mk ([]) true)])) 3 ((.c (.p h.length 0)))) fun v3 => bnd (aloadN (((((h ++ [some (Row.mk (c1) true)]) ++ [some (Row.mk (c2) true)]) ++ [some (Row.mk ([]) true)]) ++ [some (Row.mk ([]) true)])) 11 ((.c (.p ((h ++ [some (Row.mk (c1) true)])).length 0)))) fun v4 => bnd (S_er22_Index [a0, v3, v4] (((((h ++ [some (Row.mk (c1) true)]) ++ [some (Row.mk (c2) true)]) ++ [some (Row.mk ([]) true)]) ++ [some (Row.mk ([]) true)]))) fun p5 => bnd (aext p5.1 0) fun v6 => bnd (aext p5.1 1) fun v7 => bnd (astoreN ((p5.2 ++ [some (Row.mk ([.i .i64 0] ++ List.replicate 32 (.i .i64 0)) true)])) 33 ((.c (.p p5.2.length 0))) v6) fun h8 => bnd (aun .not v7) fun v9 => cnd v9 (some (((.c (.sl ((((h ++ [some (Row.mk (c1) true)]) ++ [some (Row.mk (c2) true)]) ++ [some (Row.mk ([]) true)])).length 0 0 1))), h8)) (bnd (aloadN h8 33 ((.c (.p p5.2.length 0)))) fun v10 => bnd (S_er19_Buckets [v10] h8) fun p11 => er22_Buckets_l0 n n ((.c (.p h.length 0))) ((.c (.sl ((((h ++ [some (Row.mk (c1) true)]) ++ [some (Row.mk (c2) true)]) ++ [some (Row.mk ([]) true)])).length 0 0 1))) p11.1 (.c (.i .i64 0)) p11.2) := by kernel_rfl
theorem er22_Buckets_l0_eq (n m : Nat) (x4 x7 x10 x11 : Val) (h : Heap) : er22_Buckets_l0 n (m + 1) x4 x7 x10 x11 h = bnd (alen x10) fun v12 => bnd (abin .lss x11 v12) fun v13 => cnd v13 (bnd (aloadN h 3 x4) fun v14 => bnd (aiAddrL 1 x10 x11) fun v15 => bnd (aload1 h v15) fun v16 => bnd (S_er21_Data [v14, v16] ((h ++ []))) fun p17 => cnd p17.1 (bnd (aiAddrL 1 x10 x11) fun v18 => bnd (aload1 p17.2 v18) fun v19 => bnd (afill ([.i .i64 0]) [(0, 1, v19)]) fun c20 => bnd (aapp ((p17.2 ++ [some (Row.mk (c20) true)])) 1 x7 ((.c (.sl p17.2.length 0 1 1)))) fun p21 => er22_Buckets_j0 n m x4 p21.1 x10 x11 p21.2) (er22_Buckets_j0 n m x4 x7 x10 x11 p17.2)) (some (x7, h)) := by kernel_rfl
theorem er22_Buckets_j0_eq (n m : Nat) (x4 x7 x10 x11 : Val) (h : Heap) : er22_Buckets_j0 n m x4 x7 x10 x11 h = bnd (abin .add x11 (.c (.i .i64 1))) fun v22 => er22_Buckets_l0 n m x4 x7 x10 v22 h := by kernel_rfl
theorem K_er22_Buckets : FnK Try.prog 45 A_er22_Buckets E_er22_Buckets R_er22_Buckets := .mk' (sound1 S_er22_Index_ok (sound1 S_er19_Buckets_ok (sound1 S_er21_Data_ok sound0))) Try.func45 (by kernel_rfl) (by intro n args h; kernel_rfl)
def S_er22_Buckets : Fun := tidy (Lim A_er22_Buckets E_er22_Buckets)
theorem S_er22_Buckets_ok : SOk Try.prog 45 S_er22_Buckets := K_er22_Buckets.sok
theorem S_er22_Buckets_out {n : Nat} {args : List Val} {h h2 : Heap} {v : Val} {sz k : Nat} {cs : List Cell} (he : R_er22_Buckets n args (ro h) = some (v, h2)) (ho : Out h.length h2 v sz k cs) (hf : flats cs = true) : S_er22_Buckets args h = some (.c (.sl h.length 0 k sz), h ++ [some ⟨cs, true⟩]) := K_er22_Buckets.out he ho hf
def er22_All_o0 : List AOper := [aO 4 (.box (.t 1)), aO 5 (.box (.t 2)), aO 6 (.nilrow 1)]
def er22_All_c0 : ACode := .ops er22_All_o0
def er22_All_o1 : List AOper := [aO 11 (.mkSl 1 ([.i .i64 0]) (.v (.c (.i .i64 134))) (.v (.c (.i .i64 134)))), aO 7 (.mv (.t 11))]
def er22_All_c1 : ACode := .ops er22_All_o1
def er22_All_o2 : List AOper := [aO 12 (.fAddr (.t 5) 0), aO 13 (.load1 (.t 12)), aO 14 (.bin .neq (.t 13) (.v (.c (.i .i64 1))))]
def er22_All_c2 : ACode := .ops er22_All_o2
def er22_All_o3 : List AOper := [aO 15 (.mv (.t 7)), aO 6 (.mv (.t 15))]
def er22_All_c3 : ACode := .ops er22_All_o3
def er22_All_c4 : ACode := .seq [6] er22_All_c3 .ret
def er22_All_c5 : ACode := .cond (.t 14) er22_All_c4 .skip
def er22_All_c6 : ACode := .seq [0, 4, 5, 7, 14] er22_All_c2 er22_All_c5
def er22_All_o4 : List AOper := [aO 8 (.mv (.v (.c (.i .i64 0))))]
def er22_All_c7 : ACode := .ops er22_All_o4
def er22_All_o5 : List AOper := [aO 16 (.mv (.t 8)), aO 17 (.bin .lss (.t 16) (.v (.c (.i .i64 6))))]
def er22_All_c8 : ACode := .ops er22_All_o5
def er22_All_c9 : ACode := .cond (.t 17) .skip (.exit 0)
def er22_All_c10 : ACode := .seq [0, 4, 5, 7, 8, 17] er22_All_c8 er22_All_c9
def er22_All_o6 : List AOper := [aO 20 (.loadN 3 (.t 4)), aO 21 (.mv (.t 8)), aO 22 (.fAddr (.t 5) 4), aO 23 (.iAddrA 6 1 (.t 22) (.t 21)), aO 24 (.load1 (.t 23))]
def er22_All_o7 : List AOper := [aO 25 (.call 79 [(.t 20), (.t 24)])]
def er22_All_c11 : ACode := .draw 0 er22_All_o6 er22_All_o7
def er22_All_o8 : List AOper := [aO 26 (.mv (.t 7)), aO 27 (.mv (.t 8)), aO 28 (.mv (.t 8)), aO 29 (.fAddr (.t 5) 4), aO 30 (.iAddrA 6 1 (.t 29) (.t 28)), aO 31 (.load1 (.t 30)), aO 32 (.iAddrL 1 (.t 26) (.t 27)), { dst := none, op := .store1 (.t 32) (.t 31) }]
def er22_All_c12 : ACode := .ops er22_All_o8
def er22_All_c13 : ACode := .cond (.t 25) er22_All_c12 .skip
def er22_All_c14 : ACode := .seq [0, 4, 5, 7, 8, 25] er22_All_c11 er22_All_c13
def er22_All_c15 : ACode := .block 1 er22_All_c14
def er22_All_o9 : List AOper := [aO 18 (.mv (.t 8)), aO 19 (.bin .add (.t 18) (.v (.c (.i .i64 1)))), aO 8 (.mv (.t 19))]
def er22_All_c16 : ACode := .ops er22_All_o9
def er22_All_c17 : ACode := .seq [0, 4, 5, 7, 8] er22_All_c15 er22_All_c16
def er22_All_c18 : ACode := .seq [0, 4, 5, 7, 8] er22_All_c10 er22_All_c17
def er22_All_c19 : ACode := .loop [0, 4, 5, 7, 8] er22_All_c18
def er22_All_c20 : ACode := .block 0 er22_All_c19
def er22_All_c21 : ACode := .seq [0, 4, 5, 7, 8] er22_All_c7 er22_All_c20
def er22_All_o10 : List AOper := [aO 33 (.loadN 3 (.t 4)), aO 34 (.fAddr (.t 5) 10), aO 35 (.load1 (.t 34)), aO 36 (.call 79 [(.t 33), (.t 35)])]
def er22_All_c22 : ACode := .ops er22_All_o10
def er22_All_o11 : List AOper := [aO 37 (.mv (.t 0)), aO 38 (.fAddr (.t 5) 10), aO 39 (.load1 (.t 38)), aO 40 (.call 81 [(.t 37), (.t 39)]), aO 41 (.call 124 [(.t 40)]), aO 9 (.mv (.t 41))]
def er22_All_c23 : ACode := .ops er22_All_o11
def er22_All_o12 : List AOper := [aO 10 (.mv (.v (.c (.i .i64 0))))]
def er22_All_c24 : ACode := .ops er22_All_o12
def er22_All_o13 : List AOper := [aO 42 (.mv (.t 10)), aO 43 (.bin .lss (.t 42) (.v (.c (.i .i64 128))))]
def er22_All_c25 : ACode := .ops er22_All_o13
def er22_All_c26 : ACode := .cond (.t 43) .skip (.exit 2)
def er22_All_c27 : ACode := .seq [4, 7, 9, 10, 43] er22_All_c25 er22_All_c26
def er22_All_o14 : List AOper := [aO 46 (.loadN 3 (.t 4)), aO 47 (.mv (.t 9)), aO 48 (.mv (.t 10)), aO 49 (.iAddrL 1 (.t 47) (.t 48)), aO 50 (.load1 (.t 49))]
def er22_All_o15 : List AOper := [aO 51 (.call 79 [(.t 46), (.t 50)])]
def er22_All_c28 : ACode := .draw 0 er22_All_o14 er22_All_o15
def er22_All_o16 : List AOper := [aO 52 (.mv (.t 7)), aO 53 (.mv (.t 10)), aO 54 (.bin .add (.v (.c (.i .i64 6))) (.t 53)), aO 55 (.mv (.t 9)), aO 56 (.mv (.t 10)), aO 57 (.iAddrL 1 (.t 55) (.t 56)), aO 58 (.load1 (.t 57)), aO 59 (.iAddrL 1 (.t 52) (.t 54)), { dst := none, op := .store1 (.t 59) (.t 58) }]
def er22_All_c29 : ACode := .ops er22_All_o16
def er22_All_c30 : ACode := .cond (.t 51) er22_All_c29 .skip
def er22_All_c31 : ACode := .seq [4, 7, 9, 10, 51] er22_All_c28 er22_All_c30
def er22_All_c32 : ACode := .block 3 er22_All_c31
def er22_All_o17 : List AOper := [aO 44 (.mv (.t 10)), aO 45 (.bin .add (.t 44) (.v (.c (.i .i64 1)))), aO 10 (.mv (.t 45))]
def er22_All_c33 : ACode := .ops er22_All_o17
def er22_All_c34 : ACode := .seq [4, 7, 9, 10] er22_All_c32 er22_All_c33
def er22_All_c35 : ACode := .seq [4, 7, 9, 10] er22_All_c27 er22_All_c34
def er22_All_c36 : ACode := .loop [4, 7, 9, 10] er22_All_c35
def er22_All_c37 : ACode := .block 2 er22_All_c36
def er22_All_c38 : ACode := .seq [4, 7, 9, 10] er22_All_c24 er22_All_c37
def er22_All_c39 : ACode := .seq [4, 7, 9] er22_All_c23 er22_All_c38
def er22_All_c40 : ACode := .cond (.t 36) er22_All_c39 .skip
def er22_All_c41 : ACode := .seq [0, 4, 5, 7, 36] er22_All_c22 er22_All_c40
def er22_All_o18 : List AOper := [aO 60 (.mv (.t 7)), aO 6 (.mv (.t 60))]
def er22_All_c42 : ACode := .ops er22_All_o18
def er22_All_c43 : ACode := .seq [6] er22_All_c42 .ret
def er22_All_c44 : ACode := .seq [7] er22_All_c41 er22_All_c43
def er22_All_c45 : ACode := .seq [0, 4, 5, 7] er22_All_c21 er22_All_c44
def er22_All_c46 : ACode := .seq [0, 4, 5, 7] er22_All_c6 er22_All_c45
def er22_All_c47 : ACode := .seq [0, 4, 5, 7] er22_All_c1 er22_All_c46
def er22_All_c48 : ACode := .seq [0, 4, 5] er22_All_c0 er22_All_c47
def A_er22_All : AFn := ⟨er22_All_c48, [.tmp 6]⟩
def E_er22_All : Sums := disp 79 S_er21_Data (disp 81 S_er22_Block (disp 124 S_er20_Numbers disp0))
def er22_All_c0_d (n : Nat) : SmV := smOps E_er22_All er22_All_o0
def er22_All_c1_d (n : Nat) : SmV := smOps E_er22_All er22_All_o1
def er22_All_c2_d (n : Nat) : SmV := smOps E_er22_All er22_All_o2
def er22_All_c3_d (n : Nat) : SmV := smOps E_er22_All er22_All_o3
def er22_All_c4_d (n : Nat) : SmV := smSeq [6] (er22_All_c3_d n) smRet
def er22_All_c5_d (n : Nat) : SmV := smCond (.t 14) (er22_All_c4_d n) smSkip
def er22_All_c6_d (n : Nat) : SmV := smSeq [0, 4, 5, 7, 14] (er22_All_c2_d n) (er22_All_c5_d n)
def er22_All_c7_d (n : Nat) : SmV := smOps E_er22_All er22_All_o4
def er22_All_c8_d (n : Nat) : SmV := smOps E_er22_All er22_All_o5
def er22_All_c9_d (n : Nat) : SmV := smCond (.t 17) smSkip (smExit 0)
def er22_All_c10_d (n : Nat) : SmV := smSeq [0, 4, 5, 7, 8, 17] (er22_All_c8_d n) (er22_All_c9_d n)
def er22_All_c11_d (n : Nat) : SmV := smDraw E_er22_All 0 er22_All_o6 er22_All_o7
def er22_All_c12_d (n : Nat) : SmV := smOps E_er22_All er22_All_o8
def er22_All_c13_d (n : Nat) : SmV := smCond (.t 25) (er22_All_c12_d n) smSkip
def er22_All_c14_d (n : Nat) : SmV := smSeq [0, 4, 5, 7, 8, 25] (er22_All_c11_d n) (er22_All_c13_d n)
def er22_All_c15_d (n : Nat) : SmV := smBlock 1 (er22_All_c14_d n)
def er22_All_c16_d (n : Nat) : SmV := smOps E_er22_All er22_All_o9
def er22_All_c17_d (n : Nat) : SmV := smSeq [0, 4, 5, 7, 8] (er22_All_c15_d n) (er22_All_c16_d n)
def er22_All_c18_d (n : Nat) : SmV := smSeq [0, 4, 5, 7, 8] (er22_All_c10_d n) (er22_All_c17_d n)
def er22_All_c19_d (n : Nat) : SmV := smLoop n [0, 4, 5, 7, 8] (er22_All_c18_d n)
def er22_All_c20_d (n : Nat) : SmV := smBlock 0 (er22_All_c19_d n)
def er22_All_c21_d (n : Nat) : SmV := smSeq [0, 4, 5, 7, 8] (er22_All_c7_d n) (er22_All_c20_d n)
def er22_All_c22_d (n : Nat) : SmV := smOps E_er22_All er22_All_o10
def er22_All_c23_d (n : Nat) : SmV := smOps E_er22_All er22_All_o11
def er22_All_c24_d (n : Nat) : SmV := smOps E_er22_All er22_All_o12
def er22_All_c25_d (n : Nat) : SmV := smOps E_er22_All er22_All_o13
def er22_All_c26_d (n : Nat) : SmV := smCond (.t 43) smSkip (smExit 2)
def er22_All_c27_d (n : Nat) : SmV := smSeq [4, 7, 9, 10, 43] (er22_All_c25_d n) (er22_All_c26_d n)
def er22_All_c28_d (n : Nat) : SmV := smDraw E_er22_All 0 er22_All_o14 er22_All_o15
def er22_All_c29_d (n : Nat) : SmV := smOps E_er22_All er22_All_o16
def er22_All_c30_d (n : Nat) : SmV := smCond (.t 51) (er22_All_c29_d n) smSkip
def er22_All_c31_d (n : Nat) : SmV := smSeq [4, 7, 9, 10, 51] (er22_All_c28_d n) (er22_All_c30_d n)
def er22_All_c32_d (n : Nat) : SmV := smBlock 3 (er22_All_c31_d n)
def er22_All_c33_d (n : Nat) : SmV := smOps E_er22_All er22_All_o17
def er22_All_c34_d (n : Nat) : SmV := smSeq [4, 7, 9, 10] (er22_All_c32_d n) (er22_All_c33_d n)
def er22_All_c35_d (n : Nat) : SmV := smSeq [4, 7, 9, 10] (er22_All_c27_d n) (er22_All_c34_d n)
def er22_All_c36_d (n : Nat) : SmV := smLoop n [4, 7, 9, 10] (er22_All_c35_d n)
def er22_All_c37_d (n : Nat) : SmV := smBlock 2 (er22_All_c36_d n)
def er22_All_c38_d (n : Nat) : SmV := smSeq [4, 7, 9, 10] (er22_All_c24_d n) (er22_All_c37_d n)
def er22_All_c39_d (n : Nat) : SmV := smSeq [4, 7, 9] (er22_All_c23_d n) (er22_All_c38_d n)
def er22_All_c40_d (n : Nat) : SmV := smCond (.t 36) (er22_All_c39_d n) smSkip
def er22_All_c41_d (n : Nat) : SmV := smSeq [0, 4, 5, 7, 36] (er22_All_c22_d n) (er22_All_c40_d n)
def er22_All_c42_d (n : Nat) : SmV := smOps E_er22_All er22_All_o18
def er22_All_c43_d (n : Nat) : SmV := smSeq [6] (er22_All_c42_d n) smRet
def er22_All_c44_d (n : Nat) : SmV := smSeq [7] (er22_All_c41_d n) (er22_All_c43_d n)
def er22_All_c45_d (n : Nat) : SmV := smSeq [0, 4, 5, 7] (er22_All_c21_d n) (er22_All_c44_d n)
def er22_All_c46_d (n : Nat) : SmV := smSeq [0, 4, 5, 7] (er22_All_c6_d n) (er22_All_c45_d n)
def er22_All_c47_d (n : Nat) : SmV := smSeq [0, 4, 5, 7] (er22_All_c1_d n) (er22_All_c46_d n)
def er22_All_c48_d (n : Nat) : SmV := smSeq [0, 4, 5] (er22_All_c0_d n) (er22_All_c47_d n)
def er22_All_k0 (n : Nat) : AExit → Env → Heap → OptV := fun x e h => match x with | .normal => hold ((er22_All_c44_d n) A_er22_All.fin (e.keep [0, 4, 5, 7]) h) | .exit id => A_er22_All.fin (.exit id) e h | .ret => A_er22_All.fin .ret e h
def er22_All_k1 (n : Nat) : AExit → Env → Heap → OptV := fun x e h => match x with | .exit i => bif Nat.beq i 0 then (er22_All_k0 n) .normal e h else (er22_All_k0 n) (.exit i) e h | .normal => (er22_All_k0 n) .normal e h | .ret => (er22_All_k0 n) .ret e h
def er22_All_l0 (n m : Nat) (x0 x4 x5 x7 x8 : Val) (h : Heap) : OptV := around (er22_All_c18_d n) [0, 4, 5, 7, 8] (er22_All_k1 n) m [(0, x0), (4, x4), (5, x5), (7, x7), (8, x8)] h
def R_er22_All (n : Nat) (args : List Val) (h : Heap) : OptV := (er22_All_c48_d n) A_er22_All.fin (params 0 args) h
def er22_All_k2 (n m : Nat) : AExit → Env → Heap → OptV := fun x e h => match x with | .normal => around (er22_All_c18_d n) [0, 4, 5, 7, 8] (er22_All_k1 n) m (e.keep [0, 4, 5, 7, 8]) h | .exit id => (er22_All_k1 n) (.exit id) e h | .ret => (er22_All_k1 n) .ret e h
def er22_All_j0 (n m : Nat) (x0 x4 x5 x7 x8 : Val) (h : Heap) : OptV := hold ((er22_All_c16_d n) (er22_All_k2 n m) [(0, x0), (4, x4), (5, x5), (7, x7), (8, x8)] h)
def er22_All_k3 (n : Nat) : AExit → Env → Heap → OptV := fun x e h => match x with | .normal => hold ((er22_All_c43_d n) A_er22_All.fin (e.keep [7]) h) | .exit id => A_er22_All.fin (.exit id) e h | .ret => A_er22_All.fin .ret e h
def er22_All_k4 (n : Nat) : AExit → Env → Heap → OptV := fun x e h => match x with | .exit i => bif Nat.beq i 2 then (er22_All_k3 n) .normal e h else (er22_All_k3 n) (.exit i) e h | .normal => (er22_All_k3 n) .normal e h | .ret => (er22_All_k3 n) .ret e h
def er22_All_l1 (n m : Nat) (x4 x7 x9 x10 : Val) (h : Heap) : OptV := around (er22_All_c35_d n) [4, 7, 9, 10] (er22_All_k4 n) m [(4, x4), (7, x7), (9, x9), (10, x10)] h
def er22_All_j1 (n : Nat) (x7 : Val) (h : Heap) : OptV := hold ((er22_All_c43_d n) A_er22_All.fin [(7, x7)] h)
def er22_All_k5 (n m : Nat) : AExit → Env → Heap → OptV := fun x e h => match x with | .normal => around (er22_All_c35_d n) [4, 7, 9, 10] (er22_All_k4 n) m (e.keep [4, 7, 9, 10]) h | .exit id => (er22_All_k4 n) (.exit id) e h | .ret => (er22_All_k4 n) .ret e h
def er22_All_j2 (n m : Nat) (x4 x7 x9 x10 : Val) (h : Heap) : OptV := hold ((er22_All_c33_d n) (er22_All_k5 n m) [(4, x4), (7, x7), (9, x9), (10, x10)] h)
theorem R_er22_All_eq (n : Nat) (a0 a1 a2 : Val) (h : Heap) : R_er22_All n [a0, a1, a2] h = bnd (cells? a1) fun c1 => bnd (cells? a2) fun c2 => bnd (amkn (.c (.i .i64 134)) (.c (.i .i64 134))) fun n3 => bnd (afAddr ((.c (.p ((h ++ [some (Row.mk (c1) true)])).length 0))) 0) fun v4 => bnd (aload1 (((((h ++ [some (Row.mk (c1) true)]) ++ [some (Row.mk (c2) true)]) ++ [some (Row.mk ([]) true)]) ++ [some (Row.mk (rows ([.i .i64 0]) n3) true)])) v4) fun v5 => bnd (abin .neq v5 (.c (.i .i64 1))) fun v6 => cnd v6 (some (((.c (.sl ((((h ++ [some (Row.mk (c1) true)]) ++ [some (Row.mk (c2) true)]) ++ [some (Row.mk ([]) true)])).length 0 n3 1))), ((((h ++ [some (Row.mk (c1) true)]) ++ [some (Row.mk (c2) true)]) ++ [some (Row.mk ([]) true)]) ++ [some (Row.mk (rows ([.i .i64 0]) n3) true)]))) (er22_All_l0 n n a0 ((.c (.p h.length 0))) ((.c (.p ((h ++ [some (Row.mk (c1) true)])).length 0))) ((.c (.sl ((((h ++ [some (Row.mk (c1) true)]) ++ [some (Row.mk (c2) true)]) ++ [some (Row.mk ([]) true)])).length 0 n3 1))) (.c (.i .i64 0)) (((((h ++ [some (Row.mk (c1) true)]) ++ [some (Row.mk (c2) true)]) ++ [some (Row.mk ([]) true)]) ++ [some (Row.mk (rows ([.i .i64 0]) n3) true)]))) := by kernel_rfl
theorem er22_All_l0_eq (n m : Nat) (x0 x4 x5 x7 x8 : Val) (h : Heap) : er22_All_l0 n (m + 1) x0 x4 x5 x7 x8 h = bnd (abin .lss x8 (.c (.i .i64 6))) fun v7 => cnd v7 (bnd (aloadN h 3 x4) fun v8 => bnd (afAddr x5 4) fun v9 => bnd (aiAddrA 6 1 v9 x8) fun v10 => bnd (aload1 h v10) fun v11 => bnd (S_er21_Data [v8, v11] ((h ++ []))) fun p12 => cnd p12.1 (bnd (afAddr x5 4) fun v13 => bnd (aiAddrA 6 1 v13 x8) fun v14 => bnd (aload1 p12.2 v14) fun v15 => bnd (aiAddrL 1 x7 x8) fun v16 => bnd (astore1 p12.2 v16 v15) fun h17 => er22_All_j0 n m x0 x4 x5 x7 x8 h17) (er22_All_j0 n m x0 x4 x5 x7 x8 p12.2)) (bnd (aloadN h 3 x4) fun v18 => bnd (afAddr x5 10) fun v19 => bnd (aload1 h v19) fun v20 => bnd (S_er21_Data [v18, v20] h) fun p21 => cnd p21.1 (bnd (afAddr x5 10) fun v22 => bnd (aload1 p21.2 v22) fun v23 => bnd (S_er22_Block [x0, v23] p21.2) fun p24 => bnd (S_er20_Numbers [p24.1] p24.2) fun p25 => er22_All_l1 n n x4 x7 p25.1 (.c (.i .i64 0)) p25.2) (er22_All_j1 n x7 p21.2)) := by kernel_rfl
theorem er22_All_j0_eq (n m : Nat) (x0 x4 x5 x7 x8 : Val) (h : Heap) : er22_All_j0 n m x0 x4 x5 x7 x8 h = bnd (abin .add x8 (.c (.i .i64 1))) fun v26 => er22_All_l0 n m x0 x4 x5 x7 v26 h := by kernel_rfl
theorem er22_All_l1_eq (n m : Nat) (x4 x7 x9 x10 : Val) (h : Heap) : er22_All_l1 n (m + 1) x4 x7 x9 x10 h = bnd (abin .lss x10 (.c (.i .i64 128))) fun v27 => cnd v27 (bnd (aloadN h 3 x4) fun v28 => bnd (aiAddrL 1 x9 x10) fun v29 => bnd (aload1 h v29) fun v30 => bnd (S_er21_Data [v28, v30] ((h ++ []))) fun p31 => cnd p31.1 (bnd (abin .add (.c (.i .i64 6)) x10) fun v32 => bnd (aiAddrL 1 x9 x10) fun v33 => bnd (aload1 p31.2 v33) fun v34 => bnd (aiAddrL 1 x7 v32) fun v35 => bnd (astore1 p31.2 v35 v34) fun h36 => er22_All_j2 n m x4 x7 x9 x10 h36) (er22_All_j2 n m x4 x7 x9 x10 p31.2)) (er22_All_j1 n x7 h) := by kernel_rfl
theorem er22_All_j1_eq (n : Nat) (x7 : Val) (h : Heap) : er22_All_j1 n x7 h = some (x7, h) := by kernel_rfl
theorem er22_All_j2_eq (n m : Nat) (x4 x7 x9 x10 : Val) (h : Heap) : er22_All_j2 n m x4 x7 x9 x10 h = bnd (abin .add x10 (.c (.i .i64 1))) fun v37 => er22_All_l1 n m x4 x7 x9 v37 h := by kernel_rfl
theorem K_er22_All : FnK Try.prog 84 A_er22_All E_er22_All R_er22_All := .mk' (sound1 S_er21_Data_ok (sound1 S_er22_Block_ok (sound1 S_er20_Numbers_ok sound0))) Try.func84 (by kernel_rfl) (by intro n args h; kernel_rfl)
def S_er22_All : Fun := tidy (Lim A_er22_All E_er22_All)
theorem S_er22_All_ok : SOk Try.prog 84 S_er22_All := K_er22_All.sok
theorem S_er22_All_out {n : Nat} {args : List Val} {h h2 : Heap} {v : Val} {sz k : Nat} {cs : List Cell} (he : R_er22_All n args (ro h) = some (v, h2)) (ho : Out h.length h2 v sz k cs) (hf : flats cs = true) : S_er22_All args h = some (.c (.sl h.length 0 k sz), h ++ [some ⟨cs, true⟩]) := K_er22_All.out he ho hf
def er22_Some_o0 : List AOper := [aO 2 (.nilrow 1)]
def er22_Some_c0 : ACode := .ops er22_Some_o0
def er22_Some_o1 : List AOper := [aO 3 (.nilrow 1)]
def er22_Some_c1 : ACode := .ops er22_Some_o1
def er22_Some_o2 : List AOper := [aO 4 (.mv (.v (.c (.i .i64 0))))]
def er22_Some_c2 : ACode := .ops er22_Some_o2
def er22_Some_o3 : List AOper := [aO 5 (.mv (.t 4)), aO 6 (.mv (.t 0)), aO 7 (.len (.t 6)), aO 8 (.bin .lss (.t 5) (.t 7))]
def er22_Some_c3 : ACode := .ops er22_Some_o3
def er22_Some_c4 : ACode := .cond (.t 8) .skip (.exit 0)
def er22_Some_c5 : ACode := .seq [0, 3, 4, 8] er22_Some_c3 er22_Some_c4
def er22_Some_o4 : List AOper := [aO 11 (.mv (.t 0)), aO 12 (.mv (.t 4)), aO 13 (.iAddrL 1 (.t 11) (.t 12)), aO 14 (.load1 (.t 13)), aO 15 (.bin .neq (.t 14) (.v (.c (.i .i64 0))))]
def er22_Some_c6 : ACode := .ops er22_Some_o4
def er22_Some_o5 : List AOper := [aO 16 (.mv (.t 3)), aO 17 (.mv (.t 0)), aO 18 (.mv (.t 4)), aO 19 (.iAddrL 1 (.t 17) (.t 18)), aO 20 (.load1 (.t 19)), aO 21 (.buildSl 1 1 ([.i .i64 0]) [(0, 1, (.t 20))]), aO 22 (.app 1 (.t 16) (.t 21)), aO 3 (.mv (.t 22))]
def er22_Some_c7 : ACode := .ops er22_Some_o5
def er22_Some_c8 : ACode := .cond (.t 15) er22_Some_c7 .skip
def er22_Some_c9 : ACode := .seq [0, 3, 4, 15] er22_Some_c6 er22_Some_c8
def er22_Some_c10 : ACode := .block 1 er22_Some_c9
def er22_Some_o6 : List AOper := [aO 9 (.mv (.t 4)), aO 10 (.bin .add (.t 9) (.v (.c (.i .i64 1)))), aO 4 (.mv (.t 10))]
def er22_Some_c11 : ACode := .ops er22_Some_o6
def er22_Some_c12 : ACode := .seq [0, 3, 4] er22_Some_c10 er22_Some_c11
def er22_Some_c13 : ACode := .seq [0, 3, 4] er22_Some_c5 er22_Some_c12
def er22_Some_c14 : ACode := .loop [0, 3, 4] er22_Some_c13
def er22_Some_c15 : ACode := .block 0 er22_Some_c14
def er22_Some_c16 : ACode := .seq [0, 3, 4] er22_Some_c2 er22_Some_c15
def er22_Some_o7 : List AOper := [aO 23 (.mv (.t 3)), aO 2 (.mv (.t 23))]
def er22_Some_c17 : ACode := .ops er22_Some_o7
def er22_Some_c18 : ACode := .seq [2] er22_Some_c17 .ret
def er22_Some_c19 : ACode := .seq [3] er22_Some_c16 er22_Some_c18
def er22_Some_c20 : ACode := .seq [0, 3] er22_Some_c1 er22_Some_c19
def er22_Some_c21 : ACode := .seq [0] er22_Some_c0 er22_Some_c20
def A_er22_Some : AFn := ⟨er22_Some_c21, [.tmp 2]⟩
def E_er22_Some : Sums := disp0
def er22_Some_c0_d (n : Nat) : SmV := smOps E_er22_Some er22_Some_o0
def er22_Some_c1_d (n : Nat) : SmV := smOps E_er22_Some er22_Some_o1
def er22_Some_c2_d (n : Nat) : SmV := smOps E_er22_Some er22_Some_o2
def er22_Some_c3_d (n : Nat) : SmV := smOps E_er22_Some er22_Some_o3
def er22_Some_c4_d (n : Nat) : SmV := smCond (.t 8) smSkip (smExit 0)
def er22_Some_c5_d (n : Nat) : SmV := smSeq [0, 3, 4, 8] (er22_Some_c3_d n) (er22_Some_c4_d n)
def er22_Some_c6_d (n : Nat) : SmV := smOps E_er22_Some er22_Some_o4
def er22_Some_c7_d (n : Nat) : SmV := smOps E_er22_Some er22_Some_o5
def er22_Some_c8_d (n : Nat) : SmV := smCond (.t 15) (er22_Some_c7_d n) smSkip
def er22_Some_c9_d (n : Nat) : SmV := smSeq [0, 3, 4, 15] (er22_Some_c6_d n) (er22_Some_c8_d n)
def er22_Some_c10_d (n : Nat) : SmV := smBlock 1 (er22_Some_c9_d n)
def er22_Some_c11_d (n : Nat) : SmV := smOps E_er22_Some er22_Some_o6
def er22_Some_c12_d (n : Nat) : SmV := smSeq [0, 3, 4] (er22_Some_c10_d n) (er22_Some_c11_d n)
def er22_Some_c13_d (n : Nat) : SmV := smSeq [0, 3, 4] (er22_Some_c5_d n) (er22_Some_c12_d n)
def er22_Some_c14_d (n : Nat) : SmV := smLoop n [0, 3, 4] (er22_Some_c13_d n)
def er22_Some_c15_d (n : Nat) : SmV := smBlock 0 (er22_Some_c14_d n)
def er22_Some_c16_d (n : Nat) : SmV := smSeq [0, 3, 4] (er22_Some_c2_d n) (er22_Some_c15_d n)
def er22_Some_c17_d (n : Nat) : SmV := smOps E_er22_Some er22_Some_o7
def er22_Some_c18_d (n : Nat) : SmV := smSeq [2] (er22_Some_c17_d n) smRet
def er22_Some_c19_d (n : Nat) : SmV := smSeq [3] (er22_Some_c16_d n) (er22_Some_c18_d n)
def er22_Some_c20_d (n : Nat) : SmV := smSeq [0, 3] (er22_Some_c1_d n) (er22_Some_c19_d n)
def er22_Some_c21_d (n : Nat) : SmV := smSeq [0] (er22_Some_c0_d n) (er22_Some_c20_d n)
def er22_Some_k0 (n : Nat) : AExit → Env → Heap → OptV := fun x e h => match x with | .normal => hold ((er22_Some_c18_d n) A_er22_Some.fin (e.keep [3]) h) | .exit id => A_er22_Some.fin (.exit id) e h | .ret => A_er22_Some.fin .ret e h
def er22_Some_k1 (n : Nat) : AExit → Env → Heap → OptV := fun x e h => match x with | .exit i => bif Nat.beq i 0 then (er22_Some_k0 n) .normal e h else (er22_Some_k0 n) (.exit i) e h | .normal => (er22_Some_k0 n) .normal e h | .ret => (er22_Some_k0 n) .ret e h
def er22_Some_l0 (n m : Nat) (x0 x3 x4 : Val) (h : Heap) : OptV := around (er22_Some_c13_d n) [0, 3, 4] (er22_Some_k1 n) m [(0, x0), (3, x3), (4, x4)] h
def R_er22_Some (n : Nat) (args : List Val) (h : Heap) : OptV := (er22_Some_c21_d n) A_er22_Some.fin (params 0 args) h
def er22_Some_k2 (n m : Nat) : AExit → Env → Heap → OptV := fun x e h => match x with | .normal => around (er22_Some_c13_d n) [0, 3, 4] (er22_Some_k1 n) m (e.keep [0, 3, 4]) h | .exit id => (er22_Some_k1 n) (.exit id) e h | .ret => (er22_Some_k1 n) .ret e h
def er22_Some_j0 (n m : Nat) (x0 x3 x4 : Val) (h : Heap) : OptV := hold ((er22_Some_c11_d n) (er22_Some_k2 n m) [(0, x0), (3, x3), (4, x4)] h)
theorem R_er22_Some_eq (n : Nat) (a0 : Val) (h : Heap) : R_er22_Some n [a0] h = er22_Some_l0 n n a0 ((.c (.sl ((h ++ [some (Row.mk ([]) true)])).length 0 0 1))) (.c (.i .i64 0)) (((h ++ [some (Row.mk ([]) true)]) ++ [some (Row.mk ([]) true)])) := by kernel_rfl
theorem er22_Some_l0_eq (n m : Nat) (x0 x3 x4 : Val) (h : Heap) : er22_Some_l0 n (m + 1) x0 x3 x4 h = bnd (alen x0) fun v1 => bnd (abin .lss x4 v1) fun v2 => cnd v2 (bnd (aiAddrL 1 x0 x4) fun v3 => bnd (aload1 h v3) fun v4 => bnd (abin .neq v4 (.c (.i .i64 0))) fun v5 => cnd v5 (bnd (aiAddrL 1 x0 x4) fun v6 => bnd (aload1 h v6) fun v7 => bnd (afill ([.i .i64 0]) [(0, 1, v7)]) fun c8 => bnd (aapp ((h ++ [some (Row.mk (c8) true)])) 1 x3 ((.c (.sl h.length 0 1 1)))) fun p9 => er22_Some_j0 n m x0 p9.1 x4 p9.2) (er22_Some_j0 n m x0 x3 x4 h)) (some (x3, h)) := by kernel_rfl
theorem er22_Some_j0_eq (n m : Nat) (x0 x3 x4 : Val) (h : Heap) : er22_Some_j0 n m x0 x3 x4 h = bnd (abin .add x4 (.c (.i .i64 1))) fun v10 => er22_Some_l0 n m x0 x3 v10 h := by kernel_rfl
theorem K_er22_Some : FnK Try.prog 85 A_er22_Some E_er22_Some R_er22_Some := .mk' (sound0) Try.func85 (by kernel_rfl) (by intro n args h; kernel_rfl)
def S_er22_Some : Fun := tidy (Lim A_er22_Some E_er22_Some)
theorem S_er22_Some_ok : SOk Try.prog 85 S_er22_Some := K_er22_Some.sok
theorem S_er22_Some_out {n : Nat} {args : List Val} {h h2 : Heap} {v : Val} {sz k : Nat} {cs : List Cell} (he : R_er22_Some n args (ro h) = some (v, h2)) (ho : Out h.length h2 v sz k cs) (hf : flats cs = true) : S_er22_Some args h = some (.c (.sl h.length 0 k sz), h ++ [some ⟨cs, true⟩]) := K_er22_Some.out he ho hf
def er22_Owns_o0 : List AOper := [aO 4 (.box (.t 1)), aO 5 (.box (.t 2)), aO 6 (.nilrow 1)]
def er22_Owns_c0 : ACode := .ops er22_Owns_o0
def er22_Owns_o1 : List AOper := [aO 12 (.fAddr (.t 5) 0), aO 13 (.load1 (.t 12)), aO 14 (.bin .eql (.t 13) (.v (.c (.i .i64 2))))]
def er22_Owns_c1 : ACode := .ops er22_Owns_o1
def er22_Owns_o2 : List AOper := [aO 7 (.nilrow 1)]
def er22_Owns_c2 : ACode := .ops er22_Owns_o2
def er22_Owns_o3 : List AOper := [aO 16 (.mv (.t 0)), aO 17 (.loadN 3 (.t 4)), aO 18 (.loadN 11 (.t 5)), aO 19 (.call 43 [(.t 16), (.t 17), (.t 18)]), aO 15 (.mv (.t 19)), aO 20 (.ext (.t 15) 0), aO 21 (.ext (.t 15) 1), aO 8 (.alloc ([.i .i64 0] ++ List.replicate 32 (.i .i64 0))), { dst := none, op := .storeN 33 (.t 8) (.t 20) }, aO 9 (.mv (.t 21))]
def er22_Owns_c3 : ACode := .ops er22_Owns_o3
def er22_Owns_o4 : List AOper := [aO 22 (.mv (.t 9))]
def er22_Owns_c4 : ACode := .ops er22_Owns_o4
def er22_Owns_o5 : List AOper := [aO 23 (.mv (.t 7)), aO 24 (.fAddr (.t 5) 4), aO 25 (.iAddrA 6 1 (.t 24) (.v (.c (.i .i64 0)))), aO 26 (.load1 (.t 25)), aO 27 (.buildSl 1 1 ([.i .i64 0]) [(0, 1, (.t 26))]), aO 28 (.app 1 (.t 23) (.t 27)), aO 7 (.mv (.t 28))]
def er22_Owns_c5 : ACode := .ops er22_Owns_o5
def er22_Owns_c6 : ACode := .cond (.t 22) er22_Owns_c5 .skip
def er22_Owns_c7 : ACode := .seq [0, 4, 5, 7, 22] er22_Owns_c4 er22_Owns_c6
def er22_Owns_c8 : ACode := .seq [0, 4, 5, 7, 9] er22_Owns_c3 er22_Owns_c7
def er22_Owns_o6 : List AOper := [aO 29 (.mv (.t 7)), aO 30 (.mv (.t 0)), aO 31 (.loadN 3 (.t 4)), aO 32 (.loadN 11 (.t 5)), aO 33 (.call 45 [(.t 30), (.t 31), (.t 32)]), aO 34 (.app 1 (.t 29) (.t 33)), aO 6 (.mv (.t 34))]
def er22_Owns_c9 : ACode := .ops er22_Owns_o6
def er22_Owns_c10 : ACode := .seq [6] er22_Owns_c9 .ret
def er22_Owns_c11 : ACode := .seq [0, 4, 5, 7] er22_Owns_c8 er22_Owns_c10
def er22_Owns_c12 : ACode := .seq [0, 4, 5, 7] er22_Owns_c2 er22_Owns_c11
def er22_Owns_c13 : ACode := .cond (.t 14) er22_Owns_c12 .skip
def er22_Owns_c14 : ACode := .seq [0, 4, 5, 14] er22_Owns_c1 er22_Owns_c13
def er22_Owns_o7 : List AOper := [aO 35 (.mv (.t 0)), aO 36 (.loadN 3 (.t 4)), aO 37 (.loadN 11 (.t 5)), aO 38 (.call 84 [(.t 35), (.t 36), (.t 37)]), aO 10 (.mv (.t 38))]
def er22_Owns_c15 : ACode := .ops er22_Owns_o7
def er22_Owns_o8 : List AOper := [aO 39 (.mv (.t 10)), aO 40 (.slL 1 (.t 39) none (some (.v (.c (.i .i64 6))))), aO 41 (.call 85 [(.t 40)]), aO 11 (.mv (.t 41))]
def er22_Owns_c16 : ACode := .ops er22_Owns_o8
def er22_Owns_o9 : List AOper := [aO 42 (.fAddr (.t 5) 0), aO 43 (.load1 (.t 42)), aO 44 (.bin .eql (.t 43) (.v (.c (.i .i64 1)))), aO 45 (.mv (.t 44)), { dst := some 46, op := .loadN 3 (.t 4), guard := some (45, true) }, { dst := some 47, op := .fAddr (.t 5) 10, guard := some (45, true) }, { dst := some 48, op := .load1 (.t 47), guard := some (45, true) }, { dst := some 49, op := .call 79 [(.t 46), (.t 48)], guard := some (45, true) }, aO 50 (.pick (.t 45) (.t 49) (.v (.c (.b false))))]
def er22_Owns_c17 : ACode := .ops er22_Owns_o9
def er22_Owns_o10 : List AOper := [aO 51 (.mv (.t 11)), aO 52 (.fAddr (.t 5) 10), aO 53 (.load1 (.t 52)), aO 54 (.buildSl 1 1 ([.i .i64 0]) [(0, 1, (.t 53))]), aO 55 (.app 1 (.t 51) (.t 54)), aO 11 (.mv (.t 55))]
def er22_Owns_c18 : ACode := .ops er22_Owns_o10
def er22_Owns_c19 : ACode := .cond (.t 50) er22_Owns_c18 .skip
def er22_Owns_c20 : ACode := .seq [5, 10, 11, 50] er22_Owns_c17 er22_Owns_c19
def er22_Owns_o11 : List AOper := [aO 56 (.mv (.t 11)), aO 57 (.mv (.t 10)), aO 58 (.slL 1 (.t 57) (some (.v (.c (.i .i64 6)))) none), aO 59 (.call 85 [(.t 58)]), aO 60 (.app 1 (.t 56) (.t 59)), aO 6 (.mv (.t 60))]
def er22_Owns_c21 : ACode := .ops er22_Owns_o11
def er22_Owns_c22 : ACode := .seq [6] er22_Owns_c21 .ret
def er22_Owns_c23 : ACode := .seq [10, 11] er22_Owns_c20 er22_Owns_c22
def er22_Owns_c24 : ACode := .seq [4, 5, 10, 11] er22_Owns_c16 er22_Owns_c23
def er22_Owns_c25 : ACode := .seq [4, 5, 10] er22_Owns_c15 er22_Owns_c24
def er22_Owns_c26 : ACode := .seq [0, 4, 5] er22_Owns_c14 er22_Owns_c25
def er22_Owns_c27 : ACode := .seq [0, 4, 5] er22_Owns_c0 er22_Owns_c26
def A_er22_Owns : AFn := ⟨er22_Owns_c27, [.tmp 6]⟩
def E_er22_Owns : Sums := disp 43 S_er22_Index (disp 45 S_er22_Buckets (disp 84 S_er22_All (disp 85 S_er22_Some (disp 79 S_er21_Data disp0))))
def er22_Owns_c0_d (n : Nat) : SmV := smOps E_er22_Owns er22_Owns_o0
def er22_Owns_c1_d (n : Nat) : SmV := smOps E_er22_Owns er22_Owns_o1
def er22_Owns_c2_d (n : Nat) : SmV := smOps E_er22_Owns er22_Owns_o2
def er22_Owns_c3_d (n : Nat) : SmV := smOps E_er22_Owns er22_Owns_o3
def er22_Owns_c4_d (n : Nat) : SmV := smOps E_er22_Owns er22_Owns_o4
def er22_Owns_c5_d (n : Nat) : SmV := smOps E_er22_Owns er22_Owns_o5
def er22_Owns_c6_d (n : Nat) : SmV := smCond (.t 22) (er22_Owns_c5_d n) smSkip
def er22_Owns_c7_d (n : Nat) : SmV := smSeq [0, 4, 5, 7, 22] (er22_Owns_c4_d n) (er22_Owns_c6_d n)
def er22_Owns_c8_d (n : Nat) : SmV := smSeq [0, 4, 5, 7, 9] (er22_Owns_c3_d n) (er22_Owns_c7_d n)
def er22_Owns_c9_d (n : Nat) : SmV := smOps E_er22_Owns er22_Owns_o6
def er22_Owns_c10_d (n : Nat) : SmV := smSeq [6] (er22_Owns_c9_d n) smRet
def er22_Owns_c11_d (n : Nat) : SmV := smSeq [0, 4, 5, 7] (er22_Owns_c8_d n) (er22_Owns_c10_d n)
def er22_Owns_c12_d (n : Nat) : SmV := smSeq [0, 4, 5, 7] (er22_Owns_c2_d n) (er22_Owns_c11_d n)
def er22_Owns_c13_d (n : Nat) : SmV := smCond (.t 14) (er22_Owns_c12_d n) smSkip
def er22_Owns_c14_d (n : Nat) : SmV := smSeq [0, 4, 5, 14] (er22_Owns_c1_d n) (er22_Owns_c13_d n)
def er22_Owns_c15_d (n : Nat) : SmV := smOps E_er22_Owns er22_Owns_o7
def er22_Owns_c16_d (n : Nat) : SmV := smOps E_er22_Owns er22_Owns_o8
def er22_Owns_c17_d (n : Nat) : SmV := smOps E_er22_Owns er22_Owns_o9
def er22_Owns_c18_d (n : Nat) : SmV := smOps E_er22_Owns er22_Owns_o10
def er22_Owns_c19_d (n : Nat) : SmV := smCond (.t 50) (er22_Owns_c18_d n) smSkip
def er22_Owns_c20_d (n : Nat) : SmV := smSeq [5, 10, 11, 50] (er22_Owns_c17_d n) (er22_Owns_c19_d n)
def er22_Owns_c21_d (n : Nat) : SmV := smOps E_er22_Owns er22_Owns_o11
def er22_Owns_c22_d (n : Nat) : SmV := smSeq [6] (er22_Owns_c21_d n) smRet
def er22_Owns_c23_d (n : Nat) : SmV := smSeq [10, 11] (er22_Owns_c20_d n) (er22_Owns_c22_d n)
def er22_Owns_c24_d (n : Nat) : SmV := smSeq [4, 5, 10, 11] (er22_Owns_c16_d n) (er22_Owns_c23_d n)
def er22_Owns_c25_d (n : Nat) : SmV := smSeq [4, 5, 10] (er22_Owns_c15_d n) (er22_Owns_c24_d n)
def er22_Owns_c26_d (n : Nat) : SmV := smSeq [0, 4, 5] (er22_Owns_c14_d n) (er22_Owns_c25_d n)
def er22_Owns_c27_d (n : Nat) : SmV := smSeq [0, 4, 5] (er22_Owns_c0_d n) (er22_Owns_c26_d n)
def er22_Owns_k0 (n : Nat) : AExit → Env → Heap → OptV := fun x e h => match x with | .normal => hold ((er22_Owns_c25_d n) A_er22_Owns.fin (e.keep [0, 4, 5]) h) | .exit id => A_er22_Owns.fin (.exit id) e h | .ret => A_er22_Owns.fin .ret e h
def er22_Owns_j0 (n : Nat) (x0 x4 x5 x7 : Val) (h : Heap) : OptV := hold ((er22_Owns_c10_d n) (er22_Owns_k0 n) [(0, x0), (4, x4), (5, x5), (7, x7)] h)
def er22_Owns_j1 (n : Nat) (x10 x11 : Val) (h : Heap) : OptV := hold ((er22_Owns_c22_d n) A_er22_Owns.fin [(10, x10), (11, x11)] h)
def R_er22_Owns (n : Nat) (args : List Val) (h : Heap) : OptV := (er22_Owns_c27_d n) A_er22_Owns.fin (params 0 args) h
theorem R_er22_Owns_eq (n : Nat) (a0 a1 a2 : Val) (h : Heap) : R_er22_Owns n [a0, a1, a2] h = bnd (cells? a1) fun c1 => bnd (cells? a2) fun c2 => bnd (afAddr ((.c (.p ((h ++ [some (Row.mk (c1) true)])).length 0))) 0) fun v3 => bnd (aload1 ((((h ++ [some (Row.mk (c1) true)]) ++ [some (Row.mk (c2) true)]) ++ [some (Row.mk ([]) true)])) v3) fun v4 => bnd (abin .eql v4 (.c (.i .i64 2))) fun v5 => cnd v5 (bnd (aloadN (((((h ++ [some (Row.mk (c1) true)]) ++ [some (Row.mk (c2) true)]) ++ [some (Row.mk ([]) true)]) ++ [some (Row.mk ([]) true)])) 3 ((.c (.p h.length 0)))) fun v6 => bnd (aloadN (((((h ++ [some (Row.mk (c1) true)]) ++ [some (Row.mk (c2) true)]) ++ [some (Row.mk ([]) true)]) ++ [some (Row.mk ([]) true)])) 11 ((.c (.p ((h ++ [some (Row.mk (c1) true)])).length 0)))) fun v7 => bnd (S_er22_Index [a0, v6, v7] (((((h ++ [some (Row.mk (c1) true)]) ++ [some (Row.mk (c2) true)]) ++ [some (Row.mk ([]) true)]) ++ [some (Row.mk ([]) true)]))) fun p8 => bnd (aext p8.1 0) fun v9 => bnd (aext p8.1 1) fun v10 => bnd (astoreN ((p8.2 ++ [some (Row.mk ([.i .i64 0] ++ List.replicate 32 (.i .i64 0)) true)])) 33 ((.c (.p p8.2.length 0))) v9) fun h11 => cnd v10 (bnd (afAddr ((.c (.p ((h ++ [some (Row.mk (c1) true)])).length 0))) 4) fun v12 => bnd (aiAddrA 6 1 v12 (.c (.i .i64 0))) fun v13 => bnd (aload1 h11 v13) fun v14 => bnd (afill ([.i .i64 0]) [(0, 1, v14)]) fun c15 => bnd (aapp ((h11 ++ [some (Row.mk (c15) true)])) 1 ((.c (.sl ((((h ++ [some (Row.mk (c1) true)]) ++ [some (Row.mk (c2) true)]) ++ [some (Row.mk ([]) true)])).length 0 0 1))) ((.c (.sl h11.length 0 1 1)))) fun p16 => er22_Owns_j0 n a0 ((.c (.p h.length 0))) ((.c (.p ((h ++ [some (Row.mk (c1) true)])).length 0))) p16.1 p16.2) (er22_Owns_j0 n a0 ((.c (.p h.length 0))) ((.c (.p ((h ++ [some (Row.mk (c1) true)])).length 0))) ((.c (.sl ((((h ++ [some (Row.mk (c1) true)]) ++ [some (Row.mk (c2) true)]) ++ [some (Row.mk ([]) true)])).length 0 0 1))) h11)) (bnd (aloadN ((((h ++ [some (Row.mk (c1) true)]) ++ [some (Row.mk (c2) true)]) ++ [some (Row.mk ([]) true)])) 3 ((.c (.p h.length 0)))) fun v17 => bnd (aloadN ((((h ++ [some (Row.mk (c1) true)]) ++ [some (Row.mk (c2) true)]) ++ [some (Row.mk ([]) true)])) 11 ((.c (.p ((h ++ [some (Row.mk (c1) true)])).length 0)))) fun v18 => bnd (S_er22_All [a0, v17, v18] ((((h ++ [some (Row.mk (c1) true)]) ++ [some (Row.mk (c2) true)]) ++ [some (Row.mk ([]) true)]))) fun p19 => bnd (aslL 1 p19.1 none (some (.c (.i .i64 6)))) fun v20 => bnd (S_er22_Some [v20] p19.2) fun p21 => bnd (afAddr ((.c (.p ((h ++ [some (Row.mk (c1) true)])).length 0))) 0) fun v22 => bnd (aload1 p21.2 v22) fun v23 => bnd (abin .eql v23 (.c (.i .i64 1))) fun v24 => bnd (gd v24 true (bnd (aloadN p21.2 3 ((.c (.p h.length 0)))) fun v25 => some (v25, p21.2)) (some (.no, p21.2))) fun p26 => bnd (gd v24 true (bnd (afAddr ((.c (.p ((h ++ [some (Row.mk (c1) true)])).length 0))) 10) fun v27 => some (v27, p26.2)) (some (.no, p26.2))) fun p28 => bnd (gd v24 true (bnd (aload1 p28.2 p28.1) fun v29 => some (v29, p28.2)) (some (.no, p28.2))) fun p30 => bnd (gd v24 true (bnd (S_er21_Data [p26.1, p30.1] p30.2) fun p31 => some (p31.1, p31.2)) (some (.no, p30.2))) fun p32 => bnd (apick v24 p32.1 (.c (.b false))) fun v33 => cnd v33 (bnd (afAddr ((.c (.p ((h ++ [some (Row.mk (c1) true)])).length 0))) 10) fun v34 => bnd (aload1 p32.2 v34) fun v35 => bnd (afill ([.i .i64 0]) [(0, 1, v35)]) fun c36 => bnd (aapp ((p32.2 ++ [some (Row.mk (c36) true)])) 1 p21.1 ((.c (.sl p32.2.length 0 1 1)))) fun p37 => er22_Owns_j1 n p19.1 p37.1 p37.2) (er22_Owns_j1 n p19.1 p21.1 p32.2)) := by kernel_rfl
theorem er22_Owns_j0_eq (n : Nat) (x0 x4 x5 x7 : Val) (h : Heap) : er22_Owns_j0 n x0 x4 x5 x7 h = bnd (aloadN h 3 x4) fun v38 => bnd (aloadN h 11 x5) fun v39 => bnd (S_er22_Buckets [x0, v38, v39] h) fun p40 => bnd (aapp p40.2 1 x7 p40.1) fun p41 => some (p41.1, p41.2) := by kernel_rfl
theorem er22_Owns_j1_eq (n : Nat) (x10 x11 : Val) (h : Heap) : er22_Owns_j1 n x10 x11 h = bnd (aslL 1 x10 (some (.c (.i .i64 6))) none) fun v42 => bnd (S_er22_Some [v42] h) fun p43 => bnd (aapp p43.2 1 x11 p43.1) fun p44 => some (p44.1, p44.2) := by kernel_rfl
theorem K_er22_Owns : FnK Try.prog 46 A_er22_Owns E_er22_Owns R_er22_Owns := .mk' (sound1 S_er22_Index_ok (sound1 S_er22_Buckets_ok (sound1 S_er22_All_ok (sound1 S_er22_Some_ok (sound1 S_er21_Data_ok sound0))))) Try.func46 (by kernel_rfl) (by intro n args h; kernel_rfl)
def S_er22_Owns : Fun := tidy (Lim A_er22_Owns E_er22_Owns)
theorem S_er22_Owns_ok : SOk Try.prog 46 S_er22_Owns := K_er22_Owns.sok
theorem S_er22_Owns_out {n : Nat} {args : List Val} {h h2 : Heap} {v : Val} {sz k : Nat} {cs : List Cell} (he : R_er22_Owns n args (ro h) = some (v, h2)) (ho : Out h.length h2 v sz k cs) (hf : flats cs = true) : S_er22_Owns args h = some (.c (.sl h.length 0 k sz), h ++ [some ⟨cs, true⟩]) := K_er22_Owns.out he ho hf
end Go.Proofs.Ytdgggnlbdoiloaa
end
section
namespace Go.Proofs.Ytdgggnlbdoiloaa
open Go Go.Esc

theorem area_dat {b n i : Int} : decide (areaI b n i = 4) = isDatL b n i := by
  unfold isDatL areaI datF tabF tabN
  cases c : mayL b n with
  | false =>
    rw [if_neg (by simp), Bool.false_and, Bool.false_and]; rfl
  | true =>
    have h := c
    unfold mayL at h
    simp only [Bool.and_eq_true, decide_eq_true_eq] at h
    simp only [cond_true, Bool.true_and, true_and]
    by_cases c1 : 2 + n / 8 ≤ i
    · by_cases c2 : i < b
      · rw [if_pos (by omega), if_neg (by omega), if_neg (by omega), decide_eq_true c1, decide_eq_true c2]; rfl
      · rw [if_neg (by omega), decide_eq_true c1, decide_eq_false c2]; rfl
    · rw [decide_eq_false c1, Bool.false_and]
      split
      · split
        · exact decide_eq_false (by omega)
        · rw [if_pos (by omega)]; rfl
      · rfl

theorem ref21_Data_eq {b n m i : Int} {h : Heap} : S_er21_Data [.a (layC b n m), .c (.i .i64 i)] h = some (.c (.b (isDatL b n i)), h) := by
  have key : ∀ g, ∃ g', R_er21_Data 0 [.a (layC b n m), .c (.i .i64 i)] g = some (.c (.b (isDatL b n i)), g') := by
    intro g
    have l3 : (layC b n m).length = 3 := rfl
    have hA := fun h => ref15_Area_eq (b := b) (n := n) (m := m) (no := i) (h := h)
    rw [R_er21_Data_eq, ← area_dat]
    generalize layC b n m = L at *
    exact ⟨_, by simp only [esc, esh, Nat.reduceAdd, Nat.reduceMul, Nat.reduceLT, l3, hA] <;> rfl⟩
  obtain ⟨g', e⟩ := key (ro h)
  exact S_er21_Data_flat e rfl

theorem ref22_Block_in {h : Heap} {v : Val} {D : Dev} (hv : Has h v 256 D.length (cellsD D)) (hD : okD D) {i : Nat} (hi : i < D.length) : ∃ u, S_er22_Block [v, .c (.i .i64 (i : Int))] h = some (u, h) ∧ Has h u 1 256 (encB D[i]) := by
  have hlen := hv.len
  rcases hv with ⟨_, h0, _⟩ | ⟨id, off, r, rfl, hr, h1, h2, h3, h4⟩
  · omega
  · have hle : off + i * 256 + 256 * 1 ≤ r.cells.length := by omega
    have hlt := rd_lt hr
    refine ⟨.c (.sl id (off + i * 256) 256 1), ?_, ?_⟩
    · have c1 : ¬ (i : Int) < 0 := by omega
      have c2 : ¬ ((D.length : Nat) : Int) ≤ (i : Int) := by omega
      have a1 : aiAddrL 256 (.c (.sl id off D.length 256)) (.c (.i .i64 (i : Int))) = some (.c (.p id (off + i * 256))) := iAddrL_of hi
      have hr2 : rd (ro h ++ [some (Row.mk [] true)]) id = some ⟨r.cells, false⟩ := rd_append (by rw [rd_ro, hr]; rfl)
      have s1 : aslA (ro h ++ [some (Row.mk [] true)]) 256 1 (.c (.p id (off + i * 256))) none none = some (.c (.sl id (off + i * 256) 256 1)) := by
        simp only [aslA, hr2, Option.bind_some, bound]
        rw [if_pos ⟨by omega, by omega, hle⟩]; simp
      refine S_er22_Block_low (n := 0) (h2 := ro h ++ [some (Row.mk [] true)]) ?_ (by simp [Val.low, Cell.low, hlt])
      rw [R_er22_Block_eq]
      simp only [bnd_some, abin_lss, c1, decide_false, gd_ff, hlen, abin_geq, c2, apick_b, cond_false, cnd_f, a1, s1]
    · refine Has.part (cs := r.cells) (rw := r.rw) hr hle ?_ (noX_encB _)
      rw [← cellsD_at hD hi, ← h3, List.drop_take, List.take_take, List.drop_drop]
      congr 1
      omega

theorem dat_in {D : Dev} {n i : Int} (h : isDatL D.length n i = true) : ∃ j : Nat, i = j ∧ j < D.length := by
  unfold isDatL datF tabF tabN at h
  rw [Bool.and_eq_true, Bool.and_eq_true] at h
  have h1 := of_decide_eq_true h.1.2
  have h2 := of_decide_eq_true h.2
  have h3 := h.1.1
  rw [h3] at h1
  simp only [cond_true] at h1
  unfold mayL at h3
  simp only [Bool.and_eq_true, decide_eq_true_eq] at h3
  exact ⟨i.toNat, by omega, by omega⟩

section
variable {v : Val} {D : Dev} {n m k l s p : Int} {d : List Int} {h : Heap}

theorem ref22_Index_eq (hv : Has h v 256 D.length (cellsD D)) (hD : okD D) (hd : d.length = 7) :
    S_er22_Index [v, .a (layC D.length n m), .a (inoC k l s p d)] h = some (.t [.a (encI (idxC D n k d)), .c (.b (idxOk D n k d))], h) := by
  have key : ∀ g, Has g v 256 D.length (cellsD D) → ∃ g', R_er22_Index 0 [v, .a (layC D.length n m), .a (inoC k l s p d)] g = some (.t [.a (encI (idxC D n k d)), .c (.b (idxOk D n k d))], g') := by
    intro g hv
    have l3 : (layC D.length n m).length = 3 := rfl
    have i0 : (inoC k l s p d)[0]? = some (.i .i64 k) := rfl
    have i4 : (inoC k l s p d)[4]? = some (.i .i64 (d.getD 0 0)) := by
      have : (inoC k l s p d)[4]? = (encI d)[0]? := rfl
      rw [this, encI_get, List.getElem?_eq_getElem (by omega), List.getD_eq_getElem?_getD, List.getElem?_eq_getElem (by omega)]; rfl
    have ad : ∀ q, aiAddrA 6 1 (.c (.p q 4)) (.c (.i .i64 0)) = some (.c (.p q 4)) := fun q => rfl
    have hz : (encI (0 :: zI 32)).length = 33 := encX_length (d := 0) zI_length
    have ef : afill (encI (0 :: zI 32)) [] = some (encI (0 :: zI 32)) := rfl
    rw [R_er22_Index_eq, zI_enc]
    unfold idxC idxOk
    by_cases c1 : k = 2
    · have hI := fun h => ref21_Data_eq (b := D.length) (n := n) (m := m) (i := d.getD 0 0) (h := h)
      cases c2 : isDatL D.length n (d.getD 0 0) with
      | false =>
        simp only [c2] at hI
        simp only [Bool.and_false, Bool.false_and, cond_false]
        generalize layC D.length n m = L at *
        generalize inoC k l s p d = I at *
        generalize encI (0 :: zI 32) = z at *
        exact ⟨_, by simp only [esc, esh, Nat.reduceAdd, Nat.reduceMul, Nat.reduceLT, eq_self, i0, c1, l3, ad, i4, hI, hz, ef] <;> rfl⟩
      | true =>
        simp only [c2] at hI
        obtain ⟨j, hj, hjl⟩ := dat_in c2
        obtain ⟨u, hB, hu⟩ := ref22_Block_in (hv.more [some (Row.mk (layC D.length n m) true), some (Row.mk (inoC k l s p d) true), some (Row.mk (encI (0 :: zI 32)) true)]) hD hjl
        rw [← hj] at hB
        have eb : blk D (d.getD 0 0) = D[j] := by rw [hj]; exact blk_at hjl
        have hG := ref19_Get_eq (hD.at hjl) hu
        rw [← eb] at hG
        have hX : (encI (getD (blk D (d.getD 0 0)) :: getT (blk D (d.getD 0 0)) 32)).length = 33 := encX_length (getT_length32 _)
        rw [decide_eq_true c1, Bool.true_and, Bool.true_and]
        have hX2 : (encI (bif goodX (blk D (d.getD 0 0)) then getD (blk D (d.getD 0 0)) :: getT (blk D (d.getD 0 0)) 32 else 0 :: zI 32)).length = 33 := by
          cases goodX (blk D (d.getD 0 0)) with
          | true => exact hX
          | false => exact hz
        generalize encI (bif goodX (blk D (d.getD 0 0)) then getD (blk D (d.getD 0 0)) :: getT (blk D (d.getD 0 0)) 32 else 0 :: zI 32) = x at *
        generalize goodX (blk D (d.getD 0 0)) = gx at *
        clear eb hX
        generalize layC D.length n m = L at *
        generalize inoC k l s p d = I at *
        generalize encI (0 :: zI 32) = z at *
        exact ⟨_, by simp only [esc, esh, Nat.reduceAdd, Nat.reduceMul, Nat.reduceLT, eq_self, i0, c1, l3, ad, i4, hI, hB, hG, hz, hX2, ef] <;> rfl⟩
    · rw [decide_eq_false c1, Bool.false_and, Bool.false_and, cond_false]
      generalize layC D.length n m = L at *
      generalize inoC k l s p d = I at *
      generalize encI (0 :: zI 32) = z at *
      exact ⟨_, by simp only [esc, esh, Nat.reduceAdd, Nat.reduceMul, Nat.reduceLT, eq_self, i0, c1, hz, ef] <;> rfl⟩
  obtain ⟨g', e⟩ := key (ro h) hv.ro
  exact S_er22_Index_flat e (by simp [Val.flat, Cell.flat])

theorem rbucks_loop {g : Heap} {p4 q sid : Nat} {L : List Int} (h1 : rd g p4 = some ⟨layC D.length n m, true⟩) (hL : L.length ≤ 32) : ∀ (e i M id : Nat) (h : Heap) (l : List Int), i + e = L.length → e < M → l.length ≤ i → Low g.length g h → g.length ≤ id → id ≠ sid → rd h sid = some ⟨encI L, true⟩ → rd h id = some ⟨encI l, true⟩ →
    ∃ v' h', er22_Buckets_l0 q M (.c (.p p4 0)) (.c (.sl id 0 l.length 1)) (.c (.sl sid 0 L.length 1)) (.c (.i .i64 (i : Int))) h = some (v', h') ∧ Out g.length h' v' 1 (l ++ (L.drop i).filter (isDatL D.length n)).length (encI (l ++ (L.drop i).filter (isDatL D.length n)))
  | e, i, 0, id, h, l, _, hm, _, _, _, _, _, _ => by omega
  | 0, i, M + 1, id, h, l, hi, hm, hl, hlow, hid, hne, hs, hr => by
    have e0 : i = L.length := by omega
    subst e0
    have c0 : ¬ ((L.length : Nat) : Int) < (L.length : Nat) := by omega
    have el0 : l ++ [] = l := List.append_nil l
    rw [er22_Buckets_l0_eq, List.drop_of_length_le (Nat.le_refl _), List.filter_nil, el0]
    exact ⟨_, _, by simp only [esc, c0] <;> rfl, by rw [encI_length, Nat.mul_one], id, rfl, hid, hr⟩
  | e + 1, i, M + 1, id, h, l, hi, hm, hl, hlow, hid, hne, hs, hr => by
    have hil : i < L.length := by omega
    have c0 : (i : Int) < (L.length : Nat) := by omega
    have ad : aiAddrL 1 (.c (.sl sid 0 L.length 1)) (.c (.i .i64 (i : Int))) = some (.c (.p sid i)) := by rw [iAddrL_of hil]; simp
    have l1 : aload1 h (.c (.p sid i)) = some (.c (.i .i64 L[i])) := load1_of hs (by rw [encI_get, List.getElem?_eq_getElem hil]; rfl) rfl
    have l3 := loadAll (n := 3) (hlow.rd h1) rfl
    have hI := ref21_Data_eq (b := D.length) (n := n) (m := m) (i := L[i]) (h := h)
    have w1 := wi_succ (show i + 1 < 9223372036854775808 by omega)
    rw [er22_Buckets_l0_eq, List.drop_eq_getElem_cons hil]
    cases c : isDatL D.length n L[i] with
    | false =>
      rw [c] at hI
      obtain ⟨v', h', f1, f2⟩ := rbucks_loop (q := q) h1 hL e (i + 1) M id h l (by omega) (by omega) (by omega) hlow hid hne hs hr
      rw [List.filter_cons_of_neg (by rw [c]; simp)]
      refine ⟨v', h', ?_, f2⟩
      simp only [bnd_some, alen_sl, abin_lss, c0, decide_true, cnd_t, ad, l1, l3, List.append_nil, hI, cnd_f, er22_Buckets_j0_eq, abin_add, w1]
      exact f1
    | true =>
      rw [c] at hI
      have ef : afill [Cell.i .i64 0] [(0, 1, .c (.i .i64 L[i]))] = some (encI [L[i]]) := rfl
      obtain ⟨h2, a1, a2, a3, a4⟩ := pushK2 (n := l.length) (sz := 1) (ys := encI [L[i]]) hr (by rw [encI_length, Nat.mul_one]) rfl (by omega) (by omega)
      rw [← encI_append] at a2
      have el : (l ++ [L[i]]).length = l.length + 1 := by simp
      have hlt := rd_lt hs
      obtain ⟨v', h', f1, f2⟩ := rbucks_loop (q := q) h1 hL e (i + 1) M (h.length + 1) h2 (l ++ [L[i]]) (by omega) (by omega) (by rw [el]; omega) (hlow.trans (a4 _ hid (by have := hlow.2.1; omega))) (by have := hlow.2.1; omega) (by omega) (a3 _ _ (Ne.symm hne) hs) a2
      rw [List.filter_cons_of_pos (by rw [c])]
      rw [List.append_assoc, List.singleton_append] at f2
      rw [el] at f1
      refine ⟨v', h', ?_, f2⟩
      simp only [bnd_some, alen_sl, abin_lss, c0, decide_true, cnd_t, ad, l1, l3, List.append_nil, hI, ef, a1, er22_Buckets_j0_eq, abin_add, w1]
      exact f1

theorem ref22_Buckets_eq (hv : Has h v 256 D.length (cellsD D)) (hD : okD D) (hd : d.length = 7) :
    S_er22_Buckets [v, .a (layC D.length n m), .a (inoC k l s p d)] h = some (.c (.sl h.length 0 (bukF D n k d).length 1), h ++ [some ⟨encI (bukF D n k d), true⟩]) := by
  have key : ∀ g, Has g v 256 D.length (cellsD D) → ∃ v' g', R_er22_Buckets 33 [v, .a (layC D.length n m), .a (inoC k l s p d)] g = some (v', g') ∧ Out g.length g' v' 1 (bukF D n k d).length (encI (bukF D n k d)) := by
    intro g hv
    have hIl : (inoC k l s p d).length = 11 := by simp [inoC, encI_length, hd]
    have l11 : ldN (some (Row.mk (inoC k l s p d) true)) 0 11 = some (.a (inoC k l s p d)) := ldN_all hIl
    have l3 : (layC D.length n m).length = 3 := rfl
    have hz : (encI (0 :: zI 32)).length = 33 := encX_length (d := 0) zI_length
    have hX := idxC_length D n k d
    have hI := ref22_Index_eq (n := n) (m := m) (k := k) (l := l) (s := s) (p := p) (d := d) (hv.more [some (Row.mk (layC D.length n m) true), some (Row.mk (inoC k l s p d) true), some (Row.mk [] true), some (Row.mk [] true)]) hD hd
    rw [R_er22_Buckets_eq, zI_enc]
    cases c : idxOk D n k d with
    | false =>
      rw [c] at hI
      have eb : bukF D n k d = [] := by unfold bukF; rw [c]; rfl
      rw [eb]
      generalize encI (idxC D n k d) = x at *
      generalize encI (0 :: zI 32) = z at *
      refine ⟨.c (.sl (g.length + 3) 0 0 1), g ++ [some (Row.mk (layC D.length n m) true), some (Row.mk (inoC k l s p d) true), some (Row.mk [] true), some (Row.mk [] true), some (Row.mk x true)], ?_, rfl, g.length + 3, rfl, by omega, by simp [encI]⟩
      generalize layC D.length n m = V at *
      generalize inoC k l s p d = I at *
      simp only [esc, esh, Nat.reduceAdd, Nat.reduceMul, Nat.reduceLT, l3, l11, hI, hz, hX]
    | true =>
      rw [c] at hI
      have eb : bukF D n k d = (bucL (getT (blk D (d.getD 0 0)) 32) (manyX (getD (blk D (d.getD 0 0))))).filter (isDatL D.length n) := by unfold bukF; rw [c]; rfl
      have ex : idxC D n k d = getD (blk D (d.getD 0 0)) :: getT (blk D (d.getD 0 0)) 32 := by unfold idxC; rw [c]; rfl
      rw [ex] at hI hX
      have hB := fun h => ref19_Buckets_eq (d := getD (blk D (d.getD 0 0))) (h := h) (getT_length32 (blk D (d.getD 0 0)))
      have hBl := bucL_length (getT (blk D (d.getD 0 0)) 32) (manyX (getD (blk D (d.getD 0 0))))
      have hml := manyX_le (getD (blk D (d.getD 0 0)))
      rw [eb]
      generalize bucL (getT (blk D (d.getD 0 0)) 32) (manyX (getD (blk D (d.getD 0 0)))) = L at *
      generalize encI (getD (blk D (d.getD 0 0)) :: getT (blk D (d.getD 0 0)) 32) = x at *
      generalize encI (0 :: zI 32) = z at *
      obtain ⟨v', h', f1, f2⟩ := rbucks_loop (D := D) (n := n) (m := m) (g := g ++ [some (Row.mk (layC D.length n m) true), some (Row.mk (inoC k l s p d) true), some (Row.mk [] true)]) (p4 := g.length) (q := 33) (sid := g.length + 5) (L := L) (by simp) (by omega) L.length 0 33 (g.length + 3) (g ++ [some (Row.mk (layC D.length n m) true), some (Row.mk (inoC k l s p d) true), some (Row.mk [] true), some (Row.mk [] true), some (Row.mk x true), some (Row.mk (encI L) true)]) [] (by omega) (by omega) (by simp)
        (by
          have := (Low.refl (h := g ++ [some (Row.mk (layC D.length n m) true), some (Row.mk (inoC k l s p d) true), some (Row.mk [] true)]) (Nat.le_refl _)).new [some (Row.mk [] true), some (Row.mk x true), some (Row.mk (encI L) true)]
          simpa using this) (by simp) (by omega) (by simp) (by simp [encI])
      rw [List.nil_append, List.drop_zero] at f2
      rw [List.length_nil] at f1
      refine ⟨v', h', ?_, f2.1, ?_⟩
      · generalize layC D.length n m = V at *
        generalize inoC k l s p d = I at *
        simp only [esc, esh, Nat.reduceAdd, Nat.reduceMul, Nat.reduceLT, l3, l11, hI, hz, hX, hB]
        exact f1
      · obtain ⟨id, e, hb, hr⟩ := f2.2
        exact ⟨id, e, by simp at hb; omega, hr⟩
  obtain ⟨v', g', e, ho⟩ := key (ro h) hv.ro
  exact S_er22_Buckets_out e (by simpa [ro_length] using ho) (by simp)

def allP (D : Dev) (n : Int) (d : List Int) (i : Nat) : List Int := (List.range i).map (datF1 D n d) ++ zI (134 - i)
theorem allP_length {i : Nat} (hi : i ≤ 134) : (allP D n d i).length = 134 := by simp [allP, zI]; omega
theorem allP_set {i : Nat} (hi : i < 134) (x : Int) (hx : datF1 D n d i = x) : (encI (allP D n d i)).set i (.i .i64 x) = encI (allP D n d (i + 1)) := by
  rw [encI_set]
  congr 1
  unfold allP
  rw [List.set_append_right _ _ (by simp), List.length_map, List.length_range, Nat.sub_self, show 134 - i = 134 - (i + 1) + 1 by omega, List.range_succ, List.map_append, List.map_singleton, hx, List.append_assoc]
  rfl
theorem allP_skip {i : Nat} (hi : i < 134) (hx : datF1 D n d i = 0) : allP D n d i = allP D n d (i + 1) := by
  unfold allP
  rw [show 134 - i = 134 - (i + 1) + 1 by omega, List.range_succ, List.map_append, List.map_singleton, hx, List.append_assoc]
  rfl
theorem dat0 {b n : Int} : isDatL b n 0 = false := by
  unfold isDatL datF tabF tabN
  cases c : mayL b n with
  | false => rfl
  | true =>
    have h := c
    unfold mayL at h
    simp only [Bool.and_eq_true, decide_eq_true_eq] at h
    simp only [cond_true, Bool.true_and]
    rw [decide_eq_false (by omega), Bool.false_and]

theorem fldsP_at {b : List UInt8} {i : Nat} : ∀ N, i < N → (fldsP b N)[i]? = some (ptP b i)
  | 0, h => by omega
  | N + 1, h => by
    rw [fldsP]
    by_cases c : i < N
    · rw [List.getElem?_append_left (by rw [fldsP_length]; exact c)]
      exact fldsP_at N c
    · have : i = N := by omega
      subst this
      rw [List.getElem?_append_right (by rw [fldsP_length]; exact Nat.le_refl _), fldsP_length, Nat.sub_self]
      rfl

theorem all_l1 {g : Heap} {p4 q id sid : Nat} (h4 : rd g p4 = some ⟨layC D.length n m, true⟩) (hid : g.length ≤ id) (hne : sid ≠ id) (hdat : isDatL D.length n (d.getD 6 0) = true) : ∀ (e i M : Nat) (h : Heap), i + e = 128 → e < M → Low g.length g h → rd h id = some ⟨encI (allP D n d (6 + i)), true⟩ → rd h sid = some ⟨encI (fldsP (blk D (d.getD 6 0)) 128), true⟩ →
    ∃ h', er22_All_l1 q M (.c (.p p4 0)) (.c (.sl id 0 134 1)) (.c (.sl sid 0 128 1)) (.c (.i .i64 (i : Int))) h = some (.c (.sl id 0 134 1), h') ∧ rd h' id = some ⟨encI (allP D n d 134), true⟩
  | e, i, 0, h, _, hm, _, _, _ => by omega
  | 0, i, M + 1, h, hi, hm, hlow, hr, hs => by
    have e0 : i = 128 := by omega
    subst e0
    have c0 : ¬ ((128 : Nat) : Int) < 128 := by omega
    rw [er22_All_l1_eq]
    exact ⟨h, by simp only [bnd_some, abin_lss, c0, decide_false, cnd_f, er22_All_j1_eq], hr⟩
  | e + 1, i, M + 1, h, hi, hm, hlow, hr, hs => by
    have c0 : (i : Int) < 128 := by omega
    have l3 := loadAll (n := 3) (hlow.rd h4) rfl
    have ad : aiAddrL 1 (.c (.sl sid 0 128 1)) (.c (.i .i64 (i : Int))) = some (.c (.p sid i)) := by rw [iAddrL_of (by omega)]; simp
    have l1 : aload1 h (.c (.p sid i)) = some (.c (.i .i64 (ptP (blk D (d.getD 6 0)) i))) := load1_of hs (by rw [encI_get, fldsP_at 128 (by omega)]; rfl) rfl
    have hI := ref21_Data_eq (b := D.length) (n := n) (m := m) (i := ptP (blk D (d.getD 6 0)) i) (h := h)
    have w1 := wi_succ (show i + 1 < 9223372036854775808 by omega)
    have w6 : IntKind.wrap .i64 (6 + (i : Int)) = ((6 + i : Nat) : Int) := by rw [wrap_i64 (by omega) (by omega)]; omega
    have er : rawF D n d (6 + i) = ptP (blk D (d.getD 6 0)) i := by
      unfold rawF
      rw [if_neg (by omega), hdat, cond_true, show 6 + i - 6 = i by omega]
    rw [er22_All_l1_eq]
    cases c : isDatL D.length n (ptP (blk D (d.getD 6 0)) i) with
    | false =>
      rw [c] at hI
      have ex : datF1 D n d (6 + i) = 0 := by unfold datF1; rw [er, c]; rfl
      rw [allP_skip (by omega) ex] at hr
      obtain ⟨h', f1, f2⟩ := all_l1 (q := q) h4 hid hne hdat e (i + 1) M h (by omega) (by omega) hlow hr hs
      refine ⟨h', ?_, f2⟩
      simp only [bnd_some, abin_lss, c0, decide_true, cnd_t, l3, ad, l1, List.append_nil, hI, cnd_f, er22_All_j2_eq, abin_add, w1]
      exact f1
    | true =>
      rw [c] at hI
      have ex : datF1 D n d (6 + i) = ptP (blk D (d.getD 6 0)) i := by unfold datF1; rw [er, c]; rfl
      have ad2 : aiAddrL 1 (.c (.sl id 0 134 1)) (.c (.i .i64 ((6 + i : Nat) : Int))) = some (.c (.p id (6 + i))) := by rw [iAddrL_of (by omega)]; simp
      have s1 := store1_of (x := .i .i64 (ptP (blk D (d.getD 6 0)) i)) (off := 6 + i) hr (by rw [encI_length, allP_length (by omega)]; omega)
      rw [allP_set (by omega) _ ex] at s1
      have hlt := rd_lt hr
      obtain ⟨h', f1, f2⟩ := all_l1 (q := q) h4 hid hne hdat e (i + 1) M (h.set id (some ⟨encI (allP D n d (6 + i + 1)), true⟩)) (by omega) (by omega) (hlow.set hid _) (rd_set_same hlt) (by rw [rd_set_other (Ne.symm hne)]; exact hs)
      refine ⟨h', ?_, f2⟩
      simp only [bnd_some, abin_lss, c0, decide_true, cnd_t, l3, ad, l1, List.append_nil, hI, abin_add, w6, ad2, s1, er22_All_j2_eq, w1]
      exact f1

theorem all_l0 {g : Heap} {p4 q id : Nat} (hD : okD D) (hd : d.length = 7) (hv : Has g v 256 D.length (cellsD D)) (h4 : rd g p4 = some ⟨layC D.length n m, true⟩) (h5 : rd g (p4 + 1) = some ⟨inoC k l s p d, true⟩) (hid : g.length ≤ id) (hq : 129 ≤ q) : ∀ (e i M : Nat) (h : Heap), i + e = 6 → e < M → Low g.length g h → rd h id = some ⟨encI (allP D n d i), true⟩ →
    ∃ h', er22_All_l0 q M v (.c (.p p4 0)) (.c (.p (p4 + 1) 0)) (.c (.sl id 0 134 1)) (.c (.i .i64 (i : Int))) h = some (.c (.sl id 0 134 1), h') ∧ rd h' id = some ⟨encI (allP D n d 134), true⟩
  | e, i, 0, h, _, hm, _, _ => by omega
  | 0, i, M + 1, h, hi, hm, hlow, hr => by
    have e0 : i = 6 := by omega
    subst e0
    have c0 : ¬ ((6 : Nat) : Int) < 6 := by omega
    have l3 := loadAll (n := 3) (hlow.rd h4) rfl
    have fa : afAddr (.c (.p (p4 + 1) 0)) 10 = some (.c (.p (p4 + 1) 10)) := by simp [afAddr]
    have i10 : aload1 h (.c (.p (p4 + 1) 10)) = some (.c (.i .i64 (d.getD 6 0))) := by
      refine load1_of (hlow.rd h5) ?_ rfl
      have : (inoC k l s p d)[10]? = (encI d)[6]? := rfl
      rw [this, encI_get, List.getElem?_eq_getElem (by omega), List.getD_eq_getElem?_getD, List.getElem?_eq_getElem (by omega)]; rfl
    have hI := ref21_Data_eq (b := D.length) (n := n) (m := m) (i := d.getD 6 0) (h := h)
    have hvh := hv.since hlow
    rw [er22_All_l0_eq]
    cases c : isDatL D.length n (d.getD 6 0) with
    | false =>
      rw [c] at hI
      have ex : ∀ i, 6 ≤ i → datF1 D n d i = 0 := fun i hi => by
        unfold datF1 rawF
        rw [if_neg (by omega), c, cond_false, dat0]; rfl
      have ea : allP D n d 6 = allP D n d 134 := by
        have : ∀ e i, 6 ≤ i → i + e = 134 → allP D n d i = allP D n d 134 := by
          intro e
          induction e with
          | zero => intro i _ h; rw [Nat.add_zero] at h; rw [h]
          | succ e ih => intro i h6 h; rw [allP_skip (by omega) (ex i h6)]; exact ih (i + 1) (by omega) (by omega)
        exact this 128 6 (by omega) rfl
      rw [ea] at hr
      exact ⟨h, by simp only [bnd_some, abin_lss, c0, decide_false, cnd_f, l3, fa, i10, hI, er22_All_j1_eq], hr⟩
    | true =>
      rw [c] at hI
      obtain ⟨j, hj, hjl⟩ := dat_in c
      obtain ⟨u, hB, hu⟩ := ref22_Block_in hvh hD hjl
      rw [← hj] at hB
      have eb : blk D (d.getD 6 0) = D[j] := by rw [hj]; exact blk_at hjl
      have hN := ref20_Numbers_eq hu (hD.at hjl)
      rw [← eb] at hN
      have hlt := rd_lt hr
      obtain ⟨h', f1, f2⟩ := all_l1 (D := D) (n := n) (m := m) (d := d) (g := g) (p4 := p4) (q := q) (id := id) (sid := h.length) h4 hid (by omega) c 128 0 q (h ++ [some ⟨encI (fldsP (blk D (d.getD 6 0)) 128), true⟩]) (by omega) (by omega) (hlow.new _) (rd_append hr) rd_new
      refine ⟨h', ?_, f2⟩
      simp only [bnd_some, abin_lss, c0, decide_false, cnd_f, l3, fa, i10, hI, cnd_t, hB, hN]
      exact f1
  | e + 1, i, M + 1, h, hi, hm, hlow, hr => by
    have c0 : (i : Int) < 6 := by omega
    have l3 := loadAll (n := 3) (hlow.rd h4) rfl
    have fa : afAddr (.c (.p (p4 + 1) 0)) 4 = some (.c (.p (p4 + 1) 4)) := by simp [afAddr]
    have ad := iAddrA_of (k := .i64) (id := p4 + 1) (off := 4) (sz := 1) (j := i) (n := 6) (by omega)
    rw [Nat.mul_one] at ad
    have ia : aload1 h (.c (.p (p4 + 1) (4 + i))) = some (.c (.i .i64 (d.getD i 0))) := by
      refine load1_of (hlow.rd h5) ?_ rfl
      have : (inoC k l s p d)[4 + i]? = (encI d)[i]? := by rw [Nat.add_comm]; rfl
      rw [this, encI_get, List.getElem?_eq_getElem (by omega), List.getD_eq_getElem?_getD, List.getElem?_eq_getElem (by omega)]; rfl
    have hI := ref21_Data_eq (b := D.length) (n := n) (m := m) (i := d.getD i 0) (h := h)
    have w1 := wi_succ (show i + 1 < 9223372036854775808 by omega)
    have er : rawF D n d i = d.getD i 0 := by unfold rawF; rw [if_pos (by omega)]
    rw [er22_All_l0_eq]
    cases c : isDatL D.length n (d.getD i 0) with
    | false =>
      rw [c] at hI
      have ex : datF1 D n d i = 0 := by unfold datF1; rw [er, c]; rfl
      rw [allP_skip (by omega) ex] at hr
      obtain ⟨h', f1, f2⟩ := all_l0 (q := q) hD hd hv h4 h5 hid hq e (i + 1) M h (by omega) (by omega) hlow hr
      refine ⟨h', ?_, f2⟩
      simp only [bnd_some, abin_lss, c0, decide_true, cnd_t, l3, fa, ad, ia, List.append_nil, hI, cnd_f, er22_All_j0_eq, abin_add, w1]
      exact f1
    | true =>
      rw [c] at hI
      have ex : datF1 D n d i = d.getD i 0 := by unfold datF1; rw [er, c]; rfl
      have ad2 : aiAddrL 1 (.c (.sl id 0 134 1)) (.c (.i .i64 (i : Int))) = some (.c (.p id i)) := by rw [iAddrL_of (by omega)]; simp
      have s1 := store1_of (x := .i .i64 (d.getD i 0)) (off := i) hr (by rw [encI_length, allP_length (by omega)]; omega)
      rw [allP_set (by omega) _ ex] at s1
      have hlt := rd_lt hr
      obtain ⟨h', f1, f2⟩ := all_l0 (q := q) hD hd hv h4 h5 hid hq e (i + 1) M (h.set id (some ⟨encI (allP D n d (i + 1)), true⟩)) (by omega) (by omega) (hlow.set hid _) (rd_set_same hlt)
      refine ⟨h', ?_, f2⟩
      simp only [bnd_some, abin_lss, c0, decide_true, cnd_t, l3, fa, ad, ia, List.append_nil, hI, ad2, s1, er22_All_j0_eq, abin_add, w1]
      exact f1

def allF (D : Dev) (n k : Int) (d : List Int) : List Int := if k = 1 then allP D n d 134 else zI 134
theorem allF_length : (allF D n k d).length = 134 := by
  unfold allF
  split
  · exact allP_length (Nat.le_refl _)
  · exact zI_length

theorem ref22_All_eq (hv : Has h v 256 D.length (cellsD D)) (hD : okD D) (hd : d.length = 7) :
    S_er22_All [v, .a (layC D.length n m), .a (inoC k l s p d)] h = some (.c (.sl h.length 0 134 1), h ++ [some ⟨encI (allF D n k d), true⟩]) := by
  have key : ∀ g, Has g v 256 D.length (cellsD D) → ∃ v' g', R_er22_All 129 [v, .a (layC D.length n m), .a (inoC k l s p d)] g = some (v', g') ∧ Out g.length g' v' 1 134 (encI (allF D n k d)) := by
    intro g hv
    have mk : amkn (.c (.i .i64 134)) (.c (.i .i64 134)) = some 134 := rfl
    have i0 : (inoC k l s p d)[0]? = some (.i .i64 k) := rfl
    have rz : rows [Cell.i .i64 0] 134 = encI (zI 134) := by decide +kernel
    rw [R_er22_All_eq]
    unfold allF
    by_cases c : k = 1
    · rw [if_pos c]
      obtain ⟨h', f1, f2⟩ := all_l0 (D := D) (n := n) (m := m) (d := d) (v := v) (k := k) (l := l) (s := s) (p := p) (g := g ++ [some (Row.mk (layC D.length n m) true), some (Row.mk (inoC k l s p d) true), some (Row.mk [] true)]) (p4 := g.length) (q := 129) (id := g.length + 3) hD hd (hv.more _) (by simp) (by simp) (by simp) (by omega) 6 0 129 (g ++ [some (Row.mk (layC D.length n m) true), some (Row.mk (inoC k l s p d) true), some (Row.mk [] true), some (Row.mk (encI (zI 134)) true)]) (by omega) (by omega)
        (by
          have := (Low.refl (h := g ++ [some (Row.mk (layC D.length n m) true), some (Row.mk (inoC k l s p d) true), some (Row.mk [] true)]) (Nat.le_refl _)).new [some (Row.mk (encI (zI 134)) true)]
          simpa using this) (by simp [allP])
      refine ⟨_, h', ?_, by rw [encI_length, allP_length (Nat.le_refl _)], g.length + 3, rfl, by omega, f2⟩
      generalize layC D.length n m = V at *
      generalize inoC k l s p d = I at *
      generalize encI (zI 134) = z at *
      simp only [esc, esh, Nat.reduceAdd, Nat.reduceMul, Nat.reduceLT, eq_self, mk, rz, i0, c]
      exact f1
    · rw [if_neg c]
      refine ⟨.c (.sl (g.length + 3) 0 134 1), g ++ [some (Row.mk (layC D.length n m) true), some (Row.mk (inoC k l s p d) true), some (Row.mk [] true), some (Row.mk (encI (zI 134)) true)], ?_, by rw [encI_length, zI_length], g.length + 3, rfl, by omega, by simp⟩
      generalize layC D.length n m = V at *
      generalize inoC k l s p d = I at *
      generalize encI (zI 134) = z at *
      simp only [esc, esh, Nat.reduceAdd, Nat.reduceMul, Nat.reduceLT, eq_self, mk, rz, i0, c]
  obtain ⟨v', g', e, ho⟩ := key (ro h) hv.ro
  exact S_er22_All_out e (by simpa [ro_length] using ho) (by simp)
end

end Go.Proofs.Ytdgggnlbdoiloaa
end
section
namespace Go.Proofs.Ytdgggnlbdoiloaa
open Go Go.Esc

def nzF (l : List Int) : List Int := l.filter fun x => !decide (x = 0)
theorem nzF_length (l : List Int) : (nzF l).length ≤ l.length := List.length_filter_le _ _

theorem some_loop {v : Val} {nv : Nat} {L : List Int} {g : Heap} {q : Nat} (hv : Has g v 1 nv (encI L)) (hL : L.length ≤ 1000) : ∀ (e i M id : Nat) (h : Heap) (l : List Int), i + e = L.length → e < M → l.length ≤ i → Low g.length g h → g.length ≤ id → rd h id = some ⟨encI l, true⟩ →
    ∃ v' h', er22_Some_l0 q M v (.c (.sl id 0 l.length 1)) (.c (.i .i64 (i : Int))) h = some (v', h') ∧ Out g.length h' v' 1 (l ++ nzF (L.drop i)).length (encI (l ++ nzF (L.drop i)))
  | e, i, 0, id, h, l, _, hm, _, _, _, _ => by omega
  | 0, i, M + 1, id, h, l, hi, hm, hl, hlow, hid, hr => by
    have hnv : L.length = nv := by simpa [encI_length] using hv.length
    have e0 : i = L.length := by omega
    have c0 : ¬ (i : Int) < (nv : Nat) := by omega
    have el0 : l ++ nzF (L.drop i) = l := by rw [List.drop_of_length_le (by omega)]; exact List.append_nil l
    rw [er22_Some_l0_eq, el0]
    exact ⟨_, _, by simp only [bnd_some, (hv.since hlow).len, abin_lss, c0, decide_false, cnd_f] <;> rfl, by rw [encI_length, Nat.mul_one], id, rfl, hid, hr⟩
  | e + 1, i, M + 1, id, h, l, hi, hm, hl, hlow, hid, hr => by
    have hnv : L.length = nv := by simpa [encI_length] using hv.length
    have hil : i < L.length := by omega
    have c0 : (i : Int) < (nv : Nat) := by omega
    have hvh := hv.since hlow
    have hlen := hvh.len
    obtain ⟨a, a1, a2⟩ : ∃ a, aiAddrL 1 v (.c (.i .i64 (i : Int))) = some a ∧ aload1 h a = some (.c (.i .i64 L[i])) := by
      obtain ⟨jd, off, rfl, _, h1, _⟩ := hvh.sl (by omega)
      exact ⟨.c (.p jd (off + i)), by rw [iAddrL_of (by omega)]; simp, h1 i (.i .i64 L[i]) (by rw [encI_get, List.getElem?_eq_getElem hil]; rfl)⟩
    have w1 := wi_succ (show i + 1 < 9223372036854775808 by omega)
    rw [er22_Some_l0_eq]
    by_cases c : L[i] = 0
    · obtain ⟨v', h', f1, f2⟩ := some_loop (q := q) hv hL e (i + 1) M id h l (by omega) (by omega) (by omega) hlow hid hr
      have ez : nzF (L.drop i) = nzF (L.drop (i + 1)) := by
        unfold nzF
        rw [List.drop_eq_getElem_cons hil, List.filter_cons_of_neg (by rw [c]; simp)]
      rw [ez]
      refine ⟨v', h', ?_, f2⟩
      simp only [bnd_some, hlen, abin_lss, c0, decide_true, cnd_t, a1, a2, abin_neq, c, ne_eq, eq_self, not_true_eq_false, decide_false, cnd_f, er22_Some_j0_eq, abin_add, w1]
      exact f1
    · have ef : afill [Cell.i .i64 0] [(0, 1, .c (.i .i64 L[i]))] = some (encI [L[i]]) := rfl
      obtain ⟨h2, p1, p2, p3, p4, p5⟩ := push (n := l.length) (sz := 1) (ys := encI [L[i]]) hlow hr (by rw [encI_length, Nat.mul_one]) hid rfl (by omega) (by omega)
      rw [← encI_append] at p2
      have el : (l ++ [L[i]]).length = l.length + 1 := by simp
      obtain ⟨v', h', f1, f2⟩ := some_loop (q := q) hv hL e (i + 1) M (h.length + 1) h2 (l ++ [L[i]]) (by omega) (by omega) (by rw [el]; omega) p3 p4 p2
      have ez : nzF (L.drop i) = L[i] :: nzF (L.drop (i + 1)) := by
        unfold nzF
        rw [List.drop_eq_getElem_cons hil, List.filter_cons_of_pos (by simp [c])]
      rw [List.append_assoc, List.singleton_append] at f2
      rw [el] at f1
      rw [ez]
      refine ⟨v', h', ?_, f2⟩
      simp only [bnd_some, hlen, abin_lss, c0, decide_true, cnd_t, a1, a2, abin_neq, c, ne_eq, not_false_eq_true, ef, p1, er22_Some_j0_eq, abin_add, w1]
      exact f1

theorem ref22_Some_eq {v : Val} {nv : Nat} {L : List Int} {h : Heap} (hv : Has h v 1 nv (encI L)) (hL : L.length ≤ 1000) : S_er22_Some [v] h = some (.c (.sl h.length 0 (nzF L).length 1), h ++ [some ⟨encI (nzF L), true⟩]) := by
  have key : ∀ g, Has g v 1 nv (encI L) → ∃ v' g', R_er22_Some (L.length + 1) [v] g = some (v', g') ∧ Out g.length g' v' 1 (nzF L).length (encI (nzF L)) := by
    intro g hv
    obtain ⟨v', h', f1, f2⟩ := some_loop (q := L.length + 1) hv hL L.length 0 (L.length + 1) (g.length + 1) (g ++ [some (Row.mk [] true), some (Row.mk [] true)]) [] (by omega) (by omega) (by simp) ((Low.refl (Nat.le_refl _)).new _) (by omega) (by simp [encI])
    rw [List.nil_append, List.drop_zero] at f2
    rw [List.length_nil] at f1
    rw [R_er22_Some_eq]
    exact ⟨v', h', by simp only [esc]; exact f1, f2⟩
  obtain ⟨v', g', e, ho⟩ := key (ro h) hv.ro
  exact S_er22_Some_out e (by simpa [ro_length] using ho) (by simp)

theorem each_nz {D : Dev} {n : Int} {d : List Int} : ∀ (e j : Nat), j + e ≤ 134 → (eachF (atF D n 1 d) e j).map (·.2) = nzF ((List.range' j e).map (datF1 D n d))
  | 0, j, _ => rfl
  | e + 1, j, h => by
    have ea : atF D n 1 d (j : Int) = datF1 D n d j := by unfold atF; rw [if_pos (by omega), Int.toNat_natCast]
    have ih := each_nz (D := D) (n := n) (d := d) e (j + 1) (by omega)
    rw [eachF, List.range'_succ, List.map_cons, ea]
    unfold nzF at ih ⊢
    by_cases c : datF1 D n d j = 0
    · rw [if_pos c, List.filter_cons_of_neg (by rw [c]; simp)]; exact ih
    · rw [if_neg c, List.map_cons, List.filter_cons_of_pos (by simp [c]), ih]
theorem nz_low {D : Dev} {n k : Int} {d : List Int} : nzF ((allF D n k d).take 6) = (eachF (atF D n k d) 6 0).map (·.2) := by
  unfold allF
  by_cases hk : k = 1
  · rw [if_pos hk, hk, each_nz 6 0 (by omega)]
    unfold allP
    have e0 : zI (134 - 134) = [] := rfl
    have e6 : (List.range 134).take 6 = List.range' 0 6 := by decide +kernel
    rw [e0, List.append_nil, ← List.map_take, e6]
  · rw [if_neg hk, eachF_none (fun j => by unfold atF; rw [if_neg (by omega)])]
    decide +kernel
theorem nz_high {D : Dev} {n k : Int} {d : List Int} : nzF ((allF D n k d).drop 6) = (eachF (atF D n k d) 128 6).map (·.2) := by
  unfold allF
  by_cases hk : k = 1
  · rw [if_pos hk, hk, each_nz 128 6 (by omega)]
    unfold allP
    have e0 : zI (134 - 134) = [] := rfl
    have e6 : (List.range 134).drop 6 = List.range' 6 128 := by decide +kernel
    rw [e0, List.append_nil, ← List.map_drop, e6]
  · rw [if_neg hk, eachF_none (fun j => by unfold atF; rw [if_neg (by omega)])]
    decide +kernel

section
variable {v : Val} {D : Dev} {n m k l s p : Int} {d : List Int} {h : Heap}

theorem bukF_length : (bukF D n k d).length ≤ 32 := by
  unfold bukF
  cases idxOk D n k d with
  | false => simp
  | true =>
    have h1 := List.length_filter_le (isDatL D.length n) (bucL (getT (blk D (d.getD 0 0)) 32) (manyX (getD (blk D (d.getD 0 0)))))
    have h2 := bucL_length (getT (blk D (d.getD 0 0)) 32) (manyX (getD (blk D (d.getD 0 0))))
    have h3 := manyX_le (getD (blk D (d.getD 0 0)))
    simp only [cond_true]
    omega

theorem rowns_dir {g : Heap} (hv : Has g v 256 D.length (cellsD D)) (hD : okD D) (hd : d.length = 7) (hk : k = 2) :
    ∃ v' g', R_er22_Owns 0 [v, .a (layC D.length n m), .a (inoC k l s p d)] g = some (v', g') ∧ Out g.length g' v' 1 (ownsF D n k d).length (encI (ownsF D n k d)) := by
  have hIl : (inoC k l s p d).length = 11 := by simp [inoC, encI_length, hd]
  have l11 : ldN (some (Row.mk (inoC k l s p d) true)) 0 11 = some (.a (inoC k l s p d)) := ldN_all hIl
  have l3 : (layC D.length n m).length = 3 := rfl
  have i0 : (inoC k l s p d)[0]? = some (.i .i64 k) := rfl
  have i4 : (inoC k l s p d)[4]? = some (.i .i64 (d.getD 0 0)) := by
    have : (inoC k l s p d)[4]? = (encI d)[0]? := rfl
    rw [this, encI_get, List.getElem?_eq_getElem (by omega), List.getD_eq_getElem?_getD, List.getElem?_eq_getElem (by omega)]; rfl
  have ad : ∀ q, aiAddrA 6 1 (.c (.p q 4)) (.c (.i .i64 0)) = some (.c (.p q 4)) := fun q => rfl
  have hz : (encI (0 :: zI 32)).length = 33 := encX_length (d := 0) zI_length
  have hX := idxC_length D n k d
  have hI := ref22_Index_eq (n := n) (m := m) (k := k) (l := l) (s := s) (p := p) (d := d) (hv.more [some (Row.mk (layC D.length n m) true), some (Row.mk (inoC k l s p d) true), some (Row.mk [] true), some (Row.mk [] true)]) hD hd
  have hbl := bukF_length (D := D) (n := n) (k := k) (d := d)
  have eo : ownsF D n k d = (if idxOk D n k d then [d.getD 0 0] else []) ++ bukF D n k d := by unfold ownsF; rw [if_pos hk]
  have fin : ∀ (h : Heap) (ls : List Int) (id : Nat), Low g.length g h → rd h g.length = some ⟨layC D.length n m, true⟩ → rd h (g.length + 1) = some ⟨inoC k l s p d, true⟩ → rd h id = some ⟨encI ls, true⟩ → g.length ≤ id → ls.length ≤ 1000 →
      ∃ v' g', er22_Owns_j0 0 v (.c (.p g.length 0)) (.c (.p (g.length + 1) 0)) (.c (.sl id 0 ls.length 1)) h = some (v', g') ∧ Out g.length g' v' 1 (ls ++ bukF D n k d).length (encI (ls ++ bukF D n k d)) := by
    intro h ls id hlow h1 h2 hr hid hl
    have hgl := hlow.2.1
    have a2 := loadAll (n := 3) h1 rfl
    have a3 := loadAll (n := 11) h2 hIl
    have hB := ref22_Buckets_eq (n := n) (m := m) (k := k) (l := l) (s := s) (p := p) (d := d) (hv.since hlow) hD hd
    have hA := app_of (h := h ++ [some (Row.mk (encI (bukF D n k d)) true)]) (id := id) (jd := h.length) (n := ls.length) (m := (bukF D n k d).length) (sz := 1) (cs := encI ls) (ys := encI (bukF D n k d)) (rw := true) (rd_append hr) (by rw [encI_length, Nat.mul_one]) (by simp) (by rw [encI_length, Nat.mul_one]) rfl (by omega) (by omega)
    rw [← encI_append] at hA
    have el : ls.length + (bukF D n k d).length = (ls ++ bukF D n k d).length := by simp
    rw [el] at hA
    rw [er22_Owns_j0_eq]
    refine ⟨_, _, by simp only [bnd_some, a2, a3, hB, hA] <;> rfl, by rw [encI_length, Nat.mul_one], _, rfl, by simp; omega, ?_⟩
    have := rd_new (h := (h ++ [some (Row.mk (encI (bukF D n k d)) true)]).set id none) (r := ⟨encI (ls ++ bukF D n k d), true⟩)
    rw [List.length_set] at this
    exact this
  rw [R_er22_Owns_eq, zI_enc, eo]
  cases c : idxOk D n k d with
  | false =>
    rw [c] at hI
    obtain ⟨v', g', f1, f2⟩ := fin (g ++ [some (Row.mk (layC D.length n m) true), some (Row.mk (inoC k l s p d) true), some (Row.mk [] true), some (Row.mk [] true), some (Row.mk (encI (idxC D n k d)) true)]) [] (g.length + 3) ((Low.refl (Nat.le_refl _)).new _) (by simp) (by simp) (by simp [encI]) (by omega) (by simp)
    refine ⟨v', g', ?_, f2⟩
    rw [List.length_nil] at f1
    generalize layC D.length n m = V at *
    generalize inoC k l s p d = I at *
    generalize encI (idxC D n k d) = X at *
    generalize encI (0 :: zI 32) = z at *
    simp only [esc, esh, Nat.reduceAdd, Nat.reduceMul, Nat.reduceLT, eq_self, i0, hk, l3, l11, hI, hz, hX]
    exact f1
  | true =>
    rw [c] at hI
    have ef : afill [Cell.i .i64 0] [(0, 1, .c (.i .i64 (d.getD 0 0)))] = some (encI [d.getD 0 0]) := rfl
    have hA := app_of (h := g ++ [some (Row.mk (layC D.length n m) true), some (Row.mk (inoC k l s p d) true), some (Row.mk [] true), some (Row.mk [] true), some (Row.mk (encI (idxC D n k d)) true), some (Row.mk (encI [d.getD 0 0]) true)]) (id := g.length + 3) (jd := g.length + 5) (n := 0) (m := 1) (sz := 1) (cs := []) (ys := encI [d.getD 0 0]) (rw := true) (by simp) rfl (by simp) rfl rfl (by omega) (by omega)
    rw [List.nil_append, Nat.zero_add] at hA
    obtain ⟨v', g', f1, f2⟩ := fin (g ++ [some (Row.mk (layC D.length n m) true), some (Row.mk (inoC k l s p d) true), some (Row.mk [] true), none, some (Row.mk (encI (idxC D n k d)) true), some (Row.mk (encI [d.getD 0 0]) true), some (Row.mk (encI [d.getD 0 0]) true)]) [d.getD 0 0] (g.length + 6) ((Low.refl (Nat.le_refl _)).new _) (by simp) (by simp) (by simp) (by omega) (by simp)
    refine ⟨v', g', ?_, f2⟩
    rw [show ([d.getD 0 0] : List Int).length = 1 from rfl] at f1
    generalize encI [d.getD 0 0] = e0 at *
    generalize layC D.length n m = V at *
    generalize inoC k l s p d = I at *
    generalize encI (idxC D n k d) = X at *
    generalize encI (0 :: zI 32) = z at *
    simp only [esc] at hA
    simp only [esc, esh, Nat.reduceAdd, Nat.reduceMul, Nat.reduceLT, eq_self, i0, hk, l3, l11, hI, hz, hX, ad, i4, ef, hA]
    exact f1

theorem rowns_file {g : Heap} (hv : Has g v 256 D.length (cellsD D)) (hD : okD D) (hd : d.length = 7) (hk : k ≠ 2) :
    ∃ v' g', R_er22_Owns 0 [v, .a (layC D.length n m), .a (inoC k l s p d)] g = some (v', g') ∧ Out g.length g' v' 1 (ownsF D n k d).length (encI (ownsF D n k d)) := by
  have hIl : (inoC k l s p d).length = 11 := by simp [inoC, encI_length, hd]
  have l11 : ldN (some (Row.mk (inoC k l s p d) true)) 0 11 = some (.a (inoC k l s p d)) := ldN_all hIl
  have l3 : (layC D.length n m).length = 3 := rfl
  have i0 : (inoC k l s p d)[0]? = some (.i .i64 k) := rfl
  have i10 : (inoC k l s p d)[10]? = some (.i .i64 (d.getD 6 0)) := by
    have : (inoC k l s p d)[10]? = (encI d)[6]? := rfl
    rw [this, encI_get, List.getElem?_eq_getElem (by omega), List.getD_eq_getElem?_getD, List.getElem?_eq_getElem (by omega)]; rfl
  have hA := ref22_All_eq (n := n) (m := m) (k := k) (l := l) (s := s) (p := p) (d := d) (hv.more [some (Row.mk (layC D.length n m) true), some (Row.mk (inoC k l s p d) true), some (Row.mk [] true)]) hD hd
  have hAl := allF_length (D := D) (n := n) (k := k) (d := d)
  have s1 : aslL 1 (.c (.sl (g.length + 3) 0 134 1)) none (some (.c (.i .i64 6))) = some (.c (.sl (g.length + 3) 0 6 1)) := by simp [aslL, bound, nat?]
  have s2 : aslL 1 (.c (.sl (g.length + 3) 0 134 1)) (some (.c (.i .i64 6))) none = some (.c (.sl (g.length + 3) 6 128 1)) := by simp [aslL, bound, nat?]
  have hI := fun h => ref21_Data_eq (b := D.length) (n := n) (m := m) (i := d.getD 6 0) (h := h)
  have pt1 : ∀ h : Heap, rd h (g.length + 3) = some ⟨encI (allF D n k d), true⟩ → Has h (.c (.sl (g.length + 3) 0 6 1)) 1 6 (encI ((allF D n k d).take 6)) := fun h hr => Has.part hr (by rw [encI_length]; omega) (by simp [encI]) (noX_encI _)
  have pt2 : ∀ h : Heap, rd h (g.length + 3) = some ⟨encI (allF D n k d), true⟩ → Has h (.c (.sl (g.length + 3) 6 128 1)) 1 128 (encI ((allF D n k d).drop 6)) := fun h hr => Has.part hr (by rw [encI_length]; omega) (by
    have : ((encI (allF D n k d)).drop 6).take (128 * 1) = (encI (allF D n k d)).drop 6 := List.take_of_length_le (by rw [List.length_drop, encI_length]; omega)
    rw [this]; simp [encI]) (noX_encI _)
  have hS1 := fun h hr => ref22_Some_eq (pt1 h hr) (by rw [List.length_take]; omega)
  have hS2 := fun h hr => ref22_Some_eq (pt2 h hr) (by rw [List.length_drop]; omega)
  have z1 := nzF_length ((allF D n k d).take 6)
  have z2 := nzF_length ((allF D n k d).drop 6)
  have eo : ownsF D n k d = nzF ((allF D n k d).take 6) ++ (if k = 1 ∧ isDatL D.length n (d.getD 6 0) = true then [d.getD 6 0] else []) ++ nzF ((allF D n k d).drop 6) := by unfold ownsF; rw [if_neg hk, nz_low, nz_high]
  have z3 : (nzF ((allF D n k d).take 6)).length ≤ 6 := by rw [List.length_take] at z1; omega
  have z4 : (nzF ((allF D n k d).drop 6)).length ≤ 134 := by rw [List.length_drop] at z2; omega
  have fin : ∀ (h : Heap) (ls : List Int) (id : Nat), g.length ≤ id → g.length ≤ h.length → rd h (g.length + 3) = some ⟨encI (allF D n k d), true⟩ → rd h id = some ⟨encI ls, true⟩ → ls.length ≤ 1000 →
      ∃ v' g', er22_Owns_j1 0 (.c (.sl (g.length + 3) 0 134 1)) (.c (.sl id 0 ls.length 1)) h = some (v', g') ∧ Out g.length g' v' 1 (ls ++ nzF ((allF D n k d).drop 6)).length (encI (ls ++ nzF ((allF D n k d).drop 6))) := by
    intro h ls id hid hgh h3 hr hl
    have hS := hS2 h h3
    have hA2 := app_of (h := h ++ [some (Row.mk (encI (nzF ((allF D n k d).drop 6))) true)]) (id := id) (jd := h.length) (n := ls.length) (m := (nzF ((allF D n k d).drop 6)).length) (sz := 1) (cs := encI ls) (ys := encI (nzF ((allF D n k d).drop 6))) (rw := true) (rd_append hr) (by rw [encI_length, Nat.mul_one]) (by simp) (by rw [encI_length, Nat.mul_one]) rfl (by omega) (by omega)
    rw [← encI_append] at hA2
    have el : ls.length + (nzF ((allF D n k d).drop 6)).length = (ls ++ nzF ((allF D n k d).drop 6)).length := by simp
    rw [el] at hA2
    rw [er22_Owns_j1_eq]
    refine ⟨_, _, by simp only [bnd_some, s2, hS, hA2] <;> rfl, by rw [encI_length, Nat.mul_one], _, rfl, by simp; omega, ?_⟩
    have := rd_new (h := (h ++ [some (Row.mk (encI (nzF ((allF D n k d).drop 6))) true)]).set id none) (r := ⟨encI (ls ++ nzF ((allF D n k d).drop 6)), true⟩)
    rw [List.length_set] at this
    exact this
  have hS0 := hS1 (g ++ [some (Row.mk (layC D.length n m) true), some (Row.mk (inoC k l s p d) true), some (Row.mk [] true), some (Row.mk (encI (allF D n k d)) true)]) (by simp)
  rw [R_er22_Owns_eq, zI_enc, eo]
  have hS0l : (nzF ((allF D n k d).take 6)).length ≤ 1000 := by omega
  generalize hA6 : nzF ((allF D n k d).take 6) = A6 at *
  generalize hB6 : nzF ((allF D n k d).drop 6) = B6 at *
  have done : ∀ (hc : ¬ (k = 1 ∧ isDatL D.length n (d.getD 6 0) = true)), ∃ v' g', er22_Owns_j1 0 (.c (.sl (g.length + 3) 0 134 1)) (.c (.sl (g.length + 4) 0 A6.length 1)) (g ++ [some (Row.mk (layC D.length n m) true), some (Row.mk (inoC k l s p d) true), some (Row.mk [] true), some (Row.mk (encI (allF D n k d)) true), some (Row.mk (encI A6) true)]) = some (v', g') ∧ Out g.length g' v' 1 (A6 ++ (if k = 1 ∧ isDatL D.length n (d.getD 6 0) = true then [d.getD 6 0] else []) ++ B6).length (encI (A6 ++ (if k = 1 ∧ isDatL D.length n (d.getD 6 0) = true then [d.getD 6 0] else []) ++ B6)) := by
    intro hc
    rw [if_neg hc, List.append_nil]
    exact fin _ A6 (g.length + 4) (by omega) (by simp) (by simp) (by simp) hS0l
  by_cases c1 : k = 1
  · cases c2 : isDatL D.length n (d.getD 6 0) with
    | false =>
      simp only [c2] at hI
      obtain ⟨v', g', f1, f2⟩ := done (by rw [c2]; simp)
      rw [c2] at f2
      refine ⟨v', g', ?_, f2⟩
      generalize layC D.length n m = V at *
      generalize inoC k l s p d = I at *
      generalize encI (allF D n k d) = X at *
      simp only [esc] at hA hS0
      have k2 : ¬ (1 : Int) = 2 := by decide
      simp only [esc, esh, Nat.reduceAdd, Nat.reduceMul, Nat.reduceLT, eq_self, i0, c1, k2, l3, l11, hA, s1, hS0, i10, hI]
      exact f1
    | true =>
      simp only [c2] at hI
      have ef : afill [Cell.i .i64 0] [(0, 1, .c (.i .i64 (d.getD 6 0)))] = some (encI [d.getD 6 0]) := rfl
      have hA2 := app_of (h := g ++ [some (Row.mk (layC D.length n m) true), some (Row.mk (inoC k l s p d) true), some (Row.mk [] true), some (Row.mk (encI (allF D n k d)) true), some (Row.mk (encI A6) true), some (Row.mk (encI [d.getD 6 0]) true)]) (id := g.length + 4) (jd := g.length + 5) (n := A6.length) (m := 1) (sz := 1) (cs := encI A6) (ys := encI [d.getD 6 0]) (rw := true) (by simp) (by rw [encI_length, Nat.mul_one]) (by simp) rfl rfl (by omega) (by omega)
      rw [← encI_append] at hA2
      obtain ⟨v', g', f1, f2⟩ := fin (g ++ [some (Row.mk (layC D.length n m) true), some (Row.mk (inoC k l s p d) true), some (Row.mk [] true), some (Row.mk (encI (allF D n k d)) true), none, some (Row.mk (encI [d.getD 6 0]) true), some (Row.mk (encI (A6 ++ [d.getD 6 0])) true)]) (A6 ++ [d.getD 6 0]) (g.length + 6) (by omega) (by simp) (by simp) (by simp) (by simp; omega)
      rw [if_pos ⟨c1, rfl⟩]
      refine ⟨v', g', ?_, f2⟩
      have el : (A6 ++ [d.getD 6 0]).length = A6.length + 1 := by simp
      rw [el] at f1
      generalize encI (A6 ++ [d.getD 6 0]) = e1 at *
      generalize encI [d.getD 6 0] = e0 at *
      generalize layC D.length n m = V at *
      generalize inoC k l s p d = I at *
      generalize encI (allF D n k d) = X at *
      simp only [esc] at hA hS0 hA2
      have k2 : ¬ (1 : Int) = 2 := by decide
      simp only [esc, esh, Nat.reduceAdd, Nat.reduceMul, Nat.reduceLT, eq_self, i0, c1, k2, l3, l11, hA, s1, hS0, i10, hI, ef, hA2]
      exact f1
  · obtain ⟨v', g', f1, f2⟩ := done (fun h => c1 h.1)
    refine ⟨v', g', ?_, f2⟩
    generalize layC D.length n m = V at *
    generalize inoC k l s p d = I at *
    generalize encI (allF D n k d) = X at *
    simp only [esc] at hA hS0
    simp only [esc, esh, Nat.reduceAdd, Nat.reduceMul, Nat.reduceLT, eq_self, i0, c1, hk, l3, l11, hA, s1, hS0]
    exact f1

theorem ref22_Owns_eq (hv : Has h v 256 D.length (cellsD D)) (hD : okD D) (hd : d.length = 7) :
    S_er22_Owns [v, .a (layC D.length n m), .a (inoC k l s p d)] h = some (.c (.sl h.length 0 (ownsF D n k d).length 1), h ++ [some ⟨encI (ownsF D n k d), true⟩]) := by
  have key : ∀ g, Has g v 256 D.length (cellsD D) → ∃ v' g', R_er22_Owns 0 [v, .a (layC D.length n m), .a (inoC k l s p d)] g = some (v', g') ∧ Out g.length g' v' 1 (ownsF D n k d).length (encI (ownsF D n k d)) := by
    intro g hv
    by_cases hk : k = 2
    · exact rowns_dir hv hD hd hk
    · exact rowns_file hv hD hd hk
  obtain ⟨v', g', e, ho⟩ := key (ro h) hv.ro
  exact S_er22_Owns_out e (by simpa [ro_length] using ho) (by simp)
end

end Go.Proofs.Ytdgggnlbdoiloaa
end
noncomputable section
namespace Go.Proofs.Ytdgggnlbdoiloaa
open Go Go.Esc
set_option maxRecDepth 100000
def el22_FmapDirs_o0 : List AOper := [aO 4 (.mv (.v (.c (.b false))))]
def el22_FmapDirs_c0 : ACode := .ops el22_FmapDirs_o0
def el22_FmapDirs_o1 : List AOper := [aO 14 (.mv (.t 0)), aO 15 (.len (.t 14)), aO 16 (.bin .gtr (.t 15) (.v (.c (.i .i64 60))))]
def el22_FmapDirs_c1 : ACode := .ops el22_FmapDirs_o1
def el22_FmapDirs_o2 : List AOper := [aO 17 (.call 22 []), aO 4 (.mv (.t 17))]
def el22_FmapDirs_c2 : ACode := .ops el22_FmapDirs_o2
def el22_FmapDirs_c3 : ACode := .seq [4] el22_FmapDirs_c2 .ret
def el22_FmapDirs_c4 : ACode := .cond (.t 16) el22_FmapDirs_c3 .skip
def el22_FmapDirs_c5 : ACode := .seq [0, 1, 16] el22_FmapDirs_c1 el22_FmapDirs_c4
def el22_FmapDirs_o3 : List AOper := [aO 19 (.mv (.t 0)), aO 20 (.call 16 [(.t 19)]), aO 21 (.call 15 [(.t 20)]), aO 18 (.mv (.t 21)), aO 22 (.ext (.t 18) 0), aO 23 (.ext (.t 18) 1), aO 5 (.alloc ([.i .i64 0, .i .i64 0, .i .u64 0, .nf])), { dst := none, op := .storeN 4 (.t 5) (.t 22) }, aO 6 (.mv (.t 23))]
def el22_FmapDirs_c6 : ACode := .ops el22_FmapDirs_o3
def el22_FmapDirs_o4 : List AOper := [aO 25 (.mv (.t 0)), aO 26 (.call 30 [(.t 25)]), aO 24 (.mv (.t 26)), aO 27 (.ext (.t 24) 0), aO 28 (.ext (.t 24) 1), aO 7 (.alloc ([.i .i64 0, .i .i64 0, .i .u64 0])), { dst := none, op := .storeN 3 (.t 7) (.t 27) }, aO 8 (.mv (.t 28))]
def el22_FmapDirs_c7 : ACode := .ops el22_FmapDirs_o4
def el22_FmapDirs_o5 : List AOper := [aO 29 (.mv (.t 8)), aO 30 (.un .not (.t 29)), aO 31 (.mv (.t 30)), { dst := some 32, op := .mv (.t 6), guard := some (31, false) }, { dst := some 33, op := .bin .neq (.t 32) (.v (.c (.i .i64 0))), guard := some (31, false) }, aO 34 (.pick (.t 31) (.v (.c (.b true))) (.t 33))]
def el22_FmapDirs_c8 : ACode := .ops el22_FmapDirs_o5
def el22_FmapDirs_o6 : List AOper := [aO 35 (.mv (.t 8)), aO 36 (.mv (.t 6)), aO 37 (.bin .eql (.t 36) (.v (.c (.i .i64 0)))), aO 38 (.eqB false (.t 35) (.t 37)), aO 39 (.mv (.t 38)), { dst := some 40, op := .call 22 [], guard := some (39, true) }, aO 41 (.pick (.t 39) (.t 40) (.v (.c (.b false)))), aO 4 (.mv (.t 41))]
def el22_FmapDirs_c9 : ACode := .ops el22_FmapDirs_o6
def el22_FmapDirs_c10 : ACode := .seq [4] el22_FmapDirs_c9 .ret
def el22_FmapDirs_c11 : ACode := .cond (.t 34) el22_FmapDirs_c10 .skip
def el22_FmapDirs_c12 : ACode := .seq [0, 1, 5, 6, 7, 8, 34] el22_FmapDirs_c8 el22_FmapDirs_c11
def el22_FmapDirs_o7 : List AOper := [aO 42 (.loadN 4 (.t 5)), aO 43 (.mv (.t 1)), aO 44 (.call 17 [(.t 42), (.t 43)]), aO 9 (.alloc ([.i .i64 0, .i .i64 0, .i .i64 0, .i .i64 0, .i .i64 0, .i .i64 0, .i .i64 0, .i .i64 0, .i .i64 0, .i .i64 0, .i .i64 0])), { dst := none, op := .storeN 11 (.t 9) (.t 44) }]
def el22_FmapDirs_c13 : ACode := .ops el22_FmapDirs_o7
def el22_FmapDirs_o8 : List AOper := [aO 46 (.loadN 4 (.t 5)), aO 47 (.loadN 11 (.t 9)), aO 48 (.call 42 [(.t 46), (.t 47)]), aO 45 (.mv (.t 48)), aO 49 (.ext (.t 45) 0), aO 50 (.ext (.t 45) 1), aO 10 (.alloc ([.i .i64 0] ++ List.replicate 32 (.i .i64 0))), { dst := none, op := .storeN 33 (.t 10) (.t 49) }, aO 11 (.mv (.t 50))]
def el22_FmapDirs_c14 : ACode := .ops el22_FmapDirs_o8
def el22_FmapDirs_o9 : List AOper := [aO 52 (.mv (.t 0)), aO 53 (.loadN 3 (.t 7)), aO 54 (.loadN 11 (.t 9)), aO 55 (.call 43 [(.t 52), (.t 53), (.t 54)]), aO 51 (.mv (.t 55)), aO 56 (.ext (.t 51) 0), aO 57 (.ext (.t 51) 1), aO 12 (.alloc ([.i .i64 0] ++ List.replicate 32 (.i .i64 0))), { dst := none, op := .storeN 33 (.t 12) (.t 56) }, aO 13 (.mv (.t 57))]
def el22_FmapDirs_c15 : ACode := .ops el22_FmapDirs_o9
def el22_FmapDirs_o10 : List AOper := [aO 58 (.loadN 33 (.t 10)), aO 59 (.loadN 33 (.t 12)), aO 60 (.eqA false ([.i .i64] ++ List.replicate 32 (.i .i64)) (.t 58) (.t 59)), aO 61 (.mv (.t 60)), { dst := some 62, op := .mv (.t 11), guard := some (61, true) }, { dst := some 63, op := .mv (.t 13), guard := some (61, true) }, { dst := some 64, op := .eqB false (.t 62) (.t 63), guard := some (61, true) }, aO 65 (.pick (.t 61) (.t 64) (.v (.c (.b false)))), aO 66 (.mv (.t 65)), { dst := some 67, op := .loadN 4 (.t 5), guard := some (66, true) }, { dst := some 68, op := .loadN 11 (.t 9), guard := some (66, true) }, { dst := some 69, op := .call 44 [(.t 67), (.t 68)], guard := some (66, true) }, { dst := some 70, op := .mv (.t 0), guard := some (66, true) }, { dst := some 71, op := .loadN 3 (.t 7), guard := some (66, true) }, { dst := some 72, op := .loadN 11 (.t 9), guard := some (66, true) }, { dst := some 73, op := .call 45 [(.t 70), (.t 71), (.t 72)], guard := some (66, true) }, { dst := some 74, op := .call 37 [(.t 69), (.t 73)], guard := some (66, true) }, aO 75 (.pick (.t 66) (.t 74) (.v (.c (.b false)))), aO 76 (.mv (.t 75)), { dst := some 77, op := .loadN 4 (.t 5), guard := some (76, true) }, { dst := some 78, op := .loadN 11 (.t 9), guard := some (76, true) }, { dst := some 79, op := .call 23 [(.t 77), (.t 78)], guard := some (76, true) }, { dst := some 80, op := .mv (.t 0), guard := some (76, true) }, { dst := some 81, op := .loadN 3 (.t 7), guard := some (76, true) }, { dst := some 82, op := .loadN 11 (.t 9), guard := some (76, true) }]
def el22_FmapDirs_o11 : List AOper := [{ dst := some 83, op := .call 46 [(.t 80), (.t 81), (.t 82)], guard := some (76, true) }, { dst := some 84, op := .call 37 [(.t 79), (.t 83)], guard := some (76, true) }, aO 85 (.pick (.t 76) (.t 84) (.v (.c (.b false)))), aO 86 (.mv (.t 85)), { dst := some 87, op := .call 22 [], guard := some (86, true) }, aO 88 (.pick (.t 86) (.t 87) (.v (.c (.b false)))), aO 4 (.mv (.t 88))]
def el22_FmapDirs_c16 : ACode := .draw 0 el22_FmapDirs_o10 el22_FmapDirs_o11
def el22_FmapDirs_c17 : ACode := .seq [4] el22_FmapDirs_c16 .ret
def el22_FmapDirs_c18 : ACode := .seq [0, 5, 7, 9, 10, 11, 12, 13] el22_FmapDirs_c15 el22_FmapDirs_c17
def el22_FmapDirs_c19 : ACode := .seq [0, 5, 7, 9, 10, 11] el22_FmapDirs_c14 el22_FmapDirs_c18
def el22_FmapDirs_c20 : ACode := .seq [0, 5, 7, 9] el22_FmapDirs_c13 el22_FmapDirs_c19
def el22_FmapDirs_c21 : ACode := .seq [0, 1, 5, 7] el22_FmapDirs_c12 el22_FmapDirs_c20
def el22_FmapDirs_c22 : ACode := .seq [0, 1, 5, 6, 7, 8] el22_FmapDirs_c7 el22_FmapDirs_c21
def el22_FmapDirs_c23 : ACode := .seq [0, 1, 5, 6] el22_FmapDirs_c6 el22_FmapDirs_c22
def el22_FmapDirs_c24 : ACode := .seq [0, 1] el22_FmapDirs_c5 el22_FmapDirs_c23
def el22_FmapDirs_c25 : ACode := .seq [0, 1] el22_FmapDirs_c0 el22_FmapDirs_c24
def A_el22_FmapDirs : AFn := ⟨el22_FmapDirs_c25, [.tmp 4]⟩
def E_el22_FmapDirs : Sums := disp 22 S_el22_works (disp 16 S_el21_To (disp 15 S_view_Of (disp 30 S_er21_Layout (disp 17 S_view_View_Inode (disp 42 S_fmap_Index (disp 43 S_er22_Index (disp 44 S_fmap_Buckets (disp 45 S_er22_Buckets (disp 37 S_er04_Ints (disp 23 S_fmap_Owns__Owns_1 (disp 46 S_er22_Owns disp0)))))))))))
def el22_FmapDirs_c0_d (n : Nat) : SmV := smOps E_el22_FmapDirs el22_FmapDirs_o0
def el22_FmapDirs_c1_d (n : Nat) : SmV := smOps E_el22_FmapDirs el22_FmapDirs_o1
def el22_FmapDirs_c2_d (n : Nat) : SmV := smOps E_el22_FmapDirs el22_FmapDirs_o2
def el22_FmapDirs_c3_d (n : Nat) : SmV := smSeq [4] (el22_FmapDirs_c2_d n) smRet
def el22_FmapDirs_c4_d (n : Nat) : SmV := smCond (.t 16) (el22_FmapDirs_c3_d n) smSkip
def el22_FmapDirs_c5_d (n : Nat) : SmV := smSeq [0, 1, 16] (el22_FmapDirs_c1_d n) (el22_FmapDirs_c4_d n)
def el22_FmapDirs_c6_d (n : Nat) : SmV := smOps E_el22_FmapDirs el22_FmapDirs_o3
def el22_FmapDirs_c7_d (n : Nat) : SmV := smOps E_el22_FmapDirs el22_FmapDirs_o4
def el22_FmapDirs_c8_d (n : Nat) : SmV := smOps E_el22_FmapDirs el22_FmapDirs_o5
def el22_FmapDirs_c9_d (n : Nat) : SmV := smOps E_el22_FmapDirs el22_FmapDirs_o6
def el22_FmapDirs_c10_d (n : Nat) : SmV := smSeq [4] (el22_FmapDirs_c9_d n) smRet
def el22_FmapDirs_c11_d (n : Nat) : SmV := smCond (.t 34) (el22_FmapDirs_c10_d n) smSkip
def el22_FmapDirs_c12_d (n : Nat) : SmV := smSeq [0, 1, 5, 6, 7, 8, 34] (el22_FmapDirs_c8_d n) (el22_FmapDirs_c11_d n)
def el22_FmapDirs_c13_d (n : Nat) : SmV := smOps E_el22_FmapDirs el22_FmapDirs_o7
def el22_FmapDirs_c14_d (n : Nat) : SmV := smOps E_el22_FmapDirs el22_FmapDirs_o8
def el22_FmapDirs_c15_d (n : Nat) : SmV := smOps E_el22_FmapDirs el22_FmapDirs_o9
def el22_FmapDirs_c16_d (n : Nat) : SmV := smDraw E_el22_FmapDirs 0 el22_FmapDirs_o10 el22_FmapDirs_o11
def el22_FmapDirs_c17_d (n : Nat) : SmV := smSeq [4] (el22_FmapDirs_c16_d n) smRet
def el22_FmapDirs_c18_d (n : Nat) : SmV := smSeq [0, 5, 7, 9, 10, 11, 12, 13] (el22_FmapDirs_c15_d n) (el22_FmapDirs_c17_d n)
def el22_FmapDirs_c19_d (n : Nat) : SmV := smSeq [0, 5, 7, 9, 10, 11] (el22_FmapDirs_c14_d n) (el22_FmapDirs_c18_d n)
def el22_FmapDirs_c20_d (n : Nat) : SmV := smSeq [0, 5, 7, 9] (el22_FmapDirs_c13_d n) (el22_FmapDirs_c19_d n)
def el22_FmapDirs_c21_d (n : Nat) : SmV := smSeq [0, 1, 5, 7] (el22_FmapDirs_c12_d n) (el22_FmapDirs_c20_d n)
def el22_FmapDirs_c22_d (n : Nat) : SmV := smSeq [0, 1, 5, 6, 7, 8] (el22_FmapDirs_c7_d n) (el22_FmapDirs_c21_d n)
def el22_FmapDirs_c23_d (n : Nat) : SmV := smSeq [0, 1, 5, 6] (el22_FmapDirs_c6_d n) (el22_FmapDirs_c22_d n)
def el22_FmapDirs_c24_d (n : Nat) : SmV := smSeq [0, 1] (el22_FmapDirs_c5_d n) (el22_FmapDirs_c23_d n)
def el22_FmapDirs_c25_d (n : Nat) : SmV := smSeq [0, 1] (el22_FmapDirs_c0_d n) (el22_FmapDirs_c24_d n)
def R_el22_FmapDirs (n : Nat) (args : List Val) (h : Heap) : OptV := (el22_FmapDirs_c25_d n) A_el22_FmapDirs.fin (params 0 args) h
theorem R_el22_FmapDirs_eq (n : Nat) (a0 a1 : Val) (h : Heap) : R_el22_FmapDirs n [a0, a1] h = bnd (alen a0) fun v1 => bnd (abin .gtr v1 (.c (.i .i64 60))) fun v2 => cnd v2 (bnd (S_el22_works [] h) fun p3 => some (p3.1, p3.2)) (bnd (S_el21_To [a0] h) fun p4 => bnd (S_view_Of [p4.1] p4.2) fun p5 => bnd (aext p5.1 0) fun v6 => bnd (aext p5.1 1) fun v7 => bnd (astoreN ((p5.2 ++ [some (Row.mk ([.i .i64 0, .i .i64 0, .i .u64 0, .nf]) true)])) 4 ((.c (.p p5.2.length 0))) v6) fun h8 => bnd (S_er21_Layout [a0] h8) fun p9 => bnd (aext p9.1 0) fun v10 => bnd (aext p9.1 1) fun v11 => bnd (astoreN ((p9.2 ++ [some (Row.mk ([.i .i64 0, .i .i64 0, .i .u64 0]) true)])) 3 ((.c (.p p9.2.length 0))) v10) fun h12 => bnd (aun .not v11) fun v13 => bnd (gd v13 false (some (v7, h12)) (some (.no, h12))) fun p14 => bnd (gd v13 false (bnd (abin .neq p14.1 (.c (.i .i64 0))) fun v15 => some (v15, p14.2)) (some (.no, p14.2))) fun p16 => bnd (apick v13 (.c (.b true)) p16.1) fun v17 => cnd v17 (bnd (abin .eql v7 (.c (.i .i64 0))) fun v18 => bnd (aeqB false v11 v18) fun v19 => bnd (gd v19 true (bnd (S_el22_works [] p16.2) fun p20 => some (p20.1, p20.2)) (some (.no, p16.2))) fun p21 => bnd (apick v19 p21.1 (.c (.b false))) fun v22 => some (v22, p21.2)) (bnd (aloadN p16.2 4 ((.c (.p p5.2.length 0)))) fun v23 => bnd (S_view_View_Inode [v23, a1] p16.2) fun p24 => bnd (astoreN ((p24.2 ++ [some (Row.mk ([.i .i64 0, .i .i64 0, .i .i64 0, .i .i64 0, .i .i64 0, .i .i64 0, .i .i64 0, .i .i64 0, .i .i64 0, .i .i64 0, .i .i64 0]) true)])) 11 ((.c (.p p24.2.length 0))) p24.1) fun h25 => bnd (aloadN h25 4 ((.c (.p p5.2.length 0)))) fun v26 => bnd (aloadN h25 11 ((.c (.p p24.2.length 0)))) fun v27 => bnd (S_fmap_Index [v26, v27] h25) fun p28 => bnd (aext p28.1 0) fun v29 => bnd (aext p28.1 1) fun v30 => bnd (astoreN ((p28.2 ++ [some (Row.mk ([.i .i64 0] ++ List.replicate 32 (.i .i64 0)) true)])) 33 ((.c (.p p28.2.length 0))) v29) fun h31 => bnd (aloadN h31 3 ((.c (.p p9.2.length 0)))) fun v32 => bnd (aloadN h31 11 ((.c (.p p24.2.length 0)))) fun v33 => bnd (S_er22_Index [a0, v32, v33] h31) fun p34 => bnd (aext p34.1 0) fun v35 => bnd (aext p34.1 1) fun v36 => bnd (astoreN ((p34.2 ++ [some (Row.mk ([.i .i64 0] ++ List.replicate 32 (.i .i64 0)) true)])) 33 ((.c (.p p34.2.length 0))) v35) fun h37 => bnd (aloadN h37 33 ((.c (.p p28.2.length 0)))) fun v38 => bnd (aloadN h37 33 ((.c (.p p34.2.length 0)))) fun v39 => bnd (aeq false ([.i .i64] ++ List.replicate 32 (.i .i64)) v38 v39) fun v40 => bnd (gd v40 true (some (v30, (h37 ++ []))) (some (.no, (h37 ++ [])))) fun p41 => bnd (gd v40 true (some (v36, p41.2)) (some (.no, p41.2))) fun p42 => bnd (gd v40 true (bnd (aeqB false p41.1 p42.1) fun v43 => some (v43, p42.2)) (some (.no, p42.2))) fun p44 => bnd (apick v40 p44.1 (.c (.b false))) fun v45 => bnd (gd v45 true (bnd (aloadN h37 4 ((.c (.p p5.2.length 0)))) fun v46 => some (v46, p44.2)) (some (.no, p44.2))) fun p47 => bnd (gd v45 true (bnd (aloadN h37 11 ((.c (.p p24.2.length 0)))) fun v48 => some (v48, p47.2)) (some (.no, p47.2))) fun p49 => bnd (gd v45 true (bnd (quiet p49.2 (S_fmap_Buckets [p47.1, p49.1] p49.2)) fun p50 => some (p50.1, p50.2)) (some (.no, p49.2))) fun p51 => bnd (gd v45 true (some (a0, p51.2)) (some (.no, p51.2))) fun p52 => bnd (gd v45 true (bnd (aloadN h37 3 ((.c (.p p9.2.length 0)))) fun v53 => some (v53, p52.2)) (some (.no, p52.2))) fun p54 => bnd (gd v45 true (bnd (aloadN h37 11 ((.c (.p p24.2.length 0)))) fun v55 => some (v55, p54.2)) (some (.no, p54.2))) fun p56 => bnd (gd v45 true (bnd (quiet p56.2 (S_er22_Buckets [p52.1, p54.1, p56.1] p56.2)) fun p57 => some (p57.1, p57.2)) (some (.no, p56.2))) fun p58 => bnd (gd v45 true (bnd (quiet p58.2 (S_er04_Ints [p51.1, p58.1] p58.2)) fun p59 => some (p59.1, p59.2)) (some (.no, p58.2))) fun p60 => bnd (apick v45 p60.1 (.c (.b false))) fun v61 => bnd (gd v61 true (bnd (aloadN h37 4 ((.c (.p p5.2.length 0)))) fun v62 => some (v62, p60.2)) (some (.no, p60.2))) fun p63 => bnd (gd v61 true (bnd (aloadN h37 11 ((.c (.p p24.2.length 0)))) fun v64 => some (v64, p63.2)) (some (.no, p63.2))) fun p65 => bnd (gd v61 true (bnd (quiet p65.2 (S_fmap_Owns__Owns_1 [p63.1, p65.1] p65.2)) fun p66 => some (p66.1, p66.2)) (some (.no, p65.2))) fun p67 => bnd (gd v61 true (some (a0, p67.2)) (some (.no, p67.2))) fun p68 => bnd (gd v61 true (bnd (aloadN h37 3 ((.c (.p p9.2.length 0)))) fun v69 => some (v69, p68.2)) (some (.no, p68.2))) fun p70 => bnd (gd v61 true (bnd (aloadN h37 11 ((.c (.p p24.2.length 0)))) fun v71 => some (v71, p70.2)) (some (.no, p70.2))) fun p72 => bnd (gd v61 true (bnd (S_er22_Owns [p68.1, p70.1, p72.1] p72.2) fun p73 => some (p73.1, p73.2)) (some (.no, p72.2))) fun p74 => bnd (gd v61 true (bnd (S_er04_Ints [p67.1, p74.1] p74.2) fun p75 => some (p75.1, p75.2)) (some (.no, p74.2))) fun p76 => bnd (apick v61 p76.1 (.c (.b false))) fun v77 => bnd (gd v77 true (bnd (S_el22_works [] p76.2) fun p78 => some (p78.1, p78.2)) (some (.no, p76.2))) fun p79 => bnd (apick v77 p79.1 (.c (.b false))) fun v80 => some (v80, p79.2))) := by kernel_rfl
theorem K_el22_FmapDirs : FnK Try.prog 10 A_el22_FmapDirs E_el22_FmapDirs R_el22_FmapDirs := .mk' (sound1 S_el22_works_ok (sound1 S_el21_To_ok (sound1 S_view_Of_ok (sound1 S_er21_Layout_ok (sound1 S_view_View_Inode_ok (sound1 S_fmap_Index_ok (sound1 S_er22_Index_ok (sound1 S_fmap_Buckets_ok (sound1 S_er22_Buckets_ok (sound1 S_er04_Ints_ok (sound1 S_fmap_Owns__Owns_1_ok (sound1 S_er22_Owns_ok sound0)))))))))))) Try.func10 (by kernel_rfl) (by intro n args h; kernel_rfl)
def S_el22_FmapDirs : Fun := tidy (Lim A_el22_FmapDirs E_el22_FmapDirs)
theorem S_el22_FmapDirs_ok : SOk Try.prog 10 S_el22_FmapDirs := K_el22_FmapDirs.sok
theorem S_el22_FmapDirs_flat {n : Nat} {args : List Val} {h h2 : Heap} {v : Val} (he : R_el22_FmapDirs n args (ro h) = some (v, h2)) (hf : v.flat = true) : S_el22_FmapDirs args h = some (v, h) := K_el22_FmapDirs.flat he hf
end Go.Proofs.Ytdgggnlbdoiloaa
end
section
namespace Go.Proofs.Ytdgggnlbdoiloaa
open Go Go.Esc

theorem owns_many {D : Dev} {n k : Int} {d : List Int} : (ownsF D n k d).length ≤ 1000 := by
  unfold ownsF
  split
  · have hbl := bukF_length (D := D) (n := n) (k := k) (d := d)
    rw [List.length_append]
    split
    · simp; omega
    · simp; omega
  · have h1 := eachF_length (atF D n k d) 6 0
    have h2 := eachF_length (atF D n k d) 128 6
    simp only [List.length_append, List.length_map]
    split
    · simp; omega
    · simp; omega

set_option maxHeartbeats 2000000 in
theorem fmapDirs_eq {v : Val} {D : Dev} {ino : Int} {h : Heap} (hv : Has h v 256 D.length (cellsD D)) (hD : okD D) : S_el22_FmapDirs [v, .c (.i .i64 ino)] h = some (.c (.b true), h) := by
  have key : ∀ g, Has g v 256 D.length (cellsD D) → ∃ g', R_el22_FmapDirs 0 [v, .c (.i .i64 ino)] g = some (.c (.b true), g') := by
    intro g hv
    have hl := hv.len
    have n13 : ¬ (13 : Int) = 0 := by decide
    rw [R_el22_FmapDirs_eq]
    by_cases c0 : (60 : Int) < (D.length : Nat)
    · exact ⟨_, by simp only [esc, hl, c0, works22_eq] <;> rfl⟩
    · have hT := to_eq hv hD (by omega)
      have hH : Has (g ++ [some ⟨cellsD D, true⟩]) (.c (.sl g.length 0 D.length 256)) 256 D.length (cellsD D) := Has.tr (by simp) (cellsD_length hD) (noX_cellsD D)
      have z3 : [Cell.i .i64 0, .i .i64 0, .i .u64 0].length = 3 := rfl
      cases cd : devL D with
      | false =>
        obtain ⟨t, hO⟩ := view_Of_bad hH hD cd
        obtain ⟨H, hHe⟩ : ∃ H, H = g ++ [some (Row.mk (cellsD D) true)] ++ t := ⟨_, rfl⟩
        have hvH : Has H v 256 D.length (cellsD D) := by rw [hHe]; exact (hv.more _).more _
        rw [← hHe] at hO
        have hS5 : astoreN (H ++ [some (Row.mk [.i .i64 0, .i .i64 0, .i .u64 0, .nf] true)]) 4 (.c (.p H.length 0)) (.a (vwC 0 0 0 .nf)) = some (H ++ [some (Row.mk (vwC 0 0 0 .nf) true)]) := by rw [astoreN_at0]; rfl
        have hLy := ref21_Layout_eq (h := H ++ [some (Row.mk (vwC 0 0 0 .nf) true)]) (hvH.more _) hD
        rw [cd, cond_false] at hLy
        have hLl : (layC 0 0 0).length = 3 := rfl
        generalize vwC 0 0 0 .nf = V at *
        generalize hL0 : layC 0 0 0 = L at *
        exact ⟨_, by simp only [esc, esh, Nat.reduceAdd, Nat.reduceMul, Nat.reduceLT, eq_self, hl, c0, hT, hO, hS5, hLy, hLl, z3, n13, beq_self_eq_true, works22_eq] <;> rfl⟩
      | true =>
        obtain ⟨f, t, hO, hV⟩ := view_Of_ok hH hD cd (by omega)
        obtain ⟨H, hHe⟩ : ∃ H, H = g ++ [some (Row.mk (cellsD D) true)] ++ t := ⟨_, rfl⟩
        have hvH : Has H v 256 D.length (cellsD D) := by rw [hHe]; exact (hv.more _).more _
        rw [← hHe] at hO hV
        have hLy := ref21_Layout_eq (h := H ++ [some (Row.mk (vwC D.length (devN D) (devM D) f) true)]) (hvH.more _) hD
        rw [cd, cond_true] at hLy
        generalize devN D = n at *
        generalize devM D = m at *
        have hS5 : astoreN (H ++ [some (Row.mk [.i .i64 0, .i .i64 0, .i .u64 0, .nf] true)]) 4 (.c (.p H.length 0)) (.a (vwC D.length n m f)) = some (H ++ [some (Row.mk (vwC D.length n m f) true)]) := by rw [astoreN_at0]; rfl
        have hLl : (layC D.length n m).length = 3 := rfl
        have l4 := vw_l4 (b := D.length) (n := n) (m := m) (f := f)
        have hI := view_Inode_eq (n := n) (m := m) (i := ino) (h := H ++ [some (Row.mk (vwC D.length n m f) true), some (Row.mk (layC D.length n m) true)]) hD (hV.more _)
        obtain ⟨l, s, p, d, ei, hd⟩ := inoV_form D n ino
        rw [ei] at hI
        generalize kdV D n ino = k at *
        have hIl : (inoC k l s p d).length = 11 := by simp [inoC, encI_length, hd]
        have hx1 := fmap_Index_eq (n := n) (m := m) (k := k) (l := l) (s := s) (p := p) (h := H ++ [some (Row.mk (vwC D.length n m f) true), some (Row.mk (layC D.length n m) true), some (Row.mk (inoC k l s p d) true)]) hD hd (hV.more _)
        have hx2 := ref22_Index_eq (n := n) (m := m) (k := k) (l := l) (s := s) (p := p) (d := d) (h := H ++ [some (Row.mk (vwC D.length n m f) true), some (Row.mk (layC D.length n m) true), some (Row.mk (inoC k l s p d) true), some (Row.mk (encI (idxC D n k d)) true)]) (hvH.more _) hD hd
        have hX := idxC_length D n k d
        have hz : (encI (0 :: zI 32)).length = 33 := encX_length (d := 0) zI_length
        have er : [Sh.i .i64] ++ List.replicate 32 (Sh.i .i64) = List.replicate 33 (Sh.i .i64) := rfl
        have q1 := aeqI_f (l := idxC D n k d) (m := idxC D n k d) (n := 33) (by rw [← encI_length]; exact hX) (by rw [← encI_length]; exact hX)
        rw [decide_eq_true rfl] at q1
        have hb1 := fmap_Buckets_eq (n := n) (m := m) (k := k) (l := l) (s := s) (p := p) (h := H ++ [some (Row.mk (vwC D.length n m f) true), some (Row.mk (layC D.length n m) true), some (Row.mk (inoC k l s p d) true), some (Row.mk (encI (idxC D n k d)) true), some (Row.mk (encI (idxC D n k d)) true)]) hD hd (hV.more _)
        have hb2 := ref22_Buckets_eq (n := n) (m := m) (k := k) (l := l) (s := s) (p := p) (d := d) (h := H ++ [some (Row.mk (vwC D.length n m f) true), some (Row.mk (layC D.length n m) true), some (Row.mk (inoC k l s p d) true), some (Row.mk (encI (idxC D n k d)) true), some (Row.mk (encI (idxC D n k d)) true), some (Row.mk (encI (bukF D n k d)) true)]) (hvH.more _) hD hd
        have hbl := bukF_length (D := D) (n := n) (k := k) (d := d)
        have hQ1 := ref04_Ints_eq (h := H ++ [some (Row.mk (vwC D.length n m f) true), some (Row.mk (layC D.length n m) true), some (Row.mk (inoC k l s p d) true), some (Row.mk (encI (idxC D n k d)) true), some (Row.mk (encI (idxC D n k d)) true), some (Row.mk (encI (bukF D n k d)) true), some (Row.mk (encI (bukF D n k d)) true)]) (v := .c (.sl (H.length + 5) 0 (bukF D n k d).length 1)) (nv := (bukF D n k d).length) (u := .c (.sl (H.length + 6) 0 (bukF D n k d).length 1)) (nu := (bukF D n k d).length) (l := bukF D n k d) (r := bukF D n k d)
          (Has.tr (by simp) (by rw [encI_length, Nat.mul_one]) (noX_encI _)) (Has.tr (by simp) (by rw [encI_length, Nat.mul_one]) (noX_encI _)) (by omega)
        rw [decide_eq_true rfl] at hQ1
        obtain ⟨v1, t1, o1, o2, o3⟩ := (fmap_Owns_eq (n := n) (m := m) (k := k) (l := l) (s := s) (p := p) (h := H ++ [some (Row.mk (vwC D.length n m f) true), some (Row.mk (layC D.length n m) true), some (Row.mk (inoC k l s p d) true), some (Row.mk (encI (idxC D n k d)) true), some (Row.mk (encI (idxC D n k d)) true), some (Row.mk (encI (bukF D n k d)) true), some (Row.mk (encI (bukF D n k d)) true)]) hD hd (hV.more _)).low
        have hvZ : Has (H ++ [some (Row.mk (vwC D.length n m f) true), some (Row.mk (layC D.length n m) true), some (Row.mk (inoC k l s p d) true), some (Row.mk (encI (idxC D n k d)) true), some (Row.mk (encI (idxC D n k d)) true), some (Row.mk (encI (bukF D n k d)) true), some (Row.mk (encI (bukF D n k d)) true)] ++ t1) v 256 D.length (cellsD D) := (hvH.more _).more _
        obtain ⟨Z, hZ⟩ : ∃ Z, Z = H ++ [some (Row.mk (vwC D.length n m f) true), some (Row.mk (layC D.length n m) true), some (Row.mk (inoC k l s p d) true), some (Row.mk (encI (idxC D n k d)) true), some (Row.mk (encI (idxC D n k d)) true), some (Row.mk (encI (bukF D n k d)) true), some (Row.mk (encI (bukF D n k d)) true)] ++ t1 := ⟨_, rfl⟩
        rw [← hZ] at o1 o2 o3 hvZ
        have hr := ref22_Owns_eq (n := n) (m := m) (k := k) (l := l) (s := s) (p := p) (d := d) hvZ hD hd
        have hom := owns_many (D := D) (n := n) (k := k) (d := d)
        have hQ2 := ref04_Ints_eq (h := Z ++ [some (Row.mk (encI (ownsF D n k d)) true)]) (u := .c (.sl Z.length 0 (ownsF D n k d).length 1)) (nu := (ownsF D n k d).length) (r := ownsF D n k d) (o2.more _) (Has.tr rd_new (by rw [encI_length, Nat.mul_one]) (noX_encI _)) (by omega)
        rw [decide_eq_true rfl] at hQ2
        have hl0 : (inoC 0 0 0 0 (zI 7)).length = 11 := rfl
        rw [ino0_eq, zI_enc, er]
        clear hZ
        generalize inoC 0 0 0 0 (zI 7) = z0 at *
        generalize encI (0 :: zI 32) = zx at *
        generalize encI (idxC D n k d) = X at *
        generalize bukF D n k d = Bk at *
        generalize encI Bk = yB at *
        generalize ownsF D n k d = Ow at *
        generalize encI Ow = yO at *
        generalize idxOk D n k d = ok at *
        generalize inoC k l s p d = I at *
        generalize vwC D.length n m f = V at *
        generalize layC D.length n m = L at *
        generalize List.replicate 33 (Sh.i .i64) = sh at *
        simp only [esc] at hb1 hb2
        have n00 : ¬ ¬ (0 : Int) = 0 := by decide
        exact ⟨_, by simp only [esc, esh, Nat.reduceAdd, Nat.reduceMul, Nat.reduceLT, eq_self, hl, c0, hT, hO, hS5, hLy, hLl, z3, l4, hI, hl0, hIl, hx1, hz, hX, hx2, q1, beq_self_eq_true, hb1, hb2, hQ1, o1, o3, hr, hQ2, works22_eq] <;> rfl⟩
  obtain ⟨g', e⟩ := key (ro h) hv.ro
  exact S_el22_FmapDirs_flat e rfl

end Go.Proofs.Ytdgggnlbdoiloaa
end
section
namespace Go.Proofs.Ytdgggnlbdoiloaa
open Go

def startWords : List Char := (([104, 97, 114, 110, 101, 115, 115, 32, 102, 53, 49, 98, 54, 51, 100, 100, 54, 97, 57, 49, 52, 55, 49, 97, 52, 49, 55, 51, 48, 53, 98, 100, 50, 53, 100, 51, 52, 98, 48, 51, 50, 50, 54, 51, 53, 54, 57, 49, 49, 101, 54, 51, 100, 55, 55, 98, 99, 101, 98, 51, 101, 49, 50, 56, 100, 100, 49, 50, 49, 55, 53, 51, 32, 99, 117, 116, 32, 97, 116, 32, 101, 115, 99, 104, 101, 97, 116, 47, 101, 115, 99, 104, 101, 97, 116, 108, 97, 119, 50, 51, 46, 70, 114, 101, 97, 100, 83, 112, 97, 110, 115, 32, 101, 115, 99, 104, 101, 97, 116, 47, 101, 115, 99, 104, 101, 97, 116, 108, 97, 119, 50, 51, 46, 70, 114, 101, 97, 100, 79, 110, 99, 101, 32, 101, 115, 99, 104, 101, 97, 116, 47, 101, 115, 99, 104, 101, 97, 116, 108, 97, 119, 50, 51, 46, 70, 114, 101, 97, 100, 80, 97, 114, 116, 115, 32, 101, 115, 99, 104, 101, 97, 116, 47, 101, 115, 99, 104, 101, 97, 116, 108, 97, 119, 50, 50, 46, 70, 109, 97, 112, 79, 119, 110, 115, 32, 101, 115, 99, 104, 101, 97, 116, 47, 101, 115, 99, 104, 101, 97, 116, 108, 97, 119, 50, 49, 46, 86, 105, 101, 119, 82, 101, 97, 100, 115, 32, 101, 115, 99, 104, 101, 97, 116, 47, 101, 115, 99, 104, 101, 97, 116, 108, 97, 119, 50, 49, 46, 86, 105, 101, 119, 66, 97, 99, 107, 32, 101, 115, 99, 104, 101, 97, 116, 47, 101, 115, 99, 104, 101, 97, 116, 108, 97, 119, 50, 49, 46, 86, 105, 101, 119, 79, 110, 32, 101, 115, 99, 104, 101, 97, 116, 47, 101, 115, 99, 104, 101, 97, 116, 108, 97, 119, 50, 50, 46, 70, 109, 97, 112, 68, 105, 114, 115, 32, 101, 115, 99, 104, 101, 97, 116, 47, 101, 115, 99, 104, 101, 97, 116, 108, 97, 119, 50, 52, 46, 68, 114, 101, 97, 100, 79, 110, 99, 101] : List Nat).map Char.ofNat)
set_option maxRecDepth 100000
theorem own_ok : ownKnob Try.prog.godebug = none := by kernel_rfl
theorem laid_ok : laidOutB Try.prog = true := by kernel_rfl
theorem start_eq : Try.prog.initOrder = String.ofList startWords := by kernel_rfl
theorem start_list : Try.prog.initOrder.toList = startWords := by rw [start_eq, String.toList_ofList]
def startRest : List (List Char) := (([[99, 117, 116], [97, 116], [101, 115, 99, 104, 101, 97, 116, 47, 101, 115, 99, 104, 101, 97, 116, 108, 97, 119, 50, 51, 46, 70, 114, 101, 97, 100, 83, 112, 97, 110, 115], [101, 115, 99, 104, 101, 97, 116, 47, 101, 115, 99, 104, 101, 97, 116, 108, 97, 119, 50, 51, 46, 70, 114, 101, 97, 100, 79, 110, 99, 101], [101, 115, 99, 104, 101, 97, 116, 47, 101, 115, 99, 104, 101, 97, 116, 108, 97, 119, 50, 51, 46, 70, 114, 101, 97, 100, 80, 97, 114, 116, 115], [101, 115, 99, 104, 101, 97, 116, 47, 101, 115, 99, 104, 101, 97, 116, 108, 97, 119, 50, 50, 46, 70, 109, 97, 112, 79, 119, 110, 115], [101, 115, 99, 104, 101, 97, 116, 47, 101, 115, 99, 104, 101, 97, 116, 108, 97, 119, 50, 49, 46, 86, 105, 101, 119, 82, 101, 97, 100, 115], [101, 115, 99, 104, 101, 97, 116, 47, 101, 115, 99, 104, 101, 97, 116, 108, 97, 119, 50, 49, 46, 86, 105, 101, 119, 66, 97, 99, 107], [101, 115, 99, 104, 101, 97, 116, 47, 101, 115, 99, 104, 101, 97, 116, 108, 97, 119, 50, 49, 46, 86, 105, 101, 119, 79, 110], [101, 115, 99, 104, 101, 97, 116, 47, 101, 115, 99, 104, 101, 97, 116, 108, 97, 119, 50, 50, 46, 70, 109, 97, 112, 68, 105, 114, 115], [101, 115, 99, 104, 101, 97, 116, 47, 101, 115, 99, 104, 101, 97, 116, 108, 97, 119, 50, 52, 46, 68, 114, 101, 97, 100, 79, 110, 99, 101]] : List (List Nat)).map (fun l => l.map Char.ofNat))
theorem split_eq : wordsSigns startWords = (([104, 97, 114, 110, 101, 115, 115] : List Nat).map Char.ofNat) :: (([102, 53, 49, 98, 54, 51, 100, 100, 54, 97, 57, 49, 52, 55, 49, 97, 52, 49, 55, 51, 48, 53, 98, 100, 50, 53, 100, 51, 52, 98, 48, 51, 50, 50, 54, 51, 53, 54, 57, 49, 49, 101, 54, 51, 100, 55, 55, 98, 99, 101, 98, 51, 101, 49, 50, 56, 100, 100, 49, 50, 49, 55, 53, 51] : List Nat).map Char.ofNat) :: startRest := by kernel_rfl
theorem sum_ok : isSumSigns ((([102, 53, 49, 98, 54, 51, 100, 100, 54, 97, 57, 49, 52, 55, 49, 97, 52, 49, 55, 51, 48, 53, 98, 100, 50, 53, 100, 51, 52, 98, 48, 51, 50, 50, 54, 51, 53, 54, 57, 49, 49, 101, 54, 51, 100, 55, 55, 98, 99, 101, 98, 51, 101, 49, 50, 56, 100, 100, 49, 50, 49, 55, 53, 51] : List Nat).map Char.ofNat)) = true := by decide +kernel
theorem harness_ok : ((([104, 97, 114, 110, 101, 115, 115] : List Nat).map Char.ofNat) == "harness".toList) = true := by decide +kernel
theorem behind_gen (h s : List Char) (r : List (List Char)) (h1 : (h == "harness".toList) = true) (h2 : isSumSigns s = true) : behindMainWord (h :: s :: r) = r := by
  unfold behindMainWord
  simp only [h1, h2, Bool.true_or, Bool.true_and, if_true]
theorem behind_eq : behindMainWord (wordsSigns startWords) = startRest := by rw [split_eq]; exact behind_gen _ _ _ harness_ok sum_ok
theorem start_words : behindMainWord (wordsSigns Try.prog.initOrder.toList) = startRest := by rw [start_list]; exact behind_eq
def startTail : List (List Char) := startRest.drop 1
theorem rest_eq : startRest = "cut".toList :: startTail := by decide +kernel
theorem make_gen {P : Program} {rest : List (List Char)} (h : behindMainWord (wordsSigns P.initOrder.toList) = "cut".toList :: rest) : P.make = some .cut := by
  have e1 : ("cut".toList == "gc".toList) = false := by decide +kernel
  have e2 : ("cut".toList == "spec".toList) = false := by decide +kernel
  have e3 : ("cut".toList == "cut".toList) = true := by decide +kernel
  unfold Program.make
  rw [h]
  simp only [e1, e2, e3, Bool.or_self, Bool.true_or, Bool.false_eq_true, if_false, if_true]
theorem make_ok : Try.prog.make = some .cut := make_gen (start_words.trans rest_eq)
theorem strip_none {w : List Char} {ws : List (List Char)} : ∀ os : List String, (os.all fun o => !(w == o.toList)) = true → stripLifts os (w :: ws) = ([], w :: ws)
  | [], _ => rfl
  | o :: os, h => by
    simp only [List.all_cons, Bool.and_eq_true, Bool.not_eq_true'] at h
    unfold stripLifts
    rw [h.1, if_neg (by simp)]
    exact strip_none os h.2
theorem strip_cut (rest : List (List Char)) : stripLifts liftWords ("cut".toList :: rest) = ([], "cut".toList :: rest) := strip_none _ (by decide +kernel)
theorem later_ok : Try.prog.laysLater = false := by kernel_rfl
theorem reflect_ok : Try.prog.bearsReflect = false := by kernel_rfl
theorem door_ok : Try.prog.doorFits [] = true := by kernel_rfl
theorem enter_gen {P : Program} {rest : List (List Char)} (h : behindMainWord (wordsSigns P.initOrder.toList) = "cut".toList :: rest) (h1 : P.laysLater = false) (h2 : P.bearsReflect = false) (h3 : P.doorFits [] = true) : P.mayEnter = true := by
  unfold Program.mayEnter
  rw [h]
  simp only [strip_cut, h1, h2, h3]
  simp
theorem mayEnter_ok : Try.prog.mayEnter = true := enter_gen (start_words.trans rest_eq) later_ok reflect_ok door_ok
theorem lifts_gen {P : Program} {rest : List (List Char)} (h : behindMainWord (wordsSigns P.initOrder.toList) = "cut".toList :: rest) : P.liftsFinal = false := by
  unfold Program.liftsFinal Program.headLifts
  rw [h]
  simp only [strip_cut]
  simp
theorem lifts_ok : Try.prog.liftsFinal = false := lifts_gen (start_words.trans rest_eq)
end Go.Proofs.Ytdgggnlbdoiloaa
end
