/- What the proof of this claim leans on, part 3. -/
import Derived.Test.YteckncopbicmcaaFTreePathsp2
set_option linter.all false
section
namespace Go.Proofs.Yteckncopbicmcaa
open Go Go.Esc
def A5h (h:Nat) (c:UInt8):Nat:=((h ^^^ c.toNat) * 16777619) % 4294967296
def A70 (h:Nat) (s:List UInt8):Nat:=s.foldl A5h h
def Z8 (s:List UInt8):Nat:=A70 2166136261 s
theorem B62 {h:Nat} {c:UInt8}:A5h h c < 4294967296:=Nat.mod_lt _ (by omega)
theorem C7e {s:List UInt8}:∀ {h:Nat},h < 4294967296 → A70 h s < 4294967296:=by
  induction s with
  | nil=>intro h hh;exact hh
  | cons c s ih=>intro h _;exact ih B62
theorem B61 {s:List UInt8}:Z8 s < 4294967296:=C7e (by omega)
theorem D0K {a:Int}:IntKind.wrap .u32 a=a % 4294967296:=by
  simp only [IntKind.wrap,IntKind.bits,IntKind.signed,Bool.false_and]
  rfl
theorem B66 {s:List UInt8} (hs:s.length < 9223372036854775807) {q:Nat} {h:A0}:∀ (d i m H:Nat),i + d=s.length → d < m → H < 4294967296 →
    A71 q m (.c (.i .u32 H)) (.c (.s s)) (.c (.i .i64 s.length)) (.c (.i .i64 i)) h=some (.c (.i .u32 ((A70 H (s.drop i):Nat):Int)),h)
  | d,i,0,H,_,hm,_=>by omega
  | 0,i,m + 1,H,hi,hm,hH=>by
    have c0:¬ (i:Int) < s.length:=by omega
    rw [B65,List.drop_of_length_le (by omega)]
    simp only [esc,c0,A70,List.foldl_nil]
  | d + 1,i,m + 1,H,hi,hm,hH=>by
    have h2:i < s.length:=by omega
    have hb:=s[i].toNat_lt
    have ih:=B66 hs (q:=q) (h:=h) d (i + 1) m (A5h H s[i]) (by omega) (by omega) B62
    have c0:(i:Int) < s.length:=by omega
    have e1:IntKind.wrap .u32 (s[i].toNat:Int)=s[i].toNat:=wrap_u32 (by omega) (by omega)
    have e2:=D0L (a:=H) (b:=s[i].toNat) hH (by omega)
    have e3:IntKind.wrap .u32 (((H ^^^ s[i].toNat:Nat):Int) * 16777619)=((A5h H s[i]:Nat):Int):=by
      rw [D0K];unfold A5h;omega
    rw [B65,List.drop_eq_getElem_cons h2]
    simp only [esc,c0,A3j h2,e1,e2,e3,E2 (show i + 1 < 9223372036854775808 by omega)]
    exact ih
theorem B67 {s:List UInt8} (hs:s.length < 9223372036854775807) {h:A0}:A1Y [.c (.s s)] h=some (.c (.i .u32 ((Z8 s:Nat):Int)),h):=by
  have hm:∀ h,A4u [.c (.i .u32 2166136261),.c (.s s)] h=some (.c (.i .u32 ((Z8 s:Nat):Int)),h):=fun h=>by
    refine C2K (n:=s.length + 1) (h2:=ro h) ?_ rfl
    rw [C0O]
    have:=B66 hs (q:=s.length + 1) (h:=ro h) s.length 0 (s.length + 1) 2166136261 (by omega) (by omega) (by omega)
    simp only [esc]
    exact this
  refine C2M (n:=0) (h2:=ro h) ?_ rfl
  rw [C0P]
  simp only [esc,hm]
end Go.Proofs.Yteckncopbicmcaa
end
noncomputable section
namespace Go.Proofs.Yteckncopbicmcaa
open Go Go.Esc
set_option maxRecDepth 100000
def B8Z:ACode:=.cond (.t 10) (.seq [2] (.ops [aO 2 (.mv (.v (.c (.i .i64 1))))]) .ret) (.seq [21] (.ops [aO 22 (.fAddr (.t 1) 1),aO 23 (.load1 (.t 22)),aO 24 (.bin .quo (.t 23) (.v (.c (.i .i64 8)))),aO 25 (.bin .add (.v (.c (.i .i64 2))) (.t 24)),aO 26 (.fAddr (.t 1) 0),aO 27 (.load1 (.t 26)),aO 28 (.bin .geq (.t 25) (.t 27)),aO 21 (.mv (.t 28))]) (.cond (.t 21) (.seq [2] (.ops [aO 2 (.mv (.v (.c (.i .i64 1))))]) .ret) .skip))
def B8Y:ACode:=.cond (.t 3) (.seq [2] (.ops [aO 2 (.mv (.v (.c (.i .i64 1))))]) .ret) (.seq [1,10] (.seq [1,10] (.ops [aO 11 (.fAddr (.t 1) 1),aO 12 (.load1 (.t 11)),aO 13 (.bin .lss (.t 12) (.v (.c (.i .i64 8)))),aO 10 (.mv (.t 13))]) (.cond (.t 10) .skip (.seq [1,10] (.ops [aO 14 (.fAddr (.t 1) 1),aO 15 (.load1 (.t 14)),aO 16 (.bin .gtr (.t 15) (.v (.c (.i .i64 128)))),aO 10 (.mv (.t 16))]) (.cond (.t 10) .skip (.ops [aO 17 (.fAddr (.t 1) 1),aO 18 (.load1 (.t 17)),aO 19 (.bin .rem (.t 18) (.v (.c (.i .i64 8)))),aO 20 (.bin .neq (.t 19) (.v (.c (.i .i64 0)))),aO 10 (.mv (.t 20))]))))) B8Z)
def B8X:ACode:=.seq [2] (.ops [aO 2 (.mv (.v (.c (.i .i64 0))))]) .ret
def A_super_Check:AFn:=⟨.seq [1] (.ops [aO 1 (.box (.t 0)),aO 2 (.mv (.v (.c (.i .i64 0))))]) (.seq [] (.block 0 (.seq [1,3] (.seq [1,3] (.ops [aO 4 (.fAddr (.t 1) 0),aO 5 (.load1 (.t 4)),aO 6 (.bin .lss (.t 5) (.v (.c (.i .i64 16)))),aO 3 (.mv (.t 6))]) (.cond (.t 3) .skip (.ops [aO 7 (.fAddr (.t 1) 0),aO 8 (.load1 (.t 7)),aO 9 (.bin .gtr (.t 8) (.v (.c (.i .i64 512)))),aO 3 (.mv (.t 9))]))) B8Y)) B8X),[.tmp 2]⟩
def A2W:A9:=C0
def C9N (n:Nat):B3 (Val × A0):=E3 [] (ax A2W n B8X) A_super_Check.fin
def B80 (n:Nat):B3 (Val × A0):=D7 0 (C9N n)
def B2o (n:Nat) (x1 x3:Val) (h:A0):A6:=hold ((ax A2W n B8Y) (B80 n) [(1,x1),(3,x3)] h)
def A6B (n:Nat) (args:List Val) (h:A0):A6:=ax A2W n A_super_Check.code A_super_Check.fin (params 0 args) h
def A8F (n:Nat) (x1 x10:Val) (h:A0):A6:=hold ((ax A2W n B8Z) (B80 n) [(1,x1),(10,x10)] h)
theorem C08 (n:Nat) (a0:Val) (h:A0):A6B n [a0] h=bnd (cells? a0) fun c1=>bnd (B4 (.c (.p h.length 0)) 0) fun v2=>bnd (A4 (h ++ [some (Row.mk (c1) true)]) v2) fun v3=>bnd (A2 .lss v3 (.c (.i .i64 16))) fun v4=>cnd v4 (B2o n (.c (.p h.length 0)) v4 (h ++ [some (Row.mk (c1) true)])) (bnd (B4 (.c (.p h.length 0)) 0) fun v5=>bnd (A4 (h ++ [some (Row.mk (c1) true)]) v5) fun v6=>bnd (A2 .gtr v6 (.c (.i .i64 512))) fun v7=>B2o n (.c (.p h.length 0)) v7 (h ++ [some (Row.mk (c1) true)])):=by kernel_rfl
theorem A2L (n:Nat) (x1 x3:Val) (h:A0):B2o n x1 x3 h=cnd x3 (some ((.c (.i .i64 1)),h)) (bnd (B4 x1 1) fun v8=>bnd (A4 h v8) fun v9=>bnd (A2 .lss v9 (.c (.i .i64 8))) fun v10=>cnd v10 (A8F n x1 v10 h) (bnd (B4 x1 1) fun v11=>bnd (A4 h v11) fun v12=>bnd (A2 .gtr v12 (.c (.i .i64 128))) fun v13=>cnd v13 (A8F n x1 v13 h) (bnd (B4 x1 1) fun v14=>bnd (A4 h v14) fun v15=>bnd (A2 .rem v15 (.c (.i .i64 8))) fun v16=>bnd (A2 .neq v16 (.c (.i .i64 0))) fun v17=>A8F n x1 v17 h))):=by kernel_rfl
theorem A5C (n:Nat) (x1 x10:Val) (h:A0):A8F n x1 x10 h=cnd x10 (some ((.c (.i .i64 1)),h)) (bnd (B4 x1 1) fun v18=>bnd (A4 h v18) fun v19=>bnd (A2 .quo v19 (.c (.i .i64 8))) fun v20=>bnd (A2 .add (.c (.i .i64 2)) v20) fun v21=>bnd (B4 x1 0) fun v22=>bnd (A4 h v22) fun v23=>bnd (A2 .geq v21 v23) fun v24=>cnd v24 (some ((.c (.i .i64 1)),h)) (some ((.c (.i .i64 0)),h))):=by kernel_rfl
theorem K_super_Check:FnK Try.prog 65 A_super_Check A2W A6B:=.mk' (C2) Try.func65 (by kernel_rfl) (fun _ _ _=>C1)
def A11:Fun:=tidy (Lim A_super_Check A2W)
theorem B3s:SOk Try.prog 65 A11:=K_super_Check.sok
theorem C3e:D5 A6B A11:=K_super_Check.flat
def A_super_Put:AFn:=⟨.seq [1,2] (.ops [aO 1 (.box (.t 0)),aO 2 (.alloc (List.replicate 256 (.i .u8 0))),aO 3 (.mv (.v (.c (.i .i64 0))))]) (.seq [1,2] (.seq [1,2,4] (.ops [aO 9 (.loadN 3 (.t 1)),aO 10 (.call 65 [(.t 9)]),aO 4 (.mv (.t 10))]) (.seq [1,2,4,12] (.ops [aO 11 (.mv (.t 4)),aO 12 (.bin .neq (.t 11) (.v (.c (.i .i64 0))))]) (.cond (.t 12) (.seq [2,3] (.ops [aO 13 (.build (List.replicate 256 (.i .u8 0)) []),aO 14 (.mv (.t 4)),aN (.storeN 256 (.t 2) (.t 13)),aO 3 (.mv (.t 14))]) .ret) .skip))) (.seq [1,2,5] (.ops [aO 15 (.buildSl 1 8 ([.i .u8 0,.i .u8 0,.i .u8 0,.i .u8 0,.i .u8 0,.i .u8 0,.i .u8 0,.i .u8 0]) [(0,1,(.v (.c (.i .u8 101)))),(1,1,(.v (.c (.i .u8 115)))),(2,1,(.v (.c (.i .u8 99)))),(3,1,(.v (.c (.i .u8 104)))),(4,1,(.v (.c (.i .u8 101)))),(5,1,(.v (.c (.i .u8 97)))),(6,1,(.v (.c (.i .u8 116)))),(7,1,(.v (.c (.i .u8 49))))]),aO 16 (.mark (.t 15)),aO 17 (.call 66 [(.t 16)]),aO 5 (.alloc (List.replicate 256 (.i .u8 0))),aN (.storeN 256 (.t 5) (.t 17))]) (.seq [1,2,5] (.ops [aO 18 (.loadN 256 (.t 5)),aO 19 (.fAddr (.t 1) 0),aO 20 (.load1 (.t 19)),aO 21 (.call 67 [(.t 18),(.v (.c (.i .i64 8))),(.v (.c (.i .i64 2))),(.t 20)]),aN (.storeN 256 (.t 5) (.t 21))]) (.seq [1,2,5] (.ops [aO 22 (.loadN 256 (.t 5)),aO 23 (.fAddr (.t 1) 1),aO 24 (.load1 (.t 23)),aO 25 (.call 67 [(.t 22),(.v (.c (.i .i64 10))),(.v (.c (.i .i64 2))),(.t 24)]),aN (.storeN 256 (.t 5) (.t 25))]) (.seq [2,5,6] (.draw 1 [aS 27 0 (.mkSl 1 ([.i .u8 0]) (.v (.c (.i .i64 8))) (.v (.c (.i .i64 8)))),aO 28 (.fAddr (.t 1) 2),aO 29 (.load1 (.t 28)),aO 30 (.call 68 [(.t 27),(.v (.c (.i .i64 0))),(.v (.c (.i .i64 8))),(.t 29)]),aO 26 (.mv (.t 30)),aO 31 (.ext (.t 26) 0),aO 32 (.ext (.t 26) 1),aO 6 (.mv (.t 31))] [aO 7 (.mv (.t 32))]) (.seq [2,5] (.ops [aO 33 (.loadN 256 (.t 5)),aO 34 (.mv (.t 6)),aO 35 (.call 69 [(.t 33),(.v (.c (.i .i64 12))),(.t 34)]),aN (.storeN 256 (.t 5) (.t 35))]) (.seq [2,5,8] (.ops [aO 36 (.loadN 256 (.t 5)),aO 37 (.call 46 [(.t 36),(.v (.c (.i .i64 0))),(.v (.c (.i .i64 20)))]),aO 38 (.b2s (.t 37)),aO 39 (.call 56 [(.t 38)]),aO 8 (.mv (.t 39))]) (.seq [2,3] (.ops [aO 40 (.loadN 256 (.t 5)),aO 41 (.mv (.t 8)),aO 42 (.conv .i64 (.t 41)),aO 43 (.call 67 [(.t 40),(.v (.c (.i .i64 20))),(.v (.c (.i .i64 4))),(.t 42)]),aN (.storeN 256 (.t 2) (.t 43)),aO 3 (.mv (.v (.c (.i .i64 0))))]) .ret)))))))),[.cellN 2 256,.tmp 3]⟩
def A9z:A9:=B0 65 A11 (B0 66 Y3 (B0 67 Q8 (B0 68 A4z (B0 69 A0I (B0 46 Y2 (B0 56 A1Y C0))))))
def A6D (n:Nat) (args:List Val) (h:A0):A6:=ax A9z n A_super_Put.code A_super_Put.fin (params 0 args) h
theorem C1a (n:Nat) (a0:Val) (h:A0):A6D n [a0] h=bnd (cells? a0) fun c1=>bnd (A3 ((h ++ [some (Row.mk (c1) true)]) ++ [some (Row.mk (List.replicate 256 (.i .u8 0)) true)]) 3 (.c (.p h.length 0))) fun v2=>bnd (A11 [v2] ((h ++ [some (Row.mk (c1) true)]) ++ [some (Row.mk (List.replicate 256 (.i .u8 0)) true)])) fun p3=>bnd (A2 .neq p3.1 (.c (.i .i64 0))) fun v4=>cnd v4 (bnd (A7 (List.replicate 256 (.i .u8 0)) []) fun c5=>bnd (A8 p3.2 256 (.c (.p (h ++ [some (Row.mk (c1) true)]).length 0)) (.a c5)) fun h6=>C7 [A3 h6 256 (.c (.p (h ++ [some (Row.mk (c1) true)]).length 0)),some p3.1] h6) (bnd (A7 ([.i .u8 0,.i .u8 0,.i .u8 0,.i .u8 0,.i .u8 0,.i .u8 0,.i .u8 0,.i .u8 0]) [(0,1,.c (.i .u8 101)),(1,1,.c (.i .u8 115)),(2,1,.c (.i .u8 99)),(3,1,.c (.i .u8 104)),(4,1,.c (.i .u8 101)),(5,1,.c (.i .u8 97)),(6,1,.c (.i .u8 116)),(7,1,.c (.i .u8 49))]) fun c7=>bnd (U5 (p3.2 ++ [some (Row.mk (c7) true)]) (.c (.sl p3.2.length 0 8 1))) fun v8=>bnd (Y3 [v8] (p3.2 ++ [some (Row.mk (c7) true)])) fun p9=>bnd (A8 (p9.2 ++ [some (Row.mk (List.replicate 256 (.i .u8 0)) true)]) 256 (.c (.p p9.2.length 0)) p9.1) fun h10=>bnd (A3 h10 256 (.c (.p p9.2.length 0))) fun v11=>bnd (B4 (.c (.p h.length 0)) 0) fun v12=>bnd (A4 h10 v12) fun v13=>bnd (Q8 [v11,.c (.i .i64 8),.c (.i .i64 2),v13] h10) fun p14=>bnd (A8 p14.2 256 (.c (.p p9.2.length 0)) p14.1) fun h15=>bnd (A3 h15 256 (.c (.p p9.2.length 0))) fun v16=>bnd (B4 (.c (.p h.length 0)) 1) fun v17=>bnd (A4 h15 v17) fun v18=>bnd (Q8 [v16,.c (.i .i64 10),.c (.i .i64 2),v18] h15) fun p19=>bnd (A8 p19.2 256 (.c (.p p9.2.length 0)) p19.1) fun h20=>bnd (A0P (.c (.i .i64 8)) (.c (.i .i64 8))) fun n21=>bnd (B4 (.c (.p h.length 0)) 2) fun v22=>bnd (A4 h20 v22) fun v23=>bnd (quiet ((h20 ++ [none]).set (h20.length + 0) (some (Row.mk (rows ([.i .u8 0]) n21) true))) (A4z [(.c (.sl (h20.length + 0) 0 n21 1)),.c (.i .i64 0),.c (.i .i64 8),v23] ((h20 ++ [none]).set (h20.length + 0) (some (Row.mk (rows ([.i .u8 0]) n21) true))))) fun p24=>bnd (C3 p24.1 0) fun v25=>bnd (C3 p24.1 1) fun v26=>bnd (A3 p24.2 256 (.c (.p p9.2.length 0))) fun v27=>bnd (A0I [v27,.c (.i .i64 12),v25] p24.2) fun p28=>bnd (A8 p28.2 256 (.c (.p p9.2.length 0)) p28.1) fun h29=>bnd (A3 h29 256 (.c (.p p9.2.length 0))) fun v30=>bnd (Y2 [v30,.c (.i .i64 0),.c (.i .i64 20)] h29) fun p31=>bnd (Q9 p31.2 p31.1) fun v32=>bnd (A1Y [v32] p31.2) fun p33=>bnd (A3 p33.2 256 (.c (.p p9.2.length 0))) fun v34=>bnd (K9 .i64 p33.1) fun v35=>bnd (Q8 [v34,.c (.i .i64 20),.c (.i .i64 4),v35] p33.2) fun p36=>bnd (A8 p36.2 256 (.c (.p (h ++ [some (Row.mk (c1) true)]).length 0)) p36.1) fun h37=>C7 [A3 h37 256 (.c (.p (h ++ [some (Row.mk (c1) true)]).length 0)),some (.c (.i .i64 0))] h37):=by kernel_rfl
theorem K_super_Put:FnK Try.prog 41 A_super_Put A9z A6D:=.mk' (B1 B3s (B1 A6T (B1 B0a (B1 C22 (B1 A99 (B1 A6S (B1 B3o C2))))))) Try.func41 (by kernel_rfl) (fun _ _ _=>C1)
def A12:Fun:=tidy (Lim A_super_Put A9z)
theorem B3t:SOk Try.prog 41 A12:=K_super_Put.sok
theorem C3h:D5 A6D A12:=K_super_Put.flat
def A_super_Get:AFn:=⟨.seq [1,2] (.ops [aO 1 (.box (.t 0)),aO 2 (.alloc ([.i .i64 0,.i .i64 0,.i .u64 0])),aO 3 (.mv (.v (.c (.i .i64 0))))]) (.seq [1,2,4] (.ops [aO 10 (.loadN 256 (.t 1)),aO 11 (.call 46 [(.t 10),(.v (.c (.i .i64 12))),(.v (.c (.i .i64 8)))]),aO 12 (.call 45 [(.t 11),(.v (.c (.i .i64 0))),(.v (.c (.i .i64 8)))]),aO 9 (.mv (.t 12)),aO 13 (.ext (.t 9) 0),aO 14 (.ext (.t 9) 1),aO 4 (.mv (.t 13)),aO 5 (.mv (.t 14))]) (.seq [1,2,6] (.draw 1 [aO 15 (.loadN 256 (.t 1)),aO 16 (.call 47 [(.t 15),(.v (.c (.i .i64 8))),(.v (.c (.i .i64 2)))]),aO 17 (.loadN 256 (.t 1)),aO 18 (.call 47 [(.t 17),(.v (.c (.i .i64 10))),(.v (.c (.i .i64 2)))]),aO 19 (.mv (.t 4)),aO 20 (.build ([.i .i64 0,.i .i64 0,.i .u64 0]) [(0,1,(.t 16)),(1,1,(.t 18)),(2,1,(.t 19))]),aS 6 0 (.alloc ([.i .i64 0,.i .i64 0,.i .u64 0]))] [aN (.storeN 3 (.t 6) (.t 20))]) (.seq [2,6] (.seq [1,2,6,7,8] (.ops [aO 22 (.loadN 3 (.t 6)),aO 23 (.call 41 [(.t 22)]),aO 21 (.mv (.t 23)),aO 24 (.ext (.t 21) 0),aO 25 (.ext (.t 21) 1),aO 7 (.alloc (List.replicate 256 (.i .u8 0))),aN (.storeN 256 (.t 7) (.t 24)),aO 8 (.mv (.t 25))]) (.seq [2,6,32] (.ops [aO 26 (.mv (.t 8)),aO 27 (.bin .neq (.t 26) (.v (.c (.i .i64 0)))),aO 28 (.mv (.t 27)),aG 29 28 false (.loadN 256 (.t 7)),aG 30 28 false (.loadN 256 (.t 1)),aG 31 28 false (.eqA true (List.replicate 256 (.i .u8)) (.t 29) (.t 30)),aO 32 (.pick (.t 28) (.v (.c (.b true))) (.t 31))]) (.cond (.t 32) (.seq [2,3] (.ops [aO 33 (.build ([.i .i64 0,.i .i64 0,.i .u64 0]) []),aN (.storeN 3 (.t 2) (.t 33)),aO 3 (.mv (.v (.c (.i .i64 13))))]) .ret) .skip))) (.seq [2,3] (.ops [aO 34 (.loadN 3 (.t 6)),aN (.storeN 3 (.t 2) (.t 34)),aO 3 (.mv (.v (.c (.i .i64 0))))]) .ret)))),[.cellN 2 3,.tmp 3]⟩
def A9y:A9:=B0 46 Y2 (B0 45 A4y (B0 47 M0 (B0 41 A12 C0)))
def A6C (n:Nat) (args:List Val) (h:A0):A6:=ax A9y n A_super_Get.code A_super_Get.fin (params 0 args) h
theorem C09 (n:Nat) (a0:Val) (h:A0):A6C n [a0] h=bnd (cells? a0) fun c1=>bnd (A3 ((h ++ [some (Row.mk (c1) true)]) ++ [some (Row.mk ([.i .i64 0,.i .i64 0,.i .u64 0]) true)]) 256 (.c (.p h.length 0))) fun v2=>bnd (Y2 [v2,.c (.i .i64 12),.c (.i .i64 8)] ((h ++ [some (Row.mk (c1) true)]) ++ [some (Row.mk ([.i .i64 0,.i .i64 0,.i .u64 0]) true)])) fun p3=>bnd (A4y [p3.1,.c (.i .i64 0),.c (.i .i64 8)] p3.2) fun p4=>bnd (C3 p4.1 0) fun v5=>bnd (C3 p4.1 1) fun v6=>bnd (A3 p4.2 256 (.c (.p h.length 0))) fun v7=>bnd (quiet (p4.2 ++ [none]) (M0 [v7,.c (.i .i64 8),.c (.i .i64 2)] (p4.2 ++ [none]))) fun p8=>bnd (A3 p4.2 256 (.c (.p h.length 0))) fun v9=>bnd (quiet p8.2 (M0 [v9,.c (.i .i64 10),.c (.i .i64 2)] p8.2)) fun p10=>bnd (A7 ([.i .i64 0,.i .i64 0,.i .u64 0]) [(0,1,p8.1),(1,1,p10.1),(2,1,v5)]) fun c11=>bnd (A8 (p10.2.set (p4.2.length + 0) (some (Row.mk ([.i .i64 0,.i .i64 0,.i .u64 0]) true))) 3 (.c (.p (p4.2.length + 0) 0)) (.a c11)) fun h12=>bnd (A3 h12 3 (.c (.p (p4.2.length + 0) 0))) fun v13=>bnd (A12 [v13] h12) fun p14=>bnd (C3 p14.1 0) fun v15=>bnd (C3 p14.1 1) fun v16=>bnd (A8 (p14.2 ++ [some (Row.mk (List.replicate 256 (.i .u8 0)) true)]) 256 (.c (.p p14.2.length 0)) v15) fun h17=>bnd (A2 .neq v16 (.c (.i .i64 0))) fun v18=>bnd (gd v18 false (bnd (A3 h17 256 (.c (.p p14.2.length 0))) fun v19=>some (v19,h17)) (some (.no,h17))) fun p20=>bnd (gd v18 false (bnd (A3 p20.2 256 (.c (.p h.length 0))) fun v21=>some (v21,p20.2)) (some (.no,p20.2))) fun p22=>bnd (gd v18 false (bnd (aeq true (List.replicate 256 (.i .u8)) p20.1 p22.1) fun v23=>some (v23,p22.2)) (some (.no,p22.2))) fun p24=>bnd (D3 v18 (.c (.b true)) p24.1) fun v25=>cnd v25 (bnd (A7 ([.i .i64 0,.i .i64 0,.i .u64 0]) []) fun c26=>bnd (A8 p24.2 3 (.c (.p (h ++ [some (Row.mk (c1) true)]).length 0)) (.a c26)) fun h27=>C7 [A3 h27 3 (.c (.p (h ++ [some (Row.mk (c1) true)]).length 0)),some (.c (.i .i64 13))] h27) (bnd (A3 p24.2 3 (.c (.p (p4.2.length + 0) 0))) fun v28=>bnd (A8 p24.2 3 (.c (.p (h ++ [some (Row.mk (c1) true)]).length 0)) v28) fun h29=>C7 [A3 h29 3 (.c (.p (h ++ [some (Row.mk (c1) true)]).length 0)),some (.c (.i .i64 0))] h29):=by kernel_rfl
theorem K_super_Get:FnK Try.prog 22 A_super_Get A9y A6C:=.mk' (B1 A6S (B1 C2Z (B1 A4x (B1 B3t C2)))) Try.func22 (by kernel_rfl) (fun _ _ _=>C1)
def A4E:Fun:=tidy (Lim A_super_Get A9y)
theorem C3g:SOk Try.prog 22 A4E:=K_super_Get.sok
theorem C3f:D5 A6C A4E:=K_super_Get.flat
end Go.Proofs.Yteckncopbicmcaa
end
noncomputable section
namespace Go.Proofs.Yteckncopbicmcaa
open Go Go.Esc
set_option maxRecDepth 100000
def A_geom_ok:AFn:=⟨.seq [1] (.ops [aO 1 (.box (.t 0)),aO 2 (.mv (.v (.c (.b false))))]) (.seq [2] (.ops [aO 3 (.loadN 3 (.t 1)),aO 4 (.call 65 [(.t 3)]),aO 5 (.bin .eql (.t 4) (.v (.c (.i .i64 0)))),aO 2 (.mv (.t 5))]) .ret),[.tmp 2]⟩
def A9i:A9:=B0 65 A11 C0
def A6a (n:Nat) (args:List Val) (h:A0):A6:=ax A9i n A_geom_ok.code A_geom_ok.fin (params 0 args) h
theorem C0y (n:Nat) (a0:Val) (h:A0):A6a n [a0] h=bnd (cells? a0) fun c1=>bnd (A3 (h ++ [some (Row.mk (c1) true)]) 3 (.c (.p h.length 0))) fun v2=>bnd (A11 [v2] (h ++ [some (Row.mk (c1) true)])) fun p3=>bnd (A2 .eql p3.1 (.c (.i .i64 0))) fun v4=>some (v4,p3.2):=by kernel_rfl
theorem K_geom_ok:FnK Try.prog 57 A_geom_ok A9i A6a:=.mk' (B1 B3s C2) Try.func57 (by kernel_rfl) (fun _ _ _=>C1)
def A0F:Fun:=tidy (Lim A_geom_ok A9i)
theorem A97:SOk Try.prog 57 A0F:=K_geom_ok.sok
theorem C2k:D5 A6a A0F:=K_geom_ok.flat
def A_geom_IsInode:AFn:=⟨.seq [1,2] (.ops [aO 2 (.box (.t 0)),aO 4 (.mv (.v (.c (.b false))))]) (.seq [4] (.ops [aO 5 (.loadN 3 (.t 2)),aO 6 (.call 57 [(.t 5)]),aO 7 (.mv (.t 6)),aG 8 7 true (.mv (.t 1)),aG 9 7 true (.bin .geq (.t 8) (.v (.c (.i .i64 1)))),aO 10 (.pick (.t 7) (.t 9) (.v (.c (.b false)))),aO 11 (.mv (.t 10)),aG 12 11 true (.mv (.t 1)),aG 13 11 true (.fAddr (.t 2) 1),aG 14 11 true (.load1 (.t 13)),aG 15 11 true (.bin .leq (.t 12) (.t 14)),aO 16 (.pick (.t 11) (.t 15) (.v (.c (.b false)))),aO 4 (.mv (.t 16))]) .ret),[.tmp 4]⟩
def A9e:A9:=B0 57 A0F C0
def A57 (n:Nat) (args:List Val) (h:A0):A6:=ax A9e n A_geom_IsInode.code A_geom_IsInode.fin (params 0 args) h
theorem C0u (n:Nat) (a0 a1:Val) (h:A0):A57 n [a0,a1] h=bnd (cells? a0) fun c1=>bnd (A3 (h ++ [some (Row.mk (c1) true)]) 3 (.c (.p h.length 0))) fun v2=>bnd (A0F [v2] (h ++ [some (Row.mk (c1) true)])) fun p3=>bnd (gd p3.1 true (some (a1,p3.2)) (some (.no,p3.2))) fun p4=>bnd (gd p3.1 true (bnd (A2 .geq p4.1 (.c (.i .i64 1))) fun v5=>some (v5,p4.2)) (some (.no,p4.2))) fun p6=>bnd (D3 p3.1 p6.1 (.c (.b false))) fun v7=>bnd (gd v7 true (some (a1,p6.2)) (some (.no,p6.2))) fun p8=>bnd (gd v7 true (bnd (B4 (.c (.p h.length 0)) 1) fun v9=>some (v9,p8.2)) (some (.no,p8.2))) fun p10=>bnd (gd v7 true (bnd (A4 p10.2 p10.1) fun v11=>some (v11,p10.2)) (some (.no,p10.2))) fun p12=>bnd (gd v7 true (bnd (A2 .leq p8.1 p12.1) fun v13=>some (v13,p12.2)) (some (.no,p12.2))) fun p14=>bnd (D3 v7 p14.1 (.c (.b false))) fun v15=>some (v15,p14.2):=by kernel_rfl
theorem K_geom_IsInode:FnK Try.prog 48 A_geom_IsInode A9e A57:=.mk' (B1 A97 C2) Try.func48 (by kernel_rfl) (fun _ _ _=>C1)
def A4i:Fun:=tidy (Lim A_geom_IsInode A9e)
theorem C2e:SOk Try.prog 48 A4i:=K_geom_IsInode.sok
theorem C2d:D5 A57 A4i:=K_geom_IsInode.flat
def A_geom_Map:AFn:=⟨.seq [] (.ops [aO 0 (.mv (.v (.c (.i .i64 0))))]) (.seq [0] (.ops [aO 0 (.mv (.v (.c (.i .i64 1))))]) .ret),[.tmp 0]⟩
def A9f:A9:=C0
def A9S (n:Nat) (args:List Val) (h:A0):A6:=ax A9f n A_geom_Map.code A_geom_Map.fin (params 0 args) h
theorem C0v (n:Nat) (h:A0):A9S n [] h=some ((.c (.i .i64 1)),h):=by kernel_rfl
theorem K_geom_Map:FnK Try.prog 79 A_geom_Map A9f A9S:=.mk' (C2) Try.func79 (by kernel_rfl) (fun _ _ _=>C1)
def A4j:Fun:=tidy (Lim A_geom_Map A9f)
theorem C2g:SOk Try.prog 79 A4j:=K_geom_Map.sok
theorem C2f:D5 A9S A4j:=K_geom_Map.flat
def A_geom_Table:AFn:=⟨.seq [1] (.ops [aO 1 (.box (.t 0)),aO 2 (.mv (.v (.c (.i .i64 0)))),aO 3 (.mv (.v (.c (.i .i64 0))))]) (.seq [1] (.seq [1,6] (.ops [aO 4 (.loadN 3 (.t 1)),aO 5 (.call 57 [(.t 4)]),aO 6 (.un .not (.t 5))]) (.cond (.t 6) (.seq [2,3] (.ops [aO 2 (.mv (.v (.c (.i .i64 0)))),aO 3 (.mv (.v (.c (.i .i64 0))))]) .ret) .skip)) (.seq [2,3] (.draw 0 [aO 7 (.call 79 []),aO 8 (.bin .add (.t 7) (.v (.c (.i .i64 1)))),aO 9 (.fAddr (.t 1) 1),aO 10 (.load1 (.t 9)),aO 11 (.bin .quo (.t 10) (.v (.c (.i .i64 8)))),aO 2 (.mv (.t 8))] [aO 3 (.mv (.t 11))]) .ret)),[.tmp 2,.tmp 3]⟩
def A9g:A9:=B0 57 A0F (B0 79 A4j C0)
def A58 (n:Nat) (args:List Val) (h:A0):A6:=ax A9g n A_geom_Table.code A_geom_Table.fin (params 0 args) h
theorem C0w (n:Nat) (a0:Val) (h:A0):A58 n [a0] h=bnd (cells? a0) fun c1=>bnd (A3 (h ++ [some (Row.mk (c1) true)]) 3 (.c (.p h.length 0))) fun v2=>bnd (A0F [v2] (h ++ [some (Row.mk (c1) true)])) fun p3=>bnd (aun .not p3.1) fun v4=>cnd v4 (C7 [some (.c (.i .i64 0)),some (.c (.i .i64 0))] p3.2) (bnd (quiet (p3.2 ++ []) (A4j [] (p3.2 ++ []))) fun p5=>bnd (A2 .add p5.1 (.c (.i .i64 1))) fun v6=>bnd (B4 (.c (.p h.length 0)) 1) fun v7=>bnd (A4 p3.2 v7) fun v8=>bnd (A2 .quo v8 (.c (.i .i64 8))) fun v9=>C7 [some v6,some v9] p5.2):=by kernel_rfl
theorem K_geom_Table:FnK Try.prog 49 A_geom_Table A9g A58:=.mk' (B1 A97 (B1 C2g C2)) Try.func49 (by kernel_rfl) (fun _ _ _=>C1)
def A1S:Fun:=tidy (Lim A_geom_Table A9g)
theorem B3j:SOk Try.prog 49 A1S:=K_geom_Table.sok
theorem C2h:D5 A58 A1S:=K_geom_Table.flat
def A_geom_Where:AFn:=⟨.seq [1,2] (.ops [aO 2 (.box (.t 0)),aO 4 (.mv (.v (.c (.i .i64 0)))),aO 5 (.mv (.v (.c (.i .i64 0)))),aO 6 (.mv (.v (.c (.b false))))]) (.seq [1,2] (.seq [1,2,12] (.ops [aO 9 (.loadN 3 (.t 2)),aO 10 (.mv (.t 1)),aO 11 (.call 48 [(.t 9),(.t 10)]),aO 12 (.un .not (.t 11))]) (.cond (.t 12) (.seq [4,5,6] (.ops [aO 4 (.mv (.v (.c (.i .i64 0)))),aO 5 (.mv (.v (.c (.i .i64 0)))),aO 6 (.mv (.v (.c (.b false))))]) .ret) .skip)) (.seq [1,7] (.ops [aO 14 (.loadN 3 (.t 2)),aO 15 (.call 49 [(.t 14)]),aO 13 (.mv (.t 15)),aO 16 (.ext (.t 13) 0),aO 17 (.ext (.t 13) 1),aO 7 (.mv (.t 16)),aO 8 (.mv (.t 17))]) (.seq [4,5,6] (.ops [aO 18 (.mv (.t 7)),aO 19 (.mv (.t 1)),aO 20 (.bin .sub (.t 19) (.v (.c (.i .i64 1)))),aO 21 (.bin .quo (.t 20) (.v (.c (.i .i64 8)))),aO 22 (.bin .add (.t 18) (.t 21)),aO 23 (.mv (.t 1)),aO 24 (.bin .sub (.t 23) (.v (.c (.i .i64 1)))),aO 25 (.bin .rem (.t 24) (.v (.c (.i .i64 8)))),aO 4 (.mv (.t 22)),aO 5 (.mv (.t 25)),aO 6 (.mv (.v (.c (.b true))))]) .ret))),[.tmp 4,.tmp 5,.tmp 6]⟩
def A9h:A9:=B0 48 A4i (B0 49 A1S C0)
def A59 (n:Nat) (args:List Val) (h:A0):A6:=ax A9h n A_geom_Where.code A_geom_Where.fin (params 0 args) h
theorem C0x (n:Nat) (a0 a1:Val) (h:A0):A59 n [a0,a1] h=bnd (cells? a0) fun c1=>bnd (A3 (h ++ [some (Row.mk (c1) true)]) 3 (.c (.p h.length 0))) fun v2=>bnd (A4i [v2,a1] (h ++ [some (Row.mk (c1) true)])) fun p3=>bnd (aun .not p3.1) fun v4=>cnd v4 (C7 [some (.c (.i .i64 0)),some (.c (.i .i64 0)),some (.c (.b false))] p3.2) (bnd (A3 p3.2 3 (.c (.p h.length 0))) fun v5=>bnd (A1S [v5] p3.2) fun p6=>bnd (C3 p6.1 0) fun v7=>bnd (C3 p6.1 1) fun v8=>bnd (A2 .sub a1 (.c (.i .i64 1))) fun v9=>bnd (A2 .quo v9 (.c (.i .i64 8))) fun v10=>bnd (A2 .add v7 v10) fun v11=>bnd (A2 .sub a1 (.c (.i .i64 1))) fun v12=>bnd (A2 .rem v12 (.c (.i .i64 8))) fun v13=>C7 [some v11,some v13,some (.c (.b true))] p6.2):=by kernel_rfl
theorem K_geom_Where:FnK Try.prog 24 A_geom_Where A9h A59:=.mk' (B1 C2e (B1 B3j C2)) Try.func24 (by kernel_rfl) (fun _ _ _=>C1)
def A4k:Fun:=tidy (Lim A_geom_Where A9h)
theorem C2j:SOk Try.prog 24 A4k:=K_geom_Where.sok
theorem C2i:D5 A59 A4k:=K_geom_Where.flat
def A_geom_Data:AFn:=⟨.seq [1] (.ops [aO 1 (.box (.t 0)),aO 2 (.mv (.v (.c (.i .i64 0))))]) (.seq [3,4] (.ops [aO 6 (.loadN 3 (.t 1)),aO 7 (.call 49 [(.t 6)]),aO 5 (.mv (.t 7)),aO 8 (.ext (.t 5) 0),aO 9 (.ext (.t 5) 1),aO 3 (.mv (.t 8)),aO 4 (.mv (.t 9))]) (.seq [2] (.ops [aO 10 (.mv (.t 3)),aO 11 (.mv (.t 4)),aO 12 (.bin .add (.t 10) (.t 11)),aO 2 (.mv (.t 12))]) .ret)),[.tmp 2]⟩
def A9c:A9:=B0 49 A1S C0
def A55 (n:Nat) (args:List Val) (h:A0):A6:=ax A9c n A_geom_Data.code A_geom_Data.fin (params 0 args) h
theorem C0s (n:Nat) (a0:Val) (h:A0):A55 n [a0] h=bnd (cells? a0) fun c1=>bnd (A3 (h ++ [some (Row.mk (c1) true)]) 3 (.c (.p h.length 0))) fun v2=>bnd (A1S [v2] (h ++ [some (Row.mk (c1) true)])) fun p3=>bnd (C3 p3.1 0) fun v4=>bnd (C3 p3.1 1) fun v5=>bnd (A2 .add v4 v5) fun v6=>some (v6,p3.2):=by kernel_rfl
theorem K_geom_Data:FnK Try.prog 58 A_geom_Data A9c A55:=.mk' (B1 B3j C2) Try.func58 (by kernel_rfl) (fun _ _ _=>C1)
def A4h:Fun:=tidy (Lim A_geom_Data A9c)
theorem C2b:SOk Try.prog 58 A4h:=K_geom_Data.sok
theorem C2a:D5 A55 A4h:=K_geom_Data.flat
def A_geom_IsData:AFn:=⟨.seq [1,2] (.ops [aO 2 (.box (.t 0)),aO 4 (.mv (.v (.c (.b false))))]) (.seq [4] (.ops [aO 5 (.loadN 3 (.t 2)),aO 6 (.call 57 [(.t 5)]),aO 7 (.mv (.t 6)),aG 8 7 true (.mv (.t 1)),aG 9 7 true (.loadN 3 (.t 2)),aG 10 7 true (.call 58 [(.t 9)]),aG 11 7 true (.bin .geq (.t 8) (.t 10)),aO 12 (.pick (.t 7) (.t 11) (.v (.c (.b false)))),aO 13 (.mv (.t 12)),aG 14 13 true (.mv (.t 1)),aG 15 13 true (.fAddr (.t 2) 0),aG 16 13 true (.load1 (.t 15)),aG 17 13 true (.bin .lss (.t 14) (.t 16)),aO 18 (.pick (.t 13) (.t 17) (.v (.c (.b false)))),aO 4 (.mv (.t 18))]) .ret),[.tmp 4]⟩
def A9d:A9:=B0 57 A0F (B0 58 A4h C0)
def A56 (n:Nat) (args:List Val) (h:A0):A6:=ax A9d n A_geom_IsData.code A_geom_IsData.fin (params 0 args) h
theorem C0t (n:Nat) (a0 a1:Val) (h:A0):A56 n [a0,a1] h=bnd (cells? a0) fun c1=>bnd (A3 (h ++ [some (Row.mk (c1) true)]) 3 (.c (.p h.length 0))) fun v2=>bnd (A0F [v2] (h ++ [some (Row.mk (c1) true)])) fun p3=>bnd (gd p3.1 true (some (a1,p3.2)) (some (.no,p3.2))) fun p4=>bnd (gd p3.1 true (bnd (A3 p4.2 3 (.c (.p h.length 0))) fun v5=>some (v5,p4.2)) (some (.no,p4.2))) fun p6=>bnd (gd p3.1 true (bnd (A4h [p6.1] p6.2) fun p7=>some (p7.1,p7.2)) (some (.no,p6.2))) fun p8=>bnd (gd p3.1 true (bnd (A2 .geq p4.1 p8.1) fun v9=>some (v9,p8.2)) (some (.no,p8.2))) fun p10=>bnd (D3 p3.1 p10.1 (.c (.b false))) fun v11=>bnd (gd v11 true (some (a1,p10.2)) (some (.no,p10.2))) fun p12=>bnd (gd v11 true (bnd (B4 (.c (.p h.length 0)) 0) fun v13=>some (v13,p12.2)) (some (.no,p12.2))) fun p14=>bnd (gd v11 true (bnd (A4 p14.2 p14.1) fun v15=>some (v15,p14.2)) (some (.no,p14.2))) fun p16=>bnd (gd v11 true (bnd (A2 .lss p12.1 p16.1) fun v17=>some (v17,p16.2)) (some (.no,p16.2))) fun p18=>bnd (D3 v11 p18.1 (.c (.b false))) fun v19=>some (v19,p18.2):=by kernel_rfl
theorem K_geom_IsData:FnK Try.prog 31 A_geom_IsData A9d A56:=.mk' (B1 A97 (B1 C2b C2)) Try.func31 (by kernel_rfl) (fun _ _ _=>C1)
def W3:Fun:=tidy (Lim A_geom_IsData A9d)
theorem A6R:SOk Try.prog 31 W3:=K_geom_IsData.sok
theorem C2c:D5 A56 W3:=K_geom_IsData.flat
end Go.Proofs.Yteckncopbicmcaa
end
section
namespace Go.Proofs.Yteckncopbicmcaa
open Go Go.Esc
def I3 (b n:Int):Bool:=decide (16 ≤ b) && decide (b ≤ 512) && decide (8 ≤ n) && decide (n ≤ 128) && decide (n % 8=0) && decide (2 + n / 8 < b)
theorem A5g {b n:Int}:I3 b n=true ↔ 16 ≤ b ∧ b ≤ 512 ∧ 8 ≤ n ∧ n ≤ 128 ∧ n % 8=0 ∧ 2 + n / 8 < b:=by
  unfold I3;simp [and_assoc]
theorem A3n {b n:Int}:I3 b n=false ↔ ¬ (16 ≤ b ∧ b ≤ 512 ∧ 8 ≤ n ∧ n ≤ 128 ∧ n % 8=0 ∧ 2 + n / 8 < b):=by
  rw [← A5g];simp
abbrev F5 (b n m:Int):List Cell:=[.i .i64 b,.i .i64 n,.i .u64 m]
theorem A8E {b n m:Int} {h:A0}:A11 [.a (F5 b n m)] h=some (.c (.i .i64 (bif I3 b n then 0 else 1)),h):=by
  have key:∀ g,∃ g',A6B 0 [.a (F5 b n m)] g=some (.c (.i .i64 (bif I3 b n then 0 else 1)),g'):=by
    intro g
    rw [C08]
    have bad:I3 b n=false → (some (Val.c (.i .i64 1),g ++ [some ⟨F5 b n m,true⟩]))=some (.c (.i .i64 (bif I3 b n then 0 else 1)),g ++ [some ⟨F5 b n m,true⟩]):=fun h=>by rw [h];rfl
    by_cases c1:b < 16
    · rw [A3n.2 (by omega)]
      exact ⟨_,by simp only [esc,esh,Nat.reduceAdd,Nat.reduceMul,Nat.reduceLT,c1,A2L] <;> rfl⟩
    · by_cases c2:512 < b
      · rw [A3n.2 (by omega)]
        exact ⟨_,by simp only [esc,esh,Nat.reduceAdd,Nat.reduceMul,Nat.reduceLT,c1,c2,A2L] <;> rfl⟩
      · by_cases c3:n < 8
        · rw [A3n.2 (by omega)]
          exact ⟨_,by simp only [esc,esh,Nat.reduceAdd,Nat.reduceMul,Nat.reduceLT,c1,c2,c3,A2L,A5C] <;> rfl⟩
        · by_cases c4:128 < n
          · rw [A3n.2 (by omega)]
            exact ⟨_,by simp only [esc,esh,Nat.reduceAdd,Nat.reduceMul,Nat.reduceLT,c1,c2,c3,c4,A2L,A5C] <;> rfl⟩
          · have e1:=B10 (a:=n) (b:=8) (k:=.i64) (by omega) (by omega)
            by_cases c5:n % 8=0
            · have e2:=A5p (a:=n) (b:=8) (by omega) (by omega) (by omega)
              have e3:IntKind.wrap .i64 (2 + n / 8)=2 + n / 8:=wrap_i64 (by omega) (by omega)
              by_cases c6:b ≤ 2 + n / 8
              · rw [A3n.2 (by omega)]
                exact ⟨_,by simp only [esc,esh,Nat.reduceAdd,Nat.reduceMul,Nat.reduceLT,c1,c2,c3,c4,e1,c5,e2,e3,c6,A2L,A5C] <;> rfl⟩
              · rw [A5g.2 (by omega)]
                exact ⟨_,by simp only [esc,esh,Nat.reduceAdd,Nat.reduceMul,Nat.reduceLT,c1,c2,c3,c4,e1,c5,e2,e3,c6,A2L,A5C] <;> rfl⟩
            · rw [A3n.2 (by omega)]
              exact ⟨_,by simp only [esc,esh,Nat.reduceAdd,Nat.reduceMul,Nat.reduceLT,c1,c2,c3,c4,e1,c5,A2L,A5C] <;> rfl⟩
  obtain ⟨g',e⟩:=key (ro h)
  exact C3e e (by simp)
theorem A1k {b n m:Int} {h:A0}:A0F [.a (F5 b n m)] h=some (.c (.b (I3 b n)),h):=by
  have key:∀ g,∃ g',A6a 0 [.a (F5 b n m)] g=some (.c (.b (I3 b n)),g'):=by
    intro g
    rw [C0y]
    cases c:I3 b n with
    | true=>exact ⟨_,by simp only [esc,esh,Nat.reduceAdd,Nat.reduceMul,Nat.reduceLT,A8E,c] <;> rfl⟩
    | false=>exact ⟨_,by simp only [esc,esh,Nat.reduceAdd,Nat.reduceMul,Nat.reduceLT,A8E,c,Int.reduceEq] <;> rfl⟩
  obtain ⟨g',e⟩:=key (ro h)
  exact C2k e (by simp)
theorem C6a {h:A0}:A4j [] h=some (.c (.i .i64 1),h) :=
  C2f (n:=0) (h2:=ro h) (by rw [C0v]) rfl
def A1A (b n:Int):Int:=bif I3 b n then 2 else 0
def A3v (b n:Int):Int:=bif I3 b n then n / 8 else 0
def A0p (b n:Int):Int:=A1A b n + A3v b n
theorem B5S {b n m:Int} {h:A0}:A1S [.a (F5 b n m)] h=some (.t [.c (.i .i64 (A1A b n)),.c (.i .i64 (A3v b n))],h):=by
  have key:∀ g,∃ g',A58 0 [.a (F5 b n m)] g=some (.t [.c (.i .i64 (A1A b n)),.c (.i .i64 (A3v b n))],g'):=by
    intro g
    rw [C0w]
    unfold A1A A3v
    cases c:I3 b n with
    | true =>
      have c':=A5g.1 c
      have e2:=A5p (a:=n) (b:=8) (by omega) (by omega) (by omega)
      have e3:IntKind.wrap .i64 (1 + 1)=2:=wrap_i64 (by omega) (by omega)
      exact ⟨_,by simp only [esc,esh,Nat.reduceAdd,Nat.reduceMul,Nat.reduceLT,A1k,c,C6a,e2,e3] <;> rfl⟩
    | false=>exact ⟨_,by simp only [esc,esh,Nat.reduceAdd,Nat.reduceMul,Nat.reduceLT,A1k,c] <;> rfl⟩
  obtain ⟨g',e⟩:=key (ro h)
  exact C2h e (by simp)
theorem C4Z {b n:Int}:0 ≤ A0p b n ∧ A0p b n ≤ 18:=by
  unfold A0p A1A A3v
  cases c:I3 b n with
  | true=>have:=A5g.1 c;simp only [cond_true];omega
  | false=>simp only [cond_false];omega
theorem B5Q {b n m:Int} {h:A0}:A4h [.a (F5 b n m)] h=some (.c (.i .i64 (A0p b n)),h):=by
  have key:∀ g,∃ g',A55 0 [.a (F5 b n m)] g=some (.c (.i .i64 (A0p b n)),g'):=by
    intro g
    rw [C0s]
    have hr:=C4Z (b:=b) (n:=n)
    have e3:IntKind.wrap .i64 (A1A b n + A3v b n)=A0p b n:=wrap_i64 (by unfold A0p at hr;omega) (by unfold A0p at hr;omega)
    exact ⟨_,by simp only [esc,esh,Nat.reduceAdd,Nat.reduceMul,Nat.reduceLT,B5S,e3] <;> rfl⟩
  obtain ⟨g',e⟩:=key (ro h)
  exact C2a e (by simp)
def O3 (b n i:Int):Bool:=I3 b n && decide (1 ≤ i) && decide (i ≤ n)
def P9 (b n i:Int):Bool:=I3 b n && decide (A0p b n ≤ i) && decide (i < b)
theorem B5R {b n m i:Int} {h:A0}:A4i [.a (F5 b n m),.c (.i .i64 i)] h=some (.c (.b (O3 b n i)),h):=by
  have key:∀ g,∃ g',A57 0 [.a (F5 b n m),.c (.i .i64 i)] g=some (.c (.b (O3 b n i)),g'):=by
    intro g
    rw [C0u]
    unfold O3
    cases c:I3 b n with
    | true =>
      by_cases c1:1 ≤ i
      · exact ⟨_,by simp only [esc,esh,Nat.reduceAdd,Nat.reduceMul,Nat.reduceLT,A1k,c,c1] <;> rfl⟩
      · exact ⟨_,by simp only [esc,esh,Nat.reduceAdd,Nat.reduceMul,Nat.reduceLT,A1k,c,c1] <;> rfl⟩
    | false=>exact ⟨_,by simp only [esc,esh,Nat.reduceAdd,Nat.reduceMul,Nat.reduceLT,A1k,c] <;> rfl⟩
  obtain ⟨g',e⟩:=key (ro h)
  exact C2d e (by simp)
theorem A42 {b n m i:Int} {h:A0}:W3 [.a (F5 b n m),.c (.i .i64 i)] h=some (.c (.b (P9 b n i)),h):=by
  have key:∀ g,∃ g',A56 0 [.a (F5 b n m),.c (.i .i64 i)] g=some (.c (.b (P9 b n i)),g'):=by
    intro g
    rw [C0t]
    unfold P9
    cases c:I3 b n with
    | true =>
      by_cases c1:A0p b n ≤ i
      · exact ⟨_,by simp only [esc,esh,Nat.reduceAdd,Nat.reduceMul,Nat.reduceLT,A1k,B5Q,c,c1] <;> rfl⟩
      · exact ⟨_,by simp only [esc,esh,Nat.reduceAdd,Nat.reduceMul,Nat.reduceLT,A1k,B5Q,c,c1] <;> rfl⟩
    | false=>exact ⟨_,by simp only [esc,esh,Nat.reduceAdd,Nat.reduceMul,Nat.reduceLT,A1k,c] <;> rfl⟩
  obtain ⟨g',e⟩:=key (ro h)
  exact C2c e (by simp)
def A2Q (b n i:Int):Int:=bif O3 b n i then 2 + (i - 1) / 8 else 0
def A2R (b n i:Int):Int:=bif O3 b n i then (i - 1) % 8 else 0
theorem B6H {b n i:Int}:O3 b n i=true ↔ I3 b n=true ∧ 1 ≤ i ∧ i ≤ n:=by
  unfold O3;simp [and_assoc]
theorem B5T {b n m i:Int} {h:A0}:A4k [.a (F5 b n m),.c (.i .i64 i)] h=some (.t [.c (.i .i64 (A2Q b n i)),.c (.i .i64 (A2R b n i)),.c (.b (O3 b n i))],h):=by
  have key:∀ g,∃ g',A59 0 [.a (F5 b n m),.c (.i .i64 i)] g=some (.t [.c (.i .i64 (A2Q b n i)),.c (.i .i64 (A2R b n i)),.c (.b (O3 b n i))],g'):=by
    intro g
    rw [C0x]
    unfold A2Q A2R
    cases c:O3 b n i with
    | true =>
      obtain ⟨c1,c2,c3⟩:=B6H.1 c
      have c':=A5g.1 c1
      have e0:A1A b n=2:=by unfold A1A;rw [c1];rfl
      have e1:IntKind.wrap .i64 (i - 1)=i - 1:=wrap_i64 (by omega) (by omega)
      have e2:=A5p (a:=i - 1) (b:=8) (by omega) (by omega) (by omega)
      have e3:IntKind.wrap .i64 (2 + (i - 1) / 8)=2 + (i - 1) / 8:=wrap_i64 (by omega) (by omega)
      have e4:=B10 (a:=i - 1) (b:=8) (k:=.i64) (by omega) (by omega)
      exact ⟨_,by simp only [esc,esh,Nat.reduceAdd,Nat.reduceMul,Nat.reduceLT,B5R,c,B5S,e0,e1,e2,e3,e4] <;> rfl⟩
    | false=>exact ⟨_,by simp only [esc,esh,Nat.reduceAdd,Nat.reduceMul,Nat.reduceLT,B5R,c] <;> rfl⟩
  obtain ⟨g',e⟩:=key (ro h)
  exact C2i e (by simp)
end Go.Proofs.Yteckncopbicmcaa
end
section
namespace Go.Proofs.Yteckncopbicmcaa
open Go Go.Esc
theorem C38 {h:A0} {id off len sz:Nat} {cs:List Cell} (hr:rd h id=some ⟨cs,true⟩) (hn:0 < len):U5 h (.c (.sl id off len sz))=some (.c (.sl id off len sz)):=by
  simp [U5,hr,hn]
def magicB:List UInt8:=[101,115,99,104,101,97,116,49]
def M9 (b n m:Int):List UInt8:=magicB ++ B8 2 b ++ B8 2 n ++ B8 8 m
def A0d (b n m:Int):List UInt8:=C9 256 (M9 b n m ++ B8 4 (Z8 (M9 b n m):Nat))
theorem A0z {b n m:Int}:(M9 b n m).length=20:=by simp [M9,magicB]
theorem A5B {b n m:Int}:(A0d b n m).length=256:=J5 (by rw [List.length_append,A0z,A2l];omega)
theorem C6X {l xs:List UInt8} {a:Nat} (h1:l.length ≤ a) (h2:a + xs.length ≤ 256) (h3:a < 256):S1 (C9 256 l) a xs=C9 256 (l ++ zeros (a - l.length) ++ xs):=by
  unfold S1
  rw [if_pos (by omega)]
  simp only [Int.toNat_natCast]
  rw [List.take_of_length_le (by omega),B73 h1 h2]
theorem B82 {b n m:Int} {h:A0} (hm0:0 ≤ m) (hm1:m < 18446744073709551616) :
    A12 [.a (F5 b n m)] h=some (.t [.a (A1 (bif I3 b n then A0d b n m else zeros 256)),.c (.i .i64 (bif I3 b n then 0 else 1))],h):=by
  have key:∀ g,∃ g',A6D 0 [.a (F5 b n m)] g=some (.t [.a (A1 (bif I3 b n then A0d b n m else zeros 256)),.c (.i .i64 (bif I3 b n then 0 else 1))],g'):=by
    intro g
    have hz:(A1 (zeros 256)).length=256:=by rw [B5];exact zeros_length
    have haf:A7 (List.replicate 256 (Cell.i .u8 0)) []=some (List.replicate 256 (Cell.i .u8 0)):=rfl
    rw [L9] at haf
    rw [C1a,L9]
    cases c:I3 b n with
    | false =>
      simp only [cond_false]
      generalize zeros 256=z at *
      exact ⟨_,by simp only [esc,esh,Nat.reduceAdd,Nat.reduceMul,Nat.reduceLT,A8E,c,haf,hz,Int.reduceEq] <;> rfl⟩
    | true =>
      simp only [cond_true]
      have e7:A7 [Cell.i .u8 0,.i .u8 0,.i .u8 0,.i .u8 0,.i .u8 0,.i .u8 0,.i .u8 0,.i .u8 0] [(0,1,.c (.i .u8 101)),(1,1,.c (.i .u8 115)),(2,1,.c (.i .u8 99)),(3,1,.c (.i .u8 104)),(4,1,.c (.i .u8 101)),(5,1,.c (.i .u8 97)),(6,1,.c (.i .u8 116)),(7,1,.c (.i .u8 49))]=some (A1 magicB):=rfl
      have hmk:=C38 (h:=g ++ [some ⟨F5 b n m,true⟩,some ⟨A1 (zeros 256),true⟩,some ⟨A1 magicB,true⟩]) (id:=g.length + 2) (off:=0) (len:=8) (sz:=1) (cs:=A1 magicB) (by simp) (by omega)
      have ho:=A8f (h:=g ++ [some ⟨F5 b n m,true⟩,some ⟨A1 (zeros 256),true⟩,some ⟨A1 magicB,true⟩]) (v:=.c (.sl (g.length + 2) 0 8 1)) (nv:=8) (data:=magicB) (Has.tr (by simp) (by simp [B5,magicB]) (Q3 _)) (by decide)
      rw [A8j (by decide)] at ho
      have lm:magicB.length=8:=rfl
      have w1:=fun h=>A0v (h:=h) (l:=C9 256 magicB) (J5 (by decide)) (a:=8) (w:=2) (v:=b)
      have e1:=A0B (l:=magicB) (a:=8) (w:=2) (v:=b) (by decide) (by omega) (by omega) (by omega)
      simp only [lm,Nat.sub_self,show zeros 0=[] from rfl,List.append_nil,Int.cast_ofNat_Int] at e1
      simp only [e1] at w1
      have l1:(magicB ++ B8 2 b).length=10:=by simp [lm]
      have w2:=fun h=>A0v (h:=h) (l:=C9 256 (magicB ++ B8 2 b)) (J5 (by omega)) (a:=10) (w:=2) (v:=n)
      have e2:=A0B (l:=magicB ++ B8 2 b) (a:=10) (w:=2) (v:=n) (by omega) (by omega) (by omega) (by omega)
      simp only [l1,Nat.sub_self,show zeros 0=[] from rfl,List.append_nil,Int.cast_ofNat_Int] at e2
      simp only [e2] at w2
      have l2:(magicB ++ B8 2 b ++ B8 2 n).length=12:=by simp [lm]
      have L0:(A1 (C9 256 magicB)).length=256:=by rw [B5,J5 (by decide)]
      have L1:(A1 (C9 256 (magicB ++ B8 2 b))).length=256:=by rw [B5,J5 (by omega)]
      have L2:(A1 (C9 256 (magicB ++ B8 2 b ++ B8 2 n))).length=256:=by rw [B5,J5 (by omega)]
      have L3:(A1 (C9 256 (M9 b n m))).length=256:=by rw [B5,J5 (by rw [A0z];omega)]
      have L4:(A1 (A0d b n m)).length=256:=by rw [B5,A5B]
      have mk8:A0P (.c (.i .i64 8)) (.c (.i .i64 8))=some 8:=rfl
      have hp:=C7K (h:=g ++ [some ⟨F5 b n m,true⟩,some ⟨A1 (zeros 256),true⟩,some ⟨A1 magicB,true⟩,some ⟨A1 (C9 256 (magicB ++ B8 2 b ++ B8 2 n)),true⟩,some ⟨A1 (zeros 8),true⟩]) (x:=.c (.sl (g.length + 4) 0 8 1)) (nv:=8) (l:=zeros 8) (a:=0) (w:=8) (v:=m) (Has.tr (by simp) (by simp [B5]) (Q3 _)) (by simp)
      have ep:V1 (zeros 8) 0 8 m=some (B8 8 m):=by
        unfold V1
        rw [if_pos ⟨by omega,by decide⟩]
        unfold C6
        simp [zeros]
      rw [ep] at hp
      simp only [Option.getD_some,Option.isSome_some,A2l] at hp
      have hl:=B1M (h:=g ++ [some ⟨F5 b n m,true⟩,some ⟨A1 (zeros 256),true⟩,some ⟨A1 magicB,true⟩,some ⟨A1 (C9 256 (magicB ++ B8 2 b ++ B8 2 n)),true⟩,some ⟨A1 (zeros 8),true⟩,some ⟨A1 (B8 8 m),true⟩]) (v:=.c (.sl (g.length + 5) 0 8 1)) (nv:=8) (data:=B8 8 m) (l:=C9 256 (magicB ++ B8 2 b ++ B8 2 n)) (a:=12) (Has.tr (by simp) (by simp [B5]) (Q3 _)) (J5 (by omega)) (by simp)
      have e3:=C6X (l:=magicB ++ B8 2 b ++ B8 2 n) (xs:=B8 8 m) (a:=12) (by omega) (by simp) (by omega)
      simp only [l2,Nat.sub_self,show zeros 0=[] from rfl,List.append_nil,Int.cast_ofNat_Int] at e3
      rw [e3] at hl
      have hc:=fun h=>A8a (h:=h) (l:=C9 256 (M9 b n m)) (J5 (by rw [A0z];omega)) (a:=0) (n:=20)
      have e4:P6 (C9 256 (M9 b n m)) 0 20=M9 b n m:=by
        unfold P6 C9
        rw [if_pos (by omega)]
        simp only [Int.toNat_zero,List.drop_zero]
        exact List.take_left' A0z
      simp only [e4,A0z] at hc
      have hstr:=(Has.tr (h:=g ++ [some ⟨F5 b n m,true⟩,some ⟨A1 (zeros 256),true⟩,some ⟨A1 magicB,true⟩,some ⟨A1 (C9 256 (M9 b n m)),true⟩,some ⟨A1 (zeros 8),true⟩,some ⟨A1 (B8 8 m),true⟩,some ⟨A1 (M9 b n m),true⟩]) (id:=g.length + 6) (sz:=1) (n:=20) (cs:=A1 (M9 b n m)) (by simp) (by rw [B5,A0z]) (Q3 _)).str
      have hmx:=fun h=>B67 (s:=M9 b n m) (h:=h) (by rw [A0z];omega)
      have hmlt:=B61 (s:=M9 b n m)
      have e5:IntKind.wrap .i64 ((Z8 (M9 b n m):Nat):Int)=(Z8 (M9 b n m):Nat):=wrap_i64 (by omega) (by omega)
      have w3:=fun h=>A0v (h:=h) (l:=C9 256 (M9 b n m)) (J5 (by rw [A0z];omega)) (a:=20) (w:=4) (v:=(Z8 (M9 b n m):Nat))
      have e6:=A0B (l:=M9 b n m) (a:=20) (w:=4) (v:=(Z8 (M9 b n m):Nat)) (by rw [A0z];omega) (by omega) (by omega) (by omega)
      simp only [A0z,Nat.sub_self,show zeros 0=[] from rfl,List.append_nil,Int.cast_ofNat_Int] at e6
      simp only [e6] at w3
      have eS:magicB ++ B8 2 b ++ B8 2 n ++ B8 8 m=M9 b n m:=rfl
      rw [eS] at hl
      have rz:=B13 8
      change ∀ h,Q8 [_,_,_,_] h=some (.a (A1 (A0d b n m)),h) at w3
      generalize A0d b n m=SB at *
      generalize C9 256 magicB=P0 at *
      generalize C9 256 (magicB ++ B8 2 b)=P1 at *
      generalize C9 256 (magicB ++ B8 2 b ++ B8 2 n)=P2 at *
      generalize C9 256 (M9 b n m)=P3 at *
      simp only [esc] at hp
      generalize zeros 256=z at *
      generalize zeros 8=z8 at *
      exact ⟨_,by simp only [esc,esh,Nat.reduceAdd,Nat.reduceMul,Nat.reduceLT,A8E,c,e7,hmk,ho,hz,L0,w1,L1,w2,L2,mk8,rz,hp,hl,L3,hc,hstr,hmx,e5,w3,L4] <;> rfl⟩
  obtain ⟨g',e⟩:=key (ro h)
  exact C3h e (by simp)
theorem B4d {b:List UInt8} {a w:Nat} (hb:b.length=256) (h1:a + w ≤ 256) (hw:1 ≤ w) (hw4:w ≤ 4):((atN b a w:Nat):Int)=fieldN b a w:=by
  unfold atN fieldN
  rw [if_pos ⟨by omega,A0e.2 (by omega)⟩]
  simp only [Int.toNat_natCast]
theorem C6b {b:List UInt8} (hb:b.length=256):A44 (P6 b 12 8) 0 8=some (le ((b.drop 12).take 8)):=by
  have hc:P6 b 12 8=(b.drop 12).take 8:=by
    unfold P6
    rw [if_pos (by omega)];rfl
  have hl:((b.drop 12).take 8).length=8:=by simp;omega
  unfold A44
  rw [hc,hl,if_pos ⟨by omega,by decide⟩]
  simp only [Int.toNat_zero,List.drop_zero]
  rw [List.take_of_length_le (by rw [hl];decide)]
def okS (b:List UInt8):Bool:=I3 (fieldN b 8 2) (fieldN b 10 2) && decide (A0d (fieldN b 8 2) (fieldN b 10 2) (fieldN b 12 8)=b)
def A1o (b:List UInt8):List Cell:=bif okS b then F5 (fieldN b 8 2) (fieldN b 10 2) (fieldN b 12 8) else F5 0 0 0
theorem B5q (b:List UInt8):0 ≤ fieldN b 12 8 ∧ fieldN b 12 8 < 18446744073709551616:=by
  unfold fieldN
  have h1:=A49 ((b.drop 12).take 8)
  have h2:((b.drop 12).take 8).length ≤ 8:=by simp;omega
  have h3:=A8p h2
  have h4:(256:Nat) ^ 8=18446744073709551616:=by decide
  omega
end Go.Proofs.Yteckncopbicmcaa
end
section
namespace Go.Proofs.Yteckncopbicmcaa
open Go Go.Esc
theorem B81 {b:List UInt8} {h:A0} (hb:b.length=256):A4E [.a (A1 b)] h=some (.t [.a (A1o b),.c (.i .i64 (bif okS b then 0 else 13))],h):=by
  have key:∀ g,∃ g',A6C 0 [.a (A1 b)] g=some (.t [.a (A1o b),.c (.i .i64 (bif okS b then 0 else 13))],g'):=by
    intro g
    have hl:(A1 b).length=256:=by rw [B5,hb]
    have hc:=A8a (h:=g ++ [some ⟨A1 b,true⟩,some ⟨F5 0 0 0,true⟩]) hb (a:=12) (n:=8)
    have hcl:(P6 b 12 8).length=8:=by unfold P6;rw [if_pos (by omega)];simp;omega
    rw [hcl] at hc
    have hg:=C7C (h:=g ++ [some ⟨A1 b,true⟩,some ⟨F5 0 0 0,true⟩,some ⟨A1 (P6 b 12 8),true⟩]) (v:=.c (.sl (g.length + 2) 0 8 1)) (nv:=8) (l:=P6 b 12 8) (Has.tr (by simp) (by rw [B5,hcl]) (Q3 _)) (a:=0) (w:=8) (by rw [hcl];omega)
    rw [C6b hb] at hg
    simp only [Option.getD_some,Option.isSome_some] at hg
    have a1:=fun h=>A0Y (h:=h) hb (a:=8) (w:=2)
    have a2:=fun h=>A0Y (h:=h) hb (a:=10) (w:=2)
    have f1:=B4d (a:=8) (w:=2) hb (by omega) (by omega) (by omega)
    have f2:=B4d (a:=10) (w:=2) hb (by omega) (by omega) (by omega)
    simp only [Int.cast_ofNat_Int] at f1 f2
    simp only [f1] at a1
    simp only [f2] at a2
    have e12:((le ((b.drop 12).take 8):Nat):Int)=fieldN b 12 8:=rfl
    rw [e12] at hg
    have ef:∀ x y z:Int,A7 (F5 0 0 0) [(0,1,.c (.i .i64 x)),(1,1,.c (.i .i64 y)),(2,1,.c (.i .u64 z))]=some (F5 x y z):=fun _ _ _=>rfl
    have ef0:A7 (F5 0 0 0) []=some (F5 0 0 0):=rfl
    have hp:=fun h=>B82 (b:=fieldN b 8 2) (n:=fieldN b 10 2) (m:=fieldN b 12 8) (h:=h) (B5q b).1 (B5q b).2
    have hz:(List.replicate 256 (Cell.i .u8 0)).length=256:=List.length_replicate
    have hS:(A1 (A0d (fieldN b 8 2) (fieldN b 10 2) (fieldN b 12 8))).length=256:=by rw [B5,A5B]
    have hZ:(A1 (zeros 256)).length=256:=by rw [B5];exact zeros_length
    have hq:=A6Y (l:=A0d (fieldN b 8 2) (fieldN b 10 2) (fieldN b 12 8)) (m:=b) (n:=256) A5B hb
    simp only [esc] at hc
    rw [C09]
    unfold A1o okS
    generalize List.replicate 256 (Cell.i .u8 0)=z at *
    cases c:I3 (fieldN b 8 2) (fieldN b 10 2) with
    | false =>
      simp only [c,cond_false] at hp
      generalize zeros 256=zz at *
      exact ⟨_,by simp only [esc,esh,Nat.reduceAdd,Nat.reduceMul,Nat.reduceLT,hl,hc,hg,a1,a2,ef,ef0,hp,hz,hZ,Bool.false_and,Int.reduceEq] <;> rfl⟩
    | true =>
      simp only [c,cond_true] at hp
      cases c2:decide (A0d (fieldN b 8 2) (fieldN b 10 2) (fieldN b 12 8)=b) with
      | false =>
        rw [c2] at hq
        exact ⟨_,by simp only [esc,esh,Nat.reduceAdd,Nat.reduceMul,Nat.reduceLT,hl,hc,hg,a1,a2,ef,ef0,hp,hz,hS,hq,Bool.and_false] <;> rfl⟩
      | true =>
        rw [c2] at hq
        exact ⟨_,by simp only [esc,esh,Nat.reduceAdd,Nat.reduceMul,Nat.reduceLT,hl,hc,hg,a1,a2,ef,ef0,hp,hz,hS,hq,Bool.and_true] <;> rfl⟩
  obtain ⟨g',e⟩:=key (ro h)
  refine C3f e ?_
  unfold A1o
  cases okS b <;> simp
end Go.Proofs.Yteckncopbicmcaa
end
noncomputable section
namespace Go.Proofs.Yteckncopbicmcaa
open Go Go.Esc
set_option maxRecDepth 100000
def A_inode_small:AFn:=⟨.seq [0] (.ops [aO 2 (.mv (.v (.c (.b false))))]) (.seq [2] (.ops [aO 3 (.mv (.t 0)),aO 4 (.bin .geq (.t 3) (.v (.c (.i .i64 0)))),aO 5 (.mv (.t 4)),aG 6 5 true (.mv (.t 0)),aG 7 5 true (.bin .leq (.t 6) (.v (.c (.i .i64 65535)))),aO 8 (.pick (.t 5) (.t 7) (.v (.c (.b false)))),aO 2 (.mv (.t 8))]) .ret),[.tmp 2]⟩
def A9o:A9:=C0
def A9U (n:Nat) (args:List Val) (h:A0):A6:=ax A9o n A_inode_small.code A_inode_small.fin (params 0 args) h
theorem C0M (n:Nat) (a0:Val) (h:A0):A9U n [a0] h=bnd (A2 .geq a0 (.c (.i .i64 0))) fun v1=>bnd (gd v1 true (some (a0,h)) (some (.no,h))) fun p2=>bnd (gd v1 true (bnd (A2 .leq p2.1 (.c (.i .i64 65535))) fun v3=>some (v3,p2.2)) (some (.no,p2.2))) fun p4=>bnd (D3 v1 p4.1 (.c (.b false))) fun v5=>some (v5,p4.2):=by kernel_rfl
theorem K_inode_small:FnK Try.prog 98 A_inode_small A9o A9U:=.mk' (C2) Try.func98 (by kernel_rfl) (fun _ _ _=>C1)
def A1X:Fun:=tidy (Lim A_inode_small A9o)
theorem C2H:SOk Try.prog 98 A1X:=K_inode_small.sok
theorem C2G:D5 A9U A1X:=K_inode_small.flat
def B6u:ACode:=.seq [1,2,3,7,8,9] (.ops [aO 9 (.bin .lss (.t 8) (.v (.c (.i .i64 6))))]) (.seq [1,2,3,7,8] (.cond (.t 9) .skip (.exit 0)) (.seq [1,2,3,7,8] (.block 1 (.seq [1,2,3,4,5,7,8] (.ops [aO 10 (.mv (.t 8)),aO 11 (.idxA1 6 (.t 7) (.t 8)),aO 4 (.mv (.t 10)),aO 5 (.mv (.t 11))]) (.ops [aO 12 (.mv (.t 4)),aO 13 (.mv (.t 5)),aO 14 (.iAddrA 7 1 (.t 3) (.t 12)),aN (.store1 (.t 14) (.t 13))]))) (.ops [aO 15 (.bin .add (.t 8) (.v (.c (.i .i64 1)))),aO 8 (.mv (.t 15))])))
def B6v:ACode:=.seq [2,3] (.ops [aO 16 (.fAddr (.t 1) 10),aO 17 (.load1 (.t 16)),aO 18 (.iAddrA 7 1 (.t 3) (.v (.c (.i .i64 6)))),aN (.store1 (.t 18) (.t 17))]) (.seq [2] (.ops [aO 19 (.loadN 7 (.t 3)),aN (.storeN 7 (.t 2) (.t 19))]) .ret)
def A_inode_Numbers:AFn:=⟨.seq [1,2] (.ops [aO 1 (.box (.t 0)),aO 2 (.alloc ([.i .i64 0,.i .i64 0,.i .i64 0,.i .i64 0,.i .i64 0,.i .i64 0,.i .i64 0]))]) (.seq [1,2,3] (.ops [aO 3 (.alloc ([.i .i64 0,.i .i64 0,.i .i64 0,.i .i64 0,.i .i64 0,.i .i64 0,.i .i64 0]))]) (.seq [1,2,3] (.seq [1,2,3,7,8] (.ops [aO 6 (.fAddr (.t 1) 4),aO 7 (.loadN 6 (.t 6)),aO 8 (.mv (.v (.c (.i .i64 0))))]) (.block 0 (.loop [1,2,3,7,8] B6u))) B6v)),[.cellN 2 7]⟩
def A3H:A9:=C0
def C6I (n:Nat):B3 (Val × A0):=E3 [1,2,3] (ax A3H n B6v) A_inode_Numbers.fin
def C6J (n:Nat):B3 (Val × A0):=D7 0 (C6I n)
def A7M (n m:Nat) (x1 x2 x3 x7 x8:Val) (h:A0):A6:=D1 (ax A3H n B6u) [1,2,3,7,8] (C6J n) m [(1,x1),(2,x2),(3,x3),(7,x7),(8,x8)] h
def A6l (n:Nat) (args:List Val) (h:A0):A6:=ax A3H n A_inode_Numbers.code A_inode_Numbers.fin (params 0 args) h
theorem C0K (n:Nat) (a0:Val) (h:A0):A6l n [a0] h=bnd (cells? a0) fun c1=>bnd (B4 (.c (.p h.length 0)) 4) fun v2=>bnd (A3 (((h ++ [some (Row.mk (c1) true)]) ++ [some (Row.mk ([.i .i64 0,.i .i64 0,.i .i64 0,.i .i64 0,.i .i64 0,.i .i64 0,.i .i64 0]) true)]) ++ [some (Row.mk ([.i .i64 0,.i .i64 0,.i .i64 0,.i .i64 0,.i .i64 0,.i .i64 0,.i .i64 0]) true)]) 6 v2) fun v3=>A7M n n (.c (.p h.length 0)) (.c (.p (h ++ [some (Row.mk (c1) true)]).length 0)) (.c (.p ((h ++ [some (Row.mk (c1) true)]) ++ [some (Row.mk ([.i .i64 0,.i .i64 0,.i .i64 0,.i .i64 0,.i .i64 0,.i .i64 0,.i .i64 0]) true)]).length 0)) v3 (.c (.i .i64 0)) (((h ++ [some (Row.mk (c1) true)]) ++ [some (Row.mk ([.i .i64 0,.i .i64 0,.i .i64 0,.i .i64 0,.i .i64 0,.i .i64 0,.i .i64 0]) true)]) ++ [some (Row.mk ([.i .i64 0,.i .i64 0,.i .i64 0,.i .i64 0,.i .i64 0,.i .i64 0,.i .i64 0]) true)]):=by kernel_rfl
theorem B6w (n m:Nat) (x1 x2 x3 x7 x8:Val) (h:A0):A7M n (m + 1) x1 x2 x3 x7 x8 h=bnd (A2 .lss x8 (.c (.i .i64 6))) fun v4=>cnd v4 (bnd (V6 6 x7 x8) fun v5=>bnd (D6 7 1 x3 x8) fun v6=>bnd (E4 h v6 v5) fun h7=>bnd (A2 .add x8 (.c (.i .i64 1))) fun v8=>A7M n m x1 x2 x3 x7 v8 h7) (bnd (B4 x1 10) fun v9=>bnd (A4 h v9) fun v10=>bnd (D6 7 1 x3 (.c (.i .i64 6))) fun v11=>bnd (E4 h v11 v10) fun h12=>bnd (A3 h12 7 x3) fun v13=>bnd (A8 h12 7 x2 v13) fun h14=>mp (A3 h14 7 x2) fun v=>(v,h14)):=by kernel_rfl
theorem K_inode_Numbers:FnK Try.prog 94 A_inode_Numbers A3H A6l:=.mk' (C2) Try.func94 (by kernel_rfl) (fun _ _ _=>C1)
def A1V:Fun:=tidy (Lim A_inode_Numbers A3H)
theorem B3m:SOk Try.prog 94 A1V:=K_inode_Numbers.sok
theorem C2E:D5 A6l A1V:=K_inode_Numbers.flat
def B6n:ACode:=.seq [44,45,46] (.ops [aO 46 (.bin .lss (.t 45) (.v (.c (.i .i64 7))))]) (.seq [44,45] (.cond (.t 46) .skip (.exit 0)) (.seq [44,45] (.block 1 (.seq [4,44,45] (.ops [aO 47 (.idxA1 7 (.t 44) (.t 45)),aO 4 (.mv (.t 47))]) (.seq [44,45,50] (.ops [aO 48 (.mv (.t 4)),aO 49 (.call 98 [(.t 48)]),aO 50 (.un .not (.t 49))]) (.cond (.t 50) (.seq [2] (.ops [aO 2 (.mv (.v (.c (.i .i64 1))))]) .ret) .skip)))) (.ops [aO 51 (.bin .add (.t 45) (.v (.c (.i .i64 1)))),aO 45 (.mv (.t 51))])))
def B6o:ACode:=.seq [2] (.ops [aO 2 (.mv (.v (.c (.i .i64 0))))]) .ret
def A_inode_Check:AFn:=⟨.seq [1] (.ops [aO 1 (.box (.t 0)),aO 2 (.mv (.v (.c (.i .i64 0))))]) (.seq [1] (.seq [1,22] (.ops [aO 5 (.fAddr (.t 1) 0),aO 6 (.load1 (.t 5)),aO 7 (.bin .lss (.t 6) (.v (.c (.i .i64 0)))),aO 8 (.mv (.t 7)),aG 9 8 false (.fAddr (.t 1) 0),aG 10 8 false (.load1 (.t 9)),aG 11 8 false (.bin .gtr (.t 10) (.v (.c (.i .i64 2)))),aO 12 (.pick (.t 8) (.v (.c (.b true))) (.t 11)),aO 13 (.mv (.t 12)),aG 14 13 false (.fAddr (.t 1) 0),aG 15 13 false (.load1 (.t 14)),aG 16 13 false (.bin .eql (.t 15) (.v (.c (.i .i64 0)))),aG 17 13 false (.mv (.t 16)),aG 18 17 true (.loadN 11 (.t 1)),aG 19 17 true (.build ([.i .i64 0,.i .i64 0,.i .i64 0,.i .i64 0,.i .i64 0,.i .i64 0,.i .i64 0,.i .i64 0,.i .i64 0,.i .i64 0,.i .i64 0]) []),aG 20 17 true (.eqA true ([.i .i64,.i .i64,.i .i64,.i .i64,.i .i64,.i .i64,.i .i64,.i .i64,.i .i64,.i .i64,.i .i64]) (.t 18) (.t 19)),aG 21 13 false (.pick (.t 17) (.t 20) (.v (.c (.b false)))),aO 22 (.pick (.t 13) (.v (.c (.b true))) (.t 21))]) (.cond (.t 22) (.seq [2] (.ops [aO 2 (.mv (.v (.c (.i .i64 1))))]) .ret) .skip)) (.seq [1] (.seq [1,42] (.ops [aO 23 (.fAddr (.t 1) 1),aO 24 (.load1 (.t 23)),aO 25 (.call 98 [(.t 24)]),aO 26 (.un .not (.t 25)),aO 27 (.mv (.t 26)),aG 28 27 false (.fAddr (.t 1) 3),aG 29 27 false (.load1 (.t 28)),aG 30 27 false (.call 98 [(.t 29)]),aG 31 27 false (.un .not (.t 30)),aO 32 (.pick (.t 27) (.v (.c (.b true))) (.t 31)),aO 33 (.mv (.t 32)),aG 34 33 false (.fAddr (.t 1) 2),aG 35 33 false (.load1 (.t 34)),aG 36 33 false (.bin .lss (.t 35) (.v (.c (.i .i64 0)))),aO 37 (.pick (.t 33) (.v (.c (.b true))) (.t 36)),aO 38 (.mv (.t 37)),aG 39 38 false (.fAddr (.t 1) 2),aG 40 38 false (.load1 (.t 39)),aG 41 38 false (.bin .gtr (.t 40) (.v (.c (.i .i64 34304)))),aO 42 (.pick (.t 38) (.v (.c (.b true))) (.t 41))]) (.cond (.t 42) (.seq [2] (.ops [aO 2 (.mv (.v (.c (.i .i64 1))))]) .ret) .skip)) (.seq [] (.seq [44,45] (.ops [aO 43 (.loadN 11 (.t 1)),aO 44 (.call 94 [(.t 43)]),aO 45 (.mv (.v (.c (.i .i64 0))))]) (.block 0 (.loop [44,45] B6n))) B6o))),[.tmp 2]⟩
def A3F:A9:=B0 98 A1X (B0 94 A1V C0)
def C6D (n:Nat):B3 (Val × A0):=E3 [] (ax A3F n B6o) A_inode_Check.fin
def C6E (n:Nat):B3 (Val × A0):=D7 0 (C6D n)
def A7K (n m:Nat) (x44 x45:Val) (h:A0):A6:=D1 (ax A3F n B6n) [44,45] (C6E n) m [(44,x44),(45,x45)] h
def A6i (n:Nat) (args:List Val) (h:A0):A6:=ax A3F n A_inode_Check.code A_inode_Check.fin (params 0 args) h
theorem C0H (n:Nat) (a0:Val) (h:A0):A6i n [a0] h=bnd (cells? a0) fun c1=>bnd (B4 (.c (.p h.length 0)) 0) fun v2=>bnd (A4 (h ++ [some (Row.mk (c1) true)]) v2) fun v3=>bnd (A2 .lss v3 (.c (.i .i64 0))) fun v4=>bnd (gd v4 false (bnd (B4 (.c (.p h.length 0)) 0) fun v5=>some (v5,(h ++ [some (Row.mk (c1) true)]))) (some (.no,(h ++ [some (Row.mk (c1) true)])))) fun p6=>bnd (gd v4 false (bnd (A4 p6.2 p6.1) fun v7=>some (v7,p6.2)) (some (.no,p6.2))) fun p8=>bnd (gd v4 false (bnd (A2 .gtr p8.1 (.c (.i .i64 2))) fun v9=>some (v9,p8.2)) (some (.no,p8.2))) fun p10=>bnd (D3 v4 (.c (.b true)) p10.1) fun v11=>bnd (gd v11 false (bnd (B4 (.c (.p h.length 0)) 0) fun v12=>some (v12,p10.2)) (some (.no,p10.2))) fun p13=>bnd (gd v11 false (bnd (A4 p13.2 p13.1) fun v14=>some (v14,p13.2)) (some (.no,p13.2))) fun p15=>bnd (gd v11 false (bnd (A2 .eql p15.1 (.c (.i .i64 0))) fun v16=>some (v16,p15.2)) (some (.no,p15.2))) fun p17=>bnd (gd v11 false (some (p17.1,p17.2)) (some (.no,p17.2))) fun p18=>bnd (gd p18.1 true (bnd (A3 p18.2 11 (.c (.p h.length 0))) fun v19=>some (v19,p18.2)) (some (.no,p18.2))) fun p20=>bnd (gd p18.1 true (bnd (A7 ([.i .i64 0,.i .i64 0,.i .i64 0,.i .i64 0,.i .i64 0,.i .i64 0,.i .i64 0,.i .i64 0,.i .i64 0,.i .i64 0,.i .i64 0]) []) fun c21=>some ((.a c21),p20.2)) (some (.no,p20.2))) fun p22=>bnd (gd p18.1 true (bnd (aeq true ([.i .i64,.i .i64,.i .i64,.i .i64,.i .i64,.i .i64,.i .i64,.i .i64,.i .i64,.i .i64,.i .i64]) p20.1 p22.1) fun v23=>some (v23,p22.2)) (some (.no,p22.2))) fun p24=>bnd (gd v11 false (bnd (D3 p18.1 p24.1 (.c (.b false))) fun v25=>some (v25,p24.2)) (some (.no,p24.2))) fun p26=>bnd (D3 v11 (.c (.b true)) p26.1) fun v27=>cnd v27 (some ((.c (.i .i64 1)),p26.2)) (bnd (B4 (.c (.p h.length 0)) 1) fun v28=>bnd (A4 p26.2 v28) fun v29=>bnd (A1X [v29] p26.2) fun p30=>bnd (aun .not p30.1) fun v31=>bnd (gd v31 false (bnd (B4 (.c (.p h.length 0)) 3) fun v32=>some (v32,p30.2)) (some (.no,p30.2))) fun p33=>bnd (gd v31 false (bnd (A4 p33.2 p33.1) fun v34=>some (v34,p33.2)) (some (.no,p33.2))) fun p35=>bnd (gd v31 false (bnd (A1X [p35.1] p35.2) fun p36=>some (p36.1,p36.2)) (some (.no,p35.2))) fun p37=>bnd (gd v31 false (bnd (aun .not p37.1) fun v38=>some (v38,p37.2)) (some (.no,p37.2))) fun p39=>bnd (D3 v31 (.c (.b true)) p39.1) fun v40=>bnd (gd v40 false (bnd (B4 (.c (.p h.length 0)) 2) fun v41=>some (v41,p39.2)) (some (.no,p39.2))) fun p42=>bnd (gd v40 false (bnd (A4 p42.2 p42.1) fun v43=>some (v43,p42.2)) (some (.no,p42.2))) fun p44=>bnd (gd v40 false (bnd (A2 .lss p44.1 (.c (.i .i64 0))) fun v45=>some (v45,p44.2)) (some (.no,p44.2))) fun p46=>bnd (D3 v40 (.c (.b true)) p46.1) fun v47=>bnd (gd v47 false (bnd (B4 (.c (.p h.length 0)) 2) fun v48=>some (v48,p46.2)) (some (.no,p46.2))) fun p49=>bnd (gd v47 false (bnd (A4 p49.2 p49.1) fun v50=>some (v50,p49.2)) (some (.no,p49.2))) fun p51=>bnd (gd v47 false (bnd (A2 .gtr p51.1 (.c (.i .i64 34304))) fun v52=>some (v52,p51.2)) (some (.no,p51.2))) fun p53=>bnd (D3 v47 (.c (.b true)) p53.1) fun v54=>cnd v54 (some ((.c (.i .i64 1)),p53.2)) (bnd (A3 p53.2 11 (.c (.p h.length 0))) fun v55=>bnd (A1V [v55] p53.2) fun p56=>A7K n n p56.1 (.c (.i .i64 0)) p56.2)):=by kernel_rfl
theorem B6q (n m:Nat) (x44 x45:Val) (h:A0):A7K n (m + 1) x44 x45 h=bnd (A2 .lss x45 (.c (.i .i64 7))) fun v57=>cnd v57 (bnd (V6 7 x44 x45) fun v58=>bnd (A1X [v58] h) fun p59=>bnd (aun .not p59.1) fun v60=>cnd v60 (some ((.c (.i .i64 1)),p59.2)) (bnd (A2 .add x45 (.c (.i .i64 1))) fun v61=>A7K n m x44 v61 p59.2)) (some ((.c (.i .i64 0)),h)):=by kernel_rfl
theorem K_inode_Check:FnK Try.prog 93 A_inode_Check A3F A6i:=.mk' (B1 C2H (B1 B3m C2)) Try.func93 (by kernel_rfl) (fun _ _ _=>C1)
def A4q:Fun:=tidy (Lim A_inode_Check A3F)
theorem C2z:SOk Try.prog 93 A4q:=K_inode_Check.sok
theorem C2y:D5 A6i A4q:=K_inode_Check.flat
def B6x:ACode:=.seq [2,4,6,33,34,35] (.ops [aO 35 (.bin .lss (.t 34) (.v (.c (.i .i64 7))))]) (.seq [2,4,6,33,34] (.cond (.t 35) .skip (.exit 0)) (.seq [2,4,6,33,34] (.block 1 (.seq [2,4,6,7,8,33,34] (.ops [aO 36 (.mv (.t 34)),aO 37 (.idxA1 7 (.t 33) (.t 34)),aO 7 (.mv (.t 36)),aO 8 (.mv (.t 37))]) (.ops [aO 38 (.loadN 256 (.t 6)),aO 39 (.mv (.t 7)),aO 40 (.bin .mul (.v (.c (.i .i64 2))) (.t 39)),aO 41 (.bin .add (.v (.c (.i .i64 10))) (.t 40)),aO 42 (.mv (.t 8)),aO 43 (.call 67 [(.t 38),(.t 41),(.v (.c (.i .i64 2))),(.t 42)]),aN (.storeN 256 (.t 6) (.t 43))]))) (.ops [aO 44 (.bin .add (.t 34) (.v (.c (.i .i64 1)))),aO 34 (.mv (.t 44))])))
def B6z:ACode:=.seq [2,4,6,45,46] (.ops [aO 46 (.bin .lss (.t 45) (.v (.c (.i .i64 32))))]) (.seq [2,4,6,45] (.cond (.t 46) .skip (.exit 2)) (.seq [2,4,6,45] (.block 3 (.seq [2,4,6,9,45] (.ops [aO 47 (.mv (.t 45)),aO 9 (.mv (.t 47))]) (.ops [aO 48 (.mv (.t 9)),aO 49 (.mv (.t 9)),aO 50 (.iAddrA 256 1 (.t 6) (.t 49)),aO 51 (.load1 (.t 50)),aO 52 (.iAddrA 32 1 (.t 4) (.t 48)),aN (.store1 (.t 52) (.t 51))]))) (.ops [aO 53 (.bin .add (.t 45) (.v (.c (.i .i64 1)))),aO 45 (.mv (.t 53))])))
def B6A:ACode:=.seq [2,3] (.ops [aO 54 (.loadN 32 (.t 4)),aN (.storeN 32 (.t 2) (.t 54)),aO 3 (.mv (.v (.c (.i .i64 0))))]) .ret
def B6y:ACode:=.seq [2,4] (.seq [2,4,6,45] (.ops [aO 45 (.mv (.v (.c (.i .i64 0))))]) (.block 2 (.loop [2,4,6,45] B6z))) B6A
def A_inode_Put:AFn:=⟨.seq [1,2] (.ops [aO 1 (.box (.t 0)),aO 2 (.alloc (List.replicate 32 (.i .u8 0))),aO 3 (.mv (.v (.c (.i .i64 0))))]) (.seq [1,2,4] (.ops [aO 4 (.alloc (List.replicate 32 (.i .u8 0)))]) (.seq [1,2,4] (.seq [1,2,4,5] (.ops [aO 10 (.loadN 11 (.t 1)),aO 11 (.call 93 [(.t 10)]),aO 5 (.mv (.t 11))]) (.seq [1,2,4,5,13] (.ops [aO 12 (.mv (.t 5)),aO 13 (.bin .neq (.t 12) (.v (.c (.i .i64 0))))]) (.cond (.t 13) (.seq [2,3] (.ops [aO 14 (.loadN 32 (.t 4)),aO 15 (.mv (.t 5)),aN (.storeN 32 (.t 2) (.t 14)),aO 3 (.mv (.t 15))]) .ret) .skip))) (.seq [1,2,4,6] (.ops [aO 6 (.alloc (List.replicate 256 (.i .u8 0)))]) (.seq [1,2,4,6] (.ops [aO 16 (.loadN 256 (.t 6)),aO 17 (.fAddr (.t 1) 0),aO 18 (.load1 (.t 17)),aO 19 (.call 67 [(.t 16),(.v (.c (.i .i64 0))),(.v (.c (.i .i64 1))),(.t 18)]),aN (.storeN 256 (.t 6) (.t 19))]) (.seq [1,2,4,6] (.ops [aO 20 (.loadN 256 (.t 6)),aO 21 (.fAddr (.t 1) 1),aO 22 (.load1 (.t 21)),aO 23 (.call 67 [(.t 20),(.v (.c (.i .i64 2))),(.v (.c (.i .i64 2))),(.t 22)]),aN (.storeN 256 (.t 6) (.t 23))]) (.seq [1,2,4,6] (.ops [aO 24 (.loadN 256 (.t 6)),aO 25 (.fAddr (.t 1) 2),aO 26 (.load1 (.t 25)),aO 27 (.call 67 [(.t 24),(.v (.c (.i .i64 4))),(.v (.c (.i .i64 4))),(.t 26)]),aN (.storeN 256 (.t 6) (.t 27))]) (.seq [1,2,4,6] (.ops [aO 28 (.loadN 256 (.t 6)),aO 29 (.fAddr (.t 1) 3),aO 30 (.load1 (.t 29)),aO 31 (.call 67 [(.t 28),(.v (.c (.i .i64 8))),(.v (.c (.i .i64 2))),(.t 30)]),aN (.storeN 256 (.t 6) (.t 31))]) (.seq [2,4,6] (.seq [2,4,6,33,34] (.ops [aO 32 (.loadN 11 (.t 1)),aO 33 (.call 94 [(.t 32)]),aO 34 (.mv (.v (.c (.i .i64 0))))]) (.block 0 (.loop [2,4,6,33,34] B6x))) B6y)))))))),[.cellN 2 32,.tmp 3]⟩
def A1I:A9:=B0 93 A4q (B0 67 Q8 (B0 94 A1V C0))
def C6K (n:Nat):B3 (Val × A0):=E3 [2,4,6] (ax A1I n B6y) A_inode_Put.fin
def C6L (n:Nat):B3 (Val × A0):=D7 0 (C6K n)
def A7N (n m:Nat) (x2 x4 x6 x33 x34:Val) (h:A0):A6:=D1 (ax A1I n B6x) [2,4,6,33,34] (C6L n) m [(2,x2),(4,x4),(6,x6),(33,x33),(34,x34)] h
def A6m (n:Nat) (args:List Val) (h:A0):A6:=ax A1I n A_inode_Put.code A_inode_Put.fin (params 0 args) h
def C6M (n:Nat):B3 (Val × A0):=E3 [2,4] (ax A1I n B6A) A_inode_Put.fin
def C6N (n:Nat):B3 (Val × A0):=D7 2 (C6M n)
def A7O (n m:Nat) (x2 x4 x6 x45:Val) (h:A0):A6:=D1 (ax A1I n B6z) [2,4,6,45] (C6N n) m [(2,x2),(4,x4),(6,x6),(45,x45)] h
theorem C0L (n:Nat) (a0:Val) (h:A0):A6m n [a0] h=bnd (cells? a0) fun c1=>bnd (A3 (((h ++ [some (Row.mk (c1) true)]) ++ [some (Row.mk (List.replicate 32 (.i .u8 0)) true)]) ++ [some (Row.mk (List.replicate 32 (.i .u8 0)) true)]) 11 (.c (.p h.length 0))) fun v2=>bnd (A4q [v2] (((h ++ [some (Row.mk (c1) true)]) ++ [some (Row.mk (List.replicate 32 (.i .u8 0)) true)]) ++ [some (Row.mk (List.replicate 32 (.i .u8 0)) true)])) fun p3=>bnd (A2 .neq p3.1 (.c (.i .i64 0))) fun v4=>cnd v4 (bnd (A3 p3.2 32 (.c (.p ((h ++ [some (Row.mk (c1) true)]) ++ [some (Row.mk (List.replicate 32 (.i .u8 0)) true)]).length 0))) fun v5=>bnd (A8 p3.2 32 (.c (.p (h ++ [some (Row.mk (c1) true)]).length 0)) v5) fun h6=>C7 [A3 h6 32 (.c (.p (h ++ [some (Row.mk (c1) true)]).length 0)),some p3.1] h6) (bnd (A3 (p3.2 ++ [some (Row.mk (List.replicate 256 (.i .u8 0)) true)]) 256 (.c (.p p3.2.length 0))) fun v7=>bnd (B4 (.c (.p h.length 0)) 0) fun v8=>bnd (A4 (p3.2 ++ [some (Row.mk (List.replicate 256 (.i .u8 0)) true)]) v8) fun v9=>bnd (Q8 [v7,.c (.i .i64 0),.c (.i .i64 1),v9] (p3.2 ++ [some (Row.mk (List.replicate 256 (.i .u8 0)) true)])) fun p10=>bnd (A8 p10.2 256 (.c (.p p3.2.length 0)) p10.1) fun h11=>bnd (A3 h11 256 (.c (.p p3.2.length 0))) fun v12=>bnd (B4 (.c (.p h.length 0)) 1) fun v13=>bnd (A4 h11 v13) fun v14=>bnd (Q8 [v12,.c (.i .i64 2),.c (.i .i64 2),v14] h11) fun p15=>bnd (A8 p15.2 256 (.c (.p p3.2.length 0)) p15.1) fun h16=>bnd (A3 h16 256 (.c (.p p3.2.length 0))) fun v17=>bnd (B4 (.c (.p h.length 0)) 2) fun v18=>bnd (A4 h16 v18) fun v19=>bnd (Q8 [v17,.c (.i .i64 4),.c (.i .i64 4),v19] h16) fun p20=>bnd (A8 p20.2 256 (.c (.p p3.2.length 0)) p20.1) fun h21=>bnd (A3 h21 256 (.c (.p p3.2.length 0))) fun v22=>bnd (B4 (.c (.p h.length 0)) 3) fun v23=>bnd (A4 h21 v23) fun v24=>bnd (Q8 [v22,.c (.i .i64 8),.c (.i .i64 2),v24] h21) fun p25=>bnd (A8 p25.2 256 (.c (.p p3.2.length 0)) p25.1) fun h26=>bnd (A3 h26 11 (.c (.p h.length 0))) fun v27=>bnd (A1V [v27] h26) fun p28=>A7N n n (.c (.p (h ++ [some (Row.mk (c1) true)]).length 0)) (.c (.p ((h ++ [some (Row.mk (c1) true)]) ++ [some (Row.mk (List.replicate 32 (.i .u8 0)) true)]).length 0)) (.c (.p p3.2.length 0)) p28.1 (.c (.i .i64 0)) p28.2):=by kernel_rfl
theorem B6C (n m:Nat) (x2 x4 x6 x33 x34:Val) (h:A0):A7N n (m + 1) x2 x4 x6 x33 x34 h=bnd (A2 .lss x34 (.c (.i .i64 7))) fun v29=>cnd v29 (bnd (V6 7 x33 x34) fun v30=>bnd (A3 h 256 x6) fun v31=>bnd (A2 .mul (.c (.i .i64 2)) x34) fun v32=>bnd (A2 .add (.c (.i .i64 10)) v32) fun v33=>bnd (Q8 [v31,v33,.c (.i .i64 2),v30] h) fun p34=>bnd (A8 p34.2 256 x6 p34.1) fun h35=>bnd (A2 .add x34 (.c (.i .i64 1))) fun v36=>A7N n m x2 x4 x6 x33 v36 h35) (A7O n n x2 x4 x6 (.c (.i .i64 0)) h):=by kernel_rfl
theorem B6D (n m:Nat) (x2 x4 x6 x45:Val) (h:A0):A7O n (m + 1) x2 x4 x6 x45 h=bnd (A2 .lss x45 (.c (.i .i64 32))) fun v37=>cnd v37 (bnd (D6 256 1 x6 x45) fun v38=>bnd (A4 h v38) fun v39=>bnd (D6 32 1 x4 x45) fun v40=>bnd (E4 h v40 v39) fun h41=>bnd (A2 .add x45 (.c (.i .i64 1))) fun v42=>A7O n m x2 x4 x6 v42 h41) (bnd (A3 h 32 x4) fun v43=>bnd (A8 h 32 x2 v43) fun h44=>C7 [A3 h44 32 x2,some (.c (.i .i64 0))] h44):=by kernel_rfl
theorem K_inode_Put:FnK Try.prog 81 A_inode_Put A1I A6m:=.mk' (B1 C2z (B1 B0a (B1 B3m C2))) Try.func81 (by kernel_rfl) (fun _ _ _=>C1)
def A1W:Fun:=tidy (Lim A_inode_Put A1I)
theorem B3n:SOk Try.prog 81 A1W:=K_inode_Put.sok
theorem C2F:D5 A6m A1W:=K_inode_Put.flat
def B6r:ACode:=.seq [2,3,4,17,18] (.ops [aO 18 (.bin .lss (.t 17) (.v (.c (.i .i64 6))))]) (.seq [2,3,4,17] (.cond (.t 18) .skip (.exit 0)) (.seq [2,3,4,17] (.block 1 (.seq [2,3,4,5,17] (.ops [aO 19 (.mv (.t 17)),aO 5 (.mv (.t 19))]) (.ops [aO 20 (.mv (.t 5)),aO 21 (.loadN 256 (.t 3)),aO 22 (.mv (.t 5)),aO 23 (.bin .mul (.v (.c (.i .i64 2))) (.t 22)),aO 24 (.bin .add (.v (.c (.i .i64 10))) (.t 23)),aO 25 (.call 47 [(.t 21),(.t 24),(.v (.c (.i .i64 2)))]),aO 26 (.fAddr (.t 4) 4),aO 27 (.iAddrA 6 1 (.t 26) (.t 20)),aN (.store1 (.t 27) (.t 25))]))) (.ops [aO 28 (.bin .add (.t 17) (.v (.c (.i .i64 1)))),aO 17 (.mv (.t 28))])))
def B6s:ACode:=.seq [2,4] (.ops [aO 29 (.loadN 256 (.t 3)),aO 30 (.call 47 [(.t 29),(.v (.c (.i .i64 22))),(.v (.c (.i .i64 2)))]),aO 31 (.fAddr (.t 4) 10),aN (.store1 (.t 31) (.t 30))]) (.seq [2] (.ops [aO 32 (.loadN 11 (.t 4)),aN (.storeN 11 (.t 2) (.t 32))]) .ret)
def A_inode_Get:AFn:=⟨.seq [1,2] (.ops [aO 1 (.box (.t 0)),aO 2 (.alloc ([.i .i64 0,.i .i64 0,.i .i64 0,.i .i64 0,.i .i64 0,.i .i64 0,.i .i64 0,.i .i64 0,.i .i64 0,.i .i64 0,.i .i64 0]))]) (.seq [2,3] (.ops [aO 6 (.slA 32 1 (.t 1) none none),aO 7 (.call 66 [(.t 6)]),aO 3 (.alloc (List.replicate 256 (.i .u8 0))),aN (.storeN 256 (.t 3) (.t 7))]) (.seq [2,3,4] (.draw 1 [aO 8 (.loadN 256 (.t 3)),aO 9 (.call 47 [(.t 8),(.v (.c (.i .i64 0))),(.v (.c (.i .i64 1)))]),aO 10 (.loadN 256 (.t 3)),aO 11 (.call 47 [(.t 10),(.v (.c (.i .i64 2))),(.v (.c (.i .i64 2)))]),aO 12 (.loadN 256 (.t 3)),aO 13 (.call 47 [(.t 12),(.v (.c (.i .i64 4))),(.v (.c (.i .i64 4)))]),aO 14 (.loadN 256 (.t 3)),aO 15 (.call 47 [(.t 14),(.v (.c (.i .i64 8))),(.v (.c (.i .i64 2)))]),aO 16 (.build ([.i .i64 0,.i .i64 0,.i .i64 0,.i .i64 0,.i .i64 0,.i .i64 0,.i .i64 0,.i .i64 0,.i .i64 0,.i .i64 0,.i .i64 0]) [(0,1,(.t 9)),(1,1,(.t 11)),(2,1,(.t 13)),(3,1,(.t 15))]),aS 4 0 (.alloc ([.i .i64 0,.i .i64 0,.i .i64 0,.i .i64 0,.i .i64 0,.i .i64 0,.i .i64 0,.i .i64 0,.i .i64 0,.i .i64 0,.i .i64 0]))] [aN (.storeN 11 (.t 4) (.t 16))]) (.seq [2,3,4] (.seq [2,3,4,17] (.ops [aO 17 (.mv (.v (.c (.i .i64 0))))]) (.block 0 (.loop [2,3,4,17] B6r))) B6s))),[.cellN 2 11]⟩
def A3G:A9:=B0 66 Y3 (B0 47 M0 C0)
def C6G (n:Nat):B3 (Val × A0):=E3 [2,3,4] (ax A3G n B6s) A_inode_Get.fin
def C6H (n:Nat):B3 (Val × A0):=D7 0 (C6G n)
def A7L (n m:Nat) (x2 x3 x4 x17:Val) (h:A0):A6:=D1 (ax A3G n B6r) [2,3,4,17] (C6H n) m [(2,x2),(3,x3),(4,x4),(17,x17)] h
def A6k (n:Nat) (args:List Val) (h:A0):A6:=ax A3G n A_inode_Get.code A_inode_Get.fin (params 0 args) h
theorem C0J (n:Nat) (a0:Val) (h:A0):A6k n [a0] h=bnd (cells? a0) fun c1=>bnd (W7 ((h ++ [some (Row.mk (c1) true)]) ++ [some (Row.mk ([.i .i64 0,.i .i64 0,.i .i64 0,.i .i64 0,.i .i64 0,.i .i64 0,.i .i64 0,.i .i64 0,.i .i64 0,.i .i64 0,.i .i64 0]) true)]) 32 1 (.c (.p h.length 0)) none none) fun v2=>bnd (Y3 [v2] ((h ++ [some (Row.mk (c1) true)]) ++ [some (Row.mk ([.i .i64 0,.i .i64 0,.i .i64 0,.i .i64 0,.i .i64 0,.i .i64 0,.i .i64 0,.i .i64 0,.i .i64 0,.i .i64 0,.i .i64 0]) true)])) fun p3=>bnd (A8 (p3.2 ++ [some (Row.mk (List.replicate 256 (.i .u8 0)) true)]) 256 (.c (.p p3.2.length 0)) p3.1) fun h4=>bnd (A3 h4 256 (.c (.p p3.2.length 0))) fun v5=>bnd (quiet (h4 ++ [none]) (M0 [v5,.c (.i .i64 0),.c (.i .i64 1)] (h4 ++ [none]))) fun p6=>bnd (A3 h4 256 (.c (.p p3.2.length 0))) fun v7=>bnd (quiet p6.2 (M0 [v7,.c (.i .i64 2),.c (.i .i64 2)] p6.2)) fun p8=>bnd (A3 h4 256 (.c (.p p3.2.length 0))) fun v9=>bnd (quiet p8.2 (M0 [v9,.c (.i .i64 4),.c (.i .i64 4)] p8.2)) fun p10=>bnd (A3 h4 256 (.c (.p p3.2.length 0))) fun v11=>bnd (quiet p10.2 (M0 [v11,.c (.i .i64 8),.c (.i .i64 2)] p10.2)) fun p12=>bnd (A7 ([.i .i64 0,.i .i64 0,.i .i64 0,.i .i64 0,.i .i64 0,.i .i64 0,.i .i64 0,.i .i64 0,.i .i64 0,.i .i64 0,.i .i64 0]) [(0,1,p6.1),(1,1,p8.1),(2,1,p10.1),(3,1,p12.1)]) fun c13=>bnd (A8 (p12.2.set (h4.length + 0) (some (Row.mk ([.i .i64 0,.i .i64 0,.i .i64 0,.i .i64 0,.i .i64 0,.i .i64 0,.i .i64 0,.i .i64 0,.i .i64 0,.i .i64 0,.i .i64 0]) true))) 11 (.c (.p (h4.length + 0) 0)) (.a c13)) fun h14=>A7L n n (.c (.p (h ++ [some (Row.mk (c1) true)]).length 0)) (.c (.p p3.2.length 0)) (.c (.p (h4.length + 0) 0)) (.c (.i .i64 0)) h14:=by kernel_rfl
theorem B6t (n m:Nat) (x2 x3 x4 x17:Val) (h:A0):A7L n (m + 1) x2 x3 x4 x17 h=bnd (A2 .lss x17 (.c (.i .i64 6))) fun v15=>cnd v15 (bnd (A3 h 256 x3) fun v16=>bnd (A2 .mul (.c (.i .i64 2)) x17) fun v17=>bnd (A2 .add (.c (.i .i64 10)) v17) fun v18=>bnd (M0 [v16,v18,.c (.i .i64 2)] h) fun p19=>bnd (B4 x4 4) fun v20=>bnd (D6 6 1 v20 x17) fun v21=>bnd (E4 p19.2 v21 p19.1) fun h22=>bnd (A2 .add x17 (.c (.i .i64 1))) fun v23=>A7L n m x2 x3 x4 v23 h22) (bnd (A3 h 256 x3) fun v24=>bnd (M0 [v24,.c (.i .i64 22),.c (.i .i64 2)] h) fun p25=>bnd (B4 x4 10) fun v26=>bnd (E4 p25.2 v26 p25.1) fun h27=>bnd (A3 h27 11 x4) fun v28=>bnd (A8 h27 11 x2 v28) fun h29=>mp (A3 h29 11 x2) fun v=>(v,h29)):=by kernel_rfl
theorem K_inode_Get:FnK Try.prog 80 A_inode_Get A3G A6k:=.mk' (B1 A6T (B1 A4x C2)) Try.func80 (by kernel_rfl) (fun _ _ _=>C1)
def A4s:Fun:=tidy (Lim A_inode_Get A3G)
theorem C2D:SOk Try.prog 80 A4s:=K_inode_Get.sok
theorem C2C:D5 A6k A4s:=K_inode_Get.flat
def A_inode_Clean:AFn:=⟨.seq [1,2] (.ops [aO 1 (.box (.t 0)),aO 2 (.alloc ([.i .i64 0,.i .i64 0,.i .i64 0,.i .i64 0,.i .i64 0,.i .i64 0,.i .i64 0,.i .i64 0,.i .i64 0,.i .i64 0,.i .i64 0])),aO 3 (.mv (.v (.c (.b false))))]) (.seq [1,2,4] (.ops [aO 7 (.loadN 32 (.t 1)),aO 8 (.call 80 [(.t 7)]),aO 4 (.alloc ([.i .i64 0,.i .i64 0,.i .i64 0,.i .i64 0,.i .i64 0,.i .i64 0,.i .i64 0,.i .i64 0,.i .i64 0,.i .i64 0,.i .i64 0])),aN (.storeN 11 (.t 4) (.t 8))]) (.seq [2,4] (.seq [1,2,4,5,6] (.ops [aO 10 (.loadN 11 (.t 4)),aO 11 (.call 81 [(.t 10)]),aO 9 (.mv (.t 11)),aO 12 (.ext (.t 9) 0),aO 13 (.ext (.t 9) 1),aO 5 (.alloc (List.replicate 32 (.i .u8 0))),aN (.storeN 32 (.t 5) (.t 12)),aO 6 (.mv (.t 13))]) (.seq [2,4,20] (.ops [aO 14 (.mv (.t 6)),aO 15 (.bin .neq (.t 14) (.v (.c (.i .i64 0)))),aO 16 (.mv (.t 15)),aG 17 16 false (.loadN 32 (.t 5)),aG 18 16 false (.loadN 32 (.t 1)),aG 19 16 false (.eqA true (List.replicate 32 (.i .u8)) (.t 17) (.t 18)),aO 20 (.pick (.t 16) (.v (.c (.b true))) (.t 19))]) (.cond (.t 20) (.seq [2,3] (.ops [aO 21 (.build ([.i .i64 0,.i .i64 0,.i .i64 0,.i .i64 0,.i .i64 0,.i .i64 0,.i .i64 0,.i .i64 0,.i .i64 0,.i .i64 0,.i .i64 0]) []),aN (.storeN 11 (.t 2) (.t 21)),aO 3 (.mv (.v (.c (.b false))))]) .ret) .skip))) (.seq [2,3] (.ops [aO 22 (.loadN 11 (.t 4)),aN (.storeN 11 (.t 2) (.t 22)),aO 3 (.mv (.v (.c (.b true))))]) .ret))),[.cellN 2 11,.tmp 3]⟩
def A9n:A9:=B0 80 A4s (B0 81 A1W C0)
def A6j (n:Nat) (args:List Val) (h:A0):A6:=ax A9n n A_inode_Clean.code A_inode_Clean.fin (params 0 args) h
theorem C0I (n:Nat) (a0:Val) (h:A0):A6j n [a0] h=bnd (cells? a0) fun c1=>bnd (A3 ((h ++ [some (Row.mk (c1) true)]) ++ [some (Row.mk ([.i .i64 0,.i .i64 0,.i .i64 0,.i .i64 0,.i .i64 0,.i .i64 0,.i .i64 0,.i .i64 0,.i .i64 0,.i .i64 0,.i .i64 0]) true)]) 32 (.c (.p h.length 0))) fun v2=>bnd (A4s [v2] ((h ++ [some (Row.mk (c1) true)]) ++ [some (Row.mk ([.i .i64 0,.i .i64 0,.i .i64 0,.i .i64 0,.i .i64 0,.i .i64 0,.i .i64 0,.i .i64 0,.i .i64 0,.i .i64 0,.i .i64 0]) true)])) fun p3=>bnd (A8 (p3.2 ++ [some (Row.mk ([.i .i64 0,.i .i64 0,.i .i64 0,.i .i64 0,.i .i64 0,.i .i64 0,.i .i64 0,.i .i64 0,.i .i64 0,.i .i64 0,.i .i64 0]) true)]) 11 (.c (.p p3.2.length 0)) p3.1) fun h4=>bnd (A3 h4 11 (.c (.p p3.2.length 0))) fun v5=>bnd (A1W [v5] h4) fun p6=>bnd (C3 p6.1 0) fun v7=>bnd (C3 p6.1 1) fun v8=>bnd (A8 (p6.2 ++ [some (Row.mk (List.replicate 32 (.i .u8 0)) true)]) 32 (.c (.p p6.2.length 0)) v7) fun h9=>bnd (A2 .neq v8 (.c (.i .i64 0))) fun v10=>bnd (gd v10 false (bnd (A3 h9 32 (.c (.p p6.2.length 0))) fun v11=>some (v11,h9)) (some (.no,h9))) fun p12=>bnd (gd v10 false (bnd (A3 p12.2 32 (.c (.p h.length 0))) fun v13=>some (v13,p12.2)) (some (.no,p12.2))) fun p14=>bnd (gd v10 false (bnd (aeq true (List.replicate 32 (.i .u8)) p12.1 p14.1) fun v15=>some (v15,p14.2)) (some (.no,p14.2))) fun p16=>bnd (D3 v10 (.c (.b true)) p16.1) fun v17=>cnd v17 (bnd (A7 ([.i .i64 0,.i .i64 0,.i .i64 0,.i .i64 0,.i .i64 0,.i .i64 0,.i .i64 0,.i .i64 0,.i .i64 0,.i .i64 0,.i .i64 0]) []) fun c18=>bnd (A8 p16.2 11 (.c (.p (h ++ [some (Row.mk (c1) true)]).length 0)) (.a c18)) fun h19=>C7 [A3 h19 11 (.c (.p (h ++ [some (Row.mk (c1) true)]).length 0)),some (.c (.b false))] h19) (bnd (A3 p16.2 11 (.c (.p p3.2.length 0))) fun v20=>bnd (A8 p16.2 11 (.c (.p (h ++ [some (Row.mk (c1) true)]).length 0)) v20) fun h21=>C7 [A3 h21 11 (.c (.p (h ++ [some (Row.mk (c1) true)]).length 0)),some (.c (.b true))] h21):=by kernel_rfl
theorem K_inode_Clean:FnK Try.prog 50 A_inode_Clean A9n A6j:=.mk' (B1 C2D (B1 B3n C2)) Try.func50 (by kernel_rfl) (fun _ _ _=>C1)
def A4r:Fun:=tidy (Lim A_inode_Clean A9n)
theorem C2B:SOk Try.prog 50 A4r:=K_inode_Clean.sok
theorem C2A:D5 A6j A4r:=K_inode_Clean.flat
end Go.Proofs.Yteckncopbicmcaa
end
noncomputable section
namespace Go.Proofs.Yteckncopbicmcaa
open Go Go.Esc
set_option maxRecDepth 100000
def A_patch_Check:AFn:=⟨.seq [1] (.ops [aO 1 (.box (.t 0)),aO 2 (.mv (.v (.c (.i .i64 0))))]) (.seq [1,3] (.ops [aO 4 (.fAddr (.t 1) 1),aO 5 (.load1 (.t 4)),aO 6 (.len (.t 5)),aO 3 (.mv (.t 6))]) (.seq [] (.seq [24] (.ops [aO 7 (.mv (.t 3)),aO 8 (.bin .lss (.t 7) (.v (.c (.i .i64 1)))),aO 9 (.mv (.t 8)),aG 10 9 false (.mv (.t 3)),aG 11 9 false (.bin .gtr (.t 10) (.v (.c (.i .i64 256)))),aO 12 (.pick (.t 9) (.v (.c (.b true))) (.t 11)),aO 13 (.mv (.t 12)),aG 14 13 false (.fAddr (.t 1) 0),aG 15 13 false (.load1 (.t 14)),aG 16 13 false (.bin .lss (.t 15) (.v (.c (.i .i64 0)))),aO 17 (.pick (.t 13) (.v (.c (.b true))) (.t 16)),aO 18 (.mv (.t 17)),aG 19 18 false (.fAddr (.t 1) 0),aG 20 18 false (.load1 (.t 19)),aG 21 18 false (.mv (.t 3)),aG 22 18 false (.bin .sub (.v (.c (.i .i64 256))) (.t 21)),aG 23 18 false (.bin .gtr (.t 20) (.t 22)),aO 24 (.pick (.t 18) (.v (.c (.b true))) (.t 23))]) (.cond (.t 24) (.seq [2] (.ops [aO 2 (.mv (.v (.c (.i .i64 2))))]) .ret) .skip)) (.seq [2] (.ops [aO 2 (.mv (.v (.c (.i .i64 0))))]) .ret))),[.tmp 2]⟩
def A9v:A9:=C0
def A6x (n:Nat) (args:List Val) (h:A0):A6:=ax A9v n A_patch_Check.code A_patch_Check.fin (params 0 args) h
theorem C04 (n:Nat) (a0:Val) (h:A0):A6x n [a0] h=bnd (cells? a0) fun c1=>bnd (B4 (.c (.p h.length 0)) 1) fun v2=>bnd (A4 (h ++ [some (Row.mk (c1) true)]) v2) fun v3=>bnd (E8 v3) fun v4=>bnd (A2 .lss v4 (.c (.i .i64 1))) fun v5=>bnd (gd v5 false (some (v4,(h ++ [some (Row.mk (c1) true)]))) (some (.no,(h ++ [some (Row.mk (c1) true)])))) fun p6=>bnd (gd v5 false (bnd (A2 .gtr p6.1 (.c (.i .i64 256))) fun v7=>some (v7,p6.2)) (some (.no,p6.2))) fun p8=>bnd (D3 v5 (.c (.b true)) p8.1) fun v9=>bnd (gd v9 false (bnd (B4 (.c (.p h.length 0)) 0) fun v10=>some (v10,p8.2)) (some (.no,p8.2))) fun p11=>bnd (gd v9 false (bnd (A4 p11.2 p11.1) fun v12=>some (v12,p11.2)) (some (.no,p11.2))) fun p13=>bnd (gd v9 false (bnd (A2 .lss p13.1 (.c (.i .i64 0))) fun v14=>some (v14,p13.2)) (some (.no,p13.2))) fun p15=>bnd (D3 v9 (.c (.b true)) p15.1) fun v16=>bnd (gd v16 false (bnd (B4 (.c (.p h.length 0)) 0) fun v17=>some (v17,p15.2)) (some (.no,p15.2))) fun p18=>bnd (gd v16 false (bnd (A4 p18.2 p18.1) fun v19=>some (v19,p18.2)) (some (.no,p18.2))) fun p20=>bnd (gd v16 false (some (v4,p20.2)) (some (.no,p20.2))) fun p21=>bnd (gd v16 false (bnd (A2 .sub (.c (.i .i64 256)) p21.1) fun v22=>some (v22,p21.2)) (some (.no,p21.2))) fun p23=>bnd (gd v16 false (bnd (A2 .gtr p20.1 p23.1) fun v24=>some (v24,p23.2)) (some (.no,p23.2))) fun p25=>bnd (D3 v16 (.c (.b true)) p25.1) fun v26=>cnd v26 (some ((.c (.i .i64 2)),p25.2)) (some ((.c (.i .i64 0)),p25.2)):=by kernel_rfl
theorem K_patch_Check:FnK Try.prog 90 A_patch_Check A9v A6x:=.mk' (C2) Try.func90 (by kernel_rfl) (fun _ _ _=>C1)
def A4A:Fun:=tidy (Lim A_patch_Check A9v)
theorem C27:SOk Try.prog 90 A4A:=K_patch_Check.sok
theorem C26:D5 A6x A4A:=K_patch_Check.flat
def B75:ACode:=.seq [2,3,4,12,13,14,15] (.ops [aO 15 (.bin .lss (.t 14) (.t 13))]) (.seq [2,3,4,12,13,14] (.cond (.t 15) .skip (.exit 0)) (.seq [2,3,4,12,13,14] (.block 1 (.seq [2,3,4,5,6,12,13,14] (.ops [aO 16 (.mv (.t 14)),aO 17 (.iAddrL 1 (.t 12) (.t 14)),aO 18 (.load1 (.t 17)),aO 5 (.mv (.t 16)),aO 6 (.mv (.t 18))]) (.ops [aO 19 (.fAddr (.t 3) 0),aO 20 (.load1 (.t 19)),aO 21 (.mv (.t 5)),aO 22 (.bin .add (.t 20) (.t 21)),aO 23 (.mv (.t 6)),aO 24 (.iAddrA 256 1 (.t 2) (.t 22)),aN (.store1 (.t 24) (.t 23))]))) (.ops [aO 25 (.bin .add (.t 14) (.v (.c (.i .i64 1)))),aO 14 (.mv (.t 25))])))
def B76:ACode:=.seq [4] (.ops [aO 26 (.loadN 256 (.t 2)),aN (.storeN 256 (.t 4) (.t 26))]) .ret
def A_patch_Lay:AFn:=⟨.seq [2,3,4] (.ops [aO 2 (.box (.t 0)),aO 3 (.box (.t 1)),aO 4 (.alloc (List.replicate 256 (.i .u8 0)))]) (.seq [2,3,4] (.seq [2,3,4,9] (.ops [aO 7 (.loadN 2 (.t 3)),aO 8 (.call 90 [(.t 7)]),aO 9 (.bin .neq (.t 8) (.v (.c (.i .i64 0))))]) (.cond (.t 9) (.seq [4] (.ops [aO 10 (.loadN 256 (.t 2)),aN (.storeN 256 (.t 4) (.t 10))]) .ret) .skip)) (.seq [2,4] (.seq [2,3,4,12,13,14] (.ops [aO 11 (.fAddr (.t 3) 1),aO 12 (.load1 (.t 11)),aO 13 (.len (.t 12)),aO 14 (.mv (.v (.c (.i .i64 0))))]) (.block 0 (.loop [2,3,4,12,13,14] B75))) B76)),[.cellN 4 256]⟩
def A3R:A9:=B0 90 A4A C0
def C75 (n:Nat):B3 (Val × A0):=E3 [2,4] (ax A3R n B76) A_patch_Lay.fin
def C76 (n:Nat):B3 (Val × A0):=D7 0 (C75 n)
def A8o (n m:Nat) (x2 x3 x4 x12 x13 x14:Val) (h:A0):A6:=D1 (ax A3R n B75) [2,3,4,12,13,14] (C76 n) m [(2,x2),(3,x3),(4,x4),(12,x12),(13,x13),(14,x14)] h
def A6y (n:Nat) (args:List Val) (h:A0):A6:=ax A3R n A_patch_Lay.code A_patch_Lay.fin (params 0 args) h
theorem C05 (n:Nat) (a0 a1:Val) (h:A0):A6y n [a0,a1] h=bnd (cells? a0) fun c1=>bnd (cells? a1) fun c2=>bnd (A3 (((h ++ [some (Row.mk (c1) true)]) ++ [some (Row.mk (c2) true)]) ++ [some (Row.mk (List.replicate 256 (.i .u8 0)) true)]) 2 (.c (.p (h ++ [some (Row.mk (c1) true)]).length 0))) fun v3=>bnd (A4A [v3] (((h ++ [some (Row.mk (c1) true)]) ++ [some (Row.mk (c2) true)]) ++ [some (Row.mk (List.replicate 256 (.i .u8 0)) true)])) fun p4=>bnd (A2 .neq p4.1 (.c (.i .i64 0))) fun v5=>cnd v5 (bnd (A3 p4.2 256 (.c (.p h.length 0))) fun v6=>bnd (A8 p4.2 256 (.c (.p ((h ++ [some (Row.mk (c1) true)]) ++ [some (Row.mk (c2) true)]).length 0)) v6) fun h7=>mp (A3 h7 256 (.c (.p ((h ++ [some (Row.mk (c1) true)]) ++ [some (Row.mk (c2) true)]).length 0))) fun v=>(v,h7)) (bnd (B4 (.c (.p (h ++ [some (Row.mk (c1) true)]).length 0)) 1) fun v8=>bnd (A4 p4.2 v8) fun v9=>bnd (E8 v9) fun v10=>A8o n n (.c (.p h.length 0)) (.c (.p (h ++ [some (Row.mk (c1) true)]).length 0)) (.c (.p ((h ++ [some (Row.mk (c1) true)]) ++ [some (Row.mk (c2) true)]).length 0)) v9 v10 (.c (.i .i64 0)) p4.2):=by kernel_rfl
theorem B77 (n m:Nat) (x2 x3 x4 x12 x13 x14:Val) (h:A0):A8o n (m + 1) x2 x3 x4 x12 x13 x14 h=bnd (A2 .lss x14 x13) fun v11=>cnd v11 (bnd (B9 1 x12 x14) fun v12=>bnd (A4 h v12) fun v13=>bnd (B4 x3 0) fun v14=>bnd (A4 h v14) fun v15=>bnd (A2 .add v15 x14) fun v16=>bnd (D6 256 1 x2 v16) fun v17=>bnd (E4 h v17 v13) fun h18=>bnd (A2 .add x14 (.c (.i .i64 1))) fun v19=>A8o n m x2 x3 x4 x12 x13 v19 h18) (bnd (A3 h 256 x2) fun v20=>bnd (A8 h 256 x4 v20) fun h21=>mp (A3 h21 256 x4) fun v=>(v,h21)):=by kernel_rfl
theorem K_patch_Lay:FnK Try.prog 71 A_patch_Lay A3R A6y:=.mk' (B1 C27 C2) Try.func71 (by kernel_rfl) (fun _ _ _=>C1)
def A4B:Fun:=tidy (Lim A_patch_Lay A3R)
theorem C29:SOk Try.prog 71 A4B:=K_patch_Lay.sok
theorem C28:D5 A6y A4B:=K_patch_Lay.flat
end Go.Proofs.Yteckncopbicmcaa
end
noncomputable section
namespace Go.Proofs.Yteckncopbicmcaa
open Go Go.Esc
set_option maxRecDepth 100000
def A_table_Patch:AFn:=⟨.seq [0,3,4] (.ops [aO 3 (.box (.t 1)),aO 4 (.alloc ([.i .i64 0,.ns])),aO 5 (.mv (.v (.c (.i .i64 0))))]) (.seq [0,3,4] (.seq [0,3,4,13] (.ops [aO 8 (.mv (.t 0)),aO 9 (.bin .lss (.t 8) (.v (.c (.i .i64 0)))),aO 10 (.mv (.t 9)),aG 11 10 false (.mv (.t 0)),aG 12 10 false (.bin .geq (.t 11) (.v (.c (.i .i64 8)))),aO 13 (.pick (.t 10) (.v (.c (.b true))) (.t 12))]) (.cond (.t 13) (.seq [4,5] (.ops [aO 14 (.build ([.i .i64 0,.ns]) []),aN (.storeN 2 (.t 4) (.t 14)),aO 5 (.mv (.v (.c (.i .i64 2))))]) .ret) .skip)) (.seq [0,4,6,7] (.ops [aO 16 (.loadN 11 (.t 3)),aO 17 (.call 81 [(.t 16)]),aO 15 (.mv (.t 17)),aO 18 (.ext (.t 15) 0),aO 19 (.ext (.t 15) 1),aO 6 (.alloc (List.replicate 32 (.i .u8 0))),aN (.storeN 32 (.t 6) (.t 18)),aO 7 (.mv (.t 19))]) (.seq [0,4,6] (.seq [0,4,6,7,21] (.ops [aO 20 (.mv (.t 7)),aO 21 (.bin .neq (.t 20) (.v (.c (.i .i64 0))))]) (.cond (.t 21) (.seq [4,5] (.ops [aO 22 (.build ([.i .i64 0,.ns]) []),aO 23 (.mv (.t 7)),aN (.storeN 2 (.t 4) (.t 22)),aO 5 (.mv (.t 23))]) .ret) .skip)) (.seq [4,5] (.ops [aO 24 (.mv (.t 0)),aO 25 (.bin .mul (.t 24) (.v (.c (.i .i64 32)))),aO 26 (.buildSl 1 0 ([]) []),aO 27 (.slA 32 1 (.t 6) none none),aO 28 (.app 1 (.t 26) (.t 27)),aO 29 (.build ([.i .i64 0,.ns]) [(0,1,(.t 25)),(1,1,(.t 28))]),aN (.storeN 2 (.t 4) (.t 29)),aO 5 (.mv (.v (.c (.i .i64 0))))]) .ret)))),[.cellN 4 2,.tmp 5]⟩
def A9B:A9:=B0 81 A1W C0
def A6F (n:Nat) (args:List Val) (h:A0):A6:=ax A9B n A_table_Patch.code A_table_Patch.fin (params 0 args) h
theorem C1c (n:Nat) (a0 a1:Val) (h:A0):A6F n [a0,a1] h=bnd (cells? a1) fun c1=>bnd (A2 .lss a0 (.c (.i .i64 0))) fun v2=>bnd (gd v2 false (some (a0,((h ++ [some (Row.mk (c1) true)]) ++ [some (Row.mk ([.i .i64 0,.ns]) true)]))) (some (.no,((h ++ [some (Row.mk (c1) true)]) ++ [some (Row.mk ([.i .i64 0,.ns]) true)])))) fun p3=>bnd (gd v2 false (bnd (A2 .geq p3.1 (.c (.i .i64 8))) fun v4=>some (v4,p3.2)) (some (.no,p3.2))) fun p5=>bnd (D3 v2 (.c (.b true)) p5.1) fun v6=>cnd v6 (bnd (A7 ([.i .i64 0,.ns]) []) fun c7=>bnd (A8 p5.2 2 (.c (.p (h ++ [some (Row.mk (c1) true)]).length 0)) (.a c7)) fun h8=>C7 [A3 h8 2 (.c (.p (h ++ [some (Row.mk (c1) true)]).length 0)),some (.c (.i .i64 2))] h8) (bnd (A3 p5.2 11 (.c (.p h.length 0))) fun v9=>bnd (A1W [v9] p5.2) fun p10=>bnd (C3 p10.1 0) fun v11=>bnd (C3 p10.1 1) fun v12=>bnd (A8 (p10.2 ++ [some (Row.mk (List.replicate 32 (.i .u8 0)) true)]) 32 (.c (.p p10.2.length 0)) v11) fun h13=>bnd (A2 .neq v12 (.c (.i .i64 0))) fun v14=>cnd v14 (bnd (A7 ([.i .i64 0,.ns]) []) fun c15=>bnd (A8 h13 2 (.c (.p (h ++ [some (Row.mk (c1) true)]).length 0)) (.a c15)) fun h16=>C7 [A3 h16 2 (.c (.p (h ++ [some (Row.mk (c1) true)]).length 0)),some v12] h16) (bnd (A2 .mul a0 (.c (.i .i64 32))) fun v17=>bnd (A7 ([]) []) fun c18=>bnd (W7 (h13 ++ [some (Row.mk (c18) true)]) 32 1 (.c (.p p10.2.length 0)) none none) fun v19=>bnd (F0 (h13 ++ [some (Row.mk (c18) true)]) 1 (.c (.sl h13.length 0 0 1)) v19) fun p20=>bnd (A7 ([.i .i64 0,.ns]) [(0,1,v17),(1,1,p20.1)]) fun c21=>bnd (A8 p20.2 2 (.c (.p (h ++ [some (Row.mk (c1) true)]).length 0)) (.a c21)) fun h22=>C7 [A3 h22 2 (.c (.p (h ++ [some (Row.mk (c1) true)]).length 0)),some (.c (.i .i64 0))] h22)):=by kernel_rfl
theorem K_table_Patch:FnK Try.prog 70 A_table_Patch A9B A6F:=.mk' (B1 B3n C2) Try.func70 (by kernel_rfl) (fun _ _ _=>C1)
def A4G:Fun:=tidy (Lim A_table_Patch A9B)
theorem C3k:SOk Try.prog 70 A4G:=K_table_Patch.sok
theorem C3l:A6W A6F A4G:=K_table_Patch.tidy
def A_table_With:AFn:=⟨.seq [1,3,5,6] (.ops [aO 3 (.box (.t 0)),aO 5 (.box (.t 2)),aO 6 (.alloc (List.replicate 256 (.i .u8 0))),aO 7 (.mv (.v (.c (.i .i64 0))))]) (.seq [3,6,8,9] (.ops [aO 11 (.mv (.t 1)),aO 12 (.loadN 11 (.t 5)),aO 13 (.call 70 [(.t 11),(.t 12)]),aO 10 (.mv (.t 13)),aO 14 (.ext (.t 10) 0),aO 15 (.ext (.t 10) 1),aO 8 (.alloc ([.i .i64 0,.ns])),aN (.storeN 2 (.t 8) (.t 14)),aO 9 (.mv (.t 15))]) (.seq [3,6,8] (.seq [3,6,8,9,17] (.ops [aO 16 (.mv (.t 9)),aO 17 (.bin .neq (.t 16) (.v (.c (.i .i64 0))))]) (.cond (.t 17) (.seq [6,7] (.ops [aO 18 (.loadN 256 (.t 3)),aO 19 (.mv (.t 9)),aN (.storeN 256 (.t 6) (.t 18)),aO 7 (.mv (.t 19))]) .ret) .skip)) (.seq [6,7] (.ops [aO 20 (.loadN 256 (.t 3)),aO 21 (.loadN 2 (.t 8)),aO 22 (.call 71 [(.t 20),(.t 21)]),aN (.storeN 256 (.t 6) (.t 22)),aO 7 (.mv (.v (.c (.i .i64 0))))]) .ret))),[.cellN 6 256,.tmp 7]⟩
def A9C:A9:=B0 70 A4G (B0 71 A4B C0)
def A6H (n:Nat) (args:List Val) (h:A0):A6:=ax A9C n A_table_With.code A_table_With.fin (params 0 args) h
theorem C1e (n:Nat) (a0 a1 a2:Val) (h:A0):A6H n [a0,a1,a2] h=bnd (cells? a0) fun c1=>bnd (cells? a2) fun c2=>bnd (A3 (((h ++ [some (Row.mk (c1) true)]) ++ [some (Row.mk (c2) true)]) ++ [some (Row.mk (List.replicate 256 (.i .u8 0)) true)]) 11 (.c (.p (h ++ [some (Row.mk (c1) true)]).length 0))) fun v3=>bnd (A4G [a1,v3] (((h ++ [some (Row.mk (c1) true)]) ++ [some (Row.mk (c2) true)]) ++ [some (Row.mk (List.replicate 256 (.i .u8 0)) true)])) fun p4=>bnd (C3 p4.1 0) fun v5=>bnd (C3 p4.1 1) fun v6=>bnd (A8 (p4.2 ++ [some (Row.mk ([.i .i64 0,.ns]) true)]) 2 (.c (.p p4.2.length 0)) v5) fun h7=>bnd (A2 .neq v6 (.c (.i .i64 0))) fun v8=>cnd v8 (bnd (A3 h7 256 (.c (.p h.length 0))) fun v9=>bnd (A8 h7 256 (.c (.p ((h ++ [some (Row.mk (c1) true)]) ++ [some (Row.mk (c2) true)]).length 0)) v9) fun h10=>C7 [A3 h10 256 (.c (.p ((h ++ [some (Row.mk (c1) true)]) ++ [some (Row.mk (c2) true)]).length 0)),some v6] h10) (bnd (A3 h7 256 (.c (.p h.length 0))) fun v11=>bnd (A3 h7 2 (.c (.p p4.2.length 0))) fun v12=>bnd (A4B [v11,v12] h7) fun p13=>bnd (A8 p13.2 256 (.c (.p ((h ++ [some (Row.mk (c1) true)]) ++ [some (Row.mk (c2) true)]).length 0)) p13.1) fun h14=>C7 [A3 h14 256 (.c (.p ((h ++ [some (Row.mk (c1) true)]) ++ [some (Row.mk (c2) true)]).length 0)),some (.c (.i .i64 0))] h14):=by kernel_rfl
theorem K_table_With:FnK Try.prog 42 A_table_With A9C A6H:=.mk' (B1 C3k (B1 C29 C2)) Try.func42 (by kernel_rfl) (fun _ _ _=>C1)
def A07:Fun:=tidy (Lim A_table_With A9C)
theorem C3p:SOk Try.prog 42 A07:=K_table_With.sok
theorem C3o:D5 A6H A07:=K_table_With.flat
def B83:ACode:=.seq [1,2,4,5,14,15] (.ops [aO 15 (.bin .lss (.t 14) (.v (.c (.i .i64 32))))]) (.seq [1,2,4,5,14] (.cond (.t 15) .skip (.exit 0)) (.seq [1,2,4,5,14] (.block 1 (.seq [1,2,4,5,6,14] (.ops [aO 16 (.mv (.t 14)),aO 6 (.mv (.t 16))]) (.ops [aO 17 (.mv (.t 6)),aO 18 (.mv (.t 1)),aO 19 (.bin .mul (.t 18) (.v (.c (.i .i64 32)))),aO 20 (.mv (.t 6)),aO 21 (.bin .add (.t 19) (.t 20)),aO 22 (.iAddrA 256 1 (.t 2) (.t 21)),aO 23 (.load1 (.t 22)),aO 24 (.iAddrA 32 1 (.t 5) (.t 17)),aN (.store1 (.t 24) (.t 23))]))) (.ops [aO 25 (.bin .add (.t 14) (.v (.c (.i .i64 1)))),aO 14 (.mv (.t 25))])))
def B84:ACode:=.seq [4] (.ops [aO 26 (.loadN 32 (.t 5)),aN (.storeN 32 (.t 4) (.t 26))]) .ret
def A_table_Raw:AFn:=⟨.seq [1,2,4] (.ops [aO 2 (.box (.t 0)),aO 4 (.alloc (List.replicate 32 (.i .u8 0)))]) (.seq [1,2,4,5] (.ops [aO 5 (.alloc (List.replicate 32 (.i .u8 0)))]) (.seq [1,2,4,5] (.seq [1,2,4,5,12] (.ops [aO 7 (.mv (.t 1)),aO 8 (.bin .lss (.t 7) (.v (.c (.i .i64 0)))),aO 9 (.mv (.t 8)),aG 10 9 false (.mv (.t 1)),aG 11 9 false (.bin .geq (.t 10) (.v (.c (.i .i64 8)))),aO 12 (.pick (.t 9) (.v (.c (.b true))) (.t 11))]) (.cond (.t 12) (.seq [4] (.ops [aO 13 (.loadN 32 (.t 5)),aN (.storeN 32 (.t 4) (.t 13))]) .ret) .skip)) (.seq [4,5] (.seq [1,2,4,5,14] (.ops [aO 14 (.mv (.v (.c (.i .i64 0))))]) (.block 0 (.loop [1,2,4,5,14] B83))) B84))),[.cellN 4 32]⟩
def A3S:A9:=C0
def C9R (n:Nat):B3 (Val × A0):=E3 [4,5] (ax A3S n B84) A_table_Raw.fin
def C9S (n:Nat):B3 (Val × A0):=D7 0 (C9R n)
def A8G (n m:Nat) (x1 x2 x4 x5 x14:Val) (h:A0):A6:=D1 (ax A3S n B83) [1,2,4,5,14] (C9S n) m [(1,x1),(2,x2),(4,x4),(5,x5),(14,x14)] h
def A6G (n:Nat) (args:List Val) (h:A0):A6:=ax A3S n A_table_Raw.code A_table_Raw.fin (params 0 args) h
theorem C1d (n:Nat) (a0 a1:Val) (h:A0):A6G n [a0,a1] h=bnd (cells? a0) fun c1=>bnd (A2 .lss a1 (.c (.i .i64 0))) fun v2=>bnd (gd v2 false (some (a1,(((h ++ [some (Row.mk (c1) true)]) ++ [some (Row.mk (List.replicate 32 (.i .u8 0)) true)]) ++ [some (Row.mk (List.replicate 32 (.i .u8 0)) true)]))) (some (.no,(((h ++ [some (Row.mk (c1) true)]) ++ [some (Row.mk (List.replicate 32 (.i .u8 0)) true)]) ++ [some (Row.mk (List.replicate 32 (.i .u8 0)) true)])))) fun p3=>bnd (gd v2 false (bnd (A2 .geq p3.1 (.c (.i .i64 8))) fun v4=>some (v4,p3.2)) (some (.no,p3.2))) fun p5=>bnd (D3 v2 (.c (.b true)) p5.1) fun v6=>cnd v6 (bnd (A3 p5.2 32 (.c (.p ((h ++ [some (Row.mk (c1) true)]) ++ [some (Row.mk (List.replicate 32 (.i .u8 0)) true)]).length 0))) fun v7=>bnd (A8 p5.2 32 (.c (.p (h ++ [some (Row.mk (c1) true)]).length 0)) v7) fun h8=>mp (A3 h8 32 (.c (.p (h ++ [some (Row.mk (c1) true)]).length 0))) fun v=>(v,h8)) (A8G n n a1 (.c (.p h.length 0)) (.c (.p (h ++ [some (Row.mk (c1) true)]).length 0)) (.c (.p ((h ++ [some (Row.mk (c1) true)]) ++ [some (Row.mk (List.replicate 32 (.i .u8 0)) true)]).length 0)) (.c (.i .i64 0)) p5.2):=by kernel_rfl
theorem B85 (n m:Nat) (x1 x2 x4 x5 x14:Val) (h:A0):A8G n (m + 1) x1 x2 x4 x5 x14 h=bnd (A2 .lss x14 (.c (.i .i64 32))) fun v9=>cnd v9 (bnd (A2 .mul x1 (.c (.i .i64 32))) fun v10=>bnd (A2 .add v10 x14) fun v11=>bnd (D6 256 1 x2 v11) fun v12=>bnd (A4 h v12) fun v13=>bnd (D6 32 1 x5 x14) fun v14=>bnd (E4 h v14 v13) fun h15=>bnd (A2 .add x14 (.c (.i .i64 1))) fun v16=>A8G n m x1 x2 x4 x5 v16 h15) (bnd (A3 h 32 x5) fun v17=>bnd (A8 h 32 x4 v17) fun h18=>mp (A3 h18 32 x4) fun v=>(v,h18)):=by kernel_rfl
theorem K_table_Raw:FnK Try.prog 51 A_table_Raw A3S A6G:=.mk' (C2) Try.func51 (by kernel_rfl) (fun _ _ _=>C1)
def A4H:Fun:=tidy (Lim A_table_Raw A3S)
theorem C3n:SOk Try.prog 51 A4H:=K_table_Raw.sok
theorem C3m:D5 A6G A4H:=K_table_Raw.flat
def A_table_Get:AFn:=⟨.seq [1,2,4] (.ops [aO 2 (.box (.t 0)),aO 4 (.alloc ([.i .i64 0,.i .i64 0,.i .i64 0,.i .i64 0,.i .i64 0,.i .i64 0,.i .i64 0,.i .i64 0,.i .i64 0,.i .i64 0,.i .i64 0])),aO 5 (.mv (.v (.c (.b false))))]) (.seq [1,2,4] (.seq [1,2,4,11] (.ops [aO 6 (.mv (.t 1)),aO 7 (.bin .lss (.t 6) (.v (.c (.i .i64 0)))),aO 8 (.mv (.t 7)),aG 9 8 false (.mv (.t 1)),aG 10 8 false (.bin .geq (.t 9) (.v (.c (.i .i64 8)))),aO 11 (.pick (.t 8) (.v (.c (.b true))) (.t 10))]) (.cond (.t 11) (.seq [4,5] (.ops [aO 12 (.build ([.i .i64 0,.i .i64 0,.i .i64 0,.i .i64 0,.i .i64 0,.i .i64 0,.i .i64 0,.i .i64 0,.i .i64 0,.i .i64 0,.i .i64 0]) []),aN (.storeN 11 (.t 4) (.t 12)),aO 5 (.mv (.v (.c (.b false))))]) .ret) .skip)) (.seq [4,5] (.ops [aO 13 (.loadN 256 (.t 2)),aO 14 (.mv (.t 1)),aO 15 (.call 51 [(.t 13),(.t 14)]),aO 16 (.call 50 [(.t 15)]),aO 17 (.ext (.t 16) 0),aO 18 (.ext (.t 16) 1),aN (.storeN 11 (.t 4) (.t 17)),aO 5 (.mv (.t 18))]) .ret)),[.cellN 4 11,.tmp 5]⟩
def A9A:A9:=B0 51 A4H (B0 50 A4r C0)
def A6E (n:Nat) (args:List Val) (h:A0):A6:=ax A9A n A_table_Get.code A_table_Get.fin (params 0 args) h
theorem C1b (n:Nat) (a0 a1:Val) (h:A0):A6E n [a0,a1] h=bnd (cells? a0) fun c1=>bnd (A2 .lss a1 (.c (.i .i64 0))) fun v2=>bnd (gd v2 false (some (a1,((h ++ [some (Row.mk (c1) true)]) ++ [some (Row.mk ([.i .i64 0,.i .i64 0,.i .i64 0,.i .i64 0,.i .i64 0,.i .i64 0,.i .i64 0,.i .i64 0,.i .i64 0,.i .i64 0,.i .i64 0]) true)]))) (some (.no,((h ++ [some (Row.mk (c1) true)]) ++ [some (Row.mk ([.i .i64 0,.i .i64 0,.i .i64 0,.i .i64 0,.i .i64 0,.i .i64 0,.i .i64 0,.i .i64 0,.i .i64 0,.i .i64 0,.i .i64 0]) true)])))) fun p3=>bnd (gd v2 false (bnd (A2 .geq p3.1 (.c (.i .i64 8))) fun v4=>some (v4,p3.2)) (some (.no,p3.2))) fun p5=>bnd (D3 v2 (.c (.b true)) p5.1) fun v6=>cnd v6 (bnd (A7 ([.i .i64 0,.i .i64 0,.i .i64 0,.i .i64 0,.i .i64 0,.i .i64 0,.i .i64 0,.i .i64 0,.i .i64 0,.i .i64 0,.i .i64 0]) []) fun c7=>bnd (A8 p5.2 11 (.c (.p (h ++ [some (Row.mk (c1) true)]).length 0)) (.a c7)) fun h8=>C7 [A3 h8 11 (.c (.p (h ++ [some (Row.mk (c1) true)]).length 0)),some (.c (.b false))] h8) (bnd (A3 p5.2 256 (.c (.p h.length 0))) fun v9=>bnd (A4H [v9,a1] p5.2) fun p10=>bnd (A4r [p10.1] p10.2) fun p11=>bnd (C3 p11.1 0) fun v12=>bnd (C3 p11.1 1) fun v13=>bnd (A8 p11.2 11 (.c (.p (h ++ [some (Row.mk (c1) true)]).length 0)) v12) fun h14=>C7 [A3 h14 11 (.c (.p (h ++ [some (Row.mk (c1) true)]).length 0)),some v13] h14):=by kernel_rfl
theorem K_table_Get:FnK Try.prog 25 A_table_Get A9A A6E:=.mk' (B1 C3n (B1 C2B C2)) Try.func25 (by kernel_rfl) (fun _ _ _=>C1)
def A4F:Fun:=tidy (Lim A_table_Get A9A)
theorem C3j:SOk Try.prog 25 A4F:=K_table_Get.sok
theorem C3i:D5 A6E A4F:=K_table_Get.flat
end Go.Proofs.Yteckncopbicmcaa
end
noncomputable section
namespace Go.Proofs.Yteckncopbicmcaa
open Go Go.Esc
set_option maxRecDepth 100000
def A_view_Of:AFn:=⟨.seq [0,2] (.ops [aO 2 (.alloc ([.i .i64 0,.i .i64 0,.i .u64 0,.nf])),aO 3 (.mv (.v (.c (.i .i64 0))))]) (.seq [0,2] (.seq [0,2,9] (.ops [aO 7 (.mv (.t 0)),aO 8 (.len (.t 7)),aO 9 (.bin .eql (.t 8) (.v (.c (.i .i64 0))))]) (.cond (.t 9) (.seq [2,3] (.ops [aO 10 (.build ([.i .i64 0,.i .i64 0,.i .u64 0,.nf]) []),aN (.storeN 4 (.t 2) (.t 10)),aO 3 (.mv (.v (.c (.i .i64 13))))]) .ret) .skip)) (.seq [0,2,4,5] (.ops [aO 12 (.mv (.t 0)),aO 13 (.iAddrL 256 (.t 12) (.v (.c (.i .i64 0)))),aO 14 (.loadN 256 (.t 13)),aO 15 (.call 22 [(.t 14)]),aO 11 (.mv (.t 15)),aO 16 (.ext (.t 11) 0),aO 17 (.ext (.t 11) 1),aO 4 (.alloc ([.i .i64 0,.i .i64 0,.i .u64 0])),aN (.storeN 3 (.t 4) (.t 16)),aO 5 (.mv (.t 17))]) (.seq [0,2,4] (.seq [0,2,4,26] (.ops [aO 18 (.mv (.t 5)),aO 19 (.bin .neq (.t 18) (.v (.c (.i .i64 0)))),aO 20 (.mv (.t 19)),aG 21 20 false (.fAddr (.t 4) 0),aG 22 20 false (.load1 (.t 21)),aG 23 20 false (.mv (.t 0)),aG 24 20 false (.len (.t 23)),aG 25 20 false (.bin .neq (.t 22) (.t 24)),aO 26 (.pick (.t 20) (.v (.c (.b true))) (.t 25))]) (.cond (.t 26) (.seq [2,3] (.ops [aO 27 (.build ([.i .i64 0,.i .i64 0,.i .u64 0,.nf]) []),aN (.storeN 4 (.t 2) (.t 27)),aO 3 (.mv (.v (.c (.i .i64 13))))]) .ret) .skip)) (.seq [2,4,6] (.ops [aO 28 (.buildSl 256 0 ([]) []),aO 29 (.mv (.t 0)),aO 30 (.app 256 (.t 28) (.t 29)),aO 6 (.alloc ([.ns])),aN (.store1 (.t 6) (.t 30))]) (.seq [2,3] (.ops [aO 31 (.loadN 3 (.t 4)),aO 32 (.mkf 23 [(.t 6)]),aO 33 (.build ([.i .i64 0,.i .i64 0,.i .u64 0,.nf]) [(0,3,(.t 31)),(3,1,(.t 32))]),aN (.storeN 4 (.t 2) (.t 33)),aO 3 (.mv (.v (.c (.i .i64 0))))]) .ret))))),[.cellN 2 4,.tmp 3]⟩
def A9E:A9:=B0 22 A4E C0
def A94 (n:Nat) (args:List Val) (h:A0):A6:=ax A9E n A_view_Of.code A_view_Of.fin (params 0 args) h
theorem A6O (n:Nat) (a0:Val) (h:A0):A94 n [a0] h=bnd (E8 a0) fun v1=>bnd (A2 .eql v1 (.c (.i .i64 0))) fun v2=>cnd v2 (bnd (A7 ([.i .i64 0,.i .i64 0,.i .u64 0,.nf]) []) fun c3=>bnd (A8 (h ++ [some (Row.mk ([.i .i64 0,.i .i64 0,.i .u64 0,.nf]) true)]) 4 (.c (.p h.length 0)) (.a c3)) fun h4=>C7 [A3 h4 4 (.c (.p h.length 0)),some (.c (.i .i64 13))] h4) (bnd (B9 256 a0 (.c (.i .i64 0))) fun v5=>bnd (A3 (h ++ [some (Row.mk ([.i .i64 0,.i .i64 0,.i .u64 0,.nf]) true)]) 256 v5) fun v6=>bnd (A4E [v6] (h ++ [some (Row.mk ([.i .i64 0,.i .i64 0,.i .u64 0,.nf]) true)])) fun p7=>bnd (C3 p7.1 0) fun v8=>bnd (C3 p7.1 1) fun v9=>bnd (A8 (p7.2 ++ [some (Row.mk ([.i .i64 0,.i .i64 0,.i .u64 0]) true)]) 3 (.c (.p p7.2.length 0)) v8) fun h10=>bnd (A2 .neq v9 (.c (.i .i64 0))) fun v11=>bnd (gd v11 false (bnd (B4 (.c (.p p7.2.length 0)) 0) fun v12=>some (v12,h10)) (some (.no,h10))) fun p13=>bnd (gd v11 false (bnd (A4 p13.2 p13.1) fun v14=>some (v14,p13.2)) (some (.no,p13.2))) fun p15=>bnd (gd v11 false (some (a0,p15.2)) (some (.no,p15.2))) fun p16=>bnd (gd v11 false (bnd (E8 p16.1) fun v17=>some (v17,p16.2)) (some (.no,p16.2))) fun p18=>bnd (gd v11 false (bnd (A2 .neq p15.1 p18.1) fun v19=>some (v19,p18.2)) (some (.no,p18.2))) fun p20=>bnd (D3 v11 (.c (.b true)) p20.1) fun v21=>cnd v21 (bnd (A7 ([.i .i64 0,.i .i64 0,.i .u64 0,.nf]) []) fun c22=>bnd (A8 p20.2 4 (.c (.p h.length 0)) (.a c22)) fun h23=>C7 [A3 h23 4 (.c (.p h.length 0)),some (.c (.i .i64 13))] h23) (bnd (A7 ([]) []) fun c24=>bnd (F0 (p20.2 ++ [some (Row.mk (c24) true)]) 256 (.c (.sl p20.2.length 0 0 256)) a0) fun p25=>bnd (E4 (p25.2 ++ [some (Row.mk ([.ns]) true)]) (.c (.p p25.2.length 0)) p25.1) fun h26=>bnd (A3 h26 3 (.c (.p p7.2.length 0))) fun v27=>bnd (W6 23 [(.c (.p p25.2.length 0))]) fun v28=>bnd (A7 ([.i .i64 0,.i .i64 0,.i .u64 0,.nf]) [(0,3,v27),(3,1,v28)]) fun c29=>bnd (A8 h26 4 (.c (.p h.length 0)) (.a c29)) fun h30=>C7 [A3 h30 4 (.c (.p h.length 0)),some (.c (.i .i64 0))] h30)):=by kernel_rfl
theorem K_view_Of:FnK Try.prog 7 A_view_Of A9E A94:=.mk' (B1 C3g C2) Try.func7 (by kernel_rfl) (fun _ _ _=>C1)
def A0k:Fun:=Lim A_view_Of A9E
theorem B3B:SOk Try.prog 7 A0k:=K_view_Of.ok
theorem A6V:OfT A94 A0k:=K_view_Of.of
def A_view_View_there:AFn:=⟨.seq [1,2] (.ops [aO 2 (.box (.t 0)),aO 4 (.mv (.v (.c (.b false))))]) (.seq [4] (.ops [aO 5 (.fAddr (.t 2) 3),aO 6 (.load1 (.t 5)),aO 7 (.eqN true true (.t 6)),aO 8 (.mv (.t 7)),aG 9 8 true (.mv (.t 1)),aG 10 8 true (.bin .geq (.t 9) (.v (.c (.i .i64 0)))),aO 11 (.pick (.t 8) (.t 10) (.v (.c (.b false)))),aO 12 (.mv (.t 11)),aG 13 12 true (.mv (.t 1)),aG 14 12 true (.fAddr (.t 2) 0),aG 15 12 true (.fAddr (.t 14) 0),aG 16 12 true (.load1 (.t 15)),aG 17 12 true (.bin .lss (.t 13) (.t 16)),aO 18 (.pick (.t 12) (.t 17) (.v (.c (.b false)))),aO 4 (.mv (.t 18))]) .ret),[.tmp 4]⟩
def A9H:A9:=C0
def A6Q (n:Nat) (args:List Val) (h:A0):A6:=ax A9H n A_view_View_there.code A_view_View_there.fin (params 0 args) h
theorem C1m (n:Nat) (a0 a1:Val) (h:A0):A6Q n [a0,a1] h=bnd (cells? a0) fun c1=>bnd (B4 (.c (.p h.length 0)) 3) fun v2=>bnd (A4 (h ++ [some (Row.mk (c1) true)]) v2) fun v3=>bnd (A0L true true v3) fun v4=>bnd (gd v4 true (some (a1,(h ++ [some (Row.mk (c1) true)]))) (some (.no,(h ++ [some (Row.mk (c1) true)])))) fun p5=>bnd (gd v4 true (bnd (A2 .geq p5.1 (.c (.i .i64 0))) fun v6=>some (v6,p5.2)) (some (.no,p5.2))) fun p7=>bnd (D3 v4 p7.1 (.c (.b false))) fun v8=>bnd (gd v8 true (some (a1,p7.2)) (some (.no,p7.2))) fun p9=>bnd (gd v8 true (bnd (B4 (.c (.p h.length 0)) 0) fun v10=>some (v10,p9.2)) (some (.no,p9.2))) fun p11=>bnd (gd v8 true (bnd (B4 p11.1 0) fun v12=>some (v12,p11.2)) (some (.no,p11.2))) fun p13=>bnd (gd v8 true (bnd (A4 p13.2 p13.1) fun v14=>some (v14,p13.2)) (some (.no,p13.2))) fun p15=>bnd (gd v8 true (bnd (A2 .lss p9.1 p15.1) fun v16=>some (v16,p15.2)) (some (.no,p15.2))) fun p17=>bnd (D3 v8 p17.1 (.c (.b false))) fun v18=>some (v18,p17.2):=by kernel_rfl
theorem K_view_View_there:FnK Try.prog 52 A_view_View_there A9H A6Q:=.mk' (C2) Try.func52 (by kernel_rfl) (fun _ _ _=>C1)
def A4L:Fun:=tidy (Lim A_view_View_there A9H)
theorem C3E:SOk Try.prog 52 A4L:=K_view_View_there.sok
theorem C3D:D5 A6Q A4L:=K_view_View_there.flat
def A_view_Of_1:AFn:=⟨.seq [0,1,3] (.ops [aO 3 (.alloc (List.replicate 256 (.i .u8 0)))]) (.seq [3] (.ops [aO 4 (.load1 (.t 1)),aO 5 (.mv (.t 0)),aO 6 (.iAddrL 256 (.t 4) (.t 5)),aO 7 (.loadN 256 (.t 6)),aN (.storeN 256 (.t 3) (.t 7))]) .ret),[.cellN 3 256]⟩
def A9F:A9:=C0
def A6N (n:Nat) (args:List Val) (h:A0):A6:=ax A9F n A_view_Of_1.code A_view_Of_1.fin (params 0 args) h
theorem C1k (n:Nat) (a0 a1:Val) (h:A0):A6N n [a0,a1] h=bnd (A4 (h ++ [some (Row.mk (List.replicate 256 (.i .u8 0)) true)]) a1) fun v1=>bnd (B9 256 v1 a0) fun v2=>bnd (A3 (h ++ [some (Row.mk (List.replicate 256 (.i .u8 0)) true)]) 256 v2) fun v3=>bnd (A8 (h ++ [some (Row.mk (List.replicate 256 (.i .u8 0)) true)]) 256 (.c (.p h.length 0)) v3) fun h4=>mp (A3 h4 256 (.c (.p h.length 0))) fun v=>(v,h4):=by kernel_rfl
theorem K_view_Of_1:FnK Try.prog 23 A_view_Of_1 A9F A6N:=.mk' (C2) Try.func23 (by kernel_rfl) (fun _ _ _=>C1)
def A4K:Fun:=tidy (Lim A_view_Of_1 A9F)
theorem C3B:SOk Try.prog 23 A4K:=K_view_Of_1.sok
theorem C3A:D5 A6N A4K:=K_view_Of_1.flat
def A_view_View_Block__Of_1:AFn:=⟨.seq [1,2,4] (.ops [aO 2 (.box (.t 0)),aO 4 (.alloc (List.replicate 256 (.i .u8 0)))]) (.seq [1,2,4] (.seq [1,2,4,8] (.ops [aO 5 (.loadN 4 (.t 2)),aO 6 (.mv (.t 1)),aO 7 (.call 52 [(.t 5),(.t 6)]),aO 8 (.un .not (.t 7))]) (.cond (.t 8) (.seq [4] (.ops [aO 9 (.build (List.replicate 256 (.i .u8 0)) []),aN (.storeN 256 (.t 4) (.t 9))]) .ret) .skip)) (.seq [4] (.ops [aO 10 (.fAddr (.t 2) 3),aO 11 (.load1 (.t 10)),aO 12 (.mv (.t 1)),aO 13 (.callV (.t 11) [(.t 12)]),aN (.storeN 256 (.t 4) (.t 13))]) .ret)),[.cellN 4 256]⟩
def A3V:A9:=B0 52 A4L (B0 23 A4K C0)
def A6P (n:Nat) (args:List Val) (h:A0):A6:=ax A3V n A_view_View_Block__Of_1.code A_view_View_Block__Of_1.fin (params 0 args) h
theorem C1l (n:Nat) (a0 a1:Val) (h:A0):A6P n [a0,a1] h=bnd (cells? a0) fun c1=>bnd (A3 ((h ++ [some (Row.mk (c1) true)]) ++ [some (Row.mk (List.replicate 256 (.i .u8 0)) true)]) 4 (.c (.p h.length 0))) fun v2=>bnd (A4L [v2,a1] ((h ++ [some (Row.mk (c1) true)]) ++ [some (Row.mk (List.replicate 256 (.i .u8 0)) true)])) fun p3=>bnd (aun .not p3.1) fun v4=>cnd v4 (bnd (A7 (List.replicate 256 (.i .u8 0)) []) fun c5=>bnd (A8 p3.2 256 (.c (.p (h ++ [some (Row.mk (c1) true)]).length 0)) (.a c5)) fun h6=>mp (A3 h6 256 (.c (.p (h ++ [some (Row.mk (c1) true)]).length 0))) fun v=>(v,h6)) (bnd (B4 (.c (.p h.length 0)) 3) fun v7=>bnd (A4 p3.2 v7) fun v8=>bnd (L6 A3V v8 [a1] p3.2) fun p9=>bnd (A8 p9.2 256 (.c (.p (h ++ [some (Row.mk (c1) true)]).length 0)) p9.1) fun h10=>mp (A3 h10 256 (.c (.p (h ++ [some (Row.mk (c1) true)]).length 0))) fun v=>(v,h10)):=by kernel_rfl
theorem K_view_View_Block__Of_1:FnK Try.prog 26 A_view_View_Block__Of_1 A3V A6P:=.mk' (B1 C3E (B1 C3B C2)) Try.func26 (by kernel_rfl) (fun _ _ _=>C1)
def S6:Fun:=tidy (Lim A_view_View_Block__Of_1 A3V)
theorem A21:SOk Try.prog 26 S6:=K_view_View_Block__Of_1.sok
theorem C3C:D5 A6P S6:=K_view_View_Block__Of_1.flat
def A_view_View_Inode:AFn:=⟨.seq [1,2,4] (.ops [aO 2 (.box (.t 0)),aO 4 (.alloc ([.i .i64 0,.i .i64 0,.i .i64 0,.i .i64 0,.i .i64 0,.i .i64 0,.i .i64 0,.i .i64 0,.i .i64 0,.i .i64 0,.i .i64 0]))]) (.seq [2,4,5,6,7] (.ops [aO 11 (.fAddr (.t 2) 0),aO 12 (.loadN 3 (.t 11)),aO 13 (.mv (.t 1)),aO 14 (.call 24 [(.t 12),(.t 13)]),aO 10 (.mv (.t 14)),aO 15 (.ext (.t 10) 0),aO 16 (.ext (.t 10) 1),aO 17 (.ext (.t 10) 2),aO 5 (.mv (.t 15)),aO 6 (.mv (.t 16)),aO 7 (.mv (.t 17))]) (.seq [2,4,5,6] (.seq [2,4,5,6,19] (.ops [aO 18 (.mv (.t 7)),aO 19 (.un .not (.t 18))]) (.cond (.t 19) (.seq [4] (.ops [aO 20 (.build ([.i .i64 0,.i .i64 0,.i .i64 0,.i .i64 0,.i .i64 0,.i .i64 0,.i .i64 0,.i .i64 0,.i .i64 0,.i .i64 0,.i .i64 0]) []),aN (.storeN 11 (.t 4) (.t 20))]) .ret) .skip)) (.seq [4,8] (.ops [aO 22 (.loadN 4 (.t 2)),aO 23 (.mv (.t 5)),aO 24 (.call 26 [(.t 22),(.t 23)]),aO 25 (.mv (.t 6)),aO 26 (.call 25 [(.t 24),(.t 25)]),aO 21 (.mv (.t 26)),aO 27 (.ext (.t 21) 0),aO 28 (.ext (.t 21) 1),aO 8 (.alloc ([.i .i64 0,.i .i64 0,.i .i64 0,.i .i64 0,.i .i64 0,.i .i64 0,.i .i64 0,.i .i64 0,.i .i64 0,.i .i64 0,.i .i64 0])),aN (.storeN 11 (.t 8) (.t 27)),aO 9 (.mv (.t 28))]) (.seq [4] (.ops [aO 29 (.loadN 11 (.t 8)),aN (.storeN 11 (.t 4) (.t 29))]) .ret)))),[.cellN 4 11]⟩
def A9G:A9:=B0 24 A4k (B0 26 S6 (B0 25 A4F C0))
def A3Y (n:Nat) (args:List Val) (h:A0):A6:=ax A9G n A_view_View_Inode.code A_view_View_Inode.fin (params 0 args) h
theorem B29 (n:Nat) (a0 a1:Val) (h:A0):A3Y n [a0,a1] h=bnd (cells? a0) fun c1=>bnd (B4 (.c (.p h.length 0)) 0) fun v2=>bnd (A3 ((h ++ [some (Row.mk (c1) true)]) ++ [some (Row.mk ([.i .i64 0,.i .i64 0,.i .i64 0,.i .i64 0,.i .i64 0,.i .i64 0,.i .i64 0,.i .i64 0,.i .i64 0,.i .i64 0,.i .i64 0]) true)]) 3 v2) fun v3=>bnd (A4k [v3,a1] ((h ++ [some (Row.mk (c1) true)]) ++ [some (Row.mk ([.i .i64 0,.i .i64 0,.i .i64 0,.i .i64 0,.i .i64 0,.i .i64 0,.i .i64 0,.i .i64 0,.i .i64 0,.i .i64 0,.i .i64 0]) true)])) fun p4=>bnd (C3 p4.1 0) fun v5=>bnd (C3 p4.1 1) fun v6=>bnd (C3 p4.1 2) fun v7=>bnd (aun .not v7) fun v8=>cnd v8 (bnd (A7 ([.i .i64 0,.i .i64 0,.i .i64 0,.i .i64 0,.i .i64 0,.i .i64 0,.i .i64 0,.i .i64 0,.i .i64 0,.i .i64 0,.i .i64 0]) []) fun c9=>bnd (A8 p4.2 11 (.c (.p (h ++ [some (Row.mk (c1) true)]).length 0)) (.a c9)) fun h10=>mp (A3 h10 11 (.c (.p (h ++ [some (Row.mk (c1) true)]).length 0))) fun v=>(v,h10)) (bnd (A3 p4.2 4 (.c (.p h.length 0))) fun v11=>bnd (S6 [v11,v5] p4.2) fun p12=>bnd (A4F [p12.1,v6] p12.2) fun p13=>bnd (C3 p13.1 0) fun v14=>bnd (C3 p13.1 1) fun v15=>bnd (A8 (p13.2 ++ [some (Row.mk ([.i .i64 0,.i .i64 0,.i .i64 0,.i .i64 0,.i .i64 0,.i .i64 0,.i .i64 0,.i .i64 0,.i .i64 0,.i .i64 0,.i .i64 0]) true)]) 11 (.c (.p p13.2.length 0)) v14) fun h16=>bnd (A3 h16 11 (.c (.p p13.2.length 0))) fun v17=>bnd (A8 h16 11 (.c (.p (h ++ [some (Row.mk (c1) true)]).length 0)) v17) fun h18=>mp (A3 h18 11 (.c (.p (h ++ [some (Row.mk (c1) true)]).length 0))) fun v=>(v,h18)):=by kernel_rfl
theorem K_view_View_Inode:FnK Try.prog 9 A_view_View_Inode A9G A3Y:=.mk' (B1 C2j (B1 A21 (B1 C3j C2))) Try.func9 (by kernel_rfl) (fun _ _ _=>C1)
def A0J:Fun:=tidy (Lim A_view_View_Inode A9G)
theorem B3D:SOk Try.prog 9 A0J:=K_view_View_Inode.sok
theorem B3C:D5 A3Y A0J:=K_view_View_Inode.flat
end Go.Proofs.Yteckncopbicmcaa
end
section
namespace Go.Proofs.Yteckncopbicmcaa
open Go Go.Esc
def IsView (h:A0) (f:Cell) (D:Dev):Prop:=∃ r q rw rw',f=.f 23 [(r,0)] ∧ rd h r=some ⟨[.sl q 0 D.length 256],rw⟩ ∧ rd h q=some ⟨D0 D,rw'⟩
theorem IsView.ro {h:A0} {f:Cell} {D:Dev} (hv:IsView h f D):IsView (ro h) f D:=by
  obtain ⟨r,q,rw,rw',e,h1,h2⟩:=hv
  exact ⟨r,q,false,false,e,A8s h1 rfl,A8s h2 (A5j D)⟩
theorem IsView.more {h:A0} {f:Cell} {D:Dev} (hv:IsView h f D) (l:A0):IsView (h ++ l) f D:=by
  obtain ⟨r,q,rw,rw',e,h1,h2⟩:=hv
  exact ⟨r,q,rw,rw',e,B6 h1,B6 h2⟩
theorem IsView.since {g h:A0} {f:Cell} {D:Dev} (hv:IsView g f D) (h1:Low g.length g h):IsView h f D:=by
  obtain ⟨r,q,rw,rw',e,h2,h3⟩:=hv
  exact ⟨r,q,rw,rw',e,h1.rd h2,h1.rd h3⟩
theorem IsView.get {h:A0} {f:Cell} {D:Dev} (hv:IsView h f D):∃ id cs,f=.f id cs:=by
  obtain ⟨r,q,rw,rw',e,_⟩:=hv
  exact ⟨_,_,e⟩
def vwC (b n m:Int) (f:Cell):List Cell:=[.i .i64 b,.i .i64 n,.i .u64 m,f]
section
variable {D:Dev} {n m:Int} {f:Cell}
theorem A3x {b:Int}:ldN (some (Row.mk (vwC b n m f) true)) 0 3=some (.a (F5 b n m)):=rfl
theorem A2P {b:Int}:ldN (some (Row.mk (vwC b n m f) true)) 0 4=some (.a (vwC b n m f)):=rfl
end
theorem D0D {h:A0} {r q:Nat} {rw rw':Bool} {D:Dev} {no:Nat} (hD:okD D) (hno:no < D.length) (h1:rd h r=some ⟨[.sl q 0 D.length 256],rw⟩) (h2:rd h q=some ⟨D0 D,rw'⟩) :
    A4K [.c (.i .i64 (no:Int)),.c (.p r 0)] h=some (.a (A1 D[no]),h):=by
  have key:∀ g rw rw',rd g r=some ⟨[.sl q 0 D.length 256],rw⟩ → rd g q=some ⟨D0 D,rw'⟩ → ∃ g',A6N 0 [.c (.i .i64 (no:Int)),.c (.p r 0)] g=some (.a (A1 D[no]),g'):=by
    intro g rw rw' h1 h2
    have hz:(List.replicate 256 (Cell.i .u8 0)).length=256:=List.length_replicate
    have hB:(A1 D[no]).length=256:=by rw [B5,hD.at hno]
    have l1:A4 (g ++ [some (Row.mk (List.replicate 256 (.i .u8 0)) true)]) (.c (.p r 0))=some (.c (.sl q 0 D.length 256)):=F4 (cs:=[.sl q 0 D.length 256]) (B6 h1) rfl (by cases rw <;> rfl)
    have a1:B9 256 (.c (.sl q 0 D.length 256)) (.c (.i .i64 (no:Int)))=some (.c (.p q (0 + no * 256))):=H8 hno
    have l2:A3 (g ++ [some (Row.mk (List.replicate 256 (.i .u8 0)) true)]) 256 (.c (.p q (0 + no * 256)))=some (.a (A1 D[no])):=by
      rw [A3l (cs:=D0 D) (rw:=rw') (B6 h2) (by rw [X0 hD];omega) (by
        rw [Nat.zero_add,A2m hD hno,Q3];simp),Nat.zero_add,A2m hD hno]
    rw [Nat.zero_add] at a1 l2
    rw [C1k]
    generalize List.replicate 256 (Cell.i .u8 0)=z at *
    generalize A1 D[no]=y at *
    exact ⟨_,by simp only [esc,esh,Nat.reduceAdd,Nat.reduceMul,Nat.reduceLT,l1,a1,l2,hz,hB] <;> rfl⟩
  obtain ⟨g',e⟩:=key (ro h) false false (A8s h1 rfl) (A8s h2 (A5j D))
  exact C3A e (by simp [Val.flat])
theorem D0H {b n m no:Int} {f:Nat} {cs:List (Nat × Nat)} {h:A0}:A4L [.a (vwC b n m (.f f cs)),.c (.i .i64 no)] h=some (.c (.b (decide (0 ≤ no) && decide (no < b))),h):=by
  have key:∀ g,∃ g',A6Q 0 [.a (vwC b n m (.f f cs)),.c (.i .i64 no)] g=some (.c (.b (decide (0 ≤ no) && decide (no < b))),g'):=by
    intro g
    rw [C1m]
    unfold vwC
    by_cases c1:0 ≤ no
    · exact ⟨_,by simp only [esc,esh,Nat.reduceAdd,Nat.reduceMul,Nat.reduceLT,c1] <;> rfl⟩
    · exact ⟨_,by simp only [esc,esh,Nat.reduceAdd,Nat.reduceMul,Nat.reduceLT,c1,Bool.false_and] <;> rfl⟩
  obtain ⟨g',e⟩:=key (ro h)
  exact C3D e rfl
theorem A3w {n m no:Int} {f:Cell} {D:Dev} {h:A0} (hD:okD D) (hv:IsView h f D):S6 [.a (vwC D.length n m f),.c (.i .i64 no)] h=some (.a (A1 (blk D no)),h):=by
  have key:∀ g,IsView g f D → ∃ g',A6P 0 [.a (vwC D.length n m f),.c (.i .i64 no)] g=some (.a (A1 (blk D no)),g'):=by
    intro g hv
    have hz:(A1 (zeros 256)).length=256:=by rw [B5];exact zeros_length
    have hB:(A1 (blk D no)).length=256:=by rw [B5,A0R hD]
    obtain ⟨r,q,rw',rw'',rfl,h1,h2⟩:=hv
    have hT:=fun h=>D0H (b:=D.length) (n:=n) (m:=m) (no:=no) (f:=23) (cs:=[(r,0)]) (h:=h)
    have hcv:∀ (x:Val) (h:A0),L6 A3V (.c (.f 23 [(r,0)])) [x] h=A4K [x,.c (.p r 0)] h:=fun _ _=>Eq.trans rfl rfl
    rw [C1l,L9]
    by_cases c1:0 ≤ no ∧ no < D.length
    · have c2:=c1.1
      have c3:=c1.2
      obtain ⟨k,rfl⟩:∃ k:Nat,no=k:=⟨no.toNat,by omega⟩
      have e1:=C4s (D:=D) (i:=k) (by omega)
      have hO:=D0D (h:=g ++ [some (Row.mk (vwC D.length n m (.f 23 [(r,0)])) true),some (Row.mk (A1 (zeros 256)) true)]) hD (show k < D.length by omega) (B6 h1) (B6 h2)
      rw [← e1] at hO
      simp only [c2,c3,decide_true,Bool.and_self] at hT
      generalize A1 (zeros 256)=z at *
      generalize A1 (blk D k)=y at *
      unfold vwC at *
      exact ⟨_,by simp only [esc,esh,Nat.reduceAdd,Nat.reduceMul,Nat.reduceLT,hT,hcv,hO,hz,hB] <;> rfl⟩
    · have e1:=C4t (D:=D) (i:=no) (by omega)
      have ht:(decide (0 ≤ no) && decide (no < (D.length:Int)))=false:=by
        rw [Bool.and_eq_false_iff,decide_eq_false_iff_not,decide_eq_false_iff_not];omega
      simp only [ht] at hT
      rw [e1] at hB ⊢
      have ef:A7 (A1 (zeros 256)) []=some (A1 (zeros 256)):=rfl
      generalize A1 (zeros 256)=z at *
      unfold vwC at *
      exact ⟨_,by simp only [esc,esh,Nat.reduceAdd,Nat.reduceMul,Nat.reduceLT,hT,ef,hz] <;> rfl⟩
  obtain ⟨g',e⟩:=key (ro h) hv.ro
  exact C3C e (by simp [Val.flat])
theorem B0o {h:A0} {id m sz:Nat} {ys:List Cell} {y:Val} (hr:rd h id=some ⟨[],true⟩) (hy:Has h y sz m ys) (hsz:0 < sz) (hn:m ≤ 1073741824) :
    F0 h sz (.c (.sl id 0 0 sz)) y=some (.c (.sl h.length 0 m sz),h.set id none ++ [some ⟨ys,true⟩]):=by
  have h1:=hy.add
  have h2:ys.length / sz=m:=by rw [hy.length];exact Nat.mul_div_cancel m hsz
  simp only [F0,h1,hr,Option.bind_some,h2,List.nil_append,Nat.zero_add]
  rw [if_pos ⟨trivial,trivial,by simp,trivial,hn⟩]
def A1f (D:Dev):Bool:=okS (D.headD []) && decide (fieldN (D.headD []) 8 2=D.length)
def J2 (D:Dev):Int:=fieldN (D.headD []) 10 2
def A0U (D:Dev):Int:=fieldN (D.headD []) 12 8
theorem D0F {v:Val} {h:A0} (hv:Has h v 256 0 []):∃ t,A0k [v] h=some (.t [.a (vwC 0 0 0 .nf),.c (.i .i64 13)],h ++ t):=by
  have ef:A7 [Cell.i .i64 0,.i .i64 0,.i .u64 0,.nf] []=some [Cell.i .i64 0,.i .i64 0,.i .u64 0,.nf]:=rfl
  have hl:=hv.len
  rw [show ((0:Nat):Int)=0 from rfl] at hl
  exact ⟨_,A6V (n:=0) (by rw [A6O];simp only [esc,esh,Nat.reduceAdd,Nat.reduceMul,Nat.reduceLT,hl,ef,vwC] <;> rfl)⟩
theorem C6Y {b:List UInt8} (h:okS b=false):A1o b=F5 0 0 0:=by unfold A1o;rw [h];rfl
theorem B6K {b:List UInt8} (h:okS b=true):A1o b=F5 (fieldN b 8 2) (fieldN b 10 2) (fieldN b 12 8):=by unfold A1o;rw [h];rfl
theorem D0G {v:Val} {D:Dev} {h:A0} (hv:Has h v 256 D.length (D0 D)) (hD:okD D) (h0:0 < D.length) (hn:A1f D=false):∃ t,A0k [v] h=some (.t [.a (vwC 0 0 0 .nf),.c (.i .i64 13)],h ++ t):=by
  have ef:A7 [Cell.i .i64 0,.i .i64 0,.i .u64 0,.nf] []=some [Cell.i .i64 0,.i .i64 0,.i .u64 0,.nf]:=rfl
  have hl:=hv.len
  have hv2:=hv.more [some (Row.mk [.i .i64 0,.i .i64 0,.i .u64 0,.nf] true)]
  obtain ⟨b,E,rfl⟩:∃ b E,D=b :: E:=by cases D with | nil=>simp at h0 | cons b E=>exact ⟨b,E,rfl⟩
  obtain ⟨id,off,rfl,hid,_,hB⟩:=hv2.sl h0
  have hBl:(A1 b).length=256:=by rw [B5,hD.cons.1]
  have l2:=hB 0 256 (by rw [X0 hD];omega)
  have ec:((D0 (b :: E)).drop 0).take 256=A1 b:=by
    have:=A2m (i:=0) hD h0
    rwa [Nat.zero_mul] at this
  rw [ec,Nat.add_zero] at l2
  have a1:B9 256 (.c (.sl id off (b :: E).length 256)) (.c (.i .i64 0))=some (.c (.p id off)):=by
    have:=H8 (k:=.i64) (id:=id) (off:=off) (sz:=256) (j:=0) (len:=(b :: E).length) h0
    rwa [Nat.zero_mul,Nat.add_zero] at this
  have hG:=fun h=>B81 (h:=h) hD.cons.1
  have c0:¬ (((b :: E).length:Nat):Int)=0:=by omega
  have n13:¬ (13:Int)=0:=by decide
  unfold A1f at hn
  simp only [List.headD_cons] at hn
  cases ho:okS b with
  | false =>
    simp only [ho,C6Y ho,cond_false] at hG
    refine ⟨[some (Row.mk [.i .i64 0,.i .i64 0,.i .u64 0,.nf] true),some (Row.mk [.i .i64 0,.i .i64 0,.i .u64 0] true)],A6V (n:=0) ?_⟩
    rw [A6O]
    generalize (b :: E).length=N at *
    generalize A1 b=y at *
    unfold F5 at *
    simp only [esc,esh,Nat.reduceAdd,Nat.reduceMul,Nat.reduceLT,ef,vwC,l2,a1,hG,n13,eq_self,c0] <;> rfl
  | true =>
    rw [ho,Bool.true_and] at hn
    replace hn:=of_decide_eq_false hn
    simp only [ho,B6K ho,cond_true] at hG
    refine ⟨[some (Row.mk [.i .i64 0,.i .i64 0,.i .u64 0,.nf] true),some (Row.mk [.i .i64 (fieldN b 8 2),.i .i64 (fieldN b 10 2),.i .u64 (fieldN b 12 8)] true)],A6V (n:=0) ?_⟩
    rw [A6O]
    generalize (b :: E).length=N at *
    generalize A1 b=y at *
    generalize fieldN b 8 2=n1 at *
    unfold F5 at *
    simp only [esc,esh,Nat.reduceAdd,Nat.reduceMul,Nat.reduceLT,ef,vwC,l2,a1,hG,n13,eq_self,c0,hn] <;> rfl
theorem D0E {v:Val} {D:Dev} {h:A0} (hv:Has h v 256 D.length (D0 D)) (hD:okD D) (hn:A1f D=false):∃ t,A0k [v] h=some (.t [.a (vwC 0 0 0 .nf),.c (.i .i64 13)],h ++ t):=by
  by_cases h0:D=[]
  · subst h0;exact D0F hv
  · exact D0G hv hD (List.length_pos_iff.2 h0) hn
theorem B9Q {v:Val} {D:Dev} {h:A0} (hv:Has h v 256 D.length (D0 D)) (hD:okD D) (hn:A1f D=true) (h60:D.length ≤ 1073741824) :
    ∃ f t,A0k [v] h=some (.t [.a (vwC D.length (J2 D) (A0U D) f),.c (.i .i64 0)],h ++ t) ∧ IsView (h ++ t) f D:=by
  obtain ⟨b,E,rfl⟩:∃ b E,D=b :: E:=by
    cases D with
    | nil=>simp only [A1f,List.headD_nil,List.length_nil,Bool.and_eq_true,decide_eq_true_eq] at hn;exact absurd hn.1 (by decide)
    | cons b E=>exact ⟨b,E,rfl⟩
  have h0:0 < (b :: E).length:=by simp
  have hv2:=hv.more [some (Row.mk [.i .i64 0,.i .i64 0,.i .u64 0,.nf] true)]
  unfold A1f at hn
  simp only [List.headD_cons,Bool.and_eq_true,decide_eq_true_eq] at hn
  have ho:=hn.1
  have hn2:=of_decide_eq_true hn.2
  have hv3:=hv.more [some (Row.mk [.i .i64 0,.i .i64 0,.i .u64 0,.nf] true),some (Row.mk (F5 (b :: E).length (fieldN b 10 2) (fieldN b 12 8)) true),some (Row.mk [] true)]
  obtain ⟨id,off,rfl,hid,_,hB⟩:=hv2.sl h0
  have hBl:(A1 b).length=256:=by rw [B5,hD.cons.1]
  have l2:=hB 0 256 (by rw [X0 hD];omega)
  have ec:((D0 (b :: E)).drop 0).take 256=A1 b:=by
    have:=A2m (i:=0) hD h0
    rwa [Nat.zero_mul] at this
  rw [ec,Nat.add_zero] at l2
  have a1:B9 256 (.c (.sl id off (b :: E).length 256)) (.c (.i .i64 0))=some (.c (.p id off)):=by
    have:=H8 (k:=.i64) (id:=id) (off:=off) (sz:=256) (j:=0) (len:=(b :: E).length) h0
    rwa [Nat.zero_mul,Nat.add_zero] at this
  have hG:=fun h=>B81 (h:=h) hD.cons.1
  have c0:¬ (((b :: E).length:Nat):Int)=0:=by omega
  have n13:¬ (13:Int)=0:=by decide
  simp only [ho,B6K ho,cond_true,hn2] at hG
  have eN:J2 (b :: E)=fieldN b 10 2:=rfl
  have eM:A0U (b :: E)=fieldN b 12 8:=rfl
  have hA:=B0o (id:=h.length + 2) (by simp) hv3 (by omega) h60
  have ef1:A7 ([]:List Cell) []=some []:=rfl
  have hlt:id < h.length:=by
    rcases hv with ⟨e,_⟩ | ⟨i,o,r,e,hr,_⟩
    · cases e
    · cases e;exact B7 hr
  rw [eN,eM]
  unfold IsView
  generalize D0 (b :: E)=C at *
  have emk:W6 23 [.c (.p (h.length + 4) 0)]=some (.c (.f 23 [(h.length + 4,0)])):=rfl
  refine ⟨.f 23 [(h.length + 4,0)],[some (Row.mk (vwC (b :: E).length (fieldN b 10 2) (fieldN b 12 8) (.f 23 [(h.length + 4,0)])) true),some (Row.mk (F5 (b :: E).length (fieldN b 10 2) (fieldN b 12 8)) true),none,some (Row.mk C true),some (Row.mk [.sl (h.length + 3) 0 (b :: E).length 256] true)],A6V (n:=0) ?_,h.length + 4,h.length + 3,true,true,rfl,A2F,A2F⟩
  rw [A6O]
  generalize (b :: E).length=N at *
  generalize A1 b=y at *
  generalize fieldN b 10 2=n1 at *
  generalize fieldN b 12 8=n2 at *
  have ef2:∀ x,A7 [Cell.i .i64 0,.i .i64 0,.i .u64 0,.nf] [(0,3,.a [.i .i64 (N:Int),.i .i64 n1,.i .u64 n2]),(3,1,.c x)]=some [.i .i64 (N:Int),.i .i64 n1,.i .u64 n2,x]:=fun _=>rfl
  unfold F5 vwC at *
  simp only [esc,esh,Nat.reduceAdd,Nat.reduceMul,Nat.reduceLT] at hA
  simp only [esc,esh,Nat.reduceAdd,Nat.reduceMul,Nat.reduceLT,l2,a1,hG,n13,eq_self,c0,hA,ef1,ef2,emk] <;> rfl
end Go.Proofs.Yteckncopbicmcaa
end
noncomputable section
namespace Go.Proofs.Yteckncopbicmcaa
open Go Go.Esc
set_option maxRecDepth 100000
def A_points_there:AFn:=⟨.seq [0] (.ops [aO 2 (.mv (.v (.c (.b false))))]) (.seq [2] (.ops [aO 3 (.mv (.t 0)),aO 4 (.bin .geq (.t 3) (.v (.c (.i .i64 0)))),aO 5 (.mv (.t 4)),aG 6 5 true (.mv (.t 0)),aG 7 5 true (.bin .lss (.t 6) (.v (.c (.i .i64 128)))),aO 8 (.pick (.t 5) (.t 7) (.v (.c (.b false)))),aO 2 (.mv (.t 8))]) .ret),[.tmp 2]⟩
def A9x:A9:=C0
def A6A (n:Nat) (args:List Val) (h:A0):A6:=ax A9x n A_points_there.code A_points_there.fin (params 0 args) h
theorem C07 (n:Nat) (a0:Val) (h:A0):A6A n [a0] h=bnd (A2 .geq a0 (.c (.i .i64 0))) fun v1=>bnd (gd v1 true (some (a0,h)) (some (.no,h))) fun p2=>bnd (gd v1 true (bnd (A2 .lss p2.1 (.c (.i .i64 128))) fun v3=>some (v3,p2.2)) (some (.no,p2.2))) fun p4=>bnd (D3 v1 p4.1 (.c (.b false))) fun v5=>some (v5,p4.2):=by kernel_rfl
theorem K_points_there:FnK Try.prog 100 A_points_there A9x A6A:=.mk' (C2) Try.func100 (by kernel_rfl) (fun _ _ _=>C1)
def A4D:Fun:=tidy (Lim A_points_there A9x)
theorem C3d:SOk Try.prog 100 A4D:=K_points_there.sok
theorem C3c:D5 A6A A4D:=K_points_there.flat
def A_points_Get:AFn:=⟨.seq [1,2] (.ops [aO 2 (.box (.t 0)),aO 4 (.mv (.v (.c (.i .i64 0))))]) (.seq [1,2] (.seq [1,2,7] (.ops [aO 5 (.mv (.t 1)),aO 6 (.call 100 [(.t 5)]),aO 7 (.un .not (.t 6))]) (.cond (.t 7) (.seq [4] (.ops [aO 4 (.mv (.v (.c (.i .i64 0))))]) .ret) .skip)) (.seq [4] (.ops [aO 8 (.loadN 256 (.t 2)),aO 9 (.mv (.t 1)),aO 10 (.bin .mul (.v (.c (.i .i64 2))) (.t 9)),aO 11 (.call 47 [(.t 8),(.t 10),(.v (.c (.i .i64 2)))]),aO 4 (.mv (.t 11))]) .ret)),[.tmp 4]⟩
def A9w:A9:=B0 100 A4D (B0 47 M0 C0)
def A6z (n:Nat) (args:List Val) (h:A0):A6:=ax A9w n A_points_Get.code A_points_Get.fin (params 0 args) h
theorem C06 (n:Nat) (a0 a1:Val) (h:A0):A6z n [a0,a1] h=bnd (cells? a0) fun c1=>bnd (A4D [a1] (h ++ [some (Row.mk (c1) true)])) fun p2=>bnd (aun .not p2.1) fun v3=>cnd v3 (some ((.c (.i .i64 0)),p2.2)) (bnd (A3 p2.2 256 (.c (.p h.length 0))) fun v4=>bnd (A2 .mul (.c (.i .i64 2)) a1) fun v5=>bnd (M0 [v4,v5,.c (.i .i64 2)] p2.2) fun p6=>some (p6.1,p6.2)):=by kernel_rfl
theorem K_points_Get:FnK Try.prog 99 A_points_Get A9w A6z:=.mk' (B1 C3d (B1 A4x C2)) Try.func99 (by kernel_rfl) (fun _ _ _=>C1)
def A4C:Fun:=tidy (Lim A_points_Get A9w)
theorem C3b:SOk Try.prog 99 A4C:=K_points_Get.sok
theorem C3a:D5 A6z A4C:=K_points_Get.flat
end Go.Proofs.Yteckncopbicmcaa
end
section
namespace Go.Proofs.Yteckncopbicmcaa
open Go Go.Esc
def ptP (b:List UInt8) (i:Nat):Int:=fieldN b (2 * i) 2
theorem C8e {k:Nat} {h:A0} (hk:k < 128):A4D [.c (.i .i64 k)] h=some (.c (.b true),h):=by
  have key:∀ g,∃ g',A6A 0 [.c (.i .i64 k)] g=some (.c (.b true),g'):=by
    intro g
    have c1:(0:Int) ≤ k:=by omega
    have c2:(k:Int) < 128:=by omega
    rw [C07]
    exact ⟨_,by simp only [esc,c1,c2] <;> rfl⟩
  obtain ⟨g',e⟩:=key (ro h)
  exact C3c e rfl
theorem C4m {b:List UInt8} {i:Nat} (hb:b.length=256) (hi:i < 128):((atN b ((2 * i:Nat):Int) 2:Nat):Int)=ptP b i:=by
  unfold atN ptP fieldN
  rw [if_pos ⟨by omega,A0e.2 (by omega)⟩]
  simp only [Int.toNat_natCast]
  rfl
theorem D0J {i:Nat} (hi:i < 128):IntKind.wrap .i64 (2 * (i:Int))=((2 * i:Nat):Int):=by rw [wrap_i64 (by omega) (by omega)];omega
theorem C8d {b:List UInt8} {k:Nat} {h:A0} (hb:b.length=256) (hk:k < 128):A4C [.a (A1 b),.c (.i .i64 k)] h=some (.c (.i .i64 (ptP b k)),h):=by
  have key:∀ g,∃ g',A6z 0 [.a (A1 b),.c (.i .i64 k)] g=some (.c (.i .i64 (ptP b k)),g'):=by
    intro g
    have hB:(A1 b).length=256:=by rw [B5,hb]
    have hT:=fun h=>C8e (h:=h) hk
    have hA:=fun h=>A0Y (h:=h) hb (a:=((2 * k:Nat):Int)) (w:=2)
    rw [C4m hb hk] at hA
    rw [C06]
    exact ⟨_,by simp only [esc,esh,Nat.reduceAdd,Nat.reduceMul,Nat.reduceLT,hB,hT,D0J hk,hA] <;> rfl⟩
  obtain ⟨g',e⟩:=key (ro h)
  exact C3a e rfl
end Go.Proofs.Yteckncopbicmcaa
end
section
namespace Go.Proofs.Yteckncopbicmcaa
open Go Go.Esc
def zI (n:Nat):List Int:=List.replicate n 0
theorem O8 {n:Nat}:(zI n).length=n:=by simp [zI]
end Go.Proofs.Yteckncopbicmcaa
end
section
namespace Go.Proofs.Yteckncopbicmcaa
open Go Go.Esc
abbrev A5 (k l s p:Int) (d:List Int):List Cell:=.i .i64 k :: .i .i64 l :: .i .i64 s :: .i .i64 p :: encI d
def A0c (n:Int):Bool:=decide (0 ≤ n) && decide (n ≤ 65535)
theorem A1m {n:Int} {h:A0}:A1X [.c (.i .i64 n)] h=some (.c (.b (A0c n)),h):=by
  refine C2G (n:=0) (h2:=ro h) ?_ rfl
  rw [C0M]
  unfold A0c
  by_cases c:0 ≤ n
  · simp only [esc,c,Bool.true_and]
  · simp only [esc,c,Bool.false_and]
theorem B7T {g:A0} {k l s p:Int} {d:List Int} {z:List Cell} {q:Nat} (hd:d.length=7) (hz:z.length=7):∀ e i m:Nat,i + e=6 → e < m →
    A7M q m (.c (.p g.length 0)) (.c (.p (g.length + 1) 0)) (.c (.p (g.length + 2) 0)) (.a (encI (d.take 6))) (.c (.i .i64 i)) (g ++ [some ⟨A5 k l s p d,true⟩,some ⟨z,true⟩,some ⟨encI (d.take i ++ zI (7 - i)),true⟩]) =
      some (.a (encI d),g ++ [some ⟨A5 k l s p d,true⟩,some ⟨encI d,true⟩,some ⟨encI d,true⟩])
  | e,i,0,_,hm=>by omega
  | 0,i,m + 1,hi,hm=>by
    have e0:i=6:=by omega
    subst e0
    have h1':¬ ((6:Nat):Int) < 6:=by omega
    have l1:(A5 k l s p d)[10]? = some (.i .i64 d[6]):=by
      have:(encI d)[6]? = some (.i .i64 d[6]):=by rw [T9,List.getElem?_eq_getElem (by omega)];rfl
      exact this
    have a1:D6 7 1 (.c (.p (g.length + 2) 0)) (.c (.i .i64 6))=some (.c (.p (g.length + 2) 6)):=rfl
    have ho:6 < (encI (d.take 6 ++ zI (7 - 6))).length:=by rw [H0,List.length_append,O8,List.length_take];omega
    have es:(encI (d.take 6 ++ zI (7 - 6))).set 6 (.i .i64 d[6])=encI d:=by
      rw [A7r]
      congr 1
      have h6:(d.take 6).length=6:=by simp;omega
      rw [List.set_append_right _ _ (by omega),h6]
      have:d=d.take 6 ++ [d[6]]:=by
        rw [← List.take_succ_eq_append_getElem (by omega),List.take_of_length_le (by omega)]
      conv=>rhs;rw [this]
      rfl
    have hl:(encI d).length=7:=by rw [H0,hd]
    rw [B6w]
    simp only [esc,esh,Nat.reduceAdd,Nat.reduceMul,Nat.reduceLT,h1',l1,a1,ho,es,hl,hz]
  | e + 1,i,m + 1,hi,hm=>by
    have ih:=B7T (g:=g) (k:=k) (l:=l) (s:=s) (p:=p) (q:=q) hd hz e (i + 1) m (by omega) (by omega)
    have h1':(i:Int) < 6:=by omega
    have hx:V6 6 (.a (encI (d.take 6))) (.c (.i .i64 (i:Int)))=some (.c (.i .i64 d[i])):=by
      rw [A7D (by omega),T9,List.getElem?_take_of_lt (by omega),List.getElem?_eq_getElem (by omega)];rfl
    have a1:D6 7 1 (.c (.p (g.length + 2) 0)) (.c (.i .i64 (i:Int)))=some (.c (.p (g.length + 2) i)):=by rw [S9 (by omega)];simp
    have ho:i < (encI (d.take i ++ zI (7 - i))).length:=by rw [H0,List.length_append,O8,List.length_take];omega
    have es:(encI (d.take i ++ zI (7 - i))).set i (.i .i64 d[i])=encI (d.take (i + 1) ++ zI (7 - (i + 1))):=by
      rw [A7r]
      refine congrArg encI ?_
      have h6:(d.take i).length=i:=by simp;omega
      rw [List.set_append_right _ _ (by omega),h6,Nat.sub_self,List.take_succ_eq_append_getElem (by omega),List.append_assoc]
      refine congrArg (d.take i ++ ·) ?_
      rw [show 7 - i=7 - (i + 1) + 1 by omega]
      unfold zI
      rw [List.replicate_succ,List.set_cons_zero];rfl
    rw [B6w]
    simp only [esc,esh,Nat.reduceAdd,Nat.reduceMul,Nat.reduceLT,h1',hx,a1,ho,es,E2 (show i + 1 < 9223372036854775808 by omega)]
    exact ih
theorem C6C {k l s p:Int} {d:List Int} (hd:d.length=7):ldN (some ⟨A5 k l s p d,true⟩) 4 6=some (.a (encI (d.take 6))):=by
  have h1:(A5 k l s p d).length=11:=by simp [H0,hd]
  simp only [ldN,Option.bind_some]
  rw [if_pos ⟨by omega,by simp⟩]
  simp only [List.drop_succ_cons,List.drop_zero]
  unfold encI
  rw [List.map_take]
theorem B1r {k l s p:Int} {d:List Int} {h:A0} (hd:d.length=7):A1V [.a (A5 k l s p d)] h=some (.a (encI d),h):=by
  have key:∀ N,7 < N → ∀ g,∃ g',A6l N [.a (A5 k l s p d)] g=some (.a (encI d),g'):=by
    intro N hN g
    have:=B7T (g:=g) (k:=k) (l:=l) (s:=s) (p:=p) (z:=encI (zI 7)) (q:=N) hd (by rw [H0,O8]) 6 0 N (by omega) (by omega)
    have e0:encI (d.take 0 ++ zI (7 - 0))=[Cell.i .i64 0,.i .i64 0,.i .i64 0,.i .i64 0,.i .i64 0,.i .i64 0,.i .i64 0]:=rfl
    have e1:encI (zI 7)=[Cell.i .i64 0,.i .i64 0,.i .i64 0,.i .i64 0,.i .i64 0,.i .i64 0,.i .i64 0]:=rfl
    rw [e0,e1] at this
    rw [C0K]
    exact ⟨_,by simp only [esc,esh,Nat.reduceAdd,Nat.reduceMul,Nat.reduceLT,C6C hd];exact this⟩
  obtain ⟨g',e⟩:=key (h.length + 8) (by omega) (ro h)
  exact C2E e (by simp)
def A8W (l s p:Int) (d:List Int):Bool:=decide (l=0 ∧ s=0 ∧ p=0 ∧ d=zI 7)
def B8j (k l s p:Int) (d:List Int):Bool:=decide (0 ≤ k ∧ k ≤ 2) && (A0c l && (A0c p && (decide (0 ≤ s ∧ s ≤ 34304) && d.all A0c)))
def X6 (k l s p:Int) (d:List Int):Bool:=if k=0 then A8W l s p d else B8j k l s p d
theorem B4Q {h:A0} {d:List Int} {q:Nat} (hd:d.length=7):∀ e i m:Nat,i + e=7 → e < m →
    A7K q m (.a (encI d)) (.c (.i .i64 i)) h=some (.c (.i .i64 (bif (d.drop i).all A0c then 0 else 1)),h)
  | e,i,0,_,hm=>by omega
  | 0,i,m + 1,hi,hm=>by
    have c0:¬ (i:Int) < 7:=by omega
    rw [B6q,List.drop_of_length_le (by omega)]
    simp only [esc,c0,List.all_nil]
  | e + 1,i,m + 1,hi,hm=>by
    have ih:=B4Q (h:=h) (q:=q) hd e (i + 1) m (by omega) (by omega)
    have c0:(i:Int) < 7:=by omega
    have hx:V6 7 (.a (encI d)) (.c (.i .i64 (i:Int)))=some (.c (.i .i64 d[i])):=by
      rw [A7D (by omega),T9,List.getElem?_eq_getElem (by omega)];rfl
    rw [B6q,List.drop_eq_getElem_cons (by omega),List.all_cons]
    cases c1:A0c d[i] with
    | true =>
      simp only [esc,c0,hx,A1m,c1,Bool.true_and,E2 (show i + 1 < 9223372036854775808 by omega)]
      exact ih
    | false=>simp only [esc,c0,hx,A1m,c1,Bool.false_and]
theorem C30 {k l s p k' l' s' p':Int} {d d':List Int} {neg:Bool} (hd:d.length=7) (hd':d'.length=7) :
    aeq neg [Sh.i .i64,.i .i64,.i .i64,.i .i64,.i .i64,.i .i64,.i .i64,.i .i64,.i .i64,.i .i64,.i .i64] (.a (A5 k l s p d)) (.a (A5 k' l' s' p' d'))=some (.c (.b (bif neg then !decide (k :: l :: s :: p :: d=k' :: l' :: s' :: p' :: d') else decide (k :: l :: s :: p :: d=k' :: l' :: s' :: p' :: d')))):=by
  have h1:=C3V (l:=k :: l :: s :: p :: d) (m:=k' :: l' :: s' :: p' :: d') (n:=11) (by simp [hd]) (by simp [hd'])
  have h2:=C3U (l:=k :: l :: s :: p :: d) (m:=k' :: l' :: s' :: p' :: d') (n:=11) (by simp [hd]) (by simp [hd'])
  cases neg
  · exact h2
  · exact h1
theorem D0O {l s p:Int} {d:List Int}:decide ((0:Int) :: l :: s :: p :: d=0 :: 0 :: 0 :: 0 :: zI 7)=A8W l s p d:=by
  unfold A8W
  simp
theorem B0g:A7 [Cell.i .i64 0,.i .i64 0,.i .i64 0,.i .i64 0,.i .i64 0,.i .i64 0,.i .i64 0,.i .i64 0,.i .i64 0,.i .i64 0,.i .i64 0] []=some (A5 0 0 0 0 (zI 7)):=rfl
theorem B6p {k l s p:Int} {d:List Int} {h:A0} (hd:d.length=7):A4q [.a (A5 k l s p d)] h=some (.c (.i .i64 (bif X6 k l s p d then 0 else 1)),h):=by
  have hlen:(A5 k l s p d).length=11:=by simp [H0,hd]
  have key:∀ N,8 < N → ∀ g,∃ g',A6i N [.a (A5 k l s p d)] g=some (.c (.i .i64 (bif X6 k l s p d then 0 else 1)),g'):=by
    intro N hN g
    have lp:=fun g=>B4Q (h:=g) (q:=N) hd 7 0 N (by omega) (by omega)
    simp only [List.drop_zero,Int.cast_ofNat_Int] at lp
    rw [C0H]
    unfold X6
    by_cases k0:k=0
    · subst k0
      rw [if_pos rfl]
      have c1:¬ (0:Int) < 0:=by omega
      have c2:¬ (2:Int) < 0:=by omega
      have hq:=C30 (k:=0) (l:=l) (s:=s) (p:=p) (k':=0) (l':=0) (s':=0) (p':=0) (neg:=true) hd (O8 (n:=7))
      simp only [cond_true,D0O] at hq
      cases hz:A8W l s p d with
      | false =>
        rw [hz] at hq
        exact ⟨_,by simp only [esc,esh,Nat.reduceAdd,Nat.reduceMul,Nat.reduceLT,c1,c2,hlen,B0g,hq] <;> rfl⟩
      | true =>
        rw [hz] at hq
        have hz':=of_decide_eq_true hz
        obtain ⟨rfl,rfl,rfl,rfl⟩:=hz'
        have sm:A0c 0=true:=by decide
        have al:(zI 7).all A0c=true:=by decide
        have c3:¬ (34304:Int) < 0:=by omega
        rw [al] at lp
        exact ⟨_,by simp only [esc,esh,Nat.reduceAdd,Nat.reduceMul,Nat.reduceLT,c1,c2,c3,hlen,B0g,hq,A1m,sm,B1r hd,lp] <;> rfl⟩
    · rw [if_neg k0]
      unfold B8j
      by_cases c1:k < 0
      · rw [decide_eq_false (show ¬ (0 ≤ k ∧ k ≤ 2) by omega)]
        exact ⟨_,by simp only [esc,esh,Nat.reduceAdd,Nat.reduceMul,Nat.reduceLT,c1,Bool.false_and] <;> rfl⟩
      · by_cases c2:2 < k
        · rw [decide_eq_false (show ¬ (0 ≤ k ∧ k ≤ 2) by omega)]
          exact ⟨_,by simp only [esc,esh,Nat.reduceAdd,Nat.reduceMul,Nat.reduceLT,c1,c2,Bool.false_and] <;> rfl⟩
        · rw [decide_eq_true (show 0 ≤ k ∧ k ≤ 2 by omega),Bool.true_and]
          cases sl:A0c l with
          | false=>exact ⟨_,by simp only [esc,esh,Nat.reduceAdd,Nat.reduceMul,Nat.reduceLT,c1,c2,k0,A1m,sl,Bool.false_and] <;> rfl⟩
          | true =>
            cases sp:A0c p with
            | false=>exact ⟨_,by simp only [esc,esh,Nat.reduceAdd,Nat.reduceMul,Nat.reduceLT,c1,c2,k0,A1m,sl,sp,Bool.true_and,Bool.false_and] <;> rfl⟩
            | true =>
              by_cases c3:s < 0
              · rw [decide_eq_false (show ¬ (0 ≤ s ∧ s ≤ 34304) by omega)]
                exact ⟨_,by simp only [esc,esh,Nat.reduceAdd,Nat.reduceMul,Nat.reduceLT,c1,c2,k0,A1m,sl,sp,c3,Bool.true_and,Bool.false_and] <;> rfl⟩
              · by_cases c4:34304 < s
                · rw [decide_eq_false (show ¬ (0 ≤ s ∧ s ≤ 34304) by omega)]
                  exact ⟨_,by simp only [esc,esh,Nat.reduceAdd,Nat.reduceMul,Nat.reduceLT,c1,c2,k0,A1m,sl,sp,c3,c4,Bool.true_and,Bool.false_and] <;> rfl⟩
                · rw [decide_eq_true (show 0 ≤ s ∧ s ≤ 34304 by omega)]
                  exact ⟨_,by simp only [esc,esh,Nat.reduceAdd,Nat.reduceMul,Nat.reduceLT,c1,c2,k0,A1m,sl,sp,c3,c4,Bool.true_and,hlen,B1r hd,lp] <;> rfl⟩
  obtain ⟨g',e⟩:=key (h.length + 9) (by omega) (ro h)
  exact C2y e rfl
def S0 (k l s p:Int):List UInt8:=B8 1 k ++ zeros 1 ++ B8 2 l ++ B8 4 s ++ B8 2 p
def O2 (d:List Int):List UInt8:=(d.map (B8 2)).flatten
def I9 (k l s p:Int) (d:List Int):List UInt8:=S0 k l s p ++ O2 d ++ zeros 8
theorem A48 {k l s p:Int}:(S0 k l s p).length=10:=by simp [S0]
theorem A7J {d:List Int}:(O2 d).length=2 * d.length:=by
  unfold O2
  induction d with
  | nil=>rfl
  | cons x d ih=>simp only [List.map_cons,List.flatten_cons,List.length_append,A2l,List.length_cons,ih];omega
theorem A47 {k l s p:Int} {d:List Int} (hd:d.length=7):(I9 k l s p d).length=32:=by
  unfold I9;rw [List.length_append,List.length_append,A48,A7J,zeros_length,hd]
theorem C6z {d:List Int} {x:Int}:O2 (d ++ [x])=O2 d ++ B8 2 x:=by simp [O2]
theorem C6A {k l s p:Int}:K7 (K7 (K7 (K7 (zeros 256) 0 1 k) 2 2 l) 4 4 s) 8 2 p=C9 256 (S0 k l s p):=by
  rw [← C70]
  have h1:=A0B (l:=[]) (a:=0) (w:=1) (v:=k) (by simp) (by omega) (by omega) (by omega)
  have h2:=A0B (l:=[] ++ zeros (0 - 0) ++ B8 1 k) (a:=2) (w:=2) (v:=l) (by simp) (by omega) (by omega) (by omega)
  have h3:=A0B (l:=[] ++ zeros (0 - 0) ++ B8 1 k ++ zeros 1 ++ B8 2 l) (a:=4) (w:=4) (v:=s) (by simp) (by omega) (by omega) (by omega)
  have h4:=A0B (l:=[] ++ zeros (0 - 0) ++ B8 1 k ++ zeros 1 ++ B8 2 l ++ zeros 0 ++ B8 4 s) (a:=8) (w:=2) (v:=p) (by simp) (by omega) (by omega) (by omega)
  simp only [List.length_append,List.length_nil,zeros_length,A2l,Nat.sub_self,Nat.zero_sub,Nat.reduceAdd,Nat.reduceSub] at h1 h2 h3 h4
  simp only [Int.cast_ofNat_Int] at h1 h2 h3 h4
  rw [h1,h2,h3,h4]
  congr 1
theorem B8b {g:A0} {c0:List Cell} {B:List UInt8} {z:List Cell} {q:Nat} (hB:B.length=256) (hz:z.length=32):∀ e i m:Nat,i + e=32 → e < m →
    A7O q m (.c (.p (g.length + 1) 0)) (.c (.p (g.length + 2) 0)) (.c (.p (g.length + 3) 0)) (.c (.i .i64 i)) (g ++ [some ⟨c0,true⟩,some ⟨z,true⟩,some ⟨A1 (B.take i ++ zeros (32 - i)),true⟩,some ⟨A1 B,true⟩]) =
      some (.t [.a (A1 (B.take 32)),.c (.i .i64 0)],g ++ [some ⟨c0,true⟩,some ⟨A1 (B.take 32),true⟩,some ⟨A1 (B.take 32),true⟩,some ⟨A1 B,true⟩])
  | e,i,0,_,hm=>by omega
  | 0,i,m + 1,hi,hm=>by
    have e0:i=32:=by omega
    subst e0
    have h1':¬ ((32:Nat):Int) < 32:=by omega
    have hl:(A1 (B.take 32)).length=32:=by rw [B5,List.length_take];omega
    have e1:A1 (B.take 32 ++ zeros (32 - 32))=A1 (B.take 32):=by simp [zeros]
    rw [B6D,e1]
    simp only [esc,esh,Nat.reduceAdd,Nat.reduceMul,Nat.reduceLT,h1',hl,hz]
  | e + 1,i,m + 1,hi,hm=>by
    have ih:=B8b (g:=g) (c0:=c0) (q:=q) hB hz e (i + 1) m (by omega) (by omega)
    have h1':(i:Int) < 32:=by omega
    have a1:D6 256 1 (.c (.p (g.length + 3) 0)) (.c (.i .i64 (i:Int)))=some (.c (.p (g.length + 3) i)):=by rw [S9 (by omega)];simp
    have a2:D6 32 1 (.c (.p (g.length + 2) 0)) (.c (.i .i64 (i:Int)))=some (.c (.p (g.length + 2) i)):=by rw [S9 (by omega)];simp
    have l1:(A1 B)[i]? = some (.i .u8 B[i].toNat):=by rw [A2r,List.getElem?_eq_getElem (by omega)];rfl
    have ho:i < (A1 (B.take i ++ zeros (32 - i))).length:=by rw [B5,List.length_append,zeros_length,List.length_take];omega
    have es:(A1 (B.take i ++ zeros (32 - i))).set i (.i .u8 B[i].toNat)=A1 (B.take (i + 1) ++ zeros (32 - (i + 1))):=by
      rw [A0q]
      refine congrArg A1 ?_
      have h6:(B.take i).length=i:=by simp;omega
      rw [List.set_append_right _ _ (by omega),h6,Nat.sub_self,List.take_succ_eq_append_getElem (by omega),List.append_assoc]
      refine congrArg (B.take i ++ ·) ?_
      rw [show 32 - i=32 - (i + 1) + 1 by omega]
      unfold zeros
      rw [List.replicate_succ,List.set_cons_zero];rfl
    rw [B6D]
    simp only [esc,esh,Nat.reduceAdd,Nat.reduceMul,Nat.reduceLT,h1',a1,a2,l1,ho,es,E2 (show i + 1 < 9223372036854775808 by omega)]
    exact ih
theorem B8c {g:A0} {k l s p:Int} {d:List Int} {c0 z:List Cell} {q:Nat} (hd:d.length=7) (hz:z.length=32) (hq:33 < q):∀ e i m:Nat,i + e=7 → e < m →
    A7N q m (.c (.p (g.length + 1) 0)) (.c (.p (g.length + 2) 0)) (.c (.p (g.length + 3) 0)) (.a (encI d)) (.c (.i .i64 i)) (g ++ [some ⟨c0,true⟩,some ⟨z,true⟩,some ⟨A1 (zeros 32),true⟩,some ⟨A1 (C9 256 (S0 k l s p ++ O2 (d.take i))),true⟩]) =
      some (.t [.a (A1 (I9 k l s p d)),.c (.i .i64 0)],g ++ [some ⟨c0,true⟩,some ⟨A1 (I9 k l s p d),true⟩,some ⟨A1 (I9 k l s p d),true⟩,some ⟨A1 (C9 256 (S0 k l s p ++ O2 d)),true⟩])
  | e,i,0,_,hm=>by omega
  | 0,i,m + 1,hi,hm=>by
    have e0:i=7:=by omega
    subst e0
    have h1':¬ ((7:Nat):Int) < 7:=by omega
    rw [List.take_of_length_le (by omega)]
    have hlen:(S0 k l s p ++ O2 d).length=24:=by rw [List.length_append,A48,A7J,hd]
    have:=B8b (g:=g) (c0:=c0) (z:=z) (q:=q) (B:=C9 256 (S0 k l s p ++ O2 d)) (J5 (by omega)) hz 32 0 q (by omega) (by omega)
    have e1:(C9 256 (S0 k l s p ++ O2 d)).take 32=I9 k l s p d:=by
      unfold C9 I9
      rw [List.take_append,List.take_of_length_le (by omega),hlen]
      refine congrArg (S0 k l s p ++ O2 d ++ ·) ?_
      unfold zeros
      rw [List.take_replicate];rfl
    rw [e1] at this
    simp only [List.take_zero,List.nil_append,Nat.sub_zero] at this
    rw [B6C]
    simp only [esc,h1']
    exact this
  | e + 1,i,m + 1,hi,hm=>by
    have ih:=B8c (g:=g) (k:=k) (l:=l) (s:=s) (p:=p) (c0:=c0) hd hz hq e (i + 1) m (by omega) (by omega)
    have h1':(i:Int) < 7:=by omega
    have hx:V6 7 (.a (encI d)) (.c (.i .i64 (i:Int)))=some (.c (.i .i64 d[i])):=by
      rw [A7D (by omega),T9,List.getElem?_eq_getElem (by omega)];rfl
    have hlen:(S0 k l s p ++ O2 (d.take i)).length=10 + 2 * i:=by rw [List.length_append,A48,A7J,List.length_take];omega
    have hL:(A1 (C9 256 (S0 k l s p ++ O2 (d.take i)))).length=256:=by rw [B5,J5 (by omega)]
    have e2:IntKind.wrap .i64 (2 * (i:Int))=((2 * i:Nat):Int):=by rw [wrap_i64 (by omega) (by omega)];omega
    have e3:IntKind.wrap .i64 (10 + ((2 * i:Nat):Int))=((10 + 2 * i:Nat):Int):=by rw [wrap_i64 (by omega) (by omega)];omega
    have hw:=A0v (l:=C9 256 (S0 k l s p ++ O2 (d.take i))) (h:=g ++ [some ⟨c0,true⟩,some ⟨z,true⟩,some ⟨A1 (zeros 32),true⟩,some ⟨A1 (C9 256 (S0 k l s p ++ O2 (d.take i))),true⟩]) (J5 (by omega)) (a:=((10 + 2 * i:Nat):Int)) (w:=2) (v:=d[i])
    have e4:=A0B (l:=S0 k l s p ++ O2 (d.take i)) (a:=10 + 2 * i) (w:=2) (v:=d[i]) (by omega) (by omega) (by omega) (by omega)
    rw [show ((2:Nat):Int)=2 from rfl,hlen,Nat.sub_self,show zeros 0=[] from rfl,List.append_nil,List.append_assoc,← C6z,← List.take_succ_eq_append_getElem (by omega)] at e4
    rw [e4] at hw
    have hL':(A1 (C9 256 (S0 k l s p ++ O2 (d.take (i + 1))))).length=256:=by
      rw [B5,J5 (by rw [List.length_append,A48,A7J,List.length_take];omega)]
    rw [B6C]
    simp only [esc,esh,Nat.reduceAdd,Nat.reduceMul,Nat.reduceLT,h1',hx,hL,e2,e3,hw,hL',E2 (show i + 1 < 9223372036854775808 by omega)]
    exact ih
theorem B6B {k l s p:Int} {d:List Int} {h:A0} (hd:d.length=7) :
    A1W [.a (A5 k l s p d)] h=some (.t [.a (A1 (bif X6 k l s p d then I9 k l s p d else zeros 32)),.c (.i .i64 (bif X6 k l s p d then 0 else 1))],h):=by
  have hlen:(A5 k l s p d).length=11:=by simp [H0,hd]
  have key:∀ N,33 < N → ∀ g,∃ g',A6m N [.a (A5 k l s p d)] g=some (.t [.a (A1 (bif X6 k l s p d then I9 k l s p d else zeros 32)),.c (.i .i64 (bif X6 k l s p d then 0 else 1))],g'):=by
    intro N hN g
    have hz:(A1 (zeros 32)).length=32:=by rw [B5];exact zeros_length
    have hz2:(A1 (zeros 256)).length=256:=by rw [B5];exact zeros_length
    rw [C0L,L9,L9]
    cases c:X6 k l s p d with
    | false =>
      generalize zeros 32=z at *
      generalize zeros 256=y at *
      exact ⟨_,by simp only [esc,esh,Nat.reduceAdd,Nat.reduceMul,Nat.reduceLT,hlen,B6p hd,c,hz,Int.reduceEq] <;> rfl⟩
    | true =>
      have:=B8c (g:=g) (k:=k) (l:=l) (s:=s) (p:=p) (c0:=A5 k l s p d) (z:=A1 (zeros 32)) (q:=N) hd hz hN 7 0 N (by omega) (by omega)
      simp only [List.take_zero,show O2 []=[] from rfl,List.append_nil] at this
      have w1:=fun h=>A0v (h:=h) (l:=zeros 256) zeros_length (a:=0) (w:=1) (v:=k)
      have w2:=fun h=>A0v (h:=h) (l:=K7 (zeros 256) 0 1 k) (Y0 zeros_length) (a:=2) (w:=2) (v:=l)
      have w3:=fun h=>A0v (h:=h) (l:=K7 (K7 (zeros 256) 0 1 k) 2 2 l) (Y0 (Y0 zeros_length)) (a:=4) (w:=4) (v:=s)
      have w4:=fun h=>A0v (h:=h) (l:=K7 (K7 (K7 (zeros 256) 0 1 k) 2 2 l) 4 4 s) (Y0 (Y0 (Y0 zeros_length))) (a:=8) (w:=2) (v:=p)
      have l1:(A1 (K7 (zeros 256) 0 1 k)).length=256:=by rw [B5,Y0 zeros_length]
      have l2:(A1 (K7 (K7 (zeros 256) 0 1 k) 2 2 l)).length=256:=by rw [B5,Y0 (Y0 zeros_length)]
      have l3:(A1 (K7 (K7 (K7 (zeros 256) 0 1 k) 2 2 l) 4 4 s)).length=256:=by rw [B5,Y0 (Y0 (Y0 zeros_length))]
      have l4:(A1 (C9 256 (S0 k l s p))).length=256:=by rw [B5,J5 (by rw [A48];omega)]
      simp only [C6A] at w4
      generalize zeros 32=z at *
      generalize zeros 256=y at *
      exact ⟨_,by simp only [esc,esh,Nat.reduceAdd,Nat.reduceMul,Nat.reduceLT,hlen,B6p hd,c,hz,hz2,w1,w2,w3,w4,l1,l2,l3,l4,B1r hd];exact this⟩
  obtain ⟨g',e⟩:=key (h.length + 34) (by omega) (ro h)
  exact C2F e (by simp)
def S8 (b:List UInt8):Int:=fieldN b 0 1
def U0 (b:List UInt8):Int:=fieldN b 2 2
def U2 (b:List UInt8):Int:=fieldN b 4 4
def U1 (b:List UInt8):Int:=fieldN b 8 2
def H7 (b:List UInt8):List Int:=(List.range 7).map fun j=>fieldN b (10 + 2 * j) 2
theorem O1 {b:List UInt8}:(H7 b).length=7:=by simp [H7]
theorem B5U {b:List UInt8} {i:Nat} (hi:i < 7):(H7 b)[i]? = some (fieldN b (10 + 2 * i) 2):=by simp [H7,hi]
theorem B6m {k l s p x:Int} {d:List Int} {i:Nat}:(A5 k l s p d).set (4 + i) (.i .i64 x)=A5 k l s p (d.set i x):=by
  rw [show 4 + i=i + 1 + 1 + 1 + 1 by omega]
  simp only [A5,List.set_cons_succ,A7r]
theorem B87 {D:List Int} (hD:D.length=7) {i:Nat} (hi:i < 7):(D.take i ++ zI (7 - i)).set i D[i]=D.take (i + 1) ++ zI (7 - (i + 1)):=by
  have h6:(D.take i).length=i:=by simp;omega
  rw [List.set_append_right _ _ (by omega),h6,Nat.sub_self,List.take_succ_eq_append_getElem (by omega),List.append_assoc]
  refine congrArg (D.take i ++ ·) ?_
  rw [show 7 - i=7 - (i + 1) + 1 by omega]
  unfold zI
  rw [List.replicate_succ,List.set_cons_zero];rfl
theorem B53 {g:A0} {b:List UInt8} {k l s p:Int} {c0 z:List Cell} {q:Nat} (hb:b.length=32) (hz:z.length=11):∀ e i m:Nat,i + e=6 → e < m →
    A7L q m (.c (.p (g.length + 1) 0)) (.c (.p (g.length + 2) 0)) (.c (.p (g.length + 3) 0)) (.c (.i .i64 i)) (g ++ [some ⟨c0,true⟩,some ⟨z,true⟩,some ⟨A1 (C9 256 b),true⟩,some ⟨A5 k l s p ((H7 b).take i ++ zI (7 - i)),true⟩]) =
      some (.a (A5 k l s p (H7 b)),g ++ [some ⟨c0,true⟩,some ⟨A5 k l s p (H7 b),true⟩,some ⟨A1 (C9 256 b),true⟩,some ⟨A5 k l s p (H7 b),true⟩])
  | e,i,0,_,hm=>by omega
  | 0,i,m + 1,hi,hm=>by
    have e0:i=6:=by omega
    subst e0
    have h1':¬ ((6:Nat):Int) < 6:=by omega
    have hX:(A1 (C9 256 b)).length=256:=by rw [B5,J5 (by omega)]
    have ha:=fun h=>A0Y (h:=h) (l:=C9 256 b) (J5 (by omega)) (a:=22) (w:=2)
    have e1:=B0q (b:=b) (a:=22) (w:=2) (by omega) (by omega) (by omega) (by omega)
    simp only [Int.cast_ofNat_Int] at e1
    simp only [e1] at ha
    have hl0:(A5 k l s p ((H7 b).take 6 ++ zI (7 - 6))).length=11:=by simp [H0,O1,O8]
    have ho:(encI ((H7 b).take 6 ++ zI (7 - 6))).length=7:=by simp [H0,O1,O8]
    have hg6:(H7 b)[6]'(by rw [O1];omega)=fieldN b 22 2:=by
      have:=B5U (b:=b) (i:=6) (by omega)
      rw [List.getElem?_eq_getElem (by rw [O1];omega)] at this
      exact Option.some.inj this
    have es:(A5 k l s p ((H7 b).take 6 ++ zI (7 - 6))).set 10 (.i .i64 (fieldN b 22 2))=A5 k l s p (H7 b):=by
      have h1:=B6m (k:=k) (l:=l) (s:=s) (p:=p) (x:=fieldN b 22 2) (d:=(H7 b).take 6 ++ zI (7 - 6)) (i:=6)
      rw [show 4 + 6=10 from rfl] at h1
      rw [h1,← hg6,B87 O1 (by omega)]
      have:(H7 b).take (6 + 1) ++ zI (7 - (6 + 1))=H7 b:=by rw [List.take_of_length_le (by rw [O1];omega)];simp [zI]
      rw [this]
    have hl1:(A5 k l s p (H7 b)).length=11:=by simp [H0,O1]
    rw [B6t]
    simp only [esc,esh,Nat.reduceAdd,Nat.reduceMul,Nat.reduceLT,h1',hX,ha,ho,es,hl1,hz,H0,O1]
  | e + 1,i,m + 1,hi,hm=>by
    have ih:=B53 (g:=g) (k:=k) (l:=l) (s:=s) (p:=p) (c0:=c0) (q:=q) hb hz e (i + 1) m (by omega) (by omega)
    have h1':(i:Int) < 6:=by omega
    have hX:(A1 (C9 256 b)).length=256:=by rw [B5,J5 (by omega)]
    have e2:IntKind.wrap .i64 (2 * (i:Int))=((2 * i:Nat):Int):=by rw [wrap_i64 (by omega) (by omega)];omega
    have e3:IntKind.wrap .i64 (10 + ((2 * i:Nat):Int))=((10 + 2 * i:Nat):Int):=by rw [wrap_i64 (by omega) (by omega)];omega
    have ha:=fun h=>A0Y (h:=h) (l:=C9 256 b) (J5 (by omega)) (a:=((10 + 2 * i:Nat):Int)) (w:=2)
    have e1:=B0q (b:=b) (a:=10 + 2 * i) (w:=2) (by omega) (by omega) (by omega) (by omega)
    rw [show ((2:Nat):Int)=2 from rfl] at e1
    simp only [e1] at ha
    have a1:D6 6 1 (.c (.p (g.length + 3) 4)) (.c (.i .i64 (i:Int)))=some (.c (.p (g.length + 3) (4 + i))):=by rw [S9 (by omega)];simp
    have ho:(encI ((H7 b).take i ++ zI (7 - i))).length=7:=by simp [H0,O1,O8];omega
    have ho2:4 + i < 11:=by omega
    have hgi:(H7 b)[i]'(by rw [O1];omega)=fieldN b (10 + 2 * i) 2:=by
      have:=B5U (b:=b) (i:=i) (by omega)
      rw [List.getElem?_eq_getElem (by rw [O1];omega)] at this
      exact Option.some.inj this
    have es:(A5 k l s p ((H7 b).take i ++ zI (7 - i))).set (4 + i) (.i .i64 (fieldN b (10 + 2 * i) 2))=A5 k l s p ((H7 b).take (i + 1) ++ zI (7 - (i + 1))):=by
      rw [B6m,← hgi,B87 O1 (by omega)]
    rw [B6t]
    simp only [esc,esh,Nat.reduceAdd,Nat.reduceMul,Nat.reduceLT,h1',hX,e2,e3,ha,a1,ho,ho2,es,E2 (show i + 1 < 9223372036854775808 by omega)]
    exact ih
theorem B1q {b:List UInt8} {h:A0} (hb:b.length=32):A4s [.a (A1 b)] h=some (.a (A5 (S8 b) (U0 b) (U2 b) (U1 b) (H7 b)),h):=by
  have key:∀ N,7 < N → ∀ g,∃ g',A6k N [.a (A1 b)] g=some (.a (A5 (S8 b) (U0 b) (U2 b) (U1 b) (H7 b)),g'):=by
    intro N hN g
    have hl:(A1 b).length=32:=by rw [B5,hb]
    have hX:(A1 (C9 256 b)).length=256:=by rw [B5,J5 (by omega)]
    have hz:(List.replicate 256 (Cell.i .u8 0)).length=256:=List.length_replicate
    have z11:[Cell.i .i64 0,.i .i64 0,.i .i64 0,.i .i64 0,.i .i64 0,.i .i64 0,.i .i64 0,.i .i64 0,.i .i64 0,.i .i64 0,.i .i64 0]=A5 0 0 0 0 (zI 7):=rfl
    have l11:(A5 0 0 0 0 (zI 7)).length=11:=rfl
    have ho:=A8f (h:=g ++ [some ⟨A1 b,true⟩,some ⟨A5 0 0 0 0 (zI 7),true⟩]) (v:=.c (.sl g.length 0 32 1)) (nv:=32) (data:=b) (Has.tr (by simp) (by omega) (Q3 _)) (by omega)
    rw [A8j (by omega)] at ho
    have at_:∀ (a w:Nat),a + w ≤ 32 → 1 ≤ w → w ≤ 4 → ∀ h,M0 [.a (A1 (C9 256 b)),.c (.i .i64 a),.c (.i .i64 w)] h=some (.c (.i .i64 (fieldN b a w)),h):=fun a w h1 h2 h3 h=>by
      rw [A0Y (J5 (by omega)),B0q (by omega) (by omega) h2 h3]
    have a1:=at_ 0 1 (by omega) (by omega) (by omega)
    have a2:=at_ 2 2 (by omega) (by omega) (by omega)
    have a3:=at_ 4 4 (by omega) (by omega) (by omega)
    have a4:=at_ 8 2 (by omega) (by omega) (by omega)
    simp only [Int.cast_ofNat_Int] at a1 a2 a3 a4
    have ef:A7 (A5 0 0 0 0 (zI 7)) [(0,1,.c (.i .i64 (fieldN b 0 1))),(1,1,.c (.i .i64 (fieldN b 2 2))),(2,1,.c (.i .i64 (fieldN b 4 4))),(3,1,.c (.i .i64 (fieldN b 8 2)))]=some (A5 (S8 b) (U0 b) (U2 b) (U1 b) (zI 7)):=rfl
    have lf:(A5 (S8 b) (U0 b) (U2 b) (U1 b) (zI 7)).length=11:=rfl
    have:=B53 (g:=g) (b:=b) (k:=S8 b) (l:=U0 b) (s:=U2 b) (p:=U1 b) (c0:=A1 b) (z:=A5 0 0 0 0 (zI 7)) (q:=N) hb l11 6 0 N (by omega) (by omega)
    simp only [List.take_zero,List.nil_append,Nat.sub_zero] at this
    rw [C0J,z11]
    generalize List.replicate 256 (Cell.i .u8 0)=z at *
    generalize A5 0 0 0 0 (zI 7)=y at *
    exact ⟨_,by simp only [esc,esh,Nat.reduceAdd,Nat.reduceMul,Nat.reduceLT,hl,ho,hz,hX,a1,a2,a3,a4,ef,l11,lf];exact this⟩
  obtain ⟨g',e⟩:=key (h.length + 8) (by omega) (ro h)
  exact C2C e (by simp)
def X1 (b:List UInt8):Bool:=X6 (S8 b) (U0 b) (U2 b) (U1 b) (H7 b) && decide (I9 (S8 b) (U0 b) (U2 b) (U1 b) (H7 b)=b)
def U8 (b:List UInt8):List Cell:=bif X1 b then A5 (S8 b) (U0 b) (U2 b) (U1 b) (H7 b) else A5 0 0 0 0 (zI 7)
theorem B4Y {b:List UInt8}:(U8 b).length=11:=by
  unfold U8
  cases X1 b <;> simp [H0,O1,O8]
theorem B5u {b:List UInt8}:F3 (U8 b)=true:=by
  unfold U8
  cases X1 b <;> simp
theorem C6F {b:List UInt8} {h:A0} (hb:b.length=32):A4r [.a (A1 b)] h=some (.t [.a (U8 b),.c (.b (X1 b))],h):=by
  have key:∀ g,∃ g',A6j 0 [.a (A1 b)] g=some (.t [.a (U8 b),.c (.b (X1 b))],g'):=by
    intro g
    have hl:(A1 b).length=32:=by rw [B5,hb]
    have hI:(A5 (S8 b) (U0 b) (U2 b) (U1 b) (H7 b)).length=11:=by simp [H0,O1]
    have z11:[Cell.i .i64 0,.i .i64 0,.i .i64 0,.i .i64 0,.i .i64 0,.i .i64 0,.i .i64 0,.i .i64 0,.i .i64 0,.i .i64 0,.i .i64 0]=A5 0 0 0 0 (zI 7):=rfl
    have l11:(A5 0 0 0 0 (zI 7)).length=11:=rfl
    have af:=B0g
    rw [z11] at af
    have hz:(List.replicate 32 (Cell.i .u8 0)).length=32:=List.length_replicate
    have hp:=fun h=>B6B (h:=h) (k:=S8 b) (l:=U0 b) (s:=U2 b) (p:=U1 b) (d:=H7 b) O1
    have hB:(A1 (I9 (S8 b) (U0 b) (U2 b) (U1 b) (H7 b))).length=32:=by rw [B5,A47 O1]
    have hZ:(A1 (zeros 32)).length=32:=by rw [B5];exact zeros_length
    have hq:=A6Y (l:=I9 (S8 b) (U0 b) (U2 b) (U1 b) (H7 b)) (m:=b) (n:=32) (A47 O1) hb
    rw [C0I,z11]
    unfold U8 X1
    generalize List.replicate 32 (Cell.i .u8 0)=z at *
    generalize A5 0 0 0 0 (zI 7)=y at *
    cases c:X6 (S8 b) (U0 b) (U2 b) (U1 b) (H7 b) with
    | false =>
      simp only [c,cond_false] at hp
      exact ⟨_,by simp only [esc,esh,Nat.reduceAdd,Nat.reduceMul,Nat.reduceLT,hl,B1q hb,hI,l11,hp,hz,hZ,Int.reduceEq,af,Bool.false_and] <;> rfl⟩
    | true =>
      simp only [c,cond_true] at hp
      cases c2:decide (I9 (S8 b) (U0 b) (U2 b) (U1 b) (H7 b)=b) with
      | false =>
        rw [c2] at hq
        exact ⟨_,by simp only [esc,esh,Nat.reduceAdd,Nat.reduceMul,Nat.reduceLT,hl,B1q hb,hI,l11,hp,hz,hB,hq,af,Bool.and_false] <;> rfl⟩
      | true =>
        rw [c2] at hq
        exact ⟨_,by simp only [esc,esh,Nat.reduceAdd,Nat.reduceMul,Nat.reduceLT,hl,B1q hb,hI,l11,hp,hz,hB,hq,Bool.and_true] <;> rfl⟩
  obtain ⟨g',e⟩:=key (ro h)
  exact C2A e (by simp [B5u])
end Go.Proofs.Yteckncopbicmcaa
end
noncomputable section
namespace Go.Proofs.Yteckncopbicmcaa
open Go Go.Esc
set_option maxRecDepth 100000
def A_index_depth:AFn:=⟨.seq [1] (.ops [aO 1 (.box (.t 0)),aO 2 (.mv (.v (.c (.i .i64 0))))]) (.seq [2] (.ops [aO 3 (.fAddr (.t 1) 0),aO 4 (.load1 (.t 3)),aO 5 (.min (.t 4) (.v (.c (.i .i64 5)))),aO 6 (.max (.v (.c (.i .i64 0))) (.t 5)),aO 2 (.mv (.t 6))]) .ret),[.tmp 2]⟩
def A9k:A9:=C0
def A6f (n:Nat) (args:List Val) (h:A0):A6:=ax A9k n A_index_depth.code A_index_depth.fin (params 0 args) h
theorem C0D (n:Nat) (a0:Val) (h:A0):A6f n [a0] h=bnd (cells? a0) fun c1=>bnd (B4 (.c (.p h.length 0)) 0) fun v2=>bnd (A4 (h ++ [some (Row.mk (c1) true)]) v2) fun v3=>bnd (T7 v3 (.c (.i .i64 5))) fun v4=>bnd (A0l (.c (.i .i64 0)) v4) fun v5=>some (v5,(h ++ [some (Row.mk (c1) true)])):=by kernel_rfl
theorem K_index_depth:FnK Try.prog 72 A_index_depth A9k A6f:=.mk' (C2) Try.func72 (by kernel_rfl) (fun _ _ _=>C1)
def A0G:Fun:=tidy (Lim A_index_depth A9k)
theorem A98:SOk Try.prog 72 A0G:=K_index_depth.sok
theorem C2s:D5 A6f A0G:=K_index_depth.flat
def A_index_fine:AFn:=⟨.seq [0] (.ops [aO 2 (.mv (.v (.c (.b false))))]) (.seq [2] (.ops [aO 3 (.mv (.t 0)),aO 4 (.bin .geq (.t 3) (.v (.c (.i .i64 0)))),aO 5 (.mv (.t 4)),aG 6 5 true (.mv (.t 0)),aG 7 5 true (.bin .leq (.t 6) (.v (.c (.i .i64 65535)))),aO 8 (.pick (.t 5) (.t 7) (.v (.c (.b false)))),aO 2 (.mv (.t 8))]) .ret),[.tmp 2]⟩
def A9l:A9:=C0
def A9T (n:Nat) (args:List Val) (h:A0):A6:=ax A9l n A_index_fine.code A_index_fine.fin (params 0 args) h
theorem C0E (n:Nat) (a0:Val) (h:A0):A9T n [a0] h=bnd (A2 .geq a0 (.c (.i .i64 0))) fun v1=>bnd (gd v1 true (some (a0,h)) (some (.no,h))) fun p2=>bnd (gd v1 true (bnd (A2 .leq p2.1 (.c (.i .i64 65535))) fun v3=>some (v3,p2.2)) (some (.no,p2.2))) fun p4=>bnd (D3 v1 p4.1 (.c (.b false))) fun v5=>some (v5,p4.2):=by kernel_rfl
theorem K_index_fine:FnK Try.prog 73 A_index_fine A9l A9T:=.mk' (C2) Try.func73 (by kernel_rfl) (fun _ _ _=>C1)
def A4o:Fun:=tidy (Lim A_index_fine A9l)
theorem C2u:SOk Try.prog 73 A4o:=K_index_fine.sok
theorem C2t:D5 A9T A4o:=K_index_fine.flat
def B6d:ACode:=.seq [2,4,20,21,22] (.ops [aO 22 (.bin .lss (.t 21) (.v (.c (.i .i64 32))))]) (.seq [2,4,20,21] (.cond (.t 22) .skip (.exit 0)) (.seq [2,4,20,21] (.block 1 (.seq [2,4,5,6,20,21] (.ops [aO 23 (.mv (.t 21)),aO 24 (.idxA1 32 (.t 20) (.t 21)),aO 5 (.mv (.t 23)),aO 6 (.mv (.t 24))]) (.seq [2,4,5,6,20,21] (.seq [2,4,5,6,20,21,27] (.ops [aO 25 (.mv (.t 6)),aO 26 (.call 73 [(.t 25)]),aO 27 (.un .not (.t 26))]) (.cond (.t 27) (.seq [2,3] (.ops [aO 28 (.build (List.replicate 256 (.i .u8 0)) []),aN (.storeN 256 (.t 2) (.t 28)),aO 3 (.mv (.v (.c (.i .i64 1))))]) .ret) .skip)) (.ops [aO 29 (.loadN 256 (.t 4)),aO 30 (.mv (.t 5)),aO 31 (.bin .mul (.v (.c (.i .i64 2))) (.t 30)),aO 32 (.bin .add (.v (.c (.i .i64 32))) (.t 31)),aO 33 (.mv (.t 6)),aO 34 (.call 67 [(.t 29),(.t 32),(.v (.c (.i .i64 2))),(.t 33)]),aN (.storeN 256 (.t 4) (.t 34))])))) (.ops [aO 35 (.bin .add (.t 21) (.v (.c (.i .i64 1)))),aO 21 (.mv (.t 35))])))
def B6e:ACode:=.seq [2,3] (.ops [aO 36 (.loadN 256 (.t 4)),aN (.storeN 256 (.t 2) (.t 36)),aO 3 (.mv (.v (.c (.i .i64 0))))]) .ret
def A_index_Put:AFn:=⟨.seq [1,2] (.ops [aO 1 (.box (.t 0)),aO 2 (.alloc (List.replicate 256 (.i .u8 0))),aO 3 (.mv (.v (.c (.i .i64 0))))]) (.seq [1,2] (.seq [1,2,11] (.draw 0 [aO 7 (.fAddr (.t 1) 0),aO 8 (.load1 (.t 7)),aO 9 (.loadN 33 (.t 1)),aO 10 (.call 72 [(.t 9)])] [aO 11 (.bin .neq (.t 8) (.t 10))]) (.cond (.t 11) (.seq [2,3] (.ops [aO 12 (.build (List.replicate 256 (.i .u8 0)) []),aN (.storeN 256 (.t 2) (.t 12)),aO 3 (.mv (.v (.c (.i .i64 1))))]) .ret) .skip)) (.seq [1,2,4] (.draw 2 [aS 13 0 (.buildSl 1 4 ([.i .u8 0,.i .u8 0,.i .u8 0,.i .u8 0]) [(0,1,(.v (.c (.i .u8 105)))),(1,1,(.v (.c (.i .u8 100)))),(2,1,(.v (.c (.i .u8 120)))),(3,1,(.v (.c (.i .u8 33))))]),aO 14 (.mark (.t 13)),aO 15 (.call 66 [(.t 14)]),aO 16 (.fAddr (.t 1) 0),aO 17 (.load1 (.t 16)),aO 18 (.call 67 [(.t 15),(.v (.c (.i .i64 4))),(.v (.c (.i .i64 1))),(.t 17)]),aS 4 1 (.alloc (List.replicate 256 (.i .u8 0)))] [aN (.storeN 256 (.t 4) (.t 18))]) (.seq [2,4] (.seq [2,4,20,21] (.ops [aO 19 (.fAddr (.t 1) 1),aO 20 (.loadN 32 (.t 19)),aO 21 (.mv (.v (.c (.i .i64 0))))]) (.block 0 (.loop [2,4,20,21] B6d))) B6e))),[.cellN 2 256,.tmp 3]⟩
def A3D:A9:=B0 72 A0G (B0 66 Y3 (B0 67 Q8 (B0 73 A4o C0)))
def C6t (n:Nat):B3 (Val × A0):=E3 [2,4] (ax A3D n B6e) A_index_Put.fin
def C6u (n:Nat):B3 (Val × A0):=D7 0 (C6t n)
def A7H (n m:Nat) (x2 x4 x20 x21:Val) (h:A0):A6:=D1 (ax A3D n B6d) [2,4,20,21] (C6u n) m [(2,x2),(4,x4),(20,x20),(21,x21)] h
def A6e (n:Nat) (args:List Val) (h:A0):A6:=ax A3D n A_index_Put.code A_index_Put.fin (params 0 args) h
theorem C0C (n:Nat) (a0:Val) (h:A0):A6e n [a0] h=bnd (cells? a0) fun c1=>bnd (B4 (.c (.p h.length 0)) 0) fun v2=>bnd (A4 ((h ++ [some (Row.mk (c1) true)]) ++ [some (Row.mk (List.replicate 256 (.i .u8 0)) true)]) v2) fun v3=>bnd (A3 ((h ++ [some (Row.mk (c1) true)]) ++ [some (Row.mk (List.replicate 256 (.i .u8 0)) true)]) 33 (.c (.p h.length 0))) fun v4=>bnd (quiet (((h ++ [some (Row.mk (c1) true)]) ++ [some (Row.mk (List.replicate 256 (.i .u8 0)) true)]) ++ []) (A0G [v4] (((h ++ [some (Row.mk (c1) true)]) ++ [some (Row.mk (List.replicate 256 (.i .u8 0)) true)]) ++ []))) fun p5=>bnd (A2 .neq v3 p5.1) fun v6=>cnd v6 (bnd (A7 (List.replicate 256 (.i .u8 0)) []) fun c7=>bnd (A8 p5.2 256 (.c (.p (h ++ [some (Row.mk (c1) true)]).length 0)) (.a c7)) fun h8=>C7 [A3 h8 256 (.c (.p (h ++ [some (Row.mk (c1) true)]).length 0)),some (.c (.i .i64 1))] h8) (bnd (A7 ([.i .u8 0,.i .u8 0,.i .u8 0,.i .u8 0]) [(0,1,.c (.i .u8 105)),(1,1,.c (.i .u8 100)),(2,1,.c (.i .u8 120)),(3,1,.c (.i .u8 33))]) fun c9=>bnd (U5 ((p5.2 ++ [none,none]).set (p5.2.length + 0) (some (Row.mk (c9) true))) (.c (.sl (p5.2.length + 0) 0 4 1))) fun v10=>bnd (quiet ((p5.2 ++ [none,none]).set (p5.2.length + 0) (some (Row.mk (c9) true))) (Y3 [v10] ((p5.2 ++ [none,none]).set (p5.2.length + 0) (some (Row.mk (c9) true))))) fun p11=>bnd (B4 (.c (.p h.length 0)) 0) fun v12=>bnd (A4 p5.2 v12) fun v13=>bnd (quiet p11.2 (Q8 [p11.1,.c (.i .i64 4),.c (.i .i64 1),v13] p11.2)) fun p14=>bnd (A8 (p14.2.set (p5.2.length + 1) (some (Row.mk (List.replicate 256 (.i .u8 0)) true))) 256 (.c (.p (p5.2.length + 1) 0)) p14.1) fun h15=>bnd (B4 (.c (.p h.length 0)) 1) fun v16=>bnd (A3 h15 32 v16) fun v17=>A7H n n (.c (.p (h ++ [some (Row.mk (c1) true)]).length 0)) (.c (.p (p5.2.length + 1) 0)) v17 (.c (.i .i64 0)) h15):=by kernel_rfl
theorem B6g (n m:Nat) (x2 x4 x20 x21:Val) (h:A0):A7H n (m + 1) x2 x4 x20 x21 h=bnd (A2 .lss x21 (.c (.i .i64 32))) fun v18=>cnd v18 (bnd (V6 32 x20 x21) fun v19=>bnd (A4o [v19] h) fun p20=>bnd (aun .not p20.1) fun v21=>cnd v21 (bnd (A7 (List.replicate 256 (.i .u8 0)) []) fun c22=>bnd (A8 p20.2 256 x2 (.a c22)) fun h23=>C7 [A3 h23 256 x2,some (.c (.i .i64 1))] h23) (bnd (A3 p20.2 256 x4) fun v24=>bnd (A2 .mul (.c (.i .i64 2)) x21) fun v25=>bnd (A2 .add (.c (.i .i64 32)) v25) fun v26=>bnd (Q8 [v24,v26,.c (.i .i64 2),v19] p20.2) fun p27=>bnd (A8 p27.2 256 x4 p27.1) fun h28=>bnd (A2 .add x21 (.c (.i .i64 1))) fun v29=>A7H n m x2 x4 x20 v29 h28)) (bnd (A3 h 256 x4) fun v30=>bnd (A8 h 256 x2 v30) fun h31=>C7 [A3 h31 256 x2,some (.c (.i .i64 0))] h31):=by kernel_rfl
theorem K_index_Put:FnK Try.prog 43 A_index_Put A3D A6e:=.mk' (B1 A98 (B1 A6T (B1 B0a (B1 C2u C2)))) Try.func43 (by kernel_rfl) (fun _ _ _=>C1)
def A1T:Fun:=tidy (Lim A_index_Put A3D)
theorem B3k:SOk Try.prog 43 A1T:=K_index_Put.sok
theorem C2r:D5 A6e A1T:=K_index_Put.flat
def A_index_many:AFn:=⟨.seq [1] (.ops [aO 1 (.box (.t 0)),aO 2 (.mv (.v (.c (.i .i64 0))))]) (.seq [2] (.ops [aO 3 (.loadN 33 (.t 1)),aO 4 (.call 72 [(.t 3)]),aO 5 (.conv .u64 (.t 4)),aO 6 (.bin .shl (.v (.c (.i .i64 1))) (.t 5)),aO 2 (.mv (.t 6))]) .ret),[.tmp 2]⟩
def A9m:A9:=B0 72 A0G C0
def A6h (n:Nat) (args:List Val) (h:A0):A6:=ax A9m n A_index_many.code A_index_many.fin (params 0 args) h
theorem C0G (n:Nat) (a0:Val) (h:A0):A6h n [a0] h=bnd (cells? a0) fun c1=>bnd (A3 (h ++ [some (Row.mk (c1) true)]) 33 (.c (.p h.length 0))) fun v2=>bnd (A0G [v2] (h ++ [some (Row.mk (c1) true)])) fun p3=>bnd (K9 .u64 p3.1) fun v4=>bnd (A2 .shl (.c (.i .i64 1)) v4) fun v5=>some (v5,p3.2):=by kernel_rfl
theorem K_index_many:FnK Try.prog 87 A_index_many A9m A6h:=.mk' (B1 A98 C2) Try.func87 (by kernel_rfl) (fun _ _ _=>C1)
def A1U:Fun:=tidy (Lim A_index_many A9m)
theorem B3l:SOk Try.prog 87 A1U:=K_index_many.sok
theorem C2x:D5 A6h A1U:=K_index_many.flat
def B57:ACode:=.seq [1,2,4,12,13] (.ops [aO 13 (.bin .lss (.t 12) (.v (.c (.i .i64 32))))]) (.seq [1,2,4,12] (.cond (.t 13) .skip (.exit 0)) (.seq [1,2,4,12] (.block 1 (.seq [1,2,4,5,12] (.ops [aO 14 (.mv (.t 12)),aO 5 (.mv (.t 14))]) (.ops [aO 15 (.mv (.t 5)),aO 16 (.loadN 256 (.t 1)),aO 17 (.mv (.t 5)),aO 18 (.bin .mul (.v (.c (.i .i64 2))) (.t 17)),aO 19 (.bin .add (.v (.c (.i .i64 32))) (.t 18)),aO 20 (.call 47 [(.t 16),(.t 19),(.v (.c (.i .i64 2)))]),aO 21 (.fAddr (.t 4) 1),aO 22 (.iAddrA 32 1 (.t 21) (.t 15)),aN (.store1 (.t 22) (.t 20))]))) (.ops [aO 23 (.bin .add (.t 12) (.v (.c (.i .i64 1)))),aO 12 (.mv (.t 23))])))
def B59:ACode:=.seq [2,4,8] (.seq [2,4,8,40] (.ops [aO 39 (.mv (.t 8)),aO 40 (.bin .lss (.t 39) (.v (.c (.i .i64 32))))]) (.cond (.t 40) .skip (.exit 2))) (.seq [2,4,8] (.block 3 (.seq [2,4,8,47] (.ops [aO 43 (.mv (.t 8)),aO 44 (.fAddr (.t 4) 1),aO 45 (.iAddrA 32 1 (.t 44) (.t 43)),aO 46 (.load1 (.t 45)),aO 47 (.bin .neq (.t 46) (.v (.c (.i .i64 0))))]) (.cond (.t 47) (.seq [2,3] (.ops [aO 48 (.build ([.i .i64 0] ++ List.replicate 32 (.i .i64 0)) []),aN (.storeN 33 (.t 2) (.t 48)),aO 3 (.mv (.v (.c (.i .i64 14))))]) .ret) .skip))) (.ops [aO 41 (.mv (.t 8)),aO 42 (.bin .add (.t 41) (.v (.c (.i .i64 1)))),aO 8 (.mv (.t 42))]))
def B6a:ACode:=.seq [2,3] (.ops [aO 49 (.loadN 33 (.t 4)),aN (.storeN 33 (.t 2) (.t 49)),aO 3 (.mv (.v (.c (.i .i64 0))))]) .ret
def B58:ACode:=.seq [1,2,4,6,7] (.ops [aO 25 (.loadN 33 (.t 4)),aO 26 (.call 43 [(.t 25)]),aO 24 (.mv (.t 26)),aO 27 (.ext (.t 24) 0),aO 28 (.ext (.t 24) 1),aO 6 (.alloc (List.replicate 256 (.i .u8 0))),aN (.storeN 256 (.t 6) (.t 27)),aO 7 (.mv (.t 28))]) (.seq [2,4] (.seq [2,4,35] (.ops [aO 29 (.mv (.t 7)),aO 30 (.bin .neq (.t 29) (.v (.c (.i .i64 0)))),aO 31 (.mv (.t 30)),aG 32 31 false (.loadN 256 (.t 6)),aG 33 31 false (.loadN 256 (.t 1)),aG 34 31 false (.eqA true (List.replicate 256 (.i .u8)) (.t 32) (.t 33)),aO 35 (.pick (.t 31) (.v (.c (.b true))) (.t 34))]) (.cond (.t 35) (.seq [2,3] (.ops [aO 36 (.build ([.i .i64 0] ++ List.replicate 32 (.i .i64 0)) []),aN (.storeN 33 (.t 2) (.t 36)),aO 3 (.mv (.v (.c (.i .i64 14))))]) .ret) .skip)) (.seq [2,4] (.seq [2,4,8] (.ops [aO 37 (.loadN 33 (.t 4)),aO 38 (.call 87 [(.t 37)]),aO 8 (.mv (.t 38))]) (.block 2 (.loop [2,4,8] B59))) B6a))
def A_index_Get:AFn:=⟨.seq [1,2] (.ops [aO 1 (.box (.t 0)),aO 2 (.alloc ([.i .i64 0] ++ List.replicate 32 (.i .i64 0))),aO 3 (.mv (.v (.c (.i .i64 0))))]) (.seq [1,2,4] (.ops [aO 9 (.loadN 256 (.t 1)),aO 10 (.call 47 [(.t 9),(.v (.c (.i .i64 4))),(.v (.c (.i .i64 1)))]),aO 11 (.build ([.i .i64 0] ++ List.replicate 32 (.i .i64 0)) [(0,1,(.t 10))]),aO 4 (.alloc ([.i .i64 0] ++ List.replicate 32 (.i .i64 0))),aN (.storeN 33 (.t 4) (.t 11))]) (.seq [1,2,4] (.seq [1,2,4,12] (.ops [aO 12 (.mv (.v (.c (.i .i64 0))))]) (.block 0 (.loop [1,2,4,12] B57))) B58)),[.cellN 2 33,.tmp 3]⟩
def A1H:A9:=B0 47 M0 (B0 43 A1T (B0 87 A1U C0))
def C6o (n:Nat):B3 (Val × A0):=E3 [1,2,4] (ax A1H n B58) A_index_Get.fin
def C6p (n:Nat):B3 (Val × A0):=D7 0 (C6o n)
def A7F (n m:Nat) (x1 x2 x4 x12:Val) (h:A0):A6:=D1 (ax A1H n B57) [1,2,4,12] (C6p n) m [(1,x1),(2,x2),(4,x4),(12,x12)] h
def A6c (n:Nat) (args:List Val) (h:A0):A6:=ax A1H n A_index_Get.code A_index_Get.fin (params 0 args) h
def C6q (n:Nat):B3 (Val × A0):=E3 [2,4] (ax A1H n B6a) A_index_Get.fin
def C6r (n:Nat):B3 (Val × A0):=D7 2 (C6q n)
def A7G (n m:Nat) (x2 x4 x8:Val) (h:A0):A6:=D1 (ax A1H n B59) [2,4,8] (C6r n) m [(2,x2),(4,x4),(8,x8)] h
theorem C0A (n:Nat) (a0:Val) (h:A0):A6c n [a0] h=bnd (cells? a0) fun c1=>bnd (A3 ((h ++ [some (Row.mk (c1) true)]) ++ [some (Row.mk ([.i .i64 0] ++ List.replicate 32 (.i .i64 0)) true)]) 256 (.c (.p h.length 0))) fun v2=>bnd (M0 [v2,.c (.i .i64 4),.c (.i .i64 1)] ((h ++ [some (Row.mk (c1) true)]) ++ [some (Row.mk ([.i .i64 0] ++ List.replicate 32 (.i .i64 0)) true)])) fun p3=>bnd (A7 ([.i .i64 0] ++ List.replicate 32 (.i .i64 0)) [(0,1,p3.1)]) fun c4=>bnd (A8 (p3.2 ++ [some (Row.mk ([.i .i64 0] ++ List.replicate 32 (.i .i64 0)) true)]) 33 (.c (.p p3.2.length 0)) (.a c4)) fun h5=>A7F n n (.c (.p h.length 0)) (.c (.p (h ++ [some (Row.mk (c1) true)]).length 0)) (.c (.p p3.2.length 0)) (.c (.i .i64 0)) h5:=by kernel_rfl
theorem B6b (n m:Nat) (x1 x2 x4 x12:Val) (h:A0):A7F n (m + 1) x1 x2 x4 x12 h=bnd (A2 .lss x12 (.c (.i .i64 32))) fun v6=>cnd v6 (bnd (A3 h 256 x1) fun v7=>bnd (A2 .mul (.c (.i .i64 2)) x12) fun v8=>bnd (A2 .add (.c (.i .i64 32)) v8) fun v9=>bnd (M0 [v7,v9,.c (.i .i64 2)] h) fun p10=>bnd (B4 x4 1) fun v11=>bnd (D6 32 1 v11 x12) fun v12=>bnd (E4 p10.2 v12 p10.1) fun h13=>bnd (A2 .add x12 (.c (.i .i64 1))) fun v14=>A7F n m x1 x2 x4 v14 h13) (bnd (A3 h 33 x4) fun v15=>bnd (A1T [v15] h) fun p16=>bnd (C3 p16.1 0) fun v17=>bnd (C3 p16.1 1) fun v18=>bnd (A8 (p16.2 ++ [some (Row.mk (List.replicate 256 (.i .u8 0)) true)]) 256 (.c (.p p16.2.length 0)) v17) fun h19=>bnd (A2 .neq v18 (.c (.i .i64 0))) fun v20=>bnd (gd v20 false (bnd (A3 h19 256 (.c (.p p16.2.length 0))) fun v21=>some (v21,h19)) (some (.no,h19))) fun p22=>bnd (gd v20 false (bnd (A3 p22.2 256 x1) fun v23=>some (v23,p22.2)) (some (.no,p22.2))) fun p24=>bnd (gd v20 false (bnd (aeq true (List.replicate 256 (.i .u8)) p22.1 p24.1) fun v25=>some (v25,p24.2)) (some (.no,p24.2))) fun p26=>bnd (D3 v20 (.c (.b true)) p26.1) fun v27=>cnd v27 (bnd (A7 ([.i .i64 0] ++ List.replicate 32 (.i .i64 0)) []) fun c28=>bnd (A8 p26.2 33 x2 (.a c28)) fun h29=>C7 [A3 h29 33 x2,some (.c (.i .i64 14))] h29) (bnd (A3 p26.2 33 x4) fun v30=>bnd (A1U [v30] p26.2) fun p31=>A7G n n x2 x4 p31.1 p31.2)):=by kernel_rfl
theorem B6c (n m:Nat) (x2 x4 x8:Val) (h:A0):A7G n (m + 1) x2 x4 x8 h=bnd (A2 .lss x8 (.c (.i .i64 32))) fun v32=>cnd v32 (bnd (B4 x4 1) fun v33=>bnd (D6 32 1 v33 x8) fun v34=>bnd (A4 h v34) fun v35=>bnd (A2 .neq v35 (.c (.i .i64 0))) fun v36=>cnd v36 (bnd (A7 ([.i .i64 0] ++ List.replicate 32 (.i .i64 0)) []) fun c37=>bnd (A8 h 33 x2 (.a c37)) fun h38=>C7 [A3 h38 33 x2,some (.c (.i .i64 14))] h38) (bnd (A2 .add x8 (.c (.i .i64 1))) fun v39=>A7G n m x2 x4 v39 h)) (bnd (A3 h 33 x4) fun v40=>bnd (A8 h 33 x2 v40) fun h41=>C7 [A3 h41 33 x2,some (.c (.i .i64 0))] h41):=by kernel_rfl
theorem K_index_Get:FnK Try.prog 83 A_index_Get A1H A6c:=.mk' (B1 A4x (B1 B3k (B1 B3l C2))) Try.func83 (by kernel_rfl) (fun _ _ _=>C1)
def A4m:Fun:=tidy (Lim A_index_Get A1H)
theorem C2o:SOk Try.prog 83 A4m:=K_index_Get.sok
theorem C2n:D5 A6c A4m:=K_index_Get.flat
def A_index_Place:AFn:=⟨.seq [1,2] (.ops [aO 2 (.box (.t 0)),aO 4 (.mv (.v (.c (.i .i64 0))))]) (.seq [4] (.ops [aO 5 (.mv (.t 1)),aO 6 (.loadN 33 (.t 2)),aO 7 (.call 72 [(.t 6)]),aO 8 (.call 84 [(.t 5),(.t 7)]),aO 4 (.mv (.t 8))]) .ret),[.tmp 4]⟩
def A9j:A9:=B0 72 A0G (B0 84 A4t C0)
def A6d (n:Nat) (args:List Val) (h:A0):A6:=ax A9j n A_index_Place.code A_index_Place.fin (params 0 args) h
theorem C0B (n:Nat) (a0 a1:Val) (h:A0):A6d n [a0,a1] h=bnd (cells? a0) fun c1=>bnd (A3 (h ++ [some (Row.mk (c1) true)]) 33 (.c (.p h.length 0))) fun v2=>bnd (A0G [v2] (h ++ [some (Row.mk (c1) true)])) fun p3=>bnd (A4t [a1,p3.1] p3.2) fun p4=>some (p4.1,p4.2):=by kernel_rfl
theorem K_index_Place:FnK Try.prog 55 A_index_Place A9j A6d:=.mk' (B1 A98 (B1 C2J C2)) Try.func55 (by kernel_rfl) (fun _ _ _=>C1)
def A4n:Fun:=tidy (Lim A_index_Place A9j)
theorem C2q:SOk Try.prog 55 A4n:=K_index_Place.sok
theorem C2p:D5 A6d A4n:=K_index_Place.flat
def B6h:ACode:=.seq [1,2,6,7,8] (.ops [aO 8 (.bin .lss (.t 7) (.t 6))]) (.seq [1,2,6,7] (.cond (.t 8) .skip (.exit 0)) (.seq [1,2,6,7] (.block 1 (.seq [1,2,5,6,7] (.ops [aO 9 (.mv (.t 7)),aO 5 (.mv (.t 9))]) (.seq [1,2,6,7,18] (.draw 0 [aO 10 (.mv (.t 5)),aO 11 (.fAddr (.t 2) 1),aO 12 (.iAddrA 32 1 (.t 11) (.t 10)),aO 13 (.load1 (.t 12)),aO 14 (.mv (.t 1)),aO 15 (.fAddr (.t 2) 1),aO 16 (.iAddrA 32 1 (.t 15) (.t 14)),aO 17 (.load1 (.t 16))] [aO 18 (.bin .eql (.t 13) (.t 17))]) (.cond (.t 18) (.seq [4] (.ops [aO 4 (.mv (.v (.c (.b false))))]) .ret) .skip)))) (.ops [aO 19 (.bin .add (.t 7) (.v (.c (.i .i64 1)))),aO 7 (.mv (.t 19))])))
def B6i:ACode:=.seq [4] (.ops [aO 4 (.mv (.v (.c (.b true))))]) .ret
def A_index_first:AFn:=⟨.seq [1,2] (.ops [aO 2 (.box (.t 0)),aO 4 (.mv (.v (.c (.b false))))]) (.seq [] (.seq [1,2,6,7] (.ops [aO 6 (.mv (.t 1)),aO 7 (.mv (.v (.c (.i .i64 0))))]) (.block 0 (.loop [1,2,6,7] B6h))) B6i),[.tmp 4]⟩
def A3E:A9:=C0
def C6x (n:Nat):B3 (Val × A0):=E3 [] (ax A3E n B6i) A_index_first.fin
def C6y (n:Nat):B3 (Val × A0):=D7 0 (C6x n)
def A7I (n m:Nat) (x1 x2 x6 x7:Val) (h:A0):A6:=D1 (ax A3E n B6h) [1,2,6,7] (C6y n) m [(1,x1),(2,x2),(6,x6),(7,x7)] h
def A6g (n:Nat) (args:List Val) (h:A0):A6:=ax A3E n A_index_first.code A_index_first.fin (params 0 args) h
theorem C0F (n:Nat) (a0 a1:Val) (h:A0):A6g n [a0,a1] h=bnd (cells? a0) fun c1=>A7I n n a1 (.c (.p h.length 0)) a1 (.c (.i .i64 0)) (h ++ [some (Row.mk (c1) true)]):=by kernel_rfl
theorem B6j (n m:Nat) (x1 x2 x6 x7:Val) (h:A0):A7I n (m + 1) x1 x2 x6 x7 h=bnd (A2 .lss x7 x6) fun v2=>cnd v2 (bnd (B4 x2 1) fun v3=>bnd (D6 32 1 v3 x7) fun v4=>bnd (A4 h v4) fun v5=>bnd (B4 x2 1) fun v6=>bnd (D6 32 1 v6 x1) fun v7=>bnd (A4 h v7) fun v8=>bnd (A2 .eql v5 v8) fun v9=>cnd v9 (some ((.c (.b false)),(h ++ []))) (bnd (A2 .add x7 (.c (.i .i64 1))) fun v10=>A7I n m x1 x2 x6 v10 (h ++ []))) (some ((.c (.b true)),h)):=by kernel_rfl
theorem K_index_first:FnK Try.prog 88 A_index_first A3E A6g:=.mk' (C2) Try.func88 (by kernel_rfl) (fun _ _ _=>C1)
def A4p:Fun:=tidy (Lim A_index_first A3E)
theorem C2w:SOk Try.prog 88 A4p:=K_index_first.sok
theorem C2v:D5 A6g A4p:=K_index_first.flat
def B55:ACode:=.ops [aO 27 (.bin .add (.t 7) (.v (.c (.i .i64 1)))),aO 7 (.mv (.t 27))]
def B1h:ACode:=.seq [1,3,6,7,8] (.ops [aO 8 (.bin .lss (.t 7) (.t 6))]) (.seq [1,3,6,7] (.cond (.t 8) .skip (.exit 0)) (.seq [1,3,6,7] (.block 1 (.seq [1,3,4,6,7] (.ops [aO 9 (.mv (.t 7)),aO 4 (.mv (.t 9))]) (.seq [1,3,4,6,7,19] (.ops [aO 10 (.mv (.t 4)),aO 11 (.fAddr (.t 1) 1),aO 12 (.iAddrA 32 1 (.t 11) (.t 10)),aO 13 (.load1 (.t 12)),aO 14 (.bin .neq (.t 13) (.v (.c (.i .i64 0)))),aO 15 (.mv (.t 14)),aG 16 15 true (.loadN 33 (.t 1)),aG 17 15 true (.mv (.t 4)),aG 18 15 true (.call 88 [(.t 16),(.t 17)]),aO 19 (.pick (.t 15) (.t 18) (.v (.c (.b false))))]) (.cond (.t 19) (.ops [aO 20 (.mv (.t 3)),aO 21 (.mv (.t 4)),aO 22 (.fAddr (.t 1) 1),aO 23 (.iAddrA 32 1 (.t 22) (.t 21)),aO 24 (.load1 (.t 23)),aO 25 (.buildSl 1 1 ([.i .i64 0]) [(0,1,(.t 24))]),aO 26 (.app 1 (.t 20) (.t 25)),aO 3 (.mv (.t 26))]) .skip)))) B55))
def B54:ACode:=.seq [2] (.ops [aO 28 (.mv (.t 3)),aO 2 (.mv (.t 28))]) .ret
def A_index_Buckets:AFn:=⟨.seq [1] (.ops [aO 1 (.box (.t 0)),aO 2 (.nilrow 1)]) (.seq [1,3] (.ops [aO 3 (.nilrow 1)]) (.seq [3] (.seq [1,3,6,7] (.ops [aO 5 (.loadN 33 (.t 1)),aO 6 (.call 87 [(.t 5)]),aO 7 (.mv (.v (.c (.i .i64 0))))]) (.block 0 (.loop [1,3,6,7] B1h))) B54)),[.tmp 2]⟩
def A1G:A9:=B0 87 A1U (B0 88 A4p C0)
def C6l (n:Nat):B3 (Val × A0):=E3 [3] (ax A1G n B54) A_index_Buckets.fin
def B1k (n:Nat):B3 (Val × A0):=D7 0 (C6l n)
def A46 (n m:Nat) (x1 x3 x6 x7:Val) (h:A0):A6:=D1 (ax A1G n B1h) [1,3,6,7] (B1k n) m [(1,x1),(3,x3),(6,x6),(7,x7)] h
def A6b (n:Nat) (args:List Val) (h:A0):A6:=ax A1G n A_index_Buckets.code A_index_Buckets.fin (params 0 args) h
def C6m (n m:Nat):B3 (Val × A0):=T0 [1,3,6,7] (D1 (ax A1G n B1h) [1,3,6,7] (B1k n) m) (B1k n)
def B1i (n m:Nat) (x1 x3 x6 x7:Val) (h:A0):A6:=hold ((ax A1G n B55) (C6m n m) [(1,x1),(3,x3),(6,x6),(7,x7)] h)
theorem C0z (n:Nat) (a0:Val) (h:A0):A6b n [a0] h=bnd (cells? a0) fun c1=>bnd (A3 (((h ++ [some (Row.mk (c1) true)]) ++ [some (Row.mk ([]) true)]) ++ [some (Row.mk ([]) true)]) 33 (.c (.p h.length 0))) fun v2=>bnd (A1U [v2] (((h ++ [some (Row.mk (c1) true)]) ++ [some (Row.mk ([]) true)]) ++ [some (Row.mk ([]) true)])) fun p3=>A46 n n (.c (.p h.length 0)) (.c (.sl ((h ++ [some (Row.mk (c1) true)]) ++ [some (Row.mk ([]) true)]).length 0 0 1)) p3.1 (.c (.i .i64 0)) p3.2:=by kernel_rfl
theorem B56 (n m:Nat) (x1 x3 x6 x7:Val) (h:A0):A46 n (m + 1) x1 x3 x6 x7 h=bnd (A2 .lss x7 x6) fun v4=>cnd v4 (bnd (B4 x1 1) fun v5=>bnd (D6 32 1 v5 x7) fun v6=>bnd (A4 h v6) fun v7=>bnd (A2 .neq v7 (.c (.i .i64 0))) fun v8=>bnd (gd v8 true (bnd (A3 h 33 x1) fun v9=>some (v9,h)) (some (.no,h))) fun p10=>bnd (gd v8 true (some (x7,p10.2)) (some (.no,p10.2))) fun p11=>bnd (gd v8 true (bnd (A4p [p10.1,p11.1] p11.2) fun p12=>some (p12.1,p12.2)) (some (.no,p11.2))) fun p13=>bnd (D3 v8 p13.1 (.c (.b false))) fun v14=>cnd v14 (bnd (B4 x1 1) fun v15=>bnd (D6 32 1 v15 x7) fun v16=>bnd (A4 p13.2 v16) fun v17=>bnd (A7 ([.i .i64 0]) [(0,1,v17)]) fun c18=>bnd (F0 (p13.2 ++ [some (Row.mk (c18) true)]) 1 x3 (.c (.sl p13.2.length 0 1 1))) fun p19=>B1i n m x1 p19.1 x6 x7 p19.2) (B1i n m x1 x3 x6 x7 p13.2)) (some (x3,h)):=by kernel_rfl
theorem B1j (n m:Nat) (x1 x3 x6 x7:Val) (h:A0):B1i n m x1 x3 x6 x7 h=bnd (A2 .add x7 (.c (.i .i64 1))) fun v20=>A46 n m x1 x3 x6 v20 h:=by kernel_rfl
theorem K_index_Buckets:FnK Try.prog 61 A_index_Buckets A1G A6b:=.mk' (B1 B3l (B1 C2w C2)) Try.func61 (by kernel_rfl) (fun _ _ _=>C1)
def A4l:Fun:=tidy (Lim A_index_Buckets A1G)
theorem C2l:SOk Try.prog 61 A4l:=K_index_Buckets.sok
theorem C2m:V4 A6b A4l:=K_index_Buckets.out
end Go.Proofs.Yteckncopbicmcaa
end
noncomputable section
namespace Go.Proofs.Yteckncopbicmcaa
open Go Go.Esc
set_option maxRecDepth 100000
def A_fmap_Index:AFn:=⟨.seq [2,3,4] (.ops [aO 2 (.box (.t 0)),aO 3 (.box (.t 1)),aO 4 (.alloc ([.i .i64 0] ++ List.replicate 32 (.i .i64 0))),aO 5 (.mv (.v (.c (.b false))))]) (.seq [2,3,4] (.seq [2,3,4,19] (.ops [aO 8 (.fAddr (.t 3) 0),aO 9 (.load1 (.t 8)),aO 10 (.bin .neq (.t 9) (.v (.c (.i .i64 2)))),aO 11 (.mv (.t 10)),aG 12 11 false (.fAddr (.t 2) 0),aG 13 11 false (.loadN 3 (.t 12)),aG 14 11 false (.fAddr (.t 3) 4),aG 15 11 false (.iAddrA 6 1 (.t 14) (.v (.c (.i .i64 0)))),aG 16 11 false (.load1 (.t 15)),aG 17 11 false (.call 31 [(.t 13),(.t 16)]),aG 18 11 false (.un .not (.t 17)),aO 19 (.pick (.t 11) (.v (.c (.b true))) (.t 18))]) (.cond (.t 19) (.seq [4,5] (.ops [aO 20 (.build ([.i .i64 0] ++ List.replicate 32 (.i .i64 0)) []),aN (.storeN 33 (.t 4) (.t 20)),aO 5 (.mv (.v (.c (.b false))))]) .ret) .skip)) (.seq [4,6,7] (.ops [aO 22 (.loadN 4 (.t 2)),aO 23 (.fAddr (.t 3) 4),aO 24 (.iAddrA 6 1 (.t 23) (.v (.c (.i .i64 0)))),aO 25 (.load1 (.t 24)),aO 26 (.call 26 [(.t 22),(.t 25)]),aO 27 (.call 83 [(.t 26)]),aO 21 (.mv (.t 27)),aO 28 (.ext (.t 21) 0),aO 29 (.ext (.t 21) 1),aO 6 (.alloc ([.i .i64 0] ++ List.replicate 32 (.i .i64 0))),aN (.storeN 33 (.t 6) (.t 28)),aO 7 (.mv (.t 29))]) (.seq [4,5] (.ops [aO 30 (.loadN 33 (.t 6)),aO 31 (.mv (.t 7)),aO 32 (.bin .eql (.t 31) (.v (.c (.i .i64 0)))),aN (.storeN 33 (.t 4) (.t 30)),aO 5 (.mv (.t 32))]) .ret))),[.cellN 4 33,.tmp 5]⟩
def A89:A9:=B0 31 W3 (B0 26 S6 (B0 83 A4m C0))
def A50 (n:Nat) (args:List Val) (h:A0):A6:=ax A89 n A_fmap_Index.code A_fmap_Index.fin (params 0 args) h
theorem C0n (n:Nat) (a0 a1:Val) (h:A0):A50 n [a0,a1] h=bnd (cells? a0) fun c1=>bnd (cells? a1) fun c2=>bnd (B4 (.c (.p (h ++ [some (Row.mk (c1) true)]).length 0)) 0) fun v3=>bnd (A4 (((h ++ [some (Row.mk (c1) true)]) ++ [some (Row.mk (c2) true)]) ++ [some (Row.mk ([.i .i64 0] ++ List.replicate 32 (.i .i64 0)) true)]) v3) fun v4=>bnd (A2 .neq v4 (.c (.i .i64 2))) fun v5=>bnd (gd v5 false (bnd (B4 (.c (.p h.length 0)) 0) fun v6=>some (v6,(((h ++ [some (Row.mk (c1) true)]) ++ [some (Row.mk (c2) true)]) ++ [some (Row.mk ([.i .i64 0] ++ List.replicate 32 (.i .i64 0)) true)]))) (some (.no,(((h ++ [some (Row.mk (c1) true)]) ++ [some (Row.mk (c2) true)]) ++ [some (Row.mk ([.i .i64 0] ++ List.replicate 32 (.i .i64 0)) true)])))) fun p7=>bnd (gd v5 false (bnd (A3 p7.2 3 p7.1) fun v8=>some (v8,p7.2)) (some (.no,p7.2))) fun p9=>bnd (gd v5 false (bnd (B4 (.c (.p (h ++ [some (Row.mk (c1) true)]).length 0)) 4) fun v10=>some (v10,p9.2)) (some (.no,p9.2))) fun p11=>bnd (gd v5 false (bnd (D6 6 1 p11.1 (.c (.i .i64 0))) fun v12=>some (v12,p11.2)) (some (.no,p11.2))) fun p13=>bnd (gd v5 false (bnd (A4 p13.2 p13.1) fun v14=>some (v14,p13.2)) (some (.no,p13.2))) fun p15=>bnd (gd v5 false (bnd (W3 [p9.1,p15.1] p15.2) fun p16=>some (p16.1,p16.2)) (some (.no,p15.2))) fun p17=>bnd (gd v5 false (bnd (aun .not p17.1) fun v18=>some (v18,p17.2)) (some (.no,p17.2))) fun p19=>bnd (D3 v5 (.c (.b true)) p19.1) fun v20=>cnd v20 (bnd (A7 ([.i .i64 0] ++ List.replicate 32 (.i .i64 0)) []) fun c21=>bnd (A8 p19.2 33 (.c (.p ((h ++ [some (Row.mk (c1) true)]) ++ [some (Row.mk (c2) true)]).length 0)) (.a c21)) fun h22=>C7 [A3 h22 33 (.c (.p ((h ++ [some (Row.mk (c1) true)]) ++ [some (Row.mk (c2) true)]).length 0)),some (.c (.b false))] h22) (bnd (A3 p19.2 4 (.c (.p h.length 0))) fun v23=>bnd (B4 (.c (.p (h ++ [some (Row.mk (c1) true)]).length 0)) 4) fun v24=>bnd (D6 6 1 v24 (.c (.i .i64 0))) fun v25=>bnd (A4 p19.2 v25) fun v26=>bnd (S6 [v23,v26] p19.2) fun p27=>bnd (A4m [p27.1] p27.2) fun p28=>bnd (C3 p28.1 0) fun v29=>bnd (C3 p28.1 1) fun v30=>bnd (A8 (p28.2 ++ [some (Row.mk ([.i .i64 0] ++ List.replicate 32 (.i .i64 0)) true)]) 33 (.c (.p p28.2.length 0)) v29) fun h31=>bnd (A3 h31 33 (.c (.p p28.2.length 0))) fun v32=>bnd (A2 .eql v30 (.c (.i .i64 0))) fun v33=>bnd (A8 h31 33 (.c (.p ((h ++ [some (Row.mk (c1) true)]) ++ [some (Row.mk (c2) true)]).length 0)) v32) fun h34=>C7 [A3 h34 33 (.c (.p ((h ++ [some (Row.mk (c1) true)]) ++ [some (Row.mk (c2) true)]).length 0)),some v33] h34):=by kernel_rfl
theorem K_fmap_Index:FnK Try.prog 54 A_fmap_Index A89 A50:=.mk' (B1 A6R (B1 A21 (B1 C2o C2))) Try.func54 (by kernel_rfl) (fun _ _ _=>C1)
def A1R:Fun:=tidy (Lim A_fmap_Index A89)
theorem B3h:SOk Try.prog 54 A1R:=K_fmap_Index.sok
theorem C12:D5 A50 A1R:=K_fmap_Index.flat
def B5z:ACode:=.ops [aO 33 (.bin .add (.t 21) (.v (.c (.i .i64 1)))),aO 21 (.mv (.t 33))]
def B04:ACode:=.seq [2,7,19,20,21,22] (.ops [aO 22 (.bin .lss (.t 21) (.t 20))]) (.seq [2,7,19,20,21] (.cond (.t 22) .skip (.exit 0)) (.seq [2,7,19,20,21] (.block 1 (.seq [2,7,9,19,20,21] (.ops [aO 23 (.iAddrL 1 (.t 19) (.t 21)),aO 24 (.load1 (.t 23)),aO 9 (.mv (.t 24))]) (.seq [2,7,9,19,20,21,28] (.ops [aO 25 (.fAddr (.t 2) 0),aO 26 (.loadN 3 (.t 25)),aO 27 (.mv (.t 9)),aO 28 (.call 31 [(.t 26),(.t 27)])]) (.cond (.t 28) (.ops [aO 29 (.mv (.t 7)),aO 30 (.mv (.t 9)),aO 31 (.buildSl 1 1 ([.i .i64 0]) [(0,1,(.t 30))]),aO 32 (.app 1 (.t 29) (.t 31)),aO 7 (.mv (.t 32))]) .skip)))) B5z))
def B5y:ACode:=.seq [4] (.ops [aO 34 (.mv (.t 7)),aO 4 (.mv (.t 34))]) .ret
def A_fmap_Buckets:AFn:=⟨.seq [2,3] (.ops [aO 2 (.box (.t 0)),aO 3 (.box (.t 1)),aO 4 (.nilrow 1)]) (.seq [2,5,6] (.ops [aO 11 (.loadN 4 (.t 2)),aO 12 (.loadN 11 (.t 3)),aO 13 (.call 54 [(.t 11),(.t 12)]),aO 10 (.mv (.t 13)),aO 14 (.ext (.t 10) 0),aO 15 (.ext (.t 10) 1),aO 5 (.alloc ([.i .i64 0] ++ List.replicate 32 (.i .i64 0))),aN (.storeN 33 (.t 5) (.t 14)),aO 6 (.mv (.t 15))]) (.seq [2,5] (.seq [2,5,17] (.ops [aO 16 (.mv (.t 6)),aO 17 (.un .not (.t 16))]) (.cond (.t 17) (.seq [4] (.ops [aO 4 (.nilrow 1)]) .ret) .skip)) (.seq [2,5,7] (.ops [aO 7 (.nilrow 1)]) (.seq [7] (.seq [2,7,19,20,21] (.ops [aO 18 (.loadN 33 (.t 5)),aO 19 (.call 61 [(.t 18)]),aO 20 (.len (.t 19)),aO 21 (.mv (.v (.c (.i .i64 0))))]) (.block 0 (.loop [2,7,19,20,21] B04))) B5y)))),[.tmp 4]⟩
def A1E:A9:=B0 54 A1R (B0 61 A4l (B0 31 W3 C0))
def C5Z (n:Nat):B3 (Val × A0):=E3 [7] (ax A1E n B5y) A_fmap_Buckets.fin
def B06 (n:Nat):B3 (Val × A0):=D7 0 (C5Z n)
def A7z (n m:Nat) (x2 x7 x19 x20 x21:Val) (h:A0):A6:=D1 (ax A1E n B04) [2,7,19,20,21] (B06 n) m [(2,x2),(7,x7),(19,x19),(20,x20),(21,x21)] h
def A5Z (n:Nat) (args:List Val) (h:A0):A6:=ax A1E n A_fmap_Buckets.code A_fmap_Buckets.fin (params 0 args) h
def C50 (n m:Nat):B3 (Val × A0):=T0 [2,7,19,20,21] (D1 (ax A1E n B04) [2,7,19,20,21] (B06 n) m) (B06 n)
def B05 (n m:Nat) (x2 x7 x19 x20 x21:Val) (h:A0):A6:=hold ((ax A1E n B5z) (C50 n m) [(2,x2),(7,x7),(19,x19),(20,x20),(21,x21)] h)
theorem C0m (n:Nat) (a0 a1:Val) (h:A0):A5Z n [a0,a1] h=bnd (cells? a0) fun c1=>bnd (cells? a1) fun c2=>bnd (A3 (((h ++ [some (Row.mk (c1) true)]) ++ [some (Row.mk (c2) true)]) ++ [some (Row.mk ([]) true)]) 4 (.c (.p h.length 0))) fun v3=>bnd (A3 (((h ++ [some (Row.mk (c1) true)]) ++ [some (Row.mk (c2) true)]) ++ [some (Row.mk ([]) true)]) 11 (.c (.p (h ++ [some (Row.mk (c1) true)]).length 0))) fun v4=>bnd (A1R [v3,v4] (((h ++ [some (Row.mk (c1) true)]) ++ [some (Row.mk (c2) true)]) ++ [some (Row.mk ([]) true)])) fun p5=>bnd (C3 p5.1 0) fun v6=>bnd (C3 p5.1 1) fun v7=>bnd (A8 (p5.2 ++ [some (Row.mk ([.i .i64 0] ++ List.replicate 32 (.i .i64 0)) true)]) 33 (.c (.p p5.2.length 0)) v6) fun h8=>bnd (aun .not v7) fun v9=>cnd v9 (some ((.c (.sl h8.length 0 0 1)),(h8 ++ [some (Row.mk ([]) true)]))) (bnd (A3 (h8 ++ [some (Row.mk ([]) true)]) 33 (.c (.p p5.2.length 0))) fun v10=>bnd (A4l [v10] (h8 ++ [some (Row.mk ([]) true)])) fun p11=>bnd (E8 p11.1) fun v12=>A7z n n (.c (.p h.length 0)) (.c (.sl h8.length 0 0 1)) p11.1 v12 (.c (.i .i64 0)) p11.2):=by kernel_rfl
theorem B5B (n m:Nat) (x2 x7 x19 x20 x21:Val) (h:A0):A7z n (m + 1) x2 x7 x19 x20 x21 h=bnd (A2 .lss x21 x20) fun v13=>cnd v13 (bnd (B9 1 x19 x21) fun v14=>bnd (A4 h v14) fun v15=>bnd (B4 x2 0) fun v16=>bnd (A3 h 3 v16) fun v17=>bnd (W3 [v17,v15] h) fun p18=>cnd p18.1 (bnd (A7 ([.i .i64 0]) [(0,1,v15)]) fun c19=>bnd (F0 (p18.2 ++ [some (Row.mk (c19) true)]) 1 x7 (.c (.sl p18.2.length 0 1 1))) fun p20=>B05 n m x2 p20.1 x19 x20 x21 p20.2) (B05 n m x2 x7 x19 x20 x21 p18.2)) (some (x7,h)):=by kernel_rfl
theorem B5A (n m:Nat) (x2 x7 x19 x20 x21:Val) (h:A0):B05 n m x2 x7 x19 x20 x21 h=bnd (A2 .add x21 (.c (.i .i64 1))) fun v21=>A7z n m x2 x7 x19 x20 v21 h:=by kernel_rfl
theorem K_fmap_Buckets:FnK Try.prog 33 A_fmap_Buckets A1E A5Z:=.mk' (B1 B3h (B1 C2l (B1 A6R C2))) Try.func33 (by kernel_rfl) (fun _ _ _=>C1)
def A4d:Fun:=tidy (Lim A_fmap_Buckets A1E)
theorem C10:SOk Try.prog 33 A4d:=K_fmap_Buckets.sok
theorem C11:V4 A5Z A4d:=K_fmap_Buckets.out
def B5x:ACode:=.seq [7] (.seq [7,43] (.ops [aO 39 (.fAddr (.t 3) 0),aO 40 (.loadN 3 (.t 39)),aO 41 (.mv (.t 7)),aO 42 (.call 31 [(.t 40),(.t 41)]),aO 43 (.un .not (.t 42))]) (.cond (.t 43) (.seq [6] (.ops [aO 6 (.mv (.v (.c (.i .i64 0))))]) .ret) .skip)) (.seq [6] (.ops [aO 44 (.mv (.t 7)),aO 6 (.mv (.t 44))]) .ret)
def A_fmap_At:AFn:=⟨.seq [2,3,4] (.ops [aO 3 (.box (.t 0)),aO 4 (.box (.t 1)),aO 6 (.mv (.v (.c (.i .i64 0))))]) (.seq [2,3,4] (.seq [2,3,4,18] (.ops [aO 8 (.fAddr (.t 4) 0),aO 9 (.load1 (.t 8)),aO 10 (.bin .neq (.t 9) (.v (.c (.i .i64 1)))),aO 11 (.mv (.t 10)),aG 12 11 false (.mv (.t 2)),aG 13 11 false (.bin .lss (.t 12) (.v (.c (.i .i64 0)))),aO 14 (.pick (.t 11) (.v (.c (.b true))) (.t 13)),aO 15 (.mv (.t 14)),aG 16 15 false (.mv (.t 2)),aG 17 15 false (.bin .geq (.t 16) (.v (.c (.i .i64 134)))),aO 18 (.pick (.t 15) (.v (.c (.b true))) (.t 17))]) (.cond (.t 18) (.seq [6] (.ops [aO 6 (.mv (.v (.c (.i .i64 0))))]) .ret) .skip)) (.seq [2,3,4,7] (.ops [aO 7 (.mv (.v (.c (.i .i64 0))))]) (.seq [3,7] (.block 0 (.seq [2,3,4,7,19] (.ops [aO 20 (.mv (.t 2)),aO 21 (.bin .lss (.t 20) (.v (.c (.i .i64 6)))),aO 19 (.mv (.t 21))]) (.cond (.t 19) (.ops [aO 22 (.mv (.t 2)),aO 23 (.fAddr (.t 4) 4),aO 24 (.iAddrA 6 1 (.t 23) (.t 22)),aO 25 (.load1 (.t 24)),aO 7 (.mv (.t 25))]) (.seq [2,3,4,7,26] (.ops [aO 27 (.fAddr (.t 3) 0),aO 28 (.loadN 3 (.t 27)),aO 29 (.fAddr (.t 4) 10),aO 30 (.load1 (.t 29)),aO 31 (.call 31 [(.t 28),(.t 30)]),aO 26 (.mv (.t 31))]) (.cond (.t 26) (.ops [aO 32 (.loadN 4 (.t 3)),aO 33 (.fAddr (.t 4) 10),aO 34 (.load1 (.t 33)),aO 35 (.call 26 [(.t 32),(.t 34)]),aO 36 (.mv (.t 2)),aO 37 (.bin .sub (.t 36) (.v (.c (.i .i64 6)))),aO 38 (.call 99 [(.t 35),(.t 37)]),aO 7 (.mv (.t 38))]) .skip))))) B5x))),[.tmp 6]⟩
def A5I:A9:=B0 31 W3 (B0 26 S6 (B0 99 A4C C0))
def A40 (n:Nat) (x3 x7:Val) (h:A0):A6:=hold ((ax A5I n B5x) A_fmap_At.fin [(3,x3),(7,x7)] h)
def A5Y (n:Nat) (args:List Val) (h:A0):A6:=ax A5I n A_fmap_At.code A_fmap_At.fin (params 0 args) h
theorem C0l (n:Nat) (a0 a1 a2:Val) (h:A0):A5Y n [a0,a1,a2] h=bnd (cells? a0) fun c1=>bnd (cells? a1) fun c2=>bnd (B4 (.c (.p (h ++ [some (Row.mk (c1) true)]).length 0)) 0) fun v3=>bnd (A4 ((h ++ [some (Row.mk (c1) true)]) ++ [some (Row.mk (c2) true)]) v3) fun v4=>bnd (A2 .neq v4 (.c (.i .i64 1))) fun v5=>bnd (gd v5 false (some (a2,((h ++ [some (Row.mk (c1) true)]) ++ [some (Row.mk (c2) true)]))) (some (.no,((h ++ [some (Row.mk (c1) true)]) ++ [some (Row.mk (c2) true)])))) fun p6=>bnd (gd v5 false (bnd (A2 .lss p6.1 (.c (.i .i64 0))) fun v7=>some (v7,p6.2)) (some (.no,p6.2))) fun p8=>bnd (D3 v5 (.c (.b true)) p8.1) fun v9=>bnd (gd v9 false (some (a2,p8.2)) (some (.no,p8.2))) fun p10=>bnd (gd v9 false (bnd (A2 .geq p10.1 (.c (.i .i64 134))) fun v11=>some (v11,p10.2)) (some (.no,p10.2))) fun p12=>bnd (D3 v9 (.c (.b true)) p12.1) fun v13=>cnd v13 (some ((.c (.i .i64 0)),p12.2)) (bnd (A2 .lss a2 (.c (.i .i64 6))) fun v14=>cnd v14 (bnd (B4 (.c (.p (h ++ [some (Row.mk (c1) true)]).length 0)) 4) fun v15=>bnd (D6 6 1 v15 a2) fun v16=>bnd (A4 p12.2 v16) fun v17=>A40 n (.c (.p h.length 0)) v17 p12.2) (bnd (B4 (.c (.p h.length 0)) 0) fun v18=>bnd (A3 p12.2 3 v18) fun v19=>bnd (B4 (.c (.p (h ++ [some (Row.mk (c1) true)]).length 0)) 10) fun v20=>bnd (A4 p12.2 v20) fun v21=>bnd (W3 [v19,v21] p12.2) fun p22=>cnd p22.1 (bnd (A3 p22.2 4 (.c (.p h.length 0))) fun v23=>bnd (B4 (.c (.p (h ++ [some (Row.mk (c1) true)]).length 0)) 10) fun v24=>bnd (A4 p22.2 v24) fun v25=>bnd (S6 [v23,v25] p22.2) fun p26=>bnd (A2 .sub a2 (.c (.i .i64 6))) fun v27=>bnd (A4C [p26.1,v27] p26.2) fun p28=>A40 n (.c (.p h.length 0)) p28.1 p28.2) (A40 n (.c (.p h.length 0)) (.c (.i .i64 0)) p22.2))):=by kernel_rfl
theorem C5W (n:Nat) (x3 x7:Val) (h:A0):A40 n x3 x7 h=bnd (B4 x3 0) fun v29=>bnd (A3 h 3 v29) fun v30=>bnd (W3 [v30,x7] h) fun p31=>bnd (aun .not p31.1) fun v32=>cnd v32 (some ((.c (.i .i64 0)),p31.2)) (some (x7,p31.2)):=by kernel_rfl
theorem K_fmap_At:FnK Try.prog 97 A_fmap_At A5I A5Y:=.mk' (B1 A6R (B1 A21 (B1 C3b C2))) Try.func97 (by kernel_rfl) (fun _ _ _=>C1)
def A4c:Fun:=tidy (Lim A_fmap_At A5I)
theorem C1Z:SOk Try.prog 97 A4c:=K_fmap_At.sok
theorem C1Y:D5 A5Y A4c:=K_fmap_At.flat
end Go.Proofs.Yteckncopbicmcaa
end
section
namespace Go.Proofs.Yteckncopbicmcaa
open Go Go.Esc
def A3s (D:Dev) (n:Int) (d:List Int) (j:Nat):Int :=
  if j < 6 then d.getD j 0 else bif P9 D.length n (d.getD 6 0) then ptP (blk D (d.getD 6 0)) (j - 6) else 0
def R2 (D:Dev) (n:Int) (d:List Int) (j:Nat):Int:=bif P9 D.length n (A3s D n d j) then A3s D n d j else 0
def atF (D:Dev) (n k:Int) (d:List Int) (j:Int):Int:=if k=1 ∧ 0 ≤ j ∧ j < 134 then R2 D n d j.toNat else 0
theorem C5X {D:Dev} {n m no:Int} {f:Cell} {q:Nat} {g:A0} {r:Option Row}:A40 q (.c (.p g.length 0)) (.c (.i .i64 no)) (g ++ [some (Row.mk (vwC D.length n m f) true),r])=some (.c (.i .i64 (bif P9 D.length n no then no else 0)),g ++ [some (Row.mk (vwC D.length n m f) true),r]):=by
  have l3:=A3x (b:=D.length) (n:=n) (m:=m) (f:=f)
  have hI:=fun h=>A42 (b:=D.length) (n:=n) (m:=m) (i:=no) (h:=h)
  rw [C5W]
  generalize vwC D.length n m f=V at *
  cases c:P9 D.length n no with
  | false =>
    simp only [c] at hI
    simp only [esc,esh,Nat.reduceAdd,Nat.reduceMul,Nat.reduceLT,l3,hI]
  | true =>
    simp only [c] at hI
    simp only [esc,esh,Nat.reduceAdd,Nat.reduceMul,Nat.reduceLT,l3,hI]
theorem C5V {D:Dev} {n m k l s p j:Int} {d:List Int} {f:Cell} {h:A0} (hD:okD D) (hd:d.length=7) (hv:IsView h f D) :
    A4c [.a (vwC D.length n m f),.a (A5 k l s p d),.c (.i .i64 j)] h=some (.c (.i .i64 (atF D n k d j)),h):=by
  have key:∀ g,IsView g f D → ∃ g',A5Y 0 [.a (vwC D.length n m f),.a (A5 k l s p d),.c (.i .i64 j)] g=some (.c (.i .i64 (atF D n k d j)),g'):=by
    intro g hv
    have l3:=A3x (b:=D.length) (n:=n) (m:=m) (f:=f)
    have l4:=A2P (b:=D.length) (n:=n) (m:=m) (f:=f)
    have i0:(A5 k l s p d)[0]? = some (.i .i64 k):=rfl
    have i10:(A5 k l s p d)[10]? = some (.i .i64 (d.getD 6 0)):=by
      have:(A5 k l s p d)[10]? = (encI d)[6]? := rfl
      rw [this,T9,List.getElem?_eq_getElem (by omega),List.getD_eq_getElem?_getD,List.getElem?_eq_getElem (by omega)];rfl
    have hJ:=fun no=>C5X (D:=D) (n:=n) (m:=m) (no:=no) (f:=f) (q:=0) (g:=g) (r:=some (Row.mk (A5 k l s p d) true))
    rw [C0l]
    by_cases c1:k=1
    · by_cases c2:j < 0
      · have e:atF D n k d j=0:=by unfold atF;rw [if_neg (by omega)]
        rw [e]
        generalize vwC D.length n m f=V at *
        generalize A5 k l s p d=I at *
        exact ⟨_,by simp only [esc,esh,Nat.reduceAdd,Nat.reduceMul,Nat.reduceLT,eq_self,i0,c1,c2] <;> rfl⟩
      · by_cases c3:134 ≤ j
        · have e:atF D n k d j=0:=by unfold atF;rw [if_neg (by omega)]
          rw [e]
          generalize vwC D.length n m f=V at *
          generalize A5 k l s p d=I at *
          exact ⟨_,by simp only [esc,esh,Nat.reduceAdd,Nat.reduceMul,Nat.reduceLT,eq_self,i0,c1,c2,c3] <;> rfl⟩
        · obtain ⟨i,rfl⟩:∃ i:Nat,j=i:=⟨j.toNat,by omega⟩
          have e:atF D n k d i=R2 D n d i:=by unfold atF;rw [if_pos (by omega),Int.toNat_natCast]
          rw [e]
          unfold R2
          by_cases c4:(i:Int) < 6
          · have er:A3s D n d i=d.getD i 0:=by unfold A3s;rw [if_pos (by omega)]
            have ia:(A5 k l s p d)[4 + i]? = some (.i .i64 (d.getD i 0)):=by
              have:(A5 k l s p d)[4 + i]? = (encI d)[i]? := by
                rw [Nat.add_comm];rfl
              rw [this,T9,List.getElem?_eq_getElem (by omega),List.getD_eq_getElem?_getD,List.getElem?_eq_getElem (by omega)];rfl
            have ad:=S9 (k:=.i64) (id:=g.length + 1) (off:=4) (sz:=1) (j:=i) (n:=6) (by omega)
            rw [Nat.mul_one] at ad
            rw [er]
            generalize vwC D.length n m f=V at *
            generalize A5 k l s p d=I at *
            exact ⟨_,by simp only [esc,esh,Nat.reduceAdd,Nat.reduceMul,Nat.reduceLT,eq_self,i0,c1,c2,c3,c4,ad,ia,hJ] <;> rfl⟩
          · have er:A3s D n d i=bif P9 D.length n (d.getD 6 0) then ptP (blk D (d.getD 6 0)) (i - 6) else 0:=by unfold A3s;rw [if_neg (by omega)]
            have hI:=fun h=>A42 (b:=D.length) (n:=n) (m:=m) (i:=d.getD 6 0) (h:=h)
            rw [er]
            cases c5:P9 D.length n (d.getD 6 0) with
            | false =>
              simp only [c5] at hI
              generalize vwC D.length n m f=V at *
              generalize A5 k l s p d=I at *
              exact ⟨_,by simp only [esc,esh,Nat.reduceAdd,Nat.reduceMul,Nat.reduceLT,eq_self,i0,i10,c1,c2,c3,c4,l3,hI,hJ] <;> rfl⟩
            | true =>
              simp only [c5] at hI
              have hB:=A3w (n:=n) (m:=m) (no:=d.getD 6 0) (h:=g ++ [some (Row.mk (vwC D.length n m f) true),some (Row.mk (A5 k l s p d) true)]) hD (hv.more _)
              have w:IntKind.wrap .i64 ((i:Int) - 6)=((i - 6:Nat):Int):=by rw [wrap_i64 (by omega) (by omega)];omega
              have hP:=fun h=>C8d (b:=blk D (d.getD 6 0)) (k:=i - 6) (h:=h) (A0R hD) (by omega)
              generalize vwC D.length n m f=V at *
              generalize A5 k l s p d=I at *
              exact ⟨_,by simp only [esc,esh,Nat.reduceAdd,Nat.reduceMul,Nat.reduceLT,eq_self,i0,i10,c1,c2,c3,c4,l3,l4,hI,hB,w,hP,hJ] <;> rfl⟩
    · have e:atF D n k d j=0:=by unfold atF;rw [if_neg (by omega)]
      rw [e]
      generalize vwC D.length n m f=V at *
      generalize A5 k l s p d=I at *
      exact ⟨_,by simp only [esc,esh,Nat.reduceAdd,Nat.reduceMul,Nat.reduceLT,eq_self,i0,c1] <;> rfl⟩
  obtain ⟨g',e⟩:=key (ro h) hv.ro
  exact C1Y e rfl
end Go.Proofs.Yteckncopbicmcaa
end
section
namespace Go.Proofs.Yteckncopbicmcaa
open Go Go.Esc
theorem A5n {h:A0} {id n sz:Nat} {cs ys:List Cell} (hr:rd h id=some ⟨cs,true⟩) (hl:cs.length=n * sz) (hy:ys.length=sz) (hsz:0 < sz) (hn:n + 1 ≤ 1073741824) :
    ∃ h',F0 (h ++ [some ⟨ys,true⟩]) sz (.c (.sl id 0 n sz)) (.c (.sl h.length 0 1 sz))=some (.c (.sl (h.length + 1) 0 (n + 1) sz),h') ∧ rd h' (h.length + 1)=some ⟨cs ++ ys,true⟩ ∧ (∀ i r,i ≠ id → rd h i=some r → rd h' i=some r) ∧ (∀ b,b ≤ id → b ≤ h.length → Low b h h'):=by
  have hlt:=B7 hr
  refine ⟨(h ++ [some (Row.mk ys true)]).set id none ++ [some (Row.mk (cs ++ ys) true)],?_,?_,fun i r hi hir=>?_,fun b hb hb2=>(((Low.refl hb2).new _).set hb none).new _⟩
  · rw [A0Q (h:=h ++ [some ⟨ys,true⟩]) (m:=1) (B6 hr) hl F1 (by omega) rfl hsz hn]
    simp
  · have:=F1 (h:=(h ++ [some (Row.mk ys true)]).set id none) (r:=Row.mk (cs ++ ys) true)
    rw [List.length_set] at this
    simpa using this
  · refine B6 ?_
    rw [D2 (Ne.symm hi)]
    exact B6 hir
def B9X (h:A0) (x:Cell) (l:List Int) (b:Nat) (rs:List Nat):Prop:=(l=[] ∧ x=.ns) ∨ ∃ id,x=.sl id 0 l.length 1 ∧ rd h id=some ⟨encI l,true⟩ ∧ b ≤ id ∧ id ∉ rs
def VarI (h:A0) (r:Nat) (l:List Int) (b:Nat) (rs:List Nat):Prop:=∃ x,rd h r=some ⟨[x],true⟩ ∧ B9X h x l b rs
theorem VarI.nil {h:A0} {r b:Nat} {rs:List Nat} (hr:rd h r=some ⟨[.ns],true⟩):VarI h r [] b rs:=⟨.ns,hr,.inl ⟨rfl,rfl⟩⟩
theorem VarI.keep {h h':A0} {r b:Nat} {l:List Int} {rs:List Nat} (hv:VarI h r l b rs) (h1:rd h' r=rd h r) (h2:∀ id,id ∉ rs → ∀ x,rd h id=some x → rd h' id=some x):VarI h' r l b rs:=by
  obtain ⟨x,hx,hd⟩:=hv
  refine ⟨x,by rw [h1];exact hx,?_⟩
  rcases hd with hd | ⟨id,e,hr,hb,hn⟩
  · exact .inl hd
  · exact .inr ⟨id,e,h2 id hn _ hr,hb,hn⟩
theorem VarI.more {h:A0} {r b:Nat} {l:List Int} {rs:List Nat} (hv:VarI h r l b rs) (t:A0):VarI (h ++ t) r l b rs:=by
  obtain ⟨x,hx,hd⟩:=hv
  refine ⟨x,B6 hx,?_⟩
  rcases hd with hd | ⟨id,e,hr,hb,hn⟩
  · exact .inl hd
  · exact .inr ⟨id,e,B6 hr,hb,hn⟩
theorem B0p {h:A0} {jd m sz:Nat} {ys:List Cell} (hy:rd h jd=some ⟨ys,true⟩) (hyl:ys.length=m * sz) (hsz:0 < sz) (hn:m ≤ 1073741824) :
    F0 h sz (.c .ns) (.c (.sl jd 0 m sz))=some (.c (.sl h.length 0 m sz),h ++ [some ⟨ys,true⟩]):=by
  have h2:M1 h sz (.c (.sl jd 0 m sz))=some ys:=by
    simp only [M1,if_true,W1,hy,Option.bind_some,List.drop_zero,Nat.zero_add]
    rw [← hyl,List.take_length,if_pos ⟨Nat.le_refl _,rfl⟩]
  have e1:ys.length / sz=m:=by rw [hyl];exact Nat.mul_div_cancel _ hsz
  simp only [F0,h2,Option.bind_some]
  rw [e1,if_pos hn]
theorem VarI.push {h:A0} {r b:Nat} {l:List Int} {rs:List Nat} (hv:VarI h r l b rs) (hr:r ∈ rs) (hbr:b ≤ r) (hbh:b ≤ h.length) (hlt:∀ j ∈ rs,j < h.length) (hl:l.length ≤ 100000) (n:Int) :
    ∃ x v h2 h3,A4 h (.c (.p r 0))=some (.c x) ∧ F0 (h ++ [some ⟨[.i .i64 n],true⟩]) 1 (.c x) (.c (.sl h.length 0 1 1))=some (.c v,h2) ∧ E4 h2 (.c (.p r 0)) (.c v)=some h3 ∧
      VarI h3 r (l ++ [n]) b rs ∧ Low b h h3 ∧ (∀ j ∈ rs,j ≠ r → rd h3 j=rd h j) ∧ h.length ≤ h3.length:=by
  obtain ⟨x,hx,hd⟩:=hv
  have hrl:=B7 hx
  have l1:A4 h (.c (.p r 0))=some (.c x):=F4 hx rfl (by simp)
  rcases hd with ⟨rfl,rfl⟩ | ⟨id,rfl,hi,hb,hn⟩
  · have hA:=B0p (h:=h ++ [some ⟨[.i .i64 n],true⟩]) (jd:=h.length) (m:=1) (sz:=1) (ys:=[.i .i64 n]) (by simp) rfl (by omega) (by omega)
    have e1:(h ++ [some (Row.mk [.i .i64 n] true)]).length=h.length + 1:=by simp
    rw [e1] at hA
    have hr2:rd (h ++ [some (Row.mk [.i .i64 n] true)] ++ [some (Row.mk [.i .i64 n] true)]) r=some ⟨[.ns],true⟩:=B6 (B6 hx)
    have s1:=T4 (x:=.sl (h.length + 1) 0 1 1) (off:=0) hr2 (by simp)
    refine ⟨.ns,_,_,_,l1,hA,s1,⟨.sl (h.length + 1) 0 1 1,G8 (B7 hr2),.inr ⟨h.length + 1,rfl,?_,by omega,fun h1=>by have:=hlt _ h1;omega⟩⟩,(((Low.refl hbh).new _).new _).set hbr _,fun j hj hjr=>?_,by simp⟩
    · rw [D2 (by omega)]
      have:=F1 (h:=h ++ [some (Row.mk [.i .i64 n] true)]) (r:=⟨[.i .i64 n],true⟩)
      rw [e1] at this
      exact this
    · rw [D2 (Ne.symm hjr)]
      have:=hlt j hj
      rw [H6 (by simp;omega),H6 this]
  · have hil:=B7 hi
    have hne:id ≠ r:=fun e=>hn (e ▸ hr)
    have hA:=A0Q (h:=h ++ [some ⟨[.i .i64 n],true⟩]) (id:=id) (jd:=h.length) (n:=l.length) (m:=1) (sz:=1) (cs:=encI l) (ys:=[.i .i64 n]) (rw:=true) (B6 hi) (by rw [H0,Nat.mul_one]) (by simp) rfl rfl (by omega) (by omega)
    have e1:(h ++ [some (Row.mk [.i .i64 n] true)]).length=h.length + 1:=by simp
    rw [e1] at hA
    have ee:encI l ++ [Cell.i .i64 n]=encI (l ++ [n]):=by rw [A7q];rfl
    rw [ee] at hA
    have hr2:rd ((h ++ [some (Row.mk [.i .i64 n] true)]).set id none ++ [some (Row.mk (encI (l ++ [n])) true)]) r=some ⟨[.sl id 0 l.length 1],true⟩:=by
      refine B6 ?_
      rw [D2 hne];exact B6 hx
    have s1:=T4 (x:=.sl (h.length + 1) 0 (l.length + 1) 1) (off:=0) hr2 (by simp)
    refine ⟨_,_,_,_,l1,hA,s1,⟨.sl (h.length + 1) 0 (l.length + 1) 1,G8 (B7 hr2),.inr ⟨h.length + 1,by simp,?_,by omega,fun h1=>by have:=hlt _ h1;omega⟩⟩,((((Low.refl hbh).new _).set hb _).new _).set hbr _,fun j hj hjr=>?_,by simp;omega⟩
    · rw [D2 (by omega)]
      have:=F1 (h:=(h ++ [some (Row.mk [.i .i64 n] true)]).set id none) (r:=⟨encI (l ++ [n]),true⟩)
      rw [List.length_set,e1] at this
      exact this
    · have hji:j ≠ id:=fun e=>hn (e ▸ hj)
      have:=hlt j hj
      rw [D2 (Ne.symm hjr),H6 (by simp;omega),D2 (Ne.symm hji),H6 this]
end Go.Proofs.Yteckncopbicmcaa
end
section
namespace Go.Proofs.Yteckncopbicmcaa
open Go Go.Esc
def R3 (d:Int):Nat:=(max 0 (min d 5)).toNat
theorem A7j (d:Int):R3 d ≤ 5:=by unfold R3;omega
theorem C42 {d:Int} (h0:0 ≤ d) (h5:d ≤ 5):((R3 d:Nat):Int)=d:=by unfold R3;omega
theorem C41 (d:Int):(max 0 (min d 5))=((R3 d:Nat):Int):=by unfold R3;omega
def J0 (d:Int):Nat:=2 ^ R3 d
theorem B79 {n:Nat} (h:n ≤ 5):2 ^ n ≤ 32:=by
  have:=Nat.pow_le_pow_right (n:=2) (by omega) h
  simpa using this
theorem A5e (d:Int):J0 d ≤ 32:=B79 (A7j d)
theorem A2S:[Cell.i .i64 0] ++ List.replicate 32 (Cell.i .i64 0)=encI (0 :: zI 32):=by
  simp [encI,zI]
def toX (t:List Int) (i:Nat):Int:=t.getD i 0
theorem C91 {t:List Int} {i:Nat} (h:i < t.length):t[i]? = some (toX t i):=by
  unfold toX;rw [List.getD_eq_getElem?_getD,List.getElem?_eq_getElem h];rfl
def A2u (n:Int):Bool:=decide (0 ≤ n) && decide (n ≤ 65535)
theorem C6v {n:Int} {h:A0}:A4o [.c (.i .i64 n)] h=some (.c (.b (A2u n)),h):=by
  refine C2t (n:=0) (h2:=ro h) ?_ rfl
  rw [C0E]
  unfold A2u
  by_cases c:0 ≤ n
  · simp only [esc,c,Bool.true_and]
  · simp only [esc,c,Bool.false_and]
theorem R5 {d:Int} {t:List Int} (ht:t.length=32):(encI (d :: t)).length=33:=by rw [H0];simp [ht]
theorem C5y {d:Int} {t:List Int} {i:Nat} (ht:t.length=32) (hi:i < 32):(encI (d :: t))[1 + i]? = some (.i .i64 (toX t i)):=by
  rw [T9,Nat.add_comm 1 i,List.getElem?_cons_succ,C91 (by omega)];rfl
theorem C5z {d:Int} {t:List Int} {i:Nat} {v:Int}:(encI (d :: t)).set (1 + i) (.i .i64 v)=encI (d :: t.set i v):=by
  rw [A7r,Nat.add_comm 1 i,List.set_cons_succ]
theorem ldX {h:A0} {id:Nat} {d:Int} {t:List Int} {rw:Bool} (hr:rd h id=some ⟨encI (d :: t),rw⟩) (ht:t.length=32) {i:Nat} (hi:i < 32):A4 h (.c (.p id (1 + i)))=some (.c (.i .i64 (toX t i))) :=
  F4 hr (C5y ht hi) (by simp [Cell.isX])
theorem adX {id i:Nat} (hi:i < 32):D6 32 1 (.c (.p id (0 + 1))) (.c (.i .i64 (i:Int)))=some (.c (.p id (1 + i))):=by rw [S9 hi];simp
theorem B1l {d:Int} {t:List Int} {h:A0}:A0G [.a (encI (d :: t))] h=some (.c (.i .i64 (R3 d:Nat)),h):=by
  have key:∀ g,∃ g',A6f 0 [.a (encI (d :: t))] g=some (.c (.i .i64 (R3 d:Nat)),g'):=by
    intro g
    have e1:T7 (.c (.i .i64 d)) (.c (.i .i64 5))=some (.c (.i .i64 (min d 5))):=by
      simp only [T7]
      by_cases h:(5:Int) < d
      · rw [if_pos h,Int.min_eq_right (by omega)]
      · rw [if_neg h,Int.min_eq_left (by omega)]
    have e2:A0l (.c (.i .i64 0)) (.c (.i .i64 (min d 5)))=some (.c (.i .i64 (R3 d:Nat))):=by
      rw [← C41]
      simp only [A0l]
      by_cases h:(min d 5:Int) > 0
      · rw [if_pos h,Int.max_eq_right (by omega)]
      · rw [if_neg h,Int.max_eq_left (by omega)]
    have e3:A4 (g ++ [some (Row.mk (encI (d :: t)) true)]) (.c (.p g.length 0))=some (.c (.i .i64 d)):=F4 (F1) rfl rfl
    rw [C0D]
    generalize hz:encI (d :: t)=z at *
    exact ⟨_,by simp only [esc,e3,e1,e2] <;> rfl⟩
  obtain ⟨g',e⟩:=key (ro h)
  exact C2s e rfl
theorem C9m {k:Nat} (hk:k ≤ 5):A2 .shl (.c (.i .i64 1)) (.c (.i .u64 (k:Int)))=some (.c (.i .i64 ((2 ^ k:Nat):Int))):=by
  rw [B0c (by omega)]
  have h1:Nat.min (k:Int).toNat (IntKind.i64).bits=k:=by
    have:(IntKind.i64).bits=64:=rfl
    rw [this,Int.toNat_natCast];exact Nat.min_eq_left (by omega)
  have h2:=B79 hk
  rw [h1,Int.one_mul]
  have e:(2:Int) ^ k=((2 ^ k:Nat):Int):=by simp
  rw [e]
  generalize 2 ^ k=y at h2 ⊢
  rw [wrap_i64 (by omega) (by omega)]
theorem B9T {k:Nat} (hk:k ≤ 64):IntKind.wrap .u64 (k:Int)=(k:Int):=wrap_u64 (by omega) (by omega)
theorem B6k {d:Int} {t:List Int} {h:A0} (ht:t.length=32):A1U [.a (encI (d :: t))] h=some (.c (.i .i64 (J0 d:Nat)),h):=by
  have key:∀ g,∃ g',A6h 0 [.a (encI (d :: t))] g=some (.c (.i .i64 (J0 d:Nat)),g'):=by
    intro g
    have hl:=R5 (d:=d) ht
    have hd:=fun h=>B1l (d:=d) (t:=t) (h:=h)
    have e1:=C9m (A7j d)
    have e2:=B9T (k:=R3 d) (by have:=A7j d;omega)
    rw [C0G]
    unfold J0
    generalize encI (d :: t)=z at *
    exact ⟨_,by simp only [esc,esh,Nat.reduceAdd,Nat.reduceMul,Nat.reduceLT,hl,hd,e1,e2] <;> rfl⟩
  obtain ⟨g',e⟩:=key (ro h)
  exact C2x e rfl
def A0r (t:List Int) (i:Nat):Bool:=(List.range i).all fun k=>!decide (toX t k=toX t i)
theorem B5t {d:Int} {t:List Int} {g:A0} {i q:Nat} (ht:t.length=32) (hi:i < 32):∀ e k m:Nat,k + e=i → e < m →
    A7I q m (.c (.i .i64 (i:Int))) (.c (.p g.length 0)) (.c (.i .i64 (i:Int))) (.c (.i .i64 (k:Int))) (g ++ [some ⟨encI (d :: t),true⟩]) =
      some (.c (.b ((List.range' k e).all fun k=>!decide (toX t k=toX t i))),g ++ [some ⟨encI (d :: t),true⟩])
  | e,k,0,_,hm=>by omega
  | 0,k,m + 1,hk,hm=>by
    have c0:¬ (k:Int) < i:=by omega
    rw [B6j]
    simp only [esc,c0,List.range'_zero]
  | e + 1,k,m + 1,hk,hm=>by
    have ih:=B5t (d:=d) (g:=g) (q:=q) ht hi e (k + 1) m (by omega) (by omega)
    have c0:(k:Int) < i:=by omega
    have a1:=adX (id:=g.length) (i:=k) (by omega)
    have a2:=adX (id:=g.length) (i:=i) (by omega)
    have l1:=ldX (h:=g ++ [some (Row.mk (encI (d :: t)) true)]) (id:=g.length) F1 ht (i:=k) (by omega)
    have l2:=ldX (h:=g ++ [some (Row.mk (encI (d :: t)) true)]) (id:=g.length) F1 ht (i:=i) (by omega)
    rw [B6j,List.range'_succ,List.all_cons]
    by_cases c:toX t k=toX t i
    · rw [decide_eq_true c,Bool.not_true,Bool.false_and]
      rw [c] at l1
      simp only [esc,c0,a1,a2,l1,l2]
    · rw [decide_eq_false c,Bool.not_false,Bool.true_and]
      simp only [esc,c0,a1,a2,l1,l2,c,E2 (show k + 1 < 9223372036854775808 by omega)]
      exact ih
theorem C6w {d:Int} {t:List Int} {i:Nat} {h:A0} (ht:t.length=32) (hi:i < 32):A4p [.a (encI (d :: t)),.c (.i .i64 (i:Int))] h=some (.c (.b (A0r t i)),h):=by
  have key:∀ N,i < N → ∀ g,∃ g',A6g N [.a (encI (d :: t)),.c (.i .i64 (i:Int))] g=some (.c (.b (A0r t i)),g'):=by
    intro N hN g
    have e:=B5t (d:=d) (g:=g) (q:=N) ht hi i 0 N (by omega) hN
    rw [C0F]
    unfold A0r
    rw [List.range_eq_range']
    exact ⟨_,by simp only [esc];exact e⟩
  obtain ⟨g',e⟩:=key (i + 1) (by omega) (ro h)
  exact C2v e rfl
end Go.Proofs.Yteckncopbicmcaa
end
section
namespace Go.Proofs.Yteckncopbicmcaa
open Go Go.Esc
def M6 (d:List Int):List UInt8:=(d.map (B8 2)).flatten
theorem A78 {d:List Int}:(M6 d).length=2 * d.length:=by
  induction d with
  | nil=>rfl
  | cons x d ih=>simp only [M6,List.map_cons,List.flatten_cons,List.length_append,A2l,List.length_cons] at ih ⊢;omega
theorem C7w {d:List Int} {x:Int}:M6 (d ++ [x])=M6 d ++ B8 2 x:=by simp [M6]
def magX:List UInt8:=[105,100,120,33]
def R9 (d:Int):List UInt8:=magX ++ B8 1 d ++ zeros 27
theorem A7E {d:Int}:(R9 d).length=32:=by simp [R9,magX]
def R7 (d:Int) (t:List Int):List UInt8:=C9 256 (R9 d ++ M6 t)
theorem B1g {d:Int} {t:List Int} (ht:t.length=32):(R7 d t).length=256:=J5 (by rw [List.length_append,A7E,A78];omega)
theorem C71 {n k:Nat} {l:List UInt8} (h:l.length + k ≤ n):C9 n (l ++ zeros k)=C9 n l:=by
  unfold C9 zeros
  rw [List.append_assoc,List.replicate_append_replicate,List.length_append,List.length_replicate]
  congr 2;omega
def okX (d:Int) (t:List Int):Bool:=decide (0 ≤ d) && (decide (d ≤ 5) && t.all A2u)
theorem B6F {d:Int} {t:List Int} {g:A0} {y:List Cell} {q:Nat} (ht:t.length=32) (hyl:y.length=33):∀ e i m:Nat,i + e=32 → e < m →
    ∃ h',A7H q m (.c (.p (g.length + 1) 0)) (.c (.p (g.length + 3) 0)) (.a (encI t)) (.c (.i .i64 (i:Int))) (g ++ [some (Row.mk y true),some (Row.mk (A1 (zeros 256)) true),some (Row.mk (A1 magX) true),some (Row.mk (A1 (C9 256 (R9 d ++ M6 (t.take i)))) true)]) =
      some (.t [.a (A1 (bif (t.drop i).all A2u then R7 d t else zeros 256)),.c (.i .i64 (bif (t.drop i).all A2u then 0 else 1))],h')
  | e,i,0,_,hm=>by omega
  | 0,i,m + 1,hi,hm=>by
    have e0:i=32:=by omega
    subst e0
    have c0:¬ ((32:Nat):Int) < 32:=by omega
    have hz:(A1 (zeros 256)).length=256:=by rw [B5];exact zeros_length
    have hB:(A1 (R7 d t)).length=256:=by rw [B5];exact B1g ht
    have eB:C9 256 (R9 d ++ M6 t)=R7 d t:=rfl
    rw [B6g,List.take_of_length_le (by omega),List.drop_of_length_le (by omega),List.all_nil,cond_true,cond_true,eB]
    generalize R7 d t=B at *
    generalize A1 magX=mg at *
    generalize zeros 256=z at *
    exact ⟨_,by simp only [esc,esh,Nat.reduceAdd,Nat.reduceMul,Nat.reduceLT,c0,hz,hB] <;> rfl⟩
  | e + 1,i,m + 1,hi,hm=>by
    obtain ⟨h',ih⟩:=B6F (d:=d) (g:=g) (q:=q) ht hyl e (i + 1) m (by omega) (by omega)
    have c0:(i:Int) < 32:=by omega
    have hz:(A1 (zeros 256)).length=256:=by rw [B5];exact zeros_length
    have haf:A7 (List.replicate 256 (Cell.i .u8 0)) []=some (List.replicate 256 (Cell.i .u8 0)):=rfl
    rw [L9] at haf
    have hx:V6 32 (.a (encI t)) (.c (.i .i64 (i:Int)))=some (.c (.i .i64 t[i])):=by
      rw [A7D (by omega),T9,List.getElem?_eq_getElem (by omega)];rfl
    have hF:=fun h=>C6v (n:=t[i]) (h:=h)
    have hnl:(R9 d ++ M6 (t.take i)).length=32 + 2 * i:=by rw [List.length_append,A7E,A78,List.length_take];omega
    have hP0:(C9 256 (R9 d ++ M6 (t.take i))).length=256:=J5 (by omega)
    have hp:(A1 (C9 256 (R9 d ++ M6 (t.take i)))).length=256:=by rw [B5,hP0]
    have hW:=fun h=>A0v (h:=h) (l:=C9 256 (R9 d ++ M6 (t.take i))) hP0 (a:=((32 + 2 * i:Nat):Int)) (w:=2) (v:=t[i])
    have ew:=A0B (l:=R9 d ++ M6 (t.take i)) (a:=32 + 2 * i) (w:=2) (v:=t[i]) (by omega) (by omega) (by omega) (by omega)
    rw [hnl,Nat.sub_self,show zeros 0=[] from rfl,List.append_nil,List.append_assoc,← C7w,← List.take_succ_eq_append_getElem (by omega)] at ew
    rw [show ((2:Nat):Int)=2 from rfl] at ew
    rw [ew] at hW
    have hp2:(A1 (C9 256 (R9 d ++ M6 (t.take (i + 1))))).length=256:=by rw [B5,J5 (by rw [List.length_append,A7E,A78,List.length_take];omega)]
    have w1:IntKind.wrap .i64 (2 * (i:Int))=((2 * i:Nat):Int):=by rw [wrap_i64 (by omega) (by omega)];omega
    have w2:IntKind.wrap .i64 (32 + ((2 * i:Nat):Int))=((32 + 2 * i:Nat):Int):=by rw [wrap_i64 (by omega) (by omega)];omega
    rw [B6g,L9,List.drop_eq_getElem_cons (by omega:i < t.length),List.all_cons]
    generalize C9 256 (R9 d ++ M6 (t.take (i + 1)))=P1 at *
    generalize C9 256 (R9 d ++ M6 (t.take i))=P0 at *
    generalize R7 d t=B at *
    generalize A1 magX=mg at *
    generalize zeros 256=z at *
    cases c:A2u t[i] with
    | false =>
      rw [c] at hF
      rw [Bool.false_and,cond_false,cond_false]
      exact ⟨_,by simp only [esc,esh,Nat.reduceAdd,Nat.reduceMul,Nat.reduceLT,c0,hx,hF,haf,hz] <;> rfl⟩
    | true =>
      rw [c] at hF
      rw [Bool.true_and]
      refine ⟨h',?_⟩
      simp only [esc,esh,Nat.reduceAdd,Nat.reduceMul,Nat.reduceLT,c0,hx,hF,hp,w1,w2,hW,hp2,E2 (show i + 1 < 9223372036854775808 by omega)]
      exact ih
theorem B6f {d:Int} {t:List Int} {h:A0} (ht:t.length=32):A1T [.a (encI (d :: t))] h=some (.t [.a (A1 (bif okX d t then R7 d t else zeros 256)),.c (.i .i64 (bif okX d t then 0 else 1))],h):=by
  have key:∀ N,32 < N → ∀ g,∃ g',A6e N [.a (encI (d :: t))] g=some (.t [.a (A1 (bif okX d t then R7 d t else zeros 256)),.c (.i .i64 (bif okX d t then 0 else 1))],g'):=by
    intro N hN g
    have hB:=R5 (d:=d) ht
    have hz:(A1 (zeros 256)).length=256:=by rw [B5];exact zeros_length
    have hD:=fun h=>B1l (d:=d) (t:=t) (h:=h)
    have l0:(encI (d :: t))[0]? = some (.i .i64 d):=rfl
    have haf:A7 (List.replicate 256 (Cell.i .u8 0)) []=some (List.replicate 256 (Cell.i .u8 0)):=rfl
    rw [L9] at haf
    rw [C0C,L9]
    unfold okX
    by_cases c:0 ≤ d ∧ d ≤ 5
    · rw [decide_eq_true c.1,decide_eq_true c.2,Bool.true_and,Bool.true_and]
      have hd:=C42 c.1 c.2
      rw [hd] at hD
      have ef:A7 [Cell.i .u8 0,.i .u8 0,.i .u8 0,.i .u8 0] [(0,1,.c (.i .u8 105)),(1,1,.c (.i .u8 100)),(2,1,.c (.i .u8 120)),(3,1,.c (.i .u8 33))]=some (A1 magX):=rfl
      have hO:=A8f (data:=magX) (v:=.c (.sl (g.length + 2) 0 4 1)) (nv:=4) (h:=g ++ [some (Row.mk (encI (d :: t)) true),some (Row.mk (A1 (zeros 256)) true),some (Row.mk (A1 magX) true),none]) (Has.row (rw:=true) (by simp) rfl (Q3 _)) (by decide)
      rw [A8j (by decide)] at hO
      have hM:U5 (g ++ [some (Row.mk (encI (d :: t)) true),some (Row.mk (A1 (zeros 256)) true),some (Row.mk (A1 magX) true),none]) (.c (.sl (g.length + 2) 0 4 1))=some (.c (.sl (g.length + 2) 0 4 1)):=by simp [U5]
      have hW:=fun h=>A0v (h:=h) (l:=C9 256 magX) (J5 (by decide)) (a:=4) (w:=1) (v:=d)
      have ew:=A0B (l:=magX) (a:=4) (w:=1) (v:=d) (by decide) (by omega) (by omega) (by omega)
      have e5:magX ++ zeros (4 - magX.length) ++ B8 1 d=magX ++ B8 1 d:=rfl
      have e6:C9 256 (magX ++ B8 1 d)=C9 256 (R9 d ++ M6 (t.take 0)):=by
        rw [List.take_zero,show M6 []=[] from rfl,List.append_nil]
        exact (C71 (by simp [magX])).symm
      rw [e5,e6] at ew
      rw [show ((4:Nat):Int)=4 from rfl,show ((1:Nat):Int)=1 from rfl] at ew
      rw [ew] at hW
      have hp2:(A1 (C9 256 (R9 d ++ M6 (t.take 0)))).length=256:=by rw [B5,J5 (by rw [List.length_append,A7E,A78,List.length_take];omega)]
      have e7:A3 (g ++ [some (Row.mk (encI (d :: t)) true),some (Row.mk (A1 (zeros 256)) true),some (Row.mk (A1 magX) true),some (Row.mk (A1 (C9 256 (R9 d ++ M6 (t.take 0)))) true)]) 32 (.c (.p g.length 1))=some (.a (encI t)):=by
        rw [W5]
        simp only [List.getElem?_cons_zero,Option.join_some,ldN,Option.bind_some]
        rw [if_pos ⟨by rw [hB];omega,rfl⟩]
        have:(encI (d :: t)).drop 1=encI t:=rfl
        rw [this,List.take_of_length_le (by rw [H0];omega)]
      obtain ⟨h',e⟩:=B6F (d:=d) (t:=t) (g:=g) (q:=N) ht hB 32 0 N (by omega) hN
      rw [List.drop_zero] at e
      generalize C9 256 (R9 d ++ M6 (t.take 0))=P1 at *
      generalize C9 256 magX=P2 at *
      generalize R7 d t=B at *
      generalize A1 magX=mg at *
      generalize zeros 256=z at *
      generalize encI (d :: t)=y at *
      refine ⟨h',?_⟩
      simp only [esc,esh,Nat.reduceAdd,Nat.reduceMul,Nat.reduceLT,hB,hz,l0,hD,ef,hM,hO,hW,hp2,e7,show g.length + 2 + 1=g.length + 3 from rfl]
      exact e
    · have cd:¬ d=((R3 d:Nat):Int):=by unfold R3;omega
      have ec:(decide (0 ≤ d) && (decide (d ≤ 5) && t.all A2u))=false:=by
        by_cases c1:0 ≤ d
        · rw [decide_eq_false (show ¬ d ≤ 5 by omega)];simp
        · rw [decide_eq_false c1];rfl
      rw [ec,cond_false,cond_false]
      generalize zeros 256=z at *
      generalize encI (d :: t)=y at *
      exact ⟨_,by simp only [esc,esh,Nat.reduceAdd,Nat.reduceMul,Nat.reduceLT,hB,hz,l0,hD,cd,haf] <;> rfl⟩
  obtain ⟨g',e⟩:=key (h.length + 33) (by omega) (ro h)
  refine C2r e ?_
  cases okX d t <;> simp
def getD (b:List UInt8):Int:=fieldN b 4 1
def B5w (b:List UInt8) (i:Nat):Int:=fieldN b (32 + 2 * i) 2
def E9 (b:List UInt8) (n:Nat):List Int:=(List.range n).map (B5w b) ++ zI (32 - n)
theorem B1c {b:List UInt8} {n:Nat} (hn:n ≤ 32):(E9 b n).length=32:=by simp [E9,zI];omega
theorem C6c {b:List UInt8} {k:Nat} (hk:k < 32):E9 b (k + 1)=(E9 b k).set k (B5w b k):=by
  unfold E9
  have e:zI (32 - k)=0 :: zI (32 - (k + 1)):=by
    unfold zI
    rw [show 32 - k=(32 - (k + 1)) + 1 by omega,List.replicate_succ]
  rw [e,List.set_append_right _ _ (by simp),List.range_succ,List.map_append,List.append_assoc]
  simp
theorem B4e {b:List UInt8} {a w:Nat} (h:a + w ≤ 256) (hw:1 ≤ w) (hw4:w ≤ 4):((atN b (a:Int) w:Nat):Int)=fieldN b a w:=by
  unfold atN fieldN
  rw [if_pos ⟨by omega,A0e.2 (by omega)⟩]
  simp only [Int.toNat_natCast]
def A1v (t:List Int) (n e:Nat):Bool:=(List.range' n e).all fun i=>decide (toX t i=0)
def X2 (b:List UInt8):Bool:=okX (getD b) (E9 b 32) && (decide (R7 (getD b) (E9 b 32)=b) && A1v (E9 b 32) (J0 (getD b)) (32 - J0 (getD b)))
theorem B5X {b:List UInt8} {d:Int} {t:List Int} {ix iz q:Nat} {h:A0} (ht:t.length=32) (hx:rd h ix=some ⟨encI (d :: t),true⟩) (hz:rd h iz=some ⟨encI (0 :: zI 32),true⟩):∀ e i m:Nat,i + e=32 → e < m →
    ∃ h',A7G q m (.c (.p iz 0)) (.c (.p ix 0)) (.c (.i .i64 (i:Int))) h=some (.t [.a (encI (bif A1v t i e then d :: t else 0 :: zI 32)),.c (.i .i64 (bif A1v t i e then 0 else 14))],h')
  | e,i,0,_,hm=>by omega
  | 0,i,m + 1,hi,hm=>by
    have e0:i=32:=by omega
    subst e0
    have c0:¬ ((32:Nat):Int) < 32:=by omega
    have hX:=R5 (d:=d) ht
    have hZ:(encI (0 :: zI 32)).length=33:=R5 (d:=0) O8
    have s1:=F6 (h:=h) (id:=ix) hx hX
    have s2:=storeAll (h:=h) (id:=iz) (xs:=encI (d :: t)) hz hZ hX
    have s3:=F6 (h:=h.set iz (some ⟨encI (d :: t),true⟩)) (id:=iz) (G8 (B7 hz)) hX
    have er:A1v t 32 0=true:=rfl
    rw [B6c,er,cond_true,cond_true]
    generalize encI (d :: t)=y at *
    exact ⟨_,by simp only [esc,c0,s1,s2,s3] <;> rfl⟩
  | e + 1,i,m + 1,hi,hm=>by
    obtain ⟨h',ih⟩:=B5X (b:=b) (q:=q) ht hx hz e (i + 1) m (by omega) (by omega)
    have c0:(i:Int) < 32:=by omega
    have hZ:(encI (0 :: zI 32)).length=33:=R5 (d:=0) O8
    have a1:=adX (id:=ix) (i:=i) (by omega)
    have l1:=ldX (h:=h) (id:=ix) hx ht (i:=i) (by omega)
    have haf:A7 (encI (0 :: zI 32)) []=some (encI (0 :: zI 32)):=rfl
    have s2:=storeAll (h:=h) (id:=iz) (xs:=encI (0 :: zI 32)) hz hZ hZ
    have s3:=F6 (h:=h.set iz (some ⟨encI (0 :: zI 32),true⟩)) (id:=iz) (G8 (B7 hz)) hZ
    have er:A1v t i (e + 1)=(decide (toX t i=0) && A1v t (i + 1) e):=by unfold A1v;rw [List.range'_succ,List.all_cons]
    rw [B6c,er,A2S]
    by_cases c:toX t i=0
    · rw [decide_eq_true c,Bool.true_and]
      rw [c] at l1
      generalize encI (0 :: zI 32)=z at *
      exact ⟨h',by simp only [esc,c0,a1,l1,E2 (show i + 1 < 9223372036854775808 by omega)];exact ih⟩
    · rw [decide_eq_false c,Bool.false_and,cond_false,cond_false]
      generalize encI (0 :: zI 32)=z at *
      exact ⟨_,by simp only [esc,c0,a1,l1,c,haf,s2,s3] <;> rfl⟩
theorem B5W {b:List UInt8} {g:A0} {q:Nat} (hb:b.length=256) (hq:32 < q):∀ e i m:Nat,i + e=32 → e < m →
    ∃ h',A7F q m (.c (.p g.length 0)) (.c (.p (g.length + 1) 0)) (.c (.p (g.length + 2) 0)) (.c (.i .i64 (i:Int))) (g ++ [some (Row.mk (A1 b) true),some (Row.mk (encI (0 :: zI 32)) true),some (Row.mk (encI (getD b :: E9 b i)) true)]) =
      some (.t [.a (encI (bif X2 b then getD b :: E9 b 32 else 0 :: zI 32)),.c (.i .i64 (bif X2 b then 0 else 14))],h')
  | e,i,0,_,hm=>by omega
  | 0,i,m + 1,hi,hm=>by
    have e0:i=32:=by omega
    subst e0
    have c0:¬ ((32:Nat):Int) < 32:=by omega
    have hB:(A1 b).length=256:=by rw [B5,hb]
    have ht:=B1c (b:=b) (n:=32) (Nat.le_refl _)
    have hX:=R5 (d:=getD b) ht
    have hZ:(encI (0 :: zI 32)).length=33:=R5 (d:=0) O8
    have hz0:(List.replicate 256 (Cell.i .u8 0)).length=256:=List.length_replicate
    have hP:=fun h=>B6f (d:=getD b) (t:=E9 b 32) (h:=h) ht
    have hM:=fun h=>B6k (d:=getD b) (h:=h) ht
    have hm32:=A5e (getD b)
    have haf:A7 (encI (0 :: zI 32)) []=some (encI (0 :: zI 32)):=rfl
    unfold X2
    rw [B6b,A2S]
    cases co:okX (getD b) (E9 b 32) with
    | false =>
      rw [co] at hP
      simp only [cond_false] at hP
      have hzz:(A1 (zeros 256)).length=256:=by rw [B5];exact zeros_length
      rw [Bool.false_and,cond_false,cond_false]
      generalize encI (0 :: zI 32)=z at *
      generalize encI (getD b :: E9 b 32)=y at *
      generalize List.replicate 256 (Cell.i .u8 0)=zz at *
      generalize zeros 256=zzz at *
      exact ⟨_,by simp only [esc,esh,Nat.reduceAdd,Nat.reduceMul,Nat.reduceLT,c0,hX,hP,hz0,hzz,haf,hZ,show decide ((1:Int)=0)=false from rfl] <;> rfl⟩
    | true =>
      rw [co] at hP
      simp only [cond_true] at hP
      rw [Bool.true_and]
      have hil:=B1g (d:=getD b) ht
      have hI:(A1 (R7 (getD b) (E9 b 32))).length=256:=by rw [B5,hil]
      have hE:=A6Y (n:=256) hil hb
      by_cases ce:R7 (getD b) (E9 b 32)=b
      · rw [decide_eq_true ce,Bool.true_and]
        rw [decide_eq_true ce] at hE
        obtain ⟨h',e⟩:=B5X (b:=b) (d:=getD b) (t:=E9 b 32) (ix:=g.length + 2) (iz:=g.length + 1) (q:=q) (h:=g ++ [some (Row.mk (A1 b) true),some (Row.mk (encI (0 :: zI 32)) true),some (Row.mk (encI (getD b :: E9 b 32)) true),some (Row.mk (A1 (R7 (getD b) (E9 b 32))) true)]) ht (by simp) (by simp) (32 - J0 (getD b)) (J0 (getD b)) q (by omega) (by omega)
        refine ⟨h',?_⟩
        generalize A1v (E9 b 32) (J0 (getD b)) (32 - J0 (getD b))=R at *
        generalize R7 (getD b) (E9 b 32)=I at *
        generalize getD b :: E9 b 32=Y at *
        generalize encI (0 :: zI 32)=z at *
        generalize List.replicate 256 (Cell.i .u8 0)=zz at *
        simp only [esc,esh,Nat.reduceAdd,Nat.reduceMul,Nat.reduceLT,c0,hX,hP,hz0,hI,hB,hE,hM]
        exact e
      · rw [decide_eq_false ce,Bool.false_and,cond_false,cond_false]
        rw [decide_eq_false ce] at hE
        generalize R7 (getD b) (E9 b 32)=I at *
        generalize encI (0 :: zI 32)=z at *
        generalize encI (getD b :: E9 b 32)=y at *
        generalize List.replicate 256 (Cell.i .u8 0)=zz at *
        exact ⟨_,by simp only [esc,esh,Nat.reduceAdd,Nat.reduceMul,Nat.reduceLT,c0,hX,hP,hz0,hI,hB,hE,haf,hZ] <;> rfl⟩
  | e + 1,i,m + 1,hi,hm=>by
    obtain ⟨h',ih⟩:=B5W (g:=g) (q:=q) hb hq e (i + 1) m (by omega) (by omega)
    have c0:(i:Int) < 32:=by omega
    have hB:(A1 b).length=256:=by rw [B5,hb]
    have ht:=B1c (b:=b) (n:=i) (by omega)
    have hX:=R5 (d:=getD b) ht
    have hA:=fun h=>A0Y (h:=h) hb (a:=((32 + 2 * i:Nat):Int)) (w:=2)
    have ea:=B4e (b:=b) (a:=32 + 2 * i) (w:=2) (by omega) (by omega) (by omega)
    rw [show ((2:Nat):Int)=2 from rfl] at ea
    rw [ea] at hA
    have w1:IntKind.wrap .i64 (2 * (i:Int))=((2 * i:Nat):Int):=by rw [wrap_i64 (by omega) (by omega)];omega
    have w2:IntKind.wrap .i64 (32 + ((2 * i:Nat):Int))=((32 + 2 * i:Nat):Int):=by rw [wrap_i64 (by omega) (by omega)];omega
    have a1:=adX (id:=g.length + 2) (i:=i) (by omega)
    have hs:(encI (getD b :: E9 b i)).set (1 + i) (.i .i64 (fieldN b (32 + 2 * i) 2))=encI (getD b :: E9 b (i + 1)):=by rw [C5z,C6c (by omega)];rfl
    have hlt:1 + i < (encI (getD b :: E9 b i)).length:=by rw [hX];omega
    rw [B6b]
    generalize X2 b=G at *
    generalize getD b :: E9 b 32=Y at *
    generalize encI (getD b :: E9 b (i + 1))=y1 at *
    generalize encI (getD b :: E9 b i)=y at *
    generalize encI (0 :: zI 32)=z at *
    refine ⟨h',?_⟩
    simp only [esc,esh,Nat.reduceAdd,Nat.reduceMul,Nat.reduceLT,c0,hB,w1,w2,hA,a1,hlt,hs,E2 (show i + 1 < 9223372036854775808 by omega)]
    exact ih
theorem C6n {b:List UInt8} {h:A0} (hb:b.length=256):A4m [.a (A1 b)] h=some (.t [.a (encI (bif X2 b then getD b :: E9 b 32 else 0 :: zI 32)),.c (.i .i64 (bif X2 b then 0 else 14))],h):=by
  have key:∀ N,32 < N → ∀ g,∃ g',A6c N [.a (A1 b)] g=some (.t [.a (encI (bif X2 b then getD b :: E9 b 32 else 0 :: zI 32)),.c (.i .i64 (bif X2 b then 0 else 14))],g'):=by
    intro N hN g
    have hB:(A1 b).length=256:=by rw [B5,hb]
    have hZ:(encI (0 :: zI 32)).length=33:=R5 (d:=0) O8
    have hA:=fun h=>A0Y (h:=h) hb (a:=4) (w:=1)
    have ea:=B4e (b:=b) (a:=4) (w:=1) (by omega) (by omega) (by omega)
    rw [show ((4:Nat):Int)=4 from rfl,show ((1:Nat):Int)=1 from rfl] at ea
    rw [ea] at hA
    have ef:A7 (encI (0 :: zI 32)) [(0,1,.c (.i .i64 (fieldN b 4 1)))]=some (encI (getD b :: E9 b 0)):=by
      have e1:(0 + 1 ≤ (encI (0 :: zI 32)).length):=by rw [hZ];omega
      simp only [A7,cells?]
      rw [if_pos ⟨rfl,e1⟩]
      rfl
    have hX:=R5 (d:=getD b) (B1c (b:=b) (n:=0) (by omega))
    obtain ⟨h',e⟩:=B5W (g:=g) (q:=N) hb hN 32 0 N (by omega) hN
    rw [C0A,A2S]
    generalize X2 b=G at *
    generalize getD b :: E9 b 32=Y at *
    generalize encI (getD b :: E9 b 0)=y at *
    generalize encI (0 :: zI 32)=z at *
    exact ⟨h',by simp only [esc,esh,Nat.reduceAdd,Nat.reduceMul,Nat.reduceLT,hB,hZ,hA,ef,hX];exact e⟩
  obtain ⟨g',e⟩:=key (h.length + 33) (by omega) (ro h)
  refine C2n e ?_
  cases X2 b <;> simp
end Go.Proofs.Yteckncopbicmcaa
end
section
namespace Go.Proofs.Yteckncopbicmcaa
open Go Go.Esc
def W9 (t:List Int) (i:Nat):Bool:=!decide (toX t i=0) && A0r t i
def G6 (t:List Int) (k:Nat):List Int:=((List.range k).filter (W9 t)).map (toX t)
theorem A67 {t:List Int} {k:Nat}:G6 t (k + 1)=G6 t k ++ (if W9 t k=true then [toX t k] else []):=by
  unfold G6
  rw [List.range_succ,List.filter_append,List.map_append,List.filter_cons]
  by_cases c:W9 t k=true <;> simp [c]
theorem B0s (t:List Int) (k:Nat):(G6 t k).length ≤ k:=by
  unfold G6;rw [List.length_map];exact Nat.le_trans (List.length_filter_le _ _) (by simp)
theorem B0w {d:Int} {t:List Int} {g:A0} {n q:Nat} (ht:t.length=32) (hn:n ≤ 32):∀ (e i m:Nat) (h:A0) (id:Nat),i + e=n → e < m → Low (g ++ [some (Row.mk (encI (d :: t)) true)]).length (g ++ [some (Row.mk (encI (d :: t)) true)]) h → (g ++ [some (Row.mk (encI (d :: t)) true)]).length ≤ id → rd h id=some ⟨encI (G6 t i),true⟩ →
    ∃ v h',A46 q m (.c (.p g.length 0)) (.c (.sl id 0 (G6 t i).length 1)) (.c (.i .i64 (n:Int))) (.c (.i .i64 (i:Int))) h=some (v,h') ∧ Out g.length h' v 1 (G6 t n).length (encI (G6 t n))
  | e,i,0,h,id,_,hm,_,_,_=>by omega
  | 0,i,m + 1,h,id,hi,hm,hlow,hid,hr=>by
    have e0:i=n:=by omega
    subst e0
    have c0:¬ (i:Int) < i:=by omega
    rw [List.length_append] at hid
    rw [B56]
    exact ⟨_,_,by simp only [esc,c0] <;> rfl,by rw [H0];omega,_,rfl,by omega,hr⟩
  | e + 1,i,m + 1,h,id,hi,hm,hlow,hid,hr=>by
    have c0:(i:Int) < n:=by omega
    have hB:=R5 (d:=d) ht
    have hrd:rd h g.length=some ⟨encI (d :: t),true⟩:=hlow.rd (by simp)
    have s1:=F6 (h:=h) (id:=g.length) (cs:=encI (d :: t)) hrd hB
    have a1:=adX (id:=g.length) (i:=i) (by omega)
    have l1:=ldX (h:=h) (id:=g.length) hrd ht (i:=i) (by omega)
    have hFs:=fun h=>C6w (d:=d) (t:=t) (i:=i) (h:=h) ht (by omega)
    have w1:=E2 (show i + 1 < 9223372036854775808 by omega)
    have hul:=B0s t i
    rw [B56]
    have skip:W9 t i=false → ∃ v h',A46 q m (.c (.p g.length 0)) (.c (.sl id 0 (G6 t i).length 1)) (.c (.i .i64 (n:Int))) (.c (.i .i64 ((i + 1:Nat):Int))) h=some (v,h') ∧ Out g.length h' v 1 (G6 t n).length (encI (G6 t n)):=by
      intro c
      have hu:G6 t (i + 1)=G6 t i:=by rw [A67,c];simp
      have:=B0w (q:=q) ht hn e (i + 1) m h id (by omega) (by omega) hlow hid (by rw [hu];exact hr)
      rw [hu] at this;exact this
    by_cases cz:toX t i=0
    · obtain ⟨v,h',f1,f2⟩:=skip (by unfold W9;rw [decide_eq_true cz];rfl)
      rw [cz] at l1
      refine ⟨v,h',?_,f2⟩
      generalize encI (d :: t)=z at *
      simp only [esc,c0,a1,l1,B1j,w1]
      exact f1
    · cases cs:A0r t i with
      | false =>
        obtain ⟨v,h',f1,f2⟩:=skip (by unfold W9;rw [cs,Bool.and_false])
        rw [cs] at hFs
        refine ⟨v,h',?_,f2⟩
        generalize encI (d :: t)=z at *
        simp only [esc,c0,a1,l1,cz,s1,hFs,B1j,w1]
        exact f1
      | true =>
        rw [cs] at hFs
        have cb:W9 t i=true:=by unfold W9;rw [cs,decide_eq_false cz];rfl
        have hu:G6 t (i + 1)=G6 t i ++ [toX t i]:=by rw [A67,if_pos cb]
        obtain ⟨h1,b1,b2,b3,b4,b5⟩:=push (ys:=[.i .i64 (toX t i)]) (sz:=1) (n:=(G6 t i).length) hlow hr (by rw [H0];omega) hid rfl (by omega) (by omega)
        have he:encI (G6 t i) ++ [.i .i64 (toX t i)]=encI (G6 t (i + 1)):=by rw [hu];simp [encI]
        rw [he] at b2
        obtain ⟨v,h',f1,f2⟩:=B0w (q:=q) ht hn e (i + 1) m h1 (h.length + 1) (by omega) (by omega) b3 b4 b2
        have hl1:(G6 t (i + 1)).length=(G6 t i).length + 1:=by rw [hu];simp
        rw [hl1] at f1
        have ef:A7 [Cell.i .i64 0] [(0,1,.c (.i .i64 (toX t i)))]=some [.i .i64 (toX t i)]:=rfl
        refine ⟨v,h',?_,f2⟩
        generalize encI (d :: t)=z at *
        simp only [esc,c0,a1,l1,cz,s1,hFs,ef,b1,B1j,w1]
        exact f1
theorem C6k {d:Int} {t:List Int} {h:A0} (ht:t.length=32):A4l [.a (encI (d :: t))] h=some (.c (.sl h.length 0 (G6 t (J0 d)).length 1),h ++ [some ⟨encI (G6 t (J0 d)),true⟩]):=by
  have key:∀ N,32 < N → ∀ g,∃ v g',A6b N [.a (encI (d :: t))] g=some (v,g') ∧ Out g.length g' v 1 (G6 t (J0 d)).length (encI (G6 t (J0 d))):=by
    intro N hN g
    have hB:=R5 (d:=d) ht
    have hM:=fun h=>B6k (d:=d) (h:=h) ht
    have hm:=A5e d
    obtain ⟨v,g',f1,f2⟩:=B0w (g:=g) (d:=d) (q:=N) ht hm (J0 d) 0 N (g ++ [some (Row.mk (encI (d :: t)) true),some (Row.mk [] true),some (Row.mk [] true)]) (g.length + 2) (by omega) (by omega)
      (by have:=(Low.refl (h:=g ++ [some (Row.mk (encI (d :: t)) true)]) (Nat.le_refl _)).new [some ⟨[],true⟩,some ⟨[],true⟩]
          simpa using this) (by simp) (by simp [G6,encI])
    rw [show G6 t 0=[] from rfl] at f1
    rw [C0z]
    refine ⟨v,g',?_,f2⟩
    generalize encI (d :: t)=z at *
    simp only [esc,esh,Nat.reduceAdd,Nat.reduceMul,Nat.reduceLT,hB,hM] at f1 ⊢
    exact f1
  obtain ⟨v,g',e,ho⟩:=key (h.length + 33) (by omega) (ro h)
  exact C2m e (by simpa [N7] using ho) (by simp)
def A5d (h:Nat) (b:Int):Nat:=if b < 1 then 0 else if 32 ≤ b then h else h % 2 ^ b.toNat
theorem C7f {x:Nat} {b:Int} {h:A0} (hx:x < 4294967296):A4t [.c (.i .u32 (x:Int)),.c (.i .i64 b)] h=some (.c (.i .i64 (A5d x b:Nat)),h):=by
  have key:∀ g,∃ g',A6n 0 [.c (.i .u32 (x:Int)),.c (.i .i64 b)] g=some (.c (.i .i64 (A5d x b:Nat)),g'):=by
    intro g
    rw [C0N]
    unfold A5d
    by_cases c1:b < 1
    · rw [if_pos c1]
      exact ⟨_,by simp only [esc,c1] <;> rfl⟩
    · rw [if_neg c1]
      have w1:IntKind.wrap .i64 (x:Int)=(x:Int):=wrap_i64 (by omega) (by omega)
      by_cases c2:32 ≤ b
      · rw [if_pos c2]
        exact ⟨_,by simp only [esc,c1,c2,w1] <;> rfl⟩
      · rw [if_neg c2]
        obtain ⟨k,rfl⟩:∃ k:Nat,b=k:=⟨b.toNat,by omega⟩
        have hk:k < 32:=by omega
        rw [Int.toNat_natCast]
        have w2:=B9T (k:=k) (by omega)
        have hp:2 ^ k ≤ 2 ^ 31:=Nat.pow_le_pow_right (by omega) (by omega)
        have hp0:0 < 2 ^ k:=Nat.pow_pos (by omega)
        have e1:A2 .shl (.c (.i .u32 1)) (.c (.i .u64 (k:Int)))=some (.c (.i .u32 ((2 ^ k:Nat):Int))):=by
          rw [B0c (by omega)]
          have h1:Nat.min (k:Int).toNat (IntKind.u32).bits=k:=by
            have:(IntKind.u32).bits=32:=rfl
            rw [this,Int.toNat_natCast];exact Nat.min_eq_left (by omega)
          rw [h1,Int.one_mul]
          have e:(2:Int) ^ k=((2 ^ k:Nat):Int):=by simp
          rw [e]
          generalize 2 ^ k=y at hp hp0 ⊢
          rw [wrap_u32 (by omega) (by omega)]
        have w3:IntKind.wrap .u32 (((2 ^ k:Nat):Int) - 1)=((2 ^ k - 1:Nat):Int):=by rw [wrap_u32 (by omega) (by omega)];omega
        have e2:=C39 (a:=x) (b:=2 ^ k - 1) hx (by omega)
        rw [Nat.and_two_pow_sub_one_eq_mod] at e2
        have hm:x % 2 ^ k < 2 ^ k:=Nat.mod_lt _ hp0
        have w4:IntKind.wrap .i64 ((x % 2 ^ k:Nat):Int)=((x % 2 ^ k:Nat):Int):=wrap_i64 (by omega) (by omega)
        generalize 2 ^ k - 1=y at *
        generalize x % 2 ^ k=z at *
        exact ⟨_,by simp only [esc,c1,c2,w2,e1,w3,e2,w4] <;> rfl⟩
  obtain ⟨g',e⟩:=key (ro h)
  exact C2I e rfl
theorem C6s {d:Int} {t:List Int} {x:Nat} {h:A0} (ht:t.length=32) (hx:x < 4294967296):A4n [.a (encI (d :: t)),.c (.i .u32 (x:Int))] h=some (.c (.i .i64 (x % J0 d:Nat)),h):=by
  have key:∀ g,∃ g',A6d 0 [.a (encI (d :: t)),.c (.i .u32 (x:Int))] g=some (.c (.i .i64 (x % J0 d:Nat)),g'):=by
    intro g
    have hB:=R5 (d:=d) ht
    have hD:=fun h=>B1l (d:=d) (t:=t) (h:=h)
    have hL:=fun h=>C7f (x:=x) (b:=(R3 d:Nat)) (h:=h) hx
    have e:A5d x (R3 d:Nat)=x % J0 d:=by
      unfold A5d J0
      have:=A7j d
      rw [Int.toNat_natCast]
      by_cases c:((R3 d:Nat):Int) < 1
      · have:R3 d=0:=by omega
        rw [if_pos c,this];simp [Nat.mod_one]
      · rw [if_neg c,if_neg (by omega)]
    rw [e] at hL
    rw [C0B]
    generalize encI (d :: t)=y at *
    exact ⟨_,by simp only [esc,esh,Nat.reduceAdd,Nat.reduceMul,Nat.reduceLT,hB,hD,hL] <;> rfl⟩
  obtain ⟨g',e⟩:=key (ro h)
  exact C2p e rfl
end Go.Proofs.Yteckncopbicmcaa
end
section
namespace Go.Proofs.Yteckncopbicmcaa
open Go Go.Esc
def U9 (D:Dev) (n k:Int) (d:List Int):Bool:=decide (k=2) && P9 D.length n (d.getD 0 0) && X2 (blk D (d.getD 0 0))
def R8 (D:Dev) (n k:Int) (d:List Int):List Int:=bif U9 D n k d then getD (blk D (d.getD 0 0)) :: E9 (blk D (d.getD 0 0)) 32 else 0 :: zI 32
theorem B1d (b:List UInt8):(E9 b 32).length=32:=by simp [E9,zI]
theorem B51 (D:Dev) (n k:Int) (d:List Int):∃ x t,R8 D n k d=x :: t ∧ t.length=32:=by
  unfold R8
  cases U9 D n k d with
  | false=>exact ⟨_,_,rfl,O8⟩
  | true=>exact ⟨_,_,rfl,B1d _⟩
theorem B52 (D:Dev) (n k:Int) (d:List Int):(encI (R8 D n k d)).length=33:=by
  obtain ⟨x,t,e,h⟩:=B51 D n k d
  rw [e,H0];simp [h]
theorem B5C {D:Dev} {n m k l s p:Int} {d:List Int} {f:Cell} {h:A0} (hD:okD D) (hd:d.length=7) (hv:IsView h f D) :
    A1R [.a (vwC D.length n m f),.a (A5 k l s p d)] h=some (.t [.a (encI (R8 D n k d)),.c (.b (U9 D n k d))],h):=by
  have key:∀ g,IsView g f D → ∃ g',A50 0 [.a (vwC D.length n m f),.a (A5 k l s p d)] g=some (.t [.a (encI (R8 D n k d)),.c (.b (U9 D n k d))],g'):=by
    intro g hv
    have l3:=A3x (b:=D.length) (n:=n) (m:=m) (f:=f)
    have l4:=A2P (b:=D.length) (n:=n) (m:=m) (f:=f)
    have i0:(A5 k l s p d)[0]? = some (.i .i64 k):=rfl
    have i4:(A5 k l s p d)[4]? = some (.i .i64 (d.getD 0 0)):=by
      have:(A5 k l s p d)[4]? = (encI d)[0]? := rfl
      rw [this,T9,List.getElem?_eq_getElem (by omega),List.getD_eq_getElem?_getD,List.getElem?_eq_getElem (by omega)];rfl
    have ad:∀ q,D6 6 1 (.c (.p q 4)) (.c (.i .i64 0))=some (.c (.p q 4)):=fun q=>rfl
    have hz:(encI (0 :: zI 32)).length=33:=R5 (d:=0) O8
    have ef:A7 (encI (0 :: zI 32)) []=some (encI (0 :: zI 32)):=rfl
    have n12:¬ (14:Int)=0:=by decide
    rw [C0n,A2S]
    unfold R8 U9
    by_cases c1:k=2
    · have hI:=fun h=>A42 (b:=D.length) (n:=n) (m:=m) (i:=d.getD 0 0) (h:=h)
      cases c2:P9 D.length n (d.getD 0 0) with
      | false =>
        simp only [c2] at hI
        simp only [Bool.and_false,Bool.false_and,cond_false]
        generalize vwC D.length n m f=V at *
        generalize A5 k l s p d=I at *
        generalize encI (0 :: zI 32)=z at *
        exact ⟨_,by simp only [esc,esh,Nat.reduceAdd,Nat.reduceMul,Nat.reduceLT,eq_self,i0,c1,l3,ad,i4,hI,hz,ef] <;> rfl⟩
      | true =>
        simp only [c2] at hI
        have hB:=A3w (n:=n) (m:=m) (no:=d.getD 0 0) (h:=g ++ [some (Row.mk (vwC D.length n m f) true),some (Row.mk (A5 k l s p d) true),some (Row.mk (encI (0 :: zI 32)) true)]) hD (hv.more _)
        have hG:=fun h=>C6n (h:=h) (A0R hD (i:=d.getD 0 0))
        have hX:(encI (getD (blk D (d.getD 0 0)) :: E9 (blk D (d.getD 0 0)) 32)).length=33:=R5 (B1d _)
        rw [decide_eq_true c1,Bool.true_and,Bool.true_and]
        cases c3:X2 (blk D (d.getD 0 0)) with
        | false =>
          simp only [c3,cond_false] at hG
          rw [cond_false]
          generalize encI (getD (blk D (d.getD 0 0)) :: E9 (blk D (d.getD 0 0)) 32)=x at *
          generalize A1 (blk D (d.getD 0 0))=y at *
          generalize vwC D.length n m f=V at *
          generalize A5 k l s p d=I at *
          generalize encI (0 :: zI 32)=z at *
          exact ⟨_,by simp only [esc,esh,Nat.reduceAdd,Nat.reduceMul,Nat.reduceLT,eq_self,i0,c1,l3,l4,ad,i4,hI,hB,hG,hz,hX,ef,n12] <;> rfl⟩
        | true =>
          simp only [c3,cond_true] at hG
          rw [cond_true]
          generalize encI (getD (blk D (d.getD 0 0)) :: E9 (blk D (d.getD 0 0)) 32)=x at *
          generalize A1 (blk D (d.getD 0 0))=y at *
          generalize vwC D.length n m f=V at *
          generalize A5 k l s p d=I at *
          generalize encI (0 :: zI 32)=z at *
          exact ⟨_,by simp only [esc,esh,Nat.reduceAdd,Nat.reduceMul,Nat.reduceLT,eq_self,i0,c1,l3,l4,ad,i4,hI,hB,hG,hz,hX,ef,n12] <;> rfl⟩
    · rw [decide_eq_false c1,Bool.false_and,Bool.false_and,cond_false]
      generalize vwC D.length n m f=V at *
      generalize A5 k l s p d=I at *
      generalize encI (0 :: zI 32)=z at *
      exact ⟨_,by simp only [esc,esh,Nat.reduceAdd,Nat.reduceMul,Nat.reduceLT,eq_self,i0,c1,hz,ef] <;> rfl⟩
  obtain ⟨g',e⟩:=key (ro h) hv.ro
  exact C12 e (by simp [Val.flat,Cell.flat])
def J6 (D:Dev) (n k:Int) (d:List Int):List Int:=bif U9 D n k d then (G6 (E9 (blk D (d.getD 0 0)) 32) (J0 (getD (blk D (d.getD 0 0))))).filter (P9 D.length n) else []
theorem B0x {D:Dev} {n m:Int} {f:Cell} {g:A0} {p q sid:Nat} {L:List Int} (h1:rd g p=some ⟨vwC D.length n m f,true⟩) (hL:L.length ≤ 32):∀ (e i M id:Nat) (h:A0) (l:List Int),i + e=L.length → e < M → l.length ≤ i → Low g.length g h → g.length ≤ id → id ≠ sid → rd h sid=some ⟨encI L,true⟩ → rd h id=some ⟨encI l,true⟩ →
    ∃ v' h',A7z q M (.c (.p p 0)) (.c (.sl id 0 l.length 1)) (.c (.sl sid 0 L.length 1)) (.c (.i .i64 (L.length:Int))) (.c (.i .i64 (i:Int))) h=some (v',h') ∧ Out g.length h' v' 1 (l ++ (L.drop i).filter (P9 D.length n)).length (encI (l ++ (L.drop i).filter (P9 D.length n)))
  | e,i,0,id,h,l,_,hm,_,_,_,_,_,_=>by omega
  | 0,i,M + 1,id,h,l,hi,hm,hl,hlow,hid,hne,hs,hr=>by
    have e0:i=L.length:=by omega
    subst e0
    have c0:¬ ((L.length:Nat):Int) < (L.length:Nat):=by omega
    rw [B5B,List.drop_of_length_le (Nat.le_refl _),List.filter_nil,List.append_nil]
    exact ⟨_,_,by simp only [esc,c0] <;> rfl,by rw [H0,Nat.mul_one],id,rfl,hid,hr⟩
  | e + 1,i,M + 1,id,h,l,hi,hm,hl,hlow,hid,hne,hs,hr=>by
    have hil:i < L.length:=by omega
    have c0:(i:Int) < (L.length:Nat):=by omega
    have ad:B9 1 (.c (.sl sid 0 L.length 1)) (.c (.i .i64 (i:Int)))=some (.c (.p sid i)):=by rw [H8 hil];simp
    have l1:A4 h (.c (.p sid i))=some (.c (.i .i64 L[i])):=F4 hs (by rw [T9,List.getElem?_eq_getElem hil];rfl) rfl
    have fa:B4 (.c (.p p 0)) 0=some (.c (.p p 0)):=rfl
    have l3:A3 h 3 (.c (.p p 0))=some (.a (F5 D.length n m)):=by rw [A3l (hlow.rd h1) (by simp [vwC]) rfl];rfl
    have hI:=A42 (b:=D.length) (n:=n) (m:=m) (i:=L[i]) (h:=h)
    have w1:=E2 (show i + 1 < 9223372036854775808 by omega)
    rw [B5B,List.drop_eq_getElem_cons hil]
    cases c:P9 D.length n L[i] with
    | false =>
      rw [c] at hI
      obtain ⟨v',h',f1,f2⟩:=B0x (q:=q) h1 hL e (i + 1) M id h l (by omega) (by omega) (by omega) hlow hid hne hs hr
      rw [List.filter_cons_of_neg (by rw [c];simp)]
      refine ⟨v',h',?_,f2⟩
      simp only [C8,E7,c0,decide_true,G4,ad,l1,fa,l3,hI,G7,B5A,I8,w1]
      exact f1
    | true =>
      rw [c] at hI
      have ef:A7 [Cell.i .i64 0] [(0,1,.c (.i .i64 L[i]))]=some (encI [L[i]]):=rfl
      obtain ⟨h2,a1,a2,a3,a4⟩:=A5n (n:=l.length) (sz:=1) (ys:=encI [L[i]]) hr (by rw [H0,Nat.mul_one]) rfl (by omega) (by omega)
      rw [← A7q] at a2
      have el:(l ++ [L[i]]).length=l.length + 1:=by simp
      have hlt:=B7 hs
      obtain ⟨v',h',f1,f2⟩:=B0x (q:=q) h1 hL e (i + 1) M (h.length + 1) h2 (l ++ [L[i]]) (by omega) (by omega) (by rw [el];omega) (hlow.trans (a4 _ hid (by have:=hlow.2.1;omega))) (by have:=hlow.2.1;omega) (by omega) (a3 _ _ (Ne.symm hne) hs) a2
      rw [List.filter_cons_of_pos (by rw [c])]
      rw [List.append_assoc,List.singleton_append] at f2
      rw [el] at f1
      refine ⟨v',h',?_,f2⟩
      simp only [C8,E7,c0,decide_true,G4,ad,l1,fa,l3,hI,ef,a1,B5A,I8,w1]
      exact f1
theorem C5Y {D:Dev} {n m k l s p:Int} {d:List Int} {f:Cell} {h:A0} (hD:okD D) (hd:d.length=7) (hv:IsView h f D) :
    A4d [.a (vwC D.length n m f),.a (A5 k l s p d)] h=some (.c (.sl h.length 0 (J6 D n k d).length 1),h ++ [some ⟨encI (J6 D n k d),true⟩]):=by
  have key:∀ g,IsView g f D → ∃ v g',A5Z 33 [.a (vwC D.length n m f),.a (A5 k l s p d)] g=some (v,g') ∧ Out g.length g' v 1 (J6 D n k d).length (encI (J6 D n k d)):=by
    intro g hv
    have hIl:(A5 k l s p d).length=11:=by simp [A5,H0,hd]
    have l11:ldN (some (Row.mk (A5 k l s p d) true)) 0 11=some (.a (A5 k l s p d)):=Q0 hIl
    have l4:=A2P (b:=D.length) (n:=n) (m:=m) (f:=f)
    have hz:(encI (0 :: zI 32)).length=33:=R5 (d:=0) O8
    have hX:=B52 D n k d
    have hI:=B5C (n:=n) (m:=m) (k:=k) (l:=l) (s:=s) (p:=p) (h:=g ++ [some (Row.mk (vwC D.length n m f) true),some (Row.mk (A5 k l s p d) true),some (Row.mk [] true)]) hD hd (hv.more _)
    rw [C0m,A2S]
    cases c:U9 D n k d with
    | false =>
      rw [c] at hI
      have eb:J6 D n k d=[]:=by unfold J6;rw [c];rfl
      rw [eb]
      generalize encI (R8 D n k d)=x at *
      generalize encI (0 :: zI 32)=z at *
      refine ⟨.c (.sl (g.length + 4) 0 0 1),g ++ [some (Row.mk (vwC D.length n m f) true),some (Row.mk (A5 k l s p d) true),some (Row.mk [] true),some (Row.mk x true),some (Row.mk [] true)],?_,rfl,g.length + 4,rfl,by omega,by simp [encI]⟩
      generalize vwC D.length n m f=V at *
      generalize A5 k l s p d=I at *
      simp only [esc,esh,Nat.reduceAdd,Nat.reduceMul,Nat.reduceLT,l4,l11,hI,hz,hX]
    | true =>
      rw [c] at hI
      have eb:J6 D n k d=(G6 (E9 (blk D (d.getD 0 0)) 32) (J0 (getD (blk D (d.getD 0 0))))).filter (P9 D.length n):=by unfold J6;rw [c];rfl
      have ex:R8 D n k d=getD (blk D (d.getD 0 0)) :: E9 (blk D (d.getD 0 0)) 32:=by unfold R8;rw [c];rfl
      rw [ex] at hI hX
      have hB:=fun h=>C6k (d:=getD (blk D (d.getD 0 0))) (h:=h) (B1d (blk D (d.getD 0 0)))
      have hBl:=B0s (E9 (blk D (d.getD 0 0)) 32) (J0 (getD (blk D (d.getD 0 0))))
      have hml:=A5e (getD (blk D (d.getD 0 0)))
      rw [eb]
      generalize G6 (E9 (blk D (d.getD 0 0)) 32) (J0 (getD (blk D (d.getD 0 0))))=L at *
      generalize encI (getD (blk D (d.getD 0 0)) :: E9 (blk D (d.getD 0 0)) 32)=x at *
      generalize encI (0 :: zI 32)=z at *
      obtain ⟨v',h',f1,f2⟩:=B0x (D:=D) (n:=n) (m:=m) (f:=f) (g:=g ++ [some (Row.mk (vwC D.length n m f) true),some (Row.mk (A5 k l s p d) true),some (Row.mk [] true),some (Row.mk x true)]) (p:=g.length) (q:=33) (sid:=g.length + 5) (L:=L) (by simp) (by omega) L.length 0 33 (g.length + 4) (g ++ [some (Row.mk (vwC D.length n m f) true),some (Row.mk (A5 k l s p d) true),some (Row.mk [] true),some (Row.mk x true),some (Row.mk [] true),some (Row.mk (encI L) true)]) [] (by omega) (by omega) (by simp)
        (by
          have:=(Low.refl (h:=g ++ [some (Row.mk (vwC D.length n m f) true),some (Row.mk (A5 k l s p d) true),some (Row.mk [] true),some (Row.mk x true)]) (Nat.le_refl _)).new [some (Row.mk [] true),some (Row.mk (encI L) true)]
          simpa using this) (by simp) (by omega) (by simp) (by simp [encI])
      rw [List.nil_append,List.drop_zero] at f2
      rw [List.length_nil] at f1
      refine ⟨v',h',?_,f2.1,?_⟩
      · generalize vwC D.length n m f=V at *
        generalize A5 k l s p d=I at *
        simp only [esc,esh,Nat.reduceAdd,Nat.reduceMul,Nat.reduceLT,l4,l11,hI,hz,hX,hB]
        exact f1
      · obtain ⟨id,e,hb,hr⟩:=f2.2
        exact ⟨id,e,by simp at hb;omega,hr⟩
  obtain ⟨v,g',e,ho⟩:=key (ro h) hv.ro
  exact C11 e (by simpa [N7] using ho) (by simp)
end Go.Proofs.Yteckncopbicmcaa
end
noncomputable section
namespace Go.Proofs.Yteckncopbicmcaa
open Go Go.Esc
set_option maxRecDepth 100000
def B69:ACode:=.seq [0,21,22,23] (.ops [aO 23 (.bin .lss (.t 22) (.t 21))]) (.seq [0,21,22] (.cond (.t 23) .skip (.exit 0)) (.seq [0,21,22] (.block 1 (.seq [0,3,21,22] (.ops [aO 24 (.mv (.t 22)),aO 3 (.mv (.t 24))]) (.seq [0,21,22,34] (.ops [aO 25 (.mv (.t 0)),aO 26 (.mv (.t 3)),aO 27 (.idxS (.t 25) (.t 26)),aO 28 (.bin .eql (.t 27) (.v (.c (.i .u8 0)))),aO 29 (.mv (.t 28)),aG 30 29 false (.mv (.t 0)),aG 31 29 false (.mv (.t 3)),aG 32 29 false (.idxS (.t 30) (.t 31)),aG 33 29 false (.bin .eql (.t 32) (.v (.c (.i .u8 47)))),aO 34 (.pick (.t 29) (.v (.c (.b true))) (.t 33))]) (.cond (.t 34) (.seq [2] (.ops [aO 2 (.mv (.v (.c (.i .i64 3))))]) .ret) .skip)))) (.ops [aO 35 (.bin .add (.t 22) (.v (.c (.i .i64 1)))),aO 22 (.mv (.t 35))])))
def B7a:ACode:=.seq [2] (.ops [aO 2 (.mv (.v (.c (.i .i64 0))))]) .ret
def A_name_Check:AFn:=⟨.seq [0] (.ops [aO 2 (.mv (.v (.c (.i .i64 0))))]) (.seq [0] (.seq [0,19] (.ops [aO 4 (.mv (.t 0)),aO 5 (.lenS (.t 4)),aO 6 (.bin .lss (.t 5) (.v (.c (.i .i64 1)))),aO 7 (.mv (.t 6)),aG 8 7 false (.mv (.t 0)),aG 9 7 false (.lenS (.t 8)),aG 10 7 false (.bin .gtr (.t 9) (.v (.c (.i .i64 24)))),aO 11 (.pick (.t 7) (.v (.c (.b true))) (.t 10)),aO 12 (.mv (.t 11)),aG 13 12 false (.mv (.t 0)),aG 14 12 false (.bin .eql (.t 13) (.v (.c (.s [46])))),aO 15 (.pick (.t 12) (.v (.c (.b true))) (.t 14)),aO 16 (.mv (.t 15)),aG 17 16 false (.mv (.t 0)),aG 18 16 false (.bin .eql (.t 17) (.v (.c (.s [46,46])))),aO 19 (.pick (.t 16) (.v (.c (.b true))) (.t 18))]) (.cond (.t 19) (.seq [2] (.ops [aO 2 (.mv (.v (.c (.i .i64 3))))]) .ret) .skip)) (.seq [] (.seq [0,21,22] (.ops [aO 20 (.mv (.t 0)),aO 21 (.lenS (.t 20)),aO 22 (.mv (.v (.c (.i .i64 0))))]) (.block 0 (.loop [0,21,22] B69))) B7a)),[.tmp 2]⟩
def A3J:A9:=C0
def C7j (n:Nat):B3 (Val × A0):=E3 [] (ax A3J n B7a) A_name_Check.fin
def C7k (n:Nat):B3 (Val × A0):=D7 0 (C7j n)
def A73 (n m:Nat) (x0 x21 x22:Val) (h:A0):A6:=D1 (ax A3J n B69) [0,21,22] (C7k n) m [(0,x0),(21,x21),(22,x22)] h
def A9X (n:Nat) (args:List Val) (h:A0):A6:=ax A3J n A_name_Check.code A_name_Check.fin (params 0 args) h
theorem C0Q (n:Nat) (a0:Val) (h:A0):A9X n [a0] h=bnd (W4 a0) fun v1=>bnd (A2 .lss v1 (.c (.i .i64 1))) fun v2=>bnd (gd v2 false (some (a0,h)) (some (.no,h))) fun p3=>bnd (gd v2 false (bnd (W4 p3.1) fun v4=>some (v4,p3.2)) (some (.no,p3.2))) fun p5=>bnd (gd v2 false (bnd (A2 .gtr p5.1 (.c (.i .i64 24))) fun v6=>some (v6,p5.2)) (some (.no,p5.2))) fun p7=>bnd (D3 v2 (.c (.b true)) p7.1) fun v8=>bnd (gd v8 false (some (a0,p7.2)) (some (.no,p7.2))) fun p9=>bnd (gd v8 false (bnd (A2 .eql p9.1 (.c (.s [46]))) fun v10=>some (v10,p9.2)) (some (.no,p9.2))) fun p11=>bnd (D3 v8 (.c (.b true)) p11.1) fun v12=>bnd (gd v12 false (some (a0,p11.2)) (some (.no,p11.2))) fun p13=>bnd (gd v12 false (bnd (A2 .eql p13.1 (.c (.s [46,46]))) fun v14=>some (v14,p13.2)) (some (.no,p13.2))) fun p15=>bnd (D3 v12 (.c (.b true)) p15.1) fun v16=>cnd v16 (some ((.c (.i .i64 3)),p15.2)) (bnd (W4 a0) fun v17=>A73 n n a0 v17 (.c (.i .i64 0)) p15.2):=by kernel_rfl
theorem B7b (n m:Nat) (x0 x21 x22:Val) (h:A0):A73 n (m + 1) x0 x21 x22 h=bnd (A2 .lss x22 x21) fun v18=>cnd v18 (bnd (Y8 x0 x22) fun v19=>bnd (A2 .eql v19 (.c (.i .u8 0))) fun v20=>bnd (gd v20 false (some (x0,h)) (some (.no,h))) fun p21=>bnd (gd v20 false (some (x22,p21.2)) (some (.no,p21.2))) fun p22=>bnd (gd v20 false (bnd (Y8 p21.1 p22.1) fun v23=>some (v23,p22.2)) (some (.no,p22.2))) fun p24=>bnd (gd v20 false (bnd (A2 .eql p24.1 (.c (.i .u8 47))) fun v25=>some (v25,p24.2)) (some (.no,p24.2))) fun p26=>bnd (D3 v20 (.c (.b true)) p26.1) fun v27=>cnd v27 (some ((.c (.i .i64 3)),p26.2)) (bnd (A2 .add x22 (.c (.i .i64 1))) fun v28=>A73 n m x0 x21 v28 p26.2)) (some ((.c (.i .i64 0)),h)):=by kernel_rfl
theorem K_name_Check:FnK Try.prog 91 A_name_Check A3J A9X:=.mk' (C2) Try.func91 (by kernel_rfl) (fun _ _ _=>C1)
def A1Z:Fun:=tidy (Lim A_name_Check A3J)
theorem B3p:SOk Try.prog 91 A1Z:=K_name_Check.sok
theorem C2N:D5 A9X A1Z:=K_name_Check.flat
def B7c:ACode:=.seq [0,2,4,18,19,20] (.ops [aO 20 (.bin .lss (.t 19) (.t 18))]) (.seq [0,2,4,18,19] (.cond (.t 20) .skip (.exit 0)) (.seq [0,2,4,18,19] (.block 1 (.seq [0,2,4,6,18,19] (.ops [aO 21 (.mv (.t 19)),aO 6 (.mv (.t 21))]) (.ops [aO 22 (.mv (.t 6)),aO 23 (.bin .add (.v (.c (.i .i64 1))) (.t 22)),aO 24 (.mv (.t 0)),aO 25 (.mv (.t 6)),aO 26 (.idxS (.t 24) (.t 25)),aO 27 (.iAddrA 25 1 (.t 4) (.t 23)),aN (.store1 (.t 27) (.t 26))]))) (.ops [aO 28 (.bin .add (.t 19) (.v (.c (.i .i64 1)))),aO 19 (.mv (.t 28))])))
def B7d:ACode:=.seq [2,3] (.ops [aO 29 (.loadN 25 (.t 4)),aN (.storeN 25 (.t 2) (.t 29)),aO 3 (.mv (.v (.c (.i .i64 0))))]) .ret
def A_name_Pack:AFn:=⟨.seq [0,2] (.ops [aO 2 (.alloc (List.replicate 25 (.i .u8 0))),aO 3 (.mv (.v (.c (.i .i64 0))))]) (.seq [0,2,4] (.ops [aO 4 (.alloc (List.replicate 25 (.i .u8 0)))]) (.seq [0,2,4] (.seq [0,2,4,5] (.ops [aO 7 (.mv (.t 0)),aO 8 (.call 91 [(.t 7)]),aO 5 (.mv (.t 8))]) (.seq [0,2,4,5,10] (.ops [aO 9 (.mv (.t 5)),aO 10 (.bin .neq (.t 9) (.v (.c (.i .i64 0))))]) (.cond (.t 10) (.seq [2,3] (.ops [aO 11 (.loadN 25 (.t 4)),aO 12 (.mv (.t 5)),aN (.storeN 25 (.t 2) (.t 11)),aO 3 (.mv (.t 12))]) .ret) .skip))) (.seq [0,2,4] (.ops [aO 13 (.mv (.t 0)),aO 14 (.lenS (.t 13)),aO 15 (.conv .u8 (.t 14)),aO 16 (.iAddrA 25 1 (.t 4) (.v (.c (.i .i64 0)))),aN (.store1 (.t 16) (.t 15))]) (.seq [2,4] (.seq [0,2,4,18,19] (.ops [aO 17 (.mv (.t 0)),aO 18 (.lenS (.t 17)),aO 19 (.mv (.v (.c (.i .i64 0))))]) (.block 0 (.loop [0,2,4,18,19] B7c))) B7d)))),[.cellN 2 25,.tmp 3]⟩
def A3K:A9:=B0 91 A1Z C0
def C7m (n:Nat):B3 (Val × A0):=E3 [2,4] (ax A3K n B7d) A_name_Pack.fin
def C7n (n:Nat):B3 (Val × A0):=D7 0 (C7m n)
def A74 (n m:Nat) (x0 x2 x4 x18 x19:Val) (h:A0):A6:=D1 (ax A3K n B7c) [0,2,4,18,19] (C7n n) m [(0,x0),(2,x2),(4,x4),(18,x18),(19,x19)] h
def A6o (n:Nat) (args:List Val) (h:A0):A6:=ax A3K n A_name_Pack.code A_name_Pack.fin (params 0 args) h
theorem C0S (n:Nat) (a0:Val) (h:A0):A6o n [a0] h=bnd (A1Z [a0] ((h ++ [some (Row.mk (List.replicate 25 (.i .u8 0)) true)]) ++ [some (Row.mk (List.replicate 25 (.i .u8 0)) true)])) fun p1=>bnd (A2 .neq p1.1 (.c (.i .i64 0))) fun v2=>cnd v2 (bnd (A3 p1.2 25 (.c (.p (h ++ [some (Row.mk (List.replicate 25 (.i .u8 0)) true)]).length 0))) fun v3=>bnd (A8 p1.2 25 (.c (.p h.length 0)) v3) fun h4=>C7 [A3 h4 25 (.c (.p h.length 0)),some p1.1] h4) (bnd (W4 a0) fun v5=>bnd (K9 .u8 v5) fun v6=>bnd (D6 25 1 (.c (.p (h ++ [some (Row.mk (List.replicate 25 (.i .u8 0)) true)]).length 0)) (.c (.i .i64 0))) fun v7=>bnd (E4 p1.2 v7 v6) fun h8=>bnd (W4 a0) fun v9=>A74 n n a0 (.c (.p h.length 0)) (.c (.p (h ++ [some (Row.mk (List.replicate 25 (.i .u8 0)) true)]).length 0)) v9 (.c (.i .i64 0)) h8):=by kernel_rfl
theorem B7e (n m:Nat) (x0 x2 x4 x18 x19:Val) (h:A0):A74 n (m + 1) x0 x2 x4 x18 x19 h=bnd (A2 .lss x19 x18) fun v10=>cnd v10 (bnd (A2 .add (.c (.i .i64 1)) x19) fun v11=>bnd (Y8 x0 x19) fun v12=>bnd (D6 25 1 x4 v11) fun v13=>bnd (E4 h v13 v12) fun h14=>bnd (A2 .add x19 (.c (.i .i64 1))) fun v15=>A74 n m x0 x2 x4 x18 v15 h14) (bnd (A3 h 25 x4) fun v16=>bnd (A8 h 25 x2 v16) fun h17=>C7 [A3 h17 25 x2,some (.c (.i .i64 0))] h17):=by kernel_rfl
theorem K_name_Pack:FnK Try.prog 92 A_name_Pack A3K A6o:=.mk' (B1 B3p C2) Try.func92 (by kernel_rfl) (fun _ _ _=>C1)
def A10:Fun:=tidy (Lim A_name_Pack A3K)
theorem B3q:SOk Try.prog 92 A10:=K_name_Pack.sok
theorem C2Q:D5 A6o A10:=K_name_Pack.flat
def A_name_Unpack:AFn:=⟨.seq [1] (.ops [aO 1 (.box (.t 0)),aO 2 (.mv (.v (.c (.s [])))),aO 3 (.mv (.v (.c (.i .i64 0))))]) (.seq [1,4] (.ops [aO 8 (.iAddrA 25 1 (.t 1) (.v (.c (.i .i64 0)))),aO 9 (.load1 (.t 8)),aO 10 (.conv .i64 (.t 9)),aO 4 (.mv (.t 10))]) (.seq [1,4] (.seq [1,4,12] (.ops [aO 11 (.mv (.t 4)),aO 12 (.bin .gtr (.t 11) (.v (.c (.i .i64 24))))]) (.cond (.t 12) (.seq [2,3] (.ops [aO 2 (.mv (.v (.c (.s [])))),aO 3 (.mv (.v (.c (.i .i64 3))))]) .ret) .skip)) (.seq [1,5] (.ops [aO 13 (.mv (.t 4)),aO 14 (.bin .add (.v (.c (.i .i64 1))) (.t 13)),aO 15 (.slA 25 1 (.t 1) (some (.v (.c (.i .i64 1)))) (some (.t 14))),aO 16 (.b2s (.t 15)),aO 5 (.mv (.t 16))]) (.seq [5] (.seq [1,5,6,7] (.ops [aO 18 (.mv (.t 5)),aO 19 (.call 92 [(.t 18)]),aO 17 (.mv (.t 19)),aO 20 (.ext (.t 17) 0),aO 21 (.ext (.t 17) 1),aO 6 (.alloc (List.replicate 25 (.i .u8 0))),aN (.storeN 25 (.t 6) (.t 20)),aO 7 (.mv (.t 21))]) (.seq [5,28] (.ops [aO 22 (.mv (.t 7)),aO 23 (.bin .neq (.t 22) (.v (.c (.i .i64 0)))),aO 24 (.mv (.t 23)),aG 25 24 false (.loadN 25 (.t 6)),aG 26 24 false (.loadN 25 (.t 1)),aG 27 24 false (.eqA true (List.replicate 25 (.i .u8)) (.t 25) (.t 26)),aO 28 (.pick (.t 24) (.v (.c (.b true))) (.t 27))]) (.cond (.t 28) (.seq [2,3] (.ops [aO 2 (.mv (.v (.c (.s [])))),aO 3 (.mv (.v (.c (.i .i64 3))))]) .ret) .skip))) (.seq [2,3] (.ops [aO 29 (.mv (.t 5)),aO 2 (.mv (.t 29)),aO 3 (.mv (.v (.c (.i .i64 0))))]) .ret))))),[.tmp 2,.tmp 3]⟩
def A9s:A9:=B0 92 A10 C0
def A6r (n:Nat) (args:List Val) (h:A0):A6:=ax A9s n A_name_Unpack.code A_name_Unpack.fin (params 0 args) h
theorem C0V (n:Nat) (a0:Val) (h:A0):A6r n [a0] h=bnd (cells? a0) fun c1=>bnd (D6 25 1 (.c (.p h.length 0)) (.c (.i .i64 0))) fun v2=>bnd (A4 (h ++ [some (Row.mk (c1) true)]) v2) fun v3=>bnd (K9 .i64 v3) fun v4=>bnd (A2 .gtr v4 (.c (.i .i64 24))) fun v5=>cnd v5 (C7 [some (.c (.s [])),some (.c (.i .i64 3))] (h ++ [some (Row.mk (c1) true)])) (bnd (A2 .add (.c (.i .i64 1)) v4) fun v6=>bnd (W7 (h ++ [some (Row.mk (c1) true)]) 25 1 (.c (.p h.length 0)) (some (.c (.i .i64 1))) (some v6)) fun v7=>bnd (Q9 (h ++ [some (Row.mk (c1) true)]) v7) fun v8=>bnd (A10 [v8] (h ++ [some (Row.mk (c1) true)])) fun p9=>bnd (C3 p9.1 0) fun v10=>bnd (C3 p9.1 1) fun v11=>bnd (A8 (p9.2 ++ [some (Row.mk (List.replicate 25 (.i .u8 0)) true)]) 25 (.c (.p p9.2.length 0)) v10) fun h12=>bnd (A2 .neq v11 (.c (.i .i64 0))) fun v13=>bnd (gd v13 false (bnd (A3 h12 25 (.c (.p p9.2.length 0))) fun v14=>some (v14,h12)) (some (.no,h12))) fun p15=>bnd (gd v13 false (bnd (A3 p15.2 25 (.c (.p h.length 0))) fun v16=>some (v16,p15.2)) (some (.no,p15.2))) fun p17=>bnd (gd v13 false (bnd (aeq true (List.replicate 25 (.i .u8)) p15.1 p17.1) fun v18=>some (v18,p17.2)) (some (.no,p17.2))) fun p19=>bnd (D3 v13 (.c (.b true)) p19.1) fun v20=>cnd v20 (C7 [some (.c (.s [])),some (.c (.i .i64 3))] p19.2) (C7 [some v8,some (.c (.i .i64 0))] p19.2)):=by kernel_rfl
theorem K_name_Unpack:FnK Try.prog 95 A_name_Unpack A9s A6r:=.mk' (B1 B3q C2) Try.func95 (by kernel_rfl) (fun _ _ _=>C1)
def A4w:Fun:=tidy (Lim A_name_Unpack A9s)
theorem C2V:SOk Try.prog 95 A4w:=K_name_Unpack.sok
theorem C2U:D5 A6r A4w:=K_name_Unpack.flat
def A_name_Less:AFn:=⟨.seq [0,1] (.ops [aO 4 (.mv (.v (.c (.b false))))]) (.seq [4] (.ops [aO 5 (.mv (.t 0)),aO 6 (.mv (.t 1)),aO 7 (.bin .lss (.t 5) (.t 6)),aO 4 (.mv (.t 7))]) .ret),[.tmp 4]⟩
def A9r:A9:=C0
def A9Y (n:Nat) (args:List Val) (h:A0):A6:=ax A9r n A_name_Less.code A_name_Less.fin (params 0 args) h
theorem C0R (n:Nat) (a0 a1:Val) (h:A0):A9Y n [a0,a1] h=bnd (A2 .lss a0 a1) fun v1=>some (v1,h):=by kernel_rfl
theorem K_name_Less:FnK Try.prog 82 A_name_Less A9r A9Y:=.mk' (C2) Try.func82 (by kernel_rfl) (fun _ _ _=>C1)
def A4v:Fun:=tidy (Lim A_name_Less A9r)
theorem C2P:SOk Try.prog 82 A4v:=K_name_Less.sok
theorem C2O:D5 A9Y A4v:=K_name_Less.flat
def B7f:ACode:=.seq [0,1,6,7] (.seq [0,1,6,7,13] (.ops [aO 11 (.mv (.t 6)),aO 12 (.mv (.t 7)),aO 13 (.bin .lss (.t 11) (.t 12))]) (.cond (.t 13) .skip (.exit 0))) (.block 1 (.seq [0,1,6,7,8] (.ops [aO 14 (.mv (.t 6)),aO 15 (.mv (.t 7)),aO 16 (.mv (.t 6)),aO 17 (.bin .sub (.t 15) (.t 16)),aO 18 (.bin .quo (.t 17) (.v (.c (.i .i64 2)))),aO 19 (.bin .add (.t 14) (.t 18)),aO 8 (.mv (.t 19))]) (.seq [0,1,6,7,8,25] (.ops [aO 20 (.mv (.t 0)),aO 21 (.mv (.t 8)),aO 22 (.iAddrL 1 (.t 20) (.t 21)),aO 23 (.load1 (.t 22)),aO 24 (.mv (.t 1)),aO 25 (.call 82 [(.t 23),(.t 24)])]) (.cond (.t 25) (.ops [aO 26 (.mv (.t 8)),aO 27 (.bin .add (.t 26) (.v (.c (.i .i64 1)))),aO 6 (.mv (.t 27))]) (.ops [aO 28 (.mv (.t 8)),aO 7 (.mv (.t 28))])))))
def B7g:ACode:=.seq [4,5] (.draw 0 [aO 29 (.mv (.t 6)),aO 30 (.mv (.t 6)),aO 31 (.mv (.t 0)),aO 32 (.len (.t 31)),aO 33 (.bin .lss (.t 30) (.t 32)),aO 34 (.mv (.t 33)),aG 35 34 true (.mv (.t 0)),aG 36 34 true (.mv (.t 6)),aG 37 34 true (.iAddrL 1 (.t 35) (.t 36)),aG 38 34 true (.load1 (.t 37)),aG 39 34 true (.mv (.t 1)),aG 40 34 true (.bin .eql (.t 38) (.t 39)),aO 41 (.pick (.t 34) (.t 40) (.v (.c (.b false)))),aO 4 (.mv (.t 29))] [aO 5 (.mv (.t 41))]) .ret
def A_name_Place:AFn:=⟨.seq [0,1] (.ops [aO 4 (.mv (.v (.c (.i .i64 0)))),aO 5 (.mv (.v (.c (.b false))))]) (.seq [0,1,6,7] (.ops [aO 9 (.mv (.t 0)),aO 10 (.len (.t 9)),aO 6 (.mv (.v (.c (.i .i64 0)))),aO 7 (.mv (.t 10))]) (.seq [0,1,6] (.block 0 (.loop [0,1,6,7] B7f)) B7g)),[.tmp 4,.tmp 5]⟩
def A3L:A9:=B0 82 A4v C0
def C7p (n:Nat):B3 (Val × A0):=E3 [0,1,6] (ax A3L n B7g) A_name_Place.fin
def C7q (n:Nat):B3 (Val × A0):=D7 0 (C7p n)
def A3o (n m:Nat) (x0 x1 x6 x7:Val) (h:A0):A6:=D1 (ax A3L n B7f) [0,1,6,7] (C7q n) m [(0,x0),(1,x1),(6,x6),(7,x7)] h
def A6p (n:Nat) (args:List Val) (h:A0):A6:=ax A3L n A_name_Place.code A_name_Place.fin (params 0 args) h
theorem C0T (n:Nat) (a0 a1:Val) (h:A0):A6p n [a0,a1] h=bnd (E8 a0) fun v1=>A3o n n a0 a1 (.c (.i .i64 0)) v1 h:=by kernel_rfl
theorem B7h (n m:Nat) (x0 x1 x6 x7:Val) (h:A0):A3o n (m + 1) x0 x1 x6 x7 h=bnd (A2 .lss x6 x7) fun v2=>cnd v2 (bnd (A2 .sub x7 x6) fun v3=>bnd (A2 .quo v3 (.c (.i .i64 2))) fun v4=>bnd (A2 .add x6 v4) fun v5=>bnd (B9 1 x0 v5) fun v6=>bnd (A4 h v6) fun v7=>bnd (A4v [v7,x1] h) fun p8=>cnd p8.1 (bnd (A2 .add v5 (.c (.i .i64 1))) fun v9=>A3o n m x0 x1 v9 x7 p8.2) (A3o n m x0 x1 x6 v5 p8.2)) (bnd (E8 x0) fun v10=>bnd (A2 .lss x6 v10) fun v11=>bnd (gd v11 true (some (x0,(h ++ []))) (some (.no,(h ++ [])))) fun p12=>bnd (gd v11 true (some (x6,p12.2)) (some (.no,p12.2))) fun p13=>bnd (gd v11 true (bnd (B9 1 p12.1 p13.1) fun v14=>some (v14,p13.2)) (some (.no,p13.2))) fun p15=>bnd (gd v11 true (bnd (A4 h p15.1) fun v16=>some (v16,p15.2)) (some (.no,p15.2))) fun p17=>bnd (gd v11 true (some (x1,p17.2)) (some (.no,p17.2))) fun p18=>bnd (gd v11 true (bnd (A2 .eql p17.1 p18.1) fun v19=>some (v19,p18.2)) (some (.no,p18.2))) fun p20=>bnd (D3 v11 p20.1 (.c (.b false))) fun v21=>C7 [some x6,some v21] p20.2):=by kernel_rfl
theorem K_name_Place:FnK Try.prog 53 A_name_Place A3L A6p:=.mk' (B1 C2P C2) Try.func53 (by kernel_rfl) (fun _ _ _=>C1)
def A2Z:Fun:=tidy (Lim A_name_Place A3L)
theorem C2S:SOk Try.prog 53 A2Z:=K_name_Place.sok
theorem C2R:D5 A6p A2Z:=K_name_Place.flat
def B7j:ACode:=.ops [aO 36 (.bin .add (.t 10) (.v (.c (.i .i64 1)))),aO 10 (.mv (.t 36))]
def B1H:ACode:=.seq [3,8,9,10,11] (.ops [aO 11 (.bin .lss (.t 10) (.t 9))]) (.seq [3,8,9,10] (.cond (.t 11) .skip (.exit 0)) (.seq [3,8,9,10] (.block 1 (.seq [3,5,8,9,10] (.ops [aO 12 (.iAddrL 1 (.t 8) (.t 10)),aO 13 (.load1 (.t 12)),aO 5 (.mv (.t 13))]) (.seq [3,5,6,7,8,9,10] (.ops [aO 15 (.mv (.t 3)),aO 16 (.mv (.t 5)),aO 17 (.call 53 [(.t 15),(.t 16)]),aO 14 (.mv (.t 17)),aO 18 (.ext (.t 14) 0),aO 19 (.ext (.t 14) 1),aO 6 (.mv (.t 18)),aO 7 (.mv (.t 19))]) (.seq [3,5,6,8,9,10] (.seq [3,5,6,8,9,10,20] (.ops [aO 20 (.mv (.t 7))]) (.cond (.t 20) (.exit 1) .skip)) (.seq [3,5,6,8,9,10] (.ops [aO 21 (.mv (.t 3)),aO 22 (.buildSl 1 1 ([.s []]) [(0,1,(.v (.c (.s []))))]),aO 23 (.app 1 (.t 21) (.t 22)),aO 3 (.mv (.t 23))]) (.seq [3,5,6,8,9,10] (.draw 0 [aO 24 (.mv (.t 3)),aO 25 (.mv (.t 6)),aO 26 (.bin .add (.t 25) (.v (.c (.i .i64 1)))),aO 27 (.slL 1 (.t 24) (some (.t 26)) none),aO 28 (.mv (.t 3)),aO 29 (.mv (.t 6)),aO 30 (.slL 1 (.t 28) (some (.t 29)) none)] [aO 31 (.copy 1 (.t 27) (.t 30))]) (.ops [aO 32 (.mv (.t 3)),aO 33 (.mv (.t 6)),aO 34 (.mv (.t 5)),aO 35 (.iAddrL 1 (.t 32) (.t 33)),aN (.store1 (.t 35) (.t 34))]))))))) B7j))
def B7i:ACode:=.seq [2] (.ops [aO 37 (.mv (.t 3)),aO 2 (.mv (.t 37))]) .ret
def A_name_Sort:AFn:=⟨.seq [0] (.ops [aO 2 (.nilrow 1)]) (.seq [0,3] (.ops [aO 3 (.nilrow 1)]) (.seq [3] (.seq [3,8,9,10] (.ops [aO 8 (.mv (.t 0)),aO 9 (.len (.t 8)),aO 10 (.mv (.v (.c (.i .i64 0))))]) (.block 0 (.loop [3,8,9,10] B1H))) B7i)),[.tmp 2]⟩
def A1J:A9:=B0 53 A2Z C0
def C7r (n:Nat):B3 (Val × A0):=E3 [3] (ax A1J n B7i) A_name_Sort.fin
def B1J (n:Nat):B3 (Val × A0):=D7 0 (C7r n)
def A75 (n m:Nat) (x3 x8 x9 x10:Val) (h:A0):A6:=D1 (ax A1J n B1H) [3,8,9,10] (B1J n) m [(3,x3),(8,x8),(9,x9),(10,x10)] h
def A6q (n:Nat) (args:List Val) (h:A0):A6:=ax A1J n A_name_Sort.code A_name_Sort.fin (params 0 args) h
def C7s (n m:Nat):B3 (Val × A0):=T0 [3,8,9,10] (D1 (ax A1J n B1H) [3,8,9,10] (B1J n) m) (B1J n)
def B1I (n m:Nat) (x3 x8 x9 x10:Val) (h:A0):A6:=hold ((ax A1J n B7j) (C7s n m) [(3,x3),(8,x8),(9,x9),(10,x10)] h)
theorem C0U (n:Nat) (a0:Val) (h:A0):A6q n [a0] h=bnd (E8 a0) fun v1=>A75 n n (.c (.sl (h ++ [some (Row.mk ([]) true)]).length 0 0 1)) a0 v1 (.c (.i .i64 0)) ((h ++ [some (Row.mk ([]) true)]) ++ [some (Row.mk ([]) true)]):=by kernel_rfl
theorem B7m (n m:Nat) (x3 x8 x9 x10:Val) (h:A0):A75 n (m + 1) x3 x8 x9 x10 h=bnd (A2 .lss x10 x9) fun v2=>cnd v2 (bnd (B9 1 x8 x10) fun v3=>bnd (A4 h v3) fun v4=>bnd (A2Z [x3,v4] h) fun p5=>bnd (C3 p5.1 0) fun v6=>bnd (C3 p5.1 1) fun v7=>cnd v7 (B1I n m x3 x8 x9 x10 p5.2) (bnd (A7 ([.s []]) [(0,1,.c (.s []))]) fun c8=>bnd (F0 (p5.2 ++ [some (Row.mk (c8) true)]) 1 x3 (.c (.sl p5.2.length 0 1 1))) fun p9=>bnd (A2 .add v6 (.c (.i .i64 1))) fun v10=>bnd (A2g 1 p9.1 (some v10) none) fun v11=>bnd (A2g 1 p9.1 (some v6) none) fun v12=>bnd (A2a (p9.2 ++ []) 1 v11 v12) fun p13=>bnd (B9 1 p9.1 v6) fun v14=>bnd (E4 p13.2 v14 v4) fun h15=>B1I n m p9.1 x8 x9 x10 h15)) (some (x3,h)):=by kernel_rfl
theorem B7l (n m:Nat) (x3 x8 x9 x10:Val) (h:A0):B1I n m x3 x8 x9 x10 h=bnd (A2 .add x10 (.c (.i .i64 1))) fun v16=>A75 n m x3 x8 x9 v16 h:=by kernel_rfl
theorem K_name_Sort:FnK Try.prog 29 A_name_Sort A1J A6q:=.mk' (B1 C2S C2) Try.func29 (by kernel_rfl) (fun _ _ _=>C1)
def A0H:Fun:=tidy (Lim A_name_Sort A1J)
theorem B3r:SOk Try.prog 29 A0H:=K_name_Sort.sok
theorem C2T:V4 A6q A0H:=K_name_Sort.out
end Go.Proofs.Yteckncopbicmcaa
end
