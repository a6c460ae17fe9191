/- What the proof of this claim leans on, part 3. -/
import Derived.Test.YteckncopbicmcaaFTreeClosesp2
set_option linter.all false
section
namespace Go.Proofs.Yteckncopbicmcaa
open Go Go.Esc
def A5a (h:Nat) (c:UInt8):Nat:=((h ^^^ c.toNat) * 16777619) % 4294967296
def A7V (h:Nat) (s:List UInt8):Nat:=s.foldl A5a h
def Y9 (s:List UInt8):Nat:=A7V 2166136261 s
theorem B6H {h:Nat} {c:UInt8}:A5a h c < 4294967296:=Nat.mod_lt _ (by omega)
theorem C6N {s:List UInt8}:∀ {h:Nat},h < 4294967296 → A7V h s < 4294967296:=by
  induction s with
  | nil=>intro h hh;exact hh
  | cons c s ih=>intro h _;exact ih B6H
theorem B6G {s:List UInt8}:Y9 s < 4294967296:=C6N (by omega)
theorem D0o {a:Int}:IntKind.wrap .u32 a=a % 4294967296:=by
  simp only [IntKind.wrap,IntKind.bits,IntKind.signed,Bool.false_and]
  rfl
theorem B6L {s:List UInt8} (hs:s.length < 9223372036854775807) {q:Nat} {h:A0}:∀ (d i m H:Nat),i + d=s.length → d < m → H < 4294967296 →
    A7W q m (.c (.i .u32 H)) (.c (.s s)) (.c (.i .i64 s.length)) (.c (.i .i64 i)) h=some (.c (.i .u32 ((A7V H (s.drop i):Nat):Int)),h)
  | d,i,0,H,_,hm,_=>by omega
  | 0,i,m + 1,H,hi,hm,hH=>by
    have c0:¬ (i:Int) < s.length:=by omega
    rw [B6K,List.drop_of_length_le (by omega)]
    simp only [esc,c0,A7V,List.foldl_nil]
  | d + 1,i,m + 1,H,hi,hm,hH=>by
    have h2:i < s.length:=by omega
    have hb:=s[i].toNat_lt
    have ih:=B6L hs (q:=q) (h:=h) d (i + 1) m (A5a H s[i]) (by omega) (by omega) B6H
    have c0:(i:Int) < s.length:=by omega
    have e1:IntKind.wrap .u32 (s[i].toNat:Int)=s[i].toNat:=wrap_u32 (by omega) (by omega)
    have e2:=D0p (a:=H) (b:=s[i].toNat) hH (by omega)
    have e3:IntKind.wrap .u32 (((H ^^^ s[i].toNat:Nat):Int) * 16777619)=((A5a H s[i]:Nat):Int):=by
      rw [D0o];unfold A5a;omega
    rw [B6K,List.drop_eq_getElem_cons h2]
    simp only [esc,c0,A4Y h2,e1,e2,e3,E2 (show i + 1 < 9223372036854775808 by omega)]
    exact ih
theorem B6M {s:List UInt8} (hs:s.length < 9223372036854775807) {h:A0}:A1U [.c (.s s)] h=some (.c (.i .u32 ((Y9 s:Nat):Int)),h):=by
  have hm:∀ h,A4m [.c (.i .u32 2166136261),.c (.s s)] h=some (.c (.i .u32 ((Y9 s:Nat):Int)),h):=fun h=>by
    refine C2l (n:=s.length + 1) (h2:=ro h) ?_ rfl
    rw [C0p]
    have:=B6L hs (q:=s.length + 1) (h:=ro h) s.length 0 (s.length + 1) 2166136261 (by omega) (by omega) (by omega)
    simp only [esc]
    exact this
  refine C2n (n:=0) (h2:=ro h) ?_ rfl
  rw [C0q]
  simp only [esc,hm]
end Go.Proofs.Yteckncopbicmcaa
end
noncomputable section
namespace Go.Proofs.Yteckncopbicmcaa
open Go Go.Esc
set_option maxRecDepth 100000
def B8A:ACode:=.cond (.t 10) (.seq [2] (.ops [aO 2 (.mv (.v (.c (.i .i64 1))))]) .ret) (.seq [21] (.ops [aO 22 (.fAddr (.t 1) 1),aO 23 (.load1 (.t 22)),aO 24 (.bin .quo (.t 23) (.v (.c (.i .i64 8)))),aO 25 (.bin .add (.v (.c (.i .i64 2))) (.t 24)),aO 26 (.fAddr (.t 1) 0),aO 27 (.load1 (.t 26)),aO 28 (.bin .geq (.t 25) (.t 27)),aO 21 (.mv (.t 28))]) (.cond (.t 21) (.seq [2] (.ops [aO 2 (.mv (.v (.c (.i .i64 1))))]) .ret) .skip))
def B8z:ACode:=.cond (.t 3) (.seq [2] (.ops [aO 2 (.mv (.v (.c (.i .i64 1))))]) .ret) (.seq [1,10] (.seq [1,10] (.ops [aO 11 (.fAddr (.t 1) 1),aO 12 (.load1 (.t 11)),aO 13 (.bin .lss (.t 12) (.v (.c (.i .i64 8)))),aO 10 (.mv (.t 13))]) (.cond (.t 10) .skip (.seq [1,10] (.ops [aO 14 (.fAddr (.t 1) 1),aO 15 (.load1 (.t 14)),aO 16 (.bin .gtr (.t 15) (.v (.c (.i .i64 128)))),aO 10 (.mv (.t 16))]) (.cond (.t 10) .skip (.ops [aO 17 (.fAddr (.t 1) 1),aO 18 (.load1 (.t 17)),aO 19 (.bin .rem (.t 18) (.v (.c (.i .i64 8)))),aO 20 (.bin .neq (.t 19) (.v (.c (.i .i64 0)))),aO 10 (.mv (.t 20))]))))) B8A)
def B8y:ACode:=.seq [2] (.ops [aO 2 (.mv (.v (.c (.i .i64 0))))]) .ret
def A_super_Check:AFn:=⟨.seq [1] (.ops [aO 1 (.box (.t 0)),aO 2 (.mv (.v (.c (.i .i64 0))))]) (.seq [] (.block 0 (.seq [1,3] (.seq [1,3] (.ops [aO 4 (.fAddr (.t 1) 0),aO 5 (.load1 (.t 4)),aO 6 (.bin .lss (.t 5) (.v (.c (.i .i64 16)))),aO 3 (.mv (.t 6))]) (.cond (.t 3) .skip (.ops [aO 7 (.fAddr (.t 1) 0),aO 8 (.load1 (.t 7)),aO 9 (.bin .gtr (.t 8) (.v (.c (.i .i64 512)))),aO 3 (.mv (.t 9))]))) B8z)) B8y),[.tmp 2]⟩
def A2R:A9:=C0
def C9n (n:Nat):B4 (Val × A0):=E3 [] (ax A2R n B8y) A_super_Check.fin
def B8B (n:Nat):B4 (Val × A0):=D9 0 (C9n n)
def B2b (n:Nat) (x1 x3:Val) (h:A0):A6:=hold ((ax A2R n B8z) (B8B n) [(1,x1),(3,x3)] h)
def A6v (n:Nat) (args:List Val) (h:A0):A6:=ax A2R n A_super_Check.code A_super_Check.fin (params 0 args) h
def A8y (n:Nat) (x1 x10:Val) (h:A0):A6:=hold ((ax A2R n B8A) (B8B n) [(1,x1),(10,x10)] h)
theorem C0J (n:Nat) (a0:Val) (h:A0):A6v n [a0] h=bnd (cells? a0) fun c1=>bnd (B3 (.c (.p h.length 0)) 0) fun v2=>bnd (A4 (h ++ [some (Row.mk (c1) true)]) v2) fun v3=>bnd (A2 .lss v3 (.c (.i .i64 16))) fun v4=>cnd v4 (B2b n (.c (.p h.length 0)) v4 (h ++ [some (Row.mk (c1) true)])) (bnd (B3 (.c (.p h.length 0)) 0) fun v5=>bnd (A4 (h ++ [some (Row.mk (c1) true)]) v5) fun v6=>bnd (A2 .gtr v6 (.c (.i .i64 512))) fun v7=>B2b n (.c (.p h.length 0)) v7 (h ++ [some (Row.mk (c1) true)])):=by kernel_rfl
theorem A2G (n:Nat) (x1 x3:Val) (h:A0):B2b n x1 x3 h=cnd x3 (some ((.c (.i .i64 1)),h)) (bnd (B3 x1 1) fun v8=>bnd (A4 h v8) fun v9=>bnd (A2 .lss v9 (.c (.i .i64 8))) fun v10=>cnd v10 (A8y n x1 v10 h) (bnd (B3 x1 1) fun v11=>bnd (A4 h v11) fun v12=>bnd (A2 .gtr v12 (.c (.i .i64 128))) fun v13=>cnd v13 (A8y n x1 v13 h) (bnd (B3 x1 1) fun v14=>bnd (A4 h v14) fun v15=>bnd (A2 .rem v15 (.c (.i .i64 8))) fun v16=>bnd (A2 .neq v16 (.c (.i .i64 0))) fun v17=>A8y n x1 v17 h))):=by kernel_rfl
theorem A5v (n:Nat) (x1 x10:Val) (h:A0):A8y n x1 x10 h=cnd x10 (some ((.c (.i .i64 1)),h)) (bnd (B3 x1 1) fun v18=>bnd (A4 h v18) fun v19=>bnd (A2 .quo v19 (.c (.i .i64 8))) fun v20=>bnd (A2 .add (.c (.i .i64 2)) v20) fun v21=>bnd (B3 x1 0) fun v22=>bnd (A4 h v22) fun v23=>bnd (A2 .geq v21 v23) fun v24=>cnd v24 (some ((.c (.i .i64 1)),h)) (some ((.c (.i .i64 0)),h))):=by kernel_rfl
theorem K_super_Check:FnK Try.prog 65 A_super_Check A2R A6v:=.mk' (C2) Try.func65 (by kernel_rfl) (fun _ _ _=>C1)
def A1X:Fun:=tidy (Lim A_super_Check A2R)
theorem B3b:SOk Try.prog 65 A1X:=K_super_Check.sok
theorem C2P:D5 A6v A1X:=K_super_Check.flat
def A_super_Put:AFn:=⟨.seq [1,2] (.ops [aO 1 (.box (.t 0)),aO 2 (.alloc (List.replicate 256 (.i .u8 0))),aO 3 (.mv (.v (.c (.i .i64 0))))]) (.seq [1,2] (.seq [1,2,4] (.ops [aO 9 (.loadN 3 (.t 1)),aO 10 (.call 65 [(.t 9)]),aO 4 (.mv (.t 10))]) (.seq [1,2,4,12] (.ops [aO 11 (.mv (.t 4)),aO 12 (.bin .neq (.t 11) (.v (.c (.i .i64 0))))]) (.cond (.t 12) (.seq [2,3] (.ops [aO 13 (.build (List.replicate 256 (.i .u8 0)) []),aO 14 (.mv (.t 4)),aN (.storeN 256 (.t 2) (.t 13)),aO 3 (.mv (.t 14))]) .ret) .skip))) (.seq [1,2,5] (.ops [aO 15 (.buildSl 1 8 ([.i .u8 0,.i .u8 0,.i .u8 0,.i .u8 0,.i .u8 0,.i .u8 0,.i .u8 0,.i .u8 0]) [(0,1,(.v (.c (.i .u8 101)))),(1,1,(.v (.c (.i .u8 115)))),(2,1,(.v (.c (.i .u8 99)))),(3,1,(.v (.c (.i .u8 104)))),(4,1,(.v (.c (.i .u8 101)))),(5,1,(.v (.c (.i .u8 97)))),(6,1,(.v (.c (.i .u8 116)))),(7,1,(.v (.c (.i .u8 49))))]),aO 16 (.mark (.t 15)),aO 17 (.call 66 [(.t 16)]),aO 5 (.alloc (List.replicate 256 (.i .u8 0))),aN (.storeN 256 (.t 5) (.t 17))]) (.seq [1,2,5] (.ops [aO 18 (.loadN 256 (.t 5)),aO 19 (.fAddr (.t 1) 0),aO 20 (.load1 (.t 19)),aO 21 (.call 67 [(.t 18),(.v (.c (.i .i64 8))),(.v (.c (.i .i64 2))),(.t 20)]),aN (.storeN 256 (.t 5) (.t 21))]) (.seq [1,2,5] (.ops [aO 22 (.loadN 256 (.t 5)),aO 23 (.fAddr (.t 1) 1),aO 24 (.load1 (.t 23)),aO 25 (.call 67 [(.t 22),(.v (.c (.i .i64 10))),(.v (.c (.i .i64 2))),(.t 24)]),aN (.storeN 256 (.t 5) (.t 25))]) (.seq [2,5,6] (.draw 1 [aS 27 0 (.mkSl 1 ([.i .u8 0]) (.v (.c (.i .i64 8))) (.v (.c (.i .i64 8)))),aO 28 (.fAddr (.t 1) 2),aO 29 (.load1 (.t 28)),aO 30 (.call 68 [(.t 27),(.v (.c (.i .i64 0))),(.v (.c (.i .i64 8))),(.t 29)]),aO 26 (.mv (.t 30)),aO 31 (.ext (.t 26) 0),aO 32 (.ext (.t 26) 1),aO 6 (.mv (.t 31))] [aO 7 (.mv (.t 32))]) (.seq [2,5] (.ops [aO 33 (.loadN 256 (.t 5)),aO 34 (.mv (.t 6)),aO 35 (.call 69 [(.t 33),(.v (.c (.i .i64 12))),(.t 34)]),aN (.storeN 256 (.t 5) (.t 35))]) (.seq [2,5,8] (.ops [aO 36 (.loadN 256 (.t 5)),aO 37 (.call 46 [(.t 36),(.v (.c (.i .i64 0))),(.v (.c (.i .i64 20)))]),aO 38 (.b2s (.t 37)),aO 39 (.call 56 [(.t 38)]),aO 8 (.mv (.t 39))]) (.seq [2,3] (.ops [aO 40 (.loadN 256 (.t 5)),aO 41 (.mv (.t 8)),aO 42 (.conv .i64 (.t 41)),aO 43 (.call 67 [(.t 40),(.v (.c (.i .i64 20))),(.v (.c (.i .i64 4))),(.t 42)]),aN (.storeN 256 (.t 2) (.t 43)),aO 3 (.mv (.v (.c (.i .i64 0))))]) .ret)))))))),[.cellN 2 256,.tmp 3]⟩
def A9r:A9:=B0 65 A1X (B0 66 X6 (B0 67 Q3 (B0 68 A4r (B0 69 A0C (B0 46 X5 (B0 56 A1U C0))))))
def A6x (n:Nat) (args:List Val) (h:A0):A6:=ax A9r n A_super_Put.code A_super_Put.fin (params 0 args) h
theorem C0L (n:Nat) (a0:Val) (h:A0):A6x n [a0] h=bnd (cells? a0) fun c1=>bnd (A3 ((h ++ [some (Row.mk (c1) true)]) ++ [some (Row.mk (List.replicate 256 (.i .u8 0)) true)]) 3 (.c (.p h.length 0))) fun v2=>bnd (A1X [v2] ((h ++ [some (Row.mk (c1) true)]) ++ [some (Row.mk (List.replicate 256 (.i .u8 0)) true)])) fun p3=>bnd (A2 .neq p3.1 (.c (.i .i64 0))) fun v4=>cnd v4 (bnd (A7 (List.replicate 256 (.i .u8 0)) []) fun c5=>bnd (A8 p3.2 256 (.c (.p (h ++ [some (Row.mk (c1) true)]).length 0)) (.a c5)) fun h6=>C7 [A3 h6 256 (.c (.p (h ++ [some (Row.mk (c1) true)]).length 0)),some p3.1] h6) (bnd (A7 ([.i .u8 0,.i .u8 0,.i .u8 0,.i .u8 0,.i .u8 0,.i .u8 0,.i .u8 0,.i .u8 0]) [(0,1,.c (.i .u8 101)),(1,1,.c (.i .u8 115)),(2,1,.c (.i .u8 99)),(3,1,.c (.i .u8 104)),(4,1,.c (.i .u8 101)),(5,1,.c (.i .u8 97)),(6,1,.c (.i .u8 116)),(7,1,.c (.i .u8 49))]) fun c7=>bnd (U0 (p3.2 ++ [some (Row.mk (c7) true)]) (.c (.sl p3.2.length 0 8 1))) fun v8=>bnd (X6 [v8] (p3.2 ++ [some (Row.mk (c7) true)])) fun p9=>bnd (A8 (p9.2 ++ [some (Row.mk (List.replicate 256 (.i .u8 0)) true)]) 256 (.c (.p p9.2.length 0)) p9.1) fun h10=>bnd (A3 h10 256 (.c (.p p9.2.length 0))) fun v11=>bnd (B3 (.c (.p h.length 0)) 0) fun v12=>bnd (A4 h10 v12) fun v13=>bnd (Q3 [v11,.c (.i .i64 8),.c (.i .i64 2),v13] h10) fun p14=>bnd (A8 p14.2 256 (.c (.p p9.2.length 0)) p14.1) fun h15=>bnd (A3 h15 256 (.c (.p p9.2.length 0))) fun v16=>bnd (B3 (.c (.p h.length 0)) 1) fun v17=>bnd (A4 h15 v17) fun v18=>bnd (Q3 [v16,.c (.i .i64 10),.c (.i .i64 2),v18] h15) fun p19=>bnd (A8 p19.2 256 (.c (.p p9.2.length 0)) p19.1) fun h20=>bnd (A0I (.c (.i .i64 8)) (.c (.i .i64 8))) fun n21=>bnd (B3 (.c (.p h.length 0)) 2) fun v22=>bnd (A4 h20 v22) fun v23=>bnd (quiet ((h20 ++ [none]).set (h20.length + 0) (some (Row.mk (rows ([.i .u8 0]) n21) true))) (A4r [(.c (.sl (h20.length + 0) 0 n21 1)),.c (.i .i64 0),.c (.i .i64 8),v23] ((h20 ++ [none]).set (h20.length + 0) (some (Row.mk (rows ([.i .u8 0]) n21) true))))) fun p24=>bnd (C3 p24.1 0) fun v25=>bnd (C3 p24.1 1) fun v26=>bnd (A3 p24.2 256 (.c (.p p9.2.length 0))) fun v27=>bnd (A0C [v27,.c (.i .i64 12),v25] p24.2) fun p28=>bnd (A8 p28.2 256 (.c (.p p9.2.length 0)) p28.1) fun h29=>bnd (A3 h29 256 (.c (.p p9.2.length 0))) fun v30=>bnd (X5 [v30,.c (.i .i64 0),.c (.i .i64 20)] h29) fun p31=>bnd (Q4 p31.2 p31.1) fun v32=>bnd (A1U [v32] p31.2) fun p33=>bnd (A3 p33.2 256 (.c (.p p9.2.length 0))) fun v34=>bnd (K6 .i64 p33.1) fun v35=>bnd (Q3 [v34,.c (.i .i64 20),.c (.i .i64 4),v35] p33.2) fun p36=>bnd (A8 p36.2 256 (.c (.p (h ++ [some (Row.mk (c1) true)]).length 0)) p36.1) fun h37=>C7 [A3 h37 256 (.c (.p (h ++ [some (Row.mk (c1) true)]).length 0)),some (.c (.i .i64 0))] h37):=by kernel_rfl
theorem K_super_Put:FnK Try.prog 41 A_super_Put A9r A6x:=.mk' (B1 B3b (B1 A6N (B1 A92 (B1 C2D (B1 A91 (B1 A6M (B1 B27 C2))))))) Try.func41 (by kernel_rfl) (fun _ _ _=>C1)
def A1Y:Fun:=tidy (Lim A_super_Put A9r)
theorem B3c:SOk Try.prog 41 A1Y:=K_super_Put.sok
theorem C2S:D5 A6x A1Y:=K_super_Put.flat
def A_super_Get:AFn:=⟨.seq [1,2] (.ops [aO 1 (.box (.t 0)),aO 2 (.alloc ([.i .i64 0,.i .i64 0,.i .u64 0])),aO 3 (.mv (.v (.c (.i .i64 0))))]) (.seq [1,2,4] (.ops [aO 10 (.loadN 256 (.t 1)),aO 11 (.call 46 [(.t 10),(.v (.c (.i .i64 12))),(.v (.c (.i .i64 8)))]),aO 12 (.call 45 [(.t 11),(.v (.c (.i .i64 0))),(.v (.c (.i .i64 8)))]),aO 9 (.mv (.t 12)),aO 13 (.ext (.t 9) 0),aO 14 (.ext (.t 9) 1),aO 4 (.mv (.t 13)),aO 5 (.mv (.t 14))]) (.seq [1,2,6] (.draw 1 [aO 15 (.loadN 256 (.t 1)),aO 16 (.call 47 [(.t 15),(.v (.c (.i .i64 8))),(.v (.c (.i .i64 2)))]),aO 17 (.loadN 256 (.t 1)),aO 18 (.call 47 [(.t 17),(.v (.c (.i .i64 10))),(.v (.c (.i .i64 2)))]),aO 19 (.mv (.t 4)),aO 20 (.build ([.i .i64 0,.i .i64 0,.i .u64 0]) [(0,1,(.t 16)),(1,1,(.t 18)),(2,1,(.t 19))]),aS 6 0 (.alloc ([.i .i64 0,.i .i64 0,.i .u64 0]))] [aN (.storeN 3 (.t 6) (.t 20))]) (.seq [2,6] (.seq [1,2,6,7,8] (.ops [aO 22 (.loadN 3 (.t 6)),aO 23 (.call 41 [(.t 22)]),aO 21 (.mv (.t 23)),aO 24 (.ext (.t 21) 0),aO 25 (.ext (.t 21) 1),aO 7 (.alloc (List.replicate 256 (.i .u8 0))),aN (.storeN 256 (.t 7) (.t 24)),aO 8 (.mv (.t 25))]) (.seq [2,6,32] (.ops [aO 26 (.mv (.t 8)),aO 27 (.bin .neq (.t 26) (.v (.c (.i .i64 0)))),aO 28 (.mv (.t 27)),aG 29 28 false (.loadN 256 (.t 7)),aG 30 28 false (.loadN 256 (.t 1)),aG 31 28 false (.eqA true (List.replicate 256 (.i .u8)) (.t 29) (.t 30)),aO 32 (.pick (.t 28) (.v (.c (.b true))) (.t 31))]) (.cond (.t 32) (.seq [2,3] (.ops [aO 33 (.build ([.i .i64 0,.i .i64 0,.i .u64 0]) []),aN (.storeN 3 (.t 2) (.t 33)),aO 3 (.mv (.v (.c (.i .i64 13))))]) .ret) .skip))) (.seq [2,3] (.ops [aO 34 (.loadN 3 (.t 6)),aN (.storeN 3 (.t 2) (.t 34)),aO 3 (.mv (.v (.c (.i .i64 0))))]) .ret)))),[.cellN 2 3,.tmp 3]⟩
def A9q:A9:=B0 46 X5 (B0 45 A4q (B0 47 L8 (B0 41 A1Y C0)))
def A6w (n:Nat) (args:List Val) (h:A0):A6:=ax A9q n A_super_Get.code A_super_Get.fin (params 0 args) h
theorem C0K (n:Nat) (a0:Val) (h:A0):A6w n [a0] h=bnd (cells? a0) fun c1=>bnd (A3 ((h ++ [some (Row.mk (c1) true)]) ++ [some (Row.mk ([.i .i64 0,.i .i64 0,.i .u64 0]) true)]) 256 (.c (.p h.length 0))) fun v2=>bnd (X5 [v2,.c (.i .i64 12),.c (.i .i64 8)] ((h ++ [some (Row.mk (c1) true)]) ++ [some (Row.mk ([.i .i64 0,.i .i64 0,.i .u64 0]) true)])) fun p3=>bnd (A4q [p3.1,.c (.i .i64 0),.c (.i .i64 8)] p3.2) fun p4=>bnd (C3 p4.1 0) fun v5=>bnd (C3 p4.1 1) fun v6=>bnd (A3 p4.2 256 (.c (.p h.length 0))) fun v7=>bnd (quiet (p4.2 ++ [none]) (L8 [v7,.c (.i .i64 8),.c (.i .i64 2)] (p4.2 ++ [none]))) fun p8=>bnd (A3 p4.2 256 (.c (.p h.length 0))) fun v9=>bnd (quiet p8.2 (L8 [v9,.c (.i .i64 10),.c (.i .i64 2)] p8.2)) fun p10=>bnd (A7 ([.i .i64 0,.i .i64 0,.i .u64 0]) [(0,1,p8.1),(1,1,p10.1),(2,1,v5)]) fun c11=>bnd (A8 (p10.2.set (p4.2.length + 0) (some (Row.mk ([.i .i64 0,.i .i64 0,.i .u64 0]) true))) 3 (.c (.p (p4.2.length + 0) 0)) (.a c11)) fun h12=>bnd (A3 h12 3 (.c (.p (p4.2.length + 0) 0))) fun v13=>bnd (A1Y [v13] h12) fun p14=>bnd (C3 p14.1 0) fun v15=>bnd (C3 p14.1 1) fun v16=>bnd (A8 (p14.2 ++ [some (Row.mk (List.replicate 256 (.i .u8 0)) true)]) 256 (.c (.p p14.2.length 0)) v15) fun h17=>bnd (A2 .neq v16 (.c (.i .i64 0))) fun v18=>bnd (gd v18 false (bnd (A3 h17 256 (.c (.p p14.2.length 0))) fun v19=>some (v19,h17)) (some (.no,h17))) fun p20=>bnd (gd v18 false (bnd (A3 p20.2 256 (.c (.p h.length 0))) fun v21=>some (v21,p20.2)) (some (.no,p20.2))) fun p22=>bnd (gd v18 false (bnd (aeq true (List.replicate 256 (.i .u8)) p20.1 p22.1) fun v23=>some (v23,p22.2)) (some (.no,p22.2))) fun p24=>bnd (C9 v18 (.c (.b true)) p24.1) fun v25=>cnd v25 (bnd (A7 ([.i .i64 0,.i .i64 0,.i .u64 0]) []) fun c26=>bnd (A8 p24.2 3 (.c (.p (h ++ [some (Row.mk (c1) true)]).length 0)) (.a c26)) fun h27=>C7 [A3 h27 3 (.c (.p (h ++ [some (Row.mk (c1) true)]).length 0)),some (.c (.i .i64 13))] h27) (bnd (A3 p24.2 3 (.c (.p (p4.2.length + 0) 0))) fun v28=>bnd (A8 p24.2 3 (.c (.p (h ++ [some (Row.mk (c1) true)]).length 0)) v28) fun h29=>C7 [A3 h29 3 (.c (.p (h ++ [some (Row.mk (c1) true)]).length 0)),some (.c (.i .i64 0))] h29):=by kernel_rfl
theorem K_super_Get:FnK Try.prog 22 A_super_Get A9q A6w:=.mk' (B1 A6M (B1 C2A (B1 A4p (B1 B3c C2)))) Try.func22 (by kernel_rfl) (fun _ _ _=>C1)
def A4w:Fun:=tidy (Lim A_super_Get A9q)
theorem C2R:SOk Try.prog 22 A4w:=K_super_Get.sok
theorem C2Q:D5 A6w A4w:=K_super_Get.flat
end Go.Proofs.Yteckncopbicmcaa
end
noncomputable section
namespace Go.Proofs.Yteckncopbicmcaa
open Go Go.Esc
set_option maxRecDepth 100000
def A_geom_ok:AFn:=⟨.seq [1] (.ops [aO 1 (.box (.t 0)),aO 2 (.mv (.v (.c (.b false))))]) (.seq [2] (.ops [aO 3 (.loadN 3 (.t 1)),aO 4 (.call 65 [(.t 3)]),aO 5 (.bin .eql (.t 4) (.v (.c (.i .i64 0)))),aO 2 (.mv (.t 5))]) .ret),[.tmp 2]⟩
def A9a:A9:=B0 65 A1X C0
def A54 (n:Nat) (args:List Val) (h:A0):A6:=ax A9a n A_geom_ok.code A_geom_ok.fin (params 0 args) h
theorem B99 (n:Nat) (a0:Val) (h:A0):A54 n [a0] h=bnd (cells? a0) fun c1=>bnd (A3 (h ++ [some (Row.mk (c1) true)]) 3 (.c (.p h.length 0))) fun v2=>bnd (A1X [v2] (h ++ [some (Row.mk (c1) true)])) fun p3=>bnd (A2 .eql p3.1 (.c (.i .i64 0))) fun v4=>some (v4,p3.2):=by kernel_rfl
theorem K_geom_ok:FnK Try.prog 57 A_geom_ok A9a A54:=.mk' (B1 B3b C2) Try.func57 (by kernel_rfl) (fun _ _ _=>C1)
def A0z:Fun:=tidy (Lim A_geom_ok A9a)
theorem A9Z:SOk Try.prog 57 A0z:=K_geom_ok.sok
theorem C1V:D5 A54 A0z:=K_geom_ok.flat
def A_geom_IsInode:AFn:=⟨.seq [1,2] (.ops [aO 2 (.box (.t 0)),aO 4 (.mv (.v (.c (.b false))))]) (.seq [4] (.ops [aO 5 (.loadN 3 (.t 2)),aO 6 (.call 57 [(.t 5)]),aO 7 (.mv (.t 6)),aG 8 7 true (.mv (.t 1)),aG 9 7 true (.bin .geq (.t 8) (.v (.c (.i .i64 1)))),aO 10 (.pick (.t 7) (.t 9) (.v (.c (.b false)))),aO 11 (.mv (.t 10)),aG 12 11 true (.mv (.t 1)),aG 13 11 true (.fAddr (.t 2) 1),aG 14 11 true (.load1 (.t 13)),aG 15 11 true (.bin .leq (.t 12) (.t 14)),aO 16 (.pick (.t 11) (.t 15) (.v (.c (.b false)))),aO 4 (.mv (.t 16))]) .ret),[.tmp 4]⟩
def A86:A9:=B0 57 A0z C0
def A51 (n:Nat) (args:List Val) (h:A0):A6:=ax A86 n A_geom_IsInode.code A_geom_IsInode.fin (params 0 args) h
theorem B95 (n:Nat) (a0 a1:Val) (h:A0):A51 n [a0,a1] h=bnd (cells? a0) fun c1=>bnd (A3 (h ++ [some (Row.mk (c1) true)]) 3 (.c (.p h.length 0))) fun v2=>bnd (A0z [v2] (h ++ [some (Row.mk (c1) true)])) fun p3=>bnd (gd p3.1 true (some (a1,p3.2)) (some (.no,p3.2))) fun p4=>bnd (gd p3.1 true (bnd (A2 .geq p4.1 (.c (.i .i64 1))) fun v5=>some (v5,p4.2)) (some (.no,p4.2))) fun p6=>bnd (C9 p3.1 p6.1 (.c (.b false))) fun v7=>bnd (gd v7 true (some (a1,p6.2)) (some (.no,p6.2))) fun p8=>bnd (gd v7 true (bnd (B3 (.c (.p h.length 0)) 1) fun v9=>some (v9,p8.2)) (some (.no,p8.2))) fun p10=>bnd (gd v7 true (bnd (A4 p10.2 p10.1) fun v11=>some (v11,p10.2)) (some (.no,p10.2))) fun p12=>bnd (gd v7 true (bnd (A2 .leq p8.1 p12.1) fun v13=>some (v13,p12.2)) (some (.no,p12.2))) fun p14=>bnd (C9 v7 p14.1 (.c (.b false))) fun v15=>some (v15,p14.2):=by kernel_rfl
theorem K_geom_IsInode:FnK Try.prog 48 A_geom_IsInode A86 A51:=.mk' (B1 A9Z C2) Try.func48 (by kernel_rfl) (fun _ _ _=>C1)
def A4a:Fun:=tidy (Lim A_geom_IsInode A86)
theorem C1P:SOk Try.prog 48 A4a:=K_geom_IsInode.sok
theorem C1O:D5 A51 A4a:=K_geom_IsInode.flat
def A_geom_Map:AFn:=⟨.seq [] (.ops [aO 0 (.mv (.v (.c (.i .i64 0))))]) (.seq [0] (.ops [aO 0 (.mv (.v (.c (.i .i64 1))))]) .ret),[.tmp 0]⟩
def A87:A9:=C0
def A9K (n:Nat) (args:List Val) (h:A0):A6:=ax A87 n A_geom_Map.code A_geom_Map.fin (params 0 args) h
theorem B96 (n:Nat) (h:A0):A9K n [] h=some ((.c (.i .i64 1)),h):=by kernel_rfl
theorem K_geom_Map:FnK Try.prog 79 A_geom_Map A87 A9K:=.mk' (C2) Try.func79 (by kernel_rfl) (fun _ _ _=>C1)
def A4b:Fun:=tidy (Lim A_geom_Map A87)
theorem C1R:SOk Try.prog 79 A4b:=K_geom_Map.sok
theorem C1Q:D5 A9K A4b:=K_geom_Map.flat
def A_geom_Table:AFn:=⟨.seq [1] (.ops [aO 1 (.box (.t 0)),aO 2 (.mv (.v (.c (.i .i64 0)))),aO 3 (.mv (.v (.c (.i .i64 0))))]) (.seq [1] (.seq [1,6] (.ops [aO 4 (.loadN 3 (.t 1)),aO 5 (.call 57 [(.t 4)]),aO 6 (.un .not (.t 5))]) (.cond (.t 6) (.seq [2,3] (.ops [aO 2 (.mv (.v (.c (.i .i64 0)))),aO 3 (.mv (.v (.c (.i .i64 0))))]) .ret) .skip)) (.seq [2,3] (.draw 0 [aO 7 (.call 79 []),aO 8 (.bin .add (.t 7) (.v (.c (.i .i64 1)))),aO 9 (.fAddr (.t 1) 1),aO 10 (.load1 (.t 9)),aO 11 (.bin .quo (.t 10) (.v (.c (.i .i64 8)))),aO 2 (.mv (.t 8))] [aO 3 (.mv (.t 11))]) .ret)),[.tmp 2,.tmp 3]⟩
def A88:A9:=B0 57 A0z (B0 79 A4b C0)
def A52 (n:Nat) (args:List Val) (h:A0):A6:=ax A88 n A_geom_Table.code A_geom_Table.fin (params 0 args) h
theorem B97 (n:Nat) (a0:Val) (h:A0):A52 n [a0] h=bnd (cells? a0) fun c1=>bnd (A3 (h ++ [some (Row.mk (c1) true)]) 3 (.c (.p h.length 0))) fun v2=>bnd (A0z [v2] (h ++ [some (Row.mk (c1) true)])) fun p3=>bnd (aun .not p3.1) fun v4=>cnd v4 (C7 [some (.c (.i .i64 0)),some (.c (.i .i64 0))] p3.2) (bnd (quiet (p3.2 ++ []) (A4b [] (p3.2 ++ []))) fun p5=>bnd (A2 .add p5.1 (.c (.i .i64 1))) fun v6=>bnd (B3 (.c (.p h.length 0)) 1) fun v7=>bnd (A4 p3.2 v7) fun v8=>bnd (A2 .quo v8 (.c (.i .i64 8))) fun v9=>C7 [some v6,some v9] p5.2):=by kernel_rfl
theorem K_geom_Table:FnK Try.prog 49 A_geom_Table A88 A52:=.mk' (B1 A9Z (B1 C1R C2)) Try.func49 (by kernel_rfl) (fun _ _ _=>C1)
def A1O:Fun:=tidy (Lim A_geom_Table A88)
theorem B22:SOk Try.prog 49 A1O:=K_geom_Table.sok
theorem C1S:D5 A52 A1O:=K_geom_Table.flat
def A_geom_Where:AFn:=⟨.seq [1,2] (.ops [aO 2 (.box (.t 0)),aO 4 (.mv (.v (.c (.i .i64 0)))),aO 5 (.mv (.v (.c (.i .i64 0)))),aO 6 (.mv (.v (.c (.b false))))]) (.seq [1,2] (.seq [1,2,12] (.ops [aO 9 (.loadN 3 (.t 2)),aO 10 (.mv (.t 1)),aO 11 (.call 48 [(.t 9),(.t 10)]),aO 12 (.un .not (.t 11))]) (.cond (.t 12) (.seq [4,5,6] (.ops [aO 4 (.mv (.v (.c (.i .i64 0)))),aO 5 (.mv (.v (.c (.i .i64 0)))),aO 6 (.mv (.v (.c (.b false))))]) .ret) .skip)) (.seq [1,7] (.ops [aO 14 (.loadN 3 (.t 2)),aO 15 (.call 49 [(.t 14)]),aO 13 (.mv (.t 15)),aO 16 (.ext (.t 13) 0),aO 17 (.ext (.t 13) 1),aO 7 (.mv (.t 16)),aO 8 (.mv (.t 17))]) (.seq [4,5,6] (.ops [aO 18 (.mv (.t 7)),aO 19 (.mv (.t 1)),aO 20 (.bin .sub (.t 19) (.v (.c (.i .i64 1)))),aO 21 (.bin .quo (.t 20) (.v (.c (.i .i64 8)))),aO 22 (.bin .add (.t 18) (.t 21)),aO 23 (.mv (.t 1)),aO 24 (.bin .sub (.t 23) (.v (.c (.i .i64 1)))),aO 25 (.bin .rem (.t 24) (.v (.c (.i .i64 8)))),aO 4 (.mv (.t 22)),aO 5 (.mv (.t 25)),aO 6 (.mv (.v (.c (.b true))))]) .ret))),[.tmp 4,.tmp 5,.tmp 6]⟩
def A89:A9:=B0 48 A4a (B0 49 A1O C0)
def A53 (n:Nat) (args:List Val) (h:A0):A6:=ax A89 n A_geom_Where.code A_geom_Where.fin (params 0 args) h
theorem B98 (n:Nat) (a0 a1:Val) (h:A0):A53 n [a0,a1] h=bnd (cells? a0) fun c1=>bnd (A3 (h ++ [some (Row.mk (c1) true)]) 3 (.c (.p h.length 0))) fun v2=>bnd (A4a [v2,a1] (h ++ [some (Row.mk (c1) true)])) fun p3=>bnd (aun .not p3.1) fun v4=>cnd v4 (C7 [some (.c (.i .i64 0)),some (.c (.i .i64 0)),some (.c (.b false))] p3.2) (bnd (A3 p3.2 3 (.c (.p h.length 0))) fun v5=>bnd (A1O [v5] p3.2) fun p6=>bnd (C3 p6.1 0) fun v7=>bnd (C3 p6.1 1) fun v8=>bnd (A2 .sub a1 (.c (.i .i64 1))) fun v9=>bnd (A2 .quo v9 (.c (.i .i64 8))) fun v10=>bnd (A2 .add v7 v10) fun v11=>bnd (A2 .sub a1 (.c (.i .i64 1))) fun v12=>bnd (A2 .rem v12 (.c (.i .i64 8))) fun v13=>C7 [some v11,some v13,some (.c (.b true))] p6.2):=by kernel_rfl
theorem K_geom_Where:FnK Try.prog 24 A_geom_Where A89 A53:=.mk' (B1 C1P (B1 B22 C2)) Try.func24 (by kernel_rfl) (fun _ _ _=>C1)
def A4c:Fun:=tidy (Lim A_geom_Where A89)
theorem C1U:SOk Try.prog 24 A4c:=K_geom_Where.sok
theorem C1T:D5 A53 A4c:=K_geom_Where.flat
def A_geom_Data:AFn:=⟨.seq [1] (.ops [aO 1 (.box (.t 0)),aO 2 (.mv (.v (.c (.i .i64 0))))]) (.seq [3,4] (.ops [aO 6 (.loadN 3 (.t 1)),aO 7 (.call 49 [(.t 6)]),aO 5 (.mv (.t 7)),aO 8 (.ext (.t 5) 0),aO 9 (.ext (.t 5) 1),aO 3 (.mv (.t 8)),aO 4 (.mv (.t 9))]) (.seq [2] (.ops [aO 10 (.mv (.t 3)),aO 11 (.mv (.t 4)),aO 12 (.bin .add (.t 10) (.t 11)),aO 2 (.mv (.t 12))]) .ret)),[.tmp 2]⟩
def A84:A9:=B0 49 A1O C0
def A5Z (n:Nat) (args:List Val) (h:A0):A6:=ax A84 n A_geom_Data.code A_geom_Data.fin (params 0 args) h
theorem B93 (n:Nat) (a0:Val) (h:A0):A5Z n [a0] h=bnd (cells? a0) fun c1=>bnd (A3 (h ++ [some (Row.mk (c1) true)]) 3 (.c (.p h.length 0))) fun v2=>bnd (A1O [v2] (h ++ [some (Row.mk (c1) true)])) fun p3=>bnd (C3 p3.1 0) fun v4=>bnd (C3 p3.1 1) fun v5=>bnd (A2 .add v4 v5) fun v6=>some (v6,p3.2):=by kernel_rfl
theorem K_geom_Data:FnK Try.prog 58 A_geom_Data A84 A5Z:=.mk' (B1 B22 C2) Try.func58 (by kernel_rfl) (fun _ _ _=>C1)
def A39:Fun:=tidy (Lim A_geom_Data A84)
theorem C1M:SOk Try.prog 58 A39:=K_geom_Data.sok
theorem C1L:D5 A5Z A39:=K_geom_Data.flat
def A_geom_IsData:AFn:=⟨.seq [1,2] (.ops [aO 2 (.box (.t 0)),aO 4 (.mv (.v (.c (.b false))))]) (.seq [4] (.ops [aO 5 (.loadN 3 (.t 2)),aO 6 (.call 57 [(.t 5)]),aO 7 (.mv (.t 6)),aG 8 7 true (.mv (.t 1)),aG 9 7 true (.loadN 3 (.t 2)),aG 10 7 true (.call 58 [(.t 9)]),aG 11 7 true (.bin .geq (.t 8) (.t 10)),aO 12 (.pick (.t 7) (.t 11) (.v (.c (.b false)))),aO 13 (.mv (.t 12)),aG 14 13 true (.mv (.t 1)),aG 15 13 true (.fAddr (.t 2) 0),aG 16 13 true (.load1 (.t 15)),aG 17 13 true (.bin .lss (.t 14) (.t 16)),aO 18 (.pick (.t 13) (.t 17) (.v (.c (.b false)))),aO 4 (.mv (.t 18))]) .ret),[.tmp 4]⟩
def A85:A9:=B0 57 A0z (B0 58 A39 C0)
def A50 (n:Nat) (args:List Val) (h:A0):A6:=ax A85 n A_geom_IsData.code A_geom_IsData.fin (params 0 args) h
theorem B94 (n:Nat) (a0 a1:Val) (h:A0):A50 n [a0,a1] h=bnd (cells? a0) fun c1=>bnd (A3 (h ++ [some (Row.mk (c1) true)]) 3 (.c (.p h.length 0))) fun v2=>bnd (A0z [v2] (h ++ [some (Row.mk (c1) true)])) fun p3=>bnd (gd p3.1 true (some (a1,p3.2)) (some (.no,p3.2))) fun p4=>bnd (gd p3.1 true (bnd (A3 p4.2 3 (.c (.p h.length 0))) fun v5=>some (v5,p4.2)) (some (.no,p4.2))) fun p6=>bnd (gd p3.1 true (bnd (A39 [p6.1] p6.2) fun p7=>some (p7.1,p7.2)) (some (.no,p6.2))) fun p8=>bnd (gd p3.1 true (bnd (A2 .geq p4.1 p8.1) fun v9=>some (v9,p8.2)) (some (.no,p8.2))) fun p10=>bnd (C9 p3.1 p10.1 (.c (.b false))) fun v11=>bnd (gd v11 true (some (a1,p10.2)) (some (.no,p10.2))) fun p12=>bnd (gd v11 true (bnd (B3 (.c (.p h.length 0)) 0) fun v13=>some (v13,p12.2)) (some (.no,p12.2))) fun p14=>bnd (gd v11 true (bnd (A4 p14.2 p14.1) fun v15=>some (v15,p14.2)) (some (.no,p14.2))) fun p16=>bnd (gd v11 true (bnd (A2 .lss p12.1 p16.1) fun v17=>some (v17,p16.2)) (some (.no,p16.2))) fun p18=>bnd (C9 v11 p18.1 (.c (.b false))) fun v19=>some (v19,p18.2):=by kernel_rfl
theorem K_geom_IsData:FnK Try.prog 31 A_geom_IsData A85 A50:=.mk' (B1 A9Z (B1 C1M C2)) Try.func31 (by kernel_rfl) (fun _ _ _=>C1)
def V7:Fun:=tidy (Lim A_geom_IsData A85)
theorem A6L:SOk Try.prog 31 V7:=K_geom_IsData.sok
theorem C1N:D5 A50 V7:=K_geom_IsData.flat
end Go.Proofs.Yteckncopbicmcaa
end
section
namespace Go.Proofs.Yteckncopbicmcaa
open Go Go.Esc
def I2 (b n:Int):Bool:=decide (16 ≤ b) && decide (b ≤ 512) && decide (8 ≤ n) && decide (n ≤ 128) && decide (n % 8=0) && decide (2 + n / 8 < b)
theorem A49 {b n:Int}:I2 b n=true ↔ 16 ≤ b ∧ b ≤ 512 ∧ 8 ≤ n ∧ n ≤ 128 ∧ n % 8=0 ∧ 2 + n / 8 < b:=by
  unfold I2;simp [and_assoc]
theorem A3d {b n:Int}:I2 b n=false ↔ ¬ (16 ≤ b ∧ b ≤ 512 ∧ 8 ≤ n ∧ n ≤ 128 ∧ n % 8=0 ∧ 2 + n / 8 < b):=by
  rw [← A49];simp
abbrev F5 (b n m:Int):List Cell:=[.i .i64 b,.i .i64 n,.i .u64 m]
theorem A8x {b n m:Int} {h:A0}:A1X [.a (F5 b n m)] h=some (.c (.i .i64 (bif I2 b n then 0 else 1)),h):=by
  have key:∀ g,∃ g',A6v 0 [.a (F5 b n m)] g=some (.c (.i .i64 (bif I2 b n then 0 else 1)),g'):=by
    intro g
    rw [C0J]
    have bad:I2 b n=false → (some (Val.c (.i .i64 1),g ++ [some ⟨F5 b n m,true⟩]))=some (.c (.i .i64 (bif I2 b n then 0 else 1)),g ++ [some ⟨F5 b n m,true⟩]):=fun h=>by rw [h];rfl
    by_cases c1:b < 16
    · rw [A3d.2 (by omega)]
      exact ⟨_,by simp only [esc,esh,Nat.reduceAdd,Nat.reduceMul,Nat.reduceLT,c1,A2G] <;> rfl⟩
    · by_cases c2:512 < b
      · rw [A3d.2 (by omega)]
        exact ⟨_,by simp only [esc,esh,Nat.reduceAdd,Nat.reduceMul,Nat.reduceLT,c1,c2,A2G] <;> rfl⟩
      · by_cases c3:n < 8
        · rw [A3d.2 (by omega)]
          exact ⟨_,by simp only [esc,esh,Nat.reduceAdd,Nat.reduceMul,Nat.reduceLT,c1,c2,c3,A2G,A5v] <;> rfl⟩
        · by_cases c4:128 < n
          · rw [A3d.2 (by omega)]
            exact ⟨_,by simp only [esc,esh,Nat.reduceAdd,Nat.reduceMul,Nat.reduceLT,c1,c2,c3,c4,A2G,A5v] <;> rfl⟩
          · have e1:=B1R (a:=n) (b:=8) (k:=.i64) (by omega) (by omega)
            by_cases c5:n % 8=0
            · have e2:=A5i (a:=n) (b:=8) (by omega) (by omega) (by omega)
              have e3:IntKind.wrap .i64 (2 + n / 8)=2 + n / 8:=wrap_i64 (by omega) (by omega)
              by_cases c6:b ≤ 2 + n / 8
              · rw [A3d.2 (by omega)]
                exact ⟨_,by simp only [esc,esh,Nat.reduceAdd,Nat.reduceMul,Nat.reduceLT,c1,c2,c3,c4,e1,c5,e2,e3,c6,A2G,A5v] <;> rfl⟩
              · rw [A49.2 (by omega)]
                exact ⟨_,by simp only [esc,esh,Nat.reduceAdd,Nat.reduceMul,Nat.reduceLT,c1,c2,c3,c4,e1,c5,e2,e3,c6,A2G,A5v] <;> rfl⟩
            · rw [A3d.2 (by omega)]
              exact ⟨_,by simp only [esc,esh,Nat.reduceAdd,Nat.reduceMul,Nat.reduceLT,c1,c2,c3,c4,e1,c5,A2G,A5v] <;> rfl⟩
  obtain ⟨g',e⟩:=key (ro h)
  exact C2P e (by simp)
theorem A1g {b n m:Int} {h:A0}:A0z [.a (F5 b n m)] h=some (.c (.b (I2 b n)),h):=by
  have key:∀ g,∃ g',A54 0 [.a (F5 b n m)] g=some (.c (.b (I2 b n)),g'):=by
    intro g
    rw [B99]
    cases c:I2 b n with
    | true=>exact ⟨_,by simp only [esc,esh,Nat.reduceAdd,Nat.reduceMul,Nat.reduceLT,A8x,c] <;> rfl⟩
    | false=>exact ⟨_,by simp only [esc,esh,Nat.reduceAdd,Nat.reduceMul,Nat.reduceLT,A8x,c,Int.reduceEq] <;> rfl⟩
  obtain ⟨g',e⟩:=key (ro h)
  exact C1V e (by simp)
theorem C5I {h:A0}:A4b [] h=some (.c (.i .i64 1),h) :=
  C1Q (n:=0) (h2:=ro h) (by rw [B96]) rfl
def A1w (b n:Int):Int:=bif I2 b n then 2 else 0
def A3m (b n:Int):Int:=bif I2 b n then n / 8 else 0
def A0j (b n:Int):Int:=A1w b n + A3m b n
theorem B5y {b n m:Int} {h:A0}:A1O [.a (F5 b n m)] h=some (.t [.c (.i .i64 (A1w b n)),.c (.i .i64 (A3m b n))],h):=by
  have key:∀ g,∃ g',A52 0 [.a (F5 b n m)] g=some (.t [.c (.i .i64 (A1w b n)),.c (.i .i64 (A3m b n))],g'):=by
    intro g
    rw [B97]
    unfold A1w A3m
    cases c:I2 b n with
    | true =>
      have c':=A49.1 c
      have e2:=A5i (a:=n) (b:=8) (by omega) (by omega) (by omega)
      have e3:IntKind.wrap .i64 (1 + 1)=2:=wrap_i64 (by omega) (by omega)
      exact ⟨_,by simp only [esc,esh,Nat.reduceAdd,Nat.reduceMul,Nat.reduceLT,A1g,c,C5I,e2,e3] <;> rfl⟩
    | false=>exact ⟨_,by simp only [esc,esh,Nat.reduceAdd,Nat.reduceMul,Nat.reduceLT,A1g,c] <;> rfl⟩
  obtain ⟨g',e⟩:=key (ro h)
  exact C1S e (by simp)
theorem C4B {b n:Int}:0 ≤ A0j b n ∧ A0j b n ≤ 18:=by
  unfold A0j A1w A3m
  cases c:I2 b n with
  | true=>have:=A49.1 c;simp only [cond_true];omega
  | false=>simp only [cond_false];omega
theorem B5w {b n m:Int} {h:A0}:A39 [.a (F5 b n m)] h=some (.c (.i .i64 (A0j b n)),h):=by
  have key:∀ g,∃ g',A5Z 0 [.a (F5 b n m)] g=some (.c (.i .i64 (A0j b n)),g'):=by
    intro g
    rw [B93]
    have hr:=C4B (b:=b) (n:=n)
    have e3:IntKind.wrap .i64 (A1w b n + A3m b n)=A0j b n:=wrap_i64 (by unfold A0j at hr;omega) (by unfold A0j at hr;omega)
    exact ⟨_,by simp only [esc,esh,Nat.reduceAdd,Nat.reduceMul,Nat.reduceLT,B5y,e3] <;> rfl⟩
  obtain ⟨g',e⟩:=key (ro h)
  exact C1L e (by simp)
def O0 (b n i:Int):Bool:=I2 b n && decide (1 ≤ i) && decide (i ≤ n)
def O9 (b n i:Int):Bool:=I2 b n && decide (A0j b n ≤ i) && decide (i < b)
theorem B5x {b n m i:Int} {h:A0}:A4a [.a (F5 b n m),.c (.i .i64 i)] h=some (.c (.b (O0 b n i)),h):=by
  have key:∀ g,∃ g',A51 0 [.a (F5 b n m),.c (.i .i64 i)] g=some (.c (.b (O0 b n i)),g'):=by
    intro g
    rw [B95]
    unfold O0
    cases c:I2 b n with
    | true =>
      by_cases c1:1 ≤ i
      · exact ⟨_,by simp only [esc,esh,Nat.reduceAdd,Nat.reduceMul,Nat.reduceLT,A1g,c,c1] <;> rfl⟩
      · exact ⟨_,by simp only [esc,esh,Nat.reduceAdd,Nat.reduceMul,Nat.reduceLT,A1g,c,c1] <;> rfl⟩
    | false=>exact ⟨_,by simp only [esc,esh,Nat.reduceAdd,Nat.reduceMul,Nat.reduceLT,A1g,c] <;> rfl⟩
  obtain ⟨g',e⟩:=key (ro h)
  exact C1O e (by simp)
theorem A4U {b n m i:Int} {h:A0}:V7 [.a (F5 b n m),.c (.i .i64 i)] h=some (.c (.b (O9 b n i)),h):=by
  have key:∀ g,∃ g',A50 0 [.a (F5 b n m),.c (.i .i64 i)] g=some (.c (.b (O9 b n i)),g'):=by
    intro g
    rw [B94]
    unfold O9
    cases c:I2 b n with
    | true =>
      by_cases c1:A0j b n ≤ i
      · exact ⟨_,by simp only [esc,esh,Nat.reduceAdd,Nat.reduceMul,Nat.reduceLT,A1g,B5w,c,c1] <;> rfl⟩
      · exact ⟨_,by simp only [esc,esh,Nat.reduceAdd,Nat.reduceMul,Nat.reduceLT,A1g,B5w,c,c1] <;> rfl⟩
    | false=>exact ⟨_,by simp only [esc,esh,Nat.reduceAdd,Nat.reduceMul,Nat.reduceLT,A1g,c] <;> rfl⟩
  obtain ⟨g',e⟩:=key (ro h)
  exact C1N e (by simp)
def A2L (b n i:Int):Int:=bif O0 b n i then 2 + (i - 1) / 8 else 0
def A2M (b n i:Int):Int:=bif O0 b n i then (i - 1) % 8 else 0
theorem B6n {b n i:Int}:O0 b n i=true ↔ I2 b n=true ∧ 1 ≤ i ∧ i ≤ n:=by
  unfold O0;simp [and_assoc]
theorem B5z {b n m i:Int} {h:A0}:A4c [.a (F5 b n m),.c (.i .i64 i)] h=some (.t [.c (.i .i64 (A2L b n i)),.c (.i .i64 (A2M b n i)),.c (.b (O0 b n i))],h):=by
  have key:∀ g,∃ g',A53 0 [.a (F5 b n m),.c (.i .i64 i)] g=some (.t [.c (.i .i64 (A2L b n i)),.c (.i .i64 (A2M b n i)),.c (.b (O0 b n i))],g'):=by
    intro g
    rw [B98]
    unfold A2L A2M
    cases c:O0 b n i with
    | true =>
      obtain ⟨c1,c2,c3⟩:=B6n.1 c
      have c':=A49.1 c1
      have e0:A1w b n=2:=by unfold A1w;rw [c1];rfl
      have e1:IntKind.wrap .i64 (i - 1)=i - 1:=wrap_i64 (by omega) (by omega)
      have e2:=A5i (a:=i - 1) (b:=8) (by omega) (by omega) (by omega)
      have e3:IntKind.wrap .i64 (2 + (i - 1) / 8)=2 + (i - 1) / 8:=wrap_i64 (by omega) (by omega)
      have e4:=B1R (a:=i - 1) (b:=8) (k:=.i64) (by omega) (by omega)
      exact ⟨_,by simp only [esc,esh,Nat.reduceAdd,Nat.reduceMul,Nat.reduceLT,B5x,c,B5y,e0,e1,e2,e3,e4] <;> rfl⟩
    | false=>exact ⟨_,by simp only [esc,esh,Nat.reduceAdd,Nat.reduceMul,Nat.reduceLT,B5x,c] <;> rfl⟩
  obtain ⟨g',e⟩:=key (ro h)
  exact C1T e (by simp)
end Go.Proofs.Yteckncopbicmcaa
end
section
namespace Go.Proofs.Yteckncopbicmcaa
open Go Go.Esc
theorem C3K {h:A0} {id off len sz:Nat} {cs:List Cell} (hr:rd h id=some ⟨cs,true⟩) (hn:0 < len):U0 h (.c (.sl id off len sz))=some (.c (.sl id off len sz)):=by
  simp [U0,hr,hn]
def magicB:List UInt8:=[101,115,99,104,101,97,116,49]
def M8 (b n m:Int):List UInt8:=magicB ++ B9 2 b ++ B9 2 n ++ B9 8 m
def Z6 (b n m:Int):List UInt8:=C8 256 (M8 b n m ++ B9 4 (Y9 (M8 b n m):Nat))
theorem A0t {b n m:Int}:(M8 b n m).length=20:=by simp [M8,magicB]
theorem A5u {b n m:Int}:(Z6 b n m).length=256:=J1 (by rw [List.length_append,A0t,A2i];omega)
theorem C6v {l xs:List UInt8} {a:Nat} (h1:l.length ≤ a) (h2:a + xs.length ≤ 256) (h3:a < 256):R6 (C8 256 l) a xs=C8 256 (l ++ zeros (a - l.length) ++ xs):=by
  unfold R6
  rw [if_pos (by omega)]
  simp only [Int.toNat_natCast]
  rw [List.take_of_length_le (by omega),B7H h1 h2]
theorem B8D {b n m:Int} {h:A0} (hm0:0 ≤ m) (hm1:m < 18446744073709551616) :
    A1Y [.a (F5 b n m)] h=some (.t [.a (A1 (bif I2 b n then Z6 b n m else zeros 256)),.c (.i .i64 (bif I2 b n then 0 else 1))],h):=by
  have key:∀ g,∃ g',A6x 0 [.a (F5 b n m)] g=some (.t [.a (A1 (bif I2 b n then Z6 b n m else zeros 256)),.c (.i .i64 (bif I2 b n then 0 else 1))],g'):=by
    intro g
    have hz:(A1 (zeros 256)).length=256:=by rw [B5];exact zeros_length
    have haf:A7 (List.replicate 256 (Cell.i .u8 0)) []=some (List.replicate 256 (Cell.i .u8 0)):=rfl
    rw [L7] at haf
    rw [C0L,L7]
    cases c:I2 b n with
    | false =>
      simp only [cond_false]
      generalize zeros 256=z at *
      exact ⟨_,by simp only [esc,esh,Nat.reduceAdd,Nat.reduceMul,Nat.reduceLT,A8x,c,haf,hz,Int.reduceEq] <;> rfl⟩
    | true =>
      simp only [cond_true]
      have e7:A7 [Cell.i .u8 0,.i .u8 0,.i .u8 0,.i .u8 0,.i .u8 0,.i .u8 0,.i .u8 0,.i .u8 0] [(0,1,.c (.i .u8 101)),(1,1,.c (.i .u8 115)),(2,1,.c (.i .u8 99)),(3,1,.c (.i .u8 104)),(4,1,.c (.i .u8 101)),(5,1,.c (.i .u8 97)),(6,1,.c (.i .u8 116)),(7,1,.c (.i .u8 49))]=some (A1 magicB):=rfl
      have hmk:=C3K (h:=g ++ [some ⟨F5 b n m,true⟩,some ⟨A1 (zeros 256),true⟩,some ⟨A1 magicB,true⟩]) (id:=g.length + 2) (off:=0) (len:=8) (sz:=1) (cs:=A1 magicB) (by simp) (by omega)
      have ho:=A78 (h:=g ++ [some ⟨F5 b n m,true⟩,some ⟨A1 (zeros 256),true⟩,some ⟨A1 magicB,true⟩]) (v:=.c (.sl (g.length + 2) 0 8 1)) (nv:=8) (data:=magicB) (Has.tr (by simp) (by simp [B5,magicB]) (P7 _)) (by decide)
      rw [A8c (by decide)] at ho
      have lm:magicB.length=8:=rfl
      have w1:=fun h=>A0q (h:=h) (l:=C8 256 magicB) (J1 (by decide)) (a:=8) (w:=2) (v:=b)
      have e1:=A0v (l:=magicB) (a:=8) (w:=2) (v:=b) (by decide) (by omega) (by omega) (by omega)
      simp only [lm,Nat.sub_self,show zeros 0=[] from rfl,List.append_nil,Int.cast_ofNat_Int] at e1
      simp only [e1] at w1
      have l1:(magicB ++ B9 2 b).length=10:=by simp [lm]
      have w2:=fun h=>A0q (h:=h) (l:=C8 256 (magicB ++ B9 2 b)) (J1 (by omega)) (a:=10) (w:=2) (v:=n)
      have e2:=A0v (l:=magicB ++ B9 2 b) (a:=10) (w:=2) (v:=n) (by omega) (by omega) (by omega) (by omega)
      simp only [l1,Nat.sub_self,show zeros 0=[] from rfl,List.append_nil,Int.cast_ofNat_Int] at e2
      simp only [e2] at w2
      have l2:(magicB ++ B9 2 b ++ B9 2 n).length=12:=by simp [lm]
      have L0:(A1 (C8 256 magicB)).length=256:=by rw [B5,J1 (by decide)]
      have L1:(A1 (C8 256 (magicB ++ B9 2 b))).length=256:=by rw [B5,J1 (by omega)]
      have L2:(A1 (C8 256 (magicB ++ B9 2 b ++ B9 2 n))).length=256:=by rw [B5,J1 (by omega)]
      have L3:(A1 (C8 256 (M8 b n m))).length=256:=by rw [B5,J1 (by rw [A0t];omega)]
      have L4:(A1 (Z6 b n m)).length=256:=by rw [B5,A5u]
      have mk8:A0I (.c (.i .i64 8)) (.c (.i .i64 8))=some 8:=rfl
      have hp:=C7j (h:=g ++ [some ⟨F5 b n m,true⟩,some ⟨A1 (zeros 256),true⟩,some ⟨A1 magicB,true⟩,some ⟨A1 (C8 256 (magicB ++ B9 2 b ++ B9 2 n)),true⟩,some ⟨A1 (zeros 8),true⟩]) (x:=.c (.sl (g.length + 4) 0 8 1)) (nv:=8) (l:=zeros 8) (a:=0) (w:=8) (v:=m) (Has.tr (by simp) (by simp [B5]) (P7 _)) (by simp)
      have ep:U5 (zeros 8) 0 8 m=some (B9 8 m):=by
        unfold U5
        rw [if_pos ⟨by omega,by decide⟩]
        unfold C6
        simp [zeros]
      rw [ep] at hp
      simp only [Option.getD_some,Option.isSome_some,A2i] at hp
      have hl:=B1D (h:=g ++ [some ⟨F5 b n m,true⟩,some ⟨A1 (zeros 256),true⟩,some ⟨A1 magicB,true⟩,some ⟨A1 (C8 256 (magicB ++ B9 2 b ++ B9 2 n)),true⟩,some ⟨A1 (zeros 8),true⟩,some ⟨A1 (B9 8 m),true⟩]) (v:=.c (.sl (g.length + 5) 0 8 1)) (nv:=8) (data:=B9 8 m) (l:=C8 256 (magicB ++ B9 2 b ++ B9 2 n)) (a:=12) (Has.tr (by simp) (by simp [B5]) (P7 _)) (J1 (by omega)) (by simp)
      have e3:=C6v (l:=magicB ++ B9 2 b ++ B9 2 n) (xs:=B9 8 m) (a:=12) (by omega) (by simp) (by omega)
      simp only [l2,Nat.sub_self,show zeros 0=[] from rfl,List.append_nil,Int.cast_ofNat_Int] at e3
      rw [e3] at hl
      have hc:=fun h=>A73 (h:=h) (l:=C8 256 (M8 b n m)) (J1 (by rw [A0t];omega)) (a:=0) (n:=20)
      have e4:O8 (C8 256 (M8 b n m)) 0 20=M8 b n m:=by
        unfold O8 C8
        rw [if_pos (by omega)]
        simp only [Int.toNat_zero,List.drop_zero]
        exact List.take_left' A0t
      simp only [e4,A0t] at hc
      have hstr:=(Has.tr (h:=g ++ [some ⟨F5 b n m,true⟩,some ⟨A1 (zeros 256),true⟩,some ⟨A1 magicB,true⟩,some ⟨A1 (C8 256 (M8 b n m)),true⟩,some ⟨A1 (zeros 8),true⟩,some ⟨A1 (B9 8 m),true⟩,some ⟨A1 (M8 b n m),true⟩]) (id:=g.length + 6) (sz:=1) (n:=20) (cs:=A1 (M8 b n m)) (by simp) (by rw [B5,A0t]) (P7 _)).str
      have hmx:=fun h=>B6M (s:=M8 b n m) (h:=h) (by rw [A0t];omega)
      have hmlt:=B6G (s:=M8 b n m)
      have e5:IntKind.wrap .i64 ((Y9 (M8 b n m):Nat):Int)=(Y9 (M8 b n m):Nat):=wrap_i64 (by omega) (by omega)
      have w3:=fun h=>A0q (h:=h) (l:=C8 256 (M8 b n m)) (J1 (by rw [A0t];omega)) (a:=20) (w:=4) (v:=(Y9 (M8 b n m):Nat))
      have e6:=A0v (l:=M8 b n m) (a:=20) (w:=4) (v:=(Y9 (M8 b n m):Nat)) (by rw [A0t];omega) (by omega) (by omega) (by omega)
      simp only [A0t,Nat.sub_self,show zeros 0=[] from rfl,List.append_nil,Int.cast_ofNat_Int] at e6
      simp only [e6] at w3
      have eS:magicB ++ B9 2 b ++ B9 2 n ++ B9 8 m=M8 b n m:=rfl
      rw [eS] at hl
      have rz:=B1U 8
      change ∀ h,Q3 [_,_,_,_] h=some (.a (A1 (Z6 b n m)),h) at w3
      generalize Z6 b n m=SB at *
      generalize C8 256 magicB=P0 at *
      generalize C8 256 (magicB ++ B9 2 b)=P1 at *
      generalize C8 256 (magicB ++ B9 2 b ++ B9 2 n)=P2 at *
      generalize C8 256 (M8 b n m)=P3 at *
      simp only [esc] at hp
      generalize zeros 256=z at *
      generalize zeros 8=z8 at *
      exact ⟨_,by simp only [esc,esh,Nat.reduceAdd,Nat.reduceMul,Nat.reduceLT,A8x,c,e7,hmk,ho,hz,L0,w1,L1,w2,L2,mk8,rz,hp,hl,L3,hc,hstr,hmx,e5,w3,L4] <;> rfl⟩
  obtain ⟨g',e⟩:=key (ro h)
  exact C2S e (by simp)
theorem B3T {b:List UInt8} {a w:Nat} (hb:b.length=256) (h1:a + w ≤ 256) (hw:1 ≤ w) (hw4:w ≤ 4):((atN b a w:Nat):Int)=fieldN b a w:=by
  unfold atN fieldN
  rw [if_pos ⟨by omega,Z7.2 (by omega)⟩]
  simp only [Int.toNat_natCast]
theorem C5J {b:List UInt8} (hb:b.length=256):A4W (O8 b 12 8) 0 8=some (le ((b.drop 12).take 8)):=by
  have hc:O8 b 12 8=(b.drop 12).take 8:=by
    unfold O8
    rw [if_pos (by omega)];rfl
  have hl:((b.drop 12).take 8).length=8:=by simp;omega
  unfold A4W
  rw [hc,hl,if_pos ⟨by omega,by decide⟩]
  simp only [Int.toNat_zero,List.drop_zero]
  rw [List.take_of_length_le (by rw [hl];decide)]
def okS (b:List UInt8):Bool:=I2 (fieldN b 8 2) (fieldN b 10 2) && decide (Z6 (fieldN b 8 2) (fieldN b 10 2) (fieldN b 12 8)=b)
def A1k (b:List UInt8):List Cell:=bif okS b then F5 (fieldN b 8 2) (fieldN b 10 2) (fieldN b 12 8) else F5 0 0 0
theorem B45 (b:List UInt8):0 ≤ fieldN b 12 8 ∧ fieldN b 12 8 < 18446744073709551616:=by
  unfold fieldN
  have h1:=A42 ((b.drop 12).take 8)
  have h2:((b.drop 12).take 8).length ≤ 8:=by simp;omega
  have h3:=A8h h2
  have h4:(256:Nat) ^ 8=18446744073709551616:=by decide
  omega
end Go.Proofs.Yteckncopbicmcaa
end
section
namespace Go.Proofs.Yteckncopbicmcaa
open Go Go.Esc
theorem B8C {b:List UInt8} {h:A0} (hb:b.length=256):A4w [.a (A1 b)] h=some (.t [.a (A1k b),.c (.i .i64 (bif okS b then 0 else 13))],h):=by
  have key:∀ g,∃ g',A6w 0 [.a (A1 b)] g=some (.t [.a (A1k b),.c (.i .i64 (bif okS b then 0 else 13))],g'):=by
    intro g
    have hl:(A1 b).length=256:=by rw [B5,hb]
    have hc:=A73 (h:=g ++ [some ⟨A1 b,true⟩,some ⟨F5 0 0 0,true⟩]) hb (a:=12) (n:=8)
    have hcl:(O8 b 12 8).length=8:=by unfold O8;rw [if_pos (by omega)];simp;omega
    rw [hcl] at hc
    have hg:=C7b (h:=g ++ [some ⟨A1 b,true⟩,some ⟨F5 0 0 0,true⟩,some ⟨A1 (O8 b 12 8),true⟩]) (v:=.c (.sl (g.length + 2) 0 8 1)) (nv:=8) (l:=O8 b 12 8) (Has.tr (by simp) (by rw [B5,hcl]) (P7 _)) (a:=0) (w:=8) (by rw [hcl];omega)
    rw [C5J hb] at hg
    simp only [Option.getD_some,Option.isSome_some] at hg
    have a1:=fun h=>A0S (h:=h) hb (a:=8) (w:=2)
    have a2:=fun h=>A0S (h:=h) hb (a:=10) (w:=2)
    have f1:=B3T (a:=8) (w:=2) hb (by omega) (by omega) (by omega)
    have f2:=B3T (a:=10) (w:=2) hb (by omega) (by omega) (by omega)
    simp only [Int.cast_ofNat_Int] at f1 f2
    simp only [f1] at a1
    simp only [f2] at a2
    have e12:((le ((b.drop 12).take 8):Nat):Int)=fieldN b 12 8:=rfl
    rw [e12] at hg
    have ef:∀ x y z:Int,A7 (F5 0 0 0) [(0,1,.c (.i .i64 x)),(1,1,.c (.i .i64 y)),(2,1,.c (.i .u64 z))]=some (F5 x y z):=fun _ _ _=>rfl
    have ef0:A7 (F5 0 0 0) []=some (F5 0 0 0):=rfl
    have hp:=fun h=>B8D (b:=fieldN b 8 2) (n:=fieldN b 10 2) (m:=fieldN b 12 8) (h:=h) (B45 b).1 (B45 b).2
    have hz:(List.replicate 256 (Cell.i .u8 0)).length=256:=List.length_replicate
    have hS:(A1 (Z6 (fieldN b 8 2) (fieldN b 10 2) (fieldN b 12 8))).length=256:=by rw [B5,A5u]
    have hZ:(A1 (zeros 256)).length=256:=by rw [B5];exact zeros_length
    have hq:=A6S (l:=Z6 (fieldN b 8 2) (fieldN b 10 2) (fieldN b 12 8)) (m:=b) (n:=256) A5u hb
    simp only [esc] at hc
    rw [C0K]
    unfold A1k okS
    generalize List.replicate 256 (Cell.i .u8 0)=z at *
    cases c:I2 (fieldN b 8 2) (fieldN b 10 2) with
    | false =>
      simp only [c,cond_false] at hp
      generalize zeros 256=zz at *
      exact ⟨_,by simp only [esc,esh,Nat.reduceAdd,Nat.reduceMul,Nat.reduceLT,hl,hc,hg,a1,a2,ef,ef0,hp,hz,hZ,Bool.false_and,Int.reduceEq] <;> rfl⟩
    | true =>
      simp only [c,cond_true] at hp
      cases c2:decide (Z6 (fieldN b 8 2) (fieldN b 10 2) (fieldN b 12 8)=b) with
      | false =>
        rw [c2] at hq
        exact ⟨_,by simp only [esc,esh,Nat.reduceAdd,Nat.reduceMul,Nat.reduceLT,hl,hc,hg,a1,a2,ef,ef0,hp,hz,hS,hq,Bool.and_false] <;> rfl⟩
      | true =>
        rw [c2] at hq
        exact ⟨_,by simp only [esc,esh,Nat.reduceAdd,Nat.reduceMul,Nat.reduceLT,hl,hc,hg,a1,a2,ef,ef0,hp,hz,hS,hq,Bool.and_true] <;> rfl⟩
  obtain ⟨g',e⟩:=key (ro h)
  refine C2Q e ?_
  unfold A1k
  cases okS b <;> simp
end Go.Proofs.Yteckncopbicmcaa
end
noncomputable section
namespace Go.Proofs.Yteckncopbicmcaa
open Go Go.Esc
set_option maxRecDepth 100000
def A_inode_small:AFn:=⟨.seq [0] (.ops [aO 2 (.mv (.v (.c (.b false))))]) (.seq [2] (.ops [aO 3 (.mv (.t 0)),aO 4 (.bin .geq (.t 3) (.v (.c (.i .i64 0)))),aO 5 (.mv (.t 4)),aG 6 5 true (.mv (.t 0)),aG 7 5 true (.bin .leq (.t 6) (.v (.c (.i .i64 65535)))),aO 8 (.pick (.t 5) (.t 7) (.v (.c (.b false)))),aO 2 (.mv (.t 8))]) .ret),[.tmp 2]⟩
def A9g:A9:=C0
def A9M (n:Nat) (args:List Val) (h:A0):A6:=ax A9g n A_inode_small.code A_inode_small.fin (params 0 args) h
theorem C0n (n:Nat) (a0:Val) (h:A0):A9M n [a0] h=bnd (A2 .geq a0 (.c (.i .i64 0))) fun v1=>bnd (gd v1 true (some (a0,h)) (some (.no,h))) fun p2=>bnd (gd v1 true (bnd (A2 .leq p2.1 (.c (.i .i64 65535))) fun v3=>some (v3,p2.2)) (some (.no,p2.2))) fun p4=>bnd (C9 v1 p4.1 (.c (.b false))) fun v5=>some (v5,p4.2):=by kernel_rfl
theorem K_inode_small:FnK Try.prog 98 A_inode_small A9g A9M:=.mk' (C2) Try.func98 (by kernel_rfl) (fun _ _ _=>C1)
def A1T:Fun:=tidy (Lim A_inode_small A9g)
theorem C2i:SOk Try.prog 98 A1T:=K_inode_small.sok
theorem C2h:D5 A9M A1T:=K_inode_small.flat
def B6a:ACode:=.seq [1,2,3,7,8,9] (.ops [aO 9 (.bin .lss (.t 8) (.v (.c (.i .i64 6))))]) (.seq [1,2,3,7,8] (.cond (.t 9) .skip (.exit 0)) (.seq [1,2,3,7,8] (.block 1 (.seq [1,2,3,4,5,7,8] (.ops [aO 10 (.mv (.t 8)),aO 11 (.idxA1 6 (.t 7) (.t 8)),aO 4 (.mv (.t 10)),aO 5 (.mv (.t 11))]) (.ops [aO 12 (.mv (.t 4)),aO 13 (.mv (.t 5)),aO 14 (.iAddrA 7 1 (.t 3) (.t 12)),aN (.store1 (.t 14) (.t 13))]))) (.ops [aO 15 (.bin .add (.t 8) (.v (.c (.i .i64 1)))),aO 8 (.mv (.t 15))])))
def B6b:ACode:=.seq [2,3] (.ops [aO 16 (.fAddr (.t 1) 10),aO 17 (.load1 (.t 16)),aO 18 (.iAddrA 7 1 (.t 3) (.v (.c (.i .i64 6)))),aN (.store1 (.t 18) (.t 17))]) (.seq [2] (.ops [aO 19 (.loadN 7 (.t 3)),aN (.storeN 7 (.t 2) (.t 19))]) .ret)
def A_inode_Numbers:AFn:=⟨.seq [1,2] (.ops [aO 1 (.box (.t 0)),aO 2 (.alloc ([.i .i64 0,.i .i64 0,.i .i64 0,.i .i64 0,.i .i64 0,.i .i64 0,.i .i64 0]))]) (.seq [1,2,3] (.ops [aO 3 (.alloc ([.i .i64 0,.i .i64 0,.i .i64 0,.i .i64 0,.i .i64 0,.i .i64 0,.i .i64 0]))]) (.seq [1,2,3] (.seq [1,2,3,7,8] (.ops [aO 6 (.fAddr (.t 1) 4),aO 7 (.loadN 6 (.t 6)),aO 8 (.mv (.v (.c (.i .i64 0))))]) (.block 0 (.loop [1,2,3,7,8] B6a))) B6b)),[.cellN 2 7]⟩
def A3z:A9:=C0
def C6g (n:Nat):B4 (Val × A0):=E3 [1,2,3] (ax A3z n B6b) A_inode_Numbers.fin
def C6h (n:Nat):B4 (Val × A0):=D9 0 (C6g n)
def A7H (n m:Nat) (x1 x2 x3 x7 x8:Val) (h:A0):A6:=D2 (ax A3z n B6a) [1,2,3,7,8] (C6h n) m [(1,x1),(2,x2),(3,x3),(7,x7),(8,x8)] h
def A6f (n:Nat) (args:List Val) (h:A0):A6:=ax A3z n A_inode_Numbers.code A_inode_Numbers.fin (params 0 args) h
theorem C0l (n:Nat) (a0:Val) (h:A0):A6f n [a0] h=bnd (cells? a0) fun c1=>bnd (B3 (.c (.p h.length 0)) 4) fun v2=>bnd (A3 (((h ++ [some (Row.mk (c1) true)]) ++ [some (Row.mk ([.i .i64 0,.i .i64 0,.i .i64 0,.i .i64 0,.i .i64 0,.i .i64 0,.i .i64 0]) true)]) ++ [some (Row.mk ([.i .i64 0,.i .i64 0,.i .i64 0,.i .i64 0,.i .i64 0,.i .i64 0,.i .i64 0]) true)]) 6 v2) fun v3=>A7H n n (.c (.p h.length 0)) (.c (.p (h ++ [some (Row.mk (c1) true)]).length 0)) (.c (.p ((h ++ [some (Row.mk (c1) true)]) ++ [some (Row.mk ([.i .i64 0,.i .i64 0,.i .i64 0,.i .i64 0,.i .i64 0,.i .i64 0,.i .i64 0]) true)]).length 0)) v3 (.c (.i .i64 0)) (((h ++ [some (Row.mk (c1) true)]) ++ [some (Row.mk ([.i .i64 0,.i .i64 0,.i .i64 0,.i .i64 0,.i .i64 0,.i .i64 0,.i .i64 0]) true)]) ++ [some (Row.mk ([.i .i64 0,.i .i64 0,.i .i64 0,.i .i64 0,.i .i64 0,.i .i64 0,.i .i64 0]) true)]):=by kernel_rfl
theorem B6c (n m:Nat) (x1 x2 x3 x7 x8:Val) (h:A0):A7H n (m + 1) x1 x2 x3 x7 x8 h=bnd (A2 .lss x8 (.c (.i .i64 6))) fun v4=>cnd v4 (bnd (V0 6 x7 x8) fun v5=>bnd (D6 7 1 x3 x8) fun v6=>bnd (E4 h v6 v5) fun h7=>bnd (A2 .add x8 (.c (.i .i64 1))) fun v8=>A7H n m x1 x2 x3 x7 v8 h7) (bnd (B3 x1 10) fun v9=>bnd (A4 h v9) fun v10=>bnd (D6 7 1 x3 (.c (.i .i64 6))) fun v11=>bnd (E4 h v11 v10) fun h12=>bnd (A3 h12 7 x3) fun v13=>bnd (A8 h12 7 x2 v13) fun h14=>mp (A3 h14 7 x2) fun v=>(v,h14)):=by kernel_rfl
theorem K_inode_Numbers:FnK Try.prog 94 A_inode_Numbers A3z A6f:=.mk' (C2) Try.func94 (by kernel_rfl) (fun _ _ _=>C1)
def A1R:Fun:=tidy (Lim A_inode_Numbers A3z)
theorem B25:SOk Try.prog 94 A1R:=K_inode_Numbers.sok
theorem C2f:D5 A6f A1R:=K_inode_Numbers.flat
def B53:ACode:=.seq [44,45,46] (.ops [aO 46 (.bin .lss (.t 45) (.v (.c (.i .i64 7))))]) (.seq [44,45] (.cond (.t 46) .skip (.exit 0)) (.seq [44,45] (.block 1 (.seq [4,44,45] (.ops [aO 47 (.idxA1 7 (.t 44) (.t 45)),aO 4 (.mv (.t 47))]) (.seq [44,45,50] (.ops [aO 48 (.mv (.t 4)),aO 49 (.call 98 [(.t 48)]),aO 50 (.un .not (.t 49))]) (.cond (.t 50) (.seq [2] (.ops [aO 2 (.mv (.v (.c (.i .i64 1))))]) .ret) .skip)))) (.ops [aO 51 (.bin .add (.t 45) (.v (.c (.i .i64 1)))),aO 45 (.mv (.t 51))])))
def B54:ACode:=.seq [2] (.ops [aO 2 (.mv (.v (.c (.i .i64 0))))]) .ret
def A_inode_Check:AFn:=⟨.seq [1] (.ops [aO 1 (.box (.t 0)),aO 2 (.mv (.v (.c (.i .i64 0))))]) (.seq [1] (.seq [1,22] (.ops [aO 5 (.fAddr (.t 1) 0),aO 6 (.load1 (.t 5)),aO 7 (.bin .lss (.t 6) (.v (.c (.i .i64 0)))),aO 8 (.mv (.t 7)),aG 9 8 false (.fAddr (.t 1) 0),aG 10 8 false (.load1 (.t 9)),aG 11 8 false (.bin .gtr (.t 10) (.v (.c (.i .i64 2)))),aO 12 (.pick (.t 8) (.v (.c (.b true))) (.t 11)),aO 13 (.mv (.t 12)),aG 14 13 false (.fAddr (.t 1) 0),aG 15 13 false (.load1 (.t 14)),aG 16 13 false (.bin .eql (.t 15) (.v (.c (.i .i64 0)))),aG 17 13 false (.mv (.t 16)),aG 18 17 true (.loadN 11 (.t 1)),aG 19 17 true (.build ([.i .i64 0,.i .i64 0,.i .i64 0,.i .i64 0,.i .i64 0,.i .i64 0,.i .i64 0,.i .i64 0,.i .i64 0,.i .i64 0,.i .i64 0]) []),aG 20 17 true (.eqA true ([.i .i64,.i .i64,.i .i64,.i .i64,.i .i64,.i .i64,.i .i64,.i .i64,.i .i64,.i .i64,.i .i64]) (.t 18) (.t 19)),aG 21 13 false (.pick (.t 17) (.t 20) (.v (.c (.b false)))),aO 22 (.pick (.t 13) (.v (.c (.b true))) (.t 21))]) (.cond (.t 22) (.seq [2] (.ops [aO 2 (.mv (.v (.c (.i .i64 1))))]) .ret) .skip)) (.seq [1] (.seq [1,42] (.ops [aO 23 (.fAddr (.t 1) 1),aO 24 (.load1 (.t 23)),aO 25 (.call 98 [(.t 24)]),aO 26 (.un .not (.t 25)),aO 27 (.mv (.t 26)),aG 28 27 false (.fAddr (.t 1) 3),aG 29 27 false (.load1 (.t 28)),aG 30 27 false (.call 98 [(.t 29)]),aG 31 27 false (.un .not (.t 30)),aO 32 (.pick (.t 27) (.v (.c (.b true))) (.t 31)),aO 33 (.mv (.t 32)),aG 34 33 false (.fAddr (.t 1) 2),aG 35 33 false (.load1 (.t 34)),aG 36 33 false (.bin .lss (.t 35) (.v (.c (.i .i64 0)))),aO 37 (.pick (.t 33) (.v (.c (.b true))) (.t 36)),aO 38 (.mv (.t 37)),aG 39 38 false (.fAddr (.t 1) 2),aG 40 38 false (.load1 (.t 39)),aG 41 38 false (.bin .gtr (.t 40) (.v (.c (.i .i64 34304)))),aO 42 (.pick (.t 38) (.v (.c (.b true))) (.t 41))]) (.cond (.t 42) (.seq [2] (.ops [aO 2 (.mv (.v (.c (.i .i64 1))))]) .ret) .skip)) (.seq [] (.seq [44,45] (.ops [aO 43 (.loadN 11 (.t 1)),aO 44 (.call 94 [(.t 43)]),aO 45 (.mv (.v (.c (.i .i64 0))))]) (.block 0 (.loop [44,45] B53))) B54))),[.tmp 2]⟩
def A3x:A9:=B0 98 A1T (B0 94 A1R C0)
def C6b (n:Nat):B4 (Val × A0):=E3 [] (ax A3x n B54) A_inode_Check.fin
def C6c (n:Nat):B4 (Val × A0):=D9 0 (C6b n)
def A7F (n m:Nat) (x44 x45:Val) (h:A0):A6:=D2 (ax A3x n B53) [44,45] (C6c n) m [(44,x44),(45,x45)] h
def A6c (n:Nat) (args:List Val) (h:A0):A6:=ax A3x n A_inode_Check.code A_inode_Check.fin (params 0 args) h
theorem C0i (n:Nat) (a0:Val) (h:A0):A6c n [a0] h=bnd (cells? a0) fun c1=>bnd (B3 (.c (.p h.length 0)) 0) fun v2=>bnd (A4 (h ++ [some (Row.mk (c1) true)]) v2) fun v3=>bnd (A2 .lss v3 (.c (.i .i64 0))) fun v4=>bnd (gd v4 false (bnd (B3 (.c (.p h.length 0)) 0) fun v5=>some (v5,(h ++ [some (Row.mk (c1) true)]))) (some (.no,(h ++ [some (Row.mk (c1) true)])))) fun p6=>bnd (gd v4 false (bnd (A4 p6.2 p6.1) fun v7=>some (v7,p6.2)) (some (.no,p6.2))) fun p8=>bnd (gd v4 false (bnd (A2 .gtr p8.1 (.c (.i .i64 2))) fun v9=>some (v9,p8.2)) (some (.no,p8.2))) fun p10=>bnd (C9 v4 (.c (.b true)) p10.1) fun v11=>bnd (gd v11 false (bnd (B3 (.c (.p h.length 0)) 0) fun v12=>some (v12,p10.2)) (some (.no,p10.2))) fun p13=>bnd (gd v11 false (bnd (A4 p13.2 p13.1) fun v14=>some (v14,p13.2)) (some (.no,p13.2))) fun p15=>bnd (gd v11 false (bnd (A2 .eql p15.1 (.c (.i .i64 0))) fun v16=>some (v16,p15.2)) (some (.no,p15.2))) fun p17=>bnd (gd v11 false (some (p17.1,p17.2)) (some (.no,p17.2))) fun p18=>bnd (gd p18.1 true (bnd (A3 p18.2 11 (.c (.p h.length 0))) fun v19=>some (v19,p18.2)) (some (.no,p18.2))) fun p20=>bnd (gd p18.1 true (bnd (A7 ([.i .i64 0,.i .i64 0,.i .i64 0,.i .i64 0,.i .i64 0,.i .i64 0,.i .i64 0,.i .i64 0,.i .i64 0,.i .i64 0,.i .i64 0]) []) fun c21=>some ((.a c21),p20.2)) (some (.no,p20.2))) fun p22=>bnd (gd p18.1 true (bnd (aeq true ([.i .i64,.i .i64,.i .i64,.i .i64,.i .i64,.i .i64,.i .i64,.i .i64,.i .i64,.i .i64,.i .i64]) p20.1 p22.1) fun v23=>some (v23,p22.2)) (some (.no,p22.2))) fun p24=>bnd (gd v11 false (bnd (C9 p18.1 p24.1 (.c (.b false))) fun v25=>some (v25,p24.2)) (some (.no,p24.2))) fun p26=>bnd (C9 v11 (.c (.b true)) p26.1) fun v27=>cnd v27 (some ((.c (.i .i64 1)),p26.2)) (bnd (B3 (.c (.p h.length 0)) 1) fun v28=>bnd (A4 p26.2 v28) fun v29=>bnd (A1T [v29] p26.2) fun p30=>bnd (aun .not p30.1) fun v31=>bnd (gd v31 false (bnd (B3 (.c (.p h.length 0)) 3) fun v32=>some (v32,p30.2)) (some (.no,p30.2))) fun p33=>bnd (gd v31 false (bnd (A4 p33.2 p33.1) fun v34=>some (v34,p33.2)) (some (.no,p33.2))) fun p35=>bnd (gd v31 false (bnd (A1T [p35.1] p35.2) fun p36=>some (p36.1,p36.2)) (some (.no,p35.2))) fun p37=>bnd (gd v31 false (bnd (aun .not p37.1) fun v38=>some (v38,p37.2)) (some (.no,p37.2))) fun p39=>bnd (C9 v31 (.c (.b true)) p39.1) fun v40=>bnd (gd v40 false (bnd (B3 (.c (.p h.length 0)) 2) fun v41=>some (v41,p39.2)) (some (.no,p39.2))) fun p42=>bnd (gd v40 false (bnd (A4 p42.2 p42.1) fun v43=>some (v43,p42.2)) (some (.no,p42.2))) fun p44=>bnd (gd v40 false (bnd (A2 .lss p44.1 (.c (.i .i64 0))) fun v45=>some (v45,p44.2)) (some (.no,p44.2))) fun p46=>bnd (C9 v40 (.c (.b true)) p46.1) fun v47=>bnd (gd v47 false (bnd (B3 (.c (.p h.length 0)) 2) fun v48=>some (v48,p46.2)) (some (.no,p46.2))) fun p49=>bnd (gd v47 false (bnd (A4 p49.2 p49.1) fun v50=>some (v50,p49.2)) (some (.no,p49.2))) fun p51=>bnd (gd v47 false (bnd (A2 .gtr p51.1 (.c (.i .i64 34304))) fun v52=>some (v52,p51.2)) (some (.no,p51.2))) fun p53=>bnd (C9 v47 (.c (.b true)) p53.1) fun v54=>cnd v54 (some ((.c (.i .i64 1)),p53.2)) (bnd (A3 p53.2 11 (.c (.p h.length 0))) fun v55=>bnd (A1R [v55] p53.2) fun p56=>A7F n n p56.1 (.c (.i .i64 0)) p56.2)):=by kernel_rfl
theorem B56 (n m:Nat) (x44 x45:Val) (h:A0):A7F n (m + 1) x44 x45 h=bnd (A2 .lss x45 (.c (.i .i64 7))) fun v57=>cnd v57 (bnd (V0 7 x44 x45) fun v58=>bnd (A1T [v58] h) fun p59=>bnd (aun .not p59.1) fun v60=>cnd v60 (some ((.c (.i .i64 1)),p59.2)) (bnd (A2 .add x45 (.c (.i .i64 1))) fun v61=>A7F n m x44 v61 p59.2)) (some ((.c (.i .i64 0)),h)):=by kernel_rfl
theorem K_inode_Check:FnK Try.prog 93 A_inode_Check A3x A6c:=.mk' (B1 C2i (B1 B25 C2)) Try.func93 (by kernel_rfl) (fun _ _ _=>C1)
def A4i:Fun:=tidy (Lim A_inode_Check A3x)
theorem C2a:SOk Try.prog 93 A4i:=K_inode_Check.sok
theorem C19:D5 A6c A4i:=K_inode_Check.flat
def B6d:ACode:=.seq [2,4,6,33,34,35] (.ops [aO 35 (.bin .lss (.t 34) (.v (.c (.i .i64 7))))]) (.seq [2,4,6,33,34] (.cond (.t 35) .skip (.exit 0)) (.seq [2,4,6,33,34] (.block 1 (.seq [2,4,6,7,8,33,34] (.ops [aO 36 (.mv (.t 34)),aO 37 (.idxA1 7 (.t 33) (.t 34)),aO 7 (.mv (.t 36)),aO 8 (.mv (.t 37))]) (.ops [aO 38 (.loadN 256 (.t 6)),aO 39 (.mv (.t 7)),aO 40 (.bin .mul (.v (.c (.i .i64 2))) (.t 39)),aO 41 (.bin .add (.v (.c (.i .i64 10))) (.t 40)),aO 42 (.mv (.t 8)),aO 43 (.call 67 [(.t 38),(.t 41),(.v (.c (.i .i64 2))),(.t 42)]),aN (.storeN 256 (.t 6) (.t 43))]))) (.ops [aO 44 (.bin .add (.t 34) (.v (.c (.i .i64 1)))),aO 34 (.mv (.t 44))])))
def B6f:ACode:=.seq [2,4,6,45,46] (.ops [aO 46 (.bin .lss (.t 45) (.v (.c (.i .i64 32))))]) (.seq [2,4,6,45] (.cond (.t 46) .skip (.exit 2)) (.seq [2,4,6,45] (.block 3 (.seq [2,4,6,9,45] (.ops [aO 47 (.mv (.t 45)),aO 9 (.mv (.t 47))]) (.ops [aO 48 (.mv (.t 9)),aO 49 (.mv (.t 9)),aO 50 (.iAddrA 256 1 (.t 6) (.t 49)),aO 51 (.load1 (.t 50)),aO 52 (.iAddrA 32 1 (.t 4) (.t 48)),aN (.store1 (.t 52) (.t 51))]))) (.ops [aO 53 (.bin .add (.t 45) (.v (.c (.i .i64 1)))),aO 45 (.mv (.t 53))])))
def B6g:ACode:=.seq [2,3] (.ops [aO 54 (.loadN 32 (.t 4)),aN (.storeN 32 (.t 2) (.t 54)),aO 3 (.mv (.v (.c (.i .i64 0))))]) .ret
def B6e:ACode:=.seq [2,4] (.seq [2,4,6,45] (.ops [aO 45 (.mv (.v (.c (.i .i64 0))))]) (.block 2 (.loop [2,4,6,45] B6f))) B6g
def A_inode_Put:AFn:=⟨.seq [1,2] (.ops [aO 1 (.box (.t 0)),aO 2 (.alloc (List.replicate 32 (.i .u8 0))),aO 3 (.mv (.v (.c (.i .i64 0))))]) (.seq [1,2,4] (.ops [aO 4 (.alloc (List.replicate 32 (.i .u8 0)))]) (.seq [1,2,4] (.seq [1,2,4,5] (.ops [aO 10 (.loadN 11 (.t 1)),aO 11 (.call 93 [(.t 10)]),aO 5 (.mv (.t 11))]) (.seq [1,2,4,5,13] (.ops [aO 12 (.mv (.t 5)),aO 13 (.bin .neq (.t 12) (.v (.c (.i .i64 0))))]) (.cond (.t 13) (.seq [2,3] (.ops [aO 14 (.loadN 32 (.t 4)),aO 15 (.mv (.t 5)),aN (.storeN 32 (.t 2) (.t 14)),aO 3 (.mv (.t 15))]) .ret) .skip))) (.seq [1,2,4,6] (.ops [aO 6 (.alloc (List.replicate 256 (.i .u8 0)))]) (.seq [1,2,4,6] (.ops [aO 16 (.loadN 256 (.t 6)),aO 17 (.fAddr (.t 1) 0),aO 18 (.load1 (.t 17)),aO 19 (.call 67 [(.t 16),(.v (.c (.i .i64 0))),(.v (.c (.i .i64 1))),(.t 18)]),aN (.storeN 256 (.t 6) (.t 19))]) (.seq [1,2,4,6] (.ops [aO 20 (.loadN 256 (.t 6)),aO 21 (.fAddr (.t 1) 1),aO 22 (.load1 (.t 21)),aO 23 (.call 67 [(.t 20),(.v (.c (.i .i64 2))),(.v (.c (.i .i64 2))),(.t 22)]),aN (.storeN 256 (.t 6) (.t 23))]) (.seq [1,2,4,6] (.ops [aO 24 (.loadN 256 (.t 6)),aO 25 (.fAddr (.t 1) 2),aO 26 (.load1 (.t 25)),aO 27 (.call 67 [(.t 24),(.v (.c (.i .i64 4))),(.v (.c (.i .i64 4))),(.t 26)]),aN (.storeN 256 (.t 6) (.t 27))]) (.seq [1,2,4,6] (.ops [aO 28 (.loadN 256 (.t 6)),aO 29 (.fAddr (.t 1) 3),aO 30 (.load1 (.t 29)),aO 31 (.call 67 [(.t 28),(.v (.c (.i .i64 8))),(.v (.c (.i .i64 2))),(.t 30)]),aN (.storeN 256 (.t 6) (.t 31))]) (.seq [2,4,6] (.seq [2,4,6,33,34] (.ops [aO 32 (.loadN 11 (.t 1)),aO 33 (.call 94 [(.t 32)]),aO 34 (.mv (.v (.c (.i .i64 0))))]) (.block 0 (.loop [2,4,6,33,34] B6d))) B6e)))))))),[.cellN 2 32,.tmp 3]⟩
def A1E:A9:=B0 93 A4i (B0 67 Q3 (B0 94 A1R C0))
def C6i (n:Nat):B4 (Val × A0):=E3 [2,4,6] (ax A1E n B6e) A_inode_Put.fin
def C6j (n:Nat):B4 (Val × A0):=D9 0 (C6i n)
def A7I (n m:Nat) (x2 x4 x6 x33 x34:Val) (h:A0):A6:=D2 (ax A1E n B6d) [2,4,6,33,34] (C6j n) m [(2,x2),(4,x4),(6,x6),(33,x33),(34,x34)] h
def A6g (n:Nat) (args:List Val) (h:A0):A6:=ax A1E n A_inode_Put.code A_inode_Put.fin (params 0 args) h
def C6k (n:Nat):B4 (Val × A0):=E3 [2,4] (ax A1E n B6g) A_inode_Put.fin
def C6l (n:Nat):B4 (Val × A0):=D9 2 (C6k n)
def A7J (n m:Nat) (x2 x4 x6 x45:Val) (h:A0):A6:=D2 (ax A1E n B6f) [2,4,6,45] (C6l n) m [(2,x2),(4,x4),(6,x6),(45,x45)] h
theorem C0m (n:Nat) (a0:Val) (h:A0):A6g n [a0] h=bnd (cells? a0) fun c1=>bnd (A3 (((h ++ [some (Row.mk (c1) true)]) ++ [some (Row.mk (List.replicate 32 (.i .u8 0)) true)]) ++ [some (Row.mk (List.replicate 32 (.i .u8 0)) true)]) 11 (.c (.p h.length 0))) fun v2=>bnd (A4i [v2] (((h ++ [some (Row.mk (c1) true)]) ++ [some (Row.mk (List.replicate 32 (.i .u8 0)) true)]) ++ [some (Row.mk (List.replicate 32 (.i .u8 0)) true)])) fun p3=>bnd (A2 .neq p3.1 (.c (.i .i64 0))) fun v4=>cnd v4 (bnd (A3 p3.2 32 (.c (.p ((h ++ [some (Row.mk (c1) true)]) ++ [some (Row.mk (List.replicate 32 (.i .u8 0)) true)]).length 0))) fun v5=>bnd (A8 p3.2 32 (.c (.p (h ++ [some (Row.mk (c1) true)]).length 0)) v5) fun h6=>C7 [A3 h6 32 (.c (.p (h ++ [some (Row.mk (c1) true)]).length 0)),some p3.1] h6) (bnd (A3 (p3.2 ++ [some (Row.mk (List.replicate 256 (.i .u8 0)) true)]) 256 (.c (.p p3.2.length 0))) fun v7=>bnd (B3 (.c (.p h.length 0)) 0) fun v8=>bnd (A4 (p3.2 ++ [some (Row.mk (List.replicate 256 (.i .u8 0)) true)]) v8) fun v9=>bnd (Q3 [v7,.c (.i .i64 0),.c (.i .i64 1),v9] (p3.2 ++ [some (Row.mk (List.replicate 256 (.i .u8 0)) true)])) fun p10=>bnd (A8 p10.2 256 (.c (.p p3.2.length 0)) p10.1) fun h11=>bnd (A3 h11 256 (.c (.p p3.2.length 0))) fun v12=>bnd (B3 (.c (.p h.length 0)) 1) fun v13=>bnd (A4 h11 v13) fun v14=>bnd (Q3 [v12,.c (.i .i64 2),.c (.i .i64 2),v14] h11) fun p15=>bnd (A8 p15.2 256 (.c (.p p3.2.length 0)) p15.1) fun h16=>bnd (A3 h16 256 (.c (.p p3.2.length 0))) fun v17=>bnd (B3 (.c (.p h.length 0)) 2) fun v18=>bnd (A4 h16 v18) fun v19=>bnd (Q3 [v17,.c (.i .i64 4),.c (.i .i64 4),v19] h16) fun p20=>bnd (A8 p20.2 256 (.c (.p p3.2.length 0)) p20.1) fun h21=>bnd (A3 h21 256 (.c (.p p3.2.length 0))) fun v22=>bnd (B3 (.c (.p h.length 0)) 3) fun v23=>bnd (A4 h21 v23) fun v24=>bnd (Q3 [v22,.c (.i .i64 8),.c (.i .i64 2),v24] h21) fun p25=>bnd (A8 p25.2 256 (.c (.p p3.2.length 0)) p25.1) fun h26=>bnd (A3 h26 11 (.c (.p h.length 0))) fun v27=>bnd (A1R [v27] h26) fun p28=>A7I n n (.c (.p (h ++ [some (Row.mk (c1) true)]).length 0)) (.c (.p ((h ++ [some (Row.mk (c1) true)]) ++ [some (Row.mk (List.replicate 32 (.i .u8 0)) true)]).length 0)) (.c (.p p3.2.length 0)) p28.1 (.c (.i .i64 0)) p28.2):=by kernel_rfl
theorem B6i (n m:Nat) (x2 x4 x6 x33 x34:Val) (h:A0):A7I n (m + 1) x2 x4 x6 x33 x34 h=bnd (A2 .lss x34 (.c (.i .i64 7))) fun v29=>cnd v29 (bnd (V0 7 x33 x34) fun v30=>bnd (A3 h 256 x6) fun v31=>bnd (A2 .mul (.c (.i .i64 2)) x34) fun v32=>bnd (A2 .add (.c (.i .i64 10)) v32) fun v33=>bnd (Q3 [v31,v33,.c (.i .i64 2),v30] h) fun p34=>bnd (A8 p34.2 256 x6 p34.1) fun h35=>bnd (A2 .add x34 (.c (.i .i64 1))) fun v36=>A7I n m x2 x4 x6 x33 v36 h35) (A7J n n x2 x4 x6 (.c (.i .i64 0)) h):=by kernel_rfl
theorem B6j (n m:Nat) (x2 x4 x6 x45:Val) (h:A0):A7J n (m + 1) x2 x4 x6 x45 h=bnd (A2 .lss x45 (.c (.i .i64 32))) fun v37=>cnd v37 (bnd (D6 256 1 x6 x45) fun v38=>bnd (A4 h v38) fun v39=>bnd (D6 32 1 x4 x45) fun v40=>bnd (E4 h v40 v39) fun h41=>bnd (A2 .add x45 (.c (.i .i64 1))) fun v42=>A7J n m x2 x4 x6 v42 h41) (bnd (A3 h 32 x4) fun v43=>bnd (A8 h 32 x2 v43) fun h44=>C7 [A3 h44 32 x2,some (.c (.i .i64 0))] h44):=by kernel_rfl
theorem K_inode_Put:FnK Try.prog 81 A_inode_Put A1E A6g:=.mk' (B1 C2a (B1 A92 (B1 B25 C2))) Try.func81 (by kernel_rfl) (fun _ _ _=>C1)
def A1S:Fun:=tidy (Lim A_inode_Put A1E)
theorem B26:SOk Try.prog 81 A1S:=K_inode_Put.sok
theorem C2g:D5 A6g A1S:=K_inode_Put.flat
def B57:ACode:=.seq [2,3,4,17,18] (.ops [aO 18 (.bin .lss (.t 17) (.v (.c (.i .i64 6))))]) (.seq [2,3,4,17] (.cond (.t 18) .skip (.exit 0)) (.seq [2,3,4,17] (.block 1 (.seq [2,3,4,5,17] (.ops [aO 19 (.mv (.t 17)),aO 5 (.mv (.t 19))]) (.ops [aO 20 (.mv (.t 5)),aO 21 (.loadN 256 (.t 3)),aO 22 (.mv (.t 5)),aO 23 (.bin .mul (.v (.c (.i .i64 2))) (.t 22)),aO 24 (.bin .add (.v (.c (.i .i64 10))) (.t 23)),aO 25 (.call 47 [(.t 21),(.t 24),(.v (.c (.i .i64 2)))]),aO 26 (.fAddr (.t 4) 4),aO 27 (.iAddrA 6 1 (.t 26) (.t 20)),aN (.store1 (.t 27) (.t 25))]))) (.ops [aO 28 (.bin .add (.t 17) (.v (.c (.i .i64 1)))),aO 17 (.mv (.t 28))])))
def B58:ACode:=.seq [2,4] (.ops [aO 29 (.loadN 256 (.t 3)),aO 30 (.call 47 [(.t 29),(.v (.c (.i .i64 22))),(.v (.c (.i .i64 2)))]),aO 31 (.fAddr (.t 4) 10),aN (.store1 (.t 31) (.t 30))]) (.seq [2] (.ops [aO 32 (.loadN 11 (.t 4)),aN (.storeN 11 (.t 2) (.t 32))]) .ret)
def A_inode_Get:AFn:=⟨.seq [1,2] (.ops [aO 1 (.box (.t 0)),aO 2 (.alloc ([.i .i64 0,.i .i64 0,.i .i64 0,.i .i64 0,.i .i64 0,.i .i64 0,.i .i64 0,.i .i64 0,.i .i64 0,.i .i64 0,.i .i64 0]))]) (.seq [2,3] (.ops [aO 6 (.slA 32 1 (.t 1) none none),aO 7 (.call 66 [(.t 6)]),aO 3 (.alloc (List.replicate 256 (.i .u8 0))),aN (.storeN 256 (.t 3) (.t 7))]) (.seq [2,3,4] (.draw 1 [aO 8 (.loadN 256 (.t 3)),aO 9 (.call 47 [(.t 8),(.v (.c (.i .i64 0))),(.v (.c (.i .i64 1)))]),aO 10 (.loadN 256 (.t 3)),aO 11 (.call 47 [(.t 10),(.v (.c (.i .i64 2))),(.v (.c (.i .i64 2)))]),aO 12 (.loadN 256 (.t 3)),aO 13 (.call 47 [(.t 12),(.v (.c (.i .i64 4))),(.v (.c (.i .i64 4)))]),aO 14 (.loadN 256 (.t 3)),aO 15 (.call 47 [(.t 14),(.v (.c (.i .i64 8))),(.v (.c (.i .i64 2)))]),aO 16 (.build ([.i .i64 0,.i .i64 0,.i .i64 0,.i .i64 0,.i .i64 0,.i .i64 0,.i .i64 0,.i .i64 0,.i .i64 0,.i .i64 0,.i .i64 0]) [(0,1,(.t 9)),(1,1,(.t 11)),(2,1,(.t 13)),(3,1,(.t 15))]),aS 4 0 (.alloc ([.i .i64 0,.i .i64 0,.i .i64 0,.i .i64 0,.i .i64 0,.i .i64 0,.i .i64 0,.i .i64 0,.i .i64 0,.i .i64 0,.i .i64 0]))] [aN (.storeN 11 (.t 4) (.t 16))]) (.seq [2,3,4] (.seq [2,3,4,17] (.ops [aO 17 (.mv (.v (.c (.i .i64 0))))]) (.block 0 (.loop [2,3,4,17] B57))) B58))),[.cellN 2 11]⟩
def A3y:A9:=B0 66 X6 (B0 47 L8 C0)
def C6e (n:Nat):B4 (Val × A0):=E3 [2,3,4] (ax A3y n B58) A_inode_Get.fin
def C6f (n:Nat):B4 (Val × A0):=D9 0 (C6e n)
def A7G (n m:Nat) (x2 x3 x4 x17:Val) (h:A0):A6:=D2 (ax A3y n B57) [2,3,4,17] (C6f n) m [(2,x2),(3,x3),(4,x4),(17,x17)] h
def A6e (n:Nat) (args:List Val) (h:A0):A6:=ax A3y n A_inode_Get.code A_inode_Get.fin (params 0 args) h
theorem C0k (n:Nat) (a0:Val) (h:A0):A6e n [a0] h=bnd (cells? a0) fun c1=>bnd (W0 ((h ++ [some (Row.mk (c1) true)]) ++ [some (Row.mk ([.i .i64 0,.i .i64 0,.i .i64 0,.i .i64 0,.i .i64 0,.i .i64 0,.i .i64 0,.i .i64 0,.i .i64 0,.i .i64 0,.i .i64 0]) true)]) 32 1 (.c (.p h.length 0)) none none) fun v2=>bnd (X6 [v2] ((h ++ [some (Row.mk (c1) true)]) ++ [some (Row.mk ([.i .i64 0,.i .i64 0,.i .i64 0,.i .i64 0,.i .i64 0,.i .i64 0,.i .i64 0,.i .i64 0,.i .i64 0,.i .i64 0,.i .i64 0]) true)])) fun p3=>bnd (A8 (p3.2 ++ [some (Row.mk (List.replicate 256 (.i .u8 0)) true)]) 256 (.c (.p p3.2.length 0)) p3.1) fun h4=>bnd (A3 h4 256 (.c (.p p3.2.length 0))) fun v5=>bnd (quiet (h4 ++ [none]) (L8 [v5,.c (.i .i64 0),.c (.i .i64 1)] (h4 ++ [none]))) fun p6=>bnd (A3 h4 256 (.c (.p p3.2.length 0))) fun v7=>bnd (quiet p6.2 (L8 [v7,.c (.i .i64 2),.c (.i .i64 2)] p6.2)) fun p8=>bnd (A3 h4 256 (.c (.p p3.2.length 0))) fun v9=>bnd (quiet p8.2 (L8 [v9,.c (.i .i64 4),.c (.i .i64 4)] p8.2)) fun p10=>bnd (A3 h4 256 (.c (.p p3.2.length 0))) fun v11=>bnd (quiet p10.2 (L8 [v11,.c (.i .i64 8),.c (.i .i64 2)] p10.2)) fun p12=>bnd (A7 ([.i .i64 0,.i .i64 0,.i .i64 0,.i .i64 0,.i .i64 0,.i .i64 0,.i .i64 0,.i .i64 0,.i .i64 0,.i .i64 0,.i .i64 0]) [(0,1,p6.1),(1,1,p8.1),(2,1,p10.1),(3,1,p12.1)]) fun c13=>bnd (A8 (p12.2.set (h4.length + 0) (some (Row.mk ([.i .i64 0,.i .i64 0,.i .i64 0,.i .i64 0,.i .i64 0,.i .i64 0,.i .i64 0,.i .i64 0,.i .i64 0,.i .i64 0,.i .i64 0]) true))) 11 (.c (.p (h4.length + 0) 0)) (.a c13)) fun h14=>A7G n n (.c (.p (h ++ [some (Row.mk (c1) true)]).length 0)) (.c (.p p3.2.length 0)) (.c (.p (h4.length + 0) 0)) (.c (.i .i64 0)) h14:=by kernel_rfl
theorem B59 (n m:Nat) (x2 x3 x4 x17:Val) (h:A0):A7G n (m + 1) x2 x3 x4 x17 h=bnd (A2 .lss x17 (.c (.i .i64 6))) fun v15=>cnd v15 (bnd (A3 h 256 x3) fun v16=>bnd (A2 .mul (.c (.i .i64 2)) x17) fun v17=>bnd (A2 .add (.c (.i .i64 10)) v17) fun v18=>bnd (L8 [v16,v18,.c (.i .i64 2)] h) fun p19=>bnd (B3 x4 4) fun v20=>bnd (D6 6 1 v20 x17) fun v21=>bnd (E4 p19.2 v21 p19.1) fun h22=>bnd (A2 .add x17 (.c (.i .i64 1))) fun v23=>A7G n m x2 x3 x4 v23 h22) (bnd (A3 h 256 x3) fun v24=>bnd (L8 [v24,.c (.i .i64 22),.c (.i .i64 2)] h) fun p25=>bnd (B3 x4 10) fun v26=>bnd (E4 p25.2 v26 p25.1) fun h27=>bnd (A3 h27 11 x4) fun v28=>bnd (A8 h27 11 x2 v28) fun h29=>mp (A3 h29 11 x2) fun v=>(v,h29)):=by kernel_rfl
theorem K_inode_Get:FnK Try.prog 80 A_inode_Get A3y A6e:=.mk' (B1 A6N (B1 A4p C2)) Try.func80 (by kernel_rfl) (fun _ _ _=>C1)
def A4k:Fun:=tidy (Lim A_inode_Get A3y)
theorem C2e:SOk Try.prog 80 A4k:=K_inode_Get.sok
theorem C2d:D5 A6e A4k:=K_inode_Get.flat
def A_inode_Clean:AFn:=⟨.seq [1,2] (.ops [aO 1 (.box (.t 0)),aO 2 (.alloc ([.i .i64 0,.i .i64 0,.i .i64 0,.i .i64 0,.i .i64 0,.i .i64 0,.i .i64 0,.i .i64 0,.i .i64 0,.i .i64 0,.i .i64 0])),aO 3 (.mv (.v (.c (.b false))))]) (.seq [1,2,4] (.ops [aO 7 (.loadN 32 (.t 1)),aO 8 (.call 80 [(.t 7)]),aO 4 (.alloc ([.i .i64 0,.i .i64 0,.i .i64 0,.i .i64 0,.i .i64 0,.i .i64 0,.i .i64 0,.i .i64 0,.i .i64 0,.i .i64 0,.i .i64 0])),aN (.storeN 11 (.t 4) (.t 8))]) (.seq [2,4] (.seq [1,2,4,5,6] (.ops [aO 10 (.loadN 11 (.t 4)),aO 11 (.call 81 [(.t 10)]),aO 9 (.mv (.t 11)),aO 12 (.ext (.t 9) 0),aO 13 (.ext (.t 9) 1),aO 5 (.alloc (List.replicate 32 (.i .u8 0))),aN (.storeN 32 (.t 5) (.t 12)),aO 6 (.mv (.t 13))]) (.seq [2,4,20] (.ops [aO 14 (.mv (.t 6)),aO 15 (.bin .neq (.t 14) (.v (.c (.i .i64 0)))),aO 16 (.mv (.t 15)),aG 17 16 false (.loadN 32 (.t 5)),aG 18 16 false (.loadN 32 (.t 1)),aG 19 16 false (.eqA true (List.replicate 32 (.i .u8)) (.t 17) (.t 18)),aO 20 (.pick (.t 16) (.v (.c (.b true))) (.t 19))]) (.cond (.t 20) (.seq [2,3] (.ops [aO 21 (.build ([.i .i64 0,.i .i64 0,.i .i64 0,.i .i64 0,.i .i64 0,.i .i64 0,.i .i64 0,.i .i64 0,.i .i64 0,.i .i64 0,.i .i64 0]) []),aN (.storeN 11 (.t 2) (.t 21)),aO 3 (.mv (.v (.c (.b false))))]) .ret) .skip))) (.seq [2,3] (.ops [aO 22 (.loadN 11 (.t 4)),aN (.storeN 11 (.t 2) (.t 22)),aO 3 (.mv (.v (.c (.b true))))]) .ret))),[.cellN 2 11,.tmp 3]⟩
def A9f:A9:=B0 80 A4k (B0 81 A1S C0)
def A6d (n:Nat) (args:List Val) (h:A0):A6:=ax A9f n A_inode_Clean.code A_inode_Clean.fin (params 0 args) h
theorem C0j (n:Nat) (a0:Val) (h:A0):A6d n [a0] h=bnd (cells? a0) fun c1=>bnd (A3 ((h ++ [some (Row.mk (c1) true)]) ++ [some (Row.mk ([.i .i64 0,.i .i64 0,.i .i64 0,.i .i64 0,.i .i64 0,.i .i64 0,.i .i64 0,.i .i64 0,.i .i64 0,.i .i64 0,.i .i64 0]) true)]) 32 (.c (.p h.length 0))) fun v2=>bnd (A4k [v2] ((h ++ [some (Row.mk (c1) true)]) ++ [some (Row.mk ([.i .i64 0,.i .i64 0,.i .i64 0,.i .i64 0,.i .i64 0,.i .i64 0,.i .i64 0,.i .i64 0,.i .i64 0,.i .i64 0,.i .i64 0]) true)])) fun p3=>bnd (A8 (p3.2 ++ [some (Row.mk ([.i .i64 0,.i .i64 0,.i .i64 0,.i .i64 0,.i .i64 0,.i .i64 0,.i .i64 0,.i .i64 0,.i .i64 0,.i .i64 0,.i .i64 0]) true)]) 11 (.c (.p p3.2.length 0)) p3.1) fun h4=>bnd (A3 h4 11 (.c (.p p3.2.length 0))) fun v5=>bnd (A1S [v5] h4) fun p6=>bnd (C3 p6.1 0) fun v7=>bnd (C3 p6.1 1) fun v8=>bnd (A8 (p6.2 ++ [some (Row.mk (List.replicate 32 (.i .u8 0)) true)]) 32 (.c (.p p6.2.length 0)) v7) fun h9=>bnd (A2 .neq v8 (.c (.i .i64 0))) fun v10=>bnd (gd v10 false (bnd (A3 h9 32 (.c (.p p6.2.length 0))) fun v11=>some (v11,h9)) (some (.no,h9))) fun p12=>bnd (gd v10 false (bnd (A3 p12.2 32 (.c (.p h.length 0))) fun v13=>some (v13,p12.2)) (some (.no,p12.2))) fun p14=>bnd (gd v10 false (bnd (aeq true (List.replicate 32 (.i .u8)) p12.1 p14.1) fun v15=>some (v15,p14.2)) (some (.no,p14.2))) fun p16=>bnd (C9 v10 (.c (.b true)) p16.1) fun v17=>cnd v17 (bnd (A7 ([.i .i64 0,.i .i64 0,.i .i64 0,.i .i64 0,.i .i64 0,.i .i64 0,.i .i64 0,.i .i64 0,.i .i64 0,.i .i64 0,.i .i64 0]) []) fun c18=>bnd (A8 p16.2 11 (.c (.p (h ++ [some (Row.mk (c1) true)]).length 0)) (.a c18)) fun h19=>C7 [A3 h19 11 (.c (.p (h ++ [some (Row.mk (c1) true)]).length 0)),some (.c (.b false))] h19) (bnd (A3 p16.2 11 (.c (.p p3.2.length 0))) fun v20=>bnd (A8 p16.2 11 (.c (.p (h ++ [some (Row.mk (c1) true)]).length 0)) v20) fun h21=>C7 [A3 h21 11 (.c (.p (h ++ [some (Row.mk (c1) true)]).length 0)),some (.c (.b true))] h21):=by kernel_rfl
theorem K_inode_Clean:FnK Try.prog 50 A_inode_Clean A9f A6d:=.mk' (B1 C2e (B1 B26 C2)) Try.func50 (by kernel_rfl) (fun _ _ _=>C1)
def A4j:Fun:=tidy (Lim A_inode_Clean A9f)
theorem C2c:SOk Try.prog 50 A4j:=K_inode_Clean.sok
theorem C2b:D5 A6d A4j:=K_inode_Clean.flat
end Go.Proofs.Yteckncopbicmcaa
end
noncomputable section
namespace Go.Proofs.Yteckncopbicmcaa
open Go Go.Esc
set_option maxRecDepth 100000
def A_patch_Check:AFn:=⟨.seq [1] (.ops [aO 1 (.box (.t 0)),aO 2 (.mv (.v (.c (.i .i64 0))))]) (.seq [1,3] (.ops [aO 4 (.fAddr (.t 1) 1),aO 5 (.load1 (.t 4)),aO 6 (.len (.t 5)),aO 3 (.mv (.t 6))]) (.seq [] (.seq [24] (.ops [aO 7 (.mv (.t 3)),aO 8 (.bin .lss (.t 7) (.v (.c (.i .i64 1)))),aO 9 (.mv (.t 8)),aG 10 9 false (.mv (.t 3)),aG 11 9 false (.bin .gtr (.t 10) (.v (.c (.i .i64 256)))),aO 12 (.pick (.t 9) (.v (.c (.b true))) (.t 11)),aO 13 (.mv (.t 12)),aG 14 13 false (.fAddr (.t 1) 0),aG 15 13 false (.load1 (.t 14)),aG 16 13 false (.bin .lss (.t 15) (.v (.c (.i .i64 0)))),aO 17 (.pick (.t 13) (.v (.c (.b true))) (.t 16)),aO 18 (.mv (.t 17)),aG 19 18 false (.fAddr (.t 1) 0),aG 20 18 false (.load1 (.t 19)),aG 21 18 false (.mv (.t 3)),aG 22 18 false (.bin .sub (.v (.c (.i .i64 256))) (.t 21)),aG 23 18 false (.bin .gtr (.t 20) (.t 22)),aO 24 (.pick (.t 18) (.v (.c (.b true))) (.t 23))]) (.cond (.t 24) (.seq [2] (.ops [aO 2 (.mv (.v (.c (.i .i64 2))))]) .ret) .skip)) (.seq [2] (.ops [aO 2 (.mv (.v (.c (.i .i64 0))))]) .ret))),[.tmp 2]⟩
def A9n:A9:=C0
def A6r (n:Nat) (args:List Val) (h:A0):A6:=ax A9n n A_patch_Check.code A_patch_Check.fin (params 0 args) h
theorem C0F (n:Nat) (a0:Val) (h:A0):A6r n [a0] h=bnd (cells? a0) fun c1=>bnd (B3 (.c (.p h.length 0)) 1) fun v2=>bnd (A4 (h ++ [some (Row.mk (c1) true)]) v2) fun v3=>bnd (E9 v3) fun v4=>bnd (A2 .lss v4 (.c (.i .i64 1))) fun v5=>bnd (gd v5 false (some (v4,(h ++ [some (Row.mk (c1) true)]))) (some (.no,(h ++ [some (Row.mk (c1) true)])))) fun p6=>bnd (gd v5 false (bnd (A2 .gtr p6.1 (.c (.i .i64 256))) fun v7=>some (v7,p6.2)) (some (.no,p6.2))) fun p8=>bnd (C9 v5 (.c (.b true)) p8.1) fun v9=>bnd (gd v9 false (bnd (B3 (.c (.p h.length 0)) 0) fun v10=>some (v10,p8.2)) (some (.no,p8.2))) fun p11=>bnd (gd v9 false (bnd (A4 p11.2 p11.1) fun v12=>some (v12,p11.2)) (some (.no,p11.2))) fun p13=>bnd (gd v9 false (bnd (A2 .lss p13.1 (.c (.i .i64 0))) fun v14=>some (v14,p13.2)) (some (.no,p13.2))) fun p15=>bnd (C9 v9 (.c (.b true)) p15.1) fun v16=>bnd (gd v16 false (bnd (B3 (.c (.p h.length 0)) 0) fun v17=>some (v17,p15.2)) (some (.no,p15.2))) fun p18=>bnd (gd v16 false (bnd (A4 p18.2 p18.1) fun v19=>some (v19,p18.2)) (some (.no,p18.2))) fun p20=>bnd (gd v16 false (some (v4,p20.2)) (some (.no,p20.2))) fun p21=>bnd (gd v16 false (bnd (A2 .sub (.c (.i .i64 256)) p21.1) fun v22=>some (v22,p21.2)) (some (.no,p21.2))) fun p23=>bnd (gd v16 false (bnd (A2 .gtr p20.1 p23.1) fun v24=>some (v24,p23.2)) (some (.no,p23.2))) fun p25=>bnd (C9 v16 (.c (.b true)) p25.1) fun v26=>cnd v26 (some ((.c (.i .i64 2)),p25.2)) (some ((.c (.i .i64 0)),p25.2)):=by kernel_rfl
theorem K_patch_Check:FnK Try.prog 90 A_patch_Check A9n A6r:=.mk' (C2) Try.func90 (by kernel_rfl) (fun _ _ _=>C1)
def A4s:Fun:=tidy (Lim A_patch_Check A9n)
theorem C2I:SOk Try.prog 90 A4s:=K_patch_Check.sok
theorem C2H:D5 A6r A4s:=K_patch_Check.flat
def B7J:ACode:=.seq [2,3,4,12,13,14,15] (.ops [aO 15 (.bin .lss (.t 14) (.t 13))]) (.seq [2,3,4,12,13,14] (.cond (.t 15) .skip (.exit 0)) (.seq [2,3,4,12,13,14] (.block 1 (.seq [2,3,4,5,6,12,13,14] (.ops [aO 16 (.mv (.t 14)),aO 17 (.iAddrL 1 (.t 12) (.t 14)),aO 18 (.load1 (.t 17)),aO 5 (.mv (.t 16)),aO 6 (.mv (.t 18))]) (.ops [aO 19 (.fAddr (.t 3) 0),aO 20 (.load1 (.t 19)),aO 21 (.mv (.t 5)),aO 22 (.bin .add (.t 20) (.t 21)),aO 23 (.mv (.t 6)),aO 24 (.iAddrA 256 1 (.t 2) (.t 22)),aN (.store1 (.t 24) (.t 23))]))) (.ops [aO 25 (.bin .add (.t 14) (.v (.c (.i .i64 1)))),aO 14 (.mv (.t 25))])))
def B7K:ACode:=.seq [4] (.ops [aO 26 (.loadN 256 (.t 2)),aN (.storeN 256 (.t 4) (.t 26))]) .ret
def A_patch_Lay:AFn:=⟨.seq [2,3,4] (.ops [aO 2 (.box (.t 0)),aO 3 (.box (.t 1)),aO 4 (.alloc (List.replicate 256 (.i .u8 0)))]) (.seq [2,3,4] (.seq [2,3,4,9] (.ops [aO 7 (.loadN 2 (.t 3)),aO 8 (.call 90 [(.t 7)]),aO 9 (.bin .neq (.t 8) (.v (.c (.i .i64 0))))]) (.cond (.t 9) (.seq [4] (.ops [aO 10 (.loadN 256 (.t 2)),aN (.storeN 256 (.t 4) (.t 10))]) .ret) .skip)) (.seq [2,4] (.seq [2,3,4,12,13,14] (.ops [aO 11 (.fAddr (.t 3) 1),aO 12 (.load1 (.t 11)),aO 13 (.len (.t 12)),aO 14 (.mv (.v (.c (.i .i64 0))))]) (.block 0 (.loop [2,3,4,12,13,14] B7J))) B7K)),[.cellN 4 256]⟩
def A3J:A9:=B0 90 A4s C0
def C7E (n:Nat):B4 (Val × A0):=E3 [2,4] (ax A3J n B7K) A_patch_Lay.fin
def C7F (n:Nat):B4 (Val × A0):=D9 0 (C7E n)
def A8g (n m:Nat) (x2 x3 x4 x12 x13 x14:Val) (h:A0):A6:=D2 (ax A3J n B7J) [2,3,4,12,13,14] (C7F n) m [(2,x2),(3,x3),(4,x4),(12,x12),(13,x13),(14,x14)] h
def A6s (n:Nat) (args:List Val) (h:A0):A6:=ax A3J n A_patch_Lay.code A_patch_Lay.fin (params 0 args) h
theorem C0G (n:Nat) (a0 a1:Val) (h:A0):A6s n [a0,a1] h=bnd (cells? a0) fun c1=>bnd (cells? a1) fun c2=>bnd (A3 (((h ++ [some (Row.mk (c1) true)]) ++ [some (Row.mk (c2) true)]) ++ [some (Row.mk (List.replicate 256 (.i .u8 0)) true)]) 2 (.c (.p (h ++ [some (Row.mk (c1) true)]).length 0))) fun v3=>bnd (A4s [v3] (((h ++ [some (Row.mk (c1) true)]) ++ [some (Row.mk (c2) true)]) ++ [some (Row.mk (List.replicate 256 (.i .u8 0)) true)])) fun p4=>bnd (A2 .neq p4.1 (.c (.i .i64 0))) fun v5=>cnd v5 (bnd (A3 p4.2 256 (.c (.p h.length 0))) fun v6=>bnd (A8 p4.2 256 (.c (.p ((h ++ [some (Row.mk (c1) true)]) ++ [some (Row.mk (c2) true)]).length 0)) v6) fun h7=>mp (A3 h7 256 (.c (.p ((h ++ [some (Row.mk (c1) true)]) ++ [some (Row.mk (c2) true)]).length 0))) fun v=>(v,h7)) (bnd (B3 (.c (.p (h ++ [some (Row.mk (c1) true)]).length 0)) 1) fun v8=>bnd (A4 p4.2 v8) fun v9=>bnd (E9 v9) fun v10=>A8g n n (.c (.p h.length 0)) (.c (.p (h ++ [some (Row.mk (c1) true)]).length 0)) (.c (.p ((h ++ [some (Row.mk (c1) true)]) ++ [some (Row.mk (c2) true)]).length 0)) v9 v10 (.c (.i .i64 0)) p4.2):=by kernel_rfl
theorem B7L (n m:Nat) (x2 x3 x4 x12 x13 x14:Val) (h:A0):A8g n (m + 1) x2 x3 x4 x12 x13 x14 h=bnd (A2 .lss x14 x13) fun v11=>cnd v11 (bnd (B8 1 x12 x14) fun v12=>bnd (A4 h v12) fun v13=>bnd (B3 x3 0) fun v14=>bnd (A4 h v14) fun v15=>bnd (A2 .add v15 x14) fun v16=>bnd (D6 256 1 x2 v16) fun v17=>bnd (E4 h v17 v13) fun h18=>bnd (A2 .add x14 (.c (.i .i64 1))) fun v19=>A8g n m x2 x3 x4 x12 x13 v19 h18) (bnd (A3 h 256 x2) fun v20=>bnd (A8 h 256 x4 v20) fun h21=>mp (A3 h21 256 x4) fun v=>(v,h21)):=by kernel_rfl
theorem K_patch_Lay:FnK Try.prog 71 A_patch_Lay A3J A6s:=.mk' (B1 C2I C2) Try.func71 (by kernel_rfl) (fun _ _ _=>C1)
def A4t:Fun:=tidy (Lim A_patch_Lay A3J)
theorem C2K:SOk Try.prog 71 A4t:=K_patch_Lay.sok
theorem C2J:D5 A6s A4t:=K_patch_Lay.flat
end Go.Proofs.Yteckncopbicmcaa
end
noncomputable section
namespace Go.Proofs.Yteckncopbicmcaa
open Go Go.Esc
set_option maxRecDepth 100000
def A_table_Patch:AFn:=⟨.seq [0,3,4] (.ops [aO 3 (.box (.t 1)),aO 4 (.alloc ([.i .i64 0,.ns])),aO 5 (.mv (.v (.c (.i .i64 0))))]) (.seq [0,3,4] (.seq [0,3,4,13] (.ops [aO 8 (.mv (.t 0)),aO 9 (.bin .lss (.t 8) (.v (.c (.i .i64 0)))),aO 10 (.mv (.t 9)),aG 11 10 false (.mv (.t 0)),aG 12 10 false (.bin .geq (.t 11) (.v (.c (.i .i64 8)))),aO 13 (.pick (.t 10) (.v (.c (.b true))) (.t 12))]) (.cond (.t 13) (.seq [4,5] (.ops [aO 14 (.build ([.i .i64 0,.ns]) []),aN (.storeN 2 (.t 4) (.t 14)),aO 5 (.mv (.v (.c (.i .i64 2))))]) .ret) .skip)) (.seq [0,4,6,7] (.ops [aO 16 (.loadN 11 (.t 3)),aO 17 (.call 81 [(.t 16)]),aO 15 (.mv (.t 17)),aO 18 (.ext (.t 15) 0),aO 19 (.ext (.t 15) 1),aO 6 (.alloc (List.replicate 32 (.i .u8 0))),aN (.storeN 32 (.t 6) (.t 18)),aO 7 (.mv (.t 19))]) (.seq [0,4,6] (.seq [0,4,6,7,21] (.ops [aO 20 (.mv (.t 7)),aO 21 (.bin .neq (.t 20) (.v (.c (.i .i64 0))))]) (.cond (.t 21) (.seq [4,5] (.ops [aO 22 (.build ([.i .i64 0,.ns]) []),aO 23 (.mv (.t 7)),aN (.storeN 2 (.t 4) (.t 22)),aO 5 (.mv (.t 23))]) .ret) .skip)) (.seq [4,5] (.ops [aO 24 (.mv (.t 0)),aO 25 (.bin .mul (.t 24) (.v (.c (.i .i64 32)))),aO 26 (.buildSl 1 0 ([]) []),aO 27 (.slA 32 1 (.t 6) none none),aO 28 (.app 1 (.t 26) (.t 27)),aO 29 (.build ([.i .i64 0,.ns]) [(0,1,(.t 25)),(1,1,(.t 28))]),aN (.storeN 2 (.t 4) (.t 29)),aO 5 (.mv (.v (.c (.i .i64 0))))]) .ret)))),[.cellN 4 2,.tmp 5]⟩
def A9t:A9:=B0 81 A1S C0
def A6z (n:Nat) (args:List Val) (h:A0):A6:=ax A9t n A_table_Patch.code A_table_Patch.fin (params 0 args) h
theorem C0N (n:Nat) (a0 a1:Val) (h:A0):A6z n [a0,a1] h=bnd (cells? a1) fun c1=>bnd (A2 .lss a0 (.c (.i .i64 0))) fun v2=>bnd (gd v2 false (some (a0,((h ++ [some (Row.mk (c1) true)]) ++ [some (Row.mk ([.i .i64 0,.ns]) true)]))) (some (.no,((h ++ [some (Row.mk (c1) true)]) ++ [some (Row.mk ([.i .i64 0,.ns]) true)])))) fun p3=>bnd (gd v2 false (bnd (A2 .geq p3.1 (.c (.i .i64 8))) fun v4=>some (v4,p3.2)) (some (.no,p3.2))) fun p5=>bnd (C9 v2 (.c (.b true)) p5.1) fun v6=>cnd v6 (bnd (A7 ([.i .i64 0,.ns]) []) fun c7=>bnd (A8 p5.2 2 (.c (.p (h ++ [some (Row.mk (c1) true)]).length 0)) (.a c7)) fun h8=>C7 [A3 h8 2 (.c (.p (h ++ [some (Row.mk (c1) true)]).length 0)),some (.c (.i .i64 2))] h8) (bnd (A3 p5.2 11 (.c (.p h.length 0))) fun v9=>bnd (A1S [v9] p5.2) fun p10=>bnd (C3 p10.1 0) fun v11=>bnd (C3 p10.1 1) fun v12=>bnd (A8 (p10.2 ++ [some (Row.mk (List.replicate 32 (.i .u8 0)) true)]) 32 (.c (.p p10.2.length 0)) v11) fun h13=>bnd (A2 .neq v12 (.c (.i .i64 0))) fun v14=>cnd v14 (bnd (A7 ([.i .i64 0,.ns]) []) fun c15=>bnd (A8 h13 2 (.c (.p (h ++ [some (Row.mk (c1) true)]).length 0)) (.a c15)) fun h16=>C7 [A3 h16 2 (.c (.p (h ++ [some (Row.mk (c1) true)]).length 0)),some v12] h16) (bnd (A2 .mul a0 (.c (.i .i64 32))) fun v17=>bnd (A7 ([]) []) fun c18=>bnd (W0 (h13 ++ [some (Row.mk (c18) true)]) 32 1 (.c (.p p10.2.length 0)) none none) fun v19=>bnd (F0 (h13 ++ [some (Row.mk (c18) true)]) 1 (.c (.sl h13.length 0 0 1)) v19) fun p20=>bnd (A7 ([.i .i64 0,.ns]) [(0,1,v17),(1,1,p20.1)]) fun c21=>bnd (A8 p20.2 2 (.c (.p (h ++ [some (Row.mk (c1) true)]).length 0)) (.a c21)) fun h22=>C7 [A3 h22 2 (.c (.p (h ++ [some (Row.mk (c1) true)]).length 0)),some (.c (.i .i64 0))] h22)):=by kernel_rfl
theorem K_table_Patch:FnK Try.prog 70 A_table_Patch A9t A6z:=.mk' (B1 B26 C2) Try.func70 (by kernel_rfl) (fun _ _ _=>C1)
def A4y:Fun:=tidy (Lim A_table_Patch A9t)
theorem C2V:SOk Try.prog 70 A4y:=K_table_Patch.sok
theorem C2W:A6Q A6z A4y:=K_table_Patch.tidy
def A_table_With:AFn:=⟨.seq [1,3,5,6] (.ops [aO 3 (.box (.t 0)),aO 5 (.box (.t 2)),aO 6 (.alloc (List.replicate 256 (.i .u8 0))),aO 7 (.mv (.v (.c (.i .i64 0))))]) (.seq [3,6,8,9] (.ops [aO 11 (.mv (.t 1)),aO 12 (.loadN 11 (.t 5)),aO 13 (.call 70 [(.t 11),(.t 12)]),aO 10 (.mv (.t 13)),aO 14 (.ext (.t 10) 0),aO 15 (.ext (.t 10) 1),aO 8 (.alloc ([.i .i64 0,.ns])),aN (.storeN 2 (.t 8) (.t 14)),aO 9 (.mv (.t 15))]) (.seq [3,6,8] (.seq [3,6,8,9,17] (.ops [aO 16 (.mv (.t 9)),aO 17 (.bin .neq (.t 16) (.v (.c (.i .i64 0))))]) (.cond (.t 17) (.seq [6,7] (.ops [aO 18 (.loadN 256 (.t 3)),aO 19 (.mv (.t 9)),aN (.storeN 256 (.t 6) (.t 18)),aO 7 (.mv (.t 19))]) .ret) .skip)) (.seq [6,7] (.ops [aO 20 (.loadN 256 (.t 3)),aO 21 (.loadN 2 (.t 8)),aO 22 (.call 71 [(.t 20),(.t 21)]),aN (.storeN 256 (.t 6) (.t 22)),aO 7 (.mv (.v (.c (.i .i64 0))))]) .ret))),[.cellN 6 256,.tmp 7]⟩
def A9u:A9:=B0 70 A4y (B0 71 A4t C0)
def A6B (n:Nat) (args:List Val) (h:A0):A6:=ax A9u n A_table_With.code A_table_With.fin (params 0 args) h
theorem C0P (n:Nat) (a0 a1 a2:Val) (h:A0):A6B n [a0,a1,a2] h=bnd (cells? a0) fun c1=>bnd (cells? a2) fun c2=>bnd (A3 (((h ++ [some (Row.mk (c1) true)]) ++ [some (Row.mk (c2) true)]) ++ [some (Row.mk (List.replicate 256 (.i .u8 0)) true)]) 11 (.c (.p (h ++ [some (Row.mk (c1) true)]).length 0))) fun v3=>bnd (A4y [a1,v3] (((h ++ [some (Row.mk (c1) true)]) ++ [some (Row.mk (c2) true)]) ++ [some (Row.mk (List.replicate 256 (.i .u8 0)) true)])) fun p4=>bnd (C3 p4.1 0) fun v5=>bnd (C3 p4.1 1) fun v6=>bnd (A8 (p4.2 ++ [some (Row.mk ([.i .i64 0,.ns]) true)]) 2 (.c (.p p4.2.length 0)) v5) fun h7=>bnd (A2 .neq v6 (.c (.i .i64 0))) fun v8=>cnd v8 (bnd (A3 h7 256 (.c (.p h.length 0))) fun v9=>bnd (A8 h7 256 (.c (.p ((h ++ [some (Row.mk (c1) true)]) ++ [some (Row.mk (c2) true)]).length 0)) v9) fun h10=>C7 [A3 h10 256 (.c (.p ((h ++ [some (Row.mk (c1) true)]) ++ [some (Row.mk (c2) true)]).length 0)),some v6] h10) (bnd (A3 h7 256 (.c (.p h.length 0))) fun v11=>bnd (A3 h7 2 (.c (.p p4.2.length 0))) fun v12=>bnd (A4t [v11,v12] h7) fun p13=>bnd (A8 p13.2 256 (.c (.p ((h ++ [some (Row.mk (c1) true)]) ++ [some (Row.mk (c2) true)]).length 0)) p13.1) fun h14=>C7 [A3 h14 256 (.c (.p ((h ++ [some (Row.mk (c1) true)]) ++ [some (Row.mk (c2) true)]).length 0)),some (.c (.i .i64 0))] h14):=by kernel_rfl
theorem K_table_With:FnK Try.prog 42 A_table_With A9u A6B:=.mk' (B1 C2V (B1 C2K C2)) Try.func42 (by kernel_rfl) (fun _ _ _=>C1)
def A03:Fun:=tidy (Lim A_table_With A9u)
theorem C20:SOk Try.prog 42 A03:=K_table_With.sok
theorem C2Z:D5 A6B A03:=K_table_With.flat
def B8E:ACode:=.seq [1,2,4,5,14,15] (.ops [aO 15 (.bin .lss (.t 14) (.v (.c (.i .i64 32))))]) (.seq [1,2,4,5,14] (.cond (.t 15) .skip (.exit 0)) (.seq [1,2,4,5,14] (.block 1 (.seq [1,2,4,5,6,14] (.ops [aO 16 (.mv (.t 14)),aO 6 (.mv (.t 16))]) (.ops [aO 17 (.mv (.t 6)),aO 18 (.mv (.t 1)),aO 19 (.bin .mul (.t 18) (.v (.c (.i .i64 32)))),aO 20 (.mv (.t 6)),aO 21 (.bin .add (.t 19) (.t 20)),aO 22 (.iAddrA 256 1 (.t 2) (.t 21)),aO 23 (.load1 (.t 22)),aO 24 (.iAddrA 32 1 (.t 5) (.t 17)),aN (.store1 (.t 24) (.t 23))]))) (.ops [aO 25 (.bin .add (.t 14) (.v (.c (.i .i64 1)))),aO 14 (.mv (.t 25))])))
def B8F:ACode:=.seq [4] (.ops [aO 26 (.loadN 32 (.t 5)),aN (.storeN 32 (.t 4) (.t 26))]) .ret
def A_table_Raw:AFn:=⟨.seq [1,2,4] (.ops [aO 2 (.box (.t 0)),aO 4 (.alloc (List.replicate 32 (.i .u8 0)))]) (.seq [1,2,4,5] (.ops [aO 5 (.alloc (List.replicate 32 (.i .u8 0)))]) (.seq [1,2,4,5] (.seq [1,2,4,5,12] (.ops [aO 7 (.mv (.t 1)),aO 8 (.bin .lss (.t 7) (.v (.c (.i .i64 0)))),aO 9 (.mv (.t 8)),aG 10 9 false (.mv (.t 1)),aG 11 9 false (.bin .geq (.t 10) (.v (.c (.i .i64 8)))),aO 12 (.pick (.t 9) (.v (.c (.b true))) (.t 11))]) (.cond (.t 12) (.seq [4] (.ops [aO 13 (.loadN 32 (.t 5)),aN (.storeN 32 (.t 4) (.t 13))]) .ret) .skip)) (.seq [4,5] (.seq [1,2,4,5,14] (.ops [aO 14 (.mv (.v (.c (.i .i64 0))))]) (.block 0 (.loop [1,2,4,5,14] B8E))) B8F))),[.cellN 4 32]⟩
def A3K:A9:=C0
def C9r (n:Nat):B4 (Val × A0):=E3 [4,5] (ax A3K n B8F) A_table_Raw.fin
def C9s (n:Nat):B4 (Val × A0):=D9 0 (C9r n)
def A8z (n m:Nat) (x1 x2 x4 x5 x14:Val) (h:A0):A6:=D2 (ax A3K n B8E) [1,2,4,5,14] (C9s n) m [(1,x1),(2,x2),(4,x4),(5,x5),(14,x14)] h
def A6A (n:Nat) (args:List Val) (h:A0):A6:=ax A3K n A_table_Raw.code A_table_Raw.fin (params 0 args) h
theorem C0O (n:Nat) (a0 a1:Val) (h:A0):A6A n [a0,a1] h=bnd (cells? a0) fun c1=>bnd (A2 .lss a1 (.c (.i .i64 0))) fun v2=>bnd (gd v2 false (some (a1,(((h ++ [some (Row.mk (c1) true)]) ++ [some (Row.mk (List.replicate 32 (.i .u8 0)) true)]) ++ [some (Row.mk (List.replicate 32 (.i .u8 0)) true)]))) (some (.no,(((h ++ [some (Row.mk (c1) true)]) ++ [some (Row.mk (List.replicate 32 (.i .u8 0)) true)]) ++ [some (Row.mk (List.replicate 32 (.i .u8 0)) true)])))) fun p3=>bnd (gd v2 false (bnd (A2 .geq p3.1 (.c (.i .i64 8))) fun v4=>some (v4,p3.2)) (some (.no,p3.2))) fun p5=>bnd (C9 v2 (.c (.b true)) p5.1) fun v6=>cnd v6 (bnd (A3 p5.2 32 (.c (.p ((h ++ [some (Row.mk (c1) true)]) ++ [some (Row.mk (List.replicate 32 (.i .u8 0)) true)]).length 0))) fun v7=>bnd (A8 p5.2 32 (.c (.p (h ++ [some (Row.mk (c1) true)]).length 0)) v7) fun h8=>mp (A3 h8 32 (.c (.p (h ++ [some (Row.mk (c1) true)]).length 0))) fun v=>(v,h8)) (A8z n n a1 (.c (.p h.length 0)) (.c (.p (h ++ [some (Row.mk (c1) true)]).length 0)) (.c (.p ((h ++ [some (Row.mk (c1) true)]) ++ [some (Row.mk (List.replicate 32 (.i .u8 0)) true)]).length 0)) (.c (.i .i64 0)) p5.2):=by kernel_rfl
theorem B8G (n m:Nat) (x1 x2 x4 x5 x14:Val) (h:A0):A8z n (m + 1) x1 x2 x4 x5 x14 h=bnd (A2 .lss x14 (.c (.i .i64 32))) fun v9=>cnd v9 (bnd (A2 .mul x1 (.c (.i .i64 32))) fun v10=>bnd (A2 .add v10 x14) fun v11=>bnd (D6 256 1 x2 v11) fun v12=>bnd (A4 h v12) fun v13=>bnd (D6 32 1 x5 x14) fun v14=>bnd (E4 h v14 v13) fun h15=>bnd (A2 .add x14 (.c (.i .i64 1))) fun v16=>A8z n m x1 x2 x4 x5 v16 h15) (bnd (A3 h 32 x5) fun v17=>bnd (A8 h 32 x4 v17) fun h18=>mp (A3 h18 32 x4) fun v=>(v,h18)):=by kernel_rfl
theorem K_table_Raw:FnK Try.prog 51 A_table_Raw A3K A6A:=.mk' (C2) Try.func51 (by kernel_rfl) (fun _ _ _=>C1)
def A4z:Fun:=tidy (Lim A_table_Raw A3K)
theorem C2Y:SOk Try.prog 51 A4z:=K_table_Raw.sok
theorem C2X:D5 A6A A4z:=K_table_Raw.flat
def A_table_Get:AFn:=⟨.seq [1,2,4] (.ops [aO 2 (.box (.t 0)),aO 4 (.alloc ([.i .i64 0,.i .i64 0,.i .i64 0,.i .i64 0,.i .i64 0,.i .i64 0,.i .i64 0,.i .i64 0,.i .i64 0,.i .i64 0,.i .i64 0])),aO 5 (.mv (.v (.c (.b false))))]) (.seq [1,2,4] (.seq [1,2,4,11] (.ops [aO 6 (.mv (.t 1)),aO 7 (.bin .lss (.t 6) (.v (.c (.i .i64 0)))),aO 8 (.mv (.t 7)),aG 9 8 false (.mv (.t 1)),aG 10 8 false (.bin .geq (.t 9) (.v (.c (.i .i64 8)))),aO 11 (.pick (.t 8) (.v (.c (.b true))) (.t 10))]) (.cond (.t 11) (.seq [4,5] (.ops [aO 12 (.build ([.i .i64 0,.i .i64 0,.i .i64 0,.i .i64 0,.i .i64 0,.i .i64 0,.i .i64 0,.i .i64 0,.i .i64 0,.i .i64 0,.i .i64 0]) []),aN (.storeN 11 (.t 4) (.t 12)),aO 5 (.mv (.v (.c (.b false))))]) .ret) .skip)) (.seq [4,5] (.ops [aO 13 (.loadN 256 (.t 2)),aO 14 (.mv (.t 1)),aO 15 (.call 51 [(.t 13),(.t 14)]),aO 16 (.call 50 [(.t 15)]),aO 17 (.ext (.t 16) 0),aO 18 (.ext (.t 16) 1),aN (.storeN 11 (.t 4) (.t 17)),aO 5 (.mv (.t 18))]) .ret)),[.cellN 4 11,.tmp 5]⟩
def A9s:A9:=B0 51 A4z (B0 50 A4j C0)
def A6y (n:Nat) (args:List Val) (h:A0):A6:=ax A9s n A_table_Get.code A_table_Get.fin (params 0 args) h
theorem C0M (n:Nat) (a0 a1:Val) (h:A0):A6y n [a0,a1] h=bnd (cells? a0) fun c1=>bnd (A2 .lss a1 (.c (.i .i64 0))) fun v2=>bnd (gd v2 false (some (a1,((h ++ [some (Row.mk (c1) true)]) ++ [some (Row.mk ([.i .i64 0,.i .i64 0,.i .i64 0,.i .i64 0,.i .i64 0,.i .i64 0,.i .i64 0,.i .i64 0,.i .i64 0,.i .i64 0,.i .i64 0]) true)]))) (some (.no,((h ++ [some (Row.mk (c1) true)]) ++ [some (Row.mk ([.i .i64 0,.i .i64 0,.i .i64 0,.i .i64 0,.i .i64 0,.i .i64 0,.i .i64 0,.i .i64 0,.i .i64 0,.i .i64 0,.i .i64 0]) true)])))) fun p3=>bnd (gd v2 false (bnd (A2 .geq p3.1 (.c (.i .i64 8))) fun v4=>some (v4,p3.2)) (some (.no,p3.2))) fun p5=>bnd (C9 v2 (.c (.b true)) p5.1) fun v6=>cnd v6 (bnd (A7 ([.i .i64 0,.i .i64 0,.i .i64 0,.i .i64 0,.i .i64 0,.i .i64 0,.i .i64 0,.i .i64 0,.i .i64 0,.i .i64 0,.i .i64 0]) []) fun c7=>bnd (A8 p5.2 11 (.c (.p (h ++ [some (Row.mk (c1) true)]).length 0)) (.a c7)) fun h8=>C7 [A3 h8 11 (.c (.p (h ++ [some (Row.mk (c1) true)]).length 0)),some (.c (.b false))] h8) (bnd (A3 p5.2 256 (.c (.p h.length 0))) fun v9=>bnd (A4z [v9,a1] p5.2) fun p10=>bnd (A4j [p10.1] p10.2) fun p11=>bnd (C3 p11.1 0) fun v12=>bnd (C3 p11.1 1) fun v13=>bnd (A8 p11.2 11 (.c (.p (h ++ [some (Row.mk (c1) true)]).length 0)) v12) fun h14=>C7 [A3 h14 11 (.c (.p (h ++ [some (Row.mk (c1) true)]).length 0)),some v13] h14):=by kernel_rfl
theorem K_table_Get:FnK Try.prog 25 A_table_Get A9s A6y:=.mk' (B1 C2Y (B1 C2c C2)) Try.func25 (by kernel_rfl) (fun _ _ _=>C1)
def A4x:Fun:=tidy (Lim A_table_Get A9s)
theorem C2U:SOk Try.prog 25 A4x:=K_table_Get.sok
theorem C2T:D5 A6y A4x:=K_table_Get.flat
end Go.Proofs.Yteckncopbicmcaa
end
noncomputable section
namespace Go.Proofs.Yteckncopbicmcaa
open Go Go.Esc
set_option maxRecDepth 100000
def A_view_Of:AFn:=⟨.seq [0,2] (.ops [aO 2 (.alloc ([.i .i64 0,.i .i64 0,.i .u64 0,.nf])),aO 3 (.mv (.v (.c (.i .i64 0))))]) (.seq [0,2] (.seq [0,2,9] (.ops [aO 7 (.mv (.t 0)),aO 8 (.len (.t 7)),aO 9 (.bin .eql (.t 8) (.v (.c (.i .i64 0))))]) (.cond (.t 9) (.seq [2,3] (.ops [aO 10 (.build ([.i .i64 0,.i .i64 0,.i .u64 0,.nf]) []),aN (.storeN 4 (.t 2) (.t 10)),aO 3 (.mv (.v (.c (.i .i64 13))))]) .ret) .skip)) (.seq [0,2,4,5] (.ops [aO 12 (.mv (.t 0)),aO 13 (.iAddrL 256 (.t 12) (.v (.c (.i .i64 0)))),aO 14 (.loadN 256 (.t 13)),aO 15 (.call 22 [(.t 14)]),aO 11 (.mv (.t 15)),aO 16 (.ext (.t 11) 0),aO 17 (.ext (.t 11) 1),aO 4 (.alloc ([.i .i64 0,.i .i64 0,.i .u64 0])),aN (.storeN 3 (.t 4) (.t 16)),aO 5 (.mv (.t 17))]) (.seq [0,2,4] (.seq [0,2,4,26] (.ops [aO 18 (.mv (.t 5)),aO 19 (.bin .neq (.t 18) (.v (.c (.i .i64 0)))),aO 20 (.mv (.t 19)),aG 21 20 false (.fAddr (.t 4) 0),aG 22 20 false (.load1 (.t 21)),aG 23 20 false (.mv (.t 0)),aG 24 20 false (.len (.t 23)),aG 25 20 false (.bin .neq (.t 22) (.t 24)),aO 26 (.pick (.t 20) (.v (.c (.b true))) (.t 25))]) (.cond (.t 26) (.seq [2,3] (.ops [aO 27 (.build ([.i .i64 0,.i .i64 0,.i .u64 0,.nf]) []),aN (.storeN 4 (.t 2) (.t 27)),aO 3 (.mv (.v (.c (.i .i64 13))))]) .ret) .skip)) (.seq [2,4,6] (.ops [aO 28 (.buildSl 256 0 ([]) []),aO 29 (.mv (.t 0)),aO 30 (.app 256 (.t 28) (.t 29)),aO 6 (.alloc ([.ns])),aN (.store1 (.t 6) (.t 30))]) (.seq [2,3] (.ops [aO 31 (.loadN 3 (.t 4)),aO 32 (.mkf 23 [(.t 6)]),aO 33 (.build ([.i .i64 0,.i .i64 0,.i .u64 0,.nf]) [(0,3,(.t 31)),(3,1,(.t 32))]),aN (.storeN 4 (.t 2) (.t 33)),aO 3 (.mv (.v (.c (.i .i64 0))))]) .ret))))),[.cellN 2 4,.tmp 3]⟩
def A9w:A9:=B0 22 A4w C0
def A9W (n:Nat) (args:List Val) (h:A0):A6:=ax A9w n A_view_Of.code A_view_Of.fin (params 0 args) h
theorem A6I (n:Nat) (a0:Val) (h:A0):A9W n [a0] h=bnd (E9 a0) fun v1=>bnd (A2 .eql v1 (.c (.i .i64 0))) fun v2=>cnd v2 (bnd (A7 ([.i .i64 0,.i .i64 0,.i .u64 0,.nf]) []) fun c3=>bnd (A8 (h ++ [some (Row.mk ([.i .i64 0,.i .i64 0,.i .u64 0,.nf]) true)]) 4 (.c (.p h.length 0)) (.a c3)) fun h4=>C7 [A3 h4 4 (.c (.p h.length 0)),some (.c (.i .i64 13))] h4) (bnd (B8 256 a0 (.c (.i .i64 0))) fun v5=>bnd (A3 (h ++ [some (Row.mk ([.i .i64 0,.i .i64 0,.i .u64 0,.nf]) true)]) 256 v5) fun v6=>bnd (A4w [v6] (h ++ [some (Row.mk ([.i .i64 0,.i .i64 0,.i .u64 0,.nf]) true)])) fun p7=>bnd (C3 p7.1 0) fun v8=>bnd (C3 p7.1 1) fun v9=>bnd (A8 (p7.2 ++ [some (Row.mk ([.i .i64 0,.i .i64 0,.i .u64 0]) true)]) 3 (.c (.p p7.2.length 0)) v8) fun h10=>bnd (A2 .neq v9 (.c (.i .i64 0))) fun v11=>bnd (gd v11 false (bnd (B3 (.c (.p p7.2.length 0)) 0) fun v12=>some (v12,h10)) (some (.no,h10))) fun p13=>bnd (gd v11 false (bnd (A4 p13.2 p13.1) fun v14=>some (v14,p13.2)) (some (.no,p13.2))) fun p15=>bnd (gd v11 false (some (a0,p15.2)) (some (.no,p15.2))) fun p16=>bnd (gd v11 false (bnd (E9 p16.1) fun v17=>some (v17,p16.2)) (some (.no,p16.2))) fun p18=>bnd (gd v11 false (bnd (A2 .neq p15.1 p18.1) fun v19=>some (v19,p18.2)) (some (.no,p18.2))) fun p20=>bnd (C9 v11 (.c (.b true)) p20.1) fun v21=>cnd v21 (bnd (A7 ([.i .i64 0,.i .i64 0,.i .u64 0,.nf]) []) fun c22=>bnd (A8 p20.2 4 (.c (.p h.length 0)) (.a c22)) fun h23=>C7 [A3 h23 4 (.c (.p h.length 0)),some (.c (.i .i64 13))] h23) (bnd (A7 ([]) []) fun c24=>bnd (F0 (p20.2 ++ [some (Row.mk (c24) true)]) 256 (.c (.sl p20.2.length 0 0 256)) a0) fun p25=>bnd (E4 (p25.2 ++ [some (Row.mk ([.ns]) true)]) (.c (.p p25.2.length 0)) p25.1) fun h26=>bnd (A3 h26 3 (.c (.p p7.2.length 0))) fun v27=>bnd (V9 23 [(.c (.p p25.2.length 0))]) fun v28=>bnd (A7 ([.i .i64 0,.i .i64 0,.i .u64 0,.nf]) [(0,3,v27),(3,1,v28)]) fun c29=>bnd (A8 h26 4 (.c (.p h.length 0)) (.a c29)) fun h30=>C7 [A3 h30 4 (.c (.p h.length 0)),some (.c (.i .i64 0))] h30)):=by kernel_rfl
theorem K_view_Of:FnK Try.prog 7 A_view_Of A9w A9W:=.mk' (B1 C2R C2) Try.func7 (by kernel_rfl) (fun _ _ _=>C1)
def A0c:Fun:=Lim A_view_Of A9w
theorem B3i:SOk Try.prog 7 A0c:=K_view_Of.ok
theorem A6P:OfT A9W A0c:=K_view_Of.of
def A_view_View_there:AFn:=⟨.seq [1,2] (.ops [aO 2 (.box (.t 0)),aO 4 (.mv (.v (.c (.b false))))]) (.seq [4] (.ops [aO 5 (.fAddr (.t 2) 3),aO 6 (.load1 (.t 5)),aO 7 (.eqN true true (.t 6)),aO 8 (.mv (.t 7)),aG 9 8 true (.mv (.t 1)),aG 10 8 true (.bin .geq (.t 9) (.v (.c (.i .i64 0)))),aO 11 (.pick (.t 8) (.t 10) (.v (.c (.b false)))),aO 12 (.mv (.t 11)),aG 13 12 true (.mv (.t 1)),aG 14 12 true (.fAddr (.t 2) 0),aG 15 12 true (.fAddr (.t 14) 0),aG 16 12 true (.load1 (.t 15)),aG 17 12 true (.bin .lss (.t 13) (.t 16)),aO 18 (.pick (.t 12) (.t 17) (.v (.c (.b false)))),aO 4 (.mv (.t 18))]) .ret),[.tmp 4]⟩
def A9z:A9:=C0
def A6K (n:Nat) (args:List Val) (h:A0):A6:=ax A9z n A_view_View_there.code A_view_View_there.fin (params 0 args) h
theorem C0X (n:Nat) (a0 a1:Val) (h:A0):A6K n [a0,a1] h=bnd (cells? a0) fun c1=>bnd (B3 (.c (.p h.length 0)) 3) fun v2=>bnd (A4 (h ++ [some (Row.mk (c1) true)]) v2) fun v3=>bnd (A0F true true v3) fun v4=>bnd (gd v4 true (some (a1,(h ++ [some (Row.mk (c1) true)]))) (some (.no,(h ++ [some (Row.mk (c1) true)])))) fun p5=>bnd (gd v4 true (bnd (A2 .geq p5.1 (.c (.i .i64 0))) fun v6=>some (v6,p5.2)) (some (.no,p5.2))) fun p7=>bnd (C9 v4 p7.1 (.c (.b false))) fun v8=>bnd (gd v8 true (some (a1,p7.2)) (some (.no,p7.2))) fun p9=>bnd (gd v8 true (bnd (B3 (.c (.p h.length 0)) 0) fun v10=>some (v10,p9.2)) (some (.no,p9.2))) fun p11=>bnd (gd v8 true (bnd (B3 p11.1 0) fun v12=>some (v12,p11.2)) (some (.no,p11.2))) fun p13=>bnd (gd v8 true (bnd (A4 p13.2 p13.1) fun v14=>some (v14,p13.2)) (some (.no,p13.2))) fun p15=>bnd (gd v8 true (bnd (A2 .lss p9.1 p15.1) fun v16=>some (v16,p15.2)) (some (.no,p15.2))) fun p17=>bnd (C9 v8 p17.1 (.c (.b false))) fun v18=>some (v18,p17.2):=by kernel_rfl
theorem K_view_View_there:FnK Try.prog 52 A_view_View_there A9z A6K:=.mk' (C2) Try.func52 (by kernel_rfl) (fun _ _ _=>C1)
def A4E:Fun:=tidy (Lim A_view_View_there A9z)
theorem C3g:SOk Try.prog 52 A4E:=K_view_View_there.sok
theorem C3f:D5 A6K A4E:=K_view_View_there.flat
def A_view_Of_1:AFn:=⟨.seq [0,1,3] (.ops [aO 3 (.alloc (List.replicate 256 (.i .u8 0)))]) (.seq [3] (.ops [aO 4 (.load1 (.t 1)),aO 5 (.mv (.t 0)),aO 6 (.iAddrL 256 (.t 4) (.t 5)),aO 7 (.loadN 256 (.t 6)),aN (.storeN 256 (.t 3) (.t 7))]) .ret),[.cellN 3 256]⟩
def A9x:A9:=C0
def A6H (n:Nat) (args:List Val) (h:A0):A6:=ax A9x n A_view_Of_1.code A_view_Of_1.fin (params 0 args) h
theorem C0V (n:Nat) (a0 a1:Val) (h:A0):A6H n [a0,a1] h=bnd (A4 (h ++ [some (Row.mk (List.replicate 256 (.i .u8 0)) true)]) a1) fun v1=>bnd (B8 256 v1 a0) fun v2=>bnd (A3 (h ++ [some (Row.mk (List.replicate 256 (.i .u8 0)) true)]) 256 v2) fun v3=>bnd (A8 (h ++ [some (Row.mk (List.replicate 256 (.i .u8 0)) true)]) 256 (.c (.p h.length 0)) v3) fun h4=>mp (A3 h4 256 (.c (.p h.length 0))) fun v=>(v,h4):=by kernel_rfl
theorem K_view_Of_1:FnK Try.prog 23 A_view_Of_1 A9x A6H:=.mk' (C2) Try.func23 (by kernel_rfl) (fun _ _ _=>C1)
def A4D:Fun:=tidy (Lim A_view_Of_1 A9x)
theorem C3d:SOk Try.prog 23 A4D:=K_view_Of_1.sok
theorem C3c:D5 A6H A4D:=K_view_Of_1.flat
def A_view_View_Block__Of_1:AFn:=⟨.seq [1,2,4] (.ops [aO 2 (.box (.t 0)),aO 4 (.alloc (List.replicate 256 (.i .u8 0)))]) (.seq [1,2,4] (.seq [1,2,4,8] (.ops [aO 5 (.loadN 4 (.t 2)),aO 6 (.mv (.t 1)),aO 7 (.call 52 [(.t 5),(.t 6)]),aO 8 (.un .not (.t 7))]) (.cond (.t 8) (.seq [4] (.ops [aO 9 (.build (List.replicate 256 (.i .u8 0)) []),aN (.storeN 256 (.t 4) (.t 9))]) .ret) .skip)) (.seq [4] (.ops [aO 10 (.fAddr (.t 2) 3),aO 11 (.load1 (.t 10)),aO 12 (.mv (.t 1)),aO 13 (.callV (.t 11) [(.t 12)]),aN (.storeN 256 (.t 4) (.t 13))]) .ret)),[.cellN 4 256]⟩
def A3N:A9:=B0 52 A4E (B0 23 A4D C0)
def A6J (n:Nat) (args:List Val) (h:A0):A6:=ax A3N n A_view_View_Block__Of_1.code A_view_View_Block__Of_1.fin (params 0 args) h
theorem C0W (n:Nat) (a0 a1:Val) (h:A0):A6J n [a0,a1] h=bnd (cells? a0) fun c1=>bnd (A3 ((h ++ [some (Row.mk (c1) true)]) ++ [some (Row.mk (List.replicate 256 (.i .u8 0)) true)]) 4 (.c (.p h.length 0))) fun v2=>bnd (A4E [v2,a1] ((h ++ [some (Row.mk (c1) true)]) ++ [some (Row.mk (List.replicate 256 (.i .u8 0)) true)])) fun p3=>bnd (aun .not p3.1) fun v4=>cnd v4 (bnd (A7 (List.replicate 256 (.i .u8 0)) []) fun c5=>bnd (A8 p3.2 256 (.c (.p (h ++ [some (Row.mk (c1) true)]).length 0)) (.a c5)) fun h6=>mp (A3 h6 256 (.c (.p (h ++ [some (Row.mk (c1) true)]).length 0))) fun v=>(v,h6)) (bnd (B3 (.c (.p h.length 0)) 3) fun v7=>bnd (A4 p3.2 v7) fun v8=>bnd (K9 A3N v8 [a1] p3.2) fun p9=>bnd (A8 p9.2 256 (.c (.p (h ++ [some (Row.mk (c1) true)]).length 0)) p9.1) fun h10=>mp (A3 h10 256 (.c (.p (h ++ [some (Row.mk (c1) true)]).length 0))) fun v=>(v,h10)):=by kernel_rfl
theorem K_view_View_Block__Of_1:FnK Try.prog 26 A_view_View_Block__Of_1 A3N A6J:=.mk' (B1 C3g (B1 C3d C2)) Try.func26 (by kernel_rfl) (fun _ _ _=>C1)
def S1:Fun:=tidy (Lim A_view_View_Block__Of_1 A3N)
theorem A2W:SOk Try.prog 26 S1:=K_view_View_Block__Of_1.sok
theorem C3e:D5 A6J S1:=K_view_View_Block__Of_1.flat
def A_view_View_Inode:AFn:=⟨.seq [1,2,4] (.ops [aO 2 (.box (.t 0)),aO 4 (.alloc ([.i .i64 0,.i .i64 0,.i .i64 0,.i .i64 0,.i .i64 0,.i .i64 0,.i .i64 0,.i .i64 0,.i .i64 0,.i .i64 0,.i .i64 0]))]) (.seq [2,4,5,6,7] (.ops [aO 11 (.fAddr (.t 2) 0),aO 12 (.loadN 3 (.t 11)),aO 13 (.mv (.t 1)),aO 14 (.call 24 [(.t 12),(.t 13)]),aO 10 (.mv (.t 14)),aO 15 (.ext (.t 10) 0),aO 16 (.ext (.t 10) 1),aO 17 (.ext (.t 10) 2),aO 5 (.mv (.t 15)),aO 6 (.mv (.t 16)),aO 7 (.mv (.t 17))]) (.seq [2,4,5,6] (.seq [2,4,5,6,19] (.ops [aO 18 (.mv (.t 7)),aO 19 (.un .not (.t 18))]) (.cond (.t 19) (.seq [4] (.ops [aO 20 (.build ([.i .i64 0,.i .i64 0,.i .i64 0,.i .i64 0,.i .i64 0,.i .i64 0,.i .i64 0,.i .i64 0,.i .i64 0,.i .i64 0,.i .i64 0]) []),aN (.storeN 11 (.t 4) (.t 20))]) .ret) .skip)) (.seq [4,8] (.ops [aO 22 (.loadN 4 (.t 2)),aO 23 (.mv (.t 5)),aO 24 (.call 26 [(.t 22),(.t 23)]),aO 25 (.mv (.t 6)),aO 26 (.call 25 [(.t 24),(.t 25)]),aO 21 (.mv (.t 26)),aO 27 (.ext (.t 21) 0),aO 28 (.ext (.t 21) 1),aO 8 (.alloc ([.i .i64 0,.i .i64 0,.i .i64 0,.i .i64 0,.i .i64 0,.i .i64 0,.i .i64 0,.i .i64 0,.i .i64 0,.i .i64 0,.i .i64 0])),aN (.storeN 11 (.t 8) (.t 27)),aO 9 (.mv (.t 28))]) (.seq [4] (.ops [aO 29 (.loadN 11 (.t 8)),aN (.storeN 11 (.t 4) (.t 29))]) .ret)))),[.cellN 4 11]⟩
def A9y:A9:=B0 24 A4c (B0 26 S1 (B0 25 A4x C0))
def A3Q (n:Nat) (args:List Val) (h:A0):A6:=ax A9y n A_view_View_Inode.code A_view_View_Inode.fin (params 0 args) h
theorem B2S (n:Nat) (a0 a1:Val) (h:A0):A3Q n [a0,a1] h=bnd (cells? a0) fun c1=>bnd (B3 (.c (.p h.length 0)) 0) fun v2=>bnd (A3 ((h ++ [some (Row.mk (c1) true)]) ++ [some (Row.mk ([.i .i64 0,.i .i64 0,.i .i64 0,.i .i64 0,.i .i64 0,.i .i64 0,.i .i64 0,.i .i64 0,.i .i64 0,.i .i64 0,.i .i64 0]) true)]) 3 v2) fun v3=>bnd (A4c [v3,a1] ((h ++ [some (Row.mk (c1) true)]) ++ [some (Row.mk ([.i .i64 0,.i .i64 0,.i .i64 0,.i .i64 0,.i .i64 0,.i .i64 0,.i .i64 0,.i .i64 0,.i .i64 0,.i .i64 0,.i .i64 0]) true)])) fun p4=>bnd (C3 p4.1 0) fun v5=>bnd (C3 p4.1 1) fun v6=>bnd (C3 p4.1 2) fun v7=>bnd (aun .not v7) fun v8=>cnd v8 (bnd (A7 ([.i .i64 0,.i .i64 0,.i .i64 0,.i .i64 0,.i .i64 0,.i .i64 0,.i .i64 0,.i .i64 0,.i .i64 0,.i .i64 0,.i .i64 0]) []) fun c9=>bnd (A8 p4.2 11 (.c (.p (h ++ [some (Row.mk (c1) true)]).length 0)) (.a c9)) fun h10=>mp (A3 h10 11 (.c (.p (h ++ [some (Row.mk (c1) true)]).length 0))) fun v=>(v,h10)) (bnd (A3 p4.2 4 (.c (.p h.length 0))) fun v11=>bnd (S1 [v11,v5] p4.2) fun p12=>bnd (A4x [p12.1,v6] p12.2) fun p13=>bnd (C3 p13.1 0) fun v14=>bnd (C3 p13.1 1) fun v15=>bnd (A8 (p13.2 ++ [some (Row.mk ([.i .i64 0,.i .i64 0,.i .i64 0,.i .i64 0,.i .i64 0,.i .i64 0,.i .i64 0,.i .i64 0,.i .i64 0,.i .i64 0,.i .i64 0]) true)]) 11 (.c (.p p13.2.length 0)) v14) fun h16=>bnd (A3 h16 11 (.c (.p p13.2.length 0))) fun v17=>bnd (A8 h16 11 (.c (.p (h ++ [some (Row.mk (c1) true)]).length 0)) v17) fun h18=>mp (A3 h18 11 (.c (.p (h ++ [some (Row.mk (c1) true)]).length 0))) fun v=>(v,h18)):=by kernel_rfl
theorem K_view_View_Inode:FnK Try.prog 9 A_view_View_Inode A9y A3Q:=.mk' (B1 C1U (B1 A2W (B1 C2U C2))) Try.func9 (by kernel_rfl) (fun _ _ _=>C1)
def X8:Fun:=tidy (Lim A_view_View_Inode A9y)
theorem A94:SOk Try.prog 9 X8:=K_view_View_Inode.sok
theorem B3j:D5 A3Q X8:=K_view_View_Inode.flat
end Go.Proofs.Yteckncopbicmcaa
end
section
namespace Go.Proofs.Yteckncopbicmcaa
open Go Go.Esc
def IsView (h:A0) (f:Cell) (D:Dev):Prop:=∃ r q rw rw',f=.f 23 [(r,0)] ∧ rd h r=some ⟨[.sl q 0 D.length 256],rw⟩ ∧ rd h q=some ⟨D0 D,rw'⟩
theorem IsView.ro {h:A0} {f:Cell} {D:Dev} (hv:IsView h f D):IsView (ro h) f D:=by
  obtain ⟨r,q,rw,rw',e,h1,h2⟩:=hv
  exact ⟨r,q,false,false,e,A8l h1 rfl,A8l h2 (A5c D)⟩
theorem IsView.more {h:A0} {f:Cell} {D:Dev} (hv:IsView h f D) (l:A0):IsView (h ++ l) f D:=by
  obtain ⟨r,q,rw,rw',e,h1,h2⟩:=hv
  exact ⟨r,q,rw,rw',e,B6 h1,B6 h2⟩
theorem IsView.since {g h:A0} {f:Cell} {D:Dev} (hv:IsView g f D) (h1:Low g.length g h):IsView h f D:=by
  obtain ⟨r,q,rw,rw',e,h2,h3⟩:=hv
  exact ⟨r,q,rw,rw',e,h1.rd h2,h1.rd h3⟩
theorem IsView.get {h:A0} {f:Cell} {D:Dev} (hv:IsView h f D):∃ id cs,f=.f id cs:=by
  obtain ⟨r,q,rw,rw',e,_⟩:=hv
  exact ⟨_,_,e⟩
def vwC (b n m:Int) (f:Cell):List Cell:=[.i .i64 b,.i .i64 n,.i .u64 m,f]
section
variable {D:Dev} {n m:Int} {f:Cell}
theorem A3p {b:Int}:ldN (some (Row.mk (vwC b n m f) true)) 0 3=some (.a (F5 b n m)):=rfl
theorem A2K {b:Int}:ldN (some (Row.mk (vwC b n m f) true)) 0 4=some (.a (vwC b n m f)):=rfl
end
theorem D0h {h:A0} {r q:Nat} {rw rw':Bool} {D:Dev} {no:Nat} (hD:okD D) (hno:no < D.length) (h1:rd h r=some ⟨[.sl q 0 D.length 256],rw⟩) (h2:rd h q=some ⟨D0 D,rw'⟩) :
    A4D [.c (.i .i64 (no:Int)),.c (.p r 0)] h=some (.a (A1 D[no]),h):=by
  have key:∀ g rw rw',rd g r=some ⟨[.sl q 0 D.length 256],rw⟩ → rd g q=some ⟨D0 D,rw'⟩ → ∃ g',A6H 0 [.c (.i .i64 (no:Int)),.c (.p r 0)] g=some (.a (A1 D[no]),g'):=by
    intro g rw rw' h1 h2
    have hz:(List.replicate 256 (Cell.i .u8 0)).length=256:=List.length_replicate
    have hB:(A1 D[no]).length=256:=by rw [B5,hD.at hno]
    have l1:A4 (g ++ [some (Row.mk (List.replicate 256 (.i .u8 0)) true)]) (.c (.p r 0))=some (.c (.sl q 0 D.length 256)):=F7 (cs:=[.sl q 0 D.length 256]) (B6 h1) rfl (by cases rw <;> rfl)
    have a1:B8 256 (.c (.sl q 0 D.length 256)) (.c (.i .i64 (no:Int)))=some (.c (.p q (0 + no * 256))):=I1 hno
    have l2:A3 (g ++ [some (Row.mk (List.replicate 256 (.i .u8 0)) true)]) 256 (.c (.p q (0 + no * 256)))=some (.a (A1 D[no])):=by
      rw [A3b (cs:=D0 D) (rw:=rw') (B6 h2) (by rw [W3 hD];omega) (by
        rw [Nat.zero_add,A2j hD hno,P7];simp),Nat.zero_add,A2j hD hno]
    rw [Nat.zero_add] at a1 l2
    rw [C0V]
    generalize List.replicate 256 (Cell.i .u8 0)=z at *
    generalize A1 D[no]=y at *
    exact ⟨_,by simp only [esc,esh,Nat.reduceAdd,Nat.reduceMul,Nat.reduceLT,l1,a1,l2,hz,hB] <;> rfl⟩
  obtain ⟨g',e⟩:=key (ro h) false false (A8l h1 rfl) (A8l h2 (A5c D))
  exact C3c e (by simp [Val.flat])
theorem D0l {b n m no:Int} {f:Nat} {cs:List (Nat × Nat)} {h:A0}:A4E [.a (vwC b n m (.f f cs)),.c (.i .i64 no)] h=some (.c (.b (decide (0 ≤ no) && decide (no < b))),h):=by
  have key:∀ g,∃ g',A6K 0 [.a (vwC b n m (.f f cs)),.c (.i .i64 no)] g=some (.c (.b (decide (0 ≤ no) && decide (no < b))),g'):=by
    intro g
    rw [C0X]
    unfold vwC
    by_cases c1:0 ≤ no
    · exact ⟨_,by simp only [esc,esh,Nat.reduceAdd,Nat.reduceMul,Nat.reduceLT,c1] <;> rfl⟩
    · exact ⟨_,by simp only [esc,esh,Nat.reduceAdd,Nat.reduceMul,Nat.reduceLT,c1,Bool.false_and] <;> rfl⟩
  obtain ⟨g',e⟩:=key (ro h)
  exact C3f e rfl
theorem A3o {n m no:Int} {f:Cell} {D:Dev} {h:A0} (hD:okD D) (hv:IsView h f D):S1 [.a (vwC D.length n m f),.c (.i .i64 no)] h=some (.a (A1 (blk D no)),h):=by
  have key:∀ g,IsView g f D → ∃ g',A6J 0 [.a (vwC D.length n m f),.c (.i .i64 no)] g=some (.a (A1 (blk D no)),g'):=by
    intro g hv
    have hz:(A1 (zeros 256)).length=256:=by rw [B5];exact zeros_length
    have hB:(A1 (blk D no)).length=256:=by rw [B5,A0L hD]
    obtain ⟨r,q,rw',rw'',rfl,h1,h2⟩:=hv
    have hT:=fun h=>D0l (b:=D.length) (n:=n) (m:=m) (no:=no) (f:=23) (cs:=[(r,0)]) (h:=h)
    have hcv:∀ (x:Val) (h:A0),K9 A3N (.c (.f 23 [(r,0)])) [x] h=A4D [x,.c (.p r 0)] h:=fun _ _=>Eq.trans rfl rfl
    rw [C0W,L7]
    by_cases c1:0 ≤ no ∧ no < D.length
    · have c2:=c1.1
      have c3:=c1.2
      obtain ⟨k,rfl⟩:∃ k:Nat,no=k:=⟨no.toNat,by omega⟩
      have e1:=C33 (D:=D) (i:=k) (by omega)
      have hO:=D0h (h:=g ++ [some (Row.mk (vwC D.length n m (.f 23 [(r,0)])) true),some (Row.mk (A1 (zeros 256)) true)]) hD (show k < D.length by omega) (B6 h1) (B6 h2)
      rw [← e1] at hO
      simp only [c2,c3,decide_true,Bool.and_self] at hT
      generalize A1 (zeros 256)=z at *
      generalize A1 (blk D k)=y at *
      unfold vwC at *
      exact ⟨_,by simp only [esc,esh,Nat.reduceAdd,Nat.reduceMul,Nat.reduceLT,hT,hcv,hO,hz,hB] <;> rfl⟩
    · have e1:=C34 (D:=D) (i:=no) (by omega)
      have ht:(decide (0 ≤ no) && decide (no < (D.length:Int)))=false:=by
        rw [Bool.and_eq_false_iff,decide_eq_false_iff_not,decide_eq_false_iff_not];omega
      simp only [ht] at hT
      rw [e1] at hB ⊢
      have ef:A7 (A1 (zeros 256)) []=some (A1 (zeros 256)):=rfl
      generalize A1 (zeros 256)=z at *
      unfold vwC at *
      exact ⟨_,by simp only [esc,esh,Nat.reduceAdd,Nat.reduceMul,Nat.reduceLT,hT,ef,hz] <;> rfl⟩
  obtain ⟨g',e⟩:=key (ro h) hv.ro
  exact C3e e (by simp [Val.flat])
theorem B0i {h:A0} {id m sz:Nat} {ys:List Cell} {y:Val} (hr:rd h id=some ⟨[],true⟩) (hy:Has h y sz m ys) (hsz:0 < sz) (hn:m ≤ 1073741824) :
    F0 h sz (.c (.sl id 0 0 sz)) y=some (.c (.sl h.length 0 m sz),h.set id none ++ [some ⟨ys,true⟩]):=by
  have h1:=hy.add
  have h2:ys.length / sz=m:=by rw [hy.length];exact Nat.mul_div_cancel m hsz
  simp only [F0,h1,hr,Option.bind_some,h2,List.nil_append,Nat.zero_add]
  rw [if_pos ⟨trivial,trivial,by simp,trivial,hn⟩]
def A1b (D:Dev):Bool:=okS (D.headD []) && decide (fieldN (D.headD []) 8 2=D.length)
def A0k (D:Dev):Int:=fieldN (D.headD []) 10 2
def A0O (D:Dev):Int:=fieldN (D.headD []) 12 8
theorem D0j {v:Val} {h:A0} (hv:Has h v 256 0 []):∃ t,A0c [v] h=some (.t [.a (vwC 0 0 0 .nf),.c (.i .i64 13)],h ++ t):=by
  have ef:A7 [Cell.i .i64 0,.i .i64 0,.i .u64 0,.nf] []=some [Cell.i .i64 0,.i .i64 0,.i .u64 0,.nf]:=rfl
  have hl:=hv.len
  rw [show ((0:Nat):Int)=0 from rfl] at hl
  exact ⟨_,A6P (n:=0) (by rw [A6I];simp only [esc,esh,Nat.reduceAdd,Nat.reduceMul,Nat.reduceLT,hl,ef,vwC] <;> rfl)⟩
theorem C6w {b:List UInt8} (h:okS b=false):A1k b=F5 0 0 0:=by unfold A1k;rw [h];rfl
theorem B6q {b:List UInt8} (h:okS b=true):A1k b=F5 (fieldN b 8 2) (fieldN b 10 2) (fieldN b 12 8):=by unfold A1k;rw [h];rfl
theorem D0k {v:Val} {D:Dev} {h:A0} (hv:Has h v 256 D.length (D0 D)) (hD:okD D) (h0:0 < D.length) (hn:A1b D=false):∃ t,A0c [v] h=some (.t [.a (vwC 0 0 0 .nf),.c (.i .i64 13)],h ++ t):=by
  have ef:A7 [Cell.i .i64 0,.i .i64 0,.i .u64 0,.nf] []=some [Cell.i .i64 0,.i .i64 0,.i .u64 0,.nf]:=rfl
  have hl:=hv.len
  have hv2:=hv.more [some (Row.mk [.i .i64 0,.i .i64 0,.i .u64 0,.nf] true)]
  obtain ⟨b,E,rfl⟩:∃ b E,D=b :: E:=by cases D with | nil=>simp at h0 | cons b E=>exact ⟨b,E,rfl⟩
  obtain ⟨id,off,rfl,hid,_,hB⟩:=hv2.sl h0
  have hBl:(A1 b).length=256:=by rw [B5,hD.cons.1]
  have l2:=hB 0 256 (by rw [W3 hD];omega)
  have ec:((D0 (b :: E)).drop 0).take 256=A1 b:=by
    have:=A2j (i:=0) hD h0
    rwa [Nat.zero_mul] at this
  rw [ec,Nat.add_zero] at l2
  have a1:B8 256 (.c (.sl id off (b :: E).length 256)) (.c (.i .i64 0))=some (.c (.p id off)):=by
    have:=I1 (k:=.i64) (id:=id) (off:=off) (sz:=256) (j:=0) (len:=(b :: E).length) h0
    rwa [Nat.zero_mul,Nat.add_zero] at this
  have hG:=fun h=>B8C (h:=h) hD.cons.1
  have c0:¬ (((b :: E).length:Nat):Int)=0:=by omega
  have n13:¬ (13:Int)=0:=by decide
  unfold A1b at hn
  simp only [List.headD_cons] at hn
  cases ho:okS b with
  | false =>
    simp only [ho,C6w ho,cond_false] at hG
    refine ⟨[some (Row.mk [.i .i64 0,.i .i64 0,.i .u64 0,.nf] true),some (Row.mk [.i .i64 0,.i .i64 0,.i .u64 0] true)],A6P (n:=0) ?_⟩
    rw [A6I]
    generalize (b :: E).length=N at *
    generalize A1 b=y at *
    unfold F5 at *
    simp only [esc,esh,Nat.reduceAdd,Nat.reduceMul,Nat.reduceLT,ef,vwC,l2,a1,hG,n13,eq_self,c0] <;> rfl
  | true =>
    rw [ho,Bool.true_and] at hn
    replace hn:=of_decide_eq_false hn
    simp only [ho,B6q ho,cond_true] at hG
    refine ⟨[some (Row.mk [.i .i64 0,.i .i64 0,.i .u64 0,.nf] true),some (Row.mk [.i .i64 (fieldN b 8 2),.i .i64 (fieldN b 10 2),.i .u64 (fieldN b 12 8)] true)],A6P (n:=0) ?_⟩
    rw [A6I]
    generalize (b :: E).length=N at *
    generalize A1 b=y at *
    generalize fieldN b 8 2=n1 at *
    unfold F5 at *
    simp only [esc,esh,Nat.reduceAdd,Nat.reduceMul,Nat.reduceLT,ef,vwC,l2,a1,hG,n13,eq_self,c0,hn] <;> rfl
theorem D0i {v:Val} {D:Dev} {h:A0} (hv:Has h v 256 D.length (D0 D)) (hD:okD D) (hn:A1b D=false):∃ t,A0c [v] h=some (.t [.a (vwC 0 0 0 .nf),.c (.i .i64 13)],h ++ t):=by
  by_cases h0:D=[]
  · subst h0;exact D0j hv
  · exact D0k hv hD (List.length_pos_iff.2 h0) hn
theorem B9q {v:Val} {D:Dev} {h:A0} (hv:Has h v 256 D.length (D0 D)) (hD:okD D) (hn:A1b D=true) (h60:D.length ≤ 1073741824) :
    ∃ f t,A0c [v] h=some (.t [.a (vwC D.length (A0k D) (A0O D) f),.c (.i .i64 0)],h ++ t) ∧ IsView (h ++ t) f D:=by
  obtain ⟨b,E,rfl⟩:∃ b E,D=b :: E:=by
    cases D with
    | nil=>simp only [A1b,List.headD_nil,List.length_nil,Bool.and_eq_true,decide_eq_true_eq] at hn;exact absurd hn.1 (by decide)
    | cons b E=>exact ⟨b,E,rfl⟩
  have h0:0 < (b :: E).length:=by simp
  have hv2:=hv.more [some (Row.mk [.i .i64 0,.i .i64 0,.i .u64 0,.nf] true)]
  unfold A1b at hn
  simp only [List.headD_cons,Bool.and_eq_true,decide_eq_true_eq] at hn
  have ho:=hn.1
  have hn2:=of_decide_eq_true hn.2
  have hv3:=hv.more [some (Row.mk [.i .i64 0,.i .i64 0,.i .u64 0,.nf] true),some (Row.mk (F5 (b :: E).length (fieldN b 10 2) (fieldN b 12 8)) true),some (Row.mk [] true)]
  obtain ⟨id,off,rfl,hid,_,hB⟩:=hv2.sl h0
  have hBl:(A1 b).length=256:=by rw [B5,hD.cons.1]
  have l2:=hB 0 256 (by rw [W3 hD];omega)
  have ec:((D0 (b :: E)).drop 0).take 256=A1 b:=by
    have:=A2j (i:=0) hD h0
    rwa [Nat.zero_mul] at this
  rw [ec,Nat.add_zero] at l2
  have a1:B8 256 (.c (.sl id off (b :: E).length 256)) (.c (.i .i64 0))=some (.c (.p id off)):=by
    have:=I1 (k:=.i64) (id:=id) (off:=off) (sz:=256) (j:=0) (len:=(b :: E).length) h0
    rwa [Nat.zero_mul,Nat.add_zero] at this
  have hG:=fun h=>B8C (h:=h) hD.cons.1
  have c0:¬ (((b :: E).length:Nat):Int)=0:=by omega
  have n13:¬ (13:Int)=0:=by decide
  simp only [ho,B6q ho,cond_true,hn2] at hG
  have eN:A0k (b :: E)=fieldN b 10 2:=rfl
  have eM:A0O (b :: E)=fieldN b 12 8:=rfl
  have hA:=B0i (id:=h.length + 2) (by simp) hv3 (by omega) h60
  have ef1:A7 ([]:List Cell) []=some []:=rfl
  have hlt:id < h.length:=by
    rcases hv with ⟨e,_⟩ | ⟨i,o,r,e,hr,_⟩
    · cases e
    · cases e;exact B7 hr
  rw [eN,eM]
  unfold IsView
  generalize D0 (b :: E)=C at *
  have emk:V9 23 [.c (.p (h.length + 4) 0)]=some (.c (.f 23 [(h.length + 4,0)])):=rfl
  refine ⟨.f 23 [(h.length + 4,0)],[some (Row.mk (vwC (b :: E).length (fieldN b 10 2) (fieldN b 12 8) (.f 23 [(h.length + 4,0)])) true),some (Row.mk (F5 (b :: E).length (fieldN b 10 2) (fieldN b 12 8)) true),none,some (Row.mk C true),some (Row.mk [.sl (h.length + 3) 0 (b :: E).length 256] true)],A6P (n:=0) ?_,h.length + 4,h.length + 3,true,true,rfl,A2B,A2B⟩
  rw [A6I]
  generalize (b :: E).length=N at *
  generalize A1 b=y at *
  generalize fieldN b 10 2=n1 at *
  generalize fieldN b 12 8=n2 at *
  have ef2:∀ x,A7 [Cell.i .i64 0,.i .i64 0,.i .u64 0,.nf] [(0,3,.a [.i .i64 (N:Int),.i .i64 n1,.i .u64 n2]),(3,1,.c x)]=some [.i .i64 (N:Int),.i .i64 n1,.i .u64 n2,x]:=fun _=>rfl
  unfold F5 vwC at *
  simp only [esc,esh,Nat.reduceAdd,Nat.reduceMul,Nat.reduceLT] at hA
  simp only [esc,esh,Nat.reduceAdd,Nat.reduceMul,Nat.reduceLT,l2,a1,hG,n13,eq_self,c0,hA,ef1,ef2,emk] <;> rfl
end Go.Proofs.Yteckncopbicmcaa
end
noncomputable section
namespace Go.Proofs.Yteckncopbicmcaa
open Go Go.Esc
set_option maxRecDepth 100000
def A_points_there:AFn:=⟨.seq [0] (.ops [aO 2 (.mv (.v (.c (.b false))))]) (.seq [2] (.ops [aO 3 (.mv (.t 0)),aO 4 (.bin .geq (.t 3) (.v (.c (.i .i64 0)))),aO 5 (.mv (.t 4)),aG 6 5 true (.mv (.t 0)),aG 7 5 true (.bin .lss (.t 6) (.v (.c (.i .i64 128)))),aO 8 (.pick (.t 5) (.t 7) (.v (.c (.b false)))),aO 2 (.mv (.t 8))]) .ret),[.tmp 2]⟩
def A9p:A9:=C0
def A6u (n:Nat) (args:List Val) (h:A0):A6:=ax A9p n A_points_there.code A_points_there.fin (params 0 args) h
theorem C0I (n:Nat) (a0:Val) (h:A0):A6u n [a0] h=bnd (A2 .geq a0 (.c (.i .i64 0))) fun v1=>bnd (gd v1 true (some (a0,h)) (some (.no,h))) fun p2=>bnd (gd v1 true (bnd (A2 .lss p2.1 (.c (.i .i64 128))) fun v3=>some (v3,p2.2)) (some (.no,p2.2))) fun p4=>bnd (C9 v1 p4.1 (.c (.b false))) fun v5=>some (v5,p4.2):=by kernel_rfl
theorem K_points_there:FnK Try.prog 100 A_points_there A9p A6u:=.mk' (C2) Try.func100 (by kernel_rfl) (fun _ _ _=>C1)
def A4v:Fun:=tidy (Lim A_points_there A9p)
theorem C2O:SOk Try.prog 100 A4v:=K_points_there.sok
theorem C2N:D5 A6u A4v:=K_points_there.flat
def A_points_Get:AFn:=⟨.seq [1,2] (.ops [aO 2 (.box (.t 0)),aO 4 (.mv (.v (.c (.i .i64 0))))]) (.seq [1,2] (.seq [1,2,7] (.ops [aO 5 (.mv (.t 1)),aO 6 (.call 100 [(.t 5)]),aO 7 (.un .not (.t 6))]) (.cond (.t 7) (.seq [4] (.ops [aO 4 (.mv (.v (.c (.i .i64 0))))]) .ret) .skip)) (.seq [4] (.ops [aO 8 (.loadN 256 (.t 2)),aO 9 (.mv (.t 1)),aO 10 (.bin .mul (.v (.c (.i .i64 2))) (.t 9)),aO 11 (.call 47 [(.t 8),(.t 10),(.v (.c (.i .i64 2)))]),aO 4 (.mv (.t 11))]) .ret)),[.tmp 4]⟩
def A9o:A9:=B0 100 A4v (B0 47 L8 C0)
def A6t (n:Nat) (args:List Val) (h:A0):A6:=ax A9o n A_points_Get.code A_points_Get.fin (params 0 args) h
theorem C0H (n:Nat) (a0 a1:Val) (h:A0):A6t n [a0,a1] h=bnd (cells? a0) fun c1=>bnd (A4v [a1] (h ++ [some (Row.mk (c1) true)])) fun p2=>bnd (aun .not p2.1) fun v3=>cnd v3 (some ((.c (.i .i64 0)),p2.2)) (bnd (A3 p2.2 256 (.c (.p h.length 0))) fun v4=>bnd (A2 .mul (.c (.i .i64 2)) a1) fun v5=>bnd (L8 [v4,v5,.c (.i .i64 2)] p2.2) fun p6=>some (p6.1,p6.2)):=by kernel_rfl
theorem K_points_Get:FnK Try.prog 99 A_points_Get A9o A6t:=.mk' (B1 C2O (B1 A4p C2)) Try.func99 (by kernel_rfl) (fun _ _ _=>C1)
def A4u:Fun:=tidy (Lim A_points_Get A9o)
theorem C2M:SOk Try.prog 99 A4u:=K_points_Get.sok
theorem C2L:D5 A6t A4u:=K_points_Get.flat
end Go.Proofs.Yteckncopbicmcaa
end
section
namespace Go.Proofs.Yteckncopbicmcaa
open Go Go.Esc
def ptP (b:List UInt8) (i:Nat):Int:=fieldN b (2 * i) 2
theorem C7M {k:Nat} {h:A0} (hk:k < 128):A4v [.c (.i .i64 k)] h=some (.c (.b true),h):=by
  have key:∀ g,∃ g',A6u 0 [.c (.i .i64 k)] g=some (.c (.b true),g'):=by
    intro g
    have c1:(0:Int) ≤ k:=by omega
    have c2:(k:Int) < 128:=by omega
    rw [C0I]
    exact ⟨_,by simp only [esc,c1,c2] <;> rfl⟩
  obtain ⟨g',e⟩:=key (ro h)
  exact C2N e rfl
theorem C3X {b:List UInt8} {i:Nat} (hb:b.length=256) (hi:i < 128):((atN b ((2 * i:Nat):Int) 2:Nat):Int)=ptP b i:=by
  unfold atN ptP fieldN
  rw [if_pos ⟨by omega,Z7.2 (by omega)⟩]
  simp only [Int.toNat_natCast]
  rfl
theorem D0n {i:Nat} (hi:i < 128):IntKind.wrap .i64 (2 * (i:Int))=((2 * i:Nat):Int):=by rw [wrap_i64 (by omega) (by omega)];omega
theorem C7L {b:List UInt8} {k:Nat} {h:A0} (hb:b.length=256) (hk:k < 128):A4u [.a (A1 b),.c (.i .i64 k)] h=some (.c (.i .i64 (ptP b k)),h):=by
  have key:∀ g,∃ g',A6t 0 [.a (A1 b),.c (.i .i64 k)] g=some (.c (.i .i64 (ptP b k)),g'):=by
    intro g
    have hB:(A1 b).length=256:=by rw [B5,hb]
    have hT:=fun h=>C7M (h:=h) hk
    have hA:=fun h=>A0S (h:=h) hb (a:=((2 * k:Nat):Int)) (w:=2)
    rw [C3X hb hk] at hA
    rw [C0H]
    exact ⟨_,by simp only [esc,esh,Nat.reduceAdd,Nat.reduceMul,Nat.reduceLT,hB,hT,D0n hk,hA] <;> rfl⟩
  obtain ⟨g',e⟩:=key (ro h)
  exact C2L e rfl
end Go.Proofs.Yteckncopbicmcaa
end
section
namespace Go.Proofs.Yteckncopbicmcaa
open Go Go.Esc
def zI (n:Nat):List Int:=List.replicate n 0
theorem O4 {n:Nat}:(zI n).length=n:=by simp [zI]
end Go.Proofs.Yteckncopbicmcaa
end
section
namespace Go.Proofs.Yteckncopbicmcaa
open Go Go.Esc
abbrev A5 (k l s p:Int) (d:List Int):List Cell:=.i .i64 k :: .i .i64 l :: .i .i64 s :: .i .i64 p :: encI d
def Z4 (n:Int):Bool:=decide (0 ≤ n) && decide (n ≤ 65535)
theorem A1i {n:Int} {h:A0}:A1T [.c (.i .i64 n)] h=some (.c (.b (Z4 n)),h):=by
  refine C2h (n:=0) (h2:=ro h) ?_ rfl
  rw [C0n]
  unfold Z4
  by_cases c:0 ≤ n
  · simp only [esc,c,Bool.true_and]
  · simp only [esc,c,Bool.false_and]
theorem B7y {g:A0} {k l s p:Int} {d:List Int} {z:List Cell} {q:Nat} (hd:d.length=7) (hz:z.length=7):∀ e i m:Nat,i + e=6 → e < m →
    A7H q m (.c (.p g.length 0)) (.c (.p (g.length + 1) 0)) (.c (.p (g.length + 2) 0)) (.a (encI (d.take 6))) (.c (.i .i64 i)) (g ++ [some ⟨A5 k l s p d,true⟩,some ⟨z,true⟩,some ⟨encI (d.take i ++ zI (7 - i)),true⟩]) =
      some (.a (encI d),g ++ [some ⟨A5 k l s p d,true⟩,some ⟨encI d,true⟩,some ⟨encI d,true⟩])
  | e,i,0,_,hm=>by omega
  | 0,i,m + 1,hi,hm=>by
    have e0:i=6:=by omega
    subst e0
    have h1':¬ ((6:Nat):Int) < 6:=by omega
    have l1:(A5 k l s p d)[10]? = some (.i .i64 d[6]):=by
      have:(encI d)[6]? = some (.i .i64 d[6]):=by rw [T4,List.getElem?_eq_getElem (by omega)];rfl
      exact this
    have a1:D6 7 1 (.c (.p (g.length + 2) 0)) (.c (.i .i64 6))=some (.c (.p (g.length + 2) 6)):=rfl
    have ho:6 < (encI (d.take 6 ++ zI (7 - 6))).length:=by rw [G5,List.length_append,O4,List.length_take];omega
    have es:(encI (d.take 6 ++ zI (7 - 6))).set 6 (.i .i64 d[6])=encI d:=by
      rw [A7l]
      congr 1
      have h6:(d.take 6).length=6:=by simp;omega
      rw [List.set_append_right _ _ (by omega),h6]
      have:d=d.take 6 ++ [d[6]]:=by
        rw [← List.take_succ_eq_append_getElem (by omega),List.take_of_length_le (by omega)]
      conv=>rhs;rw [this]
      rfl
    have hl:(encI d).length=7:=by rw [G5,hd]
    rw [B6c]
    simp only [esc,esh,Nat.reduceAdd,Nat.reduceMul,Nat.reduceLT,h1',l1,a1,ho,es,hl,hz]
  | e + 1,i,m + 1,hi,hm=>by
    have ih:=B7y (g:=g) (k:=k) (l:=l) (s:=s) (p:=p) (q:=q) hd hz e (i + 1) m (by omega) (by omega)
    have h1':(i:Int) < 6:=by omega
    have hx:V0 6 (.a (encI (d.take 6))) (.c (.i .i64 (i:Int)))=some (.c (.i .i64 d[i])):=by
      rw [A7x (by omega),T4,List.getElem?_take_of_lt (by omega),List.getElem?_eq_getElem (by omega)];rfl
    have a1:D6 7 1 (.c (.p (g.length + 2) 0)) (.c (.i .i64 (i:Int)))=some (.c (.p (g.length + 2) i)):=by rw [S6 (by omega)];simp
    have ho:i < (encI (d.take i ++ zI (7 - i))).length:=by rw [G5,List.length_append,O4,List.length_take];omega
    have es:(encI (d.take i ++ zI (7 - i))).set i (.i .i64 d[i])=encI (d.take (i + 1) ++ zI (7 - (i + 1))):=by
      rw [A7l]
      refine congrArg encI ?_
      have h6:(d.take i).length=i:=by simp;omega
      rw [List.set_append_right _ _ (by omega),h6,Nat.sub_self,List.take_succ_eq_append_getElem (by omega),List.append_assoc]
      refine congrArg (d.take i ++ ·) ?_
      rw [show 7 - i=7 - (i + 1) + 1 by omega]
      unfold zI
      rw [List.replicate_succ,List.set_cons_zero];rfl
    rw [B6c]
    simp only [esc,esh,Nat.reduceAdd,Nat.reduceMul,Nat.reduceLT,h1',hx,a1,ho,es,E2 (show i + 1 < 9223372036854775808 by omega)]
    exact ih
theorem C6a {k l s p:Int} {d:List Int} (hd:d.length=7):ldN (some ⟨A5 k l s p d,true⟩) 4 6=some (.a (encI (d.take 6))):=by
  have h1:(A5 k l s p d).length=11:=by simp [G5,hd]
  simp only [ldN,Option.bind_some]
  rw [if_pos ⟨by omega,by simp⟩]
  simp only [List.drop_succ_cons,List.drop_zero]
  unfold encI
  rw [List.map_take]
theorem B1g {k l s p:Int} {d:List Int} {h:A0} (hd:d.length=7):A1R [.a (A5 k l s p d)] h=some (.a (encI d),h):=by
  have key:∀ N,7 < N → ∀ g,∃ g',A6f N [.a (A5 k l s p d)] g=some (.a (encI d),g'):=by
    intro N hN g
    have:=B7y (g:=g) (k:=k) (l:=l) (s:=s) (p:=p) (z:=encI (zI 7)) (q:=N) hd (by rw [G5,O4]) 6 0 N (by omega) (by omega)
    have e0:encI (d.take 0 ++ zI (7 - 0))=[Cell.i .i64 0,.i .i64 0,.i .i64 0,.i .i64 0,.i .i64 0,.i .i64 0,.i .i64 0]:=rfl
    have e1:encI (zI 7)=[Cell.i .i64 0,.i .i64 0,.i .i64 0,.i .i64 0,.i .i64 0,.i .i64 0,.i .i64 0]:=rfl
    rw [e0,e1] at this
    rw [C0l]
    exact ⟨_,by simp only [esc,esh,Nat.reduceAdd,Nat.reduceMul,Nat.reduceLT,C6a hd];exact this⟩
  obtain ⟨g',e⟩:=key (h.length + 8) (by omega) (ro h)
  exact C2f e (by simp)
def A8O (l s p:Int) (d:List Int):Bool:=decide (l=0 ∧ s=0 ∧ p=0 ∧ d=zI 7)
def B7X (k l s p:Int) (d:List Int):Bool:=decide (0 ≤ k ∧ k ≤ 2) && (Z4 l && (Z4 p && (decide (0 ≤ s ∧ s ≤ 34304) && d.all Z4)))
def W9 (k l s p:Int) (d:List Int):Bool:=if k=0 then A8O l s p d else B7X k l s p d
theorem B4w {h:A0} {d:List Int} {q:Nat} (hd:d.length=7):∀ e i m:Nat,i + e=7 → e < m →
    A7F q m (.a (encI d)) (.c (.i .i64 i)) h=some (.c (.i .i64 (bif (d.drop i).all Z4 then 0 else 1)),h)
  | e,i,0,_,hm=>by omega
  | 0,i,m + 1,hi,hm=>by
    have c0:¬ (i:Int) < 7:=by omega
    rw [B56,List.drop_of_length_le (by omega)]
    simp only [esc,c0,List.all_nil]
  | e + 1,i,m + 1,hi,hm=>by
    have ih:=B4w (h:=h) (q:=q) hd e (i + 1) m (by omega) (by omega)
    have c0:(i:Int) < 7:=by omega
    have hx:V0 7 (.a (encI d)) (.c (.i .i64 (i:Int)))=some (.c (.i .i64 d[i])):=by
      rw [A7x (by omega),T4,List.getElem?_eq_getElem (by omega)];rfl
    rw [B56,List.drop_eq_getElem_cons (by omega),List.all_cons]
    cases c1:Z4 d[i] with
    | true =>
      simp only [esc,c0,hx,A1i,c1,Bool.true_and,E2 (show i + 1 < 9223372036854775808 by omega)]
      exact ih
    | false=>simp only [esc,c0,hx,A1i,c1,Bool.false_and]
theorem C3B {k l s p k' l' s' p':Int} {d d':List Int} {neg:Bool} (hd:d.length=7) (hd':d'.length=7) :
    aeq neg [Sh.i .i64,.i .i64,.i .i64,.i .i64,.i .i64,.i .i64,.i .i64,.i .i64,.i .i64,.i .i64,.i .i64] (.a (A5 k l s p d)) (.a (A5 k' l' s' p' d'))=some (.c (.b (bif neg then !decide (k :: l :: s :: p :: d=k' :: l' :: s' :: p' :: d') else decide (k :: l :: s :: p :: d=k' :: l' :: s' :: p' :: d')))):=by
  have h1:=C3w (l:=k :: l :: s :: p :: d) (m:=k' :: l' :: s' :: p' :: d') (n:=11) (by simp [hd]) (by simp [hd'])
  have h2:=C3v (l:=k :: l :: s :: p :: d) (m:=k' :: l' :: s' :: p' :: d') (n:=11) (by simp [hd]) (by simp [hd'])
  cases neg
  · exact h2
  · exact h1
theorem D0s {l s p:Int} {d:List Int}:decide ((0:Int) :: l :: s :: p :: d=0 :: 0 :: 0 :: 0 :: zI 7)=A8O l s p d:=by
  unfold A8O
  simp
theorem B0a:A7 [Cell.i .i64 0,.i .i64 0,.i .i64 0,.i .i64 0,.i .i64 0,.i .i64 0,.i .i64 0,.i .i64 0,.i .i64 0,.i .i64 0,.i .i64 0] []=some (A5 0 0 0 0 (zI 7)):=rfl
theorem B55 {k l s p:Int} {d:List Int} {h:A0} (hd:d.length=7):A4i [.a (A5 k l s p d)] h=some (.c (.i .i64 (bif W9 k l s p d then 0 else 1)),h):=by
  have hlen:(A5 k l s p d).length=11:=by simp [G5,hd]
  have key:∀ N,8 < N → ∀ g,∃ g',A6c N [.a (A5 k l s p d)] g=some (.c (.i .i64 (bif W9 k l s p d then 0 else 1)),g'):=by
    intro N hN g
    have lp:=fun g=>B4w (h:=g) (q:=N) hd 7 0 N (by omega) (by omega)
    simp only [List.drop_zero,Int.cast_ofNat_Int] at lp
    rw [C0i]
    unfold W9
    by_cases k0:k=0
    · subst k0
      rw [if_pos rfl]
      have c1:¬ (0:Int) < 0:=by omega
      have c2:¬ (2:Int) < 0:=by omega
      have hq:=C3B (k:=0) (l:=l) (s:=s) (p:=p) (k':=0) (l':=0) (s':=0) (p':=0) (neg:=true) hd (O4 (n:=7))
      simp only [cond_true,D0s] at hq
      cases hz:A8O l s p d with
      | false =>
        rw [hz] at hq
        exact ⟨_,by simp only [esc,esh,Nat.reduceAdd,Nat.reduceMul,Nat.reduceLT,c1,c2,hlen,B0a,hq] <;> rfl⟩
      | true =>
        rw [hz] at hq
        have hz':=of_decide_eq_true hz
        obtain ⟨rfl,rfl,rfl,rfl⟩:=hz'
        have sm:Z4 0=true:=by decide
        have al:(zI 7).all Z4=true:=by decide
        have c3:¬ (34304:Int) < 0:=by omega
        rw [al] at lp
        exact ⟨_,by simp only [esc,esh,Nat.reduceAdd,Nat.reduceMul,Nat.reduceLT,c1,c2,c3,hlen,B0a,hq,A1i,sm,B1g hd,lp] <;> rfl⟩
    · rw [if_neg k0]
      unfold B7X
      by_cases c1:k < 0
      · rw [decide_eq_false (show ¬ (0 ≤ k ∧ k ≤ 2) by omega)]
        exact ⟨_,by simp only [esc,esh,Nat.reduceAdd,Nat.reduceMul,Nat.reduceLT,c1,Bool.false_and] <;> rfl⟩
      · by_cases c2:2 < k
        · rw [decide_eq_false (show ¬ (0 ≤ k ∧ k ≤ 2) by omega)]
          exact ⟨_,by simp only [esc,esh,Nat.reduceAdd,Nat.reduceMul,Nat.reduceLT,c1,c2,Bool.false_and] <;> rfl⟩
        · rw [decide_eq_true (show 0 ≤ k ∧ k ≤ 2 by omega),Bool.true_and]
          cases sl:Z4 l with
          | false=>exact ⟨_,by simp only [esc,esh,Nat.reduceAdd,Nat.reduceMul,Nat.reduceLT,c1,c2,k0,A1i,sl,Bool.false_and] <;> rfl⟩
          | true =>
            cases sp:Z4 p with
            | false=>exact ⟨_,by simp only [esc,esh,Nat.reduceAdd,Nat.reduceMul,Nat.reduceLT,c1,c2,k0,A1i,sl,sp,Bool.true_and,Bool.false_and] <;> rfl⟩
            | true =>
              by_cases c3:s < 0
              · rw [decide_eq_false (show ¬ (0 ≤ s ∧ s ≤ 34304) by omega)]
                exact ⟨_,by simp only [esc,esh,Nat.reduceAdd,Nat.reduceMul,Nat.reduceLT,c1,c2,k0,A1i,sl,sp,c3,Bool.true_and,Bool.false_and] <;> rfl⟩
              · by_cases c4:34304 < s
                · rw [decide_eq_false (show ¬ (0 ≤ s ∧ s ≤ 34304) by omega)]
                  exact ⟨_,by simp only [esc,esh,Nat.reduceAdd,Nat.reduceMul,Nat.reduceLT,c1,c2,k0,A1i,sl,sp,c3,c4,Bool.true_and,Bool.false_and] <;> rfl⟩
                · rw [decide_eq_true (show 0 ≤ s ∧ s ≤ 34304 by omega)]
                  exact ⟨_,by simp only [esc,esh,Nat.reduceAdd,Nat.reduceMul,Nat.reduceLT,c1,c2,k0,A1i,sl,sp,c3,c4,Bool.true_and,hlen,B1g hd,lp] <;> rfl⟩
  obtain ⟨g',e⟩:=key (h.length + 9) (by omega) (ro h)
  exact C19 e rfl
def R5 (k l s p:Int):List UInt8:=B9 1 k ++ zeros 1 ++ B9 2 l ++ B9 4 s ++ B9 2 p
def N9 (d:List Int):List UInt8:=(d.map (B9 2)).flatten
def I6 (k l s p:Int) (d:List Int):List UInt8:=R5 k l s p ++ N9 d ++ zeros 8
theorem A41 {k l s p:Int}:(R5 k l s p).length=10:=by simp [R5]
theorem A7D {d:List Int}:(N9 d).length=2 * d.length:=by
  unfold N9
  induction d with
  | nil=>rfl
  | cons x d ih=>simp only [List.map_cons,List.flatten_cons,List.length_append,A2i,List.length_cons,ih];omega
theorem A40 {k l s p:Int} {d:List Int} (hd:d.length=7):(I6 k l s p d).length=32:=by
  unfold I6;rw [List.length_append,List.length_append,A41,A7D,zeros_length,hd]
theorem C57 {d:List Int} {x:Int}:N9 (d ++ [x])=N9 d ++ B9 2 x:=by simp [N9]
theorem C58 {k l s p:Int}:K4 (K4 (K4 (K4 (zeros 256) 0 1 k) 2 2 l) 4 4 s) 8 2 p=C8 256 (R5 k l s p):=by
  rw [← C7z]
  have h1:=A0v (l:=[]) (a:=0) (w:=1) (v:=k) (by simp) (by omega) (by omega) (by omega)
  have h2:=A0v (l:=[] ++ zeros (0 - 0) ++ B9 1 k) (a:=2) (w:=2) (v:=l) (by simp) (by omega) (by omega) (by omega)
  have h3:=A0v (l:=[] ++ zeros (0 - 0) ++ B9 1 k ++ zeros 1 ++ B9 2 l) (a:=4) (w:=4) (v:=s) (by simp) (by omega) (by omega) (by omega)
  have h4:=A0v (l:=[] ++ zeros (0 - 0) ++ B9 1 k ++ zeros 1 ++ B9 2 l ++ zeros 0 ++ B9 4 s) (a:=8) (w:=2) (v:=p) (by simp) (by omega) (by omega) (by omega)
  simp only [List.length_append,List.length_nil,zeros_length,A2i,Nat.sub_self,Nat.zero_sub,Nat.reduceAdd,Nat.reduceSub] at h1 h2 h3 h4
  simp only [Int.cast_ofNat_Int] at h1 h2 h3 h4
  rw [h1,h2,h3,h4]
  congr 1
theorem B7P {g:A0} {c0:List Cell} {B:List UInt8} {z:List Cell} {q:Nat} (hB:B.length=256) (hz:z.length=32):∀ e i m:Nat,i + e=32 → e < m →
    A7J q m (.c (.p (g.length + 1) 0)) (.c (.p (g.length + 2) 0)) (.c (.p (g.length + 3) 0)) (.c (.i .i64 i)) (g ++ [some ⟨c0,true⟩,some ⟨z,true⟩,some ⟨A1 (B.take i ++ zeros (32 - i)),true⟩,some ⟨A1 B,true⟩]) =
      some (.t [.a (A1 (B.take 32)),.c (.i .i64 0)],g ++ [some ⟨c0,true⟩,some ⟨A1 (B.take 32),true⟩,some ⟨A1 (B.take 32),true⟩,some ⟨A1 B,true⟩])
  | e,i,0,_,hm=>by omega
  | 0,i,m + 1,hi,hm=>by
    have e0:i=32:=by omega
    subst e0
    have h1':¬ ((32:Nat):Int) < 32:=by omega
    have hl:(A1 (B.take 32)).length=32:=by rw [B5,List.length_take];omega
    have e1:A1 (B.take 32 ++ zeros (32 - 32))=A1 (B.take 32):=by simp [zeros]
    rw [B6j,e1]
    simp only [esc,esh,Nat.reduceAdd,Nat.reduceMul,Nat.reduceLT,h1',hl,hz]
  | e + 1,i,m + 1,hi,hm=>by
    have ih:=B7P (g:=g) (c0:=c0) (q:=q) hB hz e (i + 1) m (by omega) (by omega)
    have h1':(i:Int) < 32:=by omega
    have a1:D6 256 1 (.c (.p (g.length + 3) 0)) (.c (.i .i64 (i:Int)))=some (.c (.p (g.length + 3) i)):=by rw [S6 (by omega)];simp
    have a2:D6 32 1 (.c (.p (g.length + 2) 0)) (.c (.i .i64 (i:Int)))=some (.c (.p (g.length + 2) i)):=by rw [S6 (by omega)];simp
    have l1:(A1 B)[i]? = some (.i .u8 B[i].toNat):=by rw [A2n,List.getElem?_eq_getElem (by omega)];rfl
    have ho:i < (A1 (B.take i ++ zeros (32 - i))).length:=by rw [B5,List.length_append,zeros_length,List.length_take];omega
    have es:(A1 (B.take i ++ zeros (32 - i))).set i (.i .u8 B[i].toNat)=A1 (B.take (i + 1) ++ zeros (32 - (i + 1))):=by
      rw [A0l]
      refine congrArg A1 ?_
      have h6:(B.take i).length=i:=by simp;omega
      rw [List.set_append_right _ _ (by omega),h6,Nat.sub_self,List.take_succ_eq_append_getElem (by omega),List.append_assoc]
      refine congrArg (B.take i ++ ·) ?_
      rw [show 32 - i=32 - (i + 1) + 1 by omega]
      unfold zeros
      rw [List.replicate_succ,List.set_cons_zero];rfl
    rw [B6j]
    simp only [esc,esh,Nat.reduceAdd,Nat.reduceMul,Nat.reduceLT,h1',a1,a2,l1,ho,es,E2 (show i + 1 < 9223372036854775808 by omega)]
    exact ih
theorem B7Q {g:A0} {k l s p:Int} {d:List Int} {c0 z:List Cell} {q:Nat} (hd:d.length=7) (hz:z.length=32) (hq:33 < q):∀ e i m:Nat,i + e=7 → e < m →
    A7I q m (.c (.p (g.length + 1) 0)) (.c (.p (g.length + 2) 0)) (.c (.p (g.length + 3) 0)) (.a (encI d)) (.c (.i .i64 i)) (g ++ [some ⟨c0,true⟩,some ⟨z,true⟩,some ⟨A1 (zeros 32),true⟩,some ⟨A1 (C8 256 (R5 k l s p ++ N9 (d.take i))),true⟩]) =
      some (.t [.a (A1 (I6 k l s p d)),.c (.i .i64 0)],g ++ [some ⟨c0,true⟩,some ⟨A1 (I6 k l s p d),true⟩,some ⟨A1 (I6 k l s p d),true⟩,some ⟨A1 (C8 256 (R5 k l s p ++ N9 d)),true⟩])
  | e,i,0,_,hm=>by omega
  | 0,i,m + 1,hi,hm=>by
    have e0:i=7:=by omega
    subst e0
    have h1':¬ ((7:Nat):Int) < 7:=by omega
    rw [List.take_of_length_le (by omega)]
    have hlen:(R5 k l s p ++ N9 d).length=24:=by rw [List.length_append,A41,A7D,hd]
    have:=B7P (g:=g) (c0:=c0) (z:=z) (q:=q) (B:=C8 256 (R5 k l s p ++ N9 d)) (J1 (by omega)) hz 32 0 q (by omega) (by omega)
    have e1:(C8 256 (R5 k l s p ++ N9 d)).take 32=I6 k l s p d:=by
      unfold C8 I6
      rw [List.take_append,List.take_of_length_le (by omega),hlen]
      refine congrArg (R5 k l s p ++ N9 d ++ ·) ?_
      unfold zeros
      rw [List.take_replicate];rfl
    rw [e1] at this
    simp only [List.take_zero,List.nil_append,Nat.sub_zero] at this
    rw [B6i]
    simp only [esc,h1']
    exact this
  | e + 1,i,m + 1,hi,hm=>by
    have ih:=B7Q (g:=g) (k:=k) (l:=l) (s:=s) (p:=p) (c0:=c0) hd hz hq e (i + 1) m (by omega) (by omega)
    have h1':(i:Int) < 7:=by omega
    have hx:V0 7 (.a (encI d)) (.c (.i .i64 (i:Int)))=some (.c (.i .i64 d[i])):=by
      rw [A7x (by omega),T4,List.getElem?_eq_getElem (by omega)];rfl
    have hlen:(R5 k l s p ++ N9 (d.take i)).length=10 + 2 * i:=by rw [List.length_append,A41,A7D,List.length_take];omega
    have hL:(A1 (C8 256 (R5 k l s p ++ N9 (d.take i)))).length=256:=by rw [B5,J1 (by omega)]
    have e2:IntKind.wrap .i64 (2 * (i:Int))=((2 * i:Nat):Int):=by rw [wrap_i64 (by omega) (by omega)];omega
    have e3:IntKind.wrap .i64 (10 + ((2 * i:Nat):Int))=((10 + 2 * i:Nat):Int):=by rw [wrap_i64 (by omega) (by omega)];omega
    have hw:=A0q (l:=C8 256 (R5 k l s p ++ N9 (d.take i))) (h:=g ++ [some ⟨c0,true⟩,some ⟨z,true⟩,some ⟨A1 (zeros 32),true⟩,some ⟨A1 (C8 256 (R5 k l s p ++ N9 (d.take i))),true⟩]) (J1 (by omega)) (a:=((10 + 2 * i:Nat):Int)) (w:=2) (v:=d[i])
    have e4:=A0v (l:=R5 k l s p ++ N9 (d.take i)) (a:=10 + 2 * i) (w:=2) (v:=d[i]) (by omega) (by omega) (by omega) (by omega)
    rw [show ((2:Nat):Int)=2 from rfl,hlen,Nat.sub_self,show zeros 0=[] from rfl,List.append_nil,List.append_assoc,← C57,← List.take_succ_eq_append_getElem (by omega)] at e4
    rw [e4] at hw
    have hL':(A1 (C8 256 (R5 k l s p ++ N9 (d.take (i + 1))))).length=256:=by
      rw [B5,J1 (by rw [List.length_append,A41,A7D,List.length_take];omega)]
    rw [B6i]
    simp only [esc,esh,Nat.reduceAdd,Nat.reduceMul,Nat.reduceLT,h1',hx,hL,e2,e3,hw,hL',E2 (show i + 1 < 9223372036854775808 by omega)]
    exact ih
theorem B6h {k l s p:Int} {d:List Int} {h:A0} (hd:d.length=7) :
    A1S [.a (A5 k l s p d)] h=some (.t [.a (A1 (bif W9 k l s p d then I6 k l s p d else zeros 32)),.c (.i .i64 (bif W9 k l s p d then 0 else 1))],h):=by
  have hlen:(A5 k l s p d).length=11:=by simp [G5,hd]
  have key:∀ N,33 < N → ∀ g,∃ g',A6g N [.a (A5 k l s p d)] g=some (.t [.a (A1 (bif W9 k l s p d then I6 k l s p d else zeros 32)),.c (.i .i64 (bif W9 k l s p d then 0 else 1))],g'):=by
    intro N hN g
    have hz:(A1 (zeros 32)).length=32:=by rw [B5];exact zeros_length
    have hz2:(A1 (zeros 256)).length=256:=by rw [B5];exact zeros_length
    rw [C0m,L7,L7]
    cases c:W9 k l s p d with
    | false =>
      generalize zeros 32=z at *
      generalize zeros 256=y at *
      exact ⟨_,by simp only [esc,esh,Nat.reduceAdd,Nat.reduceMul,Nat.reduceLT,hlen,B55 hd,c,hz,Int.reduceEq] <;> rfl⟩
    | true =>
      have:=B7Q (g:=g) (k:=k) (l:=l) (s:=s) (p:=p) (c0:=A5 k l s p d) (z:=A1 (zeros 32)) (q:=N) hd hz hN 7 0 N (by omega) (by omega)
      simp only [List.take_zero,show N9 []=[] from rfl,List.append_nil] at this
      have w1:=fun h=>A0q (h:=h) (l:=zeros 256) zeros_length (a:=0) (w:=1) (v:=k)
      have w2:=fun h=>A0q (h:=h) (l:=K4 (zeros 256) 0 1 k) (X3 zeros_length) (a:=2) (w:=2) (v:=l)
      have w3:=fun h=>A0q (h:=h) (l:=K4 (K4 (zeros 256) 0 1 k) 2 2 l) (X3 (X3 zeros_length)) (a:=4) (w:=4) (v:=s)
      have w4:=fun h=>A0q (h:=h) (l:=K4 (K4 (K4 (zeros 256) 0 1 k) 2 2 l) 4 4 s) (X3 (X3 (X3 zeros_length))) (a:=8) (w:=2) (v:=p)
      have l1:(A1 (K4 (zeros 256) 0 1 k)).length=256:=by rw [B5,X3 zeros_length]
      have l2:(A1 (K4 (K4 (zeros 256) 0 1 k) 2 2 l)).length=256:=by rw [B5,X3 (X3 zeros_length)]
      have l3:(A1 (K4 (K4 (K4 (zeros 256) 0 1 k) 2 2 l) 4 4 s)).length=256:=by rw [B5,X3 (X3 (X3 zeros_length))]
      have l4:(A1 (C8 256 (R5 k l s p))).length=256:=by rw [B5,J1 (by rw [A41];omega)]
      simp only [C58] at w4
      generalize zeros 32=z at *
      generalize zeros 256=y at *
      exact ⟨_,by simp only [esc,esh,Nat.reduceAdd,Nat.reduceMul,Nat.reduceLT,hlen,B55 hd,c,hz,hz2,w1,w2,w3,w4,l1,l2,l3,l4,B1g hd];exact this⟩
  obtain ⟨g',e⟩:=key (h.length + 34) (by omega) (ro h)
  exact C2g e (by simp)
def S5 (b:List UInt8):Int:=fieldN b 0 1
def T5 (b:List UInt8):Int:=fieldN b 2 2
def T7 (b:List UInt8):Int:=fieldN b 4 4
def T6 (b:List UInt8):Int:=fieldN b 8 2
def H5 (b:List UInt8):List Int:=(List.range 7).map fun j=>fieldN b (10 + 2 * j) 2
theorem N8 {b:List UInt8}:(H5 b).length=7:=by simp [H5]
theorem B5A {b:List UInt8} {i:Nat} (hi:i < 7):(H5 b)[i]? = some (fieldN b (10 + 2 * i) 2):=by simp [H5,hi]
theorem B52 {k l s p x:Int} {d:List Int} {i:Nat}:(A5 k l s p d).set (4 + i) (.i .i64 x)=A5 k l s p (d.set i x):=by
  rw [show 4 + i=i + 1 + 1 + 1 + 1 by omega]
  simp only [A5,List.set_cons_succ,A7l]
theorem B8I {D:List Int} (hD:D.length=7) {i:Nat} (hi:i < 7):(D.take i ++ zI (7 - i)).set i D[i]=D.take (i + 1) ++ zI (7 - (i + 1)):=by
  have h6:(D.take i).length=i:=by simp;omega
  rw [List.set_append_right _ _ (by omega),h6,Nat.sub_self,List.take_succ_eq_append_getElem (by omega),List.append_assoc]
  refine congrArg (D.take i ++ ·) ?_
  rw [show 7 - i=7 - (i + 1) + 1 by omega]
  unfold zI
  rw [List.replicate_succ,List.set_cons_zero];rfl
theorem B5J {g:A0} {b:List UInt8} {k l s p:Int} {c0 z:List Cell} {q:Nat} (hb:b.length=32) (hz:z.length=11):∀ e i m:Nat,i + e=6 → e < m →
    A7G q m (.c (.p (g.length + 1) 0)) (.c (.p (g.length + 2) 0)) (.c (.p (g.length + 3) 0)) (.c (.i .i64 i)) (g ++ [some ⟨c0,true⟩,some ⟨z,true⟩,some ⟨A1 (C8 256 b),true⟩,some ⟨A5 k l s p ((H5 b).take i ++ zI (7 - i)),true⟩]) =
      some (.a (A5 k l s p (H5 b)),g ++ [some ⟨c0,true⟩,some ⟨A5 k l s p (H5 b),true⟩,some ⟨A1 (C8 256 b),true⟩,some ⟨A5 k l s p (H5 b),true⟩])
  | e,i,0,_,hm=>by omega
  | 0,i,m + 1,hi,hm=>by
    have e0:i=6:=by omega
    subst e0
    have h1':¬ ((6:Nat):Int) < 6:=by omega
    have hX:(A1 (C8 256 b)).length=256:=by rw [B5,J1 (by omega)]
    have ha:=fun h=>A0S (h:=h) (l:=C8 256 b) (J1 (by omega)) (a:=22) (w:=2)
    have e1:=B0l (b:=b) (a:=22) (w:=2) (by omega) (by omega) (by omega) (by omega)
    simp only [Int.cast_ofNat_Int] at e1
    simp only [e1] at ha
    have hl0:(A5 k l s p ((H5 b).take 6 ++ zI (7 - 6))).length=11:=by simp [G5,N8,O4]
    have ho:(encI ((H5 b).take 6 ++ zI (7 - 6))).length=7:=by simp [G5,N8,O4]
    have hg6:(H5 b)[6]'(by rw [N8];omega)=fieldN b 22 2:=by
      have:=B5A (b:=b) (i:=6) (by omega)
      rw [List.getElem?_eq_getElem (by rw [N8];omega)] at this
      exact Option.some.inj this
    have es:(A5 k l s p ((H5 b).take 6 ++ zI (7 - 6))).set 10 (.i .i64 (fieldN b 22 2))=A5 k l s p (H5 b):=by
      have h1:=B52 (k:=k) (l:=l) (s:=s) (p:=p) (x:=fieldN b 22 2) (d:=(H5 b).take 6 ++ zI (7 - 6)) (i:=6)
      rw [show 4 + 6=10 from rfl] at h1
      rw [h1,← hg6,B8I N8 (by omega)]
      have:(H5 b).take (6 + 1) ++ zI (7 - (6 + 1))=H5 b:=by rw [List.take_of_length_le (by rw [N8];omega)];simp [zI]
      rw [this]
    have hl1:(A5 k l s p (H5 b)).length=11:=by simp [G5,N8]
    rw [B59]
    simp only [esc,esh,Nat.reduceAdd,Nat.reduceMul,Nat.reduceLT,h1',hX,ha,ho,es,hl1,hz,G5,N8]
  | e + 1,i,m + 1,hi,hm=>by
    have ih:=B5J (g:=g) (k:=k) (l:=l) (s:=s) (p:=p) (c0:=c0) (q:=q) hb hz e (i + 1) m (by omega) (by omega)
    have h1':(i:Int) < 6:=by omega
    have hX:(A1 (C8 256 b)).length=256:=by rw [B5,J1 (by omega)]
    have e2:IntKind.wrap .i64 (2 * (i:Int))=((2 * i:Nat):Int):=by rw [wrap_i64 (by omega) (by omega)];omega
    have e3:IntKind.wrap .i64 (10 + ((2 * i:Nat):Int))=((10 + 2 * i:Nat):Int):=by rw [wrap_i64 (by omega) (by omega)];omega
    have ha:=fun h=>A0S (h:=h) (l:=C8 256 b) (J1 (by omega)) (a:=((10 + 2 * i:Nat):Int)) (w:=2)
    have e1:=B0l (b:=b) (a:=10 + 2 * i) (w:=2) (by omega) (by omega) (by omega) (by omega)
    rw [show ((2:Nat):Int)=2 from rfl] at e1
    simp only [e1] at ha
    have a1:D6 6 1 (.c (.p (g.length + 3) 4)) (.c (.i .i64 (i:Int)))=some (.c (.p (g.length + 3) (4 + i))):=by rw [S6 (by omega)];simp
    have ho:(encI ((H5 b).take i ++ zI (7 - i))).length=7:=by simp [G5,N8,O4];omega
    have ho2:4 + i < 11:=by omega
    have hgi:(H5 b)[i]'(by rw [N8];omega)=fieldN b (10 + 2 * i) 2:=by
      have:=B5A (b:=b) (i:=i) (by omega)
      rw [List.getElem?_eq_getElem (by rw [N8];omega)] at this
      exact Option.some.inj this
    have es:(A5 k l s p ((H5 b).take i ++ zI (7 - i))).set (4 + i) (.i .i64 (fieldN b (10 + 2 * i) 2))=A5 k l s p ((H5 b).take (i + 1) ++ zI (7 - (i + 1))):=by
      rw [B52,← hgi,B8I N8 (by omega)]
    rw [B59]
    simp only [esc,esh,Nat.reduceAdd,Nat.reduceMul,Nat.reduceLT,h1',hX,e2,e3,ha,a1,ho,ho2,es,E2 (show i + 1 < 9223372036854775808 by omega)]
    exact ih
theorem B1f {b:List UInt8} {h:A0} (hb:b.length=32):A4k [.a (A1 b)] h=some (.a (A5 (S5 b) (T5 b) (T7 b) (T6 b) (H5 b)),h):=by
  have key:∀ N,7 < N → ∀ g,∃ g',A6e N [.a (A1 b)] g=some (.a (A5 (S5 b) (T5 b) (T7 b) (T6 b) (H5 b)),g'):=by
    intro N hN g
    have hl:(A1 b).length=32:=by rw [B5,hb]
    have hX:(A1 (C8 256 b)).length=256:=by rw [B5,J1 (by omega)]
    have hz:(List.replicate 256 (Cell.i .u8 0)).length=256:=List.length_replicate
    have z11:[Cell.i .i64 0,.i .i64 0,.i .i64 0,.i .i64 0,.i .i64 0,.i .i64 0,.i .i64 0,.i .i64 0,.i .i64 0,.i .i64 0,.i .i64 0]=A5 0 0 0 0 (zI 7):=rfl
    have l11:(A5 0 0 0 0 (zI 7)).length=11:=rfl
    have ho:=A78 (h:=g ++ [some ⟨A1 b,true⟩,some ⟨A5 0 0 0 0 (zI 7),true⟩]) (v:=.c (.sl g.length 0 32 1)) (nv:=32) (data:=b) (Has.tr (by simp) (by omega) (P7 _)) (by omega)
    rw [A8c (by omega)] at ho
    have at_:∀ (a w:Nat),a + w ≤ 32 → 1 ≤ w → w ≤ 4 → ∀ h,L8 [.a (A1 (C8 256 b)),.c (.i .i64 a),.c (.i .i64 w)] h=some (.c (.i .i64 (fieldN b a w)),h):=fun a w h1 h2 h3 h=>by
      rw [A0S (J1 (by omega)),B0l (by omega) (by omega) h2 h3]
    have a1:=at_ 0 1 (by omega) (by omega) (by omega)
    have a2:=at_ 2 2 (by omega) (by omega) (by omega)
    have a3:=at_ 4 4 (by omega) (by omega) (by omega)
    have a4:=at_ 8 2 (by omega) (by omega) (by omega)
    simp only [Int.cast_ofNat_Int] at a1 a2 a3 a4
    have ef:A7 (A5 0 0 0 0 (zI 7)) [(0,1,.c (.i .i64 (fieldN b 0 1))),(1,1,.c (.i .i64 (fieldN b 2 2))),(2,1,.c (.i .i64 (fieldN b 4 4))),(3,1,.c (.i .i64 (fieldN b 8 2)))]=some (A5 (S5 b) (T5 b) (T7 b) (T6 b) (zI 7)):=rfl
    have lf:(A5 (S5 b) (T5 b) (T7 b) (T6 b) (zI 7)).length=11:=rfl
    have:=B5J (g:=g) (b:=b) (k:=S5 b) (l:=T5 b) (s:=T7 b) (p:=T6 b) (c0:=A1 b) (z:=A5 0 0 0 0 (zI 7)) (q:=N) hb l11 6 0 N (by omega) (by omega)
    simp only [List.take_zero,List.nil_append,Nat.sub_zero] at this
    rw [C0k,z11]
    generalize List.replicate 256 (Cell.i .u8 0)=z at *
    generalize A5 0 0 0 0 (zI 7)=y at *
    exact ⟨_,by simp only [esc,esh,Nat.reduceAdd,Nat.reduceMul,Nat.reduceLT,hl,ho,hz,hX,a1,a2,a3,a4,ef,l11,lf];exact this⟩
  obtain ⟨g',e⟩:=key (h.length + 8) (by omega) (ro h)
  exact C2d e (by simp)
def W4 (b:List UInt8):Bool:=W9 (S5 b) (T5 b) (T7 b) (T6 b) (H5 b) && decide (I6 (S5 b) (T5 b) (T7 b) (T6 b) (H5 b)=b)
def U3 (b:List UInt8):List Cell:=bif W4 b then A5 (S5 b) (T5 b) (T7 b) (T6 b) (H5 b) else A5 0 0 0 0 (zI 7)
theorem B4E {b:List UInt8}:(U3 b).length=11:=by
  unfold U3
  cases W4 b <;> simp [G5,N8,O4]
theorem B49 {b:List UInt8}:F2 (U3 b)=true:=by
  unfold U3
  cases W4 b <;> simp
theorem C6d {b:List UInt8} {h:A0} (hb:b.length=32):A4j [.a (A1 b)] h=some (.t [.a (U3 b),.c (.b (W4 b))],h):=by
  have key:∀ g,∃ g',A6d 0 [.a (A1 b)] g=some (.t [.a (U3 b),.c (.b (W4 b))],g'):=by
    intro g
    have hl:(A1 b).length=32:=by rw [B5,hb]
    have hI:(A5 (S5 b) (T5 b) (T7 b) (T6 b) (H5 b)).length=11:=by simp [G5,N8]
    have z11:[Cell.i .i64 0,.i .i64 0,.i .i64 0,.i .i64 0,.i .i64 0,.i .i64 0,.i .i64 0,.i .i64 0,.i .i64 0,.i .i64 0,.i .i64 0]=A5 0 0 0 0 (zI 7):=rfl
    have l11:(A5 0 0 0 0 (zI 7)).length=11:=rfl
    have af:=B0a
    rw [z11] at af
    have hz:(List.replicate 32 (Cell.i .u8 0)).length=32:=List.length_replicate
    have hp:=fun h=>B6h (h:=h) (k:=S5 b) (l:=T5 b) (s:=T7 b) (p:=T6 b) (d:=H5 b) N8
    have hB:(A1 (I6 (S5 b) (T5 b) (T7 b) (T6 b) (H5 b))).length=32:=by rw [B5,A40 N8]
    have hZ:(A1 (zeros 32)).length=32:=by rw [B5];exact zeros_length
    have hq:=A6S (l:=I6 (S5 b) (T5 b) (T7 b) (T6 b) (H5 b)) (m:=b) (n:=32) (A40 N8) hb
    rw [C0j,z11]
    unfold U3 W4
    generalize List.replicate 32 (Cell.i .u8 0)=z at *
    generalize A5 0 0 0 0 (zI 7)=y at *
    cases c:W9 (S5 b) (T5 b) (T7 b) (T6 b) (H5 b) with
    | false =>
      simp only [c,cond_false] at hp
      exact ⟨_,by simp only [esc,esh,Nat.reduceAdd,Nat.reduceMul,Nat.reduceLT,hl,B1f hb,hI,l11,hp,hz,hZ,Int.reduceEq,af,Bool.false_and] <;> rfl⟩
    | true =>
      simp only [c,cond_true] at hp
      cases c2:decide (I6 (S5 b) (T5 b) (T7 b) (T6 b) (H5 b)=b) with
      | false =>
        rw [c2] at hq
        exact ⟨_,by simp only [esc,esh,Nat.reduceAdd,Nat.reduceMul,Nat.reduceLT,hl,B1f hb,hI,l11,hp,hz,hB,hq,af,Bool.and_false] <;> rfl⟩
      | true =>
        rw [c2] at hq
        exact ⟨_,by simp only [esc,esh,Nat.reduceAdd,Nat.reduceMul,Nat.reduceLT,hl,B1f hb,hI,l11,hp,hz,hB,hq,Bool.and_true] <;> rfl⟩
  obtain ⟨g',e⟩:=key (ro h)
  exact C2b e (by simp [B49])
end Go.Proofs.Yteckncopbicmcaa
end
noncomputable section
namespace Go.Proofs.Yteckncopbicmcaa
open Go Go.Esc
set_option maxRecDepth 100000
def A_index_depth:AFn:=⟨.seq [1] (.ops [aO 1 (.box (.t 0)),aO 2 (.mv (.v (.c (.i .i64 0))))]) (.seq [2] (.ops [aO 3 (.fAddr (.t 1) 0),aO 4 (.load1 (.t 3)),aO 5 (.min (.t 4) (.v (.c (.i .i64 5)))),aO 6 (.max (.v (.c (.i .i64 0))) (.t 5)),aO 2 (.mv (.t 6))]) .ret),[.tmp 2]⟩
def A9c:A9:=C0
def A59 (n:Nat) (args:List Val) (h:A0):A6:=ax A9c n A_index_depth.code A_index_depth.fin (params 0 args) h
theorem C0e (n:Nat) (a0:Val) (h:A0):A59 n [a0] h=bnd (cells? a0) fun c1=>bnd (B3 (.c (.p h.length 0)) 0) fun v2=>bnd (A4 (h ++ [some (Row.mk (c1) true)]) v2) fun v3=>bnd (T2 v3 (.c (.i .i64 5))) fun v4=>bnd (A0g (.c (.i .i64 0)) v4) fun v5=>some (v5,(h ++ [some (Row.mk (c1) true)])):=by kernel_rfl
theorem K_index_depth:FnK Try.prog 72 A_index_depth A9c A59:=.mk' (C2) Try.func72 (by kernel_rfl) (fun _ _ _=>C1)
def A0A:Fun:=tidy (Lim A_index_depth A9c)
theorem A90:SOk Try.prog 72 A0A:=K_index_depth.sok
theorem C13:D5 A59 A0A:=K_index_depth.flat
def A_index_fine:AFn:=⟨.seq [0] (.ops [aO 2 (.mv (.v (.c (.b false))))]) (.seq [2] (.ops [aO 3 (.mv (.t 0)),aO 4 (.bin .geq (.t 3) (.v (.c (.i .i64 0)))),aO 5 (.mv (.t 4)),aG 6 5 true (.mv (.t 0)),aG 7 5 true (.bin .leq (.t 6) (.v (.c (.i .i64 65535)))),aO 8 (.pick (.t 5) (.t 7) (.v (.c (.b false)))),aO 2 (.mv (.t 8))]) .ret),[.tmp 2]⟩
def A9d:A9:=C0
def A9L (n:Nat) (args:List Val) (h:A0):A6:=ax A9d n A_index_fine.code A_index_fine.fin (params 0 args) h
theorem C0f (n:Nat) (a0:Val) (h:A0):A9L n [a0] h=bnd (A2 .geq a0 (.c (.i .i64 0))) fun v1=>bnd (gd v1 true (some (a0,h)) (some (.no,h))) fun p2=>bnd (gd v1 true (bnd (A2 .leq p2.1 (.c (.i .i64 65535))) fun v3=>some (v3,p2.2)) (some (.no,p2.2))) fun p4=>bnd (C9 v1 p4.1 (.c (.b false))) fun v5=>some (v5,p4.2):=by kernel_rfl
theorem K_index_fine:FnK Try.prog 73 A_index_fine A9d A9L:=.mk' (C2) Try.func73 (by kernel_rfl) (fun _ _ _=>C1)
def A4g:Fun:=tidy (Lim A_index_fine A9d)
theorem C15:SOk Try.prog 73 A4g:=K_index_fine.sok
theorem C14:D5 A9L A4g:=K_index_fine.flat
def B5T:ACode:=.seq [2,4,20,21,22] (.ops [aO 22 (.bin .lss (.t 21) (.v (.c (.i .i64 32))))]) (.seq [2,4,20,21] (.cond (.t 22) .skip (.exit 0)) (.seq [2,4,20,21] (.block 1 (.seq [2,4,5,6,20,21] (.ops [aO 23 (.mv (.t 21)),aO 24 (.idxA1 32 (.t 20) (.t 21)),aO 5 (.mv (.t 23)),aO 6 (.mv (.t 24))]) (.seq [2,4,5,6,20,21] (.seq [2,4,5,6,20,21,27] (.ops [aO 25 (.mv (.t 6)),aO 26 (.call 73 [(.t 25)]),aO 27 (.un .not (.t 26))]) (.cond (.t 27) (.seq [2,3] (.ops [aO 28 (.build (List.replicate 256 (.i .u8 0)) []),aN (.storeN 256 (.t 2) (.t 28)),aO 3 (.mv (.v (.c (.i .i64 1))))]) .ret) .skip)) (.ops [aO 29 (.loadN 256 (.t 4)),aO 30 (.mv (.t 5)),aO 31 (.bin .mul (.v (.c (.i .i64 2))) (.t 30)),aO 32 (.bin .add (.v (.c (.i .i64 32))) (.t 31)),aO 33 (.mv (.t 6)),aO 34 (.call 67 [(.t 29),(.t 32),(.v (.c (.i .i64 2))),(.t 33)]),aN (.storeN 256 (.t 4) (.t 34))])))) (.ops [aO 35 (.bin .add (.t 21) (.v (.c (.i .i64 1)))),aO 21 (.mv (.t 35))])))
def B5U:ACode:=.seq [2,3] (.ops [aO 36 (.loadN 256 (.t 4)),aN (.storeN 256 (.t 2) (.t 36)),aO 3 (.mv (.v (.c (.i .i64 0))))]) .ret
def A_index_Put:AFn:=⟨.seq [1,2] (.ops [aO 1 (.box (.t 0)),aO 2 (.alloc (List.replicate 256 (.i .u8 0))),aO 3 (.mv (.v (.c (.i .i64 0))))]) (.seq [1,2] (.seq [1,2,11] (.draw 0 [aO 7 (.fAddr (.t 1) 0),aO 8 (.load1 (.t 7)),aO 9 (.loadN 33 (.t 1)),aO 10 (.call 72 [(.t 9)])] [aO 11 (.bin .neq (.t 8) (.t 10))]) (.cond (.t 11) (.seq [2,3] (.ops [aO 12 (.build (List.replicate 256 (.i .u8 0)) []),aN (.storeN 256 (.t 2) (.t 12)),aO 3 (.mv (.v (.c (.i .i64 1))))]) .ret) .skip)) (.seq [1,2,4] (.draw 2 [aS 13 0 (.buildSl 1 4 ([.i .u8 0,.i .u8 0,.i .u8 0,.i .u8 0]) [(0,1,(.v (.c (.i .u8 105)))),(1,1,(.v (.c (.i .u8 100)))),(2,1,(.v (.c (.i .u8 120)))),(3,1,(.v (.c (.i .u8 33))))]),aO 14 (.mark (.t 13)),aO 15 (.call 66 [(.t 14)]),aO 16 (.fAddr (.t 1) 0),aO 17 (.load1 (.t 16)),aO 18 (.call 67 [(.t 15),(.v (.c (.i .i64 4))),(.v (.c (.i .i64 1))),(.t 17)]),aS 4 1 (.alloc (List.replicate 256 (.i .u8 0)))] [aN (.storeN 256 (.t 4) (.t 18))]) (.seq [2,4] (.seq [2,4,20,21] (.ops [aO 19 (.fAddr (.t 1) 1),aO 20 (.loadN 32 (.t 19)),aO 21 (.mv (.v (.c (.i .i64 0))))]) (.block 0 (.loop [2,4,20,21] B5T))) B5U))),[.cellN 2 256,.tmp 3]⟩
def A3v:A9:=B0 72 A0A (B0 66 X6 (B0 67 Q3 (B0 73 A4g C0)))
def C51 (n:Nat):B4 (Val × A0):=E3 [2,4] (ax A3v n B5U) A_index_Put.fin
def C52 (n:Nat):B4 (Val × A0):=D9 0 (C51 n)
def A7B (n m:Nat) (x2 x4 x20 x21:Val) (h:A0):A6:=D2 (ax A3v n B5T) [2,4,20,21] (C52 n) m [(2,x2),(4,x4),(20,x20),(21,x21)] h
def A58 (n:Nat) (args:List Val) (h:A0):A6:=ax A3v n A_index_Put.code A_index_Put.fin (params 0 args) h
theorem C0d (n:Nat) (a0:Val) (h:A0):A58 n [a0] h=bnd (cells? a0) fun c1=>bnd (B3 (.c (.p h.length 0)) 0) fun v2=>bnd (A4 ((h ++ [some (Row.mk (c1) true)]) ++ [some (Row.mk (List.replicate 256 (.i .u8 0)) true)]) v2) fun v3=>bnd (A3 ((h ++ [some (Row.mk (c1) true)]) ++ [some (Row.mk (List.replicate 256 (.i .u8 0)) true)]) 33 (.c (.p h.length 0))) fun v4=>bnd (quiet (((h ++ [some (Row.mk (c1) true)]) ++ [some (Row.mk (List.replicate 256 (.i .u8 0)) true)]) ++ []) (A0A [v4] (((h ++ [some (Row.mk (c1) true)]) ++ [some (Row.mk (List.replicate 256 (.i .u8 0)) true)]) ++ []))) fun p5=>bnd (A2 .neq v3 p5.1) fun v6=>cnd v6 (bnd (A7 (List.replicate 256 (.i .u8 0)) []) fun c7=>bnd (A8 p5.2 256 (.c (.p (h ++ [some (Row.mk (c1) true)]).length 0)) (.a c7)) fun h8=>C7 [A3 h8 256 (.c (.p (h ++ [some (Row.mk (c1) true)]).length 0)),some (.c (.i .i64 1))] h8) (bnd (A7 ([.i .u8 0,.i .u8 0,.i .u8 0,.i .u8 0]) [(0,1,.c (.i .u8 105)),(1,1,.c (.i .u8 100)),(2,1,.c (.i .u8 120)),(3,1,.c (.i .u8 33))]) fun c9=>bnd (U0 ((p5.2 ++ [none,none]).set (p5.2.length + 0) (some (Row.mk (c9) true))) (.c (.sl (p5.2.length + 0) 0 4 1))) fun v10=>bnd (quiet ((p5.2 ++ [none,none]).set (p5.2.length + 0) (some (Row.mk (c9) true))) (X6 [v10] ((p5.2 ++ [none,none]).set (p5.2.length + 0) (some (Row.mk (c9) true))))) fun p11=>bnd (B3 (.c (.p h.length 0)) 0) fun v12=>bnd (A4 p5.2 v12) fun v13=>bnd (quiet p11.2 (Q3 [p11.1,.c (.i .i64 4),.c (.i .i64 1),v13] p11.2)) fun p14=>bnd (A8 (p14.2.set (p5.2.length + 1) (some (Row.mk (List.replicate 256 (.i .u8 0)) true))) 256 (.c (.p (p5.2.length + 1) 0)) p14.1) fun h15=>bnd (B3 (.c (.p h.length 0)) 1) fun v16=>bnd (A3 h15 32 v16) fun v17=>A7B n n (.c (.p (h ++ [some (Row.mk (c1) true)]).length 0)) (.c (.p (p5.2.length + 1) 0)) v17 (.c (.i .i64 0)) h15):=by kernel_rfl
theorem B5W (n m:Nat) (x2 x4 x20 x21:Val) (h:A0):A7B n (m + 1) x2 x4 x20 x21 h=bnd (A2 .lss x21 (.c (.i .i64 32))) fun v18=>cnd v18 (bnd (V0 32 x20 x21) fun v19=>bnd (A4g [v19] h) fun p20=>bnd (aun .not p20.1) fun v21=>cnd v21 (bnd (A7 (List.replicate 256 (.i .u8 0)) []) fun c22=>bnd (A8 p20.2 256 x2 (.a c22)) fun h23=>C7 [A3 h23 256 x2,some (.c (.i .i64 1))] h23) (bnd (A3 p20.2 256 x4) fun v24=>bnd (A2 .mul (.c (.i .i64 2)) x21) fun v25=>bnd (A2 .add (.c (.i .i64 32)) v25) fun v26=>bnd (Q3 [v24,v26,.c (.i .i64 2),v19] p20.2) fun p27=>bnd (A8 p27.2 256 x4 p27.1) fun h28=>bnd (A2 .add x21 (.c (.i .i64 1))) fun v29=>A7B n m x2 x4 x20 v29 h28)) (bnd (A3 h 256 x4) fun v30=>bnd (A8 h 256 x2 v30) fun h31=>C7 [A3 h31 256 x2,some (.c (.i .i64 0))] h31):=by kernel_rfl
theorem K_index_Put:FnK Try.prog 43 A_index_Put A3v A58:=.mk' (B1 A90 (B1 A6N (B1 A92 (B1 C15 C2)))) Try.func43 (by kernel_rfl) (fun _ _ _=>C1)
def A1P:Fun:=tidy (Lim A_index_Put A3v)
theorem B23:SOk Try.prog 43 A1P:=K_index_Put.sok
theorem C12:D5 A58 A1P:=K_index_Put.flat
def A_index_many:AFn:=⟨.seq [1] (.ops [aO 1 (.box (.t 0)),aO 2 (.mv (.v (.c (.i .i64 0))))]) (.seq [2] (.ops [aO 3 (.loadN 33 (.t 1)),aO 4 (.call 72 [(.t 3)]),aO 5 (.conv .u64 (.t 4)),aO 6 (.bin .shl (.v (.c (.i .i64 1))) (.t 5)),aO 2 (.mv (.t 6))]) .ret),[.tmp 2]⟩
def A9e:A9:=B0 72 A0A C0
def A6b (n:Nat) (args:List Val) (h:A0):A6:=ax A9e n A_index_many.code A_index_many.fin (params 0 args) h
theorem C0h (n:Nat) (a0:Val) (h:A0):A6b n [a0] h=bnd (cells? a0) fun c1=>bnd (A3 (h ++ [some (Row.mk (c1) true)]) 33 (.c (.p h.length 0))) fun v2=>bnd (A0A [v2] (h ++ [some (Row.mk (c1) true)])) fun p3=>bnd (K6 .u64 p3.1) fun v4=>bnd (A2 .shl (.c (.i .i64 1)) v4) fun v5=>some (v5,p3.2):=by kernel_rfl
theorem K_index_many:FnK Try.prog 87 A_index_many A9e A6b:=.mk' (B1 A90 C2) Try.func87 (by kernel_rfl) (fun _ _ _=>C1)
def A1Q:Fun:=tidy (Lim A_index_many A9e)
theorem B24:SOk Try.prog 87 A1Q:=K_index_many.sok
theorem C18:D5 A6b A1Q:=K_index_many.flat
def B5N:ACode:=.seq [1,2,4,12,13] (.ops [aO 13 (.bin .lss (.t 12) (.v (.c (.i .i64 32))))]) (.seq [1,2,4,12] (.cond (.t 13) .skip (.exit 0)) (.seq [1,2,4,12] (.block 1 (.seq [1,2,4,5,12] (.ops [aO 14 (.mv (.t 12)),aO 5 (.mv (.t 14))]) (.ops [aO 15 (.mv (.t 5)),aO 16 (.loadN 256 (.t 1)),aO 17 (.mv (.t 5)),aO 18 (.bin .mul (.v (.c (.i .i64 2))) (.t 17)),aO 19 (.bin .add (.v (.c (.i .i64 32))) (.t 18)),aO 20 (.call 47 [(.t 16),(.t 19),(.v (.c (.i .i64 2)))]),aO 21 (.fAddr (.t 4) 1),aO 22 (.iAddrA 32 1 (.t 21) (.t 15)),aN (.store1 (.t 22) (.t 20))]))) (.ops [aO 23 (.bin .add (.t 12) (.v (.c (.i .i64 1)))),aO 12 (.mv (.t 23))])))
def B5P:ACode:=.seq [2,4,8] (.seq [2,4,8,40] (.ops [aO 39 (.mv (.t 8)),aO 40 (.bin .lss (.t 39) (.v (.c (.i .i64 32))))]) (.cond (.t 40) .skip (.exit 2))) (.seq [2,4,8] (.block 3 (.seq [2,4,8,47] (.ops [aO 43 (.mv (.t 8)),aO 44 (.fAddr (.t 4) 1),aO 45 (.iAddrA 32 1 (.t 44) (.t 43)),aO 46 (.load1 (.t 45)),aO 47 (.bin .neq (.t 46) (.v (.c (.i .i64 0))))]) (.cond (.t 47) (.seq [2,3] (.ops [aO 48 (.build ([.i .i64 0] ++ List.replicate 32 (.i .i64 0)) []),aN (.storeN 33 (.t 2) (.t 48)),aO 3 (.mv (.v (.c (.i .i64 14))))]) .ret) .skip))) (.ops [aO 41 (.mv (.t 8)),aO 42 (.bin .add (.t 41) (.v (.c (.i .i64 1)))),aO 8 (.mv (.t 42))]))
def B5Q:ACode:=.seq [2,3] (.ops [aO 49 (.loadN 33 (.t 4)),aN (.storeN 33 (.t 2) (.t 49)),aO 3 (.mv (.v (.c (.i .i64 0))))]) .ret
def B5O:ACode:=.seq [1,2,4,6,7] (.ops [aO 25 (.loadN 33 (.t 4)),aO 26 (.call 43 [(.t 25)]),aO 24 (.mv (.t 26)),aO 27 (.ext (.t 24) 0),aO 28 (.ext (.t 24) 1),aO 6 (.alloc (List.replicate 256 (.i .u8 0))),aN (.storeN 256 (.t 6) (.t 27)),aO 7 (.mv (.t 28))]) (.seq [2,4] (.seq [2,4,35] (.ops [aO 29 (.mv (.t 7)),aO 30 (.bin .neq (.t 29) (.v (.c (.i .i64 0)))),aO 31 (.mv (.t 30)),aG 32 31 false (.loadN 256 (.t 6)),aG 33 31 false (.loadN 256 (.t 1)),aG 34 31 false (.eqA true (List.replicate 256 (.i .u8)) (.t 32) (.t 33)),aO 35 (.pick (.t 31) (.v (.c (.b true))) (.t 34))]) (.cond (.t 35) (.seq [2,3] (.ops [aO 36 (.build ([.i .i64 0] ++ List.replicate 32 (.i .i64 0)) []),aN (.storeN 33 (.t 2) (.t 36)),aO 3 (.mv (.v (.c (.i .i64 14))))]) .ret) .skip)) (.seq [2,4] (.seq [2,4,8] (.ops [aO 37 (.loadN 33 (.t 4)),aO 38 (.call 87 [(.t 37)]),aO 8 (.mv (.t 38))]) (.block 2 (.loop [2,4,8] B5P))) B5Q))
def A_index_Get:AFn:=⟨.seq [1,2] (.ops [aO 1 (.box (.t 0)),aO 2 (.alloc ([.i .i64 0] ++ List.replicate 32 (.i .i64 0))),aO 3 (.mv (.v (.c (.i .i64 0))))]) (.seq [1,2,4] (.ops [aO 9 (.loadN 256 (.t 1)),aO 10 (.call 47 [(.t 9),(.v (.c (.i .i64 4))),(.v (.c (.i .i64 1)))]),aO 11 (.build ([.i .i64 0] ++ List.replicate 32 (.i .i64 0)) [(0,1,(.t 10))]),aO 4 (.alloc ([.i .i64 0] ++ List.replicate 32 (.i .i64 0))),aN (.storeN 33 (.t 4) (.t 11))]) (.seq [1,2,4] (.seq [1,2,4,12] (.ops [aO 12 (.mv (.v (.c (.i .i64 0))))]) (.block 0 (.loop [1,2,4,12] B5N))) B5O)),[.cellN 2 33,.tmp 3]⟩
def A1D:A9:=B0 47 L8 (B0 43 A1P (B0 87 A1Q C0))
def C5W (n:Nat):B4 (Val × A0):=E3 [1,2,4] (ax A1D n B5O) A_index_Get.fin
def C5X (n:Nat):B4 (Val × A0):=D9 0 (C5W n)
def A7z (n m:Nat) (x1 x2 x4 x12:Val) (h:A0):A6:=D2 (ax A1D n B5N) [1,2,4,12] (C5X n) m [(1,x1),(2,x2),(4,x4),(12,x12)] h
def A56 (n:Nat) (args:List Val) (h:A0):A6:=ax A1D n A_index_Get.code A_index_Get.fin (params 0 args) h
def C5Y (n:Nat):B4 (Val × A0):=E3 [2,4] (ax A1D n B5Q) A_index_Get.fin
def C5Z (n:Nat):B4 (Val × A0):=D9 2 (C5Y n)
def A7A (n m:Nat) (x2 x4 x8:Val) (h:A0):A6:=D2 (ax A1D n B5P) [2,4,8] (C5Z n) m [(2,x2),(4,x4),(8,x8)] h
theorem C0b (n:Nat) (a0:Val) (h:A0):A56 n [a0] h=bnd (cells? a0) fun c1=>bnd (A3 ((h ++ [some (Row.mk (c1) true)]) ++ [some (Row.mk ([.i .i64 0] ++ List.replicate 32 (.i .i64 0)) true)]) 256 (.c (.p h.length 0))) fun v2=>bnd (L8 [v2,.c (.i .i64 4),.c (.i .i64 1)] ((h ++ [some (Row.mk (c1) true)]) ++ [some (Row.mk ([.i .i64 0] ++ List.replicate 32 (.i .i64 0)) true)])) fun p3=>bnd (A7 ([.i .i64 0] ++ List.replicate 32 (.i .i64 0)) [(0,1,p3.1)]) fun c4=>bnd (A8 (p3.2 ++ [some (Row.mk ([.i .i64 0] ++ List.replicate 32 (.i .i64 0)) true)]) 33 (.c (.p p3.2.length 0)) (.a c4)) fun h5=>A7z n n (.c (.p h.length 0)) (.c (.p (h ++ [some (Row.mk (c1) true)]).length 0)) (.c (.p p3.2.length 0)) (.c (.i .i64 0)) h5:=by kernel_rfl
theorem B5R (n m:Nat) (x1 x2 x4 x12:Val) (h:A0):A7z n (m + 1) x1 x2 x4 x12 h=bnd (A2 .lss x12 (.c (.i .i64 32))) fun v6=>cnd v6 (bnd (A3 h 256 x1) fun v7=>bnd (A2 .mul (.c (.i .i64 2)) x12) fun v8=>bnd (A2 .add (.c (.i .i64 32)) v8) fun v9=>bnd (L8 [v7,v9,.c (.i .i64 2)] h) fun p10=>bnd (B3 x4 1) fun v11=>bnd (D6 32 1 v11 x12) fun v12=>bnd (E4 p10.2 v12 p10.1) fun h13=>bnd (A2 .add x12 (.c (.i .i64 1))) fun v14=>A7z n m x1 x2 x4 v14 h13) (bnd (A3 h 33 x4) fun v15=>bnd (A1P [v15] h) fun p16=>bnd (C3 p16.1 0) fun v17=>bnd (C3 p16.1 1) fun v18=>bnd (A8 (p16.2 ++ [some (Row.mk (List.replicate 256 (.i .u8 0)) true)]) 256 (.c (.p p16.2.length 0)) v17) fun h19=>bnd (A2 .neq v18 (.c (.i .i64 0))) fun v20=>bnd (gd v20 false (bnd (A3 h19 256 (.c (.p p16.2.length 0))) fun v21=>some (v21,h19)) (some (.no,h19))) fun p22=>bnd (gd v20 false (bnd (A3 p22.2 256 x1) fun v23=>some (v23,p22.2)) (some (.no,p22.2))) fun p24=>bnd (gd v20 false (bnd (aeq true (List.replicate 256 (.i .u8)) p22.1 p24.1) fun v25=>some (v25,p24.2)) (some (.no,p24.2))) fun p26=>bnd (C9 v20 (.c (.b true)) p26.1) fun v27=>cnd v27 (bnd (A7 ([.i .i64 0] ++ List.replicate 32 (.i .i64 0)) []) fun c28=>bnd (A8 p26.2 33 x2 (.a c28)) fun h29=>C7 [A3 h29 33 x2,some (.c (.i .i64 14))] h29) (bnd (A3 p26.2 33 x4) fun v30=>bnd (A1Q [v30] p26.2) fun p31=>A7A n n x2 x4 p31.1 p31.2)):=by kernel_rfl
theorem B5S (n m:Nat) (x2 x4 x8:Val) (h:A0):A7A n (m + 1) x2 x4 x8 h=bnd (A2 .lss x8 (.c (.i .i64 32))) fun v32=>cnd v32 (bnd (B3 x4 1) fun v33=>bnd (D6 32 1 v33 x8) fun v34=>bnd (A4 h v34) fun v35=>bnd (A2 .neq v35 (.c (.i .i64 0))) fun v36=>cnd v36 (bnd (A7 ([.i .i64 0] ++ List.replicate 32 (.i .i64 0)) []) fun c37=>bnd (A8 h 33 x2 (.a c37)) fun h38=>C7 [A3 h38 33 x2,some (.c (.i .i64 14))] h38) (bnd (A2 .add x8 (.c (.i .i64 1))) fun v39=>A7A n m x2 x4 v39 h)) (bnd (A3 h 33 x4) fun v40=>bnd (A8 h 33 x2 v40) fun h41=>C7 [A3 h41 33 x2,some (.c (.i .i64 0))] h41):=by kernel_rfl
theorem K_index_Get:FnK Try.prog 83 A_index_Get A1D A56:=.mk' (B1 A4p (B1 B23 (B1 B24 C2))) Try.func83 (by kernel_rfl) (fun _ _ _=>C1)
def A4e:Fun:=tidy (Lim A_index_Get A1D)
theorem C1Z:SOk Try.prog 83 A4e:=K_index_Get.sok
theorem C1Y:D5 A56 A4e:=K_index_Get.flat
def A_index_Place:AFn:=⟨.seq [1,2] (.ops [aO 2 (.box (.t 0)),aO 4 (.mv (.v (.c (.i .i64 0))))]) (.seq [4] (.ops [aO 5 (.mv (.t 1)),aO 6 (.loadN 33 (.t 2)),aO 7 (.call 72 [(.t 6)]),aO 8 (.call 84 [(.t 5),(.t 7)]),aO 4 (.mv (.t 8))]) .ret),[.tmp 4]⟩
def A9b:A9:=B0 72 A0A (B0 84 A4l C0)
def A57 (n:Nat) (args:List Val) (h:A0):A6:=ax A9b n A_index_Place.code A_index_Place.fin (params 0 args) h
theorem C0c (n:Nat) (a0 a1:Val) (h:A0):A57 n [a0,a1] h=bnd (cells? a0) fun c1=>bnd (A3 (h ++ [some (Row.mk (c1) true)]) 33 (.c (.p h.length 0))) fun v2=>bnd (A0A [v2] (h ++ [some (Row.mk (c1) true)])) fun p3=>bnd (A4l [a1,p3.1] p3.2) fun p4=>some (p4.1,p4.2):=by kernel_rfl
theorem K_index_Place:FnK Try.prog 55 A_index_Place A9b A57:=.mk' (B1 A90 (B1 C2k C2)) Try.func55 (by kernel_rfl) (fun _ _ _=>C1)
def A4f:Fun:=tidy (Lim A_index_Place A9b)
theorem C11:SOk Try.prog 55 A4f:=K_index_Place.sok
theorem C10:D5 A57 A4f:=K_index_Place.flat
def B5X:ACode:=.seq [1,2,6,7,8] (.ops [aO 8 (.bin .lss (.t 7) (.t 6))]) (.seq [1,2,6,7] (.cond (.t 8) .skip (.exit 0)) (.seq [1,2,6,7] (.block 1 (.seq [1,2,5,6,7] (.ops [aO 9 (.mv (.t 7)),aO 5 (.mv (.t 9))]) (.seq [1,2,6,7,18] (.draw 0 [aO 10 (.mv (.t 5)),aO 11 (.fAddr (.t 2) 1),aO 12 (.iAddrA 32 1 (.t 11) (.t 10)),aO 13 (.load1 (.t 12)),aO 14 (.mv (.t 1)),aO 15 (.fAddr (.t 2) 1),aO 16 (.iAddrA 32 1 (.t 15) (.t 14)),aO 17 (.load1 (.t 16))] [aO 18 (.bin .eql (.t 13) (.t 17))]) (.cond (.t 18) (.seq [4] (.ops [aO 4 (.mv (.v (.c (.b false))))]) .ret) .skip)))) (.ops [aO 19 (.bin .add (.t 7) (.v (.c (.i .i64 1)))),aO 7 (.mv (.t 19))])))
def B5Y:ACode:=.seq [4] (.ops [aO 4 (.mv (.v (.c (.b true))))]) .ret
def A_index_first:AFn:=⟨.seq [1,2] (.ops [aO 2 (.box (.t 0)),aO 4 (.mv (.v (.c (.b false))))]) (.seq [] (.seq [1,2,6,7] (.ops [aO 6 (.mv (.t 1)),aO 7 (.mv (.v (.c (.i .i64 0))))]) (.block 0 (.loop [1,2,6,7] B5X))) B5Y),[.tmp 4]⟩
def A3w:A9:=C0
def C55 (n:Nat):B4 (Val × A0):=E3 [] (ax A3w n B5Y) A_index_first.fin
def C56 (n:Nat):B4 (Val × A0):=D9 0 (C55 n)
def A7C (n m:Nat) (x1 x2 x6 x7:Val) (h:A0):A6:=D2 (ax A3w n B5X) [1,2,6,7] (C56 n) m [(1,x1),(2,x2),(6,x6),(7,x7)] h
def A6a (n:Nat) (args:List Val) (h:A0):A6:=ax A3w n A_index_first.code A_index_first.fin (params 0 args) h
theorem C0g (n:Nat) (a0 a1:Val) (h:A0):A6a n [a0,a1] h=bnd (cells? a0) fun c1=>A7C n n a1 (.c (.p h.length 0)) a1 (.c (.i .i64 0)) (h ++ [some (Row.mk (c1) true)]):=by kernel_rfl
theorem B5Z (n m:Nat) (x1 x2 x6 x7:Val) (h:A0):A7C n (m + 1) x1 x2 x6 x7 h=bnd (A2 .lss x7 x6) fun v2=>cnd v2 (bnd (B3 x2 1) fun v3=>bnd (D6 32 1 v3 x7) fun v4=>bnd (A4 h v4) fun v5=>bnd (B3 x2 1) fun v6=>bnd (D6 32 1 v6 x1) fun v7=>bnd (A4 h v7) fun v8=>bnd (A2 .eql v5 v8) fun v9=>cnd v9 (some ((.c (.b false)),(h ++ []))) (bnd (A2 .add x7 (.c (.i .i64 1))) fun v10=>A7C n m x1 x2 x6 v10 (h ++ []))) (some ((.c (.b true)),h)):=by kernel_rfl
theorem K_index_first:FnK Try.prog 88 A_index_first A3w A6a:=.mk' (C2) Try.func88 (by kernel_rfl) (fun _ _ _=>C1)
def A4h:Fun:=tidy (Lim A_index_first A3w)
theorem C17:SOk Try.prog 88 A4h:=K_index_first.sok
theorem C16:D5 A6a A4h:=K_index_first.flat
def B5L:ACode:=.ops [aO 27 (.bin .add (.t 7) (.v (.c (.i .i64 1)))),aO 7 (.mv (.t 27))]
def B07:ACode:=.seq [1,3,6,7,8] (.ops [aO 8 (.bin .lss (.t 7) (.t 6))]) (.seq [1,3,6,7] (.cond (.t 8) .skip (.exit 0)) (.seq [1,3,6,7] (.block 1 (.seq [1,3,4,6,7] (.ops [aO 9 (.mv (.t 7)),aO 4 (.mv (.t 9))]) (.seq [1,3,4,6,7,19] (.ops [aO 10 (.mv (.t 4)),aO 11 (.fAddr (.t 1) 1),aO 12 (.iAddrA 32 1 (.t 11) (.t 10)),aO 13 (.load1 (.t 12)),aO 14 (.bin .neq (.t 13) (.v (.c (.i .i64 0)))),aO 15 (.mv (.t 14)),aG 16 15 true (.loadN 33 (.t 1)),aG 17 15 true (.mv (.t 4)),aG 18 15 true (.call 88 [(.t 16),(.t 17)]),aO 19 (.pick (.t 15) (.t 18) (.v (.c (.b false))))]) (.cond (.t 19) (.ops [aO 20 (.mv (.t 3)),aO 21 (.mv (.t 4)),aO 22 (.fAddr (.t 1) 1),aO 23 (.iAddrA 32 1 (.t 22) (.t 21)),aO 24 (.load1 (.t 23)),aO 25 (.buildSl 1 1 ([.i .i64 0]) [(0,1,(.t 24))]),aO 26 (.app 1 (.t 20) (.t 25)),aO 3 (.mv (.t 26))]) .skip)))) B5L))
def B5K:ACode:=.seq [2] (.ops [aO 28 (.mv (.t 3)),aO 2 (.mv (.t 28))]) .ret
def A_index_Buckets:AFn:=⟨.seq [1] (.ops [aO 1 (.box (.t 0)),aO 2 (.nilrow 1)]) (.seq [1,3] (.ops [aO 3 (.nilrow 1)]) (.seq [3] (.seq [1,3,6,7] (.ops [aO 5 (.loadN 33 (.t 1)),aO 6 (.call 87 [(.t 5)]),aO 7 (.mv (.v (.c (.i .i64 0))))]) (.block 0 (.loop [1,3,6,7] B07))) B5K)),[.tmp 2]⟩
def A1C:A9:=B0 87 A1Q (B0 88 A4h C0)
def C5T (n:Nat):B4 (Val × A0):=E3 [3] (ax A1C n B5K) A_index_Buckets.fin
def B1a (n:Nat):B4 (Val × A0):=D9 0 (C5T n)
def A4Z (n m:Nat) (x1 x3 x6 x7:Val) (h:A0):A6:=D2 (ax A1C n B07) [1,3,6,7] (B1a n) m [(1,x1),(3,x3),(6,x6),(7,x7)] h
def A55 (n:Nat) (args:List Val) (h:A0):A6:=ax A1C n A_index_Buckets.code A_index_Buckets.fin (params 0 args) h
def C5U (n m:Nat):B4 (Val × A0):=T9 [1,3,6,7] (D2 (ax A1C n B07) [1,3,6,7] (B1a n) m) (B1a n)
def B08 (n m:Nat) (x1 x3 x6 x7:Val) (h:A0):A6:=hold ((ax A1C n B5L) (C5U n m) [(1,x1),(3,x3),(6,x6),(7,x7)] h)
theorem C0a (n:Nat) (a0:Val) (h:A0):A55 n [a0] h=bnd (cells? a0) fun c1=>bnd (A3 (((h ++ [some (Row.mk (c1) true)]) ++ [some (Row.mk ([]) true)]) ++ [some (Row.mk ([]) true)]) 33 (.c (.p h.length 0))) fun v2=>bnd (A1Q [v2] (((h ++ [some (Row.mk (c1) true)]) ++ [some (Row.mk ([]) true)]) ++ [some (Row.mk ([]) true)])) fun p3=>A4Z n n (.c (.p h.length 0)) (.c (.sl ((h ++ [some (Row.mk (c1) true)]) ++ [some (Row.mk ([]) true)]).length 0 0 1)) p3.1 (.c (.i .i64 0)) p3.2:=by kernel_rfl
theorem B5M (n m:Nat) (x1 x3 x6 x7:Val) (h:A0):A4Z n (m + 1) x1 x3 x6 x7 h=bnd (A2 .lss x7 x6) fun v4=>cnd v4 (bnd (B3 x1 1) fun v5=>bnd (D6 32 1 v5 x7) fun v6=>bnd (A4 h v6) fun v7=>bnd (A2 .neq v7 (.c (.i .i64 0))) fun v8=>bnd (gd v8 true (bnd (A3 h 33 x1) fun v9=>some (v9,h)) (some (.no,h))) fun p10=>bnd (gd v8 true (some (x7,p10.2)) (some (.no,p10.2))) fun p11=>bnd (gd v8 true (bnd (A4h [p10.1,p11.1] p11.2) fun p12=>some (p12.1,p12.2)) (some (.no,p11.2))) fun p13=>bnd (C9 v8 p13.1 (.c (.b false))) fun v14=>cnd v14 (bnd (B3 x1 1) fun v15=>bnd (D6 32 1 v15 x7) fun v16=>bnd (A4 p13.2 v16) fun v17=>bnd (A7 ([.i .i64 0]) [(0,1,v17)]) fun c18=>bnd (F0 (p13.2 ++ [some (Row.mk (c18) true)]) 1 x3 (.c (.sl p13.2.length 0 1 1))) fun p19=>B08 n m x1 p19.1 x6 x7 p19.2) (B08 n m x1 x3 x6 x7 p13.2)) (some (x3,h)):=by kernel_rfl
theorem B09 (n m:Nat) (x1 x3 x6 x7:Val) (h:A0):B08 n m x1 x3 x6 x7 h=bnd (A2 .add x7 (.c (.i .i64 1))) fun v20=>A4Z n m x1 x3 x6 v20 h:=by kernel_rfl
theorem K_index_Buckets:FnK Try.prog 61 A_index_Buckets A1C A55:=.mk' (B1 B24 (B1 C17 C2)) Try.func61 (by kernel_rfl) (fun _ _ _=>C1)
def A4d:Fun:=tidy (Lim A_index_Buckets A1C)
theorem C1W:SOk Try.prog 61 A4d:=K_index_Buckets.sok
theorem C1X:U7 A55 A4d:=K_index_Buckets.out
end Go.Proofs.Yteckncopbicmcaa
end
noncomputable section
namespace Go.Proofs.Yteckncopbicmcaa
open Go Go.Esc
set_option maxRecDepth 100000
def A_fmap_Index:AFn:=⟨.seq [2,3,4] (.ops [aO 2 (.box (.t 0)),aO 3 (.box (.t 1)),aO 4 (.alloc ([.i .i64 0] ++ List.replicate 32 (.i .i64 0))),aO 5 (.mv (.v (.c (.b false))))]) (.seq [2,3,4] (.seq [2,3,4,19] (.ops [aO 8 (.fAddr (.t 3) 0),aO 9 (.load1 (.t 8)),aO 10 (.bin .neq (.t 9) (.v (.c (.i .i64 2)))),aO 11 (.mv (.t 10)),aG 12 11 false (.fAddr (.t 2) 0),aG 13 11 false (.loadN 3 (.t 12)),aG 14 11 false (.fAddr (.t 3) 4),aG 15 11 false (.iAddrA 6 1 (.t 14) (.v (.c (.i .i64 0)))),aG 16 11 false (.load1 (.t 15)),aG 17 11 false (.call 31 [(.t 13),(.t 16)]),aG 18 11 false (.un .not (.t 17)),aO 19 (.pick (.t 11) (.v (.c (.b true))) (.t 18))]) (.cond (.t 19) (.seq [4,5] (.ops [aO 20 (.build ([.i .i64 0] ++ List.replicate 32 (.i .i64 0)) []),aN (.storeN 33 (.t 4) (.t 20)),aO 5 (.mv (.v (.c (.b false))))]) .ret) .skip)) (.seq [4,6,7] (.ops [aO 22 (.loadN 4 (.t 2)),aO 23 (.fAddr (.t 3) 4),aO 24 (.iAddrA 6 1 (.t 23) (.v (.c (.i .i64 0)))),aO 25 (.load1 (.t 24)),aO 26 (.call 26 [(.t 22),(.t 25)]),aO 27 (.call 83 [(.t 26)]),aO 21 (.mv (.t 27)),aO 28 (.ext (.t 21) 0),aO 29 (.ext (.t 21) 1),aO 6 (.alloc ([.i .i64 0] ++ List.replicate 32 (.i .i64 0))),aN (.storeN 33 (.t 6) (.t 28)),aO 7 (.mv (.t 29))]) (.seq [4,5] (.ops [aO 30 (.loadN 33 (.t 6)),aO 31 (.mv (.t 7)),aO 32 (.bin .eql (.t 31) (.v (.c (.i .i64 0)))),aN (.storeN 33 (.t 4) (.t 30)),aO 5 (.mv (.t 32))]) .ret))),[.cellN 4 33,.tmp 5]⟩
def A81:A9:=B0 31 V7 (B0 26 S1 (B0 83 A4e C0))
def A5U (n:Nat) (args:List Val) (h:A0):A6:=ax A81 n A_fmap_Index.code A_fmap_Index.fin (params 0 args) h
theorem B9Y (n:Nat) (a0 a1:Val) (h:A0):A5U n [a0,a1] h=bnd (cells? a0) fun c1=>bnd (cells? a1) fun c2=>bnd (B3 (.c (.p (h ++ [some (Row.mk (c1) true)]).length 0)) 0) fun v3=>bnd (A4 (((h ++ [some (Row.mk (c1) true)]) ++ [some (Row.mk (c2) true)]) ++ [some (Row.mk ([.i .i64 0] ++ List.replicate 32 (.i .i64 0)) true)]) v3) fun v4=>bnd (A2 .neq v4 (.c (.i .i64 2))) fun v5=>bnd (gd v5 false (bnd (B3 (.c (.p h.length 0)) 0) fun v6=>some (v6,(((h ++ [some (Row.mk (c1) true)]) ++ [some (Row.mk (c2) true)]) ++ [some (Row.mk ([.i .i64 0] ++ List.replicate 32 (.i .i64 0)) true)]))) (some (.no,(((h ++ [some (Row.mk (c1) true)]) ++ [some (Row.mk (c2) true)]) ++ [some (Row.mk ([.i .i64 0] ++ List.replicate 32 (.i .i64 0)) true)])))) fun p7=>bnd (gd v5 false (bnd (A3 p7.2 3 p7.1) fun v8=>some (v8,p7.2)) (some (.no,p7.2))) fun p9=>bnd (gd v5 false (bnd (B3 (.c (.p (h ++ [some (Row.mk (c1) true)]).length 0)) 4) fun v10=>some (v10,p9.2)) (some (.no,p9.2))) fun p11=>bnd (gd v5 false (bnd (D6 6 1 p11.1 (.c (.i .i64 0))) fun v12=>some (v12,p11.2)) (some (.no,p11.2))) fun p13=>bnd (gd v5 false (bnd (A4 p13.2 p13.1) fun v14=>some (v14,p13.2)) (some (.no,p13.2))) fun p15=>bnd (gd v5 false (bnd (V7 [p9.1,p15.1] p15.2) fun p16=>some (p16.1,p16.2)) (some (.no,p15.2))) fun p17=>bnd (gd v5 false (bnd (aun .not p17.1) fun v18=>some (v18,p17.2)) (some (.no,p17.2))) fun p19=>bnd (C9 v5 (.c (.b true)) p19.1) fun v20=>cnd v20 (bnd (A7 ([.i .i64 0] ++ List.replicate 32 (.i .i64 0)) []) fun c21=>bnd (A8 p19.2 33 (.c (.p ((h ++ [some (Row.mk (c1) true)]) ++ [some (Row.mk (c2) true)]).length 0)) (.a c21)) fun h22=>C7 [A3 h22 33 (.c (.p ((h ++ [some (Row.mk (c1) true)]) ++ [some (Row.mk (c2) true)]).length 0)),some (.c (.b false))] h22) (bnd (A3 p19.2 4 (.c (.p h.length 0))) fun v23=>bnd (B3 (.c (.p (h ++ [some (Row.mk (c1) true)]).length 0)) 4) fun v24=>bnd (D6 6 1 v24 (.c (.i .i64 0))) fun v25=>bnd (A4 p19.2 v25) fun v26=>bnd (S1 [v23,v26] p19.2) fun p27=>bnd (A4e [p27.1] p27.2) fun p28=>bnd (C3 p28.1 0) fun v29=>bnd (C3 p28.1 1) fun v30=>bnd (A8 (p28.2 ++ [some (Row.mk ([.i .i64 0] ++ List.replicate 32 (.i .i64 0)) true)]) 33 (.c (.p p28.2.length 0)) v29) fun h31=>bnd (A3 h31 33 (.c (.p p28.2.length 0))) fun v32=>bnd (A2 .eql v30 (.c (.i .i64 0))) fun v33=>bnd (A8 h31 33 (.c (.p ((h ++ [some (Row.mk (c1) true)]) ++ [some (Row.mk (c2) true)]).length 0)) v32) fun h34=>C7 [A3 h34 33 (.c (.p ((h ++ [some (Row.mk (c1) true)]) ++ [some (Row.mk (c2) true)]).length 0)),some v33] h34):=by kernel_rfl
theorem K_fmap_Index:FnK Try.prog 54 A_fmap_Index A81 A5U:=.mk' (B1 A6L (B1 A2W (B1 C1Z C2))) Try.func54 (by kernel_rfl) (fun _ _ _=>C1)
def A1N:Fun:=tidy (Lim A_fmap_Index A81)
theorem B20:SOk Try.prog 54 A1N:=K_fmap_Index.sok
theorem C1D:D5 A5U A1N:=K_fmap_Index.flat
def B5e:ACode:=.ops [aO 33 (.bin .add (.t 21) (.v (.c (.i .i64 1)))),aO 21 (.mv (.t 33))]
def B0V:ACode:=.seq [2,7,19,20,21,22] (.ops [aO 22 (.bin .lss (.t 21) (.t 20))]) (.seq [2,7,19,20,21] (.cond (.t 22) .skip (.exit 0)) (.seq [2,7,19,20,21] (.block 1 (.seq [2,7,9,19,20,21] (.ops [aO 23 (.iAddrL 1 (.t 19) (.t 21)),aO 24 (.load1 (.t 23)),aO 9 (.mv (.t 24))]) (.seq [2,7,9,19,20,21,28] (.ops [aO 25 (.fAddr (.t 2) 0),aO 26 (.loadN 3 (.t 25)),aO 27 (.mv (.t 9)),aO 28 (.call 31 [(.t 26),(.t 27)])]) (.cond (.t 28) (.ops [aO 29 (.mv (.t 7)),aO 30 (.mv (.t 9)),aO 31 (.buildSl 1 1 ([.i .i64 0]) [(0,1,(.t 30))]),aO 32 (.app 1 (.t 29) (.t 31)),aO 7 (.mv (.t 32))]) .skip)))) B5e))
def B5d:ACode:=.seq [4] (.ops [aO 34 (.mv (.t 7)),aO 4 (.mv (.t 34))]) .ret
def A_fmap_Buckets:AFn:=⟨.seq [2,3] (.ops [aO 2 (.box (.t 0)),aO 3 (.box (.t 1)),aO 4 (.nilrow 1)]) (.seq [2,5,6] (.ops [aO 11 (.loadN 4 (.t 2)),aO 12 (.loadN 11 (.t 3)),aO 13 (.call 54 [(.t 11),(.t 12)]),aO 10 (.mv (.t 13)),aO 14 (.ext (.t 10) 0),aO 15 (.ext (.t 10) 1),aO 5 (.alloc ([.i .i64 0] ++ List.replicate 32 (.i .i64 0))),aN (.storeN 33 (.t 5) (.t 14)),aO 6 (.mv (.t 15))]) (.seq [2,5] (.seq [2,5,17] (.ops [aO 16 (.mv (.t 6)),aO 17 (.un .not (.t 16))]) (.cond (.t 17) (.seq [4] (.ops [aO 4 (.nilrow 1)]) .ret) .skip)) (.seq [2,5,7] (.ops [aO 7 (.nilrow 1)]) (.seq [7] (.seq [2,7,19,20,21] (.ops [aO 18 (.loadN 33 (.t 5)),aO 19 (.call 61 [(.t 18)]),aO 20 (.len (.t 19)),aO 21 (.mv (.v (.c (.i .i64 0))))]) (.block 0 (.loop [2,7,19,20,21] B0V))) B5d)))),[.tmp 4]⟩
def A1A:A9:=B0 54 A1N (B0 61 A4d (B0 31 V7 C0))
def C5x (n:Nat):B4 (Val × A0):=E3 [7] (ax A1A n B5d) A_fmap_Buckets.fin
def B0X (n:Nat):B4 (Val × A0):=D9 0 (C5x n)
def A7s (n m:Nat) (x2 x7 x19 x20 x21:Val) (h:A0):A6:=D2 (ax A1A n B0V) [2,7,19,20,21] (B0X n) m [(2,x2),(7,x7),(19,x19),(20,x20),(21,x21)] h
def A5T (n:Nat) (args:List Val) (h:A0):A6:=ax A1A n A_fmap_Buckets.code A_fmap_Buckets.fin (params 0 args) h
def C5y (n m:Nat):B4 (Val × A0):=T9 [2,7,19,20,21] (D2 (ax A1A n B0V) [2,7,19,20,21] (B0X n) m) (B0X n)
def B0W (n m:Nat) (x2 x7 x19 x20 x21:Val) (h:A0):A6:=hold ((ax A1A n B5e) (C5y n m) [(2,x2),(7,x7),(19,x19),(20,x20),(21,x21)] h)
theorem B9X (n:Nat) (a0 a1:Val) (h:A0):A5T n [a0,a1] h=bnd (cells? a0) fun c1=>bnd (cells? a1) fun c2=>bnd (A3 (((h ++ [some (Row.mk (c1) true)]) ++ [some (Row.mk (c2) true)]) ++ [some (Row.mk ([]) true)]) 4 (.c (.p h.length 0))) fun v3=>bnd (A3 (((h ++ [some (Row.mk (c1) true)]) ++ [some (Row.mk (c2) true)]) ++ [some (Row.mk ([]) true)]) 11 (.c (.p (h ++ [some (Row.mk (c1) true)]).length 0))) fun v4=>bnd (A1N [v3,v4] (((h ++ [some (Row.mk (c1) true)]) ++ [some (Row.mk (c2) true)]) ++ [some (Row.mk ([]) true)])) fun p5=>bnd (C3 p5.1 0) fun v6=>bnd (C3 p5.1 1) fun v7=>bnd (A8 (p5.2 ++ [some (Row.mk ([.i .i64 0] ++ List.replicate 32 (.i .i64 0)) true)]) 33 (.c (.p p5.2.length 0)) v6) fun h8=>bnd (aun .not v7) fun v9=>cnd v9 (some ((.c (.sl h8.length 0 0 1)),(h8 ++ [some (Row.mk ([]) true)]))) (bnd (A3 (h8 ++ [some (Row.mk ([]) true)]) 33 (.c (.p p5.2.length 0))) fun v10=>bnd (A4d [v10] (h8 ++ [some (Row.mk ([]) true)])) fun p11=>bnd (E9 p11.1) fun v12=>A7s n n (.c (.p h.length 0)) (.c (.sl h8.length 0 0 1)) p11.1 v12 (.c (.i .i64 0)) p11.2):=by kernel_rfl
theorem B5g (n m:Nat) (x2 x7 x19 x20 x21:Val) (h:A0):A7s n (m + 1) x2 x7 x19 x20 x21 h=bnd (A2 .lss x21 x20) fun v13=>cnd v13 (bnd (B8 1 x19 x21) fun v14=>bnd (A4 h v14) fun v15=>bnd (B3 x2 0) fun v16=>bnd (A3 h 3 v16) fun v17=>bnd (V7 [v17,v15] h) fun p18=>cnd p18.1 (bnd (A7 ([.i .i64 0]) [(0,1,v15)]) fun c19=>bnd (F0 (p18.2 ++ [some (Row.mk (c19) true)]) 1 x7 (.c (.sl p18.2.length 0 1 1))) fun p20=>B0W n m x2 p20.1 x19 x20 x21 p20.2) (B0W n m x2 x7 x19 x20 x21 p18.2)) (some (x7,h)):=by kernel_rfl
theorem B5f (n m:Nat) (x2 x7 x19 x20 x21:Val) (h:A0):B0W n m x2 x7 x19 x20 x21 h=bnd (A2 .add x21 (.c (.i .i64 1))) fun v21=>A7s n m x2 x7 x19 x20 v21 h:=by kernel_rfl
theorem K_fmap_Buckets:FnK Try.prog 33 A_fmap_Buckets A1A A5T:=.mk' (B1 B20 (B1 C1W (B1 A6L C2))) Try.func33 (by kernel_rfl) (fun _ _ _=>C1)
def A35:Fun:=tidy (Lim A_fmap_Buckets A1A)
theorem C1B:SOk Try.prog 33 A35:=K_fmap_Buckets.sok
theorem C1C:U7 A5T A35:=K_fmap_Buckets.out
def B5c:ACode:=.seq [7] (.seq [7,43] (.ops [aO 39 (.fAddr (.t 3) 0),aO 40 (.loadN 3 (.t 39)),aO 41 (.mv (.t 7)),aO 42 (.call 31 [(.t 40),(.t 41)]),aO 43 (.un .not (.t 42))]) (.cond (.t 43) (.seq [6] (.ops [aO 6 (.mv (.v (.c (.i .i64 0))))]) .ret) .skip)) (.seq [6] (.ops [aO 44 (.mv (.t 7)),aO 6 (.mv (.t 44))]) .ret)
def A_fmap_At:AFn:=⟨.seq [2,3,4] (.ops [aO 3 (.box (.t 0)),aO 4 (.box (.t 1)),aO 6 (.mv (.v (.c (.i .i64 0))))]) (.seq [2,3,4] (.seq [2,3,4,18] (.ops [aO 8 (.fAddr (.t 4) 0),aO 9 (.load1 (.t 8)),aO 10 (.bin .neq (.t 9) (.v (.c (.i .i64 1)))),aO 11 (.mv (.t 10)),aG 12 11 false (.mv (.t 2)),aG 13 11 false (.bin .lss (.t 12) (.v (.c (.i .i64 0)))),aO 14 (.pick (.t 11) (.v (.c (.b true))) (.t 13)),aO 15 (.mv (.t 14)),aG 16 15 false (.mv (.t 2)),aG 17 15 false (.bin .geq (.t 16) (.v (.c (.i .i64 134)))),aO 18 (.pick (.t 15) (.v (.c (.b true))) (.t 17))]) (.cond (.t 18) (.seq [6] (.ops [aO 6 (.mv (.v (.c (.i .i64 0))))]) .ret) .skip)) (.seq [2,3,4,7] (.ops [aO 7 (.mv (.v (.c (.i .i64 0))))]) (.seq [3,7] (.block 0 (.seq [2,3,4,7,19] (.ops [aO 20 (.mv (.t 2)),aO 21 (.bin .lss (.t 20) (.v (.c (.i .i64 6)))),aO 19 (.mv (.t 21))]) (.cond (.t 19) (.ops [aO 22 (.mv (.t 2)),aO 23 (.fAddr (.t 4) 4),aO 24 (.iAddrA 6 1 (.t 23) (.t 22)),aO 25 (.load1 (.t 24)),aO 7 (.mv (.t 25))]) (.seq [2,3,4,7,26] (.ops [aO 27 (.fAddr (.t 3) 0),aO 28 (.loadN 3 (.t 27)),aO 29 (.fAddr (.t 4) 10),aO 30 (.load1 (.t 29)),aO 31 (.call 31 [(.t 28),(.t 30)]),aO 26 (.mv (.t 31))]) (.cond (.t 26) (.ops [aO 32 (.loadN 4 (.t 3)),aO 33 (.fAddr (.t 4) 10),aO 34 (.load1 (.t 33)),aO 35 (.call 26 [(.t 32),(.t 34)]),aO 36 (.mv (.t 2)),aO 37 (.bin .sub (.t 36) (.v (.c (.i .i64 6)))),aO 38 (.call 99 [(.t 35),(.t 37)]),aO 7 (.mv (.t 38))]) .skip))))) B5c))),[.tmp 6]⟩
def A5C:A9:=B0 31 V7 (B0 26 S1 (B0 99 A4u C0))
def A4T (n:Nat) (x3 x7:Val) (h:A0):A6:=hold ((ax A5C n B5c) A_fmap_At.fin [(3,x3),(7,x7)] h)
def A5S (n:Nat) (args:List Val) (h:A0):A6:=ax A5C n A_fmap_At.code A_fmap_At.fin (params 0 args) h
theorem B9W (n:Nat) (a0 a1 a2:Val) (h:A0):A5S n [a0,a1,a2] h=bnd (cells? a0) fun c1=>bnd (cells? a1) fun c2=>bnd (B3 (.c (.p (h ++ [some (Row.mk (c1) true)]).length 0)) 0) fun v3=>bnd (A4 ((h ++ [some (Row.mk (c1) true)]) ++ [some (Row.mk (c2) true)]) v3) fun v4=>bnd (A2 .neq v4 (.c (.i .i64 1))) fun v5=>bnd (gd v5 false (some (a2,((h ++ [some (Row.mk (c1) true)]) ++ [some (Row.mk (c2) true)]))) (some (.no,((h ++ [some (Row.mk (c1) true)]) ++ [some (Row.mk (c2) true)])))) fun p6=>bnd (gd v5 false (bnd (A2 .lss p6.1 (.c (.i .i64 0))) fun v7=>some (v7,p6.2)) (some (.no,p6.2))) fun p8=>bnd (C9 v5 (.c (.b true)) p8.1) fun v9=>bnd (gd v9 false (some (a2,p8.2)) (some (.no,p8.2))) fun p10=>bnd (gd v9 false (bnd (A2 .geq p10.1 (.c (.i .i64 134))) fun v11=>some (v11,p10.2)) (some (.no,p10.2))) fun p12=>bnd (C9 v9 (.c (.b true)) p12.1) fun v13=>cnd v13 (some ((.c (.i .i64 0)),p12.2)) (bnd (A2 .lss a2 (.c (.i .i64 6))) fun v14=>cnd v14 (bnd (B3 (.c (.p (h ++ [some (Row.mk (c1) true)]).length 0)) 4) fun v15=>bnd (D6 6 1 v15 a2) fun v16=>bnd (A4 p12.2 v16) fun v17=>A4T n (.c (.p h.length 0)) v17 p12.2) (bnd (B3 (.c (.p h.length 0)) 0) fun v18=>bnd (A3 p12.2 3 v18) fun v19=>bnd (B3 (.c (.p (h ++ [some (Row.mk (c1) true)]).length 0)) 10) fun v20=>bnd (A4 p12.2 v20) fun v21=>bnd (V7 [v19,v21] p12.2) fun p22=>cnd p22.1 (bnd (A3 p22.2 4 (.c (.p h.length 0))) fun v23=>bnd (B3 (.c (.p (h ++ [some (Row.mk (c1) true)]).length 0)) 10) fun v24=>bnd (A4 p22.2 v24) fun v25=>bnd (S1 [v23,v25] p22.2) fun p26=>bnd (A2 .sub a2 (.c (.i .i64 6))) fun v27=>bnd (A4u [p26.1,v27] p26.2) fun p28=>A4T n (.c (.p h.length 0)) p28.1 p28.2) (A4T n (.c (.p h.length 0)) (.c (.i .i64 0)) p22.2))):=by kernel_rfl
theorem C5u (n:Nat) (x3 x7:Val) (h:A0):A4T n x3 x7 h=bnd (B3 x3 0) fun v29=>bnd (A3 h 3 v29) fun v30=>bnd (V7 [v30,x7] h) fun p31=>bnd (aun .not p31.1) fun v32=>cnd v32 (some ((.c (.i .i64 0)),p31.2)) (some (x7,p31.2)):=by kernel_rfl
theorem K_fmap_At:FnK Try.prog 97 A_fmap_At A5C A5S:=.mk' (B1 A6L (B1 A2W (B1 C2M C2))) Try.func97 (by kernel_rfl) (fun _ _ _=>C1)
def A34:Fun:=tidy (Lim A_fmap_At A5C)
theorem C1A:SOk Try.prog 97 A34:=K_fmap_At.sok
theorem C1z:D5 A5S A34:=K_fmap_At.flat
end Go.Proofs.Yteckncopbicmcaa
end
section
namespace Go.Proofs.Yteckncopbicmcaa
open Go Go.Esc
def A3i (D:Dev) (n:Int) (d:List Int) (j:Nat):Int :=
  if j < 6 then d.getD j 0 else bif O9 D.length n (d.getD 6 0) then ptP (blk D (d.getD 6 0)) (j - 6) else 0
def Q7 (D:Dev) (n:Int) (d:List Int) (j:Nat):Int:=bif O9 D.length n (A3i D n d j) then A3i D n d j else 0
def atF (D:Dev) (n k:Int) (d:List Int) (j:Int):Int:=if k=1 ∧ 0 ≤ j ∧ j < 134 then Q7 D n d j.toNat else 0
theorem C5v {D:Dev} {n m no:Int} {f:Cell} {q:Nat} {g:A0} {r:Option Row}:A4T q (.c (.p g.length 0)) (.c (.i .i64 no)) (g ++ [some (Row.mk (vwC D.length n m f) true),r])=some (.c (.i .i64 (bif O9 D.length n no then no else 0)),g ++ [some (Row.mk (vwC D.length n m f) true),r]):=by
  have l3:=A3p (b:=D.length) (n:=n) (m:=m) (f:=f)
  have hI:=fun h=>A4U (b:=D.length) (n:=n) (m:=m) (i:=no) (h:=h)
  rw [C5u]
  generalize vwC D.length n m f=V at *
  cases c:O9 D.length n no with
  | false =>
    simp only [c] at hI
    simp only [esc,esh,Nat.reduceAdd,Nat.reduceMul,Nat.reduceLT,l3,hI]
  | true =>
    simp only [c] at hI
    simp only [esc,esh,Nat.reduceAdd,Nat.reduceMul,Nat.reduceLT,l3,hI]
theorem C5t {D:Dev} {n m k l s p j:Int} {d:List Int} {f:Cell} {h:A0} (hD:okD D) (hd:d.length=7) (hv:IsView h f D) :
    A34 [.a (vwC D.length n m f),.a (A5 k l s p d),.c (.i .i64 j)] h=some (.c (.i .i64 (atF D n k d j)),h):=by
  have key:∀ g,IsView g f D → ∃ g',A5S 0 [.a (vwC D.length n m f),.a (A5 k l s p d),.c (.i .i64 j)] g=some (.c (.i .i64 (atF D n k d j)),g'):=by
    intro g hv
    have l3:=A3p (b:=D.length) (n:=n) (m:=m) (f:=f)
    have l4:=A2K (b:=D.length) (n:=n) (m:=m) (f:=f)
    have i0:(A5 k l s p d)[0]? = some (.i .i64 k):=rfl
    have i10:(A5 k l s p d)[10]? = some (.i .i64 (d.getD 6 0)):=by
      have:(A5 k l s p d)[10]? = (encI d)[6]? := rfl
      rw [this,T4,List.getElem?_eq_getElem (by omega),List.getD_eq_getElem?_getD,List.getElem?_eq_getElem (by omega)];rfl
    have hJ:=fun no=>C5v (D:=D) (n:=n) (m:=m) (no:=no) (f:=f) (q:=0) (g:=g) (r:=some (Row.mk (A5 k l s p d) true))
    rw [B9W]
    by_cases c1:k=1
    · by_cases c2:j < 0
      · have e:atF D n k d j=0:=by unfold atF;rw [if_neg (by omega)]
        rw [e]
        generalize vwC D.length n m f=V at *
        generalize A5 k l s p d=I at *
        exact ⟨_,by simp only [esc,esh,Nat.reduceAdd,Nat.reduceMul,Nat.reduceLT,eq_self,i0,c1,c2] <;> rfl⟩
      · by_cases c3:134 ≤ j
        · have e:atF D n k d j=0:=by unfold atF;rw [if_neg (by omega)]
          rw [e]
          generalize vwC D.length n m f=V at *
          generalize A5 k l s p d=I at *
          exact ⟨_,by simp only [esc,esh,Nat.reduceAdd,Nat.reduceMul,Nat.reduceLT,eq_self,i0,c1,c2,c3] <;> rfl⟩
        · obtain ⟨i,rfl⟩:∃ i:Nat,j=i:=⟨j.toNat,by omega⟩
          have e:atF D n k d i=Q7 D n d i:=by unfold atF;rw [if_pos (by omega),Int.toNat_natCast]
          rw [e]
          unfold Q7
          by_cases c4:(i:Int) < 6
          · have er:A3i D n d i=d.getD i 0:=by unfold A3i;rw [if_pos (by omega)]
            have ia:(A5 k l s p d)[4 + i]? = some (.i .i64 (d.getD i 0)):=by
              have:(A5 k l s p d)[4 + i]? = (encI d)[i]? := by
                rw [Nat.add_comm];rfl
              rw [this,T4,List.getElem?_eq_getElem (by omega),List.getD_eq_getElem?_getD,List.getElem?_eq_getElem (by omega)];rfl
            have ad:=S6 (k:=.i64) (id:=g.length + 1) (off:=4) (sz:=1) (j:=i) (n:=6) (by omega)
            rw [Nat.mul_one] at ad
            rw [er]
            generalize vwC D.length n m f=V at *
            generalize A5 k l s p d=I at *
            exact ⟨_,by simp only [esc,esh,Nat.reduceAdd,Nat.reduceMul,Nat.reduceLT,eq_self,i0,c1,c2,c3,c4,ad,ia,hJ] <;> rfl⟩
          · have er:A3i D n d i=bif O9 D.length n (d.getD 6 0) then ptP (blk D (d.getD 6 0)) (i - 6) else 0:=by unfold A3i;rw [if_neg (by omega)]
            have hI:=fun h=>A4U (b:=D.length) (n:=n) (m:=m) (i:=d.getD 6 0) (h:=h)
            rw [er]
            cases c5:O9 D.length n (d.getD 6 0) with
            | false =>
              simp only [c5] at hI
              generalize vwC D.length n m f=V at *
              generalize A5 k l s p d=I at *
              exact ⟨_,by simp only [esc,esh,Nat.reduceAdd,Nat.reduceMul,Nat.reduceLT,eq_self,i0,i10,c1,c2,c3,c4,l3,hI,hJ] <;> rfl⟩
            | true =>
              simp only [c5] at hI
              have hB:=A3o (n:=n) (m:=m) (no:=d.getD 6 0) (h:=g ++ [some (Row.mk (vwC D.length n m f) true),some (Row.mk (A5 k l s p d) true)]) hD (hv.more _)
              have w:IntKind.wrap .i64 ((i:Int) - 6)=((i - 6:Nat):Int):=by rw [wrap_i64 (by omega) (by omega)];omega
              have hP:=fun h=>C7L (b:=blk D (d.getD 6 0)) (k:=i - 6) (h:=h) (A0L hD) (by omega)
              generalize vwC D.length n m f=V at *
              generalize A5 k l s p d=I at *
              exact ⟨_,by simp only [esc,esh,Nat.reduceAdd,Nat.reduceMul,Nat.reduceLT,eq_self,i0,i10,c1,c2,c3,c4,l3,l4,hI,hB,w,hP,hJ] <;> rfl⟩
    · have e:atF D n k d j=0:=by unfold atF;rw [if_neg (by omega)]
      rw [e]
      generalize vwC D.length n m f=V at *
      generalize A5 k l s p d=I at *
      exact ⟨_,by simp only [esc,esh,Nat.reduceAdd,Nat.reduceMul,Nat.reduceLT,eq_self,i0,c1] <;> rfl⟩
  obtain ⟨g',e⟩:=key (ro h) hv.ro
  exact C1z e rfl
end Go.Proofs.Yteckncopbicmcaa
end
section
namespace Go.Proofs.Yteckncopbicmcaa
open Go Go.Esc
theorem A8j {h:A0} {id n sz:Nat} {cs ys:List Cell} (hr:rd h id=some ⟨cs,true⟩) (hl:cs.length=n * sz) (hy:ys.length=sz) (hsz:0 < sz) (hn:n + 1 ≤ 1073741824) :
    ∃ h',F0 (h ++ [some ⟨ys,true⟩]) sz (.c (.sl id 0 n sz)) (.c (.sl h.length 0 1 sz))=some (.c (.sl (h.length + 1) 0 (n + 1) sz),h') ∧ rd h' (h.length + 1)=some ⟨cs ++ ys,true⟩ ∧ (∀ i r,i ≠ id → rd h i=some r → rd h' i=some r) ∧ (∀ b,b ≤ id → b ≤ h.length → Low b h h'):=by
  have hlt:=B7 hr
  refine ⟨(h ++ [some (Row.mk ys true)]).set id none ++ [some (Row.mk (cs ++ ys) true)],?_,?_,fun i r hi hir=>?_,fun b hb hb2=>(((Low.refl hb2).new _).set hb none).new _⟩
  · rw [A0K (h:=h ++ [some ⟨ys,true⟩]) (m:=1) (B6 hr) hl F4 (by omega) rfl hsz hn]
    simp
  · have:=F4 (h:=(h ++ [some (Row.mk ys true)]).set id none) (r:=Row.mk (cs ++ ys) true)
    rw [List.length_set] at this
    simpa using this
  · refine B6 ?_
    rw [D1 (Ne.symm hi)]
    exact B6 hir
def B9y (h:A0) (x:Cell) (l:List Int) (b:Nat) (rs:List Nat):Prop:=(l=[] ∧ x=.ns) ∨ ∃ id,x=.sl id 0 l.length 1 ∧ rd h id=some ⟨encI l,true⟩ ∧ b ≤ id ∧ id ∉ rs
def VarI (h:A0) (r:Nat) (l:List Int) (b:Nat) (rs:List Nat):Prop:=∃ x,rd h r=some ⟨[x],true⟩ ∧ B9y h x l b rs
theorem VarI.nil {h:A0} {r b:Nat} {rs:List Nat} (hr:rd h r=some ⟨[.ns],true⟩):VarI h r [] b rs:=⟨.ns,hr,.inl ⟨rfl,rfl⟩⟩
theorem VarI.keep {h h':A0} {r b:Nat} {l:List Int} {rs:List Nat} (hv:VarI h r l b rs) (h1:rd h' r=rd h r) (h2:∀ id,id ∉ rs → ∀ x,rd h id=some x → rd h' id=some x):VarI h' r l b rs:=by
  obtain ⟨x,hx,hd⟩:=hv
  refine ⟨x,by rw [h1];exact hx,?_⟩
  rcases hd with hd | ⟨id,e,hr,hb,hn⟩
  · exact .inl hd
  · exact .inr ⟨id,e,h2 id hn _ hr,hb,hn⟩
theorem VarI.more {h:A0} {r b:Nat} {l:List Int} {rs:List Nat} (hv:VarI h r l b rs) (t:A0):VarI (h ++ t) r l b rs:=by
  obtain ⟨x,hx,hd⟩:=hv
  refine ⟨x,B6 hx,?_⟩
  rcases hd with hd | ⟨id,e,hr,hb,hn⟩
  · exact .inl hd
  · exact .inr ⟨id,e,B6 hr,hb,hn⟩
theorem B0j {h:A0} {jd m sz:Nat} {ys:List Cell} (hy:rd h jd=some ⟨ys,true⟩) (hyl:ys.length=m * sz) (hsz:0 < sz) (hn:m ≤ 1073741824) :
    F0 h sz (.c .ns) (.c (.sl jd 0 m sz))=some (.c (.sl h.length 0 m sz),h ++ [some ⟨ys,true⟩]):=by
  have h2:L9 h sz (.c (.sl jd 0 m sz))=some ys:=by
    simp only [L9,if_true,V4,hy,Option.bind_some,List.drop_zero,Nat.zero_add]
    rw [← hyl,List.take_length,if_pos ⟨Nat.le_refl _,rfl⟩]
  have e1:ys.length / sz=m:=by rw [hyl];exact Nat.mul_div_cancel _ hsz
  simp only [F0,h2,Option.bind_some]
  rw [e1,if_pos hn]
theorem VarI.push {h:A0} {r b:Nat} {l:List Int} {rs:List Nat} (hv:VarI h r l b rs) (hr:r ∈ rs) (hbr:b ≤ r) (hbh:b ≤ h.length) (hlt:∀ j ∈ rs,j < h.length) (hl:l.length ≤ 100000) (n:Int) :
    ∃ x v h2 h3,A4 h (.c (.p r 0))=some (.c x) ∧ F0 (h ++ [some ⟨[.i .i64 n],true⟩]) 1 (.c x) (.c (.sl h.length 0 1 1))=some (.c v,h2) ∧ E4 h2 (.c (.p r 0)) (.c v)=some h3 ∧
      VarI h3 r (l ++ [n]) b rs ∧ Low b h h3 ∧ (∀ j ∈ rs,j ≠ r → rd h3 j=rd h j) ∧ h.length ≤ h3.length:=by
  obtain ⟨x,hx,hd⟩:=hv
  have hrl:=B7 hx
  have l1:A4 h (.c (.p r 0))=some (.c x):=F7 hx rfl (by simp)
  rcases hd with ⟨rfl,rfl⟩ | ⟨id,rfl,hi,hb,hn⟩
  · have hA:=B0j (h:=h ++ [some ⟨[.i .i64 n],true⟩]) (jd:=h.length) (m:=1) (sz:=1) (ys:=[.i .i64 n]) (by simp) rfl (by omega) (by omega)
    have e1:(h ++ [some (Row.mk [.i .i64 n] true)]).length=h.length + 1:=by simp
    rw [e1] at hA
    have hr2:rd (h ++ [some (Row.mk [.i .i64 n] true)] ++ [some (Row.mk [.i .i64 n] true)]) r=some ⟨[.ns],true⟩:=B6 (B6 hx)
    have s1:=T0 (x:=.sl (h.length + 1) 0 1 1) (off:=0) hr2 (by simp)
    refine ⟨.ns,_,_,_,l1,hA,s1,⟨.sl (h.length + 1) 0 1 1,G1 (B7 hr2),.inr ⟨h.length + 1,rfl,?_,by omega,fun h1=>by have:=hlt _ h1;omega⟩⟩,(((Low.refl hbh).new _).new _).set hbr _,fun j hj hjr=>?_,by simp⟩
    · rw [D1 (by omega)]
      have:=F4 (h:=h ++ [some (Row.mk [.i .i64 n] true)]) (r:=⟨[.i .i64 n],true⟩)
      rw [e1] at this
      exact this
    · rw [D1 (Ne.symm hjr)]
      have:=hlt j hj
      rw [G9 (by simp;omega),G9 this]
  · have hil:=B7 hi
    have hne:id ≠ r:=fun e=>hn (e ▸ hr)
    have hA:=A0K (h:=h ++ [some ⟨[.i .i64 n],true⟩]) (id:=id) (jd:=h.length) (n:=l.length) (m:=1) (sz:=1) (cs:=encI l) (ys:=[.i .i64 n]) (rw:=true) (B6 hi) (by rw [G5,Nat.mul_one]) (by simp) rfl rfl (by omega) (by omega)
    have e1:(h ++ [some (Row.mk [.i .i64 n] true)]).length=h.length + 1:=by simp
    rw [e1] at hA
    have ee:encI l ++ [Cell.i .i64 n]=encI (l ++ [n]):=by rw [A7k];rfl
    rw [ee] at hA
    have hr2:rd ((h ++ [some (Row.mk [.i .i64 n] true)]).set id none ++ [some (Row.mk (encI (l ++ [n])) true)]) r=some ⟨[.sl id 0 l.length 1],true⟩:=by
      refine B6 ?_
      rw [D1 hne];exact B6 hx
    have s1:=T0 (x:=.sl (h.length + 1) 0 (l.length + 1) 1) (off:=0) hr2 (by simp)
    refine ⟨_,_,_,_,l1,hA,s1,⟨.sl (h.length + 1) 0 (l.length + 1) 1,G1 (B7 hr2),.inr ⟨h.length + 1,by simp,?_,by omega,fun h1=>by have:=hlt _ h1;omega⟩⟩,((((Low.refl hbh).new _).set hb _).new _).set hbr _,fun j hj hjr=>?_,by simp;omega⟩
    · rw [D1 (by omega)]
      have:=F4 (h:=(h ++ [some (Row.mk [.i .i64 n] true)]).set id none) (r:=⟨encI (l ++ [n]),true⟩)
      rw [List.length_set,e1] at this
      exact this
    · have hji:j ≠ id:=fun e=>hn (e ▸ hj)
      have:=hlt j hj
      rw [D1 (Ne.symm hjr),G9 (by simp;omega),D1 (Ne.symm hji),G9 this]
end Go.Proofs.Yteckncopbicmcaa
end
section
namespace Go.Proofs.Yteckncopbicmcaa
open Go Go.Esc
def Q8 (d:Int):Nat:=(max 0 (min d 5)).toNat
theorem A7d (d:Int):Q8 d ≤ 5:=by unfold Q8;omega
theorem C4E {d:Int} (h0:0 ≤ d) (h5:d ≤ 5):((Q8 d:Nat):Int)=d:=by unfold Q8;omega
theorem C4D (d:Int):(max 0 (min d 5))=((Q8 d:Nat):Int):=by unfold Q8;omega
def I7 (d:Int):Nat:=2 ^ Q8 d
theorem B7N {n:Nat} (h:n ≤ 5):2 ^ n ≤ 32:=by
  have:=Nat.pow_le_pow_right (n:=2) (by omega) h
  simpa using this
theorem A47 (d:Int):I7 d ≤ 32:=B7N (A7d d)
theorem A2N:[Cell.i .i64 0] ++ List.replicate 32 (Cell.i .i64 0)=encI (0 :: zI 32):=by
  simp [encI,zI]
def toX (t:List Int) (i:Nat):Int:=t.getD i 0
theorem C9B {t:List Int} {i:Nat} (h:i < t.length):t[i]? = some (toX t i):=by
  unfold toX;rw [List.getD_eq_getElem?_getD,List.getElem?_eq_getElem h];rfl
def A2r (n:Int):Bool:=decide (0 ≤ n) && decide (n ≤ 65535)
theorem C53 {n:Int} {h:A0}:A4g [.c (.i .i64 n)] h=some (.c (.b (A2r n)),h):=by
  refine C14 (n:=0) (h2:=ro h) ?_ rfl
  rw [C0f]
  unfold A2r
  by_cases c:0 ≤ n
  · simp only [esc,c,Bool.true_and]
  · simp only [esc,c,Bool.false_and]
theorem R0 {d:Int} {t:List Int} (ht:t.length=32):(encI (d :: t)).length=33:=by rw [G5];simp [ht]
theorem C47 {d:Int} {t:List Int} {i:Nat} (ht:t.length=32) (hi:i < 32):(encI (d :: t))[1 + i]? = some (.i .i64 (toX t i)):=by
  rw [T4,Nat.add_comm 1 i,List.getElem?_cons_succ,C9B (by omega)];rfl
theorem C48 {d:Int} {t:List Int} {i:Nat} {v:Int}:(encI (d :: t)).set (1 + i) (.i .i64 v)=encI (d :: t.set i v):=by
  rw [A7l,Nat.add_comm 1 i,List.set_cons_succ]
theorem ldX {h:A0} {id:Nat} {d:Int} {t:List Int} {rw:Bool} (hr:rd h id=some ⟨encI (d :: t),rw⟩) (ht:t.length=32) {i:Nat} (hi:i < 32):A4 h (.c (.p id (1 + i)))=some (.c (.i .i64 (toX t i))) :=
  F7 hr (C47 ht hi) (by simp [Cell.isX])
theorem adX {id i:Nat} (hi:i < 32):D6 32 1 (.c (.p id (0 + 1))) (.c (.i .i64 (i:Int)))=some (.c (.p id (1 + i))):=by rw [S6 hi];simp
theorem B1b {d:Int} {t:List Int} {h:A0}:A0A [.a (encI (d :: t))] h=some (.c (.i .i64 (Q8 d:Nat)),h):=by
  have key:∀ g,∃ g',A59 0 [.a (encI (d :: t))] g=some (.c (.i .i64 (Q8 d:Nat)),g'):=by
    intro g
    have e1:T2 (.c (.i .i64 d)) (.c (.i .i64 5))=some (.c (.i .i64 (min d 5))):=by
      simp only [T2]
      by_cases h:(5:Int) < d
      · rw [if_pos h,Int.min_eq_right (by omega)]
      · rw [if_neg h,Int.min_eq_left (by omega)]
    have e2:A0g (.c (.i .i64 0)) (.c (.i .i64 (min d 5)))=some (.c (.i .i64 (Q8 d:Nat))):=by
      rw [← C4D]
      simp only [A0g]
      by_cases h:(min d 5:Int) > 0
      · rw [if_pos h,Int.max_eq_right (by omega)]
      · rw [if_neg h,Int.max_eq_left (by omega)]
    have e3:A4 (g ++ [some (Row.mk (encI (d :: t)) true)]) (.c (.p g.length 0))=some (.c (.i .i64 d)):=F7 (F4) rfl rfl
    rw [C0e]
    generalize hz:encI (d :: t)=z at *
    exact ⟨_,by simp only [esc,e3,e1,e2] <;> rfl⟩
  obtain ⟨g',e⟩:=key (ro h)
  exact C13 e rfl
theorem C8T {k:Nat} (hk:k ≤ 5):A2 .shl (.c (.i .i64 1)) (.c (.i .u64 (k:Int)))=some (.c (.i .i64 ((2 ^ k:Nat):Int))):=by
  rw [A96 (by omega)]
  have h1:Nat.min (k:Int).toNat (IntKind.i64).bits=k:=by
    have:(IntKind.i64).bits=64:=rfl
    rw [this,Int.toNat_natCast];exact Nat.min_eq_left (by omega)
  have h2:=B7N hk
  rw [h1,Int.one_mul]
  have e:(2:Int) ^ k=((2 ^ k:Nat):Int):=by simp
  rw [e]
  generalize 2 ^ k=y at h2 ⊢
  rw [wrap_i64 (by omega) (by omega)]
theorem B9u {k:Nat} (hk:k ≤ 64):IntKind.wrap .u64 (k:Int)=(k:Int):=wrap_u64 (by omega) (by omega)
theorem B50 {d:Int} {t:List Int} {h:A0} (ht:t.length=32):A1Q [.a (encI (d :: t))] h=some (.c (.i .i64 (I7 d:Nat)),h):=by
  have key:∀ g,∃ g',A6b 0 [.a (encI (d :: t))] g=some (.c (.i .i64 (I7 d:Nat)),g'):=by
    intro g
    have hl:=R0 (d:=d) ht
    have hd:=fun h=>B1b (d:=d) (t:=t) (h:=h)
    have e1:=C8T (A7d d)
    have e2:=B9u (k:=Q8 d) (by have:=A7d d;omega)
    rw [C0h]
    unfold I7
    generalize encI (d :: t)=z at *
    exact ⟨_,by simp only [esc,esh,Nat.reduceAdd,Nat.reduceMul,Nat.reduceLT,hl,hd,e1,e2] <;> rfl⟩
  obtain ⟨g',e⟩:=key (ro h)
  exact C18 e rfl
def A0m (t:List Int) (i:Nat):Bool:=(List.range i).all fun k=>!decide (toX t k=toX t i)
theorem B48 {d:Int} {t:List Int} {g:A0} {i q:Nat} (ht:t.length=32) (hi:i < 32):∀ e k m:Nat,k + e=i → e < m →
    A7C q m (.c (.i .i64 (i:Int))) (.c (.p g.length 0)) (.c (.i .i64 (i:Int))) (.c (.i .i64 (k:Int))) (g ++ [some ⟨encI (d :: t),true⟩]) =
      some (.c (.b ((List.range' k e).all fun k=>!decide (toX t k=toX t i))),g ++ [some ⟨encI (d :: t),true⟩])
  | e,k,0,_,hm=>by omega
  | 0,k,m + 1,hk,hm=>by
    have c0:¬ (k:Int) < i:=by omega
    rw [B5Z]
    simp only [esc,c0,List.range'_zero]
  | e + 1,k,m + 1,hk,hm=>by
    have ih:=B48 (d:=d) (g:=g) (q:=q) ht hi e (k + 1) m (by omega) (by omega)
    have c0:(k:Int) < i:=by omega
    have a1:=adX (id:=g.length) (i:=k) (by omega)
    have a2:=adX (id:=g.length) (i:=i) (by omega)
    have l1:=ldX (h:=g ++ [some (Row.mk (encI (d :: t)) true)]) (id:=g.length) F4 ht (i:=k) (by omega)
    have l2:=ldX (h:=g ++ [some (Row.mk (encI (d :: t)) true)]) (id:=g.length) F4 ht (i:=i) (by omega)
    rw [B5Z,List.range'_succ,List.all_cons]
    by_cases c:toX t k=toX t i
    · rw [decide_eq_true c,Bool.not_true,Bool.false_and]
      rw [c] at l1
      simp only [esc,c0,a1,a2,l1,l2]
    · rw [decide_eq_false c,Bool.not_false,Bool.true_and]
      simp only [esc,c0,a1,a2,l1,l2,c,E2 (show k + 1 < 9223372036854775808 by omega)]
      exact ih
theorem C54 {d:Int} {t:List Int} {i:Nat} {h:A0} (ht:t.length=32) (hi:i < 32):A4h [.a (encI (d :: t)),.c (.i .i64 (i:Int))] h=some (.c (.b (A0m t i)),h):=by
  have key:∀ N,i < N → ∀ g,∃ g',A6a N [.a (encI (d :: t)),.c (.i .i64 (i:Int))] g=some (.c (.b (A0m t i)),g'):=by
    intro N hN g
    have e:=B48 (d:=d) (g:=g) (q:=N) ht hi i 0 N (by omega) hN
    rw [C0g]
    unfold A0m
    rw [List.range_eq_range']
    exact ⟨_,by simp only [esc];exact e⟩
  obtain ⟨g',e⟩:=key (i + 1) (by omega) (ro h)
  exact C16 e rfl
end Go.Proofs.Yteckncopbicmcaa
end
section
namespace Go.Proofs.Yteckncopbicmcaa
open Go Go.Esc
def M5 (d:List Int):List UInt8:=(d.map (B9 2)).flatten
theorem A71 {d:List Int}:(M5 d).length=2 * d.length:=by
  induction d with
  | nil=>rfl
  | cons x d ih=>simp only [M5,List.map_cons,List.flatten_cons,List.length_append,A2i,List.length_cons] at ih ⊢;omega
theorem C65 {d:List Int} {x:Int}:M5 (d ++ [x])=M5 d ++ B9 2 x:=by simp [M5]
def magX:List UInt8:=[105,100,120,33]
def R4 (d:Int):List UInt8:=magX ++ B9 1 d ++ zeros 27
theorem A7y {d:Int}:(R4 d).length=32:=by simp [R4,magX]
def R2 (d:Int) (t:List Int):List UInt8:=C8 256 (R4 d ++ M5 t)
theorem B06 {d:Int} {t:List Int} (ht:t.length=32):(R2 d t).length=256:=J1 (by rw [List.length_append,A7y,A71];omega)
theorem C7A {n k:Nat} {l:List UInt8} (h:l.length + k ≤ n):C8 n (l ++ zeros k)=C8 n l:=by
  unfold C8 zeros
  rw [List.append_assoc,List.replicate_append_replicate,List.length_append,List.length_replicate]
  congr 2;omega
def okX (d:Int) (t:List Int):Bool:=decide (0 ≤ d) && (decide (d ≤ 5) && t.all A2r)
theorem B6l {d:Int} {t:List Int} {g:A0} {y:List Cell} {q:Nat} (ht:t.length=32) (hyl:y.length=33):∀ e i m:Nat,i + e=32 → e < m →
    ∃ h',A7B q m (.c (.p (g.length + 1) 0)) (.c (.p (g.length + 3) 0)) (.a (encI t)) (.c (.i .i64 (i:Int))) (g ++ [some (Row.mk y true),some (Row.mk (A1 (zeros 256)) true),some (Row.mk (A1 magX) true),some (Row.mk (A1 (C8 256 (R4 d ++ M5 (t.take i)))) true)]) =
      some (.t [.a (A1 (bif (t.drop i).all A2r then R2 d t else zeros 256)),.c (.i .i64 (bif (t.drop i).all A2r then 0 else 1))],h')
  | e,i,0,_,hm=>by omega
  | 0,i,m + 1,hi,hm=>by
    have e0:i=32:=by omega
    subst e0
    have c0:¬ ((32:Nat):Int) < 32:=by omega
    have hz:(A1 (zeros 256)).length=256:=by rw [B5];exact zeros_length
    have hB:(A1 (R2 d t)).length=256:=by rw [B5];exact B06 ht
    have eB:C8 256 (R4 d ++ M5 t)=R2 d t:=rfl
    rw [B5W,List.take_of_length_le (by omega),List.drop_of_length_le (by omega),List.all_nil,cond_true,cond_true,eB]
    generalize R2 d t=B at *
    generalize A1 magX=mg at *
    generalize zeros 256=z at *
    exact ⟨_,by simp only [esc,esh,Nat.reduceAdd,Nat.reduceMul,Nat.reduceLT,c0,hz,hB] <;> rfl⟩
  | e + 1,i,m + 1,hi,hm=>by
    obtain ⟨h',ih⟩:=B6l (d:=d) (g:=g) (q:=q) ht hyl e (i + 1) m (by omega) (by omega)
    have c0:(i:Int) < 32:=by omega
    have hz:(A1 (zeros 256)).length=256:=by rw [B5];exact zeros_length
    have haf:A7 (List.replicate 256 (Cell.i .u8 0)) []=some (List.replicate 256 (Cell.i .u8 0)):=rfl
    rw [L7] at haf
    have hx:V0 32 (.a (encI t)) (.c (.i .i64 (i:Int)))=some (.c (.i .i64 t[i])):=by
      rw [A7x (by omega),T4,List.getElem?_eq_getElem (by omega)];rfl
    have hF:=fun h=>C53 (n:=t[i]) (h:=h)
    have hnl:(R4 d ++ M5 (t.take i)).length=32 + 2 * i:=by rw [List.length_append,A7y,A71,List.length_take];omega
    have hP0:(C8 256 (R4 d ++ M5 (t.take i))).length=256:=J1 (by omega)
    have hp:(A1 (C8 256 (R4 d ++ M5 (t.take i)))).length=256:=by rw [B5,hP0]
    have hW:=fun h=>A0q (h:=h) (l:=C8 256 (R4 d ++ M5 (t.take i))) hP0 (a:=((32 + 2 * i:Nat):Int)) (w:=2) (v:=t[i])
    have ew:=A0v (l:=R4 d ++ M5 (t.take i)) (a:=32 + 2 * i) (w:=2) (v:=t[i]) (by omega) (by omega) (by omega) (by omega)
    rw [hnl,Nat.sub_self,show zeros 0=[] from rfl,List.append_nil,List.append_assoc,← C65,← List.take_succ_eq_append_getElem (by omega)] at ew
    rw [show ((2:Nat):Int)=2 from rfl] at ew
    rw [ew] at hW
    have hp2:(A1 (C8 256 (R4 d ++ M5 (t.take (i + 1))))).length=256:=by rw [B5,J1 (by rw [List.length_append,A7y,A71,List.length_take];omega)]
    have w1:IntKind.wrap .i64 (2 * (i:Int))=((2 * i:Nat):Int):=by rw [wrap_i64 (by omega) (by omega)];omega
    have w2:IntKind.wrap .i64 (32 + ((2 * i:Nat):Int))=((32 + 2 * i:Nat):Int):=by rw [wrap_i64 (by omega) (by omega)];omega
    rw [B5W,L7,List.drop_eq_getElem_cons (by omega:i < t.length),List.all_cons]
    generalize C8 256 (R4 d ++ M5 (t.take (i + 1)))=P1 at *
    generalize C8 256 (R4 d ++ M5 (t.take i))=P0 at *
    generalize R2 d t=B at *
    generalize A1 magX=mg at *
    generalize zeros 256=z at *
    cases c:A2r t[i] with
    | false =>
      rw [c] at hF
      rw [Bool.false_and,cond_false,cond_false]
      exact ⟨_,by simp only [esc,esh,Nat.reduceAdd,Nat.reduceMul,Nat.reduceLT,c0,hx,hF,haf,hz] <;> rfl⟩
    | true =>
      rw [c] at hF
      rw [Bool.true_and]
      refine ⟨h',?_⟩
      simp only [esc,esh,Nat.reduceAdd,Nat.reduceMul,Nat.reduceLT,c0,hx,hF,hp,w1,w2,hW,hp2,E2 (show i + 1 < 9223372036854775808 by omega)]
      exact ih
theorem B5V {d:Int} {t:List Int} {h:A0} (ht:t.length=32):A1P [.a (encI (d :: t))] h=some (.t [.a (A1 (bif okX d t then R2 d t else zeros 256)),.c (.i .i64 (bif okX d t then 0 else 1))],h):=by
  have key:∀ N,32 < N → ∀ g,∃ g',A58 N [.a (encI (d :: t))] g=some (.t [.a (A1 (bif okX d t then R2 d t else zeros 256)),.c (.i .i64 (bif okX d t then 0 else 1))],g'):=by
    intro N hN g
    have hB:=R0 (d:=d) ht
    have hz:(A1 (zeros 256)).length=256:=by rw [B5];exact zeros_length
    have hD:=fun h=>B1b (d:=d) (t:=t) (h:=h)
    have l0:(encI (d :: t))[0]? = some (.i .i64 d):=rfl
    have haf:A7 (List.replicate 256 (Cell.i .u8 0)) []=some (List.replicate 256 (Cell.i .u8 0)):=rfl
    rw [L7] at haf
    rw [C0d,L7]
    unfold okX
    by_cases c:0 ≤ d ∧ d ≤ 5
    · rw [decide_eq_true c.1,decide_eq_true c.2,Bool.true_and,Bool.true_and]
      have hd:=C4E c.1 c.2
      rw [hd] at hD
      have ef:A7 [Cell.i .u8 0,.i .u8 0,.i .u8 0,.i .u8 0] [(0,1,.c (.i .u8 105)),(1,1,.c (.i .u8 100)),(2,1,.c (.i .u8 120)),(3,1,.c (.i .u8 33))]=some (A1 magX):=rfl
      have hO:=A78 (data:=magX) (v:=.c (.sl (g.length + 2) 0 4 1)) (nv:=4) (h:=g ++ [some (Row.mk (encI (d :: t)) true),some (Row.mk (A1 (zeros 256)) true),some (Row.mk (A1 magX) true),none]) (Has.row (rw:=true) (by simp) rfl (P7 _)) (by decide)
      rw [A8c (by decide)] at hO
      have hM:U0 (g ++ [some (Row.mk (encI (d :: t)) true),some (Row.mk (A1 (zeros 256)) true),some (Row.mk (A1 magX) true),none]) (.c (.sl (g.length + 2) 0 4 1))=some (.c (.sl (g.length + 2) 0 4 1)):=by simp [U0]
      have hW:=fun h=>A0q (h:=h) (l:=C8 256 magX) (J1 (by decide)) (a:=4) (w:=1) (v:=d)
      have ew:=A0v (l:=magX) (a:=4) (w:=1) (v:=d) (by decide) (by omega) (by omega) (by omega)
      have e5:magX ++ zeros (4 - magX.length) ++ B9 1 d=magX ++ B9 1 d:=rfl
      have e6:C8 256 (magX ++ B9 1 d)=C8 256 (R4 d ++ M5 (t.take 0)):=by
        rw [List.take_zero,show M5 []=[] from rfl,List.append_nil]
        exact (C7A (by simp [magX])).symm
      rw [e5,e6] at ew
      rw [show ((4:Nat):Int)=4 from rfl,show ((1:Nat):Int)=1 from rfl] at ew
      rw [ew] at hW
      have hp2:(A1 (C8 256 (R4 d ++ M5 (t.take 0)))).length=256:=by rw [B5,J1 (by rw [List.length_append,A7y,A71,List.length_take];omega)]
      have e7:A3 (g ++ [some (Row.mk (encI (d :: t)) true),some (Row.mk (A1 (zeros 256)) true),some (Row.mk (A1 magX) true),some (Row.mk (A1 (C8 256 (R4 d ++ M5 (t.take 0)))) true)]) 32 (.c (.p g.length 1))=some (.a (encI t)):=by
        rw [V8]
        simp only [List.getElem?_cons_zero,Option.join_some,ldN,Option.bind_some]
        rw [if_pos ⟨by rw [hB];omega,rfl⟩]
        have:(encI (d :: t)).drop 1=encI t:=rfl
        rw [this,List.take_of_length_le (by rw [G5];omega)]
      obtain ⟨h',e⟩:=B6l (d:=d) (t:=t) (g:=g) (q:=N) ht hB 32 0 N (by omega) hN
      rw [List.drop_zero] at e
      generalize C8 256 (R4 d ++ M5 (t.take 0))=P1 at *
      generalize C8 256 magX=P2 at *
      generalize R2 d t=B at *
      generalize A1 magX=mg at *
      generalize zeros 256=z at *
      generalize encI (d :: t)=y at *
      refine ⟨h',?_⟩
      simp only [esc,esh,Nat.reduceAdd,Nat.reduceMul,Nat.reduceLT,hB,hz,l0,hD,ef,hM,hO,hW,hp2,e7,show g.length + 2 + 1=g.length + 3 from rfl]
      exact e
    · have cd:¬ d=((Q8 d:Nat):Int):=by unfold Q8;omega
      have ec:(decide (0 ≤ d) && (decide (d ≤ 5) && t.all A2r))=false:=by
        by_cases c1:0 ≤ d
        · rw [decide_eq_false (show ¬ d ≤ 5 by omega)];simp
        · rw [decide_eq_false c1];rfl
      rw [ec,cond_false,cond_false]
      generalize zeros 256=z at *
      generalize encI (d :: t)=y at *
      exact ⟨_,by simp only [esc,esh,Nat.reduceAdd,Nat.reduceMul,Nat.reduceLT,hB,hz,l0,hD,cd,haf] <;> rfl⟩
  obtain ⟨g',e⟩:=key (h.length + 33) (by omega) (ro h)
  refine C12 e ?_
  cases okX d t <;> simp
def getD (b:List UInt8):Int:=fieldN b 4 1
def B5b (b:List UInt8) (i:Nat):Int:=fieldN b (32 + 2 * i) 2
def E7 (b:List UInt8) (n:Nat):List Int:=(List.range n).map (B5b b) ++ zI (32 - n)
theorem B02 {b:List UInt8} {n:Nat} (hn:n ≤ 32):(E7 b n).length=32:=by simp [E7,zI];omega
theorem C5K {b:List UInt8} {k:Nat} (hk:k < 32):E7 b (k + 1)=(E7 b k).set k (B5b b k):=by
  unfold E7
  have e:zI (32 - k)=0 :: zI (32 - (k + 1)):=by
    unfold zI
    rw [show 32 - k=(32 - (k + 1)) + 1 by omega,List.replicate_succ]
  rw [e,List.set_append_right _ _ (by simp),List.range_succ,List.map_append,List.append_assoc]
  simp
theorem B3U {b:List UInt8} {a w:Nat} (h:a + w ≤ 256) (hw:1 ≤ w) (hw4:w ≤ 4):((atN b (a:Int) w:Nat):Int)=fieldN b a w:=by
  unfold atN fieldN
  rw [if_pos ⟨by omega,Z7.2 (by omega)⟩]
  simp only [Int.toNat_natCast]
def A1r (t:List Int) (n e:Nat):Bool:=(List.range' n e).all fun i=>decide (toX t i=0)
def W5 (b:List UInt8):Bool:=okX (getD b) (E7 b 32) && (decide (R2 (getD b) (E7 b 32)=b) && A1r (E7 b 32) (I7 (getD b)) (32 - I7 (getD b)))
theorem B5D {b:List UInt8} {d:Int} {t:List Int} {ix iz q:Nat} {h:A0} (ht:t.length=32) (hx:rd h ix=some ⟨encI (d :: t),true⟩) (hz:rd h iz=some ⟨encI (0 :: zI 32),true⟩):∀ e i m:Nat,i + e=32 → e < m →
    ∃ h',A7A q m (.c (.p iz 0)) (.c (.p ix 0)) (.c (.i .i64 (i:Int))) h=some (.t [.a (encI (bif A1r t i e then d :: t else 0 :: zI 32)),.c (.i .i64 (bif A1r t i e then 0 else 14))],h')
  | e,i,0,_,hm=>by omega
  | 0,i,m + 1,hi,hm=>by
    have e0:i=32:=by omega
    subst e0
    have c0:¬ ((32:Nat):Int) < 32:=by omega
    have hX:=R0 (d:=d) ht
    have hZ:(encI (0 :: zI 32)).length=33:=R0 (d:=0) O4
    have s1:=F3 (h:=h) (id:=ix) hx hX
    have s2:=storeAll (h:=h) (id:=iz) (xs:=encI (d :: t)) hz hZ hX
    have s3:=F3 (h:=h.set iz (some ⟨encI (d :: t),true⟩)) (id:=iz) (G1 (B7 hz)) hX
    have er:A1r t 32 0=true:=rfl
    rw [B5S,er,cond_true,cond_true]
    generalize encI (d :: t)=y at *
    exact ⟨_,by simp only [esc,c0,s1,s2,s3] <;> rfl⟩
  | e + 1,i,m + 1,hi,hm=>by
    obtain ⟨h',ih⟩:=B5D (b:=b) (q:=q) ht hx hz e (i + 1) m (by omega) (by omega)
    have c0:(i:Int) < 32:=by omega
    have hZ:(encI (0 :: zI 32)).length=33:=R0 (d:=0) O4
    have a1:=adX (id:=ix) (i:=i) (by omega)
    have l1:=ldX (h:=h) (id:=ix) hx ht (i:=i) (by omega)
    have haf:A7 (encI (0 :: zI 32)) []=some (encI (0 :: zI 32)):=rfl
    have s2:=storeAll (h:=h) (id:=iz) (xs:=encI (0 :: zI 32)) hz hZ hZ
    have s3:=F3 (h:=h.set iz (some ⟨encI (0 :: zI 32),true⟩)) (id:=iz) (G1 (B7 hz)) hZ
    have er:A1r t i (e + 1)=(decide (toX t i=0) && A1r t (i + 1) e):=by unfold A1r;rw [List.range'_succ,List.all_cons]
    rw [B5S,er,A2N]
    by_cases c:toX t i=0
    · rw [decide_eq_true c,Bool.true_and]
      rw [c] at l1
      generalize encI (0 :: zI 32)=z at *
      exact ⟨h',by simp only [esc,c0,a1,l1,E2 (show i + 1 < 9223372036854775808 by omega)];exact ih⟩
    · rw [decide_eq_false c,Bool.false_and,cond_false,cond_false]
      generalize encI (0 :: zI 32)=z at *
      exact ⟨_,by simp only [esc,c0,a1,l1,c,haf,s2,s3] <;> rfl⟩
theorem B5C {b:List UInt8} {g:A0} {q:Nat} (hb:b.length=256) (hq:32 < q):∀ e i m:Nat,i + e=32 → e < m →
    ∃ h',A7z q m (.c (.p g.length 0)) (.c (.p (g.length + 1) 0)) (.c (.p (g.length + 2) 0)) (.c (.i .i64 (i:Int))) (g ++ [some (Row.mk (A1 b) true),some (Row.mk (encI (0 :: zI 32)) true),some (Row.mk (encI (getD b :: E7 b i)) true)]) =
      some (.t [.a (encI (bif W5 b then getD b :: E7 b 32 else 0 :: zI 32)),.c (.i .i64 (bif W5 b then 0 else 14))],h')
  | e,i,0,_,hm=>by omega
  | 0,i,m + 1,hi,hm=>by
    have e0:i=32:=by omega
    subst e0
    have c0:¬ ((32:Nat):Int) < 32:=by omega
    have hB:(A1 b).length=256:=by rw [B5,hb]
    have ht:=B02 (b:=b) (n:=32) (Nat.le_refl _)
    have hX:=R0 (d:=getD b) ht
    have hZ:(encI (0 :: zI 32)).length=33:=R0 (d:=0) O4
    have hz0:(List.replicate 256 (Cell.i .u8 0)).length=256:=List.length_replicate
    have hP:=fun h=>B5V (d:=getD b) (t:=E7 b 32) (h:=h) ht
    have hM:=fun h=>B50 (d:=getD b) (h:=h) ht
    have hm32:=A47 (getD b)
    have haf:A7 (encI (0 :: zI 32)) []=some (encI (0 :: zI 32)):=rfl
    unfold W5
    rw [B5R,A2N]
    cases co:okX (getD b) (E7 b 32) with
    | false =>
      rw [co] at hP
      simp only [cond_false] at hP
      have hzz:(A1 (zeros 256)).length=256:=by rw [B5];exact zeros_length
      rw [Bool.false_and,cond_false,cond_false]
      generalize encI (0 :: zI 32)=z at *
      generalize encI (getD b :: E7 b 32)=y at *
      generalize List.replicate 256 (Cell.i .u8 0)=zz at *
      generalize zeros 256=zzz at *
      exact ⟨_,by simp only [esc,esh,Nat.reduceAdd,Nat.reduceMul,Nat.reduceLT,c0,hX,hP,hz0,hzz,haf,hZ,show decide ((1:Int)=0)=false from rfl] <;> rfl⟩
    | true =>
      rw [co] at hP
      simp only [cond_true] at hP
      rw [Bool.true_and]
      have hil:=B06 (d:=getD b) ht
      have hI:(A1 (R2 (getD b) (E7 b 32))).length=256:=by rw [B5,hil]
      have hE:=A6S (n:=256) hil hb
      by_cases ce:R2 (getD b) (E7 b 32)=b
      · rw [decide_eq_true ce,Bool.true_and]
        rw [decide_eq_true ce] at hE
        obtain ⟨h',e⟩:=B5D (b:=b) (d:=getD b) (t:=E7 b 32) (ix:=g.length + 2) (iz:=g.length + 1) (q:=q) (h:=g ++ [some (Row.mk (A1 b) true),some (Row.mk (encI (0 :: zI 32)) true),some (Row.mk (encI (getD b :: E7 b 32)) true),some (Row.mk (A1 (R2 (getD b) (E7 b 32))) true)]) ht (by simp) (by simp) (32 - I7 (getD b)) (I7 (getD b)) q (by omega) (by omega)
        refine ⟨h',?_⟩
        generalize A1r (E7 b 32) (I7 (getD b)) (32 - I7 (getD b))=R at *
        generalize R2 (getD b) (E7 b 32)=I at *
        generalize getD b :: E7 b 32=Y at *
        generalize encI (0 :: zI 32)=z at *
        generalize List.replicate 256 (Cell.i .u8 0)=zz at *
        simp only [esc,esh,Nat.reduceAdd,Nat.reduceMul,Nat.reduceLT,c0,hX,hP,hz0,hI,hB,hE,hM]
        exact e
      · rw [decide_eq_false ce,Bool.false_and,cond_false,cond_false]
        rw [decide_eq_false ce] at hE
        generalize R2 (getD b) (E7 b 32)=I at *
        generalize encI (0 :: zI 32)=z at *
        generalize encI (getD b :: E7 b 32)=y at *
        generalize List.replicate 256 (Cell.i .u8 0)=zz at *
        exact ⟨_,by simp only [esc,esh,Nat.reduceAdd,Nat.reduceMul,Nat.reduceLT,c0,hX,hP,hz0,hI,hB,hE,haf,hZ] <;> rfl⟩
  | e + 1,i,m + 1,hi,hm=>by
    obtain ⟨h',ih⟩:=B5C (g:=g) (q:=q) hb hq e (i + 1) m (by omega) (by omega)
    have c0:(i:Int) < 32:=by omega
    have hB:(A1 b).length=256:=by rw [B5,hb]
    have ht:=B02 (b:=b) (n:=i) (by omega)
    have hX:=R0 (d:=getD b) ht
    have hA:=fun h=>A0S (h:=h) hb (a:=((32 + 2 * i:Nat):Int)) (w:=2)
    have ea:=B3U (b:=b) (a:=32 + 2 * i) (w:=2) (by omega) (by omega) (by omega)
    rw [show ((2:Nat):Int)=2 from rfl] at ea
    rw [ea] at hA
    have w1:IntKind.wrap .i64 (2 * (i:Int))=((2 * i:Nat):Int):=by rw [wrap_i64 (by omega) (by omega)];omega
    have w2:IntKind.wrap .i64 (32 + ((2 * i:Nat):Int))=((32 + 2 * i:Nat):Int):=by rw [wrap_i64 (by omega) (by omega)];omega
    have a1:=adX (id:=g.length + 2) (i:=i) (by omega)
    have hs:(encI (getD b :: E7 b i)).set (1 + i) (.i .i64 (fieldN b (32 + 2 * i) 2))=encI (getD b :: E7 b (i + 1)):=by rw [C48,C5K (by omega)];rfl
    have hlt:1 + i < (encI (getD b :: E7 b i)).length:=by rw [hX];omega
    rw [B5R]
    generalize W5 b=G at *
    generalize getD b :: E7 b 32=Y at *
    generalize encI (getD b :: E7 b (i + 1))=y1 at *
    generalize encI (getD b :: E7 b i)=y at *
    generalize encI (0 :: zI 32)=z at *
    refine ⟨h',?_⟩
    simp only [esc,esh,Nat.reduceAdd,Nat.reduceMul,Nat.reduceLT,c0,hB,w1,w2,hA,a1,hlt,hs,E2 (show i + 1 < 9223372036854775808 by omega)]
    exact ih
theorem C5V {b:List UInt8} {h:A0} (hb:b.length=256):A4e [.a (A1 b)] h=some (.t [.a (encI (bif W5 b then getD b :: E7 b 32 else 0 :: zI 32)),.c (.i .i64 (bif W5 b then 0 else 14))],h):=by
  have key:∀ N,32 < N → ∀ g,∃ g',A56 N [.a (A1 b)] g=some (.t [.a (encI (bif W5 b then getD b :: E7 b 32 else 0 :: zI 32)),.c (.i .i64 (bif W5 b then 0 else 14))],g'):=by
    intro N hN g
    have hB:(A1 b).length=256:=by rw [B5,hb]
    have hZ:(encI (0 :: zI 32)).length=33:=R0 (d:=0) O4
    have hA:=fun h=>A0S (h:=h) hb (a:=4) (w:=1)
    have ea:=B3U (b:=b) (a:=4) (w:=1) (by omega) (by omega) (by omega)
    rw [show ((4:Nat):Int)=4 from rfl,show ((1:Nat):Int)=1 from rfl] at ea
    rw [ea] at hA
    have ef:A7 (encI (0 :: zI 32)) [(0,1,.c (.i .i64 (fieldN b 4 1)))]=some (encI (getD b :: E7 b 0)):=by
      have e1:(0 + 1 ≤ (encI (0 :: zI 32)).length):=by rw [hZ];omega
      simp only [A7,cells?]
      rw [if_pos ⟨rfl,e1⟩]
      rfl
    have hX:=R0 (d:=getD b) (B02 (b:=b) (n:=0) (by omega))
    obtain ⟨h',e⟩:=B5C (g:=g) (q:=N) hb hN 32 0 N (by omega) hN
    rw [C0b,A2N]
    generalize W5 b=G at *
    generalize getD b :: E7 b 32=Y at *
    generalize encI (getD b :: E7 b 0)=y at *
    generalize encI (0 :: zI 32)=z at *
    exact ⟨h',by simp only [esc,esh,Nat.reduceAdd,Nat.reduceMul,Nat.reduceLT,hB,hZ,hA,ef,hX];exact e⟩
  obtain ⟨g',e⟩:=key (h.length + 33) (by omega) (ro h)
  refine C1Y e ?_
  cases W5 b <;> simp
end Go.Proofs.Yteckncopbicmcaa
end
section
namespace Go.Proofs.Yteckncopbicmcaa
open Go Go.Esc
def W2 (t:List Int) (i:Nat):Bool:=!decide (toX t i=0) && A0m t i
def G0 (t:List Int) (k:Nat):List Int:=((List.range k).filter (W2 t)).map (toX t)
theorem A61 {t:List Int} {k:Nat}:G0 t (k + 1)=G0 t k ++ (if W2 t k=true then [toX t k] else []):=by
  unfold G0
  rw [List.range_succ,List.filter_append,List.map_append,List.filter_cons]
  by_cases c:W2 t k=true <;> simp [c]
theorem B0n (t:List Int) (k:Nat):(G0 t k).length ≤ k:=by
  unfold G0;rw [List.length_map];exact Nat.le_trans (List.length_filter_le _ _) (by simp)
theorem B0r {d:Int} {t:List Int} {g:A0} {n q:Nat} (ht:t.length=32) (hn:n ≤ 32):∀ (e i m:Nat) (h:A0) (id:Nat),i + e=n → e < m → Low (g ++ [some (Row.mk (encI (d :: t)) true)]).length (g ++ [some (Row.mk (encI (d :: t)) true)]) h → (g ++ [some (Row.mk (encI (d :: t)) true)]).length ≤ id → rd h id=some ⟨encI (G0 t i),true⟩ →
    ∃ v h',A4Z q m (.c (.p g.length 0)) (.c (.sl id 0 (G0 t i).length 1)) (.c (.i .i64 (n:Int))) (.c (.i .i64 (i:Int))) h=some (v,h') ∧ Out g.length h' v 1 (G0 t n).length (encI (G0 t n))
  | e,i,0,h,id,_,hm,_,_,_=>by omega
  | 0,i,m + 1,h,id,hi,hm,hlow,hid,hr=>by
    have e0:i=n:=by omega
    subst e0
    have c0:¬ (i:Int) < i:=by omega
    rw [List.length_append] at hid
    rw [B5M]
    exact ⟨_,_,by simp only [esc,c0] <;> rfl,by rw [G5];omega,_,rfl,by omega,hr⟩
  | e + 1,i,m + 1,h,id,hi,hm,hlow,hid,hr=>by
    have c0:(i:Int) < n:=by omega
    have hB:=R0 (d:=d) ht
    have hrd:rd h g.length=some ⟨encI (d :: t),true⟩:=hlow.rd (by simp)
    have s1:=F3 (h:=h) (id:=g.length) (cs:=encI (d :: t)) hrd hB
    have a1:=adX (id:=g.length) (i:=i) (by omega)
    have l1:=ldX (h:=h) (id:=g.length) hrd ht (i:=i) (by omega)
    have hFs:=fun h=>C54 (d:=d) (t:=t) (i:=i) (h:=h) ht (by omega)
    have w1:=E2 (show i + 1 < 9223372036854775808 by omega)
    have hul:=B0n t i
    rw [B5M]
    have skip:W2 t i=false → ∃ v h',A4Z q m (.c (.p g.length 0)) (.c (.sl id 0 (G0 t i).length 1)) (.c (.i .i64 (n:Int))) (.c (.i .i64 ((i + 1:Nat):Int))) h=some (v,h') ∧ Out g.length h' v 1 (G0 t n).length (encI (G0 t n)):=by
      intro c
      have hu:G0 t (i + 1)=G0 t i:=by rw [A61,c];simp
      have:=B0r (q:=q) ht hn e (i + 1) m h id (by omega) (by omega) hlow hid (by rw [hu];exact hr)
      rw [hu] at this;exact this
    by_cases cz:toX t i=0
    · obtain ⟨v,h',f1,f2⟩:=skip (by unfold W2;rw [decide_eq_true cz];rfl)
      rw [cz] at l1
      refine ⟨v,h',?_,f2⟩
      generalize encI (d :: t)=z at *
      simp only [esc,c0,a1,l1,B09,w1]
      exact f1
    · cases cs:A0m t i with
      | false =>
        obtain ⟨v,h',f1,f2⟩:=skip (by unfold W2;rw [cs,Bool.and_false])
        rw [cs] at hFs
        refine ⟨v,h',?_,f2⟩
        generalize encI (d :: t)=z at *
        simp only [esc,c0,a1,l1,cz,s1,hFs,B09,w1]
        exact f1
      | true =>
        rw [cs] at hFs
        have cb:W2 t i=true:=by unfold W2;rw [cs,decide_eq_false cz];rfl
        have hu:G0 t (i + 1)=G0 t i ++ [toX t i]:=by rw [A61,if_pos cb]
        obtain ⟨h1,b1,b2,b3,b4,b5⟩:=push (ys:=[.i .i64 (toX t i)]) (sz:=1) (n:=(G0 t i).length) hlow hr (by rw [G5];omega) hid rfl (by omega) (by omega)
        have he:encI (G0 t i) ++ [.i .i64 (toX t i)]=encI (G0 t (i + 1)):=by rw [hu];simp [encI]
        rw [he] at b2
        obtain ⟨v,h',f1,f2⟩:=B0r (q:=q) ht hn e (i + 1) m h1 (h.length + 1) (by omega) (by omega) b3 b4 b2
        have hl1:(G0 t (i + 1)).length=(G0 t i).length + 1:=by rw [hu];simp
        rw [hl1] at f1
        have ef:A7 [Cell.i .i64 0] [(0,1,.c (.i .i64 (toX t i)))]=some [.i .i64 (toX t i)]:=rfl
        refine ⟨v,h',?_,f2⟩
        generalize encI (d :: t)=z at *
        simp only [esc,c0,a1,l1,cz,s1,hFs,ef,b1,B09,w1]
        exact f1
theorem C5S {d:Int} {t:List Int} {h:A0} (ht:t.length=32):A4d [.a (encI (d :: t))] h=some (.c (.sl h.length 0 (G0 t (I7 d)).length 1),h ++ [some ⟨encI (G0 t (I7 d)),true⟩]):=by
  have key:∀ N,32 < N → ∀ g,∃ v g',A55 N [.a (encI (d :: t))] g=some (v,g') ∧ Out g.length g' v 1 (G0 t (I7 d)).length (encI (G0 t (I7 d))):=by
    intro N hN g
    have hB:=R0 (d:=d) ht
    have hM:=fun h=>B50 (d:=d) (h:=h) ht
    have hm:=A47 d
    obtain ⟨v,g',f1,f2⟩:=B0r (g:=g) (d:=d) (q:=N) ht hm (I7 d) 0 N (g ++ [some (Row.mk (encI (d :: t)) true),some (Row.mk [] true),some (Row.mk [] true)]) (g.length + 2) (by omega) (by omega)
      (by have:=(Low.refl (h:=g ++ [some (Row.mk (encI (d :: t)) true)]) (Nat.le_refl _)).new [some ⟨[],true⟩,some ⟨[],true⟩]
          simpa using this) (by simp) (by simp [G0,encI])
    rw [show G0 t 0=[] from rfl] at f1
    rw [C0a]
    refine ⟨v,g',?_,f2⟩
    generalize encI (d :: t)=z at *
    simp only [esc,esh,Nat.reduceAdd,Nat.reduceMul,Nat.reduceLT,hB,hM] at f1 ⊢
    exact f1
  obtain ⟨v,g',e,ho⟩:=key (h.length + 33) (by omega) (ro h)
  exact C1X e (by simpa [N4] using ho) (by simp)
def A46 (h:Nat) (b:Int):Nat:=if b < 1 then 0 else if 32 ≤ b then h else h % 2 ^ b.toNat
theorem C6O {x:Nat} {b:Int} {h:A0} (hx:x < 4294967296):A4l [.c (.i .u32 (x:Int)),.c (.i .i64 b)] h=some (.c (.i .i64 (A46 x b:Nat)),h):=by
  have key:∀ g,∃ g',A6h 0 [.c (.i .u32 (x:Int)),.c (.i .i64 b)] g=some (.c (.i .i64 (A46 x b:Nat)),g'):=by
    intro g
    rw [C0o]
    unfold A46
    by_cases c1:b < 1
    · rw [if_pos c1]
      exact ⟨_,by simp only [esc,c1] <;> rfl⟩
    · rw [if_neg c1]
      have w1:IntKind.wrap .i64 (x:Int)=(x:Int):=wrap_i64 (by omega) (by omega)
      by_cases c2:32 ≤ b
      · rw [if_pos c2]
        exact ⟨_,by simp only [esc,c1,c2,w1] <;> rfl⟩
      · rw [if_neg c2]
        obtain ⟨k,rfl⟩:∃ k:Nat,b=k:=⟨b.toNat,by omega⟩
        have hk:k < 32:=by omega
        rw [Int.toNat_natCast]
        have w2:=B9u (k:=k) (by omega)
        have hp:2 ^ k ≤ 2 ^ 31:=Nat.pow_le_pow_right (by omega) (by omega)
        have hp0:0 < 2 ^ k:=Nat.pow_pos (by omega)
        have e1:A2 .shl (.c (.i .u32 1)) (.c (.i .u64 (k:Int)))=some (.c (.i .u32 ((2 ^ k:Nat):Int))):=by
          rw [A96 (by omega)]
          have h1:Nat.min (k:Int).toNat (IntKind.u32).bits=k:=by
            have:(IntKind.u32).bits=32:=rfl
            rw [this,Int.toNat_natCast];exact Nat.min_eq_left (by omega)
          rw [h1,Int.one_mul]
          have e:(2:Int) ^ k=((2 ^ k:Nat):Int):=by simp
          rw [e]
          generalize 2 ^ k=y at hp hp0 ⊢
          rw [wrap_u32 (by omega) (by omega)]
        have w3:IntKind.wrap .u32 (((2 ^ k:Nat):Int) - 1)=((2 ^ k - 1:Nat):Int):=by rw [wrap_u32 (by omega) (by omega)];omega
        have e2:=C3L (a:=x) (b:=2 ^ k - 1) hx (by omega)
        rw [Nat.and_two_pow_sub_one_eq_mod] at e2
        have hm:x % 2 ^ k < 2 ^ k:=Nat.mod_lt _ hp0
        have w4:IntKind.wrap .i64 ((x % 2 ^ k:Nat):Int)=((x % 2 ^ k:Nat):Int):=wrap_i64 (by omega) (by omega)
        generalize 2 ^ k - 1=y at *
        generalize x % 2 ^ k=z at *
        exact ⟨_,by simp only [esc,c1,c2,w2,e1,w3,e2,w4] <;> rfl⟩
  obtain ⟨g',e⟩:=key (ro h)
  exact C2j e rfl
theorem C50 {d:Int} {t:List Int} {x:Nat} {h:A0} (ht:t.length=32) (hx:x < 4294967296):A4f [.a (encI (d :: t)),.c (.i .u32 (x:Int))] h=some (.c (.i .i64 (x % I7 d:Nat)),h):=by
  have key:∀ g,∃ g',A57 0 [.a (encI (d :: t)),.c (.i .u32 (x:Int))] g=some (.c (.i .i64 (x % I7 d:Nat)),g'):=by
    intro g
    have hB:=R0 (d:=d) ht
    have hD:=fun h=>B1b (d:=d) (t:=t) (h:=h)
    have hL:=fun h=>C6O (x:=x) (b:=(Q8 d:Nat)) (h:=h) hx
    have e:A46 x (Q8 d:Nat)=x % I7 d:=by
      unfold A46 I7
      have:=A7d d
      rw [Int.toNat_natCast]
      by_cases c:((Q8 d:Nat):Int) < 1
      · have:Q8 d=0:=by omega
        rw [if_pos c,this];simp [Nat.mod_one]
      · rw [if_neg c,if_neg (by omega)]
    rw [e] at hL
    rw [C0c]
    generalize encI (d :: t)=y at *
    exact ⟨_,by simp only [esc,esh,Nat.reduceAdd,Nat.reduceMul,Nat.reduceLT,hB,hD,hL] <;> rfl⟩
  obtain ⟨g',e⟩:=key (ro h)
  exact C10 e rfl
end Go.Proofs.Yteckncopbicmcaa
end
section
namespace Go.Proofs.Yteckncopbicmcaa
open Go Go.Esc
def S7 (D:Dev) (n k:Int) (d:List Int):Bool:=decide (k=2) && O9 D.length n (d.getD 0 0) && W5 (blk D (d.getD 0 0))
def R3 (D:Dev) (n k:Int) (d:List Int):List Int:=bif S7 D n k d then getD (blk D (d.getD 0 0)) :: E7 (blk D (d.getD 0 0)) 32 else 0 :: zI 32
theorem B03 (b:List UInt8):(E7 b 32).length=32:=by simp [E7,zI]
theorem B5H (D:Dev) (n k:Int) (d:List Int):∃ x t,R3 D n k d=x :: t ∧ t.length=32:=by
  unfold R3
  cases S7 D n k d with
  | false=>exact ⟨_,_,rfl,O4⟩
  | true=>exact ⟨_,_,rfl,B03 _⟩
theorem B5I (D:Dev) (n k:Int) (d:List Int):(encI (R3 D n k d)).length=33:=by
  obtain ⟨x,t,e,h⟩:=B5H D n k d
  rw [e,G5];simp [h]
theorem B5h {D:Dev} {n m k l s p:Int} {d:List Int} {f:Cell} {h:A0} (hD:okD D) (hd:d.length=7) (hv:IsView h f D) :
    A1N [.a (vwC D.length n m f),.a (A5 k l s p d)] h=some (.t [.a (encI (R3 D n k d)),.c (.b (S7 D n k d))],h):=by
  have key:∀ g,IsView g f D → ∃ g',A5U 0 [.a (vwC D.length n m f),.a (A5 k l s p d)] g=some (.t [.a (encI (R3 D n k d)),.c (.b (S7 D n k d))],g'):=by
    intro g hv
    have l3:=A3p (b:=D.length) (n:=n) (m:=m) (f:=f)
    have l4:=A2K (b:=D.length) (n:=n) (m:=m) (f:=f)
    have i0:(A5 k l s p d)[0]? = some (.i .i64 k):=rfl
    have i4:(A5 k l s p d)[4]? = some (.i .i64 (d.getD 0 0)):=by
      have:(A5 k l s p d)[4]? = (encI d)[0]? := rfl
      rw [this,T4,List.getElem?_eq_getElem (by omega),List.getD_eq_getElem?_getD,List.getElem?_eq_getElem (by omega)];rfl
    have ad:∀ q,D6 6 1 (.c (.p q 4)) (.c (.i .i64 0))=some (.c (.p q 4)):=fun q=>rfl
    have hz:(encI (0 :: zI 32)).length=33:=R0 (d:=0) O4
    have ef:A7 (encI (0 :: zI 32)) []=some (encI (0 :: zI 32)):=rfl
    have n12:¬ (14:Int)=0:=by decide
    rw [B9Y,A2N]
    unfold R3 S7
    by_cases c1:k=2
    · have hI:=fun h=>A4U (b:=D.length) (n:=n) (m:=m) (i:=d.getD 0 0) (h:=h)
      cases c2:O9 D.length n (d.getD 0 0) with
      | false =>
        simp only [c2] at hI
        simp only [Bool.and_false,Bool.false_and,cond_false]
        generalize vwC D.length n m f=V at *
        generalize A5 k l s p d=I at *
        generalize encI (0 :: zI 32)=z at *
        exact ⟨_,by simp only [esc,esh,Nat.reduceAdd,Nat.reduceMul,Nat.reduceLT,eq_self,i0,c1,l3,ad,i4,hI,hz,ef] <;> rfl⟩
      | true =>
        simp only [c2] at hI
        have hB:=A3o (n:=n) (m:=m) (no:=d.getD 0 0) (h:=g ++ [some (Row.mk (vwC D.length n m f) true),some (Row.mk (A5 k l s p d) true),some (Row.mk (encI (0 :: zI 32)) true)]) hD (hv.more _)
        have hG:=fun h=>C5V (h:=h) (A0L hD (i:=d.getD 0 0))
        have hX:(encI (getD (blk D (d.getD 0 0)) :: E7 (blk D (d.getD 0 0)) 32)).length=33:=R0 (B03 _)
        rw [decide_eq_true c1,Bool.true_and,Bool.true_and]
        cases c3:W5 (blk D (d.getD 0 0)) with
        | false =>
          simp only [c3,cond_false] at hG
          rw [cond_false]
          generalize encI (getD (blk D (d.getD 0 0)) :: E7 (blk D (d.getD 0 0)) 32)=x at *
          generalize A1 (blk D (d.getD 0 0))=y at *
          generalize vwC D.length n m f=V at *
          generalize A5 k l s p d=I at *
          generalize encI (0 :: zI 32)=z at *
          exact ⟨_,by simp only [esc,esh,Nat.reduceAdd,Nat.reduceMul,Nat.reduceLT,eq_self,i0,c1,l3,l4,ad,i4,hI,hB,hG,hz,hX,ef,n12] <;> rfl⟩
        | true =>
          simp only [c3,cond_true] at hG
          rw [cond_true]
          generalize encI (getD (blk D (d.getD 0 0)) :: E7 (blk D (d.getD 0 0)) 32)=x at *
          generalize A1 (blk D (d.getD 0 0))=y at *
          generalize vwC D.length n m f=V at *
          generalize A5 k l s p d=I at *
          generalize encI (0 :: zI 32)=z at *
          exact ⟨_,by simp only [esc,esh,Nat.reduceAdd,Nat.reduceMul,Nat.reduceLT,eq_self,i0,c1,l3,l4,ad,i4,hI,hB,hG,hz,hX,ef,n12] <;> rfl⟩
    · rw [decide_eq_false c1,Bool.false_and,Bool.false_and,cond_false]
      generalize vwC D.length n m f=V at *
      generalize A5 k l s p d=I at *
      generalize encI (0 :: zI 32)=z at *
      exact ⟨_,by simp only [esc,esh,Nat.reduceAdd,Nat.reduceMul,Nat.reduceLT,eq_self,i0,c1,hz,ef] <;> rfl⟩
  obtain ⟨g',e⟩:=key (ro h) hv.ro
  exact C1D e (by simp [Val.flat,Cell.flat])
def I9 (D:Dev) (n k:Int) (d:List Int):List Int:=bif S7 D n k d then (G0 (E7 (blk D (d.getD 0 0)) 32) (I7 (getD (blk D (d.getD 0 0))))).filter (O9 D.length n) else []
theorem B0s {D:Dev} {n m:Int} {f:Cell} {g:A0} {p q sid:Nat} {L:List Int} (h1:rd g p=some ⟨vwC D.length n m f,true⟩) (hL:L.length ≤ 32):∀ (e i M id:Nat) (h:A0) (l:List Int),i + e=L.length → e < M → l.length ≤ i → Low g.length g h → g.length ≤ id → id ≠ sid → rd h sid=some ⟨encI L,true⟩ → rd h id=some ⟨encI l,true⟩ →
    ∃ v' h',A7s q M (.c (.p p 0)) (.c (.sl id 0 l.length 1)) (.c (.sl sid 0 L.length 1)) (.c (.i .i64 (L.length:Int))) (.c (.i .i64 (i:Int))) h=some (v',h') ∧ Out g.length h' v' 1 (l ++ (L.drop i).filter (O9 D.length n)).length (encI (l ++ (L.drop i).filter (O9 D.length n)))
  | e,i,0,id,h,l,_,hm,_,_,_,_,_,_=>by omega
  | 0,i,M + 1,id,h,l,hi,hm,hl,hlow,hid,hne,hs,hr=>by
    have e0:i=L.length:=by omega
    subst e0
    have c0:¬ ((L.length:Nat):Int) < (L.length:Nat):=by omega
    rw [B5g,List.drop_of_length_le (Nat.le_refl _),List.filter_nil,List.append_nil]
    exact ⟨_,_,by simp only [esc,c0] <;> rfl,by rw [G5,Nat.mul_one],id,rfl,hid,hr⟩
  | e + 1,i,M + 1,id,h,l,hi,hm,hl,hlow,hid,hne,hs,hr=>by
    have hil:i < L.length:=by omega
    have c0:(i:Int) < (L.length:Nat):=by omega
    have ad:B8 1 (.c (.sl sid 0 L.length 1)) (.c (.i .i64 (i:Int)))=some (.c (.p sid i)):=by rw [I1 hil];simp
    have l1:A4 h (.c (.p sid i))=some (.c (.i .i64 L[i])):=F7 hs (by rw [T4,List.getElem?_eq_getElem hil];rfl) rfl
    have fa:B3 (.c (.p p 0)) 0=some (.c (.p p 0)):=rfl
    have l3:A3 h 3 (.c (.p p 0))=some (.a (F5 D.length n m)):=by rw [A3b (hlow.rd h1) (by simp [vwC]) rfl];rfl
    have hI:=A4U (b:=D.length) (n:=n) (m:=m) (i:=L[i]) (h:=h)
    have w1:=E2 (show i + 1 < 9223372036854775808 by omega)
    rw [B5g,List.drop_eq_getElem_cons hil]
    cases c:O9 D.length n L[i] with
    | false =>
      rw [c] at hI
      obtain ⟨v',h',f1,f2⟩:=B0s (q:=q) h1 hL e (i + 1) M id h l (by omega) (by omega) (by omega) hlow hid hne hs hr
      rw [List.filter_cons_of_neg (by rw [c];simp)]
      refine ⟨v',h',?_,f2⟩
      simp only [D3,E8,c0,decide_true,H0,ad,l1,fa,l3,hI,G8,B5f,J2,w1]
      exact f1
    | true =>
      rw [c] at hI
      have ef:A7 [Cell.i .i64 0] [(0,1,.c (.i .i64 L[i]))]=some (encI [L[i]]):=rfl
      obtain ⟨h2,a1,a2,a3,a4⟩:=A8j (n:=l.length) (sz:=1) (ys:=encI [L[i]]) hr (by rw [G5,Nat.mul_one]) rfl (by omega) (by omega)
      rw [← A7k] at a2
      have el:(l ++ [L[i]]).length=l.length + 1:=by simp
      have hlt:=B7 hs
      obtain ⟨v',h',f1,f2⟩:=B0s (q:=q) h1 hL e (i + 1) M (h.length + 1) h2 (l ++ [L[i]]) (by omega) (by omega) (by rw [el];omega) (hlow.trans (a4 _ hid (by have:=hlow.2.1;omega))) (by have:=hlow.2.1;omega) (by omega) (a3 _ _ (Ne.symm hne) hs) a2
      rw [List.filter_cons_of_pos (by rw [c])]
      rw [List.append_assoc,List.singleton_append] at f2
      rw [el] at f1
      refine ⟨v',h',?_,f2⟩
      simp only [D3,E8,c0,decide_true,H0,ad,l1,fa,l3,hI,ef,a1,B5f,J2,w1]
      exact f1
theorem C5w {D:Dev} {n m k l s p:Int} {d:List Int} {f:Cell} {h:A0} (hD:okD D) (hd:d.length=7) (hv:IsView h f D) :
    A35 [.a (vwC D.length n m f),.a (A5 k l s p d)] h=some (.c (.sl h.length 0 (I9 D n k d).length 1),h ++ [some ⟨encI (I9 D n k d),true⟩]):=by
  have key:∀ g,IsView g f D → ∃ v g',A5T 33 [.a (vwC D.length n m f),.a (A5 k l s p d)] g=some (v,g') ∧ Out g.length g' v 1 (I9 D n k d).length (encI (I9 D n k d)):=by
    intro g hv
    have hIl:(A5 k l s p d).length=11:=by simp [A5,G5,hd]
    have l11:ldN (some (Row.mk (A5 k l s p d) true)) 0 11=some (.a (A5 k l s p d)):=P4 hIl
    have l4:=A2K (b:=D.length) (n:=n) (m:=m) (f:=f)
    have hz:(encI (0 :: zI 32)).length=33:=R0 (d:=0) O4
    have hX:=B5I D n k d
    have hI:=B5h (n:=n) (m:=m) (k:=k) (l:=l) (s:=s) (p:=p) (h:=g ++ [some (Row.mk (vwC D.length n m f) true),some (Row.mk (A5 k l s p d) true),some (Row.mk [] true)]) hD hd (hv.more _)
    rw [B9X,A2N]
    cases c:S7 D n k d with
    | false =>
      rw [c] at hI
      have eb:I9 D n k d=[]:=by unfold I9;rw [c];rfl
      rw [eb]
      generalize encI (R3 D n k d)=x at *
      generalize encI (0 :: zI 32)=z at *
      refine ⟨.c (.sl (g.length + 4) 0 0 1),g ++ [some (Row.mk (vwC D.length n m f) true),some (Row.mk (A5 k l s p d) true),some (Row.mk [] true),some (Row.mk x true),some (Row.mk [] true)],?_,rfl,g.length + 4,rfl,by omega,by simp [encI]⟩
      generalize vwC D.length n m f=V at *
      generalize A5 k l s p d=I at *
      simp only [esc,esh,Nat.reduceAdd,Nat.reduceMul,Nat.reduceLT,l4,l11,hI,hz,hX]
    | true =>
      rw [c] at hI
      have eb:I9 D n k d=(G0 (E7 (blk D (d.getD 0 0)) 32) (I7 (getD (blk D (d.getD 0 0))))).filter (O9 D.length n):=by unfold I9;rw [c];rfl
      have ex:R3 D n k d=getD (blk D (d.getD 0 0)) :: E7 (blk D (d.getD 0 0)) 32:=by unfold R3;rw [c];rfl
      rw [ex] at hI hX
      have hB:=fun h=>C5S (d:=getD (blk D (d.getD 0 0))) (h:=h) (B03 (blk D (d.getD 0 0)))
      have hBl:=B0n (E7 (blk D (d.getD 0 0)) 32) (I7 (getD (blk D (d.getD 0 0))))
      have hml:=A47 (getD (blk D (d.getD 0 0)))
      rw [eb]
      generalize G0 (E7 (blk D (d.getD 0 0)) 32) (I7 (getD (blk D (d.getD 0 0))))=L at *
      generalize encI (getD (blk D (d.getD 0 0)) :: E7 (blk D (d.getD 0 0)) 32)=x at *
      generalize encI (0 :: zI 32)=z at *
      obtain ⟨v',h',f1,f2⟩:=B0s (D:=D) (n:=n) (m:=m) (f:=f) (g:=g ++ [some (Row.mk (vwC D.length n m f) true),some (Row.mk (A5 k l s p d) true),some (Row.mk [] true),some (Row.mk x true)]) (p:=g.length) (q:=33) (sid:=g.length + 5) (L:=L) (by simp) (by omega) L.length 0 33 (g.length + 4) (g ++ [some (Row.mk (vwC D.length n m f) true),some (Row.mk (A5 k l s p d) true),some (Row.mk [] true),some (Row.mk x true),some (Row.mk [] true),some (Row.mk (encI L) true)]) [] (by omega) (by omega) (by simp)
        (by
          have:=(Low.refl (h:=g ++ [some (Row.mk (vwC D.length n m f) true),some (Row.mk (A5 k l s p d) true),some (Row.mk [] true),some (Row.mk x true)]) (Nat.le_refl _)).new [some (Row.mk [] true),some (Row.mk (encI L) true)]
          simpa using this) (by simp) (by omega) (by simp) (by simp [encI])
      rw [List.nil_append,List.drop_zero] at f2
      rw [List.length_nil] at f1
      refine ⟨v',h',?_,f2.1,?_⟩
      · generalize vwC D.length n m f=V at *
        generalize A5 k l s p d=I at *
        simp only [esc,esh,Nat.reduceAdd,Nat.reduceMul,Nat.reduceLT,l4,l11,hI,hz,hX,hB]
        exact f1
      · obtain ⟨id,e,hb,hr⟩:=f2.2
        exact ⟨id,e,by simp at hb;omega,hr⟩
  obtain ⟨v,g',e,ho⟩:=key (ro h) hv.ro
  exact C1C e (by simpa [N4] using ho) (by simp)
end Go.Proofs.Yteckncopbicmcaa
end
noncomputable section
namespace Go.Proofs.Yteckncopbicmcaa
open Go Go.Esc
set_option maxRecDepth 100000
def B6O:ACode:=.seq [0,21,22,23] (.ops [aO 23 (.bin .lss (.t 22) (.t 21))]) (.seq [0,21,22] (.cond (.t 23) .skip (.exit 0)) (.seq [0,21,22] (.block 1 (.seq [0,3,21,22] (.ops [aO 24 (.mv (.t 22)),aO 3 (.mv (.t 24))]) (.seq [0,21,22,34] (.ops [aO 25 (.mv (.t 0)),aO 26 (.mv (.t 3)),aO 27 (.idxS (.t 25) (.t 26)),aO 28 (.bin .eql (.t 27) (.v (.c (.i .u8 0)))),aO 29 (.mv (.t 28)),aG 30 29 false (.mv (.t 0)),aG 31 29 false (.mv (.t 3)),aG 32 29 false (.idxS (.t 30) (.t 31)),aG 33 29 false (.bin .eql (.t 32) (.v (.c (.i .u8 47)))),aO 34 (.pick (.t 29) (.v (.c (.b true))) (.t 33))]) (.cond (.t 34) (.seq [2] (.ops [aO 2 (.mv (.v (.c (.i .i64 3))))]) .ret) .skip)))) (.ops [aO 35 (.bin .add (.t 22) (.v (.c (.i .i64 1)))),aO 22 (.mv (.t 35))])))
def B6P:ACode:=.seq [2] (.ops [aO 2 (.mv (.v (.c (.i .i64 0))))]) .ret
def A_name_Check:AFn:=⟨.seq [0] (.ops [aO 2 (.mv (.v (.c (.i .i64 0))))]) (.seq [0] (.seq [0,19] (.ops [aO 4 (.mv (.t 0)),aO 5 (.lenS (.t 4)),aO 6 (.bin .lss (.t 5) (.v (.c (.i .i64 1)))),aO 7 (.mv (.t 6)),aG 8 7 false (.mv (.t 0)),aG 9 7 false (.lenS (.t 8)),aG 10 7 false (.bin .gtr (.t 9) (.v (.c (.i .i64 24)))),aO 11 (.pick (.t 7) (.v (.c (.b true))) (.t 10)),aO 12 (.mv (.t 11)),aG 13 12 false (.mv (.t 0)),aG 14 12 false (.bin .eql (.t 13) (.v (.c (.s [46])))),aO 15 (.pick (.t 12) (.v (.c (.b true))) (.t 14)),aO 16 (.mv (.t 15)),aG 17 16 false (.mv (.t 0)),aG 18 16 false (.bin .eql (.t 17) (.v (.c (.s [46,46])))),aO 19 (.pick (.t 16) (.v (.c (.b true))) (.t 18))]) (.cond (.t 19) (.seq [2] (.ops [aO 2 (.mv (.v (.c (.i .i64 3))))]) .ret) .skip)) (.seq [] (.seq [0,21,22] (.ops [aO 20 (.mv (.t 0)),aO 21 (.lenS (.t 20)),aO 22 (.mv (.v (.c (.i .i64 0))))]) (.block 0 (.loop [0,21,22] B6O))) B6P)),[.tmp 2]⟩
def A3B:A9:=C0
def C6S (n:Nat):B4 (Val × A0):=E3 [] (ax A3B n B6P) A_name_Check.fin
def C6T (n:Nat):B4 (Val × A0):=D9 0 (C6S n)
def A7Y (n m:Nat) (x0 x21 x22:Val) (h:A0):A6:=D2 (ax A3B n B6O) [0,21,22] (C6T n) m [(0,x0),(21,x21),(22,x22)] h
def A9P (n:Nat) (args:List Val) (h:A0):A6:=ax A3B n A_name_Check.code A_name_Check.fin (params 0 args) h
theorem C0r (n:Nat) (a0:Val) (h:A0):A9P n [a0] h=bnd (A0e a0) fun v1=>bnd (A2 .lss v1 (.c (.i .i64 1))) fun v2=>bnd (gd v2 false (some (a0,h)) (some (.no,h))) fun p3=>bnd (gd v2 false (bnd (A0e p3.1) fun v4=>some (v4,p3.2)) (some (.no,p3.2))) fun p5=>bnd (gd v2 false (bnd (A2 .gtr p5.1 (.c (.i .i64 24))) fun v6=>some (v6,p5.2)) (some (.no,p5.2))) fun p7=>bnd (C9 v2 (.c (.b true)) p7.1) fun v8=>bnd (gd v8 false (some (a0,p7.2)) (some (.no,p7.2))) fun p9=>bnd (gd v8 false (bnd (A2 .eql p9.1 (.c (.s [46]))) fun v10=>some (v10,p9.2)) (some (.no,p9.2))) fun p11=>bnd (C9 v8 (.c (.b true)) p11.1) fun v12=>bnd (gd v12 false (some (a0,p11.2)) (some (.no,p11.2))) fun p13=>bnd (gd v12 false (bnd (A2 .eql p13.1 (.c (.s [46,46]))) fun v14=>some (v14,p13.2)) (some (.no,p13.2))) fun p15=>bnd (C9 v12 (.c (.b true)) p15.1) fun v16=>cnd v16 (some ((.c (.i .i64 3)),p15.2)) (bnd (A0e a0) fun v17=>A7Y n n a0 v17 (.c (.i .i64 0)) p15.2):=by kernel_rfl
theorem B6Q (n m:Nat) (x0 x21 x22:Val) (h:A0):A7Y n (m + 1) x0 x21 x22 h=bnd (A2 .lss x22 x21) fun v18=>cnd v18 (bnd (A0d x0 x22) fun v19=>bnd (A2 .eql v19 (.c (.i .u8 0))) fun v20=>bnd (gd v20 false (some (x0,h)) (some (.no,h))) fun p21=>bnd (gd v20 false (some (x22,p21.2)) (some (.no,p21.2))) fun p22=>bnd (gd v20 false (bnd (A0d p21.1 p22.1) fun v23=>some (v23,p22.2)) (some (.no,p22.2))) fun p24=>bnd (gd v20 false (bnd (A2 .eql p24.1 (.c (.i .u8 47))) fun v25=>some (v25,p24.2)) (some (.no,p24.2))) fun p26=>bnd (C9 v20 (.c (.b true)) p26.1) fun v27=>cnd v27 (some ((.c (.i .i64 3)),p26.2)) (bnd (A2 .add x22 (.c (.i .i64 1))) fun v28=>A7Y n m x0 x21 v28 p26.2)) (some ((.c (.i .i64 0)),h)):=by kernel_rfl
theorem K_name_Check:FnK Try.prog 91 A_name_Check A3B A9P:=.mk' (C2) Try.func91 (by kernel_rfl) (fun _ _ _=>C1)
def A1V:Fun:=tidy (Lim A_name_Check A3B)
theorem B28:SOk Try.prog 91 A1V:=K_name_Check.sok
theorem C2o:D5 A9P A1V:=K_name_Check.flat
def B6R:ACode:=.seq [0,2,4,18,19,20] (.ops [aO 20 (.bin .lss (.t 19) (.t 18))]) (.seq [0,2,4,18,19] (.cond (.t 20) .skip (.exit 0)) (.seq [0,2,4,18,19] (.block 1 (.seq [0,2,4,6,18,19] (.ops [aO 21 (.mv (.t 19)),aO 6 (.mv (.t 21))]) (.ops [aO 22 (.mv (.t 6)),aO 23 (.bin .add (.v (.c (.i .i64 1))) (.t 22)),aO 24 (.mv (.t 0)),aO 25 (.mv (.t 6)),aO 26 (.idxS (.t 24) (.t 25)),aO 27 (.iAddrA 25 1 (.t 4) (.t 23)),aN (.store1 (.t 27) (.t 26))]))) (.ops [aO 28 (.bin .add (.t 19) (.v (.c (.i .i64 1)))),aO 19 (.mv (.t 28))])))
def B6S:ACode:=.seq [2,3] (.ops [aO 29 (.loadN 25 (.t 4)),aN (.storeN 25 (.t 2) (.t 29)),aO 3 (.mv (.v (.c (.i .i64 0))))]) .ret
def A_name_Pack:AFn:=⟨.seq [0,2] (.ops [aO 2 (.alloc (List.replicate 25 (.i .u8 0))),aO 3 (.mv (.v (.c (.i .i64 0))))]) (.seq [0,2,4] (.ops [aO 4 (.alloc (List.replicate 25 (.i .u8 0)))]) (.seq [0,2,4] (.seq [0,2,4,5] (.ops [aO 7 (.mv (.t 0)),aO 8 (.call 91 [(.t 7)]),aO 5 (.mv (.t 8))]) (.seq [0,2,4,5,10] (.ops [aO 9 (.mv (.t 5)),aO 10 (.bin .neq (.t 9) (.v (.c (.i .i64 0))))]) (.cond (.t 10) (.seq [2,3] (.ops [aO 11 (.loadN 25 (.t 4)),aO 12 (.mv (.t 5)),aN (.storeN 25 (.t 2) (.t 11)),aO 3 (.mv (.t 12))]) .ret) .skip))) (.seq [0,2,4] (.ops [aO 13 (.mv (.t 0)),aO 14 (.lenS (.t 13)),aO 15 (.conv .u8 (.t 14)),aO 16 (.iAddrA 25 1 (.t 4) (.v (.c (.i .i64 0)))),aN (.store1 (.t 16) (.t 15))]) (.seq [2,4] (.seq [0,2,4,18,19] (.ops [aO 17 (.mv (.t 0)),aO 18 (.lenS (.t 17)),aO 19 (.mv (.v (.c (.i .i64 0))))]) (.block 0 (.loop [0,2,4,18,19] B6R))) B6S)))),[.cellN 2 25,.tmp 3]⟩
def A3C:A9:=B0 91 A1V C0
def C6V (n:Nat):B4 (Val × A0):=E3 [2,4] (ax A3C n B6S) A_name_Pack.fin
def C6W (n:Nat):B4 (Val × A0):=D9 0 (C6V n)
def A7Z (n m:Nat) (x0 x2 x4 x18 x19:Val) (h:A0):A6:=D2 (ax A3C n B6R) [0,2,4,18,19] (C6W n) m [(0,x0),(2,x2),(4,x4),(18,x18),(19,x19)] h
def A6i (n:Nat) (args:List Val) (h:A0):A6:=ax A3C n A_name_Pack.code A_name_Pack.fin (params 0 args) h
theorem C0t (n:Nat) (a0:Val) (h:A0):A6i n [a0] h=bnd (A1V [a0] ((h ++ [some (Row.mk (List.replicate 25 (.i .u8 0)) true)]) ++ [some (Row.mk (List.replicate 25 (.i .u8 0)) true)])) fun p1=>bnd (A2 .neq p1.1 (.c (.i .i64 0))) fun v2=>cnd v2 (bnd (A3 p1.2 25 (.c (.p (h ++ [some (Row.mk (List.replicate 25 (.i .u8 0)) true)]).length 0))) fun v3=>bnd (A8 p1.2 25 (.c (.p h.length 0)) v3) fun h4=>C7 [A3 h4 25 (.c (.p h.length 0)),some p1.1] h4) (bnd (A0e a0) fun v5=>bnd (K6 .u8 v5) fun v6=>bnd (D6 25 1 (.c (.p (h ++ [some (Row.mk (List.replicate 25 (.i .u8 0)) true)]).length 0)) (.c (.i .i64 0))) fun v7=>bnd (E4 p1.2 v7 v6) fun h8=>bnd (A0e a0) fun v9=>A7Z n n a0 (.c (.p h.length 0)) (.c (.p (h ++ [some (Row.mk (List.replicate 25 (.i .u8 0)) true)]).length 0)) v9 (.c (.i .i64 0)) h8):=by kernel_rfl
theorem B6T (n m:Nat) (x0 x2 x4 x18 x19:Val) (h:A0):A7Z n (m + 1) x0 x2 x4 x18 x19 h=bnd (A2 .lss x19 x18) fun v10=>cnd v10 (bnd (A2 .add (.c (.i .i64 1)) x19) fun v11=>bnd (A0d x0 x19) fun v12=>bnd (D6 25 1 x4 v11) fun v13=>bnd (E4 h v13 v12) fun h14=>bnd (A2 .add x19 (.c (.i .i64 1))) fun v15=>A7Z n m x0 x2 x4 x18 v15 h14) (bnd (A3 h 25 x4) fun v16=>bnd (A8 h 25 x2 v16) fun h17=>C7 [A3 h17 25 x2,some (.c (.i .i64 0))] h17):=by kernel_rfl
theorem K_name_Pack:FnK Try.prog 92 A_name_Pack A3C A6i:=.mk' (B1 B28 C2) Try.func92 (by kernel_rfl) (fun _ _ _=>C1)
def A1W:Fun:=tidy (Lim A_name_Pack A3C)
theorem B29:SOk Try.prog 92 A1W:=K_name_Pack.sok
theorem C2r:D5 A6i A1W:=K_name_Pack.flat
def A_name_Unpack:AFn:=⟨.seq [1] (.ops [aO 1 (.box (.t 0)),aO 2 (.mv (.v (.c (.s [])))),aO 3 (.mv (.v (.c (.i .i64 0))))]) (.seq [1,4] (.ops [aO 8 (.iAddrA 25 1 (.t 1) (.v (.c (.i .i64 0)))),aO 9 (.load1 (.t 8)),aO 10 (.conv .i64 (.t 9)),aO 4 (.mv (.t 10))]) (.seq [1,4] (.seq [1,4,12] (.ops [aO 11 (.mv (.t 4)),aO 12 (.bin .gtr (.t 11) (.v (.c (.i .i64 24))))]) (.cond (.t 12) (.seq [2,3] (.ops [aO 2 (.mv (.v (.c (.s [])))),aO 3 (.mv (.v (.c (.i .i64 3))))]) .ret) .skip)) (.seq [1,5] (.ops [aO 13 (.mv (.t 4)),aO 14 (.bin .add (.v (.c (.i .i64 1))) (.t 13)),aO 15 (.slA 25 1 (.t 1) (some (.v (.c (.i .i64 1)))) (some (.t 14))),aO 16 (.b2s (.t 15)),aO 5 (.mv (.t 16))]) (.seq [5] (.seq [1,5,6,7] (.ops [aO 18 (.mv (.t 5)),aO 19 (.call 92 [(.t 18)]),aO 17 (.mv (.t 19)),aO 20 (.ext (.t 17) 0),aO 21 (.ext (.t 17) 1),aO 6 (.alloc (List.replicate 25 (.i .u8 0))),aN (.storeN 25 (.t 6) (.t 20)),aO 7 (.mv (.t 21))]) (.seq [5,28] (.ops [aO 22 (.mv (.t 7)),aO 23 (.bin .neq (.t 22) (.v (.c (.i .i64 0)))),aO 24 (.mv (.t 23)),aG 25 24 false (.loadN 25 (.t 6)),aG 26 24 false (.loadN 25 (.t 1)),aG 27 24 false (.eqA true (List.replicate 25 (.i .u8)) (.t 25) (.t 26)),aO 28 (.pick (.t 24) (.v (.c (.b true))) (.t 27))]) (.cond (.t 28) (.seq [2,3] (.ops [aO 2 (.mv (.v (.c (.s [])))),aO 3 (.mv (.v (.c (.i .i64 3))))]) .ret) .skip))) (.seq [2,3] (.ops [aO 29 (.mv (.t 5)),aO 2 (.mv (.t 29)),aO 3 (.mv (.v (.c (.i .i64 0))))]) .ret))))),[.tmp 2,.tmp 3]⟩
def A9k:A9:=B0 92 A1W C0
def A6l (n:Nat) (args:List Val) (h:A0):A6:=ax A9k n A_name_Unpack.code A_name_Unpack.fin (params 0 args) h
theorem C0w (n:Nat) (a0:Val) (h:A0):A6l n [a0] h=bnd (cells? a0) fun c1=>bnd (D6 25 1 (.c (.p h.length 0)) (.c (.i .i64 0))) fun v2=>bnd (A4 (h ++ [some (Row.mk (c1) true)]) v2) fun v3=>bnd (K6 .i64 v3) fun v4=>bnd (A2 .gtr v4 (.c (.i .i64 24))) fun v5=>cnd v5 (C7 [some (.c (.s [])),some (.c (.i .i64 3))] (h ++ [some (Row.mk (c1) true)])) (bnd (A2 .add (.c (.i .i64 1)) v4) fun v6=>bnd (W0 (h ++ [some (Row.mk (c1) true)]) 25 1 (.c (.p h.length 0)) (some (.c (.i .i64 1))) (some v6)) fun v7=>bnd (Q4 (h ++ [some (Row.mk (c1) true)]) v7) fun v8=>bnd (A1W [v8] (h ++ [some (Row.mk (c1) true)])) fun p9=>bnd (C3 p9.1 0) fun v10=>bnd (C3 p9.1 1) fun v11=>bnd (A8 (p9.2 ++ [some (Row.mk (List.replicate 25 (.i .u8 0)) true)]) 25 (.c (.p p9.2.length 0)) v10) fun h12=>bnd (A2 .neq v11 (.c (.i .i64 0))) fun v13=>bnd (gd v13 false (bnd (A3 h12 25 (.c (.p p9.2.length 0))) fun v14=>some (v14,h12)) (some (.no,h12))) fun p15=>bnd (gd v13 false (bnd (A3 p15.2 25 (.c (.p h.length 0))) fun v16=>some (v16,p15.2)) (some (.no,p15.2))) fun p17=>bnd (gd v13 false (bnd (aeq true (List.replicate 25 (.i .u8)) p15.1 p17.1) fun v18=>some (v18,p17.2)) (some (.no,p17.2))) fun p19=>bnd (C9 v13 (.c (.b true)) p19.1) fun v20=>cnd v20 (C7 [some (.c (.s [])),some (.c (.i .i64 3))] p19.2) (C7 [some v8,some (.c (.i .i64 0))] p19.2)):=by kernel_rfl
theorem K_name_Unpack:FnK Try.prog 95 A_name_Unpack A9k A6l:=.mk' (B1 B29 C2) Try.func95 (by kernel_rfl) (fun _ _ _=>C1)
def A4o:Fun:=tidy (Lim A_name_Unpack A9k)
theorem C2w:SOk Try.prog 95 A4o:=K_name_Unpack.sok
theorem C2v:D5 A6l A4o:=K_name_Unpack.flat
def A_name_Less:AFn:=⟨.seq [0,1] (.ops [aO 4 (.mv (.v (.c (.b false))))]) (.seq [4] (.ops [aO 5 (.mv (.t 0)),aO 6 (.mv (.t 1)),aO 7 (.bin .lss (.t 5) (.t 6)),aO 4 (.mv (.t 7))]) .ret),[.tmp 4]⟩
def A9j:A9:=C0
def A9Q (n:Nat) (args:List Val) (h:A0):A6:=ax A9j n A_name_Less.code A_name_Less.fin (params 0 args) h
theorem C0s (n:Nat) (a0 a1:Val) (h:A0):A9Q n [a0,a1] h=bnd (A2 .lss a0 a1) fun v1=>some (v1,h):=by kernel_rfl
theorem K_name_Less:FnK Try.prog 82 A_name_Less A9j A9Q:=.mk' (C2) Try.func82 (by kernel_rfl) (fun _ _ _=>C1)
def A4n:Fun:=tidy (Lim A_name_Less A9j)
theorem C2q:SOk Try.prog 82 A4n:=K_name_Less.sok
theorem C2p:D5 A9Q A4n:=K_name_Less.flat
def B6U:ACode:=.seq [0,1,6,7] (.seq [0,1,6,7,13] (.ops [aO 11 (.mv (.t 6)),aO 12 (.mv (.t 7)),aO 13 (.bin .lss (.t 11) (.t 12))]) (.cond (.t 13) .skip (.exit 0))) (.block 1 (.seq [0,1,6,7,8] (.ops [aO 14 (.mv (.t 6)),aO 15 (.mv (.t 7)),aO 16 (.mv (.t 6)),aO 17 (.bin .sub (.t 15) (.t 16)),aO 18 (.bin .quo (.t 17) (.v (.c (.i .i64 2)))),aO 19 (.bin .add (.t 14) (.t 18)),aO 8 (.mv (.t 19))]) (.seq [0,1,6,7,8,25] (.ops [aO 20 (.mv (.t 0)),aO 21 (.mv (.t 8)),aO 22 (.iAddrL 1 (.t 20) (.t 21)),aO 23 (.load1 (.t 22)),aO 24 (.mv (.t 1)),aO 25 (.call 82 [(.t 23),(.t 24)])]) (.cond (.t 25) (.ops [aO 26 (.mv (.t 8)),aO 27 (.bin .add (.t 26) (.v (.c (.i .i64 1)))),aO 6 (.mv (.t 27))]) (.ops [aO 28 (.mv (.t 8)),aO 7 (.mv (.t 28))])))))
def B6V:ACode:=.seq [4,5] (.draw 0 [aO 29 (.mv (.t 6)),aO 30 (.mv (.t 6)),aO 31 (.mv (.t 0)),aO 32 (.len (.t 31)),aO 33 (.bin .lss (.t 30) (.t 32)),aO 34 (.mv (.t 33)),aG 35 34 true (.mv (.t 0)),aG 36 34 true (.mv (.t 6)),aG 37 34 true (.iAddrL 1 (.t 35) (.t 36)),aG 38 34 true (.load1 (.t 37)),aG 39 34 true (.mv (.t 1)),aG 40 34 true (.bin .eql (.t 38) (.t 39)),aO 41 (.pick (.t 34) (.t 40) (.v (.c (.b false)))),aO 4 (.mv (.t 29))] [aO 5 (.mv (.t 41))]) .ret
def A_name_Place:AFn:=⟨.seq [0,1] (.ops [aO 4 (.mv (.v (.c (.i .i64 0)))),aO 5 (.mv (.v (.c (.b false))))]) (.seq [0,1,6,7] (.ops [aO 9 (.mv (.t 0)),aO 10 (.len (.t 9)),aO 6 (.mv (.v (.c (.i .i64 0)))),aO 7 (.mv (.t 10))]) (.seq [0,1,6] (.block 0 (.loop [0,1,6,7] B6U)) B6V)),[.tmp 4,.tmp 5]⟩
def A3D:A9:=B0 82 A4n C0
def C6Y (n:Nat):B4 (Val × A0):=E3 [0,1,6] (ax A3D n B6V) A_name_Place.fin
def C6Z (n:Nat):B4 (Val × A0):=D9 0 (C6Y n)
def A3e (n m:Nat) (x0 x1 x6 x7:Val) (h:A0):A6:=D2 (ax A3D n B6U) [0,1,6,7] (C6Z n) m [(0,x0),(1,x1),(6,x6),(7,x7)] h
def A6j (n:Nat) (args:List Val) (h:A0):A6:=ax A3D n A_name_Place.code A_name_Place.fin (params 0 args) h
theorem C0u (n:Nat) (a0 a1:Val) (h:A0):A6j n [a0,a1] h=bnd (E9 a0) fun v1=>A3e n n a0 a1 (.c (.i .i64 0)) v1 h:=by kernel_rfl
theorem B6W (n m:Nat) (x0 x1 x6 x7:Val) (h:A0):A3e n (m + 1) x0 x1 x6 x7 h=bnd (A2 .lss x6 x7) fun v2=>cnd v2 (bnd (A2 .sub x7 x6) fun v3=>bnd (A2 .quo v3 (.c (.i .i64 2))) fun v4=>bnd (A2 .add x6 v4) fun v5=>bnd (B8 1 x0 v5) fun v6=>bnd (A4 h v6) fun v7=>bnd (A4n [v7,x1] h) fun p8=>cnd p8.1 (bnd (A2 .add v5 (.c (.i .i64 1))) fun v9=>A3e n m x0 x1 v9 x7 p8.2) (A3e n m x0 x1 x6 v5 p8.2)) (bnd (E9 x0) fun v10=>bnd (A2 .lss x6 v10) fun v11=>bnd (gd v11 true (some (x0,(h ++ []))) (some (.no,(h ++ [])))) fun p12=>bnd (gd v11 true (some (x6,p12.2)) (some (.no,p12.2))) fun p13=>bnd (gd v11 true (bnd (B8 1 p12.1 p13.1) fun v14=>some (v14,p13.2)) (some (.no,p13.2))) fun p15=>bnd (gd v11 true (bnd (A4 h p15.1) fun v16=>some (v16,p15.2)) (some (.no,p15.2))) fun p17=>bnd (gd v11 true (some (x1,p17.2)) (some (.no,p17.2))) fun p18=>bnd (gd v11 true (bnd (A2 .eql p17.1 p18.1) fun v19=>some (v19,p18.2)) (some (.no,p18.2))) fun p20=>bnd (C9 v11 p20.1 (.c (.b false))) fun v21=>C7 [some x6,some v21] p20.2):=by kernel_rfl
theorem K_name_Place:FnK Try.prog 53 A_name_Place A3D A6j:=.mk' (B1 C2q C2) Try.func53 (by kernel_rfl) (fun _ _ _=>C1)
def A2U:Fun:=tidy (Lim A_name_Place A3D)
theorem C2t:SOk Try.prog 53 A2U:=K_name_Place.sok
theorem C2s:D5 A6j A2U:=K_name_Place.flat
def B6Y:ACode:=.ops [aO 36 (.bin .add (.t 10) (.v (.c (.i .i64 1)))),aO 10 (.mv (.t 36))]
def B1w:ACode:=.seq [3,8,9,10,11] (.ops [aO 11 (.bin .lss (.t 10) (.t 9))]) (.seq [3,8,9,10] (.cond (.t 11) .skip (.exit 0)) (.seq [3,8,9,10] (.block 1 (.seq [3,5,8,9,10] (.ops [aO 12 (.iAddrL 1 (.t 8) (.t 10)),aO 13 (.load1 (.t 12)),aO 5 (.mv (.t 13))]) (.seq [3,5,6,7,8,9,10] (.ops [aO 15 (.mv (.t 3)),aO 16 (.mv (.t 5)),aO 17 (.call 53 [(.t 15),(.t 16)]),aO 14 (.mv (.t 17)),aO 18 (.ext (.t 14) 0),aO 19 (.ext (.t 14) 1),aO 6 (.mv (.t 18)),aO 7 (.mv (.t 19))]) (.seq [3,5,6,8,9,10] (.seq [3,5,6,8,9,10,20] (.ops [aO 20 (.mv (.t 7))]) (.cond (.t 20) (.exit 1) .skip)) (.seq [3,5,6,8,9,10] (.ops [aO 21 (.mv (.t 3)),aO 22 (.buildSl 1 1 ([.s []]) [(0,1,(.v (.c (.s []))))]),aO 23 (.app 1 (.t 21) (.t 22)),aO 3 (.mv (.t 23))]) (.seq [3,5,6,8,9,10] (.draw 0 [aO 24 (.mv (.t 3)),aO 25 (.mv (.t 6)),aO 26 (.bin .add (.t 25) (.v (.c (.i .i64 1)))),aO 27 (.slL 1 (.t 24) (some (.t 26)) none),aO 28 (.mv (.t 3)),aO 29 (.mv (.t 6)),aO 30 (.slL 1 (.t 28) (some (.t 29)) none)] [aO 31 (.copy 1 (.t 27) (.t 30))]) (.ops [aO 32 (.mv (.t 3)),aO 33 (.mv (.t 6)),aO 34 (.mv (.t 5)),aO 35 (.iAddrL 1 (.t 32) (.t 33)),aN (.store1 (.t 35) (.t 34))]))))))) B6Y))
def B6X:ACode:=.seq [2] (.ops [aO 37 (.mv (.t 3)),aO 2 (.mv (.t 37))]) .ret
def A_name_Sort:AFn:=⟨.seq [0] (.ops [aO 2 (.nilrow 1)]) (.seq [0,3] (.ops [aO 3 (.nilrow 1)]) (.seq [3] (.seq [3,8,9,10] (.ops [aO 8 (.mv (.t 0)),aO 9 (.len (.t 8)),aO 10 (.mv (.v (.c (.i .i64 0))))]) (.block 0 (.loop [3,8,9,10] B1w))) B6X)),[.tmp 2]⟩
def A1F:A9:=B0 53 A2U C0
def C60 (n:Nat):B4 (Val × A0):=E3 [3] (ax A1F n B6X) A_name_Sort.fin
def B1y (n:Nat):B4 (Val × A0):=D9 0 (C60 n)
def A70 (n m:Nat) (x3 x8 x9 x10:Val) (h:A0):A6:=D2 (ax A1F n B1w) [3,8,9,10] (B1y n) m [(3,x3),(8,x8),(9,x9),(10,x10)] h
def A6k (n:Nat) (args:List Val) (h:A0):A6:=ax A1F n A_name_Sort.code A_name_Sort.fin (params 0 args) h
def C61 (n m:Nat):B4 (Val × A0):=T9 [3,8,9,10] (D2 (ax A1F n B1w) [3,8,9,10] (B1y n) m) (B1y n)
def B1x (n m:Nat) (x3 x8 x9 x10:Val) (h:A0):A6:=hold ((ax A1F n B6Y) (C61 n m) [(3,x3),(8,x8),(9,x9),(10,x10)] h)
theorem C0v (n:Nat) (a0:Val) (h:A0):A6k n [a0] h=bnd (E9 a0) fun v1=>A70 n n (.c (.sl (h ++ [some (Row.mk ([]) true)]).length 0 0 1)) a0 v1 (.c (.i .i64 0)) ((h ++ [some (Row.mk ([]) true)]) ++ [some (Row.mk ([]) true)]):=by kernel_rfl
theorem B61 (n m:Nat) (x3 x8 x9 x10:Val) (h:A0):A70 n (m + 1) x3 x8 x9 x10 h=bnd (A2 .lss x10 x9) fun v2=>cnd v2 (bnd (B8 1 x8 x10) fun v3=>bnd (A4 h v3) fun v4=>bnd (A2U [x3,v4] h) fun p5=>bnd (C3 p5.1 0) fun v6=>bnd (C3 p5.1 1) fun v7=>cnd v7 (B1x n m x3 x8 x9 x10 p5.2) (bnd (A7 ([.s []]) [(0,1,.c (.s []))]) fun c8=>bnd (F0 (p5.2 ++ [some (Row.mk (c8) true)]) 1 x3 (.c (.sl p5.2.length 0 1 1))) fun p9=>bnd (A2 .add v6 (.c (.i .i64 1))) fun v10=>bnd (A2c 1 p9.1 (some v10) none) fun v11=>bnd (A2c 1 p9.1 (some v6) none) fun v12=>bnd (A15 (p9.2 ++ []) 1 v11 v12) fun p13=>bnd (B8 1 p9.1 v6) fun v14=>bnd (E4 p13.2 v14 v4) fun h15=>B1x n m p9.1 x8 x9 x10 h15)) (some (x3,h)):=by kernel_rfl
theorem B60 (n m:Nat) (x3 x8 x9 x10:Val) (h:A0):B1x n m x3 x8 x9 x10 h=bnd (A2 .add x10 (.c (.i .i64 1))) fun v16=>A70 n m x3 x8 x9 v16 h:=by kernel_rfl
theorem K_name_Sort:FnK Try.prog 29 A_name_Sort A1F A6k:=.mk' (B1 C2t C2) Try.func29 (by kernel_rfl) (fun _ _ _=>C1)
def A0B:Fun:=tidy (Lim A_name_Sort A1F)
theorem B3a:SOk Try.prog 29 A0B:=K_name_Sort.sok
theorem C2u:U7 A6k A0B:=K_name_Sort.out
end Go.Proofs.Yteckncopbicmcaa
end
