/- What the proof of this claim leans on, part 3. -/
import Derived.Test.YteckncopbicmcaaGreatFTreeTellsp2
set_option linter.all false
section
namespace Go.Proofs.YteckncopbicmcaaGreat
open Go Go.Esc
def A5W (h:Nat) (c:UInt8):Nat:=((h ^^^ c.toNat) * 16777619) % 4294967296
def A8Q (h:Nat) (s:List UInt8):Nat:=s.foldl A5W h
def A0c (s:List UInt8):Nat:=A8Q 2166136261 s
theorem B8y {h:Nat} {c:UInt8}:A5W h c < 4294967296:=Nat.mod_lt _ (by omega)
theorem C92 {s:List UInt8}:∀ {h:Nat},h < 4294967296 → A8Q h s < 4294967296:=by
  induction s with
  | nil=>intro h hh;exact hh
  | cons c s ih=>intro h _;exact ih B8y
theorem B8x {s:List UInt8}:A0c s < 4294967296:=C92 (by omega)
theorem D3U {a:Int}:IntKind.wrap .u32 a=a % 4294967296:=by
  simp only [IntKind.wrap,IntKind.bits,IntKind.signed,Bool.false_and]
  rfl
theorem B8C {s:List UInt8} (hs:s.length < 9223372036854775807) {q:Nat} {h:A0}:∀ (d i m H:Nat),i + d=s.length → d < m → H < 4294967296 →
    A8R q m (.c (.i .u32 H)) (.c (.s s)) (.c (.i .i64 s.length)) (.c (.i .i64 i)) h=some (.c (.i .u32 ((A8Q H (s.drop i):Nat):Int)),h)
  | d,i,0,H,_,hm,_=>by omega
  | 0,i,m + 1,H,hi,hm,hH=>by
    have c0:¬ (i:Int) < s.length:=by omega
    rw [B8B,List.drop_of_length_le (by omega)]
    simp only [esc,c0,A8Q,List.foldl_nil]
  | d + 1,i,m + 1,H,hi,hm,hH=>by
    have h2:i < s.length:=by omega
    have hb:=s[i].toNat_lt
    have ih:=B8C hs (q:=q) (h:=h) d (i + 1) m (A5W H s[i]) (by omega) (by omega) B8y
    have c0:(i:Int) < s.length:=by omega
    have e1:IntKind.wrap .u32 (s[i].toNat:Int)=s[i].toNat:=wrap_u32 (by omega) (by omega)
    have e2:=D3V (a:=H) (b:=s[i].toNat) hH (by omega)
    have e3:IntKind.wrap .u32 (((H ^^^ s[i].toNat:Nat):Int) * 16777619)=((A5W H s[i]:Nat):Int):=by
      rw [D3U];unfold A5W;omega
    rw [B8B,List.drop_eq_getElem_cons h2]
    simp only [esc,c0,A03 h2,e1,e2,e3,E2 (show i + 1 < 9223372036854775808 by omega)]
    exact ih
theorem B8D {s:List UInt8} (hs:s.length < 9223372036854775807) {h:A0}:A2a [.c (.s s)] h=some (.c (.i .u32 ((A0c s:Nat):Int)),h):=by
  have hm:∀ h,A44 [.c (.i .u32 2166136261),.c (.s s)] h=some (.c (.i .u32 ((A0c s:Nat):Int)),h):=fun h=>by
    refine C5g (n:=s.length + 1) (h2:=ro h) ?_ rfl
    rw [C2X]
    have:=B8C hs (q:=s.length + 1) (h:=ro h) s.length 0 (s.length + 1) 2166136261 (by omega) (by omega) (by omega)
    simp only [esc]
    exact this
  refine C5i (n:=0) (h2:=ro h) ?_ rfl
  rw [C2Y]
  simp only [esc,hm]
end Go.Proofs.YteckncopbicmcaaGreat
end
noncomputable section
namespace Go.Proofs.YteckncopbicmcaaGreat
open Go Go.Esc
set_option maxRecDepth 100000
def C0P:ACode:=.cond (.t 10) (.seq [2] (.ops [aO 2 (.mv (.v (.c (.i .i64 1))))]) .ret) (.seq [21] (.ops [aO 22 (.fAddr (.t 1) 1),aO 23 (.load1 (.t 22)),aO 24 (.bin .quo (.t 23) (.v (.c (.i .i64 8)))),aO 25 (.bin .add (.v (.c (.i .i64 2))) (.t 24)),aO 26 (.fAddr (.t 1) 0),aO 27 (.load1 (.t 26)),aO 28 (.bin .geq (.t 25) (.t 27)),aO 21 (.mv (.t 28))]) (.cond (.t 21) (.seq [2] (.ops [aO 2 (.mv (.v (.c (.i .i64 1))))]) .ret) .skip))
def C0O:ACode:=.cond (.t 3) (.seq [2] (.ops [aO 2 (.mv (.v (.c (.i .i64 1))))]) .ret) (.seq [1,10] (.seq [1,10] (.ops [aO 11 (.fAddr (.t 1) 1),aO 12 (.load1 (.t 11)),aO 13 (.bin .lss (.t 12) (.v (.c (.i .i64 8)))),aO 10 (.mv (.t 13))]) (.cond (.t 10) .skip (.seq [1,10] (.ops [aO 14 (.fAddr (.t 1) 1),aO 15 (.load1 (.t 14)),aO 16 (.bin .gtr (.t 15) (.v (.c (.i .i64 128)))),aO 10 (.mv (.t 16))]) (.cond (.t 10) .skip (.ops [aO 17 (.fAddr (.t 1) 1),aO 18 (.load1 (.t 17)),aO 19 (.bin .rem (.t 18) (.v (.c (.i .i64 8)))),aO 20 (.bin .neq (.t 19) (.v (.c (.i .i64 0)))),aO 10 (.mv (.t 20))]))))) C0P)
def C0N:ACode:=.seq [2] (.ops [aO 2 (.mv (.v (.c (.i .i64 0))))]) .ret
def A_super_Check:AFn:=⟨.seq [1] (.ops [aO 1 (.box (.t 0)),aO 2 (.mv (.v (.c (.i .i64 0))))]) (.seq [] (.block 0 (.seq [1,3] (.seq [1,3] (.ops [aO 4 (.fAddr (.t 1) 0),aO 5 (.load1 (.t 4)),aO 6 (.bin .lss (.t 5) (.v (.c (.i .i64 16)))),aO 3 (.mv (.t 6))]) (.cond (.t 3) .skip (.ops [aO 7 (.fAddr (.t 1) 0),aO 8 (.load1 (.t 7)),aO 9 (.bin .gtr (.t 8) (.v (.c (.i .i64 512)))),aO 3 (.mv (.t 9))]))) C0O)) C0N),[.tmp 2]⟩
def A28:B0:=C0
def D2O (n:Nat):A9 (Val × A0):=E4 [] (ax A28 n C0N) A_super_Check.fin
def C0Q (n:Nat):A9 (Val × A0):=D6 0 (D2O n)
def B3x (n:Nat) (x1 x3:Val) (h:A0):A6:=hold ((ax A28 n C0O) (C0Q n) [(1,x1),(3,x3)] h)
def A7g (n:Nat) (args:List Val) (h:A0):A6:=ax A28 n A_super_Check.code A_super_Check.fin (params 0 args) h
def A9v (n:Nat) (x1 x10:Val) (h:A0):A6:=hold ((ax A28 n C0P) (C0Q n) [(1,x1),(10,x10)] h)
theorem C3h (n:Nat) (a0:Val) (h:A0):A7g n [a0] h=bnd (cells? a0) fun c1=>bnd (A7 (.c (.p h.length 0)) 0) fun v2=>bnd (A3 (h ++ [some (Row.mk (c1) true)]) v2) fun v3=>bnd (A2 .lss v3 (.c (.i .i64 16))) fun v4=>cnd v4 (B3x n (.c (.p h.length 0)) v4 (h ++ [some (Row.mk (c1) true)])) (bnd (A7 (.c (.p h.length 0)) 0) fun v5=>bnd (A3 (h ++ [some (Row.mk (c1) true)]) v5) fun v6=>bnd (A2 .gtr v6 (.c (.i .i64 512))) fun v7=>B3x n (.c (.p h.length 0)) v7 (h ++ [some (Row.mk (c1) true)])):=by kernel_rfl
theorem A2X (n:Nat) (x1 x3:Val) (h:A0):B3x n x1 x3 h=cnd x3 (some ((.c (.i .i64 1)),h)) (bnd (A7 x1 1) fun v8=>bnd (A3 h v8) fun v9=>bnd (A2 .lss v9 (.c (.i .i64 8))) fun v10=>cnd v10 (A9v n x1 v10 h) (bnd (A7 x1 1) fun v11=>bnd (A3 h v11) fun v12=>bnd (A2 .gtr v12 (.c (.i .i64 128))) fun v13=>cnd v13 (A9v n x1 v13 h) (bnd (A7 x1 1) fun v14=>bnd (A3 h v14) fun v15=>bnd (A2 .rem v15 (.c (.i .i64 8))) fun v16=>bnd (A2 .neq v16 (.c (.i .i64 0))) fun v17=>A9v n x1 v17 h))):=by kernel_rfl
theorem A6e (n:Nat) (x1 x10:Val) (h:A0):A9v n x1 x10 h=cnd x10 (some ((.c (.i .i64 1)),h)) (bnd (A7 x1 1) fun v18=>bnd (A3 h v18) fun v19=>bnd (A2 .quo v19 (.c (.i .i64 8))) fun v20=>bnd (A2 .add (.c (.i .i64 2)) v20) fun v21=>bnd (A7 x1 0) fun v22=>bnd (A3 h v22) fun v23=>bnd (A2 .geq v21 v23) fun v24=>cnd v24 (some ((.c (.i .i64 1)),h)) (some ((.c (.i .i64 0)),h))):=by kernel_rfl
theorem K_super_Check:FnK Tryz.prog 104 A_super_Check A28 A7g:=.mk' (C2) Tryz.func104 (by kernel_rfl) (fun _ _ _=>C1)
def A2d:Fun:=tidy (Lim A_super_Check A28)
theorem B4x:SOk Tryz.prog 104 A2d:=K_super_Check.sok
theorem C5K:C9 A7g A2d:=K_super_Check.flat
def A_super_Put:AFn:=⟨.seq [1,2] (.ops [aO 1 (.box (.t 0)),aO 2 (.alloc (List.replicate 256 (.i .u8 0))),aO 3 (.mv (.v (.c (.i .i64 0))))]) (.seq [1,2] (.seq [1,2,4] (.ops [aO 9 (.loadN 3 (.t 1)),aO 10 (.call 104 [(.t 9)]),aO 4 (.mv (.t 10))]) (.seq [1,2,4,12] (.ops [aO 11 (.mv (.t 4)),aO 12 (.bin .neq (.t 11) (.v (.c (.i .i64 0))))]) (.cond (.t 12) (.seq [2,3] (.ops [aO 13 (.build (List.replicate 256 (.i .u8 0)) []),aO 14 (.mv (.t 4)),aN (.storeN 256 (.t 2) (.t 13)),aO 3 (.mv (.t 14))]) .ret) .skip))) (.seq [1,2,5] (.ops [aO 15 (.buildSl 1 8 ([.i .u8 0,.i .u8 0,.i .u8 0,.i .u8 0,.i .u8 0,.i .u8 0,.i .u8 0,.i .u8 0]) [(0,1,(.v (.c (.i .u8 101)))),(1,1,(.v (.c (.i .u8 115)))),(2,1,(.v (.c (.i .u8 99)))),(3,1,(.v (.c (.i .u8 104)))),(4,1,(.v (.c (.i .u8 101)))),(5,1,(.v (.c (.i .u8 97)))),(6,1,(.v (.c (.i .u8 116)))),(7,1,(.v (.c (.i .u8 49))))]),aO 16 (.mark (.t 15)),aO 17 (.call 212 [(.t 16)]),aO 5 (.alloc (List.replicate 256 (.i .u8 0))),aN (.storeN 256 (.t 5) (.t 17))]) (.seq [1,2,5] (.ops [aO 18 (.loadN 256 (.t 5)),aO 19 (.fAddr (.t 1) 0),aO 20 (.load1 (.t 19)),aO 21 (.call 213 [(.t 18),(.v (.c (.i .i64 8))),(.v (.c (.i .i64 2))),(.t 20)]),aN (.storeN 256 (.t 5) (.t 21))]) (.seq [1,2,5] (.ops [aO 22 (.loadN 256 (.t 5)),aO 23 (.fAddr (.t 1) 1),aO 24 (.load1 (.t 23)),aO 25 (.call 213 [(.t 22),(.v (.c (.i .i64 10))),(.v (.c (.i .i64 2))),(.t 24)]),aN (.storeN 256 (.t 5) (.t 25))]) (.seq [2,5,6] (.draw 1 [aS 27 0 (.mkSl 1 ([.i .u8 0]) (.v (.c (.i .i64 8))) (.v (.c (.i .i64 8)))),aO 28 (.fAddr (.t 1) 2),aO 29 (.load1 (.t 28)),aO 30 (.call 214 [(.t 27),(.v (.c (.i .i64 0))),(.v (.c (.i .i64 8))),(.t 29)]),aO 26 (.mv (.t 30)),aO 31 (.ext (.t 26) 0),aO 32 (.ext (.t 26) 1),aO 6 (.mv (.t 31))] [aO 7 (.mv (.t 32))]) (.seq [2,5] (.ops [aO 33 (.loadN 256 (.t 5)),aO 34 (.mv (.t 6)),aO 35 (.call 215 [(.t 33),(.v (.c (.i .i64 12))),(.t 34)]),aN (.storeN 256 (.t 5) (.t 35))]) (.seq [2,5,8] (.ops [aO 36 (.loadN 256 (.t 5)),aO 37 (.call 141 [(.t 36),(.v (.c (.i .i64 0))),(.v (.c (.i .i64 20)))]),aO 38 (.b2s (.t 37)),aO 39 (.call 78 [(.t 38)]),aO 8 (.mv (.t 39))]) (.seq [2,3] (.ops [aO 40 (.loadN 256 (.t 5)),aO 41 (.mv (.t 8)),aO 42 (.conv .i64 (.t 41)),aO 43 (.call 213 [(.t 40),(.v (.c (.i .i64 20))),(.v (.c (.i .i64 4))),(.t 42)]),aN (.storeN 256 (.t 2) (.t 43)),aO 3 (.mv (.v (.c (.i .i64 0))))]) .ret)))))))),[.cellN 2 256,.tmp 3]⟩
def B0t:B0:=B1 104 A2d (B1 212 Z0 (B1 213 Q9 (B1 214 A49 (B1 215 A0O (B1 141 Y9 (B1 78 A2a C0))))))
def A7i (n:Nat) (args:List Val) (h:A0):A6:=ax B0t n A_super_Put.code A_super_Put.fin (params 0 args) h
theorem C3j (n:Nat) (a0:Val) (h:A0):A7i n [a0] h=bnd (cells? a0) fun c1=>bnd (A4 ((h ++ [some (Row.mk (c1) true)]) ++ [some (Row.mk (List.replicate 256 (.i .u8 0)) true)]) 3 (.c (.p h.length 0))) fun v2=>bnd (A2d [v2] ((h ++ [some (Row.mk (c1) true)]) ++ [some (Row.mk (List.replicate 256 (.i .u8 0)) true)])) fun p3=>bnd (A2 .neq p3.1 (.c (.i .i64 0))) fun v4=>cnd v4 (bnd (A8 (List.replicate 256 (.i .u8 0)) []) fun c5=>bnd (B4 p3.2 256 (.c (.p (h ++ [some (Row.mk (c1) true)]).length 0)) (.a c5)) fun h6=>D3 [A4 h6 256 (.c (.p (h ++ [some (Row.mk (c1) true)]).length 0)),some p3.1] h6) (bnd (A8 ([.i .u8 0,.i .u8 0,.i .u8 0,.i .u8 0,.i .u8 0,.i .u8 0,.i .u8 0,.i .u8 0]) [(0,1,.c (.i .u8 101)),(1,1,.c (.i .u8 115)),(2,1,.c (.i .u8 99)),(3,1,.c (.i .u8 104)),(4,1,.c (.i .u8 101)),(5,1,.c (.i .u8 97)),(6,1,.c (.i .u8 116)),(7,1,.c (.i .u8 49))]) fun c7=>bnd (U8 (p3.2 ++ [some (Row.mk (c7) true)]) (.c (.sl p3.2.length 0 8 1))) fun v8=>bnd (Z0 [v8] (p3.2 ++ [some (Row.mk (c7) true)])) fun p9=>bnd (B4 (p9.2 ++ [some (Row.mk (List.replicate 256 (.i .u8 0)) true)]) 256 (.c (.p p9.2.length 0)) p9.1) fun h10=>bnd (A4 h10 256 (.c (.p p9.2.length 0))) fun v11=>bnd (A7 (.c (.p h.length 0)) 0) fun v12=>bnd (A3 h10 v12) fun v13=>bnd (Q9 [v11,.c (.i .i64 8),.c (.i .i64 2),v13] h10) fun p14=>bnd (B4 p14.2 256 (.c (.p p9.2.length 0)) p14.1) fun h15=>bnd (A4 h15 256 (.c (.p p9.2.length 0))) fun v16=>bnd (A7 (.c (.p h.length 0)) 1) fun v17=>bnd (A3 h15 v17) fun v18=>bnd (Q9 [v16,.c (.i .i64 10),.c (.i .i64 2),v18] h15) fun p19=>bnd (B4 p19.2 256 (.c (.p p9.2.length 0)) p19.1) fun h20=>bnd (A0U (.c (.i .i64 8)) (.c (.i .i64 8))) fun n21=>bnd (A7 (.c (.p h.length 0)) 2) fun v22=>bnd (A3 h20 v22) fun v23=>bnd (quiet ((h20 ++ [none]).set (h20.length + 0) (some (Row.mk (rows ([.i .u8 0]) n21) true))) (A49 [(.c (.sl (h20.length + 0) 0 n21 1)),.c (.i .i64 0),.c (.i .i64 8),v23] ((h20 ++ [none]).set (h20.length + 0) (some (Row.mk (rows ([.i .u8 0]) n21) true))))) fun p24=>bnd (C5 p24.1 0) fun v25=>bnd (C5 p24.1 1) fun v26=>bnd (A4 p24.2 256 (.c (.p p9.2.length 0))) fun v27=>bnd (A0O [v27,.c (.i .i64 12),v25] p24.2) fun p28=>bnd (B4 p28.2 256 (.c (.p p9.2.length 0)) p28.1) fun h29=>bnd (A4 h29 256 (.c (.p p9.2.length 0))) fun v30=>bnd (Y9 [v30,.c (.i .i64 0),.c (.i .i64 20)] h29) fun p31=>bnd (N8 p31.2 p31.1) fun v32=>bnd (A2a [v32] p31.2) fun p33=>bnd (A4 p33.2 256 (.c (.p p9.2.length 0))) fun v34=>bnd (L6 .i64 p33.1) fun v35=>bnd (Q9 [v34,.c (.i .i64 20),.c (.i .i64 4),v35] p33.2) fun p36=>bnd (B4 p36.2 256 (.c (.p (h ++ [some (Row.mk (c1) true)]).length 0)) p36.1) fun h37=>D3 [A4 h37 256 (.c (.p (h ++ [some (Row.mk (c1) true)]).length 0)),some (.c (.i .i64 0))] h37):=by kernel_rfl
theorem K_super_Put:FnK Tryz.prog 137 A_super_Put B0t A7i:=.mk' (B3 B4x (B3 A7y (B3 B1d (B3 C5y (B3 B1c (B3 A7x (B3 B4t C2))))))) Tryz.func137 (by kernel_rfl) (fun _ _ _=>C1)
def A2e:Fun:=tidy (Lim A_super_Put B0t)
theorem B4y:SOk Tryz.prog 137 A2e:=K_super_Put.sok
theorem C5N:C9 A7i A2e:=K_super_Put.flat
def A_super_Get:AFn:=⟨.seq [1,2] (.ops [aO 1 (.box (.t 0)),aO 2 (.alloc ([.i .i64 0,.i .i64 0,.i .u64 0])),aO 3 (.mv (.v (.c (.i .i64 0))))]) (.seq [1,2,4] (.ops [aO 10 (.loadN 256 (.t 1)),aO 11 (.call 141 [(.t 10),(.v (.c (.i .i64 12))),(.v (.c (.i .i64 8)))]),aO 12 (.call 140 [(.t 11),(.v (.c (.i .i64 0))),(.v (.c (.i .i64 8)))]),aO 9 (.mv (.t 12)),aO 13 (.ext (.t 9) 0),aO 14 (.ext (.t 9) 1),aO 4 (.mv (.t 13)),aO 5 (.mv (.t 14))]) (.seq [1,2,6] (.draw 1 [aO 15 (.loadN 256 (.t 1)),aO 16 (.call 142 [(.t 15),(.v (.c (.i .i64 8))),(.v (.c (.i .i64 2)))]),aO 17 (.loadN 256 (.t 1)),aO 18 (.call 142 [(.t 17),(.v (.c (.i .i64 10))),(.v (.c (.i .i64 2)))]),aO 19 (.mv (.t 4)),aO 20 (.build ([.i .i64 0,.i .i64 0,.i .u64 0]) [(0,1,(.t 16)),(1,1,(.t 18)),(2,1,(.t 19))]),aS 6 0 (.alloc ([.i .i64 0,.i .i64 0,.i .u64 0]))] [aN (.storeN 3 (.t 6) (.t 20))]) (.seq [2,6] (.seq [1,2,6,7,8] (.ops [aO 22 (.loadN 3 (.t 6)),aO 23 (.call 137 [(.t 22)]),aO 21 (.mv (.t 23)),aO 24 (.ext (.t 21) 0),aO 25 (.ext (.t 21) 1),aO 7 (.alloc (List.replicate 256 (.i .u8 0))),aN (.storeN 256 (.t 7) (.t 24)),aO 8 (.mv (.t 25))]) (.seq [2,6,32] (.ops [aO 26 (.mv (.t 8)),aO 27 (.bin .neq (.t 26) (.v (.c (.i .i64 0)))),aO 28 (.mv (.t 27)),aG 29 28 false (.loadN 256 (.t 7)),aG 30 28 false (.loadN 256 (.t 1)),aG 31 28 false (.eqA true (List.replicate 256 (.i .u8)) (.t 29) (.t 30)),aO 32 (.pick (.t 28) (.v (.c (.b true))) (.t 31))]) (.cond (.t 32) (.seq [2,3] (.ops [aO 33 (.build ([.i .i64 0,.i .i64 0,.i .u64 0]) []),aN (.storeN 3 (.t 2) (.t 33)),aO 3 (.mv (.v (.c (.i .i64 13))))]) .ret) .skip))) (.seq [2,3] (.ops [aO 34 (.loadN 3 (.t 6)),aN (.storeN 3 (.t 2) (.t 34)),aO 3 (.mv (.v (.c (.i .i64 0))))]) .ret)))),[.cellN 2 3,.tmp 3]⟩
def B0s:B0:=B1 141 Y9 (B1 140 A48 (B1 142 M3 (B1 137 A2e C0)))
def A7h (n:Nat) (args:List Val) (h:A0):A6:=ax B0s n A_super_Get.code A_super_Get.fin (params 0 args) h
theorem C3i (n:Nat) (a0:Val) (h:A0):A7h n [a0] h=bnd (cells? a0) fun c1=>bnd (A4 ((h ++ [some (Row.mk (c1) true)]) ++ [some (Row.mk ([.i .i64 0,.i .i64 0,.i .u64 0]) true)]) 256 (.c (.p h.length 0))) fun v2=>bnd (Y9 [v2,.c (.i .i64 12),.c (.i .i64 8)] ((h ++ [some (Row.mk (c1) true)]) ++ [some (Row.mk ([.i .i64 0,.i .i64 0,.i .u64 0]) true)])) fun p3=>bnd (A48 [p3.1,.c (.i .i64 0),.c (.i .i64 8)] p3.2) fun p4=>bnd (C5 p4.1 0) fun v5=>bnd (C5 p4.1 1) fun v6=>bnd (A4 p4.2 256 (.c (.p h.length 0))) fun v7=>bnd (quiet (p4.2 ++ [none]) (M3 [v7,.c (.i .i64 8),.c (.i .i64 2)] (p4.2 ++ [none]))) fun p8=>bnd (A4 p4.2 256 (.c (.p h.length 0))) fun v9=>bnd (quiet p8.2 (M3 [v9,.c (.i .i64 10),.c (.i .i64 2)] p8.2)) fun p10=>bnd (A8 ([.i .i64 0,.i .i64 0,.i .u64 0]) [(0,1,p8.1),(1,1,p10.1),(2,1,v5)]) fun c11=>bnd (B4 (p10.2.set (p4.2.length + 0) (some (Row.mk ([.i .i64 0,.i .i64 0,.i .u64 0]) true))) 3 (.c (.p (p4.2.length + 0) 0)) (.a c11)) fun h12=>bnd (A4 h12 3 (.c (.p (p4.2.length + 0) 0))) fun v13=>bnd (A2e [v13] h12) fun p14=>bnd (C5 p14.1 0) fun v15=>bnd (C5 p14.1 1) fun v16=>bnd (B4 (p14.2 ++ [some (Row.mk (List.replicate 256 (.i .u8 0)) true)]) 256 (.c (.p p14.2.length 0)) v15) fun h17=>bnd (A2 .neq v16 (.c (.i .i64 0))) fun v18=>bnd (gd v18 false (bnd (A4 h17 256 (.c (.p p14.2.length 0))) fun v19=>some (v19,h17)) (some (.no,h17))) fun p20=>bnd (gd v18 false (bnd (A4 p20.2 256 (.c (.p h.length 0))) fun v21=>some (v21,p20.2)) (some (.no,p20.2))) fun p22=>bnd (gd v18 false (bnd (aeq true (List.replicate 256 (.i .u8)) p20.1 p22.1) fun v23=>some (v23,p22.2)) (some (.no,p22.2))) fun p24=>bnd (C4 v18 (.c (.b true)) p24.1) fun v25=>cnd v25 (bnd (A8 ([.i .i64 0,.i .i64 0,.i .u64 0]) []) fun c26=>bnd (B4 p24.2 3 (.c (.p (h ++ [some (Row.mk (c1) true)]).length 0)) (.a c26)) fun h27=>D3 [A4 h27 3 (.c (.p (h ++ [some (Row.mk (c1) true)]).length 0)),some (.c (.i .i64 13))] h27) (bnd (A4 p24.2 3 (.c (.p (p4.2.length + 0) 0))) fun v28=>bnd (B4 p24.2 3 (.c (.p (h ++ [some (Row.mk (c1) true)]).length 0)) v28) fun h29=>D3 [A4 h29 3 (.c (.p (h ++ [some (Row.mk (c1) true)]).length 0)),some (.c (.i .i64 0))] h29):=by kernel_rfl
theorem K_super_Get:FnK Tryz.prog 66 A_super_Get B0s A7h:=.mk' (B3 A7x (B3 C5v (B3 A47 (B3 B4y C2)))) Tryz.func66 (by kernel_rfl) (fun _ _ _=>C1)
def A5e:Fun:=tidy (Lim A_super_Get B0s)
theorem C5M:SOk Tryz.prog 66 A5e:=K_super_Get.sok
theorem C5L:C9 A7h A5e:=K_super_Get.flat
end Go.Proofs.YteckncopbicmcaaGreat
end
noncomputable section
namespace Go.Proofs.YteckncopbicmcaaGreat
open Go Go.Esc
set_option maxRecDepth 100000
def A_geom_ok:AFn:=⟨.seq [1] (.ops [aO 1 (.box (.t 0)),aO 2 (.mv (.v (.c (.b false))))]) (.seq [2] (.ops [aO 3 (.loadN 3 (.t 1)),aO 4 (.call 104 [(.t 3)]),aO 5 (.bin .eql (.t 4) (.v (.c (.i .i64 0)))),aO 2 (.mv (.t 5))]) .ret),[.tmp 2]⟩
def B0c:B0:=B1 104 A2d C0
def A6P (n:Nat) (args:List Val) (h:A0):A6:=ax B0c n A_geom_ok.code A_geom_ok.fin (params 0 args) h
theorem C2H (n:Nat) (a0:Val) (h:A0):A6P n [a0] h=bnd (cells? a0) fun c1=>bnd (A4 (h ++ [some (Row.mk (c1) true)]) 3 (.c (.p h.length 0))) fun v2=>bnd (A2d [v2] (h ++ [some (Row.mk (c1) true)])) fun p3=>bnd (A2 .eql p3.1 (.c (.i .i64 0))) fun v4=>some (v4,p3.2):=by kernel_rfl
theorem K_geom_ok:FnK Tryz.prog 150 A_geom_ok B0c A6P:=.mk' (B3 B4x C2) Tryz.func150 (by kernel_rfl) (fun _ _ _=>C1)
def A0L:Fun:=tidy (Lim A_geom_ok B0c)
theorem B1a:SOk Tryz.prog 150 A0L:=K_geom_ok.sok
theorem C4Q:C9 A6P A0L:=K_geom_ok.flat
def A_geom_IsInode:AFn:=⟨.seq [1,2] (.ops [aO 2 (.box (.t 0)),aO 4 (.mv (.v (.c (.b false))))]) (.seq [4] (.ops [aO 5 (.loadN 3 (.t 2)),aO 6 (.call 150 [(.t 5)]),aO 7 (.mv (.t 6)),aG 8 7 true (.mv (.t 1)),aG 9 7 true (.bin .geq (.t 8) (.v (.c (.i .i64 1)))),aO 10 (.pick (.t 7) (.t 9) (.v (.c (.b false)))),aO 11 (.mv (.t 10)),aG 12 11 true (.mv (.t 1)),aG 13 11 true (.fAddr (.t 2) 1),aG 14 11 true (.load1 (.t 13)),aG 15 11 true (.bin .leq (.t 12) (.t 14)),aO 16 (.pick (.t 11) (.t 15) (.v (.c (.b false)))),aO 4 (.mv (.t 16))]) .ret),[.tmp 4]⟩
def A98:B0:=B1 150 A0L C0
def A6M (n:Nat) (args:List Val) (h:A0):A6:=ax A98 n A_geom_IsInode.code A_geom_IsInode.fin (params 0 args) h
theorem C2D (n:Nat) (a0 a1:Val) (h:A0):A6M n [a0,a1] h=bnd (cells? a0) fun c1=>bnd (A4 (h ++ [some (Row.mk (c1) true)]) 3 (.c (.p h.length 0))) fun v2=>bnd (A0L [v2] (h ++ [some (Row.mk (c1) true)])) fun p3=>bnd (gd p3.1 true (some (a1,p3.2)) (some (.no,p3.2))) fun p4=>bnd (gd p3.1 true (bnd (A2 .geq p4.1 (.c (.i .i64 1))) fun v5=>some (v5,p4.2)) (some (.no,p4.2))) fun p6=>bnd (C4 p3.1 p6.1 (.c (.b false))) fun v7=>bnd (gd v7 true (some (a1,p6.2)) (some (.no,p6.2))) fun p8=>bnd (gd v7 true (bnd (A7 (.c (.p h.length 0)) 1) fun v9=>some (v9,p8.2)) (some (.no,p8.2))) fun p10=>bnd (gd v7 true (bnd (A3 p10.2 p10.1) fun v11=>some (v11,p10.2)) (some (.no,p10.2))) fun p12=>bnd (gd v7 true (bnd (A2 .leq p8.1 p12.1) fun v13=>some (v13,p12.2)) (some (.no,p12.2))) fun p14=>bnd (C4 v7 p14.1 (.c (.b false))) fun v15=>some (v15,p14.2):=by kernel_rfl
theorem K_geom_IsInode:FnK Tryz.prog 146 A_geom_IsInode A98 A6M:=.mk' (B3 B1a C2) Tryz.func146 (by kernel_rfl) (fun _ _ _=>C1)
def A4S:Fun:=tidy (Lim A_geom_IsInode A98)
theorem C4K:SOk Tryz.prog 146 A4S:=K_geom_IsInode.sok
theorem C4J:C9 A6M A4S:=K_geom_IsInode.flat
def A_geom_Map:AFn:=⟨.seq [] (.ops [aO 0 (.mv (.v (.c (.i .i64 0))))]) (.seq [0] (.ops [aO 0 (.mv (.v (.c (.i .i64 1))))]) .ret),[.tmp 0]⟩
def A99:B0:=C0
def B0T (n:Nat) (args:List Val) (h:A0):A6:=ax A99 n A_geom_Map.code A_geom_Map.fin (params 0 args) h
theorem C2E (n:Nat) (h:A0):B0T n [] h=some ((.c (.i .i64 1)),h):=by kernel_rfl
theorem K_geom_Map:FnK Tryz.prog 116 A_geom_Map A99 B0T:=.mk' (C2) Tryz.func116 (by kernel_rfl) (fun _ _ _=>C1)
def A4T:Fun:=tidy (Lim A_geom_Map A99)
theorem C4M:SOk Tryz.prog 116 A4T:=K_geom_Map.sok
theorem C4L:C9 B0T A4T:=K_geom_Map.flat
def A_geom_Table:AFn:=⟨.seq [1] (.ops [aO 1 (.box (.t 0)),aO 2 (.mv (.v (.c (.i .i64 0)))),aO 3 (.mv (.v (.c (.i .i64 0))))]) (.seq [1] (.seq [1,6] (.ops [aO 4 (.loadN 3 (.t 1)),aO 5 (.call 150 [(.t 4)]),aO 6 (.un .not (.t 5))]) (.cond (.t 6) (.seq [2,3] (.ops [aO 2 (.mv (.v (.c (.i .i64 0)))),aO 3 (.mv (.v (.c (.i .i64 0))))]) .ret) .skip)) (.seq [2,3] (.draw 0 [aO 7 (.call 116 []),aO 8 (.bin .add (.t 7) (.v (.c (.i .i64 1)))),aO 9 (.fAddr (.t 1) 1),aO 10 (.load1 (.t 9)),aO 11 (.bin .quo (.t 10) (.v (.c (.i .i64 8)))),aO 2 (.mv (.t 8))] [aO 3 (.mv (.t 11))]) .ret)),[.tmp 2,.tmp 3]⟩
def B0a:B0:=B1 150 A0L (B1 116 A4T C0)
def A6N (n:Nat) (args:List Val) (h:A0):A6:=ax B0a n A_geom_Table.code A_geom_Table.fin (params 0 args) h
theorem C2F (n:Nat) (a0:Val) (h:A0):A6N n [a0] h=bnd (cells? a0) fun c1=>bnd (A4 (h ++ [some (Row.mk (c1) true)]) 3 (.c (.p h.length 0))) fun v2=>bnd (A0L [v2] (h ++ [some (Row.mk (c1) true)])) fun p3=>bnd (aun .not p3.1) fun v4=>cnd v4 (D3 [some (.c (.i .i64 0)),some (.c (.i .i64 0))] p3.2) (bnd (quiet (p3.2 ++ []) (A4T [] (p3.2 ++ []))) fun p5=>bnd (A2 .add p5.1 (.c (.i .i64 1))) fun v6=>bnd (A7 (.c (.p h.length 0)) 1) fun v7=>bnd (A3 p3.2 v7) fun v8=>bnd (A2 .quo v8 (.c (.i .i64 8))) fun v9=>D3 [some v6,some v9] p5.2):=by kernel_rfl
theorem K_geom_Table:FnK Tryz.prog 114 A_geom_Table B0a A6N:=.mk' (B3 B1a (B3 C4M C2)) Tryz.func114 (by kernel_rfl) (fun _ _ _=>C1)
def A14:Fun:=tidy (Lim A_geom_Table B0a)
theorem B4o:SOk Tryz.prog 114 A14:=K_geom_Table.sok
theorem C4N:C9 A6N A14:=K_geom_Table.flat
def A_geom_Where:AFn:=⟨.seq [1,2] (.ops [aO 2 (.box (.t 0)),aO 4 (.mv (.v (.c (.i .i64 0)))),aO 5 (.mv (.v (.c (.i .i64 0)))),aO 6 (.mv (.v (.c (.b false))))]) (.seq [1,2] (.seq [1,2,12] (.ops [aO 9 (.loadN 3 (.t 2)),aO 10 (.mv (.t 1)),aO 11 (.call 146 [(.t 9),(.t 10)]),aO 12 (.un .not (.t 11))]) (.cond (.t 12) (.seq [4,5,6] (.ops [aO 4 (.mv (.v (.c (.i .i64 0)))),aO 5 (.mv (.v (.c (.i .i64 0)))),aO 6 (.mv (.v (.c (.b false))))]) .ret) .skip)) (.seq [1,7] (.ops [aO 14 (.loadN 3 (.t 2)),aO 15 (.call 114 [(.t 14)]),aO 13 (.mv (.t 15)),aO 16 (.ext (.t 13) 0),aO 17 (.ext (.t 13) 1),aO 7 (.mv (.t 16)),aO 8 (.mv (.t 17))]) (.seq [4,5,6] (.ops [aO 18 (.mv (.t 7)),aO 19 (.mv (.t 1)),aO 20 (.bin .sub (.t 19) (.v (.c (.i .i64 1)))),aO 21 (.bin .quo (.t 20) (.v (.c (.i .i64 8)))),aO 22 (.bin .add (.t 18) (.t 21)),aO 23 (.mv (.t 1)),aO 24 (.bin .sub (.t 23) (.v (.c (.i .i64 1)))),aO 25 (.bin .rem (.t 24) (.v (.c (.i .i64 8)))),aO 4 (.mv (.t 22)),aO 5 (.mv (.t 25)),aO 6 (.mv (.v (.c (.b true))))]) .ret))),[.tmp 4,.tmp 5,.tmp 6]⟩
def B0b:B0:=B1 146 A4S (B1 114 A14 C0)
def A6O (n:Nat) (args:List Val) (h:A0):A6:=ax B0b n A_geom_Where.code A_geom_Where.fin (params 0 args) h
theorem C2G (n:Nat) (a0 a1:Val) (h:A0):A6O n [a0,a1] h=bnd (cells? a0) fun c1=>bnd (A4 (h ++ [some (Row.mk (c1) true)]) 3 (.c (.p h.length 0))) fun v2=>bnd (A4S [v2,a1] (h ++ [some (Row.mk (c1) true)])) fun p3=>bnd (aun .not p3.1) fun v4=>cnd v4 (D3 [some (.c (.i .i64 0)),some (.c (.i .i64 0)),some (.c (.b false))] p3.2) (bnd (A4 p3.2 3 (.c (.p h.length 0))) fun v5=>bnd (A14 [v5] p3.2) fun p6=>bnd (C5 p6.1 0) fun v7=>bnd (C5 p6.1 1) fun v8=>bnd (A2 .sub a1 (.c (.i .i64 1))) fun v9=>bnd (A2 .quo v9 (.c (.i .i64 8))) fun v10=>bnd (A2 .add v7 v10) fun v11=>bnd (A2 .sub a1 (.c (.i .i64 1))) fun v12=>bnd (A2 .rem v12 (.c (.i .i64 8))) fun v13=>D3 [some v11,some v13,some (.c (.b true))] p6.2):=by kernel_rfl
theorem K_geom_Where:FnK Tryz.prog 69 A_geom_Where B0b A6O:=.mk' (B3 C4K (B3 B4o C2)) Tryz.func69 (by kernel_rfl) (fun _ _ _=>C1)
def A4U:Fun:=tidy (Lim A_geom_Where B0b)
theorem C4P:SOk Tryz.prog 69 A4U:=K_geom_Where.sok
theorem C4O:C9 A6O A4U:=K_geom_Where.flat
def A_geom_Data:AFn:=⟨.seq [1] (.ops [aO 1 (.box (.t 0)),aO 2 (.mv (.v (.c (.i .i64 0))))]) (.seq [3,4] (.ops [aO 6 (.loadN 3 (.t 1)),aO 7 (.call 114 [(.t 6)]),aO 5 (.mv (.t 7)),aO 8 (.ext (.t 5) 0),aO 9 (.ext (.t 5) 1),aO 3 (.mv (.t 8)),aO 4 (.mv (.t 9))]) (.seq [2] (.ops [aO 10 (.mv (.t 3)),aO 11 (.mv (.t 4)),aO 12 (.bin .add (.t 10) (.t 11)),aO 2 (.mv (.t 12))]) .ret)),[.tmp 2]⟩
def A96:B0:=B1 114 A14 C0
def A6K (n:Nat) (args:List Val) (h:A0):A6:=ax A96 n A_geom_Data.code A_geom_Data.fin (params 0 args) h
theorem C2B (n:Nat) (a0:Val) (h:A0):A6K n [a0] h=bnd (cells? a0) fun c1=>bnd (A4 (h ++ [some (Row.mk (c1) true)]) 3 (.c (.p h.length 0))) fun v2=>bnd (A14 [v2] (h ++ [some (Row.mk (c1) true)])) fun p3=>bnd (C5 p3.1 0) fun v4=>bnd (C5 p3.1 1) fun v5=>bnd (A2 .add v4 v5) fun v6=>some (v6,p3.2):=by kernel_rfl
theorem K_geom_Data:FnK Tryz.prog 151 A_geom_Data A96 A6K:=.mk' (B3 B4o C2) Tryz.func151 (by kernel_rfl) (fun _ _ _=>C1)
def A4R:Fun:=tidy (Lim A_geom_Data A96)
theorem C4H:SOk Tryz.prog 151 A4R:=K_geom_Data.sok
theorem C4G:C9 A6K A4R:=K_geom_Data.flat
def A_geom_IsData:AFn:=⟨.seq [1,2] (.ops [aO 2 (.box (.t 0)),aO 4 (.mv (.v (.c (.b false))))]) (.seq [4] (.ops [aO 5 (.loadN 3 (.t 2)),aO 6 (.call 150 [(.t 5)]),aO 7 (.mv (.t 6)),aG 8 7 true (.mv (.t 1)),aG 9 7 true (.loadN 3 (.t 2)),aG 10 7 true (.call 151 [(.t 9)]),aG 11 7 true (.bin .geq (.t 8) (.t 10)),aO 12 (.pick (.t 7) (.t 11) (.v (.c (.b false)))),aO 13 (.mv (.t 12)),aG 14 13 true (.mv (.t 1)),aG 15 13 true (.fAddr (.t 2) 0),aG 16 13 true (.load1 (.t 15)),aG 17 13 true (.bin .lss (.t 14) (.t 16)),aO 18 (.pick (.t 13) (.t 17) (.v (.c (.b false)))),aO 4 (.mv (.t 18))]) .ret),[.tmp 4]⟩
def A97:B0:=B1 150 A0L (B1 151 A4R C0)
def A6L (n:Nat) (args:List Val) (h:A0):A6:=ax A97 n A_geom_IsData.code A_geom_IsData.fin (params 0 args) h
theorem C2C (n:Nat) (a0 a1:Val) (h:A0):A6L n [a0,a1] h=bnd (cells? a0) fun c1=>bnd (A4 (h ++ [some (Row.mk (c1) true)]) 3 (.c (.p h.length 0))) fun v2=>bnd (A0L [v2] (h ++ [some (Row.mk (c1) true)])) fun p3=>bnd (gd p3.1 true (some (a1,p3.2)) (some (.no,p3.2))) fun p4=>bnd (gd p3.1 true (bnd (A4 p4.2 3 (.c (.p h.length 0))) fun v5=>some (v5,p4.2)) (some (.no,p4.2))) fun p6=>bnd (gd p3.1 true (bnd (A4R [p6.1] p6.2) fun p7=>some (p7.1,p7.2)) (some (.no,p6.2))) fun p8=>bnd (gd p3.1 true (bnd (A2 .geq p4.1 p8.1) fun v9=>some (v9,p8.2)) (some (.no,p8.2))) fun p10=>bnd (C4 p3.1 p10.1 (.c (.b false))) fun v11=>bnd (gd v11 true (some (a1,p10.2)) (some (.no,p10.2))) fun p12=>bnd (gd v11 true (bnd (A7 (.c (.p h.length 0)) 0) fun v13=>some (v13,p12.2)) (some (.no,p12.2))) fun p14=>bnd (gd v11 true (bnd (A3 p14.2 p14.1) fun v15=>some (v15,p14.2)) (some (.no,p14.2))) fun p16=>bnd (gd v11 true (bnd (A2 .lss p12.1 p16.1) fun v17=>some (v17,p16.2)) (some (.no,p16.2))) fun p18=>bnd (C4 v11 p18.1 (.c (.b false))) fun v19=>some (v19,p18.2):=by kernel_rfl
theorem K_geom_IsData:FnK Tryz.prog 72 A_geom_IsData A97 A6L:=.mk' (B3 B1a (B3 C4H C2)) Tryz.func72 (by kernel_rfl) (fun _ _ _=>C1)
def X0:Fun:=tidy (Lim A_geom_IsData A97)
theorem A7w:SOk Tryz.prog 72 X0:=K_geom_IsData.sok
theorem C4I:C9 A6L X0:=K_geom_IsData.flat
end Go.Proofs.YteckncopbicmcaaGreat
end
section
namespace Go.Proofs.YteckncopbicmcaaGreat
open Go Go.Esc
def I3 (b n:Int):Bool:=decide (16 ≤ b) && decide (b ≤ 512) && decide (8 ≤ n) && decide (n ≤ 128) && decide (n % 8=0) && decide (2 + n / 8 < b)
theorem A5V {b n:Int}:I3 b n=true ↔ 16 ≤ b ∧ b ≤ 512 ∧ 8 ≤ n ∧ n ≤ 128 ∧ n % 8=0 ∧ 2 + n / 8 < b:=by
  unfold I3;simp [and_assoc]
theorem A3E {b n:Int}:I3 b n=false ↔ ¬ (16 ≤ b ∧ b ≤ 512 ∧ 8 ≤ n ∧ n ≤ 128 ∧ n % 8=0 ∧ 2 + n / 8 < b):=by
  rw [← A5V];simp
abbrev G7 (b n m:Int):List Cell:=[.i .i64 b,.i .i64 n,.i .u64 m]
theorem A9u {b n m:Int} {h:A0}:A2d [.a (G7 b n m)] h=some (.c (.i .i64 (bif I3 b n then 0 else 1)),h):=by
  have key:∀ g,∃ g',A7g 0 [.a (G7 b n m)] g=some (.c (.i .i64 (bif I3 b n then 0 else 1)),g'):=by
    intro g
    rw [C3h]
    have bad:I3 b n=false → (some (Val.c (.i .i64 1),g ++ [some ⟨G7 b n m,true⟩]))=some (.c (.i .i64 (bif I3 b n then 0 else 1)),g ++ [some ⟨G7 b n m,true⟩]):=fun h=>by rw [h];rfl
    by_cases c1:b < 16
    · rw [A3E.2 (by omega)]
      exact ⟨_,by simp only [esc,esh,Nat.reduceAdd,Nat.reduceMul,Nat.reduceLT,c1,A2X] <;> rfl⟩
    · by_cases c2:512 < b
      · rw [A3E.2 (by omega)]
        exact ⟨_,by simp only [esc,esh,Nat.reduceAdd,Nat.reduceMul,Nat.reduceLT,c1,c2,A2X] <;> rfl⟩
      · by_cases c3:n < 8
        · rw [A3E.2 (by omega)]
          exact ⟨_,by simp only [esc,esh,Nat.reduceAdd,Nat.reduceMul,Nat.reduceLT,c1,c2,c3,A2X,A6e] <;> rfl⟩
        · by_cases c4:128 < n
          · rw [A3E.2 (by omega)]
            exact ⟨_,by simp only [esc,esh,Nat.reduceAdd,Nat.reduceMul,Nat.reduceLT,c1,c2,c3,c4,A2X,A6e] <;> rfl⟩
          · have e1:=B3d (a:=n) (b:=8) (k:=.i64) (by omega) (by omega)
            by_cases c5:n % 8=0
            · have e2:=A52 (a:=n) (b:=8) (by omega) (by omega) (by omega)
              have e3:IntKind.wrap .i64 (2 + n / 8)=2 + n / 8:=wrap_i64 (by omega) (by omega)
              by_cases c6:b ≤ 2 + n / 8
              · rw [A3E.2 (by omega)]
                exact ⟨_,by simp only [esc,esh,Nat.reduceAdd,Nat.reduceMul,Nat.reduceLT,c1,c2,c3,c4,e1,c5,e2,e3,c6,A2X,A6e] <;> rfl⟩
              · rw [A5V.2 (by omega)]
                exact ⟨_,by simp only [esc,esh,Nat.reduceAdd,Nat.reduceMul,Nat.reduceLT,c1,c2,c3,c4,e1,c5,e2,e3,c6,A2X,A6e] <;> rfl⟩
            · rw [A3E.2 (by omega)]
              exact ⟨_,by simp only [esc,esh,Nat.reduceAdd,Nat.reduceMul,Nat.reduceLT,c1,c2,c3,c4,e1,c5,A2X,A6e] <;> rfl⟩
  obtain ⟨g',e⟩:=key (ro h)
  exact C5K e (by simp)
theorem A1v {b n m:Int} {h:A0}:A0L [.a (G7 b n m)] h=some (.c (.b (I3 b n)),h):=by
  have key:∀ g,∃ g',A6P 0 [.a (G7 b n m)] g=some (.c (.b (I3 b n)),g'):=by
    intro g
    rw [C2H]
    cases c:I3 b n with
    | true=>exact ⟨_,by simp only [esc,esh,Nat.reduceAdd,Nat.reduceMul,Nat.reduceLT,A9u,c] <;> rfl⟩
    | false=>exact ⟨_,by simp only [esc,esh,Nat.reduceAdd,Nat.reduceMul,Nat.reduceLT,A9u,c,Int.reduceEq] <;> rfl⟩
  obtain ⟨g',e⟩:=key (ro h)
  exact C4Q e (by simp)
theorem C8Y {h:A0}:A4T [] h=some (.c (.i .i64 1),h) :=
  C4L (n:=0) (h2:=ro h) (by rw [C2E]) rfl
def A1M (b n:Int):Int:=bif I3 b n then 2 else 0
def A3P (b n:Int):Int:=bif I3 b n then n / 8 else 0
def A0q (b n:Int):Int:=A1M b n + A3P b n
theorem B7m {b n m:Int} {h:A0}:A14 [.a (G7 b n m)] h=some (.t [.c (.i .i64 (A1M b n)),.c (.i .i64 (A3P b n))],h):=by
  have key:∀ g,∃ g',A6N 0 [.a (G7 b n m)] g=some (.t [.c (.i .i64 (A1M b n)),.c (.i .i64 (A3P b n))],g'):=by
    intro g
    rw [C2F]
    unfold A1M A3P
    cases c:I3 b n with
    | true =>
      have c':=A5V.1 c
      have e2:=A52 (a:=n) (b:=8) (by omega) (by omega) (by omega)
      have e3:IntKind.wrap .i64 (1 + 1)=2:=wrap_i64 (by omega) (by omega)
      exact ⟨_,by simp only [esc,esh,Nat.reduceAdd,Nat.reduceMul,Nat.reduceLT,A1v,c,C8Y,e2,e3] <;> rfl⟩
    | false=>exact ⟨_,by simp only [esc,esh,Nat.reduceAdd,Nat.reduceMul,Nat.reduceLT,A1v,c] <;> rfl⟩
  obtain ⟨g',e⟩:=key (ro h)
  exact C4N e (by simp)
theorem C7A {b n:Int}:0 ≤ A0q b n ∧ A0q b n ≤ 18:=by
  unfold A0q A1M A3P
  cases c:I3 b n with
  | true=>have:=A5V.1 c;simp only [cond_true];omega
  | false=>simp only [cond_false];omega
theorem B7k {b n m:Int} {h:A0}:A4R [.a (G7 b n m)] h=some (.c (.i .i64 (A0q b n)),h):=by
  have key:∀ g,∃ g',A6K 0 [.a (G7 b n m)] g=some (.c (.i .i64 (A0q b n)),g'):=by
    intro g
    rw [C2B]
    have hr:=C7A (b:=b) (n:=n)
    have e3:IntKind.wrap .i64 (A1M b n + A3P b n)=A0q b n:=wrap_i64 (by unfold A0q at hr;omega) (by unfold A0q at hr;omega)
    exact ⟨_,by simp only [esc,esh,Nat.reduceAdd,Nat.reduceMul,Nat.reduceLT,B7m,e3] <;> rfl⟩
  obtain ⟨g',e⟩:=key (ro h)
  exact C4G e (by simp)
def O4 (b n i:Int):Bool:=I3 b n && decide (1 ≤ i) && decide (i ≤ n)
def P8 (b n i:Int):Bool:=I3 b n && decide (A0q b n ≤ i) && decide (i < b)
theorem B7l {b n m i:Int} {h:A0}:A4S [.a (G7 b n m),.c (.i .i64 i)] h=some (.c (.b (O4 b n i)),h):=by
  have key:∀ g,∃ g',A6M 0 [.a (G7 b n m),.c (.i .i64 i)] g=some (.c (.b (O4 b n i)),g'):=by
    intro g
    rw [C2D]
    unfold O4
    cases c:I3 b n with
    | true =>
      by_cases c1:1 ≤ i
      · exact ⟨_,by simp only [esc,esh,Nat.reduceAdd,Nat.reduceMul,Nat.reduceLT,A1v,c,c1] <;> rfl⟩
      · exact ⟨_,by simp only [esc,esh,Nat.reduceAdd,Nat.reduceMul,Nat.reduceLT,A1v,c,c1] <;> rfl⟩
    | false=>exact ⟨_,by simp only [esc,esh,Nat.reduceAdd,Nat.reduceMul,Nat.reduceLT,A1v,c] <;> rfl⟩
  obtain ⟨g',e⟩:=key (ro h)
  exact C4J e (by simp)
theorem A5H {b n m i:Int} {h:A0}:X0 [.a (G7 b n m),.c (.i .i64 i)] h=some (.c (.b (P8 b n i)),h):=by
  have key:∀ g,∃ g',A6L 0 [.a (G7 b n m),.c (.i .i64 i)] g=some (.c (.b (P8 b n i)),g'):=by
    intro g
    rw [C2C]
    unfold P8
    cases c:I3 b n with
    | true =>
      by_cases c1:A0q b n ≤ i
      · exact ⟨_,by simp only [esc,esh,Nat.reduceAdd,Nat.reduceMul,Nat.reduceLT,A1v,B7k,c,c1] <;> rfl⟩
      · exact ⟨_,by simp only [esc,esh,Nat.reduceAdd,Nat.reduceMul,Nat.reduceLT,A1v,B7k,c,c1] <;> rfl⟩
    | false=>exact ⟨_,by simp only [esc,esh,Nat.reduceAdd,Nat.reduceMul,Nat.reduceLT,A1v,c] <;> rfl⟩
  obtain ⟨g',e⟩:=key (ro h)
  exact C4I e (by simp)
def A22 (b n i:Int):Int:=bif O4 b n i then 2 + (i - 1) / 8 else 0
def A23 (b n i:Int):Int:=bif O4 b n i then (i - 1) % 8 else 0
theorem B8d {b n i:Int}:O4 b n i=true ↔ I3 b n=true ∧ 1 ≤ i ∧ i ≤ n:=by
  unfold O4;simp [and_assoc]
theorem B7n {b n m i:Int} {h:A0}:A4U [.a (G7 b n m),.c (.i .i64 i)] h=some (.t [.c (.i .i64 (A22 b n i)),.c (.i .i64 (A23 b n i)),.c (.b (O4 b n i))],h):=by
  have key:∀ g,∃ g',A6O 0 [.a (G7 b n m),.c (.i .i64 i)] g=some (.t [.c (.i .i64 (A22 b n i)),.c (.i .i64 (A23 b n i)),.c (.b (O4 b n i))],g'):=by
    intro g
    rw [C2G]
    unfold A22 A23
    cases c:O4 b n i with
    | true =>
      obtain ⟨c1,c2,c3⟩:=B8d.1 c
      have c':=A5V.1 c1
      have e0:A1M b n=2:=by unfold A1M;rw [c1];rfl
      have e1:IntKind.wrap .i64 (i - 1)=i - 1:=wrap_i64 (by omega) (by omega)
      have e2:=A52 (a:=i - 1) (b:=8) (by omega) (by omega) (by omega)
      have e3:IntKind.wrap .i64 (2 + (i - 1) / 8)=2 + (i - 1) / 8:=wrap_i64 (by omega) (by omega)
      have e4:=B3d (a:=i - 1) (b:=8) (k:=.i64) (by omega) (by omega)
      exact ⟨_,by simp only [esc,esh,Nat.reduceAdd,Nat.reduceMul,Nat.reduceLT,B7l,c,B7m,e0,e1,e2,e3,e4] <;> rfl⟩
    | false=>exact ⟨_,by simp only [esc,esh,Nat.reduceAdd,Nat.reduceMul,Nat.reduceLT,B7l,c] <;> rfl⟩
  obtain ⟨g',e⟩:=key (ro h)
  exact C4O e (by simp)
end Go.Proofs.YteckncopbicmcaaGreat
end
section
namespace Go.Proofs.YteckncopbicmcaaGreat
open Go Go.Esc
theorem C6N {h:A0} {id off len sz:Nat} {cs:List Cell} (hr:rd h id=some ⟨cs,true⟩) (hn:0 < len):U8 h (.c (.sl id off len sz))=some (.c (.sl id off len sz)):=by
  simp [U8,hr,hn]
def magicB:List UInt8:=[101,115,99,104,101,97,116,49]
def N1 (b n m:Int):List UInt8:=magicB ++ C3 2 b ++ C3 2 n ++ C3 8 m
def A0h (b n m:Int):List UInt8:=D4 256 (N1 b n m ++ C3 4 (A0c (N1 b n m):Nat))
theorem A0D {b n m:Int}:(N1 b n m).length=20:=by simp [N1,magicB]
theorem A6d {b n m:Int}:(A0h b n m).length=256:=J4 (by rw [List.length_append,A0D,A2w];omega)
theorem C9K {l xs:List UInt8} {a:Nat} (h1:l.length ≤ a) (h2:a + xs.length ≤ 256) (h3:a < 256):S2 (D4 256 l) a xs=D4 256 (l ++ zeros (a - l.length) ++ xs):=by
  unfold S2
  rw [if_pos (by omega)]
  simp only [Int.toNat_natCast]
  rw [List.take_of_length_le (by omega),B9F h1 h2]
theorem C0R {b n m:Int} {h:A0} (hm0:0 ≤ m) (hm1:m < 18446744073709551616) :
    A2e [.a (G7 b n m)] h=some (.t [.a (A1 (bif I3 b n then A0h b n m else zeros 256)),.c (.i .i64 (bif I3 b n then 0 else 1))],h):=by
  have key:∀ g,∃ g',A7i 0 [.a (G7 b n m)] g=some (.t [.a (A1 (bif I3 b n then A0h b n m else zeros 256)),.c (.i .i64 (bif I3 b n then 0 else 1))],g'):=by
    intro g
    have hz:(A1 (zeros 256)).length=256:=by rw [B5];exact zeros_length
    have haf:A8 (List.replicate 256 (Cell.i .u8 0)) []=some (List.replicate 256 (Cell.i .u8 0)):=rfl
    rw [M1] at haf
    rw [C3j,M1]
    cases c:I3 b n with
    | false =>
      simp only [cond_false]
      generalize zeros 256=z at *
      exact ⟨_,by simp only [esc,esh,Nat.reduceAdd,Nat.reduceMul,Nat.reduceLT,A9u,c,haf,hz,Int.reduceEq] <;> rfl⟩
    | true =>
      simp only [cond_true]
      have e7:A8 [Cell.i .u8 0,.i .u8 0,.i .u8 0,.i .u8 0,.i .u8 0,.i .u8 0,.i .u8 0,.i .u8 0] [(0,1,.c (.i .u8 101)),(1,1,.c (.i .u8 115)),(2,1,.c (.i .u8 99)),(3,1,.c (.i .u8 104)),(4,1,.c (.i .u8 101)),(5,1,.c (.i .u8 97)),(6,1,.c (.i .u8 116)),(7,1,.c (.i .u8 49))]=some (A1 magicB):=rfl
      have hmk:=C6N (h:=g ++ [some ⟨G7 b n m,true⟩,some ⟨A1 (zeros 256),true⟩,some ⟨A1 magicB,true⟩]) (id:=g.length + 2) (off:=0) (len:=8) (sz:=1) (cs:=A1 magicB) (by simp) (by omega)
      have ho:=A85 (h:=g ++ [some ⟨G7 b n m,true⟩,some ⟨A1 (zeros 256),true⟩,some ⟨A1 magicB,true⟩]) (v:=.c (.sl (g.length + 2) 0 8 1)) (nv:=8) (data:=magicB) (Has.tr (by simp) (by simp [B5,magicB]) (O6 _)) (by decide)
      rw [A89 (by decide)] at ho
      have lm:magicB.length=8:=rfl
      have w1:=fun h=>A0A (h:=h) (l:=D4 256 magicB) (J4 (by decide)) (a:=8) (w:=2) (v:=b)
      have e1:=A0G (l:=magicB) (a:=8) (w:=2) (v:=b) (by decide) (by omega) (by omega) (by omega)
      simp only [lm,Nat.sub_self,show zeros 0=[] from rfl,List.append_nil,Int.cast_ofNat_Int] at e1
      simp only [e1] at w1
      have l1:(magicB ++ C3 2 b).length=10:=by simp [lm]
      have w2:=fun h=>A0A (h:=h) (l:=D4 256 (magicB ++ C3 2 b)) (J4 (by omega)) (a:=10) (w:=2) (v:=n)
      have e2:=A0G (l:=magicB ++ C3 2 b) (a:=10) (w:=2) (v:=n) (by omega) (by omega) (by omega) (by omega)
      simp only [l1,Nat.sub_self,show zeros 0=[] from rfl,List.append_nil,Int.cast_ofNat_Int] at e2
      simp only [e2] at w2
      have l2:(magicB ++ C3 2 b ++ C3 2 n).length=12:=by simp [lm]
      have L0:(A1 (D4 256 magicB)).length=256:=by rw [B5,J4 (by decide)]
      have L1:(A1 (D4 256 (magicB ++ C3 2 b))).length=256:=by rw [B5,J4 (by omega)]
      have L2:(A1 (D4 256 (magicB ++ C3 2 b ++ C3 2 n))).length=256:=by rw [B5,J4 (by omega)]
      have L3:(A1 (D4 256 (N1 b n m))).length=256:=by rw [B5,J4 (by rw [A0D];omega)]
      have L4:(A1 (A0h b n m)).length=256:=by rw [B5,A6d]
      have mk8:A0U (.c (.i .i64 8)) (.c (.i .i64 8))=some 8:=rfl
      have hp:=D0B (h:=g ++ [some ⟨G7 b n m,true⟩,some ⟨A1 (zeros 256),true⟩,some ⟨A1 magicB,true⟩,some ⟨A1 (D4 256 (magicB ++ C3 2 b ++ C3 2 n)),true⟩,some ⟨A1 (zeros 8),true⟩]) (x:=.c (.sl (g.length + 4) 0 8 1)) (nv:=8) (l:=zeros 8) (a:=0) (w:=8) (v:=m) (Has.tr (by simp) (by simp [B5]) (O6 _)) (by simp)
      have ep:V7 (zeros 8) 0 8 m=some (C3 8 m):=by
        unfold V7
        rw [if_pos ⟨by omega,by decide⟩]
        unfold D2
        simp [zeros]
      rw [ep] at hp
      simp only [Option.getD_some,Option.isSome_some,A2w] at hp
      have hl:=B2Y (h:=g ++ [some ⟨G7 b n m,true⟩,some ⟨A1 (zeros 256),true⟩,some ⟨A1 magicB,true⟩,some ⟨A1 (D4 256 (magicB ++ C3 2 b ++ C3 2 n)),true⟩,some ⟨A1 (zeros 8),true⟩,some ⟨A1 (C3 8 m),true⟩]) (v:=.c (.sl (g.length + 5) 0 8 1)) (nv:=8) (data:=C3 8 m) (l:=D4 256 (magicB ++ C3 2 b ++ C3 2 n)) (a:=12) (Has.tr (by simp) (by simp [B5]) (O6 _)) (J4 (by omega)) (by simp)
      have e3:=C9K (l:=magicB ++ C3 2 b ++ C3 2 n) (xs:=C3 8 m) (a:=12) (by omega) (by simp) (by omega)
      simp only [l2,Nat.sub_self,show zeros 0=[] from rfl,List.append_nil,Int.cast_ofNat_Int] at e3
      rw [e3] at hl
      have hc:=fun h=>A80 (h:=h) (l:=D4 256 (N1 b n m)) (J4 (by rw [A0D];omega)) (a:=0) (n:=20)
      have e4:P7 (D4 256 (N1 b n m)) 0 20=N1 b n m:=by
        unfold P7 D4
        rw [if_pos (by omega)]
        simp only [Int.toNat_zero,List.drop_zero]
        exact List.take_left' A0D
      simp only [e4,A0D] at hc
      have hstr:=(Has.tr (h:=g ++ [some ⟨G7 b n m,true⟩,some ⟨A1 (zeros 256),true⟩,some ⟨A1 magicB,true⟩,some ⟨A1 (D4 256 (N1 b n m)),true⟩,some ⟨A1 (zeros 8),true⟩,some ⟨A1 (C3 8 m),true⟩,some ⟨A1 (N1 b n m),true⟩]) (id:=g.length + 6) (sz:=1) (n:=20) (cs:=A1 (N1 b n m)) (by simp) (by rw [B5,A0D]) (O6 _)).str
      have hmx:=fun h=>B8D (s:=N1 b n m) (h:=h) (by rw [A0D];omega)
      have hmlt:=B8x (s:=N1 b n m)
      have e5:IntKind.wrap .i64 ((A0c (N1 b n m):Nat):Int)=(A0c (N1 b n m):Nat):=wrap_i64 (by omega) (by omega)
      have w3:=fun h=>A0A (h:=h) (l:=D4 256 (N1 b n m)) (J4 (by rw [A0D];omega)) (a:=20) (w:=4) (v:=(A0c (N1 b n m):Nat))
      have e6:=A0G (l:=N1 b n m) (a:=20) (w:=4) (v:=(A0c (N1 b n m):Nat)) (by rw [A0D];omega) (by omega) (by omega) (by omega)
      simp only [A0D,Nat.sub_self,show zeros 0=[] from rfl,List.append_nil,Int.cast_ofNat_Int] at e6
      simp only [e6] at w3
      have eS:magicB ++ C3 2 b ++ C3 2 n ++ C3 8 m=N1 b n m:=rfl
      rw [eS] at hl
      have rz:=B3f 8
      change ∀ h,Q9 [_,_,_,_] h=some (.a (A1 (A0h b n m)),h) at w3
      generalize A0h b n m=SB at *
      generalize D4 256 magicB=P0 at *
      generalize D4 256 (magicB ++ C3 2 b)=P1 at *
      generalize D4 256 (magicB ++ C3 2 b ++ C3 2 n)=P2 at *
      generalize D4 256 (N1 b n m)=P3 at *
      simp only [esc] at hp
      generalize zeros 256=z at *
      generalize zeros 8=z8 at *
      exact ⟨_,by simp only [esc,esh,Nat.reduceAdd,Nat.reduceMul,Nat.reduceLT,A9u,c,e7,hmk,ho,hz,L0,w1,L1,w2,L2,mk8,rz,hp,hl,L3,hc,hstr,hmx,e5,w3,L4] <;> rfl⟩
  obtain ⟨g',e⟩:=key (ro h)
  exact C5N e (by simp)
theorem B5i {b:List UInt8} {a w:Nat} (hb:b.length=256) (h1:a + w ≤ 256) (hw:1 ≤ w) (hw4:w ≤ 4):((atN b a w:Nat):Int)=fieldN b a w:=by
  unfold atN fieldN
  rw [if_pos ⟨by omega,A0i.2 (by omega)⟩]
  simp only [Int.toNat_natCast]
theorem C8Z {b:List UInt8} (hb:b.length=256):A5J (P7 b 12 8) 0 8=some (le ((b.drop 12).take 8)):=by
  have hc:P7 b 12 8=(b.drop 12).take 8:=by
    unfold P7
    rw [if_pos (by omega)];rfl
  have hl:((b.drop 12).take 8).length=8:=by simp;omega
  unfold A5J
  rw [hc,hl,if_pos ⟨by omega,by decide⟩]
  simp only [Int.toNat_zero,List.drop_zero]
  rw [List.take_of_length_le (by rw [hl];decide)]
def okS (b:List UInt8):Bool:=I3 (fieldN b 8 2) (fieldN b 10 2) && decide (A0h (fieldN b 8 2) (fieldN b 10 2) (fieldN b 12 8)=b)
def A3A (b:List UInt8):List Cell:=bif okS b then G7 (fieldN b 8 2) (fieldN b 10 2) (fieldN b 12 8) else G7 0 0 0
theorem B6T (b:List UInt8):0 ≤ fieldN b 12 8 ∧ fieldN b 12 8 < 18446744073709551616:=by
  unfold fieldN
  have h1:=A5O ((b.drop 12).take 8)
  have h2:((b.drop 12).take 8).length ≤ 8:=by simp;omega
  have h3:=A9f h2
  have h4:(256:Nat) ^ 8=18446744073709551616:=by decide
  omega
end Go.Proofs.YteckncopbicmcaaGreat
end
section
namespace Go.Proofs.YteckncopbicmcaaGreat
open Go Go.Esc
theorem D2P {b:List UInt8} {h:A0} (hb:b.length=256):A5e [.a (A1 b)] h=some (.t [.a (A3A b),.c (.i .i64 (bif okS b then 0 else 13))],h):=by
  have key:∀ g,∃ g',A7h 0 [.a (A1 b)] g=some (.t [.a (A3A b),.c (.i .i64 (bif okS b then 0 else 13))],g'):=by
    intro g
    have hl:(A1 b).length=256:=by rw [B5,hb]
    have hc:=A80 (h:=g ++ [some ⟨A1 b,true⟩,some ⟨G7 0 0 0,true⟩]) hb (a:=12) (n:=8)
    have hcl:(P7 b 12 8).length=8:=by unfold P7;rw [if_pos (by omega)];simp;omega
    rw [hcl] at hc
    have hg:=D0t (h:=g ++ [some ⟨A1 b,true⟩,some ⟨G7 0 0 0,true⟩,some ⟨A1 (P7 b 12 8),true⟩]) (v:=.c (.sl (g.length + 2) 0 8 1)) (nv:=8) (l:=P7 b 12 8) (Has.tr (by simp) (by rw [B5,hcl]) (O6 _)) (a:=0) (w:=8) (by rw [hcl];omega)
    rw [C8Z hb] at hg
    simp only [Option.getD_some,Option.isSome_some] at hg
    have a1:=fun h=>A06 (h:=h) hb (a:=8) (w:=2)
    have a2:=fun h=>A06 (h:=h) hb (a:=10) (w:=2)
    have f1:=B5i (a:=8) (w:=2) hb (by omega) (by omega) (by omega)
    have f2:=B5i (a:=10) (w:=2) hb (by omega) (by omega) (by omega)
    simp only [Int.cast_ofNat_Int] at f1 f2
    simp only [f1] at a1
    simp only [f2] at a2
    have e12:((le ((b.drop 12).take 8):Nat):Int)=fieldN b 12 8:=rfl
    rw [e12] at hg
    have ef:∀ x y z:Int,A8 (G7 0 0 0) [(0,1,.c (.i .i64 x)),(1,1,.c (.i .i64 y)),(2,1,.c (.i .u64 z))]=some (G7 x y z):=fun _ _ _=>rfl
    have ef0:A8 (G7 0 0 0) []=some (G7 0 0 0):=rfl
    have hp:=fun h=>C0R (b:=fieldN b 8 2) (n:=fieldN b 10 2) (m:=fieldN b 12 8) (h:=h) (B6T b).1 (B6T b).2
    have hz:(List.replicate 256 (Cell.i .u8 0)).length=256:=List.length_replicate
    have hS:(A1 (A0h (fieldN b 8 2) (fieldN b 10 2) (fieldN b 12 8))).length=256:=by rw [B5,A6d]
    have hZ:(A1 (zeros 256)).length=256:=by rw [B5];exact zeros_length
    have hq:=A7D (l:=A0h (fieldN b 8 2) (fieldN b 10 2) (fieldN b 12 8)) (m:=b) (n:=256) A6d hb
    simp only [esc] at hc
    rw [C3i]
    unfold A3A okS
    generalize List.replicate 256 (Cell.i .u8 0)=z at *
    cases c:I3 (fieldN b 8 2) (fieldN b 10 2) with
    | false =>
      simp only [c,cond_false] at hp
      generalize zeros 256=zz at *
      exact ⟨_,by simp only [esc,esh,Nat.reduceAdd,Nat.reduceMul,Nat.reduceLT,hl,hc,hg,a1,a2,ef,ef0,hp,hz,hZ,Bool.false_and,Int.reduceEq] <;> rfl⟩
    | true =>
      simp only [c,cond_true] at hp
      cases c2:decide (A0h (fieldN b 8 2) (fieldN b 10 2) (fieldN b 12 8)=b) with
      | false =>
        rw [c2] at hq
        exact ⟨_,by simp only [esc,esh,Nat.reduceAdd,Nat.reduceMul,Nat.reduceLT,hl,hc,hg,a1,a2,ef,ef0,hp,hz,hS,hq,Bool.and_false] <;> rfl⟩
      | true =>
        rw [c2] at hq
        exact ⟨_,by simp only [esc,esh,Nat.reduceAdd,Nat.reduceMul,Nat.reduceLT,hl,hc,hg,a1,a2,ef,ef0,hp,hz,hS,hq,Bool.and_true] <;> rfl⟩
  obtain ⟨g',e⟩:=key (ro h)
  refine C5L e ?_
  unfold A3A
  cases okS b <;> simp
end Go.Proofs.YteckncopbicmcaaGreat
end
noncomputable section
namespace Go.Proofs.YteckncopbicmcaaGreat
open Go Go.Esc
set_option maxRecDepth 100000
def A_inode_small:AFn:=⟨.seq [0] (.ops [aO 2 (.mv (.v (.c (.b false))))]) (.seq [2] (.ops [aO 3 (.mv (.t 0)),aO 4 (.bin .geq (.t 3) (.v (.c (.i .i64 0)))),aO 5 (.mv (.t 4)),aG 6 5 true (.mv (.t 0)),aG 7 5 true (.bin .leq (.t 6) (.v (.c (.i .i64 65535)))),aO 8 (.pick (.t 5) (.t 7) (.v (.c (.b false)))),aO 2 (.mv (.t 8))]) .ret),[.tmp 2]⟩
def B0i:B0:=C0
def B0V (n:Nat) (args:List Val) (h:A0):A6:=ax B0i n A_inode_small.code A_inode_small.fin (params 0 args) h
theorem C2V (n:Nat) (a0:Val) (h:A0):B0V n [a0] h=bnd (A2 .geq a0 (.c (.i .i64 0))) fun v1=>bnd (gd v1 true (some (a0,h)) (some (.no,h))) fun p2=>bnd (gd v1 true (bnd (A2 .leq p2.1 (.c (.i .i64 65535))) fun v3=>some (v3,p2.2)) (some (.no,p2.2))) fun p4=>bnd (C4 v1 p4.1 (.c (.b false))) fun v5=>some (v5,p4.2):=by kernel_rfl
theorem K_inode_small:FnK Tryz.prog 270 A_inode_small B0i B0V:=.mk' (C2) Tryz.func270 (by kernel_rfl) (fun _ _ _=>C1)
def A19:Fun:=tidy (Lim A_inode_small B0i)
theorem C5d:SOk Tryz.prog 270 A19:=K_inode_small.sok
theorem C5c:C9 B0V A19:=K_inode_small.flat
def B70:ACode:=.seq [1,2,3,7,8,9] (.ops [aO 9 (.bin .lss (.t 8) (.v (.c (.i .i64 6))))]) (.seq [1,2,3,7,8] (.cond (.t 9) .skip (.exit 0)) (.seq [1,2,3,7,8] (.block 1 (.seq [1,2,3,4,5,7,8] (.ops [aO 10 (.mv (.t 8)),aO 11 (.idxA1 6 (.t 7) (.t 8)),aO 4 (.mv (.t 10)),aO 5 (.mv (.t 11))]) (.ops [aO 12 (.mv (.t 4)),aO 13 (.mv (.t 5)),aO 14 (.iAddrA 7 1 (.t 3) (.t 12)),aN (.store1 (.t 14) (.t 13))]))) (.ops [aO 15 (.bin .add (.t 8) (.v (.c (.i .i64 1)))),aO 8 (.mv (.t 15))])))
def B71:ACode:=.seq [2,3] (.ops [aO 16 (.fAddr (.t 1) 10),aO 17 (.load1 (.t 16)),aO 18 (.iAddrA 7 1 (.t 3) (.v (.c (.i .i64 6)))),aN (.store1 (.t 18) (.t 17))]) (.seq [2] (.ops [aO 19 (.loadN 7 (.t 3)),aN (.storeN 7 (.t 2) (.t 19))]) .ret)
def A_inode_Numbers:AFn:=⟨.seq [1,2] (.ops [aO 1 (.box (.t 0)),aO 2 (.alloc ([.i .i64 0,.i .i64 0,.i .i64 0,.i .i64 0,.i .i64 0,.i .i64 0,.i .i64 0]))]) (.seq [1,2,3] (.ops [aO 3 (.alloc ([.i .i64 0,.i .i64 0,.i .i64 0,.i .i64 0,.i .i64 0,.i .i64 0,.i .i64 0]))]) (.seq [1,2,3] (.seq [1,2,3,7,8] (.ops [aO 6 (.fAddr (.t 1) 4),aO 7 (.loadN 6 (.t 6)),aO 8 (.mv (.v (.c (.i .i64 0))))]) (.block 0 (.loop [1,2,3,7,8] B70))) B71)),[.cellN 2 7]⟩
def A4a:B0:=C0
def C9v (n:Nat):A9 (Val × A0):=E4 [1,2,3] (ax A4a n B71) A_inode_Numbers.fin
def C9w (n:Nat):A9 (Val × A0):=D6 0 (C9v n)
def A8B (n m:Nat) (x1 x2 x3 x7 x8:Val) (h:A0):A6:=C6 (ax A4a n B70) [1,2,3,7,8] (C9w n) m [(1,x1),(2,x2),(3,x3),(7,x7),(8,x8)] h
def A60 (n:Nat) (args:List Val) (h:A0):A6:=ax A4a n A_inode_Numbers.code A_inode_Numbers.fin (params 0 args) h
theorem C2T (n:Nat) (a0:Val) (h:A0):A60 n [a0] h=bnd (cells? a0) fun c1=>bnd (A7 (.c (.p h.length 0)) 4) fun v2=>bnd (A4 (((h ++ [some (Row.mk (c1) true)]) ++ [some (Row.mk ([.i .i64 0,.i .i64 0,.i .i64 0,.i .i64 0,.i .i64 0,.i .i64 0,.i .i64 0]) true)]) ++ [some (Row.mk ([.i .i64 0,.i .i64 0,.i .i64 0,.i .i64 0,.i .i64 0,.i .i64 0,.i .i64 0]) true)]) 6 v2) fun v3=>A8B n n (.c (.p h.length 0)) (.c (.p (h ++ [some (Row.mk (c1) true)]).length 0)) (.c (.p ((h ++ [some (Row.mk (c1) true)]) ++ [some (Row.mk ([.i .i64 0,.i .i64 0,.i .i64 0,.i .i64 0,.i .i64 0,.i .i64 0,.i .i64 0]) true)]).length 0)) v3 (.c (.i .i64 0)) (((h ++ [some (Row.mk (c1) true)]) ++ [some (Row.mk ([.i .i64 0,.i .i64 0,.i .i64 0,.i .i64 0,.i .i64 0,.i .i64 0,.i .i64 0]) true)]) ++ [some (Row.mk ([.i .i64 0,.i .i64 0,.i .i64 0,.i .i64 0,.i .i64 0,.i .i64 0,.i .i64 0]) true)]):=by kernel_rfl
theorem B72 (n m:Nat) (x1 x2 x3 x7 x8:Val) (h:A0):A8B n (m + 1) x1 x2 x3 x7 x8 h=bnd (A2 .lss x8 (.c (.i .i64 6))) fun v4=>cnd v4 (bnd (W1 6 x7 x8) fun v5=>bnd (E1 7 1 x3 x8) fun v6=>bnd (E7 h v6 v5) fun h7=>bnd (A2 .add x8 (.c (.i .i64 1))) fun v8=>A8B n m x1 x2 x3 x7 v8 h7) (bnd (A7 x1 10) fun v9=>bnd (A3 h v9) fun v10=>bnd (E1 7 1 x3 (.c (.i .i64 6))) fun v11=>bnd (E7 h v11 v10) fun h12=>bnd (A4 h12 7 x3) fun v13=>bnd (B4 h12 7 x2 v13) fun h14=>mp (A4 h14 7 x2) fun v=>(v,h14)):=by kernel_rfl
theorem K_inode_Numbers:FnK Tryz.prog 194 A_inode_Numbers A4a A60:=.mk' (C2) Tryz.func194 (by kernel_rfl) (fun _ _ _=>C1)
def A17:Fun:=tidy (Lim A_inode_Numbers A4a)
theorem B4r:SOk Tryz.prog 194 A17:=K_inode_Numbers.sok
theorem C5a:C9 A60 A17:=K_inode_Numbers.flat
def B7T:ACode:=.seq [44,45,46] (.ops [aO 46 (.bin .lss (.t 45) (.v (.c (.i .i64 7))))]) (.seq [44,45] (.cond (.t 46) .skip (.exit 0)) (.seq [44,45] (.block 1 (.seq [4,44,45] (.ops [aO 47 (.idxA1 7 (.t 44) (.t 45)),aO 4 (.mv (.t 47))]) (.seq [44,45,50] (.ops [aO 48 (.mv (.t 4)),aO 49 (.call 270 [(.t 48)]),aO 50 (.un .not (.t 49))]) (.cond (.t 50) (.seq [2] (.ops [aO 2 (.mv (.v (.c (.i .i64 1))))]) .ret) .skip)))) (.ops [aO 51 (.bin .add (.t 45) (.v (.c (.i .i64 1)))),aO 45 (.mv (.t 51))])))
def B7U:ACode:=.seq [2] (.ops [aO 2 (.mv (.v (.c (.i .i64 0))))]) .ret
def A_inode_Check:AFn:=⟨.seq [1] (.ops [aO 1 (.box (.t 0)),aO 2 (.mv (.v (.c (.i .i64 0))))]) (.seq [1] (.seq [1,22] (.ops [aO 5 (.fAddr (.t 1) 0),aO 6 (.load1 (.t 5)),aO 7 (.bin .lss (.t 6) (.v (.c (.i .i64 0)))),aO 8 (.mv (.t 7)),aG 9 8 false (.fAddr (.t 1) 0),aG 10 8 false (.load1 (.t 9)),aG 11 8 false (.bin .gtr (.t 10) (.v (.c (.i .i64 2)))),aO 12 (.pick (.t 8) (.v (.c (.b true))) (.t 11)),aO 13 (.mv (.t 12)),aG 14 13 false (.fAddr (.t 1) 0),aG 15 13 false (.load1 (.t 14)),aG 16 13 false (.bin .eql (.t 15) (.v (.c (.i .i64 0)))),aG 17 13 false (.mv (.t 16)),aG 18 17 true (.loadN 11 (.t 1)),aG 19 17 true (.build ([.i .i64 0,.i .i64 0,.i .i64 0,.i .i64 0,.i .i64 0,.i .i64 0,.i .i64 0,.i .i64 0,.i .i64 0,.i .i64 0,.i .i64 0]) []),aG 20 17 true (.eqA true ([.i .i64,.i .i64,.i .i64,.i .i64,.i .i64,.i .i64,.i .i64,.i .i64,.i .i64,.i .i64,.i .i64]) (.t 18) (.t 19)),aG 21 13 false (.pick (.t 17) (.t 20) (.v (.c (.b false)))),aO 22 (.pick (.t 13) (.v (.c (.b true))) (.t 21))]) (.cond (.t 22) (.seq [2] (.ops [aO 2 (.mv (.v (.c (.i .i64 1))))]) .ret) .skip)) (.seq [1] (.seq [1,42] (.ops [aO 23 (.fAddr (.t 1) 1),aO 24 (.load1 (.t 23)),aO 25 (.call 270 [(.t 24)]),aO 26 (.un .not (.t 25)),aO 27 (.mv (.t 26)),aG 28 27 false (.fAddr (.t 1) 3),aG 29 27 false (.load1 (.t 28)),aG 30 27 false (.call 270 [(.t 29)]),aG 31 27 false (.un .not (.t 30)),aO 32 (.pick (.t 27) (.v (.c (.b true))) (.t 31)),aO 33 (.mv (.t 32)),aG 34 33 false (.fAddr (.t 1) 2),aG 35 33 false (.load1 (.t 34)),aG 36 33 false (.bin .lss (.t 35) (.v (.c (.i .i64 0)))),aO 37 (.pick (.t 33) (.v (.c (.b true))) (.t 36)),aO 38 (.mv (.t 37)),aG 39 38 false (.fAddr (.t 1) 2),aG 40 38 false (.load1 (.t 39)),aG 41 38 false (.bin .gtr (.t 40) (.v (.c (.i .i64 34304)))),aO 42 (.pick (.t 38) (.v (.c (.b true))) (.t 41))]) (.cond (.t 42) (.seq [2] (.ops [aO 2 (.mv (.v (.c (.i .i64 1))))]) .ret) .skip)) (.seq [] (.seq [44,45] (.ops [aO 43 (.loadN 11 (.t 1)),aO 44 (.call 194 [(.t 43)]),aO 45 (.mv (.v (.c (.i .i64 0))))]) (.block 0 (.loop [44,45] B7T))) B7U))),[.tmp 2]⟩
def A38:B0:=B1 270 A19 (B1 194 A17 C0)
def C9q (n:Nat):A9 (Val × A0):=E4 [] (ax A38 n B7U) A_inode_Check.fin
def C9r (n:Nat):A9 (Val × A0):=D6 0 (C9q n)
def A8z (n m:Nat) (x44 x45:Val) (h:A0):A6:=C6 (ax A38 n B7T) [44,45] (C9r n) m [(44,x44),(45,x45)] h
def A6X (n:Nat) (args:List Val) (h:A0):A6:=ax A38 n A_inode_Check.code A_inode_Check.fin (params 0 args) h
theorem C2Q (n:Nat) (a0:Val) (h:A0):A6X n [a0] h=bnd (cells? a0) fun c1=>bnd (A7 (.c (.p h.length 0)) 0) fun v2=>bnd (A3 (h ++ [some (Row.mk (c1) true)]) v2) fun v3=>bnd (A2 .lss v3 (.c (.i .i64 0))) fun v4=>bnd (gd v4 false (bnd (A7 (.c (.p h.length 0)) 0) fun v5=>some (v5,(h ++ [some (Row.mk (c1) true)]))) (some (.no,(h ++ [some (Row.mk (c1) true)])))) fun p6=>bnd (gd v4 false (bnd (A3 p6.2 p6.1) fun v7=>some (v7,p6.2)) (some (.no,p6.2))) fun p8=>bnd (gd v4 false (bnd (A2 .gtr p8.1 (.c (.i .i64 2))) fun v9=>some (v9,p8.2)) (some (.no,p8.2))) fun p10=>bnd (C4 v4 (.c (.b true)) p10.1) fun v11=>bnd (gd v11 false (bnd (A7 (.c (.p h.length 0)) 0) fun v12=>some (v12,p10.2)) (some (.no,p10.2))) fun p13=>bnd (gd v11 false (bnd (A3 p13.2 p13.1) fun v14=>some (v14,p13.2)) (some (.no,p13.2))) fun p15=>bnd (gd v11 false (bnd (A2 .eql p15.1 (.c (.i .i64 0))) fun v16=>some (v16,p15.2)) (some (.no,p15.2))) fun p17=>bnd (gd v11 false (some (p17.1,p17.2)) (some (.no,p17.2))) fun p18=>bnd (gd p18.1 true (bnd (A4 p18.2 11 (.c (.p h.length 0))) fun v19=>some (v19,p18.2)) (some (.no,p18.2))) fun p20=>bnd (gd p18.1 true (bnd (A8 ([.i .i64 0,.i .i64 0,.i .i64 0,.i .i64 0,.i .i64 0,.i .i64 0,.i .i64 0,.i .i64 0,.i .i64 0,.i .i64 0,.i .i64 0]) []) fun c21=>some ((.a c21),p20.2)) (some (.no,p20.2))) fun p22=>bnd (gd p18.1 true (bnd (aeq true ([.i .i64,.i .i64,.i .i64,.i .i64,.i .i64,.i .i64,.i .i64,.i .i64,.i .i64,.i .i64,.i .i64]) p20.1 p22.1) fun v23=>some (v23,p22.2)) (some (.no,p22.2))) fun p24=>bnd (gd v11 false (bnd (C4 p18.1 p24.1 (.c (.b false))) fun v25=>some (v25,p24.2)) (some (.no,p24.2))) fun p26=>bnd (C4 v11 (.c (.b true)) p26.1) fun v27=>cnd v27 (some ((.c (.i .i64 1)),p26.2)) (bnd (A7 (.c (.p h.length 0)) 1) fun v28=>bnd (A3 p26.2 v28) fun v29=>bnd (A19 [v29] p26.2) fun p30=>bnd (aun .not p30.1) fun v31=>bnd (gd v31 false (bnd (A7 (.c (.p h.length 0)) 3) fun v32=>some (v32,p30.2)) (some (.no,p30.2))) fun p33=>bnd (gd v31 false (bnd (A3 p33.2 p33.1) fun v34=>some (v34,p33.2)) (some (.no,p33.2))) fun p35=>bnd (gd v31 false (bnd (A19 [p35.1] p35.2) fun p36=>some (p36.1,p36.2)) (some (.no,p35.2))) fun p37=>bnd (gd v31 false (bnd (aun .not p37.1) fun v38=>some (v38,p37.2)) (some (.no,p37.2))) fun p39=>bnd (C4 v31 (.c (.b true)) p39.1) fun v40=>bnd (gd v40 false (bnd (A7 (.c (.p h.length 0)) 2) fun v41=>some (v41,p39.2)) (some (.no,p39.2))) fun p42=>bnd (gd v40 false (bnd (A3 p42.2 p42.1) fun v43=>some (v43,p42.2)) (some (.no,p42.2))) fun p44=>bnd (gd v40 false (bnd (A2 .lss p44.1 (.c (.i .i64 0))) fun v45=>some (v45,p44.2)) (some (.no,p44.2))) fun p46=>bnd (C4 v40 (.c (.b true)) p46.1) fun v47=>bnd (gd v47 false (bnd (A7 (.c (.p h.length 0)) 2) fun v48=>some (v48,p46.2)) (some (.no,p46.2))) fun p49=>bnd (gd v47 false (bnd (A3 p49.2 p49.1) fun v50=>some (v50,p49.2)) (some (.no,p49.2))) fun p51=>bnd (gd v47 false (bnd (A2 .gtr p51.1 (.c (.i .i64 34304))) fun v52=>some (v52,p51.2)) (some (.no,p51.2))) fun p53=>bnd (C4 v47 (.c (.b true)) p53.1) fun v54=>cnd v54 (some ((.c (.i .i64 1)),p53.2)) (bnd (A4 p53.2 11 (.c (.p h.length 0))) fun v55=>bnd (A17 [v55] p53.2) fun p56=>A8z n n p56.1 (.c (.i .i64 0)) p56.2)):=by kernel_rfl
theorem B7W (n m:Nat) (x44 x45:Val) (h:A0):A8z n (m + 1) x44 x45 h=bnd (A2 .lss x45 (.c (.i .i64 7))) fun v57=>cnd v57 (bnd (W1 7 x44 x45) fun v58=>bnd (A19 [v58] h) fun p59=>bnd (aun .not p59.1) fun v60=>cnd v60 (some ((.c (.i .i64 1)),p59.2)) (bnd (A2 .add x45 (.c (.i .i64 1))) fun v61=>A8z n m x44 v61 p59.2)) (some ((.c (.i .i64 0)),h)):=by kernel_rfl
theorem K_inode_Check:FnK Tryz.prog 252 A_inode_Check A38 A6X:=.mk' (B3 C5d (B3 B4r C2)) Tryz.func252 (by kernel_rfl) (fun _ _ _=>C1)
def A40:Fun:=tidy (Lim A_inode_Check A38)
theorem C45:SOk Tryz.prog 252 A40:=K_inode_Check.sok
theorem C44:C9 A6X A40:=K_inode_Check.flat
def B73:ACode:=.seq [2,4,6,33,34,35] (.ops [aO 35 (.bin .lss (.t 34) (.v (.c (.i .i64 7))))]) (.seq [2,4,6,33,34] (.cond (.t 35) .skip (.exit 0)) (.seq [2,4,6,33,34] (.block 1 (.seq [2,4,6,7,8,33,34] (.ops [aO 36 (.mv (.t 34)),aO 37 (.idxA1 7 (.t 33) (.t 34)),aO 7 (.mv (.t 36)),aO 8 (.mv (.t 37))]) (.ops [aO 38 (.loadN 256 (.t 6)),aO 39 (.mv (.t 7)),aO 40 (.bin .mul (.v (.c (.i .i64 2))) (.t 39)),aO 41 (.bin .add (.v (.c (.i .i64 10))) (.t 40)),aO 42 (.mv (.t 8)),aO 43 (.call 213 [(.t 38),(.t 41),(.v (.c (.i .i64 2))),(.t 42)]),aN (.storeN 256 (.t 6) (.t 43))]))) (.ops [aO 44 (.bin .add (.t 34) (.v (.c (.i .i64 1)))),aO 34 (.mv (.t 44))])))
def B75:ACode:=.seq [2,4,6,45,46] (.ops [aO 46 (.bin .lss (.t 45) (.v (.c (.i .i64 32))))]) (.seq [2,4,6,45] (.cond (.t 46) .skip (.exit 2)) (.seq [2,4,6,45] (.block 3 (.seq [2,4,6,9,45] (.ops [aO 47 (.mv (.t 45)),aO 9 (.mv (.t 47))]) (.ops [aO 48 (.mv (.t 9)),aO 49 (.mv (.t 9)),aO 50 (.iAddrA 256 1 (.t 6) (.t 49)),aO 51 (.load1 (.t 50)),aO 52 (.iAddrA 32 1 (.t 4) (.t 48)),aN (.store1 (.t 52) (.t 51))]))) (.ops [aO 53 (.bin .add (.t 45) (.v (.c (.i .i64 1)))),aO 45 (.mv (.t 53))])))
def B76:ACode:=.seq [2,3] (.ops [aO 54 (.loadN 32 (.t 4)),aN (.storeN 32 (.t 2) (.t 54)),aO 3 (.mv (.v (.c (.i .i64 0))))]) .ret
def B74:ACode:=.seq [2,4] (.seq [2,4,6,45] (.ops [aO 45 (.mv (.v (.c (.i .i64 0))))]) (.block 2 (.loop [2,4,6,45] B75))) B76
def A_inode_Put:AFn:=⟨.seq [1,2] (.ops [aO 1 (.box (.t 0)),aO 2 (.alloc (List.replicate 32 (.i .u8 0))),aO 3 (.mv (.v (.c (.i .i64 0))))]) (.seq [1,2,4] (.ops [aO 4 (.alloc (List.replicate 32 (.i .u8 0)))]) (.seq [1,2,4] (.seq [1,2,4,5] (.ops [aO 10 (.loadN 11 (.t 1)),aO 11 (.call 252 [(.t 10)]),aO 5 (.mv (.t 11))]) (.seq [1,2,4,5,13] (.ops [aO 12 (.mv (.t 5)),aO 13 (.bin .neq (.t 12) (.v (.c (.i .i64 0))))]) (.cond (.t 13) (.seq [2,3] (.ops [aO 14 (.loadN 32 (.t 4)),aO 15 (.mv (.t 5)),aN (.storeN 32 (.t 2) (.t 14)),aO 3 (.mv (.t 15))]) .ret) .skip))) (.seq [1,2,4,6] (.ops [aO 6 (.alloc (List.replicate 256 (.i .u8 0)))]) (.seq [1,2,4,6] (.ops [aO 16 (.loadN 256 (.t 6)),aO 17 (.fAddr (.t 1) 0),aO 18 (.load1 (.t 17)),aO 19 (.call 213 [(.t 16),(.v (.c (.i .i64 0))),(.v (.c (.i .i64 1))),(.t 18)]),aN (.storeN 256 (.t 6) (.t 19))]) (.seq [1,2,4,6] (.ops [aO 20 (.loadN 256 (.t 6)),aO 21 (.fAddr (.t 1) 1),aO 22 (.load1 (.t 21)),aO 23 (.call 213 [(.t 20),(.v (.c (.i .i64 2))),(.v (.c (.i .i64 2))),(.t 22)]),aN (.storeN 256 (.t 6) (.t 23))]) (.seq [1,2,4,6] (.ops [aO 24 (.loadN 256 (.t 6)),aO 25 (.fAddr (.t 1) 2),aO 26 (.load1 (.t 25)),aO 27 (.call 213 [(.t 24),(.v (.c (.i .i64 4))),(.v (.c (.i .i64 4))),(.t 26)]),aN (.storeN 256 (.t 6) (.t 27))]) (.seq [1,2,4,6] (.ops [aO 28 (.loadN 256 (.t 6)),aO 29 (.fAddr (.t 1) 3),aO 30 (.load1 (.t 29)),aO 31 (.call 213 [(.t 28),(.v (.c (.i .i64 8))),(.v (.c (.i .i64 2))),(.t 30)]),aN (.storeN 256 (.t 6) (.t 31))]) (.seq [2,4,6] (.seq [2,4,6,33,34] (.ops [aO 32 (.loadN 11 (.t 1)),aO 33 (.call 194 [(.t 32)]),aO 34 (.mv (.v (.c (.i .i64 0))))]) (.block 0 (.loop [2,4,6,33,34] B73))) B74)))))))),[.cellN 2 32,.tmp 3]⟩
def A1T:B0:=B1 252 A40 (B1 213 Q9 (B1 194 A17 C0))
def C9x (n:Nat):A9 (Val × A0):=E4 [2,4,6] (ax A1T n B74) A_inode_Put.fin
def C9y (n:Nat):A9 (Val × A0):=D6 0 (C9x n)
def A8C (n m:Nat) (x2 x4 x6 x33 x34:Val) (h:A0):A6:=C6 (ax A1T n B73) [2,4,6,33,34] (C9y n) m [(2,x2),(4,x4),(6,x6),(33,x33),(34,x34)] h
def A61 (n:Nat) (args:List Val) (h:A0):A6:=ax A1T n A_inode_Put.code A_inode_Put.fin (params 0 args) h
def C9z (n:Nat):A9 (Val × A0):=E4 [2,4] (ax A1T n B76) A_inode_Put.fin
def C9A (n:Nat):A9 (Val × A0):=D6 2 (C9z n)
def A8D (n m:Nat) (x2 x4 x6 x45:Val) (h:A0):A6:=C6 (ax A1T n B75) [2,4,6,45] (C9A n) m [(2,x2),(4,x4),(6,x6),(45,x45)] h
theorem C2U (n:Nat) (a0:Val) (h:A0):A61 n [a0] h=bnd (cells? a0) fun c1=>bnd (A4 (((h ++ [some (Row.mk (c1) true)]) ++ [some (Row.mk (List.replicate 32 (.i .u8 0)) true)]) ++ [some (Row.mk (List.replicate 32 (.i .u8 0)) true)]) 11 (.c (.p h.length 0))) fun v2=>bnd (A40 [v2] (((h ++ [some (Row.mk (c1) true)]) ++ [some (Row.mk (List.replicate 32 (.i .u8 0)) true)]) ++ [some (Row.mk (List.replicate 32 (.i .u8 0)) true)])) fun p3=>bnd (A2 .neq p3.1 (.c (.i .i64 0))) fun v4=>cnd v4 (bnd (A4 p3.2 32 (.c (.p ((h ++ [some (Row.mk (c1) true)]) ++ [some (Row.mk (List.replicate 32 (.i .u8 0)) true)]).length 0))) fun v5=>bnd (B4 p3.2 32 (.c (.p (h ++ [some (Row.mk (c1) true)]).length 0)) v5) fun h6=>D3 [A4 h6 32 (.c (.p (h ++ [some (Row.mk (c1) true)]).length 0)),some p3.1] h6) (bnd (A4 (p3.2 ++ [some (Row.mk (List.replicate 256 (.i .u8 0)) true)]) 256 (.c (.p p3.2.length 0))) fun v7=>bnd (A7 (.c (.p h.length 0)) 0) fun v8=>bnd (A3 (p3.2 ++ [some (Row.mk (List.replicate 256 (.i .u8 0)) true)]) v8) fun v9=>bnd (Q9 [v7,.c (.i .i64 0),.c (.i .i64 1),v9] (p3.2 ++ [some (Row.mk (List.replicate 256 (.i .u8 0)) true)])) fun p10=>bnd (B4 p10.2 256 (.c (.p p3.2.length 0)) p10.1) fun h11=>bnd (A4 h11 256 (.c (.p p3.2.length 0))) fun v12=>bnd (A7 (.c (.p h.length 0)) 1) fun v13=>bnd (A3 h11 v13) fun v14=>bnd (Q9 [v12,.c (.i .i64 2),.c (.i .i64 2),v14] h11) fun p15=>bnd (B4 p15.2 256 (.c (.p p3.2.length 0)) p15.1) fun h16=>bnd (A4 h16 256 (.c (.p p3.2.length 0))) fun v17=>bnd (A7 (.c (.p h.length 0)) 2) fun v18=>bnd (A3 h16 v18) fun v19=>bnd (Q9 [v17,.c (.i .i64 4),.c (.i .i64 4),v19] h16) fun p20=>bnd (B4 p20.2 256 (.c (.p p3.2.length 0)) p20.1) fun h21=>bnd (A4 h21 256 (.c (.p p3.2.length 0))) fun v22=>bnd (A7 (.c (.p h.length 0)) 3) fun v23=>bnd (A3 h21 v23) fun v24=>bnd (Q9 [v22,.c (.i .i64 8),.c (.i .i64 2),v24] h21) fun p25=>bnd (B4 p25.2 256 (.c (.p p3.2.length 0)) p25.1) fun h26=>bnd (A4 h26 11 (.c (.p h.length 0))) fun v27=>bnd (A17 [v27] h26) fun p28=>A8C n n (.c (.p (h ++ [some (Row.mk (c1) true)]).length 0)) (.c (.p ((h ++ [some (Row.mk (c1) true)]) ++ [some (Row.mk (List.replicate 32 (.i .u8 0)) true)]).length 0)) (.c (.p p3.2.length 0)) p28.1 (.c (.i .i64 0)) p28.2):=by kernel_rfl
theorem B78 (n m:Nat) (x2 x4 x6 x33 x34:Val) (h:A0):A8C n (m + 1) x2 x4 x6 x33 x34 h=bnd (A2 .lss x34 (.c (.i .i64 7))) fun v29=>cnd v29 (bnd (W1 7 x33 x34) fun v30=>bnd (A4 h 256 x6) fun v31=>bnd (A2 .mul (.c (.i .i64 2)) x34) fun v32=>bnd (A2 .add (.c (.i .i64 10)) v32) fun v33=>bnd (Q9 [v31,v33,.c (.i .i64 2),v30] h) fun p34=>bnd (B4 p34.2 256 x6 p34.1) fun h35=>bnd (A2 .add x34 (.c (.i .i64 1))) fun v36=>A8C n m x2 x4 x6 x33 v36 h35) (A8D n n x2 x4 x6 (.c (.i .i64 0)) h):=by kernel_rfl
theorem B79 (n m:Nat) (x2 x4 x6 x45:Val) (h:A0):A8D n (m + 1) x2 x4 x6 x45 h=bnd (A2 .lss x45 (.c (.i .i64 32))) fun v37=>cnd v37 (bnd (E1 256 1 x6 x45) fun v38=>bnd (A3 h v38) fun v39=>bnd (E1 32 1 x4 x45) fun v40=>bnd (E7 h v40 v39) fun h41=>bnd (A2 .add x45 (.c (.i .i64 1))) fun v42=>A8D n m x2 x4 x6 v42 h41) (bnd (A4 h 32 x4) fun v43=>bnd (B4 h 32 x2 v43) fun h44=>D3 [A4 h44 32 x2,some (.c (.i .i64 0))] h44):=by kernel_rfl
theorem K_inode_Put:FnK Tryz.prog 223 A_inode_Put A1T A61:=.mk' (B3 C45 (B3 B1d (B3 B4r C2))) Tryz.func223 (by kernel_rfl) (fun _ _ _=>C1)
def A18:Fun:=tidy (Lim A_inode_Put A1T)
theorem B4s:SOk Tryz.prog 223 A18:=K_inode_Put.sok
theorem C5b:C9 A61 A18:=K_inode_Put.flat
def B7X:ACode:=.seq [2,3,4,17,18] (.ops [aO 18 (.bin .lss (.t 17) (.v (.c (.i .i64 6))))]) (.seq [2,3,4,17] (.cond (.t 18) .skip (.exit 0)) (.seq [2,3,4,17] (.block 1 (.seq [2,3,4,5,17] (.ops [aO 19 (.mv (.t 17)),aO 5 (.mv (.t 19))]) (.ops [aO 20 (.mv (.t 5)),aO 21 (.loadN 256 (.t 3)),aO 22 (.mv (.t 5)),aO 23 (.bin .mul (.v (.c (.i .i64 2))) (.t 22)),aO 24 (.bin .add (.v (.c (.i .i64 10))) (.t 23)),aO 25 (.call 142 [(.t 21),(.t 24),(.v (.c (.i .i64 2)))]),aO 26 (.fAddr (.t 4) 4),aO 27 (.iAddrA 6 1 (.t 26) (.t 20)),aN (.store1 (.t 27) (.t 25))]))) (.ops [aO 28 (.bin .add (.t 17) (.v (.c (.i .i64 1)))),aO 17 (.mv (.t 28))])))
def B7Y:ACode:=.seq [2,4] (.ops [aO 29 (.loadN 256 (.t 3)),aO 30 (.call 142 [(.t 29),(.v (.c (.i .i64 22))),(.v (.c (.i .i64 2)))]),aO 31 (.fAddr (.t 4) 10),aN (.store1 (.t 31) (.t 30))]) (.seq [2] (.ops [aO 32 (.loadN 11 (.t 4)),aN (.storeN 11 (.t 2) (.t 32))]) .ret)
def A_inode_Get:AFn:=⟨.seq [1,2] (.ops [aO 1 (.box (.t 0)),aO 2 (.alloc ([.i .i64 0,.i .i64 0,.i .i64 0,.i .i64 0,.i .i64 0,.i .i64 0,.i .i64 0,.i .i64 0,.i .i64 0,.i .i64 0,.i .i64 0]))]) (.seq [2,3] (.ops [aO 6 (.slA 32 1 (.t 1) none none),aO 7 (.call 212 [(.t 6)]),aO 3 (.alloc (List.replicate 256 (.i .u8 0))),aN (.storeN 256 (.t 3) (.t 7))]) (.seq [2,3,4] (.draw 1 [aO 8 (.loadN 256 (.t 3)),aO 9 (.call 142 [(.t 8),(.v (.c (.i .i64 0))),(.v (.c (.i .i64 1)))]),aO 10 (.loadN 256 (.t 3)),aO 11 (.call 142 [(.t 10),(.v (.c (.i .i64 2))),(.v (.c (.i .i64 2)))]),aO 12 (.loadN 256 (.t 3)),aO 13 (.call 142 [(.t 12),(.v (.c (.i .i64 4))),(.v (.c (.i .i64 4)))]),aO 14 (.loadN 256 (.t 3)),aO 15 (.call 142 [(.t 14),(.v (.c (.i .i64 8))),(.v (.c (.i .i64 2)))]),aO 16 (.build ([.i .i64 0,.i .i64 0,.i .i64 0,.i .i64 0,.i .i64 0,.i .i64 0,.i .i64 0,.i .i64 0,.i .i64 0,.i .i64 0,.i .i64 0]) [(0,1,(.t 9)),(1,1,(.t 11)),(2,1,(.t 13)),(3,1,(.t 15))]),aS 4 0 (.alloc ([.i .i64 0,.i .i64 0,.i .i64 0,.i .i64 0,.i .i64 0,.i .i64 0,.i .i64 0,.i .i64 0,.i .i64 0,.i .i64 0,.i .i64 0]))] [aN (.storeN 11 (.t 4) (.t 16))]) (.seq [2,3,4] (.seq [2,3,4,17] (.ops [aO 17 (.mv (.v (.c (.i .i64 0))))]) (.block 0 (.loop [2,3,4,17] B7X))) B7Y))),[.cellN 2 11]⟩
def A39:B0:=B1 212 Z0 (B1 142 M3 C0)
def C9t (n:Nat):A9 (Val × A0):=E4 [2,3,4] (ax A39 n B7Y) A_inode_Get.fin
def C9u (n:Nat):A9 (Val × A0):=D6 0 (C9t n)
def A8A (n m:Nat) (x2 x3 x4 x17:Val) (h:A0):A6:=C6 (ax A39 n B7X) [2,3,4,17] (C9u n) m [(2,x2),(3,x3),(4,x4),(17,x17)] h
def A6Z (n:Nat) (args:List Val) (h:A0):A6:=ax A39 n A_inode_Get.code A_inode_Get.fin (params 0 args) h
theorem C2S (n:Nat) (a0:Val) (h:A0):A6Z n [a0] h=bnd (cells? a0) fun c1=>bnd (X3 ((h ++ [some (Row.mk (c1) true)]) ++ [some (Row.mk ([.i .i64 0,.i .i64 0,.i .i64 0,.i .i64 0,.i .i64 0,.i .i64 0,.i .i64 0,.i .i64 0,.i .i64 0,.i .i64 0,.i .i64 0]) true)]) 32 1 (.c (.p h.length 0)) none none) fun v2=>bnd (Z0 [v2] ((h ++ [some (Row.mk (c1) true)]) ++ [some (Row.mk ([.i .i64 0,.i .i64 0,.i .i64 0,.i .i64 0,.i .i64 0,.i .i64 0,.i .i64 0,.i .i64 0,.i .i64 0,.i .i64 0,.i .i64 0]) true)])) fun p3=>bnd (B4 (p3.2 ++ [some (Row.mk (List.replicate 256 (.i .u8 0)) true)]) 256 (.c (.p p3.2.length 0)) p3.1) fun h4=>bnd (A4 h4 256 (.c (.p p3.2.length 0))) fun v5=>bnd (quiet (h4 ++ [none]) (M3 [v5,.c (.i .i64 0),.c (.i .i64 1)] (h4 ++ [none]))) fun p6=>bnd (A4 h4 256 (.c (.p p3.2.length 0))) fun v7=>bnd (quiet p6.2 (M3 [v7,.c (.i .i64 2),.c (.i .i64 2)] p6.2)) fun p8=>bnd (A4 h4 256 (.c (.p p3.2.length 0))) fun v9=>bnd (quiet p8.2 (M3 [v9,.c (.i .i64 4),.c (.i .i64 4)] p8.2)) fun p10=>bnd (A4 h4 256 (.c (.p p3.2.length 0))) fun v11=>bnd (quiet p10.2 (M3 [v11,.c (.i .i64 8),.c (.i .i64 2)] p10.2)) fun p12=>bnd (A8 ([.i .i64 0,.i .i64 0,.i .i64 0,.i .i64 0,.i .i64 0,.i .i64 0,.i .i64 0,.i .i64 0,.i .i64 0,.i .i64 0,.i .i64 0]) [(0,1,p6.1),(1,1,p8.1),(2,1,p10.1),(3,1,p12.1)]) fun c13=>bnd (B4 (p12.2.set (h4.length + 0) (some (Row.mk ([.i .i64 0,.i .i64 0,.i .i64 0,.i .i64 0,.i .i64 0,.i .i64 0,.i .i64 0,.i .i64 0,.i .i64 0,.i .i64 0,.i .i64 0]) true))) 11 (.c (.p (h4.length + 0) 0)) (.a c13)) fun h14=>A8A n n (.c (.p (h ++ [some (Row.mk (c1) true)]).length 0)) (.c (.p p3.2.length 0)) (.c (.p (h4.length + 0) 0)) (.c (.i .i64 0)) h14:=by kernel_rfl
theorem B7Z (n m:Nat) (x2 x3 x4 x17:Val) (h:A0):A8A n (m + 1) x2 x3 x4 x17 h=bnd (A2 .lss x17 (.c (.i .i64 6))) fun v15=>cnd v15 (bnd (A4 h 256 x3) fun v16=>bnd (A2 .mul (.c (.i .i64 2)) x17) fun v17=>bnd (A2 .add (.c (.i .i64 10)) v17) fun v18=>bnd (M3 [v16,v18,.c (.i .i64 2)] h) fun p19=>bnd (A7 x4 4) fun v20=>bnd (E1 6 1 v20 x17) fun v21=>bnd (E7 p19.2 v21 p19.1) fun h22=>bnd (A2 .add x17 (.c (.i .i64 1))) fun v23=>A8A n m x2 x3 x4 v23 h22) (bnd (A4 h 256 x3) fun v24=>bnd (M3 [v24,.c (.i .i64 22),.c (.i .i64 2)] h) fun p25=>bnd (A7 x4 10) fun v26=>bnd (E7 p25.2 v26 p25.1) fun h27=>bnd (A4 h27 11 x4) fun v28=>bnd (B4 h27 11 x2 v28) fun h29=>mp (A4 h29 11 x2) fun v=>(v,h29)):=by kernel_rfl
theorem K_inode_Get:FnK Tryz.prog 222 A_inode_Get A39 A6Z:=.mk' (B3 A7y (B3 A47 C2)) Tryz.func222 (by kernel_rfl) (fun _ _ _=>C1)
def A42:Fun:=tidy (Lim A_inode_Get A39)
theorem C49:SOk Tryz.prog 222 A42:=K_inode_Get.sok
theorem C48:C9 A6Z A42:=K_inode_Get.flat
def A_inode_Clean:AFn:=⟨.seq [1,2] (.ops [aO 1 (.box (.t 0)),aO 2 (.alloc ([.i .i64 0,.i .i64 0,.i .i64 0,.i .i64 0,.i .i64 0,.i .i64 0,.i .i64 0,.i .i64 0,.i .i64 0,.i .i64 0,.i .i64 0])),aO 3 (.mv (.v (.c (.b false))))]) (.seq [1,2,4] (.ops [aO 7 (.loadN 32 (.t 1)),aO 8 (.call 222 [(.t 7)]),aO 4 (.alloc ([.i .i64 0,.i .i64 0,.i .i64 0,.i .i64 0,.i .i64 0,.i .i64 0,.i .i64 0,.i .i64 0,.i .i64 0,.i .i64 0,.i .i64 0])),aN (.storeN 11 (.t 4) (.t 8))]) (.seq [2,4] (.seq [1,2,4,5,6] (.ops [aO 10 (.loadN 11 (.t 4)),aO 11 (.call 223 [(.t 10)]),aO 9 (.mv (.t 11)),aO 12 (.ext (.t 9) 0),aO 13 (.ext (.t 9) 1),aO 5 (.alloc (List.replicate 32 (.i .u8 0))),aN (.storeN 32 (.t 5) (.t 12)),aO 6 (.mv (.t 13))]) (.seq [2,4,20] (.ops [aO 14 (.mv (.t 6)),aO 15 (.bin .neq (.t 14) (.v (.c (.i .i64 0)))),aO 16 (.mv (.t 15)),aG 17 16 false (.loadN 32 (.t 5)),aG 18 16 false (.loadN 32 (.t 1)),aG 19 16 false (.eqA true (List.replicate 32 (.i .u8)) (.t 17) (.t 18)),aO 20 (.pick (.t 16) (.v (.c (.b true))) (.t 19))]) (.cond (.t 20) (.seq [2,3] (.ops [aO 21 (.build ([.i .i64 0,.i .i64 0,.i .i64 0,.i .i64 0,.i .i64 0,.i .i64 0,.i .i64 0,.i .i64 0,.i .i64 0,.i .i64 0,.i .i64 0]) []),aN (.storeN 11 (.t 2) (.t 21)),aO 3 (.mv (.v (.c (.b false))))]) .ret) .skip))) (.seq [2,3] (.ops [aO 22 (.loadN 11 (.t 4)),aN (.storeN 11 (.t 2) (.t 22)),aO 3 (.mv (.v (.c (.b true))))]) .ret))),[.cellN 2 11,.tmp 3]⟩
def B0h:B0:=B1 222 A42 (B1 223 A18 C0)
def A6Y (n:Nat) (args:List Val) (h:A0):A6:=ax B0h n A_inode_Clean.code A_inode_Clean.fin (params 0 args) h
theorem C2R (n:Nat) (a0:Val) (h:A0):A6Y n [a0] h=bnd (cells? a0) fun c1=>bnd (A4 ((h ++ [some (Row.mk (c1) true)]) ++ [some (Row.mk ([.i .i64 0,.i .i64 0,.i .i64 0,.i .i64 0,.i .i64 0,.i .i64 0,.i .i64 0,.i .i64 0,.i .i64 0,.i .i64 0,.i .i64 0]) true)]) 32 (.c (.p h.length 0))) fun v2=>bnd (A42 [v2] ((h ++ [some (Row.mk (c1) true)]) ++ [some (Row.mk ([.i .i64 0,.i .i64 0,.i .i64 0,.i .i64 0,.i .i64 0,.i .i64 0,.i .i64 0,.i .i64 0,.i .i64 0,.i .i64 0,.i .i64 0]) true)])) fun p3=>bnd (B4 (p3.2 ++ [some (Row.mk ([.i .i64 0,.i .i64 0,.i .i64 0,.i .i64 0,.i .i64 0,.i .i64 0,.i .i64 0,.i .i64 0,.i .i64 0,.i .i64 0,.i .i64 0]) true)]) 11 (.c (.p p3.2.length 0)) p3.1) fun h4=>bnd (A4 h4 11 (.c (.p p3.2.length 0))) fun v5=>bnd (A18 [v5] h4) fun p6=>bnd (C5 p6.1 0) fun v7=>bnd (C5 p6.1 1) fun v8=>bnd (B4 (p6.2 ++ [some (Row.mk (List.replicate 32 (.i .u8 0)) true)]) 32 (.c (.p p6.2.length 0)) v7) fun h9=>bnd (A2 .neq v8 (.c (.i .i64 0))) fun v10=>bnd (gd v10 false (bnd (A4 h9 32 (.c (.p p6.2.length 0))) fun v11=>some (v11,h9)) (some (.no,h9))) fun p12=>bnd (gd v10 false (bnd (A4 p12.2 32 (.c (.p h.length 0))) fun v13=>some (v13,p12.2)) (some (.no,p12.2))) fun p14=>bnd (gd v10 false (bnd (aeq true (List.replicate 32 (.i .u8)) p12.1 p14.1) fun v15=>some (v15,p14.2)) (some (.no,p14.2))) fun p16=>bnd (C4 v10 (.c (.b true)) p16.1) fun v17=>cnd v17 (bnd (A8 ([.i .i64 0,.i .i64 0,.i .i64 0,.i .i64 0,.i .i64 0,.i .i64 0,.i .i64 0,.i .i64 0,.i .i64 0,.i .i64 0,.i .i64 0]) []) fun c18=>bnd (B4 p16.2 11 (.c (.p (h ++ [some (Row.mk (c1) true)]).length 0)) (.a c18)) fun h19=>D3 [A4 h19 11 (.c (.p (h ++ [some (Row.mk (c1) true)]).length 0)),some (.c (.b false))] h19) (bnd (A4 p16.2 11 (.c (.p p3.2.length 0))) fun v20=>bnd (B4 p16.2 11 (.c (.p (h ++ [some (Row.mk (c1) true)]).length 0)) v20) fun h21=>D3 [A4 h21 11 (.c (.p (h ++ [some (Row.mk (c1) true)]).length 0)),some (.c (.b true))] h21):=by kernel_rfl
theorem K_inode_Clean:FnK Tryz.prog 147 A_inode_Clean B0h A6Y:=.mk' (B3 C49 (B3 B4s C2)) Tryz.func147 (by kernel_rfl) (fun _ _ _=>C1)
def A41:Fun:=tidy (Lim A_inode_Clean B0h)
theorem C47:SOk Tryz.prog 147 A41:=K_inode_Clean.sok
theorem C46:C9 A6Y A41:=K_inode_Clean.flat
end Go.Proofs.YteckncopbicmcaaGreat
end
noncomputable section
namespace Go.Proofs.YteckncopbicmcaaGreat
open Go Go.Esc
set_option maxRecDepth 100000
def A_patch_Check:AFn:=⟨.seq [1] (.ops [aO 1 (.box (.t 0)),aO 2 (.mv (.v (.c (.i .i64 0))))]) (.seq [1,3] (.ops [aO 4 (.fAddr (.t 1) 1),aO 5 (.load1 (.t 4)),aO 6 (.len (.t 5)),aO 3 (.mv (.t 6))]) (.seq [] (.seq [24] (.ops [aO 7 (.mv (.t 3)),aO 8 (.bin .lss (.t 7) (.v (.c (.i .i64 1)))),aO 9 (.mv (.t 8)),aG 10 9 false (.mv (.t 3)),aG 11 9 false (.bin .gtr (.t 10) (.v (.c (.i .i64 256)))),aO 12 (.pick (.t 9) (.v (.c (.b true))) (.t 11)),aO 13 (.mv (.t 12)),aG 14 13 false (.fAddr (.t 1) 0),aG 15 13 false (.load1 (.t 14)),aG 16 13 false (.bin .lss (.t 15) (.v (.c (.i .i64 0)))),aO 17 (.pick (.t 13) (.v (.c (.b true))) (.t 16)),aO 18 (.mv (.t 17)),aG 19 18 false (.fAddr (.t 1) 0),aG 20 18 false (.load1 (.t 19)),aG 21 18 false (.mv (.t 3)),aG 22 18 false (.bin .sub (.v (.c (.i .i64 256))) (.t 21)),aG 23 18 false (.bin .gtr (.t 20) (.t 22)),aO 24 (.pick (.t 18) (.v (.c (.b true))) (.t 23))]) (.cond (.t 24) (.seq [2] (.ops [aO 2 (.mv (.v (.c (.i .i64 2))))]) .ret) .skip)) (.seq [2] (.ops [aO 2 (.mv (.v (.c (.i .i64 0))))]) .ret))),[.tmp 2]⟩
def B0p:B0:=C0
def A7c (n:Nat) (args:List Val) (h:A0):A6:=ax B0p n A_patch_Check.code A_patch_Check.fin (params 0 args) h
theorem C3d (n:Nat) (a0:Val) (h:A0):A7c n [a0] h=bnd (cells? a0) fun c1=>bnd (A7 (.c (.p h.length 0)) 1) fun v2=>bnd (A3 (h ++ [some (Row.mk (c1) true)]) v2) fun v3=>bnd (D5 v3) fun v4=>bnd (A2 .lss v4 (.c (.i .i64 1))) fun v5=>bnd (gd v5 false (some (v4,(h ++ [some (Row.mk (c1) true)]))) (some (.no,(h ++ [some (Row.mk (c1) true)])))) fun p6=>bnd (gd v5 false (bnd (A2 .gtr p6.1 (.c (.i .i64 256))) fun v7=>some (v7,p6.2)) (some (.no,p6.2))) fun p8=>bnd (C4 v5 (.c (.b true)) p8.1) fun v9=>bnd (gd v9 false (bnd (A7 (.c (.p h.length 0)) 0) fun v10=>some (v10,p8.2)) (some (.no,p8.2))) fun p11=>bnd (gd v9 false (bnd (A3 p11.2 p11.1) fun v12=>some (v12,p11.2)) (some (.no,p11.2))) fun p13=>bnd (gd v9 false (bnd (A2 .lss p13.1 (.c (.i .i64 0))) fun v14=>some (v14,p13.2)) (some (.no,p13.2))) fun p15=>bnd (C4 v9 (.c (.b true)) p15.1) fun v16=>bnd (gd v16 false (bnd (A7 (.c (.p h.length 0)) 0) fun v17=>some (v17,p15.2)) (some (.no,p15.2))) fun p18=>bnd (gd v16 false (bnd (A3 p18.2 p18.1) fun v19=>some (v19,p18.2)) (some (.no,p18.2))) fun p20=>bnd (gd v16 false (some (v4,p20.2)) (some (.no,p20.2))) fun p21=>bnd (gd v16 false (bnd (A2 .sub (.c (.i .i64 256)) p21.1) fun v22=>some (v22,p21.2)) (some (.no,p21.2))) fun p23=>bnd (gd v16 false (bnd (A2 .gtr p20.1 p23.1) fun v24=>some (v24,p23.2)) (some (.no,p23.2))) fun p25=>bnd (C4 v16 (.c (.b true)) p25.1) fun v26=>cnd v26 (some ((.c (.i .i64 2)),p25.2)) (some ((.c (.i .i64 0)),p25.2)):=by kernel_rfl
theorem K_patch_Check:FnK Tryz.prog 244 A_patch_Check B0p A7c:=.mk' (C2) Tryz.func244 (by kernel_rfl) (fun _ _ _=>C1)
def A5a:Fun:=tidy (Lim A_patch_Check B0p)
theorem C5D:SOk Tryz.prog 244 A5a:=K_patch_Check.sok
theorem C5C:C9 A7c A5a:=K_patch_Check.flat
def B9H:ACode:=.seq [2,3,4,12,13,14,15] (.ops [aO 15 (.bin .lss (.t 14) (.t 13))]) (.seq [2,3,4,12,13,14] (.cond (.t 15) .skip (.exit 0)) (.seq [2,3,4,12,13,14] (.block 1 (.seq [2,3,4,5,6,12,13,14] (.ops [aO 16 (.mv (.t 14)),aO 17 (.iAddrL 1 (.t 12) (.t 14)),aO 18 (.load1 (.t 17)),aO 5 (.mv (.t 16)),aO 6 (.mv (.t 18))]) (.ops [aO 19 (.fAddr (.t 3) 0),aO 20 (.load1 (.t 19)),aO 21 (.mv (.t 5)),aO 22 (.bin .add (.t 20) (.t 21)),aO 23 (.mv (.t 6)),aO 24 (.iAddrA 256 1 (.t 2) (.t 22)),aN (.store1 (.t 24) (.t 23))]))) (.ops [aO 25 (.bin .add (.t 14) (.v (.c (.i .i64 1)))),aO 14 (.mv (.t 25))])))
def B9I:ACode:=.seq [4] (.ops [aO 26 (.loadN 256 (.t 2)),aN (.storeN 256 (.t 4) (.t 26))]) .ret
def A_patch_Lay:AFn:=⟨.seq [2,3,4] (.ops [aO 2 (.box (.t 0)),aO 3 (.box (.t 1)),aO 4 (.alloc (List.replicate 256 (.i .u8 0)))]) (.seq [2,3,4] (.seq [2,3,4,9] (.ops [aO 7 (.loadN 2 (.t 3)),aO 8 (.call 244 [(.t 7)]),aO 9 (.bin .neq (.t 8) (.v (.c (.i .i64 0))))]) (.cond (.t 9) (.seq [4] (.ops [aO 10 (.loadN 256 (.t 2)),aN (.storeN 256 (.t 4) (.t 10))]) .ret) .skip)) (.seq [2,4] (.seq [2,3,4,12,13,14] (.ops [aO 11 (.fAddr (.t 3) 1),aO 12 (.load1 (.t 11)),aO 13 (.len (.t 12)),aO 14 (.mv (.v (.c (.i .i64 0))))]) (.block 0 (.loop [2,3,4,12,13,14] B9H))) B9I)),[.cellN 4 256]⟩
def A4k:B0:=B1 244 A5a C0
def D0Y (n:Nat):A9 (Val × A0):=E4 [2,4] (ax A4k n B9I) A_patch_Lay.fin
def D0Z (n:Nat):A9 (Val × A0):=D6 0 (D0Y n)
def A9e (n m:Nat) (x2 x3 x4 x12 x13 x14:Val) (h:A0):A6:=C6 (ax A4k n B9H) [2,3,4,12,13,14] (D0Z n) m [(2,x2),(3,x3),(4,x4),(12,x12),(13,x13),(14,x14)] h
def A7d (n:Nat) (args:List Val) (h:A0):A6:=ax A4k n A_patch_Lay.code A_patch_Lay.fin (params 0 args) h
theorem C3e (n:Nat) (a0 a1:Val) (h:A0):A7d n [a0,a1] h=bnd (cells? a0) fun c1=>bnd (cells? a1) fun c2=>bnd (A4 (((h ++ [some (Row.mk (c1) true)]) ++ [some (Row.mk (c2) true)]) ++ [some (Row.mk (List.replicate 256 (.i .u8 0)) true)]) 2 (.c (.p (h ++ [some (Row.mk (c1) true)]).length 0))) fun v3=>bnd (A5a [v3] (((h ++ [some (Row.mk (c1) true)]) ++ [some (Row.mk (c2) true)]) ++ [some (Row.mk (List.replicate 256 (.i .u8 0)) true)])) fun p4=>bnd (A2 .neq p4.1 (.c (.i .i64 0))) fun v5=>cnd v5 (bnd (A4 p4.2 256 (.c (.p h.length 0))) fun v6=>bnd (B4 p4.2 256 (.c (.p ((h ++ [some (Row.mk (c1) true)]) ++ [some (Row.mk (c2) true)]).length 0)) v6) fun h7=>mp (A4 h7 256 (.c (.p ((h ++ [some (Row.mk (c1) true)]) ++ [some (Row.mk (c2) true)]).length 0))) fun v=>(v,h7)) (bnd (A7 (.c (.p (h ++ [some (Row.mk (c1) true)]).length 0)) 1) fun v8=>bnd (A3 p4.2 v8) fun v9=>bnd (D5 v9) fun v10=>A9e n n (.c (.p h.length 0)) (.c (.p (h ++ [some (Row.mk (c1) true)]).length 0)) (.c (.p ((h ++ [some (Row.mk (c1) true)]) ++ [some (Row.mk (c2) true)]).length 0)) v9 v10 (.c (.i .i64 0)) p4.2):=by kernel_rfl
theorem B9J (n m:Nat) (x2 x3 x4 x12 x13 x14:Val) (h:A0):A9e n (m + 1) x2 x3 x4 x12 x13 x14 h=bnd (A2 .lss x14 x13) fun v11=>cnd v11 (bnd (B7 1 x12 x14) fun v12=>bnd (A3 h v12) fun v13=>bnd (A7 x3 0) fun v14=>bnd (A3 h v14) fun v15=>bnd (A2 .add v15 x14) fun v16=>bnd (E1 256 1 x2 v16) fun v17=>bnd (E7 h v17 v13) fun h18=>bnd (A2 .add x14 (.c (.i .i64 1))) fun v19=>A9e n m x2 x3 x4 x12 x13 v19 h18) (bnd (A4 h 256 x2) fun v20=>bnd (B4 h 256 x4 v20) fun h21=>mp (A4 h21 256 x4) fun v=>(v,h21)):=by kernel_rfl
theorem K_patch_Lay:FnK Tryz.prog 191 A_patch_Lay A4k A7d:=.mk' (B3 C5D C2) Tryz.func191 (by kernel_rfl) (fun _ _ _=>C1)
def A5b:Fun:=tidy (Lim A_patch_Lay A4k)
theorem C5F:SOk Tryz.prog 191 A5b:=K_patch_Lay.sok
theorem C5E:C9 A7d A5b:=K_patch_Lay.flat
end Go.Proofs.YteckncopbicmcaaGreat
end
noncomputable section
namespace Go.Proofs.YteckncopbicmcaaGreat
open Go Go.Esc
set_option maxRecDepth 100000
def A_table_Patch:AFn:=⟨.seq [0,3,4] (.ops [aO 3 (.box (.t 1)),aO 4 (.alloc ([.i .i64 0,.ns])),aO 5 (.mv (.v (.c (.i .i64 0))))]) (.seq [0,3,4] (.seq [0,3,4,13] (.ops [aO 8 (.mv (.t 0)),aO 9 (.bin .lss (.t 8) (.v (.c (.i .i64 0)))),aO 10 (.mv (.t 9)),aG 11 10 false (.mv (.t 0)),aG 12 10 false (.bin .geq (.t 11) (.v (.c (.i .i64 8)))),aO 13 (.pick (.t 10) (.v (.c (.b true))) (.t 12))]) (.cond (.t 13) (.seq [4,5] (.ops [aO 14 (.build ([.i .i64 0,.ns]) []),aN (.storeN 2 (.t 4) (.t 14)),aO 5 (.mv (.v (.c (.i .i64 2))))]) .ret) .skip)) (.seq [0,4,6,7] (.ops [aO 16 (.loadN 11 (.t 3)),aO 17 (.call 223 [(.t 16)]),aO 15 (.mv (.t 17)),aO 18 (.ext (.t 15) 0),aO 19 (.ext (.t 15) 1),aO 6 (.alloc (List.replicate 32 (.i .u8 0))),aN (.storeN 32 (.t 6) (.t 18)),aO 7 (.mv (.t 19))]) (.seq [0,4,6] (.seq [0,4,6,7,21] (.ops [aO 20 (.mv (.t 7)),aO 21 (.bin .neq (.t 20) (.v (.c (.i .i64 0))))]) (.cond (.t 21) (.seq [4,5] (.ops [aO 22 (.build ([.i .i64 0,.ns]) []),aO 23 (.mv (.t 7)),aN (.storeN 2 (.t 4) (.t 22)),aO 5 (.mv (.t 23))]) .ret) .skip)) (.seq [4,5] (.ops [aO 24 (.mv (.t 0)),aO 25 (.bin .mul (.t 24) (.v (.c (.i .i64 32)))),aO 26 (.buildSl 1 0 ([]) []),aO 27 (.slA 32 1 (.t 6) none none),aO 28 (.app 1 (.t 26) (.t 27)),aO 29 (.build ([.i .i64 0,.ns]) [(0,1,(.t 25)),(1,1,(.t 28))]),aN (.storeN 2 (.t 4) (.t 29)),aO 5 (.mv (.v (.c (.i .i64 0))))]) .ret)))),[.cellN 4 2,.tmp 5]⟩
def B0v:B0:=B1 223 A18 C0
def A7k (n:Nat) (args:List Val) (h:A0):A6:=ax B0v n A_table_Patch.code A_table_Patch.fin (params 0 args) h
theorem C3l (n:Nat) (a0 a1:Val) (h:A0):A7k n [a0,a1] h=bnd (cells? a1) fun c1=>bnd (A2 .lss a0 (.c (.i .i64 0))) fun v2=>bnd (gd v2 false (some (a0,((h ++ [some (Row.mk (c1) true)]) ++ [some (Row.mk ([.i .i64 0,.ns]) true)]))) (some (.no,((h ++ [some (Row.mk (c1) true)]) ++ [some (Row.mk ([.i .i64 0,.ns]) true)])))) fun p3=>bnd (gd v2 false (bnd (A2 .geq p3.1 (.c (.i .i64 8))) fun v4=>some (v4,p3.2)) (some (.no,p3.2))) fun p5=>bnd (C4 v2 (.c (.b true)) p5.1) fun v6=>cnd v6 (bnd (A8 ([.i .i64 0,.ns]) []) fun c7=>bnd (B4 p5.2 2 (.c (.p (h ++ [some (Row.mk (c1) true)]).length 0)) (.a c7)) fun h8=>D3 [A4 h8 2 (.c (.p (h ++ [some (Row.mk (c1) true)]).length 0)),some (.c (.i .i64 2))] h8) (bnd (A4 p5.2 11 (.c (.p h.length 0))) fun v9=>bnd (A18 [v9] p5.2) fun p10=>bnd (C5 p10.1 0) fun v11=>bnd (C5 p10.1 1) fun v12=>bnd (B4 (p10.2 ++ [some (Row.mk (List.replicate 32 (.i .u8 0)) true)]) 32 (.c (.p p10.2.length 0)) v11) fun h13=>bnd (A2 .neq v12 (.c (.i .i64 0))) fun v14=>cnd v14 (bnd (A8 ([.i .i64 0,.ns]) []) fun c15=>bnd (B4 h13 2 (.c (.p (h ++ [some (Row.mk (c1) true)]).length 0)) (.a c15)) fun h16=>D3 [A4 h16 2 (.c (.p (h ++ [some (Row.mk (c1) true)]).length 0)),some v12] h16) (bnd (A2 .mul a0 (.c (.i .i64 32))) fun v17=>bnd (A8 ([]) []) fun c18=>bnd (X3 (h13 ++ [some (Row.mk (c18) true)]) 32 1 (.c (.p p10.2.length 0)) none none) fun v19=>bnd (F0 (h13 ++ [some (Row.mk (c18) true)]) 1 (.c (.sl h13.length 0 0 1)) v19) fun p20=>bnd (A8 ([.i .i64 0,.ns]) [(0,1,v17),(1,1,p20.1)]) fun c21=>bnd (B4 p20.2 2 (.c (.p (h ++ [some (Row.mk (c1) true)]).length 0)) (.a c21)) fun h22=>D3 [A4 h22 2 (.c (.p (h ++ [some (Row.mk (c1) true)]).length 0)),some (.c (.i .i64 0))] h22)):=by kernel_rfl
theorem K_table_Patch:FnK Tryz.prog 190 A_table_Patch B0v A7k:=.mk' (B3 B4s C2) Tryz.func190 (by kernel_rfl) (fun _ _ _=>C1)
def A5g:Fun:=tidy (Lim A_table_Patch B0v)
theorem C5Q:SOk Tryz.prog 190 A5g:=K_table_Patch.sok
theorem C5R:A7A A7k A5g:=K_table_Patch.tidy
def A_table_With:AFn:=⟨.seq [1,3,5,6] (.ops [aO 3 (.box (.t 0)),aO 5 (.box (.t 2)),aO 6 (.alloc (List.replicate 256 (.i .u8 0))),aO 7 (.mv (.v (.c (.i .i64 0))))]) (.seq [3,6,8,9] (.ops [aO 11 (.mv (.t 1)),aO 12 (.loadN 11 (.t 5)),aO 13 (.call 190 [(.t 11),(.t 12)]),aO 10 (.mv (.t 13)),aO 14 (.ext (.t 10) 0),aO 15 (.ext (.t 10) 1),aO 8 (.alloc ([.i .i64 0,.ns])),aN (.storeN 2 (.t 8) (.t 14)),aO 9 (.mv (.t 15))]) (.seq [3,6,8] (.seq [3,6,8,9,17] (.ops [aO 16 (.mv (.t 9)),aO 17 (.bin .neq (.t 16) (.v (.c (.i .i64 0))))]) (.cond (.t 17) (.seq [6,7] (.ops [aO 18 (.loadN 256 (.t 3)),aO 19 (.mv (.t 9)),aN (.storeN 256 (.t 6) (.t 18)),aO 7 (.mv (.t 19))]) .ret) .skip)) (.seq [6,7] (.ops [aO 20 (.loadN 256 (.t 3)),aO 21 (.loadN 2 (.t 8)),aO 22 (.call 191 [(.t 20),(.t 21)]),aN (.storeN 256 (.t 6) (.t 22)),aO 7 (.mv (.v (.c (.i .i64 0))))]) .ret))),[.cellN 6 256,.tmp 7]⟩
def B0w:B0:=B1 190 A5g (B1 191 A5b C0)
def A7m (n:Nat) (args:List Val) (h:A0):A6:=ax B0w n A_table_With.code A_table_With.fin (params 0 args) h
theorem C3n (n:Nat) (a0 a1 a2:Val) (h:A0):A7m n [a0,a1,a2] h=bnd (cells? a0) fun c1=>bnd (cells? a2) fun c2=>bnd (A4 (((h ++ [some (Row.mk (c1) true)]) ++ [some (Row.mk (c2) true)]) ++ [some (Row.mk (List.replicate 256 (.i .u8 0)) true)]) 11 (.c (.p (h ++ [some (Row.mk (c1) true)]).length 0))) fun v3=>bnd (A5g [a1,v3] (((h ++ [some (Row.mk (c1) true)]) ++ [some (Row.mk (c2) true)]) ++ [some (Row.mk (List.replicate 256 (.i .u8 0)) true)])) fun p4=>bnd (C5 p4.1 0) fun v5=>bnd (C5 p4.1 1) fun v6=>bnd (B4 (p4.2 ++ [some (Row.mk ([.i .i64 0,.ns]) true)]) 2 (.c (.p p4.2.length 0)) v5) fun h7=>bnd (A2 .neq v6 (.c (.i .i64 0))) fun v8=>cnd v8 (bnd (A4 h7 256 (.c (.p h.length 0))) fun v9=>bnd (B4 h7 256 (.c (.p ((h ++ [some (Row.mk (c1) true)]) ++ [some (Row.mk (c2) true)]).length 0)) v9) fun h10=>D3 [A4 h10 256 (.c (.p ((h ++ [some (Row.mk (c1) true)]) ++ [some (Row.mk (c2) true)]).length 0)),some v6] h10) (bnd (A4 h7 256 (.c (.p h.length 0))) fun v11=>bnd (A4 h7 2 (.c (.p p4.2.length 0))) fun v12=>bnd (A5b [v11,v12] h7) fun p13=>bnd (B4 p13.2 256 (.c (.p ((h ++ [some (Row.mk (c1) true)]) ++ [some (Row.mk (c2) true)]).length 0)) p13.1) fun h14=>D3 [A4 h14 256 (.c (.p ((h ++ [some (Row.mk (c1) true)]) ++ [some (Row.mk (c2) true)]).length 0)),some (.c (.i .i64 0))] h14):=by kernel_rfl
theorem K_table_With:FnK Tryz.prog 115 A_table_With B0w A7m:=.mk' (B3 C5Q (B3 C5F C2)) Tryz.func115 (by kernel_rfl) (fun _ _ _=>C1)
def A1h:Fun:=tidy (Lim A_table_With B0w)
theorem C5V:SOk Tryz.prog 115 A1h:=K_table_With.sok
theorem C5U:C9 A7m A1h:=K_table_With.flat
def C0S:ACode:=.seq [1,2,4,5,14,15] (.ops [aO 15 (.bin .lss (.t 14) (.v (.c (.i .i64 32))))]) (.seq [1,2,4,5,14] (.cond (.t 15) .skip (.exit 0)) (.seq [1,2,4,5,14] (.block 1 (.seq [1,2,4,5,6,14] (.ops [aO 16 (.mv (.t 14)),aO 6 (.mv (.t 16))]) (.ops [aO 17 (.mv (.t 6)),aO 18 (.mv (.t 1)),aO 19 (.bin .mul (.t 18) (.v (.c (.i .i64 32)))),aO 20 (.mv (.t 6)),aO 21 (.bin .add (.t 19) (.t 20)),aO 22 (.iAddrA 256 1 (.t 2) (.t 21)),aO 23 (.load1 (.t 22)),aO 24 (.iAddrA 32 1 (.t 5) (.t 17)),aN (.store1 (.t 24) (.t 23))]))) (.ops [aO 25 (.bin .add (.t 14) (.v (.c (.i .i64 1)))),aO 14 (.mv (.t 25))])))
def C0T:ACode:=.seq [4] (.ops [aO 26 (.loadN 32 (.t 5)),aN (.storeN 32 (.t 4) (.t 26))]) .ret
def A_table_Raw:AFn:=⟨.seq [1,2,4] (.ops [aO 2 (.box (.t 0)),aO 4 (.alloc (List.replicate 32 (.i .u8 0)))]) (.seq [1,2,4,5] (.ops [aO 5 (.alloc (List.replicate 32 (.i .u8 0)))]) (.seq [1,2,4,5] (.seq [1,2,4,5,12] (.ops [aO 7 (.mv (.t 1)),aO 8 (.bin .lss (.t 7) (.v (.c (.i .i64 0)))),aO 9 (.mv (.t 8)),aG 10 9 false (.mv (.t 1)),aG 11 9 false (.bin .geq (.t 10) (.v (.c (.i .i64 8)))),aO 12 (.pick (.t 9) (.v (.c (.b true))) (.t 11))]) (.cond (.t 12) (.seq [4] (.ops [aO 13 (.loadN 32 (.t 5)),aN (.storeN 32 (.t 4) (.t 13))]) .ret) .skip)) (.seq [4,5] (.seq [1,2,4,5,14] (.ops [aO 14 (.mv (.v (.c (.i .i64 0))))]) (.block 0 (.loop [1,2,4,5,14] C0S))) C0T))),[.cellN 4 32]⟩
def A4l:B0:=C0
def D2T (n:Nat):A9 (Val × A0):=E4 [4,5] (ax A4l n C0T) A_table_Raw.fin
def D2U (n:Nat):A9 (Val × A0):=D6 0 (D2T n)
def A9w (n m:Nat) (x1 x2 x4 x5 x14:Val) (h:A0):A6:=C6 (ax A4l n C0S) [1,2,4,5,14] (D2U n) m [(1,x1),(2,x2),(4,x4),(5,x5),(14,x14)] h
def A7l (n:Nat) (args:List Val) (h:A0):A6:=ax A4l n A_table_Raw.code A_table_Raw.fin (params 0 args) h
theorem C3m (n:Nat) (a0 a1:Val) (h:A0):A7l n [a0,a1] h=bnd (cells? a0) fun c1=>bnd (A2 .lss a1 (.c (.i .i64 0))) fun v2=>bnd (gd v2 false (some (a1,(((h ++ [some (Row.mk (c1) true)]) ++ [some (Row.mk (List.replicate 32 (.i .u8 0)) true)]) ++ [some (Row.mk (List.replicate 32 (.i .u8 0)) true)]))) (some (.no,(((h ++ [some (Row.mk (c1) true)]) ++ [some (Row.mk (List.replicate 32 (.i .u8 0)) true)]) ++ [some (Row.mk (List.replicate 32 (.i .u8 0)) true)])))) fun p3=>bnd (gd v2 false (bnd (A2 .geq p3.1 (.c (.i .i64 8))) fun v4=>some (v4,p3.2)) (some (.no,p3.2))) fun p5=>bnd (C4 v2 (.c (.b true)) p5.1) fun v6=>cnd v6 (bnd (A4 p5.2 32 (.c (.p ((h ++ [some (Row.mk (c1) true)]) ++ [some (Row.mk (List.replicate 32 (.i .u8 0)) true)]).length 0))) fun v7=>bnd (B4 p5.2 32 (.c (.p (h ++ [some (Row.mk (c1) true)]).length 0)) v7) fun h8=>mp (A4 h8 32 (.c (.p (h ++ [some (Row.mk (c1) true)]).length 0))) fun v=>(v,h8)) (A9w n n a1 (.c (.p h.length 0)) (.c (.p (h ++ [some (Row.mk (c1) true)]).length 0)) (.c (.p ((h ++ [some (Row.mk (c1) true)]) ++ [some (Row.mk (List.replicate 32 (.i .u8 0)) true)]).length 0)) (.c (.i .i64 0)) p5.2):=by kernel_rfl
theorem C0U (n m:Nat) (x1 x2 x4 x5 x14:Val) (h:A0):A9w n (m + 1) x1 x2 x4 x5 x14 h=bnd (A2 .lss x14 (.c (.i .i64 32))) fun v9=>cnd v9 (bnd (A2 .mul x1 (.c (.i .i64 32))) fun v10=>bnd (A2 .add v10 x14) fun v11=>bnd (E1 256 1 x2 v11) fun v12=>bnd (A3 h v12) fun v13=>bnd (E1 32 1 x5 x14) fun v14=>bnd (E7 h v14 v13) fun h15=>bnd (A2 .add x14 (.c (.i .i64 1))) fun v16=>A9w n m x1 x2 x4 x5 v16 h15) (bnd (A4 h 32 x5) fun v17=>bnd (B4 h 32 x4 v17) fun h18=>mp (A4 h18 32 x4) fun v=>(v,h18)):=by kernel_rfl
theorem K_table_Raw:FnK Tryz.prog 148 A_table_Raw A4l A7l:=.mk' (C2) Tryz.func148 (by kernel_rfl) (fun _ _ _=>C1)
def A5h:Fun:=tidy (Lim A_table_Raw A4l)
theorem C5T:SOk Tryz.prog 148 A5h:=K_table_Raw.sok
theorem C5S:C9 A7l A5h:=K_table_Raw.flat
def A_table_Get:AFn:=⟨.seq [1,2,4] (.ops [aO 2 (.box (.t 0)),aO 4 (.alloc ([.i .i64 0,.i .i64 0,.i .i64 0,.i .i64 0,.i .i64 0,.i .i64 0,.i .i64 0,.i .i64 0,.i .i64 0,.i .i64 0,.i .i64 0])),aO 5 (.mv (.v (.c (.b false))))]) (.seq [1,2,4] (.seq [1,2,4,11] (.ops [aO 6 (.mv (.t 1)),aO 7 (.bin .lss (.t 6) (.v (.c (.i .i64 0)))),aO 8 (.mv (.t 7)),aG 9 8 false (.mv (.t 1)),aG 10 8 false (.bin .geq (.t 9) (.v (.c (.i .i64 8)))),aO 11 (.pick (.t 8) (.v (.c (.b true))) (.t 10))]) (.cond (.t 11) (.seq [4,5] (.ops [aO 12 (.build ([.i .i64 0,.i .i64 0,.i .i64 0,.i .i64 0,.i .i64 0,.i .i64 0,.i .i64 0,.i .i64 0,.i .i64 0,.i .i64 0,.i .i64 0]) []),aN (.storeN 11 (.t 4) (.t 12)),aO 5 (.mv (.v (.c (.b false))))]) .ret) .skip)) (.seq [4,5] (.ops [aO 13 (.loadN 256 (.t 2)),aO 14 (.mv (.t 1)),aO 15 (.call 148 [(.t 13),(.t 14)]),aO 16 (.call 147 [(.t 15)]),aO 17 (.ext (.t 16) 0),aO 18 (.ext (.t 16) 1),aN (.storeN 11 (.t 4) (.t 17)),aO 5 (.mv (.t 18))]) .ret)),[.cellN 4 11,.tmp 5]⟩
def B0u:B0:=B1 148 A5h (B1 147 A41 C0)
def A7j (n:Nat) (args:List Val) (h:A0):A6:=ax B0u n A_table_Get.code A_table_Get.fin (params 0 args) h
theorem C3k (n:Nat) (a0 a1:Val) (h:A0):A7j n [a0,a1] h=bnd (cells? a0) fun c1=>bnd (A2 .lss a1 (.c (.i .i64 0))) fun v2=>bnd (gd v2 false (some (a1,((h ++ [some (Row.mk (c1) true)]) ++ [some (Row.mk ([.i .i64 0,.i .i64 0,.i .i64 0,.i .i64 0,.i .i64 0,.i .i64 0,.i .i64 0,.i .i64 0,.i .i64 0,.i .i64 0,.i .i64 0]) true)]))) (some (.no,((h ++ [some (Row.mk (c1) true)]) ++ [some (Row.mk ([.i .i64 0,.i .i64 0,.i .i64 0,.i .i64 0,.i .i64 0,.i .i64 0,.i .i64 0,.i .i64 0,.i .i64 0,.i .i64 0,.i .i64 0]) true)])))) fun p3=>bnd (gd v2 false (bnd (A2 .geq p3.1 (.c (.i .i64 8))) fun v4=>some (v4,p3.2)) (some (.no,p3.2))) fun p5=>bnd (C4 v2 (.c (.b true)) p5.1) fun v6=>cnd v6 (bnd (A8 ([.i .i64 0,.i .i64 0,.i .i64 0,.i .i64 0,.i .i64 0,.i .i64 0,.i .i64 0,.i .i64 0,.i .i64 0,.i .i64 0,.i .i64 0]) []) fun c7=>bnd (B4 p5.2 11 (.c (.p (h ++ [some (Row.mk (c1) true)]).length 0)) (.a c7)) fun h8=>D3 [A4 h8 11 (.c (.p (h ++ [some (Row.mk (c1) true)]).length 0)),some (.c (.b false))] h8) (bnd (A4 p5.2 256 (.c (.p h.length 0))) fun v9=>bnd (A5h [v9,a1] p5.2) fun p10=>bnd (A41 [p10.1] p10.2) fun p11=>bnd (C5 p11.1 0) fun v12=>bnd (C5 p11.1 1) fun v13=>bnd (B4 p11.2 11 (.c (.p (h ++ [some (Row.mk (c1) true)]).length 0)) v12) fun h14=>D3 [A4 h14 11 (.c (.p (h ++ [some (Row.mk (c1) true)]).length 0)),some v13] h14):=by kernel_rfl
theorem K_table_Get:FnK Tryz.prog 70 A_table_Get B0u A7j:=.mk' (B3 C5T (B3 C47 C2)) Tryz.func70 (by kernel_rfl) (fun _ _ _=>C1)
def A5f:Fun:=tidy (Lim A_table_Get B0u)
theorem C5P:SOk Tryz.prog 70 A5f:=K_table_Get.sok
theorem C5O:C9 A7j A5f:=K_table_Get.flat
end Go.Proofs.YteckncopbicmcaaGreat
end
noncomputable section
namespace Go.Proofs.YteckncopbicmcaaGreat
open Go Go.Esc
set_option maxRecDepth 100000
def A_view_Of:AFn:=⟨.seq [0,2] (.ops [aO 2 (.alloc ([.i .i64 0,.i .i64 0,.i .u64 0,.nf])),aO 3 (.mv (.v (.c (.i .i64 0))))]) (.seq [0,2] (.seq [0,2,9] (.ops [aO 7 (.mv (.t 0)),aO 8 (.len (.t 7)),aO 9 (.bin .eql (.t 8) (.v (.c (.i .i64 0))))]) (.cond (.t 9) (.seq [2,3] (.ops [aO 10 (.build ([.i .i64 0,.i .i64 0,.i .u64 0,.nf]) []),aN (.storeN 4 (.t 2) (.t 10)),aO 3 (.mv (.v (.c (.i .i64 13))))]) .ret) .skip)) (.seq [0,2,4,5] (.ops [aO 12 (.mv (.t 0)),aO 13 (.iAddrL 256 (.t 12) (.v (.c (.i .i64 0)))),aO 14 (.loadN 256 (.t 13)),aO 15 (.call 66 [(.t 14)]),aO 11 (.mv (.t 15)),aO 16 (.ext (.t 11) 0),aO 17 (.ext (.t 11) 1),aO 4 (.alloc ([.i .i64 0,.i .i64 0,.i .u64 0])),aN (.storeN 3 (.t 4) (.t 16)),aO 5 (.mv (.t 17))]) (.seq [0,2,4] (.seq [0,2,4,26] (.ops [aO 18 (.mv (.t 5)),aO 19 (.bin .neq (.t 18) (.v (.c (.i .i64 0)))),aO 20 (.mv (.t 19)),aG 21 20 false (.fAddr (.t 4) 0),aG 22 20 false (.load1 (.t 21)),aG 23 20 false (.mv (.t 0)),aG 24 20 false (.len (.t 23)),aG 25 20 false (.bin .neq (.t 22) (.t 24)),aO 26 (.pick (.t 20) (.v (.c (.b true))) (.t 25))]) (.cond (.t 26) (.seq [2,3] (.ops [aO 27 (.build ([.i .i64 0,.i .i64 0,.i .u64 0,.nf]) []),aN (.storeN 4 (.t 2) (.t 27)),aO 3 (.mv (.v (.c (.i .i64 13))))]) .ret) .skip)) (.seq [2,4,6] (.ops [aO 28 (.buildSl 256 0 ([]) []),aO 29 (.mv (.t 0)),aO 30 (.app 256 (.t 28) (.t 29)),aO 6 (.alloc ([.ns])),aN (.store1 (.t 6) (.t 30))]) (.seq [2,3] (.ops [aO 31 (.loadN 3 (.t 4)),aO 32 (.mkf 67 [(.t 6)]),aO 33 (.build ([.i .i64 0,.i .i64 0,.i .u64 0,.nf]) [(0,3,(.t 31)),(3,1,(.t 32))]),aN (.storeN 4 (.t 2) (.t 33)),aO 3 (.mv (.v (.c (.i .i64 0))))]) .ret))))),[.cellN 2 4,.tmp 3]⟩
def B0y:B0:=B1 66 A5e C0
def B07 (n:Nat) (args:List Val) (h:A0):A6:=ax B0y n A_view_Of.code A_view_Of.fin (params 0 args) h
theorem C3x (n:Nat) (a0:Val) (h:A0):B07 n [a0] h=bnd (D5 a0) fun v1=>bnd (A2 .eql v1 (.c (.i .i64 0))) fun v2=>cnd v2 (bnd (A8 ([.i .i64 0,.i .i64 0,.i .u64 0,.nf]) []) fun c3=>bnd (B4 (h ++ [some (Row.mk ([.i .i64 0,.i .i64 0,.i .u64 0,.nf]) true)]) 4 (.c (.p h.length 0)) (.a c3)) fun h4=>D3 [A4 h4 4 (.c (.p h.length 0)),some (.c (.i .i64 13))] h4) (bnd (B7 256 a0 (.c (.i .i64 0))) fun v5=>bnd (A4 (h ++ [some (Row.mk ([.i .i64 0,.i .i64 0,.i .u64 0,.nf]) true)]) 256 v5) fun v6=>bnd (A5e [v6] (h ++ [some (Row.mk ([.i .i64 0,.i .i64 0,.i .u64 0,.nf]) true)])) fun p7=>bnd (C5 p7.1 0) fun v8=>bnd (C5 p7.1 1) fun v9=>bnd (B4 (p7.2 ++ [some (Row.mk ([.i .i64 0,.i .i64 0,.i .u64 0]) true)]) 3 (.c (.p p7.2.length 0)) v8) fun h10=>bnd (A2 .neq v9 (.c (.i .i64 0))) fun v11=>bnd (gd v11 false (bnd (A7 (.c (.p p7.2.length 0)) 0) fun v12=>some (v12,h10)) (some (.no,h10))) fun p13=>bnd (gd v11 false (bnd (A3 p13.2 p13.1) fun v14=>some (v14,p13.2)) (some (.no,p13.2))) fun p15=>bnd (gd v11 false (some (a0,p15.2)) (some (.no,p15.2))) fun p16=>bnd (gd v11 false (bnd (D5 p16.1) fun v17=>some (v17,p16.2)) (some (.no,p16.2))) fun p18=>bnd (gd v11 false (bnd (A2 .neq p15.1 p18.1) fun v19=>some (v19,p18.2)) (some (.no,p18.2))) fun p20=>bnd (C4 v11 (.c (.b true)) p20.1) fun v21=>cnd v21 (bnd (A8 ([.i .i64 0,.i .i64 0,.i .u64 0,.nf]) []) fun c22=>bnd (B4 p20.2 4 (.c (.p h.length 0)) (.a c22)) fun h23=>D3 [A4 h23 4 (.c (.p h.length 0)),some (.c (.i .i64 13))] h23) (bnd (A8 ([]) []) fun c24=>bnd (F0 (p20.2 ++ [some (Row.mk (c24) true)]) 256 (.c (.sl p20.2.length 0 0 256)) a0) fun p25=>bnd (E7 (p25.2 ++ [some (Row.mk ([.ns]) true)]) (.c (.p p25.2.length 0)) p25.1) fun h26=>bnd (A4 h26 3 (.c (.p p7.2.length 0))) fun v27=>bnd (X2 67 [(.c (.p p25.2.length 0))]) fun v28=>bnd (A8 ([.i .i64 0,.i .i64 0,.i .u64 0,.nf]) [(0,3,v27),(3,1,v28)]) fun c29=>bnd (B4 h26 4 (.c (.p h.length 0)) (.a c29)) fun h30=>D3 [A4 h30 4 (.c (.p h.length 0)),some (.c (.i .i64 0))] h30)):=by kernel_rfl
theorem K_view_Of:FnK Tryz.prog 16 A_view_Of B0y B07:=.mk' (B3 C5M C2) Tryz.func16 (by kernel_rfl) (fun _ _ _=>C1)
def A5n:Fun:=Lim A_view_Of B0y
theorem C6g:SOk Tryz.prog 16 A5n:=K_view_Of.ok
theorem C6f:OfT B07 A5n:=K_view_Of.of
def A_view_View_there:AFn:=⟨.seq [1,2] (.ops [aO 2 (.box (.t 0)),aO 4 (.mv (.v (.c (.b false))))]) (.seq [4] (.ops [aO 5 (.fAddr (.t 2) 3),aO 6 (.load1 (.t 5)),aO 7 (.eqN true true (.t 6)),aO 8 (.mv (.t 7)),aG 9 8 true (.mv (.t 1)),aG 10 8 true (.bin .geq (.t 9) (.v (.c (.i .i64 0)))),aO 11 (.pick (.t 8) (.t 10) (.v (.c (.b false)))),aO 12 (.mv (.t 11)),aG 13 12 true (.mv (.t 1)),aG 14 12 true (.fAddr (.t 2) 0),aG 15 12 true (.fAddr (.t 14) 0),aG 16 12 true (.load1 (.t 15)),aG 17 12 true (.bin .lss (.t 13) (.t 16)),aO 18 (.pick (.t 12) (.t 17) (.v (.c (.b false)))),aO 4 (.mv (.t 18))]) .ret),[.tmp 4]⟩
def B0B:B0:=C0
def A7v (n:Nat) (args:List Val) (h:A0):A6:=ax B0B n A_view_View_there.code A_view_View_there.fin (params 0 args) h
theorem C3z (n:Nat) (a0 a1:Val) (h:A0):A7v n [a0,a1] h=bnd (cells? a0) fun c1=>bnd (A7 (.c (.p h.length 0)) 3) fun v2=>bnd (A3 (h ++ [some (Row.mk (c1) true)]) v2) fun v3=>bnd (A0R true true v3) fun v4=>bnd (gd v4 true (some (a1,(h ++ [some (Row.mk (c1) true)]))) (some (.no,(h ++ [some (Row.mk (c1) true)])))) fun p5=>bnd (gd v4 true (bnd (A2 .geq p5.1 (.c (.i .i64 0))) fun v6=>some (v6,p5.2)) (some (.no,p5.2))) fun p7=>bnd (C4 v4 p7.1 (.c (.b false))) fun v8=>bnd (gd v8 true (some (a1,p7.2)) (some (.no,p7.2))) fun p9=>bnd (gd v8 true (bnd (A7 (.c (.p h.length 0)) 0) fun v10=>some (v10,p9.2)) (some (.no,p9.2))) fun p11=>bnd (gd v8 true (bnd (A7 p11.1 0) fun v12=>some (v12,p11.2)) (some (.no,p11.2))) fun p13=>bnd (gd v8 true (bnd (A3 p13.2 p13.1) fun v14=>some (v14,p13.2)) (some (.no,p13.2))) fun p15=>bnd (gd v8 true (bnd (A2 .lss p9.1 p15.1) fun v16=>some (v16,p15.2)) (some (.no,p15.2))) fun p17=>bnd (C4 v8 p17.1 (.c (.b false))) fun v18=>some (v18,p17.2):=by kernel_rfl
theorem K_view_View_there:FnK Tryz.prog 149 A_view_View_there B0B A7v:=.mk' (C2) Tryz.func149 (by kernel_rfl) (fun _ _ _=>C1)
def A5p:Fun:=tidy (Lim A_view_View_there B0B)
theorem C6j:SOk Tryz.prog 149 A5p:=K_view_View_there.sok
theorem C6i:C9 A7v A5p:=K_view_View_there.flat
def A_view_Of_1:AFn:=⟨.seq [0,1,3] (.ops [aO 3 (.alloc (List.replicate 256 (.i .u8 0)))]) (.seq [3] (.ops [aO 4 (.load1 (.t 1)),aO 5 (.mv (.t 0)),aO 6 (.iAddrL 256 (.t 4) (.t 5)),aO 7 (.loadN 256 (.t 6)),aN (.storeN 256 (.t 3) (.t 7))]) .ret),[.cellN 3 256]⟩
def B0z:B0:=C0
def A7t (n:Nat) (args:List Val) (h:A0):A6:=ax B0z n A_view_Of_1.code A_view_Of_1.fin (params 0 args) h
theorem C3w (n:Nat) (a0 a1:Val) (h:A0):A7t n [a0,a1] h=bnd (A3 (h ++ [some (Row.mk (List.replicate 256 (.i .u8 0)) true)]) a1) fun v1=>bnd (B7 256 v1 a0) fun v2=>bnd (A4 (h ++ [some (Row.mk (List.replicate 256 (.i .u8 0)) true)]) 256 v2) fun v3=>bnd (B4 (h ++ [some (Row.mk (List.replicate 256 (.i .u8 0)) true)]) 256 (.c (.p h.length 0)) v3) fun h4=>mp (A4 h4 256 (.c (.p h.length 0))) fun v=>(v,h4):=by kernel_rfl
theorem K_view_Of_1:FnK Tryz.prog 67 A_view_Of_1 B0z A7t:=.mk' (C2) Tryz.func67 (by kernel_rfl) (fun _ _ _=>C1)
def A5o:Fun:=tidy (Lim A_view_Of_1 B0z)
theorem C6e:SOk Tryz.prog 67 A5o:=K_view_Of_1.sok
theorem C6d:C9 A7t A5o:=K_view_Of_1.flat
def A_view_View_Block__Of_1:AFn:=⟨.seq [1,2,4] (.ops [aO 2 (.box (.t 0)),aO 4 (.alloc (List.replicate 256 (.i .u8 0)))]) (.seq [1,2,4] (.seq [1,2,4,8] (.ops [aO 5 (.loadN 4 (.t 2)),aO 6 (.mv (.t 1)),aO 7 (.call 149 [(.t 5),(.t 6)]),aO 8 (.un .not (.t 7))]) (.cond (.t 8) (.seq [4] (.ops [aO 9 (.build (List.replicate 256 (.i .u8 0)) []),aN (.storeN 256 (.t 4) (.t 9))]) .ret) .skip)) (.seq [4] (.ops [aO 10 (.fAddr (.t 2) 3),aO 11 (.load1 (.t 10)),aO 12 (.mv (.t 1)),aO 13 (.callV (.t 11) [(.t 12)]),aN (.storeN 256 (.t 4) (.t 13))]) .ret)),[.cellN 4 256]⟩
def A4r:B0:=B1 149 A5p (B1 67 A5o C0)
def A7u (n:Nat) (args:List Val) (h:A0):A6:=ax A4r n A_view_View_Block__Of_1.code A_view_View_Block__Of_1.fin (params 0 args) h
theorem C3y (n:Nat) (a0 a1:Val) (h:A0):A7u n [a0,a1] h=bnd (cells? a0) fun c1=>bnd (A4 ((h ++ [some (Row.mk (c1) true)]) ++ [some (Row.mk (List.replicate 256 (.i .u8 0)) true)]) 4 (.c (.p h.length 0))) fun v2=>bnd (A5p [v2,a1] ((h ++ [some (Row.mk (c1) true)]) ++ [some (Row.mk (List.replicate 256 (.i .u8 0)) true)])) fun p3=>bnd (aun .not p3.1) fun v4=>cnd v4 (bnd (A8 (List.replicate 256 (.i .u8 0)) []) fun c5=>bnd (B4 p3.2 256 (.c (.p (h ++ [some (Row.mk (c1) true)]).length 0)) (.a c5)) fun h6=>mp (A4 h6 256 (.c (.p (h ++ [some (Row.mk (c1) true)]).length 0))) fun v=>(v,h6)) (bnd (A7 (.c (.p h.length 0)) 3) fun v7=>bnd (A3 p3.2 v7) fun v8=>bnd (L7 A4r v8 [a1] p3.2) fun p9=>bnd (B4 p9.2 256 (.c (.p (h ++ [some (Row.mk (c1) true)]).length 0)) p9.1) fun h10=>mp (A4 h10 256 (.c (.p (h ++ [some (Row.mk (c1) true)]).length 0))) fun v=>(v,h10)):=by kernel_rfl
theorem K_view_View_Block__Of_1:FnK Tryz.prog 71 A_view_View_Block__Of_1 A4r A7u:=.mk' (B3 C6j (B3 C6e C2)) Tryz.func71 (by kernel_rfl) (fun _ _ _=>C1)
def S7:Fun:=tidy (Lim A_view_View_Block__Of_1 A4r)
theorem A3j:SOk Tryz.prog 71 S7:=K_view_View_Block__Of_1.sok
theorem C6h:C9 A7u S7:=K_view_View_Block__Of_1.flat
def A_view_View_Inode:AFn:=⟨.seq [1,2,4] (.ops [aO 2 (.box (.t 0)),aO 4 (.alloc ([.i .i64 0,.i .i64 0,.i .i64 0,.i .i64 0,.i .i64 0,.i .i64 0,.i .i64 0,.i .i64 0,.i .i64 0,.i .i64 0,.i .i64 0]))]) (.seq [2,4,5,6,7] (.ops [aO 11 (.fAddr (.t 2) 0),aO 12 (.loadN 3 (.t 11)),aO 13 (.mv (.t 1)),aO 14 (.call 69 [(.t 12),(.t 13)]),aO 10 (.mv (.t 14)),aO 15 (.ext (.t 10) 0),aO 16 (.ext (.t 10) 1),aO 17 (.ext (.t 10) 2),aO 5 (.mv (.t 15)),aO 6 (.mv (.t 16)),aO 7 (.mv (.t 17))]) (.seq [2,4,5,6] (.seq [2,4,5,6,19] (.ops [aO 18 (.mv (.t 7)),aO 19 (.un .not (.t 18))]) (.cond (.t 19) (.seq [4] (.ops [aO 20 (.build ([.i .i64 0,.i .i64 0,.i .i64 0,.i .i64 0,.i .i64 0,.i .i64 0,.i .i64 0,.i .i64 0,.i .i64 0,.i .i64 0,.i .i64 0]) []),aN (.storeN 11 (.t 4) (.t 20))]) .ret) .skip)) (.seq [4,8] (.ops [aO 22 (.loadN 4 (.t 2)),aO 23 (.mv (.t 5)),aO 24 (.call 71 [(.t 22),(.t 23)]),aO 25 (.mv (.t 6)),aO 26 (.call 70 [(.t 24),(.t 25)]),aO 21 (.mv (.t 26)),aO 27 (.ext (.t 21) 0),aO 28 (.ext (.t 21) 1),aO 8 (.alloc ([.i .i64 0,.i .i64 0,.i .i64 0,.i .i64 0,.i .i64 0,.i .i64 0,.i .i64 0,.i .i64 0,.i .i64 0,.i .i64 0,.i .i64 0])),aN (.storeN 11 (.t 8) (.t 27)),aO 9 (.mv (.t 28))]) (.seq [4] (.ops [aO 29 (.loadN 11 (.t 8)),aN (.storeN 11 (.t 4) (.t 29))]) .ret)))),[.cellN 4 11]⟩
def B0A:B0:=B1 69 A4U (B1 71 S7 (B1 70 A5f C0))
def A4u (n:Nat) (args:List Val) (h:A0):A6:=ax B0A n A_view_View_Inode.code A_view_View_Inode.fin (params 0 args) h
theorem B4d (n:Nat) (a0 a1:Val) (h:A0):A4u n [a0,a1] h=bnd (cells? a0) fun c1=>bnd (A7 (.c (.p h.length 0)) 0) fun v2=>bnd (A4 ((h ++ [some (Row.mk (c1) true)]) ++ [some (Row.mk ([.i .i64 0,.i .i64 0,.i .i64 0,.i .i64 0,.i .i64 0,.i .i64 0,.i .i64 0,.i .i64 0,.i .i64 0,.i .i64 0,.i .i64 0]) true)]) 3 v2) fun v3=>bnd (A4U [v3,a1] ((h ++ [some (Row.mk (c1) true)]) ++ [some (Row.mk ([.i .i64 0,.i .i64 0,.i .i64 0,.i .i64 0,.i .i64 0,.i .i64 0,.i .i64 0,.i .i64 0,.i .i64 0,.i .i64 0,.i .i64 0]) true)])) fun p4=>bnd (C5 p4.1 0) fun v5=>bnd (C5 p4.1 1) fun v6=>bnd (C5 p4.1 2) fun v7=>bnd (aun .not v7) fun v8=>cnd v8 (bnd (A8 ([.i .i64 0,.i .i64 0,.i .i64 0,.i .i64 0,.i .i64 0,.i .i64 0,.i .i64 0,.i .i64 0,.i .i64 0,.i .i64 0,.i .i64 0]) []) fun c9=>bnd (B4 p4.2 11 (.c (.p (h ++ [some (Row.mk (c1) true)]).length 0)) (.a c9)) fun h10=>mp (A4 h10 11 (.c (.p (h ++ [some (Row.mk (c1) true)]).length 0))) fun v=>(v,h10)) (bnd (A4 p4.2 4 (.c (.p h.length 0))) fun v11=>bnd (S7 [v11,v5] p4.2) fun p12=>bnd (A5f [p12.1,v6] p12.2) fun p13=>bnd (C5 p13.1 0) fun v14=>bnd (C5 p13.1 1) fun v15=>bnd (B4 (p13.2 ++ [some (Row.mk ([.i .i64 0,.i .i64 0,.i .i64 0,.i .i64 0,.i .i64 0,.i .i64 0,.i .i64 0,.i .i64 0,.i .i64 0,.i .i64 0,.i .i64 0]) true)]) 11 (.c (.p p13.2.length 0)) v14) fun h16=>bnd (A4 h16 11 (.c (.p p13.2.length 0))) fun v17=>bnd (B4 h16 11 (.c (.p (h ++ [some (Row.mk (c1) true)]).length 0)) v17) fun h18=>mp (A4 h18 11 (.c (.p (h ++ [some (Row.mk (c1) true)]).length 0))) fun v=>(v,h18)):=by kernel_rfl
theorem K_view_View_Inode:FnK Tryz.prog 19 A_view_View_Inode B0A A4u:=.mk' (B3 C4P (B3 A3j (B3 C5P C2))) Tryz.func19 (by kernel_rfl) (fun _ _ _=>C1)
def A0P:Fun:=tidy (Lim A_view_View_Inode B0A)
theorem B4G:SOk Tryz.prog 19 A0P:=K_view_View_Inode.sok
theorem B4F:C9 A4u A0P:=K_view_View_Inode.flat
end Go.Proofs.YteckncopbicmcaaGreat
end
section
namespace Go.Proofs.YteckncopbicmcaaGreat
open Go Go.Esc
def IsView (h:A0) (f:Cell) (D:Dev):Prop:=∃ r q rw rw',f=.f 67 [(r,0)] ∧ rd h r=some ⟨[.sl q 0 D.length 256],rw⟩ ∧ rd h q=some ⟨F8 D,rw'⟩
theorem IsView.ro {h:A0} {f:Cell} {D:Dev} (hv:IsView h f D):IsView (ro h) f D:=by
  obtain ⟨r,q,rw,rw',e,h1,h2⟩:=hv
  exact ⟨r,q,false,false,e,A9i h1 rfl,A9i h2 (A8X D)⟩
theorem IsView.more {h:A0} {f:Cell} {D:Dev} (hv:IsView h f D) (l:A0):IsView (h ++ l) f D:=by
  obtain ⟨r,q,rw,rw',e,h1,h2⟩:=hv
  exact ⟨r,q,rw,rw',e,B6 h1,B6 h2⟩
theorem IsView.since {g h:A0} {f:Cell} {D:Dev} (hv:IsView g f D) (h1:Low g.length g h):IsView h f D:=by
  obtain ⟨r,q,rw,rw',e,h2,h3⟩:=hv
  exact ⟨r,q,rw,rw',e,h1.rd h2,h1.rd h3⟩
theorem IsView.get {h:A0} {f:Cell} {D:Dev} (hv:IsView h f D):∃ id cs,f=.f id cs:=by
  obtain ⟨r,q,rw,rw',e,_⟩:=hv
  exact ⟨_,_,e⟩
def vwC (b n m:Int) (f:Cell):List Cell:=[.i .i64 b,.i .i64 n,.i .u64 m,f]
section
variable {D:Dev} {n m:Int} {f:Cell}
theorem A3R {b:Int}:ldN (some (Row.mk (vwC b n m f) true)) 0 3=some (.a (G7 b n m)):=rfl
theorem A21 {b:Int}:ldN (some (Row.mk (vwC b n m f) true)) 0 4=some (.a (vwC b n m f)):=rfl
end
theorem D3P {h:A0} {r q:Nat} {rw rw':Bool} {D:Dev} {no:Nat} (hD:okD D) (hno:no < D.length) (h1:rd h r=some ⟨[.sl q 0 D.length 256],rw⟩) (h2:rd h q=some ⟨F8 D,rw'⟩) :
    A5o [.c (.i .i64 (no:Int)),.c (.p r 0)] h=some (.a (A1 D[no]),h):=by
  have key:∀ g rw rw',rd g r=some ⟨[.sl q 0 D.length 256],rw⟩ → rd g q=some ⟨F8 D,rw'⟩ → ∃ g',A7t 0 [.c (.i .i64 (no:Int)),.c (.p r 0)] g=some (.a (A1 D[no]),g'):=by
    intro g rw rw' h1 h2
    have hz:(List.replicate 256 (Cell.i .u8 0)).length=256:=List.length_replicate
    have hB:(A1 D[no]).length=256:=by rw [B5,hD.at hno]
    have l1:A3 (g ++ [some (Row.mk (List.replicate 256 (.i .u8 0)) true)]) (.c (.p r 0))=some (.c (.sl q 0 D.length 256)):=D8 (cs:=[.sl q 0 D.length 256]) (B6 h1) rfl (by cases rw <;> rfl)
    have a1:B7 256 (.c (.sl q 0 D.length 256)) (.c (.i .i64 (no:Int)))=some (.c (.p q (0 + no * 256))):=G8 hno
    have l2:A4 (g ++ [some (Row.mk (List.replicate 256 (.i .u8 0)) true)]) 256 (.c (.p q (0 + no * 256)))=some (.a (A1 D[no])):=by
      rw [A3C (cs:=F8 D) (rw:=rw') (B6 h2) (by rw [A2x hD];omega) (by
        rw [Nat.zero_add,A5x hD hno,O6];simp),Nat.zero_add,A5x hD hno]
    rw [Nat.zero_add] at a1 l2
    rw [C3w]
    generalize List.replicate 256 (Cell.i .u8 0)=z at *
    generalize A1 D[no]=y at *
    exact ⟨_,by simp only [esc,esh,Nat.reduceAdd,Nat.reduceMul,Nat.reduceLT,l1,a1,l2,hz,hB] <;> rfl⟩
  obtain ⟨g',e⟩:=key (ro h) false false (A9i h1 rfl) (A9i h2 (A8X D))
  exact C6d e (by simp [Val.flat])
theorem D3R {b n m no:Int} {f:Nat} {cs:List (Nat × Nat)} {h:A0}:A5p [.a (vwC b n m (.f f cs)),.c (.i .i64 no)] h=some (.c (.b (decide (0 ≤ no) && decide (no < b))),h):=by
  have key:∀ g,∃ g',A7v 0 [.a (vwC b n m (.f f cs)),.c (.i .i64 no)] g=some (.c (.b (decide (0 ≤ no) && decide (no < b))),g'):=by
    intro g
    rw [C3z]
    unfold vwC
    by_cases c1:0 ≤ no
    · exact ⟨_,by simp only [esc,esh,Nat.reduceAdd,Nat.reduceMul,Nat.reduceLT,c1] <;> rfl⟩
    · exact ⟨_,by simp only [esc,esh,Nat.reduceAdd,Nat.reduceMul,Nat.reduceLT,c1,Bool.false_and] <;> rfl⟩
  obtain ⟨g',e⟩:=key (ro h)
  exact C6i e rfl
theorem A3Q {n m no:Int} {f:Cell} {D:Dev} {h:A0} (hD:okD D) (hv:IsView h f D):S7 [.a (vwC D.length n m f),.c (.i .i64 no)] h=some (.a (A1 (blk D no)),h):=by
  have key:∀ g,IsView g f D → ∃ g',A7u 0 [.a (vwC D.length n m f),.c (.i .i64 no)] g=some (.a (A1 (blk D no)),g'):=by
    intro g hv
    have hz:(A1 (zeros 256)).length=256:=by rw [B5];exact zeros_length
    have hB:(A1 (blk D no)).length=256:=by rw [B5,A0X hD]
    obtain ⟨r,q,rw',rw'',rfl,h1,h2⟩:=hv
    have hT:=fun h=>D3R (b:=D.length) (n:=n) (m:=m) (no:=no) (f:=67) (cs:=[(r,0)]) (h:=h)
    have hcv:∀ (x:Val) (h:A0),L7 A4r (.c (.f 67 [(r,0)])) [x] h=A5o [x,.c (.p r 0)] h:=fun _ _=>Eq.trans rfl rfl
    rw [C3y,M1]
    by_cases c1:0 ≤ no ∧ no < D.length
    · have c2:=c1.1
      have c3:=c1.2
      obtain ⟨k,rfl⟩:∃ k:Nat,no=k:=⟨no.toNat,by omega⟩
      have e1:=C65 (D:=D) (i:=k) (by omega)
      have hO:=D3P (h:=g ++ [some (Row.mk (vwC D.length n m (.f 67 [(r,0)])) true),some (Row.mk (A1 (zeros 256)) true)]) hD (show k < D.length by omega) (B6 h1) (B6 h2)
      rw [← e1] at hO
      simp only [c2,c3,decide_true,Bool.and_self] at hT
      generalize A1 (zeros 256)=z at *
      generalize A1 (blk D k)=y at *
      unfold vwC at *
      exact ⟨_,by simp only [esc,esh,Nat.reduceAdd,Nat.reduceMul,Nat.reduceLT,hT,hcv,hO,hz,hB] <;> rfl⟩
    · have e1:=C66 (D:=D) (i:=no) (by omega)
      have ht:(decide (0 ≤ no) && decide (no < (D.length:Int)))=false:=by
        rw [Bool.and_eq_false_iff,decide_eq_false_iff_not,decide_eq_false_iff_not];omega
      simp only [ht] at hT
      rw [e1] at hB ⊢
      have ef:A8 (A1 (zeros 256)) []=some (A1 (zeros 256)):=rfl
      generalize A1 (zeros 256)=z at *
      unfold vwC at *
      exact ⟨_,by simp only [esc,esh,Nat.reduceAdd,Nat.reduceMul,Nat.reduceLT,hT,ef,hz] <;> rfl⟩
  obtain ⟨g',e⟩:=key (ro h) hv.ro
  exact C6h e (by simp [Val.flat])
theorem A5s {h:A0} {id m sz:Nat} {ys:List Cell} {y:Val} (hr:rd h id=some ⟨[],true⟩) (hy:Has h y sz m ys) (hsz:0 < sz) (hn:m ≤ 1073741824) :
    F0 h sz (.c (.sl id 0 0 sz)) y=some (.c (.sl h.length 0 m sz),h.set id none ++ [some ⟨ys,true⟩]):=by
  have h1:=hy.add
  have h2:ys.length / sz=m:=by rw [hy.length];exact Nat.mul_div_cancel m hsz
  simp only [F0,h1,hr,Option.bind_some,h2,List.nil_append,Nat.zero_add]
  rw [if_pos ⟨trivial,trivial,by simp,trivial,hn⟩]
def A7Y (D:Dev):Bool:=okS (D.headD []) && decide (fieldN (D.headD []) 8 2=D.length)
def B1U (D:Dev):Int:=fieldN (D.headD []) 10 2
def B1T (D:Dev):Int:=fieldN (D.headD []) 12 8
theorem C9L {b:List UInt8} (h:okS b=true):A3A b=G7 (fieldN b 8 2) (fieldN b 10 2) (fieldN b 12 8):=by unfold A3A;rw [h];rfl
theorem D3Q {v:Val} {D:Dev} {h:A0} (hv:Has h v 256 D.length (F8 D)) (hD:okD D) (hn:A7Y D=true) (h60:D.length ≤ 1073741824) :
    ∃ f t,A5n [v] h=some (.t [.a (vwC D.length (B1U D) (B1T D) f),.c (.i .i64 0)],h ++ t) ∧ IsView (h ++ t) f D:=by
  obtain ⟨b,E,rfl⟩:∃ b E,D=b :: E:=by
    cases D with
    | nil=>simp only [A7Y,List.headD_nil,List.length_nil,Bool.and_eq_true,decide_eq_true_eq] at hn;exact absurd hn.1 (by decide)
    | cons b E=>exact ⟨b,E,rfl⟩
  have h0:0 < (b :: E).length:=by simp
  have hv2:=hv.more [some (Row.mk [.i .i64 0,.i .i64 0,.i .u64 0,.nf] true)]
  unfold A7Y at hn
  simp only [List.headD_cons,Bool.and_eq_true,decide_eq_true_eq] at hn
  have ho:=hn.1
  have hn2:=of_decide_eq_true hn.2
  have hv3:=hv.more [some (Row.mk [.i .i64 0,.i .i64 0,.i .u64 0,.nf] true),some (Row.mk (G7 (b :: E).length (fieldN b 10 2) (fieldN b 12 8)) true),some (Row.mk [] true)]
  obtain ⟨id,off,rfl,hid,_,hB⟩:=hv2.sl h0
  have hBl:(A1 b).length=256:=by rw [B5,hD.cons.1]
  have l2:=hB 0 256 (by rw [A2x hD];omega)
  have ec:((F8 (b :: E)).drop 0).take 256=A1 b:=by
    have:=A5x (i:=0) hD h0
    rwa [Nat.zero_mul] at this
  rw [ec,Nat.add_zero] at l2
  have a1:B7 256 (.c (.sl id off (b :: E).length 256)) (.c (.i .i64 0))=some (.c (.p id off)):=by
    have:=G8 (k:=.i64) (id:=id) (off:=off) (sz:=256) (j:=0) (len:=(b :: E).length) h0
    rwa [Nat.zero_mul,Nat.add_zero] at this
  have hG:=fun h=>D2P (h:=h) hD.cons.1
  have c0:¬ (((b :: E).length:Nat):Int)=0:=by omega
  have n13:¬ (13:Int)=0:=by decide
  simp only [ho,C9L ho,cond_true,hn2] at hG
  have eN:B1U (b :: E)=fieldN b 10 2:=rfl
  have eM:B1T (b :: E)=fieldN b 12 8:=rfl
  have hA:=A5s (id:=h.length + 2) (by simp) hv3 (by omega) h60
  have ef1:A8 ([]:List Cell) []=some []:=rfl
  have hlt:id < h.length:=by
    rcases hv with ⟨e,_⟩ | ⟨i,o,r,e,hr,_⟩
    · cases e
    · cases e;exact B8 hr
  rw [eN,eM]
  unfold IsView
  generalize F8 (b :: E)=C at *
  have emk:X2 67 [.c (.p (h.length + 4) 0)]=some (.c (.f 67 [(h.length + 4,0)])):=rfl
  refine ⟨.f 67 [(h.length + 4,0)],[some (Row.mk (vwC (b :: E).length (fieldN b 10 2) (fieldN b 12 8) (.f 67 [(h.length + 4,0)])) true),some (Row.mk (G7 (b :: E).length (fieldN b 10 2) (fieldN b 12 8)) true),none,some (Row.mk C true),some (Row.mk [.sl (h.length + 3) 0 (b :: E).length 256] true)],C6f (n:=0) ?_,h.length + 4,h.length + 3,true,true,rfl,A2S,A2S⟩
  rw [C3x]
  generalize (b :: E).length=N at *
  generalize A1 b=y at *
  generalize fieldN b 10 2=n1 at *
  generalize fieldN b 12 8=n2 at *
  have ef2:∀ x,A8 [Cell.i .i64 0,.i .i64 0,.i .u64 0,.nf] [(0,3,.a [.i .i64 (N:Int),.i .i64 n1,.i .u64 n2]),(3,1,.c x)]=some [.i .i64 (N:Int),.i .i64 n1,.i .u64 n2,x]:=fun _=>rfl
  unfold G7 vwC at *
  simp only [esc,esh,Nat.reduceAdd,Nat.reduceMul,Nat.reduceLT] at hA
  simp only [esc,esh,Nat.reduceAdd,Nat.reduceMul,Nat.reduceLT,l2,a1,hG,n13,eq_self,c0,hA,ef1,ef2,emk] <;> rfl
end Go.Proofs.YteckncopbicmcaaGreat
end
noncomputable section
namespace Go.Proofs.YteckncopbicmcaaGreat
open Go Go.Esc
set_option maxRecDepth 100000
def A_points_there:AFn:=⟨.seq [0] (.ops [aO 2 (.mv (.v (.c (.b false))))]) (.seq [2] (.ops [aO 3 (.mv (.t 0)),aO 4 (.bin .geq (.t 3) (.v (.c (.i .i64 0)))),aO 5 (.mv (.t 4)),aG 6 5 true (.mv (.t 0)),aG 7 5 true (.bin .lss (.t 6) (.v (.c (.i .i64 128)))),aO 8 (.pick (.t 5) (.t 7) (.v (.c (.b false)))),aO 2 (.mv (.t 8))]) .ret),[.tmp 2]⟩
def B0r:B0:=C0
def A7f (n:Nat) (args:List Val) (h:A0):A6:=ax B0r n A_points_there.code A_points_there.fin (params 0 args) h
theorem C3g (n:Nat) (a0:Val) (h:A0):A7f n [a0] h=bnd (A2 .geq a0 (.c (.i .i64 0))) fun v1=>bnd (gd v1 true (some (a0,h)) (some (.no,h))) fun p2=>bnd (gd v1 true (bnd (A2 .lss p2.1 (.c (.i .i64 128))) fun v3=>some (v3,p2.2)) (some (.no,p2.2))) fun p4=>bnd (C4 v1 p4.1 (.c (.b false))) fun v5=>some (v5,p4.2):=by kernel_rfl
theorem K_points_there:FnK Tryz.prog 248 A_points_there B0r A7f:=.mk' (C2) Tryz.func248 (by kernel_rfl) (fun _ _ _=>C1)
def A5d:Fun:=tidy (Lim A_points_there B0r)
theorem C5J:SOk Tryz.prog 248 A5d:=K_points_there.sok
theorem C5I:C9 A7f A5d:=K_points_there.flat
def A_points_Get:AFn:=⟨.seq [1,2] (.ops [aO 2 (.box (.t 0)),aO 4 (.mv (.v (.c (.i .i64 0))))]) (.seq [1,2] (.seq [1,2,7] (.ops [aO 5 (.mv (.t 1)),aO 6 (.call 248 [(.t 5)]),aO 7 (.un .not (.t 6))]) (.cond (.t 7) (.seq [4] (.ops [aO 4 (.mv (.v (.c (.i .i64 0))))]) .ret) .skip)) (.seq [4] (.ops [aO 8 (.loadN 256 (.t 2)),aO 9 (.mv (.t 1)),aO 10 (.bin .mul (.v (.c (.i .i64 2))) (.t 9)),aO 11 (.call 142 [(.t 8),(.t 10),(.v (.c (.i .i64 2)))]),aO 4 (.mv (.t 11))]) .ret)),[.tmp 4]⟩
def B0q:B0:=B1 248 A5d (B1 142 M3 C0)
def A7e (n:Nat) (args:List Val) (h:A0):A6:=ax B0q n A_points_Get.code A_points_Get.fin (params 0 args) h
theorem C3f (n:Nat) (a0 a1:Val) (h:A0):A7e n [a0,a1] h=bnd (cells? a0) fun c1=>bnd (A5d [a1] (h ++ [some (Row.mk (c1) true)])) fun p2=>bnd (aun .not p2.1) fun v3=>cnd v3 (some ((.c (.i .i64 0)),p2.2)) (bnd (A4 p2.2 256 (.c (.p h.length 0))) fun v4=>bnd (A2 .mul (.c (.i .i64 2)) a1) fun v5=>bnd (M3 [v4,v5,.c (.i .i64 2)] p2.2) fun p6=>some (p6.1,p6.2)):=by kernel_rfl
theorem K_points_Get:FnK Tryz.prog 208 A_points_Get B0q A7e:=.mk' (B3 C5J (B3 A47 C2)) Tryz.func208 (by kernel_rfl) (fun _ _ _=>C1)
def A5c:Fun:=tidy (Lim A_points_Get B0q)
theorem C5H:SOk Tryz.prog 208 A5c:=K_points_Get.sok
theorem C5G:C9 A7e A5c:=K_points_Get.flat
end Go.Proofs.YteckncopbicmcaaGreat
end
section
namespace Go.Proofs.YteckncopbicmcaaGreat
open Go Go.Esc
def ptP (b:List UInt8) (i:Nat):Int:=fieldN b (2 * i) 2
theorem D06 {k:Nat} {h:A0} (hk:k < 128):A5d [.c (.i .i64 k)] h=some (.c (.b true),h):=by
  have key:∀ g,∃ g',A7f 0 [.c (.i .i64 k)] g=some (.c (.b true),g'):=by
    intro g
    have c1:(0:Int) ≤ k:=by omega
    have c2:(k:Int) < 128:=by omega
    rw [C3g]
    exact ⟨_,by simp only [esc,c1,c2] <;> rfl⟩
  obtain ⟨g',e⟩:=key (ro h)
  exact C5I e rfl
theorem C6Z {b:List UInt8} {i:Nat} (hb:b.length=256) (hi:i < 128):((atN b ((2 * i:Nat):Int) 2:Nat):Int)=ptP b i:=by
  unfold atN ptP fieldN
  rw [if_pos ⟨by omega,A0i.2 (by omega)⟩]
  simp only [Int.toNat_natCast]
  rfl
theorem D3T {i:Nat} (hi:i < 128):IntKind.wrap .i64 (2 * (i:Int))=((2 * i:Nat):Int):=by rw [wrap_i64 (by omega) (by omega)];omega
theorem D05 {b:List UInt8} {k:Nat} {h:A0} (hb:b.length=256) (hk:k < 128):A5c [.a (A1 b),.c (.i .i64 k)] h=some (.c (.i .i64 (ptP b k)),h):=by
  have key:∀ g,∃ g',A7e 0 [.a (A1 b),.c (.i .i64 k)] g=some (.c (.i .i64 (ptP b k)),g'):=by
    intro g
    have hB:(A1 b).length=256:=by rw [B5,hb]
    have hT:=fun h=>D06 (h:=h) hk
    have hA:=fun h=>A06 (h:=h) hb (a:=((2 * k:Nat):Int)) (w:=2)
    rw [C6Z hb hk] at hA
    rw [C3f]
    exact ⟨_,by simp only [esc,esh,Nat.reduceAdd,Nat.reduceMul,Nat.reduceLT,hB,hT,D3T hk,hA] <;> rfl⟩
  obtain ⟨g',e⟩:=key (ro h)
  exact C5G e rfl
end Go.Proofs.YteckncopbicmcaaGreat
end
section
namespace Go.Proofs.YteckncopbicmcaaGreat
open Go Go.Esc
def zI (n:Nat):List Int:=List.replicate n 0
theorem O9 {n:Nat}:(zI n).length=n:=by simp [zI]
end Go.Proofs.YteckncopbicmcaaGreat
end
section
namespace Go.Proofs.YteckncopbicmcaaGreat
open Go Go.Esc
abbrev A5 (k l s p:Int) (d:List Int):List Cell:=.i .i64 k :: .i .i64 l :: .i .i64 s :: .i .i64 p :: encI d
def A0g (n:Int):Bool:=decide (0 ≤ n) && decide (n ≤ 65535)
theorem A1x {n:Int} {h:A0}:A19 [.c (.i .i64 n)] h=some (.c (.b (A0g n)),h):=by
  refine C5c (n:=0) (h2:=ro h) ?_ rfl
  rw [C2V]
  unfold A0g
  by_cases c:0 ≤ n
  · simp only [esc,c,Bool.true_and]
  · simp only [esc,c,Bool.false_and]
theorem B9r {g:A0} {k l s p:Int} {d:List Int} {z:List Cell} {q:Nat} (hd:d.length=7) (hz:z.length=7):∀ e i m:Nat,i + e=6 → e < m →
    A8B q m (.c (.p g.length 0)) (.c (.p (g.length + 1) 0)) (.c (.p (g.length + 2) 0)) (.a (encI (d.take 6))) (.c (.i .i64 i)) (g ++ [some ⟨A5 k l s p d,true⟩,some ⟨z,true⟩,some ⟨encI (d.take i ++ zI (7 - i)),true⟩]) =
      some (.a (encI d),g ++ [some ⟨A5 k l s p d,true⟩,some ⟨encI d,true⟩,some ⟨encI d,true⟩])
  | e,i,0,_,hm=>by omega
  | 0,i,m + 1,hi,hm=>by
    have e0:i=6:=by omega
    subst e0
    have h1':¬ ((6:Nat):Int) < 6:=by omega
    have l1:(A5 k l s p d)[10]? = some (.i .i64 d[6]):=by
      have:(encI d)[6]? = some (.i .i64 d[6]):=by rw [R5,List.getElem?_eq_getElem (by omega)];rfl
      exact this
    have a1:E1 7 1 (.c (.p (g.length + 2) 0)) (.c (.i .i64 6))=some (.c (.p (g.length + 2) 6)):=rfl
    have ho:6 < (encI (d.take 6 ++ zI (7 - 6))).length:=by rw [G6,List.length_append,O9,List.length_take];omega
    have es:(encI (d.take 6 ++ zI (7 - 6))).set 6 (.i .i64 d[6])=encI d:=by
      rw [A75]
      congr 1
      have h6:(d.take 6).length=6:=by simp;omega
      rw [List.set_append_right _ _ (by omega),h6]
      have:d=d.take 6 ++ [d[6]]:=by
        rw [← List.take_succ_eq_append_getElem (by omega),List.take_of_length_le (by omega)]
      conv=>rhs;rw [this]
      rfl
    have hl:(encI d).length=7:=by rw [G6,hd]
    rw [B72]
    simp only [esc,esh,Nat.reduceAdd,Nat.reduceMul,Nat.reduceLT,h1',l1,a1,ho,es,hl,hz]
  | e + 1,i,m + 1,hi,hm=>by
    have ih:=B9r (g:=g) (k:=k) (l:=l) (s:=s) (p:=p) (q:=q) hd hz e (i + 1) m (by omega) (by omega)
    have h1':(i:Int) < 6:=by omega
    have hx:W1 6 (.a (encI (d.take 6))) (.c (.i .i64 (i:Int)))=some (.c (.i .i64 d[i])):=by
      rw [A8s (by omega),R5,List.getElem?_take_of_lt (by omega),List.getElem?_eq_getElem (by omega)];rfl
    have a1:E1 7 1 (.c (.p (g.length + 2) 0)) (.c (.i .i64 (i:Int)))=some (.c (.p (g.length + 2) i)):=by rw [T3 (by omega)];simp
    have ho:i < (encI (d.take i ++ zI (7 - i))).length:=by rw [G6,List.length_append,O9,List.length_take];omega
    have es:(encI (d.take i ++ zI (7 - i))).set i (.i .i64 d[i])=encI (d.take (i + 1) ++ zI (7 - (i + 1))):=by
      rw [A75]
      refine congrArg encI ?_
      have h6:(d.take i).length=i:=by simp;omega
      rw [List.set_append_right _ _ (by omega),h6,Nat.sub_self,List.take_succ_eq_append_getElem (by omega),List.append_assoc]
      refine congrArg (d.take i ++ ·) ?_
      rw [show 7 - i=7 - (i + 1) + 1 by omega]
      unfold zI
      rw [List.replicate_succ,List.set_cons_zero];rfl
    rw [B72]
    simp only [esc,esh,Nat.reduceAdd,Nat.reduceMul,Nat.reduceLT,h1',hx,a1,ho,es,E2 (show i + 1 < 9223372036854775808 by omega)]
    exact ih
theorem C9p {k l s p:Int} {d:List Int} (hd:d.length=7):ldN (some ⟨A5 k l s p d,true⟩) 4 6=some (.a (encI (d.take 6))):=by
  have h1:(A5 k l s p d).length=11:=by simp [G6,hd]
  simp only [ldN,Option.bind_some]
  rw [if_pos ⟨by omega,by simp⟩]
  simp only [List.drop_succ_cons,List.drop_zero]
  unfold encI
  rw [List.map_take]
theorem B2C {k l s p:Int} {d:List Int} {h:A0} (hd:d.length=7):A17 [.a (A5 k l s p d)] h=some (.a (encI d),h):=by
  have key:∀ N,7 < N → ∀ g,∃ g',A60 N [.a (A5 k l s p d)] g=some (.a (encI d),g'):=by
    intro N hN g
    have:=B9r (g:=g) (k:=k) (l:=l) (s:=s) (p:=p) (z:=encI (zI 7)) (q:=N) hd (by rw [G6,O9]) 6 0 N (by omega) (by omega)
    have e0:encI (d.take 0 ++ zI (7 - 0))=[Cell.i .i64 0,.i .i64 0,.i .i64 0,.i .i64 0,.i .i64 0,.i .i64 0,.i .i64 0]:=rfl
    have e1:encI (zI 7)=[Cell.i .i64 0,.i .i64 0,.i .i64 0,.i .i64 0,.i .i64 0,.i .i64 0,.i .i64 0]:=rfl
    rw [e0,e1] at this
    rw [C2T]
    exact ⟨_,by simp only [esc,esh,Nat.reduceAdd,Nat.reduceMul,Nat.reduceLT,C9p hd];exact this⟩
  obtain ⟨g',e⟩:=key (h.length + 8) (by omega) (ro h)
  exact C5a e (by simp)
def A9P (l s p:Int) (d:List Int):Bool:=decide (l=0 ∧ s=0 ∧ p=0 ∧ d=zI 7)
def B92 (k l s p:Int) (d:List Int):Bool:=decide (0 ≤ k ∧ k ≤ 2) && (A0g l && (A0g p && (decide (0 ≤ s ∧ s ≤ 34304) && d.all A0g)))
def Y0 (k l s p:Int) (d:List Int):Bool:=if k=0 then A9P l s p d else B92 k l s p d
theorem B5V {h:A0} {d:List Int} {q:Nat} (hd:d.length=7):∀ e i m:Nat,i + e=7 → e < m →
    A8z q m (.a (encI d)) (.c (.i .i64 i)) h=some (.c (.i .i64 (bif (d.drop i).all A0g then 0 else 1)),h)
  | e,i,0,_,hm=>by omega
  | 0,i,m + 1,hi,hm=>by
    have c0:¬ (i:Int) < 7:=by omega
    rw [B7W,List.drop_of_length_le (by omega)]
    simp only [esc,c0,List.all_nil]
  | e + 1,i,m + 1,hi,hm=>by
    have ih:=B5V (h:=h) (q:=q) hd e (i + 1) m (by omega) (by omega)
    have c0:(i:Int) < 7:=by omega
    have hx:W1 7 (.a (encI d)) (.c (.i .i64 (i:Int)))=some (.c (.i .i64 d[i])):=by
      rw [A8s (by omega),R5,List.getElem?_eq_getElem (by omega)];rfl
    rw [B7W,List.drop_eq_getElem_cons (by omega),List.all_cons]
    cases c1:A0g d[i] with
    | true =>
      simp only [esc,c0,hx,A1x,c1,Bool.true_and,E2 (show i + 1 < 9223372036854775808 by omega)]
      exact ih
    | false=>simp only [esc,c0,hx,A1x,c1,Bool.false_and]
theorem C6F {k l s p k' l' s' p':Int} {d d':List Int} {neg:Bool} (hd:d.length=7) (hd':d'.length=7) :
    aeq neg [Sh.i .i64,.i .i64,.i .i64,.i .i64,.i .i64,.i .i64,.i .i64,.i .i64,.i .i64,.i .i64,.i .i64] (.a (A5 k l s p d)) (.a (A5 k' l' s' p' d'))=some (.c (.b (bif neg then !decide (k :: l :: s :: p :: d=k' :: l' :: s' :: p' :: d') else decide (k :: l :: s :: p :: d=k' :: l' :: s' :: p' :: d')))):=by
  have h1:=C6A (l:=k :: l :: s :: p :: d) (m:=k' :: l' :: s' :: p' :: d') (n:=11) (by simp [hd]) (by simp [hd'])
  have h2:=C6z (l:=k :: l :: s :: p :: d) (m:=k' :: l' :: s' :: p' :: d') (n:=11) (by simp [hd]) (by simp [hd'])
  cases neg
  · exact h2
  · exact h1
theorem D3Y {l s p:Int} {d:List Int}:decide ((0:Int) :: l :: s :: p :: d=0 :: 0 :: 0 :: 0 :: zI 7)=A9P l s p d:=by
  unfold A9P
  simp
theorem B1m:A8 [Cell.i .i64 0,.i .i64 0,.i .i64 0,.i .i64 0,.i .i64 0,.i .i64 0,.i .i64 0,.i .i64 0,.i .i64 0,.i .i64 0,.i .i64 0] []=some (A5 0 0 0 0 (zI 7)):=rfl
theorem B7V {k l s p:Int} {d:List Int} {h:A0} (hd:d.length=7):A40 [.a (A5 k l s p d)] h=some (.c (.i .i64 (bif Y0 k l s p d then 0 else 1)),h):=by
  have hlen:(A5 k l s p d).length=11:=by simp [G6,hd]
  have key:∀ N,8 < N → ∀ g,∃ g',A6X N [.a (A5 k l s p d)] g=some (.c (.i .i64 (bif Y0 k l s p d then 0 else 1)),g'):=by
    intro N hN g
    have lp:=fun g=>B5V (h:=g) (q:=N) hd 7 0 N (by omega) (by omega)
    simp only [List.drop_zero,Int.cast_ofNat_Int] at lp
    rw [C2Q]
    unfold Y0
    by_cases k0:k=0
    · subst k0
      rw [if_pos rfl]
      have c1:¬ (0:Int) < 0:=by omega
      have c2:¬ (2:Int) < 0:=by omega
      have hq:=C6F (k:=0) (l:=l) (s:=s) (p:=p) (k':=0) (l':=0) (s':=0) (p':=0) (neg:=true) hd (O9 (n:=7))
      simp only [cond_true,D3Y] at hq
      cases hz:A9P l s p d with
      | false =>
        rw [hz] at hq
        exact ⟨_,by simp only [esc,esh,Nat.reduceAdd,Nat.reduceMul,Nat.reduceLT,c1,c2,hlen,B1m,hq] <;> rfl⟩
      | true =>
        rw [hz] at hq
        have hz':=of_decide_eq_true hz
        obtain ⟨rfl,rfl,rfl,rfl⟩:=hz'
        have sm:A0g 0=true:=by decide
        have al:(zI 7).all A0g=true:=by decide
        have c3:¬ (34304:Int) < 0:=by omega
        rw [al] at lp
        exact ⟨_,by simp only [esc,esh,Nat.reduceAdd,Nat.reduceMul,Nat.reduceLT,c1,c2,c3,hlen,B1m,hq,A1x,sm,B2C hd,lp] <;> rfl⟩
    · rw [if_neg k0]
      unfold B92
      by_cases c1:k < 0
      · rw [decide_eq_false (show ¬ (0 ≤ k ∧ k ≤ 2) by omega)]
        exact ⟨_,by simp only [esc,esh,Nat.reduceAdd,Nat.reduceMul,Nat.reduceLT,c1,Bool.false_and] <;> rfl⟩
      · by_cases c2:2 < k
        · rw [decide_eq_false (show ¬ (0 ≤ k ∧ k ≤ 2) by omega)]
          exact ⟨_,by simp only [esc,esh,Nat.reduceAdd,Nat.reduceMul,Nat.reduceLT,c1,c2,Bool.false_and] <;> rfl⟩
        · rw [decide_eq_true (show 0 ≤ k ∧ k ≤ 2 by omega),Bool.true_and]
          cases sl:A0g l with
          | false=>exact ⟨_,by simp only [esc,esh,Nat.reduceAdd,Nat.reduceMul,Nat.reduceLT,c1,c2,k0,A1x,sl,Bool.false_and] <;> rfl⟩
          | true =>
            cases sp:A0g p with
            | false=>exact ⟨_,by simp only [esc,esh,Nat.reduceAdd,Nat.reduceMul,Nat.reduceLT,c1,c2,k0,A1x,sl,sp,Bool.true_and,Bool.false_and] <;> rfl⟩
            | true =>
              by_cases c3:s < 0
              · rw [decide_eq_false (show ¬ (0 ≤ s ∧ s ≤ 34304) by omega)]
                exact ⟨_,by simp only [esc,esh,Nat.reduceAdd,Nat.reduceMul,Nat.reduceLT,c1,c2,k0,A1x,sl,sp,c3,Bool.true_and,Bool.false_and] <;> rfl⟩
              · by_cases c4:34304 < s
                · rw [decide_eq_false (show ¬ (0 ≤ s ∧ s ≤ 34304) by omega)]
                  exact ⟨_,by simp only [esc,esh,Nat.reduceAdd,Nat.reduceMul,Nat.reduceLT,c1,c2,k0,A1x,sl,sp,c3,c4,Bool.true_and,Bool.false_and] <;> rfl⟩
                · rw [decide_eq_true (show 0 ≤ s ∧ s ≤ 34304 by omega)]
                  exact ⟨_,by simp only [esc,esh,Nat.reduceAdd,Nat.reduceMul,Nat.reduceLT,c1,c2,k0,A1x,sl,sp,c3,c4,Bool.true_and,hlen,B2C hd,lp] <;> rfl⟩
  obtain ⟨g',e⟩:=key (h.length + 9) (by omega) (ro h)
  exact C44 e rfl
def S1 (k l s p:Int):List UInt8:=C3 1 k ++ zeros 1 ++ C3 2 l ++ C3 4 s ++ C3 2 p
def O3 (d:List Int):List UInt8:=(d.map (C3 2)).flatten
def J0 (k l s p:Int) (d:List Int):List UInt8:=S1 k l s p ++ O3 d ++ zeros 8
theorem A5N {k l s p:Int}:(S1 k l s p).length=10:=by simp [S1]
theorem A8y {d:List Int}:(O3 d).length=2 * d.length:=by
  unfold O3
  induction d with
  | nil=>rfl
  | cons x d ih=>simp only [List.map_cons,List.flatten_cons,List.length_append,A2w,List.length_cons,ih];omega
theorem A5M {k l s p:Int} {d:List Int} (hd:d.length=7):(J0 k l s p d).length=32:=by
  unfold J0;rw [List.length_append,List.length_append,A5N,A8y,zeros_length,hd]
theorem C9m {d:List Int} {x:Int}:O3 (d ++ [x])=O3 d ++ C3 2 x:=by simp [O3]
theorem C9n {k l s p:Int}:K9 (K9 (K9 (K9 (zeros 256) 0 1 k) 2 2 l) 4 4 s) 8 2 p=D4 256 (S1 k l s p):=by
  rw [← D0S]
  have h1:=A0G (l:=[]) (a:=0) (w:=1) (v:=k) (by simp) (by omega) (by omega) (by omega)
  have h2:=A0G (l:=[] ++ zeros (0 - 0) ++ C3 1 k) (a:=2) (w:=2) (v:=l) (by simp) (by omega) (by omega) (by omega)
  have h3:=A0G (l:=[] ++ zeros (0 - 0) ++ C3 1 k ++ zeros 1 ++ C3 2 l) (a:=4) (w:=4) (v:=s) (by simp) (by omega) (by omega) (by omega)
  have h4:=A0G (l:=[] ++ zeros (0 - 0) ++ C3 1 k ++ zeros 1 ++ C3 2 l ++ zeros 0 ++ C3 4 s) (a:=8) (w:=2) (v:=p) (by simp) (by omega) (by omega) (by omega)
  simp only [List.length_append,List.length_nil,zeros_length,A2w,Nat.sub_self,Nat.zero_sub,Nat.reduceAdd,Nat.reduceSub] at h1 h2 h3 h4
  simp only [Int.cast_ofNat_Int] at h1 h2 h3 h4
  rw [h1,h2,h3,h4]
  congr 1
theorem B9N {g:A0} {c0:List Cell} {B:List UInt8} {z:List Cell} {q:Nat} (hB:B.length=256) (hz:z.length=32):∀ e i m:Nat,i + e=32 → e < m →
    A8D q m (.c (.p (g.length + 1) 0)) (.c (.p (g.length + 2) 0)) (.c (.p (g.length + 3) 0)) (.c (.i .i64 i)) (g ++ [some ⟨c0,true⟩,some ⟨z,true⟩,some ⟨A1 (B.take i ++ zeros (32 - i)),true⟩,some ⟨A1 B,true⟩]) =
      some (.t [.a (A1 (B.take 32)),.c (.i .i64 0)],g ++ [some ⟨c0,true⟩,some ⟨A1 (B.take 32),true⟩,some ⟨A1 (B.take 32),true⟩,some ⟨A1 B,true⟩])
  | e,i,0,_,hm=>by omega
  | 0,i,m + 1,hi,hm=>by
    have e0:i=32:=by omega
    subst e0
    have h1':¬ ((32:Nat):Int) < 32:=by omega
    have hl:(A1 (B.take 32)).length=32:=by rw [B5,List.length_take];omega
    have e1:A1 (B.take 32 ++ zeros (32 - 32))=A1 (B.take 32):=by simp [zeros]
    rw [B79,e1]
    simp only [esc,esh,Nat.reduceAdd,Nat.reduceMul,Nat.reduceLT,h1',hl,hz]
  | e + 1,i,m + 1,hi,hm=>by
    have ih:=B9N (g:=g) (c0:=c0) (q:=q) hB hz e (i + 1) m (by omega) (by omega)
    have h1':(i:Int) < 32:=by omega
    have a1:E1 256 1 (.c (.p (g.length + 3) 0)) (.c (.i .i64 (i:Int)))=some (.c (.p (g.length + 3) i)):=by rw [T3 (by omega)];simp
    have a2:E1 32 1 (.c (.p (g.length + 2) 0)) (.c (.i .i64 (i:Int)))=some (.c (.p (g.length + 2) i)):=by rw [T3 (by omega)];simp
    have l1:(A1 B)[i]? = some (.i .u8 B[i].toNat):=by rw [A00,List.getElem?_eq_getElem (by omega)];rfl
    have ho:i < (A1 (B.take i ++ zeros (32 - i))).length:=by rw [B5,List.length_append,zeros_length,List.length_take];omega
    have es:(A1 (B.take i ++ zeros (32 - i))).set i (.i .u8 B[i].toNat)=A1 (B.take (i + 1) ++ zeros (32 - (i + 1))):=by
      rw [A0r]
      refine congrArg A1 ?_
      have h6:(B.take i).length=i:=by simp;omega
      rw [List.set_append_right _ _ (by omega),h6,Nat.sub_self,List.take_succ_eq_append_getElem (by omega),List.append_assoc]
      refine congrArg (B.take i ++ ·) ?_
      rw [show 32 - i=32 - (i + 1) + 1 by omega]
      unfold zeros
      rw [List.replicate_succ,List.set_cons_zero];rfl
    rw [B79]
    simp only [esc,esh,Nat.reduceAdd,Nat.reduceMul,Nat.reduceLT,h1',a1,a2,l1,ho,es,E2 (show i + 1 < 9223372036854775808 by omega)]
    exact ih
theorem B9O {g:A0} {k l s p:Int} {d:List Int} {c0 z:List Cell} {q:Nat} (hd:d.length=7) (hz:z.length=32) (hq:33 < q):∀ e i m:Nat,i + e=7 → e < m →
    A8C q m (.c (.p (g.length + 1) 0)) (.c (.p (g.length + 2) 0)) (.c (.p (g.length + 3) 0)) (.a (encI d)) (.c (.i .i64 i)) (g ++ [some ⟨c0,true⟩,some ⟨z,true⟩,some ⟨A1 (zeros 32),true⟩,some ⟨A1 (D4 256 (S1 k l s p ++ O3 (d.take i))),true⟩]) =
      some (.t [.a (A1 (J0 k l s p d)),.c (.i .i64 0)],g ++ [some ⟨c0,true⟩,some ⟨A1 (J0 k l s p d),true⟩,some ⟨A1 (J0 k l s p d),true⟩,some ⟨A1 (D4 256 (S1 k l s p ++ O3 d)),true⟩])
  | e,i,0,_,hm=>by omega
  | 0,i,m + 1,hi,hm=>by
    have e0:i=7:=by omega
    subst e0
    have h1':¬ ((7:Nat):Int) < 7:=by omega
    rw [List.take_of_length_le (by omega)]
    have hlen:(S1 k l s p ++ O3 d).length=24:=by rw [List.length_append,A5N,A8y,hd]
    have:=B9N (g:=g) (c0:=c0) (z:=z) (q:=q) (B:=D4 256 (S1 k l s p ++ O3 d)) (J4 (by omega)) hz 32 0 q (by omega) (by omega)
    have e1:(D4 256 (S1 k l s p ++ O3 d)).take 32=J0 k l s p d:=by
      unfold D4 J0
      rw [List.take_append,List.take_of_length_le (by omega),hlen]
      refine congrArg (S1 k l s p ++ O3 d ++ ·) ?_
      unfold zeros
      rw [List.take_replicate];rfl
    rw [e1] at this
    simp only [List.take_zero,List.nil_append,Nat.sub_zero] at this
    rw [B78]
    simp only [esc,h1']
    exact this
  | e + 1,i,m + 1,hi,hm=>by
    have ih:=B9O (g:=g) (k:=k) (l:=l) (s:=s) (p:=p) (c0:=c0) hd hz hq e (i + 1) m (by omega) (by omega)
    have h1':(i:Int) < 7:=by omega
    have hx:W1 7 (.a (encI d)) (.c (.i .i64 (i:Int)))=some (.c (.i .i64 d[i])):=by
      rw [A8s (by omega),R5,List.getElem?_eq_getElem (by omega)];rfl
    have hlen:(S1 k l s p ++ O3 (d.take i)).length=10 + 2 * i:=by rw [List.length_append,A5N,A8y,List.length_take];omega
    have hL:(A1 (D4 256 (S1 k l s p ++ O3 (d.take i)))).length=256:=by rw [B5,J4 (by omega)]
    have e2:IntKind.wrap .i64 (2 * (i:Int))=((2 * i:Nat):Int):=by rw [wrap_i64 (by omega) (by omega)];omega
    have e3:IntKind.wrap .i64 (10 + ((2 * i:Nat):Int))=((10 + 2 * i:Nat):Int):=by rw [wrap_i64 (by omega) (by omega)];omega
    have hw:=A0A (l:=D4 256 (S1 k l s p ++ O3 (d.take i))) (h:=g ++ [some ⟨c0,true⟩,some ⟨z,true⟩,some ⟨A1 (zeros 32),true⟩,some ⟨A1 (D4 256 (S1 k l s p ++ O3 (d.take i))),true⟩]) (J4 (by omega)) (a:=((10 + 2 * i:Nat):Int)) (w:=2) (v:=d[i])
    have e4:=A0G (l:=S1 k l s p ++ O3 (d.take i)) (a:=10 + 2 * i) (w:=2) (v:=d[i]) (by omega) (by omega) (by omega) (by omega)
    rw [show ((2:Nat):Int)=2 from rfl,hlen,Nat.sub_self,show zeros 0=[] from rfl,List.append_nil,List.append_assoc,← C9m,← List.take_succ_eq_append_getElem (by omega)] at e4
    rw [e4] at hw
    have hL':(A1 (D4 256 (S1 k l s p ++ O3 (d.take (i + 1))))).length=256:=by
      rw [B5,J4 (by rw [List.length_append,A5N,A8y,List.length_take];omega)]
    rw [B78]
    simp only [esc,esh,Nat.reduceAdd,Nat.reduceMul,Nat.reduceLT,h1',hx,hL,e2,e3,hw,hL',E2 (show i + 1 < 9223372036854775808 by omega)]
    exact ih
theorem B77 {k l s p:Int} {d:List Int} {h:A0} (hd:d.length=7) :
    A18 [.a (A5 k l s p d)] h=some (.t [.a (A1 (bif Y0 k l s p d then J0 k l s p d else zeros 32)),.c (.i .i64 (bif Y0 k l s p d then 0 else 1))],h):=by
  have hlen:(A5 k l s p d).length=11:=by simp [G6,hd]
  have key:∀ N,33 < N → ∀ g,∃ g',A61 N [.a (A5 k l s p d)] g=some (.t [.a (A1 (bif Y0 k l s p d then J0 k l s p d else zeros 32)),.c (.i .i64 (bif Y0 k l s p d then 0 else 1))],g'):=by
    intro N hN g
    have hz:(A1 (zeros 32)).length=32:=by rw [B5];exact zeros_length
    have hz2:(A1 (zeros 256)).length=256:=by rw [B5];exact zeros_length
    rw [C2U,M1,M1]
    cases c:Y0 k l s p d with
    | false =>
      generalize zeros 32=z at *
      generalize zeros 256=y at *
      exact ⟨_,by simp only [esc,esh,Nat.reduceAdd,Nat.reduceMul,Nat.reduceLT,hlen,B7V hd,c,hz,Int.reduceEq] <;> rfl⟩
    | true =>
      have:=B9O (g:=g) (k:=k) (l:=l) (s:=s) (p:=p) (c0:=A5 k l s p d) (z:=A1 (zeros 32)) (q:=N) hd hz hN 7 0 N (by omega) (by omega)
      simp only [List.take_zero,show O3 []=[] from rfl,List.append_nil] at this
      have w1:=fun h=>A0A (h:=h) (l:=zeros 256) zeros_length (a:=0) (w:=1) (v:=k)
      have w2:=fun h=>A0A (h:=h) (l:=K9 (zeros 256) 0 1 k) (Y6 zeros_length) (a:=2) (w:=2) (v:=l)
      have w3:=fun h=>A0A (h:=h) (l:=K9 (K9 (zeros 256) 0 1 k) 2 2 l) (Y6 (Y6 zeros_length)) (a:=4) (w:=4) (v:=s)
      have w4:=fun h=>A0A (h:=h) (l:=K9 (K9 (K9 (zeros 256) 0 1 k) 2 2 l) 4 4 s) (Y6 (Y6 (Y6 zeros_length))) (a:=8) (w:=2) (v:=p)
      have l1:(A1 (K9 (zeros 256) 0 1 k)).length=256:=by rw [B5,Y6 zeros_length]
      have l2:(A1 (K9 (K9 (zeros 256) 0 1 k) 2 2 l)).length=256:=by rw [B5,Y6 (Y6 zeros_length)]
      have l3:(A1 (K9 (K9 (K9 (zeros 256) 0 1 k) 2 2 l) 4 4 s)).length=256:=by rw [B5,Y6 (Y6 (Y6 zeros_length))]
      have l4:(A1 (D4 256 (S1 k l s p))).length=256:=by rw [B5,J4 (by rw [A5N];omega)]
      simp only [C9n] at w4
      generalize zeros 32=z at *
      generalize zeros 256=y at *
      exact ⟨_,by simp only [esc,esh,Nat.reduceAdd,Nat.reduceMul,Nat.reduceLT,hlen,B7V hd,c,hz,hz2,w1,w2,w3,w4,l1,l2,l3,l4,B2C hd];exact this⟩
  obtain ⟨g',e⟩:=key (h.length + 34) (by omega) (ro h)
  exact C5b e (by simp)
def T2 (b:List UInt8):Int:=fieldN b 0 1
def U1 (b:List UInt8):Int:=fieldN b 2 2
def U3 (b:List UInt8):Int:=fieldN b 4 4
def U2 (b:List UInt8):Int:=fieldN b 8 2
def H8 (b:List UInt8):List Int:=(List.range 7).map fun j=>fieldN b (10 + 2 * j) 2
theorem O2 {b:List UInt8}:(H8 b).length=7:=by simp [H8]
theorem B7o {b:List UInt8} {i:Nat} (hi:i < 7):(H8 b)[i]? = some (fieldN b (10 + 2 * i) 2):=by simp [H8,hi]
theorem B7S {k l s p x:Int} {d:List Int} {i:Nat}:(A5 k l s p d).set (4 + i) (.i .i64 x)=A5 k l s p (d.set i x):=by
  rw [show 4 + i=i + 1 + 1 + 1 + 1 by omega]
  simp only [A5,List.set_cons_succ,A75]
theorem C0W {D:List Int} (hD:D.length=7) {i:Nat} (hi:i < 7):(D.take i ++ zI (7 - i)).set i D[i]=D.take (i + 1) ++ zI (7 - (i + 1)):=by
  have h6:(D.take i).length=i:=by simp;omega
  rw [List.set_append_right _ _ (by omega),h6,Nat.sub_self,List.take_succ_eq_append_getElem (by omega),List.append_assoc]
  refine congrArg (D.take i ++ ·) ?_
  rw [show 7 - i=7 - (i + 1) + 1 by omega]
  unfold zI
  rw [List.replicate_succ,List.set_cons_zero];rfl
theorem B7y {g:A0} {b:List UInt8} {k l s p:Int} {c0 z:List Cell} {q:Nat} (hb:b.length=32) (hz:z.length=11):∀ e i m:Nat,i + e=6 → e < m →
    A8A q m (.c (.p (g.length + 1) 0)) (.c (.p (g.length + 2) 0)) (.c (.p (g.length + 3) 0)) (.c (.i .i64 i)) (g ++ [some ⟨c0,true⟩,some ⟨z,true⟩,some ⟨A1 (D4 256 b),true⟩,some ⟨A5 k l s p ((H8 b).take i ++ zI (7 - i)),true⟩]) =
      some (.a (A5 k l s p (H8 b)),g ++ [some ⟨c0,true⟩,some ⟨A5 k l s p (H8 b),true⟩,some ⟨A1 (D4 256 b),true⟩,some ⟨A5 k l s p (H8 b),true⟩])
  | e,i,0,_,hm=>by omega
  | 0,i,m + 1,hi,hm=>by
    have e0:i=6:=by omega
    subst e0
    have h1':¬ ((6:Nat):Int) < 6:=by omega
    have hX:(A1 (D4 256 b)).length=256:=by rw [B5,J4 (by omega)]
    have ha:=fun h=>A06 (h:=h) (l:=D4 256 b) (J4 (by omega)) (a:=22) (w:=2)
    have e1:=B1w (b:=b) (a:=22) (w:=2) (by omega) (by omega) (by omega) (by omega)
    simp only [Int.cast_ofNat_Int] at e1
    simp only [e1] at ha
    have hl0:(A5 k l s p ((H8 b).take 6 ++ zI (7 - 6))).length=11:=by simp [G6,O2,O9]
    have ho:(encI ((H8 b).take 6 ++ zI (7 - 6))).length=7:=by simp [G6,O2,O9]
    have hg6:(H8 b)[6]'(by rw [O2];omega)=fieldN b 22 2:=by
      have:=B7o (b:=b) (i:=6) (by omega)
      rw [List.getElem?_eq_getElem (by rw [O2];omega)] at this
      exact Option.some.inj this
    have es:(A5 k l s p ((H8 b).take 6 ++ zI (7 - 6))).set 10 (.i .i64 (fieldN b 22 2))=A5 k l s p (H8 b):=by
      have h1:=B7S (k:=k) (l:=l) (s:=s) (p:=p) (x:=fieldN b 22 2) (d:=(H8 b).take 6 ++ zI (7 - 6)) (i:=6)
      rw [show 4 + 6=10 from rfl] at h1
      rw [h1,← hg6,C0W O2 (by omega)]
      have:(H8 b).take (6 + 1) ++ zI (7 - (6 + 1))=H8 b:=by rw [List.take_of_length_le (by rw [O2];omega)];simp [zI]
      rw [this]
    have hl1:(A5 k l s p (H8 b)).length=11:=by simp [G6,O2]
    rw [B7Z]
    simp only [esc,esh,Nat.reduceAdd,Nat.reduceMul,Nat.reduceLT,h1',hX,ha,ho,es,hl1,hz,G6,O2]
  | e + 1,i,m + 1,hi,hm=>by
    have ih:=B7y (g:=g) (k:=k) (l:=l) (s:=s) (p:=p) (c0:=c0) (q:=q) hb hz e (i + 1) m (by omega) (by omega)
    have h1':(i:Int) < 6:=by omega
    have hX:(A1 (D4 256 b)).length=256:=by rw [B5,J4 (by omega)]
    have e2:IntKind.wrap .i64 (2 * (i:Int))=((2 * i:Nat):Int):=by rw [wrap_i64 (by omega) (by omega)];omega
    have e3:IntKind.wrap .i64 (10 + ((2 * i:Nat):Int))=((10 + 2 * i:Nat):Int):=by rw [wrap_i64 (by omega) (by omega)];omega
    have ha:=fun h=>A06 (h:=h) (l:=D4 256 b) (J4 (by omega)) (a:=((10 + 2 * i:Nat):Int)) (w:=2)
    have e1:=B1w (b:=b) (a:=10 + 2 * i) (w:=2) (by omega) (by omega) (by omega) (by omega)
    rw [show ((2:Nat):Int)=2 from rfl] at e1
    simp only [e1] at ha
    have a1:E1 6 1 (.c (.p (g.length + 3) 4)) (.c (.i .i64 (i:Int)))=some (.c (.p (g.length + 3) (4 + i))):=by rw [T3 (by omega)];simp
    have ho:(encI ((H8 b).take i ++ zI (7 - i))).length=7:=by simp [G6,O2,O9];omega
    have ho2:4 + i < 11:=by omega
    have hgi:(H8 b)[i]'(by rw [O2];omega)=fieldN b (10 + 2 * i) 2:=by
      have:=B7o (b:=b) (i:=i) (by omega)
      rw [List.getElem?_eq_getElem (by rw [O2];omega)] at this
      exact Option.some.inj this
    have es:(A5 k l s p ((H8 b).take i ++ zI (7 - i))).set (4 + i) (.i .i64 (fieldN b (10 + 2 * i) 2))=A5 k l s p ((H8 b).take (i + 1) ++ zI (7 - (i + 1))):=by
      rw [B7S,← hgi,C0W O2 (by omega)]
    rw [B7Z]
    simp only [esc,esh,Nat.reduceAdd,Nat.reduceMul,Nat.reduceLT,h1',hX,e2,e3,ha,a1,ho,ho2,es,E2 (show i + 1 < 9223372036854775808 by omega)]
    exact ih
theorem B2B {b:List UInt8} {h:A0} (hb:b.length=32):A42 [.a (A1 b)] h=some (.a (A5 (T2 b) (U1 b) (U3 b) (U2 b) (H8 b)),h):=by
  have key:∀ N,7 < N → ∀ g,∃ g',A6Z N [.a (A1 b)] g=some (.a (A5 (T2 b) (U1 b) (U3 b) (U2 b) (H8 b)),g'):=by
    intro N hN g
    have hl:(A1 b).length=32:=by rw [B5,hb]
    have hX:(A1 (D4 256 b)).length=256:=by rw [B5,J4 (by omega)]
    have hz:(List.replicate 256 (Cell.i .u8 0)).length=256:=List.length_replicate
    have z11:[Cell.i .i64 0,.i .i64 0,.i .i64 0,.i .i64 0,.i .i64 0,.i .i64 0,.i .i64 0,.i .i64 0,.i .i64 0,.i .i64 0,.i .i64 0]=A5 0 0 0 0 (zI 7):=rfl
    have l11:(A5 0 0 0 0 (zI 7)).length=11:=rfl
    have ho:=A85 (h:=g ++ [some ⟨A1 b,true⟩,some ⟨A5 0 0 0 0 (zI 7),true⟩]) (v:=.c (.sl g.length 0 32 1)) (nv:=32) (data:=b) (Has.tr (by simp) (by omega) (O6 _)) (by omega)
    rw [A89 (by omega)] at ho
    have at_:∀ (a w:Nat),a + w ≤ 32 → 1 ≤ w → w ≤ 4 → ∀ h,M3 [.a (A1 (D4 256 b)),.c (.i .i64 a),.c (.i .i64 w)] h=some (.c (.i .i64 (fieldN b a w)),h):=fun a w h1 h2 h3 h=>by
      rw [A06 (J4 (by omega)),B1w (by omega) (by omega) h2 h3]
    have a1:=at_ 0 1 (by omega) (by omega) (by omega)
    have a2:=at_ 2 2 (by omega) (by omega) (by omega)
    have a3:=at_ 4 4 (by omega) (by omega) (by omega)
    have a4:=at_ 8 2 (by omega) (by omega) (by omega)
    simp only [Int.cast_ofNat_Int] at a1 a2 a3 a4
    have ef:A8 (A5 0 0 0 0 (zI 7)) [(0,1,.c (.i .i64 (fieldN b 0 1))),(1,1,.c (.i .i64 (fieldN b 2 2))),(2,1,.c (.i .i64 (fieldN b 4 4))),(3,1,.c (.i .i64 (fieldN b 8 2)))]=some (A5 (T2 b) (U1 b) (U3 b) (U2 b) (zI 7)):=rfl
    have lf:(A5 (T2 b) (U1 b) (U3 b) (U2 b) (zI 7)).length=11:=rfl
    have:=B7y (g:=g) (b:=b) (k:=T2 b) (l:=U1 b) (s:=U3 b) (p:=U2 b) (c0:=A1 b) (z:=A5 0 0 0 0 (zI 7)) (q:=N) hb l11 6 0 N (by omega) (by omega)
    simp only [List.take_zero,List.nil_append,Nat.sub_zero] at this
    rw [C2S,z11]
    generalize List.replicate 256 (Cell.i .u8 0)=z at *
    generalize A5 0 0 0 0 (zI 7)=y at *
    exact ⟨_,by simp only [esc,esh,Nat.reduceAdd,Nat.reduceMul,Nat.reduceLT,hl,ho,hz,hX,a1,a2,a3,a4,ef,l11,lf];exact this⟩
  obtain ⟨g',e⟩:=key (h.length + 8) (by omega) (ro h)
  exact C48 e (by simp)
def X5 (b:List UInt8):Bool:=Y0 (T2 b) (U1 b) (U3 b) (U2 b) (H8 b) && decide (J0 (T2 b) (U1 b) (U3 b) (U2 b) (H8 b)=b)
def V1 (b:List UInt8):List Cell:=bif X5 b then A5 (T2 b) (U1 b) (U3 b) (U2 b) (H8 b) else A5 0 0 0 0 (zI 7)
theorem B53 {b:List UInt8}:(V1 b).length=11:=by
  unfold V1
  cases X5 b <;> simp [G6,O2,O9]
theorem B6Y {b:List UInt8}:F9 (V1 b)=true:=by
  unfold V1
  cases X5 b <;> simp
theorem C9s {b:List UInt8} {h:A0} (hb:b.length=32):A41 [.a (A1 b)] h=some (.t [.a (V1 b),.c (.b (X5 b))],h):=by
  have key:∀ g,∃ g',A6Y 0 [.a (A1 b)] g=some (.t [.a (V1 b),.c (.b (X5 b))],g'):=by
    intro g
    have hl:(A1 b).length=32:=by rw [B5,hb]
    have hI:(A5 (T2 b) (U1 b) (U3 b) (U2 b) (H8 b)).length=11:=by simp [G6,O2]
    have z11:[Cell.i .i64 0,.i .i64 0,.i .i64 0,.i .i64 0,.i .i64 0,.i .i64 0,.i .i64 0,.i .i64 0,.i .i64 0,.i .i64 0,.i .i64 0]=A5 0 0 0 0 (zI 7):=rfl
    have l11:(A5 0 0 0 0 (zI 7)).length=11:=rfl
    have af:=B1m
    rw [z11] at af
    have hz:(List.replicate 32 (Cell.i .u8 0)).length=32:=List.length_replicate
    have hp:=fun h=>B77 (h:=h) (k:=T2 b) (l:=U1 b) (s:=U3 b) (p:=U2 b) (d:=H8 b) O2
    have hB:(A1 (J0 (T2 b) (U1 b) (U3 b) (U2 b) (H8 b))).length=32:=by rw [B5,A5M O2]
    have hZ:(A1 (zeros 32)).length=32:=by rw [B5];exact zeros_length
    have hq:=A7D (l:=J0 (T2 b) (U1 b) (U3 b) (U2 b) (H8 b)) (m:=b) (n:=32) (A5M O2) hb
    rw [C2R,z11]
    unfold V1 X5
    generalize List.replicate 32 (Cell.i .u8 0)=z at *
    generalize A5 0 0 0 0 (zI 7)=y at *
    cases c:Y0 (T2 b) (U1 b) (U3 b) (U2 b) (H8 b) with
    | false =>
      simp only [c,cond_false] at hp
      exact ⟨_,by simp only [esc,esh,Nat.reduceAdd,Nat.reduceMul,Nat.reduceLT,hl,B2B hb,hI,l11,hp,hz,hZ,Int.reduceEq,af,Bool.false_and] <;> rfl⟩
    | true =>
      simp only [c,cond_true] at hp
      cases c2:decide (J0 (T2 b) (U1 b) (U3 b) (U2 b) (H8 b)=b) with
      | false =>
        rw [c2] at hq
        exact ⟨_,by simp only [esc,esh,Nat.reduceAdd,Nat.reduceMul,Nat.reduceLT,hl,B2B hb,hI,l11,hp,hz,hB,hq,af,Bool.and_false] <;> rfl⟩
      | true =>
        rw [c2] at hq
        exact ⟨_,by simp only [esc,esh,Nat.reduceAdd,Nat.reduceMul,Nat.reduceLT,hl,B2B hb,hI,l11,hp,hz,hB,hq,Bool.and_true] <;> rfl⟩
  obtain ⟨g',e⟩:=key (ro h)
  exact C46 e (by simp [B6Y])
end Go.Proofs.YteckncopbicmcaaGreat
end
noncomputable section
namespace Go.Proofs.YteckncopbicmcaaGreat
open Go Go.Esc
set_option maxRecDepth 100000
def A_index_depth:AFn:=⟨.seq [1] (.ops [aO 1 (.box (.t 0)),aO 2 (.mv (.v (.c (.i .i64 0))))]) (.seq [2] (.ops [aO 3 (.fAddr (.t 1) 0),aO 4 (.load1 (.t 3)),aO 5 (.min (.t 4) (.v (.c (.i .i64 5)))),aO 6 (.max (.v (.c (.i .i64 0))) (.t 5)),aO 2 (.mv (.t 6))]) .ret),[.tmp 2]⟩
def B0e:B0:=C0
def A6U (n:Nat) (args:List Val) (h:A0):A6:=ax B0e n A_index_depth.code A_index_depth.fin (params 0 args) h
theorem C2M (n:Nat) (a0:Val) (h:A0):A6U n [a0] h=bnd (cells? a0) fun c1=>bnd (A7 (.c (.p h.length 0)) 0) fun v2=>bnd (A3 (h ++ [some (Row.mk (c1) true)]) v2) fun v3=>bnd (T9 v3 (.c (.i .i64 5))) fun v4=>bnd (A0n (.c (.i .i64 0)) v4) fun v5=>some (v5,(h ++ [some (Row.mk (c1) true)])):=by kernel_rfl
theorem K_index_depth:FnK Tryz.prog 156 A_index_depth B0e A6U:=.mk' (C2) Tryz.func156 (by kernel_rfl) (fun _ _ _=>C1)
def A0M:Fun:=tidy (Lim A_index_depth B0e)
theorem B1b:SOk Tryz.prog 156 A0M:=K_index_depth.sok
theorem C4Y:C9 A6U A0M:=K_index_depth.flat
def A_index_fine:AFn:=⟨.seq [0] (.ops [aO 2 (.mv (.v (.c (.b false))))]) (.seq [2] (.ops [aO 3 (.mv (.t 0)),aO 4 (.bin .geq (.t 3) (.v (.c (.i .i64 0)))),aO 5 (.mv (.t 4)),aG 6 5 true (.mv (.t 0)),aG 7 5 true (.bin .leq (.t 6) (.v (.c (.i .i64 65535)))),aO 8 (.pick (.t 5) (.t 7) (.v (.c (.b false)))),aO 2 (.mv (.t 8))]) .ret),[.tmp 2]⟩
def B0f:B0:=C0
def B0U (n:Nat) (args:List Val) (h:A0):A6:=ax B0f n A_index_fine.code A_index_fine.fin (params 0 args) h
theorem C2N (n:Nat) (a0:Val) (h:A0):B0U n [a0] h=bnd (A2 .geq a0 (.c (.i .i64 0))) fun v1=>bnd (gd v1 true (some (a0,h)) (some (.no,h))) fun p2=>bnd (gd v1 true (bnd (A2 .leq p2.1 (.c (.i .i64 65535))) fun v3=>some (v3,p2.2)) (some (.no,p2.2))) fun p4=>bnd (C4 v1 p4.1 (.c (.b false))) fun v5=>some (v5,p4.2):=by kernel_rfl
theorem K_index_fine:FnK Tryz.prog 216 A_index_fine B0f B0U:=.mk' (C2) Tryz.func216 (by kernel_rfl) (fun _ _ _=>C1)
def A4Y:Fun:=tidy (Lim A_index_fine B0f)
theorem C40:SOk Tryz.prog 216 A4Y:=K_index_fine.sok
theorem C4Z:C9 B0U A4Y:=K_index_fine.flat
def B7J:ACode:=.seq [2,4,20,21,22] (.ops [aO 22 (.bin .lss (.t 21) (.v (.c (.i .i64 32))))]) (.seq [2,4,20,21] (.cond (.t 22) .skip (.exit 0)) (.seq [2,4,20,21] (.block 1 (.seq [2,4,5,6,20,21] (.ops [aO 23 (.mv (.t 21)),aO 24 (.idxA1 32 (.t 20) (.t 21)),aO 5 (.mv (.t 23)),aO 6 (.mv (.t 24))]) (.seq [2,4,5,6,20,21] (.seq [2,4,5,6,20,21,27] (.ops [aO 25 (.mv (.t 6)),aO 26 (.call 216 [(.t 25)]),aO 27 (.un .not (.t 26))]) (.cond (.t 27) (.seq [2,3] (.ops [aO 28 (.build (List.replicate 256 (.i .u8 0)) []),aN (.storeN 256 (.t 2) (.t 28)),aO 3 (.mv (.v (.c (.i .i64 1))))]) .ret) .skip)) (.ops [aO 29 (.loadN 256 (.t 4)),aO 30 (.mv (.t 5)),aO 31 (.bin .mul (.v (.c (.i .i64 2))) (.t 30)),aO 32 (.bin .add (.v (.c (.i .i64 32))) (.t 31)),aO 33 (.mv (.t 6)),aO 34 (.call 213 [(.t 29),(.t 32),(.v (.c (.i .i64 2))),(.t 33)]),aN (.storeN 256 (.t 4) (.t 34))])))) (.ops [aO 35 (.bin .add (.t 21) (.v (.c (.i .i64 1)))),aO 21 (.mv (.t 35))])))
def B7K:ACode:=.seq [2,3] (.ops [aO 36 (.loadN 256 (.t 4)),aN (.storeN 256 (.t 2) (.t 36)),aO 3 (.mv (.v (.c (.i .i64 0))))]) .ret
def A_index_Put:AFn:=⟨.seq [1,2] (.ops [aO 1 (.box (.t 0)),aO 2 (.alloc (List.replicate 256 (.i .u8 0))),aO 3 (.mv (.v (.c (.i .i64 0))))]) (.seq [1,2] (.seq [1,2,11] (.draw 0 [aO 7 (.fAddr (.t 1) 0),aO 8 (.load1 (.t 7)),aO 9 (.loadN 33 (.t 1)),aO 10 (.call 156 [(.t 9)])] [aO 11 (.bin .neq (.t 8) (.t 10))]) (.cond (.t 11) (.seq [2,3] (.ops [aO 12 (.build (List.replicate 256 (.i .u8 0)) []),aN (.storeN 256 (.t 2) (.t 12)),aO 3 (.mv (.v (.c (.i .i64 1))))]) .ret) .skip)) (.seq [1,2,4] (.draw 2 [aS 13 0 (.buildSl 1 4 ([.i .u8 0,.i .u8 0,.i .u8 0,.i .u8 0]) [(0,1,(.v (.c (.i .u8 105)))),(1,1,(.v (.c (.i .u8 100)))),(2,1,(.v (.c (.i .u8 120)))),(3,1,(.v (.c (.i .u8 33))))]),aO 14 (.mark (.t 13)),aO 15 (.call 212 [(.t 14)]),aO 16 (.fAddr (.t 1) 0),aO 17 (.load1 (.t 16)),aO 18 (.call 213 [(.t 15),(.v (.c (.i .i64 4))),(.v (.c (.i .i64 1))),(.t 17)]),aS 4 1 (.alloc (List.replicate 256 (.i .u8 0)))] [aN (.storeN 256 (.t 4) (.t 18))]) (.seq [2,4] (.seq [2,4,20,21] (.ops [aO 19 (.fAddr (.t 1) 1),aO 20 (.loadN 32 (.t 19)),aO 21 (.mv (.v (.c (.i .i64 0))))]) (.block 0 (.loop [2,4,20,21] B7J))) B7K))),[.cellN 2 256,.tmp 3]⟩
def A36:B0:=B1 156 A0M (B1 212 Z0 (B1 213 Q9 (B1 216 A4Y C0)))
def C9g (n:Nat):A9 (Val × A0):=E4 [2,4] (ax A36 n B7K) A_index_Put.fin
def C9h (n:Nat):A9 (Val × A0):=D6 0 (C9g n)
def A8w (n m:Nat) (x2 x4 x20 x21:Val) (h:A0):A6:=C6 (ax A36 n B7J) [2,4,20,21] (C9h n) m [(2,x2),(4,x4),(20,x20),(21,x21)] h
def A6T (n:Nat) (args:List Val) (h:A0):A6:=ax A36 n A_index_Put.code A_index_Put.fin (params 0 args) h
theorem C2L (n:Nat) (a0:Val) (h:A0):A6T n [a0] h=bnd (cells? a0) fun c1=>bnd (A7 (.c (.p h.length 0)) 0) fun v2=>bnd (A3 ((h ++ [some (Row.mk (c1) true)]) ++ [some (Row.mk (List.replicate 256 (.i .u8 0)) true)]) v2) fun v3=>bnd (A4 ((h ++ [some (Row.mk (c1) true)]) ++ [some (Row.mk (List.replicate 256 (.i .u8 0)) true)]) 33 (.c (.p h.length 0))) fun v4=>bnd (quiet (((h ++ [some (Row.mk (c1) true)]) ++ [some (Row.mk (List.replicate 256 (.i .u8 0)) true)]) ++ []) (A0M [v4] (((h ++ [some (Row.mk (c1) true)]) ++ [some (Row.mk (List.replicate 256 (.i .u8 0)) true)]) ++ []))) fun p5=>bnd (A2 .neq v3 p5.1) fun v6=>cnd v6 (bnd (A8 (List.replicate 256 (.i .u8 0)) []) fun c7=>bnd (B4 p5.2 256 (.c (.p (h ++ [some (Row.mk (c1) true)]).length 0)) (.a c7)) fun h8=>D3 [A4 h8 256 (.c (.p (h ++ [some (Row.mk (c1) true)]).length 0)),some (.c (.i .i64 1))] h8) (bnd (A8 ([.i .u8 0,.i .u8 0,.i .u8 0,.i .u8 0]) [(0,1,.c (.i .u8 105)),(1,1,.c (.i .u8 100)),(2,1,.c (.i .u8 120)),(3,1,.c (.i .u8 33))]) fun c9=>bnd (U8 ((p5.2 ++ [none,none]).set (p5.2.length + 0) (some (Row.mk (c9) true))) (.c (.sl (p5.2.length + 0) 0 4 1))) fun v10=>bnd (quiet ((p5.2 ++ [none,none]).set (p5.2.length + 0) (some (Row.mk (c9) true))) (Z0 [v10] ((p5.2 ++ [none,none]).set (p5.2.length + 0) (some (Row.mk (c9) true))))) fun p11=>bnd (A7 (.c (.p h.length 0)) 0) fun v12=>bnd (A3 p5.2 v12) fun v13=>bnd (quiet p11.2 (Q9 [p11.1,.c (.i .i64 4),.c (.i .i64 1),v13] p11.2)) fun p14=>bnd (B4 (p14.2.set (p5.2.length + 1) (some (Row.mk (List.replicate 256 (.i .u8 0)) true))) 256 (.c (.p (p5.2.length + 1) 0)) p14.1) fun h15=>bnd (A7 (.c (.p h.length 0)) 1) fun v16=>bnd (A4 h15 32 v16) fun v17=>A8w n n (.c (.p (h ++ [some (Row.mk (c1) true)]).length 0)) (.c (.p (p5.2.length + 1) 0)) v17 (.c (.i .i64 0)) h15):=by kernel_rfl
theorem B7M (n m:Nat) (x2 x4 x20 x21:Val) (h:A0):A8w n (m + 1) x2 x4 x20 x21 h=bnd (A2 .lss x21 (.c (.i .i64 32))) fun v18=>cnd v18 (bnd (W1 32 x20 x21) fun v19=>bnd (A4Y [v19] h) fun p20=>bnd (aun .not p20.1) fun v21=>cnd v21 (bnd (A8 (List.replicate 256 (.i .u8 0)) []) fun c22=>bnd (B4 p20.2 256 x2 (.a c22)) fun h23=>D3 [A4 h23 256 x2,some (.c (.i .i64 1))] h23) (bnd (A4 p20.2 256 x4) fun v24=>bnd (A2 .mul (.c (.i .i64 2)) x21) fun v25=>bnd (A2 .add (.c (.i .i64 32)) v25) fun v26=>bnd (Q9 [v24,v26,.c (.i .i64 2),v19] p20.2) fun p27=>bnd (B4 p27.2 256 x4 p27.1) fun h28=>bnd (A2 .add x21 (.c (.i .i64 1))) fun v29=>A8w n m x2 x4 x20 v29 h28)) (bnd (A4 h 256 x4) fun v30=>bnd (B4 h 256 x2 v30) fun h31=>D3 [A4 h31 256 x2,some (.c (.i .i64 0))] h31):=by kernel_rfl
theorem K_index_Put:FnK Tryz.prog 138 A_index_Put A36 A6T:=.mk' (B3 B1b (B3 A7y (B3 B1d (B3 C40 C2)))) Tryz.func138 (by kernel_rfl) (fun _ _ _=>C1)
def A15:Fun:=tidy (Lim A_index_Put A36)
theorem B4p:SOk Tryz.prog 138 A15:=K_index_Put.sok
theorem C4X:C9 A6T A15:=K_index_Put.flat
def A_index_many:AFn:=⟨.seq [1] (.ops [aO 1 (.box (.t 0)),aO 2 (.mv (.v (.c (.i .i64 0))))]) (.seq [2] (.ops [aO 3 (.loadN 33 (.t 1)),aO 4 (.call 156 [(.t 3)]),aO 5 (.conv .u64 (.t 4)),aO 6 (.bin .shl (.v (.c (.i .i64 1))) (.t 5)),aO 2 (.mv (.t 6))]) .ret),[.tmp 2]⟩
def B0g:B0:=B1 156 A0M C0
def A6W (n:Nat) (args:List Val) (h:A0):A6:=ax B0g n A_index_many.code A_index_many.fin (params 0 args) h
theorem C2P (n:Nat) (a0:Val) (h:A0):A6W n [a0] h=bnd (cells? a0) fun c1=>bnd (A4 (h ++ [some (Row.mk (c1) true)]) 33 (.c (.p h.length 0))) fun v2=>bnd (A0M [v2] (h ++ [some (Row.mk (c1) true)])) fun p3=>bnd (L6 .u64 p3.1) fun v4=>bnd (A2 .shl (.c (.i .i64 1)) v4) fun v5=>some (v5,p3.2):=by kernel_rfl
theorem K_index_many:FnK Tryz.prog 225 A_index_many B0g A6W:=.mk' (B3 B1b C2) Tryz.func225 (by kernel_rfl) (fun _ _ _=>C1)
def A16:Fun:=tidy (Lim A_index_many B0g)
theorem B4q:SOk Tryz.prog 225 A16:=K_index_many.sok
theorem C43:C9 A6W A16:=K_index_many.flat
def B7D:ACode:=.seq [1,2,4,12,13] (.ops [aO 13 (.bin .lss (.t 12) (.v (.c (.i .i64 32))))]) (.seq [1,2,4,12] (.cond (.t 13) .skip (.exit 0)) (.seq [1,2,4,12] (.block 1 (.seq [1,2,4,5,12] (.ops [aO 14 (.mv (.t 12)),aO 5 (.mv (.t 14))]) (.ops [aO 15 (.mv (.t 5)),aO 16 (.loadN 256 (.t 1)),aO 17 (.mv (.t 5)),aO 18 (.bin .mul (.v (.c (.i .i64 2))) (.t 17)),aO 19 (.bin .add (.v (.c (.i .i64 32))) (.t 18)),aO 20 (.call 142 [(.t 16),(.t 19),(.v (.c (.i .i64 2)))]),aO 21 (.fAddr (.t 4) 1),aO 22 (.iAddrA 32 1 (.t 21) (.t 15)),aN (.store1 (.t 22) (.t 20))]))) (.ops [aO 23 (.bin .add (.t 12) (.v (.c (.i .i64 1)))),aO 12 (.mv (.t 23))])))
def B7F:ACode:=.seq [2,4,8] (.seq [2,4,8,40] (.ops [aO 39 (.mv (.t 8)),aO 40 (.bin .lss (.t 39) (.v (.c (.i .i64 32))))]) (.cond (.t 40) .skip (.exit 2))) (.seq [2,4,8] (.block 3 (.seq [2,4,8,47] (.ops [aO 43 (.mv (.t 8)),aO 44 (.fAddr (.t 4) 1),aO 45 (.iAddrA 32 1 (.t 44) (.t 43)),aO 46 (.load1 (.t 45)),aO 47 (.bin .neq (.t 46) (.v (.c (.i .i64 0))))]) (.cond (.t 47) (.seq [2,3] (.ops [aO 48 (.build ([.i .i64 0] ++ List.replicate 32 (.i .i64 0)) []),aN (.storeN 33 (.t 2) (.t 48)),aO 3 (.mv (.v (.c (.i .i64 14))))]) .ret) .skip))) (.ops [aO 41 (.mv (.t 8)),aO 42 (.bin .add (.t 41) (.v (.c (.i .i64 1)))),aO 8 (.mv (.t 42))]))
def B7G:ACode:=.seq [2,3] (.ops [aO 49 (.loadN 33 (.t 4)),aN (.storeN 33 (.t 2) (.t 49)),aO 3 (.mv (.v (.c (.i .i64 0))))]) .ret
def B7E:ACode:=.seq [1,2,4,6,7] (.ops [aO 25 (.loadN 33 (.t 4)),aO 26 (.call 138 [(.t 25)]),aO 24 (.mv (.t 26)),aO 27 (.ext (.t 24) 0),aO 28 (.ext (.t 24) 1),aO 6 (.alloc (List.replicate 256 (.i .u8 0))),aN (.storeN 256 (.t 6) (.t 27)),aO 7 (.mv (.t 28))]) (.seq [2,4] (.seq [2,4,35] (.ops [aO 29 (.mv (.t 7)),aO 30 (.bin .neq (.t 29) (.v (.c (.i .i64 0)))),aO 31 (.mv (.t 30)),aG 32 31 false (.loadN 256 (.t 6)),aG 33 31 false (.loadN 256 (.t 1)),aG 34 31 false (.eqA true (List.replicate 256 (.i .u8)) (.t 32) (.t 33)),aO 35 (.pick (.t 31) (.v (.c (.b true))) (.t 34))]) (.cond (.t 35) (.seq [2,3] (.ops [aO 36 (.build ([.i .i64 0] ++ List.replicate 32 (.i .i64 0)) []),aN (.storeN 33 (.t 2) (.t 36)),aO 3 (.mv (.v (.c (.i .i64 14))))]) .ret) .skip)) (.seq [2,4] (.seq [2,4,8] (.ops [aO 37 (.loadN 33 (.t 4)),aO 38 (.call 225 [(.t 37)]),aO 8 (.mv (.t 38))]) (.block 2 (.loop [2,4,8] B7F))) B7G))
def A_index_Get:AFn:=⟨.seq [1,2] (.ops [aO 1 (.box (.t 0)),aO 2 (.alloc ([.i .i64 0] ++ List.replicate 32 (.i .i64 0))),aO 3 (.mv (.v (.c (.i .i64 0))))]) (.seq [1,2,4] (.ops [aO 9 (.loadN 256 (.t 1)),aO 10 (.call 142 [(.t 9),(.v (.c (.i .i64 4))),(.v (.c (.i .i64 1)))]),aO 11 (.build ([.i .i64 0] ++ List.replicate 32 (.i .i64 0)) [(0,1,(.t 10))]),aO 4 (.alloc ([.i .i64 0] ++ List.replicate 32 (.i .i64 0))),aN (.storeN 33 (.t 4) (.t 11))]) (.seq [1,2,4] (.seq [1,2,4,12] (.ops [aO 12 (.mv (.v (.c (.i .i64 0))))]) (.block 0 (.loop [1,2,4,12] B7D))) B7E)),[.cellN 2 33,.tmp 3]⟩
def A1S:B0:=B1 142 M3 (B1 138 A15 (B1 225 A16 C0))
def C9b (n:Nat):A9 (Val × A0):=E4 [1,2,4] (ax A1S n B7E) A_index_Get.fin
def C9c (n:Nat):A9 (Val × A0):=D6 0 (C9b n)
def A8u (n m:Nat) (x1 x2 x4 x12:Val) (h:A0):A6:=C6 (ax A1S n B7D) [1,2,4,12] (C9c n) m [(1,x1),(2,x2),(4,x4),(12,x12)] h
def A6R (n:Nat) (args:List Val) (h:A0):A6:=ax A1S n A_index_Get.code A_index_Get.fin (params 0 args) h
def C9d (n:Nat):A9 (Val × A0):=E4 [2,4] (ax A1S n B7G) A_index_Get.fin
def C9e (n:Nat):A9 (Val × A0):=D6 2 (C9d n)
def A8v (n m:Nat) (x2 x4 x8:Val) (h:A0):A6:=C6 (ax A1S n B7F) [2,4,8] (C9e n) m [(2,x2),(4,x4),(8,x8)] h
theorem C2J (n:Nat) (a0:Val) (h:A0):A6R n [a0] h=bnd (cells? a0) fun c1=>bnd (A4 ((h ++ [some (Row.mk (c1) true)]) ++ [some (Row.mk ([.i .i64 0] ++ List.replicate 32 (.i .i64 0)) true)]) 256 (.c (.p h.length 0))) fun v2=>bnd (M3 [v2,.c (.i .i64 4),.c (.i .i64 1)] ((h ++ [some (Row.mk (c1) true)]) ++ [some (Row.mk ([.i .i64 0] ++ List.replicate 32 (.i .i64 0)) true)])) fun p3=>bnd (A8 ([.i .i64 0] ++ List.replicate 32 (.i .i64 0)) [(0,1,p3.1)]) fun c4=>bnd (B4 (p3.2 ++ [some (Row.mk ([.i .i64 0] ++ List.replicate 32 (.i .i64 0)) true)]) 33 (.c (.p p3.2.length 0)) (.a c4)) fun h5=>A8u n n (.c (.p h.length 0)) (.c (.p (h ++ [some (Row.mk (c1) true)]).length 0)) (.c (.p p3.2.length 0)) (.c (.i .i64 0)) h5:=by kernel_rfl
theorem B7H (n m:Nat) (x1 x2 x4 x12:Val) (h:A0):A8u n (m + 1) x1 x2 x4 x12 h=bnd (A2 .lss x12 (.c (.i .i64 32))) fun v6=>cnd v6 (bnd (A4 h 256 x1) fun v7=>bnd (A2 .mul (.c (.i .i64 2)) x12) fun v8=>bnd (A2 .add (.c (.i .i64 32)) v8) fun v9=>bnd (M3 [v7,v9,.c (.i .i64 2)] h) fun p10=>bnd (A7 x4 1) fun v11=>bnd (E1 32 1 v11 x12) fun v12=>bnd (E7 p10.2 v12 p10.1) fun h13=>bnd (A2 .add x12 (.c (.i .i64 1))) fun v14=>A8u n m x1 x2 x4 v14 h13) (bnd (A4 h 33 x4) fun v15=>bnd (A15 [v15] h) fun p16=>bnd (C5 p16.1 0) fun v17=>bnd (C5 p16.1 1) fun v18=>bnd (B4 (p16.2 ++ [some (Row.mk (List.replicate 256 (.i .u8 0)) true)]) 256 (.c (.p p16.2.length 0)) v17) fun h19=>bnd (A2 .neq v18 (.c (.i .i64 0))) fun v20=>bnd (gd v20 false (bnd (A4 h19 256 (.c (.p p16.2.length 0))) fun v21=>some (v21,h19)) (some (.no,h19))) fun p22=>bnd (gd v20 false (bnd (A4 p22.2 256 x1) fun v23=>some (v23,p22.2)) (some (.no,p22.2))) fun p24=>bnd (gd v20 false (bnd (aeq true (List.replicate 256 (.i .u8)) p22.1 p24.1) fun v25=>some (v25,p24.2)) (some (.no,p24.2))) fun p26=>bnd (C4 v20 (.c (.b true)) p26.1) fun v27=>cnd v27 (bnd (A8 ([.i .i64 0] ++ List.replicate 32 (.i .i64 0)) []) fun c28=>bnd (B4 p26.2 33 x2 (.a c28)) fun h29=>D3 [A4 h29 33 x2,some (.c (.i .i64 14))] h29) (bnd (A4 p26.2 33 x4) fun v30=>bnd (A16 [v30] p26.2) fun p31=>A8v n n x2 x4 p31.1 p31.2)):=by kernel_rfl
theorem B7I (n m:Nat) (x2 x4 x8:Val) (h:A0):A8v n (m + 1) x2 x4 x8 h=bnd (A2 .lss x8 (.c (.i .i64 32))) fun v32=>cnd v32 (bnd (A7 x4 1) fun v33=>bnd (E1 32 1 v33 x8) fun v34=>bnd (A3 h v34) fun v35=>bnd (A2 .neq v35 (.c (.i .i64 0))) fun v36=>cnd v36 (bnd (A8 ([.i .i64 0] ++ List.replicate 32 (.i .i64 0)) []) fun c37=>bnd (B4 h 33 x2 (.a c37)) fun h38=>D3 [A4 h38 33 x2,some (.c (.i .i64 14))] h38) (bnd (A2 .add x8 (.c (.i .i64 1))) fun v39=>A8v n m x2 x4 v39 h)) (bnd (A4 h 33 x4) fun v40=>bnd (B4 h 33 x2 v40) fun h41=>D3 [A4 h41 33 x2,some (.c (.i .i64 0))] h41):=by kernel_rfl
theorem K_index_Get:FnK Tryz.prog 154 A_index_Get A1S A6R:=.mk' (B3 A47 (B3 B4p (B3 B4q C2))) Tryz.func154 (by kernel_rfl) (fun _ _ _=>C1)
def A4W:Fun:=tidy (Lim A_index_Get A1S)
theorem C4U:SOk Tryz.prog 154 A4W:=K_index_Get.sok
theorem C4T:C9 A6R A4W:=K_index_Get.flat
def A_index_Place:AFn:=⟨.seq [1,2] (.ops [aO 2 (.box (.t 0)),aO 4 (.mv (.v (.c (.i .i64 0))))]) (.seq [4] (.ops [aO 5 (.mv (.t 1)),aO 6 (.loadN 33 (.t 2)),aO 7 (.call 156 [(.t 6)]),aO 8 (.call 155 [(.t 5),(.t 7)]),aO 4 (.mv (.t 8))]) .ret),[.tmp 4]⟩
def B0d:B0:=B1 156 A0M (B1 155 A43 C0)
def A6S (n:Nat) (args:List Val) (h:A0):A6:=ax B0d n A_index_Place.code A_index_Place.fin (params 0 args) h
theorem C2K (n:Nat) (a0 a1:Val) (h:A0):A6S n [a0,a1] h=bnd (cells? a0) fun c1=>bnd (A4 (h ++ [some (Row.mk (c1) true)]) 33 (.c (.p h.length 0))) fun v2=>bnd (A0M [v2] (h ++ [some (Row.mk (c1) true)])) fun p3=>bnd (A43 [a1,p3.1] p3.2) fun p4=>some (p4.1,p4.2):=by kernel_rfl
theorem K_index_Place:FnK Tryz.prog 77 A_index_Place B0d A6S:=.mk' (B3 B1b (B3 C5f C2)) Tryz.func77 (by kernel_rfl) (fun _ _ _=>C1)
def A4X:Fun:=tidy (Lim A_index_Place B0d)
theorem C4W:SOk Tryz.prog 77 A4X:=K_index_Place.sok
theorem C4V:C9 A6S A4X:=K_index_Place.flat
def B7N:ACode:=.seq [1,2,6,7,8] (.ops [aO 8 (.bin .lss (.t 7) (.t 6))]) (.seq [1,2,6,7] (.cond (.t 8) .skip (.exit 0)) (.seq [1,2,6,7] (.block 1 (.seq [1,2,5,6,7] (.ops [aO 9 (.mv (.t 7)),aO 5 (.mv (.t 9))]) (.seq [1,2,6,7,18] (.draw 0 [aO 10 (.mv (.t 5)),aO 11 (.fAddr (.t 2) 1),aO 12 (.iAddrA 32 1 (.t 11) (.t 10)),aO 13 (.load1 (.t 12)),aO 14 (.mv (.t 1)),aO 15 (.fAddr (.t 2) 1),aO 16 (.iAddrA 32 1 (.t 15) (.t 14)),aO 17 (.load1 (.t 16))] [aO 18 (.bin .eql (.t 13) (.t 17))]) (.cond (.t 18) (.seq [4] (.ops [aO 4 (.mv (.v (.c (.b false))))]) .ret) .skip)))) (.ops [aO 19 (.bin .add (.t 7) (.v (.c (.i .i64 1)))),aO 7 (.mv (.t 19))])))
def B7O:ACode:=.seq [4] (.ops [aO 4 (.mv (.v (.c (.b true))))]) .ret
def A_index_first:AFn:=⟨.seq [1,2] (.ops [aO 2 (.box (.t 0)),aO 4 (.mv (.v (.c (.b false))))]) (.seq [] (.seq [1,2,6,7] (.ops [aO 6 (.mv (.t 1)),aO 7 (.mv (.v (.c (.i .i64 0))))]) (.block 0 (.loop [1,2,6,7] B7N))) B7O),[.tmp 4]⟩
def A37:B0:=C0
def C9k (n:Nat):A9 (Val × A0):=E4 [] (ax A37 n B7O) A_index_first.fin
def C9l (n:Nat):A9 (Val × A0):=D6 0 (C9k n)
def A8x (n m:Nat) (x1 x2 x6 x7:Val) (h:A0):A6:=C6 (ax A37 n B7N) [1,2,6,7] (C9l n) m [(1,x1),(2,x2),(6,x6),(7,x7)] h
def A6V (n:Nat) (args:List Val) (h:A0):A6:=ax A37 n A_index_first.code A_index_first.fin (params 0 args) h
theorem C2O (n:Nat) (a0 a1:Val) (h:A0):A6V n [a0,a1] h=bnd (cells? a0) fun c1=>A8x n n a1 (.c (.p h.length 0)) a1 (.c (.i .i64 0)) (h ++ [some (Row.mk (c1) true)]):=by kernel_rfl
theorem B7P (n m:Nat) (x1 x2 x6 x7:Val) (h:A0):A8x n (m + 1) x1 x2 x6 x7 h=bnd (A2 .lss x7 x6) fun v2=>cnd v2 (bnd (A7 x2 1) fun v3=>bnd (E1 32 1 v3 x7) fun v4=>bnd (A3 h v4) fun v5=>bnd (A7 x2 1) fun v6=>bnd (E1 32 1 v6 x1) fun v7=>bnd (A3 h v7) fun v8=>bnd (A2 .eql v5 v8) fun v9=>cnd v9 (some ((.c (.b false)),(h ++ []))) (bnd (A2 .add x7 (.c (.i .i64 1))) fun v10=>A8x n m x1 x2 x6 v10 (h ++ []))) (some ((.c (.b true)),h)):=by kernel_rfl
theorem K_index_first:FnK Tryz.prog 228 A_index_first A37 A6V:=.mk' (C2) Tryz.func228 (by kernel_rfl) (fun _ _ _=>C1)
def A4Z:Fun:=tidy (Lim A_index_first A37)
theorem C42:SOk Tryz.prog 228 A4Z:=K_index_first.sok
theorem C41:C9 A6V A4Z:=K_index_first.flat
def B7B:ACode:=.ops [aO 27 (.bin .add (.t 7) (.v (.c (.i .i64 1)))),aO 7 (.mv (.t 27))]
def B2s:ACode:=.seq [1,3,6,7,8] (.ops [aO 8 (.bin .lss (.t 7) (.t 6))]) (.seq [1,3,6,7] (.cond (.t 8) .skip (.exit 0)) (.seq [1,3,6,7] (.block 1 (.seq [1,3,4,6,7] (.ops [aO 9 (.mv (.t 7)),aO 4 (.mv (.t 9))]) (.seq [1,3,4,6,7,19] (.ops [aO 10 (.mv (.t 4)),aO 11 (.fAddr (.t 1) 1),aO 12 (.iAddrA 32 1 (.t 11) (.t 10)),aO 13 (.load1 (.t 12)),aO 14 (.bin .neq (.t 13) (.v (.c (.i .i64 0)))),aO 15 (.mv (.t 14)),aG 16 15 true (.loadN 33 (.t 1)),aG 17 15 true (.mv (.t 4)),aG 18 15 true (.call 228 [(.t 16),(.t 17)]),aO 19 (.pick (.t 15) (.t 18) (.v (.c (.b false))))]) (.cond (.t 19) (.ops [aO 20 (.mv (.t 3)),aO 21 (.mv (.t 4)),aO 22 (.fAddr (.t 1) 1),aO 23 (.iAddrA 32 1 (.t 22) (.t 21)),aO 24 (.load1 (.t 23)),aO 25 (.buildSl 1 1 ([.i .i64 0]) [(0,1,(.t 24))]),aO 26 (.app 1 (.t 20) (.t 25)),aO 3 (.mv (.t 26))]) .skip)))) B7B))
def B7A:ACode:=.seq [2] (.ops [aO 28 (.mv (.t 3)),aO 2 (.mv (.t 28))]) .ret
def A_index_Buckets:AFn:=⟨.seq [1] (.ops [aO 1 (.box (.t 0)),aO 2 (.nilrow 1)]) (.seq [1,3] (.ops [aO 3 (.nilrow 1)]) (.seq [3] (.seq [1,3,6,7] (.ops [aO 5 (.loadN 33 (.t 1)),aO 6 (.call 225 [(.t 5)]),aO 7 (.mv (.v (.c (.i .i64 0))))]) (.block 0 (.loop [1,3,6,7] B2s))) B7A)),[.tmp 2]⟩
def A1R:B0:=B1 225 A16 (B1 228 A4Z C0)
def C88 (n:Nat):A9 (Val × A0):=E4 [3] (ax A1R n B7A) A_index_Buckets.fin
def B2v (n:Nat):A9 (Val × A0):=D6 0 (C88 n)
def A5L (n m:Nat) (x1 x3 x6 x7:Val) (h:A0):A6:=C6 (ax A1R n B2s) [1,3,6,7] (B2v n) m [(1,x1),(3,x3),(6,x6),(7,x7)] h
def A6Q (n:Nat) (args:List Val) (h:A0):A6:=ax A1R n A_index_Buckets.code A_index_Buckets.fin (params 0 args) h
def C89 (n m:Nat):A9 (Val × A0):=P9 [1,3,6,7] (C6 (ax A1R n B2s) [1,3,6,7] (B2v n) m) (B2v n)
def B2t (n m:Nat) (x1 x3 x6 x7:Val) (h:A0):A6:=hold ((ax A1R n B7B) (C89 n m) [(1,x1),(3,x3),(6,x6),(7,x7)] h)
theorem C2I (n:Nat) (a0:Val) (h:A0):A6Q n [a0] h=bnd (cells? a0) fun c1=>bnd (A4 (((h ++ [some (Row.mk (c1) true)]) ++ [some (Row.mk ([]) true)]) ++ [some (Row.mk ([]) true)]) 33 (.c (.p h.length 0))) fun v2=>bnd (A16 [v2] (((h ++ [some (Row.mk (c1) true)]) ++ [some (Row.mk ([]) true)]) ++ [some (Row.mk ([]) true)])) fun p3=>A5L n n (.c (.p h.length 0)) (.c (.sl ((h ++ [some (Row.mk (c1) true)]) ++ [some (Row.mk ([]) true)]).length 0 0 1)) p3.1 (.c (.i .i64 0)) p3.2:=by kernel_rfl
theorem B7C (n m:Nat) (x1 x3 x6 x7:Val) (h:A0):A5L n (m + 1) x1 x3 x6 x7 h=bnd (A2 .lss x7 x6) fun v4=>cnd v4 (bnd (A7 x1 1) fun v5=>bnd (E1 32 1 v5 x7) fun v6=>bnd (A3 h v6) fun v7=>bnd (A2 .neq v7 (.c (.i .i64 0))) fun v8=>bnd (gd v8 true (bnd (A4 h 33 x1) fun v9=>some (v9,h)) (some (.no,h))) fun p10=>bnd (gd v8 true (some (x7,p10.2)) (some (.no,p10.2))) fun p11=>bnd (gd v8 true (bnd (A4Z [p10.1,p11.1] p11.2) fun p12=>some (p12.1,p12.2)) (some (.no,p11.2))) fun p13=>bnd (C4 v8 p13.1 (.c (.b false))) fun v14=>cnd v14 (bnd (A7 x1 1) fun v15=>bnd (E1 32 1 v15 x7) fun v16=>bnd (A3 p13.2 v16) fun v17=>bnd (A8 ([.i .i64 0]) [(0,1,v17)]) fun c18=>bnd (F0 (p13.2 ++ [some (Row.mk (c18) true)]) 1 x3 (.c (.sl p13.2.length 0 1 1))) fun p19=>B2t n m x1 p19.1 x6 x7 p19.2) (B2t n m x1 x3 x6 x7 p13.2)) (some (x3,h)):=by kernel_rfl
theorem B2u (n m:Nat) (x1 x3 x6 x7:Val) (h:A0):B2t n m x1 x3 x6 x7 h=bnd (A2 .add x7 (.c (.i .i64 1))) fun v20=>A5L n m x1 x3 x6 v20 h:=by kernel_rfl
theorem K_index_Buckets:FnK Tryz.prog 162 A_index_Buckets A1R A6Q:=.mk' (B3 B4q (B3 C42 C2)) Tryz.func162 (by kernel_rfl) (fun _ _ _=>C1)
def A4V:Fun:=tidy (Lim A_index_Buckets A1R)
theorem C4R:SOk Tryz.prog 162 A4V:=K_index_Buckets.sok
theorem C4S:U6 A6Q A4V:=K_index_Buckets.out
end Go.Proofs.YteckncopbicmcaaGreat
end
noncomputable section
namespace Go.Proofs.YteckncopbicmcaaGreat
open Go Go.Esc
set_option maxRecDepth 100000
def A_fmap_Index:AFn:=⟨.seq [2,3,4] (.ops [aO 2 (.box (.t 0)),aO 3 (.box (.t 1)),aO 4 (.alloc ([.i .i64 0] ++ List.replicate 32 (.i .i64 0))),aO 5 (.mv (.v (.c (.b false))))]) (.seq [2,3,4] (.seq [2,3,4,19] (.ops [aO 8 (.fAddr (.t 3) 0),aO 9 (.load1 (.t 8)),aO 10 (.bin .neq (.t 9) (.v (.c (.i .i64 2)))),aO 11 (.mv (.t 10)),aG 12 11 false (.fAddr (.t 2) 0),aG 13 11 false (.loadN 3 (.t 12)),aG 14 11 false (.fAddr (.t 3) 4),aG 15 11 false (.iAddrA 6 1 (.t 14) (.v (.c (.i .i64 0)))),aG 16 11 false (.load1 (.t 15)),aG 17 11 false (.call 72 [(.t 13),(.t 16)]),aG 18 11 false (.un .not (.t 17)),aO 19 (.pick (.t 11) (.v (.c (.b true))) (.t 18))]) (.cond (.t 19) (.seq [4,5] (.ops [aO 20 (.build ([.i .i64 0] ++ List.replicate 32 (.i .i64 0)) []),aN (.storeN 33 (.t 4) (.t 20)),aO 5 (.mv (.v (.c (.b false))))]) .ret) .skip)) (.seq [4,6,7] (.ops [aO 22 (.loadN 4 (.t 2)),aO 23 (.fAddr (.t 3) 4),aO 24 (.iAddrA 6 1 (.t 23) (.v (.c (.i .i64 0)))),aO 25 (.load1 (.t 24)),aO 26 (.call 71 [(.t 22),(.t 25)]),aO 27 (.call 154 [(.t 26)]),aO 21 (.mv (.t 27)),aO 28 (.ext (.t 21) 0),aO 29 (.ext (.t 21) 1),aO 6 (.alloc ([.i .i64 0] ++ List.replicate 32 (.i .i64 0))),aN (.storeN 33 (.t 6) (.t 28)),aO 7 (.mv (.t 29))]) (.seq [4,5] (.ops [aO 30 (.loadN 33 (.t 6)),aO 31 (.mv (.t 7)),aO 32 (.bin .eql (.t 31) (.v (.c (.i .i64 0)))),aN (.storeN 33 (.t 4) (.t 30)),aO 5 (.mv (.t 32))]) .ret))),[.cellN 4 33,.tmp 5]⟩
def A93:B0:=B1 72 X0 (B1 71 S7 (B1 154 A4W C0))
def A6F (n:Nat) (args:List Val) (h:A0):A6:=ax A93 n A_fmap_Index.code A_fmap_Index.fin (params 0 args) h
theorem C2w (n:Nat) (a0 a1:Val) (h:A0):A6F n [a0,a1] h=bnd (cells? a0) fun c1=>bnd (cells? a1) fun c2=>bnd (A7 (.c (.p (h ++ [some (Row.mk (c1) true)]).length 0)) 0) fun v3=>bnd (A3 (((h ++ [some (Row.mk (c1) true)]) ++ [some (Row.mk (c2) true)]) ++ [some (Row.mk ([.i .i64 0] ++ List.replicate 32 (.i .i64 0)) true)]) v3) fun v4=>bnd (A2 .neq v4 (.c (.i .i64 2))) fun v5=>bnd (gd v5 false (bnd (A7 (.c (.p h.length 0)) 0) fun v6=>some (v6,(((h ++ [some (Row.mk (c1) true)]) ++ [some (Row.mk (c2) true)]) ++ [some (Row.mk ([.i .i64 0] ++ List.replicate 32 (.i .i64 0)) true)]))) (some (.no,(((h ++ [some (Row.mk (c1) true)]) ++ [some (Row.mk (c2) true)]) ++ [some (Row.mk ([.i .i64 0] ++ List.replicate 32 (.i .i64 0)) true)])))) fun p7=>bnd (gd v5 false (bnd (A4 p7.2 3 p7.1) fun v8=>some (v8,p7.2)) (some (.no,p7.2))) fun p9=>bnd (gd v5 false (bnd (A7 (.c (.p (h ++ [some (Row.mk (c1) true)]).length 0)) 4) fun v10=>some (v10,p9.2)) (some (.no,p9.2))) fun p11=>bnd (gd v5 false (bnd (E1 6 1 p11.1 (.c (.i .i64 0))) fun v12=>some (v12,p11.2)) (some (.no,p11.2))) fun p13=>bnd (gd v5 false (bnd (A3 p13.2 p13.1) fun v14=>some (v14,p13.2)) (some (.no,p13.2))) fun p15=>bnd (gd v5 false (bnd (X0 [p9.1,p15.1] p15.2) fun p16=>some (p16.1,p16.2)) (some (.no,p15.2))) fun p17=>bnd (gd v5 false (bnd (aun .not p17.1) fun v18=>some (v18,p17.2)) (some (.no,p17.2))) fun p19=>bnd (C4 v5 (.c (.b true)) p19.1) fun v20=>cnd v20 (bnd (A8 ([.i .i64 0] ++ List.replicate 32 (.i .i64 0)) []) fun c21=>bnd (B4 p19.2 33 (.c (.p ((h ++ [some (Row.mk (c1) true)]) ++ [some (Row.mk (c2) true)]).length 0)) (.a c21)) fun h22=>D3 [A4 h22 33 (.c (.p ((h ++ [some (Row.mk (c1) true)]) ++ [some (Row.mk (c2) true)]).length 0)),some (.c (.b false))] h22) (bnd (A4 p19.2 4 (.c (.p h.length 0))) fun v23=>bnd (A7 (.c (.p (h ++ [some (Row.mk (c1) true)]).length 0)) 4) fun v24=>bnd (E1 6 1 v24 (.c (.i .i64 0))) fun v25=>bnd (A3 p19.2 v25) fun v26=>bnd (S7 [v23,v26] p19.2) fun p27=>bnd (A4W [p27.1] p27.2) fun p28=>bnd (C5 p28.1 0) fun v29=>bnd (C5 p28.1 1) fun v30=>bnd (B4 (p28.2 ++ [some (Row.mk ([.i .i64 0] ++ List.replicate 32 (.i .i64 0)) true)]) 33 (.c (.p p28.2.length 0)) v29) fun h31=>bnd (A4 h31 33 (.c (.p p28.2.length 0))) fun v32=>bnd (A2 .eql v30 (.c (.i .i64 0))) fun v33=>bnd (B4 h31 33 (.c (.p ((h ++ [some (Row.mk (c1) true)]) ++ [some (Row.mk (c2) true)]).length 0)) v32) fun h34=>D3 [A4 h34 33 (.c (.p ((h ++ [some (Row.mk (c1) true)]) ++ [some (Row.mk (c2) true)]).length 0)),some v33] h34):=by kernel_rfl
theorem K_fmap_Index:FnK Tryz.prog 76 A_fmap_Index A93 A6F:=.mk' (B3 A7w (B3 A3j (B3 C4U C2))) Tryz.func76 (by kernel_rfl) (fun _ _ _=>C1)
def A13:Fun:=tidy (Lim A_fmap_Index A93)
theorem B4m:SOk Tryz.prog 76 A13:=K_fmap_Index.sok
theorem C4y:C9 A6F A13:=K_fmap_Index.flat
def B63:ACode:=.ops [aO 33 (.bin .add (.t 21) (.v (.c (.i .i64 1)))),aO 21 (.mv (.t 33))]
def B2f:ACode:=.seq [2,7,19,20,21,22] (.ops [aO 22 (.bin .lss (.t 21) (.t 20))]) (.seq [2,7,19,20,21] (.cond (.t 22) .skip (.exit 0)) (.seq [2,7,19,20,21] (.block 1 (.seq [2,7,9,19,20,21] (.ops [aO 23 (.iAddrL 1 (.t 19) (.t 21)),aO 24 (.load1 (.t 23)),aO 9 (.mv (.t 24))]) (.seq [2,7,9,19,20,21,28] (.ops [aO 25 (.fAddr (.t 2) 0),aO 26 (.loadN 3 (.t 25)),aO 27 (.mv (.t 9)),aO 28 (.call 72 [(.t 26),(.t 27)])]) (.cond (.t 28) (.ops [aO 29 (.mv (.t 7)),aO 30 (.mv (.t 9)),aO 31 (.buildSl 1 1 ([.i .i64 0]) [(0,1,(.t 30))]),aO 32 (.app 1 (.t 29) (.t 31)),aO 7 (.mv (.t 32))]) .skip)))) B63))
def B62:ACode:=.seq [4] (.ops [aO 34 (.mv (.t 7)),aO 4 (.mv (.t 34))]) .ret
def A_fmap_Buckets:AFn:=⟨.seq [2,3] (.ops [aO 2 (.box (.t 0)),aO 3 (.box (.t 1)),aO 4 (.nilrow 1)]) (.seq [2,5,6] (.ops [aO 11 (.loadN 4 (.t 2)),aO 12 (.loadN 11 (.t 3)),aO 13 (.call 76 [(.t 11),(.t 12)]),aO 10 (.mv (.t 13)),aO 14 (.ext (.t 10) 0),aO 15 (.ext (.t 10) 1),aO 5 (.alloc ([.i .i64 0] ++ List.replicate 32 (.i .i64 0))),aN (.storeN 33 (.t 5) (.t 14)),aO 6 (.mv (.t 15))]) (.seq [2,5] (.seq [2,5,17] (.ops [aO 16 (.mv (.t 6)),aO 17 (.un .not (.t 16))]) (.cond (.t 17) (.seq [4] (.ops [aO 4 (.nilrow 1)]) .ret) .skip)) (.seq [2,5,7] (.ops [aO 7 (.nilrow 1)]) (.seq [7] (.seq [2,7,19,20,21] (.ops [aO 18 (.loadN 33 (.t 5)),aO 19 (.call 162 [(.t 18)]),aO 20 (.len (.t 19)),aO 21 (.mv (.v (.c (.i .i64 0))))]) (.block 0 (.loop [2,7,19,20,21] B2f))) B62)))),[.tmp 4]⟩
def A1P:B0:=B1 76 A13 (B1 162 A4V (B1 72 X0 C0))
def C8N (n:Nat):A9 (Val × A0):=E4 [7] (ax A1P n B62) A_fmap_Buckets.fin
def B2h (n:Nat):A9 (Val × A0):=D6 0 (C8N n)
def A8p (n m:Nat) (x2 x7 x19 x20 x21:Val) (h:A0):A6:=C6 (ax A1P n B2f) [2,7,19,20,21] (B2h n) m [(2,x2),(7,x7),(19,x19),(20,x20),(21,x21)] h
def A6E (n:Nat) (args:List Val) (h:A0):A6:=ax A1P n A_fmap_Buckets.code A_fmap_Buckets.fin (params 0 args) h
def C8O (n m:Nat):A9 (Val × A0):=P9 [2,7,19,20,21] (C6 (ax A1P n B2f) [2,7,19,20,21] (B2h n) m) (B2h n)
def B2g (n m:Nat) (x2 x7 x19 x20 x21:Val) (h:A0):A6:=hold ((ax A1P n B63) (C8O n m) [(2,x2),(7,x7),(19,x19),(20,x20),(21,x21)] h)
theorem C2v (n:Nat) (a0 a1:Val) (h:A0):A6E n [a0,a1] h=bnd (cells? a0) fun c1=>bnd (cells? a1) fun c2=>bnd (A4 (((h ++ [some (Row.mk (c1) true)]) ++ [some (Row.mk (c2) true)]) ++ [some (Row.mk ([]) true)]) 4 (.c (.p h.length 0))) fun v3=>bnd (A4 (((h ++ [some (Row.mk (c1) true)]) ++ [some (Row.mk (c2) true)]) ++ [some (Row.mk ([]) true)]) 11 (.c (.p (h ++ [some (Row.mk (c1) true)]).length 0))) fun v4=>bnd (A13 [v3,v4] (((h ++ [some (Row.mk (c1) true)]) ++ [some (Row.mk (c2) true)]) ++ [some (Row.mk ([]) true)])) fun p5=>bnd (C5 p5.1 0) fun v6=>bnd (C5 p5.1 1) fun v7=>bnd (B4 (p5.2 ++ [some (Row.mk ([.i .i64 0] ++ List.replicate 32 (.i .i64 0)) true)]) 33 (.c (.p p5.2.length 0)) v6) fun h8=>bnd (aun .not v7) fun v9=>cnd v9 (some ((.c (.sl h8.length 0 0 1)),(h8 ++ [some (Row.mk ([]) true)]))) (bnd (A4 (h8 ++ [some (Row.mk ([]) true)]) 33 (.c (.p p5.2.length 0))) fun v10=>bnd (A4V [v10] (h8 ++ [some (Row.mk ([]) true)])) fun p11=>bnd (D5 p11.1) fun v12=>A8p n n (.c (.p h.length 0)) (.c (.sl h8.length 0 0 1)) p11.1 v12 (.c (.i .i64 0)) p11.2):=by kernel_rfl
theorem B65 (n m:Nat) (x2 x7 x19 x20 x21:Val) (h:A0):A8p n (m + 1) x2 x7 x19 x20 x21 h=bnd (A2 .lss x21 x20) fun v13=>cnd v13 (bnd (B7 1 x19 x21) fun v14=>bnd (A3 h v14) fun v15=>bnd (A7 x2 0) fun v16=>bnd (A4 h 3 v16) fun v17=>bnd (X0 [v17,v15] h) fun p18=>cnd p18.1 (bnd (A8 ([.i .i64 0]) [(0,1,v15)]) fun c19=>bnd (F0 (p18.2 ++ [some (Row.mk (c19) true)]) 1 x7 (.c (.sl p18.2.length 0 1 1))) fun p20=>B2g n m x2 p20.1 x19 x20 x21 p20.2) (B2g n m x2 x7 x19 x20 x21 p18.2)) (some (x7,h)):=by kernel_rfl
theorem B64 (n m:Nat) (x2 x7 x19 x20 x21:Val) (h:A0):B2g n m x2 x7 x19 x20 x21 h=bnd (A2 .add x21 (.c (.i .i64 1))) fun v21=>A8p n m x2 x7 x19 x20 v21 h:=by kernel_rfl
theorem K_fmap_Buckets:FnK Tryz.prog 87 A_fmap_Buckets A1P A6E:=.mk' (B3 B4m (B3 C4R (B3 A7w C2))) Tryz.func87 (by kernel_rfl) (fun _ _ _=>C1)
def A4N:Fun:=tidy (Lim A_fmap_Buckets A1P)
theorem C4w:SOk Tryz.prog 87 A4N:=K_fmap_Buckets.sok
theorem C4x:U6 A6E A4N:=K_fmap_Buckets.out
def B61:ACode:=.seq [7] (.seq [7,43] (.ops [aO 39 (.fAddr (.t 3) 0),aO 40 (.loadN 3 (.t 39)),aO 41 (.mv (.t 7)),aO 42 (.call 72 [(.t 40),(.t 41)]),aO 43 (.un .not (.t 42))]) (.cond (.t 43) (.seq [6] (.ops [aO 6 (.mv (.v (.c (.i .i64 0))))]) .ret) .skip)) (.seq [6] (.ops [aO 44 (.mv (.t 7)),aO 6 (.mv (.t 44))]) .ret)
def A_fmap_At:AFn:=⟨.seq [2,3,4] (.ops [aO 3 (.box (.t 0)),aO 4 (.box (.t 1)),aO 6 (.mv (.v (.c (.i .i64 0))))]) (.seq [2,3,4] (.seq [2,3,4,18] (.ops [aO 8 (.fAddr (.t 4) 0),aO 9 (.load1 (.t 8)),aO 10 (.bin .neq (.t 9) (.v (.c (.i .i64 1)))),aO 11 (.mv (.t 10)),aG 12 11 false (.mv (.t 2)),aG 13 11 false (.bin .lss (.t 12) (.v (.c (.i .i64 0)))),aO 14 (.pick (.t 11) (.v (.c (.b true))) (.t 13)),aO 15 (.mv (.t 14)),aG 16 15 false (.mv (.t 2)),aG 17 15 false (.bin .geq (.t 16) (.v (.c (.i .i64 134)))),aO 18 (.pick (.t 15) (.v (.c (.b true))) (.t 17))]) (.cond (.t 18) (.seq [6] (.ops [aO 6 (.mv (.v (.c (.i .i64 0))))]) .ret) .skip)) (.seq [2,3,4,7] (.ops [aO 7 (.mv (.v (.c (.i .i64 0))))]) (.seq [3,7] (.block 0 (.seq [2,3,4,7,19] (.ops [aO 20 (.mv (.t 2)),aO 21 (.bin .lss (.t 20) (.v (.c (.i .i64 6)))),aO 19 (.mv (.t 21))]) (.cond (.t 19) (.ops [aO 22 (.mv (.t 2)),aO 23 (.fAddr (.t 4) 4),aO 24 (.iAddrA 6 1 (.t 23) (.t 22)),aO 25 (.load1 (.t 24)),aO 7 (.mv (.t 25))]) (.seq [2,3,4,7,26] (.ops [aO 27 (.fAddr (.t 3) 0),aO 28 (.loadN 3 (.t 27)),aO 29 (.fAddr (.t 4) 10),aO 30 (.load1 (.t 29)),aO 31 (.call 72 [(.t 28),(.t 30)]),aO 26 (.mv (.t 31))]) (.cond (.t 26) (.ops [aO 32 (.loadN 4 (.t 3)),aO 33 (.fAddr (.t 4) 10),aO 34 (.load1 (.t 33)),aO 35 (.call 71 [(.t 32),(.t 34)]),aO 36 (.mv (.t 2)),aO 37 (.bin .sub (.t 36) (.v (.c (.i .i64 6)))),aO 38 (.call 208 [(.t 35),(.t 37)]),aO 7 (.mv (.t 38))]) .skip))))) B61))),[.tmp 6]⟩
def A6k:B0:=B1 72 X0 (B1 71 S7 (B1 208 A5c C0))
def A5F (n:Nat) (x3 x7:Val) (h:A0):A6:=hold ((ax A6k n B61) A_fmap_At.fin [(3,x3),(7,x7)] h)
def A6D (n:Nat) (args:List Val) (h:A0):A6:=ax A6k n A_fmap_At.code A_fmap_At.fin (params 0 args) h
theorem C2u (n:Nat) (a0 a1 a2:Val) (h:A0):A6D n [a0,a1,a2] h=bnd (cells? a0) fun c1=>bnd (cells? a1) fun c2=>bnd (A7 (.c (.p (h ++ [some (Row.mk (c1) true)]).length 0)) 0) fun v3=>bnd (A3 ((h ++ [some (Row.mk (c1) true)]) ++ [some (Row.mk (c2) true)]) v3) fun v4=>bnd (A2 .neq v4 (.c (.i .i64 1))) fun v5=>bnd (gd v5 false (some (a2,((h ++ [some (Row.mk (c1) true)]) ++ [some (Row.mk (c2) true)]))) (some (.no,((h ++ [some (Row.mk (c1) true)]) ++ [some (Row.mk (c2) true)])))) fun p6=>bnd (gd v5 false (bnd (A2 .lss p6.1 (.c (.i .i64 0))) fun v7=>some (v7,p6.2)) (some (.no,p6.2))) fun p8=>bnd (C4 v5 (.c (.b true)) p8.1) fun v9=>bnd (gd v9 false (some (a2,p8.2)) (some (.no,p8.2))) fun p10=>bnd (gd v9 false (bnd (A2 .geq p10.1 (.c (.i .i64 134))) fun v11=>some (v11,p10.2)) (some (.no,p10.2))) fun p12=>bnd (C4 v9 (.c (.b true)) p12.1) fun v13=>cnd v13 (some ((.c (.i .i64 0)),p12.2)) (bnd (A2 .lss a2 (.c (.i .i64 6))) fun v14=>cnd v14 (bnd (A7 (.c (.p (h ++ [some (Row.mk (c1) true)]).length 0)) 4) fun v15=>bnd (E1 6 1 v15 a2) fun v16=>bnd (A3 p12.2 v16) fun v17=>A5F n (.c (.p h.length 0)) v17 p12.2) (bnd (A7 (.c (.p h.length 0)) 0) fun v18=>bnd (A4 p12.2 3 v18) fun v19=>bnd (A7 (.c (.p (h ++ [some (Row.mk (c1) true)]).length 0)) 10) fun v20=>bnd (A3 p12.2 v20) fun v21=>bnd (X0 [v19,v21] p12.2) fun p22=>cnd p22.1 (bnd (A4 p22.2 4 (.c (.p h.length 0))) fun v23=>bnd (A7 (.c (.p (h ++ [some (Row.mk (c1) true)]).length 0)) 10) fun v24=>bnd (A3 p22.2 v24) fun v25=>bnd (S7 [v23,v25] p22.2) fun p26=>bnd (A2 .sub a2 (.c (.i .i64 6))) fun v27=>bnd (A5c [p26.1,v27] p26.2) fun p28=>A5F n (.c (.p h.length 0)) p28.1 p28.2) (A5F n (.c (.p h.length 0)) (.c (.i .i64 0)) p22.2))):=by kernel_rfl
theorem C8K (n:Nat) (x3 x7:Val) (h:A0):A5F n x3 x7 h=bnd (A7 x3 0) fun v29=>bnd (A4 h 3 v29) fun v30=>bnd (X0 [v30,x7] h) fun p31=>bnd (aun .not p31.1) fun v32=>cnd v32 (some ((.c (.i .i64 0)),p31.2)) (some (x7,p31.2)):=by kernel_rfl
theorem K_fmap_At:FnK Tryz.prog 211 A_fmap_At A6k A6D:=.mk' (B3 A7w (B3 A3j (B3 C5H C2))) Tryz.func211 (by kernel_rfl) (fun _ _ _=>C1)
def A4M:Fun:=tidy (Lim A_fmap_At A6k)
theorem C4v:SOk Tryz.prog 211 A4M:=K_fmap_At.sok
theorem C4u:C9 A6D A4M:=K_fmap_At.flat
end Go.Proofs.YteckncopbicmcaaGreat
end
section
namespace Go.Proofs.YteckncopbicmcaaGreat
open Go Go.Esc
def A3L (D:Dev) (n:Int) (d:List Int) (j:Nat):Int :=
  if j < 6 then d.getD j 0 else bif P8 D.length n (d.getD 6 0) then ptP (blk D (d.getD 6 0)) (j - 6) else 0
def R2 (D:Dev) (n:Int) (d:List Int) (j:Nat):Int:=bif P8 D.length n (A3L D n d j) then A3L D n d j else 0
def atF (D:Dev) (n k:Int) (d:List Int) (j:Int):Int:=if k=1 ∧ 0 ≤ j ∧ j < 134 then R2 D n d j.toNat else 0
theorem C8L {D:Dev} {n m no:Int} {f:Cell} {q:Nat} {g:A0} {r:Option Row}:A5F q (.c (.p g.length 0)) (.c (.i .i64 no)) (g ++ [some (Row.mk (vwC D.length n m f) true),r])=some (.c (.i .i64 (bif P8 D.length n no then no else 0)),g ++ [some (Row.mk (vwC D.length n m f) true),r]):=by
  have l3:=A3R (b:=D.length) (n:=n) (m:=m) (f:=f)
  have hI:=fun h=>A5H (b:=D.length) (n:=n) (m:=m) (i:=no) (h:=h)
  rw [C8K]
  generalize vwC D.length n m f=V at *
  cases c:P8 D.length n no with
  | false =>
    simp only [c] at hI
    simp only [esc,esh,Nat.reduceAdd,Nat.reduceMul,Nat.reduceLT,l3,hI]
  | true =>
    simp only [c] at hI
    simp only [esc,esh,Nat.reduceAdd,Nat.reduceMul,Nat.reduceLT,l3,hI]
theorem C8J {D:Dev} {n m k l s p j:Int} {d:List Int} {f:Cell} {h:A0} (hD:okD D) (hd:d.length=7) (hv:IsView h f D) :
    A4M [.a (vwC D.length n m f),.a (A5 k l s p d),.c (.i .i64 j)] h=some (.c (.i .i64 (atF D n k d j)),h):=by
  have key:∀ g,IsView g f D → ∃ g',A6D 0 [.a (vwC D.length n m f),.a (A5 k l s p d),.c (.i .i64 j)] g=some (.c (.i .i64 (atF D n k d j)),g'):=by
    intro g hv
    have l3:=A3R (b:=D.length) (n:=n) (m:=m) (f:=f)
    have l4:=A21 (b:=D.length) (n:=n) (m:=m) (f:=f)
    have i0:(A5 k l s p d)[0]? = some (.i .i64 k):=rfl
    have i10:(A5 k l s p d)[10]? = some (.i .i64 (d.getD 6 0)):=by
      have:(A5 k l s p d)[10]? = (encI d)[6]? := rfl
      rw [this,R5,List.getElem?_eq_getElem (by omega),List.getD_eq_getElem?_getD,List.getElem?_eq_getElem (by omega)];rfl
    have hJ:=fun no=>C8L (D:=D) (n:=n) (m:=m) (no:=no) (f:=f) (q:=0) (g:=g) (r:=some (Row.mk (A5 k l s p d) true))
    rw [C2u]
    by_cases c1:k=1
    · by_cases c2:j < 0
      · have e:atF D n k d j=0:=by unfold atF;rw [if_neg (by omega)]
        rw [e]
        generalize vwC D.length n m f=V at *
        generalize A5 k l s p d=I at *
        exact ⟨_,by simp only [esc,esh,Nat.reduceAdd,Nat.reduceMul,Nat.reduceLT,eq_self,i0,c1,c2] <;> rfl⟩
      · by_cases c3:134 ≤ j
        · have e:atF D n k d j=0:=by unfold atF;rw [if_neg (by omega)]
          rw [e]
          generalize vwC D.length n m f=V at *
          generalize A5 k l s p d=I at *
          exact ⟨_,by simp only [esc,esh,Nat.reduceAdd,Nat.reduceMul,Nat.reduceLT,eq_self,i0,c1,c2,c3] <;> rfl⟩
        · obtain ⟨i,rfl⟩:∃ i:Nat,j=i:=⟨j.toNat,by omega⟩
          have e:atF D n k d i=R2 D n d i:=by unfold atF;rw [if_pos (by omega),Int.toNat_natCast]
          rw [e]
          unfold R2
          by_cases c4:(i:Int) < 6
          · have er:A3L D n d i=d.getD i 0:=by unfold A3L;rw [if_pos (by omega)]
            have ia:(A5 k l s p d)[4 + i]? = some (.i .i64 (d.getD i 0)):=by
              have:(A5 k l s p d)[4 + i]? = (encI d)[i]? := by
                rw [Nat.add_comm];rfl
              rw [this,R5,List.getElem?_eq_getElem (by omega),List.getD_eq_getElem?_getD,List.getElem?_eq_getElem (by omega)];rfl
            have ad:=T3 (k:=.i64) (id:=g.length + 1) (off:=4) (sz:=1) (j:=i) (n:=6) (by omega)
            rw [Nat.mul_one] at ad
            rw [er]
            generalize vwC D.length n m f=V at *
            generalize A5 k l s p d=I at *
            exact ⟨_,by simp only [esc,esh,Nat.reduceAdd,Nat.reduceMul,Nat.reduceLT,eq_self,i0,c1,c2,c3,c4,ad,ia,hJ] <;> rfl⟩
          · have er:A3L D n d i=bif P8 D.length n (d.getD 6 0) then ptP (blk D (d.getD 6 0)) (i - 6) else 0:=by unfold A3L;rw [if_neg (by omega)]
            have hI:=fun h=>A5H (b:=D.length) (n:=n) (m:=m) (i:=d.getD 6 0) (h:=h)
            rw [er]
            cases c5:P8 D.length n (d.getD 6 0) with
            | false =>
              simp only [c5] at hI
              generalize vwC D.length n m f=V at *
              generalize A5 k l s p d=I at *
              exact ⟨_,by simp only [esc,esh,Nat.reduceAdd,Nat.reduceMul,Nat.reduceLT,eq_self,i0,i10,c1,c2,c3,c4,l3,hI,hJ] <;> rfl⟩
            | true =>
              simp only [c5] at hI
              have hB:=A3Q (n:=n) (m:=m) (no:=d.getD 6 0) (h:=g ++ [some (Row.mk (vwC D.length n m f) true),some (Row.mk (A5 k l s p d) true)]) hD (hv.more _)
              have w:IntKind.wrap .i64 ((i:Int) - 6)=((i - 6:Nat):Int):=by rw [wrap_i64 (by omega) (by omega)];omega
              have hP:=fun h=>D05 (b:=blk D (d.getD 6 0)) (k:=i - 6) (h:=h) (A0X hD) (by omega)
              generalize vwC D.length n m f=V at *
              generalize A5 k l s p d=I at *
              exact ⟨_,by simp only [esc,esh,Nat.reduceAdd,Nat.reduceMul,Nat.reduceLT,eq_self,i0,i10,c1,c2,c3,c4,l3,l4,hI,hB,w,hP,hJ] <;> rfl⟩
    · have e:atF D n k d j=0:=by unfold atF;rw [if_neg (by omega)]
      rw [e]
      generalize vwC D.length n m f=V at *
      generalize A5 k l s p d=I at *
      exact ⟨_,by simp only [esc,esh,Nat.reduceAdd,Nat.reduceMul,Nat.reduceLT,eq_self,i0,c1] <;> rfl⟩
  obtain ⟨g',e⟩:=key (ro h) hv.ro
  exact C4u e rfl
end Go.Proofs.YteckncopbicmcaaGreat
end
section
namespace Go.Proofs.YteckncopbicmcaaGreat
open Go Go.Esc
theorem A1G {h:A0} {id n sz:Nat} {cs ys:List Cell} (hr:rd h id=some ⟨cs,true⟩) (hl:cs.length=n * sz) (hy:ys.length=sz) (hsz:0 < sz) (hn:n + 1 ≤ 1073741824) :
    ∃ h',F0 (h ++ [some ⟨ys,true⟩]) sz (.c (.sl id 0 n sz)) (.c (.sl h.length 0 1 sz))=some (.c (.sl (h.length + 1) 0 (n + 1) sz),h') ∧ rd h' (h.length + 1)=some ⟨cs ++ ys,true⟩ ∧ (∀ i r,i ≠ id → rd h i=some r → rd h' i=some r) ∧ (∀ b,b ≤ id → b ≤ h.length → Low b h h'):=by
  have hlt:=B8 hr
  refine ⟨(h ++ [some (Row.mk ys true)]).set id none ++ [some (Row.mk (cs ++ ys) true)],?_,?_,fun i r hi hir=>?_,fun b hb hb2=>(((Low.refl hb2).new _).set hb none).new _⟩
  · rw [A0V (h:=h ++ [some ⟨ys,true⟩]) (m:=1) (B6 hr) hl E8 (by omega) rfl hsz hn]
    simp
  · have:=E8 (h:=(h ++ [some (Row.mk ys true)]).set id none) (r:=Row.mk (cs ++ ys) true)
    rw [List.length_set] at this
    simpa using this
  · refine B6 ?_
    rw [C7 (Ne.symm hi)]
    exact B6 hir
def C1X (h:A0) (x:Cell) (l:List Int) (b:Nat) (rs:List Nat):Prop:=(l=[] ∧ x=.ns) ∨ ∃ id,x=.sl id 0 l.length 1 ∧ rd h id=some ⟨encI l,true⟩ ∧ b ≤ id ∧ id ∉ rs
def VarI (h:A0) (r:Nat) (l:List Int) (b:Nat) (rs:List Nat):Prop:=∃ x,rd h r=some ⟨[x],true⟩ ∧ C1X h x l b rs
theorem VarI.nil {h:A0} {r b:Nat} {rs:List Nat} (hr:rd h r=some ⟨[.ns],true⟩):VarI h r [] b rs:=⟨.ns,hr,.inl ⟨rfl,rfl⟩⟩
theorem VarI.keep {h h':A0} {r b:Nat} {l:List Int} {rs:List Nat} (hv:VarI h r l b rs) (h1:rd h' r=rd h r) (h2:∀ id,id ∉ rs → ∀ x,rd h id=some x → rd h' id=some x):VarI h' r l b rs:=by
  obtain ⟨x,hx,hd⟩:=hv
  refine ⟨x,by rw [h1];exact hx,?_⟩
  rcases hd with hd | ⟨id,e,hr,hb,hn⟩
  · exact .inl hd
  · exact .inr ⟨id,e,h2 id hn _ hr,hb,hn⟩
theorem VarI.more {h:A0} {r b:Nat} {l:List Int} {rs:List Nat} (hv:VarI h r l b rs) (t:A0):VarI (h ++ t) r l b rs:=by
  obtain ⟨x,hx,hd⟩:=hv
  refine ⟨x,B6 hx,?_⟩
  rcases hd with hd | ⟨id,e,hr,hb,hn⟩
  · exact .inl hd
  · exact .inr ⟨id,e,B6 hr,hb,hn⟩
theorem B1u {h:A0} {jd m sz:Nat} {ys:List Cell} (hy:rd h jd=some ⟨ys,true⟩) (hyl:ys.length=m * sz) (hsz:0 < sz) (hn:m ≤ 1073741824) :
    F0 h sz (.c .ns) (.c (.sl jd 0 m sz))=some (.c (.sl h.length 0 m sz),h ++ [some ⟨ys,true⟩]):=by
  have h2:M4 h sz (.c (.sl jd 0 m sz))=some ys:=by
    simp only [M4,if_true,W7,hy,Option.bind_some,List.drop_zero,Nat.zero_add]
    rw [← hyl,List.take_length,if_pos ⟨Nat.le_refl _,rfl⟩]
  have e1:ys.length / sz=m:=by rw [hyl];exact Nat.mul_div_cancel _ hsz
  simp only [F0,h2,Option.bind_some]
  rw [e1,if_pos hn]
theorem VarI.push {h:A0} {r b:Nat} {l:List Int} {rs:List Nat} (hv:VarI h r l b rs) (hr:r ∈ rs) (hbr:b ≤ r) (hbh:b ≤ h.length) (hlt:∀ j ∈ rs,j < h.length) (hl:l.length ≤ 100000) (n:Int) :
    ∃ x v h2 h3,A3 h (.c (.p r 0))=some (.c x) ∧ F0 (h ++ [some ⟨[.i .i64 n],true⟩]) 1 (.c x) (.c (.sl h.length 0 1 1))=some (.c v,h2) ∧ E7 h2 (.c (.p r 0)) (.c v)=some h3 ∧
      VarI h3 r (l ++ [n]) b rs ∧ Low b h h3 ∧ (∀ j ∈ rs,j ≠ r → rd h3 j=rd h j) ∧ h.length ≤ h3.length:=by
  obtain ⟨x,hx,hd⟩:=hv
  have hrl:=B8 hx
  have l1:A3 h (.c (.p r 0))=some (.c x):=D8 hx rfl (by simp)
  rcases hd with ⟨rfl,rfl⟩ | ⟨id,rfl,hi,hb,hn⟩
  · have hA:=B1u (h:=h ++ [some ⟨[.i .i64 n],true⟩]) (jd:=h.length) (m:=1) (sz:=1) (ys:=[.i .i64 n]) (by simp) rfl (by omega) (by omega)
    have e1:(h ++ [some (Row.mk [.i .i64 n] true)]).length=h.length + 1:=by simp
    rw [e1] at hA
    have hr2:rd (h ++ [some (Row.mk [.i .i64 n] true)] ++ [some (Row.mk [.i .i64 n] true)]) r=some ⟨[.ns],true⟩:=B6 (B6 hx)
    have s1:=N5 (x:=.sl (h.length + 1) 0 1 1) (off:=0) hr2 (by simp)
    refine ⟨.ns,_,_,_,l1,hA,s1,⟨.sl (h.length + 1) 0 1 1,G3 (B8 hr2),.inr ⟨h.length + 1,rfl,?_,by omega,fun h1=>by have:=hlt _ h1;omega⟩⟩,(((Low.refl hbh).new _).new _).set hbr _,fun j hj hjr=>?_,by simp⟩
    · rw [C7 (by omega)]
      have:=E8 (h:=h ++ [some (Row.mk [.i .i64 n] true)]) (r:=⟨[.i .i64 n],true⟩)
      rw [e1] at this
      exact this
    · rw [C7 (Ne.symm hjr)]
      have:=hlt j hj
      rw [G5 (by simp;omega),G5 this]
  · have hil:=B8 hi
    have hne:id ≠ r:=fun e=>hn (e ▸ hr)
    have hA:=A0V (h:=h ++ [some ⟨[.i .i64 n],true⟩]) (id:=id) (jd:=h.length) (n:=l.length) (m:=1) (sz:=1) (cs:=encI l) (ys:=[.i .i64 n]) (rw:=true) (B6 hi) (by rw [G6,Nat.mul_one]) (by simp) rfl rfl (by omega) (by omega)
    have e1:(h ++ [some (Row.mk [.i .i64 n] true)]).length=h.length + 1:=by simp
    rw [e1] at hA
    have ee:encI l ++ [Cell.i .i64 n]=encI (l ++ [n]):=by rw [A5A];rfl
    rw [ee] at hA
    have hr2:rd ((h ++ [some (Row.mk [.i .i64 n] true)]).set id none ++ [some (Row.mk (encI (l ++ [n])) true)]) r=some ⟨[.sl id 0 l.length 1],true⟩:=by
      refine B6 ?_
      rw [C7 hne];exact B6 hx
    have s1:=N5 (x:=.sl (h.length + 1) 0 (l.length + 1) 1) (off:=0) hr2 (by simp)
    refine ⟨_,_,_,_,l1,hA,s1,⟨.sl (h.length + 1) 0 (l.length + 1) 1,G3 (B8 hr2),.inr ⟨h.length + 1,by simp,?_,by omega,fun h1=>by have:=hlt _ h1;omega⟩⟩,((((Low.refl hbh).new _).set hb _).new _).set hbr _,fun j hj hjr=>?_,by simp;omega⟩
    · rw [C7 (by omega)]
      have:=E8 (h:=(h ++ [some (Row.mk [.i .i64 n] true)]).set id none) (r:=⟨encI (l ++ [n]),true⟩)
      rw [List.length_set,e1] at this
      exact this
    · have hji:j ≠ id:=fun e=>hn (e ▸ hj)
      have:=hlt j hj
      rw [C7 (Ne.symm hjr),G5 (by simp;omega),C7 (Ne.symm hji),G5 this]
end Go.Proofs.YteckncopbicmcaaGreat
end
section
namespace Go.Proofs.YteckncopbicmcaaGreat
open Go Go.Esc
def R3 (d:Int):Nat:=(max 0 (min d 5)).toNat
theorem A7X (d:Int):R3 d ≤ 5:=by unfold R3;omega
theorem C7C {d:Int} (h0:0 ≤ d) (h5:d ≤ 5):((R3 d:Nat):Int)=d:=by unfold R3;omega
theorem C7B (d:Int):(max 0 (min d 5))=((R3 d:Nat):Int):=by unfold R3;omega
def J1 (d:Int):Nat:=2 ^ R3 d
theorem B9L {n:Nat} (h:n ≤ 5):2 ^ n ≤ 32:=by
  have:=Nat.pow_le_pow_right (n:=2) (by omega) h
  simpa using this
theorem A5T (d:Int):J1 d ≤ 32:=B9L (A7X d)
theorem A24:[Cell.i .i64 0] ++ List.replicate 32 (Cell.i .i64 0)=encI (0 :: zI 32):=by
  simp [encI,zI]
def toX (t:List Int) (i:Nat):Int:=t.getD i 0
theorem D23 {t:List Int} {i:Nat} (h:i < t.length):t[i]? = some (toX t i):=by
  unfold toX;rw [List.getD_eq_getElem?_getD,List.getElem?_eq_getElem h];rfl
def A2H (n:Int):Bool:=decide (0 ≤ n) && decide (n ≤ 65535)
theorem C9i {n:Int} {h:A0}:A4Y [.c (.i .i64 n)] h=some (.c (.b (A2H n)),h):=by
  refine C4Z (n:=0) (h2:=ro h) ?_ rfl
  rw [C2N]
  unfold A2H
  by_cases c:0 ≤ n
  · simp only [esc,c,Bool.true_and]
  · simp only [esc,c,Bool.false_and]
theorem R6 {d:Int} {t:List Int} (ht:t.length=32):(encI (d :: t)).length=33:=by rw [G6];simp [ht]
theorem C72 {d:Int} {t:List Int} {i:Nat} (ht:t.length=32) (hi:i < 32):(encI (d :: t))[1 + i]? = some (.i .i64 (toX t i)):=by
  rw [R5,Nat.add_comm 1 i,List.getElem?_cons_succ,D23 (by omega)];rfl
theorem C73 {d:Int} {t:List Int} {i:Nat} {v:Int}:(encI (d :: t)).set (1 + i) (.i .i64 v)=encI (d :: t.set i v):=by
  rw [A75,Nat.add_comm 1 i,List.set_cons_succ]
theorem ldX {h:A0} {id:Nat} {d:Int} {t:List Int} {rw:Bool} (hr:rd h id=some ⟨encI (d :: t),rw⟩) (ht:t.length=32) {i:Nat} (hi:i < 32):A3 h (.c (.p id (1 + i)))=some (.c (.i .i64 (toX t i))) :=
  D8 hr (C72 ht hi) (by simp [Cell.isX])
theorem adX {id i:Nat} (hi:i < 32):E1 32 1 (.c (.p id (0 + 1))) (.c (.i .i64 (i:Int)))=some (.c (.p id (1 + i))):=by rw [T3 hi];simp
theorem B2w {d:Int} {t:List Int} {h:A0}:A0M [.a (encI (d :: t))] h=some (.c (.i .i64 (R3 d:Nat)),h):=by
  have key:∀ g,∃ g',A6U 0 [.a (encI (d :: t))] g=some (.c (.i .i64 (R3 d:Nat)),g'):=by
    intro g
    have e1:T9 (.c (.i .i64 d)) (.c (.i .i64 5))=some (.c (.i .i64 (min d 5))):=by
      simp only [T9]
      by_cases h:(5:Int) < d
      · rw [if_pos h,Int.min_eq_right (by omega)]
      · rw [if_neg h,Int.min_eq_left (by omega)]
    have e2:A0n (.c (.i .i64 0)) (.c (.i .i64 (min d 5)))=some (.c (.i .i64 (R3 d:Nat))):=by
      rw [← C7B]
      simp only [A0n]
      by_cases h:(min d 5:Int) > 0
      · rw [if_pos h,Int.max_eq_right (by omega)]
      · rw [if_neg h,Int.max_eq_left (by omega)]
    have e3:A3 (g ++ [some (Row.mk (encI (d :: t)) true)]) (.c (.p g.length 0))=some (.c (.i .i64 d)):=D8 (E8) rfl rfl
    rw [C2M]
    generalize hz:encI (d :: t)=z at *
    exact ⟨_,by simp only [esc,e3,e1,e2] <;> rfl⟩
  obtain ⟨g',e⟩:=key (ro h)
  exact C4Y e rfl
theorem D2m {k:Nat} (hk:k ≤ 5):A2 .shl (.c (.i .i64 1)) (.c (.i .u64 (k:Int)))=some (.c (.i .i64 ((2 ^ k:Nat):Int))):=by
  rw [B1g (by omega)]
  have h1:Nat.min (k:Int).toNat (IntKind.i64).bits=k:=by
    have:(IntKind.i64).bits=64:=rfl
    rw [this,Int.toNat_natCast];exact Nat.min_eq_left (by omega)
  have h2:=B9L hk
  rw [h1,Int.one_mul]
  have e:(2:Int) ^ k=((2 ^ k:Nat):Int):=by simp
  rw [e]
  generalize 2 ^ k=y at h2 ⊢
  rw [wrap_i64 (by omega) (by omega)]
theorem C1T {k:Nat} (hk:k ≤ 64):IntKind.wrap .u64 (k:Int)=(k:Int):=wrap_u64 (by omega) (by omega)
theorem B7Q {d:Int} {t:List Int} {h:A0} (ht:t.length=32):A16 [.a (encI (d :: t))] h=some (.c (.i .i64 (J1 d:Nat)),h):=by
  have key:∀ g,∃ g',A6W 0 [.a (encI (d :: t))] g=some (.c (.i .i64 (J1 d:Nat)),g'):=by
    intro g
    have hl:=R6 (d:=d) ht
    have hd:=fun h=>B2w (d:=d) (t:=t) (h:=h)
    have e1:=D2m (A7X d)
    have e2:=C1T (k:=R3 d) (by have:=A7X d;omega)
    rw [C2P]
    unfold J1
    generalize encI (d :: t)=z at *
    exact ⟨_,by simp only [esc,esh,Nat.reduceAdd,Nat.reduceMul,Nat.reduceLT,hl,hd,e1,e2] <;> rfl⟩
  obtain ⟨g',e⟩:=key (ro h)
  exact C43 e rfl
def A0u (t:List Int) (i:Nat):Bool:=(List.range i).all fun k=>!decide (toX t k=toX t i)
theorem B6W {d:Int} {t:List Int} {g:A0} {i q:Nat} (ht:t.length=32) (hi:i < 32):∀ e k m:Nat,k + e=i → e < m →
    A8x q m (.c (.i .i64 (i:Int))) (.c (.p g.length 0)) (.c (.i .i64 (i:Int))) (.c (.i .i64 (k:Int))) (g ++ [some ⟨encI (d :: t),true⟩]) =
      some (.c (.b ((List.range' k e).all fun k=>!decide (toX t k=toX t i))),g ++ [some ⟨encI (d :: t),true⟩])
  | e,k,0,_,hm=>by omega
  | 0,k,m + 1,hk,hm=>by
    have c0:¬ (k:Int) < i:=by omega
    rw [B7P]
    simp only [esc,c0,List.range'_zero]
  | e + 1,k,m + 1,hk,hm=>by
    have ih:=B6W (d:=d) (g:=g) (q:=q) ht hi e (k + 1) m (by omega) (by omega)
    have c0:(k:Int) < i:=by omega
    have a1:=adX (id:=g.length) (i:=k) (by omega)
    have a2:=adX (id:=g.length) (i:=i) (by omega)
    have l1:=ldX (h:=g ++ [some (Row.mk (encI (d :: t)) true)]) (id:=g.length) E8 ht (i:=k) (by omega)
    have l2:=ldX (h:=g ++ [some (Row.mk (encI (d :: t)) true)]) (id:=g.length) E8 ht (i:=i) (by omega)
    rw [B7P,List.range'_succ,List.all_cons]
    by_cases c:toX t k=toX t i
    · rw [decide_eq_true c,Bool.not_true,Bool.false_and]
      rw [c] at l1
      simp only [esc,c0,a1,a2,l1,l2]
    · rw [decide_eq_false c,Bool.not_false,Bool.true_and]
      simp only [esc,c0,a1,a2,l1,l2,c,E2 (show k + 1 < 9223372036854775808 by omega)]
      exact ih
theorem C9j {d:Int} {t:List Int} {i:Nat} {h:A0} (ht:t.length=32) (hi:i < 32):A4Z [.a (encI (d :: t)),.c (.i .i64 (i:Int))] h=some (.c (.b (A0u t i)),h):=by
  have key:∀ N,i < N → ∀ g,∃ g',A6V N [.a (encI (d :: t)),.c (.i .i64 (i:Int))] g=some (.c (.b (A0u t i)),g'):=by
    intro N hN g
    have e:=B6W (d:=d) (g:=g) (q:=N) ht hi i 0 N (by omega) hN
    rw [C2O]
    unfold A0u
    rw [List.range_eq_range']
    exact ⟨_,by simp only [esc];exact e⟩
  obtain ⟨g',e⟩:=key (i + 1) (by omega) (ro h)
  exact C41 e rfl
end Go.Proofs.YteckncopbicmcaaGreat
end
section
namespace Go.Proofs.YteckncopbicmcaaGreat
open Go Go.Esc
def M7 (d:List Int):List UInt8:=(d.map (C3 2)).flatten
theorem A8Y {d:List Int}:(M7 d).length=2 * d.length:=by
  induction d with
  | nil=>rfl
  | cons x d ih=>simp only [M7,List.map_cons,List.flatten_cons,List.length_append,A2w,List.length_cons] at ih ⊢;omega
theorem D0n {d:List Int} {x:Int}:M7 (d ++ [x])=M7 d ++ C3 2 x:=by simp [M7]
def magX:List UInt8:=[105,100,120,33]
def S0 (d:Int):List UInt8:=magX ++ C3 1 d ++ zeros 27
theorem A8t {d:Int}:(S0 d).length=32:=by simp [S0,magX]
def R8 (d:Int) (t:List Int):List UInt8:=D4 256 (S0 d ++ M7 t)
theorem B2r {d:Int} {t:List Int} (ht:t.length=32):(R8 d t).length=256:=J4 (by rw [List.length_append,A8t,A8Y];omega)
theorem D0T {n k:Nat} {l:List UInt8} (h:l.length + k ≤ n):D4 n (l ++ zeros k)=D4 n l:=by
  unfold D4 zeros
  rw [List.append_assoc,List.replicate_append_replicate,List.length_append,List.length_replicate]
  congr 2;omega
def okX (d:Int) (t:List Int):Bool:=decide (0 ≤ d) && (decide (d ≤ 5) && t.all A2H)
theorem B8b {d:Int} {t:List Int} {g:A0} {y:List Cell} {q:Nat} (ht:t.length=32) (hyl:y.length=33):∀ e i m:Nat,i + e=32 → e < m →
    ∃ h',A8w q m (.c (.p (g.length + 1) 0)) (.c (.p (g.length + 3) 0)) (.a (encI t)) (.c (.i .i64 (i:Int))) (g ++ [some (Row.mk y true),some (Row.mk (A1 (zeros 256)) true),some (Row.mk (A1 magX) true),some (Row.mk (A1 (D4 256 (S0 d ++ M7 (t.take i)))) true)]) =
      some (.t [.a (A1 (bif (t.drop i).all A2H then R8 d t else zeros 256)),.c (.i .i64 (bif (t.drop i).all A2H then 0 else 1))],h')
  | e,i,0,_,hm=>by omega
  | 0,i,m + 1,hi,hm=>by
    have e0:i=32:=by omega
    subst e0
    have c0:¬ ((32:Nat):Int) < 32:=by omega
    have hz:(A1 (zeros 256)).length=256:=by rw [B5];exact zeros_length
    have hB:(A1 (R8 d t)).length=256:=by rw [B5];exact B2r ht
    have eB:D4 256 (S0 d ++ M7 t)=R8 d t:=rfl
    rw [B7M,List.take_of_length_le (by omega),List.drop_of_length_le (by omega),List.all_nil,cond_true,cond_true,eB]
    generalize R8 d t=B at *
    generalize A1 magX=mg at *
    generalize zeros 256=z at *
    exact ⟨_,by simp only [esc,esh,Nat.reduceAdd,Nat.reduceMul,Nat.reduceLT,c0,hz,hB] <;> rfl⟩
  | e + 1,i,m + 1,hi,hm=>by
    obtain ⟨h',ih⟩:=B8b (d:=d) (g:=g) (q:=q) ht hyl e (i + 1) m (by omega) (by omega)
    have c0:(i:Int) < 32:=by omega
    have hz:(A1 (zeros 256)).length=256:=by rw [B5];exact zeros_length
    have haf:A8 (List.replicate 256 (Cell.i .u8 0)) []=some (List.replicate 256 (Cell.i .u8 0)):=rfl
    rw [M1] at haf
    have hx:W1 32 (.a (encI t)) (.c (.i .i64 (i:Int)))=some (.c (.i .i64 t[i])):=by
      rw [A8s (by omega),R5,List.getElem?_eq_getElem (by omega)];rfl
    have hF:=fun h=>C9i (n:=t[i]) (h:=h)
    have hnl:(S0 d ++ M7 (t.take i)).length=32 + 2 * i:=by rw [List.length_append,A8t,A8Y,List.length_take];omega
    have hP0:(D4 256 (S0 d ++ M7 (t.take i))).length=256:=J4 (by omega)
    have hp:(A1 (D4 256 (S0 d ++ M7 (t.take i)))).length=256:=by rw [B5,hP0]
    have hW:=fun h=>A0A (h:=h) (l:=D4 256 (S0 d ++ M7 (t.take i))) hP0 (a:=((32 + 2 * i:Nat):Int)) (w:=2) (v:=t[i])
    have ew:=A0G (l:=S0 d ++ M7 (t.take i)) (a:=32 + 2 * i) (w:=2) (v:=t[i]) (by omega) (by omega) (by omega) (by omega)
    rw [hnl,Nat.sub_self,show zeros 0=[] from rfl,List.append_nil,List.append_assoc,← D0n,← List.take_succ_eq_append_getElem (by omega)] at ew
    rw [show ((2:Nat):Int)=2 from rfl] at ew
    rw [ew] at hW
    have hp2:(A1 (D4 256 (S0 d ++ M7 (t.take (i + 1))))).length=256:=by rw [B5,J4 (by rw [List.length_append,A8t,A8Y,List.length_take];omega)]
    have w1:IntKind.wrap .i64 (2 * (i:Int))=((2 * i:Nat):Int):=by rw [wrap_i64 (by omega) (by omega)];omega
    have w2:IntKind.wrap .i64 (32 + ((2 * i:Nat):Int))=((32 + 2 * i:Nat):Int):=by rw [wrap_i64 (by omega) (by omega)];omega
    rw [B7M,M1,List.drop_eq_getElem_cons (by omega:i < t.length),List.all_cons]
    generalize D4 256 (S0 d ++ M7 (t.take (i + 1)))=P1 at *
    generalize D4 256 (S0 d ++ M7 (t.take i))=P0 at *
    generalize R8 d t=B at *
    generalize A1 magX=mg at *
    generalize zeros 256=z at *
    cases c:A2H t[i] with
    | false =>
      rw [c] at hF
      rw [Bool.false_and,cond_false,cond_false]
      exact ⟨_,by simp only [esc,esh,Nat.reduceAdd,Nat.reduceMul,Nat.reduceLT,c0,hx,hF,haf,hz] <;> rfl⟩
    | true =>
      rw [c] at hF
      rw [Bool.true_and]
      refine ⟨h',?_⟩
      simp only [esc,esh,Nat.reduceAdd,Nat.reduceMul,Nat.reduceLT,c0,hx,hF,hp,w1,w2,hW,hp2,E2 (show i + 1 < 9223372036854775808 by omega)]
      exact ih
theorem B7L {d:Int} {t:List Int} {h:A0} (ht:t.length=32):A15 [.a (encI (d :: t))] h=some (.t [.a (A1 (bif okX d t then R8 d t else zeros 256)),.c (.i .i64 (bif okX d t then 0 else 1))],h):=by
  have key:∀ N,32 < N → ∀ g,∃ g',A6T N [.a (encI (d :: t))] g=some (.t [.a (A1 (bif okX d t then R8 d t else zeros 256)),.c (.i .i64 (bif okX d t then 0 else 1))],g'):=by
    intro N hN g
    have hB:=R6 (d:=d) ht
    have hz:(A1 (zeros 256)).length=256:=by rw [B5];exact zeros_length
    have hD:=fun h=>B2w (d:=d) (t:=t) (h:=h)
    have l0:(encI (d :: t))[0]? = some (.i .i64 d):=rfl
    have haf:A8 (List.replicate 256 (Cell.i .u8 0)) []=some (List.replicate 256 (Cell.i .u8 0)):=rfl
    rw [M1] at haf
    rw [C2L,M1]
    unfold okX
    by_cases c:0 ≤ d ∧ d ≤ 5
    · rw [decide_eq_true c.1,decide_eq_true c.2,Bool.true_and,Bool.true_and]
      have hd:=C7C c.1 c.2
      rw [hd] at hD
      have ef:A8 [Cell.i .u8 0,.i .u8 0,.i .u8 0,.i .u8 0] [(0,1,.c (.i .u8 105)),(1,1,.c (.i .u8 100)),(2,1,.c (.i .u8 120)),(3,1,.c (.i .u8 33))]=some (A1 magX):=rfl
      have hO:=A85 (data:=magX) (v:=.c (.sl (g.length + 2) 0 4 1)) (nv:=4) (h:=g ++ [some (Row.mk (encI (d :: t)) true),some (Row.mk (A1 (zeros 256)) true),some (Row.mk (A1 magX) true),none]) (Has.row (rw:=true) (by simp) rfl (O6 _)) (by decide)
      rw [A89 (by decide)] at hO
      have hM:U8 (g ++ [some (Row.mk (encI (d :: t)) true),some (Row.mk (A1 (zeros 256)) true),some (Row.mk (A1 magX) true),none]) (.c (.sl (g.length + 2) 0 4 1))=some (.c (.sl (g.length + 2) 0 4 1)):=by simp [U8]
      have hW:=fun h=>A0A (h:=h) (l:=D4 256 magX) (J4 (by decide)) (a:=4) (w:=1) (v:=d)
      have ew:=A0G (l:=magX) (a:=4) (w:=1) (v:=d) (by decide) (by omega) (by omega) (by omega)
      have e5:magX ++ zeros (4 - magX.length) ++ C3 1 d=magX ++ C3 1 d:=rfl
      have e6:D4 256 (magX ++ C3 1 d)=D4 256 (S0 d ++ M7 (t.take 0)):=by
        rw [List.take_zero,show M7 []=[] from rfl,List.append_nil]
        exact (D0T (by simp [magX])).symm
      rw [e5,e6] at ew
      rw [show ((4:Nat):Int)=4 from rfl,show ((1:Nat):Int)=1 from rfl] at ew
      rw [ew] at hW
      have hp2:(A1 (D4 256 (S0 d ++ M7 (t.take 0)))).length=256:=by rw [B5,J4 (by rw [List.length_append,A8t,A8Y,List.length_take];omega)]
      have e7:A4 (g ++ [some (Row.mk (encI (d :: t)) true),some (Row.mk (A1 (zeros 256)) true),some (Row.mk (A1 magX) true),some (Row.mk (A1 (D4 256 (S0 d ++ M7 (t.take 0)))) true)]) 32 (.c (.p g.length 1))=some (.a (encI t)):=by
        rw [X1]
        simp only [List.getElem?_cons_zero,Option.join_some,ldN,Option.bind_some]
        rw [if_pos ⟨by rw [hB];omega,rfl⟩]
        have:(encI (d :: t)).drop 1=encI t:=rfl
        rw [this,List.take_of_length_le (by rw [G6];omega)]
      obtain ⟨h',e⟩:=B8b (d:=d) (t:=t) (g:=g) (q:=N) ht hB 32 0 N (by omega) hN
      rw [List.drop_zero] at e
      generalize D4 256 (S0 d ++ M7 (t.take 0))=P1 at *
      generalize D4 256 magX=P2 at *
      generalize R8 d t=B at *
      generalize A1 magX=mg at *
      generalize zeros 256=z at *
      generalize encI (d :: t)=y at *
      refine ⟨h',?_⟩
      simp only [esc,esh,Nat.reduceAdd,Nat.reduceMul,Nat.reduceLT,hB,hz,l0,hD,ef,hM,hO,hW,hp2,e7,show g.length + 2 + 1=g.length + 3 from rfl]
      exact e
    · have cd:¬ d=((R3 d:Nat):Int):=by unfold R3;omega
      have ec:(decide (0 ≤ d) && (decide (d ≤ 5) && t.all A2H))=false:=by
        by_cases c1:0 ≤ d
        · rw [decide_eq_false (show ¬ d ≤ 5 by omega)];simp
        · rw [decide_eq_false c1];rfl
      rw [ec,cond_false,cond_false]
      generalize zeros 256=z at *
      generalize encI (d :: t)=y at *
      exact ⟨_,by simp only [esc,esh,Nat.reduceAdd,Nat.reduceMul,Nat.reduceLT,hB,hz,l0,hD,cd,haf] <;> rfl⟩
  obtain ⟨g',e⟩:=key (h.length + 33) (by omega) (ro h)
  refine C4X e ?_
  cases okX d t <;> simp
def getD (b:List UInt8):Int:=fieldN b 4 1
def B60 (b:List UInt8) (i:Nat):Int:=fieldN b (32 + 2 * i) 2
def F5 (b:List UInt8) (n:Nat):List Int:=(List.range n).map (B60 b) ++ zI (32 - n)
theorem B2n {b:List UInt8} {n:Nat} (hn:n ≤ 32):(F5 b n).length=32:=by simp [F5,zI];omega
theorem C80 {b:List UInt8} {k:Nat} (hk:k < 32):F5 b (k + 1)=(F5 b k).set k (B60 b k):=by
  unfold F5
  have e:zI (32 - k)=0 :: zI (32 - (k + 1)):=by
    unfold zI
    rw [show 32 - k=(32 - (k + 1)) + 1 by omega,List.replicate_succ]
  rw [e,List.set_append_right _ _ (by simp),List.range_succ,List.map_append,List.append_assoc]
  simp
theorem B5j {b:List UInt8} {a w:Nat} (h:a + w ≤ 256) (hw:1 ≤ w) (hw4:w ≤ 4):((atN b (a:Int) w:Nat):Int)=fieldN b a w:=by
  unfold atN fieldN
  rw [if_pos ⟨by omega,A0i.2 (by omega)⟩]
  simp only [Int.toNat_natCast]
def A1H (t:List Int) (n e:Nat):Bool:=(List.range' n e).all fun i=>decide (toX t i=0)
def X6 (b:List UInt8):Bool:=okX (getD b) (F5 b 32) && (decide (R8 (getD b) (F5 b 32)=b) && A1H (F5 b 32) (J1 (getD b)) (32 - J1 (getD b)))
theorem B7r {b:List UInt8} {d:Int} {t:List Int} {ix iz q:Nat} {h:A0} (ht:t.length=32) (hx:rd h ix=some ⟨encI (d :: t),true⟩) (hz:rd h iz=some ⟨encI (0 :: zI 32),true⟩):∀ e i m:Nat,i + e=32 → e < m →
    ∃ h',A8v q m (.c (.p iz 0)) (.c (.p ix 0)) (.c (.i .i64 (i:Int))) h=some (.t [.a (encI (bif A1H t i e then d :: t else 0 :: zI 32)),.c (.i .i64 (bif A1H t i e then 0 else 14))],h')
  | e,i,0,_,hm=>by omega
  | 0,i,m + 1,hi,hm=>by
    have e0:i=32:=by omega
    subst e0
    have c0:¬ ((32:Nat):Int) < 32:=by omega
    have hX:=R6 (d:=d) ht
    have hZ:(encI (0 :: zI 32)).length=33:=R6 (d:=0) O9
    have s1:=G0 (h:=h) (id:=ix) hx hX
    have s2:=storeAll (h:=h) (id:=iz) (xs:=encI (d :: t)) hz hZ hX
    have s3:=G0 (h:=h.set iz (some ⟨encI (d :: t),true⟩)) (id:=iz) (G3 (B8 hz)) hX
    have er:A1H t 32 0=true:=rfl
    rw [B7I,er,cond_true,cond_true]
    generalize encI (d :: t)=y at *
    exact ⟨_,by simp only [esc,c0,s1,s2,s3] <;> rfl⟩
  | e + 1,i,m + 1,hi,hm=>by
    obtain ⟨h',ih⟩:=B7r (b:=b) (q:=q) ht hx hz e (i + 1) m (by omega) (by omega)
    have c0:(i:Int) < 32:=by omega
    have hZ:(encI (0 :: zI 32)).length=33:=R6 (d:=0) O9
    have a1:=adX (id:=ix) (i:=i) (by omega)
    have l1:=ldX (h:=h) (id:=ix) hx ht (i:=i) (by omega)
    have haf:A8 (encI (0 :: zI 32)) []=some (encI (0 :: zI 32)):=rfl
    have s2:=storeAll (h:=h) (id:=iz) (xs:=encI (0 :: zI 32)) hz hZ hZ
    have s3:=G0 (h:=h.set iz (some ⟨encI (0 :: zI 32),true⟩)) (id:=iz) (G3 (B8 hz)) hZ
    have er:A1H t i (e + 1)=(decide (toX t i=0) && A1H t (i + 1) e):=by unfold A1H;rw [List.range'_succ,List.all_cons]
    rw [B7I,er,A24]
    by_cases c:toX t i=0
    · rw [decide_eq_true c,Bool.true_and]
      rw [c] at l1
      generalize encI (0 :: zI 32)=z at *
      exact ⟨h',by simp only [esc,c0,a1,l1,E2 (show i + 1 < 9223372036854775808 by omega)];exact ih⟩
    · rw [decide_eq_false c,Bool.false_and,cond_false,cond_false]
      generalize encI (0 :: zI 32)=z at *
      exact ⟨_,by simp only [esc,c0,a1,l1,c,haf,s2,s3] <;> rfl⟩
theorem B7q {b:List UInt8} {g:A0} {q:Nat} (hb:b.length=256) (hq:32 < q):∀ e i m:Nat,i + e=32 → e < m →
    ∃ h',A8u q m (.c (.p g.length 0)) (.c (.p (g.length + 1) 0)) (.c (.p (g.length + 2) 0)) (.c (.i .i64 (i:Int))) (g ++ [some (Row.mk (A1 b) true),some (Row.mk (encI (0 :: zI 32)) true),some (Row.mk (encI (getD b :: F5 b i)) true)]) =
      some (.t [.a (encI (bif X6 b then getD b :: F5 b 32 else 0 :: zI 32)),.c (.i .i64 (bif X6 b then 0 else 14))],h')
  | e,i,0,_,hm=>by omega
  | 0,i,m + 1,hi,hm=>by
    have e0:i=32:=by omega
    subst e0
    have c0:¬ ((32:Nat):Int) < 32:=by omega
    have hB:(A1 b).length=256:=by rw [B5,hb]
    have ht:=B2n (b:=b) (n:=32) (Nat.le_refl _)
    have hX:=R6 (d:=getD b) ht
    have hZ:(encI (0 :: zI 32)).length=33:=R6 (d:=0) O9
    have hz0:(List.replicate 256 (Cell.i .u8 0)).length=256:=List.length_replicate
    have hP:=fun h=>B7L (d:=getD b) (t:=F5 b 32) (h:=h) ht
    have hM:=fun h=>B7Q (d:=getD b) (h:=h) ht
    have hm32:=A5T (getD b)
    have haf:A8 (encI (0 :: zI 32)) []=some (encI (0 :: zI 32)):=rfl
    unfold X6
    rw [B7H,A24]
    cases co:okX (getD b) (F5 b 32) with
    | false =>
      rw [co] at hP
      simp only [cond_false] at hP
      have hzz:(A1 (zeros 256)).length=256:=by rw [B5];exact zeros_length
      rw [Bool.false_and,cond_false,cond_false]
      generalize encI (0 :: zI 32)=z at *
      generalize encI (getD b :: F5 b 32)=y at *
      generalize List.replicate 256 (Cell.i .u8 0)=zz at *
      generalize zeros 256=zzz at *
      exact ⟨_,by simp only [esc,esh,Nat.reduceAdd,Nat.reduceMul,Nat.reduceLT,c0,hX,hP,hz0,hzz,haf,hZ,show decide ((1:Int)=0)=false from rfl] <;> rfl⟩
    | true =>
      rw [co] at hP
      simp only [cond_true] at hP
      rw [Bool.true_and]
      have hil:=B2r (d:=getD b) ht
      have hI:(A1 (R8 (getD b) (F5 b 32))).length=256:=by rw [B5,hil]
      have hE:=A7D (n:=256) hil hb
      by_cases ce:R8 (getD b) (F5 b 32)=b
      · rw [decide_eq_true ce,Bool.true_and]
        rw [decide_eq_true ce] at hE
        obtain ⟨h',e⟩:=B7r (b:=b) (d:=getD b) (t:=F5 b 32) (ix:=g.length + 2) (iz:=g.length + 1) (q:=q) (h:=g ++ [some (Row.mk (A1 b) true),some (Row.mk (encI (0 :: zI 32)) true),some (Row.mk (encI (getD b :: F5 b 32)) true),some (Row.mk (A1 (R8 (getD b) (F5 b 32))) true)]) ht (by simp) (by simp) (32 - J1 (getD b)) (J1 (getD b)) q (by omega) (by omega)
        refine ⟨h',?_⟩
        generalize A1H (F5 b 32) (J1 (getD b)) (32 - J1 (getD b))=R at *
        generalize R8 (getD b) (F5 b 32)=I at *
        generalize getD b :: F5 b 32=Y at *
        generalize encI (0 :: zI 32)=z at *
        generalize List.replicate 256 (Cell.i .u8 0)=zz at *
        simp only [esc,esh,Nat.reduceAdd,Nat.reduceMul,Nat.reduceLT,c0,hX,hP,hz0,hI,hB,hE,hM]
        exact e
      · rw [decide_eq_false ce,Bool.false_and,cond_false,cond_false]
        rw [decide_eq_false ce] at hE
        generalize R8 (getD b) (F5 b 32)=I at *
        generalize encI (0 :: zI 32)=z at *
        generalize encI (getD b :: F5 b 32)=y at *
        generalize List.replicate 256 (Cell.i .u8 0)=zz at *
        exact ⟨_,by simp only [esc,esh,Nat.reduceAdd,Nat.reduceMul,Nat.reduceLT,c0,hX,hP,hz0,hI,hB,hE,haf,hZ] <;> rfl⟩
  | e + 1,i,m + 1,hi,hm=>by
    obtain ⟨h',ih⟩:=B7q (g:=g) (q:=q) hb hq e (i + 1) m (by omega) (by omega)
    have c0:(i:Int) < 32:=by omega
    have hB:(A1 b).length=256:=by rw [B5,hb]
    have ht:=B2n (b:=b) (n:=i) (by omega)
    have hX:=R6 (d:=getD b) ht
    have hA:=fun h=>A06 (h:=h) hb (a:=((32 + 2 * i:Nat):Int)) (w:=2)
    have ea:=B5j (b:=b) (a:=32 + 2 * i) (w:=2) (by omega) (by omega) (by omega)
    rw [show ((2:Nat):Int)=2 from rfl] at ea
    rw [ea] at hA
    have w1:IntKind.wrap .i64 (2 * (i:Int))=((2 * i:Nat):Int):=by rw [wrap_i64 (by omega) (by omega)];omega
    have w2:IntKind.wrap .i64 (32 + ((2 * i:Nat):Int))=((32 + 2 * i:Nat):Int):=by rw [wrap_i64 (by omega) (by omega)];omega
    have a1:=adX (id:=g.length + 2) (i:=i) (by omega)
    have hs:(encI (getD b :: F5 b i)).set (1 + i) (.i .i64 (fieldN b (32 + 2 * i) 2))=encI (getD b :: F5 b (i + 1)):=by rw [C73,C80 (by omega)];rfl
    have hlt:1 + i < (encI (getD b :: F5 b i)).length:=by rw [hX];omega
    rw [B7H]
    generalize X6 b=G at *
    generalize getD b :: F5 b 32=Y at *
    generalize encI (getD b :: F5 b (i + 1))=y1 at *
    generalize encI (getD b :: F5 b i)=y at *
    generalize encI (0 :: zI 32)=z at *
    refine ⟨h',?_⟩
    simp only [esc,esh,Nat.reduceAdd,Nat.reduceMul,Nat.reduceLT,c0,hB,w1,w2,hA,a1,hlt,hs,E2 (show i + 1 < 9223372036854775808 by omega)]
    exact ih
theorem C9a {b:List UInt8} {h:A0} (hb:b.length=256):A4W [.a (A1 b)] h=some (.t [.a (encI (bif X6 b then getD b :: F5 b 32 else 0 :: zI 32)),.c (.i .i64 (bif X6 b then 0 else 14))],h):=by
  have key:∀ N,32 < N → ∀ g,∃ g',A6R N [.a (A1 b)] g=some (.t [.a (encI (bif X6 b then getD b :: F5 b 32 else 0 :: zI 32)),.c (.i .i64 (bif X6 b then 0 else 14))],g'):=by
    intro N hN g
    have hB:(A1 b).length=256:=by rw [B5,hb]
    have hZ:(encI (0 :: zI 32)).length=33:=R6 (d:=0) O9
    have hA:=fun h=>A06 (h:=h) hb (a:=4) (w:=1)
    have ea:=B5j (b:=b) (a:=4) (w:=1) (by omega) (by omega) (by omega)
    rw [show ((4:Nat):Int)=4 from rfl,show ((1:Nat):Int)=1 from rfl] at ea
    rw [ea] at hA
    have ef:A8 (encI (0 :: zI 32)) [(0,1,.c (.i .i64 (fieldN b 4 1)))]=some (encI (getD b :: F5 b 0)):=by
      have e1:(0 + 1 ≤ (encI (0 :: zI 32)).length):=by rw [hZ];omega
      simp only [A8,cells?]
      rw [if_pos ⟨rfl,e1⟩]
      rfl
    have hX:=R6 (d:=getD b) (B2n (b:=b) (n:=0) (by omega))
    obtain ⟨h',e⟩:=B7q (g:=g) (q:=N) hb hN 32 0 N (by omega) hN
    rw [C2J,A24]
    generalize X6 b=G at *
    generalize getD b :: F5 b 32=Y at *
    generalize encI (getD b :: F5 b 0)=y at *
    generalize encI (0 :: zI 32)=z at *
    exact ⟨h',by simp only [esc,esh,Nat.reduceAdd,Nat.reduceMul,Nat.reduceLT,hB,hZ,hA,ef,hX];exact e⟩
  obtain ⟨g',e⟩:=key (h.length + 33) (by omega) (ro h)
  refine C4T e ?_
  cases X6 b <;> simp
end Go.Proofs.YteckncopbicmcaaGreat
end
section
namespace Go.Proofs.YteckncopbicmcaaGreat
open Go Go.Esc
def X4 (t:List Int) (i:Nat):Bool:=!decide (toX t i=0) && A0u t i
def H0 (t:List Int) (k:Nat):List Int:=((List.range k).filter (X4 t)).map (toX t)
theorem A7L {t:List Int} {k:Nat}:H0 t (k + 1)=H0 t k ++ (if X4 t k=true then [toX t k] else []):=by
  unfold H0
  rw [List.range_succ,List.filter_append,List.map_append,List.filter_cons]
  by_cases c:X4 t k=true <;> simp [c]
theorem B1y (t:List Int) (k:Nat):(H0 t k).length ≤ k:=by
  unfold H0;rw [List.length_map];exact Nat.le_trans (List.length_filter_le _ _) (by simp)
theorem B1C {d:Int} {t:List Int} {g:A0} {n q:Nat} (ht:t.length=32) (hn:n ≤ 32):∀ (e i m:Nat) (h:A0) (id:Nat),i + e=n → e < m → Low (g ++ [some (Row.mk (encI (d :: t)) true)]).length (g ++ [some (Row.mk (encI (d :: t)) true)]) h → (g ++ [some (Row.mk (encI (d :: t)) true)]).length ≤ id → rd h id=some ⟨encI (H0 t i),true⟩ →
    ∃ v h',A5L q m (.c (.p g.length 0)) (.c (.sl id 0 (H0 t i).length 1)) (.c (.i .i64 (n:Int))) (.c (.i .i64 (i:Int))) h=some (v,h') ∧ Out g.length h' v 1 (H0 t n).length (encI (H0 t n))
  | e,i,0,h,id,_,hm,_,_,_=>by omega
  | 0,i,m + 1,h,id,hi,hm,hlow,hid,hr=>by
    have e0:i=n:=by omega
    subst e0
    have c0:¬ (i:Int) < i:=by omega
    rw [List.length_append] at hid
    rw [B7C]
    exact ⟨_,_,by simp only [esc,c0] <;> rfl,by rw [G6];omega,_,rfl,by omega,hr⟩
  | e + 1,i,m + 1,h,id,hi,hm,hlow,hid,hr=>by
    have c0:(i:Int) < n:=by omega
    have hB:=R6 (d:=d) ht
    have hrd:rd h g.length=some ⟨encI (d :: t),true⟩:=hlow.rd (by simp)
    have s1:=G0 (h:=h) (id:=g.length) (cs:=encI (d :: t)) hrd hB
    have a1:=adX (id:=g.length) (i:=i) (by omega)
    have l1:=ldX (h:=h) (id:=g.length) hrd ht (i:=i) (by omega)
    have hFs:=fun h=>C9j (d:=d) (t:=t) (i:=i) (h:=h) ht (by omega)
    have w1:=E2 (show i + 1 < 9223372036854775808 by omega)
    have hul:=B1y t i
    rw [B7C]
    have skip:X4 t i=false → ∃ v h',A5L q m (.c (.p g.length 0)) (.c (.sl id 0 (H0 t i).length 1)) (.c (.i .i64 (n:Int))) (.c (.i .i64 ((i + 1:Nat):Int))) h=some (v,h') ∧ Out g.length h' v 1 (H0 t n).length (encI (H0 t n)):=by
      intro c
      have hu:H0 t (i + 1)=H0 t i:=by rw [A7L,c];simp
      have:=B1C (q:=q) ht hn e (i + 1) m h id (by omega) (by omega) hlow hid (by rw [hu];exact hr)
      rw [hu] at this;exact this
    by_cases cz:toX t i=0
    · obtain ⟨v,h',f1,f2⟩:=skip (by unfold X4;rw [decide_eq_true cz];rfl)
      rw [cz] at l1
      refine ⟨v,h',?_,f2⟩
      generalize encI (d :: t)=z at *
      simp only [esc,c0,a1,l1,B2u,w1]
      exact f1
    · cases cs:A0u t i with
      | false =>
        obtain ⟨v,h',f1,f2⟩:=skip (by unfold X4;rw [cs,Bool.and_false])
        rw [cs] at hFs
        refine ⟨v,h',?_,f2⟩
        generalize encI (d :: t)=z at *
        simp only [esc,c0,a1,l1,cz,s1,hFs,B2u,w1]
        exact f1
      | true =>
        rw [cs] at hFs
        have cb:X4 t i=true:=by unfold X4;rw [cs,decide_eq_false cz];rfl
        have hu:H0 t (i + 1)=H0 t i ++ [toX t i]:=by rw [A7L,if_pos cb]
        obtain ⟨h1,b1,b2,b3,b4,b5⟩:=push (ys:=[.i .i64 (toX t i)]) (sz:=1) (n:=(H0 t i).length) hlow hr (by rw [G6];omega) hid rfl (by omega) (by omega)
        have he:encI (H0 t i) ++ [.i .i64 (toX t i)]=encI (H0 t (i + 1)):=by rw [hu];simp [encI]
        rw [he] at b2
        obtain ⟨v,h',f1,f2⟩:=B1C (q:=q) ht hn e (i + 1) m h1 (h.length + 1) (by omega) (by omega) b3 b4 b2
        have hl1:(H0 t (i + 1)).length=(H0 t i).length + 1:=by rw [hu];simp
        rw [hl1] at f1
        have ef:A8 [Cell.i .i64 0] [(0,1,.c (.i .i64 (toX t i)))]=some [.i .i64 (toX t i)]:=rfl
        refine ⟨v,h',?_,f2⟩
        generalize encI (d :: t)=z at *
        simp only [esc,c0,a1,l1,cz,s1,hFs,ef,b1,B2u,w1]
        exact f1
theorem C87 {d:Int} {t:List Int} {h:A0} (ht:t.length=32):A4V [.a (encI (d :: t))] h=some (.c (.sl h.length 0 (H0 t (J1 d)).length 1),h ++ [some ⟨encI (H0 t (J1 d)),true⟩]):=by
  have key:∀ N,32 < N → ∀ g,∃ v g',A6Q N [.a (encI (d :: t))] g=some (v,g') ∧ Out g.length g' v 1 (H0 t (J1 d)).length (encI (H0 t (J1 d))):=by
    intro N hN g
    have hB:=R6 (d:=d) ht
    have hM:=fun h=>B7Q (d:=d) (h:=h) ht
    have hm:=A5T d
    obtain ⟨v,g',f1,f2⟩:=B1C (g:=g) (d:=d) (q:=N) ht hm (J1 d) 0 N (g ++ [some (Row.mk (encI (d :: t)) true),some (Row.mk [] true),some (Row.mk [] true)]) (g.length + 2) (by omega) (by omega)
      (by have:=(Low.refl (h:=g ++ [some (Row.mk (encI (d :: t)) true)]) (Nat.le_refl _)).new [some ⟨[],true⟩,some ⟨[],true⟩]
          simpa using this) (by simp) (by simp [H0,encI])
    rw [show H0 t 0=[] from rfl] at f1
    rw [C2I]
    refine ⟨v,g',?_,f2⟩
    generalize encI (d :: t)=z at *
    simp only [esc,esh,Nat.reduceAdd,Nat.reduceMul,Nat.reduceLT,hB,hM] at f1 ⊢
    exact f1
  obtain ⟨v,g',e,ho⟩:=key (h.length + 33) (by omega) (ro h)
  exact C4S e (by simpa [M9] using ho) (by simp)
def A5S (h:Nat) (b:Int):Nat:=if b < 1 then 0 else if 32 ≤ b then h else h % 2 ^ b.toNat
theorem C93 {x:Nat} {b:Int} {h:A0} (hx:x < 4294967296):A43 [.c (.i .u32 (x:Int)),.c (.i .i64 b)] h=some (.c (.i .i64 (A5S x b:Nat)),h):=by
  have key:∀ g,∃ g',A62 0 [.c (.i .u32 (x:Int)),.c (.i .i64 b)] g=some (.c (.i .i64 (A5S x b:Nat)),g'):=by
    intro g
    rw [C2W]
    unfold A5S
    by_cases c1:b < 1
    · rw [if_pos c1]
      exact ⟨_,by simp only [esc,c1] <;> rfl⟩
    · rw [if_neg c1]
      have w1:IntKind.wrap .i64 (x:Int)=(x:Int):=wrap_i64 (by omega) (by omega)
      by_cases c2:32 ≤ b
      · rw [if_pos c2]
        exact ⟨_,by simp only [esc,c1,c2,w1] <;> rfl⟩
      · rw [if_neg c2]
        obtain ⟨k,rfl⟩:∃ k:Nat,b=k:=⟨b.toNat,by omega⟩
        have hk:k < 32:=by omega
        rw [Int.toNat_natCast]
        have w2:=C1T (k:=k) (by omega)
        have hp:2 ^ k ≤ 2 ^ 31:=Nat.pow_le_pow_right (by omega) (by omega)
        have hp0:0 < 2 ^ k:=Nat.pow_pos (by omega)
        have e1:A2 .shl (.c (.i .u32 1)) (.c (.i .u64 (k:Int)))=some (.c (.i .u32 ((2 ^ k:Nat):Int))):=by
          rw [B1g (by omega)]
          have h1:Nat.min (k:Int).toNat (IntKind.u32).bits=k:=by
            have:(IntKind.u32).bits=32:=rfl
            rw [this,Int.toNat_natCast];exact Nat.min_eq_left (by omega)
          rw [h1,Int.one_mul]
          have e:(2:Int) ^ k=((2 ^ k:Nat):Int):=by simp
          rw [e]
          generalize 2 ^ k=y at hp hp0 ⊢
          rw [wrap_u32 (by omega) (by omega)]
        have w3:IntKind.wrap .u32 (((2 ^ k:Nat):Int) - 1)=((2 ^ k - 1:Nat):Int):=by rw [wrap_u32 (by omega) (by omega)];omega
        have e2:=C6O (a:=x) (b:=2 ^ k - 1) hx (by omega)
        rw [Nat.and_two_pow_sub_one_eq_mod] at e2
        have hm:x % 2 ^ k < 2 ^ k:=Nat.mod_lt _ hp0
        have w4:IntKind.wrap .i64 ((x % 2 ^ k:Nat):Int)=((x % 2 ^ k:Nat):Int):=wrap_i64 (by omega) (by omega)
        generalize 2 ^ k - 1=y at *
        generalize x % 2 ^ k=z at *
        exact ⟨_,by simp only [esc,c1,c2,w2,e1,w3,e2,w4] <;> rfl⟩
  obtain ⟨g',e⟩:=key (ro h)
  exact C5e e rfl
theorem C9f {d:Int} {t:List Int} {x:Nat} {h:A0} (ht:t.length=32) (hx:x < 4294967296):A4X [.a (encI (d :: t)),.c (.i .u32 (x:Int))] h=some (.c (.i .i64 (x % J1 d:Nat)),h):=by
  have key:∀ g,∃ g',A6S 0 [.a (encI (d :: t)),.c (.i .u32 (x:Int))] g=some (.c (.i .i64 (x % J1 d:Nat)),g'):=by
    intro g
    have hB:=R6 (d:=d) ht
    have hD:=fun h=>B2w (d:=d) (t:=t) (h:=h)
    have hL:=fun h=>C93 (x:=x) (b:=(R3 d:Nat)) (h:=h) hx
    have e:A5S x (R3 d:Nat)=x % J1 d:=by
      unfold A5S J1
      have:=A7X d
      rw [Int.toNat_natCast]
      by_cases c:((R3 d:Nat):Int) < 1
      · have:R3 d=0:=by omega
        rw [if_pos c,this];simp [Nat.mod_one]
      · rw [if_neg c,if_neg (by omega)]
    rw [e] at hL
    rw [C2K]
    generalize encI (d :: t)=y at *
    exact ⟨_,by simp only [esc,esh,Nat.reduceAdd,Nat.reduceMul,Nat.reduceLT,hB,hD,hL] <;> rfl⟩
  obtain ⟨g',e⟩:=key (ro h)
  exact C4V e rfl
end Go.Proofs.YteckncopbicmcaaGreat
end
section
namespace Go.Proofs.YteckncopbicmcaaGreat
open Go Go.Esc
def V3 (D:Dev) (n k:Int) (d:List Int):Bool:=decide (k=2) && P8 D.length n (d.getD 0 0) && X6 (blk D (d.getD 0 0))
def R9 (D:Dev) (n k:Int) (d:List Int):List Int:=bif V3 D n k d then getD (blk D (d.getD 0 0)) :: F5 (blk D (d.getD 0 0)) 32 else 0 :: zI 32
theorem B2o (b:List UInt8):(F5 b 32).length=32:=by simp [F5,zI]
theorem B7w (D:Dev) (n k:Int) (d:List Int):∃ x t,R9 D n k d=x :: t ∧ t.length=32:=by
  unfold R9
  cases V3 D n k d with
  | false=>exact ⟨_,_,rfl,O9⟩
  | true=>exact ⟨_,_,rfl,B2o _⟩
theorem B7x (D:Dev) (n k:Int) (d:List Int):(encI (R9 D n k d)).length=33:=by
  obtain ⟨x,t,e,h⟩:=B7w D n k d
  rw [e,G6];simp [h]
theorem B66 {D:Dev} {n m k l s p:Int} {d:List Int} {f:Cell} {h:A0} (hD:okD D) (hd:d.length=7) (hv:IsView h f D) :
    A13 [.a (vwC D.length n m f),.a (A5 k l s p d)] h=some (.t [.a (encI (R9 D n k d)),.c (.b (V3 D n k d))],h):=by
  have key:∀ g,IsView g f D → ∃ g',A6F 0 [.a (vwC D.length n m f),.a (A5 k l s p d)] g=some (.t [.a (encI (R9 D n k d)),.c (.b (V3 D n k d))],g'):=by
    intro g hv
    have l3:=A3R (b:=D.length) (n:=n) (m:=m) (f:=f)
    have l4:=A21 (b:=D.length) (n:=n) (m:=m) (f:=f)
    have i0:(A5 k l s p d)[0]? = some (.i .i64 k):=rfl
    have i4:(A5 k l s p d)[4]? = some (.i .i64 (d.getD 0 0)):=by
      have:(A5 k l s p d)[4]? = (encI d)[0]? := rfl
      rw [this,R5,List.getElem?_eq_getElem (by omega),List.getD_eq_getElem?_getD,List.getElem?_eq_getElem (by omega)];rfl
    have ad:∀ q,E1 6 1 (.c (.p q 4)) (.c (.i .i64 0))=some (.c (.p q 4)):=fun q=>rfl
    have hz:(encI (0 :: zI 32)).length=33:=R6 (d:=0) O9
    have ef:A8 (encI (0 :: zI 32)) []=some (encI (0 :: zI 32)):=rfl
    have n12:¬ (14:Int)=0:=by decide
    rw [C2w,A24]
    unfold R9 V3
    by_cases c1:k=2
    · have hI:=fun h=>A5H (b:=D.length) (n:=n) (m:=m) (i:=d.getD 0 0) (h:=h)
      cases c2:P8 D.length n (d.getD 0 0) with
      | false =>
        simp only [c2] at hI
        simp only [Bool.and_false,Bool.false_and,cond_false]
        generalize vwC D.length n m f=V at *
        generalize A5 k l s p d=I at *
        generalize encI (0 :: zI 32)=z at *
        exact ⟨_,by simp only [esc,esh,Nat.reduceAdd,Nat.reduceMul,Nat.reduceLT,eq_self,i0,c1,l3,ad,i4,hI,hz,ef] <;> rfl⟩
      | true =>
        simp only [c2] at hI
        have hB:=A3Q (n:=n) (m:=m) (no:=d.getD 0 0) (h:=g ++ [some (Row.mk (vwC D.length n m f) true),some (Row.mk (A5 k l s p d) true),some (Row.mk (encI (0 :: zI 32)) true)]) hD (hv.more _)
        have hG:=fun h=>C9a (h:=h) (A0X hD (i:=d.getD 0 0))
        have hX:(encI (getD (blk D (d.getD 0 0)) :: F5 (blk D (d.getD 0 0)) 32)).length=33:=R6 (B2o _)
        rw [decide_eq_true c1,Bool.true_and,Bool.true_and]
        cases c3:X6 (blk D (d.getD 0 0)) with
        | false =>
          simp only [c3,cond_false] at hG
          rw [cond_false]
          generalize encI (getD (blk D (d.getD 0 0)) :: F5 (blk D (d.getD 0 0)) 32)=x at *
          generalize A1 (blk D (d.getD 0 0))=y at *
          generalize vwC D.length n m f=V at *
          generalize A5 k l s p d=I at *
          generalize encI (0 :: zI 32)=z at *
          exact ⟨_,by simp only [esc,esh,Nat.reduceAdd,Nat.reduceMul,Nat.reduceLT,eq_self,i0,c1,l3,l4,ad,i4,hI,hB,hG,hz,hX,ef,n12] <;> rfl⟩
        | true =>
          simp only [c3,cond_true] at hG
          rw [cond_true]
          generalize encI (getD (blk D (d.getD 0 0)) :: F5 (blk D (d.getD 0 0)) 32)=x at *
          generalize A1 (blk D (d.getD 0 0))=y at *
          generalize vwC D.length n m f=V at *
          generalize A5 k l s p d=I at *
          generalize encI (0 :: zI 32)=z at *
          exact ⟨_,by simp only [esc,esh,Nat.reduceAdd,Nat.reduceMul,Nat.reduceLT,eq_self,i0,c1,l3,l4,ad,i4,hI,hB,hG,hz,hX,ef,n12] <;> rfl⟩
    · rw [decide_eq_false c1,Bool.false_and,Bool.false_and,cond_false]
      generalize vwC D.length n m f=V at *
      generalize A5 k l s p d=I at *
      generalize encI (0 :: zI 32)=z at *
      exact ⟨_,by simp only [esc,esh,Nat.reduceAdd,Nat.reduceMul,Nat.reduceLT,eq_self,i0,c1,hz,ef] <;> rfl⟩
  obtain ⟨g',e⟩:=key (ro h) hv.ro
  exact C4y e (by simp [Val.flat,Cell.flat])
def J5 (D:Dev) (n k:Int) (d:List Int):List Int:=bif V3 D n k d then (H0 (F5 (blk D (d.getD 0 0)) 32) (J1 (getD (blk D (d.getD 0 0))))).filter (P8 D.length n) else []
theorem B1D {D:Dev} {n m:Int} {f:Cell} {g:A0} {p q sid:Nat} {L:List Int} (h1:rd g p=some ⟨vwC D.length n m f,true⟩) (hL:L.length ≤ 32):∀ (e i M id:Nat) (h:A0) (l:List Int),i + e=L.length → e < M → l.length ≤ i → Low g.length g h → g.length ≤ id → id ≠ sid → rd h sid=some ⟨encI L,true⟩ → rd h id=some ⟨encI l,true⟩ →
    ∃ v' h',A8p q M (.c (.p p 0)) (.c (.sl id 0 l.length 1)) (.c (.sl sid 0 L.length 1)) (.c (.i .i64 (L.length:Int))) (.c (.i .i64 (i:Int))) h=some (v',h') ∧ Out g.length h' v' 1 (l ++ (L.drop i).filter (P8 D.length n)).length (encI (l ++ (L.drop i).filter (P8 D.length n)))
  | e,i,0,id,h,l,_,hm,_,_,_,_,_,_=>by omega
  | 0,i,M + 1,id,h,l,hi,hm,hl,hlow,hid,hne,hs,hr=>by
    have e0:i=L.length:=by omega
    subst e0
    have c0:¬ ((L.length:Nat):Int) < (L.length:Nat):=by omega
    rw [B65,List.drop_of_length_le (Nat.le_refl _),List.filter_nil,List.append_nil]
    exact ⟨_,_,by simp only [esc,c0] <;> rfl,by rw [G6,Nat.mul_one],id,rfl,hid,hr⟩
  | e + 1,i,M + 1,id,h,l,hi,hm,hl,hlow,hid,hne,hs,hr=>by
    have hil:i < L.length:=by omega
    have c0:(i:Int) < (L.length:Nat):=by omega
    have ad:B7 1 (.c (.sl sid 0 L.length 1)) (.c (.i .i64 (i:Int)))=some (.c (.p sid i)):=by rw [G8 hil];simp
    have l1:A3 h (.c (.p sid i))=some (.c (.i .i64 L[i])):=D8 hs (by rw [R5,List.getElem?_eq_getElem hil];rfl) rfl
    have fa:A7 (.c (.p p 0)) 0=some (.c (.p p 0)):=rfl
    have l3:A4 h 3 (.c (.p p 0))=some (.a (G7 D.length n m)):=by rw [A3C (hlow.rd h1) (by simp [vwC]) rfl];rfl
    have hI:=A5H (b:=D.length) (n:=n) (m:=m) (i:=L[i]) (h:=h)
    have w1:=E2 (show i + 1 < 9223372036854775808 by omega)
    rw [B65,List.drop_eq_getElem_cons hil]
    cases c:P8 D.length n L[i] with
    | false =>
      rw [c] at hI
      obtain ⟨v',h',f1,f2⟩:=B1D (q:=q) h1 hL e (i + 1) M id h l (by omega) (by omega) (by omega) hlow hid hne hs hr
      rw [List.filter_cons_of_neg (by rw [c];simp)]
      refine ⟨v',h',?_,f2⟩
      simp only [B9,D7,c0,decide_true,F6,ad,l1,fa,l3,hI,F1,B64,I0,w1]
      exact f1
    | true =>
      rw [c] at hI
      have ef:A8 [Cell.i .i64 0] [(0,1,.c (.i .i64 L[i]))]=some (encI [L[i]]):=rfl
      obtain ⟨h2,a1,a2,a3,a4⟩:=A1G (n:=l.length) (sz:=1) (ys:=encI [L[i]]) hr (by rw [G6,Nat.mul_one]) rfl (by omega) (by omega)
      rw [← A5A] at a2
      have el:(l ++ [L[i]]).length=l.length + 1:=by simp
      have hlt:=B8 hs
      obtain ⟨v',h',f1,f2⟩:=B1D (q:=q) h1 hL e (i + 1) M (h.length + 1) h2 (l ++ [L[i]]) (by omega) (by omega) (by rw [el];omega) (hlow.trans (a4 _ hid (by have:=hlow.2.1;omega))) (by have:=hlow.2.1;omega) (by omega) (a3 _ _ (Ne.symm hne) hs) a2
      rw [List.filter_cons_of_pos (by rw [c])]
      rw [List.append_assoc,List.singleton_append] at f2
      rw [el] at f1
      refine ⟨v',h',?_,f2⟩
      simp only [B9,D7,c0,decide_true,F6,ad,l1,fa,l3,hI,ef,a1,B64,I0,w1]
      exact f1
theorem C8M {D:Dev} {n m k l s p:Int} {d:List Int} {f:Cell} {h:A0} (hD:okD D) (hd:d.length=7) (hv:IsView h f D) :
    A4N [.a (vwC D.length n m f),.a (A5 k l s p d)] h=some (.c (.sl h.length 0 (J5 D n k d).length 1),h ++ [some ⟨encI (J5 D n k d),true⟩]):=by
  have key:∀ g,IsView g f D → ∃ v g',A6E 33 [.a (vwC D.length n m f),.a (A5 k l s p d)] g=some (v,g') ∧ Out g.length g' v 1 (J5 D n k d).length (encI (J5 D n k d)):=by
    intro g hv
    have hIl:(A5 k l s p d).length=11:=by simp [A5,G6,hd]
    have l11:ldN (some (Row.mk (A5 k l s p d) true)) 0 11=some (.a (A5 k l s p d)):=Q0 hIl
    have l4:=A21 (b:=D.length) (n:=n) (m:=m) (f:=f)
    have hz:(encI (0 :: zI 32)).length=33:=R6 (d:=0) O9
    have hX:=B7x D n k d
    have hI:=B66 (n:=n) (m:=m) (k:=k) (l:=l) (s:=s) (p:=p) (h:=g ++ [some (Row.mk (vwC D.length n m f) true),some (Row.mk (A5 k l s p d) true),some (Row.mk [] true)]) hD hd (hv.more _)
    rw [C2v,A24]
    cases c:V3 D n k d with
    | false =>
      rw [c] at hI
      have eb:J5 D n k d=[]:=by unfold J5;rw [c];rfl
      rw [eb]
      generalize encI (R9 D n k d)=x at *
      generalize encI (0 :: zI 32)=z at *
      refine ⟨.c (.sl (g.length + 4) 0 0 1),g ++ [some (Row.mk (vwC D.length n m f) true),some (Row.mk (A5 k l s p d) true),some (Row.mk [] true),some (Row.mk x true),some (Row.mk [] true)],?_,rfl,g.length + 4,rfl,by omega,by simp [encI]⟩
      generalize vwC D.length n m f=V at *
      generalize A5 k l s p d=I at *
      simp only [esc,esh,Nat.reduceAdd,Nat.reduceMul,Nat.reduceLT,l4,l11,hI,hz,hX]
    | true =>
      rw [c] at hI
      have eb:J5 D n k d=(H0 (F5 (blk D (d.getD 0 0)) 32) (J1 (getD (blk D (d.getD 0 0))))).filter (P8 D.length n):=by unfold J5;rw [c];rfl
      have ex:R9 D n k d=getD (blk D (d.getD 0 0)) :: F5 (blk D (d.getD 0 0)) 32:=by unfold R9;rw [c];rfl
      rw [ex] at hI hX
      have hB:=fun h=>C87 (d:=getD (blk D (d.getD 0 0))) (h:=h) (B2o (blk D (d.getD 0 0)))
      have hBl:=B1y (F5 (blk D (d.getD 0 0)) 32) (J1 (getD (blk D (d.getD 0 0))))
      have hml:=A5T (getD (blk D (d.getD 0 0)))
      rw [eb]
      generalize H0 (F5 (blk D (d.getD 0 0)) 32) (J1 (getD (blk D (d.getD 0 0))))=L at *
      generalize encI (getD (blk D (d.getD 0 0)) :: F5 (blk D (d.getD 0 0)) 32)=x at *
      generalize encI (0 :: zI 32)=z at *
      obtain ⟨v',h',f1,f2⟩:=B1D (D:=D) (n:=n) (m:=m) (f:=f) (g:=g ++ [some (Row.mk (vwC D.length n m f) true),some (Row.mk (A5 k l s p d) true),some (Row.mk [] true),some (Row.mk x true)]) (p:=g.length) (q:=33) (sid:=g.length + 5) (L:=L) (by simp) (by omega) L.length 0 33 (g.length + 4) (g ++ [some (Row.mk (vwC D.length n m f) true),some (Row.mk (A5 k l s p d) true),some (Row.mk [] true),some (Row.mk x true),some (Row.mk [] true),some (Row.mk (encI L) true)]) [] (by omega) (by omega) (by simp)
        (by
          have:=(Low.refl (h:=g ++ [some (Row.mk (vwC D.length n m f) true),some (Row.mk (A5 k l s p d) true),some (Row.mk [] true),some (Row.mk x true)]) (Nat.le_refl _)).new [some (Row.mk [] true),some (Row.mk (encI L) true)]
          simpa using this) (by simp) (by omega) (by simp) (by simp [encI])
      rw [List.nil_append,List.drop_zero] at f2
      rw [List.length_nil] at f1
      refine ⟨v',h',?_,f2.1,?_⟩
      · generalize vwC D.length n m f=V at *
        generalize A5 k l s p d=I at *
        simp only [esc,esh,Nat.reduceAdd,Nat.reduceMul,Nat.reduceLT,l4,l11,hI,hz,hX,hB]
        exact f1
      · obtain ⟨id,e,hb,hr⟩:=f2.2
        exact ⟨id,e,by simp at hb;omega,hr⟩
  obtain ⟨v,g',e,ho⟩:=key (ro h) hv.ro
  exact C4x e (by simpa [M9] using ho) (by simp)
end Go.Proofs.YteckncopbicmcaaGreat
end
noncomputable section
namespace Go.Proofs.YteckncopbicmcaaGreat
open Go Go.Esc
set_option maxRecDepth 100000
def B8I:ACode:=.seq [0,21,22,23] (.ops [aO 23 (.bin .lss (.t 22) (.t 21))]) (.seq [0,21,22] (.cond (.t 23) .skip (.exit 0)) (.seq [0,21,22] (.block 1 (.seq [0,3,21,22] (.ops [aO 24 (.mv (.t 22)),aO 3 (.mv (.t 24))]) (.seq [0,21,22,34] (.ops [aO 25 (.mv (.t 0)),aO 26 (.mv (.t 3)),aO 27 (.idxS (.t 25) (.t 26)),aO 28 (.bin .eql (.t 27) (.v (.c (.i .u8 0)))),aO 29 (.mv (.t 28)),aG 30 29 false (.mv (.t 0)),aG 31 29 false (.mv (.t 3)),aG 32 29 false (.idxS (.t 30) (.t 31)),aG 33 29 false (.bin .eql (.t 32) (.v (.c (.i .u8 47)))),aO 34 (.pick (.t 29) (.v (.c (.b true))) (.t 33))]) (.cond (.t 34) (.seq [2] (.ops [aO 2 (.mv (.v (.c (.i .i64 3))))]) .ret) .skip)))) (.ops [aO 35 (.bin .add (.t 22) (.v (.c (.i .i64 1)))),aO 22 (.mv (.t 35))])))
def B8J:ACode:=.seq [2] (.ops [aO 2 (.mv (.v (.c (.i .i64 0))))]) .ret
def A_name_Check:AFn:=⟨.seq [0] (.ops [aO 2 (.mv (.v (.c (.i .i64 0))))]) (.seq [0] (.seq [0,19] (.ops [aO 4 (.mv (.t 0)),aO 5 (.lenS (.t 4)),aO 6 (.bin .lss (.t 5) (.v (.c (.i .i64 1)))),aO 7 (.mv (.t 6)),aG 8 7 false (.mv (.t 0)),aG 9 7 false (.lenS (.t 8)),aG 10 7 false (.bin .gtr (.t 9) (.v (.c (.i .i64 24)))),aO 11 (.pick (.t 7) (.v (.c (.b true))) (.t 10)),aO 12 (.mv (.t 11)),aG 13 12 false (.mv (.t 0)),aG 14 12 false (.bin .eql (.t 13) (.v (.c (.s [46])))),aO 15 (.pick (.t 12) (.v (.c (.b true))) (.t 14)),aO 16 (.mv (.t 15)),aG 17 16 false (.mv (.t 0)),aG 18 16 false (.bin .eql (.t 17) (.v (.c (.s [46,46])))),aO 19 (.pick (.t 16) (.v (.c (.b true))) (.t 18))]) (.cond (.t 19) (.seq [2] (.ops [aO 2 (.mv (.v (.c (.i .i64 3))))]) .ret) .skip)) (.seq [] (.seq [0,21,22] (.ops [aO 20 (.mv (.t 0)),aO 21 (.lenS (.t 20)),aO 22 (.mv (.v (.c (.i .i64 0))))]) (.block 0 (.loop [0,21,22] B8I))) B8J)),[.tmp 2]⟩
def A4c:B0:=C0
def C97 (n:Nat):A9 (Val × A0):=E4 [] (ax A4c n B8J) A_name_Check.fin
def C98 (n:Nat):A9 (Val × A0):=D6 0 (C97 n)
def A8U (n m:Nat) (x0 x21 x22:Val) (h:A0):A6:=C6 (ax A4c n B8I) [0,21,22] (C98 n) m [(0,x0),(21,x21),(22,x22)] h
def B0Y (n:Nat) (args:List Val) (h:A0):A6:=ax A4c n A_name_Check.code A_name_Check.fin (params 0 args) h
theorem C2Z (n:Nat) (a0:Val) (h:A0):B0Y n [a0] h=bnd (T7 a0) fun v1=>bnd (A2 .lss v1 (.c (.i .i64 1))) fun v2=>bnd (gd v2 false (some (a0,h)) (some (.no,h))) fun p3=>bnd (gd v2 false (bnd (T7 p3.1) fun v4=>some (v4,p3.2)) (some (.no,p3.2))) fun p5=>bnd (gd v2 false (bnd (A2 .gtr p5.1 (.c (.i .i64 24))) fun v6=>some (v6,p5.2)) (some (.no,p5.2))) fun p7=>bnd (C4 v2 (.c (.b true)) p7.1) fun v8=>bnd (gd v8 false (some (a0,p7.2)) (some (.no,p7.2))) fun p9=>bnd (gd v8 false (bnd (A2 .eql p9.1 (.c (.s [46]))) fun v10=>some (v10,p9.2)) (some (.no,p9.2))) fun p11=>bnd (C4 v8 (.c (.b true)) p11.1) fun v12=>bnd (gd v12 false (some (a0,p11.2)) (some (.no,p11.2))) fun p13=>bnd (gd v12 false (bnd (A2 .eql p13.1 (.c (.s [46,46]))) fun v14=>some (v14,p13.2)) (some (.no,p13.2))) fun p15=>bnd (C4 v12 (.c (.b true)) p15.1) fun v16=>cnd v16 (some ((.c (.i .i64 3)),p15.2)) (bnd (T7 a0) fun v17=>A8U n n a0 v17 (.c (.i .i64 0)) p15.2):=by kernel_rfl
theorem B8K (n m:Nat) (x0 x21 x22:Val) (h:A0):A8U n (m + 1) x0 x21 x22 h=bnd (A2 .lss x22 x21) fun v18=>cnd v18 (bnd (U7 x0 x22) fun v19=>bnd (A2 .eql v19 (.c (.i .u8 0))) fun v20=>bnd (gd v20 false (some (x0,h)) (some (.no,h))) fun p21=>bnd (gd v20 false (some (x22,p21.2)) (some (.no,p21.2))) fun p22=>bnd (gd v20 false (bnd (U7 p21.1 p22.1) fun v23=>some (v23,p22.2)) (some (.no,p22.2))) fun p24=>bnd (gd v20 false (bnd (A2 .eql p24.1 (.c (.i .u8 47))) fun v25=>some (v25,p24.2)) (some (.no,p24.2))) fun p26=>bnd (C4 v20 (.c (.b true)) p26.1) fun v27=>cnd v27 (some ((.c (.i .i64 3)),p26.2)) (bnd (A2 .add x22 (.c (.i .i64 1))) fun v28=>A8U n m x0 x21 v28 p26.2)) (some ((.c (.i .i64 0)),h)):=by kernel_rfl
theorem K_name_Check:FnK Tryz.prog 250 A_name_Check A4c B0Y:=.mk' (C2) Tryz.func250 (by kernel_rfl) (fun _ _ _=>C1)
def A2b:Fun:=tidy (Lim A_name_Check A4c)
theorem B4u:SOk Tryz.prog 250 A2b:=K_name_Check.sok
theorem C5j:C9 B0Y A2b:=K_name_Check.flat
def B8L:ACode:=.seq [0,2,4,18,19,20] (.ops [aO 20 (.bin .lss (.t 19) (.t 18))]) (.seq [0,2,4,18,19] (.cond (.t 20) .skip (.exit 0)) (.seq [0,2,4,18,19] (.block 1 (.seq [0,2,4,6,18,19] (.ops [aO 21 (.mv (.t 19)),aO 6 (.mv (.t 21))]) (.ops [aO 22 (.mv (.t 6)),aO 23 (.bin .add (.v (.c (.i .i64 1))) (.t 22)),aO 24 (.mv (.t 0)),aO 25 (.mv (.t 6)),aO 26 (.idxS (.t 24) (.t 25)),aO 27 (.iAddrA 25 1 (.t 4) (.t 23)),aN (.store1 (.t 27) (.t 26))]))) (.ops [aO 28 (.bin .add (.t 19) (.v (.c (.i .i64 1)))),aO 19 (.mv (.t 28))])))
def B8M:ACode:=.seq [2,3] (.ops [aO 29 (.loadN 25 (.t 4)),aN (.storeN 25 (.t 2) (.t 29)),aO 3 (.mv (.v (.c (.i .i64 0))))]) .ret
def A_name_Pack:AFn:=⟨.seq [0,2] (.ops [aO 2 (.alloc (List.replicate 25 (.i .u8 0))),aO 3 (.mv (.v (.c (.i .i64 0))))]) (.seq [0,2,4] (.ops [aO 4 (.alloc (List.replicate 25 (.i .u8 0)))]) (.seq [0,2,4] (.seq [0,2,4,5] (.ops [aO 7 (.mv (.t 0)),aO 8 (.call 250 [(.t 7)]),aO 5 (.mv (.t 8))]) (.seq [0,2,4,5,10] (.ops [aO 9 (.mv (.t 5)),aO 10 (.bin .neq (.t 9) (.v (.c (.i .i64 0))))]) (.cond (.t 10) (.seq [2,3] (.ops [aO 11 (.loadN 25 (.t 4)),aO 12 (.mv (.t 5)),aN (.storeN 25 (.t 2) (.t 11)),aO 3 (.mv (.t 12))]) .ret) .skip))) (.seq [0,2,4] (.ops [aO 13 (.mv (.t 0)),aO 14 (.lenS (.t 13)),aO 15 (.conv .u8 (.t 14)),aO 16 (.iAddrA 25 1 (.t 4) (.v (.c (.i .i64 0)))),aN (.store1 (.t 16) (.t 15))]) (.seq [2,4] (.seq [0,2,4,18,19] (.ops [aO 17 (.mv (.t 0)),aO 18 (.lenS (.t 17)),aO 19 (.mv (.v (.c (.i .i64 0))))]) (.block 0 (.loop [0,2,4,18,19] B8L))) B8M)))),[.cellN 2 25,.tmp 3]⟩
def A4d:B0:=B1 250 A2b C0
def D0a (n:Nat):A9 (Val × A0):=E4 [2,4] (ax A4d n B8M) A_name_Pack.fin
def D0b (n:Nat):A9 (Val × A0):=D6 0 (D0a n)
def A8V (n m:Nat) (x0 x2 x4 x18 x19:Val) (h:A0):A6:=C6 (ax A4d n B8L) [0,2,4,18,19] (D0b n) m [(0,x0),(2,x2),(4,x4),(18,x18),(19,x19)] h
def A63 (n:Nat) (args:List Val) (h:A0):A6:=ax A4d n A_name_Pack.code A_name_Pack.fin (params 0 args) h
theorem C21 (n:Nat) (a0:Val) (h:A0):A63 n [a0] h=bnd (A2b [a0] ((h ++ [some (Row.mk (List.replicate 25 (.i .u8 0)) true)]) ++ [some (Row.mk (List.replicate 25 (.i .u8 0)) true)])) fun p1=>bnd (A2 .neq p1.1 (.c (.i .i64 0))) fun v2=>cnd v2 (bnd (A4 p1.2 25 (.c (.p (h ++ [some (Row.mk (List.replicate 25 (.i .u8 0)) true)]).length 0))) fun v3=>bnd (B4 p1.2 25 (.c (.p h.length 0)) v3) fun h4=>D3 [A4 h4 25 (.c (.p h.length 0)),some p1.1] h4) (bnd (T7 a0) fun v5=>bnd (L6 .u8 v5) fun v6=>bnd (E1 25 1 (.c (.p (h ++ [some (Row.mk (List.replicate 25 (.i .u8 0)) true)]).length 0)) (.c (.i .i64 0))) fun v7=>bnd (E7 p1.2 v7 v6) fun h8=>bnd (T7 a0) fun v9=>A8V n n a0 (.c (.p h.length 0)) (.c (.p (h ++ [some (Row.mk (List.replicate 25 (.i .u8 0)) true)]).length 0)) v9 (.c (.i .i64 0)) h8):=by kernel_rfl
theorem B8N (n m:Nat) (x0 x2 x4 x18 x19:Val) (h:A0):A8V n (m + 1) x0 x2 x4 x18 x19 h=bnd (A2 .lss x19 x18) fun v10=>cnd v10 (bnd (A2 .add (.c (.i .i64 1)) x19) fun v11=>bnd (U7 x0 x19) fun v12=>bnd (E1 25 1 x4 v11) fun v13=>bnd (E7 h v13 v12) fun h14=>bnd (A2 .add x19 (.c (.i .i64 1))) fun v15=>A8V n m x0 x2 x4 x18 v15 h14) (bnd (A4 h 25 x4) fun v16=>bnd (B4 h 25 x2 v16) fun h17=>D3 [A4 h17 25 x2,some (.c (.i .i64 0))] h17):=by kernel_rfl
theorem K_name_Pack:FnK Tryz.prog 251 A_name_Pack A4d A63:=.mk' (B3 B4u C2) Tryz.func251 (by kernel_rfl) (fun _ _ _=>C1)
def A2c:Fun:=tidy (Lim A_name_Pack A4d)
theorem B4v:SOk Tryz.prog 251 A2c:=K_name_Pack.sok
theorem C5m:C9 A63 A2c:=K_name_Pack.flat
def A_name_Unpack:AFn:=⟨.seq [1] (.ops [aO 1 (.box (.t 0)),aO 2 (.mv (.v (.c (.s [])))),aO 3 (.mv (.v (.c (.i .i64 0))))]) (.seq [1,4] (.ops [aO 8 (.iAddrA 25 1 (.t 1) (.v (.c (.i .i64 0)))),aO 9 (.load1 (.t 8)),aO 10 (.conv .i64 (.t 9)),aO 4 (.mv (.t 10))]) (.seq [1,4] (.seq [1,4,12] (.ops [aO 11 (.mv (.t 4)),aO 12 (.bin .gtr (.t 11) (.v (.c (.i .i64 24))))]) (.cond (.t 12) (.seq [2,3] (.ops [aO 2 (.mv (.v (.c (.s [])))),aO 3 (.mv (.v (.c (.i .i64 3))))]) .ret) .skip)) (.seq [1,5] (.ops [aO 13 (.mv (.t 4)),aO 14 (.bin .add (.v (.c (.i .i64 1))) (.t 13)),aO 15 (.slA 25 1 (.t 1) (some (.v (.c (.i .i64 1)))) (some (.t 14))),aO 16 (.b2s (.t 15)),aO 5 (.mv (.t 16))]) (.seq [5] (.seq [1,5,6,7] (.ops [aO 18 (.mv (.t 5)),aO 19 (.call 251 [(.t 18)]),aO 17 (.mv (.t 19)),aO 20 (.ext (.t 17) 0),aO 21 (.ext (.t 17) 1),aO 6 (.alloc (List.replicate 25 (.i .u8 0))),aN (.storeN 25 (.t 6) (.t 20)),aO 7 (.mv (.t 21))]) (.seq [5,28] (.ops [aO 22 (.mv (.t 7)),aO 23 (.bin .neq (.t 22) (.v (.c (.i .i64 0)))),aO 24 (.mv (.t 23)),aG 25 24 false (.loadN 25 (.t 6)),aG 26 24 false (.loadN 25 (.t 1)),aG 27 24 false (.eqA true (List.replicate 25 (.i .u8)) (.t 25) (.t 26)),aO 28 (.pick (.t 24) (.v (.c (.b true))) (.t 27))]) (.cond (.t 28) (.seq [2,3] (.ops [aO 2 (.mv (.v (.c (.s [])))),aO 3 (.mv (.v (.c (.i .i64 3))))]) .ret) .skip))) (.seq [2,3] (.ops [aO 29 (.mv (.t 5)),aO 2 (.mv (.t 29)),aO 3 (.mv (.v (.c (.i .i64 0))))]) .ret))))),[.tmp 2,.tmp 3]⟩
def B0m:B0:=B1 251 A2c C0
def A66 (n:Nat) (args:List Val) (h:A0):A6:=ax B0m n A_name_Unpack.code A_name_Unpack.fin (params 0 args) h
theorem C24 (n:Nat) (a0:Val) (h:A0):A66 n [a0] h=bnd (cells? a0) fun c1=>bnd (E1 25 1 (.c (.p h.length 0)) (.c (.i .i64 0))) fun v2=>bnd (A3 (h ++ [some (Row.mk (c1) true)]) v2) fun v3=>bnd (L6 .i64 v3) fun v4=>bnd (A2 .gtr v4 (.c (.i .i64 24))) fun v5=>cnd v5 (D3 [some (.c (.s [])),some (.c (.i .i64 3))] (h ++ [some (Row.mk (c1) true)])) (bnd (A2 .add (.c (.i .i64 1)) v4) fun v6=>bnd (X3 (h ++ [some (Row.mk (c1) true)]) 25 1 (.c (.p h.length 0)) (some (.c (.i .i64 1))) (some v6)) fun v7=>bnd (N8 (h ++ [some (Row.mk (c1) true)]) v7) fun v8=>bnd (A2c [v8] (h ++ [some (Row.mk (c1) true)])) fun p9=>bnd (C5 p9.1 0) fun v10=>bnd (C5 p9.1 1) fun v11=>bnd (B4 (p9.2 ++ [some (Row.mk (List.replicate 25 (.i .u8 0)) true)]) 25 (.c (.p p9.2.length 0)) v10) fun h12=>bnd (A2 .neq v11 (.c (.i .i64 0))) fun v13=>bnd (gd v13 false (bnd (A4 h12 25 (.c (.p p9.2.length 0))) fun v14=>some (v14,h12)) (some (.no,h12))) fun p15=>bnd (gd v13 false (bnd (A4 p15.2 25 (.c (.p h.length 0))) fun v16=>some (v16,p15.2)) (some (.no,p15.2))) fun p17=>bnd (gd v13 false (bnd (aeq true (List.replicate 25 (.i .u8)) p15.1 p17.1) fun v18=>some (v18,p17.2)) (some (.no,p17.2))) fun p19=>bnd (C4 v13 (.c (.b true)) p19.1) fun v20=>cnd v20 (D3 [some (.c (.s [])),some (.c (.i .i64 3))] p19.2) (D3 [some v8,some (.c (.i .i64 0))] p19.2)):=by kernel_rfl
theorem K_name_Unpack:FnK Tryz.prog 253 A_name_Unpack B0m A66:=.mk' (B3 B4v C2) Tryz.func253 (by kernel_rfl) (fun _ _ _=>C1)
def A46:Fun:=tidy (Lim A_name_Unpack B0m)
theorem C5r:SOk Tryz.prog 253 A46:=K_name_Unpack.sok
theorem C5q:C9 A66 A46:=K_name_Unpack.flat
def A_name_Less:AFn:=⟨.seq [0,1] (.ops [aO 4 (.mv (.v (.c (.b false))))]) (.seq [4] (.ops [aO 5 (.mv (.t 0)),aO 6 (.mv (.t 1)),aO 7 (.bin .lss (.t 5) (.t 6)),aO 4 (.mv (.t 7))]) .ret),[.tmp 4]⟩
def B0l:B0:=C0
def B0Z (n:Nat) (args:List Val) (h:A0):A6:=ax B0l n A_name_Less.code A_name_Less.fin (params 0 args) h
theorem C20 (n:Nat) (a0 a1:Val) (h:A0):B0Z n [a0,a1] h=bnd (A2 .lss a0 a1) fun v1=>some (v1,h):=by kernel_rfl
theorem K_name_Less:FnK Tryz.prog 227 A_name_Less B0l B0Z:=.mk' (C2) Tryz.func227 (by kernel_rfl) (fun _ _ _=>C1)
def A45:Fun:=tidy (Lim A_name_Less B0l)
theorem C5l:SOk Tryz.prog 227 A45:=K_name_Less.sok
theorem C5k:C9 B0Z A45:=K_name_Less.flat
def B8O:ACode:=.seq [0,1,6,7] (.seq [0,1,6,7,13] (.ops [aO 11 (.mv (.t 6)),aO 12 (.mv (.t 7)),aO 13 (.bin .lss (.t 11) (.t 12))]) (.cond (.t 13) .skip (.exit 0))) (.block 1 (.seq [0,1,6,7,8] (.ops [aO 14 (.mv (.t 6)),aO 15 (.mv (.t 7)),aO 16 (.mv (.t 6)),aO 17 (.bin .sub (.t 15) (.t 16)),aO 18 (.bin .quo (.t 17) (.v (.c (.i .i64 2)))),aO 19 (.bin .add (.t 14) (.t 18)),aO 8 (.mv (.t 19))]) (.seq [0,1,6,7,8,25] (.ops [aO 20 (.mv (.t 0)),aO 21 (.mv (.t 8)),aO 22 (.iAddrL 1 (.t 20) (.t 21)),aO 23 (.load1 (.t 22)),aO 24 (.mv (.t 1)),aO 25 (.call 227 [(.t 23),(.t 24)])]) (.cond (.t 25) (.ops [aO 26 (.mv (.t 8)),aO 27 (.bin .add (.t 26) (.v (.c (.i .i64 1)))),aO 6 (.mv (.t 27))]) (.ops [aO 28 (.mv (.t 8)),aO 7 (.mv (.t 28))])))))
def B8P:ACode:=.seq [4,5] (.draw 0 [aO 29 (.mv (.t 6)),aO 30 (.mv (.t 6)),aO 31 (.mv (.t 0)),aO 32 (.len (.t 31)),aO 33 (.bin .lss (.t 30) (.t 32)),aO 34 (.mv (.t 33)),aG 35 34 true (.mv (.t 0)),aG 36 34 true (.mv (.t 6)),aG 37 34 true (.iAddrL 1 (.t 35) (.t 36)),aG 38 34 true (.load1 (.t 37)),aG 39 34 true (.mv (.t 1)),aG 40 34 true (.bin .eql (.t 38) (.t 39)),aO 41 (.pick (.t 34) (.t 40) (.v (.c (.b false)))),aO 4 (.mv (.t 29))] [aO 5 (.mv (.t 41))]) .ret
def A_name_Place:AFn:=⟨.seq [0,1] (.ops [aO 4 (.mv (.v (.c (.i .i64 0)))),aO 5 (.mv (.v (.c (.b false))))]) (.seq [0,1,6,7] (.ops [aO 9 (.mv (.t 0)),aO 10 (.len (.t 9)),aO 6 (.mv (.v (.c (.i .i64 0)))),aO 7 (.mv (.t 10))]) (.seq [0,1,6] (.block 0 (.loop [0,1,6,7] B8O)) B8P)),[.tmp 4,.tmp 5]⟩
def A4e:B0:=B1 227 A45 C0
def D0d (n:Nat):A9 (Val × A0):=E4 [0,1,6] (ax A4e n B8P) A_name_Place.fin
def D0e (n:Nat):A9 (Val × A0):=D6 0 (D0d n)
def A3G (n m:Nat) (x0 x1 x6 x7:Val) (h:A0):A6:=C6 (ax A4e n B8O) [0,1,6,7] (D0e n) m [(0,x0),(1,x1),(6,x6),(7,x7)] h
def A64 (n:Nat) (args:List Val) (h:A0):A6:=ax A4e n A_name_Place.code A_name_Place.fin (params 0 args) h
theorem C22 (n:Nat) (a0 a1:Val) (h:A0):A64 n [a0,a1] h=bnd (D5 a0) fun v1=>A3G n n a0 a1 (.c (.i .i64 0)) v1 h:=by kernel_rfl
theorem B8Q (n m:Nat) (x0 x1 x6 x7:Val) (h:A0):A3G n (m + 1) x0 x1 x6 x7 h=bnd (A2 .lss x6 x7) fun v2=>cnd v2 (bnd (A2 .sub x7 x6) fun v3=>bnd (A2 .quo v3 (.c (.i .i64 2))) fun v4=>bnd (A2 .add x6 v4) fun v5=>bnd (B7 1 x0 v5) fun v6=>bnd (A3 h v6) fun v7=>bnd (A45 [v7,x1] h) fun p8=>cnd p8.1 (bnd (A2 .add v5 (.c (.i .i64 1))) fun v9=>A3G n m x0 x1 v9 x7 p8.2) (A3G n m x0 x1 x6 v5 p8.2)) (bnd (D5 x0) fun v10=>bnd (A2 .lss x6 v10) fun v11=>bnd (gd v11 true (some (x0,(h ++ []))) (some (.no,(h ++ [])))) fun p12=>bnd (gd v11 true (some (x6,p12.2)) (some (.no,p12.2))) fun p13=>bnd (gd v11 true (bnd (B7 1 p12.1 p13.1) fun v14=>some (v14,p13.2)) (some (.no,p13.2))) fun p15=>bnd (gd v11 true (bnd (A3 h p15.1) fun v16=>some (v16,p15.2)) (some (.no,p15.2))) fun p17=>bnd (gd v11 true (some (x1,p17.2)) (some (.no,p17.2))) fun p18=>bnd (gd v11 true (bnd (A2 .eql p17.1 p18.1) fun v19=>some (v19,p18.2)) (some (.no,p18.2))) fun p20=>bnd (C4 v11 p20.1 (.c (.b false))) fun v21=>D3 [some x6,some v21] p20.2):=by kernel_rfl
theorem K_name_Place:FnK Tryz.prog 161 A_name_Place A4e A64:=.mk' (B3 C5l C2) Tryz.func161 (by kernel_rfl) (fun _ _ _=>C1)
def A3g:Fun:=tidy (Lim A_name_Place A4e)
theorem C5o:SOk Tryz.prog 161 A3g:=K_name_Place.sok
theorem C5n:C9 A64 A3g:=K_name_Place.flat
def B8S:ACode:=.ops [aO 36 (.bin .add (.t 10) (.v (.c (.i .i64 1)))),aO 10 (.mv (.t 36))]
def B2S:ACode:=.seq [3,8,9,10,11] (.ops [aO 11 (.bin .lss (.t 10) (.t 9))]) (.seq [3,8,9,10] (.cond (.t 11) .skip (.exit 0)) (.seq [3,8,9,10] (.block 1 (.seq [3,5,8,9,10] (.ops [aO 12 (.iAddrL 1 (.t 8) (.t 10)),aO 13 (.load1 (.t 12)),aO 5 (.mv (.t 13))]) (.seq [3,5,6,7,8,9,10] (.ops [aO 15 (.mv (.t 3)),aO 16 (.mv (.t 5)),aO 17 (.call 161 [(.t 15),(.t 16)]),aO 14 (.mv (.t 17)),aO 18 (.ext (.t 14) 0),aO 19 (.ext (.t 14) 1),aO 6 (.mv (.t 18)),aO 7 (.mv (.t 19))]) (.seq [3,5,6,8,9,10] (.seq [3,5,6,8,9,10,20] (.ops [aO 20 (.mv (.t 7))]) (.cond (.t 20) (.exit 1) .skip)) (.seq [3,5,6,8,9,10] (.ops [aO 21 (.mv (.t 3)),aO 22 (.buildSl 1 1 ([.s []]) [(0,1,(.v (.c (.s []))))]),aO 23 (.app 1 (.t 21) (.t 22)),aO 3 (.mv (.t 23))]) (.seq [3,5,6,8,9,10] (.draw 0 [aO 24 (.mv (.t 3)),aO 25 (.mv (.t 6)),aO 26 (.bin .add (.t 25) (.v (.c (.i .i64 1)))),aO 27 (.slL 1 (.t 24) (some (.t 26)) none),aO 28 (.mv (.t 3)),aO 29 (.mv (.t 6)),aO 30 (.slL 1 (.t 28) (some (.t 29)) none)] [aO 31 (.copy 1 (.t 27) (.t 30))]) (.ops [aO 32 (.mv (.t 3)),aO 33 (.mv (.t 6)),aO 34 (.mv (.t 5)),aO 35 (.iAddrL 1 (.t 32) (.t 33)),aN (.store1 (.t 35) (.t 34))]))))))) B8S))
def B8R:ACode:=.seq [2] (.ops [aO 37 (.mv (.t 3)),aO 2 (.mv (.t 37))]) .ret
def A_name_Sort:AFn:=⟨.seq [0] (.ops [aO 2 (.nilrow 1)]) (.seq [0,3] (.ops [aO 3 (.nilrow 1)]) (.seq [3] (.seq [3,8,9,10] (.ops [aO 8 (.mv (.t 0)),aO 9 (.len (.t 8)),aO 10 (.mv (.v (.c (.i .i64 0))))]) (.block 0 (.loop [3,8,9,10] B2S))) B8R)),[.tmp 2]⟩
def A1U:B0:=B1 161 A3g C0
def D0f (n:Nat):A9 (Val × A0):=E4 [3] (ax A1U n B8R) A_name_Sort.fin
def B2U (n:Nat):A9 (Val × A0):=D6 0 (D0f n)
def A8W (n m:Nat) (x3 x8 x9 x10:Val) (h:A0):A6:=C6 (ax A1U n B2S) [3,8,9,10] (B2U n) m [(3,x3),(8,x8),(9,x9),(10,x10)] h
def A65 (n:Nat) (args:List Val) (h:A0):A6:=ax A1U n A_name_Sort.code A_name_Sort.fin (params 0 args) h
def D0g (n m:Nat):A9 (Val × A0):=P9 [3,8,9,10] (C6 (ax A1U n B2S) [3,8,9,10] (B2U n) m) (B2U n)
def B2T (n m:Nat) (x3 x8 x9 x10:Val) (h:A0):A6:=hold ((ax A1U n B8S) (D0g n m) [(3,x3),(8,x8),(9,x9),(10,x10)] h)
theorem C23 (n:Nat) (a0:Val) (h:A0):A65 n [a0] h=bnd (D5 a0) fun v1=>A8W n n (.c (.sl (h ++ [some (Row.mk ([]) true)]).length 0 0 1)) a0 v1 (.c (.i .i64 0)) ((h ++ [some (Row.mk ([]) true)]) ++ [some (Row.mk ([]) true)]):=by kernel_rfl
theorem B8V (n m:Nat) (x3 x8 x9 x10:Val) (h:A0):A8W n (m + 1) x3 x8 x9 x10 h=bnd (A2 .lss x10 x9) fun v2=>cnd v2 (bnd (B7 1 x8 x10) fun v3=>bnd (A3 h v3) fun v4=>bnd (A3g [x3,v4] h) fun p5=>bnd (C5 p5.1 0) fun v6=>bnd (C5 p5.1 1) fun v7=>cnd v7 (B2T n m x3 x8 x9 x10 p5.2) (bnd (A8 ([.s []]) [(0,1,.c (.s []))]) fun c8=>bnd (F0 (p5.2 ++ [some (Row.mk (c8) true)]) 1 x3 (.c (.sl p5.2.length 0 1 1))) fun p9=>bnd (A2 .add v6 (.c (.i .i64 1))) fun v10=>bnd (A2q 1 p9.1 (some v10) none) fun v11=>bnd (A2q 1 p9.1 (some v6) none) fun v12=>bnd (A2k (p9.2 ++ []) 1 v11 v12) fun p13=>bnd (B7 1 p9.1 v6) fun v14=>bnd (E7 p13.2 v14 v4) fun h15=>B2T n m p9.1 x8 x9 x10 h15)) (some (x3,h)):=by kernel_rfl
theorem B8U (n m:Nat) (x3 x8 x9 x10:Val) (h:A0):B2T n m x3 x8 x9 x10 h=bnd (A2 .add x10 (.c (.i .i64 1))) fun v16=>A8W n m x3 x8 x9 v16 h:=by kernel_rfl
theorem K_name_Sort:FnK Tryz.prog 86 A_name_Sort A1U A65:=.mk' (B3 C5o C2) Tryz.func86 (by kernel_rfl) (fun _ _ _=>C1)
def A0N:Fun:=tidy (Lim A_name_Sort A1U)
theorem B4w:SOk Tryz.prog 86 A0N:=K_name_Sort.sok
theorem C5p:U6 A65 A0N:=K_name_Sort.out
end Go.Proofs.YteckncopbicmcaaGreat
end
