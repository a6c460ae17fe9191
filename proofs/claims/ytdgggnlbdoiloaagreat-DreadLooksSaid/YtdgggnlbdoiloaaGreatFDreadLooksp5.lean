/- What the proof of this claim leans on, part 5. -/
import Derived.Test.YtdgggnlbdoiloaaGreatFDreadLooksp4
set_option linter.all false
noncomputable section
namespace Go.Proofs.YtdgggnlbdoiloaaGreat
open Go Go.Esc
set_option maxRecDepth 100000
def B6R:List AOper:=[aO 3 (.box (.t 0)),aO 4 (.box (.t 1)),aO 6 (.mv (.v (.c (.i .i64 0)))),aO 7 (.mv (.v (.c (.i .i64 0)))),aO 8 (.mv (.v (.c (.b false))))]
def E5E:ACode:=.ops B6R
def B6S:List AOper:=[aO 13 (.loadN 4 (.t 3)),aO 14 (.loadN 11 (.t 4)),aO 15 (.call 35 [(.t 13),(.t 14)]),aO 12 (.mv (.t 15)),aO 16 (.ext (.t 12) 0),aO 17 (.ext (.t 12) 1),aO 9 (.alloc ([.i .i64 0] ++ List.replicate 32 (.i .i64 0))),{ dst:=none,op:=.storeN 33 (.t 9) (.t 16) },aO 10 (.mv (.t 17))]
def E5G:ACode:=.ops B6S
def B6T:List AOper:=[aO 18 (.mv (.t 10)),aO 19 (.un .not (.t 18))]
def E5Q:ACode:=.ops B6T
def B6U:List AOper:=[aO 6 (.mv (.v (.c (.i .i64 0)))),aO 7 (.mv (.v (.c (.i .i64 0)))),aO 8 (.mv (.v (.c (.b false))))]
def E5S:ACode:=.ops B6U
def E5U:ACode:=.seq [6,7,8] E5S .ret
def E5W:ACode:=.cond (.t 19) E5U .skip
def E5Y:ACode:=.seq [2,9,19] E5Q E5W
def B6V:List AOper:=[aO 20 (.loadN 33 (.t 9)),aO 21 (.mv (.t 2)),aO 22 (.call 37 [(.t 21)])]
def B6W:List AOper:=[aO 23 (.call 36 [(.t 20),(.t 22)]),aO 11 (.mv (.t 23))]
def E50:ACode:=.draw 0 B6V B6W
def B6X:List AOper:=[aO 24 (.mv (.t 11)),aO 25 (.mv (.t 11)),aO 26 (.fAddr (.t 9) 1),aO 27 (.iAddrA 32 1 (.t 26) (.t 25)),aO 28 (.load1 (.t 27)),aO 6 (.mv (.t 24))]
def B6Y:List AOper:=[aO 7 (.mv (.t 28)),aO 8 (.mv (.v (.c (.b true))))]
def E52:ACode:=.draw 0 B6X B6Y
def E54:ACode:=.seq [6,7,8] E52 .ret
def E5H:ACode:=.seq [9,11] E50 E54
def E5J:ACode:=.seq [2,9] E5Y E5H
def E5L:ACode:=.seq [2,9,10] E5G E5J
def E5N:ACode:=.seq [2,3,4] E5E E5L
def A_dread_Route:AFn:=⟨E5N,[.tmp 6,.tmp 7,.tmp 8]⟩
def A1r:B6:=B1 35 A2D (B1 37 A2K (B1 36 A4M C1))
def E5F (n:Nat):SmV:=A2 A1r B6R
def E5P (n:Nat):SmV:=A2 A1r B6S
def E5R (n:Nat):SmV:=A2 A1r B6T
def E5T (n:Nat):SmV:=A2 A1r B6U
def E5V (n:Nat):SmV:=A1 [6,7,8] (E5T n) A8
def E5X (n:Nat):SmV:=B8 (.t 19) (E5V n) C0
def E5Z (n:Nat):SmV:=A1 [2,9,19] (E5R n) (E5X n)
def E51 (n:Nat):SmV:=N3 A1r 0 B6V B6W
def E53 (n:Nat):SmV:=N3 A1r 0 B6X B6Y
def E55 (n:Nat):SmV:=A1 [6,7,8] (E53 n) A8
def E5I (n:Nat):SmV:=A1 [9,11] (E51 n) (E55 n)
def E5K (n:Nat):SmV:=A1 [2,9] (E5Z n) (E5I n)
def E5M (n:Nat):SmV:=A1 [2,9,10] (E5P n) (E5K n)
def E5O (n:Nat):SmV:=A1 [2,3,4] (E5F n) (E5M n)
def A6l (n:Nat) (args:List Val) (h:A0):A6:=(E5O n) A_dread_Route.fin (params 0 args) h
theorem D2p (n:Nat) (a0 a1 a2:Val) (h:A0):A6l n [a0,a1,a2] h=bnd (cells? a0) fun c1=>bnd (cells? a1) fun c2=>bnd (A5 (((h ++ [some (Row.mk (c1) true)]) ++ [some (Row.mk (c2) true)])) 4 ((.c (.p h.length 0)))) fun v3=>bnd (A5 (((h ++ [some (Row.mk (c1) true)]) ++ [some (Row.mk (c2) true)])) 11 ((.c (.p ((h ++ [some (Row.mk (c1) true)])).length 0)))) fun v4=>bnd (A2D [v3,v4] (((h ++ [some (Row.mk (c1) true)]) ++ [some (Row.mk (c2) true)]))) fun p5=>bnd (C2 p5.1 0) fun v6=>bnd (C2 p5.1 1) fun v7=>bnd (B7 ((p5.2 ++ [some (Row.mk ([.i .i64 0] ++ List.replicate 32 (.i .i64 0)) true)])) 33 ((.c (.p p5.2.length 0))) v6) fun h8=>bnd (aun .not v7) fun v9=>cnd v9 (C7 [some (.c (.i .i64 0)),some (.c (.i .i64 0)),some (.c (.b false))] h8) (bnd (A5 h8 33 ((.c (.p p5.2.length 0)))) fun v10=>bnd (quiet ((h8 ++ [])) (A2K [a2] ((h8 ++ [])))) fun p11=>bnd (A4M [v10,p11.1] p11.2) fun p12=>bnd (B9 ((.c (.p p5.2.length 0))) 1) fun v13=>bnd (D7 32 1 v13 p12.1) fun v14=>bnd (A9 p12.2 v14) fun v15=>C7 [some p12.1,some v15,some (.c (.b true))] ((p12.2 ++ []))):=by kernel_rfl
theorem K_dread_Route:FnK Tryz.prog 12 A_dread_Route A1r A6l:=.mk' (B3 B3q (B3 B3w (B3 D5w C3))) Tryz.func12 (by kernel_rfl) (by intro n args h;kernel_rfl)
def A2q:Fun:=tidy (Lim A_dread_Route A1r)
theorem B3c:SOk Tryz.prog 12 A2q:=K_dread_Route.sok
theorem D4d {n:Nat} {args:List Val} {h h2:A0} {v:Val} (he:A6l n args (ro h)=some (v,h2)) (hf:v.flat=true):A2q args h=some (v,h):=K_dread_Route.flat he hf
def B6I:List AOper:=[aO 3 (.box (.t 0)),aO 4 (.box (.t 1)),aO 6 (.alloc ([.i .i64 0,.i .i64 0,.i .i64 0])),aO 7 (.mv (.v (.c (.b false))))]
def E40:ACode:=.ops B6I
def B6J:List AOper:=[aO 14 (.loadN 4 (.t 3)),aO 15 (.loadN 11 (.t 4)),aO 16 (.mv (.t 2)),aO 17 (.call 12 [(.t 14),(.t 15),(.t 16)]),aO 13 (.mv (.t 17)),aO 18 (.ext (.t 13) 0),aO 19 (.ext (.t 13) 1),aO 20 (.ext (.t 13) 2),aO 8 (.mv (.t 18)),aO 9 (.mv (.t 19)),aO 10 (.mv (.t 20))]
def E42:ACode:=.ops B6J
def B6K:List AOper:=[aO 21 (.mv (.t 10)),aO 22 (.un .not (.t 21)),aO 23 (.mv (.t 22)),{ dst:=some 24,op:=.fAddr (.t 3) 0,guard:=some (23,false) },{ dst:=some 25,op:=.loadN 3 (.t 24),guard:=some (23,false) },{ dst:=some 26,op:=.mv (.t 9),guard:=some (23,false) },{ dst:=some 27,op:=.call 31 [(.t 25),(.t 26)],guard:=some (23,false) },{ dst:=some 28,op:=.un .not (.t 27),guard:=some (23,false) },aO 29 (.pick (.t 23) (.v (.c (.b true))) (.t 28))]
def E5o:ACode:=.ops B6K
def B6L:List AOper:=[aO 30 (.build ([.i .i64 0,.i .i64 0,.i .i64 0]) []),{ dst:=none,op:=.storeN 3 (.t 6) (.t 30) },aO 7 (.mv (.v (.c (.b false))))]
def E5q:ACode:=.ops B6L
def E5s:ACode:=.seq [6,7] E5q .ret
def E5u:ACode:=.cond (.t 29) E5s .skip
def E5w:ACode:=.seq [2,3,6,9,29] E5o E5u
def B6M:List AOper:=[aO 32 (.loadN 4 (.t 3)),aO 33 (.mv (.t 9)),aO 34 (.call 30 [(.t 32),(.t 33)]),aO 35 (.mv (.t 2)),aO 36 (.call 32 [(.t 34),(.t 35)]),aO 31 (.mv (.t 36)),aO 37 (.ext (.t 31) 0),aO 38 (.ext (.t 31) 1),aO 11 (.alloc ([.i .i64 0,.s [],.i .i64 0])),{ dst:=none,op:=.storeN 3 (.t 11) (.t 37) },aO 12 (.mv (.t 38))]
def E5y:ACode:=.ops B6M
def B6N:List AOper:=[aO 39 (.mv (.t 12)),aO 40 (.un .not (.t 39))]
def E5A:ACode:=.ops B6N
def B6O:List AOper:=[aO 41 (.build ([.i .i64 0,.i .i64 0,.i .i64 0]) []),{ dst:=none,op:=.storeN 3 (.t 6) (.t 41) },aO 7 (.mv (.v (.c (.b false))))]
def E5C:ACode:=.ops B6O
def E43:ACode:=.seq [6,7] E5C .ret
def E45:ACode:=.cond (.t 40) E43 .skip
def E47:ACode:=.seq [6,9,11,40] E5A E45
def B6P:List AOper:=[aO 42 (.mv (.t 9)),aO 43 (.fAddr (.t 11) 0),aO 44 (.load1 (.t 43)),aO 45 (.fAddr (.t 11) 1),aO 46 (.fAddr (.t 45) 1),aO 47 (.load1 (.t 46)),aO 48 (.build ([.i .i64 0,.i .i64 0,.i .i64 0]) [(0,1,(.t 42)),(1,1,(.t 44)),(2,1,(.t 47))]),{ dst:=none,op:=.storeN 3 (.t 6) (.t 48) },aO 7 (.mv (.v (.c (.b true))))]
def E49:ACode:=.ops B6P
def E5b:ACode:=.seq [6,7] E49 .ret
def E5d:ACode:=.seq [6,9,11] E47 E5b
def E5f:ACode:=.seq [6,9,11,12] E5y E5d
def E5h:ACode:=.seq [2,3,6,9] E5w E5f
def E5j:ACode:=.seq [2,3,6,9,10] E42 E5h
def E5l:ACode:=.seq [2,3,4,6] E40 E5j
def A_dread_Lookup:AFn:=⟨E5l,[.cellN 6 3,.tmp 7]⟩
def A0t:B6:=B1 12 A2q (B1 31 A05 (B1 30 U2 (B1 32 A2l C1)))
def E41 (n:Nat):SmV:=A2 A0t B6I
def E5n (n:Nat):SmV:=A2 A0t B6J
def E5p (n:Nat):SmV:=A2 A0t B6K
def E5r (n:Nat):SmV:=A2 A0t B6L
def E5t (n:Nat):SmV:=A1 [6,7] (E5r n) A8
def E5v (n:Nat):SmV:=B8 (.t 29) (E5t n) C0
def E5x (n:Nat):SmV:=A1 [2,3,6,9,29] (E5p n) (E5v n)
def E5z (n:Nat):SmV:=A2 A0t B6M
def E5B (n:Nat):SmV:=A2 A0t B6N
def E5D (n:Nat):SmV:=A2 A0t B6O
def E44 (n:Nat):SmV:=A1 [6,7] (E5D n) A8
def E46 (n:Nat):SmV:=B8 (.t 40) (E44 n) C0
def E48 (n:Nat):SmV:=A1 [6,9,11,40] (E5B n) (E46 n)
def E5a (n:Nat):SmV:=A2 A0t B6P
def E5c (n:Nat):SmV:=A1 [6,7] (E5a n) A8
def E5e (n:Nat):SmV:=A1 [6,9,11] (E48 n) (E5c n)
def E5g (n:Nat):SmV:=A1 [6,9,11,12] (E5z n) (E5e n)
def E5i (n:Nat):SmV:=A1 [2,3,6,9] (E5x n) (E5g n)
def E5k (n:Nat):SmV:=A1 [2,3,6,9,10] (E5n n) (E5i n)
def E5m (n:Nat):SmV:=A1 [2,3,4,6] (E41 n) (E5k n)
def A6k (n:Nat) (args:List Val) (h:A0):A6:=(E5m n) A_dread_Lookup.fin (params 0 args) h
theorem D2o (n:Nat) (a0 a1 a2:Val) (h:A0):A6k n [a0,a1,a2] h=bnd (cells? a0) fun c1=>bnd (cells? a1) fun c2=>bnd (A5 ((((h ++ [some (Row.mk (c1) true)]) ++ [some (Row.mk (c2) true)]) ++ [some (Row.mk ([.i .i64 0,.i .i64 0,.i .i64 0]) true)])) 4 ((.c (.p h.length 0)))) fun v3=>bnd (A5 ((((h ++ [some (Row.mk (c1) true)]) ++ [some (Row.mk (c2) true)]) ++ [some (Row.mk ([.i .i64 0,.i .i64 0,.i .i64 0]) true)])) 11 ((.c (.p ((h ++ [some (Row.mk (c1) true)])).length 0)))) fun v4=>bnd (A2q [v3,v4,a2] ((((h ++ [some (Row.mk (c1) true)]) ++ [some (Row.mk (c2) true)]) ++ [some (Row.mk ([.i .i64 0,.i .i64 0,.i .i64 0]) true)]))) fun p5=>bnd (C2 p5.1 0) fun v6=>bnd (C2 p5.1 1) fun v7=>bnd (C2 p5.1 2) fun v8=>bnd (aun .not v8) fun v9=>bnd (gd v9 false (bnd (B9 ((.c (.p h.length 0))) 0) fun v10=>some (v10,p5.2)) (some (.no,p5.2))) fun p11=>bnd (gd v9 false (bnd (A5 p11.2 3 p11.1) fun v12=>some (v12,p11.2)) (some (.no,p11.2))) fun p13=>bnd (gd v9 false (some (v7,p13.2)) (some (.no,p13.2))) fun p14=>bnd (gd v9 false (bnd (A05 [p13.1,p14.1] p14.2) fun p15=>some (p15.1,p15.2)) (some (.no,p14.2))) fun p16=>bnd (gd v9 false (bnd (aun .not p16.1) fun v17=>some (v17,p16.2)) (some (.no,p16.2))) fun p18=>bnd (C5 v9 (.c (.b true)) p18.1) fun v19=>cnd v19 (bnd (B0 ([.i .i64 0,.i .i64 0,.i .i64 0]) []) fun c20=>bnd (B7 p18.2 3 ((.c (.p (((h ++ [some (Row.mk (c1) true)]) ++ [some (Row.mk (c2) true)])).length 0))) ((.a c20))) fun h21=>C7 [A5 h21 3 ((.c (.p (((h ++ [some (Row.mk (c1) true)]) ++ [some (Row.mk (c2) true)])).length 0))),some (.c (.b false))] h21) (bnd (A5 p18.2 4 ((.c (.p h.length 0)))) fun v22=>bnd (U2 [v22,v7] p18.2) fun p23=>bnd (A2l [p23.1,a2] p23.2) fun p24=>bnd (C2 p24.1 0) fun v25=>bnd (C2 p24.1 1) fun v26=>bnd (B7 ((p24.2 ++ [some (Row.mk ([.i .i64 0,.s [],.i .i64 0]) true)])) 3 ((.c (.p p24.2.length 0))) v25) fun h27=>bnd (aun .not v26) fun v28=>cnd v28 (bnd (B0 ([.i .i64 0,.i .i64 0,.i .i64 0]) []) fun c29=>bnd (B7 h27 3 ((.c (.p (((h ++ [some (Row.mk (c1) true)]) ++ [some (Row.mk (c2) true)])).length 0))) ((.a c29))) fun h30=>C7 [A5 h30 3 ((.c (.p (((h ++ [some (Row.mk (c1) true)]) ++ [some (Row.mk (c2) true)])).length 0))),some (.c (.b false))] h30) (bnd (B9 ((.c (.p p24.2.length 0))) 0) fun v31=>bnd (A9 h27 v31) fun v32=>bnd (B9 ((.c (.p p24.2.length 0))) 1) fun v33=>bnd (B9 v33 1) fun v34=>bnd (A9 h27 v34) fun v35=>bnd (B0 ([.i .i64 0,.i .i64 0,.i .i64 0]) [(0,1,v7),(1,1,v32),(2,1,v35)]) fun c36=>bnd (B7 h27 3 ((.c (.p (((h ++ [some (Row.mk (c1) true)]) ++ [some (Row.mk (c2) true)])).length 0))) ((.a c36))) fun h37=>C7 [A5 h37 3 ((.c (.p (((h ++ [some (Row.mk (c1) true)]) ++ [some (Row.mk (c2) true)])).length 0))),some (.c (.b true))] h37)):=by kernel_rfl
theorem K_dread_Lookup:FnK Tryz.prog 10 A_dread_Lookup A0t A6k:=.mk' (B3 B3c (B3 B02 (B3 A46 (B3 B24 C3)))) Tryz.func10 (by kernel_rfl) (by intro n args h;kernel_rfl)
def A0g:Fun:=tidy (Lim A_dread_Lookup A0t)
theorem A7n:SOk Tryz.prog 10 A0g:=K_dread_Lookup.sok
theorem D4c {n:Nat} {args:List Val} {h h2:A0} {v:Val} (he:A6k n args (ro h)=some (v,h2)) (hf:v.flat=true):A0g args h=some (v,h):=K_dread_Lookup.flat he hf
def B6o:List AOper:=[aO 6 (.box (.t 0))]
def E3P:ACode:=.ops B6o
def B6p:List AOper:=[aO 11 (.loadN 4 (.t 2)),aO 12 (.loadN 11 (.t 3)),aO 13 (.mv (.t 1)),aO 14 (.call 10 [(.t 11),(.t 12),(.t 13)]),aO 10 (.mv (.t 14)),aO 15 (.ext (.t 10) 0),aO 16 (.ext (.t 10) 1),aO 8 (.alloc ([.i .i64 0,.i .i64 0,.i .i64 0])),{ dst:=none,op:=.storeN 3 (.t 8) (.t 15) },aO 9 (.mv (.t 16))]
def E3R:ACode:=.ops B6p
def B6q:List AOper:=[aO 17 (.mv (.t 9)),aO 18 (.mv (.t 17)),{ dst:=some 19,op:=.loadN 3 (.t 8),guard:=some (18,true) },{ dst:=some 20,op:=.loadN 3 (.t 6),guard:=some (18,true) },{ dst:=some 21,op:=.eqA false ([.i .i64,.i .i64,.i .i64]) (.t 19) (.t 20),guard:=some (18,true) },aO 22 (.pick (.t 18) (.t 21) (.v (.c (.b false))))]
def E3T:ACode:=.ops B6q
def B6r:List AOper:=[aO 23 (.load1 (.t 4)),aO 24 (.mv (.t 1)),aO 25 (.buildSl 1 1 ([.s []]) [(0,1,(.t 24))]),aO 26 (.app 1 (.t 23) (.t 25)),{ dst:=none,op:=.store1 (.t 4) (.t 26) }]
def E3V:ACode:=.ops B6r
def B6s:List AOper:=[aO 27 (.load1 (.t 5)),aO 28 (.mv (.t 1)),aO 29 (.fAddr (.t 6) 2),aO 30 (.load1 (.t 29)),{ dst:=none,op:=.mput none (.t 27) (.t 28) (.t 30) }]
def E3X:ACode:=.ops B6s
def E3Z:ACode:=.seq [1,5,6] E3V E3X
def E31:ACode:=.cond (.t 22) E3Z .skip
def E33:ACode:=.seq [1,4,5,6,22] E3T E31
def E35:ACode:=.seq [1,4,5,6,8,9] E3R E33
def E37:ACode:=.seq [1,2,3,4,5,6] E3P E35
def A_dread_List_1:AFn:=⟨E37,[]⟩
def A2e:B6:=B1 10 A0g C1
def E3Q (n:Nat):SmV:=A2 A2e B6o
def E3S (n:Nat):SmV:=A2 A2e B6p
def E3U (n:Nat):SmV:=A2 A2e B6q
def E3W (n:Nat):SmV:=A2 A2e B6r
def E3Y (n:Nat):SmV:=A2 A2e B6s
def E30 (n:Nat):SmV:=A1 [1,5,6] (E3W n) (E3Y n)
def E32 (n:Nat):SmV:=B8 (.t 22) (E30 n) C0
def E34 (n:Nat):SmV:=A1 [1,4,5,6,22] (E3U n) (E32 n)
def E36 (n:Nat):SmV:=A1 [1,4,5,6,8,9] (E3S n) (E34 n)
def E38 (n:Nat):SmV:=A1 [1,2,3,4,5,6] (E3Q n) (E36 n)
def B0u (n:Nat) (args:List Val) (h:A0):A6:=(E38 n) A_dread_List_1.fin (params 0 args) h
theorem B0v (n:Nat) (a0 a1 a2 a3 a4 a5:Val) (h:A0):B0u n [a0,a1,a2,a3,a4,a5] h=bnd (cells? a0) fun c1=>bnd (A5 ((h ++ [some (Row.mk (c1) true)])) 4 a2) fun v2=>bnd (A5 ((h ++ [some (Row.mk (c1) true)])) 11 a3) fun v3=>bnd (A0g [v2,v3,a1] ((h ++ [some (Row.mk (c1) true)]))) fun p4=>bnd (C2 p4.1 0) fun v5=>bnd (C2 p4.1 1) fun v6=>bnd (B7 ((p4.2 ++ [some (Row.mk ([.i .i64 0,.i .i64 0,.i .i64 0]) true)])) 3 ((.c (.p p4.2.length 0))) v5) fun h7=>bnd (gd v6 true (bnd (A5 h7 3 ((.c (.p p4.2.length 0)))) fun v8=>some (v8,h7)) (some (.no,h7))) fun p9=>bnd (gd v6 true (bnd (A5 p9.2 3 ((.c (.p h.length 0)))) fun v10=>some (v10,p9.2)) (some (.no,p9.2))) fun p11=>bnd (gd v6 true (bnd (aeq false ([.i .i64,.i .i64,.i .i64]) p9.1 p11.1) fun v12=>some (v12,p11.2)) (some (.no,p11.2))) fun p13=>bnd (C5 v6 p13.1 (.c (.b false))) fun v14=>cnd v14 (bnd (A9 p13.2 a4) fun v15=>bnd (B0 ([.s []]) [(0,1,a1)]) fun c16=>bnd (E5 ((p13.2 ++ [some (Row.mk (c16) true)])) 1 v15 ((.c (.sl p13.2.length 0 1 1)))) fun p17=>bnd (F2 p17.2 a4 p17.1) fun h18=>bnd (A9 h18 a5) fun v19=>bnd (B9 ((.c (.p h.length 0))) 2) fun v20=>bnd (A9 h18 v20) fun v21=>bnd (A2U h18 none v19 a1 v21) fun h22=>C7 [] h22) (C7 [] p13.2):=by kernel_rfl
theorem K_dread_List_1:FnK Tryz.prog 44 A_dread_List_1 A2e B0u:=.mk' (B3 A7n C3) Tryz.func44 (by kernel_rfl) (by intro n args h;kernel_rfl)
def A4k:Fun:=Lim A_dread_List_1 A2e
theorem D4a:SOk Tryz.prog 44 A4k:=K_dread_List_1.ok
theorem B0Y {n:Nat} {args:List Val} {h:A0} {p:Val × A0} (he:B0u n args h=some p):A4k args h=some p:=K_dread_List_1.of he
def B69:List AOper:=[aO 3 (.box (.t 0)),aO 4 (.box (.t 1))]
def E6D:ACode:=.ops B69
def B7a:List AOper:=[aO 10 (.loadN 4 (.t 3)),aO 11 (.loadN 11 (.t 4)),aO 12 (.call 46 [(.t 10),(.t 11)]),aO 13 (.len (.t 12)),aO 14 (.mv (.v (.c (.i .i64 0))))]
def E6F:ACode:=.ops B7a
def B7b:List AOper:=[aO 15 (.bin .lss (.t 14) (.t 13))]
def E60:ACode:=.ops B7b
def E7i:ACode:=.cond (.t 15) .skip (.exit 0)
def B7c:List AOper:=[aO 16 (.iAddrL 1 (.t 12) (.t 14)),aO 17 (.load1 (.t 16)),aO 7 (.mv (.t 17))]
def E7k:ACode:=.ops B7c
def B7d:List AOper:=[aO 18 (.loadN 4 (.t 3)),aO 19 (.mv (.t 7)),aO 20 (.call 30 [(.t 18),(.t 19)]),aO 21 (.call 47 [(.t 20)]),aO 22 (.len (.t 21)),aO 23 (.mv (.v (.c (.i .i64 0))))]
def E7m:ACode:=.ops B7d
def B7e:List AOper:=[aO 24 (.bin .lss (.t 23) (.t 22))]
def E7o:ACode:=.ops B7e
def E7q:ACode:=.cond (.t 24) .skip (.exit 2)
def B7f:List AOper:=[aO 25 (.iAddrL 3 (.t 21) (.t 23)),aO 26 (.loadN 3 (.t 25)),aO 9 (.alloc ([.i .i64 0,.s [],.i .i64 0])),{ dst:=none,op:=.storeN 3 (.t 9) (.t 26) }]
def E7s:ACode:=.ops B7f
def B7g:List AOper:=[aO 27 (.mv (.t 2)),aO 28 (.mv (.t 7)),aO 29 (.fAddr (.t 9) 0),aO 30 (.load1 (.t 29)),aO 31 (.fAddr (.t 9) 1),aO 32 (.fAddr (.t 31) 1),aO 33 (.load1 (.t 32)),aO 34 (.build ([.i .i64 0,.i .i64 0,.i .i64 0]) [(0,1,(.t 28)),(1,1,(.t 30)),(2,1,(.t 33))]),aO 35 (.fAddr (.t 9) 1),aO 36 (.fAddr (.t 35) 0),aO 37 (.load1 (.t 36)),aO 38 (.callV (.t 27) [(.t 34),(.t 37)])]
def E7u:ACode:=.ops B7g
def E6G:ACode:=.seq [2,3,7,9,12,13,14,21,22,23] E7s E7u
def E6I:ACode:=.block 3 E6G
def B7h:List AOper:=[aO 39 (.bin .add (.t 23) (.v (.c (.i .i64 1)))),aO 23 (.mv (.t 39))]
def E6K:ACode:=.ops B7h
def E6M:ACode:=.seq [2,3,7,12,13,14,21,22,23] E6I E6K
def E6O:ACode:=.seq [2,3,7,12,13,14,21,22,23] E7q E6M
def E6Q:ACode:=.seq [2,3,7,12,13,14,21,22,23,24] E7o E6O
def E6R:ACode:=.loop [2,3,7,12,13,14,21,22,23] E6Q
def E6T:ACode:=.block 2 E6R
def E6V:ACode:=.seq [2,3,7,12,13,14,21,22,23] E7m E6T
def E6X:ACode:=.seq [2,3,7,12,13,14] E7k E6V
def E61:ACode:=.block 1 E6X
def B7i:List AOper:=[aO 40 (.bin .add (.t 14) (.v (.c (.i .i64 1)))),aO 14 (.mv (.t 40))]
def E63:ACode:=.ops B7i
def E64:ACode:=.seq [2,3,12,13,14] E61 E63
def E66:ACode:=.seq [2,3,12,13,14] E7i E64
def E68:ACode:=.seq [2,3,12,13,14,15] E60 E66
def E69:ACode:=.loop [2,3,12,13,14] E68
def E7b:ACode:=.block 0 E69
def E7d:ACode:=.seq [2,3,12,13,14] E6F E7b
def E7f:ACode:=.seq [2,3,4] E6D E7d
def A_dread_each__List_1:AFn:=⟨E7f,[]⟩
def R5:B6:=B1 46 A2C (B1 30 U2 (B1 47 A03 (B1 44 A4k C1)))
def E6E (n:Nat):SmV:=A2 R5 B69
def E6Z (n:Nat):SmV:=A2 R5 B7a
def E7h (n:Nat):SmV:=A2 R5 B7b
def E7j (n:Nat):SmV:=B8 (.t 15) C0 (E3 0)
def E7l (n:Nat):SmV:=A2 R5 B7c
def E7n (n:Nat):SmV:=A2 R5 B7d
def E7p (n:Nat):SmV:=A2 R5 B7e
def E7r (n:Nat):SmV:=B8 (.t 24) C0 (E3 2)
def E7t (n:Nat):SmV:=A2 R5 B7f
def E7v (n:Nat):SmV:=A2 R5 B7g
def E6H (n:Nat):SmV:=A1 [2,3,7,9,12,13,14,21,22,23] (E7t n) (E7v n)
def E6J (n:Nat):SmV:=C6 3 (E6H n)
def E6L (n:Nat):SmV:=A2 R5 B7h
def E6N (n:Nat):SmV:=A1 [2,3,7,12,13,14,21,22,23] (E6J n) (E6L n)
def E6P (n:Nat):SmV:=A1 [2,3,7,12,13,14,21,22,23] (E7r n) (E6N n)
def B67 (n:Nat):SmV:=A1 [2,3,7,12,13,14,21,22,23,24] (E7p n) (E6P n)
def E6S (n:Nat):SmV:=E4 n [2,3,7,12,13,14,21,22,23] (B67 n)
def E6U (n:Nat):SmV:=C6 2 (E6S n)
def E6W (n:Nat):SmV:=A1 [2,3,7,12,13,14,21,22,23] (E7n n) (E6U n)
def E6Y (n:Nat):SmV:=A1 [2,3,7,12,13,14] (E7l n) (E6W n)
def E62 (n:Nat):SmV:=C6 1 (E6Y n)
def B68 (n:Nat):SmV:=A2 R5 B7i
def E65 (n:Nat):SmV:=A1 [2,3,12,13,14] (E62 n) (B68 n)
def E67 (n:Nat):SmV:=A1 [2,3,12,13,14] (E7j n) (E65 n)
def B1I (n:Nat):SmV:=A1 [2,3,12,13,14,15] (E7h n) (E67 n)
def E7a (n:Nat):SmV:=E4 n [2,3,12,13,14] (B1I n)
def E7c (n:Nat):SmV:=C6 0 (E7a n)
def E7e (n:Nat):SmV:=A1 [2,3,12,13,14] (E6Z n) (E7c n)
def E7g (n:Nat):SmV:=A1 [2,3,4] (E6E n) (E7e n)
def A7W (n:Nat):AExit → Env → A0 → A6:=fun x e h=>match x with | .exit i=>bif Nat.beq i 0 then A_dread_each__List_1.fin .normal e h else A_dread_each__List_1.fin (.exit i) e h | .normal=>A_dread_each__List_1.fin .normal e h | .ret=>A_dread_each__List_1.fin .ret e h
def A7Z (n m:Nat) (x2 x3 x12 x13 x14:Val) (h:A0):A6:=E1 (B1I n) [2,3,12,13,14] (A7W n) m [(2,x2),(3,x3),(12,x12),(13,x13),(14,x14)] h
def B0x (n:Nat) (args:List Val) (h:A0):A6:=(E7g n) A_dread_each__List_1.fin (params 0 args) h
def B1J (n m:Nat):AExit → Env → A0 → A6:=fun x e h=>match x with | .normal=>E1 (B1I n) [2,3,12,13,14] (A7W n) m (e.keep [2,3,12,13,14]) h | .exit id=>(A7W n) (.exit id) e h | .ret=>(A7W n) .ret e h
def A7X (n m:Nat):AExit → Env → A0 → A6:=fun x e h=>match x with | .normal=>hold ((B68 n) (B1J n m) (e.keep [2,3,12,13,14]) h) | .exit id=>(B1J n m) (.exit id) e h | .ret=>(B1J n m) .ret e h
def A7Y (n m:Nat):AExit → Env → A0 → A6:=fun x e h=>match x with | .exit i=>bif Nat.beq i 1 then (A7X n m) .normal e h else (A7X n m) (.exit i) e h | .normal=>(A7X n m) .normal e h | .ret=>(A7X n m) .ret e h
def E7w (n m:Nat):AExit → Env → A0 → A6:=fun x e h=>match x with | .exit i=>bif Nat.beq i 2 then (A7Y n m) .normal e h else (A7Y n m) (.exit i) e h | .normal=>(A7Y n m) .normal e h | .ret=>(A7Y n m) .ret e h
def A70 (n m m2:Nat) (x2 x3 x7 x12 x13 x14 x21 x22 x23:Val) (h:A0):A6:=E1 (B67 n) [2,3,7,12,13,14,21,22,23] (E7w n m) m2 [(2,x2),(3,x3),(7,x7),(12,x12),(13,x13),(14,x14),(21,x21),(22,x22),(23,x23)] h
theorem D2r (n:Nat) (a0 a1 a2:Val) (h:A0):B0x n [a0,a1,a2] h=bnd (cells? a0) fun c1=>bnd (cells? a1) fun c2=>bnd (A5 (((h ++ [some (Row.mk (c1) true)]) ++ [some (Row.mk (c2) true)])) 4 ((.c (.p h.length 0)))) fun v3=>bnd (A5 (((h ++ [some (Row.mk (c1) true)]) ++ [some (Row.mk (c2) true)])) 11 ((.c (.p ((h ++ [some (Row.mk (c1) true)])).length 0)))) fun v4=>bnd (A2C [v3,v4] (((h ++ [some (Row.mk (c1) true)]) ++ [some (Row.mk (c2) true)]))) fun p5=>bnd (F5 p5.1) fun v6=>A7Z n n a2 ((.c (.p h.length 0))) p5.1 v6 (.c (.i .i64 0)) p5.2:=by kernel_rfl
theorem E7x (n m:Nat) (x2 x3 x12 x13 x14:Val) (h:A0):A7Z n (m + 1) x2 x3 x12 x13 x14 h=bnd (A4 .lss x14 x13) fun v7=>cnd v7 (bnd (D0 1 x12 x14) fun v8=>bnd (A9 h v8) fun v9=>bnd (A5 h 4 x3) fun v10=>bnd (U2 [v10,v9] h) fun p11=>bnd (A03 [p11.1] p11.2) fun p12=>bnd (F5 p12.1) fun v13=>A70 n m n x2 x3 v9 x12 x13 x14 p12.1 v13 (.c (.i .i64 0)) p12.2) (C7 [] h):=by kernel_rfl
theorem E7y (n m m2:Nat) (x2 x3 x7 x12 x13 x14 x21 x22 x23:Val) (h:A0):A70 n m (m2 + 1) x2 x3 x7 x12 x13 x14 x21 x22 x23 h=bnd (A4 .lss x23 x22) fun v14=>cnd v14 (bnd (D0 3 x21 x23) fun v15=>bnd (A5 h 3 v15) fun v16=>bnd (B7 ((h ++ [some (Row.mk ([.i .i64 0,.s [],.i .i64 0]) true)])) 3 ((.c (.p h.length 0))) v16) fun h17=>bnd (B9 ((.c (.p h.length 0))) 0) fun v18=>bnd (A9 h17 v18) fun v19=>bnd (B9 ((.c (.p h.length 0))) 1) fun v20=>bnd (B9 v20 1) fun v21=>bnd (A9 h17 v21) fun v22=>bnd (B0 ([.i .i64 0,.i .i64 0,.i .i64 0]) [(0,1,x7),(1,1,v19),(2,1,v22)]) fun c23=>bnd (B9 ((.c (.p h.length 0))) 1) fun v24=>bnd (B9 v24 0) fun v25=>bnd (A9 h17 v25) fun v26=>bnd (M7 R5 x2 [(.a c23),v26] h17) fun p27=>bnd (A4 .add x23 (.c (.i .i64 1))) fun v28=>A70 n m m2 x2 x3 x7 x12 x13 x14 x21 x22 v28 p27.2) (bnd (A4 .add x14 (.c (.i .i64 1))) fun v29=>A7Z n m x2 x3 x12 x13 v29 h):=by kernel_rfl
theorem K_dread_each__List_1:FnK Tryz.prog 42 A_dread_each__List_1 R5 B0x:=.mk' (B3 B3p (B3 A46 (B3 B26 (B3 D4a C3)))) Tryz.func42 (by kernel_rfl) (by intro n args h;kernel_rfl)
def A4m:Fun:=Lim A_dread_each__List_1 R5
theorem D4j:SOk Tryz.prog 42 A4m:=K_dread_each__List_1.ok
theorem D4i {n:Nat} {args:List Val} {h:A0} {p:Val × A0} (he:B0x n args h=some p):A4m args h=some p:=K_dread_each__List_1.of he
def B6x:List AOper:=[aO 2 (.box (.t 0)),aO 3 (.box (.t 1)),aO 4 (.nilrow 2)]
def E39:ACode:=.ops B6x
def B6y:List AOper:=[aO 5 (.alloc ([.ns]))]
def E4b:ACode:=.ops B6y
def B6A:List AOper:=[aO 10 (.mkMap),aO 6 (.alloc ([.nm])),{ dst:=none,op:=.store1 (.t 6) (.t 10) }]
def E4w:ACode:=.ops B6A
def B6B:List AOper:=[aO 11 (.loadN 4 (.t 2)),aO 12 (.loadN 11 (.t 3)),aO 13 (.mkf 44 [(.t 2),(.t 3),(.t 5),(.t 6)]),aO 14 (.call 42 [(.t 11),(.t 12),(.t 13)])]
def E4L:ACode:=.ops B6B
def B6C:List AOper:=[aO 7 (.nilrow 2)]
def E4N:ACode:=.ops B6C
def B6D:List AOper:=[aO 15 (.load1 (.t 5)),aO 16 (.call 45 [(.t 15)]),aO 17 (.len (.t 16)),aO 18 (.mv (.v (.c (.i .i64 0))))]
def E4P:ACode:=.ops B6D
def B6E:List AOper:=[aO 19 (.bin .lss (.t 18) (.t 17))]
def E4R:ACode:=.ops B6E
def E4T:ACode:=.cond (.t 19) .skip (.exit 0)
def B6F:List AOper:=[aO 20 (.iAddrL 1 (.t 16) (.t 18)),aO 21 (.load1 (.t 20)),aO 9 (.mv (.t 21))]
def E4V:ACode:=.ops B6F
def B6G:List AOper:=[aO 22 (.mv (.t 7)),aO 23 (.mv (.t 9)),aO 24 (.load1 (.t 6)),aO 25 (.mv (.t 9)),aO 26 (.look none (.c (.i .i64 0)) false (.t 24) (.t 25)),aO 27 (.build ([.s [],.i .i64 0]) [(0,1,(.t 23)),(1,1,(.t 26))]),aO 28 (.buildSl 2 1 (([.s [],.i .i64 0])) [(0,2,(.t 27))]),aO 29 (.app 2 (.t 22) (.t 28)),aO 7 (.mv (.t 29))]
def E4X:ACode:=.ops B6G
def E4c:ACode:=.seq [6,7,9,16,17,18] E4V E4X
def E4e:ACode:=.block 1 E4c
def B6H:List AOper:=[aO 30 (.bin .add (.t 18) (.v (.c (.i .i64 1)))),aO 18 (.mv (.t 30))]
def E4g:ACode:=.ops B6H
def E4i:ACode:=.seq [6,7,16,17,18] E4e E4g
def E4k:ACode:=.seq [6,7,16,17,18] E4T E4i
def E4m:ACode:=.seq [6,7,16,17,18,19] E4R E4k
def E4n:ACode:=.loop [6,7,16,17,18] E4m
def E4p:ACode:=.block 0 E4n
def E4r:ACode:=.seq [6,7,16,17,18] E4P E4p
def B6z:List AOper:=[aO 31 (.mv (.t 7)),aO 4 (.mv (.t 31))]
def E4t:ACode:=.ops B6z
def E4x:ACode:=.seq [4] E4t .ret
def E4y:ACode:=.seq [7] E4r E4x
def E4A:ACode:=.seq [5,6,7] E4N E4y
def E4C:ACode:=.seq [5,6] E4L E4A
def E4E:ACode:=.seq [2,3,5,6] E4w E4C
def E4G:ACode:=.seq [2,3,5] E4b E4E
def E4I:ACode:=.seq [2,3] E39 E4G
def A_dread_List:AFn:=⟨E4I,[.tmp 4]⟩
def V3:B6:=B1 42 A4m (B1 45 A4V C1)
def E4a (n:Nat):SmV:=A2 V3 B6x
def E4v (n:Nat):SmV:=A2 V3 B6y
def E4K (n:Nat):SmV:=A2 V3 B6A
def E4M (n:Nat):SmV:=A2 V3 B6B
def E4O (n:Nat):SmV:=A2 V3 B6C
def E4Q (n:Nat):SmV:=A2 V3 B6D
def E4S (n:Nat):SmV:=A2 V3 B6E
def E4U (n:Nat):SmV:=B8 (.t 19) C0 (E3 0)
def E4W (n:Nat):SmV:=A2 V3 B6F
def E4Y (n:Nat):SmV:=A2 V3 B6G
def E4d (n:Nat):SmV:=A1 [6,7,9,16,17,18] (E4W n) (E4Y n)
def E4f (n:Nat):SmV:=C6 1 (E4d n)
def E4h (n:Nat):SmV:=A2 V3 B6H
def E4j (n:Nat):SmV:=A1 [6,7,16,17,18] (E4f n) (E4h n)
def E4l (n:Nat):SmV:=A1 [6,7,16,17,18] (E4U n) (E4j n)
def B6t (n:Nat):SmV:=A1 [6,7,16,17,18,19] (E4S n) (E4l n)
def E4o (n:Nat):SmV:=E4 n [6,7,16,17,18] (B6t n)
def E4q (n:Nat):SmV:=C6 0 (E4o n)
def E4s (n:Nat):SmV:=A1 [6,7,16,17,18] (E4Q n) (E4q n)
def E4u (n:Nat):SmV:=A2 V3 B6z
def B6u (n:Nat):SmV:=A1 [4] (E4u n) A8
def E4z (n:Nat):SmV:=A1 [7] (E4s n) (B6u n)
def E4B (n:Nat):SmV:=A1 [5,6,7] (E4O n) (E4z n)
def E4D (n:Nat):SmV:=A1 [5,6] (E4M n) (E4B n)
def E4F (n:Nat):SmV:=A1 [2,3,5,6] (E4K n) (E4D n)
def E4H (n:Nat):SmV:=A1 [2,3,5] (E4v n) (E4F n)
def E4J (n:Nat):SmV:=A1 [2,3] (E4a n) (E4H n)
def A7T (n:Nat):AExit → Env → A0 → A6:=fun x e h=>match x with | .normal=>hold ((B6u n) A_dread_List.fin (e.keep [7]) h) | .exit id=>A_dread_List.fin (.exit id) e h | .ret=>A_dread_List.fin .ret e h
def E4Z (n:Nat):AExit → Env → A0 → A6:=fun x e h=>match x with | .exit i=>bif Nat.beq i 0 then (A7T n) .normal e h else (A7T n) (.exit i) e h | .normal=>(A7T n) .normal e h | .ret=>(A7T n) .ret e h
def A7U (n m:Nat) (x6 x7 x16 x17 x18:Val) (h:A0):A6:=E1 (B6t n) [6,7,16,17,18] (E4Z n) m [(6,x6),(7,x7),(16,x16),(17,x17),(18,x18)] h
def A6j (n:Nat) (args:List Val) (h:A0):A6:=(E4J n) A_dread_List.fin (params 0 args) h
theorem D2n (n:Nat) (a0 a1:Val) (h:A0):A6j n [a0,a1] h=bnd (cells? a0) fun c1=>bnd (cells? a1) fun c2=>bnd (F2 (((((((h ++ [some (Row.mk (c1) true)]) ++ [some (Row.mk (c2) true)]) ++ [some (Row.mk ([]) true)]) ++ [some (Row.mk ([.ns]) true)]) ++ [some (H0 [])]) ++ [some (Row.mk ([.nm]) true)])) ((.c (.p ((((((h ++ [some (Row.mk (c1) true)]) ++ [some (Row.mk (c2) true)]) ++ [some (Row.mk ([]) true)]) ++ [some (Row.mk ([.ns]) true)]) ++ [some (H0 [])])).length 0))) ((.c (.m (((((h ++ [some (Row.mk (c1) true)]) ++ [some (Row.mk (c2) true)]) ++ [some (Row.mk ([]) true)]) ++ [some (Row.mk ([.ns]) true)])).length)))) fun h3=>bnd (A5 h3 4 ((.c (.p h.length 0)))) fun v4=>bnd (A5 h3 11 ((.c (.p ((h ++ [some (Row.mk (c1) true)])).length 0)))) fun v5=>bnd (X8 44 [(.c (.p h.length 0)),(.c (.p ((h ++ [some (Row.mk (c1) true)])).length 0)),(.c (.p ((((h ++ [some (Row.mk (c1) true)]) ++ [some (Row.mk (c2) true)]) ++ [some (Row.mk ([]) true)])).length 0)),(.c (.p ((((((h ++ [some (Row.mk (c1) true)]) ++ [some (Row.mk (c2) true)]) ++ [some (Row.mk ([]) true)]) ++ [some (Row.mk ([.ns]) true)]) ++ [some (H0 [])])).length 0))]) fun v6=>bnd (A4m [v4,v5,v6] h3) fun p7=>bnd (A9 ((p7.2 ++ [some (Row.mk ([]) true)])) ((.c (.p ((((h ++ [some (Row.mk (c1) true)]) ++ [some (Row.mk (c2) true)]) ++ [some (Row.mk ([]) true)])).length 0)))) fun v8=>bnd (A4V [v8] ((p7.2 ++ [some (Row.mk ([]) true)]))) fun p9=>bnd (F5 p9.1) fun v10=>A7U n n ((.c (.p ((((((h ++ [some (Row.mk (c1) true)]) ++ [some (Row.mk (c2) true)]) ++ [some (Row.mk ([]) true)]) ++ [some (Row.mk ([.ns]) true)]) ++ [some (H0 [])])).length 0))) ((.c (.sl p7.2.length 0 0 2))) p9.1 v10 (.c (.i .i64 0)) p9.2:=by kernel_rfl
theorem B6w (n m:Nat) (x6 x7 x16 x17 x18:Val) (h:A0):A7U n (m + 1) x6 x7 x16 x17 x18 h=bnd (A4 .lss x18 x17) fun v11=>cnd v11 (bnd (D0 1 x16 x18) fun v12=>bnd (A9 h v12) fun v13=>bnd (A9 h x6) fun v14=>bnd (A3D h none (.c (.i .i64 0)) false v14 v13) fun v15=>bnd (B0 ([.s [],.i .i64 0]) [(0,1,v13),(1,1,v15)]) fun c16=>bnd (B0 (([.s [],.i .i64 0])) [(0,2,(.a c16))]) fun c17=>bnd (E5 ((h ++ [some (Row.mk (c17) true)])) 2 x7 ((.c (.sl h.length 0 1 2)))) fun p18=>bnd (A4 .add x18 (.c (.i .i64 1))) fun v19=>A7U n m x6 p18.1 x16 x17 v19 p18.2) (some (x7,h)):=by kernel_rfl
theorem K_dread_List:FnK Tryz.prog 18 A_dread_List V3 A6j:=.mk' (B3 D4j (B3 D5Z C3)) Tryz.func18 (by kernel_rfl) (by intro n args h;kernel_rfl)
def A2p:Fun:=tidy (Lim A_dread_List V3)
theorem B3b:SOk Tryz.prog 18 A2p:=K_dread_List.sok
theorem D4b {n:Nat} {args:List Val} {h h2:A0} {v:Val} {sz k:Nat} {cs:List Cell} (he:A6j n args (ro h)=some (v,h2)) (ho:Out h.length h2 v sz k cs) (hf:D9 cs=true):A2p args h=some (.c (.sl h.length 0 k sz),h ++ [some ⟨cs,true⟩]):=K_dread_List.out he ho hf
def B6Z:List AOper:=[aO 5 (.box (.t 0))]
def E56:ACode:=.ops B6Z
def B60:List AOper:=[aO 10 (.loadN 4 (.t 2)),aO 11 (.loadN 11 (.t 3)),aO 12 (.mv (.t 1)),aO 13 (.call 10 [(.t 10),(.t 11),(.t 12)]),aO 9 (.mv (.t 13)),aO 14 (.ext (.t 9) 0),aO 15 (.ext (.t 9) 1),aO 7 (.alloc ([.i .i64 0,.i .i64 0,.i .i64 0])),{ dst:=none,op:=.storeN 3 (.t 7) (.t 14) },aO 8 (.mv (.t 15))]
def E58:ACode:=.ops B60
def B61:List AOper:=[aO 16 (.mv (.t 8)),aO 17 (.un .not (.t 16)),aO 18 (.mv (.t 17)),{ dst:=some 19,op:=.loadN 3 (.t 7),guard:=some (18,false) },{ dst:=some 20,op:=.loadN 3 (.t 5),guard:=some (18,false) },{ dst:=some 21,op:=.eqA true ([.i .i64,.i .i64,.i .i64]) (.t 19) (.t 20),guard:=some (18,false) },aO 22 (.pick (.t 18) (.v (.c (.b true))) (.t 21))]
def E6a:ACode:=.ops B61
def B62:List AOper:=[aO 23 (.load1 (.t 4)),aO 24 (.loadN 3 (.t 5)),aO 25 (.buildSl 3 1 (([.i .i64 0,.i .i64 0,.i .i64 0])) [(0,3,(.t 24))]),aO 26 (.app 3 (.t 23) (.t 25)),{ dst:=none,op:=.store1 (.t 4) (.t 26) }]
def E6c:ACode:=.ops B62
def E6e:ACode:=.cond (.t 22) E6c .skip
def E6g:ACode:=.seq [4,5,22] E6a E6e
def E6i:ACode:=.seq [4,5,7,8] E58 E6g
def E6k:ACode:=.seq [1,2,3,4,5] E56 E6i
def A_dread_Stray_1:AFn:=⟨E6k,[]⟩
def A3o:B6:=B1 10 A0g C1
def E57 (n:Nat):SmV:=A2 A3o B6Z
def E59 (n:Nat):SmV:=A2 A3o B60
def E6b (n:Nat):SmV:=A2 A3o B61
def E6d (n:Nat):SmV:=A2 A3o B62
def E6f (n:Nat):SmV:=B8 (.t 22) (E6d n) C0
def E6h (n:Nat):SmV:=A1 [4,5,22] (E6b n) (E6f n)
def E6j (n:Nat):SmV:=A1 [4,5,7,8] (E59 n) (E6h n)
def E6l (n:Nat):SmV:=A1 [1,2,3,4,5] (E57 n) (E6j n)
def B0w (n:Nat) (args:List Val) (h:A0):A6:=(E6l n) A_dread_Stray_1.fin (params 0 args) h
theorem B20 (n:Nat) (a0 a1 a2 a3 a4:Val) (h:A0):B0w n [a0,a1,a2,a3,a4] h=bnd (cells? a0) fun c1=>bnd (A5 ((h ++ [some (Row.mk (c1) true)])) 4 a2) fun v2=>bnd (A5 ((h ++ [some (Row.mk (c1) true)])) 11 a3) fun v3=>bnd (A0g [v2,v3,a1] ((h ++ [some (Row.mk (c1) true)]))) fun p4=>bnd (C2 p4.1 0) fun v5=>bnd (C2 p4.1 1) fun v6=>bnd (B7 ((p4.2 ++ [some (Row.mk ([.i .i64 0,.i .i64 0,.i .i64 0]) true)])) 3 ((.c (.p p4.2.length 0))) v5) fun h7=>bnd (aun .not v6) fun v8=>bnd (gd v8 false (bnd (A5 h7 3 ((.c (.p p4.2.length 0)))) fun v9=>some (v9,h7)) (some (.no,h7))) fun p10=>bnd (gd v8 false (bnd (A5 p10.2 3 ((.c (.p h.length 0)))) fun v11=>some (v11,p10.2)) (some (.no,p10.2))) fun p12=>bnd (gd v8 false (bnd (aeq true ([.i .i64,.i .i64,.i .i64]) p10.1 p12.1) fun v13=>some (v13,p12.2)) (some (.no,p12.2))) fun p14=>bnd (C5 v8 (.c (.b true)) p14.1) fun v15=>cnd v15 (bnd (A9 p14.2 a4) fun v16=>bnd (A5 p14.2 3 ((.c (.p h.length 0)))) fun v17=>bnd (B0 (([.i .i64 0,.i .i64 0,.i .i64 0])) [(0,3,v17)]) fun c18=>bnd (E5 ((p14.2 ++ [some (Row.mk (c18) true)])) 3 v16 ((.c (.sl p14.2.length 0 1 3)))) fun p19=>bnd (F2 p19.2 a4 p19.1) fun h20=>C7 [] h20) (C7 [] p14.2):=by kernel_rfl
theorem K_dread_Stray_1:FnK Tryz.prog 43 A_dread_Stray_1 A3o B0w:=.mk' (B3 A7n C3) Tryz.func43 (by kernel_rfl) (by intro n args h;kernel_rfl)
def A4l:Fun:=Lim A_dread_Stray_1 A3o
theorem D4e:SOk Tryz.prog 43 A4l:=K_dread_Stray_1.ok
theorem B3d {n:Nat} {args:List Val} {h:A0} {p:Val × A0} (he:B0w n args h=some p):A4l args h=some p:=K_dread_Stray_1.of he
def B7l:List AOper:=[aO 3 (.box (.t 0)),aO 4 (.box (.t 1))]
def E7z:ACode:=.ops B7l
def B7m:List AOper:=[aO 10 (.loadN 4 (.t 3)),aO 11 (.loadN 11 (.t 4)),aO 12 (.call 46 [(.t 10),(.t 11)]),aO 13 (.len (.t 12)),aO 14 (.mv (.v (.c (.i .i64 0))))]
def E7B:ACode:=.ops B7m
def B7n:List AOper:=[aO 15 (.bin .lss (.t 14) (.t 13))]
def E7W:ACode:=.ops B7n
def E8e:ACode:=.cond (.t 15) .skip (.exit 0)
def B7o:List AOper:=[aO 16 (.iAddrL 1 (.t 12) (.t 14)),aO 17 (.load1 (.t 16)),aO 7 (.mv (.t 17))]
def E8g:ACode:=.ops B7o
def B7p:List AOper:=[aO 18 (.loadN 4 (.t 3)),aO 19 (.mv (.t 7)),aO 20 (.call 30 [(.t 18),(.t 19)]),aO 21 (.call 47 [(.t 20)]),aO 22 (.len (.t 21)),aO 23 (.mv (.v (.c (.i .i64 0))))]
def E8i:ACode:=.ops B7p
def B7q:List AOper:=[aO 24 (.bin .lss (.t 23) (.t 22))]
def E8k:ACode:=.ops B7q
def E8m:ACode:=.cond (.t 24) .skip (.exit 2)
def B7r:List AOper:=[aO 25 (.iAddrL 3 (.t 21) (.t 23)),aO 26 (.loadN 3 (.t 25)),aO 9 (.alloc ([.i .i64 0,.s [],.i .i64 0])),{ dst:=none,op:=.storeN 3 (.t 9) (.t 26) }]
def E8o:ACode:=.ops B7r
def B7s:List AOper:=[aO 27 (.mv (.t 2)),aO 28 (.mv (.t 7)),aO 29 (.fAddr (.t 9) 0),aO 30 (.load1 (.t 29)),aO 31 (.fAddr (.t 9) 1),aO 32 (.fAddr (.t 31) 1),aO 33 (.load1 (.t 32)),aO 34 (.build ([.i .i64 0,.i .i64 0,.i .i64 0]) [(0,1,(.t 28)),(1,1,(.t 30)),(2,1,(.t 33))]),aO 35 (.fAddr (.t 9) 1),aO 36 (.fAddr (.t 35) 0),aO 37 (.load1 (.t 36)),aO 38 (.callV (.t 27) [(.t 34),(.t 37)])]
def E8q:ACode:=.ops B7s
def E7C:ACode:=.seq [2,3,7,9,12,13,14,21,22,23] E8o E8q
def E7E:ACode:=.block 3 E7C
def B7t:List AOper:=[aO 39 (.bin .add (.t 23) (.v (.c (.i .i64 1)))),aO 23 (.mv (.t 39))]
def E7G:ACode:=.ops B7t
def E7I:ACode:=.seq [2,3,7,12,13,14,21,22,23] E7E E7G
def E7K:ACode:=.seq [2,3,7,12,13,14,21,22,23] E8m E7I
def E7M:ACode:=.seq [2,3,7,12,13,14,21,22,23,24] E8k E7K
def E7N:ACode:=.loop [2,3,7,12,13,14,21,22,23] E7M
def E7P:ACode:=.block 2 E7N
def E7R:ACode:=.seq [2,3,7,12,13,14,21,22,23] E8i E7P
def E7T:ACode:=.seq [2,3,7,12,13,14] E8g E7R
def E7X:ACode:=.block 1 E7T
def B7u:List AOper:=[aO 40 (.bin .add (.t 14) (.v (.c (.i .i64 1)))),aO 14 (.mv (.t 40))]
def E7Z:ACode:=.ops B7u
def E70:ACode:=.seq [2,3,12,13,14] E7X E7Z
def E72:ACode:=.seq [2,3,12,13,14] E8e E70
def E74:ACode:=.seq [2,3,12,13,14,15] E7W E72
def E75:ACode:=.loop [2,3,12,13,14] E74
def E77:ACode:=.block 0 E75
def E79:ACode:=.seq [2,3,12,13,14] E7B E77
def E8b:ACode:=.seq [2,3,4] E7z E79
def A_dread_each__Stray_1:AFn:=⟨E8b,[]⟩
def R6:B6:=B1 46 A2C (B1 30 U2 (B1 47 A03 (B1 43 A4l C1)))
def E7A (n:Nat):SmV:=A2 R6 B7l
def E7V (n:Nat):SmV:=A2 R6 B7m
def E8d (n:Nat):SmV:=A2 R6 B7n
def E8f (n:Nat):SmV:=B8 (.t 15) C0 (E3 0)
def E8h (n:Nat):SmV:=A2 R6 B7o
def E8j (n:Nat):SmV:=A2 R6 B7p
def E8l (n:Nat):SmV:=A2 R6 B7q
def E8n (n:Nat):SmV:=B8 (.t 24) C0 (E3 2)
def E8p (n:Nat):SmV:=A2 R6 B7r
def E8r (n:Nat):SmV:=A2 R6 B7s
def E7D (n:Nat):SmV:=A1 [2,3,7,9,12,13,14,21,22,23] (E8p n) (E8r n)
def E7F (n:Nat):SmV:=C6 3 (E7D n)
def E7H (n:Nat):SmV:=A2 R6 B7t
def E7J (n:Nat):SmV:=A1 [2,3,7,12,13,14,21,22,23] (E7F n) (E7H n)
def E7L (n:Nat):SmV:=A1 [2,3,7,12,13,14,21,22,23] (E8n n) (E7J n)
def B7j (n:Nat):SmV:=A1 [2,3,7,12,13,14,21,22,23,24] (E8l n) (E7L n)
def E7O (n:Nat):SmV:=E4 n [2,3,7,12,13,14,21,22,23] (B7j n)
def E7Q (n:Nat):SmV:=C6 2 (E7O n)
def E7S (n:Nat):SmV:=A1 [2,3,7,12,13,14,21,22,23] (E8j n) (E7Q n)
def E7U (n:Nat):SmV:=A1 [2,3,7,12,13,14] (E8h n) (E7S n)
def E7Y (n:Nat):SmV:=C6 1 (E7U n)
def B7k (n:Nat):SmV:=A2 R6 B7u
def E71 (n:Nat):SmV:=A1 [2,3,12,13,14] (E7Y n) (B7k n)
def E73 (n:Nat):SmV:=A1 [2,3,12,13,14] (E8f n) (E71 n)
def B1K (n:Nat):SmV:=A1 [2,3,12,13,14,15] (E8d n) (E73 n)
def E76 (n:Nat):SmV:=E4 n [2,3,12,13,14] (B1K n)
def E78 (n:Nat):SmV:=C6 0 (E76 n)
def E8a (n:Nat):SmV:=A1 [2,3,12,13,14] (E7V n) (E78 n)
def E8c (n:Nat):SmV:=A1 [2,3,4] (E7A n) (E8a n)
def A71 (n:Nat):AExit → Env → A0 → A6:=fun x e h=>match x with | .exit i=>bif Nat.beq i 0 then A_dread_each__Stray_1.fin .normal e h else A_dread_each__Stray_1.fin (.exit i) e h | .normal=>A_dread_each__Stray_1.fin .normal e h | .ret=>A_dread_each__Stray_1.fin .ret e h
def A74 (n m:Nat) (x2 x3 x12 x13 x14:Val) (h:A0):A6:=E1 (B1K n) [2,3,12,13,14] (A71 n) m [(2,x2),(3,x3),(12,x12),(13,x13),(14,x14)] h
def B0y (n:Nat) (args:List Val) (h:A0):A6:=(E8c n) A_dread_each__Stray_1.fin (params 0 args) h
def B1L (n m:Nat):AExit → Env → A0 → A6:=fun x e h=>match x with | .normal=>E1 (B1K n) [2,3,12,13,14] (A71 n) m (e.keep [2,3,12,13,14]) h | .exit id=>(A71 n) (.exit id) e h | .ret=>(A71 n) .ret e h
def A72 (n m:Nat):AExit → Env → A0 → A6:=fun x e h=>match x with | .normal=>hold ((B7k n) (B1L n m) (e.keep [2,3,12,13,14]) h) | .exit id=>(B1L n m) (.exit id) e h | .ret=>(B1L n m) .ret e h
def A73 (n m:Nat):AExit → Env → A0 → A6:=fun x e h=>match x with | .exit i=>bif Nat.beq i 1 then (A72 n m) .normal e h else (A72 n m) (.exit i) e h | .normal=>(A72 n m) .normal e h | .ret=>(A72 n m) .ret e h
def E8s (n m:Nat):AExit → Env → A0 → A6:=fun x e h=>match x with | .exit i=>bif Nat.beq i 2 then (A73 n m) .normal e h else (A73 n m) (.exit i) e h | .normal=>(A73 n m) .normal e h | .ret=>(A73 n m) .ret e h
def A75 (n m m2:Nat) (x2 x3 x7 x12 x13 x14 x21 x22 x23:Val) (h:A0):A6:=E1 (B7j n) [2,3,7,12,13,14,21,22,23] (E8s n m) m2 [(2,x2),(3,x3),(7,x7),(12,x12),(13,x13),(14,x14),(21,x21),(22,x22),(23,x23)] h
theorem D2s (n:Nat) (a0 a1 a2:Val) (h:A0):B0y n [a0,a1,a2] h=bnd (cells? a0) fun c1=>bnd (cells? a1) fun c2=>bnd (A5 (((h ++ [some (Row.mk (c1) true)]) ++ [some (Row.mk (c2) true)])) 4 ((.c (.p h.length 0)))) fun v3=>bnd (A5 (((h ++ [some (Row.mk (c1) true)]) ++ [some (Row.mk (c2) true)])) 11 ((.c (.p ((h ++ [some (Row.mk (c1) true)])).length 0)))) fun v4=>bnd (A2C [v3,v4] (((h ++ [some (Row.mk (c1) true)]) ++ [some (Row.mk (c2) true)]))) fun p5=>bnd (F5 p5.1) fun v6=>A74 n n a2 ((.c (.p h.length 0))) p5.1 v6 (.c (.i .i64 0)) p5.2:=by kernel_rfl
theorem E8t (n m:Nat) (x2 x3 x12 x13 x14:Val) (h:A0):A74 n (m + 1) x2 x3 x12 x13 x14 h=bnd (A4 .lss x14 x13) fun v7=>cnd v7 (bnd (D0 1 x12 x14) fun v8=>bnd (A9 h v8) fun v9=>bnd (A5 h 4 x3) fun v10=>bnd (U2 [v10,v9] h) fun p11=>bnd (A03 [p11.1] p11.2) fun p12=>bnd (F5 p12.1) fun v13=>A75 n m n x2 x3 v9 x12 x13 x14 p12.1 v13 (.c (.i .i64 0)) p12.2) (C7 [] h):=by kernel_rfl
theorem E8u (n m m2:Nat) (x2 x3 x7 x12 x13 x14 x21 x22 x23:Val) (h:A0):A75 n m (m2 + 1) x2 x3 x7 x12 x13 x14 x21 x22 x23 h=bnd (A4 .lss x23 x22) fun v14=>cnd v14 (bnd (D0 3 x21 x23) fun v15=>bnd (A5 h 3 v15) fun v16=>bnd (B7 ((h ++ [some (Row.mk ([.i .i64 0,.s [],.i .i64 0]) true)])) 3 ((.c (.p h.length 0))) v16) fun h17=>bnd (B9 ((.c (.p h.length 0))) 0) fun v18=>bnd (A9 h17 v18) fun v19=>bnd (B9 ((.c (.p h.length 0))) 1) fun v20=>bnd (B9 v20 1) fun v21=>bnd (A9 h17 v21) fun v22=>bnd (B0 ([.i .i64 0,.i .i64 0,.i .i64 0]) [(0,1,x7),(1,1,v19),(2,1,v22)]) fun c23=>bnd (B9 ((.c (.p h.length 0))) 1) fun v24=>bnd (B9 v24 0) fun v25=>bnd (A9 h17 v25) fun v26=>bnd (M7 R6 x2 [(.a c23),v26] h17) fun p27=>bnd (A4 .add x23 (.c (.i .i64 1))) fun v28=>A75 n m m2 x2 x3 x7 x12 x13 x14 x21 x22 v28 p27.2) (bnd (A4 .add x14 (.c (.i .i64 1))) fun v29=>A74 n m x2 x3 x12 x13 v29 h):=by kernel_rfl
theorem K_dread_each__Stray_1:FnK Tryz.prog 42 A_dread_each__Stray_1 R6 B0y:=.mk' (B3 B3p (B3 A46 (B3 B26 (B3 D4e C3)))) Tryz.func42 (by kernel_rfl) (by intro n args h;kernel_rfl)
def A4n:Fun:=Lim A_dread_each__Stray_1 R6
theorem D4l:SOk Tryz.prog 42 A4n:=K_dread_each__Stray_1.ok
theorem D4k {n:Nat} {args:List Val} {h:A0} {p:Val × A0} (he:B0y n args h=some p):A4n args h=some p:=K_dread_each__Stray_1.of he
def B63:List AOper:=[aO 2 (.box (.t 0)),aO 3 (.box (.t 1)),aO 4 (.nilrow 3)]
def E6m:ACode:=.ops B63
def B64:List AOper:=[aO 5 (.alloc ([.ns]))]
def E6o:ACode:=.ops B64
def B65:List AOper:=[aO 6 (.loadN 4 (.t 2)),aO 7 (.loadN 11 (.t 3)),aO 8 (.mkf 43 [(.t 2),(.t 3),(.t 5)]),aO 9 (.call 42 [(.t 6),(.t 7),(.t 8)])]
def E6q:ACode:=.ops B65
def B66:List AOper:=[aO 10 (.load1 (.t 5)),aO 4 (.mv (.t 10))]
def E6s:ACode:=.ops B66
def E6u:ACode:=.seq [4] E6s .ret
def E6w:ACode:=.seq [5] E6q E6u
def E6y:ACode:=.seq [2,3,5] E6o E6w
def E6A:ACode:=.seq [2,3] E6m E6y
def A_dread_Stray:AFn:=⟨E6A,[.tmp 4]⟩
def A3n:B6:=B1 42 A4n C1
def E6n (n:Nat):SmV:=A2 A3n B63
def E6p (n:Nat):SmV:=A2 A3n B64
def E6r (n:Nat):SmV:=A2 A3n B65
def E6t (n:Nat):SmV:=A2 A3n B66
def E6v (n:Nat):SmV:=A1 [4] (E6t n) A8
def E6x (n:Nat):SmV:=A1 [5] (E6r n) (E6v n)
def E6z (n:Nat):SmV:=A1 [2,3,5] (E6p n) (E6x n)
def E6B (n:Nat):SmV:=A1 [2,3] (E6n n) (E6z n)
def A3t (n:Nat) (args:List Val) (h:A0):A6:=(E6B n) A_dread_Stray.fin (params 0 args) h
theorem D2q (n:Nat) (a0 a1:Val) (h:A0):A3t n [a0,a1] h=bnd (cells? a0) fun c1=>bnd (cells? a1) fun c2=>bnd (A5 (((((h ++ [some (Row.mk (c1) true)]) ++ [some (Row.mk (c2) true)]) ++ [some (Row.mk ([]) true)]) ++ [some (Row.mk ([.ns]) true)])) 4 ((.c (.p h.length 0)))) fun v3=>bnd (A5 (((((h ++ [some (Row.mk (c1) true)]) ++ [some (Row.mk (c2) true)]) ++ [some (Row.mk ([]) true)]) ++ [some (Row.mk ([.ns]) true)])) 11 ((.c (.p ((h ++ [some (Row.mk (c1) true)])).length 0)))) fun v4=>bnd (X8 43 [(.c (.p h.length 0)),(.c (.p ((h ++ [some (Row.mk (c1) true)])).length 0)),(.c (.p ((((h ++ [some (Row.mk (c1) true)]) ++ [some (Row.mk (c2) true)]) ++ [some (Row.mk ([]) true)])).length 0))]) fun v5=>bnd (A4n [v3,v4,v5] (((((h ++ [some (Row.mk (c1) true)]) ++ [some (Row.mk (c2) true)]) ++ [some (Row.mk ([]) true)]) ++ [some (Row.mk ([.ns]) true)]))) fun p6=>bnd (A9 p6.2 ((.c (.p ((((h ++ [some (Row.mk (c1) true)]) ++ [some (Row.mk (c2) true)]) ++ [some (Row.mk ([]) true)])).length 0)))) fun v7=>some (v7,p6.2):=by kernel_rfl
theorem K_dread_Stray:FnK Tryz.prog 16 A_dread_Stray A3n A3t:=.mk' (B3 D4l C3) Tryz.func16 (by kernel_rfl) (by intro n args h;kernel_rfl)
def A2r:Fun:=tidy (Lim A_dread_Stray A3n)
theorem D4g:SOk Tryz.prog 16 A2r:=K_dread_Stray.sok
theorem D4f {n:Nat} {args:List Val} {h h2:A0} {v:Val} (he:A3t n args (ro h)=some (v,h2)) (hf:v.low h.length=true):A2r args h=some (v,h):=K_dread_Stray.low he hf
theorem D4h {n:Nat} {args:List Val} {h h2:A0} {v:Val} {sz k:Nat} {cs:List Cell} (he:A3t n args (ro h)=some (v,h2)) (ho:Out h.length h2 v sz k cs) (hf:D9 cs=true):A2r args h=some (.c (.sl h.length 0 k sz),h ++ [some ⟨cs,true⟩]):=K_dread_Stray.out he ho hf
def B6m:List AOper:=[aO 2 (.box (.t 0)),aO 3 (.box (.t 1)),aO 4 (.mv (.v (.c (.b false))))]
def E3G:ACode:=.ops B6m
def B6n:List AOper:=[aO 5 (.loadN 4 (.t 2)),aO 6 (.loadN 11 (.t 3)),aO 7 (.call 18 [(.t 5),(.t 6)]),aO 8 (.len (.t 7)),aO 9 (.bin .eql (.t 8) (.v (.c (.i .i64 0)))),aO 4 (.mv (.t 9))]
def E3I:ACode:=.ops B6n
def E3K:ACode:=.seq [4] E3I .ret
def E3M:ACode:=.seq [2,3] E3G E3K
def A_dread_Empty:AFn:=⟨E3M,[.tmp 4]⟩
def A5P:B6:=B1 18 A2p C1
def E3H (n:Nat):SmV:=A2 A5P B6m
def E3J (n:Nat):SmV:=A2 A5P B6n
def E3L (n:Nat):SmV:=A1 [4] (E3J n) A8
def E3N (n:Nat):SmV:=A1 [2,3] (E3H n) (E3L n)
def A6i (n:Nat) (args:List Val) (h:A0):A6:=(E3N n) A_dread_Empty.fin (params 0 args) h
theorem D2m (n:Nat) (a0 a1:Val) (h:A0):A6i n [a0,a1] h=bnd (cells? a0) fun c1=>bnd (cells? a1) fun c2=>bnd (A5 (((h ++ [some (Row.mk (c1) true)]) ++ [some (Row.mk (c2) true)])) 4 ((.c (.p h.length 0)))) fun v3=>bnd (A5 (((h ++ [some (Row.mk (c1) true)]) ++ [some (Row.mk (c2) true)])) 11 ((.c (.p ((h ++ [some (Row.mk (c1) true)])).length 0)))) fun v4=>bnd (A2p [v3,v4] (((h ++ [some (Row.mk (c1) true)]) ++ [some (Row.mk (c2) true)]))) fun p5=>bnd (F5 p5.1) fun v6=>bnd (A4 .eql v6 (.c (.i .i64 0))) fun v7=>some (v7,p5.2):=by kernel_rfl
theorem K_dread_Empty:FnK Tryz.prog 19 A_dread_Empty A5P A6i:=.mk' (B3 B3b C3) Tryz.func19 (by kernel_rfl) (by intro n args h;kernel_rfl)
def A4j:Fun:=tidy (Lim A_dread_Empty A5P)
theorem D39:SOk Tryz.prog 19 A4j:=K_dread_Empty.sok
theorem D38 {n:Nat} {args:List Val} {h h2:A0} {v:Val} (he:A6i n args (ro h)=some (v,h2)) (hf:v.flat=true):A4j args h=some (v,h):=K_dread_Empty.flat he hf
end Go.Proofs.YtdgggnlbdoiloaaGreat
end
section
namespace Go.Proofs.YtdgggnlbdoiloaaGreat
open Go Go.Esc
def O9 (X:List Int) (nm:List UInt8):Nat:=K0 nm % G0 (X.headD 0)
def U9 (X:List Int) (nm:List UInt8):Int:=X.tail.getD (O9 X nm) 0
theorem C3k (X:List Int) (nm:List UInt8):O9 X nm < 32:=by
  have h1:=A3T (X.headD 0)
  have h2:0 < G0 (X.headD 0):=by unfold G0;exact Nat.two_pow_pos _
  have:=Nat.mod_lt (K0 nm) h2
  unfold O9;omega
def Z0 (D:Dev) (n k:Int) (d:List Int) (nm:List UInt8):List Part :=
  bif L9 D n k d then [.c (.i .i64 (O9 (J8 D n k d) nm:Nat)),.c (.i .i64 (U9 (J8 D n k d) nm)),.c (.b true)] else [.c (.i .i64 0),.c (.i .i64 0),.c (.b false)]
theorem B6Q {D:Dev} {n m k l s p:Int} {d:List Int} {f:Cell} {nm:List UInt8} {h:A0} (hD:okD D) (hd:d.length=7) (hv:IsView h f D) (hs:nm.length < 9223372036854775807) :
    A2q [.a (vwC D.length n m f),.a (A7 k l s p d),.c (.s nm)] h=some (.t (Z0 D n k d nm),h):=by
  have key:∀ g,IsView g f D → ∃ g',A6l 0 [.a (vwC D.length n m f),.a (A7 k l s p d),.c (.s nm)] g=some (.t (Z0 D n k d nm),g'):=by
    intro g hv
    have hIl:(A7 k l s p d).length=11:=by simp [A7,G6,hd]
    have l11:ldN (some (Row.mk (A7 k l s p d) true)) 0 11=some (.a (A7 k l s p d)):=P4 hIl
    have l4:=A38 (b:=D.length) (n:=n) (m:=m) (f:=f)
    have hz:(encI (0 :: zI 32)).length=33:=I6 (d:=0) K7
    have hX:=B16 D n k d
    have hI:=C2G (n:=n) (m:=m) (k:=k) (l:=l) (s:=s) (p:=p) (h:=g ++ [some (Row.mk (vwC D.length n m f) true),some (Row.mk (A7 k l s p d) true)]) hD hd (hv.more _)
    rw [D2p,Z3]
    unfold Z0
    cases c:L9 D n k d with
    | false =>
      rw [c] at hI
      generalize encI (J8 D n k d)=x at *
      generalize encI (0 :: zI 32)=z at *
      generalize vwC D.length n m f=V at *
      generalize A7 k l s p d=I at *
      exact ⟨_,by simp only [esc,esh,Nat.reduceAdd,Nat.reduceMul,Nat.reduceLT,l4,l11,hI,hz,hX] <;> rfl⟩
    | true =>
      rw [c] at hI
      have hM:=fun h=>C6u (s:=nm) hs (h:=h)
      obtain ⟨x,t,e,ht⟩:=B15 D n k d
      rw [e] at hI hX ⊢
      have hP:=fun h=>H3l (d:=x) (h:=h) ht (A9p (s:=nm))
      have hlt:=C3k (x :: t) nm
      have eP:K0 nm % G0 x=O9 (x :: t) nm:=rfl
      rw [eP] at hP
      have ad:∀ q,D7 32 1 (.c (.p q 1)) (.c (.i .i64 (O9 (x :: t) nm:Nat)))=some (.c (.p q (1 + O9 (x :: t) nm))):=fun q=>by
        rw [B3M (by omega) (by omega)];simp
      have l1:ld1 (some (Row.mk (encI (x :: t)) true)) (1 + O9 (x :: t) nm)=some (.c (.i .i64 (U9 (x :: t) nm))):=by
        rw [B2k]
        have:(encI (x :: t))[1 + O9 (x :: t) nm]? = some (.i .i64 (U9 (x :: t) nm)):=by
          rw [Y2,Nat.add_comm,List.getElem?_cons_succ,List.getElem?_eq_getElem (by omega)]
          unfold U9
          rw [List.tail_cons,List.getD_eq_getElem?_getD,List.getElem?_eq_getElem (by omega)];rfl
        rw [this];rfl
      generalize U9 (x :: t) nm=B at *
      generalize O9 (x :: t) nm=P at *
      generalize encI (x :: t)=X at *
      generalize encI (0 :: zI 32)=z at *
      generalize vwC D.length n m f=V at *
      generalize A7 k l s p d=I at *
      exact ⟨_,by simp only [esc,W0,R8,A3C,A1d,A1f,W1,P4,A37,Nat.reduceAdd,l4,l11,hI,hz,hX,hM,hP,ad,l1] <;> rfl⟩
  obtain ⟨g',e⟩:=key (ro h) hv.ro
  exact D4d e (by unfold Z0;cases L9 D n k d <;> rfl)
abbrev Plc:=Int × Nat × Int
def E2:Option Plc → List Cell
  | none=>[.i .i64 0,.i .i64 0,.i .i64 0]
  | some p=>[.i .i64 p.1,.i .i64 (p.2.1:Int),.i .i64 p.2.2]
theorem J3K (o:Option Plc):(E2 o).length=3:=by cases o <;> rfl
def J5 (D:Dev) (n k:Int) (d:List Int) (nm:List UInt8):Option Plc :=
  if L9 D n k d=true ∧ N0 D.length n (U9 (J8 D n k d) nm)=true then (J3 (blk D (U9 (J8 D n k d) nm)) nm).map fun s=>(U9 (J8 D n k d) nm,s.1,s.2.2) else none
theorem A7V {D:Dev} {n m k l s p:Int} {d:List Int} {f:Cell} {nm:List UInt8} {h:A0} (hD:okD D) (hd:d.length=7) (hv:IsView h f D) (hs:nm.length < 9223372036854775807) :
    A0g [.a (vwC D.length n m f),.a (A7 k l s p d),.c (.s nm)] h=some (.t [.a (E2 (J5 D n k d nm)),.c (.b (J5 D n k d nm).isSome)],h):=by
  have key:∀ g,IsView g f D → ∃ g',A6k 0 [.a (vwC D.length n m f),.a (A7 k l s p d),.c (.s nm)] g=some (.t [.a (E2 (J5 D n k d nm)),.c (.b (J5 D n k d nm).isSome)],g'):=by
    intro g hv
    have hIl:(A7 k l s p d).length=11:=by simp [A7,G6,hd]
    have l11:ldN (some (Row.mk (A7 k l s p d) true)) 0 11=some (.a (A7 k l s p d)):=P4 hIl
    have l4:=A38 (b:=D.length) (n:=n) (m:=m) (f:=f)
    have l3:=B0j (b:=D.length) (n:=n) (m:=m) (f:=f)
    have ef:B0 [Cell.i .i64 0,.i .i64 0,.i .i64 0] []=some [Cell.i .i64 0,.i .i64 0,.i .i64 0]:=rfl
    have l3z:ldN (some (Row.mk [Cell.i .i64 0,.i .i64 0,.i .i64 0] true)) 0 3=some (.a [Cell.i .i64 0,.i .i64 0,.i .i64 0]):=rfl
    have s3z:∀ x,stN (some (Row.mk [Cell.i .i64 0,.i .i64 0,.i .i64 0] true)) 0 3 [Cell.i .i64 x,.i .i64 0,.i .i64 0]=some ⟨[Cell.i .i64 x,.i .i64 0,.i .i64 0],true⟩:=fun _=>rfl
    have hR:=B6Q (n:=n) (m:=m) (k:=k) (l:=l) (s:=s) (p:=p) (nm:=nm) (h:=g ++ [some (Row.mk (vwC D.length n m f) true),some (Row.mk (A7 k l s p d) true),some (Row.mk [.i .i64 0,.i .i64 0,.i .i64 0] true)]) hD hd (hv.more _) hs
    rw [D2o]
    unfold J5
    unfold Z0 at hR
    cases c:L9 D n k d with
    | false =>
      rw [c,cond_false] at hR
      rw [if_neg (by simp)]
      generalize vwC D.length n m f=V at *
      generalize A7 k l s p d=I at *
      exact ⟨_,by simp only [esc,esh,Nat.reduceAdd,Nat.reduceMul,Nat.reduceLT,l4,l11,hR,ef,l3z,s3z,E2,Option.isSome_none] <;> rfl⟩
    | true =>
      rw [c,cond_true] at hR
      generalize O9 (J8 D n k d) nm=P at *
      generalize U9 (J8 D n k d) nm=B at *
      have hG:=fun h=>B12 (b:=D.length) (n:=n) (m:=m) (i:=B) (h:=h)
      cases c2:N0 D.length n B with
      | false =>
        simp only [c2] at hG
        rw [if_neg (by simp)]
        generalize vwC D.length n m f=V at *
        generalize A7 k l s p d=I at *
        exact ⟨_,by simp only [esc,esh,Nat.reduceAdd,Nat.reduceMul,Nat.reduceLT,l4,l11,l3,hR,hG,ef,l3z,s3z,E2,Option.isSome_none] <;> rfl⟩
      | true =>
        simp only [c2] at hG
        rw [if_pos ⟨rfl,rfl⟩]
        have hB:=B0i (n:=n) (m:=m) (no:=B) (h:=g ++ [some (Row.mk (vwC D.length n m f) true),some (Row.mk (A7 k l s p d) true),some (Row.mk [.i .i64 0,.i .i64 0,.i .i64 0] true)]) hD (hv.more _)
        have hF:=fun h=>B4v (b:=blk D B) (nm:=nm) (h:=h) (A5d hD)
        cases c3:J3 (blk D B) nm with
        | none =>
          simp only [c3] at hF
          generalize A3 (blk D B)=y at *
          generalize vwC D.length n m f=V at *
          generalize A7 k l s p d=I at *
          have s3:stN (some (Row.mk [Cell.i .i64 0,.s [],.i .i64 0] true)) 0 3 (slC none)=some ⟨slC none,true⟩:=rfl
          exact ⟨_,by simp only [esc,esh,Nat.reduceAdd,Nat.reduceMul,Nat.reduceLT,l4,l11,l3,hR,hG,hB,hF,ef,l3z,s3z,s3,E2,Option.isSome_none,Option.map_none] <;> rfl⟩
        | some sl =>
          obtain ⟨kk,s',i'⟩:=sl
          simp only [c3] at hF
          generalize A3 (blk D B)=y at *
          generalize vwC D.length n m f=V at *
          generalize A7 k l s p d=I at *
          have s3:stN (some (Row.mk [Cell.i .i64 0,.s [],.i .i64 0] true)) 0 3 (slC (some (kk,s',i')))=some ⟨slC (some (kk,s',i')),true⟩:=rfl
          have g0:ld1 (some (Row.mk (slC (some (kk,s',i'))) true)) 0=some (.c (.i .i64 (kk:Int))):=rfl
          have g2:ld1 (some (Row.mk (slC (some (kk,s',i'))) true)) 2=some (.c (.i .i64 i')):=rfl
          have ef3:B0 [Cell.i .i64 0,.i .i64 0,.i .i64 0] [(0,1,.c (.i .i64 B)),(1,1,.c (.i .i64 (kk:Int))),(2,1,.c (.i .i64 i'))]=some [Cell.i .i64 B,.i .i64 (kk:Int),.i .i64 i']:=rfl
          have s33:stN (some (Row.mk [Cell.i .i64 0,.i .i64 0,.i .i64 0] true)) 0 3 [Cell.i .i64 B,.i .i64 (kk:Int),.i .i64 i']=some ⟨[Cell.i .i64 B,.i .i64 (kk:Int),.i .i64 i'],true⟩:=rfl
          have l33:ldN (some (Row.mk [Cell.i .i64 B,.i .i64 (kk:Int),.i .i64 i'] true)) 0 3=some (.a [Cell.i .i64 B,.i .i64 (kk:Int),.i .i64 i']):=rfl
          exact ⟨_,by simp only [esc,W0,R8,A3C,A1d,A1f,W1,P4,A37,Nat.reduceAdd,l4,l11,l3,hR,hG,hB,hF,ef,s3,g0,g2,ef3,s33,l33,E2,Option.isSome_some,Option.map_some] <;> rfl⟩
  obtain ⟨g',e⟩:=key (ro h) hv.ro
  exact D4c e (by cases J5 D n k d nm <;> rfl)
end Go.Proofs.YtdgggnlbdoiloaaGreat
end
section
namespace Go.Proofs.YtdgggnlbdoiloaaGreat
open Go Go.Esc
def J7 (l:List Slt):List Cell:=(l.map fun x=>slC (some x)).flatten
theorem A96 {l:List Slt}:(J7 l).length=l.length * 3:=by
  induction l with
  | nil=>rfl
  | cons x l ih=>simp only [J7,List.map_cons,List.flatten_cons,List.length_append,A17,List.length_cons] at ih ⊢;omega
theorem J5g {l:List Slt} {x:Slt}:J7 (l ++ [x])=J7 l ++ slC (some x):=by simp [J7]
theorem J5f {l:List Slt}:D9 (J7 l)=true:=by
  induction l with
  | nil=>rfl
  | cons x l ih =>
    have:J7 (x :: l)=slC (some x) ++ J7 l:=rfl
    rw [this,A8L,D0r,ih];rfl
theorem I6I {l:List Slt}:noX (J7 l)=true:=by
  induction l with
  | nil=>rfl
  | cons x l ih =>
    have:J7 (x :: l)=[.i .i64 (x.1:Int),.s x.2.1,.i .i64 x.2.2] ++ J7 l:=rfl
    rw [this]
    simp [noX,Cell.isX] at ih ⊢
    exact ih
def R1 (b:List UInt8):Nat → Nat → List Slt
  | 0,_=>[]
  | e + 1,k=>match H7 b k with
    | some x=>(k,x) :: R1 b e (k + 1)
    | none=>R1 b e (k + 1)
def K9 (b:List UInt8):List Slt:=R1 b 7 0
theorem C55 {b:List UInt8} {e k:Nat} (hx:H7 b k=none):R1 b (e + 1) k=R1 b e (k + 1):=by rw [R1,hx]
theorem C56 {b:List UInt8} {e k:Nat} {x:Ent} (hx:H7 b k=some x):R1 b (e + 1) k=(k,x) :: R1 b e (k + 1):=by rw [R1,hx]
theorem D7c {h:A0} {jd m sz:Nat} {ys:List Cell} (hy:rd h jd=some ⟨ys,true⟩) (hyl:ys.length=m * sz) (hsz:0 < sz) (hn:m ≤ 1073741824) :
    E5 h sz (.c .ns) (.c (.sl jd 0 m sz))=some (.c (.sl h.length 0 m sz),h ++ [some ⟨ys,true⟩]):=by
  have h2:M3 h sz (.c (.sl jd 0 m sz))=some ys:=by
    simp only [M3,if_true,W8,hy,Option.bind_some,List.drop_zero,Nat.zero_add]
    rw [← hyl,List.take_length,if_pos ⟨Nat.le_refl _,rfl⟩]
  have e1:ys.length / sz=m:=by rw [hyl];exact Nat.mul_div_cancel _ hsz
  simp only [E5,h2,Option.bind_some]
  rw [e1,if_pos hn]
def Held (h:A0) (x:Cell) (l:List Slt) (b r0 r:Nat):Prop:=(l=[] ∧ x=.ns) ∨ ∃ id,x=.sl id 0 l.length 3 ∧ rd h id=some ⟨J7 l,true⟩ ∧ b ≤ id ∧ id ≠ r0 ∧ id ≠ r
theorem Held.more {h:A0} {x:Cell} {l:List Slt} {b r0 r:Nat} (hd:Held h x l b r0 r) (t:A0):Held (h ++ t) x l b r0 r:=by
  rcases hd with hd | ⟨id,h1,h2,h3⟩
  · exact .inl hd
  · exact .inr ⟨id,h1,C8 h2,h3⟩
theorem I0N {k:Nat} {n:Int} {s:List UInt8} {x:Cell} {l:List Slt} {r0 r:Nat} {B h:A0} {c0:List Cell} (hlow:Low B.length B h) (hr:rd h r=some ⟨[x],true⟩) (h0:rd h r0=some ⟨c0,true⟩) (h0r:r0 ≠ r) (hBr:B.length ≤ r) (hB0:B.length ≤ r0) (hd:Held h x l B.length r0 r) (hl:l.length ≤ 7) :
    ∃ x' h',A4f [.a [.i .i64 (k:Int),.s s,.i .i64 n],.c (.p r 0)] h=some (.c (.b true),h') ∧ Low B.length B h' ∧ rd h' r=some ⟨[x'],true⟩ ∧ rd h' r0=some ⟨c0,true⟩ ∧ Held h' x' (l ++ [(k,(s,n))]) B.length r0 r:=by
  have hlt:=D5 hr
  have hlt0:=D5 h0
  have l1:A9 (h ++ [some (Row.mk [.i .i64 (k:Int),.s s,.i .i64 n] true)]) (.c (.p r 0))=some (.c x):=K6 (cs:=[x]) (C8 hr) rfl (by simp)
  have ef:B0 [Cell.i .i64 0,.s [],.i .i64 0] [(0,3,.a [.i .i64 (k:Int),.s s,.i .i64 n])]=some [.i .i64 (k:Int),.s s,.i .i64 n]:=rfl
  have hBh:=hlow.2.1
  rcases hd with ⟨rfl,rfl⟩ | ⟨id,rfl,hi,hbi,hi0,hir⟩
  · have hA:=D7c (h:=h ++ [some (Row.mk [.i .i64 (k:Int),.s s,.i .i64 n] true),some (Row.mk [.i .i64 (k:Int),.s s,.i .i64 n] true)]) (jd:=h.length + 1) (m:=1) (sz:=3) (ys:=[.i .i64 (k:Int),.s s,.i .i64 n]) (by simp) rfl (by omega) (by omega)
    simp only [List.length_append,List.length_cons,List.length_nil,Nat.zero_add,List.append_assoc,List.cons_append,List.nil_append,Nat.reduceAdd] at hA
    have hr2:rd (h ++ [some (Row.mk [.i .i64 (k:Int),.s s,.i .i64 n] true),some (Row.mk [.i .i64 (k:Int),.s s,.i .i64 n] true),some (Row.mk [.i .i64 (k:Int),.s s,.i .i64 n] true)]) r=some ⟨[.ns],true⟩:=C8 hr
    have t1:=Z1 (x:=.sl (h.length + 2) 0 1 3) (off:=0) hr2 (by simp)
    refine ⟨.sl (h.length + 2) 0 1 3,_,B25 (n:=0) (by rw [B2Z];simp only [esc,esh,Nat.reduceAdd,Nat.reduceMul,Nat.reduceLT,l1,ef,hA,t1] <;> rfl),(hlow.new _).set hBr _,?_,?_,.inr ⟨h.length + 2,rfl,?_,by omega,by omega,by omega⟩⟩
    · exact I5 (D5 hr2)
    · rw [G3 (Ne.symm h0r)];exact C8 h0
    · rw [G3 (by omega)];simp [J7,slC]
  · have hA:=R9 (h:=h ++ [some (Row.mk [.i .i64 (k:Int),.s s,.i .i64 n] true),some (Row.mk [.i .i64 (k:Int),.s s,.i .i64 n] true)]) (id:=id) (jd:=h.length + 1) (n:=l.length) (m:=1) (sz:=3) (cs:=J7 l) (ys:=[.i .i64 (k:Int),.s s,.i .i64 n]) (rw:=true) (C8 hi) A96 (by simp) rfl rfl (by omega) (by omega)
    have hli:=D5 hi
    have es:(h ++ [some (Row.mk [.i .i64 (k:Int),.s s,.i .i64 n] true),some (Row.mk [.i .i64 (k:Int),.s s,.i .i64 n] true)]).length=h.length + 2:=by simp
    rw [es] at hA
    have hr2:rd ((h ++ [some (Row.mk [.i .i64 (k:Int),.s s,.i .i64 n] true),some (Row.mk [.i .i64 (k:Int),.s s,.i .i64 n] true)]).set id none ++ [some (Row.mk (J7 l ++ [.i .i64 (k:Int),.s s,.i .i64 n]) true)]) r=some ⟨[.sl id 0 l.length 3],true⟩:=by
      refine C8 ?_
      rw [G3 hir];exact C8 hr
    have t1:=Z1 (x:=.sl (h.length + 2) 0 (l.length + 1) 3) (off:=0) hr2 (by simp)
    refine ⟨.sl (h.length + 2) 0 (l.length + 1) 3,_,B25 (n:=0) (by rw [B2Z];simp only [esc,esh,Nat.reduceAdd,Nat.reduceMul,Nat.reduceLT,l1,ef,hA,t1] <;> rfl),(((hlow.new _).set hbi _).new _).set hBr _,?_,?_,.inr ⟨h.length + 2,by simp,?_,by omega,by omega,by omega⟩⟩
    · exact I5 (D5 hr2)
    · rw [G3 (Ne.symm h0r)]
      refine C8 ?_
      rw [G3 hi0];exact C8 h0
    · rw [G3 (by omega),J5g]
      have:((h ++ [some (Row.mk [.i .i64 (k:Int),.s s,.i .i64 n] true),some (Row.mk [.i .i64 (k:Int),.s s,.i .i64 n] true)]).set id none).length=h.length + 2:=by simp
      rw [← this]
      exact N2
theorem B1N {b:List UInt8} {r0 r q:Nat} {B:A0} (hb:b.length=256) (h0r:r0 ≠ r) (hBr:B.length ≤ r) (hB0:B.length ≤ r0):∀ (e k m:Nat) (h:A0) (x:Cell) (l:List Slt),k + e=7 → e < m → l.length ≤ k → Low B.length B h →
    rd h r=some ⟨[x],true⟩ → rd h r0=some ⟨A3 b,true⟩ → Held h x l B.length r0 r →
    ∃ x' h',A7K q m (.c (.f 84 [(r,0)])) (.c (.p r0 0)) (.c (.i .i64 (k:Int))) h=some (.t [],h') ∧ Low B.length B h' ∧ rd h' r=some ⟨[x'],true⟩ ∧ Held h' x' (l ++ R1 b e k) B.length r0 r
  | e,k,0,h,x,l,_,hm,_,_,_,_,_=>by omega
  | 0,k,m + 1,h,x,l,hk,hm,hl,hlow,hr,h0,hd=>by
    have e0:k=7:=by omega
    subst e0
    have c0:¬ ((7:Nat):Int) < 7:=by omega
    refine ⟨x,h,?_,hlow,hr,by rw [R1,List.append_nil];exact hd⟩
    rw [B5k]
    simp only [esc,c0] <;> rfl
  | e + 1,k,m + 1,h,x,l,hk,hm,hl,hlow,hr,h0,hd=>by
    have c0:(k:Int) < 7:=by omega
    have hbl:(A3 b).length=256:=by rw [B4,hb]
    have s1:=G9 (h:=h) (id:=r0) h0 hbl
    have hR:=B5B (h:=h) (k:=k) hb (by omega)
    have w1:=E6 (show k + 1 < 9223372036854775808 by omega)
    have hcv:∀ (x:Val) (h:A0),M7 Z5 (.c (.f 84 [(r,0)])) [x] h=A4f [x,.c (.p r 0)] h:=fun _ _=>Eq.trans rfl rfl
    rw [B5k]
    cases hx:H7 b k with
    | none =>
      rw [hx] at hR
      rw [C55 hx]
      obtain ⟨x',h',f1,f2⟩:=B1N (q:=q) hb h0r hBr hB0 e (k + 1) m (h ++ [some ⟨[.s [],.i .i64 0],true⟩]) x l (by omega) (by omega) (by omega) (hlow.new _) (C8 hr) (C8 h0) (hd.more _)
      refine ⟨x',h',?_,f2⟩
      generalize A3 b=y at *
      simp only [esc,esh,Nat.reduceAdd,Nat.reduceMul,Nat.reduceLT,c0,s1,hR,E9,Option.isSome_none,w1]
      exact f1
    | some en =>
      obtain ⟨s,n⟩:=en
      rw [hx] at hR
      rw [C56 hx]
      have ef:B0 [Cell.i .i64 0,.s [],.i .i64 0] [(0,1,.c (.i .i64 (k:Int))),(1,2,.a [.s s,.i .i64 n])]=some [.i .i64 (k:Int),.s s,.i .i64 n]:=rfl
      obtain ⟨x1,h1,g1,g2,g3,g4,g5⟩:=I0N (k:=k) (n:=n) (s:=s) (hlow.new [some (Row.mk [.s s,.i .i64 n] true)]) (C8 hr) (C8 h0) h0r hBr hB0 (hd.more _) (by omega)
      obtain ⟨x',h',f1,f2,f3,f4⟩:=B1N (q:=q) hb h0r hBr hB0 e (k + 1) m h1 x1 (l ++ [(k,(s,n))]) (by omega) (by omega) (by simp;omega) g2 g3 g4 g5
      rw [List.append_assoc,List.singleton_append] at f4
      refine ⟨x',h',?_,f2,f3,f4⟩
      generalize A3 b=y at *
      simp only [esc,esh,Nat.reduceAdd,Nat.reduceMul,Nat.reduceLT,c0,s1,hR,E9,Option.isSome_some,ef,hcv,g1,w1]
      exact f1
theorem D8d {b:List UInt8} {h:A0} (hb:b.length=256):∃ v t,A03 [.a (A3 b)] h=some (v,h ++ t) ∧ Has (h ++ t) v 3 (K9 b).length (J7 (K9 b)) ∧ (t=[] ∧ v=.c .ns ∧ K9 b=[] ∨ t=[some ⟨J7 (K9 b),true⟩] ∧ v=.c (.sl h.length 0 (K9 b).length 3)):=by
  have key:∀ g,∃ x g',A4d 8 [.a (A3 b)] g=some (.c x,g') ∧ Held g' x (K9 b) g.length (g.length + 3) (g.length + 2):=by
    intro g
    have hbl:(A3 b).length=256:=by rw [B4,hb]
    have emk:X8 84 [.c (.p (g.length + 2) 0)]=some (.c (.f 84 [(g.length + 2,0)])):=rfl
    obtain ⟨x,h',f1,f2,f3,f4⟩:=B1N (b:=b) (r0:=g.length + 3) (r:=g.length + 2) (q:=8) (B:=g) hb (by omega) (by omega) (by omega) 7 0 8 (g ++ [some (Row.mk (A3 b) true),some (Row.mk [] true),some (Row.mk [.ns] true),some (Row.mk (A3 b) true)]) .ns [] (by omega) (by omega) (by simp)
      ((Low.refl (Nat.le_refl _)).new _) (by simp) (by simp) (.inl ⟨rfl,rfl⟩)
    have hS:A4h [.a (A3 b),.c (.f 84 [(g.length + 2,0)])] (g ++ [some (Row.mk (A3 b) true),some (Row.mk [] true),some (Row.mk [.ns] true)])=some (.t [],h'):=by
      refine D30 (n:=8) ?_
      rw [D2g]
      simp only [esc,esh,Nat.reduceAdd,Nat.reduceMul,Nat.reduceLT]
      exact f1
    have t1:A9 h' (.c (.p (g.length + 2) 0))=some (.c x):=K6 (cs:=[x]) f3 rfl (by simp)
    rw [D2d]
    generalize A3 b=y at *
    exact ⟨x,h',by simp only [esc,esh,Nat.reduceAdd,Nat.reduceMul,Nat.reduceLT,hbl,emk,hS,t1],f4⟩
  obtain ⟨x,g',e,hd⟩:=key (ro h)
  rcases hd with ⟨hl,rfl⟩ | ⟨id,rfl,hr,hbi,_⟩
  · refine ⟨.c .ns,[],?_,?_,.inl ⟨rfl,rfl,hl⟩⟩
    · rw [List.append_nil];exact D3U e (by simp [Val.low,Cell.low,Cell.flat])
    · rw [hl];exact .inl ⟨rfl,rfl,rfl⟩
  · rw [L6] at hbi
    refine ⟨.c (.sl h.length 0 (K9 b).length 3),[some ⟨J7 (K9 b),true⟩],D3V e ⟨A96,id,rfl,hbi,hr⟩ J5f,Has.row (rw:=true) (by simp) A96 I6I,.inr ⟨rfl,rfl⟩⟩
end Go.Proofs.YtdgggnlbdoiloaaGreat
end
section
namespace Go.Proofs.YtdgggnlbdoiloaaGreat
open Go Go.Esc
def B0p (h:A0) (x:Cell) (cs:List Cell) (n sz b:Nat) (rs:List Nat):Prop:=(n=0 ∧ cs=[] ∧ x=.ns) ∨ ∃ id,x=.sl id 0 n sz ∧ rd h id=some ⟨cs,true⟩ ∧ cs.length=n * sz ∧ b ≤ id ∧ id ∉ rs
def VarC (h:A0) (r:Nat) (cs:List Cell) (n sz b:Nat) (rs:List Nat):Prop:=∃ x,rd h r=some ⟨[x],true⟩ ∧ B0p h x cs n sz b rs
theorem VarC.nil {h:A0} {r sz b:Nat} {rs:List Nat} (hr:rd h r=some ⟨[.ns],true⟩):VarC h r [] 0 sz b rs:=⟨.ns,hr,.inl ⟨rfl,rfl,rfl⟩⟩
theorem VarC.keep {h h':A0} {r n sz b:Nat} {cs:List Cell} {rs:List Nat} (hv:VarC h r cs n sz b rs) (h1:rd h' r=rd h r) (h2:∀ id,id ∉ rs → ∀ x,rd h id=some x → rd h' id=some x):VarC h' r cs n sz b rs:=by
  obtain ⟨x,hx,hd⟩:=hv
  refine ⟨x,by rw [h1];exact hx,?_⟩
  rcases hd with hd | ⟨id,e,hr,hl,hb,hn⟩
  · exact .inl hd
  · exact .inr ⟨id,e,h2 id hn _ hr,hl,hb,hn⟩
theorem VarC.more {h:A0} {r n sz b:Nat} {cs:List Cell} {rs rs':List Nat} (hv:VarC h r cs n sz b rs) (t:A0) (hrs:∀ j ∈ rs',j ∈ rs ∨ h.length ≤ j):VarC (h ++ t) r cs n sz b rs':=by
  obtain ⟨x,hx,hd⟩:=hv
  refine ⟨x,C8 hx,?_⟩
  rcases hd with hd | ⟨id,e,hr,hl,hb,hn⟩
  · exact .inl hd
  · refine .inr ⟨id,e,C8 hr,hl,hb,fun hm=>?_⟩
    have:=D5 hr
    rcases hrs id hm with h1 | h1
    · exact hn h1
    · omega
theorem VarC.fewer {h:A0} {r n sz b:Nat} {cs:List Cell} {rs rs':List Nat} (hv:VarC h r cs n sz b rs) (hrs:∀ j ∈ rs',j ∈ rs):VarC h r cs n sz b rs':=by
  have:=hv.more (rs':=rs') [] (fun j hj=>.inl (hrs j hj))
  rwa [List.append_nil] at this
theorem VarC.push {h:A0} {r n sz b:Nat} {cs ys:List Cell} {rs:List Nat} (hv:VarC h r cs n sz b rs) (hr:r ∈ rs) (hbr:b ≤ r) (hbh:b ≤ h.length) (hlt:∀ j ∈ rs,j < h.length) (hl:n ≤ 100000) (hy:ys.length=sz) (hsz:0 < sz) :
    ∃ x v h2 h3,A9 h (.c (.p r 0))=some (.c x) ∧ E5 (h ++ [some ⟨ys,true⟩]) sz (.c x) (.c (.sl h.length 0 1 sz))=some (.c v,h2) ∧ F2 h2 (.c (.p r 0)) (.c v)=some h3 ∧
      VarC h3 r (cs ++ ys) (n + 1) sz b rs ∧ Low b h h3 ∧ (∀ j ∈ rs,j ≠ r → rd h3 j=rd h j) ∧ h.length ≤ h3.length:=by
  obtain ⟨x,hx,hd⟩:=hv
  have hrl:=D5 hx
  have l1:A9 h (.c (.p r 0))=some (.c x):=K6 hx rfl (by simp)
  rcases hd with ⟨rfl,rfl,rfl⟩ | ⟨id,rfl,hi,hcl,hb,hn⟩
  · have hA:=B37 (h:=h ++ [some ⟨ys,true⟩]) (jd:=h.length) (m:=1) (sz:=sz) (ys:=ys) (by simp) (by omega) hsz (by omega)
    have e1:(h ++ [some (Row.mk ys true)]).length=h.length + 1:=by simp
    rw [e1] at hA
    have hr2:rd (h ++ [some (Row.mk ys true)] ++ [some (Row.mk ys true)]) r=some ⟨[.ns],true⟩:=C8 (C8 hx)
    have s1:=Z1 (x:=.sl (h.length + 1) 0 1 sz) (off:=0) hr2 (by simp)
    refine ⟨.ns,_,_,_,l1,hA,s1,⟨.sl (h.length + 1) 0 1 sz,I5 (D5 hr2),.inr ⟨h.length + 1,rfl,?_,by simp [hy],by omega,fun h1=>by have:=hlt _ h1;omega⟩⟩,(((Low.refl hbh).new _).new _).set hbr _,fun j hj hjr=>?_,by simp⟩
    · rw [G3 (by omega)]
      have:=N2 (h:=h ++ [some (Row.mk ys true)]) (r:=⟨ys,true⟩)
      rw [e1] at this
      exact this
    · rw [G3 (Ne.symm hjr)]
      have:=hlt j hj
      rw [L5 (by simp;omega),L5 this]
  · have hil:=D5 hi
    have hne:id ≠ r:=fun e=>hn (e ▸ hr)
    have hA:=R9 (h:=h ++ [some ⟨ys,true⟩]) (id:=id) (jd:=h.length) (n:=n) (m:=1) (sz:=sz) (cs:=cs) (ys:=ys) (rw:=true) (C8 hi) hcl (by simp) (by omega) rfl hsz (by omega)
    have e1:(h ++ [some (Row.mk ys true)]).length=h.length + 1:=by simp
    rw [e1] at hA
    have hr2:rd ((h ++ [some (Row.mk ys true)]).set id none ++ [some (Row.mk (cs ++ ys) true)]) r=some ⟨[.sl id 0 n sz],true⟩:=by
      refine C8 ?_
      rw [G3 hne];exact C8 hx
    have s1:=Z1 (x:=.sl (h.length + 1) 0 (n + 1) sz) (off:=0) hr2 (by simp)
    refine ⟨_,_,_,_,l1,hA,s1,⟨.sl (h.length + 1) 0 (n + 1) sz,I5 (D5 hr2),.inr ⟨h.length + 1,by simp,?_,by simp [hcl,hy,Nat.add_mul],by omega,fun h1=>by have:=hlt _ h1;omega⟩⟩,((((Low.refl hbh).new _).set hb _).new _).set hbr _,fun j hj hjr=>?_,by simp;omega⟩
    · rw [G3 (by omega)]
      have:=N2 (h:=(h ++ [some (Row.mk ys true)]).set id none) (r:=⟨cs ++ ys,true⟩)
      rw [List.length_set,e1] at this
      exact this
    · have hji:j ≠ id:=fun e=>hn (e ▸ hj)
      have:=hlt j hj
      rw [G3 (Ne.symm hjr),L5 (by simp;omega),G3 (Ne.symm hji),L5 this]
def B2X (h:A0) (o:A6) (cs:List Cell) (n sz:Nat):Prop:=∃ v t,o=some (v,h ++ t) ∧ Has (h ++ t) v sz n cs ∧ (t=[] ∧ v=.c .ns ∧ n=0 ∧ cs=[] ∨ t=[some ⟨cs,true⟩] ∧ v=.c (.sl h.length 0 n sz))
theorem D65 {S:Fun} {R:Nat → Fun} {args:List Val} {h g':A0} {N:Nat} {x:Cell} {cs:List Cell} {n sz:Nat} {rs:List Nat}
    (hlow:∀ {n:Nat} {args:List Val} {h h2:A0} {v:Val},R n args (ro h)=some (v,h2) → v.low h.length=true → S args h=some (v,h))
    (hout:∀ {n:Nat} {args:List Val} {h h2:A0} {v:Val} {sz k:Nat} {cs:List Cell},R n args (ro h)=some (v,h2) → Out h.length h2 v sz k cs → D9 cs=true → S args h=some (.c (.sl h.length 0 k sz),h ++ [some ⟨cs,true⟩]))
    (he:R N args (ro h)=some (.c x,g')) (hd:B0p g' x cs n sz h.length rs) (hf:D9 cs=true) (hx:noX cs=true):B2X h (S args h) cs n sz:=by
  rcases hd with ⟨hn,hl,rfl⟩ | ⟨id,rfl,hr,hl,hbi,_⟩
  · refine ⟨.c .ns,[],?_,?_,.inl ⟨rfl,rfl,hn,hl⟩⟩
    · rw [List.append_nil];exact hlow he (by simp [Val.low,Cell.low,Cell.flat])
    · exact .inl ⟨rfl,hn,hl⟩
  · exact ⟨.c (.sl h.length 0 n sz),[some ⟨cs,true⟩],hout he ⟨hl,id,rfl,hbi,hr⟩ hf,Has.row (rw:=true) (by simp) hl hx,.inr ⟨rfl,rfl⟩⟩
end Go.Proofs.YtdgggnlbdoiloaaGreat
end
section
namespace Go.Proofs.YtdgggnlbdoiloaaGreat
open Go Go.Esc
abbrev Tld:=Plc × List UInt8
def B0g (no:Int) (l:List Slt):List Tld:=l.map fun s=>((no,s.1,s.2.2),s.2.1)
def A49 (D:Dev) (L:List Int):List Tld:=L.flatMap fun no=>B0g no (K9 (blk D no))
theorem J5e {l:List Slt}:∀ {i:Nat} {x:Slt},l[i]? = some x → ((J7 l).drop (i * 3)).take 3=slC (some x):=by
  induction l with
  | nil=>intro i x h;simp at h
  | cons y l ih =>
    intro i x h
    have e:J7 (y :: l)=slC (some y) ++ J7 l:=rfl
    cases i with
    | zero=>simp at h;subst h;rw [e];rfl
    | succ i =>
      simp at h
      rw [e,show (i + 1) * 3=3 + i * 3 by omega,← List.drop_drop,List.drop_left' (by rw [A17])]
      exact ih h
theorem D0u {σ:Type} {L1:Nat → Val → A0 → A6} {L0:A0 → A6} {C:Val → Val → A0 → A6} {no:Int} {id c0:Nat} {l:List Slt} (P:Nat → σ → A0 → Prop) (step:σ → Tld → σ)
    (hL:∀ m x h,L1 (m + 1) x h=bnd (A4 .lss x (.c (.i .i64 (l.length:Nat)))) fun v14=>cnd v14 (bnd (D0 3 (.c (.sl id 0 l.length 3)) x) fun v15=>bnd (A5 h 3 v15) fun v16=>bnd (B7 ((h ++ [some (Row.mk ([.i .i64 0,.s [],.i .i64 0]) true)])) 3 ((.c (.p h.length 0))) v16) fun h17=>bnd (B9 ((.c (.p h.length 0))) 0) fun v18=>bnd (A9 h17 v18) fun v19=>bnd (B9 ((.c (.p h.length 0))) 1) fun v20=>bnd (B9 v20 1) fun v21=>bnd (A9 h17 v21) fun v22=>bnd (B0 ([.i .i64 0,.i .i64 0,.i .i64 0]) [(0,1,.c (.i .i64 no)),(1,1,v19),(2,1,v22)]) fun c23=>bnd (B9 ((.c (.p h.length 0))) 1) fun v24=>bnd (B9 v24 0) fun v25=>bnd (A9 h17 v25) fun v26=>bnd (C (.a c23) v26 h17) fun p27=>bnd (A4 .add x (.c (.i .i64 1))) fun v28=>L1 m v28 p27.2) (L0 h))
    (hI:∀ c s h,P c s h → rd h id=some ⟨J7 l,true⟩)
    (hM:∀ c s h t,P c s h → P c s (h ++ t))
    (hC:∀ c s h x,P c s h → c < c0 + 7 → x ∈ l → ∃ h',C (.a (E2 (some (no,x.1,x.2.2)))) (.c (.s x.2.1)) h=some (.t [],h') ∧ P (c + 1) (step s ((no,x.1,x.2.2),x.2.1)) h') (h62:l.length ≤ 7) :
    ∀ (e i M:Nat) (s:σ) (h:A0),i + e=l.length → e < M → P (c0 + i) s h → ∃ h',L1 M (.c (.i .i64 (i:Int))) h=L0 h' ∧ P (c0 + l.length) ((B0g no (l.drop i)).foldl step s) h'
  | e,i,0,s,h,_,hm,_=>by omega
  | 0,i,M + 1,s,h,hi,hm,hP=>by
    have c1:¬ (i:Int) < (l.length:Nat):=by omega
    refine ⟨h,?_,by rw [List.drop_of_length_le (by omega),show l.length=i by omega];exact hP⟩
    rw [hL]
    simp only [K3,A0B,c1,decide_false,A1j]
  | e + 1,i,M + 1,s,h,hi,hm,hP=>by
    have hil:i < l.length:=by omega
    have c1:(i:Int) < (l.length:Nat):=by omega
    have hx:l[i]? = some l[i]:=List.getElem?_eq_getElem hil
    have hr:=hI _ s h hP
    have ad:D0 3 (.c (.sl id 0 l.length 3)) (.c (.i .i64 (i:Int)))=some (.c (.p id (i * 3))):=by rw [I9 hil];simp
    have hmem:l[i] ∈ l:=List.getElem_mem hil
    obtain ⟨⟨kk,s',i'⟩,ex⟩:∃ x,x=l[i]:=⟨_,rfl⟩
    rw [← ex] at hx hmem
    have hsl:=J5e hx
    have hlen:=A96 (l:=l)
    have l3:A5 h 3 (.c (.p id (i * 3)))=some (.a (slC (some (kk,s',i')))):=by rw [A5v hr (by rw [hlen];omega) rfl,hsl]
    have s3:B7 (h ++ [some (Row.mk [Cell.i .i64 0,.s [],.i .i64 0] true)]) 3 (.c (.p h.length 0)) (.a (slC (some (kk,s',i'))))=some (h ++ [some ⟨slC (some (kk,s',i')),true⟩]):=by rw [W1];rfl
    have g0:A9 (h ++ [some (Row.mk (slC (some (kk,s',i'))) true)]) (.c (.p h.length 0))=some (.c (.i .i64 (kk:Int))):=by rw [A1d];rfl
    have g1:A9 (h ++ [some (Row.mk (slC (some (kk,s',i'))) true)]) (.c (.p h.length 1))=some (.c (.s s')):=by rw [A1d];rfl
    have g2:A9 (h ++ [some (Row.mk (slC (some (kk,s',i'))) true)]) (.c (.p h.length 2))=some (.c (.i .i64 i')):=by rw [A1d];rfl
    have ef:B0 [Cell.i .i64 0,.i .i64 0,.i .i64 0] [(0,1,.c (.i .i64 no)),(1,1,.c (.i .i64 (kk:Int))),(2,1,.c (.i .i64 i'))]=some (E2 (some (no,kk,i'))):=rfl
    obtain ⟨h',f1,f2⟩:=hC _ s (h ++ [some ⟨slC (some (kk,s',i')),true⟩]) (kk,s',i') (hM _ _ _ _ hP) (by omega) hmem
    obtain ⟨h'',e1,e2⟩:=D0u P step hL hI hM hC h62 e (i + 1) M _ h' (by omega) (by omega) f2
    have w1:=E6 (show i + 1 < 9223372036854775808 by omega)
    rw [hL,List.drop_eq_getElem_cons hil,← ex]
    refine ⟨h'',?_,e2⟩
    simp only [K3,A0B,c1,decide_true,A1k,ad,l3,s3,B1c,Nat.add_zero,Nat.zero_add,Nat.reduceAdd,g0,g1,g2,ef,f1,A3z,w1]
    exact e1
theorem D62 {D:Dev} {no:Int} {L:List Int}:A49 D (no :: L)=B0g no (K9 (blk D no)) ++ A49 D L:=by simp [A49]
theorem I0P (b:List UInt8):(K9 b).length ≤ 7:=by
  have:∀ e k,(R1 b e k).length ≤ e:=by
    intro e
    induction e with
    | zero=>intro k;simp [R1]
    | succ e ih =>
      intro k
      have:=ih (k + 1)
      rw [R1]
      split <;> simp <;> omega
  exact this 7 0
theorem B1r {σ:Type} {L0:Nat → Val → A0 → A6} {L1:Nat → Nat → Val → Val → Val → Val → Val → A0 → A6} {C:Val → Val → A0 → A6} {N:Nat} {x3:Val} {D:Dev} {n m:Int} {f:Cell} {sid:Nat} {L:List Int} (hD:okD D) (P:List Nat → Nat → σ → A0 → Prop) (step:σ → Tld → σ) (hN:8 ≤ N)
    (hL0:∀ m x h,L0 (m + 1) x h=bnd (A4 .lss x (.c (.i .i64 (L.length:Nat)))) fun v7=>cnd v7 (bnd (D0 1 (.c (.sl sid 0 L.length 1)) x) fun v8=>bnd (A9 h v8) fun v9=>bnd (A5 h 4 x3) fun v10=>bnd (U2 [v10,v9] h) fun p11=>bnd (A03 [p11.1] p11.2) fun p12=>bnd (F5 p12.1) fun v13=>L1 m N v9 x p12.1 v13 (.c (.i .i64 0)) p12.2) (C7 [] h))
    (hL1:∀ m0 v9 x v w m y h,L1 m0 (m + 1) v9 x v w y h=bnd (A4 .lss y w) fun v14=>cnd v14 (bnd (D0 3 v y) fun v15=>bnd (A5 h 3 v15) fun v16=>bnd (B7 ((h ++ [some (Row.mk ([.i .i64 0,.s [],.i .i64 0]) true)])) 3 ((.c (.p h.length 0))) v16) fun h17=>bnd (B9 ((.c (.p h.length 0))) 0) fun v18=>bnd (A9 h17 v18) fun v19=>bnd (B9 ((.c (.p h.length 0))) 1) fun v20=>bnd (B9 v20 1) fun v21=>bnd (A9 h17 v21) fun v22=>bnd (B0 ([.i .i64 0,.i .i64 0,.i .i64 0]) [(0,1,v9),(1,1,v19),(2,1,v22)]) fun c23=>bnd (B9 ((.c (.p h.length 0))) 1) fun v24=>bnd (B9 v24 0) fun v25=>bnd (A9 h17 v25) fun v26=>bnd (C (.a c23) v26 h17) fun p27=>bnd (A4 .add y (.c (.i .i64 1))) fun v28=>L1 m0 m v9 x v w v28 p27.2) (bnd (A4 .add x (.c (.i .i64 1))) fun v29=>L0 m0 v29 h))
    (hI:∀ rs c s h,P rs c s h → A5 h 4 x3=some (.a (vwC D.length n m f)) ∧ IsView h f D ∧ rd h sid=some ⟨encI L,true⟩)
    (hR:∀ rs c s h t,P rs c s h → P rs c s (h ++ t))
    (hN1:∀ rs c s h r,P rs c s h → P (h.length :: rs) c s (h ++ [some r]))
    (hF:∀ i rs c s h,P (i :: rs) c s h → P rs c s h)
    (hW:∀ rs c c' s h,P rs c s h → c ≤ c' → P rs c' s h)
    (hC:∀ rs c s h no x,P rs c s h → c < 7 * L.length → no ∈ L → x ∈ K9 (blk D no) → ∃ h',C (.a (E2 (some (no,x.1,x.2.2)))) (.c (.s x.2.1)) h=some (.t [],h') ∧ P rs (c + 1) (step s ((no,x.1,x.2.2),x.2.1)) h' ∧ ∀ j ∈ rs,rd h' j=rd h j)
    (h62:L.length < 1000) :
    ∀ (e i M:Nat) (rs:List Nat) (s:σ) (h:A0),i + e=L.length → e < M → P rs (7 * i) s h → ∃ h',L0 M (.c (.i .i64 (i:Int))) h=some (.t [],h') ∧ P rs (7 * L.length) ((A49 D (L.drop i)).foldl step s) h'
  | e,i,0,rs,s,h,_,hm,_=>by omega
  | 0,i,M + 1,rs,s,h,hi,hm,hP=>by
    have c0:¬ (i:Int) < (L.length:Nat):=by omega
    refine ⟨h,?_,by rw [List.drop_of_length_le (by omega),show L.length=i by omega];exact hP⟩
    rw [hL0]
    simp only [K3,A0B,c0,decide_false,A1j]
    rfl
  | e + 1,i,M + 1,rs,s,h,hi,hm,hP=>by
    have hil:i < L.length:=by omega
    have c0:(i:Int) < (L.length:Nat):=by omega
    obtain ⟨i1,i2,i3⟩:=hI rs _ s h hP
    have hmem:L[i] ∈ L:=List.getElem_mem hil
    have ad:D0 1 (.c (.sl sid 0 L.length 1)) (.c (.i .i64 (i:Int)))=some (.c (.p sid i)):=by rw [I9 hil];simp
    have l1:A9 h (.c (.p sid i))=some (.c (.i .i64 L[i])):=K6 i3 (by rw [Y2,List.getElem?_eq_getElem hil];rfl) rfl
    have hB:=B0i (n:=n) (m:=m) (no:=L[i]) hD i2
    obtain ⟨v,t,b1,b2,b3⟩:=D8d (b:=blk D L[i]) (h:=h) (A5d hD)
    have hlen:=b2.len
    have w1:=E6 (show i + 1 < 9223372036854775808 by omega)
    have h7:=I0P (blk D L[i])
    have main:∃ h',L1 M N (.c (.i .i64 L[i])) (.c (.i .i64 (i:Int))) v (.c (.i .i64 ((K9 (blk D L[i])).length:Nat))) (.c (.i .i64 ((0:Nat):Int))) (h ++ t)=bnd (A4 .add (.c (.i .i64 (i:Int))) (.c (.i .i64 1))) (fun v29=>L0 M v29 h') ∧ P rs (7 * (i + 1)) ((B0g L[i] (K9 (blk D L[i]))).foldl step s) h':=by
      rcases b3 with ⟨rfl,rfl,b3⟩ | ⟨rfl,rfl⟩
      · refine ⟨h,?_,by rw [b3];exact hW _ _ _ _ _ hP (by omega)⟩
        obtain ⟨N',rfl⟩:∃ N',N=N' + 1:=⟨N - 1,by omega⟩
        rw [hL1,b3,List.append_nil]
        rfl
      · have hl0:(h ++ [some (Row.mk (J7 (K9 (blk D L[i]))) true)])=h ++ [some ⟨J7 (K9 (blk D L[i])),true⟩]:=rfl
        obtain ⟨h',f1,f2⟩:=D0u (L1:=fun m y h'=>L1 M m (.c (.i .i64 L[i])) (.c (.i .i64 (i:Int))) (.c (.sl h.length 0 (K9 (blk D L[i])).length 3)) (.c (.i .i64 ((K9 (blk D L[i])).length:Nat))) y h') (L0:=fun h'=>bnd (A4 .add (.c (.i .i64 (i:Int))) (.c (.i .i64 1))) (fun v29=>L0 M v29 h')) (C:=C) (no:=L[i]) (id:=h.length) (c0:=7 * i) (l:=K9 (blk D L[i]))
          (fun c s' h'=>P (h.length :: rs) c s' h' ∧ rd h' h.length=some ⟨J7 (K9 (blk D L[i])),true⟩) step (fun m y h'=>hL1 M _ _ _ _ m y h') (fun c s' h' hp=>hp.2) (fun c s' h' t hp=>⟨hR _ _ _ _ _ hp.1,C8 hp.2⟩)
          (fun c s' h' x hp hc hx=>by
            obtain ⟨h2,c1,c2,c3⟩:=hC _ _ _ _ L[i] x hp.1 (by omega) hmem hx
            exact ⟨h2,c1,c2,by rw [c3 h.length (by simp)];exact hp.2⟩) (by omega) (K9 (blk D L[i])).length 0 N s (h ++ [some ⟨J7 (K9 (blk D L[i])),true⟩]) (by omega) (by omega) ⟨hN1 _ _ _ _ _ hP,by simp⟩
        rw [List.drop_zero] at f2
        exact ⟨h',f1,hW _ _ _ _ _ (hF _ _ _ _ _ f2.1) (by omega)⟩
    obtain ⟨h1,m1,m2⟩:=main
    obtain ⟨h',f1,f2⟩:=B1r hD P step hN hL0 hL1 hI hR hN1 hF hW hC h62 e (i + 1) M rs _ h1 (by omega) (by omega) m2
    rw [hL0,List.drop_eq_getElem_cons hil,D62,List.foldl_append]
    refine ⟨h',?_,f2⟩
    simp only [K3,A0B,c0,decide_true,A1k,ad,l1,i1,hB,b1,hlen]
    refine m1.trans ?_
    simp only [A3z,K3,w1]
    exact f1
end Go.Proofs.YtdgggnlbdoiloaaGreat
end
noncomputable section
namespace Go.Proofs.YtdgggnlbdoiloaaGreat
open Go Go.Esc
set_option maxRecDepth 100000
def B91:List AOper:=[aO 2 (.mv (.v (.c (.b false))))]
def F7y:ACode:=.ops B91
def B92:List AOper:=[aO 4 (.mv (.t 0)),aO 5 (.lenS (.t 4)),aO 6 (.bin .lss (.t 5) (.v (.c (.i .i64 1)))),aO 7 (.mv (.t 6)),{ dst:=some 8,op:=.mv (.t 0),guard:=some (7,false) },{ dst:=some 9,op:=.lenS (.t 8),guard:=some (7,false) },{ dst:=some 10,op:=.bin .gtr (.t 9) (.v (.c (.i .i64 24))),guard:=some (7,false) },aO 11 (.pick (.t 7) (.v (.c (.b true))) (.t 10)),aO 12 (.mv (.t 11)),{ dst:=some 13,op:=.mv (.t 0),guard:=some (12,false) },{ dst:=some 14,op:=.bin .eql (.t 13) (.v (.c (.s [46]))),guard:=some (12,false) },aO 15 (.pick (.t 12) (.v (.c (.b true))) (.t 14)),aO 16 (.mv (.t 15)),{ dst:=some 17,op:=.mv (.t 0),guard:=some (16,false) },{ dst:=some 18,op:=.bin .eql (.t 17) (.v (.c (.s [46,46]))),guard:=some (16,false) },aO 19 (.pick (.t 16) (.v (.c (.b true))) (.t 18))]
def F7A:ACode:=.ops B92
def B93:List AOper:=[aO 2 (.mv (.v (.c (.b false))))]
def F7V:ACode:=.ops B93
def F8a:ACode:=.seq [2] F7V .ret
def F8c:ACode:=.cond (.t 19) F8a .skip
def F8e:ACode:=.seq [0,19] F7A F8c
def B94:List AOper:=[aO 3 (.mv (.v (.c (.i .i64 0))))]
def F8g:ACode:=.ops B94
def B95:List AOper:=[aO 20 (.mv (.t 3)),aO 21 (.mv (.t 0)),aO 22 (.lenS (.t 21)),aO 23 (.bin .lss (.t 20) (.t 22))]
def F8i:ACode:=.ops B95
def F8k:ACode:=.cond (.t 23) .skip (.exit 0)
def F8m:ACode:=.seq [0,3,23] F8i F8k
def B96:List AOper:=[aO 26 (.mv (.t 0)),aO 27 (.mv (.t 3)),aO 28 (.idxS (.t 26) (.t 27)),aO 29 (.bin .eql (.t 28) (.v (.c (.i .u8 0)))),aO 30 (.mv (.t 29)),{ dst:=some 31,op:=.mv (.t 0),guard:=some (30,false) },{ dst:=some 32,op:=.mv (.t 3),guard:=some (30,false) },{ dst:=some 33,op:=.idxS (.t 31) (.t 32),guard:=some (30,false) },{ dst:=some 34,op:=.bin .eql (.t 33) (.v (.c (.i .u8 47))),guard:=some (30,false) },aO 35 (.pick (.t 30) (.v (.c (.b true))) (.t 34))]
def F7B:ACode:=.ops B96
def B97:List AOper:=[aO 2 (.mv (.v (.c (.b false))))]
def F7D:ACode:=.ops B97
def F7F:ACode:=.seq [2] F7D .ret
def F7H:ACode:=.cond (.t 35) F7F .skip
def F7J:ACode:=.seq [0,3,35] F7B F7H
def F7L:ACode:=.block 1 F7J
def B98:List AOper:=[aO 24 (.mv (.t 3)),aO 25 (.bin .add (.t 24) (.v (.c (.i .i64 1)))),aO 3 (.mv (.t 25))]
def F7N:ACode:=.ops B98
def F7P:ACode:=.seq [0,3] F7L F7N
def F7R:ACode:=.seq [0,3] F8m F7P
def F7S:ACode:=.loop [0,3] F7R
def F7W:ACode:=.block 0 F7S
def F7Y:ACode:=.seq [0,3] F8g F7W
def B99:List AOper:=[aO 2 (.mv (.v (.c (.b true))))]
def F70:ACode:=.ops B99
def F72:ACode:=.seq [2] F70 .ret
def F73:ACode:=.seq [] F7Y F72
def F75:ACode:=.seq [0] F8e F73
def F77:ACode:=.seq [0] F7y F75
def A_er03_Right:AFn:=⟨F77,[.tmp 2]⟩
def Z9:B6:=C1
def F7z (n:Nat):SmV:=A2 Z9 B91
def F7U (n:Nat):SmV:=A2 Z9 B92
def F79 (n:Nat):SmV:=A2 Z9 B93
def F8b (n:Nat):SmV:=A1 [2] (F79 n) A8
def F8d (n:Nat):SmV:=B8 (.t 19) (F8b n) C0
def F8f (n:Nat):SmV:=A1 [0,19] (F7U n) (F8d n)
def F8h (n:Nat):SmV:=A2 Z9 B94
def F8j (n:Nat):SmV:=A2 Z9 B95
def F8l (n:Nat):SmV:=B8 (.t 23) C0 (E3 0)
def F8n (n:Nat):SmV:=A1 [0,3,23] (F8j n) (F8l n)
def F7C (n:Nat):SmV:=A2 Z9 B96
def F7E (n:Nat):SmV:=A2 Z9 B97
def F7G (n:Nat):SmV:=A1 [2] (F7E n) A8
def F7I (n:Nat):SmV:=B8 (.t 35) (F7G n) C0
def F7K (n:Nat):SmV:=A1 [0,3,35] (F7C n) (F7I n)
def F7M (n:Nat):SmV:=C6 1 (F7K n)
def F7O (n:Nat):SmV:=A2 Z9 B98
def F7Q (n:Nat):SmV:=A1 [0,3] (F7M n) (F7O n)
def B9Y (n:Nat):SmV:=A1 [0,3] (F8n n) (F7Q n)
def F7T (n:Nat):SmV:=E4 n [0,3] (B9Y n)
def F7X (n:Nat):SmV:=C6 0 (F7T n)
def F7Z (n:Nat):SmV:=A1 [0,3] (F8h n) (F7X n)
def F71 (n:Nat):SmV:=A2 Z9 B99
def B9Z (n:Nat):SmV:=A1 [2] (F71 n) A8
def F74 (n:Nat):SmV:=A1 [] (F7Z n) (B9Z n)
def F76 (n:Nat):SmV:=A1 [0] (F8f n) (F74 n)
def F78 (n:Nat):SmV:=A1 [0] (F7z n) (F76 n)
def A8x (n:Nat):AExit → Env → A0 → A6:=fun x e h=>match x with | .normal=>hold ((B9Z n) A_er03_Right.fin (e.keep []) h) | .exit id=>A_er03_Right.fin (.exit id) e h | .ret=>A_er03_Right.fin .ret e h
def F8o (n:Nat):AExit → Env → A0 → A6:=fun x e h=>match x with | .exit i=>bif Nat.beq i 0 then (A8x n) .normal e h else (A8x n) (.exit i) e h | .normal=>(A8x n) .normal e h | .ret=>(A8x n) .ret e h
def A8y (n m:Nat) (x0 x3:Val) (h:A0):A6:=E1 (B9Y n) [0,3] (F8o n) m [(0,x0),(3,x3)] h
def B0I (n:Nat) (args:List Val) (h:A0):A6:=(F78 n) A_er03_Right.fin (params 0 args) h
theorem D2G (n:Nat) (a0:Val) (h:A0):B0I n [a0] h=bnd (Q0 a0) fun v1=>bnd (A4 .lss v1 (.c (.i .i64 1))) fun v2=>bnd (gd v2 false (some (a0,h)) (some (.no,h))) fun p3=>bnd (gd v2 false (bnd (Q0 p3.1) fun v4=>some (v4,p3.2)) (some (.no,p3.2))) fun p5=>bnd (gd v2 false (bnd (A4 .gtr p5.1 (.c (.i .i64 24))) fun v6=>some (v6,p5.2)) (some (.no,p5.2))) fun p7=>bnd (C5 v2 (.c (.b true)) p7.1) fun v8=>bnd (gd v8 false (some (a0,p7.2)) (some (.no,p7.2))) fun p9=>bnd (gd v8 false (bnd (A4 .eql p9.1 (.c (.s [46]))) fun v10=>some (v10,p9.2)) (some (.no,p9.2))) fun p11=>bnd (C5 v8 (.c (.b true)) p11.1) fun v12=>bnd (gd v12 false (some (a0,p11.2)) (some (.no,p11.2))) fun p13=>bnd (gd v12 false (bnd (A4 .eql p13.1 (.c (.s [46,46]))) fun v14=>some (v14,p13.2)) (some (.no,p13.2))) fun p15=>bnd (C5 v12 (.c (.b true)) p15.1) fun v16=>cnd v16 (some ((.c (.b false)),p15.2)) (A8y n n a0 (.c (.i .i64 0)) p15.2):=by kernel_rfl
theorem B90 (n m:Nat) (x0 x3:Val) (h:A0):A8y n (m + 1) x0 x3 h=bnd (Q0 x0) fun v17=>bnd (A4 .lss x3 v17) fun v18=>cnd v18 (bnd (U3 x0 x3) fun v19=>bnd (A4 .eql v19 (.c (.i .u8 0))) fun v20=>bnd (gd v20 false (some (x0,h)) (some (.no,h))) fun p21=>bnd (gd v20 false (some (x3,p21.2)) (some (.no,p21.2))) fun p22=>bnd (gd v20 false (bnd (U3 p21.1 p22.1) fun v23=>some (v23,p22.2)) (some (.no,p22.2))) fun p24=>bnd (gd v20 false (bnd (A4 .eql p24.1 (.c (.i .u8 47))) fun v25=>some (v25,p24.2)) (some (.no,p24.2))) fun p26=>bnd (C5 v20 (.c (.b true)) p26.1) fun v27=>cnd v27 (some ((.c (.b false)),p26.2)) (bnd (A4 .add x3 (.c (.i .i64 1))) fun v28=>A8y n m x0 v28 p26.2)) (some ((.c (.b true)),h)):=by kernel_rfl
theorem K_er03_Right:FnK Tryz.prog 88 A_er03_Right Z9 B0I:=.mk' (C3) Tryz.func88 (by kernel_rfl) (by intro n args h;kernel_rfl)
def A2x:Fun:=tidy (Lim A_er03_Right Z9)
theorem B3j:SOk Tryz.prog 88 A2x:=K_er03_Right.sok
theorem D4G {n:Nat} {args:List Val} {h h2:A0} {v:Val} (he:B0I n args (ro h)=some (v,h2)) (hf:v.flat=true):A2x args h=some (v,h):=K_er03_Right.flat he hf
def B9P:List AOper:=[aO 2 (.nilrow 1)]
def F6P:ACode:=.ops B9P
def B9Q:List AOper:=[aO 5 (.mv (.t 0)),aO 6 (.lenS (.t 5)),aO 7 (.conv .u8 (.t 6)),aO 8 (.buildSl 1 1 ([.i .u8 0]) [(0,1,(.t 7))]),aO 3 (.mv (.t 8))]
def F6R:ACode:=.ops B9Q
def B9R:List AOper:=[aO 4 (.mv (.v (.c (.i .i64 0))))]
def F7a:ACode:=.ops B9R
def B9S:List AOper:=[aO 9 (.mv (.t 4)),aO 10 (.bin .lss (.t 9) (.v (.c (.i .i64 24))))]
def F7i:ACode:=.ops B9S
def F7k:ACode:=.cond (.t 10) .skip (.exit 0)
def F7m:ACode:=.seq [0,3,4,10] F7i F7k
def B9T:List AOper:=[aO 13 (.mv (.t 4)),aO 14 (.mv (.t 0)),aO 15 (.lenS (.t 14)),aO 16 (.bin .lss (.t 13) (.t 15))]
def F7o:ACode:=.ops B9T
def B9U:List AOper:=[aO 17 (.mv (.t 3)),aO 18 (.mv (.t 0)),aO 19 (.mv (.t 4)),aO 20 (.idxS (.t 18) (.t 19)),aO 21 (.buildSl 1 1 ([.i .u8 0]) [(0,1,(.t 20))]),aO 22 (.app 1 (.t 17) (.t 21)),aO 3 (.mv (.t 22))]
def F7q:ACode:=.ops B9U
def B9V:List AOper:=[aO 23 (.mv (.t 3)),aO 24 (.buildSl 1 1 ([.i .u8 0]) [(0,1,(.v (.c (.i .u8 0))))]),aO 25 (.app 1 (.t 23) (.t 24)),aO 3 (.mv (.t 25))]
def F7s:ACode:=.ops B9V
def F7u:ACode:=.cond (.t 16) F7q F7s
def F6S:ACode:=.seq [0,3,4,16] F7o F7u
def F6U:ACode:=.block 1 F6S
def B9W:List AOper:=[aO 11 (.mv (.t 4)),aO 12 (.bin .add (.t 11) (.v (.c (.i .i64 1)))),aO 4 (.mv (.t 12))]
def F6W:ACode:=.ops B9W
def F6X:ACode:=.seq [0,3,4] F6U F6W
def F6Z:ACode:=.seq [0,3,4] F7m F6X
def F60:ACode:=.loop [0,3,4] F6Z
def F62:ACode:=.block 0 F60
def F64:ACode:=.seq [0,3,4] F7a F62
def B9X:List AOper:=[aO 26 (.mv (.t 3)),aO 2 (.mv (.t 26))]
def F66:ACode:=.ops B9X
def F68:ACode:=.seq [2] F66 .ret
def F7b:ACode:=.seq [3] F64 F68
def F7d:ACode:=.seq [0,3] F6R F7b
def F7f:ACode:=.seq [0] F6P F7d
def A_er03_Pack:AFn:=⟨F7f,[.tmp 2]⟩
def Z8:B6:=C1
def F6Q (n:Nat):SmV:=A2 Z8 B9P
def F69 (n:Nat):SmV:=A2 Z8 B9Q
def F7h (n:Nat):SmV:=A2 Z8 B9R
def F7j (n:Nat):SmV:=A2 Z8 B9S
def F7l (n:Nat):SmV:=B8 (.t 10) C0 (E3 0)
def F7n (n:Nat):SmV:=A1 [0,3,4,10] (F7j n) (F7l n)
def F7p (n:Nat):SmV:=A2 Z8 B9T
def F7r (n:Nat):SmV:=A2 Z8 B9U
def F7t (n:Nat):SmV:=A2 Z8 B9V
def F7v (n:Nat):SmV:=B8 (.t 16) (F7r n) (F7t n)
def F6T (n:Nat):SmV:=A1 [0,3,4,16] (F7p n) (F7v n)
def F6V (n:Nat):SmV:=C6 1 (F6T n)
def B9M (n:Nat):SmV:=A2 Z8 B9W
def F6Y (n:Nat):SmV:=A1 [0,3,4] (F6V n) (B9M n)
def B1S (n:Nat):SmV:=A1 [0,3,4] (F7n n) (F6Y n)
def F61 (n:Nat):SmV:=E4 n [0,3,4] (B1S n)
def F63 (n:Nat):SmV:=C6 0 (F61 n)
def F65 (n:Nat):SmV:=A1 [0,3,4] (F7h n) (F63 n)
def F67 (n:Nat):SmV:=A2 Z8 B9X
def B9N (n:Nat):SmV:=A1 [2] (F67 n) A8
def F7c (n:Nat):SmV:=A1 [3] (F65 n) (B9N n)
def F7e (n:Nat):SmV:=A1 [0,3] (F69 n) (F7c n)
def F7g (n:Nat):SmV:=A1 [0] (F6Q n) (F7e n)
def A8u (n:Nat):AExit → Env → A0 → A6:=fun x e h=>match x with | .normal=>hold ((B9N n) A_er03_Pack.fin (e.keep [3]) h) | .exit id=>A_er03_Pack.fin (.exit id) e h | .ret=>A_er03_Pack.fin .ret e h
def A8v (n:Nat):AExit → Env → A0 → A6:=fun x e h=>match x with | .exit i=>bif Nat.beq i 0 then (A8u n) .normal e h else (A8u n) (.exit i) e h | .normal=>(A8u n) .normal e h | .ret=>(A8u n) .ret e h
def A8w (n m:Nat) (x0 x3 x4:Val) (h:A0):A6:=E1 (B1S n) [0,3,4] (A8v n) m [(0,x0),(3,x3),(4,x4)] h
def B0H (n:Nat) (args:List Val) (h:A0):A6:=(F7g n) A_er03_Pack.fin (params 0 args) h
def F7x (n m:Nat):AExit → Env → A0 → A6:=fun x e h=>match x with | .normal=>E1 (B1S n) [0,3,4] (A8v n) m (e.keep [0,3,4]) h | .exit id=>(A8v n) (.exit id) e h | .ret=>(A8v n) .ret e h
def A8t (n m:Nat) (x0 x3 x4:Val) (h:A0):A6:=hold ((B9M n) (F7x n m) [(0,x0),(3,x3),(4,x4)] h)
theorem D2F (n:Nat) (a0:Val) (h:A0):B0H n [a0] h=bnd (Q0 a0) fun v1=>bnd (G8 .u8 v1) fun v2=>bnd (B0 ([.i .u8 0]) [(0,1,v2)]) fun c3=>A8w n n a0 ((.c (.sl ((h ++ [some (Row.mk ([]) true)])).length 0 1 1))) (.c (.i .i64 0)) (((h ++ [some (Row.mk ([]) true)]) ++ [some (Row.mk (c3) true)])):=by kernel_rfl
theorem B9O (n m:Nat) (x0 x3 x4:Val) (h:A0):A8w n (m + 1) x0 x3 x4 h=bnd (A4 .lss x4 (.c (.i .i64 24))) fun v4=>cnd v4 (bnd (Q0 x0) fun v5=>bnd (A4 .lss x4 v5) fun v6=>cnd v6 (bnd (U3 x0 x4) fun v7=>bnd (B0 ([.i .u8 0]) [(0,1,v7)]) fun c8=>bnd (E5 ((h ++ [some (Row.mk (c8) true)])) 1 x3 ((.c (.sl h.length 0 1 1)))) fun p9=>A8t n m x0 p9.1 x4 p9.2) (bnd (B0 ([.i .u8 0]) [(0,1,.c (.i .u8 0))]) fun c10=>bnd (E5 ((h ++ [some (Row.mk (c10) true)])) 1 x3 ((.c (.sl h.length 0 1 1)))) fun p11=>A8t n m x0 p11.1 x4 p11.2)) (some (x3,h)):=by kernel_rfl
theorem F7w (n m:Nat) (x0 x3 x4:Val) (h:A0):A8t n m x0 x3 x4 h=bnd (A4 .add x4 (.c (.i .i64 1))) fun v12=>A8w n m x0 x3 v12 h:=by kernel_rfl
theorem K_er03_Pack:FnK Tryz.prog 89 A_er03_Pack Z8 B0H:=.mk' (C3) Tryz.func89 (by kernel_rfl) (by intro n args h;kernel_rfl)
def A2w:Fun:=tidy (Lim A_er03_Pack Z8)
theorem B3i:SOk Tryz.prog 89 A2w:=K_er03_Pack.sok
theorem D4F {n:Nat} {args:List Val} {h h2:A0} {v:Val} {sz k:Nat} {cs:List Cell} (he:B0H n args (ro h)=some (v,h2)) (ho:Out h.length h2 v sz k cs) (hf:D9 cs=true):A2w args h=some (.c (.sl h.length 0 k sz),h ++ [some ⟨cs,true⟩]):=K_er03_Pack.out he ho hf
def C0a:List AOper:=[aO 2 (.mv (.v (.c (.s [])))),aO 3 (.mv (.v (.c (.b false))))]
def F8p:ACode:=.ops C0a
def C0b:List AOper:=[aO 5 (.mv (.t 0)),aO 6 (.len (.t 5)),aO 7 (.bin .neq (.t 6) (.v (.c (.i .i64 25)))),aO 8 (.mv (.t 7)),{ dst:=some 9,op:=.mv (.t 0),guard:=some (8,false) },{ dst:=some 10,op:=.iAddrL 1 (.t 9) (.v (.c (.i .i64 0))),guard:=some (8,false) },{ dst:=some 11,op:=.load1 (.t 10),guard:=some (8,false) },{ dst:=some 12,op:=.bin .gtr (.t 11) (.v (.c (.i .u8 24))),guard:=some (8,false) },aO 13 (.pick (.t 8) (.v (.c (.b true))) (.t 12))]
def F8r:ACode:=.ops C0b
def C0c:List AOper:=[aO 2 (.mv (.v (.c (.s [])))),aO 3 (.mv (.v (.c (.b false))))]
def F8J:ACode:=.ops C0c
def F8L:ACode:=.seq [2,3] F8J .ret
def F8N:ACode:=.cond (.t 13) F8L .skip
def F8P:ACode:=.seq [0,13] F8r F8N
def C0d:List AOper:=[aO 14 (.mv (.t 0)),aO 15 (.mv (.t 0)),aO 16 (.iAddrL 1 (.t 15) (.v (.c (.i .i64 0)))),aO 17 (.load1 (.t 16)),aO 18 (.conv .i64 (.t 17)),aO 19 (.bin .add (.v (.c (.i .i64 1))) (.t 18)),aO 20 (.slL 1 (.t 14) (some (.v (.c (.i .i64 1)))) (some (.t 19))),aO 21 (.b2s (.t 20)),aO 4 (.mv (.t 21))]
def F8R:ACode:=.ops C0d
def C0e:List AOper:=[aO 22 (.mv (.t 4)),aO 23 (.call 88 [(.t 22)]),aO 24 (.un .not (.t 23)),aO 25 (.mv (.t 24)),{ dst:=some 26,op:=.mv (.t 4),guard:=some (25,false) },{ dst:=some 27,op:=.call 89 [(.t 26)],guard:=some (25,false) },{ dst:=some 28,op:=.mv (.t 0),guard:=some (25,false) },{ dst:=some 29,op:=.call 53 [(.t 27),(.t 28)],guard:=some (25,false) },{ dst:=some 30,op:=.un .not (.t 29),guard:=some (25,false) },aO 31 (.pick (.t 25) (.v (.c (.b true))) (.t 30))]
def F8T:ACode:=.ops C0e
def C0f:List AOper:=[aO 2 (.mv (.v (.c (.s [])))),aO 3 (.mv (.v (.c (.b false))))]
def F8V:ACode:=.ops C0f
def F8X:ACode:=.seq [2,3] F8V .ret
def F8s:ACode:=.cond (.t 31) F8X .skip
def F8u:ACode:=.seq [4,31] F8T F8s
def C0g:List AOper:=[aO 32 (.mv (.t 4)),aO 2 (.mv (.t 32)),aO 3 (.mv (.v (.c (.b true))))]
def F8w:ACode:=.ops C0g
def F8y:ACode:=.seq [2,3] F8w .ret
def F8A:ACode:=.seq [4] F8u F8y
def F8C:ACode:=.seq [0,4] F8R F8A
def F8E:ACode:=.seq [0] F8P F8C
def F8G:ACode:=.seq [0] F8p F8E
def A_er03_Unpack:AFn:=⟨F8G,[.tmp 2,.tmp 3]⟩
def A0W:B6:=B1 88 A2x (B1 89 A2w (B1 53 A0h C1))
def F8q (n:Nat):SmV:=A2 A0W C0a
def F8I (n:Nat):SmV:=A2 A0W C0b
def F8K (n:Nat):SmV:=A2 A0W C0c
def F8M (n:Nat):SmV:=A1 [2,3] (F8K n) A8
def F8O (n:Nat):SmV:=B8 (.t 13) (F8M n) C0
def F8Q (n:Nat):SmV:=A1 [0,13] (F8I n) (F8O n)
def F8S (n:Nat):SmV:=A2 A0W C0d
def F8U (n:Nat):SmV:=A2 A0W C0e
def F8W (n:Nat):SmV:=A2 A0W C0f
def F8Y (n:Nat):SmV:=A1 [2,3] (F8W n) A8
def F8t (n:Nat):SmV:=B8 (.t 31) (F8Y n) C0
def F8v (n:Nat):SmV:=A1 [4,31] (F8U n) (F8t n)
def F8x (n:Nat):SmV:=A2 A0W C0g
def F8z (n:Nat):SmV:=A1 [2,3] (F8x n) A8
def F8B (n:Nat):SmV:=A1 [4] (F8v n) (F8z n)
def F8D (n:Nat):SmV:=A1 [0,4] (F8S n) (F8B n)
def F8F (n:Nat):SmV:=A1 [0] (F8Q n) (F8D n)
def F8H (n:Nat):SmV:=A1 [0] (F8q n) (F8F n)
def A6r (n:Nat) (args:List Val) (h:A0):A6:=(F8H n) A_er03_Unpack.fin (params 0 args) h
theorem D2H (n:Nat) (a0:Val) (h:A0):A6r n [a0] h=bnd (F5 a0) fun v1=>bnd (A4 .neq v1 (.c (.i .i64 25))) fun v2=>bnd (gd v2 false (some (a0,h)) (some (.no,h))) fun p3=>bnd (gd v2 false (bnd (D0 1 p3.1 (.c (.i .i64 0))) fun v4=>some (v4,p3.2)) (some (.no,p3.2))) fun p5=>bnd (gd v2 false (bnd (A9 p5.2 p5.1) fun v6=>some (v6,p5.2)) (some (.no,p5.2))) fun p7=>bnd (gd v2 false (bnd (A4 .gtr p7.1 (.c (.i .u8 24))) fun v8=>some (v8,p7.2)) (some (.no,p7.2))) fun p9=>bnd (C5 v2 (.c (.b true)) p9.1) fun v10=>cnd v10 (C7 [some (.c (.s [])),some (.c (.b false))] p9.2) (bnd (D0 1 a0 (.c (.i .i64 0))) fun v11=>bnd (A9 p9.2 v11) fun v12=>bnd (G8 .i64 v12) fun v13=>bnd (A4 .add (.c (.i .i64 1)) v13) fun v14=>bnd (A0C 1 a0 (some (.c (.i .i64 1))) (some v14)) fun v15=>bnd (N7 p9.2 v15) fun v16=>bnd (A2x [v16] p9.2) fun p17=>bnd (aun .not p17.1) fun v18=>bnd (gd v18 false (some (v16,p17.2)) (some (.no,p17.2))) fun p19=>bnd (gd v18 false (bnd (A2w [p19.1] p19.2) fun p20=>some (p20.1,p20.2)) (some (.no,p19.2))) fun p21=>bnd (gd v18 false (some (a0,p21.2)) (some (.no,p21.2))) fun p22=>bnd (gd v18 false (bnd (A0h [p21.1,p22.1] p22.2) fun p23=>some (p23.1,p23.2)) (some (.no,p22.2))) fun p24=>bnd (gd v18 false (bnd (aun .not p24.1) fun v25=>some (v25,p24.2)) (some (.no,p24.2))) fun p26=>bnd (C5 v18 (.c (.b true)) p26.1) fun v27=>cnd v27 (C7 [some (.c (.s [])),some (.c (.b false))] p26.2) (C7 [some v16,some (.c (.b true))] p26.2)):=by kernel_rfl
theorem K_er03_Unpack:FnK Tryz.prog 49 A_er03_Unpack A0W A6r:=.mk' (B3 B3j (B3 B3i (B3 A7o C3))) Tryz.func49 (by kernel_rfl) (by intro n args h;kernel_rfl)
def A4s:Fun:=tidy (Lim A_er03_Unpack A0W)
theorem D4I:SOk Tryz.prog 49 A4s:=K_er03_Unpack.sok
theorem D4H {n:Nat} {args:List Val} {h h2:A0} {v:Val} (he:A6r n args (ro h)=some (v,h2)) (hf:v.flat=true):A4s args h=some (v,h):=K_er03_Unpack.flat he hf
end Go.Proofs.YtdgggnlbdoiloaaGreat
end
section
namespace Go.Proofs.YtdgggnlbdoiloaaGreat
open Go Go.Esc
theorem I3k {a b:List UInt8} {h:A0}:A4U [.c (.s a),.c (.s b)] h=some (.c (.b (F7 a b)),h) :=
  D5U (n:=0) (h2:=ro h) (by rw [D3s];simp only [esc]) rfl
end Go.Proofs.YtdgggnlbdoiloaaGreat
end
section
namespace Go.Proofs.YtdgggnlbdoiloaaGreat
section
variable {α:Type} {lt:α → α → Prop}
theorem J4h (tr:∀ a b c,lt a b → lt b c → lt a c) (tot:∀ a b,lt a b ∨ a=b ∨ lt b a) {l:List α} {x:α} {p:Nat} (hl:l.Pairwise lt) (hx:x ∉ l) (h1:∀ y ∈ l.take p,lt y x) (h2:∀ y ∈ l.drop p,¬ lt y x) :
    (l.take p ++ x :: l.drop p).Pairwise lt:=by
  have hl':=hl
  rw [← List.take_append_drop p l] at hl'
  rw [List.pairwise_append] at hl'
  obtain ⟨k1,k2,k3⟩:=hl'
  rw [List.pairwise_append]
  refine ⟨k1,?_,?_⟩
  · rw [List.pairwise_cons]
    refine ⟨fun y hy=>?_,k2⟩
    rcases tot x y with h | h | h
    · exact h
    · subst h;exact absurd (List.mem_of_mem_drop hy) hx
    · exact absurd h (h2 y hy)
  · intro a ha b hb
    rcases List.mem_cons.1 hb with e | hb
    · subst e;exact h1 a ha
    · exact k3 a ha b hb
theorem mem_insert {l:List α} {x y:α} {p:Nat}:y ∈ l.take p ++ x :: l.drop p ↔ y=x ∨ y ∈ l:=by
  have e:y ∈ l ↔ y ∈ l.take p ∨ y ∈ l.drop p:=by rw [← List.mem_append,List.take_append_drop]
  rw [List.mem_append,List.mem_cons,e]
  constructor
  · rintro (h | h | h)
    · exact .inr (.inl h)
    · exact .inl h
    · exact .inr (.inr h)
  · rintro (h | h | h)
    · exact .inr (.inl h)
    · exact .inl h
    · exact .inr (.inr h)
end
end Go.Proofs.YtdgggnlbdoiloaaGreat
end
section
namespace Go.Proofs.YtdgggnlbdoiloaaGreat
open Go Go.Esc
theorem B4l:∀ a:List UInt8,F7 a a=false
  | []=>rfl
  | x :: a=>by simp [F7,B4l a,UInt8.lt_irrefl]
theorem A7E:∀ {a b c:List UInt8},F7 a b=true → F7 b c=true → F7 a c=true
  | [],[],_,h,_=>by simp [F7] at h
  | [],_ :: _,[],_,h=>by simp [F7] at h
  | [],_ :: _,_ :: _,_,_=>rfl
  | _ :: _,[],_,h,_=>by simp [F7] at h
  | _ :: _,_ :: _,[],_,h=>by simp [F7] at h
  | x :: a,y :: b,z :: c,h1,h2=>by
    simp only [F7,Bool.or_eq_true,Bool.and_eq_true,decide_eq_true_eq,beq_iff_eq] at h1 h2 ⊢
    rcases h1 with h1 | ⟨rfl,h1⟩
    · rcases h2 with h2 | ⟨rfl,h2⟩
      · exact .inl (UInt8.lt_trans h1 h2)
      · exact .inl h1
    · rcases h2 with h2 | ⟨rfl,h2⟩
      · exact .inl h2
      · exact .inr ⟨rfl,A7E h1 h2⟩
theorem B4m:∀ a b:List UInt8,F7 a b=true ∨ a=b ∨ F7 b a=true
  | [],[]=>.inr (.inl rfl)
  | [],_ :: _=>.inl rfl
  | _ :: _,[]=>.inr (.inr rfl)
  | x :: a,y :: b=>by
    simp only [F7,Bool.or_eq_true,Bool.and_eq_true,decide_eq_true_eq,beq_iff_eq,List.cons.injEq]
    rcases Nat.lt_trichotomy x.toNat y.toNat with h | h | h
    · exact .inl (.inl (UInt8.lt_iff_toNat_lt.2 h))
    · have e:=UInt8.toNat_inj.1 h
      subst e
      rcases B4m a b with h | h | h
      · exact .inl (.inr ⟨rfl,h⟩)
      · exact .inr (.inl ⟨rfl,h⟩)
      · exact .inr (.inr (.inr ⟨rfl,h⟩))
    · exact .inr (.inr (.inl (UInt8.lt_iff_toNat_lt.2 h)))
end Go.Proofs.YtdgggnlbdoiloaaGreat
end
section
namespace Go.Proofs.YtdgggnlbdoiloaaGreat
open Go Go.Esc
def plc (l:List (List UInt8)) (s:List UInt8):Nat → Nat → Nat → Nat
  | 0,lo,_=>lo
  | f + 1,lo,hi=>if lo < hi then (if F7 (l.getD (lo + (hi - lo) / 2) []) s then plc l s f (lo + (hi - lo) / 2 + 1) hi else plc l s f lo (lo + (hi - lo) / 2)) else lo
theorem B2y (l:List (List UInt8)) (s:List UInt8):∀ f lo hi,lo ≤ hi → plc l s f lo hi ≤ hi
  | 0,lo,hi,h=>h
  | f + 1,lo,hi,h=>by
    unfold plc
    split
    · split
      · exact B2y l s f _ hi (by omega)
      · exact Nat.le_trans (B2y l s f lo _ (by omega)) (by omega)
    · exact h
theorem B2z {l:List (List UInt8)} {s:List UInt8} (hl:l.Pairwise fun a b=>F7 a b=true):∀ f lo hi,lo ≤ hi → hi ≤ l.length → hi - lo ≤ f → (∀ i x,i < lo → l[i]? = some x → F7 x s=true) → (∀ i x,hi ≤ i → l[i]? = some x → F7 x s=false) →
    (∀ i x,i < plc l s f lo hi → l[i]? = some x → F7 x s=true) ∧ (∀ i x,plc l s f lo hi ≤ i → l[i]? = some x → F7 x s=false)
  | 0,lo,hi,h,_,hf,h1,h2=>by
    have:hi=lo:=by omega
    subst this
    exact ⟨h1,h2⟩
  | f + 1,lo,hi,h,hh,hf,h1,h2=>by
    unfold plc
    by_cases c:lo < hi
    · rw [if_pos c]
      have hm:lo + (hi - lo) / 2 < hi:=by omega
      have hlo:lo ≤ lo + (hi - lo) / 2:=by omega
      generalize lo + (hi - lo) / 2=mid at *
      have hg:l[mid]? = some (l.getD mid []):=by rw [List.getD_eq_getElem?_getD,List.getElem?_eq_getElem (by omega)];rfl
      have mono:∀ (i j:Nat) (x y:List UInt8),i < j → l[i]? = some x → l[j]? = some y → F7 x y=true:=by
        intro i j x y hij hi hj
        rw [List.pairwise_iff_getElem] at hl
        obtain ⟨a,rfl⟩:=List.getElem?_eq_some_iff.1 hi
        obtain ⟨b,rfl⟩:=List.getElem?_eq_some_iff.1 hj
        exact hl i j a b hij
      cases cb:F7 (l.getD mid []) s with
      | true =>
        rw [if_pos rfl]
        refine B2z hl f (mid + 1) hi (by omega) hh (by omega) (fun i x hi hx=>?_) h2
        by_cases e:i=mid
        · subst e
          rw [hg] at hx
          rw [← Option.some.inj hx];exact cb
        · exact A7E (mono i mid x _ (by omega) hx hg) cb
      | false =>
        rw [if_neg (by simp)]
        refine B2z hl f lo mid (by omega) (by omega) (by omega) h1 (fun i x hi hx=>?_)
        by_cases e:i=mid
        · subst e
          rw [hg] at hx
          rw [← Option.some.inj hx];exact cb
        · cases cx:F7 x s with
          | false=>rfl
          | true=>rw [A7E (mono mid i _ x (by omega) hg hx) cx] at cb;exact cb
    · rw [if_neg c]
      have:hi=lo:=by omega
      subst this
      exact ⟨h1,h2⟩
def Y3 (l:List (List UInt8)) (s:List UInt8) (n:Nat):Bool:=decide (l[n]? = some s)
theorem A8a (l:List (List UInt8)) (i:Nat):(encS l)[i]? = (l[i]?).map fun x=>.s x:=by simp [encS]
theorem B2x {v:Val} {nv q:Nat} {l:List (List UInt8)} {s:List UInt8} {h:A0} (hv:Has h v 1 nv (encS l)) (hn:l.length=nv) (h62:nv < 4611686018427387904):∀ f m lo hi:Nat,lo ≤ hi → hi ≤ nv → hi - lo ≤ f → f < m →
    A3V q m v (.c (.s s)) (.c (.i .i64 lo)) (.c (.i .i64 hi)) h=some (.t [.c (.i .i64 (plc l s f lo hi:Nat)),.c (.b (Y3 l s (plc l s f lo hi)))],h)
  | f,0,lo,hi,_,_,_,hm=>by omega
  | f,m + 1,lo,hi,h1,h2,hf,hm=>by
    have hlen:=hv.len
    have fin:lo=hi → A3V q (m + 1) v (.c (.s s)) (.c (.i .i64 lo)) (.c (.i .i64 hi)) h=some (.t [.c (.i .i64 lo),.c (.b (Y3 l s lo))],h):=by
      intro e
      subst e
      have c0:¬ (lo:Int) < lo:=by omega
      rw [C64]
      unfold Y3
      by_cases c1:lo < nv
      · have c1':(lo:Int) < nv:=by omega
        obtain ⟨id,off,ev,hid,k1,k2⟩:=hv.sl (by omega)
        have hx:=k1 lo (.s l[lo]) (by rw [A8a,List.getElem?_eq_getElem (by omega)];rfl)
        have eb:D0 1 v (.c (.i .i64 (lo:Int)))=some (.c (.p id (off + lo))):=by rw [ev,I9 (by omega)];simp
        have e2:l[lo]? = some l[lo]:=List.getElem?_eq_getElem (by omega)
        rw [e2]
        simp only [esc,hlen,c0,c1',eb,hx]
      · have c1':¬ (lo:Int) < nv:=by omega
        have e2:l[lo]? = none:=List.getElem?_eq_none (by omega)
        rw [e2]
        simp only [esc,hlen,c0,c1',reduceCtorEq]
    cases f with
    | zero =>
      have e:lo=hi:=by omega
      exact fin e
    | succ f =>
      unfold plc
      by_cases c:lo < hi
      · rw [if_pos c]
        have c':(lo:Int) < hi:=by omega
        obtain ⟨id,off,ev,hid,k1,k2⟩:=hv.sl (by omega)
        have w1:IntKind.wrap .i64 ((hi:Int) - lo)=((hi - lo:Nat):Int):=by rw [wrap_i64 (by omega) (by omega)];omega
        have w2:=A5C (a:=((hi - lo:Nat):Int)) (b:=2) (by omega) (by omega) (by omega)
        have w3:((hi - lo:Nat):Int) / 2=(((hi - lo) / 2:Nat):Int):=by omega
        rw [w3] at w2
        have w4:IntKind.wrap .i64 ((lo:Int) + (((hi - lo) / 2:Nat):Int))=((lo + (hi - lo) / 2:Nat):Int):=A0O (by omega)
        have hm1:lo + (hi - lo) / 2 < hi:=by omega
        have hm2:lo ≤ lo + (hi - lo) / 2:=by omega
        generalize (hi - lo) / 2=d at *
        generalize lo + d=mid at *
        have hx:=k1 mid (.s l[mid]) (by rw [A8a,List.getElem?_eq_getElem (by omega)];rfl)
        have eb:D0 1 v (.c (.i .i64 (mid:Int)))=some (.c (.p id (off + mid))):=by rw [ev,I9 (by omega)];simp
        have eg:l.getD mid []=l[mid]:=by rw [List.getD_eq_getElem?_getD,List.getElem?_eq_getElem (by omega)];rfl
        rw [eg]
        have hL:=fun h=>I3k (a:=l[mid]) (b:=s) (h:=h)
        rw [C64]
        cases cb:F7 l[mid] s with
        | true =>
          rw [cb] at hL
          have ih:=B2x (q:=q) (s:=s) hv hn h62 f m (mid + 1) hi (by omega) h2 (by omega) (by omega)
          rw [if_pos rfl]
          simp only [esc,hlen,c',w1,w2,w4,eb,hx,hL,E6 (show mid + 1 < 9223372036854775808 by omega)]
          exact ih
        | false =>
          rw [cb] at hL
          have ih:=B2x (q:=q) (s:=s) hv hn h62 f m lo mid hm2 (by omega) (by omega) (by omega)
          rw [if_neg (by simp)]
          simp only [esc,hlen,c',w1,w2,w4,eb,hx,hL]
          exact ih
      · rw [if_neg c]
        exact fin (by omega)
theorem I4Y {v:Val} {nv:Nat} {l:List (List UInt8)} {s:List UInt8} {h:A0} (hv:Has h v 1 nv (encS l)) (h62:nv < 4611686018427387904) :
    A3x [v,.c (.s s)] h=some (.t [.c (.i .i64 (plc l s nv 0 nv:Nat)),.c (.b (Y3 l s (plc l s nv 0 nv)))],h):=by
  have hn:l.length=nv:=by simpa [A1N] using hv.length
  have key:∀ N,nv < N → ∀ g,Has g v 1 nv (encS l) → ∃ g',A62 N [v,.c (.s s)] g=some (.t [.c (.i .i64 (plc l s nv 0 nv:Nat)),.c (.b (Y3 l s (plc l s nv 0 nv)))],g'):=by
    intro N hN g hv
    have e:=B2x (q:=N) (s:=s) hv hn h62 nv N 0 nv (by omega) (by omega) (by omega) hN
    rw [D3u]
    exact ⟨_,by simp only [esc,hv.len];exact e⟩
  obtain ⟨g',e⟩:=key (nv + 1) (by omega) (ro h) hv.ro
  exact D5X e rfl
end Go.Proofs.YtdgggnlbdoiloaaGreat
end
section
namespace Go.Proofs.YtdgggnlbdoiloaaGreat
open Go Go.Esc
theorem D0s {id n a:Nat} (ha:a ≤ n):A0C 1 (.c (.sl id 0 n 1)) (some (.c (.i .i64 (a:Int)))) none=some (.c (.sl id a (n - a) 1)):=by
  simp only [A0C,bound]
  rw [if_pos (by omega)]
  simp only [Option.bind_some,Int.toNat_natCast]
  rw [if_pos ⟨ha,Nat.le_refl _,trivial⟩]
  simp
theorem E3r {H:A0} {id k p:Nat} {out:List (List UInt8)} (hr:rd H id=some ⟨encS (out ++ [[]]),true⟩) (hk:out.length=k) (hp:p ≤ k) :
    ∃ c,A2R H 1 (.c (.sl id (p + 1) (k - p) 1)) (.c (.sl id p (k + 1 - p) 1))=some (c,H.set id (some ⟨encS ((out ++ [[]]).take (p + 1) ++ out.drop p),true⟩)):=by
  have hl:(encS (out ++ [[]])).length=k + 1:=by rw [A1N];simp [hk]
  have h1:((encS (out ++ [[]])).drop p).take (k + 1 - p)=(encS (out ++ [[]])).drop p:=List.take_of_length_le (by rw [List.length_drop];omega)
  have h2:M3 H 1 (.c (.sl id p (k + 1 - p) 1))=some ((encS (out ++ [[]])).drop p):=by
    simp only [M3,if_true,W8,hr,Option.bind_some,Nat.mul_one,h1]
    rw [if_pos ⟨by omega,by simp⟩]
  have h3:((encS (out ++ [[]])).drop p).length=k + 1 - p:=by rw [List.length_drop];omega
  have h4:Nat.min (k + 1 - p) (k - p)=k - p:=Nat.min_eq_right (by omega)
  have h5:lay (encS (out ++ [[]])) (p + 1) (((encS (out ++ [[]])).drop p).take (k - p))=encS ((out ++ [[]]).take (p + 1) ++ out.drop p):=by
    unfold lay
    have e1:((encS (out ++ [[]])).drop p).take (k - p)=encS (out.drop p):=by
      unfold encS
      rw [List.map_append,List.drop_append_of_le_length (by simp;omega),List.take_append_of_le_length (by simp;omega),List.take_of_length_le (by simp;omega),List.map_drop]
    have e2:(encS (out ++ [[]])).drop (p + 1 + (encS (out.drop p)).length)=[]:=List.drop_of_length_le (by rw [hl,A1N,List.length_drop];omega)
    rw [e1,e2]
    simp only [List.append_nil,encS,List.map_append,List.map_take,List.map_drop]
  refine ⟨.c (.i .i64 ((k - p:Nat):Int)),?_⟩
  simp only [A2R,h2,Option.bind_some,hr,h3,Nat.div_one,h4,Nat.mul_one,h5]
  rw [if_pos ⟨trivial,by omega,trivial⟩]
end Go.Proofs.YtdgggnlbdoiloaaGreat
end
section
namespace Go.Proofs.YtdgggnlbdoiloaaGreat
open Go Go.Esc
abbrev J2:=List (List UInt8)
def atS (o:J2) (s:List UInt8):Nat:=plc o s o.length 0 o.length
def M9 (o:J2) (s:List UInt8):J2:=bif Y3 o s (atS o s) then o else o.take (atS o s) ++ s :: o.drop (atS o s)
def T2 (l:J2):J2:=l.foldl M9 []
theorem B4f (o:J2) (s:List UInt8):atS o s ≤ o.length:=B2y o s _ _ _ (Nat.zero_le _)
theorem C5S (o:J2) (s:List UInt8):(M9 o s).length ≤ o.length + 1:=by
  have:=B4f o s
  unfold M9
  cases Y3 o s (atS o s) <;> simp <;> omega
theorem G9p (l:J2):∀ o:J2,(l.foldl M9 o).length ≤ o.length + l.length:=by
  induction l with
  | nil=>intro o;simp
  | cons x l ih =>
    intro o
    have h1:=ih (M9 o x)
    have h2:=C5S o x
    simp only [List.foldl_cons,List.length_cons] at h1 ⊢
    omega
theorem J5k (l:J2):(T2 l).length ≤ l.length:=by
  have:=G9p l []
  simpa [T2] using this
abbrev Up (l:J2):Prop:=l.Pairwise fun a b=>F7 a b=true
theorem B4g {o:J2} {s:List UInt8} (ho:Up o):(∀ i x,i < atS o s → o[i]? = some x → F7 x s=true) ∧ (∀ i x,atS o s ≤ i → o[i]? = some x → F7 x s=false) :=
  B2z ho o.length 0 o.length (Nat.zero_le _) (Nat.le_refl _) (by omega) (fun i x hi=>by omega) (fun i x hi hx=>by
    have:=(List.getElem?_eq_some_iff.1 hx).1;omega)
theorem C5U {o:J2} {s:List UInt8} (ho:Up o):Y3 o s (atS o s)=true ↔ s ∈ o:=by
  unfold Y3
  rw [decide_eq_true_eq]
  constructor
  · intro h;exact List.mem_of_getElem? h
  · intro h
    obtain ⟨i,hi⟩:=List.mem_iff_getElem?.1 h
    obtain ⟨h1,h2⟩:=B4g (s:=s) ho
    have hge:atS o s ≤ i:=by
      false_or_by_contra
      have:=h1 i s (by omega) hi
      rw [B4l] at this;cases this
    by_cases e:atS o s=i
    · rw [e];exact hi
    · have hil:=(List.getElem?_eq_some_iff.1 hi).1
      have hg:o[atS o s]? = some o[atS o s]:=List.getElem?_eq_getElem (by omega)
      have k1:=h2 _ _ (Nat.le_refl _) hg
      have k2:F7 o[atS o s] s=true:=by
        obtain ⟨a,ha⟩:=List.getElem?_eq_some_iff.1 hi
        have:=List.pairwise_iff_getElem.1 ho (atS o s) i (by omega) a (by omega)
        rw [ha] at this;exact this
      rw [k1] at k2;cases k2
theorem I0y {o:J2} {s:List UInt8} (ho:Up o):Up (M9 o s) ∧ ∀ x,x ∈ M9 o s ↔ x=s ∨ x ∈ o:=by
  unfold M9
  cases c:Y3 o s (atS o s) with
  | true =>
    have hm:=(C5U ho).1 c
    rw [cond_true]
    exact ⟨ho,fun x=>⟨fun h=>.inr h,fun h=>by rcases h with h | h;subst h;exact hm;exact h⟩⟩
  | false =>
    have hm:s ∉ o:=fun h=>by rw [(C5U ho).2 h] at c;cases c
    obtain ⟨h1,h2⟩:=B4g (s:=s) ho
    rw [cond_false]
    refine ⟨J4h (lt:=fun a b=>F7 a b=true) (fun a b c=>A7E) (fun a b=>B4m a b) ho hm (fun y hy=>?_) (fun y hy=>?_),fun x=>mem_insert⟩
    · obtain ⟨i,hi⟩:=List.mem_iff_getElem?.1 hy
      have hl:=(List.getElem?_eq_some_iff.1 hi).1
      rw [List.length_take] at hl
      rw [List.getElem?_take_of_lt (by omega)] at hi
      exact h1 i y (by omega) hi
    · obtain ⟨i,hi⟩:=List.mem_iff_getElem?.1 hy
      rw [List.getElem?_drop] at hi
      have:=h2 _ y (by omega) hi
      rw [this];simp
theorem G9q (l:J2):∀ o:J2,Up o → Up (l.foldl M9 o) ∧ ∀ x,x ∈ l.foldl M9 o ↔ x ∈ o ∨ x ∈ l:=by
  induction l with
  | nil=>intro o ho;exact ⟨ho,fun x=>by simp⟩
  | cons y l ih =>
    intro o ho
    obtain ⟨h1,h2⟩:=I0y (s:=y) ho
    obtain ⟨h3,h4⟩:=ih _ h1
    refine ⟨h3,fun x=>?_⟩
    rw [List.foldl_cons,h4,h2,List.mem_cons]
    constructor
    · rintro ((h | h) | h)
      · exact .inr (.inl h)
      · exact .inl h
      · exact .inr (.inr h)
    · rintro (h | h | h)
      · exact .inl (.inr h)
      · exact .inl (.inl h)
      · exact .inr h
theorem J5l (l:J2) (x:List UInt8):x ∈ T2 l ↔ x ∈ l:=by
  have:=(G9q l [] List.Pairwise.nil).2 x
  simpa [T2] using this
theorem B2R {v:Val} {nv q:Nat} {l:J2} {g:A0} (hv:Has g v 1 nv (encS l)) (hn:l.length=nv) (h62:nv < 1073741824):∀ (e i m:Nat) (o:J2) (h:A0) (id:Nat),i + e=nv → e < m → o.length ≤ i → Low g.length g h → g.length ≤ id → rd h id=some ⟨encS o,true⟩ →
    ∃ v2 h2,A9A q m (.c (.sl id 0 o.length 1)) v (.c (.i .i64 nv)) (.c (.i .i64 i)) h=some (v2,h2) ∧ Out g.length h2 v2 1 ((l.drop i).foldl M9 o).length (encS ((l.drop i).foldl M9 o))
  | e,i,0,o,h,id,_,hm,_,_,_,_=>by omega
  | 0,i,m + 1,o,h,id,hi,hm,hol,hlow,hid,hr=>by
    have e0:i=nv:=by omega
    subst e0
    have c0:¬ (i:Int) < i:=by omega
    rw [C7h,List.drop_of_length_le (by omega),List.foldl_nil]
    exact ⟨_,_,by simp only [esc,c0] <;> rfl,by rw [A1N];omega,_,rfl,hid,hr⟩
  | e + 1,i,m + 1,o,h,id,hi,hm,hol,hlow,hid,hr=>by
    have c0:(i:Int) < nv:=by omega
    obtain ⟨jd,off,ev,hjd,k1,k2⟩:=(hv.since hlow).sl (by omega)
    have hx:=k1 i (.s l[i]) (by rw [A8a,List.getElem?_eq_getElem (by omega)];rfl)
    have eb:D0 1 v (.c (.i .i64 (i:Int)))=some (.c (.p jd (off + i))):=by rw [ev,I9 (by omega)];simp
    have hP:=I4Y (s:=l[i]) (Has.row (sz:=1) (n:=o.length) hr (by rw [A1N];omega) (C7L o)) (by omega)
    rw [List.drop_eq_getElem_cons (by omega:i < l.length),List.foldl_cons]
    change A3x _ h=some (.t [.c (.i .i64 (atS o l[i]:Nat)),.c (.b (Y3 o l[i] (atS o l[i])))],h) at hP
    have hat:=B4f o l[i]
    rw [C7h]
    generalize hs:l[i]=s at *
    cases c:Y3 o s (atS o s) with
    | true =>
      have ei:M9 o s=o:=by unfold M9;rw [c,cond_true]
      rw [c] at hP
      obtain ⟨v2,h2,f1,f2⟩:=B2R (q:=q) hv hn h62 e (i + 1) m o h id (by omega) (by omega) (by omega) hlow hid hr
      rw [ei]
      refine ⟨v2,h2,?_,f2⟩
      simp only [esc,c0,eb,hx,hP,C7g,E6 (show i + 1 < 9223372036854775808 by omega)]
      exact f1
    | false =>
      have ei:M9 o s=o.take (atS o s) ++ s :: o.drop (atS o s):=by unfold M9;rw [c,cond_false]
      rw [c] at hP
      have il:=C5S o s
      generalize hp:atS o s=p at *
      obtain ⟨h1,a1,a2,a3,a4,a5⟩:=push (ys:=[.s []]) (sz:=1) (n:=o.length) hlow hr (by rw [A1N];omega) hid rfl (by omega) (by omega)
      have he:encS o ++ [.s []]=encS (o ++ [[]]):=by simp [encS]
      rw [he] at a2
      have ef:B0 [Cell.s []] [(0,1,.c (.s []))]=some [.s []]:=rfl
      have w1:IntKind.wrap .i64 ((p:Int) + 1)=((p + 1:Nat):Int):=E6 (by omega)
      have t1:=D0s (id:=h.length + 1) (n:=o.length + 1) (a:=p + 1) (by omega)
      have t2:=D0s (id:=h.length + 1) (n:=o.length + 1) (a:=p) (by omega)
      rw [show o.length + 1 - (p + 1)=o.length - p by omega] at t1
      obtain ⟨cc,t3⟩:=E3r (H:=h1) (id:=h.length + 1) (k:=o.length) (p:=p) a2 rfl hat
      have t4:D0 1 (.c (.sl (h.length + 1) 0 (o.length + 1) 1)) (.c (.i .i64 (p:Int)))=some (.c (.p (h.length + 1) p)):=by rw [I9 (by omega)];simp
      have hlt:=D5 a2
      have t5:rd (h1.set (h.length + 1) (some ⟨encS ((o ++ [[]]).take (p + 1) ++ o.drop p),true⟩)) (h.length + 1)=some ⟨encS ((o ++ [[]]).take (p + 1) ++ o.drop p),true⟩:=I5 hlt
      have t6:=Z1 (x:=.s s) (off:=p) t5 (by rw [A1N,List.length_append,List.length_take,List.length_append];simp;omega)
      have t7:(encS ((o ++ [[]]).take (p + 1) ++ o.drop p)).set p (.s s)=encS (M9 o s):=by
        rw [ei]
        have e1:(o ++ [[]]).take (p + 1)=o.take p ++ [(o ++ [[]])[p]'(by simp;omega)]:=by
          rw [List.take_succ_eq_append_getElem (by simp;omega),List.take_append_of_le_length hat]
        rw [e1]
        unfold encS
        rw [← List.map_set]
        congr 1
        rw [List.append_assoc,List.set_append_right _ _ (by simp;omega),List.length_take,Nat.min_eq_left hat,Nat.sub_self]
        rfl
      rw [List.set_set,t7] at t6
      obtain ⟨v2,h2,f1,f2⟩:=B2R (q:=q) hv hn h62 e (i + 1) m (M9 o s) (h1.set (h.length + 1) (some ⟨encS (M9 o s),true⟩)) (h.length + 1) (by omega) (by omega) (by omega) (a3.set a4 _) a4 (I5 hlt)
      have el:(M9 o s).length=o.length + 1:=by rw [ei];simp;omega
      rw [el] at f1
      refine ⟨v2,h2,?_,f2⟩
      simp only [esc,c0,eb,hx,hP,ef,a1,w1,t1,t2,t3,t4,t6,C7g,E6 (show i + 1 < 9223372036854775808 by omega)]
      exact f1
theorem I5X {v:Val} {nv:Nat} {l:J2} {h:A0} (hv:Has h v 1 nv (encS l)) (h62:nv < 1073741824) :
    A4V [v] h=some (.c (.sl h.length 0 (T2 l).length 1),h ++ [some ⟨encS (T2 l),true⟩]):=by
  have hn:l.length=nv:=by simpa [A1N] using hv.length
  have key:∀ N,nv < N → ∀ g,Has g v 1 nv (encS l) → ∃ v2 g',A63 N [v] g=some (v2,g') ∧ Out g.length g' v2 1 (T2 l).length (encS (T2 l)):=by
    intro N hN g hv
    obtain ⟨v2,g',f1,f2⟩:=B2R (q:=N) hv hn h62 nv 0 N [] ((g ++ [some (Row.mk [] true)]) ++ [some (Row.mk [] true)]) (g.length + 1) (by omega) hN (Nat.le_refl _) (((Low.refl (Nat.le_refl _)).new _).new _) (by omega) (by simp [encS])
    rw [List.drop_zero] at f2
    rw [D3v]
    refine ⟨v2,g',?_,f2⟩
    rw [hv.len,K3]
    simpa using f1
  obtain ⟨v2,g',e,ho⟩:=key (nv + 1) (by omega) (ro h) hv.ro
  exact D50 e (by simpa [L6] using ho) (by simp)
end Go.Proofs.YtdgggnlbdoiloaaGreat
end
section
namespace Go.Proofs.YtdgggnlbdoiloaaGreat
open Go Go.Esc
def F0 (l:List Ent):List Cell:=(l.map fun x=>E9 (some x)).flatten
theorem B1P {l:List Ent}:(F0 l).length=l.length * 2:=by
  induction l with
  | nil=>rfl
  | cons x l ih=>simp only [F0,List.map_cons,List.flatten_cons,List.length_append,E9,List.length_cons,List.length_nil] at ih ⊢;omega
theorem E8v {k:Nat} {x:Ent} {r:List Cell}:List.drop ((k + 1) * 2) (E9 (some x) ++ r)=List.drop (k * 2) r:=by
  rw [show (k + 1) * 2=k * 2 + 2 by omega]
  rfl
theorem B1O:∀ (l:List Ent) (k:Nat) (hk:k < l.length),((F0 l).drop (k * 2)).take 2=E9 (some l[k])
  | [],k,hk=>by simp at hk
  | x :: l,0,_=>rfl
  | x :: l,k + 1,hk=>by
    have e:F0 (x :: l)=E9 (some x) ++ F0 l:=rfl
    rw [e,E8v,List.getElem_cons_succ]
    exact B1O l k (by simpa using hk)
def F6 (l:List Ent) (k:Nat):Ent:=l.getD k ([],0)
theorem A8b {l:List Ent} {k:Nat} (hk:k < l.length):F6 l k=l[k]:=by simp [F6,List.getD,hk]
def F8 (l:List Ent):Nat → List UInt8
  | 0=>hdB
  | k + 1=>D2 (F8 l k) (F4 k) (H4 (F6 l k).1 (F6 l k).2)
theorem A1Z {l:List Ent}:∀ k,k ≤ 7 → (F8 l k).length=256
  | 0,_=>B14
  | k + 1,hk=>by rw [F8,A0p (by rw [A1Z k (by omega),A1O];unfold F4;omega)];exact A1Z k (by omega)
def atX (b nm:List UInt8):Nat:=match J3 b nm with
  | some x=>x.1
  | none=>0
theorem J5d {o:Option Slt}:(slC o)[0]? = some (.i .i64 ((match o with | some x=>x.1 | none=>0:Nat):Int)):=by cases o <;> rfl
def A3X (l:List Ent) (k:Nat):Bool:=decide (atX (F8 l l.length) (F6 l k).1=k)
def A1m (l:List Ent):Bool:=(List.range' 0 l.length).all (A3X l)
def A0J (l:List Ent):Bool:=l.all fun x=>S9 x.1 x.2
theorem C7I {v:Val} {nv q:Nat} {l:List Ent} {B:A0} {g:Nat} (hv:Has B v 2 nv (F0 l)) (hn:l.length=nv) (h7:nv ≤ 7) (hg:rd B g=some ⟨A3 (zeros 256),true⟩):∀ (e k m:Nat) (h:A0),k + e=nv → e < m → Low B.length B h → rd h B.length=some ⟨A3 (F8 l nv),true⟩ →
    ∃ h',A7I q m (.c (.p g 0)) (.c (.p B.length 0)) v (.c (.i .i64 (nv:Int))) (.c (.i .i64 (k:Int))) h=some (.t [.a (A3 (bif (List.range' k e).all (A3X l) then F8 l nv else zeros 256)),.c (.i .i64 (bif (List.range' k e).all (A3X l) then 0 else 5))],h')
  | e,k,0,h,_,hm,_,_=>by omega
  | 0,k,m + 1,h,hk,hm,hlow,hr=>by
    have e0:k=nv:=by omega
    subst e0
    have c0:¬ (k:Int) < k:=by omega
    have hL:(A3 (F8 l k)).length=256:=by rw [B4];exact A1Z k h7
    have hz:(A3 (zeros 256)).length=256:=by rw [B4];exact zeros_length
    have hrg:=hlow.rd hg
    have s1:=G9 hr hL
    have s2:=storeAll (xs:=A3 (F8 l k)) hrg hz hL
    have s3:=G9 (h:=h.set g (some ⟨A3 (F8 l k),true⟩)) (id:=g) (I5 (D5 hrg)) hL
    rw [B4P,List.range'_zero,List.all_nil,cond_true,cond_true]
    generalize A3 (F8 l k)=y at *
    exact ⟨_,by simp only [esc,c0,s1,s2,s3] <;> rfl⟩
  | e + 1,k,m + 1,h,hk,hm,hlow,hr=>by
    have c0:(k:Int) < nv:=by omega
    have hL:(A3 (F8 l nv)).length=256:=by rw [B4];exact A1Z nv h7
    have hvB:Has h v 2 nv (F0 l):=by
      refine hv.low hlow fun id off m he=>?_
      rcases hv with ⟨rfl,_⟩ | ⟨id',off',r',rfl,hrd,_⟩
      · cases he
      · cases he;exact D5 hrd
    obtain ⟨id,off,ev,hid,k1,k2⟩:=hvB.sl (by omega)
    have eb:D0 2 v (.c (.i .i64 (k:Int)))=some (.c (.p id (off + k * 2))):=by rw [ev,I9 (by omega)]
    have hld:=k2 (k * 2) 2 (by rw [B1P];omega)
    rw [B1O l k (by omega),← A8b (by omega)] at hld
    have w1:=E6 (show k + 1 < 9223372036854775808 by omega)
    have hF:=fun h=>B4v (b:=F8 l nv) (nm:=(F6 l k).1) (h:=h) (A1Z nv h7)
    have s1:=fun t=>G9 (h:=h ++ t) (C8 hr) hL
    have hat:(slC (J3 (F8 l nv) (F6 l k).1))[0]? = some (.i .i64 (atX (F8 l nv) (F6 l k).1:Nat)):=J5d
    have hSl:=A17 (o:=J3 (F8 l nv) (F6 l k).1)
    rw [B4P,List.range'_succ,List.all_cons]
    have hon:A3X l k=decide (atX (F8 l nv) (F6 l k).1=k):=by unfold A3X;rw [hn]
    rw [hon]
    generalize slC (J3 (F8 l nv) (F6 l k).1)=S at *
    generalize atX (F8 l nv) (F6 l k).1=A at *
    obtain ⟨h',ih⟩:=C7I (q:=q) hv hn h7 hg e (k + 1) m (h ++ [some (Row.mk (E9 (some (F6 l k))) true),some (Row.mk S true)]) (by omega) (by omega) (hlow.new _) (C8 hr)
    simp only [E9] at *
    by_cases c:A=k
    · subst c
      rw [decide_eq_true rfl,Bool.true_and]
      refine ⟨h',?_⟩
      generalize A3 (F8 l nv)=y at *
      simp only [esc,esh,Nat.reduceAdd,Nat.reduceMul,Nat.reduceLT,c0,eb,hld,s1,hF,hat,hSl,w1]
      exact ih
    · rw [decide_eq_false c,Bool.false_and,cond_false,cond_false]
      have c':¬ (A:Int)=k:=by omega
      have hz:(A3 (zeros 256)).length=256:=by rw [B4];exact zeros_length
      have hrg:=fun t:A0=>C8 (g:=t) (hlow.rd hg)
      have haf:B0 (List.replicate 256 (Cell.i .u8 0)) []=some (List.replicate 256 (Cell.i .u8 0)):=rfl
      rw [M0] at haf
      have s2:=fun t=>storeAll (xs:=A3 (zeros 256)) (hrg t) hz hz
      have s3:=fun t=>G9 (h:=(h ++ t).set g (some ⟨A3 (zeros 256),true⟩)) (id:=g) (I5 (D5 (hrg t))) hz
      rw [M0]
      generalize zeros 256=z at *
      generalize A3 (F8 l nv)=y at *
      exact ⟨_,by simp only [esc,esh,Nat.reduceAdd,Nat.reduceMul,Nat.reduceLT,c0,eb,hld,s1,hF,hat,hSl,c',haf,s2,s3] <;> rfl⟩
theorem C7H {v:Val} {nv q:Nat} {l:List Ent} {B:A0} {g:Nat} (hv:Has B v 2 nv (F0 l)) (hn:l.length=nv) (h7:nv ≤ 7) (hs:∀ x ∈ l,x.1.length ≤ 60) (hg:rd B g=some ⟨A3 (zeros 256),true⟩) (hq:nv < q):∀ (e k m:Nat) (h:A0),k + e=nv → e < m → Low B.length B h → rd h B.length=some ⟨A3 (F8 l k),true⟩ →
    ∃ h',A7H q m v (.c (.p g 0)) (.c (.p B.length 0)) v (.c (.i .i64 (nv:Int))) (.c (.i .i64 (k:Int))) h=some (.t [.a (A3 (bif A0J (l.drop k) && A1m l then F8 l nv else zeros 256)),.c (.i .i64 (bif A0J (l.drop k) then (bif A1m l then 0 else 5) else 1))],h')
  | e,k,0,h,_,hm,_,_=>by omega
  | 0,k,m + 1,h,hk,hm,hlow,hr=>by
    have e0:k=nv:=by omega
    subst e0
    have c0:¬ (k:Int) < k:=by omega
    have hvB:Has h v 2 k (F0 l):=by
      refine hv.low hlow fun id off m he=>?_
      rcases hv with ⟨rfl,_⟩ | ⟨id',off',r',rfl,hrd,_⟩
      · cases he
      · cases he;exact D5 hrd
    obtain ⟨h',e⟩:=C7I (q:=q) hv hn h7 hg k 0 q h (by omega) hq hlow hr
    have em:A0J (l.drop k)=true:=by rw [List.drop_of_length_le (by omega)];rfl
    have eo:(List.range' 0 k).all (A3X l)=A1m l:=by unfold A1m;rw [hn]
    rw [eo] at e
    rw [B4O,em,Bool.true_and,cond_true]
    exact ⟨h',by simp only [esc,c0,hvB.len];exact e⟩
  | e + 1,k,m + 1,h,hk,hm,hlow,hr=>by
    have c0:(k:Int) < nv:=by omega
    have hNl:=A1Z (l:=l) k (by omega)
    have hL:(A3 (F8 l k)).length=256:=by rw [B4];exact hNl
    have hvB:Has h v 2 nv (F0 l):=by
      refine hv.low hlow fun id off m he=>?_
      rcases hv with ⟨rfl,_⟩ | ⟨id',off',r',rfl,hrd,_⟩
      · cases he
      · cases he;exact D5 hrd
    obtain ⟨id,off,ev,hid,k1,k2⟩:=hvB.sl (by omega)
    have eb:D0 2 v (.c (.i .i64 (k:Int)))=some (.c (.p id (off + k * 2))):=by rw [ev,I9 (by omega)]
    have hld:=k2 (k * 2) 2 (by rw [B1P];omega)
    rw [B1O l k (by omega),← A8b (by omega)] at hld
    have w1:=E6 (show k + 1 < 9223372036854775808 by omega)
    have hsk:(F6 l k).1.length ≤ 60:=by rw [A8b (by omega)];exact hs _ (List.getElem_mem _)
    have hM:=fun h=>B5w (s:=(F6 l k).1) (n:=(F6 l k).2) (h:=h) (by omega)
    have hW:=fun h=>B5R (s:=(F6 l k).1) (n:=(F6 l k).2) (h:=h) (by omega)
    have hF:=fun h=>B1q (k:=k) (h:=h) (by omega)
    have hmd:A0J (l.drop k)=(S9 (F6 l k).1 (F6 l k).2 && A0J (l.drop (k + 1))):=by
      rw [List.drop_eq_getElem_cons (by omega:k < l.length),A8b (by omega)];rfl
    have hEl:(H4 (F6 l k).1 (F6 l k).2).length=32:=A1O
    have hLy:=B2t (v:=.c (.sl (h.length + 1) 0 32 1)) (nv:=32) (data:=H4 (F6 l k).1 (F6 l k).2) (l:=F8 l k) (h:=h ++ [some (Row.mk (E9 (some (F6 l k))) true),some (Row.mk (A3 (H4 (F6 l k).1 (F6 l k).2)) true)]) (Has.row (rw:=true) (by simp) (by rw [B4,A1O]) (I3 _)) hNl (by rw [hEl];omega) (a:=(F4 k:Nat))
    have elay:Q6 (F8 l k) (F4 k:Nat) (H4 (F6 l k).1 (F6 l k).2)=F8 l (k + 1):=by
      unfold Q6
      have:F4 k < 256:=by unfold F4;omega
      rw [if_pos ⟨by omega,by omega⟩,Int.toNat_natCast,List.take_of_length_le (by rw [hEl];unfold F4;omega)]
      rfl
    rw [elay] at hLy
    have hq2:quiet (h ++ [some (Row.mk (E9 (some (F6 l k))) true)]) (some (.c (.sl (h.length + 1) 0 32 1),h ++ [some (Row.mk (E9 (some (F6 l k))) true),some (Row.mk (A3 (H4 (F6 l k).1 (F6 l k).2)) true)]))=_:=J3T
    have hrk:∀ t:A0,rd (h ++ t) B.length=some ⟨A3 (F8 l k),true⟩:=fun t=>C8 hr
    have s1:=fun t=>G9 (h:=h ++ t) (hrk t) hL
    have hN1:(A3 (F8 l (k + 1))).length=256:=by rw [B4];exact A1Z (k + 1) (by omega)
    have s2:=fun t=>storeAll (h:=h ++ t) (xs:=A3 (F8 l (k + 1))) (hrk t) hL hN1
    obtain ⟨h',ih⟩:=C7H (q:=q) hv hn h7 hs hg hq e (k + 1) m ((h ++ [some (Row.mk (E9 (some (F6 l k))) true),some (Row.mk (A3 (H4 (F6 l k).1 (F6 l k).2)) true)]).set B.length (some ⟨A3 (F8 l (k + 1)),true⟩)) (by omega) (by omega) ((hlow.new _).set (Nat.le_refl _) _) (I5 (D5 (hrk _)))
    rw [B4O,hmd]
    generalize H4 (F6 l k).1 (F6 l k).2=E at *
    simp only [E9] at *
    cases cm:S9 (F6 l k).1 (F6 l k).2 with
    | true =>
      rw [cm] at hM
      rw [Bool.true_and]
      refine ⟨h',?_⟩
      generalize A3 (F8 l (k + 1))=y1 at *
      generalize A3 (F8 l k)=y at *
      simp only [esc,esh,Nat.reduceAdd,Nat.reduceMul,Nat.reduceLT,c0,eb,hld,hM,hF,hW,hq2,s1,hLy,s2,w1]
      exact ih
    | false =>
      rw [cm] at hM
      rw [Bool.false_and,Bool.false_and,cond_false,cond_false]
      have hz:(A3 (zeros 256)).length=256:=by rw [B4];exact zeros_length
      have hrg:=fun t:A0=>C8 (g:=t) (hlow.rd hg)
      have haf:B0 (List.replicate 256 (Cell.i .u8 0)) []=some (List.replicate 256 (Cell.i .u8 0)):=rfl
      rw [M0] at haf
      have s2:=fun t=>storeAll (xs:=A3 (zeros 256)) (hrg t) hz hz
      have s3:=fun t=>G9 (h:=(h ++ t).set g (some ⟨A3 (zeros 256),true⟩)) (id:=g) (I5 (D5 (hrg t))) hz
      rw [M0]
      generalize zeros 256=z at *
      exact ⟨_,by simp only [esc,esh,Nat.reduceAdd,Nat.reduceMul,Nat.reduceLT,c0,eb,hld,hM,haf,s2,s3] <;> rfl⟩
def A1Y (l:List Ent):Int:=if 7 < l.length then 11 else if A0J l=true then (if A1m l=true then 0 else 5) else 1
def W6 (l:List Ent):List UInt8:=if A1Y l=0 then F8 l l.length else zeros 256
theorem A9B {l:List Ent}:(W6 l).length=256:=by
  unfold W6
  split
  · rename_i h
    refine A1Z _ ?_
    false_or_by_contra
    unfold A1Y at h
    rw [if_pos (by omega)] at h
    omega
  · exact zeros_length
theorem B4N {v:Val} {nv:Nat} {l:List Ent} {h:A0} (hv:Has h v 2 nv (F0 l)) (hs:∀ x ∈ l,x.1.length ≤ 60):A3v [v] h=some (.t [.a (A3 (W6 l)),.c (.i .i64 (A1Y l))],h):=by
  have hn:l.length=nv:=by have:=hv.length;rw [B1P] at this;omega
  have key:∀ g,Has g v 2 nv (F0 l) → ∃ g',A6c 8 [v] g=some (.t [.a (A3 (W6 l)),.c (.i .i64 (A1Y l))],g'):=by
    intro g hv
    have hz:(A3 (zeros 256)).length=256:=by rw [B4];exact zeros_length
    have hd:(A3 hdB).length=256:=by rw [B4];exact B14
    have hl:=hv.len
    have hH:=fun h=>E1K (h:=h)
    rw [D2e,M0]
    by_cases c:7 < nv
    · have c0:(7:Int) < nv:=by omega
      have e1:A1Y l=11:=by unfold A1Y;rw [if_pos (by omega)]
      have e2:W6 l=zeros 256:=by unfold W6;rw [e1,if_neg (by omega)]
      have haf:B0 (List.replicate 256 (Cell.i .u8 0)) []=some (List.replicate 256 (Cell.i .u8 0)):=rfl
      rw [M0] at haf
      rw [e1,e2]
      generalize zeros 256=z at *
      exact ⟨_,by simp only [esc,esh,Nat.reduceAdd,Nat.reduceMul,Nat.reduceLT,hl,c0,haf,hz] <;> rfl⟩
    · have c0:¬ (7:Int) < nv:=by omega
      obtain ⟨h',e⟩:=C7H (q:=8) (B:=g ++ [some (Row.mk (A3 (zeros 256)) true)]) (g:=g.length) (hv.more _) hn (by omega) hs (by simp) (by omega) nv 0 8 (g ++ [some (Row.mk (A3 (zeros 256)) true),some (Row.mk (A3 (F8 l 0)) true)]) (by omega) (by omega)
        (by have:=(Low.refl (h:=g ++ [some (Row.mk (A3 (zeros 256)) true)]) (Nat.le_refl _)).new [some (Row.mk (A3 (F8 l 0)) true)]
            simpa using this) (by simp)
      have e1:A1Y l=(bif A0J l then (bif A1m l then 0 else 5) else 1):=by
        unfold A1Y
        rw [if_neg (by omega)]
        cases A0J l <;> cases A1m l <;> simp
      have e2:W6 l=(bif A0J l && A1m l then F8 l nv else zeros 256):=by
        unfold W6
        rw [e1,← hn]
        cases A0J l <;> cases A1m l <;> simp
      rw [List.drop_zero,← e1,← e2] at e
      rw [show F8 l 0=hdB from rfl] at e
      simp only [List.length_append,List.length_cons,List.length_nil,Nat.zero_add] at e
      refine ⟨h',?_⟩
      generalize W6 l=R at *
      generalize hdB=H at *
      generalize zeros 256=z at *
      simp only [esc,esh,Nat.reduceAdd,Nat.reduceMul,Nat.reduceLT,hl,c0,hH,hz,hd]
      exact e
  obtain ⟨g',e⟩:=key (ro h) hv.ro
  exact D3W e (by simp)
end Go.Proofs.YtdgggnlbdoiloaaGreat
end
section
namespace Go.Proofs.YtdgggnlbdoiloaaGreat
open Go Go.Esc
def isL (D:Dev) (n k:Int) (d:List Int) (t:Tld):Bool:=decide (J5 D n k d t.2=some t.1)
def O7 (D:Dev) (n k:Int) (d:List Int):List Tld:=A49 D (G5 D n k d)
def J6 (D:Dev) (n k:Int) (d:List Int) (l:List Tld):J2:=(l.filter (isL D n k d)).map (·.2)
def A3R (D:Dev) (n k:Int) (d:List Int) (s:List UInt8):Int:=((J5 D n k d s).getD (0,0,0)).2.2
def W5 (D:Dev) (n k:Int) (d:List Int):List Ent:=(T2 (J6 D n k d (O7 D n k d))).map fun s=>(s,A3R D n k d s)
def R3 (D:Dev) (n k:Int) (d:List Int) (l:List Tld):List Plc:=(l.filter fun t=>!isL D n k d t).map (·.1)
def R2 (l:List Plc):List Cell:=(l.map fun p=>E2 (some p)).flatten
theorem B5X {D:Dev} {n k:Int} {d:List Int}:(G5 D n k d).length ≤ 32:=by
  have hml:=A3T (getD (blk D (d.getD 0 0)))
  have hBl:=B1o (D1 (blk D (d.getD 0 0)) 32) (G0 (getD (blk D (d.getD 0 0))))
  unfold G5
  cases L9 D n k d with
  | false=>simp
  | true=>exact Nat.le_trans (List.length_filter_le _ _) (by omega)
def MapN (es:F9) (f:List UInt8 → Int) (l:J2):Prop:=(∀ e ∈ es,∃ s,e.1=.s s) ∧ ∀ s ∈ l,∃ i,Y8 (.s s) es=some (i,.c (.i .i64 (f s)))
theorem C5W {es:F9} {s:List UInt8} (h:∀ e ∈ es,∃ s,e.1=Cell.s s):A1U none (.s s) es=true:=by
  simp only [A1U,Q5,Bool.true_and,List.all_eq_true]
  intro e he
  obtain ⟨x,hx⟩:=h e he
  rw [hx]
theorem C6b {k:Cell} {p:Part}:∀ {es:F9} {i j:Nat} {q:Part},mgo k es i=some (j,q) → (es.set (j - i) (k,p)).length=es.length ∧ mgo k (es.set (j - i) (k,p)) i=some (j,p) ∧ i ≤ j ∧ ∀ k' ≠ k,((mgo k' (es.set (j - i) (k,p)) i)=mgo k' es i)
  | [],i,j,q,h=>by simp [mgo] at h
  | e :: es,i,j,q,h=>by
    unfold mgo at h
    by_cases c:e.1=k
    · rw [if_pos c] at h
      cases h
      simp only [Nat.sub_self,List.set_cons_zero]
      refine ⟨rfl,by simp [mgo],Nat.le_refl _,fun k' hk'=>?_⟩
      have:¬ e.1=k':=fun h=>hk' (by rw [← h,c])
      simp [mgo,this,Ne.symm hk']
    · rw [if_neg c] at h
      obtain ⟨h1,h2,h3,h4⟩:=C6b (p:=p) h
      have e1:j - i=(j - (i + 1)) + 1:=by omega
      rw [e1,List.set_cons_succ]
      refine ⟨by simp,?_,by omega,fun k' hk'=>?_⟩
      · simp only [mgo];rw [if_neg c];exact h2
      · simp only [mgo];rw [h4 k' hk']
theorem C6c {k k':Cell} {p:Part}:∀ {es:F9} {i:Nat},mgo k es i=none → mgo k' (es ++ [(k,p)]) i=if k'=k then some (i + es.length,p) else mgo k' es i
  | [],i,_=>by
    by_cases c:k'=k
    · subst c;simp [mgo]
    · simp [mgo,c,Ne.symm c]
  | e :: es,i,h=>by
    unfold mgo at h
    by_cases c:e.1=k
    · rw [if_pos c] at h;cases h
    · rw [if_neg c] at h
      have ih:=C6c (k':=k') (p:=p) h
      simp only [List.cons_append,mgo,ih]
      by_cases c2:k'=k
      · subst c2
        rw [if_neg c,if_pos rfl,if_pos rfl,List.length_cons]
        congr 2;omega
      · simp only [if_neg c2]
theorem C6a {k k':Cell} {p:Part} {es:F9}:Y8 k (A0K k p es)=some (((Y8 k es).map (·.1)).getD es.length,p) ∧ (k' ≠ k → Y8 k' (A0K k p es)=Y8 k' es):=by
  unfold A0K Y8
  cases c:mgo k es 0 with
  | none =>
    simp only [C6c c]
    exact ⟨by simp,fun h=>by rw [if_neg h]⟩
  | some jq =>
    obtain ⟨j,q⟩:=jq
    obtain ⟨_,h2,_,h4⟩:=C6b (p:=p) c
    simp only [Nat.sub_zero] at h2 h4
    exact ⟨by simp [h2],fun h=>h4 k' h⟩
theorem I0Y {k:Cell} {p:Part} {es:F9} {Q:Cell → Prop} (hk:Q k) (h:∀ e ∈ es,Q e.1):∀ e ∈ A0K k p es,Q e.1:=by
  intro e he
  unfold A0K at he
  split at he
  · rcases List.mem_or_eq_of_mem_set he with he | rfl
    · exact h e he
    · exact hk
  · rcases List.mem_append.1 he with he | he
    · exact h e he
    · simp at he;subst he;exact hk
theorem MapN.nil (f:List UInt8 → Int):MapN [] f []:=⟨fun e he=>by simp at he,fun s hs=>by simp at hs⟩
theorem MapN.put {es:F9} {f:List UInt8 → Int} {l:J2} (hm:MapN es f l) (s:List UInt8):MapN (A0K (.s s) (.c (.i .i64 (f s))) es) f (l ++ [s]):=by
  refine ⟨I0Y (Q:=fun c=>∃ s,c=.s s) ⟨s,rfl⟩ hm.1,fun x hx=>?_⟩
  by_cases c:x=s
  · subst c;exact ⟨_,(C6a (k':=.mh)).1⟩
  · rcases List.mem_append.1 hx with hx | hx
    · obtain ⟨i,hi⟩:=hm.2 x hx
      refine ⟨i,?_⟩
      rw [(C6a (k:=.s s) (k':=.s x)).2 (by simpa using c)];exact hi
    · simp at hx;exact absurd hx c
theorem I0R {h:A0} {mid:Nat} {es:F9} {f:List UInt8 → Int} {l:J2} {s:List UInt8} (hr:rd h mid=some (H0 es)) (hm:MapN es f l) (hs:s ∈ l):A3D h none (.c (.i .i64 0)) false (.c (.m mid)) (.c (.s s))=some (.c (.i .i64 (f s))):=by
  obtain ⟨i,hi⟩:=hm.2 s hs
  simp only [A3D,A25,A9m,hr,Option.bind_some,C58]
  rw [if_pos (C5W hm.1),hi];rfl
theorem J3S {h:A0} {mid:Nat} {es:F9} {f:List UInt8 → Int} {l:J2} {s:List UInt8} {x:Int} (hr:rd h mid=some (H0 es)) (hm:MapN es f l):A2U h none (.c (.m mid)) (.c (.s s)) (.c (.i .i64 x))=some (h.set mid (some (H0 (A0K (.s s) (.c (.i .i64 x)) es)))):=by
  simp only [A2U,A25,A5B,hr,Option.bind_some,C58]
  rw [if_pos (C5W hm.1)]
end Go.Proofs.YtdgggnlbdoiloaaGreat
end
section
namespace Go.Proofs.YtdgggnlbdoiloaaGreat
open Go Go.Esc
theorem A5A {neg:Bool} (p q:Plc):aeq neg [.i .i64,.i .i64,.i .i64] (.a (E2 (some p))) (.a (E2 (some q)))=some (.c (.b (bif neg then !(decide (some p=some q)) else decide (some p=some q)))):=by
  simp only [aeq]
  rw [if_pos ⟨rfl,rfl⟩]
  have:decide (E2 (some p)=E2 (some q))=decide (some p=some q):=by
    apply Bool.eq_iff_iff.2
    simp only [decide_eq_true_eq,E2,List.cons.injEq,Cell.i.injEq,true_and,and_true,Option.some.injEq]
    obtain ⟨p1,p2,p3⟩:=p
    obtain ⟨q1,q2,q3⟩:=q
    simp only [Prod.mk.injEq]
    constructor
    · rintro ⟨h1,h2,h3⟩;exact ⟨h1,by omega,h3⟩
    · rintro ⟨h1,h2,h3⟩;exact ⟨h1,by omega,h3⟩
  rw [this]
theorem C9N {b:List UInt8} {k:Nat} {x:Ent} (h:H7 b k=some x):x.1.length ≤ 24:=by
  unfold H7 at h
  cases hu:R4 (nameB b k) with
  | none=>rw [hu] at h;cases h
  | some s =>
    rw [hu,Option.bind_some] at h
    split at h
    · cases h;exact (A3N (B2W hu)).2
    · cases h
theorem B2l {b:List UInt8}:∀ {e k:Nat} {x:Slt},x ∈ R1 b e k → H7 b x.1=some x.2 ∧ k ≤ x.1 ∧ x.1 < k + e
  | 0,k,x,h=>by simp [R1] at h
  | e + 1,k,x,h=>by
    cases hr:H7 b k with
    | none =>
      rw [C55 hr] at h
      have:=B2l h
      exact ⟨this.1,by omega,by omega⟩
    | some y =>
      rw [C56 hr] at h
      rcases List.mem_cons.1 h with rfl | h
      · exact ⟨hr,Nat.le_refl _,by dsimp only;omega⟩
      · have:=B2l h
        exact ⟨this.1,by omega,by omega⟩
theorem C57 {b:List UInt8} {x:Slt} (h:x ∈ K9 b):H7 b x.1=some x.2 ∧ x.1 < 7:=by
  have:=B2l h
  exact ⟨this.1,by omega⟩
theorem C7F {D:Dev} {n k:Int} {d:List Int} {s:List Tld} {t:Tld}:J6 D n k d (s ++ [t])=J6 D n k d s ++ (if isL D n k d t=true then [t.2] else []):=by
  unfold J6
  rw [List.filter_append,List.map_append]
  by_cases c:isL D n k d t=true
  · rw [if_pos c,List.filter_cons_of_pos c];rfl
  · rw [if_neg c,List.filter_cons_of_neg c];rfl
theorem C7E {D:Dev} {n k:Int} {d:List Int} {s:List Tld}:(J6 D n k d s).length ≤ s.length:=by
  unfold J6
  rw [List.length_map];exact List.length_filter_le _ _
def RDs (b:Nat):List Nat:=[b,b + 1,b + 3,b + 4,b + 5,b + 6,b + 8]
structure ListP (D:Dev) (n k:Int) (d:List Int) (V I:List Cell) (L:List Int) (g:A0) (rs:List Nat) (c:Nat) (s:List Tld) (h:A0):Prop where
  var:VarC h (g.length + 3) (encS (J6 D n k d s)) (J6 D n k d s).length 1 g.length (rs ++ RDs g.length)
  len:s.length ≤ c
  low:Low g.length g h
  r0:rd h g.length=some ⟨V,true⟩
  r1:rd h (g.length + 1)=some ⟨I,true⟩
  r6:rd h (g.length + 6)=some ⟨V,true⟩
  r8:rd h (g.length + 8)=some ⟨encI L,true⟩
  r5:rd h (g.length + 5)=some ⟨[.m (g.length + 4)],true⟩
  r4:∃ es,rd h (g.length + 4)=some (H0 es) ∧ MapN es (A3R D n k d) (J6 D n k d s)
  rs:∀ j ∈ rs,g.length + 9 ≤ j ∧ j < h.length
section
variable {D:Dev} {n k:Int} {d:List Int} {V I:List Cell} {L:List Int} {g h:A0} {rs:List Nat} {c:Nat} {s:List Tld}
theorem ListP.more (P:ListP D n k d V I L g rs c s h) (t:A0):ListP D n k d V I L g rs c s (h ++ t) where
  var:=P.var.more t fun j hj=>.inl hj
  len:=P.len
  low:=P.low.new _
  r0:=C8 P.r0
  r1:=C8 P.r1
  r6:=C8 P.r6
  r8:=C8 P.r8
  r5:=C8 P.r5
  r4:=by obtain ⟨es,h1,h2⟩:=P.r4;exact ⟨es,C8 h1,h2⟩
  rs:=fun j hj=>by have:=P.rs j hj;simp;omega
theorem ListP.one (P:ListP D n k d V I L g rs c s h) (r:Option Row):ListP D n k d V I L g (h.length :: rs) c s (h ++ [r]) where
  var:=P.var.more _ fun j hj=>by
    rcases List.mem_cons.1 hj with rfl | hj
    · exact .inr (Nat.le_refl _)
    · exact .inl hj
  len:=P.len
  low:=P.low.new _
  r0:=C8 P.r0
  r1:=C8 P.r1
  r6:=C8 P.r6
  r8:=C8 P.r8
  r5:=C8 P.r5
  r4:=by obtain ⟨es,h1,h2⟩:=P.r4;exact ⟨es,C8 h1,h2⟩
  rs:=fun j hj=>by
    have h8:=D5 P.r8
    rcases List.mem_cons.1 hj with rfl | hj
    · simp;omega
    · have:=P.rs j hj;simp;omega
theorem ListP.less {i:Nat} (P:ListP D n k d V I L g (i :: rs) c s h):ListP D n k d V I L g rs c s h :=
  { P with var:=P.var.fewer fun j hj=>List.mem_cons_of_mem _ hj,rs:=fun j hj=>P.rs j (List.mem_cons_of_mem _ hj) }
theorem ListP.wide {c':Nat} (P:ListP D n k d V I L g rs c s h) (hc:c ≤ c'):ListP D n k d V I L g rs c' s h :=
  { P with len:=Nat.le_trans P.len hc }
end
theorem I0M {D:Dev} {n m k l s0 p:Int} {d:List Int} {f:Cell} {L:List Int} {g h:A0} {rs:List Nat} {c:Nat} {s:List Tld} {t:Tld} (hD:okD D) (hd:d.length=7) (hv:IsView g f D) (hc:c ≤ 90000) (ht:t.2.length ≤ 24)
    (P:ListP D n k d (vwC D.length n m f) (A7 k l s0 p d) L g rs c s h) :
    ∃ h',A4k [.a (E2 (some t.1)),.c (.s t.2),.c (.p g.length 0),.c (.p (g.length + 1) 0),.c (.p (g.length + 3) 0),.c (.p (g.length + 5) 0)] h=some (.t [],h') ∧ ListP D n k d (vwC D.length n m f) (A7 k l s0 p d) L g rs (c + 1) (s ++ [t]) h' ∧ ∀ j ∈ rs,rd h' j=rd h j:=by
  obtain ⟨⟨p1,p2,p3⟩,nm⟩:=t
  have hIl:(A7 k l s0 p d).length=11:=by simp [A7,G6,hd]
  obtain ⟨h1,e1⟩:∃ h1,h1=h ++ [some (Row.mk (E2 (some (p1,p2,p3))) true)]:=⟨_,rfl⟩
  have n1:h1.length=h.length + 1:=by rw [e1];simp
  have P1:ListP D n k d (vwC D.length n m f) (A7 k l s0 p d) L g (h.length :: rs) c s h1:=e1 ▸ P.one _
  have l4:A5 h1 4 (.c (.p g.length 0))=some (.a (vwC D.length n m f)):=G9 P1.r0 rfl
  have l11:A5 h1 11 (.c (.p (g.length + 1) 0))=some (.a (A7 k l s0 p d)):=G9 P1.r1 hIl
  have hL:=A7V (n:=n) (m:=m) (k:=k) (l:=l) (s:=s0) (p:=p) (nm:=nm) (h:=h1) hD hd (hv.since P1.low) (by dsimp only at ht;omega)
  have hl:=D5 P.r8
  have keep:∀ (h':A0),(∀ j ∈ h.length :: rs,rd h' j=rd h1 j) → ∀ j ∈ rs,rd h' j=rd h j:=by
    intro h' hk j hj
    rw [hk j (List.mem_cons_of_mem _ hj),e1,L5 (P.rs j hj).2]
  obtain ⟨o,eo⟩:∃ o,o=J5 D n k d nm:=⟨_,rfl⟩
  rw [← eo] at hL
  obtain ⟨h2,e2⟩:∃ h2,h2=h1 ++ [some (Row.mk (E2 o) true)]:=⟨_,rfl⟩
  have s3:B7 (h1 ++ [some (Row.mk [Cell.i .i64 0,.i .i64 0,.i .i64 0] true)]) 3 (.c (.p h1.length 0)) (.a (E2 o))=some h2:=by
    rw [W1,e2];cases o <;> rfl
  have P2:ListP D n k d (vwC D.length n m f) (A7 k l s0 p d) L g (h.length :: rs) c s h2:=e2 ▸ P1.more _
  have q1:A5 h2 3 (.c (.p h1.length 0))=some (.a (E2 o)):=by rw [e2,R8];cases o <;> rfl
  have rp:rd h2 h.length=some ⟨E2 (some (p1,p2,p3)),true⟩:=by rw [e2,e1];simp
  have q2:A5 h2 3 (.c (.p h.length 0))=some (.a (E2 (some (p1,p2,p3)))):=G9 rp rfl
  have no:isL D n k d ((p1,p2,p3),nm)=false → J6 D n k d (s ++ [((p1,p2,p3),nm)])=J6 D n k d s:=fun hn=>by
    rw [C7F,hn];simp
  have stay:J6 D n k d (s ++ [((p1,p2,p3),nm)])=J6 D n k d s → ListP D n k d (vwC D.length n m f) (A7 k l s0 p d) L g rs (c + 1) (s ++ [((p1,p2,p3),nm)]) h2:=fun hn=>by
    have:=P2.less
    exact { this with var:=by rw [hn];exact this.var,len:=by have:=P.len;simp;omega,r4:=by rw [hn];exact this.r4 }
  have k2:∀ j ∈ h.length :: rs,rd h2 j=rd h1 j:=fun j hj=>by
    rw [e2,L5]
    rcases List.mem_cons.1 hj with rfl | hj
    · omega
    · have:=P.rs j hj;omega
  cases o with
  | none =>
    have hn:isL D n k d ((p1,p2,p3),nm)=false:=by unfold isL;rw [← eo];simp
    refine ⟨h2,B0Y (n:=0) ?_,stay (no hn),keep h2 k2⟩
    rw [B0v]
    generalize hV:vwC D.length n m f=V at *
    generalize hI:A7 k l s0 p d=I at *
    simp only [X9,K3,← e1,l4,l11,hL,A1C,List.getElem?_cons_zero,List.getElem?_cons_succ,Option.map_some,A12,A11,s3,Option.isSome_none,C2N,B10,A1E,cond_false,A1j]
    rfl
  | some q =>
    have ea:=A5A (neg:=false) q (p1,p2,p3)
    by_cases c1:q=(p1,p2,p3)
    · have hn:isL D n k d ((p1,p2,p3),nm)=true:=by unfold isL;rw [← eo,c1];simp
      have hns:J6 D n k d (s ++ [((p1,p2,p3),nm)])=J6 D n k d s ++ [nm]:=by rw [C7F,if_pos hn]
      have hin:A3R D n k d nm=p3:=by unfold A3R;rw [← eo,c1];rfl
      subst c1
      have h2l:h2.length=h.length + 2:=by rw [e2];simp;omega
      obtain ⟨x,v,h3,h4,a1,a2,a3,a4,a5,a6,a7⟩:=P2.var.push (ys:=[.s nm]) (by simp [RDs]) (by omega) (by omega) (by
        intro j hj
        rcases List.mem_append.1 hj with hj | hj
        · exact (P2.rs j hj).2
        · simp only [RDs,List.mem_cons,List.not_mem_nil,or_false] at hj;omega) (by have:=C7E (D:=D) (n:=n) (k:=k) (d:=d) (s:=s);have:=P.len;omega) rfl (by omega)
      have ef:B0 [Cell.s []] [(0,1,.c (.s nm))]=some [.s nm]:=rfl
      have mem:∀ j,j ∈ RDs g.length → j ≠ g.length + 3 → rd h4 j=rd h2 j:=fun j hj hne=>a6 j (List.mem_append_right _ hj) hne
      have m5:A9 h4 (.c (.p (g.length + 5) 0))=some (.c (.m (g.length + 4))):=K6 (by rw [mem _ (by simp [RDs]) (by omega)];exact P2.r5) rfl rfl
      have m2:A9 h4 (.c (.p h.length 2))=some (.c (.i .i64 p3)):=K6 (by rw [a6 h.length (by simp) (by omega)];exact rp) rfl rfl
      obtain ⟨es,r4,hm⟩:=P2.r4
      have r4':rd h4 (g.length + 4)=some (H0 es):=by rw [mem _ (by simp [RDs]) (by omega)];exact r4
      have mp:=J3S (s:=nm) (x:=p3) r4' hm
      have hm':=hm.put nm
      rw [hin] at hm'
      have lt4:=D5 r4'
      obtain ⟨h5,e5⟩:∃ h5,h5=h4.set (g.length + 4) (some (H0 (A0K (.s nm) (.c (.i .i64 p3)) es))):=⟨_,rfl⟩
      rw [← e5] at mp
      have oth:∀ j,j ≠ g.length + 4 → rd h5 j=rd h4 j:=fun j hj=>by rw [e5,G3 (Ne.symm hj)]
      have back:∀ j ∈ RDs g.length,j ≠ g.length + 3 → j ≠ g.length + 4 → rd h5 j=rd h2 j:=fun j hj h3 h4=>by rw [oth j h4,mem j hj h3]
      refine ⟨h5,B0Y (n:=0) ?_,⟨?_,?_,?_,?_,?_,?_,?_,?_,?_,?_⟩,keep h5 fun j hj=>?_⟩
      · rw [B0v]
        rw [decide_eq_true rfl] at ea
        generalize hV:vwC D.length n m f=V at *
        generalize hI:A7 k l s0 p d=I at *
        simp only [X9,K3,← e1,l4,l11,hL,A1C,List.getElem?_cons_zero,List.getElem?_cons_succ,Option.map_some,A12,A11,s3,Option.isSome_some,B11,q1,q2,ea,A1E,cond_true,cond_false,A1k,a1,ef,a2,a3,m5,B1c,Nat.zero_add,m2,mp]
        rfl
      · rw [hns]
        have e6:encS (J6 D n k d s ++ [nm])=encS (J6 D n k d s) ++ [.s nm]:=by simp [encS]
        rw [e6,List.length_append]
        have:=a4.keep (h':=h5) (oth _ (by omega)) (fun id hid y hy=>by
          rw [oth id (fun e=>hid (List.mem_append_right _ (by rw [e];simp [RDs])))];exact hy)
        exact this.fewer fun j hj=>by
          rcases List.mem_append.1 hj with hj | hj
          · exact List.mem_append_left _ (List.mem_cons_of_mem _ hj)
          · exact List.mem_append_right _ hj
      · have:=P.len;simp;omega
      · rw [e5];exact (P2.low.trans a5).set (by omega) _
      · rw [back _ (by simp [RDs]) (by omega) (by omega)];exact P2.r0
      · rw [back _ (by simp [RDs]) (by omega) (by omega)];exact P2.r1
      · rw [back _ (by simp [RDs]) (by omega) (by omega)];exact P2.r6
      · rw [back _ (by simp [RDs]) (by omega) (by omega)];exact P2.r8
      · rw [back _ (by simp [RDs]) (by omega) (by omega)];exact P2.r5
      · exact ⟨_,by rw [e5];exact I5 lt4,by rw [hns];exact hm'⟩
      · intro j hj
        have:=P.rs j hj
        have e6:h5.length=h4.length:=by rw [e5];simp
        omega
      · have hj9:g.length + 9 ≤ j:=by
          rcases List.mem_cons.1 hj with rfl | hj
          · omega
          · exact (P.rs j hj).1
        rw [oth j (by omega),a6 j (List.mem_append_left _ hj) (by omega),k2 j hj]
    · have hn:isL D n k d ((p1,p2,p3),nm)=false:=by unfold isL;rw [← eo];simpa using c1
      refine ⟨h2,B0Y (n:=0) ?_,stay (no hn),keep h2 k2⟩
      rw [B0v]
      rw [decide_eq_false (by simpa using c1)] at ea
      generalize hV:vwC D.length n m f=V at *
      generalize hI:A7 k l s0 p d=I at *
      simp only [X9,K3,← e1,l4,l11,hL,A1C,List.getElem?_cons_zero,List.getElem?_cons_succ,Option.map_some,A12,A11,s3,Option.isSome_some,B11,q1,q2,ea,A1E,cond_true,cond_false,A1j]
      rfl
end Go.Proofs.YtdgggnlbdoiloaaGreat
end
section
namespace Go.Proofs.YtdgggnlbdoiloaaGreat
open Go Go.Esc
theorem B8m {l:List Ent}:(F0 l).length=l.length * 2:=by
  induction l with
  | nil=>rfl
  | cons x l ih=>simp only [F0,List.map_cons,List.flatten_cons,List.length_append,List.length_cons,E9,List.length_nil] at ih ⊢;omega
theorem F1o {l:List Ent}:D9 (F0 l)=true:=by
  induction l with
  | nil=>rfl
  | cons x l ih =>
    have:F0 (x :: l)=E9 (some x) ++ F0 l:=rfl
    rw [this,A8L,ih];rfl
theorem C9g {F:List UInt8 → Int} {B:A0} {b q mid sid:Nat} {S:J2} {es:F9} (hm:MapN es F S) (hb:b + 5 < B.length) (hs:rd B sid=some ⟨encS S,true⟩) (h5:rd B (b + 5)=some ⟨[.m mid],true⟩) (h4:rd B mid=some (H0 es)) (h62:S.length < 1000000) :
    ∀ (e i M id:Nat) (h:A0),i + e=S.length → e < M → Low b B h → id ≠ b + 5 → id ≠ sid → id ≠ mid → b ≤ id → (∀ j r,j=b + 5 ∨ j=sid ∨ j=mid → rd B j=some r → rd h j=some r) → rd h id=some ⟨F0 ((S.take i).map fun s=>(s,F s)),true⟩ → B.length ≤ h.length →
      ∃ v' h',A7U q M (.c (.p (b + 5) 0)) (.c (.sl id 0 i 2)) (.c (.sl sid 0 S.length 1)) (.c (.i .i64 (S.length:Int))) (.c (.i .i64 (i:Int))) h=some (v',h') ∧ Out b h' v' 2 S.length (F0 (S.map fun s=>(s,F s)))
  | e,i,0,id,h,_,hm,_,_,_,_,_,_,_,_=>by omega
  | 0,i,M + 1,id,h,hi,hm0,hlow,n5,ns,n4,hbi,hk,hr,hl=>by
    have c0:¬ (i:Int) < (S.length:Nat):=by omega
    have ei:i=S.length:=by omega
    subst ei
    rw [B6w]
    rw [List.take_length] at hr
    refine ⟨.c (.sl id 0 S.length 2),h,by simp only [K3,A0B,c0,decide_false,A1j],by rw [B8m];simp,id,rfl,hbi,hr⟩
  | e + 1,i,M + 1,id,h,hi,hm0,hlow,n5,ns,n4,hbi,hk,hr,hl=>by
    have hil:i < S.length:=by omega
    have c0:(i:Int) < (S.length:Nat):=by omega
    have ad:D0 1 (.c (.sl sid 0 S.length 1)) (.c (.i .i64 (i:Int)))=some (.c (.p sid i)):=by rw [I9 hil];simp
    have l1:A9 h (.c (.p sid i))=some (.c (.s S[i])):=K6 (hk sid _ (.inr (.inl rfl)) hs) (by rw [A8a,List.getElem?_eq_getElem hil];rfl) rfl
    have l5:A9 h (.c (.p (b + 5) 0))=some (.c (.m mid)):=K6 (hk _ _ (.inl rfl) h5) rfl rfl
    have lk:=I0R (s:=S[i]) (hk _ _ (.inr (.inr rfl)) h4) hm (List.getElem_mem hil)
    have ef:B0 [Cell.s [],.i .i64 0] [(0,1,.c (.s S[i])),(1,1,.c (.i .i64 (F S[i])))]=some (E9 (some (S[i],F S[i]))):=rfl
    have ef2:B0 [Cell.s [],.i .i64 0] [(0,2,.a (E9 (some (S[i],F S[i]))))]=some (E9 (some (S[i],F S[i]))):=rfl
    have el:((S.take i).map fun s=>(s,F s)).length=i:=by simp;omega
    obtain ⟨h2,a1,a2,a3,a4⟩:=C9E (n:=i) (sz:=2) (ys:=E9 (some (S[i],F S[i]))) hr (by rw [B8m,el]) rfl (by omega) (by omega)
    have et:F0 ((S.take i).map fun s=>(s,F s)) ++ E9 (some (S[i],F S[i]))=F0 ((S.take (i + 1)).map fun s=>(s,F s)):=by
      rw [List.take_add_one,List.getElem?_eq_getElem hil,List.map_append,F0]
      simp [F0]
    rw [et] at a2
    have w1:=E6 (show i + 1 < 9223372036854775808 by omega)
    have hlt2:=D5 a2
    obtain ⟨v',h',f1,f2⟩:=C9g (q:=q) hm hb hs h5 h4 h62 e (i + 1) M (h.length + 1) h2 (by omega) (by omega) (hlow.trans (a4 _ hbi (by have:=hlow.1;omega))) (by omega)
      (fun e1=>by have:=D5 hs;omega) (fun e1=>by have:=D5 h4;omega) (by omega) (fun j r hj hjr=>a3 _ _ (by rcases hj with rfl | rfl | rfl <;> omega) (hk j r hj hjr)) a2 (by omega)
    rw [B6w]
    refine ⟨v',h',?_,f2⟩
    simp only [K3,A0B,c0,decide_true,A1k,ad,l1,l5,lk,ef,ef2,a1,A3z,w1]
    exact f1
theorem B6v {D:Dev} {n m k l s p:Int} {d:List Int} {f:Cell} {h:A0} (hD:okD D) (hd:d.length=7) (hv:IsView h f D) :
    A2p [.a (vwC D.length n m f),.a (A7 k l s p d)] h=some (.c (.sl h.length 0 (W5 D n k d).length 2),h ++ [some ⟨F0 (W5 D n k d),true⟩]):=by
  have key:∀ g,IsView g f D → ∃ v g',A6j 300 [.a (vwC D.length n m f),.a (A7 k l s p d)] g=some (v,g') ∧ Out g.length g' v 2 (W5 D n k d).length (F0 (W5 D n k d)):=by
    intro g hv
    have hIl:(A7 k l s p d).length=11:=by simp [A7,G6,hd]
    have hbl:=B5X (D:=D) (n:=n) (k:=k) (d:=d)
    obtain ⟨V,hV⟩:∃ V,V=vwC D.length n m f:=⟨_,rfl⟩
    obtain ⟨I,hI⟩:∃ I,I=A7 k l s p d:=⟨_,rfl⟩
    have hVl:V.length=4:=by rw [hV];rfl
    have hIl':I.length=11:=by rw [hI];exact hIl
    obtain ⟨G,hG⟩:∃ G,G=g ++ [some (Row.mk V true),some (Row.mk I true),some (Row.mk [] true),some (Row.mk [.ns] true),some (H0 []),some (Row.mk [.m (g.length + 4)] true)]:=⟨_,rfl⟩
    obtain ⟨G2,hG2⟩:∃ G2,G2=G ++ [some (Row.mk V true),some (Row.mk I true),some (Row.mk (encI (G5 D n k d)) true)]:=⟨_,rfl⟩
    have lG:G.length=g.length + 6:=by rw [hG];simp
    have lG2:G2.length=g.length + 9:=by rw [hG2];simp [lG]
    have hB:=C2r (n:=n) (m:=m) (k:=k) (l:=l) (s:=s) (p:=p) (h:=G ++ [some (Row.mk V true),some (Row.mk I true)]) hD hd (by rw [hG];exact (hv.more _).more _)
    rw [← hV,← hI] at hB
    have hB2:(G ++ [some (Row.mk V true),some (Row.mk I true)]) ++ [some (Row.mk (encI (G5 D n k d)) true)]=G2:=by rw [hG2];simp
    rw [hB2] at hB
    have lB:(G ++ [some (Row.mk V true),some (Row.mk I true)]).length=g.length + 8:=by simp [lG]
    rw [lB] at hB
    have emk:X8 44 [.c (.p g.length 0),.c (.p (g.length + 1) 0),.c (.p (g.length + 3) 0),.c (.p (g.length + 5) 0)]=some (.c (.f 44 [(g.length,0),(g.length + 1,0),(g.length + 3,0),(g.length + 5,0)])):=rfl
    have hcv:∀ (x y:Val) (h:A0),M7 R5 (.c (.f 44 [(g.length,0),(g.length + 1,0),(g.length + 3,0),(g.length + 5,0)])) [x,y] h=A4k [x,y,.c (.p g.length 0),.c (.p (g.length + 1) 0),.c (.p (g.length + 3) 0),.c (.p (g.length + 5) 0)] h:=fun _ _ _=>Eq.trans rfl rfl
    have P0:ListP D n k d V I (G5 D n k d) g [] 0 [] G2:=by
      refine ⟨VarC.nil ?_,Nat.le_refl _,?_,?_,?_,?_,?_,?_,⟨[],?_,MapN.nil _⟩,fun j hj=>by simp at hj⟩
      · rw [hG2,hG];simp
      · rw [hG2,hG];exact ((Low.refl (Nat.le_refl _)).new _).new _
      · rw [hG2,hG];simp
      · rw [hG2,hG];simp
      · rw [hG2,← lG];simp
      · rw [hG2,show g.length + 8=G.length + 2 by omega];simp
      · rw [hG2,hG];simp
      · rw [hG2,hG];simp
    obtain ⟨h',f1,f2⟩:=B1r (σ:=List Tld) (L0:=fun M x h=>A7Z 300 M (.c (.f 44 [(g.length,0),(g.length + 1,0),(g.length + 3,0),(g.length + 5,0)])) (.c (.p (g.length + 6) 0)) (.c (.sl (g.length + 8) 0 (G5 D n k d).length 1)) (.c (.i .i64 ((G5 D n k d).length:Nat))) x h)
      (L1:=fun M m2 x7 x14 x21 x22 x23 h=>A70 300 M m2 (.c (.f 44 [(g.length,0),(g.length + 1,0),(g.length + 3,0),(g.length + 5,0)])) (.c (.p (g.length + 6) 0)) x7 (.c (.sl (g.length + 8) 0 (G5 D n k d).length 1)) (.c (.i .i64 ((G5 D n k d).length:Nat))) x14 x21 x22 x23 h)
      (C:=fun x y h=>M7 R5 (.c (.f 44 [(g.length,0),(g.length + 1,0),(g.length + 3,0),(g.length + 5,0)])) [x,y] h)
      (N:=300) (x3:=.c (.p (g.length + 6) 0)) (n:=n) (m:=m) (f:=f) (sid:=g.length + 8) (L:=G5 D n k d) hD (fun rs c s h=>ListP D n k d V I (G5 D n k d) g rs c s h) (fun s t=>s ++ [t]) (by omega)
      (fun M x h=>by rw [E7x])
      (fun M v9 x v w M2 y h=>by rw [E7y])
      (fun rs c s h P=>⟨by rw [← hV];exact G9 P.r6 hVl,hv.since P.low,P.r8⟩)
      (fun rs c s h t P=>P.more t) (fun rs c s h r P=>P.one r) (fun i rs c s h P=>P.less) (fun rs c c' s h P hc=>P.wide hc)
      (fun rs c st h1 no x P hc hno hx=>by
        obtain ⟨h2,e1,e2,e3⟩:=I0M (t:=((no,x.1,x.2.2),x.2.1)) (n:=n) (m:=m) (k:=k) (l:=l) (s0:=s) (p:=p) (c:=c) hD hd hv (by omega) (by have:=C9N (C57 hx).1;exact this) (by rw [← hV,← hI];exact P)
        rw [← hV,← hI] at e2
        exact ⟨h2,by rw [hcv];exact e1,e2,e3⟩)
      (by omega) (G5 D n k d).length 0 300 [] [] G2 (by omega) (by omega) P0
    rw [List.drop_zero] at f2
    have efold:∀ (L:List Tld) (s0:List Tld),L.foldl (fun s t=>s ++ [t]) s0=s0 ++ L:=by
      intro L
      induction L with
      | nil=>intro s0;simp
      | cons t L ih=>intro s0;rw [List.foldl_cons,ih];simp
    rw [efold,List.nil_append] at f2
    change ListP D n k d V I (G5 D n k d) g [] (7 * (G5 D n k d).length) (O7 D n k d) h' at f2
    have hS:A4m [.a V,.a I,.c (.f 44 [(g.length,0),(g.length + 1,0),(g.length + 3,0),(g.length + 5,0)])] G=some (.t [],h'):=by
      refine D4i (n:=300) ?_
      rw [D2r]
      have g4:A5 (G ++ [some (Row.mk V true),some (Row.mk I true)]) 4 (.c (.p G.length 0))=some (.a V):=by rw [R8];exact P4 hVl
      have g11:A5 (G ++ [some (Row.mk V true),some (Row.mk I true)]) 11 (.c (.p (G.length + 1) 0))=some (.a I):=by rw [W0];exact P4 hIl'
      simp only [X9,K3,List.append_assoc,List.cons_append,List.nil_append,List.length_append,List.length_cons,List.length_nil,Nat.zero_add,g4,g11,hB,A7u]
      rw [lG]
      exact f1
    obtain ⟨x,hx,hdx⟩:=f2.var
    have hN:=C7E (D:=D) (n:=n) (k:=k) (d:=d) (s:=O7 D n k d)
    have hlen:=f2.len
    have hlt:=D5 f2.r8
    have hH:Has (h' ++ [some (Row.mk [] true)]) (.c x) 1 (J6 D n k d (O7 D n k d)).length (encS (J6 D n k d (O7 D n k d))):=by
      rcases hdx with ⟨e1,e2,rfl⟩ | ⟨id,rfl,hr,hl,_,_⟩
      · exact .inl ⟨rfl,e1,e2⟩
      · exact Has.row (rw:=true) (C8 hr) hl (C7L _)
    have hSo:=I5X hH (by omega)
    obtain ⟨es,r4,hm⟩:=f2.r4
    have hm2:MapN es (A3R D n k d) (T2 (J6 D n k d (O7 D n k d))):=⟨hm.1,fun s hs=>hm.2 s ((J5l _ _).1 hs)⟩
    have hsl:=J5k (J6 D n k d (O7 D n k d))
    have lh:(h' ++ [some (Row.mk [] true)]).length=h'.length + 1:=by simp
    rw [lh] at hSo
    obtain ⟨v',g',o1,o2⟩:=C9g (F:=A3R D n k d) (B:=h' ++ [some (Row.mk [] true)] ++ [some (Row.mk (encS (T2 (J6 D n k d (O7 D n k d)))) true)]) (b:=g.length) (q:=300) (mid:=g.length + 4) (sid:=h'.length + 1) (S:=T2 (J6 D n k d (O7 D n k d))) hm2 (by simp;omega) (by rw [← lh];exact N2) (C8 (C8 f2.r5)) (C8 (C8 r4)) (by omega)
      (T2 (J6 D n k d (O7 D n k d))).length 0 300 h'.length (h' ++ [some (Row.mk [] true)] ++ [some (Row.mk (encS (T2 (J6 D n k d (O7 D n k d)))) true)]) (by omega) (by omega) (Low.refl (by simp;omega)) (by omega) (by omega) (by omega) (by omega) (fun j r _ hj=>hj) (by simp [F0]) (Nat.le_refl _)
    have eL:(W5 D n k d).length=(T2 (J6 D n k d (O7 D n k d))).length:=by simp [W5]
    refine ⟨v',g',?_,by rw [eL];exact o2⟩
    have t1:A9 (h' ++ [some (Row.mk [] true)]) (.c (.p (g.length + 3) 0))=some (.c x):=K6 (C8 hx) rfl (by
      rcases hdx with ⟨_,_,rfl⟩ | ⟨id,rfl,_⟩ <;> rfl)
    have s5:F2 (g ++ [some (Row.mk V true),some (Row.mk I true),some (Row.mk [] true),some (Row.mk [.ns] true),some (H0 []),some (Row.mk [.nm] true)]) (.c (.p (g.length + 5) 0)) (.c (.m (g.length + 4)))=some G:=by
      rw [A3G,hG];rfl
    have g4:A5 G 4 (.c (.p g.length 0))=some (.a V):=by rw [hG,R8];exact P4 hVl
    have g11:A5 G 11 (.c (.p (g.length + 1) 0))=some (.a I):=by rw [hG,W0];exact P4 hIl'
    rw [D2n,← hV,← hI]
    simp only [X9,K3,List.append_assoc,List.cons_append,List.nil_append,List.length_append,List.length_cons,List.length_nil,Nat.zero_add,Nat.reduceAdd,s5,g4,g11,emk,hS,t1]
    rw [hSo]
    simp only [K3,A7u]
    exact o1
  obtain ⟨v,g',e,ho⟩:=key (ro h) hv.ro
  exact D4b e (by simpa [L6] using ho) F1o
theorem E3O {D:Dev} {n m k l s p:Int} {d:List Int} {f:Cell} {h:A0} (hD:okD D) (hd:d.length=7) (hv:IsView h f D) :
    A4j [.a (vwC D.length n m f),.a (A7 k l s p d)] h=some (.c (.b (decide ((W5 D n k d).length=0))),h):=by
  have key:∀ g,IsView g f D → ∃ g',A6i 0 [.a (vwC D.length n m f),.a (A7 k l s p d)] g=some (.c (.b (decide ((W5 D n k d).length=0))),g'):=by
    intro g hv
    have hIl:(A7 k l s p d).length=11:=by simp [A7,G6,hd]
    have l11:ldN (some (Row.mk (A7 k l s p d) true)) 0 11=some (.a (A7 k l s p d)):=P4 hIl
    have l4:=A38 (b:=D.length) (n:=n) (m:=m) (f:=f)
    have hL:=B6v (n:=n) (m:=m) (k:=k) (l:=l) (s:=s) (p:=p) (h:=g ++ [some (Row.mk (vwC D.length n m f) true),some (Row.mk (A7 k l s p d) true)]) hD hd (hv.more _)
    have ez:decide ((((W5 D n k d).length:Nat):Int)=0)=decide ((W5 D n k d).length=0):=by
      apply Bool.eq_iff_iff.2;simp
    rw [D2m]
    generalize W5 D n k d=Ls at *
    generalize vwC D.length n m f=V at *
    generalize A7 k l s p d=I at *
    refine ⟨g ++ [some (Row.mk V true),some (Row.mk I true),some (Row.mk (F0 Ls) true)],?_⟩
    rw [← ez]
    simp only [esc] at hL
    simp only [esc,W0,R8,l4,l11,hL] <;> rfl
  obtain ⟨g',e⟩:=key (ro h) hv.ro
  exact D38 e rfl
end Go.Proofs.YtdgggnlbdoiloaaGreat
end
section
namespace Go.Proofs.YtdgggnlbdoiloaaGreat
open Go Go.Esc
theorem J3N {l:List Plc} {x:Plc}:R2 (l ++ [x])=R2 l ++ E2 (some x):=by simp [R2]
theorem J3L {l:List Plc}:D9 (R2 l)=true:=by
  induction l with
  | nil=>rfl
  | cons x l ih =>
    have:R2 (x :: l)=E2 (some x) ++ R2 l:=rfl
    rw [this,A8L,ih];rfl
theorem J3M {l:List Plc}:noX (R2 l)=true:=by
  induction l with
  | nil=>rfl
  | cons x l ih =>
    have:R2 (x :: l)=[.i .i64 x.1,.i .i64 (x.2.1:Int),.i .i64 x.2.2] ++ R2 l:=rfl
    rw [this]
    simp [noX,Cell.isX] at ih ⊢
    exact ih
theorem D0x {D:Dev} {n k:Int} {d:List Int} {s:List Tld} {t:Tld}:R3 D n k d (s ++ [t])=R3 D n k d s ++ (if isL D n k d t=true then [] else [t.1]):=by
  unfold R3
  rw [List.filter_append,List.map_append]
  by_cases c:isL D n k d t=true
  · rw [if_pos c,List.filter_cons_of_neg (by simp [c])];rfl
  · rw [if_neg c,List.filter_cons_of_pos (by simp [c])];rfl
theorem J5u {D:Dev} {n k:Int} {d:List Int} {s:List Tld}:(R3 D n k d s).length ≤ s.length:=by
  unfold R3
  rw [List.length_map];exact List.length_filter_le _ _
def RSs (b:Nat):List Nat:=[b,b + 1,b + 3,b + 4,b + 6]
structure StrP (D:Dev) (n k:Int) (d:List Int) (V I:List Cell) (L:List Int) (g:A0) (rs:List Nat) (c:Nat) (s:List Tld) (h:A0):Prop where
  var:VarC h (g.length + 3) (R2 (R3 D n k d s)) (R3 D n k d s).length 3 g.length (rs ++ RSs g.length)
  len:s.length ≤ c
  low:Low g.length g h
  r0:rd h g.length=some ⟨V,true⟩
  r1:rd h (g.length + 1)=some ⟨I,true⟩
  r4:rd h (g.length + 4)=some ⟨V,true⟩
  r6:rd h (g.length + 6)=some ⟨encI L,true⟩
  rs:∀ j ∈ rs,g.length + 7 ≤ j ∧ j < h.length
section
variable {D:Dev} {n k:Int} {d:List Int} {V I:List Cell} {L:List Int} {g h:A0} {rs:List Nat} {c:Nat} {s:List Tld}
theorem StrP.more (P:StrP D n k d V I L g rs c s h) (t:A0):StrP D n k d V I L g rs c s (h ++ t) where
  var:=P.var.more t fun j hj=>.inl hj
  len:=P.len
  low:=P.low.new _
  r0:=C8 P.r0
  r1:=C8 P.r1
  r4:=C8 P.r4
  r6:=C8 P.r6
  rs:=fun j hj=>by have:=P.rs j hj;simp;omega
theorem StrP.one (P:StrP D n k d V I L g rs c s h) (r:Option Row):StrP D n k d V I L g (h.length :: rs) c s (h ++ [r]) where
  var:=P.var.more _ fun j hj=>by
    rcases List.mem_cons.1 hj with rfl | hj
    · exact .inr (Nat.le_refl _)
    · exact .inl hj
  len:=P.len
  low:=P.low.new _
  r0:=C8 P.r0
  r1:=C8 P.r1
  r4:=C8 P.r4
  r6:=C8 P.r6
  rs:=fun j hj=>by
    have h8:=D5 P.r6
    rcases List.mem_cons.1 hj with rfl | hj
    · simp;omega
    · have:=P.rs j hj;simp;omega
theorem StrP.less {i:Nat} (P:StrP D n k d V I L g (i :: rs) c s h):StrP D n k d V I L g rs c s h :=
  { P with var:=P.var.fewer fun j hj=>List.mem_cons_of_mem _ hj,rs:=fun j hj=>P.rs j (List.mem_cons_of_mem _ hj) }
theorem StrP.wide {c':Nat} (P:StrP D n k d V I L g rs c s h) (hc:c ≤ c'):StrP D n k d V I L g rs c' s h :=
  { P with len:=Nat.le_trans P.len hc }
end
theorem J5s {D:Dev} {n m k l s0 p:Int} {d:List Int} {f:Cell} {L:List Int} {g h:A0} {rs:List Nat} {c:Nat} {s:List Tld} {t:Tld} (hD:okD D) (hd:d.length=7) (hv:IsView g f D) (hc:c ≤ 90000) (ht:t.2.length ≤ 24)
    (P:StrP D n k d (vwC D.length n m f) (A7 k l s0 p d) L g rs c s h) :
    ∃ h',A4l [.a (E2 (some t.1)),.c (.s t.2),.c (.p g.length 0),.c (.p (g.length + 1) 0),.c (.p (g.length + 3) 0)] h=some (.t [],h') ∧ StrP D n k d (vwC D.length n m f) (A7 k l s0 p d) L g rs (c + 1) (s ++ [t]) h' ∧ ∀ j ∈ rs,rd h' j=rd h j:=by
  obtain ⟨⟨p1,p2,p3⟩,nm⟩:=t
  have hIl:(A7 k l s0 p d).length=11:=by simp [A7,G6,hd]
  obtain ⟨h1,e1⟩:∃ h1,h1=h ++ [some (Row.mk (E2 (some (p1,p2,p3))) true)]:=⟨_,rfl⟩
  have n1:h1.length=h.length + 1:=by rw [e1];simp
  have P1:StrP D n k d (vwC D.length n m f) (A7 k l s0 p d) L g (h.length :: rs) c s h1:=e1 ▸ P.one _
  have l4:A5 h1 4 (.c (.p g.length 0))=some (.a (vwC D.length n m f)):=G9 P1.r0 rfl
  have l11:A5 h1 11 (.c (.p (g.length + 1) 0))=some (.a (A7 k l s0 p d)):=G9 P1.r1 hIl
  have hL:=A7V (n:=n) (m:=m) (k:=k) (l:=l) (s:=s0) (p:=p) (nm:=nm) (h:=h1) hD hd (hv.since P1.low) (by dsimp only at ht;omega)
  have hl:=D5 P.r6
  have keep:∀ (h':A0),(∀ j ∈ h.length :: rs,rd h' j=rd h1 j) → ∀ j ∈ rs,rd h' j=rd h j:=by
    intro h' hk j hj
    rw [hk j (List.mem_cons_of_mem _ hj),e1,L5 (P.rs j hj).2]
  obtain ⟨o,eo⟩:∃ o,o=J5 D n k d nm:=⟨_,rfl⟩
  rw [← eo] at hL
  obtain ⟨h2,e2⟩:∃ h2,h2=h1 ++ [some (Row.mk (E2 o) true)]:=⟨_,rfl⟩
  have s3:B7 (h1 ++ [some (Row.mk [Cell.i .i64 0,.i .i64 0,.i .i64 0] true)]) 3 (.c (.p h1.length 0)) (.a (E2 o))=some h2:=by
    rw [W1,e2];cases o <;> rfl
  have P2:StrP D n k d (vwC D.length n m f) (A7 k l s0 p d) L g (h.length :: rs) c s h2:=e2 ▸ P1.more _
  have q1:A5 h2 3 (.c (.p h1.length 0))=some (.a (E2 o)):=by rw [e2,R8];cases o <;> rfl
  have rp:rd h2 h.length=some ⟨E2 (some (p1,p2,p3)),true⟩:=by rw [e2,e1];simp
  have q2:A5 h2 3 (.c (.p h.length 0))=some (.a (E2 (some (p1,p2,p3)))):=G9 rp rfl
  have k2:∀ j ∈ h.length :: rs,rd h2 j=rd h1 j:=fun j hj=>by
    rw [e2,L5]
    rcases List.mem_cons.1 hj with rfl | hj
    · omega
    · have:=P.rs j hj;omega
  by_cases hn:isL D n k d ((p1,p2,p3),nm)=true
  · have ho:o=some (p1,p2,p3):=by
      have:=hn
      unfold isL at this
      rw [← eo] at this
      simpa using this
    subst ho
    have hst:R3 D n k d (s ++ [((p1,p2,p3),nm)])=R3 D n k d s:=by rw [D0x,if_pos hn];simp
    have ea:=A5A (neg:=true) (p1,p2,p3) (p1,p2,p3)
    rw [decide_eq_true rfl] at ea
    have P3:=P2.less
    refine ⟨h2,B3d (n:=0) ?_,{ P3 with var:=by rw [hst];exact P3.var,len:=by have:=P.len;simp;omega },keep h2 k2⟩
    rw [B20]
    generalize hV:vwC D.length n m f=V at *
    generalize hI:A7 k l s0 p d=I at *
    simp only [X9,K3,← e1,l4,l11,hL,A1C,List.getElem?_cons_zero,List.getElem?_cons_succ,Option.map_some,A12,A11,s3,Option.isSome_some,A7B,Bool.not_true,A8P,q1,q2,ea,A1E,cond_true,cond_false,A1j]
    rfl
  · have hst:R3 D n k d (s ++ [((p1,p2,p3),nm)])=R3 D n k d s ++ [(p1,p2,p3)]:=by rw [D0x,if_neg hn]
    have h2l:h2.length=h.length + 2:=by rw [e2];simp;omega
    obtain ⟨x,v,h3,h4,a1,a2,a3,a4,a5,a6,a7⟩:=P2.var.push (ys:=E2 (some (p1,p2,p3))) (by simp [RSs]) (by omega) (by omega) (by
      intro j hj
      rcases List.mem_append.1 hj with hj | hj
      · exact (P2.rs j hj).2
      · simp only [RSs,List.mem_cons,List.not_mem_nil,or_false] at hj;omega) (by have:=J5u (D:=D) (n:=n) (k:=k) (d:=d) (s:=s);have:=P.len;omega) rfl (by omega)
    have ef:B0 [Cell.i .i64 0,.i .i64 0,.i .i64 0] [(0,3,.a (E2 (some (p1,p2,p3))))]=some (E2 (some (p1,p2,p3))):=rfl
    have mem:∀ j,j ∈ RSs g.length → j ≠ g.length + 3 → rd h4 j=rd h2 j:=fun j hj hne=>a6 j (List.mem_append_right _ hj) hne
    have fin:StrP D n k d (vwC D.length n m f) (A7 k l s0 p d) L g rs (c + 1) (s ++ [((p1,p2,p3),nm)]) h4:=by
      refine ⟨?_,?_,P2.low.trans a5,?_,?_,?_,?_,?_⟩
      · rw [hst,J3N,List.length_append]
        exact a4.fewer fun j hj=>by
          rcases List.mem_append.1 hj with hj | hj
          · exact List.mem_append_left _ (List.mem_cons_of_mem _ hj)
          · exact List.mem_append_right _ hj
      · have:=P.len;simp;omega
      · rw [mem _ (by simp [RSs]) (by omega)];exact P2.r0
      · rw [mem _ (by simp [RSs]) (by omega)];exact P2.r1
      · rw [mem _ (by simp [RSs]) (by omega)];exact P2.r4
      · rw [mem _ (by simp [RSs]) (by omega)];exact P2.r6
      · intro j hj
        have:=P.rs j hj
        omega
    have kp:∀ j ∈ rs,rd h4 j=rd h j:=keep h4 fun j hj=>by
      have hj9:g.length + 7 ≤ j:=by
        rcases List.mem_cons.1 hj with rfl | hj
        · omega
        · exact (P.rs j hj).1
      rw [a6 j (List.mem_append_left _ hj) (by omega),k2 j hj]
    refine ⟨h4,B3d (n:=0) ?_,fin,kp⟩
    rw [B20]
    cases o with
    | none =>
      generalize hV:vwC D.length n m f=V at *
      generalize hI:A7 k l s0 p d=I at *
      simp only [X9,K3,← e1,l4,l11,hL,A1C,List.getElem?_cons_zero,List.getElem?_cons_succ,Option.map_some,A12,A11,s3,Option.isSome_none,A7B,Bool.not_false,C2O,B10,A1E,cond_true,cond_false,A1k,a1,q2,ef,a2,a3]
      rfl
    | some q =>
      have hq:q ≠ (p1,p2,p3):=by
        intro e
        apply hn
        unfold isL
        rw [← eo,e];simp
      have ea:=A5A (neg:=true) q (p1,p2,p3)
      rw [decide_eq_false (by simpa using hq)] at ea
      generalize hV:vwC D.length n m f=V at *
      generalize hI:A7 k l s0 p d=I at *
      simp only [X9,K3,← e1,l4,l11,hL,A1C,List.getElem?_cons_zero,List.getElem?_cons_succ,Option.map_some,A12,A11,s3,Option.isSome_some,A7B,Bool.not_true,Bool.not_false,A8P,q1,q2,ea,A1E,cond_true,cond_false,A1k,a1,ef,a2,a3]
      rfl
theorem E6C {D:Dev} {n m k l s p:Int} {d:List Int} {f:Cell} {h:A0} (hD:okD D) (hd:d.length=7) (hv:IsView h f D) :
    B2X h (A2r [.a (vwC D.length n m f),.a (A7 k l s p d)] h) (R2 (R3 D n k d (O7 D n k d))) (R3 D n k d (O7 D n k d)).length 3:=by
  have key:∀ g,IsView g f D → ∃ x g',A3t 0 [.a (vwC D.length n m f),.a (A7 k l s p d)] g=some (.c x,g') ∧ B0p g' x (R2 (R3 D n k d (O7 D n k d))) (R3 D n k d (O7 D n k d)).length 3 g.length ([] ++ RSs g.length):=by
    intro g hv
    have hIl:(A7 k l s p d).length=11:=by simp [A7,G6,hd]
    have hbl:=B5X (D:=D) (n:=n) (k:=k) (d:=d)
    obtain ⟨V,hV⟩:∃ V,V=vwC D.length n m f:=⟨_,rfl⟩
    obtain ⟨I,hI⟩:∃ I,I=A7 k l s p d:=⟨_,rfl⟩
    have hVl:V.length=4:=by rw [hV];rfl
    have hIl':I.length=11:=by rw [hI];exact hIl
    obtain ⟨G,hG⟩:∃ G,G=g ++ [some (Row.mk V true),some (Row.mk I true),some (Row.mk [] true),some (Row.mk [.ns] true)]:=⟨_,rfl⟩
    obtain ⟨G2,hG2⟩:∃ G2,G2=G ++ [some (Row.mk V true),some (Row.mk I true),some (Row.mk (encI (G5 D n k d)) true)]:=⟨_,rfl⟩
    have lG:G.length=g.length + 4:=by rw [hG];simp
    have lG2:G2.length=g.length + 7:=by rw [hG2];simp [lG]
    have hB:=C2r (n:=n) (m:=m) (k:=k) (l:=l) (s:=s) (p:=p) (h:=G ++ [some (Row.mk V true),some (Row.mk I true)]) hD hd (by rw [hG];exact (hv.more _).more _)
    rw [← hV,← hI] at hB
    have hB2:(G ++ [some (Row.mk V true),some (Row.mk I true)]) ++ [some (Row.mk (encI (G5 D n k d)) true)]=G2:=by rw [hG2];simp
    rw [hB2] at hB
    have lB:(G ++ [some (Row.mk V true),some (Row.mk I true)]).length=g.length + 6:=by simp [lG]
    rw [lB] at hB
    have emk:X8 43 [.c (.p g.length 0),.c (.p (g.length + 1) 0),.c (.p (g.length + 3) 0)]=some (.c (.f 43 [(g.length,0),(g.length + 1,0),(g.length + 3,0)])):=rfl
    have hcv:∀ (x y:Val) (h:A0),M7 R6 (.c (.f 43 [(g.length,0),(g.length + 1,0),(g.length + 3,0)])) [x,y] h=A4l [x,y,.c (.p g.length 0),.c (.p (g.length + 1) 0),.c (.p (g.length + 3) 0)] h:=fun _ _ _=>Eq.trans rfl rfl
    have P0:StrP D n k d V I (G5 D n k d) g [] 0 [] G2:=by
      refine ⟨VarC.nil ?_,Nat.le_refl _,?_,?_,?_,?_,?_,fun j hj=>by simp at hj⟩
      · rw [hG2,hG];simp
      · rw [hG2,hG];exact ((Low.refl (Nat.le_refl _)).new _).new _
      · rw [hG2,hG];simp
      · rw [hG2,hG];simp
      · rw [hG2,← lG];simp
      · rw [hG2,show g.length + 6=G.length + 2 by omega];simp
    obtain ⟨h',f1,f2⟩:=B1r (σ:=List Tld) (L0:=fun M x h=>A74 300 M (.c (.f 43 [(g.length,0),(g.length + 1,0),(g.length + 3,0)])) (.c (.p (g.length + 4) 0)) (.c (.sl (g.length + 6) 0 (G5 D n k d).length 1)) (.c (.i .i64 ((G5 D n k d).length:Nat))) x h)
      (L1:=fun M m2 x7 x14 x21 x22 x23 h=>A75 300 M m2 (.c (.f 43 [(g.length,0),(g.length + 1,0),(g.length + 3,0)])) (.c (.p (g.length + 4) 0)) x7 (.c (.sl (g.length + 6) 0 (G5 D n k d).length 1)) (.c (.i .i64 ((G5 D n k d).length:Nat))) x14 x21 x22 x23 h)
      (C:=fun x y h=>M7 R6 (.c (.f 43 [(g.length,0),(g.length + 1,0),(g.length + 3,0)])) [x,y] h)
      (N:=300) (x3:=.c (.p (g.length + 4) 0)) (n:=n) (m:=m) (f:=f) (sid:=g.length + 6) (L:=G5 D n k d) hD (fun rs c s h=>StrP D n k d V I (G5 D n k d) g rs c s h) (fun s t=>s ++ [t]) (by omega)
      (fun M x h=>by rw [E8t])
      (fun M v9 x v w M2 y h=>by rw [E8u])
      (fun rs c s h P=>⟨by rw [← hV];exact G9 P.r4 hVl,hv.since P.low,P.r6⟩)
      (fun rs c s h t P=>P.more t) (fun rs c s h r P=>P.one r) (fun i rs c s h P=>P.less) (fun rs c c' s h P hc=>P.wide hc)
      (fun rs c st h1 no x P hc hno hx=>by
        obtain ⟨h2,e1,e2,e3⟩:=J5s (t:=((no,x.1,x.2.2),x.2.1)) (n:=n) (m:=m) (k:=k) (l:=l) (s0:=s) (p:=p) (c:=c) hD hd hv (by omega) (by have:=C9N (C57 hx).1;exact this) (by rw [← hV,← hI];exact P)
        rw [← hV,← hI] at e2
        exact ⟨h2,by rw [hcv];exact e1,e2,e3⟩)
      (by omega) (G5 D n k d).length 0 300 [] [] G2 (by omega) (by omega) P0
    rw [List.drop_zero] at f2
    have efold:∀ (L:List Tld) (s0:List Tld),L.foldl (fun s t=>s ++ [t]) s0=s0 ++ L:=by
      intro L
      induction L with
      | nil=>intro s0;simp
      | cons t L ih=>intro s0;rw [List.foldl_cons,ih];simp
    rw [efold,List.nil_append] at f2
    change StrP D n k d V I (G5 D n k d) g [] (7 * (G5 D n k d).length) (O7 D n k d) h' at f2
    have hS:A4n [.a V,.a I,.c (.f 43 [(g.length,0),(g.length + 1,0),(g.length + 3,0)])] G=some (.t [],h'):=by
      refine D4k (n:=300) ?_
      rw [D2s]
      have g4:A5 (G ++ [some (Row.mk V true),some (Row.mk I true)]) 4 (.c (.p G.length 0))=some (.a V):=by rw [R8];exact P4 hVl
      have g11:A5 (G ++ [some (Row.mk V true),some (Row.mk I true)]) 11 (.c (.p (G.length + 1) 0))=some (.a I):=by rw [W0];exact P4 hIl'
      simp only [X9,K3,List.append_assoc,List.cons_append,List.nil_append,List.length_append,List.length_cons,List.length_nil,Nat.zero_add,g4,g11,hB,A7u]
      rw [lG]
      exact f1
    obtain ⟨x,hx,hdx⟩:=f2.var
    refine ⟨x,h',?_,hdx⟩
    have t1:A9 h' (.c (.p (g.length + 3) 0))=some (.c x):=K6 hx rfl (by
      rcases hdx with ⟨_,_,rfl⟩ | ⟨id,rfl,_⟩ <;> rfl)
    have g4:A5 G 4 (.c (.p g.length 0))=some (.a V):=by rw [hG,R8];exact P4 hVl
    have g11:A5 G 11 (.c (.p (g.length + 1) 0))=some (.a I):=by rw [hG,W0];exact P4 hIl'
    rw [D2q,← hV,← hI]
    simp only [X9,K3,List.append_assoc,List.cons_append,List.nil_append,List.length_append,List.length_cons,List.length_nil,Nat.zero_add,Nat.reduceAdd,← hG,g4,g11,emk,hS,t1]
  obtain ⟨x,g',e,hdx⟩:=key (ro h) hv.ro
  rw [L6] at hdx
  exact D65 (S:=A2r) (R:=A3t) D4f D4h e hdx J3L J3M
end Go.Proofs.YtdgggnlbdoiloaaGreat
end
section
namespace Go.Proofs.YtdgggnlbdoiloaaGreat
open Go Go.Esc
theorem J2V {x:Cell} {a n:Nat} {cs:List Cell} {h:A0} (hv:Has h (.c x) 1 n cs) (hn:1 ≤ n) (han:a + n ≤ 256) :
    A4Z [.a [.i .i64 a,x]] h=some (.c (.i .i64 0),h):=by
  have key:∀ g,Has g (.c x) 1 n cs → ∃ g',A7a 0 [.a [.i .i64 a,x]] g=some (.c (.i .i64 0),g'):=by
    intro g hv
    have c1:¬ (n:Int) < 1:=by omega
    have c2:¬ (256:Int) < n:=by omega
    have c3:¬ (a:Int) < 0:=by omega
    have e1:IntKind.wrap .i64 (256 - (n:Int))=256 - n:=wrap_i64 (by omega) (by omega)
    have c4:¬ (256:Int) - n < a:=by omega
    rw [D3F]
    exact ⟨_,by simp only [esc,esh,Nat.reduceAdd,Nat.reduceMul,Nat.reduceLT,hv.len,c1,c2,c3,e1,c4] <;> rfl⟩
  obtain ⟨g',e⟩:=key (ro h) hv.ro
  exact D6d e rfl
theorem C9s {x:Cell} {n:Nat} {data l:List UInt8} {z:List Cell} {g:A0} (hv:Has g (.c x) 1 n (A3 data)) {a q:Nat} (han:a + n ≤ 256) (hl:l.length=256) (hz:z.length=256) (hn:data.length=n):∀ d i m,i + d=n → d < m →
    A9Z q m (.c (.p g.length 0)) (.c (.p (g.length + 1) 0)) (.c (.p (g.length + 2) 0)) (.c x) (.c (.i .i64 n)) (.c (.i .i64 i)) (g ++ [some ⟨A3 (D2 l a (data.take i)),true⟩,some ⟨[.i .i64 a,x],true⟩,some ⟨z,true⟩]) =
      some (.a (A3 (D2 l a data)),g ++ [some ⟨A3 (D2 l a data),true⟩,some ⟨[.i .i64 a,x],true⟩,some ⟨A3 (D2 l a data),true⟩])
  | d,i,0,_,hm=>by omega
  | 0,i,m + 1,hi,hm=>by
    have e0:i=n:=by omega
    subst e0
    have c0:¬ (i:Int) < i:=by omega
    have hE:(A3 (D2 l a data)).length=256:=by rw [B4,A0p (by omega),hl]
    rw [C9r,List.take_of_length_le (by omega)]
    simp only [esc,esh,Nat.reduceAdd,Nat.reduceMul,Nat.reduceLT,c0,hE,hz]
  | d + 1,i,m + 1,hi,hm=>by
    have ih:=C9s hv (z:=z) (q:=q) han hl hz hn d (i + 1) m (by omega) (by omega)
    obtain ⟨id,off,e,hid,h1,h2⟩:=(hv.more [some ⟨A3 (D2 l a (data.take i)),true⟩,some ⟨[.i .i64 a,x],true⟩,some ⟨z,true⟩]).sl (by omega)
    cases e
    have c0:(i:Int) < n:=by omega
    have hx:=h1 i (.i .u8 data[i].toNat) (by rw [W4,List.getElem?_eq_getElem (by omega)];rfl)
    have eb:D0 1 (.c (.sl id off n 1)) (.c (.i .i64 (i:Int)))=some (.c (.p id (off + i))):=by rw [I9 (by omega)];simp
    have ea:D7 256 1 (.c (.p g.length 0)) (.c (.i .i64 ((a + i:Nat):Int)))=some (.c (.p g.length (a + i))):=by rw [S5 (by omega)];simp
    have hE:(A3 (D2 l a (data.take i))).length=256:=by rw [B4,A0p (by simp;omega),hl]
    have ho:a + i < 256:=by omega
    have e5:(D2 l a (data.take i)).set (a + i) data[i]=D2 l a (data.take (i + 1)):=by
      have:=A9i (l:=l) (xs:=data.take i) (a:=a) (x:=data[i]) (by simp;omega)
      rw [List.length_take,Nat.min_eq_left (by omega)] at this
      rw [this,List.take_succ_eq_append_getElem (by omega)]
    have es:(A3 (D2 l a (data.take i))).set (a + i) (.i .u8 data[i].toNat)=A3 (D2 l a (data.take (i + 1))):=by rw [A0G,e5]
    rw [C9r]
    simp only [esc,esh,Nat.reduceAdd,Nat.reduceMul,Nat.reduceLT,c0,eb,hx,A0O (show a + i < 9223372036854775808 by omega),ea,hE,ho,es,E6 (show i + 1 < 9223372036854775808 by omega)]
    exact ih
theorem J3I {x:Cell} {n a:Nat} {data l:List UInt8} {h:A0} (hv:Has h (.c x) 1 n (A3 data)) (hn:1 ≤ n) (han:a + n ≤ 256) (hl:l.length=256) :
    A40 [.a (A3 l),.a [.i .i64 a,x]] h=some (.a (A3 (D2 l a data)),h):=by
  have hd:data.length=n:=by simpa [B4] using hv.length
  have key:∀ N,n < N → ∀ g,Has g (.c x) 1 n (A3 data) → ∃ g',A7b N [.a (A3 l),.a [.i .i64 a,x]] g=some (.a (A3 (D2 l a data)),g'):=by
    intro N hN g hv
    have hz:(List.replicate 256 (Cell.i .u8 0)).length=256:=List.length_replicate
    have hE:(A3 l).length=256:=by rw [B4,hl]
    rw [D3G]
    generalize List.replicate 256 (Cell.i .u8 0)=z at *
    have e:=C9s hv (l:=l) (z:=z) (q:=N) han hl hz hd n 0 N (by omega) (by omega)
    simp only [List.take_zero,A9h] at e
    have hc:=J2V (hv.more [some ⟨A3 l,true⟩,some ⟨[.i .i64 a,x],true⟩,some ⟨z,true⟩]) hn han
    exact ⟨_,by simp only [esc,esh,Nat.reduceAdd,Nat.reduceMul,Nat.reduceLT,hE,hz,hc,hv.len];exact e⟩
  obtain ⟨g',e⟩:=key (n + 1) (by omega) (ro h) hv.ro
  exact D6f e (by simp)
end Go.Proofs.YtdgggnlbdoiloaaGreat
end
section
namespace Go.Proofs.YtdgggnlbdoiloaaGreat
open Go Go.Esc
theorem D6X {a:Int} {x:Cell}:B0 [Cell.i .i64 0,.ns] [(0,1,.c (.i .i64 a)),(1,1,.c x)]=some [.i .i64 a,x]:=rfl
theorem D6W:B0 ([]:List Cell) []=some []:=rfl
theorem J8E {j:Nat} {k l s p:Int} {d:List Int} {h:A0} (hd:d.length=7) (h8:j < 8) (c:Y6 k l s p d=true) :
    A43 [.c (.i .i64 j),.a (A7 k l s p d)] h=some (.t [.a [.i .i64 ((32 * j:Nat):Int),.sl h.length 0 32 1],.c (.i .i64 0)],h ++ [some ⟨A3 (J0 k l s p d),true⟩]):=by
  have key:∀ g,∃ g',A7g 0 [.c (.i .i64 j),.a (A7 k l s p d)] g=some (.t [.a [.i .i64 ((32 * j:Nat):Int),.sl (g.length + 4) 0 32 1],.c (.i .i64 0)],g') ∧ rd g' (g.length + 4)=some ⟨A3 (J0 k l s p d),true⟩:=by
    intro g
    have c1:¬ (j:Int) < 0:=by omega
    have c2:¬ (8:Int) ≤ j:=by omega
    have hP:=fun h=>C5s (k:=k) (l:=l) (s:=s) (p:=p) (h:=h) hd
    simp only [c,cond_true] at hP
    have hE:(encI d).length=7:=by rw [G6,hd]
    have hz:(List.replicate 32 (Cell.i .u8 0)).length=32:=List.length_replicate
    have hB:(A3 (J0 k l s p d)).length=32:=by rw [B4,A5q hd]
    have w1:IntKind.wrap .i64 ((j:Int) * 32)=((32 * j:Nat):Int):=by rw [wrap_i64 (by omega) (by omega)];omega
    have p1:=R9 (h:=g ++ [some ⟨A7 k l s p d,true⟩,some ⟨[.i .i64 0,.ns],true⟩,some ⟨A3 (J0 k l s p d),true⟩,some ⟨[],true⟩]) (id:=g.length + 3) (jd:=g.length + 2) (n:=0) (m:=32) (sz:=1) (cs:=[]) (ys:=A3 (J0 k l s p d)) (rw:=true) (by simp) (by simp) (by simp) (by rw [hB]) rfl (by omega) (by omega)
    generalize A3 (J0 k l s p d)=B at *
    simp only [esc] at p1
    rw [D3L]
    generalize List.replicate 32 (Cell.i .u8 0)=z at *
    exact ⟨_,by simp only [esc,esh,Nat.reduceAdd,Nat.reduceMul,Nat.reduceLT,c1,c2,hE,hP,hz,hB,w1,D6W,p1,D6X,Int.cast_ofNat_Int] <;> rfl,by simp⟩
  obtain ⟨g',e,hr⟩:=key (ro h)
  have hr':=hr
  rw [L6] at hr'
  have hc1:I0 g' h.length [] [.i .i64 ((32 * j:Nat):Int),.sl ((ro h).length + 4) 0 32 1]=some ([.i .i64 ((32 * j:Nat):Int),.sl h.length 0 32 1],[h.length + 4]):=by
    rw [L6]
    simp [I0,Cell.low,Cell.flat,A9C hr' (by simp:D9 (A3 (J0 k l s p d))=true)]
  have hc2:I0 g' h.length [h.length + 4] [.i .i64 0]=some ([.i .i64 0],[h.length + 4]):=A1H (by simp)
  have:=D6o e (v2:=.t [.a [.i .i64 ((32 * j:Nat):Int),.sl h.length 0 32 1],.c (.i .i64 0)]) (ids:=[h.length + 4]) (by
    simp only [K4,O5,hc1,hc2,Option.bind_some,Option.map_some])
  rw [this]
  simp [hr']
end Go.Proofs.YtdgggnlbdoiloaaGreat
end
section
namespace Go.Proofs.YtdgggnlbdoiloaaGreat
open Go Go.Esc
theorem J9V {j:Nat} {k l s p:Int} {d:List Int} {b:List UInt8} {h:A0} (hb:b.length=256) (hd:d.length=7) (h8:j < 8) (c:Y6 k l s p d=true) :
    A3y [.a (A3 b),.c (.i .i64 j),.a (A7 k l s p d)] h=some (.t [.a (A3 (D2 b (32 * j) (J0 k l s p d))),.c (.i .i64 0)],h):=by
  have key:∀ g,∃ g',A7i 0 [.a (A3 b),.c (.i .i64 j),.a (A7 k l s p d)] g=some (.t [.a (A3 (D2 b (32 * j) (J0 k l s p d))),.c (.i .i64 0)],g'):=by
    intro g
    have hB:(A3 b).length=256:=by rw [B4,hb]
    have hE:(encI d).length=7:=by rw [G6,hd]
    have hI:(A3 (J0 k l s p d)).length=32:=by rw [B4,A5q hd]
    have hz:(List.replicate 256 (Cell.i .u8 0)).length=256:=List.length_replicate
    have hP:=fun h=>J8E (h:=h) hd h8 c
    rw [D3N]
    generalize List.replicate 256 (Cell.i .u8 0)=z at *
    have hL:=J3I (h:=g ++ [some (Row.mk (A3 b) true),some (Row.mk (A7 k l s p d) true),some (Row.mk z true),some (Row.mk (A3 (J0 k l s p d)) true),some (Row.mk [.i .i64 ((32 * j:Nat):Int),.sl (g.length + 3) 0 32 1] true)]) (x:=.sl (g.length + 3) 0 32 1) (n:=32) (a:=32 * j) (data:=J0 k l s p d) (l:=b) (Has.tr (by simp) (by rw [hI]) (I3 _)) (by omega) (by omega) hb
    have hR:(A3 (D2 b (32 * j) (J0 k l s p d))).length=256:=by rw [B4,A0p (by rw [A5q hd];omega),hb]
    exact ⟨_,by simp only [esc,esh,Nat.reduceAdd,Nat.reduceMul,Nat.reduceLT,hB,hE,hz,hP,hL,hR] <;> rfl⟩
  obtain ⟨g',e⟩:=key (ro h)
  exact D6r e (by simp)
def I7 (b:List UInt8) (j:Nat):List UInt8:=(b.drop (32 * j)).take 32
theorem B2D {b:List UInt8} {j:Nat} (hb:b.length=256) (hj:j < 8):(I7 b j).length=32:=by unfold I7;simp;omega
theorem C9L {g:A0} {b:List UInt8} {z:List Cell} {j q:Nat} (hb:b.length=256) (hz:z.length=32) (hj:j < 8):∀ e i m:Nat,i + e=32 → e < m →
    B0f q m (.c (.i .i64 j)) (.c (.p g.length 0)) (.c (.p (g.length + 1) 0)) (.c (.p (g.length + 2) 0)) (.c (.i .i64 i)) (g ++ [some ⟨A3 b,true⟩,some ⟨z,true⟩,some ⟨A3 ((I7 b j).take i ++ zeros (32 - i)),true⟩]) =
      some (.a (A3 (I7 b j)),g ++ [some ⟨A3 b,true⟩,some ⟨A3 (I7 b j),true⟩,some ⟨A3 (I7 b j),true⟩])
  | e,i,0,_,hm=>by omega
  | 0,i,m + 1,hi,hm=>by
    have e0:i=32:=by omega
    subst e0
    have h1':¬ ((32:Nat):Int) < 32:=by omega
    have hR:=B2D hb hj
    have hl:(A3 (I7 b j)).length=32:=by rw [B4,hR]
    have e1:A3 ((I7 b j).take 32 ++ zeros (32 - 32))=A3 (I7 b j):=by rw [List.take_of_length_le (by omega)];simp [zeros]
    rw [D1o,e1]
    simp only [esc,esh,Nat.reduceAdd,Nat.reduceMul,Nat.reduceLT,h1',hl,hz]
  | e + 1,i,m + 1,hi,hm=>by
    have ih:=C9L (g:=g) (q:=q) hb hz hj e (i + 1) m (by omega) (by omega)
    have hR:=B2D hb hj
    have h1':(i:Int) < 32:=by omega
    have w1:IntKind.wrap .i64 ((j:Int) * 32)=((32 * j:Nat):Int):=by rw [wrap_i64 (by omega) (by omega)];omega
    have a1:D7 256 1 (.c (.p g.length 0)) (.c (.i .i64 ((32 * j + i:Nat):Int)))=some (.c (.p g.length (32 * j + i))):=by rw [S5 (by omega)];simp
    have a2:D7 32 1 (.c (.p (g.length + 2) 0)) (.c (.i .i64 (i:Int)))=some (.c (.p (g.length + 2) i)):=by rw [S5 (by omega)];simp
    have l1:(A3 b)[32 * j + i]? = some (.i .u8 (I7 b j)[i].toNat):=by
      rw [W4,List.getElem?_eq_getElem (by omega)]
      have:(I7 b j)[i]=b[32 * j + i]'(by omega):=by simp [I7]
      rw [this];rfl
    have ho:i < (A3 ((I7 b j).take i ++ zeros (32 - i))).length:=by rw [B4,List.length_append,zeros_length,List.length_take];omega
    have es:(A3 ((I7 b j).take i ++ zeros (32 - i))).set i (.i .u8 (I7 b j)[i].toNat)=A3 ((I7 b j).take (i + 1) ++ zeros (32 - (i + 1))):=by
      rw [A0G]
      refine congrArg A3 ?_
      have h6:((I7 b j).take i).length=i:=by simp;omega
      rw [List.set_append_right _ _ (by omega),h6,Nat.sub_self,List.take_succ_eq_append_getElem (by omega),List.append_assoc]
      refine congrArg ((I7 b j).take i ++ ·) ?_
      rw [show 32 - i=32 - (i + 1) + 1 by omega]
      unfold zeros
      rw [List.replicate_succ,List.set_cons_zero];rfl
    rw [D1o]
    simp only [esc,esh,Nat.reduceAdd,Nat.reduceMul,Nat.reduceLT,h1',w1,A0O (show 32 * j + i < 9223372036854775808 by omega),a1,a2,l1,ho,es,E6 (show i + 1 < 9223372036854775808 by omega)]
    exact ih
theorem J9v {b:List UInt8} {j:Nat} {h:A0} (hb:b.length=256) (hj:j < 8):A44 [.a (A3 b),.c (.i .i64 j)] h=some (.a (A3 (I7 b j)),h):=by
  have key:∀ N,32 < N → ∀ g,∃ g',A7h N [.a (A3 b),.c (.i .i64 j)] g=some (.a (A3 (I7 b j)),g'):=by
    intro N hN g
    have c1:¬ (j:Int) < 0:=by omega
    have c2:¬ (8:Int) ≤ j:=by omega
    have hz:(A3 (zeros 32)).length=32:=by rw [B4];exact zeros_length
    have e:=C9L (g:=g) (z:=A3 (zeros 32)) (q:=N) hb hz hj 32 0 N (by omega) (by omega)
    simp only [List.take_zero,List.nil_append,Nat.sub_zero] at e
    rw [D3M,M0]
    generalize zeros 32=zz at *
    exact ⟨_,by simp only [esc,esh,Nat.reduceAdd,Nat.reduceMul,Nat.reduceLT,c1,c2];exact e⟩
  obtain ⟨g',e⟩:=key (h.length + 33) (by omega) (ro h)
  exact D6p e (by simp)
end Go.Proofs.YtdgggnlbdoiloaaGreat
end
section
namespace Go.Proofs.YtdgggnlbdoiloaaGreat
open Go Go.Esc
theorem B2b:(A7 0 0 0 0 (zI 7)).length=11:=rfl
theorem A82:[Cell.i .i64 0,.i .i64 0,.i .i64 0,.i .i64 0,.i .i64 0,.i .i64 0,.i .i64 0,.i .i64 0,.i .i64 0,.i .i64 0,.i .i64 0]=A7 0 0 0 0 (zI 7):=rfl
theorem B3O:B0 (A7 0 0 0 0 (zI 7)) []=some (A7 0 0 0 0 (zI 7)):=rfl
theorem J7J {b:List UInt8} {j:Nat} {h:A0} (hb:b.length=256) (hj:j < 8):A42 [.a (A3 b),.c (.i .i64 j)] h=some (.t [.a (W2 (I7 b j)),.c (.b (A0F (I7 b j)))],h):=by
  have key:∀ g,∃ g',A7f 0 [.a (A3 b),.c (.i .i64 j)] g=some (.t [.a (W2 (I7 b j)),.c (.b (A0F (I7 b j)))],g'):=by
    intro g
    have c1:¬ (j:Int) < 0:=by omega
    have c2:¬ (8:Int) ≤ j:=by omega
    have hB:(A3 b).length=256:=by rw [B4,hb]
    have hR:=fun h=>J9v (h:=h) hb hj
    have hC:=fun h=>H7b (b:=I7 b j) (h:=h) (B2D hb hj)
    have hl:=B2b
    have hcl:=B6f (b:=I7 b j)
    rw [D3K,A82]
    generalize A7 0 0 0 0 (zI 7)=z at *
    exact ⟨_,by simp only [esc,esh,Nat.reduceAdd,Nat.reduceMul,Nat.reduceLT,c1,c2,hB,hR,hC,hl,hcl] <;> rfl⟩
  obtain ⟨g',e⟩:=key (ro h)
  exact D6l e (by simp [C2m])
end Go.Proofs.YtdgggnlbdoiloaaGreat
end
section
namespace Go.Proofs.YtdgggnlbdoiloaaGreat
open Go Go.Esc
def A1o (D:Dev) (n i:Int):List UInt8:=I7 (blk D (A3j D.length n i)) (A3k D.length n i).toNat
def A1l (D:Dev) (n i:Int):List Cell:=bif S7 D.length n i then W2 (A1o D n i) else A7 0 0 0 0 (zI 7)
def kdV (D:Dev) (n i:Int):Int:=bif S7 D.length n i then (bif A0F (A1o D n i) then S4 (A1o D n i) else 0) else 0
theorem C4B (D:Dev) (n i:Int):∃ l s p d,A1l D n i=A7 (kdV D n i) l s p d ∧ d.length=7:=by
  unfold A1l kdV
  cases S7 D.length n i with
  | false=>exact ⟨0,0,0,zI 7,rfl,K7⟩
  | true =>
    unfold W2
    cases A0F (A1o D n i) with
    | false=>exact ⟨0,0,0,zI 7,rfl,K7⟩
    | true=>exact ⟨_,_,_,_,rfl,O8⟩
theorem G7Y (D:Dev) (n i:Int):D9 (A1l D n i)=true:=by
  obtain ⟨l,s,p,d,e,hd⟩:=C4B D n i
  rw [e]
  exact G7X (l:=_ :: _ :: _ :: _ :: d)
theorem J97 {b n m i:Int} {f:Cell} {h:A0} (hi:S7 b n i=false):A1B [.a (vwC b n m f),.c (.i .i64 i)] h=some (.a (A7 0 0 0 0 (zI 7)),h):=by
  have key:∀ g,∃ g',A4e 0 [.a (vwC b n m f),.c (.i .i64 i)] g=some (.a (A7 0 0 0 0 (zI 7)),g'):=by
    intro g
    have l3:=B0j (b:=b) (n:=n) (m:=m) (f:=f)
    have hW:=fun h=>C26 (b:=b) (n:=n) (m:=m) (i:=i) (h:=h)
    simp only [hi] at hW
    have hf:=B3O
    have hl:=B2b
    rw [B22,A82]
    generalize vwC b n m f=V at *
    generalize A7 0 0 0 0 (zI 7)=z at *
    exact ⟨_,by simp only [esc,esh,Nat.reduceAdd,Nat.reduceMul,Nat.reduceLT,l3,hW,hf,hl] <;> rfl⟩
  obtain ⟨g',e⟩:=key (ro h)
  exact B3C e rfl
theorem D1H {n m i:Int} {f:Cell} {D:Dev} {h:A0} (hD:okD D) (hv:IsView h f D):A1B [.a (vwC D.length n m f),.c (.i .i64 i)] h=some (.a (A1l D n i),h):=by
  cases hi:S7 D.length n i with
  | false =>
    rw [J97 hi]
    unfold A1l
    rw [hi];rfl
  | true =>
    have key:∀ g,IsView g f D → ∃ g',A4e 0 [.a (vwC D.length n m f),.c (.i .i64 i)] g=some (.a (A1l D n i),g'):=by
      intro g hv
      have l3:=B0j (b:=D.length) (n:=n) (m:=m) (f:=f)
      have l4:=A38 (b:=D.length) (n:=n) (m:=m) (f:=f)
      have hW:=fun h=>C26 (b:=D.length) (n:=n) (m:=m) (i:=i) (h:=h)
      simp only [hi] at hW
      have hf:=B3O
      have hl:=B2b
      have hK:∃ j:Nat,A3k D.length n i=j ∧ j < 8:=by
        refine ⟨(A3k D.length n i).toNat,?_,?_⟩ <;> unfold A3k <;> rw [hi,cond_true] <;> omega
      obtain ⟨j,hj,hj8⟩:=hK
      have hB:=B0i (n:=n) (m:=m) (no:=A3j D.length n i) (h:=g ++ [some (Row.mk (vwC D.length n m f) true),some (Row.mk (A7 0 0 0 0 (zI 7)) true)]) hD (hv.more _)
      have hG:=fun h=>J7J (b:=blk D (A3j D.length n i)) (j:=j) (h:=h) (A5d hD) hj8
      have er:I7 (blk D (A3j D.length n i)) j=A1o D n i:=by unfold A1o;rw [hj,Int.toNat_natCast]
      simp only [er] at hG
      simp only [hj] at hW
      have hcl:=B6f (b:=A1o D n i)
      have ei:A1l D n i=W2 (A1o D n i):=by unfold A1l;rw [hi];rfl
      rw [B22,A82,ei]
      generalize vwC D.length n m f=V at *
      generalize A7 0 0 0 0 (zI 7)=z at *
      generalize W2 (A1o D n i)=y at *
      exact ⟨_,by simp only [esc,esh,Nat.reduceAdd,Nat.reduceMul,Nat.reduceLT,l3,l4,hW,hB,hG,hf,hl,hcl] <;> rfl⟩
    obtain ⟨g',e⟩:=key (ro h) hv.ro
    exact B3C e (G7Y D n i)
end Go.Proofs.YtdgggnlbdoiloaaGreat
end
noncomputable section
namespace Go.Proofs.YtdgggnlbdoiloaaGreat
open Go Go.Esc
set_option maxRecDepth 100000
def B7U:List AOper:=[aO 0 (.nilrow 256)]
def E95:ACode:=.ops B7U
def B7V:List AOper:=[aO 4 (.mkSl 256 (List.replicate 256 (.i .u8 0)) (.v (.c (.i .i64 16))) (.v (.c (.i .i64 16)))),aO 1 (.mv (.t 4))]
def E97:ACode:=.ops B7V
def B7Y:List AOper:=[aO 6 (.mv (.t 1)),aO 7 (.build ([.i .i64 0,.i .i64 0,.i .u64 0]) [(0,1,(.v (.c (.i .i64 16)))),(1,1,(.v (.c (.i .i64 8))))]),aO 8 (.call 55 [(.t 7)]),aO 5 (.mv (.t 8)),aO 9 (.ext (.t 5) 0),aO 10 (.ext (.t 5) 1),aO 11 (.iAddrL 256 (.t 6) (.v (.c (.i .i64 0)))),{ dst:=none,op:=.storeN 256 (.t 11) (.t 9) }]
def F0t:ACode:=.ops B7Y
def B7Z:List AOper:=[aO 12 (.build ([.i .i64 0,.i .i64 0,.i .i64 0,.i .i64 0,.i .i64 0,.i .i64 0,.i .i64 0,.i .i64 0,.i .i64 0,.i .i64 0,.i .i64 0]) [(0,1,(.v (.c (.i .i64 2)))),(1,1,(.v (.c (.i .i64 1)))),(3,1,(.v (.c (.i .i64 1))))]),aO 2 (.alloc ([.i .i64 0,.i .i64 0,.i .i64 0,.i .i64 0,.i .i64 0,.i .i64 0,.i .i64 0,.i .i64 0,.i .i64 0,.i .i64 0,.i .i64 0])),{ dst:=none,op:=.storeN 11 (.t 2) (.t 12) }]
def F0D:ACode:=.ops B7Z
def B70:List AOper:=[aO 13 (.fAddr (.t 2) 4),aO 14 (.iAddrA 6 1 (.t 13) (.v (.c (.i .i64 0)))),{ dst:=none,op:=.store1 (.t 14) (.v (.c (.i .i64 5))) }]
def F0F:ACode:=.ops B70
def B71:List AOper:=[aO 16 (.mv (.t 1)),aO 17 (.mv (.t 1)),aO 18 (.iAddrL 256 (.t 17) (.v (.c (.i .i64 2)))),aO 19 (.loadN 256 (.t 18)),aO 20 (.loadN 11 (.t 2)),aO 21 (.call 56 [(.t 19),(.v (.c (.i .i64 0))),(.t 20)]),aO 15 (.mv (.t 21)),aO 22 (.ext (.t 15) 0),aO 23 (.ext (.t 15) 1),aO 24 (.iAddrL 256 (.t 16) (.v (.c (.i .i64 2))))]
def F0H:ACode:=.drawS 0 B71 { dst:=none,op:=.storeN 256 (.t 24) (.t 22) } [] []
def B72:List AOper:=[aO 25 (.build ([.i .i64 0] ++ List.replicate 32 (.i .i64 0)) [(0,1,(.v (.c (.i .i64 1))))]),aO 3 (.alloc ([.i .i64 0] ++ List.replicate 32 (.i .i64 0))),{ dst:=none,op:=.storeN 33 (.t 3) (.t 25) }]
def F0J:ACode:=.ops B72
def B73:List AOper:=[aO 26 (.fAddr (.t 3) 1),aO 27 (.iAddrA 32 1 (.t 26) (.v (.c (.i .i64 0)))),{ dst:=none,op:=.store1 (.t 27) (.v (.c (.i .i64 6))) },aO 28 (.fAddr (.t 3) 1),aO 29 (.iAddrA 32 1 (.t 28) (.v (.c (.i .i64 1)))),{ dst:=none,op:=.store1 (.t 29) (.v (.c (.i .i64 7))) }]
def F0L:ACode:=.ops B73
def B74:List AOper:=[aO 31 (.mv (.t 1)),aO 32 (.loadN 33 (.t 3)),aO 33 (.call 57 [(.t 32)]),aO 30 (.mv (.t 33)),aO 34 (.ext (.t 30) 0),aO 35 (.ext (.t 30) 1),aO 36 (.iAddrL 256 (.t 31) (.v (.c (.i .i64 5)))),{ dst:=none,op:=.storeN 256 (.t 36) (.t 34) }]
def F0N:ACode:=.ops B74
def B75:List AOper:=[aO 38 (.mv (.t 1)),aO 39 (.build ([.s [],.i .i64 0]) [(0,1,(.v (.c (.s [97])))),(1,1,(.v (.c (.i .i64 2))))]),aO 40 (.build ([.s [],.i .i64 0]) [(0,1,(.v (.c (.s [98])))),(1,1,(.v (.c (.i .i64 3))))]),aO 41 (.buildSl 2 2 (([.s [],.i .i64 0]) ++ ([.s [],.i .i64 0])) [(0,2,(.t 39)),(2,2,(.t 40))]),aO 42 (.call 58 [(.t 41)]),aO 37 (.mv (.t 42)),aO 43 (.ext (.t 37) 0),aO 44 (.ext (.t 37) 1),aO 45 (.iAddrL 256 (.t 38) (.v (.c (.i .i64 6)))),{ dst:=none,op:=.storeN 256 (.t 45) (.t 43) }]
def F0P:ACode:=.ops B75
def B7W:List AOper:=[aO 47 (.mv (.t 1)),aO 48 (.build ([.s [],.i .i64 0]) [(0,1,(.v (.c (.s [98])))),(1,1,(.v (.c (.i .i64 4))))]),aO 49 (.buildSl 2 1 (([.s [],.i .i64 0])) [(0,2,(.t 48))]),aO 50 (.call 58 [(.t 49)]),aO 46 (.mv (.t 50)),aO 51 (.ext (.t 46) 0),aO 52 (.ext (.t 46) 1),aO 53 (.iAddrL 256 (.t 47) (.v (.c (.i .i64 7)))),{ dst:=none,op:=.storeN 256 (.t 53) (.t 51) }]
def E98:ACode:=.ops B7W
def B7X:List AOper:=[aO 54 (.mv (.t 1)),aO 0 (.mv (.t 54))]
def F0a:ACode:=.ops B7X
def F0c:ACode:=.seq [0] F0a .ret
def F0e:ACode:=.seq [1] E98 F0c
def F0g:ACode:=.seq [1] F0P F0e
def F0i:ACode:=.seq [1] F0N F0g
def F0k:ACode:=.seq [1,3] F0L F0i
def F0m:ACode:=.seq [1,3] F0J F0k
def F0o:ACode:=.seq [1] F0H F0m
def F0q:ACode:=.seq [1,2] F0F F0o
def F0u:ACode:=.seq [1,2] F0D F0q
def F0w:ACode:=.seq [1] F0t F0u
def F0y:ACode:=.seq [1] E97 F0w
def F0A:ACode:=.seq [] E95 F0y
def A_el24_small:AFn:=⟨F0A,[.tmp 0]⟩
def T5:B6:=B1 55 A2O (B1 56 A3y (B1 57 A2F (B1 58 A3v C1)))
def E96 (n:Nat):SmV:=A2 T5 B7U
def F0s (n:Nat):SmV:=A2 T5 B7V
def F0C (n:Nat):SmV:=A2 T5 B7Y
def F0E (n:Nat):SmV:=A2 T5 B7Z
def F0G (n:Nat):SmV:=A2 T5 B70
def F0I (n:Nat):SmV:=A97 T5 0 B71 { dst:=none,op:=.storeN 256 (.t 24) (.t 22) } [] []
def F0K (n:Nat):SmV:=A2 T5 B72
def F0M (n:Nat):SmV:=A2 T5 B73
def F0O (n:Nat):SmV:=A2 T5 B74
def F0Q (n:Nat):SmV:=A2 T5 B75
def E99 (n:Nat):SmV:=A2 T5 B7W
def F0b (n:Nat):SmV:=A2 T5 B7X
def F0d (n:Nat):SmV:=A1 [0] (F0b n) A8
def F0f (n:Nat):SmV:=A1 [1] (E99 n) (F0d n)
def F0h (n:Nat):SmV:=A1 [1] (F0Q n) (F0f n)
def F0j (n:Nat):SmV:=A1 [1] (F0O n) (F0h n)
def F0l (n:Nat):SmV:=A1 [1,3] (F0M n) (F0j n)
def F0n (n:Nat):SmV:=A1 [1,3] (F0K n) (F0l n)
def F0p (n:Nat):SmV:=A1 [1] (F0I n) (F0n n)
def F0r (n:Nat):SmV:=A1 [1,2] (F0G n) (F0p n)
def F0v (n:Nat):SmV:=A1 [1,2] (F0E n) (F0r n)
def F0x (n:Nat):SmV:=A1 [1] (F0C n) (F0v n)
def F0z (n:Nat):SmV:=A1 [1] (F0s n) (F0x n)
def F0B (n:Nat):SmV:=A1 [] (E96 n) (F0z n)
def A6o (n:Nat) (args:List Val) (h:A0):A6:=(F0B n) A_el24_small.fin (params 0 args) h
theorem D2v (n:Nat) (h:A0):A6o n [] h=bnd (U4 (.c (.i .i64 16)) (.c (.i .i64 16))) fun n1=>bnd (B0 ([.i .i64 0,.i .i64 0,.i .u64 0]) [(0,1,.c (.i .i64 16)),(1,1,.c (.i .i64 8))]) fun c2=>bnd (A2O [(.a c2)] (((h ++ [some (Row.mk ([]) true)]) ++ [some (Row.mk (rows (List.replicate 256 (.i .u8 0)) n1) true)]))) fun p3=>bnd (C2 p3.1 0) fun v4=>bnd (C2 p3.1 1) fun v5=>bnd (D0 256 ((.c (.sl ((h ++ [some (Row.mk ([]) true)])).length 0 n1 256))) (.c (.i .i64 0))) fun v6=>bnd (B7 p3.2 256 v6 v4) fun h7=>bnd (B0 ([.i .i64 0,.i .i64 0,.i .i64 0,.i .i64 0,.i .i64 0,.i .i64 0,.i .i64 0,.i .i64 0,.i .i64 0,.i .i64 0,.i .i64 0]) [(0,1,.c (.i .i64 2)),(1,1,.c (.i .i64 1)),(3,1,.c (.i .i64 1))]) fun c8=>bnd (B7 ((h7 ++ [some (Row.mk ([.i .i64 0,.i .i64 0,.i .i64 0,.i .i64 0,.i .i64 0,.i .i64 0,.i .i64 0,.i .i64 0,.i .i64 0,.i .i64 0,.i .i64 0]) true)])) 11 ((.c (.p h7.length 0))) ((.a c8))) fun h9=>bnd (B9 ((.c (.p h7.length 0))) 4) fun v10=>bnd (D7 6 1 v10 (.c (.i .i64 0))) fun v11=>bnd (F2 h9 v11 (.c (.i .i64 5))) fun h12=>bnd (D0 256 ((.c (.sl ((h ++ [some (Row.mk ([]) true)])).length 0 n1 256))) (.c (.i .i64 2))) fun v13=>bnd (A5 h12 256 v13) fun v14=>bnd (A5 h12 11 ((.c (.p h7.length 0)))) fun v15=>bnd (quiet ((h12 ++ [])) (A3y [v14,.c (.i .i64 0),v15] ((h12 ++ [])))) fun p16=>bnd (C2 p16.1 0) fun v17=>bnd (C2 p16.1 1) fun v18=>bnd (D0 256 ((.c (.sl ((h ++ [some (Row.mk ([]) true)])).length 0 n1 256))) (.c (.i .i64 2))) fun v19=>bnd (B7 p16.2 256 v19 v17) fun h20=>bnd (B0 ([.i .i64 0] ++ List.replicate 32 (.i .i64 0)) [(0,1,.c (.i .i64 1))]) fun c21=>bnd (B7 ((h20 ++ [some (Row.mk ([.i .i64 0] ++ List.replicate 32 (.i .i64 0)) true)])) 33 ((.c (.p h20.length 0))) ((.a c21))) fun h22=>bnd (B9 ((.c (.p h20.length 0))) 1) fun v23=>bnd (D7 32 1 v23 (.c (.i .i64 0))) fun v24=>bnd (F2 h22 v24 (.c (.i .i64 6))) fun h25=>bnd (B9 ((.c (.p h20.length 0))) 1) fun v26=>bnd (D7 32 1 v26 (.c (.i .i64 1))) fun v27=>bnd (F2 h25 v27 (.c (.i .i64 7))) fun h28=>bnd (A5 h28 33 ((.c (.p h20.length 0)))) fun v29=>bnd (A2F [v29] h28) fun p30=>bnd (C2 p30.1 0) fun v31=>bnd (C2 p30.1 1) fun v32=>bnd (D0 256 ((.c (.sl ((h ++ [some (Row.mk ([]) true)])).length 0 n1 256))) (.c (.i .i64 5))) fun v33=>bnd (B7 p30.2 256 v33 v31) fun h34=>bnd (B0 ([.s [],.i .i64 0]) [(0,1,.c (.s [97])),(1,1,.c (.i .i64 2))]) fun c35=>bnd (B0 ([.s [],.i .i64 0]) [(0,1,.c (.s [98])),(1,1,.c (.i .i64 3))]) fun c36=>bnd (B0 (([.s [],.i .i64 0]) ++ ([.s [],.i .i64 0])) [(0,2,(.a c35)),(2,2,(.a c36))]) fun c37=>bnd (A3v [(.c (.sl h34.length 0 2 2))] ((h34 ++ [some (Row.mk (c37) true)]))) fun p38=>bnd (C2 p38.1 0) fun v39=>bnd (C2 p38.1 1) fun v40=>bnd (D0 256 ((.c (.sl ((h ++ [some (Row.mk ([]) true)])).length 0 n1 256))) (.c (.i .i64 6))) fun v41=>bnd (B7 p38.2 256 v41 v39) fun h42=>bnd (B0 ([.s [],.i .i64 0]) [(0,1,.c (.s [98])),(1,1,.c (.i .i64 4))]) fun c43=>bnd (B0 (([.s [],.i .i64 0])) [(0,2,(.a c43))]) fun c44=>bnd (A3v [(.c (.sl h42.length 0 1 2))] ((h42 ++ [some (Row.mk (c44) true)]))) fun p45=>bnd (C2 p45.1 0) fun v46=>bnd (C2 p45.1 1) fun v47=>bnd (D0 256 ((.c (.sl ((h ++ [some (Row.mk ([]) true)])).length 0 n1 256))) (.c (.i .i64 7))) fun v48=>bnd (B7 p45.2 256 v48 v46) fun h49=>some (((.c (.sl ((h ++ [some (Row.mk ([]) true)])).length 0 n1 256))),h49):=by kernel_rfl
theorem K_el24_small:FnK Tryz.prog 24 A_el24_small T5 A6o:=.mk' (B3 B3A (B3 D6s (B3 B3s (B3 D3X C3)))) Tryz.func24 (by kernel_rfl) (by intro n args h;kernel_rfl)
def A4p:Fun:=tidy (Lim A_el24_small T5)
theorem D4q:SOk Tryz.prog 24 A4p:=K_el24_small.sok
theorem D4r {n:Nat} {args:List Val} {h h2:A0} {v:Val} {sz k:Nat} {cs:List Cell} (he:A6o n args (ro h)=some (v,h2)) (ho:Out h.length h2 v sz k cs) (hf:D9 cs=true):A4p args h=some (.c (.sl h.length 0 k sz),h ++ [some ⟨cs,true⟩]):=K_el24_small.out he ho hf
def B76:List AOper:=[aO 0 (.mv (.v (.c (.b false))))]
def F0R:ACode:=.ops B76
def B77:List AOper:=[aO 9 (.call 24 []),aO 10 (.call 6 [(.t 9)]),aO 8 (.mv (.t 10)),aO 11 (.ext (.t 8) 0),aO 12 (.ext (.t 8) 1),aO 1 (.alloc ([.i .i64 0,.i .i64 0,.i .u64 0,.nf])),{ dst:=none,op:=.storeN 4 (.t 1) (.t 11) },aO 2 (.mv (.t 12))]
def F0T:ACode:=.ops B77
def B78:List AOper:=[aO 13 (.loadN 4 (.t 1)),aO 14 (.call 9 [(.t 13),(.v (.c (.i .i64 1)))]),aO 3 (.alloc ([.i .i64 0,.i .i64 0,.i .i64 0,.i .i64 0,.i .i64 0,.i .i64 0,.i .i64 0,.i .i64 0,.i .i64 0,.i .i64 0,.i .i64 0])),{ dst:=none,op:=.storeN 11 (.t 3) (.t 14) }]
def F03:ACode:=.ops B78
def B79:List AOper:=[aO 16 (.loadN 4 (.t 1)),aO 17 (.loadN 11 (.t 3)),aO 18 (.call 10 [(.t 16),(.t 17),(.v (.c (.s [98])))]),aO 15 (.mv (.t 18)),aO 19 (.ext (.t 15) 0),aO 20 (.ext (.t 15) 1),aO 4 (.alloc ([.i .i64 0,.i .i64 0,.i .i64 0])),{ dst:=none,op:=.storeN 3 (.t 4) (.t 19) },aO 5 (.mv (.t 20))]
def F05:ACode:=.ops B79
def B8a:List AOper:=[aO 21 (.loadN 4 (.t 1)),aO 22 (.loadN 11 (.t 3)),aO 23 (.call 18 [(.t 21),(.t 22)]),aO 6 (.mv (.t 23))]
def F07:ACode:=.ops B8a
def B8b:List AOper:=[aO 24 (.loadN 4 (.t 1)),aO 25 (.loadN 11 (.t 3)),aO 26 (.call 16 [(.t 24),(.t 25)]),aO 7 (.mv (.t 26))]
def F09:ACode:=.ops B8b
def B8c:List AOper:=[aO 27 (.mv (.t 2)),aO 28 (.bin .eql (.t 27) (.v (.c (.i .i64 0)))),aO 29 (.mv (.t 28)),{ dst:=some 30,op:=.mv (.t 5),guard:=some (29,true) },aO 31 (.pick (.t 29) (.t 30) (.v (.c (.b false)))),aO 32 (.mv (.t 31)),{ dst:=some 33,op:=.loadN 3 (.t 4),guard:=some (32,true) },{ dst:=some 34,op:=.build ([.i .i64 0,.i .i64 0,.i .i64 0]) [(0,1,(.v (.c (.i .i64 7)))),(1,1,(.v (.c (.i .i64 0)))),(2,1,(.v (.c (.i .i64 4))))],guard:=some (32,true) },{ dst:=some 35,op:=.eqA false ([.i .i64,.i .i64,.i .i64]) (.t 33) (.t 34),guard:=some (32,true) },aO 36 (.pick (.t 32) (.t 35) (.v (.c (.b false)))),aO 37 (.mv (.t 36)),{ dst:=some 38,op:=.mv (.t 6),guard:=some (37,true) },{ dst:=some 39,op:=.len (.t 38),guard:=some (37,true) },{ dst:=some 40,op:=.bin .eql (.t 39) (.v (.c (.i .i64 2))),guard:=some (37,true) },aO 41 (.pick (.t 37) (.t 40) (.v (.c (.b false)))),aO 42 (.mv (.t 41)),{ dst:=some 43,op:=.mv (.t 6),guard:=some (42,true) },{ dst:=some 44,op:=.iAddrL 2 (.t 43) (.v (.c (.i .i64 0))),guard:=some (42,true) },{ dst:=some 45,op:=.fAddr (.t 44) 1,guard:=some (42,true) },{ dst:=some 46,op:=.load1 (.t 45),guard:=some (42,true) },{ dst:=some 47,op:=.bin .eql (.t 46) (.v (.c (.i .i64 2))),guard:=some (42,true) },aO 48 (.pick (.t 42) (.t 47) (.v (.c (.b false)))),aO 49 (.mv (.t 48)),{ dst:=some 50,op:=.mv (.t 7),guard:=some (49,true) },{ dst:=some 51,op:=.len (.t 50),guard:=some (49,true) },{ dst:=some 52,op:=.bin .eql (.t 51) (.v (.c (.i .i64 1))),guard:=some (49,true) },aO 53 (.pick (.t 49) (.t 52) (.v (.c (.b false)))),aO 54 (.mv (.t 53)),{ dst:=some 55,op:=.mv (.t 7),guard:=some (54,true) },{ dst:=some 56,op:=.iAddrL 3 (.t 55) (.v (.c (.i .i64 0))),guard:=some (54,true) },{ dst:=some 57,op:=.fAddr (.t 56) 0,guard:=some (54,true) },{ dst:=some 58,op:=.load1 (.t 57),guard:=some (54,true) },{ dst:=some 59,op:=.bin .eql (.t 58) (.v (.c (.i .i64 6))),guard:=some (54,true) },aO 60 (.pick (.t 54) (.t 59) (.v (.c (.b false)))),aO 61 (.mv (.t 60)),{ dst:=some 62,op:=.loadN 4 (.t 1),guard:=some (61,true) },{ dst:=some 63,op:=.build ([.i .i64 0,.i .i64 0,.i .i64 0,.i .i64 0,.i .i64 0,.i .i64 0,.i .i64 0,.i .i64 0,.i .i64 0,.i .i64 0,.i .i64 0]) [(0,1,(.v (.c (.i .i64 2))))],guard:=some (61,true) },{ dst:=some 64,op:=.call 19 [(.t 62),(.t 63)],guard:=some (61,true) },aO 65 (.pick (.t 61) (.t 64) (.v (.c (.b false)))),aO 0 (.mv (.t 65))]
def F1b:ACode:=.ops B8c
def F1d:ACode:=.seq [0] F1b .ret
def F1f:ACode:=.seq [1,2,4,5,6,7] F09 F1d
def F1h:ACode:=.seq [1,2,3,4,5,6] F07 F1f
def F0U:ACode:=.seq [1,2,3,4,5] F05 F1h
def F0W:ACode:=.seq [1,2,3] F03 F0U
def F0Y:ACode:=.seq [1,2] F0T F0W
def F00:ACode:=.seq [] F0R F0Y
def A_el24_works:AFn:=⟨F00,[.tmp 0]⟩
def A0S:B6:=B1 24 A4p (B1 6 A0A (B1 9 A1B (B1 10 A0g (B1 18 A2p (B1 16 A2r (B1 19 A4j C1))))))
def F0S (n:Nat):SmV:=A2 A0S B76
def F02 (n:Nat):SmV:=A2 A0S B77
def F04 (n:Nat):SmV:=A2 A0S B78
def F06 (n:Nat):SmV:=A2 A0S B79
def F08 (n:Nat):SmV:=A2 A0S B8a
def F1a (n:Nat):SmV:=A2 A0S B8b
def F1c (n:Nat):SmV:=A2 A0S B8c
def F1e (n:Nat):SmV:=A1 [0] (F1c n) A8
def F1g (n:Nat):SmV:=A1 [1,2,4,5,6,7] (F1a n) (F1e n)
def F1i (n:Nat):SmV:=A1 [1,2,3,4,5,6] (F08 n) (F1g n)
def F0V (n:Nat):SmV:=A1 [1,2,3,4,5] (F06 n) (F1i n)
def F0X (n:Nat):SmV:=A1 [1,2,3] (F04 n) (F0V n)
def F0Z (n:Nat):SmV:=A1 [1,2] (F02 n) (F0X n)
def F01 (n:Nat):SmV:=A1 [] (F0S n) (F0Z n)
def A6p (n:Nat) (args:List Val) (h:A0):A6:=(F01 n) A_el24_works.fin (params 0 args) h
theorem D2w (n:Nat) (h:A0):A6p n [] h=bnd (A4p [] h) fun p1=>bnd (A0A [p1.1] p1.2) fun p2=>bnd (C2 p2.1 0) fun v3=>bnd (C2 p2.1 1) fun v4=>bnd (B7 ((p2.2 ++ [some (Row.mk ([.i .i64 0,.i .i64 0,.i .u64 0,.nf]) true)])) 4 ((.c (.p p2.2.length 0))) v3) fun h5=>bnd (A5 h5 4 ((.c (.p p2.2.length 0)))) fun v6=>bnd (A1B [v6,.c (.i .i64 1)] h5) fun p7=>bnd (B7 ((p7.2 ++ [some (Row.mk ([.i .i64 0,.i .i64 0,.i .i64 0,.i .i64 0,.i .i64 0,.i .i64 0,.i .i64 0,.i .i64 0,.i .i64 0,.i .i64 0,.i .i64 0]) true)])) 11 ((.c (.p p7.2.length 0))) p7.1) fun h8=>bnd (A5 h8 4 ((.c (.p p2.2.length 0)))) fun v9=>bnd (A5 h8 11 ((.c (.p p7.2.length 0)))) fun v10=>bnd (A0g [v9,v10,.c (.s [98])] h8) fun p11=>bnd (C2 p11.1 0) fun v12=>bnd (C2 p11.1 1) fun v13=>bnd (B7 ((p11.2 ++ [some (Row.mk ([.i .i64 0,.i .i64 0,.i .i64 0]) true)])) 3 ((.c (.p p11.2.length 0))) v12) fun h14=>bnd (A5 h14 4 ((.c (.p p2.2.length 0)))) fun v15=>bnd (A5 h14 11 ((.c (.p p7.2.length 0)))) fun v16=>bnd (A2p [v15,v16] h14) fun p17=>bnd (A5 p17.2 4 ((.c (.p p2.2.length 0)))) fun v18=>bnd (A5 p17.2 11 ((.c (.p p7.2.length 0)))) fun v19=>bnd (A2r [v18,v19] p17.2) fun p20=>bnd (A4 .eql v4 (.c (.i .i64 0))) fun v21=>bnd (gd v21 true (some (v13,p20.2)) (some (.no,p20.2))) fun p22=>bnd (C5 v21 p22.1 (.c (.b false))) fun v23=>bnd (gd v23 true (bnd (A5 p22.2 3 ((.c (.p p11.2.length 0)))) fun v24=>some (v24,p22.2)) (some (.no,p22.2))) fun p25=>bnd (gd v23 true (bnd (B0 ([.i .i64 0,.i .i64 0,.i .i64 0]) [(0,1,.c (.i .i64 7)),(1,1,.c (.i .i64 0)),(2,1,.c (.i .i64 4))]) fun c26=>some ((.a c26),p25.2)) (some (.no,p25.2))) fun p27=>bnd (gd v23 true (bnd (aeq false ([.i .i64,.i .i64,.i .i64]) p25.1 p27.1) fun v28=>some (v28,p27.2)) (some (.no,p27.2))) fun p29=>bnd (C5 v23 p29.1 (.c (.b false))) fun v30=>bnd (gd v30 true (some (p17.1,p29.2)) (some (.no,p29.2))) fun p31=>bnd (gd v30 true (bnd (F5 p31.1) fun v32=>some (v32,p31.2)) (some (.no,p31.2))) fun p33=>bnd (gd v30 true (bnd (A4 .eql p33.1 (.c (.i .i64 2))) fun v34=>some (v34,p33.2)) (some (.no,p33.2))) fun p35=>bnd (C5 v30 p35.1 (.c (.b false))) fun v36=>bnd (gd v36 true (some (p17.1,p35.2)) (some (.no,p35.2))) fun p37=>bnd (gd v36 true (bnd (D0 2 p37.1 (.c (.i .i64 0))) fun v38=>some (v38,p37.2)) (some (.no,p37.2))) fun p39=>bnd (gd v36 true (bnd (B9 p39.1 1) fun v40=>some (v40,p39.2)) (some (.no,p39.2))) fun p41=>bnd (gd v36 true (bnd (A9 p41.2 p41.1) fun v42=>some (v42,p41.2)) (some (.no,p41.2))) fun p43=>bnd (gd v36 true (bnd (A4 .eql p43.1 (.c (.i .i64 2))) fun v44=>some (v44,p43.2)) (some (.no,p43.2))) fun p45=>bnd (C5 v36 p45.1 (.c (.b false))) fun v46=>bnd (gd v46 true (some (p20.1,p45.2)) (some (.no,p45.2))) fun p47=>bnd (gd v46 true (bnd (F5 p47.1) fun v48=>some (v48,p47.2)) (some (.no,p47.2))) fun p49=>bnd (gd v46 true (bnd (A4 .eql p49.1 (.c (.i .i64 1))) fun v50=>some (v50,p49.2)) (some (.no,p49.2))) fun p51=>bnd (C5 v46 p51.1 (.c (.b false))) fun v52=>bnd (gd v52 true (some (p20.1,p51.2)) (some (.no,p51.2))) fun p53=>bnd (gd v52 true (bnd (D0 3 p53.1 (.c (.i .i64 0))) fun v54=>some (v54,p53.2)) (some (.no,p53.2))) fun p55=>bnd (gd v52 true (bnd (B9 p55.1 0) fun v56=>some (v56,p55.2)) (some (.no,p55.2))) fun p57=>bnd (gd v52 true (bnd (A9 p57.2 p57.1) fun v58=>some (v58,p57.2)) (some (.no,p57.2))) fun p59=>bnd (gd v52 true (bnd (A4 .eql p59.1 (.c (.i .i64 6))) fun v60=>some (v60,p59.2)) (some (.no,p59.2))) fun p61=>bnd (C5 v52 p61.1 (.c (.b false))) fun v62=>bnd (gd v62 true (bnd (A5 p61.2 4 ((.c (.p p2.2.length 0)))) fun v63=>some (v63,p61.2)) (some (.no,p61.2))) fun p64=>bnd (gd v62 true (bnd (B0 ([.i .i64 0,.i .i64 0,.i .i64 0,.i .i64 0,.i .i64 0,.i .i64 0,.i .i64 0,.i .i64 0,.i .i64 0,.i .i64 0,.i .i64 0]) [(0,1,.c (.i .i64 2))]) fun c65=>some ((.a c65),p64.2)) (some (.no,p64.2))) fun p66=>bnd (gd v62 true (bnd (A4j [p64.1,p66.1] p66.2) fun p67=>some (p67.1,p67.2)) (some (.no,p66.2))) fun p68=>bnd (C5 v62 p68.1 (.c (.b false))) fun v69=>some (v69,p68.2):=by kernel_rfl
theorem K_el24_works:FnK Tryz.prog 5 A_el24_works A0S A6p:=.mk' (B3 D4q (B3 B3B (B3 B3D (B3 A7n (B3 B3b (B3 D4g (B3 D39 C3))))))) Tryz.func5 (by kernel_rfl) (by intro n args h;kernel_rfl)
def A2s:Fun:=tidy (Lim A_el24_works A0S)
theorem D4t:SOk Tryz.prog 5 A2s:=K_el24_works.sok
theorem D4s {n:Nat} {args:List Val} {h h2:A0} {v:Val} (he:A6p n args (ro h)=some (v,h2)) (hf:v.flat=true):A2s args h=some (v,h):=K_el24_works.flat he hf
end Go.Proofs.YtdgggnlbdoiloaaGreat
end
section
namespace Go.Proofs.YtdgggnlbdoiloaaGreat
open Go Go.Esc
def d24:List Int:=[5,0,0,0,0,0,0]
def ino24:List UInt8:=D2 (zeros 256) (32 * 0) (J0 2 1 0 1 d24)
def idx24:List UInt8:=I1 1 (6 :: 7 :: zI 30)
def A7C:List UInt8:=W6 [([97],2),([98],3)]
def A7D:List UInt8:=W6 [([98],4)]
def D24a:Dev:=(List.replicate 16 (zeros 256)).set 0 (P7 16 8 0)
def D24b:Dev:=D24a.set 2 ino24
def D24c:Dev:=D24b.set 5 idx24
def D24d:Dev:=D24c.set 6 A7C
def D24:Dev:=D24d.set 7 A7D
theorem C4z:ino24.length=256:=by decide +kernel
theorem C3l:idx24.length=256:=A5o rfl
theorem okD24a:okD D24a:=(C9c 16).set A19
theorem okD24b:okD D24b:=okD24a.set C4z
theorem okD24c:okD D24c:=okD24b.set C3l
theorem okD24d:okD D24d:=okD24c.set A9B
theorem A13:okD D24:=okD24d.set A9B
theorem A9k:D24a.length=16:=by unfold D24a;rw [List.length_set,List.length_replicate]
theorem C52:D24b.length=16:=by unfold D24b;rw [List.length_set,A9k]
theorem C53:D24c.length=16:=by unfold D24c;rw [List.length_set,C52]
theorem C54:D24d.length=16:=by unfold D24d;rw [List.length_set,C53]
theorem C51:D24.length=16:=by unfold D24;rw [List.length_set,C54]
theorem E3y:S1 D24=true:=by decide +kernel
theorem E3B:A1M D24=8:=by decide +kernel
theorem E3A:A1L D24=0:=by decide +kernel
theorem H5y:A1l D24 8 1=A7 2 1 0 1 d24:=by decide +kernel
theorem I0Q:J5 D24 8 2 d24 [98]=some (7,0,4):=by decide +kernel
theorem I0O:W5 D24 8 2 d24=[([97],2),([98],4)]:=by decide +kernel
theorem J5t:R3 D24 8 2 d24 (O7 D24 8 2 d24)=[(6,1,3)]:=by decide +kernel
theorem F1j:W5 D24 8 2 (zI 7)=[]:=by decide +kernel
theorem A5H {g:A0} {D D':Dev} {i q:Nat} {b:List UInt8} {l:List (Option Row)} (hD:okD D) (hb:b.length=256) (hi:i < D.length) (hq:q=i * 256) (he:D.set i b=D') :
    B7 (g ++ some (Row.mk (C9 D) true) :: l) 256 (.c (.p g.length q)) (.a (A3 b))=some (g ++ some (Row.mk (C9 D') true) :: l):=by
  subst hq;subst he
  have s1:=J5o (D:=D) (i:=i) hD hb hi
  rw [W1]
  simp only [List.getElem?_cons_zero,Option.join_some,s1,C6x,List.set_cons_zero]
set_option maxHeartbeats 2000000 in
theorem J5j (h:A0):A4p [] h=some (.c (.sl h.length 0 16 256),h ++ [some ⟨C9 D24,true⟩]):=by
  have key:∀ g,∃ v g',A6o 0 [] g=some (v,g') ∧ Out g.length g' v 256 16 (C9 D24):=by
    intro g
    obtain ⟨G,hG⟩:∃ G,G=g ++ [some (Row.mk [] true)]:=⟨_,rfl⟩
    have lG:G.length=g.length + 1:=by rw [hG];simp
    have mk:U4 (.c (.i .i64 16)) (.c (.i .i64 16))=some 16:=rfl
    have ef1:B0 [Cell.i .i64 0,.i .i64 0,.i .u64 0] [(0,1,.c (.i .i64 16)),(1,1,.c (.i .i64 8))]=some (C4 16 8 0):=rfl
    have hp:=fun h=>D0Y (b:=16) (n:=8) (m:=0) (h:=h) (by omega) (by omega)
    have hm:G7 16 8=true:=by decide
    simp only [hm,cond_true] at hp
    have a0:D0 256 (.c (.sl G.length 0 16 256)) (.c (.i .i64 0))=some (.c (.p G.length 0)):=rfl
    have a2:D0 256 (.c (.sl G.length 0 16 256)) (.c (.i .i64 2))=some (.c (.p G.length 512)):=rfl
    have a5:D0 256 (.c (.sl G.length 0 16 256)) (.c (.i .i64 5))=some (.c (.p G.length 1280)):=rfl
    have a6:D0 256 (.c (.sl G.length 0 16 256)) (.c (.i .i64 6))=some (.c (.p G.length 1536)):=rfl
    have a7:D0 256 (.c (.sl G.length 0 16 256)) (.c (.i .i64 7))=some (.c (.p G.length 1792)):=rfl
    have s0:=A5H (g:=G) (D:=List.replicate 16 (zeros 256)) (i:=0) (q:=0) (l:=[]) (C9c 16) (A19 (b:=16) (n:=8) (m:=0)) (by simp) rfl (show _=D24a from rfl)
    have ef2:B0 [Cell.i .i64 0,.i .i64 0,.i .i64 0,.i .i64 0,.i .i64 0,.i .i64 0,.i .i64 0,.i .i64 0,.i .i64 0,.i .i64 0,.i .i64 0] [(0,1,.c (.i .i64 2)),(1,1,.c (.i .i64 1)),(3,1,.c (.i .i64 1))]=some (A7 2 1 0 1 (zI 7)):=rfl
    have r2:B7 (G ++ [some (Row.mk (C9 D24a) true),some (Row.mk [Cell.i .i64 0,.i .i64 0,.i .i64 0,.i .i64 0,.i .i64 0,.i .i64 0,.i .i64 0,.i .i64 0,.i .i64 0,.i .i64 0,.i .i64 0] true)]) 11 (.c (.p (G.length + 1) 0)) (.a (A7 2 1 0 1 (zI 7)))=some (G ++ [some (Row.mk (C9 D24a) true),some (Row.mk (A7 2 1 0 1 (zI 7)) true)]):=by rw [A1f];rfl
    have fa4:∀ q,B9 (.c (.p q 0)) 4=some (.c (.p q 4)):=fun q=>by simp [B9]
    have ad:∀ q,D7 6 1 (.c (.p q 4)) (.c (.i .i64 0))=some (.c (.p q 4)):=fun q=>rfl
    have r3:F2 (G ++ [some (Row.mk (C9 D24a) true),some (Row.mk (A7 2 1 0 1 (zI 7)) true)]) (.c (.p (G.length + 1) 4)) (.c (.i .i64 5))=some (G ++ [some (Row.mk (C9 D24a) true),some (Row.mk (A7 2 1 0 1 d24) true)]):=by rw [A3G];rfl
    have l2:A5 (G ++ [some (Row.mk (C9 D24a) true),some (Row.mk (A7 2 1 0 1 d24) true)]) 256 (.c (.p G.length 512))=some (.a (A3 (zeros 256))):=by
      rw [R8]
      have hi:2 < D24a.length:=by rw [A9k];omega
      have hc:=A1h okD24a hi
      have e2:D24a[2]=zeros 256:=rfl
      simp only [List.getElem?_cons_zero,Option.join_some,ldN,Option.bind_some]
      rw [if_pos ⟨by rw [Y0 okD24a,A9k];omega,by simp⟩,← e2,← hc]
    have l11:A5 (G ++ [some (Row.mk (C9 D24a) true),some (Row.mk (A7 2 1 0 1 d24) true)]) 11 (.c (.p (G.length + 1) 0))=some (.a (A7 2 1 0 1 d24)):=by rw [W0];rfl
    have hT:∀ h,A3y [.a (A3 (zeros 256)),.c (.i .i64 0),.a (A7 2 1 0 1 d24)] h=some (.t [.a (A3 ino24),.c (.i .i64 0)],h):=fun h=>J9V (j:=0) (k:=2) (l:=1) (s:=0) (p:=1) (d:=d24) (b:=zeros 256) (h:=h) zeros_length rfl (by omega) (by decide)
    have s2:=A5H (g:=G) (D:=D24a) (i:=2) (q:=512) (l:=[some (Row.mk (A7 2 1 0 1 d24) true)]) okD24a C4z (by rw [A9k];omega) rfl (show _=D24b from rfl)
    have ez:[Cell.i .i64 0] ++ List.replicate 32 (Cell.i .i64 0)=encI (0 :: zI 32):=Z3
    have ef3:B0 (encI (0 :: zI 32)) [(0,1,.c (.i .i64 1))]=some (encI (1 :: zI 32)):=rfl
    have r4:B7 (G ++ [some (Row.mk (C9 D24b) true),some (Row.mk (A7 2 1 0 1 d24) true),some (Row.mk (encI (0 :: zI 32)) true)]) 33 (.c (.p (G.length + 2) 0)) (.a (encI (1 :: zI 32)))=some (G ++ [some (Row.mk (C9 D24b) true),some (Row.mk (A7 2 1 0 1 d24) true),some (Row.mk (encI (1 :: zI 32)) true)]):=by rw [A1f];rfl
    have fa1:∀ q,B9 (.c (.p q 0)) 1=some (.c (.p q 1)):=fun q=>by simp [B9]
    have ad0:∀ q,D7 32 1 (.c (.p q 1)) (.c (.i .i64 0))=some (.c (.p q 1)):=fun q=>rfl
    have ad1:∀ q,D7 32 1 (.c (.p q 1)) (.c (.i .i64 1))=some (.c (.p q 2)):=fun q=>rfl
    have r5:F2 (G ++ [some (Row.mk (C9 D24b) true),some (Row.mk (A7 2 1 0 1 d24) true),some (Row.mk (encI (1 :: zI 32)) true)]) (.c (.p (G.length + 2) 1)) (.c (.i .i64 6))=some (G ++ [some (Row.mk (C9 D24b) true),some (Row.mk (A7 2 1 0 1 d24) true),some (Row.mk (encI (1 :: 6 :: zI 31)) true)]):=by rw [A3G];rfl
    have r6:F2 (G ++ [some (Row.mk (C9 D24b) true),some (Row.mk (A7 2 1 0 1 d24) true),some (Row.mk (encI (1 :: 6 :: zI 31)) true)]) (.c (.p (G.length + 2) 2)) (.c (.i .i64 7))=some (G ++ [some (Row.mk (C9 D24b) true),some (Row.mk (A7 2 1 0 1 d24) true),some (Row.mk (encI (1 :: 6 :: 7 :: zI 30)) true)]):=by rw [A3G];rfl
    have l33:A5 (G ++ [some (Row.mk (C9 D24b) true),some (Row.mk (A7 2 1 0 1 d24) true),some (Row.mk (encI (1 :: 6 :: 7 :: zI 30)) true)]) 33 (.c (.p (G.length + 2) 0))=some (.a (encI (1 :: 6 :: 7 :: zI 30))):=by rw [W0];rfl
    have hX:=fun h=>C30 (d:=1) (t:=6 :: 7 :: zI 30) (h:=h) rfl
    have hok:okX 1 (6 :: 7 :: zI 30)=true:=by decide +kernel
    rw [hok,cond_true,cond_true] at hX
    have eX:I1 1 (6 :: 7 :: zI 30)=idx24:=rfl
    rw [eX] at hX
    have s5:=A5H (g:=G) (D:=D24b) (i:=5) (q:=1280) (l:=[some (Row.mk (A7 2 1 0 1 d24) true),some (Row.mk (encI (1 :: 6 :: 7 :: zI 30)) true)]) okD24b C3l (by rw [C52];omega) rfl (show _=D24c from rfl)
    have ef4:B0 [Cell.s [],.i .i64 0] [(0,1,.c (.s [97])),(1,1,.c (.i .i64 2))]=some [.s [97],.i .i64 2]:=rfl
    have ef5:B0 [Cell.s [],.i .i64 0] [(0,1,.c (.s [98])),(1,1,.c (.i .i64 3))]=some [.s [98],.i .i64 3]:=rfl
    have ef6:B0 [Cell.s [],.i .i64 0,.s [],.i .i64 0] [(0,2,.a [.s [97],.i .i64 2]),(2,2,.a [.s [98],.i .i64 3])]=some (F0 [([97],2),([98],3)]):=rfl
    have ef7:B0 [Cell.s [],.i .i64 0] [(0,1,.c (.s [98])),(1,1,.c (.i .i64 4))]=some [.s [98],.i .i64 4]:=rfl
    have ef8:B0 [Cell.s [],.i .i64 0] [(0,2,.a [.s [98],.i .i64 4])]=some (F0 [([98],4)]):=rfl
    have hN1:=B4N (h:=G ++ [some (Row.mk (C9 D24c) true),some (Row.mk (A7 2 1 0 1 d24) true),some (Row.mk (encI (1 :: 6 :: 7 :: zI 30)) true),some (Row.mk (F0 [([97],2),([98],3)]) true)]) (v:=.c (.sl (G.length + 3) 0 2 2)) (nv:=2) (l:=[([97],2),([98],3)]) (Has.tr (by simp) rfl rfl) (by simp)
    have eN1:W6 [([97],2),([98],3)]=A7C:=rfl
    rw [eN1] at hN1
    have s6:=A5H (g:=G) (D:=D24c) (i:=6) (q:=1536) (l:=[some (Row.mk (A7 2 1 0 1 d24) true),some (Row.mk (encI (1 :: 6 :: 7 :: zI 30)) true),some (Row.mk (F0 [([97],2),([98],3)]) true)]) okD24c (b:=A7C) A9B (by rw [C53];omega) rfl (show D24c.set 6 A7C=D24d from rfl)
    have hN2:=B4N (h:=G ++ [some (Row.mk (C9 D24d) true),some (Row.mk (A7 2 1 0 1 d24) true),some (Row.mk (encI (1 :: 6 :: 7 :: zI 30)) true),some (Row.mk (F0 [([97],2),([98],3)]) true),some (Row.mk (F0 [([98],4)]) true)]) (v:=.c (.sl (G.length + 4) 0 1 2)) (nv:=1) (l:=[([98],4)]) (Has.tr (by simp) rfl rfl) (by simp)
    have eN2:W6 [([98],4)]=A7D:=rfl
    rw [eN2] at hN2
    have s7:=A5H (g:=G) (D:=D24d) (i:=7) (q:=1792) (l:=[some (Row.mk (A7 2 1 0 1 d24) true),some (Row.mk (encI (1 :: 6 :: 7 :: zI 30)) true),some (Row.mk (F0 [([97],2),([98],3)]) true),some (Row.mk (F0 [([98],4)]) true)]) okD24d (b:=A7D) A9B (by rw [C54];omega) rfl (show D24d.set 7 A7D=D24 from rfl)
    rw [D2v]
    simp only [J4l,ez]
    refine ⟨.c (.sl G.length 0 16 256),G ++ [some (Row.mk (C9 D24) true),some (Row.mk (A7 2 1 0 1 d24) true),some (Row.mk (encI (1 :: 6 :: 7 :: zI 30)) true),some (Row.mk (F0 [([97],2),([98],3)]) true),some (Row.mk (F0 [([98],4)]) true)],?_,by rw [Y0 A13,C51],G.length,rfl,by omega,by simp⟩
    generalize C9 D24=q1 at *
    generalize C9 D24a=q2 at *
    generalize C9 D24b=q3 at *
    generalize C9 D24c=q4 at *
    generalize C9 D24d=q5 at *
    generalize encI (0 :: zI 32)=x0 at *
    generalize encI (1 :: zI 32)=x1 at *
    generalize encI (1 :: 6 :: zI 31)=x2 at *
    generalize encI (1 :: 6 :: 7 :: zI 30)=x3 at *
    generalize A7 2 1 0 1 (zI 7)=i0 at *
    generalize A7 2 1 0 1 d24=i1 at *
    generalize F0 [([97],2),([98],3)]=e1 at *
    generalize F0 [([98],4)]=e2 at *
    generalize A3 (zeros 256)=z at *
    simp only [K3,A1C,List.getElem?_cons_zero,List.getElem?_cons_succ,Option.map_some,A12,A11,mk,ef1,hp,← hG,a0,s0,ef2,List.append_assoc,List.cons_append,List.nil_append,List.append_nil,List.length_append,List.length_cons,List.length_nil,Nat.zero_add,Nat.reduceAdd,r2,fa4,ad,r3,a2,l2,l11,hT,C9K,s2,ef3,r4,fa1,ad0,r5,ad1,r6,l33,hX,a5,s5,ef4,ef5,ef6,hN1,a6,s6,ef7,ef8,hN2,a7,s7]
  obtain ⟨v,g',e,ho⟩:=key (ro h)
  exact D4r e (by simpa [L6] using ho) (B1X)
set_option maxHeartbeats 2000000 in
theorem B0k (h:A0):A2s [] h=some (.c (.b true),h):=by
  have key:∀ g,∃ g',A6p 0 [] g=some (.c (.b true),g'):=by
    intro g
    have l16:=C51
    have hS:=J5j g
    obtain ⟨f,t,hO,hv⟩:=D1S (v:=.c (.sl g.length 0 16 256)) (h:=g ++ [some (Row.mk (C9 D24) true)]) (D:=D24) (by rw [l16];exact Has.tr (by simp) (by rw [Y0 A13,l16]) (A5y _)) A13 E3y (by rw [l16];omega)
    rw [E3B,E3A] at hO
    obtain ⟨H,hH⟩:∃ H,H=g ++ [some (Row.mk (C9 D24) true)] ++ t:=⟨_,rfl⟩
    rw [← hH] at hO hv
    obtain ⟨V,hV⟩:∃ V,V=vwC D24.length 8 0 f:=⟨_,rfl⟩
    have hVl:V.length=4:=by rw [hV];rfl
    have hS4:B7 (H ++ [some (Row.mk [.i .i64 0,.i .i64 0,.i .u64 0,.nf] true)]) 4 (.c (.p H.length 0)) (.a V)=some (H ++ [some (Row.mk V true)]):=by rw [hV,W1];rfl
    have hI:=D1H (n:=8) (m:=0) (i:=1) (h:=H ++ [some (Row.mk V true)]) A13 (hv.more _)
    rw [H5y,← hV] at hI
    obtain ⟨I,hIe⟩:∃ I,I=A7 2 1 0 1 d24:=⟨_,rfl⟩
    have hIl:I.length=11:=by rw [hIe];rfl
    have hL:=A7V (n:=8) (m:=0) (k:=2) (l:=1) (s:=0) (p:=1) (d:=d24) (nm:=[98]) (h:=H ++ [some (Row.mk V true),some (Row.mk I true)]) A13 rfl (hv.more _) (by decide)
    rw [I0Q,← hV,← hIe] at hL
    have hLi:=B6v (n:=8) (m:=0) (k:=2) (l:=1) (s:=0) (p:=1) (d:=d24) (h:=H ++ [some (Row.mk V true),some (Row.mk I true),some (Row.mk (E2 (some (7,0,4))) true)]) A13 rfl (hv.more _)
    rw [I0O,← hV,← hIe] at hLi
    have hSt:=E6C (n:=8) (m:=0) (k:=2) (l:=1) (s:=0) (p:=1) (d:=d24) (h:=H ++ [some (Row.mk V true),some (Row.mk I true),some (Row.mk (E2 (some (7,0,4))) true),some (Row.mk (F0 [([97],2),([98],4)]) true)]) A13 rfl (hv.more _)
    rw [J5t,← hV,← hIe] at hSt
    obtain ⟨v,t3,b1,b2,b3⟩:=hSt
    obtain ⟨rfl,rfl⟩:t3=[some ⟨R2 [(6,1,3)],true⟩] ∧ v=.c (.sl (H ++ [some (Row.mk V true),some (Row.mk I true),some (Row.mk (E2 (some (7,0,4))) true),some (Row.mk (F0 [([97],2),([98],4)]) true)]).length 0 1 3):=by
      rcases b3 with ⟨_,_,h0,_⟩ | b3
      · cases h0
      · exact b3
    have hE:=E3O (n:=8) (m:=0) (k:=2) (l:=0) (s:=0) (p:=0) (d:=zI 7) (h:=H ++ [some (Row.mk V true),some (Row.mk I true),some (Row.mk (E2 (some (7,0,4))) true),some (Row.mk (F0 [([97],2),([98],4)]) true),some (Row.mk (R2 [(6,1,3)]) true)]) A13 rfl (hv.more _)
    rw [F1j,← hV] at hE
    have ez:A7 0 0 0 0 (zI 7)=[Cell.i .i64 0,.i .i64 0,.i .i64 0,.i .i64 0,.i .i64 0,.i .i64 0,.i .i64 0,.i .i64 0,.i .i64 0,.i .i64 0,.i .i64 0]:=rfl
    have lz:[Cell.i .i64 0,.i .i64 0,.i .i64 0,.i .i64 0,.i .i64 0,.i .i64 0,.i .i64 0,.i .i64 0,.i .i64 0,.i .i64 0,.i .i64 0].length=11:=rfl
    have ef1:B0 [Cell.i .i64 0,.i .i64 0,.i .i64 0] [(0,1,.c (.i .i64 7)),(1,1,.c (.i .i64 0)),(2,1,.c (.i .i64 4))]=some (E2 (some (7,0,4))):=rfl
    have ef2:B0 [Cell.i .i64 0,.i .i64 0,.i .i64 0,.i .i64 0,.i .i64 0,.i .i64 0,.i .i64 0,.i .i64 0,.i .i64 0,.i .i64 0,.i .i64 0] [(0,1,.c (.i .i64 2))]=some (A7 2 0 0 0 (zI 7)):=rfl
    have ea:=A5A (neg:=false) (7,0,4) (7,0,4)
    rw [decide_eq_true rfl,cond_false] at ea
    have pl:(E2 (some (7,0,4))).length=3:=rfl
    have z3:[Cell.i .i64 0,.i .i64 0,.i .i64 0].length=3:=rfl
    have ad2:∀ q,D0 2 (.c (.sl q 0 2 2)) (.c (.i .i64 0))=some (.c (.p q 0)):=fun q=>rfl
    have ad3:∀ q,D0 3 (.c (.sl q 0 1 3)) (.c (.i .i64 0))=some (.c (.p q 0)):=fun q=>rfl
    have g1:ld1 (some (Row.mk (F0 [([97],2),([98],4)]) true)) 1=some (.c (.i .i64 2)):=rfl
    have g2:ld1 (some (Row.mk (R2 [(6,1,3)]) true)) 0=some (.c (.i .i64 6)):=rfl
    have e21:[(([97]:List UInt8),(2:Int)),([98],4)].length=2:=rfl
    have e11:[((6:Int),(1:Nat),(3:Int))].length=1:=rfl
    have c2:((2:Nat):Int)=2:=rfl
    have c1:((1:Nat):Int)=1:=rfl
    rw [← hV] at hO
    rw [D2w]
    generalize A7 2 0 0 0 (zI 7)=I2 at *
    generalize E2 (some (7,0,4))=pc at *
    generalize F0 [([97],2),([98],4)]=en at *
    generalize R2 [(6,1,3)]=ps at *
    rw [← hIe] at hI
    refine ⟨H ++ [some (Row.mk V true),some (Row.mk I true),some (Row.mk pc true),some (Row.mk en true),some (Row.mk ps true)],?_⟩
    simp only [e21,e11,List.length_append,List.length_cons,List.length_nil,Nat.zero_add,Nat.reduceAdd,List.append_assoc,List.cons_append,List.nil_append] at hLi b1
    simp only [esc,Nat.reduceAdd,W0,R8,A3C,A1d,A1f,W1,P4,A37,eq_self,hS,hO,hS4,hVl,hI,hIl,lz,hL,z3,pl,hLi,b1,Option.isSome_some,ef1,ea,e21,c2,ad2,g1,c1,ad3,g2,ef2,hE,beq_self_eq_true]
  obtain ⟨g',e⟩:=key (ro h)
  exact D4s e rfl
end Go.Proofs.YtdgggnlbdoiloaaGreat
end
noncomputable section
namespace Go.Proofs.YtdgggnlbdoiloaaGreat
open Go Go.Esc
set_option maxRecDepth 100000
def B7y:List AOper:=[aO 2 (.nilrow 256)]
def E8w:ACode:=.ops B7y
def B7z:List AOper:=[aO 3 (.nilrow 256)]
def E8y:ACode:=.ops B7z
def B7A:List AOper:=[aO 4 (.mv (.v (.c (.i .i64 0))))]
def E8Q:ACode:=.ops B7A
def B7B:List AOper:=[aO 5 (.mv (.t 4)),aO 6 (.mv (.t 0)),aO 7 (.len (.t 6)),aO 8 (.bin .lss (.t 5) (.t 7))]
def E8S:ACode:=.ops B7B
def E8U:ACode:=.cond (.t 8) .skip (.exit 0)
def E8W:ACode:=.seq [0,3,4,8] E8S E8U
def B7C:List AOper:=[aO 11 (.mv (.t 3)),aO 12 (.mv (.t 0)),aO 13 (.mv (.t 4)),aO 14 (.iAddrL 256 (.t 12) (.t 13)),aO 15 (.loadN 256 (.t 14)),aO 16 (.buildSl 256 1 (List.replicate 256 (.i .u8 0)) [(0,256,(.t 15))]),aO 17 (.app 256 (.t 11) (.t 16)),aO 3 (.mv (.t 17))]
def E8Y:ACode:=.ops B7C
def E80:ACode:=.block 1 E8Y
def B7D:List AOper:=[aO 9 (.mv (.t 4)),aO 10 (.bin .add (.t 9) (.v (.c (.i .i64 1)))),aO 4 (.mv (.t 10))]
def E82:ACode:=.ops B7D
def E84:ACode:=.seq [0,3,4] E80 E82
def E8z:ACode:=.seq [0,3,4] E8W E84
def E8A:ACode:=.loop [0,3,4] E8z
def E8C:ACode:=.block 0 E8A
def E8E:ACode:=.seq [0,3,4] E8Q E8C
def B7E:List AOper:=[aO 18 (.mv (.t 3)),aO 2 (.mv (.t 18))]
def E8G:ACode:=.ops B7E
def E8I:ACode:=.seq [2] E8G .ret
def E8J:ACode:=.seq [3] E8E E8I
def E8L:ACode:=.seq [0,3] E8y E8J
def E8N:ACode:=.seq [0] E8w E8L
def A_el21_To:AFn:=⟨E8N,[.tmp 2]⟩
def A0R:B6:=C1
def E8x (n:Nat):SmV:=A2 A0R B7y
def E8P (n:Nat):SmV:=A2 A0R B7z
def E8R (n:Nat):SmV:=A2 A0R B7A
def E8T (n:Nat):SmV:=A2 A0R B7B
def E8V (n:Nat):SmV:=B8 (.t 8) C0 (E3 0)
def E8X (n:Nat):SmV:=A1 [0,3,4,8] (E8T n) (E8V n)
def E8Z (n:Nat):SmV:=A2 A0R B7C
def E81 (n:Nat):SmV:=C6 1 (E8Z n)
def E83 (n:Nat):SmV:=A2 A0R B7D
def E85 (n:Nat):SmV:=A1 [0,3,4] (E81 n) (E83 n)
def B7v (n:Nat):SmV:=A1 [0,3,4] (E8X n) (E85 n)
def E8B (n:Nat):SmV:=E4 n [0,3,4] (B7v n)
def E8D (n:Nat):SmV:=C6 0 (E8B n)
def E8F (n:Nat):SmV:=A1 [0,3,4] (E8R n) (E8D n)
def E8H (n:Nat):SmV:=A2 A0R B7E
def B7w (n:Nat):SmV:=A1 [2] (E8H n) A8
def E8K (n:Nat):SmV:=A1 [3] (E8F n) (B7w n)
def E8M (n:Nat):SmV:=A1 [0,3] (E8P n) (E8K n)
def E8O (n:Nat):SmV:=A1 [0] (E8x n) (E8M n)
def A76 (n:Nat):AExit → Env → A0 → A6:=fun x e h=>match x with | .normal=>hold ((B7w n) A_el21_To.fin (e.keep [3]) h) | .exit id=>A_el21_To.fin (.exit id) e h | .ret=>A_el21_To.fin .ret e h
def E86 (n:Nat):AExit → Env → A0 → A6:=fun x e h=>match x with | .exit i=>bif Nat.beq i 0 then (A76 n) .normal e h else (A76 n) (.exit i) e h | .normal=>(A76 n) .normal e h | .ret=>(A76 n) .ret e h
def A77 (n m:Nat) (x0 x3 x4:Val) (h:A0):A6:=E1 (B7v n) [0,3,4] (E86 n) m [(0,x0),(3,x3),(4,x4)] h
def A6m (n:Nat) (args:List Val) (h:A0):A6:=(E8O n) A_el21_To.fin (params 0 args) h
theorem D2t (n:Nat) (a0:Val) (h:A0):A6m n [a0] h=A77 n n a0 ((.c (.sl ((h ++ [some (Row.mk ([]) true)])).length 0 0 256))) (.c (.i .i64 0)) (((h ++ [some (Row.mk ([]) true)]) ++ [some (Row.mk ([]) true)])):=by kernel_rfl
theorem B7x (n m:Nat) (x0 x3 x4:Val) (h:A0):A77 n (m + 1) x0 x3 x4 h=bnd (F5 x0) fun v1=>bnd (A4 .lss x4 v1) fun v2=>cnd v2 (bnd (D0 256 x0 x4) fun v3=>bnd (A5 h 256 v3) fun v4=>bnd (B0 (List.replicate 256 (.i .u8 0)) [(0,256,v4)]) fun c5=>bnd (E5 ((h ++ [some (Row.mk (c5) true)])) 256 x3 ((.c (.sl h.length 0 1 256)))) fun p6=>bnd (A4 .add x4 (.c (.i .i64 1))) fun v7=>A77 n m x0 p6.1 v7 p6.2) (some (x3,h)):=by kernel_rfl
theorem K_el21_To:FnK Tryz.prog 7 A_el21_To A0R A6m:=.mk' (C3) Tryz.func7 (by kernel_rfl) (by intro n args h;kernel_rfl)
def A4o:Fun:=tidy (Lim A_el21_To A0R)
theorem D4m:SOk Tryz.prog 7 A4o:=K_el21_To.sok
theorem D4n {n:Nat} {args:List Val} {h h2:A0} {v:Val} {sz k:Nat} {cs:List Cell} (he:A6m n args (ro h)=some (v,h2)) (ho:Out h.length h2 v sz k cs) (hf:D9 cs=true):A4o args h=some (.c (.sl h.length 0 k sz),h ++ [some ⟨cs,true⟩]):=K_el21_To.out he ho hf
end Go.Proofs.YtdgggnlbdoiloaaGreat
end
section
namespace Go.Proofs.YtdgggnlbdoiloaaGreat
open Go Go.Esc
theorem H0U {h:A0} {v:Val} {D:Dev} (hv:Has h v 256 D.length (C9 D)) (hD:okD D) {i:Nat} (hi:i < D.length) :
    ∃ id off,v=.c (.sl id off D.length 256) ∧ id < h.length ∧ D0 256 v (.c (.i .i64 (i:Int)))=some (.c (.p id (off + i * 256))) ∧ A5 h 256 (.c (.p id (off + i * 256)))=some (.a (A3 D[i])):=by
  obtain ⟨id,off,rfl,hid,_,h2⟩:=hv.sl (by omega)
  refine ⟨id,off,rfl,hid,I9 hi,?_⟩
  rw [h2 (i * 256) 256 (by rw [Y0 hD];omega),A1h hD hi]
theorem D6V {b:List UInt8} (hb:b.length=256):B0 (List.replicate 256 (Cell.i .u8 0)) [(0,256,.a (A3 b))]=some (A3 b):=by
  have hl:(A3 b).length=256:=by rw [B4,hb]
  have hz:(List.replicate 256 (Cell.i .u8 0)).length=256:=List.length_replicate
  generalize List.replicate 256 (Cell.i .u8 0)=z at *
  generalize A3 b=y at *
  simp only [B0,X9,Option.bind_some]
  rw [if_pos ⟨hl,by omega⟩]
  simp only [lay_all (by omega:y.length=z.length)]
theorem D1F {g:A0} {D:Dev} {v:Val} {q:Nat} (hv:Has g v 256 D.length (C9 D)) (hD:okD D) (h60:D.length ≤ 1073741823):∀ (e i m id:Nat) (h:A0),i + e=D.length → e < m → Low g.length g h → g.length ≤ id → rd h id=some ⟨C9 (D.take i),true⟩ →
    ∃ v' h',A77 q m v (.c (.sl id 0 i 256)) (.c (.i .i64 (i:Int))) h=some (v',h') ∧ Out g.length h' v' 256 D.length (C9 D)
  | e,i,0,id,h,_,hm,_,_,_=>by omega
  | 0,i,m + 1,id,h,hi,hm,hlow,hid,hr=>by
    have e0:i=D.length:=by omega
    have c0:¬ (i:Int) < (D.length:Nat):=by omega
    have hl:=(hv.since hlow).len
    rw [e0,List.take_length] at hr
    rw [B7x]
    exact ⟨_,_,by simp only [esc,hl,c0] <;> rfl,Y0 hD,id,by rw [e0],hid,hr⟩
  | e + 1,i,m + 1,id,h,hi,hm,hlow,hid,hr=>by
    have hil:i < D.length:=by omega
    have c0:(i:Int) < (D.length:Nat):=by omega
    have hvh:=hv.since hlow
    have hl:=hvh.len
    obtain ⟨jd,off,e1,hj,a1,l1⟩:=H0U hvh hD hil
    have ef:=D6V (hD.at hil)
    have htl:(D.take i).length=i:=by rw [List.length_take];omega
    obtain ⟨h',p1,p2,p3,p4,p5⟩:=push (ys:=A3 D[i]) hlow hr (by rw [Y0 (hD.take i),htl]) hid (by rw [B4,hD.at hil]) (by omega) (by omega)
    have et:C9 (D.take i) ++ A3 D[i]=C9 (D.take (i + 1)):=by
      rw [List.take_succ_eq_append_getElem hil,E3m,E3n]
    rw [et] at p2
    obtain ⟨v',h'',f1,f2⟩:=D1F (q:=q) hv hD h60 e (i + 1) m (h.length + 1) h' (by omega) (by omega) p3 p4 p2
    refine ⟨v',h'',?_,f2⟩
    rw [B7x]
    generalize A3 D[i]=y at *
    simp only [esc,hl,c0,a1,l1,ef,p1,E6 (show i + 1 < 9223372036854775808 by omega)]
    exact f1
theorem J93 {v:Val} {D:Dev} {h:A0} (hv:Has h v 256 D.length (C9 D)) (hD:okD D) (h60:D.length ≤ 1073741823):A4o [v] h=some (.c (.sl h.length 0 D.length 256),h ++ [some ⟨C9 D,true⟩]):=by
  have key:∀ g,Has g v 256 D.length (C9 D) → ∃ v' g',A6m (D.length + 1) [v] g=some (v',g') ∧ Out g.length g' v' 256 D.length (C9 D):=by
    intro g hv
    obtain ⟨v',h',f1,f2⟩:=D1F (q:=D.length + 1) hv hD h60 D.length 0 (D.length + 1) (g.length + 1) (g ++ [some (Row.mk [] true),some (Row.mk [] true)]) (by omega) (by omega) ((Low.refl (Nat.le_refl _)).new _) (by omega) (by simp [C9])
    rw [D2t]
    exact ⟨v',h',by simp only [esc];exact f1,f2⟩
  obtain ⟨v',g',e,ho⟩:=key (ro h) hv.ro
  exact D4n e (by simpa [L6] using ho) B1X
end Go.Proofs.YtdgggnlbdoiloaaGreat
end
section
namespace Go.Proofs.YtdgggnlbdoiloaaGreat
open Go Go.Esc
theorem J32 {b n m:Int} {h:A0} (hm0:0 ≤ m) (hm1:m < 18446744073709551616):A4u [.a (C4 b n m)] h=some (.c (.sl h.length 0 256 1),h ++ [some ⟨A3 (P7 b n m),true⟩]):=by
  have key:∀ g,∃ v g',A6u 0 [.a (C4 b n m)] g=some (v,g') ∧ Out g.length g' v 1 256 (A3 (P7 b n m)):=by
    intro g
    have e7:B0 [Cell.i .u8 0,.i .u8 0,.i .u8 0,.i .u8 0,.i .u8 0,.i .u8 0,.i .u8 0,.i .u8 0] [(0,1,.c (.i .u8 101)),(1,1,.c (.i .u8 115)),(2,1,.c (.i .u8 99)),(3,1,.c (.i .u8 104)),(4,1,.c (.i .u8 101)),(5,1,.c (.i .u8 97)),(6,1,.c (.i .u8 116)),(7,1,.c (.i .u8 49))]=some (A3 magicB):=rfl
    have lm:magicB.length=8:=rfl
    obtain ⟨c0,hc0⟩:∃ c0:Option Row,c0=some ⟨C4 b n m,true⟩:=⟨_,rfl⟩
    have hmk:=B3V (h:=g ++ [some ⟨C4 b n m,true⟩,some ⟨[],true⟩,some ⟨A3 magicB,true⟩]) (id:=g.length + 2) (off:=0) (len:=8) (sz:=1) (cs:=A3 magicB) (by simp) (by omega)
    have b1:=fun h=>A7N (w:=2) (v:=b) (h:=h) (by omega)
    have b2:=fun h=>A7N (w:=2) (v:=n) (h:=h) (by omega)
    have b3:=fun h=>B2F (w:=8) (v:=m) (h:=h) (by omega) hm0 hm1
    have hmlt:=A9p (s:=E8 b n m)
    have b4:=fun h=>B2F (w:=4) (v:=(K0 (E8 b n m):Nat)) (h:=h) (by omega) (by omega) (by omega)
    have p1:=R9 (h:=g ++ [some ⟨C4 b n m,true⟩,some ⟨[],true⟩,some ⟨A3 magicB,true⟩,some ⟨A3 (B5 2 b),true⟩]) (id:=g.length + 2) (jd:=g.length + 3) (n:=8) (m:=2) (sz:=1) (cs:=A3 magicB) (ys:=A3 (B5 2 b)) (rw:=true) (by simp) (by simp [B4,lm]) (by simp) (by simp [B4]) rfl (by omega) (by omega)
    have p2:=R9 (h:=g ++ [some ⟨C4 b n m,true⟩,some ⟨[],true⟩,none,some ⟨A3 (B5 2 b),true⟩,some ⟨A3 magicB ++ A3 (B5 2 b),true⟩,some ⟨A3 (B5 2 n),true⟩]) (id:=g.length + 4) (jd:=g.length + 5) (n:=10) (m:=2) (sz:=1) (cs:=A3 magicB ++ A3 (B5 2 b)) (ys:=A3 (B5 2 n)) (rw:=true) (by simp) (by simp [B4,lm]) (by simp) (by simp [B4]) rfl (by omega) (by omega)
    have p3:=R9 (h:=g ++ [some ⟨C4 b n m,true⟩,some ⟨[],true⟩,none,some ⟨A3 (B5 2 b),true⟩,none,some ⟨A3 (B5 2 n),true⟩,some ⟨A3 magicB ++ A3 (B5 2 b) ++ A3 (B5 2 n),true⟩,some ⟨A3 (B5 8 m),true⟩]) (id:=g.length + 6) (jd:=g.length + 7) (n:=12) (m:=8) (sz:=1) (cs:=A3 magicB ++ A3 (B5 2 b) ++ A3 (B5 2 n)) (ys:=A3 (B5 8 m)) (rw:=true) (by simp) (by simp [B4,lm]) (by simp) (by simp [B4]) rfl (by omega) (by omega)
    have eS:A3 magicB ++ A3 (B5 2 b) ++ A3 (B5 2 n) ++ A3 (B5 8 m)=A3 (E8 b n m):=by unfold E8;simp only [W3]
    rw [eS] at p3
    have hstr:=(Has.tr (h:=g ++ [some ⟨C4 b n m,true⟩,some ⟨[],true⟩,none,some ⟨A3 (B5 2 b),true⟩,none,some ⟨A3 (B5 2 n),true⟩,none,some ⟨A3 (B5 8 m),true⟩,some ⟨A3 (E8 b n m),true⟩]) (id:=g.length + 8) (sz:=1) (n:=20) (cs:=A3 (E8 b n m)) (by simp) (by rw [B4,V1]) (I3 _)).str
    have hmx:=fun h=>C9X (s:=E8 b n m) (h:=h) (by rw [V1];omega)
    have p4:=R9 (h:=g ++ [some ⟨C4 b n m,true⟩,some ⟨[],true⟩,none,some ⟨A3 (B5 2 b),true⟩,none,some ⟨A3 (B5 2 n),true⟩,none,some ⟨A3 (B5 8 m),true⟩,some ⟨A3 (E8 b n m),true⟩,some ⟨A3 (B5 4 (K0 (E8 b n m):Nat)),true⟩]) (id:=g.length + 8) (jd:=g.length + 9) (n:=20) (m:=4) (sz:=1) (cs:=A3 (E8 b n m)) (ys:=A3 (B5 4 (K0 (E8 b n m):Nat))) (rw:=true) (by simp) (by rw [B4,V1]) (by simp) (by simp [B4]) rfl (by omega) (by omega)
    rw [← W3] at p4
    have mk:U4 (.c (.i .i64 256)) (.c (.i .i64 256))=some 256:=rfl
    have rz:=A5E 256
    have l24:(E8 b n m ++ B5 4 (K0 (E8 b n m):Nat)).length=24:=by rw [List.length_append,V1,A1g]
    have hL:=C9T (h:=g ++ [some ⟨C4 b n m,true⟩,some ⟨[],true⟩,none,some ⟨A3 (B5 2 b),true⟩,none,some ⟨A3 (B5 2 n),true⟩,none,some ⟨A3 (B5 8 m),true⟩,none,some ⟨A3 (B5 4 (K0 (E8 b n m):Nat)),true⟩,some ⟨A3 (E8 b n m ++ B5 4 (K0 (E8 b n m):Nat)),true⟩,some ⟨A3 (zeros 256),true⟩]) (v:=.c (.sl (g.length + 11) 0 256 1)) (nv:=256) (l:=zeros 256) (u:=.c (.sl (g.length + 10) 0 24 1)) (nu:=24) (data:=E8 b n m ++ B5 4 (K0 (E8 b n m):Nat)) (Has.tr (by simp) (by rw [B4];exact zeros_length) (I3 _)) (Has.tr (by simp) (by rw [B4,l24]) (I3 _)) (a:=0) (by omega) (by rw [zeros_length];omega)
    have eL:S8 (zeros 256) 0 (E8 b n m ++ B5 4 (K0 (E8 b n m):Nat))=P7 b n m:=by
      have h1:=C5X (l:=zeros 256) (xs:=E8 b n m ++ B5 4 (K0 (E8 b n m):Nat)) (a:=0) (by rw [l24,zeros_length];omega)
      have h2:=A9W (l:=[]) (xs:=E8 b n m ++ B5 4 (K0 (E8 b n m):Nat)) (a:=0) (by simp) (by rw [l24];omega)
      rw [show ((0:Nat):Int)=0 from rfl] at h1
      rw [h1,← B2w,h2,List.length_nil,Nat.sub_self,show zeros 0=[] from rfl,List.append_nil,List.nil_append,P7]
    have zl:(zeros 256).length=256:=zeros_length
    rw [eL,zl] at hL
    simp only [esc,Int.cast_ofNat_Int] at p1 p2 p3 p4 hL b1 b2 b3 b4
    rw [D2K]
    generalize zeros 256=z at *
    exact ⟨_,_,by simp only [esc,esh,Nat.reduceAdd,Nat.reduceMul,Nat.reduceLT,e7,hmk,b1,p1,b2,p2,b3,p3,hstr,hmx,b4,p4,mk,rz,hL] <;> rfl,by rw [B4,A19],_,rfl,by omega,by simp⟩
  obtain ⟨v,g',e,ho⟩:=key (ro h)
  exact D4N e (by simpa [L6] using ho) (by simp)
end Go.Proofs.YtdgggnlbdoiloaaGreat
end
section
namespace Go.Proofs.YtdgggnlbdoiloaaGreat
open Go Go.Esc
theorem J31 {v:Val} {nv:Nat} {b:List UInt8} {h:A0} (hv:Has h v 1 nv (A3 b)) (hb:b.length=256):A4t [v] h=some (.t [.a (Y4 b),.c (.b (okS b))],h):=by
  have key:∀ g,Has g v 1 nv (A3 b) → ∃ g',A6s 0 [v] g=some (.t [.a (Y4 b),.c (.b (okS b))],g'):=by
    intro g hv
    have hv1:=hv.more [some ⟨C4 0 0 0,true⟩]
    have hg:=C9R hv1 (a:=12) (w:=8) (by omega)
    have gN:A0m b 12 8=some (le ((b.drop 12).take 8)):=by
      unfold A0m
      rw [hb,if_pos ⟨by omega,by decide⟩];rfl
    rw [gN] at hg
    simp only [Option.getD_some,Option.isSome_some] at hg
    have e12:((le ((b.drop 12).take 8):Nat):Int)=fieldN b 12 8:=rfl
    rw [e12] at hg
    have a1:=A5D hv1 (a:=8) (w:=2) hb
    have a2:=A5D hv1 (a:=10) (w:=2) hb
    have f1:=A7z (a:=8) (w:=2) hb (by omega) (by omega) (by omega)
    have f2:=A7z (a:=10) (w:=2) hb (by omega) (by omega) (by omega)
    simp only [Int.cast_ofNat_Int] at f1 f2
    rw [f1] at a1
    rw [f2] at a2
    have ef:∀ x y z:Int,B0 (C4 0 0 0) [(0,1,.c (.i .i64 x)),(1,1,.c (.i .i64 y)),(2,1,.c (.i .u64 z))]=some (C4 x y z):=fun _ _ _=>rfl
    have ef0:B0 (C4 0 0 0) []=some (C4 0 0 0):=rfl
    have hm:=fun h=>A3f (b:=fieldN b 8 2) (n:=fieldN b 10 2) (m:=fieldN b 12 8) (h:=h)
    have hp:=fun h=>J32 (b:=fieldN b 8 2) (n:=fieldN b 10 2) (m:=fieldN b 12 8) (h:=h) (A8J b).1 (A8J b).2
    have hS:=A95 (h:=g ++ [some ⟨C4 0 0 0,true⟩,some ⟨C4 (fieldN b 8 2) (fieldN b 10 2) (fieldN b 12 8),true⟩,some ⟨A3 (P7 (fieldN b 8 2) (fieldN b 10 2) (fieldN b 12 8)),true⟩]) (v:=.c (.sl (g.length + 2) 0 256 1)) (nv:=256) (u:=v) (nu:=nv) (l:=P7 (fieldN b 8 2) (fieldN b 10 2) (fieldN b 12 8)) (r:=b)
      (Has.tr (by simp) (by rw [B4,A19]) (I3 _)) (hv.more _) (by rw [A19];omega)
    rw [D2I]
    unfold Y4 okS
    cases c:G7 (fieldN b 8 2) (fieldN b 10 2) with
    | false =>
      simp only [c] at hm
      exact ⟨_,by simp only [esc,esh,Nat.reduceAdd,Nat.reduceMul,Nat.reduceLT,hg,a1,a2,ef,ef0,hm,Bool.false_and] <;> rfl⟩
    | true =>
      simp only [c] at hm
      cases c2:decide (P7 (fieldN b 8 2) (fieldN b 10 2) (fieldN b 12 8)=b) with
      | false =>
        rw [c2] at hS
        exact ⟨_,by simp only [esc,esh,Nat.reduceAdd,Nat.reduceMul,Nat.reduceLT,hg,a1,a2,ef,ef0,hm,hp,hS,Bool.and_false] <;> rfl⟩
      | true =>
        rw [c2] at hS
        exact ⟨_,by simp only [esc,esh,Nat.reduceAdd,Nat.reduceMul,Nat.reduceLT,hg,a1,a2,ef,ef0,hm,hp,hS,Bool.and_true] <;> rfl⟩
  obtain ⟨g',e⟩:=key (ro h) hv.ro
  refine D4J e ?_
  unfold Y4
  cases okS b <;> simp
end Go.Proofs.YtdgggnlbdoiloaaGreat
end
noncomputable section
namespace Go.Proofs.YtdgggnlbdoiloaaGreat
open Go Go.Esc
set_option maxRecDepth 100000
def C1O:List AOper:=[aO 2 (.alloc ([.i .i64 0,.i .i64 0,.i .u64 0])),aO 3 (.mv (.v (.c (.b false))))]
def G5s:ACode:=.ops C1O
def C1P:List AOper:=[aO 6 (.mv (.t 0)),aO 7 (.len (.t 6)),aO 8 (.bin .eql (.t 7) (.v (.c (.i .i64 0))))]
def G5u:ACode:=.ops C1P
def C1Q:List AOper:=[aO 9 (.build ([.i .i64 0,.i .i64 0,.i .u64 0]) []),{ dst:=none,op:=.storeN 3 (.t 2) (.t 9) },aO 3 (.mv (.v (.c (.b false))))]
def G5M:ACode:=.ops C1Q
def G5O:ACode:=.seq [2,3] G5M .ret
def G5Q:ACode:=.cond (.t 8) G5O .skip
def G5S:ACode:=.seq [0,2,8] G5u G5Q
def C1R:List AOper:=[aO 11 (.mv (.t 0)),aO 12 (.iAddrL 256 (.t 11) (.v (.c (.i .i64 0)))),aO 13 (.slA 256 1 (.t 12) none none),aO 14 (.call 27 [(.t 13)]),aO 10 (.mv (.t 14)),aO 15 (.ext (.t 10) 0),aO 16 (.ext (.t 10) 1),aO 4 (.alloc ([.i .i64 0,.i .i64 0,.i .u64 0])),{ dst:=none,op:=.storeN 3 (.t 4) (.t 15) },aO 5 (.mv (.t 16))]
def G5U:ACode:=.ops C1R
def C1S:List AOper:=[aO 17 (.mv (.t 5)),aO 18 (.un .not (.t 17)),aO 19 (.mv (.t 18)),{ dst:=some 20,op:=.fAddr (.t 4) 0,guard:=some (19,false) },{ dst:=some 21,op:=.load1 (.t 20),guard:=some (19,false) },{ dst:=some 22,op:=.mv (.t 0),guard:=some (19,false) },{ dst:=some 23,op:=.len (.t 22),guard:=some (19,false) },{ dst:=some 24,op:=.bin .neq (.t 21) (.t 23),guard:=some (19,false) },aO 25 (.pick (.t 19) (.v (.c (.b true))) (.t 24))]
def G5W:ACode:=.ops C1S
def C1T:List AOper:=[aO 26 (.build ([.i .i64 0,.i .i64 0,.i .u64 0]) []),{ dst:=none,op:=.storeN 3 (.t 2) (.t 26) },aO 3 (.mv (.v (.c (.b false))))]
def G5Y:ACode:=.ops C1T
def G50:ACode:=.seq [2,3] G5Y .ret
def G5v:ACode:=.cond (.t 25) G50 .skip
def G5x:ACode:=.seq [2,4,25] G5W G5v
def C1U:List AOper:=[aO 27 (.loadN 3 (.t 4)),{ dst:=none,op:=.storeN 3 (.t 2) (.t 27) },aO 3 (.mv (.v (.c (.b true))))]
def G5z:ACode:=.ops C1U
def G5B:ACode:=.seq [2,3] G5z .ret
def G5D:ACode:=.seq [2,4] G5x G5B
def G5F:ACode:=.seq [0,2,4,5] G5U G5D
def G5H:ACode:=.seq [0,2] G5S G5F
def G5J:ACode:=.seq [0,2] G5s G5H
def A_er21_Layout:AFn:=⟨G5J,[.cellN 2 3,.tmp 3]⟩
def A0Y:B6:=B1 27 A4t C1
def G5t (n:Nat):SmV:=A2 A0Y C1O
def G5L (n:Nat):SmV:=A2 A0Y C1P
def G5N (n:Nat):SmV:=A2 A0Y C1Q
def G5P (n:Nat):SmV:=A1 [2,3] (G5N n) A8
def G5R (n:Nat):SmV:=B8 (.t 8) (G5P n) C0
def G5T (n:Nat):SmV:=A1 [0,2,8] (G5L n) (G5R n)
def G5V (n:Nat):SmV:=A2 A0Y C1R
def G5X (n:Nat):SmV:=A2 A0Y C1S
def G5Z (n:Nat):SmV:=A2 A0Y C1T
def G51 (n:Nat):SmV:=A1 [2,3] (G5Z n) A8
def G5w (n:Nat):SmV:=B8 (.t 25) (G51 n) C0
def G5y (n:Nat):SmV:=A1 [2,4,25] (G5X n) (G5w n)
def G5A (n:Nat):SmV:=A2 A0Y C1U
def G5C (n:Nat):SmV:=A1 [2,3] (G5A n) A8
def G5E (n:Nat):SmV:=A1 [2,4] (G5y n) (G5C n)
def G5G (n:Nat):SmV:=A1 [0,2,4,5] (G5V n) (G5E n)
def G5I (n:Nat):SmV:=A1 [0,2] (G5T n) (G5G n)
def G5K (n:Nat):SmV:=A1 [0,2] (G5t n) (G5I n)
def A6C (n:Nat) (args:List Val) (h:A0):A6:=(G5K n) A_er21_Layout.fin (params 0 args) h
theorem D2V (n:Nat) (a0:Val) (h:A0):A6C n [a0] h=bnd (F5 a0) fun v1=>bnd (A4 .eql v1 (.c (.i .i64 0))) fun v2=>cnd v2 (bnd (B0 ([.i .i64 0,.i .i64 0,.i .u64 0]) []) fun c3=>bnd (B7 ((h ++ [some (Row.mk ([.i .i64 0,.i .i64 0,.i .u64 0]) true)])) 3 ((.c (.p h.length 0))) ((.a c3))) fun h4=>C7 [A5 h4 3 ((.c (.p h.length 0))),some (.c (.b false))] h4) (bnd (D0 256 a0 (.c (.i .i64 0))) fun v5=>bnd (O4 ((h ++ [some (Row.mk ([.i .i64 0,.i .i64 0,.i .u64 0]) true)])) 256 1 v5 none none) fun v6=>bnd (A4t [v6] ((h ++ [some (Row.mk ([.i .i64 0,.i .i64 0,.i .u64 0]) true)]))) fun p7=>bnd (C2 p7.1 0) fun v8=>bnd (C2 p7.1 1) fun v9=>bnd (B7 ((p7.2 ++ [some (Row.mk ([.i .i64 0,.i .i64 0,.i .u64 0]) true)])) 3 ((.c (.p p7.2.length 0))) v8) fun h10=>bnd (aun .not v9) fun v11=>bnd (gd v11 false (bnd (B9 ((.c (.p p7.2.length 0))) 0) fun v12=>some (v12,h10)) (some (.no,h10))) fun p13=>bnd (gd v11 false (bnd (A9 p13.2 p13.1) fun v14=>some (v14,p13.2)) (some (.no,p13.2))) fun p15=>bnd (gd v11 false (some (a0,p15.2)) (some (.no,p15.2))) fun p16=>bnd (gd v11 false (bnd (F5 p16.1) fun v17=>some (v17,p16.2)) (some (.no,p16.2))) fun p18=>bnd (gd v11 false (bnd (A4 .neq p15.1 p18.1) fun v19=>some (v19,p18.2)) (some (.no,p18.2))) fun p20=>bnd (C5 v11 (.c (.b true)) p20.1) fun v21=>cnd v21 (bnd (B0 ([.i .i64 0,.i .i64 0,.i .u64 0]) []) fun c22=>bnd (B7 p20.2 3 ((.c (.p h.length 0))) ((.a c22))) fun h23=>C7 [A5 h23 3 ((.c (.p h.length 0))),some (.c (.b false))] h23) (bnd (A5 p20.2 3 ((.c (.p p7.2.length 0)))) fun v24=>bnd (B7 p20.2 3 ((.c (.p h.length 0))) v24) fun h25=>C7 [A5 h25 3 ((.c (.p h.length 0))),some (.c (.b true))] h25)):=by kernel_rfl
theorem K_er21_Layout:FnK Tryz.prog 8 A_er21_Layout A0Y A6C:=.mk' (B3 D4K C3) Tryz.func8 (by kernel_rfl) (by intro n args h;kernel_rfl)
def A4D:Fun:=tidy (Lim A_er21_Layout A0Y)
theorem D47:SOk Tryz.prog 8 A4D:=K_er21_Layout.sok
theorem D46 {n:Nat} {args:List Val} {h h2:A0} {v:Val} (he:A6C n args (ro h)=some (v,h2)) (hf:v.flat=true):A4D args h=some (v,h):=K_er21_Layout.flat he hf
def C1M:List AOper:=[aO 2 (.box (.t 0)),aO 4 (.mv (.v (.c (.b false))))]
def G5k:ACode:=.ops C1M
def C1N:List AOper:=[aO 5 (.loadN 3 (.t 2)),aO 6 (.mv (.t 1)),aO 7 (.call 74 [(.t 5),(.t 6)]),aO 8 (.bin .eql (.t 7) (.v (.c (.i .i64 4)))),aO 4 (.mv (.t 8))]
def G5m:ACode:=.ops C1N
def G5o:ACode:=.seq [4] G5m .ret
def G5q:ACode:=.seq [1,2] G5k G5o
def A_er21_Data:AFn:=⟨G5q,[.tmp 4]⟩
def A5U:B6:=B1 74 A4v C1
def G5l (n:Nat):SmV:=A2 A5U C1M
def G5n (n:Nat):SmV:=A2 A5U C1N
def G5p (n:Nat):SmV:=A1 [4] (G5n n) A8
def G5r (n:Nat):SmV:=A1 [1,2] (G5l n) (G5p n)
def A6B (n:Nat) (args:List Val) (h:A0):A6:=(G5r n) A_er21_Data.fin (params 0 args) h
theorem D2U (n:Nat) (a0 a1:Val) (h:A0):A6B n [a0,a1] h=bnd (cells? a0) fun c1=>bnd (A5 ((h ++ [some (Row.mk (c1) true)])) 3 ((.c (.p h.length 0)))) fun v2=>bnd (A4v [v2,a1] ((h ++ [some (Row.mk (c1) true)]))) fun p3=>bnd (A4 .eql p3.1 (.c (.i .i64 4))) fun v4=>some (v4,p3.2):=by kernel_rfl
theorem K_er21_Data:FnK Tryz.prog 33 A_er21_Data A5U A6B:=.mk' (B3 D4P C3) Tryz.func33 (by kernel_rfl) (by intro n args h;kernel_rfl)
def A2A:Fun:=tidy (Lim A_er21_Data A5U)
theorem B3m:SOk Tryz.prog 33 A2A:=K_er21_Data.sok
theorem D45 {n:Nat} {args:List Val} {h h2:A0} {v:Val} (he:A6B n args (ro h)=some (v,h2)) (hf:v.flat=true):A2A args h=some (v,h):=K_er21_Data.flat he hf
end Go.Proofs.YtdgggnlbdoiloaaGreat
end
section
namespace Go.Proofs.YtdgggnlbdoiloaaGreat
open Go Go.Esc
theorem H0V {h:A0} {v:Val} {D:Dev} (hv:Has h v 256 D.length (C9 D)) (hD:okD D) {i:Nat} (hi:i < D.length) :
    ∃ a u,D0 256 v (.c (.i .i64 (i:Int)))=some a ∧ O4 h 256 1 a none none=some u ∧ Has h u 1 256 (A3 D[i]):=by
  rcases hv with ⟨_,h0,_⟩ | ⟨id,off,r,rfl,hr,h1,h2,h3,h4⟩
  · omega
  · have hle:off + i * 256 + 256 * 1 ≤ r.cells.length:=by omega
    refine ⟨.c (.p id (off + i * 256)),.c (.sl id (off + i * 256) 256 1),I9 hi,?_,?_⟩
    · simp only [O4,hr,Option.bind_some,bound]
      rw [if_pos ⟨by omega,by omega,hle,D0k h3 h4 (show i * 256 < D.length * 256 by omega) h2⟩];simp
    · refine Has.part (cs:=r.cells) (rw:=r.rw) hr hle ?_ (I3 _)
      rw [← A1h hD hi,← h3,List.drop_take,List.take_take,List.drop_drop]
      congr 1
      omega
theorem E3z:S1 []=false:=by decide +kernel
theorem C90 {v:Val} {D:Dev} {h:A0} (hv:Has h v 256 D.length (C9 D)) (hD:okD D) :
    A4D [v] h=some (.t [.a (bif S1 D then C4 D.length (A1M D) (A1L D) else C4 0 0 0),.c (.b (S1 D))],h):=by
  have key:∀ g,Has g v 256 D.length (C9 D) → ∃ g',A6C 0 [v] g=some (.t [.a (bif S1 D then C4 D.length (A1M D) (A1L D) else C4 0 0 0),.c (.b (S1 D))],g'):=by
    intro g hv
    have hl:=hv.len
    have ef:B0 [Cell.i .i64 0,.i .i64 0,.i .u64 0] []=some [Cell.i .i64 0,.i .i64 0,.i .u64 0]:=rfl
    rw [D2V]
    cases D with
    | nil =>
      rw [E3z]
      have z0:((([]:Dev).length:Nat):Int)=0:=rfl
      exact ⟨_,by simp only [esc,esh,Nat.reduceAdd,Nat.reduceMul,Nat.reduceLT,hl,z0,eq_self,ef,C4] <;> rfl⟩
    | cons b E =>
      have h0:0 < (b :: E).length:=by simp
      have c0:¬ (((b :: E).length:Nat):Int)=0:=by omega
      have hv2:=hv.more [some (Row.mk [.i .i64 0,.i .i64 0,.i .u64 0] true)]
      obtain ⟨a,u,a1,s1,hu⟩:=H0V hv2 hD h0
      have z0:((0:Nat):Int)=0:=rfl
      rw [z0] at a1
      have hG:=J31 (h:=g ++ [some (Row.mk [.i .i64 0,.i .i64 0,.i .u64 0] true)]) hu (hD.at h0)
      rw [List.getElem_cons_zero] at hG
      clear hu
      have ed:S1 (b :: E)=(okS b && decide (fieldN b 8 2=(((b :: E).length:Nat):Int))):=rfl
      have en:A1M (b :: E)=fieldN b 10 2:=rfl
      have em:A1L (b :: E)=fieldN b 12 8:=rfl
      rw [ed,en,em]
      generalize hN:(b :: E).length=N at *
      cases ho:okS b with
      | false =>
        rw [ho,C5Y ho] at hG
        unfold C4 at *
        exact ⟨_,by simp only [esc,esh,Nat.reduceAdd,Nat.reduceMul,Nat.reduceLT,hl,c0,a1,s1,hG,ef,Bool.false_and] <;> rfl⟩
      | true =>
        rw [ho,B2j ho] at hG
        by_cases c1:fieldN b 8 2=(N:Int)
        · unfold C4 at *
          rw [c1] at hG ⊢
          exact ⟨_,by simp only [esc,esh,Nat.reduceAdd,Nat.reduceMul,Nat.reduceLT,hl,c0,a1,s1,hG,ef,eq_self] <;> rfl⟩
        · unfold C4 at *
          exact ⟨_,by simp only [esc,esh,Nat.reduceAdd,Nat.reduceMul,Nat.reduceLT,hl,c0,a1,s1,hG,ef,c1,Bool.true_and] <;> rfl⟩
  obtain ⟨g',e⟩:=key (ro h) hv.ro
  refine D46 e ?_
  cases S1 D <;> rfl
end Go.Proofs.YtdgggnlbdoiloaaGreat
end
noncomputable section
namespace Go.Proofs.YtdgggnlbdoiloaaGreat
open Go Go.Esc
set_option maxRecDepth 100000
def C00:List AOper:=[aO 2 (.mv (.v (.c (.b false))))]
def G2a:ACode:=.ops C00
def C01:List AOper:=[aO 3 (.mv (.t 0)),aO 4 (.bin .geq (.t 3) (.v (.c (.i .i64 0)))),aO 5 (.mv (.t 4)),{ dst:=some 6,op:=.mv (.t 0),guard:=some (5,true) },{ dst:=some 7,op:=.bin .leq (.t 6) (.v (.c (.i .i64 65535))),guard:=some (5,true) },aO 8 (.pick (.t 5) (.t 7) (.v (.c (.b false)))),aO 2 (.mv (.t 8))]
def G2c:ACode:=.ops C01
def G2e:ACode:=.seq [2] G2c .ret
def G2g:ACode:=.seq [0] G2a G2e
def A_er19_Fine:AFn:=⟨G2g,[.tmp 2]⟩
def A5T:B6:=C1
def G2b (n:Nat):SmV:=A2 A5T C00
def G2d (n:Nat):SmV:=A2 A5T C01
def G2f (n:Nat):SmV:=A1 [2] (G2d n) A8
def G2h (n:Nat):SmV:=A1 [0] (G2b n) (G2f n)
def B0K (n:Nat) (args:List Val) (h:A0):A6:=(G2h n) A_er19_Fine.fin (params 0 args) h
theorem D2Q (n:Nat) (a0:Val) (h:A0):B0K n [a0] h=bnd (A4 .geq a0 (.c (.i .i64 0))) fun v1=>bnd (gd v1 true (some (a0,h)) (some (.no,h))) fun p2=>bnd (gd v1 true (bnd (A4 .leq p2.1 (.c (.i .i64 65535))) fun v3=>some (v3,p2.2)) (some (.no,p2.2))) fun p4=>bnd (C5 v1 p4.1 (.c (.b false))) fun v5=>some (v5,p4.2):=by kernel_rfl
theorem K_er19_Fine:FnK Tryz.prog 119 A_er19_Fine A5T B0K:=.mk' (C3) Tryz.func119 (by kernel_rfl) (by intro n args h;kernel_rfl)
def A4z:Fun:=tidy (Lim A_er19_Fine A5T)
theorem D4Y:SOk Tryz.prog 119 A4z:=K_er19_Fine.sok
theorem D4X {n:Nat} {args:List Val} {h h2:A0} {v:Val} (he:B0K n args (ro h)=some (v,h2)) (hf:v.flat=true):A4z args h=some (v,h):=K_er19_Fine.flat he hf
def C1A:List AOper:=[aO 1 (.box (.t 0)),aO 2 (.nilrow 1),aO 3 (.mv (.v (.c (.b false))))]
def G4h:ACode:=.ops C1A
def C1B:List AOper:=[aO 6 (.fAddr (.t 1) 0),aO 7 (.load1 (.t 6)),aO 8 (.bin .lss (.t 7) (.v (.c (.i .i64 0)))),aO 9 (.mv (.t 8)),{ dst:=some 10,op:=.fAddr (.t 1) 0,guard:=some (9,false) },{ dst:=some 11,op:=.load1 (.t 10),guard:=some (9,false) },{ dst:=some 12,op:=.bin .gtr (.t 11) (.v (.c (.i .i64 5))),guard:=some (9,false) },aO 13 (.pick (.t 9) (.v (.c (.b true))) (.t 12))]
def G4j:ACode:=.ops C1B
def C1E:List AOper:=[aO 2 (.nilrow 1),aO 3 (.mv (.v (.c (.b false))))]
def G4F:ACode:=.ops C1E
def G4Z:ACode:=.seq [2,3] G4F .ret
def G47:ACode:=.cond (.t 13) G4Z .skip
def G49:ACode:=.seq [1,13] G4j G47
def C1F:List AOper:=[aO 14 (.buildSl 1 4 ([.i .u8 0,.i .u8 0,.i .u8 0,.i .u8 0]) [(0,1,(.v (.c (.i .u8 105)))),(1,1,(.v (.c (.i .u8 100)))),(2,1,(.v (.c (.i .u8 120)))),(3,1,(.v (.c (.i .u8 33))))]),aO 15 (.mark (.t 14)),aO 16 (.fAddr (.t 1) 0),aO 17 (.load1 (.t 16)),aO 18 (.conv .u8 (.t 17)),aO 19 (.buildSl 1 1 ([.i .u8 0]) [(0,1,(.t 18))]),aO 20 (.app 1 (.t 15) (.t 19)),aO 4 (.mv (.t 20))]
def G5b:ACode:=.ops C1F
def C1G:List AOper:=[aO 21 (.mv (.t 4)),aO 22 (.appZ 1 ([.i .u8 0]) (.t 21) (.v (.c (.i .i64 27)))),aO 4 (.mv (.t 22))]
def G5d:ACode:=.ops C1G
def C1H:List AOper:=[aO 5 (.mv (.v (.c (.i .i64 0))))]
def G5f:ACode:=.ops C1H
def C1I:List AOper:=[aO 23 (.mv (.t 5)),aO 24 (.bin .lss (.t 23) (.v (.c (.i .i64 32))))]
def G5h:ACode:=.ops C1I
def G4k:ACode:=.cond (.t 24) .skip (.exit 0)
def G4m:ACode:=.seq [1,4,5,24] G5h G4k
def C1J:List AOper:=[aO 27 (.mv (.t 5)),aO 28 (.fAddr (.t 1) 1),aO 29 (.iAddrA 32 1 (.t 28) (.t 27)),aO 30 (.load1 (.t 29)),aO 31 (.call 119 [(.t 30)]),aO 32 (.un .not (.t 31))]
def G4o:ACode:=.ops C1J
def C1K:List AOper:=[aO 2 (.nilrow 1),aO 3 (.mv (.v (.c (.b false))))]
def G4q:ACode:=.ops C1K
def G4s:ACode:=.seq [2,3] G4q .ret
def G4u:ACode:=.cond (.t 32) G4s .skip
def G4w:ACode:=.seq [1,4,5,32] G4o G4u
def C1L:List AOper:=[aO 33 (.mv (.t 4)),aO 34 (.mv (.t 5)),aO 35 (.fAddr (.t 1) 1),aO 36 (.iAddrA 32 1 (.t 35) (.t 34)),aO 37 (.load1 (.t 36)),aO 38 (.conv .u64 (.t 37)),aO 39 (.call 90 [(.v (.c (.i .i64 2))),(.t 38)]),aO 40 (.app 1 (.t 33) (.t 39)),aO 4 (.mv (.t 40))]
def G4y:ACode:=.ops C1L
def G4A:ACode:=.seq [1,4,5] G4w G4y
def G4C:ACode:=.block 1 G4A
def C1C:List AOper:=[aO 25 (.mv (.t 5)),aO 26 (.bin .add (.t 25) (.v (.c (.i .i64 1)))),aO 5 (.mv (.t 26))]
def G4G:ACode:=.ops C1C
def G4I:ACode:=.seq [1,4,5] G4C G4G
def G4K:ACode:=.seq [1,4,5] G4m G4I
def G4L:ACode:=.loop [1,4,5] G4K
def G4N:ACode:=.block 0 G4L
def G4P:ACode:=.seq [1,4,5] G5f G4N
def C1D:List AOper:=[aO 41 (.mkSl 1 ([.i .u8 0]) (.v (.c (.i .i64 256))) (.v (.c (.i .i64 256)))),aO 42 (.mv (.t 4)),aO 43 (.call 104 [(.t 41),(.v (.c (.i .i64 0))),(.t 42)]),aO 2 (.mv (.t 43)),aO 3 (.mv (.v (.c (.b true))))]
def G4R:ACode:=.ops C1D
def G4T:ACode:=.seq [2,3] G4R .ret
def G4U:ACode:=.seq [4] G4P G4T
def G4W:ACode:=.seq [1,4] G5d G4U
def G40:ACode:=.seq [1,4] G5b G4W
def G42:ACode:=.seq [1] G49 G40
def G44:ACode:=.seq [1] G4h G42
def A_er19_Put:AFn:=⟨G44,[.tmp 2,.tmp 3]⟩
def T6:B6:=B1 119 A4z (B1 90 V7 (B1 104 A2u C1))
def G4i (n:Nat):SmV:=A2 T6 C1A
def G4E (n:Nat):SmV:=A2 T6 C1B
def G4Y (n:Nat):SmV:=A2 T6 C1E
def G46 (n:Nat):SmV:=A1 [2,3] (G4Y n) A8
def G48 (n:Nat):SmV:=B8 (.t 13) (G46 n) C0
def G5a (n:Nat):SmV:=A1 [1,13] (G4E n) (G48 n)
def G5c (n:Nat):SmV:=A2 T6 C1F
def G5e (n:Nat):SmV:=A2 T6 C1G
def G5g (n:Nat):SmV:=A2 T6 C1H
def G5i (n:Nat):SmV:=A2 T6 C1I
def G4l (n:Nat):SmV:=B8 (.t 24) C0 (E3 0)
def G4n (n:Nat):SmV:=A1 [1,4,5,24] (G5i n) (G4l n)
def G4p (n:Nat):SmV:=A2 T6 C1J
def G4r (n:Nat):SmV:=A2 T6 C1K
def G4t (n:Nat):SmV:=A1 [2,3] (G4r n) A8
def G4v (n:Nat):SmV:=B8 (.t 32) (G4t n) C0
def G4x (n:Nat):SmV:=A1 [1,4,5,32] (G4p n) (G4v n)
def G4z (n:Nat):SmV:=A2 T6 C1L
def G4B (n:Nat):SmV:=A1 [1,4,5] (G4x n) (G4z n)
def G4D (n:Nat):SmV:=C6 1 (G4B n)
def G4H (n:Nat):SmV:=A2 T6 C1C
def G4J (n:Nat):SmV:=A1 [1,4,5] (G4D n) (G4H n)
def C1x (n:Nat):SmV:=A1 [1,4,5] (G4n n) (G4J n)
def G4M (n:Nat):SmV:=E4 n [1,4,5] (C1x n)
def G4O (n:Nat):SmV:=C6 0 (G4M n)
def G4Q (n:Nat):SmV:=A1 [1,4,5] (G5g n) (G4O n)
def G4S (n:Nat):SmV:=A2 T6 C1D
def C1y (n:Nat):SmV:=A1 [2,3] (G4S n) A8
def G4V (n:Nat):SmV:=A1 [4] (G4Q n) (C1y n)
def G4X (n:Nat):SmV:=A1 [1,4] (G5e n) (G4V n)
def G41 (n:Nat):SmV:=A1 [1,4] (G5c n) (G4X n)
def G43 (n:Nat):SmV:=A1 [1] (G5a n) (G41 n)
def G45 (n:Nat):SmV:=A1 [1] (G4i n) (G43 n)
def A8H (n:Nat):AExit → Env → A0 → A6:=fun x e h=>match x with | .normal=>hold ((C1y n) A_er19_Put.fin (e.keep [4]) h) | .exit id=>A_er19_Put.fin (.exit id) e h | .ret=>A_er19_Put.fin .ret e h
def G5j (n:Nat):AExit → Env → A0 → A6:=fun x e h=>match x with | .exit i=>bif Nat.beq i 0 then (A8H n) .normal e h else (A8H n) (.exit i) e h | .normal=>(A8H n) .normal e h | .ret=>(A8H n) .ret e h
def A8I (n m:Nat) (x1 x4 x5:Val) (h:A0):A6:=E1 (C1x n) [1,4,5] (G5j n) m [(1,x1),(4,x4),(5,x5)] h
def A6A (n:Nat) (args:List Val) (h:A0):A6:=(G45 n) A_er19_Put.fin (params 0 args) h
theorem D2T (n:Nat) (a0:Val) (h:A0):A6A n [a0] h=bnd (cells? a0) fun c1=>bnd (B9 ((.c (.p h.length 0))) 0) fun v2=>bnd (A9 (((h ++ [some (Row.mk (c1) true)]) ++ [some (Row.mk ([]) true)])) v2) fun v3=>bnd (A4 .lss v3 (.c (.i .i64 0))) fun v4=>bnd (gd v4 false (bnd (B9 ((.c (.p h.length 0))) 0) fun v5=>some (v5,((h ++ [some (Row.mk (c1) true)]) ++ [some (Row.mk ([]) true)]))) (some (.no,((h ++ [some (Row.mk (c1) true)]) ++ [some (Row.mk ([]) true)])))) fun p6=>bnd (gd v4 false (bnd (A9 p6.2 p6.1) fun v7=>some (v7,p6.2)) (some (.no,p6.2))) fun p8=>bnd (gd v4 false (bnd (A4 .gtr p8.1 (.c (.i .i64 5))) fun v9=>some (v9,p8.2)) (some (.no,p8.2))) fun p10=>bnd (C5 v4 (.c (.b true)) p10.1) fun v11=>cnd v11 (C7 [some ((.c (.sl p10.2.length 0 0 1))),some (.c (.b false))] ((p10.2 ++ [some (Row.mk ([]) true)]))) (bnd (B0 ([.i .u8 0,.i .u8 0,.i .u8 0,.i .u8 0]) [(0,1,.c (.i .u8 105)),(1,1,.c (.i .u8 100)),(2,1,.c (.i .u8 120)),(3,1,.c (.i .u8 33))]) fun c12=>bnd (O3 ((p10.2 ++ [some (Row.mk (c12) true)])) ((.c (.sl p10.2.length 0 4 1)))) fun v13=>bnd (B9 ((.c (.p h.length 0))) 0) fun v14=>bnd (A9 ((p10.2 ++ [some (Row.mk (c12) true)])) v14) fun v15=>bnd (G8 .u8 v15) fun v16=>bnd (B0 ([.i .u8 0]) [(0,1,v16)]) fun c17=>bnd (E5 (((p10.2 ++ [some (Row.mk (c12) true)]) ++ [some (Row.mk (c17) true)])) 1 v13 ((.c (.sl ((p10.2 ++ [some (Row.mk (c12) true)])).length 0 1 1)))) fun p18=>bnd (A2P p18.2 1 ([.i .u8 0]) p18.1 (.c (.i .i64 27))) fun p19=>A8I n n ((.c (.p h.length 0))) p19.1 (.c (.i .i64 0)) p19.2):=by kernel_rfl
theorem C1z (n m:Nat) (x1 x4 x5:Val) (h:A0):A8I n (m + 1) x1 x4 x5 h=bnd (A4 .lss x5 (.c (.i .i64 32))) fun v20=>cnd v20 (bnd (B9 x1 1) fun v21=>bnd (D7 32 1 v21 x5) fun v22=>bnd (A9 h v22) fun v23=>bnd (A4z [v23] h) fun p24=>bnd (aun .not p24.1) fun v25=>cnd v25 (C7 [some ((.c (.sl p24.2.length 0 0 1))),some (.c (.b false))] ((p24.2 ++ [some (Row.mk ([]) true)]))) (bnd (B9 x1 1) fun v26=>bnd (D7 32 1 v26 x5) fun v27=>bnd (A9 p24.2 v27) fun v28=>bnd (G8 .u64 v28) fun v29=>bnd (V7 [.c (.i .i64 2),v29] p24.2) fun p30=>bnd (E5 p30.2 1 x4 p30.1) fun p31=>bnd (A4 .add x5 (.c (.i .i64 1))) fun v32=>A8I n m x1 p31.1 v32 p31.2)) (bnd (U4 (.c (.i .i64 256)) (.c (.i .i64 256))) fun n33=>bnd (A2u [(.c (.sl h.length 0 n33 1)),.c (.i .i64 0),x4] ((h ++ [some (Row.mk (rows ([.i .u8 0]) n33) true)]))) fun p34=>C7 [some p34.1,some (.c (.b true))] p34.2):=by kernel_rfl
theorem K_er19_Put:FnK Tryz.prog 110 A_er19_Put T6 A6A:=.mk' (B3 D4Y (B3 B01 (B3 B3g C3))) Tryz.func110 (by kernel_rfl) (by intro n args h;kernel_rfl)
def A4C:Fun:=tidy (Lim A_er19_Put T6)
theorem D43:SOk Tryz.prog 110 A4C:=K_er19_Put.sok
theorem D44 {n:Nat} {args:List Val} {h h2:A0} {i:Nat} {c:Cell} {sz k:Nat} {cs:List Cell} (he:A6A n args (ro h)=some (.t [.c (.sl i 0 k sz),.c c],h2)) (ho:Out h.length h2 (.c (.sl i 0 k sz)) sz k cs) (hf:D9 cs=true) (hc:c.flat=true):A4C args h=some (.t [.c (.sl h.length 0 k sz),.c c],h ++ [some ⟨cs,true⟩]):=K_er19_Put.out2 he ho hf hc
def C1q:List AOper:=[aO 2 (.mv (.v (.c (.i .i64 0))))]
def G3G:ACode:=.ops C1q
def C1r:List AOper:=[aO 3 (.mv (.v (.c (.i .i64 1))))]
def G3I:ACode:=.ops C1r
def C1s:List AOper:=[aO 4 (.mv (.v (.c (.i .i64 0))))]
def G30:ACode:=.ops C1s
def C1t:List AOper:=[aO 5 (.mv (.t 4)),aO 6 (.mv (.t 0)),aO 7 (.bin .lss (.t 5) (.t 6))]
def G32:ACode:=.ops C1t
def G34:ACode:=.cond (.t 7) .skip (.exit 0)
def G36:ACode:=.seq [0,3,4,7] G32 G34
def C1u:List AOper:=[aO 10 (.mv (.t 3)),aO 11 (.bin .mul (.t 10) (.v (.c (.i .i64 2)))),aO 3 (.mv (.t 11))]
def G38:ACode:=.ops C1u
def G4a:ACode:=.block 1 G38
def C1v:List AOper:=[aO 8 (.mv (.t 4)),aO 9 (.bin .add (.t 8) (.v (.c (.i .i64 1)))),aO 4 (.mv (.t 9))]
def G4c:ACode:=.ops C1v
def G4e:ACode:=.seq [0,3,4] G4a G4c
def G3J:ACode:=.seq [0,3,4] G36 G4e
def G3K:ACode:=.loop [0,3,4] G3J
def G3M:ACode:=.block 0 G3K
def G3O:ACode:=.seq [0,3,4] G30 G3M
def C1w:List AOper:=[aO 12 (.mv (.t 3)),aO 2 (.mv (.t 12))]
def G3Q:ACode:=.ops C1w
def G3S:ACode:=.seq [2] G3Q .ret
def G3T:ACode:=.seq [3] G3O G3S
def G3V:ACode:=.seq [0,3] G3I G3T
def G3X:ACode:=.seq [0] G3G G3V
def A_er19_Pow:AFn:=⟨G3X,[.tmp 2]⟩
def A0X:B6:=C1
def G3H (n:Nat):SmV:=A2 A0X C1q
def G3Z (n:Nat):SmV:=A2 A0X C1r
def G31 (n:Nat):SmV:=A2 A0X C1s
def G33 (n:Nat):SmV:=A2 A0X C1t
def G35 (n:Nat):SmV:=B8 (.t 7) C0 (E3 0)
def G37 (n:Nat):SmV:=A1 [0,3,4,7] (G33 n) (G35 n)
def G39 (n:Nat):SmV:=A2 A0X C1u
def G4b (n:Nat):SmV:=C6 1 (G39 n)
def G4d (n:Nat):SmV:=A2 A0X C1v
def G4f (n:Nat):SmV:=A1 [0,3,4] (G4b n) (G4d n)
def C1n (n:Nat):SmV:=A1 [0,3,4] (G37 n) (G4f n)
def G3L (n:Nat):SmV:=E4 n [0,3,4] (C1n n)
def G3N (n:Nat):SmV:=C6 0 (G3L n)
def G3P (n:Nat):SmV:=A1 [0,3,4] (G31 n) (G3N n)
def G3R (n:Nat):SmV:=A2 A0X C1w
def C1o (n:Nat):SmV:=A1 [2] (G3R n) A8
def G3U (n:Nat):SmV:=A1 [3] (G3P n) (C1o n)
def G3W (n:Nat):SmV:=A1 [0,3] (G3Z n) (G3U n)
def G3Y (n:Nat):SmV:=A1 [0] (G3H n) (G3W n)
def A8F (n:Nat):AExit → Env → A0 → A6:=fun x e h=>match x with | .normal=>hold ((C1o n) A_er19_Pow.fin (e.keep [3]) h) | .exit id=>A_er19_Pow.fin (.exit id) e h | .ret=>A_er19_Pow.fin .ret e h
def G4g (n:Nat):AExit → Env → A0 → A6:=fun x e h=>match x with | .exit i=>bif Nat.beq i 0 then (A8F n) .normal e h else (A8F n) (.exit i) e h | .normal=>(A8F n) .normal e h | .ret=>(A8F n) .ret e h
def A8G (n m:Nat) (x0 x3 x4:Val) (h:A0):A6:=E1 (C1n n) [0,3,4] (G4g n) m [(0,x0),(3,x3),(4,x4)] h
def B0L (n:Nat) (args:List Val) (h:A0):A6:=(G3Y n) A_er19_Pow.fin (params 0 args) h
theorem D2S (n:Nat) (a0:Val) (h:A0):B0L n [a0] h=A8G n n a0 (.c (.i .i64 1)) (.c (.i .i64 0)) h:=by kernel_rfl
theorem C1p (n m:Nat) (x0 x3 x4:Val) (h:A0):A8G n (m + 1) x0 x3 x4 h=bnd (A4 .lss x4 x0) fun v1=>cnd v1 (bnd (A4 .mul x3 (.c (.i .i64 2))) fun v2=>bnd (A4 .add x4 (.c (.i .i64 1))) fun v3=>A8G n m x0 v2 v3 h) (some (x3,h)):=by kernel_rfl
theorem K_er19_Pow:FnK Tryz.prog 85 A_er19_Pow A0X B0L:=.mk' (C3) Tryz.func85 (by kernel_rfl) (by intro n args h;kernel_rfl)
def A4B:Fun:=tidy (Lim A_er19_Pow A0X)
theorem D42:SOk Tryz.prog 85 A4B:=K_er19_Pow.sok
theorem D41 {n:Nat} {args:List Val} {h h2:A0} {v:Val} (he:B0L n args (ro h)=some (v,h2)) (hf:v.flat=true):A4B args h=some (v,h):=K_er19_Pow.flat he hf
def C08:List AOper:=[aO 2 (.alloc ([.i .i64 0] ++ List.replicate 32 (.i .i64 0))),aO 3 (.mv (.v (.c (.b false))))]
def G2i:ACode:=.ops C08
def C09:List AOper:=[aO 9 (.mv (.t 0)),aO 10 (.call 51 [(.t 9),(.v (.c (.i .i64 4))),(.v (.c (.i .i64 1)))]),aO 11 (.build ([.i .i64 0] ++ List.replicate 32 (.i .i64 0)) [(0,1,(.t 10))]),aO 4 (.alloc ([.i .i64 0] ++ List.replicate 32 (.i .i64 0))),{ dst:=none,op:=.storeN 33 (.t 4) (.t 11) }]
def G2k:ACode:=.ops C09
def C1f:List AOper:=[aO 5 (.mv (.v (.c (.i .i64 0))))]
def G2F:ACode:=.ops C1f
def C1g:List AOper:=[aO 12 (.mv (.t 5)),aO 13 (.bin .lss (.t 12) (.v (.c (.i .i64 32))))]
def G21:ACode:=.ops C1g
def G3l:ACode:=.cond (.t 13) .skip (.exit 0)
def G3u:ACode:=.seq [0,2,4,5,13] G21 G3l
def C1h:List AOper:=[aO 16 (.mv (.t 5)),aO 17 (.mv (.t 0)),aO 18 (.mv (.t 5)),aO 19 (.bin .mul (.v (.c (.i .i64 2))) (.t 18)),aO 20 (.bin .add (.v (.c (.i .i64 32))) (.t 19)),aO 21 (.call 51 [(.t 17),(.t 20),(.v (.c (.i .i64 2)))]),aO 22 (.fAddr (.t 4) 1),aO 23 (.iAddrA 32 1 (.t 22) (.t 16)),{ dst:=none,op:=.store1 (.t 23) (.t 21) }]
def G3w:ACode:=.ops C1h
def G3y:ACode:=.block 1 G3w
def C1i:List AOper:=[aO 14 (.mv (.t 5)),aO 15 (.bin .add (.t 14) (.v (.c (.i .i64 1)))),aO 5 (.mv (.t 15))]
def G3A:ACode:=.ops C1i
def G3C:ACode:=.seq [0,2,4,5] G3y G3A
def G2l:ACode:=.seq [0,2,4,5] G3u G3C
def G2m:ACode:=.loop [0,2,4,5] G2l
def G2o:ACode:=.block 0 G2m
def G2q:ACode:=.seq [0,2,4,5] G2F G2o
def C1j:List AOper:=[aO 25 (.loadN 33 (.t 4)),aO 26 (.call 110 [(.t 25)]),aO 24 (.mv (.t 26)),aO 27 (.ext (.t 24) 0),aO 28 (.ext (.t 24) 1),aO 6 (.mv (.t 27)),aO 7 (.mv (.t 28))]
def G2s:ACode:=.ops C1j
def C1k:List AOper:=[aO 29 (.mv (.t 7)),aO 30 (.un .not (.t 29)),aO 31 (.mv (.t 30)),{ dst:=some 32,op:=.mv (.t 6),guard:=some (31,false) },{ dst:=some 33,op:=.mv (.t 0),guard:=some (31,false) },{ dst:=some 34,op:=.call 53 [(.t 32),(.t 33)],guard:=some (31,false) },{ dst:=some 35,op:=.un .not (.t 34),guard:=some (31,false) },aO 36 (.pick (.t 31) (.v (.c (.b true))) (.t 35))]
def G2u:ACode:=.ops C1k
def C1l:List AOper:=[aO 37 (.build ([.i .i64 0] ++ List.replicate 32 (.i .i64 0)) []),{ dst:=none,op:=.storeN 33 (.t 2) (.t 37) },aO 3 (.mv (.v (.c (.b false))))]
def G2w:ACode:=.ops C1l
def G2y:ACode:=.seq [2,3] G2w .ret
def G2A:ACode:=.cond (.t 36) G2y .skip
def G2C:ACode:=.seq [2,4,36] G2u G2A
def C1m:List AOper:=[aO 38 (.fAddr (.t 4) 0),aO 39 (.load1 (.t 38)),aO 40 (.call 85 [(.t 39)]),aO 8 (.mv (.t 40))]
def G2G:ACode:=.ops C1m
def C1a:List AOper:=[aO 41 (.mv (.t 8)),aO 42 (.bin .lss (.t 41) (.v (.c (.i .i64 32))))]
def G2I:ACode:=.ops C1a
def G2K:ACode:=.cond (.t 42) .skip (.exit 2)
def G2M:ACode:=.seq [2,4,8,42] G2I G2K
def C1b:List AOper:=[aO 45 (.mv (.t 8)),aO 46 (.fAddr (.t 4) 1),aO 47 (.iAddrA 32 1 (.t 46) (.t 45)),aO 48 (.load1 (.t 47)),aO 49 (.bin .neq (.t 48) (.v (.c (.i .i64 0))))]
def G2O:ACode:=.ops C1b
def C1c:List AOper:=[aO 50 (.build ([.i .i64 0] ++ List.replicate 32 (.i .i64 0)) []),{ dst:=none,op:=.storeN 33 (.t 2) (.t 50) },aO 3 (.mv (.v (.c (.b false))))]
def G2Q:ACode:=.ops C1c
def G2S:ACode:=.seq [2,3] G2Q .ret
def G2U:ACode:=.cond (.t 49) G2S .skip
def G2W:ACode:=.seq [2,4,8,49] G2O G2U
def G2Y:ACode:=.block 3 G2W
def C1d:List AOper:=[aO 43 (.mv (.t 8)),aO 44 (.bin .add (.t 43) (.v (.c (.i .i64 1)))),aO 8 (.mv (.t 44))]
def G22:ACode:=.ops C1d
def G24:ACode:=.seq [2,4,8] G2Y G22
def G26:ACode:=.seq [2,4,8] G2M G24
def G27:ACode:=.loop [2,4,8] G26
def G29:ACode:=.block 2 G27
def G3b:ACode:=.seq [2,4,8] G2G G29
def C1e:List AOper:=[aO 51 (.loadN 33 (.t 4)),{ dst:=none,op:=.storeN 33 (.t 2) (.t 51) },aO 3 (.mv (.v (.c (.b true))))]
def G3d:ACode:=.ops C1e
def G3f:ACode:=.seq [2,3] G3d .ret
def G3g:ACode:=.seq [2,4] G3b G3f
def G3i:ACode:=.seq [2,4] G2C G3g
def G3m:ACode:=.seq [0,2,4,6,7] G2s G3i
def G3n:ACode:=.seq [0,2,4] G2q G3m
def G3p:ACode:=.seq [0,2,4] G2k G3n
def G3r:ACode:=.seq [0,2] G2i G3p
def A_er19_Get:AFn:=⟨G3r,[.cellN 2 33,.tmp 3]⟩
def P8:B6:=B1 51 X7 (B1 110 A4C (B1 53 A0h (B1 85 A4B C1)))
def G2j (n:Nat):SmV:=A2 P8 C08
def G2E (n:Nat):SmV:=A2 P8 C09
def G20 (n:Nat):SmV:=A2 P8 C1f
def G3k (n:Nat):SmV:=A2 P8 C1g
def G3t (n:Nat):SmV:=B8 (.t 13) C0 (E3 0)
def G3v (n:Nat):SmV:=A1 [0,2,4,5,13] (G3k n) (G3t n)
def G3x (n:Nat):SmV:=A2 P8 C1h
def G3z (n:Nat):SmV:=C6 1 (G3x n)
def G3B (n:Nat):SmV:=A2 P8 C1i
def G3D (n:Nat):SmV:=A1 [0,2,4,5] (G3z n) (G3B n)
def C02 (n:Nat):SmV:=A1 [0,2,4,5] (G3v n) (G3D n)
def G2n (n:Nat):SmV:=E4 n [0,2,4,5] (C02 n)
def G2p (n:Nat):SmV:=C6 0 (G2n n)
def G2r (n:Nat):SmV:=A1 [0,2,4,5] (G20 n) (G2p n)
def G2t (n:Nat):SmV:=A2 P8 C1j
def G2v (n:Nat):SmV:=A2 P8 C1k
def G2x (n:Nat):SmV:=A2 P8 C1l
def G2z (n:Nat):SmV:=A1 [2,3] (G2x n) A8
def G2B (n:Nat):SmV:=B8 (.t 36) (G2z n) C0
def G2D (n:Nat):SmV:=A1 [2,4,36] (G2v n) (G2B n)
def G2H (n:Nat):SmV:=A2 P8 C1m
def G2J (n:Nat):SmV:=A2 P8 C1a
def G2L (n:Nat):SmV:=B8 (.t 42) C0 (E3 2)
def G2N (n:Nat):SmV:=A1 [2,4,8,42] (G2J n) (G2L n)
def G2P (n:Nat):SmV:=A2 P8 C1b
def G2R (n:Nat):SmV:=A2 P8 C1c
def G2T (n:Nat):SmV:=A1 [2,3] (G2R n) A8
def G2V (n:Nat):SmV:=B8 (.t 49) (G2T n) C0
def G2X (n:Nat):SmV:=A1 [2,4,8,49] (G2P n) (G2V n)
def G2Z (n:Nat):SmV:=C6 3 (G2X n)
def G23 (n:Nat):SmV:=A2 P8 C1d
def G25 (n:Nat):SmV:=A1 [2,4,8] (G2Z n) (G23 n)
def C03 (n:Nat):SmV:=A1 [2,4,8] (G2N n) (G25 n)
def G28 (n:Nat):SmV:=E4 n [2,4,8] (C03 n)
def G3a (n:Nat):SmV:=C6 2 (G28 n)
def G3c (n:Nat):SmV:=A1 [2,4,8] (G2H n) (G3a n)
def G3e (n:Nat):SmV:=A2 P8 C1e
def C04 (n:Nat):SmV:=A1 [2,3] (G3e n) A8
def G3h (n:Nat):SmV:=A1 [2,4] (G3c n) (C04 n)
def G3j (n:Nat):SmV:=A1 [2,4] (G2D n) (G3h n)
def C05 (n:Nat):SmV:=A1 [0,2,4,6,7] (G2t n) (G3j n)
def G3o (n:Nat):SmV:=A1 [0,2,4] (G2r n) (C05 n)
def G3q (n:Nat):SmV:=A1 [0,2,4] (G2E n) (G3o n)
def G3s (n:Nat):SmV:=A1 [0,2] (G2j n) (G3q n)
def A8B (n:Nat):AExit → Env → A0 → A6:=fun x e h=>match x with | .normal=>hold ((C05 n) A_er19_Get.fin (e.keep [0,2,4]) h) | .exit id=>A_er19_Get.fin (.exit id) e h | .ret=>A_er19_Get.fin .ret e h
def G3E (n:Nat):AExit → Env → A0 → A6:=fun x e h=>match x with | .exit i=>bif Nat.beq i 0 then (A8B n) .normal e h else (A8B n) (.exit i) e h | .normal=>(A8B n) .normal e h | .ret=>(A8B n) .ret e h
def A8D (n m:Nat) (x0 x2 x4 x5:Val) (h:A0):A6:=E1 (C02 n) [0,2,4,5] (G3E n) m [(0,x0),(2,x2),(4,x4),(5,x5)] h
def A6z (n:Nat) (args:List Val) (h:A0):A6:=(G3s n) A_er19_Get.fin (params 0 args) h
def A8C (n:Nat):AExit → Env → A0 → A6:=fun x e h=>match x with | .normal=>hold ((C04 n) A_er19_Get.fin (e.keep [2,4]) h) | .exit id=>A_er19_Get.fin (.exit id) e h | .ret=>A_er19_Get.fin .ret e h
def G3F (n:Nat):AExit → Env → A0 → A6:=fun x e h=>match x with | .exit i=>bif Nat.beq i 2 then (A8C n) .normal e h else (A8C n) (.exit i) e h | .normal=>(A8C n) .normal e h | .ret=>(A8C n) .ret e h
def A8E (n m:Nat) (x2 x4 x8:Val) (h:A0):A6:=E1 (C03 n) [2,4,8] (G3F n) m [(2,x2),(4,x4),(8,x8)] h
theorem D2R (n:Nat) (a0:Val) (h:A0):A6z n [a0] h=bnd (X7 [a0,.c (.i .i64 4),.c (.i .i64 1)] ((h ++ [some (Row.mk ([.i .i64 0] ++ List.replicate 32 (.i .i64 0)) true)]))) fun p1=>bnd (B0 ([.i .i64 0] ++ List.replicate 32 (.i .i64 0)) [(0,1,p1.1)]) fun c2=>bnd (B7 ((p1.2 ++ [some (Row.mk ([.i .i64 0] ++ List.replicate 32 (.i .i64 0)) true)])) 33 ((.c (.p p1.2.length 0))) ((.a c2))) fun h3=>A8D n n a0 ((.c (.p h.length 0))) ((.c (.p p1.2.length 0))) (.c (.i .i64 0)) h3:=by kernel_rfl
theorem C06 (n m:Nat) (x0 x2 x4 x5:Val) (h:A0):A8D n (m + 1) x0 x2 x4 x5 h=bnd (A4 .lss x5 (.c (.i .i64 32))) fun v4=>cnd v4 (bnd (A4 .mul (.c (.i .i64 2)) x5) fun v5=>bnd (A4 .add (.c (.i .i64 32)) v5) fun v6=>bnd (X7 [x0,v6,.c (.i .i64 2)] h) fun p7=>bnd (B9 x4 1) fun v8=>bnd (D7 32 1 v8 x5) fun v9=>bnd (F2 p7.2 v9 p7.1) fun h10=>bnd (A4 .add x5 (.c (.i .i64 1))) fun v11=>A8D n m x0 x2 x4 v11 h10) (bnd (A5 h 33 x4) fun v12=>bnd (A4C [v12] h) fun p13=>bnd (C2 p13.1 0) fun v14=>bnd (C2 p13.1 1) fun v15=>bnd (aun .not v15) fun v16=>bnd (gd v16 false (some (v14,p13.2)) (some (.no,p13.2))) fun p17=>bnd (gd v16 false (some (x0,p17.2)) (some (.no,p17.2))) fun p18=>bnd (gd v16 false (bnd (A0h [p17.1,p18.1] p18.2) fun p19=>some (p19.1,p19.2)) (some (.no,p18.2))) fun p20=>bnd (gd v16 false (bnd (aun .not p20.1) fun v21=>some (v21,p20.2)) (some (.no,p20.2))) fun p22=>bnd (C5 v16 (.c (.b true)) p22.1) fun v23=>cnd v23 (bnd (B0 ([.i .i64 0] ++ List.replicate 32 (.i .i64 0)) []) fun c24=>bnd (B7 p22.2 33 x2 ((.a c24))) fun h25=>C7 [A5 h25 33 x2,some (.c (.b false))] h25) (bnd (B9 x4 0) fun v26=>bnd (A9 p22.2 v26) fun v27=>bnd (A4B [v27] p22.2) fun p28=>A8E n n x2 x4 p28.1 p28.2)):=by kernel_rfl
theorem C07 (n m:Nat) (x2 x4 x8:Val) (h:A0):A8E n (m + 1) x2 x4 x8 h=bnd (A4 .lss x8 (.c (.i .i64 32))) fun v29=>cnd v29 (bnd (B9 x4 1) fun v30=>bnd (D7 32 1 v30 x8) fun v31=>bnd (A9 h v31) fun v32=>bnd (A4 .neq v32 (.c (.i .i64 0))) fun v33=>cnd v33 (bnd (B0 ([.i .i64 0] ++ List.replicate 32 (.i .i64 0)) []) fun c34=>bnd (B7 h 33 x2 ((.a c34))) fun h35=>C7 [A5 h35 33 x2,some (.c (.b false))] h35) (bnd (A4 .add x8 (.c (.i .i64 1))) fun v36=>A8E n m x2 x4 v36 h)) (bnd (A5 h 33 x4) fun v37=>bnd (B7 h 33 x2 v37) fun h38=>C7 [A5 h38 33 x2,some (.c (.b true))] h38):=by kernel_rfl
theorem K_er19_Get:FnK Tryz.prog 79 A_er19_Get P8 A6z:=.mk' (B3 B00 (B3 D43 (B3 A7o (B3 D42 C3)))) Tryz.func79 (by kernel_rfl) (by intro n args h;kernel_rfl)
def A4A:Fun:=tidy (Lim A_er19_Get P8)
theorem D40:SOk Tryz.prog 79 A4A:=K_er19_Get.sok
theorem D4Z {n:Nat} {args:List Val} {h h2:A0} {v:Val} (he:A6z n args (ro h)=some (v,h2)) (hf:v.flat=true):A4A args h=some (v,h):=K_er19_Get.flat he hf
end Go.Proofs.YtdgggnlbdoiloaaGreat
end
section
namespace Go.Proofs.YtdgggnlbdoiloaaGreat
open Go Go.Esc
theorem C9D {k q:Nat} {h:A0} (hk:k ≤ 32):∀ e i m:Nat,i + e=k → e < m → A8G q m (.c (.i .i64 (k:Int))) (.c (.i .i64 ((2 ^ i:Nat):Int))) (.c (.i .i64 (i:Int))) h=some (.c (.i .i64 ((2 ^ k:Nat):Int)),h)
  | e,i,0,_,hm=>by omega
  | 0,i,m + 1,hi,hm=>by
    have e0:i=k:=by omega
    subst e0
    have c0:¬ (i:Int) < i:=by omega
    rw [C1p]
    simp only [esc,c0]
  | e + 1,i,m + 1,hi,hm=>by
    have ih:=C9D (q:=q) (h:=h) hk e (i + 1) m (by omega) (by omega)
    have c0:(i:Int) < k:=by omega
    have hp:2 ^ i ≤ 2 ^ 32:=Nat.pow_le_pow_right (by omega) (by omega)
    have w1:IntKind.wrap .i64 (((2 ^ i:Nat):Int) * 2)=((2 ^ (i + 1):Nat):Int):=by
      rw [Nat.pow_succ]
      generalize 2 ^ i=y at hp ⊢
      rw [wrap_i64 (by omega) (by omega)];omega
    rw [C1p]
    generalize ((2 ^ (i + 1):Nat):Int)=y1 at *
    generalize ((2 ^ i:Nat):Int)=y at *
    simp only [esc,c0,w1,E6 (show i + 1 < 9223372036854775808 by omega)]
    exact ih
theorem J39 {k:Nat} {h:A0} (hk:k ≤ 32):A4B [.c (.i .i64 (k:Int))] h=some (.c (.i .i64 ((2 ^ k:Nat):Int)),h):=by
  have e:=C9D (q:=k + 1) (h:=ro h) hk k 0 (k + 1) (by omega) (by omega)
  exact D41 (n:=k + 1) (h2:=ro h) (by rw [D2S];exact e) rfl
end Go.Proofs.YtdgggnlbdoiloaaGreat
end
