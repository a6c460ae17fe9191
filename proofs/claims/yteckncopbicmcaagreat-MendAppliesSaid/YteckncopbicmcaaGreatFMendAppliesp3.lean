/- What the proof of this claim leans on, part 3. -/
import Derived.Test.YteckncopbicmcaaGreatFMendAppliesp2
set_option linter.all false
namespace Go.Proofs.YteckncopbicmcaaGreat
open Go Go.Esc
theorem D0F {h:A4} {id off len sz:Nat} {cs:List Cell} (hr:rd h id=some ⟨cs,true⟩) (hn:0<len):A2w h (.c (.sl id off len sz))=some (.c (.sl id off len sz)):=by
 simp [A2w,hr,hn]
def magicB:List UInt8:=[101,115,99,104,101,97,116,49]
def A35 (b n m:Int):List UInt8:=magicB++D9 2 b++D9 2 n++D9 8 m
def pC (b n m:Int):List UInt8:=K7 256 (A35 b n m++D9 4 (C0U (A35 b n m):Nat))
theorem Y1 {b n m:Int}:(A35 b n m).length=20:=by simp [A35,magicB]
theorem Y0 {b n m:Int}:(pC b n m).length=256:=F8 (by rw [List.length_append,Y1,X8];omega)
theorem D1F {l xs:List UInt8} {a:Nat} (h1:l.length<=a) (h2:a+xs.length<=256) (h3:a<256):A9m (K7 256 l) a xs=K7 256 (l++zeros (a-l.length)++xs):=by
 unfold A9m;rw [if_pos (by omega)];simp only [Int.toNat_natCast];rw [List.take_of_length_le (by omega),C6E h1 h2]
theorem B42 {b n m:Int} {h:A4} (hm0:0<=m) (hm1:m<18446744073709551616) :
  iL [.a (J1 b n m)] h=some (.t [.a (A5 (bif T3 b n then pC b n m else zeros 256)),.c (.i .i64 (bif T3 b n then 0 else 1))],h):=by
 have key:∀ g,∃ g',A2q 0 [.a (J1 b n m)] g=some (.t [.a (A5 (bif T3 b n then pC b n m else zeros 256)),.c (.i .i64 (bif T3 b n then 0 else 1))],g'):=by
  intro g;have hz:(A5 (zeros 256)).length=256:=by rw [A6];exact zeros_length
  have haf:C7 (List.replicate 256 (Cell.i .u8 0)) []=some (List.replicate 256 (Cell.i .u8 0)):=rfl;rw [F5] at haf;rw [B9q,F5];cases c:T3 b n with
  | false =>
   simp only [cond_false];generalize zeros 256=z at *;exact ⟨_,by simp only [esc,esh,Nat.reduceAdd,Nat.reduceMul,Nat.reduceLT,Z6,c,haf,hz,Int.reduceEq]<;>rfl⟩
  | true =>
   simp only [cond_true];have e7:C7 [Cell.i .u8 0,.i .u8 0,.i .u8 0,.i .u8 0,.i .u8 0,.i .u8 0,.i .u8 0,.i .u8 0] [(0,1,.c (.i .u8 101)),(1,1,.c (.i .u8 115)),(2,1,.c (.i .u8 99)),(3,1,.c (.i .u8 104)),(4,1,.c (.i .u8 101)),(5,1,.c (.i .u8 97)),(6,1,.c (.i .u8 116)),(7,1,.c (.i .u8 49))]=some (A5 magicB):=rfl;have hmk:=D0F (h:=g++[some ⟨J1 b n m,true⟩,some ⟨A5 (zeros 256),true⟩,some ⟨A5 magicB,true⟩]) (id:=g.length+2) (off:=0) (len:=8) (sz:=1) (cs:=A5 magicB) (by simp) (by omega);have ho:=A9X (h:=g++[some ⟨J1 b n m,true⟩,some ⟨A5 (zeros 256),true⟩,some ⟨A5 magicB,true⟩]) (v:=.c (.sl (g.length+2) 0 8 1)) (nv:=8) (data:=magicB) (Has.tr (by simp) (by simp [A6,magicB]) (T4 _)) (by decide);rw [C4Y (by decide)] at ho;have lm:magicB.length=8:=rfl;have w1:=fun h=>T5 (h:=h) (l:=K7 256 magicB) (F8 (by decide)) (a:=8) (w:=2) (v:=b)
   have e1:=fE (l:=magicB) (a:=8) (w:=2) (v:=b) (by decide) (by omega) (by omega) (by omega);simp only [lm,Nat.sub_self,show zeros 0=[] from rfl,List.append_nil,Int.cast_ofNat_Int] at e1;simp only [e1] at w1;have l1:(magicB++D9 2 b).length=10:=by simp [lm]
   have w2:=fun h=>T5 (h:=h) (l:=K7 256 (magicB++D9 2 b)) (F8 (by omega)) (a:=10) (w:=2) (v:=n)
   have e2:=fE (l:=magicB++D9 2 b) (a:=10) (w:=2) (v:=n) (by omega) (by omega) (by omega) (by omega);simp only [l1,Nat.sub_self,show zeros 0=[] from rfl,List.append_nil,Int.cast_ofNat_Int] at e2;simp only [e2] at w2;have l2:(magicB++D9 2 b++D9 2 n).length=12:=by simp [lm]
   have L0:(A5 (K7 256 magicB)).length=256:=by rw [A6,F8 (by decide)]
   have L1:(A5 (K7 256 (magicB++D9 2 b))).length=256:=by rw [A6,F8 (by omega)]
   have L2:(A5 (K7 256 (magicB++D9 2 b++D9 2 n))).length=256:=by rw [A6,F8 (by omega)]
   have L3:(A5 (K7 256 (A35 b n m))).length=256:=by rw [A6,F8 (by rw [Y1];omega)]
   have L4:(A5 (pC b n m)).length=256:=by rw [A6,Y0]
   have mk8:A8x (.c (.i .i64 8)) (.c (.i .i64 8))=some 8:=rfl;have hp:=C7T (h:=g++[some ⟨J1 b n m,true⟩,some ⟨A5 (zeros 256),true⟩,some ⟨A5 magicB,true⟩,some ⟨A5 (K7 256 (magicB++D9 2 b++D9 2 n)),true⟩,some ⟨A5 (zeros 8),true⟩]) (x:=.c (.sl (g.length+4) 0 8 1)) (nv:=8) (l:=zeros 8) (a:=0) (w:=8) (v:=m) (Has.tr (by simp) (by simp [A6]) (T4 _)) (by simp);have ep:B4V (zeros 8) 0 8 m=some (D9 8 m):=by
    unfold B4V;rw [if_pos ⟨by omega,by decide⟩];unfold I1;simp [zeros]
   rw [ep] at hp;simp only [Option.getD_some,Option.isSome_some,X8] at hp;have hl:=B2K (h:=g++[some ⟨J1 b n m,true⟩,some ⟨A5 (zeros 256),true⟩,some ⟨A5 magicB,true⟩,some ⟨A5 (K7 256 (magicB++D9 2 b++D9 2 n)),true⟩,some ⟨A5 (zeros 8),true⟩,some ⟨A5 (D9 8 m),true⟩]) (v:=.c (.sl (g.length+5) 0 8 1)) (nv:=8) (data:=D9 8 m) (l:=K7 256 (magicB++D9 2 b++D9 2 n)) (a:=12) (Has.tr (by simp) (by simp [A6]) (T4 _)) (F8 (by omega)) (by simp);have e3:=D1F (l:=magicB++D9 2 b++D9 2 n) (xs:=D9 8 m) (a:=12) (by omega) (by simp) (by omega);simp only [l2,Nat.sub_self,show zeros 0=[] from rfl,List.append_nil,Int.cast_ofNat_Int] at e3;rw [e3] at hl;have hc:=fun h=>B2I (h:=h) (l:=K7 256 (A35 b n m)) (F8 (by rw [Y1];omega)) (a:=0) (n:=20)
   have e4:B0t (K7 256 (A35 b n m)) 0 20=A35 b n m:=by
    unfold B0t K7;rw [if_pos (by omega)];simp only [Int.toNat_zero,List.drop_zero];exact List.take_left' Y1
   simp only [e4,Y1] at hc;have D6P:=(Has.tr (h:=g++[some ⟨J1 b n m,true⟩,some ⟨A5 (zeros 256),true⟩,some ⟨A5 magicB,true⟩,some ⟨A5 (K7 256 (A35 b n m)),true⟩,some ⟨A5 (zeros 8),true⟩,some ⟨A5 (D9 8 m),true⟩,some ⟨A5 (A35 b n m),true⟩]) (id:=g.length+6) (sz:=1) (n:=20) (cs:=A5 (A35 b n m)) (by simp) (by rw [A6,Y1]) (T4 _)).str;have hmx:=fun h=>C3q (s:=A35 b n m) (h:=h) (by rw [Y1];omega)
   have D7k:=C8N (s:=A35 b n m);have e5:IntKind.wrap .i64 ((C0U (A35 b n m):Nat):Int)=(C0U (A35 b n m):Nat):=wrap_i64 (by omega) (by omega);have w3:=fun h=>T5 (h:=h) (l:=K7 256 (A35 b n m)) (F8 (by rw [Y1];omega)) (a:=20) (w:=4) (v:=(C0U (A35 b n m):Nat))
   have e6:=fE (l:=A35 b n m) (a:=20) (w:=4) (v:=(C0U (A35 b n m):Nat)) (by rw [Y1];omega) (by omega) (by omega) (by omega);simp only [Y1,Nat.sub_self,show zeros 0=[] from rfl,List.append_nil,Int.cast_ofNat_Int] at e6;simp only [e6] at w3;have eS:magicB++D9 2 b++D9 2 n++D9 8 m=A35 b n m:=rfl;rw [eS] at hl;have rz:=C3D 8;change ∀ h,J5 [_,_,_,_] h=some (.a (A5 (pC b n m)),h) at w3;generalize pC b n m=SB at *;generalize K7 256 magicB=P0 at *;generalize K7 256 (magicB++D9 2 b)=P1 at *;generalize K7 256 (magicB++D9 2 b++D9 2 n)=P2 at *;generalize K7 256 (A35 b n m)=P3 at *;simp only [esc] at hp;generalize zeros 256=z at *;generalize zeros 8=z8 at *;exact ⟨_,by simp only [esc,esh,Nat.reduceAdd,Nat.reduceMul,Nat.reduceLT,Z6,c,e7,hmk,ho,hz,L0,w1,L1,w2,L2,mk8,rz,hp,hl,L3,hc,D6P,hmx,e5,w3,L4]<;>rfl⟩
 obtain ⟨g',e⟩:=key (ro h);exact B55 e (by simp)
theorem C5y {b:List UInt8} {a w:Nat} (hb:b.length=256) (h1:a+w<=256) (hw:1<=w) (hw4:w<=4):((atN b a w:Nat):Int)=fieldN b a w:=by
 unfold atN fieldN;rw [if_pos ⟨by omega,Q5.2 (by omega)⟩];simp only [Int.toNat_natCast]
theorem D1o {b:List UInt8} (hb:b.length=256):D1n (B0t b 12 8) 0 8=some (le ((b.drop 12).take 8)):=by
 have hc:B0t b 12 8=(b.drop 12).take 8:=by
  unfold B0t;rw [if_pos (by omega)];rfl
 have hl:((b.drop 12).take 8).length=8:=by simp;omega
 unfold D1n;rw [hc,hl,if_pos ⟨by omega,by decide⟩];simp only [Int.toNat_zero,List.drop_zero];rw [List.take_of_length_le (by rw [hl];decide)]
def okS (b:List UInt8):Bool:=T3 (fieldN b 8 2) (fieldN b 10 2)&&decide (pC (fieldN b 8 2) (fieldN b 10 2) (fieldN b 12 8)=b)
def C7F (b:List UInt8):List Cell:=bif okS b then J1 (fieldN b 8 2) (fieldN b 10 2) (fieldN b 12 8) else J1 0 0 0
theorem B34 (b:List UInt8):0<=fieldN b 12 8/\fieldN b 12 8<18446744073709551616:=by
 unfold fieldN;have h1:=C6l ((b.drop 12).take 8);have h2:((b.drop 12).take 8).length<=8:=by simp;omega
 have h3:=A9Y h2;have h4:(256:Nat) ^ 8=18446744073709551616:=by decide
 omega
theorem B41 {b:List UInt8} {h:A4} (hb:b.length=256):iK [.a (A5 b)] h=some (.t [.a (C7F b),.c (.i .i64 (bif okS b then 0 else 13))],h):=by
 have key:∀ g,∃ g',A2p 0 [.a (A5 b)] g=some (.t [.a (C7F b),.c (.i .i64 (bif okS b then 0 else 13))],g'):=by
  intro g;have hl:(A5 b).length=256:=by rw [A6,hb]
  have hc:=B2I (h:=g++[some ⟨A5 b,true⟩,some ⟨J1 0 0 0,true⟩]) hb (a:=12) (n:=8);have xW:(B0t b 12 8).length=8:=by unfold B0t;rw [if_pos (by omega)];simp;omega
  rw [xW] at hc;have hg:=C7O (h:=g++[some ⟨A5 b,true⟩,some ⟨J1 0 0 0,true⟩,some ⟨A5 (B0t b 12 8),true⟩]) (v:=.c (.sl (g.length+2) 0 8 1)) (nv:=8) (l:=B0t b 12 8) (Has.tr (by simp) (by rw [A6,xW]) (T4 _)) (a:=0) (w:=8) (by rw [xW];omega);rw [D1o hb] at hg;simp only [Option.getD_some,Option.isSome_some] at hg;have a1:=fun h=>kF (h:=h) hb (a:=8) (w:=2)
  have a2:=fun h=>kF (h:=h) hb (a:=10) (w:=2)
  have f1:=C5y (a:=8) (w:=2) hb (by omega) (by omega) (by omega);have f2:=C5y (a:=10) (w:=2) hb (by omega) (by omega) (by omega);simp only [Int.cast_ofNat_Int] at f1 f2;simp only [f1] at a1;simp only [f2] at a2;have e12:((le ((b.drop 12).take 8):Nat):Int)=fieldN b 12 8:=rfl;rw [e12] at hg;have ef:∀ x y z:Int,C7 (J1 0 0 0) [(0,1,.c (.i .i64 x)),(1,1,.c (.i .i64 y)),(2,1,.c (.i .u64 z))]=some (J1 x y z):=fun _ _ _=>rfl
  have ef0:C7 (J1 0 0 0) []=some (J1 0 0 0):=rfl;have hp:=fun h=>B42 (b:=fieldN b 8 2) (n:=fieldN b 10 2) (m:=fieldN b 12 8) (h:=h) (B34 b).1 (B34 b).2
  have hz:(List.replicate 256 (Cell.i .u8 0)).length=256:=List.length_replicate;have hS:(A5 (pC (fieldN b 8 2) (fieldN b 10 2) (fieldN b 12 8))).length=256:=by rw [A6,Y0]
  have hZ:(A5 (zeros 256)).length=256:=by rw [A6];exact zeros_length
  have hq:=B9Q (l:=pC (fieldN b 8 2) (fieldN b 10 2) (fieldN b 12 8)) (m:=b) (n:=256) Y0 hb;simp only [esc] at hc;rw [B9p];unfold C7F okS;generalize List.replicate 256 (Cell.i .u8 0)=z at *;cases c:T3 (fieldN b 8 2) (fieldN b 10 2) with
  | false =>
   simp only [c,cond_false] at hp;generalize zeros 256=zz at *;exact ⟨_,by simp only [esc,esh,Nat.reduceAdd,Nat.reduceMul,Nat.reduceLT,hl,hc,hg,a1,a2,ef,ef0,hp,hz,hZ,Bool.false_and,Int.reduceEq]<;>rfl⟩
  | true =>
   simp only [c,cond_true] at hp;cases c2:decide (pC (fieldN b 8 2) (fieldN b 10 2) (fieldN b 12 8)=b) with
   | false =>
    rw [c2] at hq;exact ⟨_,by simp only [esc,esh,Nat.reduceAdd,Nat.reduceMul,Nat.reduceLT,hl,hc,hg,a1,a2,ef,ef0,hp,hz,hS,hq,Bool.and_false]<;>rfl⟩
   | true =>
    rw [c2] at hq;exact ⟨_,by simp only [esc,esh,Nat.reduceAdd,Nat.reduceMul,Nat.reduceLT,hl,hc,hg,a1,a2,ef,ef0,hp,hz,hS,hq,Bool.and_true]<;>rfl⟩
 obtain ⟨g',e⟩:=key (ro h);refine B54 e ?_;unfold C7F;cases okS b<;>simp
end Go.Proofs.YteckncopbicmcaaGreat
namespace Go.Proofs.YteckncopbicmcaaGreat
open Go Go.Esc
set_option maxRecDepth 100000
noncomputable section
def A29:AFn:=⟨sO [0] [aO 2 (.mv (.v (.c (.i .i64 0)))),aO 3 (.mv (.v (.c (.i .u8 0)))),aO 4 (.mv (.v (.c (.b false))))] (.seq [0] (sO [0,10] [aM 5 0,aO 6 (.bin .lss (.t 5) (.v (.c (.i .i64 0)))),aM 7 6,gM 8 7 false 0,aG 9 7 false (.bin .geq (.t 8) (.v (.c (.i .i64 2048)))),aO 10 (.pick (.t 7) (.v (.c (.b true))) (.t 9))] (.cond (.t 10) (sO [2,3,4] [aO 2 (.mv (.v (.c (.i .i64 0)))),aO 3 (.mv (.v (.c (.i .u8 0)))),aO 4 (.mv (.v (.c (.b false))))] .ret) .skip)) (sO [2,3,4] [aM 11 0,aO 12 (.bin .quo (.t 11) (.v (.c (.i .i64 8)))),aM 13 0,aO 14 (.bin .rem (.t 13) (.v (.c (.i .i64 8)))),aO 15 (.conv .u64 (.t 14)),aO 16 (.bin .shl (.v (.c (.i .u8 1))) (.t 15)),aM 2 12,aM 3 16,aO 4 (.mv (.v (.c (.b true))))] .ret)),[.tmp 2,.tmp 3,.tmp 4]⟩
def A3n:E2:=E6
def A3A:=rx A3n A29
theorem A4i (n:Nat) (a0:Val) (h:A4):A3A n [a0] h=bnd (B5 .lss a0 (.c (.i .i64 0))) fun v1=>bnd (gd v1 false (some (a0,h)) (some (.no,h))) fun p2=>bnd (gd v1 false (bnd (B5 .geq p2.1 (.c (.i .i64 2048))) fun v3=>some (v3,p2.2)) (some (.no,p2.2))) fun p4=>bnd (F0 v1 (.c (.b true)) p4.1) fun v5=>cnd v5 (I6 [some (.c (.i .i64 0)),some (.c (.i .u8 0)),some (.c (.b false))] p4.2) (bnd (B5 .quo a0 (.c (.i .i64 8))) fun v6=>bnd (B5 .rem a0 (.c (.i .i64 8))) fun v7=>bnd (dJ .u64 v7) fun v8=>bnd (B5 .shl (.c (.i .u8 1)) v8) fun v9=>I6 [some v6,some v9,some (.c (.b true))] p4.2):=by kernel_rfl
theorem B0G:FnK Tryz.prog 245 A29 A3n A3A:=.mk2 C9 Tryz.func245 (by kernel_rfl)
def X6:=tl A29 A3n
theorem A4o:SOk Tryz.prog 245 X6:=B0G.sok
theorem A08:G0 A3A X6:=B0G.flat
def B07:ACode:=sO [6] [aL' 33 256 3,aN (.storeN 256 (.t 6) (.t 33))] .ret
def zR:AFn:=⟨sO [1,2,3,6] [aB 3 0,aO 6 (.alloc (List.replicate 256 (.i .u8 0)))] (sO [2,3,6,7,8,9] [aM 11 1,aO 12 (.call 245 [(.t 11)]),aM 10 12,aE 13 10 0,aE 14 10 1,aE 15 10 2,aM 7 13,aM 8 14,aM 9 15] (.seq [3,6] (.block 0 (sO [2,3,6,7,8,22] [aM 23 9,aO 24 (.un .not (.t 23)),aM 22 24] (.cond (.t 22) .skip (sO [3,6,7,8,25] [aM 26 2,aM 25 26] (.cond (.t 25) (.ops [aM 27 7,aO 28 (.iAddrA 256 1 (.t 3) (.t 27)),aL 29 28,aM 30 8,aO 31 (.bin .or (.t 29) (.t 30)),aO 32 (.iAddrA 256 1 (.t 3) (.t 27)),aN (.store1 (.t 32) (.t 31))]) (.ops [aM 16 7,aO 17 (.iAddrA 256 1 (.t 3) (.t 16)),aL 18 17,aM 19 8,aO 20 (.bin .andNot (.t 18) (.t 19)),aO 21 (.iAddrA 256 1 (.t 3) (.t 16)),aN (.store1 (.t 21) (.t 20))])))))) B07)),[.cellN 6 256]⟩
def zX:E2:=D6 245 X6 E6
def vH (n:Nat) (x3 x6:Val):AtH:=aj zX n B07 zR.fin [3,6] [x3,x6]
def A0c:=rx zX zR
theorem B7X (n:Nat) (a0 a1 a2:Val) (h:A4):A0c n [a0,a1,a2] h=bnd (cells? a0) fun c1=>bnd (X6 [a1] ((h++[some (Row.mk (c1) true)])++[some (Row.mk (List.replicate 256 (.i .u8 0)) true)])) fun p2=>bnd (H0 p2.1 0) fun v3=>bnd (H0 p2.1 1) fun v4=>bnd (H0 p2.1 2) fun v5=>bnd (aun .not v5) fun v6=>cnd v6 (vH n (.c (.p h.length 0)) (.c (.p (h++[some (Row.mk (c1) true)]).length 0)) p2.2) (cnd a2 (bnd (D8 256 1 (.c (.p h.length 0)) v3) fun v7=>bnd (A7 p2.2 v7) fun v8=>bnd (B5 .or v8 v4) fun v9=>bnd (D8 256 1 (.c (.p h.length 0)) v3) fun T6=>bnd (D3 p2.2 T6 v9) fun h11=>vH n (.c (.p h.length 0)) (.c (.p (h++[some (Row.mk (c1) true)]).length 0)) h11) (bnd (D8 256 1 (.c (.p h.length 0)) v3) fun v12=>bnd (A7 p2.2 v12) fun v13=>bnd (B5 .andNot v13 v4) fun cE=>bnd (D8 256 1 (.c (.p h.length 0)) v3) fun dE=>bnd (D3 p2.2 dE cE) fun h16=>vH n (.c (.p h.length 0)) (.c (.p (h++[some (Row.mk (c1) true)]).length 0)) h16)):=by kernel_rfl
theorem B6h (n:Nat) (x3 x6:Val) (h:A4):vH n x3 x6 h=bnd (A8 h 256 x3) fun W3=>bnd (B4 h 256 x6 W3) fun h18=>mp (A8 h18 256 x6) fun v=>(v,h18):=by kernel_rfl
theorem B20:FnK Tryz.prog 192 zR zX A0c:=.mk2 (B8 A4o C9) Tryz.func192 (by kernel_rfl)
def qM:=tl zR zX
theorem B8e:SOk Tryz.prog 192 qM:=B20.sok
theorem B3t:G0 A0c qM:=B20.flat
def B04:ACode:=sO [2,3,6,7,8,9] [aO 9 (.bin .lss (.t 8) (.t 7))] (.seq [2,3,6,7,8] (.cond (.t 9) .skip (.exit 0)) (.seq [2,3,6,7,8] (.block 1 (sO [2,3,5,6,7,8] [aO 10 (.iAddrL 1 (.t 6) (.t 8)),aL 11 10,aM 5 11] (.ops [aL' 12 256 3,aM 13 5,aO 14 (.call 192 [(.t 12),(.t 13),(.v (.c (.b true)))]),aN (.storeN 256 (.t 3) (.t 14))]))) (.ops [aO 15 (.bin .add (.t 8) (.v (.c (.i .i64 1)))),aM 8 15])))
def B05:ACode:=sO [2] [aL' 16 256 3,aN (.storeN 256 (.t 2) (.t 16))] .ret
def zQ:AFn:=⟨sO [0,2] [aO 2 (.alloc (List.replicate 256 (.i .u8 0)))] (sO [0,2,3] [aO 3 (.alloc (List.replicate 256 (.i .u8 0)))] (.seq [2,3] (sO [2,3,6,7,8] [aM 6 0,aO 7 (.len (.t 6)),aO 8 (.mv (.v (.c (.i .i64 0))))] (.block 0 (.loop [2,3,6,7,8] B04))) B05)),[.cellN 2 256]⟩
def pN:E2:=D6 192 qM E6
def C12 (n:Nat):KV:=kQ pN n B05 [2,3] zQ.fin
def C13 (n:Nat):KV:=F6 0 (C12 n)
def vG (n m:Nat) (x2 x3 x6 x7 x8:Val):AtH:=ar pN n B04 [2,3,6,7,8] (C13 n) m [x2,x3,x6,x7,x8]
def A0b:=rx pN zQ
theorem B7W (n:Nat) (a0:Val) (h:A4):A0b n [a0] h=bnd (O0 a0) fun v1=>vG n n (.c (.p h.length 0)) (.c (.p (h++[some (Row.mk (List.replicate 256 (.i .u8 0)) true)]).length 0)) a0 v1 (.c (.i .i64 0)) ((h++[some (Row.mk (List.replicate 256 (.i .u8 0)) true)])++[some (Row.mk (List.replicate 256 (.i .u8 0)) true)]):=by kernel_rfl
theorem A4I (n m:Nat) (x2 x3 x6 x7 x8:Val) (h:A4):vG n (m+1) x2 x3 x6 x7 x8 h=bnd (B5 .lss x8 x7) fun v2=>cnd v2 (bnd (C4 1 x6 x8) fun v3=>bnd (A7 h v3) fun v4=>bnd (A8 h 256 x3) fun v5=>bnd (qM [v5,v4,.c (.b true)] h) fun p6=>bnd (B4 p6.2 256 x3 p6.1) fun h7=>bnd (B5 .add x8 (.c (.i .i64 1))) fun v8=>vG n m x2 x3 x6 x7 v8 h7) (bnd (A8 h 256 x3) fun v9=>bnd (B4 h 256 x2 v9) fun h10=>mp (A8 h10 256 x2) fun v=>(v,h10)):=by kernel_rfl
theorem B2Z:FnK Tryz.prog 117 zQ pN A0b:=.mk2 (B8 B8e C9) Tryz.func117 (by kernel_rfl)
def dT:=tl zQ pN
theorem A6K:SOk Tryz.prog 117 dT:=B2Z.sok
theorem B3s:G0 A0b dT:=B2Z.flat
def A7F:AFn:=⟨sO [1,2] [aB 2 0,aO 4 (.mv (.v (.c (.b false))))] (sO [2,5,6,7] [aM 9 1,aO 10 (.call 245 [(.t 9)]),aM 8 10,aE 11 8 0,aE 12 8 1,aE 13 8 2,aM 5 11,aM 6 12,aM 7 13] (sO [4] [aM 14 7,aM 15 14,gM 16 15 true 5,aG 17 15 true (.iAddrA 256 1 (.t 2) (.t 16)),aG 18 15 true (.load1 (.t 17)),gM 19 15 true 6,aG 20 15 true (.bin .and (.t 18) (.t 19)),aG 21 15 true (.bin .neq (.t 20) (.v (.c (.i .u8 0)))),aO 22 (.pick (.t 15) (.t 21) (.v (.c (.b false)))),aM 4 22] .ret)),[.tmp 4]⟩
def A7O:E2:=D6 245 X6 E6
def A2d:=rx A7O A7F
theorem B89 (n:Nat) (a0 a1:Val) (h:A4):A2d n [a0,a1] h=bnd (cells? a0) fun c1=>bnd (X6 [a1] (h++[some (Row.mk (c1) true)])) fun p2=>bnd (H0 p2.1 0) fun v3=>bnd (H0 p2.1 1) fun v4=>bnd (H0 p2.1 2) fun v5=>bnd (gd v5 true (some (v3,p2.2)) (some (.no,p2.2))) fun p6=>bnd (gd v5 true (bnd (D8 256 1 (.c (.p h.length 0)) p6.1) fun v7=>some (v7,p6.2)) (some (.no,p6.2))) fun p8=>bnd (gd v5 true (bnd (A7 p8.2 p8.1) fun v9=>some (v9,p8.2)) (some (.no,p8.2))) fun p10=>bnd (gd v5 true (some (v4,p10.2)) (some (.no,p10.2))) fun p11=>bnd (gd v5 true (bnd (B5 .and p10.1 p11.1) fun v12=>some (v12,p11.2)) (some (.no,p11.2))) fun p13=>bnd (gd v5 true (bnd (B5 .neq p13.1 (.c (.i .u8 0))) fun cE=>some (cE,p13.2)) (some (.no,p13.2))) fun lU=>bnd (F0 v5 lU.1 (.c (.b false))) fun T7=>some (T7,lU.2):=by kernel_rfl
theorem B6P:FnK Tryz.prog 195 A7F A7O A2d:=.mk2 (B8 A4o C9) Tryz.func195 (by kernel_rfl)
def wE:=tl A7F A7O
theorem B9w:SOk Tryz.prog 195 wE:=B6P.sok
theorem B5F:G0 A2d wE:=B6P.flat
end
noncomputable section
def A3e:AFn:=⟨sO [0] [aO 2 (.mv (.v (.c (.b false))))] (sO [2] [aM 3 0,aO 4 (.bin .geq (.t 3) (.v (.c (.i .i64 0)))),aM 5 4,gM 6 5 true 0,aG 7 5 true (.bin .leq (.t 6) (.v (.c (.i .i64 65535)))),aO 8 (.pick (.t 5) (.t 7) (.v (.c (.b false)))),aM 2 8] .ret),[.tmp 2]⟩
def A3s:E2:=E6
def A3B:=rx A3s A3e
theorem B5v (n:Nat) (a0:Val) (h:A4):A3B n [a0] h=bnd (B5 .geq a0 (.c (.i .i64 0))) fun v1=>bnd (gd v1 true (some (a0,h)) (some (.no,h))) fun p2=>bnd (gd v1 true (bnd (B5 .leq p2.1 (.c (.i .i64 65535))) fun v3=>some (v3,p2.2)) (some (.no,p2.2))) fun p4=>bnd (F0 v1 p4.1 (.c (.b false))) fun v5=>some (v5,p4.2):=by kernel_rfl
theorem B0P:FnK Tryz.prog 270 A3e A3s A3B:=.mk2 C9 Tryz.func270 (by kernel_rfl)
def bU:=tl A3e A3s
theorem B5T:SOk Tryz.prog 270 bU:=B0P.sok
theorem B2b:G0 A3B bU:=B0P.flat
def A4Y:ACode:=sO [1,2,3,7,8,9] [aO 9 (.bin .lss (.t 8) (.v (.c (.i .i64 6))))] (.seq [1,2,3,7,8] (.cond (.t 9) .skip (.exit 0)) (.seq [1,2,3,7,8] (.block 1 (sO [1,2,3,4,5,7,8] [aM 10 8,aO 11 (.idxA1 6 (.t 7) (.t 8)),aM 4 10,aM 5 11] (.ops [aM 12 4,aM 13 5,aO 14 (.iAddrA 7 1 (.t 3) (.t 12)),aN (.store1 (.t 14) (.t 13))]))) (.ops [aO 15 (.bin .add (.t 8) (.v (.c (.i .i64 1)))),aM 8 15])))
def A4Z:ACode:=sO [2,3] [aF 16 1 10,aL 17 16,aO 18 (.iAddrA 7 1 (.t 3) (.v (.c (.i .i64 6)))),aN (.store1 (.t 18) (.t 17))] (sO [2] [aL' 19 7 3,aN (.storeN 7 (.t 2) (.t 19))] .ret)
def nI:AFn:=⟨sO [1,2] [aB 1 0,aO 2 (.alloc ([.i .i64 0,.i .i64 0,.i .i64 0,.i .i64 0,.i .i64 0,.i .i64 0,.i .i64 0]))] (sO [1,2,3] [aO 3 (.alloc ([.i .i64 0,.i .i64 0,.i .i64 0,.i .i64 0,.i .i64 0,.i .i64 0,.i .i64 0]))] (.seq [1,2,3] (sO [1,2,3,7,8] [aF 6 1 4,aL' 7 6 6,aO 8 (.mv (.v (.c (.i .i64 0))))] (.block 0 (.loop [1,2,3,7,8] A4Y))) A4Z)),[.cellN 2 7]⟩
def eQ:E2:=E6
def B6y (n:Nat):KV:=kQ eQ n A4Z [1,2,3] nI.fin
def B6z (n:Nat):KV:=F6 0 (B6y n)
def kA (n m:Nat) (x1 x2 x3 x7 x8:Val):AtH:=ar eQ n A4Y [1,2,3,7,8] (B6z n) m [x1,x2,x3,x7,x8]
def nM:=rx eQ nI
theorem B1U (n:Nat) (a0:Val) (h:A4):nM n [a0] h=bnd (cells? a0) fun c1=>bnd (A9 (.c (.p h.length 0)) 4) fun v2=>bnd (A8 (((h++[some (Row.mk (c1) true)])++[some (Row.mk ([.i .i64 0,.i .i64 0,.i .i64 0,.i .i64 0,.i .i64 0,.i .i64 0,.i .i64 0]) true)])++[some (Row.mk ([.i .i64 0,.i .i64 0,.i .i64 0,.i .i64 0,.i .i64 0,.i .i64 0,.i .i64 0]) true)]) 6 v2) fun v3=>kA n n (.c (.p h.length 0)) (.c (.p (h++[some (Row.mk (c1) true)]).length 0)) (.c (.p ((h++[some (Row.mk (c1) true)])++[some (Row.mk ([.i .i64 0,.i .i64 0,.i .i64 0,.i .i64 0,.i .i64 0,.i .i64 0,.i .i64 0]) true)]).length 0)) v3 (.c (.i .i64 0)) (((h++[some (Row.mk (c1) true)])++[some (Row.mk ([.i .i64 0,.i .i64 0,.i .i64 0,.i .i64 0,.i .i64 0,.i .i64 0,.i .i64 0]) true)])++[some (Row.mk ([.i .i64 0,.i .i64 0,.i .i64 0,.i .i64 0,.i .i64 0,.i .i64 0,.i .i64 0]) true)]):=by kernel_rfl
theorem zN (n m:Nat) (x1 x2 x3 x7 x8:Val) (h:A4):kA n (m+1) x1 x2 x3 x7 x8 h=bnd (B5 .lss x8 (.c (.i .i64 6))) fun v4=>cnd v4 (bnd (tQ 6 x7 x8) fun v5=>bnd (D8 7 1 x3 x8) fun v6=>bnd (D3 h v6 v5) fun h7=>bnd (B5 .add x8 (.c (.i .i64 1))) fun v8=>kA n m x1 x2 x3 x7 v8 h7) (bnd (A9 x1 10) fun v9=>bnd (A7 h v9) fun T6=>bnd (D8 7 1 x3 (.c (.i .i64 6))) fun v11=>bnd (D3 h v11 T6) fun h12=>bnd (A8 h12 7 x3) fun v13=>bnd (B4 h12 7 x2 v13) fun h14=>mp (A8 h14 7 x2) fun v=>(v,h14)):=by kernel_rfl
theorem A6J:FnK Tryz.prog 194 nI eQ nM:=.mk2 C9 Tryz.func194 (by kernel_rfl)
def J8:=tl nI eQ
theorem nZ:SOk Tryz.prog 194 J8:=A6J.sok
theorem A8n:G0 nM J8:=A6J.flat
def A9h:ACode:=sO [44,45,46] [aO 46 (.bin .lss (.t 45) (.v (.c (.i .i64 7))))] (.seq [44,45] (.cond (.t 46) .skip (.exit 0)) (.seq [44,45] (.block 1 (sO [4,44,45] [aO 47 (.idxA1 7 (.t 44) (.t 45)),aM 4 47] (sO [44,45,50] [aM 48 4,aO 49 (.call 270 [(.t 48)]),aO 50 (.un .not (.t 49))] (.cond (.t 50) (sO [2] [aO 2 (.mv (.v (.c (.i .i64 1))))] .ret) .skip)))) (.ops [aO 51 (.bin .add (.t 45) (.v (.c (.i .i64 1)))),aM 45 51])))
def A9i:ACode:=sO [2] [aO 2 (.mv (.v (.c (.i .i64 0))))] .ret
def uK:AFn:=⟨sO [1] [aB 1 0,aO 2 (.mv (.v (.c (.i .i64 0))))] (.seq [1] (sO [1,22] [aF 5 1 0,aL 6 5,aO 7 (.bin .lss (.t 6) (.v (.c (.i .i64 0)))),aM 8 7,aG 9 8 false (.fAddr (.t 1) 0),aG 10 8 false (.load1 (.t 9)),aG 11 8 false (.bin .gtr (.t 10) (.v (.c (.i .i64 2)))),aO 12 (.pick (.t 8) (.v (.c (.b true))) (.t 11)),aM 13 12,aG 14 13 false (.fAddr (.t 1) 0),aG 15 13 false (.load1 (.t 14)),aG 16 13 false (.bin .eql (.t 15) (.v (.c (.i .i64 0)))),gM 17 13 false 16,aG 18 17 true (.loadN 11 (.t 1)),aG 19 17 true (.build ([.i .i64 0,.i .i64 0,.i .i64 0,.i .i64 0,.i .i64 0,.i .i64 0,.i .i64 0,.i .i64 0,.i .i64 0,.i .i64 0,.i .i64 0]) []),aG 20 17 true (.eqA true ([.i .i64,.i .i64,.i .i64,.i .i64,.i .i64,.i .i64,.i .i64,.i .i64,.i .i64,.i .i64,.i .i64]) (.t 18) (.t 19)),aG 21 13 false (.pick (.t 17) (.t 20) (.v (.c (.b false)))),aO 22 (.pick (.t 13) (.v (.c (.b true))) (.t 21))] (.cond (.t 22) (sO [2] [aO 2 (.mv (.v (.c (.i .i64 1))))] .ret) .skip)) (.seq [1] (sO [1,42] [aF 23 1 1,aL 24 23,aO 25 (.call 270 [(.t 24)]),aO 26 (.un .not (.t 25)),aM 27 26,aG 28 27 false (.fAddr (.t 1) 3),aG 29 27 false (.load1 (.t 28)),aG 30 27 false (.call 270 [(.t 29)]),aG 31 27 false (.un .not (.t 30)),aO 32 (.pick (.t 27) (.v (.c (.b true))) (.t 31)),aM 33 32,aG 34 33 false (.fAddr (.t 1) 2),aG 35 33 false (.load1 (.t 34)),aG 36 33 false (.bin .lss (.t 35) (.v (.c (.i .i64 0)))),aO 37 (.pick (.t 33) (.v (.c (.b true))) (.t 36)),aM 38 37,aG 39 38 false (.fAddr (.t 1) 2),aG 40 38 false (.load1 (.t 39)),aG 41 38 false (.bin .gtr (.t 40) (.v (.c (.i .i64 34304)))),aO 42 (.pick (.t 38) (.v (.c (.b true))) (.t 41))] (.cond (.t 42) (sO [2] [aO 2 (.mv (.v (.c (.i .i64 1))))] .ret) .skip)) (.seq [] (sO [44,45] [aL' 43 11 1,aO 44 (.call 194 [(.t 43)]),aO 45 (.mv (.v (.c (.i .i64 0))))] (.block 0 (.loop [44,45] A9h))) A9i))),[.tmp 2]⟩
def mB:E2:=D6 270 bU (D6 194 J8 E6)
def C0G (n:Nat):KV:=kQ mB n A9i [] uK.fin
def C0H (n:Nat):KV:=F6 0 (C0G n)
def rU (n m:Nat) (x44 x45:Val):AtH:=ar mB n A9h [44,45] (C0H n) m [x44,x45]
def uW:=rx mB uK
theorem B5t (n:Nat) (a0:Val) (h:A4):uW n [a0] h=bnd (cells? a0) fun c1=>bnd (A9 (.c (.p h.length 0)) 0) fun v2=>bnd (A7 (h++[some (Row.mk (c1) true)]) v2) fun v3=>bnd (B5 .lss v3 (.c (.i .i64 0))) fun v4=>bnd (gd v4 false (bnd (A9 (.c (.p h.length 0)) 0) fun v5=>some (v5,(h++[some (Row.mk (c1) true)]))) (some (.no,(h++[some (Row.mk (c1) true)])))) fun p6=>bnd (gd v4 false (bnd (A7 p6.2 p6.1) fun v7=>some (v7,p6.2)) (some (.no,p6.2))) fun p8=>bnd (gd v4 false (bnd (B5 .gtr p8.1 (.c (.i .i64 2))) fun v9=>some (v9,p8.2)) (some (.no,p8.2))) fun p10=>bnd (F0 v4 (.c (.b true)) p10.1) fun v11=>bnd (gd v11 false (bnd (A9 (.c (.p h.length 0)) 0) fun v12=>some (v12,p10.2)) (some (.no,p10.2))) fun p13=>bnd (gd v11 false (bnd (A7 p13.2 p13.1) fun cE=>some (cE,p13.2)) (some (.no,p13.2))) fun lU=>bnd (gd v11 false (bnd (B5 .eql lU.1 (.c (.i .i64 0))) fun T7=>some (T7,lU.2)) (some (.no,lU.2))) fun xQ=>bnd (gd v11 false (some (xQ.1,xQ.2)) (some (.no,xQ.2))) fun pB=>bnd (gd pB.1 true (bnd (A8 pB.2 11 (.c (.p h.length 0))) fun dO=>some (dO,pB.2)) (some (.no,pB.2))) fun gH=>bnd (gd pB.1 true (bnd (C7 ([.i .i64 0,.i .i64 0,.i .i64 0,.i .i64 0,.i .i64 0,.i .i64 0,.i .i64 0,.i .i64 0,.i .i64 0,.i .i64 0,.i .i64 0]) []) fun c21=>some ((.a c21),gH.2)) (some (.no,gH.2))) fun p22=>bnd (gd pB.1 true (bnd (aeq true ([.i .i64,.i .i64,.i .i64,.i .i64,.i .i64,.i .i64,.i .i64,.i .i64,.i .i64,.i .i64,.i .i64]) gH.1 p22.1) fun v23=>some (v23,p22.2)) (some (.no,p22.2))) fun fU=>bnd (gd v11 false (bnd (F0 pB.1 fU.1 (.c (.b false))) fun v25=>some (v25,fU.2)) (some (.no,fU.2))) fun p26=>bnd (F0 v11 (.c (.b true)) p26.1) fun v27=>cnd v27 (some ((.c (.i .i64 1)),p26.2)) (bnd (A9 (.c (.p h.length 0)) 1) fun v28=>bnd (A7 p26.2 v28) fun v29=>bnd (bU [v29] p26.2) fun p30=>bnd (aun .not p30.1) fun v31=>bnd (gd v31 false (bnd (A9 (.c (.p h.length 0)) 3) fun v32=>some (v32,p30.2)) (some (.no,p30.2))) fun p33=>bnd (gd v31 false (bnd (A7 p33.2 p33.1) fun v34=>some (v34,p33.2)) (some (.no,p33.2))) fun p35=>bnd (gd v31 false (bnd (bU [p35.1] p35.2) fun p36=>some (p36.1,p36.2)) (some (.no,p35.2))) fun p37=>bnd (gd v31 false (bnd (aun .not p37.1) fun v38=>some (v38,p37.2)) (some (.no,p37.2))) fun p39=>bnd (F0 v31 (.c (.b true)) p39.1) fun v40=>bnd (gd v40 false (bnd (A9 (.c (.p h.length 0)) 2) fun v41=>some (v41,p39.2)) (some (.no,p39.2))) fun p42=>bnd (gd v40 false (bnd (A7 p42.2 p42.1) fun v43=>some (v43,p42.2)) (some (.no,p42.2))) fun p44=>bnd (gd v40 false (bnd (B5 .lss p44.1 (.c (.i .i64 0))) fun v45=>some (v45,p44.2)) (some (.no,p44.2))) fun p46=>bnd (F0 v40 (.c (.b true)) p46.1) fun v47=>bnd (gd v47 false (bnd (A9 (.c (.p h.length 0)) 2) fun v48=>some (v48,p46.2)) (some (.no,p46.2))) fun p49=>bnd (gd v47 false (bnd (A7 p49.2 p49.1) fun v50=>some (v50,p49.2)) (some (.no,p49.2))) fun p51=>bnd (gd v47 false (bnd (B5 .gtr p51.1 (.c (.i .i64 34304))) fun v52=>some (v52,p51.2)) (some (.no,p51.2))) fun p53=>bnd (F0 v47 (.c (.b true)) p53.1) fun v54=>cnd v54 (some ((.c (.i .i64 1)),p53.2)) (bnd (A8 p53.2 11 (.c (.p h.length 0))) fun v55=>bnd (J8 [v55] p53.2) fun p56=>rU n n p56.1 (.c (.i .i64 0)) p56.2)):=by kernel_rfl
theorem A2S (n m:Nat) (x44 x45:Val) (h:A4):rU n (m+1) x44 x45 h=bnd (B5 .lss x45 (.c (.i .i64 7))) fun v57=>cnd v57 (bnd (tQ 7 x44 x45) fun v58=>bnd (bU [v58] h) fun p59=>bnd (aun .not p59.1) fun v60=>cnd v60 (some ((.c (.i .i64 1)),p59.2)) (bnd (B5 .add x45 (.c (.i .i64 1))) fun v61=>rU n m x44 v61 p59.2)) (some ((.c (.i .i64 0)),h)):=by kernel_rfl
theorem B0N:FnK Tryz.prog 252 uK mB uW:=.mk2 (B8 B5T (B8 nZ C9)) Tryz.func252 (by kernel_rfl)
def mL:=tl uK mB
theorem B5P:SOk Tryz.prog 252 mL:=B0N.sok
theorem B19:G0 uW mL:=B0N.flat
def B4q:ACode:=sO [2,4,6,33,34,35] [aO 35 (.bin .lss (.t 34) (.v (.c (.i .i64 7))))] (.seq [2,4,6,33,34] (.cond (.t 35) .skip (.exit 0)) (.seq [2,4,6,33,34] (.block 1 (sO [2,4,6,7,8,33,34] [aM 36 34,aO 37 (.idxA1 7 (.t 33) (.t 34)),aM 7 36,aM 8 37] (.ops [aL' 38 256 6,aM 39 7,aO 40 (.bin .mul (.v (.c (.i .i64 2))) (.t 39)),aO 41 (.bin .add (.v (.c (.i .i64 10))) (.t 40)),aM 42 8,aO 43 (.call 213 [(.t 38),(.t 41),(.v (.c (.i .i64 2))),(.t 42)]),aN (.storeN 256 (.t 6) (.t 43))]))) (.ops [aO 44 (.bin .add (.t 34) (.v (.c (.i .i64 1)))),aM 34 44])))
def B4s:ACode:=sO [2,4,6,45,46] [aO 46 (.bin .lss (.t 45) (.v (.c (.i .i64 32))))] (.seq [2,4,6,45] (.cond (.t 46) .skip (.exit 2)) (.seq [2,4,6,45] (.block 3 (sO [2,4,6,9,45] [aM 47 45,aM 9 47] (.ops [aM 48 9,aM 49 9,aO 50 (.iAddrA 256 1 (.t 6) (.t 49)),aL 51 50,aO 52 (.iAddrA 32 1 (.t 4) (.t 48)),aN (.store1 (.t 52) (.t 51))]))) (.ops [aO 53 (.bin .add (.t 45) (.v (.c (.i .i64 1)))),aM 45 53])))
def B4t:ACode:=sO [2,3] [aL' 54 32 4,aN (.storeN 32 (.t 2) (.t 54)),aO 3 (.mv (.v (.c (.i .i64 0))))] .ret
def B4r:ACode:=.seq [2,4] (sO [2,4,6,45] [aO 45 (.mv (.v (.c (.i .i64 0))))] (.block 2 (.loop [2,4,6,45] B4s))) B4t
def vS:AFn:=⟨sO [1,2] [aB 1 0,aO 2 (.alloc (List.replicate 32 (.i .u8 0))),aO 3 (.mv (.v (.c (.i .i64 0))))] (sO [1,2,4] [aO 4 (.alloc (List.replicate 32 (.i .u8 0)))] (.seq [1,2,4] (sO [1,2,4,5] [aL' 10 11 1,aO 11 (.call 252 [(.t 10)]),aM 5 11] (sO [1,2,4,5,13] [aM 12 5,aO 13 (.bin .neq (.t 12) (.v (.c (.i .i64 0))))] (.cond (.t 13) (sO [2,3] [aL' 14 32 4,aM 15 5,aN (.storeN 32 (.t 2) (.t 14)),aM 3 15] .ret) .skip))) (sO [1,2,4,6] [aO 6 (.alloc (List.replicate 256 (.i .u8 0)))] (sO [1,2,4,6] [aL' 16 256 6,aF 17 1 0,aL 18 17,aO 19 (.call 213 [(.t 16),(.v (.c (.i .i64 0))),(.v (.c (.i .i64 1))),(.t 18)]),aN (.storeN 256 (.t 6) (.t 19))] (sO [1,2,4,6] [aL' 20 256 6,aF 21 1 1,aL 22 21,aO 23 (.call 213 [(.t 20),(.v (.c (.i .i64 2))),(.v (.c (.i .i64 2))),(.t 22)]),aN (.storeN 256 (.t 6) (.t 23))] (sO [1,2,4,6] [aL' 24 256 6,aF 25 1 2,aL 26 25,aO 27 (.call 213 [(.t 24),(.v (.c (.i .i64 4))),(.v (.c (.i .i64 4))),(.t 26)]),aN (.storeN 256 (.t 6) (.t 27))] (sO [1,2,4,6] [aL' 28 256 6,aF 29 1 3,aL 30 29,aO 31 (.call 213 [(.t 28),(.v (.c (.i .i64 8))),(.v (.c (.i .i64 2))),(.t 30)]),aN (.storeN 256 (.t 6) (.t 31))] (.seq [2,4,6] (sO [2,4,6,33,34] [aL' 32 11 1,aO 33 (.call 194 [(.t 32)]),aO 34 (.mv (.v (.c (.i .i64 0))))] (.block 0 (.loop [2,4,6,33,34] B4q))) B4r)))))))),[.cellN 2 32,.tmp 3]⟩
def gP:E2:=D6 252 mL (D6 213 J5 (D6 194 J8 E6))
def C4y (n:Nat):KV:=kQ gP n B4r [2,4,6] vS.fin
def C4z (n:Nat):KV:=F6 0 (C4y n)
def A0y (n m:Nat) (x2 x4 x6 x33 x34:Val):AtH:=ar gP n B4q [2,4,6,33,34] (C4z n) m [x2,x4,x6,x33,x34]
def A2k:=rx gP vS
def C4A (n:Nat):KV:=kQ gP n B4t [2,4] vS.fin
def C4B (n:Nat):KV:=F6 2 (C4A n)
def A0z (n m:Nat) (x2 x4 x6 x45:Val):AtH:=ar gP n B4s [2,4,6,45] (C4B n) m [x2,x4,x6,x45]
theorem B9g (n:Nat) (a0:Val) (h:A4):A2k n [a0] h=bnd (cells? a0) fun c1=>bnd (A8 (((h++[some (Row.mk (c1) true)])++[some (Row.mk (List.replicate 32 (.i .u8 0)) true)])++[some (Row.mk (List.replicate 32 (.i .u8 0)) true)]) 11 (.c (.p h.length 0))) fun v2=>bnd (mL [v2] (((h++[some (Row.mk (c1) true)])++[some (Row.mk (List.replicate 32 (.i .u8 0)) true)])++[some (Row.mk (List.replicate 32 (.i .u8 0)) true)])) fun p3=>bnd (B5 .neq p3.1 (.c (.i .i64 0))) fun v4=>cnd v4 (bnd (A8 p3.2 32 (.c (.p ((h++[some (Row.mk (c1) true)])++[some (Row.mk (List.replicate 32 (.i .u8 0)) true)]).length 0))) fun v5=>bnd (B4 p3.2 32 (.c (.p (h++[some (Row.mk (c1) true)]).length 0)) v5) fun h6=>I6 [A8 h6 32 (.c (.p (h++[some (Row.mk (c1) true)]).length 0)),some p3.1] h6) (bnd (A8 (p3.2++[some (Row.mk (List.replicate 256 (.i .u8 0)) true)]) 256 (.c (.p p3.2.length 0))) fun v7=>bnd (A9 (.c (.p h.length 0)) 0) fun v8=>bnd (A7 (p3.2++[some (Row.mk (List.replicate 256 (.i .u8 0)) true)]) v8) fun v9=>bnd (J5 [v7,.c (.i .i64 0),.c (.i .i64 1),v9] (p3.2++[some (Row.mk (List.replicate 256 (.i .u8 0)) true)])) fun p10=>bnd (B4 p10.2 256 (.c (.p p3.2.length 0)) p10.1) fun h11=>bnd (A8 h11 256 (.c (.p p3.2.length 0))) fun v12=>bnd (A9 (.c (.p h.length 0)) 1) fun v13=>bnd (A7 h11 v13) fun cE=>bnd (J5 [v12,.c (.i .i64 2),.c (.i .i64 2),cE] h11) fun lU=>bnd (B4 lU.2 256 (.c (.p p3.2.length 0)) lU.1) fun h16=>bnd (A8 h16 256 (.c (.p p3.2.length 0))) fun W3=>bnd (A9 (.c (.p h.length 0)) 2) fun dN=>bnd (A7 h16 dN) fun dO=>bnd (J5 [W3,.c (.i .i64 4),.c (.i .i64 4),dO] h16) fun gH=>bnd (B4 gH.2 256 (.c (.p p3.2.length 0)) gH.1) fun h21=>bnd (A8 h21 256 (.c (.p p3.2.length 0))) fun v22=>bnd (A9 (.c (.p h.length 0)) 3) fun v23=>bnd (A7 h21 v23) fun v24=>bnd (J5 [v22,.c (.i .i64 8),.c (.i .i64 2),v24] h21) fun p25=>bnd (B4 p25.2 256 (.c (.p p3.2.length 0)) p25.1) fun h26=>bnd (A8 h26 11 (.c (.p h.length 0))) fun v27=>bnd (J8 [v27] h26) fun p28=>A0y n n (.c (.p (h++[some (Row.mk (c1) true)]).length 0)) (.c (.p ((h++[some (Row.mk (c1) true)])++[some (Row.mk (List.replicate 32 (.i .u8 0)) true)]).length 0)) (.c (.p p3.2.length 0)) p28.1 (.c (.i .i64 0)) p28.2):=by kernel_rfl
theorem A63 (n m:Nat) (x2 x4 x6 x33 x34:Val) (h:A4):A0y n (m+1) x2 x4 x6 x33 x34 h=bnd (B5 .lss x34 (.c (.i .i64 7))) fun v29=>cnd v29 (bnd (tQ 7 x33 x34) fun v30=>bnd (A8 h 256 x6) fun v31=>bnd (B5 .mul (.c (.i .i64 2)) x34) fun v32=>bnd (B5 .add (.c (.i .i64 10)) v32) fun v33=>bnd (J5 [v31,v33,.c (.i .i64 2),v30] h) fun p34=>bnd (B4 p34.2 256 x6 p34.1) fun h35=>bnd (B5 .add x34 (.c (.i .i64 1))) fun v36=>A0y n m x2 x4 x6 x33 v36 h35) (A0z n n x2 x4 x6 (.c (.i .i64 0)) h):=by kernel_rfl
theorem A64 (n m:Nat) (x2 x4 x6 x45:Val) (h:A4):A0z n (m+1) x2 x4 x6 x45 h=bnd (B5 .lss x45 (.c (.i .i64 32))) fun v37=>cnd v37 (bnd (D8 256 1 x6 x45) fun v38=>bnd (A7 h v38) fun v39=>bnd (D8 32 1 x4 x45) fun v40=>bnd (D3 h v40 v39) fun h41=>bnd (B5 .add x45 (.c (.i .i64 1))) fun v42=>A0z n m x2 x4 x6 v42 h41) (bnd (A8 h 32 x4) fun v43=>bnd (B4 h 32 x2 v43) fun h44=>I6 [A8 h44 32 x2,some (.c (.i .i64 0))] h44):=by kernel_rfl
theorem B6W:FnK Tryz.prog 223 vS gP A2k:=.mk2 (B8 B5P (B8 vD (B8 nZ C9))) Tryz.func223 (by kernel_rfl)
def iD:=tl vS gP
theorem A8o:SOk Tryz.prog 223 iD:=B6W.sok
theorem B5S:G0 A2k iD:=B6W.flat
def B4o:ACode:=sO [2,3,4,17,18] [aO 18 (.bin .lss (.t 17) (.v (.c (.i .i64 6))))] (.seq [2,3,4,17] (.cond (.t 18) .skip (.exit 0)) (.seq [2,3,4,17] (.block 1 (sO [2,3,4,5,17] [aM 19 17,aM 5 19] (.ops [aM 20 5,aL' 21 256 3,aM 22 5,aO 23 (.bin .mul (.v (.c (.i .i64 2))) (.t 22)),aO 24 (.bin .add (.v (.c (.i .i64 10))) (.t 23)),aO 25 (.call 142 [(.t 21),(.t 24),(.v (.c (.i .i64 2)))]),aF 26 4 4,aO 27 (.iAddrA 6 1 (.t 26) (.t 20)),aN (.store1 (.t 27) (.t 25))]))) (.ops [aO 28 (.bin .add (.t 17) (.v (.c (.i .i64 1)))),aM 17 28])))
def B4p:ACode:=sO [2,4] [aL' 29 256 3,aO 30 (.call 142 [(.t 29),(.v (.c (.i .i64 22))),(.v (.c (.i .i64 2)))]),aF 31 4 10,aN (.store1 (.t 31) (.t 30))] (sO [2] [aL' 32 11 4,aN (.storeN 11 (.t 2) (.t 32))] .ret)
def A1Y:AFn:=⟨sO [1,2] [aB 1 0,aO 2 (.alloc ([.i .i64 0,.i .i64 0,.i .i64 0,.i .i64 0,.i .i64 0,.i .i64 0,.i .i64 0,.i .i64 0,.i .i64 0,.i .i64 0,.i .i64 0]))] (sO [2,3] [aO 6 (.slA 32 1 (.t 1) none none),aO 7 (.call 212 [(.t 6)]),aO 3 (.alloc (List.replicate 256 (.i .u8 0))),aN (.storeN 256 (.t 3) (.t 7))] (.seq [2,3,4] (.draw 1 [aL' 8 256 3,aO 9 (.call 142 [(.t 8),(.v (.c (.i .i64 0))),(.v (.c (.i .i64 1)))]),aL' 10 256 3,aO 11 (.call 142 [(.t 10),(.v (.c (.i .i64 2))),(.v (.c (.i .i64 2)))]),aL' 12 256 3,aO 13 (.call 142 [(.t 12),(.v (.c (.i .i64 4))),(.v (.c (.i .i64 4)))]),aL' 14 256 3,aO 15 (.call 142 [(.t 14),(.v (.c (.i .i64 8))),(.v (.c (.i .i64 2)))]),aO 16 (.build ([.i .i64 0,.i .i64 0,.i .i64 0,.i .i64 0,.i .i64 0,.i .i64 0,.i .i64 0,.i .i64 0,.i .i64 0,.i .i64 0,.i .i64 0]) [(0,1,(.t 9)),(1,1,(.t 11)),(2,1,(.t 13)),(3,1,(.t 15))]),aS 4 0 (.alloc ([.i .i64 0,.i .i64 0,.i .i64 0,.i .i64 0,.i .i64 0,.i .i64 0,.i .i64 0,.i .i64 0,.i .i64 0,.i .i64 0,.i .i64 0]))] [aN (.storeN 11 (.t 4) (.t 16))]) (.seq [2,3,4] (sO [2,3,4,17] [aO 17 (.mv (.v (.c (.i .i64 0))))] (.block 0 (.loop [2,3,4,17] B4o))) B4p))),[.cellN 2 11]⟩
def vV:E2:=D6 212 iG (D6 142 N5 E6)
def C4w (n:Nat):KV:=kQ vV n B4p [2,3,4] A1Y.fin
def C4x (n:Nat):KV:=F6 0 (C4w n)
def A0x (n m:Nat) (x2 x3 x4 x17:Val):AtH:=ar vV n B4o [2,3,4,17] (C4x n) m [x2,x3,x4,x17]
def A2j:=rx vV A1Y
theorem B9f (n:Nat) (a0:Val) (h:A4):A2j n [a0] h=bnd (cells? a0) fun c1=>bnd (B8u ((h++[some (Row.mk (c1) true)])++[some (Row.mk ([.i .i64 0,.i .i64 0,.i .i64 0,.i .i64 0,.i .i64 0,.i .i64 0,.i .i64 0,.i .i64 0,.i .i64 0,.i .i64 0,.i .i64 0]) true)]) 32 1 (.c (.p h.length 0)) none none) fun v2=>bnd (iG [v2] ((h++[some (Row.mk (c1) true)])++[some (Row.mk ([.i .i64 0,.i .i64 0,.i .i64 0,.i .i64 0,.i .i64 0,.i .i64 0,.i .i64 0,.i .i64 0,.i .i64 0,.i .i64 0,.i .i64 0]) true)])) fun p3=>bnd (B4 (p3.2++[some (Row.mk (List.replicate 256 (.i .u8 0)) true)]) 256 (.c (.p p3.2.length 0)) p3.1) fun h4=>bnd (A8 h4 256 (.c (.p p3.2.length 0))) fun v5=>bnd (quiet (h4++[none]) (N5 [v5,.c (.i .i64 0),.c (.i .i64 1)] (h4++[none]))) fun p6=>bnd (A8 h4 256 (.c (.p p3.2.length 0))) fun v7=>bnd (quiet p6.2 (N5 [v7,.c (.i .i64 2),.c (.i .i64 2)] p6.2)) fun p8=>bnd (A8 h4 256 (.c (.p p3.2.length 0))) fun v9=>bnd (quiet p8.2 (N5 [v9,.c (.i .i64 4),.c (.i .i64 4)] p8.2)) fun p10=>bnd (A8 h4 256 (.c (.p p3.2.length 0))) fun v11=>bnd (quiet p10.2 (N5 [v11,.c (.i .i64 8),.c (.i .i64 2)] p10.2)) fun p12=>bnd (C7 ([.i .i64 0,.i .i64 0,.i .i64 0,.i .i64 0,.i .i64 0,.i .i64 0,.i .i64 0,.i .i64 0,.i .i64 0,.i .i64 0,.i .i64 0]) [(0,1,p6.1),(1,1,p8.1),(2,1,p10.1),(3,1,p12.1)]) fun c13=>bnd (B4 (p12.2.set (h4.length+0) (some (Row.mk ([.i .i64 0,.i .i64 0,.i .i64 0,.i .i64 0,.i .i64 0,.i .i64 0,.i .i64 0,.i .i64 0,.i .i64 0,.i .i64 0,.i .i64 0]) true))) 11 (.c (.p (h4.length+0) 0)) (.a c13)) fun h14=>A0x n n (.c (.p (h++[some (Row.mk (c1) true)]).length 0)) (.c (.p p3.2.length 0)) (.c (.p (h4.length+0) 0)) (.c (.i .i64 0)) h14:=by kernel_rfl
theorem A62 (n m:Nat) (x2 x3 x4 x17:Val) (h:A4):A0x n (m+1) x2 x3 x4 x17 h=bnd (B5 .lss x17 (.c (.i .i64 6))) fun dE=>cnd dE (bnd (A8 h 256 x3) fun T7=>bnd (B5 .mul (.c (.i .i64 2)) x17) fun W3=>bnd (B5 .add (.c (.i .i64 10)) W3) fun dN=>bnd (N5 [T7,dN,.c (.i .i64 2)] h) fun oY=>bnd (A9 x4 4) fun jN=>bnd (D8 6 1 jN x17) fun v21=>bnd (D3 oY.2 v21 oY.1) fun h22=>bnd (B5 .add x17 (.c (.i .i64 1))) fun v23=>A0x n m x2 x3 x4 v23 h22) (bnd (A8 h 256 x3) fun v24=>bnd (N5 [v24,.c (.i .i64 22),.c (.i .i64 2)] h) fun p25=>bnd (A9 x4 10) fun v26=>bnd (D3 p25.2 v26 p25.1) fun h27=>bnd (A8 h27 11 x4) fun v28=>bnd (B4 h27 11 x2 v28) fun h29=>mp (A8 h29 11 x2) fun v=>(v,h29)):=by kernel_rfl
theorem B6V:FnK Tryz.prog 222 A1Y vV A2j:=.mk2 (B8 A2v (B8 wN C9)) Tryz.func222 (by kernel_rfl)
def wJ:=tl A1Y vV
theorem B9C:SOk Tryz.prog 222 wJ:=B6V.sok
theorem B5R:G0 A2j wJ:=B6V.flat
def A3d:AFn:=⟨sO [1,2] [aB 1 0,aO 2 (.alloc ([.i .i64 0,.i .i64 0,.i .i64 0,.i .i64 0,.i .i64 0,.i .i64 0,.i .i64 0,.i .i64 0,.i .i64 0,.i .i64 0,.i .i64 0])),aO 3 (.mv (.v (.c (.b false))))] (sO [1,2,4] [aL' 7 32 1,aO 8 (.call 222 [(.t 7)]),aO 4 (.alloc ([.i .i64 0,.i .i64 0,.i .i64 0,.i .i64 0,.i .i64 0,.i .i64 0,.i .i64 0,.i .i64 0,.i .i64 0,.i .i64 0,.i .i64 0])),aN (.storeN 11 (.t 4) (.t 8))] (.seq [2,4] (sO [1,2,4,5,6] [aL' 10 11 4,aO 11 (.call 223 [(.t 10)]),aM 9 11,aE 12 9 0,aE 13 9 1,aO 5 (.alloc (List.replicate 32 (.i .u8 0))),aN (.storeN 32 (.t 5) (.t 12)),aM 6 13] (sO [2,4,20] [aM 14 6,aO 15 (.bin .neq (.t 14) (.v (.c (.i .i64 0)))),aM 16 15,aG 17 16 false (.loadN 32 (.t 5)),aG 18 16 false (.loadN 32 (.t 1)),aG 19 16 false (.eqA true (List.replicate 32 (.i .u8)) (.t 17) (.t 18)),aO 20 (.pick (.t 16) (.v (.c (.b true))) (.t 19))] (.cond (.t 20) (sO [2,3] [aO 21 (.build ([.i .i64 0,.i .i64 0,.i .i64 0,.i .i64 0,.i .i64 0,.i .i64 0,.i .i64 0,.i .i64 0,.i .i64 0,.i .i64 0,.i .i64 0]) []),aN (.storeN 11 (.t 2) (.t 21)),aO 3 (.mv (.v (.c (.b false))))] .ret) .skip))) (sO [2,3] [aL' 22 11 4,aN (.storeN 11 (.t 2) (.t 22)),aO 3 (.mv (.v (.c (.b true))))] .ret))),[.cellN 2 11,.tmp 3]⟩
def A3r:E2:=D6 222 wJ (D6 223 iD E6)
def uX:=rx A3r A3d
theorem B5u (n:Nat) (a0:Val) (h:A4):uX n [a0] h=bnd (cells? a0) fun c1=>bnd (A8 ((h++[some (Row.mk (c1) true)])++[some (Row.mk ([.i .i64 0,.i .i64 0,.i .i64 0,.i .i64 0,.i .i64 0,.i .i64 0,.i .i64 0,.i .i64 0,.i .i64 0,.i .i64 0,.i .i64 0]) true)]) 32 (.c (.p h.length 0))) fun v2=>bnd (wJ [v2] ((h++[some (Row.mk (c1) true)])++[some (Row.mk ([.i .i64 0,.i .i64 0,.i .i64 0,.i .i64 0,.i .i64 0,.i .i64 0,.i .i64 0,.i .i64 0,.i .i64 0,.i .i64 0,.i .i64 0]) true)])) fun p3=>bnd (B4 (p3.2++[some (Row.mk ([.i .i64 0,.i .i64 0,.i .i64 0,.i .i64 0,.i .i64 0,.i .i64 0,.i .i64 0,.i .i64 0,.i .i64 0,.i .i64 0,.i .i64 0]) true)]) 11 (.c (.p p3.2.length 0)) p3.1) fun h4=>bnd (A8 h4 11 (.c (.p p3.2.length 0))) fun v5=>bnd (iD [v5] h4) fun p6=>bnd (H0 p6.1 0) fun v7=>bnd (H0 p6.1 1) fun v8=>bnd (B4 (p6.2++[some (Row.mk (List.replicate 32 (.i .u8 0)) true)]) 32 (.c (.p p6.2.length 0)) v7) fun h9=>bnd (B5 .neq v8 (.c (.i .i64 0))) fun T6=>bnd (gd T6 false (bnd (A8 h9 32 (.c (.p p6.2.length 0))) fun v11=>some (v11,h9)) (some (.no,h9))) fun p12=>bnd (gd T6 false (bnd (A8 p12.2 32 (.c (.p h.length 0))) fun v13=>some (v13,p12.2)) (some (.no,p12.2))) fun dG=>bnd (gd T6 false (bnd (aeq true (List.replicate 32 (.i .u8)) p12.1 dG.1) fun dE=>some (dE,dG.2)) (some (.no,dG.2))) fun sF=>bnd (F0 T6 (.c (.b true)) sF.1) fun W3=>cnd W3 (bnd (C7 ([.i .i64 0,.i .i64 0,.i .i64 0,.i .i64 0,.i .i64 0,.i .i64 0,.i .i64 0,.i .i64 0,.i .i64 0,.i .i64 0,.i .i64 0]) []) fun c18=>bnd (B4 sF.2 11 (.c (.p (h++[some (Row.mk (c1) true)]).length 0)) (.a c18)) fun h19=>I6 [A8 h19 11 (.c (.p (h++[some (Row.mk (c1) true)]).length 0)),some (.c (.b false))] h19) (bnd (A8 sF.2 11 (.c (.p p3.2.length 0))) fun jN=>bnd (B4 sF.2 11 (.c (.p (h++[some (Row.mk (c1) true)]).length 0)) jN) fun h21=>I6 [A8 h21 11 (.c (.p (h++[some (Row.mk (c1) true)]).length 0)),some (.c (.b true))] h21):=by kernel_rfl
theorem B0O:FnK Tryz.prog 147 A3d A3r uX:=.mk2 (B8 B9C (B8 A8o C9)) Tryz.func147 (by kernel_rfl)
def mM:=tl A3d A3r
theorem B5Q:SOk Tryz.prog 147 mM:=B0O.sok
theorem B2a:G0 uX mM:=B0O.flat
def A0Q:AFn:=⟨sO [0] [aO 2 (.mv (.v (.c (.i .i64 0))))] (.seq [0] (.block 0 (sO [0,3] [aM 4 0,aO 5 (.bin .lss (.t 4) (.v (.c (.i .i64 1)))),aM 3 5] (.cond (.t 3) (sO [2] [aO 2 (.mv (.v (.c (.i .i64 0))))] .ret) (sO [0,6] [aM 7 0,aO 8 (.bin .gtr (.t 7) (.v (.c (.i .i64 34304)))),aM 6 8] (.cond (.t 6) (sO [2] [aO 2 (.mv (.v (.c (.i .i64 134))))] .ret) .skip))))) (sO [2] [aM 9 0,aO 10 (.bin .add (.t 9) (.v (.c (.i .i64 256)))),aO 11 (.bin .sub (.t 10) (.v (.c (.i .i64 1)))),aO 12 (.bin .quo (.t 11) (.v (.c (.i .i64 256)))),aM 2 12] .ret)),[.tmp 2]⟩
def A0V:E2:=E6
def A03:=rx A0V A0Q
theorem B3i (n:Nat) (a0:Val) (h:A4):A03 n [a0] h=bnd (B5 .lss a0 (.c (.i .i64 1))) fun v1=>cnd v1 (some ((.c (.i .i64 0)),h)) (bnd (B5 .gtr a0 (.c (.i .i64 34304))) fun v2=>cnd v2 (some ((.c (.i .i64 134)),h)) (bnd (B5 .add a0 (.c (.i .i64 256))) fun v3=>bnd (B5 .sub v3 (.c (.i .i64 1))) fun v4=>bnd (B5 .quo v4 (.c (.i .i64 256))) fun v5=>some (v5,h))):=by kernel_rfl
theorem A70:FnK Tryz.prog 172 A0Q A0V A03:=.mk2 C9 Tryz.func172 (by kernel_rfl)
def hJ:=tl A0Q A0V
theorem B3C:SOk Tryz.prog 172 hJ:=A70.sok
theorem B0h:G0 A03 hJ:=A70.flat
end
noncomputable section
def A3g:AFn:=⟨sO [1] [aB 1 0,aO 2 (.mv (.v (.c (.i .i64 0))))] (sO [1,3] [aF 4 1 1,aL 5 4,aO 6 (.len (.t 5)),aM 3 6] (.seq [] (sO [24] [aM 7 3,aO 8 (.bin .lss (.t 7) (.v (.c (.i .i64 1)))),aM 9 8,gM 10 9 false 3,aG 11 9 false (.bin .gtr (.t 10) (.v (.c (.i .i64 256)))),aO 12 (.pick (.t 9) (.v (.c (.b true))) (.t 11)),aM 13 12,aG 14 13 false (.fAddr (.t 1) 0),aG 15 13 false (.load1 (.t 14)),aG 16 13 false (.bin .lss (.t 15) (.v (.c (.i .i64 0)))),aO 17 (.pick (.t 13) (.v (.c (.b true))) (.t 16)),aM 18 17,aG 19 18 false (.fAddr (.t 1) 0),aG 20 18 false (.load1 (.t 19)),gM 21 18 false 3,aG 22 18 false (.bin .sub (.v (.c (.i .i64 256))) (.t 21)),aG 23 18 false (.bin .gtr (.t 20) (.t 22)),aO 24 (.pick (.t 18) (.v (.c (.b true))) (.t 23))] (.cond (.t 24) (sO [2] [aO 2 (.mv (.v (.c (.i .i64 2))))] .ret) .skip)) (sO [2] [aO 2 (.mv (.v (.c (.i .i64 0))))] .ret))),[.tmp 2]⟩
def A3u:E2:=E6
def uZ:=rx A3u A3g
theorem B5y (n:Nat) (a0:Val) (h:A4):uZ n [a0] h=bnd (cells? a0) fun c1=>bnd (A9 (.c (.p h.length 0)) 1) fun v2=>bnd (A7 (h++[some (Row.mk (c1) true)]) v2) fun v3=>bnd (O0 v3) fun v4=>bnd (B5 .lss v4 (.c (.i .i64 1))) fun v5=>bnd (gd v5 false (some (v4,(h++[some (Row.mk (c1) true)]))) (some (.no,(h++[some (Row.mk (c1) true)])))) fun p6=>bnd (gd v5 false (bnd (B5 .gtr p6.1 (.c (.i .i64 256))) fun v7=>some (v7,p6.2)) (some (.no,p6.2))) fun p8=>bnd (F0 v5 (.c (.b true)) p8.1) fun v9=>bnd (gd v9 false (bnd (A9 (.c (.p h.length 0)) 0) fun T6=>some (T6,p8.2)) (some (.no,p8.2))) fun p11=>bnd (gd v9 false (bnd (A7 p11.2 p11.1) fun v12=>some (v12,p11.2)) (some (.no,p11.2))) fun p13=>bnd (gd v9 false (bnd (B5 .lss p13.1 (.c (.i .i64 0))) fun cE=>some (cE,p13.2)) (some (.no,p13.2))) fun lU=>bnd (F0 v9 (.c (.b true)) lU.1) fun T7=>bnd (gd T7 false (bnd (A9 (.c (.p h.length 0)) 0) fun W3=>some (W3,lU.2)) (some (.no,lU.2))) fun pB=>bnd (gd T7 false (bnd (A7 pB.2 pB.1) fun dO=>some (dO,pB.2)) (some (.no,pB.2))) fun gH=>bnd (gd T7 false (some (v4,gH.2)) (some (.no,gH.2))) fun p21=>bnd (gd T7 false (bnd (B5 .sub (.c (.i .i64 256)) p21.1) fun v22=>some (v22,p21.2)) (some (.no,p21.2))) fun p23=>bnd (gd T7 false (bnd (B5 .gtr gH.1 p23.1) fun v24=>some (v24,p23.2)) (some (.no,p23.2))) fun p25=>bnd (F0 T7 (.c (.b true)) p25.1) fun v26=>cnd v26 (some ((.c (.i .i64 2)),p25.2)) (some ((.c (.i .i64 0)),p25.2)):=by kernel_rfl
theorem B0R:FnK Tryz.prog 244 A3g A3u uZ:=.mk2 C9 Tryz.func244 (by kernel_rfl)
def mO:=tl A3g A3u
theorem B50:SOk Tryz.prog 244 mO:=B0R.sok
theorem B2d:G0 uZ mO:=B0R.flat
def B4S:ACode:=sO [2,3,4,12,13,14,15] [aO 15 (.bin .lss (.t 14) (.t 13))] (.seq [2,3,4,12,13,14] (.cond (.t 15) .skip (.exit 0)) (.seq [2,3,4,12,13,14] (.block 1 (sO [2,3,4,5,6,12,13,14] [aM 16 14,aO 17 (.iAddrL 1 (.t 12) (.t 14)),aL 18 17,aM 5 16,aM 6 18] (.ops [aF 19 3 0,aL 20 19,aM 21 5,aO 22 (.bin .add (.t 20) (.t 21)),aM 23 6,aO 24 (.iAddrA 256 1 (.t 2) (.t 22)),aN (.store1 (.t 24) (.t 23))]))) (.ops [aO 25 (.bin .add (.t 14) (.v (.c (.i .i64 1)))),aM 14 25])))
def B4T:ACode:=sO [4] [aL' 26 256 2,aN (.storeN 256 (.t 4) (.t 26))] .ret
def A12:AFn:=⟨sO [2,3,4] [aB 2 0,aB 3 1,aO 4 (.alloc (List.replicate 256 (.i .u8 0)))] (.seq [2,3,4] (sO [2,3,4,9] [aL' 7 2 3,aO 8 (.call 244 [(.t 7)]),aO 9 (.bin .neq (.t 8) (.v (.c (.i .i64 0))))] (.cond (.t 9) (sO [4] [aL' 10 256 2,aN (.storeN 256 (.t 4) (.t 10))] .ret) .skip)) (.seq [2,4] (sO [2,3,4,12,13,14] [aF 11 3 1,aL 12 11,aO 13 (.len (.t 12)),aO 14 (.mv (.v (.c (.i .i64 0))))] (.block 0 (.loop [2,3,4,12,13,14] B4S))) B4T)),[.cellN 4 256]⟩
def vX:E2:=D6 244 mO E6
def C40 (n:Nat):KV:=kQ vX n B4T [2,4] A12.fin
def C41 (n:Nat):KV:=F6 0 (C40 n)
def A0E (n m:Nat) (x2 x3 x4 x12 kN x14:Val):AtH:=ar vX n B4S [2,3,4,12,13,14] (C41 n) m [x2,x3,x4,x12,kN,x14]
def A2o:=rx vX A12
theorem B9o (n:Nat) (a0 a1:Val) (h:A4):A2o n [a0,a1] h=bnd (cells? a0) fun c1=>bnd (cells? a1) fun c2=>bnd (A8 (((h++[some (Row.mk (c1) true)])++[some (Row.mk (c2) true)])++[some (Row.mk (List.replicate 256 (.i .u8 0)) true)]) 2 (.c (.p (h++[some (Row.mk (c1) true)]).length 0))) fun v3=>bnd (mO [v3] (((h++[some (Row.mk (c1) true)])++[some (Row.mk (c2) true)])++[some (Row.mk (List.replicate 256 (.i .u8 0)) true)])) fun p4=>bnd (B5 .neq p4.1 (.c (.i .i64 0))) fun v5=>cnd v5 (bnd (A8 p4.2 256 (.c (.p h.length 0))) fun v6=>bnd (B4 p4.2 256 (.c (.p ((h++[some (Row.mk (c1) true)])++[some (Row.mk (c2) true)]).length 0)) v6) fun h7=>mp (A8 h7 256 (.c (.p ((h++[some (Row.mk (c1) true)])++[some (Row.mk (c2) true)]).length 0))) fun v=>(v,h7)) (bnd (A9 (.c (.p (h++[some (Row.mk (c1) true)]).length 0)) 1) fun v8=>bnd (A7 p4.2 v8) fun v9=>bnd (O0 v9) fun T6=>A0E n n (.c (.p h.length 0)) (.c (.p (h++[some (Row.mk (c1) true)]).length 0)) (.c (.p ((h++[some (Row.mk (c1) true)])++[some (Row.mk (c2) true)]).length 0)) v9 T6 (.c (.i .i64 0)) p4.2):=by kernel_rfl
theorem A7a (n m:Nat) (x2 x3 x4 x12 kN x14:Val) (h:A4):A0E n (m+1) x2 x3 x4 x12 kN x14 h=bnd (B5 .lss x14 kN) fun v11=>cnd v11 (bnd (C4 1 x12 x14) fun v12=>bnd (A7 h v12) fun v13=>bnd (A9 x3 0) fun cE=>bnd (A7 h cE) fun dE=>bnd (B5 .add dE x14) fun T7=>bnd (D8 256 1 x2 T7) fun W3=>bnd (D3 h W3 v13) fun h18=>bnd (B5 .add x14 (.c (.i .i64 1))) fun dO=>A0E n m x2 x3 x4 x12 kN dO h18) (bnd (A8 h 256 x2) fun jN=>bnd (B4 h 256 x4 jN) fun h21=>mp (A8 h21 256 x4) fun v=>(v,h21)):=by kernel_rfl
theorem B62:FnK Tryz.prog 191 A12 vX A2o:=.mk2 (B8 B50 C9) Tryz.func191 (by kernel_rfl)
def iH:=tl A12 vX
theorem A8r:SOk Tryz.prog 191 iH:=B62.sok
theorem B51:G0 A2o iH:=B62.flat
end
noncomputable section
def A3i:AFn:=⟨sO [0,3,4] [aB 3 1,aO 4 (.alloc ([.i .i64 0,.ns])),aO 5 (.mv (.v (.c (.i .i64 0))))] (.seq [0,3,4] (sO [0,3,4,13] [aM 8 0,aO 9 (.bin .lss (.t 8) (.v (.c (.i .i64 0)))),aM 10 9,gM 11 10 false 0,aG 12 10 false (.bin .geq (.t 11) (.v (.c (.i .i64 8)))),aO 13 (.pick (.t 10) (.v (.c (.b true))) (.t 12))] (.cond (.t 13) (sO [4,5] [aO 14 (.build ([.i .i64 0,.ns]) []),aN (.storeN 2 (.t 4) (.t 14)),aO 5 (.mv (.v (.c (.i .i64 2))))] .ret) .skip)) (sO [0,4,6,7] [aL' 16 11 3,aO 17 (.call 223 [(.t 16)]),aM 15 17,aE 18 15 0,aE 19 15 1,aO 6 (.alloc (List.replicate 32 (.i .u8 0))),aN (.storeN 32 (.t 6) (.t 18)),aM 7 19] (.seq [0,4,6] (sO [0,4,6,7,21] [aM 20 7,aO 21 (.bin .neq (.t 20) (.v (.c (.i .i64 0))))] (.cond (.t 21) (sO [4,5] [aO 22 (.build ([.i .i64 0,.ns]) []),aM 23 7,aN (.storeN 2 (.t 4) (.t 22)),aM 5 23] .ret) .skip)) (sO [4,5] [aM 24 0,aO 25 (.bin .mul (.t 24) (.v (.c (.i .i64 32)))),aO 26 (.buildSl 1 0 ([]) []),aO 27 (.slA 32 1 (.t 6) none none),aO 28 (.app 1 (.t 26) (.t 27)),aO 29 (.build ([.i .i64 0,.ns]) [(0,1,(.t 25)),(1,1,(.t 28))]),aN (.storeN 2 (.t 4) (.t 29)),aO 5 (.mv (.v (.c (.i .i64 0))))] .ret)))),[.cellN 4 2,.tmp 5]⟩
def A3w:E2:=D6 223 iD E6
def vB:=rx A3w A3i
theorem B5B (n:Nat) (a0 a1:Val) (h:A4):vB n [a0,a1] h=bnd (cells? a1) fun c1=>bnd (B5 .lss a0 (.c (.i .i64 0))) fun v2=>bnd (gd v2 false (some (a0,((h++[some (Row.mk (c1) true)])++[some (Row.mk ([.i .i64 0,.ns]) true)]))) (some (.no,((h++[some (Row.mk (c1) true)])++[some (Row.mk ([.i .i64 0,.ns]) true)])))) fun p3=>bnd (gd v2 false (bnd (B5 .geq p3.1 (.c (.i .i64 8))) fun v4=>some (v4,p3.2)) (some (.no,p3.2))) fun p5=>bnd (F0 v2 (.c (.b true)) p5.1) fun v6=>cnd v6 (bnd (C7 ([.i .i64 0,.ns]) []) fun c7=>bnd (B4 p5.2 2 (.c (.p (h++[some (Row.mk (c1) true)]).length 0)) (.a c7)) fun h8=>I6 [A8 h8 2 (.c (.p (h++[some (Row.mk (c1) true)]).length 0)),some (.c (.i .i64 2))] h8) (bnd (A8 p5.2 11 (.c (.p h.length 0))) fun v9=>bnd (iD [v9] p5.2) fun p10=>bnd (H0 p10.1 0) fun v11=>bnd (H0 p10.1 1) fun v12=>bnd (B4 (p10.2++[some (Row.mk (List.replicate 32 (.i .u8 0)) true)]) 32 (.c (.p p10.2.length 0)) v11) fun h13=>bnd (B5 .neq v12 (.c (.i .i64 0))) fun cE=>cnd cE (bnd (C7 ([.i .i64 0,.ns]) []) fun c15=>bnd (B4 h13 2 (.c (.p (h++[some (Row.mk (c1) true)]).length 0)) (.a c15)) fun h16=>I6 [A8 h16 2 (.c (.p (h++[some (Row.mk (c1) true)]).length 0)),some v12] h16) (bnd (B5 .mul a0 (.c (.i .i64 32))) fun W3=>bnd (C7 ([]) []) fun c18=>bnd (B8u (h13++[some (Row.mk (c18) true)]) 32 1 (.c (.p p10.2.length 0)) none none) fun dO=>bnd (W7 (h13++[some (Row.mk (c18) true)]) 1 (.c (.sl h13.length 0 0 1)) dO) fun gH=>bnd (C7 ([.i .i64 0,.ns]) [(0,1,W3),(1,1,gH.1)]) fun c21=>bnd (B4 gH.2 2 (.c (.p (h++[some (Row.mk (c1) true)]).length 0)) (.a c21)) fun h22=>I6 [A8 h22 2 (.c (.p (h++[some (Row.mk (c1) true)]).length 0)),some (.c (.i .i64 0))] h22)):=by kernel_rfl
theorem B0U:FnK Tryz.prog 190 A3i A3w vB:=.mk2 (B8 A8o C9) Tryz.func190 (by kernel_rfl)
def mQ:=tl A3i A3w
theorem B57:SOk Tryz.prog 190 mQ:=B0U.sok
theorem B2f:C8k vB mQ:=B0U.tidy
def A5n:AFn:=⟨sO [1,3,5,6] [aB 3 0,aB 5 2,aO 6 (.alloc (List.replicate 256 (.i .u8 0))),aO 7 (.mv (.v (.c (.i .i64 0))))] (sO [3,6,8,9] [aM 11 1,aL' 12 11 5,aO 13 (.call 190 [(.t 11),(.t 12)]),aM 10 13,aE 14 10 0,aE 15 10 1,aO 8 (.alloc ([.i .i64 0,.ns])),aN (.storeN 2 (.t 8) (.t 14)),aM 9 15] (.seq [3,6,8] (sO [3,6,8,9,17] [aM 16 9,aO 17 (.bin .neq (.t 16) (.v (.c (.i .i64 0))))] (.cond (.t 17) (sO [6,7] [aL' 18 256 3,aM 19 9,aN (.storeN 256 (.t 6) (.t 18)),aM 7 19] .ret) .skip)) (sO [6,7] [aL' 20 256 3,aL' 21 2 8,aO 22 (.call 191 [(.t 20),(.t 21)]),aN (.storeN 256 (.t 6) (.t 22)),aO 7 (.mv (.v (.c (.i .i64 0))))] .ret))),[.cellN 6 256,.tmp 7]⟩
def A5x:E2:=D6 190 mQ (D6 191 iH E6)
def A0n:=rx A5x A5n
theorem B8b (n:Nat) (a0 a1 a2:Val) (h:A4):A0n n [a0,a1,a2] h=bnd (cells? a0) fun c1=>bnd (cells? a2) fun c2=>bnd (A8 (((h++[some (Row.mk (c1) true)])++[some (Row.mk (c2) true)])++[some (Row.mk (List.replicate 256 (.i .u8 0)) true)]) 11 (.c (.p (h++[some (Row.mk (c1) true)]).length 0))) fun v3=>bnd (mQ [a1,v3] (((h++[some (Row.mk (c1) true)])++[some (Row.mk (c2) true)])++[some (Row.mk (List.replicate 256 (.i .u8 0)) true)])) fun p4=>bnd (H0 p4.1 0) fun v5=>bnd (H0 p4.1 1) fun v6=>bnd (B4 (p4.2++[some (Row.mk ([.i .i64 0,.ns]) true)]) 2 (.c (.p p4.2.length 0)) v5) fun h7=>bnd (B5 .neq v6 (.c (.i .i64 0))) fun v8=>cnd v8 (bnd (A8 h7 256 (.c (.p h.length 0))) fun v9=>bnd (B4 h7 256 (.c (.p ((h++[some (Row.mk (c1) true)])++[some (Row.mk (c2) true)]).length 0)) v9) fun h10=>I6 [A8 h10 256 (.c (.p ((h++[some (Row.mk (c1) true)])++[some (Row.mk (c2) true)]).length 0)),some v6] h10) (bnd (A8 h7 256 (.c (.p h.length 0))) fun v11=>bnd (A8 h7 2 (.c (.p p4.2.length 0))) fun v12=>bnd (iH [v11,v12] h7) fun p13=>bnd (B4 p13.2 256 (.c (.p ((h++[some (Row.mk (c1) true)])++[some (Row.mk (c2) true)]).length 0)) p13.1) fun h14=>I6 [A8 h14 256 (.c (.p ((h++[some (Row.mk (c1) true)])++[some (Row.mk (c2) true)]).length 0)),some (.c (.i .i64 0))] h14):=by kernel_rfl
theorem B3e:FnK Tryz.prog 115 A5n A5x A0n:=.mk2 (B8 B57 (B8 A8r C9)) Tryz.func115 (by kernel_rfl)
def bA:=tl A5n A5x
theorem A6P:SOk Tryz.prog 115 bA:=B3e.sok
theorem B3K:G0 A0n bA:=B3e.flat
def B43:ACode:=sO [1,2,4,5,14,15] [aO 15 (.bin .lss (.t 14) (.v (.c (.i .i64 32))))] (.seq [1,2,4,5,14] (.cond (.t 15) .skip (.exit 0)) (.seq [1,2,4,5,14] (.block 1 (sO [1,2,4,5,6,14] [aM 16 14,aM 6 16] (.ops [aM 17 6,aM 18 1,aO 19 (.bin .mul (.t 18) (.v (.c (.i .i64 32)))),aM 20 6,aO 21 (.bin .add (.t 19) (.t 20)),aO 22 (.iAddrA 256 1 (.t 2) (.t 21)),aL 23 22,aO 24 (.iAddrA 32 1 (.t 5) (.t 17)),aN (.store1 (.t 24) (.t 23))]))) (.ops [aO 25 (.bin .add (.t 14) (.v (.c (.i .i64 1)))),aM 14 25])))
def B44:ACode:=sO [4] [aL' 26 32 5,aN (.storeN 32 (.t 4) (.t 26))] .ret
def A13:AFn:=⟨sO [1,2,4] [aB 2 0,aO 4 (.alloc (List.replicate 32 (.i .u8 0)))] (sO [1,2,4,5] [aO 5 (.alloc (List.replicate 32 (.i .u8 0)))] (.seq [1,2,4,5] (sO [1,2,4,5,12] [aM 7 1,aO 8 (.bin .lss (.t 7) (.v (.c (.i .i64 0)))),aM 9 8,gM 10 9 false 1,aG 11 9 false (.bin .geq (.t 10) (.v (.c (.i .i64 8)))),aO 12 (.pick (.t 9) (.v (.c (.b true))) (.t 11))] (.cond (.t 12) (sO [4] [aL' 13 32 5,aN (.storeN 32 (.t 4) (.t 13))] .ret) .skip)) (.seq [4,5] (sO [1,2,4,5,14] [aO 14 (.mv (.v (.c (.i .i64 0))))] (.block 0 (.loop [1,2,4,5,14] B43))) B44))),[.cellN 4 32]⟩
def vY:E2:=E6
def C5b (n:Nat):KV:=kQ vY n B44 [4,5] A13.fin
def C5c (n:Nat):KV:=F6 0 (C5b n)
def A0G (n m:Nat) (x1 x2 x4 x5 x14:Val):AtH:=ar vY n B43 [1,2,4,5,14] (C5c n) m [x1,x2,x4,x5,x14]
def A2s:=rx vY A13
theorem B9s (n:Nat) (a0 a1:Val) (h:A4):A2s n [a0,a1] h=bnd (cells? a0) fun c1=>bnd (B5 .lss a1 (.c (.i .i64 0))) fun v2=>bnd (gd v2 false (some (a1,(((h++[some (Row.mk (c1) true)])++[some (Row.mk (List.replicate 32 (.i .u8 0)) true)])++[some (Row.mk (List.replicate 32 (.i .u8 0)) true)]))) (some (.no,(((h++[some (Row.mk (c1) true)])++[some (Row.mk (List.replicate 32 (.i .u8 0)) true)])++[some (Row.mk (List.replicate 32 (.i .u8 0)) true)])))) fun p3=>bnd (gd v2 false (bnd (B5 .geq p3.1 (.c (.i .i64 8))) fun v4=>some (v4,p3.2)) (some (.no,p3.2))) fun p5=>bnd (F0 v2 (.c (.b true)) p5.1) fun v6=>cnd v6 (bnd (A8 p5.2 32 (.c (.p ((h++[some (Row.mk (c1) true)])++[some (Row.mk (List.replicate 32 (.i .u8 0)) true)]).length 0))) fun v7=>bnd (B4 p5.2 32 (.c (.p (h++[some (Row.mk (c1) true)]).length 0)) v7) fun h8=>mp (A8 h8 32 (.c (.p (h++[some (Row.mk (c1) true)]).length 0))) fun v=>(v,h8)) (A0G n n a1 (.c (.p h.length 0)) (.c (.p (h++[some (Row.mk (c1) true)]).length 0)) (.c (.p ((h++[some (Row.mk (c1) true)])++[some (Row.mk (List.replicate 32 (.i .u8 0)) true)]).length 0)) (.c (.i .i64 0)) p5.2):=by kernel_rfl
theorem A7f (n m:Nat) (x1 x2 x4 x5 x14:Val) (h:A4):A0G n (m+1) x1 x2 x4 x5 x14 h=bnd (B5 .lss x14 (.c (.i .i64 32))) fun v9=>cnd v9 (bnd (B5 .mul x1 (.c (.i .i64 32))) fun T6=>bnd (B5 .add T6 x14) fun v11=>bnd (D8 256 1 x2 v11) fun v12=>bnd (A7 h v12) fun v13=>bnd (D8 32 1 x5 x14) fun cE=>bnd (D3 h cE v13) fun h15=>bnd (B5 .add x14 (.c (.i .i64 1))) fun T7=>A0G n m x1 x2 x4 x5 T7 h15) (bnd (A8 h 32 x5) fun W3=>bnd (B4 h 32 x4 W3) fun h18=>mp (A8 h18 32 x4) fun v=>(v,h18)):=by kernel_rfl
theorem B66:FnK Tryz.prog 148 A13 vY A2s:=.mk2 C9 Tryz.func148 (by kernel_rfl)
def wP:=tl A13 vY
theorem B9K:SOk Tryz.prog 148 wP:=B66.sok
theorem B58:G0 A2s wP:=B66.flat
def A7L:AFn:=⟨sO [1,2,4] [aB 2 0,aO 4 (.alloc ([.i .i64 0,.i .i64 0,.i .i64 0,.i .i64 0,.i .i64 0,.i .i64 0,.i .i64 0,.i .i64 0,.i .i64 0,.i .i64 0,.i .i64 0])),aO 5 (.mv (.v (.c (.b false))))] (.seq [1,2,4] (sO [1,2,4,11] [aM 6 1,aO 7 (.bin .lss (.t 6) (.v (.c (.i .i64 0)))),aM 8 7,gM 9 8 false 1,aG 10 8 false (.bin .geq (.t 9) (.v (.c (.i .i64 8)))),aO 11 (.pick (.t 8) (.v (.c (.b true))) (.t 10))] (.cond (.t 11) (sO [4,5] [aO 12 (.build ([.i .i64 0,.i .i64 0,.i .i64 0,.i .i64 0,.i .i64 0,.i .i64 0,.i .i64 0,.i .i64 0,.i .i64 0,.i .i64 0,.i .i64 0]) []),aN (.storeN 11 (.t 4) (.t 12)),aO 5 (.mv (.v (.c (.b false))))] .ret) .skip)) (sO [4,5] [aL' 13 256 2,aM 14 1,aO 15 (.call 148 [(.t 13),(.t 14)]),aO 16 (.call 147 [(.t 15)]),aE 17 16 0,aE 18 16 1,aN (.storeN 11 (.t 4) (.t 17)),aM 5 18] .ret)),[.cellN 4 11,.tmp 5]⟩
def A7V:E2:=D6 148 wP (D6 147 mM E6)
def A2r:=rx A7V A7L
theorem B9r (n:Nat) (a0 a1:Val) (h:A4):A2r n [a0,a1] h=bnd (cells? a0) fun c1=>bnd (B5 .lss a1 (.c (.i .i64 0))) fun v2=>bnd (gd v2 false (some (a1,((h++[some (Row.mk (c1) true)])++[some (Row.mk ([.i .i64 0,.i .i64 0,.i .i64 0,.i .i64 0,.i .i64 0,.i .i64 0,.i .i64 0,.i .i64 0,.i .i64 0,.i .i64 0,.i .i64 0]) true)]))) (some (.no,((h++[some (Row.mk (c1) true)])++[some (Row.mk ([.i .i64 0,.i .i64 0,.i .i64 0,.i .i64 0,.i .i64 0,.i .i64 0,.i .i64 0,.i .i64 0,.i .i64 0,.i .i64 0,.i .i64 0]) true)])))) fun p3=>bnd (gd v2 false (bnd (B5 .geq p3.1 (.c (.i .i64 8))) fun v4=>some (v4,p3.2)) (some (.no,p3.2))) fun p5=>bnd (F0 v2 (.c (.b true)) p5.1) fun v6=>cnd v6 (bnd (C7 ([.i .i64 0,.i .i64 0,.i .i64 0,.i .i64 0,.i .i64 0,.i .i64 0,.i .i64 0,.i .i64 0,.i .i64 0,.i .i64 0,.i .i64 0]) []) fun c7=>bnd (B4 p5.2 11 (.c (.p (h++[some (Row.mk (c1) true)]).length 0)) (.a c7)) fun h8=>I6 [A8 h8 11 (.c (.p (h++[some (Row.mk (c1) true)]).length 0)),some (.c (.b false))] h8) (bnd (A8 p5.2 256 (.c (.p h.length 0))) fun v9=>bnd (wP [v9,a1] p5.2) fun p10=>bnd (mM [p10.1] p10.2) fun p11=>bnd (H0 p11.1 0) fun v12=>bnd (H0 p11.1 1) fun v13=>bnd (B4 p11.2 11 (.c (.p (h++[some (Row.mk (c1) true)]).length 0)) v12) fun h14=>I6 [A8 h14 11 (.c (.p (h++[some (Row.mk (c1) true)]).length 0)),some v13] h14):=by kernel_rfl
theorem B65:FnK Tryz.prog 70 A7L A7V A2r:=.mk2 (B8 B9K (B8 B5Q C9)) Tryz.func70 (by kernel_rfl)
def wO:=tl A7L A7V
theorem B9J:SOk Tryz.prog 70 wO:=B65.sok
theorem B56:G0 A2r wO:=B65.flat
end
noncomputable section
def B5b:AFn:=⟨sO [0,2] [aO 2 (.alloc ([.i .i64 0,.i .i64 0,.i .u64 0,.nf])),aO 3 (.mv (.v (.c (.i .i64 0))))] (.seq [0,2] (sO [0,2,9] [aM 7 0,aO 8 (.len (.t 7)),aO 9 (.bin .eql (.t 8) (.v (.c (.i .i64 0))))] (.cond (.t 9) (sO [2,3] [aO 10 (.build ([.i .i64 0,.i .i64 0,.i .u64 0,.nf]) []),aN (.storeN 4 (.t 2) (.t 10)),aO 3 (.mv (.v (.c (.i .i64 13))))] .ret) .skip)) (sO [0,2,4,5] [aM 12 0,aO 13 (.iAddrL 256 (.t 12) (.v (.c (.i .i64 0)))),aL' 14 256 13,aO 15 (.call 66 [(.t 14)]),aM 11 15,aE 16 11 0,aE 17 11 1,aO 4 (.alloc ([.i .i64 0,.i .i64 0,.i .u64 0])),aN (.storeN 3 (.t 4) (.t 16)),aM 5 17] (.seq [0,2,4] (sO [0,2,4,26] [aM 18 5,aO 19 (.bin .neq (.t 18) (.v (.c (.i .i64 0)))),aM 20 19,aG 21 20 false (.fAddr (.t 4) 0),aG 22 20 false (.load1 (.t 21)),gM 23 20 false 0,aG 24 20 false (.len (.t 23)),aG 25 20 false (.bin .neq (.t 22) (.t 24)),aO 26 (.pick (.t 20) (.v (.c (.b true))) (.t 25))] (.cond (.t 26) (sO [2,3] [aO 27 (.build ([.i .i64 0,.i .i64 0,.i .u64 0,.nf]) []),aN (.storeN 4 (.t 2) (.t 27)),aO 3 (.mv (.v (.c (.i .i64 13))))] .ret) .skip)) (sO [2,4,6] [aO 28 (.buildSl 256 0 ([]) []),aM 29 0,aO 30 (.app 256 (.t 28) (.t 29)),aO 6 (.alloc ([.ns])),aN (.store1 (.t 6) (.t 30))] (sO [2,3] [aL' 31 3 4,aO 32 (.mkf 67 [(.t 6)]),aO 33 (.build ([.i .i64 0,.i .i64 0,.i .u64 0,.nf]) [(0,3,(.t 31)),(3,1,(.t 32))]),aN (.storeN 4 (.t 2) (.t 33)),aO 3 (.mv (.v (.c (.i .i64 0))))] .ret))))),[.cellN 2 4,.tmp 3]⟩
def B5g:E2:=D6 66 iK E6
def B5C:=rx B5g B5b
theorem C3W (n:Nat) (a0:Val) (h:A4):B5C n [a0] h=bnd (O0 a0) fun v1=>bnd (B5 .eql v1 (.c (.i .i64 0))) fun v2=>cnd v2 (bnd (C7 ([.i .i64 0,.i .i64 0,.i .u64 0,.nf]) []) fun c3=>bnd (B4 (h++[some (Row.mk ([.i .i64 0,.i .i64 0,.i .u64 0,.nf]) true)]) 4 (.c (.p h.length 0)) (.a c3)) fun h4=>I6 [A8 h4 4 (.c (.p h.length 0)),some (.c (.i .i64 13))] h4) (bnd (C4 256 a0 (.c (.i .i64 0))) fun v5=>bnd (A8 (h++[some (Row.mk ([.i .i64 0,.i .i64 0,.i .u64 0,.nf]) true)]) 256 v5) fun v6=>bnd (iK [v6] (h++[some (Row.mk ([.i .i64 0,.i .i64 0,.i .u64 0,.nf]) true)])) fun p7=>bnd (H0 p7.1 0) fun v8=>bnd (H0 p7.1 1) fun v9=>bnd (B4 (p7.2++[some (Row.mk ([.i .i64 0,.i .i64 0,.i .u64 0]) true)]) 3 (.c (.p p7.2.length 0)) v8) fun h10=>bnd (B5 .neq v9 (.c (.i .i64 0))) fun v11=>bnd (gd v11 false (bnd (A9 (.c (.p p7.2.length 0)) 0) fun v12=>some (v12,h10)) (some (.no,h10))) fun p13=>bnd (gd v11 false (bnd (A7 p13.2 p13.1) fun cE=>some (cE,p13.2)) (some (.no,p13.2))) fun lU=>bnd (gd v11 false (some (a0,lU.2)) (some (.no,lU.2))) fun sF=>bnd (gd v11 false (bnd (O0 sF.1) fun W3=>some (W3,sF.2)) (some (.no,sF.2))) fun pB=>bnd (gd v11 false (bnd (B5 .neq lU.1 pB.1) fun dO=>some (dO,pB.2)) (some (.no,pB.2))) fun gH=>bnd (F0 v11 (.c (.b true)) gH.1) fun v21=>cnd v21 (bnd (C7 ([.i .i64 0,.i .i64 0,.i .u64 0,.nf]) []) fun c22=>bnd (B4 gH.2 4 (.c (.p h.length 0)) (.a c22)) fun h23=>I6 [A8 h23 4 (.c (.p h.length 0)),some (.c (.i .i64 13))] h23) (bnd (C7 ([]) []) fun c24=>bnd (W7 (gH.2++[some (Row.mk (c24) true)]) 256 (.c (.sl gH.2.length 0 0 256)) a0) fun p25=>bnd (D3 (p25.2++[some (Row.mk ([.ns]) true)]) (.c (.p p25.2.length 0)) p25.1) fun h26=>bnd (A8 h26 3 (.c (.p p7.2.length 0))) fun v27=>bnd (A5Q 67 [(.c (.p p25.2.length 0))]) fun v28=>bnd (C7 ([.i .i64 0,.i .i64 0,.i .u64 0,.nf]) [(0,3,v27),(3,1,v28)]) fun c29=>bnd (B4 h26 4 (.c (.p h.length 0)) (.a c29)) fun h30=>I6 [A8 h30 4 (.c (.p h.length 0)),some (.c (.i .i64 0))] h30)):=by kernel_rfl
theorem C2O:FnK Tryz.prog 16 B5b B5g B5C:=.mk2 (B8 A8s C9) Tryz.func16 (by kernel_rfl)
def tM:=Lim B5b B5g
theorem B3L:SOk Tryz.prog 16 tM:=C2O.ok
theorem C30:OfT B5C tM:=C2O.of
def pM:AFn:=⟨sO [1,2] [aB 2 0,aO 4 (.mv (.v (.c (.b false))))] (sO [4] [aF 5 2 3,aL 6 5,aO 7 (.eqN true true (.t 6)),aM 8 7,gM 9 8 true 1,aG 10 8 true (.bin .geq (.t 9) (.v (.c (.i .i64 0)))),aO 11 (.pick (.t 8) (.t 10) (.v (.c (.b false)))),aM 12 11,gM 13 12 true 1,aG 14 12 true (.fAddr (.t 2) 0),aG 15 12 true (.fAddr (.t 14) 0),aG 16 12 true (.load1 (.t 15)),aG 17 12 true (.bin .lss (.t 13) (.t 16)),aO 18 (.pick (.t 12) (.t 17) (.v (.c (.b false)))),aM 4 18] .ret),[.tmp 4]⟩
def pX:E2:=E6
def gB:=rx pX pM
theorem A8b (n:Nat) (a0 a1:Val) (h:A4):gB n [a0,a1] h=bnd (cells? a0) fun c1=>bnd (A9 (.c (.p h.length 0)) 3) fun v2=>bnd (A7 (h++[some (Row.mk (c1) true)]) v2) fun v3=>bnd (B0k true true v3) fun v4=>bnd (gd v4 true (some (a1,(h++[some (Row.mk (c1) true)]))) (some (.no,(h++[some (Row.mk (c1) true)])))) fun p5=>bnd (gd v4 true (bnd (B5 .geq p5.1 (.c (.i .i64 0))) fun v6=>some (v6,p5.2)) (some (.no,p5.2))) fun p7=>bnd (F0 v4 p7.1 (.c (.b false))) fun v8=>bnd (gd v8 true (some (a1,p7.2)) (some (.no,p7.2))) fun p9=>bnd (gd v8 true (bnd (A9 (.c (.p h.length 0)) 0) fun T6=>some (T6,p9.2)) (some (.no,p9.2))) fun p11=>bnd (gd v8 true (bnd (A9 p11.1 0) fun v12=>some (v12,p11.2)) (some (.no,p11.2))) fun p13=>bnd (gd v8 true (bnd (A7 p13.2 p13.1) fun cE=>some (cE,p13.2)) (some (.no,p13.2))) fun lU=>bnd (gd v8 true (bnd (B5 .lss p9.1 lU.1) fun T7=>some (T7,lU.2)) (some (.no,lU.2))) fun xQ=>bnd (F0 v8 xQ.1 (.c (.b false))) fun dN=>some (dN,xQ.2):=by kernel_rfl
theorem A2c:FnK Tryz.prog 149 pM pX gB:=.mk2 C9 Tryz.func149 (by kernel_rfl)
def bC:=tl pM pX
theorem A8v:SOk Tryz.prog 149 bC:=A2c.sok
theorem A5P:G0 gB bC:=A2c.flat
def A7M:AFn:=⟨sO [0,1,3] [aO 3 (.alloc (List.replicate 256 (.i .u8 0)))] (sO [3] [aL 4 1,aM 5 0,aO 6 (.iAddrL 256 (.t 4) (.t 5)),aL' 7 256 6,aN (.storeN 256 (.t 3) (.t 7))] .ret),[.cellN 3 256]⟩
def A7W:E2:=E6
def A2t:=rx A7W A7M
theorem B9t (n:Nat) (a0 a1:Val) (h:A4):A2t n [a0,a1] h=bnd (A7 (h++[some (Row.mk (List.replicate 256 (.i .u8 0)) true)]) a1) fun v1=>bnd (C4 256 v1 a0) fun v2=>bnd (A8 (h++[some (Row.mk (List.replicate 256 (.i .u8 0)) true)]) 256 v2) fun v3=>bnd (B4 (h++[some (Row.mk (List.replicate 256 (.i .u8 0)) true)]) 256 (.c (.p h.length 0)) v3) fun h4=>mp (A8 h4 256 (.c (.p h.length 0))) fun v=>(v,h4):=by kernel_rfl
theorem B67:FnK Tryz.prog 67 A7M A7W A2t:=.mk2 C9 Tryz.func67 (by kernel_rfl)
def wQ:=tl A7M A7W
theorem B9L:SOk Tryz.prog 67 wQ:=B67.sok
theorem B59:G0 A2t wQ:=B67.flat
def cL:AFn:=⟨sO [1,2,4] [aB 2 0,aO 4 (.alloc (List.replicate 256 (.i .u8 0)))] (.seq [1,2,4] (sO [1,2,4,8] [aL' 5 4 2,aM 6 1,aO 7 (.call 149 [(.t 5),(.t 6)]),aO 8 (.un .not (.t 7))] (.cond (.t 8) (sO [4] [aO 9 (.build (List.replicate 256 (.i .u8 0)) []),aN (.storeN 256 (.t 4) (.t 9))] .ret) .skip)) (sO [4] [aF 10 2 3,aL 11 10,aM 12 1,aO 13 (.callV (.t 11) [(.t 12)]),aN (.storeN 256 (.t 4) (.t 13))] .ret)),[.cellN 4 256]⟩
def O6:E2:=D6 149 bC (D6 67 wQ E6)
def T9:=rx O6 cL
theorem A05 (n:Nat) (a0 a1:Val) (h:A4):T9 n [a0,a1] h=bnd (cells? a0) fun c1=>bnd (A8 ((h++[some (Row.mk (c1) true)])++[some (Row.mk (List.replicate 256 (.i .u8 0)) true)]) 4 (.c (.p h.length 0))) fun v2=>bnd (bC [v2,a1] ((h++[some (Row.mk (c1) true)])++[some (Row.mk (List.replicate 256 (.i .u8 0)) true)])) fun p3=>bnd (aun .not p3.1) fun v4=>cnd v4 (bnd (C7 (List.replicate 256 (.i .u8 0)) []) fun c5=>bnd (B4 p3.2 256 (.c (.p (h++[some (Row.mk (c1) true)]).length 0)) (.a c5)) fun h6=>mp (A8 h6 256 (.c (.p (h++[some (Row.mk (c1) true)]).length 0))) fun v=>(v,h6)) (bnd (A9 (.c (.p h.length 0)) 3) fun v7=>bnd (A7 p3.2 v7) fun v8=>bnd (oJ O6 v8 [a1] p3.2) fun p9=>bnd (B4 p9.2 256 (.c (.p (h++[some (Row.mk (c1) true)]).length 0)) p9.1) fun h10=>mp (A8 h10 256 (.c (.p (h++[some (Row.mk (c1) true)]).length 0))) fun v=>(v,h10)):=by kernel_rfl
theorem oG:FnK Tryz.prog 71 cL O6 T9:=.mk2 (B8 A8v (B8 B9L C9)) Tryz.func71 (by kernel_rfl)
def D5:=tl cL O6
theorem G5:SOk Tryz.prog 71 D5:=oG.sok
theorem yJ:G0 T9 D5:=oG.flat
def pL:AFn:=⟨sO [1,2,4] [aB 2 0,aO 4 (.alloc ([.i .i64 0,.i .i64 0,.i .i64 0,.i .i64 0,.i .i64 0,.i .i64 0,.i .i64 0,.i .i64 0,.i .i64 0,.i .i64 0,.i .i64 0]))] (sO [2,4,5,6,7] [aF 11 2 0,aL' 12 3 11,aM 13 1,aO 14 (.call 69 [(.t 12),(.t 13)]),aM 10 14,aE 15 10 0,aE 16 10 1,aE 17 10 2,aM 5 15,aM 6 16,aM 7 17] (.seq [2,4,5,6] (sO [2,4,5,6,19] [aM 18 7,aO 19 (.un .not (.t 18))] (.cond (.t 19) (sO [4] [aO 20 (.build ([.i .i64 0,.i .i64 0,.i .i64 0,.i .i64 0,.i .i64 0,.i .i64 0,.i .i64 0,.i .i64 0,.i .i64 0,.i .i64 0,.i .i64 0]) []),aN (.storeN 11 (.t 4) (.t 20))] .ret) .skip)) (sO [4,8] [aL' 22 4 2,aM 23 5,aO 24 (.call 71 [(.t 22),(.t 23)]),aM 25 6,aO 26 (.call 70 [(.t 24),(.t 25)]),aM 21 26,aE 27 21 0,aE 28 21 1,aO 8 (.alloc ([.i .i64 0,.i .i64 0,.i .i64 0,.i .i64 0,.i .i64 0,.i .i64 0,.i .i64 0,.i .i64 0,.i .i64 0,.i .i64 0,.i .i64 0])),aN (.storeN 11 (.t 8) (.t 27)),aM 9 28] (sO [4] [aL' 29 11 8,aN (.storeN 11 (.t 4) (.t 29))] .ret)))),[.cellN 4 11]⟩
def pW:E2:=D6 69 dU (D6 71 D5 (D6 70 wO E6))
def aX:=rx pW pL
theorem wC (n:Nat) (a0 a1:Val) (h:A4):aX n [a0,a1] h=bnd (cells? a0) fun c1=>bnd (A9 (.c (.p h.length 0)) 0) fun v2=>bnd (A8 ((h++[some (Row.mk (c1) true)])++[some (Row.mk ([.i .i64 0,.i .i64 0,.i .i64 0,.i .i64 0,.i .i64 0,.i .i64 0,.i .i64 0,.i .i64 0,.i .i64 0,.i .i64 0,.i .i64 0]) true)]) 3 v2) fun v3=>bnd (dU [v3,a1] ((h++[some (Row.mk (c1) true)])++[some (Row.mk ([.i .i64 0,.i .i64 0,.i .i64 0,.i .i64 0,.i .i64 0,.i .i64 0,.i .i64 0,.i .i64 0,.i .i64 0,.i .i64 0,.i .i64 0]) true)])) fun p4=>bnd (H0 p4.1 0) fun v5=>bnd (H0 p4.1 1) fun v6=>bnd (H0 p4.1 2) fun v7=>bnd (aun .not v7) fun v8=>cnd v8 (bnd (C7 ([.i .i64 0,.i .i64 0,.i .i64 0,.i .i64 0,.i .i64 0,.i .i64 0,.i .i64 0,.i .i64 0,.i .i64 0,.i .i64 0,.i .i64 0]) []) fun c9=>bnd (B4 p4.2 11 (.c (.p (h++[some (Row.mk (c1) true)]).length 0)) (.a c9)) fun h10=>mp (A8 h10 11 (.c (.p (h++[some (Row.mk (c1) true)]).length 0))) fun v=>(v,h10)) (bnd (A8 p4.2 4 (.c (.p h.length 0))) fun v11=>bnd (D5 [v11,v5] p4.2) fun p12=>bnd (wO [p12.1,v6] p12.2) fun p13=>bnd (H0 p13.1 0) fun cE=>bnd (H0 p13.1 1) fun dE=>bnd (B4 (p13.2++[some (Row.mk ([.i .i64 0,.i .i64 0,.i .i64 0,.i .i64 0,.i .i64 0,.i .i64 0,.i .i64 0,.i .i64 0,.i .i64 0,.i .i64 0,.i .i64 0]) true)]) 11 (.c (.p p13.2.length 0)) cE) fun h16=>bnd (A8 h16 11 (.c (.p p13.2.length 0))) fun W3=>bnd (B4 h16 11 (.c (.p (h++[some (Row.mk (c1) true)]).length 0)) W3) fun h18=>mp (A8 h18 11 (.c (.p (h++[some (Row.mk (c1) true)]).length 0))) fun v=>(v,h18)):=by kernel_rfl
theorem A2b:FnK Tryz.prog 19 pL pW aX:=.mk2 (B8 A6M (B8 G5 (B8 B9J C9))) Tryz.func19 (by kernel_rfl)
def G1:=tl pL pW
theorem S7:SOk Tryz.prog 19 G1:=A2b.sok
theorem qW:G0 aX G1:=A2b.flat
def A1M:ACode:=sO [1,3,14,15,16] [aO 16 (.bin .lss (.t 15) (.t 14))] (.seq [1,3,14,15] (.cond (.t 16) .skip (.exit 0)) (.seq [1,3,14,15] (.block 1 (sO [1,3,4,14,15] [aM 17 15,aM 4 17] (.ops [aM 18 3,aM 19 4,aL' 20 4 1,aM 21 4,aO 22 (.call 71 [(.t 20),(.t 21)]),aO 23 (.iAddrL 256 (.t 18) (.t 19)),aN (.storeN 256 (.t 23) (.t 22))]))) (.ops [aO 24 (.bin .add (.t 15) (.v (.c (.i .i64 1)))),aM 15 24])))
def A1N:ACode:=sO [2] [aM 25 3,aM 2 25] .ret
def fW:AFn:=⟨sO [1] [aB 1 0,aO 2 (.nilrow 256)] (.seq [1] (sO [1,8] [aF 5 1 0,aL' 6 3 5,aO 7 (.call 104 [(.t 6)]),aO 8 (.bin .neq (.t 7) (.v (.c (.i .i64 0))))] (.cond (.t 8) (sO [2] [aO 2 (.nilrow 256)] .ret) .skip)) (sO [1,3] [aF 9 1 0,aF 10 9 0,aL 11 10,aO 12 (.mkSl 256 (List.replicate 256 (.i .u8 0)) (.t 11) (.t 11)),aM 3 12] (.seq [3] (sO [1,3,14,15] [aM 13 3,aO 14 (.len (.t 13)),aO 15 (.mv (.v (.c (.i .i64 0))))] (.block 0 (.loop [1,3,14,15] A1M))) A1N))),[.tmp 2]⟩
def aV:E2:=D6 104 K0 (D6 71 D5 E6)
def B2Q (n:Nat):KV:=kQ aV n A1N [3] fW.fin
def B2R (n:Nat):KV:=F6 0 (B2Q n)
def eJ (n m:Nat) (x1 x3 x14 x15:Val):AtH:=ar aV n A1M [1,3,14,15] (B2R n) m [x1,x3,x14,x15]
def gA:=rx aV fW
theorem A8a (n:Nat) (a0:Val) (h:A4):gA n [a0] h=bnd (cells? a0) fun c1=>bnd (A9 (.c (.p h.length 0)) 0) fun v2=>bnd (A8 ((h++[some (Row.mk (c1) true)])++[some (Row.mk ([]) true)]) 3 v2) fun v3=>bnd (K0 [v3] ((h++[some (Row.mk (c1) true)])++[some (Row.mk ([]) true)])) fun p4=>bnd (B5 .neq p4.1 (.c (.i .i64 0))) fun v5=>cnd v5 (some ((.c (.sl p4.2.length 0 0 256)),(p4.2++[some (Row.mk ([]) true)]))) (bnd (A9 (.c (.p h.length 0)) 0) fun v6=>bnd (A9 v6 0) fun v7=>bnd (A7 p4.2 v7) fun v8=>bnd (A8x v8 v8) fun n9=>bnd (O0 (.c (.sl p4.2.length 0 n9 256))) fun T6=>eJ n n (.c (.p h.length 0)) (.c (.sl p4.2.length 0 n9 256)) T6 (.c (.i .i64 0)) (p4.2++[some (Row.mk (rows (List.replicate 256 (.i .u8 0)) n9) true)])):=by kernel_rfl
theorem tB (n m:Nat) (x1 x3 x14 x15:Val) (h:A4):eJ n (m+1) x1 x3 x14 x15 h=bnd (B5 .lss x15 x14) fun v11=>cnd v11 (bnd (A8 h 4 x1) fun v12=>bnd (D5 [v12,x15] h) fun p13=>bnd (C4 256 x3 x15) fun cE=>bnd (B4 p13.2 256 cE p13.1) fun h15=>bnd (B5 .add x15 (.c (.i .i64 1))) fun T7=>eJ n m x1 x3 x14 T7 h15) (some (x3,h)):=by kernel_rfl
theorem A2a:FnK Tryz.prog 112 fW aV gA:=.mk2 (B8 cP (B8 G5 C9)) Tryz.func112 (by kernel_rfl)
def bB:=tl fW aV
theorem A8u:SOk Tryz.prog 112 bB:=A2a.sok
theorem A7p:B5h gA bB:=A2a.out
def tG:AFn:=⟨sO [1,2] [aB 2 0,aO 4 (.mv (.v (.c (.b false))))] (.seq [4] (.draw 0 [aF 5 2 0,aL' 6 3 5,aO 7 (.call 104 [(.t 6)]),aO 8 (.bin .eql (.t 7) (.v (.c (.i .i64 0)))),aM 9 8,gM 10 9 true 1,aG 11 9 true (.bin .geq (.t 10) (.v (.c (.i .i64 0)))),aO 12 (.pick (.t 9) (.t 11) (.v (.c (.b false)))),aM 13 12,gM 14 13 true 1,aG 15 13 true (.fAddr (.t 2) 0),aG 16 13 true (.fAddr (.t 15) 0),aG 17 13 true (.load1 (.t 16)),aG 18 13 true (.bin .lss (.t 14) (.t 17)),aO 19 (.pick (.t 13) (.t 18) (.v (.c (.b false)))),aM 20 19,aG 21 20 true (.loadN 4 (.t 2)),aG 22 20 true (.call 116 []),aG 23 20 true (.call 71 [(.t 21),(.t 22)]),gM 24 20 true 1] [aG 25 20 true (.call 195 [(.t 23),(.t 24)]),aO 26 (.pick (.t 20) (.t 25) (.v (.c (.b false)))),aM 4 26]) .ret),[.tmp 4]⟩
def tK:E2:=D6 104 K0 (D6 116 R6 (D6 71 D5 (D6 195 wE E6)))
def jR:=rx tK tG
theorem A98 (n:Nat) (a0 a1:Val) (h:A4):jR n [a0,a1] h=bnd (cells? a0) fun c1=>bnd (A9 (.c (.p h.length 0)) 0) fun v2=>bnd (A8 (h++[some (Row.mk (c1) true)]) 3 v2) fun v3=>bnd (quiet ((h++[some (Row.mk (c1) true)])++[]) (K0 [v3] ((h++[some (Row.mk (c1) true)])++[]))) fun p4=>bnd (B5 .eql p4.1 (.c (.i .i64 0))) fun v5=>bnd (gd v5 true (some (a1,p4.2)) (some (.no,p4.2))) fun p6=>bnd (gd v5 true (bnd (B5 .geq p6.1 (.c (.i .i64 0))) fun v7=>some (v7,p6.2)) (some (.no,p6.2))) fun p8=>bnd (F0 v5 p8.1 (.c (.b false))) fun v9=>bnd (gd v9 true (some (a1,p8.2)) (some (.no,p8.2))) fun p10=>bnd (gd v9 true (bnd (A9 (.c (.p h.length 0)) 0) fun v11=>some (v11,p10.2)) (some (.no,p10.2))) fun p12=>bnd (gd v9 true (bnd (A9 p12.1 0) fun v13=>some (v13,p12.2)) (some (.no,p12.2))) fun dG=>bnd (gd v9 true (bnd (A7 (h++[some (Row.mk (c1) true)]) dG.1) fun dE=>some (dE,dG.2)) (some (.no,dG.2))) fun sF=>bnd (gd v9 true (bnd (B5 .lss p10.1 sF.1) fun W3=>some (W3,sF.2)) (some (.no,sF.2))) fun pB=>bnd (F0 v9 pB.1 (.c (.b false))) fun dO=>bnd (gd dO true (bnd (A8 (h++[some (Row.mk (c1) true)]) 4 (.c (.p h.length 0))) fun jN=>some (jN,pB.2)) (some (.no,pB.2))) fun p21=>bnd (gd dO true (bnd (quiet p21.2 (R6 [] p21.2)) fun p22=>some (p22.1,p22.2)) (some (.no,p21.2))) fun p23=>bnd (gd dO true (bnd (quiet p23.2 (D5 [p21.1,p23.1] p23.2)) fun fU=>some (fU.1,fU.2)) (some (.no,p23.2))) fun p25=>bnd (gd dO true (some (a1,p25.2)) (some (.no,p25.2))) fun p26=>bnd (gd dO true (bnd (wE [p25.1,p26.1] p26.2) fun p27=>some (p27.1,p27.2)) (some (.no,p26.2))) fun p28=>bnd (F0 dO p28.1 (.c (.b false))) fun v29=>some (v29,p28.2):=by kernel_rfl
theorem A4h:FnK Tryz.prog 122 tG tK jR:=.mk2 (B8 cP (B8 vC (B8 G5 (B8 B9w C9)))) Tryz.func122 (by kernel_rfl)
def Y6:=tl tG tK
theorem B0j:SOk Tryz.prog 122 Y6:=A4h.sok
theorem A7q:G0 jR Y6:=A4h.flat
end
end Go.Proofs.YteckncopbicmcaaGreat
namespace Go.Proofs.YteckncopbicmcaaGreat
open Go Go.Esc
section
def IsView (h:A4) (f:Cell) (D:Dev):Prop:=∃ r q rw rw',f=.f 67 [(r,0)]/\rd h r=some ⟨[.sl q 0 D.length 256],rw⟩/\rd h q=some ⟨D7 D,rw'⟩
theorem IsView.ro {h:A4} {f:Cell} {D:Dev} (hv:IsView h f D):IsView (ro h) f D:=by
 obtain ⟨r,q,rw,rw',e,h1,h2⟩:=hv;exact ⟨r,q,false,false,e,B4X h1 rfl,B4X h2 (cD D)⟩
theorem IsView.more {h:A4} {f:Cell} {D:Dev} (hv:IsView h f D) (l:A4):IsView (h++l) f D:=by
 obtain ⟨r,q,rw,rw',e,h1,h2⟩:=hv;exact ⟨r,q,rw,rw',e,B6 h1,B6 h2⟩
theorem IsView.since {g h:A4} {f:Cell} {D:Dev} (hv:IsView g f D) (h1:Low g.length g h):IsView h f D:=by
 obtain ⟨r,q,rw,rw',e,h2,h3⟩:=hv;exact ⟨r,q,rw,rw',e,h1.rd h2,h1.rd h3⟩
theorem IsView.get {h:A4} {f:Cell} {D:Dev} (hv:IsView h f D):∃ id cs,f=.f id cs:=by
 obtain ⟨r,q,rw,rw',e,_⟩:=hv;exact ⟨_,_,e⟩
def vwC (b n m:Int) (f:Cell):List Cell:=[.i .i64 b,.i .i64 n,.i .u64 m,f]
section
variable {D:Dev} {n m:Int} {f:Cell}
theorem C64 {b:Int}:ldN (some (Row.mk (vwC b n m f) true)) 0 3=some (.a (J1 b n m)):=rfl
theorem D2v {b:Int}:ldN (some (Row.mk (vwC b n m f) true)) 0 4=some (.a (vwC b n m f)):=rfl
end
theorem C5d {h:A4} {r q:Nat} {rw rw':Bool} {D:Dev} {no:Nat} (hD:okD D) (gJ:no<D.length) (h1:rd h r=some ⟨[.sl q 0 D.length 256],rw⟩) (h2:rd h q=some ⟨D7 D,rw'⟩) :
  wQ [.c (.i .i64 (no:Int)),.c (.p r 0)] h=some (.a (A5 D[no]),h):=by
 have key:∀ g rw rw',rd g r=some ⟨[.sl q 0 D.length 256],rw⟩->rd g q=some ⟨D7 D,rw'⟩->∃ g',A2t 0 [.c (.i .i64 (no:Int)),.c (.p r 0)] g=some (.a (A5 D[no]),g'):=by
  intro g rw rw' h1 h2;have hz:(List.replicate 256 (Cell.i .u8 0)).length=256:=List.length_replicate;have hB:(A5 D[no]).length=256:=by rw [A6,hD.at gJ]
  have l1:A7 (g++[some (Row.mk (List.replicate 256 (.i .u8 0)) true)]) (.c (.p r 0))=some (.c (.sl q 0 D.length 256)):=C1 (cs:=[.sl q 0 D.length 256]) (B6 h1) rfl (by cases rw<;>rfl);have a1:C4 256 (.c (.sl q 0 D.length 256)) (.c (.i .i64 (no:Int)))=some (.c (.p q (0+no*256))):=E5 gJ;have l2:A8 (g++[some (Row.mk (List.replicate 256 (.i .u8 0)) true)]) 256 (.c (.p q (0+no*256)))=some (.a (A5 D[no])):=by
   rw [T2 (cs:=D7 D) (rw:=rw') (B6 h2) (by rw [F7 hD];omega) (by
    rw [Nat.zero_add,fC hD gJ,T4];simp),Nat.zero_add,fC hD gJ]
  rw [Nat.zero_add] at a1 l2;rw [B9t];generalize List.replicate 256 (Cell.i .u8 0)=z at *;generalize A5 D[no]=y at *;exact ⟨_,by simp only [esc,esh,Nat.reduceAdd,Nat.reduceMul,Nat.reduceLT,l1,a1,l2,hz,hB]<;>rfl⟩
 obtain ⟨g',e⟩:=key (ro h) false false (B4X h1 rfl) (B4X h2 (cD D));exact B59 e (by simp [Val.flat])
theorem C2H {b n m no:Int} {f:Nat} {cs:List (Nat × Nat)} {h:A4}:bC [.a (vwC b n m (.f f cs)),.c (.i .i64 no)] h=some (.c (.b (decide (0<=no)&&decide (no<b))),h):=by
 have key:∀ g,∃ g',gB 0 [.a (vwC b n m (.f f cs)),.c (.i .i64 no)] g=some (.c (.b (decide (0<=no)&&decide (no<b))),g'):=by
  intro g;rw [A8b];unfold vwC;by_cases c1:0<=no
  ·exact ⟨_,by simp only [esc,esh,Nat.reduceAdd,Nat.reduceMul,Nat.reduceLT,c1]<;>rfl⟩
  ·exact ⟨_,by simp only [esc,esh,Nat.reduceAdd,Nat.reduceMul,Nat.reduceLT,c1,Bool.false_and]<;>rfl⟩
 obtain ⟨g',e⟩:=key (ro h);exact A5P e rfl
theorem Y2 {n m no:Int} {f:Cell} {D:Dev} {h:A4} (hD:okD D) (hv:IsView h f D):D5 [.a (vwC D.length n m f),.c (.i .i64 no)] h=some (.a (A5 (blk D no)),h):=by
 have key:∀ g,IsView g f D->∃ g',T9 0 [.a (vwC D.length n m f),.c (.i .i64 no)] g=some (.a (A5 (blk D no)),g'):=by
  intro g hv;have hz:(A5 (zeros 256)).length=256:=by rw [A6];exact zeros_length
  have hB:(A5 (blk D no)).length=256:=by rw [A6,V4 hD]
  obtain ⟨r,q,rw',rw'',rfl,h1,h2⟩:=hv;have hT:=fun h=>C2H (b:=D.length) (n:=n) (m:=m) (no:=no) (f:=67) (cs:=[(r,0)]) (h:=h)
  have hcv:∀ (x:Val) (h:A4),oJ O6 (.c (.f 67 [(r,0)])) [x] h=wQ [x,.c (.p r 0)] h:=fun _ _=>Eq.trans rfl rfl
  rw [A05,F5];by_cases c1:0<=no/\no<D.length
  ·have c2:=c1.1;have c3:=c1.2;obtain ⟨k,rfl⟩:∃ k:Nat,no=k:=⟨no.toNat,by omega⟩;have e1:=C7l (D:=D) (i:=k) (by omega);have hO:=C5d (h:=g++[some (Row.mk (vwC D.length n m (.f 67 [(r,0)])) true),some (Row.mk (A5 (zeros 256)) true)]) hD (show k<D.length by omega) (B6 h1) (B6 h2);rw [<-e1] at hO;simp only [c2,c3,decide_true,Bool.and_self] at hT;generalize A5 (zeros 256)=z at *;generalize A5 (blk D k)=y at *;unfold vwC at *;exact ⟨_,by simp only [esc,esh,Nat.reduceAdd,Nat.reduceMul,Nat.reduceLT,hT,hcv,hO,hz,hB]<;>rfl⟩
  ·have e1:=D0S (D:=D) (i:=no) (by omega);have ht:(decide (0<=no)&&decide (no<(D.length:Int)))=false:=by
    rw [Bool.and_eq_false_iff,decide_eq_false_iff_not,decide_eq_false_iff_not];omega
   simp only [ht] at hT;rw [e1] at hB ⊢;have ef:C7 (A5 (zeros 256)) []=some (A5 (zeros 256)):=rfl;generalize A5 (zeros 256)=z at *;unfold vwC at *;exact ⟨_,by simp only [esc,esh,Nat.reduceAdd,Nat.reduceMul,Nat.reduceLT,hT,ef,hz]<;>rfl⟩
 obtain ⟨g',e⟩:=key (ro h) hv.ro;exact yJ e (by simp [Val.flat])
theorem D2R {h:A4} {id m sz:Nat} {ys:List Cell} {y:Val} (hr:rd h id=some ⟨[],true⟩) (hy:Has h y sz m ys) (hsz:0<sz) (hn:m<=1073741824) :
  W7 h sz (.c (.sl id 0 0 sz)) y=some (.c (.sl h.length 0 m sz),h.set id none++[some ⟨ys,true⟩]):=by
 have h1:=hy.add;have h2:ys.length/sz=m:=by rw [hy.length];exact Nat.mul_div_cancel m hsz
 simp only [W7,h1,hr,Option.bind_some,h2,List.nil_append,Nat.zero_add];rw [if_pos ⟨trivial,trivial,by simp,trivial,hn⟩]
def C37 (D:Dev):Bool:=okS (D.headD [])&&decide (fieldN (D.headD []) 8 2=D.length)
def B2u (D:Dev):Int:=fieldN (D.headD []) 10 2
def D27 (D:Dev):Int:=fieldN (D.headD []) 12 8
theorem D3j {b:List UInt8} (h:okS b=true):C7F b=J1 (fieldN b 8 2) (fieldN b 10 2) (fieldN b 12 8):=by unfold C7F;rw [h];rfl
theorem C1y {v:Val} {D:Dev} {h:A4} (hv:Has h v 256 D.length (D7 D)) (hD:okD D) (hn:C37 D=true) (h60:D.length<=1073741824) :
  ∃ f t,tM [v] h=some (.t [.a (vwC D.length (B2u D) (D27 D) f),.c (.i .i64 0)],h++t)/\IsView (h++t) f D:=by
 obtain ⟨b,E,rfl⟩:∃ b E,D=b::E:=by
  cases D with
  | nil=>simp only [C37,List.headD_nil,List.length_nil,Bool.and_eq_true,decide_eq_true_eq] at hn;exact absurd hn.1 (by decide)
  | cons b E=>exact ⟨b,E,rfl⟩
 have h0:0<(b::E).length:=by simp
 have hv2:=hv.more [some (Row.mk [.i .i64 0,.i .i64 0,.i .u64 0,.nf] true)];unfold C37 at hn;simp only [List.headD_cons,Bool.and_eq_true,decide_eq_true_eq] at hn;have ho:=hn.1;have hn2:=of_decide_eq_true hn.2;have hv3:=hv.more [some (Row.mk [.i .i64 0,.i .i64 0,.i .u64 0,.nf] true),some (Row.mk (J1 (b::E).length (fieldN b 10 2) (fieldN b 12 8)) true),some (Row.mk [] true)];obtain ⟨id,off,rfl,hid,_,hB⟩:=hv2.sl h0;have hBl:(A5 b).length=256:=by rw [A6,hD.cons.1]
 have l2:=hB 0 256 (by rw [F7 hD];omega);have ec:((D7 (b::E)).drop 0).take 256=A5 b:=by
  have:=fC (i:=0) hD h0
  rwa [Nat.zero_mul] at this
 rw [ec,Nat.add_zero] at l2;have a1:C4 256 (.c (.sl id off (b::E).length 256)) (.c (.i .i64 0))=some (.c (.p id off)):=by
  have:=E5 (k:=.i64) (id:=id) (off:=off) (sz:=256) (j:=0) (len:=(b::E).length) h0
  rwa [Nat.zero_mul,Nat.add_zero] at this
 have hG:=fun h=>B41 (h:=h) hD.cons.1
 have c0:¬ (((b::E).length:Nat):Int)=0:=by omega
 have n13:¬ (13:Int)=0:=by decide
 simp only [ho,D3j ho,cond_true,hn2] at hG;have eN:B2u (b::E)=fieldN b 10 2:=rfl;have eM:D27 (b::E)=fieldN b 12 8:=rfl;have hA:=D2R (id:=h.length+2) (by simp) hv3 (by omega) h60;have ef1:C7 ([]:List Cell) []=some []:=rfl;have R0:id<h.length:=by
  rcases hv with ⟨e,_⟩ | ⟨i,o,r,e,hr,_⟩
  ·cases e
  ·cases e;exact E4 hr
 rw [eN,eM];unfold IsView;generalize D7 (b::E)=C at *;have emk:A5Q 67 [.c (.p (h.length+4) 0)]=some (.c (.f 67 [(h.length+4,0)])):=rfl;refine ⟨.f 67 [(h.length+4,0)],[some (Row.mk (vwC (b::E).length (fieldN b 10 2) (fieldN b 12 8) (.f 67 [(h.length+4,0)])) true),some (Row.mk (J1 (b::E).length (fieldN b 10 2) (fieldN b 12 8)) true),none,some (Row.mk C true),some (Row.mk [.sl (h.length+3) 0 (b::E).length 256] true)],C30 (n:=0) ?_,h.length+4,h.length+3,true,true,rfl,cG,cG⟩;rw [C3W];generalize (b::E).length=N at *;generalize A5 b=y at *;generalize fieldN b 10 2=n1 at *;generalize fieldN b 12 8=n2 at *;have ef2:∀ x,C7 [Cell.i .i64 0,.i .i64 0,.i .u64 0,.nf] [(0,3,.a [.i .i64 (N:Int),.i .i64 n1,.i .u64 n2]),(3,1,.c x)]=some [.i .i64 (N:Int),.i .i64 n1,.i .u64 n2,x]:=fun _=>rfl
 unfold J1 vwC at *;simp only [esc,esh,Nat.reduceAdd,Nat.reduceMul,Nat.reduceLT] at hA;simp only [esc,esh,Nat.reduceAdd,Nat.reduceMul,Nat.reduceLT,l2,a1,hG,n13,eq_self,c0,hA,ef1,ef2,emk]<;>rfl
end
end Go.Proofs.YteckncopbicmcaaGreat
namespace Go.Proofs.YteckncopbicmcaaGreat
open Go Go.Esc
set_option maxRecDepth 100000
noncomputable section
def A0R:AFn:=⟨sO [0] [aO 2 (.mv (.v (.c (.b false))))] (sO [2] [aM 3 0,aO 4 (.bin .geq (.t 3) (.v (.c (.i .i64 0)))),aM 5 4,gM 6 5 true 0,aG 7 5 true (.bin .lss (.t 6) (.v (.c (.i .i64 128)))),aO 8 (.pick (.t 5) (.t 7) (.v (.c (.b false)))),aM 2 8] .ret),[.tmp 2]⟩
def A0Y:E2:=E6
def qI:=rx A0Y A0R
theorem B3k (n:Nat) (a0:Val) (h:A4):qI n [a0] h=bnd (B5 .geq a0 (.c (.i .i64 0))) fun v1=>bnd (gd v1 true (some (a0,h)) (some (.no,h))) fun p2=>bnd (gd v1 true (bnd (B5 .lss p2.1 (.c (.i .i64 128))) fun v3=>some (v3,p2.2)) (some (.no,p2.2))) fun p4=>bnd (F0 v1 p4.1 (.c (.b false))) fun v5=>some (v5,p4.2):=by kernel_rfl
theorem A71:FnK Tryz.prog 248 A0R A0Y qI:=.mk2 C9 Tryz.func248 (by kernel_rfl)
def iI:=tl A0R A0Y
theorem B3H:SOk Tryz.prog 248 iI:=A71.sok
theorem B0i:G0 qI iI:=A71.flat
def A5m:AFn:=⟨sO [1,2] [aB 2 0,aO 4 (.mv (.v (.c (.i .i64 0))))] (.seq [1,2] (sO [1,2,7] [aM 5 1,aO 6 (.call 248 [(.t 5)]),aO 7 (.un .not (.t 6))] (.cond (.t 7) (sO [4] [aO 4 (.mv (.v (.c (.i .i64 0))))] .ret) .skip)) (sO [4] [aL' 8 256 2,aM 9 1,aO 10 (.bin .mul (.v (.c (.i .i64 2))) (.t 9)),aO 11 (.call 142 [(.t 8),(.t 10),(.v (.c (.i .i64 2)))]),aM 4 11] .ret)),[.tmp 4]⟩
def A5w:E2:=D6 248 iI (D6 142 N5 E6)
def A0m:=rx A5w A5m
theorem B8a (n:Nat) (a0 a1:Val) (h:A4):A0m n [a0,a1] h=bnd (cells? a0) fun c1=>bnd (iI [a1] (h++[some (Row.mk (c1) true)])) fun p2=>bnd (aun .not p2.1) fun v3=>cnd v3 (some ((.c (.i .i64 0)),p2.2)) (bnd (A8 p2.2 256 (.c (.p h.length 0))) fun v4=>bnd (B5 .mul (.c (.i .i64 2)) a1) fun v5=>bnd (N5 [v4,v5,.c (.i .i64 2)] p2.2) fun p6=>some (p6.1,p6.2)):=by kernel_rfl
theorem B3d:FnK Tryz.prog 208 A5m A5w A0m:=.mk2 (B8 B3H (B8 wN C9)) Tryz.func208 (by kernel_rfl)
def qV:=tl A5m A5w
theorem B8t:SOk Tryz.prog 208 qV:=B3d.sok
theorem B3G:G0 A0m qV:=B3d.flat
end
end Go.Proofs.YteckncopbicmcaaGreat
namespace Go.Proofs.YteckncopbicmcaaGreat
open Go Go.Esc
def ptP (b:List UInt8) (i:Nat):Int:=fieldN b (2*i) 2
theorem B8F {k:Nat} {h:A4} (hk:k<128):iI [.c (.i .i64 k)] h=some (.c (.b true),h):=by
 have key:∀ g,∃ g',qI 0 [.c (.i .i64 k)] g=some (.c (.b true),g'):=by
  intro g;have c1:(0:Int)<=k:=by omega
  have c2:(k:Int)<128:=by omega
  rw [B3k];exact ⟨_,by simp only [esc,c1,c2]<;>rfl⟩
 obtain ⟨g',e⟩:=key (ro h);exact B0i e rfl
theorem D5u {b:List UInt8} {i:Nat} (hb:b.length=256) (hi:i<128):((atN b ((2*i:Nat):Int) 2:Nat):Int)=ptP b i:=by
 unfold atN ptP fieldN;rw [if_pos ⟨by omega,Q5.2 (by omega)⟩];simp only [Int.toNat_natCast];rfl
theorem D2y {i:Nat} (hi:i<128):IntKind.wrap .i64 (2*(i:Int))=((2*i:Nat):Int):=by rw [wrap_i64 (by omega) (by omega)];omega
theorem C2C {b:List UInt8} {k:Nat} {h:A4} (hb:b.length=256) (hk:k<128):qV [.a (A5 b),.c (.i .i64 k)] h=some (.c (.i .i64 (ptP b k)),h):=by
 have key:∀ g,∃ g',A0m 0 [.a (A5 b),.c (.i .i64 k)] g=some (.c (.i .i64 (ptP b k)),g'):=by
  intro g;have hB:(A5 b).length=256:=by rw [A6,hb]
  have hT:=fun h=>B8F (h:=h) hk
  have hA:=fun h=>kF (h:=h) hb (a:=((2*k:Nat):Int)) (w:=2)
  rw [D5u hb hk] at hA;rw [B8a];exact ⟨_,by simp only [esc,esh,Nat.reduceAdd,Nat.reduceMul,Nat.reduceLT,hB,hT,D2y hk,hA]<;>rfl⟩
 obtain ⟨g',e⟩:=key (ro h);exact B3G e rfl
def zI (n:Nat):List Int:=List.replicate n 0
theorem K9 {n:Nat}:(zI n).length=n:=by simp [zI]
abbrev G9 (k l s p:Int) (d:List Int):List Cell:=.i .i64 k::.i .i64 l::.i .i64 s::.i .i64 p::encI d
def M9 (n:Int):Bool:=decide (0<=n)&&decide (n<=65535)
theorem A9B {n:Int}:M9 n=true↔0<=n/\n<=65535:=by unfold M9;simp
theorem T0 {n:Int} {h:A4}:bU [.c (.i .i64 n)] h=some (.c (.b (M9 n)),h):=by
 refine B2b (n:=0) (h2:=ro h) ?_ rfl;rw [B5v];unfold M9;by_cases c:0<=n
 ·simp only [esc,c,Bool.true_and]
 ·simp only [esc,c,Bool.false_and]
theorem B8A {n:Int} {h:A4}:hJ [.c (.i .i64 n)] h=some (.c (.i .i64 (if n<1 then 0 else if 34304<n then 134 else (n+255)/256)),h):=by
 refine B0h (n:=0) (h2:=ro h) ?_ rfl;rw [B3i];by_cases c1:n<1
 ·rw [if_pos c1];simp only [esc,c1]
 ·rw [if_neg c1];by_cases c2:34304<n
  ·rw [if_pos c2];simp only [esc,c1,c2]
  ·rw [if_neg c2];have e1:IntKind.wrap .i64 (n+256)=n+256:=wrap_i64 (by omega) (by omega);have e2:IntKind.wrap .i64 (n+256-1)=n+255:=by rw [wrap_i64 (by omega) (by omega)];omega
   simp only [esc,c1,c2,e1,e2,A9Z (a:=n+255) (b:=256) (by omega) (by omega) (by omega)]
theorem B4O {g:A4} {k l s p:Int} {d:List Int} {z:List Cell} {q:Nat} (hd:d.length=7) (hz:z.length=7):∀ e i m:Nat,i+e=6->e<m ->
  kA q m (.c (.p g.length 0)) (.c (.p (g.length+1) 0)) (.c (.p (g.length+2) 0)) (.a (encI (d.take 6))) (.c (.i .i64 i)) (g++[some ⟨G9 k l s p d,true⟩,some ⟨z,true⟩,some ⟨encI (d.take i++zI (7-i)),true⟩]) =
   some (.a (encI d),g++[some ⟨G9 k l s p d,true⟩,some ⟨encI d,true⟩,some ⟨encI d,true⟩])
 | e,i,0,_,hm=>by omega
 | 0,i,m+1,hi,hm=>by
  have e0:i=6:=by omega
  subst e0;have h1':¬ ((6:Nat):Int)<6:=by omega
  have l1:(G9 k l s p d)[10]?=some (.i .i64 d[6]):=by
   have:(encI d)[6]?=some (.i .i64 d[6]):=by rw [H9,List.getElem?_eq_getElem (by omega)];rfl
   exact this
  have a1:D8 7 1 (.c (.p (g.length+2) 0)) (.c (.i .i64 6))=some (.c (.p (g.length+2) 6)):=rfl;have ho:6<(encI (d.take 6++zI (7-6))).length:=by rw [B9,List.length_append,K9,List.length_take];omega
  have es:(encI (d.take 6++zI (7-6))).set 6 (.i .i64 d[6])=encI d:=by
   rw [rP]
   congr 1
   have h6:(d.take 6).length=6:=by simp;omega
   rw [List.set_append_right _ _ (by omega),h6];have:d=d.take 6++[d[6]]:=by
    rw [<-List.take_succ_eq_append_getElem (by omega),List.take_of_length_le (by omega)]
   conv=>rhs;rw [this]
   rfl
  have hl:(encI d).length=7:=by rw [B9,hd]
  rw [zN];simp only [esc,esh,Nat.reduceAdd,Nat.reduceMul,Nat.reduceLT,h1',l1,a1,ho,es,hl,hz]
 | e+1,i,m+1,hi,hm=>by
  have ih:=B4O (g:=g) (k:=k) (l:=l) (s:=s) (p:=p) (q:=q) hd hz e (i+1) m (by omega) (by omega);have h1':(i:Int)<6:=by omega
  have hx:tQ 6 (.a (encI (d.take 6))) (.c (.i .i64 (i:Int)))=some (.c (.i .i64 d[i])):=by
   rw [B4b (by omega),H9,List.getElem?_take_of_lt (by omega),List.getElem?_eq_getElem (by omega)];rfl
  have a1:D8 7 1 (.c (.p (g.length+2) 0)) (.c (.i .i64 (i:Int)))=some (.c (.p (g.length+2) i)):=by rw [I7 (by omega)];simp
  have ho:i<(encI (d.take i++zI (7-i))).length:=by rw [B9,List.length_append,K9,List.length_take];omega
  have es:(encI (d.take i++zI (7-i))).set i (.i .i64 d[i])=encI (d.take (i+1)++zI (7-(i+1))):=by
   rw [rP];refine congrArg encI ?_;have h6:(d.take i).length=i:=by simp;omega
   rw [List.set_append_right _ _ (by omega),h6,Nat.sub_self,List.take_succ_eq_append_getElem (by omega),List.append_assoc];refine congrArg (d.take i ++ ·) ?_;rw [show 7-i=7-(i+1)+1 by omega];unfold zI;rw [List.replicate_succ,List.set_cons_zero];rfl
  rw [zN];simp only [esc,esh,Nat.reduceAdd,Nat.reduceMul,Nat.reduceLT,h1',hx,a1,ho,es,E8 (show i+1<9223372036854775808 by omega)];exact ih
theorem D3g {k l s p:Int} {d:List Int} (hd:d.length=7):ldN (some ⟨G9 k l s p d,true⟩) 4 6=some (.a (encI (d.take 6))):=by
 have h1:(G9 k l s p d).length=11:=by simp [B9,hd]
 simp only [ldN,Option.bind_some];rw [if_pos ⟨by omega,by simp⟩];simp only [List.drop_succ_cons,List.drop_zero];unfold encI;rw [List.map_take]
theorem jZ {k l s p:Int} {d:List Int} {h:A4} (hd:d.length=7):J8 [.a (G9 k l s p d)] h=some (.a (encI d),h):=by
 have key:∀ N,7<N->∀ g,∃ g',nM N [.a (G9 k l s p d)] g=some (.a (encI d),g'):=by
  intro N hN g;have:=B4O (g:=g) (k:=k) (l:=l) (s:=s) (p:=p) (z:=encI (zI 7)) (q:=N) hd (by rw [B9,K9]) 6 0 N (by omega) (by omega);have e0:encI (d.take 0++zI (7-0))=[Cell.i .i64 0,.i .i64 0,.i .i64 0,.i .i64 0,.i .i64 0,.i .i64 0,.i .i64 0]:=rfl;have e1:encI (zI 7)=[Cell.i .i64 0,.i .i64 0,.i .i64 0,.i .i64 0,.i .i64 0,.i .i64 0,.i .i64 0]:=rfl;rw [e0,e1] at this;rw [B1U];exact ⟨_,by simp only [esc,esh,Nat.reduceAdd,Nat.reduceMul,Nat.reduceLT,D3g hd];exact this⟩
 obtain ⟨g',e⟩:=key (h.length+8) (by omega) (ro h);exact A8n e (by simp)
def C3O (l s p:Int) (d:List Int):Bool:=decide (l=0/\s=0/\p=0/\d=zI 7)
def B7N (k l s p:Int) (d:List Int):Bool:=decide (0<=k/\k<=2)&&(M9 l&&(M9 p&&(decide (0<=s/\s<=34304)&&d.all M9)))
def A6h (k l s p:Int) (d:List Int):Bool:=if k=0 then C3O l s p d else B7N k l s p d
theorem B7i {h:A4} {d:List Int} {q:Nat} (hd:d.length=7):∀ e i m:Nat,i+e=7->e<m ->
  rU q m (.a (encI d)) (.c (.i .i64 i)) h=some (.c (.i .i64 (bif (d.drop i).all M9 then 0 else 1)),h)
 | e,i,0,_,hm=>by omega
 | 0,i,m+1,hi,hm=>by
  have c0:¬ (i:Int)<7:=by omega
  rw [A2S,List.drop_of_length_le (by omega)];simp only [esc,c0,List.all_nil]
 | e+1,i,m+1,hi,hm=>by
  have ih:=B7i (h:=h) (q:=q) hd e (i+1) m (by omega) (by omega);have c0:(i:Int)<7:=by omega
  have hx:tQ 7 (.a (encI d)) (.c (.i .i64 (i:Int)))=some (.c (.i .i64 d[i])):=by
   rw [B4b (by omega),H9,List.getElem?_eq_getElem (by omega)];rfl
  rw [A2S,List.drop_eq_getElem_cons (by omega),List.all_cons];cases c1:M9 d[i] with
  | true =>
   simp only [esc,c0,hx,T0,c1,Bool.true_and,E8 (show i+1<9223372036854775808 by omega)];exact ih
  | false=>simp only [esc,c0,hx,T0,c1,Bool.false_and]
theorem D2I {k l s p k' l' s' p':Int} {d d':List Int} {neg:Bool} (hd:d.length=7) (hd':d'.length=7) :
  aeq neg [Sh.i .i64,.i .i64,.i .i64,.i .i64,.i .i64,.i .i64,.i .i64,.i .i64,.i .i64,.i .i64,.i .i64] (.a (G9 k l s p d)) (.a (G9 k' l' s' p' d'))=some (.c (.b (bif neg then !decide (k::l::s::p::d=k'::l'::s'::p'::d') else decide (k::l::s::p::d=k'::l'::s'::p'::d')))):=by
 have h1:=D0A (l:=k::l::s::p::d) (m:=k'::l'::s'::p'::d') (n:=11) (by simp [hd]) (by simp [hd']);have h2:=C7a (l:=k::l::s::p::d) (m:=k'::l'::s'::p'::d') (n:=11) (by simp [hd]) (by simp [hd']);cases neg
 ·exact h2
 ·exact h1
theorem D2C {l s p:Int} {d:List Int}:decide ((0:Int)::l::s::p::d=0::0::0::0::zI 7)=C3O l s p d:=by
 unfold C3O;simp
theorem B6a:C7 [Cell.i .i64 0,.i .i64 0,.i .i64 0,.i .i64 0,.i .i64 0,.i .i64 0,.i .i64 0,.i .i64 0,.i .i64 0,.i .i64 0,.i .i64 0] []=some (G9 0 0 0 0 (zI 7)):=rfl
theorem A9j {k l s p:Int} {d:List Int} {h:A4} (hd:d.length=7):mL [.a (G9 k l s p d)] h=some (.c (.i .i64 (bif A6h k l s p d then 0 else 1)),h):=by
 have hlen:(G9 k l s p d).length=11:=by simp [B9,hd]
 have key:∀ N,8<N->∀ g,∃ g',uW N [.a (G9 k l s p d)] g=some (.c (.i .i64 (bif A6h k l s p d then 0 else 1)),g'):=by
  intro N hN g;have lp:=fun g=>B7i (h:=g) (q:=N) hd 7 0 N (by omega) (by omega)
  simp only [List.drop_zero,Int.cast_ofNat_Int] at lp;rw [B5t];unfold A6h;by_cases k0:k=0
  ·subst k0;rw [if_pos rfl];have c1:¬ (0:Int)<0:=by omega
   have c2:¬ (2:Int)<0:=by omega
   have hq:=D2I (k:=0) (l:=l) (s:=s) (p:=p) (k':=0) (l':=0) (s':=0) (p':=0) (neg:=true) hd (K9 (n:=7));simp only [cond_true,D2C] at hq;cases hz:C3O l s p d with
   | false =>
    rw [hz] at hq;exact ⟨_,by simp only [esc,esh,Nat.reduceAdd,Nat.reduceMul,Nat.reduceLT,c1,c2,hlen,B6a,hq]<;>rfl⟩
   | true =>
    rw [hz] at hq;have hz':=of_decide_eq_true hz;obtain ⟨rfl,rfl,rfl,rfl⟩:=hz';have sm:M9 0=true:=by decide
    have al:(zI 7).all M9=true:=by decide
    have c3:¬ (34304:Int)<0:=by omega
    rw [al] at lp;exact ⟨_,by simp only [esc,esh,Nat.reduceAdd,Nat.reduceMul,Nat.reduceLT,c1,c2,c3,hlen,B6a,hq,T0,sm,jZ hd,lp]<;>rfl⟩
  ·rw [if_neg k0];unfold B7N;by_cases c1:k<0
   ·rw [decide_eq_false (show ¬ (0<=k/\k<=2) by omega)];exact ⟨_,by simp only [esc,esh,Nat.reduceAdd,Nat.reduceMul,Nat.reduceLT,c1,Bool.false_and]<;>rfl⟩
   ·by_cases c2:2<k
    ·rw [decide_eq_false (show ¬ (0<=k/\k<=2) by omega)];exact ⟨_,by simp only [esc,esh,Nat.reduceAdd,Nat.reduceMul,Nat.reduceLT,c1,c2,Bool.false_and]<;>rfl⟩
    ·rw [decide_eq_true (show 0<=k/\k<=2 by omega),Bool.true_and];cases sl:M9 l with
     | false=>exact ⟨_,by simp only [esc,esh,Nat.reduceAdd,Nat.reduceMul,Nat.reduceLT,c1,c2,k0,T0,sl,Bool.false_and]<;>rfl⟩
     | true =>
      cases sp:M9 p with
      | false=>exact ⟨_,by simp only [esc,esh,Nat.reduceAdd,Nat.reduceMul,Nat.reduceLT,c1,c2,k0,T0,sl,sp,Bool.true_and,Bool.false_and]<;>rfl⟩
      | true =>
       by_cases c3:s<0
       ·rw [decide_eq_false (show ¬ (0<=s/\s<=34304) by omega)];exact ⟨_,by simp only [esc,esh,Nat.reduceAdd,Nat.reduceMul,Nat.reduceLT,c1,c2,k0,T0,sl,sp,c3,Bool.true_and,Bool.false_and]<;>rfl⟩
       ·by_cases c4:34304<s
        ·rw [decide_eq_false (show ¬ (0<=s/\s<=34304) by omega)];exact ⟨_,by simp only [esc,esh,Nat.reduceAdd,Nat.reduceMul,Nat.reduceLT,c1,c2,k0,T0,sl,sp,c3,c4,Bool.true_and,Bool.false_and]<;>rfl⟩
        ·rw [decide_eq_true (show 0<=s/\s<=34304 by omega)];exact ⟨_,by simp only [esc,esh,Nat.reduceAdd,Nat.reduceMul,Nat.reduceLT,c1,c2,k0,T0,sl,sp,c3,c4,Bool.true_and,hlen,jZ hd,lp]<;>rfl⟩
 obtain ⟨g',e⟩:=key (h.length+9) (by omega) (ro h);exact B19 e rfl
def A9g (k l s p:Int):List UInt8:=D9 1 k++zeros 1++D9 2 l++D9 4 s++D9 2 p
def A6b (d:List Int):List UInt8:=(d.map (D9 2)).flatten
def pA (k l s p:Int) (d:List Int):List UInt8:=A9g k l s p++A6b d++zeros 8
theorem oW {k l s p:Int}:(A9g k l s p).length=10:=by simp [A9g]
theorem xK {d:List Int}:(A6b d).length=2*d.length:=by
 unfold A6b
 induction d with
 | nil=>rfl
 | cons x d ih=>simp only [List.map_cons,List.flatten_cons,List.length_append,X8,List.length_cons,ih];omega
theorem xJ {k l s p:Int} {d:List Int} (hd:d.length=7):(pA k l s p d).length=32:=by
 unfold pA;rw [List.length_append,List.length_append,oW,xK,zeros_length,hd]
theorem C9D {d:List Int} {x:Int}:A6b (d++[x])=A6b d++D9 2 x:=by simp [A6b]
theorem C9E {k l s p:Int}:eZ (eZ (eZ (eZ (zeros 256) 0 1 k) 2 2 l) 4 4 s) 8 2 p=K7 256 (A9g k l s p):=by
 rw [<-D1Y];have h1:=fE (l:=[]) (a:=0) (w:=1) (v:=k) (by simp) (by omega) (by omega) (by omega);have h2:=fE (l:=[]++zeros (0-0)++D9 1 k) (a:=2) (w:=2) (v:=l) (by simp) (by omega) (by omega) (by omega);have h3:=fE (l:=[]++zeros (0-0)++D9 1 k++zeros 1++D9 2 l) (a:=4) (w:=4) (v:=s) (by simp) (by omega) (by omega) (by omega);have h4:=fE (l:=[]++zeros (0-0)++D9 1 k++zeros 1++D9 2 l++zeros 0++D9 4 s) (a:=8) (w:=2) (v:=p) (by simp) (by omega) (by omega) (by omega);simp only [List.length_append,List.length_nil,zeros_length,X8,Nat.sub_self,Nat.zero_sub,Nat.reduceAdd,Nat.reduceSub] at h1 h2 h3 h4;simp only [Int.cast_ofNat_Int] at h1 h2 h3 h4;rw [h1,h2,h3,h4]
 congr 1
theorem C6G {g:A4} {c0:List Cell} {B:List UInt8} {z:List Cell} {q:Nat} (hB:B.length=256) (hz:z.length=32):∀ e i m:Nat,i+e=32->e<m ->
  A0z q m (.c (.p (g.length+1) 0)) (.c (.p (g.length+2) 0)) (.c (.p (g.length+3) 0)) (.c (.i .i64 i)) (g++[some ⟨c0,true⟩,some ⟨z,true⟩,some ⟨A5 (B.take i++zeros (32-i)),true⟩,some ⟨A5 B,true⟩]) =
   some (.t [.a (A5 (B.take 32)),.c (.i .i64 0)],g++[some ⟨c0,true⟩,some ⟨A5 (B.take 32),true⟩,some ⟨A5 (B.take 32),true⟩,some ⟨A5 B,true⟩])
 | e,i,0,_,hm=>by omega
 | 0,i,m+1,hi,hm=>by
  have e0:i=32:=by omega
  subst e0;have h1':¬ ((32:Nat):Int)<32:=by omega
  have hl:(A5 (B.take 32)).length=32:=by rw [A6,List.length_take];omega
  have e1:A5 (B.take 32++zeros (32-32))=A5 (B.take 32):=by simp [zeros]
  rw [A64,e1];simp only [esc,esh,Nat.reduceAdd,Nat.reduceMul,Nat.reduceLT,h1',hl,hz]
 | e+1,i,m+1,hi,hm=>by
  have ih:=C6G (g:=g) (c0:=c0) (q:=q) hB hz e (i+1) m (by omega) (by omega);have h1':(i:Int)<32:=by omega
  have a1:D8 256 1 (.c (.p (g.length+3) 0)) (.c (.i .i64 (i:Int)))=some (.c (.p (g.length+3) i)):=by rw [I7 (by omega)];simp
  have a2:D8 32 1 (.c (.p (g.length+2) 0)) (.c (.i .i64 (i:Int)))=some (.c (.p (g.length+2) i)):=by rw [I7 (by omega)];simp
  have l1:(A5 B)[i]?=some (.i .u8 B[i].toNat):=by rw [rM,List.getElem?_eq_getElem (by omega)];rfl
  have ho:i<(A5 (B.take i++zeros (32-i))).length:=by rw [A6,List.length_append,zeros_length,List.length_take];omega
  have es:(A5 (B.take i++zeros (32-i))).set i (.i .u8 B[i].toNat)=A5 (B.take (i+1)++zeros (32-(i+1))):=by
   rw [iU];refine congrArg A5 ?_;have h6:(B.take i).length=i:=by simp;omega
   rw [List.set_append_right _ _ (by omega),h6,Nat.sub_self,List.take_succ_eq_append_getElem (by omega),List.append_assoc];refine congrArg (B.take i ++ ·) ?_;rw [show 32-i=32-(i+1)+1 by omega];unfold zeros;rw [List.replicate_succ,List.set_cons_zero];rfl
  rw [A64];simp only [esc,esh,Nat.reduceAdd,Nat.reduceMul,Nat.reduceLT,h1',a1,a2,l1,ho,es,E8 (show i+1<9223372036854775808 by omega)];exact ih
theorem C6H {g:A4} {k l s p:Int} {d:List Int} {c0 z:List Cell} {q:Nat} (hd:d.length=7) (hz:z.length=32) (hq:33<q):∀ e i m:Nat,i+e=7->e<m ->
  A0y q m (.c (.p (g.length+1) 0)) (.c (.p (g.length+2) 0)) (.c (.p (g.length+3) 0)) (.a (encI d)) (.c (.i .i64 i)) (g++[some ⟨c0,true⟩,some ⟨z,true⟩,some ⟨A5 (zeros 32),true⟩,some ⟨A5 (K7 256 (A9g k l s p++A6b (d.take i))),true⟩]) =
   some (.t [.a (A5 (pA k l s p d)),.c (.i .i64 0)],g++[some ⟨c0,true⟩,some ⟨A5 (pA k l s p d),true⟩,some ⟨A5 (pA k l s p d),true⟩,some ⟨A5 (K7 256 (A9g k l s p++A6b d)),true⟩])
 | e,i,0,_,hm=>by omega
 | 0,i,m+1,hi,hm=>by
  have e0:i=7:=by omega
  subst e0;have h1':¬ ((7:Nat):Int)<7:=by omega
  rw [List.take_of_length_le (by omega)];have hlen:(A9g k l s p++A6b d).length=24:=by rw [List.length_append,oW,xK,hd]
  have:=C6G (g:=g) (c0:=c0) (z:=z) (q:=q) (B:=K7 256 (A9g k l s p++A6b d)) (F8 (by omega)) hz 32 0 q (by omega) (by omega);have e1:(K7 256 (A9g k l s p++A6b d)).take 32=pA k l s p d:=by
   unfold K7 pA;rw [List.take_append,List.take_of_length_le (by omega),hlen];refine congrArg (A9g k l s p++A6b d ++ ·) ?_;unfold zeros;rw [List.take_replicate];rfl
  rw [e1] at this;simp only [List.take_zero,List.nil_append,Nat.sub_zero] at this;rw [A63];simp only [esc,h1'];exact this
 | e+1,i,m+1,hi,hm=>by
  have ih:=C6H (g:=g) (k:=k) (l:=l) (s:=s) (p:=p) (c0:=c0) hd hz hq e (i+1) m (by omega) (by omega);have h1':(i:Int)<7:=by omega
  have hx:tQ 7 (.a (encI d)) (.c (.i .i64 (i:Int)))=some (.c (.i .i64 d[i])):=by
   rw [B4b (by omega),H9,List.getElem?_eq_getElem (by omega)];rfl
  have hlen:(A9g k l s p++A6b (d.take i)).length=10+2*i:=by rw [List.length_append,oW,xK,List.length_take];omega
  have hL:(A5 (K7 256 (A9g k l s p++A6b (d.take i)))).length=256:=by rw [A6,F8 (by omega)]
  have e2:IntKind.wrap .i64 (2*(i:Int))=((2*i:Nat):Int):=by rw [wrap_i64 (by omega) (by omega)];omega
  have e3:IntKind.wrap .i64 (10+((2*i:Nat):Int))=((10+2*i:Nat):Int):=by rw [wrap_i64 (by omega) (by omega)];omega
  have hw:=T5 (l:=K7 256 (A9g k l s p++A6b (d.take i))) (h:=g++[some ⟨c0,true⟩,some ⟨z,true⟩,some ⟨A5 (zeros 32),true⟩,some ⟨A5 (K7 256 (A9g k l s p++A6b (d.take i))),true⟩]) (F8 (by omega)) (a:=((10+2*i:Nat):Int)) (w:=2) (v:=d[i]);have e4:=fE (l:=A9g k l s p++A6b (d.take i)) (a:=10+2*i) (w:=2) (v:=d[i]) (by omega) (by omega) (by omega) (by omega);rw [show ((2:Nat):Int)=2 from rfl,hlen,Nat.sub_self,show zeros 0=[] from rfl,List.append_nil,List.append_assoc,<-C9D,<-List.take_succ_eq_append_getElem (by omega)] at e4;rw [e4] at hw;have hL':(A5 (K7 256 (A9g k l s p++A6b (d.take (i+1))))).length=256:=by
   rw [A6,F8 (by rw [List.length_append,oW,xK,List.length_take];omega)]
  rw [A63];simp only [esc,esh,Nat.reduceAdd,Nat.reduceMul,Nat.reduceLT,h1',hx,hL,e2,e3,hw,hL',E8 (show i+1<9223372036854775808 by omega)];exact ih
theorem B4u {k l s p:Int} {d:List Int} {h:A4} (hd:d.length=7) :
  iD [.a (G9 k l s p d)] h=some (.t [.a (A5 (bif A6h k l s p d then pA k l s p d else zeros 32)),.c (.i .i64 (bif A6h k l s p d then 0 else 1))],h):=by
 have hlen:(G9 k l s p d).length=11:=by simp [B9,hd]
 have key:∀ N,33<N->∀ g,∃ g',A2k N [.a (G9 k l s p d)] g=some (.t [.a (A5 (bif A6h k l s p d then pA k l s p d else zeros 32)),.c (.i .i64 (bif A6h k l s p d then 0 else 1))],g'):=by
  intro N hN g;have hz:(A5 (zeros 32)).length=32:=by rw [A6];exact zeros_length
  have hz2:(A5 (zeros 256)).length=256:=by rw [A6];exact zeros_length
  rw [B9g,F5,F5];cases c:A6h k l s p d with
  | false =>
   generalize zeros 32=z at *;generalize zeros 256=y at *;exact ⟨_,by simp only [esc,esh,Nat.reduceAdd,Nat.reduceMul,Nat.reduceLT,hlen,A9j hd,c,hz,Int.reduceEq]<;>rfl⟩
  | true =>
   have:=C6H (g:=g) (k:=k) (l:=l) (s:=s) (p:=p) (c0:=G9 k l s p d) (z:=A5 (zeros 32)) (q:=N) hd hz hN 7 0 N (by omega) (by omega);simp only [List.take_zero,show A6b []=[] from rfl,List.append_nil] at this;have w1:=fun h=>T5 (h:=h) (l:=zeros 256) zeros_length (a:=0) (w:=1) (v:=k)
   have w2:=fun h=>T5 (h:=h) (l:=eZ (zeros 256) 0 1 k) (O2 zeros_length) (a:=2) (w:=2) (v:=l)
   have w3:=fun h=>T5 (h:=h) (l:=eZ (eZ (zeros 256) 0 1 k) 2 2 l) (O2 (O2 zeros_length)) (a:=4) (w:=4) (v:=s)
   have w4:=fun h=>T5 (h:=h) (l:=eZ (eZ (eZ (zeros 256) 0 1 k) 2 2 l) 4 4 s) (O2 (O2 (O2 zeros_length))) (a:=8) (w:=2) (v:=p)
   have l1:(A5 (eZ (zeros 256) 0 1 k)).length=256:=by rw [A6,O2 zeros_length]
   have l2:(A5 (eZ (eZ (zeros 256) 0 1 k) 2 2 l)).length=256:=by rw [A6,O2 (O2 zeros_length)]
   have l3:(A5 (eZ (eZ (eZ (zeros 256) 0 1 k) 2 2 l) 4 4 s)).length=256:=by rw [A6,O2 (O2 (O2 zeros_length))]
   have l4:(A5 (K7 256 (A9g k l s p))).length=256:=by rw [A6,F8 (by rw [oW];omega)]
   simp only [C9E] at w4;generalize zeros 32=z at *;generalize zeros 256=y at *;exact ⟨_,by simp only [esc,esh,Nat.reduceAdd,Nat.reduceMul,Nat.reduceLT,hlen,A9j hd,c,hz,hz2,w1,w2,w3,w4,l1,l2,l3,l4,jZ hd];exact this⟩
 obtain ⟨g',e⟩:=key (h.length+34) (by omega) (ro h);exact B5S e (by simp)
def B0A (b:List UInt8):Int:=fieldN b 0 1
def B2z (b:List UInt8):Int:=fieldN b 2 2
def B2B (b:List UInt8):Int:=fieldN b 4 4
def B2A (b:List UInt8):Int:=fieldN b 8 2
def W1 (b:List UInt8):List Int:=(List.range 7).map fun j=>fieldN b (10+2*j) 2
theorem H1 {b:List UInt8}:(W1 b).length=7:=by simp [W1]
theorem C3j {b:List UInt8} {i:Nat} (hi:i<7):(W1 b)[i]?=some (fieldN b (10+2*i) 2):=by simp [W1,hi]
theorem C6f {k l s p x:Int} {d:List Int} {i:Nat}:(G9 k l s p d).set (4+i) (.i .i64 x)=G9 k l s p (d.set i x):=by
 rw [show 4+i=i+1+1+1+1 by omega];simp only [G9,List.set_cons_succ,rP]
theorem B45 {D:List Int} (hD:D.length=7) {i:Nat} (hi:i<7):(D.take i++zI (7-i)).set i D[i]=D.take (i+1)++zI (7-(i+1)):=by
 have h6:(D.take i).length=i:=by simp;omega
 rw [List.set_append_right _ _ (by omega),h6,Nat.sub_self,List.take_succ_eq_append_getElem (by omega),List.append_assoc];refine congrArg (D.take i ++ ·) ?_;rw [show 7-i=7-(i+1)+1 by omega];unfold zI;rw [List.replicate_succ,List.set_cons_zero];rfl
theorem C3l {g:A4} {b:List UInt8} {k l s p:Int} {c0 z:List Cell} {q:Nat} (hb:b.length=32) (hz:z.length=11):∀ e i m:Nat,i+e=6->e<m ->
  A0x q m (.c (.p (g.length+1) 0)) (.c (.p (g.length+2) 0)) (.c (.p (g.length+3) 0)) (.c (.i .i64 i)) (g++[some ⟨c0,true⟩,some ⟨z,true⟩,some ⟨A5 (K7 256 b),true⟩,some ⟨G9 k l s p ((W1 b).take i++zI (7-i)),true⟩]) =
   some (.a (G9 k l s p (W1 b)),g++[some ⟨c0,true⟩,some ⟨G9 k l s p (W1 b),true⟩,some ⟨A5 (K7 256 b),true⟩,some ⟨G9 k l s p (W1 b),true⟩])
 | e,i,0,_,hm=>by omega
 | 0,i,m+1,hi,hm=>by
  have e0:i=6:=by omega
  subst e0;have h1':¬ ((6:Nat):Int)<6:=by omega
  have hX:(A5 (K7 256 b)).length=256:=by rw [A6,F8 (by omega)]
  have ha:=fun h=>kF (h:=h) (l:=K7 256 b) (F8 (by omega)) (a:=22) (w:=2)
  have e1:=C7h (b:=b) (a:=22) (w:=2) (by omega) (by omega) (by omega) (by omega);simp only [Int.cast_ofNat_Int] at e1;simp only [e1] at ha;have hl0:(G9 k l s p ((W1 b).take 6++zI (7-6))).length=11:=by simp [B9,H1,K9]
  have ho:(encI ((W1 b).take 6++zI (7-6))).length=7:=by simp [B9,H1,K9]
  have hg6:(W1 b)[6]'(by rw [H1];omega)=fieldN b 22 2:=by
   have:=C3j (b:=b) (i:=6) (by omega);rw [List.getElem?_eq_getElem (by rw [H1];omega)] at this;exact Option.some.inj this
  have es:(G9 k l s p ((W1 b).take 6++zI (7-6))).set 10 (.i .i64 (fieldN b 22 2))=G9 k l s p (W1 b):=by
   have h1:=C6f (k:=k) (l:=l) (s:=s) (p:=p) (x:=fieldN b 22 2) (d:=(W1 b).take 6++zI (7-6)) (i:=6);rw [show 4+6=10 from rfl] at h1;rw [h1,<-hg6,B45 H1 (by omega)];have:(W1 b).take (6+1)++zI (7-(6+1))=W1 b:=by rw [List.take_of_length_le (by rw [H1];omega)];simp [zI]
   rw [this]
  have hl1:(G9 k l s p (W1 b)).length=11:=by simp [B9,H1]
  rw [A62];simp only [esc,esh,Nat.reduceAdd,Nat.reduceMul,Nat.reduceLT,h1',hX,ha,ho,es,hl1,hz,B9,H1]
 | e+1,i,m+1,hi,hm=>by
  have ih:=C3l (g:=g) (k:=k) (l:=l) (s:=s) (p:=p) (c0:=c0) (q:=q) hb hz e (i+1) m (by omega) (by omega);have h1':(i:Int)<6:=by omega
  have hX:(A5 (K7 256 b)).length=256:=by rw [A6,F8 (by omega)]
  have e2:IntKind.wrap .i64 (2*(i:Int))=((2*i:Nat):Int):=by rw [wrap_i64 (by omega) (by omega)];omega
  have e3:IntKind.wrap .i64 (10+((2*i:Nat):Int))=((10+2*i:Nat):Int):=by rw [wrap_i64 (by omega) (by omega)];omega
  have ha:=fun h=>kF (h:=h) (l:=K7 256 b) (F8 (by omega)) (a:=((10+2*i:Nat):Int)) (w:=2)
  have e1:=C7h (b:=b) (a:=10+2*i) (w:=2) (by omega) (by omega) (by omega) (by omega);rw [show ((2:Nat):Int)=2 from rfl] at e1;simp only [e1] at ha;have a1:D8 6 1 (.c (.p (g.length+3) 4)) (.c (.i .i64 (i:Int)))=some (.c (.p (g.length+3) (4+i))):=by rw [I7 (by omega)];simp
  have ho:(encI ((W1 b).take i++zI (7-i))).length=7:=by simp [B9,H1,K9];omega
  have ho2:4+i<11:=by omega
  have hgi:(W1 b)[i]'(by rw [H1];omega)=fieldN b (10+2*i) 2:=by
   have:=C3j (b:=b) (i:=i) (by omega);rw [List.getElem?_eq_getElem (by rw [H1];omega)] at this;exact Option.some.inj this
  have es:(G9 k l s p ((W1 b).take i++zI (7-i))).set (4+i) (.i .i64 (fieldN b (10+2*i) 2))=G9 k l s p ((W1 b).take (i+1)++zI (7-(i+1))):=by
   rw [C6f,<-hgi,B45 H1 (by omega)]
  rw [A62];simp only [esc,esh,Nat.reduceAdd,Nat.reduceMul,Nat.reduceLT,h1',hX,e2,e3,ha,a1,ho,ho2,es,E8 (show i+1<9223372036854775808 by omega)];exact ih
theorem A6c {b:List UInt8} {h:A4} (hb:b.length=32):wJ [.a (A5 b)] h=some (.a (G9 (B0A b) (B2z b) (B2B b) (B2A b) (W1 b)),h):=by
 have key:∀ N,7<N->∀ g,∃ g',A2j N [.a (A5 b)] g=some (.a (G9 (B0A b) (B2z b) (B2B b) (B2A b) (W1 b)),g'):=by
  intro N hN g;have hl:(A5 b).length=32:=by rw [A6,hb]
  have hX:(A5 (K7 256 b)).length=256:=by rw [A6,F8 (by omega)]
  have hz:(List.replicate 256 (Cell.i .u8 0)).length=256:=List.length_replicate;have z11:[Cell.i .i64 0,.i .i64 0,.i .i64 0,.i .i64 0,.i .i64 0,.i .i64 0,.i .i64 0,.i .i64 0,.i .i64 0,.i .i64 0,.i .i64 0]=G9 0 0 0 0 (zI 7):=rfl;have l11:(G9 0 0 0 0 (zI 7)).length=11:=rfl;have ho:=A9X (h:=g++[some ⟨A5 b,true⟩,some ⟨G9 0 0 0 0 (zI 7),true⟩]) (v:=.c (.sl g.length 0 32 1)) (nv:=32) (data:=b) (Has.tr (by simp) (by omega) (T4 _)) (by omega);rw [C4Y (by omega)] at ho;have at_:∀ (a w:Nat),a+w<=32->1<=w->w<=4->∀ h,N5 [.a (A5 (K7 256 b)),.c (.i .i64 a),.c (.i .i64 w)] h=some (.c (.i .i64 (fieldN b a w)),h):=fun a w h1 h2 h3 h=>by
   rw [kF (F8 (by omega)),C7h (by omega) (by omega) h2 h3]
  have a1:=at_ 0 1 (by omega) (by omega) (by omega);have a2:=at_ 2 2 (by omega) (by omega) (by omega);have a3:=at_ 4 4 (by omega) (by omega) (by omega);have a4:=at_ 8 2 (by omega) (by omega) (by omega);simp only [Int.cast_ofNat_Int] at a1 a2 a3 a4;have ef:C7 (G9 0 0 0 0 (zI 7)) [(0,1,.c (.i .i64 (fieldN b 0 1))),(1,1,.c (.i .i64 (fieldN b 2 2))),(2,1,.c (.i .i64 (fieldN b 4 4))),(3,1,.c (.i .i64 (fieldN b 8 2)))]=some (G9 (B0A b) (B2z b) (B2B b) (B2A b) (zI 7)):=rfl;have lf:(G9 (B0A b) (B2z b) (B2B b) (B2A b) (zI 7)).length=11:=rfl;have:=C3l (g:=g) (b:=b) (k:=B0A b) (l:=B2z b) (s:=B2B b) (p:=B2A b) (c0:=A5 b) (z:=G9 0 0 0 0 (zI 7)) (q:=N) hb l11 6 0 N (by omega) (by omega);simp only [List.take_zero,List.nil_append,Nat.sub_zero] at this;rw [B9f,z11];generalize List.replicate 256 (Cell.i .u8 0)=z at *;generalize G9 0 0 0 0 (zI 7)=y at *;exact ⟨_,by simp only [esc,esh,Nat.reduceAdd,Nat.reduceMul,Nat.reduceLT,hl,ho,hz,hX,a1,a2,a3,a4,ef,l11,lf];exact this⟩
 obtain ⟨g',e⟩:=key (h.length+8) (by omega) (ro h);exact B5R e (by simp)
def rH (b:List UInt8):Bool:=A6h (B0A b) (B2z b) (B2B b) (B2A b) (W1 b)&&decide (pA (B0A b) (B2z b) (B2B b) (B2A b) (W1 b)=b)
def rF (b:List UInt8):List Cell:=bif rH b then G9 (B0A b) (B2z b) (B2B b) (B2A b) (W1 b) else G9 0 0 0 0 (zI 7)
theorem B1a {b:List UInt8}:(rF b).length=11:=by
 unfold rF;cases rH b<;>simp [B9,H1,K9]
theorem B35 {b:List UInt8}:I9 (rF b)=true:=by
 unfold rF;cases rH b<;>simp
theorem C0I {b:List UInt8} {h:A4} (hb:b.length=32):mM [.a (A5 b)] h=some (.t [.a (rF b),.c (.b (rH b))],h):=by
 have key:∀ g,∃ g',uX 0 [.a (A5 b)] g=some (.t [.a (rF b),.c (.b (rH b))],g'):=by
  intro g;have hl:(A5 b).length=32:=by rw [A6,hb]
  have hI:(G9 (B0A b) (B2z b) (B2B b) (B2A b) (W1 b)).length=11:=by simp [B9,H1]
  have z11:[Cell.i .i64 0,.i .i64 0,.i .i64 0,.i .i64 0,.i .i64 0,.i .i64 0,.i .i64 0,.i .i64 0,.i .i64 0,.i .i64 0,.i .i64 0]=G9 0 0 0 0 (zI 7):=rfl;have l11:(G9 0 0 0 0 (zI 7)).length=11:=rfl;have af:=B6a;rw [z11] at af;have hz:(List.replicate 32 (Cell.i .u8 0)).length=32:=List.length_replicate;have hp:=fun h=>B4u (h:=h) (k:=B0A b) (l:=B2z b) (s:=B2B b) (p:=B2A b) (d:=W1 b) H1
  have hB:(A5 (pA (B0A b) (B2z b) (B2B b) (B2A b) (W1 b))).length=32:=by rw [A6,xJ H1]
  have hZ:(A5 (zeros 32)).length=32:=by rw [A6];exact zeros_length
  have hq:=B9Q (l:=pA (B0A b) (B2z b) (B2B b) (B2A b) (W1 b)) (m:=b) (n:=32) (xJ H1) hb;rw [B5u,z11];unfold rF rH;generalize List.replicate 32 (Cell.i .u8 0)=z at *;generalize G9 0 0 0 0 (zI 7)=y at *;cases c:A6h (B0A b) (B2z b) (B2B b) (B2A b) (W1 b) with
  | false =>
   simp only [c,cond_false] at hp;exact ⟨_,by simp only [esc,esh,Nat.reduceAdd,Nat.reduceMul,Nat.reduceLT,hl,A6c hb,hI,l11,hp,hz,hZ,Int.reduceEq,af,Bool.false_and]<;>rfl⟩
  | true =>
   simp only [c,cond_true] at hp;cases c2:decide (pA (B0A b) (B2z b) (B2B b) (B2A b) (W1 b)=b) with
   | false =>
    rw [c2] at hq;exact ⟨_,by simp only [esc,esh,Nat.reduceAdd,Nat.reduceMul,Nat.reduceLT,hl,A6c hb,hI,l11,hp,hz,hB,hq,af,Bool.and_false]<;>rfl⟩
   | true =>
    rw [c2] at hq;exact ⟨_,by simp only [esc,esh,Nat.reduceAdd,Nat.reduceMul,Nat.reduceLT,hl,A6c hb,hI,l11,hp,hz,hB,hq,Bool.and_true]<;>rfl⟩
 obtain ⟨g',e⟩:=key (ro h);exact B2a e (by simp [B35])
end Go.Proofs.YteckncopbicmcaaGreat
namespace Go.Proofs.YteckncopbicmcaaGreat
open Go Go.Esc
set_option maxRecDepth 100000
noncomputable section
def A3c:AFn:=⟨sO [1] [aB 1 0,aO 2 (.mv (.v (.c (.i .i64 0))))] (sO [2] [aF 3 1 0,aL 4 3,aO 5 (.min (.t 4) (.v (.c (.i .i64 5)))),aO 6 (.max (.v (.c (.i .i64 0))) (.t 5)),aM 2 6] .ret),[.tmp 2]⟩
def A3q:E2:=E6
def uT:=rx A3q A3c
theorem B5q (n:Nat) (a0:Val) (h:A4):uT n [a0] h=bnd (cells? a0) fun c1=>bnd (A9 (.c (.p h.length 0)) 0) fun v2=>bnd (A7 (h++[some (Row.mk (c1) true)]) v2) fun v3=>bnd (A7r v3 (.c (.i .i64 5))) fun v4=>bnd (B6b (.c (.i .i64 0)) v4) fun v5=>some (v5,(h++[some (Row.mk (c1) true)])):=by kernel_rfl
theorem B0K:FnK Tryz.prog 156 A3c A3q uT:=.mk2 C9 Tryz.func156 (by kernel_rfl)
def H8:=tl A3c A3q
theorem Y5:SOk Tryz.prog 156 H8:=B0K.sok
theorem B16:G0 uT H8:=B0K.flat
def A5i:AFn:=⟨sO [0] [aO 2 (.mv (.v (.c (.b false))))] (sO [2] [aM 3 0,aO 4 (.bin .geq (.t 3) (.v (.c (.i .i64 0)))),aM 5 4,gM 6 5 true 0,aG 7 5 true (.bin .leq (.t 6) (.v (.c (.i .i64 65535)))),aO 8 (.pick (.t 5) (.t 7) (.v (.c (.b false)))),aM 2 8] .ret),[.tmp 2]⟩
def A5u:E2:=E6
def A5C:=rx A5u A5i
theorem B74 (n:Nat) (a0:Val) (h:A4):A5C n [a0] h=bnd (B5 .geq a0 (.c (.i .i64 0))) fun v1=>bnd (gd v1 true (some (a0,h)) (some (.no,h))) fun p2=>bnd (gd v1 true (bnd (B5 .leq p2.1 (.c (.i .i64 65535))) fun v3=>some (v3,p2.2)) (some (.no,p2.2))) fun p4=>bnd (F0 v1 p4.1 (.c (.b false))) fun v5=>some (v5,p4.2):=by kernel_rfl
theorem B27:FnK Tryz.prog 216 A5i A5u A5C:=.mk2 C9 Tryz.func216 (by kernel_rfl)
def dV:=tl A5i A5u
theorem A6N:SOk Tryz.prog 216 dV:=B27.sok
theorem B3A:G0 A5C dV:=B27.flat
def B4k:ACode:=sO [2,4,20,21,22] [aO 22 (.bin .lss (.t 21) (.v (.c (.i .i64 32))))] (.seq [2,4,20,21] (.cond (.t 22) .skip (.exit 0)) (.seq [2,4,20,21] (.block 1 (sO [2,4,5,6,20,21] [aM 23 21,aO 24 (.idxA1 32 (.t 20) (.t 21)),aM 5 23,aM 6 24] (.seq [2,4,5,6,20,21] (sO [2,4,5,6,20,21,27] [aM 25 6,aO 26 (.call 216 [(.t 25)]),aO 27 (.un .not (.t 26))] (.cond (.t 27) (sO [2,3] [aO 28 (.build (List.replicate 256 (.i .u8 0)) []),aN (.storeN 256 (.t 2) (.t 28)),aO 3 (.mv (.v (.c (.i .i64 1))))] .ret) .skip)) (.ops [aL' 29 256 4,aM 30 5,aO 31 (.bin .mul (.v (.c (.i .i64 2))) (.t 30)),aO 32 (.bin .add (.v (.c (.i .i64 32))) (.t 31)),aM 33 6,aO 34 (.call 213 [(.t 29),(.t 32),(.v (.c (.i .i64 2))),(.t 33)]),aN (.storeN 256 (.t 4) (.t 34))])))) (.ops [aO 35 (.bin .add (.t 21) (.v (.c (.i .i64 1)))),aM 21 35])))
def B4l:ACode:=sO [2,3] [aL' 36 256 4,aN (.storeN 256 (.t 2) (.t 36)),aO 3 (.mv (.v (.c (.i .i64 0))))] .ret
def A1X:AFn:=⟨sO [1,2] [aB 1 0,aO 2 (.alloc (List.replicate 256 (.i .u8 0))),aO 3 (.mv (.v (.c (.i .i64 0))))] (.seq [1,2] (.seq [1,2,11] (.draw 0 [aF 7 1 0,aL 8 7,aL' 9 33 1,aO 10 (.call 156 [(.t 9)])] [aO 11 (.bin .neq (.t 8) (.t 10))]) (.cond (.t 11) (sO [2,3] [aO 12 (.build (List.replicate 256 (.i .u8 0)) []),aN (.storeN 256 (.t 2) (.t 12)),aO 3 (.mv (.v (.c (.i .i64 1))))] .ret) .skip)) (.seq [1,2,4] (.draw 2 [aS 13 0 (.buildSl 1 4 ([.i .u8 0,.i .u8 0,.i .u8 0,.i .u8 0]) [(0,1,(.v (.c (.i .u8 105)))),(1,1,(.v (.c (.i .u8 100)))),(2,1,(.v (.c (.i .u8 120)))),(3,1,(.v (.c (.i .u8 33))))]),aO 14 (.mark (.t 13)),aO 15 (.call 212 [(.t 14)]),aF 16 1 0,aL 17 16,aO 18 (.call 213 [(.t 15),(.v (.c (.i .i64 4))),(.v (.c (.i .i64 1))),(.t 17)]),aS 4 1 (.alloc (List.replicate 256 (.i .u8 0)))] [aN (.storeN 256 (.t 4) (.t 18))]) (.seq [2,4] (sO [2,4,20,21] [aF 19 1 1,aL' 20 32 19,aO 21 (.mv (.v (.c (.i .i64 0))))] (.block 0 (.loop [2,4,20,21] B4k))) B4l))),[.cellN 2 256,.tmp 3]⟩
def vU:E2:=D6 156 H8 (D6 212 iG (D6 213 J5 (D6 216 dV E6)))
def C4t (n:Nat):KV:=kQ vU n B4l [2,4] A1X.fin
def C4u (n:Nat):KV:=F6 0 (C4t n)
def A0w (n m:Nat) (x2 x4 x20 xU:Val):AtH:=ar vU n B4k [2,4,20,21] (C4u n) m [x2,x4,x20,xU]
def A2i:=rx vU A1X
theorem B9e (n:Nat) (a0:Val) (h:A4):A2i n [a0] h=bnd (cells? a0) fun c1=>bnd (A9 (.c (.p h.length 0)) 0) fun v2=>bnd (A7 ((h++[some (Row.mk (c1) true)])++[some (Row.mk (List.replicate 256 (.i .u8 0)) true)]) v2) fun v3=>bnd (A8 ((h++[some (Row.mk (c1) true)])++[some (Row.mk (List.replicate 256 (.i .u8 0)) true)]) 33 (.c (.p h.length 0))) fun v4=>bnd (quiet (((h++[some (Row.mk (c1) true)])++[some (Row.mk (List.replicate 256 (.i .u8 0)) true)])++[]) (H8 [v4] (((h++[some (Row.mk (c1) true)])++[some (Row.mk (List.replicate 256 (.i .u8 0)) true)])++[]))) fun p5=>bnd (B5 .neq v3 p5.1) fun v6=>cnd v6 (bnd (C7 (List.replicate 256 (.i .u8 0)) []) fun c7=>bnd (B4 p5.2 256 (.c (.p (h++[some (Row.mk (c1) true)]).length 0)) (.a c7)) fun h8=>I6 [A8 h8 256 (.c (.p (h++[some (Row.mk (c1) true)]).length 0)),some (.c (.i .i64 1))] h8) (bnd (C7 ([.i .u8 0,.i .u8 0,.i .u8 0,.i .u8 0]) [(0,1,.c (.i .u8 105)),(1,1,.c (.i .u8 100)),(2,1,.c (.i .u8 120)),(3,1,.c (.i .u8 33))]) fun c9=>bnd (A2w ((p5.2++[none,none]).set (p5.2.length+0) (some (Row.mk (c9) true))) (.c (.sl (p5.2.length+0) 0 4 1))) fun T6=>bnd (quiet ((p5.2++[none,none]).set (p5.2.length+0) (some (Row.mk (c9) true))) (iG [T6] ((p5.2++[none,none]).set (p5.2.length+0) (some (Row.mk (c9) true))))) fun p11=>bnd (A9 (.c (.p h.length 0)) 0) fun v12=>bnd (A7 p5.2 v12) fun v13=>bnd (quiet p11.2 (J5 [p11.1,.c (.i .i64 4),.c (.i .i64 1),v13] p11.2)) fun dG=>bnd (B4 (dG.2.set (p5.2.length+1) (some (Row.mk (List.replicate 256 (.i .u8 0)) true))) 256 (.c (.p (p5.2.length+1) 0)) dG.1) fun h15=>bnd (A9 (.c (.p h.length 0)) 1) fun T7=>bnd (A8 h15 32 T7) fun W3=>A0w n n (.c (.p (h++[some (Row.mk (c1) true)]).length 0)) (.c (.p (p5.2.length+1) 0)) W3 (.c (.i .i64 0)) h15):=by kernel_rfl
theorem A61 (n m:Nat) (x2 x4 x20 xU:Val) (h:A4):A0w n (m+1) x2 x4 x20 xU h=bnd (B5 .lss xU (.c (.i .i64 32))) fun dN=>cnd dN (bnd (tQ 32 x20 xU) fun dO=>bnd (dV [dO] h) fun gH=>bnd (aun .not gH.1) fun v21=>cnd v21 (bnd (C7 (List.replicate 256 (.i .u8 0)) []) fun c22=>bnd (B4 gH.2 256 x2 (.a c22)) fun h23=>I6 [A8 h23 256 x2,some (.c (.i .i64 1))] h23) (bnd (A8 gH.2 256 x4) fun v24=>bnd (B5 .mul (.c (.i .i64 2)) xU) fun v25=>bnd (B5 .add (.c (.i .i64 32)) v25) fun v26=>bnd (J5 [v24,v26,.c (.i .i64 2),dO] gH.2) fun p27=>bnd (B4 p27.2 256 x4 p27.1) fun h28=>bnd (B5 .add xU (.c (.i .i64 1))) fun v29=>A0w n m x2 x4 x20 v29 h28)) (bnd (A8 h 256 x4) fun v30=>bnd (B4 h 256 x2 v30) fun h31=>I6 [A8 h31 256 x2,some (.c (.i .i64 0))] h31):=by kernel_rfl
theorem B6U:FnK Tryz.prog 138 A1X vU A2i:=.mk2 (B8 Y5 (B8 A2v (B8 vD (B8 A6N C9)))) Tryz.func138 (by kernel_rfl)
def gZ:=tl A1X vU
theorem A8m:SOk Tryz.prog 138 gZ:=B6U.sok
theorem B5M:G0 A2i gZ:=B6U.flat
def A5j:AFn:=⟨sO [1] [aB 1 0,aO 2 (.mv (.v (.c (.i .i64 0))))] (sO [2] [aL' 3 33 1,aO 4 (.call 156 [(.t 3)]),aO 5 (.conv .u64 (.t 4)),aO 6 (.bin .shl (.v (.c (.i .i64 1))) (.t 5)),aM 2 6] .ret),[.tmp 2]⟩
def A5v:E2:=D6 156 H8 E6
def A0i:=rx A5v A5j
theorem B75 (n:Nat) (a0:Val) (h:A4):A0i n [a0] h=bnd (cells? a0) fun c1=>bnd (A8 (h++[some (Row.mk (c1) true)]) 33 (.c (.p h.length 0))) fun v2=>bnd (H8 [v2] (h++[some (Row.mk (c1) true)])) fun p3=>bnd (dJ .u64 p3.1) fun v4=>bnd (B5 .shl (.c (.i .i64 1)) v4) fun v5=>some (v5,p3.2):=by kernel_rfl
theorem B28:FnK Tryz.prog 225 A5j A5v A0i:=.mk2 (B8 Y5 C9) Tryz.func225 (by kernel_rfl)
def J2:=tl A5j A5v
theorem aQ:SOk Tryz.prog 225 J2:=B28.sok
theorem B3B:G0 A0i J2:=B28.flat
def B4g:ACode:=sO [1,2,4,12,13] [aO 13 (.bin .lss (.t 12) (.v (.c (.i .i64 32))))] (.seq [1,2,4,12] (.cond (.t 13) .skip (.exit 0)) (.seq [1,2,4,12] (.block 1 (sO [1,2,4,5,12] [aM 14 12,aM 5 14] (.ops [aM 15 5,aL' 16 256 1,aM 17 5,aO 18 (.bin .mul (.v (.c (.i .i64 2))) (.t 17)),aO 19 (.bin .add (.v (.c (.i .i64 32))) (.t 18)),aO 20 (.call 142 [(.t 16),(.t 19),(.v (.c (.i .i64 2)))]),aF 21 4 1,aO 22 (.iAddrA 32 1 (.t 21) (.t 15)),aN (.store1 (.t 22) (.t 20))]))) (.ops [aO 23 (.bin .add (.t 12) (.v (.c (.i .i64 1)))),aM 12 23])))
def B4i:ACode:=.seq [2,4,8] (sO [2,4,8,40] [aM 39 8,aO 40 (.bin .lss (.t 39) (.v (.c (.i .i64 32))))] (.cond (.t 40) .skip (.exit 2))) (.seq [2,4,8] (.block 3 (sO [2,4,8,47] [aM 43 8,aF 44 4 1,aO 45 (.iAddrA 32 1 (.t 44) (.t 43)),aL 46 45,aO 47 (.bin .neq (.t 46) (.v (.c (.i .i64 0))))] (.cond (.t 47) (sO [2,3] [aO 48 (.build ([.i .i64 0]++List.replicate 32 (.i .i64 0)) []),aN (.storeN 33 (.t 2) (.t 48)),aO 3 (.mv (.v (.c (.i .i64 14))))] .ret) .skip))) (.ops [aM 41 8,aO 42 (.bin .add (.t 41) (.v (.c (.i .i64 1)))),aM 8 42]))
def B4j:ACode:=sO [2,3] [aL' 49 33 4,aN (.storeN 33 (.t 2) (.t 49)),aO 3 (.mv (.v (.c (.i .i64 0))))] .ret
def B4h:ACode:=sO [1,2,4,6,7] [aL' 25 33 4,aO 26 (.call 138 [(.t 25)]),aM 24 26,aE 27 24 0,aE 28 24 1,aO 6 (.alloc (List.replicate 256 (.i .u8 0))),aN (.storeN 256 (.t 6) (.t 27)),aM 7 28] (.seq [2,4] (sO [2,4,35] [aM 29 7,aO 30 (.bin .neq (.t 29) (.v (.c (.i .i64 0)))),aM 31 30,aG 32 31 false (.loadN 256 (.t 6)),aG 33 31 false (.loadN 256 (.t 1)),aG 34 31 false (.eqA true (List.replicate 256 (.i .u8)) (.t 32) (.t 33)),aO 35 (.pick (.t 31) (.v (.c (.b true))) (.t 34))] (.cond (.t 35) (sO [2,3] [aO 36 (.build ([.i .i64 0]++List.replicate 32 (.i .i64 0)) []),aN (.storeN 33 (.t 2) (.t 36)),aO 3 (.mv (.v (.c (.i .i64 14))))] .ret) .skip)) (.seq [2,4] (sO [2,4,8] [aL' 37 33 4,aO 38 (.call 225 [(.t 37)]),aM 8 38] (.block 2 (.loop [2,4,8] B4i))) B4j))
def vR:AFn:=⟨sO [1,2] [aB 1 0,aO 2 (.alloc ([.i .i64 0]++List.replicate 32 (.i .i64 0))),aO 3 (.mv (.v (.c (.i .i64 0))))] (sO [1,2,4] [aL' 9 256 1,aO 10 (.call 142 [(.t 9),(.v (.c (.i .i64 4))),(.v (.c (.i .i64 1)))]),aO 11 (.build ([.i .i64 0]++List.replicate 32 (.i .i64 0)) [(0,1,(.t 10))]),aO 4 (.alloc ([.i .i64 0]++List.replicate 32 (.i .i64 0))),aN (.storeN 33 (.t 4) (.t 11))] (.seq [1,2,4] (sO [1,2,4,12] [aO 12 (.mv (.v (.c (.i .i64 0))))] (.block 0 (.loop [1,2,4,12] B4g))) B4h)),[.cellN 2 33,.tmp 3]⟩
def gN:E2:=D6 142 N5 (D6 138 gZ (D6 225 J2 E6))
def C4p (n:Nat):KV:=kQ gN n B4h [1,2,4] vR.fin
def C4q (n:Nat):KV:=F6 0 (C4p n)
def A0u (n m:Nat) (x1 x2 x4 x12:Val):AtH:=ar gN n B4g [1,2,4,12] (C4q n) m [x1,x2,x4,x12]
def A2h:=rx gN vR
def C4r (n:Nat):KV:=kQ gN n B4j [2,4] vR.fin
def C4s (n:Nat):KV:=F6 2 (C4r n)
def A0v (n m:Nat) (x2 x4 x8:Val):AtH:=ar gN n B4i [2,4,8] (C4s n) m [x2,x4,x8]
theorem B9d (n:Nat) (a0:Val) (h:A4):A2h n [a0] h=bnd (cells? a0) fun c1=>bnd (A8 ((h++[some (Row.mk (c1) true)])++[some (Row.mk ([.i .i64 0]++List.replicate 32 (.i .i64 0)) true)]) 256 (.c (.p h.length 0))) fun v2=>bnd (N5 [v2,.c (.i .i64 4),.c (.i .i64 1)] ((h++[some (Row.mk (c1) true)])++[some (Row.mk ([.i .i64 0]++List.replicate 32 (.i .i64 0)) true)])) fun p3=>bnd (C7 ([.i .i64 0]++List.replicate 32 (.i .i64 0)) [(0,1,p3.1)]) fun c4=>bnd (B4 (p3.2++[some (Row.mk ([.i .i64 0]++List.replicate 32 (.i .i64 0)) true)]) 33 (.c (.p p3.2.length 0)) (.a c4)) fun h5=>A0u n n (.c (.p h.length 0)) (.c (.p (h++[some (Row.mk (c1) true)]).length 0)) (.c (.p p3.2.length 0)) (.c (.i .i64 0)) h5:=by kernel_rfl
theorem A6W (n m:Nat) (x1 x2 x4 x12:Val) (h:A4):A0u n (m+1) x1 x2 x4 x12 h=bnd (B5 .lss x12 (.c (.i .i64 32))) fun v6=>cnd v6 (bnd (A8 h 256 x1) fun v7=>bnd (B5 .mul (.c (.i .i64 2)) x12) fun v8=>bnd (B5 .add (.c (.i .i64 32)) v8) fun v9=>bnd (N5 [v7,v9,.c (.i .i64 2)] h) fun p10=>bnd (A9 x4 1) fun v11=>bnd (D8 32 1 v11 x12) fun v12=>bnd (D3 p10.2 v12 p10.1) fun h13=>bnd (B5 .add x12 (.c (.i .i64 1))) fun cE=>A0u n m x1 x2 x4 cE h13) (bnd (A8 h 33 x4) fun dE=>bnd (gZ [dE] h) fun sF=>bnd (H0 sF.1 0) fun W3=>bnd (H0 sF.1 1) fun dN=>bnd (B4 (sF.2++[some (Row.mk (List.replicate 256 (.i .u8 0)) true)]) 256 (.c (.p sF.2.length 0)) W3) fun h19=>bnd (B5 .neq dN (.c (.i .i64 0))) fun jN=>bnd (gd jN false (bnd (A8 h19 256 (.c (.p sF.2.length 0))) fun v21=>some (v21,h19)) (some (.no,h19))) fun p22=>bnd (gd jN false (bnd (A8 p22.2 256 x1) fun v23=>some (v23,p22.2)) (some (.no,p22.2))) fun fU=>bnd (gd jN false (bnd (aeq true (List.replicate 256 (.i .u8)) p22.1 fU.1) fun v25=>some (v25,fU.2)) (some (.no,fU.2))) fun p26=>bnd (F0 jN (.c (.b true)) p26.1) fun v27=>cnd v27 (bnd (C7 ([.i .i64 0]++List.replicate 32 (.i .i64 0)) []) fun c28=>bnd (B4 p26.2 33 x2 (.a c28)) fun h29=>I6 [A8 h29 33 x2,some (.c (.i .i64 14))] h29) (bnd (A8 p26.2 33 x4) fun v30=>bnd (J2 [v30] p26.2) fun p31=>A0v n n x2 x4 p31.1 p31.2)):=by kernel_rfl
theorem A6X (n m:Nat) (x2 x4 x8:Val) (h:A4):A0v n (m+1) x2 x4 x8 h=bnd (B5 .lss x8 (.c (.i .i64 32))) fun v32=>cnd v32 (bnd (A9 x4 1) fun v33=>bnd (D8 32 1 v33 x8) fun v34=>bnd (A7 h v34) fun v35=>bnd (B5 .neq v35 (.c (.i .i64 0))) fun v36=>cnd v36 (bnd (C7 ([.i .i64 0]++List.replicate 32 (.i .i64 0)) []) fun c37=>bnd (B4 h 33 x2 (.a c37)) fun h38=>I6 [A8 h38 33 x2,some (.c (.i .i64 14))] h38) (bnd (B5 .add x8 (.c (.i .i64 1))) fun v39=>A0v n m x2 x4 v39 h)) (bnd (A8 h 33 x4) fun v40=>bnd (B4 h 33 x2 v40) fun h41=>I6 [A8 h41 33 x2,some (.c (.i .i64 0))] h41):=by kernel_rfl
theorem B6T:FnK Tryz.prog 154 vR gN A2h:=.mk2 (B8 wN (B8 A8m (B8 aQ C9))) Tryz.func154 (by kernel_rfl)
def wI:=tl vR gN
theorem B9B:SOk Tryz.prog 154 wI:=B6T.sok
theorem B5K:G0 A2h wI:=B6T.flat
def A3b:AFn:=⟨sO [1,2] [aB 2 0,aO 4 (.mv (.v (.c (.i .i64 0))))] (sO [4] [aM 5 1,aL' 6 33 2,aO 7 (.call 156 [(.t 6)]),aO 8 (.call 155 [(.t 5),(.t 7)]),aM 4 8] .ret),[.tmp 4]⟩
def A3p:E2:=D6 156 H8 (D6 155 A4w E6)
def uR:=rx A3p A3b
theorem B5o (n:Nat) (a0 a1:Val) (h:A4):uR n [a0,a1] h=bnd (cells? a0) fun c1=>bnd (A8 (h++[some (Row.mk (c1) true)]) 33 (.c (.p h.length 0))) fun v2=>bnd (H8 [v2] (h++[some (Row.mk (c1) true)])) fun p3=>bnd (A4w [a1,p3.1] p3.2) fun p4=>some (p4.1,p4.2):=by kernel_rfl
theorem B0I:FnK Tryz.prog 77 A3b A3p uR:=.mk2 (B8 Y5 (B8 C3X C9)) Tryz.func77 (by kernel_rfl)
def mI:=tl A3b A3p
theorem B5L:SOk Tryz.prog 77 mI:=B0I.sok
theorem B13:G0 uR mI:=B0I.flat
def A9a:ACode:=sO [1,2,6,7,8] [aO 8 (.bin .lss (.t 7) (.t 6))] (.seq [1,2,6,7] (.cond (.t 8) .skip (.exit 0)) (.seq [1,2,6,7] (.block 1 (sO [1,2,5,6,7] [aM 9 7,aM 5 9] (.seq [1,2,6,7,18] (.draw 0 [aM 10 5,aF 11 2 1,aO 12 (.iAddrA 32 1 (.t 11) (.t 10)),aL 13 12,aM 14 1,aF 15 2 1,aO 16 (.iAddrA 32 1 (.t 15) (.t 14)),aL 17 16] [aO 18 (.bin .eql (.t 13) (.t 17))]) (.cond (.t 18) (sO [4] [aO 4 (.mv (.v (.c (.b false))))] .ret) .skip)))) (.ops [aO 19 (.bin .add (.t 7) (.v (.c (.i .i64 1)))),aM 7 19])))
def A9b:ACode:=sO [4] [aO 4 (.mv (.v (.c (.b true))))] .ret
def uI:AFn:=⟨sO [1,2] [aB 2 0,aO 4 (.mv (.v (.c (.b false))))] (.seq [] (sO [1,2,6,7] [aM 6 1,aO 7 (.mv (.v (.c (.i .i64 0))))] (.block 0 (.loop [1,2,6,7] A9a))) A9b),[.tmp 4]⟩
def lZ:E2:=E6
def C0A (n:Nat):KV:=kQ lZ n A9b [] uI.fin
def C0B (n:Nat):KV:=F6 0 (C0A n)
def rS (n m:Nat) (x1 x2 x6 x7:Val):AtH:=ar lZ n A9a [1,2,6,7] (C0B n) m [x1,x2,x6,x7]
def uU:=rx lZ uI
theorem B5r (n:Nat) (a0 a1:Val) (h:A4):uU n [a0,a1] h=bnd (cells? a0) fun c1=>rS n n a1 (.c (.p h.length 0)) a1 (.c (.i .i64 0)) (h++[some (Row.mk (c1) true)]):=by kernel_rfl
theorem A2Q (n m:Nat) (x1 x2 x6 x7:Val) (h:A4):rS n (m+1) x1 x2 x6 x7 h=bnd (B5 .lss x7 x6) fun v2=>cnd v2 (bnd (A9 x2 1) fun v3=>bnd (D8 32 1 v3 x7) fun v4=>bnd (A7 h v4) fun v5=>bnd (A9 x2 1) fun v6=>bnd (D8 32 1 v6 x1) fun v7=>bnd (A7 h v7) fun v8=>bnd (B5 .eql v5 v8) fun v9=>cnd v9 (some ((.c (.b false)),(h++[]))) (bnd (B5 .add x7 (.c (.i .i64 1))) fun T6=>rS n m x1 x2 x6 T6 (h++[]))) (some ((.c (.b true)),h)):=by kernel_rfl
theorem B0L:FnK Tryz.prog 228 uI lZ uU:=.mk2 C9 Tryz.func228 (by kernel_rfl)
def bT:=tl uI lZ
theorem A4v:SOk Tryz.prog 228 bT:=B0L.sok
theorem B17:G0 uU bT:=B0L.flat
def A4W:ACode:=.ops [aO 27 (.bin .add (.t 7) (.v (.c (.i .i64 1)))),aM 7 27]
def tX:ACode:=sO [1,3,6,7,8] [aO 8 (.bin .lss (.t 7) (.t 6))] (.seq [1,3,6,7] (.cond (.t 8) .skip (.exit 0)) (.seq [1,3,6,7] (.block 1 (sO [1,3,4,6,7] [aM 9 7,aM 4 9] (sO [1,3,4,6,7,19] [aM 10 4,aF 11 1 1,aO 12 (.iAddrA 32 1 (.t 11) (.t 10)),aL 13 12,aO 14 (.bin .neq (.t 13) (.v (.c (.i .i64 0)))),aM 15 14,aG 16 15 true (.loadN 33 (.t 1)),gM 17 15 true 4,aG 18 15 true (.call 228 [(.t 16),(.t 17)]),aO 19 (.pick (.t 15) (.t 18) (.v (.c (.b false))))] (.cond (.t 19) (.ops [aM 20 3,aM 21 4,aF 22 1 1,aO 23 (.iAddrA 32 1 (.t 22) (.t 21)),aL 24 23,aO 25 (.buildSl 1 1 ([.i .i64 0]) [(0,1,(.t 24))]),aO 26 (.app 1 (.t 20) (.t 25)),aM 3 26]) .skip)))) A4W))
def A4V:ACode:=sO [2] [aM 28 3,aM 2 28] .ret
def nH:AFn:=⟨sO [1] [aB 1 0,aO 2 (.nilrow 1)] (sO [1,3] [aO 3 (.nilrow 1)] (.seq [3] (sO [1,3,6,7] [aL' 5 33 1,aO 6 (.call 225 [(.t 5)]),aO 7 (.mv (.v (.c (.i .i64 0))))] (.block 0 (.loop [1,3,6,7] tX))) A4V)),[.tmp 2]⟩
def V1:E2:=D6 225 J2 (D6 228 bT E6)
def B6v (n:Nat):KV:=kQ V1 n A4V [3] nH.fin
def A4X (n:Nat):KV:=F6 0 (B6v n)
def cZ (n m:Nat) (x1 x3 x6 x7:Val):AtH:=ar V1 n tX [1,3,6,7] (A4X n) m [x1,x3,x6,x7]
def nL:=rx V1 nH
def B6w (n m:Nat):KV:=kL V1 n tX [1,3,6,7] (A4X n) m
def tZ (n m:Nat) (x1 x3 x6 x7:Val):AtH:=aj V1 n A4W (B6w n m) [1,3,6,7] [x1,x3,x6,x7]
theorem B1T (n:Nat) (a0:Val) (h:A4):nL n [a0] h=bnd (cells? a0) fun c1=>bnd (A8 (((h++[some (Row.mk (c1) true)])++[some (Row.mk ([]) true)])++[some (Row.mk ([]) true)]) 33 (.c (.p h.length 0))) fun v2=>bnd (J2 [v2] (((h++[some (Row.mk (c1) true)])++[some (Row.mk ([]) true)])++[some (Row.mk ([]) true)])) fun p3=>cZ n n (.c (.p h.length 0)) (.c (.sl ((h++[some (Row.mk (c1) true)])++[some (Row.mk ([]) true)]).length 0 0 1)) p3.1 (.c (.i .i64 0)) p3.2:=by kernel_rfl
theorem zM (n m:Nat) (x1 x3 x6 x7:Val) (h:A4):cZ n (m+1) x1 x3 x6 x7 h=bnd (B5 .lss x7 x6) fun v4=>cnd v4 (bnd (A9 x1 1) fun v5=>bnd (D8 32 1 v5 x7) fun v6=>bnd (A7 h v6) fun v7=>bnd (B5 .neq v7 (.c (.i .i64 0))) fun v8=>bnd (gd v8 true (bnd (A8 h 33 x1) fun v9=>some (v9,h)) (some (.no,h))) fun p10=>bnd (gd v8 true (some (x7,p10.2)) (some (.no,p10.2))) fun p11=>bnd (gd v8 true (bnd (bT [p10.1,p11.1] p11.2) fun p12=>some (p12.1,p12.2)) (some (.no,p11.2))) fun p13=>bnd (F0 v8 p13.1 (.c (.b false))) fun cE=>cnd cE (bnd (A9 x1 1) fun dE=>bnd (D8 32 1 dE x7) fun T7=>bnd (A7 p13.2 T7) fun W3=>bnd (C7 ([.i .i64 0]) [(0,1,W3)]) fun c18=>bnd (W7 (p13.2++[some (Row.mk (c18) true)]) 1 x3 (.c (.sl p13.2.length 0 1 1))) fun oY=>tZ n m x1 oY.1 x6 x7 oY.2) (tZ n m x1 x3 x6 x7 p13.2)) (some (x3,h)):=by kernel_rfl
theorem lQ (n m:Nat) (x1 x3 x6 x7:Val) (h:A4):tZ n m x1 x3 x6 x7 h=bnd (B5 .add x7 (.c (.i .i64 1))) fun jN=>cZ n m x1 x3 x6 jN h:=by kernel_rfl
theorem A6I:FnK Tryz.prog 162 nH V1 nL:=.mk2 (B8 aQ (B8 A4v C9)) Tryz.func162 (by kernel_rfl)
def N9:=tl nH V1
theorem nY:SOk Tryz.prog 162 N9:=A6I.sok
theorem B0g:B5h nL N9:=A6I.out
def A6Y:ACode:=.seq [3,7,8,9] (sO [3,7,8,9,31] [aM 28 9,aL' 29 33 3,aO 30 (.call 225 [(.t 29)]),aO 31 (.bin .lss (.t 28) (.t 30))] (.cond (.t 31) .skip (.exit 0))) (.seq [3,7,8,9] (.block 1 (.ops [aM 35 8,aM 36 9,aO 37 (.buildSl 1 1 ([.i .i64 0]) [(0,1,(.t 36))]),aO 38 (.app 1 (.t 35) (.t 37)),aM 8 38])) (.ops [aM 32 9,aM 33 7,aO 34 (.bin .add (.t 32) (.t 33)),aM 9 34]))
def A6Z:ACode:=sO [6] [aM 39 8,aM 6 39] .ret
def pI:AFn:=⟨sO [1,2,3] [aB 3 0,aO 6 (.nilrow 1)] (.seq [1,2,3] (sO [1,2,3,17] [aM 10 1,aO 11 (.bin .lss (.t 10) (.v (.c (.i .i64 0)))),aM 12 11,gM 13 12 false 1,aG 14 12 false (.loadN 33 (.t 3)),aG 15 12 false (.call 225 [(.t 14)]),aG 16 12 false (.bin .geq (.t 13) (.t 15)),aO 17 (.pick (.t 12) (.v (.c (.b true))) (.t 16))] (.cond (.t 17) (sO [6] [aO 6 (.nilrow 1)] .ret) .skip)) (sO [1,3,7] [aM 18 2,aL' 19 33 3,aO 20 (.call 156 [(.t 19)]),aO 21 (.min (.t 18) (.t 20)),aO 22 (.max (.v (.c (.i .i64 0))) (.t 21)),aO 23 (.conv .u64 (.t 22)),aO 24 (.bin .shl (.v (.c (.i .i64 1))) (.t 23)),aM 7 24] (sO [1,3,7,8] [aO 8 (.nilrow 1)] (.seq [8] (sO [3,7,8,9] [aM 25 1,aM 26 7,aO 27 (.bin .rem (.t 25) (.t 26)),aM 9 27] (.block 0 (.loop [3,7,8,9] A6Y))) A6Z)))),[.tmp 6]⟩
def gO:E2:=D6 225 J2 (D6 156 H8 E6)
def B8y (n:Nat):KV:=kQ gO n A6Z [8] pI.fin
def B8z (n:Nat):KV:=F6 0 (B8y n)
def nP (n m:Nat) (x3 x7 x8 x9:Val):AtH:=ar gO n A6Y [3,7,8,9] (B8z n) m [x3,x7,x8,x9]
def qG:=rx gO pI
theorem B3h (n:Nat) (a0 a1 a2:Val) (h:A4):qG n [a0,a1,a2] h=bnd (cells? a0) fun c1=>bnd (B5 .lss a1 (.c (.i .i64 0))) fun v2=>bnd (gd v2 false (some (a1,((h++[some (Row.mk (c1) true)])++[some (Row.mk ([]) true)]))) (some (.no,((h++[some (Row.mk (c1) true)])++[some (Row.mk ([]) true)])))) fun p3=>bnd (gd v2 false (bnd (A8 p3.2 33 (.c (.p h.length 0))) fun v4=>some (v4,p3.2)) (some (.no,p3.2))) fun p5=>bnd (gd v2 false (bnd (J2 [p5.1] p5.2) fun p6=>some (p6.1,p6.2)) (some (.no,p5.2))) fun p7=>bnd (gd v2 false (bnd (B5 .geq p3.1 p7.1) fun v8=>some (v8,p7.2)) (some (.no,p7.2))) fun p9=>bnd (F0 v2 (.c (.b true)) p9.1) fun T6=>cnd T6 (some ((.c (.sl p9.2.length 0 0 1)),(p9.2++[some (Row.mk ([]) true)]))) (bnd (A8 p9.2 33 (.c (.p h.length 0))) fun v11=>bnd (H8 [v11] p9.2) fun p12=>bnd (A7r a2 p12.1) fun v13=>bnd (B6b (.c (.i .i64 0)) v13) fun cE=>bnd (dJ .u64 cE) fun dE=>bnd (B5 .shl (.c (.i .i64 1)) dE) fun T7=>bnd (B5 .rem a1 T7) fun W3=>nP n n (.c (.p h.length 0)) T7 (.c (.sl p12.2.length 0 0 1)) W3 (p12.2++[some (Row.mk ([]) true)])):=by kernel_rfl
theorem B2D (n m:Nat) (x3 x7 x8 x9:Val) (h:A4):nP n (m+1) x3 x7 x8 x9 h=bnd (A8 h 33 x3) fun dN=>bnd (J2 [dN] h) fun oY=>bnd (B5 .lss x9 oY.1) fun jN=>cnd jN (bnd (C7 ([.i .i64 0]) [(0,1,x9)]) fun c21=>bnd (W7 (oY.2++[some (Row.mk (c21) true)]) 1 x8 (.c (.sl oY.2.length 0 1 1))) fun p22=>bnd (B5 .add x9 x7) fun v23=>nP n m x3 x7 p22.1 v23 p22.2) (some (x8,oY.2)):=by kernel_rfl
theorem A7Z:FnK Tryz.prog 258 pI gO qG:=.mk2 (B8 aQ (B8 Y5 C9)) Tryz.func258 (by kernel_rfl)
def Y9:=tl pI gO
theorem A2u:SOk Tryz.prog 258 Y9:=A7Z.sok
theorem B14:B5h qG Y9:=A7Z.out
def A9d:ACode:=sO [2,3,9,10,11,12] [aO 12 (.bin .lss (.t 11) (.t 10))] (.seq [2,3,9,10,11] (.cond (.t 12) .skip (.exit 0)) (.seq [2,3,9,10,11] (.block 1 (sO [2,3,8,9,10,11] [aO 13 (.iAddrL 1 (.t 9) (.t 11)),aL 14 13,aM 8 14] (sO [2,3,9,10,11,20] [aM 15 8,aF 16 3 1,aO 17 (.iAddrA 32 1 (.t 16) (.t 15)),aL 18 17,aM 19 2,aO 20 (.bin .neq (.t 18) (.t 19))] (.cond (.t 20) (sO [6] [aO 6 (.mv (.v (.c (.b false))))] .ret) .skip)))) (.ops [aO 21 (.bin .add (.t 11) (.v (.c (.i .i64 1)))),aM 11 21])))
def A9e:ACode:=sO [6] [aO 6 (.mv (.v (.c (.b true))))] .ret
def uJ:AFn:=⟨sO [1,2,3] [aB 3 0,aO 6 (.mv (.v (.c (.b false))))] (.seq [] (sO [2,3,9,10,11] [aM 9 1,aO 10 (.len (.t 9)),aO 11 (.mv (.v (.c (.i .i64 0))))] (.block 0 (.loop [2,3,9,10,11] A9d))) A9e),[.tmp 6]⟩
def mA:E2:=E6
def C0D (n:Nat):KV:=kQ mA n A9e [] uJ.fin
def C0E (n:Nat):KV:=F6 0 (C0D n)
def rT (n m:Nat) (x2 x3 x9 x10 x11:Val):AtH:=ar mA n A9d [2,3,9,10,11] (C0E n) m [x2,x3,x9,x10,x11]
def uV:=rx mA uJ
theorem B5s (n:Nat) (a0 a1 a2:Val) (h:A4):uV n [a0,a1,a2] h=bnd (cells? a0) fun c1=>bnd (O0 a1) fun v2=>rT n n a2 (.c (.p h.length 0)) a1 v2 (.c (.i .i64 0)) (h++[some (Row.mk (c1) true)]):=by kernel_rfl
theorem A2R (n m:Nat) (x2 x3 x9 x10 x11:Val) (h:A4):rT n (m+1) x2 x3 x9 x10 x11 h=bnd (B5 .lss x11 x10) fun v3=>cnd v3 (bnd (C4 1 x9 x11) fun v4=>bnd (A7 h v4) fun v5=>bnd (A9 x3 1) fun v6=>bnd (D8 32 1 v6 v5) fun v7=>bnd (A7 h v7) fun v8=>bnd (B5 .neq v8 x2) fun v9=>cnd v9 (some ((.c (.b false)),h)) (bnd (B5 .add x11 (.c (.i .i64 1))) fun T6=>rT n m x2 x3 x9 x10 T6 h)) (some ((.c (.b true)),h)):=by kernel_rfl
theorem B0M:FnK Tryz.prog 274 uJ mA uV:=.mk2 C9 Tryz.func274 (by kernel_rfl)
def mK:=tl uJ mA
theorem B5O:SOk Tryz.prog 274 mK:=B0M.sok
theorem B18:G0 uV mK:=B0M.flat
def B1f:ACode:=sO [1,2,15,16,17] [aO 17 (.bin .lss (.t 16) (.t 15))] (.seq [1,2,15,16] (.cond (.t 17) .skip (.exit 0)) (.seq [1,2,15,16] (.block 1 (sO [1,2,5,15,16] [aM 18 16,aM 5 18] (.seq [1,2,5,15,16,35] (.draw 0 [aM 19 1,aF 20 2 1,aO 21 (.iAddrA 32 1 (.t 20) (.t 19)),aL 22 21,aO 23 (.bin .neq (.t 22) (.v (.c (.i .i64 0)))),aM 24 23,aG 25 24 true (.loadN 33 (.t 2)),aG 26 24 true (.loadN 33 (.t 2)),gM 27 24 true 1,gM 28 24 true 5,aG 29 24 true (.call 258 [(.t 26),(.t 27),(.t 28)]),gM 30 24 true 1,aG 31 24 true (.fAddr (.t 2) 1),aG 32 24 true (.iAddrA 32 1 (.t 31) (.t 30)),aG 33 24 true (.load1 (.t 32))] [aG 34 24 true (.call 274 [(.t 25),(.t 29),(.t 33)]),aO 35 (.pick (.t 24) (.t 34) (.v (.c (.b false))))]) (.cond (.t 35) (sO [4] [aM 36 5,aM 4 36] .ret) .skip)))) (.ops [aO 37 (.bin .add (.t 16) (.v (.c (.i .i64 1)))),aM 16 37])))
def B1g:ACode:=sO [4] [aL' 38 33 2,aO 39 (.call 156 [(.t 38)]),aM 4 39] .ret
def zT:AFn:=⟨sO [1,2] [aB 2 0,aO 4 (.mv (.v (.c (.i .i64 0))))] (.seq [1,2] (sO [1,2,13] [aM 6 1,aO 7 (.bin .lss (.t 6) (.v (.c (.i .i64 0)))),aM 8 7,gM 9 8 false 1,aG 10 8 false (.loadN 33 (.t 2)),aG 11 8 false (.call 225 [(.t 10)]),aG 12 8 false (.bin .geq (.t 9) (.t 11)),aO 13 (.pick (.t 8) (.v (.c (.b true))) (.t 12))] (.cond (.t 13) (sO [4] [aO 4 (.mv (.v (.c (.i .i64 0))))] .ret) .skip)) (.seq [2] (sO [1,2,15,16] [aL' 14 33 2,aO 15 (.call 156 [(.t 14)]),aO 16 (.mv (.v (.c (.i .i64 0))))] (.block 0 (.loop [1,2,15,16] B1f))) B1g)),[.tmp 4]⟩
def pT:E2:=D6 225 J2 (D6 156 H8 (D6 258 Y9 (D6 274 mK E6)))
def C2i (n:Nat):KV:=kQ pT n B1g [2] zT.fin
def C2j (n:Nat):KV:=F6 0 (C2i n)
def vK (n m:Nat) (x1 x2 x15 x16:Val):AtH:=ar pT n B1f [1,2,15,16] (C2j n) m [x1,x2,x15,x16]
def A0h:=rx pT zT
theorem B73 (n:Nat) (a0 a1:Val) (h:A4):A0h n [a0,a1] h=bnd (cells? a0) fun c1=>bnd (B5 .lss a1 (.c (.i .i64 0))) fun v2=>bnd (gd v2 false (some (a1,(h++[some (Row.mk (c1) true)]))) (some (.no,(h++[some (Row.mk (c1) true)])))) fun p3=>bnd (gd v2 false (bnd (A8 p3.2 33 (.c (.p h.length 0))) fun v4=>some (v4,p3.2)) (some (.no,p3.2))) fun p5=>bnd (gd v2 false (bnd (J2 [p5.1] p5.2) fun p6=>some (p6.1,p6.2)) (some (.no,p5.2))) fun p7=>bnd (gd v2 false (bnd (B5 .geq p3.1 p7.1) fun v8=>some (v8,p7.2)) (some (.no,p7.2))) fun p9=>bnd (F0 v2 (.c (.b true)) p9.1) fun T6=>cnd T6 (some ((.c (.i .i64 0)),p9.2)) (bnd (A8 p9.2 33 (.c (.p h.length 0))) fun v11=>bnd (H8 [v11] p9.2) fun p12=>vK n n a1 (.c (.p h.length 0)) p12.1 (.c (.i .i64 0)) p12.2):=by kernel_rfl
theorem A4U (n m:Nat) (x1 x2 x15 x16:Val) (h:A4):vK n (m+1) x1 x2 x15 x16 h=bnd (B5 .lss x16 x15) fun v13=>cnd v13 (bnd (A9 x2 1) fun cE=>bnd (D8 32 1 cE x1) fun dE=>bnd (A7 h dE) fun T7=>bnd (B5 .neq T7 (.c (.i .i64 0))) fun W3=>bnd (gd W3 true (bnd (A8 h 33 x2) fun dN=>some (dN,(h++[]))) (some (.no,(h++[])))) fun oY=>bnd (gd W3 true (bnd (A8 h 33 x2) fun jN=>some (jN,oY.2)) (some (.no,oY.2))) fun p21=>bnd (gd W3 true (some (x1,p21.2)) (some (.no,p21.2))) fun p22=>bnd (gd W3 true (some (x16,p22.2)) (some (.no,p22.2))) fun p23=>bnd (gd W3 true (bnd (quiet p23.2 (Y9 [p21.1,p22.1,p23.1] p23.2)) fun fU=>some (fU.1,fU.2)) (some (.no,p23.2))) fun p25=>bnd (gd W3 true (some (x1,p25.2)) (some (.no,p25.2))) fun p26=>bnd (gd W3 true (bnd (A9 x2 1) fun v27=>some (v27,p26.2)) (some (.no,p26.2))) fun p28=>bnd (gd W3 true (bnd (D8 32 1 p28.1 p26.1) fun v29=>some (v29,p28.2)) (some (.no,p28.2))) fun p30=>bnd (gd W3 true (bnd (A7 h p30.1) fun v31=>some (v31,p30.2)) (some (.no,p30.2))) fun p32=>bnd (gd W3 true (bnd (mK [oY.1,p25.1,p32.1] p32.2) fun p33=>some (p33.1,p33.2)) (some (.no,p32.2))) fun p34=>bnd (F0 W3 p34.1 (.c (.b false))) fun v35=>cnd v35 (some (x16,p34.2)) (bnd (B5 .add x16 (.c (.i .i64 1))) fun v36=>vK n m x1 x2 x15 v36 p34.2)) (bnd (A8 h 33 x2) fun v37=>bnd (H8 [v37] h) fun p38=>some (p38.1,p38.2)):=by kernel_rfl
theorem B26:FnK Tryz.prog 259 zT pT A0h:=.mk2 (B8 aQ (B8 Y5 (B8 A2u (B8 B5O C9)))) Tryz.func259 (by kernel_rfl)
def qQ:=tl zT pT
theorem B8l:SOk Tryz.prog 259 qQ:=B26.sok
theorem B3z:G0 A0h qQ:=B26.flat
def A88:ACode:=.ops [aO 20 (.bin .add (.t 9) (.v (.c (.i .i64 1)))),aM 9 20]
def A1B:ACode:=sO [1,2,5,8,9,10] [aO 10 (.bin .lss (.t 9) (.t 8))] (.seq [1,2,5,8,9] (.cond (.t 10) .skip (.exit 0)) (.seq [1,2,5,8,9] (.block 1 (sO [1,2,5,6,8,9] [aM 11 9,aM 6 11] (sO [1,2,5,8,9,17] [aM 12 6,aF 13 2 1,aO 14 (.iAddrA 32 1 (.t 13) (.t 12)),aL 15 14,aM 16 1,aO 17 (.bin .eql (.t 15) (.t 16))] (.cond (.t 17) (.ops [aM 18 5,aO 19 (.bin .add (.t 18) (.v (.c (.i .i64 1)))),aM 5 19]) .skip)))) A88))
def A87:ACode:=sO [4] [aM 21 5,aM 4 21] .ret
def uH:AFn:=⟨sO [1,2] [aB 2 0,aO 4 (.mv (.v (.c (.i .i64 0))))] (sO [1,2,5] [aO 5 (.mv (.v (.c (.i .i64 0))))] (.seq [5] (sO [1,2,5,8,9] [aL' 7 33 2,aO 8 (.call 225 [(.t 7)]),aO 9 (.mv (.v (.c (.i .i64 0))))] (.block 0 (.loop [1,2,5,8,9] A1B))) A87)),[.tmp 4]⟩
def bQ:E2:=D6 225 J2 E6
def C0y (n:Nat):KV:=kQ bQ n A87 [5] uH.fin
def A89 (n:Nat):KV:=F6 0 (C0y n)
def rR (n m:Nat) (x1 x2 x5 x8 x9:Val):AtH:=ar bQ n A1B [1,2,5,8,9] (A89 n) m [x1,x2,x5,x8,x9]
def uS:=rx bQ uH
def C0z (n m:Nat):KV:=kL bQ n A1B [1,2,5,8,9] (A89 n) m
def A1C (n m:Nat) (x1 x2 x5 x8 x9:Val):AtH:=aj bQ n A88 (C0z n m) [1,2,5,8,9] [x1,x2,x5,x8,x9]
theorem B5p (n:Nat) (a0 a1:Val) (h:A4):uS n [a0,a1] h=bnd (cells? a0) fun c1=>bnd (A8 (h++[some (Row.mk (c1) true)]) 33 (.c (.p h.length 0))) fun v2=>bnd (J2 [v2] (h++[some (Row.mk (c1) true)])) fun p3=>rR n n a1 (.c (.p h.length 0)) (.c (.i .i64 0)) p3.1 (.c (.i .i64 0)) p3.2:=by kernel_rfl
theorem A2P (n m:Nat) (x1 x2 x5 x8 x9:Val) (h:A4):rR n (m+1) x1 x2 x5 x8 x9 h=bnd (B5 .lss x9 x8) fun v4=>cnd v4 (bnd (A9 x2 1) fun v5=>bnd (D8 32 1 v5 x9) fun v6=>bnd (A7 h v6) fun v7=>bnd (B5 .eql v7 x1) fun v8=>cnd v8 (bnd (B5 .add x5 (.c (.i .i64 1))) fun v9=>A1C n m x1 x2 v9 x8 x9 h) (A1C n m x1 x2 x5 x8 x9 h)) (some (x5,h)):=by kernel_rfl
theorem A2O (n m:Nat) (x1 x2 x5 x8 x9:Val) (h:A4):A1C n m x1 x2 x5 x8 x9 h=bnd (B5 .add x9 (.c (.i .i64 1))) fun T6=>rR n m x1 x2 x5 x8 T6 h:=by kernel_rfl
theorem B0J:FnK Tryz.prog 260 uH bQ uS:=.mk2 (B8 aQ C9) Tryz.func260 (by kernel_rfl)
def mJ:=tl uH bQ
theorem B5N:SOk Tryz.prog 260 mJ:=B0J.sok
theorem B15:G0 uS mJ:=B0J.flat
def B4e:ACode:=.ops [aO 51 (.bin .add (.t 17) (.v (.c (.i .i64 1)))),aM 17 51]
def A6a:ACode:=sO [1,2,3,16,17,18] [aO 18 (.bin .lss (.t 17) (.t 16))] (.seq [1,2,3,16,17] (.cond (.t 18) .skip (.exit 0)) (.seq [1,2,3,16,17] (.block 1 (sO [1,2,3,4,16,17] [aM 19 17,aM 4 19] (sO [1,2,3,4,5,16,17] [aM 20 4,aF 21 1 1,aO 22 (.iAddrA 32 1 (.t 21) (.t 20)),aL 23 22,aM 5 23] (.seq [1,2,3,4,5,16,17] (sO [1,2,3,4,5,16,17,30] [aM 24 5,aO 25 (.bin .eql (.t 24) (.v (.c (.i .i64 0)))),aM 26 25,gM 27 26 false 5,aG 28 26 false (.call 216 [(.t 27)]),aG 29 26 false (.un .not (.t 28)),aO 30 (.pick (.t 26) (.v (.c (.b true))) (.t 29))] (.cond (.t 30) (.exit 1) .skip)) (.seq [1,2,3,4,5,16,17,46] (.draw 0 [aL' 31 33 1,aM 32 4,aO 33 (.call 228 [(.t 31),(.t 32)]),aM 34 33,aG 35 34 false (.loadN 33 (.t 1)),gM 36 34 false 4,aG 37 34 false (.loadN 33 (.t 1)),gM 38 34 false 4,aG 39 34 false (.call 259 [(.t 37),(.t 38)]),aG 40 34 false (.call 258 [(.t 35),(.t 36),(.t 39)]),aG 41 34 false (.len (.t 40)),aG 42 34 false (.loadN 33 (.t 1)),gM 43 34 false 5,aG 44 34 false (.call 260 [(.t 42),(.t 43)])] [aG 45 34 false (.bin .eql (.t 41) (.t 44)),aO 46 (.pick (.t 34) (.v (.c (.b true))) (.t 45))]) (.cond (.t 46) (.ops [aM 47 4,aM 48 5,aF 49 3 1,aO 50 (.iAddrA 32 1 (.t 49) (.t 47)),aN (.store1 (.t 50) (.t 48))]) .skip)))))) B4e))
def B4d:ACode:=sO [2] [aL' 52 33 3,aN (.storeN 33 (.t 2) (.t 52))] .ret
def A1W:AFn:=⟨sO [1,2] [aB 1 0,aO 2 (.alloc ([.i .i64 0]++List.replicate 32 (.i .i64 0)))] (.seq [1,2] (.seq [1,2,10] (.draw 0 [aF 6 1 0,aL 7 6,aL' 8 33 1,aO 9 (.call 156 [(.t 8)])] [aO 10 (.bin .neq (.t 7) (.t 9))]) (.cond (.t 10) (sO [2] [aO 11 (.build ([.i .i64 0]++List.replicate 32 (.i .i64 0)) []),aN (.storeN 33 (.t 2) (.t 11))] .ret) .skip)) (sO [1,2,3] [aF 12 1 0,aL 13 12,aO 14 (.build ([.i .i64 0]++List.replicate 32 (.i .i64 0)) [(0,1,(.t 13))]),aO 3 (.alloc ([.i .i64 0]++List.replicate 32 (.i .i64 0))),aN (.storeN 33 (.t 3) (.t 14))] (.seq [2,3] (sO [1,2,3,16,17] [aL' 15 33 1,aO 16 (.call 225 [(.t 15)]),aO 17 (.mv (.v (.c (.i .i64 0))))] (.block 0 (.loop [1,2,3,16,17] A6a))) B4d))),[.cellN 2 33]⟩
def gL:E2:=D6 156 H8 (D6 225 J2 (D6 216 dV (D6 228 bT (D6 259 qQ (D6 258 Y9 (D6 260 mJ E6))))))
def C4m (n:Nat):KV:=kQ gL n B4d [2,3] A1W.fin
def B4f (n:Nat):KV:=F6 0 (C4m n)
def jY (n m:Nat) (x1 x2 x3 x16 x17:Val):AtH:=ar gL n A6a [1,2,3,16,17] (B4f n) m [x1,x2,x3,x16,x17]
def A2g:=rx gL A1W
def C4n (n m:Nat):KV:=kL gL n A6a [1,2,3,16,17] (B4f n) m
def A0t (n m:Nat) (x1 x2 x3 x16 x17:Val):AtH:=aj gL n B4e (C4n n m) [1,2,3,16,17] [x1,x2,x3,x16,x17]
theorem B9c (n:Nat) (a0:Val) (h:A4):A2g n [a0] h=bnd (cells? a0) fun c1=>bnd (A9 (.c (.p h.length 0)) 0) fun v2=>bnd (A7 ((h++[some (Row.mk (c1) true)])++[some (Row.mk ([.i .i64 0]++List.replicate 32 (.i .i64 0)) true)]) v2) fun v3=>bnd (A8 ((h++[some (Row.mk (c1) true)])++[some (Row.mk ([.i .i64 0]++List.replicate 32 (.i .i64 0)) true)]) 33 (.c (.p h.length 0))) fun v4=>bnd (quiet (((h++[some (Row.mk (c1) true)])++[some (Row.mk ([.i .i64 0]++List.replicate 32 (.i .i64 0)) true)])++[]) (H8 [v4] (((h++[some (Row.mk (c1) true)])++[some (Row.mk ([.i .i64 0]++List.replicate 32 (.i .i64 0)) true)])++[]))) fun p5=>bnd (B5 .neq v3 p5.1) fun v6=>cnd v6 (bnd (C7 ([.i .i64 0]++List.replicate 32 (.i .i64 0)) []) fun c7=>bnd (B4 p5.2 33 (.c (.p (h++[some (Row.mk (c1) true)]).length 0)) (.a c7)) fun h8=>mp (A8 h8 33 (.c (.p (h++[some (Row.mk (c1) true)]).length 0))) fun v=>(v,h8)) (bnd (A9 (.c (.p h.length 0)) 0) fun v9=>bnd (A7 p5.2 v9) fun T6=>bnd (C7 ([.i .i64 0]++List.replicate 32 (.i .i64 0)) [(0,1,T6)]) fun c11=>bnd (B4 (p5.2++[some (Row.mk ([.i .i64 0]++List.replicate 32 (.i .i64 0)) true)]) 33 (.c (.p p5.2.length 0)) (.a c11)) fun h12=>bnd (A8 h12 33 (.c (.p h.length 0))) fun v13=>bnd (J2 [v13] h12) fun dG=>jY n n (.c (.p h.length 0)) (.c (.p (h++[some (Row.mk (c1) true)]).length 0)) (.c (.p p5.2.length 0)) dG.1 (.c (.i .i64 0)) dG.2):=by kernel_rfl
theorem A6V (n m:Nat) (x1 x2 x3 x16 x17:Val) (h:A4):jY n (m+1) x1 x2 x3 x16 x17 h=bnd (B5 .lss x17 x16) fun dE=>cnd dE (bnd (A9 x1 1) fun T7=>bnd (D8 32 1 T7 x17) fun W3=>bnd (A7 h W3) fun dN=>bnd (B5 .eql dN (.c (.i .i64 0))) fun dO=>bnd (gd dO false (some (dN,h)) (some (.no,h))) fun gH=>bnd (gd dO false (bnd (dV [gH.1] gH.2) fun p21=>some (p21.1,p21.2)) (some (.no,gH.2))) fun p22=>bnd (gd dO false (bnd (aun .not p22.1) fun v23=>some (v23,p22.2)) (some (.no,p22.2))) fun fU=>bnd (F0 dO (.c (.b true)) fU.1) fun v25=>cnd v25 (A0t n m x1 x2 x3 x16 x17 fU.2) (bnd (A8 fU.2 33 x1) fun v26=>bnd (quiet (fU.2++[]) (bT [v26,x17] (fU.2++[]))) fun p27=>bnd (gd p27.1 false (bnd (A8 fU.2 33 x1) fun v28=>some (v28,p27.2)) (some (.no,p27.2))) fun p29=>bnd (gd p27.1 false (some (x17,p29.2)) (some (.no,p29.2))) fun p30=>bnd (gd p27.1 false (bnd (A8 fU.2 33 x1) fun v31=>some (v31,p30.2)) (some (.no,p30.2))) fun p32=>bnd (gd p27.1 false (some (x17,p32.2)) (some (.no,p32.2))) fun p33=>bnd (gd p27.1 false (bnd (quiet p33.2 (qQ [p32.1,p33.1] p33.2)) fun p34=>some (p34.1,p34.2)) (some (.no,p33.2))) fun p35=>bnd (gd p27.1 false (bnd (quiet p35.2 (Y9 [p29.1,p30.1,p35.1] p35.2)) fun p36=>some (p36.1,p36.2)) (some (.no,p35.2))) fun p37=>bnd (gd p27.1 false (bnd (O0 p37.1) fun v38=>some (v38,p37.2)) (some (.no,p37.2))) fun p39=>bnd (gd p27.1 false (bnd (A8 fU.2 33 x1) fun v40=>some (v40,p39.2)) (some (.no,p39.2))) fun p41=>bnd (gd p27.1 false (some (dN,p41.2)) (some (.no,p41.2))) fun p42=>bnd (gd p27.1 false (bnd (quiet p42.2 (mJ [p41.1,p42.1] p42.2)) fun p43=>some (p43.1,p43.2)) (some (.no,p42.2))) fun p44=>bnd (gd p27.1 false (bnd (B5 .eql p39.1 p44.1) fun v45=>some (v45,p44.2)) (some (.no,p44.2))) fun p46=>bnd (F0 p27.1 (.c (.b true)) p46.1) fun v47=>cnd v47 (bnd (A9 x3 1) fun v48=>bnd (D8 32 1 v48 x17) fun v49=>bnd (D3 p46.2 v49 dN) fun h50=>A0t n m x1 x2 x3 x16 x17 h50) (A0t n m x1 x2 x3 x16 x17 p46.2))) (bnd (A8 h 33 x3) fun v51=>bnd (B4 h 33 x2 v51) fun h52=>mp (A8 h52 33 x2) fun v=>(v,h52)):=by kernel_rfl
theorem eX (n m:Nat) (x1 x2 x3 x16 x17:Val) (h:A4):A0t n m x1 x2 x3 x16 x17 h=bnd (B5 .add x17 (.c (.i .i64 1))) fun v53=>jY n m x1 x2 x3 x16 v53 h:=by kernel_rfl
theorem B6S:FnK Tryz.prog 232 A1W gL A2g:=.mk2 (B8 Y5 (B8 aQ (B8 A6N (B8 A4v (B8 B8l (B8 A2u (B8 B5N C9))))))) Tryz.func232 (by kernel_rfl)
def wH:=tl A1W gL
theorem B9A:SOk Tryz.prog 232 wH:=B6S.sok
theorem B5J:G0 A2g wH:=B6S.flat
end
end Go.Proofs.YteckncopbicmcaaGreat
namespace Go.Proofs.YteckncopbicmcaaGreat
open Go Go.Esc
def D57 (D:Dev) (n:Int) (d:List Int) (j:Nat):Int :=
 if j<6 then d.getD j 0 else bif uA D.length n (d.getD 6 0) then ptP (blk D (d.getD 6 0)) (j-6) else 0
def D3U (D:Dev) (n:Int) (d:List Int) (j:Nat):Int:=bif uA D.length n (D57 D n d j) then D57 D n d j else 0
theorem C1g {h:A4} {id n sz:Nat} {cs ys:List Cell} (hr:rd h id=some ⟨cs,true⟩) (hl:cs.length=n*sz) (hy:ys.length=sz) (hsz:0<sz) (hn:n+1<=1073741824) :
  ∃ h',W7 (h++[some ⟨ys,true⟩]) sz (.c (.sl id 0 n sz)) (.c (.sl h.length 0 1 sz))=some (.c (.sl (h.length+1) 0 (n+1) sz),h')/\rd h' (h.length+1)=some ⟨cs++ys,true⟩/\(∀ i r,i≠id->rd h i=some r->rd h' i=some r)/\(∀ b,b<=id->b<=h.length->Low b h h'):=by
 have R0:=E4 hr;refine ⟨(h++[some (Row.mk ys true)]).set id none++[some (Row.mk (cs++ys) true)],?_,?_,fun i r hi hir=>?_,fun b hb hb2=>(((Low.refl hb2).new _).set hb none).new _⟩
 ·rw [A8z (h:=h++[some ⟨ys,true⟩]) (m:=1) (B6 hr) hl V6 (by omega) rfl hsz hn];simp
 ·have:=V6 (h:=(h++[some (Row.mk ys true)]).set id none) (r:=Row.mk (cs++ys) true);rw [List.length_set] at this;simpa using this
 ·refine B6 ?_;rw [B7 (Ne.symm hi)];exact B6 hir
def D5l (h:A4) (x:Cell) (l:List Int) (b:Nat) (rs:List Nat):Prop:=(l=[]/\x=.ns)\/∃ id,x=.sl id 0 l.length 1/\rd h id=some ⟨encI l,true⟩/\b<=id/\id ∉ rs
def VarI (h:A4) (r:Nat) (l:List Int) (b:Nat) (rs:List Nat):Prop:=∃ x,rd h r=some ⟨[x],true⟩/\D5l h x l b rs
theorem VarI.nil {h:A4} {r b:Nat} {rs:List Nat} (hr:rd h r=some ⟨[.ns],true⟩):VarI h r [] b rs:=⟨.ns,hr,.inl ⟨rfl,rfl⟩⟩
theorem VarI.keep {h h':A4} {r b:Nat} {l:List Int} {rs:List Nat} (hv:VarI h r l b rs) (h1:rd h' r=rd h r) (h2:∀ id,id ∉ rs->∀ x,rd h id=some x->rd h' id=some x):VarI h' r l b rs:=by
 obtain ⟨x,hx,hd⟩:=hv;refine ⟨x,by rw [h1];exact hx,?_⟩;rcases hd with hd | ⟨id,e,hr,hb,hn⟩
 ·exact .inl hd
 ·exact .inr ⟨id,e,h2 id hn _ hr,hb,hn⟩
theorem VarI.more {h:A4} {r b:Nat} {l:List Int} {rs:List Nat} (hv:VarI h r l b rs) (t:A4):VarI (h++t) r l b rs:=by
 obtain ⟨x,hx,hd⟩:=hv;refine ⟨x,B6 hx,?_⟩;rcases hd with hd | ⟨id,e,hr,hb,hn⟩
 ·exact .inl hd
 ·exact .inr ⟨id,e,B6 hr,hb,hn⟩
theorem C32 {h:A4} {jd m sz:Nat} {ys:List Cell} (hy:rd h jd=some ⟨ys,true⟩) (hyl:ys.length=m*sz) (hsz:0<sz) (hn:m<=1073741824) :
  W7 h sz (.c .ns) (.c (.sl jd 0 m sz))=some (.c (.sl h.length 0 m sz),h++[some ⟨ys,true⟩]):=by
 have h2:N6 h sz (.c (.sl jd 0 m sz))=some ys:=by
  simp only [N6,if_true,kK,hy,Option.bind_some,List.drop_zero,Nat.zero_add];rw [<-hyl,List.take_length,if_pos ⟨Nat.le_refl _,rfl⟩]
 have e1:ys.length/sz=m:=by rw [hyl];exact Nat.mul_div_cancel _ hsz
 simp only [W7,h2,Option.bind_some];rw [e1,if_pos hn]
theorem VarI.push {h:A4} {r b:Nat} {l:List Int} {rs:List Nat} (hv:VarI h r l b rs) (hr:r∈rs) (hbr:b<=r) (hbh:b<=h.length) (R0:∀ j∈rs,j<h.length) (hl:l.length<=100000) (n:Int) :
  ∃ x v h2 h3,A7 h (.c (.p r 0))=some (.c x)/\W7 (h++[some ⟨[.i .i64 n],true⟩]) 1 (.c x) (.c (.sl h.length 0 1 1))=some (.c v,h2)/\D3 h2 (.c (.p r 0)) (.c v)=some h3 /\
   VarI h3 r (l++[n]) b rs/\Low b h h3/\(∀ j∈rs,j≠r->rd h3 j=rd h j)/\h.length<=h3.length:=by
 obtain ⟨x,hx,hd⟩:=hv;have hrl:=E4 hx;have l1:A7 h (.c (.p r 0))=some (.c x):=C1 hx rfl (by simp);rcases hd with ⟨rfl,rfl⟩ | ⟨id,rfl,hi,hb,hn⟩
 ·have hA:=C32 (h:=h++[some ⟨[.i .i64 n],true⟩]) (jd:=h.length) (m:=1) (sz:=1) (ys:=[.i .i64 n]) (by simp) rfl (by omega) (by omega);have e1:(h++[some (Row.mk [.i .i64 n] true)]).length=h.length+1:=by simp
  rw [e1] at hA;have hr2:rd (h++[some (Row.mk [.i .i64 n] true)]++[some (Row.mk [.i .i64 n] true)]) r=some ⟨[.ns],true⟩:=B6 (B6 hx);have s1:=G3 (x:=.sl (h.length+1) 0 1 1) (off:=0) hr2 (by simp);refine ⟨.ns,_,_,_,l1,hA,s1,⟨.sl (h.length+1) 0 1 1,C8 (E4 hr2),.inr ⟨h.length+1,rfl,?_,by omega,fun h1=>by have:=R0 _ h1;omega⟩⟩,(((Low.refl hbh).new _).new _).set hbr _,fun j hj hjr=>?_,by simp⟩
  ·rw [B7 (by omega)];have:=V6 (h:=h++[some (Row.mk [.i .i64 n] true)]) (r:=⟨[.i .i64 n],true⟩);rw [e1] at this;exact this
  ·rw [B7 (Ne.symm hjr)];have:=R0 j hj;rw [E3 (by simp;omega),E3 this]
 ·have S3:=E4 hi;have cK:id≠r:=fun e=>hn (e ▸ hr)
  have hA:=A8z (h:=h++[some ⟨[.i .i64 n],true⟩]) (id:=id) (jd:=h.length) (n:=l.length) (m:=1) (sz:=1) (cs:=encI l) (ys:=[.i .i64 n]) (rw:=true) (B6 hi) (by rw [B9,Nat.mul_one]) (by simp) rfl rfl (by omega) (by omega);have e1:(h++[some (Row.mk [.i .i64 n] true)]).length=h.length+1:=by simp
  rw [e1] at hA;have ee:encI l++[Cell.i .i64 n]=encI (l++[n]):=by rw [A2I];rfl
  rw [ee] at hA;have hr2:rd ((h++[some (Row.mk [.i .i64 n] true)]).set id none++[some (Row.mk (encI (l++[n])) true)]) r=some ⟨[.sl id 0 l.length 1],true⟩:=by
   refine B6 ?_;rw [B7 cK];exact B6 hx
  have s1:=G3 (x:=.sl (h.length+1) 0 (l.length+1) 1) (off:=0) hr2 (by simp);refine ⟨_,_,_,_,l1,hA,s1,⟨.sl (h.length+1) 0 (l.length+1) 1,C8 (E4 hr2),.inr ⟨h.length+1,by simp,?_,by omega,fun h1=>by have:=R0 _ h1;omega⟩⟩,((((Low.refl hbh).new _).set hb _).new _).set hbr _,fun j hj hjr=>?_,by simp;omega⟩
  ·rw [B7 (by omega)];have:=V6 (h:=(h++[some (Row.mk [.i .i64 n] true)]).set id none) (r:=⟨encI (l++[n]),true⟩);rw [List.length_set,e1] at this;exact this
  ·have hji:j≠id:=fun e=>hn (e ▸ hj)
   have:=R0 j hj;rw [B7 (Ne.symm hjr),E3 (by simp;omega),B7 (Ne.symm hji),E3 this]
def lJ (d:Int):Nat:=(max 0 (min d 5)).toNat
theorem A53 (d:Int):lJ d<=5:=by unfold lJ;omega
theorem C8x {d:Int} (h0:0<=d) (h5:d<=5):((lJ d:Nat):Int)=d:=by unfold lJ;omega
theorem D04 (d:Int):(max 0 (min d 5))=((lJ d:Nat):Int):=by unfold lJ;omega
def E9 (d:Int):Nat:=2 ^ lJ d
theorem C1f {n:Nat} (h:n<=5):2 ^ n<=32:=by
 have:=Nat.pow_le_pow_right (n:=2) (by omega) h;simpa using this
theorem bJ (d:Int):E9 d<=32:=C1f (A53 d)
theorem C5h:[Cell.i .i64 0]++List.replicate 32 (Cell.i .i64 0)=encI (0::zI 32):=by
 simp [encI,zI]
def toX (t:List Int) (i:Nat):Int:=t.getD i 0
theorem D3P {t:List Int} {i:Nat} (h:i<t.length):t[i]?=some (toX t i):=by
 unfold toX;rw [List.getD_eq_getElem?_getD,List.getElem?_eq_getElem h];rfl
def C4c (n:Int):Bool:=decide (0<=n)&&decide (n<=65535)
theorem B1h {n:Int} {h:A4}:dV [.c (.i .i64 n)] h=some (.c (.b (C4c n)),h):=by
 refine B3A (n:=0) (h2:=ro h) ?_ rfl;rw [B74];unfold C4c;by_cases c:0<=n
 ·simp only [esc,c,Bool.true_and]
 ·simp only [esc,c,Bool.false_and]
theorem F9 {d:Int} {t:List Int} (ht:t.length=32):(encI (d::t)).length=33:=by rw [B9];simp [ht]
theorem D1i {d:Int} {t:List Int} {i:Nat} (ht:t.length=32) (hi:i<32):(encI (d::t))[1+i]?=some (.i .i64 (toX t i)):=by
 rw [H9,Nat.add_comm 1 i,List.getElem?_cons_succ,D3P (by omega)];rfl
theorem C5X {d:Int} {t:List Int} {i:Nat} {v:Int}:(encI (d::t)).set (1+i) (.i .i64 v)=encI (d::t.set i v):=by
 rw [rP,Nat.add_comm 1 i,List.set_cons_succ]
theorem ldX {h:A4} {id:Nat} {d:Int} {t:List Int} {rw:Bool} (hr:rd h id=some ⟨encI (d::t),rw⟩) (ht:t.length=32) {i:Nat} (hi:i<32):A7 h (.c (.p id (1+i)))=some (.c (.i .i64 (toX t i))) :=
 C1 hr (D1i ht hi) (by simp [Cell.isX])
theorem adX {id i:Nat} (hi:i<32):D8 32 1 (.c (.p id (0+1))) (.c (.i .i64 (i:Int)))=some (.c (.p id (1+i))):=by rw [I7 hi];simp
theorem Z5 {d:Int} {t:List Int} {h:A4}:H8 [.a (encI (d::t))] h=some (.c (.i .i64 (lJ d:Nat)),h):=by
 have key:∀ g,∃ g',uT 0 [.a (encI (d::t))] g=some (.c (.i .i64 (lJ d:Nat)),g'):=by
  intro g;have e1:A7r (.c (.i .i64 d)) (.c (.i .i64 5))=some (.c (.i .i64 (min d 5))):=by
   simp only [A7r];by_cases h:(5:Int)<d
   ·rw [if_pos h,Int.min_eq_right (by omega)]
   ·rw [if_neg h,Int.min_eq_left (by omega)]
  have e2:B6b (.c (.i .i64 0)) (.c (.i .i64 (min d 5)))=some (.c (.i .i64 (lJ d:Nat))):=by
   rw [<-D04];simp only [B6b];by_cases h:(min d 5:Int) > 0
   ·rw [if_pos h,Int.max_eq_right (by omega)]
   ·rw [if_neg h,Int.max_eq_left (by omega)]
  have e3:A7 (g++[some (Row.mk (encI (d::t)) true)]) (.c (.p g.length 0))=some (.c (.i .i64 d)):=C1 (V6) rfl rfl;rw [B5q];generalize hz:encI (d::t)=z at *;exact ⟨_,by simp only [esc,e3,e1,e2]<;>rfl⟩
 obtain ⟨g',e⟩:=key (ro h);exact B16 e rfl
theorem C80 {k:Nat} (hk:k<=5):B5 .shl (.c (.i .i64 1)) (.c (.i .u64 (k:Int)))=some (.c (.i .i64 ((2 ^ k:Nat):Int))):=by
 rw [B3M (by omega)];have h1:Nat.min (k:Int).toNat (IntKind.i64).bits=k:=by
  have:(IntKind.i64).bits=64:=rfl;rw [this,Int.toNat_natCast];exact Nat.min_eq_left (by omega)
 have h2:=C1f hk;rw [h1,Int.one_mul];have e:(2:Int) ^ k=((2 ^ k:Nat):Int):=by simp
 rw [e];generalize 2 ^ k=y at h2 ⊢;rw [wrap_i64 (by omega) (by omega)]
theorem B6J {k:Nat} (hk:k<=64):IntKind.wrap .u64 (k:Int)=(k:Int):=wrap_u64 (by omega) (by omega)
theorem cC {d:Int} {t:List Int} {h:A4} (ht:t.length=32):J2 [.a (encI (d::t))] h=some (.c (.i .i64 (E9 d:Nat)),h):=by
 have key:∀ g,∃ g',A0i 0 [.a (encI (d::t))] g=some (.c (.i .i64 (E9 d:Nat)),g'):=by
  intro g;have hl:=F9 (d:=d) ht;have hd:=fun h=>Z5 (d:=d) (t:=t) (h:=h)
  have e1:=C80 (A53 d);have e2:=B6J (k:=lJ d) (by have:=A53 d;omega);rw [B75];unfold E9;generalize encI (d::t)=z at *;exact ⟨_,by simp only [esc,esh,Nat.reduceAdd,Nat.reduceMul,Nat.reduceLT,hl,hd,e1,e2]<;>rfl⟩
 obtain ⟨g',e⟩:=key (ro h);exact B3B e rfl
def B2w (t:List Int) (i:Nat):Bool:=(List.range i).all fun k=>!decide (toX t k=toX t i)
theorem C0m {d:Int} {t:List Int} {g:A4} {i q:Nat} (ht:t.length=32) (hi:i<32):∀ e k m:Nat,k+e=i->e<m ->
  rS q m (.c (.i .i64 (i:Int))) (.c (.p g.length 0)) (.c (.i .i64 (i:Int))) (.c (.i .i64 (k:Int))) (g++[some ⟨encI (d::t),true⟩]) =
   some (.c (.b ((List.range' k e).all fun k=>!decide (toX t k=toX t i))),g++[some ⟨encI (d::t),true⟩])
 | e,k,0,_,hm=>by omega
 | 0,k,m+1,hk,hm=>by
  have c0:¬ (k:Int)<i:=by omega
  rw [A2Q];simp only [esc,c0,List.range'_zero]
 | e+1,k,m+1,hk,hm=>by
  have ih:=C0m (d:=d) (g:=g) (q:=q) ht hi e (k+1) m (by omega) (by omega);have c0:(k:Int)<i:=by omega
  have a1:=adX (id:=g.length) (i:=k) (by omega);have a2:=adX (id:=g.length) (i:=i) (by omega);have l1:=ldX (h:=g++[some (Row.mk (encI (d::t)) true)]) (id:=g.length) V6 ht (i:=k) (by omega);have l2:=ldX (h:=g++[some (Row.mk (encI (d::t)) true)]) (id:=g.length) V6 ht (i:=i) (by omega);rw [A2Q,List.range'_succ,List.all_cons];by_cases c:toX t k=toX t i
  ·rw [decide_eq_true c,Bool.not_true,Bool.false_and];rw [c] at l1;simp only [esc,c0,a1,a2,l1,l2]
  ·rw [decide_eq_false c,Bool.not_false,Bool.true_and];simp only [esc,c0,a1,a2,l1,l2,c,E8 (show k+1<9223372036854775808 by omega)];exact ih
theorem A9c {d:Int} {t:List Int} {i:Nat} {h:A4} (ht:t.length=32) (hi:i<32):bT [.a (encI (d::t)),.c (.i .i64 (i:Int))] h=some (.c (.b (B2w t i)),h):=by
 have key:∀ N,i<N->∀ g,∃ g',uU N [.a (encI (d::t)),.c (.i .i64 (i:Int))] g=some (.c (.b (B2w t i)),g'):=by
  intro N hN g;have e:=C0m (d:=d) (g:=g) (q:=N) ht hi i 0 N (by omega) hN;rw [B5r];unfold B2w;rw [List.range_eq_range'];exact ⟨_,by simp only [esc];exact e⟩
 obtain ⟨g',e⟩:=key (i+1) (by omega) (ro h);exact B17 e rfl
def U9 (n p b:Nat):List Nat:=(List.range n).filter fun k=>k%2 ^ b==p%2 ^ b
def A0q (l:List Nat):List Int:=l.map fun (n:Nat)=>(n:Int)
theorem A8X (l:List Nat):(A0q l).length=l.length:=by simp [A0q]
def bX (d b:Int):Nat:=(max 0 (min b (lJ d:Nat))).toNat
theorem D5v (d b:Int):bX d b<=lJ d:=by unfold bX;omega
def plX (d p b:Int):List Nat:=if 0<=p/\p<(E9 d:Nat) then U9 (E9 d) p.toNat (bX d b) else []
def B0l (n s r i:Nat):List Nat:=(List.range n).filter fun k=>decide (k<i)&&(k%s==r)
theorem C9h {n s r i:Nat} (hs:0<s) (hi:i<n) (hr:i%s=r):B0l n s r (i+s)=B0l n s r i++[i]:=by
 unfold B0l;have e:List.range n=List.range i++(i::List.range' (i+1) (n-i-1)):=by
  have e1:List.range n=List.range' 0 (i+(n-i-1+1)):=by
   rw [List.range_eq_range'];congr 1;omega
  rw [e1,<-List.range'_append_1,List.range_eq_range',Nat.zero_add,List.range'_succ]
 rw [e,List.filter_append,List.filter_append,List.filter_cons,List.filter_cons];have h1:(List.range i).filter (fun k=>decide (k<i+s)&&(k%s==r))=(List.range i).filter (fun k=>decide (k<i)&&(k%s==r)):=by
  refine List.filter_congr fun k hk=>?_
  have:=List.mem_range.1 hk;rw [decide_eq_true (show k<i+s by omega),decide_eq_true this]
 have h2:(List.range' (i+1) (n-i-1)).filter (fun k=>decide (k<i+s)&&(k%s==r))=[]:=by
  rw [List.filter_eq_nil_iff];intro k hk;have hk:=List.mem_range'_1.1 hk;by_cases c:k<i+s
  ·have:k%s≠r:=by
    intro e;have e1:=Nat.div_add_mod k s;have e2:=Nat.div_add_mod i s;rw [e] at e1;rw [hr] at e2;have e3:s*(k/s)<s*(i/s)+s:=by omega
    have e4:s*(i/s)<s*(k/s):=by omega
    have e5:i/s<k/s:=Nat.lt_of_mul_lt_mul_left e4;have e6:s*(i/s+1)<=s*(k/s):=Nat.mul_le_mul_left _ e5;rw [Nat.mul_add] at e6;omega
   simp [this]
  ·simp [c]
 have h3:(List.range' (i+1) (n-i-1)).filter (fun k=>decide (k<i)&&(k%s==r))=[]:=by
  rw [List.filter_eq_nil_iff];intro k hk;have hk:=List.mem_range'_1.1 hk;rw [decide_eq_false (by omega)];simp
 rw [h1,h2,h3,hr];simp [hs]
theorem D0Q {n s r i:Nat} (hi:n<=i):B0l n s r i=(List.range n).filter fun k=>k%s==r:=by
 unfold B0l;refine List.filter_congr fun k hk=>?_
 have:=List.mem_range.1 hk;rw [decide_eq_true (show k<i by omega),Bool.true_and]
theorem B9Y {n s r:Nat}:B0l n s r r=[]:=by
 unfold B0l;rw [List.filter_eq_nil_iff];intro k hk;by_cases c:k<r
 ·have:k%s<=k:=Nat.mod_le _ _;have:¬ k%s=r:=by omega
  simp [this]
 ·simp [c]
theorem C5A (n s r i:Nat):(B0l n s r i).length<=n:=by
 unfold B0l;exact Nat.le_trans (List.length_filter_le _ _) (by simp)
theorem B7M {d:Int} {t:List Int} {g:A4} {s r q:Nat} (ht:t.length=32) (hs:0<s) (hs2:s<=32):∀ (e i m:Nat) (h:A4) (id:Nat),E9 d<=i+e->i<=64->e<m->i%s=r->Low (g++[some (Row.mk (encI (d::t)) true)]).length (g++[some (Row.mk (encI (d::t)) true)]) h->(g++[some (Row.mk (encI (d::t)) true)]).length<=id->rd h id=some ⟨encI (A0q (B0l (E9 d) s r i)),true⟩ ->
  ∃ v h',nP q m (.c (.p g.length 0)) (.c (.i .i64 (s:Int))) (.c (.sl id 0 (B0l (E9 d) s r i).length 1)) (.c (.i .i64 (i:Int))) h=some (v,h') /\
   Out g.length h' v 1 ((List.range (E9 d)).filter fun k=>k%s==r).length (encI (A0q ((List.range (E9 d)).filter fun k=>k%s==r)))
 | e,i,0,h,id,_,_,hm,_,_,_,_=>by omega
 | e,i,m+1,h,id,hi,hi2,hm,hr,hlow,hid,hrd=>by
  have hB:=F9 (d:=d) ht;have s1:=D4 (h:=h) (id:=g.length) (cs:=encI (d::t)) (hlow.rd (by simp)) hB;have hM:=fun h=>cC (d:=d) (h:=h) ht
  have D1w:=bJ d;have hbl:=C5A (E9 d) s r i;rw [List.length_append] at hid;rw [B2D];by_cases c:i<E9 d
  ·obtain ⟨e,rfl⟩:∃ e',e=e'+1:=⟨e-1,by omega⟩;have c0:(i:Int)<(E9 d:Nat):=by omega
   have en:=C9h hs c hr;obtain ⟨h1,a1,a2,a3,a4,a5⟩:=push (ys:=[.i .i64 (i:Int)]) (sz:=1) (n:=(B0l (E9 d) s r i).length) hlow hrd (by rw [B9,A8X];omega) (by rw [List.length_append];exact hid) rfl (by omega) (by omega);have he:encI (A0q (B0l (E9 d) s r i))++[.i .i64 (i:Int)]=encI (A0q (B0l (E9 d) s r (i+s))):=by rw [en];simp [encI,A0q]
   rw [he] at a2;obtain ⟨v,h',f1,f2⟩:=B7M (q:=q) ht hs hs2 e (i+s) m h1 (h.length+1) (by omega) (by omega) (by omega) (by rw [Nat.add_mod_right];exact hr) a3 a4 a2;have hl1:(B0l (E9 d) s r (i+s)).length=(B0l (E9 d) s r i).length+1:=by rw [en];simp
   rw [hl1] at f1;have ef:C7 [Cell.i .i64 0] [(0,1,.c (.i .i64 (i:Int)))]=some [.i .i64 (i:Int)]:=rfl;refine ⟨v,h',?_,f2⟩;simp only [esc,s1,hM,c0,ef,a1,A38 (show i+s<9223372036854775808 by omega)];exact f1
  ·have c0:¬ (i:Int)<(E9 d:Nat):=by omega
   rw [D0Q (by omega)] at hrd ⊢;refine ⟨_,_,by simp only [esc,s1,hM,c0]<;>rfl,by rw [B9,A8X];omega,_,rfl,by omega,hrd⟩
theorem amm {b:Int} {d:Nat}:∃ w,A7r (.c (.i .i64 b)) (.c (.i .i64 (d:Int)))=some (.c (.i .i64 w))/\B6b (.c (.i .i64 0)) (.c (.i .i64 w))=some (.c (.i .i64 ((max 0 (min b d)).toNat:Nat))):=by
 refine ⟨min b d,?_,?_⟩
 ·simp only [A7r];by_cases h:(d:Int)<b
  ·rw [if_pos h,Int.min_eq_right (by omega)]
  ·rw [if_neg h,Int.min_eq_left (by omega)]
 ·simp only [B6b];by_cases h:(min b d:Int) > 0
  ·rw [if_pos h,Int.max_eq_right (by omega),Int.toNat_of_nonneg (by omega)]
  ·rw [if_neg h,Int.max_eq_left (by omega)];rfl
theorem A60 {d:Int} {t:List Int} {p b:Int} {h:A4} (ht:t.length=32) :
  Y9 [.a (encI (d::t)),.c (.i .i64 p),.c (.i .i64 b)] h=some (.c (.sl h.length 0 (plX d p b).length 1),h++[some ⟨encI (A0q (plX d p b)),true⟩]):=by
 have key:∀ N,64<N->∀ g,∃ v g',qG N [.a (encI (d::t)),.c (.i .i64 p),.c (.i .i64 b)] g=some (v,g')/\Out g.length g' v 1 (plX d p b).length (encI (A0q (plX d p b))):=by
  intro N hN g;have hB:=F9 (d:=d) ht;have hM:=fun h=>cC (d:=d) (h:=h) ht
  have hD:=fun h=>Z5 (d:=d) (t:=t) (h:=h)
  have D1w:=bJ d;rw [B3h];unfold plX;by_cases c1:p<0
  ·rw [if_neg (by omega)];have e1:List.map (fun (n:Nat)=>(n:Int)) []=[]:=rfl;refine ⟨.c (.sl (g.length+2) 0 0 1),g++[some (Row.mk (encI (d::t)) true),some (Row.mk [] true),some (Row.mk [] true)],?_,rfl,g.length+2,rfl,by omega,by simp [encI,A0q]⟩;generalize encI (d::t)=z at *;simp only [esc,c1]
  ·by_cases c2:((E9 d:Nat):Int)<=p
   ·rw [if_neg (by omega)];refine ⟨.c (.sl (g.length+2) 0 0 1),g++[some (Row.mk (encI (d::t)) true),some (Row.mk [] true),some (Row.mk [] true)],?_,rfl,g.length+2,rfl,by omega,by simp [encI,A0q]⟩;generalize encI (d::t)=z at *;simp only [esc,esh,Nat.reduceAdd,Nat.reduceMul,Nat.reduceLT,hB,hM,c1,c2]
   ·rw [if_pos (by omega)];obtain ⟨p,rfl⟩:∃ n:Nat,p=n:=⟨p.toNat,by omega⟩;rw [Int.toNat_natCast];obtain ⟨w,m1,m2⟩:=amm (b:=b) (d:=lJ d);have hbx:=D5v d b;have hdl:=A53 d;change B6b _ _=some (.c (.i .i64 ((bX d b:Nat):Int))) at m2;have e1:=C80 (k:=bX d b) (by omega);have e2:=B6J (k:=bX d b) (by omega);have hp0:0<2 ^ bX d b:=Nat.pow_pos (by omega);have hp1:=C1f (show bX d b<=5 by omega);have e3:B5 .rem (.c (.i .i64 (p:Int))) (.c (.i .i64 ((2 ^ bX d b:Nat):Int)))=some (.c (.i .i64 ((p%2 ^ bX d b:Nat):Int))):=by
     rw [C8U (by omega) (by omega)];simp
    have hpm:p%2 ^ bX d b<2 ^ bX d b:=Nat.mod_lt _ hp0;unfold U9;generalize 2 ^ bX d b=s at *;obtain ⟨v,g',f1,f2⟩:=B7M (g:=g) (d:=d) (t:=t) (q:=N) (s:=s) (r:=p%s) ht hp0 hp1 (E9 d) (p%s) N (g++[some (Row.mk (encI (d::t)) true),some (Row.mk [] true),some (Row.mk [] true)]) (g.length+2) (by omega) (by omega) (by omega) (Nat.mod_mod _ _)
     (by have:=(Low.refl (h:=g++[some (Row.mk (encI (d::t)) true)]) (Nat.le_refl _)).new [some ⟨[],true⟩,some ⟨[],true⟩];simpa using this) (by simp) (by rw [B9Y];simp [encI,A0q])
    rw [B9Y] at f1;refine ⟨v,g',?_,f2⟩;generalize encI (d::t)=z at *;simp only [esc,esh,Nat.reduceAdd,Nat.reduceMul,Nat.reduceLT,hB,hM,hD,c1,c2,m1,m2,e1,e2,e3] at f1 ⊢;exact f1
 obtain ⟨v,g',e,ho⟩:=key (h.length+65) (by omega) (ro h);exact B14 e (by simpa [I8] using ho) (by simp)
theorem C2a {l:List Nat} {i:Nat} (hi:i<l.length):(encI (A0q l))[i]?=some (.i .i64 ((l[i]:Nat):Int)):=by
 rw [H9];unfold A0q;rw [List.getElem?_map,List.getElem?_eq_getElem hi];rfl
def A9H (t:List Int) (l:List Nat) (no:Int):Bool:=l.all fun k=>decide (toX t k=no)
theorem C1A {d no:Int} {t:List Int} {g:A4} {v:Val} {l:List Nat} {q:Nat} (ht:t.length=32) (hl:∀ k∈l,k<32) (hv:Has g v 1 l.length (encI (A0q l))) (hll:l.length<9223372036854775807):∀ e i m:Nat,i+e=l.length->e<m ->
  rT q m (.c (.i .i64 no)) (.c (.p g.length 0)) v (.c (.i .i64 (l.length:Nat))) (.c (.i .i64 (i:Int))) (g++[some ⟨encI (d::t),true⟩])=some (.c (.b (A9H t (l.drop i) no)),g++[some ⟨encI (d::t),true⟩])
 | e,i,0,_,hm=>by omega
 | 0,i,m+1,hi,hm=>by
  have c0:¬ (i:Int)<(l.length:Nat):=by omega
  rw [A2R,List.drop_of_length_le (by omega)];simp only [esc,c0,A9H]
 | e+1,i,m+1,hi,hm=>by
  have ih:=C1A (d:=d) (no:=no) (q:=q) ht hl hv hll e (i+1) m (by omega) (by omega);have c0:(i:Int)<(l.length:Nat):=by omega
  obtain ⟨id,off,ev,hid,k1,k2⟩:=(hv.more [some ⟨encI (d::t),true⟩]).sl (by omega);have hx:=k1 i _ (C2a (by omega));have eb:C4 1 v (.c (.i .i64 (i:Int)))=some (.c (.p id (off+i))):=by rw [ev,E5 (by omega)];simp
  have hk:=hl l[i] (List.getElem_mem (by omega));have a1:=adX (id:=g.length) (i:=l[i]) hk;have l1:=ldX (h:=g++[some (Row.mk (encI (d::t)) true)]) (id:=g.length) V6 ht (i:=l[i]) hk;rw [A2R,List.drop_eq_getElem_cons (by omega:i<l.length),A9H,List.all_cons];rw [A9H] at ih;by_cases c:toX t l[i]=no
  ·rw [decide_eq_true c,Bool.true_and];rw [c] at l1;simp only [esc,c0,eb,hx,a1,l1,E8 (show i+1<9223372036854775808 by omega)];exact ih
  ·rw [decide_eq_false c,Bool.false_and];simp only [esc,c0,eb,hx,a1,l1,c]
theorem C0C {d no:Int} {t:List Int} {h:A4} {v:Val} {l:List Nat} (ht:t.length=32) (hl:∀ k∈l,k<32) (hv:Has h v 1 l.length (encI (A0q l))) (hll:l.length<9223372036854775807) :
  mK [.a (encI (d::t)),v,.c (.i .i64 no)] h=some (.c (.b (A9H t l no)),h):=by
 have key:∀ N,l.length<N->∀ g,Has g v 1 l.length (encI (A0q l))->∃ g',uV N [.a (encI (d::t)),v,.c (.i .i64 no)] g=some (.c (.b (A9H t l no)),g'):=by
  intro N hN g hv;have e:=C1A (d:=d) (no:=no) (q:=N) ht hl hv hll l.length 0 N (by omega) hN;rw [List.drop_zero] at e;rw [B5s];exact ⟨_,by simp only [esc,hv.len];exact e⟩
 obtain ⟨g',e⟩:=key (l.length+1) (by omega) (ro h) hv.ro;exact B18 e rfl
theorem C7Y {n p b:Nat} (hn:n<=32):∀ k∈U9 n p b,k<32:=by
 intro k hk;have:=List.mem_range.1 (List.mem_filter.1 hk).1;omega
theorem C1c (n p b:Nat):(U9 n p b).length<=n:=Nat.le_trans (List.length_filter_le _ _) (by simp)
theorem D1Z {d:Int} {p b:Nat} (hp:p<E9 d) (hb:b<=lJ d):plX d p b=U9 (E9 d) p b:=by
 unfold plX;have:bX d b=b:=by unfold bX;omega
 rw [if_pos ⟨by omega,by omega⟩,this,Int.toNat_natCast]
def D4f (n:Nat) (t:List Int) (p b:Nat):Bool:=!decide (toX t p=0)&&A9H t (U9 n p b) (toX t p)
def A1l (n:Nat) (t:List Int) (p:Nat):Nat->Nat->Nat
 | b,0=>b
 | b,e+1=>bif D4f n t p b then b else A1l n t p (b+1) e
def A4B (d:Int) (t:List Int) (p:Nat):Nat:=A1l (E9 d) t p 0 (lJ d)
theorem B6d {d:Int} {t:List Int} {g:A4} {p q:Nat} (ht:t.length=32) (hp:p<E9 d):∀ (e b m:Nat) (h:A4),b+e=lJ d->e<m->Low (g++[some (Row.mk (encI (d::t)) true)]).length (g++[some (Row.mk (encI (d::t)) true)]) h ->
  ∃ h',vK q m (.c (.i .i64 (p:Int))) (.c (.p g.length 0)) (.c (.i .i64 (lJ d:Nat))) (.c (.i .i64 (b:Int))) h=some (.c (.i .i64 (A1l (E9 d) t p b e:Nat)),h')
 | e,b,0,h,_,hm,_=>by omega
 | 0,b,m+1,h,hb,hm,hlow=>by
  have e0:b=lJ d:=by omega
  subst e0;have c0:¬ ((lJ d:Nat):Int)<(lJ d:Nat):=by omega
  have hB:=F9 (d:=d) ht;have s1:=D4 (h:=h) (id:=g.length) (cs:=encI (d::t)) (hlow.rd (by simp)) hB;have hD:=fun h=>Z5 (d:=d) (t:=t) (h:=h)
  rw [A4U];generalize encI (d::t)=z at *;exact ⟨_,by simp only [esc,c0,s1,hD,A1l]<;>rfl⟩
 | e+1,b,m+1,h,hb,hm,hlow=>by
  have D1w:=bJ d;have hdl:=A53 d;have c0:(b:Int)<(lJ d:Nat):=by omega
  have hB:=F9 (d:=d) ht;have hrd:rd h g.length=some ⟨encI (d::t),true⟩:=hlow.rd (by simp);have s1:=D4 (h:=h) (id:=g.length) (cs:=encI (d::t)) hrd hB;have a1:=adX (id:=g.length) (i:=p) (by omega);have l1:=ldX (h:=h) (id:=g.length) hrd ht (i:=p) (by omega);have hP:=A60 (d:=d) (p:=p) (b:=b) (h:=h) ht;rw [D1Z hp (by omega)] at hP;have hq:=jF ((Grows.rfl' (h:=h)).new (encI (A0q (U9 (E9 d) p b)))) (v:=.c (.sl h.length 0 (U9 (E9 d) p b).length 1));have hW:=C0C (d:=d) (no:=toX t p) (h:=h++[some ⟨encI (A0q (U9 (E9 d) p b)),true⟩]) (v:=.c (.sl h.length 0 (U9 (E9 d) p b).length 1)) ht (C7Y (p:=p) (b:=b) D1w) (Has.row (rw:=true) V6 (by rw [B9,A8X];omega) (A9s _)) (by have:=C1c (E9 d) p b;omega);have l2:=ldX (h:=h++[some ⟨encI (A0q (U9 (E9 d) p b)),true⟩]) (id:=g.length) (B6 hrd) ht (i:=p) (by omega);rw [A4U,A1l];unfold D4f;by_cases cz:toX t p=0
  ·obtain ⟨h',ih⟩:=B6d (q:=q) ht hp e (b+1) m h (by omega) (by omega) hlow;rw [decide_eq_true cz,Bool.not_true,Bool.false_and,cond_false];rw [cz] at l1;refine ⟨h',?_⟩;generalize encI (d::t)=z at *;simp only [esc,c0,a1,l1,E8 (show b+1<9223372036854775808 by omega)];exact ih
  ·rw [decide_eq_false cz,Bool.not_false,Bool.true_and];cases cw:A9H t (U9 (E9 d) p b) (toX t p) with
   | true =>
    rw [cw] at hW;rw [cond_true];generalize encI (d::t)=z at *;exact ⟨_,by simp only [esc,c0,a1,l1,cz,s1,hP,hq,l2,hW]<;>rfl⟩
   | false =>
    rw [cw] at hW;obtain ⟨h',ih⟩:=B6d (q:=q) ht hp e (b+1) m (h++[some ⟨encI (A0q (U9 (E9 d) p b)),true⟩]) (by omega) (by omega) (hlow.new _);rw [cond_false];refine ⟨h',?_⟩;generalize encI (d::t)=z at *;simp only [esc,c0,a1,l1,cz,s1,hP,hq,l2,hW,E8 (show b+1<9223372036854775808 by omega)];exact ih
def D0R (d:Int) (t:List Int) (p:Int):Nat:=if 0<=p/\p<(E9 d:Nat) then A4B d t p.toNat else 0
theorem C2h {d:Int} {t:List Int} {p:Int} {h:A4} (ht:t.length=32):qQ [.a (encI (d::t)),.c (.i .i64 p)] h=some (.c (.i .i64 (D0R d t p:Nat)),h):=by
 have key:∀ N,5<N->∀ g,∃ g',A0h N [.a (encI (d::t)),.c (.i .i64 p)] g=some (.c (.i .i64 (D0R d t p:Nat)),g'):=by
  intro N hN g;have hB:=F9 (d:=d) ht;have hM:=fun h=>cC (d:=d) (h:=h) ht
  have hD:=fun h=>Z5 (d:=d) (t:=t) (h:=h)
  have hdl:=A53 d;rw [B73];unfold D0R;by_cases c1:p<0
  ·rw [if_neg (by omega)];generalize encI (d::t)=z at *;exact ⟨_,by simp only [esc,c1]<;>rfl⟩
  ·by_cases c2:((E9 d:Nat):Int)<=p
   ·rw [if_neg (by omega)];generalize encI (d::t)=z at *;exact ⟨_,by simp only [esc,esh,Nat.reduceAdd,Nat.reduceMul,Nat.reduceLT,hB,hM,c1,c2]<;>rfl⟩
   ·rw [if_pos (by omega)];obtain ⟨p,rfl⟩:∃ n:Nat,p=n:=⟨p.toNat,by omega⟩;rw [Int.toNat_natCast];obtain ⟨h',e⟩:=B6d (g:=g) (q:=N) ht (show p<E9 d by omega) (lJ d) 0 N (g++[some (Row.mk (encI (d::t)) true)]) (by omega) (by omega) (Low.refl (Nat.le_refl _));unfold A4B;refine ⟨h',?_⟩;generalize encI (d::t)=z at *;simp only [esc,esh,Nat.reduceAdd,Nat.reduceMul,Nat.reduceLT,hB,hM,hD,c1,c2];exact e
 obtain ⟨g',e⟩:=key (h.length+6) (by omega) (ro h);exact B3z e rfl
theorem D2Z {d:Int} {t:List Int} {p:Nat} (hp:p<E9 d):D0R d t p=A4B d t p:=by
 unfold D0R;rw [if_pos ⟨by omega,by omega⟩,Int.toNat_natCast]
def tT (n:Nat) (t:List Int) (no:Int):Nat:=((List.range n).filter fun k=>decide (toX t k=no)).length
theorem C5R {n:Nat} {t:List Int} {no:Int}:tT (n+1) t no=tT n t no+(if toX t n=no then 1 else 0):=by
 unfold tT;rw [List.range_succ,List.filter_append,List.length_append,List.filter_cons];by_cases c:toX t n=no<;>simp [c]
theorem C9m {n:Nat} {t:List Int} {no:Int}:tT n t no<=n:=Nat.le_trans (List.length_filter_le _ _) (by simp)
theorem C0f {d no:Int} {t:List Int} {g:A4} {n q:Nat} (ht:t.length=32) (hn:n<=32):∀ e i m:Nat,i+e=n->e<m ->
  rR q m (.c (.i .i64 no)) (.c (.p g.length 0)) (.c (.i .i64 (tT i t no:Nat))) (.c (.i .i64 (n:Int))) (.c (.i .i64 (i:Int))) (g++[some ⟨encI (d::t),true⟩])=some (.c (.i .i64 (tT n t no:Nat)),g++[some ⟨encI (d::t),true⟩])
 | e,i,0,_,hm=>by omega
 | 0,i,m+1,hi,hm=>by
  have e0:i=n:=by omega
  subst e0;have c0:¬ (i:Int)<i:=by omega
  rw [A2P];simp only [esc,c0]
 | e+1,i,m+1,hi,hm=>by
  have ih:=C0f (d:=d) (no:=no) (g:=g) (q:=q) ht hn e (i+1) m (by omega) (by omega);have c0:(i:Int)<n:=by omega
  have a1:=adX (id:=g.length) (i:=i) (by omega);have l1:=ldX (h:=g++[some (Row.mk (encI (d::t)) true)]) (id:=g.length) V6 ht (i:=i) (by omega);have hc:=C9m (n:=i) (t:=t) (no:=no);rw [C5R] at ih;rw [A2P];generalize tT i t no=C at *;by_cases c:toX t i=no
  ·rw [if_pos c] at ih;rw [c] at l1;simp only [esc,c0,a1,l1,A2O,E8 (show C+1<9223372036854775808 by omega),E8 (show i+1<9223372036854775808 by omega)];exact ih
  ·rw [if_neg c,Nat.add_zero] at ih;simp only [esc,c0,a1,l1,c,A2O,E8 (show i+1<9223372036854775808 by omega)];exact ih
theorem C0x {d no:Int} {t:List Int} {h:A4} (ht:t.length=32):mJ [.a (encI (d::t)),.c (.i .i64 no)] h=some (.c (.i .i64 (tT (E9 d) t no:Nat)),h):=by
 have key:∀ N,32<N->∀ g,∃ g',uS N [.a (encI (d::t)),.c (.i .i64 no)] g=some (.c (.i .i64 (tT (E9 d) t no:Nat)),g'):=by
  intro N hN g;have hB:=F9 (d:=d) ht;have hM:=fun h=>cC (d:=d) (h:=h) ht
  have hm:=bJ d;have e:=C0f (d:=d) (no:=no) (g:=g) (q:=N) ht hm (E9 d) 0 N (by omega) (by omega);rw [show tT 0 t no=0 from rfl] at e;rw [B5p];generalize encI (d::t)=z at *;exact ⟨_,by simp only [esc,esh,Nat.reduceAdd,Nat.reduceMul,Nat.reduceLT,hB,hM];exact e⟩
 obtain ⟨g',e⟩:=key (h.length+33) (by omega) (ro h);exact B15 e rfl
def C87 (d:Int) (t:List Int) (i:Nat):Bool:=decide ((U9 (E9 d) i (A4B d t i)).length=tT (E9 d) t (toX t i))
def C3n (d:Int) (t:List Int) (i:Nat):Bool:=!decide (toX t i=0)&&(C4c (toX t i)&&(B2w t i||C87 d t i))
def B2x (d:Int) (t:List Int) (i:Nat):Int:=bif C3n d t i then toX t i else 0
def A3P (d:Int) (t:List Int) (k:Nat):List Int:=(List.range k).map (B2x d t)++zI (32-k)
theorem A8Y {d:Int} {t:List Int} {k:Nat} (hk:k<=32):(A3P d t k).length=32:=by simp [A3P,zI];omega
theorem C9y {d:Int} {t:List Int}:A3P d t 0=zI 32:=rfl
theorem C9x {d:Int} {t:List Int} {k:Nat} (hk:k<32):A3P d t (k+1)=(A3P d t k).set k (B2x d t k):=by
 unfold A3P;have e:zI (32-k)=0::zI (32-(k+1)):=by
  unfold zI;rw [show 32-k=(32-(k+1))+1 by omega,List.replicate_succ]
 rw [e,List.set_append_right _ _ (by simp),List.range_succ,List.map_append,List.append_assoc];simp
theorem C9w {d:Int} {t:List Int} {k:Nat} (hk:k<32) (hf:B2x d t k=0):A3P d t (k+1)=A3P d t k:=by
 unfold A3P;have e:zI (32-k)=0::zI (32-(k+1)):=by
  unfold zI;rw [show 32-k=(32-(k+1))+1 by omega,List.replicate_succ]
 rw [e,List.range_succ,List.map_append,List.append_assoc];simp [hf]
theorem C0o {d:Int} {t:List Int} {g:A4} {q:Nat} (ht:t.length=32):∀ (e i m:Nat) (h:A4),i+e=E9 d->e<m->Low (g++[some (Row.mk (encI (d::t)) true),some (Row.mk (encI (0::zI 32)) true)]).length (g++[some (Row.mk (encI (d::t)) true),some (Row.mk (encI (0::zI 32)) true)]) h->rd h (g.length+2)=some ⟨encI (d::A3P d t i),true⟩ ->
  ∃ h',jY q m (.c (.p g.length 0)) (.c (.p (g.length+1) 0)) (.c (.p (g.length+2) 0)) (.c (.i .i64 (E9 d:Nat))) (.c (.i .i64 (i:Int))) h=some (.a (encI (d::A3P d t (E9 d))),h')
 | e,i,0,h,_,hm,_,_=>by omega
 | 0,i,m+1,h,hi,hm,hlow,hr=>by
  have e0:i=E9 d:=by omega
  subst e0;have c0:¬ ((E9 d:Nat):Int)<(E9 d:Nat):=by omega
  have hF:=F9 (d:=d) (A8Y (d:=d) (t:=t) (bJ d));have hz:(encI (0::zI 32)).length=33:=F9 (d:=0) K9;have hr1:rd h (g.length+1)=some ⟨encI (0::zI 32),true⟩:=hlow.rd (by simp);have s1:=D4 (h:=h) (id:=g.length+2) hr hF;have s2:=storeAll (h:=h) (id:=g.length+1) (xs:=encI (d::A3P d t (E9 d))) hr1 hz hF;have s3:=D4 (h:=h.set (g.length+1) (some ⟨encI (d::A3P d t (E9 d)),true⟩)) (id:=g.length+1) (C8 (E4 hr1)) hF;rw [A6V];generalize encI (d::A3P d t (E9 d))=z at *;exact ⟨_,by simp only [esc,c0,s1,s2,s3]<;>rfl⟩
 | e+1,i,m+1,h,hi,hm,hlow,hr=>by
  have D1w:=bJ d;have c0:(i:Int)<(E9 d:Nat):=by omega
  have hB:=F9 (d:=d) ht;have hrd:rd h g.length=some ⟨encI (d::t),true⟩:=hlow.rd (by simp);have s1:=D4 (h:=h) (id:=g.length) (cs:=encI (d::t)) hrd hB;have a1:=adX (id:=g.length) (i:=i) (by omega);have l1:=ldX (h:=h) (id:=g.length) hrd ht (i:=i) (by omega);have hFi:=fun h=>B1h (n:=toX t i) (h:=h)
  have hFs:=fun h=>A9c (d:=d) (t:=t) (i:=i) (h:=h) ht (by omega)
  have w1:=E8 (show i+1<9223372036854775808 by omega);have hk:i<32:=by omega
  have skip:B2x d t i=0->∀ h2,Low (g++[some (Row.mk (encI (d::t)) true),some (Row.mk (encI (0::zI 32)) true)]).length (g++[some (Row.mk (encI (d::t)) true),some (Row.mk (encI (0::zI 32)) true)]) h2->rd h2 (g.length+2)=some ⟨encI (d::A3P d t i),true⟩ ->
    ∃ h',jY q m (.c (.p g.length 0)) (.c (.p (g.length+1) 0)) (.c (.p (g.length+2) 0)) (.c (.i .i64 (E9 d:Nat))) (.c (.i .i64 ((i+1:Nat):Int))) h2=some (.a (encI (d::A3P d t (E9 d))),h'):=by
   intro hf h2 hlow2 hr2;exact C0o (q:=q) ht e (i+1) m h2 (by omega) (by omega) hlow2 (by rw [C9w hk hf];exact hr2)
  have a3:=adX (id:=g.length+2) (i:=i) hk;have put:B2x d t i=toX t i->∀ h2,Low (g++[some (Row.mk (encI (d::t)) true),some (Row.mk (encI (0::zI 32)) true)]).length (g++[some (Row.mk (encI (d::t)) true),some (Row.mk (encI (0::zI 32)) true)]) h2->rd h2 (g.length+2)=some ⟨encI (d::A3P d t i),true⟩ ->
    ∃ h3,D3 h2 (.c (.p (g.length+2) (1+i))) (.c (.i .i64 (toX t i)))=some h3/\∃ h',jY q m (.c (.p g.length 0)) (.c (.p (g.length+1) 0)) (.c (.p (g.length+2) 0)) (.c (.i .i64 (E9 d:Nat))) (.c (.i .i64 ((i+1:Nat):Int))) h3=some (.a (encI (d::A3P d t (E9 d))),h'):=by
   intro hf h2 hlow2 hr2;have hF:=F9 (d:=d) (A8Y (d:=d) (t:=t) (k:=i) (by omega));have t1:=G3 (x:=.i .i64 (toX t i)) (off:=1+i) hr2 (by rw [hF];omega);rw [C5X,<-hf,<-C9x hk,hf] at t1;refine ⟨_,t1,C0o (q:=q) ht e (i+1) m _ (by omega) (by omega) (hlow2.set (by simp) _) (C8 (E4 hr2))⟩
  rw [A6V];by_cases cz:toX t i=0
  ·have hf:B2x d t i=0:=by unfold B2x C3n;rw [decide_eq_true cz];rfl
   obtain ⟨h',ih⟩:=skip hf h hlow hr;rw [cz] at l1;refine ⟨h',?_⟩;generalize encI (d::t)=z at *;simp only [esc,c0,a1,l1,eX,w1];exact ih
  ·cases cf:C4c (toX t i) with
   | false =>
    rw [cf] at hFi;have hf:B2x d t i=0:=by unfold B2x C3n;rw [cf,Bool.false_and,Bool.and_false,cond_false]
    obtain ⟨h',ih⟩:=skip hf h hlow hr;refine ⟨h',?_⟩;generalize encI (d::t)=z at *;simp only [esc,c0,a1,l1,cz,hFi,eX,w1];exact ih
   | true =>
    rw [cf] at hFi;cases cs:B2w t i with
    | true =>
     rw [cs] at hFs;have hf:B2x d t i=toX t i:=by unfold B2x C3n;rw [cf,cs,decide_eq_false cz];rfl
     obtain ⟨h3,st,h',ih⟩:=put hf h hlow hr;refine ⟨h',?_⟩;generalize encI (d::t)=z at *;simp only [esc,c0,a1,l1,cz,hFi,s1,hFs,a3,st,eX,w1];exact ih
    | false =>
     rw [cs] at hFs;have hBi:=fun h=>C2h (d:=d) (t:=t) (p:=(i:Int)) (h:=h) ht
     rw [D2Z (by omega)] at hBi;have hbl:A4B d t i<=lJ d:=by
      have:∀ e b,A1l (E9 d) t i b e<=b+e:=by
       intro e
       induction e with
       | zero=>intro b;exact Nat.le_refl _
       | succ e ih =>
        intro b;unfold A1l;cases D4f (E9 d) t i b
        ·rw [cond_false];have:=ih (b+1);omega
        ·rw [cond_true];omega
      have:=this (lJ d) 0;unfold A4B;omega
     have hP:=A60 (d:=d) (p:=(i:Int)) (b:=(A4B d t i:Nat)) (h:=h) ht;rw [D1Z (by omega) hbl] at hP;have hq:=jF ((Grows.rfl' (h:=h)).new (encI (A0q (U9 (E9 d) i (A4B d t i))))) (v:=.c (.sl h.length 0 (U9 (E9 d) i (A4B d t i)).length 1));have hC:=fun h=>C0x (d:=d) (no:=toX t i) (h:=h) ht
     have ew:decide (((U9 (E9 d) i (A4B d t i)).length:Int)=((tT (E9 d) t (toX t i):Nat):Int))=C87 d t i:=by
      unfold C87;by_cases c:(U9 (E9 d) i (A4B d t i)).length=tT (E9 d) t (toX t i)
      ·rw [decide_eq_true c,decide_eq_true (by omega)]
      ·rw [decide_eq_false c,decide_eq_false (by omega)]
     have hlow2:=hlow.new [some (Row.mk (encI (A0q (U9 (E9 d) i (A4B d t i)))) true)];have hr2:rd (h++[some (Row.mk (encI (A0q (U9 (E9 d) i (A4B d t i)))) true)]) (g.length+2)=some ⟨encI (d::A3P d t i),true⟩:=B6 hr;cases cw:C87 d t i with
     | true =>
      rw [cw] at ew;have hf:B2x d t i=toX t i:=by unfold B2x C3n;rw [cf,cs,cw,decide_eq_false cz];rfl
      obtain ⟨h3,st,h',ih⟩:=put hf _ hlow2 hr2;refine ⟨h',?_⟩;generalize encI (d::t)=z at *;simp only [esc,c0,a1,l1,cz,hFi,s1,hFs,hBi,hP,hq,hC,ew,a3,st,eX,w1];exact ih
     | false =>
      rw [cw] at ew;have hf:B2x d t i=0:=by unfold B2x C3n;rw [cf,cs,cw,decide_eq_false cz];rfl
      obtain ⟨h',ih⟩:=skip hf _ hlow2 hr2;refine ⟨h',?_⟩;generalize encI (d::t)=z at *;simp only [esc,c0,a1,l1,cz,hFi,s1,hFs,hBi,hP,hq,hC,ew,eX,w1];exact ih
def C7t (d:Int) (t:List Int):List Int:=if 0<=d/\d<=5 then d::A3P d t (E9 d) else 0::zI 32
theorem C4l {d:Int} {t:List Int} {h:A4} (ht:t.length=32):wH [.a (encI (d::t))] h=some (.a (encI (C7t d t)),h):=by
 have key:∀ N,32<N->∀ g,∃ g',A2g N [.a (encI (d::t))] g=some (.a (encI (C7t d t)),g'):=by
  intro N hN g;have hB:=F9 (d:=d) ht;have hz:(encI (0::zI 32)).length=33:=F9 (d:=0) K9;have hM:=fun h=>cC (d:=d) (h:=h) ht
  have hD:=fun h=>Z5 (d:=d) (t:=t) (h:=h)
  have l0:(encI (d::t))[0]?=some (.i .i64 d):=rfl;have haf:C7 (encI (0::zI 32)) []=some (encI (0::zI 32)):=rfl;rw [B9c,C5h];unfold C7t;by_cases c:0<=d/\d<=5
  ·rw [if_pos c];have hd:=C8x c.1 c.2;rw [hd] at hD;have ef:C7 (encI (0::zI 32)) [(0,1,.c (.i .i64 d))]=some (encI (d::zI 32)):=by
    have e1:(0+1<=(encI (0::zI 32)).length):=by rw [hz];omega
    simp only [C7,cells?];rw [if_pos ⟨rfl,e1⟩];rfl
   have hz2:(encI (d::zI 32)).length=33:=F9 (d:=d) K9;obtain ⟨h',e⟩:=C0o (g:=g) (d:=d) (t:=t) (q:=N) ht (E9 d) 0 N (g++[some (Row.mk (encI (d::t)) true),some (Row.mk (encI (0::zI 32)) true),some (Row.mk (encI (d::zI 32)) true)]) (by omega) (by have:=bJ d;omega)
    (by have:=(Low.refl (h:=g++[some (Row.mk (encI (d::t)) true),some (Row.mk (encI (0::zI 32)) true)]) (Nat.le_refl _)).new [some (Row.mk (encI (d::zI 32)) true)];simpa using this) (by rw [C9y];simp)
   refine ⟨h',?_⟩;generalize encI (d::zI 32)=z2 at *;generalize encI (0::zI 32)=z at *;generalize encI (d::t)=y at *;simp only [esc,esh,Nat.reduceAdd,Nat.reduceMul,Nat.reduceLT,hB,hz,l0,hM,hD,ef,hz2];exact e
  ·rw [if_neg c];have cd:¬ d=((lJ d:Nat):Int):=by unfold lJ;omega
   generalize encI (0::zI 32)=z at *;generalize encI (d::t)=y at *;exact ⟨_,by simp only [esc,esh,Nat.reduceAdd,Nat.reduceMul,Nat.reduceLT,hB,hz,l0,hM,hD,cd,haf]<;>rfl⟩
 obtain ⟨g',e⟩:=key (h.length+33) (by omega) (ro h);exact B5J e (by simp)
theorem C50 {d:Int} {t:List Int}:(C7t d t).length=33:=by
 unfold C7t;split
 ·rw [List.length_cons,A8Y (bJ d)]
 ·rw [List.length_cons,K9]
def A3Y (d:List Int):List UInt8:=(d.map (D9 2)).flatten
theorem A2W {d:List Int}:(A3Y d).length=2*d.length:=by
 induction d with
 | nil=>rfl
 | cons x d ih=>simp only [A3Y,List.map_cons,List.flatten_cons,List.length_append,X8,List.length_cons] at ih ⊢;omega
theorem C9U {d:List Int} {x:Int}:A3Y (d++[x])=A3Y d++D9 2 x:=by simp [A3Y]
def magX:List UInt8:=[105,100,120,33]
def A85 (d:Int):List UInt8:=magX++D9 1 d++zeros 27
theorem A2N {d:Int}:(A85 d).length=32:=by simp [A85,magX]
def A84 (d:Int) (t:List Int):List UInt8:=K7 256 (A85 d++A3Y t)
theorem A2M {d:Int} {t:List Int} (ht:t.length=32):(A84 d t).length=256:=F8 (by rw [List.length_append,A2N,A2W];omega)
theorem C7X {n k:Nat} {l:List UInt8} (h:l.length+k<=n):K7 n (l++zeros k)=K7 n l:=by
 unfold K7 zeros;rw [List.append_assoc,List.replicate_append_replicate,List.length_append,List.length_replicate]
 congr 2;omega
def okX (d:Int) (t:List Int):Bool:=decide (0<=d)&&(decide (d<=5)&&t.all C4c)
theorem C3m {d:Int} {t:List Int} {g:A4} {y:List Cell} {q:Nat} (ht:t.length=32) (hyl:y.length=33):∀ e i m:Nat,i+e=32->e<m ->
  ∃ h',A0w q m (.c (.p (g.length+1) 0)) (.c (.p (g.length+3) 0)) (.a (encI t)) (.c (.i .i64 (i:Int))) (g++[some (Row.mk y true),some (Row.mk (A5 (zeros 256)) true),some (Row.mk (A5 magX) true),some (Row.mk (A5 (K7 256 (A85 d++A3Y (t.take i)))) true)]) =
   some (.t [.a (A5 (bif (t.drop i).all C4c then A84 d t else zeros 256)),.c (.i .i64 (bif (t.drop i).all C4c then 0 else 1))],h')
 | e,i,0,_,hm=>by omega
 | 0,i,m+1,hi,hm=>by
  have e0:i=32:=by omega
  subst e0;have c0:¬ ((32:Nat):Int)<32:=by omega
  have hz:(A5 (zeros 256)).length=256:=by rw [A6];exact zeros_length
  have hB:(A5 (A84 d t)).length=256:=by rw [A6];exact A2M ht
  have eB:K7 256 (A85 d++A3Y t)=A84 d t:=rfl;rw [A61,List.take_of_length_le (by omega),List.drop_of_length_le (by omega),List.all_nil,cond_true,cond_true,eB];generalize A84 d t=B at *;generalize A5 magX=mg at *;generalize zeros 256=z at *;exact ⟨_,by simp only [esc,esh,Nat.reduceAdd,Nat.reduceMul,Nat.reduceLT,c0,hz,hB]<;>rfl⟩
 | e+1,i,m+1,hi,hm=>by
  obtain ⟨h',ih⟩:=C3m (d:=d) (g:=g) (q:=q) ht hyl e (i+1) m (by omega) (by omega);have c0:(i:Int)<32:=by omega
  have hz:(A5 (zeros 256)).length=256:=by rw [A6];exact zeros_length
  have haf:C7 (List.replicate 256 (Cell.i .u8 0)) []=some (List.replicate 256 (Cell.i .u8 0)):=rfl;rw [F5] at haf;have hx:tQ 32 (.a (encI t)) (.c (.i .i64 (i:Int)))=some (.c (.i .i64 t[i])):=by
   rw [B4b (by omega),H9,List.getElem?_eq_getElem (by omega)];rfl
  have hF:=fun h=>B1h (n:=t[i]) (h:=h)
  have hnl:(A85 d++A3Y (t.take i)).length=32+2*i:=by rw [List.length_append,A2N,A2W,List.length_take];omega
  have hP0:(K7 256 (A85 d++A3Y (t.take i))).length=256:=F8 (by omega);have hp:(A5 (K7 256 (A85 d++A3Y (t.take i)))).length=256:=by rw [A6,hP0]
  have hW:=fun h=>T5 (h:=h) (l:=K7 256 (A85 d++A3Y (t.take i))) hP0 (a:=((32+2*i:Nat):Int)) (w:=2) (v:=t[i])
  have ew:=fE (l:=A85 d++A3Y (t.take i)) (a:=32+2*i) (w:=2) (v:=t[i]) (by omega) (by omega) (by omega) (by omega);rw [hnl,Nat.sub_self,show zeros 0=[] from rfl,List.append_nil,List.append_assoc,<-C9U,<-List.take_succ_eq_append_getElem (by omega)] at ew;rw [show ((2:Nat):Int)=2 from rfl] at ew;rw [ew] at hW;have hp2:(A5 (K7 256 (A85 d++A3Y (t.take (i+1))))).length=256:=by rw [A6,F8 (by rw [List.length_append,A2N,A2W,List.length_take];omega)]
  have w1:IntKind.wrap .i64 (2*(i:Int))=((2*i:Nat):Int):=by rw [wrap_i64 (by omega) (by omega)];omega
  have w2:IntKind.wrap .i64 (32+((2*i:Nat):Int))=((32+2*i:Nat):Int):=by rw [wrap_i64 (by omega) (by omega)];omega
  rw [A61,F5,List.drop_eq_getElem_cons (by omega:i<t.length),List.all_cons];generalize K7 256 (A85 d++A3Y (t.take (i+1)))=P1 at *;generalize K7 256 (A85 d++A3Y (t.take i))=P0 at *;generalize A84 d t=B at *;generalize A5 magX=mg at *;generalize zeros 256=z at *;cases c:C4c t[i] with
  | false =>
   rw [c] at hF;rw [Bool.false_and,cond_false,cond_false];exact ⟨_,by simp only [esc,esh,Nat.reduceAdd,Nat.reduceMul,Nat.reduceLT,c0,hx,hF,haf,hz]<;>rfl⟩
  | true =>
   rw [c] at hF;rw [Bool.true_and];refine ⟨h',?_⟩;simp only [esc,esh,Nat.reduceAdd,Nat.reduceMul,Nat.reduceLT,c0,hx,hF,hp,w1,w2,hW,hp2,E8 (show i+1<9223372036854775808 by omega)];exact ih
theorem B4m {d:Int} {t:List Int} {h:A4} (ht:t.length=32):gZ [.a (encI (d::t))] h=some (.t [.a (A5 (bif okX d t then A84 d t else zeros 256)),.c (.i .i64 (bif okX d t then 0 else 1))],h):=by
 have key:∀ N,32<N->∀ g,∃ g',A2i N [.a (encI (d::t))] g=some (.t [.a (A5 (bif okX d t then A84 d t else zeros 256)),.c (.i .i64 (bif okX d t then 0 else 1))],g'):=by
  intro N hN g;have hB:=F9 (d:=d) ht;have hz:(A5 (zeros 256)).length=256:=by rw [A6];exact zeros_length
  have hD:=fun h=>Z5 (d:=d) (t:=t) (h:=h)
  have l0:(encI (d::t))[0]?=some (.i .i64 d):=rfl;have haf:C7 (List.replicate 256 (Cell.i .u8 0)) []=some (List.replicate 256 (Cell.i .u8 0)):=rfl;rw [F5] at haf;rw [B9e,F5];unfold okX;by_cases c:0<=d/\d<=5
  ·rw [decide_eq_true c.1,decide_eq_true c.2,Bool.true_and,Bool.true_and];have hd:=C8x c.1 c.2;rw [hd] at hD;have ef:C7 [Cell.i .u8 0,.i .u8 0,.i .u8 0,.i .u8 0] [(0,1,.c (.i .u8 105)),(1,1,.c (.i .u8 100)),(2,1,.c (.i .u8 120)),(3,1,.c (.i .u8 33))]=some (A5 magX):=rfl;have hO:=A9X (data:=magX) (v:=.c (.sl (g.length+2) 0 4 1)) (nv:=4) (h:=g++[some (Row.mk (encI (d::t)) true),some (Row.mk (A5 (zeros 256)) true),some (Row.mk (A5 magX) true),none]) (Has.row (rw:=true) (by simp) rfl (T4 _)) (by decide);rw [C4Y (by decide)] at hO;have hM:A2w (g++[some (Row.mk (encI (d::t)) true),some (Row.mk (A5 (zeros 256)) true),some (Row.mk (A5 magX) true),none]) (.c (.sl (g.length+2) 0 4 1))=some (.c (.sl (g.length+2) 0 4 1)):=by simp [A2w]
   have hW:=fun h=>T5 (h:=h) (l:=K7 256 magX) (F8 (by decide)) (a:=4) (w:=1) (v:=d)
   have ew:=fE (l:=magX) (a:=4) (w:=1) (v:=d) (by decide) (by omega) (by omega) (by omega);have e5:magX++zeros (4-magX.length)++D9 1 d=magX++D9 1 d:=rfl;have e6:K7 256 (magX++D9 1 d)=K7 256 (A85 d++A3Y (t.take 0)):=by
    rw [List.take_zero,show A3Y []=[] from rfl,List.append_nil];exact (C7X (by simp [magX])).symm
   rw [e5,e6] at ew;rw [show ((4:Nat):Int)=4 from rfl,show ((1:Nat):Int)=1 from rfl] at ew;rw [ew] at hW;have hp2:(A5 (K7 256 (A85 d++A3Y (t.take 0)))).length=256:=by rw [A6,F8 (by rw [List.length_append,A2N,A2W,List.length_take];omega)]
   have e7:A8 (g++[some (Row.mk (encI (d::t)) true),some (Row.mk (A5 (zeros 256)) true),some (Row.mk (A5 magX) true),some (Row.mk (A5 (K7 256 (A85 d++A3Y (t.take 0)))) true)]) 32 (.c (.p g.length 1))=some (.a (encI t)):=by
    rw [K3];simp only [List.getElem?_cons_zero,Option.join_some,ldN,Option.bind_some];rw [if_pos ⟨by rw [hB];omega,rfl⟩];have:(encI (d::t)).drop 1=encI t:=rfl;rw [this,List.take_of_length_le (by rw [B9];omega)]
   obtain ⟨h',e⟩:=C3m (d:=d) (t:=t) (g:=g) (q:=N) ht hB 32 0 N (by omega) hN;rw [List.drop_zero] at e;generalize K7 256 (A85 d++A3Y (t.take 0))=P1 at *;generalize K7 256 magX=P2 at *;generalize A84 d t=B at *;generalize A5 magX=mg at *;generalize zeros 256=z at *;generalize encI (d::t)=y at *;refine ⟨h',?_⟩;simp only [esc,esh,Nat.reduceAdd,Nat.reduceMul,Nat.reduceLT,hB,hz,l0,hD,ef,hM,hO,hW,hp2,e7,show g.length+2+1=g.length+3 from rfl];exact e
  ·have cd:¬ d=((lJ d:Nat):Int):=by unfold lJ;omega
   have ec:(decide (0<=d)&&(decide (d<=5)&&t.all C4c))=false:=by
    by_cases c1:0<=d
    ·rw [decide_eq_false (show ¬ d<=5 by omega)];simp
    ·rw [decide_eq_false c1];rfl
   rw [ec,cond_false,cond_false];generalize zeros 256=z at *;generalize encI (d::t)=y at *;exact ⟨_,by simp only [esc,esh,Nat.reduceAdd,Nat.reduceMul,Nat.reduceLT,hB,hz,l0,hD,cd,haf]<;>rfl⟩
 obtain ⟨g',e⟩:=key (h.length+33) (by omega) (ro h);refine B5M e ?_;cases okX d t<;>simp
def getD (b:List UInt8):Int:=fieldN b 4 1
def D5x (b:List UInt8) (i:Nat):Int:=fieldN b (32+2*i) 2
def R8 (b:List UInt8) (n:Nat):List Int:=(List.range n).map (D5x b)++zI (32-n)
theorem A82 {b:List UInt8} {n:Nat} (hn:n<=32):(R8 b n).length=32:=by simp [R8,zI];omega
theorem C9A {b:List UInt8} {k:Nat} (hk:k<32):R8 b (k+1)=(R8 b k).set k (D5x b k):=by
 unfold R8;have e:zI (32-k)=0::zI (32-(k+1)):=by
  unfold zI;rw [show 32-k=(32-(k+1))+1 by omega,List.replicate_succ]
 rw [e,List.set_append_right _ _ (by simp),List.range_succ,List.map_append,List.append_assoc];simp
theorem D0P {b:List UInt8} {a w:Nat} (h:a+w<=256) (hw:1<=w) (hw4:w<=4):((atN b (a:Int) w:Nat):Int)=fieldN b a w:=by
 unfold atN fieldN;rw [if_pos ⟨by omega,Q5.2 (by omega)⟩];simp only [Int.toNat_natCast]
def B7O (t:List Int) (n e:Nat):Bool:=(List.range' n e).all fun i=>decide (toX t i=0)
def mW (b:List UInt8):Bool:=okX (getD b) (R8 b 32)&&(decide (A84 (getD b) (R8 b 32)=b)&&B7O (R8 b 32) (E9 (getD b)) (32-E9 (getD b)))
theorem D1q {b:List UInt8} {d:Int} {t:List Int} {ix iz q:Nat} {h:A4} (ht:t.length=32) (hx:rd h ix=some ⟨encI (d::t),true⟩) (hz:rd h iz=some ⟨encI (0::zI 32),true⟩):∀ e i m:Nat,i+e=32->e<m ->
  ∃ h',A0v q m (.c (.p iz 0)) (.c (.p ix 0)) (.c (.i .i64 (i:Int))) h=some (.t [.a (encI (bif B7O t i e then d::t else 0::zI 32)),.c (.i .i64 (bif B7O t i e then 0 else 14))],h')
 | e,i,0,_,hm=>by omega
 | 0,i,m+1,hi,hm=>by
  have e0:i=32:=by omega
  subst e0;have c0:¬ ((32:Nat):Int)<32:=by omega
  have hX:=F9 (d:=d) ht;have hZ:(encI (0::zI 32)).length=33:=F9 (d:=0) K9;have s1:=D4 (h:=h) (id:=ix) hx hX;have s2:=storeAll (h:=h) (id:=iz) (xs:=encI (d::t)) hz hZ hX;have s3:=D4 (h:=h.set iz (some ⟨encI (d::t),true⟩)) (id:=iz) (C8 (E4 hz)) hX;have er:B7O t 32 0=true:=rfl;rw [A6X,er,cond_true,cond_true];generalize encI (d::t)=y at *;exact ⟨_,by simp only [esc,c0,s1,s2,s3]<;>rfl⟩
 | e+1,i,m+1,hi,hm=>by
  obtain ⟨h',ih⟩:=D1q (b:=b) (q:=q) ht hx hz e (i+1) m (by omega) (by omega);have c0:(i:Int)<32:=by omega
  have hZ:(encI (0::zI 32)).length=33:=F9 (d:=0) K9;have a1:=adX (id:=ix) (i:=i) (by omega);have l1:=ldX (h:=h) (id:=ix) hx ht (i:=i) (by omega);have haf:C7 (encI (0::zI 32)) []=some (encI (0::zI 32)):=rfl;have s2:=storeAll (h:=h) (id:=iz) (xs:=encI (0::zI 32)) hz hZ hZ;have s3:=D4 (h:=h.set iz (some ⟨encI (0::zI 32),true⟩)) (id:=iz) (C8 (E4 hz)) hZ;have er:B7O t i (e+1)=(decide (toX t i=0)&&B7O t (i+1) e):=by unfold B7O;rw [List.range'_succ,List.all_cons]
  rw [A6X,er,C5h];by_cases c:toX t i=0
  ·rw [decide_eq_true c,Bool.true_and];rw [c] at l1;generalize encI (0::zI 32)=z at *;exact ⟨h',by simp only [esc,c0,a1,l1,E8 (show i+1<9223372036854775808 by omega)];exact ih⟩
  ·rw [decide_eq_false c,Bool.false_and,cond_false,cond_false];generalize encI (0::zI 32)=z at *;exact ⟨_,by simp only [esc,c0,a1,l1,c,haf,s2,s3]<;>rfl⟩
theorem D1p {b:List UInt8} {g:A4} {q:Nat} (hb:b.length=256) (hq:32<q):∀ e i m:Nat,i+e=32->e<m ->
  ∃ h',A0u q m (.c (.p g.length 0)) (.c (.p (g.length+1) 0)) (.c (.p (g.length+2) 0)) (.c (.i .i64 (i:Int))) (g++[some (Row.mk (A5 b) true),some (Row.mk (encI (0::zI 32)) true),some (Row.mk (encI (getD b::R8 b i)) true)]) =
   some (.t [.a (encI (bif mW b then getD b::R8 b 32 else 0::zI 32)),.c (.i .i64 (bif mW b then 0 else 14))],h')
 | e,i,0,_,hm=>by omega
 | 0,i,m+1,hi,hm=>by
  have e0:i=32:=by omega
  subst e0;have c0:¬ ((32:Nat):Int)<32:=by omega
  have hB:(A5 b).length=256:=by rw [A6,hb]
  have ht:=A82 (b:=b) (n:=32) (Nat.le_refl _);have hX:=F9 (d:=getD b) ht;have hZ:(encI (0::zI 32)).length=33:=F9 (d:=0) K9;have hz0:(List.replicate 256 (Cell.i .u8 0)).length=256:=List.length_replicate;have hP:=fun h=>B4m (d:=getD b) (t:=R8 b 32) (h:=h) ht
  have hM:=fun h=>cC (d:=getD b) (h:=h) ht
  have D1w:=bJ (getD b);have haf:C7 (encI (0::zI 32)) []=some (encI (0::zI 32)):=rfl;unfold mW;rw [A6W,C5h];cases co:okX (getD b) (R8 b 32) with
  | false =>
   rw [co] at hP;simp only [cond_false] at hP;have hzz:(A5 (zeros 256)).length=256:=by rw [A6];exact zeros_length
   rw [Bool.false_and,cond_false,cond_false];generalize encI (0::zI 32)=z at *;generalize encI (getD b::R8 b 32)=y at *;generalize List.replicate 256 (Cell.i .u8 0)=zz at *;generalize zeros 256=zzz at *;exact ⟨_,by simp only [esc,esh,Nat.reduceAdd,Nat.reduceMul,Nat.reduceLT,c0,hX,hP,hz0,hzz,haf,hZ,show decide ((1:Int)=0)=false from rfl]<;>rfl⟩
  | true =>
   rw [co] at hP;simp only [cond_true] at hP;rw [Bool.true_and];have S3:=A2M (d:=getD b) ht;have hI:(A5 (A84 (getD b) (R8 b 32))).length=256:=by rw [A6,S3]
   have hE:=B9Q (n:=256) S3 hb;by_cases ce:A84 (getD b) (R8 b 32)=b
   ·rw [decide_eq_true ce,Bool.true_and];rw [decide_eq_true ce] at hE;obtain ⟨h',e⟩:=D1q (b:=b) (d:=getD b) (t:=R8 b 32) (ix:=g.length+2) (iz:=g.length+1) (q:=q) (h:=g++[some (Row.mk (A5 b) true),some (Row.mk (encI (0::zI 32)) true),some (Row.mk (encI (getD b::R8 b 32)) true),some (Row.mk (A5 (A84 (getD b) (R8 b 32))) true)]) ht (by simp) (by simp) (32-E9 (getD b)) (E9 (getD b)) q (by omega) (by omega);refine ⟨h',?_⟩;generalize B7O (R8 b 32) (E9 (getD b)) (32-E9 (getD b))=R at *;generalize A84 (getD b) (R8 b 32)=I at *;generalize getD b::R8 b 32=Y at *;generalize encI (0::zI 32)=z at *;generalize List.replicate 256 (Cell.i .u8 0)=zz at *;simp only [esc,esh,Nat.reduceAdd,Nat.reduceMul,Nat.reduceLT,c0,hX,hP,hz0,hI,hB,hE,hM];exact e
   ·rw [decide_eq_false ce,Bool.false_and,cond_false,cond_false];rw [decide_eq_false ce] at hE;generalize A84 (getD b) (R8 b 32)=I at *;generalize encI (0::zI 32)=z at *;generalize encI (getD b::R8 b 32)=y at *;generalize List.replicate 256 (Cell.i .u8 0)=zz at *;exact ⟨_,by simp only [esc,esh,Nat.reduceAdd,Nat.reduceMul,Nat.reduceLT,c0,hX,hP,hz0,hI,hB,hE,haf,hZ]<;>rfl⟩
 | e+1,i,m+1,hi,hm=>by
  obtain ⟨h',ih⟩:=D1p (g:=g) (q:=q) hb hq e (i+1) m (by omega) (by omega);have c0:(i:Int)<32:=by omega
  have hB:(A5 b).length=256:=by rw [A6,hb]
  have ht:=A82 (b:=b) (n:=i) (by omega);have hX:=F9 (d:=getD b) ht;have hA:=fun h=>kF (h:=h) hb (a:=((32+2*i:Nat):Int)) (w:=2)
  have ea:=D0P (b:=b) (a:=32+2*i) (w:=2) (by omega) (by omega) (by omega);rw [show ((2:Nat):Int)=2 from rfl] at ea;rw [ea] at hA;have w1:IntKind.wrap .i64 (2*(i:Int))=((2*i:Nat):Int):=by rw [wrap_i64 (by omega) (by omega)];omega
  have w2:IntKind.wrap .i64 (32+((2*i:Nat):Int))=((32+2*i:Nat):Int):=by rw [wrap_i64 (by omega) (by omega)];omega
  have a1:=adX (id:=g.length+2) (i:=i) (by omega);have hs:(encI (getD b::R8 b i)).set (1+i) (.i .i64 (fieldN b (32+2*i) 2))=encI (getD b::R8 b (i+1)):=by rw [C5X,C9A (by omega)];rfl
  have R0:1+i<(encI (getD b::R8 b i)).length:=by rw [hX];omega
  rw [A6W];generalize mW b=G at *;generalize getD b::R8 b 32=Y at *;generalize encI (getD b::R8 b (i+1))=y1 at *;generalize encI (getD b::R8 b i)=y at *;generalize encI (0::zI 32)=z at *;refine ⟨h',?_⟩;simp only [esc,esh,Nat.reduceAdd,Nat.reduceMul,Nat.reduceLT,c0,hB,w1,w2,hA,a1,R0,hs,E8 (show i+1<9223372036854775808 by omega)];exact ih
theorem C4o {b:List UInt8} {h:A4} (hb:b.length=256):wI [.a (A5 b)] h=some (.t [.a (encI (bif mW b then getD b::R8 b 32 else 0::zI 32)),.c (.i .i64 (bif mW b then 0 else 14))],h):=by
 have key:∀ N,32<N->∀ g,∃ g',A2h N [.a (A5 b)] g=some (.t [.a (encI (bif mW b then getD b::R8 b 32 else 0::zI 32)),.c (.i .i64 (bif mW b then 0 else 14))],g'):=by
  intro N hN g;have hB:(A5 b).length=256:=by rw [A6,hb]
  have hZ:(encI (0::zI 32)).length=33:=F9 (d:=0) K9;have hA:=fun h=>kF (h:=h) hb (a:=4) (w:=1)
  have ea:=D0P (b:=b) (a:=4) (w:=1) (by omega) (by omega) (by omega);rw [show ((4:Nat):Int)=4 from rfl,show ((1:Nat):Int)=1 from rfl] at ea;rw [ea] at hA;have ef:C7 (encI (0::zI 32)) [(0,1,.c (.i .i64 (fieldN b 4 1)))]=some (encI (getD b::R8 b 0)):=by
   have e1:(0+1<=(encI (0::zI 32)).length):=by rw [hZ];omega
   simp only [C7,cells?];rw [if_pos ⟨rfl,e1⟩];rfl
  have hX:=F9 (d:=getD b) (A82 (b:=b) (n:=0) (by omega));obtain ⟨h',e⟩:=D1p (g:=g) (q:=N) hb hN 32 0 N (by omega) hN;rw [B9d,C5h];generalize mW b=G at *;generalize getD b::R8 b 32=Y at *;generalize encI (getD b::R8 b 0)=y at *;generalize encI (0::zI 32)=z at *;exact ⟨h',by simp only [esc,esh,Nat.reduceAdd,Nat.reduceMul,Nat.reduceLT,hB,hZ,hA,ef,hX];exact e⟩
 obtain ⟨g',e⟩:=key (h.length+33) (by omega) (ro h);refine B5K e ?_;cases mW b<;>simp
def B7e (t:List Int) (i:Nat):Bool:=!decide (toX t i=0)&&B2w t i
def Z0 (t:List Int) (k:Nat):List Int:=((List.range k).filter (B7e t)).map (toX t)
theorem C23 {t:List Int} {k:Nat}:Z0 t (k+1)=Z0 t k++(if B7e t k=true then [toX t k] else []):=by
 unfold Z0;rw [List.range_succ,List.filter_append,List.map_append,List.filter_cons];by_cases c:B7e t k=true<;>simp [c]
theorem A2x (t:List Int) (k:Nat):(Z0 t k).length<=k:=by
 unfold Z0;rw [List.length_map];exact Nat.le_trans (List.length_filter_le _ _) (by simp)
theorem A5V {d:Int} {t:List Int} {g:A4} {n q:Nat} (ht:t.length=32) (hn:n<=32):∀ (e i m:Nat) (h:A4) (id:Nat),i+e=n->e<m->Low (g++[some (Row.mk (encI (d::t)) true)]).length (g++[some (Row.mk (encI (d::t)) true)]) h->(g++[some (Row.mk (encI (d::t)) true)]).length<=id->rd h id=some ⟨encI (Z0 t i),true⟩ ->
  ∃ v h',cZ q m (.c (.p g.length 0)) (.c (.sl id 0 (Z0 t i).length 1)) (.c (.i .i64 (n:Int))) (.c (.i .i64 (i:Int))) h=some (v,h')/\Out g.length h' v 1 (Z0 t n).length (encI (Z0 t n))
 | e,i,0,h,id,_,hm,_,_,_=>by omega
 | 0,i,m+1,h,id,hi,hm,hlow,hid,hr=>by
  have e0:i=n:=by omega
  subst e0;have c0:¬ (i:Int)<i:=by omega
  rw [List.length_append] at hid;rw [zM];exact ⟨_,_,by simp only [esc,c0]<;>rfl,by rw [B9];omega,_,rfl,by omega,hr⟩
 | e+1,i,m+1,h,id,hi,hm,hlow,hid,hr=>by
  have c0:(i:Int)<n:=by omega
  have hB:=F9 (d:=d) ht;have hrd:rd h g.length=some ⟨encI (d::t),true⟩:=hlow.rd (by simp);have s1:=D4 (h:=h) (id:=g.length) (cs:=encI (d::t)) hrd hB;have a1:=adX (id:=g.length) (i:=i) (by omega);have l1:=ldX (h:=h) (id:=g.length) hrd ht (i:=i) (by omega);have hFs:=fun h=>A9c (d:=d) (t:=t) (i:=i) (h:=h) ht (by omega)
  have w1:=E8 (show i+1<9223372036854775808 by omega);have hul:=A2x t i;rw [zM];have skip:B7e t i=false->∃ v h',cZ q m (.c (.p g.length 0)) (.c (.sl id 0 (Z0 t i).length 1)) (.c (.i .i64 (n:Int))) (.c (.i .i64 ((i+1:Nat):Int))) h=some (v,h')/\Out g.length h' v 1 (Z0 t n).length (encI (Z0 t n)):=by
   intro c;have hu:Z0 t (i+1)=Z0 t i:=by rw [C23,c];simp
   have:=A5V (q:=q) ht hn e (i+1) m h id (by omega) (by omega) hlow hid (by rw [hu];exact hr);rw [hu] at this;exact this
  by_cases cz:toX t i=0
  ·obtain ⟨v,h',f1,f2⟩:=skip (by unfold B7e;rw [decide_eq_true cz];rfl);rw [cz] at l1;refine ⟨v,h',?_,f2⟩;generalize encI (d::t)=z at *;simp only [esc,c0,a1,l1,lQ,w1];exact f1
  ·cases cs:B2w t i with
   | false =>
    obtain ⟨v,h',f1,f2⟩:=skip (by unfold B7e;rw [cs,Bool.and_false]);rw [cs] at hFs;refine ⟨v,h',?_,f2⟩;generalize encI (d::t)=z at *;simp only [esc,c0,a1,l1,cz,s1,hFs,lQ,w1];exact f1
   | true =>
    rw [cs] at hFs;have cb:B7e t i=true:=by unfold B7e;rw [cs,decide_eq_false cz];rfl
    have hu:Z0 t (i+1)=Z0 t i++[toX t i]:=by rw [C23,if_pos cb]
    obtain ⟨h1,b1,b2,b3,b4,b5⟩:=push (ys:=[.i .i64 (toX t i)]) (sz:=1) (n:=(Z0 t i).length) hlow hr (by rw [B9];omega) hid rfl (by omega) (by omega);have he:encI (Z0 t i)++[.i .i64 (toX t i)]=encI (Z0 t (i+1)):=by rw [hu];simp [encI]
    rw [he] at b2;obtain ⟨v,h',f1,f2⟩:=A5V (q:=q) ht hn e (i+1) m h1 (h.length+1) (by omega) (by omega) b3 b4 b2;have hl1:(Z0 t (i+1)).length=(Z0 t i).length+1:=by rw [hu];simp
    rw [hl1] at f1;have ef:C7 [Cell.i .i64 0] [(0,1,.c (.i .i64 (toX t i)))]=some [.i .i64 (toX t i)]:=rfl;refine ⟨v,h',?_,f2⟩;generalize encI (d::t)=z at *;simp only [esc,c0,a1,l1,cz,s1,hFs,ef,b1,lQ,w1];exact f1
theorem tY {d:Int} {t:List Int} {h:A4} (ht:t.length=32):N9 [.a (encI (d::t))] h=some (.c (.sl h.length 0 (Z0 t (E9 d)).length 1),h++[some ⟨encI (Z0 t (E9 d)),true⟩]):=by
 have key:∀ N,32<N->∀ g,∃ v g',nL N [.a (encI (d::t))] g=some (v,g')/\Out g.length g' v 1 (Z0 t (E9 d)).length (encI (Z0 t (E9 d))):=by
  intro N hN g;have hB:=F9 (d:=d) ht;have hM:=fun h=>cC (d:=d) (h:=h) ht
  have hm:=bJ d;obtain ⟨v,g',f1,f2⟩:=A5V (g:=g) (d:=d) (q:=N) ht hm (E9 d) 0 N (g++[some (Row.mk (encI (d::t)) true),some (Row.mk [] true),some (Row.mk [] true)]) (g.length+2) (by omega) (by omega)
   (by have:=(Low.refl (h:=g++[some (Row.mk (encI (d::t)) true)]) (Nat.le_refl _)).new [some ⟨[],true⟩,some ⟨[],true⟩];simpa using this) (by simp) (by simp [Z0,encI])
  rw [show Z0 t 0=[] from rfl] at f1;rw [B1T];refine ⟨v,g',?_,f2⟩;generalize encI (d::t)=z at *;simp only [esc,esh,Nat.reduceAdd,Nat.reduceMul,Nat.reduceLT,hB,hM] at f1 ⊢;exact f1
 obtain ⟨v,g',e,ho⟩:=key (h.length+33) (by omega) (ro h);exact B0g e (by simpa [I8] using ho) (by simp)
def D1J (h:Nat) (b:Int):Nat:=if b<1 then 0 else if 32<=b then h else h%2 ^ b.toNat
theorem C7J {x:Nat} {b:Int} {h:A4} (hx:x<4294967296):A4w [.c (.i .u32 (x:Int)),.c (.i .i64 b)] h=some (.c (.i .i64 (D1J x b:Nat)),h):=by
 have key:∀ g,∃ g',A9M 0 [.c (.i .u32 (x:Int)),.c (.i .i64 b)] g=some (.c (.i .i64 (D1J x b:Nat)),g'):=by
  intro g;rw [C3R];unfold D1J;by_cases c1:b<1
  ·rw [if_pos c1];exact ⟨_,by simp only [esc,c1]<;>rfl⟩
  ·rw [if_neg c1];have w1:IntKind.wrap .i64 (x:Int)=(x:Int):=wrap_i64 (by omega) (by omega);by_cases c2:32<=b
   ·rw [if_pos c2];exact ⟨_,by simp only [esc,c1,c2,w1]<;>rfl⟩
   ·rw [if_neg c2];obtain ⟨k,rfl⟩:∃ k:Nat,b=k:=⟨b.toNat,by omega⟩;have hk:k<32:=by omega
    rw [Int.toNat_natCast];have w2:=B6J (k:=k) (by omega);have hp:2 ^ k<=2 ^ 31:=Nat.pow_le_pow_right (by omega) (by omega);have hp0:0<2 ^ k:=Nat.pow_pos (by omega);have e1:B5 .shl (.c (.i .u32 1)) (.c (.i .u64 (k:Int)))=some (.c (.i .u32 ((2 ^ k:Nat):Int))):=by
     rw [B3M (by omega)];have h1:Nat.min (k:Int).toNat (IntKind.u32).bits=k:=by
      have:(IntKind.u32).bits=32:=rfl;rw [this,Int.toNat_natCast];exact Nat.min_eq_left (by omega)
     rw [h1,Int.one_mul];have e:(2:Int) ^ k=((2 ^ k:Nat):Int):=by simp
     rw [e];generalize 2 ^ k=y at hp hp0 ⊢;rw [wrap_u32 (by omega) (by omega)]
    have w3:IntKind.wrap .u32 (((2 ^ k:Nat):Int)-1)=((2 ^ k-1:Nat):Int):=by rw [wrap_u32 (by omega) (by omega)];omega
    have e2:=D2N (a:=x) (b:=2 ^ k-1) hx (by omega);rw [Nat.and_two_pow_sub_one_eq_mod] at e2;have hm:x%2 ^ k<2 ^ k:=Nat.mod_lt _ hp0;have w4:IntKind.wrap .i64 ((x%2 ^ k:Nat):Int)=((x%2 ^ k:Nat):Int):=wrap_i64 (by omega) (by omega);generalize 2 ^ k-1=y at *;generalize x%2 ^ k=z at *;exact ⟨_,by simp only [esc,c1,c2,w2,e1,w3,e2,w4]<;>rfl⟩
 obtain ⟨g',e⟩:=key (ro h);exact B9D e rfl
theorem C0w {d:Int} {t:List Int} {x:Nat} {h:A4} (ht:t.length=32) (hx:x<4294967296):mI [.a (encI (d::t)),.c (.i .u32 (x:Int))] h=some (.c (.i .i64 (x%E9 d:Nat)),h):=by
 have key:∀ g,∃ g',uR 0 [.a (encI (d::t)),.c (.i .u32 (x:Int))] g=some (.c (.i .i64 (x%E9 d:Nat)),g'):=by
  intro g;have hB:=F9 (d:=d) ht;have hD:=fun h=>Z5 (d:=d) (t:=t) (h:=h)
  have hL:=fun h=>C7J (x:=x) (b:=(lJ d:Nat)) (h:=h) hx
  have e:D1J x (lJ d:Nat)=x%E9 d:=by
   unfold D1J E9;have:=A53 d;rw [Int.toNat_natCast];by_cases c:((lJ d:Nat):Int)<1
   ·have:lJ d=0:=by omega
    rw [if_pos c,this];simp [Nat.mod_one]
   ·rw [if_neg c,if_neg (by omega)]
  rw [e] at hL;rw [B5o];generalize encI (d::t)=y at *;exact ⟨_,by simp only [esc,esh,Nat.reduceAdd,Nat.reduceMul,Nat.reduceLT,hB,hD,hL]<;>rfl⟩
 obtain ⟨g',e⟩:=key (ro h);exact B13 e rfl
def D1C (D:Dev) (n k:Int) (d:List Int):Bool:=decide (k=2)&&uA D.length n (d.getD 0 0)&&mW (blk D (d.getD 0 0))
def D4L (D:Dev) (n k:Int) (d:List Int):List Int:=bif D1C D n k d then getD (blk D (d.getD 0 0))::R8 (blk D (d.getD 0 0)) 32 else 0::zI 32
theorem C2e (b:List UInt8):(R8 b 32).length=32:=by simp [R8,zI]
def D6k (D:Dev) (n k:Int) (d:List Int):List Int:=bif D1C D n k d then (Z0 (R8 (blk D (d.getD 0 0)) 32) (E9 (getD (blk D (d.getD 0 0))))).filter (uA D.length n) else []
end Go.Proofs.YteckncopbicmcaaGreat
namespace Go.Proofs.YteckncopbicmcaaGreat
open Go Go.Esc
set_option maxRecDepth 100000
noncomputable section
def B1v:ACode:=sO [0,21,22,23] [aO 23 (.bin .lss (.t 22) (.t 21))] (.seq [0,21,22] (.cond (.t 23) .skip (.exit 0)) (.seq [0,21,22] (.block 1 (sO [0,3,21,22] [aM 24 22,aM 3 24] (sO [0,21,22,34] [aM 25 0,aM 26 3,aO 27 (.idxS (.t 25) (.t 26)),aO 28 (.bin .eql (.t 27) (.v (.c (.i .u8 0)))),aM 29 28,gM 30 29 false 0,gM 31 29 false 3,aG 32 29 false (.idxS (.t 30) (.t 31)),aG 33 29 false (.bin .eql (.t 32) (.v (.c (.i .u8 47)))),aO 34 (.pick (.t 29) (.v (.c (.b true))) (.t 33))] (.cond (.t 34) (sO [2] [aO 2 (.mv (.v (.c (.i .i64 3))))] .ret) .skip)))) (.ops [aO 35 (.bin .add (.t 22) (.v (.c (.i .i64 1)))),aM 22 35])))
def B1w:ACode:=sO [2] [aO 2 (.mv (.v (.c (.i .i64 0))))] .ret
def zV:AFn:=⟨sO [0] [aO 2 (.mv (.v (.c (.i .i64 0))))] (.seq [0] (sO [0,19] [aM 4 0,aO 5 (.lenS (.t 4)),aO 6 (.bin .lss (.t 5) (.v (.c (.i .i64 1)))),aM 7 6,gM 8 7 false 0,aG 9 7 false (.lenS (.t 8)),aG 10 7 false (.bin .gtr (.t 9) (.v (.c (.i .i64 24)))),aO 11 (.pick (.t 7) (.v (.c (.b true))) (.t 10)),aM 12 11,gM 13 12 false 0,aG 14 12 false (.bin .eql (.t 13) (.v (.c (.s [46])))),aO 15 (.pick (.t 12) (.v (.c (.b true))) (.t 14)),aM 16 15,gM 17 16 false 0,aG 18 16 false (.bin .eql (.t 17) (.v (.c (.s [46,46])))),aO 19 (.pick (.t 16) (.v (.c (.b true))) (.t 18))] (.cond (.t 19) (sO [2] [aO 2 (.mv (.v (.c (.i .i64 3))))] .ret) .skip)) (.seq [] (sO [0,21,22] [aM 20 0,aO 21 (.lenS (.t 20)),aO 22 (.mv (.v (.c (.i .i64 0))))] (.block 0 (.loop [0,21,22] B1v))) B1w)),[.tmp 2]⟩
def pU:E2:=E6
def C2v (n:Nat):KV:=kQ pU n B1w [] zV.fin
def C2w (n:Nat):KV:=F6 0 (C2v n)
def vQ (n m:Nat) (x0 xU x22:Val):AtH:=ar pU n B1v [0,21,22] (C2w n) m [x0,xU,x22]
def A5E:=rx pU zV
theorem B78 (n:Nat) (a0:Val) (h:A4):A5E n [a0] h=bnd (B0Z a0) fun v1=>bnd (B5 .lss v1 (.c (.i .i64 1))) fun v2=>bnd (gd v2 false (some (a0,h)) (some (.no,h))) fun p3=>bnd (gd v2 false (bnd (B0Z p3.1) fun v4=>some (v4,p3.2)) (some (.no,p3.2))) fun p5=>bnd (gd v2 false (bnd (B5 .gtr p5.1 (.c (.i .i64 24))) fun v6=>some (v6,p5.2)) (some (.no,p5.2))) fun p7=>bnd (F0 v2 (.c (.b true)) p7.1) fun v8=>bnd (gd v8 false (some (a0,p7.2)) (some (.no,p7.2))) fun p9=>bnd (gd v8 false (bnd (B5 .eql p9.1 (.c (.s [46]))) fun T6=>some (T6,p9.2)) (some (.no,p9.2))) fun p11=>bnd (F0 v8 (.c (.b true)) p11.1) fun v12=>bnd (gd v12 false (some (a0,p11.2)) (some (.no,p11.2))) fun p13=>bnd (gd v12 false (bnd (B5 .eql p13.1 (.c (.s [46,46]))) fun cE=>some (cE,p13.2)) (some (.no,p13.2))) fun lU=>bnd (F0 v12 (.c (.b true)) lU.1) fun T7=>cnd T7 (some ((.c (.i .i64 3)),lU.2)) (bnd (B0Z a0) fun W3=>vQ n n a0 W3 (.c (.i .i64 0)) lU.2):=by kernel_rfl
theorem A43 (n m:Nat) (x0 xU x22:Val) (h:A4):vQ n (m+1) x0 xU x22 h=bnd (B5 .lss x22 xU) fun dN=>cnd dN (bnd (B0Y x0 x22) fun dO=>bnd (B5 .eql dO (.c (.i .u8 0))) fun jN=>bnd (gd jN false (some (x0,h)) (some (.no,h))) fun p21=>bnd (gd jN false (some (x22,p21.2)) (some (.no,p21.2))) fun p22=>bnd (gd jN false (bnd (B0Y p21.1 p22.1) fun v23=>some (v23,p22.2)) (some (.no,p22.2))) fun fU=>bnd (gd jN false (bnd (B5 .eql fU.1 (.c (.i .u8 47))) fun v25=>some (v25,fU.2)) (some (.no,fU.2))) fun p26=>bnd (F0 jN (.c (.b true)) p26.1) fun v27=>cnd v27 (some ((.c (.i .i64 3)),p26.2)) (bnd (B5 .add x22 (.c (.i .i64 1))) fun v28=>vQ n m x0 xU v28 p26.2)) (some ((.c (.i .i64 0)),h)):=by kernel_rfl
theorem B3b:FnK Tryz.prog 250 zV pU A5E:=.mk2 C9 Tryz.func250 (by kernel_rfl)
def dW:=tl zV pU
theorem A6O:SOk Tryz.prog 250 dW:=B3b.sok
theorem B3E:G0 A5E dW:=B3b.flat
def B4D:ACode:=sO [0,2,4,18,19,20] [aO 20 (.bin .lss (.t 19) (.t 18))] (.seq [0,2,4,18,19] (.cond (.t 20) .skip (.exit 0)) (.seq [0,2,4,18,19] (.block 1 (sO [0,2,4,6,18,19] [aM 21 19,aM 6 21] (.ops [aM 22 6,aO 23 (.bin .add (.v (.c (.i .i64 1))) (.t 22)),aM 24 0,aM 25 6,aO 26 (.idxS (.t 24) (.t 25)),aO 27 (.iAddrA 25 1 (.t 4) (.t 23)),aN (.store1 (.t 27) (.t 26))]))) (.ops [aO 28 (.bin .add (.t 19) (.v (.c (.i .i64 1)))),aM 19 28])))
def B4E:ACode:=sO [2,3] [aL' 29 25 4,aN (.storeN 25 (.t 2) (.t 29)),aO 3 (.mv (.v (.c (.i .i64 0))))] .ret
def A10:AFn:=⟨sO [0,2] [aO 2 (.alloc (List.replicate 25 (.i .u8 0))),aO 3 (.mv (.v (.c (.i .i64 0))))] (sO [0,2,4] [aO 4 (.alloc (List.replicate 25 (.i .u8 0)))] (.seq [0,2,4] (sO [0,2,4,5] [aM 7 0,aO 8 (.call 250 [(.t 7)]),aM 5 8] (sO [0,2,4,5,10] [aM 9 5,aO 10 (.bin .neq (.t 9) (.v (.c (.i .i64 0))))] (.cond (.t 10) (sO [2,3] [aL' 11 25 4,aM 12 5,aN (.storeN 25 (.t 2) (.t 11)),aM 3 12] .ret) .skip))) (sO [0,2,4] [aM 13 0,aO 14 (.lenS (.t 13)),aO 15 (.conv .u8 (.t 14)),aO 16 (.iAddrA 25 1 (.t 4) (.v (.c (.i .i64 0)))),aN (.store1 (.t 16) (.t 15))] (.seq [2,4] (sO [0,2,4,18,19] [aM 17 0,aO 18 (.lenS (.t 17)),aO 19 (.mv (.v (.c (.i .i64 0))))] (.block 0 (.loop [0,2,4,18,19] B4D))) B4E)))),[.cellN 2 25,.tmp 3]⟩
def vW:E2:=D6 250 dW E6
def C4P (n:Nat):KV:=kQ vW n B4E [2,4] A10.fin
def C4Q (n:Nat):KV:=F6 0 (C4P n)
def A0C (n m:Nat) (x0 x2 x4 x18 x19:Val):AtH:=ar vW n B4D [0,2,4,18,19] (C4Q n) m [x0,x2,x4,x18,x19]
def A2m:=rx vW A10
theorem B9k (n:Nat) (a0:Val) (h:A4):A2m n [a0] h=bnd (dW [a0] ((h++[some (Row.mk (List.replicate 25 (.i .u8 0)) true)])++[some (Row.mk (List.replicate 25 (.i .u8 0)) true)])) fun p1=>bnd (B5 .neq p1.1 (.c (.i .i64 0))) fun v2=>cnd v2 (bnd (A8 p1.2 25 (.c (.p (h++[some (Row.mk (List.replicate 25 (.i .u8 0)) true)]).length 0))) fun v3=>bnd (B4 p1.2 25 (.c (.p h.length 0)) v3) fun h4=>I6 [A8 h4 25 (.c (.p h.length 0)),some p1.1] h4) (bnd (B0Z a0) fun v5=>bnd (dJ .u8 v5) fun v6=>bnd (D8 25 1 (.c (.p (h++[some (Row.mk (List.replicate 25 (.i .u8 0)) true)]).length 0)) (.c (.i .i64 0))) fun v7=>bnd (D3 p1.2 v7 v6) fun h8=>bnd (B0Z a0) fun v9=>A0C n n a0 (.c (.p h.length 0)) (.c (.p (h++[some (Row.mk (List.replicate 25 (.i .u8 0)) true)]).length 0)) v9 (.c (.i .i64 0)) h8):=by kernel_rfl
theorem A67 (n m:Nat) (x0 x2 x4 x18 x19:Val) (h:A4):A0C n (m+1) x0 x2 x4 x18 x19 h=bnd (B5 .lss x19 x18) fun T6=>cnd T6 (bnd (B5 .add (.c (.i .i64 1)) x19) fun v11=>bnd (B0Y x0 x19) fun v12=>bnd (D8 25 1 x4 v11) fun v13=>bnd (D3 h v13 v12) fun h14=>bnd (B5 .add x19 (.c (.i .i64 1))) fun dE=>A0C n m x0 x2 x4 x18 dE h14) (bnd (A8 h 25 x4) fun T7=>bnd (B4 h 25 x2 T7) fun h17=>I6 [A8 h17 25 x2,some (.c (.i .i64 0))] h17):=by kernel_rfl
theorem B6Z:FnK Tryz.prog 251 A10 vW A2m:=.mk2 (B8 A6O C9) Tryz.func251 (by kernel_rfl)
def iE:=tl A10 vW
theorem A8q:SOk Tryz.prog 251 iE:=B6Z.sok
theorem B5X:G0 A2m iE:=B6Z.flat
def A3f:AFn:=⟨sO [1] [aB 1 0,aO 2 (.mv (.v (.c (.s [])))),aO 3 (.mv (.v (.c (.i .i64 0))))] (sO [1,4] [aO 8 (.iAddrA 25 1 (.t 1) (.v (.c (.i .i64 0)))),aL 9 8,aO 10 (.conv .i64 (.t 9)),aM 4 10] (.seq [1,4] (sO [1,4,12] [aM 11 4,aO 12 (.bin .gtr (.t 11) (.v (.c (.i .i64 24))))] (.cond (.t 12) (sO [2,3] [aO 2 (.mv (.v (.c (.s [])))),aO 3 (.mv (.v (.c (.i .i64 3))))] .ret) .skip)) (sO [1,5] [aM 13 4,aO 14 (.bin .add (.v (.c (.i .i64 1))) (.t 13)),aO 15 (.slA 25 1 (.t 1) (some (.v (.c (.i .i64 1)))) (some (.t 14))),aO 16 (.b2s (.t 15)),aM 5 16] (.seq [5] (sO [1,5,6,7] [aM 18 5,aO 19 (.call 251 [(.t 18)]),aM 17 19,aE 20 17 0,aE 21 17 1,aO 6 (.alloc (List.replicate 25 (.i .u8 0))),aN (.storeN 25 (.t 6) (.t 20)),aM 7 21] (sO [5,28] [aM 22 7,aO 23 (.bin .neq (.t 22) (.v (.c (.i .i64 0)))),aM 24 23,aG 25 24 false (.loadN 25 (.t 6)),aG 26 24 false (.loadN 25 (.t 1)),aG 27 24 false (.eqA true (List.replicate 25 (.i .u8)) (.t 25) (.t 26)),aO 28 (.pick (.t 24) (.v (.c (.b true))) (.t 27))] (.cond (.t 28) (sO [2,3] [aO 2 (.mv (.v (.c (.s [])))),aO 3 (.mv (.v (.c (.i .i64 3))))] .ret) .skip))) (sO [2,3] [aM 29 5,aM 2 29,aO 3 (.mv (.v (.c (.i .i64 0))))] .ret))))),[.tmp 2,.tmp 3]⟩
def A3t:E2:=D6 251 iE E6
def uY:=rx A3t A3f
theorem B5w (n:Nat) (a0:Val) (h:A4):uY n [a0] h=bnd (cells? a0) fun c1=>bnd (D8 25 1 (.c (.p h.length 0)) (.c (.i .i64 0))) fun v2=>bnd (A7 (h++[some (Row.mk (c1) true)]) v2) fun v3=>bnd (dJ .i64 v3) fun v4=>bnd (B5 .gtr v4 (.c (.i .i64 24))) fun v5=>cnd v5 (I6 [some (.c (.s [])),some (.c (.i .i64 3))] (h++[some (Row.mk (c1) true)])) (bnd (B5 .add (.c (.i .i64 1)) v4) fun v6=>bnd (B8u (h++[some (Row.mk (c1) true)]) 25 1 (.c (.p h.length 0)) (some (.c (.i .i64 1))) (some v6)) fun v7=>bnd (A8w (h++[some (Row.mk (c1) true)]) v7) fun v8=>bnd (iE [v8] (h++[some (Row.mk (c1) true)])) fun p9=>bnd (H0 p9.1 0) fun T6=>bnd (H0 p9.1 1) fun v11=>bnd (B4 (p9.2++[some (Row.mk (List.replicate 25 (.i .u8 0)) true)]) 25 (.c (.p p9.2.length 0)) T6) fun h12=>bnd (B5 .neq v11 (.c (.i .i64 0))) fun v13=>bnd (gd v13 false (bnd (A8 h12 25 (.c (.p p9.2.length 0))) fun cE=>some (cE,h12)) (some (.no,h12))) fun lU=>bnd (gd v13 false (bnd (A8 lU.2 25 (.c (.p h.length 0))) fun T7=>some (T7,lU.2)) (some (.no,lU.2))) fun xQ=>bnd (gd v13 false (bnd (aeq true (List.replicate 25 (.i .u8)) lU.1 xQ.1) fun dN=>some (dN,xQ.2)) (some (.no,xQ.2))) fun oY=>bnd (F0 v13 (.c (.b true)) oY.1) fun jN=>cnd jN (I6 [some (.c (.s [])),some (.c (.i .i64 3))] oY.2) (I6 [some v8,some (.c (.i .i64 0))] oY.2)):=by kernel_rfl
theorem B0Q:FnK Tryz.prog 253 A3f A3t uY:=.mk2 (B8 A8q C9) Tryz.func253 (by kernel_rfl)
def mN:=tl A3f A3t
theorem B5Y:SOk Tryz.prog 253 mN:=B0Q.sok
theorem B2c:G0 uY mN:=B0Q.flat
def A7H:AFn:=⟨sO [0,1] [aO 4 (.mv (.v (.c (.b false))))] (sO [4] [aM 5 0,aM 6 1,aO 7 (.bin .lss (.t 5) (.t 6)),aM 4 7] .ret),[.tmp 4]⟩
def A7Q:E2:=E6
def A78:=rx A7Q A7H
theorem B9j (n:Nat) (a0 a1:Val) (h:A4):A78 n [a0,a1] h=bnd (B5 .lss a0 a1) fun v1=>some (v1,h):=by kernel_rfl
theorem B6Y:FnK Tryz.prog 227 A7H A7Q A78:=.mk2 C9 Tryz.func227 (by kernel_rfl)
def wL:=tl A7H A7Q
theorem B9E:SOk Tryz.prog 227 wL:=B6Y.sok
theorem B5W:G0 A78 wL:=B6Y.flat
def B1x:ACode:=.seq [0,1,6,7] (sO [0,1,6,7,13] [aM 11 6,aM 12 7,aO 13 (.bin .lss (.t 11) (.t 12))] (.cond (.t 13) .skip (.exit 0))) (.block 1 (sO [0,1,6,7,8] [aM 14 6,aM 15 7,aM 16 6,aO 17 (.bin .sub (.t 15) (.t 16)),aO 18 (.bin .quo (.t 17) (.v (.c (.i .i64 2)))),aO 19 (.bin .add (.t 14) (.t 18)),aM 8 19] (sO [0,1,6,7,8,25] [aM 20 0,aM 21 8,aO 22 (.iAddrL 1 (.t 20) (.t 21)),aL 23 22,aM 24 1,aO 25 (.call 227 [(.t 23),(.t 24)])] (.cond (.t 25) (.ops [aM 26 8,aO 27 (.bin .add (.t 26) (.v (.c (.i .i64 1)))),aM 6 27]) (.ops [aM 28 8,aM 7 28])))))
def B1y:ACode:=.seq [4,5] (.draw 0 [aM 29 6,aM 30 6,aM 31 0,aO 32 (.len (.t 31)),aO 33 (.bin .lss (.t 30) (.t 32)),aM 34 33,gM 35 34 true 0,gM 36 34 true 6,aG 37 34 true (.iAddrL 1 (.t 35) (.t 36)),aG 38 34 true (.load1 (.t 37)),gM 39 34 true 1,aG 40 34 true (.bin .eql (.t 38) (.t 39)),aO 41 (.pick (.t 34) (.t 40) (.v (.c (.b false)))),aM 4 29] [aM 5 41]) .ret
def zW:AFn:=⟨sO [0,1] [aO 4 (.mv (.v (.c (.i .i64 0)))),aO 5 (.mv (.v (.c (.b false))))] (sO [0,1,6,7] [aM 9 0,aO 10 (.len (.t 9)),aO 6 (.mv (.v (.c (.i .i64 0)))),aM 7 10] (.seq [0,1,6] (.block 0 (.loop [0,1,6,7] B1x)) B1y)),[.tmp 4,.tmp 5]⟩
def pV:E2:=D6 227 wL E6
def C2y (n:Nat):KV:=kQ pV n B1y [0,1,6] zW.fin
def C2z (n:Nat):KV:=F6 0 (C2y n)
def fD (n m:Nat) (x0 x1 x6 x7:Val):AtH:=ar pV n B1x [0,1,6,7] (C2z n) m [x0,x1,x6,x7]
def A0l:=rx pV zW
theorem B79 (n:Nat) (a0 a1:Val) (h:A4):A0l n [a0,a1] h=bnd (O0 a0) fun v1=>fD n n a0 a1 (.c (.i .i64 0)) v1 h:=by kernel_rfl
theorem A44 (n m:Nat) (x0 x1 x6 x7:Val) (h:A4):fD n (m+1) x0 x1 x6 x7 h=bnd (B5 .lss x6 x7) fun v2=>cnd v2 (bnd (B5 .sub x7 x6) fun v3=>bnd (B5 .quo v3 (.c (.i .i64 2))) fun v4=>bnd (B5 .add x6 v4) fun v5=>bnd (C4 1 x0 v5) fun v6=>bnd (A7 h v6) fun v7=>bnd (wL [v7,x1] h) fun p8=>cnd p8.1 (bnd (B5 .add v5 (.c (.i .i64 1))) fun v9=>fD n m x0 x1 v9 x7 p8.2) (fD n m x0 x1 x6 v5 p8.2)) (bnd (O0 x0) fun T6=>bnd (B5 .lss x6 T6) fun v11=>bnd (gd v11 true (some (x0,(h++[]))) (some (.no,(h++[])))) fun p12=>bnd (gd v11 true (some (x6,p12.2)) (some (.no,p12.2))) fun p13=>bnd (gd v11 true (bnd (C4 1 p12.1 p13.1) fun cE=>some (cE,p13.2)) (some (.no,p13.2))) fun lU=>bnd (gd v11 true (bnd (A7 h lU.1) fun T7=>some (T7,lU.2)) (some (.no,lU.2))) fun xQ=>bnd (gd v11 true (some (x1,xQ.2)) (some (.no,xQ.2))) fun pB=>bnd (gd v11 true (bnd (B5 .eql xQ.1 pB.1) fun dO=>some (dO,pB.2)) (some (.no,pB.2))) fun gH=>bnd (F0 v11 gH.1 (.c (.b false))) fun v21=>I6 [some x6,some v21] gH.2):=by kernel_rfl
theorem B3c:FnK Tryz.prog 161 zW pV A0l:=.mk2 (B8 B9E C9) Tryz.func161 (by kernel_rfl)
def jU:=tl zW pV
theorem B8q:SOk Tryz.prog 161 jU:=B3c.sok
theorem B3F:G0 A0l jU:=B3c.flat
def B4G:ACode:=.ops [aO 36 (.bin .add (.t 10) (.v (.c (.i .i64 1)))),aM 10 36]
def A6l:ACode:=sO [3,8,9,10,11] [aO 11 (.bin .lss (.t 10) (.t 9))] (.seq [3,8,9,10] (.cond (.t 11) .skip (.exit 0)) (.seq [3,8,9,10] (.block 1 (sO [3,5,8,9,10] [aO 12 (.iAddrL 1 (.t 8) (.t 10)),aL 13 12,aM 5 13] (sO [3,5,6,7,8,9,10] [aM 15 3,aM 16 5,aO 17 (.call 161 [(.t 15),(.t 16)]),aM 14 17,aE 18 14 0,aE 19 14 1,aM 6 18,aM 7 19] (.seq [3,5,6,8,9,10] (sO [3,5,6,8,9,10,20] [aM 20 7] (.cond (.t 20) (.exit 1) .skip)) (sO [3,5,6,8,9,10] [aM 21 3,aO 22 (.buildSl 1 1 ([.s []]) [(0,1,(.v (.c (.s []))))]),aO 23 (.app 1 (.t 21) (.t 22)),aM 3 23] (.seq [3,5,6,8,9,10] (.draw 0 [aM 24 3,aM 25 6,aO 26 (.bin .add (.t 25) (.v (.c (.i .i64 1)))),aO 27 (.slL 1 (.t 24) (some (.t 26)) none),aM 28 3,aM 29 6,aO 30 (.slL 1 (.t 28) (some (.t 29)) none)] [aO 31 (.copy 1 (.t 27) (.t 30))]) (.ops [aM 32 3,aM 33 6,aM 34 5,aO 35 (.iAddrL 1 (.t 32) (.t 33)),aN (.store1 (.t 35) (.t 34))]))))))) B4G))
def B4F:ACode:=sO [2] [aM 37 3,aM 2 37] .ret
def A11:AFn:=⟨sO [0] [aO 2 (.nilrow 1)] (sO [0,3] [aO 3 (.nilrow 1)] (.seq [3] (sO [3,8,9,10] [aM 8 0,aO 9 (.len (.t 8)),aO 10 (.mv (.v (.c (.i .i64 0))))] (.block 0 (.loop [3,8,9,10] A6l))) B4F)),[.tmp 2]⟩
def gR:E2:=D6 161 jU E6
def C4S (n:Nat):KV:=kQ gR n B4F [3] A11.fin
def B4H (n:Nat):KV:=F6 0 (C4S n)
def A0D (n m:Nat) (x3 x8 x9 x10:Val):AtH:=ar gR n A6l [3,8,9,10] (B4H n) m [x3,x8,x9,x10]
def A2n:=rx gR A11
def C4T (n m:Nat):KV:=kL gR n A6l [3,8,9,10] (B4H n) m
def A6m (n m:Nat) (x3 x8 x9 x10:Val):AtH:=aj gR n B4G (C4T n m) [3,8,9,10] [x3,x8,x9,x10]
theorem B9l (n:Nat) (a0:Val) (h:A4):A2n n [a0] h=bnd (O0 a0) fun v1=>A0D n n (.c (.sl (h++[some (Row.mk ([]) true)]).length 0 0 1)) a0 v1 (.c (.i .i64 0)) ((h++[some (Row.mk ([]) true)])++[some (Row.mk ([]) true)]):=by kernel_rfl
theorem A69 (n m:Nat) (x3 x8 x9 x10:Val) (h:A4):A0D n (m+1) x3 x8 x9 x10 h=bnd (B5 .lss x10 x9) fun v2=>cnd v2 (bnd (C4 1 x8 x10) fun v3=>bnd (A7 h v3) fun v4=>bnd (jU [x3,v4] h) fun p5=>bnd (H0 p5.1 0) fun v6=>bnd (H0 p5.1 1) fun v7=>cnd v7 (A6m n m x3 x8 x9 x10 p5.2) (bnd (C7 ([.s []]) [(0,1,.c (.s []))]) fun c8=>bnd (W7 (p5.2++[some (Row.mk (c8) true)]) 1 x3 (.c (.sl p5.2.length 0 1 1))) fun p9=>bnd (B5 .add v6 (.c (.i .i64 1))) fun T6=>bnd (C7g 1 p9.1 (some T6) none) fun v11=>bnd (C7g 1 p9.1 (some v6) none) fun v12=>bnd (B9O (p9.2++[]) 1 v11 v12) fun p13=>bnd (C4 1 p9.1 v6) fun cE=>bnd (D3 p13.2 cE v4) fun h15=>A6m n m p9.1 x8 x9 x10 h15)) (some (x3,h)):=by kernel_rfl
theorem A68 (n m:Nat) (x3 x8 x9 x10:Val) (h:A4):A6m n m x3 x8 x9 x10 h=bnd (B5 .add x10 (.c (.i .i64 1))) fun T7=>A0D n m x3 x8 x9 T7 h:=by kernel_rfl
theorem B60:FnK Tryz.prog 86 A11 gR A2n:=.mk2 (B8 B8q C9) Tryz.func86 (by kernel_rfl)
def wM:=tl A11 gR
theorem B9F:SOk Tryz.prog 86 wM:=B60.sok
theorem B8r:B5h A2n wM:=B60.out
end
end Go.Proofs.YteckncopbicmcaaGreat
namespace Go.Proofs.YteckncopbicmcaaGreat
open Go Go.Esc
def xE (c:UInt8):Bool:=!(decide ((c.toNat:Int)=0)||decide ((c.toNat:Int)=47))
def bG (s:List UInt8):Bool:=!(decide ((s.length:Int)<1)||decide (24<(s.length:Int))||decide (s=[46])||decide (s=[46,46]))&&s.all xE
theorem nO {s:List UInt8} (h:bG s=true):1<=s.length/\s.length<=24:=by
 unfold bG at h;simp at h;omega
theorem B97 (s:List UInt8) (hs:s.length<9223372036854775807) (n:Nat) (h:A4):∀ d i m:Nat,i+d=s.length->d<m ->
  vQ n m (.c (.s s)) (.c (.i .i64 s.length)) (.c (.i .i64 i)) h=some (.c (.i .i64 (bif (s.drop i).all xE then 0 else 3)),h)
 | d,i,0,_,hm=>by omega
 | 0,i,m+1,hi,hm=>by
  have c0:¬ ((i:Int)<s.length):=by omega
  rw [A43,show s.drop i=[] from List.drop_of_length_le (by omega)];simp only [esc,c0,List.all_nil]
 | d+1,i,m+1,hi,hm=>by
  have h1:(i:Int)<s.length:=by omega
  have h2:i<s.length:=by omega
  have ih:=B97 s hs n h d (i+1) m (by omega) (by omega);rw [A43,List.drop_eq_getElem_cons h2,List.all_cons];by_cases c1:(s[i].toNat:Int)=0
  ·have f:xE s[i]=false:=by unfold xE;rw [decide_eq_true c1];rfl
   simp only [esc,h1,B4c h2,c1,f,Bool.false_and]
  ·by_cases c2:(s[i].toNat:Int)=47
   ·have f:xE s[i]=false:=by unfold xE;rw [decide_eq_true c2];simp
    simp only [esc,h1,B4c h2,c1,c2,f,Bool.false_and,Int.reduceEq]
   ·have f:xE s[i]=true:=by unfold xE;rw [decide_eq_false c1,decide_eq_false c2];rfl
    simp only [esc,h1,B4c h2,c1,c2,f,Bool.true_and,E8 (show i+1<9223372036854775808 by omega)];exact ih
theorem B96 {s:List UInt8} (hs:s.length<9223372036854775807) (h:A4):dW [.c (.s s)] h=some (.c (.i .i64 (bif bG s then 0 else 3)),h):=by
 refine B3E (n:=s.length+1) (h2:=ro h) ?_ rfl;rw [B78];have hl:=B97 s hs (s.length+1) (ro h) s.length 0 (s.length+1) (by omega) (by omega);rw [List.drop_zero] at hl;unfold bG;by_cases c1:(s.length:Int)<1
 ·simp only [esc,c1,Bool.true_or,Bool.false_and]
 ·by_cases c2:(24:Int)<s.length
  ·simp only [esc,c1,c2,Bool.true_or,Bool.false_and,Bool.or_true]
  ·by_cases c3:s=[46]
   ·subst c3;simp only [esc];rfl
   ·by_cases c4:s=[46,46]
    ·subst c4;simp only [esc];rfl
    ·simp only [esc,c1,c2,c3,c4,Bool.or_self,Bool.true_and];exact hl
def A2Z (s:List UInt8) (i:Nat):List UInt8:=UInt8.ofNat s.length::(s.take i++zeros (24-i))
def nC (s:List UInt8):List UInt8:=bif bG s then A2Z s s.length else zeros 25
theorem A6s {s:List UInt8} {i:Nat} (hi:i<=s.length) (hs:s.length<=24):(A2Z s i).length=25:=by
 unfold A2Z;rw [List.length_cons,List.length_append,zeros_length,List.length_take];omega
theorem rV {s:List UInt8}:(nC s).length=25:=by
 unfold nC;cases hf:bG s with
 | false=>exact zeros_length
 | true=>exact A6s (Nat.le_refl _) (nO hf).2
theorem C9Y {s:List UInt8} {i:Nat} (hi:i<s.length) (hs:s.length<=24):(A2Z s i).set (1+i) s[i]=A2Z s (i+1):=by
 unfold A2Z;rw [Nat.add_comm 1 i,List.set_cons_succ];refine congrArg (UInt8.ofNat s.length :: ·) ?_;have hlen:(List.take i s).length=i:=by simp;omega
 rw [List.set_append_right _ _ (by omega),hlen,Nat.sub_self,List.take_succ_eq_append_getElem hi,List.append_assoc];refine congrArg (List.take i s ++ ·) ?_;have e:24-i=(24-(i+1))+1:=by omega
 rw [e];unfold zeros;rw [List.replicate_succ,List.set_cons_zero];rfl
theorem C3x (s:List UInt8) (hs:s.length<=24) (h:A4) (c2:List Cell) (l2:c2.length=25) (n:Nat):∀ d i m:Nat,i+d=s.length->d<m ->
  A0C n m (.c (.s s)) (.c (.p h.length 0)) (.c (.p (h.length+1) 0)) (.c (.i .i64 s.length)) (.c (.i .i64 i)) (h++[some ⟨c2,true⟩,some ⟨A5 (A2Z s i),true⟩]) =
   some (.t [.a (A5 (A2Z s s.length)),.c (.i .i64 0)],h++[some ⟨A5 (A2Z s s.length),true⟩,some ⟨A5 (A2Z s s.length),true⟩])
 | d,i,0,_,hm=>by omega
 | 0,i,m+1,hi,hm=>by
  have h1:¬ ((i:Int)<s.length):=by omega
  have e:i=s.length:=by omega
  subst e;have hl:(A5 (A2Z s s.length)).length=25:=by rw [A6];exact A6s (Nat.le_refl _) hs
  rw [A67];simp only [esc,esh,Nat.reduceAdd,Nat.reduceMul,Nat.reduceLT,h1,hl,l2]
 | d+1,i,m+1,hi,hm=>by
  have h1:(i:Int)<s.length:=by omega
  have h3:i<s.length:=by omega
  have hl:(A5 (A2Z s i)).length=25:=by rw [A6];exact A6s (by omega) hs
  have ih:=C3x s hs h c2 l2 n d (i+1) m (by omega) (by omega);have e1:IntKind.wrap .i64 (1+(i:Int))=((1+i:Nat):Int):=by rw [wrap_i64 (by omega) (by omega)];omega
  have ea:D8 25 1 (.c (.p (h.length+1) 0)) (.c (.i .i64 ((1+i:Nat):Int)))=some (.c (.p (h.length+1) (1+i))):=by rw [I7 (by omega)];simp
  have ho:1+i<(A5 (A2Z s i)).length:=by omega
  rw [A67];simp only [esc,esh,Nat.reduceAdd,Nat.reduceMul,Nat.reduceLT,h1,e1,B4c h3,ea,ho,iU,C9Y h3 hs,E8 (show i+1<9223372036854775808 by omega)];exact ih
theorem C8S {s:List UInt8} (hs:s.length<9223372036854775807) (h:A4) :
  iE [.c (.s s)] h=some (.t [.a (A5 (nC s)),.c (.i .i64 (bif bG s then 0 else 3))],h):=by
 have key:∀ g,∃ g',A2m (s.length+1) [.c (.s s)] g=some (.t [.a (A5 (nC s)),.c (.i .i64 (bif bG s then 0 else 3))],g'):=by
  intro g;have hz:=F5 25;have hl:(A5 (zeros 25)).length=25:=by rw [A6];exact zeros_length
  rw [B9k,hz];unfold nC;cases hf:bG s with
  | false =>
   generalize zeros 25=Z at *;exact ⟨_,by simp only [esc,esh,Nat.reduceAdd,Nat.reduceMul,Nat.reduceLT,B96 hs,hf,hl,Int.reduceEq]<;>rfl⟩
  | true =>
   have D6N:=(nO hf).2;have e0:(A5 (zeros 25)).set 0 (.i .u8 (IntKind.wrap .u8 s.length))=A5 (A2Z s 0):=by
    rw [wrap_u8 (by omega) (by omega)];have:((s.length:Nat):Int)=((UInt8.ofNat s.length).toNat:Int):=by rw [UInt8.toNat_ofNat'];omega
    rw [this,iU];rfl
   have:=C3x s D6N g (A5 (zeros 25)) hl (s.length+1) s.length 0 (s.length+1) (by omega) (by omega);rw [<-e0] at this;generalize zeros 25=Z at *;have a0:D8 25 1 (.c (.p (g.length+1) 0)) (.c (.i .i64 0))=some (.c (.p (g.length+1) 0)):=rfl;have ho:0<(A5 Z).length:=by omega
   exact ⟨_,by simp only [esc,esh,Nat.reduceAdd,Nat.reduceMul,Nat.reduceLT,B96 hs,hf,a0,ho];exact this⟩
 obtain ⟨g',e⟩:=key (ro h);exact B5X e (by simp)
def sE (l:List UInt8):Option (List UInt8) :=
 if (l.headD 0).toNat<=24 then
  if bG ((l.drop 1).take (l.headD 0).toNat)=true/\nC ((l.drop 1).take (l.headD 0).toNat)=l then some ((l.drop 1).take (l.headD 0).toNat) else none
 else none
theorem D0m {l:List UInt8} (hl:l.length=25) (h:A4) :
  mN [.a (A5 l)] h=some (.t [.c (.s ((sE l).getD [])),.c (.i .i64 (if (sE l).isSome then 0 else 3))],h):=by
 have key:∀ g,∃ g',uY 0 [.a (A5 l)] g=some (.t [.c (.s ((sE l).getD [])),.c (.i .i64 (if (sE l).isSome then 0 else 3))],g'):=by
  intro g;obtain ⟨x,r,rfl⟩:∃ x r,l=x::r:=by
   cases l with
   | nil=>simp at hl
   | cons x r=>exact ⟨x,r,rfl⟩
  have hx:=x.toNat_lt;rw [B5w];have a0:D8 25 1 (.c (.p g.length 0)) (.c (.i .i64 0))=some (.c (.p g.length 0)):=rfl;have l0:(A5 (x::r))[0]?=some (.i .u8 x.toNat):=rfl;have e1:IntKind.wrap .i64 (x.toNat:Int)=x.toNat:=wrap_i64 (by omega) (by omega);have gI:(A5 (x::r)).length=25:=by rw [A6,hl]
  unfold sE;simp only [List.headD_cons,List.drop_succ_cons,List.drop_zero];by_cases c1:x.toNat<=24
  ·rw [if_pos c1];have c1':¬ (24:Int)<x.toNat:=by omega
   have e2:IntKind.wrap .i64 (1+(x.toNat:Int))=((1+x.toNat:Nat):Int):=by rw [wrap_i64 (by omega) (by omega)];omega
   have e3:=D5c (h:=g) (l:=[some ⟨A5 (x::r),true⟩]) (k:=0) (n:=25) (a:=1) (b:=1+x.toNat) (cs:=A5 (x::r)) rfl gI (by omega) (by omega);rw [Nat.add_zero,show 1+x.toNat-1=x.toNat by omega,show ((1:Nat):Int)=1 from rfl] at e3;have hh:Has (g++[some ⟨A5 (x::r),true⟩]) (.c (.sl g.length 1 x.toNat 1)) 1 x.toNat (A5 (r.take x.toNat)):=Has.part V6 (by omega) (by
    rw [C9n,C9o];simp) (T4 _)
   have hs:(r.take x.toNat).length<9223372036854775807:=by simp;omega
   have hp:=C8S hs (g++[some ⟨A5 (x::r),true⟩]);have hpl:(A5 (nC (r.take x.toNat))).length=25:=by rw [A6,rV]
   have hz:(List.replicate 25 (Cell.i .u8 0)).length=25:=List.length_replicate;have hq:=B9Q (l:=nC (r.take x.toNat)) (m:=x::r) rV hl;generalize List.replicate 25 (Cell.i .u8 0)=z at *;cases hf:bG (r.take x.toNat) with
   | false =>
    rw [hf] at hp;rw [if_neg (by simp)];exact ⟨_,by simp only [esc,esh,Nat.reduceAdd,Nat.reduceMul,Nat.reduceLT,a0,l0,e1,c1',e2,e3,hh.str,hp,hpl,hz,Int.reduceEq,Option.getD_none,Option.isSome_none,Bool.false_eq_true]<;>rfl⟩
   | true =>
    rw [hf] at hp;by_cases c2:nC (r.take x.toNat)=x::r
    ·rw [if_pos ⟨rfl,c2⟩];exact ⟨_,by simp only [esc,esh,Nat.reduceAdd,Nat.reduceMul,Nat.reduceLT,a0,l0,e1,c1',e2,e3,hh.str,hp,hpl,hz,gI,hq,decide_eq_true c2,Int.reduceEq,Option.getD_some,Option.isSome_some,Bool.false_eq_true]<;>rfl⟩
    ·rw [if_neg (fun h=>c2 h.2)];exact ⟨_,by simp only [esc,esh,Nat.reduceAdd,Nat.reduceMul,Nat.reduceLT,a0,l0,e1,c1',e2,e3,hh.str,hp,hpl,hz,gI,hq,decide_eq_false c2,Int.reduceEq,Option.getD_none,Option.isSome_none,Bool.false_eq_true]<;>rfl⟩
  ·rw [if_neg c1];have c1':(24:Int)<x.toNat:=by omega
   exact ⟨_,by simp only [esc,esh,Nat.reduceAdd,Nat.reduceMul,Nat.reduceLT,a0,l0,e1,c1',Option.getD_none,Option.isSome_none,Bool.false_eq_true]<;>rfl⟩
 obtain ⟨g',e⟩:=key (ro h);exact B2c e (by simp)
end Go.Proofs.YteckncopbicmcaaGreat
namespace Go.Proofs.YteckncopbicmcaaGreat
open Go Go.Esc
set_option maxRecDepth 100000
noncomputable section
def A27:AFn:=⟨sO [0] [aO 0 (.alloc (List.replicate 256 (.i .u8 0)))] (sO [0] [aO 1 (.buildSl 1 4 ([.i .u8 0,.i .u8 0,.i .u8 0,.i .u8 0]) [(0,1,(.v (.c (.i .u8 98)))),(1,1,(.v (.c (.i .u8 107)))),(2,1,(.v (.c (.i .u8 116)))),(3,1,(.v (.c (.i .u8 33))))]),aO 2 (.mark (.t 1)),aO 3 (.call 212 [(.t 2)]),aN (.storeN 256 (.t 0) (.t 3))] .ret),[.cellN 0 256]⟩
def A3l:E2:=D6 212 iG E6
def uN:=rx A3l A27
theorem B5k (n:Nat) (h:A4):uN n [] h=bnd (C7 ([.i .u8 0,.i .u8 0,.i .u8 0,.i .u8 0]) [(0,1,.c (.i .u8 98)),(1,1,.c (.i .u8 107)),(2,1,.c (.i .u8 116)),(3,1,.c (.i .u8 33))]) fun c1=>bnd (A2w ((h++[some (Row.mk (List.replicate 256 (.i .u8 0)) true)])++[some (Row.mk (c1) true)]) (.c (.sl (h++[some (Row.mk (List.replicate 256 (.i .u8 0)) true)]).length 0 4 1))) fun v2=>bnd (iG [v2] ((h++[some (Row.mk (List.replicate 256 (.i .u8 0)) true)])++[some (Row.mk (c1) true)])) fun p3=>bnd (B4 p3.2 256 (.c (.p h.length 0)) p3.1) fun h4=>mp (A8 h4 256 (.c (.p h.length 0))) fun v=>(v,h4):=by kernel_rfl
theorem B0D:FnK Tryz.prog 217 A27 A3l uN:=.mk2 (B8 A2v C9) Tryz.func217 (by kernel_rfl)
def mD:=tl A27 A3l
theorem B5D:SOk Tryz.prog 217 mD:=B0D.sok
theorem B1Z:G0 uN mD:=B0D.flat
def A5c:AFn:=⟨sO [1] [aB 1 0,aO 2 (.mv (.v (.c (.b false))))] (sO [2] [aF 3 1 0,aL 4 3,aO 5 (.call 250 [(.t 4)]),aO 6 (.bin .eql (.t 5) (.v (.c (.i .i64 0)))),aM 7 6,aG 8 7 true (.fAddr (.t 1) 1),aG 9 7 true (.load1 (.t 8)),aG 10 7 true (.bin .geq (.t 9) (.v (.c (.i .i64 1)))),aO 11 (.pick (.t 7) (.t 10) (.v (.c (.b false)))),aM 12 11,aG 13 12 true (.fAddr (.t 1) 1),aG 14 12 true (.load1 (.t 13)),aG 15 12 true (.bin .leq (.t 14) (.v (.c (.i .i64 128)))),aO 16 (.pick (.t 12) (.t 15) (.v (.c (.b false)))),aM 2 16] .ret),[.tmp 2]⟩
def A5p:E2:=D6 250 dW E6
def A0a:=rx A5p A5c
theorem B7V (n:Nat) (a0:Val) (h:A4):A0a n [a0] h=bnd (cells? a0) fun c1=>bnd (A9 (.c (.p h.length 0)) 0) fun v2=>bnd (A7 (h++[some (Row.mk (c1) true)]) v2) fun v3=>bnd (dW [v3] (h++[some (Row.mk (c1) true)])) fun p4=>bnd (B5 .eql p4.1 (.c (.i .i64 0))) fun v5=>bnd (gd v5 true (bnd (A9 (.c (.p h.length 0)) 1) fun v6=>some (v6,p4.2)) (some (.no,p4.2))) fun p7=>bnd (gd v5 true (bnd (A7 p7.2 p7.1) fun v8=>some (v8,p7.2)) (some (.no,p7.2))) fun p9=>bnd (gd v5 true (bnd (B5 .geq p9.1 (.c (.i .i64 1))) fun T6=>some (T6,p9.2)) (some (.no,p9.2))) fun p11=>bnd (F0 v5 p11.1 (.c (.b false))) fun v12=>bnd (gd v12 true (bnd (A9 (.c (.p h.length 0)) 1) fun v13=>some (v13,p11.2)) (some (.no,p11.2))) fun dG=>bnd (gd v12 true (bnd (A7 dG.2 dG.1) fun dE=>some (dE,dG.2)) (some (.no,dG.2))) fun sF=>bnd (gd v12 true (bnd (B5 .leq sF.1 (.c (.i .i64 128))) fun W3=>some (W3,sF.2)) (some (.no,sF.2))) fun pB=>bnd (F0 v12 pB.1 (.c (.b false))) fun dO=>some (dO,pB.2):=by kernel_rfl
theorem B2Y:FnK Tryz.prog 218 A5c A5p A0a:=.mk2 (B8 A6O C9) Tryz.func218 (by kernel_rfl)
def W5:=tl A5c A5p
theorem yH:SOk Tryz.prog 218 W5:=B2Y.sok
theorem B3r:G0 A0a W5:=B2Y.flat
def A0O:AFn:=⟨sO [0] [aO 2 (.mv (.v (.c (.i .i64 0))))] (sO [2] [aM 3 0,aO 4 (.bin .add (.t 3) (.v (.c (.i .i64 1)))),aO 5 (.bin .mul (.v (.c (.i .i64 32))) (.t 4)),aM 2 5] .ret),[.tmp 2]⟩
def A0S:E2:=E6
def pZ:=rx A0S A0O
theorem B3f (n:Nat) (a0:Val) (h:A4):pZ n [a0] h=bnd (B5 .add a0 (.c (.i .i64 1))) fun v1=>bnd (B5 .mul (.c (.i .i64 32)) v1) fun v2=>some (v2,h):=by kernel_rfl
theorem A7X:FnK Tryz.prog 219 A0O A0S pZ:=.mk2 C9 Tryz.func219 (by kernel_rfl)
def L6:=tl A0O A0S
theorem qL:SOk Tryz.prog 219 L6:=A7X.sok
theorem A99:G0 pZ L6:=A7X.flat
def tC:AFn:=⟨sO [1] [aB 1 0,aO 2 (.nilrow 1)] (sO [1,3] [aF 6 1 1,aL 7 6,aO 8 (.conv .u8 (.t 7)),aF 9 1 1,aL 10 9,aO 11 (.bin .shr (.t 10) (.v (.c (.i .u64 8)))),aO 12 (.conv .u8 (.t 11)),aO 13 (.buildSl 1 2 ([.i .u8 0,.i .u8 0]) [(0,1,(.t 8)),(1,1,(.t 12))]),aM 3 13] (sO [3,4] [aF 15 1 0,aL 16 15,aO 17 (.call 251 [(.t 16)]),aM 14 17,aE 18 14 0,aE 19 14 1,aO 4 (.alloc (List.replicate 25 (.i .u8 0))),aN (.storeN 25 (.t 4) (.t 18)),aM 5 19] (sO [3] [aM 20 3,aO 21 (.slA 25 1 (.t 4) none none),aO 22 (.app 1 (.t 20) (.t 21)),aM 3 22] (sO [2] [aM 23 3,aO 24 (.buildSl 1 5 ([.i .u8 0,.i .u8 0,.i .u8 0,.i .u8 0,.i .u8 0]) [(0,1,(.v (.c (.i .u8 0)))),(1,1,(.v (.c (.i .u8 0)))),(2,1,(.v (.c (.i .u8 0)))),(3,1,(.v (.c (.i .u8 0)))),(4,1,(.v (.c (.i .u8 0))))]),aO 25 (.app 1 (.t 23) (.t 24)),aM 2 25] .ret)))),[.tmp 2]⟩
def tH:E2:=D6 251 iE E6
def jO:=rx tH tC
theorem A94 (n:Nat) (a0:Val) (h:A4):jO n [a0] h=bnd (cells? a0) fun c1=>bnd (A9 (.c (.p h.length 0)) 1) fun v2=>bnd (A7 ((h++[some (Row.mk (c1) true)])++[some (Row.mk ([]) true)]) v2) fun v3=>bnd (dJ .u8 v3) fun v4=>bnd (A9 (.c (.p h.length 0)) 1) fun v5=>bnd (A7 ((h++[some (Row.mk (c1) true)])++[some (Row.mk ([]) true)]) v5) fun v6=>bnd (B5 .shr v6 (.c (.i .u64 8))) fun v7=>bnd (dJ .u8 v7) fun v8=>bnd (C7 ([.i .u8 0,.i .u8 0]) [(0,1,v4),(1,1,v8)]) fun c9=>bnd (A9 (.c (.p h.length 0)) 0) fun T6=>bnd (A7 (((h++[some (Row.mk (c1) true)])++[some (Row.mk ([]) true)])++[some (Row.mk (c9) true)]) T6) fun v11=>bnd (iE [v11] (((h++[some (Row.mk (c1) true)])++[some (Row.mk ([]) true)])++[some (Row.mk (c9) true)])) fun p12=>bnd (H0 p12.1 0) fun v13=>bnd (H0 p12.1 1) fun cE=>bnd (B4 (p12.2++[some (Row.mk (List.replicate 25 (.i .u8 0)) true)]) 25 (.c (.p p12.2.length 0)) v13) fun h15=>bnd (B8u h15 25 1 (.c (.p p12.2.length 0)) none none) fun T7=>bnd (W7 h15 1 (.c (.sl ((h++[some (Row.mk (c1) true)])++[some (Row.mk ([]) true)]).length 0 2 1)) T7) fun xQ=>bnd (C7 ([.i .u8 0,.i .u8 0,.i .u8 0,.i .u8 0,.i .u8 0]) [(0,1,.c (.i .u8 0)),(1,1,.c (.i .u8 0)),(2,1,.c (.i .u8 0)),(3,1,.c (.i .u8 0)),(4,1,.c (.i .u8 0))]) fun c18=>bnd (W7 (xQ.2++[some (Row.mk (c18) true)]) 1 xQ.1 (.c (.sl xQ.2.length 0 5 1))) fun oY=>some (oY.1,oY.2):=by kernel_rfl
theorem A4d:FnK Tryz.prog 220 tC tH jO:=.mk2 (B8 A8q C9) Tryz.func220 (by kernel_rfl)
def M4:=tl tC tH
theorem lC:SOk Tryz.prog 220 M4:=A4d.sok
theorem A8c:B5h jO M4:=A4d.out
def A8D:ACode:=sO [1,2,4,6,11,12] [aO 12 (.bin .lss (.t 11) (.v (.c (.i .i64 25))))] (.seq [1,2,4,6,11] (.cond (.t 12) .skip (.exit 0)) (.seq [1,2,4,6,11] (.block 1 (sO [1,2,4,6,7,11] [aM 13 11,aM 7 13] (.ops [aM 14 7,aM 15 1,aO 16 (.call 219 [(.t 15)]),aO 17 (.bin .add (.t 16) (.v (.c (.i .i64 2)))),aM 18 7,aO 19 (.bin .add (.t 17) (.t 18)),aO 20 (.iAddrA 256 1 (.t 2) (.t 19)),aL 21 20,aO 22 (.iAddrA 25 1 (.t 6) (.t 14)),aN (.store1 (.t 22) (.t 21))]))) (.ops [aO 23 (.bin .add (.t 11) (.v (.c (.i .i64 1)))),aM 11 23])))
def A8E:ACode:=sO [1,2,4,8,9] [aL' 25 25 6,aO 26 (.call 253 [(.t 25)]),aM 24 26,aE 27 24 0,aE 28 24 1,aM 8 27,aM 9 28] (.seq [1,2,4,9,10] (.draw 1 [aM 29 8,aL' 30 256 2,aM 31 1,aO 32 (.call 219 [(.t 31)]),aO 33 (.call 142 [(.t 30),(.t 32),(.v (.c (.i .i64 2)))]),aO 34 (.build ([.s [],.i .i64 0]) [(0,1,(.t 29)),(1,1,(.t 33))]),aS 10 0 (.alloc ([.s [],.i .i64 0]))] [aN (.storeN 2 (.t 10) (.t 34))]) (.seq [4,10] (.seq [4,10,52] (.draw 0 [aM 35 9,aO 36 (.bin .neq (.t 35) (.v (.c (.i .i64 0)))),aM 37 36,aG 38 37 false (.loadN 2 (.t 10)),aG 39 37 false (.call 218 [(.t 38)]),aG 40 37 false (.un .not (.t 39)),aO 41 (.pick (.t 37) (.v (.c (.b true))) (.t 40)),aM 42 41,aG 43 42 false (.loadN 2 (.t 10)),aG 44 42 false (.call 220 [(.t 43)]),aG 45 42 false (.b2sN none (.t 44)),aG 46 42 false (.loadN 256 (.t 2)),gM 47 42 false 1,aG 48 42 false (.call 219 [(.t 47)]),aG 49 42 false (.call 141 [(.t 46),(.t 48),(.v (.c (.i .i64 32)))]),aG 50 42 false (.b2sN none (.t 49))] [aG 51 42 false (.bin .neq (.t 45) (.t 50)),aO 52 (.pick (.t 42) (.v (.c (.b true))) (.t 51))]) (.cond (.t 52) (sO [4,5] [aO 53 (.build ([.s [],.i .i64 0]) []),aN (.storeN 2 (.t 4) (.t 53)),aO 5 (.mv (.v (.c (.b false))))] .ret) .skip)) (sO [4,5] [aL' 54 2 10,aN (.storeN 2 (.t 4) (.t 54)),aO 5 (.mv (.v (.c (.b true))))] .ret)))
def uG:AFn:=⟨sO [1,2,4] [aB 2 0,aO 4 (.alloc ([.s [],.i .i64 0])),aO 5 (.mv (.v (.c (.b false))))] (sO [1,2,4,6] [aO 6 (.alloc (List.replicate 25 (.i .u8 0)))] (.seq [1,2,4,6] (sO [1,2,4,6,11] [aO 11 (.mv (.v (.c (.i .i64 0))))] (.block 0 (.loop [1,2,4,6,11] A8D))) A8E)),[.cellN 4 2,.tmp 5]⟩
def lY:E2:=D6 219 L6 (D6 253 mN (D6 142 N5 (D6 218 W5 (D6 220 M4 (D6 141 jV E6)))))
def B92 (n:Nat):KV:=kQ lY n A8E [1,2,4,6] uG.fin
def B93 (n:Nat):KV:=F6 0 (B92 n)
def qZ (n m:Nat) (x1 x2 x4 x6 x11:Val):AtH:=ar lY n A8D [1,2,4,6,11] (B93 n) m [x1,x2,x4,x6,x11]
def uP:=rx lY uG
theorem B5m (n:Nat) (a0 a1:Val) (h:A4):uP n [a0,a1] h=bnd (cells? a0) fun c1=>qZ n n a1 (.c (.p h.length 0)) (.c (.p (h++[some (Row.mk (c1) true)]).length 0)) (.c (.p ((h++[some (Row.mk (c1) true)])++[some (Row.mk ([.s [],.i .i64 0]) true)]).length 0)) (.c (.i .i64 0)) (((h++[some (Row.mk (c1) true)])++[some (Row.mk ([.s [],.i .i64 0]) true)])++[some (Row.mk (List.replicate 25 (.i .u8 0)) true)]):=by kernel_rfl
theorem A2y (n m:Nat) (x1 x2 x4 x6 x11:Val) (h:A4):qZ n (m+1) x1 x2 x4 x6 x11 h=bnd (B5 .lss x11 (.c (.i .i64 25))) fun v2=>cnd v2 (bnd (L6 [x1] h) fun p3=>bnd (B5 .add p3.1 (.c (.i .i64 2))) fun v4=>bnd (B5 .add v4 x11) fun v5=>bnd (D8 256 1 x2 v5) fun v6=>bnd (A7 p3.2 v6) fun v7=>bnd (D8 25 1 x6 x11) fun v8=>bnd (D3 p3.2 v8 v7) fun h9=>bnd (B5 .add x11 (.c (.i .i64 1))) fun T6=>qZ n m x1 x2 x4 x6 T6 h9) (bnd (A8 h 25 x6) fun v11=>bnd (mN [v11] h) fun p12=>bnd (H0 p12.1 0) fun v13=>bnd (H0 p12.1 1) fun cE=>bnd (A8 p12.2 256 x2) fun dE=>bnd (quiet (p12.2++[none]) (L6 [x1] (p12.2++[none]))) fun sF=>bnd (quiet sF.2 (N5 [dE,sF.1,.c (.i .i64 2)] sF.2)) fun xQ=>bnd (C7 ([.s [],.i .i64 0]) [(0,1,v13),(1,1,xQ.1)]) fun c18=>bnd (B4 (xQ.2.set (p12.2.length+0) (some (Row.mk ([.s [],.i .i64 0]) true))) 2 (.c (.p (p12.2.length+0) 0)) (.a c18)) fun h19=>bnd (B5 .neq cE (.c (.i .i64 0))) fun jN=>bnd (gd jN false (bnd (A8 h19 2 (.c (.p (p12.2.length+0) 0))) fun v21=>some (v21,(h19++[]))) (some (.no,(h19++[])))) fun p22=>bnd (gd jN false (bnd (quiet p22.2 (W5 [p22.1] p22.2)) fun p23=>some (p23.1,p23.2)) (some (.no,p22.2))) fun fU=>bnd (gd jN false (bnd (aun .not fU.1) fun v25=>some (v25,fU.2)) (some (.no,fU.2))) fun p26=>bnd (F0 jN (.c (.b true)) p26.1) fun v27=>bnd (gd v27 false (bnd (A8 h19 2 (.c (.p (p12.2.length+0) 0))) fun v28=>some (v28,p26.2)) (some (.no,p26.2))) fun p29=>bnd (gd v27 false (bnd (quiet p29.2 (M4 [p29.1] p29.2)) fun p30=>some (p30.1,p30.2)) (some (.no,p29.2))) fun p31=>bnd (gd v27 false (bnd (A8w p31.2 p31.1) fun v32=>some (v32,p31.2)) (some (.no,p31.2))) fun p33=>bnd (gd v27 false (bnd (A8 h19 256 x2) fun v34=>some (v34,p33.2)) (some (.no,p33.2))) fun p35=>bnd (gd v27 false (some (x1,p35.2)) (some (.no,p35.2))) fun p36=>bnd (gd v27 false (bnd (quiet p36.2 (L6 [p36.1] p36.2)) fun p37=>some (p37.1,p37.2)) (some (.no,p36.2))) fun p38=>bnd (gd v27 false (bnd (quiet p38.2 (jV [p35.1,p38.1,.c (.i .i64 32)] p38.2)) fun p39=>some (p39.1,p39.2)) (some (.no,p38.2))) fun p40=>bnd (gd v27 false (bnd (A8w p40.2 p40.1) fun v41=>some (v41,p40.2)) (some (.no,p40.2))) fun p42=>bnd (gd v27 false (bnd (B5 .neq p33.1 p42.1) fun v43=>some (v43,p42.2)) (some (.no,p42.2))) fun p44=>bnd (F0 v27 (.c (.b true)) p44.1) fun v45=>cnd v45 (bnd (C7 ([.s [],.i .i64 0]) []) fun c46=>bnd (B4 p44.2 2 x4 (.a c46)) fun h47=>I6 [A8 h47 2 x4,some (.c (.b false))] h47) (bnd (A8 p44.2 2 (.c (.p (p12.2.length+0) 0))) fun v48=>bnd (B4 p44.2 2 x4 v48) fun h49=>I6 [A8 h49 2 x4,some (.c (.b true))] h49)):=by kernel_rfl
theorem B0F:FnK Tryz.prog 224 uG lY uP:=.mk2 (B8 qL (B8 B5Y (B8 wN (B8 yH (B8 lC (B8 A5N C9)))))) Tryz.func224 (by kernel_rfl)
def bS:=tl uG lY
theorem A4n:SOk Tryz.prog 224 bS:=B0F.sok
theorem B10:G0 uP bS:=B0F.flat
def A4E:ACode:=sO [5] [aL 12 3,aO 13 (.un .not (.t 12)),aM 5 13] .ret
def nG:AFn:=⟨sO [1,2,3,4] [aB 4 0,aO 5 (.mv (.v (.c (.b false))))] (.seq [3] (sO [2,3,4,10] [aF 6 4 1,aF 7 6 0,aL 8 7,aL 9 1,aO 10 (.bin .eql (.t 8) (.t 9))] (.cond (.t 10) (.ops [aL' 11 3 4,aN (.storeN 3 (.t 2) (.t 11)),aN (.store1 (.t 3) (.v (.c (.b true))))]) .skip)) A4E),[.tmp 5]⟩
def nJ:E2:=E6
def tS (n:Nat) (x3:Val):AtH:=aj nJ n A4E nG.fin [3] [x3]
def yE:=rx nJ nG
theorem A01 (n:Nat) (a0 a1 a2 a3:Val) (h:A4):yE n [a0,a1,a2,a3] h=bnd (cells? a0) fun c1=>bnd (A9 (.c (.p h.length 0)) 1) fun v2=>bnd (A9 v2 0) fun v3=>bnd (A7 (h++[some (Row.mk (c1) true)]) v3) fun v4=>bnd (A7 (h++[some (Row.mk (c1) true)]) a1) fun v5=>bnd (B5 .eql v4 v5) fun v6=>cnd v6 (bnd (A8 (h++[some (Row.mk (c1) true)]) 3 (.c (.p h.length 0))) fun v7=>bnd (B4 (h++[some (Row.mk (c1) true)]) 3 a2 v7) fun h8=>bnd (D3 h8 a3 (.c (.b true))) fun h9=>tS n a3 h9) (tS n a3 (h++[some (Row.mk (c1) true)])):=by kernel_rfl
theorem yU (n:Nat) (x3:Val) (h:A4):tS n x3 h=bnd (A7 h x3) fun T6=>bnd (aun .not T6) fun v11=>some (v11,h):=by kernel_rfl
theorem A6E:FnK Tryz.prog 153 nG nJ yE:=.mk2 C9 Tryz.func153 (by kernel_rfl)
def aP:=Lim nG nJ
theorem B1W:SOk Tryz.prog 153 aP:=A6E.ok
theorem A06:OfT yE aP:=A6E.of
def qX:ACode:=sO [1,2,7,8] [aO 8 (.bin .lss (.t 7) (.v (.c (.i .i64 7))))] (.seq [1,2,7] (.cond (.t 8) .skip (.exit 0)) (.seq [1,2,7] (.block 1 (sO [1,2,4,7] [aM 9 7,aM 4 9] (sO [1,2,4,5,6,7] [aL' 11 256 2,aM 12 4,aO 13 (.call 224 [(.t 11),(.t 12)]),aM 10 13,aE 14 10 0,aE 15 10 1,aO 5 (.alloc ([.s [],.i .i64 0])),aN (.storeN 2 (.t 5) (.t 14)),aM 6 15] (sO [1,2,7,24] [aM 16 6,aM 17 16,gM 18 17 true 1,gM 19 17 true 4,aG 20 17 true (.loadN 2 (.t 5)),aG 21 17 true (.build ([.i .i64 0,.s [],.i .i64 0]) [(0,1,(.t 19)),(1,2,(.t 20))]),aG 22 17 true (.callV (.t 18) [(.t 21)]),aG 23 17 true (.un .not (.t 22)),aO 24 (.pick (.t 17) (.t 23) (.v (.c (.b false))))] (.cond (.t 24) .ret .skip))))) (.ops [aO 25 (.bin .add (.t 7) (.v (.c (.i .i64 1)))),aM 7 25])))
def Z7:AFn:=⟨sO [1,2] [aB 2 0] (sO [1,2,7] [aO 7 (.mv (.v (.c (.i .i64 0))))] (.block 0 (.loop [1,2,7] qX))),[]⟩
def N1:E2:=D6 224 bS (D6 153 aP E6)
def A5T (n:Nat):KV:=F6 0 Z7.fin
def W8 (n m:Nat) (x1 x2 x7:Val):AtH:=ar N1 n qX [1,2,7] (A5T n) m [x1,x2,x7]
def fF:=rx N1 Z7
theorem A3y (n:Nat) (a0 a1:Val) (h:A4):fF n [a0,a1] h=bnd (cells? a0) fun c1=>W8 n n a1 (.c (.p h.length 0)) (.c (.i .i64 0)) (h++[some (Row.mk (c1) true)]):=by kernel_rfl
theorem kP (n m:Nat) (x1 x2 x7:Val) (h:A4):W8 n (m+1) x1 x2 x7 h=bnd (B5 .lss x7 (.c (.i .i64 7))) fun v2=>cnd v2 (bnd (A8 h 256 x2) fun v3=>bnd (bS [v3,x7] h) fun p4=>bnd (H0 p4.1 0) fun v5=>bnd (H0 p4.1 1) fun v6=>bnd (B4 (p4.2++[some (Row.mk ([.s [],.i .i64 0]) true)]) 2 (.c (.p p4.2.length 0)) v5) fun h7=>bnd (gd v6 true (some (x1,h7)) (some (.no,h7))) fun p8=>bnd (gd v6 true (some (x7,p8.2)) (some (.no,p8.2))) fun p9=>bnd (gd v6 true (bnd (A8 p9.2 2 (.c (.p p4.2.length 0))) fun T6=>some (T6,p9.2)) (some (.no,p9.2))) fun p11=>bnd (gd v6 true (bnd (C7 ([.i .i64 0,.s [],.i .i64 0]) [(0,1,p9.1),(1,2,p11.1)]) fun c12=>some ((.a c12),p11.2)) (some (.no,p11.2))) fun p13=>bnd (gd v6 true (bnd (oJ N1 p8.1 [p13.1] p13.2) fun dG=>some (dG.1,dG.2)) (some (.no,p13.2))) fun lU=>bnd (gd v6 true (bnd (aun .not lU.1) fun T7=>some (T7,lU.2)) (some (.no,lU.2))) fun xQ=>bnd (F0 v6 xQ.1 (.c (.b false))) fun dN=>cnd dN (I6 [] xQ.2) (bnd (B5 .add x7 (.c (.i .i64 1))) fun dO=>W8 n m x1 x2 dO xQ.2)) (I6 [] h):=by kernel_rfl
theorem sJ:FnK Tryz.prog 152 Z7 N1 fF:=.mk2 (B8 A4n (B8 B1W C9)) Tryz.func152 (by kernel_rfl)
def Q6:=Lim Z7 N1
theorem A3F:SOk Tryz.prog 152 Q6:=sJ.ok
theorem A3E:OfT fF Q6:=sJ.of
def A25:AFn:=⟨sO [2,3,4] [aB 2 0,aB 3 1,aO 4 (.alloc ([.i .i64 0,.s [],.i .i64 0])),aO 5 (.mv (.v (.c (.b false))))] (sO [2,3,4,6] [aO 6 (.alloc ([.i .i64 0,.s [],.i .i64 0]))] (sO [2,3,4,6,7] [aO 7 (.alloc ([.b false])),aN (.store1 (.t 7) (.v (.c (.b false))))] (sO [4,6,7] [aL' 8 256 2,aO 9 (.mkf 153 [(.t 3),(.t 6),(.t 7)]),aO 10 (.call 152 [(.t 8),(.t 9)])] (.seq [4,5] (.drawS 0 [aL' 11 3 6,aL 12 7] (aN (.storeN 3 (.t 4) (.t 11))) [(12,.load1 (.t 7))] [aM 5 12]) .ret)))),[.cellN 4 3,.tmp 5]⟩
def A3j:E2:=D6 152 Q6 E6
def uM:=rx A3j A25
theorem B5i (n:Nat) (a0 a1:Val) (h:A4):uM n [a0,a1] h=bnd (cells? a0) fun c1=>bnd (cells? a1) fun c2=>bnd (D3 (((((h++[some (Row.mk (c1) true)])++[some (Row.mk (c2) true)])++[some (Row.mk ([.i .i64 0,.s [],.i .i64 0]) true)])++[some (Row.mk ([.i .i64 0,.s [],.i .i64 0]) true)])++[some (Row.mk ([.b false]) true)]) (.c (.p ((((h++[some (Row.mk (c1) true)])++[some (Row.mk (c2) true)])++[some (Row.mk ([.i .i64 0,.s [],.i .i64 0]) true)])++[some (Row.mk ([.i .i64 0,.s [],.i .i64 0]) true)]).length 0)) (.c (.b false))) fun h3=>bnd (A8 h3 256 (.c (.p h.length 0))) fun v4=>bnd (A5Q 153 [(.c (.p (h++[some (Row.mk (c1) true)]).length 0)),(.c (.p (((h++[some (Row.mk (c1) true)])++[some (Row.mk (c2) true)])++[some (Row.mk ([.i .i64 0,.s [],.i .i64 0]) true)]).length 0)),(.c (.p ((((h++[some (Row.mk (c1) true)])++[some (Row.mk (c2) true)])++[some (Row.mk ([.i .i64 0,.s [],.i .i64 0]) true)])++[some (Row.mk ([.i .i64 0,.s [],.i .i64 0]) true)]).length 0))]) fun v5=>bnd (Q6 [v4,v5] h3) fun p6=>bnd (A8 p6.2 3 (.c (.p (((h++[some (Row.mk (c1) true)])++[some (Row.mk (c2) true)])++[some (Row.mk ([.i .i64 0,.s [],.i .i64 0]) true)]).length 0))) fun v7=>bnd (A7 p6.2 (.c (.p ((((h++[some (Row.mk (c1) true)])++[some (Row.mk (c2) true)])++[some (Row.mk ([.i .i64 0,.s [],.i .i64 0]) true)])++[some (Row.mk ([.i .i64 0,.s [],.i .i64 0]) true)]).length 0))) fun v8=>bnd (B4 (p6.2++[]) 3 (.c (.p ((h++[some (Row.mk (c1) true)])++[some (Row.mk (c2) true)]).length 0)) v7) fun h9=>agn (A7 h9 (.c (.p ((((h++[some (Row.mk (c1) true)])++[some (Row.mk (c2) true)])++[some (Row.mk ([.i .i64 0,.s [],.i .i64 0]) true)])++[some (Row.mk ([.i .i64 0,.s [],.i .i64 0]) true)]).length 0))) v8 <| I6 [A8 h9 3 (.c (.p ((h++[some (Row.mk (c1) true)])++[some (Row.mk (c2) true)]).length 0)),some v8] h9:=by kernel_rfl
theorem B0C:FnK Tryz.prog 73 A25 A3j uM:=.mk2 (B8 A3F C9) Tryz.func73 (by kernel_rfl)
def bR:=tl A25 A3j
theorem A4l:SOk Tryz.prog 73 bR:=B0C.sok
theorem B1X:G0 uM bR:=B0C.flat
def B00:ACode:=sO [0,2,4,16,17,18,19] [aO 19 (.bin .lss (.t 18) (.t 17))] (.seq [0,2,4,16,17,18] (.cond (.t 19) .skip (.exit 0)) (.seq [0,2,4,16,17,18] (.block 1 (sO [0,2,4,5,6,16,17,18] [aM 20 18,aO 21 (.iAddrL 2 (.t 16) (.t 18)),aL' 22 2 21,aO 6 (.alloc ([.s [],.i .i64 0])),aM 5 20,aN (.storeN 2 (.t 6) (.t 22))] (.seq [0,2,4,5,6,16,17,18] (sO [0,2,4,5,6,16,17,18,25] [aL' 23 2 6,aO 24 (.call 218 [(.t 23)]),aO 25 (.un .not (.t 24))] (.cond (.t 25) (sO [2,3] [aO 26 (.build (List.replicate 256 (.i .u8 0)) []),aN (.storeN 256 (.t 2) (.t 26)),aO 3 (.mv (.v (.c (.i .i64 1))))] .ret) .skip)) (.draw 0 [aL' 27 256 4,aM 28 5,aO 29 (.call 219 [(.t 28)]),aL' 30 2 6,aO 31 (.call 220 [(.t 30)])] [aO 32 (.call 215 [(.t 27),(.t 29),(.t 31)]),aN (.storeN 256 (.t 4) (.t 32))])))) (.ops [aO 33 (.bin .add (.t 18) (.v (.c (.i .i64 1)))),aM 18 33])))
def B02:ACode:=sO [2,4,34,35,36,37] [aO 37 (.bin .lss (.t 36) (.t 35))] (.seq [2,4,34,35,36] (.cond (.t 37) .skip (.exit 2)) (.seq [2,4,34,35,36] (.block 3 (sO [2,4,7,8,34,35,36] [aM 38 36,aO 39 (.iAddrL 2 (.t 34) (.t 36)),aL' 40 2 39,aO 8 (.alloc ([.s [],.i .i64 0])),aM 7 38,aN (.storeN 2 (.t 8) (.t 40))] (sO [2,4,7,9,34,35,36] [aL' 42 256 4,aF 43 8 0,aL 44 43,aO 45 (.call 73 [(.t 42),(.t 44)]),aM 41 45,aE 46 41 0,aE 47 41 1,aO 9 (.alloc ([.i .i64 0,.s [],.i .i64 0])),aN (.storeN 3 (.t 9) (.t 46)),aM 10 47] (sO [2,4,34,35,36,51] [aF 48 9 0,aL 49 48,aM 50 7,aO 51 (.bin .neq (.t 49) (.t 50))] (.cond (.t 51) (sO [2,3] [aO 52 (.build (List.replicate 256 (.i .u8 0)) []),aN (.storeN 256 (.t 2) (.t 52)),aO 3 (.mv (.v (.c (.i .i64 5))))] .ret) .skip))))) (.ops [aO 53 (.bin .add (.t 36) (.v (.c (.i .i64 1)))),aM 36 53])))
def B03:ACode:=sO [2,3] [aL' 54 256 4,aN (.storeN 256 (.t 2) (.t 54)),aO 3 (.mv (.v (.c (.i .i64 0))))] .ret
def B01:ACode:=.seq [2,4] (sO [2,4,34,35,36] [aM 34 0,aO 35 (.len (.t 34)),aO 36 (.mv (.v (.c (.i .i64 0))))] (.block 2 (.loop [2,4,34,35,36] B02))) B03
def pD:AFn:=⟨sO [0,2] [aO 2 (.alloc (List.replicate 256 (.i .u8 0))),aO 3 (.mv (.v (.c (.i .i64 0))))] (.seq [0,2] (sO [0,2,13] [aM 11 0,aO 12 (.len (.t 11)),aO 13 (.bin .gtr (.t 12) (.v (.c (.i .i64 7))))] (.cond (.t 13) (sO [2,3] [aO 14 (.build (List.replicate 256 (.i .u8 0)) []),aN (.storeN 256 (.t 2) (.t 14)),aO 3 (.mv (.v (.c (.i .i64 11))))] .ret) .skip)) (sO [0,2,4] [aO 15 (.call 217 []),aO 4 (.alloc (List.replicate 256 (.i .u8 0))),aN (.storeN 256 (.t 4) (.t 15))] (.seq [0,2,4] (sO [0,2,4,16,17,18] [aM 16 0,aO 17 (.len (.t 16)),aO 18 (.mv (.v (.c (.i .i64 0))))] (.block 0 (.loop [0,2,4,16,17,18] B00))) B01))),[.cellN 2 256,.tmp 3]⟩
def dP:E2:=D6 217 mD (D6 218 W5 (D6 219 L6 (D6 220 M4 (D6 215 jW (D6 73 bR E6)))))
def C1W (n:Nat):KV:=kQ dP n B01 [0,2,4] pD.fin
def C1X (n:Nat):KV:=F6 0 (C1W n)
def vE (n m:Nat) (x0 x2 x4 x16 x17 x18:Val):AtH:=ar dP n B00 [0,2,4,16,17,18] (C1X n) m [x0,x2,x4,x16,x17,x18]
def zY:=rx dP pD
def C1Y (n:Nat):KV:=kQ dP n B03 [2,4] pD.fin
def C1Z (n:Nat):KV:=F6 2 (C1Y n)
def vF (n m:Nat) (x2 x4 x34 x35 x36:Val):AtH:=ar dP n B02 [2,4,34,35,36] (C1Z n) m [x2,x4,x34,x35,x36]
theorem B7T (n:Nat) (a0:Val) (h:A4):zY n [a0] h=bnd (O0 a0) fun v1=>bnd (B5 .gtr v1 (.c (.i .i64 7))) fun v2=>cnd v2 (bnd (C7 (List.replicate 256 (.i .u8 0)) []) fun c3=>bnd (B4 (h++[some (Row.mk (List.replicate 256 (.i .u8 0)) true)]) 256 (.c (.p h.length 0)) (.a c3)) fun h4=>I6 [A8 h4 256 (.c (.p h.length 0)),some (.c (.i .i64 11))] h4) (bnd (mD [] (h++[some (Row.mk (List.replicate 256 (.i .u8 0)) true)])) fun p5=>bnd (B4 (p5.2++[some (Row.mk (List.replicate 256 (.i .u8 0)) true)]) 256 (.c (.p p5.2.length 0)) p5.1) fun h6=>bnd (O0 a0) fun v7=>vE n n a0 (.c (.p h.length 0)) (.c (.p p5.2.length 0)) a0 v7 (.c (.i .i64 0)) h6):=by kernel_rfl
theorem A4F (n m:Nat) (x0 x2 x4 x16 x17 x18:Val) (h:A4):vE n (m+1) x0 x2 x4 x16 x17 x18 h=bnd (B5 .lss x18 x17) fun v8=>cnd v8 (bnd (C4 2 x16 x18) fun v9=>bnd (A8 h 2 v9) fun T6=>bnd (B4 (h++[some (Row.mk ([.s [],.i .i64 0]) true)]) 2 (.c (.p h.length 0)) T6) fun h11=>bnd (A8 h11 2 (.c (.p h.length 0))) fun v12=>bnd (W5 [v12] h11) fun p13=>bnd (aun .not p13.1) fun cE=>cnd cE (bnd (C7 (List.replicate 256 (.i .u8 0)) []) fun c15=>bnd (B4 p13.2 256 x2 (.a c15)) fun h16=>I6 [A8 h16 256 x2,some (.c (.i .i64 1))] h16) (bnd (A8 p13.2 256 x4) fun W3=>bnd (quiet (p13.2++[]) (L6 [x18] (p13.2++[]))) fun pB=>bnd (A8 p13.2 2 (.c (.p h.length 0))) fun dO=>bnd (quiet pB.2 (M4 [dO] pB.2)) fun gH=>bnd (jW [W3,pB.1,gH.1] gH.2) fun p21=>bnd (B4 p21.2 256 x4 p21.1) fun h22=>bnd (B5 .add x18 (.c (.i .i64 1))) fun v23=>vE n m x0 x2 x4 x16 x17 v23 h22)) (bnd (O0 x0) fun v24=>vF n n x2 x4 x0 v24 (.c (.i .i64 0)) h):=by kernel_rfl
theorem A4G (n m:Nat) (x2 x4 x34 x35 x36:Val) (h:A4):vF n (m+1) x2 x4 x34 x35 x36 h=bnd (B5 .lss x36 x35) fun v25=>cnd v25 (bnd (C4 2 x34 x36) fun v26=>bnd (A8 h 2 v26) fun v27=>bnd (B4 (h++[some (Row.mk ([.s [],.i .i64 0]) true)]) 2 (.c (.p h.length 0)) v27) fun h28=>bnd (A8 h28 256 x4) fun v29=>bnd (A9 (.c (.p h.length 0)) 0) fun v30=>bnd (A7 h28 v30) fun v31=>bnd (bR [v29,v31] h28) fun p32=>bnd (H0 p32.1 0) fun v33=>bnd (H0 p32.1 1) fun v34=>bnd (B4 (p32.2++[some (Row.mk ([.i .i64 0,.s [],.i .i64 0]) true)]) 3 (.c (.p p32.2.length 0)) v33) fun h35=>bnd (A9 (.c (.p p32.2.length 0)) 0) fun v36=>bnd (A7 h35 v36) fun v37=>bnd (B5 .neq v37 x36) fun v38=>cnd v38 (bnd (C7 (List.replicate 256 (.i .u8 0)) []) fun c39=>bnd (B4 h35 256 x2 (.a c39)) fun h40=>I6 [A8 h40 256 x2,some (.c (.i .i64 5))] h40) (bnd (B5 .add x36 (.c (.i .i64 1))) fun v41=>vF n m x2 x4 x34 x35 v41 h35)) (bnd (A8 h 256 x4) fun v42=>bnd (B4 h 256 x2 v42) fun h43=>I6 [A8 h43 256 x2,some (.c (.i .i64 0))] h43):=by kernel_rfl
theorem B2W:FnK Tryz.prog 139 pD dP zY:=.mk2 (B8 B5D (B8 yH (B8 qL (B8 lC (B8 A5O (B8 A4l C9)))))) Tryz.func139 (by kernel_rfl)
def qJ:=tl pD dP
theorem B8c:SOk Tryz.prog 139 qJ:=B2W.sok
theorem B3o:G0 zY qJ:=B2W.flat
def xY:AFn:=⟨sO [1,2] [aB 2 0,aO 3 (.mv (.v (.c (.b false))))] (sO [] [aL 4 1,aL' 5 3 2,aO 6 (.buildSl 3 1 (([.i .i64 0,.s [],.i .i64 0])) [(0,3,(.t 5))]),aO 7 (.app 3 (.t 4) (.t 6)),aN (.store1 (.t 1) (.t 7))] (sO [3] [aO 3 (.mv (.v (.c (.b true))))] .ret)),[.tmp 3]⟩
def yB:E2:=E6
def yF:=rx yB xY
theorem A02 (n:Nat) (a0 a1:Val) (h:A4):yF n [a0,a1] h=bnd (cells? a0) fun c1=>bnd (A7 (h++[some (Row.mk (c1) true)]) a1) fun v2=>bnd (A8 (h++[some (Row.mk (c1) true)]) 3 (.c (.p h.length 0))) fun v3=>bnd (C7 (([.i .i64 0,.s [],.i .i64 0])) [(0,3,v3)]) fun c4=>bnd (W7 ((h++[some (Row.mk (c1) true)])++[some (Row.mk (c4) true)]) 3 v2 (.c (.sl (h++[some (Row.mk (c1) true)]).length 0 1 3))) fun p5=>bnd (D3 p5.2 a1 p5.1) fun h6=>some ((.c (.b true)),h6):=by kernel_rfl
theorem A6F:FnK Tryz.prog 163 xY yB yF:=.mk2 C9 Tryz.func163 (by kernel_rfl)
def eR:=Lim xY yB
theorem B1Y:SOk Tryz.prog 163 eR:=A6F.ok
theorem A07:OfT yF eR:=A6F.of
def qY:ACode:=sO [1,2,7,8] [aO 8 (.bin .lss (.t 7) (.v (.c (.i .i64 7))))] (.seq [1,2,7] (.cond (.t 8) .skip (.exit 0)) (.seq [1,2,7] (.block 1 (sO [1,2,4,7] [aM 9 7,aM 4 9] (sO [1,2,4,5,6,7] [aL' 11 256 2,aM 12 4,aO 13 (.call 224 [(.t 11),(.t 12)]),aM 10 13,aE 14 10 0,aE 15 10 1,aO 5 (.alloc ([.s [],.i .i64 0])),aN (.storeN 2 (.t 5) (.t 14)),aM 6 15] (sO [1,2,7,24] [aM 16 6,aM 17 16,gM 18 17 true 1,gM 19 17 true 4,aG 20 17 true (.loadN 2 (.t 5)),aG 21 17 true (.build ([.i .i64 0,.s [],.i .i64 0]) [(0,1,(.t 19)),(1,2,(.t 20))]),aG 22 17 true (.callV (.t 18) [(.t 21)]),aG 23 17 true (.un .not (.t 22)),aO 24 (.pick (.t 17) (.t 23) (.v (.c (.b false))))] (.cond (.t 24) .ret .skip))))) (.ops [aO 25 (.bin .add (.t 7) (.v (.c (.i .i64 1)))),aM 7 25])))
def Z8:AFn:=⟨sO [1,2] [aB 2 0] (sO [1,2,7] [aO 7 (.mv (.v (.c (.i .i64 0))))] (.block 0 (.loop [1,2,7] qY))),[]⟩
def N2:E2:=D6 224 bS (D6 163 eR E6)
def A5U (n:Nat):KV:=F6 0 Z8.fin
def W9 (n m:Nat) (x1 x2 x7:Val):AtH:=ar N2 n qY [1,2,7] (A5U n) m [x1,x2,x7]
def fG:=rx N2 Z8
theorem A3z (n:Nat) (a0 a1:Val) (h:A4):fG n [a0,a1] h=bnd (cells? a0) fun c1=>W9 n n a1 (.c (.p h.length 0)) (.c (.i .i64 0)) (h++[some (Row.mk (c1) true)]):=by kernel_rfl
theorem kR (n m:Nat) (x1 x2 x7:Val) (h:A4):W9 n (m+1) x1 x2 x7 h=bnd (B5 .lss x7 (.c (.i .i64 7))) fun v2=>cnd v2 (bnd (A8 h 256 x2) fun v3=>bnd (bS [v3,x7] h) fun p4=>bnd (H0 p4.1 0) fun v5=>bnd (H0 p4.1 1) fun v6=>bnd (B4 (p4.2++[some (Row.mk ([.s [],.i .i64 0]) true)]) 2 (.c (.p p4.2.length 0)) v5) fun h7=>bnd (gd v6 true (some (x1,h7)) (some (.no,h7))) fun p8=>bnd (gd v6 true (some (x7,p8.2)) (some (.no,p8.2))) fun p9=>bnd (gd v6 true (bnd (A8 p9.2 2 (.c (.p p4.2.length 0))) fun T6=>some (T6,p9.2)) (some (.no,p9.2))) fun p11=>bnd (gd v6 true (bnd (C7 ([.i .i64 0,.s [],.i .i64 0]) [(0,1,p9.1),(1,2,p11.1)]) fun c12=>some ((.a c12),p11.2)) (some (.no,p11.2))) fun p13=>bnd (gd v6 true (bnd (oJ N2 p8.1 [p13.1] p13.2) fun dG=>some (dG.1,dG.2)) (some (.no,p13.2))) fun lU=>bnd (gd v6 true (bnd (aun .not lU.1) fun T7=>some (T7,lU.2)) (some (.no,lU.2))) fun xQ=>bnd (F0 v6 xQ.1 (.c (.b false))) fun dN=>cnd dN (I6 [] xQ.2) (bnd (B5 .add x7 (.c (.i .i64 1))) fun dO=>W9 n m x1 x2 dO xQ.2)) (I6 [] h):=by kernel_rfl
theorem sK:FnK Tryz.prog 152 Z8 N2 fG:=.mk2 (B8 A4n (B8 B1Y C9)) Tryz.func152 (by kernel_rfl)
def Q7:=Lim Z8 N2
theorem A3H:SOk Tryz.prog 152 Q7:=sK.ok
theorem A3G:OfT fG Q7:=sK.of
def A26:AFn:=⟨sO [1] [aB 1 0,aO 2 (.nilrow 3)] (sO [1,3] [aO 3 (.alloc ([.ns]))] (sO [3] [aL' 4 256 1,aO 5 (.mkf 163 [(.t 3)]),aO 6 (.call 152 [(.t 4),(.t 5)])] (sO [2] [aL 7 3,aM 2 7] .ret))),[.tmp 2]⟩
def A3k:E2:=D6 152 Q7 E6
def mC:=rx A3k A26
theorem B5j (n:Nat) (a0:Val) (h:A4):mC n [a0] h=bnd (cells? a0) fun c1=>bnd (A8 (((h++[some (Row.mk (c1) true)])++[some (Row.mk ([]) true)])++[some (Row.mk ([.ns]) true)]) 256 (.c (.p h.length 0))) fun v2=>bnd (A5Q 163 [(.c (.p ((h++[some (Row.mk (c1) true)])++[some (Row.mk ([]) true)]).length 0))]) fun v3=>bnd (Q7 [v2,v3] (((h++[some (Row.mk (c1) true)])++[some (Row.mk ([]) true)])++[some (Row.mk ([.ns]) true)])) fun p4=>bnd (A7 p4.2 (.c (.p ((h++[some (Row.mk (c1) true)])++[some (Row.mk ([]) true)]).length 0))) fun v5=>some (v5,p4.2):=by kernel_rfl
theorem A3x:FnK Tryz.prog 88 A26 A3k mC:=.mk2 (B8 A3H C9) Tryz.func88 (by kernel_rfl)
def X5:=tl A26 A3k
theorem A4m:SOk Tryz.prog 88 X5:=A3x.sok
theorem B3m:D5m mC X5:=A3x.low
theorem B3n:B5h mC X5:=A3x.out
def A28:AFn:=⟨sO [0,1,2,6] [aO 6 (.alloc ([.i .i64 0,.ns])),aO 7 (.mv (.v (.c (.i .i64 0))))] (.seq [0,1,2,6] (sO [0,1,2,6,13] [aM 8 0,aO 9 (.bin .lss (.t 8) (.v (.c (.i .i64 0)))),aM 10 9,gM 11 10 false 0,aG 12 10 false (.bin .geq (.t 11) (.v (.c (.i .i64 7)))),aO 13 (.pick (.t 10) (.v (.c (.b true))) (.t 12))] (.cond (.t 13) (sO [6,7] [aO 14 (.build ([.i .i64 0,.ns]) []),aN (.storeN 2 (.t 6) (.t 14)),aO 7 (.mv (.v (.c (.i .i64 2))))] .ret) .skip)) (sO [6,7] [aM 15 0,aO 16 (.call 219 [(.t 15)]),aM 17 1,aO 18 (.bin .add (.t 16) (.t 17)),aM 19 2,aO 20 (.build ([.i .i64 0,.ns]) [(0,1,(.t 18)),(1,1,(.t 19))]),aN (.storeN 2 (.t 6) (.t 20)),aO 7 (.mv (.v (.c (.i .i64 0))))] .ret)),[.cellN 6 2,.tmp 7]⟩
def A3m:E2:=D6 219 L6 E6
def uO:=rx A3m A28
theorem B5l (n:Nat) (a0 a1 a2:Val) (h:A4):uO n [a0,a1,a2] h=bnd (B5 .lss a0 (.c (.i .i64 0))) fun v1=>bnd (gd v1 false (some (a0,(h++[some (Row.mk ([.i .i64 0,.ns]) true)]))) (some (.no,(h++[some (Row.mk ([.i .i64 0,.ns]) true)])))) fun p2=>bnd (gd v1 false (bnd (B5 .geq p2.1 (.c (.i .i64 7))) fun v3=>some (v3,p2.2)) (some (.no,p2.2))) fun p4=>bnd (F0 v1 (.c (.b true)) p4.1) fun v5=>cnd v5 (bnd (C7 ([.i .i64 0,.ns]) []) fun c6=>bnd (B4 p4.2 2 (.c (.p h.length 0)) (.a c6)) fun h7=>I6 [A8 h7 2 (.c (.p h.length 0)),some (.c (.i .i64 2))] h7) (bnd (L6 [a0] p4.2) fun p8=>bnd (B5 .add p8.1 a1) fun v9=>bnd (C7 ([.i .i64 0,.ns]) [(0,1,v9),(1,1,a2)]) fun c10=>bnd (B4 p8.2 2 (.c (.p h.length 0)) (.a c10)) fun h11=>I6 [A8 h11 2 (.c (.p h.length 0)),some (.c (.i .i64 0))] h11):=by kernel_rfl
theorem B0E:FnK Tryz.prog 261 A28 A3m uO:=.mk2 (B8 qL C9) Tryz.func261 (by kernel_rfl)
def mE:=tl A28 A3m
theorem B5E:SOk Tryz.prog 261 mE:=B0E.sok
theorem B3q:D5m uO mE:=B0E.low
def A5b:AFn:=⟨sO [0,3,4] [aB 3 1,aO 4 (.alloc ([.i .i64 0,.ns])),aO 5 (.mv (.v (.c (.i .i64 0))))] (.seq [0,3,4] (sO [0,3,4,16] [aM 6 0,aO 7 (.bin .geq (.t 6) (.v (.c (.i .i64 0)))),aM 8 7,gM 9 8 true 0,aG 10 8 true (.bin .lss (.t 9) (.v (.c (.i .i64 7)))),aO 11 (.pick (.t 8) (.t 10) (.v (.c (.b false)))),aM 12 11,aG 13 12 true (.loadN 2 (.t 3)),aG 14 12 true (.call 218 [(.t 13)]),aG 15 12 true (.un .not (.t 14)),aO 16 (.pick (.t 12) (.t 15) (.v (.c (.b false))))] (.cond (.t 16) (sO [4,5] [aO 17 (.build ([.i .i64 0,.ns]) []),aN (.storeN 2 (.t 4) (.t 17)),aO 5 (.mv (.v (.c (.i .i64 1))))] .ret) .skip)) (sO [4,5] [aM 18 0,aL' 19 2 3,aO 20 (.call 220 [(.t 19)]),aO 21 (.call 261 [(.t 18),(.v (.c (.i .i64 0))),(.t 20)]),aE 22 21 0,aE 23 21 1,aN (.storeN 2 (.t 4) (.t 22)),aM 5 23] .ret)),[.cellN 4 2,.tmp 5]⟩
def A5o:E2:=D6 218 W5 (D6 220 M4 (D6 261 mE E6))
def zZ:=rx A5o A5b
theorem B7U (n:Nat) (a0 a1:Val) (h:A4):zZ n [a0,a1] h=bnd (cells? a1) fun c1=>bnd (B5 .geq a0 (.c (.i .i64 0))) fun v2=>bnd (gd v2 true (some (a0,((h++[some (Row.mk (c1) true)])++[some (Row.mk ([.i .i64 0,.ns]) true)]))) (some (.no,((h++[some (Row.mk (c1) true)])++[some (Row.mk ([.i .i64 0,.ns]) true)])))) fun p3=>bnd (gd v2 true (bnd (B5 .lss p3.1 (.c (.i .i64 7))) fun v4=>some (v4,p3.2)) (some (.no,p3.2))) fun p5=>bnd (F0 v2 p5.1 (.c (.b false))) fun v6=>bnd (gd v6 true (bnd (A8 p5.2 2 (.c (.p h.length 0))) fun v7=>some (v7,p5.2)) (some (.no,p5.2))) fun p8=>bnd (gd v6 true (bnd (W5 [p8.1] p8.2) fun p9=>some (p9.1,p9.2)) (some (.no,p8.2))) fun p10=>bnd (gd v6 true (bnd (aun .not p10.1) fun v11=>some (v11,p10.2)) (some (.no,p10.2))) fun p12=>bnd (F0 v6 p12.1 (.c (.b false))) fun v13=>cnd v13 (bnd (C7 ([.i .i64 0,.ns]) []) fun c14=>bnd (B4 p12.2 2 (.c (.p (h++[some (Row.mk (c1) true)]).length 0)) (.a c14)) fun h15=>I6 [A8 h15 2 (.c (.p (h++[some (Row.mk (c1) true)]).length 0)),some (.c (.i .i64 1))] h15) (bnd (A8 p12.2 2 (.c (.p h.length 0))) fun T7=>bnd (M4 [T7] p12.2) fun xQ=>bnd (mE [a0,.c (.i .i64 0),xQ.1] xQ.2) fun pB=>bnd (H0 pB.1 0) fun dO=>bnd (H0 pB.1 1) fun jN=>bnd (B4 pB.2 2 (.c (.p (h++[some (Row.mk (c1) true)]).length 0)) dO) fun h21=>I6 [A8 h21 2 (.c (.p (h++[some (Row.mk (c1) true)]).length 0)),some jN] h21):=by kernel_rfl
theorem B2X:FnK Tryz.prog 234 A5b A5o zZ:=.mk2 (B8 yH (B8 lC (B8 B5E C9))) Tryz.func234 (by kernel_rfl)
def qK:=tl A5b A5o
theorem B8d:SOk Tryz.prog 234 qK:=B2X.sok
theorem B3p:C8k zZ qK:=B2X.tidy
end
end Go.Proofs.YteckncopbicmcaaGreat
