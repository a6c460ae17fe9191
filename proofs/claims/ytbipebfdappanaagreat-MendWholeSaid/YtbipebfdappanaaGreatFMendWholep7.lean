/- What the proof of this claim leans on, part 7. -/
import Derived.Test.YtbipebfdappanaaGreatFMendWholep6
set_option linter.all false
set_option maxRecDepth 100000
open Go Go.Esc
noncomputable section
open List renaming length->l_
open Bool renaming true_or->E9d,false->A6,true->A5
open Nat renaming le_refl->E8m
open Go.Proofs.Tryz renaming prog->A8
open Option renaming none->A7,some->A4
namespace Go.Proofs.YtbipebfdappanaaGreat
def E5h:A9z D40=A5:=by decide +kernel
def E5i:uW D40=8:=by decide +kernel
section
variable (n m m2:Nat) (h:A9)
def A3D:FD A8:=⟨px 0X118bf003018191d021ff1a0141ff2f6f181ff3c0130181901ed4e1d1751023a1ed6d6f181ed3c01306191021dd1a7f1dd701301c195021bf1a01bf1e001bf1f104891bf4f4f1bf7013018195021ad1a01ad4b4f1ad7013061910219d1a5f19d70130181910218b1a018b4b2f18b7011022783f04e10000003723ef13df21863a61b11828063d2c3cf3a001336c3b0181f1d019239f138f401182806382c2ff2d001235a2e073e48182024886544881d01c3b4a2a040229f128f201182806282c1ff1d001233a1e0775301d201300110062241890320292a1a0339420319f10011300185c3342300102,[],[.eqA A6 ([.i .i64,.i .i64,.i .i64,.i .i64,.i .i64,.i .i64,.i .i64,.i .i64]) (.t 59) (.t 60)],[.tmp 0],[D8 B7Z C5U,D8 A0V A8E,D8 vL A6p,D8 A3X B0s,D8 B8c C5V]⟩
def B0E:=A3D.R
def C4K:=mR B0E A3D (tT []) n [] h
def B9a:=A3D.K Tryz.func18
def B06:=A3D.S
def B9I:G0 B0E B06:=B9a.flat
end
def D42:Dev:=D40.set 1 (zeros 256)
def D6T:D42.length=16:=by unfold D42;rw [List.length_set,A8r]
def E2k:okD D42:=okD40.set zeros_length
def E1e:A9z D42=A5:=by decide +kernel
def E1f:uW D42=8:=by decide +kernel
def E50:U1 (gQ D40 8 (E7 D40 8)) D40 0=[]:=by decide +kernel
def E51:U1 (gQ D42 8 (E7 D42 8)) D42 0=[(1,map40)]:=by decide +kernel
def E3A:B4z D42 8=[1,0,0,0,0,0,0,3]:=by decide +kernel
def B8Z(h:A9):B06 [] h=A4 (bV A5,h):=by
 have key:∀ g,∃ g',B0E 0 [] g=A4 (bV A5,g'):=λg=>by
  have hF:=D2l g;obtain ⟨G,hG⟩:=xEq (g++[rT (E3 D40)]);rw [<-hG] at hF;have hH:Has G (sV (l_ g) 0 (l_ D40) 256) 256 (l_ D40) (E3 D40):=by rw [hG];exact Has.tr (by simp) (H9 okD40) (dO _)
  have hP:=zO hH okD40 E5h (by rw [A8r];omega);rw [E5i,E50] at hP;obtain ⟨H,hHe⟩:=xEq (G++[rT (vB [])]);rw [<-hHe] at hP;have rg:rd H (l_ g)=rT (E3 D40):=by rw [hHe,hG];refine B6 ?_;rw [G3];rfl
  have ad1:F0 256 (sV (l_ g) 0 16 256) (iV 1)=A4 (pV (l_ g) 256):=rfl;have ef:F6 (B4 (zeros 256)) []=A4 (B4 (zeros 256)):=rfl;obtain ⟨K,hK⟩:=xEq (H.set (l_ g) (rT (E3 D42)));have st:F7 H 256 (pV (l_ g) 256) (.a (B4 (zeros 256)))=A4 K:=by
   have:=A4w (i:=1) rg okD40 zeros_length (by rw [A8r];omega);rw [hK];exact this
  have rK:rd K (l_ g)=rT (E3 D42):=by rw [hK];exact D3 (E1 rg)
  have hHK:Has K (sV (l_ g) 0 D42.length 256) 256 D42.length (E3 D42):=Has.tr rK (H9 E2k) (dO _);have hP2:=zO hHK E2k E1e (by rw [D6T];omega);rw [E1f,E51] at hP2;obtain ⟨L,hL⟩:=xEq (K++[rT (vB [(1,map40)])]);rw [<-hL] at hP2;have hHL:Has L (sV (l_ g) 0 D42.length 256) 256 D42.length (E3 D42):=by rw [hL];exact hHK.more _
  obtain ⟨hC,_⟩:=B7u hHL E2k E1e (by rw [D6T];omega);rw [E1f,E3A] at hC;have z8:[o0,o0,o0,o0,o0,o0,o0,o0]=encI (zI 8):=rfl;obtain ⟨Q,hQ⟩:=xEq (L++[rT (encI [1,0,0,0,0,0,0,3])]);have s8:F7 (L++[rT (encI (zI 8))]) 8 (pV (l_ L) 0) (.a (encI [1,0,0,0,0,0,0,3]))=A4 Q:=by
   rw [storeAll (by rw [G3];rfl) (by rfl) (by rfl),fX,hQ];rfl
  have l8:C9 Q 8 (pV (l_ L) 0)=A4 (.a (encI [1,0,0,0,0,0,0,3])):=C8 (by rw [hQ,G3];rfl) (by rfl);have hw:Has Q (sV (l_ K) 0 [((1:Int),map40)].length 257) 257 [((1:Int),map40)].length (vB [(1,map40)]):=by
   have tI:okW [(1,map40)]:=λx hx=>by simp at hx;subst hx;exact A4d
   rw [hQ,hL];exact (Has.tr (by rw [G3];rfl) (wL tI) (C8m _)).more _
  obtain ⟨_,_,e1,_,a1,_,b1⟩:=E1N hw (λx hx=>by simp at hx;subst hx;exact A4d) (i:=0) (by decide);cases e1;have ef2:F6 (encI (zI 8)) [(0,1,iV 1),(7,1,iV 3)]=A4 (encI [1,0,0,0,0,0,0,3]):=rfl;have eq:=C6L (l:=[1,0,0,0,0,0,0,3]) (m:=[1,0,0,0,0,0,0,3]) (n:=8) rfl rfl;have er:List.replicate 8 (Sh.i .i64)=[Sh.i .i64,.i .i64,.i .i64,.i .i64,.i .i64,.i .i64,.i .i64,.i .i64]:=rfl;rw [er,O4 rfl] at eq;have hS:=D4O (x:=[1,0,0,0,0,0,0,3]) (h:=Q) rfl (by decide);have es:[1,0,0,0,0,0,0,3].tail.sum=(3:Int):=by decide
  rw [es] at hS;rw [A8r] at hP;rw [D6T] at hP2 hC;have c16:((16:Nat):Int)=16:=rfl;have c0:((0:Nat):Int)=0:=rfl;have c1:((1:Nat):Int)=1:=rfl;have l0:([]:List Wr).length=0:=rfl;have l1:[((1:Int),map40)].length=1:=rfl;rw [l0] at hP;rw [l1] at hP2 a1;rw [c0] at a1;have b1':B9 Q (pV (l_ K) 0)=A4 (iV 1):=b1;have a1':F0 257 (sV (l_ K) 0 1 257) (iV 0)=A4 (pV (l_ K) 0):=a1;rw [C4K,G9,z8];generalize encI [1,0,0,0,0,0,0,3]=R at *;generalize encI (zI 8)=Z at *;generalize B4 (zeros 256)=W at *;exact ⟨Q,by simp only [esc,E12,hF,c16,hP,ef,ad1,st,hP2,hC,s8,c0,c1,a1',b1',l8,ef2,eq,hS,eq_self]⟩
 obtain ⟨g',e⟩:=key (ro h);exact B9I e rfl
section
variable (n m m2:Nat) (a0:Val) (h:A9)
def pZ:FD A8:=⟨px 0X17af2030419001e92f01306190151d92f6f1d970130181901bf4e03a1bf6d19e181bf3c013018191021ad1a01ad4b7f1ad70110221885802c500001724ff14ef21863a191b11828064e2c4df4b001437c4c0182b424af149f701182806492c48f3e001236a3f07291f1823df6006183330295e15c15c39061d0520138f20003250000722410324a2e025f422132df12cf4011828062c2c2bf29001233e2a071b1918228f30011371f037052011ef20003250062243e905202971b033b42033201042,[],[.eqA A6 ([.i .i64,.i .i64,.i .i64,.i .i64,.i .i64,.i .i64,.i .i64,.i .i64]) (.t 48) (.t 49)],[.tmp 2],[D8 B06 B9a,D8 C19 D0f,D8 vL A6p,D8 A3W B9d,D8 A3X B0s,D8 A8c B6X]⟩
def A0R:=pZ.R
def B6k:=mR A0R pZ (tT []) n [a0] h
def A8F:=pZ.K Tryz.func5
def A0W:=pZ.S
def B6t:SOk A8 5 A0W:=A8F.sok
def B2N:G0 A0R A0W:=A8F.flat
end
def D3j{D:Dev}{n:Int}(hD:okD D)(hm:P6 (l_ D) n=A5):let I:=gQ D n (E7 D n);okD I/\(l_ I)=l_ D/\gQ I n (E7 I n)=I/\Wh I n (F5 I n):=by
 obtain ⟨okI,lI⟩:=C0w hD hm;have hM:=E2b hD hm (m:=(U1 (gQ D n (E7 D n)) D 0).length);have e:B6F (U1 (gQ D n (E7 D n)) D 0).length (gQ D n (E7 D n)) D=gQ D n (E7 D n):=C5P (i:=0) lI (E8m _);rw [e] at hM;exact ⟨okI,lI,hM.img,E40 okI (by rw [lI];exact hm) hM.img⟩
def D2K{v:Val}{D:Dev}{h:A9}(hv:Has h v 256 (l_ D) (E3 D))(hD:okD D):A0W [v] h=A4 (bV A5,h):=by
 have key:∀ g,Has g v 256 (l_ D) (E3 D)->∃ g',A0R 600 [v] g=A4 (bV A5,g'):=by
  intro g hv;have hl:=hv.len;rw [B6k];by_cases c0:(60:Int)<(l_ D:Nat)
  ·exact ⟨_,by simp only [esc,hl,c0,B8Z]<;>rfl⟩
  ·have hT:=E6X hv hD (by omega);obtain ⟨G,hG⟩:=xEq (g++[rT (E3 D)]);rw [<-hG] at hT;have hH:Has G (sV (l_ g) 0 (l_ D) 256) 256 (l_ D) (E3 D):=by rw [hG];exact Has.tr (by simp) (H9 hD) (dO D)
   cases cd:A9z D with
   | false =>
    have hP:=C9Z hH hD cd;have n13:¬ (13:Int)=0:=by decide
    exact ⟨_,by simp only [esc,hl,c0,hT,hP,n13,B8Z]<;>rfl⟩
   | true =>
    have hm:=C7i cd;have hP:=zO hH hD cd (by omega);obtain ⟨n,en⟩:=xEq (uW D);rw [<-en] at hP hm;obtain ⟨okI,lI,nJ,W⟩:=D3j hD hm;have hh0:=E1X hD hm;obtain ⟨I,eI⟩:=xEq (gQ D n (E7 D n));rw [<-eI] at hP okI lI hh0 nJ W;obtain ⟨dI1,dI2,_⟩:=E1g lI hh0;have dI:A9z I=A5:=dI1.trans cd;have nI:uW I=n:=dI2.trans en.symm;have hmI:P6 (l_ I) n=A5:=by rw [lI];exact hm
    obtain ⟨L,eL⟩:=xEq (U1 I D 0);obtain ⟨okL,lenL⟩:=C1c (D:=D) (i:=0) okI;rw [<-eL] at hP okL lenL;obtain ⟨H,hHe⟩:=xEq (G++[rT (vB L)]);rw [<-hHe] at hP;have hxH:Has H (sV (l_ g) 0 (l_ D) 256) 256 (l_ D) (E3 D):=by rw [hHe];exact hH.more _
    have hwH:Has H (sV (l_ G) 0 (l_ L) 257) 257 (l_ L) (vB L):=by rw [hHe];exact Has.tr (by rw [G3];rfl) (wL okL) (C8m _)
    have alL:=hwH.len;have hA:=C9V (n:=(l_ L:Nat)) hxH hD hwH okL (by omega) (by omega);have aD:A04 (l_ L:Nat) D 0 L=I:=by
     have h1:A04 (l_ L:Nat) D 0 (U1 I D 0)=B6F (l_ L) I D:=by rw [D6c,Int.toNat_natCast]
     rw [<-eL] at h1;rw [h1];exact C5P (i:=0) lI (by rw [<-eL];exact E8m _)
    rw [aD] at hA;obtain ⟨K,hK⟩:=xEq (H++[rT (E3 I)]);rw [<-hK] at hA;have hA:A3W [sV (l_ g) 0 (l_ D) 256,sV (l_ G) 0 (l_ L) 257,iV (l_ L:Nat)] H=A4 (sV (l_ H) 0 (l_ I) 256,K):=by rw [lI];exact hA
    have hyK:Has K (sV (l_ H) 0 (l_ I) 256) 256 (l_ I) (E3 I):=by rw [hK];exact Has.tr (by rw [G3];rfl) (H9 okI) (dO I)
    have hP2:=zO hyK okI dI (by omega);rw [nI,nJ,B8R] at hP2;obtain ⟨Y,hY⟩:=xEq (K++[rT (vB [])]);rw [<-hY] at hP2;have hyY:Has Y (sV (l_ H) 0 (l_ I) 256) 256 (l_ I) (E3 I):=by rw [hY];exact hyK.more _
    have hC:=(B7u hyY okI dI (by omega)).1;rw [nI,D5M okI hmI nJ] at hC;obtain ⟨Y2,hY2⟩:=xEq (Y++[rT (encI (zI 8))]);have s8:F7 (Y++[rT [o0,o0,o0,o0,o0,o0,o0,o0]]) 8 (pV (l_ Y) 0) (.a (encI (zI 8)))=A4 Y2:=by
     rw [storeAll (n:=8) (cs:=[o0,o0,o0,o0,o0,o0,o0,o0]) (by rw [G3];rfl) rfl rfl,fX,hY2];rfl
    have l8:C9 Y2 8 (pV (l_ Y) 0)=A4 (.a (encI (zI 8))):=C8 (by rw [hY2,G3];rfl) rfl;have ef:F6 [o0,o0,o0,o0,o0,o0,o0,o0] []=A4 (encI (zI 8)):=rfl;have q8:aeq A6 [Sh.i .i64,.i .i64,.i .i64,.i .i64,.i .i64,.i .i64,.i .i64,.i .i64] (.a (encI (zI 8))) (.a (encI (zI 8)))=A4 (bV A5):=by
     have:=C6L (l:=zI 8) (m:=zI 8) (n:=8) rfl rfl;rw [O4 rfl] at this;exact this
    have hR:=C9a (h:=Y2) okI (by rw [hY2];exact hyY.more _) dI (by rw [nI];exact hmI);rw [nI,W.right,O4 rfl] at hR;have al0:B6y (sV (l_ K) 0 (List.length ([]:List Wr)) 257)=A4 (iV 0):=rfl;have zd:decide (((0:Nat):Int)=0)=A5:=by decide
    refine ⟨Y2,?_⟩;generalize encI (zI 8)=Z at *;simp only [esc,eq_self,zd,hl,c0,hT,hP,alL,hA,hP2,hC,s8,al0,l8,ef,q8,hR,B8Z]
 obtain ⟨g',e⟩:=key (ro h) hv.ro;exact B2N e rfl
section
def B1U:List Char:=(([104,97,114,110,101,115,115,32,51,99,101,98,57,53,49,48,54,48,52,50,48,99,57,102,102,51,98,54,55,49,48,97,98,100,55,100,49,57,99,55,57,57,57,99,53,99,101,50,53,49,99,56,54,54,51,97,98,98,99,97,48,101,50,99,56,48,102,101,102,57,101,100,32,99,117,116,32,97,116,32,101,115,99,104,101,97,116,47,101,115,99,104,101,97,116,108,97,119,52,49,46,67,108,97,105,109,82,105,103,104,116,32,101,115,99,104,101,97,116,47,101,115,99,104,101,97,116,108,97,119,52,49,46,67,108,97,105,109,75,101,101,112,115,32,101,115,99,104,101,97,116,47,101,115,99,104,101,97,116,108,97,119,52,50,46,77,101,110,100,87,104,111,108,101]:List Nat).map Char.ofNat)
set_option maxRecDepth 100000
def E5Z:ownKnob Tryz.prog.godebug=A7:=by kernel_rfl
def E3Y:laidOutB A8=A5:=by kernel_rfl
def start_eq:Tryz.prog.initOrder=String.ofList B1U:=by kernel_rfl
def D7u:Tryz.prog.initOrder.toList=B1U:=by rw [start_eq,String.toList_ofList]
def startRest:List (List Char):=(([[99,117,116],[97,116],[101,115,99,104,101,97,116,47,101,115,99,104,101,97,116,108,97,119,52,49,46,67,108,97,105,109,82,105,103,104,116],[101,115,99,104,101,97,116,47,101,115,99,104,101,97,116,108,97,119,52,49,46,67,108,97,105,109,75,101,101,112,115],[101,115,99,104,101,97,116,47,101,115,99,104,101,97,116,108,97,119,52,50,46,77,101,110,100,87,104,111,108,101]]:List (List Nat)).map (λl=>l.map Char.ofNat))
def E20:wordsSigns B1U=(([104,97,114,110,101,115,115]:List Nat).map Char.ofNat)::(([51,99,101,98,57,53,49,48,54,48,52,50,48,99,57,102,102,51,98,54,55,49,48,97,98,100,55,100,49,57,99,55,57,57,57,99,53,99,101,50,53,49,99,56,54,54,51,97,98,98,99,97,48,101,50,99,56,48,102,101,102,57,101,100]:List Nat).map Char.ofNat)::startRest:=by kernel_rfl
def E6c:isSumSigns ((([51,99,101,98,57,53,49,48,54,48,52,50,48,99,57,102,102,51,98,54,55,49,48,97,98,100,55,100,49,57,99,55,57,57,57,99,53,99,101,50,53,49,99,56,54,54,51,97,98,98,99,97,48,101,50,99,56,48,102,101,102,57,101,100]:List Nat).map Char.ofNat))=A5:=by decide +kernel
def D6L: ((([104, 97, 114, 110, 101, 115, 115] : List Nat).map Char.ofNat) == "harness".toList) = true := by decide +kernel
def D6f(h s : List Char)(r : List (List Char))(h1 : (h == "harness".toList) = true)(h2 : isSumSigns s = true) : behindMainWord (h :: s :: r) = r := by
 unfold behindMainWord;simp only [h1,h2,E9d,Bool.true_and,if_true]
def D8O:behindMainWord (wordsSigns B1U)=startRest:=by rw [E20];exact D6f _ _ _ D6L E6c
def start_words:behindMainWord (wordsSigns Tryz.prog.initOrder.toList)=startRest:=by rw [D7u];exact D8O
def E0j:List (List Char):=startRest.drop 1
def D28: startRest = "cut".toList :: E0j := by decide +kernel
def E18{P: Program}{rest : List (List Char)}(h : behindMainWord (wordsSigns P.initOrder.toList) = "cut".toList :: rest) : P.make = some .cut := by
 have e1 : ("cut".toList == "gc".toList) = false := by decide +kernel
 have e2 : ("cut".toList == "spec".toList) = false := by decide +kernel
 have e3 : ("cut".toList == "cut".toList) = true := by decide +kernel
 unfold Program.make;rw [h];simp only [e1,e2,e3,Bool.or_self,E9d,Bool.false_eq_true,if_false,if_true]
def E32:Tryz.prog.make=A4 .cut:=E18 (start_words.trans D28)
def C8P{w:List Char}{ws:List (List Char)}:∀ os:List String,(os.all λo=>!(w==o.toList))=A5->stripLifts os (w::ws)=([],w::ws)
 | [],_=>rfl
 | o::os,h=>by
  simp only [List.all_cons,Bool.and_eq_true,Bool.not_eq_true'] at h;unfold stripLifts;rw [h.1,C5 (by simp)];exact C8P os h.2
def D1D(rest: List (List Char)) : stripLifts liftWords ("cut".toList :: rest) = ([], "cut".toList :: rest) := C8P _ (by decide +kernel)
def E11:Tryz.prog.laysLater=A6:=by kernel_rfl
def D7g:Tryz.prog.bearsReflect=A6:=by kernel_rfl
def E3H:Tryz.prog.doorFits []=A5:=by kernel_rfl
def D83{P: Program}{rest : List (List Char)}(h : behindMainWord (wordsSigns P.initOrder.toList) = "cut".toList :: rest)(h1 : P.laysLater = false)(h2 : P.bearsReflect = false)(h3 : P.doorFits [] = true) : P.mayEnter = true := by
 unfold Program.mayEnter;rw [h];simp only [D1D,h1,h2,h3];simp
def D4M:Tryz.prog.mayEnter=A5:=D83 (start_words.trans D28) E11 D7g E3H
def D9u{P: Program}{rest : List (List Char)}(h : behindMainWord (wordsSigns P.initOrder.toList) = "cut".toList :: rest) : P.liftsFinal = false := by
 unfold Program.liftsFinal Program.headLifts;rw [h];simp only [D1D];simp
def E14:Tryz.prog.liftsFinal=A6:=D9u (start_words.trans D28)
end
end Go.Proofs.YtbipebfdappanaaGreat
