/- What the proof of this claim leans on, part 7. -/
import Derived.Test.YtbipebfdappanaaGreatFClaimKeepsp6
set_option linter.all false
set_option maxRecDepth 100000
open Go Go.Esc
noncomputable section
open Bool renaming true_or->E71,false->A6,true->A5
open Go.Proofs.Tryz renaming prog->A8
open Option renaming none->A7,some->A4
namespace Go.Proofs.YtbipebfdappanaaGreat
section
def B1r:List Char:=(([104,97,114,110,101,115,115,32,51,99,101,98,57,53,49,48,54,48,52,50,48,99,57,102,102,51,98,54,55,49,48,97,98,100,55,100,49,57,99,55,57,57,57,99,53,99,101,50,53,49,99,56,54,54,51,97,98,98,99,97,48,101,50,99,56,48,102,101,102,57,101,100,32,99,117,116,32,97,116,32,101,115,99,104,101,97,116,47,101,115,99,104,101,97,116,108,97,119,52,49,46,67,108,97,105,109,82,105,103,104,116,32,101,115,99,104,101,97,116,47,101,115,99,104,101,97,116,108,97,119,52,49,46,67,108,97,105,109,75,101,101,112,115,32,101,115,99,104,101,97,116,47,101,115,99,104,101,97,116,108,97,119,52,50,46,77,101,110,100,87,104,111,108,101]:List Nat).map Char.ofNat)
set_option maxRecDepth 100000
def E4K:ownKnob Tryz.prog.godebug=A7:=by kernel_rfl
def E2G:laidOutB A8=A5:=by kernel_rfl
def start_eq:Tryz.prog.initOrder=String.ofList B1r:=by kernel_rfl
def D6u:Tryz.prog.initOrder.toList=B1r:=by rw [start_eq,String.toList_ofList]
def startRest:List (List Char):=(([[99,117,116],[97,116],[101,115,99,104,101,97,116,47,101,115,99,104,101,97,116,108,97,119,52,49,46,67,108,97,105,109,82,105,103,104,116],[101,115,99,104,101,97,116,47,101,115,99,104,101,97,116,108,97,119,52,49,46,67,108,97,105,109,75,101,101,112,115],[101,115,99,104,101,97,116,47,101,115,99,104,101,97,116,108,97,119,52,50,46,77,101,110,100,87,104,111,108,101]]:List (List Nat)).map (λl=>l.map Char.ofNat))
def E1K:wordsSigns B1r=(([104,97,114,110,101,115,115]:List Nat).map Char.ofNat)::(([51,99,101,98,57,53,49,48,54,48,52,50,48,99,57,102,102,51,98,54,55,49,48,97,98,100,55,100,49,57,99,55,57,57,57,99,53,99,101,50,53,49,99,56,54,54,51,97,98,98,99,97,48,101,50,99,56,48,102,101,102,57,101,100]:List Nat).map Char.ofNat)::startRest:=by kernel_rfl
def E4V:isSumSigns ((([51,99,101,98,57,53,49,48,54,48,52,50,48,99,57,102,102,51,98,54,55,49,48,97,98,100,55,100,49,57,99,55,57,57,57,99,53,99,101,50,53,49,99,56,54,54,51,97,98,98,99,97,48,101,50,99,56,48,102,101,102,57,101,100]:List Nat).map Char.ofNat))=A5:=by decide +kernel
def D5K: ((([104, 97, 114, 110, 101, 115, 115] : List Nat).map Char.ofNat) == "harness".toList) = true := by decide +kernel
def D5e(h s : List Char)(r : List (List Char))(h1 : (h == "harness".toList) = true)(h2 : isSumSigns s = true) : behindMainWord (h :: s :: r) = r := by
 unfold behindMainWord;simp only [h1,h2,E71,Bool.true_and,if_true]
def D7N:behindMainWord (wordsSigns B1r)=startRest:=by rw [E1K];exact D5e _ _ _ D5K E4V
def start_words:behindMainWord (wordsSigns Tryz.prog.initOrder.toList)=startRest:=by rw [D6u];exact D7N
def D89:List (List Char):=startRest.drop 1
def D2d: startRest = "cut".toList :: D89 := by decide +kernel
def E0V{P: Program}{rest : List (List Char)}(h : behindMainWord (wordsSigns P.initOrder.toList) = "cut".toList :: rest) : P.make = some .cut := by
 have e1 : ("cut".toList == "gc".toList) = false := by decide +kernel
 have e2 : ("cut".toList == "spec".toList) = false := by decide +kernel
 have e3 : ("cut".toList == "cut".toList) = true := by decide +kernel
 unfold Program.make;rw [h];simp only [e1,e2,e3,Bool.or_self,E71,Bool.false_eq_true,if_false,if_true]
def E2K:Tryz.prog.make=A4 .cut:=E0V (start_words.trans D2d)
def C79{w:List Char}{ws:List (List Char)}:∀ os:List String,(os.all λo=>!(w==o.toList))=A5->stripLifts os (w::ws)=([],w::ws)
 | [],_=>rfl
 | o::os,h=>by
  simp only [List.all_cons,Bool.and_eq_true,Bool.not_eq_true'] at h;unfold stripLifts;rw [h.1,C5 (by simp)];exact C79 os h.2
def D0Q(rest: List (List Char)) : stripLifts liftWords ("cut".toList :: rest) = ([], "cut".toList :: rest) := C79 _ (by decide +kernel)
def E0O:Tryz.prog.laysLater=A6:=by kernel_rfl
def D6g:Tryz.prog.bearsReflect=A6:=by kernel_rfl
def E2r:Tryz.prog.doorFits []=A5:=by kernel_rfl
def D72{P: Program}{rest : List (List Char)}(h : behindMainWord (wordsSigns P.initOrder.toList) = "cut".toList :: rest)(h1 : P.laysLater = false)(h2 : P.bearsReflect = false)(h3 : P.doorFits [] = true) : P.mayEnter = true := by
 unfold Program.mayEnter;rw [h];simp only [D0Q,h1,h2,h3];simp
def D3T:Tryz.prog.mayEnter=A5:=D72 (start_words.trans D2d) E0O D6g E2r
def D8q{P: Program}{rest : List (List Char)}(h : behindMainWord (wordsSigns P.initOrder.toList) = "cut".toList :: rest) : P.liftsFinal = false := by
 unfold Program.liftsFinal Program.headLifts;rw [h];simp only [D0Q];simp
def E0R:Tryz.prog.liftsFinal=A6:=D8q (start_words.trans D2d)
end
end Go.Proofs.YtbipebfdappanaaGreat
