/- What the proof of this claim leans on, part 1. -/
import Derived.ProofKit
import Derived.OpenShut
import Derived.Deep.Slices
import Derived.Carry
import Derived.ChangeCalls
import GoSem.Claims
import Derived.Calls
import Derived.Orders
import Derived.Laws.Cells
import Derived.Laws.IdiomCopy
import Derived.Laws.World
import Derived.Laws.Bits
import Derived.Laws.Strings
import Derived.IntWalk
import Derived.Laws.Append
import Derived.Laws.StructEq
import Derived.MapKept
import Derived.LoopN
import Derived.Defers
import Derived.KernelRfl
import Derived.Test.YtbnkgnfhgbhblaaGreatChecked
set_option linter.all false
namespace Go.Esc
end Go.Esc
set_option maxRecDepth 100000
open Go Go.Esc
noncomputable section
open Bool renaming and_eq_true→E5S,not_eq_true'→E6I,or_eq_true→E6S,false→A6,true→A5
open List renaming all_cons→E6B,all_eq_true→E6M,append_assoc→E5Y,append_nil→E6m,drop_drop→E6P,drop_eq_getElem_cons→E5X,drop_of_length_le→E56,drop_zero→E6a,getElem?_append_left→E6t,getElem?_append_right→E57,getElem?_drop→E6J,getElem?_eq_getElem→E5P,getElem?_eq_none→E6x,getElem?_take_of_lt→E6s,getElem_mem→E6v,length_append→E5T,length_cons→E52,length_drop→E6O,length_nil→E6h,length_set→E6o,length_take→E6l,map_append→E6N,map_cons→E6X,mem_cons_of_mem→E6f,mem_cons_self→E6g,mem_of_getElem?→E6j,range→E6p,range'→E6y,replicate→E5R,replicate_succ→E6k,take_of_length_le→E53
open Nat renaming add_mul→E6W,le_refl→E5V,le_trans→E6w,min_eq_left→E6R,mod_eq_of_lt→E6K,zero_add→E6e
open Option renaming bind_eq_some_iff→E5Q,bind_some→E54,map_eq_some_iff→E6d,none→A7,some→A4
open Option.some renaming injEq→E5W
open Prod.mk renaming injEq→E50
namespace Go.Esc
section
inductive Cell where
 | b (x:Bool)
 | i (k:IntKind) (n:Int)
 | s (x:List UInt8)
 | p (id off:Nat)
 | np
 | sl (id off len sz:Nat)
 | ns
 | f (fn:Nat) (caps:List (Nat × Nat))
 | nf
 | m (id:Nat)
 | nm
 | dark
 | mh
 | hk (agg:Bool) (x:Cell)
 | hx (x:Cell)
 deriving DecidableEq,Inhabited
inductive Part where
 | c (x:Cell)
 | a (l:List Cell)
 deriving Inhabited
inductive Val where
 | un
 | no
 | c (x:Cell)
 | a (l:List Cell)
 | t (l:List Part)
 deriving Inhabited
structure Row where
 cells:List Cell
 rw:Bool
 deriving Inhabited
abbrev B5:=List (Option Row)
abbrev Env:=List (Nat × Val)
def Env.get:Env->Nat->Val
 | [],_=>.un
 | (d,v)::r,t=>bif Nat.beq d t then v else Env.get r t
def Env.keep (e:Env):List Nat->Env
 | []=>[]
 | t::r=>(t,e.get t)::Env.keep e r
def Env.put (e:Env) (d:Option Nat) (v:Val):Env :=
 match d with
 | some d=>(d,v)::e
 | none=>e
inductive Opd where
 | t (n:Nat)
 | v (x:Val)
 deriving Inhabited
def Env.ev (e:Env):Opd->Val
 | .t n=>e.get n
 | .v x=>x
inductive Sh where
 | b
 | i (k:IntKind)
 | s
 deriving DecidableEq,Inhabited
def Cell.sh:Cell->Option Sh
 | .b _=>A4 .b
 | .i k _=>A4 (.i k)
 | .s _=>A4 .s
 | _=>A7
inductive AOp where
 | mv (x:Opd)
 | nilrow (sz:Nat)
 | pick (c a b:Opd)
 | alloc (zero:List Cell)
 | box (x:Opd)
 | build (zero:List Cell) (parts:List (Nat × Nat × Opd))
 | buildSl (sz len:Nat) (zero:List Cell) (parts:List (Nat × Nat × Opd))
 | load1 (a:Opd)
 | loadN (n:Nat) (a:Opd)
 | store1 (a x:Opd)
 | storeN (n:Nat) (a x:Opd)
 | bin (op:BinOp) (x y:Opd)
 | eqA (neg:Bool) (sh:List Sh) (x y:Opd)
 | eqB (neg:Bool) (x y:Opd)
 | eqN (fn neg:Bool) (x:Opd)
 | nilc (x:Opd)
 | un (op:UnOp) (x:Opd)
 | conv (k:IntKind) (x:Opd)
 | convS (x:Opd)
 | s2b (x:Opd)
 | b2s (x:Opd)
 | b2sN (own:Option Nat) (x:Opd)
 | mark (x:Opd)
 | mkf (fn:Nat) (caps:List Opd)
 | mkSl (sz:Nat) (zero:List Cell) (len cap:Opd)
 | slS (x:Opd) (lo hi:Option Opd)
 | slL (sz:Nat) (x:Opd) (lo hi:Option Opd)
 | slA (n sz:Nat) (x:Opd) (lo hi:Option Opd)
 | fAddr (x:Opd) (off:Nat)
 | iAddrA (n sz:Nat) (x i:Opd)
 | iAddrL (sz:Nat) (x i:Opd)
 | fld1 (x:Opd) (off:Nat)
 | fldN (x:Opd) (off n:Nat)
 | idxA1 (n:Nat) (x i:Opd)
 | idxAN (n sz:Nat) (x i:Opd)
 | idxS (x i:Opd)
 | ext (x:Opd) (k:Nat)
 | call (f:Nat) (args:List Opd)
 | callV (f:Opd) (args:List Opd)
 | len (x:Opd)
 | lenS (x:Opd)
 | app (sz:Nat) (x y:Opd)
 | appZ (sz:Nat) (zero:List Cell) (x y:Opd)
 | max (x y:Opd)
 | min (x y:Opd)
 | copy (sz:Nat) (x y:Opd)
 | mkMap
 | look (kk:Option IntKind) (zero:Part) (ok:Bool) (m k:Opd)
 | mput (kk:Option IntKind) (m k x:Opd)
 | ment (kk:Option IntKind) (zero:Part) (m k:Opd)
 | mset (m s x:Opd)
 deriving Inhabited
structure AOper where
 dst:Option Nat
 op:AOp
 guard:Option (Nat × Bool):=A7
 slot:Option Nat:=A7
 deriving Inhabited
inductive ACode where
 | skip
 | ops (l:List AOper)
 | draw (n:Nat) (l:List AOper) (r:List AOper)
 | drawS (n:Nat) (l:List AOper) (s:AOper) (chk:List (Nat × AOp)) (r:List AOper)
 | seq (keep:List Nat) (a b:ACode)
 | cond (c:Opd) (a b:ACode)
 | block (id:Nat) (a:ACode)
 | loop (keep:List Nat) (a:ACode)
 | exit (id:Nat)
 | ret
 deriving Inhabited
def cells? : Val->Option (List Cell)
 | .c x=>A4 [x]
 | .a l=>A4 l
 | _=>A7
def B1W (op:BinOp) (k:IntKind) (a b:Int):Option Cell :=
 match op with
 | .add=>A4 (.i k (k.wrap (a+b)))
 | .sub=>A4 (.i k (k.wrap (a-b)))
 | .mul=>A4 (.i k (k.wrap (a*b)))
 | .quo=>if b=0 then A7 else A4 (.i k (k.wrap (a.tdiv b)))
 | .rem=>if b=0 then A7 else A4 (.i k (a.tmod b))
 | .and=>A4 (.i k (k.wrap (BitVec.ofInt k.bits a &&& BitVec.ofInt k.bits b).toNat))
 | .or=>A4 (.i k (k.wrap (BitVec.ofInt k.bits a ||| BitVec.ofInt k.bits b).toNat))
 | .xor=>A4 (.i k (k.wrap (BitVec.ofInt k.bits a ^^^ BitVec.ofInt k.bits b).toNat))
 | .andNot=>A4 (.i k (k.wrap (BitVec.ofInt k.bits a &&& ~~~ BitVec.ofInt k.bits b).toNat))
 | .eql=>A4 (.b (a==b))
 | .neq=>A4 (.b (a != b))
 | .lss=>A4 (.b (decide (a<b)))
 | .leq=>A4 (.b (decide (a<=b)))
 | .gtr=>A4 (.b (decide (a > b)))
 | .geq=>A4 (.b (decide (a>=b)))
 | _=>A7
def E2X (k:IntKind) (a b:Int):Option Cell:=if b<0 then A7 else A4 (.i k (k.wrap (a*2 ^ (Nat.min b.toNat k.bits))))
def E2Y (k:IntKind) (a b:Int):Option Cell:=if b<0 then A7 else A4 (.i k (a.fdiv (2 ^ (Nat.min b.toNat k.bits))))
def N2:List UInt8->List UInt8->Bool
 | _,[]=>A6
 | [],_::_=>A5
 | a::x,b::y=>decide (a<b)||(a==b&&N2 x y)
def E0b (op:BinOp) (a b:List UInt8):Option Cell :=
 match op with
 | .add=>if a.length+b.length<=1073741824 then A4 (.s (a++b)) else A7
 | .eql=>A4 (.b (a==b))
 | .neq=>A4 (.b (!(a==b)))
 | .lss=>A4 (.b (N2 a b))
 | .leq=>A4 (.b (N2 a b||a==b))
 | .gtr=>A4 (.b (!(N2 a b||a==b)))
 | .geq=>A4 (.b (!N2 a b))
 | _=>A7
def N4 (op:BinOp) (x y:Val):Option Val :=
 match x,y with
 | .c (.i k a),.c (.i k' b) =>
  match op with
  | .shl=>(E2X k a b).map .c
  | .shr=>(E2Y k a b).map .c
  | op=>bif decide (k=k') then (B1W op k a b).map .c else A7
 | .c (.s a),.c (.s b)=>(E0b op a b).map .c
 | _,_=>A7
def D4L (neg:Bool) (x y:Val):Option Val :=
 match x,y with
 | .c (.b a),.c (.b b)=>A4 (.c (.b (bif neg then !(a==b) else a==b)))
 | _,_=>A7
def D1C (fn neg:Bool) (x:Val):Option Val :=
 match fn,x with
 | true,.c .nf=>A4 (.c (.b (!neg)))
 | true,.c (.f _ _)=>A4 (.c (.b neg))
 | false,.c .np=>A4 (.c (.b (!neg)))
 | false,.c (.p _ _)=>A4 (.c (.b neg))
 | _,_=>A7
def A5U (x:Val):Option Val :=
 match x with
 | .c (.p id off)=>A4 (.c (.p id off))
 | .c (.f g cs)=>A4 (.c (.f g cs))
 | _=>A7
def aeq (neg:Bool) (sh:List Sh) (x y:Val):Option Val :=
 match x,y with
 | .a l,.a l'=>if l.map Cell.sh=sh.map A4/\l'.map Cell.sh=sh.map A4 then A4 (.c (.b (bif neg then !(decide (l=l')) else decide (l=l')))) else A7
 | _,_=>A7
def aun (op:UnOp) (x:Val):Option Val :=
 match op,x with
 | .not,.c (.b b)=>A4 (.c (.b (!b)))
 | .neg,.c (.i k n)=>A4 (.c (.i k (k.wrap (0-n))))
 | .xor,.c (.i k n)=>A4 (.c (.i k (k.wrap (BitVec.ofInt k.bits (if k.signed then -1 else k.max) ^^^ BitVec.ofInt k.bits n).toNat)))
 | _,_=>A7
def D26 (c a b:Val):Option Val :=
 match c with
 | .c (.b x)=>A4 (bif x then a else b)
 | _=>A7
def rd (h:B5) (id:Nat):Option Row:=(h[id]?).join
def Cell.isX:Cell->Bool
 | .dark=>A5
 | .mh=>A5
 | .hk _ _=>A5
 | .hx _=>A5
 | _=>A6
def Cell.isD:Cell->Bool
 | .dark=>A5
 | _=>A6
def noX (l:List Cell):Bool:=l.all λc=>!c.isX
def B8 (h:B5):Val->Option Val
 | .c (.p id off)=>(rd h id).bind λr=>(r.cells[off]?).bind λc=>bif r.rw || !c.isX then A4 (.c c) else A7
 | _=>A7
def D4 (h:B5) (n:Nat):Val->Option Val
 | .c (.p id off)=>(rd h id).bind λr=>if off+n<=r.cells.length/\(r.rw||noX ((r.cells.drop off).take n))=A5 then A4 (.a ((r.cells.drop off).take n)) else A7
 | _=>A7
def lay (cs:List Cell) (off:Nat) (xs:List Cell):List Cell:=cs.take off++(xs++cs.drop (off+xs.length))
def I5 (h:B5) (a x:Val):Option B5 :=
 match a,x with
 | .c (.p id off),.c x=>(rd h id).bind λr=>if r.rw=A5/\off<r.cells.length then A4 (h.set id (A4 ⟨r.cells.set off x,A5⟩)) else A7
 | _,_=>A7
def E5 (h:B5) (n:Nat) (a x:Val):Option B5 :=
 match a,x with
 | .c (.p id off),.a xs=>(rd h id).bind λr=>if r.rw=A5/\xs.length=n/\off+n<=r.cells.length then A4 (h.set id (A4 ⟨lay r.cells off xs,A5⟩)) else A7
 | _,_=>A7
def dZ (h:B5) (n0:Nat) (slot:Option Nat) (r:Row):Nat × B5 :=
 match slot with
 | none=>(h.length,h++[A4 r])
 | some j=>(n0+j,h.set (n0+j) (A4 r))
def E6 (zero:List Cell):List (Nat × Nat × Val)->Option (List Cell)
 | []=>A4 zero
 | (off,n,v)::r =>
  match cells? v with
  | some xs=>if xs.length=n/\off+n<=zero.length then E6 (lay zero off xs) r else A7
  | none=>A7
def D2V (k:IntKind):Val->Option Val
 | .c (.i _ n)=>A4 (.c (.i k (k.wrap n)))
 | _=>A7
def iW (h:B5):Val->Option (List Cell)
 | .c .ns=>A4 []
 | .c (.sl id off len sz)=>(rd h id).bind λr=>if off+len*sz<=r.cells.length/\(r.rw||noX ((r.cells.drop off).take (len*sz)))=A5 then A4 ((r.cells.drop off).take (len*sz)) else A7
 | _=>A7
def D0f:Cell->Option UInt8
 | .i .u8 n=>if 0<=n/\n<256 then A4 (UInt8.ofNat n.toNat) else A7
 | _=>A7
def bytes? : List Cell->Option (List UInt8)
 | []=>A4 []
 | c::r=>(D0f c).bind λx=>(bytes? r).map λl=>x::l
def D1A (x:Val):Option Val :=
 match x with
 | .c (.s s)=>A4 (.c (.s s))
 | _=>A7
def B5P (h:B5) (x:Val):Option Val :=
 match x with
 | .c (.sl id off len sz)=>if sz=1 then ((iW h (.c (.sl id off len sz))).bind bytes?).map λs=>.c (.s s) else A7
 | .c .ns=>A4 (.c (.s []))
 | _=>A7
def C1X (h:B5) (n0:Nat) (own:Option Nat) (x:Val):Option Val :=
 match own with
 | none=>B5P h x
 | some j =>
  match x with
  | .c (.sl id off len sz)=>if id=n0+j then B5P h (.c (.sl id off len sz)) else A7
  | _=>A7
def B4 (l:List UInt8):List Cell:=l.map λx=>.i .u8 x.toNat
def bound (x:Option Val) (d:Nat):Option Nat :=
 match x with
 | none=>A4 d
 | some (.c (.i _ n))=>if 0<=n then A4 n.toNat else A7
 | _=>A7
def E0F (x:Val) (lo hi:Option Val):Option Val :=
 match x with
 | .c (.s s)=>(bound lo 0).bind λl=>(bound hi s.length).bind λh=>if l<=h/\h<=s.length then A4 (.c (.s ((s.take h).drop l))) else A7
 | _=>A7
def D29 (sz:Nat) (x:Val) (lo hi:Option Val):Option Val :=
 match x with
 | .c (.sl id off len sz')=>(bound lo 0).bind λl=>(bound hi len).bind λh=>if l<=h/\h<=len/\sz=sz' then A4 (.c (.sl id (off+l*sz) (h-l) sz)) else A7
 | .c .ns=>(bound lo 0).bind λl=>(bound hi 0).bind λh=>if l=0/\h=0 then A4 (.c .ns) else A7
 | _=>A7
def B5X (hp:B5) (n sz:Nat) (x:Val) (lo hi:Option Val):Option Val :=
 match x with
 | .c (.p id off)=>(rd hp id).bind λr=>(bound lo 0).bind λl=>(bound hi n).bind λh =>
   if l<=h/\h<=n/\off+n*sz<=r.cells.length/\(r.rw||(r.cells[off]?).any λc=>!c.isX)=A5 then A4 (.c (.sl id (off+l*sz) (h-l) sz)) else A7
 | _=>A7
def tY (x:Val) (off:Nat):Option Val :=
 match x with
 | .c (.p id o)=>A4 (.c (.p id (o+off)))
 | _=>A7
def I3 (n sz:Nat) (x i:Val):Option Val :=
 match x,i with
 | .c (.p id o),.c (.i _ j)=>if 0<=j/\j<n then A4 (.c (.p id (o+j.toNat*sz))) else A7
 | _,_=>A7
def D9 (sz:Nat) (x i:Val):Option Val :=
 match x,i with
 | .c (.sl id o len sz'),.c (.i _ j)=>if 0<=j/\j<len/\sz=sz' then A4 (.c (.p id (o+j.toNat*sz))) else A7
 | _,_=>A7
def C11 (x:Val) (off:Nat):Option Val :=
 match x with
 | .a l=>(l[off]?).map .c
 | _=>A7
def D5Z (x:Val) (off n:Nat):Option Val :=
 match x with
 | .a l=>if off+n<=l.length then A4 (.a ((l.drop off).take n)) else A7
 | _=>A7
def A45 (n:Nat) (x i:Val):Option Val :=
 match x,i with
 | .a l,.c (.i _ j)=>if 0<=j/\j<n then (l[j.toNat]?).map .c else A7
 | _,_=>A7
def D1D (n sz:Nat) (x i:Val):Option Val :=
 match x,i with
 | .a l,.c (.i _ j)=>if 0<=j/\j<n/\j.toNat*sz+sz<=l.length then A4 (.a ((l.drop (j.toNat*sz)).take sz)) else A7
 | _,_=>A7
def C6g (x i:Val):Option Val :=
 match x,i with
 | .c (.s s),.c (.i _ j)=>if 0<=j then (s[j.toNat]?).map λb=>.c (.i .u8 b.toNat) else A7
 | _,_=>A7
def ofPart:Part->Val
 | .c x=>.c x
 | .a l=>.a l
def D4N (x:Val) (k:Nat):Option Val :=
 match x with
 | .t l=>(l[k]?).map ofPart
 | _=>A7
def D2Y (x:Val):Option Val :=
 match x with
 | .c (.s s)=>A4 (.c (.i .i64 s.length))
 | _=>A7
def D1E (x:Val):Option Val :=
 match x with
 | .c (.sl _ _ len _)=>A4 (.c (.i .i64 len))
 | .c .ns=>A4 (.c (.i .i64 0))
 | _=>A7
def Q6 (h:B5) (sz:Nat):Val->Option (List Cell)
 | .c (.s s)=>if sz=1 then A4 (B4 s) else A7
 | .c (.sl id off len sz')=>if sz=sz' then iW h (.c (.sl id off len sz')) else A7
 | .c .ns=>A4 []
 | _=>A7
def kV (h:B5) (sz:Nat) (x y:Val):Option (Val × B5) :=
 (Q6 h sz y).bind λys =>
  match x with
  | .c .ns=>if ys.length/sz<=1073741824 then A4 (.c (.sl h.length 0 (ys.length/sz) sz),h++[A4 ⟨ys,A5⟩]) else A7
  | .c (.sl id off len sz')=>(rd h id).bind λr =>
    if r.rw=A5/\off=0/\len*sz=r.cells.length/\sz=sz'/\len+ys.length/sz<=1073741824 then
     A4 (.c (.sl h.length 0 (len+ys.length/sz) sz),h.set id A7++[A4 ⟨r.cells++ys,A5⟩]) else A7
  | _=>A7
def A0J (h:B5) (x:Val):Option Val :=
 match x with
 | .c (.sl id _ len _)=>(rd h id).bind λr=>if r.rw=A5/\0<len then A4 x else A7
 | _=>A7
def C6i (x y:Val):Option Val :=
 match x,y with
 | .c (.i k a),.c (.i _ b)=>A4 (.c (.i k (if b > a then b else a)))
 | _,_=>A7
def B7T (x y:Val):Option Val :=
 match x,y with
 | .c (.i k a),.c (.i _ b)=>A4 (.c (.i k (if b<a then b else a)))
 | _,_=>A7
def C6b (h:B5) (sz:Nat) (x y:Val):Option (Val × B5) :=
 match y with
 | .c (.s _)=>A7
 | _=>(Q6 h sz y).bind λys =>
  match x with
  | .c (.sl id off len sz')=>(rd h id).bind λr =>
    if r.rw=A5/\off+len*sz<=r.cells.length/\sz=sz' then
     A4 (.c (.i .i64 (Nat.min (ys.length/sz) len:Nat)),h.set id (A4 ⟨lay r.cells off (ys.take (Nat.min (ys.length/sz) len*sz)),A5⟩)) else A7
  | _=>A7
def C6t:List Val->Option (List (Nat × Nat))
 | []=>A4 []
 | .c (.p id off)::r=>(C6t r).map λl=>(id,off)::l
 | _=>A7
def B5U (fn:Nat) (caps:List Val):Option Val:=(C6t caps).map λl=>.c (.f fn l)
abbrev Y0:=List (Cell × Part)
def A2s (e:Cell × Part):List Cell :=
 match e.2 with
 | .c x=>[.hk A6 e.1,.hx x]
 | .a l=>.hk A5 e.1::l.map .hx
def B6j (es:Y0):List Cell:=.mh::es.flatMap A2s
def C7v (c:Cell) (s:List Cell × Y0):List Cell × Y0 :=
 match c with
 | .hx x=>(x::s.1,s.2)
 | .hk a k=>([],(k,bif a then .a s.1 else .c (s.1.headD .mh))::s.2)
 | _=>s
def D2a (cs:List Cell):Y0:=(cs.foldr C7v ([],[])).2
def D3T (r:Row):Option Y0:=if r.rw=A6/\r.cells=B6j (D2a r.cells) then A4 (D2a r.cells) else A7
def T8 (es:Y0):Row:=⟨B6j es,A6⟩
def vQ (kk:Option IntKind) (c:Cell):Bool :=
 match kk,c with
 | some k,.i k' _=>decide (k'=k)
 | none,.s _=>A5
 | _,_=>A6
def mgo (k:Cell):Y0->Nat->Option (Nat × Part)
 | [],_=>A7
 | e::es,i=>if e.1=k then A4 (i,e.2) else mgo k es (i+1)
def B2c (k:Cell) (es:Y0):Option (Nat × Part):=mgo k es 0
def A9G (k:Cell) (p:Part) (es:Y0):Y0 :=
 match B2c k es with
 | some (i,_)=>es.set i (k,p)
 | none=>es++[(k,p)]
def A5n (kk:Option IntKind) (k:Cell) (es:Y0):Bool:=vQ kk k&&es.all λe=>vQ kk e.1
def D7w (h:B5):Val->Option Y0
 | .c .nm=>A4 []
 | .c (.m id)=>(rd h id).bind D3T
 | _=>A7
def C7l:Val->Option Cell
 | .c x=>A4 x
 | _=>A7
def C7R:Val->Option Part
 | .c x=>A4 (.c x)
 | .a l=>A4 (.a l)
 | _=>A7
def A6E (ok:Bool) (p:Part) (f:Bool):Val:=match ok with
 | true=>.t [p,.c (.b f)]
 | false=>match p with
  | .c x=>.c x
  | .a l=>.a l
def A8T (h:B5) (kk:Option IntKind) (zero:Part) (ok:Bool) (m k:Val):Option Val :=
 (C7l k).bind λk=>(D7w h m).bind λes=>if A5n kk k es=A5 then
  A4 (match B2c k es with
   | some (_,p)=>A6E ok p A5
   | none=>A6E ok zero A6) else A7
def A3O (h:B5) (kk:Option IntKind) (m k x:Val):Option B5 :=
 match m with
 | .c (.m id)=>(C7l k).bind λk=>(C7R x).bind λp=>(rd h id).bind λr=>(D3T r).bind λes=>if A5n kk k es=A5 then
  A4 (h.set id (A4 (T8 (A9G k p es)))) else A7
 | _=>A7
def D21 (h:B5) (kk:Option IntKind) (zero:Part) (m k:Val):Option (Val × B5) :=
 match m with
 | .c (.m id)=>(C7l k).bind λk=>(rd h id).bind λr=>(D3T r).bind λes=>if A5n kk k es=A5 then
  A4 (match B2c k es with
   | some (i,p)=>(.t [p,.c (.i .i64 i)],h)
   | none=>(.t [zero,.c (.i .i64 es.length)],h.set id (A4 (T8 (es++[(k,zero)]))))) else A7
 | _=>A7
def D22 (h:B5) (m s x:Val):Option B5 :=
 match m,s with
 | .c (.m id),.c (.i .i64 n)=>(C7R x).bind λp=>(rd h id).bind λr=>(D3T r).bind λes=>if 0<=n then (es[n.toNat]?).bind λe=>A4 (h.set id (A4 (T8 (es.set n.toNat (e.1,p))))) else A7
 | _,_=>A7
def A6B:Val->Option Nat
 | .c (.i .i64 n)=>if 0<=n/\n<=1073741824 then A4 n.toNat else A7
 | _=>A7
def rows (zero:List Cell) (n:Nat):List Cell:=(E5R n zero).flatten
def C4f (l:List (Nat × Nat)):List Val:=l.map λq=>.c (.p q.1 q.2)
abbrev O3:=Nat->List Val->B5->Option (Val × B5)
def Row.head (r:Row):Bool :=
 match r.cells with
 | .mh::l=>l.all Cell.isX
 | _=>A6
def Row.own (r:Row):Bool:=r.rw||r.head
open Classical in
def quiet (h:B5) (r:Option (Val × B5)):Option (Val × B5) :=
 r.bind λp=>if h <+: p.2/\(∀ id x,h.length<=id->rd p.2 id=A4 x->x.own=A5) then A4 p else A7
def A3R (E:O3) (f:Val) (args:List Val) (h:B5):Option (Val × B5) :=
 match f with
 | .c (.f g caps)=>E g (args++C4f caps) h
 | _=>A7
def E2m (x:Val):Option (List UInt8) :=
 match x with
 | .c (.s s)=>if s.length<=1073741824 then A4 s else A7
 | _=>A7
def A2T (x y:Val):Option Nat:=(A6B x).bind λn=>(A6B y).bind λc=>if n<=c then A4 n else A7
def B7O (h:B5) (sz:Nat) (zero:List Cell) (x y:Val):Option (Val × B5) :=
 (A6B y).bind λn =>
  match x with
  | .c .ns=>A4 (.c (.sl h.length 0 n sz),h++[A4 ⟨rows zero n,A5⟩])
  | .c (.sl id off len sz')=>(rd h id).bind λr =>
    if r.rw=A5/\off=0/\len*sz=r.cells.length/\sz=sz'/\len+n<=1073741824 then
     A4 (.c (.sl h.length 0 (len+n) sz),h.set id A7++[A4 ⟨r.cells++rows zero n,A5⟩]) else A7
  | _=>A7
variable {R:Type}
def cnd (v:Val) (a b:Option R):Option R :=
 match v with
 | .c (.b x)=>bif x then a else b
 | _=>A7
def aop (E:O3) (q:Bool) (hr:B5) (n0:Nat) (slot:Option Nat) (o:AOp) (e:Env) (h:B5) (k:Val->B5->Option R):Option R :=
 match o with
 | .mv x=>k (e.ev x) h
 | .nilrow sz=>let p:=dZ h n0 slot ⟨[],A5⟩;k (.c (.sl p.1 0 0 sz)) p.2
 | .pick c a b=>(D26 (e.ev c) (e.ev a) (e.ev b)).bind λv=>k v h
 | .alloc zero=>let p:=dZ h n0 slot ⟨zero,A5⟩;k (.c (.p p.1 0)) p.2
 | .box x=>(cells? (e.ev x)).bind λcs=>let p:=dZ h n0 slot ⟨cs,A5⟩;k (.c (.p p.1 0)) p.2
 | .build zero parts=>(E6 zero (parts.map λp=>(p.1,p.2.1,e.ev p.2.2))).bind λcs=>k (.a cs) h
 | .buildSl sz len zero parts=>(E6 zero (parts.map λp=>(p.1,p.2.1,e.ev p.2.2))).bind λcs=>let p:=dZ h n0 slot ⟨cs,A5⟩;k (.c (.sl p.1 0 len sz)) p.2
 | .load1 a=>(B8 hr (e.ev a)).bind λv=>k v h
 | .loadN n a=>(D4 hr n (e.ev a)).bind λv=>k v h
 | .store1 a x=>(I5 h (e.ev a) (e.ev x)).bind λh=>k .un h
 | .storeN n a x=>(E5 h n (e.ev a) (e.ev x)).bind λh=>k .un h
 | .bin op x y=>(N4 op (e.ev x) (e.ev y)).bind λv=>k v h
 | .eqA neg sh x y=>(aeq neg sh (e.ev x) (e.ev y)).bind λv=>k v h
 | .eqB neg x y=>(D4L neg (e.ev x) (e.ev y)).bind λv=>k v h
 | .eqN fn neg x=>(D1C fn neg (e.ev x)).bind λv=>k v h
 | .nilc x=>(A5U (e.ev x)).bind λv=>k v h
 | .un op x=>(aun op (e.ev x)).bind λv=>k v h
 | .conv kd x=>(D2V kd (e.ev x)).bind λv=>k v h
 | .convS x=>(D1A (e.ev x)).bind λv=>k v h
 | .s2b x=>(E2m (e.ev x)).bind λs=>let p:=dZ h n0 slot ⟨B4 s,A5⟩;k (.c (.sl p.1 0 s.length 1)) p.2
 | .b2s x=>(B5P hr (e.ev x)).bind λv=>k v h
 | .b2sN own x=>(C1X h n0 own (e.ev x)).bind λv=>k v h
 | .mark x=>(A0J h (e.ev x)).bind λv=>k v h
 | .mkf fn caps=>(B5U fn (caps.map e.ev)).bind λv=>k v h
 | .mkSl sz zero len cap=>(A2T (e.ev len) (e.ev cap)).bind λn=>let p:=dZ h n0 slot ⟨rows zero n,A5⟩;k (.c (.sl p.1 0 n sz)) p.2
 | .slS x lo hi=>(E0F (e.ev x) (lo.map e.ev) (hi.map e.ev)).bind λv=>k v h
 | .slL sz x lo hi=>(D29 sz (e.ev x) (lo.map e.ev) (hi.map e.ev)).bind λv=>k v h
 | .slA n sz x lo hi=>(B5X hr n sz (e.ev x) (lo.map e.ev) (hi.map e.ev)).bind λv=>k v h
 | .fAddr x off=>(tY (e.ev x) off).bind λv=>k v h
 | .iAddrA n sz x i=>(I3 n sz (e.ev x) (e.ev i)).bind λv=>k v h
 | .iAddrL sz x i=>(D9 sz (e.ev x) (e.ev i)).bind λv=>k v h
 | .fld1 x off=>(C11 (e.ev x) off).bind λv=>k v h
 | .fldN x off n=>(D5Z (e.ev x) off n).bind λv=>k v h
 | .idxA1 n x i=>(A45 n (e.ev x) (e.ev i)).bind λv=>k v h
 | .idxAN n sz x i=>(D1D n sz (e.ev x) (e.ev i)).bind λv=>k v h
 | .idxS x i=>(C6g (e.ev x) (e.ev i)).bind λv=>k v h
 | .ext x j=>(D4N (e.ev x) j).bind λv=>k v h
 | .call f args=>(bif q then quiet h (E f (args.map e.ev) h) else E f (args.map e.ev) h).bind λp=>k p.1 p.2
 | .callV f args=>(bif q then quiet h (A3R E (e.ev f) (args.map e.ev) h) else A3R E (e.ev f) (args.map e.ev) h).bind λp=>k p.1 p.2
 | .len x=>(D1E (e.ev x)).bind λv=>k v h
 | .lenS x=>(D2Y (e.ev x)).bind λv=>k v h
 | .app sz x y=>(kV h sz (e.ev x) (e.ev y)).bind λp=>k p.1 p.2
 | .appZ sz zero x y=>(B7O h sz zero (e.ev x) (e.ev y)).bind λp=>k p.1 p.2
 | .max x y=>(C6i (e.ev x) (e.ev y)).bind λv=>k v h
 | .min x y=>(B7T (e.ev x) (e.ev y)).bind λv=>k v h
 | .copy sz x y=>(C6b h sz (e.ev x) (e.ev y)).bind λp=>k p.1 p.2
 | .mkMap=>let p:=dZ h n0 slot (T8 []);k (.c (.m p.1)) p.2
 | .look kk z ok m x=>(A8T hr kk z ok (e.ev m) (e.ev x)).bind λv=>k v h
 | .mput kk m x y=>(A3O h kk (e.ev m) (e.ev x) (e.ev y)).bind λh=>k .un h
 | .ment kk z m x=>(D21 h kk z (e.ev m) (e.ev x)).bind λp=>k p.1 p.2
 | .mset m x y=>(D22 h (e.ev m) (e.ev x) (e.ev y)).bind λh=>k .un h
def gd (v:Val) (want:Bool) (a b:Option (Val × B5)):Option (Val × B5) :=
 match v with
 | .c (.b x)=>bif x==want then a else b
 | .no=>b
 | _=>A7
def Y7 (E:O3) (q:Bool) (hr:B5) (n0:Nat) (o:AOper) (e:Env) (h:B5) (k:Val->B5->Option R):Option R :=
 match o.guard with
 | none=>aop E q hr n0 o.slot o.op e h k
 | some g=>(gd (e.get g.1) g.2 (aop E q hr n0 o.slot o.op e h λv h=>A4 (v,h)) (A4 (.no,h))).bind λp=>k p.1 p.2
def B1c (E:O3) (l:List AOper):Env->B5->(Env->B5->Option R)->Option R :=
 List.rec (motive:=λ_=>Env->B5->(Env->B5->Option R)->Option R) (λe h k=>k e h) (λo _ ih e h k=>Y7 E A6 h 0 o e h λv h=>ih (e.put o.dst v) h k) l
def D0c (E:O3) (o:AOper) (r:List AOper) (e:Env) (h:B5) (k:Env->B5->Option R):B1c E (o::r) e h k=Y7 E A6 h 0 o e h λv h=>B1c E r (e.put o.dst v) h k:=rfl
def B3T (E:O3) (hr:B5) (n0:Nat) (l:List AOper):Env->B5->(Env->B5->Option R)->Option R :=
 List.rec (motive:=λ_=>Env->B5->(Env->B5->Option R)->Option R) (λe h k=>k e h) (λo _ ih e h k=>Y7 E A5 hr n0 o e h λv h=>ih (e.put o.dst v) h k) l
def C6c (E:O3) (hr:B5) (n0:Nat) (o:AOper) (r:List AOper) (e:Env) (h:B5) (k:Env->B5->Option R):B3T E hr n0 (o::r) e h k=Y7 E A5 hr n0 o e h λv h=>B3T E hr n0 r (e.put o.dst v) h k:=rfl
def A8w (h:B5) (o:AOp) (e:Env):Option Val :=
 match o with
 | .load1 a=>B8 h (e.ev a)
 | .loadN n a=>D4 h n (e.ev a)
 | _=>A7
open Classical in
def agn (x:Option Val) (v:Val) (k:Option R):Option R:=if x=A4 v then k else A7
def again (l:List (Nat × AOp)) (e:Env) (h:B5) (k:Option R):Option R :=
 List.rec (motive:=λ_=>Option R) k (λc _ ih=>agn (A8w h c.2 e) (e.get c.1) ih) l
def C6e (c:Nat × AOp) (l:List (Nat × AOp)) (e:Env) (h:B5) (k:Option R):again (c::l) e h k=agn (A8w h c.2 e) (e.get c.1) (again l e h k):=rfl
inductive AExit where
 | normal
 | exit (id:Nat)
 | ret
abbrev B3d (R:Type):=AExit->Env->B5->Option R
abbrev Sm (R:Type):=B3d R->Env->B5->Option R
def E15 (keep:List Nat) (again:Env->B5->Option R) (k:B3d R):B3d R:=λx e h=>match x with | .normal=>again (e.keep keep) h | .exit id=>k (.exit id) e h | .ret=>k .ret e h
def A7Y (c:Sm R) (keep:List Nat) (k:B3d R) (n:Nat):Env->B5->Option R :=
 Nat.rec (motive:=λ_=>Env->B5->Option R) (λ_ _=>A7) (λ_ ih e h=>c (E15 keep ih k) e h) n
def C16 (c:Sm R) (keep:List Nat) (k:B3d R) (e:Env) (h:B5):A7Y c keep k 0 e h=A7:=rfl
def C15 (c:Sm R) (keep:List Nat) (k:B3d R) (n:Nat) (e:Env) (h:B5):A7Y c keep k (n+1) e h=c (λx e h=>match x with | .normal=>A7Y c keep k n (e.keep keep) h | .exit id=>k (.exit id) e h | .ret=>k .ret e h) e h:=rfl
def hold {α:Type} (x:α):α:=(λ_=>x) gd
def E0g:Sm R:=λk e h=>(λ_=>k .normal e h) (@B1c Nat)
def E0f (E:O3) (l:List AOper):Sm R:=λk e h=>B1c E l e h λe h=>k .normal e h
def D5L (E:O3) (m:Nat) (l r:List AOper):Sm R:=λk e h=>B3T E h h.length l e (h++E5R m A7) λe h=>B1c E r e h λe h=>k .normal e h
def D2A (E:O3) (m:Nat) (l:List AOper) (s:AOper) (chk:List (Nat × AOp)) (r:List AOper):Sm R:=λk e h=>B3T E h h.length l e (h++E5R m A7) λe h=>Y7 E A6 h 0 s e h λv h2=>again chk e h2 (B1c E r (e.put s.dst v) h2 λe h=>k .normal e h)
def E03 (keep:List Nat) (b:Sm R) (k:B3d R):B3d R:=λx e h=>match x with | .normal=>hold (b k (e.keep keep) h) | .exit id=>k (.exit id) e h | .ret=>k .ret e h
def D5e (id:Nat) (k:B3d R):B3d R:=λx e h=>match x with | .exit i=>bif Nat.beq i id then k .normal e h else k (.exit i) e h | .normal=>k .normal e h | .ret=>k .ret e h
def D4y (keep:List Nat) (a b:Sm R):Sm R:=λk e h=>a (E03 keep b k) e h
def C76 (c:Opd) (a b:Sm R):Sm R:=λk e h=>(λ_=>cnd (e.ev c) (a k e h) (b k e h)) (@B1c Nat)
def B88 (id:Nat) (a:Sm R):Sm R:=λk e h=>(λ_=>a (D5e id k) e h) (@B1c Nat)
def C77 (n:Nat) (keep:List Nat) (a:Sm R):Sm R:=λk e h=>(λ_=>A7Y a keep k n (e.keep keep) h) (@B1c Nat)
def E0e (id:Nat):Sm R:=λk e h=>(λ_=>k (.exit id) e h) (@B1c Nat)
def E2a:Sm R:=λk e h=>(λ_=>k .ret e h) (@B1c Nat)
def aex (E:O3) (n:Nat):ACode->Sm R
 | .skip=>E0g
 | .ops l=>E0f E l
 | .draw m l r=>D5L E m l r
 | .drawS m l s chk r=>D2A E m l s chk r
 | .seq keep a b=>D4y keep (aex E n a) (aex E n b)
 | .cond c a b=>C76 c (aex E n a) (aex E n b)
 | .block id a=>B88 id (aex E n a)
 | .loop keep a=>C77 n keep (aex E n a)
 | .exit id=>E0e id
 | .ret=>E2a
def ax (E:O3) (n:Nat) (c:ACode):Sm R :=
 ACode.rec (motive:=λ_=>Sm R) E0g (λl=>E0f E l) (λm l r=>D5L E m l r) (λm l s chk r=>D2A E m l s chk r) (λkeep _ _ a b=>D4y keep a b) (λc _ _ a b=>C76 c a b) (λid _ a=>B88 id a) (λkeep _ a=>C77 n keep a) (λid=>E0e id) E2a c
def B7W (E:O3) (n:Nat):∀ c:ACode,(ax E n c:Sm R)=aex E n c
 | .skip=>rfl
 | .ops _=>rfl
 | .draw _ _ _=>rfl
 | .drawS _ _ _ _ _=>rfl
 | .seq keep a b=>by show D4y keep (ax E n a) (ax E n b)=D4y keep (aex E n a) (aex E n b);rw [B7W E n a,B7W E n b]
 | .cond c a b=>by show C76 c (ax E n a) (ax E n b)=C76 c (aex E n a) (aex E n b);rw [B7W E n a,B7W E n b]
 | .block id a=>by show B88 id (ax E n a)=B88 id (aex E n a);rw [B7W E n a]
 | .loop keep a=>by show C77 n keep (ax E n a)=C77 n keep (aex E n a);rw [B7W E n a]
 | .exit _=>rfl
 | .ret=>rfl
inductive ARes where
 | tmp (t:Nat)
 | cell1 (t:Nat)
 | cellN (t n:Nat)
def D6W (e:Env) (h:B5):ARes->Option Val
 | .tmp t=>A4 (e.get t)
 | .cell1 t=>B8 h (e.get t)
 | .cellN t n=>D4 h n (e.get t)
def rZ:Val->Option Part
 | .c x=>A4 (.c x)
 | .a l=>A4 (.a l)
 | _=>A7
def C14 (e:Env) (h:B5):List ARes->Option (List Part)
 | []=>A4 []
 | r::l=>(D6W e h r).bind λv=>(rZ v).bind λp=>(C14 e h l).map λq=>p::q
def oD (rs:List ARes) (e:Env) (h:B5):Option (Val × B5) :=
 match rs with
 | [r]=>(D6W e h r).map λv=>(v,h)
 | rs=>(C14 e h rs).map λl=>(.t l,h)
def C8i:List (Option Val)->Option (List Part)
 | []=>A4 []
 | r::l=>r.bind λv=>(rZ v).bind λp=>(C8i l).map λq=>p::q
def C8h (l:List (Option Val)) (h:B5):Option (Val × B5):=(C8i l).map λl=>(.t l,h)
structure AFn where
 code:ACode
 res:List ARes
def params:Nat->List Val->Env
 | _,[]=>[]
 | i,v::r=>(i,v)::params (i+1) r
def AFn.fin (f:AFn):AExit->Env->B5->Option (Val × B5)
 | .normal,e,h=>oD f.res e h
 | .ret,e,h=>oD f.res e h
 | .exit _,_,_=>A7
def AFn.run (f:AFn) (E:O3) (n:Nat) (args:List Val) (h:B5):Option (Val × B5) :=
 aex E n f.code f.fin (params 0 args) h
def E2n {f:AFn} {E:O3} {n:Nat} {args:List Val} {h:B5}:f.run E n args h=ax E n f.code f.fin (params 0 args) h:=by
 rw [B7W];rfl
def aO (d:Nat) (x:AOp):AOper:={ dst:=A4 d,op:=x }
def aN (x:AOp):AOper:={ dst:=A7,op:=x }
def aG (d g:Nat) (w:Bool) (x:AOp):AOper:={ dst:=A4 d,op:=x,guard:=A4 (g,w) }
def aS (d s:Nat) (x:AOp):AOper:={ dst:=A4 d,op:=x,slot:=A4 s }
def aM (d t:Nat):AOper:=aO d (.mv (.t t))
def aL (d t:Nat):AOper:=aO d (.load1 (.t t))
def aL' (d n t:Nat):AOper:=aO d (.loadN n (.t t))
def aF (d t k:Nat):AOper:=aO d (.fAddr (.t t) k)
def aB (d t:Nat):AOper:=aO d (.box (.t t))
def sO (k:List Nat) (l:List AOper) (b:ACode):ACode:=.seq k (.ops l) b
end
def All2 {α β:Type} (R:α -> β -> Prop):List α -> List β -> Prop
 | [],[]=>True
 | a::l,b::m=>R a b/\All2 R l m
 | _,_=>False
section
variable {α β:Type} {R S:α -> β -> Prop}
@[simp] theorem All2.nil_nil:All2 R [] []=True:=rfl
@[simp] theorem All2.cons_cons {a:α} {l:List α} {b:β} {m:List β}:All2 R (a::l) (b::m)=(R a b/\All2 R l m):=rfl
@[simp] theorem All2.nil_cons {b:β} {m:List β}:All2 R [] (b::m)=False:=rfl
@[simp] theorem All2.cons_nil {a:α} {l:List α}:All2 R (a::l) []=False:=rfl
def All2.mono (h:∀ a b,R a b->S a b):∀ {l:List α} {m:List β},All2 R l m->All2 S l m
 | [],[],_=>trivial
 | _::_,_::_,⟨h1,h2⟩=>⟨h _ _ h1,All2.mono h h2⟩
 | [],_::_,h=>h.elim
 | _::_,[],h=>h.elim
def All2.length:∀ {l:List α} {m:List β},All2 R l m->l.length=m.length
 | [],[],_=>rfl
 | _::_,_::_,⟨_,h2⟩=>by simp [All2.length h2]
 | [],_::_,h=>h.elim
 | _::_,[],h=>h.elim
def All2.get:∀ {l:List α} {m:List β},All2 R l m->∀ (i:Nat) (a:α),l[i]?=A4 a->∃ b,m[i]?=A4 b/\R a b
 | [],[],_,i,a,h=>by simp at h
 | x::l,y::m,⟨h1,h2⟩,0,a,h=>by simp at h;subst h;exact ⟨y,rfl,h1⟩
 | x::l,y::m,⟨h1,h2⟩,i+1,a,h=>by simp at h;simpa using All2.get h2 i a h
 | [],_::_,h,_,_,_=>h.elim
 | _::_,[],h,_,_,_=>h.elim
def All2.of_get:∀ {l:List α} {m:List β},l.length=m.length->(∀ (i:Nat) (a:α) (b:β),l[i]?=A4 a->m[i]?=A4 b->R a b)->All2 R l m
 | [],[],_,_=>trivial
 | x::l,y::m,hl,h=>⟨h 0 x y rfl rfl,All2.of_get (by simpa using hl) λi a b h1 h2=>h (i+1) a b (by simpa using h1) (by simpa using h2)⟩
 | [],_::_,h,_=>by simp at h
 | _::_,[],h,_=>by simp at h
def All2.append:∀ {l l':List α} {m m':List β},All2 R l m->All2 R l' m'->All2 R (l++l') (m++m')
 | [],_,[],_,_,h=>h
 | _::_,_,_::_,_,⟨h1,h2⟩,h=>⟨h1,All2.append h2 h⟩
 | [],_,_::_,_,h,_=>h.elim
 | _::_,_,[],_,h,_=>h.elim
def All2.take:∀ {l:List α} {m:List β} (n:Nat),All2 R l m->All2 R (l.take n) (m.take n)
 | [],[],n,_=>by simp
 | _::_,_::_,0,_=>by simp
 | _::_,_::_,n+1,⟨h1,h2⟩=>by simpa using ⟨h1,All2.take n h2⟩
 | [],_::_,_,h=>h.elim
 | _::_,[],_,h=>h.elim
def All2.drop:∀ {l:List α} {m:List β} (n:Nat),All2 R l m->All2 R (l.drop n) (m.drop n)
 | [],[],n,_=>by simp
 | _::_,_::_,0,h=>by simpa using h
 | _::_,_::_,n+1,⟨_,h2⟩=>by simpa using All2.drop n h2
 | [],_::_,_,h=>h.elim
 | _::_,[],_,h=>h.elim
def All2.flatten_replicate {l:List α} {m:List β} (h:All2 R l m):∀ n,All2 R (E5R n l).flatten (E5R n m).flatten
 | 0=>trivial
 | n+1=>by simpa [E6k] using h.append (All2.flatten_replicate h n)
end
abbrev Mu:=Nat->Option (Nat × Nat)
def Mu.le (m m':Mu):Prop:=∀ id x,m id=A4 x->m' id=A4 x
def Mu.le_refl (m:Mu):m.le m:=λ_ _ h=>h
def Mu.le_trans {a b c:Mu} (h:a.le b) (k:b.le c):a.le c:=λ_ _ x=>k _ _ (h _ _ x)
def RPtr (μ:Mu) (q:Nat × Nat) (V:Value):Prop:=∃ b n,μ q.1=A4 (b,n)/\V=.pointer (A4 ⟨b,q.2,A7⟩)
def RC (μ:Mu):Cell->Value->Prop
 | .b x,V=>V=.bool x
 | .i k n,V=>V=.int k n
 | .s x,V=>V=.string ⟨x.toArray⟩
 | .p id off,V=>RPtr μ (id,off) V
 | .np,V=>V=.pointer A7
 | .sl id off len sz,V=>(∃ b n cap,μ id=A4 (b,n)/\len<=cap/\off+cap*sz<=n/\V=.slice (A4 ⟨b,off,A7⟩) len cap)\/(len=0/\∃ a,V=.slice a 0 0)
 | .ns,V=>V=.slice A7 0 0
 | .f fn caps,V=>∃ cs:List Value,V=.func (.func fn) #[] cs.toArray/\All2 (RPtr μ) caps cs
 | .nf,V=>V=.nilFunc
 | .m id,V=>∃ b n,μ id=A4 (b,n)/\V=.map (A4 b)
 | .nm,V=>V=.map A7
 | .dark,_=>False
 | .mh,_=>False
 | .hk _ _,_=>False
 | .hx _,_=>False
def RPtr.mono {μ μ':Mu} (h:μ.le μ') {q:Nat × Nat} {V:Value}:RPtr μ q V->RPtr μ' q V :=
 λ⟨b,n,h1,h2⟩=>⟨b,n,h _ _ h1,h2⟩
def RC.mono {μ μ':Mu} (h:μ.le μ') {c:Cell} {V:Value} (hc:RC μ c V):RC μ' c V:=by
 cases c with
 | p id off=>exact RPtr.mono h hc
 | sl id off len sz =>
  rcases hc with ⟨b,n,cap,h1,h2⟩ | hc
  ·exact .inl ⟨b,n,cap,h _ _ h1,h2⟩
  ·exact .inr hc
 | f fn caps=>obtain ⟨cs,h1,h2⟩:=hc;exact ⟨cs,h1,h2.mono λ_ _=>RPtr.mono h⟩
 | m id=>obtain ⟨b,n,h1,h2⟩:=hc;exact ⟨b,n,h _ _ h1,h2⟩
 | _=>exact hc
def RC.one {μ:Mu} {c:Cell} {V:Value} (hc:RC μ c V):V.oneCell'=A5:=by
 cases c with
 | sl id off len sz=>rcases hc with ⟨b,n,cap,_,_,_,rfl⟩ | ⟨_,a,rfl⟩<;>rfl
 | p id off=>obtain ⟨b,n,_,rfl⟩:=hc;rfl
 | f fn caps=>obtain ⟨cs,rfl,_⟩:=hc;rfl
 | m id=>obtain ⟨b,n,_,rfl⟩:=hc;rfl
 | b x=>cases hc;rfl
 | i k n=>cases hc;rfl
 | s x=>cases hc;rfl
 | np=>cases hc;rfl
 | ns=>cases hc;rfl
 | nf=>cases hc;rfl
 | nm=>cases hc;rfl
 | dark=>exact hc.elim
 | mh=>exact hc.elim
 | hk _ _=>exact hc.elim
 | hx _=>exact hc.elim
def RC.cells {μ:Mu} {c:Cell} {V:Value} (hc:RC μ c V):V.cells = #[V]:=by
 have:=hc.one;cases V<;>simp_all [Value.oneCell',Value.cells]
def RP (μ:Mu):Part->Value->Prop
 | .c x,V=>RC μ x V
 | .a l,V=>∃ vs:List Value,V=.agg vs.toArray/\All2 (RC μ) l vs
def RV (μ:Mu):Val->Value->Prop
 | .un,_=>True
 | .no,V=>V=undef
 | .c x,V=>RC μ x V
 | .a l,V=>∃ vs:List Value,V=.agg vs.toArray/\All2 (RC μ) l vs
 | .t l,V=>∃ vs:List Value,V=.tuple vs.toArray/\All2 (RP μ) l vs
def RP.mono {μ μ':Mu} (h:μ.le μ') {c:Part} {V:Value} (hc:RP μ c V):RP μ' c V:=by
 cases c with
 | c x=>exact RC.mono h hc
 | a l=>obtain ⟨vs,h1,h2⟩:=hc;exact ⟨vs,h1,h2.mono λ_ _=>RC.mono h⟩
def RV.mono {μ μ':Mu} (h:μ.le μ') {c:Val} {V:Value} (hc:RV μ c V):RV μ' c V:=by
 cases c with
 | un=>trivial
 | no=>exact hc
 | c x=>exact RC.mono h hc
 | a l=>obtain ⟨vs,h1,h2⟩:=hc;exact ⟨vs,h1,h2.mono λ_ _=>RC.mono h⟩
 | t l=>obtain ⟨vs,h1,h2⟩:=hc;exact ⟨vs,h1,h2.mono λ_ _=>RP.mono h⟩
def RV.cells {μ:Mu} {v:Val} {V:Value} {cs:List Cell} (h:RV μ v V) (hc:cells? v=A4 cs):All2 (RC μ) cs V.cells.toList:=by
 cases v with
 | c x=>simp [cells?] at hc;subst hc;rw [RC.cells h];exact ⟨h,trivial⟩
 | a l=>simp [cells?] at hc;subst hc;obtain ⟨vs,rfl,h2⟩:=h;simpa [Value.cells] using h2
 | un=>simp [cells?] at hc
 | no=>simp [cells?] at hc
 | t l=>simp [cells?] at hc
def RV.ofPart {μ:Mu} {p:Part} {V:Value} (h:RP μ p V):RV μ (ofPart p) V:=by
 cases p<;>exact h
def RP.ofVal {μ:Mu} {v:Val} {p:Part} {V:Value} (h:RV μ v V) (hp:rZ v=A4 p):RP μ p V:=by
 cases v<;>simp [rZ] at hp<;>subst hp<;>exact h
def RL (μ:Mu) (rw:Bool) (c:Cell) (V:Value):Prop:=RC μ c V\/(rw=A6/\c.isD=A5)
def C7k {c:Cell} (h:c.isD=A5):c.isX=A5:=by cases c<;>simp_all [Cell.isD,Cell.isX]
def RL.mono {μ μ':Mu} (h:μ.le μ') {rw:Bool} {c:Cell} {V:Value}:RL μ rw c V->RL μ' rw c V
 | .inl k=>.inl (k.mono h)
 | .inr k=>.inr k
def RL.told {μ:Mu} {rw:Bool} {c:Cell} {V:Value} (h:RL μ rw c V) (hx:(rw || !c.isX)=A5):RC μ c V:=by
 rcases h with h | ⟨h1,h2⟩
 ·exact h
 ·rw [h1,C7k h2] at hx;cases hx
def RL.all {μ:Mu} {rw:Bool}:∀ {l:List Cell} {vs:List Value},All2 (RL μ rw) l vs->(rw||noX l)=A5->All2 (RC μ) l vs
 | [],[],_,_=>trivial
 | c::l,V::vs,⟨h1,h2⟩,hx=>by
  have hx':(rw || !c.isX)=A5/\(rw||noX l)=A5:=by
   cases rw<;>simp_all [noX]
  exact ⟨h1.told hx'.1,RL.all h2 hx'.2⟩
 | [],_::_,h,_=>h.elim
 | _::_,[],h,_=>h.elim
def RE (μ:Mu) (e:Cell × Part) (E:MapEntry):Prop:=RC μ e.1 E.key/\RP μ e.2 E.val
def RE.mono {μ μ':Mu} (h:μ.le μ') {e:Cell × Part} {E:MapEntry} (k:RE μ e E):RE μ' e E:=⟨k.1.mono h,k.2.mono h⟩
def MemOk (μ:Mu) (w:World) (b n:Nat) (r:Row):Prop :=
 ∃ C elem fz,w.heap[b]?=A4 (.cells C elem fz)/\C.size=n/\All2 (RL μ r.rw) r.cells (C.toList.take r.cells.length)/\(r.rw=A5->fz.1=fz.2\/n<=fz.1)
def E3D (μ:Mu) (w:World) (b:Nat) (r:Row):Prop :=
 ∃ es E,r=T8 es/\w.heap[b]?=A4 (.map E E.size)/\All2 (RE μ) es E.toList/\∀ (i:Nat) (e:MapEntry),E[i]?=A4 e->e.born=i
def E2b (w:World) (b:Nat) (r:Row):Prop:=r.rw=A6/\b<w.heap.size/\r.cells.all Cell.isD=A5
def RowOk (μ:Mu) (w:World) (id:Nat) (r:Row):Prop :=
 match μ id with
 | none=>r.cells=[]
 | some (b,n)=>MemOk μ w b n r\/E3D μ w b r\/E2b w b r
def D1L (e:Cell × Part):∀ c∈A2s e,c.isX=A5:=by
 intro c hc;unfold A2s at hc;split at hc
 ·simp at hc;rcases hc with rfl | rfl<;>rfl
 ·simp at hc;rcases hc with rfl | ⟨x,_,rfl⟩<;>rfl
def C7r (es:Y0):∀ c∈B6j es,c.isX=A5:=by
 intro c hc;simp only [B6j,List.mem_cons,List.mem_flatMap] at hc;rcases hc with rfl | ⟨e,_,hc⟩
 ·rfl
 ·exact D1L e c hc
def Row.head_mrow (es:Y0):(T8 es).head=A5:=by
 show (es.flatMap A2s).all Cell.isX=A5;rw [E6M];exact λc hc=>C7r es c (E6f _ hc)
def Row.head_isX {r:Row} (h:r.head=A5):∀ c∈r.cells,c.isX=A5:=by
 unfold Row.head at h;split at h
 ·rename_i l hl;intro c hc;rw [hl] at hc;rcases List.mem_cons.1 hc with rfl | hc
  ·rfl
  ·exact List.all_eq_true.1 h c hc
 ·cases h
def Row.own_rw {r:Row} (h:r.rw=A5):r.own=A5:=by simp [Row.own,h]
def Row.own_mrow (es:Y0):(T8 es).own=A5:=by simp [Row.own,Row.head_mrow]
structure Ctx where
 F:Nat->Option Obj
 os:Os
 tape:Nat->Question->Nat
 output:Array (Nat × ByteArray)
 ds:List Deferred:=[]
structure Ctx.ok (Γ:Ctx) (w:World):Prop where
 os:w.os = Γ.os
 tape:w.tape = Γ.tape
 output:w.output = Γ.output
 block:∀ b o,Γ.F b=A4 o->w.heap[b]?=A4 o
structure Inv (Γ:Ctx) (μ:Mu) (h:B5) (w:World):Prop where
 rows:∀ id r,rd h id=A4 r->RowOk μ w id r
 sep:∀ id bT r r' x x',rd h id=A4 r->rd h bT=A4 r'->r.own=A5->id≠bT -> μ id=A4 x -> μ bT=A4 x'->x.1≠x'.1
 own:∀ id r x,rd h id=A4 r->r.own=A5 -> μ id=A4 x -> Γ.F x.1=A7
 dom:∀ id,h.length<=id -> μ id=A7
 ctx:Γ.ok w
def SEnv (μ:Mu) (e:Env) (a:Act):Prop:=∀ t,RV μ (e.get t) (a.tmps.getD t undef)
def SEnv.mono {μ μ':Mu} (h:μ.le μ') {e:Env} {a:Act} (hs:SEnv μ e a):SEnv μ' e a:=λt=>(hs t).mono h
def Env.get_put_same (e:Env) (d:Nat) (v:Val):(e.put (A4 d) v).get d=v:=by simp [Env.put,Env.get]
def Env.get_put_other (e:Env) (d t:Nat) (v:Val) (h:d≠t):(e.put (A4 d) v).get t=e.get t:=by
 have:Nat.beq d t=A6:=by cases hb:Nat.beq d t with
  | false=>rfl
  | true=>exact absurd (Nat.eq_of_beq_eq_true hb) h
 simp [Env.put,Env.get,this]
def SEnv.put {μ:Mu} {e:Env} {a:Act} (hs:SEnv μ e a) {d:Option Nat} {v:Val} {V:Value} (hd:∀ t,d=A4 t->t<a.tmps.size) (hv:RV μ v V) :
  SEnv μ (e.put d v) (a.put d V):=by
 cases d with
 | none=>exact hs
 | some d =>
  intro t;by_cases h:d=t
  ·subst h;rw [Env.get_put_same];have:=hd d rfl;simpa [Act.put,Array.getD,this] using hv
  ·rw [Env.get_put_other _ _ _ _ h];have h1:(a.put (A4 d) V).tmps.getD t undef=a.tmps.getD t undef:=by
    simp [Act.put,Array.getElem?_setIfInBounds_ne h]
   rw [h1];exact hs t
def Act.size_put (a:Act) (d:Option Nat) (V:Value):(a.put d V).tmps.size=a.tmps.size:=by
 cases d<;>simp [Act.put]
def Env.get_keep (e:Env) (l:List Nat) (t:Nat):(e.keep l).get t=e.get t\/(e.keep l).get t=.un:=by
 induction l with
 | nil=>right;rfl
 | cons x r ih =>
  simp only [Env.keep,Env.get];by_cases h:x=t
  ·subst h;left;simp
  ·have:Nat.beq x t=A6:=by cases hb:Nat.beq x t with
    | false=>rfl
    | true=>exact absurd (Nat.eq_of_beq_eq_true hb) h
   simpa [this] using ih
def SEnv.keep {μ:Mu} {e:Env} {a:Act} (hs:SEnv μ e a) (l:List Nat):SEnv μ (e.keep l) a:=by
 intro t;rcases Env.get_keep e l t with h | h
 ·rw [h];exact hs t
 ·rw [h];trivial
def rd_some {h:B5} {id:Nat} {r:Row}:rd h id=A4 r↔h[id]?=A4 (A4 r):=by
 unfold rd;cases h[id]?<;>simp
def C8 {h:B5} {id:Nat} {r:Row} (hr:rd h id=A4 r):id<h.length:=by
 rw [rd_some] at hr;exact (List.getElem?_eq_some_iff.1 hr).1
def E1 {h g:B5} {id:Nat} (hl:id<h.length):rd (h++g) id=rd h id:=by
 unfold rd;rw [E6t hl]
def C5 {h g:B5} {id:Nat} {r:Row} (hr:rd h id=A4 r):rd (h++g) id=A4 r:=by
 rw [E1 (C8 hr)];exact hr
def C6 {h:B5} {id:Nat} {x:Option Row} (hl:id<h.length):rd (h.set id x) id=x:=by
 unfold rd;rw [List.getElem?_set_self hl];rfl
def B6 {h:B5} {id bT:Nat} {x:Option Row} (T1:id≠bT):rd (h.set id x) bT=rd h bT:=by
 unfold rd;rw [List.getElem?_set_ne T1]
def MemOk.mono {μ μ':Mu} {w w':World} {b n:Nat} {r:Row} (hr:MemOk μ w b n r) (dF:μ.le μ') (hb:w'.heap[b]?=w.heap[b]?):MemOk μ' w' b n r:=by
 obtain ⟨C,elem,fz,h1,h2,h3,h4⟩:=hr;exact ⟨C,elem,fz,by rw [hb];exact h1,h2,h3.mono λ_ _=>RL.mono dF,h4⟩
def RowOk.mono {μ μ':Mu} {w w':World} {id:Nat} {r:Row} (hr:RowOk μ w id r) (dF:μ.le μ') (hid:μ' id = μ id)
  (hb:∀ x,μ id=A4 x->w'.heap[x.1]?=w.heap[x.1]?):RowOk μ' w' id r:=by
 unfold RowOk at *;rw [hid];cases hm:μ id with
 | none=>rw [hm] at hr;exact hr
 | some x =>
  obtain ⟨b,n⟩:=x;rw [hm] at hr;have hb:=hb _ hm;simp only at hb;rcases hr with hr | ⟨es,E,h1,h2,h3,h4⟩ | ⟨h1,h2,h3⟩
  ·exact .inl (hr.mono dF hb)
  ·exact .inr (.inl ⟨es,E,h1,by rw [hb];exact h2,h3.mono λ_ _=>RE.mono dF,h4⟩)
  ·refine .inr (.inr ⟨h1,?_,h3⟩);have:w.heap[b]?=A4 w.heap[b]:=by simp [h2]
   rw [this] at hb;exact (Array.getElem?_eq_some_iff.1 hb).1
def RowOk.mem {μ:Mu} {w:World} {id:Nat} {r:Row} (hr:RowOk μ w id r) {b n:Nat} (hm:μ id=A4 (b,n)) (nI:r.rw=A5):MemOk μ w b n r:=by
 unfold RowOk at hr;rw [hm] at hr;rcases hr with hr | ⟨es,E,h1,_⟩ | ⟨h1,_⟩
 ·exact hr
 ·rw [h1] at nI;cases nI
 ·rw [h1] at nI;cases nI
def RowOk.seen {μ:Mu} {w:World} {id:Nat} {r:Row} (hr:RowOk μ w id r) {b n:Nat} (hm:μ id=A4 (b,n)) {c:Cell} (hc:c∈r.cells) (hx:(r.rw || !c.isX)=A5):MemOk μ w b n r:=by
 unfold RowOk at hr;rw [hm] at hr;rcases hr with hr | ⟨es,E,h1,_⟩ | ⟨h1,_,h3⟩
 ·exact hr
 ·rw [h1] at hc hx;have:=C7r es c hc;rw [this] at hx;cases hx
 ·have:=C7k (List.all_eq_true.1 h3 c hc);rw [h1,this] at hx;cases hx
def RowOk.cell {μ:Mu} {w:World} {id:Nat} {r:Row} (hr:RowOk μ w id r) {b n:Nat} (hm:μ id=A4 (b,n)) {off:Nat} {c:Cell} (hc:r.cells[off]?=A4 c) (hx:(r.rw || !c.isX)=A5) :
  ∃ V,w.cell? ⟨b,off,A7⟩=A4 V/\RC μ c V:=by
 obtain ⟨C,elem,fz,h1,h2,h3,h4⟩:=hr.seen hm (E6j hc) hx;obtain ⟨V,hV,hR⟩:=h3.get off c hc;refine ⟨V,?_,hR.told hx⟩;have V7:off<r.cells.length:=(List.getElem?_eq_some_iff.1 hc).1;rw [E6s V7] at hV;simp only [World.cell?,h1];simpa using hV
def RowOk.cells {μ:Mu} {w:World} {id:Nat} {r:Row} (hr:RowOk μ w id r) {b n:Nat} (hm:μ id=A4 (b,n)) (off k:Nat) (hk:off+k<=r.cells.length) (hx:(r.rw||noX ((r.cells.drop off).take k))=A5) :
  ∃ vs:List Value,All2 (RC μ) ((r.cells.drop off).take k) vs/\vs.length=k/\∀ j v,vs[j]?=A4 v->w.cell? ⟨b,off+j,A7⟩=A4 v:=by
 by_cases hk0:k=0
 ·subst hk0;exact ⟨[],by simp,rfl,λj v h=>by simp at h⟩
 have A0d:MemOk μ w b n r:=by
  have V7:off<r.cells.length:=by omega
  refine hr.seen hm (c:=r.cells[off]) (E6v _) ?_;cases nI:r.rw with
  | true=>rfl
  | false =>
   rw [nI] at hx;simp only [Bool.false_or,noX,E6M] at hx ⊢;refine hx _ ?_;obtain ⟨k',rfl⟩:∃ k',k=k'+1:=⟨k-1,by omega⟩;rw [E5X V7,List.take_succ_cons];exact E6g ..
 obtain ⟨C,elem,fz,h1,h2,h3,h4⟩:=A0d;refine ⟨((C.toList.take r.cells.length).drop off).take k,RL.all ((h3.drop off).take k) hx,?_,?_⟩
 ·have:=h3.length;simp at this ⊢;omega
 ·intro j v hv;have hj:j<k:=by
   have:=(List.getElem?_eq_some_iff.1 hv).1;simp at this;omega
  rw [E6s hj,E6J,E6s (by omega)] at hv;simp only [World.cell?,h1];simpa using hv
def RowOk.there {μ:Mu} {w:World} {id:Nat} {r:Row} (hr:RowOk μ w id r) {b n:Nat} (hm:μ id=A4 (b,n)):∃ o,w.heap[b]?=A4 o:=by
 unfold RowOk at hr;rw [hm] at hr;rcases hr with ⟨C,elem,fz,h1,_⟩ | ⟨es,E,_,h1,_⟩ | ⟨_,h1,_⟩
 ·exact ⟨_,h1⟩
 ·exact ⟨_,h1⟩
 ·exact ⟨w.heap[b],by simp [h1]⟩
def D5m (e:Cell × Part) (es:Y0):(A2s e).foldr C7v ([],es)=([],e::es):=by
 have hx:∀ (l:List Cell) (s:Y0),(l.map Cell.hx).foldr C7v ([],s)=(l,s):=by
  intro l s
  induction l with
  | nil=>rfl
  | cons a l ih=>rw [E6X,List.foldr_cons,ih];rfl
 obtain ⟨k,p⟩:=e;cases p with
 | c x=>rfl
 | a l =>
  show (Cell.hk A5 k::l.map .hx).foldr C7v ([],es)=_;rw [List.foldr_cons,hx];rfl
def A5r (es:Y0):D2a (B6j es)=es:=by
 have:∀ es:Y0,(es.flatMap A2s).foldr C7v ([],[])=([],es):=by
  intro es
  induction es with
  | nil=>rfl
  | cons e es ih=>rw [List.flatMap_cons,List.foldr_append,ih,D5m]
 show (C7v .mh ((es.flatMap A2s).foldr C7v ([],[]))).2=es;rw [this];rfl
def A1I (es:Y0):D3T (T8 es)=A4 es:=by
 unfold D3T T8;simp [A5r]
def B23 {r:Row} {es:Y0} (h:D3T r=A4 es):r=T8 es:=by
 unfold D3T at h;split at h
 ·rename_i hc;cases h;obtain ⟨cs,rw⟩:=r;obtain ⟨h1,h2⟩:=hc;simp only at h1 h2;subst h1;show Row.mk cs A6=⟨_,A6⟩;rw [<-h2]
 ·cases h
def RowOk.map {μ:Mu} {w:World} {id:Nat} {es:Y0} (hr:RowOk μ w id (T8 es)) {b n:Nat} (hm:μ id=A4 (b,n)) :
  ∃ E:Array MapEntry,w.heap[b]?=A4 (.map E E.size)/\All2 (RE μ) es E.toList/\∀ (i:Nat) (e:MapEntry),E[i]?=A4 e->e.born=i:=by
 unfold RowOk at hr;rw [hm] at hr;rcases hr with ⟨C,elem,fz,h1,h2,h3,_⟩ | ⟨es',E,h1,h2,h3,h4⟩ | ⟨_,_,h1⟩
 ·exfalso;have hl:=h3.length;cases hC:C.toList.take (T8 es).cells.length with
  | nil=>rw [hC] at hl;simp [T8,B6j] at hl
  | cons v vs =>
   rw [hC] at h3;rcases h3.1 with h | ⟨_,h⟩
   ·exact h
   ·cases h
 ·have:es=es':=by rw [<-A5r es,<-A5r es'];exact congrArg (λr=>D2a r.cells) h1
  subst this;exact ⟨E,h2,h3,h4⟩
 ·simp [T8,B6j,Cell.isD] at h1
def Inv.lt {Γ:Ctx} {μ:Mu} {h:B5} {w:World} (hi:Inv Γ μ h w) {id:Nat} {r:Row} (hr:rd h id=A4 r) {x:Nat × Nat} (hx:μ id=A4 x):x.1<w.heap.size:=by
 obtain ⟨o,h1⟩:=(hi.rows id r hr).there hx;exact (Array.getElem?_eq_some_iff.1 h1).1
def Mu.add (μ:Mu) (id:Nat) (x:Nat × Nat):Mu:=λj=>if j=id then A4 x else μ j
def Mu.le_add {μ:Mu} {id:Nat} {x:Nat × Nat} (h:μ id=A7):μ.le (μ.add id x):=by
 intro j y hj;unfold Mu.add;by_cases e:j=id
 ·subst e;rw [h] at hj;cases hj
 ·simp [e,hj]
def Inv.world {Γ:Ctx} {μ:Mu} {h:B5} {w w':World} (hi:Inv Γ μ h w) (hos:w'.os=w.os) (htape:w'.tape=w.tape) (hout:w'.output=w.output)
  (hb:∀ b,b<w.heap.size->w'.heap[b]?=w.heap[b]?):Inv Γ μ h w' where
 rows id r hr:=(hi.rows id r hr).mono (Mu.le_refl _) rfl λx hx=>hb _ (hi.lt hr hx)
 sep:=hi.sep
 own:=hi.own
 dom:=hi.dom
 ctx:=⟨hos.trans hi.ctx.os,htape.trans hi.ctx.tape,hout.trans hi.ctx.output,λb o ho=>by
  have h1:=hi.ctx.block b o ho;rw [hb b (Array.getElem?_eq_some_iff.1 h1).1];exact h1⟩
def Inv.fresh {Γ:Ctx} {μ:Mu} {h:B5} {w w':World} (hi:Inv Γ μ h w) {id:Nat} {r:Row} {h':B5} {n:Nat}
  (hμ:μ id=A7) (hos:w'.os=w.os) (htape:w'.tape=w.tape) (hout:w'.output=w.output)
  (hb:∀ b,b<w.heap.size->w'.heap[b]?=w.heap[b]?)
  (hsame:∀ j,j≠id->∀ x,rd h' j=A4 x->rd h j=A4 x) (C9n:∀ x,rd h' id=A4 x->x=r) (hlen:h.length<=h'.length) (hid:id<h'.length)
  (hrow:RowOk (μ.add id (w.heap.size,n)) w' id r):Inv Γ (μ.add id (w.heap.size,n)) h' w' where
 rows j x hx:=by
  by_cases e:j=id
  ·subst e;rw [C9n x hx];exact hrow
  ·exact (hi.rows j x (hsame j e x hx)).mono (Mu.le_add hμ) (by simp [Mu.add,e]) λy hy=>hb _ (hi.lt (hsame j e x hx) hy)
 sep j j' x x' y y' hx hx' nI T1 hy hy':=by
  unfold Mu.add at hy hy';by_cases e:j=id
  ·subst e;have e':j'≠j:=λh=>T1 h.symm
   simp at hy;simp [e'] at hy';have:=hi.lt (hsame j' e' x' hx') hy';subst hy;show w.heap.size≠y'.1;omega
  ·simp [e] at hy;by_cases e':j'=id
   ·subst e';simp at hy';have:=hi.lt (hsame j e x hx) hy;subst hy';show y.1≠w.heap.size;omega
   ·simp [e'] at hy';exact hi.sep j j' x x' y y' (hsame j e x hx) (hsame j' e' x' hx') nI T1 hy hy'
 own j x y hx nI hy:=by
  unfold Mu.add at hy;by_cases e:j=id
  ·subst e;simp at hy;subst hy;show Γ.F w.heap.size=A7;cases hF:Γ.F w.heap.size with
   | none=>rfl
   | some o=>have:=(Array.getElem?_eq_some_iff.1 (hi.ctx.block _ _ hF)).1;omega
  ·simp [e] at hy;exact hi.own j x y (hsame j e x hx) nI hy
 dom j hj:=by
  have e:j≠id:=by omega
  simp only [Mu.add,e,if_false];exact hi.dom j (by omega)
 ctx:=⟨hos.trans hi.ctx.os,htape.trans hi.ctx.tape,hout.trans hi.ctx.output,λb o ho=>by
  have h1:=hi.ctx.block b o ho;rw [hb b (Array.getElem?_eq_some_iff.1 h1).1];exact h1⟩
def Inv.turn {Γ:Ctx} {μ:Mu} {h:B5} {w w':World} (hi:Inv Γ μ h w) {id:Nat} {r r':Row} {b n:Nat} (hr:rd h id=A4 r) (nI:r.own=A5) (E5d:r'.own=A5) (hμ:μ id=A4 (b,n))
  (hos:w'.os=w.os) (htape:w'.tape=w.tape) (hout:w'.output=w.output) (hb:∀ b',b'≠b->w'.heap[b']?=w.heap[b']?)
  (hrow:RowOk μ w' id r'):Inv Γ μ (h.set id (A4 r')) w' where
 rows j x hx:=by
  by_cases e:j=id
  ·subst e;rw [C6 (C8 hr)] at hx;cases hx;exact hrow
  ·rw [B6 (Ne.symm e)] at hx;exact (hi.rows j x hx).mono (Mu.le_refl _) rfl λy hy=>hb _ (Ne.symm (hi.sep id j r x (b,n) y hr hx nI (Ne.symm e) hμ hy))
 sep j j' x x' y y' hx hx' hxw T1 hy hy':=by
  have get:∀ i z,rd (h.set id (A4 r')) i=A4 z->z.own=A5->∃ z',rd h i=A4 z'/\z'.own=A5:=by
   intro i z hz hzw;by_cases e:i=id
   ·subst e;exact ⟨r,hr,nI⟩
   ·rw [B6 (Ne.symm e)] at hz;exact ⟨z,hz,hzw⟩
  have get':∀ i z,rd (h.set id (A4 r')) i=A4 z->∃ z',rd h i=A4 z':=by
   intro i z hz;by_cases e:i=id
   ·subst e;exact ⟨r,hr⟩
   ·rw [B6 (Ne.symm e)] at hz;exact ⟨z,hz⟩
  obtain ⟨z,hz,hzw⟩:=get j x hx hxw;obtain ⟨z',hz'⟩:=get' j' x' hx';exact hi.sep j j' z z' y y' hz hz' hzw T1 hy hy'
 own j x y hx hxw hy:=by
  by_cases e:j=id
  ·subst e;exact hi.own j r y hr nI hy
  ·rw [B6 (Ne.symm e)] at hx;exact hi.own j x y hx hxw hy
 dom j hj:=hi.dom j (by simpa using hj)
 ctx:=⟨hos.trans hi.ctx.os,htape.trans hi.ctx.tape,hout.trans hi.ctx.output,λb' o ho=>by
  have T1:b'≠b:=by
   intro e;subst e;have:=hi.own id r (b',n) hr nI hμ;simp at this;rw [ho] at this;cases this
  rw [hb b' T1];exact hi.ctx.block b' o ho⟩
def Inv.write {Γ:Ctx} {μ:Mu} {h:B5} {w w':World} (hi:Inv Γ μ h w) {id:Nat} {r:Row} {b n:Nat} {cs:List Cell} (hr:rd h id=A4 r) (nI:r.rw=A5) (hμ:μ id=A4 (b,n))
  (hos:w'.os=w.os) (htape:w'.tape=w.tape) (hout:w'.output=w.output) (hb:∀ b',b'≠b->w'.heap[b']?=w.heap[b']?)
  (hrow:RowOk μ w' id ⟨cs,A5⟩):Inv Γ μ (h.set id (A4 ⟨cs,A5⟩)) w' :=
 hi.turn hr (Row.own_rw nI) rfl hμ hos htape hout hb hrow
def mD (P:Program) (t:TypeId):Option Bool :=
 match P.underlying t with
 | some (.struct _)=>A4 A5
 | some (.array _ _)=>A4 A5
 | some _=>A4 A6
 | none=>A7
def R9 (P:Program) (t:TypeId):Option Nat:=(P.info? t).map (·.size)
def C6s (P:Program) (t:TypeId):Option Nat:=(P.info? t).map (·.bytes)
def A0o (P:Program) (t:TypeId):Option Value:=(P.info? t).bind (·.zero)
def sliceB (P:Program) (t:TypeId):Option TypeId:=match P.underlying t with | some (.slice e)=>A4 e | _=>A7
def qK (P:Program) (t:TypeId):Option (Nat × TypeId):=match P.underlying t with | some (.array n e)=>A4 (n,e) | _=>A7
def A4e (P:Program) (t:TypeId):Option (Array Field):=match P.underlying t with | some (.struct fs)=>A4 fs | _=>A7
def cM (P:Program) (t:TypeId):Bool:=match P.underlying t with | some .string=>A5 | _=>A6
def B6h (P:Program) (t:TypeId):Option IntKind:=match P.underlying t with | some (.int k)=>A4 k | _=>A7
section
variable {P:Program} {w:World} {t:TypeId}
def F5 {d:TypeDesc} (h:P.underlying t=A4 d):(underlying t).run P w=.ok d w:=by simp [underlying,h]
def Q7 {n:Nat} (h:R9 P t=A4 n):(sizeOf t).run P w=.ok n w:=by
 unfold R9 at h;cases hi:P.info? t with
 | none=>simp [hi] at h
 | some i=>simp [hi] at h;simp [sizeOf,typeInfo,hi,h]
def D7R {n:Nat} (h:C6s P t=A4 n):∃ i:TypeInfo,(typeInfo t).run P w=.ok i w/\i.bytes=n:=by
 unfold C6s at h;cases hi:P.info? t with
 | none=>simp [hi] at h
 | some i=>simp [hi] at h;exact ⟨i,by simp [typeInfo,hi],h⟩
def A0k {v:Value} (h:A0o P t=A4 v):(zeroValue t).run P w=.ok v w:=by
 unfold A0o at h;cases hi:P.info? t with
 | none=>simp [hi] at h
 | some i=>simp [hi] at h;simp [zeroValue,typeInfo,hi,h]
def B29 {b:Bool} (h:mD P t=A4 b):(isAgg t).run P w=.ok b w:=by
 unfold mD at h;cases hu:P.underlying t with
 | none=>simp [hu] at h
 | some d=>cases d<;>simp [hu] at h<;>subst h<;>simp [isAgg,F5 hu]
def Q4 {e:TypeId} (h:sliceB P t=A4 e):P.underlying t=A4 (.slice e):=by
 unfold sliceB at h;cases hu:P.underlying t with
 | none=>simp [hu] at h
 | some d=>cases d<;>simp_all
def qL {n:Nat} {e:TypeId} (h:qK P t=A4 (n,e)):P.underlying t=A4 (.array n e):=by
 unfold qK at h;cases hu:P.underlying t with
 | none=>simp [hu] at h
 | some d=>cases d<;>simp_all
def A4f {fs:Array Field} (h:A4e P t=A4 fs):P.underlying t=A4 (.struct fs):=by
 unfold A4e at h;cases hu:P.underlying t with
 | none=>simp [hu] at h
 | some d=>cases d<;>simp_all
def nH (h:cM P t=A5):P.underlying t=A4 .string:=by
 unfold cM at h;cases hu:P.underlying t with
 | none=>simp [hu] at h
 | some d=>cases d<;>simp_all
def A6v {k:IntKind} (h:B6h P t=A4 k):P.underlying t=A4 (.int k):=by
 unfold B6h at h;cases hu:P.underlying t with
 | none=>simp [hu] at h
 | some d=>cases d<;>simp_all
end
def C4g:Value->Cell->Bool
 | .bool b,.b x=>b==x
 | .int k n,.i k' n'=>decide (k=k')&&decide (n=n')
 | .string s,.s l=>decide (s.data.toList=l)
 | .slice A7 0 0,.ns=>A5
 | .nilFunc,.nf=>A5
 | .pointer A7,.np=>A5
 | .map A7,.nm=>A5
 | .func (.func f) _ cs,.f g l=>decide (f=g)&&l.isEmpty&&cs.isEmpty
 | _,_=>A6
def A2n:List Value->List Cell->Bool
 | [],[]=>A5
 | v::r,c::l=>C4g v c&&A2n r l
 | _,_=>A6
def C6x:Value->Val->Bool
 | .agg vs,.a l=>A2n vs.toList l
 | .tuple vs,.un=>vs.isEmpty
 | v,.c x=>C4g v x
 | _,_=>A6
def xR:Value->Bool
 | .func _ f _=>f.isEmpty
 | _=>A5
def D8C:Operand->Opd->Bool
 | .tmp t,.t n=>decide (t=n)
 | .const v,.v x=>C6x v x&&xR v
 | .func f,.v (.c (.f g []))=>decide (f=g)
 | _,_=>A6
def C6w {μ:Mu} {v:Value} {c:Cell} (h:C4g v c=A5) (hf:xR v=A5):RC μ c v:=by
 unfold C4g at h;split at h<;>simp_all [RC,xR]
 all_goals first
  | (obtain ⟨s⟩:=‹ByteArray›;rename_i zA;simp [<-zA];done)
  | skip
 ·subst h;rfl
def C7y:Value->Bool
 | .func ..=>A6
 | _=>A5
def C9j {v:Value} (h:C7y v=A5):xR v=A5:=by cases v<;>simp_all [C7y,xR]
def B1l {μ:Mu}:∀ {vs:List Value} {l:List Cell},A2n vs l=A5->vs.all C7y=A5->All2 (RC μ) l vs
 | [],[],_,_=>trivial
 | v::r,c::l,h,hn=>by
  simp [A2n] at h;simp at hn;exact ⟨C6w h.1 (C9j hn.1),B1l h.2 (by simpa using hn.2)⟩
 | [],_::_,h,_=>by simp [A2n] at h
 | _::_,[],h,_=>by simp [A2n] at h
def kN (v:Value) (l:List Cell):Bool:=A2n v.cells.toList l&&v.cells.toList.all C7y
def iL {μ:Mu} {v:Value} {l:List Cell} (h:kN v l=A5):All2 (RC μ) l v.cells.toList:=by
 simp only [kN,E5S] at h;exact B1l h.1 h.2
def C98:Value->Bool
 | .agg vs=>vs.toList.all C7y
 | _=>A5
def D3k {μ:Mu} {v:Value} {x:Val} (h:C6x v x=A5) (hf:xR v=A5) (ha:C98 v=A5):RV μ x v:=by
 unfold C6x at h;split at h
 ·rename_i vs l;exact ⟨vs.toList,by simp,B1l h ha⟩
 ·trivial
 ·exact C6w h hf
 ·cases h
def F0 (x:Operand) (y:Opd):Bool:=D8C x y&&(match x with | .const v=>C98 v | _=>A5)
def D6 {μ:Mu} {e:Env} {a:Act} {x:Operand} {y:Opd} (h:F0 x y=A5) (hs:SEnv μ e a):RV μ (e.ev y) (a.eval x):=by
 simp only [F0,E5S] at h;obtain ⟨h,ha⟩:=h;unfold D8C at h;split at h
 ·simp at h;subst h;exact hs _
 ·simp at h;exact D3k h.1 h.2 ha
 ·simp at h;subst h;exact ⟨[],rfl,trivial⟩
 ·cases h
def A3S:List Operand->List Opd->Bool
 | [],[]=>A5
 | x::r,y::l=>F0 x y&&A3S r l
 | _,_=>A6
def A72 {μ:Mu} {e:Env} {a:Act} (hs:SEnv μ e a):∀ {xs:List Operand} {ys:List Opd},A3S xs ys=A5->All2 (RV μ) (ys.map e.ev) (xs.map a.eval)
 | [],[],_=>trivial
 | x::r,y::l,h=>by simp [A3S] at h;exact ⟨D6 h.1 hs,A72 hs h.2⟩
 | [],_::_,h=>by simp [A3S] at h
 | _::_,[],h=>by simp [A3S] at h
def B1n:Option Operand->Option Opd->Bool
 | none,none=>A5
 | some x,A4 y=>F0 x y
 | _,_=>A6
section
variable {P:Program} {μ:Mu} {w:World}
def D3f:∀ (x y:List UInt8),Op.bytesLess x y=N2 x y
 | _,[]=>by cases ‹List UInt8› <;> rfl
 | [],_::_=>rfl
 | a::x,b::y=>by simp [Op.bytesLess,N2,D3f x y]
def E1t {op:BinOp} {xt:TypeId} {x y v:Val} {X Y:Value} (hx:RV μ x X) (hy:RV μ y Y) (h:N4 op x y=A4 v) :
  ∃ V,(binOp op xt X Y).run P w=.ok V w/\RV μ v V:=by
 unfold N4 at h;split at h
 ·rename_i k a k' b;have hX:X=.int k a:=hx;have hY:Y=.int k' b:=hy;subst hX hY;have key:∀ o,o≠BinOp.shl->o≠BinOp.shr->∀ v,(bif decide (k=k') then (B1W o k a b).map Val.c else A7)=A4 v->∃ V,(binOp o xt (.int k a) (.int k' b)).run P w=.ok V w/\RV μ v V:=by
   intro o h1 h2 v hv;by_cases hk:k=k'
   ·subst hk;simp at hv;obtain ⟨c,hc,rfl⟩:=hv;cases o<;>simp only [B1W] at hc<;>(try cases hc) <;>
     first
      | exact ⟨_,by simp [binOp,Op.intArith,Op.intBits,Op.intCmp],rfl⟩
      | (split at hc<;>cases hc;rename_i hb;exact ⟨_,by simp [binOp,Op.intDiv,hb],rfl⟩)
      | skip
   ·simp [hk] at hv
  split at h
  ·unfold E2X at h;split at h
   ·simp at h
   ·simp at h;subst h;rename_i hb;refine ⟨.int k (k.wrap (a*2 ^ (Nat.min b.toNat k.bits))),?_,rfl⟩;simp [binOp,Op.shift,hb,Nat.min_def]
  ·unfold E2Y at h;split at h
   ·simp at h
   ·simp at h;subst h;rename_i hb;refine ⟨.int k (a.fdiv (2 ^ (Nat.min b.toNat k.bits))),?_,rfl⟩;simp [binOp,Op.shift,hb,Nat.min_def]
  ·rename_i h1 h2;exact key op h1 h2 v h
 ·rename_i a b;have hX:X=.string ⟨a.toArray⟩:=hx;have hY:Y=.string ⟨b.toArray⟩:=hy;subst hX hY;simp only [E6d] at h;obtain ⟨c,hc,rfl⟩:=h;cases op<;>simp only [E0b] at hc<;>(try cases hc)
  ·split at hc<;>cases hc
   rename_i hl;refine ⟨.string (⟨a.toArray⟩++⟨b.toArray⟩),?_,?_⟩
   ·have:¬ (((ByteArray.mk a.toArray).size+(ByteArray.mk b.toArray).size:Nat):Int) > IntKind.i64.max:=by
     show ¬ ((a.toArray.size+b.toArray.size:Nat):Int) > 9223372036854775807;simp;omega
    simp [binOp,Op.stringOp] at this ⊢;exact this
   ·show Value.string _=Value.string _
    congr 1
  all_goals exact ⟨_,rfl,by simp [RV,RC,ByteArray.toList_mk,D3f]⟩
 ·cases h
def D11 (P:Program) (fn:Bool) (t:TypeId) (c:Value):Bool :=
 match fn,P.underlying t,c with
 | true,A4 (.func ..),.nilFunc=>A5
 | false,A4 (.pointer _),.pointer none=>A5
 | _,_,_=>A6
def D7n {fn:Bool} {t:TypeId} {c:Value} (h:D11 P fn t c=A5):(fn=A5/\(∃ a b d,P.underlying t=A4 (.func a b d))/\c=.nilFunc)\/(fn=A6/\(∃ a,P.underlying t=A4 (.pointer a))/\c=.pointer A7):=by
 unfold D11 at h;split at h
 ·rename_i h2;exact .inl ⟨rfl,⟨_,_,_,h2⟩,rfl⟩
 ·rename_i h2;exact .inr ⟨rfl,⟨_,h2⟩,rfl⟩
 ·cases h
def C6P {xt:TypeId} {a b:Bool} (hu:P.underlying xt=A4 .bool):(Op.equal xt (.bool a) (.bool b)).run P w=.ok (a==b) w:=by
 unfold Op.equal;rw [show Op.maxDepth=9999+1 from rfl];unfold Op.equalIn;simp only [Sem.run_bind,F5 hu,Result.andThen_ok];rfl
def E1w {neg:Bool} {xt:TypeId} {x y v:Val} {X Y:Value} (hu:P.underlying xt=A4 .bool) (hx:RV μ x X) (hy:RV μ y Y) (h:D4L neg x y=A4 v) :
  ∃ V,(binOp (bif neg then .neq else .eql) xt X Y).run P w=.ok V w/\RV μ v V:=by
 unfold D4L at h;split at h
 ·rename_i a b;have hX:X=.bool a:=hx;have hY:Y=.bool b:=hy;subst hX hY;cases h;cases neg
  ·exact ⟨_,by show (Op.equal xt (.bool a) (.bool b) >>= λr=>pure (Value.bool r)).run P w=_;rw [Sem.run_bind,C6P hu];rfl,rfl⟩
  ·exact ⟨_,by show (Op.equal xt (.bool a) (.bool b) >>= λr=>pure (Value.bool !r)).run P w=_;rw [Sem.run_bind,C6P hu];rfl,rfl⟩
 ·cases h
def E1x {fn neg:Bool} {xt:TypeId} {x v:Val} {X c:Value} (hu:D11 P fn xt c=A5) (hx:RV μ x X) (h:D1C fn neg x=A4 v) :
  ∃ V,(binOp (bif neg then .neq else .eql) xt X c).run P w=.ok V w/\RV μ v V:=by
 unfold D1C at h;have one:∀ (r:Bool),(binOp (bif neg then .neq else .eql) xt X c=(Op.equal xt X c >>= λr=>pure (Value.bool (bif neg then !r else r))))->(Op.equal xt X c).run P w=.ok r w->(binOp (bif neg then .neq else .eql) xt X c).run P w=.ok (.bool (bif neg then !r else r)) w:=by
  intro r e1 he;rw [e1,Sem.run_bind,he];rfl
 rcases D7n hu with ⟨rfl,⟨a,b,d,h2⟩,rfl⟩ | ⟨rfl,⟨a,h2⟩,rfl⟩
 ·have eq:∀ (r:Bool),((X=.nilFunc/\r=A5)\/(∃ g cs,X=.func (.func g) #[] cs/\r=A6))->(Op.equal xt X .nilFunc).run P w=.ok r w:=by
   intro r h;unfold Op.equal;rw [show Op.maxDepth=9999+1 from rfl];unfold Op.equalIn;rcases h with ⟨rfl,rfl⟩ | ⟨g,cs,rfl,rfl⟩<;>simp only [Sem.run_bind,F5 h2,Result.andThen_ok]<;>rfl
  split at h
  ·cases h;have hX:X=.nilFunc:=hx;subst hX;exact ⟨_,one A5 (by cases neg<;>rfl) (eq A5 (.inl ⟨rfl,rfl⟩)),by cases neg<;>rfl⟩
  ·cases h;obtain ⟨cs,hX,_⟩:=hx;subst hX;exact ⟨_,one A6 (by cases neg<;>rfl) (eq A6 (.inr ⟨_,_,rfl,rfl⟩)),by cases neg<;>rfl⟩
  ·rename_i h3;cases h3
  ·rename_i h3;cases h3
  ·cases h
 ·have eq:∀ (r:Bool),((X=.pointer A7/\r=A5)\/(∃ q,X=.pointer (A4 q)/\r=A6))->(Op.equal xt X (.pointer A7)).run P w=.ok r w:=by
   intro r h;unfold Op.equal;rw [show Op.maxDepth=9999+1 from rfl];unfold Op.equalIn;rcases h with ⟨rfl,rfl⟩ | ⟨q,rfl,rfl⟩<;>simp only [Sem.run_bind,F5 h2,Result.andThen_ok]<;>rfl
  split at h
  ·rename_i h3;cases h3
  ·rename_i h3;cases h3
  ·cases h;have hX:X=.pointer A7:=hx;subst hX;exact ⟨_,one A5 (by cases neg<;>rfl) (eq A5 (.inl ⟨rfl,rfl⟩)),by cases neg<;>rfl⟩
  ·cases h;obtain ⟨b,n,_,hX⟩:=hx;subst hX;exact ⟨_,one A6 (by cases neg<;>rfl) (eq A6 (.inr ⟨_,rfl,rfl⟩)),by cases neg<;>rfl⟩
  ·cases h
def E3p {op:UnOp} {x v:Val} {X:Value} (hx:RV μ x X) (h:aun op x=A4 v):∃ V,(Op.unary op X).run P w=.ok V w/\RV μ v V:=by
 unfold aun at h;split at h<;>cases h<;>cases hx<;>exact ⟨_,rfl,rfl⟩
def mC (b off k:Nat):(⟨b,off,A7⟩:Addr).add k=⟨b,off+k,A7⟩:=by
 unfold Addr.add;split<;>simp_all
def D03 {t:TypeId} {hp:B5} {a v:Val} {A:Value} (pK:mD P t=A4 A6) (hrow:∀ id r,rd hp id=A4 r->RowOk μ w id r)
  (ha:RV μ a A) (h:B8 hp a=A4 v):∃ V,(Instr.loadAt t A).run P w=.ok V w/\RV μ v V:=by
 unfold B8 at h;split at h
 ·rename_i id off;obtain ⟨b,n,hm,rfl⟩:=ha;simp only [E5Q] at h;obtain ⟨r,hr,c,hc,h⟩:=h;cases hx:(r.rw || !c.isX) with
  | false=>rw [hx] at h;cases h
  | true =>
  rw [hx] at h;cases h;obtain ⟨V,hV,hR⟩:=(hrow id r hr).cell hm hc hx;refine ⟨V,?_,hR⟩;simp [Instr.loadAt,Instr.sureAddr,loadVar,B29 pK,hV]
 ·cases h
def D04 {t:TypeId} {hp:B5} {a v:Val} {A:Value} {k:Nat} (pK:mD P t=A4 A5) (hsz:R9 P t=A4 k) (hrow:∀ id r,rd hp id=A4 r->RowOk μ w id r)
  (ha:RV μ a A) (h:D4 hp k a=A4 v):∃ V,(Instr.loadAt t A).run P w=.ok V w/\RV μ v V:=by
 unfold D4 at h;split at h
 ·rename_i id off;obtain ⟨b,n,hm,rfl⟩:=ha;simp only [E5Q] at h;obtain ⟨r,hr,h⟩:=h;split at h
  ·cases h;rename_i hk;obtain ⟨vs,h1,h2,h3⟩:=(hrow id r hr).cells hm off k hk.1 hk.2;refine ⟨.agg vs.toArray,?_,vs,rfl,h1⟩;have hl:=run_loadCells_list (P:=P) w ⟨b,off,A7⟩ vs (λj v hv=>by rw [mC];exact h3 j v hv);rw [h2] at hl;simp [Instr.loadAt,Instr.sureAddr,loadVar,B29 pK,Q7 hsz,hl]
  ·cases h
 ·cases h
def A5x (b:Nat):∀ (vs:List Value) (o:Nat) (w:World) (C:Array Value) (t:TypeId) (fz:Nat × Nat),w.heap[b]?=A4 (.cells C t fz)->o+vs.length<=C.size ->
  ∃ C':Array Value,(w.setCells b o vs).heap[b]?=A4 (.cells C' t fz)/\C'.toList=C.toList.take o++(vs++C.toList.drop (o+vs.length))
 | [],o,w,C,t,fz,h,hl=>⟨C,h,by simp⟩
 | v::r,o,w,C,t,fz,h,hl=>by
  simp only [E52] at hl;have h1:(w.setCell ⟨b,o,A7⟩ v).heap[b]?=A4 (.cells (C.setIfInBounds o v) t fz):=by
   simp only [World.setCell,Array.getElem?_modify,if_true,h,Option.map_some];simp
  obtain ⟨C',h2,h3⟩:=A5x b r (o+1) (w.setCell ⟨b,o,A7⟩ v) (C.setIfInBounds o v) t fz h1 (by simp;omega);refine ⟨C',h2,?_⟩;rw [h3];have ho:o<C.toList.length:=by simp;omega
  simp only [Array.toList_setIfInBounds];rw [List.drop_set_of_lt (by omega),E52,show o+1+r.length=o+(r.length+1) by omega];rw [List.take_set,List.take_add_one,List.set_append];have hm:min o C.size=o:=E6R (by simp at ho;omega);simp [E5P ho,hm]
def A2J (b:Nat):∀ (vs:List Value) (o:Nat) (w:World) (b':Nat),b'≠b->(w.setCells b o vs).heap[b']?=w.heap[b']?
 | [],_,_,_,_=>rfl
 | v::r,o,w,b',h=>by
  rw [World.setCells,A2J b r (o+1) _ b' h];simp [World.setCell,Array.getElem?_modify,Ne.symm h]
def B2w (b:Nat):∀ (vs:List Value) (o:Nat) (w:World),(w.setCells b o vs).os=w.os/\(w.setCells b o vs).tape=w.tape/\(w.setCells b o vs).output=w.output
 | [],_,_=>⟨rfl,rfl,rfl⟩
 | v::r,o,w=>by rw [World.setCells];exact B2w b r (o+1) _
def All2.lay {μ:Mu} {cs xs:List Cell} {off:Nat} {Cs vs:List Value} (h:All2 (RC μ) cs (Cs.take cs.length)) (hx:All2 (RC μ) xs vs) (hl:off+xs.length<=cs.length) :
  All2 (RC μ) (lay cs off xs) ((Cs.take off++(vs++Cs.drop (off+vs.length))).take (lay cs off xs).length):=by
 have hlen:=h.length;have hxl:=hx.length;have hL:(Esc.lay cs off xs).length=cs.length:=by simp [Esc.lay];omega
 rw [hL];have e:(Cs.take off++(vs++Cs.drop (off+vs.length))).take cs.length=(Cs.take cs.length).take off++(vs++(Cs.take cs.length).drop (off+vs.length)):=by
  have h1:cs.length<=Cs.length:=by simp at hlen;omega
  rw [List.take_append,List.take_append,List.take_take,List.take_take,E6l,List.drop_take,E6R (by omega:off<=cs.length),Nat.min_eq_right (by omega:off<=cs.length),E6R (by omega:off<=Cs.length)];rw [E53 (by omega:vs.length<=cs.length-off)]
  congr 3
  omega
 rw [e];unfold Esc.lay;rw [<-hxl];exact (h.take off).append (hx.append (h.drop _))
def C79 {Γ:Ctx} {h:B5} {id off b n:Nat} {r:Row} {xs:List Cell} {vs:List Value} (hi:Inv Γ μ h w) (hr:rd h id=A4 r) (nI:r.rw=A5) (hm:μ id=A4 (b,n))
  (hx:All2 (RC μ) xs vs) (hl:off+xs.length<=r.cells.length) :
  (storeCells ⟨b,off,A7⟩ vs).run P w=.ok () (w.setCells b off vs)/\Inv Γ μ (h.set id (A4 ⟨lay r.cells off xs,A5⟩)) (w.setCells b off vs):=by
 obtain ⟨C,elem,fz,h1,h2,h3,h4⟩:=(hi.rows id r hr).mem hm nI
 replace h3:=RL.all h3 (by rw [nI];rfl)
 have hlen:=h3.length;have hxl:=hx.length;simp at hlen;have A6q:∀ j,j<vs.length->(w.cell? ⟨b,off+0+j,A7⟩).isSome=A5:=by
  intro j hj;simp only [World.cell?,h1];simp;omega
 have hfz:∀ j,j<vs.length->w.frozen? ⟨b,off+0+j,A7⟩=A6:=by
  intro j hj;simp only [World.frozen?,h1];obtain ⟨lo,hi'⟩:=fz;rcases h4 nI with h4 | h4<;>simp at h4 ⊢ <;> omega
 have h1c:∀ v∈vs,v.oneCell'=A5:=by
  intro v hv;obtain ⟨i,V7,rfl⟩:=List.getElem_of_mem hv;have:i<xs.length:=by omega
  obtain ⟨V,hV,hR⟩:=hx.get i xs[i] (by simp [this]);rw [E5P V7] at hV;cases hV;exact hR.one
 refine ⟨by simpa using run_storeCells_cells (P:=P) b off vs 0 w A6q hfz h1c,?_⟩;obtain ⟨C',h5,h6⟩:=A5x b vs off w C elem fz h1 (by omega);obtain ⟨ho,ht,hou⟩:=B2w b vs off w;refine hi.write hr nI hm ho ht hou (λb' hb=>A2J b vs off w b' hb) ?_;unfold RowOk;rw [hm];refine .inl ⟨C',elem,fz,h5,?_,?_,λ_=>h4 nI⟩
 ·have:=congrArg List.length h6;simp at this;omega
 ·rw [h6];exact (All2.lay h3 hx hl).mono λ_ _=>.inl
def D5J {Γ:Ctx} {t:TypeId} {h h':B5} {a x:Val} {A X:Value} (hsz:R9 P t=A4 1) (hi:Inv Γ μ h w) (ha:RV μ a A) (hx:RV μ x X) (hh:I5 h a x=A4 h') :
  ∃ w',(Instr.storeAt t A X).run P w=.ok () w'/\Inv Γ μ h' w':=by
 unfold I5 at hh;split at hh
 ·rename_i id off c;obtain ⟨b,n,hm,rfl⟩:=ha;simp only [E5Q] at hh;obtain ⟨r,hr,hh⟩:=hh;split at hh
  ·cases hh;rename_i hc;have B8l:X.cells = #[X]:=RC.cells hx;have:=C79 (P:=P) hi hr hc.1 hm (off:=off) (xs:=[c]) (vs:=[X]) ⟨hx,trivial⟩ (by simp;omega);refine ⟨w.setCells b off [X],?_,?_⟩
   ·simp [Instr.storeAt,Instr.sureAddr,storeVar,B8l,Q7 hsz,this.1]
   ·have e:lay r.cells off [c]=r.cells.set off c:=by
     simp [lay,List.set_eq_take_append_cons_drop,hc.2]
    rw [<-e];exact this.2
  ·cases hh
 ·cases hh
def D5K {Γ:Ctx} {t:TypeId} {h h':B5} {a x:Val} {A X:Value} {k:Nat} (hsz:R9 P t=A4 k) (hi:Inv Γ μ h w) (ha:RV μ a A) (hx:RV μ x X) (hh:E5 h k a x=A4 h') :
  ∃ w',(Instr.storeAt t A X).run P w=.ok () w'/\Inv Γ μ h' w':=by
 unfold E5 at hh;split at hh
 ·rename_i id off xs;obtain ⟨b,n,hm,rfl⟩:=ha;obtain ⟨vs,rfl,hvs⟩:=hx;simp only [E5Q] at hh;obtain ⟨r,hr,hh⟩:=hh;split at hh
  ·cases hh;rename_i hc;have:=C79 (P:=P) hi hr hc.1 hm (off:=off) hvs (by omega);refine ⟨w.setCells b off vs,?_,this.2⟩;have hl:=hvs.length;have hk:vs.length=k:=by omega
   simp [Instr.storeAt,Instr.sureAddr,storeVar,Value.cells,Q7 hsz,hk,this.1]
  ·cases hh
 ·cases hh
end
section
variable {P:Program} {μ:Mu} {w:World}
def E1y {x v:Val} {X:Value} {k:Nat} (hx:RV μ x X) (h:D4N x k=A4 v):∃ V,(Instr.extract X k).run P w=.ok V w/\RV μ v V:=by
 unfold D4N at h;split at h
 ·rename_i l;obtain ⟨vs,rfl,hvs⟩:=hx;simp only [E6d] at h;obtain ⟨p,hp,rfl⟩:=h;obtain ⟨V,hV,hR⟩:=hvs.get k p hp;exact ⟨V,by simp [Instr.extract,hV],RV.ofPart hR⟩
 ·cases h
def D05 {t:TypeId} {l:List Cell} {vs:List Value} {off:Nat} {c:Cell} (pK:mD P t=A4 A6) (hvs:All2 (RC μ) l vs) (h:l[off]?=A4 c) :
  ∃ V,(part t vs.toArray off).run P w=.ok V w/\RC μ c V:=by
 obtain ⟨V,hV,hR⟩:=hvs.get off c h;exact ⟨V,by simp [part,B29 pK,hV],hR⟩
def D06 {t:TypeId} {l:List Cell} {vs:List Value} {off n:Nat} (pK:mD P t=A4 A5) (hsz:R9 P t=A4 n) (hvs:All2 (RC μ) l vs) (h:off+n<=l.length) :
  ∃ V,(part t vs.toArray off).run P w=.ok V w/\RV μ (.a ((l.drop off).take n)) V:=by
 refine ⟨.agg (vs.toArray.extract off (off+n)),by simp [part,B29 pK,Q7 hsz],(vs.drop off).take n,?_,(hvs.drop off).take n⟩
 congr 1
 apply Array.ext';simp [List.take_drop]
def D92 {s:TypeId} {fs:Array Field} {f:Field} {j:Nat} {x v:Val} {X:Value} (hs:A4e P s=A4 fs) (hf:fs[j]?=A4 f) (pK:mD P f.type=A4 A6)
  (hx:RV μ x X) (h:C11 x f.offset=A4 v):∃ V,(Instr.field s X j).run P w=.ok V w/\RV μ v V:=by
 unfold C11 at h;split at h
 ·rename_i l;obtain ⟨vs,rfl,hvs⟩:=hx;simp only [E6d] at h;obtain ⟨c,hc,rfl⟩:=h;obtain ⟨V,hV,hR⟩:=D05 (P:=P) (w:=w) pK hvs hc;exact ⟨V,by simp [Instr.field,F5 (A4f hs),hf,asAgg,hV],hR⟩
 ·cases h
def D93 {s:TypeId} {fs:Array Field} {f:Field} {j n:Nat} {x v:Val} {X:Value} (hs:A4e P s=A4 fs) (hf:fs[j]?=A4 f) (pK:mD P f.type=A4 A5) (hsz:R9 P f.type=A4 n)
  (hx:RV μ x X) (h:D5Z x f.offset n=A4 v):∃ V,(Instr.field s X j).run P w=.ok V w/\RV μ v V:=by
 unfold D5Z at h;split at h
 ·rename_i l;obtain ⟨vs,rfl,hvs⟩:=hx;split at h
  ·cases h;rename_i hl;obtain ⟨V,hV,hR⟩:=D06 (P:=P) (w:=w) pK hsz hvs hl;exact ⟨V,by simp [Instr.field,F5 (A4f hs),hf,asAgg,hV],hR⟩
  ·cases h
 ·cases h
def D7U {t e:TypeId} {n:Nat} {x i v:Val} {X I:Value} (ha:qK P t=A4 (n,e)) (pK:mD P e=A4 A6) (hsz:R9 P e=A4 1)
  (hx:RV μ x X) (hi:RV μ i I) (h:A45 n x i=A4 v):∃ V,(Instr.index t X I).run P w=.ok V w/\RV μ v V:=by
 unfold A45 at h;split at h
 ·rename_i l k j;obtain ⟨vs,rfl,hvs⟩:=hx;have hI:I=.int k j:=hi;subst hI;split at h
  ·rename_i hj;simp only [E6d] at h;obtain ⟨c,hc,rfl⟩:=h;obtain ⟨V,hV,hR⟩:=D05 (P:=P) (w:=w) pK hvs hc;exact ⟨V,by simp [Instr.index,F5 (qL ha),asIntOf,hj,Q7 hsz,hV],hR⟩
  ·cases h
 ·cases h
def D7V {t e:TypeId} {n sz:Nat} {x i v:Val} {X I:Value} (ha:qK P t=A4 (n,e)) (pK:mD P e=A4 A5) (hsz:R9 P e=A4 sz)
  (hx:RV μ x X) (hi:RV μ i I) (h:D1D n sz x i=A4 v):∃ V,(Instr.index t X I).run P w=.ok V w/\RV μ v V:=by
 unfold D1D at h;split at h
 ·rename_i l k j;obtain ⟨vs,rfl,hvs⟩:=hx;have hI:I=.int k j:=hi;subst hI;split at h
  ·rename_i hj;cases h;obtain ⟨V,hV,hR⟩:=D06 (P:=P) (w:=w) pK hsz hvs hj.2.2;exact ⟨V,by simp [Instr.index,F5 (qL ha),asIntOf,hj.1,hj.2.1,Q7 hsz,hV],hR⟩
  ·cases h
 ·cases h
def D94 {t:TypeId} {x i v:Val} {X I:Value} (ht:cM P t=A5) (hx:RV μ x X) (hi:RV μ i I) (h:C6g x i=A4 v) :
  ∃ V,(Instr.index t X I).run P w=.ok V w/\RV μ v V:=by
 unfold C6g at h;split at h
 ·rename_i s k j;have hX:X=.string ⟨s.toArray⟩:=hx;have hI:I=.int k j:=hi;subst hX hI;split at h
  ·rename_i hj;simp only [E6d] at h;obtain ⟨b,hb,rfl⟩:=h;refine ⟨.int .u8 b.toNat,?_,rfl⟩;have:(ByteArray.mk s.toArray)[j.toNat]?=A4 b:=by
    have V7:=(List.getElem?_eq_some_iff.1 hb).1;have hsz:j.toNat<(ByteArray.mk s.toArray).size:=by show j.toNat<s.toArray.size;simpa using V7
    rw [E5P V7] at hb;cases hb;rw [getElem?_pos (ByteArray.mk s.toArray) j.toNat hsz];rfl
   simp [Instr.index,F5 (nH ht),asIntOf,hj,this]
  ·cases h
 ·cases h
def D7T {s:TypeId} {fs:Array Field} {f:Field} {j n off:Nat} {x v:Val} {X:Value} (hs:A4e P s=A4 fs) (hf:fs[j]?=A4 f) (hsz:R9 P f.type=A4 n) (hn:n≠0) (ho:f.offset=off)
  (hx:RV μ x X) (h:tY x off=A4 v):∃ V,(Instr.fieldAt s X j).run P w=.ok V w/\RV μ v V:=by
 unfold tY at h;split at h
 ·rename_i id o;obtain ⟨b,m,hm,rfl⟩:=hx;cases h;refine ⟨.pointer (A4 ⟨b,o+off,A7⟩),?_,b,m,hm,rfl⟩;simp [Instr.fieldAt,Instr.sureAddr,F5 (A4f hs),hf,fieldPlace,Q7 hsz,hn,mC,ho]
 ·cases h
def D5H {t e:TypeId} {n sz:Nat} {x i v:Val} {X I:Value} (ha:qK P t=A4 (n,e)) (hsz:R9 P e=A4 sz) (hx:RV μ x X) (hi:RV μ i I) (h:I3 n sz x i=A4 v) :
  ∃ V,(Instr.indexAt t X I).run P w=.ok V w/\RV μ v V:=by
 unfold I3 at h;split at h
 ·rename_i id o k j;obtain ⟨b,m,hm,rfl⟩:=hx;have hI:I=.int k j:=hi;subst hI;split at h
  ·rename_i hj;cases h;refine ⟨.pointer (A4 ⟨b,o+j.toNat*sz,A7⟩),?_,b,m,hm,rfl⟩;simp [Instr.indexAt,Instr.sureAddr,asIntOf,F5 (qL ha),Q7 hsz,hj,mC]
  ·cases h
 ·cases h
def D5I {t e:TypeId} {sz:Nat} {x i v:Val} {X I:Value} (ha:sliceB P t=A4 e) (hsz:R9 P e=A4 sz) (hx:RV μ x X) (hi:RV μ i I) (h:D9 sz x i=A4 v) :
  ∃ V,(Instr.indexAt t X I).run P w=.ok V w/\RV μ v V:=by
 unfold D9 at h;split at h
 ·rename_i id o len sz' k j;have hI:I=.int k j:=hi;subst hI;split at h
  ·rename_i hj;cases h;rcases hx with ⟨b,m,cap,hm,_,_,rfl⟩ | ⟨h0,_⟩
   ·refine ⟨.pointer (A4 ⟨b,o+j.toNat*sz,A7⟩),?_,b,m,hm,rfl⟩;simp [Instr.indexAt,asIntOf,F5 (Q4 ha),Q7 hsz,hj,mC]
   ·omega
  ·cases h
 ·cases h
def D96 {t:TypeId} {x v:Val} {X:Value} {ty:TypeId} (ht:cM P t=A5) (hx:RV μ x X) (h:D2Y x=A4 v):∃ V,(Builtin.len_ #[t] ty #[X]).run P w=.ok V w/\RV μ v V:=by
 unfold D2Y at h;split at h<;>cases h
 rename_i s;have hX:X=.string ⟨s.toArray⟩:=hx;subst hX;refine ⟨.int .i64 s.length,?_,rfl⟩;simp [Builtin.len_,F5 (nH ht),goInt];show ((s.toArray.size:Nat):Int)=_;simp
def E1z {t e:TypeId} {x v:Val} {X:Value} {ty:TypeId} (he:sliceB P t=A4 e) (hx:RV μ x X) (h:D1E x=A4 v):∃ V,(Builtin.len_ #[t] ty #[X]).run P w=.ok V w/\RV μ v V:=by
 unfold D1E at h;split at h<;>cases h
 ·rcases hx with ⟨b,m,cap,hm,_,_,rfl⟩ | ⟨h0,a,rfl⟩
  ·exact ⟨_,by simp [Builtin.len_,F5 (Q4 he),goInt],rfl⟩
  ·subst h0;exact ⟨_,by simp [Builtin.len_,F5 (Q4 he),goInt],rfl⟩
 ·cases hx;exact ⟨_,by simp [Builtin.len_,F5 (Q4 he),goInt],rfl⟩
def E1A {at_:Array TypeId} {ty:TypeId} {x y v:Val} {X Y:Value} (hx:RV μ x X) (hy:RV μ y Y) (h:C6i x y=A4 v):∃ V,(Builtin.max_ at_ ty #[X,Y]).run P w=.ok V w/\RV μ v V:=by
 unfold C6i at h;split at h<;>cases h
 cases hx;cases hy;exact ⟨_,rfl,rfl⟩
def E1B {at_:Array TypeId} {ty:TypeId} {x y v:Val} {X Y:Value} (hx:RV μ x X) (hy:RV μ y Y) (h:B7T x y=A4 v):∃ V,(Builtin.min_ at_ ty #[X,Y]).run P w=.ok V w/\RV μ v V:=by
 unfold B7T at h;split at h<;>cases h
 cases hx;cases hy;exact ⟨_,rfl,rfl⟩
def D90 {s d:TypeId} {k ks:IntKind} {x v:Val} {X:Value} (hs:B6h P s=A4 ks) (hd:B6h P d=A4 k) (hx:RV μ x X) (h:D2V k x=A4 v) :
  ∃ V,(convert s d X).run P w=.ok V w/\RV μ v V:=by
 unfold D2V at h;split at h<;>cases h
 cases hx;exact ⟨_,by simp [convert,F5 (A6v hs),F5 (A6v hd),Conv.intToInt],rfl⟩
def D7S {s d:TypeId} {x v:Val} {X:Value} (hs:cM P s=A5) (hd:cM P d=A5) (hx:RV μ x X) (h:D1A x=A4 v) :
  ∃ V,(convert s d X).run P w=.ok V w/\RV μ v V:=by
 unfold D1A at h;split at h<;>cases h
 cases hx;exact ⟨_,by simp [convert,F5 (nH hs),F5 (nH hd)],rfl⟩
def D02 {o:Option Val} {O:Option Value} {d n y:Nat} {code:BoundsCode} (hO:match o,O with | none,none=>True | some v,A4 V=>RV μ v V | _,_=>False) (hb:bound o d=A4 n) (hn:n<=y) :
  (match O with | some v=>Instr.sliceBound v y code | none=>(pure d:Sem Nat)).run P w=.ok n w:=by
 unfold bound at hb;cases o with
 | none =>
  cases O with
  | none=>simp at hb;subst hb;rfl
  | some _=>exact hO.elim
 | some v =>
  cases O with
  | none=>exact hO.elim
  | some V =>
   simp only at hO hb;split at hb
   ·rename_i zA;cases zA
   ·rename_i k j zA;cases zA;cases hO;split at hb
    ·cases hb;rename_i hj;simp [Instr.sliceBound,asIntOf,hj];omega
    ·cases hb
   ·cases hb
def D1d (μ:Mu):Option Val->Option Value->Prop
 | none,none=>True
 | some v,A4 V=>RV μ v V
 | _,_=>False
def A2I {isSl:Bool} {len cap l h:Nat} {lo hi:Option Val} {Lo Hi:Option Value} (hlo:D1d μ lo Lo) (hhi:D1d μ hi Hi) (bl:bound lo 0=A4 l) (bh:bound hi len=A4 h)
  (h1:l<=h) (h2:h<=cap):(Instr.sliceBounds isSl len cap Lo Hi A7).run P w=.ok (l,h,cap) w:=by
 unfold Instr.sliceBounds;have e1:=λcode=>D02 (P:=P) (w:=w) (μ:=μ) (o:=lo) (O:=Lo) (d:=0) (n:=l) (y:=h) (code:=code) (by cases lo<;>cases Lo<;>exact hlo) bl h1
 have e2:=λcode=>D02 (P:=P) (w:=w) (μ:=μ) (o:=hi) (O:=Hi) (d:=len) (n:=h) (y:=cap) (code:=code) (by cases hi<;>cases Hi<;>exact hhi) bh h2
 cases Hi with
 | none =>
  cases Lo with
  | none=>simp at e1 e2 ⊢;exact ⟨e1,e2⟩
  | some L =>
   simp at e1 e2 ⊢;subst e2;rw [e1 .sliceB];rfl
 | some H =>
  cases Lo with
  | none=>simp at e1 e2 ⊢;rw [e2];simp [e1]
  | some L =>
   simp at e1 e2 ⊢;rw [e2];simp [e1 .sliceB]
def E1F {t:TypeId} {x v:Val} {lo hi:Option Val} {X:Value} {Lo Hi:Option Value} (ht:cM P t=A5) (hx:RV μ x X) (hlo:D1d μ lo Lo) (hhi:D1d μ hi Hi) (h:E0F x lo hi=A4 v) :
  ∃ V,(Instr.sliceAt t X Lo Hi A7).run P w=.ok V w/\RV μ v V:=by
 unfold E0F at h;split at h
 ·rename_i s;have hX:X=.string ⟨s.toArray⟩:=hx;subst hX;simp only [E5Q] at h;obtain ⟨l,bl,hh,bh,h⟩:=h;split at h
  ·cases h;rename_i hc;have hsz:(ByteArray.mk s.toArray).size=s.length:=by show s.toArray.size=_;simp
   have:=A2I (P:=P) (w:=w) (μ:=μ) (isSl:=A6) hlo hhi bl bh hc.1 hc.2;refine ⟨.string ((ByteArray.mk s.toArray).extract l hh),?_,?_⟩
   ·simp [Instr.sliceAt,Instr.slice,F5 (nH ht),hsz,this]
   ·show Value.string _=Value.string _
    congr 1
    apply ByteArray.ext;apply Array.ext';simp [List.drop_take]
  ·cases h
 ·cases h
def E1E {t e:TypeId} {sz:Nat} {x v:Val} {lo hi:Option Val} {X:Value} {Lo Hi:Option Value} (ht:sliceB P t=A4 e) (hsz:R9 P e=A4 sz) (hx:RV μ x X) (hlo:D1d μ lo Lo) (hhi:D1d μ hi Hi)
  (h:D29 sz x lo hi=A4 v):∃ V,(Instr.sliceAt t X Lo Hi A7).run P w=.ok V w/\RV μ v V:=by
 unfold D29 at h;split at h
 ·rename_i id off len sz';simp only [E5Q] at h;obtain ⟨l,bl,hh,bh,h⟩:=h;split at h
  ·cases h;rename_i hc;obtain ⟨hc1,hc2,rfl⟩:=hc;rcases hx with ⟨b,m,cap,hm,hlc,B8k,rfl⟩ | ⟨h0,a,rfl⟩
   ·have:=A2I (P:=P) (w:=w) (μ:=μ) (isSl:=A5) hlo hhi bl bh hc1 (by omega:hh<=cap);by_cases hcl:cap=l
    ·subst hcl;refine ⟨.slice (A4 ⟨b,off,A7⟩) (hh-cap) (cap-cap),by simp [Instr.sliceAt,Instr.slice,F5 (Q4 ht),this,Q7 hsz],.inr ?_⟩;have h1:hh-cap=0:=by omega
     exact ⟨h1,A4 ⟨b,off,A7⟩,by rw [h1,show cap-cap=0 by omega]⟩
    ·refine ⟨.slice (A4 ⟨b,off+l*sz,A7⟩) (hh-l) (cap-l),by simp [Instr.sliceAt,Instr.slice,F5 (Q4 ht),this,Q7 hsz,hcl,mC],.inl ⟨b,m,cap-l,hm,by omega,?_,rfl⟩⟩;have:l*sz+(cap-l)*sz=cap*sz:=by rw [<-E6W];congr 1;omega
     omega
   ·have:=A2I (P:=P) (w:=w) (μ:=μ) (isSl:=A5) (cap:=0) hlo hhi bl bh hc1 (by omega);have h1:hh=0:=by omega
    have h2:l=0:=by omega
    subst h0 h1 h2;exact ⟨.slice a 0 0,by simp [Instr.sliceAt,Instr.slice,F5 (Q4 ht),this,Q7 hsz],.inr ⟨rfl,a,rfl⟩⟩
  ·cases h
 ·simp only [E5Q] at h;obtain ⟨l,bl,hh,bh,h⟩:=h;split at h
  ·cases h;rename_i hc;obtain ⟨rfl,rfl⟩:=hc;cases hx;have:=A2I (P:=P) (w:=w) (μ:=μ) (isSl:=A5) (cap:=0) hlo hhi bl bh (E5V _) (E5V _);exact ⟨.slice A7 0 0,by simp [Instr.sliceAt,Instr.slice,F5 (Q4 ht),this,Q7 hsz],rfl⟩
  ·cases h
 ·cases h
def E1D {t e:TypeId} {n sz:Nat} {hp:B5} {x v:Val} {lo hi:Option Val} {X:Value} {Lo Hi:Option Value} (ht:qK P t=A4 (n,e)) (hsz:R9 P e=A4 sz)
  (hrow:∀ id r,rd hp id=A4 r->RowOk μ w id r) (hx:RV μ x X) (hlo:D1d μ lo Lo) (hhi:D1d μ hi Hi) (h:B5X hp n sz x lo hi=A4 v) :
  ∃ V,(Instr.sliceAt t X Lo Hi A7).run P w=.ok V w/\RV μ v V:=by
 unfold B5X at h;split at h
 ·rename_i id off;obtain ⟨b,m,hm,rfl⟩:=hx;simp only [E5Q] at h;obtain ⟨r,hr,l,bl,hh,bh,h⟩:=h;split at h
  ·cases h;rename_i hc;simp at hm;obtain ⟨hc1,hc2,hc3,hc4⟩:=hc;have hc:l<=hh/\hh<=n/\off+n*sz<=r.cells.length:=⟨hc1,hc2,hc3⟩;have A0d:MemOk μ w b m r:=by
    cases nI:r.rw with
    | true=>exact (hrow id r hr).mem hm nI
    | false =>
     rw [nI] at hc4;simp only [Bool.false_or] at hc4;cases A6q:r.cells[off]? with
     | none=>rw [A6q] at hc4;cases hc4
     | some c=>rw [A6q] at hc4;exact (hrow id r hr).seen hm (E6j A6q) (by rw [nI];simpa using hc4)
   obtain ⟨C,elem,fz,h1,h2,h3,h4⟩:=A0d;have hlen:=h3.length;simp at hlen;have:=A2I (P:=P) (w:=w) (μ:=μ) (isSl:=A6) hlo hhi bl bh hc.1 hc.2.1;by_cases hcl:n=l
   ·subst hcl;refine ⟨.slice (A4 ⟨b,off,A7⟩) (hh-n) (n-n),by simp [Instr.sliceAt,Instr.sureAddr,F5 (qL ht),this,Q7 hsz],.inr ?_⟩;have h1:hh-n=0:=by omega
    exact ⟨h1,A4 ⟨b,off,A7⟩,by rw [h1,show n-n=0 by omega]⟩
   ·refine ⟨.slice (A4 ⟨b,off+l*sz,A7⟩) (hh-l) (n-l),by simp [Instr.sliceAt,Instr.sureAddr,F5 (qL ht),this,Q7 hsz,hcl,mC],.inl ⟨b,m,n-l,hm,by omega,?_,rfl⟩⟩;have:l*sz+(n-l)*sz=n*sz:=by rw [<-E6W];congr 1;omega
    omega
  ·cases h
 ·cases h
def B6v {hp:B5} {x:Val} {X:Value} {cs:List Cell} (hrow:∀ id r,rd hp id=A4 r->RowOk μ w id r) (hx:RV μ x X) (h:iW hp x=A4 cs) :
  ∃ len cap a vs,X=.slice a len cap/\All2 (RC μ) cs vs/\(∀ sz,(∀ id off l sz',x=.c (.sl id off l sz')->sz=sz')->vs.length=len*sz)/\(a=A7->vs=[])/\(∀ b,a=A4 b->∀ j v,vs[j]?=A4 v->w.cell? (b.add j)=A4 v):=by
 unfold iW at h;split at h
 ·cases h;cases hx;exact ⟨0,0,A7,[],rfl,trivial,λ_ _=>by simp,λ_=>rfl,λb hb=>(by cases hb)⟩
 ·rename_i id off len sz;simp only [E5Q] at h;obtain ⟨r,hr,h⟩:=h;split at h
  ·cases h;rename_i hl;rcases hx with ⟨b,m,cap,hm,hlc,B8k,rfl⟩ | ⟨h0,a,rfl⟩
   ·obtain ⟨vs,h1,h2,h3⟩:=(hrow id r hr).cells hm off (len*sz) hl.1 hl.2;refine ⟨len,cap,_,vs,rfl,h1,λs hs=>(by rw [h2,hs id off len sz rfl]),λh=>(by cases h),λb' hb j v hv=>?_⟩;cases hb;rw [mC];exact h3 j v hv
   ·subst h0;exact ⟨0,0,a,[],rfl,by simp,λ_ _=>by simp,λ_=>rfl,λb hb j v hv=>by simp at hv⟩
  ·cases h
 ·cases h
def D8x {c:Cell} {b:UInt8} {V:Value} (h:D0f c=A4 b) (hr:RC μ c V):V=.int .u8 b.toNat:=by
 unfold D0f at h;split at h
 ·split at h
  ·cases h;rename_i n hn;have hV:V=.int .u8 n:=hr;subst hV
   congr 1
   have:(UInt8.ofNat n.toNat).toNat=n.toNat:=by simp [UInt8.toNat_ofNat'];omega
   rw [this];omega
  ·cases h
 ·cases h
def D0h:∀ {cs:List Cell} {s:List UInt8} {vs:List Value},bytes? cs=A4 s->All2 (RC μ) cs vs->vs=s.map λb=>Value.int .u8 b.toNat
 | [],s,[],h,_=>by simp [bytes?] at h;subst h;rfl
 | c::r,s,v::vs,h,⟨h1,h2⟩=>by
  simp only [bytes?,E5Q,E6d] at h;obtain ⟨b,hb,l,hl,rfl⟩:=h;rw [E6X,D8x hb h1,D0h hl h2]
 | [],_,_::_,_,h=>h.elim
 | _::_,_,[],_,h=>h.elim
def D3b:∀ (s:List UInt8) (acc:ByteArray),(forIn (s.map λb=>Value.int .u8 b.toNat) acc (λc r=>do
   let .int .u8 n := c | stuck "bytesToString: byte expected"
   let r:=r.push (UInt8.ofNat n.toNat)
   pure PUnit.unit
   pure (ForInStep.yield r)):Sem ByteArray).run P w=.ok ⟨acc.data++s.toArray⟩ w
 | [],acc=>by simp
 | b::s,acc=>by
  simp only [E6X,List.forIn_cons,Sem.run_bind];have:=D3b s (acc.push b);simp at this ⊢;rw [this]
def D4J {h:B5} {n0:Nat} {own:Option Nat} {x v:Val} (hp:C1X h n0 own x=A4 v):B5P h x=A4 v:=by
 unfold C1X at hp;split at hp
 ·exact hp
 ·split at hp
  ·split at hp
   ·exact hp
   ·cases hp
  ·cases hp
def D6G {s d e:TypeId} {hp:B5} {x:Val} {X:Value} {cs:List Cell} {l:List UInt8} (hs:sliceB P s=A4 e) (he:B6h P e=A4 .u8) (hd:cM P d=A5)
  (hrow:∀ id r,rd hp id=A4 r->RowOk μ w id r) (hx:RV μ x X) (h1:iW hp x=A4 cs) (h2:bytes? cs=A4 l) (B8l:∀ id off l sz',x=.c (.sl id off l sz')->1=sz') :
  (convert s d X).run P w=.ok (.string ⟨l.toArray⟩) w:=by
 obtain ⟨len,cap,a,vs,rfl,hvs,hlen,C68,A6q⟩:=B6v hrow hx h1;have hl:vs.length=len:=by simpa using hlen 1 B8l
 have hv:=D0h h2 hvs;have hc:(convert s d (.slice a len cap)).run P w=(Conv.bytesToString (.slice a len cap)).run P w:=by
  simp [convert,F5 (Q4 hs),F5 (nH hd),F5 (A6v he)]
 rw [hc];cases a with
 | none =>
  have:l=[]:=by have:=C68 rfl;rw [hv] at this;simpa using this
  subst this;rfl
 | some b =>
  have hl2:=run_loadCells_list (P:=P) w b vs (A6q b rfl);rw [hl] at hl2;simp only [Conv.bytesToString,Sem.run_bind,hl2,Result.andThen_ok];rw [hv];have:=D3b (P:=P) (w:=w) l ByteArray.empty;simp at this ⊢;rw [this]
def D4p {s d e:TypeId} {hp:B5} {x v:Val} {X:Value} (hs:sliceB P s=A4 e) (he:B6h P e=A4 .u8) (hd:cM P d=A5)
  (hrow:∀ id r,rd hp id=A4 r->RowOk μ w id r) (hx:RV μ x X) (h:B5P hp x=A4 v):∃ V,(convert s d X).run P w=.ok V w/\RV μ v V:=by
 unfold B5P at h;split at h
 ·split at h
  ·rename_i id off len sz hsz;simp only [E6d,E5Q] at h;obtain ⟨l,⟨cs,hcs,hl⟩,rfl⟩:=h;exact ⟨_,D6G hs he hd hrow hx hcs hl (λ_ _ _ _ h=>by cases h;exact hsz.symm),rfl⟩
  ·cases h
 ·cases h;exact ⟨_,D6G (hp:=hp) (cs:=[]) (l:=[]) hs he hd hrow hx rfl rfl (λ_ _ _ _ h=>by cases h),rfl⟩
 ·cases h
end
section
variable {P:Program} {μ:Mu} {w:World}
def wV (μ:Mu) (h:B5) (n0:Nat):Option Nat->Prop
 | none=>True
 | some j=>μ (n0+j)=A7/\n0+j<h.length
def Keeps (μ μ':Mu) (h:B5) (n0:Nat) (slot:Option Nat):Prop:=∀ id,id<h.length->(∀ j,slot=A4 j->id≠n0+j) -> μ' id = μ id
def Keeps.refl (μ:Mu) (h:B5) (n0:Nat) (slot:Option Nat):Keeps μ μ h n0 slot:=λ_ _ _=>rfl
def Keeps.new {μ:Mu} {h:B5} {n0:Nat} {slot:Option Nat} {r:Row} {x:Nat × Nat}:Keeps μ (μ.add (dZ h n0 slot r).1 x) h n0 slot:=by
 intro id h1 h2;have:id≠(dZ h n0 slot r).1:=by
  cases slot with
  | none=>simp only [dZ];omega
  | some j=>exact h2 j rfl
 simp [Mu.add,this]
def rJ {h:B5} {n0:Nat} {slot:Option Nat} {r:Row} (hs:wV μ h n0 slot) (hd:∀ id,h.length<=id -> μ id=A7) :
  μ (dZ h n0 slot r).1=A7/\(∀ j,j≠(dZ h n0 slot r).1->∀ x,rd (dZ h n0 slot r).2 j=A4 x->rd h j=A4 x)/\(∀ x,rd (dZ h n0 slot r).2 (dZ h n0 slot r).1=A4 x->x=r) /\
   h.length<=(dZ h n0 slot r).2.length/\(dZ h n0 slot r).1<(dZ h n0 slot r).2.length/\rd (dZ h n0 slot r).2 (dZ h n0 slot r).1=A4 r:=by
 cases slot with
 | none =>
  simp only [dZ];have e:rd (h++[A4 r]) h.length=A4 r:=by rw [rd_some];simp
  refine ⟨hd _ (E5V _),?_,?_,by simp,by simp,e⟩
  ·intro j hj x hx;rw [rd_some] at hx ⊢;by_cases hl:j<h.length
   ·rwa [E6t hl] at hx
   ·have:j-h.length≠0:=by omega
    rw [E57 (by omega)] at hx;have:([A4 r]:B5)[j-h.length]?=A7:=by apply E6x;simp;omega
    rw [this] at hx;cases hx
  ·intro x hx;rw [e] at hx;cases hx;rfl
 | some j =>
  obtain ⟨h1,h2⟩:=hs;simp only [dZ];have e:rd (h.set (n0+j) (A4 r)) (n0+j)=A4 r:=C6 h2;refine ⟨h1,?_,?_,by simp,by simpa using h2,e⟩
  ·intro i hi x hx;rwa [B6 (Ne.symm hi)] at hx
  ·intro x hx;rw [e] at hx;cases hx;rfl
def B6l {Γ:Ctx} {h:B5} {n0:Nat} {slot:Option Nat} {cs:List Cell} {C:List Value} {t:TypeId} (hi:Inv Γ μ h w) (hs:wV μ h n0 slot) (hc:All2 (RC μ) cs (C.take cs.length)) :
  Inv Γ (μ.add (dZ h n0 slot ⟨cs,A5⟩).1 (w.heap.size,C.length)) (dZ h n0 slot ⟨cs,A5⟩).2 (w.alloc (.cells C.toArray t)):=by
 obtain ⟨h1,h2,h3,h4,h5,h6⟩:=rJ (r:=⟨cs,A5⟩) hs hi.dom;refine hi.fresh h1 rfl rfl rfl (λb hb=>?_) h2 h3 h4 h5 ?_
 ·show (w.heap.push _)[b]?=_;rw [Array.getElem?_push,if_neg (by omega)]
 ·unfold RowOk;simp only [Mu.add,if_true];refine .inl ⟨C.toArray,t,(0,0),by show (w.heap.push _)[w.heap.size]?=_;simp,by simp,?_,λ_=>.inl rfl⟩;exact hc.mono λ_ _ h=>.inl (RC.mono (Mu.le_add h1) h)
def A55 {Γ:Ctx} {h:B5} {n0:Nat} {slot:Option Nat} (hi:Inv Γ μ h w) (hs:wV μ h n0 slot):Inv Γ μ (dZ h n0 slot ⟨[],A5⟩).2 w:=by
 obtain ⟨h1,h2,h3,h4,h5,h6⟩:=rJ (r:=⟨[],A5⟩) hs hi.dom;generalize dZ h n0 slot ⟨[],A5⟩=p at *;refine ⟨λid r hr=>?_,λid bT r r' x x' hr hr' nI T1 hx hx'=>?_,λid r x hr nI hx=>?_,λid hid=>hi.dom id (by omega),hi.ctx⟩
 ·by_cases e:id=p.1
  ·subst e;rw [h3 r hr];unfold RowOk;rw [h1]
  ·exact hi.rows id r (h2 id e r hr)
 ·have e:id≠p.1:=by intro e;subst e;rw [h1] at hx;cases hx
  have e':bT≠p.1:=by intro e;subst e;rw [h1] at hx';cases hx'
  exact hi.sep id bT r r' x x' (h2 id e r hr) (h2 bT e' r' hr') nI T1 hx hx'
 ·have e:id≠p.1:=by intro e;subst e;rw [h1] at hx;cases hx
  exact hi.own id r x (h2 id e r hr) nI hx
def iU (t:TypeId) (C:Array Value):(newRow t C).run P w=.ok ⟨w.heap.size,0,A7⟩ (w.alloc (.cells C t)):=by
 rfl
def W1 (m:Mu) (id:Nat) (x:Nat × Nat):(m.add id x) id=A4 x:=by simp [Mu.add]
def D7Q {Γ:Ctx} {h:B5} {n0:Nat} {slot:Option Nat} {t:TypeId} {z:Value} {zero:List Cell} {old:Value} (hi:Inv Γ μ h w) (hs:wV μ h n0 slot) (hz:A0o P t=A4 z) (hc:kN z zero=A5) :
  ∃ V w' μ',(Instr.alloc t A5 old).run P w=.ok V w' /\ μ.le μ'/\RV μ' (.c (.p (dZ h n0 slot ⟨zero,A5⟩).1 0)) V/\Inv Γ μ' (dZ h n0 slot ⟨zero,A5⟩).2 w'/\Keeps μ μ' h n0 slot:=by
 have hcs:=iL (μ:=μ) hc;have hn:=B6l (t:=t) hi hs (cs:=zero) (C:=z.cells.toList) (by rw [E53 (by rw [hcs.length];exact E5V _)];exact hcs);refine ⟨.pointer (A4 ⟨w.heap.size,0,A7⟩),_,_,?_,Mu.le_add (rJ (r:=⟨zero,A5⟩) hs hi.dom).1,⟨_,_,W1 _ _ _,rfl⟩,hn,Keeps.new⟩;cases old<;>simp [Instr.alloc,A0k hz,newVar,iU]
def E1u {Γ:Ctx} {h:B5} {n0:Nat} {slot:Option Nat} {t:TypeId} {x:Val} {X:Value} {cs:List Cell} (hi:Inv Γ μ h w) (hs:wV μ h n0 slot) (hx:RV μ x X) (hc:cells? x=A4 cs) :
  ∃ V w' μ',(Instr.box t X).run P w=.ok V w' /\ μ.le μ'/\RV μ' (.c (.p (dZ h n0 slot ⟨cs,A5⟩).1 0)) V/\Inv Γ μ' (dZ h n0 slot ⟨cs,A5⟩).2 w'/\Keeps μ μ' h n0 slot:=by
 have hcs:=hx.cells hc;have hn:=B6l (t:=t) hi hs (cs:=cs) (C:=X.cells.toList) (by rw [E53 (by rw [hcs.length];exact E5V _)];exact hcs);refine ⟨.pointer (A4 ⟨w.heap.size,0,A7⟩),_,_,?_,Mu.le_add (rJ (r:=⟨cs,A5⟩) hs hi.dom).1,⟨_,_,W1 _ _ _,rfl⟩,hn,Keeps.new⟩;simp [Instr.box,newVar,iU]
def foldl_set (vs:List Value):∀ (k off:Nat) (cs:Array Value),off+k+vs.length<=cs.size ->
  ((vs.zipIdx k).foldl (λcs (x:Value × Nat)=>cs.setIfInBounds (off+x.2) x.1) cs).toList=cs.toList.take (off+k)++(vs++cs.toList.drop (off+k+vs.length)):=by
 induction vs with
 | nil=>intro k off cs h;simp
 | cons v r ih =>
  intro k off cs h;simp only [E52] at h;simp only [List.zipIdx_cons,List.foldl_cons];rw [ih (k+1) off _ (by simp;omega)];have ho:off+k<cs.toList.length:=by simp;omega
  simp only [Array.toList_setIfInBounds];rw [List.drop_set_of_lt (by omega),E52,show off+(k+1)+r.length=off+k+(r.length+1) by omega];rw [show off+(k+1)=off+k+1 by omega,List.take_set,List.take_add_one,List.set_append];have hm:min (off+k) cs.size=off+k:=E6R (by simp at ho;omega);simp [E5P ho,hm]
def C4F (μ:Mu) (place:Nat->Option (Nat × Nat)):List (Nat × Nat × Val)->List (Nat × Value)->Prop :=
 All2 λp q=>place q.1=A4 (p.1,p.2.1)/\RV μ p.2.2 q.2
def C4i {place:Nat->Option (Nat × Nat)}:∀ {ps:List (Nat × Nat × Val)} {qs:List (Nat × Value)} {zero cs:List Cell} {Z:Array Value},C4F μ place ps qs->All2 (RC μ) zero Z.toList->E6 zero ps=A4 cs ->
  ∃ Z',Instr.fill place Z qs=A4 Z'/\All2 (RC μ) cs Z'.toList
 | [],[],zero,cs,Z,_,hz,h=>by simp [E6] at h;subst h;exact ⟨Z,rfl,hz⟩
 | (off,n,v)::ps,(i,V)::qs,zero,cs,Z,⟨⟨h1,h2⟩,h3⟩,hz,h=>by
  simp only [E6] at h;split at h
  ·rename_i xs hxs;split at h
   ·rename_i hc;have hV:=RV.cells h2 hxs;have hVl:=hV.length;have hzl:=hz.length;simp at hzl hVl;have A2x:(V.cells.size≠n||off+V.cells.size > Z.size)=A6:=by simp;omega
    have hl2:((V.cells.zipIdx.foldl (λcs (x:Value × Nat)=>cs.setIfInBounds (off+x.2) x.1) Z)).toList=Z.toList.take off++(V.cells.toList++Z.toList.drop (off+V.cells.toList.length)):=by
     have:=foldl_set V.cells.toList 0 off Z (by simp;omega);rw [<-Array.foldl_toList,Array.toList_zipIdx];simpa using this
    have E41:All2 (RC μ) (lay zero off xs) (V.cells.zipIdx.foldl (λcs (x:Value × Nat)=>cs.setIfInBounds (off+x.2) x.1) Z).toList:=by
     rw [hl2];unfold lay;rw [hV.length];exact (hz.take off).append (hV.append (hz.drop _))
    obtain ⟨Z',h4,h5⟩:=C4i h3 E41 h;refine ⟨Z',?_,h5⟩;rw [Instr.fill,h1];simp only [A2x];exact h4
   ·cases h
  ·cases h
 | [],_::_,_,_,_,h,_,_=>h.elim
 | _::_,[],_,_,_,h,_,_=>h.elim
def C4a {fs:List Field} {ps:List (Nat × Nat)} (h:fs.map (λf=>(R9 P f.type).map λn=>(f.offset,n))=ps.map A4) :
  (fs.mapM λf=>(do pure (f.offset,<-sizeOf f.type):Sem (Nat × Nat))).run P w=.ok ps w:=by
 induction fs generalizing ps with
 | nil=>cases ps<;>simp_all
 | cons f r ih =>
  cases ps with
  | nil=>simp at h
  | cons p ps =>
   simp only [E6X,List.cons.injEq] at h;cases hs:R9 P f.type with
   | none=>simp [hs] at h
   | some n =>
    simp [hs] at h;have:=ih (ps:=ps) (by simpa using h.2);simp at this;simp [List.mapM_cons,Q7 hs,this,h.1]
def D5G {s:TypeId} {fs:Array Field} {z:Value} {zero cs:List Cell} {pl:List (Nat × Nat)} {ps:List (Nat × Nat × Val)} {qs:List (Nat × Value)} (hs:A4e P s=A4 fs) (hz:A0o P s=A4 z) (hc:kN z zero=A5)
  (hp:fs.toList.map (λf=>(R9 P f.type).map λn=>(f.offset,n))=pl.map A4) (hR:C4F μ (pl[·]?) ps qs) (h:E6 zero ps=A4 cs) :
  ∃ V,(Instr.build s qs.toArray).run P w=.ok V w/\RV μ (.a cs) V:=by
 obtain ⟨Z',h1,h2⟩:=C4i hR (iL hc) h;refine ⟨.agg Z',?_,Z'.toList,by simp,h2⟩;have hm:=C4a (P:=P) (w:=w) hp;simp [Instr.build,A0k hz,F5 (A4f hs),Array.mapM_eq_mapM_toList] at hm ⊢;rw [hm];simp [h1]
def D5F {s e:TypeId} {n sz:Nat} {z:Value} {zero cs:List Cell} {ps:List (Nat × Nat × Val)} {qs:List (Nat × Value)} (hs:qK P s=A4 (n,e)) (hsz:R9 P e=A4 sz) (hz:A0o P s=A4 z) (hc:kN z zero=A5)
  (hR:C4F μ (λi=>A4 (i*sz,sz)) ps qs) (h:E6 zero ps=A4 cs) :
  ∃ V,(Instr.build s qs.toArray).run P w=.ok V w/\RV μ (.a cs) V:=by
 obtain ⟨Z',h1,h2⟩:=C4i hR (iL hc) h;refine ⟨.agg Z',?_,Z'.toList,by simp,h2⟩;simp [Instr.build,A0k hz,F5 (qL hs),Q7 hsz,h1]
def D4q {Γ:Ctx} {h:B5} {n0:Nat} {slot:Option Nat} {s e:TypeId} {len sz:Nat} {z:Value} {zero cs:List Cell} {ps:List (Nat × Nat × Val)} {qs:List (Nat × Value)}
  (hi:Inv Γ μ h w) (oL:wV μ h n0 slot) (hs:sliceB P s=A4 e) (hsz:R9 P e=A4 sz) (hz:A0o P e=A4 z) (hlen:len*sz<=2 ^ 24)
  (hc:kN (.agg ((Array.range (len*sz)).map (z.cells[· % z.cells.size]!))) zero=A5) (hR:C4F μ (λi=>A4 (i*sz,sz)) ps qs) (hf:E6 zero ps=A4 cs) :
  ∃ V w' μ',(Instr.buildSlice s len qs.toArray).run P w=.ok V w' /\ μ.le μ'/\RV μ' (.c (.sl (dZ h n0 slot ⟨cs,A5⟩).1 0 len sz)) V/\Inv Γ μ' (dZ h n0 slot ⟨cs,A5⟩).2 w'/\Keeps μ μ' h n0 slot:=by
 obtain ⟨Z',h1,h2⟩:=C4i hR (iL hc) hf;have hn:=B6l (t:=e) hi oL (cs:=cs) (C:=Z'.toList) (by rw [E53 (by rw [h2.length];exact E5V _)];exact h2);have hcl:cs.length=zero.length:=by
  have:∀ (ps:List (Nat × Nat × Val)) (zero cs:List Cell),E6 zero ps=A4 cs->cs.length=zero.length:=by
   intro ps
   induction ps with
   | nil=>intro zero cs h;simp [E6] at h;rw [h]
   | cons p ps ih =>
    intro zero cs h;obtain ⟨off,n,v⟩:=p;simp only [E6] at h;split at h
    ·split at h
     ·rename_i hc;rw [ih _ _ h];simp [lay];omega
     ·cases h
    ·cases h
  exact this _ _ _ hf
 have hzl:zero.length=len*sz:=by
  have:=(iL (μ:=μ) hc).length;simpa [Value.cells] using this
 refine ⟨.slice (A4 ⟨w.heap.size,0,A7⟩) len len,_,_,?_,Mu.le_add (rJ (r:=⟨cs,A5⟩) oL hi.dom).1,.inl ⟨_,_,len,W1 _ _ _,E5V _,?_,rfl⟩,hn,Keeps.new⟩
 ·have cU:¬ len*sz > 2 ^ 24:=by omega
  have h1:Instr.fill (λi=>A4 (i*sz,sz)) ((Array.range (len*sz)).map (z.cells[· % z.cells.size]!)) qs=A4 Z':=h1;by_cases h0:len*sz=0
  ·have e0:((Array.range (len*sz)).map (λi=>z.cells[i%z.cells.size]!)) = #[]:=by simp [h0]
   rw [e0] at h1;have hr0:(Array.range 0).map (λ_=>(default:Value)) = #[]:=by simp
   simp [Instr.buildSlice,F5 (Q4 hs),Q7 hsz,h0,hr0,h1,iU]
  ·simp only [Instr.buildSlice,Sem.run_bind,F5 (Q4 hs),Result.andThen_ok,Q7 hsz,if_neg cU,if_neg h0,Sem.run_pure,A0k hz,h1,iU,pure_bind]
 ·have:=h2.length;simp at this ⊢;omega
def D6E {Z:Array Value} {zero:List Cell} (hz:All2 (RC μ) zero Z.toList) (n:Nat) (h0:Z.size≠0) :
  All2 (RC μ) (rows zero n) (((Array.range (n*Z.size)).map (Z[· % Z.size]!)).toList):=by
 have e:((Array.range (n*Z.size)).map (Z[· % Z.size]!)).toList=(E5R n Z.toList).flatten:=by
  simp only [Array.toList_map,Array.toList_range]
  induction n with
  | zero=>simp
  | succ n ih =>
   rw [List.replicate_succ',List.flatten_append,<-ih,E6W,Nat.one_mul,List.range_add,E6N,List.map_map]
   congr 1
   simp only [List.flatten_cons,List.flatten_nil,E6m];apply List.ext_getElem
   ·simp
   ·intro i h1 h2;simp at h1 h2;simp [Nat.add_mod,E6K h1,h1]
 rw [e];exact hz.flatten_replicate n
def D99 {Γ:Ctx} {h:B5} {n0:Nat} {slot:Option Nat} {s e:TypeId} {n c sz by_:Nat} {z:Value} {zero:List Cell} {x y:Val} {X Y:Value} (hi:Inv Γ μ h w) (oL:wV μ h n0 slot)
  (hs:sliceB P s=A4 e) (hsz:R9 P e=A4 sz) (hz:A0o P e=A4 z) (hc:kN z zero=A5) (hzs:zero.length=sz) (B6f:sz≠0) (hby:C6s P e=A4 by_) (hbl:by_<=65536)
  (hx:RV μ x X) (hy:RV μ y Y) (hn:A6B x=A4 n) (B8k:A6B y=A4 c) (hnc:n<=c) :
  ∃ V w' μ',(Instr.makeSlice s X Y).run P w=.ok V w' /\ μ.le μ'/\RV μ' (.c (.sl (dZ h n0 slot ⟨rows zero n,A5⟩).1 0 n sz)) V/\Inv Γ μ' (dZ h n0 slot ⟨rows zero n,A5⟩).2 w'/\Keeps μ μ' h n0 slot:=by
 have key:∀ {v:Val} {V:Value} {m:Nat},RV μ v V->A6B v=A4 m->V=.int .i64 m/\m<=1073741824:=by
  intro v V m hv hm;unfold A6B at hm;split at hm
  ·split at hm
   ·cases hm;rename_i k hk;have:V=.int .i64 k:=hv;subst this;exact ⟨by congr 1;omega,by omega⟩
   ·cases hm
  ·cases hm
 obtain ⟨rfl,hnb⟩:=key hx hn;obtain ⟨rfl,hcb⟩:=key hy B8k;have hcs:=iL (μ:=μ) hc;have hzl:z.cells.size=sz:=by have:=hcs.length;simp at this;omega
 have hrows:=D6E hcs c (by omega);rw [hzl] at hrows;have hrl:∀ m,(rows zero m).length=m*sz:=by intro m;simp [rows,hzs]
 have E2N:rows zero c=rows zero n++rows zero (c-n):=by
  unfold rows;rw [<-List.flatten_append,List.replicate_append_replicate]
  congr 2;omega
 obtain ⟨info,fD,hib⟩:=D7R (P:=P) (w:=w) hby;have hnn:=B6l (t:=e) hi oL (cs:=rows zero n) (C:=((Array.range (c*sz)).map (z.cells[· % sz]!)).toList) (by
  have:=hrows.take (rows zero n).length;rw [E2N,List.take_left] at this;exact this)
 refine ⟨.slice (A4 ⟨w.heap.size,0,A7⟩) n c,_,_,?_,Mu.le_add (rJ (r:=⟨rows zero n,A5⟩) oL hi.dom).1,.inl ⟨_,_,c,W1 _ _ _,hnc,?_,rfl⟩,hnn,Keeps.new⟩
 ·have w1:IntKind.i64.wrap (n:Int)=n:=IntWalk.i64_in _ (by omega);have w2:IntKind.i64.wrap (c:Int)=c:=IntWalk.i64_in _ (by omega);have hb:¬ ((by_:Int)*(c:Int) > 281474976710656):=by
   have:(by_:Int)*c<=65536*1073741824:=by
    have h1:by_*c<=65536*1073741824:=Nat.mul_le_mul hbl hcb;have h2:((by_*c:Nat):Int)<=((65536*1073741824:Nat):Int):=Int.ofNat_le.2 h1;rw [Int.natCast_mul] at h2;exact h2
   omega
  by_cases h0:c*sz=0
  ·simp [Instr.makeSlice,F5 (Q4 hs),asInt,asIntOf,fD,hib,w1,w2,Q7 hsz,h0,iU];have q1:¬ ((c:Int)<0\/281474976710656<(by_:Int)*c):=by omega
   have q2:¬ ((n:Int)<0):=by omega
   have q3:¬ (c<n):=by omega
   simp [q1,q2,q3];rw [show (Array.range 0).map (λ_=>(default:Value)) = #[] by simp]
  ·simp [Instr.makeSlice,F5 (Q4 hs),asInt,asIntOf,fD,hib,w1,w2,Q7 hsz,h0,A0k hz,hzl,iU];have q1:¬ ((c:Int)<0\/281474976710656<(by_:Int)*c):=by omega
   have q2:¬ ((n:Int)<0):=by omega
   have q3:¬ (c<n):=by omega
   simp [q1,q2,q3];exact congrArg (λx=>w.alloc (Obj.cells x e)) (by apply Array.ext';simp)
 ·simp
end
section
variable {P:Program} {μ:Mu} {w:World}
def D6c (s:List UInt8):All2 (RC μ) (B4 s) (s.map λb=>Value.int .u8 b.toNat):=by
 induction s with
 | nil=>trivial
 | cons b r ih=>exact ⟨rfl,ih⟩
def A9 (s:List UInt8):(B4 s).length=s.length:=by simp [B4]
def C10 {h:B5} {sz:Nat} {y:Val} {Y:Value} {ys:List Cell} (hrow:∀ id r,rd h id=A4 r->RowOk μ w id r) (hy:RV μ y Y) (hc:Q6 h sz y=A4 ys) :
  ∃ n vs,(Builtin.lenOf Y).run P w=.ok n w/\(Builtin.firstCells sz n Y).run P w=.ok vs w/\All2 (RC μ) ys vs.toList/\vs.size=n*sz:=by
 unfold Q6 at hc;split at hc
 ·split at hc
  ·cases hc;rename_i s hs;subst hs;have hY:Y=.string ⟨s.toArray⟩:=hy;subst hY;refine ⟨s.length,(s.map λb=>Value.int .u8 b.toNat).toArray,?_,?_,D6c s,by simp⟩
   ·simp [Builtin.lenOf];show s.toArray.size=_;simp
   ·have:((ByteArray.mk s.toArray).extract 0 s.length).data=s.toArray:=by
     apply Array.ext';simp
    simp [Builtin.firstCells]
  ·cases hc
 ·split at hc
  ·rename_i id off len sz' hs;subst hs;obtain ⟨len',cap,a,vs,hY,hvs,hlen,C68,A6q⟩:=B6v hrow hy hc;subst hY;have hl:=hlen sz (λ_ _ _ _ h=>by cases h;rfl);refine ⟨len',vs.toArray,rfl,?_,hvs,by simpa using hl⟩;cases a with
   | none=>have:=C68 rfl;subst this;rfl
   | some b =>
    have:=run_loadCells_list (P:=P) w b vs (A6q b rfl);rw [hl] at this;simpa [Builtin.firstCells] using this
  ·cases hc
 ·cases hc;cases hy;exact ⟨0,#[],rfl,rfl,trivial,by simp⟩
 ·cases hc
def Inv.move {Γ:Ctx} {h:B5} {w':World} {id:Nat} {r r':Row} {b n:Nat} (hi:Inv Γ μ h w) (hr:rd h id=A4 r) (nI:r.rw=A5) (E5d:r'.rw=A5) (hm:μ id=A4 (b,n))
  (hos:w'.os=w.os) (htape:w'.tape=w.tape) (hout:w'.output=w.output) (hb:∀ b',b'≠b->w'.heap[b']?=w.heap[b']?)
  (hrow:RowOk (μ.add h.length (b,n)) w' h.length r'):Inv Γ (μ.add h.length (b,n)) (h.set id A7++[A4 r']) w':=by
 replace nI:=Row.own_rw nI
 have E5y:=C8 hr;have uU:∀ j x,rd (h.set id A7++[A4 r']) j=A4 x->(j=h.length/\x=r')\/(j≠h.length/\j≠id/\rd h j=A4 x):=by
  intro j x hx;by_cases hj:j<h.length
  ·rw [E1 (by simpa using hj)] at hx;by_cases e:id=j
   ·subst e;rw [C6 hj] at hx;cases hx
   ·rw [B6 e] at hx;exact .inr ⟨by omega,Ne.symm e,hx⟩
  ·rw [rd_some,E57 (by simp;omega)] at hx;have h0:=(List.getElem?_eq_some_iff.1 hx).1;simp at h0;have e:j=h.length:=by omega
   subst e;simp at hx;exact .inl ⟨rfl,hx.symm⟩
 have C68:μ h.length=A7:=hi.dom _ (E5V _);have old:∀ j,j≠h.length->(μ.add h.length (b,n)) j = μ j:=λj hj=>by simp [Mu.add,hj]
 refine ⟨λj x hx=>?_,λj j' x x' y y' hx hx' hxw T1 hy hy'=>?_,λj x y hx hxw hy=>?_,λj hj=>?_,?_⟩
 ·rcases uU j x hx with ⟨rfl,rfl⟩ | ⟨h1,h2,h3⟩
  ·exact hrow
  ·exact (hi.rows j x h3).mono (Mu.le_add C68) (old j h1) λy hy=>hb _ (Ne.symm (hi.sep id j r x (b,n) y hr h3 nI (Ne.symm h2) hm hy))
 ·rcases uU j x hx with ⟨rfl,rfl⟩ | ⟨h1,h2,h3⟩
  ·rcases uU j' x' hx' with ⟨h4,_⟩ | ⟨h4,h5,h6⟩
   ·exact absurd h4.symm T1
   ·rw [W1] at hy;cases hy;rw [old _ h4] at hy';exact hi.sep id j' r x' (b,n) y' hr h6 nI (Ne.symm h5) hm hy'
  ·rw [old _ h1] at hy;rcases uU j' x' hx' with ⟨h4,_⟩ | ⟨h4,h5,h6⟩
   ·subst h4;rw [W1] at hy';cases hy';exact hi.sep j id x r y (b,n) h3 hr hxw h2 hy hm
   ·rw [old _ h4] at hy';exact hi.sep j j' x x' y y' h3 h6 hxw T1 hy hy'
 ·rcases uU j x hx with ⟨rfl,rfl⟩ | ⟨h1,h2,h3⟩
  ·rw [W1] at hy;cases hy;exact hi.own id r (b,n) hr nI hm
  ·rw [old _ h1] at hy;exact hi.own j x y h3 hxw hy
 ·have:j≠h.length:=by simp at hj;omega
  rw [old _ this];exact hi.dom j (by simp at hj;omega)
 ·refine ⟨hos.trans hi.ctx.os,htape.trans hi.ctx.tape,hout.trans hi.ctx.output,λb' o ho=>?_⟩;have T1:b'≠b:=by
   intro e;subst e;have:=hi.own id r (b',n) hr nI hm;simp at this;rw [ho] at this;cases this
  rw [hb b' T1];exact hi.ctx.block b' o ho
def Inv.drop {Γ:Ctx} {h:B5} (hi:Inv Γ μ h w) (id:Nat):Inv Γ μ (h.set id A7) w:=by
 have uU:∀ j x,rd (h.set id A7) j=A4 x->rd h j=A4 x:=by
  intro j x hx;by_cases e:id=j
  ·subst e;by_cases hl:id<h.length
   ·rw [C6 hl] at hx;cases hx
   ·rw [List.set_eq_of_length_le (by omega)] at hx;exact hx
  ·rwa [B6 e] at hx
 exact ⟨λj x hx=>hi.rows j x (uU j x hx),λj j' x x' y y' hx hx'=>hi.sep j j' x x' y y' (uU j x hx) (uU j' x' hx'),λj x y hx=>hi.own j x y (uU j x hx),λj hj=>hi.dom j (by simpa using hj),hi.ctx⟩
def C64 (n:Nat):∀ (k c:Nat),c<=n->Builtin.growBy n k c<=n+(n+768)/4
 | 0,c,h=>by simp [Builtin.growBy];omega
 | k+1,c,h=>by
  unfold Builtin.growBy;split
  ·omega
  ·rename_i hc;by_cases h2:c+(c+768)/4<=n
   ·exact C64 n k _ h2
   ·have:Builtin.growBy n k (c+(c+768)/4)=c+(c+768)/4:=by
     cases k with
     | zero=>rfl
     | succ k=>unfold Builtin.growBy;rw [if_pos (by omega)]
    rw [this];omega
def C7x (n c:Nat) (h:c<=n):Builtin.nextslicecap n c<=2*n+1000:=by
 unfold Builtin.nextslicecap;split
 ·omega
 ·split
  ·omega
  ·have:=C64 n 4 c h;omega
def A8y {s e yt ty:TypeId} {i:TypeInfo} {n sLen sCap:Nat} {z:Value} {base:Option Addr} {Y:Value} {old new:Array Value} {oc nc:List Cell} {Γ:Ctx} {h:B5}
  (hi:Inv Γ μ h w) (hs:P.underlying s=A4 (.slice e)) (fD:P.info? e=A4 i) (hbl:i.bytes<=65536) (hz:i.zero=A4 z) (hzl:z.cells.size=i.size)
  (hyt:P.underlying yt=A4 .string\/∃ e',P.underlying yt=A4 (.slice e')) (hlen:(Builtin.lenOf Y).run P w=.ok n w) (hb0:i.bytes≠0)
  (C9n:(Builtin.firstCells i.size n Y).run P w.drew=.ok new w.drew) (hold:(Builtin.firstCells i.size sLen (.slice base sLen sCap)).run P w.drew=.ok old w.drew)
  (D9b:¬ sLen+n<=sCap) (B8k:sLen<=sCap) (E2x:sLen+n<=1073741824)
  (ho:All2 (RC μ) oc old.toList) (hn:All2 (RC μ) nc new.toList) (hol:old.size=sLen*i.size) (hnl:new.size=n*i.size) :
  ∃ w' c,(Builtin.append_ #[s,yt] ty #[.slice base sLen sCap,Y]).run P w=.ok (.slice (A4 ⟨w.heap.size,0,A7⟩) (sLen+n) c) w'/\sLen+n<=c /\
   Inv Γ (μ.add h.length (w.heap.size,c*i.size)) (h++[A4 ⟨oc++nc,A5⟩]) w':=by
 have hnc:=C7x (sLen+n) sCap (by omega);have dF:¬ (281474976710656<Builtin.nextslicecap (sLen+n) sCap*i.bytes):=by
  have:Builtin.nextslicecap (sLen+n) sCap*i.bytes<=2147484648*65536:=Nat.mul_le_mul (by omega) hbl;omega
 have hc0:sLen+n<=grownCap w (sLen+n) sCap e:=by show sLen+n<=sLen+n+_%_;omega
 have hw:Inv Γ μ h w.drew:=hi.world rfl rfl rfl λ_ _=>rfl
 have D3N:(Builtin.zeroCells z.cells (grownCap w (sLen+n) sCap e-(sLen+n))).size=(grownCap w (sLen+n) sCap e-(sLen+n))*i.size:=by
  simp [Builtin.zeroCells,hzl]
 have hC:(old++new++Builtin.zeroCells z.cells (grownCap w (sLen+n) sCap e-(sLen+n))).toList.length=grownCap w (sLen+n) sCap e*i.size:=by
  have:(sLen+n)*i.size+(grownCap w (sLen+n) sCap e-(sLen+n))*i.size=grownCap w (sLen+n) sCap e*i.size:=by
   rw [<-E6W];congr 1;omega
  have h2:(sLen+n)*i.size=sLen*i.size+n*i.size:=E6W ..;rw [Array.length_toList,Array.size_append,Array.size_append,D3N,hol,hnl];omega
 have hrow:=B6l (t:=e) hw (slot:=A7) (n0:=0) trivial (cs:=oc++nc) (C:=(old++new++Builtin.zeroCells z.cells (grownCap w (sLen+n) sCap e-(sLen+n))).toList) (by
  have h1:(old++new++Builtin.zeroCells z.cells (grownCap w (sLen+n) sCap e-(sLen+n))).toList=(old.toList++new.toList)++(Builtin.zeroCells z.cells (grownCap w (sLen+n) sCap e-(sLen+n))).toList:=by simp
  rw [h1,show (oc++nc).length=(old.toList++new.toList).length by rw [(ho.append hn).length],List.take_left];exact ho.append hn)
 refine ⟨w.drew.alloc (.cells (old++new++Builtin.zeroCells z.cells (grownCap w (sLen+n) sCap e-(sLen+n))) e),grownCap w (sLen+n) sCap e,?_,hc0,?_⟩
 ·have h63:¬ (9223372036854775807<((sLen+n:Nat):Int)/\False):=by simp
  have E32:IntKind.i64.max=9223372036854775807:=by decide
  rcases hyt with hyt | ⟨e',hyt⟩ <;>
   simp [Builtin.append_,F5 hs,F5 hyt,sizeOf,typeInfo,zeroValue,fD,hz,hlen,D9b,hb0,dF,Question.forced,C9n,hold,iU,grownCap]
 ·rw [hC] at hrow;exact hrow
def A8z {s e yt ty:TypeId} {i:TypeInfo} {n sLen sCap:Nat} {base:Option Addr} {Y:Value} {new:Array Value} {w':World}
  (hs:P.underlying s=A4 (.slice e)) (fD:P.info? e=A4 i) (hyt:P.underlying yt=A4 .string\/∃ e',P.underlying yt=A4 (.slice e')) (hlen:(Builtin.lenOf Y).run P w=.ok n w)
  (C9n:(Builtin.firstCells i.size n Y).run P w=.ok new w) (A2A:sLen+n<=sCap)
  (hst:∀ a,base=A4 a->(storeCells (a.add (sLen*i.size)) new.toList).run P w=.ok () w') (cU:base=A7->w'=w) :
  (Builtin.append_ #[s,yt] ty #[.slice base sLen sCap,Y]).run P w=.ok (.slice base (sLen+n) sCap) w':=by
 cases base with
 | none =>
  have:=cU rfl;subst this;rcases hyt with hyt | ⟨e',hyt⟩<;>simp [Builtin.append_,F5 hs,F5 hyt,sizeOf,typeInfo,fD,hlen,A2A,C9n]
 | some a =>
  have:=hst a rfl;rcases hyt with hyt | ⟨e',hyt⟩<;>simp [Builtin.append_,F5 hs,F5 hyt,sizeOf,typeInfo,fD,hlen,A2A,C9n,this]
def A4d {Γ:Ctx} {h:B5} {id b m:Nat} {r:Row} {ys:List Cell} {vs:List Value} (hi:Inv Γ μ h w) (hr:rd h id=A4 r) (nI:r.rw=A5) (hm:μ id=A4 (b,m))
  (hx:All2 (RC μ) ys vs) (hl:r.cells.length+ys.length<=m) :
  (storeCells ⟨b,r.cells.length,A7⟩ vs).run P w=.ok () (w.setCells b r.cells.length vs)/\Inv Γ (μ.add h.length (b,m)) (h.set id A7++[A4 ⟨r.cells++ys,A5⟩]) (w.setCells b r.cells.length vs):=by
 obtain ⟨C,elem,fz,h1,h2,h3,h4⟩:=(hi.rows id r hr).mem hm nI
 replace h3:=RL.all h3 (by rw [nI];rfl)
 have hlen:=h3.length;have hxl:=hx.length;simp at hlen;have A6q:∀ j,j<vs.length->(w.cell? ⟨b,r.cells.length+0+j,A7⟩).isSome=A5:=by
  intro j hj;simp only [World.cell?,h1];simp;omega
 have hfz:∀ j,j<vs.length->w.frozen? ⟨b,r.cells.length+0+j,A7⟩=A6:=by
  intro j hj;simp only [World.frozen?,h1];obtain ⟨lo,hi'⟩:=fz;rcases h4 nI with h4 | h4<;>simp at h4 ⊢ <;> omega
 have h1c:∀ v∈vs,v.oneCell'=A5:=by
  intro v hv;obtain ⟨i,V7,rfl⟩:=List.getElem_of_mem hv;have:i<ys.length:=by omega
  obtain ⟨V,hV,hR⟩:=hx.get i ys[i] (by simp [this]);rw [E5P V7] at hV;cases hV;exact hR.one
 refine ⟨by simpa using run_storeCells_cells (P:=P) b r.cells.length vs 0 w A6q hfz h1c,?_⟩;obtain ⟨C',h5,h6⟩:=A5x b vs r.cells.length w C elem fz h1 (by omega);obtain ⟨ho,ht,hou⟩:=B2w b vs r.cells.length w;have dF:=Mu.le_add (x:=(b,m)) (hi.dom h.length (E5V _));refine hi.move hr nI rfl hm ho ht hou (λb' hb=>A2J b vs r.cells.length w b' hb) ?_;unfold RowOk;rw [W1];refine .inl ⟨C',elem,fz,h5,?_,?_,λ_=>h4 nI⟩
 ·have:=congrArg List.length h6;simp at this;omega
 ·rw [h6];have e:(C.toList.take r.cells.length++(vs++C.toList.drop (r.cells.length+vs.length))).take (r.cells++ys).length=C.toList.take r.cells.length++vs:=by
   rw [<-E5Y,List.take_left'];simp;omega
  rw [e];exact ((h3.mono λ_ _=>RC.mono dF).append (hx.mono λ_ _=>RC.mono dF)).mono λ_ _=>.inl
def E1s {s e yt ty:TypeId} {i:TypeInfo} {z:Value} {x y v:Val} {X Y:Value} {Γ:Ctx} {h h':B5}
  (hi:Inv Γ μ h w) (hs:P.underlying s=A4 (.slice e)) (fD:P.info? e=A4 i) (hbl:i.bytes<=65536) (hb0:i.bytes≠0) (hz:i.zero=A4 z) (hzl:z.cells.size=i.size) (B6f:i.size≠0)
  (hyt:P.underlying yt=A4 .string\/∃ e',P.underlying yt=A4 (.slice e')) (hx:RV μ x X) (hy:RV μ y Y) (hc:kV h i.size x y=A4 (v,h')) :
  ∃ V w' μ',(Builtin.append_ #[s,yt] ty #[X,Y]).run P w=.ok V w' /\ μ.le μ'/\RV μ' v V/\Inv Γ μ' h' w'/\(∀ id,id<h.length -> μ' id = μ id):=by
 unfold kV at hc;simp only [E5Q] at hc;obtain ⟨ys,hys,hc⟩:=hc;obtain ⟨n,vs,hlen,C0V,hvs,hvl⟩:=C10 (P:=P) hi.rows hy hys;obtain ⟨n2,vs2,hlen2,D1V,hvs2,E2Q⟩:=C10 (P:=P) (w:=w.drew) (hi.world (w':=w.drew) rfl rfl rfl λ_ _=>rfl).rows hy hys;have hyl:ys.length/i.size=n:=by
  have:=hvs.length;simp at this;rw [this,hvl];exact Nat.mul_div_cancel _ (by omega)
 have hn2:n2=n:=by
  have h1:=hvs.length;have h2:=hvs2.length;simp at h1 h2;exact Nat.eq_of_mul_eq_mul_right (by omega:0<i.size) (by omega)
 rw [hyl] at hc;subst hn2;have D1U:μ h.length=A7:=hi.dom _ (E5V _);have cQ:∀ x id,id<h.length->(μ.add h.length x) id = μ id:=λx id hid=>by
  have:id≠h.length:=by omega
  simp [Mu.add,this]
 split at hc
 ·
  split at hc
  ·cases hc;rename_i hb;cases hx;by_cases h0:n2=0
   ·subst h0;have hy0:ys=[]:=by
     have:=hvs.length;simp [hvl] at this;exact this
    subst hy0;have hr:=A8z (P:=P) (ty:=ty) (sLen:=0) (sCap:=0) (base:=A7) (w':=w) hs fD hyt hlen C0V (by omega) (λa h=>by cases h) (λ_=>rfl);exact ⟨_,w,μ,hr,Mu.le_refl _,.inr ⟨rfl,A7,rfl⟩,A55 (slot:=A7) (n0:=0) hi trivial,λ_ _=>rfl⟩
   ·obtain ⟨w',c,hr,hc1,hI⟩:=A8y (P:=P) (ty:=ty) (sLen:=0) (sCap:=0) (base:=A7) (old:=#[]) (oc:=[]) hi hs fD hbl hz hzl hyt hlen hb0 D1V (by simp [Builtin.firstCells]) (by omega) (E5V _) (by omega) trivial hvs2 (by simp) E2Q;refine ⟨_,w',_,hr,Mu.le_add D1U,.inl ⟨w.heap.size,c*i.size,c,W1 _ _ _,by omega,by simp,by simp⟩,hI,cQ _⟩
  ·cases hc
 ·rename_i id off len sz';simp only [E5Q] at hc;obtain ⟨r,hr,hc⟩:=hc;split at hc
  ·cases hc;rename_i A2x;obtain ⟨nI,rfl,hcl,hsz,hbd⟩:=A2x;subst hsz;rcases hx with ⟨b,m,cap,hm,hlc,B8k,rfl⟩ | ⟨h0,a,rfl⟩
   ·by_cases A2A:len+n2<=cap
    ·have E0Y:r.cells.length+ys.length<=m:=by
      have h1:=hvs.length;simp at h1;have h2:(len+n2)*i.size<=cap*i.size:=Nat.mul_le_mul_right _ A2A;rw [E6W] at h2;omega
     have hst:=A4d (P:=P) hi hr nI hm hvs E0Y;have hr':=A8z (P:=P) (ty:=ty) (sLen:=len) (sCap:=cap) (base:=A4 ⟨b,0,A7⟩) (w':=w.setCells b r.cells.length vs.toList) hs fD hyt hlen C0V A2A
      (λa ha=>by cases ha;rw [mC,hcl,E6e];exact hst.1) (λh=>by cases h)
     exact ⟨_,_,_,hr',Mu.le_add D1U,.inl ⟨b,m,cap,W1 _ _ _,A2A,B8k,rfl⟩,hst.2,cQ _⟩
    ·have hrow:=hi.rows id r hr;obtain ⟨olds,ho1,ho2,ho3⟩:=hrow.cells hm 0 (len*i.size) (by omega) (by rw [nI];rfl);have pL:(r.cells.drop 0).take (len*i.size)=r.cells:=by rw [E6a,hcl,List.take_length]
     rw [pL] at ho1;have hold:=run_loadCells_list (P:=P) w.drew ⟨b,0,A7⟩ olds (λj v hv=>by rw [mC];exact ho3 j v hv);rw [ho2] at hold;obtain ⟨w',c,hr',hc1,hI⟩:=A8y (P:=P) (ty:=ty) (sLen:=len) (sCap:=cap) (base:=A4 ⟨b,0,A7⟩) (old:=olds.toArray) (oc:=r.cells) hi hs fD hbl hz hzl hyt hlen hb0 D1V
      (by simpa [Builtin.firstCells] using hold) A2A hlc (by omega) ho1 hvs2 (by simpa using ho2) E2Q
     refine ⟨_,w',_,hr',Mu.le_add D1U,.inl ⟨w.heap.size,c*i.size,c,W1 _ _ _,by omega,by simp,by simp⟩,?_,cQ _⟩;have:=hI.drop id
     rwa [List.set_append_left _ _ (C8 hr)] at this
   ·subst h0;have hrc:r.cells=[]:=by
     have:r.cells.length=0:=by omega
     exact List.length_eq_zero_iff.1 this
    by_cases h0:n2=0
    ·subst h0;have hy0:ys=[]:=by
      have:=hvs.length;simp [hvl] at this;exact this
     subst hy0;have E5h:vs = #[]:=by simpa using hvl
     subst E5h;have hr':=A8z (P:=P) (ty:=ty) (sLen:=0) (sCap:=0) (base:=a) (w':=w) hs fD hyt hlen C0V (by omega) (λa h=>by simp [storeCells]) (λ_=>rfl);refine ⟨_,w,μ,hr',Mu.le_refl _,.inr ⟨rfl,a,rfl⟩,?_,λ_ _=>rfl⟩;have:=(A55 (slot:=A7) (n0:=0) hi trivial).drop id;rw [hrc];simp only [dZ] at this
     rwa [List.set_append_left _ _ (C8 hr)] at this
    ·obtain ⟨w',c,hr',hc1,hI⟩:=A8y (P:=P) (ty:=ty) (sLen:=0) (sCap:=0) (base:=a) (old:=#[]) (oc:=[]) hi hs fD hbl hz hzl hyt hlen hb0 D1V
      (by cases a<;>simp [Builtin.firstCells,loadCells,loadCellsFrom]) (by omega) (E5V _) (by omega) trivial hvs2 (by simp) E2Q
     refine ⟨_,w',_,hr',Mu.le_add D1U,.inl ⟨w.heap.size,c*i.size,c,W1 _ _ _,by omega,by simp,by simp⟩,?_,cQ _⟩;have:=hI.drop id;rw [hrc]
     rwa [List.set_append_left _ _ (C8 hr)] at this
  ·cases hc
 ·cases hc
def A5v {s e yt ty:TypeId} {k:IntKind} {i:TypeInfo} {n sLen sCap:Nat} {z:Value} {base:Option Addr} {old:Array Value} {oc nc:List Cell} {Γ:Ctx} {h:B5}
  (hi:Inv Γ μ h w) (hs:P.underlying s=A4 (.slice e)) (fD:P.info? e=A4 i) (hbl:i.bytes<=65536) (hz:i.zero=A4 z) (hzl:z.cells.size=i.size)
  (hyt:P.underlying yt=A4 (.int k)) (hb0:i.bytes≠0) (hp0:i.size≠0)
  (hold:(Builtin.firstCells i.size sLen (.slice base sLen sCap)).run P w.drew=.ok old w.drew)
  (D9b:¬ sLen+n<=sCap) (B8k:sLen<=sCap) (E2x:sLen+n<=1073741824)
  (ho:All2 (RC μ) oc old.toList) (hn:All2 (RC μ) nc (Builtin.zeroCells z.cells n).toList) (hol:old.size=sLen*i.size) :
  ∃ w' c,(Builtin.append_ #[s,yt] ty #[.slice base sLen sCap,.int .i64 n]).run P w=.ok (.slice (A4 ⟨w.heap.size,0,A7⟩) (sLen+n) c) w'/\sLen+n<=c /\
   Inv Γ (μ.add h.length (w.heap.size,c*i.size)) (h++[A4 ⟨oc++nc,A5⟩]) w':=by
 have hnl:(Builtin.zeroCells z.cells n).size=n*i.size:=by simp [Builtin.zeroCells,hzl]
 have hnc:=C7x (sLen+n) sCap (by omega);have dF:¬ (281474976710656<Builtin.nextslicecap (sLen+n) sCap*i.bytes):=by
  have:Builtin.nextslicecap (sLen+n) sCap*i.bytes<=2147484648*65536:=Nat.mul_le_mul (by omega) hbl;omega
 have hc0:sLen+n<=grownCap w (sLen+n) sCap e:=by show sLen+n<=sLen+n+_%_;omega
 have hw:Inv Γ μ h w.drew:=hi.world rfl rfl rfl λ_ _=>rfl
 have D3N:(Builtin.zeroCells z.cells (grownCap w (sLen+n) sCap e-(sLen+n))).size=(grownCap w (sLen+n) sCap e-(sLen+n))*i.size:=by
  simp [Builtin.zeroCells,hzl]
 have hC:(old++Builtin.zeroCells z.cells n++Builtin.zeroCells z.cells (grownCap w (sLen+n) sCap e-(sLen+n))).toList.length=grownCap w (sLen+n) sCap e*i.size:=by
  have:(sLen+n)*i.size+(grownCap w (sLen+n) sCap e-(sLen+n))*i.size=grownCap w (sLen+n) sCap e*i.size:=by
   rw [<-E6W];congr 1;omega
  have h2:(sLen+n)*i.size=sLen*i.size+n*i.size:=E6W ..;rw [Array.length_toList,Array.size_append,Array.size_append,D3N,hol,hnl];omega
 have hrow:=B6l (t:=e) hw (slot:=A7) (n0:=0) trivial (cs:=oc++nc) (C:=(old++Builtin.zeroCells z.cells n++Builtin.zeroCells z.cells (grownCap w (sLen+n) sCap e-(sLen+n))).toList) (by
  have h1:(old++Builtin.zeroCells z.cells n++Builtin.zeroCells z.cells (grownCap w (sLen+n) sCap e-(sLen+n))).toList=(old.toList++(Builtin.zeroCells z.cells n).toList)++(Builtin.zeroCells z.cells (grownCap w (sLen+n) sCap e-(sLen+n))).toList:=by simp
  rw [h1,show (oc++nc).length=(old.toList++(Builtin.zeroCells z.cells n).toList).length by rw [(ho.append hn).length],List.take_left];exact ho.append hn)
 refine ⟨w.drew.alloc (.cells (old++Builtin.zeroCells z.cells n++Builtin.zeroCells z.cells (grownCap w (sLen+n) sCap e-(sLen+n))) e),grownCap w (sLen+n) sCap e,?_,hc0,?_⟩
 ·have E32:IntKind.i64.max=9223372036854775807:=by decide
  have w1:IntKind.i64.wrap (n:Int)=n:=IntWalk.i64_in _ (by omega);have q1:¬ (n:Int)<0:=by omega
  have q2:¬ ((n:Int)*(i.bytes:Int) > 281474976710656):=by
   have h1:n*i.bytes<=1073741824*65536:=Nat.mul_le_mul (by omega) hbl;have h2:((n*i.bytes:Nat):Int)<=((1073741824*65536:Nat):Int):=Int.ofNat_le.2 h1;rw [Int.natCast_mul] at h2;omega
  have q3:¬ (9223372036854775807<((sLen:Int)+(n:Int))):=by omega
  have q4:¬ (281474976710656<(n:Int)*(i.bytes:Int)):=by omega
  by_cases h0:n=0
  ·omega
  ·have h1:¬ (n*i.size=0):=Nat.mul_ne_zero h0 hp0;simp [Builtin.append_,F5 hs,F5 hyt,sizeOf,typeInfo,zeroValue,fD,hz,asInt,asIntOf,w1,q1,q4,E32,q3,D9b,hb0,dF,Question.forced,hold,iU,grownCap,h1]
 ·rw [hC] at hrow;exact hrow
def A5w {s e yt ty:TypeId} {k:IntKind} {i:TypeInfo} {n sLen sCap:Nat} {z:Value} {base:Option Addr} {w':World}
  (hs:P.underlying s=A4 (.slice e)) (fD:P.info? e=A4 i) (hbl:i.bytes<=65536) (hz:i.zero=A4 z) (hzl:z.cells.size=i.size) (hp0:i.size≠0) (hyt:P.underlying yt=A4 (.int k)) (hnb:n<=1073741824) (A2A:sLen+n<=sCap)
  (hst:∀ a,base=A4 a->(storeCells (a.add (sLen*i.size)) (Builtin.zeroCells z.cells n).toList).run P w=.ok () w') (cU:base=A7->w'=w) :
  (Builtin.append_ #[s,yt] ty #[.slice base sLen sCap,.int .i64 n]).run P w=.ok (.slice base (sLen+n) sCap) w':=by
 have w1:IntKind.i64.wrap (n:Int)=n:=IntWalk.i64_in _ (by omega);have q1:¬ (n:Int)<0:=by omega
 have q4:¬ (281474976710656<(n:Int)*(i.bytes:Int)):=by
  have h1:n*i.bytes<=1073741824*65536:=Nat.mul_le_mul hnb hbl;have h2:((n*i.bytes:Nat):Int)<=((1073741824*65536:Nat):Int):=Int.ofNat_le.2 h1;rw [Int.natCast_mul] at h2;omega
 by_cases h0:n=0
 ·subst h0;have hzc:(Builtin.zeroCells z.cells 0) = #[]:=by simp [Builtin.zeroCells]
  have w0:IntKind.i64.wrap 0=0:=IntWalk.i64_in _ (by omega);rw [hzc] at hst;cases base with
  | none =>
   have:=cU rfl;subst this;have hr0:sLen<=sCap:=by omega
   simp [Builtin.append_,F5 hs,F5 hyt,sizeOf,typeInfo,fD,asInt,asIntOf,hr0,w0]
  | some a =>
   have:=hst a rfl;simp [storeCells] at this;subst this;have hr0:sLen<=sCap:=by omega
   simp [Builtin.append_,F5 hs,F5 hyt,sizeOf,typeInfo,fD,asInt,asIntOf,storeCells,hr0,w0]
 ·have h1:¬ (n*i.size=0):=Nat.mul_ne_zero h0 hp0;cases base with
  | none =>
   have:=cU rfl;subst this;simp [Builtin.append_,F5 hs,F5 hyt,sizeOf,typeInfo,zeroValue,fD,hz,asInt,asIntOf,w1,q1,q4,A2A,h1]
  | some a =>
   have:=hst a rfl;simp [Builtin.append_,F5 hs,F5 hyt,sizeOf,typeInfo,zeroValue,fD,hz,asInt,asIntOf,w1,q1,q4,A2A,h1,this]
def D9Z {s e yt ty:TypeId} {kk:IntKind} {i:TypeInfo} {z:Value} {zero:List Cell} {x y v:Val} {X Y:Value} {Γ:Ctx} {h h':B5}
  (hi:Inv Γ μ h w) (hs:P.underlying s=A4 (.slice e)) (fD:P.info? e=A4 i) (hbl:i.bytes<=65536) (hb0:i.bytes≠0) (hz:i.zero=A4 z) (hzl:z.cells.size=i.size) (B6f:i.size≠0)
  (hyt:P.underlying yt=A4 (.int kk)) (hzc:All2 (RC μ) zero z.cells.toList) (hx:RV μ x X) (hy:RV μ y Y) (hc:B7O h i.size zero x y=A4 (v,h')) :
  ∃ V w' μ',(Builtin.append_ #[s,yt] ty #[X,Y]).run P w=.ok V w' /\ μ.le μ'/\RV μ' v V/\Inv Γ μ' h' w'/\(∀ id,id<h.length -> μ' id = μ id):=by
 unfold B7O at hc;simp only [E5Q] at hc;obtain ⟨n2,hn2,hc⟩:=hc;have hY:Y=.int .i64 n2/\n2<=1073741824:=by
  unfold A6B at hn2;split at hn2
  ·split at hn2
   ·cases hn2;rename_i k hk;have:Y=.int .i64 k:=hy;subst this;exact ⟨by congr 1;omega,by omega⟩
   ·cases hn2
  ·cases hn2
 obtain ⟨rfl,hnb⟩:=hY;have hvs:All2 (RC μ) (rows zero n2) (Builtin.zeroCells z.cells n2).toList:=by
  have:=D6E hzc n2 (by omega);simpa [Builtin.zeroCells] using this
 have hvl:(Builtin.zeroCells z.cells n2).size=n2*i.size:=by simp [Builtin.zeroCells,hzl]
 have D1U:μ h.length=A7:=hi.dom _ (E5V _);have cQ:∀ x id,id<h.length->(μ.add h.length x) id = μ id:=λx id hid=>by
  have:id≠h.length:=by omega
  simp [Mu.add,this]
 split at hc
 ·
  ·cases hc;cases hx;by_cases h0:n2=0
   ·subst h0;have hr:=A5w (P:=P) (ty:=ty) (sLen:=0) (sCap:=0) (base:=A7) (w':=w) (n:=0) hs fD hbl hz hzl B6f hyt (by omega) (by omega) (λa h=>by cases h) (λ_=>rfl);exact ⟨_,w,μ,hr,Mu.le_refl _,.inr ⟨rfl,A7,rfl⟩,A55 (slot:=A7) (n0:=0) hi trivial,λ_ _=>rfl⟩
   ·obtain ⟨w',c,hr,hc1,hI⟩:=A5v (P:=P) (ty:=ty) (sLen:=0) (sCap:=0) (base:=A7) (old:=#[]) (oc:=[]) (n:=n2) hi hs fD hbl hz hzl hyt hb0 B6f (by simp [Builtin.firstCells]) (by omega) (E5V _) (by omega) trivial hvs (by simp);refine ⟨_,w',_,hr,Mu.le_add D1U,.inl ⟨w.heap.size,c*i.size,c,W1 _ _ _,by omega,by simp,by simp⟩,hI,cQ _⟩
 ·rename_i id off len sz';simp only [E5Q] at hc;obtain ⟨r,hr,hc⟩:=hc;split at hc
  ·cases hc;rename_i A2x;obtain ⟨nI,rfl,hcl,hsz,hbd⟩:=A2x;subst hsz;rcases hx with ⟨b,m,cap,hm,hlc,B8k,rfl⟩ | ⟨h0,a,rfl⟩
   ·by_cases A2A:len+n2<=cap
    ·have E0Y:r.cells.length+(rows zero n2).length<=m:=by
      have h1:=hvs.length;simp at h1;have h2:(len+n2)*i.size<=cap*i.size:=Nat.mul_le_mul_right _ A2A;rw [E6W] at h2;omega
     have hst:=A4d (P:=P) hi hr nI hm hvs E0Y;have hr':=A5w (P:=P) (ty:=ty) (sLen:=len) (sCap:=cap) (base:=A4 ⟨b,0,A7⟩) (w':=w.setCells b r.cells.length (Builtin.zeroCells z.cells n2).toList) hs fD hbl hz hzl B6f hyt hnb A2A
      (λa ha=>by cases ha;rw [mC,hcl,E6e];exact hst.1) (λh=>by cases h)
     exact ⟨_,_,_,hr',Mu.le_add D1U,.inl ⟨b,m,cap,W1 _ _ _,A2A,B8k,rfl⟩,hst.2,cQ _⟩
    ·have hrow:=hi.rows id r hr;obtain ⟨olds,ho1,ho2,ho3⟩:=hrow.cells hm 0 (len*i.size) (by omega) (by rw [nI];rfl);have pL:(r.cells.drop 0).take (len*i.size)=r.cells:=by rw [E6a,hcl,List.take_length]
     rw [pL] at ho1;have hold:=run_loadCells_list (P:=P) w.drew ⟨b,0,A7⟩ olds (λj v hv=>by rw [mC];exact ho3 j v hv);rw [ho2] at hold;obtain ⟨w',c,hr',hc1,hI⟩:=A5v (P:=P) (ty:=ty) (sLen:=len) (sCap:=cap) (base:=A4 ⟨b,0,A7⟩) (old:=olds.toArray) (oc:=r.cells) (n:=n2) hi hs fD hbl hz hzl hyt hb0 B6f
      (by simpa [Builtin.firstCells] using hold) A2A hlc (by omega) ho1 hvs (by simpa using ho2)
     refine ⟨_,w',_,hr',Mu.le_add D1U,.inl ⟨w.heap.size,c*i.size,c,W1 _ _ _,by omega,by simp,by simp⟩,?_,cQ _⟩;have:=hI.drop id
     rwa [List.set_append_left _ _ (C8 hr)] at this
   ·subst h0;have hrc:r.cells=[]:=by
     have:r.cells.length=0:=by omega
     exact List.length_eq_zero_iff.1 this
    by_cases h0:n2=0
    ·subst h0;have hr':=A5w (P:=P) (ty:=ty) (sLen:=0) (sCap:=0) (base:=a) (w':=w) (n:=0) (z:=z) hs fD hbl hz hzl B6f hyt (by omega) (by omega) (λa h=>by simp [storeCells,Builtin.zeroCells]) (λ_=>rfl);refine ⟨_,w,μ,hr',Mu.le_refl _,.inr ⟨rfl,a,rfl⟩,?_,λ_ _=>rfl⟩;have:=(A55 (slot:=A7) (n0:=0) hi trivial).drop id;rw [hrc];simp only [dZ] at this
     rwa [List.set_append_left _ _ (C8 hr)] at this
    ·obtain ⟨w',c,hr',hc1,hI⟩:=A5v (P:=P) (ty:=ty) (sLen:=0) (sCap:=0) (base:=a) (old:=#[]) (oc:=[]) (n:=n2) hi hs fD hbl hz hzl hyt hb0 B6f
      (by cases a<;>simp [Builtin.firstCells,loadCells,loadCellsFrom]) (by omega) (E5V _) (by omega) trivial hvs (by simp)
     refine ⟨_,w',_,hr',Mu.le_add D1U,.inl ⟨w.heap.size,c*i.size,c,W1 _ _ _,by omega,by simp,by simp⟩,?_,cQ _⟩;have:=hI.drop id;rw [hrc]
     rwa [List.set_append_left _ _ (C8 hr)] at this
  ·cases hc
 ·cases hc
end
section
variable {P:Program} {μ:Mu} {w:World}
def Inv.marked {Γ:Ctx} {h:B5} {id b n:Nat} {r:Row} (hi:Inv Γ μ h w) (hr:rd h id=A4 r) (nI:r.rw=A5) (hm:μ id=A4 (b,n)) :
  ∃ w',(markStringish ⟨b,0,A7⟩).run P w=.ok () w'/\Inv Γ μ h w'/\∀ off,(markStringish ⟨b,off,A7⟩).run P w=.ok () w':=by
 obtain ⟨C,elem,fz,h1,h2,h3,h4⟩:=(hi.rows id r hr).mem hm nI;have hsh:w.shape? b=A4 (elem,n):=by simp [World.shape?,h1,h2]
 have A9C:∀ off,(markStringish ⟨b,off,A7⟩).run P w=.ok () (w.freeze ⟨b,n,A7⟩ 1):=by
  intro off;simp [markStringish,hsh]
 refine ⟨w.freeze ⟨b,n,A7⟩ 1,A9C 0,?_,A9C⟩;have D0z:∀ b',(w.freeze ⟨b,n,A7⟩ 1).heap[b']?=if b=b' then A4 (.cells C elem (if fz.1==fz.2 then (n,n+1) else (min fz.1 n,max fz.2 (n+1)))) else w.heap[b']? := by
  intro b';simp only [World.freeze,if_neg (show ¬ (1:Nat)=0 by omega),Array.getElem?_modify];split
  ·rename_i e;subst e;rw [h1];simp
  ·rfl
 have E2K:∀ b',b'≠b->(w.freeze ⟨b,n,A7⟩ 1).heap[b']?=w.heap[b']? := λb' hb=>by rw [D0z,if_neg (Ne.symm hb)]
 have:=hi.write hr nI hm (w':=w.freeze ⟨b,n,A7⟩ 1) (cs:=r.cells) rfl rfl rfl E2K (by
  unfold RowOk;rw [hm];refine .inl ⟨C,elem,_,by rw [D0z,if_pos rfl],h2,(nI ▸ h3:All2 (RL μ A5) _ _),λ_=>.inr ?_⟩;have h5:=h4 nI;split
  ·exact E5V _
  ·rename_i T1;rcases h5 with h5 | h5
   ·simp [h5] at T1
   ·show n<=min fz.1 n;omega)
 have e:h.set id (A4 ⟨r.cells,A5⟩)=h:=by
  apply List.ext_getElem?;intro j;by_cases hj:id=j
  ·subst hj;rw [List.getElem?_set_self (C8 hr)];rw [rd_some] at hr;rw [hr,<-nI]
  ·rw [List.getElem?_set_ne hj]
 rwa [e] at this
def run_mark {Γ:Ctx} {s e:TypeId} {h:B5} {x v:Val} {X:Value} (hi:Inv Γ μ h w) (hs:sliceB P s=A4 e) (he:B6h P e=A4 .u8) (hx:RV μ x X) (hc:A0J h x=A4 v) :
  ∃ w',(convert s s X).run P w=.ok X w'/\v=x/\Inv Γ μ h w':=by
 unfold A0J at hc;split at hc
 ·rename_i id off len sz;simp only [E5Q] at hc;obtain ⟨r,hr,hc⟩:=hc;split at hc
  ·cases hc;rename_i A2x;rcases hx with ⟨b,m,cap,hm,hlc,B8k,rfl⟩ | ⟨h0,a,rfl⟩
   ·obtain ⟨w',h1,h2,h3⟩:=hi.marked (P:=P) hr A2x.1 hm;exact ⟨w',by simp [convert,F5 (Q4 hs),F5 (A6v he),h3 off],rfl,h2⟩
   ·omega
  ·cases hc
 ·cases hc
def E1C {Γ:Ctx} {h:B5} {n0:Nat} {slot:Option Nat} {s d e:TypeId} {l:List UInt8} (hi:Inv Γ μ h w) (oL:wV μ h n0 slot) (hs:cM P s=A5) (hd:sliceB P d=A4 e) (he:B6h P e=A4 .u8) (hl:l.length<=1073741824) :
  ∃ V w' μ',(convert s d (.string ⟨l.toArray⟩)).run P w=.ok V w' /\ μ.le μ'/\RV μ' (.c (.sl (dZ h n0 slot ⟨B4 l,A5⟩).1 0 l.length 1)) V/\Inv Γ μ' (dZ h n0 slot ⟨B4 l,A5⟩).2 w'/\Keeps μ μ' h n0 slot:=by
 have hsz:(ByteArray.mk l.toArray).size=l.length:=by show l.toArray.size=_;simp
 have B8k:l.length<=(Question.appendCap l.length 0 e).cut (w.tape w.drawn (.appendCap l.length 0 e)):=by show l.length<=l.length+_%_;omega
 generalize hk:(Question.appendCap l.length 0 e).cut (w.tape w.drawn (.appendCap l.length 0 e))=cap at B8k;have hC:((l.toArray.map λ(b:UInt8)=>Value.int .u8 b.toNat)++Array.replicate (cap-l.length) (Value.int .u8 0)).toList=(l.map λ(b:UInt8)=>Value.int .u8 b.toNat)++E5R (cap-l.length) (Value.int .u8 0):=by simp
 have hw:Inv Γ μ h w.drew:=hi.world rfl rfl rfl λ_ _=>rfl
 have hn:=B6l (t:=e) hw oL (cs:=B4 l) (C:=(l.map λ(b:UInt8)=>Value.int .u8 b.toNat)++E5R (cap-l.length) (Value.int .u8 0)) (by
  rw [show (B4 l).length=(l.map λ(b:UInt8)=>Value.int .u8 b.toNat).length by simp [B4],List.take_left];exact D6c l)
 have hsp:=rJ (r:=⟨B4 l,A5⟩) oL hi.dom;obtain ⟨w',h1,h2,h3⟩:=hn.marked (P:=P) hsp.2.2.2.2.2 rfl (W1 _ _ _);refine ⟨.slice (A4 ⟨w.heap.size,0,A7⟩) l.length cap,w',_,?_,Mu.le_add hsp.1,.inl ⟨_,_,cap,W1 _ _ _,B8k,by simp;omega,rfl⟩,h2,Keeps.new⟩;have h1:(markStringish ⟨w.heap.size,0,A7⟩).run P (w.drew.alloc (.cells ((l.map λ(b:UInt8)=>Value.int .u8 b.toNat)++E5R (cap-l.length) (Value.int .u8 0)).toArray e))=.ok () w':=h1;rw [<-hC,Array.toArray_toList] at h1;have hfo:(Question.appendCap l.length 0 e).forced=A6:=rfl;simp only [convert,Sem.run_bind,F5 (nH hs),Result.andThen_ok,F5 (Q4 hd),F5 (A6v he),Conv.stringToBytes,run_choose,hsz,hfo,Bool.false_eq_true,if_false,hk,iU];have hdr:({ w with drawn:=w.drawn+1 }:World)=w.drew:=rfl;rw [hdr,h1];rfl
def D91 {Γ:Ctx} {h h':B5} {s e yt ty:TypeId} {sz:Nat} {x y v:Val} {X Y:Value} (hi:Inv Γ μ h w) (hs:sliceB P s=A4 e) (hsz:R9 P e=A4 sz) (B6f:sz≠0) (hx:RV μ x X) (hy:RV μ y Y) (hc:C6b h sz x y=A4 (v,h')) :
  ∃ V w',(Builtin.copy_ #[s,yt] ty #[X,Y]).run P w=.ok V w'/\RV μ v V/\Inv Γ μ h' w':=by
 unfold C6b at hc;split at hc
 ·cases hc
 rename_i E49;simp only [E5Q] at hc;obtain ⟨ys,hys,hc⟩:=hc;split at hc
 ·rename_i id off len sz';simp only [E5Q] at hc;obtain ⟨r,hr,hc⟩:=hc;split at hc
  ·cases hc;rename_i A2x;obtain ⟨nI,E0Y,rfl⟩:=A2x;have src:∃ n vs,(Builtin.lenOf Y).run P w=.ok n w/\All2 (RC μ) ys vs/\vs.length=n*sz/\∀ m,m<=n->(Builtin.firstCells sz m Y).run P w=.ok (vs.take (m*sz)).toArray w:=by
    cases y with
    | c c =>
     cases c with
     | sl id2 off2 len2 sz2 =>
      simp only [Q6] at hys;split at hys
      ·rename_i hs2;subst hs2;obtain ⟨len',cap,a,vs,rfl,hvs,hlen,C68,A6q⟩:=B6v hi.rows hy hys;have hl:=hlen sz (λ_ _ _ _ h=>by cases h;rfl);refine ⟨len',vs,rfl,hvs,hl,λm hm=>?_⟩;cases a with
       | none=>have:=C68 rfl;subst this;simp [Builtin.firstCells]
       | some b =>
        have hml:(vs.take (m*sz)).length=m*sz:=by
         have:=Nat.mul_le_mul_right sz hm;simp;omega
        have:=run_loadCells_list (P:=P) w b (vs.take (m*sz)) (λj v hv=>A6q b rfl j v (by
         have hj:=(List.getElem?_eq_some_iff.1 hv).1;rw [E6s (by omega)] at hv;exact hv))
        rw [hml] at this;simpa [Builtin.firstCells] using this
      ·cases hys
     | ns =>
      simp only [Q6] at hys;cases hys;cases hy;exact ⟨0,[],rfl,trivial,by simp,λm hm=>by simp [Builtin.firstCells]⟩
     | s l=>exact absurd rfl (E49 l)
     | _=>simp [Q6] at hys
    | _=>simp [Q6] at hys
   obtain ⟨n,vs,hlen,hvs,hvl,C0V⟩:=src;have hyl:ys.length/sz=n:=by rw [hvs.length,hvl];exact Nat.mul_div_cancel _ (by omega)
   rw [hyl];have hf:=C0V (Nat.min n len) (Nat.min_le_left _ _);have hml:(ys.take (Nat.min n len*sz)).length=Nat.min n len*sz:=by
    have h1:=hvs.length;have h2:Nat.min n len*sz<=n*sz:=Nat.mul_le_mul_right sz (Nat.min_le_left n len);rw [E6l];omega
   have E3T:off+(ys.take (Nat.min n len*sz)).length<=r.cells.length:=by
    have h2:Nat.min n len*sz<=len*sz:=Nat.mul_le_mul_right sz (Nat.min_le_right n len);omega
   rcases hx with ⟨b,m,cap,hm,hlc,B8k,rfl⟩ | ⟨h0,a,rfl⟩
   ·have hst:=C79 (P:=P) hi hr nI hm (off:=off) (hvs.take (Nat.min n len*sz)) E3T;refine ⟨_,_,?_,rfl,hst.2⟩;simp [Builtin.copy_,F5 (Q4 hs),hlen,Q7 hsz,hf,hst.1,goInt]
   ·subst h0;refine ⟨_,w,?_,rfl,?_⟩
    ·have hz:(Builtin.firstCells sz 0 Y).run P w=.ok #[] w:=by simpa using C0V 0 (Nat.zero_le _)
     cases a<;>simp [Builtin.copy_,F5 (Q4 hs),hlen,Q7 hsz,hz,goInt,storeCells]
    ·have e0:lay r.cells off (ys.take (Nat.min n 0*sz))=r.cells:=by simp [lay]
     rw [e0];have e:h.set id (A4 ⟨r.cells,A5⟩)=h:=by
      apply List.ext_getElem?;intro j;by_cases hj:id=j
      ·subst hj;rw [List.getElem?_set_self (C8 hr)];rw [rd_some] at hr;rw [hr,<-nI]
      ·rw [List.getElem?_set_ne hj]
     rw [e];exact hi
  ·cases hc
 ·cases hc
end
def C7o (leaf:TypeId->Option (List Sh)) (P:Program):Nat->List Field->Option (List Sh)
 | _,[]=>A4 []
 | off,f::fs=>(leaf f.type).bind λl =>
   if f.name ≠ "_" ∧ f.offset = off ∧ R9 P f.type = some l.length then (C7o leaf P (off + l.length) fs).map λr => l ++ r else none
def B16 (P:Program):Nat->TypeId->Option (List Sh)
 | 0,_=>A7
 | d+1,t =>
  match P.underlying t with
  | some .bool=>A4 [.b]
  | some (.int k)=>A4 [.i k]
  | some .string=>A4 [.s]
  | some (.struct fs)=>if P.stoodInHeld t=A6 then C7o (B16 P d) P 0 fs.toList else A7
  | some (.array n e)=>(B16 P d e).bind λl=>if R9 P e=A4 l.length then A4 (E5R n l).flatten else A7
  | _=>A7
section
variable {P:Program} {μ:Mu} {w:World}
def mkv (P:Program) (t:TypeId) (vs:List Value):Value :=
 if mD P t=A4 A5 then .agg vs.toArray else vs.headD undef
def D6I {c:Cell} {k:IntKind} (h:c.sh=A4 (.i k)):∃ n,c=.i k n:=by
 cases c<;>simp [Cell.sh] at h
 subst h;exact ⟨_,rfl⟩
def D6H {c:Cell} (h:c.sh=A4 .b):∃ x,c=.b x:=by
 cases c<;>simp [Cell.sh] at h
 exact ⟨_,rfl⟩
def D6J {c:Cell} (h:c.sh=A4 .s):∃ x,c=.s x:=by
 cases c<;>simp [Cell.sh] at h
 exact ⟨_,rfl⟩
def C05 {q:Sh} {xs:List Cell} {Xs:List Value} (h:xs.map Cell.sh=[q].map A4) (hX:All2 (RC μ) xs Xs):∃ x X,xs=[x]/\Xs=[X]/\x.sh=A4 q/\RC μ x X:=by
 cases xs with
 | nil=>simp at h
 | cons x r =>
  cases r with
  | cons y r=>simp at h
  | nil =>
   cases Xs with
   | nil=>exact hX.elim
   | cons X R =>
    cases R with
    | nil=>exact ⟨x,X,rfl,rfl,by simpa using h,hX.1⟩
    | cons Y R=>exact hX.2.elim
def D58 {α:Type} [DecidableEq α] (a b:α):(a==b)=decide (a=b):=by rw [Bool.eq_iff_iff];simp
def B74 {a b c d:List Cell} (h:a.length=c.length):decide (a++b=c++d)=(decide (a=c)&&decide (b=d)):=by
 rw [Bool.eq_iff_iff];simp only [E5S,decide_eq_true_eq];exact ⟨λk=>List.append_inj k h,λ⟨h,k⟩=>by rw [h,k]⟩
def E2c (P:Program) (D:Nat) (t:TypeId) (l:List Sh):Prop :=
 ∀ (μ:Mu) (w:World) (xs ys:List Cell) (Xs Ys:List Value),xs.map Cell.sh=l.map A4->ys.map Cell.sh=l.map A4->All2 (RC μ) xs Xs->All2 (RC μ) ys Ys ->
  (Op.equalIn D t (mkv P t Xs) (mkv P t Ys)).run P w=.ok (decide (xs=ys)) w
def B8S {t:TypeId} {l:List Sh} {xs:List Cell} {Xs:List Value} {off:Nat} (hsz:R9 P t=A4 l.length) (pK:mD P t=A4 A5\/(mD P t=A4 A6/\l.length=1))
  (hX:All2 (RC μ) xs Xs) (hl:off+l.length<=xs.length):(part t Xs.toArray off).run P w=.ok (mkv P t ((Xs.drop off).take l.length)) w:=by
 have hlen:=hX.length;rcases pK with h | ⟨h,h1⟩
 ·simp [part,B29 h,Q7 hsz,mkv,h,List.take_drop]
 ·have V7:off<Xs.length:=by omega
  have:((Xs.drop off).take l.length).headD undef=Xs[off]:=by
   rw [h1,E5X V7];rfl
  unfold mkv;rw [if_neg (by rw [h];simp),this];simp [part,B29 h,V7]
def D4P {t:TypeId} {d:Nat} {l:List Sh} (h:B16 P d t=A4 l):mD P t=A4 A5\/(mD P t=A4 A6/\l.length=1):=by
 cases d with
 | zero=>simp [B16] at h
 | succ d =>
  unfold B16 at h;unfold mD;split at h
  ·rename_i hu;cases h;right;simp [hu]
  ·rename_i hu;cases h;right;simp [hu]
  ·rename_i hu;cases h;right;simp [hu]
  ·rename_i hu;left;simp [hu]
  ·rename_i hu;left;simp [hu]
  ·cases h
def D0s {leaf:TypeId->Option (List Sh)} {D:Nat} (hok:∀ t l,leaf t=A4 l->E2c P D t l) (pK:∀ t l,leaf t=A4 l->mD P t=A4 A5\/(mD P t=A4 A6/\l.length=1)) :
  ∀ (fs:List Field) (off:Nat) (l:List Sh) (μ:Mu) (w:World) (xs ys:List Cell) (Xs Ys:List Value),C7o leaf P off fs=A4 l->xs.length=off+l.length->ys.length=off+l.length ->
   (xs.drop off).map Cell.sh=l.map A4->(ys.drop off).map Cell.sh=l.map A4->All2 (RC μ) xs Xs->All2 (RC μ) ys Ys ->
   (Op.eqFields D Xs.toArray Ys.toArray fs).run P w=.ok (decide (xs.drop off=ys.drop off)) w
 | [],off,l,μ,w,xs,ys,Xs,Ys,hl,h1,h2,hs1,hs2,hX,hY=>by
  simp [C7o] at hl;subst hl;simp at h1 h2;rw [E56 (by omega),E56 (by omega)];simp [Op.eqFields]
 | f::fs,off,l,μ,w,xs,ys,Xs,Ys,hl,h1,h2,hs1,hs2,hX,hY=>by
  simp only [C7o,E5Q] at hl;obtain ⟨lf,hlf,hl⟩:=hl;split at hl
  ·rename_i hc;obtain ⟨D3L,E5a,hsz⟩:=hc;simp only [E6d] at hl;obtain ⟨r,hr,rfl⟩:=hl;simp only [E5T] at h1 h2;have e:∀ zs:List Cell,(zs.drop off).map Cell.sh=(lf++r).map A4->zs.length=off+(lf.length+r.length)->((zs.drop off).take lf.length).map Cell.sh=lf.map A4/\(zs.drop (off+lf.length)).map Cell.sh=r.map A4:=by
    intro zs hz hzl;constructor
    ·rw [List.map_take,hz,E6N,List.take_left' (by simp)]
    ·rw [<-E6P,List.map_drop,hz,E6N,List.drop_left' (by simp)]
   obtain ⟨a1,a2⟩:=e xs hs1 h1;obtain ⟨b1,b2⟩:=e ys hs2 h2;have hp1:=B8S (P:=P) (w:=w) (off:=off) hsz (pK _ _ hlf) hX (by omega);have hp2:=B8S (P:=P) (w:=w) (off:=off) hsz (pK _ _ hlf) hY (by omega);have zA:=hok _ _ hlf μ w _ _ _ _ a1 b1 ((hX.drop off).take lf.length) ((hY.drop off).take lf.length);have ih:=D0s hok pK fs (off+lf.length) r μ w xs ys Xs Ys hr (by omega) (by omega) a2 b2 hX hY;have split:∀ zs:List Cell,zs.drop off=(zs.drop off).take lf.length++zs.drop (off+lf.length):=by
    intro zs;rw [<-E6P];exact (List.take_append_drop _ _).symm
   have hd:decide (xs.drop off=ys.drop off)=(decide ((xs.drop off).take lf.length=(ys.drop off).take lf.length)&&decide (xs.drop (off+lf.length)=ys.drop (off+lf.length))):=by
    have hlen:((xs.drop off).take lf.length).length=((ys.drop off).take lf.length).length:=by simp;omega
    conv=>lhs;rw [split xs,split ys]
    exact B74 hlen
   subst E5a;simp only [Op.eqFields,D3L,ne_eq,not_false_eq_true,if_true,Sem.run_bind,hp1,Result.andThen_ok,hp2,zA];rw [hd];cases decide ((xs.drop f.offset).take lf.length=(ys.drop f.offset).take lf.length) with
   | true=>simpa using ih
   | false=>simp
  ·cases hl
def A79 (D:Nat) (e:TypeId) (n:Nat) (xs ys:Array Value):List Nat->Sem Bool
 | []=>pure A5
 | i::r=>do
  let a <-part e xs (i*n)
  let b <-part e ys (i*n)
  let q <-Op.equalIn D e a b
  if (!q)=A5 then pure A6 else A79 D e n xs ys r
def run_equalIn_array {D:Nat} {t e:TypeId} {n sz:Nat} {xs ys:Array Value} (ha:qK P t=A4 (n,e)) (hsz:R9 P e=A4 sz) :
  (Op.equalIn (D+1) t (.agg xs) (.agg ys)).run P w=(A79 D e sz xs ys (E6p n)).run P w:=by
 simp only [Op.equalIn,Sem.run_bind,F5 (qL ha),Result.andThen_ok,Q7 hsz];rw [Std.Legacy.Range.forIn_eq_forIn_range'];have hr:E6y (Std.Legacy.Range.start [0:n]) (Std.Legacy.Range.size [0:n]) (Std.Legacy.Range.step [0:n])=E6p n:=by
  simp [List.range_eq_range',Std.Legacy.Range.size]
 rw [hr];generalize E6p n=is
 induction is generalizing w with
 | nil=>simp [A79]
 | cons i is ih =>
  simp only [List.forIn_cons,A79,Sem.run_bind];generalize (part e xs (i*sz)).run P w=r1;cases r1 with
  | ok a w1 =>
   simp only [Result.andThen_ok];generalize (part e ys (i*sz)).run P w1=r2;cases r2 with
   | ok b w2 =>
    simp only [Result.andThen_ok];generalize (Op.equalIn D e a b).run P w2=r3;cases r3 with
    | ok r w3 =>
     cases r
     ·simp
     ·simpa using ih
    | halt x w3=>simp [Result.andThen]
   | halt x w2=>simp [Result.andThen]
  | halt x w1=>simp [Result.andThen]
def D3z {D:Nat} {e:TypeId} {l:List Sh} (hok:E2c P D e l) (pK:mD P e=A4 A5\/(mD P e=A4 A6/\l.length=1)) (hsz:R9 P e=A4 l.length) :
  ∀ (k i:Nat) (μ:Mu) (w:World) (xs ys:List Cell) (Xs Ys:List Value),xs.length=i*l.length+k*l.length->ys.length=i*l.length+k*l.length ->
   (xs.drop (i*l.length)).map Cell.sh=(E5R k l).flatten.map A4->(ys.drop (i*l.length)).map Cell.sh=(E5R k l).flatten.map A4->All2 (RC μ) xs Xs->All2 (RC μ) ys Ys ->
   (A79 D e l.length Xs.toArray Ys.toArray (E6y i k)).run P w=.ok (decide (xs.drop (i*l.length)=ys.drop (i*l.length))) w
 | 0,i,μ,w,xs,ys,Xs,Ys,h1,h2,hs1,hs2,hX,hY=>by
  rw [E56 (by omega),E56 (by omega)];simp [A79]
 | k+1,i,μ,w,xs,ys,Xs,Ys,h1,h2,hs1,hs2,hX,hY=>by
  have hk:(k+1)*l.length=l.length+k*l.length:=by rw [E6W];omega
  have hi:(i+1)*l.length=i*l.length+l.length:=by rw [E6W];omega
  rw [hk] at h1 h2;have e:∀ zs:List Cell,(zs.drop (i*l.length)).map Cell.sh=(E5R (k+1) l).flatten.map A4->zs.length=i*l.length+(l.length+k*l.length) ->
    ((zs.drop (i*l.length)).take l.length).map Cell.sh=l.map A4/\(zs.drop ((i+1)*l.length)).map Cell.sh=(E5R k l).flatten.map A4:=by
   intro zs hz hzl;rw [E6k,List.flatten_cons] at hz;constructor
   ·rw [List.map_take,hz,E6N,List.take_left' (by simp)]
   ·rw [hi,<-E6P,List.map_drop,hz,E6N,List.drop_left' (by simp)]
  obtain ⟨a1,a2⟩:=e xs hs1 h1;obtain ⟨b1,b2⟩:=e ys hs2 h2;have hp1:=B8S (P:=P) (w:=w) (off:=i*l.length) hsz pK hX (by omega);have hp2:=B8S (P:=P) (w:=w) (off:=i*l.length) hsz pK hY (by omega);have zA:=hok μ w _ _ _ _ a1 b1 ((hX.drop (i*l.length)).take l.length) ((hY.drop (i*l.length)).take l.length);have ih:=D3z hok pK hsz k (i+1) μ w xs ys Xs Ys (by omega) (by omega) a2 b2 hX hY;have split:∀ zs:List Cell,zs.drop (i*l.length)=(zs.drop (i*l.length)).take l.length++zs.drop ((i+1)*l.length):=by
   intro zs;rw [hi,<-E6P];exact (List.take_append_drop _ _).symm
  have hd:decide (xs.drop (i*l.length)=ys.drop (i*l.length))=(decide ((xs.drop (i*l.length)).take l.length=(ys.drop (i*l.length)).take l.length)&&decide (xs.drop ((i+1)*l.length)=ys.drop ((i+1)*l.length))):=by
   have hlen:((xs.drop (i*l.length)).take l.length).length=((ys.drop (i*l.length)).take l.length).length:=by simp;omega
   conv=>lhs;rw [split xs,split ys]
   exact B74 hlen
  rw [List.range'_succ];simp only [A79,Sem.run_bind,hp1,Result.andThen_ok,hp2,zA];rw [hd];cases decide ((xs.drop (i*l.length)).take l.length=(ys.drop (i*l.length)).take l.length) with
  | true=>simpa using ih
  | false=>simp
def D6q:∀ (d D:Nat) (t:TypeId) (l:List Sh),d<=D->B16 P d t=A4 l->E2c P D t l
 | 0,_,_,_,_,h=>by simp [B16] at h
 | d+1,0,_,_,hD,_=>by omega
 | d+1,D+1,t,l,hD,h=>by
  have ih:=λt' l'=>D6q d D t' l' (by omega)
  have pK:=D4P h;intro μ w xs ys Xs Ys hx hy hX hY;unfold B16 at h;split at h
  ·rename_i hu;cases h;obtain ⟨x,X,rfl,rfl,h1,h2⟩:=C05 hx hX;obtain ⟨y,Y,rfl,rfl,h3,h4⟩:=C05 hy hY;obtain ⟨a,rfl⟩:=D6H h1;obtain ⟨b,rfl⟩:=D6H h3;cases h2;cases h4;have hm:∀ v:Value,mkv P t [v]=v:=λv=>by simp [mkv,mD,hu]
   rw [hm,hm,run_equalIn_bool' w D t a b hu,D58];simp
  ·rename_i k hu;cases h;obtain ⟨x,X,rfl,rfl,h1,h2⟩:=C05 hx hX;obtain ⟨y,Y,rfl,rfl,h3,h4⟩:=C05 hy hY;obtain ⟨a,rfl⟩:=D6I h1;obtain ⟨b,rfl⟩:=D6I h3;cases h2;cases h4;have hm:∀ v:Value,mkv P t [v]=v:=λv=>by simp [mkv,mD,hu]
   rw [hm,hm,run_equalIn_int w D t k k a b hu,D58];simp
  ·rename_i hu;cases h;obtain ⟨x,X,rfl,rfl,h1,h2⟩:=C05 hx hX;obtain ⟨y,Y,rfl,rfl,h3,h4⟩:=C05 hy hY;obtain ⟨a,rfl⟩:=D6J h1;obtain ⟨b,rfl⟩:=D6J h3;cases h2;cases h4;have hm:∀ v:Value,mkv P t [v]=v:=λv=>by simp [mkv,mD,hu]
   rw [hm,hm,run_equalIn_string w D t _ _ hu,ByteArray.toList_mk,ByteArray.toList_mk,show (a==b)=decide (a=b) by rw [Bool.eq_iff_iff];simp];simp
  ·rename_i fs hu;split at h
   ·rename_i hst;have hm:∀ vs:List Value,mkv P t vs=.agg vs.toArray:=λvs=>by simp [mkv,mD,hu]
    have hfo:P.fieldsOf t=fs:=by simp [Program.fieldsOf,hu]
    rw [hm,hm,run_equalIn_struct w D t _ _ (by rw [hfo];exact hu) hst,hfo];have hxl:xs.length=l.length:=by have:=congrArg List.length hx;simpa using this
    have hyl:ys.length=l.length:=by have:=congrArg List.length hy;simpa using this
    have:=D0s (P:=P) (leaf:=B16 P d) (D:=D) (λt' l' h'=>ih t' l' h') (λt' l' h'=>D4P h') fs.toList 0 l μ w xs ys Xs Ys h (by omega) (by omega) (by simpa using hx) (by simpa using hy) hX hY;simpa using this
   ·cases h
  ·rename_i n e hu;simp only [E5Q] at h;obtain ⟨le,dF,h⟩:=h;split at h
   ·cases h;rename_i hsz;have hm:∀ vs:List Value,mkv P t vs=.agg vs.toArray:=λvs=>by simp [mkv,mD,hu]
    have E4Q:qK P t=A4 (n,e):=by simp [qK,hu]
    rw [hm,hm,run_equalIn_array E4Q hsz];have hxl:xs.length=n*le.length:=by have:=congrArg List.length hx;simpa using this
    have hyl:ys.length=n*le.length:=by have:=congrArg List.length hy;simpa using this
    have:=D3z (ih e le dF) (D4P dF) hsz n 0 μ w xs ys Xs Ys (by omega) (by omega) (by simpa using hx) (by simpa using hy) hX hY;rw [<-List.range_eq_range'] at this;simpa using this
   ·cases h
  ·cases h
def E1v {neg:Bool} {t:TypeId} {l:List Sh} {x y v:Val} {X Y:Value} (pK:mD P t=A4 A5) (hl:B16 P 100 t=A4 l) (hx:RV μ x X) (hy:RV μ y Y) (h:aeq neg l x y=A4 v) :
  ∃ V,(binOp (bif neg then .neq else .eql) t X Y).run P w=.ok V w/\RV μ v V:=by
 unfold aeq at h;split at h
 ·obtain ⟨Xs,rfl,hX⟩:=hx;obtain ⟨Ys,rfl,hY⟩:=hy;split at h
  ·rename_i hc;cases h;have:=D6q (P:=P) 100 10000 t l (by omega) hl μ w _ _ Xs Ys hc.1 hc.2 hX hY;have hm:∀ vs:List Value,mkv P t vs=.agg vs.toArray:=λvs=>by simp [mkv,pK]
   rw [hm,hm] at this;cases neg
   ·exact ⟨_,by rw [cond_false,run_eql_struct,this];rfl,rfl⟩
   ·exact ⟨_,by rw [cond_true,run_neq_struct,this];rfl,rfl⟩
  ·cases h
 ·cases h
end
section
variable {P:Program} {μ:Mu} {w:World}
def D15 (P:Program) (t:TypeId):Option (TypeId × TypeId):=match P.underlying t with | some (.map k e)=>A4 (k,e) | _=>A7
def A2D {t k e:TypeId} (h:D15 P t=A4 (k,e)):P.underlying t=A4 (.map k e):=by
 unfold D15 at h;cases hu:P.underlying t with
 | none=>rw [hu] at h;cases h
 | some d=>rw [hu] at h;cases d<;>simp_all
def A9i (P:Program) (k:TypeId) (kk:Option IntKind):Bool :=
 match P.underlying k,kk with
 | some (.int i),A4 j=>decide (i=j)
 | some .string,none=>A5
 | _,_=>A6
def A73 (v:Value):Part->Bool
 | .c x=>v.oneCell'&&kN v [x]
 | .a l=>(match v with | .agg _=>A5 | _=>A6)&&kN v l
def B53 {v:Value} {p:Part} (h:A73 v p=A5):RP μ p v:=by
 cases p with
 | c x =>
  simp only [A73,E5S] at h;have h2:=iL (μ:=μ) h.2;have h3:v.cells = #[v]:=by
   have:=h.1;cases v<;>simp_all [Value.oneCell',Value.cells]
  rw [h3] at h2;exact h2.1
 | a l =>
  simp only [A73,E5S] at h;have h2:=iL (μ:=μ) h.2;cases v with
  | agg vs=>exact ⟨vs.toList,by simp,by simpa [Value.cells] using h2⟩
  | _=>cases h.1
def C7j {k:TypeId} {kk:Option IntKind} {d:TypeDesc} {c:Cell} {V:Value} (hd:P.underlying k=A4 d) (hk:A9i P k kk=A5) (hs:vQ kk c=A5) (hc:RC μ c V):MapKept.IsKey d V:=by
 unfold A9i at hk;rw [hd] at hk;cases d<;>cases kk<;>simp at hk
 all_goals
  cases c<;>simp [vQ] at hs
 ·subst hk;subst hs;cases hc;rfl
 ·cases hc;trivial
def E2Z {kk:Option IntKind} {c c':Cell} {V V':Value} (h1:vQ kk c=A5) (h2:vQ kk c'=A5) (hc:RC μ c V) (hc':RC μ c' V'):V=V'↔c=c':=by
 cases kk with
 | none =>
  cases c<;>simp [vQ] at h1
  cases c'<;>simp [vQ] at h2
  cases hc;cases hc';simp
 | some k =>
  cases c<;>simp [vQ] at h1
  cases c'<;>simp [vQ] at h2
  cases hc;cases hc';subst h1;subst h2;simp
def D18 {d:TypeDesc} {kk:Option IntKind} {k:Cell} {K:Value} (hkd:∀ c V,vQ kk c=A5->RC μ c V->MapKept.IsKey d V) (hk:vQ kk k=A5) (hK:RC μ k K) :
  ∀ (es:Y0) (E:List MapEntry) (i:Nat),All2 (RE μ) es E->(es.all λe=>vQ kk e.1)=A5 ->
   match mgo k es i with
   | none=>Instr.findNow d K E i=A4 A7
   | some (j,p)=>∃ V,Instr.findNow d K E i=A4 (A4 (j,V))/\RP μ p V/\i<=j/\∃ e E',es[j-i]?=A4 e/\e=(k,p)/\E[j-i]?=A4 E'/\E'.val=V/\E'.key=K
 | [],[],i,_,_=>rfl
 | e::es,E0::E,i,⟨⟨h1,h2⟩,h3⟩,hs=>by
  simp only [E6B,E5S] at hs;obtain ⟨r,hr,C0W⟩:=MapKept.sameNow_of_keys (hkd k K hk hK) (hkd e.1 E0.key hs.1 h1);have hke:=E2Z hk hs.1 hK h1;unfold mgo;by_cases he:e.1=k
  ·rw [if_pos he];have:r=A5:=C0W.2 (hke.2 he.symm);subst this;refine ⟨E0.val,by simp [Instr.findNow,hr],h2,E5V _,e,E0,by simp,by rw [<-he],by simp,rfl,(hke.2 he.symm).symm⟩
  ·rw [if_neg he];have hrf:r=A6:=by
    cases r with
    | false=>rfl
    | true=>exact absurd (hke.1 (C0W.1 rfl)).symm he
   subst hrf;have ih:=D18 hkd hk hK es E (i+1) h3 hs.2;cases hm:mgo k es (i+1) with
   | none=>rw [hm] at ih;simp only at ih ⊢;simp [Instr.findNow,hr,ih]
   | some jp =>
    obtain ⟨j,p⟩:=jp;rw [hm] at ih;obtain ⟨V,g1,g2,g3,e',E',g4,g5,g6,g7,g8⟩:=ih;refine ⟨V,by simp [Instr.findNow,hr,g1],g2,by omega,e',E',?_,g5,?_,g7,g8⟩
    ·rw [show j-i=(j-(i+1))+1 by omega];simpa using g4
    ·rw [show j-i=(j-(i+1))+1 by omega];simpa using g6
 | [],_::_,_,h,_=>h.elim
 | _::_,[],_,h,_=>h.elim
def RP.val {p:Part} {V:Value} (h:RP μ p V):RV μ (A6E A6 p A5) V:=by
 cases p<;>exact h
def D5z {p:Part} {b:Bool}:A6E A6 p b=A6E A6 p A5:=by cases p<;>rfl
def D2i {ok b:Bool} {p:Part} {V:Value} (h:RP μ p V):RV μ (A6E ok p b) (if ok then .tuple #[V,.bool b] else V):=by
 cases ok with
 | true=>exact ⟨[V,.bool b],rfl,h,rfl,trivial⟩
 | false =>
  rw [D5z];exact RP.val h
def D12 {v:Val} {c:Cell} {V:Value} (h:C7l v=A4 c) (hv:RV μ v V):RC μ c V:=by
 cases v<;>simp [C7l] at h
 subst h;exact hv
def D4f {v:Val} {p:Part} {V:Value} (h:C7R v=A4 p) (hv:RV μ v V):RP μ p V:=by
 cases v<;>simp [C7R] at h
 ·subst h;exact hv
 ·subst h;exact hv
def E08 {hp:B5} {m:Val} {M:Value} {es:Y0} (hrow:∀ id r,rd hp id=A4 r->RowOk μ w id r) (hm:RV μ m M) (h:D7w hp m=A4 es) :
  (M=.map A7/\es=[])\/∃ b E,M=.map (A4 b)/\w.heap[b]?=A4 (.map E E.size)/\All2 (RE μ) es E.toList/\∀ (i:Nat) (e:MapEntry),E[i]?=A4 e->e.born=i:=by
 unfold D7w at h;split at h
 ·cases h;exact .inl ⟨hm,rfl⟩
 ·rename_i id;obtain ⟨b,n,h1,rfl⟩:=hm;simp only [E5Q] at h;obtain ⟨r,hr,h⟩:=h;have:=B23 h;subst this;obtain ⟨E,h2,h3,h4⟩:=(hrow id _ hr).map h1;exact .inr ⟨b,E,rfl,h2,h3,h4⟩
 ·cases h
def D97 {t kt et:TypeId} {kk:Option IntKind} {z:Value} {zero:Part} {ok:Bool} {hp:B5} {m x v:Val} {M X:Value} (ht:D15 P t=A4 (kt,et)) (hkk:A9i P kt kk=A5) (hz:A0o P et=A4 z) (hc:A73 z zero=A5)
  (hrow:∀ id r,rd hp id=A4 r->RowOk μ w id r) (hm:RV μ m M) (hx:RV μ x X) (h:A8T hp kk zero ok m x=A4 v) :
  ∃ V,(Instr.lookup t M X ok).run P w=.ok V w/\RV μ v V:=by
 simp only [A8T,E5Q] at h;obtain ⟨k,hk,es,hes,h⟩:=h;split at h
 ·cases h;rename_i A31;simp only [A5n,E5S] at A31;have hK:=D12 hk hx;cases hd:P.underlying kt with
  | none=>unfold A9i at hkk;rw [hd] at hkk;cases hkk
  | some d =>
   have hkd:∀ c V,vQ kk c=A5->RC μ c V->MapKept.IsKey d V:=λc V=>C7j hd hkk
   have hX:=hkd k X A31.1 hK;rcases E08 hrow hm hes with ⟨rfl,rfl⟩ | ⟨b,E,rfl,h1,h2,_⟩
   ·refine ⟨_,?_,D2i (B53 hc)⟩;simp [Instr.lookup,F5 (A2D ht),MapKept.run_checkKey hd hX,MapKept.run_findKey (l:=[]) hd (show Instr.findNow d X [] 0=A4 A7 from rfl),A0k hz]
   ·have hg:=D18 hkd A31.1 hK es E.toList 0 h2 A31.2;unfold B2c;cases hmg:mgo k es 0 with
    | none =>
     rw [hmg] at hg;refine ⟨_,?_,D2i (B53 hc)⟩;simp [Instr.lookup,F5 (A2D ht),MapKept.run_getObj_map h1,MapKept.run_checkKey hd hX,MapKept.run_findKey hd hg,A0k hz]
    | some jp =>
     obtain ⟨j,p⟩:=jp;rw [hmg] at hg;obtain ⟨V,g1,g2,_⟩:=hg;refine ⟨_,?_,D2i g2⟩;simp [Instr.lookup,F5 (A2D ht),MapKept.run_getObj_map h1,MapKept.run_checkKey hd hX,MapKept.run_findKey hd g1]
 ·cases h
def B19 {Γ:Ctx} {h:B5} {id b n:Nat} {es es':Y0} {E E':Array MapEntry} (hi:Inv Γ μ h w) (hr:rd h id=A4 (T8 es)) (hm:μ id=A4 (b,n)) (hb:w.heap[b]?=A4 (.map E E.size))
  (h1:All2 (RE μ) es' E'.toList) (h2:∀ (i:Nat) (e:MapEntry),E'[i]?=A4 e->e.born=i):Inv Γ μ (h.set id (A4 (T8 es'))) { w with heap:=w.heap.setIfInBounds b (.map E' E'.size) }:=by
 obtain ⟨g1,g2⟩:=MapKept.heap_set (o':=.map E' E'.size) hb;refine hi.turn hr (Row.own_mrow _) (Row.own_mrow _) hm rfl rfl rfl g2 ?_;unfold RowOk;rw [hm];exact .inr (.inl ⟨es',E',rfl,g1,h1,h2⟩)
def All2.modify {es:Y0} {E:List MapEntry} {i:Nat} {e:Cell × Part} {f:MapEntry->MapEntry} (h:All2 (RE μ) es E) (hf:∀ x,E[i]?=A4 x->RE μ e (f x)):All2 (RE μ) (es.set i e) (E.modify i f):=by
 refine All2.of_get (by simp [h.length]) λj a b ha hb=>?_
 rw [List.getElem?_modify] at hb;by_cases hj:i=j
 ·subst hj;obtain ⟨x,hx,rfl⟩:∃ x,E[i]?=A4 x/\f x=b:=by
   cases hE:E[i]? with
   | none=>rw [hE] at hb;simp at hb
   | some y=>rw [hE] at hb;simp at hb;exact ⟨y,rfl,hb⟩
  have V7:i<es.length:=by
   have:=(List.getElem?_eq_some_iff.1 hx).1;rw [h.length];exact this
  rw [List.getElem?_set_self V7] at ha;cases ha;exact hf x hx
 ·rw [List.getElem?_set_ne hj] at ha;have hb':E[j]?=A4 b:=by
   cases hE:E[j]? with
   | none=>rw [hE] at hb;simp at hb
   | some y=>rw [hE] at hb;simp [hj] at hb;rw [hb]
  obtain ⟨y,hy,hR⟩:=h.get j a ha;rw [hb'] at hy;cases hy;exact hR
def D4r {Γ:Ctx} {t kt et:TypeId} {kk:Option IntKind} {h h':B5} {m k x:Val} {M K X:Value} (ht:D15 P t=A4 (kt,et)) (hkk:A9i P kt kk=A5)
  (hi:Inv Γ μ h w) (hm:RV μ m M) (hk:RV μ k K) (hx:RV μ x X) (hh:A3O h kk m k x=A4 h') :
  ∃ w',(Instr.mapUpdate t M K X).run P w=.ok () w'/\Inv Γ μ h' w':=by
 unfold A3O at hh;split at hh
 ·rename_i id;obtain ⟨b,n,hmu,rfl⟩:=hm;simp only [E5Q] at hh;obtain ⟨kc,hkc,p,hp,r,hr,es,hes,hh⟩:=hh;split at hh
  ·cases hh;rename_i A31;simp only [A5n,E5S] at A31;have:=B23 hes;subst this;have hK:=D12 hkc hk;have hX:=D4f hp hx;obtain ⟨E,h1,h2,h3⟩:=(hi.rows id _ hr).map hmu;cases hd:P.underlying kt with
   | none=>unfold A9i at hkk;rw [hd] at hkk;cases hkk
   | some d =>
    have hkd:∀ c V,vQ kk c=A5->RC μ c V->MapKept.IsKey d V:=λc V=>C7j hd hkk
    have D49:=hkd kc K A31.1 hK;have hg:=D18 hkd A31.1 hK es E.toList 0 h2 A31.2;unfold A9G B2c;cases hmg:mgo kc es 0 with
    | none =>
     rw [hmg] at hg;refine ⟨_,?_,B19 (E':=E.push { key:=K,val:=X,born:=E.size }) hi hr hmu h1 (by rw [Array.toList_push];exact h2.append ⟨⟨hK,hX⟩,trivial⟩) ?_⟩
     ·simp [Instr.mapUpdate,F5 (A2D ht),MapKept.run_getObj_map h1,MapKept.run_checkKey hd D49,MapKept.run_findKey hd hg,MapKept.run_setObj_map _ h1]
     ·intro i e he;rw [Array.getElem?_push] at he;split at he
      ·cases he;rename_i hh;exact hh.symm
      ·exact h3 i e he
    | some jp =>
     obtain ⟨j,q⟩:=jp;rw [hmg] at hg;obtain ⟨V,g1,g2,_,e0,E0,g4,g5,g6,g7,g8⟩:=hg;simp only [Nat.sub_zero] at g4 g6;have g6':E[j]?=A4 E0:=by simpa using g6
     refine ⟨_,?_,B19 (E':=E.modify j λe=>{ e with key:=K,val:=X }) hi hr hmu h1 ?_ ?_⟩
     ·simp [Instr.mapUpdate,F5 (A2D ht),MapKept.run_getObj_map h1,MapKept.run_checkKey hd D49,MapKept.run_findKey hd g1,g6',g8,MapKept.run_keyThatStays D49,MapKept.run_setObj_map _ h1]
     ·rw [Array.toList_modify];exact All2.modify h2 λx hx=>⟨hK,hX⟩
     ·intro i e he;rw [Array.getElem?_modify] at he;split at he
      ·rw [E6d] at he;obtain ⟨e',he',rfl⟩:=he;exact h3 i e' he'
      ·exact h3 i e he
  ·cases hh
 ·cases hh
def D98 {Γ:Ctx} {t kt et:TypeId} {kk:Option IntKind} {z:Value} {zero:Part} {h h':B5} {m k v:Val} {M K:Value} (ht:D15 P t=A4 (kt,et)) (hkk:A9i P kt kk=A5) (hz:A0o P et=A4 z) (hc:A73 z zero=A5)
  (hi:Inv Γ μ h w) (hm:RV μ m M) (hk:RV μ k K) (hh:D21 h kk zero m k=A4 (v,h')) :
  ∃ V w',(Instr.mapEntry t M K).run P w=.ok V w'/\RV μ v V/\Inv Γ μ h' w':=by
 unfold D21 at hh;split at hh
 ·rename_i id;obtain ⟨b,n,hmu,rfl⟩:=hm;simp only [E5Q] at hh;obtain ⟨kc,hkc,r,hr,es,hes,hh⟩:=hh;split at hh
  ·rename_i A31;simp only [A5n,E5S] at A31;have:=B23 hes;subst this;have hK:=D12 hkc hk;have hZ:RP μ zero z:=B53 hc;obtain ⟨E,h1,h2,h3⟩:=(hi.rows id _ hr).map hmu;cases hd:P.underlying kt with
   | none=>unfold A9i at hkk;rw [hd] at hkk;cases hkk
   | some d =>
    have hkd:∀ c V,vQ kk c=A5->RC μ c V->MapKept.IsKey d V:=λc V=>C7j hd hkk
    have D49:=hkd kc K A31.1 hK;have hg:=D18 hkd A31.1 hK es E.toList 0 h2 A31.2;unfold B2c at hh;cases hmg:mgo kc es 0 with
    | none =>
     rw [hmg] at hg hh;cases hh;have hlen:es.length=E.size:=by have:=h2.length;simpa using this
     refine ⟨.tuple #[z,goInt E.size],_,?_,⟨[z,goInt E.size],rfl,hZ,by rw [hlen];rfl,trivial⟩,B19 (E':=E.push { key:=K,val:=z,born:=E.size }) hi hr hmu h1 (by rw [Array.toList_push];exact h2.append ⟨⟨hK,hZ⟩,trivial⟩) ?_⟩
     ·simp [Instr.mapEntry,F5 (A2D ht),MapKept.run_getObj_map h1,MapKept.run_checkKey hd D49,MapKept.run_findKey hd hg,A0k hz,MapKept.run_setObj_map _ h1]
     ·intro i e he;rw [Array.getElem?_push] at he;split at he
      ·cases he;rename_i hh;exact hh.symm
      ·exact h3 i e he
    | some jp =>
     obtain ⟨j,q⟩:=jp;rw [hmg] at hg hh;cases hh;obtain ⟨V,g1,g2,_,e0,E0,g4,g5,g6,g7,g8⟩:=hg;simp only [Nat.sub_zero] at g4 g6;have g6':E[j]?=A4 E0:=by simpa using g6
     have E3N:=h3 j E0 g6';have E5g:es.set j (kc,q)=es:=by
      apply List.ext_getElem?;intro i;by_cases hij:j=i
      ·subst hij;rw [List.getElem?_set_self (List.getElem?_eq_some_iff.1 g4).1,g4,g5]
      ·rw [List.getElem?_set_ne hij]
     have hI:=B19 (es':=es.set j (kc,q)) (E':=E.modify j λe=>{ e with key:=K }) hi hr hmu h1 (by
      rw [Array.toList_modify];refine All2.modify h2 λx hx=>⟨hK,?_⟩
      rw [g6] at hx;cases hx;show RP μ q E0.val;rw [g7];exact g2) (by
      intro i e he;rw [Array.getElem?_modify] at he;split at he
      ·rw [E6d] at he;obtain ⟨e',he',rfl⟩:=he;exact h3 i e' he'
      ·exact h3 i e he)
     rw [E5g] at hI;have hsame:h.set id (A4 (T8 es))=h:=by
      apply List.ext_getElem?;intro i;by_cases hij:id=i
      ·subst hij;rw [List.getElem?_set_self (C8 hr)];rw [rd_some] at hr;rw [hr]
      ·rw [List.getElem?_set_ne hij]
     rw [hsame] at hI;refine ⟨.tuple #[V,goInt j],_,?_,⟨[V,goInt j],rfl,g2,rfl,trivial⟩,hI⟩;simp [Instr.mapEntry,F5 (A2D ht),MapKept.run_getObj_map h1,MapKept.run_checkKey hd D49,MapKept.run_findKey hd g1,g6',g8,E3N,MapKept.run_keyThatStays D49,MapKept.run_setObj_map _ h1]
  ·cases hh
 ·cases hh
def E0a {Γ:Ctx} {t:TypeId} {h h':B5} {m s x:Val} {M S X:Value}
  (hi:Inv Γ μ h w) (hm:RV μ m M) (hs:RV μ s S) (hx:RV μ x X) (hh:D22 h m s x=A4 h') :
  ∃ w',(Instr.entryStore t M S X).run P w=.ok () w'/\Inv Γ μ h' w':=by
 unfold D22 at hh;split at hh
 ·rename_i id n;obtain ⟨b,nn,hmu,rfl⟩:=hm;cases hs;simp only [E5Q] at hh;obtain ⟨p,hp,r,hr,es,hes,hh⟩:=hh;split at hh
  ·rename_i hn;simp only [E5Q,E5W] at hh;obtain ⟨e,he,rfl⟩:=hh;have:=B23 hes;subst this;have hX:=D4f hp hx;obtain ⟨E,h1,h2,h3⟩:=(hi.rows id _ hr).map hmu;obtain ⟨E0,hE0,hR⟩:=h2.get _ _ he;have E4K:E[n.toNat]?=A4 E0:=by simpa using hE0
   have E3S:E.findIdx? (λe=>(e.born:Int)==n)=A4 n.toNat:=by
    rw [Array.findIdx?_eq_some_iff_getElem];have V7:=(Array.getElem?_eq_some_iff.1 E4K).1;refine ⟨V7,?_,λj hj=>?_⟩
    ·have:=h3 n.toNat E[n.toNat] (by simp [V7]);simp [this];omega
    ·have:=h3 j E[j] (by simp);simp [this];omega
   refine ⟨_,?_,B19 (E':=E.modify n.toNat λe=>{ e with val:=X }) hi hr hmu h1 ?_ ?_⟩
   ·simp [Instr.entryStore,MapKept.run_getObj_map h1,asInt,asIntOf,E3S,MapKept.run_setObj_map _ h1]
   ·rw [Array.toList_modify];refine All2.modify h2 λx hx=>⟨?_,hX⟩
    rw [hE0] at hx;cases hx;exact hR.1
   ·intro i e' he';rw [Array.getElem?_modify] at he';split at he'
    ·rw [E6d] at he';obtain ⟨e'',E4U,rfl⟩:=he';exact h3 i e'' E4U
    ·exact h3 i e' he'
  ·cases hh
 ·cases hh
def D7W {Γ:Ctx} {t:TypeId} {h:B5} {n0:Nat} {slot:Option Nat} (hi:Inv Γ μ h w) (hs:wV μ h n0 slot) :
  ∃ V w' μ',(Instr.makeMap t A7).run P w=.ok V w' /\ μ.le μ'/\RV μ' (.c (.m (dZ h n0 slot (T8 [])).1)) V/\Inv Γ μ' (dZ h n0 slot (T8 [])).2 w'/\Keeps μ μ' h n0 slot:=by
 obtain ⟨h1,h2,h3,h4,h5,h6⟩:=rJ (r:=T8 []) hs hi.dom;refine ⟨.map (A4 w.heap.size),w.alloc (.map #[] 0),_,rfl,Mu.le_add h1,⟨_,0,W1 _ _ _,rfl⟩,?_,Keeps.new⟩;refine hi.fresh h1 rfl rfl rfl (λb hb=>?_) h2 h3 h4 h5 ?_
 ·show (w.heap.push _)[b]?=_;rw [Array.getElem?_push,if_neg (by omega)]
 ·unfold RowOk;simp only [Mu.add,if_true];refine .inr (.inl ⟨[],#[],rfl,by show (w.heap.push _)[w.heap.size]?=_;simp,trivial,λi e he=>by simp at he⟩)
end
def A8n:Value->Bool
 | .slice A7 0 0=>A5
 | _=>A6
def zU (place:Nat->Option (Nat × Nat)):List (Nat × Operand)->List (Nat × Nat × Opd)->Bool
 | [],[]=>A5
 | q::qs,p::ps=>decide (place q.1=A4 (p.1,p.2.1))&&F0 q.2 p.2.2&&zU place qs ps
 | _,_=>A6
def places (P:Program) (fs:Array Field):List (Option (Nat × Nat)):=fs.toList.map λf=>(R9 P f.type).map λn=>(f.offset,n)
def B2R {α:Type}:List (Option α)->Option (List α)
 | []=>A4 []
 | some a::r=>(B2R r).map λl=>a::l
 | none::_=>A7
def A50 (P:Program) (s:TypeId) (j:Nat):Option Field:=(A4e P s).bind λfs=>fs[j]?
def B1o (P:Program) (e:TypeId):Bool :=
 match P.info? e with
 | some i=>decide (i.bytes<=65536)&&decide (i.bytes≠0)&&decide (i.size≠0)&&(match i.zero with | some z=>decide (z.cells.size=i.size) | none=>A6)
 | none=>A6
def E2o (P:Program) (t:TypeId):Bool :=
 match P.underlying t with
 | some .string=>A5
 | some (.slice _)=>A5
 | _=>A6
def E0K (P:Program) (o:Op):AOp->Bool
 | .mv y=>(match o with | .move x=>F0 x y | .assign x=>F0 x y | _=>A6)
 | .nilrow _=>(match o with | .move (.const v)=>A8n v | .assign (.const v)=>A8n v | _=>A6)
 | .pick c a b=>(match o with | .pick c' a' b'=>F0 c' c&&F0 a' a&&F0 b' b | _=>A6)
 | .alloc z=>(match o with | .alloc t=>(match A0o P t with | some v=>kN v z | none=>A6) | _=>A6)
 | .box y=>(match o with | .box _ x=>F0 x y | _=>A6)
 | .build z ps=>(match o with
   | .build t qs=>(match A0o P t with | some v=>kN v z | none=>A6) &&
     (match A4e P t with
      | some fs=>(match B2R (places P fs) with | some pl=>zU (pl[·]?) qs.toList ps | none=>A6)
      | none=>(match qK P t with | some (_,e)=>(match R9 P e with | some sz=>zU (λi=>A4 (i*sz,sz)) qs.toList ps | none=>A6) | none=>A6))
   | _=>A6)
 | .buildSl sz len z ps=>(match o with
   | .buildSlice t len' qs=>decide (len=len')&&(match sliceB P t with
     | some e=>decide (R9 P e=A4 sz)&&decide (len*sz<=2 ^ 24)&&(match A0o P e with
       | some v=>kN (.agg ((Array.range (len*sz)).map (v.cells[· % v.cells.size]!))) z
       | none=>A6)&&zU (λi=>A4 (i*sz,sz)) qs.toList ps
     | none=>A6)
   | _=>A6)
 | .load1 y=>(match o with | .load t x=>decide (mD P t=A4 A6)&&F0 x y | _=>A6)
 | .loadN n y=>(match o with | .load t x=>decide (mD P t=A4 A5)&&decide (R9 P t=A4 n)&&F0 x y | _=>A6)
 | .store1 y z=>(match o with | .store t x v=>decide (R9 P t=A4 1)&&F0 x y&&F0 v z | _=>A6)
 | .storeN n y z=>(match o with | .store t x v=>decide (R9 P t=A4 n)&&F0 x y&&F0 v z | _=>A6)
 | .bin op y z=>(match o with | .binOp op' _ x v _=>decide (op=op')&&F0 x y&&F0 v z | _=>A6)
 | .eqA neg sh y z=>(match o with | .binOp op' t x v _=>decide ((bif neg then BinOp.neq else .eql)=op')&&decide (mD P t=A4 A5)&&decide (B16 P 100 t=A4 sh) && !P.eqGuardType P.depth t&&F0 x y&&F0 v z | _=>A6)
 | .eqB neg y z=>(match o with | .binOp op' t x v _=>decide ((bif neg then BinOp.neq else .eql)=op')&&(match P.underlying t with | some .bool=>A5 | _=>A6)&&F0 x y&&F0 v z | _=>A6)
 | .eqN fn neg y=>(match o with | .binOp op' t x (.const c) _=>decide ((bif neg then BinOp.neq else .eql)=op')&&D11 P fn t c&&F0 x y | _=>A6)
 | .nilc y=>(match o with | .nilCheck x=>F0 x y | _=>A6)
 | .un op y=>(match o with | .unOp op' _ x=>decide (op=op')&&F0 x y | _=>A6)
 | .conv k y=>(match o with | .convert s d x=>(B6h P s).isSome&&decide (B6h P d=A4 k)&&F0 x y | _=>A6)
 | .convS y=>(match o with | .convert s d x=>cM P s&&cM P d&&F0 x y | _=>A6)
 | .s2b y=>(match o with | .convert s d x=>cM P s&&(match sliceB P d with | some e=>decide (B6h P e=A4 .u8) | none=>A6)&&F0 x y | _=>A6)
 | .b2s y=>(match o with | .convert s d x=>cM P d&&(match sliceB P s with | some e=>decide (B6h P e=A4 .u8) | none=>A6)&&F0 x y | _=>A6)
 | .b2sN _ y=>(match o with | .convert s d x=>cM P d&&(match sliceB P s with | some e=>decide (B6h P e=A4 .u8) | none=>A6)&&F0 x y | _=>A6)
 | .mark y=>(match o with | .convert s d x=>decide (s=d)&&(match sliceB P s with | some e=>decide (B6h P e=A4 .u8) | none=>A6)&&F0 x y | _=>A6)
 | .mkf f caps=>(match o with | .makeFunc (.func g) first cs=>decide (f=g)&&first.isEmpty&&A3S cs.toList caps | _=>A6)
 | .mkSl sz z y y2=>(match o with
   | .makeSlice t x x2=>F0 x y&&F0 x2 y2&&(match sliceB P t with
     | some e=>B1o P e&&decide (R9 P e=A4 sz)&&decide (z.length=sz)&&(match A0o P e with | some v=>kN v z | none=>A6)
     | none=>A6)
   | _=>A6)
 | .slS y lo hi=>(match o with | .slice t x l h none=>cM P t&&F0 x y&&B1n l lo&&B1n h hi | _=>A6)
 | .slL sz y lo hi=>(match o with | .slice t x l h none=>(match sliceB P t with | some e=>decide (R9 P e=A4 sz) | none=>A6)&&F0 x y&&B1n l lo&&B1n h hi | _=>A6)
 | .slA n sz y lo hi=>(match o with | .slice t x l h none=>(match qK P t with | some (m,e)=>decide (m=n)&&decide (R9 P e=A4 sz) | none=>A6)&&F0 x y&&B1n l lo&&B1n h hi | _=>A6)
 | .fAddr y off=>(match o with | .fieldAddr s x j=>(match A50 P s j with | some f=>decide (f.offset=off)&&(match R9 P f.type with | some n=>decide (n≠0) | none=>A6) | none=>A6)&&F0 x y | _=>A6)
 | .iAddrA n sz y z=>(match o with | .indexAddr t x i=>(match qK P t with | some (m,e)=>decide (m=n)&&decide (R9 P e=A4 sz) | none=>A6)&&F0 x y&&F0 i z | _=>A6)
 | .iAddrL sz y z=>(match o with | .indexAddr t x i=>(match sliceB P t with | some e=>decide (R9 P e=A4 sz) | none=>A6)&&F0 x y&&F0 i z | _=>A6)
 | .fld1 y off=>(match o with | .field s x j=>(match A50 P s j with | some f=>decide (f.offset=off)&&decide (mD P f.type=A4 A6) | none=>A6)&&F0 x y | _=>A6)
 | .fldN y off n=>(match o with | .field s x j=>(match A50 P s j with | some f=>decide (f.offset=off)&&decide (mD P f.type=A4 A5)&&decide (R9 P f.type=A4 n) | none=>A6)&&F0 x y | _=>A6)
 | .idxA1 n y z=>(match o with | .index t x i=>(match qK P t with | some (m,e)=>decide (m=n)&&decide (mD P e=A4 A6)&&decide (R9 P e=A4 1) | none=>A6)&&F0 x y&&F0 i z | _=>A6)
 | .idxAN n sz y z=>(match o with | .index t x i=>(match qK P t with | some (m,e)=>decide (m=n)&&decide (mD P e=A4 A5)&&decide (R9 P e=A4 sz) | none=>A6)&&F0 x y&&F0 i z | _=>A6)
 | .idxS y z=>(match o with | .index t x i=>cM P t&&F0 x y&&F0 i z | _=>A6)
 | .ext y k=>(match o with | .extract x k'=>decide (k=k')&&F0 x y | _=>A6)
 | .call _ _=>A6
 | .callV _ _=>A6
 | .len y=>(match o with | .call c=>(match c.callee,c.args.toList,c.argTypes.toList with | .builtin .len,[x],[t]=>(sliceB P t).isSome&&F0 x y | _,_,_=>A6) | _=>A6)
 | .lenS y=>(match o with | .call c=>(match c.callee,c.args.toList,c.argTypes.toList with | .builtin .len,[x],[t]=>cM P t&&F0 x y | _,_,_=>A6) | _=>A6)
 | .app sz y z=>(match o with
   | .call c=>(match c.callee,c.args.toList,c.argTypes.toList with
     | .builtin .append,[x,v],[s,yt]=>(match sliceB P s with | some e=>B1o P e&&decide (R9 P e=A4 sz) | none=>A6)&&E2o P yt&&F0 x y&&F0 v z
     | _,_,_=>A6)
   | _=>A6)
 | .appZ sz zero y z=>(match o with
   | .call c=>(match c.callee,c.args.toList,c.argTypes.toList with
     | .builtin .append,[x,v],[s,yt]=>(match sliceB P s with | some e=>B1o P e&&decide (R9 P e=A4 sz)&&(match A0o P e with | some v=>kN v zero | none=>A6) | none=>A6)&&(B6h P yt).isSome&&F0 x y&&F0 v z
     | _,_,_=>A6)
   | _=>A6)
 | .max y z=>(match o with | .call c=>(match c.callee,c.args.toList with | .builtin .max,[x,v]=>F0 x y&&F0 v z | _,_=>A6) | _=>A6)
 | .min y z=>(match o with | .call c=>(match c.callee,c.args.toList with | .builtin .min,[x,v]=>F0 x y&&F0 v z | _,_=>A6) | _=>A6)
 | .copy sz y z=>(match o with
   | .call c=>(match c.callee,c.args.toList,c.argTypes.toList with
     | .builtin .copy,[x,v],[s,yt]=>(match sliceB P s with | some e=>decide (R9 P e=A4 sz)&&decide (sz≠0) | none=>A6)&&F0 x y&&F0 v z
     | _,_,_=>A6)
   | _=>A6)
 | .mkMap=>(match o with | .makeMap _ none=>A5 | _=>A6)
 | .look kk zero ok y z=>(match o with
   | .lookup t m k ok'=>(match D15 P t with
     | some (kt,et)=>A9i P kt kk&&(match A0o P et with | some v=>A73 v zero | none=>A6)
     | none=>A6)&&decide (ok=ok')&&F0 m y&&F0 k z
   | _=>A6)
 | .mput kk y z z2=>(match o with
   | .mapUpdate t m k x=>(match D15 P t with
     | some (kt,et)=>A9i P kt kk
     | none=>A6)&&F0 m y&&F0 k z&&F0 x z2
   | .insert t m k x=>(match D15 P t with
     | some (kt,et)=>A9i P kt kk
     | none=>A6)&&F0 m y&&F0 k z&&F0 x z2
   | _=>A6)
 | .ment kk zero y z=>(match o with
   | .mapEntry t m k=>(match D15 P t with
     | some (kt,et)=>A9i P kt kk&&(match A0o P et with | some v=>A73 v zero | none=>A6)
     | none=>A6)&&F0 m y&&F0 k z
   | _=>A6)
 | .mset y z z2=>(match o with
   | .entryStore _ m s x=>F0 m y&&F0 s z&&F0 x z2
   | _=>A6)
def Res (P:Program) (o:Oper) (a:Act) (w:World) (V:Value) (w':World):Prop :=
 (execOp a.eval o).run P w=.ok (.value V) w'\/((execOp a.eval o).run P w=.ok .skip w'/\V=undef)
section
variable {P:Program} {μ:Mu} {w:World}
def A1E {e:Env} {a:Act} {x:Option Operand} {y:Option Opd} (h:B1n x y=A5) (hs:SEnv μ e a):D1d μ (y.map e.ev) (x.map a.eval):=by
 cases x<;>cases y<;>simp [B1n] at h
 ·trivial
 ·exact D6 h hs
def A3T {e:Env} {a:Act} (hs:SEnv μ e a) {place:Nat->Option (Nat × Nat)}:∀ {qs:List (Nat × Operand)} {ps:List (Nat × Nat × Opd)},zU place qs ps=A5 ->
  C4F μ place (ps.map λp=>(p.1,p.2.1,e.ev p.2.2)) (qs.map λ(i,x)=>(i,a.eval x))
 | [],[],_=>trivial
 | q::qs,p::ps,h=>by
  simp [zU] at h;exact ⟨⟨h.1.1,D6 h.1.2 hs⟩,A3T hs h.2⟩
 | [],_::_,h=>by simp [zU] at h
 | _::_,[],h=>by simp [zU] at h
def C6h {α:Type}:∀ {l:List (Option α)} {m:List α},B2R l=A4 m->l=m.map A4
 | [],m,h=>by simp [B2R] at h;subst h;rfl
 | some a::r,m,h=>by
  simp only [B2R,E6d] at h;obtain ⟨l,hl,rfl⟩:=h;simp [C6h hl]
 | none::_,m,h=>by simp [B2R] at h
def B1p {e:TypeId} (h:B1o P e=A5):∃ i z,P.info? e=A4 i/\i.bytes<=65536/\i.bytes≠0/\i.size≠0/\i.zero=A4 z/\z.cells.size=i.size:=by
 unfold B1o at h;split at h
 ·rename_i i hi;simp only [E5S,decide_eq_true_eq] at h;obtain ⟨⟨⟨h1,h2⟩,h3⟩,h4⟩:=h;split at h4
  ·rename_i z hz;exact ⟨i,z,hi,h1,h2,h3,hz,by simpa using h4⟩
  ·cases h4
 ·cases h
def E0L {t:TypeId} (h:E2o P t=A5):P.underlying t=A4 .string\/∃ e',P.underlying t=A4 (.slice e'):=by
 unfold E2o at h;split at h
 ·exact .inl ‹_›
 ·exact .inr ⟨_,‹_›⟩
 ·cases h
def D0i:∀ {l:List Val} {cs:List (Nat × Nat)} {Vs:List Value},C6t l=A4 cs->All2 (RV μ) l Vs->All2 (RPtr μ) cs Vs
 | [],cs,[],h,_=>by simp [C6t] at h;subst h;trivial
 | v::r,cs,V::Vs,h,⟨h1,h2⟩=>by
  unfold C6t at h;split at h
  ·rename_i zA;cases zA
  ·rename_i id off r' zA;cases zA;simp only [E6d] at h;obtain ⟨l,hl,rfl⟩:=h;exact ⟨h1,D0i hl h2⟩
  ·cases h
 | [],_,_::_,_,h=>h.elim
 | _::_,_,[],_,h=>h.elim
end
section
variable {P:Program} {μ:Mu} {w:World}
def E0q (P:Program) (Γ:Ctx) (μ:Mu) (o:Oper) (a:Act) (w:World) (h:B5) (n0:Nat) (slot:Option Nat) (v:Val) (h':B5):Prop :=
 ∃ V w' μ',Res P o a w V w' /\ μ.le μ'/\RV μ' v V/\Inv Γ μ' h' w'/\Keeps μ μ' h n0 slot
def N3 {Γ:Ctx} {o:Oper} {a:Act} {v:Val} {h:B5} {n0:Nat} {slot:Option Nat} {s:Sem Value} (hi:Inv Γ μ h w) (he:execOp a.eval o=(do pure (Next.value (<-s)))) (hr:∃ V,s.run P w=.ok V w/\RV μ v V):E0q P Γ μ o a w h n0 slot v h:=by
 obtain ⟨V,h1,h2⟩:=hr;exact ⟨V,w,μ,.inl (by rw [he];simp [h1]),Mu.le_refl _,h2,hi,Keeps.refl _ _ _ _⟩
def nC {Γ:Ctx} {o:Oper} {a:Act} {v:Val} {h h':B5} {n0:Nat} {slot:Option Nat} {s:Sem Value} (he:execOp a.eval o=(do pure (Next.value (<-s)))) (hr:∃ V w' μ',s.run P w=.ok V w' /\ μ.le μ'/\RV μ' v V/\Inv Γ μ' h' w'/\Keeps μ μ' h n0 slot):E0q P Γ μ o a w h n0 slot v h':=by
 obtain ⟨V,w',μ',h1,h2,h3,h4⟩:=hr;exact ⟨V,w',μ',.inl (by rw [he];simp [h1]),h2,h3,h4⟩
def A6C {Γ:Ctx} {o:Oper} {a:Act} {h h':B5} {n0:Nat} {slot:Option Nat} {s:Sem Unit} (he:execOp a.eval o=(do s;pure Next.skip)) (hr:∃ w',s.run P w=.ok () w'/\Inv Γ μ h' w'):E0q P Γ μ o a w h n0 slot .un h':=by
 obtain ⟨w',h1,h2⟩:=hr;exact ⟨undef,w',μ,.inr ⟨by rw [he];simp [h1],rfl⟩,Mu.le_refl _,trivial,h2,Keeps.refl _ _ _ _⟩
def C65 {op:BinOp} {t:TypeId} {x y:Operand} {X Y:Value} (hX:∀ c,X≠.agg c) (hX2:X≠.nilIface):(eqGuard op t x y X Y).run P w=.ok () w:=by
 unfold eqGuard;cases X<;>cases Y<;>simp_all<;>split<;>rfl
def D4K {op:BinOp} {x y v:Val} {X:Value} (h:N4 op x y=A4 v) (hx:RV μ x X):(∀ c,X≠.agg c)/\X≠.nilIface:=by
 unfold N4 at h;split at h
 ·cases hx;simp
 ·cases hx;simp
 ·cases h
def E3o {Γ:Ctx} {E:O3} {q:Bool} {hr:B5} {n0:Nat} {slot:Option Nat} {o:Oper} {ao:AOp} {e:Env} {h:B5} {a:Act} {v:Val} {h':B5}
  (hc:E0K P o.op ao=A5) (hs:SEnv μ e a) (hi:Inv Γ μ h w) (hrd:∀ id r,rd hr id=A4 r->rd h id=A4 r) (oL:wV μ h n0 slot)
  (D8:aop E q hr n0 slot ao e h (λv h=>A4 (v,h))=A4 (v,h')):E0q P Γ μ o a w h n0 slot v h':=by
 have hrow:∀ id r,rd hr id=A4 r->RowOk μ w id r:=λid r h1=>hi.rows id r (hrd id r h1)
 obtain ⟨dst,op,type,pos,after,guard⟩:=o;simp only at hc;cases ao<;>simp only [E0K] at hc<;>simp only [aop] at D8
 case mv y =>
  cases D8;split at hc
  ·exact ⟨_,w,μ,.inl rfl,Mu.le_refl _,D6 hc hs,hi,Keeps.refl _ _ _ _⟩
  ·exact ⟨_,w,μ,.inl rfl,Mu.le_refl _,D6 hc hs,hi,Keeps.refl _ _ _ _⟩
  ·cases hc
 case nilrow sz =>
  cases D8;have key:∀ x:Value,A8n x=A5->x=.slice A7 0 0:=by
   intro x hx;unfold A8n at hx;split at hx<;>first | rfl | cases hx
  split at hc
  ·exact ⟨_,w,μ,.inl rfl,Mu.le_refl _,.inr ⟨rfl,A7,key _ hc⟩,A55 hi oL,Keeps.refl _ _ _ _⟩
  ·exact ⟨_,w,μ,.inl rfl,Mu.le_refl _,.inr ⟨rfl,A7,key _ hc⟩,A55 hi oL,Keeps.refl _ _ _ _⟩
  ·cases hc
 case pick c x y =>
  simp only [E5Q,E5W,E50] at D8;obtain ⟨_,hp,rfl,rfl⟩:=D8;split at hc
  ·simp only [E5S] at hc;rename_i c' x' y';have h1:RV μ _ _:=D6 hc.1.1 hs;have h2:=D6 hc.1.2 hs;have h3:=D6 hc.2 hs;unfold D26 at hp;split at hp
   ·rename_i b zA;cases hp;rw [zA] at h1;have h1:a.eval c'=.bool b:=h1;cases b
    ·exact ⟨_,w,μ,.inl (by simp [execOp,h1,asBool]),Mu.le_refl _,h3,hi,Keeps.refl _ _ _ _⟩
    ·exact ⟨_,w,μ,.inl (by simp [execOp,h1,asBool]),Mu.le_refl _,h2,hi,Keeps.refl _ _ _ _⟩
   ·cases hp
  ·cases hc
 case alloc z =>
  cases D8;split at hc
  ·split at hc
   ·exact nC rfl (D7Q hi oL ‹_› hc)
   ·cases hc
  ·cases hc
 case box y =>
  simp only [E5Q,E5W,E50] at D8;obtain ⟨cs,hp,rfl,rfl⟩:=D8;split at hc
  ·exact nC rfl (E1u hi oL (D6 hc hs) hp)
  ·cases hc
 case build z ps =>
  simp only [E5Q,E5W,E50] at D8;obtain ⟨cs,hp,rfl,rfl⟩:=D8;split at hc
  ·rename_i t qs;simp only [E5S] at hc;obtain ⟨hz,hc⟩:=hc;split at hz
   ·rename_i zv hzv;have zA:∀ qs:Array (Nat × Operand),(qs.map λ(i,x)=>(i,a.eval x))=(qs.toList.map λ(i,x)=>(i,a.eval x)).toArray:=by intro qs;apply Array.ext';simp
    split at hc
    ·rename_i fs hfs;split at hc
     ·rename_i pl hpl;refine N3 hi rfl ?_;rw [zA];exact D5G hfs hzv hz (C6h hpl) (A3T hs hc) hp
     ·cases hc
    ·split at hc
     ·rename_i n e T1;split at hc
      ·rename_i sz hsz;refine N3 hi rfl ?_;rw [zA];exact D5F T1 hsz hzv hz (A3T hs hc) hp
      ·cases hc
     ·cases hc
   ·cases hz
  ·cases hc
 case buildSl sz len z ps =>
  simp only [E5Q,E5W,E50] at D8;obtain ⟨cs,hp,rfl,rfl⟩:=D8;split at hc
  ·rename_i t len' qs;simp only [E5S,decide_eq_true_eq] at hc;obtain ⟨rfl,hc⟩:=hc;split at hc
   ·rename_i e he;simp only [E5S,decide_eq_true_eq] at hc;obtain ⟨⟨⟨h1,h2⟩,h3⟩,h4⟩:=hc;split at h3
    ·rename_i zv hzv;refine nC rfl ?_;have zA:(qs.map λ(i,x)=>(i,a.eval x))=(qs.toList.map λ(i,x)=>(i,a.eval x)).toArray:=by apply Array.ext';simp
     rw [zA];exact D4q hi oL he h1 hzv h2 h3 (A3T hs h4) hp
    ·cases h3
   ·cases hc
  ·cases hc
 case load1 y =>
  simp only [E5Q,E5W,E50] at D8;obtain ⟨_,hp,rfl,rfl⟩:=D8;split at hc
  ·simp only [E5S,decide_eq_true_eq] at hc;exact N3 hi rfl (D03 hc.1 hrow (D6 hc.2 hs) hp)
  ·cases hc
 case loadN n y =>
  simp only [E5Q,E5W,E50] at D8;obtain ⟨_,hp,rfl,rfl⟩:=D8;split at hc
  ·simp only [E5S,decide_eq_true_eq] at hc;exact N3 hi rfl (D04 hc.1.1 hc.1.2 hrow (D6 hc.2 hs) hp)
  ·cases hc
 case store1 y z =>
  simp only [E5Q,E5W,E50] at D8;obtain ⟨_,hp,rfl,rfl⟩:=D8;split at hc
  ·simp only [E5S,decide_eq_true_eq] at hc;exact A6C rfl (D5J hc.1.1 hi (D6 hc.1.2 hs) (D6 hc.2 hs) hp)
  ·cases hc
 case storeN n y z =>
  simp only [E5Q,E5W,E50] at D8;obtain ⟨_,hp,rfl,rfl⟩:=D8;split at hc
  ·simp only [E5S,decide_eq_true_eq] at hc;exact A6C rfl (D5K hc.1.1 hi (D6 hc.1.2 hs) (D6 hc.2 hs) hp)
  ·cases hc
 case bin op' y z =>
  simp only [E5Q,E5W,E50] at D8;obtain ⟨_,hp,rfl,rfl⟩:=D8;split at hc
  ·rename_i op2 xt x y2 yt;simp only [E5S,decide_eq_true_eq] at hc;obtain ⟨⟨rfl,h1⟩,h2⟩:=hc;have hx:RV μ _ _:=D6 h1 hs;have hy:RV μ _ _:=D6 h2 hs;refine N3 (s:=do eqGuard op' xt x y2 (a.eval x) (a.eval y2);binOp op' xt (a.eval x) (a.eval y2)) hi rfl ?_;obtain ⟨V,h3,h4⟩:=E1t (P:=P) (w:=w) (xt:=xt) hx hy hp;have h5:=D4K hp hx;exact ⟨V,by rw [Sem.run_bind,C65 h5.1 h5.2];exact h3,h4⟩
  ·cases hc
 case eqA neg sh y z =>
  simp only [E5Q,E5W,E50] at D8;obtain ⟨_,hp,rfl,rfl⟩:=D8;split at hc
  ·rename_i op2 xt x y2 yt;simp only [E5S,decide_eq_true_eq,E6I] at hc;obtain ⟨⟨⟨⟨⟨rfl,h1⟩,h2⟩,h3⟩,h4⟩,h5⟩:=hc;have hx:RV μ _ _:=D6 h4 hs;have hy:RV μ _ _:=D6 h5 hs;refine N3 (s:=do eqGuard (bif neg then .neq else .eql) xt x y2 (a.eval x) (a.eval y2);binOp (bif neg then .neq else .eql) xt (a.eval x) (a.eval y2)) hi rfl ?_;obtain ⟨V,h6,h7⟩:=E1v (P:=P) (w:=w) h1 h2 hx hy hp;have hag:(eqGuard (bif neg then BinOp.neq else .eql) xt x y2 (a.eval x) (a.eval y2)).run P w=.ok () w:=by
    unfold aeq at hp;split at hp
    ·rename_i e1 e2;rw [e1] at hx;rw [e2] at hy;obtain ⟨xs,e3,_⟩:=hx;obtain ⟨ys,e4,_⟩:=hy;rw [e3,e4];exact run_eqGuard_agg w _ xt x y2 _ _ h3
    ·cases hp
   exact ⟨V,by rw [Sem.run_bind,hag];exact h6,h7⟩
  ·cases hc
 case eqB neg y z =>
  simp only [E5Q,E5W,E50] at D8;obtain ⟨_,hp,rfl,rfl⟩:=D8;split at hc
  ·rename_i op2 xt x y2 yt;simp only [E5S,decide_eq_true_eq] at hc;obtain ⟨⟨⟨rfl,h1⟩,h4⟩,h5⟩:=hc;split at h1
   ·rename_i hu;have hx:RV μ _ _:=D6 h4 hs;have hy:RV μ _ _:=D6 h5 hs;refine N3 (s:=do eqGuard (bif neg then .neq else .eql) xt x y2 (a.eval x) (a.eval y2);binOp (bif neg then .neq else .eql) xt (a.eval x) (a.eval y2)) hi rfl ?_;obtain ⟨V,h6,h7⟩:=E1w (P:=P) (w:=w) hu hx hy hp;have hag:(eqGuard (bif neg then BinOp.neq else .eql) xt x y2 (a.eval x) (a.eval y2)).run P w=.ok () w:=by
     unfold D4L at hp;split at hp
     ·rename_i e1 e2;rw [e1] at hx;have hx:a.eval x=.bool _:=hx;rw [hx];exact C65 (by simp) (by simp)
     ·cases hp
    exact ⟨V,by rw [Sem.run_bind,hag];exact h6,h7⟩
   ·cases h1
  ·cases hc
 case eqN fn neg y =>
  simp only [E5Q,E5W,E50] at D8;obtain ⟨_,hp,rfl,rfl⟩:=D8;split at hc
  ·rename_i op2 xt x c yt;simp only [E5S,decide_eq_true_eq] at hc;obtain ⟨⟨rfl,h1⟩,h4⟩:=hc;have hx:RV μ _ _:=D6 h4 hs;refine N3 (s:=do eqGuard (bif neg then .neq else .eql) xt x (.const c) (a.eval x) (a.eval (.const c));binOp (bif neg then .neq else .eql) xt (a.eval x) (a.eval (.const c))) hi rfl ?_;obtain ⟨V,h6,h7⟩:=E1x (P:=P) (w:=w) h1 hx hp;have cU:(∀ c,a.eval x≠.agg c)/\a.eval x≠.nilIface:=by
    unfold D1C at hp;split at hp
    ·rename_i e1;rw [e1] at hx;have hx:a.eval x=.nilFunc:=hx;rw [hx];simp
    ·rename_i e1;rw [e1] at hx;obtain ⟨cs,hx,_⟩:=hx;rw [hx];simp
    ·rename_i e1;rw [e1] at hx;have hx:a.eval x=.pointer A7:=hx;rw [hx];simp
    ·rename_i e1;rw [e1] at hx;obtain ⟨b,n,_,hx⟩:=hx;rw [hx];simp
    ·cases hp
   exact ⟨V,by rw [Sem.run_bind,C65 cU.1 cU.2];exact h6,h7⟩
  ·cases hc
 case nilc y =>
  simp only [E5Q,E5W,E50] at D8;obtain ⟨_,hp,rfl,rfl⟩:=D8;split at hc
  ·rename_i x;have hx:RV μ _ _:=D6 hc hs;unfold A5U at hp;split at hp
   ·rename_i e1;cases hp;rw [e1] at hx;have hx':=hx;obtain ⟨b,n,_,hx⟩:=hx;exact ⟨_,w,μ,.inl (by simp only [execOp,hx];rfl),Mu.le_refl _,hx ▸ hx',hi,Keeps.refl _ _ _ _⟩
   ·rename_i e1;cases hp;rw [e1] at hx;have hx':=hx;obtain ⟨cs,hx,_⟩:=hx;exact ⟨_,w,μ,.inl (by simp only [execOp,hx];rfl),Mu.le_refl _,hx ▸ hx',hi,Keeps.refl _ _ _ _⟩
   ·cases hp
  ·cases hc
 case un op' y =>
  simp only [E5Q,E5W,E50] at D8;obtain ⟨_,hp,rfl,rfl⟩:=D8;split at hc
  ·simp only [E5S,decide_eq_true_eq] at hc;obtain ⟨rfl,h1⟩:=hc;exact N3 hi rfl (E3p (D6 h1 hs) hp)
  ·cases hc
 case conv k y =>
  simp only [E5Q,E5W,E50] at D8;obtain ⟨_,hp,rfl,rfl⟩:=D8;split at hc
  ·simp only [E5S,decide_eq_true_eq] at hc;obtain ⟨ks,hks⟩:=Option.isSome_iff_exists.1 hc.1.1;exact N3 hi rfl (D90 hks hc.1.2 (D6 hc.2 hs) hp)
  ·cases hc
 case convS y =>
  simp only [E5Q,E5W,E50] at D8;obtain ⟨_,hp,rfl,rfl⟩:=D8;split at hc
  ·simp only [E5S] at hc;exact N3 hi rfl (D7S hc.1.1 hc.1.2 (D6 hc.2 hs) hp)
  ·cases hc
 case s2b y =>
  simp only [E5Q,E5W,E50] at D8;obtain ⟨l,hp,rfl,rfl⟩:=D8;split at hc
  ·simp only [E5S] at hc;obtain ⟨⟨h1,h2⟩,h3⟩:=hc;split at h2
   ·rename_i e he;have hx:RV μ _ _:=D6 h3 hs;unfold E2m at hp;split at hp
    ·rename_i zA;split at hp
     ·cases hp;rename_i hl;rw [zA] at hx;have hx:a.eval _=.string ⟨l.toArray⟩:=hx;refine nC rfl ?_;rw [hx];exact E1C hi oL h1 he (by simpa using h2) hl
     ·cases hp
    ·cases hp
   ·cases h2
  ·cases hc
 case b2s y =>
  simp only [E5Q,E5W,E50] at D8;obtain ⟨_,hp,rfl,rfl⟩:=D8;split at hc
  ·simp only [E5S] at hc;obtain ⟨⟨h1,h2⟩,h3⟩:=hc;split at h2
   ·exact N3 hi rfl (D4p ‹_› (by simpa using h2) h1 hrow (D6 h3 hs) hp)
   ·cases h2
  ·cases hc
 case b2sN own y =>
  simp only [E5Q,E5W,E50] at D8;obtain ⟨_,hp,rfl,rfl⟩:=D8;have hp:=D4J hp;split at hc
  ·simp only [E5S] at hc;obtain ⟨⟨h1,h2⟩,h3⟩:=hc;split at h2
   ·exact N3 hi rfl (D4p ‹_› (by simpa using h2) h1 hi.rows (D6 h3 hs) hp)
   ·cases h2
  ·cases hc
 case mark y =>
  simp only [E5Q,E5W,E50] at D8;obtain ⟨_,hp,rfl,rfl⟩:=D8;split at hc
  ·simp only [E5S,decide_eq_true_eq] at hc;obtain ⟨⟨rfl,h2⟩,h3⟩:=hc;split at h2
   ·have hx:=D6 (μ:=μ) h3 hs;obtain ⟨w',h4,h5,h6⟩:=run_mark (P:=P) hi ‹_› (by simpa using h2) hx hp;exact nC rfl ⟨_,w',μ,h4,Mu.le_refl _,h5 ▸ hx,h6,Keeps.refl _ _ _ _⟩
   ·cases h2
  ·cases hc
 case mkf f caps =>
  simp only [E5Q,E5W,E50] at D8;obtain ⟨_,hp,rfl,rfl⟩:=D8;split at hc
  ·rename_i g first cs
   simp only [E5S,decide_eq_true_eq] at hc;obtain ⟨⟨rfl,h1⟩,h2⟩:=hc;unfold B5U at hp;simp only [E6d] at hp;obtain ⟨l,hl,rfl⟩:=hp;have h3:=D0i hl (A72 hs h2);refine ⟨_,w,μ,.inl rfl,Mu.le_refl _,⟨cs.toList.map a.eval,?_,h3⟩,hi,Keeps.refl _ _ _ _⟩;have:first = #[]:=by simpa using h1
   subst this;show Value.func _ _ _=Value.func _ _ _
   congr 1<;>(apply Array.ext';simp)
  ·cases hc
 case mkSl sz z y y2 =>
  simp only [E5Q,E5W,E50] at D8;obtain ⟨n',hp,rfl,rfl⟩:=D8;unfold A2T at hp;simp only [E5Q] at hp;obtain ⟨n,hn,c,hcc,hp⟩:=hp;split at hp
  ·cases hp;rename_i hnc;split at hc
   ·simp only [E5S] at hc;obtain ⟨⟨h1,h2⟩,h3⟩:=hc;split at h3
    ·rename_i e he;simp only [E5S,decide_eq_true_eq] at h3;obtain ⟨⟨⟨h4,h5⟩,h6⟩,h7⟩:=h3;split at h7
     ·rename_i zv hzv;obtain ⟨i,z',hi1,hi2,hi3,hi4,hi5,hi6⟩:=B1p h4;have hsz:i.size=sz:=by simpa [R9,hi1] using h5
      refine nC rfl (D99 hi oL he h5 hzv h7 h6 (by omega) (show C6s P e=A4 i.bytes by simp [C6s,hi1]) hi2 (D6 h1 hs) (D6 h2 hs) hn hcc hnc)
     ·cases h7
    ·cases h3
   ·cases hc
  ·cases hp
 case slS y lo hi' =>
  simp only [E5Q,E5W,E50] at D8;obtain ⟨_,hp,rfl,rfl⟩:=D8;split at hc
  ·simp only [E5S] at hc;obtain ⟨⟨⟨h1,h2⟩,h3⟩,h4⟩:=hc;exact N3 hi rfl (E1F h1 (D6 h2 hs) (A1E h3 hs) (A1E h4 hs) hp)
  ·cases hc
 case slL sz y lo hi' =>
  simp only [E5Q,E5W,E50] at D8;obtain ⟨_,hp,rfl,rfl⟩:=D8;split at hc
  ·simp only [E5S] at hc;obtain ⟨⟨⟨h1,h2⟩,h3⟩,h4⟩:=hc;split at h1
   ·exact N3 hi rfl (E1E ‹_› (by simpa using h1) (D6 h2 hs) (A1E h3 hs) (A1E h4 hs) hp)
   ·cases h1
  ·cases hc
 case slA n sz y lo hi' =>
  simp only [E5Q,E5W,E50] at D8;obtain ⟨_,hp,rfl,rfl⟩:=D8;split at hc
  ·simp only [E5S] at hc;obtain ⟨⟨⟨h1,h2⟩,h3⟩,h4⟩:=hc;split at h1
   ·simp only [E5S,decide_eq_true_eq] at h1;obtain ⟨rfl,h1⟩:=h1;exact N3 hi rfl (E1D ‹_› h1 hrow (D6 h2 hs) (A1E h3 hs) (A1E h4 hs) hp)
   ·cases h1
  ·cases hc
 case fAddr y off =>
  simp only [E5Q,E5W,E50] at D8;obtain ⟨_,hp,rfl,rfl⟩:=D8;split at hc
  ·simp only [E5S] at hc;obtain ⟨h1,h2⟩:=hc;split at h1
   ·rename_i f hf;simp only [E5S,decide_eq_true_eq] at h1;obtain ⟨h3,h4⟩:=h1;split at h4
    ·simp only [A50,E5Q] at hf;obtain ⟨fs,hfs,hf⟩:=hf;exact N3 hi rfl (D7T hfs hf ‹_› (by simpa using h4) h3 (D6 h2 hs) hp)
    ·cases h4
   ·cases h1
  ·cases hc
 case iAddrA n sz y z =>
  simp only [E5Q,E5W,E50] at D8;obtain ⟨_,hp,rfl,rfl⟩:=D8;split at hc
  ·simp only [E5S] at hc;obtain ⟨⟨h1,h2⟩,h3⟩:=hc;split at h1
   ·simp only [E5S,decide_eq_true_eq] at h1;obtain ⟨rfl,h1⟩:=h1;exact N3 hi rfl (D5H ‹_› h1 (D6 h2 hs) (D6 h3 hs) hp)
   ·cases h1
  ·cases hc
 case iAddrL sz y z =>
  simp only [E5Q,E5W,E50] at D8;obtain ⟨_,hp,rfl,rfl⟩:=D8;split at hc
  ·simp only [E5S] at hc;obtain ⟨⟨h1,h2⟩,h3⟩:=hc;split at h1
   ·exact N3 hi rfl (D5I ‹_› (by simpa using h1) (D6 h2 hs) (D6 h3 hs) hp)
   ·cases h1
  ·cases hc
 case fld1 y off =>
  simp only [E5Q,E5W,E50] at D8;obtain ⟨_,hp,rfl,rfl⟩:=D8;split at hc
  ·simp only [E5S] at hc;obtain ⟨h1,h2⟩:=hc;split at h1
   ·rename_i f hf;simp only [E5S,decide_eq_true_eq] at h1;obtain ⟨rfl,h4⟩:=h1;simp only [A50,E5Q] at hf;obtain ⟨fs,hfs,hf⟩:=hf;exact N3 hi rfl (D92 hfs hf h4 (D6 h2 hs) hp)
   ·cases h1
  ·cases hc
 case fldN y off n =>
  simp only [E5Q,E5W,E50] at D8;obtain ⟨_,hp,rfl,rfl⟩:=D8;split at hc
  ·simp only [E5S] at hc;obtain ⟨h1,h2⟩:=hc;split at h1
   ·rename_i f hf;simp only [E5S,decide_eq_true_eq] at h1;obtain ⟨⟨rfl,h4⟩,h5⟩:=h1;simp only [A50,E5Q] at hf;obtain ⟨fs,hfs,hf⟩:=hf;exact N3 hi rfl (D93 hfs hf h4 h5 (D6 h2 hs) hp)
   ·cases h1
  ·cases hc
 case idxA1 n y z =>
  simp only [E5Q,E5W,E50] at D8;obtain ⟨_,hp,rfl,rfl⟩:=D8;split at hc
  ·simp only [E5S] at hc;obtain ⟨⟨h1,h2⟩,h3⟩:=hc;split at h1
   ·simp only [E5S,decide_eq_true_eq] at h1;obtain ⟨⟨rfl,h4⟩,h5⟩:=h1;exact N3 hi rfl (D7U ‹_› h4 h5 (D6 h2 hs) (D6 h3 hs) hp)
   ·cases h1
  ·cases hc
 case idxAN n sz y z =>
  simp only [E5Q,E5W,E50] at D8;obtain ⟨_,hp,rfl,rfl⟩:=D8;split at hc
  ·simp only [E5S] at hc;obtain ⟨⟨h1,h2⟩,h3⟩:=hc;split at h1
   ·simp only [E5S,decide_eq_true_eq] at h1;obtain ⟨⟨rfl,h4⟩,h5⟩:=h1;exact N3 hi rfl (D7V ‹_› h4 h5 (D6 h2 hs) (D6 h3 hs) hp)
   ·cases h1
  ·cases hc
 case idxS y z =>
  simp only [E5Q,E5W,E50] at D8;obtain ⟨_,hp,rfl,rfl⟩:=D8;split at hc
  ·simp only [E5S] at hc;obtain ⟨⟨h1,h2⟩,h3⟩:=hc;exact N3 hi rfl (D94 h1 (D6 h2 hs) (D6 h3 hs) hp)
  ·cases hc
 case ext y k =>
  simp only [E5Q,E5W,E50] at D8;obtain ⟨_,hp,rfl,rfl⟩:=D8;split at hc
  ·simp only [E5S,decide_eq_true_eq] at hc;obtain ⟨rfl,h1⟩:=hc;exact N3 hi rfl (E1y (D6 h1 hs) hp)
  ·cases hc
 case call=>cases hc
 case callV=>cases hc
 case len y =>
  simp only [E5Q,E5W,E50] at D8;obtain ⟨_,hp,rfl,rfl⟩:=D8;split at hc
  ·rename_i c;split at hc
   ·rename_i x t hca hargs hty;simp only [E5S] at hc;obtain ⟨e,he⟩:=Option.isSome_iff_exists.1 hc.1;have h1:c.args = #[x]:=by cases hcc:c.args;simp_all
    have h2:c.argTypes = #[t]:=by cases hcc:c.argTypes;simp_all
    refine N3 (s:=Builtin.len_ #[t] type #[a.eval x]) hi ?_ (E1z he (D6 hc.2 hs) hp);simp [execOp,resolve,hca,h1,h2,invoke,builtin]
   ·cases hc
  ·cases hc
 case lenS y =>
  simp only [E5Q,E5W,E50] at D8;obtain ⟨_,hp,rfl,rfl⟩:=D8;split at hc
  ·rename_i c;split at hc
   ·rename_i x t hca hargs hty;simp only [E5S] at hc;have h1:c.args = #[x]:=by cases hcc:c.args;simp_all
    have h2:c.argTypes = #[t]:=by cases hcc:c.argTypes;simp_all
    refine N3 (s:=Builtin.len_ #[t] type #[a.eval x]) hi ?_ (D96 hc.1 (D6 hc.2 hs) hp);simp [execOp,resolve,hca,h1,h2,invoke,builtin]
   ·cases hc
  ·cases hc
 case app sz y z =>
  simp only [E5Q,E5W] at D8;obtain ⟨p,hp,hpe⟩:=D8;simp only [E50] at hpe;obtain ⟨rfl,rfl⟩:=hpe;split at hc
  ·rename_i c;split at hc
   ·rename_i x x2 s yt hca hargs hty;simp only [E5S] at hc;obtain ⟨⟨⟨h1,h2⟩,h3⟩,h4⟩:=hc;split at h1
    ·rename_i e he;simp only [E5S,decide_eq_true_eq] at h1;obtain ⟨i,z',hi1,hi2,hi3,hi4,hi5,hi6⟩:=B1p h1.1;have hsz:i.size=sz:=by simpa [R9,hi1] using h1.2
     subst hsz;have e1:c.args = #[x,x2]:=by cases hcc:c.args;simp_all
     have e2:c.argTypes = #[s,yt]:=by cases hcc:c.argTypes;simp_all
     obtain ⟨V,w',μ',g1,g2,g3,g4,g5⟩:=E1s (P:=P) (ty:=type) hi (Q4 he) hi1 hi2 hi3 hi5 hi6 hi4 (E0L h2) (D6 h3 hs) (D6 h4 hs) hp;refine nC (s:=Builtin.append_ #[s,yt] type #[a.eval x,a.eval x2]) ?_ ⟨V,w',μ',g1,g2,g3,g4,λid hid _=>g5 id hid⟩;simp [execOp,resolve,hca,e1,e2,invoke,builtin]
    ·cases h1
   ·cases hc
  ·cases hc
 case appZ sz zero y z =>
  simp only [E5Q,E5W] at D8;obtain ⟨p,hp,hpe⟩:=D8;simp only [E50] at hpe;obtain ⟨rfl,rfl⟩:=hpe;split at hc
  ·rename_i c;split at hc
   ·rename_i x x2 s yt hca hargs hty;simp only [E5S] at hc;obtain ⟨⟨⟨h1,h2⟩,h3⟩,h4⟩:=hc;split at h1
    ·rename_i e he;simp only [E5S,decide_eq_true_eq] at h1;obtain ⟨⟨h1,h1s⟩,h1z⟩:=h1;obtain ⟨i,z',hi1,hi2,hi3,hi4,hi5,hi6⟩:=B1p h1;have hsz:i.size=sz:=by simpa [R9,hi1] using h1s
     subst hsz;have e1:c.args = #[x,x2]:=by cases hcc:c.args;simp_all
     have e2:c.argTypes = #[s,yt]:=by cases hcc:c.argTypes;simp_all
     split at h1z
     ·rename_i zv hzv;have hzz:zv=z':=by
       have:=hzv;simp [A0o,hi1,hi5] at this;exact this.symm
      subst hzz;obtain ⟨kk,hkk⟩:=Option.isSome_iff_exists.1 h2;obtain ⟨V,w',μ',g1,g2,g3,g4,g5⟩:=D9Z (P:=P) (ty:=type) hi (Q4 he) hi1 hi2 hi3 hi5 hi6 hi4 (A6v hkk) (iL h1z) (D6 h3 hs) (D6 h4 hs) hp;refine nC (s:=Builtin.append_ #[s,yt] type #[a.eval x,a.eval x2]) ?_ ⟨V,w',μ',g1,g2,g3,g4,λid hid _=>g5 id hid⟩;simp [execOp,resolve,hca,e1,e2,invoke,builtin]
     ·cases h1z
    ·cases h1
   ·cases hc
  ·cases hc
 case max y z =>
  simp only [E5Q,E5W,E50] at D8;obtain ⟨_,hp,rfl,rfl⟩:=D8;split at hc
  ·rename_i c;split at hc
   ·rename_i x x2 hca hargs;simp only [E5S] at hc;have e1:c.args = #[x,x2]:=by cases hcc:c.args;simp_all
    refine N3 (s:=Builtin.max_ c.argTypes type #[a.eval x,a.eval x2]) hi ?_ (E1A (D6 hc.1 hs) (D6 hc.2 hs) hp);simp [execOp,resolve,hca,e1,invoke,builtin]
   ·cases hc
  ·cases hc
 case min y z =>
  simp only [E5Q,E5W,E50] at D8;obtain ⟨_,hp,rfl,rfl⟩:=D8;split at hc
  ·rename_i c;split at hc
   ·rename_i x x2 hca hargs;simp only [E5S] at hc;have e1:c.args = #[x,x2]:=by cases hcc:c.args;simp_all
    refine N3 (s:=Builtin.min_ c.argTypes type #[a.eval x,a.eval x2]) hi ?_ (E1B (D6 hc.1 hs) (D6 hc.2 hs) hp);simp [execOp,resolve,hca,e1,invoke,builtin]
   ·cases hc
  ·cases hc
 case mkMap =>
  cases D8;split at hc
  ·exact nC rfl (D7W hi oL)
  ·cases hc
 case look kk zero ok y z =>
  simp only [E5Q,E5W,E50] at D8;obtain ⟨_,hp,rfl,rfl⟩:=D8;split at hc
  ·simp only [E5S,decide_eq_true_eq] at hc;obtain ⟨⟨⟨h1,h2⟩,h3⟩,h4⟩:=hc;subst h2;split at h1
   ·simp only [E5S] at h1;obtain ⟨h1,h5⟩:=h1;split at h5
    ·exact N3 hi rfl (D97 ‹_› h1 ‹_› h5 hrow (D6 h3 hs) (D6 h4 hs) hp)
    ·cases h5
   ·cases h1
  ·cases hc
 case mput kk y z z2 =>
  simp only [E5Q,E5W,E50] at D8;obtain ⟨_,hp,rfl,rfl⟩:=D8;split at hc
  ·simp only [E5S] at hc;obtain ⟨⟨⟨h1,h2⟩,h3⟩,h4⟩:=hc;split at h1
   ·exact A6C rfl (D4r ‹_› h1 hi (D6 h2 hs) (D6 h3 hs) (D6 h4 hs) hp)
   ·cases h1
  ·simp only [E5S] at hc;obtain ⟨⟨⟨h1,h2⟩,h3⟩,h4⟩:=hc;split at h1
   ·exact A6C rfl (D4r ‹_› h1 hi (D6 h2 hs) (D6 h3 hs) (D6 h4 hs) hp)
   ·cases h1
  ·cases hc
 case ment kk zero y z =>
  simp only [E5Q,E5W] at D8;obtain ⟨p,hp,hpe⟩:=D8;simp only [E50] at hpe;obtain ⟨rfl,rfl⟩:=hpe;split at hc
  ·simp only [E5S] at hc;obtain ⟨⟨h1,h3⟩,h4⟩:=hc;split at h1
   ·simp only [E5S] at h1;obtain ⟨h1,h5⟩:=h1;split at h5
    ·obtain ⟨V,w',h6,h7,h8⟩:=D98 ‹_› h1 ‹_› h5 hi (D6 h3 hs) (D6 h4 hs) hp;exact nC rfl ⟨V,w',μ,h6,Mu.le_refl _,h7,h8,Keeps.refl _ _ _ _⟩
    ·cases h5
   ·cases h1
  ·cases hc
 case mset y z z2 =>
  simp only [E5Q,E5W,E50] at D8;obtain ⟨_,hp,rfl,rfl⟩:=D8;split at hc
  ·simp only [E5S] at hc;obtain ⟨⟨h2,h3⟩,h4⟩:=hc;exact A6C rfl (E0a hi (D6 h2 hs) (D6 h3 hs) (D6 h4 hs) hp)
  ·cases hc
 case copy sz y z =>
  simp only [E5Q,E5W] at D8;obtain ⟨p,hp,hpe⟩:=D8;simp only [E50] at hpe;obtain ⟨rfl,rfl⟩:=hpe;split at hc
  ·rename_i c;split at hc
   ·rename_i x x2 s yt hca hargs hty;simp only [E5S] at hc;obtain ⟨⟨h1,h3⟩,h4⟩:=hc;split at h1
    ·rename_i e he;simp only [E5S,decide_eq_true_eq] at h1;have e1:c.args = #[x,x2]:=by cases hcc:c.args;simp_all
     have e2:c.argTypes = #[s,yt]:=by cases hcc:c.argTypes;simp_all
     obtain ⟨V,w',h5,h6,h7⟩:=D91 (P:=P) (yt:=yt) (ty:=type) hi he h1.1 h1.2 (D6 h3 hs) (D6 h4 hs) hp;refine nC (s:=Builtin.copy_ #[s,yt] type #[a.eval x,a.eval x2]) ?_ ⟨V,w',μ,h5,Mu.le_refl _,h6,h7,Keeps.refl _ _ _ _⟩;simp [execOp,resolve,hca,e1,e2,invoke,builtin]
    ·cases h1
   ·cases hc
  ·cases hc
end
def kX (P : Program) (f : FuncId) : Prop := ∃ fn : Func, P.funcs[f]? = some fn ∧ (fn.name == "runtime.NumGoroutine") = false ∧ fn.body.isNone = false
def CallOk (P:Program) (f:FuncId) (args:List Val) (h:B5) (v:Val) (h':B5):Prop :=
 ∀ (Γ:Ctx) (μ:Mu) (w:World) (V:List Value),Inv Γ μ h w->All2 (RV μ) args V ->
  Calls P f V.toArray w λe w'=>∃ V' μ',e=.returned V' /\ μ.le μ'/\RV μ' v V'/\Inv Γ μ' h' w'/\∀ id,id<h.length -> μ' id = μ id
def gP (P:Program) (E:O3):Prop:=∀ f args h v h',E f args h=A4 (v,h')->kX P f/\CallOk P f args h v h'/\h.length<=h'.length
def D1I (o:Op):AOp->Bool
 | .call f args=>(match o with
   | .call c=>(match c.callee with | .value (.func g)=>decide (f=g)&&A3S c.args.toList args | _=>A6)
   | _=>A6)
 | .callV x args=>(match o with
   | .call c=>(match c.callee with | .value y=>F0 y x&&A3S c.args.toList args | _=>A6)
   | _=>A6)
 | _=>A6
def D3n (ops:Array Oper):Option (Nat × Bool)->Option (Nat × Bool)->Bool
 | none,none=>A5
 | some q,A4 p=>decide (q.2=p.2)&&decide ((ops[q.1]?).bind (·.dst)=A4 p.1)
 | _,_=>A6
def A0w (N:Nat) (d:Option Nat):Bool:=match d with | some d=>decide (d<N) | none=>A5
def bF (P:Program) (N:Nat) (ops:Array Oper) (o:Oper) (ao:AOper):Bool :=
 decide (o.dst=ao.dst)&&A0w N o.dst&&D3n ops o.guard ao.guard&&(E0K P o.op ao.op||D1I o.op ao.op)
section
variable {P:Program} {R:Type}
def D23 (E:O3) (q:Bool) (hr:B5) (n0:Nat) (slot:Option Nat) (o:AOp) (e:Env) (h:B5) (k:Val->B5->Option R) :
  aop E q hr n0 slot o e h k=(aop E q hr n0 slot o e h λv h=>A4 (v,h)).bind λp=>k p.1 p.2:=by
 cases o<;>simp only [aop,E54,Option.bind_assoc]
def B7Z {f:FuncId} (hf:kX P f) (args:Array Value) (w:World):(callFunc f args).run P w=.ok (.enter f args) w:=by
 obtain ⟨fn,h1,h2,h3⟩:=hf;unfold callFunc;simp only [Sem.run_bind,run_program,Result.andThen_ok,h1,h2,h3,Bool.false_eq_true,if_false];rfl
def B52 {μ:Mu}:∀ {l:List (Nat × Nat)} {cs:List Value},All2 (RPtr μ) l cs->All2 (RV μ) (C4f l) cs
 | [],[],_=>trivial
 | q::l,c::cs,⟨h1,h2⟩=>⟨h1,B52 h2⟩
 | [],_::_,h=>h.elim
 | _::_,[],h=>h.elim
def D6a {Γ:Ctx} {μ:Mu} {o:Oper} {a:Act} {w:World} {g:FuncId} {args:List Val} {h h':B5} {v:Val} {c:Call} {y:Operand} {cs:List Value}
  (ho:o.op=.call c) (D5b:c.callee=.value y) (hy:a.eval y=.func (.func g) #[] cs.toArray) (hg:kX P g) (hk:CallOk P g args h v h')
  (hargs:All2 (RV μ) args (c.args.toList.map a.eval++cs)) (hi:Inv Γ μ h w) {next:Act->World->Prop} {Q:Exit->Act->World->Prop}
  {n0:Nat} {slot:Option Nat} (hn:∀ V w' μ',μ.le μ'->RV μ' v V->Inv Γ μ' h' w'->Keeps μ μ' h n0 slot->next (a.put o.dst V) w'):o.wp P a w next Q:=by
 have A9C:(execOp a.eval o).run P w=.ok (.enter g (c.args.toList.map a.eval++cs).toArray) w:=by
  have e:(#[]++c.args.map a.eval++cs.toArray:Array Value)=(c.args.toList.map a.eval++cs).toArray:=by apply Array.ext';simp
  simp only [execOp,ho,resolve,D5b,hy,Deferred.ofValue,pure_bind,invoke];rw [e];exact B7Z hg _ _
 unfold Oper.wp;rw [A9C,Oper.upon_enter];refine (hk Γ μ w _ hi hargs).mono ?_;rintro e w' ⟨V,μ',rfl,h1,h2,h3,h4⟩;exact hn V w' μ' h1 h2 h3 λid hid _=>h4 id hid
def D8p {N:Nat} {ops:Array Oper} {E:O3} (hE:gP P E) {q:Bool} {o:Oper} {ao:AOp} {e:Env} {h hr:B5} {v:Val} {h':B5} {n0:Nat} {slot:Option Nat} {Γ:Ctx} {μ:Mu} {a:Act} {w:World}
  (hc:(E0K P o.op ao||D1I o.op ao)=A5) (hs:SEnv μ e a) (hi:Inv Γ μ h w) (hrd:∀ id r,rd hr id=A4 r->rd h id=A4 r) (oL:wV μ h n0 slot)
  (D8:aop E q hr n0 slot ao e h (λv h=>A4 (v,h))=A4 (v,h')) {next:Act->World->Prop} {Q:Exit->Act->World->Prop}
  (hn:∀ V w' μ',μ.le μ'->RV μ' v V->Inv Γ μ' h' w'->Keeps μ μ' h n0 slot->next (a.put o.dst V) w'):o.wp P a w next Q:=by
 rw [E6S] at hc;rcases hc with hc | hc
 ·obtain ⟨V,w',μ',h1,h2,h3,h4,h5⟩:=E3o hc hs hi hrd oL D8;unfold Oper.wp;rcases h1 with h1 | ⟨h1,rfl⟩
  ·rw [h1];exact hn V w' μ' h2 h3 h4 h5
  ·rw [h1];exact hn undef w' μ' h2 h3 h4 h5
 ·cases ao<;>simp only [D1I] at hc
  case call f args =>
   simp only [aop,E5Q,E5W] at D8;obtain ⟨p,hp,hpe⟩:=D8;simp only [E50] at hpe;obtain ⟨rfl,rfl⟩:=hpe;have hE1:E f (args.map e.ev) h=A4 (p.1,p.2):=by
    cases q with
    | false=>simpa using hp
    | true =>
     simp only [cond_true,quiet,E5Q] at hp;obtain ⟨p',h1,h2⟩:=hp;split at h2
     ·cases h2;exact h1
     ·cases h2
   obtain ⟨hg,hk,_⟩:=hE _ _ _ _ _ hE1;split at hc
   ·rename_i c ho;split at hc
    ·rename_i g D5b;simp only [E5S,decide_eq_true_eq] at hc;obtain ⟨rfl,hargs⟩:=hc;exact D6a ho D5b (cs:=[]) rfl hg hk (by rw [E6m];exact A72 hs hargs) hi hn
    ·cases hc
   ·cases hc
  case callV x args =>
   simp only [aop,E5Q,E5W] at D8;obtain ⟨p,hp,hpe⟩:=D8;simp only [E50] at hpe;obtain ⟨rfl,rfl⟩:=hpe;have hE0:A3R E (e.ev x) (args.map e.ev) h=A4 (p.1,p.2):=by
    cases q with
    | false=>simpa using hp
    | true =>
     simp only [cond_true,quiet,E5Q] at hp;obtain ⟨p',h1,h2⟩:=hp;split at h2
     ·cases h2;exact h1
     ·cases h2
   unfold A3R at hE0;split at hE0
   ·rename_i g caps zA;obtain ⟨hg,hk,_⟩:=hE _ _ _ _ _ hE0;split at hc
    ·rename_i c ho;split at hc
     ·rename_i y D5b;simp only [E5S] at hc;have hy:RV μ _ _:=D6 hc.1 hs;rw [zA] at hy;obtain ⟨cs,h1,h2⟩:=hy;exact D6a ho D5b h1 hg hk ((A72 hs hc.2).append (B52 h2)) hi hn
     ·cases hc
    ·cases hc
   ·cases hE0
  all_goals cases hc
def D5V {ops:Array Oper} {j g:Nat} {a:Act} {e:Env} {μ:Mu} {x:Bool} (hj:(ops[j]?).bind (·.dst)=A4 g) (hs:SEnv μ e a) (he:e.get g=.c (.b x)):yielded ops a.tmps j=A4 x:=by
 have h1:a.tmps.getD g undef=.bool x:=by have:=hs g;rw [he] at this;exact this
 unfold yielded;rw [hj];simp only [E54];have:a.tmps[g]?=A4 (.bool x):=by
  simp only [Array.getD_eq_getD_getElem?] at h1;cases hh:a.tmps[g]? with
  | none=>rw [hh] at h1;simp [undef] at h1
  | some y=>rw [hh] at h1;simpa using h1
 rw [this]
def D5U {ops:Array Oper} {j g:Nat} {a:Act} {e:Env} {μ:Mu} (hj:(ops[j]?).bind (·.dst)=A4 g) (hs:SEnv μ e a) (he:e.get g=.no):yielded ops a.tmps j=A7:=by
 have h1:a.tmps.getD g undef=undef:=by have:=hs g;rw [he] at this;exact this
 unfold yielded;rw [hj];simp only [E54];simp only [Array.getD_eq_getD_getElem?] at h1;cases hh:a.tmps[g]? with
 | none=>rfl
 | some y=>rw [hh] at h1;simp [undef] at h1;subst h1;rfl
def D8q {N:Nat} {ops:Array Oper} {E:O3} (hE:gP P E) {q:Bool} {o:Oper} {ao:AOper} {e:Env} {h hr:B5} {n0:Nat} {k:Val->B5->Option R} {r:R}
  (hc:bF P N ops o ao=A5) (D8:Y7 E q hr n0 ao e h k=A4 r) :
  ∃ v h',k v h'=A4 r/\Y7 E q hr n0 ao e h (λv h=>A4 (v,h))=A4 (v,h'):=by
 unfold Y7 at D8 ⊢;cases hg:ao.guard with
 | none =>
  simp only [hg] at D8 ⊢;rw [D23] at D8;simp only [E5Q] at D8;obtain ⟨p,hp,hk⟩:=D8;exact ⟨p.1,p.2,hk,hp⟩
 | some g =>
  simp only [hg] at D8 ⊢;simp only [E5Q] at D8;obtain ⟨p,hp,hk⟩:=D8;exact ⟨p.1,p.2,hk,by rw [hp];rfl⟩
def A5V {N:Nat} {ops:Array Oper} {E:O3} (hE:gP P E) {q:Bool} {o:Oper} {ao:AOper} {e:Env} {h hr:B5} {n0:Nat} {v:Val} {h':B5} {Γ:Ctx} {μ:Mu} {a:Act} {w:World}
  (hc:bF P N ops o ao=A5) (D8:Y7 E q hr n0 ao e h (λv h=>A4 (v,h))=A4 (v,h')) (hs:SEnv μ e a) (hi:Inv Γ μ h w) (hrd:∀ id r,rd hr id=A4 r->rd h id=A4 r) (oL:wV μ h n0 ao.slot)
  {next:Act->World->Prop} {Q:Exit->Act->World->Prop} (hn:∀ V w' μ',μ.le μ'->RV μ' v V->Inv Γ μ' h' w'->Keeps μ μ' h n0 ao.slot->next (a.put o.dst V) w') :
  if Region.wanted o (yielded ops a.tmps) then o.wp P a w next Q\/(o.asks P a w/\LetsOut Q) else next (a.put o.dst undef) w:=by
 simp only [bF,E5S] at hc;obtain ⟨⟨⟨_,_⟩,hg⟩,hop⟩:=hc;unfold Y7 at D8;unfold D3n at hg;cases hag:ao.guard with
 | none =>
  simp only [hag] at D8 hg;cases hog:o.guard with
  | some _=>simp [hog] at hg
  | none =>
   have hw:Region.wanted o (yielded ops a.tmps)=A5:=by simp [Region.wanted,hog]
   rw [if_pos hw];exact .inl (D8p (N:=N) (ops:=ops) hE hop hs hi hrd oL D8 hn)
 | some g =>
  simp only [hag] at D8 hg;cases hog:o.guard with
  | none=>simp [hog] at hg
  | some q2 =>
   simp only [hog,E5S,decide_eq_true_eq] at hg;simp only [E5Q] at D8;obtain ⟨p,hp,hpe⟩:=D8;simp only [E5W,E50] at hpe;obtain ⟨rfl,rfl⟩:=hpe;unfold gd at hp;split at hp
   ·rename_i x zA;have hy:=D5V hg.2 hs zA;have hw:Region.wanted o (yielded ops a.tmps)=(x==g.2):=by
     simp [Region.wanted,hog,hy,hg.1]
    rw [hw];cases hx:(x==g.2) with
    | true =>
     rw [hx] at hp;rw [if_pos rfl];exact .inl (D8p (N:=N) (ops:=ops) hE hop hs hi hrd oL hp hn)
    | false =>
     rw [hx] at hp;simp only [cond_false,E5W] at hp;rw [if_neg (by simp)];cases hp;exact hn undef w μ (Mu.le_refl _) rfl hi (Keeps.refl _ _ _ _)
   ·rename_i zA;have hy:=D5U hg.2 hs zA;have hw:Region.wanted o (yielded ops a.tmps)=A6:=by
     simp [Region.wanted,hog,hy,hg.1]
    rw [hw,if_neg (by simp)];cases hp;exact hn undef w μ (Mu.le_refl _) rfl hi (Keeps.refl _ _ _ _)
   ·cases hp
end
def AExit.conv:AExit->Exit
 | .normal=>.normal
 | .exit id=>.exit id
 | .ret=>.ret
def B2Q (P:Program) (N L:Nat) (W:(Exit->Act->World->Prop)->Act->World->Prop) (e:Env) (h:B5) (x:AExit) (e':Env) (h':B5):Prop :=
 ∀ (Γ:Ctx) (μ:Mu) (a:Act) (w:World),SEnv μ e a->Inv Γ μ h w->N<=a.tmps.size->a.defers = Γ.ds->∀ Q:Exit->Act->World->Prop,
  (∀ μ' a' w',μ.le μ'->(∀ id,id<L -> μ' id = μ id)->SEnv μ' e' a'->Inv Γ μ' h' w'->N<=a'.tmps.size->a'.defers = Γ.ds->Q x.conv a' w')->W Q a w
def Y3:AOp->Bool
 | .alloc _ | .box _ | .nilrow _ | .buildSl .. | .s2b _ | .mkSl .. | .mkMap=>A5
 | _=>A6
def Z4:AOp->Bool
 | .call .. | .callV ..=>A5
 | _=>A6
def A8t:AOp->Bool
 | .store1 .. | .storeN .. | .app .. | .appZ .. | .copy .. | .mput .. | .ment .. | .mset ..=>A6
 | _=>A5
def A2C:AOp->Bool
 | .mark _=>A5
 | .b2sN A7 _=>A5
 | _=>A6
def B8Q:AOp->Option Nat
 | .b2sN own _=>own
 | _=>A7
def AOp.opds:AOp->List Opd
 | .mv x | .box x | .load1 x | .loadN _ x | .eqN _ _ x | .nilc x | .un _ x | .conv _ x | .convS x | .s2b x | .b2s x | .b2sN _ x | .mark x | .fAddr x _ | .fld1 x _ | .fldN x _ _ | .ext x _ | .len x | .lenS x=>[x]
 | .nilrow _ | .alloc _ | .mkMap=>[]
 | .pick c a b=>[c,a,b]
 | .look _ _ _ a x | .ment _ _ a x=>[a,x]
 | .mput _ a x y | .mset a x y=>[a,x,y]
 | .build _ ps | .buildSl _ _ _ ps=>ps.map (·.2.2)
 | .store1 a x | .storeN _ a x | .bin _ a x | .eqA _ _ a x | .eqB _ a x | .mkSl _ _ a x | .iAddrA _ _ a x | .iAddrL _ a x | .idxA1 _ a x | .idxAN _ _ a x | .idxS a x | .app _ a x | .appZ _ _ a x | .max a x | .min a x | .copy _ a x=>[a,x]
 | .mkf _ cs=>cs
 | .slS x lo hi | .slL _ x lo hi | .slA _ _ x lo hi=>x::(lo.toList++hi.toList)
 | .call _ args=>args
 | .callV f args=>f::args
def E5n:Opd->Option Nat
 | .t n=>A4 n
 | _=>A7
def AOper.reads (o:AOper):List Nat:=o.op.opds.filterMap E5n++(o.guard.toList.map (·.1))
def aH (o:Oper):List Nat:=(o.after.toList.filter (Region.binds .any)).map (·.on)
def D16 (acc:List Nat) (o:Oper):Nat:=(aH o).foldl (λs p=>s ||| (2 ^ p) ||| acc.getD p 0) 0
def closure:List Oper->List Nat->List Nat
 | [],acc=>acc
 | o::r,acc=>closure r (acc++[D16 acc o])
def R5 (ops:Array Oper):List Nat:=closure ops.toList []
def D0x (g:Nat->Nat) (b:Nat):∀ (ds:List Nat) (s:Nat),(ds.foldl (λs p=>s ||| (2 ^ p) ||| g p) s).testBit b=A5->s.testBit b=A5\/∃ p∈ds,b=p\/(g p).testBit b=A5
 | [],s,h=>.inl h
 | d::ds,s,h=>by
  rcases D0x g b ds _ h with h | ⟨p,hp,h⟩
  ·rw [Nat.testBit_or,Nat.testBit_or,Nat.testBit_two_pow] at h;simp only [E6S,decide_eq_true_eq] at h;rcases h with (h | h) | h
   ·exact .inl h
   ·exact .inr ⟨d,by simp,.inl h.symm⟩
   ·exact .inr ⟨d,by simp,.inr h⟩
  ·exact .inr ⟨p,by simp [hp],h⟩
def A75:∀ (os:List Oper) (acc:List Nat) (i:Nat),i<acc.length->(closure os acc).getD i 0=acc.getD i 0
 | [],acc,i,h=>rfl
 | o::r,acc,i,h=>by
  rw [closure,A75 r _ i (by simp;omega)];simp [List.getD,E6t h]
def C6C:∀ (os:List Oper) (acc:List Nat) (k:Nat) (o:Oper),os[k]?=A4 o->∃ acc',acc'.length=acc.length+k/\(closure os acc).getD (acc.length+k) 0=D16 acc' o/\∀ i,i<acc'.length->(closure os acc).getD i 0=acc'.getD i 0
 | [],acc,k,o,h=>by simp at h
 | x::r,acc,0,o,h=>by
  simp at h;subst h;refine ⟨acc,rfl,?_,λi hi=>?_⟩
  ·rw [closure,A75 r _ _ (by simp)];simp [List.getD]
  ·rw [closure,A75 r _ i (by simp;omega)];simp [List.getD,E6t hi]
 | x::r,acc,k+1,o,h=>by
  simp at h;obtain ⟨acc',h1,h2,h3⟩:=C6C r (acc++[D16 acc x]) k o h;refine ⟨acc',by simp at h1;omega,?_,λi hi=>by rw [closure];exact h3 i hi⟩;rw [closure,<-h2]
  congr 1;simp;omega
def wX {ops:Array Oper} {done:Nat->Bool} (V7:∀ i o,ops[i]?=A4 o->∀ p∈aH o,p<i)
  (dP:∀ i o,ops[i]?=A4 o->done i=A5->∀ p∈aH o,done p=A5):∀ (i:Nat) (o:Oper),ops[i]?=A4 o->(∀ p∈aH o,done p=A5)->∀ b,((R5 ops).getD i 0).testBit b=A5->done b=A5:=by
 intro i
 induction i using Nat.strongRecOn with
 | _ i ih =>
  intro o ho hd b hb;obtain ⟨acc,h1,h2,h3⟩:=C6C ops.toList [] i o (by simpa using ho);simp only [E6h,E6e] at h1 h2;rw [R5,h2] at hb;unfold D16 at hb;rcases D0x _ b _ _ hb with hb | ⟨p,hp,rfl | hb⟩
  ·simp at hb
  ·exact hd _ hp
  ·have hpi:=V7 i o ho p hp;have hps:p<ops.size:=by have:=(Array.getElem?_eq_some_iff.1 ho).1;omega
   have hop:ops[p]?=A4 ops[p]:=by simp [hps]
   refine ih p hpi ops[p] hop (dP p _ hop (hd p hp)) b ?_;rw [R5,h3 p (by omega)];exact hb
section
variable {R:Type}
def D51 {E:O3} {q:Bool} {hr:B5} {n0:Nat} {slot:Option Nat} {o:AOp} {e e':Env} {h:B5} {k:Val->B5->Option R} (he:∀ x∈o.opds,e.ev x=e'.ev x):aop E q hr n0 slot o e h k=aop E q hr n0 slot o e' h k:=by
 have parts:∀ ps:List (Nat × Nat × Opd),(∀ x∈ps.map (·.2.2),e.ev x=e'.ev x)->(ps.map λp=>(p.1,p.2.1,e.ev p.2.2))=ps.map λp=>(p.1,p.2.1,e'.ev p.2.2):=λps hp =>
  List.map_congr_left λp hm=>by rw [hp p.2.2 (List.mem_map.2 ⟨p,hm,rfl⟩)]
 have all:∀ l:List Opd,(∀ x∈l,e.ev x=e'.ev x)->l.map e.ev=l.map e'.ev:=λl hl=>List.map_congr_left hl
 have opt:∀ l:Option Opd,(∀ x∈l.toList,e.ev x=e'.ev x)->l.map e.ev=l.map e'.ev:=λl hl=>by cases l with
  | none=>rfl
  | some x=>simp [hl x (by simp)]
 cases o<;>simp only [AOp.opds] at he<;>simp only [aop]
 case build z ps=>rw [parts ps he]
 case buildSl a b z ps=>rw [parts ps he]
 case mkf f cs=>rw [all cs he]
 case call f args=>rw [all args he]
 case callV f args=>rw [he f (by simp),all args λx hx=>he x (by simp [hx])]
 case slS x lo hi=>rw [he x (by simp),opt lo λy hy=>he y (by simp [hy]),opt hi λy hy=>he y (by simp [hy])]
 case slL sz x lo hi=>rw [he x (by simp),opt lo λy hy=>he y (by simp [hy]),opt hi λy hy=>he y (by simp [hy])]
 case slA n sz x lo hi=>rw [he x (by simp),opt lo λy hy=>he y (by simp [hy]),opt hi λy hy=>he y (by simp [hy])]
 all_goals (repeat (rw [he _ (by simp)]))
def C0C {E:O3} {q:Bool} {hr:B5} {n0:Nat} {o:AOper} {e e':Env} {h:B5} {k:Val->B5->Option R} (he:∀ t∈o.reads,e.get t=e'.get t):Y7 E q hr n0 o e h k=Y7 E q hr n0 o e' h k:=by
 have h1:∀ x∈o.op.opds,e.ev x=e'.ev x:=by
  intro x hx;cases x with
  | v x=>rfl
  | t n=>exact he n (List.mem_append_left _ (List.mem_filterMap.2 ⟨.t n,hx,rfl⟩))
 unfold Y7;cases hg:o.guard with
 | none=>exact D51 h1
 | some g =>
  have h2:e.get g.1=e'.get g.1:=he g.1 (List.mem_append_right _ (by simp [hg]));simp only;rw [h2,D51 h1]
def C6j (E:O3) (q:Bool) (hr:B5) (n0:Nat) (o:AOper) (e:Env) (h:B5) (k:Val->B5->Option R):Y7 E q hr n0 o e h k=(Y7 E q hr n0 o e h λv h=>A4 (v,h)).bind λp=>k p.1 p.2:=by
 unfold Y7;cases o.guard with
 | none=>exact D23 ..
 | some g=>simp only [Option.bind_assoc,E54]
def D0a {E:O3} {q:Bool} {hr:B5} {n0:Nat} {slot:Option Nat} {o:AOp} {e:Env} {h h':B5} {v:Val} (hq:A8t o=A5) (hm:A2C o=A6) (how:B8Q o=A7) (hc:Z4 o=A6) (hs:Y3 o=A6)
  (D8:aop E q hr n0 slot o e h (λv h=>A4 (v,h))=A4 (v,h')):h'=h/\∀ h2,aop E q hr n0 slot o e h2 (λv h=>A4 (v,h))=A4 (v,h2):=by
 have hnb:∀ own x,o≠.b2sN own x:=by
  intro own x he;subst he;simp only [B8Q] at how;subst how;simp [A2C] at hm
 cases o<;>simp [A8t,A2C,Z4,Y3] at hq hm hc hs<;>simp only [aop] at D8 ⊢
 case b2sN own x=>exact absurd rfl (hnb own x)
 case mv=>cases D8;exact ⟨rfl,λ_=>rfl⟩
 all_goals
  simp only [E5Q,E5W,E50] at D8;obtain ⟨_,h1,rfl,rfl⟩:=D8;exact ⟨rfl,λh2=>by rw [h1];rfl⟩
def D2P {h h2:B5} {x v:Val} (h1:B5P h x=A4 v) (A8j:∀ id off len sz r,x=.c (.sl id off len sz)->rd h id=A4 r->rd h2 id=A4 r):B5P h2 x=A4 v:=by
 unfold B5P at h1 ⊢;split at h1
 ·rename_i id off len sz;split at h1
  ·rename_i hsz;rw [if_pos hsz];rw [E6d] at h1 ⊢;obtain ⟨s,h3,h4⟩:=h1;rw [E5Q] at h3;obtain ⟨cs,h5,h6⟩:=h3;refine ⟨s,?_,h4⟩;rw [E5Q];refine ⟨cs,?_,h6⟩;unfold iW at h5 ⊢;simp only [E5Q] at h5 ⊢;obtain ⟨r,h7,h8⟩:=h5;exact ⟨r,A8j _ _ _ _ r rfl h7,h8⟩
  ·cases h1
 ·exact h1
 ·cases h1
def D53 {E:O3} {q:Bool} {hr:B5} {n0 j:Nat} {slot:Option Nat} {o:AOp} {e:Env} {h h':B5} {v:Val} (ho:B8Q o=A4 j)
  (D8:aop E q hr n0 slot o e h (λv h=>A4 (v,h))=A4 (v,h')):h'=h/\∀ h2:B5,(∀ x,rd h (n0+j)=A4 x->rd h2 (n0+j)=A4 x)->aop E q hr n0 slot o e h2 (λv h=>A4 (v,h))=A4 (v,h2):=by
 obtain ⟨x,rfl⟩:∃ x,o=.b2sN (A4 j) x:=by
  unfold B8Q at ho;split at ho
  ·subst ho;exact ⟨_,rfl⟩
  ·cases ho
 simp only [aop,E5Q,E5W,E50] at D8;obtain ⟨v',h1,rfl,rfl⟩:=D8;refine ⟨rfl,λh2 A8j=>?_⟩;have:C1X h2 n0 (A4 j) (e.ev x)=A4 v':=by
  unfold C1X at h1 ⊢;simp only at h1 ⊢;split at h1
  ·rename_i id off len sz zA;split at h1
   ·rename_i hid;rw [if_pos hid];refine D2P h1 λbT _ _ _ r hx hr=>?_
    cases hx;rw [hid] at hr ⊢;exact A8j r hr
   ·cases h1
  ·cases h1
 simp only [aop,this];rfl
def D24 {E:O3} {q:Bool} {hr:B5} {n0:Nat} {slot:Option Nat} {o:AOp} {e:Env} {h h':B5} {v:Val} (hm:A2C o=A5)
  (D8:aop E q hr n0 slot o e h (λv h=>A4 (v,h))=A4 (v,h')):h'=h/\∀ h2:B5,(∀ id x,rd h id=A4 x->rd h2 id=A4 x)->aop E q hr n0 slot o e h2 (λv h=>A4 (v,h))=A4 (v,h2):=by
 have oL:∀ (h2:B5) (x:Val) (v:Val),(∀ id x,rd h id=A4 x->rd h2 id=A4 x)->B5P h x=A4 v->B5P h2 x=A4 v:=λh2 x v A8j h1=>D2P h1 λid _ _ _ r _ hr=>A8j id r hr
 by_cases hb:∃ x,o=.b2sN A7 x
 ·obtain ⟨x,rfl⟩:=hb;simp only [aop,C1X,E5Q,E5W,E50] at D8;obtain ⟨v',h1,rfl,rfl⟩:=D8;exact ⟨rfl,λh2 A8j=>by simp only [aop,C1X,oL h2 _ _ A8j h1];rfl⟩
 obtain ⟨x,rfl⟩:∃ x,o=.mark x:=by
  unfold A2C at hm;split at hm
  ·exact ⟨_,rfl⟩
  ·exact absurd ⟨_,rfl⟩ hb
  ·cases hm
 simp only [aop,E5Q,E5W,E50] at D8;obtain ⟨v',h1,rfl,rfl⟩:=D8;refine ⟨rfl,λh2 A8j=>?_⟩;have:A0J h2 (e.ev x)=A4 v':=by
  unfold A0J at h1 ⊢;split at h1
  ·simp only [E5Q] at h1 ⊢;obtain ⟨r,hr,h3⟩:=h1;exact ⟨r,A8j _ _ hr,h3⟩
  ·cases h1
 simp only [aop,this];rfl
def D25 {E:O3} {q:Bool} {hr:B5} {n0 j:Nat} {o:AOp} {e:Env} {h h':B5} {v:Val} (hs:Y3 o=A5)
  (D8:aop E q hr n0 (A4 j) o e h (λv h=>A4 (v,h))=A4 (v,h')):∃ r:Row,h'=h.set (n0+j) (A4 r)/\∀ h2:B5,aop E q hr n0 (A4 j) o e h2 (λv h=>A4 (v,h))=A4 (v,h2.set (n0+j) (A4 r)):=by
 cases o<;>simp [Y3] at hs<;>simp only [aop,dZ] at D8 ⊢
 case alloc z=>cases D8;exact ⟨_,rfl,λ_=>rfl⟩
 case nilrow z=>cases D8;exact ⟨_,rfl,λ_=>rfl⟩
 case mkMap=>cases D8;exact ⟨_,rfl,λ_=>rfl⟩
 all_goals
  simp only [E5Q,E5W,E50] at D8;obtain ⟨_,h1,rfl,rfl⟩:=D8;exact ⟨_,rfl,λh2=>by rw [h1];rfl⟩
def Grows (h h':B5):Prop:=h <+: h'/\∀ id x,h.length<=id->rd h' id=A4 x->x.own=A5
def Grows.refl (h:B5):Grows h h:=⟨List.prefix_refl _,λid x hid hx=>by have:=C8 hx;omega⟩
def B6r {h:B5} {r:Option (Val × B5)} {p:Val × B5} (hq:quiet h r=A4 p):r=A4 p/\Grows h p.2:=by
 simp only [quiet,E5Q] at hq;obtain ⟨p',h1,h2⟩:=hq;split at h2
 ·cases h2;exact ⟨h1,‹_›⟩
 ·cases h2
def quiet_of {h:B5} {p:Val × B5} (hg:Grows h p.2):quiet h (A4 p)=A4 p:=by
 unfold quiet;simp only [E54];exact if_pos hg
end
def B28 {h h':B5} (hp:h <+: h') {id:Nat} (hl:id<h.length):rd h' id=rd h id:=by
 obtain ⟨t,rfl⟩:=hp;exact E1 hl
def B2m {hD h h':B5} (hl:hD.length=h.length) (id:Nat):rd (hD++h'.drop h.length) id=if id<h.length then rd hD id else rd h' id:=by
 split
 ·rw [E1 (by omega)]
 ·unfold rd;rw [E57 (by omega),E6J,hl]
  congr 2;omega
open Classical in
def CallOk.frame {P:Program} {f:FuncId} {args:List Val} {h h' hD:B5} {v:Val} (hk:CallOk P f args h v h') (hg:Grows h h') (hl:hD.length=h.length) (A8j:∀ id x,rd h id=A4 x->rd hD id=A4 x) :
  CallOk P f args hD v (hD++h'.drop h.length):=by
 intro Γ μ w V hi hargs
 let Γ':Ctx:={ Γ with F:=λb=>match Γ.F b with | some o=>A4 o | none=>if (∃ id x n,rd h id=A7/\rd hD id=A4 x /\ μ id=A4 (b,n)) then w.heap[b]? else A7 }
 have hpl:h.length<=h'.length:=hg.1.length_le;have hΓ:∀ b,Γ'.F b=A7 -> Γ.F b=A7:=by
  intro b hb;cases hF:Γ.F b with
  | none=>rfl
  | some o=>simp only [Γ',hF] at hb;cases hb
 have hex:∀ id x b n,rd h id=A7->rd hD id=A4 x -> μ id=A4 (b,n)->∃ o,Γ'.F b=A4 o/\w.heap[b]?=A4 o:=by
  intro id x b n h1 h2 h3;obtain ⟨ob,h4⟩:=(hi.rows id x h2).there h3;cases hF:Γ.F b with
  | some o=>exact ⟨o,by simp only [Γ',hF],hi.ctx.block b o hF⟩
  | none=>exact ⟨_,by simp only [Γ',hF];rw [if_pos ⟨id,x,n,h1,h2,h3⟩];exact h4,h4⟩
 have hinv:Inv Γ' μ h w:=by
  refine ⟨λid r hr=>hi.rows id r (A8j id r hr),λid bT r r' x x' hr hr'=>hi.sep id bT r r' x x' (A8j _ _ hr) (A8j _ _ hr'),λid r x hr nI hx=>?_,λid hid=>hi.dom id (by omega),⟨hi.ctx.os,hi.ctx.tape,hi.ctx.output,λb o ho=>?_⟩⟩
  ·have h0:=hi.own id r x (A8j _ _ hr) nI hx;simp only [Γ',h0];rw [if_neg];rintro ⟨bT,x',n,h1,h2,h3⟩;have T1:id≠bT:=by intro e;subst e;rw [hr] at h1;cases h1
   exact hi.sep id bT r x' x (x.1,n) (A8j _ _ hr) h2 nI T1 hx h3 rfl
  ·cases hF:Γ.F b with
   | some o'=>simp only [Γ',hF] at ho;cases ho;exact hi.ctx.block b _ hF
   | none =>
    simp only [Γ',hF] at ho;split at ho
    ·exact ho
    ·cases ho
 refine (hk Γ' μ w V hinv hargs).mono ?_;rintro e w' ⟨V',μ',rfl,dF,hv,hi',cQ⟩;refine ⟨V',μ',rfl,dF,hv,?_,λid hid=>cQ id (by omega)⟩;have uU:∀ id x,rd (hD++h'.drop h.length) id=A4 x->rd h' id=A4 x\/(id<h.length/\rd h id=A7/\rd hD id=A4 x):=by
  intro id x hx;rw [B2m hl] at hx;split at hx
  ·rename_i V7;cases hh:rd h id with
   | none=>exact .inr ⟨V7,rfl,hx⟩
   | some y =>
    have:=A8j id y hh;rw [hx] at this;cases this;exact .inl (by rw [B28 hg.1 V7];exact hh)
  ·exact .inl hx
 have hold:∀ id,id<h.length -> μ' id = μ id:=cQ;have E2D:∀ id x y,id<h.length->rd h id=A7->rd hD id=A4 x -> μ' id=A4 y->∃ o,Γ'.F y.1=A4 o/\w.heap[y.1]?=A4 o:=by
  intro id x y h1 h2 h3 h4;rw [hold id h1] at h4;exact hex id x y.1 y.2 h2 h3 h4
 refine ⟨λid r hr=>?_,λid bT r r' x x' hr hr' nI T1 hx hx'=>?_,λid r x hr nI hx=>?_,λid hid=>?_,⟨hi'.ctx.os,hi'.ctx.tape,hi'.ctx.output,λb o ho=>hi'.ctx.block b o (by simp only [Γ',ho])⟩⟩
 ·rcases uU id r hr with h1 | ⟨h1,h2,h3⟩
  ·exact hi'.rows id r h1
  ·refine (hi.rows id r h3).mono dF (hold id h1) λy hy=>?_
   obtain ⟨o,h4,h5⟩:=E2D id r y h1 h2 h3 (by rw [hold id h1];exact hy);rw [h5];exact hi'.ctx.block _ o h4
 ·rcases uU id r hr with h1 | ⟨h1,h2,h3⟩
  ·rcases uU bT r' hr' with h4 | ⟨h4,h5,h6⟩
   ·exact hi'.sep id bT r r' x x' h1 h4 nI T1 hx hx'
   ·have h7:=hi'.own id r x h1 nI hx;obtain ⟨o,h8,_⟩:=E2D bT r' x' h4 h5 h6 hx';intro e;rw [e,h8] at h7;cases h7
  ·rcases uU bT r' hr' with h4 | ⟨h4,h5,h6⟩
   ·obtain ⟨o,h8,_⟩:=E2D id r x h1 h2 h3 hx;by_cases V7:bT<h.length
    ·rw [B28 hg.1 V7] at h4;rw [hold id h1] at hx;rw [hold bT V7] at hx';exact hi.sep id bT r r' x x' h3 (A8j _ _ h4) nI T1 hx hx'
    ·have h9:=hi'.own bT r' x' h4 (hg.2 bT r' (by omega) h4) hx';intro e;rw [<-e,h8] at h9;cases h9
   ·rw [hold id h1] at hx;rw [hold bT h4] at hx';exact hi.sep id bT r r' x x' h3 h6 nI T1 hx hx'
 ·rcases uU id r hr with h1 | ⟨h1,h2,h3⟩
  ·exact hΓ _ (hi'.own id r x h1 nI hx)
  ·rw [hold id h1] at hx;exact hi.own id r x h3 nI hx
 ·refine hi'.dom id ?_;simp at hid;omega
def A1i (P:Program) (N:Nat) (ops:Array Oper) (m:Nat) (l r:List AOper):Bool :=
 let all:=l++r
 let cl:=R5 ops
 let ahead (i j:Nat):Bool:=(cl.getD i 0).testBit j
 P.follows .mixedOrders &&
 decide (ops.size=l.length+r.length) &&
 (ops.toList.zip all).all (λp=>bF P N ops p.1 p.2) &&
 (ops.toList.zipIdx).all (λp=>(aH p.1).all (λq=>decide (q<p.2))) &&
 l.all (λo=>A8t o.op&&decide (Y3 o.op=o.slot.isSome)&&(match o.slot with | some j=>decide (j<m) | none=>A5)) &&
 r.all (λo=>decide (o.slot=A7)) &&
 l.zipIdx.all (λp=>l.zipIdx.all λq=>decide (p.2=q.2)||(decide (p.1.dst≠q.1.dst\/p.1.dst=A7)&&decide (p.1.slot≠q.1.slot\/p.1.slot=A7))) &&
 l.zipIdx.all (λp=>l.zipIdx.all λq=>(match q.1.dst with | some d=>!(p.1.reads.contains d)||(ahead p.2 q.2&&decide (q.2<p.2))||(ahead q.2 p.2&&decide (p.2<q.2)) | none=>A5)) &&
 l.zipIdx.all (λp=>l.zipIdx.all λq=>!((Z4 p.1.op||A2C p.1.op)&&decide (q.2<p.2)&&(Z4 q.1.op||Y3 q.1.op))||ahead p.2 q.2) &&
 l.zipIdx.all (λp=>match B8Q p.1.op with | none=>A5 | some j=>l.zipIdx.any λq=>decide (q.1.slot=A4 j)&&ahead p.2 q.2)
def B70 (ops:Array Oper) (a n:Nat):Bool :=
 let cl:=R5 ops
 (E6y a n).all (λi=>(E6p i).all λj=>(cl.getD i 0).testBit j)
structure DrawOk (P:Program) (N:Nat) (ops:Array Oper) (m:Nat) (l r:List AOper):Prop where
 follows:P.follows .mixedOrders=A5
 size:ops.size=l.length+r.length
 oper:∀ (i:Nat) (o:Oper) (ao:AOper),ops[i]?=A4 o->(l++r)[i]?=A4 ao->bF P N ops o ao=A5
 dir:∀ (i:Nat) (o:Oper),ops[i]?=A4 o->∀ p∈aH o,p<i
 quiet:∀ (i:Nat) (ao:AOper),l[i]?=A4 ao->A8t ao.op=A5/\Y3 ao.op=ao.slot.isSome/\∀ j,ao.slot=A4 j->j<m
 rslot:∀ ao∈r,ao.slot=A7
 apart:∀ (i j:Nat) ai aj,l[i]?=A4 ai->l[j]?=A4 aj->i≠j->(∀ d,ai.dst=A4 d->aj.dst≠A4 d)/\(∀ s,ai.slot=A4 s->aj.slot≠A4 s)
 reads:∀ (i j:Nat) ai aj d,l[i]?=A4 ai->l[j]?=A4 aj->aj.dst=A4 d->d∈ai.reads->(((R5 ops).getD i 0).testBit j=A5/\j<i)\/(((R5 ops).getD j 0).testBit i=A5/\i<j)
 calls:∀ (i j:Nat) ai aj,l[i]?=A4 ai->l[j]?=A4 aj->(Z4 ai.op=A5\/A2C ai.op=A5)->j<i->(Z4 aj.op=A5\/Y3 aj.op=A5)->((R5 ops).getD i 0).testBit j=A5
 own:∀ (i:Nat) ai j,l[i]?=A4 ai->B8Q ai.op=A4 j->∃ (k:Nat) (ak:AOper),l[k]?=A4 ak/\ak.slot=A4 j/\((R5 ops).getD i 0).testBit k=A5
def mem_zipIdx {α:Type} {l:List α} {i:Nat} {a:α} (h:l[i]?=A4 a):(a,i)∈l.zipIdx:=by
 rw [List.mem_zipIdx_iff_getElem?];simpa using h
def A71 {P:Program} {N:Nat} {ops:Array Oper} {m:Nat} {l r:List AOper} (hc:A1i P N ops m l r=A5):DrawOk P N ops m l r:=by
 simp only [A1i,E5S,decide_eq_true_eq] at hc;obtain ⟨⟨⟨⟨⟨⟨⟨⟨⟨h1,h2⟩,h3⟩,h4⟩,h5⟩,h6⟩,h7⟩,h8⟩,h9⟩,h10⟩:=hc;simp only [E6M] at h3 h4 h5 h6 h7 h8 h9 h10;refine ⟨h1,h2,?_,?_,?_,?_,?_,?_,?_,?_⟩
 ·intro i o ao ho ha;refine h3 (o,ao) ?_;have:(ops.toList.zip (l++r))[i]?=A4 (o,ao):=by
   rw [List.getElem?_zip_eq_some];exact ⟨by simpa using ho,ha⟩
  exact E6j this
 ·intro i o ho p hp;have:=h4 (o,i) (mem_zipIdx (by simpa using ho));simpa using this p hp
 ·intro i ao ha;have:=h5 ao (E6j ha);simp only [E5S,decide_eq_true_eq] at this;refine ⟨this.1.1,this.1.2,λj hj=>?_⟩;have h:=this.2;rw [hj] at h;simpa using h
 ·intro ao ha;simpa using h6 ao ha
 ·intro i j ai aj hi hj T1;have:=h7 _ (mem_zipIdx hi) _ (mem_zipIdx hj);simp only [E6S,E5S,decide_eq_true_eq] at this;rcases this with this | ⟨ha,hb⟩
  ·exact absurd this T1
  ·refine ⟨λd hd he=>?_,λs hs he=>?_⟩
   ·rcases ha with ha | ha
    ·exact ha (by rw [hd,he])
    ·rw [hd] at ha;cases ha
   ·rcases hb with hb | hb
    ·exact hb (by rw [hs,he])
    ·rw [hs] at hb;cases hb
 ·intro i j ai aj d hi hj hd hr;have:=h8 _ (mem_zipIdx hi) _ (mem_zipIdx hj);simp only [hd,E6S,E6I,E5S,decide_eq_true_eq] at this;rcases this with (this | this) | this
  ·have hc:ai.reads.contains d=A5:=by simpa using hr
   rw [hc] at this;cases this
  ·exact .inl this
  ·exact .inr this
 ·intro i j ai aj hi hj hc V7 hor;have:=h9 _ (mem_zipIdx hi) _ (mem_zipIdx hj);simp only [E6S,E6I] at this;rcases this with this | this
  ·have:((Z4 ai.op||A2C ai.op)&&decide (j<i)&&(Z4 aj.op||Y3 aj.op))=A5:=by
    simp only [E5S,decide_eq_true_eq,E6S];exact ⟨⟨hc,V7⟩,hor⟩
   simp_all
  ·exact this
 ·intro i ai j hi ho;have:=h10 _ (mem_zipIdx hi);simp only [ho,List.any_eq_true,E5S,decide_eq_true_eq] at this;obtain ⟨⟨ak,k⟩,hk,hs,ht⟩:=this;rw [List.mem_zipIdx_iff_getElem?] at hk;exact ⟨k,ak,hk,hs,ht⟩
def C6A {ops:Array Oper} {a n:Nat} (hc:B70 ops a n=A5) (hs:ops.size=a+n):∀ i,a<=i->i<ops.size->∀ j,j<i->((R5 ops).getD i 0).testBit j=A5:=by
 intro i hi V7 j hj;simp only [B70,E6M] at hc;exact hc i (by rw [List.mem_range'_1];omega) j (by simpa using hj)
structure Trace (E:O3) (hr:B5) (n0:Nat) (l:List AOper) (es:Nat->Env) (hs:Nat->B5) (vs:Nat->Val):Prop where
 step:∀ (i:Nat) o,l[i]?=A4 o->Y7 E A5 hr n0 o (es i) (hs i) (λv h=>A4 (v,h))=A4 (vs i,hs (i+1))
 env:∀ (i:Nat) o,l[i]?=A4 o->es (i+1)=(es i).put o.dst (vs i)
def C8g {E:O3} {hr:B5} {n0:Nat} {R:Type} {k:Env->B5->Option R} {res:R}:∀ (l:List AOper) (e:Env) (h:B5),B3T E hr n0 l e h k=A4 res ->
  ∃ es hs vs,es 0=e/\hs 0=h/\Trace E hr n0 l es hs vs/\k (es l.length) (hs l.length)=A4 res
 | [],e,h,D8=>⟨λ_=>e,λ_=>h,λ_=>.un,rfl,rfl,⟨λi o ho=>by simp at ho,λi o ho=>by simp at ho⟩,D8⟩
 | o::l,e,h,D8=>by
  rw [C6c,C6j] at D8;simp only [E5Q] at D8;obtain ⟨p,hp,D8⟩:=D8;obtain ⟨es,hs,vs,h1,h2,h3,h4⟩:=C8g l _ _ D8;refine ⟨λi=>match i with | 0=>e | i+1=>es i,λi=>match i with | 0=>h | i+1=>hs i,λi=>match i with | 0=>p.1 | i+1=>vs i,rfl,rfl,⟨λi o' ho=>?_,λi o' ho=>?_⟩,h4⟩
  ·cases i with
   | zero=>simp at ho;subst ho;simp only;rw [h2];exact hp
   | succ i=>simp at ho;exact h3.step i o' ho
  ·cases i with
   | zero=>simp at ho;subst ho;exact h1
   | succ i=>simp at ho;exact h3.env i o' ho
def A2R (l:List AOper) (n0:Nat) (i id:Nat):Prop:=∃ ao j,l[i]?=A4 ao/\ao.slot=A4 j/\id=n0+j
section
variable {P:Program} {N m:Nat} {ops:Array Oper} {l r:List AOper} {E:O3} {hr:B5} {es:Nat->Env} {hs:Nat->B5} {vs:Nat->Val}
def A6J (hq:∀ (i:Nat) (ao:AOper),l[i]?=A4 ao->A8t ao.op=A5/\Y3 ao.op=ao.slot.isSome/\∀ j,ao.slot=A4 j->j<m) (ht:Trace E hr hr.length l es hs vs) {i:Nat} {ao:AOper} (ha:l[i]?=A4 ao) :
  (Z4 ao.op=A5/\ao.slot=A7/\Grows (hs i) (hs (i+1)))\/(Z4 ao.op=A6/\(hs (i+1)=hs i\/∃ j row,ao.slot=A4 j/\hs (i+1)=(hs i).set (hr.length+j) (A4 row))):=by
 have h1:=ht.step i ao ha;obtain ⟨q1,q2,q3⟩:=hq i ao ha;have key:hs (i+1)=hs i\/∃ v,aop E A5 hr hr.length ao.slot ao.op (es i) (hs i) (λv h=>A4 (v,h))=A4 (v,hs (i+1)):=by
  unfold Y7 at h1;cases hgu:ao.guard with
  | none=>rw [hgu] at h1;exact .inr ⟨_,h1⟩
  | some g =>
   rw [hgu] at h1;simp only [E5Q,E5W] at h1;obtain ⟨⟨v',h2⟩,hp,hpe⟩:=h1;cases hpe;unfold gd at hp;split at hp
   ·rename_i x _;cases hx:(x==g.2) with
    | true=>rw [hx] at hp;exact .inr ⟨_,hp⟩
    | false=>rw [hx] at hp;simp only [cond_false,E5W,E50] at hp;exact .inl hp.2.symm
   ·simp only [E5W,E50] at hp;exact .inl hp.2.symm
   ·cases hp
 cases hc:Z4 ao.op with
 | true =>
  left
  have hns:Y3 ao.op=A6:=by cases hop:ao.op<;>simp_all [Z4,Y3]
  have hsn:ao.slot=A7:=by
   rw [hns] at q2;cases oL:ao.slot with
   | none=>rfl
   | some j=>rw [oL] at q2;cases q2
  refine ⟨rfl,hsn,?_⟩;rcases key with h | ⟨v,h⟩
  ·rw [h];exact Grows.refl _
  ·cases hop:ao.op<;>rw [hop] at hc h<;>simp [Z4] at hc
   case call f args =>
    simp only [aop,cond_true,E5Q,E5W] at h;obtain ⟨⟨v',h2⟩,hp,hpe⟩:=h;cases hpe;exact (B6r hp).2
   case callV f args =>
    simp only [aop,cond_true,E5Q,E5W] at h;obtain ⟨⟨v',h2⟩,hp,hpe⟩:=h;cases hpe;exact (B6r hp).2
 | false =>
  right
  refine ⟨rfl,?_⟩;rcases key with h | ⟨v,h⟩
  ·exact .inl h
  ·cases oL:Y3 ao.op with
   | false =>
    cases hmk:A2C ao.op with
    | false =>
     cases xS:B8Q ao.op with
     | none=>exact .inl (D0a q1 hmk xS hc oL h).1
     | some j=>exact .inl (D53 xS h).1
    | true=>exact .inl (D24 hmk h).1
   | true =>
    rw [oL] at q2;obtain ⟨j,hj⟩:=Option.isSome_iff_exists.1 q2.symm;rw [hj] at h;obtain ⟨row,h2,_⟩:=D25 oL h;exact .inr ⟨j,row,hj,h2⟩
def D4z (hq:∀ (i:Nat) (ao:AOper),l[i]?=A4 ao->A8t ao.op=A5/\Y3 ao.op=ao.slot.isSome/\∀ j,ao.slot=A4 j->j<m) (ht:Trace E hr hr.length l es hs vs) {i:Nat} (hi:i<l.length) :
  (hs i).length<=(hs (i+1)).length:=by
 rcases A6J hq ht (E5P hi) with ⟨_,_,h⟩ | ⟨_,h | ⟨j,row,_,h⟩⟩
 ·exact h.1.length_le
 ·rw [h];exact E5V _
 ·rw [h];simp
def B17 (hq:∀ (i:Nat) (ao:AOper),l[i]?=A4 ao->A8t ao.op=A5/\Y3 ao.op=ao.slot.isSome/\∀ j,ao.slot=A4 j->j<m) (ht:Trace E hr hr.length l es hs vs):∀ (t i:Nat),i+t<=l.length->(hs i).length<=(hs (i+t)).length
 | 0,i,_=>E5V _
 | t+1,i,h=>E6w (B17 hq ht t i (by omega)) (D4z hq ht (i:=i+t) (by omega))
def A6D (D:DrawOk P N ops m l r) (ht:Trace E hr hr.length l es hs vs) (h0:hs 0=hr++E5R m A7) {i id:Nat} (ho:A2R l hr.length i id):∀ k,k<=i->rd (hs k) id=A7:=by
 obtain ⟨ao,j,ha,hj,rfl⟩:=ho;have hjm:=(D.quiet i ao ha).2.2 j hj;have P6:i<l.length:=(List.getElem?_eq_some_iff.1 ha).1;intro k
 induction k with
 | zero =>
  intro _;rw [h0];unfold rd;rw [E57 (by omega)];simp only [List.getElem?_replicate];split<;>rfl
 | succ k ih =>
  intro hk;have ih:=ih (by omega);have hkl:k<l.length:=by omega
  have hin:hr.length+j<(hs k).length:=by
   have:=B17 D.quiet ht k 0 (by omega);rw [h0] at this;simp at this;omega
  rcases A6J D.quiet ht (E5P hkl) with ⟨_,_,h⟩ | ⟨_,h | ⟨j',row,hj',h⟩⟩
  ·rw [B28 h.1 hin];exact ih
  ·rw [h];exact ih
  ·rw [h];have T1:j≠j':=by
    intro e;subst e;exact (D.apart i k ao l[k] ha (E5P hkl) (by omega)).2 j hj hj'
   rw [B6 (by omega)];exact ih
def pM (D:DrawOk P N ops m l r) (ht:Trace E hr hr.length l es hs vs) {k id:Nat} (hid:id<(hs k).length) (cU:∀ i,k<=i->¬ A2R l hr.length i id):∀ t,k+t<=l.length->rd (hs (k+t)) id=rd (hs k) id
 | 0,_=>rfl
 | t+1,hl=>by
  have ih:=pM D ht hid cU t (by omega);have V7:k+t<l.length:=by omega
  have hin:id<(hs (k+t)).length:=Nat.lt_of_lt_of_le hid (B17 D.quiet ht t k (by omega));rw [<-ih];rcases A6J D.quiet ht (E5P V7) with ⟨_,_,h⟩ | ⟨_,h | ⟨j',row,hj',h⟩⟩
  ·exact B28 h.1 hin
  ·show rd (hs (k+t+1)) id=_;rw [h]
  ·show rd (hs (k+t+1)) id=_;rw [h];have T1:hr.length+j'≠id:=λe=>cU (k+t) (by omega) ⟨l[k+t],j',E5P V7,hj',e.symm⟩
   rw [B6 T1]
def und (l:List AOper) (n0:Nat) (done:Nat->Bool) (id:Nat):Bool:=(E6p l.length).any λi=>!done i&&decide (((l[i]?).bind (·.slot)).map (n0 + ·)=A4 id)
def aP {n0:Nat} {done:Nat->Bool} {id:Nat}:und l n0 done id=A5↔∃ i,done i=A6/\A2R l n0 i id:=by
 unfold und A2R;simp only [List.any_eq_true,List.mem_range,E5S,E6I,decide_eq_true_eq,E6d,E5Q];constructor
 ·rintro ⟨i,hi,hd,j,⟨ao,ha,hj⟩,rfl⟩;exact ⟨i,hd,ao,j,ha,hj,rfl⟩
 ·rintro ⟨i,hd,ao,j,ha,hj,rfl⟩;exact ⟨i,(List.getElem?_eq_some_iff.1 ha).1,hd,j,⟨ao,ha,hj⟩,rfl⟩
def HD (F:B5) (u:Nat->Bool) (L:Nat):B5:=(E6p L).map λid=>if u id=A5 then A7 else rd F id
def L6 (F:B5) (u:Nat->Bool) (L:Nat):(HD F u L).length=L:=by simp [HD]
def vS (F:B5) (u:Nat->Bool) (L id:Nat):rd (HD F u L) id=if id<L/\u id=A6 then rd F id else A7:=by
 unfold HD
 conv=>lhs;unfold rd
 rw [List.getElem?_map];by_cases h:id<L
 ·rw [List.getElem?_range h];cases hu:u id
  ·simp [h,hu];rfl
  ·simp [h,hu]
 ·rw [E6x (by simp;omega)];simp [h]
def A0c {h h':B5} (hl:h.length=h'.length) (hr:∀ id,id<h.length->rd h id=rd h' id):h=h':=by
 apply List.ext_getElem hl;intro i h1 h2;have:=hr i h1;unfold rd at this;rw [E5P h1,E5P h2] at this;simpa using this
structure Sim (Γ:Ctx) (l:List AOper) (n0 N:Nat) (e:Env) (es:Nat->Env) (hs:Nat->B5) (vs:Nat->Val) (μ0:Mu) (done:Nat->Bool) (q:Nat) (μ:Mu) (a:Act) (w:World):Prop where
 qle:q<=l.length
 calls:∀ (i:Nat) ao,l[i]?=A4 ao->Z4 ao.op=A5->(done i=A5↔i<q)
 envD:∀ (i:Nat) ao d,l[i]?=A4 ao->done i=A5->ao.dst=A4 d->RV μ (vs i) (a.tmps.getD d undef)
 envO:∀ t,(∀ (i:Nat) ao,l[i]?=A4 ao->done i=A5->ao.dst≠A4 t)->RV μ (e.get t) (a.tmps.getD t undef)
 inv:Inv Γ μ (HD (hs l.length) (und l n0 done) (hs q).length) w
 free:∀ id,und l n0 done id=A5 -> μ id=A7
 le:μ0.le μ
 keep:∀ id,id<n0 -> μ id = μ0 id
 size:N<=a.tmps.size
 defers:a.defers = Γ.ds
end
def Env.get_keep_mem (e:Env) (l:List Nat) (t:Nat):(e.keep l).get t=if t∈l then e.get t else .un:=by
 induction l with
 | nil=>rfl
 | cons x r ih =>
  simp only [Env.keep,Env.get];by_cases h:x=t
  ·subst h;simp
  ·have:Nat.beq x t=A6:=by cases hb:Nat.beq x t with
    | false=>rfl
    | true=>exact absurd (Nat.eq_of_beq_eq_true hb) h
   rw [this,cond_false,ih];have h':t≠x:=Ne.symm h;simp [h']
section
variable {P:Program} {N m:Nat} {ops:Array Oper} {l r:List AOper} {E:O3} {hr:B5} {e:Env} {es:Nat->Env} {hs:Nat->B5} {vs:Nat->Val} {Γ:Ctx} {μ0:Mu}
def rU (D:DrawOk P N ops m l r) (ht:Trace E hr hr.length l es hs vs) {j t:Nat} {aj:AOper} (pF:l[j]?=A4 aj) (hd:aj.dst=A4 t):∀ k,j<k->k<=l.length->(es k).get t=vs j:=by
 intro k
 induction k with
 | zero=>intro h;omega
 | succ k ih =>
  intro hjk hk;rw [ht.env k l[k] (E5P (by omega))];by_cases e:j=k
  ·subst e;have:l[j]=aj:=by have h2:=E5P (l:=l) (i:=j) (by omega);rw [pF] at h2;cases h2;rfl
   rw [this,hd];exact Env.get_put_same _ _ _
  ·have T1:=(D.apart j k aj l[k] pF (E5P (by omega)) e).1 t hd;cases hdk:l[k].dst with
   | none=>exact ih (by omega) (by omega)
   | some d =>
    rw [hdk] at T1;rw [Env.get_put_other _ _ _ _ (by intro h;subst h;exact T1 rfl)];exact ih (by omega) (by omega)
def zY (ht:Trace E hr hr.length l es hs vs) (he:es 0=e) {t:Nat}:∀ k,k<=l.length->(∀ (j:Nat) aj,j<k->l[j]?=A4 aj->aj.dst≠A4 t)->(es k).get t=e.get t:=by
 intro k
 induction k with
 | zero=>intro _ _;rw [he]
 | succ k ih =>
  intro hk cU;rw [ht.env k l[k] (E5P (by omega))];have T1:=cU k l[k] (by omega) (E5P (by omega));cases hdk:l[k].dst with
  | none=>exact ih (by omega) λj aj hj=>cU j aj (by omega)
  | some d =>
   rw [hdk] at T1;rw [Env.get_put_other _ _ _ _ (by intro h;subst h;exact T1 rfl)];exact ih (by omega) λj aj hj=>cU j aj (by omega)
def pH (done:Nat->Bool) (i:Nat):Nat->Bool:=λk=>decide (k=i)||done k
def wZ (done:Nat->Bool) (i:Nat):pH done i i=A5:=by simp [pH]
def aD (done:Nat->Bool) (i:Nat) {k:Nat} (h:k≠i):pH done i k=done k:=by simp [pH,h]
def E1G (D:DrawOk P N ops m l r) (ht:Trace E hr hr.length l es hs vs) (he:es 0=e) {done:Nat->Bool} {q:Nat} {μ:Mu} {a:Act} {w:World}
  (S:Sim Γ l hr.length N e es hs vs μ0 done q μ a w) {i:Nat} {ao:AOper} (ha:l[i]?=A4 ao) (hnd:done i=A6) (hah:∀ b,((R5 ops).getD i 0).testBit b=A5->done b=A5) (hcl:∀ j,done j=A5->∀ b,((R5 ops).getD j 0).testBit b=A5->done b=A5):SEnv μ ((es i).keep ao.reads) a:=by
 intro t;rw [Env.get_keep_mem];split
 ·rename_i A0d;have P6:i<l.length:=(List.getElem?_eq_some_iff.1 ha).1;by_cases hw:∃ (j:Nat) (aj:AOper),l[j]?=A4 aj/\aj.dst=A4 t
  ·obtain ⟨j,aj,pF,hd⟩:=hw;rcases D.reads i j ao aj t ha pF hd A0d with ⟨h1,h2⟩ | ⟨h1,h2⟩
   ·rw [rU D ht pF hd i h2 (by omega)];exact S.envD j aj t pF (hah j h1) hd
   ·have hnj:done j=A6:=by
     cases hdj:done j with
     | false=>rfl
     | true=>rw [hcl j hdj i h1] at hnd;cases hnd
    have E14:∀ (k:Nat) (ak:AOper),l[k]?=A4 ak->ak.dst=A4 t->k=j:=λk ak qO hk=>by
     by_cases e:k=j
     ·exact e
     ·exact absurd hd ((D.apart k j ak aj qO pF e).1 t hk)
    rw [zY ht he i (by omega) λk ak hk qO hkd=>by have:=E14 k ak qO hkd;omega];exact S.envO t λk ak qO hk hkd=>by rw [E14 k ak qO hkd,hnj] at hk;cases hk
  ·have cU:∀ (j:Nat) (aj:AOper),l[j]?=A4 aj->aj.dst≠A4 t:=λj aj pF hd=>hw ⟨j,aj,pF,hd⟩
   rw [zY ht he i (by omega) λj aj _ pF=>cU j aj pF];exact S.envO t λj aj pF _=>cU j aj pF
 ·trivial
def D0K {n0 i id:Nat} (h:id<n0):¬ A2R l n0 i id:=by
 rintro ⟨ao,j,_,_,rfl⟩;omega
def mH (D:DrawOk P N ops m l r) (ht:Trace E hr hr.length l es hs vs) (h0:hs 0=hr++E5R m A7) {k:Nat} (hk:k<=l.length):hr.length+m<=(hs k).length:=by
 have:=B17 D.quiet ht k 0 (by omega);rw [h0] at this;simp at this;omega
def D2h (D:DrawOk P N ops m l r) {n0 i id:Nat} (h:A2R l n0 i id):id<n0+m:=by
 obtain ⟨ao,j,ha,hj,rfl⟩:=h;have:=(D.quiet i ao ha).2.2 j hj;omega
def C7J (D:DrawOk P N ops m l r) {n0 i k id:Nat} (h:A2R l n0 i id) (h2:A2R l n0 k id):i=k:=by
 obtain ⟨ao,j,ha,hj,rfl⟩:=h;obtain ⟨ao',j',ha',hj',he⟩:=h2;by_cases e:i=k
 ·exact e
 ·have:j=j':=by omega
  subst this;exact absurd hj' ((D.apart i k ao ao' ha ha' e).2 j hj)
def D4u (D:DrawOk P N ops m l r) (ht:Trace E hr hr.length l es hs vs) (h0:hs 0=hr++E5R m A7) {done:Nat->Bool} {q:Nat} {μ:Mu} {a:Act} {w:World}
  (S:Sim Γ l hr.length N e es hs vs μ0 done q μ a w) {i:Nat} {ao:AOper} (ha:l[i]?=A4 ao) (hnd:done i=A6) {V:Value} {w':World} {μ':Mu} {q':Nat} {dst:Option Nat} (A1p:dst=ao.dst) (E2C:A0w N dst=A5)
  (dF:μ.le μ') (hv:RV μ' (vs i) V) (hinv:Inv Γ μ' (HD (hs l.length) (und l hr.length (pH done i)) (hs q').length) w') (cQ:Keeps μ μ' (HD (hs l.length) (und l hr.length done) (hs q).length) hr.length ao.slot)
  (hq':q'<=l.length) (E2y:∀ (k:Nat) ak,l[k]?=A4 ak->Z4 ak.op=A5->(pH done i k=A5↔k<q')):Sim Γ l hr.length N e es hs vs μ0 (pH done i) q' μ' (a.put dst V) w':=by
 have uU:∀ t,dst≠A4 t->(a.put dst V).tmps.getD t undef=a.tmps.getD t undef:=by
  intro t h;cases hd:dst with
  | none=>rfl
  | some d =>
   rw [hd] at h;simp [Act.put,Array.getElem?_setIfInBounds_ne (show d≠t from λe=>h (by rw [e]))]
 refine ⟨hq',E2y,?_,?_,hinv,?_,Mu.le_trans S.le dF,?_,by rw [Act.size_put];exact S.size,?_⟩
 ·intro k ak d qO hdk hd;by_cases e:k=i
  ·subst e;rw [ha] at qO;cases qO;rw [A1p,hd];have V7:d<a.tmps.size:=by
    rw [A1p,hd] at E2C;simp [A0w] at E2C;exact Nat.lt_of_lt_of_le E2C S.size
   have:(a.put (A4 d) V).tmps.getD d undef=V:=by simp [Act.put,Array.getD,V7]
   rw [this];exact hv
  ·rw [aD _ _ e] at hdk;rw [uU d (by rw [A1p];exact λh=>(D.apart i k ao ak ha qO (Ne.symm e)).1 d h hd)];exact (S.envD k ak d qO hdk hd).mono dF
 ·intro t cU;have h1:=cU i ao ha (wZ _ _);rw [uU t (by rw [A1p];exact h1)];refine (S.envO t λk ak qO hdk=>?_).mono dF;by_cases e:k=i
  ·subst e;rw [hnd] at hdk;cases hdk
  ·exact cU k ak qO (by rw [aD _ _ e];exact hdk)
 ·intro id hid;obtain ⟨k,hk,ho⟩:=aP.1 hid;have e:k≠i:=by intro e;subst e;rw [wZ] at hk;cases hk
  rw [aD _ _ e] at hk;have h1:=S.free id (aP.2 ⟨k,hk,ho⟩);rw [<-h1];refine cQ id (by rw [L6];have:=mH D ht h0 S.qle;have:=D2h D ho;omega) λj hj he=>e ?_
  exact C7J D ho ⟨ao,j,ha,hj,he⟩
 ·intro id hid;rw [<-S.keep id hid];exact cQ id (by rw [L6];have:=mH D ht h0 S.qle;omega) λj hj he=>by omega
 ·have:∀ d:Option Nat,(a.put d V).defers=a.defers:=λd=>by cases d<;>rfl
  rw [this];exact S.defers
def B9c (D:DrawOk P N ops m l r) {n0 i id:Nat} {done:Nat->Bool} (h:¬ A2R l n0 i id):und l n0 (pH done i) id=und l n0 done id:=by
 rw [Bool.eq_iff_iff,aP,aP];constructor
 ·rintro ⟨k,hk,ho⟩;have e:k≠i:=by intro e;subst e;exact h ho
  exact ⟨k,by rw [aD _ _ e] at hk;exact hk,ho⟩
 ·rintro ⟨k,hk,ho⟩;have e:k≠i:=by intro e;subst e;exact h ho
  exact ⟨k,by rw [aD _ _ e];exact hk,ho⟩
def D6Q (D:DrawOk P N ops m l r) {n0 i id:Nat} {done:Nat->Bool} (h:A2R l n0 i id):und l n0 (pH done i) id=A6:=by
 cases hu:und l n0 (pH done i) id with
 | false=>rfl
 | true =>
  obtain ⟨k,hk,ho⟩:=aP.1 hu;have e:=C7J D ho h;subst e;rw [wZ] at hk;cases hk
def E3q (D:DrawOk P N ops m l r) (ht:Trace E hr hr.length l es hs vs) (h0:hs 0=hr++E5R m A7) {done:Nat->Bool} {q:Nat} (hq:q<=l.length) (id:Nat) (x:Row) (hx:rd hr id=A4 x) :
  rd (HD (hs l.length) (und l hr.length done) (hs q).length) id=A4 x:=by
 have V7:=C8 hx;have hu:und l hr.length done id=A6:=by
  cases hu:und l hr.length done id with
  | false=>rfl
  | true=>obtain ⟨k,_,ho⟩:=aP.1 hu;exact absurd ho (D0K V7)
 rw [vS,if_pos ⟨by have:=mH D ht h0 hq;omega,hu⟩];have:=pM D ht (k:=0) (id:=id) (by rw [h0];simp;omega) (λi _=>D0K V7) l.length (by omega);rw [E6e] at this;rw [this,h0,E1 V7];exact hx
def E0d (D:DrawOk P N ops m l r) (ht:Trace E hr hr.length l es hs vs) (h0:hs 0=hr++E5R m A7) {done:Nat->Bool} {q:Nat} {μ:Mu} {a:Act} {w:World}
  (S:Sim Γ l hr.length N e es hs vs μ0 done q μ a w) {i:Nat} {ao:AOper} (ha:l[i]?=A4 ao) (hnd:done i=A6):wV μ (HD (hs l.length) (und l hr.length done) (hs q).length) hr.length ao.slot:=by
 cases oL:ao.slot with
 | none=>trivial
 | some j =>
  refine ⟨S.free _ (aP.2 ⟨i,hnd,ao,j,ha,oL,rfl⟩),?_⟩;rw [L6];have:=mH D ht h0 S.qle;have:=(D.quiet i ao ha).2.2 j oL;omega
def A0f (D:DrawOk P N ops m l r) (ht:Trace E hr hr.length l es hs vs) {q:Nat}:∀ t,q+t<=l.length->(∀ (k:Nat) ak,q<=k->k<q+t->l[k]?=A4 ak->Z4 ak.op=A6)->(hs (q+t)).length=(hs q).length
 | 0,_,_=>rfl
 | t+1,hl,cU=>by
  have ih:=A0f D ht (q:=q) t (by omega) λk ak h1 h2=>cU k ak h1 (by omega)
  rw [<-ih];have hk:q+t<l.length:=by omega
  rcases A6J D.quiet ht (E5P hk) with ⟨h,_,_⟩ | ⟨_,h | ⟨j,row,_,h⟩⟩
  ·have:=cU (q+t) l[q+t] (by omega) (by omega) (E5P hk);rw [h] at this;cases this
  ·show (hs (q+t+1)).length=_;rw [h]
  ·show (hs (q+t+1)).length=_;rw [h];simp
def E1I (D:DrawOk P N ops m l r) (ht:Trace E hr hr.length l es hs vs) (h0:hs 0=hr++E5R m A7) {done:Nat->Bool} {q:Nat} {μ:Mu} {a:Act} {w:World}
  (S:Sim Γ l hr.length N e es hs vs μ0 done q μ a w) {i:Nat} {ao:AOper} (ha:l[i]?=A4 ao) (hah:∀ b,((R5 ops).getD i 0).testBit b=A5->done b=A5) (hl:Z4 ao.op=A5\/A2C ao.op=A5) :
  ∀ id x,rd (hs i) id=A4 x->rd (HD (hs l.length) (und l hr.length done) (hs q).length) id=A4 x:=by
 have P6:i<l.length:=(List.getElem?_eq_some_iff.1 ha).1;have hql:=S.qle;have hlen:(hs i).length<=(hs q).length:=by
  by_cases hiq:i<=q
  ·have:=B17 D.quiet ht (q-i) i (by omega)
   rwa [show i+(q-i)=q by omega] at this
  ·have:=A0f D ht (q:=q) (i-q) (by omega) λk ak h1 h2 qO=>by
    cases hck:Z4 ak.op with
    | false=>rfl
    | true =>
     have h3:=hah k (D.calls i k ao ak ha qO hl (by omega) (.inl hck));have:=(S.calls k ak qO hck).1 h3;omega
   rw [show q+(i-q)=i by omega] at this;omega
 intro id x hx;have A2y:∀ k,i<=k->¬ A2R l hr.length k id:=λk hk ho'=>by
  have:=A6D D ht h0 ho' i hk;rw [this] at hx;cases hx
 have hu:und l hr.length done id=A6:=by
  cases hu:und l hr.length done id with
  | false=>rfl
  | true =>
   obtain ⟨k,hk,ho'⟩:=aP.1 hu;by_cases e1:i<=k
   ·exact absurd ho' (A2y k e1)
   ·obtain ⟨ak,j,qO,hj,_⟩:=ho';have hsk:Y3 ak.op=A5:=by have:=(D.quiet k ak qO).2.1;rw [hj] at this;exact this
    have:=hah k (D.calls i k ao ak ha qO hl (by omega) (.inr hsk));rw [hk] at this;cases this
 rw [vS,if_pos ⟨by have:=C8 hx;omega,hu⟩];have:=pM D ht (C8 hx) A2y (l.length-i) (by omega);rw [show i+(l.length-i)=l.length by omega] at this;rw [this];exact hx
def E1H (D:DrawOk P N ops m l r) (ht:Trace E hr hr.length l es hs vs) (h0:hs 0=hr++E5R m A7) {done:Nat->Bool} {q:Nat} {μ:Mu} {a:Act} {w:World}
  (S:Sim Γ l hr.length N e es hs vs μ0 done q μ a w) {i j:Nat} {ao:AOper} (ha:l[i]?=A4 ao) (hah:∀ b,((R5 ops).getD i 0).testBit b=A5->done b=A5) (xS:B8Q ao.op=A4 j) :
  ∀ x,rd (hs i) (hr.length+j)=A4 x->rd (HD (hs l.length) (und l hr.length done) (hs q).length) (hr.length+j)=A4 x:=by
 have P6:i<l.length:=(List.getElem?_eq_some_iff.1 ha).1;have hql:=S.qle;intro x hx;obtain ⟨k,ak,qO,hsk,E4S⟩:=D.own i ao j ha xS;have hO:A2R l hr.length k (hr.length+j):=⟨ak,j,qO,hsk,rfl⟩;have hdk:=hah k E4S;have A2y:∀ k',i<=k'->¬ A2R l hr.length k' (hr.length+j):=λk' hk' ho'=>by
  have:=A6D D ht h0 ho' i hk';rw [this] at hx;cases hx
 have hu:und l hr.length done (hr.length+j)=A6:=by
  cases hu:und l hr.length done (hr.length+j) with
  | false=>rfl
  | true =>
   obtain ⟨k',hk',ho'⟩:=aP.1 hu;have:=C7J D ho' hO;subst this;rw [hk'] at hdk;cases hdk
 rw [vS,if_pos ⟨by have:=mH D ht h0 S.qle;have:=D2h D hO;omega,hu⟩];have:=pM D ht (C8 hx) A2y (l.length-i) (by omega);rw [show i+(l.length-i)=l.length by omega] at this;rw [this];exact hx
open Classical in
def D4v (D:DrawOk P N ops m l r) (hE:gP P E) (ht:Trace E hr hr.length l es hs vs) (h0:hs 0=hr++E5R m A7) (he:es 0=e) {done:Nat->Bool} {q:Nat} {μ:Mu} {a:Act} {w:World}
  (S:Sim Γ l hr.length N e es hs vs μ0 done q μ a w) {i:Nat} {ao:AOper} {o:Oper} (ha:l[i]?=A4 ao) (ho:ops[i]?=A4 o) (hnd:done i=A6)
  (hah:∀ b,((R5 ops).getD i 0).testBit b=A5->done b=A5) (hcl:∀ j,done j=A5->∀ b,((R5 ops).getD j 0).testBit b=A5->done b=A5)
  {next:Act->World->Prop} {Q:Exit->Act->World->Prop} (hn:∀ V w' μ' q',Sim Γ l hr.length N e es hs vs μ0 (pH done i) q' μ' (a.put o.dst V) w'->next (a.put o.dst V) w') :
  if Region.wanted o (yielded ops a.tmps) then o.wp P a w next Q\/(o.asks P a w/\LetsOut Q) else next (a.put o.dst undef) w:=by
 have P6:i<l.length:=(List.getElem?_eq_some_iff.1 ha).1;have hco:bF P N ops o ao=A5:=D.oper i o ao ho (by rw [E6t P6];exact ha);have A1p:o.dst=ao.dst/\A0w N o.dst=A5:=by
  simp only [bF,E5S,decide_eq_true_eq] at hco;exact ⟨hco.1.1.1,hco.1.1.2⟩
 have C9m:=E1G D ht he S ha hnd hah hcl;have hrd:=E3q D ht h0 (done:=done) S.qle;have D3P:=E0d D ht h0 S ha hnd;have mX:=ht.step i ao ha;have E10:∀ (E:O3) (h:B5),Y7 E A5 hr hr.length ao (es i) h (λv h=>A4 (v,h))=Y7 E A5 hr hr.length ao ((es i).keep ao.reads) h λv h=>A4 (v,h) :=
  λE h=>C0C λt ht'=>by rw [Env.get_keep_mem,if_pos ht']
 have hqi:=D.quiet i ao ha;have E5w:=mH D ht h0 S.qle;cases hc:Z4 ao.op with
 | false =>
  have key:∃ h2,Y7 E A5 hr hr.length ao (es i) (HD (hs l.length) (und l hr.length done) (hs q).length) (λv h=>A4 (v,h))=A4 (vs i,h2)/\h2=HD (hs l.length) (und l hr.length (pH done i)) (hs q).length:=by
   have C2B:hs (i+1)=hs i->HD (hs l.length) (und l hr.length done) (hs q).length=HD (hs l.length) (und l hr.length (pH done i)) (hs q).length:=by
    intro hsame;refine A0c (by rw [L6,L6]) λid hid=>?_
    rw [L6] at hid;rw [vS,vS];by_cases xS:A2R l hr.length i id
    ·rw [D6Q D xS,aP.2 ⟨i,hnd,xS⟩];have h1:=A6D D ht h0 xS i (E5V _);have h2:=pM D ht (k:=i+1) (id:=id) (by rw [hsame];have:=mH D ht h0 (k:=i) (by omega);have:=D2h D xS;omega)
      (λk hk ho'=>by have:=C7J D ho' xS;omega) (l.length-(i+1)) (by omega)
     rw [show i+1+(l.length-(i+1))=l.length by omega,hsame,h1] at h2;simp [h2]
    ·rw [B9c D xS]
   have A9C:∀ v h3,aop E A5 hr hr.length ao.slot ao.op (es i) (hs i) (λv h=>A4 (v,h))=A4 (v,h3)->h3=hs (i+1) ->
     ∃ h2,aop E A5 hr hr.length ao.slot ao.op (es i) (HD (hs l.length) (und l hr.length done) (hs q).length) (λv h=>A4 (v,h))=A4 (v,h2)/\h2=HD (hs l.length) (und l hr.length (pH done i)) (hs q).length:=by
    intro v h3 A9C he3;subst he3;cases oL:Y3 ao.op with
    | false =>
     cases hmk:A2C ao.op with
     | false =>
      cases xS:B8Q ao.op with
      | none =>
       obtain ⟨h4,h5⟩:=D0a hqi.1 hmk xS hc oL A9C;exact ⟨_,h5 _,C2B h4⟩
      | some j =>
       obtain ⟨h4,h5⟩:=D53 xS A9C;exact ⟨_,h5 _ (E1H D ht h0 S ha hah xS),C2B h4⟩
     | true =>
      obtain ⟨h4,h5⟩:=D24 hmk A9C;exact ⟨_,h5 _ (E1I D ht h0 S ha hah (.inr hmk)),C2B h4⟩
    | true =>
     have h6:=hqi.2.1;rw [oL] at h6;obtain ⟨j,hj⟩:=Option.isSome_iff_exists.1 h6.symm;rw [hj] at A9C ⊢;obtain ⟨row,h7,h8⟩:=D25 oL A9C;refine ⟨_,h8 _,?_⟩;have xS:A2R l hr.length i (hr.length+j):=⟨ao,j,ha,hj,rfl⟩;have hjm:=hqi.2.2 j hj;have hbi:=mH D ht h0 (k:=i) (by omega);refine A0c (by rw [E6o,L6,L6]) λid hid=>?_
     rw [E6o,L6] at hid;by_cases e1:hr.length+j=id
     ·subst e1;rw [C6 (by rw [L6];omega),vS,if_pos ⟨by omega,D6Q D xS⟩];have h9:=pM D ht (k:=i+1) (id:=hr.length+j) (by rw [h7];simp;omega) (λk hk ho'=>by have:=C7J D ho' xS;omega) (l.length-(i+1)) (by omega);rw [show i+1+(l.length-(i+1))=l.length by omega,h7,C6 (by omega)] at h9;exact h9.symm
     ·rw [B6 e1,vS,vS,B9c D];rintro ⟨ao',j',h10,h11,h12⟩;rw [ha] at h10;cases h10;rw [hj] at h11;cases h11;exact e1 h12.symm
   unfold Y7 at mX ⊢;cases hgu:ao.guard with
   | none=>rw [hgu] at mX;exact A9C _ _ mX rfl
   | some g =>
    rw [hgu] at mX;simp only [E5Q,E5W] at mX;obtain ⟨⟨v',h3⟩,hp,hpe⟩:=mX;simp only [E50] at hpe;obtain ⟨hv',hh3⟩:=hpe;unfold gd at hp ⊢;split at hp
    ·rename_i x zA;simp only [zA];cases hx:(x==g.2) with
     | true =>
      rw [hx] at hp;obtain ⟨h2,h4,h5⟩:=A9C _ _ hp hh3;exact ⟨h2,by rw [cond_true,h4];simp [hv'],h5⟩
     | false =>
      rw [hx] at hp;simp only [cond_false,E5W,E50] at hp;refine ⟨_,by rw [cond_false];simp [<-hv',<-hp.1],C2B ?_⟩;rw [<-hh3];exact hp.2.symm
    ·rename_i zA;simp only [zA];simp only [E5W,E50] at hp;refine ⟨_,by simp [<-hv',<-hp.1],C2B ?_⟩;rw [<-hh3];exact hp.2.symm
    ·cases hp
  obtain ⟨h2,hk1,hk2⟩:=key;rw [E10] at hk1;refine A5V hE hco hk1 C9m S.inv hrd D3P ?_;intro V w' μ' dF hv hinv cQ;subst hk2;refine hn V w' μ' q (D4u D ht h0 S ha hnd A1p.1 A1p.2 dF hv hinv cQ S.qle ?_);intro k ak qO hck;have e1:k≠i:=by intro e1;subst e1;rw [ha] at qO;cases qO;rw [hc] at hck;cases hck
  rw [aD _ _ e1];exact S.calls k ak qO hck
 | true =>
  have hsn:ao.slot=A7:=by
   rcases A6J D.quiet ht ha with ⟨_,h,_⟩ | ⟨h,_⟩
   ·exact h
   ·rw [hc] at h;cases h
  have E5O:q<=i:=by
   have:=S.calls i ao ha hc;rw [hnd] at this;have:¬ i<q:=λh=>by have:=this.2 h;cases this
   omega
  have hlen:(hs i).length=(hs q).length:=by
   have:=A0f D ht (q:=q) (i-q) (by omega) λk ak h1 h2 qO=>by
    cases hck:Z4 ak.op with
    | false=>rfl
    | true =>
     have h3:=hah k (D.calls i k ao ak ha qO (.inl hc) (by omega) (.inl hck));have:=(S.calls k ak qO hck).1 h3;omega
   rwa [show q+(i-q)=i by omega] at this
  have D9d:∀ id,¬ A2R l hr.length i id:=by
   rintro id ⟨ao',j,h1,h2,_⟩;rw [ha] at h1;cases h1;rw [hsn] at h2;cases h2
  have E0X:∀ (k:Nat) ak,l[k]?=A4 ak->Z4 ak.op=A5->(pH done i k=A5↔k<i+1):=by
   intro k ak qO hck;by_cases e1:k=i
   ·subst e1;simp [wZ]
   ·rw [aD _ _ e1];constructor
    ·intro hk;have:¬ i<k:=λh=>by
      have h2:=hcl k hk i (D.calls k i ak ao qO ha (.inl hck) h (.inl hc));rw [hnd] at h2;cases h2
     omega
    ·intro hk;exact hah k (D.calls i k ao ak ha qO (.inl hc) (by omega) (.inl hck))
  have E5A:=D4z D.quiet ht P6;have C2B:hs (i+1)=hs i->HD (hs l.length) (und l hr.length done) (hs q).length=HD (hs l.length) (und l hr.length (pH done i)) (hs (i+1)).length:=by
   intro hsame;rw [hsame,hlen];refine A0c (by rw [L6,L6]) λid hid=>?_
   rw [vS,vS,B9c D (D9d id)]
  have A9C:∀ (g:Nat) (args:List Val),quiet (hs i) (E g args (hs i))=A4 (vs i,hs (i+1)) ->
    ∃ E':O3,gP P E'/\quiet (HD (hs l.length) (und l hr.length done) (hs q).length) (E' g args (HD (hs l.length) (und l hr.length done) (hs q).length))=A4 (vs i,HD (hs l.length) (und l hr.length (pH done i)) (hs (i+1)).length):=by
   intro g args D86;obtain ⟨h1,h2⟩:=B6r D86;obtain ⟨hg,hk,_⟩:=hE _ _ _ _ _ h1;have A8j:∀ id x,rd (hs i) id=A4 x->rd (HD (hs l.length) (und l hr.length done) (hs q).length) id=A4 x:=by
    intro id x hx;have A2y:∀ k,i<=k->¬ A2R l hr.length k id:=λk hk ho'=>by
     have:=A6D D ht h0 ho' i hk;rw [this] at hx;cases hx
    have hu:und l hr.length done id=A6:=by
     cases hu:und l hr.length done id with
     | false=>rfl
     | true =>
      obtain ⟨k,hk,ho'⟩:=aP.1 hu;by_cases e1:i<=k
      ·exact absurd ho' (A2y k e1)
      ·obtain ⟨ak,j,qO,hj,_⟩:=ho';have hsk:Y3 ak.op=A5:=by have:=(D.quiet k ak qO).2.1;rw [hj] at this;exact this
       have:=hah k (D.calls i k ao ak ha qO (.inl hc) (by omega) (.inr hsk));rw [hk] at this;cases this
    rw [vS,if_pos ⟨by have:=C8 hx;omega,hu⟩];have:=pM D ht (C8 hx) A2y (l.length-i) (by omega);rw [show i+(l.length-i)=l.length by omega] at this;rw [this];exact hx
   have hfr:=hk.frame h2 (hD:=HD (hs l.length) (und l hr.length done) (hs q).length) (by rw [L6,hlen]) A8j;have zA:HD (hs l.length) (und l hr.length done) (hs q).length++(hs (i+1)).drop (hs i).length=HD (hs l.length) (und l hr.length (pH done i)) (hs (i+1)).length:=by
    refine A0c (by rw [E5T,L6,L6,E6O];omega) λid hid=>?_
    rw [B2m (by rw [L6,hlen])];split
    ·rw [vS,vS,B9c D (D9d id)];have:id<(hs q).length:=by omega
     have:id<(hs (i+1)).length:=by omega
     simp [*]
    ·rename_i hge;have hbi:=mH D ht h0 (k:=i) (by omega);have cU:∀ k,¬ A2R l hr.length k id:=λk ho'=>by have:=D2h D ho';omega
     have hu:und l hr.length (pH done i) id=A6:=by
      cases hu:und l hr.length (pH done i) id with
      | false=>rfl
      | true=>obtain ⟨k,_,ho'⟩:=aP.1 hu;exact absurd ho' (cU k)
     have V7:id<(hs (i+1)).length:=by
      rw [E5T,L6,E6O] at hid;omega
     rw [vS,if_pos ⟨V7,hu⟩];have:=pM D ht V7 (λk _=>cU k) (l.length-(i+1)) (by omega);rw [show i+1+(l.length-(i+1))=l.length by omega] at this;exact this.symm
   rw [zA] at hfr;have hgr:Grows (HD (hs l.length) (und l hr.length done) (hs q).length) (HD (hs l.length) (und l hr.length (pH done i)) (hs (i+1)).length):=by
    rw [<-zA];refine ⟨List.prefix_append _ _,λid x hid hx=>?_⟩;rw [L6] at hid;rw [B2m (by rw [L6,hlen]),if_neg (by omega)] at hx;exact h2.2 id x (by omega) hx
   refine ⟨λf' a' h'=>if f'=g/\a'=args/\h'=HD (hs l.length) (und l hr.length done) (hs q).length then A4 (vs i,HD (hs l.length) (und l hr.length (pH done i)) (hs (i+1)).length) else A7,?_,?_⟩
   ·intro f' a' h' v' h'' hv';simp only at hv';split at hv'
    ·rename_i A2x;obtain ⟨rfl,rfl,rfl⟩:=A2x;cases hv';exact ⟨hg,hfr,by rw [L6,L6];omega⟩
    ·cases hv'
   ·exact (congrArg (quiet _) (if_pos ⟨rfl,rfl,rfl⟩)).trans (quiet_of hgr)
  have key:∃ E':O3,gP P E'/\Y7 E' A5 hr hr.length ao (es i) (HD (hs l.length) (und l hr.length done) (hs q).length) (λv h=>A4 (v,h))=A4 (vs i,HD (hs l.length) (und l hr.length (pH done i)) (hs (i+1)).length):=by
   have hop:∀ v h3,aop E A5 hr hr.length ao.slot ao.op (es i) (hs i) (λv h=>A4 (v,h))=A4 (v,h3)->v=vs i->h3=hs (i+1) ->
     ∃ E':O3,gP P E'/\aop E' A5 hr hr.length ao.slot ao.op (es i) (HD (hs l.length) (und l hr.length done) (hs q).length) (λv h=>A4 (v,h))=A4 (vs i,HD (hs l.length) (und l hr.length (pH done i)) (hs (i+1)).length):=by
    intro v h3 hr1 hv1 he3;subst hv1 he3;cases E5b:ao.op<;>rw [E5b] at hc hr1<;>simp [Z4] at hc
    case call f args =>
     simp only [aop,cond_true,E5Q,E5W] at hr1;obtain ⟨⟨v',h4⟩,hp,hpe⟩:=hr1;cases hpe;obtain ⟨E',h5,h6⟩:=A9C f _ hp;exact ⟨E',h5,by simp only [aop,cond_true];rw [h6];rfl⟩
    case callV f args =>
     simp only [aop,cond_true,E5Q,E5W] at hr1;obtain ⟨⟨v',h4⟩,hp,hpe⟩:=hr1;cases hpe;unfold A3R at hp;split at hp
     ·rename_i g caps zA;obtain ⟨E',h5,h6⟩:=A9C g _ hp;refine ⟨E',h5,?_⟩;simp only [aop,cond_true];unfold A3R;rw [zA];simp only;rw [h6];rfl
     ·simp [quiet] at hp
   unfold Y7 at mX ⊢;cases hgu:ao.guard with
   | none=>rw [hgu] at mX;exact hop _ _ mX rfl rfl
   | some g =>
    rw [hgu] at mX;simp only [E5Q,E5W] at mX;obtain ⟨⟨v',h3⟩,hp,hpe⟩:=mX;simp only [E50] at hpe;obtain ⟨hv',hh3⟩:=hpe;unfold gd at hp ⊢;split at hp
    ·rename_i x zA;simp only [zA];cases hx:(x==g.2) with
     | true =>
      rw [hx] at hp;obtain ⟨E',h2,h4⟩:=hop _ _ hp hv' hh3;exact ⟨E',h2,by rw [cond_true,h4];rfl⟩
     | false =>
      rw [hx] at hp;simp only [cond_false,E5W,E50] at hp;refine ⟨E,hE,?_⟩;rw [cond_false,<-C2B (by rw [<-hh3];exact hp.2.symm)];simp [<-hv',<-hp.1]
    ·rename_i zA;simp only [zA];simp only [E5W,E50] at hp;refine ⟨E,hE,?_⟩;rw [<-C2B (by rw [<-hh3];exact hp.2.symm)];simp [<-hv',<-hp.1]
    ·cases hp
  obtain ⟨E',hE',hk1⟩:=key;rw [E10] at hk1;refine A5V hE' hco hk1 C9m S.inv hrd D3P ?_;intro V w' μ' dF hv hinv cQ;exact hn V w' μ' (i+1) (D4u D ht h0 S ha hnd A1p.1 A1p.2 dF hv hinv cQ (by omega) E0X)
end
end Go.Esc
