/- What the proof of this claim leans on, part 1. -/
import Derived.ProofKit
import Derived.OpenShut
import Derived.Deep.Slices
import Derived.Carry
import Derived.ChangeCalls
import GoSem.Claims
import Derived.Calls
import Derived.Orders
import Derived.Laws.Cells
import Derived.Laws.IdiomCopy
import Derived.Laws.World
import Derived.Laws.Bits
import Derived.Laws.Strings
import Derived.IntWalk
import Derived.Laws.Append
import Derived.Laws.StructEq
import Derived.MapKept
import Derived.LoopN
import Derived.Defers
import Derived.KernelRfl
import Derived.Test.YtbipebfdappanaaGreatChecked
set_option linter.all false
namespace Go.Esc
end Go.Esc
set_option maxRecDepth 100000
open Go Go.Esc
noncomputable section
open List renaming length->l_,all_eq_true->E7D,append_nil->E7q,drop_drop->E8t,drop_eq_getElem_cons->E7g,drop_of_length_le->E7j,drop_zero->E7n,ext_getElem?->E8h,flatten_cons->E8g,getElem?_append_left->E7T,getElem?_append_right->E7x,getElem?_drop->E8j,getElem?_eq_getElem->E64,getElem?_eq_none->E7z,getElem?_eq_some_iff->E7b,getElem?_set_ne->E8c,getElem?_take_of_lt->E7M,length_append->E7c,length_cons->E7k,length_set->E7R,length_take->E7L,map_append->E72,map_cons->E7X,mem_cons->E7m,mem_of_getElem?->E7p,range->E7H,range'->E7G,replicate->E68,replicate_succ->E7P,take_of_length_le->E7r
open Bool renaming and_eq_true->E66,false_or->E79,not_eq_true'->E7Y,or_eq_true->E8r,false->A6,true->A5
open Nat renaming add_mul->E8u,le_refl->E69,zero_add->E7o
open Option renaming bind_eq_some_iff->E65,bind_some->E7l,map_eq_some_iff->E7t,none->A7,some->A4
open Option.some renaming injEq->E7a
open Prod.mk renaming injEq->E7h
namespace Go.Esc
section
inductive Cell where
 | b (x:Bool)
 | i (k:IntKind) (n:Int)
 | s (x:List UInt8)
 | p (id off:Nat)
 | np
 | sl (id off len sz:Nat)
 | ns
 | f (fn:Nat) (caps:List (Nat × Nat))
 | fb (fn:Nat) (id off:Nat)
 | nf
 | m (id:Nat)
 | nm
 | dark
 | mh
 | hk (agg:Bool) (x:Cell)
 | hx (x:Cell)
 deriving DecidableEq,Inhabited
inductive Part where
 | c (x:Cell)
 | a (l:List Cell)
 deriving Inhabited
inductive Val where
 | un
 | no
 | c (x:Cell)
 | a (l:List Cell)
 | t (l:List Part)
 deriving Inhabited
structure Row where
 cells:List Cell
 rw:Bool
 deriving Inhabited
abbrev A9:=List (Option Row)
abbrev Env:=List (Nat × Val)
def Env.get:Env->Nat->Val
 | [],_=>.un
 | (d,v)::r,t=>bif Nat.beq d t then v else Env.get r t
def Env.keep(e:Env):List Nat->Env
 | []=>[]
 | t::r=>(t,e.get t)::Env.keep e r
def Env.put(e:Env)(d:Option Nat)(v:Val):Env :=
 match d with
 | some d=>(d,v)::e
 | none=>e
inductive Opd where
 | t (n:Nat)
 | v (x:Val)
 deriving Inhabited
def Env.ev(e:Env):Opd->Val
 | .t n=>e.get n
 | .v x=>x
inductive Sh where
 | b
 | i (k:IntKind)
 | s
 deriving DecidableEq,Inhabited
def Cell.sh:Cell->Option Sh
 | .b _=>A4 .b
 | .i k _=>A4 (.i k)
 | .s _=>A4 .s
 | _=>A7
inductive AOp where
 | mv (x:Opd)
 | nilrow (sz:Nat)
 | pick (c a b:Opd)
 | alloc (zero:List Cell)
 | box (x:Opd)
 | build (zero:List Cell) (parts:List (Nat × Nat × Opd))
 | buildSl (sz len:Nat) (zero:List Cell) (parts:List (Nat × Nat × Opd))
 | load1 (a:Opd)
 | loadN (n:Nat) (a:Opd)
 | store1 (a x:Opd)
 | storeN (n:Nat) (a x:Opd)
 | bin (op:BinOp) (x y:Opd)
 | eqA (neg:Bool) (sh:List Sh) (x y:Opd)
 | eqB (neg:Bool) (x y:Opd)
 | eqN (fn neg:Bool) (x:Opd)
 | nilc (x:Opd)
 | un (op:UnOp) (x:Opd)
 | conv (k:IntKind) (x:Opd)
 | convS (x:Opd)
 | s2b (x:Opd)
 | b2s (x:Opd)
 | b2sN (own:Option Nat) (x:Opd)
 | mark (x:Opd)
 | mkf (fn:Nat) (caps:List Opd)
 | mkb (fn:Nat) (x:Opd)
 | mkSl (sz:Nat) (zero:List Cell) (len cap:Opd)
 | slS (x:Opd) (lo hi:Option Opd)
 | slL (sz:Nat) (x:Opd) (lo hi:Option Opd)
 | slA (n sz:Nat) (x:Opd) (lo hi:Option Opd)
 | fAddr (x:Opd) (off:Nat)
 | iAddrA (n sz:Nat) (x i:Opd)
 | iAddrL (sz:Nat) (x i:Opd)
 | fld1 (x:Opd) (off:Nat)
 | fldN (x:Opd) (off n:Nat)
 | idxA1 (n:Nat) (x i:Opd)
 | idxAN (n sz:Nat) (x i:Opd)
 | idxS (x i:Opd)
 | ext (x:Opd) (k:Nat)
 | call (f:Nat) (args:List Opd)
 | callV (f:Opd) (args:List Opd)
 | len (x:Opd)
 | lenS (x:Opd)
 | app (sz:Nat) (x y:Opd)
 | appZ (sz:Nat) (zero:List Cell) (x y:Opd)
 | max (x y:Opd)
 | min (x y:Opd)
 | copy (sz:Nat) (x y:Opd)
 | mkMap
 | look (kk:Option IntKind) (zero:Part) (ok:Bool) (m k:Opd)
 | mput (kk:Option IntKind) (m k x:Opd)
 | ment (kk:Option IntKind) (zero:Part) (m k:Opd)
 | mset (m s x:Opd)
 deriving Inhabited
structure AOper where
 dst:Option Nat
 op:AOp
 guard:Option (Nat × Bool):=A7
 slot:Option Nat:=A7
 deriving Inhabited
inductive ACode where
 | skip
 | ops (l:List AOper)
 | draw (n:Nat) (l:List AOper) (r:List AOper)
 | drawS (n:Nat) (l:List AOper) (s:AOper) (chk:List (Nat × AOp)) (r:List AOper)
 | seq (keep:List Nat) (a b:ACode)
 | cond (c:Opd) (a b:ACode)
 | block (id:Nat) (a:ACode)
 | loop (keep:List Nat) (a:ACode)
 | exit (id:Nat)
 | ret
 deriving Inhabited
def cells? : Val->Option (List Cell)
 | .c x=>A4 [x]
 | .a l=>A4 l
 | _=>A7
def B4l(op:BinOp)(k:IntKind)(a b:Int):Option Cell :=
 match op with
 | .add=>A4 (.i k (k.wrap (a+b)))
 | .sub=>A4 (.i k (k.wrap (a-b)))
 | .mul=>A4 (.i k (k.wrap (a*b)))
 | .quo=>if b=0 then A7 else A4 (.i k (k.wrap (a.tdiv b)))
 | .rem=>if b=0 then A7 else A4 (.i k (a.tmod b))
 | .and=>A4 (.i k (k.wrap (BitVec.ofInt k.bits a &&& BitVec.ofInt k.bits b).toNat))
 | .or=>A4 (.i k (k.wrap (BitVec.ofInt k.bits a ||| BitVec.ofInt k.bits b).toNat))
 | .xor=>A4 (.i k (k.wrap (BitVec.ofInt k.bits a ^^^ BitVec.ofInt k.bits b).toNat))
 | .andNot=>A4 (.i k (k.wrap (BitVec.ofInt k.bits a &&& ~~~ BitVec.ofInt k.bits b).toNat))
 | .eql=>A4 (.b (a==b))
 | .neq=>A4 (.b (a != b))
 | .lss=>A4 (.b (decide (a<b)))
 | .leq=>A4 (.b (decide (a<=b)))
 | .gtr=>A4 (.b (decide (a > b)))
 | .geq=>A4 (.b (decide (a>=b)))
 | _=>A7
def E4x(k:IntKind)(a b:Int):Option Cell:=if b<0 then A7 else A4 (.i k (k.wrap (a*2 ^ (Nat.min b.toNat k.bits))))
def E4y(k:IntKind)(a b:Int):Option Cell:=if b<0 then A7 else A4 (.i k (a.fdiv (2 ^ (Nat.min b.toNat k.bits))))
def Y9:List UInt8->List UInt8->Bool
 | _,[]=>A6
 | [],_::_=>A5
 | a::x,b::y=>decide (a<b)||(a==b&&Y9 x y)
def E1z(op:BinOp)(a b:List UInt8):Option Cell :=
 match op with
 | .add=>if a.length+b.length<=1073741824 then A4 (.s (a++b)) else A7
 | .eql=>A4 (.b (a==b))
 | .neq=>A4 (.b (!(a==b)))
 | .lss=>A4 (.b (Y9 a b))
 | .leq=>A4 (.b (Y9 a b||a==b))
 | .gtr=>A4 (.b (!(Y9 a b||a==b)))
 | .geq=>A4 (.b (!Y9 a b))
 | _=>A7
def O0(op:BinOp)(x y:Val):Option Val :=
 match x,y with
 | .c (.i k a),.c (.i k' b) =>
  match op with
  | .shl=>(E4x k a b).map .c
  | .shr=>(E4y k a b).map .c
  | op=>bif decide (k=k') then (B4l op k a b).map .c else A7
 | .c (.s a),.c (.s b)=>(E1z op a b).map .c
 | _,_=>A7
def D46(neg:Bool)(x y:Val):Option Val :=
 match x,y with
 | .c (.b a),.c (.b b)=>A4 (.c (.b (bif neg then !(a==b) else a==b)))
 | _,_=>A7
def D1k(fn neg:Bool)(x:Val):Option Val :=
 match fn,x with
 | true,.c .nf=>A4 (.c (.b (!neg)))
 | true,.c (.f _ _)=>A4 (.c (.b neg))
 | false,.c .np=>A4 (.c (.b (!neg)))
 | false,.c (.p _ _)=>A4 (.c (.b neg))
 | _,_=>A7
def A6H(x:Val):Option Val :=
 match x with
 | .c (.p id off)=>A4 (.c (.p id off))
 | .c (.f g cs)=>A4 (.c (.f g cs))
 | _=>A7
def aeq(neg:Bool)(sh:List Sh)(x y:Val):Option Val :=
 match x,y with
 | .a l,.a l'=>if l.map Cell.sh=sh.map A4/\l'.map Cell.sh=sh.map A4 then A4 (.c (.b (bif neg then !(decide (l=l')) else decide (l=l')))) else A7
 | _,_=>A7
def aun(op:UnOp)(x:Val):Option Val :=
 match op,x with
 | .not,.c (.b b)=>A4 (.c (.b (!b)))
 | .neg,.c (.i k n)=>A4 (.c (.i k (k.wrap (0-n))))
 | .xor,.c (.i k n)=>A4 (.c (.i k (k.wrap (BitVec.ofInt k.bits (if k.signed then -1 else k.max) ^^^ BitVec.ofInt k.bits n).toNat)))
 | _,_=>A7
def C9L(c a b:Val):Option Val :=
 match c with
 | .c (.b x)=>A4 (bif x then a else b)
 | _=>A7
def rd(h:A9)(id:Nat):Option Row:=(h[id]?).join
def Cell.isX:Cell->Bool
 | .dark=>A5
 | .mh=>A5
 | .hk _ _=>A5
 | .hx _=>A5
 | _=>A6
def Cell.isD:Cell->Bool
 | .dark=>A5
 | _=>A6
def noX(l:List Cell):Bool:=l.all λc=>!c.isX
def B8(h:A9):Val->Option Val
 | .c (.p id off)=>(rd h id).bind λr=>(r.cells[off]?).bind λc=>bif r.rw || !c.isX then A4 (.c c) else A7
 | _=>A7
def D3(h:A9)(n:Nat):Val->Option Val
 | .c (.p id off)=>(rd h id).bind λr=>if off+n<=r.cells.length/\(r.rw||noX ((r.cells.drop off).take n))=A5 then A4 (.a ((r.cells.drop off).take n)) else A7
 | _=>A7
def lay(cs:List Cell)(off:Nat)(xs:List Cell):List Cell:=cs.take off++(xs++cs.drop (off+xs.length))
def I7(h:A9)(a x:Val):Option A9 :=
 match a,x with
 | .c (.p id off),.c x=>(rd h id).bind λr=>if r.rw=A5/\off<r.cells.length then A4 (h.set id (A4 ⟨r.cells.set off x,A5⟩)) else A7
 | _,_=>A7
def G0(h:A9)(n:Nat)(a x:Val):Option A9 :=
 match a,x with
 | .c (.p id off),.a xs=>(rd h id).bind λr=>if r.rw=A5/\xs.length=n/\off+n<=r.cells.length then A4 (h.set id (A4 ⟨lay r.cells off xs,A5⟩)) else A7
 | _,_=>A7
def gF(h:A9)(n0:Nat)(slot:Option Nat)(r:Row):Nat × A9 :=
 match slot with
 | none=>(h.length,h++[A4 r])
 | some j=>(n0+j,h.set (n0+j) (A4 r))
def F9(zero:List Cell):List (Nat × Nat × Val)->Option (List Cell)
 | []=>A4 zero
 | (off,n,v)::r =>
  match cells? v with
  | some xs=>if xs.length=n/\off+n<=zero.length then F9 (lay zero off xs) r else A7
  | none=>A7
def D2z(k:IntKind):Val->Option Val
 | .c (.i _ n)=>A4 (.c (.i k (k.wrap n)))
 | _=>A7
def qW(h:A9):Val->Option (List Cell)
 | .c .ns=>A4 []
 | .c (.sl id off len sz)=>(rd h id).bind λr=>if off+len*sz<=r.cells.length/\(r.rw||noX ((r.cells.drop off).take (len*sz)))=A5 then A4 ((r.cells.drop off).take (len*sz)) else A7
 | _=>A7
def C9S:Cell->Option UInt8
 | .i .u8 n=>if 0<=n/\n<256 then A4 (UInt8.ofNat n.toNat) else A7
 | _=>A7
def bytes? : List Cell->Option (List UInt8)
 | []=>A4 []
 | c::r=>(C9S c).bind λx=>(bytes? r).map λl=>x::l
def D1j(x:Val):Option Val :=
 match x with
 | .c (.s s)=>A4 (.c (.s s))
 | _=>A7
def B7H(h:A9)(x:Val):Option Val :=
 match x with
 | .c (.sl id off len sz)=>if sz=1 then ((qW h (.c (.sl id off len sz))).bind bytes?).map λs=>.c (.s s) else A7
 | .c .ns=>A4 (.c (.s []))
 | _=>A7
def C3e(h:A9)(n0:Nat)(own:Option Nat)(x:Val):Option Val :=
 match own with
 | none=>B7H h x
 | some j =>
  match x with
  | .c (.sl id off len sz)=>if id=n0+j then B7H h (.c (.sl id off len sz)) else A7
  | _=>A7
def B4(l:List UInt8):List Cell:=l.map λx=>.i .u8 x.toNat
def bound(x:Option Val)(d:Nat):Option Nat :=
 match x with
 | none=>A4 d
 | some (.c (.i _ n))=>if 0<=n then A4 n.toNat else A7
 | _=>A7
def E2b(x:Val)(lo hi:Option Val):Option Val :=
 match x with
 | .c (.s s)=>(bound lo 0).bind λl=>(bound hi s.length).bind λh=>if l<=h/\h<=s.length then A4 (.c (.s ((s.take h).drop l))) else A7
 | _=>A7
def D7M(sz:Nat)(x:Val)(lo hi:Option Val):Option Val :=
 match x with
 | .c (.sl id off len sz')=>(bound lo 0).bind λl=>(bound hi len).bind λh=>if l<=h/\h<=len/\sz=sz' then A4 (.c (.sl id (off+l*sz) (h-l) sz)) else A7
 | .c .ns=>(bound lo 0).bind λl=>(bound hi 0).bind λh=>if l=0/\h=0 then A4 (.c .ns) else A7
 | _=>A7
def D1o(hp:A9)(n sz:Nat)(x:Val)(lo hi:Option Val):Option Val :=
 match x with
 | .c (.p id off)=>(rd hp id).bind λr=>(bound lo 0).bind λl=>(bound hi n).bind λh =>
   if l<=h/\h<=n/\off+n*sz<=r.cells.length/\(r.rw||(r.cells[off]?).any λc=>!c.isX)=A5 then A4 (.c (.sl id (off+l*sz) (h-l) sz)) else A7
 | _=>A7
def U8(x:Val)(off:Nat):Option Val :=
 match x with
 | .c (.p id o)=>A4 (.c (.p id (o+off)))
 | _=>A7
def L6(n sz:Nat)(x i:Val):Option Val :=
 match x,i with
 | .c (.p id o),.c (.i _ j)=>if 0<=j/\j<n then A4 (.c (.p id (o+j.toNat*sz))) else A7
 | _,_=>A7
def F5(sz:Nat)(x i:Val):Option Val :=
 match x,i with
 | .c (.sl id o len sz'),.c (.i _ j)=>if 0<=j/\j<len/\sz=sz' then A4 (.c (.p id (o+j.toNat*sz))) else A7
 | _,_=>A7
def B6A(x:Val)(off:Nat):Option Val :=
 match x with
 | .a l=>(l[off]?).map .c
 | _=>A7
def D6K(x:Val)(off n:Nat):Option Val :=
 match x with
 | .a l=>if off+n<=l.length then A4 (.a ((l.drop off).take n)) else A7
 | _=>A7
def A44(n:Nat)(x i:Val):Option Val :=
 match x,i with
 | .a l,.c (.i _ j)=>if 0<=j/\j<n then (l[j.toNat]?).map .c else A7
 | _,_=>A7
def D1l(n sz:Nat)(x i:Val):Option Val :=
 match x,i with
 | .a l,.c (.i _ j)=>if 0<=j/\j<n/\j.toNat*sz+sz<=l.length then A4 (.a ((l.drop (j.toNat*sz)).take sz)) else A7
 | _,_=>A7
def C6b(x i:Val):Option Val :=
 match x,i with
 | .c (.s s),.c (.i _ j)=>if 0<=j then (s[j.toNat]?).map λb=>.c (.i .u8 b.toNat) else A7
 | _,_=>A7
def ofPart:Part->Val
 | .c x=>.c x
 | .a l=>.a l
def D9x(x:Val)(k:Nat):Option Val :=
 match x with
 | .t l=>(l[k]?).map ofPart
 | _=>A7
def D2C(x:Val):Option Val :=
 match x with
 | .c (.s s)=>A4 (.c (.i .i64 s.length))
 | _=>A7
def B5X(x:Val):Option Val :=
 match x with
 | .c (.sl _ _ len _)=>A4 (.c (.i .i64 len))
 | .c .ns=>A4 (.c (.i .i64 0))
 | _=>A7
def V7(h:A9)(sz:Nat):Val->Option (List Cell)
 | .c (.s s)=>if sz=1 then A4 (B4 s) else A7
 | .c (.sl id off len sz')=>if sz=sz' then qW h (.c (.sl id off len sz')) else A7
 | .c .ns=>A4 []
 | _=>A7
def uL(h:A9)(sz:Nat)(x y:Val):Option (Val × A9) :=
 (V7 h sz y).bind λys =>
  match x with
  | .c .ns=>if ys.length/sz<=1073741824 then A4 (.c (.sl h.length 0 (ys.length/sz) sz),h++[A4 ⟨ys,A5⟩]) else A7
  | .c (.sl id off len sz')=>(rd h id).bind λr =>
    if r.rw=A5/\off=0/\len*sz=r.cells.length/\sz=sz'/\len+ys.length/sz<=1073741824 then
     A4 (.c (.sl h.length 0 (len+ys.length/sz) sz),h.set id A7++[A4 ⟨r.cells++ys,A5⟩]) else A7
  | _=>A7
def B1I(h:A9)(x:Val):Option Val :=
 match x with
 | .c (.sl id _ len _)=>(rd h id).bind λr=>if r.rw=A5/\0<len then A4 x else A7
 | _=>A7
def C4E(x y:Val):Option Val :=
 match x,y with
 | .c (.i k a),.c (.i _ b)=>A4 (.c (.i k (if b > a then b else a)))
 | _,_=>A7
def B5Y(x y:Val):Option Val :=
 match x,y with
 | .c (.i k a),.c (.i _ b)=>A4 (.c (.i k (if b<a then b else a)))
 | _,_=>A7
def C56(h:A9)(sz:Nat)(x y:Val):Option (Val × A9) :=
 match y with
 | .c (.s _)=>A7
 | _=>(V7 h sz y).bind λys =>
  match x with
  | .c (.sl id off len sz')=>(rd h id).bind λr =>
    if r.rw=A5/\off+len*sz<=r.cells.length/\sz=sz' then
     A4 (.c (.i .i64 (Nat.min (ys.length/sz) len:Nat)),h.set id (A4 ⟨lay r.cells off (ys.take (Nat.min (ys.length/sz) len*sz)),A5⟩)) else A7
  | _=>A7
def C6i:List Val->Option (List (Nat × Nat))
 | []=>A4 []
 | .c (.p id off)::r=>(C6i r).map λl=>(id,off)::l
 | _=>A7
def E16(fn:Nat)(x:Val):Option Val :=
 match x with
 | .c (.p id off)=>A4 (.c (.fb fn id off))
 | _=>A7
def A3N(fn:Nat)(caps:List Val):Option Val:=(C6i caps).map λl=>.c (.f fn l)
abbrev W3:=List (Cell × Part)
def A5l(e:Cell × Part):List Cell :=
 match e.2 with
 | .c x=>[.hk A6 e.1,.hx x]
 | .a l=>.hk A5 e.1::l.map .hx
def B74(es:W3):List Cell:=.mh::es.flatMap A5l
def C7z(c:Cell)(s:List Cell × W3):List Cell × W3 :=
 match c with
 | .hx x=>(x::s.1,s.2)
 | .hk a k=>([],(k,bif a then .a s.1 else .c (s.1.headD .mh))::s.2)
 | _=>s
def D1W(cs:List Cell):W3:=(cs.foldr C7z ([],[])).2
def D3R(r:Row):Option W3:=if r.rw=A6/\r.cells=B74 (D1W r.cells) then A4 (D1W r.cells) else A7
def Q1(es:W3):Row:=⟨B74 es,A6⟩
def vO(kk:Option IntKind)(c:Cell):Bool :=
 match kk,c with
 | some k,.i k' _=>decide (k'=k)
 | none,.s _=>A5
 | _,_=>A6
def mgo(k:Cell):W3->Nat->Option (Nat × Part)
 | [],_=>A7
 | e::es,i=>if e.1=k then A4 (i,e.2) else mgo k es (i+1)
def A9D(k:Cell)(es:W3):Option (Nat × Part):=mgo k es 0
def A9E(k:Cell)(p:Part)(es:W3):W3 :=
 match A9D k es with
 | some (i,_)=>es.set i (k,p)
 | none=>es++[(k,p)]
def A2S(kk:Option IntKind)(k:Cell)(es:W3):Bool:=vO kk k&&es.all λe=>vO kk e.1
def D1Q(h:A9):Val->Option W3
 | .c .nm=>A4 []
 | .c (.m id)=>(rd h id).bind D3R
 | _=>A7
def B96:Val->Option Cell
 | .c x=>A4 x
 | _=>A7
def C3Q:Val->Option Part
 | .c x=>A4 (.c x)
 | .a l=>A4 (.a l)
 | _=>A7
def wC(ok:Bool)(p:Part)(f:Bool):Val:=match ok with
 | true=>.t [p,.c (.b f)]
 | false=>match p with
  | .c x=>.c x
  | .a l=>.a l
def yK(h:A9)(kk:Option IntKind)(zero:Part)(ok:Bool)(m k:Val):Option Val :=
 (B96 k).bind λk=>(D1Q h m).bind λes=>if A2S kk k es=A5 then
  A4 (match A9D k es with
   | some (_,p)=>wC ok p A5
   | none=>wC ok zero A6) else A7
def A29(h:A9)(kk:Option IntKind)(m k x:Val):Option A9 :=
 match m with
 | .c (.m id)=>(B96 k).bind λk=>(C3Q x).bind λp=>(rd h id).bind λr=>(D3R r).bind λes=>if A2S kk k es=A5 then
  A4 (h.set id (A4 (Q1 (A9E k p es)))) else A7
 | _=>A7
def D2E(h:A9)(kk:Option IntKind)(zero:Part)(m k:Val):Option (Val × A9) :=
 match m with
 | .c (.m id)=>(B96 k).bind λk=>(rd h id).bind λr=>(D3R r).bind λes=>if A2S kk k es=A5 then
  A4 (match A9D k es with
   | some (i,p)=>(.t [p,.c (.i .i64 i)],h)
   | none=>(.t [zero,.c (.i .i64 es.length)],h.set id (A4 (Q1 (es++[(k,zero)]))))) else A7
 | _=>A7
def D2F(h:A9)(m s x:Val):Option A9 :=
 match m,s with
 | .c (.m id),.c (.i .i64 n)=>(C3Q x).bind λp=>(rd h id).bind λr=>(D3R r).bind λes=>if 0<=n then (es[n.toNat]?).bind λe=>A4 (h.set id (A4 (Q1 (es.set n.toNat (e.1,p))))) else A7
 | _,_=>A7
def B54:Val->Option Nat
 | .c (.i .i64 n)=>if 0<=n/\n<=1073741824 then A4 n.toNat else A7
 | _=>A7
def rows(zero:List Cell)(n:Nat):List Cell:=(E68 n zero).flatten
def C40(l:List (Nat × Nat)):List Val:=l.map λq=>.c (.p q.1 q.2)
abbrev L7:=Nat->List Val->A9->Option (Val × A9)
def Row.head(r:Row):Bool :=
 match r.cells with
 | .mh::l=>l.all Cell.isX
 | _=>A6
def Row.own(r:Row):Bool:=r.rw||r.head
open Classical in
def quiet (h:A9) (r:Option (Val × A9)):Option (Val × A9) :=
 r.bind λp=>if h <+: p.2/\(∀ id x,h.length<=id->rd p.2 id=A4 x->x.own=A5) then A4 p else A7
def aV(E:L7)(f:Val)(args:List Val)(h:A9):Option (Val × A9) :=
 match f with
 | .c (.f g caps)=>E g (args++C40 caps) h
 | .c (.fb g id off)=>E g (.c (.p id off)::args) h
 | _=>A7
def E3X(x:Val):Option (List UInt8) :=
 match x with
 | .c (.s s)=>if s.length<=1073741824 then A4 s else A7
 | _=>A7
def C4F(x y:Val):Option Nat:=(B54 x).bind λn=>(B54 y).bind λc=>if n<=c then A4 n else A7
def C52(h:A9)(sz:Nat)(zero:List Cell)(x y:Val):Option (Val × A9) :=
 (B54 y).bind λn =>
  match x with
  | .c .ns=>A4 (.c (.sl h.length 0 n sz),h++[A4 ⟨rows zero n,A5⟩])
  | .c (.sl id off len sz')=>(rd h id).bind λr =>
    if r.rw=A5/\off=0/\len*sz=r.cells.length/\sz=sz'/\len+n<=1073741824 then
     A4 (.c (.sl h.length 0 (len+n) sz),h.set id A7++[A4 ⟨r.cells++rows zero n,A5⟩]) else A7
  | _=>A7
variable {R:Type}
def cnd(v:Val)(a b:Option R):Option R :=
 match v with
 | .c (.b x)=>bif x then a else b
 | _=>A7
def aop (E:L7) (q:Bool) (hr:A9) (n0:Nat) (slot:Option Nat) (o:AOp) (e:Env) (h:A9) (k:Val->A9->Option R):Option R :=
 match o with
 | .mv x=>k (e.ev x) h
 | .nilrow sz=>let p:=gF h n0 slot ⟨[],A5⟩;k (.c (.sl p.1 0 0 sz)) p.2
 | .pick c a b=>(C9L (e.ev c) (e.ev a) (e.ev b)).bind λv=>k v h
 | .alloc zero=>let p:=gF h n0 slot ⟨zero,A5⟩;k (.c (.p p.1 0)) p.2
 | .box x=>(cells? (e.ev x)).bind λcs=>let p:=gF h n0 slot ⟨cs,A5⟩;k (.c (.p p.1 0)) p.2
 | .build zero parts=>(F9 zero (parts.map λp=>(p.1,p.2.1,e.ev p.2.2))).bind λcs=>k (.a cs) h
 | .buildSl sz len zero parts=>(F9 zero (parts.map λp=>(p.1,p.2.1,e.ev p.2.2))).bind λcs=>let p:=gF h n0 slot ⟨cs,A5⟩;k (.c (.sl p.1 0 len sz)) p.2
 | .load1 a=>(B8 hr (e.ev a)).bind λv=>k v h
 | .loadN n a=>(D3 hr n (e.ev a)).bind λv=>k v h
 | .store1 a x=>(I7 h (e.ev a) (e.ev x)).bind λh=>k .un h
 | .storeN n a x=>(G0 h n (e.ev a) (e.ev x)).bind λh=>k .un h
 | .bin op x y=>(O0 op (e.ev x) (e.ev y)).bind λv=>k v h
 | .eqA neg sh x y=>(aeq neg sh (e.ev x) (e.ev y)).bind λv=>k v h
 | .eqB neg x y=>(D46 neg (e.ev x) (e.ev y)).bind λv=>k v h
 | .eqN fn neg x=>(D1k fn neg (e.ev x)).bind λv=>k v h
 | .nilc x=>(A6H (e.ev x)).bind λv=>k v h
 | .un op x=>(aun op (e.ev x)).bind λv=>k v h
 | .conv kd x=>(D2z kd (e.ev x)).bind λv=>k v h
 | .convS x=>(D1j (e.ev x)).bind λv=>k v h
 | .s2b x=>(E3X (e.ev x)).bind λs=>let p:=gF h n0 slot ⟨B4 s,A5⟩;k (.c (.sl p.1 0 s.length 1)) p.2
 | .b2s x=>(B7H hr (e.ev x)).bind λv=>k v h
 | .b2sN own x=>(C3e h n0 own (e.ev x)).bind λv=>k v h
 | .mark x=>(B1I h (e.ev x)).bind λv=>k v h
 | .mkf fn caps=>(A3N fn (caps.map e.ev)).bind λv=>k v h
 | .mkb fn x=>(E16 fn (e.ev x)).bind λv=>k v h
 | .mkSl sz zero len cap=>(C4F (e.ev len) (e.ev cap)).bind λn=>let p:=gF h n0 slot ⟨rows zero n,A5⟩;k (.c (.sl p.1 0 n sz)) p.2
 | .slS x lo hi=>(E2b (e.ev x) (lo.map e.ev) (hi.map e.ev)).bind λv=>k v h
 | .slL sz x lo hi=>(D7M sz (e.ev x) (lo.map e.ev) (hi.map e.ev)).bind λv=>k v h
 | .slA n sz x lo hi=>(D1o hr n sz (e.ev x) (lo.map e.ev) (hi.map e.ev)).bind λv=>k v h
 | .fAddr x off=>(U8 (e.ev x) off).bind λv=>k v h
 | .iAddrA n sz x i=>(L6 n sz (e.ev x) (e.ev i)).bind λv=>k v h
 | .iAddrL sz x i=>(F5 sz (e.ev x) (e.ev i)).bind λv=>k v h
 | .fld1 x off=>(B6A (e.ev x) off).bind λv=>k v h
 | .fldN x off n=>(D6K (e.ev x) off n).bind λv=>k v h
 | .idxA1 n x i=>(A44 n (e.ev x) (e.ev i)).bind λv=>k v h
 | .idxAN n sz x i=>(D1l n sz (e.ev x) (e.ev i)).bind λv=>k v h
 | .idxS x i=>(C6b (e.ev x) (e.ev i)).bind λv=>k v h
 | .ext x j=>(D9x (e.ev x) j).bind λv=>k v h
 | .call f args=>(bif q then quiet h (E f (args.map e.ev) h) else E f (args.map e.ev) h).bind λp=>k p.1 p.2
 | .callV f args=>(bif q then quiet h (aV E (e.ev f) (args.map e.ev) h) else aV E (e.ev f) (args.map e.ev) h).bind λp=>k p.1 p.2
 | .len x=>(B5X (e.ev x)).bind λv=>k v h
 | .lenS x=>(D2C (e.ev x)).bind λv=>k v h
 | .app sz x y=>(uL h sz (e.ev x) (e.ev y)).bind λp=>k p.1 p.2
 | .appZ sz zero x y=>(C52 h sz zero (e.ev x) (e.ev y)).bind λp=>k p.1 p.2
 | .max x y=>(C4E (e.ev x) (e.ev y)).bind λv=>k v h
 | .min x y=>(B5Y (e.ev x) (e.ev y)).bind λv=>k v h
 | .copy sz x y=>(C56 h sz (e.ev x) (e.ev y)).bind λp=>k p.1 p.2
 | .mkMap=>let p:=gF h n0 slot (Q1 []);k (.c (.m p.1)) p.2
 | .look kk z ok m x=>(yK hr kk z ok (e.ev m) (e.ev x)).bind λv=>k v h
 | .mput kk m x y=>(A29 h kk (e.ev m) (e.ev x) (e.ev y)).bind λh=>k .un h
 | .ment kk z m x=>(D2E h kk z (e.ev m) (e.ev x)).bind λp=>k p.1 p.2
 | .mset m x y=>(D2F h (e.ev m) (e.ev x) (e.ev y)).bind λh=>k .un h
def gd(v:Val)(want:Bool)(a b:Option (Val × A9)):Option (Val × A9) :=
 match v with
 | .c (.b x)=>bif x==want then a else b
 | .no=>b
 | _=>A7
def aT (E:L7) (q:Bool) (hr:A9) (n0:Nat) (o:AOper) (e:Env) (h:A9) (k:Val->A9->Option R):Option R :=
 match o.guard with
 | none=>aop E q hr n0 o.slot o.op e h k
 | some g=>(gd (e.get g.1) g.2 (aop E q hr n0 o.slot o.op e h λv h=>A4 (v,h)) (A4 (.no,h))).bind λp=>k p.1 p.2
def B3K (E:L7) (l:List AOper):Env->A9->(Env->A9->Option R)->Option R :=
 List.rec (motive:=λ_=>Env->A9->(Env->A9->Option R)->Option R) (λe h k=>k e h) (λo _ ih e h k=>aT E A6 h 0 o e h λv h=>ih (e.put o.dst v) h k) l
def C9K(E:L7)(o:AOper)(r:List AOper)(e:Env)(h:A9)(k:Env->A9->Option R):B3K E (o::r) e h k=aT E A6 h 0 o e h λv h=>B3K E r (e.put o.dst v) h k:=rfl
def B6z (E:L7) (hr:A9) (n0:Nat) (l:List AOper):Env->A9->(Env->A9->Option R)->Option R :=
 List.rec (motive:=λ_=>Env->A9->(Env->A9->Option R)->Option R) (λe h k=>k e h) (λo _ ih e h k=>aT E A5 hr n0 o e h λv h=>ih (e.put o.dst v) h k) l
def C57(E:L7)(hr:A9)(n0:Nat)(o:AOper)(r:List AOper)(e:Env)(h:A9)(k:Env->A9->Option R):B6z E hr n0 (o::r) e h k=aT E A5 hr n0 o e h λv h=>B6z E hr n0 r (e.put o.dst v) h k:=rfl
def B1l(h:A9)(o:AOp)(e:Env):Option Val :=
 match o with
 | .load1 a=>B8 h (e.ev a)
 | .loadN n a=>D3 h n (e.ev a)
 | _=>A7
open Classical in
def agn (x:Option Val) (v:Val) (k:Option R):Option R:=if x=A4 v then k else A7
def again (l:List (Nat × AOp)) (e:Env) (h:A9) (k:Option R):Option R :=
 List.rec (motive:=λ_=>Option R) k (λc _ ih=>agn (B1l h c.2 e) (e.get c.1) ih) l
def C59(c:Nat × AOp)(l:List (Nat × AOp))(e:Env)(h:A9)(k:Option R):again (c::l) e h k=agn (B1l h c.2 e) (e.get c.1) (again l e h k):=rfl
inductive AExit where
 | normal
 | exit (id:Nat)
 | ret
abbrev B5H(R:Type):=AExit->Env->A9->Option R
abbrev Sm(R:Type):=B5H R->Env->A9->Option R
def E0I(keep:List Nat)(again:Env->A9->Option R)(k:B5H R):B5H R:=λx e h=>match x with | .normal=>again (e.keep keep) h | .exit id=>k (.exit id) e h | .ret=>k .ret e h
def A77 (c:Sm R) (keep:List Nat) (k:B5H R) (n:Nat):Env->A9->Option R :=
 Nat.rec (motive:=λ_=>Env->A9->Option R) (λ_ _=>A7) (λ_ ih e h=>c (E0I keep ih k) e h) n
def C3l(c:Sm R)(keep:List Nat)(k:B5H R)(e:Env)(h:A9):A77 c keep k 0 e h=A7:=rfl
def C3k(c:Sm R)(keep:List Nat)(k:B5H R)(n:Nat)(e:Env)(h:A9):A77 c keep k (n+1) e h=c (λx e h=>match x with | .normal=>A77 c keep k n (e.keep keep) h | .exit id=>k (.exit id) e h | .ret=>k .ret e h) e h:=rfl
def hold{α:Type}(x:α):α:=(λ_=>x) gd
def E1H:Sm R:=λk e h=>(λ_=>k .normal e h) (@B3K Nat)
def E1G (E:L7) (l:List AOper):Sm R:=λk e h=>B3K E l e h λe h=>k .normal e h
def D6q (E:L7) (m:Nat) (l r:List AOper):Sm R:=λk e h=>B6z E h h.length l e (h++E68 m A7) λe h=>B3K E r e h λe h=>k .normal e h
def D2g (E:L7) (m:Nat) (l:List AOper) (s:AOper) (chk:List (Nat × AOp)) (r:List AOper):Sm R:=λk e h=>B6z E h h.length l e (h++E68 m A7) λe h=>aT E A6 h 0 s e h λv h2=>again chk e h2 (B3K E r (e.put s.dst v) h2 λe h=>k .normal e h)
def E0J(keep:List Nat)(b:Sm R)(k:B5H R):B5H R:=λx e h=>match x with | .normal=>hold (b k (e.keep keep) h) | .exit id=>k (.exit id) e h | .ret=>k .ret e h
def D5Q(id:Nat)(k:B5H R):B5H R:=λx e h=>match x with | .exit i=>bif Nat.beq i id then k .normal e h else k (.exit i) e h | .normal=>k .normal e h | .ret=>k .ret e h
def D4O (keep:List Nat) (a b:Sm R):Sm R:=λk e h=>a (E0J keep b k) e h
def C74 (c:Opd) (a b:Sm R):Sm R:=λk e h=>(λ_=>cnd (e.ev c) (a k e h) (b k e h)) (@B3K Nat)
def C0A (id:Nat) (a:Sm R):Sm R:=λk e h=>(λ_=>a (D5Q id k) e h) (@B3K Nat)
def C75 (n:Nat) (keep:List Nat) (a:Sm R):Sm R:=λk e h=>(λ_=>A77 a keep k n (e.keep keep) h) (@B3K Nat)
def E1F (id:Nat):Sm R:=λk e h=>(λ_=>k (.exit id) e h) (@B3K Nat)
def E3K:Sm R:=λk e h=>(λ_=>k .ret e h) (@B3K Nat)
def aex (E:L7) (n:Nat):ACode->Sm R
 | .skip=>E1H
 | .ops l=>E1G E l
 | .draw m l r=>D6q E m l r
 | .drawS m l s chk r=>D2g E m l s chk r
 | .seq keep a b=>D4O keep (aex E n a) (aex E n b)
 | .cond c a b=>C74 c (aex E n a) (aex E n b)
 | .block id a=>C0A id (aex E n a)
 | .loop keep a=>C75 n keep (aex E n a)
 | .exit id=>E1F id
 | .ret=>E3K
def ax (E:L7) (n:Nat) (c:ACode):Sm R :=
 ACode.rec (motive:=λ_=>Sm R) E1H (λl=>E1G E l) (λm l r=>D6q E m l r) (λm l s chk r=>D2g E m l s chk r) (λkeep _ _ a b=>D4O keep a b) (λc _ _ a b=>C74 c a b) (λid _ a=>C0A id a) (λkeep _ a=>C75 n keep a) (λid=>E1F id) E3K c
def B9r(E:L7)(n:Nat):∀ c:ACode,(ax E n c:Sm R)=aex E n c
 | .skip=>rfl
 | .ops _=>rfl
 | .draw _ _ _=>rfl
 | .drawS _ _ _ _ _=>rfl
 | .seq keep a b=>by show D4O keep (ax E n a) (ax E n b)=D4O keep (aex E n a) (aex E n b);rw [B9r E n a,B9r E n b]
 | .cond c a b=>by show C74 c (ax E n a) (ax E n b)=C74 c (aex E n a) (aex E n b);rw [B9r E n a,B9r E n b]
 | .block id a=>by show C0A id (ax E n a)=C0A id (aex E n a);rw [B9r E n a]
 | .loop keep a=>by show C75 n keep (ax E n a)=C75 n keep (aex E n a);rw [B9r E n a]
 | .exit _=>rfl
 | .ret=>rfl
inductive ARes where
 | tmp (t:Nat)
 | cell1 (t:Nat)
 | cellN (t n:Nat)
def D7L(e:Env)(h:A9):ARes->Option Val
 | .tmp t=>A4 (e.get t)
 | .cell1 t=>B8 h (e.get t)
 | .cellN t n=>D3 h n (e.get t)
def vP:Val->Option Part
 | .c x=>A4 (.c x)
 | .a l=>A4 (.a l)
 | _=>A7
def C3j(e:Env)(h:A9):List ARes->Option (List Part)
 | []=>A4 []
 | r::l=>(D7L e h r).bind λv=>(vP v).bind λp=>(C3j e h l).map λq=>p::q
def qK(rs:List ARes)(e:Env)(h:A9):Option (Val × A9) :=
 match rs with
 | [r]=>(D7L e h r).map λv=>(v,h)
 | rs=>(C3j e h rs).map λl=>(.t l,h)
def C8p:List (Option Val)->Option (List Part)
 | []=>A4 []
 | r::l=>r.bind λv=>(vP v).bind λp=>(C8p l).map λq=>p::q
def C2N(l:List (Option Val))(h:A9):Option (Val × A9):=(C8p l).map λl=>(.t l,h)
structure AFn where
 code:ACode
 res:List ARes
def params:Nat->List Val->Env
 | _,[]=>[]
 | i,v::r=>(i,v)::params (i+1) r
def AFn.fin(f:AFn):AExit->Env->A9->Option (Val × A9)
 | .normal,e,h=>qK f.res e h
 | .ret,e,h=>qK f.res e h
 | .exit _,_,_=>A7
def AFn.run (f:AFn) (E:L7) (n:Nat) (args:List Val) (h:A9):Option (Val × A9) :=
 aex E n f.code f.fin (params 0 args) h
def E3Y{f:AFn}{E:L7}{n:Nat}{args:List Val}{h:A9}:f.run E n args h=ax E n f.code f.fin (params 0 args) h:=by
 rw [B9r];rfl
def aO(d:Nat)(x:AOp):AOper:={ dst:=A4 d,op:=x }
def aN(x:AOp):AOper:={ dst:=A7,op:=x }
def aG(d g:Nat)(w:Bool)(x:AOp):AOper:={ dst:=A4 d,op:=x,guard:=A4 (g,w) }
def aM(d t:Nat):AOper:=aO d (.mv (.t t))
def aL(d t:Nat):AOper:=aO d (.load1 (.t t))
def aL'(d n t:Nat):AOper:=aO d (.loadN n (.t t))
def aF(d t k:Nat):AOper:=aO d (.fAddr (.t t) k)
def aB(d t:Nat):AOper:=aO d (.box (.t t))
def sO(k:List Nat)(l:List AOper)(b:ACode):ACode:=.seq k (.ops l) b
end
def All2{α β:Type}(R:α -> β -> Prop):List α -> List β -> Prop
 | [],[]=>True
 | a::l,b::m=>R a b/\All2 R l m
 | _,_=>False
section
variable {α β:Type} {R S:α -> β -> Prop}
@[simp] theorem All2.nil_nil:All2 R [] []=True:=rfl
@[simp] theorem All2.cons_cons {a:α} {l:List α} {b:β} {m:List β}:All2 R (a::l) (b::m)=(R a b/\All2 R l m):=rfl
@[simp] theorem All2.nil_cons {b:β} {m:List β}:All2 R [] (b::m)=False:=rfl
@[simp] theorem All2.cons_nil {a:α} {l:List α}:All2 R (a::l) []=False:=rfl
def All2.mono(h:∀ a b,R a b->S a b):∀ {l:List α} {m:List β},All2 R l m->All2 S l m
 | [],[],_=>trivial
 | _::_,_::_,⟨h1,h2⟩=>⟨h _ _ h1,All2.mono h h2⟩
 | [],_::_,h=>h.elim
 | _::_,[],h=>h.elim
def All2.length:∀ {l:List α} {m:List β},All2 R l m->l.length=m.length
 | [],[],_=>rfl
 | _::_,_::_,⟨_,h2⟩=>by simp [All2.length h2]
 | [],_::_,h=>h.elim
 | _::_,[],h=>h.elim
def All2.get:∀ {l:List α} {m:List β},All2 R l m->∀ (i:Nat) (a:α),l[i]?=A4 a->∃ b,m[i]?=A4 b/\R a b
 | [],[],_,i,a,h=>by simp at h
 | x::l,y::m,⟨h1,h2⟩,0,a,h=>by simp at h;subst h;exact ⟨y,rfl,h1⟩
 | x::l,y::m,⟨h1,h2⟩,i+1,a,h=>by simp at h;simpa using All2.get h2 i a h
 | [],_::_,h,_,_,_=>h.elim
 | _::_,[],h,_,_,_=>h.elim
def All2.of_get:∀ {l:List α} {m:List β},l.length=m.length->(∀ (i:Nat) (a:α) (b:β),l[i]?=A4 a->m[i]?=A4 b->R a b)->All2 R l m
 | [],[],_,_=>trivial
 | x::l,y::m,hl,h=>⟨h 0 x y rfl rfl,All2.of_get (by simpa using hl) λi a b h1 h2=>h (i+1) a b (by simpa using h1) (by simpa using h2)⟩
 | [],_::_,h,_=>by simp at h
 | _::_,[],h,_=>by simp at h
def All2.append:∀ {l l':List α} {m m':List β},All2 R l m->All2 R l' m'->All2 R (l++l') (m++m')
 | [],_,[],_,_,h=>h
 | _::_,_,_::_,_,⟨h1,h2⟩,h=>⟨h1,All2.append h2 h⟩
 | [],_,_::_,_,h,_=>h.elim
 | _::_,_,[],_,h,_=>h.elim
def All2.take:∀ {l:List α} {m:List β} (n:Nat),All2 R l m->All2 R (l.take n) (m.take n)
 | [],[],n,_=>by simp
 | _::_,_::_,0,_=>by simp
 | _::_,_::_,n+1,⟨h1,h2⟩=>by simpa using ⟨h1,All2.take n h2⟩
 | [],_::_,_,h=>h.elim
 | _::_,[],_,h=>h.elim
def All2.drop:∀ {l:List α} {m:List β} (n:Nat),All2 R l m->All2 R (l.drop n) (m.drop n)
 | [],[],n,_=>by simp
 | _::_,_::_,0,h=>by simpa using h
 | _::_,_::_,n+1,⟨_,h2⟩=>by simpa using All2.drop n h2
 | [],_::_,_,h=>h.elim
 | _::_,[],_,h=>h.elim
def All2.flatten_replicate{l:List α}{m:List β}(h:All2 R l m):∀ n,All2 R (E68 n l).flatten (E68 n m).flatten
 | 0=>trivial
 | n+1=>by simpa [E7P] using h.append (All2.flatten_replicate h n)
end
abbrev Mu:=Nat->Option (Nat × Nat)
def Mu.le(m m':Mu):Prop:=∀ id x,m id=A4 x->m' id=A4 x
def Mu.le_refl(m:Mu):m.le m:=λ_ _ h=>h
def Mu.le_trans{a b c:Mu}(h:a.le b)(k:b.le c):a.le c:=λ_ _ x=>k _ _ (h _ _ x)
def RPtr(U:Mu)(q:Nat × Nat)(V:Value):Prop:=∃ b n,U q.1=A4 (b,n)/\V=.pointer (A4 ⟨b,q.2,A7⟩)
def RC(U:Mu):Cell->Value->Prop
 | .b x,V=>V=.bool x
 | .i k n,V=>V=.int k n
 | .s x,V=>V=.string ⟨x.toArray⟩
 | .p id off,V=>RPtr U (id,off) V
 | .np,V=>V=.pointer A7
 | .sl id off len sz,V=>(∃ b n cap,U id=A4 (b,n)/\len<=cap/\off+cap*sz<=n/\V=.slice (A4 ⟨b,off,A7⟩) len cap)\/(len=0/\∃ a,V=.slice a 0 0)
 | .ns,V=>V=.slice A7 0 0
 | .f fn caps,V=>∃ cs:List Value,V=.func (.func fn) #[] cs.toArray/\All2 (RPtr U) caps cs
 | .fb fn id off,V=>∃ P:Value,RPtr U (id,off) P/\V=.func (.func fn) #[P] #[]
 | .nf,V=>V=.nilFunc
 | .m id,V=>∃ b n,U id=A4 (b,n)/\V=.map (A4 b)
 | .nm,V=>V=.map A7
 | .dark,_=>False
 | .mh,_=>False
 | .hk _ _,_=>False
 | .hx _,_=>False
def RPtr.mono{U U':Mu}(h:U.le U'){q:Nat × Nat}{V:Value}:RPtr U q V->RPtr U' q V :=
 λ⟨b,n,h1,h2⟩=>⟨b,n,h _ _ h1,h2⟩
def RC.mono{U U':Mu}(h:U.le U'){c:Cell}{V:Value}(hc:RC U c V):RC U' c V:=by
 cases c with
 | p id off=>exact RPtr.mono h hc
 | sl id off len sz =>
  rcases hc with ⟨b,n,cap,h1,h2⟩ | hc
  ·exact .inl ⟨b,n,cap,h _ _ h1,h2⟩
  ·exact .inr hc
 | f fn caps=>obtain ⟨cs,h1,h2⟩:=hc;exact ⟨cs,h1,h2.mono λ_ _=>RPtr.mono h⟩
 | fb fn id off=>obtain ⟨P,h1,h2⟩:=hc;exact ⟨P,RPtr.mono h h1,h2⟩
 | m id=>obtain ⟨b,n,h1,h2⟩:=hc;exact ⟨b,n,h _ _ h1,h2⟩
 | _=>exact hc
def RC.one{U:Mu}{c:Cell}{V:Value}(hc:RC U c V):V.oneCell'=A5:=by
 cases c with
 | sl id off len sz=>rcases hc with ⟨b,n,cap,_,_,_,rfl⟩ | ⟨_,a,rfl⟩<;>rfl
 | p id off=>obtain ⟨b,n,_,rfl⟩:=hc;rfl
 | f fn caps=>obtain ⟨cs,rfl,_⟩:=hc;rfl
 | fb fn id off=>obtain ⟨P,_,rfl⟩:=hc;rfl
 | m id=>obtain ⟨b,n,_,rfl⟩:=hc;rfl
 | b x=>cases hc;rfl
 | i k n=>cases hc;rfl
 | s x=>cases hc;rfl
 | np=>cases hc;rfl
 | ns=>cases hc;rfl
 | nf=>cases hc;rfl
 | nm=>cases hc;rfl
 | dark=>exact hc.elim
 | mh=>exact hc.elim
 | hk _ _=>exact hc.elim
 | hx _=>exact hc.elim
def RC.cells{U:Mu}{c:Cell}{V:Value}(hc:RC U c V):V.cells = #[V]:=by
 have:=hc.one;cases V<;>simp_all [Value.oneCell',Value.cells]
def RP(U:Mu):Part->Value->Prop
 | .c x,V=>RC U x V
 | .a l,V=>∃ vs:List Value,V=.agg vs.toArray/\All2 (RC U) l vs
def RV(U:Mu):Val->Value->Prop
 | .un,_=>True
 | .no,V=>V=undef
 | .c x,V=>RC U x V
 | .a l,V=>∃ vs:List Value,V=.agg vs.toArray/\All2 (RC U) l vs
 | .t l,V=>∃ vs:List Value,V=.tuple vs.toArray/\All2 (RP U) l vs
def RP.mono{U U':Mu}(h:U.le U'){c:Part}{V:Value}(hc:RP U c V):RP U' c V:=by
 cases c with
 | c x=>exact RC.mono h hc
 | a l=>obtain ⟨vs,h1,h2⟩:=hc;exact ⟨vs,h1,h2.mono λ_ _=>RC.mono h⟩
def RV.mono{U U':Mu}(h:U.le U'){c:Val}{V:Value}(hc:RV U c V):RV U' c V:=by
 cases c with
 | un=>trivial
 | no=>exact hc
 | c x=>exact RC.mono h hc
 | a l=>obtain ⟨vs,h1,h2⟩:=hc;exact ⟨vs,h1,h2.mono λ_ _=>RC.mono h⟩
 | t l=>obtain ⟨vs,h1,h2⟩:=hc;exact ⟨vs,h1,h2.mono λ_ _=>RP.mono h⟩
def RV.cells{U:Mu}{v:Val}{V:Value}{cs:List Cell}(h:RV U v V)(hc:cells? v=A4 cs):All2 (RC U) cs V.cells.toList:=by
 cases v with
 | c x=>simp [cells?] at hc;subst hc;rw [RC.cells h];exact ⟨h,trivial⟩
 | a l=>simp [cells?] at hc;subst hc;obtain ⟨vs,rfl,h2⟩:=h;simpa [Value.cells] using h2
 | un=>simp [cells?] at hc
 | no=>simp [cells?] at hc
 | t l=>simp [cells?] at hc
def RV.ofPart{U:Mu}{p:Part}{V:Value}(h:RP U p V):RV U (ofPart p) V:=by
 cases p<;>exact h
def RP.ofVal{U:Mu}{v:Val}{p:Part}{V:Value}(h:RV U v V)(hp:vP v=A4 p):RP U p V:=by
 cases v<;>simp [vP] at hp<;>subst hp<;>exact h
def RL(U:Mu)(rw:Bool)(c:Cell)(V:Value):Prop:=RC U c V\/(rw=A6/\c.isD=A5)
def C7l{c:Cell}(h:c.isD=A5):c.isX=A5:=by cases c<;>simp_all [Cell.isD,Cell.isX]
def RL.mono{U U':Mu}(h:U.le U'){rw:Bool}{c:Cell}{V:Value}:RL U rw c V->RL U' rw c V
 | .inl k=>.inl (k.mono h)
 | .inr k=>.inr k
def RL.told{U:Mu}{rw:Bool}{c:Cell}{V:Value}(h:RL U rw c V)(hx:(rw || !c.isX)=A5):RC U c V:=by
 rcases h with h | ⟨h1,h2⟩
 ·exact h
 ·rw [h1,C7l h2] at hx;cases hx
def RL.all{U:Mu}{rw:Bool}:∀ {l:List Cell} {vs:List Value},All2 (RL U rw) l vs->(rw||noX l)=A5->All2 (RC U) l vs
 | [],[],_,_=>trivial
 | c::l,V::vs,⟨h1,h2⟩,hx=>by
  have hx':(rw || !c.isX)=A5/\(rw||noX l)=A5:=by
   cases rw<;>simp_all [noX]
  exact ⟨h1.told hx'.1,RL.all h2 hx'.2⟩
 | [],_::_,h,_=>h.elim
 | _::_,[],h,_=>h.elim
def RE(U:Mu)(e:Cell × Part)(E:MapEntry):Prop:=RC U e.1 E.key/\RP U e.2 E.val
def RE.mono{U U':Mu}(h:U.le U'){e:Cell × Part}{E:MapEntry}(k:RE U e E):RE U' e E:=⟨k.1.mono h,k.2.mono h⟩
def MemOk(U:Mu)(w:World)(b n:Nat)(r:Row):Prop :=
 ∃ C elem fz,w.heap[b]?=A4 (.cells C elem fz)/\C.size=n/\All2 (RL U r.rw) r.cells (C.toList.take r.cells.length)/\(r.rw=A5->fz.1=fz.2\/n<=fz.1)
def E42(U:Mu)(w:World)(b:Nat)(r:Row):Prop :=
 ∃ es E,r=Q1 es/\w.heap[b]?=A4 (.map E E.size)/\All2 (RE U) es E.toList/\∀ (i:Nat) (e:MapEntry),E[i]?=A4 e->e.born=i
def E3M(w:World)(b:Nat)(r:Row):Prop:=r.rw=A6/\b<w.heap.size/\r.cells.all Cell.isD=A5
def RowOk(U:Mu)(w:World)(id:Nat)(r:Row):Prop :=
 match U id with
 | none=>r.cells=[]
 | some (b,n)=>MemOk U w b n r\/E42 U w b r\/E3M w b r
def D1v(e:Cell × Part):∀ c∈A5l e,c.isX=A5:=by
 intro c hc;unfold A5l at hc;split at hc
 ·simp at hc;rcases hc with rfl | rfl<;>rfl
 ·simp at hc;rcases hc with rfl | ⟨x,_,rfl⟩<;>rfl
def C7v(es:W3):∀ c∈B74 es,c.isX=A5:=by
 intro c hc;simp only [B74,E7m,List.mem_flatMap] at hc;rcases hc with rfl | ⟨e,_,hc⟩
 ·rfl
 ·exact D1v e c hc
def Row.head_mrow(es:W3):(Q1 es).head=A5:=by
 show (es.flatMap A5l).all Cell.isX=A5;rw [E7D];exact λc hc=>C7v es c (List.mem_cons_of_mem _ hc)
def Row.head_isX{r:Row}(h:r.head=A5):∀ c∈r.cells,c.isX=A5:=by
 unfold Row.head at h;split at h
 ·rename_i l hl;intro c hc;rw [hl] at hc;rcases E7m.1 hc with rfl | hc
  ·rfl
  ·exact E7D.1 h c hc
 ·cases h
def Row.own_rw{r:Row}(h:r.rw=A5):r.own=A5:=by simp [Row.own,h]
def Row.own_mrow(es:W3):(Q1 es).own=A5:=by simp [Row.own,Row.head_mrow]
structure Ctx where
 F:Nat->Option Obj
 os:Os
 tape:Nat->Question->Nat
 output:Array (Nat × ByteArray)
 ds:List Deferred:=[]
structure Ctx.ok(J:Ctx)(w:World):Prop where
 os:w.os = J.os
 tape:w.tape = J.tape
 output:w.output = J.output
 block:∀ b o,J.F b=A4 o->w.heap[b]?=A4 o
structure Inv(J:Ctx)(U:Mu)(h:A9)(w:World):Prop where
 rows:∀ id r,rd h id=A4 r->RowOk U w id r
 sep:∀ id dX r r' x x',rd h id=A4 r->rd h dX=A4 r'->r.own=A5->id≠dX -> U id=A4 x -> U dX=A4 x'->x.1≠x'.1
 own:∀ id r x,rd h id=A4 r->r.own=A5 -> U id=A4 x -> J.F x.1=A7
 dom:∀ id,h.length<=id -> U id=A7
 ctx:J.ok w
def SEnv(U:Mu)(e:Env)(a:Act):Prop:=∀ t,RV U (e.get t) (a.tmps.getD t undef)
def SEnv.mono{U U':Mu}(h:U.le U'){e:Env}{a:Act}(hs:SEnv U e a):SEnv U' e a:=λt=>(hs t).mono h
def Env.get_put_same(e:Env)(d:Nat)(v:Val):(e.put (A4 d) v).get d=v:=by simp [Env.put,Env.get]
def Env.get_put_other(e:Env)(d t:Nat)(v:Val)(h:d≠t):(e.put (A4 d) v).get t=e.get t:=by
 have:Nat.beq d t=A6:=by cases hb:Nat.beq d t with
  | false=>rfl
  | true=>exact absurd (Nat.eq_of_beq_eq_true hb) h
 simp [Env.put,Env.get,this]
def SEnv.put{U:Mu}{e:Env}{a:Act}(hs:SEnv U e a){d:Option Nat}{v:Val}{V:Value}(hd:∀ t,d=A4 t->t<a.tmps.size)(hv:RV U v V) :
  SEnv U (e.put d v) (a.put d V):=by
 cases d with
 | none=>exact hs
 | some d =>
  intro t;by_cases h:d=t
  ·subst h;rw [Env.get_put_same];have:=hd d rfl;simpa [Act.put,Array.getD,this] using hv
  ·rw [Env.get_put_other _ _ _ _ h];have h1:(a.put (A4 d) V).tmps.getD t undef=a.tmps.getD t undef:=by
    simp [Act.put,Array.getElem?_setIfInBounds_ne h]
   rw [h1];exact hs t
def Act.size_put(a:Act)(d:Option Nat)(V:Value):(a.put d V).tmps.size=a.tmps.size:=by
 cases d<;>simp [Act.put]
def Env.get_keep(e:Env)(l:List Nat)(t:Nat):(e.keep l).get t=e.get t\/(e.keep l).get t=.un:=by
 induction l with
 | nil=>right;rfl
 | cons x r ih =>
  simp only [Env.keep,Env.get];by_cases h:x=t
  ·subst h;left;simp
  ·have:Nat.beq x t=A6:=by cases hb:Nat.beq x t with
    | false=>rfl
    | true=>exact absurd (Nat.eq_of_beq_eq_true hb) h
   simpa [this] using ih
def SEnv.keep{U:Mu}{e:Env}{a:Act}(hs:SEnv U e a)(l:List Nat):SEnv U (e.keep l) a:=by
 intro t;rcases Env.get_keep e l t with h | h
 ·rw [h];exact hs t
 ·rw [h];trivial
def rd_some{h:A9}{id:Nat}{r:Row}:rd h id=A4 r↔h[id]?=A4 (A4 r):=by
 unfold rd;cases h[id]?<;>simp
def E5{h:A9}{id:Nat}{r:Row}(hr:rd h id=A4 r):id<h.length:=by
 rw [rd_some] at hr;exact (E7b.1 hr).1
def D5{h g:A9}{id:Nat}(hl:id<h.length):rd (h++g) id=rd h id:=by
 unfold rd;rw [E7T hl]
def B6{h g:A9}{id:Nat}{r:Row}(hr:rd h id=A4 r):rd (h++g) id=A4 r:=by
 rw [D5 (E5 hr)];exact hr
def E1{h:A9}{id:Nat}{x:Option Row}(hl:id<h.length):rd (h.set id x) id=x:=by
 unfold rd;rw [List.getElem?_set_self hl];rfl
def B7{h:A9}{id dX:Nat}{x:Option Row}(Z2:id≠dX):rd (h.set id x) dX=rd h dX:=by
 unfold rd;rw [E8c Z2]
def MemOk.mono{U U':Mu}{w w':World}{b n:Nat}{r:Row}(hr:MemOk U w b n r)(mE:U.le U')(hb:w'.heap[b]?=w.heap[b]?):MemOk U' w' b n r:=by
 obtain ⟨C,elem,fz,h1,h2,h3,h4⟩:=hr;exact ⟨C,elem,fz,by rw [hb];exact h1,h2,h3.mono λ_ _=>RL.mono mE,h4⟩
def RowOk.mono{U U':Mu}{w w':World}{id:Nat}{r:Row}(hr:RowOk U w id r)(mE:U.le U')(hid:U' id = U id)
  (hb:∀ x,U id=A4 x->w'.heap[x.1]?=w.heap[x.1]?):RowOk U' w' id r:=by
 unfold RowOk at *;rw [hid];cases hm:U id with
 | none=>rw [hm] at hr;exact hr
 | some x =>
  obtain ⟨b,n⟩:=x;rw [hm] at hr;have hb:=hb _ hm;simp only at hb;rcases hr with hr | ⟨es,E,h1,h2,h3,h4⟩ | ⟨h1,h2,h3⟩
  ·exact .inl (hr.mono mE hb)
  ·exact .inr (.inl ⟨es,E,h1,by rw [hb];exact h2,h3.mono λ_ _=>RE.mono mE,h4⟩)
  ·refine .inr (.inr ⟨h1,?_,h3⟩);have:w.heap[b]?=A4 w.heap[b]:=by simp [h2]
   rw [this] at hb;exact (Array.getElem?_eq_some_iff.1 hb).1
def RowOk.mem{U:Mu}{w:World}{id:Nat}{r:Row}(hr:RowOk U w id r){b n:Nat}(hm:U id=A4 (b,n))(nG:r.rw=A5):MemOk U w b n r:=by
 unfold RowOk at hr;rw [hm] at hr;rcases hr with hr | ⟨es,E,h1,_⟩ | ⟨h1,_⟩
 ·exact hr
 ·rw [h1] at nG;cases nG
 ·rw [h1] at nG;cases nG
def RowOk.seen{U:Mu}{w:World}{id:Nat}{r:Row}(hr:RowOk U w id r){b n:Nat}(hm:U id=A4 (b,n)){c:Cell}(hc:c∈r.cells)(hx:(r.rw || !c.isX)=A5):MemOk U w b n r:=by
 unfold RowOk at hr;rw [hm] at hr;rcases hr with hr | ⟨es,E,h1,_⟩ | ⟨h1,_,h3⟩
 ·exact hr
 ·rw [h1] at hc hx;have:=C7v es c hc;rw [this] at hx;cases hx
 ·have:=C7l (E7D.1 h3 c hc);rw [h1,this] at hx;cases hx
def RowOk.cell{U:Mu}{w:World}{id:Nat}{r:Row}(hr:RowOk U w id r){b n:Nat}(hm:U id=A4 (b,n)){off:Nat}{c:Cell}(hc:r.cells[off]?=A4 c)(hx:(r.rw || !c.isX)=A5) :
  ∃ V,w.cell? ⟨b,off,A7⟩=A4 V/\RC U c V:=by
 obtain ⟨C,elem,fz,h1,h2,h3,h4⟩:=hr.seen hm (E7p hc) hx;obtain ⟨V,hV,hR⟩:=h3.get off c hc;refine ⟨V,?_,hR.told hx⟩;have X4:off<r.cells.length:=(E7b.1 hc).1;rw [E7M X4] at hV;simp only [World.cell?,h1];simpa using hV
def RowOk.cells{U:Mu}{w:World}{id:Nat}{r:Row}(hr:RowOk U w id r){b n:Nat}(hm:U id=A4 (b,n))(off k:Nat)(hk:off+k<=r.cells.length)(hx:(r.rw||noX ((r.cells.drop off).take k))=A5) :
  ∃ vs:List Value,All2 (RC U) ((r.cells.drop off).take k) vs/\vs.length=k/\∀ j v,vs[j]?=A4 v->w.cell? ⟨b,off+j,A7⟩=A4 v:=by
 by_cases hk0:k=0
 ·subst hk0;exact ⟨[],by simp,rfl,λj v h=>by simp at h⟩
 have iZ:MemOk U w b n r:=by
  have X4:off<r.cells.length:=by omega
  refine hr.seen hm (c:=r.cells[off]) (List.getElem_mem _) ?_;cases nG:r.rw with
  | true=>rfl
  | false =>
   rw [nG] at hx;simp only [E79,noX,E7D] at hx ⊢;refine hx _ ?_;obtain ⟨k',rfl⟩:∃ k',k=k'+1:=⟨k-1,by omega⟩;rw [E7g X4,List.take_succ_cons];exact List.mem_cons_self ..
 obtain ⟨C,elem,fz,h1,h2,h3,h4⟩:=iZ;refine ⟨((C.toList.take r.cells.length).drop off).take k,RL.all ((h3.drop off).take k) hx,?_,?_⟩
 ·have:=h3.length;simp at this ⊢;omega
 ·intro j v hv;have hj:j<k:=by
   have:=(E7b.1 hv).1;simp at this;omega
  rw [E7M hj,E8j,E7M (by omega)] at hv;simp only [World.cell?,h1];simpa using hv
def RowOk.there{U:Mu}{w:World}{id:Nat}{r:Row}(hr:RowOk U w id r){b n:Nat}(hm:U id=A4 (b,n)):∃ o,w.heap[b]?=A4 o:=by
 unfold RowOk at hr;rw [hm] at hr;rcases hr with ⟨C,elem,fz,h1,_⟩ | ⟨es,E,_,h1,_⟩ | ⟨_,h1,_⟩
 ·exact ⟨_,h1⟩
 ·exact ⟨_,h1⟩
 ·exact ⟨w.heap[b],by simp [h1]⟩
def D5X(e:Cell × Part)(es:W3):(A5l e).foldr C7z ([],es)=([],e::es):=by
 have hx:∀ (l:List Cell) (s:W3),(l.map Cell.hx).foldr C7z ([],s)=(l,s):=by
  intro l s
  induction l with
  | nil=>rfl
  | cons a l ih=>rw [E7X,List.foldr_cons,ih];rfl
 obtain ⟨k,p⟩:=e;cases p with
 | c x=>rfl
 | a l =>
  show (Cell.hk A5 k::l.map .hx).foldr C7z ([],es)=_;rw [List.foldr_cons,hx];rfl
def A8i(es:W3):D1W (B74 es)=es:=by
 have:∀ es:W3,(es.flatMap A5l).foldr C7z ([],[])=([],es):=by
  intro es
  induction es with
  | nil=>rfl
  | cons e es ih=>rw [List.flatMap_cons,List.foldr_append,ih,D5X]
 show (C7z .mh ((es.flatMap A5l).foldr C7z ([],[]))).2=es;rw [this];rfl
def qO(es:W3):D3R (Q1 es)=A4 es:=by
 unfold D3R Q1;simp [A8i]
def B5s{r:Row}{es:W3}(h:D3R r=A4 es):r=Q1 es:=by
 unfold D3R at h;split at h
 ·rename_i hc;cases h;obtain ⟨cs,rw⟩:=r;obtain ⟨h1,h2⟩:=hc;simp only at h1 h2;subst h1;show Row.mk cs A6=⟨_,A6⟩;rw [<-h2]
 ·cases h
def RowOk.map{U:Mu}{w:World}{id:Nat}{es:W3}(hr:RowOk U w id (Q1 es)){b n:Nat}(hm:U id=A4 (b,n)) :
  ∃ E:Array MapEntry,w.heap[b]?=A4 (.map E E.size)/\All2 (RE U) es E.toList/\∀ (i:Nat) (e:MapEntry),E[i]?=A4 e->e.born=i:=by
 unfold RowOk at hr;rw [hm] at hr;rcases hr with ⟨C,elem,fz,h1,h2,h3,_⟩ | ⟨es',E,h1,h2,h3,h4⟩ | ⟨_,_,h1⟩
 ·exfalso;have hl:=h3.length;cases hC:C.toList.take (Q1 es).cells.length with
  | nil=>rw [hC] at hl;simp [Q1,B74] at hl
  | cons v vs =>
   rw [hC] at h3;rcases h3.1 with h | ⟨_,h⟩
   ·exact h
   ·cases h
 ·have:es=es':=by rw [<-A8i es,<-A8i es'];exact congrArg (λr=>D1W r.cells) h1
  subst this;exact ⟨E,h2,h3,h4⟩
 ·simp [Q1,B74,Cell.isD] at h1
def Inv.lt{J:Ctx}{U:Mu}{h:A9}{w:World}(hi:Inv J U h w){id:Nat}{r:Row}(hr:rd h id=A4 r){x:Nat × Nat}(hx:U id=A4 x):x.1<w.heap.size:=by
 obtain ⟨o,h1⟩:=(hi.rows id r hr).there hx;exact (Array.getElem?_eq_some_iff.1 h1).1
def Mu.add(U:Mu)(id:Nat)(x:Nat × Nat):Mu:=λj=>if j=id then A4 x else U j
def Mu.le_add{U:Mu}{id:Nat}{x:Nat × Nat}(h:U id=A7):U.le (U.add id x):=by
 intro j y hj;unfold Mu.add;by_cases e:j=id
 ·subst e;rw [h] at hj;cases hj
 ·simp [e,hj]
def Inv.world{J:Ctx}{U:Mu}{h:A9}{w w':World}(hi:Inv J U h w)(hos:w'.os=w.os)(htape:w'.tape=w.tape)(hout:w'.output=w.output)
  (hb:∀ b,b<w.heap.size->w'.heap[b]?=w.heap[b]?):Inv J U h w' where
 rows id r hr:=(hi.rows id r hr).mono (Mu.le_refl _) rfl λx hx=>hb _ (hi.lt hr hx)
 sep:=hi.sep
 own:=hi.own
 dom:=hi.dom
 ctx:=⟨hos.trans hi.ctx.os,htape.trans hi.ctx.tape,hout.trans hi.ctx.output,λb o ho=>by
  have h1:=hi.ctx.block b o ho;rw [hb b (Array.getElem?_eq_some_iff.1 h1).1];exact h1⟩
def Inv.fresh{J:Ctx}{U:Mu}{h:A9}{w w':World}(hi:Inv J U h w){id:Nat}{r:Row}{h':A9}{n:Nat}
  (hμ:U id=A7) (hos:w'.os=w.os) (htape:w'.tape=w.tape) (hout:w'.output=w.output)
  (hb:∀ b,b<w.heap.size->w'.heap[b]?=w.heap[b]?)
  (hsame:∀ j,j≠id->∀ x,rd h' j=A4 x->rd h j=A4 x) (D3z:∀ x,rd h' id=A4 x->x=r) (hlen:h.length<=h'.length) (hid:id<h'.length)
  (hrow:RowOk (U.add id (w.heap.size,n)) w' id r):Inv J (U.add id (w.heap.size,n)) h' w' where
 rows j x hx:=by
  by_cases e:j=id
  ·subst e;rw [D3z x hx];exact hrow
  ·exact (hi.rows j x (hsame j e x hx)).mono (Mu.le_add hμ) (by simp [Mu.add,e]) λy hy=>hb _ (hi.lt (hsame j e x hx) hy)
 sep j j' x x' y y' hx hx' nG Z2 hy hy':=by
  unfold Mu.add at hy hy';by_cases e:j=id
  ·subst e;have e':j'≠j:=λh=>Z2 h.symm
   simp at hy;simp [e'] at hy';have:=hi.lt (hsame j' e' x' hx') hy';subst hy;show w.heap.size≠y'.1;omega
  ·simp [e] at hy;by_cases e':j'=id
   ·subst e';simp at hy';have:=hi.lt (hsame j e x hx) hy;subst hy';show y.1≠w.heap.size;omega
   ·simp [e'] at hy';exact hi.sep j j' x x' y y' (hsame j e x hx) (hsame j' e' x' hx') nG Z2 hy hy'
 own j x y hx nG hy:=by
  unfold Mu.add at hy;by_cases e:j=id
  ·subst e;simp at hy;subst hy;show J.F w.heap.size=A7;cases hF:J.F w.heap.size with
   | none=>rfl
   | some o=>have:=(Array.getElem?_eq_some_iff.1 (hi.ctx.block _ _ hF)).1;omega
  ·simp [e] at hy;exact hi.own j x y (hsame j e x hx) nG hy
 dom j hj:=by
  have e:j≠id:=by omega
  simp only [Mu.add,e,if_false];exact hi.dom j (by omega)
 ctx:=⟨hos.trans hi.ctx.os,htape.trans hi.ctx.tape,hout.trans hi.ctx.output,λb o ho=>by
  have h1:=hi.ctx.block b o ho;rw [hb b (Array.getElem?_eq_some_iff.1 h1).1];exact h1⟩
def Inv.turn{J:Ctx}{U:Mu}{h:A9}{w w':World}(hi:Inv J U h w){id:Nat}{r r':Row}{b n:Nat}(hr:rd h id=A4 r)(nG:r.own=A5)(E6v:r'.own=A5)(hμ:U id=A4 (b,n))
  (hos:w'.os=w.os) (htape:w'.tape=w.tape) (hout:w'.output=w.output) (hb:∀ b',b'≠b->w'.heap[b']?=w.heap[b']?)
  (hrow:RowOk U w' id r'):Inv J U (h.set id (A4 r')) w' where
 rows j x hx:=by
  by_cases e:j=id
  ·subst e;rw [E1 (E5 hr)] at hx;cases hx;exact hrow
  ·rw [B7 (Ne.symm e)] at hx;exact (hi.rows j x hx).mono (Mu.le_refl _) rfl λy hy=>hb _ (Ne.symm (hi.sep id j r x (b,n) y hr hx nG (Ne.symm e) hμ hy))
 sep j j' x x' y y' hx hx' hxw Z2 hy hy':=by
  have get:∀ i z,rd (h.set id (A4 r')) i=A4 z->z.own=A5->∃ z',rd h i=A4 z'/\z'.own=A5:=by
   intro i z hz hzw;by_cases e:i=id
   ·subst e;exact ⟨r,hr,nG⟩
   ·rw [B7 (Ne.symm e)] at hz;exact ⟨z,hz,hzw⟩
  have get':∀ i z,rd (h.set id (A4 r')) i=A4 z->∃ z',rd h i=A4 z':=by
   intro i z hz;by_cases e:i=id
   ·subst e;exact ⟨r,hr⟩
   ·rw [B7 (Ne.symm e)] at hz;exact ⟨z,hz⟩
  obtain ⟨z,hz,hzw⟩:=get j x hx hxw;obtain ⟨z',hz'⟩:=get' j' x' hx';exact hi.sep j j' z z' y y' hz hz' hzw Z2 hy hy'
 own j x y hx hxw hy:=by
  by_cases e:j=id
  ·subst e;exact hi.own j r y hr nG hy
  ·rw [B7 (Ne.symm e)] at hx;exact hi.own j x y hx hxw hy
 dom j hj:=hi.dom j (by simpa using hj)
 ctx:=⟨hos.trans hi.ctx.os,htape.trans hi.ctx.tape,hout.trans hi.ctx.output,λb' o ho=>by
  have Z2:b'≠b:=by
   intro e;subst e;have:=hi.own id r (b',n) hr nG hμ;simp at this;rw [ho] at this;cases this
  rw [hb b' Z2];exact hi.ctx.block b' o ho⟩
def Inv.write{J:Ctx}{U:Mu}{h:A9}{w w':World}(hi:Inv J U h w){id:Nat}{r:Row}{b n:Nat}{cs:List Cell}(hr:rd h id=A4 r)(nG:r.rw=A5)(hμ:U id=A4 (b,n))
  (hos:w'.os=w.os) (htape:w'.tape=w.tape) (hout:w'.output=w.output) (hb:∀ b',b'≠b->w'.heap[b']?=w.heap[b']?)
  (hrow:RowOk U w' id ⟨cs,A5⟩):Inv J U (h.set id (A4 ⟨cs,A5⟩)) w' :=
 hi.turn hr (Row.own_rw nG) rfl hμ hos htape hout hb hrow
def oK(P:Program)(t:TypeId):Option Bool :=
 match P.underlying t with
 | some (.struct _)=>A4 A5
 | some (.array _ _)=>A4 A5
 | some _=>A4 A6
 | none=>A7
def T7(P:Program)(t:TypeId):Option Nat:=(P.info? t).map (·.size)
def C6h(P:Program)(t:TypeId):Option Nat:=(P.info? t).map (·.bytes)
def A2G(P:Program)(t:TypeId):Option Value:=(P.info? t).bind (·.zero)
def sliceB(P:Program)(t:TypeId):Option TypeId:=match P.underlying t with | some (.slice e)=>A4 e | _=>A7
def uM(P:Program)(t:TypeId):Option (Nat × TypeId):=match P.underlying t with | some (.array n e)=>A4 (n,e) | _=>A7
def A7b(P:Program)(t:TypeId):Option (Array Field):=match P.underlying t with | some (.struct fs)=>A4 fs | _=>A7
def dW(P:Program)(t:TypeId):Bool:=match P.underlying t with | some .string=>A5 | _=>A6
def B71(P:Program)(t:TypeId):Option IntKind:=match P.underlying t with | some (.int k)=>A4 k | _=>A7
section
variable {P:Program} {w:World} {t:TypeId}
def F8{d:TypeDesc}(h:P.underlying t=A4 d):(underlying t).run P w=.ok d w:=by simp [underlying,h]
def R6{n:Nat}(h:T7 P t=A4 n):(sizeOf t).run P w=.ok n w:=by
 unfold T7 at h;cases hi:P.info? t with
 | none=>simp [hi] at h
 | some i=>simp [hi] at h;simp [sizeOf,typeInfo,hi,h]
def D8X{n:Nat}(h:C6h P t=A4 n):∃ i:TypeInfo,(typeInfo t).run P w=.ok i w/\i.bytes=n:=by
 unfold C6h at h;cases hi:P.info? t with
 | none=>simp [hi] at h
 | some i=>simp [hi] at h;exact ⟨i,by simp [typeInfo,hi],h⟩
def A2A{v:Value}(h:A2G P t=A4 v):(zeroValue t).run P w=.ok v w:=by
 unfold A2G at h;cases hi:P.info? t with
 | none=>simp [hi] at h
 | some i=>simp [hi] at h;simp [zeroValue,typeInfo,hi,h]
def B5B{b:Bool}(h:oK P t=A4 b):(isAgg t).run P w=.ok b w:=by
 unfold oK at h;cases hu:P.underlying t with
 | none=>simp [hu] at h
 | some d=>cases d<;>simp [hu] at h<;>subst h<;>simp [isAgg,F8 hu]
def R0{e:TypeId}(h:sliceB P t=A4 e):P.underlying t=A4 (.slice e):=by
 unfold sliceB at h;cases hu:P.underlying t with
 | none=>simp [hu] at h
 | some d=>cases d<;>simp_all
def uN{n:Nat}{e:TypeId}(h:uM P t=A4 (n,e)):P.underlying t=A4 (.array n e):=by
 unfold uM at h;cases hu:P.underlying t with
 | none=>simp [hu] at h
 | some d=>cases d<;>simp_all
def A7c{fs:Array Field}(h:A7b P t=A4 fs):P.underlying t=A4 (.struct fs):=by
 unfold A7b at h;cases hu:P.underlying t with
 | none=>simp [hu] at h
 | some d=>cases d<;>simp_all
def pK(h:dW P t=A5):P.underlying t=A4 .string:=by
 unfold dW at h;cases hu:P.underlying t with
 | none=>simp [hu] at h
 | some d=>cases d<;>simp_all
def A9A{k:IntKind}(h:B71 P t=A4 k):P.underlying t=A4 (.int k):=by
 unfold B71 at h;cases hu:P.underlying t with
 | none=>simp [hu] at h
 | some d=>cases d<;>simp_all
end
def C41:Value->Cell->Bool
 | .bool b,.b x=>b==x
 | .int k n,.i k' n'=>decide (k=k')&&decide (n=n')
 | .string s,.s l=>decide (s.data.toList=l)
 | .slice A7 0 0,.ns=>A5
 | .nilFunc,.nf=>A5
 | .pointer A7,.np=>A5
 | .map A7,.nm=>A5
 | .func (.func f) _ cs,.f g l=>decide (f=g)&&l.isEmpty&&cs.isEmpty
 | _,_=>A6
def A5c:List Value->List Cell->Bool
 | [],[]=>A5
 | v::r,c::l=>C41 v c&&A5c r l
 | _,_=>A6
def C6n:Value->Val->Bool
 | .agg vs,.a l=>A5c vs.toList l
 | .tuple vs,.un=>vs.isEmpty
 | v,.c x=>C41 v x
 | _,_=>A6
def A01:Value->Bool
 | .func _ f _=>f.isEmpty
 | _=>A5
def D9V:Operand->Opd->Bool
 | .tmp t,.t n=>decide (t=n)
 | .const v,.v x=>C6n v x&&A01 v
 | .func f,.v (.c (.f g []))=>decide (f=g)
 | _,_=>A6
def C6m{U:Mu}{v:Value}{c:Cell}(h:C41 v c=A5)(hf:A01 v=A5):RC U c v:=by
 unfold C41 at h;split at h<;>simp_all [RC,A01]
 all_goals first
  | (obtain ⟨s⟩:=‹ByteArray›;rename_i sY;simp [<-sY];done)
  | skip
 ·subst h;rfl
def C7E:Value->Bool
 | .func ..=>A6
 | _=>A5
def C80{v:Value}(h:C7E v=A5):A01 v=A5:=by cases v<;>simp_all [C7E,A01]
def B3S{U:Mu}:∀ {vs:List Value} {l:List Cell},A5c vs l=A5->vs.all C7E=A5->All2 (RC U) l vs
 | [],[],_,_=>trivial
 | v::r,c::l,h,hn=>by
  simp [A5c] at h;simp at hn;exact ⟨C6m h.1 (C80 hn.1),B3S h.2 (by simpa using hn.2)⟩
 | [],_::_,h,_=>by simp [A5c] at h
 | _::_,[],h,_=>by simp [A5c] at h
def nC(v:Value)(l:List Cell):Bool:=A5c v.cells.toList l&&v.cells.toList.all C7E
def jW{U:Mu}{v:Value}{l:List Cell}(h:nC v l=A5):All2 (RC U) l v.cells.toList:=by
 simp only [nC,E66] at h;exact B3S h.1 h.2
def C9E:Value->Bool
 | .agg vs=>vs.toList.all C7E
 | _=>A5
def D2U{U:Mu}{v:Value}{x:Val}(h:C6n v x=A5)(hf:A01 v=A5)(ha:C9E v=A5):RV U x v:=by
 unfold C6n at h;split at h
 ·rename_i vs l;exact ⟨vs.toList,by simp,B3S h ha⟩
 ·trivial
 ·exact C6m h hf
 ·cases h
def E9(x:Operand)(y:Opd):Bool:=D9V x y&&(match x with | .const v=>C9E v | _=>A5)
def D4{U:Mu}{e:Env}{a:Act}{x:Operand}{y:Opd}(h:E9 x y=A5)(hs:SEnv U e a):RV U (e.ev y) (a.eval x):=by
 simp only [E9,E66] at h;obtain ⟨h,ha⟩:=h;unfold D9V at h;split at h
 ·simp at h;subst h;exact hs _
 ·simp at h;exact D2U h.1 h.2 ha
 ·simp at h;subst h;exact ⟨[],rfl,trivial⟩
 ·cases h
def A6O:List Operand->List Opd->Bool
 | [],[]=>A5
 | x::r,y::l=>E9 x y&&A6O r l
 | _,_=>A6
def A5d{U:Mu}{e:Env}{a:Act}(hs:SEnv U e a):∀ {xs:List Operand} {ys:List Opd},A6O xs ys=A5->All2 (RV U) (ys.map e.ev) (xs.map a.eval)
 | [],[],_=>trivial
 | x::r,y::l,h=>by simp [A6O] at h;exact ⟨D4 h.1 hs,A5d hs h.2⟩
 | [],_::_,h=>by simp [A6O] at h
 | _::_,[],h=>by simp [A6O] at h
def B3U:Option Operand->Option Opd->Bool
 | none,none=>A5
 | some x,A4 y=>E9 x y
 | _,_=>A6
section
variable {P:Program} {U:Mu} {w:World}
def D2Q:∀ (x y:List UInt8),Op.bytesLess x y=Y9 x y
 | _,[]=>by cases ‹List UInt8› <;> rfl
 | [],_::_=>rfl
 | a::x,b::y=>by simp [Op.bytesLess,Y9,D2Q x y]
def E21{op:BinOp}{xt:TypeId}{x y v:Val}{X Y:Value}(hx:RV U x X)(hy:RV U y Y)(h:O0 op x y=A4 v) :
  ∃ V,(binOp op xt X Y).run P w=.ok V w/\RV U v V:=by
 unfold O0 at h;split at h
 ·rename_i k a k' b;have hX:X=.int k a:=hx;have hY:Y=.int k' b:=hy;subst hX hY;have key:∀ o,o≠BinOp.shl->o≠BinOp.shr->∀ v,(bif decide (k=k') then (B4l o k a b).map Val.c else A7)=A4 v->∃ V,(binOp o xt (.int k a) (.int k' b)).run P w=.ok V w/\RV U v V:=by
   intro o h1 h2 v hv;by_cases hk:k=k'
   ·subst hk;simp at hv;obtain ⟨c,hc,rfl⟩:=hv;cases o<;>simp only [B4l] at hc<;>(try cases hc) <;>
     first
      | exact ⟨_,by simp [binOp,Op.intArith,Op.intBits,Op.intCmp],rfl⟩
      | (split at hc<;>cases hc;rename_i hb;exact ⟨_,by simp [binOp,Op.intDiv,hb],rfl⟩)
      | skip
   ·simp [hk] at hv
  split at h
  ·unfold E4x at h;split at h
   ·simp at h
   ·simp at h;subst h;rename_i hb;refine ⟨.int k (k.wrap (a*2 ^ (Nat.min b.toNat k.bits))),?_,rfl⟩;simp [binOp,Op.shift,hb,Nat.min_def]
  ·unfold E4y at h;split at h
   ·simp at h
   ·simp at h;subst h;rename_i hb;refine ⟨.int k (a.fdiv (2 ^ (Nat.min b.toNat k.bits))),?_,rfl⟩;simp [binOp,Op.shift,hb,Nat.min_def]
  ·rename_i h1 h2;exact key op h1 h2 v h
 ·rename_i a b;have hX:X=.string ⟨a.toArray⟩:=hx;have hY:Y=.string ⟨b.toArray⟩:=hy;subst hX hY;simp only [E7t] at h;obtain ⟨c,hc,rfl⟩:=h;cases op<;>simp only [E1z] at hc<;>(try cases hc)
  ·split at hc<;>cases hc
   rename_i hl;refine ⟨.string (⟨a.toArray⟩++⟨b.toArray⟩),?_,?_⟩
   ·have:¬ (((ByteArray.mk a.toArray).size+(ByteArray.mk b.toArray).size:Nat):Int) > IntKind.i64.max:=by
     show ¬ ((a.toArray.size+b.toArray.size:Nat):Int) > 9223372036854775807;simp;omega
    simp [binOp,Op.stringOp] at this ⊢;exact this
   ·show Value.string _=Value.string _
    congr 1
  all_goals exact ⟨_,rfl,by simp [RV,RC,ByteArray.toList_mk,D2Q]⟩
 ·cases h
def D1I(P:Program)(fn:Bool)(t:TypeId)(c:Value):Bool :=
 match fn,P.underlying t,c with
 | true,A4 (.func ..),.nilFunc=>A5
 | false,A4 (.pointer _),.pointer none=>A5
 | _,_,_=>A6
def D8m{fn:Bool}{t:TypeId}{c:Value}(h:D1I P fn t c=A5):(fn=A5/\(∃ a b d,P.underlying t=A4 (.func a b d))/\c=.nilFunc)\/(fn=A6/\(∃ a,P.underlying t=A4 (.pointer a))/\c=.pointer A7):=by
 unfold D1I at h;split at h
 ·rename_i h2;exact .inl ⟨rfl,⟨_,_,_,h2⟩,rfl⟩
 ·rename_i h2;exact .inr ⟨rfl,⟨_,h2⟩,rfl⟩
 ·cases h
def C6O{xt:TypeId}{a b:Bool}(hu:P.underlying xt=A4 .bool):(Op.equal xt (.bool a) (.bool b)).run P w=.ok (a==b) w:=by
 unfold Op.equal;rw [show Op.maxDepth=9999+1 from rfl];unfold Op.equalIn;simp only [Sem.run_bind,F8 hu,Result.andThen_ok];rfl
def E24{neg:Bool}{xt:TypeId}{x y v:Val}{X Y:Value}(hu:P.underlying xt=A4 .bool)(hx:RV U x X)(hy:RV U y Y)(h:D46 neg x y=A4 v) :
  ∃ V,(binOp (bif neg then .neq else .eql) xt X Y).run P w=.ok V w/\RV U v V:=by
 unfold D46 at h;split at h
 ·rename_i a b;have hX:X=.bool a:=hx;have hY:Y=.bool b:=hy;subst hX hY;cases h;cases neg
  ·exact ⟨_,by show (Op.equal xt (.bool a) (.bool b) >>= λr=>pure (Value.bool r)).run P w=_;rw [Sem.run_bind,C6O hu];rfl,rfl⟩
  ·exact ⟨_,by show (Op.equal xt (.bool a) (.bool b) >>= λr=>pure (Value.bool !r)).run P w=_;rw [Sem.run_bind,C6O hu];rfl,rfl⟩
 ·cases h
def E25{fn neg:Bool}{xt:TypeId}{x v:Val}{X c:Value}(hu:D1I P fn xt c=A5)(hx:RV U x X)(h:D1k fn neg x=A4 v) :
  ∃ V,(binOp (bif neg then .neq else .eql) xt X c).run P w=.ok V w/\RV U v V:=by
 unfold D1k at h;have one:∀ (r:Bool),(binOp (bif neg then .neq else .eql) xt X c=(Op.equal xt X c >>= λr=>pure (Value.bool (bif neg then !r else r))))->(Op.equal xt X c).run P w=.ok r w->(binOp (bif neg then .neq else .eql) xt X c).run P w=.ok (.bool (bif neg then !r else r)) w:=by
  intro r e1 he;rw [e1,Sem.run_bind,he];rfl
 rcases D8m hu with ⟨rfl,⟨a,b,d,h2⟩,rfl⟩ | ⟨rfl,⟨a,h2⟩,rfl⟩
 ·have eq:∀ (r:Bool),((X=.nilFunc/\r=A5)\/(∃ g cs,X=.func (.func g) #[] cs/\r=A6))->(Op.equal xt X .nilFunc).run P w=.ok r w:=by
   intro r h;unfold Op.equal;rw [show Op.maxDepth=9999+1 from rfl];unfold Op.equalIn;rcases h with ⟨rfl,rfl⟩ | ⟨g,cs,rfl,rfl⟩<;>simp only [Sem.run_bind,F8 h2,Result.andThen_ok]<;>rfl
  split at h
  ·cases h;have hX:X=.nilFunc:=hx;subst hX;exact ⟨_,one A5 (by cases neg<;>rfl) (eq A5 (.inl ⟨rfl,rfl⟩)),by cases neg<;>rfl⟩
  ·cases h;obtain ⟨cs,hX,_⟩:=hx;subst hX;exact ⟨_,one A6 (by cases neg<;>rfl) (eq A6 (.inr ⟨_,_,rfl,rfl⟩)),by cases neg<;>rfl⟩
  ·rename_i h3;cases h3
  ·rename_i h3;cases h3
  ·cases h
 ·have eq:∀ (r:Bool),((X=.pointer A7/\r=A5)\/(∃ q,X=.pointer (A4 q)/\r=A6))->(Op.equal xt X (.pointer A7)).run P w=.ok r w:=by
   intro r h;unfold Op.equal;rw [show Op.maxDepth=9999+1 from rfl];unfold Op.equalIn;rcases h with ⟨rfl,rfl⟩ | ⟨q,rfl,rfl⟩<;>simp only [Sem.run_bind,F8 h2,Result.andThen_ok]<;>rfl
  split at h
  ·rename_i h3;cases h3
  ·rename_i h3;cases h3
  ·cases h;have hX:X=.pointer A7:=hx;subst hX;exact ⟨_,one A5 (by cases neg<;>rfl) (eq A5 (.inl ⟨rfl,rfl⟩)),by cases neg<;>rfl⟩
  ·cases h;obtain ⟨b,n,_,hX⟩:=hx;subst hX;exact ⟨_,one A6 (by cases neg<;>rfl) (eq A6 (.inr ⟨_,rfl,rfl⟩)),by cases neg<;>rfl⟩
  ·cases h
def E4Q{op:UnOp}{x v:Val}{X:Value}(hx:RV U x X)(h:aun op x=A4 v):∃ V,(Op.unary op X).run P w=.ok V w/\RV U v V:=by
 unfold aun at h;split at h<;>cases h<;>cases hx<;>exact ⟨_,rfl,rfl⟩
def oJ(b off k:Nat):(⟨b,off,A7⟩:Addr).add k=⟨b,off+k,A7⟩:=by
 unfold Addr.add;split<;>simp_all
def D0H{t:TypeId}{hp:A9}{a v:Val}{A:Value}(sX:oK P t=A4 A6)(hrow:∀ id r,rd hp id=A4 r->RowOk U w id r)
  (ha:RV U a A) (h:B8 hp a=A4 v):∃ V,(Instr.loadAt t A).run P w=.ok V w/\RV U v V:=by
 unfold B8 at h;split at h
 ·rename_i id off;obtain ⟨b,n,hm,rfl⟩:=ha;simp only [E65] at h;obtain ⟨r,hr,c,hc,h⟩:=h;cases hx:(r.rw || !c.isX) with
  | false=>rw [hx] at h;cases h
  | true =>
  rw [hx] at h;cases h;obtain ⟨V,hV,hR⟩:=(hrow id r hr).cell hm hc hx;refine ⟨V,?_,hR⟩;simp [Instr.loadAt,Instr.sureAddr,loadVar,B5B sX,hV]
 ·cases h
def D0I{t:TypeId}{hp:A9}{a v:Val}{A:Value}{k:Nat}(sX:oK P t=A4 A5)(hsz:T7 P t=A4 k)(hrow:∀ id r,rd hp id=A4 r->RowOk U w id r)
  (ha:RV U a A) (h:D3 hp k a=A4 v):∃ V,(Instr.loadAt t A).run P w=.ok V w/\RV U v V:=by
 unfold D3 at h;split at h
 ·rename_i id off;obtain ⟨b,n,hm,rfl⟩:=ha;simp only [E65] at h;obtain ⟨r,hr,h⟩:=h;split at h
  ·cases h;rename_i hk;obtain ⟨vs,h1,h2,h3⟩:=(hrow id r hr).cells hm off k hk.1 hk.2;refine ⟨.agg vs.toArray,?_,vs,rfl,h1⟩;have hl:=run_loadCells_list (P:=P) w ⟨b,off,A7⟩ vs (λj v hv=>by rw [oJ];exact h3 j v hv);rw [h2] at hl;simp [Instr.loadAt,Instr.sureAddr,loadVar,B5B sX,R6 hsz,hl]
  ·cases h
 ·cases h
def A8p(b:Nat):∀ (vs:List Value) (o:Nat) (w:World) (C:Array Value) (t:TypeId) (fz:Nat × Nat),w.heap[b]?=A4 (.cells C t fz)->o+vs.length<=C.size ->
  ∃ C':Array Value,(w.setCells b o vs).heap[b]?=A4 (.cells C' t fz)/\C'.toList=C.toList.take o++(vs++C.toList.drop (o+vs.length))
 | [],o,w,C,t,fz,h,hl=>⟨C,h,by simp⟩
 | v::r,o,w,C,t,fz,h,hl=>by
  simp only [E7k] at hl;have h1:(w.setCell ⟨b,o,A7⟩ v).heap[b]?=A4 (.cells (C.setIfInBounds o v) t fz):=by
   simp only [World.setCell,Array.getElem?_modify,if_true,h,Option.map_some];simp
  obtain ⟨C',h2,h3⟩:=A8p b r (o+1) (w.setCell ⟨b,o,A7⟩ v) (C.setIfInBounds o v) t fz h1 (by simp;omega);refine ⟨C',h2,?_⟩;rw [h3];have ho:o<C.toList.length:=by simp;omega
  simp only [Array.toList_setIfInBounds];rw [List.drop_set_of_lt (by omega),E7k,show o+1+r.length=o+(r.length+1) by omega];rw [List.take_set,List.take_add_one,List.set_append];have hm:min o C.size=o:=Nat.min_eq_left (by simp at ho;omega);simp [E64 ho,hm]
def A5F(b:Nat):∀ (vs:List Value) (o:Nat) (w:World) (b':Nat),b'≠b->(w.setCells b o vs).heap[b']?=w.heap[b']?
 | [],_,_,_,_=>rfl
 | v::r,o,w,b',h=>by
  rw [World.setCells,A5F b r (o+1) _ b' h];simp [World.setCell,Array.getElem?_modify,Ne.symm h]
def B4R(b:Nat):∀ (vs:List Value) (o:Nat) (w:World),(w.setCells b o vs).os=w.os/\(w.setCells b o vs).tape=w.tape/\(w.setCells b o vs).output=w.output
 | [],_,_=>⟨rfl,rfl,rfl⟩
 | v::r,o,w=>by rw [World.setCells];exact B4R b r (o+1) _
def All2.lay{U:Mu}{cs xs:List Cell}{off:Nat}{Cs vs:List Value}(h:All2 (RC U) cs (Cs.take cs.length))(hx:All2 (RC U) xs vs)(hl:off+xs.length<=cs.length) :
  All2 (RC U) (lay cs off xs) ((Cs.take off++(vs++Cs.drop (off+vs.length))).take (lay cs off xs).length):=by
 have hlen:=h.length;have hxl:=hx.length;have hL:(Esc.lay cs off xs).length=cs.length:=by simp [Esc.lay];omega
 rw [hL];have e:(Cs.take off++(vs++Cs.drop (off+vs.length))).take cs.length=(Cs.take cs.length).take off++(vs++(Cs.take cs.length).drop (off+vs.length)):=by
  have h1:cs.length<=Cs.length:=by simp at hlen;omega
  rw [List.take_append,List.take_append,List.take_take,List.take_take,E7L,List.drop_take,Nat.min_eq_left (by omega:off<=cs.length),Nat.min_eq_right (by omega:off<=cs.length),Nat.min_eq_left (by omega:off<=Cs.length)];rw [E7r (by omega:vs.length<=cs.length-off)]
  congr 3
  omega
 rw [e];unfold Esc.lay;rw [<-hxl];exact (h.take off).append (hx.append (h.drop _))
def C78{J:Ctx}{h:A9}{id off b n:Nat}{r:Row}{xs:List Cell}{vs:List Value}(hi:Inv J U h w)(hr:rd h id=A4 r)(nG:r.rw=A5)(hm:U id=A4 (b,n))
  (hx:All2 (RC U) xs vs) (hl:off+xs.length<=r.cells.length) :
  (storeCells ⟨b,off,A7⟩ vs).run P w=.ok () (w.setCells b off vs)/\Inv J U (h.set id (A4 ⟨lay r.cells off xs,A5⟩)) (w.setCells b off vs):=by
 obtain ⟨C,elem,fz,h1,h2,h3,h4⟩:=(hi.rows id r hr).mem hm nG
 replace h3:=RL.all h3 (by rw [nG];rfl)
 have hlen:=h3.length;have hxl:=hx.length;simp at hlen;have A9w:∀ j,j<vs.length->(w.cell? ⟨b,off+0+j,A7⟩).isSome=A5:=by
  intro j hj;simp only [World.cell?,h1];simp;omega
 have hfz:∀ j,j<vs.length->w.frozen? ⟨b,off+0+j,A7⟩=A6:=by
  intro j hj;simp only [World.frozen?,h1];obtain ⟨lo,hi'⟩:=fz;rcases h4 nG with h4 | h4<;>simp at h4 ⊢ <;> omega
 have h1c:∀ v∈vs,v.oneCell'=A5:=by
  intro v hv;obtain ⟨i,X4,rfl⟩:=List.getElem_of_mem hv;have:i<xs.length:=by omega
  obtain ⟨V,hV,hR⟩:=hx.get i xs[i] (by simp [this]);rw [E64 X4] at hV;cases hV;exact hR.one
 refine ⟨by simpa using run_storeCells_cells (P:=P) b off vs 0 w A9w hfz h1c,?_⟩;obtain ⟨C',h5,h6⟩:=A8p b vs off w C elem fz h1 (by omega);obtain ⟨ho,ht,hou⟩:=B4R b vs off w;refine hi.write hr nG hm ho ht hou (λb' hb=>A5F b vs off w b' hb) ?_;unfold RowOk;rw [hm];refine .inl ⟨C',elem,fz,h5,?_,?_,λ_=>h4 nG⟩
 ·have:=congrArg List.length h6;simp at this;omega
 ·rw [h6];exact (All2.lay h3 hx hl).mono λ_ _=>.inl
def D6m{J:Ctx}{t:TypeId}{h h':A9}{a x:Val}{A X:Value}(hsz:T7 P t=A4 1)(hi:Inv J U h w)(ha:RV U a A)(hx:RV U x X)(hh:I7 h a x=A4 h') :
  ∃ w',(Instr.storeAt t A X).run P w=.ok () w'/\Inv J U h' w':=by
 unfold I7 at hh;split at hh
 ·rename_i id off c;obtain ⟨b,n,hm,rfl⟩:=ha;simp only [E65] at hh;obtain ⟨r,hr,hh⟩:=hh;split at hh
  ·cases hh;rename_i hc;have B9Q:X.cells = #[X]:=RC.cells hx;have:=C78 (P:=P) hi hr hc.1 hm (off:=off) (xs:=[c]) (vs:=[X]) ⟨hx,trivial⟩ (by simp;omega);refine ⟨w.setCells b off [X],?_,?_⟩
   ·simp [Instr.storeAt,Instr.sureAddr,storeVar,B9Q,R6 hsz,this.1]
   ·have e:lay r.cells off [c]=r.cells.set off c:=by
     simp [lay,List.set_eq_take_append_cons_drop,hc.2]
    rw [<-e];exact this.2
  ·cases hh
 ·cases hh
def D6n{J:Ctx}{t:TypeId}{h h':A9}{a x:Val}{A X:Value}{k:Nat}(hsz:T7 P t=A4 k)(hi:Inv J U h w)(ha:RV U a A)(hx:RV U x X)(hh:G0 h k a x=A4 h') :
  ∃ w',(Instr.storeAt t A X).run P w=.ok () w'/\Inv J U h' w':=by
 unfold G0 at hh;split at hh
 ·rename_i id off xs;obtain ⟨b,n,hm,rfl⟩:=ha;obtain ⟨vs,rfl,hvs⟩:=hx;simp only [E65] at hh;obtain ⟨r,hr,hh⟩:=hh;split at hh
  ·cases hh;rename_i hc;have:=C78 (P:=P) hi hr hc.1 hm (off:=off) hvs (by omega);refine ⟨w.setCells b off vs,?_,this.2⟩;have hl:=hvs.length;have hk:vs.length=k:=by omega
   simp [Instr.storeAt,Instr.sureAddr,storeVar,Value.cells,R6 hsz,hk,this.1]
  ·cases hh
 ·cases hh
end
section
variable {P:Program} {U:Mu} {w:World}
def E26{x v:Val}{X:Value}{k:Nat}(hx:RV U x X)(h:D9x x k=A4 v):∃ V,(Instr.extract X k).run P w=.ok V w/\RV U v V:=by
 unfold D9x at h;split at h
 ·rename_i l;obtain ⟨vs,rfl,hvs⟩:=hx;simp only [E7t] at h;obtain ⟨p,hp,rfl⟩:=h;obtain ⟨V,hV,hR⟩:=hvs.get k p hp;exact ⟨V,by simp [Instr.extract,hV],RV.ofPart hR⟩
 ·cases h
def D0J{t:TypeId}{l:List Cell}{vs:List Value}{off:Nat}{c:Cell}(sX:oK P t=A4 A6)(hvs:All2 (RC U) l vs)(h:l[off]?=A4 c) :
  ∃ V,(part t vs.toArray off).run P w=.ok V w/\RC U c V:=by
 obtain ⟨V,hV,hR⟩:=hvs.get off c h;exact ⟨V,by simp [part,B5B sX,hV],hR⟩
def D0K{t:TypeId}{l:List Cell}{vs:List Value}{off n:Nat}(sX:oK P t=A4 A5)(hsz:T7 P t=A4 n)(hvs:All2 (RC U) l vs)(h:off+n<=l.length) :
  ∃ V,(part t vs.toArray off).run P w=.ok V w/\RV U (.a ((l.drop off).take n)) V:=by
 refine ⟨.agg (vs.toArray.extract off (off+n)),by simp [part,B5B sX,R6 hsz],(vs.drop off).take n,?_,(hvs.drop off).take n⟩
 congr 1
 apply Array.ext';simp [List.take_drop]
def E1q{s:TypeId}{fs:Array Field}{f:Field}{j:Nat}{x v:Val}{X:Value}(hs:A7b P s=A4 fs)(hf:fs[j]?=A4 f)(sX:oK P f.type=A4 A6)
  (hx:RV U x X) (h:B6A x f.offset=A4 v):∃ V,(Instr.field s X j).run P w=.ok V w/\RV U v V:=by
 unfold B6A at h;split at h
 ·rename_i l;obtain ⟨vs,rfl,hvs⟩:=hx;simp only [E7t] at h;obtain ⟨c,hc,rfl⟩:=h;obtain ⟨V,hV,hR⟩:=D0J (P:=P) (w:=w) sX hvs hc;exact ⟨V,by simp [Instr.field,F8 (A7c hs),hf,asAgg,hV],hR⟩
 ·cases h
def E1r{s:TypeId}{fs:Array Field}{f:Field}{j n:Nat}{x v:Val}{X:Value}(hs:A7b P s=A4 fs)(hf:fs[j]?=A4 f)(sX:oK P f.type=A4 A5)(hsz:T7 P f.type=A4 n)
  (hx:RV U x X) (h:D6K x f.offset n=A4 v):∃ V,(Instr.field s X j).run P w=.ok V w/\RV U v V:=by
 unfold D6K at h;split at h
 ·rename_i l;obtain ⟨vs,rfl,hvs⟩:=hx;split at h
  ·cases h;rename_i hl;obtain ⟨V,hV,hR⟩:=D0K (P:=P) (w:=w) sX hsz hvs hl;exact ⟨V,by simp [Instr.field,F8 (A7c hs),hf,asAgg,hV],hR⟩
  ·cases h
 ·cases h
def D80{t e:TypeId}{n:Nat}{x i v:Val}{X I:Value}(ha:uM P t=A4 (n,e))(sX:oK P e=A4 A6)(hsz:T7 P e=A4 1)
  (hx:RV U x X) (hi:RV U i I) (h:A44 n x i=A4 v):∃ V,(Instr.index t X I).run P w=.ok V w/\RV U v V:=by
 unfold A44 at h;split at h
 ·rename_i l k j;obtain ⟨vs,rfl,hvs⟩:=hx;have hI:I=.int k j:=hi;subst hI;split at h
  ·rename_i hj;simp only [E7t] at h;obtain ⟨c,hc,rfl⟩:=h;obtain ⟨V,hV,hR⟩:=D0J (P:=P) (w:=w) sX hvs hc;exact ⟨V,by simp [Instr.index,F8 (uN ha),asIntOf,hj,R6 hsz,hV],hR⟩
  ·cases h
 ·cases h
def D81{t e:TypeId}{n sz:Nat}{x i v:Val}{X I:Value}(ha:uM P t=A4 (n,e))(sX:oK P e=A4 A5)(hsz:T7 P e=A4 sz)
  (hx:RV U x X) (hi:RV U i I) (h:D1l n sz x i=A4 v):∃ V,(Instr.index t X I).run P w=.ok V w/\RV U v V:=by
 unfold D1l at h;split at h
 ·rename_i l k j;obtain ⟨vs,rfl,hvs⟩:=hx;have hI:I=.int k j:=hi;subst hI;split at h
  ·rename_i hj;cases h;obtain ⟨V,hV,hR⟩:=D0K (P:=P) (w:=w) sX hsz hvs hj.2.2;exact ⟨V,by simp [Instr.index,F8 (uN ha),asIntOf,hj.1,hj.2.1,R6 hsz,hV],hR⟩
  ·cases h
 ·cases h
def E1s{t:TypeId}{x i v:Val}{X I:Value}(ht:dW P t=A5)(hx:RV U x X)(hi:RV U i I)(h:C6b x i=A4 v) :
  ∃ V,(Instr.index t X I).run P w=.ok V w/\RV U v V:=by
 unfold C6b at h;split at h
 ·rename_i s k j;have hX:X=.string ⟨s.toArray⟩:=hx;have hI:I=.int k j:=hi;subst hX hI;split at h
  ·rename_i hj;simp only [E7t] at h;obtain ⟨b,hb,rfl⟩:=h;refine ⟨.int .u8 b.toNat,?_,rfl⟩;have:(ByteArray.mk s.toArray)[j.toNat]?=A4 b:=by
    have X4:=(E7b.1 hb).1;have hsz:j.toNat<(ByteArray.mk s.toArray).size:=by show j.toNat<s.toArray.size;simpa using X4
    rw [E64 X4] at hb;cases hb;rw [getElem?_pos (ByteArray.mk s.toArray) j.toNat hsz];rfl
   simp [Instr.index,F8 (pK ht),asIntOf,hj,this]
  ·cases h
 ·cases h
def D8Z{s:TypeId}{fs:Array Field}{f:Field}{j n off:Nat}{x v:Val}{X:Value}(hs:A7b P s=A4 fs)(hf:fs[j]?=A4 f)(hsz:T7 P f.type=A4 n)(hn:n≠0)(ho:f.offset=off)
  (hx:RV U x X) (h:U8 x off=A4 v):∃ V,(Instr.fieldAt s X j).run P w=.ok V w/\RV U v V:=by
 unfold U8 at h;split at h
 ·rename_i id o;obtain ⟨b,m,hm,rfl⟩:=hx;cases h;refine ⟨.pointer (A4 ⟨b,o+off,A7⟩),?_,b,m,hm,rfl⟩;simp [Instr.fieldAt,Instr.sureAddr,F8 (A7c hs),hf,fieldPlace,R6 hsz,hn,oJ,ho]
 ·cases h
def D6k{t e:TypeId}{n sz:Nat}{x i v:Val}{X I:Value}(ha:uM P t=A4 (n,e))(hsz:T7 P e=A4 sz)(hx:RV U x X)(hi:RV U i I)(h:L6 n sz x i=A4 v) :
  ∃ V,(Instr.indexAt t X I).run P w=.ok V w/\RV U v V:=by
 unfold L6 at h;split at h
 ·rename_i id o k j;obtain ⟨b,m,hm,rfl⟩:=hx;have hI:I=.int k j:=hi;subst hI;split at h
  ·rename_i hj;cases h;refine ⟨.pointer (A4 ⟨b,o+j.toNat*sz,A7⟩),?_,b,m,hm,rfl⟩;simp [Instr.indexAt,Instr.sureAddr,asIntOf,F8 (uN ha),R6 hsz,hj,oJ]
  ·cases h
 ·cases h
def D6l{t e:TypeId}{sz:Nat}{x i v:Val}{X I:Value}(ha:sliceB P t=A4 e)(hsz:T7 P e=A4 sz)(hx:RV U x X)(hi:RV U i I)(h:F5 sz x i=A4 v) :
  ∃ V,(Instr.indexAt t X I).run P w=.ok V w/\RV U v V:=by
 unfold F5 at h;split at h
 ·rename_i id o len sz' k j;have hI:I=.int k j:=hi;subst hI;split at h
  ·rename_i hj;cases h;rcases hx with ⟨b,m,cap,hm,_,_,rfl⟩ | ⟨h0,_⟩
   ·refine ⟨.pointer (A4 ⟨b,o+j.toNat*sz,A7⟩),?_,b,m,hm,rfl⟩;simp [Instr.indexAt,asIntOf,F8 (R0 ha),R6 hsz,hj,oJ]
   ·omega
  ·cases h
 ·cases h
def E1u{t:TypeId}{x v:Val}{X:Value}{ty:TypeId}(ht:dW P t=A5)(hx:RV U x X)(h:D2C x=A4 v):∃ V,(Builtin.len_ #[t] ty #[X]).run P w=.ok V w/\RV U v V:=by
 unfold D2C at h;split at h<;>cases h
 rename_i s;have hX:X=.string ⟨s.toArray⟩:=hx;subst hX;refine ⟨.int .i64 s.length,?_,rfl⟩;simp [Builtin.len_,F8 (pK ht),goInt];show ((s.toArray.size:Nat):Int)=_;simp
def E27{t e:TypeId}{x v:Val}{X:Value}{ty:TypeId}(he:sliceB P t=A4 e)(hx:RV U x X)(h:B5X x=A4 v):∃ V,(Builtin.len_ #[t] ty #[X]).run P w=.ok V w/\RV U v V:=by
 unfold B5X at h;split at h<;>cases h
 ·rcases hx with ⟨b,m,cap,hm,_,_,rfl⟩ | ⟨h0,a,rfl⟩
  ·exact ⟨_,by simp [Builtin.len_,F8 (R0 he),goInt],rfl⟩
  ·subst h0;exact ⟨_,by simp [Builtin.len_,F8 (R0 he),goInt],rfl⟩
 ·cases hx;exact ⟨_,by simp [Builtin.len_,F8 (R0 he),goInt],rfl⟩
def E28{at_:Array TypeId}{ty:TypeId}{x y v:Val}{X Y:Value}(hx:RV U x X)(hy:RV U y Y)(h:C4E x y=A4 v):∃ V,(Builtin.max_ at_ ty #[X,Y]).run P w=.ok V w/\RV U v V:=by
 unfold C4E at h;split at h<;>cases h
 cases hx;cases hy;exact ⟨_,rfl,rfl⟩
def E29{at_:Array TypeId}{ty:TypeId}{x y v:Val}{X Y:Value}(hx:RV U x X)(hy:RV U y Y)(h:B5Y x y=A4 v):∃ V,(Builtin.min_ at_ ty #[X,Y]).run P w=.ok V w/\RV U v V:=by
 unfold B5Y at h;split at h<;>cases h
 cases hx;cases hy;exact ⟨_,rfl,rfl⟩
def E1o{s d:TypeId}{k ks:IntKind}{x v:Val}{X:Value}(hs:B71 P s=A4 ks)(hd:B71 P d=A4 k)(hx:RV U x X)(h:D2z k x=A4 v) :
  ∃ V,(convert s d X).run P w=.ok V w/\RV U v V:=by
 unfold D2z at h;split at h<;>cases h
 cases hx;exact ⟨_,by simp [convert,F8 (A9A hs),F8 (A9A hd),Conv.intToInt],rfl⟩
def D8Y{s d:TypeId}{x v:Val}{X:Value}(hs:dW P s=A5)(hd:dW P d=A5)(hx:RV U x X)(h:D1j x=A4 v) :
  ∃ V,(convert s d X).run P w=.ok V w/\RV U v V:=by
 unfold D1j at h;split at h<;>cases h
 cases hx;exact ⟨_,by simp [convert,F8 (pK hs),F8 (pK hd)],rfl⟩
def D0G{o:Option Val}{O:Option Value}{d n y:Nat}{code:BoundsCode}(hO:match o,O with | none,none=>True | some v,A4 V=>RV U v V | _,_=>False)(hb:bound o d=A4 n)(hn:n<=y) :
  (match O with | some v=>Instr.sliceBound v y code | none=>(pure d:Sem Nat)).run P w=.ok n w:=by
 unfold bound at hb;cases o with
 | none =>
  cases O with
  | none=>simp at hb;subst hb;rfl
  | some _=>exact hO.elim
 | some v =>
  cases O with
  | none=>exact hO.elim
  | some V =>
   simp only at hO hb;split at hb
   ·rename_i sY;cases sY
   ·rename_i k j sY;cases sY;cases hO;split at hb
    ·cases hb;rename_i hj;simp [Instr.sliceBound,asIntOf,hj];omega
    ·cases hb
   ·cases hb
def D05(U:Mu):Option Val->Option Value->Prop
 | none,none=>True
 | some v,A4 V=>RV U v V
 | _,_=>False
def A5E{isSl:Bool}{len cap l h:Nat}{lo hi:Option Val}{Lo Hi:Option Value}(hlo:D05 U lo Lo)(hhi:D05 U hi Hi)(bl:bound lo 0=A4 l)(bh:bound hi len=A4 h)
  (h1:l<=h) (h2:h<=cap):(Instr.sliceBounds isSl len cap Lo Hi A7).run P w=.ok (l,h,cap) w:=by
 unfold Instr.sliceBounds;have e1:=λcode=>D0G (P:=P) (w:=w) (U:=U) (o:=lo) (O:=Lo) (d:=0) (n:=l) (y:=h) (code:=code) (by cases lo<;>cases Lo<;>exact hlo) bl h1
 have e2:=λcode=>D0G (P:=P) (w:=w) (U:=U) (o:=hi) (O:=Hi) (d:=len) (n:=h) (y:=cap) (code:=code) (by cases hi<;>cases Hi<;>exact hhi) bh h2
 cases Hi with
 | none =>
  cases Lo with
  | none=>simp at e1 e2 ⊢;exact ⟨e1,e2⟩
  | some L =>
   simp at e1 e2 ⊢;subst e2;rw [e1 .sliceB];rfl
 | some H =>
  cases Lo with
  | none=>simp at e1 e2 ⊢;rw [e2];simp [e1]
  | some L =>
   simp at e1 e2 ⊢;rw [e2];simp [e1 .sliceB]
def E3d{t:TypeId}{x v:Val}{lo hi:Option Val}{X:Value}{Lo Hi:Option Value}(ht:dW P t=A5)(hx:RV U x X)(hlo:D05 U lo Lo)(hhi:D05 U hi Hi)(h:E2b x lo hi=A4 v) :
  ∃ V,(Instr.sliceAt t X Lo Hi A7).run P w=.ok V w/\RV U v V:=by
 unfold E2b at h;split at h
 ·rename_i s;have hX:X=.string ⟨s.toArray⟩:=hx;subst hX;simp only [E65] at h;obtain ⟨l,bl,hh,bh,h⟩:=h;split at h
  ·cases h;rename_i hc;have hsz:(ByteArray.mk s.toArray).size=s.length:=by show s.toArray.size=_;simp
   have:=A5E (P:=P) (w:=w) (U:=U) (isSl:=A6) hlo hhi bl bh hc.1 hc.2;refine ⟨.string ((ByteArray.mk s.toArray).extract l hh),?_,?_⟩
   ·simp [Instr.sliceAt,Instr.slice,F8 (pK ht),hsz,this]
   ·show Value.string _=Value.string _
    congr 1
    apply ByteArray.ext;apply Array.ext';simp [List.drop_take]
  ·cases h
 ·cases h
def E3c{t e:TypeId}{sz:Nat}{x v:Val}{lo hi:Option Val}{X:Value}{Lo Hi:Option Value}(ht:sliceB P t=A4 e)(hsz:T7 P e=A4 sz)(hx:RV U x X)(hlo:D05 U lo Lo)(hhi:D05 U hi Hi)
  (h:D7M sz x lo hi=A4 v):∃ V,(Instr.sliceAt t X Lo Hi A7).run P w=.ok V w/\RV U v V:=by
 unfold D7M at h;split at h
 ·rename_i id off len sz';simp only [E65] at h;obtain ⟨l,bl,hh,bh,h⟩:=h;split at h
  ·cases h;rename_i hc;obtain ⟨hc1,hc2,rfl⟩:=hc;rcases hx with ⟨b,m,cap,hm,hlc,B9O,rfl⟩ | ⟨h0,a,rfl⟩
   ·have:=A5E (P:=P) (w:=w) (U:=U) (isSl:=A5) hlo hhi bl bh hc1 (by omega:hh<=cap);by_cases nF:cap=l
    ·subst nF;refine ⟨.slice (A4 ⟨b,off,A7⟩) (hh-cap) (cap-cap),by simp [Instr.sliceAt,Instr.slice,F8 (R0 ht),this,R6 hsz],.inr ?_⟩;have h1:hh-cap=0:=by omega
     exact ⟨h1,A4 ⟨b,off,A7⟩,by rw [h1,show cap-cap=0 by omega]⟩
    ·refine ⟨.slice (A4 ⟨b,off+l*sz,A7⟩) (hh-l) (cap-l),by simp [Instr.sliceAt,Instr.slice,F8 (R0 ht),this,R6 hsz,nF,oJ],.inl ⟨b,m,cap-l,hm,by omega,?_,rfl⟩⟩;have:l*sz+(cap-l)*sz=cap*sz:=by rw [<-E8u];congr 1;omega
     omega
   ·have:=A5E (P:=P) (w:=w) (U:=U) (isSl:=A5) (cap:=0) hlo hhi bl bh hc1 (by omega);have h1:hh=0:=by omega
    have h2:l=0:=by omega
    subst h0 h1 h2;exact ⟨.slice a 0 0,by simp [Instr.sliceAt,Instr.slice,F8 (R0 ht),this,R6 hsz],.inr ⟨rfl,a,rfl⟩⟩
  ·cases h
 ·simp only [E65] at h;obtain ⟨l,bl,hh,bh,h⟩:=h;split at h
  ·cases h;rename_i hc;obtain ⟨rfl,rfl⟩:=hc;cases hx;have:=A5E (P:=P) (w:=w) (U:=U) (isSl:=A5) (cap:=0) hlo hhi bl bh (E69 _) (E69 _);exact ⟨.slice A7 0 0,by simp [Instr.sliceAt,Instr.slice,F8 (R0 ht),this,R6 hsz],rfl⟩
  ·cases h
 ·cases h
def E3b{t e:TypeId}{n sz:Nat}{hp:A9}{x v:Val}{lo hi:Option Val}{X:Value}{Lo Hi:Option Value}(ht:uM P t=A4 (n,e))(hsz:T7 P e=A4 sz)
  (hrow:∀ id r,rd hp id=A4 r->RowOk U w id r) (hx:RV U x X) (hlo:D05 U lo Lo) (hhi:D05 U hi Hi) (h:D1o hp n sz x lo hi=A4 v) :
  ∃ V,(Instr.sliceAt t X Lo Hi A7).run P w=.ok V w/\RV U v V:=by
 unfold D1o at h;split at h
 ·rename_i id off;obtain ⟨b,m,hm,rfl⟩:=hx;simp only [E65] at h;obtain ⟨r,hr,l,bl,hh,bh,h⟩:=h;split at h
  ·cases h;rename_i hc;simp at hm;obtain ⟨hc1,hc2,hc3,hc4⟩:=hc;have hc:l<=hh/\hh<=n/\off+n*sz<=r.cells.length:=⟨hc1,hc2,hc3⟩;have iZ:MemOk U w b m r:=by
    cases nG:r.rw with
    | true=>exact (hrow id r hr).mem hm nG
    | false =>
     rw [nG] at hc4;simp only [E79] at hc4;cases A9w:r.cells[off]? with
     | none=>rw [A9w] at hc4;cases hc4
     | some c=>rw [A9w] at hc4;exact (hrow id r hr).seen hm (E7p A9w) (by rw [nG];simpa using hc4)
   obtain ⟨C,elem,fz,h1,h2,h3,h4⟩:=iZ;have hlen:=h3.length;simp at hlen;have:=A5E (P:=P) (w:=w) (U:=U) (isSl:=A6) hlo hhi bl bh hc.1 hc.2.1;by_cases nF:n=l
   ·subst nF;refine ⟨.slice (A4 ⟨b,off,A7⟩) (hh-n) (n-n),by simp [Instr.sliceAt,Instr.sureAddr,F8 (uN ht),this,R6 hsz],.inr ?_⟩;have h1:hh-n=0:=by omega
    exact ⟨h1,A4 ⟨b,off,A7⟩,by rw [h1,show n-n=0 by omega]⟩
   ·refine ⟨.slice (A4 ⟨b,off+l*sz,A7⟩) (hh-l) (n-l),by simp [Instr.sliceAt,Instr.sureAddr,F8 (uN ht),this,R6 hsz,nF,oJ],.inl ⟨b,m,n-l,hm,by omega,?_,rfl⟩⟩;have:l*sz+(n-l)*sz=n*sz:=by rw [<-E8u];congr 1;omega
    omega
  ·cases h
 ·cases h
def B8f{hp:A9}{x:Val}{X:Value}{cs:List Cell}(hrow:∀ id r,rd hp id=A4 r->RowOk U w id r)(hx:RV U x X)(h:qW hp x=A4 cs) :
  ∃ len cap a vs,X=.slice a len cap/\All2 (RC U) cs vs/\(∀ sz,(∀ id off l sz',x=.c (.sl id off l sz')->sz=sz')->vs.length=len*sz)/\(a=A7->vs=[])/\(∀ b,a=A4 b->∀ j v,vs[j]?=A4 v->w.cell? (b.add j)=A4 v):=by
 unfold qW at h;split at h
 ·cases h;cases hx;exact ⟨0,0,A7,[],rfl,trivial,λ_ _=>by simp,λ_=>rfl,λb hb=>(by cases hb)⟩
 ·rename_i id off len sz;simp only [E65] at h;obtain ⟨r,hr,h⟩:=h;split at h
  ·cases h;rename_i hl;rcases hx with ⟨b,m,cap,hm,hlc,B9O,rfl⟩ | ⟨h0,a,rfl⟩
   ·obtain ⟨vs,h1,h2,h3⟩:=(hrow id r hr).cells hm off (len*sz) hl.1 hl.2;refine ⟨len,cap,_,vs,rfl,h1,λs hs=>(by rw [h2,hs id off len sz rfl]),λh=>(by cases h),λb' hb j v hv=>?_⟩;cases hb;rw [oJ];exact h3 j v hv
   ·subst h0;exact ⟨0,0,a,[],rfl,by simp,λ_ _=>by simp,λ_=>rfl,λb hb j v hv=>by simp at hv⟩
  ·cases h
 ·cases h
def D9Q{c:Cell}{b:UInt8}{V:Value}(h:C9S c=A4 b)(hr:RC U c V):V=.int .u8 b.toNat:=by
 unfold C9S at h;split at h
 ·split at h
  ·cases h;rename_i n hn;have hV:V=.int .u8 n:=hr;subst hV
   congr 1
   have:(UInt8.ofNat n.toNat).toNat=n.toNat:=by simp [UInt8.toNat_ofNat'];omega
   rw [this];omega
  ·cases h
 ·cases h
def C9V:∀ {cs:List Cell} {s:List UInt8} {vs:List Value},bytes? cs=A4 s->All2 (RC U) cs vs->vs=s.map λb=>Value.int .u8 b.toNat
 | [],s,[],h,_=>by simp [bytes?] at h;subst h;rfl
 | c::r,s,v::vs,h,⟨h1,h2⟩=>by
  simp only [bytes?,E65,E7t] at h;obtain ⟨b,hb,l,hl,rfl⟩:=h;rw [E7X,D9Q hb h1,C9V hl h2]
 | [],_,_::_,_,h=>h.elim
 | _::_,_,[],_,h=>h.elim
def D2M:∀ (s:List UInt8) (acc:ByteArray),(forIn (s.map λb=>Value.int .u8 b.toNat) acc (λc r=>do
   let .int .u8 n := c | stuck "bytesToString: byte expected"
   let r:=r.push (UInt8.ofNat n.toNat)
   pure PUnit.unit
   pure (ForInStep.yield r)):Sem ByteArray).run P w=.ok ⟨acc.data++s.toArray⟩ w
 | [],acc=>by simp
 | b::s,acc=>by
  simp only [E7X,List.forIn_cons,Sem.run_bind];have:=D2M s (acc.push b);simp at this ⊢;rw [this]
def D44{h:A9}{n0:Nat}{own:Option Nat}{x v:Val}(hp:C3e h n0 own x=A4 v):B7H h x=A4 v:=by
 unfold C3e at hp;split at hp
 ·exact hp
 ·split at hp
  ·split at hp
   ·exact hp
   ·cases hp
  ·cases hp
def D7u{s d e:TypeId}{hp:A9}{x:Val}{X:Value}{cs:List Cell}{l:List UInt8}(hs:sliceB P s=A4 e)(he:B71 P e=A4 .u8)(hd:dW P d=A5)
  (hrow:∀ id r,rd hp id=A4 r->RowOk U w id r) (hx:RV U x X) (h1:qW hp x=A4 cs) (h2:bytes? cs=A4 l) (B9Q:∀ id off l sz',x=.c (.sl id off l sz')->1=sz') :
  (convert s d X).run P w=.ok (.string ⟨l.toArray⟩) w:=by
 obtain ⟨len,cap,a,vs,rfl,hvs,hlen,C69,A9w⟩:=B8f hrow hx h1;have hl:vs.length=len:=by simpa using hlen 1 B9Q
 have hv:=C9V h2 hvs;have hc:(convert s d (.slice a len cap)).run P w=(Conv.bytesToString (.slice a len cap)).run P w:=by
  simp [convert,F8 (R0 hs),F8 (pK hd),F8 (A9A he)]
 rw [hc];cases a with
 | none =>
  have:l=[]:=by have:=C69 rfl;rw [hv] at this;simpa using this
  subst this;rfl
 | some b =>
  have hl2:=run_loadCells_list (P:=P) w b vs (A9w b rfl);rw [hl] at hl2;simp only [Conv.bytesToString,Sem.run_bind,hl2,Result.andThen_ok];rw [hv];have:=D2M (P:=P) (w:=w) l ByteArray.empty;simp at this ⊢;rw [this]
def D4z{s d e:TypeId}{hp:A9}{x v:Val}{X:Value}(hs:sliceB P s=A4 e)(he:B71 P e=A4 .u8)(hd:dW P d=A5)
  (hrow:∀ id r,rd hp id=A4 r->RowOk U w id r) (hx:RV U x X) (h:B7H hp x=A4 v):∃ V,(convert s d X).run P w=.ok V w/\RV U v V:=by
 unfold B7H at h;split at h
 ·split at h
  ·rename_i id off len sz hsz;simp only [E7t,E65] at h;obtain ⟨l,⟨cs,hcs,hl⟩,rfl⟩:=h;exact ⟨_,D7u hs he hd hrow hx hcs hl (λ_ _ _ _ h=>by cases h;exact hsz.symm),rfl⟩
  ·cases h
 ·cases h;exact ⟨_,D7u (hp:=hp) (cs:=[]) (l:=[]) hs he hd hrow hx rfl rfl (λ_ _ _ _ h=>by cases h),rfl⟩
 ·cases h
end
section
variable {P:Program} {U:Mu} {w:World}
def A0T(U:Mu)(h:A9)(n0:Nat):Option Nat->Prop
 | none=>True
 | some j=>U (n0+j)=A7/\n0+j<h.length
def Keeps(U U':Mu)(h:A9)(n0:Nat)(slot:Option Nat):Prop:=∀ id,id<h.length->(∀ j,slot=A4 j->id≠n0+j) -> U' id = U id
def Keeps.refl(U:Mu)(h:A9)(n0:Nat)(slot:Option Nat):Keeps U U h n0 slot:=λ_ _ _=>rfl
def Keeps.new{U:Mu}{h:A9}{n0:Nat}{slot:Option Nat}{r:Row}{x:Nat × Nat}:Keeps U (U.add (gF h n0 slot r).1 x) h n0 slot:=by
 intro id h1 h2;have:id≠(gF h n0 slot r).1:=by
  cases slot with
  | none=>simp only [gF];omega
  | some j=>exact h2 j rfl
 simp [Mu.add,this]
def vG{h:A9}{n0:Nat}{slot:Option Nat}{r:Row}(hs:A0T U h n0 slot)(hd:∀ id,h.length<=id -> U id=A7) :
  U (gF h n0 slot r).1=A7/\(∀ j,j≠(gF h n0 slot r).1->∀ x,rd (gF h n0 slot r).2 j=A4 x->rd h j=A4 x)/\(∀ x,rd (gF h n0 slot r).2 (gF h n0 slot r).1=A4 x->x=r) /\
   h.length<=(gF h n0 slot r).2.length/\(gF h n0 slot r).1<(gF h n0 slot r).2.length/\rd (gF h n0 slot r).2 (gF h n0 slot r).1=A4 r:=by
 cases slot with
 | none =>
  simp only [gF];have e:rd (h++[A4 r]) h.length=A4 r:=by rw [rd_some];simp
  refine ⟨hd _ (E69 _),?_,?_,by simp,by simp,e⟩
  ·intro j hj x hx;rw [rd_some] at hx ⊢;by_cases hl:j<h.length
   ·rwa [E7T hl] at hx
   ·have:j-h.length≠0:=by omega
    rw [E7x (by omega)] at hx;have:([A4 r]:A9)[j-h.length]?=A7:=by apply E7z;simp;omega
    rw [this] at hx;cases hx
  ·intro x hx;rw [e] at hx;cases hx;rfl
 | some j =>
  obtain ⟨h1,h2⟩:=hs;simp only [gF];have e:rd (h.set (n0+j) (A4 r)) (n0+j)=A4 r:=E1 h2;refine ⟨h1,?_,?_,by simp,by simpa using h2,e⟩
  ·intro i hi x hx;rwa [B7 (Ne.symm hi)] at hx
  ·intro x hx;rw [e] at hx;cases hx;rfl
def B76{J:Ctx}{h:A9}{n0:Nat}{slot:Option Nat}{cs:List Cell}{C:List Value}{t:TypeId}(hi:Inv J U h w)(hs:A0T U h n0 slot)(hc:All2 (RC U) cs (C.take cs.length)) :
  Inv J (U.add (gF h n0 slot ⟨cs,A5⟩).1 (w.heap.size,l_ C)) (gF h n0 slot ⟨cs,A5⟩).2 (w.alloc (.cells C.toArray t)):=by
 obtain ⟨h1,h2,h3,h4,h5,h6⟩:=vG (r:=⟨cs,A5⟩) hs hi.dom;refine hi.fresh h1 rfl rfl rfl (λb hb=>?_) h2 h3 h4 h5 ?_
 ·show (w.heap.push _)[b]?=_;rw [Array.getElem?_push,if_neg (by omega)]
 ·unfold RowOk;simp only [Mu.add,if_true];refine .inl ⟨C.toArray,t,(0,0),by show (w.heap.push _)[w.heap.size]?=_;simp,by simp,?_,λ_=>.inl rfl⟩;exact hc.mono λ_ _ h=>.inl (RC.mono (Mu.le_add h1) h)
def A9m{J:Ctx}{h:A9}{n0:Nat}{slot:Option Nat}(hi:Inv J U h w)(hs:A0T U h n0 slot):Inv J U (gF h n0 slot ⟨[],A5⟩).2 w:=by
 obtain ⟨h1,h2,h3,h4,h5,h6⟩:=vG (r:=⟨[],A5⟩) hs hi.dom;generalize gF h n0 slot ⟨[],A5⟩=p at *;refine ⟨λid r hr=>?_,λid dX r r' x x' hr hr' nG Z2 hx hx'=>?_,λid r x hr nG hx=>?_,λid hid=>hi.dom id (by omega),hi.ctx⟩
 ·by_cases e:id=p.1
  ·subst e;rw [h3 r hr];unfold RowOk;rw [h1]
  ·exact hi.rows id r (h2 id e r hr)
 ·have e:id≠p.1:=by intro e;subst e;rw [h1] at hx;cases hx
  have e':dX≠p.1:=by intro e;subst e;rw [h1] at hx';cases hx'
  exact hi.sep id dX r r' x x' (h2 id e r hr) (h2 dX e' r' hr') nG Z2 hx hx'
 ·have e:id≠p.1:=by intro e;subst e;rw [h1] at hx;cases hx
  exact hi.own id r x (h2 id e r hr) nG hx
def kC(t:TypeId)(C:Array Value):(newRow t C).run P w=.ok ⟨w.heap.size,0,A7⟩ (w.alloc (.cells C t)):=by
 rfl
def X8(m:Mu)(id:Nat)(x:Nat × Nat):(m.add id x) id=A4 x:=by simp [Mu.add]
def D8W{J:Ctx}{h:A9}{n0:Nat}{slot:Option Nat}{t:TypeId}{z:Value}{zero:List Cell}{old:Value}(hi:Inv J U h w)(hs:A0T U h n0 slot)(hz:A2G P t=A4 z)(hc:nC z zero=A5) :
  ∃ V w' U',(Instr.alloc t A5 old).run P w=.ok V w' /\ U.le U'/\RV U' (.c (.p (gF h n0 slot ⟨zero,A5⟩).1 0)) V/\Inv J U' (gF h n0 slot ⟨zero,A5⟩).2 w'/\Keeps U U' h n0 slot:=by
 have hcs:=jW (U:=U) hc;have hn:=B76 (t:=t) hi hs (cs:=zero) (C:=z.cells.toList) (by rw [E7r (by rw [hcs.length];exact E69 _)];exact hcs);refine ⟨.pointer (A4 ⟨w.heap.size,0,A7⟩),_,_,?_,Mu.le_add (vG (r:=⟨zero,A5⟩) hs hi.dom).1,⟨_,_,X8 _ _ _,rfl⟩,hn,Keeps.new⟩;cases old<;>simp [Instr.alloc,A2A hz,newVar,kC]
def E22{J:Ctx}{h:A9}{n0:Nat}{slot:Option Nat}{t:TypeId}{x:Val}{X:Value}{cs:List Cell}(hi:Inv J U h w)(hs:A0T U h n0 slot)(hx:RV U x X)(hc:cells? x=A4 cs) :
  ∃ V w' U',(Instr.box t X).run P w=.ok V w' /\ U.le U'/\RV U' (.c (.p (gF h n0 slot ⟨cs,A5⟩).1 0)) V/\Inv J U' (gF h n0 slot ⟨cs,A5⟩).2 w'/\Keeps U U' h n0 slot:=by
 have hcs:=hx.cells hc;have hn:=B76 (t:=t) hi hs (cs:=cs) (C:=X.cells.toList) (by rw [E7r (by rw [hcs.length];exact E69 _)];exact hcs);refine ⟨.pointer (A4 ⟨w.heap.size,0,A7⟩),_,_,?_,Mu.le_add (vG (r:=⟨cs,A5⟩) hs hi.dom).1,⟨_,_,X8 _ _ _,rfl⟩,hn,Keeps.new⟩;simp [Instr.box,newVar,kC]
def foldl_set(vs:List Value):∀ (k off:Nat) (cs:Array Value),off+k+vs.length<=cs.size ->
  ((vs.zipIdx k).foldl (λcs (x:Value × Nat)=>cs.setIfInBounds (off+x.2) x.1) cs).toList=cs.toList.take (off+k)++(vs++cs.toList.drop (off+k+vs.length)):=by
 induction vs with
 | nil=>intro k off cs h;simp
 | cons v r ih =>
  intro k off cs h;simp only [E7k] at h;simp only [List.zipIdx_cons,List.foldl_cons];rw [ih (k+1) off _ (by simp;omega)];have ho:off+k<cs.toList.length:=by simp;omega
  simp only [Array.toList_setIfInBounds];rw [List.drop_set_of_lt (by omega),E7k,show off+(k+1)+r.length=off+k+(r.length+1) by omega];rw [show off+(k+1)=off+k+1 by omega,List.take_set,List.take_add_one,List.set_append];have hm:min (off+k) cs.size=off+k:=Nat.min_eq_left (by simp at ho;omega);simp [E64 ho,hm]
def C5j(U:Mu)(place:Nat->Option (Nat × Nat)):List (Nat × Nat × Val)->List (Nat × Value)->Prop :=
 All2 λp q=>place q.1=A4 (p.1,p.2.1)/\RV U p.2.2 q.2
def C43{place:Nat->Option (Nat × Nat)}:∀ {ps:List (Nat × Nat × Val)} {qs:List (Nat × Value)} {zero cs:List Cell} {Z:Array Value},C5j U place ps qs->All2 (RC U) zero Z.toList->F9 zero ps=A4 cs ->
  ∃ Z',Instr.fill place Z qs=A4 Z'/\All2 (RC U) cs Z'.toList
 | [],[],zero,cs,Z,_,hz,h=>by simp [F9] at h;subst h;exact ⟨Z,rfl,hz⟩
 | (off,n,v)::ps,(i,V)::qs,zero,cs,Z,⟨⟨h1,h2⟩,h3⟩,hz,h=>by
  simp only [F9] at h;split at h
  ·rename_i xs hxs;split at h
   ·rename_i hc;have hV:=RV.cells h2 hxs;have hVl:=hV.length;have hzl:=hz.length;simp at hzl hVl;have A5s:(V.cells.size≠n||off+V.cells.size > Z.size)=A6:=by simp;omega
    have hl2:((V.cells.zipIdx.foldl (λcs (x:Value × Nat)=>cs.setIfInBounds (off+x.2) x.1) Z)).toList=Z.toList.take off++(V.cells.toList++Z.toList.drop (off+V.cells.toList.length)):=by
     have:=foldl_set V.cells.toList 0 off Z (by simp;omega);rw [<-Array.foldl_toList,Array.toList_zipIdx];simpa using this
    have E6k:All2 (RC U) (lay zero off xs) (V.cells.zipIdx.foldl (λcs (x:Value × Nat)=>cs.setIfInBounds (off+x.2) x.1) Z).toList:=by
     rw [hl2];unfold lay;rw [hV.length];exact (hz.take off).append (hV.append (hz.drop _))
    obtain ⟨Z',h4,h5⟩:=C43 h3 E6k h;refine ⟨Z',?_,h5⟩;rw [Instr.fill,h1];simp only [A5s];exact h4
   ·cases h
  ·cases h
 | [],_::_,_,_,_,h,_,_=>h.elim
 | _::_,[],_,_,_,h,_,_=>h.elim
def C4R{fs:List Field}{ps:List (Nat × Nat)}(h:fs.map (λf=>(T7 P f.type).map λn=>(f.offset,n))=ps.map A4) :
  (fs.mapM λf=>(do pure (f.offset,<-sizeOf f.type):Sem (Nat × Nat))).run P w=.ok ps w:=by
 induction fs generalizing ps with
 | nil=>cases ps<;>simp_all
 | cons f r ih =>
  cases ps with
  | nil=>simp at h
  | cons p ps =>
   simp only [E7X,List.cons.injEq] at h;cases hs:T7 P f.type with
   | none=>simp [hs] at h
   | some n =>
    simp [hs] at h;have:=ih (ps:=ps) (by simpa using h.2);simp at this;simp [List.mapM_cons,R6 hs,this,h.1]
def D6j{s:TypeId}{fs:Array Field}{z:Value}{zero cs:List Cell}{pl:List (Nat × Nat)}{ps:List (Nat × Nat × Val)}{qs:List (Nat × Value)}(hs:A7b P s=A4 fs)(hz:A2G P s=A4 z)(hc:nC z zero=A5)
  (hp:fs.toList.map (λf=>(T7 P f.type).map λn=>(f.offset,n))=pl.map A4) (hR:C5j U (pl[·]?) ps qs) (h:F9 zero ps=A4 cs) :
  ∃ V,(Instr.build s qs.toArray).run P w=.ok V w/\RV U (.a cs) V:=by
 obtain ⟨Z',h1,h2⟩:=C43 hR (jW hc) h;refine ⟨.agg Z',?_,Z'.toList,by simp,h2⟩;have hm:=C4R (P:=P) (w:=w) hp;simp [Instr.build,A2A hz,F8 (A7c hs),Array.mapM_eq_mapM_toList] at hm ⊢;rw [hm];simp [h1]
def D6i{s e:TypeId}{n sz:Nat}{z:Value}{zero cs:List Cell}{ps:List (Nat × Nat × Val)}{qs:List (Nat × Value)}(hs:uM P s=A4 (n,e))(hsz:T7 P e=A4 sz)(hz:A2G P s=A4 z)(hc:nC z zero=A5)
  (hR:C5j U (λi=>A4 (i*sz,sz)) ps qs) (h:F9 zero ps=A4 cs) :
  ∃ V,(Instr.build s qs.toArray).run P w=.ok V w/\RV U (.a cs) V:=by
 obtain ⟨Z',h1,h2⟩:=C43 hR (jW hc) h;refine ⟨.agg Z',?_,Z'.toList,by simp,h2⟩;simp [Instr.build,A2A hz,F8 (uN hs),R6 hsz,h1]
def D4A{J:Ctx}{h:A9}{n0:Nat}{slot:Option Nat}{s e:TypeId}{len sz:Nat}{z:Value}{zero cs:List Cell}{ps:List (Nat × Nat × Val)}{qs:List (Nat × Value)}
  (hi:Inv J U h w) (hsl:A0T U h n0 slot) (hs:sliceB P s=A4 e) (hsz:T7 P e=A4 sz) (hz:A2G P e=A4 z) (hlen:len*sz<=2 ^ 24)
  (hc:nC (.agg ((Array.range (len*sz)).map (z.cells[· % z.cells.size]!))) zero=A5) (hR:C5j U (λi=>A4 (i*sz,sz)) ps qs) (hf:F9 zero ps=A4 cs) :
  ∃ V w' U',(Instr.buildSlice s len qs.toArray).run P w=.ok V w' /\ U.le U'/\RV U' (.c (.sl (gF h n0 slot ⟨cs,A5⟩).1 0 len sz)) V/\Inv J U' (gF h n0 slot ⟨cs,A5⟩).2 w'/\Keeps U U' h n0 slot:=by
 obtain ⟨Z',h1,h2⟩:=C43 hR (jW hc) hf;have hn:=B76 (t:=e) hi hsl (cs:=cs) (C:=Z'.toList) (by rw [E7r (by rw [h2.length];exact E69 _)];exact h2);have nF:cs.length=zero.length:=by
  have:∀ (ps:List (Nat × Nat × Val)) (zero cs:List Cell),F9 zero ps=A4 cs->cs.length=zero.length:=by
   intro ps
   induction ps with
   | nil=>intro zero cs h;simp [F9] at h;rw [h]
   | cons p ps ih =>
    intro zero cs h;obtain ⟨off,n,v⟩:=p;simp only [F9] at h;split at h
    ·split at h
     ·rename_i hc;rw [ih _ _ h];simp [lay];omega
     ·cases h
    ·cases h
  exact this _ _ _ hf
 have hzl:zero.length=len*sz:=by
  have:=(jW (U:=U) hc).length;simpa [Value.cells] using this
 refine ⟨.slice (A4 ⟨w.heap.size,0,A7⟩) len len,_,_,?_,Mu.le_add (vG (r:=⟨cs,A5⟩) hsl hi.dom).1,.inl ⟨_,_,len,X8 _ _ _,E69 _,?_,rfl⟩,hn,Keeps.new⟩
 ·have X5:¬ len*sz > 2 ^ 24:=by omega
  have h1:Instr.fill (λi=>A4 (i*sz,sz)) ((Array.range (len*sz)).map (z.cells[· % z.cells.size]!)) qs=A4 Z':=h1;by_cases h0:len*sz=0
  ·have e0:((Array.range (len*sz)).map (λi=>z.cells[i%z.cells.size]!)) = #[]:=by simp [h0]
   rw [e0] at h1;have hr0:(Array.range 0).map (λ_=>(default:Value)) = #[]:=by simp
   simp [Instr.buildSlice,F8 (R0 hs),R6 hsz,h0,hr0,h1,kC]
  ·simp only [Instr.buildSlice,Sem.run_bind,F8 (R0 hs),Result.andThen_ok,R6 hsz,if_neg X5,if_neg h0,Sem.run_pure,A2A hz,h1,kC,pure_bind]
 ·have:=h2.length;simp at this ⊢;omega
def D7s{Z:Array Value}{zero:List Cell}(hz:All2 (RC U) zero Z.toList)(n:Nat)(h0:Z.size≠0) :
  All2 (RC U) (rows zero n) (((Array.range (n*Z.size)).map (Z[· % Z.size]!)).toList):=by
 have e:((Array.range (n*Z.size)).map (Z[· % Z.size]!)).toList=(E68 n Z.toList).flatten:=by
  simp only [Array.toList_map,Array.toList_range]
  induction n with
  | zero=>simp
  | succ n ih =>
   rw [List.replicate_succ',List.flatten_append,<-ih,E8u,Nat.one_mul,List.range_add,E72,List.map_map]
   congr 1
   simp only [E8g,List.flatten_nil,E7q];apply List.ext_getElem
   ·simp
   ·intro i h1 h2;simp at h1 h2;simp [Nat.add_mod,Nat.mod_eq_of_lt h1,h1]
 rw [e];exact hz.flatten_replicate n
def E1x{J:Ctx}{h:A9}{n0:Nat}{slot:Option Nat}{s e:TypeId}{n c sz by_:Nat}{z:Value}{zero:List Cell}{x y:Val}{X Y:Value}(hi:Inv J U h w)(hsl:A0T U h n0 slot)
  (hs:sliceB P s=A4 e) (hsz:T7 P e=A4 sz) (hz:A2G P e=A4 z) (hc:nC z zero=A5) (hzs:zero.length=sz) (B7Z:sz≠0) (hby:C6h P e=A4 by_) (hbl:by_<=65536)
  (hx:RV U x X) (hy:RV U y Y) (hn:B54 x=A4 n) (B9O:B54 y=A4 c) (hnc:n<=c) :
  ∃ V w' U',(Instr.makeSlice s X Y).run P w=.ok V w' /\ U.le U'/\RV U' (.c (.sl (gF h n0 slot ⟨rows zero n,A5⟩).1 0 n sz)) V/\Inv J U' (gF h n0 slot ⟨rows zero n,A5⟩).2 w'/\Keeps U U' h n0 slot:=by
 have key:∀ {v:Val} {V:Value} {m:Nat},RV U v V->B54 v=A4 m->V=.int .i64 m/\m<=1073741824:=by
  intro v V m hv hm;unfold B54 at hm;split at hm
  ·split at hm
   ·cases hm;rename_i k hk;have:V=.int .i64 k:=hv;subst this;exact ⟨by congr 1;omega,by omega⟩
   ·cases hm
  ·cases hm
 obtain ⟨rfl,hnb⟩:=key hx hn;obtain ⟨rfl,hcb⟩:=key hy B9O;have hcs:=jW (U:=U) hc;have hzl:z.cells.size=sz:=by have:=hcs.length;simp at this;omega
 have hrows:=D7s hcs c (by omega);rw [hzl] at hrows;have hrl:∀ m,(rows zero m).length=m*sz:=by intro m;simp [rows,hzs]
 have E4n:rows zero c=rows zero n++rows zero (c-n):=by
  unfold rows;rw [<-List.flatten_append,List.replicate_append_replicate]
  congr 2;omega
 obtain ⟨info,gR,hib⟩:=D8X (P:=P) (w:=w) hby;have hnn:=B76 (t:=e) hi hsl (cs:=rows zero n) (C:=((Array.range (c*sz)).map (z.cells[· % sz]!)).toList) (by
  have:=hrows.take (rows zero n).length;rw [E4n,List.take_left] at this;exact this)
 refine ⟨.slice (A4 ⟨w.heap.size,0,A7⟩) n c,_,_,?_,Mu.le_add (vG (r:=⟨rows zero n,A5⟩) hsl hi.dom).1,.inl ⟨_,_,c,X8 _ _ _,hnc,?_,rfl⟩,hnn,Keeps.new⟩
 ·have w1:IntKind.i64.wrap (n:Int)=n:=IntWalk.i64_in _ (by omega);have w2:IntKind.i64.wrap (c:Int)=c:=IntWalk.i64_in _ (by omega);have hb:¬ ((by_:Int)*(c:Int) > 281474976710656):=by
   have:(by_:Int)*c<=65536*1073741824:=by
    have h1:by_*c<=65536*1073741824:=Nat.mul_le_mul hbl hcb;have h2:((by_*c:Nat):Int)<=((65536*1073741824:Nat):Int):=Int.ofNat_le.2 h1;rw [Int.natCast_mul] at h2;exact h2
   omega
  by_cases h0:c*sz=0
  ·simp [Instr.makeSlice,F8 (R0 hs),asInt,asIntOf,gR,hib,w1,w2,R6 hsz,h0,kC];have q1:¬ ((c:Int)<0\/281474976710656<(by_:Int)*c):=by omega
   have q2:¬ ((n:Int)<0):=by omega
   have q3:¬ (c<n):=by omega
   simp [q1,q2,q3];rw [show (Array.range 0).map (λ_=>(default:Value)) = #[] by simp]
  ·simp [Instr.makeSlice,F8 (R0 hs),asInt,asIntOf,gR,hib,w1,w2,R6 hsz,h0,A2A hz,hzl,kC];have q1:¬ ((c:Int)<0\/281474976710656<(by_:Int)*c):=by omega
   have q2:¬ ((n:Int)<0):=by omega
   have q3:¬ (c<n):=by omega
   simp [q1,q2,q3];exact congrArg (λx=>w.alloc (Obj.cells x e)) (by apply Array.ext';simp)
 ·simp
end
section
variable {P:Program} {U:Mu} {w:World}
def D6X(s:List UInt8):All2 (RC U) (B4 s) (s.map λb=>Value.int .u8 b.toNat):=by
 induction s with
 | nil=>trivial
 | cons b r ih=>exact ⟨rfl,ih⟩
def B5(s:List UInt8):(B4 s).length=s.length:=by simp [B4]
def C3f{h:A9}{sz:Nat}{y:Val}{Y:Value}{ys:List Cell}(hrow:∀ id r,rd h id=A4 r->RowOk U w id r)(hy:RV U y Y)(hc:V7 h sz y=A4 ys) :
  ∃ n vs,(Builtin.lenOf Y).run P w=.ok n w/\(Builtin.firstCells sz n Y).run P w=.ok vs w/\All2 (RC U) ys vs.toList/\vs.size=n*sz:=by
 unfold V7 at hc;split at hc
 ·split at hc
  ·cases hc;rename_i s hs;subst hs;have hY:Y=.string ⟨s.toArray⟩:=hy;subst hY;refine ⟨s.length,(s.map λb=>Value.int .u8 b.toNat).toArray,?_,?_,D6X s,by simp⟩
   ·simp [Builtin.lenOf];show s.toArray.size=_;simp
   ·have:((ByteArray.mk s.toArray).extract 0 s.length).data=s.toArray:=by
     apply Array.ext';simp
    simp [Builtin.firstCells]
  ·cases hc
 ·split at hc
  ·rename_i id off len sz' hs;subst hs;obtain ⟨len',cap,a,vs,hY,hvs,hlen,C69,A9w⟩:=B8f hrow hy hc;subst hY;have hl:=hlen sz (λ_ _ _ _ h=>by cases h;rfl);refine ⟨len',vs.toArray,rfl,?_,hvs,by simpa using hl⟩;cases a with
   | none=>have:=C69 rfl;subst this;rfl
   | some b =>
    have:=run_loadCells_list (P:=P) w b vs (A9w b rfl);rw [hl] at this;simpa [Builtin.firstCells] using this
  ·cases hc
 ·cases hc;cases hy;exact ⟨0,#[],rfl,rfl,trivial,by simp⟩
 ·cases hc
def Inv.move{J:Ctx}{h:A9}{w':World}{id:Nat}{r r':Row}{b n:Nat}(hi:Inv J U h w)(hr:rd h id=A4 r)(nG:r.rw=A5)(E6v:r'.rw=A5)(hm:U id=A4 (b,n))
  (hos:w'.os=w.os) (htape:w'.tape=w.tape) (hout:w'.output=w.output) (hb:∀ b',b'≠b->w'.heap[b']?=w.heap[b']?)
  (hrow:RowOk (U.add h.length (b,n)) w' h.length r'):Inv J (U.add h.length (b,n)) (h.set id A7++[A4 r']) w':=by
 replace nG:=Row.own_rw nG
 have E6Q:=E5 hr;have zV:∀ j x,rd (h.set id A7++[A4 r']) j=A4 x->(j=h.length/\x=r')\/(j≠h.length/\j≠id/\rd h j=A4 x):=by
  intro j x hx;by_cases hj:j<h.length
  ·rw [D5 (by simpa using hj)] at hx;by_cases e:id=j
   ·subst e;rw [E1 hj] at hx;cases hx
   ·rw [B7 e] at hx;exact .inr ⟨by omega,Ne.symm e,hx⟩
  ·rw [rd_some,E7x (by simp;omega)] at hx;have h0:=(E7b.1 hx).1;simp at h0;have e:j=h.length:=by omega
   subst e;simp at hx;exact .inl ⟨rfl,hx.symm⟩
 have C69:U h.length=A7:=hi.dom _ (E69 _);have old:∀ j,j≠h.length->(U.add h.length (b,n)) j = U j:=λj hj=>by simp [Mu.add,hj]
 refine ⟨λj x hx=>?_,λj j' x x' y y' hx hx' hxw Z2 hy hy'=>?_,λj x y hx hxw hy=>?_,λj hj=>?_,?_⟩
 ·rcases zV j x hx with ⟨rfl,rfl⟩ | ⟨h1,h2,h3⟩
  ·exact hrow
  ·exact (hi.rows j x h3).mono (Mu.le_add C69) (old j h1) λy hy=>hb _ (Ne.symm (hi.sep id j r x (b,n) y hr h3 nG (Ne.symm h2) hm hy))
 ·rcases zV j x hx with ⟨rfl,rfl⟩ | ⟨h1,h2,h3⟩
  ·rcases zV j' x' hx' with ⟨h4,_⟩ | ⟨h4,h5,h6⟩
   ·exact absurd h4.symm Z2
   ·rw [X8] at hy;cases hy;rw [old _ h4] at hy';exact hi.sep id j' r x' (b,n) y' hr h6 nG (Ne.symm h5) hm hy'
  ·rw [old _ h1] at hy;rcases zV j' x' hx' with ⟨h4,_⟩ | ⟨h4,h5,h6⟩
   ·subst h4;rw [X8] at hy';cases hy';exact hi.sep j id x r y (b,n) h3 hr hxw h2 hy hm
   ·rw [old _ h4] at hy';exact hi.sep j j' x x' y y' h3 h6 hxw Z2 hy hy'
 ·rcases zV j x hx with ⟨rfl,rfl⟩ | ⟨h1,h2,h3⟩
  ·rw [X8] at hy;cases hy;exact hi.own id r (b,n) hr nG hm
  ·rw [old _ h1] at hy;exact hi.own j x y h3 hxw hy
 ·have:j≠h.length:=by simp at hj;omega
  rw [old _ this];exact hi.dom j (by simp at hj;omega)
 ·refine ⟨hos.trans hi.ctx.os,htape.trans hi.ctx.tape,hout.trans hi.ctx.output,λb' o ho=>?_⟩;have Z2:b'≠b:=by
   intro e;subst e;have:=hi.own id r (b',n) hr nG hm;simp at this;rw [ho] at this;cases this
  rw [hb b' Z2];exact hi.ctx.block b' o ho
def Inv.drop{J:Ctx}{h:A9}(hi:Inv J U h w)(id:Nat):Inv J U (h.set id A7) w:=by
 have zV:∀ j x,rd (h.set id A7) j=A4 x->rd h j=A4 x:=by
  intro j x hx;by_cases e:id=j
  ·subst e;by_cases hl:id<h.length
   ·rw [E1 hl] at hx;cases hx
   ·rw [List.set_eq_of_length_le (by omega)] at hx;exact hx
  ·rwa [B7 e] at hx
 exact ⟨λj x hx=>hi.rows j x (zV j x hx),λj j' x x' y y' hx hx'=>hi.sep j j' x x' y y' (zV j x hx) (zV j' x' hx'),λj x y hx=>hi.own j x y (zV j x hx),λj hj=>hi.dom j (by simpa using hj),hi.ctx⟩
def C66(n:Nat):∀ (k c:Nat),c<=n->Builtin.growBy n k c<=n+(n+768)/4
 | 0,c,h=>by simp [Builtin.growBy];omega
 | k+1,c,h=>by
  unfold Builtin.growBy;split
  ·omega
  ·rename_i hc;by_cases h2:c+(c+768)/4<=n
   ·exact C66 n k _ h2
   ·have:Builtin.growBy n k (c+(c+768)/4)=c+(c+768)/4:=by
     cases k with
     | zero=>rfl
     | succ k=>unfold Builtin.growBy;rw [if_pos (by omega)]
    rw [this];omega
def C7D(n c:Nat)(h:c<=n):Builtin.nextslicecap n c<=2*n+1000:=by
 unfold Builtin.nextslicecap;split
 ·omega
 ·split
  ·omega
  ·have:=C66 n 4 c h;omega
def B1m{s e yt ty:TypeId}{i:TypeInfo}{n sLen sCap:Nat}{z:Value}{base:Option Addr}{Y:Value}{old new:Array Value}{oc nc:List Cell}{J:Ctx}{h:A9}
  (hi:Inv J U h w) (hs:P.underlying s=A4 (.slice e)) (gR:P.info? e=A4 i) (hbl:i.bytes<=65536) (hz:i.zero=A4 z) (hzl:z.cells.size=i.size)
  (hyt:P.underlying yt=A4 .string\/∃ e',P.underlying yt=A4 (.slice e')) (hlen:(Builtin.lenOf Y).run P w=.ok n w) (hb0:i.bytes≠0)
  (D3z:(Builtin.firstCells i.size n Y).run P w.drew=.ok new w.drew) (hold:(Builtin.firstCells i.size sLen (.slice base sLen sCap)).run P w.drew=.ok old w.drew)
  (E0A:¬ sLen+n<=sCap) (B9O:sLen<=sCap) (E38:sLen+n<=1073741824)
  (ho:All2 (RC U) oc old.toList) (hn:All2 (RC U) nc new.toList) (hol:old.size=sLen*i.size) (hnl:new.size=n*i.size) :
  ∃ w' c,(Builtin.append_ #[s,yt] ty #[.slice base sLen sCap,Y]).run P w=.ok (.slice (A4 ⟨w.heap.size,0,A7⟩) (sLen+n) c) w'/\sLen+n<=c /\
   Inv J (U.add h.length (w.heap.size,c*i.size)) (h++[A4 ⟨oc++nc,A5⟩]) w':=by
 have hnc:=C7D (sLen+n) sCap (by omega);have mE:¬ (281474976710656<Builtin.nextslicecap (sLen+n) sCap*i.bytes):=by
  have:Builtin.nextslicecap (sLen+n) sCap*i.bytes<=2147484648*65536:=Nat.mul_le_mul (by omega) hbl;omega
 have hc0:sLen+n<=grownCap w (sLen+n) sCap e:=by show sLen+n<=sLen+n+_%_;omega
 have hw:Inv J U h w.drew:=hi.world rfl rfl rfl λ_ _=>rfl
 have D3C:(Builtin.zeroCells z.cells (grownCap w (sLen+n) sCap e-(sLen+n))).size=(grownCap w (sLen+n) sCap e-(sLen+n))*i.size:=by
  simp [Builtin.zeroCells,hzl]
 have hC:(old++new++Builtin.zeroCells z.cells (grownCap w (sLen+n) sCap e-(sLen+n))).toList.length=grownCap w (sLen+n) sCap e*i.size:=by
  have:(sLen+n)*i.size+(grownCap w (sLen+n) sCap e-(sLen+n))*i.size=grownCap w (sLen+n) sCap e*i.size:=by
   rw [<-E8u];congr 1;omega
  have h2:(sLen+n)*i.size=sLen*i.size+n*i.size:=E8u ..;rw [Array.length_toList,Array.size_append,Array.size_append,D3C,hol,hnl];omega
 have hrow:=B76 (t:=e) hw (slot:=A7) (n0:=0) trivial (cs:=oc++nc) (C:=(old++new++Builtin.zeroCells z.cells (grownCap w (sLen+n) sCap e-(sLen+n))).toList) (by
  have h1:(old++new++Builtin.zeroCells z.cells (grownCap w (sLen+n) sCap e-(sLen+n))).toList=(old.toList++new.toList)++(Builtin.zeroCells z.cells (grownCap w (sLen+n) sCap e-(sLen+n))).toList:=by simp
  rw [h1,show (oc++nc).length=(old.toList++new.toList).length by rw [(ho.append hn).length],List.take_left];exact ho.append hn)
 refine ⟨w.drew.alloc (.cells (old++new++Builtin.zeroCells z.cells (grownCap w (sLen+n) sCap e-(sLen+n))) e),grownCap w (sLen+n) sCap e,?_,hc0,?_⟩
 ·have h63:¬ (9223372036854775807<((sLen+n:Nat):Int)/\False):=by simp
  have E5o:IntKind.i64.max=9223372036854775807:=by decide
  rcases hyt with hyt | ⟨e',hyt⟩ <;>
   simp [Builtin.append_,F8 hs,F8 hyt,sizeOf,typeInfo,zeroValue,gR,hz,hlen,E0A,hb0,mE,Question.forced,D3z,hold,kC,grownCap]
 ·rw [hC] at hrow;exact hrow
def B1n{s e yt ty:TypeId}{i:TypeInfo}{n sLen sCap:Nat}{base:Option Addr}{Y:Value}{new:Array Value}{w':World}
  (hs:P.underlying s=A4 (.slice e)) (gR:P.info? e=A4 i) (hyt:P.underlying yt=A4 .string\/∃ e',P.underlying yt=A4 (.slice e')) (hlen:(Builtin.lenOf Y).run P w=.ok n w)
  (D3z:(Builtin.firstCells i.size n Y).run P w=.ok new w) (A5u:sLen+n<=sCap)
  (pL:∀ a,base=A4 a->(storeCells (a.add (sLen*i.size)) new.toList).run P w=.ok () w') (X5:base=A7->w'=w) :
  (Builtin.append_ #[s,yt] ty #[.slice base sLen sCap,Y]).run P w=.ok (.slice base (sLen+n) sCap) w':=by
 cases base with
 | none =>
  have:=X5 rfl;subst this;rcases hyt with hyt | ⟨e',hyt⟩<;>simp [Builtin.append_,F8 hs,F8 hyt,sizeOf,typeInfo,gR,hlen,A5u,D3z]
 | some a =>
  have:=pL a rfl;rcases hyt with hyt | ⟨e',hyt⟩<;>simp [Builtin.append_,F8 hs,F8 hyt,sizeOf,typeInfo,gR,hlen,A5u,D3z,this]
def A7a{J:Ctx}{h:A9}{id b m:Nat}{r:Row}{ys:List Cell}{vs:List Value}(hi:Inv J U h w)(hr:rd h id=A4 r)(nG:r.rw=A5)(hm:U id=A4 (b,m))
  (hx:All2 (RC U) ys vs) (hl:r.cells.length+ys.length<=m) :
  (storeCells ⟨b,r.cells.length,A7⟩ vs).run P w=.ok () (w.setCells b r.cells.length vs)/\Inv J (U.add h.length (b,m)) (h.set id A7++[A4 ⟨r.cells++ys,A5⟩]) (w.setCells b r.cells.length vs):=by
 obtain ⟨C,elem,fz,h1,h2,h3,h4⟩:=(hi.rows id r hr).mem hm nG
 replace h3:=RL.all h3 (by rw [nG];rfl)
 have hlen:=h3.length;have hxl:=hx.length;simp at hlen;have A9w:∀ j,j<vs.length->(w.cell? ⟨b,r.cells.length+0+j,A7⟩).isSome=A5:=by
  intro j hj;simp only [World.cell?,h1];simp;omega
 have hfz:∀ j,j<vs.length->w.frozen? ⟨b,r.cells.length+0+j,A7⟩=A6:=by
  intro j hj;simp only [World.frozen?,h1];obtain ⟨lo,hi'⟩:=fz;rcases h4 nG with h4 | h4<;>simp at h4 ⊢ <;> omega
 have h1c:∀ v∈vs,v.oneCell'=A5:=by
  intro v hv;obtain ⟨i,X4,rfl⟩:=List.getElem_of_mem hv;have:i<ys.length:=by omega
  obtain ⟨V,hV,hR⟩:=hx.get i ys[i] (by simp [this]);rw [E64 X4] at hV;cases hV;exact hR.one
 refine ⟨by simpa using run_storeCells_cells (P:=P) b r.cells.length vs 0 w A9w hfz h1c,?_⟩;obtain ⟨C',h5,h6⟩:=A8p b vs r.cells.length w C elem fz h1 (by omega);obtain ⟨ho,ht,hou⟩:=B4R b vs r.cells.length w;have mE:=Mu.le_add (x:=(b,m)) (hi.dom h.length (E69 _));refine hi.move hr nG rfl hm ho ht hou (λb' hb=>A5F b vs r.cells.length w b' hb) ?_;unfold RowOk;rw [X8];refine .inl ⟨C',elem,fz,h5,?_,?_,λ_=>h4 nG⟩
 ·have:=congrArg List.length h6;simp at this;omega
 ·rw [h6];have e:(C.toList.take r.cells.length++(vs++C.toList.drop (r.cells.length+vs.length))).take (r.cells++ys).length=C.toList.take r.cells.length++vs:=by
   rw [<-List.append_assoc,List.take_left'];simp;omega
  rw [e];exact ((h3.mono λ_ _=>RC.mono mE).append (hx.mono λ_ _=>RC.mono mE)).mono λ_ _=>.inl
def E20{s e yt ty:TypeId}{i:TypeInfo}{z:Value}{x y v:Val}{X Y:Value}{J:Ctx}{h h':A9}
  (hi:Inv J U h w) (hs:P.underlying s=A4 (.slice e)) (gR:P.info? e=A4 i) (hbl:i.bytes<=65536) (hb0:i.bytes≠0) (hz:i.zero=A4 z) (hzl:z.cells.size=i.size) (B7Z:i.size≠0)
  (hyt:P.underlying yt=A4 .string\/∃ e',P.underlying yt=A4 (.slice e')) (hx:RV U x X) (hy:RV U y Y) (hc:uL h i.size x y=A4 (v,h')) :
  ∃ V w' U',(Builtin.append_ #[s,yt] ty #[X,Y]).run P w=.ok V w' /\ U.le U'/\RV U' v V/\Inv J U' h' w'/\(∀ id,id<h.length -> U' id = U id):=by
 unfold uL at hc;simp only [E65] at hc;obtain ⟨ys,hys,hc⟩:=hc;obtain ⟨n,vs,hlen,C2f,hvs,hvl⟩:=C3f (P:=P) hi.rows hy hys;obtain ⟨n2,vs2,hlen2,D1D,hvs2,E4p⟩:=C3f (P:=P) (w:=w.drew) (hi.world (w':=w.drew) rfl rfl rfl λ_ _=>rfl).rows hy hys;have hyl:ys.length/i.size=n:=by
  have:=hvs.length;simp at this;rw [this,hvl];exact Nat.mul_div_cancel _ (by omega)
 have hn2:n2=n:=by
  have h1:=hvs.length;have h2:=hvs2.length;simp at h1 h2;exact Nat.eq_of_mul_eq_mul_right (by omega:0<i.size) (by omega)
 rw [hyl] at hc;subst hn2;have D1C:U h.length=A7:=hi.dom _ (E69 _);have Z6:∀ x id,id<h.length->(U.add h.length x) id = U id:=λx id hid=>by
  have:id≠h.length:=by omega
  simp [Mu.add,this]
 split at hc
 ·
  split at hc
  ·cases hc;rename_i hb;cases hx;by_cases h0:n2=0
   ·subst h0;have hy0:ys=[]:=by
     have:=hvs.length;simp [hvl] at this;exact this
    subst hy0;have hr:=B1n (P:=P) (ty:=ty) (sLen:=0) (sCap:=0) (base:=A7) (w':=w) hs gR hyt hlen C2f (by omega) (λa h=>by cases h) (λ_=>rfl);exact ⟨_,w,U,hr,Mu.le_refl _,.inr ⟨rfl,A7,rfl⟩,A9m (slot:=A7) (n0:=0) hi trivial,λ_ _=>rfl⟩
   ·obtain ⟨w',c,hr,hc1,hI⟩:=B1m (P:=P) (ty:=ty) (sLen:=0) (sCap:=0) (base:=A7) (old:=#[]) (oc:=[]) hi hs gR hbl hz hzl hyt hlen hb0 D1D (by simp [Builtin.firstCells]) (by omega) (E69 _) (by omega) trivial hvs2 (by simp) E4p;refine ⟨_,w',_,hr,Mu.le_add D1C,.inl ⟨w.heap.size,c*i.size,c,X8 _ _ _,by omega,by simp,by simp⟩,hI,Z6 _⟩
  ·cases hc
 ·rename_i id off len sz';simp only [E65] at hc;obtain ⟨r,hr,hc⟩:=hc;split at hc
  ·cases hc;rename_i A5s;obtain ⟨nG,rfl,nF,hsz,hbd⟩:=A5s;subst hsz;rcases hx with ⟨b,m,cap,hm,hlc,B9O,rfl⟩ | ⟨h0,a,rfl⟩
   ·by_cases A5u:len+n2<=cap
    ·have E2A:r.cells.length+ys.length<=m:=by
      have h1:=hvs.length;simp at h1;have h2:(len+n2)*i.size<=cap*i.size:=Nat.mul_le_mul_right _ A5u;rw [E8u] at h2;omega
     have pL:=A7a (P:=P) hi hr nG hm hvs E2A;have hr':=B1n (P:=P) (ty:=ty) (sLen:=len) (sCap:=cap) (base:=A4 ⟨b,0,A7⟩) (w':=w.setCells b r.cells.length vs.toList) hs gR hyt hlen C2f A5u
      (λa ha=>by cases ha;rw [oJ,nF,E7o];exact pL.1) (λh=>by cases h)
     exact ⟨_,_,_,hr',Mu.le_add D1C,.inl ⟨b,m,cap,X8 _ _ _,A5u,B9O,rfl⟩,pL.2,Z6 _⟩
    ·have hrow:=hi.rows id r hr;obtain ⟨olds,ho1,ho2,ho3⟩:=hrow.cells hm 0 (len*i.size) (by omega) (by rw [nG];rfl);have kM:(r.cells.drop 0).take (len*i.size)=r.cells:=by rw [E7n,nF,List.take_length]
     rw [kM] at ho1;have hold:=run_loadCells_list (P:=P) w.drew ⟨b,0,A7⟩ olds (λj v hv=>by rw [oJ];exact ho3 j v hv);rw [ho2] at hold;obtain ⟨w',c,hr',hc1,hI⟩:=B1m (P:=P) (ty:=ty) (sLen:=len) (sCap:=cap) (base:=A4 ⟨b,0,A7⟩) (old:=olds.toArray) (oc:=r.cells) hi hs gR hbl hz hzl hyt hlen hb0 D1D
      (by simpa [Builtin.firstCells] using hold) A5u hlc (by omega) ho1 hvs2 (by simpa using ho2) E4p
     refine ⟨_,w',_,hr',Mu.le_add D1C,.inl ⟨w.heap.size,c*i.size,c,X8 _ _ _,by omega,by simp,by simp⟩,?_,Z6 _⟩;have:=hI.drop id
     rwa [List.set_append_left _ _ (E5 hr)] at this
   ·subst h0;have hrc:r.cells=[]:=by
     have:r.cells.length=0:=by omega
     exact List.length_eq_zero_iff.1 this
    by_cases h0:n2=0
    ·subst h0;have hy0:ys=[]:=by
      have:=hvs.length;simp [hvl] at this;exact this
     subst hy0;have E6z:vs = #[]:=by simpa using hvl
     subst E6z;have hr':=B1n (P:=P) (ty:=ty) (sLen:=0) (sCap:=0) (base:=a) (w':=w) hs gR hyt hlen C2f (by omega) (λa h=>by simp [storeCells]) (λ_=>rfl);refine ⟨_,w,U,hr',Mu.le_refl _,.inr ⟨rfl,a,rfl⟩,?_,λ_ _=>rfl⟩;have:=(A9m (slot:=A7) (n0:=0) hi trivial).drop id;rw [hrc];simp only [gF] at this
     rwa [List.set_append_left _ _ (E5 hr)] at this
    ·obtain ⟨w',c,hr',hc1,hI⟩:=B1m (P:=P) (ty:=ty) (sLen:=0) (sCap:=0) (base:=a) (old:=#[]) (oc:=[]) hi hs gR hbl hz hzl hyt hlen hb0 D1D
      (by cases a<;>simp [Builtin.firstCells,loadCells,loadCellsFrom]) (by omega) (E69 _) (by omega) trivial hvs2 (by simp) E4p
     refine ⟨_,w',_,hr',Mu.le_add D1C,.inl ⟨w.heap.size,c*i.size,c,X8 _ _ _,by omega,by simp,by simp⟩,?_,Z6 _⟩;have:=hI.drop id;rw [hrc]
     rwa [List.set_append_left _ _ (E5 hr)] at this
  ·cases hc
 ·cases hc
def A8m{s e yt ty:TypeId}{k:IntKind}{i:TypeInfo}{n sLen sCap:Nat}{z:Value}{base:Option Addr}{old:Array Value}{oc nc:List Cell}{J:Ctx}{h:A9}
  (hi:Inv J U h w) (hs:P.underlying s=A4 (.slice e)) (gR:P.info? e=A4 i) (hbl:i.bytes<=65536) (hz:i.zero=A4 z) (hzl:z.cells.size=i.size)
  (hyt:P.underlying yt=A4 (.int k)) (hb0:i.bytes≠0) (hp0:i.size≠0)
  (hold:(Builtin.firstCells i.size sLen (.slice base sLen sCap)).run P w.drew=.ok old w.drew)
  (E0A:¬ sLen+n<=sCap) (B9O:sLen<=sCap) (E38:sLen+n<=1073741824)
  (ho:All2 (RC U) oc old.toList) (hn:All2 (RC U) nc (Builtin.zeroCells z.cells n).toList) (hol:old.size=sLen*i.size) :
  ∃ w' c,(Builtin.append_ #[s,yt] ty #[.slice base sLen sCap,.int .i64 n]).run P w=.ok (.slice (A4 ⟨w.heap.size,0,A7⟩) (sLen+n) c) w'/\sLen+n<=c /\
   Inv J (U.add h.length (w.heap.size,c*i.size)) (h++[A4 ⟨oc++nc,A5⟩]) w':=by
 have hnl:(Builtin.zeroCells z.cells n).size=n*i.size:=by simp [Builtin.zeroCells,hzl]
 have hnc:=C7D (sLen+n) sCap (by omega);have mE:¬ (281474976710656<Builtin.nextslicecap (sLen+n) sCap*i.bytes):=by
  have:Builtin.nextslicecap (sLen+n) sCap*i.bytes<=2147484648*65536:=Nat.mul_le_mul (by omega) hbl;omega
 have hc0:sLen+n<=grownCap w (sLen+n) sCap e:=by show sLen+n<=sLen+n+_%_;omega
 have hw:Inv J U h w.drew:=hi.world rfl rfl rfl λ_ _=>rfl
 have D3C:(Builtin.zeroCells z.cells (grownCap w (sLen+n) sCap e-(sLen+n))).size=(grownCap w (sLen+n) sCap e-(sLen+n))*i.size:=by
  simp [Builtin.zeroCells,hzl]
 have hC:(old++Builtin.zeroCells z.cells n++Builtin.zeroCells z.cells (grownCap w (sLen+n) sCap e-(sLen+n))).toList.length=grownCap w (sLen+n) sCap e*i.size:=by
  have:(sLen+n)*i.size+(grownCap w (sLen+n) sCap e-(sLen+n))*i.size=grownCap w (sLen+n) sCap e*i.size:=by
   rw [<-E8u];congr 1;omega
  have h2:(sLen+n)*i.size=sLen*i.size+n*i.size:=E8u ..;rw [Array.length_toList,Array.size_append,Array.size_append,D3C,hol,hnl];omega
 have hrow:=B76 (t:=e) hw (slot:=A7) (n0:=0) trivial (cs:=oc++nc) (C:=(old++Builtin.zeroCells z.cells n++Builtin.zeroCells z.cells (grownCap w (sLen+n) sCap e-(sLen+n))).toList) (by
  have h1:(old++Builtin.zeroCells z.cells n++Builtin.zeroCells z.cells (grownCap w (sLen+n) sCap e-(sLen+n))).toList=(old.toList++(Builtin.zeroCells z.cells n).toList)++(Builtin.zeroCells z.cells (grownCap w (sLen+n) sCap e-(sLen+n))).toList:=by simp
  rw [h1,show (oc++nc).length=(old.toList++(Builtin.zeroCells z.cells n).toList).length by rw [(ho.append hn).length],List.take_left];exact ho.append hn)
 refine ⟨w.drew.alloc (.cells (old++Builtin.zeroCells z.cells n++Builtin.zeroCells z.cells (grownCap w (sLen+n) sCap e-(sLen+n))) e),grownCap w (sLen+n) sCap e,?_,hc0,?_⟩
 ·have E5o:IntKind.i64.max=9223372036854775807:=by decide
  have w1:IntKind.i64.wrap (n:Int)=n:=IntWalk.i64_in _ (by omega);have q1:¬ (n:Int)<0:=by omega
  have q2:¬ ((n:Int)*(i.bytes:Int) > 281474976710656):=by
   have h1:n*i.bytes<=1073741824*65536:=Nat.mul_le_mul (by omega) hbl;have h2:((n*i.bytes:Nat):Int)<=((1073741824*65536:Nat):Int):=Int.ofNat_le.2 h1;rw [Int.natCast_mul] at h2;omega
  have q3:¬ (9223372036854775807<((sLen:Int)+(n:Int))):=by omega
  have q4:¬ (281474976710656<(n:Int)*(i.bytes:Int)):=by omega
  by_cases h0:n=0
  ·omega
  ·have h1:¬ (n*i.size=0):=Nat.mul_ne_zero h0 hp0;simp [Builtin.append_,F8 hs,F8 hyt,sizeOf,typeInfo,zeroValue,gR,hz,asInt,asIntOf,w1,q1,q4,E5o,q3,E0A,hb0,mE,Question.forced,hold,kC,grownCap,h1]
 ·rw [hC] at hrow;exact hrow
def A8n{s e yt ty:TypeId}{k:IntKind}{i:TypeInfo}{n sLen sCap:Nat}{z:Value}{base:Option Addr}{w':World}
  (hs:P.underlying s=A4 (.slice e)) (gR:P.info? e=A4 i) (hbl:i.bytes<=65536) (hz:i.zero=A4 z) (hzl:z.cells.size=i.size) (hp0:i.size≠0) (hyt:P.underlying yt=A4 (.int k)) (hnb:n<=1073741824) (A5u:sLen+n<=sCap)
  (pL:∀ a,base=A4 a->(storeCells (a.add (sLen*i.size)) (Builtin.zeroCells z.cells n).toList).run P w=.ok () w') (X5:base=A7->w'=w) :
  (Builtin.append_ #[s,yt] ty #[.slice base sLen sCap,.int .i64 n]).run P w=.ok (.slice base (sLen+n) sCap) w':=by
 have w1:IntKind.i64.wrap (n:Int)=n:=IntWalk.i64_in _ (by omega);have q1:¬ (n:Int)<0:=by omega
 have q4:¬ (281474976710656<(n:Int)*(i.bytes:Int)):=by
  have h1:n*i.bytes<=1073741824*65536:=Nat.mul_le_mul hnb hbl;have h2:((n*i.bytes:Nat):Int)<=((1073741824*65536:Nat):Int):=Int.ofNat_le.2 h1;rw [Int.natCast_mul] at h2;omega
 by_cases h0:n=0
 ·subst h0;have hzc:(Builtin.zeroCells z.cells 0) = #[]:=by simp [Builtin.zeroCells]
  have w0:IntKind.i64.wrap 0=0:=IntWalk.i64_in _ (by omega);rw [hzc] at pL;cases base with
  | none =>
   have:=X5 rfl;subst this;have hr0:sLen<=sCap:=by omega
   simp [Builtin.append_,F8 hs,F8 hyt,sizeOf,typeInfo,gR,asInt,asIntOf,hr0,w0]
  | some a =>
   have:=pL a rfl;simp [storeCells] at this;subst this;have hr0:sLen<=sCap:=by omega
   simp [Builtin.append_,F8 hs,F8 hyt,sizeOf,typeInfo,gR,asInt,asIntOf,storeCells,hr0,w0]
 ·have h1:¬ (n*i.size=0):=Nat.mul_ne_zero h0 hp0;cases base with
  | none =>
   have:=X5 rfl;subst this;simp [Builtin.append_,F8 hs,F8 hyt,sizeOf,typeInfo,zeroValue,gR,hz,asInt,asIntOf,w1,q1,q4,A5u,h1]
  | some a =>
   have:=pL a rfl;simp [Builtin.append_,F8 hs,F8 hyt,sizeOf,typeInfo,zeroValue,gR,hz,asInt,asIntOf,w1,q1,q4,A5u,h1,this]
def E1n{s e yt ty:TypeId}{kk:IntKind}{i:TypeInfo}{z:Value}{zero:List Cell}{x y v:Val}{X Y:Value}{J:Ctx}{h h':A9}
  (hi:Inv J U h w) (hs:P.underlying s=A4 (.slice e)) (gR:P.info? e=A4 i) (hbl:i.bytes<=65536) (hb0:i.bytes≠0) (hz:i.zero=A4 z) (hzl:z.cells.size=i.size) (B7Z:i.size≠0)
  (hyt:P.underlying yt=A4 (.int kk)) (hzc:All2 (RC U) zero z.cells.toList) (hx:RV U x X) (hy:RV U y Y) (hc:C52 h i.size zero x y=A4 (v,h')) :
  ∃ V w' U',(Builtin.append_ #[s,yt] ty #[X,Y]).run P w=.ok V w' /\ U.le U'/\RV U' v V/\Inv J U' h' w'/\(∀ id,id<h.length -> U' id = U id):=by
 unfold C52 at hc;simp only [E65] at hc;obtain ⟨n2,hn2,hc⟩:=hc;have hY:Y=.int .i64 n2/\n2<=1073741824:=by
  unfold B54 at hn2;split at hn2
  ·split at hn2
   ·cases hn2;rename_i k hk;have:Y=.int .i64 k:=hy;subst this;exact ⟨by congr 1;omega,by omega⟩
   ·cases hn2
  ·cases hn2
 obtain ⟨rfl,hnb⟩:=hY;have hvs:All2 (RC U) (rows zero n2) (Builtin.zeroCells z.cells n2).toList:=by
  have:=D7s hzc n2 (by omega);simpa [Builtin.zeroCells] using this
 have hvl:(Builtin.zeroCells z.cells n2).size=n2*i.size:=by simp [Builtin.zeroCells,hzl]
 have D1C:U h.length=A7:=hi.dom _ (E69 _);have Z6:∀ x id,id<h.length->(U.add h.length x) id = U id:=λx id hid=>by
  have:id≠h.length:=by omega
  simp [Mu.add,this]
 split at hc
 ·
  ·cases hc;cases hx;by_cases h0:n2=0
   ·subst h0;have hr:=A8n (P:=P) (ty:=ty) (sLen:=0) (sCap:=0) (base:=A7) (w':=w) (n:=0) hs gR hbl hz hzl B7Z hyt (by omega) (by omega) (λa h=>by cases h) (λ_=>rfl);exact ⟨_,w,U,hr,Mu.le_refl _,.inr ⟨rfl,A7,rfl⟩,A9m (slot:=A7) (n0:=0) hi trivial,λ_ _=>rfl⟩
   ·obtain ⟨w',c,hr,hc1,hI⟩:=A8m (P:=P) (ty:=ty) (sLen:=0) (sCap:=0) (base:=A7) (old:=#[]) (oc:=[]) (n:=n2) hi hs gR hbl hz hzl hyt hb0 B7Z (by simp [Builtin.firstCells]) (by omega) (E69 _) (by omega) trivial hvs (by simp);refine ⟨_,w',_,hr,Mu.le_add D1C,.inl ⟨w.heap.size,c*i.size,c,X8 _ _ _,by omega,by simp,by simp⟩,hI,Z6 _⟩
 ·rename_i id off len sz';simp only [E65] at hc;obtain ⟨r,hr,hc⟩:=hc;split at hc
  ·cases hc;rename_i A5s;obtain ⟨nG,rfl,nF,hsz,hbd⟩:=A5s;subst hsz;rcases hx with ⟨b,m,cap,hm,hlc,B9O,rfl⟩ | ⟨h0,a,rfl⟩
   ·by_cases A5u:len+n2<=cap
    ·have E2A:r.cells.length+(rows zero n2).length<=m:=by
      have h1:=hvs.length;simp at h1;have h2:(len+n2)*i.size<=cap*i.size:=Nat.mul_le_mul_right _ A5u;rw [E8u] at h2;omega
     have pL:=A7a (P:=P) hi hr nG hm hvs E2A;have hr':=A8n (P:=P) (ty:=ty) (sLen:=len) (sCap:=cap) (base:=A4 ⟨b,0,A7⟩) (w':=w.setCells b r.cells.length (Builtin.zeroCells z.cells n2).toList) hs gR hbl hz hzl B7Z hyt hnb A5u
      (λa ha=>by cases ha;rw [oJ,nF,E7o];exact pL.1) (λh=>by cases h)
     exact ⟨_,_,_,hr',Mu.le_add D1C,.inl ⟨b,m,cap,X8 _ _ _,A5u,B9O,rfl⟩,pL.2,Z6 _⟩
    ·have hrow:=hi.rows id r hr;obtain ⟨olds,ho1,ho2,ho3⟩:=hrow.cells hm 0 (len*i.size) (by omega) (by rw [nG];rfl);have kM:(r.cells.drop 0).take (len*i.size)=r.cells:=by rw [E7n,nF,List.take_length]
     rw [kM] at ho1;have hold:=run_loadCells_list (P:=P) w.drew ⟨b,0,A7⟩ olds (λj v hv=>by rw [oJ];exact ho3 j v hv);rw [ho2] at hold;obtain ⟨w',c,hr',hc1,hI⟩:=A8m (P:=P) (ty:=ty) (sLen:=len) (sCap:=cap) (base:=A4 ⟨b,0,A7⟩) (old:=olds.toArray) (oc:=r.cells) (n:=n2) hi hs gR hbl hz hzl hyt hb0 B7Z
      (by simpa [Builtin.firstCells] using hold) A5u hlc (by omega) ho1 hvs (by simpa using ho2)
     refine ⟨_,w',_,hr',Mu.le_add D1C,.inl ⟨w.heap.size,c*i.size,c,X8 _ _ _,by omega,by simp,by simp⟩,?_,Z6 _⟩;have:=hI.drop id
     rwa [List.set_append_left _ _ (E5 hr)] at this
   ·subst h0;have hrc:r.cells=[]:=by
     have:r.cells.length=0:=by omega
     exact List.length_eq_zero_iff.1 this
    by_cases h0:n2=0
    ·subst h0;have hr':=A8n (P:=P) (ty:=ty) (sLen:=0) (sCap:=0) (base:=a) (w':=w) (n:=0) (z:=z) hs gR hbl hz hzl B7Z hyt (by omega) (by omega) (λa h=>by simp [storeCells,Builtin.zeroCells]) (λ_=>rfl);refine ⟨_,w,U,hr',Mu.le_refl _,.inr ⟨rfl,a,rfl⟩,?_,λ_ _=>rfl⟩;have:=(A9m (slot:=A7) (n0:=0) hi trivial).drop id;rw [hrc];simp only [gF] at this
     rwa [List.set_append_left _ _ (E5 hr)] at this
    ·obtain ⟨w',c,hr',hc1,hI⟩:=A8m (P:=P) (ty:=ty) (sLen:=0) (sCap:=0) (base:=a) (old:=#[]) (oc:=[]) (n:=n2) hi hs gR hbl hz hzl hyt hb0 B7Z
      (by cases a<;>simp [Builtin.firstCells,loadCells,loadCellsFrom]) (by omega) (E69 _) (by omega) trivial hvs (by simp)
     refine ⟨_,w',_,hr',Mu.le_add D1C,.inl ⟨w.heap.size,c*i.size,c,X8 _ _ _,by omega,by simp,by simp⟩,?_,Z6 _⟩;have:=hI.drop id;rw [hrc]
     rwa [List.set_append_left _ _ (E5 hr)] at this
  ·cases hc
 ·cases hc
end
section
variable {P:Program} {U:Mu} {w:World}
def Inv.marked{J:Ctx}{h:A9}{id b n:Nat}{r:Row}(hi:Inv J U h w)(hr:rd h id=A4 r)(nG:r.rw=A5)(hm:U id=A4 (b,n)) :
  ∃ w',(markStringish ⟨b,0,A7⟩).run P w=.ok () w'/\Inv J U h w'/\∀ off,(markStringish ⟨b,off,A7⟩).run P w=.ok () w':=by
 obtain ⟨C,elem,fz,h1,h2,h3,h4⟩:=(hi.rows id r hr).mem hm nG;have hsh:w.shape? b=A4 (elem,n):=by simp [World.shape?,h1,h2]
 have B07:∀ off,(markStringish ⟨b,off,A7⟩).run P w=.ok () (w.freeze ⟨b,n,A7⟩ 1):=by
  intro off;simp [markStringish,hsh]
 refine ⟨w.freeze ⟨b,n,A7⟩ 1,B07 0,?_,B07⟩;have D0g:∀ b',(w.freeze ⟨b,n,A7⟩ 1).heap[b']?=if b=b' then A4 (.cells C elem (if fz.1==fz.2 then (n,n+1) else (min fz.1 n,max fz.2 (n+1)))) else w.heap[b']? := by
  intro b';simp only [World.freeze,if_neg (show ¬ (1:Nat)=0 by omega),Array.getElem?_modify];split
  ·rename_i e;subst e;rw [h1];simp
  ·rfl
 have E4l:∀ b',b'≠b->(w.freeze ⟨b,n,A7⟩ 1).heap[b']?=w.heap[b']? := λb' hb=>by rw [D0g,if_neg (Ne.symm hb)]
 have:=hi.write hr nG hm (w':=w.freeze ⟨b,n,A7⟩ 1) (cs:=r.cells) rfl rfl rfl E4l (by
  unfold RowOk;rw [hm];refine .inl ⟨C,elem,_,by rw [D0g,if_pos rfl],h2,(nG ▸ h3:All2 (RL U A5) _ _),λ_=>.inr ?_⟩;have h5:=h4 nG;split
  ·exact E69 _
  ·rename_i Z2;rcases h5 with h5 | h5
   ·simp [h5] at Z2
   ·show n<=min fz.1 n;omega)
 have e:h.set id (A4 ⟨r.cells,A5⟩)=h:=by
  apply E8h;intro j;by_cases hj:id=j
  ·subst hj;rw [List.getElem?_set_self (E5 hr)];rw [rd_some] at hr;rw [hr,<-nG]
  ·rw [E8c hj]
 rwa [e] at this
def run_mark{J:Ctx}{s e:TypeId}{h:A9}{x v:Val}{X:Value}(hi:Inv J U h w)(hs:sliceB P s=A4 e)(he:B71 P e=A4 .u8)(hx:RV U x X)(hc:B1I h x=A4 v) :
  ∃ w',(convert s s X).run P w=.ok X w'/\v=x/\Inv J U h w':=by
 unfold B1I at hc;split at hc
 ·rename_i id off len sz;simp only [E65] at hc;obtain ⟨r,hr,hc⟩:=hc;split at hc
  ·cases hc;rename_i A5s;rcases hx with ⟨b,m,cap,hm,hlc,B9O,rfl⟩ | ⟨h0,a,rfl⟩
   ·obtain ⟨w',h1,h2,h3⟩:=hi.marked (P:=P) hr A5s.1 hm;exact ⟨w',by simp [convert,F8 (R0 hs),F8 (A9A he),h3 off],rfl,h2⟩
   ·omega
  ·cases hc
 ·cases hc
def E3a{J:Ctx}{h:A9}{n0:Nat}{slot:Option Nat}{s d e:TypeId}{l:List UInt8}(hi:Inv J U h w)(hsl:A0T U h n0 slot)(hs:dW P s=A5)(hd:sliceB P d=A4 e)(he:B71 P e=A4 .u8)(hl:l.length<=1073741824) :
  ∃ V w' U',(convert s d (.string ⟨l.toArray⟩)).run P w=.ok V w' /\ U.le U'/\RV U' (.c (.sl (gF h n0 slot ⟨B4 l,A5⟩).1 0 l.length 1)) V/\Inv J U' (gF h n0 slot ⟨B4 l,A5⟩).2 w'/\Keeps U U' h n0 slot:=by
 have hsz:(ByteArray.mk l.toArray).size=l.length:=by show l.toArray.size=_;simp
 have B9O:l.length<=(Question.appendCap l.length 0 e).cut (w.tape w.drawn (.appendCap l.length 0 e)):=by show l.length<=l.length+_%_;omega
 generalize hk:(Question.appendCap l.length 0 e).cut (w.tape w.drawn (.appendCap l.length 0 e))=cap at B9O;have hC:((l.toArray.map λ(b:UInt8)=>Value.int .u8 b.toNat)++Array.replicate (cap-l.length) (Value.int .u8 0)).toList=(l.map λ(b:UInt8)=>Value.int .u8 b.toNat)++E68 (cap-l.length) (Value.int .u8 0):=by simp
 have hw:Inv J U h w.drew:=hi.world rfl rfl rfl λ_ _=>rfl
 have hn:=B76 (t:=e) hw hsl (cs:=B4 l) (C:=(l.map λ(b:UInt8)=>Value.int .u8 b.toNat)++E68 (cap-l.length) (Value.int .u8 0)) (by
  rw [show (B4 l).length=(l.map λ(b:UInt8)=>Value.int .u8 b.toNat).length by simp [B4],List.take_left];exact D6X l)
 have hsp:=vG (r:=⟨B4 l,A5⟩) hsl hi.dom;obtain ⟨w',h1,h2,h3⟩:=hn.marked (P:=P) hsp.2.2.2.2.2 rfl (X8 _ _ _);refine ⟨.slice (A4 ⟨w.heap.size,0,A7⟩) l.length cap,w',_,?_,Mu.le_add hsp.1,.inl ⟨_,_,cap,X8 _ _ _,B9O,by simp;omega,rfl⟩,h2,Keeps.new⟩;have h1:(markStringish ⟨w.heap.size,0,A7⟩).run P (w.drew.alloc (.cells ((l.map λ(b:UInt8)=>Value.int .u8 b.toNat)++E68 (cap-l.length) (Value.int .u8 0)).toArray e))=.ok () w':=h1;rw [<-hC,Array.toArray_toList] at h1;have hfo:(Question.appendCap l.length 0 e).forced=A6:=rfl;simp only [convert,Sem.run_bind,F8 (pK hs),Result.andThen_ok,F8 (R0 hd),F8 (A9A he),Conv.stringToBytes,run_choose,hsz,hfo,Bool.false_eq_true,if_false,hk,kC];have hdr:({ w with drawn:=w.drawn+1 }:World)=w.drew:=rfl;rw [hdr,h1];rfl
def E1p{J:Ctx}{h h':A9}{s e yt ty:TypeId}{sz:Nat}{x y v:Val}{X Y:Value}(hi:Inv J U h w)(hs:sliceB P s=A4 e)(hsz:T7 P e=A4 sz)(B7Z:sz≠0)(hx:RV U x X)(hy:RV U y Y)(hc:C56 h sz x y=A4 (v,h')) :
  ∃ V w',(Builtin.copy_ #[s,yt] ty #[X,Y]).run P w=.ok V w'/\RV U v V/\Inv J U h' w':=by
 unfold C56 at hc;split at hc
 ·cases hc
 rename_i E6r;simp only [E65] at hc;obtain ⟨ys,hys,hc⟩:=hc;split at hc
 ·rename_i id off len sz';simp only [E65] at hc;obtain ⟨r,hr,hc⟩:=hc;split at hc
  ·cases hc;rename_i A5s;obtain ⟨nG,E2A,rfl⟩:=A5s;have src:∃ n vs,(Builtin.lenOf Y).run P w=.ok n w/\All2 (RC U) ys vs/\vs.length=n*sz/\∀ m,m<=n->(Builtin.firstCells sz m Y).run P w=.ok (vs.take (m*sz)).toArray w:=by
    cases y with
    | c c =>
     cases c with
     | sl id2 off2 len2 sz2 =>
      simp only [V7] at hys;split at hys
      ·rename_i hs2;subst hs2;obtain ⟨len',cap,a,vs,rfl,hvs,hlen,C69,A9w⟩:=B8f hi.rows hy hys;have hl:=hlen sz (λ_ _ _ _ h=>by cases h;rfl);refine ⟨len',vs,rfl,hvs,hl,λm hm=>?_⟩;cases a with
       | none=>have:=C69 rfl;subst this;simp [Builtin.firstCells]
       | some b =>
        have hml:(vs.take (m*sz)).length=m*sz:=by
         have:=Nat.mul_le_mul_right sz hm;simp;omega
        have:=run_loadCells_list (P:=P) w b (vs.take (m*sz)) (λj v hv=>A9w b rfl j v (by
         have hj:=(E7b.1 hv).1;rw [E7M (by omega)] at hv;exact hv))
        rw [hml] at this;simpa [Builtin.firstCells] using this
      ·cases hys
     | ns =>
      simp only [V7] at hys;cases hys;cases hy;exact ⟨0,[],rfl,trivial,by simp,λm hm=>by simp [Builtin.firstCells]⟩
     | s l=>exact absurd rfl (E6r l)
     | _=>simp [V7] at hys
    | _=>simp [V7] at hys
   obtain ⟨n,vs,hlen,hvs,hvl,C2f⟩:=src;have hyl:ys.length/sz=n:=by rw [hvs.length,hvl];exact Nat.mul_div_cancel _ (by omega)
   rw [hyl];have hf:=C2f (Nat.min n len) (Nat.min_le_left _ _);have hml:(ys.take (Nat.min n len*sz)).length=Nat.min n len*sz:=by
    have h1:=hvs.length;have h2:Nat.min n len*sz<=n*sz:=Nat.mul_le_mul_right sz (Nat.min_le_left n len);rw [E7L];omega
   have E5f:off+(ys.take (Nat.min n len*sz)).length<=r.cells.length:=by
    have h2:Nat.min n len*sz<=len*sz:=Nat.mul_le_mul_right sz (Nat.min_le_right n len);omega
   rcases hx with ⟨b,m,cap,hm,hlc,B9O,rfl⟩ | ⟨h0,a,rfl⟩
   ·have pL:=C78 (P:=P) hi hr nG hm (off:=off) (hvs.take (Nat.min n len*sz)) E5f;refine ⟨_,_,?_,rfl,pL.2⟩;simp [Builtin.copy_,F8 (R0 hs),hlen,R6 hsz,hf,pL.1,goInt]
   ·subst h0;refine ⟨_,w,?_,rfl,?_⟩
    ·have hz:(Builtin.firstCells sz 0 Y).run P w=.ok #[] w:=by simpa using C2f 0 (Nat.zero_le _)
     cases a<;>simp [Builtin.copy_,F8 (R0 hs),hlen,R6 hsz,hz,goInt,storeCells]
    ·have e0:lay r.cells off (ys.take (Nat.min n 0*sz))=r.cells:=by simp [lay]
     rw [e0];have e:h.set id (A4 ⟨r.cells,A5⟩)=h:=by
      apply E8h;intro j;by_cases hj:id=j
      ·subst hj;rw [List.getElem?_set_self (E5 hr)];rw [rd_some] at hr;rw [hr,<-nG]
      ·rw [E8c hj]
     rw [e];exact hi
  ·cases hc
 ·cases hc
end
def C7o(leaf:TypeId->Option (List Sh))(P:Program):Nat->List Field->Option (List Sh)
 | _,[]=>A4 []
 | off,f::fs=>(leaf f.type).bind λl =>
   if f.name ≠ "_" ∧ f.offset = off ∧ T7 P f.type = some l.length then (C7o leaf P (off + l.length) fs).map λr => l ++ r else none
def B4A(P:Program):Nat->TypeId->Option (List Sh)
 | 0,_=>A7
 | d+1,t =>
  match P.underlying t with
  | some .bool=>A4 [.b]
  | some (.int k)=>A4 [.i k]
  | some .string=>A4 [.s]
  | some (.struct fs)=>if P.stoodInHeld t=A6 then C7o (B4A P d) P 0 fs.toList else A7
  | some (.array n e)=>(B4A P d e).bind λl=>if T7 P e=A4 l.length then A4 (E68 n l).flatten else A7
  | _=>A7
section
variable {P:Program} {U:Mu} {w:World}
def mkv(P:Program)(t:TypeId)(vs:List Value):Value :=
 if oK P t=A4 A5 then .agg vs.toArray else vs.headD undef
def D7w{c:Cell}{k:IntKind}(h:c.sh=A4 (.i k)):∃ n,c=.i k n:=by
 cases c<;>simp [Cell.sh] at h
 subst h;exact ⟨_,rfl⟩
def D7v{c:Cell}(h:c.sh=A4 .b):∃ x,c=.b x:=by
 cases c<;>simp [Cell.sh] at h
 exact ⟨_,rfl⟩
def D7x{c:Cell}(h:c.sh=A4 .s):∃ x,c=.s x:=by
 cases c<;>simp [Cell.sh] at h
 exact ⟨_,rfl⟩
def C2x{q:Sh}{xs:List Cell}{Xs:List Value}(h:xs.map Cell.sh=[q].map A4)(hX:All2 (RC U) xs Xs):∃ x X,xs=[x]/\Xs=[X]/\x.sh=A4 q/\RC U x X:=by
 cases xs with
 | nil=>simp at h
 | cons x r =>
  cases r with
  | cons y r=>simp at h
  | nil =>
   cases Xs with
   | nil=>exact hX.elim
   | cons X R =>
    cases R with
    | nil=>exact ⟨x,X,rfl,rfl,by simpa using h,hX.1⟩
    | cons Y R=>exact hX.2.elim
def D6Q{α:Type}[DecidableEq α](a b:α):(a==b)=decide (a=b):=by rw [Bool.eq_iff_iff];simp
def B9B{a b c d:List Cell}(h:a.length=c.length):decide (a++b=c++d)=(decide (a=c)&&decide (b=d)):=by
 rw [Bool.eq_iff_iff];simp only [E66,decide_eq_true_eq];exact ⟨λk=>List.append_inj k h,λ⟨h,k⟩=>by rw [h,k]⟩
def E3N(P:Program)(D:Nat)(t:TypeId)(l:List Sh):Prop :=
 ∀ (U:Mu) (w:World) (xs ys:List Cell) (Xs Ys:List Value),xs.map Cell.sh=l.map A4->ys.map Cell.sh=l.map A4->All2 (RC U) xs Xs->All2 (RC U) ys Ys ->
  (Op.equalIn D t (mkv P t Xs) (mkv P t Ys)).run P w=.ok (decide (xs=ys)) w
def C0r{t:TypeId}{l:List Sh}{xs:List Cell}{Xs:List Value}{off:Nat}(hsz:T7 P t=A4 l.length)(sX:oK P t=A4 A5\/(oK P t=A4 A6/\l.length=1))
  (hX:All2 (RC U) xs Xs) (hl:off+l.length<=xs.length):(part t Xs.toArray off).run P w=.ok (mkv P t ((Xs.drop off).take l.length)) w:=by
 have hlen:=hX.length;rcases sX with h | ⟨h,h1⟩
 ·simp [part,B5B h,R6 hsz,mkv,h,List.take_drop]
 ·have X4:off<Xs.length:=by omega
  have:((Xs.drop off).take l.length).headD undef=Xs[off]:=by
   rw [h1,E7g X4];rfl
  unfold mkv;rw [if_neg (by rw [h];simp),this];simp [part,B5B h,X4]
def D49{t:TypeId}{d:Nat}{l:List Sh}(h:B4A P d t=A4 l):oK P t=A4 A5\/(oK P t=A4 A6/\l.length=1):=by
 cases d with
 | zero=>simp [B4A] at h
 | succ d =>
  unfold B4A at h;unfold oK;split at h
  ·rename_i hu;cases h;right;simp [hu]
  ·rename_i hu;cases h;right;simp [hu]
  ·rename_i hu;cases h;right;simp [hu]
  ·rename_i hu;left;simp [hu]
  ·rename_i hu;left;simp [hu]
  ·cases h
def C96{leaf:TypeId->Option (List Sh)}{D:Nat}(sF:∀ t l,leaf t=A4 l->E3N P D t l)(sX:∀ t l,leaf t=A4 l->oK P t=A4 A5\/(oK P t=A4 A6/\l.length=1)) :
  ∀ (fs:List Field) (off:Nat) (l:List Sh) (U:Mu) (w:World) (xs ys:List Cell) (Xs Ys:List Value),C7o leaf P off fs=A4 l->xs.length=off+l.length->ys.length=off+l.length ->
   (xs.drop off).map Cell.sh=l.map A4->(ys.drop off).map Cell.sh=l.map A4->All2 (RC U) xs Xs->All2 (RC U) ys Ys ->
   (Op.eqFields D Xs.toArray Ys.toArray fs).run P w=.ok (decide (xs.drop off=ys.drop off)) w
 | [],off,l,U,w,xs,ys,Xs,Ys,hl,h1,h2,hs1,hs2,hX,hY=>by
  simp [C7o] at hl;subst hl;simp at h1 h2;rw [E7j (by omega),E7j (by omega)];simp [Op.eqFields]
 | f::fs,off,l,U,w,xs,ys,Xs,Ys,hl,h1,h2,hs1,hs2,hX,hY=>by
  simp only [C7o,E65] at hl;obtain ⟨lf,hlf,hl⟩:=hl;split at hl
  ·rename_i hc;obtain ⟨D3y,E6s,hsz⟩:=hc;simp only [E7t] at hl;obtain ⟨r,hr,rfl⟩:=hl;simp only [E7c] at h1 h2;have e:∀ zs:List Cell,(zs.drop off).map Cell.sh=(lf++r).map A4->zs.length=off+(lf.length+r.length)->((zs.drop off).take lf.length).map Cell.sh=lf.map A4/\(zs.drop (off+lf.length)).map Cell.sh=r.map A4:=by
    intro zs hz hzl;constructor
    ·rw [List.map_take,hz,E72,List.take_left' (by simp)]
    ·rw [<-E8t,List.map_drop,hz,E72,List.drop_left' (by simp)]
   obtain ⟨a1,a2⟩:=e xs hs1 h1;obtain ⟨b1,b2⟩:=e ys hs2 h2;have hp1:=C0r (P:=P) (w:=w) (off:=off) hsz (sX _ _ hlf) hX (by omega);have hp2:=C0r (P:=P) (w:=w) (off:=off) hsz (sX _ _ hlf) hY (by omega);have sY:=sF _ _ hlf U w _ _ _ _ a1 b1 ((hX.drop off).take lf.length) ((hY.drop off).take lf.length);have ih:=C96 sF sX fs (off+lf.length) r U w xs ys Xs Ys hr (by omega) (by omega) a2 b2 hX hY;have split:∀ zs:List Cell,zs.drop off=(zs.drop off).take lf.length++zs.drop (off+lf.length):=by
    intro zs;rw [<-E8t];exact (List.take_append_drop _ _).symm
   have hd:decide (xs.drop off=ys.drop off)=(decide ((xs.drop off).take lf.length=(ys.drop off).take lf.length)&&decide (xs.drop (off+lf.length)=ys.drop (off+lf.length))):=by
    have hlen:((xs.drop off).take lf.length).length=((ys.drop off).take lf.length).length:=by simp;omega
    conv=>lhs;rw [split xs,split ys]
    exact B9B hlen
   subst E6s;simp only [Op.eqFields,D3y,ne_eq,not_false_eq_true,if_true,Sem.run_bind,hp1,Result.andThen_ok,hp2,sY];rw [hd];cases decide ((xs.drop f.offset).take lf.length=(ys.drop f.offset).take lf.length) with
   | true=>simpa using ih
   | false=>simp
  ·cases hl
def B02(D:Nat)(e:TypeId)(n:Nat)(xs ys:Array Value):List Nat->Sem Bool
 | []=>pure A5
 | i::r=>do
  let a <-part e xs (i*n)
  let b <-part e ys (i*n)
  let q <-Op.equalIn D e a b
  if (!q)=A5 then pure A6 else B02 D e n xs ys r
def run_equalIn_array{D:Nat}{t e:TypeId}{n sz:Nat}{xs ys:Array Value}(ha:uM P t=A4 (n,e))(hsz:T7 P e=A4 sz) :
  (Op.equalIn (D+1) t (.agg xs) (.agg ys)).run P w=(B02 D e sz xs ys (E7H n)).run P w:=by
 simp only [Op.equalIn,Sem.run_bind,F8 (uN ha),Result.andThen_ok,R6 hsz];rw [Std.Legacy.Range.forIn_eq_forIn_range'];have hr:E7G (Std.Legacy.Range.start [0:n]) (Std.Legacy.Range.size [0:n]) (Std.Legacy.Range.step [0:n])=E7H n:=by
  simp [List.range_eq_range',Std.Legacy.Range.size]
 rw [hr];generalize E7H n=is
 induction is generalizing w with
 | nil=>simp [B02]
 | cons i is ih =>
  simp only [List.forIn_cons,B02,Sem.run_bind];generalize (part e xs (i*sz)).run P w=r1;cases r1 with
  | ok a w1 =>
   simp only [Result.andThen_ok];generalize (part e ys (i*sz)).run P w1=r2;cases r2 with
   | ok b w2 =>
    simp only [Result.andThen_ok];generalize (Op.equalIn D e a b).run P w2=r3;cases r3 with
    | ok r w3 =>
     cases r
     ·simp
     ·simpa using ih
    | halt x w3=>simp [Result.andThen]
   | halt x w2=>simp [Result.andThen]
  | halt x w1=>simp [Result.andThen]
def D3f{D:Nat}{e:TypeId}{l:List Sh}(sF:E3N P D e l)(sX:oK P e=A4 A5\/(oK P e=A4 A6/\l.length=1))(hsz:T7 P e=A4 l.length) :
  ∀ (k i:Nat) (U:Mu) (w:World) (xs ys:List Cell) (Xs Ys:List Value),xs.length=i*l.length+k*l.length->ys.length=i*l.length+k*l.length ->
   (xs.drop (i*l.length)).map Cell.sh=(E68 k l).flatten.map A4->(ys.drop (i*l.length)).map Cell.sh=(E68 k l).flatten.map A4->All2 (RC U) xs Xs->All2 (RC U) ys Ys ->
   (B02 D e l.length Xs.toArray Ys.toArray (E7G i k)).run P w=.ok (decide (xs.drop (i*l.length)=ys.drop (i*l.length))) w
 | 0,i,U,w,xs,ys,Xs,Ys,h1,h2,hs1,hs2,hX,hY=>by
  rw [E7j (by omega),E7j (by omega)];simp [B02]
 | k+1,i,U,w,xs,ys,Xs,Ys,h1,h2,hs1,hs2,hX,hY=>by
  have hk:(k+1)*l.length=l.length+k*l.length:=by rw [E8u];omega
  have hi:(i+1)*l.length=i*l.length+l.length:=by rw [E8u];omega
  rw [hk] at h1 h2;have e:∀ zs:List Cell,(zs.drop (i*l.length)).map Cell.sh=(E68 (k+1) l).flatten.map A4->zs.length=i*l.length+(l.length+k*l.length) ->
    ((zs.drop (i*l.length)).take l.length).map Cell.sh=l.map A4/\(zs.drop ((i+1)*l.length)).map Cell.sh=(E68 k l).flatten.map A4:=by
   intro zs hz hzl;rw [E7P,E8g] at hz;constructor
   ·rw [List.map_take,hz,E72,List.take_left' (by simp)]
   ·rw [hi,<-E8t,List.map_drop,hz,E72,List.drop_left' (by simp)]
  obtain ⟨a1,a2⟩:=e xs hs1 h1;obtain ⟨b1,b2⟩:=e ys hs2 h2;have hp1:=C0r (P:=P) (w:=w) (off:=i*l.length) hsz sX hX (by omega);have hp2:=C0r (P:=P) (w:=w) (off:=i*l.length) hsz sX hY (by omega);have sY:=sF U w _ _ _ _ a1 b1 ((hX.drop (i*l.length)).take l.length) ((hY.drop (i*l.length)).take l.length);have ih:=D3f sF sX hsz k (i+1) U w xs ys Xs Ys (by omega) (by omega) a2 b2 hX hY;have split:∀ zs:List Cell,zs.drop (i*l.length)=(zs.drop (i*l.length)).take l.length++zs.drop ((i+1)*l.length):=by
   intro zs;rw [hi,<-E8t];exact (List.take_append_drop _ _).symm
  have hd:decide (xs.drop (i*l.length)=ys.drop (i*l.length))=(decide ((xs.drop (i*l.length)).take l.length=(ys.drop (i*l.length)).take l.length)&&decide (xs.drop ((i+1)*l.length)=ys.drop ((i+1)*l.length))):=by
   have hlen:((xs.drop (i*l.length)).take l.length).length=((ys.drop (i*l.length)).take l.length).length:=by simp;omega
   conv=>lhs;rw [split xs,split ys]
   exact B9B hlen
  rw [List.range'_succ];simp only [B02,Sem.run_bind,hp1,Result.andThen_ok,hp2,sY];rw [hd];cases decide ((xs.drop (i*l.length)).take l.length=(ys.drop (i*l.length)).take l.length) with
  | true=>simpa using ih
  | false=>simp
def D7e:∀ (d D:Nat) (t:TypeId) (l:List Sh),d<=D->B4A P d t=A4 l->E3N P D t l
 | 0,_,_,_,_,h=>by simp [B4A] at h
 | d+1,0,_,_,hD,_=>by omega
 | d+1,D+1,t,l,hD,h=>by
  have ih:=λt' l'=>D7e d D t' l' (by omega)
  have sX:=D49 h;intro U w xs ys Xs Ys hx hy hX hY;unfold B4A at h;split at h
  ·rename_i hu;cases h;obtain ⟨x,X,rfl,rfl,h1,h2⟩:=C2x hx hX;obtain ⟨y,Y,rfl,rfl,h3,h4⟩:=C2x hy hY;obtain ⟨a,rfl⟩:=D7v h1;obtain ⟨b,rfl⟩:=D7v h3;cases h2;cases h4;have hm:∀ v:Value,mkv P t [v]=v:=λv=>by simp [mkv,oK,hu]
   rw [hm,hm,run_equalIn_bool' w D t a b hu,D6Q];simp
  ·rename_i k hu;cases h;obtain ⟨x,X,rfl,rfl,h1,h2⟩:=C2x hx hX;obtain ⟨y,Y,rfl,rfl,h3,h4⟩:=C2x hy hY;obtain ⟨a,rfl⟩:=D7w h1;obtain ⟨b,rfl⟩:=D7w h3;cases h2;cases h4;have hm:∀ v:Value,mkv P t [v]=v:=λv=>by simp [mkv,oK,hu]
   rw [hm,hm,run_equalIn_int w D t k k a b hu,D6Q];simp
  ·rename_i hu;cases h;obtain ⟨x,X,rfl,rfl,h1,h2⟩:=C2x hx hX;obtain ⟨y,Y,rfl,rfl,h3,h4⟩:=C2x hy hY;obtain ⟨a,rfl⟩:=D7x h1;obtain ⟨b,rfl⟩:=D7x h3;cases h2;cases h4;have hm:∀ v:Value,mkv P t [v]=v:=λv=>by simp [mkv,oK,hu]
   rw [hm,hm,run_equalIn_string w D t _ _ hu,ByteArray.toList_mk,ByteArray.toList_mk,show (a==b)=decide (a=b) by rw [Bool.eq_iff_iff];simp];simp
  ·rename_i fs hu;split at h
   ·rename_i pL;have hm:∀ vs:List Value,mkv P t vs=.agg vs.toArray:=λvs=>by simp [mkv,oK,hu]
    have hfo:P.fieldsOf t=fs:=by simp [Program.fieldsOf,hu]
    rw [hm,hm,run_equalIn_struct w D t _ _ (by rw [hfo];exact hu) pL,hfo];have hxl:xs.length=l.length:=by have:=congrArg List.length hx;simpa using this
    have hyl:ys.length=l.length:=by have:=congrArg List.length hy;simpa using this
    have:=C96 (P:=P) (leaf:=B4A P d) (D:=D) (λt' l' h'=>ih t' l' h') (λt' l' h'=>D49 h') fs.toList 0 l U w xs ys Xs Ys h (by omega) (by omega) (by simpa using hx) (by simpa using hy) hX hY;simpa using this
   ·cases h
  ·rename_i n e hu;simp only [E65] at h;obtain ⟨le,mE,h⟩:=h;split at h
   ·cases h;rename_i hsz;have hm:∀ vs:List Value,mkv P t vs=.agg vs.toArray:=λvs=>by simp [mkv,oK,hu]
    have E55:uM P t=A4 (n,e):=by simp [uM,hu]
    rw [hm,hm,run_equalIn_array E55 hsz];have hxl:xs.length=n*le.length:=by have:=congrArg List.length hx;simpa using this
    have hyl:ys.length=n*le.length:=by have:=congrArg List.length hy;simpa using this
    have:=D3f (ih e le mE) (D49 mE) hsz n 0 U w xs ys Xs Ys (by omega) (by omega) (by simpa using hx) (by simpa using hy) hX hY;rw [<-List.range_eq_range'] at this;simpa using this
   ·cases h
  ·cases h
def E23{neg:Bool}{t:TypeId}{l:List Sh}{x y v:Val}{X Y:Value}(sX:oK P t=A4 A5)(hl:B4A P 100 t=A4 l)(hx:RV U x X)(hy:RV U y Y)(h:aeq neg l x y=A4 v) :
  ∃ V,(binOp (bif neg then .neq else .eql) t X Y).run P w=.ok V w/\RV U v V:=by
 unfold aeq at h;split at h
 ·obtain ⟨Xs,rfl,hX⟩:=hx;obtain ⟨Ys,rfl,hY⟩:=hy;split at h
  ·rename_i hc;cases h;have:=D7e (P:=P) 100 10000 t l (by omega) hl U w _ _ Xs Ys hc.1 hc.2 hX hY;have hm:∀ vs:List Value,mkv P t vs=.agg vs.toArray:=λvs=>by simp [mkv,sX]
   rw [hm,hm] at this;cases neg
   ·exact ⟨_,by rw [cond_false,run_eql_struct,this];rfl,rfl⟩
   ·exact ⟨_,by rw [cond_true,run_neq_struct,this];rfl,rfl⟩
  ·cases h
 ·cases h
end
section
variable {P:Program} {U:Mu} {w:World}
def D1P(P:Program)(t:TypeId):Option (TypeId × TypeId):=match P.underlying t with | some (.map k e)=>A4 (k,e) | _=>A7
def A5z{t k e:TypeId}(h:D1P P t=A4 (k,e)):P.underlying t=A4 (.map k e):=by
 unfold D1P at h;cases hu:P.underlying t with
 | none=>rw [hu] at h;cases h
 | some d=>rw [hu] at h;cases d<;>simp_all
def B10(P:Program)(k:TypeId)(kk:Option IntKind):Bool :=
 match P.underlying k,kk with
 | some (.int i),A4 j=>decide (i=j)
 | some .string,none=>A5
 | _,_=>A6
def B0U(v:Value):Part->Bool
 | .c x=>v.oneCell'&&nC v [x]
 | .a l=>(match v with | .agg _=>A5 | _=>A6)&&nC v l
def B7S{v:Value}{p:Part}(h:B0U v p=A5):RP U p v:=by
 cases p with
 | c x =>
  simp only [B0U,E66] at h;have h2:=jW (U:=U) h.2;have h3:v.cells = #[v]:=by
   have:=h.1;cases v<;>simp_all [Value.oneCell',Value.cells]
  rw [h3] at h2;exact h2.1
 | a l =>
  simp only [B0U,E66] at h;have h2:=jW (U:=U) h.2;cases v with
  | agg vs=>exact ⟨vs.toList,by simp,by simpa [Value.cells] using h2⟩
  | _=>cases h.1
def C7k{k:TypeId}{kk:Option IntKind}{d:TypeDesc}{c:Cell}{V:Value}(hd:P.underlying k=A4 d)(hk:B10 P k kk=A5)(hs:vO kk c=A5)(hc:RC U c V):MapKept.IsKey d V:=by
 unfold B10 at hk;rw [hd] at hk;cases d<;>cases kk<;>simp at hk
 all_goals
  cases c<;>simp [vO] at hs
 ·subst hk;subst hs;cases hc;rfl
 ·cases hc;trivial
def E4z{kk:Option IntKind}{c c':Cell}{V V':Value}(h1:vO kk c=A5)(h2:vO kk c'=A5)(hc:RC U c V)(hc':RC U c' V'):V=V'↔c=c':=by
 cases kk with
 | none =>
  cases c<;>simp [vO] at h1
  cases c'<;>simp [vO] at h2
  cases hc;cases hc';simp
 | some k =>
  cases c<;>simp [vO] at h1
  cases c'<;>simp [vO] at h2
  cases hc;cases hc';subst h1;subst h2;simp
def D1T{d:TypeDesc}{kk:Option IntKind}{k:Cell}{K:Value}(hkd:∀ c V,vO kk c=A5->RC U c V->MapKept.IsKey d V)(hk:vO kk k=A5)(hK:RC U k K) :
  ∀ (es:W3) (E:List MapEntry) (i:Nat),All2 (RE U) es E->(es.all λe=>vO kk e.1)=A5 ->
   match mgo k es i with
   | none=>Instr.findNow d K E i=A4 A7
   | some (j,p)=>∃ V,Instr.findNow d K E i=A4 (A4 (j,V))/\RP U p V/\i<=j/\∃ e E',es[j-i]?=A4 e/\e=(k,p)/\E[j-i]?=A4 E'/\E'.val=V/\E'.key=K
 | [],[],i,_,_=>rfl
 | e::es,E0::E,i,⟨⟨h1,h2⟩,h3⟩,hs=>by
  simp only [List.all_cons,E66] at hs;obtain ⟨r,hr,E5k⟩:=MapKept.sameNow_of_keys (hkd k K hk hK) (hkd e.1 E0.key hs.1 h1);have hke:=E4z hk hs.1 hK h1;unfold mgo;by_cases he:e.1=k
  ·rw [if_pos he];have:r=A5:=E5k.2 (hke.2 he.symm);subst this;refine ⟨E0.val,by simp [Instr.findNow,hr],h2,E69 _,e,E0,by simp,by rw [<-he],by simp,rfl,(hke.2 he.symm).symm⟩
  ·rw [if_neg he];have hrf:r=A6:=by
    cases r with
    | false=>rfl
    | true=>exact absurd (hke.1 (E5k.1 rfl)).symm he
   subst hrf;have ih:=D1T hkd hk hK es E (i+1) h3 hs.2;cases hm:mgo k es (i+1) with
   | none=>rw [hm] at ih;simp only at ih ⊢;simp [Instr.findNow,hr,ih]
   | some jp =>
    obtain ⟨j,p⟩:=jp;rw [hm] at ih;obtain ⟨V,g1,g2,g3,e',E',g4,g5,g6,g7,g8⟩:=ih;refine ⟨V,by simp [Instr.findNow,hr,g1],g2,by omega,e',E',?_,g5,?_,g7,g8⟩
    ·rw [show j-i=(j-(i+1))+1 by omega];simpa using g4
    ·rw [show j-i=(j-(i+1))+1 by omega];simpa using g6
 | [],_::_,_,h,_=>h.elim
 | _::_,[],_,h,_=>h.elim
def RP.val{p:Part}{V:Value}(h:RP U p V):RV U (wC A6 p A5) V:=by
 cases p<;>exact h
def D6c{p:Part}{b:Bool}:wC A6 p b=wC A6 p A5:=by cases p<;>rfl
def D2a{ok b:Bool}{p:Part}{V:Value}(h:RP U p V):RV U (wC ok p b) (if ok then .tuple #[V,.bool b] else V):=by
 cases ok with
 | true=>exact ⟨[V,.bool b],rfl,h,rfl,trivial⟩
 | false =>
  rw [D6c];exact RP.val h
def D1J{v:Val}{c:Cell}{V:Value}(h:B96 v=A4 c)(hv:RV U v V):RC U c V:=by
 cases v<;>simp [B96] at h
 subst h;exact hv
def D4n{v:Val}{p:Part}{V:Value}(h:C3Q v=A4 p)(hv:RV U v V):RP U p V:=by
 cases v<;>simp [C3Q] at h
 ·subst h;exact hv
 ·subst h;exact hv
def E2M{hp:A9}{m:Val}{M:Value}{es:W3}(hrow:∀ id r,rd hp id=A4 r->RowOk U w id r)(hm:RV U m M)(h:D1Q hp m=A4 es) :
  (M=.map A7/\es=[])\/∃ b E,M=.map (A4 b)/\w.heap[b]?=A4 (.map E E.size)/\All2 (RE U) es E.toList/\∀ (i:Nat) (e:MapEntry),E[i]?=A4 e->e.born=i:=by
 unfold D1Q at h;split at h
 ·cases h;exact .inl ⟨hm,rfl⟩
 ·rename_i id;obtain ⟨b,n,h1,rfl⟩:=hm;simp only [E65] at h;obtain ⟨r,hr,h⟩:=h;have:=B5s h;subst this;obtain ⟨E,h2,h3,h4⟩:=(hrow id _ hr).map h1;exact .inr ⟨b,E,rfl,h2,h3,h4⟩
 ·cases h
def E1v{t kt et:TypeId}{kk:Option IntKind}{z:Value}{zero:Part}{ok:Bool}{hp:A9}{m x v:Val}{M X:Value}(ht:D1P P t=A4 (kt,et))(hkk:B10 P kt kk=A5)(hz:A2G P et=A4 z)(hc:B0U z zero=A5)
  (hrow:∀ id r,rd hp id=A4 r->RowOk U w id r) (hm:RV U m M) (hx:RV U x X) (h:yK hp kk zero ok m x=A4 v) :
  ∃ V,(Instr.lookup t M X ok).run P w=.ok V w/\RV U v V:=by
 simp only [yK,E65] at h;obtain ⟨k,hk,es,hes,h⟩:=h;split at h
 ·cases h;rename_i A6W;simp only [A2S,E66] at A6W;have hK:=D1J hk hx;cases hd:P.underlying kt with
  | none=>unfold B10 at hkk;rw [hd] at hkk;cases hkk
  | some d =>
   have hkd:∀ c V,vO kk c=A5->RC U c V->MapKept.IsKey d V:=λc V=>C7k hd hkk
   have hX:=hkd k X A6W.1 hK;rcases E2M hrow hm hes with ⟨rfl,rfl⟩ | ⟨b,E,rfl,h1,h2,_⟩
   ·refine ⟨_,?_,D2a (B7S hc)⟩;simp [Instr.lookup,F8 (A5z ht),MapKept.run_checkKey hd hX,MapKept.run_findKey (l:=[]) hd (show Instr.findNow d X [] 0=A4 A7 from rfl),A2A hz]
   ·have hg:=D1T hkd A6W.1 hK es E.toList 0 h2 A6W.2;unfold A9D;cases hmg:mgo k es 0 with
    | none =>
     rw [hmg] at hg;refine ⟨_,?_,D2a (B7S hc)⟩;simp [Instr.lookup,F8 (A5z ht),MapKept.run_getObj_map h1,MapKept.run_checkKey hd hX,MapKept.run_findKey hd hg,A2A hz]
    | some jp =>
     obtain ⟨j,p⟩:=jp;rw [hmg] at hg;obtain ⟨V,g1,g2,_⟩:=hg;refine ⟨_,?_,D2a g2⟩;simp [Instr.lookup,F8 (A5z ht),MapKept.run_getObj_map h1,MapKept.run_checkKey hd hX,MapKept.run_findKey hd g1]
 ·cases h
def B4E{J:Ctx}{h:A9}{id b n:Nat}{es es':W3}{E E':Array MapEntry}(hi:Inv J U h w)(hr:rd h id=A4 (Q1 es))(hm:U id=A4 (b,n))(hb:w.heap[b]?=A4 (.map E E.size))
  (h1:All2 (RE U) es' E'.toList) (h2:∀ (i:Nat) (e:MapEntry),E'[i]?=A4 e->e.born=i):Inv J U (h.set id (A4 (Q1 es'))) { w with heap:=w.heap.setIfInBounds b (.map E' E'.size) }:=by
 obtain ⟨g1,g2⟩:=MapKept.heap_set (o':=.map E' E'.size) hb;refine hi.turn hr (Row.own_mrow _) (Row.own_mrow _) hm rfl rfl rfl g2 ?_;unfold RowOk;rw [hm];exact .inr (.inl ⟨es',E',rfl,g1,h1,h2⟩)
def All2.modify{es:W3}{E:List MapEntry}{i:Nat}{e:Cell × Part}{f:MapEntry->MapEntry}(h:All2 (RE U) es E)(hf:∀ x,E[i]?=A4 x->RE U e (f x)):All2 (RE U) (es.set i e) (E.modify i f):=by
 refine All2.of_get (by simp [h.length]) λj a b ha hb=>?_
 rw [List.getElem?_modify] at hb;by_cases hj:i=j
 ·subst hj;obtain ⟨x,hx,rfl⟩:∃ x,E[i]?=A4 x/\f x=b:=by
   cases hE:E[i]? with
   | none=>rw [hE] at hb;simp at hb
   | some y=>rw [hE] at hb;simp at hb;exact ⟨y,rfl,hb⟩
  have X4:i<es.length:=by
   have:=(E7b.1 hx).1;rw [h.length];exact this
  rw [List.getElem?_set_self X4] at ha;cases ha;exact hf x hx
 ·rw [E8c hj] at ha;have hb':E[j]?=A4 b:=by
   cases hE:E[j]? with
   | none=>rw [hE] at hb;simp at hb
   | some y=>rw [hE] at hb;simp [hj] at hb;rw [hb]
  obtain ⟨y,hy,hR⟩:=h.get j a ha;rw [hb'] at hy;cases hy;exact hR
def D4C{J:Ctx}{t kt et:TypeId}{kk:Option IntKind}{h h':A9}{m k x:Val}{M K X:Value}(ht:D1P P t=A4 (kt,et))(hkk:B10 P kt kk=A5)
  (hi:Inv J U h w) (hm:RV U m M) (hk:RV U k K) (hx:RV U x X) (hh:A29 h kk m k x=A4 h') :
  ∃ w',(Instr.mapUpdate t M K X).run P w=.ok () w'/\Inv J U h' w':=by
 unfold A29 at hh;split at hh
 ·rename_i id;obtain ⟨b,n,hmu,rfl⟩:=hm;simp only [E65] at hh;obtain ⟨kc,hkc,p,hp,r,hr,es,hes,hh⟩:=hh;split at hh
  ·cases hh;rename_i A6W;simp only [A2S,E66] at A6W;have:=B5s hes;subst this;have hK:=D1J hkc hk;have hX:=D4n hp hx;obtain ⟨E,h1,h2,h3⟩:=(hi.rows id _ hr).map hmu;cases hd:P.underlying kt with
   | none=>unfold B10 at hkk;rw [hd] at hkk;cases hkk
   | some d =>
    have hkd:∀ c V,vO kk c=A5->RC U c V->MapKept.IsKey d V:=λc V=>C7k hd hkk
    have D5J:=hkd kc K A6W.1 hK;have hg:=D1T hkd A6W.1 hK es E.toList 0 h2 A6W.2;unfold A9E A9D;cases hmg:mgo kc es 0 with
    | none =>
     rw [hmg] at hg;refine ⟨_,?_,B4E (E':=E.push { key:=K,val:=X,born:=E.size }) hi hr hmu h1 (by rw [Array.toList_push];exact h2.append ⟨⟨hK,hX⟩,trivial⟩) ?_⟩
     ·simp [Instr.mapUpdate,F8 (A5z ht),MapKept.run_getObj_map h1,MapKept.run_checkKey hd D5J,MapKept.run_findKey hd hg,MapKept.run_setObj_map _ h1]
     ·intro i e he;rw [Array.getElem?_push] at he;split at he
      ·cases he;rename_i hh;exact hh.symm
      ·exact h3 i e he
    | some jp =>
     obtain ⟨j,q⟩:=jp;rw [hmg] at hg;obtain ⟨V,g1,g2,_,e0,E0,g4,g5,g6,g7,g8⟩:=hg;simp only [Nat.sub_zero] at g4 g6;have g6':E[j]?=A4 E0:=by simpa using g6
     refine ⟨_,?_,B4E (E':=E.modify j λe=>{ e with key:=K,val:=X }) hi hr hmu h1 ?_ ?_⟩
     ·simp [Instr.mapUpdate,F8 (A5z ht),MapKept.run_getObj_map h1,MapKept.run_checkKey hd D5J,MapKept.run_findKey hd g1,g6',g8,MapKept.run_keyThatStays D5J,MapKept.run_setObj_map _ h1]
     ·rw [Array.toList_modify];exact All2.modify h2 λx hx=>⟨hK,hX⟩
     ·intro i e he;rw [Array.getElem?_modify] at he;split at he
      ·rw [E7t] at he;obtain ⟨e',he',rfl⟩:=he;exact h3 i e' he'
      ·exact h3 i e he
  ·cases hh
 ·cases hh
def E1w{J:Ctx}{t kt et:TypeId}{kk:Option IntKind}{z:Value}{zero:Part}{h h':A9}{m k v:Val}{M K:Value}(ht:D1P P t=A4 (kt,et))(hkk:B10 P kt kk=A5)(hz:A2G P et=A4 z)(hc:B0U z zero=A5)
  (hi:Inv J U h w) (hm:RV U m M) (hk:RV U k K) (hh:D2E h kk zero m k=A4 (v,h')) :
  ∃ V w',(Instr.mapEntry t M K).run P w=.ok V w'/\RV U v V/\Inv J U h' w':=by
 unfold D2E at hh;split at hh
 ·rename_i id;obtain ⟨b,n,hmu,rfl⟩:=hm;simp only [E65] at hh;obtain ⟨kc,hkc,r,hr,es,hes,hh⟩:=hh;split at hh
  ·rename_i A6W;simp only [A2S,E66] at A6W;have:=B5s hes;subst this;have hK:=D1J hkc hk;have hZ:RP U zero z:=B7S hc;obtain ⟨E,h1,h2,h3⟩:=(hi.rows id _ hr).map hmu;cases hd:P.underlying kt with
   | none=>unfold B10 at hkk;rw [hd] at hkk;cases hkk
   | some d =>
    have hkd:∀ c V,vO kk c=A5->RC U c V->MapKept.IsKey d V:=λc V=>C7k hd hkk
    have D5J:=hkd kc K A6W.1 hK;have hg:=D1T hkd A6W.1 hK es E.toList 0 h2 A6W.2;unfold A9D at hh;cases hmg:mgo kc es 0 with
    | none =>
     rw [hmg] at hg hh;cases hh;have hlen:es.length=E.size:=by have:=h2.length;simpa using this
     refine ⟨.tuple #[z,goInt E.size],_,?_,⟨[z,goInt E.size],rfl,hZ,by rw [hlen];rfl,trivial⟩,B4E (E':=E.push { key:=K,val:=z,born:=E.size }) hi hr hmu h1 (by rw [Array.toList_push];exact h2.append ⟨⟨hK,hZ⟩,trivial⟩) ?_⟩
     ·simp [Instr.mapEntry,F8 (A5z ht),MapKept.run_getObj_map h1,MapKept.run_checkKey hd D5J,MapKept.run_findKey hd hg,A2A hz,MapKept.run_setObj_map _ h1]
     ·intro i e he;rw [Array.getElem?_push] at he;split at he
      ·cases he;rename_i hh;exact hh.symm
      ·exact h3 i e he
    | some jp =>
     obtain ⟨j,q⟩:=jp;rw [hmg] at hg hh;cases hh;obtain ⟨V,g1,g2,_,e0,E0,g4,g5,g6,g7,g8⟩:=hg;simp only [Nat.sub_zero] at g4 g6;have g6':E[j]?=A4 E0:=by simpa using g6
     have E5a:=h3 j E0 g6';have E6x:es.set j (kc,q)=es:=by
      apply E8h;intro i;by_cases hij:j=i
      ·subst hij;rw [List.getElem?_set_self (E7b.1 g4).1,g4,g5]
      ·rw [E8c hij]
     have hI:=B4E (es':=es.set j (kc,q)) (E':=E.modify j λe=>{ e with key:=K }) hi hr hmu h1 (by
      rw [Array.toList_modify];refine All2.modify h2 λx hx=>⟨hK,?_⟩
      rw [g6] at hx;cases hx;show RP U q E0.val;rw [g7];exact g2) (by
      intro i e he;rw [Array.getElem?_modify] at he;split at he
      ·rw [E7t] at he;obtain ⟨e',he',rfl⟩:=he;exact h3 i e' he'
      ·exact h3 i e he)
     rw [E6x] at hI;have hsame:h.set id (A4 (Q1 es))=h:=by
      apply E8h;intro i;by_cases hij:id=i
      ·subst hij;rw [List.getElem?_set_self (E5 hr)];rw [rd_some] at hr;rw [hr]
      ·rw [E8c hij]
     rw [hsame] at hI;refine ⟨.tuple #[V,goInt j],_,?_,⟨[V,goInt j],rfl,g2,rfl,trivial⟩,hI⟩;simp [Instr.mapEntry,F8 (A5z ht),MapKept.run_getObj_map h1,MapKept.run_checkKey hd D5J,MapKept.run_findKey hd g1,g6',g8,E5a,MapKept.run_keyThatStays D5J,MapKept.run_setObj_map _ h1]
  ·cases hh
 ·cases hh
def E1y{J:Ctx}{t:TypeId}{h h':A9}{m s x:Val}{M S X:Value}
  (hi:Inv J U h w) (hm:RV U m M) (hs:RV U s S) (hx:RV U x X) (hh:D2F h m s x=A4 h') :
  ∃ w',(Instr.entryStore t M S X).run P w=.ok () w'/\Inv J U h' w':=by
 unfold D2F at hh;split at hh
 ·rename_i id n;obtain ⟨b,nn,hmu,rfl⟩:=hm;cases hs;simp only [E65] at hh;obtain ⟨p,hp,r,hr,es,hes,hh⟩:=hh;split at hh
  ·rename_i hn;simp only [E65,E7a] at hh;obtain ⟨e,he,rfl⟩:=hh;have:=B5s hes;subst this;have hX:=D4n hp hx;obtain ⟨E,h1,h2,h3⟩:=(hi.rows id _ hr).map hmu;obtain ⟨E0,hE0,hR⟩:=h2.get _ _ he;have E51:E[n.toNat]?=A4 E0:=by simpa using hE0
   have E5e:E.findIdx? (λe=>(e.born:Int)==n)=A4 n.toNat:=by
    rw [Array.findIdx?_eq_some_iff_getElem];have X4:=(Array.getElem?_eq_some_iff.1 E51).1;refine ⟨X4,?_,λj hj=>?_⟩
    ·have:=h3 n.toNat E[n.toNat] (by simp [X4]);simp [this];omega
    ·have:=h3 j E[j] (by simp);simp [this];omega
   refine ⟨_,?_,B4E (E':=E.modify n.toNat λe=>{ e with val:=X }) hi hr hmu h1 ?_ ?_⟩
   ·simp [Instr.entryStore,MapKept.run_getObj_map h1,asInt,asIntOf,E5e,MapKept.run_setObj_map _ h1]
   ·rw [Array.toList_modify];refine All2.modify h2 λx hx=>⟨?_,hX⟩
    rw [hE0] at hx;cases hx;exact hR.1
   ·intro i e' he';rw [Array.getElem?_modify] at he';split at he'
    ·rw [E7t] at he';obtain ⟨e'',E6c,rfl⟩:=he';exact h3 i e'' E6c
    ·exact h3 i e' he'
  ·cases hh
 ·cases hh
def D82{J:Ctx}{t:TypeId}{h:A9}{n0:Nat}{slot:Option Nat}(hi:Inv J U h w)(hs:A0T U h n0 slot) :
  ∃ V w' U',(Instr.makeMap t A7).run P w=.ok V w' /\ U.le U'/\RV U' (.c (.m (gF h n0 slot (Q1 [])).1)) V/\Inv J U' (gF h n0 slot (Q1 [])).2 w'/\Keeps U U' h n0 slot:=by
 obtain ⟨h1,h2,h3,h4,h5,h6⟩:=vG (r:=Q1 []) hs hi.dom;refine ⟨.map (A4 w.heap.size),w.alloc (.map #[] 0),_,rfl,Mu.le_add h1,⟨_,0,X8 _ _ _,rfl⟩,?_,Keeps.new⟩;refine hi.fresh h1 rfl rfl rfl (λb hb=>?_) h2 h3 h4 h5 ?_
 ·show (w.heap.push _)[b]?=_;rw [Array.getElem?_push,if_neg (by omega)]
 ·unfold RowOk;simp only [Mu.add,if_true];refine .inr (.inl ⟨[],#[],rfl,by show (w.heap.push _)[w.heap.size]?=_;simp,trivial,λi e he=>by simp at he⟩)
end
def B1a:Value->Bool
 | .slice A7 0 0=>A5
 | _=>A6
def A19(place:Nat->Option (Nat × Nat)):List (Nat × Operand)->List (Nat × Nat × Opd)->Bool
 | [],[]=>A5
 | q::qs,p::ps=>decide (place q.1=A4 (p.1,p.2.1))&&E9 q.2 p.2.2&&A19 place qs ps
 | _,_=>A6
def places(P:Program)(fs:Array Field):List (Option (Nat × Nat)):=fs.toList.map λf=>(T7 P f.type).map λn=>(f.offset,n)
def B5b{α:Type}:List (Option α)->Option (List α)
 | []=>A4 []
 | some a::r=>(B5b r).map λl=>a::l
 | none::_=>A7
def A9a(P:Program)(s:TypeId)(j:Nat):Option Field:=(A7b P s).bind λfs=>fs[j]?
def B3V(P:Program)(e:TypeId):Bool :=
 match P.info? e with
 | some i=>decide (i.bytes<=65536)&&decide (i.bytes≠0)&&decide (i.size≠0)&&(match i.zero with | some z=>decide (z.cells.size=i.size) | none=>A6)
 | none=>A6
def E3Z(P:Program)(t:TypeId):Bool :=
 match P.underlying t with
 | some .string=>A5
 | some (.slice _)=>A5
 | _=>A6
def E2h(P:Program)(o:Op):AOp->Bool
 | .mv y=>(match o with | .move x=>E9 x y | .assign x=>E9 x y | _=>A6)
 | .nilrow _=>(match o with | .move (.const v)=>B1a v | .assign (.const v)=>B1a v | _=>A6)
 | .pick c a b=>(match o with | .pick c' a' b'=>E9 c' c&&E9 a' a&&E9 b' b | _=>A6)
 | .alloc z=>(match o with | .alloc t=>(match A2G P t with | some v=>nC v z | none=>A6) | _=>A6)
 | .box y=>(match o with | .box _ x=>E9 x y | _=>A6)
 | .build z ps=>(match o with
   | .build t qs=>(match A2G P t with | some v=>nC v z | none=>A6) &&
     (match A7b P t with
      | some fs=>(match B5b (places P fs) with | some pl=>A19 (pl[·]?) qs.toList ps | none=>A6)
      | none=>(match uM P t with | some (_,e)=>(match T7 P e with | some sz=>A19 (λi=>A4 (i*sz,sz)) qs.toList ps | none=>A6) | none=>A6))
   | _=>A6)
 | .buildSl sz len z ps=>(match o with
   | .buildSlice t len' qs=>decide (len=len')&&(match sliceB P t with
     | some e=>decide (T7 P e=A4 sz)&&decide (len*sz<=2 ^ 24)&&(match A2G P e with
       | some v=>nC (.agg ((Array.range (len*sz)).map (v.cells[· % v.cells.size]!))) z
       | none=>A6)&&A19 (λi=>A4 (i*sz,sz)) qs.toList ps
     | none=>A6)
   | _=>A6)
 | .load1 y=>(match o with | .load t x=>decide (oK P t=A4 A6)&&E9 x y | _=>A6)
 | .loadN n y=>(match o with | .load t x=>decide (oK P t=A4 A5)&&decide (T7 P t=A4 n)&&E9 x y | _=>A6)
 | .store1 y z=>(match o with | .store t x v=>decide (T7 P t=A4 1)&&E9 x y&&E9 v z | _=>A6)
 | .storeN n y z=>(match o with | .store t x v=>decide (T7 P t=A4 n)&&E9 x y&&E9 v z | _=>A6)
 | .bin op y z=>(match o with | .binOp op' _ x v _=>decide (op=op')&&E9 x y&&E9 v z | _=>A6)
 | .eqA neg sh y z=>(match o with | .binOp op' t x v _=>decide ((bif neg then BinOp.neq else .eql)=op')&&decide (oK P t=A4 A5)&&decide (B4A P 100 t=A4 sh) && !P.eqGuardType P.depth t&&E9 x y&&E9 v z | _=>A6)
 | .eqB neg y z=>(match o with | .binOp op' t x v _=>decide ((bif neg then BinOp.neq else .eql)=op')&&(match P.underlying t with | some .bool=>A5 | _=>A6)&&E9 x y&&E9 v z | _=>A6)
 | .eqN fn neg y=>(match o with | .binOp op' t x (.const c) _=>decide ((bif neg then BinOp.neq else .eql)=op')&&D1I P fn t c&&E9 x y | _=>A6)
 | .nilc y=>(match o with | .nilCheck x=>E9 x y | _=>A6)
 | .un op y=>(match o with | .unOp op' _ x=>decide (op=op')&&E9 x y | _=>A6)
 | .conv k y=>(match o with | .convert s d x=>(B71 P s).isSome&&decide (B71 P d=A4 k)&&E9 x y | _=>A6)
 | .convS y=>(match o with | .convert s d x=>dW P s&&dW P d&&E9 x y | _=>A6)
 | .s2b y=>(match o with | .convert s d x=>dW P s&&(match sliceB P d with | some e=>decide (B71 P e=A4 .u8) | none=>A6)&&E9 x y | _=>A6)
 | .b2s y=>(match o with | .convert s d x=>dW P d&&(match sliceB P s with | some e=>decide (B71 P e=A4 .u8) | none=>A6)&&E9 x y | _=>A6)
 | .b2sN _ y=>(match o with | .convert s d x=>dW P d&&(match sliceB P s with | some e=>decide (B71 P e=A4 .u8) | none=>A6)&&E9 x y | _=>A6)
 | .mark y=>(match o with | .convert s d x=>decide (s=d)&&(match sliceB P s with | some e=>decide (B71 P e=A4 .u8) | none=>A6)&&E9 x y | _=>A6)
 | .mkf f caps=>(match o with | .makeFunc (.func g) first cs=>decide (f=g)&&first.isEmpty&&A6O cs.toList caps | _=>A6)
 | .mkb f x=>(match o with | .makeFunc (.func g) first cs=>decide (f=g)&&cs.isEmpty&&(match first.toList with | [y]=>E9 y x | _=>A6) | _=>A6)
 | .mkSl sz z y y2=>(match o with
   | .makeSlice t x x2=>E9 x y&&E9 x2 y2&&(match sliceB P t with
     | some e=>B3V P e&&decide (T7 P e=A4 sz)&&decide (z.length=sz)&&(match A2G P e with | some v=>nC v z | none=>A6)
     | none=>A6)
   | _=>A6)
 | .slS y lo hi=>(match o with | .slice t x l h none=>dW P t&&E9 x y&&B3U l lo&&B3U h hi | _=>A6)
 | .slL sz y lo hi=>(match o with | .slice t x l h none=>(match sliceB P t with | some e=>decide (T7 P e=A4 sz) | none=>A6)&&E9 x y&&B3U l lo&&B3U h hi | _=>A6)
 | .slA n sz y lo hi=>(match o with | .slice t x l h none=>(match uM P t with | some (m,e)=>decide (m=n)&&decide (T7 P e=A4 sz) | none=>A6)&&E9 x y&&B3U l lo&&B3U h hi | _=>A6)
 | .fAddr y off=>(match o with | .fieldAddr s x j=>(match A9a P s j with | some f=>decide (f.offset=off)&&(match T7 P f.type with | some n=>decide (n≠0) | none=>A6) | none=>A6)&&E9 x y | _=>A6)
 | .iAddrA n sz y z=>(match o with | .indexAddr t x i=>(match uM P t with | some (m,e)=>decide (m=n)&&decide (T7 P e=A4 sz) | none=>A6)&&E9 x y&&E9 i z | _=>A6)
 | .iAddrL sz y z=>(match o with | .indexAddr t x i=>(match sliceB P t with | some e=>decide (T7 P e=A4 sz) | none=>A6)&&E9 x y&&E9 i z | _=>A6)
 | .fld1 y off=>(match o with | .field s x j=>(match A9a P s j with | some f=>decide (f.offset=off)&&decide (oK P f.type=A4 A6) | none=>A6)&&E9 x y | _=>A6)
 | .fldN y off n=>(match o with | .field s x j=>(match A9a P s j with | some f=>decide (f.offset=off)&&decide (oK P f.type=A4 A5)&&decide (T7 P f.type=A4 n) | none=>A6)&&E9 x y | _=>A6)
 | .idxA1 n y z=>(match o with | .index t x i=>(match uM P t with | some (m,e)=>decide (m=n)&&decide (oK P e=A4 A6)&&decide (T7 P e=A4 1) | none=>A6)&&E9 x y&&E9 i z | _=>A6)
 | .idxAN n sz y z=>(match o with | .index t x i=>(match uM P t with | some (m,e)=>decide (m=n)&&decide (oK P e=A4 A5)&&decide (T7 P e=A4 sz) | none=>A6)&&E9 x y&&E9 i z | _=>A6)
 | .idxS y z=>(match o with | .index t x i=>dW P t&&E9 x y&&E9 i z | _=>A6)
 | .ext y k=>(match o with | .extract x k'=>decide (k=k')&&E9 x y | _=>A6)
 | .call _ _=>A6
 | .callV _ _=>A6
 | .len y=>(match o with | .call c=>(match c.callee,c.args.toList,c.argTypes.toList with | .builtin .len,[x],[t]=>(sliceB P t).isSome&&E9 x y | _,_,_=>A6) | _=>A6)
 | .lenS y=>(match o with | .call c=>(match c.callee,c.args.toList,c.argTypes.toList with | .builtin .len,[x],[t]=>dW P t&&E9 x y | _,_,_=>A6) | _=>A6)
 | .app sz y z=>(match o with
   | .call c=>(match c.callee,c.args.toList,c.argTypes.toList with
     | .builtin .append,[x,v],[s,yt]=>(match sliceB P s with | some e=>B3V P e&&decide (T7 P e=A4 sz) | none=>A6)&&E3Z P yt&&E9 x y&&E9 v z
     | _,_,_=>A6)
   | _=>A6)
 | .appZ sz zero y z=>(match o with
   | .call c=>(match c.callee,c.args.toList,c.argTypes.toList with
     | .builtin .append,[x,v],[s,yt]=>(match sliceB P s with | some e=>B3V P e&&decide (T7 P e=A4 sz)&&(match A2G P e with | some v=>nC v zero | none=>A6) | none=>A6)&&(B71 P yt).isSome&&E9 x y&&E9 v z
     | _,_,_=>A6)
   | _=>A6)
 | .max y z=>(match o with | .call c=>(match c.callee,c.args.toList with | .builtin .max,[x,v]=>E9 x y&&E9 v z | _,_=>A6) | _=>A6)
 | .min y z=>(match o with | .call c=>(match c.callee,c.args.toList with | .builtin .min,[x,v]=>E9 x y&&E9 v z | _,_=>A6) | _=>A6)
 | .copy sz y z=>(match o with
   | .call c=>(match c.callee,c.args.toList,c.argTypes.toList with
     | .builtin .copy,[x,v],[s,yt]=>(match sliceB P s with | some e=>decide (T7 P e=A4 sz)&&decide (sz≠0) | none=>A6)&&E9 x y&&E9 v z
     | _,_,_=>A6)
   | _=>A6)
 | .mkMap=>(match o with | .makeMap _ none=>A5 | _=>A6)
 | .look kk zero ok y z=>(match o with
   | .lookup t m k ok'=>(match D1P P t with
     | some (kt,et)=>B10 P kt kk&&(match A2G P et with | some v=>B0U v zero | none=>A6)
     | none=>A6)&&decide (ok=ok')&&E9 m y&&E9 k z
   | _=>A6)
 | .mput kk y z z2=>(match o with
   | .mapUpdate t m k x=>(match D1P P t with
     | some (kt,et)=>B10 P kt kk
     | none=>A6)&&E9 m y&&E9 k z&&E9 x z2
   | .insert t m k x=>(match D1P P t with
     | some (kt,et)=>B10 P kt kk
     | none=>A6)&&E9 m y&&E9 k z&&E9 x z2
   | _=>A6)
 | .ment kk zero y z=>(match o with
   | .mapEntry t m k=>(match D1P P t with
     | some (kt,et)=>B10 P kt kk&&(match A2G P et with | some v=>B0U v zero | none=>A6)
     | none=>A6)&&E9 m y&&E9 k z
   | _=>A6)
 | .mset y z z2=>(match o with
   | .entryStore _ m s x=>E9 m y&&E9 s z&&E9 x z2
   | _=>A6)
def Res(P:Program)(o:Oper)(a:Act)(w:World)(V:Value)(w':World):Prop :=
 (execOp a.eval o).run P w=.ok (.value V) w'\/((execOp a.eval o).run P w=.ok .skip w'/\V=undef)
section
variable {P:Program} {U:Mu} {w:World}
def A4a{e:Env}{a:Act}{x:Option Operand}{y:Option Opd}(h:B3U x y=A5)(hs:SEnv U e a):D05 U (y.map e.ev) (x.map a.eval):=by
 cases x<;>cases y<;>simp [B3U] at h
 ·trivial
 ·exact D4 h hs
def A6P{e:Env}{a:Act}(hs:SEnv U e a){place:Nat->Option (Nat × Nat)}:∀ {qs:List (Nat × Operand)} {ps:List (Nat × Nat × Opd)},A19 place qs ps=A5 ->
  C5j U place (ps.map λp=>(p.1,p.2.1,e.ev p.2.2)) (qs.map λ(i,x)=>(i,a.eval x))
 | [],[],_=>trivial
 | q::qs,p::ps,h=>by
  simp [A19] at h;exact ⟨⟨h.1.1,D4 h.1.2 hs⟩,A6P hs h.2⟩
 | [],_::_,h=>by simp [A19] at h
 | _::_,[],h=>by simp [A19] at h
def C6c{α:Type}:∀ {l:List (Option α)} {m:List α},B5b l=A4 m->l=m.map A4
 | [],m,h=>by simp [B5b] at h;subst h;rfl
 | some a::r,m,h=>by
  simp only [B5b,E7t] at h;obtain ⟨l,hl,rfl⟩:=h;simp [C6c hl]
 | none::_,m,h=>by simp [B5b] at h
def B3W{e:TypeId}(h:B3V P e=A5):∃ i z,P.info? e=A4 i/\i.bytes<=65536/\i.bytes≠0/\i.size≠0/\i.zero=A4 z/\z.cells.size=i.size:=by
 unfold B3V at h;split at h
 ·rename_i i hi;simp only [E66,decide_eq_true_eq] at h;obtain ⟨⟨⟨h1,h2⟩,h3⟩,h4⟩:=h;split at h4
  ·rename_i z hz;exact ⟨i,z,hi,h1,h2,h3,hz,by simpa using h4⟩
  ·cases h4
 ·cases h
def E2i{t:TypeId}(h:E3Z P t=A5):P.underlying t=A4 .string\/∃ e',P.underlying t=A4 (.slice e'):=by
 unfold E3Z at h;split at h
 ·exact .inl ‹_›
 ·exact .inr ⟨_,‹_›⟩
 ·cases h
def C9W:∀ {l:List Val} {cs:List (Nat × Nat)} {Vs:List Value},C6i l=A4 cs->All2 (RV U) l Vs->All2 (RPtr U) cs Vs
 | [],cs,[],h,_=>by simp [C6i] at h;subst h;trivial
 | v::r,cs,V::Vs,h,⟨h1,h2⟩=>by
  unfold C6i at h;split at h
  ·rename_i sY;cases sY
  ·rename_i id off r' sY;cases sY;simp only [E7t] at h;obtain ⟨l,hl,rfl⟩:=h;exact ⟨h1,C9W hl h2⟩
  ·cases h
 | [],_,_::_,_,h=>h.elim
 | _::_,_,[],_,h=>h.elim
end
section
variable {P:Program} {U:Mu} {w:World}
def E1X(P:Program)(J:Ctx)(U:Mu)(o:Oper)(a:Act)(w:World)(h:A9)(n0:Nat)(slot:Option Nat)(v:Val)(h':A9):Prop :=
 ∃ V w' U',Res P o a w V w' /\ U.le U'/\RV U' v V/\Inv J U' h' w'/\Keeps U U' h n0 slot
def N3{J:Ctx}{o:Oper}{a:Act}{v:Val}{h:A9}{n0:Nat}{slot:Option Nat}{s:Sem Value}(hi:Inv J U h w)(he:execOp a.eval o=(do pure (Next.value (<-s))))(hr:∃ V,s.run P w=.ok V w/\RV U v V):E1X P J U o a w h n0 slot v h:=by
 obtain ⟨V,h1,h2⟩:=hr;exact ⟨V,w,U,.inl (by rw [he];simp [h1]),Mu.le_refl _,h2,hi,Keeps.refl _ _ _ _⟩
def pI{J:Ctx}{o:Oper}{a:Act}{v:Val}{h h':A9}{n0:Nat}{slot:Option Nat}{s:Sem Value}(he:execOp a.eval o=(do pure (Next.value (<-s))))(hr:∃ V w' U',s.run P w=.ok V w' /\ U.le U'/\RV U' v V/\Inv J U' h' w'/\Keeps U U' h n0 slot):E1X P J U o a w h n0 slot v h':=by
 obtain ⟨V,w',U',h1,h2,h3,h4⟩:=hr;exact ⟨V,w',U',.inl (by rw [he];simp [h1]),h2,h3,h4⟩
def A9J{J:Ctx}{o:Oper}{a:Act}{h h':A9}{n0:Nat}{slot:Option Nat}{s:Sem Unit}(he:execOp a.eval o=(do s;pure Next.skip))(hr:∃ w',s.run P w=.ok () w'/\Inv J U h' w'):E1X P J U o a w h n0 slot .un h':=by
 obtain ⟨w',h1,h2⟩:=hr;exact ⟨undef,w',U,.inr ⟨by rw [he];simp [h1],rfl⟩,Mu.le_refl _,trivial,h2,Keeps.refl _ _ _ _⟩
def C67{op:BinOp}{t:TypeId}{x y:Operand}{X Y:Value}(hX:∀ c,X≠.agg c)(hX2:X≠.nilIface):(eqGuard op t x y X Y).run P w=.ok () w:=by
 unfold eqGuard;cases X<;>cases Y<;>simp_all<;>split<;>rfl
def D45{op:BinOp}{x y v:Val}{X:Value}(h:O0 op x y=A4 v)(hx:RV U x X):(∀ c,X≠.agg c)/\X≠.nilIface:=by
 unfold O0 at h;split at h
 ·cases hx;simp
 ·cases hx;simp
 ·cases h
def E4P{J:Ctx}{E:L7}{q:Bool}{hr:A9}{n0:Nat}{slot:Option Nat}{o:Oper}{ao:AOp}{e:Env}{h:A9}{a:Act}{v:Val}{h':A9}
  (hc:E2h P o.op ao=A5) (hs:SEnv U e a) (hi:Inv J U h w) (hrd:∀ id r,rd hr id=A4 r->rd h id=A4 r) (hsl:A0T U h n0 slot)
  (D8:aop E q hr n0 slot ao e h (λv h=>A4 (v,h))=A4 (v,h')):E1X P J U o a w h n0 slot v h':=by
 have hrow:∀ id r,rd hr id=A4 r->RowOk U w id r:=λid r h1=>hi.rows id r (hrd id r h1)
 obtain ⟨dst,op,type,pos,after,guard⟩:=o;simp only at hc;cases ao<;>simp only [E2h] at hc<;>simp only [aop] at D8
 case mv y =>
  cases D8;split at hc
  ·exact ⟨_,w,U,.inl rfl,Mu.le_refl _,D4 hc hs,hi,Keeps.refl _ _ _ _⟩
  ·exact ⟨_,w,U,.inl rfl,Mu.le_refl _,D4 hc hs,hi,Keeps.refl _ _ _ _⟩
  ·cases hc
 case nilrow sz =>
  cases D8;have key:∀ x:Value,B1a x=A5->x=.slice A7 0 0:=by
   intro x hx;unfold B1a at hx;split at hx<;>first | rfl | cases hx
  split at hc
  ·exact ⟨_,w,U,.inl rfl,Mu.le_refl _,.inr ⟨rfl,A7,key _ hc⟩,A9m hi hsl,Keeps.refl _ _ _ _⟩
  ·exact ⟨_,w,U,.inl rfl,Mu.le_refl _,.inr ⟨rfl,A7,key _ hc⟩,A9m hi hsl,Keeps.refl _ _ _ _⟩
  ·cases hc
 case pick c x y =>
  simp only [E65,E7a,E7h] at D8;obtain ⟨_,hp,rfl,rfl⟩:=D8;split at hc
  ·simp only [E66] at hc;rename_i c' x' y';have h1:RV U _ _:=D4 hc.1.1 hs;have h2:=D4 hc.1.2 hs;have h3:=D4 hc.2 hs;unfold C9L at hp;split at hp
   ·rename_i b sY;cases hp;rw [sY] at h1;have h1:a.eval c'=.bool b:=h1;cases b
    ·exact ⟨_,w,U,.inl (by simp [execOp,h1,asBool]),Mu.le_refl _,h3,hi,Keeps.refl _ _ _ _⟩
    ·exact ⟨_,w,U,.inl (by simp [execOp,h1,asBool]),Mu.le_refl _,h2,hi,Keeps.refl _ _ _ _⟩
   ·cases hp
  ·cases hc
 case alloc z =>
  cases D8;split at hc
  ·split at hc
   ·exact pI rfl (D8W hi hsl ‹_› hc)
   ·cases hc
  ·cases hc
 case box y =>
  simp only [E65,E7a,E7h] at D8;obtain ⟨cs,hp,rfl,rfl⟩:=D8;split at hc
  ·exact pI rfl (E22 hi hsl (D4 hc hs) hp)
  ·cases hc
 case build z ps =>
  simp only [E65,E7a,E7h] at D8;obtain ⟨cs,hp,rfl,rfl⟩:=D8;split at hc
  ·rename_i t qs;simp only [E66] at hc;obtain ⟨hz,hc⟩:=hc;split at hz
   ·rename_i zv hzv;have sY:∀ qs:Array (Nat × Operand),(qs.map λ(i,x)=>(i,a.eval x))=(qs.toList.map λ(i,x)=>(i,a.eval x)).toArray:=by intro qs;apply Array.ext';simp
    split at hc
    ·rename_i fs hfs;split at hc
     ·rename_i pl hpl;refine N3 hi rfl ?_;rw [sY];exact D6j hfs hzv hz (C6c hpl) (A6P hs hc) hp
     ·cases hc
    ·split at hc
     ·rename_i n e Z2;split at hc
      ·rename_i sz hsz;refine N3 hi rfl ?_;rw [sY];exact D6i Z2 hsz hzv hz (A6P hs hc) hp
      ·cases hc
     ·cases hc
   ·cases hz
  ·cases hc
 case buildSl sz len z ps =>
  simp only [E65,E7a,E7h] at D8;obtain ⟨cs,hp,rfl,rfl⟩:=D8;split at hc
  ·rename_i t len' qs;simp only [E66,decide_eq_true_eq] at hc;obtain ⟨rfl,hc⟩:=hc;split at hc
   ·rename_i e he;simp only [E66,decide_eq_true_eq] at hc;obtain ⟨⟨⟨h1,h2⟩,h3⟩,h4⟩:=hc;split at h3
    ·rename_i zv hzv;refine pI rfl ?_;have sY:(qs.map λ(i,x)=>(i,a.eval x))=(qs.toList.map λ(i,x)=>(i,a.eval x)).toArray:=by apply Array.ext';simp
     rw [sY];exact D4A hi hsl he h1 hzv h2 h3 (A6P hs h4) hp
    ·cases h3
   ·cases hc
  ·cases hc
 case load1 y =>
  simp only [E65,E7a,E7h] at D8;obtain ⟨_,hp,rfl,rfl⟩:=D8;split at hc
  ·simp only [E66,decide_eq_true_eq] at hc;exact N3 hi rfl (D0H hc.1 hrow (D4 hc.2 hs) hp)
  ·cases hc
 case loadN n y =>
  simp only [E65,E7a,E7h] at D8;obtain ⟨_,hp,rfl,rfl⟩:=D8;split at hc
  ·simp only [E66,decide_eq_true_eq] at hc;exact N3 hi rfl (D0I hc.1.1 hc.1.2 hrow (D4 hc.2 hs) hp)
  ·cases hc
 case store1 y z =>
  simp only [E65,E7a,E7h] at D8;obtain ⟨_,hp,rfl,rfl⟩:=D8;split at hc
  ·simp only [E66,decide_eq_true_eq] at hc;exact A9J rfl (D6m hc.1.1 hi (D4 hc.1.2 hs) (D4 hc.2 hs) hp)
  ·cases hc
 case storeN n y z =>
  simp only [E65,E7a,E7h] at D8;obtain ⟨_,hp,rfl,rfl⟩:=D8;split at hc
  ·simp only [E66,decide_eq_true_eq] at hc;exact A9J rfl (D6n hc.1.1 hi (D4 hc.1.2 hs) (D4 hc.2 hs) hp)
  ·cases hc
 case bin op' y z =>
  simp only [E65,E7a,E7h] at D8;obtain ⟨_,hp,rfl,rfl⟩:=D8;split at hc
  ·rename_i op2 xt x y2 yt;simp only [E66,decide_eq_true_eq] at hc;obtain ⟨⟨rfl,h1⟩,h2⟩:=hc;have hx:RV U _ _:=D4 h1 hs;have hy:RV U _ _:=D4 h2 hs;refine N3 (s:=do eqGuard op' xt x y2 (a.eval x) (a.eval y2);binOp op' xt (a.eval x) (a.eval y2)) hi rfl ?_;obtain ⟨V,h3,h4⟩:=E21 (P:=P) (w:=w) (xt:=xt) hx hy hp;have h5:=D45 hp hx;exact ⟨V,by rw [Sem.run_bind,C67 h5.1 h5.2];exact h3,h4⟩
  ·cases hc
 case eqA neg sh y z =>
  simp only [E65,E7a,E7h] at D8;obtain ⟨_,hp,rfl,rfl⟩:=D8;split at hc
  ·rename_i op2 xt x y2 yt;simp only [E66,decide_eq_true_eq,E7Y] at hc;obtain ⟨⟨⟨⟨⟨rfl,h1⟩,h2⟩,h3⟩,h4⟩,h5⟩:=hc;have hx:RV U _ _:=D4 h4 hs;have hy:RV U _ _:=D4 h5 hs;refine N3 (s:=do eqGuard (bif neg then .neq else .eql) xt x y2 (a.eval x) (a.eval y2);binOp (bif neg then .neq else .eql) xt (a.eval x) (a.eval y2)) hi rfl ?_;obtain ⟨V,h6,h7⟩:=E23 (P:=P) (w:=w) h1 h2 hx hy hp;have hag:(eqGuard (bif neg then BinOp.neq else .eql) xt x y2 (a.eval x) (a.eval y2)).run P w=.ok () w:=by
    unfold aeq at hp;split at hp
    ·rename_i e1 e2;rw [e1] at hx;rw [e2] at hy;obtain ⟨xs,e3,_⟩:=hx;obtain ⟨ys,e4,_⟩:=hy;rw [e3,e4];exact run_eqGuard_agg w _ xt x y2 _ _ h3
    ·cases hp
   exact ⟨V,by rw [Sem.run_bind,hag];exact h6,h7⟩
  ·cases hc
 case eqB neg y z =>
  simp only [E65,E7a,E7h] at D8;obtain ⟨_,hp,rfl,rfl⟩:=D8;split at hc
  ·rename_i op2 xt x y2 yt;simp only [E66,decide_eq_true_eq] at hc;obtain ⟨⟨⟨rfl,h1⟩,h4⟩,h5⟩:=hc;split at h1
   ·rename_i hu;have hx:RV U _ _:=D4 h4 hs;have hy:RV U _ _:=D4 h5 hs;refine N3 (s:=do eqGuard (bif neg then .neq else .eql) xt x y2 (a.eval x) (a.eval y2);binOp (bif neg then .neq else .eql) xt (a.eval x) (a.eval y2)) hi rfl ?_;obtain ⟨V,h6,h7⟩:=E24 (P:=P) (w:=w) hu hx hy hp;have hag:(eqGuard (bif neg then BinOp.neq else .eql) xt x y2 (a.eval x) (a.eval y2)).run P w=.ok () w:=by
     unfold D46 at hp;split at hp
     ·rename_i e1 e2;rw [e1] at hx;have hx:a.eval x=.bool _:=hx;rw [hx];exact C67 (by simp) (by simp)
     ·cases hp
    exact ⟨V,by rw [Sem.run_bind,hag];exact h6,h7⟩
   ·cases h1
  ·cases hc
 case eqN fn neg y =>
  simp only [E65,E7a,E7h] at D8;obtain ⟨_,hp,rfl,rfl⟩:=D8;split at hc
  ·rename_i op2 xt x c yt;simp only [E66,decide_eq_true_eq] at hc;obtain ⟨⟨rfl,h1⟩,h4⟩:=hc;have hx:RV U _ _:=D4 h4 hs;refine N3 (s:=do eqGuard (bif neg then .neq else .eql) xt x (.const c) (a.eval x) (a.eval (.const c));binOp (bif neg then .neq else .eql) xt (a.eval x) (a.eval (.const c))) hi rfl ?_;obtain ⟨V,h6,h7⟩:=E25 (P:=P) (w:=w) h1 hx hp;have X5:(∀ c,a.eval x≠.agg c)/\a.eval x≠.nilIface:=by
    unfold D1k at hp;split at hp
    ·rename_i e1;rw [e1] at hx;have hx:a.eval x=.nilFunc:=hx;rw [hx];simp
    ·rename_i e1;rw [e1] at hx;obtain ⟨cs,hx,_⟩:=hx;rw [hx];simp
    ·rename_i e1;rw [e1] at hx;have hx:a.eval x=.pointer A7:=hx;rw [hx];simp
    ·rename_i e1;rw [e1] at hx;obtain ⟨b,n,_,hx⟩:=hx;rw [hx];simp
    ·cases hp
   exact ⟨V,by rw [Sem.run_bind,C67 X5.1 X5.2];exact h6,h7⟩
  ·cases hc
 case nilc y =>
  simp only [E65,E7a,E7h] at D8;obtain ⟨_,hp,rfl,rfl⟩:=D8;split at hc
  ·rename_i x;have hx:RV U _ _:=D4 hc hs;unfold A6H at hp;split at hp
   ·rename_i e1;cases hp;rw [e1] at hx;have hx':=hx;obtain ⟨b,n,_,hx⟩:=hx;exact ⟨_,w,U,.inl (by simp only [execOp,hx];rfl),Mu.le_refl _,hx ▸ hx',hi,Keeps.refl _ _ _ _⟩
   ·rename_i e1;cases hp;rw [e1] at hx;have hx':=hx;obtain ⟨cs,hx,_⟩:=hx;exact ⟨_,w,U,.inl (by simp only [execOp,hx];rfl),Mu.le_refl _,hx ▸ hx',hi,Keeps.refl _ _ _ _⟩
   ·cases hp
  ·cases hc
 case un op' y =>
  simp only [E65,E7a,E7h] at D8;obtain ⟨_,hp,rfl,rfl⟩:=D8;split at hc
  ·simp only [E66,decide_eq_true_eq] at hc;obtain ⟨rfl,h1⟩:=hc;exact N3 hi rfl (E4Q (D4 h1 hs) hp)
  ·cases hc
 case conv k y =>
  simp only [E65,E7a,E7h] at D8;obtain ⟨_,hp,rfl,rfl⟩:=D8;split at hc
  ·simp only [E66,decide_eq_true_eq] at hc;obtain ⟨ks,hks⟩:=Option.isSome_iff_exists.1 hc.1.1;exact N3 hi rfl (E1o hks hc.1.2 (D4 hc.2 hs) hp)
  ·cases hc
 case convS y =>
  simp only [E65,E7a,E7h] at D8;obtain ⟨_,hp,rfl,rfl⟩:=D8;split at hc
  ·simp only [E66] at hc;exact N3 hi rfl (D8Y hc.1.1 hc.1.2 (D4 hc.2 hs) hp)
  ·cases hc
 case s2b y =>
  simp only [E65,E7a,E7h] at D8;obtain ⟨l,hp,rfl,rfl⟩:=D8;split at hc
  ·simp only [E66] at hc;obtain ⟨⟨h1,h2⟩,h3⟩:=hc;split at h2
   ·rename_i e he;have hx:RV U _ _:=D4 h3 hs;unfold E3X at hp;split at hp
    ·rename_i sY;split at hp
     ·cases hp;rename_i hl;rw [sY] at hx;have hx:a.eval _=.string ⟨l.toArray⟩:=hx;refine pI rfl ?_;rw [hx];exact E3a hi hsl h1 he (by simpa using h2) hl
     ·cases hp
    ·cases hp
   ·cases h2
  ·cases hc
 case b2s y =>
  simp only [E65,E7a,E7h] at D8;obtain ⟨_,hp,rfl,rfl⟩:=D8;split at hc
  ·simp only [E66] at hc;obtain ⟨⟨h1,h2⟩,h3⟩:=hc;split at h2
   ·exact N3 hi rfl (D4z ‹_› (by simpa using h2) h1 hrow (D4 h3 hs) hp)
   ·cases h2
  ·cases hc
 case b2sN own y =>
  simp only [E65,E7a,E7h] at D8;obtain ⟨_,hp,rfl,rfl⟩:=D8;have hp:=D44 hp;split at hc
  ·simp only [E66] at hc;obtain ⟨⟨h1,h2⟩,h3⟩:=hc;split at h2
   ·exact N3 hi rfl (D4z ‹_› (by simpa using h2) h1 hi.rows (D4 h3 hs) hp)
   ·cases h2
  ·cases hc
 case mark y =>
  simp only [E65,E7a,E7h] at D8;obtain ⟨_,hp,rfl,rfl⟩:=D8;split at hc
  ·simp only [E66,decide_eq_true_eq] at hc;obtain ⟨⟨rfl,h2⟩,h3⟩:=hc;split at h2
   ·have hx:=D4 (U:=U) h3 hs;obtain ⟨w',h4,h5,h6⟩:=run_mark (P:=P) hi ‹_› (by simpa using h2) hx hp;exact pI rfl ⟨_,w',U,h4,Mu.le_refl _,h5 ▸ hx,h6,Keeps.refl _ _ _ _⟩
   ·cases h2
  ·cases hc
 case mkf f caps =>
  simp only [E65,E7a,E7h] at D8;obtain ⟨_,hp,rfl,rfl⟩:=D8;split at hc
  ·rename_i g first cs
   simp only [E66,decide_eq_true_eq] at hc;obtain ⟨⟨rfl,h1⟩,h2⟩:=hc;unfold A3N at hp;simp only [E7t] at hp;obtain ⟨l,hl,rfl⟩:=hp;have h3:=C9W hl (A5d hs h2);refine ⟨_,w,U,.inl rfl,Mu.le_refl _,⟨cs.toList.map a.eval,?_,h3⟩,hi,Keeps.refl _ _ _ _⟩;have:first = #[]:=by simpa using h1
   subst this;show Value.func _ _ _=Value.func _ _ _
   congr 1<;>(apply Array.ext';simp)
  ·cases hc
 case mkb f x =>
  simp only [E65,E7a,E7h] at D8;obtain ⟨_,hp,rfl,rfl⟩:=D8;split at hc
  ·rename_i g first cs
   simp only [E66,decide_eq_true_eq] at hc;obtain ⟨⟨rfl,h1⟩,h2⟩:=hc;split at h2
   ·rename_i y hy;have hx:=D4 (U:=U) h2 hs;unfold E16 at hp;split at hp
    ·rename_i id off sY;cases hp;rw [sY] at hx;refine ⟨_,w,U,.inl rfl,Mu.le_refl _,⟨a.eval y,hx,?_⟩,hi,Keeps.refl _ _ _ _⟩;have h3:first = #[y]:=by apply Array.ext';simpa using hy
     have h4:cs = #[]:=by simpa using h1
     subst h3;subst h4;show Value.func _ _ _=Value.func _ _ _
     congr 1<;>(apply Array.ext';simp)
    ·cases hp
   ·cases h2
  ·cases hc
 case mkSl sz z y y2 =>
  simp only [E65,E7a,E7h] at D8;obtain ⟨n',hp,rfl,rfl⟩:=D8;unfold C4F at hp;simp only [E65] at hp;obtain ⟨n,hn,c,hcc,hp⟩:=hp;split at hp
  ·cases hp;rename_i hnc;split at hc
   ·simp only [E66] at hc;obtain ⟨⟨h1,h2⟩,h3⟩:=hc;split at h3
    ·rename_i e he;simp only [E66,decide_eq_true_eq] at h3;obtain ⟨⟨⟨h4,h5⟩,h6⟩,h7⟩:=h3;split at h7
     ·rename_i zv hzv;obtain ⟨i,z',hi1,hi2,hi3,hi4,hi5,hi6⟩:=B3W h4;have hsz:i.size=sz:=by simpa [T7,hi1] using h5
      refine pI rfl (E1x hi hsl he h5 hzv h7 h6 (by omega) (show C6h P e=A4 i.bytes by simp [C6h,hi1]) hi2 (D4 h1 hs) (D4 h2 hs) hn hcc hnc)
     ·cases h7
    ·cases h3
   ·cases hc
  ·cases hp
 case slS y lo hi' =>
  simp only [E65,E7a,E7h] at D8;obtain ⟨_,hp,rfl,rfl⟩:=D8;split at hc
  ·simp only [E66] at hc;obtain ⟨⟨⟨h1,h2⟩,h3⟩,h4⟩:=hc;exact N3 hi rfl (E3d h1 (D4 h2 hs) (A4a h3 hs) (A4a h4 hs) hp)
  ·cases hc
 case slL sz y lo hi' =>
  simp only [E65,E7a,E7h] at D8;obtain ⟨_,hp,rfl,rfl⟩:=D8;split at hc
  ·simp only [E66] at hc;obtain ⟨⟨⟨h1,h2⟩,h3⟩,h4⟩:=hc;split at h1
   ·exact N3 hi rfl (E3c ‹_› (by simpa using h1) (D4 h2 hs) (A4a h3 hs) (A4a h4 hs) hp)
   ·cases h1
  ·cases hc
 case slA n sz y lo hi' =>
  simp only [E65,E7a,E7h] at D8;obtain ⟨_,hp,rfl,rfl⟩:=D8;split at hc
  ·simp only [E66] at hc;obtain ⟨⟨⟨h1,h2⟩,h3⟩,h4⟩:=hc;split at h1
   ·simp only [E66,decide_eq_true_eq] at h1;obtain ⟨rfl,h1⟩:=h1;exact N3 hi rfl (E3b ‹_› h1 hrow (D4 h2 hs) (A4a h3 hs) (A4a h4 hs) hp)
   ·cases h1
  ·cases hc
 case fAddr y off =>
  simp only [E65,E7a,E7h] at D8;obtain ⟨_,hp,rfl,rfl⟩:=D8;split at hc
  ·simp only [E66] at hc;obtain ⟨h1,h2⟩:=hc;split at h1
   ·rename_i f hf;simp only [E66,decide_eq_true_eq] at h1;obtain ⟨h3,h4⟩:=h1;split at h4
    ·simp only [A9a,E65] at hf;obtain ⟨fs,hfs,hf⟩:=hf;exact N3 hi rfl (D8Z hfs hf ‹_› (by simpa using h4) h3 (D4 h2 hs) hp)
    ·cases h4
   ·cases h1
  ·cases hc
 case iAddrA n sz y z =>
  simp only [E65,E7a,E7h] at D8;obtain ⟨_,hp,rfl,rfl⟩:=D8;split at hc
  ·simp only [E66] at hc;obtain ⟨⟨h1,h2⟩,h3⟩:=hc;split at h1
   ·simp only [E66,decide_eq_true_eq] at h1;obtain ⟨rfl,h1⟩:=h1;exact N3 hi rfl (D6k ‹_› h1 (D4 h2 hs) (D4 h3 hs) hp)
   ·cases h1
  ·cases hc
 case iAddrL sz y z =>
  simp only [E65,E7a,E7h] at D8;obtain ⟨_,hp,rfl,rfl⟩:=D8;split at hc
  ·simp only [E66] at hc;obtain ⟨⟨h1,h2⟩,h3⟩:=hc;split at h1
   ·exact N3 hi rfl (D6l ‹_› (by simpa using h1) (D4 h2 hs) (D4 h3 hs) hp)
   ·cases h1
  ·cases hc
 case fld1 y off =>
  simp only [E65,E7a,E7h] at D8;obtain ⟨_,hp,rfl,rfl⟩:=D8;split at hc
  ·simp only [E66] at hc;obtain ⟨h1,h2⟩:=hc;split at h1
   ·rename_i f hf;simp only [E66,decide_eq_true_eq] at h1;obtain ⟨rfl,h4⟩:=h1;simp only [A9a,E65] at hf;obtain ⟨fs,hfs,hf⟩:=hf;exact N3 hi rfl (E1q hfs hf h4 (D4 h2 hs) hp)
   ·cases h1
  ·cases hc
 case fldN y off n =>
  simp only [E65,E7a,E7h] at D8;obtain ⟨_,hp,rfl,rfl⟩:=D8;split at hc
  ·simp only [E66] at hc;obtain ⟨h1,h2⟩:=hc;split at h1
   ·rename_i f hf;simp only [E66,decide_eq_true_eq] at h1;obtain ⟨⟨rfl,h4⟩,h5⟩:=h1;simp only [A9a,E65] at hf;obtain ⟨fs,hfs,hf⟩:=hf;exact N3 hi rfl (E1r hfs hf h4 h5 (D4 h2 hs) hp)
   ·cases h1
  ·cases hc
 case idxA1 n y z =>
  simp only [E65,E7a,E7h] at D8;obtain ⟨_,hp,rfl,rfl⟩:=D8;split at hc
  ·simp only [E66] at hc;obtain ⟨⟨h1,h2⟩,h3⟩:=hc;split at h1
   ·simp only [E66,decide_eq_true_eq] at h1;obtain ⟨⟨rfl,h4⟩,h5⟩:=h1;exact N3 hi rfl (D80 ‹_› h4 h5 (D4 h2 hs) (D4 h3 hs) hp)
   ·cases h1
  ·cases hc
 case idxAN n sz y z =>
  simp only [E65,E7a,E7h] at D8;obtain ⟨_,hp,rfl,rfl⟩:=D8;split at hc
  ·simp only [E66] at hc;obtain ⟨⟨h1,h2⟩,h3⟩:=hc;split at h1
   ·simp only [E66,decide_eq_true_eq] at h1;obtain ⟨⟨rfl,h4⟩,h5⟩:=h1;exact N3 hi rfl (D81 ‹_› h4 h5 (D4 h2 hs) (D4 h3 hs) hp)
   ·cases h1
  ·cases hc
 case idxS y z =>
  simp only [E65,E7a,E7h] at D8;obtain ⟨_,hp,rfl,rfl⟩:=D8;split at hc
  ·simp only [E66] at hc;obtain ⟨⟨h1,h2⟩,h3⟩:=hc;exact N3 hi rfl (E1s h1 (D4 h2 hs) (D4 h3 hs) hp)
  ·cases hc
 case ext y k =>
  simp only [E65,E7a,E7h] at D8;obtain ⟨_,hp,rfl,rfl⟩:=D8;split at hc
  ·simp only [E66,decide_eq_true_eq] at hc;obtain ⟨rfl,h1⟩:=hc;exact N3 hi rfl (E26 (D4 h1 hs) hp)
  ·cases hc
 case call=>cases hc
 case callV=>cases hc
 case len y =>
  simp only [E65,E7a,E7h] at D8;obtain ⟨_,hp,rfl,rfl⟩:=D8;split at hc
  ·rename_i c;split at hc
   ·rename_i x t hca hargs hty;simp only [E66] at hc;obtain ⟨e,he⟩:=Option.isSome_iff_exists.1 hc.1;have h1:c.args = #[x]:=by cases hcc:c.args;simp_all
    have h2:c.argTypes = #[t]:=by cases hcc:c.argTypes;simp_all
    refine N3 (s:=Builtin.len_ #[t] type #[a.eval x]) hi ?_ (E27 he (D4 hc.2 hs) hp);simp [execOp,resolve,hca,h1,h2,invoke,builtin]
   ·cases hc
  ·cases hc
 case lenS y =>
  simp only [E65,E7a,E7h] at D8;obtain ⟨_,hp,rfl,rfl⟩:=D8;split at hc
  ·rename_i c;split at hc
   ·rename_i x t hca hargs hty;simp only [E66] at hc;have h1:c.args = #[x]:=by cases hcc:c.args;simp_all
    have h2:c.argTypes = #[t]:=by cases hcc:c.argTypes;simp_all
    refine N3 (s:=Builtin.len_ #[t] type #[a.eval x]) hi ?_ (E1u hc.1 (D4 hc.2 hs) hp);simp [execOp,resolve,hca,h1,h2,invoke,builtin]
   ·cases hc
  ·cases hc
 case app sz y z =>
  simp only [E65,E7a] at D8;obtain ⟨p,hp,hpe⟩:=D8;simp only [E7h] at hpe;obtain ⟨rfl,rfl⟩:=hpe;split at hc
  ·rename_i c;split at hc
   ·rename_i x x2 s yt hca hargs hty;simp only [E66] at hc;obtain ⟨⟨⟨h1,h2⟩,h3⟩,h4⟩:=hc;split at h1
    ·rename_i e he;simp only [E66,decide_eq_true_eq] at h1;obtain ⟨i,z',hi1,hi2,hi3,hi4,hi5,hi6⟩:=B3W h1.1;have hsz:i.size=sz:=by simpa [T7,hi1] using h1.2
     subst hsz;have e1:c.args = #[x,x2]:=by cases hcc:c.args;simp_all
     have e2:c.argTypes = #[s,yt]:=by cases hcc:c.argTypes;simp_all
     obtain ⟨V,w',U',g1,g2,g3,g4,g5⟩:=E20 (P:=P) (ty:=type) hi (R0 he) hi1 hi2 hi3 hi5 hi6 hi4 (E2i h2) (D4 h3 hs) (D4 h4 hs) hp;refine pI (s:=Builtin.append_ #[s,yt] type #[a.eval x,a.eval x2]) ?_ ⟨V,w',U',g1,g2,g3,g4,λid hid _=>g5 id hid⟩;simp [execOp,resolve,hca,e1,e2,invoke,builtin]
    ·cases h1
   ·cases hc
  ·cases hc
 case appZ sz zero y z =>
  simp only [E65,E7a] at D8;obtain ⟨p,hp,hpe⟩:=D8;simp only [E7h] at hpe;obtain ⟨rfl,rfl⟩:=hpe;split at hc
  ·rename_i c;split at hc
   ·rename_i x x2 s yt hca hargs hty;simp only [E66] at hc;obtain ⟨⟨⟨h1,h2⟩,h3⟩,h4⟩:=hc;split at h1
    ·rename_i e he;simp only [E66,decide_eq_true_eq] at h1;obtain ⟨⟨h1,h1s⟩,h1z⟩:=h1;obtain ⟨i,z',hi1,hi2,hi3,hi4,hi5,hi6⟩:=B3W h1;have hsz:i.size=sz:=by simpa [T7,hi1] using h1s
     subst hsz;have e1:c.args = #[x,x2]:=by cases hcc:c.args;simp_all
     have e2:c.argTypes = #[s,yt]:=by cases hcc:c.argTypes;simp_all
     split at h1z
     ·rename_i zv hzv;have hzz:zv=z':=by
       have:=hzv;simp [A2G,hi1,hi5] at this;exact this.symm
      subst hzz;obtain ⟨kk,hkk⟩:=Option.isSome_iff_exists.1 h2;obtain ⟨V,w',U',g1,g2,g3,g4,g5⟩:=E1n (P:=P) (ty:=type) hi (R0 he) hi1 hi2 hi3 hi5 hi6 hi4 (A9A hkk) (jW h1z) (D4 h3 hs) (D4 h4 hs) hp;refine pI (s:=Builtin.append_ #[s,yt] type #[a.eval x,a.eval x2]) ?_ ⟨V,w',U',g1,g2,g3,g4,λid hid _=>g5 id hid⟩;simp [execOp,resolve,hca,e1,e2,invoke,builtin]
     ·cases h1z
    ·cases h1
   ·cases hc
  ·cases hc
 case max y z =>
  simp only [E65,E7a,E7h] at D8;obtain ⟨_,hp,rfl,rfl⟩:=D8;split at hc
  ·rename_i c;split at hc
   ·rename_i x x2 hca hargs;simp only [E66] at hc;have e1:c.args = #[x,x2]:=by cases hcc:c.args;simp_all
    refine N3 (s:=Builtin.max_ c.argTypes type #[a.eval x,a.eval x2]) hi ?_ (E28 (D4 hc.1 hs) (D4 hc.2 hs) hp);simp [execOp,resolve,hca,e1,invoke,builtin]
   ·cases hc
  ·cases hc
 case min y z =>
  simp only [E65,E7a,E7h] at D8;obtain ⟨_,hp,rfl,rfl⟩:=D8;split at hc
  ·rename_i c;split at hc
   ·rename_i x x2 hca hargs;simp only [E66] at hc;have e1:c.args = #[x,x2]:=by cases hcc:c.args;simp_all
    refine N3 (s:=Builtin.min_ c.argTypes type #[a.eval x,a.eval x2]) hi ?_ (E29 (D4 hc.1 hs) (D4 hc.2 hs) hp);simp [execOp,resolve,hca,e1,invoke,builtin]
   ·cases hc
  ·cases hc
 case mkMap =>
  cases D8;split at hc
  ·exact pI rfl (D82 hi hsl)
  ·cases hc
 case look kk zero ok y z =>
  simp only [E65,E7a,E7h] at D8;obtain ⟨_,hp,rfl,rfl⟩:=D8;split at hc
  ·simp only [E66,decide_eq_true_eq] at hc;obtain ⟨⟨⟨h1,h2⟩,h3⟩,h4⟩:=hc;subst h2;split at h1
   ·simp only [E66] at h1;obtain ⟨h1,h5⟩:=h1;split at h5
    ·exact N3 hi rfl (E1v ‹_› h1 ‹_› h5 hrow (D4 h3 hs) (D4 h4 hs) hp)
    ·cases h5
   ·cases h1
  ·cases hc
 case mput kk y z z2 =>
  simp only [E65,E7a,E7h] at D8;obtain ⟨_,hp,rfl,rfl⟩:=D8;split at hc
  ·simp only [E66] at hc;obtain ⟨⟨⟨h1,h2⟩,h3⟩,h4⟩:=hc;split at h1
   ·exact A9J rfl (D4C ‹_› h1 hi (D4 h2 hs) (D4 h3 hs) (D4 h4 hs) hp)
   ·cases h1
  ·simp only [E66] at hc;obtain ⟨⟨⟨h1,h2⟩,h3⟩,h4⟩:=hc;split at h1
   ·exact A9J rfl (D4C ‹_› h1 hi (D4 h2 hs) (D4 h3 hs) (D4 h4 hs) hp)
   ·cases h1
  ·cases hc
 case ment kk zero y z =>
  simp only [E65,E7a] at D8;obtain ⟨p,hp,hpe⟩:=D8;simp only [E7h] at hpe;obtain ⟨rfl,rfl⟩:=hpe;split at hc
  ·simp only [E66] at hc;obtain ⟨⟨h1,h3⟩,h4⟩:=hc;split at h1
   ·simp only [E66] at h1;obtain ⟨h1,h5⟩:=h1;split at h5
    ·obtain ⟨V,w',h6,h7,h8⟩:=E1w ‹_› h1 ‹_› h5 hi (D4 h3 hs) (D4 h4 hs) hp;exact pI rfl ⟨V,w',U,h6,Mu.le_refl _,h7,h8,Keeps.refl _ _ _ _⟩
    ·cases h5
   ·cases h1
  ·cases hc
 case mset y z z2 =>
  simp only [E65,E7a,E7h] at D8;obtain ⟨_,hp,rfl,rfl⟩:=D8;split at hc
  ·simp only [E66] at hc;obtain ⟨⟨h2,h3⟩,h4⟩:=hc;exact A9J rfl (E1y hi (D4 h2 hs) (D4 h3 hs) (D4 h4 hs) hp)
  ·cases hc
 case copy sz y z =>
  simp only [E65,E7a] at D8;obtain ⟨p,hp,hpe⟩:=D8;simp only [E7h] at hpe;obtain ⟨rfl,rfl⟩:=hpe;split at hc
  ·rename_i c;split at hc
   ·rename_i x x2 s yt hca hargs hty;simp only [E66] at hc;obtain ⟨⟨h1,h3⟩,h4⟩:=hc;split at h1
    ·rename_i e he;simp only [E66,decide_eq_true_eq] at h1;have e1:c.args = #[x,x2]:=by cases hcc:c.args;simp_all
     have e2:c.argTypes = #[s,yt]:=by cases hcc:c.argTypes;simp_all
     obtain ⟨V,w',h5,h6,h7⟩:=E1p (P:=P) (yt:=yt) (ty:=type) hi he h1.1 h1.2 (D4 h3 hs) (D4 h4 hs) hp;refine pI (s:=Builtin.copy_ #[s,yt] type #[a.eval x,a.eval x2]) ?_ ⟨V,w',U,h5,Mu.le_refl _,h6,h7,Keeps.refl _ _ _ _⟩;simp [execOp,resolve,hca,e1,e2,invoke,builtin]
    ·cases h1
   ·cases hc
  ·cases hc
end
def nN(P : Program)(f : FuncId) : Prop := ∃ fn : Func, P.funcs[f]? = some fn ∧ (fn.name == "runtime.NumGoroutine") = false ∧ fn.body.isNone = false
def CallOk(P:Program)(f:FuncId)(args:List Val)(h:A9)(v:Val)(h':A9):Prop :=
 ∀ (J:Ctx) (U:Mu) (w:World) (V:List Value),Inv J U h w->All2 (RV U) args V ->
  Calls P f V.toArray w λe w'=>∃ V' U',e=.returned V' /\ U.le U'/\RV U' v V'/\Inv J U' h' w'/\∀ id,id<h.length -> U' id = U id
def jF(P:Program)(E:L7):Prop:=∀ f args h v h',E f args h=A4 (v,h')->nN P f/\CallOk P f args h v h'/\h.length<=h'.length
def D1s(o:Op):AOp->Bool
 | .call f args=>(match o with
   | .call c=>(match c.callee with | .value (.func g)=>decide (f=g)&&A6O c.args.toList args | _=>A6)
   | _=>A6)
 | .callV x args=>(match o with
   | .call c=>(match c.callee with | .value y=>E9 y x&&A6O c.args.toList args | _=>A6)
   | _=>A6)
 | _=>A6
def D2X(ops:Array Oper):Option (Nat × Bool)->Option (Nat × Bool)->Bool
 | none,none=>A5
 | some q,A4 p=>decide (q.2=p.2)&&decide ((ops[q.1]?).bind (·.dst)=A4 p.1)
 | _,_=>A6
def A2P(N:Nat)(d:Option Nat):Bool:=match d with | some d=>decide (d<N) | none=>A5
def cA(P:Program)(N:Nat)(ops:Array Oper)(o:Oper)(ao:AOper):Bool :=
 decide (o.dst=ao.dst)&&A2P N o.dst&&D2X ops o.guard ao.guard&&(E2h P o.op ao.op||D1s o.op ao.op)
section
variable {P:Program} {R:Type}
def D2G(E:L7)(q:Bool)(hr:A9)(n0:Nat)(slot:Option Nat)(o:AOp)(e:Env)(h:A9)(k:Val->A9->Option R) :
  aop E q hr n0 slot o e h k=(aop E q hr n0 slot o e h λv h=>A4 (v,h)).bind λp=>k p.1 p.2:=by
 cases o<;>simp only [aop,E7l,Option.bind_assoc]
def B9w{f:FuncId}(hf:nN P f)(args:Array Value)(w:World):(callFunc f args).run P w=.ok (.enter f args) w:=by
 obtain ⟨fn,h1,h2,h3⟩:=hf;unfold callFunc;simp only [Sem.run_bind,run_program,Result.andThen_ok,h1,h2,h3,Bool.false_eq_true,if_false];rfl
def B7R{U:Mu}:∀ {l:List (Nat × Nat)} {cs:List Value},All2 (RPtr U) l cs->All2 (RV U) (C40 l) cs
 | [],[],_=>trivial
 | q::l,c::cs,⟨h1,h2⟩=>⟨h1,B7R h2⟩
 | [],_::_,h=>h.elim
 | _::_,[],h=>h.elim
def D1r{J:Ctx}{U:Mu}{o:Oper}{a:Act}{w:World}{g:FuncId}{args:List Val}{h h':A9}{v:Val}{c:Call}{y:Operand}{fs cs:List Value}
  (ho:o.op=.call c) (D1B:c.callee=.value y) (hy:a.eval y=.func (.func g) fs.toArray cs.toArray) (hg:nN P g) (hk:CallOk P g args h v h')
  (hargs:All2 (RV U) args (fs++c.args.toList.map a.eval++cs)) (hi:Inv J U h w) {next:Act->World->Prop} {Q:Exit->Act->World->Prop}
  {n0:Nat} {slot:Option Nat} (hn:∀ V w' U',U.le U'->RV U' v V->Inv J U' h' w'->Keeps U U' h n0 slot->next (a.put o.dst V) w'):o.wp P a w next Q:=by
 have B07:(execOp a.eval o).run P w=.ok (.enter g (fs++c.args.toList.map a.eval++cs).toArray) w:=by
  have e:(fs.toArray++c.args.map a.eval++cs.toArray:Array Value)=(fs++c.args.toList.map a.eval++cs).toArray:=by apply Array.ext';simp
  simp only [execOp,ho,resolve,D1B,hy,Deferred.ofValue,pure_bind,invoke];rw [e];exact B9w hg _ _
 unfold Oper.wp;rw [B07,Oper.upon_enter];refine (hk J U w _ hi hargs).mono ?_;rintro e w' ⟨V,U',rfl,h1,h2,h3,h4⟩;exact hn V w' U' h1 h2 h3 λid hid _=>h4 id hid
def D9F{N:Nat}{ops:Array Oper}{E:L7}(hE:jF P E){q:Bool}{o:Oper}{ao:AOp}{e:Env}{h hr:A9}{v:Val}{h':A9}{n0:Nat}{slot:Option Nat}{J:Ctx}{U:Mu}{a:Act}{w:World}
  (hc:(E2h P o.op ao||D1s o.op ao)=A5) (hs:SEnv U e a) (hi:Inv J U h w) (hrd:∀ id r,rd hr id=A4 r->rd h id=A4 r) (hsl:A0T U h n0 slot)
  (D8:aop E q hr n0 slot ao e h (λv h=>A4 (v,h))=A4 (v,h')) {next:Act->World->Prop} {Q:Exit->Act->World->Prop}
  (hn:∀ V w' U',U.le U'->RV U' v V->Inv J U' h' w'->Keeps U U' h n0 slot->next (a.put o.dst V) w'):o.wp P a w next Q:=by
 rw [E8r] at hc;rcases hc with hc | hc
 ·obtain ⟨V,w',U',h1,h2,h3,h4,h5⟩:=E4P hc hs hi hrd hsl D8;unfold Oper.wp;rcases h1 with h1 | ⟨h1,rfl⟩
  ·rw [h1];exact hn V w' U' h2 h3 h4 h5
  ·rw [h1];exact hn undef w' U' h2 h3 h4 h5
 ·cases ao<;>simp only [D1s] at hc
  case call f args =>
   simp only [aop,E65,E7a] at D8;obtain ⟨p,hp,hpe⟩:=D8;simp only [E7h] at hpe;obtain ⟨rfl,rfl⟩:=hpe;have hE1:E f (args.map e.ev) h=A4 (p.1,p.2):=by
    cases q with
    | false=>simpa using hp
    | true =>
     simp only [cond_true,quiet,E65] at hp;obtain ⟨p',h1,h2⟩:=hp;split at h2
     ·cases h2;exact h1
     ·cases h2
   obtain ⟨hg,hk,_⟩:=hE _ _ _ _ _ hE1;split at hc
   ·rename_i c ho;split at hc
    ·rename_i g D1B;simp only [E66,decide_eq_true_eq] at hc;obtain ⟨rfl,hargs⟩:=hc;exact D1r ho D1B (fs:=[]) (cs:=[]) rfl hg hk (by rw [E7q,List.nil_append];exact A5d hs hargs) hi hn
    ·cases hc
   ·cases hc
  case callV x args =>
   simp only [aop,E65,E7a] at D8;obtain ⟨p,hp,hpe⟩:=D8;simp only [E7h] at hpe;obtain ⟨rfl,rfl⟩:=hpe;have hE0:aV E (e.ev x) (args.map e.ev) h=A4 (p.1,p.2):=by
    cases q with
    | false=>simpa using hp
    | true =>
     simp only [cond_true,quiet,E65] at hp;obtain ⟨p',h1,h2⟩:=hp;split at h2
     ·cases h2;exact h1
     ·cases h2
   unfold aV at hE0;split at hE0
   ·rename_i g caps sY;obtain ⟨hg,hk,_⟩:=hE _ _ _ _ _ hE0;split at hc
    ·rename_i c ho;split at hc
     ·rename_i y D1B;simp only [E66] at hc;have hy:RV U _ _:=D4 hc.1 hs;rw [sY] at hy;obtain ⟨cs,h1,h2⟩:=hy;exact D1r ho D1B (fs:=[]) h1 hg hk ((A5d hs hc.2).append (B7R h2)) hi hn
     ·cases hc
    ·cases hc
   ·rename_i g id off sY;obtain ⟨hg,hk,_⟩:=hE _ _ _ _ _ hE0;split at hc
    ·rename_i c ho;split at hc
     ·rename_i y D1B;simp only [E66] at hc;have hy:RV U _ _:=D4 hc.1 hs;rw [sY] at hy;obtain ⟨V,h1,h2⟩:=hy;exact D1r ho D1B (fs:=[V]) (cs:=[]) h2 hg hk (by rw [E7q];exact ⟨h1,A5d hs hc.2⟩) hi hn
     ·cases hc
    ·cases hc
   ·cases hE0
  all_goals cases hc
def D6I{ops:Array Oper}{j g:Nat}{a:Act}{e:Env}{U:Mu}{x:Bool}(hj:(ops[j]?).bind (·.dst)=A4 g)(hs:SEnv U e a)(he:e.get g=.c (.b x)):yielded ops a.tmps j=A4 x:=by
 have h1:a.tmps.getD g undef=.bool x:=by have:=hs g;rw [he] at this;exact this
 unfold yielded;rw [hj];simp only [E7l];have:a.tmps[g]?=A4 (.bool x):=by
  simp only [Array.getD_eq_getD_getElem?] at h1;cases hh:a.tmps[g]? with
  | none=>rw [hh] at h1;simp [undef] at h1
  | some y=>rw [hh] at h1;simpa using h1
 rw [this]
def D6H{ops:Array Oper}{j g:Nat}{a:Act}{e:Env}{U:Mu}(hj:(ops[j]?).bind (·.dst)=A4 g)(hs:SEnv U e a)(he:e.get g=.no):yielded ops a.tmps j=A7:=by
 have h1:a.tmps.getD g undef=undef:=by have:=hs g;rw [he] at this;exact this
 unfold yielded;rw [hj];simp only [E7l];simp only [Array.getD_eq_getD_getElem?] at h1;cases hh:a.tmps[g]? with
 | none=>rfl
 | some y=>rw [hh] at h1;simp [undef] at h1;subst h1;rfl
def D9G{N:Nat}{ops:Array Oper}{E:L7}(hE:jF P E){q:Bool}{o:Oper}{ao:AOper}{e:Env}{h hr:A9}{n0:Nat}{k:Val->A9->Option R}{r:R}
  (hc:cA P N ops o ao=A5) (D8:aT E q hr n0 ao e h k=A4 r) :
  ∃ v h',k v h'=A4 r/\aT E q hr n0 ao e h (λv h=>A4 (v,h))=A4 (v,h'):=by
 unfold aT at D8 ⊢;cases hg:ao.guard with
 | none =>
  simp only [hg] at D8 ⊢;rw [D2G] at D8;simp only [E65] at D8;obtain ⟨p,hp,hk⟩:=D8;exact ⟨p.1,p.2,hk,hp⟩
 | some g =>
  simp only [hg] at D8 ⊢;simp only [E65] at D8;obtain ⟨p,hp,hk⟩:=D8;exact ⟨p.1,p.2,hk,by rw [hp];rfl⟩
def A84{N:Nat}{ops:Array Oper}{E:L7}(hE:jF P E){q:Bool}{o:Oper}{ao:AOper}{e:Env}{h hr:A9}{n0:Nat}{v:Val}{h':A9}{J:Ctx}{U:Mu}{a:Act}{w:World}
  (hc:cA P N ops o ao=A5) (D8:aT E q hr n0 ao e h (λv h=>A4 (v,h))=A4 (v,h')) (hs:SEnv U e a) (hi:Inv J U h w) (hrd:∀ id r,rd hr id=A4 r->rd h id=A4 r) (hsl:A0T U h n0 ao.slot)
  {next:Act->World->Prop} {Q:Exit->Act->World->Prop} (hn:∀ V w' U',U.le U'->RV U' v V->Inv J U' h' w'->Keeps U U' h n0 ao.slot->next (a.put o.dst V) w') :
  if Region.wanted o (yielded ops a.tmps) then o.wp P a w next Q\/(o.asks P a w/\LetsOut Q) else next (a.put o.dst undef) w:=by
 simp only [cA,E66] at hc;obtain ⟨⟨⟨_,_⟩,hg⟩,hop⟩:=hc;unfold aT at D8;unfold D2X at hg;cases hag:ao.guard with
 | none =>
  simp only [hag] at D8 hg;cases hog:o.guard with
  | some _=>simp [hog] at hg
  | none =>
   have hw:Region.wanted o (yielded ops a.tmps)=A5:=by simp [Region.wanted,hog]
   rw [if_pos hw];exact .inl (D9F (N:=N) (ops:=ops) hE hop hs hi hrd hsl D8 hn)
 | some g =>
  simp only [hag] at D8 hg;cases hog:o.guard with
  | none=>simp [hog] at hg
  | some q2 =>
   simp only [hog,E66,decide_eq_true_eq] at hg;simp only [E65] at D8;obtain ⟨p,hp,hpe⟩:=D8;simp only [E7a,E7h] at hpe;obtain ⟨rfl,rfl⟩:=hpe;unfold gd at hp;split at hp
   ·rename_i x sY;have hy:=D6I hg.2 hs sY;have hw:Region.wanted o (yielded ops a.tmps)=(x==g.2):=by
     simp [Region.wanted,hog,hy,hg.1]
    rw [hw];cases hx:(x==g.2) with
    | true =>
     rw [hx] at hp;rw [if_pos rfl];exact .inl (D9F (N:=N) (ops:=ops) hE hop hs hi hrd hsl hp hn)
    | false =>
     rw [hx] at hp;simp only [cond_false,E7a] at hp;rw [if_neg (by simp)];cases hp;exact hn undef w U (Mu.le_refl _) rfl hi (Keeps.refl _ _ _ _)
   ·rename_i sY;have hy:=D6H hg.2 hs sY;have hw:Region.wanted o (yielded ops a.tmps)=A6:=by
     simp [Region.wanted,hog,hy,hg.1]
    rw [hw,if_neg (by simp)];cases hp;exact hn undef w U (Mu.le_refl _) rfl hi (Keeps.refl _ _ _ _)
   ·cases hp
end
def AExit.conv:AExit->Exit
 | .normal=>.normal
 | .exit id=>.exit id
 | .ret=>.ret
def B5a(P:Program)(N L:Nat)(W:(Exit->Act->World->Prop)->Act->World->Prop)(e:Env)(h:A9)(x:AExit)(e':Env)(h':A9):Prop :=
 ∀ (J:Ctx) (U:Mu) (a:Act) (w:World),SEnv U e a->Inv J U h w->N<=a.tmps.size->a.defers = J.ds->∀ Q:Exit->Act->World->Prop,
  (∀ U' a' w',U.le U'->(∀ id,id<L -> U' id = U id)->SEnv U' e' a'->Inv J U' h' w'->N<=a'.tmps.size->a'.defers = J.ds->Q x.conv a' w')->W Q a w
def aK:AOp->Bool
 | .alloc _ | .box _ | .nilrow _ | .buildSl .. | .s2b _ | .mkSl .. | .mkMap=>A5
 | _=>A6
def bA:AOp->Bool
 | .call .. | .callV ..=>A5
 | _=>A6
def B1i:AOp->Bool
 | .store1 .. | .storeN .. | .app .. | .appZ .. | .copy .. | .mput .. | .ment .. | .mset ..=>A6
 | _=>A5
def A5w:AOp->Bool
 | .mark _=>A5
 | .b2sN A7 _=>A5
 | _=>A6
def C0q:AOp->Option Nat
 | .b2sN own _=>own
 | _=>A7
def AOp.opds:AOp->List Opd
 | .mv x | .box x | .load1 x | .loadN _ x | .eqN _ _ x | .nilc x | .un _ x | .conv _ x | .convS x | .s2b x | .b2s x | .b2sN _ x | .mark x | .fAddr x _ | .fld1 x _ | .fldN x _ _ | .ext x _ | .len x | .lenS x | .mkb _ x=>[x]
 | .nilrow _ | .alloc _ | .mkMap=>[]
 | .pick c a b=>[c,a,b]
 | .look _ _ _ a x | .ment _ _ a x=>[a,x]
 | .mput _ a x y | .mset a x y=>[a,x,y]
 | .build _ ps | .buildSl _ _ _ ps=>ps.map (·.2.2)
 | .store1 a x | .storeN _ a x | .bin _ a x | .eqA _ _ a x | .eqB _ a x | .mkSl _ _ a x | .iAddrA _ _ a x | .iAddrL _ a x | .idxA1 _ a x | .idxAN _ _ a x | .idxS a x | .app _ a x | .appZ _ _ a x | .max a x | .min a x | .copy _ a x=>[a,x]
 | .mkf _ cs=>cs
 | .slS x lo hi | .slL _ x lo hi | .slA _ _ x lo hi=>x::(lo.toList++hi.toList)
 | .call _ args=>args
 | .callV f args=>f::args
def E6F:Opd->Option Nat
 | .t n=>A4 n
 | _=>A7
def AOper.reads(o:AOper):List Nat:=o.op.opds.filterMap E6F++(o.guard.toList.map (·.1))
def bL(o:Oper):List Nat:=(o.after.toList.filter (Region.binds .any)).map (·.on)
def D1R(acc:List Nat)(o:Oper):Nat:=(bL o).foldl (λs p=>s ||| (2 ^ p) ||| acc.getD p 0) 0
def closure:List Oper->List Nat->List Nat
 | [],acc=>acc
 | o::r,acc=>closure r (acc++[D1R acc o])
def T4(ops:Array Oper):List Nat:=closure ops.toList []
def D0e(g:Nat->Nat)(b:Nat):∀ (ds:List Nat) (s:Nat),(ds.foldl (λs p=>s ||| (2 ^ p) ||| g p) s).testBit b=A5->s.testBit b=A5\/∃ p∈ds,b=p\/(g p).testBit b=A5
 | [],s,h=>.inl h
 | d::ds,s,h=>by
  rcases D0e g b ds _ h with h | ⟨p,hp,h⟩
  ·rw [Nat.testBit_or,Nat.testBit_or,Nat.testBit_two_pow] at h;simp only [E8r,decide_eq_true_eq] at h;rcases h with (h | h) | h
   ·exact .inl h
   ·exact .inr ⟨d,by simp,.inl h.symm⟩
   ·exact .inr ⟨d,by simp,.inr h⟩
  ·exact .inr ⟨p,by simp [hp],h⟩
def B0X:∀ (os:List Oper) (acc:List Nat) (i:Nat),i<acc.length->(closure os acc).getD i 0=acc.getD i 0
 | [],acc,i,h=>rfl
 | o::r,acc,i,h=>by
  rw [closure,B0X r _ i (by simp;omega)];simp [List.getD,E7T h]
def C6x:∀ (os:List Oper) (acc:List Nat) (k:Nat) (o:Oper),os[k]?=A4 o->∃ acc',acc'.length=acc.length+k/\(closure os acc).getD (acc.length+k) 0=D1R acc' o/\∀ i,i<acc'.length->(closure os acc).getD i 0=acc'.getD i 0
 | [],acc,k,o,h=>by simp at h
 | x::r,acc,0,o,h=>by
  simp at h;subst h;refine ⟨acc,rfl,?_,λi hi=>?_⟩
  ·rw [closure,B0X r _ _ (by simp)];simp [List.getD]
  ·rw [closure,B0X r _ i (by simp;omega)];simp [List.getD,E7T hi]
 | x::r,acc,k+1,o,h=>by
  simp at h;obtain ⟨acc',h1,h2,h3⟩:=C6x r (acc++[D1R acc x]) k o h;refine ⟨acc',by simp at h1;omega,?_,λi hi=>by rw [closure];exact h3 i hi⟩;rw [closure,<-h2]
  congr 1;simp;omega
def A0V{ops:Array Oper}{done:Nat->Bool}(X4:∀ i o,ops[i]?=A4 o->∀ p∈bL o,p<i)
  (fR:∀ i o,ops[i]?=A4 o->done i=A5->∀ p∈bL o,done p=A5):∀ (i:Nat) (o:Oper),ops[i]?=A4 o->(∀ p∈bL o,done p=A5)->∀ b,((T4 ops).getD i 0).testBit b=A5->done b=A5:=by
 intro i
 induction i using Nat.strongRecOn with
 | _ i ih =>
  intro o ho hd b hb;obtain ⟨acc,h1,h2,h3⟩:=C6x ops.toList [] i o (by simpa using ho);simp only [List.length_nil,E7o] at h1 h2;rw [T4,h2] at hb;unfold D1R at hb;rcases D0e _ b _ _ hb with hb | ⟨p,hp,rfl | hb⟩
  ·simp at hb
  ·exact hd _ hp
  ·have hpi:=X4 i o ho p hp;have hps:p<ops.size:=by have:=(Array.getElem?_eq_some_iff.1 ho).1;omega
   have hop:ops[p]?=A4 ops[p]:=by simp [hps]
   refine ih p hpi ops[p] hop (fR p _ hop (hd p hp)) b ?_;rw [T4,h3 p (by omega)];exact hb
section
variable {R:Type}
def D6M{E:L7}{q:Bool}{hr:A9}{n0:Nat}{slot:Option Nat}{o:AOp}{e e':Env}{h:A9}{k:Val->A9->Option R}(he:∀ x∈o.opds,e.ev x=e'.ev x):aop E q hr n0 slot o e h k=aop E q hr n0 slot o e' h k:=by
 have parts:∀ ps:List (Nat × Nat × Opd),(∀ x∈ps.map (·.2.2),e.ev x=e'.ev x)->(ps.map λp=>(p.1,p.2.1,e.ev p.2.2))=ps.map λp=>(p.1,p.2.1,e'.ev p.2.2):=λps hp =>
  List.map_congr_left λp hm=>by rw [hp p.2.2 (List.mem_map.2 ⟨p,hm,rfl⟩)]
 have all:∀ l:List Opd,(∀ x∈l,e.ev x=e'.ev x)->l.map e.ev=l.map e'.ev:=λl hl=>List.map_congr_left hl
 have opt:∀ l:Option Opd,(∀ x∈l.toList,e.ev x=e'.ev x)->l.map e.ev=l.map e'.ev:=λl hl=>by cases l with
  | none=>rfl
  | some x=>simp [hl x (by simp)]
 cases o<;>simp only [AOp.opds] at he<;>simp only [aop]
 case build z ps=>rw [parts ps he]
 case buildSl a b z ps=>rw [parts ps he]
 case mkf f cs=>rw [all cs he]
 case call f args=>rw [all args he]
 case callV f args=>rw [he f (by simp),all args λx hx=>he x (by simp [hx])]
 case slS x lo hi=>rw [he x (by simp),opt lo λy hy=>he y (by simp [hy]),opt hi λy hy=>he y (by simp [hy])]
 case slL sz x lo hi=>rw [he x (by simp),opt lo λy hy=>he y (by simp [hy]),opt hi λy hy=>he y (by simp [hy])]
 case slA n sz x lo hi=>rw [he x (by simp),opt lo λy hy=>he y (by simp [hy]),opt hi λy hy=>he y (by simp [hy])]
 all_goals (repeat (rw [he _ (by simp)]))
def C1Q{E:L7}{q:Bool}{hr:A9}{n0:Nat}{o:AOper}{e e':Env}{h:A9}{k:Val->A9->Option R}(he:∀ t∈o.reads,e.get t=e'.get t):aT E q hr n0 o e h k=aT E q hr n0 o e' h k:=by
 have h1:∀ x∈o.op.opds,e.ev x=e'.ev x:=by
  intro x hx;cases x with
  | v x=>rfl
  | t n=>exact he n (List.mem_append_left _ (List.mem_filterMap.2 ⟨.t n,hx,rfl⟩))
 unfold aT;cases hg:o.guard with
 | none=>exact D6M h1
 | some g =>
  have h2:e.get g.1=e'.get g.1:=he g.1 (List.mem_append_right _ (by simp [hg]));simp only;rw [h2,D6M h1]
def C6d(E:L7)(q:Bool)(hr:A9)(n0:Nat)(o:AOper)(e:Env)(h:A9)(k:Val->A9->Option R):aT E q hr n0 o e h k=(aT E q hr n0 o e h λv h=>A4 (v,h)).bind λp=>k p.1 p.2:=by
 unfold aT;cases o.guard with
 | none=>exact D2G ..
 | some g=>simp only [Option.bind_assoc,E7l]
def C9I{E:L7}{q:Bool}{hr:A9}{n0:Nat}{slot:Option Nat}{o:AOp}{e:Env}{h h':A9}{v:Val}(hq:B1i o=A5)(hm:A5w o=A6)(how:C0q o=A7)(hc:bA o=A6)(hs:aK o=A6)
  (D8:aop E q hr n0 slot o e h (λv h=>A4 (v,h))=A4 (v,h')):h'=h/\∀ h2,aop E q hr n0 slot o e h2 (λv h=>A4 (v,h))=A4 (v,h2):=by
 have hnb:∀ own x,o≠.b2sN own x:=by
  intro own x he;subst he;simp only [C0q] at how;subst how;simp [A5w] at hm
 cases o<;>simp [B1i,A5w,bA,aK] at hq hm hc hs<;>simp only [aop] at D8 ⊢
 case b2sN own x=>exact absurd rfl (hnb own x)
 case mv=>cases D8;exact ⟨rfl,λ_=>rfl⟩
 all_goals
  simp only [E65,E7a,E7h] at D8;obtain ⟨_,h1,rfl,rfl⟩:=D8;exact ⟨rfl,λh2=>by rw [h1];rfl⟩
def D2y{h h2:A9}{x v:Val}(h1:B7H h x=A4 v)(A2o:∀ id off len sz r,x=.c (.sl id off len sz)->rd h id=A4 r->rd h2 id=A4 r):B7H h2 x=A4 v:=by
 unfold B7H at h1 ⊢;split at h1
 ·rename_i id off len sz;split at h1
  ·rename_i hsz;rw [if_pos hsz];rw [E7t] at h1 ⊢;obtain ⟨s,h3,h4⟩:=h1;rw [E65] at h3;obtain ⟨cs,h5,h6⟩:=h3;refine ⟨s,?_,h4⟩;rw [E65];refine ⟨cs,?_,h6⟩;unfold qW at h5 ⊢;simp only [E65] at h5 ⊢;obtain ⟨r,h7,h8⟩:=h5;exact ⟨r,A2o _ _ _ _ r rfl h7,h8⟩
  ·cases h1
 ·exact h1
 ·cases h1
def D6O{E:L7}{q:Bool}{hr:A9}{n0 j:Nat}{slot:Option Nat}{o:AOp}{e:Env}{h h':A9}{v:Val}(ho:C0q o=A4 j)
  (D8:aop E q hr n0 slot o e h (λv h=>A4 (v,h))=A4 (v,h')):h'=h/\∀ h2:A9,(∀ x,rd h (n0+j)=A4 x->rd h2 (n0+j)=A4 x)->aop E q hr n0 slot o e h2 (λv h=>A4 (v,h))=A4 (v,h2):=by
 obtain ⟨x,rfl⟩:∃ x,o=.b2sN (A4 j) x:=by
  unfold C0q at ho;split at ho
  ·subst ho;exact ⟨_,rfl⟩
  ·cases ho
 simp only [aop,E65,E7a,E7h] at D8;obtain ⟨v',h1,rfl,rfl⟩:=D8;refine ⟨rfl,λh2 A2o=>?_⟩;have:C3e h2 n0 (A4 j) (e.ev x)=A4 v':=by
  unfold C3e at h1 ⊢;simp only at h1 ⊢;split at h1
  ·rename_i id off len sz sY;split at h1
   ·rename_i hid;rw [if_pos hid];refine D2y h1 λdX _ _ _ r hx hr=>?_
    cases hx;rw [hid] at hr ⊢;exact A2o r hr
   ·cases h1
  ·cases h1
 simp only [aop,this];rfl
def D2H{E:L7}{q:Bool}{hr:A9}{n0:Nat}{slot:Option Nat}{o:AOp}{e:Env}{h h':A9}{v:Val}(hm:A5w o=A5)
  (D8:aop E q hr n0 slot o e h (λv h=>A4 (v,h))=A4 (v,h')):h'=h/\∀ h2:A9,(∀ id x,rd h id=A4 x->rd h2 id=A4 x)->aop E q hr n0 slot o e h2 (λv h=>A4 (v,h))=A4 (v,h2):=by
 have hsl:∀ (h2:A9) (x:Val) (v:Val),(∀ id x,rd h id=A4 x->rd h2 id=A4 x)->B7H h x=A4 v->B7H h2 x=A4 v:=λh2 x v A2o h1=>D2y h1 λid _ _ _ r _ hr=>A2o id r hr
 by_cases hb:∃ x,o=.b2sN A7 x
 ·obtain ⟨x,rfl⟩:=hb;simp only [aop,C3e,E65,E7a,E7h] at D8;obtain ⟨v',h1,rfl,rfl⟩:=D8;exact ⟨rfl,λh2 A2o=>by simp only [aop,C3e,hsl h2 _ _ A2o h1];rfl⟩
 obtain ⟨x,rfl⟩:∃ x,o=.mark x:=by
  unfold A5w at hm;split at hm
  ·exact ⟨_,rfl⟩
  ·exact absurd ⟨_,rfl⟩ hb
  ·cases hm
 simp only [aop,E65,E7a,E7h] at D8;obtain ⟨v',h1,rfl,rfl⟩:=D8;refine ⟨rfl,λh2 A2o=>?_⟩;have:B1I h2 (e.ev x)=A4 v':=by
  unfold B1I at h1 ⊢;split at h1
  ·simp only [E65] at h1 ⊢;obtain ⟨r,hr,h3⟩:=h1;exact ⟨r,A2o _ _ hr,h3⟩
  ·cases h1
 simp only [aop,this];rfl
def D2I{E:L7}{q:Bool}{hr:A9}{n0 j:Nat}{o:AOp}{e:Env}{h h':A9}{v:Val}(hs:aK o=A5)
  (D8:aop E q hr n0 (A4 j) o e h (λv h=>A4 (v,h))=A4 (v,h')):∃ r:Row,h'=h.set (n0+j) (A4 r)/\∀ h2:A9,aop E q hr n0 (A4 j) o e h2 (λv h=>A4 (v,h))=A4 (v,h2.set (n0+j) (A4 r)):=by
 cases o<;>simp [aK] at hs<;>simp only [aop,gF] at D8 ⊢
 case alloc z=>cases D8;exact ⟨_,rfl,λ_=>rfl⟩
 case nilrow z=>cases D8;exact ⟨_,rfl,λ_=>rfl⟩
 case mkMap=>cases D8;exact ⟨_,rfl,λ_=>rfl⟩
 all_goals
  simp only [E65,E7a,E7h] at D8;obtain ⟨_,h1,rfl,rfl⟩:=D8;exact ⟨_,rfl,λh2=>by rw [h1];rfl⟩
def Grows(h h':A9):Prop:=h <+: h'/\∀ id x,h.length<=id->rd h' id=A4 x->x.own=A5
def Grows.refl(h:A9):Grows h h:=⟨List.prefix_refl _,λid x hid hx=>by have:=E5 hx;omega⟩
def B8c{h:A9}{r:Option (Val × A9)}{p:Val × A9}(hq:quiet h r=A4 p):r=A4 p/\Grows h p.2:=by
 simp only [quiet,E65] at hq;obtain ⟨p',h1,h2⟩:=hq;split at h2
 ·cases h2;exact ⟨h1,‹_›⟩
 ·cases h2
def quiet_of{h:A9}{p:Val × A9}(hg:Grows h p.2):quiet h (A4 p)=A4 p:=by
 unfold quiet;simp only [E7l];exact if_pos hg
end
def B5z{h h':A9}(hp:h <+: h'){id:Nat}(hl:id<h.length):rd h' id=rd h id:=by
 obtain ⟨t,rfl⟩:=hp;exact D5 hl
def B4O{hD h h':A9}(hl:hD.length=h.length)(id:Nat):rd (hD++h'.drop h.length) id=if id<h.length then rd hD id else rd h' id:=by
 split
 ·rw [D5 (by omega)]
 ·unfold rd;rw [E7x (by omega),E8j,hl]
  congr 2;omega
open Classical in
def CallOk.frame{P:Program}{f:FuncId}{args:List Val}{h h' hD:A9}{v:Val}(hk:CallOk P f args h v h')(hg:Grows h h')(hl:hD.length=h.length)(A2o:∀ id x,rd h id=A4 x->rd hD id=A4 x) :
  CallOk P f args hD v (hD++h'.drop h.length):=by
 intro J U w V hi hargs
 let J':Ctx:={ J with F:=λb=>match J.F b with | some o=>A4 o | none=>if (∃ id x n,rd h id=A7/\rd hD id=A4 x /\ U id=A4 (b,n)) then w.heap[b]? else A7 }
 have hpl:h.length<=h'.length:=hg.1.length_le;have hΓ:∀ b,J'.F b=A7 -> J.F b=A7:=by
  intro b hb;cases hF:J.F b with
  | none=>rfl
  | some o=>simp only [J',hF] at hb;cases hb
 have hex:∀ id x b n,rd h id=A7->rd hD id=A4 x -> U id=A4 (b,n)->∃ o,J'.F b=A4 o/\w.heap[b]?=A4 o:=by
  intro id x b n h1 h2 h3;obtain ⟨ob,h4⟩:=(hi.rows id x h2).there h3;cases hF:J.F b with
  | some o=>exact ⟨o,by simp only [J',hF],hi.ctx.block b o hF⟩
  | none=>exact ⟨_,by simp only [J',hF];rw [if_pos ⟨id,x,n,h1,h2,h3⟩];exact h4,h4⟩
 have hinv:Inv J' U h w:=by
  refine ⟨λid r hr=>hi.rows id r (A2o id r hr),λid dX r r' x x' hr hr'=>hi.sep id dX r r' x x' (A2o _ _ hr) (A2o _ _ hr'),λid r x hr nG hx=>?_,λid hid=>hi.dom id (by omega),⟨hi.ctx.os,hi.ctx.tape,hi.ctx.output,λb o ho=>?_⟩⟩
  ·have h0:=hi.own id r x (A2o _ _ hr) nG hx;simp only [J',h0];rw [if_neg];rintro ⟨dX,x',n,h1,h2,h3⟩;have Z2:id≠dX:=by intro e;subst e;rw [hr] at h1;cases h1
   exact hi.sep id dX r x' x (x.1,n) (A2o _ _ hr) h2 nG Z2 hx h3 rfl
  ·cases hF:J.F b with
   | some o'=>simp only [J',hF] at ho;cases ho;exact hi.ctx.block b _ hF
   | none =>
    simp only [J',hF] at ho;split at ho
    ·exact ho
    ·cases ho
 refine (hk J' U w V hinv hargs).mono ?_;rintro e w' ⟨V',U',rfl,mE,hv,hi',Z6⟩;refine ⟨V',U',rfl,mE,hv,?_,λid hid=>Z6 id (by omega)⟩;have zV:∀ id x,rd (hD++h'.drop h.length) id=A4 x->rd h' id=A4 x\/(id<h.length/\rd h id=A7/\rd hD id=A4 x):=by
  intro id x hx;rw [B4O hl] at hx;split at hx
  ·rename_i X4;cases hh:rd h id with
   | none=>exact .inr ⟨X4,rfl,hx⟩
   | some y =>
    have:=A2o id y hh;rw [hx] at this;cases this;exact .inl (by rw [B5z hg.1 X4];exact hh)
  ·exact .inl hx
 have hold:∀ id,id<h.length -> U' id = U id:=Z6;have E4g:∀ id x y,id<h.length->rd h id=A7->rd hD id=A4 x -> U' id=A4 y->∃ o,J'.F y.1=A4 o/\w.heap[y.1]?=A4 o:=by
  intro id x y h1 h2 h3 h4;rw [hold id h1] at h4;exact hex id x y.1 y.2 h2 h3 h4
 refine ⟨λid r hr=>?_,λid dX r r' x x' hr hr' nG Z2 hx hx'=>?_,λid r x hr nG hx=>?_,λid hid=>?_,⟨hi'.ctx.os,hi'.ctx.tape,hi'.ctx.output,λb o ho=>hi'.ctx.block b o (by simp only [J',ho])⟩⟩
 ·rcases zV id r hr with h1 | ⟨h1,h2,h3⟩
  ·exact hi'.rows id r h1
  ·refine (hi.rows id r h3).mono mE (hold id h1) λy hy=>?_
   obtain ⟨o,h4,h5⟩:=E4g id r y h1 h2 h3 (by rw [hold id h1];exact hy);rw [h5];exact hi'.ctx.block _ o h4
 ·rcases zV id r hr with h1 | ⟨h1,h2,h3⟩
  ·rcases zV dX r' hr' with h4 | ⟨h4,h5,h6⟩
   ·exact hi'.sep id dX r r' x x' h1 h4 nG Z2 hx hx'
   ·have h7:=hi'.own id r x h1 nG hx;obtain ⟨o,h8,_⟩:=E4g dX r' x' h4 h5 h6 hx';intro e;rw [e,h8] at h7;cases h7
  ·rcases zV dX r' hr' with h4 | ⟨h4,h5,h6⟩
   ·obtain ⟨o,h8,_⟩:=E4g id r x h1 h2 h3 hx;by_cases X4:dX<h.length
    ·rw [B5z hg.1 X4] at h4;rw [hold id h1] at hx;rw [hold dX X4] at hx';exact hi.sep id dX r r' x x' h3 (A2o _ _ h4) nG Z2 hx hx'
    ·have h9:=hi'.own dX r' x' h4 (hg.2 dX r' (by omega) h4) hx';intro e;rw [<-e,h8] at h9;cases h9
   ·rw [hold id h1] at hx;rw [hold dX h4] at hx';exact hi.sep id dX r r' x x' h3 h6 nG Z2 hx hx'
 ·rcases zV id r hr with h1 | ⟨h1,h2,h3⟩
  ·exact hΓ _ (hi'.own id r x h1 nG hx)
  ·rw [hold id h1] at hx;exact hi.own id r x h3 nG hx
 ·refine hi'.dom id ?_;simp at hid;omega
def A3P(P:Program)(N:Nat)(ops:Array Oper)(m:Nat)(l r:List AOper):Bool :=
 let all:=l++r
 let cl:=T4 ops
 let ahead (i j:Nat):Bool:=(cl.getD i 0).testBit j
 P.follows .mixedOrders &&
 decide (ops.size=l.length+r.length) &&
 (ops.toList.zip all).all (λp=>cA P N ops p.1 p.2) &&
 (ops.toList.zipIdx).all (λp=>(bL p.1).all (λq=>decide (q<p.2))) &&
 l.all (λo=>B1i o.op&&decide (aK o.op=o.slot.isSome)&&(match o.slot with | some j=>decide (j<m) | none=>A5)) &&
 r.all (λo=>decide (o.slot=A7)) &&
 l.zipIdx.all (λp=>l.zipIdx.all λq=>decide (p.2=q.2)||(decide (p.1.dst≠q.1.dst\/p.1.dst=A7)&&decide (p.1.slot≠q.1.slot\/p.1.slot=A7))) &&
 l.zipIdx.all (λp=>l.zipIdx.all λq=>(match q.1.dst with | some d=>!(p.1.reads.contains d)||(ahead p.2 q.2&&decide (q.2<p.2))||(ahead q.2 p.2&&decide (p.2<q.2)) | none=>A5)) &&
 l.zipIdx.all (λp=>l.zipIdx.all λq=>!((bA p.1.op||A5w p.1.op)&&decide (q.2<p.2)&&(bA q.1.op||aK q.1.op))||ahead p.2 q.2) &&
 l.zipIdx.all (λp=>match C0q p.1.op with | none=>A5 | some j=>l.zipIdx.any λq=>decide (q.1.slot=A4 j)&&ahead p.2 q.2)
def B9x(ops:Array Oper)(a n:Nat):Bool :=
 let cl:=T4 ops
 (E7G a n).all (λi=>(E7H i).all λj=>(cl.getD i 0).testBit j)
structure DrawOk(P:Program)(N:Nat)(ops:Array Oper)(m:Nat)(l r:List AOper):Prop where
 follows:P.follows .mixedOrders=A5
 size:ops.size=l.length+r.length
 oper:∀ (i:Nat) (o:Oper) (ao:AOper),ops[i]?=A4 o->(l++r)[i]?=A4 ao->cA P N ops o ao=A5
 dir:∀ (i:Nat) (o:Oper),ops[i]?=A4 o->∀ p∈bL o,p<i
 quiet:∀ (i:Nat) (ao:AOper),l[i]?=A4 ao->B1i ao.op=A5/\aK ao.op=ao.slot.isSome/\∀ j,ao.slot=A4 j->j<m
 rslot:∀ ao∈r,ao.slot=A7
 apart:∀ (i j:Nat) ai aj,l[i]?=A4 ai->l[j]?=A4 aj->i≠j->(∀ d,ai.dst=A4 d->aj.dst≠A4 d)/\(∀ s,ai.slot=A4 s->aj.slot≠A4 s)
 reads:∀ (i j:Nat) ai aj d,l[i]?=A4 ai->l[j]?=A4 aj->aj.dst=A4 d->d∈ai.reads->(((T4 ops).getD i 0).testBit j=A5/\j<i)\/(((T4 ops).getD j 0).testBit i=A5/\i<j)
 calls:∀ (i j:Nat) ai aj,l[i]?=A4 ai->l[j]?=A4 aj->(bA ai.op=A5\/A5w ai.op=A5)->j<i->(bA aj.op=A5\/aK aj.op=A5)->((T4 ops).getD i 0).testBit j=A5
 own:∀ (i:Nat) ai j,l[i]?=A4 ai->C0q ai.op=A4 j->∃ (k:Nat) (ak:AOper),l[k]?=A4 ak/\ak.slot=A4 j/\((T4 ops).getD i 0).testBit k=A5
def mem_zipIdx{α:Type}{l:List α}{i:Nat}{a:α}(h:l[i]?=A4 a):(a,i)∈l.zipIdx:=by
 rw [List.mem_zipIdx_iff_getElem?];simpa using h
def B0T{P:Program}{N:Nat}{ops:Array Oper}{m:Nat}{l r:List AOper}(hc:A3P P N ops m l r=A5):DrawOk P N ops m l r:=by
 simp only [A3P,E66,decide_eq_true_eq] at hc;obtain ⟨⟨⟨⟨⟨⟨⟨⟨⟨h1,h2⟩,h3⟩,h4⟩,h5⟩,h6⟩,h7⟩,h8⟩,h9⟩,h10⟩:=hc;simp only [E7D] at h3 h4 h5 h6 h7 h8 h9 h10;refine ⟨h1,h2,?_,?_,?_,?_,?_,?_,?_,?_⟩
 ·intro i o ao ho ha;refine h3 (o,ao) ?_;have:(ops.toList.zip (l++r))[i]?=A4 (o,ao):=by
   rw [List.getElem?_zip_eq_some];exact ⟨by simpa using ho,ha⟩
  exact E7p this
 ·intro i o ho p hp;have:=h4 (o,i) (mem_zipIdx (by simpa using ho));simpa using this p hp
 ·intro i ao ha;have:=h5 ao (E7p ha);simp only [E66,decide_eq_true_eq] at this;refine ⟨this.1.1,this.1.2,λj hj=>?_⟩;have h:=this.2;rw [hj] at h;simpa using h
 ·intro ao ha;simpa using h6 ao ha
 ·intro i j ai aj hi hj Z2;have:=h7 _ (mem_zipIdx hi) _ (mem_zipIdx hj);simp only [E8r,E66,decide_eq_true_eq] at this;rcases this with this | ⟨ha,hb⟩
  ·exact absurd this Z2
  ·refine ⟨λd hd he=>?_,λs hs he=>?_⟩
   ·rcases ha with ha | ha
    ·exact ha (by rw [hd,he])
    ·rw [hd] at ha;cases ha
   ·rcases hb with hb | hb
    ·exact hb (by rw [hs,he])
    ·rw [hs] at hb;cases hb
 ·intro i j ai aj d hi hj hd hr;have:=h8 _ (mem_zipIdx hi) _ (mem_zipIdx hj);simp only [hd,E8r,E7Y,E66,decide_eq_true_eq] at this;rcases this with (this | this) | this
  ·have hc:ai.reads.contains d=A5:=by simpa using hr
   rw [hc] at this;cases this
  ·exact .inl this
  ·exact .inr this
 ·intro i j ai aj hi hj hc X4 hor;have:=h9 _ (mem_zipIdx hi) _ (mem_zipIdx hj);simp only [E8r,E7Y] at this;rcases this with this | this
  ·have:((bA ai.op||A5w ai.op)&&decide (j<i)&&(bA aj.op||aK aj.op))=A5:=by
    simp only [E66,decide_eq_true_eq,E8r];exact ⟨⟨hc,X4⟩,hor⟩
   simp_all
  ·exact this
 ·intro i ai j hi ho;have:=h10 _ (mem_zipIdx hi);simp only [ho,List.any_eq_true,E66,decide_eq_true_eq] at this;obtain ⟨⟨ak,k⟩,hk,hs,ht⟩:=this;rw [List.mem_zipIdx_iff_getElem?] at hk;exact ⟨k,ak,hk,hs,ht⟩
def C6q{ops:Array Oper}{a n:Nat}(hc:B9x ops a n=A5)(hs:ops.size=a+n):∀ i,a<=i->i<ops.size->∀ j,j<i->((T4 ops).getD i 0).testBit j=A5:=by
 intro i hi X4 j hj;simp only [B9x,E7D] at hc;exact hc i (by rw [List.mem_range'_1];omega) j (by simpa using hj)
structure Trace(E:L7)(hr:A9)(n0:Nat)(l:List AOper)(es:Nat->Env)(hs:Nat->A9)(vs:Nat->Val):Prop where
 step:∀ (i:Nat) o,l[i]?=A4 o->aT E A5 hr n0 o (es i) (hs i) (λv h=>A4 (v,h))=A4 (vs i,hs (i+1))
 env:∀ (i:Nat) o,l[i]?=A4 o->es (i+1)=(es i).put o.dst (vs i)
def C8l{E:L7}{hr:A9}{n0:Nat}{R:Type}{k:Env->A9->Option R}{res:R}:∀ (l:List AOper) (e:Env) (h:A9),B6z E hr n0 l e h k=A4 res ->
  ∃ es hs vs,es 0=e/\hs 0=h/\Trace E hr n0 l es hs vs/\k (es l.length) (hs l.length)=A4 res
 | [],e,h,D8=>⟨λ_=>e,λ_=>h,λ_=>.un,rfl,rfl,⟨λi o ho=>by simp at ho,λi o ho=>by simp at ho⟩,D8⟩
 | o::l,e,h,D8=>by
  rw [C57,C6d] at D8;simp only [E65] at D8;obtain ⟨p,hp,D8⟩:=D8;obtain ⟨es,hs,vs,h1,h2,h3,h4⟩:=C8l l _ _ D8;refine ⟨λi=>match i with | 0=>e | i+1=>es i,λi=>match i with | 0=>h | i+1=>hs i,λi=>match i with | 0=>p.1 | i+1=>vs i,rfl,rfl,⟨λi o' ho=>?_,λi o' ho=>?_⟩,h4⟩
  ·cases i with
   | zero=>simp at ho;subst ho;simp only;rw [h2];exact hp
   | succ i=>simp at ho;exact h3.step i o' ho
  ·cases i with
   | zero=>simp at ho;subst ho;exact h1
   | succ i=>simp at ho;exact h3.env i o' ho
def A5R(l:List AOper)(n0:Nat)(i id:Nat):Prop:=∃ ao j,l[i]?=A4 ao/\ao.slot=A4 j/\id=n0+j
section
variable {P:Program} {N m:Nat} {ops:Array Oper} {l r:List AOper} {E:L7} {hr:A9} {es:Nat->Env} {hs:Nat->A9} {vs:Nat->Val}
def A9L(hq:∀ (i:Nat) (ao:AOper),l[i]?=A4 ao->B1i ao.op=A5/\aK ao.op=ao.slot.isSome/\∀ j,ao.slot=A4 j->j<m)(ht:Trace E hr hr.length l es hs vs){i:Nat}{ao:AOper}(ha:l[i]?=A4 ao) :
  (bA ao.op=A5/\ao.slot=A7/\Grows (hs i) (hs (i+1)))\/(bA ao.op=A6/\(hs (i+1)=hs i\/∃ j row,ao.slot=A4 j/\hs (i+1)=(hs i).set (hr.length+j) (A4 row))):=by
 have h1:=ht.step i ao ha;obtain ⟨q1,q2,q3⟩:=hq i ao ha;have key:hs (i+1)=hs i\/∃ v,aop E A5 hr hr.length ao.slot ao.op (es i) (hs i) (λv h=>A4 (v,h))=A4 (v,hs (i+1)):=by
  unfold aT at h1;cases hgu:ao.guard with
  | none=>rw [hgu] at h1;exact .inr ⟨_,h1⟩
  | some g =>
   rw [hgu] at h1;simp only [E65,E7a] at h1;obtain ⟨⟨v',h2⟩,hp,hpe⟩:=h1;cases hpe;unfold gd at hp;split at hp
   ·rename_i x _;cases hx:(x==g.2) with
    | true=>rw [hx] at hp;exact .inr ⟨_,hp⟩
    | false=>rw [hx] at hp;simp only [cond_false,E7a,E7h] at hp;exact .inl hp.2.symm
   ·simp only [E7a,E7h] at hp;exact .inl hp.2.symm
   ·cases hp
 cases hc:bA ao.op with
 | true =>
  left
  have hns:aK ao.op=A6:=by cases hop:ao.op<;>simp_all [bA,aK]
  have hsn:ao.slot=A7:=by
   rw [hns] at q2;cases hsl:ao.slot with
   | none=>rfl
   | some j=>rw [hsl] at q2;cases q2
  refine ⟨rfl,hsn,?_⟩;rcases key with h | ⟨v,h⟩
  ·rw [h];exact Grows.refl _
  ·cases hop:ao.op<;>rw [hop] at hc h<;>simp [bA] at hc
   case call f args =>
    simp only [aop,cond_true,E65,E7a] at h;obtain ⟨⟨v',h2⟩,hp,hpe⟩:=h;cases hpe;exact (B8c hp).2
   case callV f args =>
    simp only [aop,cond_true,E65,E7a] at h;obtain ⟨⟨v',h2⟩,hp,hpe⟩:=h;cases hpe;exact (B8c hp).2
 | false =>
  right
  refine ⟨rfl,?_⟩;rcases key with h | ⟨v,h⟩
  ·exact .inl h
  ·cases hsl:aK ao.op with
   | false =>
    cases hmk:A5w ao.op with
    | false =>
     cases A2n:C0q ao.op with
     | none=>exact .inl (C9I q1 hmk A2n hc hsl h).1
     | some j=>exact .inl (D6O A2n h).1
    | true=>exact .inl (D2H hmk h).1
   | true =>
    rw [hsl] at q2;obtain ⟨j,hj⟩:=Option.isSome_iff_exists.1 q2.symm;rw [hj] at h;obtain ⟨row,h2,_⟩:=D2I hsl h;exact .inr ⟨j,row,hj,h2⟩
def D4R(hq:∀ (i:Nat) (ao:AOper),l[i]?=A4 ao->B1i ao.op=A5/\aK ao.op=ao.slot.isSome/\∀ j,ao.slot=A4 j->j<m)(ht:Trace E hr hr.length l es hs vs){i:Nat}(hi:i<l.length) :
  (hs i).length<=(hs (i+1)).length:=by
 rcases A9L hq ht (E64 hi) with ⟨_,_,h⟩ | ⟨_,h | ⟨j,row,_,h⟩⟩
 ·exact h.1.length_le
 ·rw [h];exact E69 _
 ·rw [h];simp
def B4B(hq:∀ (i:Nat) (ao:AOper),l[i]?=A4 ao->B1i ao.op=A5/\aK ao.op=ao.slot.isSome/\∀ j,ao.slot=A4 j->j<m)(ht:Trace E hr hr.length l es hs vs):∀ (t i:Nat),i+t<=l.length->(hs i).length<=(hs (i+t)).length
 | 0,i,_=>E69 _
 | t+1,i,h=>Nat.le_trans (B4B hq ht t i (by omega)) (D4R hq ht (i:=i+t) (by omega))
def A9K(D:DrawOk P N ops m l r)(ht:Trace E hr hr.length l es hs vs)(h0:hs 0=hr++E68 m A7){i id:Nat}(ho:A5R l hr.length i id):∀ k,k<=i->rd (hs k) id=A7:=by
 obtain ⟨ao,j,ha,hj,rfl⟩:=ho;have hjm:=(D.quiet i ao ha).2.2 j hj;have K6:i<l.length:=(E7b.1 ha).1;intro k
 induction k with
 | zero =>
  intro _;rw [h0];unfold rd;rw [E7x (by omega)];simp only [List.getElem?_replicate];split<;>rfl
 | succ k ih =>
  intro hk;have ih:=ih (by omega);have hkl:k<l.length:=by omega
  have hin:hr.length+j<(hs k).length:=by
   have:=B4B D.quiet ht k 0 (by omega);rw [h0] at this;simp at this;omega
  rcases A9L D.quiet ht (E64 hkl) with ⟨_,_,h⟩ | ⟨_,h | ⟨j',row,hj',h⟩⟩
  ·rw [B5z h.1 hin];exact ih
  ·rw [h];exact ih
  ·rw [h];have Z2:j≠j':=by
    intro e;subst e;exact (D.apart i k ao l[k] ha (E64 hkl) (by omega)).2 j hj hj'
   rw [B7 (by omega)];exact ih
def tC(D:DrawOk P N ops m l r)(ht:Trace E hr hr.length l es hs vs){k id:Nat}(hid:id<(hs k).length)(X5:∀ i,k<=i->¬ A5R l hr.length i id):∀ t,k+t<=l.length->rd (hs (k+t)) id=rd (hs k) id
 | 0,_=>rfl
 | t+1,hl=>by
  have ih:=tC D ht hid X5 t (by omega);have X4:k+t<l.length:=by omega
  have hin:id<(hs (k+t)).length:=Nat.lt_of_lt_of_le hid (B4B D.quiet ht t k (by omega));rw [<-ih];rcases A9L D.quiet ht (E64 X4) with ⟨_,_,h⟩ | ⟨_,h | ⟨j',row,hj',h⟩⟩
  ·exact B5z h.1 hin
  ·show rd (hs (k+t+1)) id=_;rw [h]
  ·show rd (hs (k+t+1)) id=_;rw [h];have Z2:hr.length+j'≠id:=λe=>X5 (k+t) (by omega) ⟨l[k+t],j',E64 X4,hj',e.symm⟩
   rw [B7 Z2]
def und(l:List AOper)(n0:Nat)(done:Nat->Bool)(id:Nat):Bool:=(E7H l.length).any λi=>!done i&&decide (((l[i]?).bind (·.slot)).map (n0 + ·)=A4 id)
def bM{n0:Nat}{done:Nat->Bool}{id:Nat}:und l n0 done id=A5↔∃ i,done i=A6/\A5R l n0 i id:=by
 unfold und A5R;simp only [List.any_eq_true,List.mem_range,E66,E7Y,decide_eq_true_eq,E7t,E65];constructor
 ·rintro ⟨i,hi,hd,j,⟨ao,ha,hj⟩,rfl⟩;exact ⟨i,hd,ao,j,ha,hj,rfl⟩
 ·rintro ⟨i,hd,ao,j,ha,hj,rfl⟩;exact ⟨i,(E7b.1 ha).1,hd,j,⟨ao,ha,hj⟩,rfl⟩
def HD(F:A9)(u:Nat->Bool)(L:Nat):A9:=(E7H L).map λid=>if u id=A5 then A7 else rd F id
def K8(F:A9)(u:Nat->Bool)(L:Nat):(HD F u L).length=L:=by simp [HD]
def A0z(F:A9)(u:Nat->Bool)(L id:Nat):rd (HD F u L) id=if id<L/\u id=A6 then rd F id else A7:=by
 unfold HD
 conv=>lhs;unfold rd
 rw [List.getElem?_map];by_cases h:id<L
 ·rw [List.getElem?_range h];cases hu:u id
  ·simp [h,hu];rfl
  ·simp [h,hu]
 ·rw [E7z (by simp;omega)];simp [h]
def A2l{h h':A9}(hl:h.length=h'.length)(hr:∀ id,id<h.length->rd h id=rd h' id):h=h':=by
 apply List.ext_getElem hl;intro i h1 h2;have:=hr i h1;unfold rd at this;rw [E64 h1,E64 h2] at this;simpa using this
structure Sim(J:Ctx)(l:List AOper)(n0 N:Nat)(e:Env)(es:Nat->Env)(hs:Nat->A9)(vs:Nat->Val)(μ0:Mu)(done:Nat->Bool)(q:Nat)(U:Mu)(a:Act)(w:World):Prop where
 qle:q<=l.length
 calls:∀ (i:Nat) ao,l[i]?=A4 ao->bA ao.op=A5->(done i=A5↔i<q)
 envD:∀ (i:Nat) ao d,l[i]?=A4 ao->done i=A5->ao.dst=A4 d->RV U (vs i) (a.tmps.getD d undef)
 envO:∀ t,(∀ (i:Nat) ao,l[i]?=A4 ao->done i=A5->ao.dst≠A4 t)->RV U (e.get t) (a.tmps.getD t undef)
 inv:Inv J U (HD (hs l.length) (und l n0 done) (hs q).length) w
 free:∀ id,und l n0 done id=A5 -> U id=A7
 le:μ0.le U
 keep:∀ id,id<n0 -> U id = μ0 id
 size:N<=a.tmps.size
 defers:a.defers = J.ds
end
def Env.get_keep_mem(e:Env)(l:List Nat)(t:Nat):(e.keep l).get t=if t∈l then e.get t else .un:=by
 induction l with
 | nil=>rfl
 | cons x r ih =>
  simp only [Env.keep,Env.get];by_cases h:x=t
  ·subst h;simp
  ·have:Nat.beq x t=A6:=by cases hb:Nat.beq x t with
    | false=>rfl
    | true=>exact absurd (Nat.eq_of_beq_eq_true hb) h
   rw [this,cond_false,ih];have h':t≠x:=Ne.symm h;simp [h']
section
variable {P:Program} {N m:Nat} {ops:Array Oper} {l r:List AOper} {E:L7} {hr:A9} {e:Env} {es:Nat->Env} {hs:Nat->A9} {vs:Nat->Val} {J:Ctx} {μ0:Mu}
def vK(D:DrawOk P N ops m l r)(ht:Trace E hr hr.length l es hs vs){j t:Nat}{aj:AOper}(sE:l[j]?=A4 aj)(hd:aj.dst=A4 t):∀ k,j<k->k<=l.length->(es k).get t=vs j:=by
 intro k
 induction k with
 | zero=>intro h;omega
 | succ k ih =>
  intro hjk hk;rw [ht.env k l[k] (E64 (by omega))];by_cases e:j=k
  ·subst e;have:l[j]=aj:=by have h2:=E64 (l:=l) (i:=j) (by omega);rw [sE] at h2;cases h2;rfl
   rw [this,hd];exact Env.get_put_same _ _ _
  ·have Z2:=(D.apart j k aj l[k] sE (E64 (by omega)) e).1 t hd;cases hdk:l[k].dst with
   | none=>exact ih (by omega) (by omega)
   | some d =>
    rw [hdk] at Z2;rw [Env.get_put_other _ _ _ _ (by intro h;subst h;exact Z2 rfl)];exact ih (by omega) (by omega)
def A2e(ht:Trace E hr hr.length l es hs vs)(he:es 0=e){t:Nat}:∀ k,k<=l.length->(∀ (j:Nat) aj,j<k->l[j]?=A4 aj->aj.dst≠A4 t)->(es k).get t=e.get t:=by
 intro k
 induction k with
 | zero=>intro _ _;rw [he]
 | succ k ih =>
  intro hk X5;rw [ht.env k l[k] (E64 (by omega))];have Z2:=X5 k l[k] (by omega) (E64 (by omega));cases hdk:l[k].dst with
  | none=>exact ih (by omega) λj aj hj=>X5 j aj (by omega)
  | some d =>
   rw [hdk] at Z2;rw [Env.get_put_other _ _ _ _ (by intro h;subst h;exact Z2 rfl)];exact ih (by omega) λj aj hj=>X5 j aj (by omega)
def sP(done:Nat->Bool)(i:Nat):Nat->Bool:=λk=>decide (k=i)||done k
def A0W(done:Nat->Bool)(i:Nat):sP done i i=A5:=by simp [sP]
def bI(done:Nat->Bool)(i:Nat){k:Nat}(h:k≠i):sP done i k=done k:=by simp [sP,h]
def E3f(D:DrawOk P N ops m l r)(ht:Trace E hr hr.length l es hs vs)(he:es 0=e){done:Nat->Bool}{q:Nat}{U:Mu}{a:Act}{w:World}
  (S:Sim J l hr.length N e es hs vs μ0 done q U a w) {i:Nat} {ao:AOper} (ha:l[i]?=A4 ao) (hnd:done i=A6) (hah:∀ b,((T4 ops).getD i 0).testBit b=A5->done b=A5) (nF:∀ j,done j=A5->∀ b,((T4 ops).getD j 0).testBit b=A5->done b=A5):SEnv U ((es i).keep ao.reads) a:=by
 intro t;rw [Env.get_keep_mem];split
 ·rename_i iZ;have K6:i<l.length:=(E7b.1 ha).1;by_cases hw:∃ (j:Nat) (aj:AOper),l[j]?=A4 aj/\aj.dst=A4 t
  ·obtain ⟨j,aj,sE,hd⟩:=hw;rcases D.reads i j ao aj t ha sE hd iZ with ⟨h1,h2⟩ | ⟨h1,h2⟩
   ·rw [vK D ht sE hd i h2 (by omega)];exact S.envD j aj t sE (hah j h1) hd
   ·have hnj:done j=A6:=by
     cases hdj:done j with
     | false=>rfl
     | true=>rw [nF j hdj i h1] at hnd;cases hnd
    have E3E:∀ (k:Nat) (ak:AOper),l[k]?=A4 ak->ak.dst=A4 t->k=j:=λk ak uQ hk=>by
     by_cases e:k=j
     ·exact e
     ·exact absurd hd ((D.apart k j ak aj uQ sE e).1 t hk)
    rw [A2e ht he i (by omega) λk ak hk uQ hkd=>by have:=E3E k ak uQ hkd;omega];exact S.envO t λk ak uQ hk hkd=>by rw [E3E k ak uQ hkd,hnj] at hk;cases hk
  ·have X5:∀ (j:Nat) (aj:AOper),l[j]?=A4 aj->aj.dst≠A4 t:=λj aj sE hd=>hw ⟨j,aj,sE,hd⟩
   rw [A2e ht he i (by omega) λj aj _ sE=>X5 j aj sE];exact S.envO t λj aj sE _=>X5 j aj sE
 ·trivial
def D0u{n0 i id:Nat}(h:id<n0):¬ A5R l n0 i id:=by
 rintro ⟨ao,j,_,_,rfl⟩;omega
def oM(D:DrawOk P N ops m l r)(ht:Trace E hr hr.length l es hs vs)(h0:hs 0=hr++E68 m A7){k:Nat}(hk:k<=l.length):hr.length+m<=(hs k).length:=by
 have:=B4B D.quiet ht k 0 (by omega);rw [h0] at this;simp at this;omega
def D15(D:DrawOk P N ops m l r){n0 i id:Nat}(h:A5R l n0 i id):id<n0+m:=by
 obtain ⟨ao,j,ha,hj,rfl⟩:=h;have:=(D.quiet i ao ha).2.2 j hj;omega
def C7P(D:DrawOk P N ops m l r){n0 i k id:Nat}(h:A5R l n0 i id)(h2:A5R l n0 k id):i=k:=by
 obtain ⟨ao,j,ha,hj,rfl⟩:=h;obtain ⟨ao',j',ha',hj',he⟩:=h2;by_cases e:i=k
 ·exact e
 ·have:j=j':=by omega
  subst this;exact absurd hj' ((D.apart i k ao ao' ha ha' e).2 j hj)
def D4J(D:DrawOk P N ops m l r)(ht:Trace E hr hr.length l es hs vs)(h0:hs 0=hr++E68 m A7){done:Nat->Bool}{q:Nat}{U:Mu}{a:Act}{w:World}
  (S:Sim J l hr.length N e es hs vs μ0 done q U a w) {i:Nat} {ao:AOper} (ha:l[i]?=A4 ao) (hnd:done i=A6) {V:Value} {w':World} {U':Mu} {q':Nat} {dst:Option Nat} (A3T:dst=ao.dst) (E4e:A2P N dst=A5)
  (mE:U.le U') (hv:RV U' (vs i) V) (hinv:Inv J U' (HD (hs l.length) (und l hr.length (sP done i)) (hs q').length) w') (Z6:Keeps U U' (HD (hs l.length) (und l hr.length done) (hs q).length) hr.length ao.slot)
  (hq':q'<=l.length) (E4a:∀ (k:Nat) ak,l[k]?=A4 ak->bA ak.op=A5->(sP done i k=A5↔k<q')):Sim J l hr.length N e es hs vs μ0 (sP done i) q' U' (a.put dst V) w':=by
 have zV:∀ t,dst≠A4 t->(a.put dst V).tmps.getD t undef=a.tmps.getD t undef:=by
  intro t h;cases hd:dst with
  | none=>rfl
  | some d =>
   rw [hd] at h;simp [Act.put,Array.getElem?_setIfInBounds_ne (show d≠t from λe=>h (by rw [e]))]
 refine ⟨hq',E4a,?_,?_,hinv,?_,Mu.le_trans S.le mE,?_,by rw [Act.size_put];exact S.size,?_⟩
 ·intro k ak d uQ hdk hd;by_cases e:k=i
  ·subst e;rw [ha] at uQ;cases uQ;rw [A3T,hd];have X4:d<a.tmps.size:=by
    rw [A3T,hd] at E4e;simp [A2P] at E4e;exact Nat.lt_of_lt_of_le E4e S.size
   have:(a.put (A4 d) V).tmps.getD d undef=V:=by simp [Act.put,Array.getD,X4]
   rw [this];exact hv
  ·rw [bI _ _ e] at hdk;rw [zV d (by rw [A3T];exact λh=>(D.apart i k ao ak ha uQ (Ne.symm e)).1 d h hd)];exact (S.envD k ak d uQ hdk hd).mono mE
 ·intro t X5;have h1:=X5 i ao ha (A0W _ _);rw [zV t (by rw [A3T];exact h1)];refine (S.envO t λk ak uQ hdk=>?_).mono mE;by_cases e:k=i
  ·subst e;rw [hnd] at hdk;cases hdk
  ·exact X5 k ak uQ (by rw [bI _ _ e];exact hdk)
 ·intro id hid;obtain ⟨k,hk,ho⟩:=bM.1 hid;have e:k≠i:=by intro e;subst e;rw [A0W] at hk;cases hk
  rw [bI _ _ e] at hk;have h1:=S.free id (bM.2 ⟨k,hk,ho⟩);rw [<-h1];refine Z6 id (by rw [K8];have:=oM D ht h0 S.qle;have:=D15 D ho;omega) λj hj he=>e ?_
  exact C7P D ho ⟨ao,j,ha,hj,he⟩
 ·intro id hid;rw [<-S.keep id hid];exact Z6 id (by rw [K8];have:=oM D ht h0 S.qle;omega) λj hj he=>by omega
 ·have:∀ d:Option Nat,(a.put d V).defers=a.defers:=λd=>by cases d<;>rfl
  rw [this];exact S.defers
def C0K(D:DrawOk P N ops m l r){n0 i id:Nat}{done:Nat->Bool}(h:¬ A5R l n0 i id):und l n0 (sP done i) id=und l n0 done id:=by
 rw [Bool.eq_iff_iff,bM,bM];constructor
 ·rintro ⟨k,hk,ho⟩;have e:k≠i:=by intro e;subst e;exact h ho
  exact ⟨k,by rw [bI _ _ e] at hk;exact hk,ho⟩
 ·rintro ⟨k,hk,ho⟩;have e:k≠i:=by intro e;subst e;exact h ho
  exact ⟨k,by rw [bI _ _ e];exact hk,ho⟩
def D7G(D:DrawOk P N ops m l r){n0 i id:Nat}{done:Nat->Bool}(h:A5R l n0 i id):und l n0 (sP done i) id=A6:=by
 cases hu:und l n0 (sP done i) id with
 | false=>rfl
 | true =>
  obtain ⟨k,hk,ho⟩:=bM.1 hu;have e:=C7P D ho h;subst e;rw [A0W] at hk;cases hk
def E4R(D:DrawOk P N ops m l r)(ht:Trace E hr hr.length l es hs vs)(h0:hs 0=hr++E68 m A7){done:Nat->Bool}{q:Nat}(hq:q<=l.length)(id:Nat)(x:Row)(hx:rd hr id=A4 x) :
  rd (HD (hs l.length) (und l hr.length done) (hs q).length) id=A4 x:=by
 have X4:=E5 hx;have hu:und l hr.length done id=A6:=by
  cases hu:und l hr.length done id with
  | false=>rfl
  | true=>obtain ⟨k,_,ho⟩:=bM.1 hu;exact absurd ho (D0u X4)
 rw [A0z,if_pos ⟨by have:=oM D ht h0 hq;omega,hu⟩];have:=tC D ht (k:=0) (id:=id) (by rw [h0];simp;omega) (λi _=>D0u X4) l.length (by omega);rw [E7o] at this;rw [this,h0,D5 X4];exact hx
def E1E(D:DrawOk P N ops m l r)(ht:Trace E hr hr.length l es hs vs)(h0:hs 0=hr++E68 m A7){done:Nat->Bool}{q:Nat}{U:Mu}{a:Act}{w:World}
  (S:Sim J l hr.length N e es hs vs μ0 done q U a w) {i:Nat} {ao:AOper} (ha:l[i]?=A4 ao) (hnd:done i=A6):A0T U (HD (hs l.length) (und l hr.length done) (hs q).length) hr.length ao.slot:=by
 cases hsl:ao.slot with
 | none=>trivial
 | some j =>
  refine ⟨S.free _ (bM.2 ⟨i,hnd,ao,j,ha,hsl,rfl⟩),?_⟩;rw [K8];have:=oM D ht h0 S.qle;have:=(D.quiet i ao ha).2.2 j hsl;omega
def A2t(D:DrawOk P N ops m l r)(ht:Trace E hr hr.length l es hs vs){q:Nat}:∀ t,q+t<=l.length->(∀ (k:Nat) ak,q<=k->k<q+t->l[k]?=A4 ak->bA ak.op=A6)->(hs (q+t)).length=(hs q).length
 | 0,_,_=>rfl
 | t+1,hl,X5=>by
  have ih:=A2t D ht (q:=q) t (by omega) λk ak h1 h2=>X5 k ak h1 (by omega)
  rw [<-ih];have hk:q+t<l.length:=by omega
  rcases A9L D.quiet ht (E64 hk) with ⟨h,_,_⟩ | ⟨_,h | ⟨j,row,_,h⟩⟩
  ·have:=X5 (q+t) l[q+t] (by omega) (by omega) (E64 hk);rw [h] at this;cases this
  ·show (hs (q+t+1)).length=_;rw [h]
  ·show (hs (q+t+1)).length=_;rw [h];simp
def E3h(D:DrawOk P N ops m l r)(ht:Trace E hr hr.length l es hs vs)(h0:hs 0=hr++E68 m A7){done:Nat->Bool}{q:Nat}{U:Mu}{a:Act}{w:World}
  (S:Sim J l hr.length N e es hs vs μ0 done q U a w) {i:Nat} {ao:AOper} (ha:l[i]?=A4 ao) (hah:∀ b,((T4 ops).getD i 0).testBit b=A5->done b=A5) (hl:bA ao.op=A5\/A5w ao.op=A5) :
  ∀ id x,rd (hs i) id=A4 x->rd (HD (hs l.length) (und l hr.length done) (hs q).length) id=A4 x:=by
 have K6:i<l.length:=(E7b.1 ha).1;have hql:=S.qle;have hlen:(hs i).length<=(hs q).length:=by
  by_cases hiq:i<=q
  ·have:=B4B D.quiet ht (q-i) i (by omega)
   rwa [show i+(q-i)=q by omega] at this
  ·have:=A2t D ht (q:=q) (i-q) (by omega) λk ak h1 h2 uQ=>by
    cases hck:bA ak.op with
    | false=>rfl
    | true =>
     have h3:=hah k (D.calls i k ao ak ha uQ hl (by omega) (.inl hck));have:=(S.calls k ak uQ hck).1 h3;omega
   rw [show q+(i-q)=i by omega] at this;omega
 intro id x hx;have A5t:∀ k,i<=k->¬ A5R l hr.length k id:=λk hk ho'=>by
  have:=A9K D ht h0 ho' i hk;rw [this] at hx;cases hx
 have hu:und l hr.length done id=A6:=by
  cases hu:und l hr.length done id with
  | false=>rfl
  | true =>
   obtain ⟨k,hk,ho'⟩:=bM.1 hu;by_cases e1:i<=k
   ·exact absurd ho' (A5t k e1)
   ·obtain ⟨ak,j,uQ,hj,_⟩:=ho';have hsk:aK ak.op=A5:=by have:=(D.quiet k ak uQ).2.1;rw [hj] at this;exact this
    have:=hah k (D.calls i k ao ak ha uQ hl (by omega) (.inr hsk));rw [hk] at this;cases this
 rw [A0z,if_pos ⟨by have:=E5 hx;omega,hu⟩];have:=tC D ht (E5 hx) A5t (l.length-i) (by omega);rw [show i+(l.length-i)=l.length by omega] at this;rw [this];exact hx
def E3g(D:DrawOk P N ops m l r)(ht:Trace E hr hr.length l es hs vs)(h0:hs 0=hr++E68 m A7){done:Nat->Bool}{q:Nat}{U:Mu}{a:Act}{w:World}
  (S:Sim J l hr.length N e es hs vs μ0 done q U a w) {i j:Nat} {ao:AOper} (ha:l[i]?=A4 ao) (hah:∀ b,((T4 ops).getD i 0).testBit b=A5->done b=A5) (A2n:C0q ao.op=A4 j) :
  ∀ x,rd (hs i) (hr.length+j)=A4 x->rd (HD (hs l.length) (und l hr.length done) (hs q).length) (hr.length+j)=A4 x:=by
 have K6:i<l.length:=(E7b.1 ha).1;have hql:=S.qle;intro x hx;obtain ⟨k,ak,uQ,hsk,E58⟩:=D.own i ao j ha A2n;have hO:A5R l hr.length k (hr.length+j):=⟨ak,j,uQ,hsk,rfl⟩;have hdk:=hah k E58;have A5t:∀ k',i<=k'->¬ A5R l hr.length k' (hr.length+j):=λk' hk' ho'=>by
  have:=A9K D ht h0 ho' i hk';rw [this] at hx;cases hx
 have hu:und l hr.length done (hr.length+j)=A6:=by
  cases hu:und l hr.length done (hr.length+j) with
  | false=>rfl
  | true =>
   obtain ⟨k',hk',ho'⟩:=bM.1 hu;have:=C7P D ho' hO;subst this;rw [hk'] at hdk;cases hdk
 rw [A0z,if_pos ⟨by have:=oM D ht h0 S.qle;have:=D15 D hO;omega,hu⟩];have:=tC D ht (E5 hx) A5t (l.length-i) (by omega);rw [show i+(l.length-i)=l.length by omega] at this;rw [this];exact hx
open Classical in
def D4K(D:DrawOk P N ops m l r)(hE:jF P E)(ht:Trace E hr hr.length l es hs vs)(h0:hs 0=hr++E68 m A7)(he:es 0=e){done:Nat->Bool}{q:Nat}{U:Mu}{a:Act}{w:World}
  (S:Sim J l hr.length N e es hs vs μ0 done q U a w) {i:Nat} {ao:AOper} {o:Oper} (ha:l[i]?=A4 ao) (ho:ops[i]?=A4 o) (hnd:done i=A6)
  (hah:∀ b,((T4 ops).getD i 0).testBit b=A5->done b=A5) (nF:∀ j,done j=A5->∀ b,((T4 ops).getD j 0).testBit b=A5->done b=A5)
  {next:Act->World->Prop} {Q:Exit->Act->World->Prop} (hn:∀ V w' U' q',Sim J l hr.length N e es hs vs μ0 (sP done i) q' U' (a.put o.dst V) w'->next (a.put o.dst V) w') :
  if Region.wanted o (yielded ops a.tmps) then o.wp P a w next Q\/(o.asks P a w/\LetsOut Q) else next (a.put o.dst undef) w:=by
 have K6:i<l.length:=(E7b.1 ha).1;have hco:cA P N ops o ao=A5:=D.oper i o ao ho (by rw [E7T K6];exact ha);have A3T:o.dst=ao.dst/\A2P N o.dst=A5:=by
  simp only [cA,E66,decide_eq_true_eq] at hco;exact ⟨hco.1.1.1,hco.1.1.2⟩
 have C86:=E3f D ht he S ha hnd hah nF;have hrd:=E4R D ht h0 (done:=done) S.qle;have D3E:=E1E D ht h0 S ha hnd;have pB:=ht.step i ao ha;have E3y:∀ (E:L7) (h:A9),aT E A5 hr hr.length ao (es i) h (λv h=>A4 (v,h))=aT E A5 hr hr.length ao ((es i).keep ao.reads) h λv h=>A4 (v,h) :=
  λE h=>C1Q λt ht'=>by rw [Env.get_keep_mem,if_pos ht']
 have hqi:=D.quiet i ao ha;have E6O:=oM D ht h0 S.qle;cases hc:bA ao.op with
 | false =>
  have key:∃ h2,aT E A5 hr hr.length ao (es i) (HD (hs l.length) (und l hr.length done) (hs q).length) (λv h=>A4 (v,h))=A4 (vs i,h2)/\h2=HD (hs l.length) (und l hr.length (sP done i)) (hs q).length:=by
   have C3G:hs (i+1)=hs i->HD (hs l.length) (und l hr.length done) (hs q).length=HD (hs l.length) (und l hr.length (sP done i)) (hs q).length:=by
    intro hsame;refine A2l (by rw [K8,K8]) λid hid=>?_
    rw [K8] at hid;rw [A0z,A0z];by_cases A2n:A5R l hr.length i id
    ·rw [D7G D A2n,bM.2 ⟨i,hnd,A2n⟩];have h1:=A9K D ht h0 A2n i (E69 _);have h2:=tC D ht (k:=i+1) (id:=id) (by rw [hsame];have:=oM D ht h0 (k:=i) (by omega);have:=D15 D A2n;omega)
      (λk hk ho'=>by have:=C7P D ho' A2n;omega) (l.length-(i+1)) (by omega)
     rw [show i+1+(l.length-(i+1))=l.length by omega,hsame,h1] at h2;simp [h2]
    ·rw [C0K D A2n]
   have B07:∀ v h3,aop E A5 hr hr.length ao.slot ao.op (es i) (hs i) (λv h=>A4 (v,h))=A4 (v,h3)->h3=hs (i+1) ->
     ∃ h2,aop E A5 hr hr.length ao.slot ao.op (es i) (HD (hs l.length) (und l hr.length done) (hs q).length) (λv h=>A4 (v,h))=A4 (v,h2)/\h2=HD (hs l.length) (und l hr.length (sP done i)) (hs q).length:=by
    intro v h3 B07 he3;subst he3;cases hsl:aK ao.op with
    | false =>
     cases hmk:A5w ao.op with
     | false =>
      cases A2n:C0q ao.op with
      | none =>
       obtain ⟨h4,h5⟩:=C9I hqi.1 hmk A2n hc hsl B07;exact ⟨_,h5 _,C3G h4⟩
      | some j =>
       obtain ⟨h4,h5⟩:=D6O A2n B07;exact ⟨_,h5 _ (E3g D ht h0 S ha hah A2n),C3G h4⟩
     | true =>
      obtain ⟨h4,h5⟩:=D2H hmk B07;exact ⟨_,h5 _ (E3h D ht h0 S ha hah (.inr hmk)),C3G h4⟩
    | true =>
     have h6:=hqi.2.1;rw [hsl] at h6;obtain ⟨j,hj⟩:=Option.isSome_iff_exists.1 h6.symm;rw [hj] at B07 ⊢;obtain ⟨row,h7,h8⟩:=D2I hsl B07;refine ⟨_,h8 _,?_⟩;have A2n:A5R l hr.length i (hr.length+j):=⟨ao,j,ha,hj,rfl⟩;have hjm:=hqi.2.2 j hj;have hbi:=oM D ht h0 (k:=i) (by omega);refine A2l (by rw [E7R,K8,K8]) λid hid=>?_
     rw [E7R,K8] at hid;by_cases e1:hr.length+j=id
     ·subst e1;rw [E1 (by rw [K8];omega),A0z,if_pos ⟨by omega,D7G D A2n⟩];have h9:=tC D ht (k:=i+1) (id:=hr.length+j) (by rw [h7];simp;omega) (λk hk ho'=>by have:=C7P D ho' A2n;omega) (l.length-(i+1)) (by omega);rw [show i+1+(l.length-(i+1))=l.length by omega,h7,E1 (by omega)] at h9;exact h9.symm
     ·rw [B7 e1,A0z,A0z,C0K D];rintro ⟨ao',j',h10,h11,h12⟩;rw [ha] at h10;cases h10;rw [hj] at h11;cases h11;exact e1 h12.symm
   unfold aT at pB ⊢;cases hgu:ao.guard with
   | none=>rw [hgu] at pB;exact B07 _ _ pB rfl
   | some g =>
    rw [hgu] at pB;simp only [E65,E7a] at pB;obtain ⟨⟨v',h3⟩,hp,hpe⟩:=pB;simp only [E7h] at hpe;obtain ⟨hv',hh3⟩:=hpe;unfold gd at hp ⊢;split at hp
    ·rename_i x sY;simp only [sY];cases hx:(x==g.2) with
     | true =>
      rw [hx] at hp;obtain ⟨h2,h4,h5⟩:=B07 _ _ hp hh3;exact ⟨h2,by rw [cond_true,h4];simp [hv'],h5⟩
     | false =>
      rw [hx] at hp;simp only [cond_false,E7a,E7h] at hp;refine ⟨_,by rw [cond_false];simp [<-hv',<-hp.1],C3G ?_⟩;rw [<-hh3];exact hp.2.symm
    ·rename_i sY;simp only [sY];simp only [E7a,E7h] at hp;refine ⟨_,by simp [<-hv',<-hp.1],C3G ?_⟩;rw [<-hh3];exact hp.2.symm
    ·cases hp
  obtain ⟨h2,hk1,hk2⟩:=key;rw [E3y] at hk1;refine A84 hE hco hk1 C86 S.inv hrd D3E ?_;intro V w' U' mE hv hinv Z6;subst hk2;refine hn V w' U' q (D4J D ht h0 S ha hnd A3T.1 A3T.2 mE hv hinv Z6 S.qle ?_);intro k ak uQ hck;have e1:k≠i:=by intro e1;subst e1;rw [ha] at uQ;cases uQ;rw [hc] at hck;cases hck
  rw [bI _ _ e1];exact S.calls k ak uQ hck
 | true =>
  have hsn:ao.slot=A7:=by
   rcases A9L D.quiet ht ha with ⟨_,h,_⟩ | ⟨h,_⟩
   ·exact h
   ·rw [hc] at h;cases h
  have E63:q<=i:=by
   have:=S.calls i ao ha hc;rw [hnd] at this;have:¬ i<q:=λh=>by have:=this.2 h;cases this
   omega
  have hlen:(hs i).length=(hs q).length:=by
   have:=A2t D ht (q:=q) (i-q) (by omega) λk ak h1 h2 uQ=>by
    cases hck:bA ak.op with
    | false=>rfl
    | true =>
     have h3:=hah k (D.calls i k ao ak ha uQ (.inl hc) (by omega) (.inl hck));have:=(S.calls k ak uQ hck).1 h3;omega
   rwa [show q+(i-q)=i by omega] at this
  have E0D:∀ id,¬ A5R l hr.length i id:=by
   rintro id ⟨ao',j,h1,h2,_⟩;rw [ha] at h1;cases h1;rw [hsn] at h2;cases h2
  have E2z:∀ (k:Nat) ak,l[k]?=A4 ak->bA ak.op=A5->(sP done i k=A5↔k<i+1):=by
   intro k ak uQ hck;by_cases e1:k=i
   ·subst e1;simp [A0W]
   ·rw [bI _ _ e1];constructor
    ·intro hk;have:¬ i<k:=λh=>by
      have h2:=nF k hk i (D.calls k i ak ao uQ ha (.inl hck) h (.inl hc));rw [hnd] at h2;cases h2
     omega
    ·intro hk;exact hah k (D.calls i k ao ak ha uQ (.inl hc) (by omega) (.inl hck))
  have E6S:=D4R D.quiet ht K6;have C3G:hs (i+1)=hs i->HD (hs l.length) (und l hr.length done) (hs q).length=HD (hs l.length) (und l hr.length (sP done i)) (hs (i+1)).length:=by
   intro hsame;rw [hsame,hlen];refine A2l (by rw [K8,K8]) λid hid=>?_
   rw [A0z,A0z,C0K D (E0D id)]
  have B07:∀ (g:Nat) (args:List Val),quiet (hs i) (E g args (hs i))=A4 (vs i,hs (i+1)) ->
    ∃ E':L7,jF P E'/\quiet (HD (hs l.length) (und l hr.length done) (hs q).length) (E' g args (HD (hs l.length) (und l hr.length done) (hs q).length))=A4 (vs i,HD (hs l.length) (und l hr.length (sP done i)) (hs (i+1)).length):=by
   intro g args D3v;obtain ⟨h1,h2⟩:=B8c D3v;obtain ⟨hg,hk,_⟩:=hE _ _ _ _ _ h1;have A2o:∀ id x,rd (hs i) id=A4 x->rd (HD (hs l.length) (und l hr.length done) (hs q).length) id=A4 x:=by
    intro id x hx;have A5t:∀ k,i<=k->¬ A5R l hr.length k id:=λk hk ho'=>by
     have:=A9K D ht h0 ho' i hk;rw [this] at hx;cases hx
    have hu:und l hr.length done id=A6:=by
     cases hu:und l hr.length done id with
     | false=>rfl
     | true =>
      obtain ⟨k,hk,ho'⟩:=bM.1 hu;by_cases e1:i<=k
      ·exact absurd ho' (A5t k e1)
      ·obtain ⟨ak,j,uQ,hj,_⟩:=ho';have hsk:aK ak.op=A5:=by have:=(D.quiet k ak uQ).2.1;rw [hj] at this;exact this
       have:=hah k (D.calls i k ao ak ha uQ (.inl hc) (by omega) (.inr hsk));rw [hk] at this;cases this
    rw [A0z,if_pos ⟨by have:=E5 hx;omega,hu⟩];have:=tC D ht (E5 hx) A5t (l.length-i) (by omega);rw [show i+(l.length-i)=l.length by omega] at this;rw [this];exact hx
   have hfr:=hk.frame h2 (hD:=HD (hs l.length) (und l hr.length done) (hs q).length) (by rw [K8,hlen]) A2o;have sY:HD (hs l.length) (und l hr.length done) (hs q).length++(hs (i+1)).drop (hs i).length=HD (hs l.length) (und l hr.length (sP done i)) (hs (i+1)).length:=by
    refine A2l (by rw [E7c,K8,K8,List.length_drop];omega) λid hid=>?_
    rw [B4O (by rw [K8,hlen])];split
    ·rw [A0z,A0z,C0K D (E0D id)];have:id<(hs q).length:=by omega
     have:id<(hs (i+1)).length:=by omega
     simp [*]
    ·rename_i hge;have hbi:=oM D ht h0 (k:=i) (by omega);have X5:∀ k,¬ A5R l hr.length k id:=λk ho'=>by have:=D15 D ho';omega
     have hu:und l hr.length (sP done i) id=A6:=by
      cases hu:und l hr.length (sP done i) id with
      | false=>rfl
      | true=>obtain ⟨k,_,ho'⟩:=bM.1 hu;exact absurd ho' (X5 k)
     have X4:id<(hs (i+1)).length:=by
      rw [E7c,K8,List.length_drop] at hid;omega
     rw [A0z,if_pos ⟨X4,hu⟩];have:=tC D ht X4 (λk _=>X5 k) (l.length-(i+1)) (by omega);rw [show i+1+(l.length-(i+1))=l.length by omega] at this;exact this.symm
   rw [sY] at hfr;have hgr:Grows (HD (hs l.length) (und l hr.length done) (hs q).length) (HD (hs l.length) (und l hr.length (sP done i)) (hs (i+1)).length):=by
    rw [<-sY];refine ⟨List.prefix_append _ _,λid x hid hx=>?_⟩;rw [K8] at hid;rw [B4O (by rw [K8,hlen]),if_neg (by omega)] at hx;exact h2.2 id x (by omega) hx
   refine ⟨λf' a' h'=>if f'=g/\a'=args/\h'=HD (hs l.length) (und l hr.length done) (hs q).length then A4 (vs i,HD (hs l.length) (und l hr.length (sP done i)) (hs (i+1)).length) else A7,?_,?_⟩
   ·intro f' a' h' v' h'' hv';simp only at hv';split at hv'
    ·rename_i A5s;obtain ⟨rfl,rfl,rfl⟩:=A5s;cases hv';exact ⟨hg,hfr,by rw [K8,K8];omega⟩
    ·cases hv'
   ·exact (congrArg (quiet _) (if_pos ⟨rfl,rfl,rfl⟩)).trans (quiet_of hgr)
  have key:∃ E':L7,jF P E'/\aT E' A5 hr hr.length ao (es i) (HD (hs l.length) (und l hr.length done) (hs q).length) (λv h=>A4 (v,h))=A4 (vs i,HD (hs l.length) (und l hr.length (sP done i)) (hs (i+1)).length):=by
   have hop:∀ v h3,aop E A5 hr hr.length ao.slot ao.op (es i) (hs i) (λv h=>A4 (v,h))=A4 (v,h3)->v=vs i->h3=hs (i+1) ->
     ∃ E':L7,jF P E'/\aop E' A5 hr hr.length ao.slot ao.op (es i) (HD (hs l.length) (und l hr.length done) (hs q).length) (λv h=>A4 (v,h))=A4 (vs i,HD (hs l.length) (und l hr.length (sP done i)) (hs (i+1)).length):=by
    intro v h3 hr1 hv1 he3;subst hv1 he3;cases E6t:ao.op<;>rw [E6t] at hc hr1<;>simp [bA] at hc
    case call f args =>
     simp only [aop,cond_true,E65,E7a] at hr1;obtain ⟨⟨v',h4⟩,hp,hpe⟩:=hr1;cases hpe;obtain ⟨E',h5,h6⟩:=B07 f _ hp;exact ⟨E',h5,by simp only [aop,cond_true];rw [h6];rfl⟩
    case callV f args =>
     simp only [aop,cond_true,E65,E7a] at hr1;obtain ⟨⟨v',h4⟩,hp,hpe⟩:=hr1;cases hpe;unfold aV at hp;split at hp
     ·rename_i g caps sY;obtain ⟨E',h5,h6⟩:=B07 g _ hp;refine ⟨E',h5,?_⟩;simp only [aop,cond_true];unfold aV;rw [sY];simp only;rw [h6];rfl
     ·rename_i g id off sY;obtain ⟨E',h5,h6⟩:=B07 g _ hp;refine ⟨E',h5,?_⟩;simp only [aop,cond_true];unfold aV;rw [sY];simp only;rw [h6];rfl
     ·simp [quiet] at hp
   unfold aT at pB ⊢;cases hgu:ao.guard with
   | none=>rw [hgu] at pB;exact hop _ _ pB rfl rfl
   | some g =>
    rw [hgu] at pB;simp only [E65,E7a] at pB;obtain ⟨⟨v',h3⟩,hp,hpe⟩:=pB;simp only [E7h] at hpe;obtain ⟨hv',hh3⟩:=hpe;unfold gd at hp ⊢;split at hp
    ·rename_i x sY;simp only [sY];cases hx:(x==g.2) with
     | true =>
      rw [hx] at hp;obtain ⟨E',h2,h4⟩:=hop _ _ hp hv' hh3;exact ⟨E',h2,by rw [cond_true,h4];rfl⟩
     | false =>
      rw [hx] at hp;simp only [cond_false,E7a,E7h] at hp;refine ⟨E,hE,?_⟩;rw [cond_false,<-C3G (by rw [<-hh3];exact hp.2.symm)];simp [<-hv',<-hp.1]
    ·rename_i sY;simp only [sY];simp only [E7a,E7h] at hp;refine ⟨E,hE,?_⟩;rw [<-C3G (by rw [<-hh3];exact hp.2.symm)];simp [<-hv',<-hp.1]
    ·cases hp
  obtain ⟨E',hE',hk1⟩:=key;rw [E3y] at hk1;refine A84 hE' hco hk1 C86 S.inv hrd D3E ?_;intro V w' U' mE hv hinv Z6;exact hn V w' U' (i+1) (D4J D ht h0 S ha hnd A3T.1 A3T.2 mE hv hinv Z6 (by omega) E2z)
end
end Go.Esc
