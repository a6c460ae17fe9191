/- What the proof of this claim leans on, part 1. -/
import Derived.ProofKit
import Derived.OpenShut
import Derived.Deep.Slices
import Derived.Carry
import Derived.ChangeCalls
import GoSem.Claims
import Derived.Calls
import Derived.Orders
import Derived.Laws.Cells
import Derived.Laws.IdiomCopy
import Derived.Laws.World
import Derived.Laws.Bits
import Derived.Laws.Strings
import Derived.IntWalk
import Derived.Laws.Append
import Derived.Laws.StructEq
import Derived.MapKept
import Derived.LoopN
import Derived.Defers
import Derived.KernelRfl
import Derived.Test.YtbipebfdappanaaGreatChecked
set_option linter.all false
namespace Go.Esc
end Go.Esc
set_option maxRecDepth 100000
open Go Go.Esc
noncomputable section
open List renaming length->l_,all_eq_true->E8O,append_nil->E8C,drop_drop->E9D,drop_eq_getElem_cons->E8s,drop_left'->E9C,drop_of_length_le->E8x,drop_zero->E8y,ext_getElem?->E9z,flatten_cons->E9v,getElem?_append_left->E88,getElem?_append_right->E8L,getElem?_eq_getElem->E8h,getElem?_eq_none->E8P,getElem?_eq_some_iff->E8p,getElem?_set_ne->E9r,getElem?_take_of_lt->E86,length_append->E8o,length_cons->E8w,length_drop->E9u,length_set->E80,length_take->E8Y,map_append->E9e,map_cons->E9c,mem_cons->E8J,mem_of_getElem?->E8H,range->E8T,range'->E8Q,replicate->E8l,replicate_succ->E81,take_of_length_le->E8B
open Bool renaming and_eq_true->E8j,false_or->E9h,not_eq_true'->E9b,false->A6,true->A5
open Nat renaming add_mul->E9E,le_refl->E8m,zero_add->E8A
open Option renaming bind_eq_some_iff->E8i,bind_some->E8z,map_eq_some_iff->E8G,none->A7,some->A4
open Option.some renaming injEq->E8n
open Prod.mk renaming injEq->E8v
namespace Go.Esc
section
inductive Cell where
 | b (x:Bool)
 | i (k:IntKind) (n:Int)
 | s (x:List UInt8)
 | p (id off:Nat)
 | np
 | sl (id off len sz:Nat)
 | ns
 | f (fn:Nat) (caps:List (Nat × Nat))
 | fb (fn:Nat) (id off:Nat)
 | nf
 | m (id:Nat)
 | nm
 | dark
 | mh
 | hk (agg:Bool) (x:Cell)
 | hx (x:Cell)
 deriving DecidableEq,Inhabited
inductive Part where
 | c (x:Cell)
 | a (l:List Cell)
 deriving Inhabited
inductive Val where
 | un
 | no
 | c (x:Cell)
 | a (l:List Cell)
 | t (l:List Part)
 deriving Inhabited
structure Row where
 cells:List Cell
 rw:Bool
 deriving Inhabited
abbrev A9:=List (Option Row)
abbrev Env:=List (Nat × Val)
def Env.get:Env->Nat->Val
 | [],_=>.un
 | (d,v)::r,t=>bif Nat.beq d t then v else Env.get r t
def Env.keep(e:Env):List Nat->Env
 | []=>[]
 | t::r=>(t,e.get t)::Env.keep e r
def Env.put(e:Env)(d:Option Nat)(v:Val):Env :=
 match d with
 | some d=>(d,v)::e
 | none=>e
inductive Opd where
 | t (n:Nat)
 | v (x:Val)
 deriving Inhabited
def Env.ev(e:Env):Opd->Val
 | .t n=>e.get n
 | .v x=>x
inductive Sh where
 | b
 | i (k:IntKind)
 | s
 deriving DecidableEq,Inhabited
def Cell.sh:Cell->Option Sh
 | .b _=>A4 .b
 | .i k _=>A4 (.i k)
 | .s _=>A4 .s
 | _=>A7
inductive AOp where
 | mv (x:Opd)
 | nilrow (sz:Nat)
 | pick (c a b:Opd)
 | alloc (zero:List Cell)
 | box (x:Opd)
 | build (zero:List Cell) (parts:List (Nat × Nat × Opd))
 | buildSl (sz len:Nat) (zero:List Cell) (parts:List (Nat × Nat × Opd))
 | load1 (a:Opd)
 | loadN (n:Nat) (a:Opd)
 | store1 (a x:Opd)
 | storeN (n:Nat) (a x:Opd)
 | bin (op:BinOp) (x y:Opd)
 | eqA (neg:Bool) (sh:List Sh) (x y:Opd)
 | eqB (neg:Bool) (x y:Opd)
 | eqN (fn neg:Bool) (x:Opd)
 | nilc (x:Opd)
 | un (op:UnOp) (x:Opd)
 | conv (k:IntKind) (x:Opd)
 | convS (x:Opd)
 | s2b (x:Opd)
 | b2s (x:Opd)
 | b2sN (own:Option Nat) (x:Opd)
 | mark (x:Opd)
 | mkf (fn:Nat) (caps:List Opd)
 | mkb (fn:Nat) (x:Opd)
 | mkSl (sz:Nat) (zero:List Cell) (len cap:Opd)
 | slS (x:Opd) (lo hi:Option Opd)
 | slL (sz:Nat) (x:Opd) (lo hi:Option Opd)
 | slA (n sz:Nat) (x:Opd) (lo hi:Option Opd)
 | fAddr (x:Opd) (off:Nat)
 | iAddrA (n sz:Nat) (x i:Opd)
 | iAddrL (sz:Nat) (x i:Opd)
 | fld1 (x:Opd) (off:Nat)
 | fldN (x:Opd) (off n:Nat)
 | idxA1 (n:Nat) (x i:Opd)
 | idxAN (n sz:Nat) (x i:Opd)
 | idxS (x i:Opd)
 | ext (x:Opd) (k:Nat)
 | call (f:Nat) (args:List Opd)
 | callV (f:Opd) (args:List Opd)
 | len (x:Opd)
 | lenS (x:Opd)
 | app (sz:Nat) (x y:Opd)
 | appZ (sz:Nat) (zero:List Cell) (x y:Opd)
 | max (x y:Opd)
 | min (x y:Opd)
 | copy (sz:Nat) (x y:Opd)
 | mkMap
 | look (kk:Option IntKind) (zero:Part) (ok:Bool) (m k:Opd)
 | mput (kk:Option IntKind) (m k x:Opd)
 | ment (kk:Option IntKind) (zero:Part) (m k:Opd)
 | mset (m s x:Opd)
 deriving Inhabited
structure AOper where
 dst:Option Nat
 op:AOp
 guard:Option (Nat × Bool):=A7
 slot:Option Nat:=A7
 deriving Inhabited
inductive ACode where
 | skip
 | ops (l:List AOper)
 | draw (n:Nat) (l:List AOper) (r:List AOper)
 | drawS (n:Nat) (l:List AOper) (s:AOper) (chk:List (Nat × AOp)) (r:List AOper)
 | seq (keep:List Nat) (a b:ACode)
 | cond (c:Opd) (a b:ACode)
 | block (id:Nat) (a:ACode)
 | loop (keep:List Nat) (a:ACode)
 | exit (id:Nat)
 | ret
 deriving Inhabited
def cells? : Val->Option (List Cell)
 | .c x=>A4 [x]
 | .a l=>A4 l
 | _=>A7
def B4R(op:BinOp)(k:IntKind)(a b:Int):Option Cell :=
 match op with
 | .add=>A4 (.i k (k.wrap (a+b)))
 | .sub=>A4 (.i k (k.wrap (a-b)))
 | .mul=>A4 (.i k (k.wrap (a*b)))
 | .quo=>if b=0 then A7 else A4 (.i k (k.wrap (a.tdiv b)))
 | .rem=>if b=0 then A7 else A4 (.i k (a.tmod b))
 | .and=>A4 (.i k (k.wrap (BitVec.ofInt k.bits a &&& BitVec.ofInt k.bits b).toNat))
 | .or=>A4 (.i k (k.wrap (BitVec.ofInt k.bits a ||| BitVec.ofInt k.bits b).toNat))
 | .xor=>A4 (.i k (k.wrap (BitVec.ofInt k.bits a ^^^ BitVec.ofInt k.bits b).toNat))
 | .andNot=>A4 (.i k (k.wrap (BitVec.ofInt k.bits a &&& ~~~ BitVec.ofInt k.bits b).toNat))
 | .eql=>A4 (.b (a==b))
 | .neq=>A4 (.b (a != b))
 | .lss=>A4 (.b (decide (a<b)))
 | .leq=>A4 (.b (decide (a<=b)))
 | .gtr=>A4 (.b (decide (a > b)))
 | .geq=>A4 (.b (decide (a>=b)))
 | _=>A7
def E5M(k:IntKind)(a b:Int):Option Cell:=if b<0 then A7 else A4 (.i k (k.wrap (a*2 ^ (Nat.min b.toNat k.bits))))
def E5N(k:IntKind)(a b:Int):Option Cell:=if b<0 then A7 else A4 (.i k (a.fdiv (2 ^ (Nat.min b.toNat k.bits))))
def Y5:List UInt8->List UInt8->Bool
 | _,[]=>A6
 | [],_::_=>A5
 | a::x,b::y=>decide (a<b)||(a==b&&Y5 x y)
def E2P(op:BinOp)(a b:List UInt8):Option Cell :=
 match op with
 | .add=>if a.length+b.length<=1073741824 then A4 (.s (a++b)) else A7
 | .eql=>A4 (.b (a==b))
 | .neq=>A4 (.b (!(a==b)))
 | .lss=>A4 (.b (Y5 a b))
 | .leq=>A4 (.b (Y5 a b||a==b))
 | .gtr=>A4 (.b (!(Y5 a b||a==b)))
 | .geq=>A4 (.b (!Y5 a b))
 | _=>A7
def N4(op:BinOp)(x y:Val):Option Val :=
 match x,y with
 | .c (.i k a),.c (.i k' b) =>
  match op with
  | .shl=>(E5M k a b).map .c
  | .shr=>(E5N k a b).map .c
  | op=>bif decide (k=k') then (B4R op k a b).map .c else A7
 | .c (.s a),.c (.s b)=>(E2P op a b).map .c
 | _,_=>A7
def D54(neg:Bool)(x y:Val):Option Val :=
 match x,y with
 | .c (.b a),.c (.b b)=>A4 (.c (.b (bif neg then !(a==b) else a==b)))
 | _,_=>A7
def D16(fn neg:Bool)(x:Val):Option Val :=
 match fn,x with
 | true,.c .nf=>A4 (.c (.b (!neg)))
 | true,.c (.f _ _)=>A4 (.c (.b neg))
 | false,.c .np=>A4 (.c (.b (!neg)))
 | false,.c (.p _ _)=>A4 (.c (.b neg))
 | _,_=>A7
def A6V(x:Val):Option Val :=
 match x with
 | .c (.p id off)=>A4 (.c (.p id off))
 | .c (.f g cs)=>A4 (.c (.f g cs))
 | _=>A7
def aeq(neg:Bool)(sh:List Sh)(x y:Val):Option Val :=
 match x,y with
 | .a l,.a l'=>if l.map Cell.sh=sh.map A4/\l'.map Cell.sh=sh.map A4 then A4 (.c (.b (bif neg then !(decide (l=l')) else decide (l=l')))) else A7
 | _,_=>A7
def aun(op:UnOp)(x:Val):Option Val :=
 match op,x with
 | .not,.c (.b b)=>A4 (.c (.b (!b)))
 | .neg,.c (.i k n)=>A4 (.c (.i k (k.wrap (0-n))))
 | .xor,.c (.i k n)=>A4 (.c (.i k (k.wrap (BitVec.ofInt k.bits (if k.signed then -1 else k.max) ^^^ BitVec.ofInt k.bits n).toNat)))
 | _,_=>A7
def D0A(c a b:Val):Option Val :=
 match c with
 | .c (.b x)=>A4 (bif x then a else b)
 | _=>A7
def rd(h:A9)(id:Nat):Option Row:=(h[id]?).join
def Cell.isX:Cell->Bool
 | .dark=>A5
 | .mh=>A5
 | .hk _ _=>A5
 | .hx _=>A5
 | _=>A6
def Cell.isD:Cell->Bool
 | .dark=>A5
 | _=>A6
def noX(l:List Cell):Bool:=l.all λc=>!c.isX
def B9(h:A9):Val->Option Val
 | .c (.p id off)=>(rd h id).bind λr=>(r.cells[off]?).bind λc=>bif r.rw || !c.isX then A4 (.c c) else A7
 | _=>A7
def C9(h:A9)(n:Nat):Val->Option Val
 | .c (.p id off)=>(rd h id).bind λr=>if off+n<=r.cells.length/\(r.rw||noX ((r.cells.drop off).take n))=A5 then A4 (.a ((r.cells.drop off).take n)) else A7
 | _=>A7
def lay(cs:List Cell)(off:Nat)(xs:List Cell):List Cell:=cs.take off++(xs++cs.drop (off+xs.length))
def I8(h:A9)(a x:Val):Option A9 :=
 match a,x with
 | .c (.p id off),.c x=>(rd h id).bind λr=>if r.rw=A5/\off<r.cells.length then A4 (h.set id (A4 ⟨r.cells.set off x,A5⟩)) else A7
 | _,_=>A7
def F7(h:A9)(n:Nat)(a x:Val):Option A9 :=
 match a,x with
 | .c (.p id off),.a xs=>(rd h id).bind λr=>if r.rw=A5/\xs.length=n/\off+n<=r.cells.length then A4 (h.set id (A4 ⟨lay r.cells off xs,A5⟩)) else A7
 | _,_=>A7
def gF(h:A9)(n0:Nat)(slot:Option Nat)(r:Row):Nat × A9 :=
 match slot with
 | none=>(h.length,h++[A4 r])
 | some j=>(n0+j,h.set (n0+j) (A4 r))
def F6(zero:List Cell):List (Nat × Nat × Val)->Option (List Cell)
 | []=>A4 zero
 | (off,n,v)::r =>
  match cells? v with
  | some xs=>if xs.length=n/\off+n<=zero.length then F6 (lay zero off xs) r else A7
  | none=>A7
def D3w(k:IntKind):Val->Option Val
 | .c (.i _ n)=>A4 (.c (.i k (k.wrap n)))
 | _=>A7
def rJ(h:A9):Val->Option (List Cell)
 | .c .ns=>A4 []
 | .c (.sl id off len sz)=>(rd h id).bind λr=>if off+len*sz<=r.cells.length/\(r.rw||noX ((r.cells.drop off).take (len*sz)))=A5 then A4 ((r.cells.drop off).take (len*sz)) else A7
 | _=>A7
def D0I:Cell->Option UInt8
 | .i .u8 n=>if 0<=n/\n<256 then A4 (UInt8.ofNat n.toNat) else A7
 | _=>A7
def bytes? : List Cell->Option (List UInt8)
 | []=>A4 []
 | c::r=>(D0I c).bind λx=>(bytes? r).map λl=>x::l
def D15(x:Val):Option Val :=
 match x with
 | .c (.s s)=>A4 (.c (.s s))
 | _=>A7
def B8l(h:A9)(x:Val):Option Val :=
 match x with
 | .c (.sl id off len sz)=>if sz=1 then ((rJ h (.c (.sl id off len sz))).bind bytes?).map λs=>.c (.s s) else A7
 | .c .ns=>A4 (.c (.s []))
 | _=>A7
def C3Q(h:A9)(n0:Nat)(own:Option Nat)(x:Val):Option Val :=
 match own with
 | none=>B8l h x
 | some j =>
  match x with
  | .c (.sl id off len sz)=>if id=n0+j then B8l h (.c (.sl id off len sz)) else A7
  | _=>A7
def B4(l:List UInt8):List Cell:=l.map λx=>.i .u8 x.toNat
def bound(x:Option Val)(d:Nat):Option Nat :=
 match x with
 | none=>A4 d
 | some (.c (.i _ n))=>if 0<=n then A4 n.toNat else A7
 | _=>A7
def E3r(x:Val)(lo hi:Option Val):Option Val :=
 match x with
 | .c (.s s)=>(bound lo 0).bind λl=>(bound hi s.length).bind λh=>if l<=h/\h<=s.length then A4 (.c (.s ((s.take h).drop l))) else A7
 | _=>A7
def D8M(sz:Nat)(x:Val)(lo hi:Option Val):Option Val :=
 match x with
 | .c (.sl id off len sz')=>(bound lo 0).bind λl=>(bound hi len).bind λh=>if l<=h/\h<=len/\sz=sz' then A4 (.c (.sl id (off+l*sz) (h-l) sz)) else A7
 | .c .ns=>(bound lo 0).bind λl=>(bound hi 0).bind λh=>if l=0/\h=0 then A4 (.c .ns) else A7
 | _=>A7
def D2a(hp:A9)(n sz:Nat)(x:Val)(lo hi:Option Val):Option Val :=
 match x with
 | .c (.p id off)=>(rd hp id).bind λr=>(bound lo 0).bind λl=>(bound hi n).bind λh =>
   if l<=h/\h<=n/\off+n*sz<=r.cells.length/\(r.rw||(r.cells[off]?).any λc=>!c.isX)=A5 then A4 (.c (.sl id (off+l*sz) (h-l) sz)) else A7
 | _=>A7
def U2(x:Val)(off:Nat):Option Val :=
 match x with
 | .c (.p id o)=>A4 (.c (.p id (o+off)))
 | _=>A7
def K2(n sz:Nat)(x i:Val):Option Val :=
 match x,i with
 | .c (.p id o),.c (.i _ j)=>if 0<=j/\j<n then A4 (.c (.p id (o+j.toNat*sz))) else A7
 | _,_=>A7
def F0(sz:Nat)(x i:Val):Option Val :=
 match x,i with
 | .c (.sl id o len sz'),.c (.i _ j)=>if 0<=j/\j<len/\sz=sz' then A4 (.c (.p id (o+j.toNat*sz))) else A7
 | _,_=>A7
def B7b(x:Val)(off:Nat):Option Val :=
 match x with
 | .a l=>(l[off]?).map .c
 | _=>A7
def D7K(x:Val)(off n:Nat):Option Val :=
 match x with
 | .a l=>if off+n<=l.length then A4 (.a ((l.drop off).take n)) else A7
 | _=>A7
def A5j(n:Nat)(x i:Val):Option Val :=
 match x,i with
 | .a l,.c (.i _ j)=>if 0<=j/\j<n then (l[j.toNat]?).map .c else A7
 | _,_=>A7
def D17(n sz:Nat)(x i:Val):Option Val :=
 match x,i with
 | .a l,.c (.i _ j)=>if 0<=j/\j<n/\j.toNat*sz+sz<=l.length then A4 (.a ((l.drop (j.toNat*sz)).take sz)) else A7
 | _,_=>A7
def C6P(x i:Val):Option Val :=
 match x,i with
 | .c (.s s),.c (.i _ j)=>if 0<=j then (s[j.toNat]?).map λb=>.c (.i .u8 b.toNat) else A7
 | _,_=>A7
def ofPart:Part->Val
 | .c x=>.c x
 | .a l=>.a l
def E0H(x:Val)(k:Nat):Option Val :=
 match x with
 | .t l=>(l[k]?).map ofPart
 | _=>A7
def D3z(x:Val):Option Val :=
 match x with
 | .c (.s s)=>A4 (.c (.i .i64 s.length))
 | _=>A7
def B6y(x:Val):Option Val :=
 match x with
 | .c (.sl _ _ len _)=>A4 (.c (.i .i64 len))
 | .c .ns=>A4 (.c (.i .i64 0))
 | _=>A7
def V0(h:A9)(sz:Nat):Val->Option (List Cell)
 | .c (.s s)=>if sz=1 then A4 (B4 s) else A7
 | .c (.sl id off len sz')=>if sz=sz' then rJ h (.c (.sl id off len sz')) else A7
 | .c .ns=>A4 []
 | _=>A7
def uR(h:A9)(sz:Nat)(x y:Val):Option (Val × A9) :=
 (V0 h sz y).bind λys =>
  match x with
  | .c .ns=>if ys.length/sz<=1073741824 then A4 (.c (.sl h.length 0 (ys.length/sz) sz),h++[A4 ⟨ys,A5⟩]) else A7
  | .c (.sl id off len sz')=>(rd h id).bind λr =>
    if r.rw=A5/\off=0/\len*sz=r.cells.length/\sz=sz'/\len+ys.length/sz<=1073741824 then
     A4 (.c (.sl h.length 0 (len+ys.length/sz) sz),h.set id A7++[A4 ⟨r.cells++ys,A5⟩]) else A7
  | _=>A7
def B2a(h:A9)(x:Val):Option Val :=
 match x with
 | .c (.sl id _ len _)=>(rd h id).bind λr=>if r.rw=A5/\0<len then A4 x else A7
 | _=>A7
def C5g(x y:Val):Option Val :=
 match x,y with
 | .c (.i k a),.c (.i _ b)=>A4 (.c (.i k (if b > a then b else a)))
 | _,_=>A7
def B6z(x y:Val):Option Val :=
 match x,y with
 | .c (.i k a),.c (.i _ b)=>A4 (.c (.i k (if b<a then b else a)))
 | _,_=>A7
def C6J(h:A9)(sz:Nat)(x y:Val):Option (Val × A9) :=
 match y with
 | .c (.s _)=>A7
 | _=>(V0 h sz y).bind λys =>
  match x with
  | .c (.sl id off len sz')=>(rd h id).bind λr =>
    if r.rw=A5/\off+len*sz<=r.cells.length/\sz=sz' then
     A4 (.c (.i .i64 (Nat.min (ys.length/sz) len:Nat)),h.set id (A4 ⟨lay r.cells off (ys.take (Nat.min (ys.length/sz) len*sz)),A5⟩)) else A7
  | _=>A7
def C6X:List Val->Option (List (Nat × Nat))
 | []=>A4 []
 | .c (.p id off)::r=>(C6X r).map λl=>(id,off)::l
 | _=>A7
def E3l(fn:Nat)(x:Val):Option Val :=
 match x with
 | .c (.p id off)=>A4 (.c (.fb fn id off))
 | _=>A7
def A32(fn:Nat)(caps:List Val):Option Val:=(C6X caps).map λl=>.c (.f fn l)
abbrev V8:=List (Cell × Part)
def A5v(e:Cell × Part):List Cell :=
 match e.2 with
 | .c x=>[.hk A6 e.1,.hx x]
 | .a l=>.hk A5 e.1::l.map .hx
def B8J(es:V8):List Cell:=.mh::es.flatMap A5v
def C8f(c:Cell)(s:List Cell × V8):List Cell × V8 :=
 match c with
 | .hx x=>(x::s.1,s.2)
 | .hk a k=>([],(k,bif a then .a s.1 else .c (s.1.headD .mh))::s.2)
 | _=>s
def D2P(cs:List Cell):V8:=(cs.foldr C8f ([],[])).2
def D4K(r:Row):Option V8:=if r.rw=A6/\r.cells=B8J (D2P r.cells) then A4 (D2P r.cells) else A7
def Q1(es:V8):Row:=⟨B8J es,A6⟩
def vY(kk:Option IntKind)(c:Cell):Bool :=
 match kk,c with
 | some k,.i k' _=>decide (k'=k)
 | none,.s _=>A5
 | _,_=>A6
def mgo(k:Cell):V8->Nat->Option (Nat × Part)
 | [],_=>A7
 | e::es,i=>if e.1=k then A4 (i,e.2) else mgo k es (i+1)
def A90(k:Cell)(es:V8):Option (Nat × Part):=mgo k es 0
def A91(k:Cell)(p:Part)(es:V8):V8 :=
 match A90 k es with
 | some (i,_)=>es.set i (k,p)
 | none=>es++[(k,p)]
def A20(kk:Option IntKind)(k:Cell)(es:V8):Bool:=vY kk k&&es.all λe=>vY kk e.1
def D2H(h:A9):Val->Option V8
 | .c .nm=>A4 []
 | .c (.m id)=>(rd h id).bind D4K
 | _=>A7
def C0K:Val->Option Cell
 | .c x=>A4 x
 | _=>A7
def C4s:Val->Option Part
 | .c x=>A4 (.c x)
 | .a l=>A4 (.a l)
 | _=>A7
def wN(ok:Bool)(p:Part)(f:Bool):Val:=match ok with
 | true=>.t [p,.c (.b f)]
 | false=>match p with
  | .c x=>.c x
  | .a l=>.a l
def yS(h:A9)(kk:Option IntKind)(zero:Part)(ok:Bool)(m k:Val):Option Val :=
 (C0K k).bind λk=>(D2H h m).bind λes=>if A20 kk k es=A5 then
  A4 (match A90 k es with
   | some (_,p)=>wN ok p A5
   | none=>wN ok zero A6) else A7
def A3k(h:A9)(kk:Option IntKind)(m k x:Val):Option A9 :=
 match m with
 | .c (.m id)=>(C0K k).bind λk=>(C4s x).bind λp=>(rd h id).bind λr=>(D4K r).bind λes=>if A20 kk k es=A5 then
  A4 (h.set id (A4 (Q1 (A91 k p es)))) else A7
 | _=>A7
def D3B(h:A9)(kk:Option IntKind)(zero:Part)(m k:Val):Option (Val × A9) :=
 match m with
 | .c (.m id)=>(C0K k).bind λk=>(rd h id).bind λr=>(D4K r).bind λes=>if A20 kk k es=A5 then
  A4 (match A90 k es with
   | some (i,p)=>(.t [p,.c (.i .i64 i)],h)
   | none=>(.t [zero,.c (.i .i64 es.length)],h.set id (A4 (Q1 (es++[(k,zero)]))))) else A7
 | _=>A7
def D3C(h:A9)(m s x:Val):Option A9 :=
 match m,s with
 | .c (.m id),.c (.i .i64 n)=>(C4s x).bind λp=>(rd h id).bind λr=>(D4K r).bind λes=>if 0<=n then (es[n.toNat]?).bind λe=>A4 (h.set id (A4 (Q1 (es.set n.toNat (e.1,p))))) else A7
 | _,_=>A7
def B6G:Val->Option Nat
 | .c (.i .i64 n)=>if 0<=n/\n<=1073741824 then A4 n.toNat else A7
 | _=>A7
def rows(zero:List Cell)(n:Nat):List Cell:=(E8l n zero).flatten
def C5G(l:List (Nat × Nat)):List Val:=l.map λq=>.c (.p q.1 q.2)
abbrev K7:=Nat->List Val->A9->Option (Val × A9)
def Row.head(r:Row):Bool :=
 match r.cells with
 | .mh::l=>l.all Cell.isX
 | _=>A6
def Row.own(r:Row):Bool:=r.rw||r.head
open Classical in
def quiet (h:A9) (r:Option (Val × A9)):Option (Val × A9) :=
 r.bind λp=>if h <+: p.2/\(∀ id x,h.length<=id->rd p.2 id=A4 x->x.own=A5) then A4 p else A7
def aQ(E:K7)(f:Val)(args:List Val)(h:A9):Option (Val × A9) :=
 match f with
 | .c (.f g caps)=>E g (args++C5G caps) h
 | .c (.fb g id off)=>E g (.c (.p id off)::args) h
 | _=>A7
def E5e(x:Val):Option (List UInt8) :=
 match x with
 | .c (.s s)=>if s.length<=1073741824 then A4 s else A7
 | _=>A7
def C5h(x y:Val):Option Nat:=(B6G x).bind λn=>(B6G y).bind λc=>if n<=c then A4 n else A7
def C6F(h:A9)(sz:Nat)(zero:List Cell)(x y:Val):Option (Val × A9) :=
 (B6G y).bind λn =>
  match x with
  | .c .ns=>A4 (.c (.sl h.length 0 n sz),h++[A4 ⟨rows zero n,A5⟩])
  | .c (.sl id off len sz')=>(rd h id).bind λr =>
    if r.rw=A5/\off=0/\len*sz=r.cells.length/\sz=sz'/\len+n<=1073741824 then
     A4 (.c (.sl h.length 0 (len+n) sz),h.set id A7++[A4 ⟨r.cells++rows zero n,A5⟩]) else A7
  | _=>A7
variable {R:Type}
def cnd(v:Val)(a b:Option R):Option R :=
 match v with
 | .c (.b x)=>bif x then a else b
 | _=>A7
def aop (E:K7) (q:Bool) (hr:A9) (n0:Nat) (slot:Option Nat) (o:AOp) (e:Env) (h:A9) (k:Val->A9->Option R):Option R :=
 match o with
 | .mv x=>k (e.ev x) h
 | .nilrow sz=>let p:=gF h n0 slot ⟨[],A5⟩;k (.c (.sl p.1 0 0 sz)) p.2
 | .pick c a b=>(D0A (e.ev c) (e.ev a) (e.ev b)).bind λv=>k v h
 | .alloc zero=>let p:=gF h n0 slot ⟨zero,A5⟩;k (.c (.p p.1 0)) p.2
 | .box x=>(cells? (e.ev x)).bind λcs=>let p:=gF h n0 slot ⟨cs,A5⟩;k (.c (.p p.1 0)) p.2
 | .build zero parts=>(F6 zero (parts.map λp=>(p.1,p.2.1,e.ev p.2.2))).bind λcs=>k (.a cs) h
 | .buildSl sz len zero parts=>(F6 zero (parts.map λp=>(p.1,p.2.1,e.ev p.2.2))).bind λcs=>let p:=gF h n0 slot ⟨cs,A5⟩;k (.c (.sl p.1 0 len sz)) p.2
 | .load1 a=>(B9 hr (e.ev a)).bind λv=>k v h
 | .loadN n a=>(C9 hr n (e.ev a)).bind λv=>k v h
 | .store1 a x=>(I8 h (e.ev a) (e.ev x)).bind λh=>k .un h
 | .storeN n a x=>(F7 h n (e.ev a) (e.ev x)).bind λh=>k .un h
 | .bin op x y=>(N4 op (e.ev x) (e.ev y)).bind λv=>k v h
 | .eqA neg sh x y=>(aeq neg sh (e.ev x) (e.ev y)).bind λv=>k v h
 | .eqB neg x y=>(D54 neg (e.ev x) (e.ev y)).bind λv=>k v h
 | .eqN fn neg x=>(D16 fn neg (e.ev x)).bind λv=>k v h
 | .nilc x=>(A6V (e.ev x)).bind λv=>k v h
 | .un op x=>(aun op (e.ev x)).bind λv=>k v h
 | .conv kd x=>(D3w kd (e.ev x)).bind λv=>k v h
 | .convS x=>(D15 (e.ev x)).bind λv=>k v h
 | .s2b x=>(E5e (e.ev x)).bind λs=>let p:=gF h n0 slot ⟨B4 s,A5⟩;k (.c (.sl p.1 0 s.length 1)) p.2
 | .b2s x=>(B8l hr (e.ev x)).bind λv=>k v h
 | .b2sN own x=>(C3Q h n0 own (e.ev x)).bind λv=>k v h
 | .mark x=>(B2a h (e.ev x)).bind λv=>k v h
 | .mkf fn caps=>(A32 fn (caps.map e.ev)).bind λv=>k v h
 | .mkb fn x=>(E3l fn (e.ev x)).bind λv=>k v h
 | .mkSl sz zero len cap=>(C5h (e.ev len) (e.ev cap)).bind λn=>let p:=gF h n0 slot ⟨rows zero n,A5⟩;k (.c (.sl p.1 0 n sz)) p.2
 | .slS x lo hi=>(E3r (e.ev x) (lo.map e.ev) (hi.map e.ev)).bind λv=>k v h
 | .slL sz x lo hi=>(D8M sz (e.ev x) (lo.map e.ev) (hi.map e.ev)).bind λv=>k v h
 | .slA n sz x lo hi=>(D2a hr n sz (e.ev x) (lo.map e.ev) (hi.map e.ev)).bind λv=>k v h
 | .fAddr x off=>(U2 (e.ev x) off).bind λv=>k v h
 | .iAddrA n sz x i=>(K2 n sz (e.ev x) (e.ev i)).bind λv=>k v h
 | .iAddrL sz x i=>(F0 sz (e.ev x) (e.ev i)).bind λv=>k v h
 | .fld1 x off=>(B7b (e.ev x) off).bind λv=>k v h
 | .fldN x off n=>(D7K (e.ev x) off n).bind λv=>k v h
 | .idxA1 n x i=>(A5j n (e.ev x) (e.ev i)).bind λv=>k v h
 | .idxAN n sz x i=>(D17 n sz (e.ev x) (e.ev i)).bind λv=>k v h
 | .idxS x i=>(C6P (e.ev x) (e.ev i)).bind λv=>k v h
 | .ext x j=>(E0H (e.ev x) j).bind λv=>k v h
 | .call f args=>(bif q then quiet h (E f (args.map e.ev) h) else E f (args.map e.ev) h).bind λp=>k p.1 p.2
 | .callV f args=>(bif q then quiet h (aQ E (e.ev f) (args.map e.ev) h) else aQ E (e.ev f) (args.map e.ev) h).bind λp=>k p.1 p.2
 | .len x=>(B6y (e.ev x)).bind λv=>k v h
 | .lenS x=>(D3z (e.ev x)).bind λv=>k v h
 | .app sz x y=>(uR h sz (e.ev x) (e.ev y)).bind λp=>k p.1 p.2
 | .appZ sz zero x y=>(C6F h sz zero (e.ev x) (e.ev y)).bind λp=>k p.1 p.2
 | .max x y=>(C5g (e.ev x) (e.ev y)).bind λv=>k v h
 | .min x y=>(B6z (e.ev x) (e.ev y)).bind λv=>k v h
 | .copy sz x y=>(C6J h sz (e.ev x) (e.ev y)).bind λp=>k p.1 p.2
 | .mkMap=>let p:=gF h n0 slot (Q1 []);k (.c (.m p.1)) p.2
 | .look kk z ok m x=>(yS hr kk z ok (e.ev m) (e.ev x)).bind λv=>k v h
 | .mput kk m x y=>(A3k h kk (e.ev m) (e.ev x) (e.ev y)).bind λh=>k .un h
 | .ment kk z m x=>(D3B h kk z (e.ev m) (e.ev x)).bind λp=>k p.1 p.2
 | .mset m x y=>(D3C h (e.ev m) (e.ev x) (e.ev y)).bind λh=>k .un h
def gd(v:Val)(want:Bool)(a b:Option (Val × A9)):Option (Val × A9) :=
 match v with
 | .c (.b x)=>bif x==want then a else b
 | .no=>b
 | _=>A7
def aK (E:K7) (q:Bool) (hr:A9) (n0:Nat) (o:AOper) (e:Env) (h:A9) (k:Val->A9->Option R):Option R :=
 match o.guard with
 | none=>aop E q hr n0 o.slot o.op e h k
 | some g=>(gd (e.get g.1) g.2 (aop E q hr n0 o.slot o.op e h λv h=>A4 (v,h)) (A4 (.no,h))).bind λp=>k p.1 p.2
def B4b (E:K7) (l:List AOper):Env->A9->(Env->A9->Option R)->Option R :=
 List.rec (motive:=λ_=>Env->A9->(Env->A9->Option R)->Option R) (λe h k=>k e h) (λo _ ih e h k=>aK E A6 h 0 o e h λv h=>ih (e.put o.dst v) h k) l
def D0z(E:K7)(o:AOper)(r:List AOper)(e:Env)(h:A9)(k:Env->A9->Option R):B4b E (o::r) e h k=aK E A6 h 0 o e h λv h=>B4b E r (e.put o.dst v) h k:=rfl
def B7a (E:K7) (hr:A9) (n0:Nat) (l:List AOper):Env->A9->(Env->A9->Option R)->Option R :=
 List.rec (motive:=λ_=>Env->A9->(Env->A9->Option R)->Option R) (λe h k=>k e h) (λo _ ih e h k=>aK E A5 hr n0 o e h λv h=>ih (e.put o.dst v) h k) l
def C6K(E:K7)(hr:A9)(n0:Nat)(o:AOper)(r:List AOper)(e:Env)(h:A9)(k:Env->A9->Option R):B7a E hr n0 (o::r) e h k=aK E A5 hr n0 o e h λv h=>B7a E hr n0 r (e.put o.dst v) h k:=rfl
def B1N(h:A9)(o:AOp)(e:Env):Option Val :=
 match o with
 | .load1 a=>B9 h (e.ev a)
 | .loadN n a=>C9 h n (e.ev a)
 | _=>A7
open Classical in
def agn (x:Option Val) (v:Val) (k:Option R):Option R:=if x=A4 v then k else A7
def again (l:List (Nat × AOp)) (e:Env) (h:A9) (k:Option R):Option R :=
 List.rec (motive:=λ_=>Option R) k (λc _ ih=>agn (B1N h c.2 e) (e.get c.1) ih) l
def C6N(c:Nat × AOp)(l:List (Nat × AOp))(e:Env)(h:A9)(k:Option R):again (c::l) e h k=agn (B1N h c.2 e) (e.get c.1) (again l e h k):=rfl
inductive AExit where
 | normal
 | exit (id:Nat)
 | ret
abbrev B6f(R:Type):=AExit->Env->A9->Option R
abbrev Sm(R:Type):=B6f R->Env->A9->Option R
def E1Z(keep:List Nat)(again:Env->A9->Option R)(k:B6f R):B6f R:=λx e h=>match x with | .normal=>again (e.keep keep) h | .exit id=>k (.exit id) e h | .ret=>k .ret e h
def A8i (c:Sm R) (keep:List Nat) (k:B6f R) (n:Nat):Env->A9->Option R :=
 Nat.rec (motive:=λ_=>Env->A9->Option R) (λ_ _=>A7) (λ_ ih e h=>c (E1Z keep ih k) e h) n
def C3X(c:Sm R)(keep:List Nat)(k:B6f R)(e:Env)(h:A9):A8i c keep k 0 e h=A7:=rfl
def C3W(c:Sm R)(keep:List Nat)(k:B6f R)(n:Nat)(e:Env)(h:A9):A8i c keep k (n+1) e h=c (λx e h=>match x with | .normal=>A8i c keep k n (e.keep keep) h | .exit id=>k (.exit id) e h | .ret=>k .ret e h) e h:=rfl
def hold{α:Type}(x:α):α:=(λ_=>x) gd
def E2X:Sm R:=λk e h=>(λ_=>k .normal e h) (@B4b Nat)
def E2W (E:K7) (l:List AOper):Sm R:=λk e h=>B4b E l e h λe h=>k .normal e h
def D7q (E:K7) (m:Nat) (l r:List AOper):Sm R:=λk e h=>B7a E h h.length l e (h++E8l m A7) λe h=>B4b E r e h λe h=>k .normal e h
def D3b (E:K7) (m:Nat) (l:List AOper) (s:AOper) (chk:List (Nat × AOp)) (r:List AOper):Sm R:=λk e h=>B7a E h h.length l e (h++E8l m A7) λe h=>aK E A6 h 0 s e h λv h2=>again chk e h2 (B4b E r (e.put s.dst v) h2 λe h=>k .normal e h)
def E10(keep:List Nat)(b:Sm R)(k:B6f R):B6f R:=λx e h=>match x with | .normal=>hold (b k (e.keep keep) h) | .exit id=>k (.exit id) e h | .ret=>k .ret e h
def D6Q(id:Nat)(k:B6f R):B6f R:=λx e h=>match x with | .exit i=>bif Nat.beq i id then k .normal e h else k (.exit i) e h | .normal=>k .normal e h | .ret=>k .ret e h
def D5I (keep:List Nat) (a b:Sm R):Sm R:=λk e h=>a (E10 keep b k) e h
def C8K (c:Opd) (a b:Sm R):Sm R:=λk e h=>(λ_=>cnd (e.ev c) (a k e h) (b k e h)) (@B4b Nat)
def C1k (id:Nat) (a:Sm R):Sm R:=λk e h=>(λ_=>a (D6Q id k) e h) (@B4b Nat)
def C8L (n:Nat) (keep:List Nat) (a:Sm R):Sm R:=λk e h=>(λ_=>A8i a keep k n (e.keep keep) h) (@B4b Nat)
def E2V (id:Nat):Sm R:=λk e h=>(λ_=>k (.exit id) e h) (@B4b Nat)
def E4Z:Sm R:=λk e h=>(λ_=>k .ret e h) (@B4b Nat)
def aex (E:K7) (n:Nat):ACode->Sm R
 | .skip=>E2X
 | .ops l=>E2W E l
 | .draw m l r=>D7q E m l r
 | .drawS m l s chk r=>D3b E m l s chk r
 | .seq keep a b=>D5I keep (aex E n a) (aex E n b)
 | .cond c a b=>C8K c (aex E n a) (aex E n b)
 | .block id a=>C1k id (aex E n a)
 | .loop keep a=>C8L n keep (aex E n a)
 | .exit id=>E2V id
 | .ret=>E4Z
def ax (E:K7) (n:Nat) (c:ACode):Sm R :=
 ACode.rec (motive:=λ_=>Sm R) E2X (λl=>E2W E l) (λm l r=>D7q E m l r) (λm l s chk r=>D3b E m l s chk r) (λkeep _ _ a b=>D5I keep a b) (λc _ _ a b=>C8K c a b) (λid _ a=>C1k id a) (λkeep _ a=>C8L n keep a) (λid=>E2V id) E4Z c
def B98(E:K7)(n:Nat):∀ c:ACode,(ax E n c:Sm R)=aex E n c
 | .skip=>rfl
 | .ops _=>rfl
 | .draw _ _ _=>rfl
 | .drawS _ _ _ _ _=>rfl
 | .seq keep a b=>by show D5I keep (ax E n a) (ax E n b)=D5I keep (aex E n a) (aex E n b);rw [B98 E n a,B98 E n b]
 | .cond c a b=>by show C8K c (ax E n a) (ax E n b)=C8K c (aex E n a) (aex E n b);rw [B98 E n a,B98 E n b]
 | .block id a=>by show C1k id (ax E n a)=C1k id (aex E n a);rw [B98 E n a]
 | .loop keep a=>by show C8L n keep (ax E n a)=C8L n keep (aex E n a);rw [B98 E n a]
 | .exit _=>rfl
 | .ret=>rfl
inductive ARes where
 | tmp (t:Nat)
 | cell1 (t:Nat)
 | cellN (t n:Nat)
def D8L(e:Env)(h:A9):ARes->Option Val
 | .tmp t=>A4 (e.get t)
 | .cell1 t=>B9 h (e.get t)
 | .cellN t n=>C9 h n (e.get t)
def wA:Val->Option Part
 | .c x=>A4 (.c x)
 | .a l=>A4 (.a l)
 | _=>A7
def C3V(e:Env)(h:A9):List ARes->Option (List Part)
 | []=>A4 []
 | r::l=>(D8L e h r).bind λv=>(wA v).bind λp=>(C3V e h l).map λq=>p::q
def qR(rs:List ARes)(e:Env)(h:A9):Option (Val × A9) :=
 match rs with
 | [r]=>(D8L e h r).map λv=>(v,h)
 | rs=>(C3V e h rs).map λl=>(.t l,h)
def C85:List (Option Val)->Option (List Part)
 | []=>A4 []
 | r::l=>r.bind λv=>(wA v).bind λp=>(C85 l).map λq=>p::q
def C3t(l:List (Option Val))(h:A9):Option (Val × A9):=(C85 l).map λl=>(.t l,h)
structure AFn where
 code:ACode
 res:List ARes
def params:Nat->List Val->Env
 | _,[]=>[]
 | i,v::r=>(i,v)::params (i+1) r
def AFn.fin(f:AFn):AExit->Env->A9->Option (Val × A9)
 | .normal,e,h=>qR f.res e h
 | .ret,e,h=>qR f.res e h
 | .exit _,_,_=>A7
def AFn.run (f:AFn) (E:K7) (n:Nat) (args:List Val) (h:A9):Option (Val × A9) :=
 aex E n f.code f.fin (params 0 args) h
def E5f{f:AFn}{E:K7}{n:Nat}{args:List Val}{h:A9}:f.run E n args h=ax E n f.code f.fin (params 0 args) h:=by
 rw [B98];rfl
def aO(d:Nat)(x:AOp):AOper:={ dst:=A4 d,op:=x }
def aN(x:AOp):AOper:={ dst:=A7,op:=x }
def aG(d g:Nat)(w:Bool)(x:AOp):AOper:={ dst:=A4 d,op:=x,guard:=A4 (g,w) }
def aM(d t:Nat):AOper:=aO d (.mv (.t t))
def aL(d t:Nat):AOper:=aO d (.load1 (.t t))
def aL'(d n t:Nat):AOper:=aO d (.loadN n (.t t))
def aF(d t k:Nat):AOper:=aO d (.fAddr (.t t) k)
def aB(d t:Nat):AOper:=aO d (.box (.t t))
def sO(k:List Nat)(l:List AOper)(b:ACode):ACode:=.seq k (.ops l) b
end
def All2{α β:Type}(R:α -> β -> Prop):List α -> List β -> Prop
 | [],[]=>True
 | a::l,b::m=>R a b/\All2 R l m
 | _,_=>False
section
variable {α β:Type} {R S:α -> β -> Prop}
@[simp] theorem All2.nil_nil:All2 R [] []=True:=rfl
@[simp] theorem All2.cons_cons {a:α} {l:List α} {b:β} {m:List β}:All2 R (a::l) (b::m)=(R a b/\All2 R l m):=rfl
@[simp] theorem All2.nil_cons {b:β} {m:List β}:All2 R [] (b::m)=False:=rfl
@[simp] theorem All2.cons_nil {a:α} {l:List α}:All2 R (a::l) []=False:=rfl
def All2.mono(h:∀ a b,R a b->S a b):∀ {l:List α} {m:List β},All2 R l m->All2 S l m
 | [],[],_=>trivial
 | _::_,_::_,⟨h1,h2⟩=>⟨h _ _ h1,All2.mono h h2⟩
 | [],_::_,h=>h.elim
 | _::_,[],h=>h.elim
def All2.length:∀ {l:List α} {m:List β},All2 R l m->l.length=m.length
 | [],[],_=>rfl
 | _::_,_::_,⟨_,h2⟩=>by simp [All2.length h2]
 | [],_::_,h=>h.elim
 | _::_,[],h=>h.elim
def All2.get:∀ {l:List α} {m:List β},All2 R l m->∀ (i:Nat) (a:α),l[i]?=A4 a->∃ b,m[i]?=A4 b/\R a b
 | [],[],_,i,a,h=>by simp at h
 | x::l,y::m,⟨h1,h2⟩,0,a,h=>by simp at h;subst h;exact ⟨y,rfl,h1⟩
 | x::l,y::m,⟨h1,h2⟩,i+1,a,h=>by simp at h;simpa using All2.get h2 i a h
 | [],_::_,h,_,_,_=>h.elim
 | _::_,[],h,_,_,_=>h.elim
def All2.of_get:∀ {l:List α} {m:List β},l.length=m.length->(∀ (i:Nat) (a:α) (b:β),l[i]?=A4 a->m[i]?=A4 b->R a b)->All2 R l m
 | [],[],_,_=>trivial
 | x::l,y::m,hl,h=>⟨h 0 x y rfl rfl,All2.of_get (by simpa using hl) λi a b h1 h2=>h (i+1) a b (by simpa using h1) (by simpa using h2)⟩
 | [],_::_,h,_=>by simp at h
 | _::_,[],h,_=>by simp at h
def All2.append:∀ {l l':List α} {m m':List β},All2 R l m->All2 R l' m'->All2 R (l++l') (m++m')
 | [],_,[],_,_,h=>h
 | _::_,_,_::_,_,⟨h1,h2⟩,h=>⟨h1,All2.append h2 h⟩
 | [],_,_::_,_,h,_=>h.elim
 | _::_,_,[],_,h,_=>h.elim
def All2.take:∀ {l:List α} {m:List β} (n:Nat),All2 R l m->All2 R (l.take n) (m.take n)
 | [],[],n,_=>by simp
 | _::_,_::_,0,_=>by simp
 | _::_,_::_,n+1,⟨h1,h2⟩=>by simpa using ⟨h1,All2.take n h2⟩
 | [],_::_,_,h=>h.elim
 | _::_,[],_,h=>h.elim
def All2.drop:∀ {l:List α} {m:List β} (n:Nat),All2 R l m->All2 R (l.drop n) (m.drop n)
 | [],[],n,_=>by simp
 | _::_,_::_,0,h=>by simpa using h
 | _::_,_::_,n+1,⟨_,h2⟩=>by simpa using All2.drop n h2
 | [],_::_,_,h=>h.elim
 | _::_,[],_,h=>h.elim
def All2.flatten_replicate{l:List α}{m:List β}(h:All2 R l m):∀ n,All2 R (E8l n l).flatten (E8l n m).flatten
 | 0=>trivial
 | n+1=>by simpa [E81] using h.append (All2.flatten_replicate h n)
end
abbrev Mu:=Nat->Option (Nat × Nat)
def Mu.le(m m':Mu):Prop:=∀ id x,m id=A4 x->m' id=A4 x
def Mu.le_refl(m:Mu):m.le m:=λ_ _ h=>h
def Mu.le_trans{a b c:Mu}(h:a.le b)(k:b.le c):a.le c:=λ_ _ x=>k _ _ (h _ _ x)
def RPtr(U:Mu)(q:Nat × Nat)(V:Value):Prop:=∃ b n,U q.1=A4 (b,n)/\V=.pointer (A4 ⟨b,q.2,A7⟩)
def RC(U:Mu):Cell->Value->Prop
 | .b x,V=>V=.bool x
 | .i k n,V=>V=.int k n
 | .s x,V=>V=.string ⟨x.toArray⟩
 | .p id off,V=>RPtr U (id,off) V
 | .np,V=>V=.pointer A7
 | .sl id off len sz,V=>(∃ b n cap,U id=A4 (b,n)/\len<=cap/\off+cap*sz<=n/\V=.slice (A4 ⟨b,off,A7⟩) len cap)\/(len=0/\∃ a,V=.slice a 0 0)
 | .ns,V=>V=.slice A7 0 0
 | .f fn caps,V=>∃ cs:List Value,V=.func (.func fn) #[] cs.toArray/\All2 (RPtr U) caps cs
 | .fb fn id off,V=>∃ P:Value,RPtr U (id,off) P/\V=.func (.func fn) #[P] #[]
 | .nf,V=>V=.nilFunc
 | .m id,V=>∃ b n,U id=A4 (b,n)/\V=.map (A4 b)
 | .nm,V=>V=.map A7
 | .dark,_=>False
 | .mh,_=>False
 | .hk _ _,_=>False
 | .hx _,_=>False
def RPtr.mono{U U':Mu}(h:U.le U'){q:Nat × Nat}{V:Value}:RPtr U q V->RPtr U' q V :=
 λ⟨b,n,h1,h2⟩=>⟨b,n,h _ _ h1,h2⟩
def RC.mono{U U':Mu}(h:U.le U'){c:Cell}{V:Value}(hc:RC U c V):RC U' c V:=by
 cases c with
 | p id off=>exact RPtr.mono h hc
 | sl id off len sz =>
  rcases hc with ⟨b,n,cap,h1,h2⟩ | hc
  ·exact .inl ⟨b,n,cap,h _ _ h1,h2⟩
  ·exact .inr hc
 | f fn caps=>obtain ⟨cs,h1,h2⟩:=hc;exact ⟨cs,h1,h2.mono λ_ _=>RPtr.mono h⟩
 | fb fn id off=>obtain ⟨P,h1,h2⟩:=hc;exact ⟨P,RPtr.mono h h1,h2⟩
 | m id=>obtain ⟨b,n,h1,h2⟩:=hc;exact ⟨b,n,h _ _ h1,h2⟩
 | _=>exact hc
def RC.one{U:Mu}{c:Cell}{V:Value}(hc:RC U c V):V.oneCell'=A5:=by
 cases c with
 | sl id off len sz=>rcases hc with ⟨b,n,cap,_,_,_,rfl⟩ | ⟨_,a,rfl⟩<;>rfl
 | p id off=>obtain ⟨b,n,_,rfl⟩:=hc;rfl
 | f fn caps=>obtain ⟨cs,rfl,_⟩:=hc;rfl
 | fb fn id off=>obtain ⟨P,_,rfl⟩:=hc;rfl
 | m id=>obtain ⟨b,n,_,rfl⟩:=hc;rfl
 | b x=>cases hc;rfl
 | i k n=>cases hc;rfl
 | s x=>cases hc;rfl
 | np=>cases hc;rfl
 | ns=>cases hc;rfl
 | nf=>cases hc;rfl
 | nm=>cases hc;rfl
 | dark=>exact hc.elim
 | mh=>exact hc.elim
 | hk _ _=>exact hc.elim
 | hx _=>exact hc.elim
def RC.cells{U:Mu}{c:Cell}{V:Value}(hc:RC U c V):V.cells = #[V]:=by
 have:=hc.one;cases V<;>simp_all [Value.oneCell',Value.cells]
def RP(U:Mu):Part->Value->Prop
 | .c x,V=>RC U x V
 | .a l,V=>∃ vs:List Value,V=.agg vs.toArray/\All2 (RC U) l vs
def RV(U:Mu):Val->Value->Prop
 | .un,_=>True
 | .no,V=>V=undef
 | .c x,V=>RC U x V
 | .a l,V=>∃ vs:List Value,V=.agg vs.toArray/\All2 (RC U) l vs
 | .t l,V=>∃ vs:List Value,V=.tuple vs.toArray/\All2 (RP U) l vs
def RP.mono{U U':Mu}(h:U.le U'){c:Part}{V:Value}(hc:RP U c V):RP U' c V:=by
 cases c with
 | c x=>exact RC.mono h hc
 | a l=>obtain ⟨vs,h1,h2⟩:=hc;exact ⟨vs,h1,h2.mono λ_ _=>RC.mono h⟩
def RV.mono{U U':Mu}(h:U.le U'){c:Val}{V:Value}(hc:RV U c V):RV U' c V:=by
 cases c with
 | un=>trivial
 | no=>exact hc
 | c x=>exact RC.mono h hc
 | a l=>obtain ⟨vs,h1,h2⟩:=hc;exact ⟨vs,h1,h2.mono λ_ _=>RC.mono h⟩
 | t l=>obtain ⟨vs,h1,h2⟩:=hc;exact ⟨vs,h1,h2.mono λ_ _=>RP.mono h⟩
def RV.cells{U:Mu}{v:Val}{V:Value}{cs:List Cell}(h:RV U v V)(hc:cells? v=A4 cs):All2 (RC U) cs V.cells.toList:=by
 cases v with
 | c x=>simp [cells?] at hc;subst hc;rw [RC.cells h];exact ⟨h,trivial⟩
 | a l=>simp [cells?] at hc;subst hc;obtain ⟨vs,rfl,h2⟩:=h;simpa [Value.cells] using h2
 | un=>simp [cells?] at hc
 | no=>simp [cells?] at hc
 | t l=>simp [cells?] at hc
def RV.ofPart{U:Mu}{p:Part}{V:Value}(h:RP U p V):RV U (ofPart p) V:=by
 cases p<;>exact h
def RP.ofVal{U:Mu}{v:Val}{p:Part}{V:Value}(h:RV U v V)(hp:wA v=A4 p):RP U p V:=by
 cases v<;>simp [wA] at hp<;>subst hp<;>exact h
def RL(U:Mu)(rw:Bool)(c:Cell)(V:Value):Prop:=RC U c V\/(rw=A6/\c.isD=A5)
def C74{c:Cell}(h:c.isD=A5):c.isX=A5:=by cases c<;>simp_all [Cell.isD,Cell.isX]
def RL.mono{U U':Mu}(h:U.le U'){rw:Bool}{c:Cell}{V:Value}:RL U rw c V->RL U' rw c V
 | .inl k=>.inl (k.mono h)
 | .inr k=>.inr k
def RL.told{U:Mu}{rw:Bool}{c:Cell}{V:Value}(h:RL U rw c V)(hx:(rw || !c.isX)=A5):RC U c V:=by
 rcases h with h | ⟨h1,h2⟩
 ·exact h
 ·rw [h1,C74 h2] at hx;cases hx
def RL.all{U:Mu}{rw:Bool}:∀ {l:List Cell} {vs:List Value},All2 (RL U rw) l vs->(rw||noX l)=A5->All2 (RC U) l vs
 | [],[],_,_=>trivial
 | c::l,V::vs,⟨h1,h2⟩,hx=>by
  have hx':(rw || !c.isX)=A5/\(rw||noX l)=A5:=by
   cases rw<;>simp_all [noX]
  exact ⟨h1.told hx'.1,RL.all h2 hx'.2⟩
 | [],_::_,h,_=>h.elim
 | _::_,[],h,_=>h.elim
def RE(U:Mu)(e:Cell × Part)(E:MapEntry):Prop:=RC U e.1 E.key/\RP U e.2 E.val
def RE.mono{U U':Mu}(h:U.le U'){e:Cell × Part}{E:MapEntry}(k:RE U e E):RE U' e E:=⟨k.1.mono h,k.2.mono h⟩
def MemOk(U:Mu)(w:World)(b n:Nat)(r:Row):Prop :=
 ∃ C elem fz,w.heap[b]?=A4 (.cells C elem fz)/\C.size=n/\All2 (RL U r.rw) r.cells (C.toList.take r.cells.length)/\(r.rw=A5->fz.1=fz.2\/n<=fz.1)
def E6j(U:Mu)(w:World)(b:Nat)(r:Row):Prop :=
 ∃ es E,r=Q1 es/\w.heap[b]?=A4 (.map E E.size)/\All2 (RE U) es E.toList/\∀ (i:Nat) (e:MapEntry),E[i]?=A4 e->e.born=i
def E42(w:World)(b:Nat)(r:Row):Prop:=r.rw=A6/\b<w.heap.size/\r.cells.all Cell.isD=A5
def RowOk(U:Mu)(w:World)(id:Nat)(r:Row):Prop :=
 match U id with
 | none=>r.cells=[]
 | some (b,n)=>MemOk U w b n r\/E6j U w b r\/E42 w b r
def D2i(e:Cell × Part):∀ c∈A5v e,c.isX=A5:=by
 intro c hc;unfold A5v at hc;split at hc
 ·simp at hc;rcases hc with rfl | rfl<;>rfl
 ·simp at hc;rcases hc with rfl | ⟨x,_,rfl⟩<;>rfl
def C8b(es:V8):∀ c∈B8J es,c.isX=A5:=by
 intro c hc;simp only [B8J,E8J,List.mem_flatMap] at hc;rcases hc with rfl | ⟨e,_,hc⟩
 ·rfl
 ·exact D2i e c hc
def Row.head_mrow(es:V8):(Q1 es).head=A5:=by
 show (es.flatMap A5v).all Cell.isX=A5;rw [E8O];exact λc hc=>C8b es c (List.mem_cons_of_mem _ hc)
def Row.head_isX{r:Row}(h:r.head=A5):∀ c∈r.cells,c.isX=A5:=by
 unfold Row.head at h;split at h
 ·rename_i l hl;intro c hc;rw [hl] at hc;rcases E8J.1 hc with rfl | hc
  ·rfl
  ·exact E8O.1 h c hc
 ·cases h
def Row.own_rw{r:Row}(h:r.rw=A5):r.own=A5:=by simp [Row.own,h]
def Row.own_mrow(es:V8):(Q1 es).own=A5:=by simp [Row.own,Row.head_mrow]
structure Ctx where
 F:Nat->Option Obj
 os:Os
 tape:Nat->Question->Nat
 output:Array (Nat × ByteArray)
 ds:List Deferred:=[]
structure Ctx.ok(J:Ctx)(w:World):Prop where
 os:w.os = J.os
 tape:w.tape = J.tape
 output:w.output = J.output
 block:∀ b o,J.F b=A4 o->w.heap[b]?=A4 o
structure Inv(J:Ctx)(U:Mu)(h:A9)(w:World):Prop where
 rows:∀ id r,rd h id=A4 r->RowOk U w id r
 sep:∀ id cP r r' x x',rd h id=A4 r->rd h cP=A4 r'->r.own=A5->id≠cP -> U id=A4 x -> U cP=A4 x'->x.1≠x'.1
 own:∀ id r x,rd h id=A4 r->r.own=A5 -> U id=A4 x -> J.F x.1=A7
 dom:∀ id,h.length<=id -> U id=A7
 ctx:J.ok w
def SEnv(U:Mu)(e:Env)(a:Act):Prop:=∀ t,RV U (e.get t) (a.tmps.getD t undef)
def SEnv.mono{U U':Mu}(h:U.le U'){e:Env}{a:Act}(hs:SEnv U e a):SEnv U' e a:=λt=>(hs t).mono h
def Env.get_put_same(e:Env)(d:Nat)(v:Val):(e.put (A4 d) v).get d=v:=by simp [Env.put,Env.get]
def Env.get_put_other(e:Env)(d t:Nat)(v:Val)(h:d≠t):(e.put (A4 d) v).get t=e.get t:=by
 have:Nat.beq d t=A6:=by cases hb:Nat.beq d t with
  | false=>rfl
  | true=>exact absurd (Nat.eq_of_beq_eq_true hb) h
 simp [Env.put,Env.get,this]
def SEnv.put{U:Mu}{e:Env}{a:Act}(hs:SEnv U e a){d:Option Nat}{v:Val}{V:Value}(hd:∀ t,d=A4 t->t<a.tmps.size)(hv:RV U v V) :
  SEnv U (e.put d v) (a.put d V):=by
 cases d with
 | none=>exact hs
 | some d =>
  intro t;by_cases h:d=t
  ·subst h;rw [Env.get_put_same];have:=hd d rfl;simpa [Act.put,Array.getD,this] using hv
  ·rw [Env.get_put_other _ _ _ _ h];have h1:(a.put (A4 d) V).tmps.getD t undef=a.tmps.getD t undef:=by
    simp [Act.put,Array.getElem?_setIfInBounds_ne h]
   rw [h1];exact hs t
def Act.size_put(a:Act)(d:Option Nat)(V:Value):(a.put d V).tmps.size=a.tmps.size:=by
 cases d<;>simp [Act.put]
def Env.get_keep(e:Env)(l:List Nat)(t:Nat):(e.keep l).get t=e.get t\/(e.keep l).get t=.un:=by
 induction l with
 | nil=>right;rfl
 | cons x r ih =>
  simp only [Env.keep,Env.get];by_cases h:x=t
  ·subst h;left;simp
  ·have:Nat.beq x t=A6:=by cases hb:Nat.beq x t with
    | false=>rfl
    | true=>exact absurd (Nat.eq_of_beq_eq_true hb) h
   simpa [this] using ih
def SEnv.keep{U:Mu}{e:Env}{a:Act}(hs:SEnv U e a)(l:List Nat):SEnv U (e.keep l) a:=by
 intro t;rcases Env.get_keep e l t with h | h
 ·rw [h];exact hs t
 ·rw [h];trivial
def rd_some{h:A9}{id:Nat}{r:Row}:rd h id=A4 r↔h[id]?=A4 (A4 r):=by
 unfold rd;cases h[id]?<;>simp
def E1{h:A9}{id:Nat}{r:Row}(hr:rd h id=A4 r):id<h.length:=by
 rw [rd_some] at hr;exact (E8p.1 hr).1
def D5{h g:A9}{id:Nat}(hl:id<h.length):rd (h++g) id=rd h id:=by
 unfold rd;rw [E88 hl]
def B6{h g:A9}{id:Nat}{r:Row}(hr:rd h id=A4 r):rd (h++g) id=A4 r:=by
 rw [D5 (E1 hr)];exact hr
def D3{h:A9}{id:Nat}{x:Option Row}(hl:id<h.length):rd (h.set id x) id=x:=by
 unfold rd;rw [List.getElem?_set_self hl];rfl
def B7{h:A9}{id cP:Nat}{x:Option Row}(aZ:id≠cP):rd (h.set id x) cP=rd h cP:=by
 unfold rd;rw [E9r aZ]
def MemOk.mono{U U':Mu}{w w':World}{b n:Nat}{r:Row}(hr:MemOk U w b n r)(mI:U.le U')(hb:w'.heap[b]?=w.heap[b]?):MemOk U' w' b n r:=by
 obtain ⟨C,elem,fz,h1,h2,h3,h4⟩:=hr;exact ⟨C,elem,fz,by rw [hb];exact h1,h2,h3.mono λ_ _=>RL.mono mI,h4⟩
def RowOk.mono{U U':Mu}{w w':World}{id:Nat}{r:Row}(hr:RowOk U w id r)(mI:U.le U')(hid:U' id = U id)
  (hb:∀ x,U id=A4 x->w'.heap[x.1]?=w.heap[x.1]?):RowOk U' w' id r:=by
 unfold RowOk at *;rw [hid];cases hm:U id with
 | none=>rw [hm] at hr;exact hr
 | some x =>
  obtain ⟨b,n⟩:=x;rw [hm] at hr;have hb:=hb _ hm;simp only at hb;rcases hr with hr | ⟨es,E,h1,h2,h3,h4⟩ | ⟨h1,h2,h3⟩
  ·exact .inl (hr.mono mI hb)
  ·exact .inr (.inl ⟨es,E,h1,by rw [hb];exact h2,h3.mono λ_ _=>RE.mono mI,h4⟩)
  ·refine .inr (.inr ⟨h1,?_,h3⟩);have:w.heap[b]?=A4 w.heap[b]:=by simp [h2]
   rw [this] at hb;exact (Array.getElem?_eq_some_iff.1 hb).1
def RowOk.mem{U:Mu}{w:World}{id:Nat}{r:Row}(hr:RowOk U w id r){b n:Nat}(hm:U id=A4 (b,n))(pQ:r.rw=A5):MemOk U w b n r:=by
 unfold RowOk at hr;rw [hm] at hr;rcases hr with hr | ⟨es,E,h1,_⟩ | ⟨h1,_⟩
 ·exact hr
 ·rw [h1] at pQ;cases pQ
 ·rw [h1] at pQ;cases pQ
def RowOk.seen{U:Mu}{w:World}{id:Nat}{r:Row}(hr:RowOk U w id r){b n:Nat}(hm:U id=A4 (b,n)){c:Cell}(hc:c∈r.cells)(hx:(r.rw || !c.isX)=A5):MemOk U w b n r:=by
 unfold RowOk at hr;rw [hm] at hr;rcases hr with hr | ⟨es,E,h1,_⟩ | ⟨h1,_,h3⟩
 ·exact hr
 ·rw [h1] at hc hx;have:=C8b es c hc;rw [this] at hx;cases hx
 ·have:=C74 (E8O.1 h3 c hc);rw [h1,this] at hx;cases hx
def RowOk.cell{U:Mu}{w:World}{id:Nat}{r:Row}(hr:RowOk U w id r){b n:Nat}(hm:U id=A4 (b,n)){off:Nat}{c:Cell}(hc:r.cells[off]?=A4 c)(hx:(r.rw || !c.isX)=A5) :
  ∃ V,w.cell? ⟨b,off,A7⟩=A4 V/\RC U c V:=by
 obtain ⟨C,elem,fz,h1,h2,h3,h4⟩:=hr.seen hm (E8H hc) hx;obtain ⟨V,hV,hR⟩:=h3.get off c hc;refine ⟨V,?_,hR.told hx⟩;have W4:off<r.cells.length:=(E8p.1 hc).1;rw [E86 W4] at hV;simp only [World.cell?,h1];simpa using hV
def RowOk.cells{U:Mu}{w:World}{id:Nat}{r:Row}(hr:RowOk U w id r){b n:Nat}(hm:U id=A4 (b,n))(off k:Nat)(hk:off+k<=r.cells.length)(hx:(r.rw||noX ((r.cells.drop off).take k))=A5) :
  ∃ vs:List Value,All2 (RC U) ((r.cells.drop off).take k) vs/\vs.length=k/\∀ j v,vs[j]?=A4 v->w.cell? ⟨b,off+j,A7⟩=A4 v:=by
 by_cases hk0:k=0
 ·subst hk0;exact ⟨[],by simp,rfl,λj v h=>by simp at h⟩
 have mK:MemOk U w b n r:=by
  have W4:off<r.cells.length:=by omega
  refine hr.seen hm (c:=r.cells[off]) (List.getElem_mem _) ?_;cases pQ:r.rw with
  | true=>rfl
  | false =>
   rw [pQ] at hx;simp only [E9h,noX,E8O] at hx ⊢;refine hx _ ?_;obtain ⟨k',rfl⟩:∃ k',k=k'+1:=⟨k-1,by omega⟩;rw [E8s W4,List.take_succ_cons];exact List.mem_cons_self ..
 obtain ⟨C,elem,fz,h1,h2,h3,h4⟩:=mK;refine ⟨((C.toList.take r.cells.length).drop off).take k,RL.all ((h3.drop off).take k) hx,?_,?_⟩
 ·have:=h3.length;simp at this ⊢;omega
 ·intro j v hv;have hj:j<k:=by
   have:=(E8p.1 hv).1;simp at this;omega
  rw [E86 hj,List.getElem?_drop,E86 (by omega)] at hv;simp only [World.cell?,h1];simpa using hv
def RowOk.there{U:Mu}{w:World}{id:Nat}{r:Row}(hr:RowOk U w id r){b n:Nat}(hm:U id=A4 (b,n)):∃ o,w.heap[b]?=A4 o:=by
 unfold RowOk at hr;rw [hm] at hr;rcases hr with ⟨C,elem,fz,h1,_⟩ | ⟨es,E,_,h1,_⟩ | ⟨_,h1,_⟩
 ·exact ⟨_,h1⟩
 ·exact ⟨_,h1⟩
 ·exact ⟨w.heap[b],by simp [h1]⟩
def D6Z(e:Cell × Part)(es:V8):(A5v e).foldr C8f ([],es)=([],e::es):=by
 have hx:∀ (l:List Cell) (s:V8),(l.map Cell.hx).foldr C8f ([],s)=(l,s):=by
  intro l s
  induction l with
  | nil=>rfl
  | cons a l ih=>rw [E9c,List.foldr_cons,ih];rfl
 obtain ⟨k,p⟩:=e;cases p with
 | c x=>rfl
 | a l =>
  show (Cell.hk A5 k::l.map .hx).foldr C8f ([],es)=_;rw [List.foldr_cons,hx];rfl
def A8t(es:V8):D2P (B8J es)=es:=by
 have:∀ es:V8,(es.flatMap A5v).foldr C8f ([],[])=([],es):=by
  intro es
  induction es with
  | nil=>rfl
  | cons e es ih=>rw [List.flatMap_cons,List.foldr_append,ih,D6Z]
 show (C8f .mh ((es.flatMap A5v).foldr C8f ([],[]))).2=es;rw [this];rfl
def qW(es:V8):D4K (Q1 es)=A4 es:=by
 unfold D4K Q1;simp [A8t]
def B53{r:Row}{es:V8}(h:D4K r=A4 es):r=Q1 es:=by
 unfold D4K at h;split at h
 ·rename_i hc;cases h;obtain ⟨cs,rw⟩:=r;obtain ⟨h1,h2⟩:=hc;simp only at h1 h2;subst h1;show Row.mk cs A6=⟨_,A6⟩;rw [<-h2]
 ·cases h
def RowOk.map{U:Mu}{w:World}{id:Nat}{es:V8}(hr:RowOk U w id (Q1 es)){b n:Nat}(hm:U id=A4 (b,n)) :
  ∃ E:Array MapEntry,w.heap[b]?=A4 (.map E E.size)/\All2 (RE U) es E.toList/\∀ (i:Nat) (e:MapEntry),E[i]?=A4 e->e.born=i:=by
 unfold RowOk at hr;rw [hm] at hr;rcases hr with ⟨C,elem,fz,h1,h2,h3,_⟩ | ⟨es',E,h1,h2,h3,h4⟩ | ⟨_,_,h1⟩
 ·exfalso;have hl:=h3.length;cases hC:C.toList.take (Q1 es).cells.length with
  | nil=>rw [hC] at hl;simp [Q1,B8J] at hl
  | cons v vs =>
   rw [hC] at h3;rcases h3.1 with h | ⟨_,h⟩
   ·exact h
   ·cases h
 ·have:es=es':=by rw [<-A8t es,<-A8t es'];exact congrArg (λr=>D2P r.cells) h1
  subst this;exact ⟨E,h2,h3,h4⟩
 ·simp [Q1,B8J,Cell.isD] at h1
def Inv.lt{J:Ctx}{U:Mu}{h:A9}{w:World}(hi:Inv J U h w){id:Nat}{r:Row}(hr:rd h id=A4 r){x:Nat × Nat}(hx:U id=A4 x):x.1<w.heap.size:=by
 obtain ⟨o,h1⟩:=(hi.rows id r hr).there hx;exact (Array.getElem?_eq_some_iff.1 h1).1
def Mu.add(U:Mu)(id:Nat)(x:Nat × Nat):Mu:=λj=>if j=id then A4 x else U j
def Mu.le_add{U:Mu}{id:Nat}{x:Nat × Nat}(h:U id=A7):U.le (U.add id x):=by
 intro j y hj;unfold Mu.add;by_cases e:j=id
 ·subst e;rw [h] at hj;cases hj
 ·simp [e,hj]
def Inv.world{J:Ctx}{U:Mu}{h:A9}{w w':World}(hi:Inv J U h w)(hos:w'.os=w.os)(htape:w'.tape=w.tape)(hout:w'.output=w.output)
  (hb:∀ b,b<w.heap.size->w'.heap[b]?=w.heap[b]?):Inv J U h w' where
 rows id r hr:=(hi.rows id r hr).mono (Mu.le_refl _) rfl λx hx=>hb _ (hi.lt hr hx)
 sep:=hi.sep
 own:=hi.own
 dom:=hi.dom
 ctx:=⟨hos.trans hi.ctx.os,htape.trans hi.ctx.tape,hout.trans hi.ctx.output,λb o ho=>by
  have h1:=hi.ctx.block b o ho;rw [hb b (Array.getElem?_eq_some_iff.1 h1).1];exact h1⟩
def Inv.fresh{J:Ctx}{U:Mu}{h:A9}{w w':World}(hi:Inv J U h w){id:Nat}{r:Row}{h':A9}{n:Nat}
  (hμ:U id=A7) (hos:w'.os=w.os) (htape:w'.tape=w.tape) (hout:w'.output=w.output)
  (hb:∀ b,b<w.heap.size->w'.heap[b]?=w.heap[b]?)
  (hsame:∀ j,j≠id->∀ x,rd h' j=A4 x->rd h j=A4 x) (C9P:∀ x,rd h' id=A4 x->x=r) (hlen:h.length<=h'.length) (hid:id<h'.length)
  (hrow:RowOk (U.add id (w.heap.size,n)) w' id r):Inv J (U.add id (w.heap.size,n)) h' w' where
 rows j x hx:=by
  by_cases e:j=id
  ·subst e;rw [C9P x hx];exact hrow
  ·exact (hi.rows j x (hsame j e x hx)).mono (Mu.le_add hμ) (by simp [Mu.add,e]) λy hy=>hb _ (hi.lt (hsame j e x hx) hy)
 sep j j' x x' y y' hx hx' pQ aZ hy hy':=by
  unfold Mu.add at hy hy';by_cases e:j=id
  ·subst e;have e':j'≠j:=λh=>aZ h.symm
   simp at hy;simp [e'] at hy';have:=hi.lt (hsame j' e' x' hx') hy';subst hy;show w.heap.size≠y'.1;omega
  ·simp [e] at hy;by_cases e':j'=id
   ·subst e';simp at hy';have:=hi.lt (hsame j e x hx) hy;subst hy';show y.1≠w.heap.size;omega
   ·simp [e'] at hy';exact hi.sep j j' x x' y y' (hsame j e x hx) (hsame j' e' x' hx') pQ aZ hy hy'
 own j x y hx pQ hy:=by
  unfold Mu.add at hy;by_cases e:j=id
  ·subst e;simp at hy;subst hy;show J.F w.heap.size=A7;cases hF:J.F w.heap.size with
   | none=>rfl
   | some o=>have:=(Array.getElem?_eq_some_iff.1 (hi.ctx.block _ _ hF)).1;omega
  ·simp [e] at hy;exact hi.own j x y (hsame j e x hx) pQ hy
 dom j hj:=by
  have e:j≠id:=by omega
  simp only [Mu.add,e,if_false];exact hi.dom j (by omega)
 ctx:=⟨hos.trans hi.ctx.os,htape.trans hi.ctx.tape,hout.trans hi.ctx.output,λb o ho=>by
  have h1:=hi.ctx.block b o ho;rw [hb b (Array.getElem?_eq_some_iff.1 h1).1];exact h1⟩
def Inv.turn{J:Ctx}{U:Mu}{h:A9}{w w':World}(hi:Inv J U h w){id:Nat}{r r':Row}{b n:Nat}(hr:rd h id=A4 r)(pQ:r.own=A5)(E7I:r'.own=A5)(hμ:U id=A4 (b,n))
  (hos:w'.os=w.os) (htape:w'.tape=w.tape) (hout:w'.output=w.output) (hb:∀ b',b'≠b->w'.heap[b']?=w.heap[b']?)
  (hrow:RowOk U w' id r'):Inv J U (h.set id (A4 r')) w' where
 rows j x hx:=by
  by_cases e:j=id
  ·subst e;rw [D3 (E1 hr)] at hx;cases hx;exact hrow
  ·rw [B7 (Ne.symm e)] at hx;exact (hi.rows j x hx).mono (Mu.le_refl _) rfl λy hy=>hb _ (Ne.symm (hi.sep id j r x (b,n) y hr hx pQ (Ne.symm e) hμ hy))
 sep j j' x x' y y' hx hx' hxw aZ hy hy':=by
  have get:∀ i z,rd (h.set id (A4 r')) i=A4 z->z.own=A5->∃ z',rd h i=A4 z'/\z'.own=A5:=by
   intro i z hz hzw;by_cases e:i=id
   ·subst e;exact ⟨r,hr,pQ⟩
   ·rw [B7 (Ne.symm e)] at hz;exact ⟨z,hz,hzw⟩
  have get':∀ i z,rd (h.set id (A4 r')) i=A4 z->∃ z',rd h i=A4 z':=by
   intro i z hz;by_cases e:i=id
   ·subst e;exact ⟨r,hr⟩
   ·rw [B7 (Ne.symm e)] at hz;exact ⟨z,hz⟩
  obtain ⟨z,hz,hzw⟩:=get j x hx hxw;obtain ⟨z',hz'⟩:=get' j' x' hx';exact hi.sep j j' z z' y y' hz hz' hzw aZ hy hy'
 own j x y hx hxw hy:=by
  by_cases e:j=id
  ·subst e;exact hi.own j r y hr pQ hy
  ·rw [B7 (Ne.symm e)] at hx;exact hi.own j x y hx hxw hy
 dom j hj:=hi.dom j (by simpa using hj)
 ctx:=⟨hos.trans hi.ctx.os,htape.trans hi.ctx.tape,hout.trans hi.ctx.output,λb' o ho=>by
  have aZ:b'≠b:=by
   intro e;subst e;have:=hi.own id r (b',n) hr pQ hμ;simp at this;rw [ho] at this;cases this
  rw [hb b' aZ];exact hi.ctx.block b' o ho⟩
def Inv.write{J:Ctx}{U:Mu}{h:A9}{w w':World}(hi:Inv J U h w){id:Nat}{r:Row}{b n:Nat}{cs:List Cell}(hr:rd h id=A4 r)(pQ:r.rw=A5)(hμ:U id=A4 (b,n))
  (hos:w'.os=w.os) (htape:w'.tape=w.tape) (hout:w'.output=w.output) (hb:∀ b',b'≠b->w'.heap[b']?=w.heap[b']?)
  (hrow:RowOk U w' id ⟨cs,A5⟩):Inv J U (h.set id (A4 ⟨cs,A5⟩)) w' :=
 hi.turn hr (Row.own_rw pQ) rfl hμ hos htape hout hb hrow
def oM(P:Program)(t:TypeId):Option Bool :=
 match P.underlying t with
 | some (.struct _)=>A4 A5
 | some (.array _ _)=>A4 A5
 | some _=>A4 A6
 | none=>A7
def T0(P:Program)(t:TypeId):Option Nat:=(P.info? t).map (·.size)
def C6W(P:Program)(t:TypeId):Option Nat:=(P.info? t).map (·.bytes)
def A2O(P:Program)(t:TypeId):Option Value:=(P.info? t).bind (·.zero)
def sliceB(P:Program)(t:TypeId):Option TypeId:=match P.underlying t with | some (.slice e)=>A4 e | _=>A7
def uT(P:Program)(t:TypeId):Option (Nat × TypeId):=match P.underlying t with | some (.array n e)=>A4 (n,e) | _=>A7
def A7m(P:Program)(t:TypeId):Option (Array Field):=match P.underlying t with | some (.struct fs)=>A4 fs | _=>A7
def dV(P:Program)(t:TypeId):Bool:=match P.underlying t with | some .string=>A5 | _=>A6
def B8G(P:Program)(t:TypeId):Option IntKind:=match P.underlying t with | some (.int k)=>A4 k | _=>A7
section
variable {P:Program} {w:World} {t:TypeId}
def F8{d:TypeDesc}(h:P.underlying t=A4 d):(underlying t).run P w=.ok d w:=by simp [underlying,h]
def R3{n:Nat}(h:T0 P t=A4 n):(sizeOf t).run P w=.ok n w:=by
 unfold T0 at h;cases hi:P.info? t with
 | none=>simp [hi] at h
 | some i=>simp [hi] at h;simp [sizeOf,typeInfo,hi,h]
def D97{n:Nat}(h:C6W P t=A4 n):∃ i:TypeInfo,(typeInfo t).run P w=.ok i w/\i.bytes=n:=by
 unfold C6W at h;cases hi:P.info? t with
 | none=>simp [hi] at h
 | some i=>simp [hi] at h;exact ⟨i,by simp [typeInfo,hi],h⟩
def A2I{v:Value}(h:A2O P t=A4 v):(zeroValue t).run P w=.ok v w:=by
 unfold A2O at h;cases hi:P.info? t with
 | none=>simp [hi] at h
 | some i=>simp [hi] at h;simp [zeroValue,typeInfo,hi,h]
def B6b{b:Bool}(h:oM P t=A4 b):(isAgg t).run P w=.ok b w:=by
 unfold oM at h;cases hu:P.underlying t with
 | none=>simp [hu] at h
 | some d=>cases d<;>simp [hu] at h<;>subst h<;>simp [isAgg,F8 hu]
def Q7{e:TypeId}(h:sliceB P t=A4 e):P.underlying t=A4 (.slice e):=by
 unfold sliceB at h;cases hu:P.underlying t with
 | none=>simp [hu] at h
 | some d=>cases d<;>simp_all
def uU{n:Nat}{e:TypeId}(h:uT P t=A4 (n,e)):P.underlying t=A4 (.array n e):=by
 unfold uT at h;cases hu:P.underlying t with
 | none=>simp [hu] at h
 | some d=>cases d<;>simp_all
def A7n{fs:Array Field}(h:A7m P t=A4 fs):P.underlying t=A4 (.struct fs):=by
 unfold A7m at h;cases hu:P.underlying t with
 | none=>simp [hu] at h
 | some d=>cases d<;>simp_all
def pP(h:dV P t=A5):P.underlying t=A4 .string:=by
 unfold dV at h;cases hu:P.underlying t with
 | none=>simp [hu] at h
 | some d=>cases d<;>simp_all
def A9U{k:IntKind}(h:B8G P t=A4 k):P.underlying t=A4 (.int k):=by
 unfold B8G at h;cases hu:P.underlying t with
 | none=>simp [hu] at h
 | some d=>cases d<;>simp_all
end
def C5H:Value->Cell->Bool
 | .bool b,.b x=>b==x
 | .int k n,.i k' n'=>decide (k=k')&&decide (n=n')
 | .string s,.s l=>decide (s.data.toList=l)
 | .slice A7 0 0,.ns=>A5
 | .nilFunc,.nf=>A5
 | .pointer A7,.np=>A5
 | .map A7,.nm=>A5
 | .func (.func f) _ cs,.f g l=>decide (f=g)&&l.isEmpty&&cs.isEmpty
 | _,_=>A6
def A5q:List Value->List Cell->Bool
 | [],[]=>A5
 | v::r,c::l=>C5H v c&&A5q r l
 | _,_=>A6
def C61:Value->Val->Bool
 | .agg vs,.a l=>A5q vs.toList l
 | .tuple vs,.un=>vs.isEmpty
 | v,.c x=>C5H v x
 | _,_=>A6
def A09:Value->Bool
 | .func _ f _=>f.isEmpty
 | _=>A5
def E05:Operand->Opd->Bool
 | .tmp t,.t n=>decide (t=n)
 | .const v,.v x=>C61 v x&&A09 v
 | .func f,.v (.c (.f g []))=>decide (f=g)
 | _,_=>A6
def C60{U:Mu}{v:Value}{c:Cell}(h:C5H v c=A5)(hf:A09 v=A5):RC U c v:=by
 unfold C5H at h;split at h<;>simp_all [RC,A09]
 all_goals first
  | (obtain ⟨s⟩:=‹ByteArray›;rename_i tH;simp [<-tH];done)
  | skip
 ·subst h;rfl
def C8k:Value->Bool
 | .func ..=>A6
 | _=>A5
def C9I{v:Value}(h:C8k v=A5):A09 v=A5:=by cases v<;>simp_all [C8k,A09]
def B4m{U:Mu}:∀ {vs:List Value} {l:List Cell},A5q vs l=A5->vs.all C8k=A5->All2 (RC U) l vs
 | [],[],_,_=>trivial
 | v::r,c::l,h,hn=>by
  simp [A5q] at h;simp at hn;exact ⟨C60 h.1 (C9I hn.1),B4m h.2 (by simpa using hn.2)⟩
 | [],_::_,h,_=>by simp [A5q] at h
 | _::_,[],h,_=>by simp [A5q] at h
def nF(v:Value)(l:List Cell):Bool:=A5q v.cells.toList l&&v.cells.toList.all C8k
def jZ{U:Mu}{v:Value}{l:List Cell}(h:nF v l=A5):All2 (RC U) l v.cells.toList:=by
 simp only [nF,E8j] at h;exact B4m h.1 h.2
def D0t:Value->Bool
 | .agg vs=>vs.toList.all C8k
 | _=>A5
def D3T{U:Mu}{v:Value}{x:Val}(h:C61 v x=A5)(hf:A09 v=A5)(ha:D0t v=A5):RV U x v:=by
 unfold C61 at h;split at h
 ·rename_i vs l;exact ⟨vs.toList,by simp,B4m h ha⟩
 ·trivial
 ·exact C60 h hf
 ·cases h
def E9(x:Operand)(y:Opd):Bool:=E05 x y&&(match x with | .const v=>D0t v | _=>A5)
def D4{U:Mu}{e:Env}{a:Act}{x:Operand}{y:Opd}(h:E9 x y=A5)(hs:SEnv U e a):RV U (e.ev y) (a.eval x):=by
 simp only [E9,E8j] at h;obtain ⟨h,ha⟩:=h;unfold E05 at h;split at h
 ·simp at h;subst h;exact hs _
 ·simp at h;exact D3T h.1 h.2 ha
 ·simp at h;subst h;exact ⟨[],rfl,trivial⟩
 ·cases h
def A61:List Operand->List Opd->Bool
 | [],[]=>A5
 | x::r,y::l=>E9 x y&&A61 r l
 | _,_=>A6
def A5r{U:Mu}{e:Env}{a:Act}(hs:SEnv U e a):∀ {xs:List Operand} {ys:List Opd},A61 xs ys=A5->All2 (RV U) (ys.map e.ev) (xs.map a.eval)
 | [],[],_=>trivial
 | x::r,y::l,h=>by simp [A61] at h;exact ⟨D4 h.1 hs,A5r hs h.2⟩
 | [],_::_,h=>by simp [A61] at h
 | _::_,[],h=>by simp [A61] at h
def B4o:Option Operand->Option Opd->Bool
 | none,none=>A5
 | some x,A4 y=>E9 x y
 | _,_=>A6
section
variable {P:Program} {U:Mu} {w:World}
def D3N:∀ (x y:List UInt8),Op.bytesLess x y=Y5 x y
 | _,[]=>by cases ‹List UInt8› <;> rfl
 | [],_::_=>rfl
 | a::x,b::y=>by simp [Op.bytesLess,Y5,D3N x y]
def E4h{op:BinOp}{xt:TypeId}{x y v:Val}{X Y:Value}(hx:RV U x X)(hy:RV U y Y)(h:N4 op x y=A4 v) :
  ∃ V,(binOp op xt X Y).run P w=.ok V w/\RV U v V:=by
 unfold N4 at h;split at h
 ·rename_i k a k' b;have hX:X=.int k a:=hx;have hY:Y=.int k' b:=hy;subst hX hY;have key:∀ o,o≠BinOp.shl->o≠BinOp.shr->∀ v,(bif decide (k=k') then (B4R o k a b).map Val.c else A7)=A4 v->∃ V,(binOp o xt (.int k a) (.int k' b)).run P w=.ok V w/\RV U v V:=by
   intro o h1 h2 v hv;by_cases hk:k=k'
   ·subst hk;simp at hv;obtain ⟨c,hc,rfl⟩:=hv;cases o<;>simp only [B4R] at hc<;>(try cases hc) <;>
     first
      | exact ⟨_,by simp [binOp,Op.intArith,Op.intBits,Op.intCmp],rfl⟩
      | (split at hc<;>cases hc;rename_i hb;exact ⟨_,by simp [binOp,Op.intDiv,hb],rfl⟩)
      | skip
   ·simp [hk] at hv
  split at h
  ·unfold E5M at h;split at h
   ·simp at h
   ·simp at h;subst h;rename_i hb;refine ⟨.int k (k.wrap (a*2 ^ (Nat.min b.toNat k.bits))),?_,rfl⟩;simp [binOp,Op.shift,hb,Nat.min_def]
  ·unfold E5N at h;split at h
   ·simp at h
   ·simp at h;subst h;rename_i hb;refine ⟨.int k (a.fdiv (2 ^ (Nat.min b.toNat k.bits))),?_,rfl⟩;simp [binOp,Op.shift,hb,Nat.min_def]
  ·rename_i h1 h2;exact key op h1 h2 v h
 ·rename_i a b;have hX:X=.string ⟨a.toArray⟩:=hx;have hY:Y=.string ⟨b.toArray⟩:=hy;subst hX hY;simp only [E8G] at h;obtain ⟨c,hc,rfl⟩:=h;cases op<;>simp only [E2P] at hc<;>(try cases hc)
  ·split at hc<;>cases hc
   rename_i hl;refine ⟨.string (⟨a.toArray⟩++⟨b.toArray⟩),?_,?_⟩
   ·have:¬ (((ByteArray.mk a.toArray).size+(ByteArray.mk b.toArray).size:Nat):Int) > IntKind.i64.max:=by
     show ¬ ((a.toArray.size+b.toArray.size:Nat):Int) > 9223372036854775807;simp;omega
    simp [binOp,Op.stringOp] at this ⊢;exact this
   ·show Value.string _=Value.string _
    congr 1
  all_goals exact ⟨_,rfl,by simp [RV,RC,ByteArray.toList_mk,D3N]⟩
 ·cases h
def D2y(P:Program)(fn:Bool)(t:TypeId)(c:Value):Bool :=
 match fn,P.underlying t,c with
 | true,A4 (.func ..),.nilFunc=>A5
 | false,A4 (.pointer _),.pointer none=>A5
 | _,_,_=>A6
def D9q{fn:Bool}{t:TypeId}{c:Value}(h:D2y P fn t c=A5):(fn=A5/\(∃ a b d,P.underlying t=A4 (.func a b d))/\c=.nilFunc)\/(fn=A6/\(∃ a,P.underlying t=A4 (.pointer a))/\c=.pointer A7):=by
 unfold D2y at h;split at h
 ·rename_i h2;exact .inl ⟨rfl,⟨_,_,_,h2⟩,rfl⟩
 ·rename_i h2;exact .inr ⟨rfl,⟨_,h2⟩,rfl⟩
 ·cases h
def C7v{xt:TypeId}{a b:Bool}(hu:P.underlying xt=A4 .bool):(Op.equal xt (.bool a) (.bool b)).run P w=.ok (a==b) w:=by
 unfold Op.equal;rw [show Op.maxDepth=9999+1 from rfl];unfold Op.equalIn;simp only [Sem.run_bind,F8 hu,Result.andThen_ok];rfl
def E4k{neg:Bool}{xt:TypeId}{x y v:Val}{X Y:Value}(hu:P.underlying xt=A4 .bool)(hx:RV U x X)(hy:RV U y Y)(h:D54 neg x y=A4 v) :
  ∃ V,(binOp (bif neg then .neq else .eql) xt X Y).run P w=.ok V w/\RV U v V:=by
 unfold D54 at h;split at h
 ·rename_i a b;have hX:X=.bool a:=hx;have hY:Y=.bool b:=hy;subst hX hY;cases h;cases neg
  ·exact ⟨_,by show (Op.equal xt (.bool a) (.bool b) >>= λr=>pure (Value.bool r)).run P w=_;rw [Sem.run_bind,C7v hu];rfl,rfl⟩
  ·exact ⟨_,by show (Op.equal xt (.bool a) (.bool b) >>= λr=>pure (Value.bool !r)).run P w=_;rw [Sem.run_bind,C7v hu];rfl,rfl⟩
 ·cases h
def E4l{fn neg:Bool}{xt:TypeId}{x v:Val}{X c:Value}(hu:D2y P fn xt c=A5)(hx:RV U x X)(h:D16 fn neg x=A4 v) :
  ∃ V,(binOp (bif neg then .neq else .eql) xt X c).run P w=.ok V w/\RV U v V:=by
 unfold D16 at h;have one:∀ (r:Bool),(binOp (bif neg then .neq else .eql) xt X c=(Op.equal xt X c >>= λr=>pure (Value.bool (bif neg then !r else r))))->(Op.equal xt X c).run P w=.ok r w->(binOp (bif neg then .neq else .eql) xt X c).run P w=.ok (.bool (bif neg then !r else r)) w:=by
  intro r e1 he;rw [e1,Sem.run_bind,he];rfl
 rcases D9q hu with ⟨rfl,⟨a,b,d,h2⟩,rfl⟩ | ⟨rfl,⟨a,h2⟩,rfl⟩
 ·have eq:∀ (r:Bool),((X=.nilFunc/\r=A5)\/(∃ g cs,X=.func (.func g) #[] cs/\r=A6))->(Op.equal xt X .nilFunc).run P w=.ok r w:=by
   intro r h;unfold Op.equal;rw [show Op.maxDepth=9999+1 from rfl];unfold Op.equalIn;rcases h with ⟨rfl,rfl⟩ | ⟨g,cs,rfl,rfl⟩<;>simp only [Sem.run_bind,F8 h2,Result.andThen_ok]<;>rfl
  split at h
  ·cases h;have hX:X=.nilFunc:=hx;subst hX;exact ⟨_,one A5 (by cases neg<;>rfl) (eq A5 (.inl ⟨rfl,rfl⟩)),by cases neg<;>rfl⟩
  ·cases h;obtain ⟨cs,hX,_⟩:=hx;subst hX;exact ⟨_,one A6 (by cases neg<;>rfl) (eq A6 (.inr ⟨_,_,rfl,rfl⟩)),by cases neg<;>rfl⟩
  ·rename_i h3;cases h3
  ·rename_i h3;cases h3
  ·cases h
 ·have eq:∀ (r:Bool),((X=.pointer A7/\r=A5)\/(∃ q,X=.pointer (A4 q)/\r=A6))->(Op.equal xt X (.pointer A7)).run P w=.ok r w:=by
   intro r h;unfold Op.equal;rw [show Op.maxDepth=9999+1 from rfl];unfold Op.equalIn;rcases h with ⟨rfl,rfl⟩ | ⟨q,rfl,rfl⟩<;>simp only [Sem.run_bind,F8 h2,Result.andThen_ok]<;>rfl
  split at h
  ·rename_i h3;cases h3
  ·rename_i h3;cases h3
  ·cases h;have hX:X=.pointer A7:=hx;subst hX;exact ⟨_,one A5 (by cases neg<;>rfl) (eq A5 (.inl ⟨rfl,rfl⟩)),by cases neg<;>rfl⟩
  ·cases h;obtain ⟨b,n,_,hX⟩:=hx;subst hX;exact ⟨_,one A6 (by cases neg<;>rfl) (eq A6 (.inr ⟨_,rfl,rfl⟩)),by cases neg<;>rfl⟩
  ·cases h
def E57{op:UnOp}{x v:Val}{X:Value}(hx:RV U x X)(h:aun op x=A4 v):∃ V,(Op.unary op X).run P w=.ok V w/\RV U v V:=by
 unfold aun at h;split at h<;>cases h<;>cases hx<;>exact ⟨_,rfl,rfl⟩
def oL(b off k:Nat):(⟨b,off,A7⟩:Addr).add k=⟨b,off+k,A7⟩:=by
 unfold Addr.add;split<;>simp_all
def D1v{t:TypeId}{hp:A9}{a v:Val}{A:Value}(tG:oM P t=A4 A6)(hrow:∀ id r,rd hp id=A4 r->RowOk U w id r)
  (ha:RV U a A) (h:B9 hp a=A4 v):∃ V,(Instr.loadAt t A).run P w=.ok V w/\RV U v V:=by
 unfold B9 at h;split at h
 ·rename_i id off;obtain ⟨b,n,hm,rfl⟩:=ha;simp only [E8i] at h;obtain ⟨r,hr,c,hc,h⟩:=h;cases hx:(r.rw || !c.isX) with
  | false=>rw [hx] at h;cases h
  | true =>
  rw [hx] at h;cases h;obtain ⟨V,hV,hR⟩:=(hrow id r hr).cell hm hc hx;refine ⟨V,?_,hR⟩;simp [Instr.loadAt,Instr.sureAddr,loadVar,B6b tG,hV]
 ·cases h
def D1w{t:TypeId}{hp:A9}{a v:Val}{A:Value}{k:Nat}(tG:oM P t=A4 A5)(hsz:T0 P t=A4 k)(hrow:∀ id r,rd hp id=A4 r->RowOk U w id r)
  (ha:RV U a A) (h:C9 hp k a=A4 v):∃ V,(Instr.loadAt t A).run P w=.ok V w/\RV U v V:=by
 unfold C9 at h;split at h
 ·rename_i id off;obtain ⟨b,n,hm,rfl⟩:=ha;simp only [E8i] at h;obtain ⟨r,hr,h⟩:=h;split at h
  ·cases h;rename_i hk;obtain ⟨vs,h1,h2,h3⟩:=(hrow id r hr).cells hm off k hk.1 hk.2;refine ⟨.agg vs.toArray,?_,vs,rfl,h1⟩;have hl:=run_loadCells_list (P:=P) w ⟨b,off,A7⟩ vs (λj v hv=>by rw [oL];exact h3 j v hv);rw [h2] at hl;simp [Instr.loadAt,Instr.sureAddr,loadVar,B6b tG,R3 hsz,hl]
  ·cases h
 ·cases h
def A8y(b:Nat):∀ (vs:List Value) (o:Nat) (w:World) (C:Array Value) (t:TypeId) (fz:Nat × Nat),w.heap[b]?=A4 (.cells C t fz)->o+vs.length<=C.size ->
  ∃ C':Array Value,(w.setCells b o vs).heap[b]?=A4 (.cells C' t fz)/\C'.toList=C.toList.take o++(vs++C.toList.drop (o+vs.length))
 | [],o,w,C,t,fz,h,hl=>⟨C,h,by simp⟩
 | v::r,o,w,C,t,fz,h,hl=>by
  simp only [E8w] at hl;have h1:(w.setCell ⟨b,o,A7⟩ v).heap[b]?=A4 (.cells (C.setIfInBounds o v) t fz):=by
   simp only [World.setCell,Array.getElem?_modify,if_true,h,Option.map_some];simp
  obtain ⟨C',h2,h3⟩:=A8y b r (o+1) (w.setCell ⟨b,o,A7⟩ v) (C.setIfInBounds o v) t fz h1 (by simp;omega);refine ⟨C',h2,?_⟩;rw [h3];have ho:o<C.toList.length:=by simp;omega
  simp only [Array.toList_setIfInBounds];rw [List.drop_set_of_lt (by omega),E8w,show o+1+r.length=o+(r.length+1) by omega];rw [List.take_set,List.take_add_one,List.set_append];have hm:min o C.size=o:=Nat.min_eq_left (by simp at ho;omega);simp [E8h ho,hm]
def A5P(b:Nat):∀ (vs:List Value) (o:Nat) (w:World) (b':Nat),b'≠b->(w.setCells b o vs).heap[b']?=w.heap[b']?
 | [],_,_,_,_=>rfl
 | v::r,o,w,b',h=>by
  rw [World.setCells,A5P b r (o+1) _ b' h];simp [World.setCell,Array.getElem?_modify,Ne.symm h]
def B5q(b:Nat):∀ (vs:List Value) (o:Nat) (w:World),(w.setCells b o vs).os=w.os/\(w.setCells b o vs).tape=w.tape/\(w.setCells b o vs).output=w.output
 | [],_,_=>⟨rfl,rfl,rfl⟩
 | v::r,o,w=>by rw [World.setCells];exact B5q b r (o+1) _
def All2.lay{U:Mu}{cs xs:List Cell}{off:Nat}{Cs vs:List Value}(h:All2 (RC U) cs (Cs.take cs.length))(hx:All2 (RC U) xs vs)(hl:off+xs.length<=cs.length) :
  All2 (RC U) (lay cs off xs) ((Cs.take off++(vs++Cs.drop (off+vs.length))).take (lay cs off xs).length):=by
 have hlen:=h.length;have hxl:=hx.length;have hL:(Esc.lay cs off xs).length=cs.length:=by simp [Esc.lay];omega
 rw [hL];have e:(Cs.take off++(vs++Cs.drop (off+vs.length))).take cs.length=(Cs.take cs.length).take off++(vs++(Cs.take cs.length).drop (off+vs.length)):=by
  have h1:cs.length<=Cs.length:=by simp at hlen;omega
  rw [List.take_append,List.take_append,List.take_take,List.take_take,E8Y,List.drop_take,Nat.min_eq_left (by omega:off<=cs.length),Nat.min_eq_right (by omega:off<=cs.length),Nat.min_eq_left (by omega:off<=Cs.length)];rw [E8B (by omega:vs.length<=cs.length-off)]
  congr 3
  omega
 rw [e];unfold Esc.lay;rw [<-hxl];exact (h.take off).append (hx.append (h.drop _))
def C8O{J:Ctx}{h:A9}{id off b n:Nat}{r:Row}{xs:List Cell}{vs:List Value}(hi:Inv J U h w)(hr:rd h id=A4 r)(pQ:r.rw=A5)(hm:U id=A4 (b,n))
  (hx:All2 (RC U) xs vs) (hl:off+xs.length<=r.cells.length) :
  (storeCells ⟨b,off,A7⟩ vs).run P w=.ok () (w.setCells b off vs)/\Inv J U (h.set id (A4 ⟨lay r.cells off xs,A5⟩)) (w.setCells b off vs):=by
 obtain ⟨C,elem,fz,h1,h2,h3,h4⟩:=(hi.rows id r hr).mem hm pQ
 replace h3:=RL.all h3 (by rw [pQ];rfl)
 have hlen:=h3.length;have hxl:=hx.length;simp at hlen;have A9P:∀ j,j<vs.length->(w.cell? ⟨b,off+0+j,A7⟩).isSome=A5:=by
  intro j hj;simp only [World.cell?,h1];simp;omega
 have hfz:∀ j,j<vs.length->w.frozen? ⟨b,off+0+j,A7⟩=A6:=by
  intro j hj;simp only [World.frozen?,h1];obtain ⟨lo,hi'⟩:=fz;rcases h4 pQ with h4 | h4<;>simp at h4 ⊢ <;> omega
 have h1c:∀ v∈vs,v.oneCell'=A5:=by
  intro v hv;obtain ⟨i,W4,rfl⟩:=List.getElem_of_mem hv;have:i<xs.length:=by omega
  obtain ⟨V,hV,hR⟩:=hx.get i xs[i] (by simp [this]);rw [E8h W4] at hV;cases hV;exact hR.one
 refine ⟨by simpa using run_storeCells_cells (P:=P) b off vs 0 w A9P hfz h1c,?_⟩;obtain ⟨C',h5,h6⟩:=A8y b vs off w C elem fz h1 (by omega);obtain ⟨ho,ht,hou⟩:=B5q b vs off w;refine hi.write hr pQ hm ho ht hou (λb' hb=>A5P b vs off w b' hb) ?_;unfold RowOk;rw [hm];refine .inl ⟨C',elem,fz,h5,?_,?_,λ_=>h4 pQ⟩
 ·have:=congrArg List.length h6;simp at this;omega
 ·rw [h6];exact (All2.lay h3 hx hl).mono λ_ _=>.inl
def D7m{J:Ctx}{t:TypeId}{h h':A9}{a x:Val}{A X:Value}(hsz:T0 P t=A4 1)(hi:Inv J U h w)(ha:RV U a A)(hx:RV U x X)(hh:I8 h a x=A4 h') :
  ∃ w',(Instr.storeAt t A X).run P w=.ok () w'/\Inv J U h' w':=by
 unfold I8 at hh;split at hh
 ·rename_i id off c;obtain ⟨b,n,hm,rfl⟩:=ha;simp only [E8i] at hh;obtain ⟨r,hr,hh⟩:=hh;split at hh
  ·cases hh;rename_i hc;have C0t:X.cells = #[X]:=RC.cells hx;have:=C8O (P:=P) hi hr hc.1 hm (off:=off) (xs:=[c]) (vs:=[X]) ⟨hx,trivial⟩ (by simp;omega);refine ⟨w.setCells b off [X],?_,?_⟩
   ·simp [Instr.storeAt,Instr.sureAddr,storeVar,C0t,R3 hsz,this.1]
   ·have e:lay r.cells off [c]=r.cells.set off c:=by
     simp [lay,List.set_eq_take_append_cons_drop,hc.2]
    rw [<-e];exact this.2
  ·cases hh
 ·cases hh
def D7n{J:Ctx}{t:TypeId}{h h':A9}{a x:Val}{A X:Value}{k:Nat}(hsz:T0 P t=A4 k)(hi:Inv J U h w)(ha:RV U a A)(hx:RV U x X)(hh:F7 h k a x=A4 h') :
  ∃ w',(Instr.storeAt t A X).run P w=.ok () w'/\Inv J U h' w':=by
 unfold F7 at hh;split at hh
 ·rename_i id off xs;obtain ⟨b,n,hm,rfl⟩:=ha;obtain ⟨vs,rfl,hvs⟩:=hx;simp only [E8i] at hh;obtain ⟨r,hr,hh⟩:=hh;split at hh
  ·cases hh;rename_i hc;have:=C8O (P:=P) hi hr hc.1 hm (off:=off) hvs (by omega);refine ⟨w.setCells b off vs,?_,this.2⟩;have hl:=hvs.length;have hk:vs.length=k:=by omega
   simp [Instr.storeAt,Instr.sureAddr,storeVar,Value.cells,R3 hsz,hk,this.1]
  ·cases hh
 ·cases hh
end
section
variable {P:Program} {U:Mu} {w:World}
def E4m{x v:Val}{X:Value}{k:Nat}(hx:RV U x X)(h:E0H x k=A4 v):∃ V,(Instr.extract X k).run P w=.ok V w/\RV U v V:=by
 unfold E0H at h;split at h
 ·rename_i l;obtain ⟨vs,rfl,hvs⟩:=hx;simp only [E8G] at h;obtain ⟨p,hp,rfl⟩:=h;obtain ⟨V,hV,hR⟩:=hvs.get k p hp;exact ⟨V,by simp [Instr.extract,hV],RV.ofPart hR⟩
 ·cases h
def D1x{t:TypeId}{l:List Cell}{vs:List Value}{off:Nat}{c:Cell}(tG:oM P t=A4 A6)(hvs:All2 (RC U) l vs)(h:l[off]?=A4 c) :
  ∃ V,(part t vs.toArray off).run P w=.ok V w/\RC U c V:=by
 obtain ⟨V,hV,hR⟩:=hvs.get off c h;exact ⟨V,by simp [part,B6b tG,hV],hR⟩
def D1y{t:TypeId}{l:List Cell}{vs:List Value}{off n:Nat}(tG:oM P t=A4 A5)(hsz:T0 P t=A4 n)(hvs:All2 (RC U) l vs)(h:off+n<=l.length) :
  ∃ V,(part t vs.toArray off).run P w=.ok V w/\RV U (.a ((l.drop off).take n)) V:=by
 refine ⟨.agg (vs.toArray.extract off (off+n)),by simp [part,B6b tG,R3 hsz],(vs.drop off).take n,?_,(hvs.drop off).take n⟩
 congr 1
 apply Array.ext';simp [List.take_drop]
def E2G{s:TypeId}{fs:Array Field}{f:Field}{j:Nat}{x v:Val}{X:Value}(hs:A7m P s=A4 fs)(hf:fs[j]?=A4 f)(tG:oM P f.type=A4 A6)
  (hx:RV U x X) (h:B7b x f.offset=A4 v):∃ V,(Instr.field s X j).run P w=.ok V w/\RV U v V:=by
 unfold B7b at h;split at h
 ·rename_i l;obtain ⟨vs,rfl,hvs⟩:=hx;simp only [E8G] at h;obtain ⟨c,hc,rfl⟩:=h;obtain ⟨V,hV,hR⟩:=D1x (P:=P) (w:=w) tG hvs hc;exact ⟨V,by simp [Instr.field,F8 (A7n hs),hf,asAgg,hV],hR⟩
 ·cases h
def E2H{s:TypeId}{fs:Array Field}{f:Field}{j n:Nat}{x v:Val}{X:Value}(hs:A7m P s=A4 fs)(hf:fs[j]?=A4 f)(tG:oM P f.type=A4 A5)(hsz:T0 P f.type=A4 n)
  (hx:RV U x X) (h:D7K x f.offset n=A4 v):∃ V,(Instr.field s X j).run P w=.ok V w/\RV U v V:=by
 unfold D7K at h;split at h
 ·rename_i l;obtain ⟨vs,rfl,hvs⟩:=hx;split at h
  ·cases h;rename_i hl;obtain ⟨V,hV,hR⟩:=D1y (P:=P) (w:=w) tG hsz hvs hl;exact ⟨V,by simp [Instr.field,F8 (A7n hs),hf,asAgg,hV],hR⟩
  ·cases h
 ·cases h
def E0a{t e:TypeId}{n:Nat}{x i v:Val}{X I:Value}(ha:uT P t=A4 (n,e))(tG:oM P e=A4 A6)(hsz:T0 P e=A4 1)
  (hx:RV U x X) (hi:RV U i I) (h:A5j n x i=A4 v):∃ V,(Instr.index t X I).run P w=.ok V w/\RV U v V:=by
 unfold A5j at h;split at h
 ·rename_i l k j;obtain ⟨vs,rfl,hvs⟩:=hx;have hI:I=.int k j:=hi;subst hI;split at h
  ·rename_i hj;simp only [E8G] at h;obtain ⟨c,hc,rfl⟩:=h;obtain ⟨V,hV,hR⟩:=D1x (P:=P) (w:=w) tG hvs hc;exact ⟨V,by simp [Instr.index,F8 (uU ha),asIntOf,hj,R3 hsz,hV],hR⟩
  ·cases h
 ·cases h
def E0b{t e:TypeId}{n sz:Nat}{x i v:Val}{X I:Value}(ha:uT P t=A4 (n,e))(tG:oM P e=A4 A5)(hsz:T0 P e=A4 sz)
  (hx:RV U x X) (hi:RV U i I) (h:D17 n sz x i=A4 v):∃ V,(Instr.index t X I).run P w=.ok V w/\RV U v V:=by
 unfold D17 at h;split at h
 ·rename_i l k j;obtain ⟨vs,rfl,hvs⟩:=hx;have hI:I=.int k j:=hi;subst hI;split at h
  ·rename_i hj;cases h;obtain ⟨V,hV,hR⟩:=D1y (P:=P) (w:=w) tG hsz hvs hj.2.2;exact ⟨V,by simp [Instr.index,F8 (uU ha),asIntOf,hj.1,hj.2.1,R3 hsz,hV],hR⟩
  ·cases h
 ·cases h
def E2I{t:TypeId}{x i v:Val}{X I:Value}(ht:dV P t=A5)(hx:RV U x X)(hi:RV U i I)(h:C6P x i=A4 v) :
  ∃ V,(Instr.index t X I).run P w=.ok V w/\RV U v V:=by
 unfold C6P at h;split at h
 ·rename_i s k j;have hX:X=.string ⟨s.toArray⟩:=hx;have hI:I=.int k j:=hi;subst hX hI;split at h
  ·rename_i hj;simp only [E8G] at h;obtain ⟨b,hb,rfl⟩:=h;refine ⟨.int .u8 b.toNat,?_,rfl⟩;have:(ByteArray.mk s.toArray)[j.toNat]?=A4 b:=by
    have W4:=(E8p.1 hb).1;have hsz:j.toNat<(ByteArray.mk s.toArray).size:=by show j.toNat<s.toArray.size;simpa using W4
    rw [E8h W4] at hb;cases hb;rw [getElem?_pos (ByteArray.mk s.toArray) j.toNat hsz];rfl
   simp [Instr.index,F8 (pP ht),asIntOf,hj,this]
  ·cases h
 ·cases h
def D99{s:TypeId}{fs:Array Field}{f:Field}{j n off:Nat}{x v:Val}{X:Value}(hs:A7m P s=A4 fs)(hf:fs[j]?=A4 f)(hsz:T0 P f.type=A4 n)(hn:n≠0)(ho:f.offset=off)
  (hx:RV U x X) (h:U2 x off=A4 v):∃ V,(Instr.fieldAt s X j).run P w=.ok V w/\RV U v V:=by
 unfold U2 at h;split at h
 ·rename_i id o;obtain ⟨b,m,hm,rfl⟩:=hx;cases h;refine ⟨.pointer (A4 ⟨b,o+off,A7⟩),?_,b,m,hm,rfl⟩;simp [Instr.fieldAt,Instr.sureAddr,F8 (A7n hs),hf,fieldPlace,R3 hsz,hn,oL,ho]
 ·cases h
def D7k{t e:TypeId}{n sz:Nat}{x i v:Val}{X I:Value}(ha:uT P t=A4 (n,e))(hsz:T0 P e=A4 sz)(hx:RV U x X)(hi:RV U i I)(h:K2 n sz x i=A4 v) :
  ∃ V,(Instr.indexAt t X I).run P w=.ok V w/\RV U v V:=by
 unfold K2 at h;split at h
 ·rename_i id o k j;obtain ⟨b,m,hm,rfl⟩:=hx;have hI:I=.int k j:=hi;subst hI;split at h
  ·rename_i hj;cases h;refine ⟨.pointer (A4 ⟨b,o+j.toNat*sz,A7⟩),?_,b,m,hm,rfl⟩;simp [Instr.indexAt,Instr.sureAddr,asIntOf,F8 (uU ha),R3 hsz,hj,oL]
  ·cases h
 ·cases h
def D7l{t e:TypeId}{sz:Nat}{x i v:Val}{X I:Value}(ha:sliceB P t=A4 e)(hsz:T0 P e=A4 sz)(hx:RV U x X)(hi:RV U i I)(h:F0 sz x i=A4 v) :
  ∃ V,(Instr.indexAt t X I).run P w=.ok V w/\RV U v V:=by
 unfold F0 at h;split at h
 ·rename_i id o len sz' k j;have hI:I=.int k j:=hi;subst hI;split at h
  ·rename_i hj;cases h;rcases hx with ⟨b,m,cap,hm,_,_,rfl⟩ | ⟨h0,_⟩
   ·refine ⟨.pointer (A4 ⟨b,o+j.toNat*sz,A7⟩),?_,b,m,hm,rfl⟩;simp [Instr.indexAt,asIntOf,F8 (Q7 ha),R3 hsz,hj,oL]
   ·omega
  ·cases h
 ·cases h
def E2K{t:TypeId}{x v:Val}{X:Value}{ty:TypeId}(ht:dV P t=A5)(hx:RV U x X)(h:D3z x=A4 v):∃ V,(Builtin.len_ #[t] ty #[X]).run P w=.ok V w/\RV U v V:=by
 unfold D3z at h;split at h<;>cases h
 rename_i s;have hX:X=.string ⟨s.toArray⟩:=hx;subst hX;refine ⟨.int .i64 s.length,?_,rfl⟩;simp [Builtin.len_,F8 (pP ht),goInt];show ((s.toArray.size:Nat):Int)=_;simp
def E4n{t e:TypeId}{x v:Val}{X:Value}{ty:TypeId}(he:sliceB P t=A4 e)(hx:RV U x X)(h:B6y x=A4 v):∃ V,(Builtin.len_ #[t] ty #[X]).run P w=.ok V w/\RV U v V:=by
 unfold B6y at h;split at h<;>cases h
 ·rcases hx with ⟨b,m,cap,hm,_,_,rfl⟩ | ⟨h0,a,rfl⟩
  ·exact ⟨_,by simp [Builtin.len_,F8 (Q7 he),goInt],rfl⟩
  ·subst h0;exact ⟨_,by simp [Builtin.len_,F8 (Q7 he),goInt],rfl⟩
 ·cases hx;exact ⟨_,by simp [Builtin.len_,F8 (Q7 he),goInt],rfl⟩
def E4o{at_:Array TypeId}{ty:TypeId}{x y v:Val}{X Y:Value}(hx:RV U x X)(hy:RV U y Y)(h:C5g x y=A4 v):∃ V,(Builtin.max_ at_ ty #[X,Y]).run P w=.ok V w/\RV U v V:=by
 unfold C5g at h;split at h<;>cases h
 cases hx;cases hy;exact ⟨_,rfl,rfl⟩
def E4p{at_:Array TypeId}{ty:TypeId}{x y v:Val}{X Y:Value}(hx:RV U x X)(hy:RV U y Y)(h:B6z x y=A4 v):∃ V,(Builtin.min_ at_ ty #[X,Y]).run P w=.ok V w/\RV U v V:=by
 unfold B6z at h;split at h<;>cases h
 cases hx;cases hy;exact ⟨_,rfl,rfl⟩
def E2E{s d:TypeId}{k ks:IntKind}{x v:Val}{X:Value}(hs:B8G P s=A4 ks)(hd:B8G P d=A4 k)(hx:RV U x X)(h:D3w k x=A4 v) :
  ∃ V,(convert s d X).run P w=.ok V w/\RV U v V:=by
 unfold D3w at h;split at h<;>cases h
 cases hx;exact ⟨_,by simp [convert,F8 (A9U hs),F8 (A9U hd),Conv.intToInt],rfl⟩
def D98{s d:TypeId}{x v:Val}{X:Value}(hs:dV P s=A5)(hd:dV P d=A5)(hx:RV U x X)(h:D15 x=A4 v) :
  ∃ V,(convert s d X).run P w=.ok V w/\RV U v V:=by
 unfold D15 at h;split at h<;>cases h
 cases hx;exact ⟨_,by simp [convert,F8 (pP hs),F8 (pP hd)],rfl⟩
def D1u{o:Option Val}{O:Option Value}{d n y:Nat}{code:BoundsCode}(hO:match o,O with | none,none=>True | some v,A4 V=>RV U v V | _,_=>False)(hb:bound o d=A4 n)(hn:n<=y) :
  (match O with | some v=>Instr.sliceBound v y code | none=>(pure d:Sem Nat)).run P w=.ok n w:=by
 unfold bound at hb;cases o with
 | none =>
  cases O with
  | none=>simp at hb;subst hb;rfl
  | some _=>exact hO.elim
 | some v =>
  cases O with
  | none=>exact hO.elim
  | some V =>
   simp only at hO hb;split at hb
   ·rename_i tH;cases tH
   ·rename_i k j tH;cases tH;cases hO;split at hb
    ·cases hb;rename_i hj;simp [Instr.sliceBound,asIntOf,hj];omega
    ·cases hb
   ·cases hb
def D1R(U:Mu):Option Val->Option Value->Prop
 | none,none=>True
 | some v,A4 V=>RV U v V
 | _,_=>False
def A5O{isSl:Bool}{len cap l h:Nat}{lo hi:Option Val}{Lo Hi:Option Value}(hlo:D1R U lo Lo)(hhi:D1R U hi Hi)(bl:bound lo 0=A4 l)(bh:bound hi len=A4 h)
  (h1:l<=h) (h2:h<=cap):(Instr.sliceBounds isSl len cap Lo Hi A7).run P w=.ok (l,h,cap) w:=by
 unfold Instr.sliceBounds;have e1:=λcode=>D1u (P:=P) (w:=w) (U:=U) (o:=lo) (O:=Lo) (d:=0) (n:=l) (y:=h) (code:=code) (by cases lo<;>cases Lo<;>exact hlo) bl h1
 have e2:=λcode=>D1u (P:=P) (w:=w) (U:=U) (o:=hi) (O:=Hi) (d:=len) (n:=h) (y:=cap) (code:=code) (by cases hi<;>cases Hi<;>exact hhi) bh h2
 cases Hi with
 | none =>
  cases Lo with
  | none=>simp at e1 e2 ⊢;exact ⟨e1,e2⟩
  | some L =>
   simp at e1 e2 ⊢;subst e2;rw [e1 .sliceB];rfl
 | some H =>
  cases Lo with
  | none=>simp at e1 e2 ⊢;rw [e2];simp [e1]
  | some L =>
   simp at e1 e2 ⊢;rw [e2];simp [e1 .sliceB]
def E4t{t:TypeId}{x v:Val}{lo hi:Option Val}{X:Value}{Lo Hi:Option Value}(ht:dV P t=A5)(hx:RV U x X)(hlo:D1R U lo Lo)(hhi:D1R U hi Hi)(h:E3r x lo hi=A4 v) :
  ∃ V,(Instr.sliceAt t X Lo Hi A7).run P w=.ok V w/\RV U v V:=by
 unfold E3r at h;split at h
 ·rename_i s;have hX:X=.string ⟨s.toArray⟩:=hx;subst hX;simp only [E8i] at h;obtain ⟨l,bl,hh,bh,h⟩:=h;split at h
  ·cases h;rename_i hc;have hsz:(ByteArray.mk s.toArray).size=s.length:=by show s.toArray.size=_;simp
   have:=A5O (P:=P) (w:=w) (U:=U) (isSl:=A6) hlo hhi bl bh hc.1 hc.2;refine ⟨.string ((ByteArray.mk s.toArray).extract l hh),?_,?_⟩
   ·simp [Instr.sliceAt,Instr.slice,F8 (pP ht),hsz,this]
   ·show Value.string _=Value.string _
    congr 1
    apply ByteArray.ext;apply Array.ext';simp [List.drop_take]
  ·cases h
 ·cases h
def E4s{t e:TypeId}{sz:Nat}{x v:Val}{lo hi:Option Val}{X:Value}{Lo Hi:Option Value}(ht:sliceB P t=A4 e)(hsz:T0 P e=A4 sz)(hx:RV U x X)(hlo:D1R U lo Lo)(hhi:D1R U hi Hi)
  (h:D8M sz x lo hi=A4 v):∃ V,(Instr.sliceAt t X Lo Hi A7).run P w=.ok V w/\RV U v V:=by
 unfold D8M at h;split at h
 ·rename_i id off len sz';simp only [E8i] at h;obtain ⟨l,bl,hh,bh,h⟩:=h;split at h
  ·cases h;rename_i hc;obtain ⟨hc1,hc2,rfl⟩:=hc;rcases hx with ⟨b,m,cap,hm,hlc,C0r,rfl⟩ | ⟨h0,a,rfl⟩
   ·have:=A5O (P:=P) (w:=w) (U:=U) (isSl:=A5) hlo hhi bl bh hc1 (by omega:hh<=cap);by_cases pE:cap=l
    ·subst pE;refine ⟨.slice (A4 ⟨b,off,A7⟩) (hh-cap) (cap-cap),by simp [Instr.sliceAt,Instr.slice,F8 (Q7 ht),this,R3 hsz],.inr ?_⟩;have h1:hh-cap=0:=by omega
     exact ⟨h1,A4 ⟨b,off,A7⟩,by rw [h1,show cap-cap=0 by omega]⟩
    ·refine ⟨.slice (A4 ⟨b,off+l*sz,A7⟩) (hh-l) (cap-l),by simp [Instr.sliceAt,Instr.slice,F8 (Q7 ht),this,R3 hsz,pE,oL],.inl ⟨b,m,cap-l,hm,by omega,?_,rfl⟩⟩;have:l*sz+(cap-l)*sz=cap*sz:=by rw [<-E9E];congr 1;omega
     omega
   ·have:=A5O (P:=P) (w:=w) (U:=U) (isSl:=A5) (cap:=0) hlo hhi bl bh hc1 (by omega);have h1:hh=0:=by omega
    have h2:l=0:=by omega
    subst h0 h1 h2;exact ⟨.slice a 0 0,by simp [Instr.sliceAt,Instr.slice,F8 (Q7 ht),this,R3 hsz],.inr ⟨rfl,a,rfl⟩⟩
  ·cases h
 ·simp only [E8i] at h;obtain ⟨l,bl,hh,bh,h⟩:=h;split at h
  ·cases h;rename_i hc;obtain ⟨rfl,rfl⟩:=hc;cases hx;have:=A5O (P:=P) (w:=w) (U:=U) (isSl:=A5) (cap:=0) hlo hhi bl bh (E8m _) (E8m _);exact ⟨.slice A7 0 0,by simp [Instr.sliceAt,Instr.slice,F8 (Q7 ht),this,R3 hsz],rfl⟩
  ·cases h
 ·cases h
def E4r{t e:TypeId}{n sz:Nat}{hp:A9}{x v:Val}{lo hi:Option Val}{X:Value}{Lo Hi:Option Value}(ht:uT P t=A4 (n,e))(hsz:T0 P e=A4 sz)
  (hrow:∀ id r,rd hp id=A4 r->RowOk U w id r) (hx:RV U x X) (hlo:D1R U lo Lo) (hhi:D1R U hi Hi) (h:D2a hp n sz x lo hi=A4 v) :
  ∃ V,(Instr.sliceAt t X Lo Hi A7).run P w=.ok V w/\RV U v V:=by
 unfold D2a at h;split at h
 ·rename_i id off;obtain ⟨b,m,hm,rfl⟩:=hx;simp only [E8i] at h;obtain ⟨r,hr,l,bl,hh,bh,h⟩:=h;split at h
  ·cases h;rename_i hc;simp at hm;obtain ⟨hc1,hc2,hc3,hc4⟩:=hc;have hc:l<=hh/\hh<=n/\off+n*sz<=r.cells.length:=⟨hc1,hc2,hc3⟩;have mK:MemOk U w b m r:=by
    cases pQ:r.rw with
    | true=>exact (hrow id r hr).mem hm pQ
    | false =>
     rw [pQ] at hc4;simp only [E9h] at hc4;cases A9P:r.cells[off]? with
     | none=>rw [A9P] at hc4;cases hc4
     | some c=>rw [A9P] at hc4;exact (hrow id r hr).seen hm (E8H A9P) (by rw [pQ];simpa using hc4)
   obtain ⟨C,elem,fz,h1,h2,h3,h4⟩:=mK;have hlen:=h3.length;simp at hlen;have:=A5O (P:=P) (w:=w) (U:=U) (isSl:=A6) hlo hhi bl bh hc.1 hc.2.1;by_cases pE:n=l
   ·subst pE;refine ⟨.slice (A4 ⟨b,off,A7⟩) (hh-n) (n-n),by simp [Instr.sliceAt,Instr.sureAddr,F8 (uU ht),this,R3 hsz],.inr ?_⟩;have h1:hh-n=0:=by omega
    exact ⟨h1,A4 ⟨b,off,A7⟩,by rw [h1,show n-n=0 by omega]⟩
   ·refine ⟨.slice (A4 ⟨b,off+l*sz,A7⟩) (hh-l) (n-l),by simp [Instr.sliceAt,Instr.sureAddr,F8 (uU ht),this,R3 hsz,pE,oL],.inl ⟨b,m,n-l,hm,by omega,?_,rfl⟩⟩;have:l*sz+(n-l)*sz=n*sz:=by rw [<-E9E];congr 1;omega
    omega
  ·cases h
 ·cases h
def B8U{hp:A9}{x:Val}{X:Value}{cs:List Cell}(hrow:∀ id r,rd hp id=A4 r->RowOk U w id r)(hx:RV U x X)(h:rJ hp x=A4 cs) :
  ∃ len cap a vs,X=.slice a len cap/\All2 (RC U) cs vs/\(∀ sz,(∀ id off l sz',x=.c (.sl id off l sz')->sz=sz')->vs.length=len*sz)/\(a=A7->vs=[])/\(∀ b,a=A4 b->∀ j v,vs[j]?=A4 v->w.cell? (b.add j)=A4 v):=by
 unfold rJ at h;split at h
 ·cases h;cases hx;exact ⟨0,0,A7,[],rfl,trivial,λ_ _=>by simp,λ_=>rfl,λb hb=>(by cases hb)⟩
 ·rename_i id off len sz;simp only [E8i] at h;obtain ⟨r,hr,h⟩:=h;split at h
  ·cases h;rename_i hl;rcases hx with ⟨b,m,cap,hm,hlc,C0r,rfl⟩ | ⟨h0,a,rfl⟩
   ·obtain ⟨vs,h1,h2,h3⟩:=(hrow id r hr).cells hm off (len*sz) hl.1 hl.2;refine ⟨len,cap,_,vs,rfl,h1,λs hs=>(by rw [h2,hs id off len sz rfl]),λh=>(by cases h),λb' hb j v hv=>?_⟩;cases hb;rw [oL];exact h3 j v hv
   ·subst h0;exact ⟨0,0,a,[],rfl,by simp,λ_ _=>by simp,λ_=>rfl,λb hb j v hv=>by simp at hv⟩
  ·cases h
 ·cases h
def E01{c:Cell}{b:UInt8}{V:Value}(h:D0I c=A4 b)(hr:RC U c V):V=.int .u8 b.toNat:=by
 unfold D0I at h;split at h
 ·split at h
  ·cases h;rename_i n hn;have hV:V=.int .u8 n:=hr;subst hV
   congr 1
   have:(UInt8.ofNat n.toNat).toNat=n.toNat:=by simp [UInt8.toNat_ofNat'];omega
   rw [this];omega
  ·cases h
 ·cases h
def D0K:∀ {cs:List Cell} {s:List UInt8} {vs:List Value},bytes? cs=A4 s->All2 (RC U) cs vs->vs=s.map λb=>Value.int .u8 b.toNat
 | [],s,[],h,_=>by simp [bytes?] at h;subst h;rfl
 | c::r,s,v::vs,h,⟨h1,h2⟩=>by
  simp only [bytes?,E8i,E8G] at h;obtain ⟨b,hb,l,hl,rfl⟩:=h;rw [E9c,E01 hb h1,D0K hl h2]
 | [],_,_::_,_,h=>h.elim
 | _::_,_,[],_,h=>h.elim
def D3J:∀ (s:List UInt8) (acc:ByteArray),(forIn (s.map λb=>Value.int .u8 b.toNat) acc (λc r=>do
   let .int .u8 n := c | stuck "bytesToString: byte expected"
   let r:=r.push (UInt8.ofNat n.toNat)
   pure PUnit.unit
   pure (ForInStep.yield r)):Sem ByteArray).run P w=.ok ⟨acc.data++s.toArray⟩ w
 | [],acc=>by simp
 | b::s,acc=>by
  simp only [E9c,List.forIn_cons,Sem.run_bind];have:=D3J s (acc.push b);simp at this ⊢;rw [this]
def D52{h:A9}{n0:Nat}{own:Option Nat}{x v:Val}(hp:C3Q h n0 own x=A4 v):B8l h x=A4 v:=by
 unfold C3Q at hp;split at hp
 ·exact hp
 ·split at hp
  ·split at hp
   ·exact hp
   ·cases hp
  ·cases hp
def D8r{s d e:TypeId}{hp:A9}{x:Val}{X:Value}{cs:List Cell}{l:List UInt8}(hs:sliceB P s=A4 e)(he:B8G P e=A4 .u8)(hd:dV P d=A5)
  (hrow:∀ id r,rd hp id=A4 r->RowOk U w id r) (hx:RV U x X) (h1:rJ hp x=A4 cs) (h2:bytes? cs=A4 l) (C0t:∀ id off l sz',x=.c (.sl id off l sz')->1=sz') :
  (convert s d X).run P w=.ok (.string ⟨l.toArray⟩) w:=by
 obtain ⟨len,cap,a,vs,rfl,hvs,hlen,C7R,A9P⟩:=B8U hrow hx h1;have hl:vs.length=len:=by simpa using hlen 1 C0t
 have hv:=D0K h2 hvs;have hc:(convert s d (.slice a len cap)).run P w=(Conv.bytesToString (.slice a len cap)).run P w:=by
  simp [convert,F8 (Q7 hs),F8 (pP hd),F8 (A9U he)]
 rw [hc];cases a with
 | none =>
  have:l=[]:=by have:=C7R rfl;rw [hv] at this;simpa using this
  subst this;rfl
 | some b =>
  have hl2:=run_loadCells_list (P:=P) w b vs (A9P b rfl);rw [hl] at hl2;simp only [Conv.bytesToString,Sem.run_bind,hl2,Result.andThen_ok];rw [hv];have:=D3J (P:=P) (w:=w) l ByteArray.empty;simp at this ⊢;rw [this]
def D5v{s d e:TypeId}{hp:A9}{x v:Val}{X:Value}(hs:sliceB P s=A4 e)(he:B8G P e=A4 .u8)(hd:dV P d=A5)
  (hrow:∀ id r,rd hp id=A4 r->RowOk U w id r) (hx:RV U x X) (h:B8l hp x=A4 v):∃ V,(convert s d X).run P w=.ok V w/\RV U v V:=by
 unfold B8l at h;split at h
 ·split at h
  ·rename_i id off len sz hsz;simp only [E8G,E8i] at h;obtain ⟨l,⟨cs,hcs,hl⟩,rfl⟩:=h;exact ⟨_,D8r hs he hd hrow hx hcs hl (λ_ _ _ _ h=>by cases h;exact hsz.symm),rfl⟩
  ·cases h
 ·cases h;exact ⟨_,D8r (hp:=hp) (cs:=[]) (l:=[]) hs he hd hrow hx rfl rfl (λ_ _ _ _ h=>by cases h),rfl⟩
 ·cases h
end
section
variable {P:Program} {U:Mu} {w:World}
def A00(U:Mu)(h:A9)(n0:Nat):Option Nat->Prop
 | none=>True
 | some j=>U (n0+j)=A7/\n0+j<h.length
def Keeps(U U':Mu)(h:A9)(n0:Nat)(slot:Option Nat):Prop:=∀ id,id<h.length->(∀ j,slot=A4 j->id≠n0+j) -> U' id = U id
def Keeps.refl(U:Mu)(h:A9)(n0:Nat)(slot:Option Nat):Keeps U U h n0 slot:=λ_ _ _=>rfl
def Keeps.new{U:Mu}{h:A9}{n0:Nat}{slot:Option Nat}{r:Row}{x:Nat × Nat}:Keeps U (U.add (gF h n0 slot r).1 x) h n0 slot:=by
 intro id h1 h2;have:id≠(gF h n0 slot r).1:=by
  cases slot with
  | none=>simp only [gF];omega
  | some j=>exact h2 j rfl
 simp [Mu.add,this]
def vP{h:A9}{n0:Nat}{slot:Option Nat}{r:Row}(hs:A00 U h n0 slot)(hd:∀ id,h.length<=id -> U id=A7) :
  U (gF h n0 slot r).1=A7/\(∀ j,j≠(gF h n0 slot r).1->∀ x,rd (gF h n0 slot r).2 j=A4 x->rd h j=A4 x)/\(∀ x,rd (gF h n0 slot r).2 (gF h n0 slot r).1=A4 x->x=r) /\
   h.length<=(gF h n0 slot r).2.length/\(gF h n0 slot r).1<(gF h n0 slot r).2.length/\rd (gF h n0 slot r).2 (gF h n0 slot r).1=A4 r:=by
 cases slot with
 | none =>
  simp only [gF];have e:rd (h++[A4 r]) h.length=A4 r:=by rw [rd_some];simp
  refine ⟨hd _ (E8m _),?_,?_,by simp,by simp,e⟩
  ·intro j hj x hx;rw [rd_some] at hx ⊢;by_cases hl:j<h.length
   ·rwa [E88 hl] at hx
   ·have:j-h.length≠0:=by omega
    rw [E8L (by omega)] at hx;have:([A4 r]:A9)[j-h.length]?=A7:=by apply E8P;simp;omega
    rw [this] at hx;cases hx
  ·intro x hx;rw [e] at hx;cases hx;rfl
 | some j =>
  obtain ⟨h1,h2⟩:=hs;simp only [gF];have e:rd (h.set (n0+j) (A4 r)) (n0+j)=A4 r:=D3 h2;refine ⟨h1,?_,?_,by simp,by simpa using h2,e⟩
  ·intro i hi x hx;rwa [B7 (Ne.symm hi)] at hx
  ·intro x hx;rw [e] at hx;cases hx;rfl
def B8L{J:Ctx}{h:A9}{n0:Nat}{slot:Option Nat}{cs:List Cell}{C:List Value}{t:TypeId}(hi:Inv J U h w)(hs:A00 U h n0 slot)(hc:All2 (RC U) cs (C.take cs.length)) :
  Inv J (U.add (gF h n0 slot ⟨cs,A5⟩).1 (w.heap.size,l_ C)) (gF h n0 slot ⟨cs,A5⟩).2 (w.alloc (.cells C.toArray t)):=by
 obtain ⟨h1,h2,h3,h4,h5,h6⟩:=vP (r:=⟨cs,A5⟩) hs hi.dom;refine hi.fresh h1 rfl rfl rfl (λb hb=>?_) h2 h3 h4 h5 ?_
 ·show (w.heap.push _)[b]?=_;rw [Array.getElem?_push,if_neg (by omega)]
 ·unfold RowOk;simp only [Mu.add,if_true];refine .inl ⟨C.toArray,t,(0,0),by show (w.heap.push _)[w.heap.size]?=_;simp,by simp,?_,λ_=>.inl rfl⟩;exact hc.mono λ_ _ h=>.inl (RC.mono (Mu.le_add h1) h)
def A9E{J:Ctx}{h:A9}{n0:Nat}{slot:Option Nat}(hi:Inv J U h w)(hs:A00 U h n0 slot):Inv J U (gF h n0 slot ⟨[],A5⟩).2 w:=by
 obtain ⟨h1,h2,h3,h4,h5,h6⟩:=vP (r:=⟨[],A5⟩) hs hi.dom;generalize gF h n0 slot ⟨[],A5⟩=p at *;refine ⟨λid r hr=>?_,λid cP r r' x x' hr hr' pQ aZ hx hx'=>?_,λid r x hr pQ hx=>?_,λid hid=>hi.dom id (by omega),hi.ctx⟩
 ·by_cases e:id=p.1
  ·subst e;rw [h3 r hr];unfold RowOk;rw [h1]
  ·exact hi.rows id r (h2 id e r hr)
 ·have e:id≠p.1:=by intro e;subst e;rw [h1] at hx;cases hx
  have e':cP≠p.1:=by intro e;subst e;rw [h1] at hx';cases hx'
  exact hi.sep id cP r r' x x' (h2 id e r hr) (h2 cP e' r' hr') pQ aZ hx hx'
 ·have e:id≠p.1:=by intro e;subst e;rw [h1] at hx;cases hx
  exact hi.own id r x (h2 id e r hr) pQ hx
def kE(t:TypeId)(C:Array Value):(newRow t C).run P w=.ok ⟨w.heap.size,0,A7⟩ (w.alloc (.cells C t)):=by
 rfl
def X4(m:Mu)(id:Nat)(x:Nat × Nat):(m.add id x) id=A4 x:=by simp [Mu.add]
def D96{J:Ctx}{h:A9}{n0:Nat}{slot:Option Nat}{t:TypeId}{z:Value}{zero:List Cell}{old:Value}(hi:Inv J U h w)(hs:A00 U h n0 slot)(hz:A2O P t=A4 z)(hc:nF z zero=A5) :
  ∃ V w' U',(Instr.alloc t A5 old).run P w=.ok V w' /\ U.le U'/\RV U' (.c (.p (gF h n0 slot ⟨zero,A5⟩).1 0)) V/\Inv J U' (gF h n0 slot ⟨zero,A5⟩).2 w'/\Keeps U U' h n0 slot:=by
 have hcs:=jZ (U:=U) hc;have hn:=B8L (t:=t) hi hs (cs:=zero) (C:=z.cells.toList) (by rw [E8B (by rw [hcs.length];exact E8m _)];exact hcs);refine ⟨.pointer (A4 ⟨w.heap.size,0,A7⟩),_,_,?_,Mu.le_add (vP (r:=⟨zero,A5⟩) hs hi.dom).1,⟨_,_,X4 _ _ _,rfl⟩,hn,Keeps.new⟩;cases old<;>simp [Instr.alloc,A2I hz,newVar,kE]
def E4i{J:Ctx}{h:A9}{n0:Nat}{slot:Option Nat}{t:TypeId}{x:Val}{X:Value}{cs:List Cell}(hi:Inv J U h w)(hs:A00 U h n0 slot)(hx:RV U x X)(hc:cells? x=A4 cs) :
  ∃ V w' U',(Instr.box t X).run P w=.ok V w' /\ U.le U'/\RV U' (.c (.p (gF h n0 slot ⟨cs,A5⟩).1 0)) V/\Inv J U' (gF h n0 slot ⟨cs,A5⟩).2 w'/\Keeps U U' h n0 slot:=by
 have hcs:=hx.cells hc;have hn:=B8L (t:=t) hi hs (cs:=cs) (C:=X.cells.toList) (by rw [E8B (by rw [hcs.length];exact E8m _)];exact hcs);refine ⟨.pointer (A4 ⟨w.heap.size,0,A7⟩),_,_,?_,Mu.le_add (vP (r:=⟨cs,A5⟩) hs hi.dom).1,⟨_,_,X4 _ _ _,rfl⟩,hn,Keeps.new⟩;simp [Instr.box,newVar,kE]
def foldl_set(vs:List Value):∀ (k off:Nat) (cs:Array Value),off+k+vs.length<=cs.size ->
  ((vs.zipIdx k).foldl (λcs (x:Value × Nat)=>cs.setIfInBounds (off+x.2) x.1) cs).toList=cs.toList.take (off+k)++(vs++cs.toList.drop (off+k+vs.length)):=by
 induction vs with
 | nil=>intro k off cs h;simp
 | cons v r ih =>
  intro k off cs h;simp only [E8w] at h;simp only [List.zipIdx_cons,List.foldl_cons];rw [ih (k+1) off _ (by simp;omega)];have ho:off+k<cs.toList.length:=by simp;omega
  simp only [Array.toList_setIfInBounds];rw [List.drop_set_of_lt (by omega),E8w,show off+(k+1)+r.length=off+k+(r.length+1) by omega];rw [show off+(k+1)=off+k+1 by omega,List.take_set,List.take_add_one,List.set_append];have hm:min (off+k) cs.size=off+k:=Nat.min_eq_left (by simp at ho;omega);simp [E8h ho,hm]
def C5X(U:Mu)(place:Nat->Option (Nat × Nat)):List (Nat × Nat × Val)->List (Nat × Value)->Prop :=
 All2 λp q=>place q.1=A4 (p.1,p.2.1)/\RV U p.2.2 q.2
def C5K{place:Nat->Option (Nat × Nat)}:∀ {ps:List (Nat × Nat × Val)} {qs:List (Nat × Value)} {zero cs:List Cell} {Z:Array Value},C5X U place ps qs->All2 (RC U) zero Z.toList->F6 zero ps=A4 cs ->
  ∃ Z',Instr.fill place Z qs=A4 Z'/\All2 (RC U) cs Z'.toList
 | [],[],zero,cs,Z,_,hz,h=>by simp [F6] at h;subst h;exact ⟨Z,rfl,hz⟩
 | (off,n,v)::ps,(i,V)::qs,zero,cs,Z,⟨⟨h1,h2⟩,h3⟩,hz,h=>by
  simp only [F6] at h;split at h
  ·rename_i xs hxs;split at h
   ·rename_i hc;have hV:=RV.cells h2 hxs;have hVl:=hV.length;have hzl:=hz.length;simp at hzl hVl;have A5B:(V.cells.size≠n||off+V.cells.size > Z.size)=A6:=by simp;omega
    have hl2:((V.cells.zipIdx.foldl (λcs (x:Value × Nat)=>cs.setIfInBounds (off+x.2) x.1) Z)).toList=Z.toList.take off++(V.cells.toList++Z.toList.drop (off+V.cells.toList.length)):=by
     have:=foldl_set V.cells.toList 0 off Z (by simp;omega);rw [<-Array.foldl_toList,Array.toList_zipIdx];simpa using this
    have E7v:All2 (RC U) (lay zero off xs) (V.cells.zipIdx.foldl (λcs (x:Value × Nat)=>cs.setIfInBounds (off+x.2) x.1) Z).toList:=by
     rw [hl2];unfold lay;rw [hV.length];exact (hz.take off).append (hV.append (hz.drop _))
    obtain ⟨Z',h4,h5⟩:=C5K h3 E7v h;refine ⟨Z',?_,h5⟩;rw [Instr.fill,h1];simp only [A5B];exact h4
   ·cases h
  ·cases h
 | [],_::_,_,_,_,h,_,_=>h.elim
 | _::_,[],_,_,_,h,_,_=>h.elim
def C5w{fs:List Field}{ps:List (Nat × Nat)}(h:fs.map (λf=>(T0 P f.type).map λn=>(f.offset,n))=ps.map A4) :
  (fs.mapM λf=>(do pure (f.offset,<-sizeOf f.type):Sem (Nat × Nat))).run P w=.ok ps w:=by
 induction fs generalizing ps with
 | nil=>cases ps<;>simp_all
 | cons f r ih =>
  cases ps with
  | nil=>simp at h
  | cons p ps =>
   simp only [E9c,List.cons.injEq] at h;cases hs:T0 P f.type with
   | none=>simp [hs] at h
   | some n =>
    simp [hs] at h;have:=ih (ps:=ps) (by simpa using h.2);simp at this;simp [List.mapM_cons,R3 hs,this,h.1]
def D7j{s:TypeId}{fs:Array Field}{z:Value}{zero cs:List Cell}{pl:List (Nat × Nat)}{ps:List (Nat × Nat × Val)}{qs:List (Nat × Value)}(hs:A7m P s=A4 fs)(hz:A2O P s=A4 z)(hc:nF z zero=A5)
  (hp:fs.toList.map (λf=>(T0 P f.type).map λn=>(f.offset,n))=pl.map A4) (hR:C5X U (pl[·]?) ps qs) (h:F6 zero ps=A4 cs) :
  ∃ V,(Instr.build s qs.toArray).run P w=.ok V w/\RV U (.a cs) V:=by
 obtain ⟨Z',h1,h2⟩:=C5K hR (jZ hc) h;refine ⟨.agg Z',?_,Z'.toList,by simp,h2⟩;have hm:=C5w (P:=P) (w:=w) hp;simp [Instr.build,A2I hz,F8 (A7n hs),Array.mapM_eq_mapM_toList] at hm ⊢;rw [hm];simp [h1]
def D7i{s e:TypeId}{n sz:Nat}{z:Value}{zero cs:List Cell}{ps:List (Nat × Nat × Val)}{qs:List (Nat × Value)}(hs:uT P s=A4 (n,e))(hsz:T0 P e=A4 sz)(hz:A2O P s=A4 z)(hc:nF z zero=A5)
  (hR:C5X U (λi=>A4 (i*sz,sz)) ps qs) (h:F6 zero ps=A4 cs) :
  ∃ V,(Instr.build s qs.toArray).run P w=.ok V w/\RV U (.a cs) V:=by
 obtain ⟨Z',h1,h2⟩:=C5K hR (jZ hc) h;refine ⟨.agg Z',?_,Z'.toList,by simp,h2⟩;simp [Instr.build,A2I hz,F8 (uU hs),R3 hsz,h1]
def D5w{J:Ctx}{h:A9}{n0:Nat}{slot:Option Nat}{s e:TypeId}{len sz:Nat}{z:Value}{zero cs:List Cell}{ps:List (Nat × Nat × Val)}{qs:List (Nat × Value)}
  (hi:Inv J U h w) (hsl:A00 U h n0 slot) (hs:sliceB P s=A4 e) (hsz:T0 P e=A4 sz) (hz:A2O P e=A4 z) (hlen:len*sz<=2 ^ 24)
  (hc:nF (.agg ((Array.range (len*sz)).map (z.cells[· % z.cells.size]!))) zero=A5) (hR:C5X U (λi=>A4 (i*sz,sz)) ps qs) (hf:F6 zero ps=A4 cs) :
  ∃ V w' U',(Instr.buildSlice s len qs.toArray).run P w=.ok V w' /\ U.le U'/\RV U' (.c (.sl (gF h n0 slot ⟨cs,A5⟩).1 0 len sz)) V/\Inv J U' (gF h n0 slot ⟨cs,A5⟩).2 w'/\Keeps U U' h n0 slot:=by
 obtain ⟨Z',h1,h2⟩:=C5K hR (jZ hc) hf;have hn:=B8L (t:=e) hi hsl (cs:=cs) (C:=Z'.toList) (by rw [E8B (by rw [h2.length];exact E8m _)];exact h2);have pE:cs.length=zero.length:=by
  have:∀ (ps:List (Nat × Nat × Val)) (zero cs:List Cell),F6 zero ps=A4 cs->cs.length=zero.length:=by
   intro ps
   induction ps with
   | nil=>intro zero cs h;simp [F6] at h;rw [h]
   | cons p ps ih =>
    intro zero cs h;obtain ⟨off,n,v⟩:=p;simp only [F6] at h;split at h
    ·split at h
     ·rename_i hc;rw [ih _ _ h];simp [lay];omega
     ·cases h
    ·cases h
  exact this _ _ _ hf
 have hzl:zero.length=len*sz:=by
  have:=(jZ (U:=U) hc).length;simpa [Value.cells] using this
 refine ⟨.slice (A4 ⟨w.heap.size,0,A7⟩) len len,_,_,?_,Mu.le_add (vP (r:=⟨cs,A5⟩) hsl hi.dom).1,.inl ⟨_,_,len,X4 _ _ _,E8m _,?_,rfl⟩,hn,Keeps.new⟩
 ·have Y8:¬ len*sz > 2 ^ 24:=by omega
  have h1:Instr.fill (λi=>A4 (i*sz,sz)) ((Array.range (len*sz)).map (z.cells[· % z.cells.size]!)) qs=A4 Z':=h1;by_cases h0:len*sz=0
  ·have e0:((Array.range (len*sz)).map (λi=>z.cells[i%z.cells.size]!)) = #[]:=by simp [h0]
   rw [e0] at h1;have hr0:(Array.range 0).map (λ_=>(default:Value)) = #[]:=by simp
   simp [Instr.buildSlice,F8 (Q7 hs),R3 hsz,h0,hr0,h1,kE]
  ·simp only [Instr.buildSlice,Sem.run_bind,F8 (Q7 hs),Result.andThen_ok,R3 hsz,if_neg Y8,if_neg h0,Sem.run_pure,A2I hz,h1,kE,pure_bind]
 ·have:=h2.length;simp at this ⊢;omega
def D8p{Z:Array Value}{zero:List Cell}(hz:All2 (RC U) zero Z.toList)(n:Nat)(h0:Z.size≠0) :
  All2 (RC U) (rows zero n) (((Array.range (n*Z.size)).map (Z[· % Z.size]!)).toList):=by
 have e:((Array.range (n*Z.size)).map (Z[· % Z.size]!)).toList=(E8l n Z.toList).flatten:=by
  simp only [Array.toList_map,Array.toList_range]
  induction n with
  | zero=>simp
  | succ n ih =>
   rw [List.replicate_succ',List.flatten_append,<-ih,E9E,Nat.one_mul,List.range_add,E9e,List.map_map]
   congr 1
   simp only [E9v,List.flatten_nil,E8C];apply List.ext_getElem
   ·simp
   ·intro i h1 h2;simp at h1 h2;simp [Nat.add_mod,Nat.mod_eq_of_lt h1,h1]
 rw [e];exact hz.flatten_replicate n
def E2N{J:Ctx}{h:A9}{n0:Nat}{slot:Option Nat}{s e:TypeId}{n c sz by_:Nat}{z:Value}{zero:List Cell}{x y:Val}{X Y:Value}(hi:Inv J U h w)(hsl:A00 U h n0 slot)
  (hs:sliceB P s=A4 e) (hsz:T0 P e=A4 sz) (hz:A2O P e=A4 z) (hc:nF z zero=A5) (hzs:zero.length=sz) (B8E:sz≠0) (hby:C6W P e=A4 by_) (hbl:by_<=65536)
  (hx:RV U x X) (hy:RV U y Y) (hn:B6G x=A4 n) (C0r:B6G y=A4 c) (hnc:n<=c) :
  ∃ V w' U',(Instr.makeSlice s X Y).run P w=.ok V w' /\ U.le U'/\RV U' (.c (.sl (gF h n0 slot ⟨rows zero n,A5⟩).1 0 n sz)) V/\Inv J U' (gF h n0 slot ⟨rows zero n,A5⟩).2 w'/\Keeps U U' h n0 slot:=by
 have key:∀ {v:Val} {V:Value} {m:Nat},RV U v V->B6G v=A4 m->V=.int .i64 m/\m<=1073741824:=by
  intro v V m hv hm;unfold B6G at hm;split at hm
  ·split at hm
   ·cases hm;rename_i k hk;have:V=.int .i64 k:=hv;subst this;exact ⟨by congr 1;omega,by omega⟩
   ·cases hm
  ·cases hm
 obtain ⟨rfl,hnb⟩:=key hx hn;obtain ⟨rfl,hcb⟩:=key hy C0r;have hcs:=jZ (U:=U) hc;have hzl:z.cells.size=sz:=by have:=hcs.length;simp at this;omega
 have hrows:=D8p hcs c (by omega);rw [hzl] at hrows;have hrl:∀ m,(rows zero m).length=m*sz:=by intro m;simp [rows,hzs]
 have E5D:rows zero c=rows zero n++rows zero (c-n):=by
  unfold rows;rw [<-List.flatten_append,List.replicate_append_replicate]
  congr 2;omega
 obtain ⟨info,gO,hib⟩:=D97 (P:=P) (w:=w) hby;have hnn:=B8L (t:=e) hi hsl (cs:=rows zero n) (C:=((Array.range (c*sz)).map (z.cells[· % sz]!)).toList) (by
  have:=hrows.take (rows zero n).length;rw [E5D,List.take_left] at this;exact this)
 refine ⟨.slice (A4 ⟨w.heap.size,0,A7⟩) n c,_,_,?_,Mu.le_add (vP (r:=⟨rows zero n,A5⟩) hsl hi.dom).1,.inl ⟨_,_,c,X4 _ _ _,hnc,?_,rfl⟩,hnn,Keeps.new⟩
 ·have w1:IntKind.i64.wrap (n:Int)=n:=IntWalk.i64_in _ (by omega);have w2:IntKind.i64.wrap (c:Int)=c:=IntWalk.i64_in _ (by omega);have hb:¬ ((by_:Int)*(c:Int) > 281474976710656):=by
   have:(by_:Int)*c<=65536*1073741824:=by
    have h1:by_*c<=65536*1073741824:=Nat.mul_le_mul hbl hcb;have h2:((by_*c:Nat):Int)<=((65536*1073741824:Nat):Int):=Int.ofNat_le.2 h1;rw [Int.natCast_mul] at h2;exact h2
   omega
  by_cases h0:c*sz=0
  ·simp [Instr.makeSlice,F8 (Q7 hs),asInt,asIntOf,gO,hib,w1,w2,R3 hsz,h0,kE];have q1:¬ ((c:Int)<0\/281474976710656<(by_:Int)*c):=by omega
   have q2:¬ ((n:Int)<0):=by omega
   have q3:¬ (c<n):=by omega
   simp [q1,q2,q3];rw [show (Array.range 0).map (λ_=>(default:Value)) = #[] by simp]
  ·simp [Instr.makeSlice,F8 (Q7 hs),asInt,asIntOf,gO,hib,w1,w2,R3 hsz,h0,A2I hz,hzl,kE];have q1:¬ ((c:Int)<0\/281474976710656<(by_:Int)*c):=by omega
   have q2:¬ ((n:Int)<0):=by omega
   have q3:¬ (c<n):=by omega
   simp [q1,q2,q3];exact congrArg (λx=>w.alloc (Obj.cells x e)) (by apply Array.ext';simp)
 ·simp
end
section
variable {P:Program} {U:Mu} {w:World}
def D7X(s:List UInt8):All2 (RC U) (B4 s) (s.map λb=>Value.int .u8 b.toNat):=by
 induction s with
 | nil=>trivial
 | cons b r ih=>exact ⟨rfl,ih⟩
def B5(s:List UInt8):(B4 s).length=s.length:=by simp [B4]
def C3R{h:A9}{sz:Nat}{y:Val}{Y:Value}{ys:List Cell}(hrow:∀ id r,rd h id=A4 r->RowOk U w id r)(hy:RV U y Y)(hc:V0 h sz y=A4 ys) :
  ∃ n vs,(Builtin.lenOf Y).run P w=.ok n w/\(Builtin.firstCells sz n Y).run P w=.ok vs w/\All2 (RC U) ys vs.toList/\vs.size=n*sz:=by
 unfold V0 at hc;split at hc
 ·split at hc
  ·cases hc;rename_i s hs;subst hs;have hY:Y=.string ⟨s.toArray⟩:=hy;subst hY;refine ⟨s.length,(s.map λb=>Value.int .u8 b.toNat).toArray,?_,?_,D7X s,by simp⟩
   ·simp [Builtin.lenOf];show s.toArray.size=_;simp
   ·have:((ByteArray.mk s.toArray).extract 0 s.length).data=s.toArray:=by
     apply Array.ext';simp
    simp [Builtin.firstCells]
  ·cases hc
 ·split at hc
  ·rename_i id off len sz' hs;subst hs;obtain ⟨len',cap,a,vs,hY,hvs,hlen,C7R,A9P⟩:=B8U hrow hy hc;subst hY;have hl:=hlen sz (λ_ _ _ _ h=>by cases h;rfl);refine ⟨len',vs.toArray,rfl,?_,hvs,by simpa using hl⟩;cases a with
   | none=>have:=C7R rfl;subst this;rfl
   | some b =>
    have:=run_loadCells_list (P:=P) w b vs (A9P b rfl);rw [hl] at this;simpa [Builtin.firstCells] using this
  ·cases hc
 ·cases hc;cases hy;exact ⟨0,#[],rfl,rfl,trivial,by simp⟩
 ·cases hc
def Inv.move{J:Ctx}{h:A9}{w':World}{id:Nat}{r r':Row}{b n:Nat}(hi:Inv J U h w)(hr:rd h id=A4 r)(pQ:r.rw=A5)(E7I:r'.rw=A5)(hm:U id=A4 (b,n))
  (hos:w'.os=w.os) (htape:w'.tape=w.tape) (hout:w'.output=w.output) (hb:∀ b',b'≠b->w'.heap[b']?=w.heap[b']?)
  (hrow:RowOk (U.add h.length (b,n)) w' h.length r'):Inv J (U.add h.length (b,n)) (h.set id A7++[A4 r']) w':=by
 replace pQ:=Row.own_rw pQ
 have E72:=E1 hr;have A0a:∀ j x,rd (h.set id A7++[A4 r']) j=A4 x->(j=h.length/\x=r')\/(j≠h.length/\j≠id/\rd h j=A4 x):=by
  intro j x hx;by_cases hj:j<h.length
  ·rw [D5 (by simpa using hj)] at hx;by_cases e:id=j
   ·subst e;rw [D3 hj] at hx;cases hx
   ·rw [B7 e] at hx;exact .inr ⟨by omega,Ne.symm e,hx⟩
  ·rw [rd_some,E8L (by simp;omega)] at hx;have h0:=(E8p.1 hx).1;simp at h0;have e:j=h.length:=by omega
   subst e;simp at hx;exact .inl ⟨rfl,hx.symm⟩
 have C7R:U h.length=A7:=hi.dom _ (E8m _);have old:∀ j,j≠h.length->(U.add h.length (b,n)) j = U j:=λj hj=>by simp [Mu.add,hj]
 refine ⟨λj x hx=>?_,λj j' x x' y y' hx hx' hxw aZ hy hy'=>?_,λj x y hx hxw hy=>?_,λj hj=>?_,?_⟩
 ·rcases A0a j x hx with ⟨rfl,rfl⟩ | ⟨h1,h2,h3⟩
  ·exact hrow
  ·exact (hi.rows j x h3).mono (Mu.le_add C7R) (old j h1) λy hy=>hb _ (Ne.symm (hi.sep id j r x (b,n) y hr h3 pQ (Ne.symm h2) hm hy))
 ·rcases A0a j x hx with ⟨rfl,rfl⟩ | ⟨h1,h2,h3⟩
  ·rcases A0a j' x' hx' with ⟨h4,_⟩ | ⟨h4,h5,h6⟩
   ·exact absurd h4.symm aZ
   ·rw [X4] at hy;cases hy;rw [old _ h4] at hy';exact hi.sep id j' r x' (b,n) y' hr h6 pQ (Ne.symm h5) hm hy'
  ·rw [old _ h1] at hy;rcases A0a j' x' hx' with ⟨h4,_⟩ | ⟨h4,h5,h6⟩
   ·subst h4;rw [X4] at hy';cases hy';exact hi.sep j id x r y (b,n) h3 hr hxw h2 hy hm
   ·rw [old _ h4] at hy';exact hi.sep j j' x x' y y' h3 h6 hxw aZ hy hy'
 ·rcases A0a j x hx with ⟨rfl,rfl⟩ | ⟨h1,h2,h3⟩
  ·rw [X4] at hy;cases hy;exact hi.own id r (b,n) hr pQ hm
  ·rw [old _ h1] at hy;exact hi.own j x y h3 hxw hy
 ·have:j≠h.length:=by simp at hj;omega
  rw [old _ this];exact hi.dom j (by simp at hj;omega)
 ·refine ⟨hos.trans hi.ctx.os,htape.trans hi.ctx.tape,hout.trans hi.ctx.output,λb' o ho=>?_⟩;have aZ:b'≠b:=by
   intro e;subst e;have:=hi.own id r (b',n) hr pQ hm;simp at this;rw [ho] at this;cases this
  rw [hb b' aZ];exact hi.ctx.block b' o ho
def Inv.drop{J:Ctx}{h:A9}(hi:Inv J U h w)(id:Nat):Inv J U (h.set id A7) w:=by
 have A0a:∀ j x,rd (h.set id A7) j=A4 x->rd h j=A4 x:=by
  intro j x hx;by_cases e:id=j
  ·subst e;by_cases hl:id<h.length
   ·rw [D3 hl] at hx;cases hx
   ·rw [List.set_eq_of_length_le (by omega)] at hx;exact hx
  ·rwa [B7 e] at hx
 exact ⟨λj x hx=>hi.rows j x (A0a j x hx),λj j' x x' y y' hx hx'=>hi.sep j j' x x' y y' (A0a j x hx) (A0a j' x' hx'),λj x y hx=>hi.own j x y (A0a j x hx),λj hj=>hi.dom j (by simpa using hj),hi.ctx⟩
def C7O(n:Nat):∀ (k c:Nat),c<=n->Builtin.growBy n k c<=n+(n+768)/4
 | 0,c,h=>by simp [Builtin.growBy];omega
 | k+1,c,h=>by
  unfold Builtin.growBy;split
  ·omega
  ·rename_i hc;by_cases h2:c+(c+768)/4<=n
   ·exact C7O n k _ h2
   ·have:Builtin.growBy n k (c+(c+768)/4)=c+(c+768)/4:=by
     cases k with
     | zero=>rfl
     | succ k=>unfold Builtin.growBy;rw [if_pos (by omega)]
    rw [this];omega
def C8j(n c:Nat)(h:c<=n):Builtin.nextslicecap n c<=2*n+1000:=by
 unfold Builtin.nextslicecap;split
 ·omega
 ·split
  ·omega
  ·have:=C7O n 4 c h;omega
def B1O{s e yt ty:TypeId}{i:TypeInfo}{n sLen sCap:Nat}{z:Value}{base:Option Addr}{Y:Value}{old new:Array Value}{oc nc:List Cell}{J:Ctx}{h:A9}
  (hi:Inv J U h w) (hs:P.underlying s=A4 (.slice e)) (gO:P.info? e=A4 i) (hbl:i.bytes<=65536) (hz:i.zero=A4 z) (hzl:z.cells.size=i.size)
  (hyt:P.underlying yt=A4 .string\/∃ e',P.underlying yt=A4 (.slice e')) (hlen:(Builtin.lenOf Y).run P w=.ok n w) (hb0:i.bytes≠0)
  (C9P:(Builtin.firstCells i.size n Y).run P w.drew=.ok new w.drew) (hold:(Builtin.firstCells i.size sLen (.slice base sLen sCap)).run P w.drew=.ok old w.drew)
  (E1Q:¬ sLen+n<=sCap) (C0r:sLen<=sCap) (E5p:sLen+n<=1073741824)
  (ho:All2 (RC U) oc old.toList) (hn:All2 (RC U) nc new.toList) (hol:old.size=sLen*i.size) (hnl:new.size=n*i.size) :
  ∃ w' c,(Builtin.append_ #[s,yt] ty #[.slice base sLen sCap,Y]).run P w=.ok (.slice (A4 ⟨w.heap.size,0,A7⟩) (sLen+n) c) w'/\sLen+n<=c /\
   Inv J (U.add h.length (w.heap.size,c*i.size)) (h++[A4 ⟨oc++nc,A5⟩]) w':=by
 have hnc:=C8j (sLen+n) sCap (by omega);have mI:¬ (281474976710656<Builtin.nextslicecap (sLen+n) sCap*i.bytes):=by
  have:Builtin.nextslicecap (sLen+n) sCap*i.bytes<=2147484648*65536:=Nat.mul_le_mul (by omega) hbl;omega
 have hc0:sLen+n<=grownCap w (sLen+n) sCap e:=by show sLen+n<=sLen+n+_%_;omega
 have hw:Inv J U h w.drew:=hi.world rfl rfl rfl λ_ _=>rfl
 have D4x:(Builtin.zeroCells z.cells (grownCap w (sLen+n) sCap e-(sLen+n))).size=(grownCap w (sLen+n) sCap e-(sLen+n))*i.size:=by
  simp [Builtin.zeroCells,hzl]
 have hC:(old++new++Builtin.zeroCells z.cells (grownCap w (sLen+n) sCap e-(sLen+n))).toList.length=grownCap w (sLen+n) sCap e*i.size:=by
  have:(sLen+n)*i.size+(grownCap w (sLen+n) sCap e-(sLen+n))*i.size=grownCap w (sLen+n) sCap e*i.size:=by
   rw [<-E9E];congr 1;omega
  have h2:(sLen+n)*i.size=sLen*i.size+n*i.size:=E9E ..;rw [Array.length_toList,Array.size_append,Array.size_append,D4x,hol,hnl];omega
 have hrow:=B8L (t:=e) hw (slot:=A7) (n0:=0) trivial (cs:=oc++nc) (C:=(old++new++Builtin.zeroCells z.cells (grownCap w (sLen+n) sCap e-(sLen+n))).toList) (by
  have h1:(old++new++Builtin.zeroCells z.cells (grownCap w (sLen+n) sCap e-(sLen+n))).toList=(old.toList++new.toList)++(Builtin.zeroCells z.cells (grownCap w (sLen+n) sCap e-(sLen+n))).toList:=by simp
  rw [h1,show (oc++nc).length=(old.toList++new.toList).length by rw [(ho.append hn).length],List.take_left];exact ho.append hn)
 refine ⟨w.drew.alloc (.cells (old++new++Builtin.zeroCells z.cells (grownCap w (sLen+n) sCap e-(sLen+n))) e),grownCap w (sLen+n) sCap e,?_,hc0,?_⟩
 ·have h63:¬ (9223372036854775807<((sLen+n:Nat):Int)/\False):=by simp
  have E6E:IntKind.i64.max=9223372036854775807:=by decide
  rcases hyt with hyt | ⟨e',hyt⟩ <;>
   simp [Builtin.append_,F8 hs,F8 hyt,sizeOf,typeInfo,zeroValue,gO,hz,hlen,E1Q,hb0,mI,Question.forced,C9P,hold,kE,grownCap]
 ·rw [hC] at hrow;exact hrow
def B1P{s e yt ty:TypeId}{i:TypeInfo}{n sLen sCap:Nat}{base:Option Addr}{Y:Value}{new:Array Value}{w':World}
  (hs:P.underlying s=A4 (.slice e)) (gO:P.info? e=A4 i) (hyt:P.underlying yt=A4 .string\/∃ e',P.underlying yt=A4 (.slice e')) (hlen:(Builtin.lenOf Y).run P w=.ok n w)
  (C9P:(Builtin.firstCells i.size n Y).run P w=.ok new w) (A5E:sLen+n<=sCap)
  (nJ:∀ a,base=A4 a->(storeCells (a.add (sLen*i.size)) new.toList).run P w=.ok () w') (Y8:base=A7->w'=w) :
  (Builtin.append_ #[s,yt] ty #[.slice base sLen sCap,Y]).run P w=.ok (.slice base (sLen+n) sCap) w':=by
 cases base with
 | none =>
  have:=Y8 rfl;subst this;rcases hyt with hyt | ⟨e',hyt⟩<;>simp [Builtin.append_,F8 hs,F8 hyt,sizeOf,typeInfo,gO,hlen,A5E,C9P]
 | some a =>
  have:=nJ a rfl;rcases hyt with hyt | ⟨e',hyt⟩<;>simp [Builtin.append_,F8 hs,F8 hyt,sizeOf,typeInfo,gO,hlen,A5E,C9P,this]
def A7l{J:Ctx}{h:A9}{id b m:Nat}{r:Row}{ys:List Cell}{vs:List Value}(hi:Inv J U h w)(hr:rd h id=A4 r)(pQ:r.rw=A5)(hm:U id=A4 (b,m))
  (hx:All2 (RC U) ys vs) (hl:r.cells.length+ys.length<=m) :
  (storeCells ⟨b,r.cells.length,A7⟩ vs).run P w=.ok () (w.setCells b r.cells.length vs)/\Inv J (U.add h.length (b,m)) (h.set id A7++[A4 ⟨r.cells++ys,A5⟩]) (w.setCells b r.cells.length vs):=by
 obtain ⟨C,elem,fz,h1,h2,h3,h4⟩:=(hi.rows id r hr).mem hm pQ
 replace h3:=RL.all h3 (by rw [pQ];rfl)
 have hlen:=h3.length;have hxl:=hx.length;simp at hlen;have A9P:∀ j,j<vs.length->(w.cell? ⟨b,r.cells.length+0+j,A7⟩).isSome=A5:=by
  intro j hj;simp only [World.cell?,h1];simp;omega
 have hfz:∀ j,j<vs.length->w.frozen? ⟨b,r.cells.length+0+j,A7⟩=A6:=by
  intro j hj;simp only [World.frozen?,h1];obtain ⟨lo,hi'⟩:=fz;rcases h4 pQ with h4 | h4<;>simp at h4 ⊢ <;> omega
 have h1c:∀ v∈vs,v.oneCell'=A5:=by
  intro v hv;obtain ⟨i,W4,rfl⟩:=List.getElem_of_mem hv;have:i<ys.length:=by omega
  obtain ⟨V,hV,hR⟩:=hx.get i ys[i] (by simp [this]);rw [E8h W4] at hV;cases hV;exact hR.one
 refine ⟨by simpa using run_storeCells_cells (P:=P) b r.cells.length vs 0 w A9P hfz h1c,?_⟩;obtain ⟨C',h5,h6⟩:=A8y b vs r.cells.length w C elem fz h1 (by omega);obtain ⟨ho,ht,hou⟩:=B5q b vs r.cells.length w;have mI:=Mu.le_add (x:=(b,m)) (hi.dom h.length (E8m _));refine hi.move hr pQ rfl hm ho ht hou (λb' hb=>A5P b vs r.cells.length w b' hb) ?_;unfold RowOk;rw [X4];refine .inl ⟨C',elem,fz,h5,?_,?_,λ_=>h4 pQ⟩
 ·have:=congrArg List.length h6;simp at this;omega
 ·rw [h6];have e:(C.toList.take r.cells.length++(vs++C.toList.drop (r.cells.length+vs.length))).take (r.cells++ys).length=C.toList.take r.cells.length++vs:=by
   rw [<-List.append_assoc,List.take_left'];simp;omega
  rw [e];exact ((h3.mono λ_ _=>RC.mono mI).append (hx.mono λ_ _=>RC.mono mI)).mono λ_ _=>.inl
def E4g{s e yt ty:TypeId}{i:TypeInfo}{z:Value}{x y v:Val}{X Y:Value}{J:Ctx}{h h':A9}
  (hi:Inv J U h w) (hs:P.underlying s=A4 (.slice e)) (gO:P.info? e=A4 i) (hbl:i.bytes<=65536) (hb0:i.bytes≠0) (hz:i.zero=A4 z) (hzl:z.cells.size=i.size) (B8E:i.size≠0)
  (hyt:P.underlying yt=A4 .string\/∃ e',P.underlying yt=A4 (.slice e')) (hx:RV U x X) (hy:RV U y Y) (hc:uR h i.size x y=A4 (v,h')) :
  ∃ V w' U',(Builtin.append_ #[s,yt] ty #[X,Y]).run P w=.ok V w' /\ U.le U'/\RV U' v V/\Inv J U' h' w'/\(∀ id,id<h.length -> U' id = U id):=by
 unfold uR at hc;simp only [E8i] at hc;obtain ⟨ys,hys,hc⟩:=hc;obtain ⟨n,vs,hlen,C2Z,hvs,hvl⟩:=C3R (P:=P) hi.rows hy hys;obtain ⟨n2,vs2,hlen2,D2s,hvs2,E5F⟩:=C3R (P:=P) (w:=w.drew) (hi.world (w':=w.drew) rfl rfl rfl λ_ _=>rfl).rows hy hys;have hyl:ys.length/i.size=n:=by
  have:=hvs.length;simp at this;rw [this,hvl];exact Nat.mul_div_cancel _ (by omega)
 have hn2:n2=n:=by
  have h1:=hvs.length;have h2:=hvs2.length;simp at h1 h2;exact Nat.eq_of_mul_eq_mul_right (by omega:0<i.size) (by omega)
 rw [hyl] at hc;subst hn2;have D2r:U h.length=A7:=hi.dom _ (E8m _);have Z0:∀ x id,id<h.length->(U.add h.length x) id = U id:=λx id hid=>by
  have:id≠h.length:=by omega
  simp [Mu.add,this]
 split at hc
 ·
  split at hc
  ·cases hc;rename_i hb;cases hx;by_cases h0:n2=0
   ·subst h0;have hy0:ys=[]:=by
     have:=hvs.length;simp [hvl] at this;exact this
    subst hy0;have hr:=B1P (P:=P) (ty:=ty) (sLen:=0) (sCap:=0) (base:=A7) (w':=w) hs gO hyt hlen C2Z (by omega) (λa h=>by cases h) (λ_=>rfl);exact ⟨_,w,U,hr,Mu.le_refl _,.inr ⟨rfl,A7,rfl⟩,A9E (slot:=A7) (n0:=0) hi trivial,λ_ _=>rfl⟩
   ·obtain ⟨w',c,hr,hc1,hI⟩:=B1O (P:=P) (ty:=ty) (sLen:=0) (sCap:=0) (base:=A7) (old:=#[]) (oc:=[]) hi hs gO hbl hz hzl hyt hlen hb0 D2s (by simp [Builtin.firstCells]) (by omega) (E8m _) (by omega) trivial hvs2 (by simp) E5F;refine ⟨_,w',_,hr,Mu.le_add D2r,.inl ⟨w.heap.size,c*i.size,c,X4 _ _ _,by omega,by simp,by simp⟩,hI,Z0 _⟩
  ·cases hc
 ·rename_i id off len sz';simp only [E8i] at hc;obtain ⟨r,hr,hc⟩:=hc;split at hc
  ·cases hc;rename_i A5B;obtain ⟨pQ,rfl,pE,hsz,hbd⟩:=A5B;subst hsz;rcases hx with ⟨b,m,cap,hm,hlc,C0r,rfl⟩ | ⟨h0,a,rfl⟩
   ·by_cases A5E:len+n2<=cap
    ·have E3R:r.cells.length+ys.length<=m:=by
      have h1:=hvs.length;simp at h1;have h2:(len+n2)*i.size<=cap*i.size:=Nat.mul_le_mul_right _ A5E;rw [E9E] at h2;omega
     have nJ:=A7l (P:=P) hi hr pQ hm hvs E3R;have hr':=B1P (P:=P) (ty:=ty) (sLen:=len) (sCap:=cap) (base:=A4 ⟨b,0,A7⟩) (w':=w.setCells b r.cells.length vs.toList) hs gO hyt hlen C2Z A5E
      (λa ha=>by cases ha;rw [oL,pE,E8A];exact nJ.1) (λh=>by cases h)
     exact ⟨_,_,_,hr',Mu.le_add D2r,.inl ⟨b,m,cap,X4 _ _ _,A5E,C0r,rfl⟩,nJ.2,Z0 _⟩
    ·have hrow:=hi.rows id r hr;obtain ⟨olds,ho1,ho2,ho3⟩:=hrow.cells hm 0 (len*i.size) (by omega) (by rw [pQ];rfl);have kR:(r.cells.drop 0).take (len*i.size)=r.cells:=by rw [E8y,pE,List.take_length]
     rw [kR] at ho1;have hold:=run_loadCells_list (P:=P) w.drew ⟨b,0,A7⟩ olds (λj v hv=>by rw [oL];exact ho3 j v hv);rw [ho2] at hold;obtain ⟨w',c,hr',hc1,hI⟩:=B1O (P:=P) (ty:=ty) (sLen:=len) (sCap:=cap) (base:=A4 ⟨b,0,A7⟩) (old:=olds.toArray) (oc:=r.cells) hi hs gO hbl hz hzl hyt hlen hb0 D2s
      (by simpa [Builtin.firstCells] using hold) A5E hlc (by omega) ho1 hvs2 (by simpa using ho2) E5F
     refine ⟨_,w',_,hr',Mu.le_add D2r,.inl ⟨w.heap.size,c*i.size,c,X4 _ _ _,by omega,by simp,by simp⟩,?_,Z0 _⟩;have:=hI.drop id
     rwa [List.set_append_left _ _ (E1 hr)] at this
   ·subst h0;have hrc:r.cells=[]:=by
     have:r.cells.length=0:=by omega
     exact List.length_eq_zero_iff.1 this
    by_cases h0:n2=0
    ·subst h0;have hy0:ys=[]:=by
      have:=hvs.length;simp [hvl] at this;exact this
     subst hy0;have E7M:vs = #[]:=by simpa using hvl
     subst E7M;have hr':=B1P (P:=P) (ty:=ty) (sLen:=0) (sCap:=0) (base:=a) (w':=w) hs gO hyt hlen C2Z (by omega) (λa h=>by simp [storeCells]) (λ_=>rfl);refine ⟨_,w,U,hr',Mu.le_refl _,.inr ⟨rfl,a,rfl⟩,?_,λ_ _=>rfl⟩;have:=(A9E (slot:=A7) (n0:=0) hi trivial).drop id;rw [hrc];simp only [gF] at this
     rwa [List.set_append_left _ _ (E1 hr)] at this
    ·obtain ⟨w',c,hr',hc1,hI⟩:=B1O (P:=P) (ty:=ty) (sLen:=0) (sCap:=0) (base:=a) (old:=#[]) (oc:=[]) hi hs gO hbl hz hzl hyt hlen hb0 D2s
      (by cases a<;>simp [Builtin.firstCells,loadCells,loadCellsFrom]) (by omega) (E8m _) (by omega) trivial hvs2 (by simp) E5F
     refine ⟨_,w',_,hr',Mu.le_add D2r,.inl ⟨w.heap.size,c*i.size,c,X4 _ _ _,by omega,by simp,by simp⟩,?_,Z0 _⟩;have:=hI.drop id;rw [hrc]
     rwa [List.set_append_left _ _ (E1 hr)] at this
  ·cases hc
 ·cases hc
def A8w{s e yt ty:TypeId}{k:IntKind}{i:TypeInfo}{n sLen sCap:Nat}{z:Value}{base:Option Addr}{old:Array Value}{oc nc:List Cell}{J:Ctx}{h:A9}
  (hi:Inv J U h w) (hs:P.underlying s=A4 (.slice e)) (gO:P.info? e=A4 i) (hbl:i.bytes<=65536) (hz:i.zero=A4 z) (hzl:z.cells.size=i.size)
  (hyt:P.underlying yt=A4 (.int k)) (hb0:i.bytes≠0) (hp0:i.size≠0)
  (hold:(Builtin.firstCells i.size sLen (.slice base sLen sCap)).run P w.drew=.ok old w.drew)
  (E1Q:¬ sLen+n<=sCap) (C0r:sLen<=sCap) (E5p:sLen+n<=1073741824)
  (ho:All2 (RC U) oc old.toList) (hn:All2 (RC U) nc (Builtin.zeroCells z.cells n).toList) (hol:old.size=sLen*i.size) :
  ∃ w' c,(Builtin.append_ #[s,yt] ty #[.slice base sLen sCap,.int .i64 n]).run P w=.ok (.slice (A4 ⟨w.heap.size,0,A7⟩) (sLen+n) c) w'/\sLen+n<=c /\
   Inv J (U.add h.length (w.heap.size,c*i.size)) (h++[A4 ⟨oc++nc,A5⟩]) w':=by
 have hnl:(Builtin.zeroCells z.cells n).size=n*i.size:=by simp [Builtin.zeroCells,hzl]
 have hnc:=C8j (sLen+n) sCap (by omega);have mI:¬ (281474976710656<Builtin.nextslicecap (sLen+n) sCap*i.bytes):=by
  have:Builtin.nextslicecap (sLen+n) sCap*i.bytes<=2147484648*65536:=Nat.mul_le_mul (by omega) hbl;omega
 have hc0:sLen+n<=grownCap w (sLen+n) sCap e:=by show sLen+n<=sLen+n+_%_;omega
 have hw:Inv J U h w.drew:=hi.world rfl rfl rfl λ_ _=>rfl
 have D4x:(Builtin.zeroCells z.cells (grownCap w (sLen+n) sCap e-(sLen+n))).size=(grownCap w (sLen+n) sCap e-(sLen+n))*i.size:=by
  simp [Builtin.zeroCells,hzl]
 have hC:(old++Builtin.zeroCells z.cells n++Builtin.zeroCells z.cells (grownCap w (sLen+n) sCap e-(sLen+n))).toList.length=grownCap w (sLen+n) sCap e*i.size:=by
  have:(sLen+n)*i.size+(grownCap w (sLen+n) sCap e-(sLen+n))*i.size=grownCap w (sLen+n) sCap e*i.size:=by
   rw [<-E9E];congr 1;omega
  have h2:(sLen+n)*i.size=sLen*i.size+n*i.size:=E9E ..;rw [Array.length_toList,Array.size_append,Array.size_append,D4x,hol,hnl];omega
 have hrow:=B8L (t:=e) hw (slot:=A7) (n0:=0) trivial (cs:=oc++nc) (C:=(old++Builtin.zeroCells z.cells n++Builtin.zeroCells z.cells (grownCap w (sLen+n) sCap e-(sLen+n))).toList) (by
  have h1:(old++Builtin.zeroCells z.cells n++Builtin.zeroCells z.cells (grownCap w (sLen+n) sCap e-(sLen+n))).toList=(old.toList++(Builtin.zeroCells z.cells n).toList)++(Builtin.zeroCells z.cells (grownCap w (sLen+n) sCap e-(sLen+n))).toList:=by simp
  rw [h1,show (oc++nc).length=(old.toList++(Builtin.zeroCells z.cells n).toList).length by rw [(ho.append hn).length],List.take_left];exact ho.append hn)
 refine ⟨w.drew.alloc (.cells (old++Builtin.zeroCells z.cells n++Builtin.zeroCells z.cells (grownCap w (sLen+n) sCap e-(sLen+n))) e),grownCap w (sLen+n) sCap e,?_,hc0,?_⟩
 ·have E6E:IntKind.i64.max=9223372036854775807:=by decide
  have w1:IntKind.i64.wrap (n:Int)=n:=IntWalk.i64_in _ (by omega);have q1:¬ (n:Int)<0:=by omega
  have q2:¬ ((n:Int)*(i.bytes:Int) > 281474976710656):=by
   have h1:n*i.bytes<=1073741824*65536:=Nat.mul_le_mul (by omega) hbl;have h2:((n*i.bytes:Nat):Int)<=((1073741824*65536:Nat):Int):=Int.ofNat_le.2 h1;rw [Int.natCast_mul] at h2;omega
  have q3:¬ (9223372036854775807<((sLen:Int)+(n:Int))):=by omega
  have q4:¬ (281474976710656<(n:Int)*(i.bytes:Int)):=by omega
  by_cases h0:n=0
  ·omega
  ·have h1:¬ (n*i.size=0):=Nat.mul_ne_zero h0 hp0;simp [Builtin.append_,F8 hs,F8 hyt,sizeOf,typeInfo,zeroValue,gO,hz,asInt,asIntOf,w1,q1,q4,E6E,q3,E1Q,hb0,mI,Question.forced,hold,kE,grownCap,h1]
 ·rw [hC] at hrow;exact hrow
def A8x{s e yt ty:TypeId}{k:IntKind}{i:TypeInfo}{n sLen sCap:Nat}{z:Value}{base:Option Addr}{w':World}
  (hs:P.underlying s=A4 (.slice e)) (gO:P.info? e=A4 i) (hbl:i.bytes<=65536) (hz:i.zero=A4 z) (hzl:z.cells.size=i.size) (hp0:i.size≠0) (hyt:P.underlying yt=A4 (.int k)) (hnb:n<=1073741824) (A5E:sLen+n<=sCap)
  (nJ:∀ a,base=A4 a->(storeCells (a.add (sLen*i.size)) (Builtin.zeroCells z.cells n).toList).run P w=.ok () w') (Y8:base=A7->w'=w) :
  (Builtin.append_ #[s,yt] ty #[.slice base sLen sCap,.int .i64 n]).run P w=.ok (.slice base (sLen+n) sCap) w':=by
 have w1:IntKind.i64.wrap (n:Int)=n:=IntWalk.i64_in _ (by omega);have q1:¬ (n:Int)<0:=by omega
 have q4:¬ (281474976710656<(n:Int)*(i.bytes:Int)):=by
  have h1:n*i.bytes<=1073741824*65536:=Nat.mul_le_mul hnb hbl;have h2:((n*i.bytes:Nat):Int)<=((1073741824*65536:Nat):Int):=Int.ofNat_le.2 h1;rw [Int.natCast_mul] at h2;omega
 by_cases h0:n=0
 ·subst h0;have hzc:(Builtin.zeroCells z.cells 0) = #[]:=by simp [Builtin.zeroCells]
  have w0:IntKind.i64.wrap 0=0:=IntWalk.i64_in _ (by omega);rw [hzc] at nJ;cases base with
  | none =>
   have:=Y8 rfl;subst this;have hr0:sLen<=sCap:=by omega
   simp [Builtin.append_,F8 hs,F8 hyt,sizeOf,typeInfo,gO,asInt,asIntOf,hr0,w0]
  | some a =>
   have:=nJ a rfl;simp [storeCells] at this;subst this;have hr0:sLen<=sCap:=by omega
   simp [Builtin.append_,F8 hs,F8 hyt,sizeOf,typeInfo,gO,asInt,asIntOf,storeCells,hr0,w0]
 ·have h1:¬ (n*i.size=0):=Nat.mul_ne_zero h0 hp0;cases base with
  | none =>
   have:=Y8 rfl;subst this;simp [Builtin.append_,F8 hs,F8 hyt,sizeOf,typeInfo,zeroValue,gO,hz,asInt,asIntOf,w1,q1,q4,A5E,h1]
  | some a =>
   have:=nJ a rfl;simp [Builtin.append_,F8 hs,F8 hyt,sizeOf,typeInfo,zeroValue,gO,hz,asInt,asIntOf,w1,q1,q4,A5E,h1,this]
def E2D{s e yt ty:TypeId}{kk:IntKind}{i:TypeInfo}{z:Value}{zero:List Cell}{x y v:Val}{X Y:Value}{J:Ctx}{h h':A9}
  (hi:Inv J U h w) (hs:P.underlying s=A4 (.slice e)) (gO:P.info? e=A4 i) (hbl:i.bytes<=65536) (hb0:i.bytes≠0) (hz:i.zero=A4 z) (hzl:z.cells.size=i.size) (B8E:i.size≠0)
  (hyt:P.underlying yt=A4 (.int kk)) (hzc:All2 (RC U) zero z.cells.toList) (hx:RV U x X) (hy:RV U y Y) (hc:C6F h i.size zero x y=A4 (v,h')) :
  ∃ V w' U',(Builtin.append_ #[s,yt] ty #[X,Y]).run P w=.ok V w' /\ U.le U'/\RV U' v V/\Inv J U' h' w'/\(∀ id,id<h.length -> U' id = U id):=by
 unfold C6F at hc;simp only [E8i] at hc;obtain ⟨n2,hn2,hc⟩:=hc;have hY:Y=.int .i64 n2/\n2<=1073741824:=by
  unfold B6G at hn2;split at hn2
  ·split at hn2
   ·cases hn2;rename_i k hk;have:Y=.int .i64 k:=hy;subst this;exact ⟨by congr 1;omega,by omega⟩
   ·cases hn2
  ·cases hn2
 obtain ⟨rfl,hnb⟩:=hY;have hvs:All2 (RC U) (rows zero n2) (Builtin.zeroCells z.cells n2).toList:=by
  have:=D8p hzc n2 (by omega);simpa [Builtin.zeroCells] using this
 have hvl:(Builtin.zeroCells z.cells n2).size=n2*i.size:=by simp [Builtin.zeroCells,hzl]
 have D2r:U h.length=A7:=hi.dom _ (E8m _);have Z0:∀ x id,id<h.length->(U.add h.length x) id = U id:=λx id hid=>by
  have:id≠h.length:=by omega
  simp [Mu.add,this]
 split at hc
 ·
  ·cases hc;cases hx;by_cases h0:n2=0
   ·subst h0;have hr:=A8x (P:=P) (ty:=ty) (sLen:=0) (sCap:=0) (base:=A7) (w':=w) (n:=0) hs gO hbl hz hzl B8E hyt (by omega) (by omega) (λa h=>by cases h) (λ_=>rfl);exact ⟨_,w,U,hr,Mu.le_refl _,.inr ⟨rfl,A7,rfl⟩,A9E (slot:=A7) (n0:=0) hi trivial,λ_ _=>rfl⟩
   ·obtain ⟨w',c,hr,hc1,hI⟩:=A8w (P:=P) (ty:=ty) (sLen:=0) (sCap:=0) (base:=A7) (old:=#[]) (oc:=[]) (n:=n2) hi hs gO hbl hz hzl hyt hb0 B8E (by simp [Builtin.firstCells]) (by omega) (E8m _) (by omega) trivial hvs (by simp);refine ⟨_,w',_,hr,Mu.le_add D2r,.inl ⟨w.heap.size,c*i.size,c,X4 _ _ _,by omega,by simp,by simp⟩,hI,Z0 _⟩
 ·rename_i id off len sz';simp only [E8i] at hc;obtain ⟨r,hr,hc⟩:=hc;split at hc
  ·cases hc;rename_i A5B;obtain ⟨pQ,rfl,pE,hsz,hbd⟩:=A5B;subst hsz;rcases hx with ⟨b,m,cap,hm,hlc,C0r,rfl⟩ | ⟨h0,a,rfl⟩
   ·by_cases A5E:len+n2<=cap
    ·have E3R:r.cells.length+(rows zero n2).length<=m:=by
      have h1:=hvs.length;simp at h1;have h2:(len+n2)*i.size<=cap*i.size:=Nat.mul_le_mul_right _ A5E;rw [E9E] at h2;omega
     have nJ:=A7l (P:=P) hi hr pQ hm hvs E3R;have hr':=A8x (P:=P) (ty:=ty) (sLen:=len) (sCap:=cap) (base:=A4 ⟨b,0,A7⟩) (w':=w.setCells b r.cells.length (Builtin.zeroCells z.cells n2).toList) hs gO hbl hz hzl B8E hyt hnb A5E
      (λa ha=>by cases ha;rw [oL,pE,E8A];exact nJ.1) (λh=>by cases h)
     exact ⟨_,_,_,hr',Mu.le_add D2r,.inl ⟨b,m,cap,X4 _ _ _,A5E,C0r,rfl⟩,nJ.2,Z0 _⟩
    ·have hrow:=hi.rows id r hr;obtain ⟨olds,ho1,ho2,ho3⟩:=hrow.cells hm 0 (len*i.size) (by omega) (by rw [pQ];rfl);have kR:(r.cells.drop 0).take (len*i.size)=r.cells:=by rw [E8y,pE,List.take_length]
     rw [kR] at ho1;have hold:=run_loadCells_list (P:=P) w.drew ⟨b,0,A7⟩ olds (λj v hv=>by rw [oL];exact ho3 j v hv);rw [ho2] at hold;obtain ⟨w',c,hr',hc1,hI⟩:=A8w (P:=P) (ty:=ty) (sLen:=len) (sCap:=cap) (base:=A4 ⟨b,0,A7⟩) (old:=olds.toArray) (oc:=r.cells) (n:=n2) hi hs gO hbl hz hzl hyt hb0 B8E
      (by simpa [Builtin.firstCells] using hold) A5E hlc (by omega) ho1 hvs (by simpa using ho2)
     refine ⟨_,w',_,hr',Mu.le_add D2r,.inl ⟨w.heap.size,c*i.size,c,X4 _ _ _,by omega,by simp,by simp⟩,?_,Z0 _⟩;have:=hI.drop id
     rwa [List.set_append_left _ _ (E1 hr)] at this
   ·subst h0;have hrc:r.cells=[]:=by
     have:r.cells.length=0:=by omega
     exact List.length_eq_zero_iff.1 this
    by_cases h0:n2=0
    ·subst h0;have hr':=A8x (P:=P) (ty:=ty) (sLen:=0) (sCap:=0) (base:=a) (w':=w) (n:=0) (z:=z) hs gO hbl hz hzl B8E hyt (by omega) (by omega) (λa h=>by simp [storeCells,Builtin.zeroCells]) (λ_=>rfl);refine ⟨_,w,U,hr',Mu.le_refl _,.inr ⟨rfl,a,rfl⟩,?_,λ_ _=>rfl⟩;have:=(A9E (slot:=A7) (n0:=0) hi trivial).drop id;rw [hrc];simp only [gF] at this
     rwa [List.set_append_left _ _ (E1 hr)] at this
    ·obtain ⟨w',c,hr',hc1,hI⟩:=A8w (P:=P) (ty:=ty) (sLen:=0) (sCap:=0) (base:=a) (old:=#[]) (oc:=[]) (n:=n2) hi hs gO hbl hz hzl hyt hb0 B8E
      (by cases a<;>simp [Builtin.firstCells,loadCells,loadCellsFrom]) (by omega) (E8m _) (by omega) trivial hvs (by simp)
     refine ⟨_,w',_,hr',Mu.le_add D2r,.inl ⟨w.heap.size,c*i.size,c,X4 _ _ _,by omega,by simp,by simp⟩,?_,Z0 _⟩;have:=hI.drop id;rw [hrc]
     rwa [List.set_append_left _ _ (E1 hr)] at this
  ·cases hc
 ·cases hc
end
section
variable {P:Program} {U:Mu} {w:World}
def Inv.marked{J:Ctx}{h:A9}{id b n:Nat}{r:Row}(hi:Inv J U h w)(hr:rd h id=A4 r)(pQ:r.rw=A5)(hm:U id=A4 (b,n)) :
  ∃ w',(markStringish ⟨b,0,A7⟩).run P w=.ok () w'/\Inv J U h w'/\∀ off,(markStringish ⟨b,off,A7⟩).run P w=.ok () w':=by
 obtain ⟨C,elem,fz,h1,h2,h3,h4⟩:=(hi.rows id r hr).mem hm pQ;have hsh:w.shape? b=A4 (elem,n):=by simp [World.shape?,h1,h2]
 have B1z:∀ off,(markStringish ⟨b,off,A7⟩).run P w=.ok () (w.freeze ⟨b,n,A7⟩ 1):=by
  intro off;simp [markStringish,hsh]
 refine ⟨w.freeze ⟨b,n,A7⟩ 1,B1z 0,?_,B1z⟩;have D04:∀ b',(w.freeze ⟨b,n,A7⟩ 1).heap[b']?=if b=b' then A4 (.cells C elem (if fz.1==fz.2 then (n,n+1) else (min fz.1 n,max fz.2 (n+1)))) else w.heap[b']? := by
  intro b';simp only [World.freeze,if_neg (show ¬ (1:Nat)=0 by omega),Array.getElem?_modify];split
  ·rename_i e;subst e;rw [h1];simp
  ·rfl
 have E5B:∀ b',b'≠b->(w.freeze ⟨b,n,A7⟩ 1).heap[b']?=w.heap[b']? := λb' hb=>by rw [D04,if_neg (Ne.symm hb)]
 have:=hi.write hr pQ hm (w':=w.freeze ⟨b,n,A7⟩ 1) (cs:=r.cells) rfl rfl rfl E5B (by
  unfold RowOk;rw [hm];refine .inl ⟨C,elem,_,by rw [D04,if_pos rfl],h2,(pQ ▸ h3:All2 (RL U A5) _ _),λ_=>.inr ?_⟩;have h5:=h4 pQ;split
  ·exact E8m _
  ·rename_i aZ;rcases h5 with h5 | h5
   ·simp [h5] at aZ
   ·show n<=min fz.1 n;omega)
 have e:h.set id (A4 ⟨r.cells,A5⟩)=h:=by
  apply E9z;intro j;by_cases hj:id=j
  ·subst hj;rw [List.getElem?_set_self (E1 hr)];rw [rd_some] at hr;rw [hr,<-pQ]
  ·rw [E9r hj]
 rwa [e] at this
def run_mark{J:Ctx}{s e:TypeId}{h:A9}{x v:Val}{X:Value}(hi:Inv J U h w)(hs:sliceB P s=A4 e)(he:B8G P e=A4 .u8)(hx:RV U x X)(hc:B2a h x=A4 v) :
  ∃ w',(convert s s X).run P w=.ok X w'/\v=x/\Inv J U h w':=by
 unfold B2a at hc;split at hc
 ·rename_i id off len sz;simp only [E8i] at hc;obtain ⟨r,hr,hc⟩:=hc;split at hc
  ·cases hc;rename_i A5B;rcases hx with ⟨b,m,cap,hm,hlc,C0r,rfl⟩ | ⟨h0,a,rfl⟩
   ·obtain ⟨w',h1,h2,h3⟩:=hi.marked (P:=P) hr A5B.1 hm;exact ⟨w',by simp [convert,F8 (Q7 hs),F8 (A9U he),h3 off],rfl,h2⟩
   ·omega
  ·cases hc
 ·cases hc
def E4q{J:Ctx}{h:A9}{n0:Nat}{slot:Option Nat}{s d e:TypeId}{l:List UInt8}(hi:Inv J U h w)(hsl:A00 U h n0 slot)(hs:dV P s=A5)(hd:sliceB P d=A4 e)(he:B8G P e=A4 .u8)(hl:l.length<=1073741824) :
  ∃ V w' U',(convert s d (.string ⟨l.toArray⟩)).run P w=.ok V w' /\ U.le U'/\RV U' (.c (.sl (gF h n0 slot ⟨B4 l,A5⟩).1 0 l.length 1)) V/\Inv J U' (gF h n0 slot ⟨B4 l,A5⟩).2 w'/\Keeps U U' h n0 slot:=by
 have hsz:(ByteArray.mk l.toArray).size=l.length:=by show l.toArray.size=_;simp
 have C0r:l.length<=(Question.appendCap l.length 0 e).cut (w.tape w.drawn (.appendCap l.length 0 e)):=by show l.length<=l.length+_%_;omega
 generalize hk:(Question.appendCap l.length 0 e).cut (w.tape w.drawn (.appendCap l.length 0 e))=cap at C0r;have hC:((l.toArray.map λ(b:UInt8)=>Value.int .u8 b.toNat)++Array.replicate (cap-l.length) (Value.int .u8 0)).toList=(l.map λ(b:UInt8)=>Value.int .u8 b.toNat)++E8l (cap-l.length) (Value.int .u8 0):=by simp
 have hw:Inv J U h w.drew:=hi.world rfl rfl rfl λ_ _=>rfl
 have hn:=B8L (t:=e) hw hsl (cs:=B4 l) (C:=(l.map λ(b:UInt8)=>Value.int .u8 b.toNat)++E8l (cap-l.length) (Value.int .u8 0)) (by
  rw [show (B4 l).length=(l.map λ(b:UInt8)=>Value.int .u8 b.toNat).length by simp [B4],List.take_left];exact D7X l)
 have hsp:=vP (r:=⟨B4 l,A5⟩) hsl hi.dom;obtain ⟨w',h1,h2,h3⟩:=hn.marked (P:=P) hsp.2.2.2.2.2 rfl (X4 _ _ _);refine ⟨.slice (A4 ⟨w.heap.size,0,A7⟩) l.length cap,w',_,?_,Mu.le_add hsp.1,.inl ⟨_,_,cap,X4 _ _ _,C0r,by simp;omega,rfl⟩,h2,Keeps.new⟩;have h1:(markStringish ⟨w.heap.size,0,A7⟩).run P (w.drew.alloc (.cells ((l.map λ(b:UInt8)=>Value.int .u8 b.toNat)++E8l (cap-l.length) (Value.int .u8 0)).toArray e))=.ok () w':=h1;rw [<-hC,Array.toArray_toList] at h1;have hfo:(Question.appendCap l.length 0 e).forced=A6:=rfl;simp only [convert,Sem.run_bind,F8 (pP hs),Result.andThen_ok,F8 (Q7 hd),F8 (A9U he),Conv.stringToBytes,run_choose,hsz,hfo,Bool.false_eq_true,if_false,hk,kE];have hdr:({ w with drawn:=w.drawn+1 }:World)=w.drew:=rfl;rw [hdr,h1];rfl
def E2F{J:Ctx}{h h':A9}{s e yt ty:TypeId}{sz:Nat}{x y v:Val}{X Y:Value}(hi:Inv J U h w)(hs:sliceB P s=A4 e)(hsz:T0 P e=A4 sz)(B8E:sz≠0)(hx:RV U x X)(hy:RV U y Y)(hc:C6J h sz x y=A4 (v,h')) :
  ∃ V w',(Builtin.copy_ #[s,yt] ty #[X,Y]).run P w=.ok V w'/\RV U v V/\Inv J U h' w':=by
 unfold C6J at hc;split at hc
 ·cases hc
 rename_i E7E;simp only [E8i] at hc;obtain ⟨ys,hys,hc⟩:=hc;split at hc
 ·rename_i id off len sz';simp only [E8i] at hc;obtain ⟨r,hr,hc⟩:=hc;split at hc
  ·cases hc;rename_i A5B;obtain ⟨pQ,E3R,rfl⟩:=A5B;have src:∃ n vs,(Builtin.lenOf Y).run P w=.ok n w/\All2 (RC U) ys vs/\vs.length=n*sz/\∀ m,m<=n->(Builtin.firstCells sz m Y).run P w=.ok (vs.take (m*sz)).toArray w:=by
    cases y with
    | c c =>
     cases c with
     | sl id2 off2 len2 sz2 =>
      simp only [V0] at hys;split at hys
      ·rename_i hs2;subst hs2;obtain ⟨len',cap,a,vs,rfl,hvs,hlen,C7R,A9P⟩:=B8U hi.rows hy hys;have hl:=hlen sz (λ_ _ _ _ h=>by cases h;rfl);refine ⟨len',vs,rfl,hvs,hl,λm hm=>?_⟩;cases a with
       | none=>have:=C7R rfl;subst this;simp [Builtin.firstCells]
       | some b =>
        have hml:(vs.take (m*sz)).length=m*sz:=by
         have:=Nat.mul_le_mul_right sz hm;simp;omega
        have:=run_loadCells_list (P:=P) w b (vs.take (m*sz)) (λj v hv=>A9P b rfl j v (by
         have hj:=(E8p.1 hv).1;rw [E86 (by omega)] at hv;exact hv))
        rw [hml] at this;simpa [Builtin.firstCells] using this
      ·cases hys
     | ns =>
      simp only [V0] at hys;cases hys;cases hy;exact ⟨0,[],rfl,trivial,by simp,λm hm=>by simp [Builtin.firstCells]⟩
     | s l=>exact absurd rfl (E7E l)
     | _=>simp [V0] at hys
    | _=>simp [V0] at hys
   obtain ⟨n,vs,hlen,hvs,hvl,C2Z⟩:=src;have hyl:ys.length/sz=n:=by rw [hvs.length,hvl];exact Nat.mul_div_cancel _ (by omega)
   rw [hyl];have hf:=C2Z (Nat.min n len) (Nat.min_le_left _ _);have hml:(ys.take (Nat.min n len*sz)).length=Nat.min n len*sz:=by
    have h1:=hvs.length;have h2:Nat.min n len*sz<=n*sz:=Nat.mul_le_mul_right sz (Nat.min_le_left n len);rw [E8Y];omega
   have E6x:off+(ys.take (Nat.min n len*sz)).length<=r.cells.length:=by
    have h2:Nat.min n len*sz<=len*sz:=Nat.mul_le_mul_right sz (Nat.min_le_right n len);omega
   rcases hx with ⟨b,m,cap,hm,hlc,C0r,rfl⟩ | ⟨h0,a,rfl⟩
   ·have nJ:=C8O (P:=P) hi hr pQ hm (off:=off) (hvs.take (Nat.min n len*sz)) E6x;refine ⟨_,_,?_,rfl,nJ.2⟩;simp [Builtin.copy_,F8 (Q7 hs),hlen,R3 hsz,hf,nJ.1,goInt]
   ·subst h0;refine ⟨_,w,?_,rfl,?_⟩
    ·have hz:(Builtin.firstCells sz 0 Y).run P w=.ok #[] w:=by simpa using C2Z 0 (Nat.zero_le _)
     cases a<;>simp [Builtin.copy_,F8 (Q7 hs),hlen,R3 hsz,hz,goInt,storeCells]
    ·have e0:lay r.cells off (ys.take (Nat.min n 0*sz))=r.cells:=by simp [lay]
     rw [e0];have e:h.set id (A4 ⟨r.cells,A5⟩)=h:=by
      apply E9z;intro j;by_cases hj:id=j
      ·subst hj;rw [List.getElem?_set_self (E1 hr)];rw [rd_some] at hr;rw [hr,<-pQ]
      ·rw [E9r hj]
     rw [e];exact hi
  ·cases hc
 ·cases hc
end
def C77(leaf:TypeId->Option (List Sh))(P:Program):Nat->List Field->Option (List Sh)
 | _,[]=>A4 []
 | off,f::fs=>(leaf f.type).bind λl =>
   if f.name ≠ "_" ∧ f.offset = off ∧ T0 P f.type = some l.length then (C77 leaf P (off + l.length) fs).map λr => l ++ r else none
def B46(P:Program):Nat->TypeId->Option (List Sh)
 | 0,_=>A7
 | d+1,t =>
  match P.underlying t with
  | some .bool=>A4 [.b]
  | some (.int k)=>A4 [.i k]
  | some .string=>A4 [.s]
  | some (.struct fs)=>if P.stoodInHeld t=A6 then C77 (B46 P d) P 0 fs.toList else A7
  | some (.array n e)=>(B46 P d e).bind λl=>if T0 P e=A4 l.length then A4 (E8l n l).flatten else A7
  | _=>A7
section
variable {P:Program} {U:Mu} {w:World}
def mkv(P:Program)(t:TypeId)(vs:List Value):Value :=
 if oM P t=A4 A5 then .agg vs.toArray else vs.headD undef
def D8t{c:Cell}{k:IntKind}(h:c.sh=A4 (.i k)):∃ n,c=.i k n:=by
 cases c<;>simp [Cell.sh] at h
 subst h;exact ⟨_,rfl⟩
def D8s{c:Cell}(h:c.sh=A4 .b):∃ x,c=.b x:=by
 cases c<;>simp [Cell.sh] at h
 exact ⟨_,rfl⟩
def D8u{c:Cell}(h:c.sh=A4 .s):∃ x,c=.s x:=by
 cases c<;>simp [Cell.sh] at h
 exact ⟨_,rfl⟩
def C3e{q:Sh}{xs:List Cell}{Xs:List Value}(h:xs.map Cell.sh=[q].map A4)(hX:All2 (RC U) xs Xs):∃ x X,xs=[x]/\Xs=[X]/\x.sh=A4 q/\RC U x X:=by
 cases xs with
 | nil=>simp at h
 | cons x r =>
  cases r with
  | cons y r=>simp at h
  | nil =>
   cases Xs with
   | nil=>exact hX.elim
   | cons X R =>
    cases R with
    | nil=>exact ⟨x,X,rfl,rfl,by simpa using h,hX.1⟩
    | cons Y R=>exact hX.2.elim
def D7Q{α:Type}[DecidableEq α](a b:α):(a==b)=decide (a=b):=by rw [Bool.eq_iff_iff];simp
def C0g{a b c d:List Cell}(h:a.length=c.length):decide (a++b=c++d)=(decide (a=c)&&decide (b=d)):=by
 rw [Bool.eq_iff_iff];simp only [E8j,decide_eq_true_eq];exact ⟨λk=>List.append_inj k h,λ⟨h,k⟩=>by rw [h,k]⟩
def E43(P:Program)(D:Nat)(t:TypeId)(l:List Sh):Prop :=
 ∀ (U:Mu) (w:World) (xs ys:List Cell) (Xs Ys:List Value),xs.map Cell.sh=l.map A4->ys.map Cell.sh=l.map A4->All2 (RC U) xs Xs->All2 (RC U) ys Ys ->
  (Op.equalIn D t (mkv P t Xs) (mkv P t Ys)).run P w=.ok (decide (xs=ys)) w
def C09{t:TypeId}{l:List Sh}{xs:List Cell}{Xs:List Value}{off:Nat}(hsz:T0 P t=A4 l.length)(tG:oM P t=A4 A5\/(oM P t=A4 A6/\l.length=1))
  (hX:All2 (RC U) xs Xs) (hl:off+l.length<=xs.length):(part t Xs.toArray off).run P w=.ok (mkv P t ((Xs.drop off).take l.length)) w:=by
 have hlen:=hX.length;rcases tG with h | ⟨h,h1⟩
 ·simp [part,B6b h,R3 hsz,mkv,h,List.take_drop]
 ·have W4:off<Xs.length:=by omega
  have:((Xs.drop off).take l.length).headD undef=Xs[off]:=by
   rw [h1,E8s W4];rfl
  unfold mkv;rw [if_neg (by rw [h];simp),this];simp [part,B6b h,W4]
def D58{t:TypeId}{d:Nat}{l:List Sh}(h:B46 P d t=A4 l):oM P t=A4 A5\/(oM P t=A4 A6/\l.length=1):=by
 cases d with
 | zero=>simp [B46] at h
 | succ d =>
  unfold B46 at h;unfold oM;split at h
  ·rename_i hu;cases h;right;simp [hu]
  ·rename_i hu;cases h;right;simp [hu]
  ·rename_i hu;cases h;right;simp [hu]
  ·rename_i hu;left;simp [hu]
  ·rename_i hu;left;simp [hu]
  ·cases h
def D0U{leaf:TypeId->Option (List Sh)}{D:Nat}(tI:∀ t l,leaf t=A4 l->E43 P D t l)(tG:∀ t l,leaf t=A4 l->oM P t=A4 A5\/(oM P t=A4 A6/\l.length=1)) :
  ∀ (fs:List Field) (off:Nat) (l:List Sh) (U:Mu) (w:World) (xs ys:List Cell) (Xs Ys:List Value),C77 leaf P off fs=A4 l->xs.length=off+l.length->ys.length=off+l.length ->
   (xs.drop off).map Cell.sh=l.map A4->(ys.drop off).map Cell.sh=l.map A4->All2 (RC U) xs Xs->All2 (RC U) ys Ys ->
   (Op.eqFields D Xs.toArray Ys.toArray fs).run P w=.ok (decide (xs.drop off=ys.drop off)) w
 | [],off,l,U,w,xs,ys,Xs,Ys,hl,h1,h2,hs1,hs2,hX,hY=>by
  simp [C77] at hl;subst hl;simp at h1 h2;rw [E8x (by omega),E8x (by omega)];simp [Op.eqFields]
 | f::fs,off,l,U,w,xs,ys,Xs,Ys,hl,h1,h2,hs1,hs2,hX,hY=>by
  simp only [C77,E8i] at hl;obtain ⟨lf,hlf,hl⟩:=hl;split at hl
  ·rename_i hc;obtain ⟨D4v,E5z,hsz⟩:=hc;simp only [E8G] at hl;obtain ⟨r,hr,rfl⟩:=hl;simp only [E8o] at h1 h2;have e:∀ zs:List Cell,(zs.drop off).map Cell.sh=(lf++r).map A4->zs.length=off+(lf.length+r.length)->((zs.drop off).take lf.length).map Cell.sh=lf.map A4/\(zs.drop (off+lf.length)).map Cell.sh=r.map A4:=by
    intro zs hz hzl;constructor
    ·rw [List.map_take,hz,E9e,List.take_left' (by simp)]
    ·rw [<-E9D,List.map_drop,hz,E9e,E9C (by simp)]
   obtain ⟨a1,a2⟩:=e xs hs1 h1;obtain ⟨b1,b2⟩:=e ys hs2 h2;have hp1:=C09 (P:=P) (w:=w) (off:=off) hsz (tG _ _ hlf) hX (by omega);have hp2:=C09 (P:=P) (w:=w) (off:=off) hsz (tG _ _ hlf) hY (by omega);have tH:=tI _ _ hlf U w _ _ _ _ a1 b1 ((hX.drop off).take lf.length) ((hY.drop off).take lf.length);have ih:=D0U tI tG fs (off+lf.length) r U w xs ys Xs Ys hr (by omega) (by omega) a2 b2 hX hY;have split:∀ zs:List Cell,zs.drop off=(zs.drop off).take lf.length++zs.drop (off+lf.length):=by
    intro zs;rw [<-E9D];exact (List.take_append_drop _ _).symm
   have hd:decide (xs.drop off=ys.drop off)=(decide ((xs.drop off).take lf.length=(ys.drop off).take lf.length)&&decide (xs.drop (off+lf.length)=ys.drop (off+lf.length))):=by
    have hlen:((xs.drop off).take lf.length).length=((ys.drop off).take lf.length).length:=by simp;omega
    conv=>lhs;rw [split xs,split ys]
    exact C0g hlen
   subst E5z;simp only [Op.eqFields,D4v,ne_eq,not_false_eq_true,if_true,Sem.run_bind,hp1,Result.andThen_ok,hp2,tH];rw [hd];cases decide ((xs.drop f.offset).take lf.length=(ys.drop f.offset).take lf.length) with
   | true=>simpa using ih
   | false=>simp
  ·cases hl
def B1u(D:Nat)(e:TypeId)(n:Nat)(xs ys:Array Value):List Nat->Sem Bool
 | []=>pure A5
 | i::r=>do
  let a <-part e xs (i*n)
  let b <-part e ys (i*n)
  let q <-Op.equalIn D e a b
  if (!q)=A5 then pure A6 else B1u D e n xs ys r
def run_equalIn_array{D:Nat}{t e:TypeId}{n sz:Nat}{xs ys:Array Value}(ha:uT P t=A4 (n,e))(hsz:T0 P e=A4 sz) :
  (Op.equalIn (D+1) t (.agg xs) (.agg ys)).run P w=(B1u D e sz xs ys (E8T n)).run P w:=by
 simp only [Op.equalIn,Sem.run_bind,F8 (uU ha),Result.andThen_ok,R3 hsz];rw [Std.Legacy.Range.forIn_eq_forIn_range'];have hr:E8Q (Std.Legacy.Range.start [0:n]) (Std.Legacy.Range.size [0:n]) (Std.Legacy.Range.step [0:n])=E8T n:=by
  simp [List.range_eq_range',Std.Legacy.Range.size]
 rw [hr];generalize E8T n=is
 induction is generalizing w with
 | nil=>simp [B1u]
 | cons i is ih =>
  simp only [List.forIn_cons,B1u,Sem.run_bind];generalize (part e xs (i*sz)).run P w=r1;cases r1 with
  | ok a w1 =>
   simp only [Result.andThen_ok];generalize (part e ys (i*sz)).run P w1=r2;cases r2 with
   | ok b w2 =>
    simp only [Result.andThen_ok];generalize (Op.equalIn D e a b).run P w2=r3;cases r3 with
    | ok r w3 =>
     cases r
     ·simp
     ·simpa using ih
    | halt x w3=>simp [Result.andThen]
   | halt x w2=>simp [Result.andThen]
  | halt x w1=>simp [Result.andThen]
def D4c{D:Nat}{e:TypeId}{l:List Sh}(tI:E43 P D e l)(tG:oM P e=A4 A5\/(oM P e=A4 A6/\l.length=1))(hsz:T0 P e=A4 l.length) :
  ∀ (k i:Nat) (U:Mu) (w:World) (xs ys:List Cell) (Xs Ys:List Value),xs.length=i*l.length+k*l.length->ys.length=i*l.length+k*l.length ->
   (xs.drop (i*l.length)).map Cell.sh=(E8l k l).flatten.map A4->(ys.drop (i*l.length)).map Cell.sh=(E8l k l).flatten.map A4->All2 (RC U) xs Xs->All2 (RC U) ys Ys ->
   (B1u D e l.length Xs.toArray Ys.toArray (E8Q i k)).run P w=.ok (decide (xs.drop (i*l.length)=ys.drop (i*l.length))) w
 | 0,i,U,w,xs,ys,Xs,Ys,h1,h2,hs1,hs2,hX,hY=>by
  rw [E8x (by omega),E8x (by omega)];simp [B1u]
 | k+1,i,U,w,xs,ys,Xs,Ys,h1,h2,hs1,hs2,hX,hY=>by
  have hk:(k+1)*l.length=l.length+k*l.length:=by rw [E9E];omega
  have hi:(i+1)*l.length=i*l.length+l.length:=by rw [E9E];omega
  rw [hk] at h1 h2;have e:∀ zs:List Cell,(zs.drop (i*l.length)).map Cell.sh=(E8l (k+1) l).flatten.map A4->zs.length=i*l.length+(l.length+k*l.length) ->
    ((zs.drop (i*l.length)).take l.length).map Cell.sh=l.map A4/\(zs.drop ((i+1)*l.length)).map Cell.sh=(E8l k l).flatten.map A4:=by
   intro zs hz hzl;rw [E81,E9v] at hz;constructor
   ·rw [List.map_take,hz,E9e,List.take_left' (by simp)]
   ·rw [hi,<-E9D,List.map_drop,hz,E9e,E9C (by simp)]
  obtain ⟨a1,a2⟩:=e xs hs1 h1;obtain ⟨b1,b2⟩:=e ys hs2 h2;have hp1:=C09 (P:=P) (w:=w) (off:=i*l.length) hsz tG hX (by omega);have hp2:=C09 (P:=P) (w:=w) (off:=i*l.length) hsz tG hY (by omega);have tH:=tI U w _ _ _ _ a1 b1 ((hX.drop (i*l.length)).take l.length) ((hY.drop (i*l.length)).take l.length);have ih:=D4c tI tG hsz k (i+1) U w xs ys Xs Ys (by omega) (by omega) a2 b2 hX hY;have split:∀ zs:List Cell,zs.drop (i*l.length)=(zs.drop (i*l.length)).take l.length++zs.drop ((i+1)*l.length):=by
   intro zs;rw [hi,<-E9D];exact (List.take_append_drop _ _).symm
  have hd:decide (xs.drop (i*l.length)=ys.drop (i*l.length))=(decide ((xs.drop (i*l.length)).take l.length=(ys.drop (i*l.length)).take l.length)&&decide (xs.drop ((i+1)*l.length)=ys.drop ((i+1)*l.length))):=by
   have hlen:((xs.drop (i*l.length)).take l.length).length=((ys.drop (i*l.length)).take l.length).length:=by simp;omega
   conv=>lhs;rw [split xs,split ys]
   exact C0g hlen
  rw [List.range'_succ];simp only [B1u,Sem.run_bind,hp1,Result.andThen_ok,hp2,tH];rw [hd];cases decide ((xs.drop (i*l.length)).take l.length=(ys.drop (i*l.length)).take l.length) with
  | true=>simpa using ih
  | false=>simp
def D8b:∀ (d D:Nat) (t:TypeId) (l:List Sh),d<=D->B46 P d t=A4 l->E43 P D t l
 | 0,_,_,_,_,h=>by simp [B46] at h
 | d+1,0,_,_,hD,_=>by omega
 | d+1,D+1,t,l,hD,h=>by
  have ih:=λt' l'=>D8b d D t' l' (by omega)
  have tG:=D58 h;intro U w xs ys Xs Ys hx hy hX hY;unfold B46 at h;split at h
  ·rename_i hu;cases h;obtain ⟨x,X,rfl,rfl,h1,h2⟩:=C3e hx hX;obtain ⟨y,Y,rfl,rfl,h3,h4⟩:=C3e hy hY;obtain ⟨a,rfl⟩:=D8s h1;obtain ⟨b,rfl⟩:=D8s h3;cases h2;cases h4;have hm:∀ v:Value,mkv P t [v]=v:=λv=>by simp [mkv,oM,hu]
   rw [hm,hm,run_equalIn_bool' w D t a b hu,D7Q];simp
  ·rename_i k hu;cases h;obtain ⟨x,X,rfl,rfl,h1,h2⟩:=C3e hx hX;obtain ⟨y,Y,rfl,rfl,h3,h4⟩:=C3e hy hY;obtain ⟨a,rfl⟩:=D8t h1;obtain ⟨b,rfl⟩:=D8t h3;cases h2;cases h4;have hm:∀ v:Value,mkv P t [v]=v:=λv=>by simp [mkv,oM,hu]
   rw [hm,hm,run_equalIn_int w D t k k a b hu,D7Q];simp
  ·rename_i hu;cases h;obtain ⟨x,X,rfl,rfl,h1,h2⟩:=C3e hx hX;obtain ⟨y,Y,rfl,rfl,h3,h4⟩:=C3e hy hY;obtain ⟨a,rfl⟩:=D8u h1;obtain ⟨b,rfl⟩:=D8u h3;cases h2;cases h4;have hm:∀ v:Value,mkv P t [v]=v:=λv=>by simp [mkv,oM,hu]
   rw [hm,hm,run_equalIn_string w D t _ _ hu,ByteArray.toList_mk,ByteArray.toList_mk,show (a==b)=decide (a=b) by rw [Bool.eq_iff_iff];simp];simp
  ·rename_i fs hu;split at h
   ·rename_i nJ;have hm:∀ vs:List Value,mkv P t vs=.agg vs.toArray:=λvs=>by simp [mkv,oM,hu]
    have hfo:P.fieldsOf t=fs:=by simp [Program.fieldsOf,hu]
    rw [hm,hm,run_equalIn_struct w D t _ _ (by rw [hfo];exact hu) nJ,hfo];have hxl:xs.length=l.length:=by have:=congrArg List.length hx;simpa using this
    have hyl:ys.length=l.length:=by have:=congrArg List.length hy;simpa using this
    have:=D0U (P:=P) (leaf:=B46 P d) (D:=D) (λt' l' h'=>ih t' l' h') (λt' l' h'=>D58 h') fs.toList 0 l U w xs ys Xs Ys h (by omega) (by omega) (by simpa using hx) (by simpa using hy) hX hY;simpa using this
   ·cases h
  ·rename_i n e hu;simp only [E8i] at h;obtain ⟨le,mI,h⟩:=h;split at h
   ·cases h;rename_i hsz;have hm:∀ vs:List Value,mkv P t vs=.agg vs.toArray:=λvs=>by simp [mkv,oM,hu]
    have E7h:uT P t=A4 (n,e):=by simp [uT,hu]
    rw [hm,hm,run_equalIn_array E7h hsz];have hxl:xs.length=n*le.length:=by have:=congrArg List.length hx;simpa using this
    have hyl:ys.length=n*le.length:=by have:=congrArg List.length hy;simpa using this
    have:=D4c (ih e le mI) (D58 mI) hsz n 0 U w xs ys Xs Ys (by omega) (by omega) (by simpa using hx) (by simpa using hy) hX hY;rw [<-List.range_eq_range'] at this;simpa using this
   ·cases h
  ·cases h
def E4j{neg:Bool}{t:TypeId}{l:List Sh}{x y v:Val}{X Y:Value}(tG:oM P t=A4 A5)(hl:B46 P 100 t=A4 l)(hx:RV U x X)(hy:RV U y Y)(h:aeq neg l x y=A4 v) :
  ∃ V,(binOp (bif neg then .neq else .eql) t X Y).run P w=.ok V w/\RV U v V:=by
 unfold aeq at h;split at h
 ·obtain ⟨Xs,rfl,hX⟩:=hx;obtain ⟨Ys,rfl,hY⟩:=hy;split at h
  ·rename_i hc;cases h;have:=D8b (P:=P) 100 10000 t l (by omega) hl U w _ _ Xs Ys hc.1 hc.2 hX hY;have hm:∀ vs:List Value,mkv P t vs=.agg vs.toArray:=λvs=>by simp [mkv,tG]
   rw [hm,hm] at this;cases neg
   ·exact ⟨_,by rw [cond_false,run_eql_struct,this];rfl,rfl⟩
   ·exact ⟨_,by rw [cond_true,run_neq_struct,this];rfl,rfl⟩
  ·cases h
 ·cases h
end
section
variable {P:Program} {U:Mu} {w:World}
def D2G(P:Program)(t:TypeId):Option (TypeId × TypeId):=match P.underlying t with | some (.map k e)=>A4 (k,e) | _=>A7
def A5I{t k e:TypeId}(h:D2G P t=A4 (k,e)):P.underlying t=A4 (.map k e):=by
 unfold D2G at h;cases hu:P.underlying t with
 | none=>rw [hu] at h;cases h
 | some d=>rw [hu] at h;cases d<;>simp_all
def B2p(P:Program)(k:TypeId)(kk:Option IntKind):Bool :=
 match P.underlying k,kk with
 | some (.int i),A4 j=>decide (i=j)
 | some .string,none=>A5
 | _,_=>A6
def B1n(v:Value):Part->Bool
 | .c x=>v.oneCell'&&nF v [x]
 | .a l=>(match v with | .agg _=>A5 | _=>A6)&&nF v l
def B8w{v:Value}{p:Part}(h:B1n v p=A5):RP U p v:=by
 cases p with
 | c x =>
  simp only [B1n,E8j] at h;have h2:=jZ (U:=U) h.2;have h3:v.cells = #[v]:=by
   have:=h.1;cases v<;>simp_all [Value.oneCell',Value.cells]
  rw [h3] at h2;exact h2.1
 | a l =>
  simp only [B1n,E8j] at h;have h2:=jZ (U:=U) h.2;cases v with
  | agg vs=>exact ⟨vs.toList,by simp,by simpa [Value.cells] using h2⟩
  | _=>cases h.1
def C73{k:TypeId}{kk:Option IntKind}{d:TypeDesc}{c:Cell}{V:Value}(hd:P.underlying k=A4 d)(hk:B2p P k kk=A5)(hs:vY kk c=A5)(hc:RC U c V):MapKept.IsKey d V:=by
 unfold B2p at hk;rw [hd] at hk;cases d<;>cases kk<;>simp at hk
 all_goals
  cases c<;>simp [vY] at hs
 ·subst hk;subst hs;cases hc;rfl
 ·cases hc;trivial
def E5O{kk:Option IntKind}{c c':Cell}{V V':Value}(h1:vY kk c=A5)(h2:vY kk c'=A5)(hc:RC U c V)(hc':RC U c' V'):V=V'↔c=c':=by
 cases kk with
 | none =>
  cases c<;>simp [vY] at h1
  cases c'<;>simp [vY] at h2
  cases hc;cases hc';simp
 | some k =>
  cases c<;>simp [vY] at h1
  cases c'<;>simp [vY] at h2
  cases hc;cases hc';subst h1;subst h2;simp
def D2M{d:TypeDesc}{kk:Option IntKind}{k:Cell}{K:Value}(hkd:∀ c V,vY kk c=A5->RC U c V->MapKept.IsKey d V)(hk:vY kk k=A5)(hK:RC U k K) :
  ∀ (es:V8) (E:List MapEntry) (i:Nat),All2 (RE U) es E->(es.all λe=>vY kk e.1)=A5 ->
   match mgo k es i with
   | none=>Instr.findNow d K E i=A4 A7
   | some (j,p)=>∃ V,Instr.findNow d K E i=A4 (A4 (j,V))/\RP U p V/\i<=j/\∃ e E',es[j-i]?=A4 e/\e=(k,p)/\E[j-i]?=A4 E'/\E'.val=V/\E'.key=K
 | [],[],i,_,_=>rfl
 | e::es,E0::E,i,⟨⟨h1,h2⟩,h3⟩,hs=>by
  simp only [List.all_cons,E8j] at hs;obtain ⟨r,hr,E6A⟩:=MapKept.sameNow_of_keys (hkd k K hk hK) (hkd e.1 E0.key hs.1 h1);have hke:=E5O hk hs.1 hK h1;unfold mgo;by_cases he:e.1=k
  ·rw [if_pos he];have:r=A5:=E6A.2 (hke.2 he.symm);subst this;refine ⟨E0.val,by simp [Instr.findNow,hr],h2,E8m _,e,E0,by simp,by rw [<-he],by simp,rfl,(hke.2 he.symm).symm⟩
  ·rw [if_neg he];have hrf:r=A6:=by
    cases r with
    | false=>rfl
    | true=>exact absurd (hke.1 (E6A.1 rfl)).symm he
   subst hrf;have ih:=D2M hkd hk hK es E (i+1) h3 hs.2;cases hm:mgo k es (i+1) with
   | none=>rw [hm] at ih;simp only at ih ⊢;simp [Instr.findNow,hr,ih]
   | some jp =>
    obtain ⟨j,p⟩:=jp;rw [hm] at ih;obtain ⟨V,g1,g2,g3,e',E',g4,g5,g6,g7,g8⟩:=ih;refine ⟨V,by simp [Instr.findNow,hr,g1],g2,by omega,e',E',?_,g5,?_,g7,g8⟩
    ·rw [show j-i=(j-(i+1))+1 by omega];simpa using g4
    ·rw [show j-i=(j-(i+1))+1 by omega];simpa using g6
 | [],_::_,_,h,_=>h.elim
 | _::_,[],_,h,_=>h.elim
def RP.val{p:Part}{V:Value}(h:RP U p V):RV U (wN A6 p A5) V:=by
 cases p<;>exact h
def D7c{p:Part}{b:Bool}:wN A6 p b=wN A6 p A5:=by cases p<;>rfl
def D23{ok b:Bool}{p:Part}{V:Value}(h:RP U p V):RV U (wN ok p b) (if ok then .tuple #[V,.bool b] else V):=by
 cases ok with
 | true=>exact ⟨[V,.bool b],rfl,h,rfl,trivial⟩
 | false =>
  rw [D7c];exact RP.val h
def D2B{v:Val}{c:Cell}{V:Value}(h:C0K v=A4 c)(hv:RV U v V):RC U c V:=by
 cases v<;>simp [C0K] at h
 subst h;exact hv
def D5j{v:Val}{p:Part}{V:Value}(h:C4s v=A4 p)(hv:RV U v V):RP U p V:=by
 cases v<;>simp [C4s] at h
 ·subst h;exact hv
 ·subst h;exact hv
def E34{hp:A9}{m:Val}{M:Value}{es:V8}(hrow:∀ id r,rd hp id=A4 r->RowOk U w id r)(hm:RV U m M)(h:D2H hp m=A4 es) :
  (M=.map A7/\es=[])\/∃ b E,M=.map (A4 b)/\w.heap[b]?=A4 (.map E E.size)/\All2 (RE U) es E.toList/\∀ (i:Nat) (e:MapEntry),E[i]?=A4 e->e.born=i:=by
 unfold D2H at h;split at h
 ·cases h;exact .inl ⟨hm,rfl⟩
 ·rename_i id;obtain ⟨b,n,h1,rfl⟩:=hm;simp only [E8i] at h;obtain ⟨r,hr,h⟩:=h;have:=B53 h;subst this;obtain ⟨E,h2,h3,h4⟩:=(hrow id _ hr).map h1;exact .inr ⟨b,E,rfl,h2,h3,h4⟩
 ·cases h
def E2L{t kt et:TypeId}{kk:Option IntKind}{z:Value}{zero:Part}{ok:Bool}{hp:A9}{m x v:Val}{M X:Value}(ht:D2G P t=A4 (kt,et))(hkk:B2p P kt kk=A5)(hz:A2O P et=A4 z)(hc:B1n z zero=A5)
  (hrow:∀ id r,rd hp id=A4 r->RowOk U w id r) (hm:RV U m M) (hx:RV U x X) (h:yS hp kk zero ok m x=A4 v) :
  ∃ V,(Instr.lookup t M X ok).run P w=.ok V w/\RV U v V:=by
 simp only [yS,E8i] at h;obtain ⟨k,hk,es,hes,h⟩:=h;split at h
 ·cases h;rename_i A69;simp only [A20,E8j] at A69;have hK:=D2B hk hx;cases hd:P.underlying kt with
  | none=>unfold B2p at hkk;rw [hd] at hkk;cases hkk
  | some d =>
   have hkd:∀ c V,vY kk c=A5->RC U c V->MapKept.IsKey d V:=λc V=>C73 hd hkk
   have hX:=hkd k X A69.1 hK;rcases E34 hrow hm hes with ⟨rfl,rfl⟩ | ⟨b,E,rfl,h1,h2,_⟩
   ·refine ⟨_,?_,D23 (B8w hc)⟩;simp [Instr.lookup,F8 (A5I ht),MapKept.run_checkKey hd hX,MapKept.run_findKey (l:=[]) hd (show Instr.findNow d X [] 0=A4 A7 from rfl),A2I hz]
   ·have hg:=D2M hkd A69.1 hK es E.toList 0 h2 A69.2;unfold A90;cases hmg:mgo k es 0 with
    | none =>
     rw [hmg] at hg;refine ⟨_,?_,D23 (B8w hc)⟩;simp [Instr.lookup,F8 (A5I ht),MapKept.run_getObj_map h1,MapKept.run_checkKey hd hX,MapKept.run_findKey hd hg,A2I hz]
    | some jp =>
     obtain ⟨j,p⟩:=jp;rw [hmg] at hg;obtain ⟨V,g1,g2,_⟩:=hg;refine ⟨_,?_,D23 g2⟩;simp [Instr.lookup,F8 (A5I ht),MapKept.run_getObj_map h1,MapKept.run_checkKey hd hX,MapKept.run_findKey hd g1]
 ·cases h
def B5a{J:Ctx}{h:A9}{id b n:Nat}{es es':V8}{E E':Array MapEntry}(hi:Inv J U h w)(hr:rd h id=A4 (Q1 es))(hm:U id=A4 (b,n))(hb:w.heap[b]?=A4 (.map E E.size))
  (h1:All2 (RE U) es' E'.toList) (h2:∀ (i:Nat) (e:MapEntry),E'[i]?=A4 e->e.born=i):Inv J U (h.set id (A4 (Q1 es'))) { w with heap:=w.heap.setIfInBounds b (.map E' E'.size) }:=by
 obtain ⟨g1,g2⟩:=MapKept.heap_set (o':=.map E' E'.size) hb;refine hi.turn hr (Row.own_mrow _) (Row.own_mrow _) hm rfl rfl rfl g2 ?_;unfold RowOk;rw [hm];exact .inr (.inl ⟨es',E',rfl,g1,h1,h2⟩)
def All2.modify{es:V8}{E:List MapEntry}{i:Nat}{e:Cell × Part}{f:MapEntry->MapEntry}(h:All2 (RE U) es E)(hf:∀ x,E[i]?=A4 x->RE U e (f x)):All2 (RE U) (es.set i e) (E.modify i f):=by
 refine All2.of_get (by simp [h.length]) λj a b ha hb=>?_
 rw [List.getElem?_modify] at hb;by_cases hj:i=j
 ·subst hj;obtain ⟨x,hx,rfl⟩:∃ x,E[i]?=A4 x/\f x=b:=by
   cases hE:E[i]? with
   | none=>rw [hE] at hb;simp at hb
   | some y=>rw [hE] at hb;simp at hb;exact ⟨y,rfl,hb⟩
  have W4:i<es.length:=by
   have:=(E8p.1 hx).1;rw [h.length];exact this
  rw [List.getElem?_set_self W4] at ha;cases ha;exact hf x hx
 ·rw [E9r hj] at ha;have hb':E[j]?=A4 b:=by
   cases hE:E[j]? with
   | none=>rw [hE] at hb;simp at hb
   | some y=>rw [hE] at hb;simp [hj] at hb;rw [hb]
  obtain ⟨y,hy,hR⟩:=h.get j a ha;rw [hb'] at hy;cases hy;exact hR
def D5x{J:Ctx}{t kt et:TypeId}{kk:Option IntKind}{h h':A9}{m k x:Val}{M K X:Value}(ht:D2G P t=A4 (kt,et))(hkk:B2p P kt kk=A5)
  (hi:Inv J U h w) (hm:RV U m M) (hk:RV U k K) (hx:RV U x X) (hh:A3k h kk m k x=A4 h') :
  ∃ w',(Instr.mapUpdate t M K X).run P w=.ok () w'/\Inv J U h' w':=by
 unfold A3k at hh;split at hh
 ·rename_i id;obtain ⟨b,n,hmu,rfl⟩:=hm;simp only [E8i] at hh;obtain ⟨kc,hkc,p,hp,r,hr,es,hes,hh⟩:=hh;split at hh
  ·cases hh;rename_i A69;simp only [A20,E8j] at A69;have:=B53 hes;subst this;have hK:=D2B hkc hk;have hX:=D5j hp hx;obtain ⟨E,h1,h2,h3⟩:=(hi.rows id _ hr).map hmu;cases hd:P.underlying kt with
   | none=>unfold B2p at hkk;rw [hd] at hkk;cases hkk
   | some d =>
    have hkd:∀ c V,vY kk c=A5->RC U c V->MapKept.IsKey d V:=λc V=>C73 hd hkk
    have D6K:=hkd kc K A69.1 hK;have hg:=D2M hkd A69.1 hK es E.toList 0 h2 A69.2;unfold A91 A90;cases hmg:mgo kc es 0 with
    | none =>
     rw [hmg] at hg;refine ⟨_,?_,B5a (E':=E.push { key:=K,val:=X,born:=E.size }) hi hr hmu h1 (by rw [Array.toList_push];exact h2.append ⟨⟨hK,hX⟩,trivial⟩) ?_⟩
     ·simp [Instr.mapUpdate,F8 (A5I ht),MapKept.run_getObj_map h1,MapKept.run_checkKey hd D6K,MapKept.run_findKey hd hg,MapKept.run_setObj_map _ h1]
     ·intro i e he;rw [Array.getElem?_push] at he;split at he
      ·cases he;rename_i hh;exact hh.symm
      ·exact h3 i e he
    | some jp =>
     obtain ⟨j,q⟩:=jp;rw [hmg] at hg;obtain ⟨V,g1,g2,_,e0,E0,g4,g5,g6,g7,g8⟩:=hg;simp only [Nat.sub_zero] at g4 g6;have g6':E[j]?=A4 E0:=by simpa using g6
     refine ⟨_,?_,B5a (E':=E.modify j λe=>{ e with key:=K,val:=X }) hi hr hmu h1 ?_ ?_⟩
     ·simp [Instr.mapUpdate,F8 (A5I ht),MapKept.run_getObj_map h1,MapKept.run_checkKey hd D6K,MapKept.run_findKey hd g1,g6',g8,MapKept.run_keyThatStays D6K,MapKept.run_setObj_map _ h1]
     ·rw [Array.toList_modify];exact All2.modify h2 λx hx=>⟨hK,hX⟩
     ·intro i e he;rw [Array.getElem?_modify] at he;split at he
      ·rw [E8G] at he;obtain ⟨e',he',rfl⟩:=he;exact h3 i e' he'
      ·exact h3 i e he
  ·cases hh
 ·cases hh
def E2M{J:Ctx}{t kt et:TypeId}{kk:Option IntKind}{z:Value}{zero:Part}{h h':A9}{m k v:Val}{M K:Value}(ht:D2G P t=A4 (kt,et))(hkk:B2p P kt kk=A5)(hz:A2O P et=A4 z)(hc:B1n z zero=A5)
  (hi:Inv J U h w) (hm:RV U m M) (hk:RV U k K) (hh:D3B h kk zero m k=A4 (v,h')) :
  ∃ V w',(Instr.mapEntry t M K).run P w=.ok V w'/\RV U v V/\Inv J U h' w':=by
 unfold D3B at hh;split at hh
 ·rename_i id;obtain ⟨b,n,hmu,rfl⟩:=hm;simp only [E8i] at hh;obtain ⟨kc,hkc,r,hr,es,hes,hh⟩:=hh;split at hh
  ·rename_i A69;simp only [A20,E8j] at A69;have:=B53 hes;subst this;have hK:=D2B hkc hk;have hZ:RP U zero z:=B8w hc;obtain ⟨E,h1,h2,h3⟩:=(hi.rows id _ hr).map hmu;cases hd:P.underlying kt with
   | none=>unfold B2p at hkk;rw [hd] at hkk;cases hkk
   | some d =>
    have hkd:∀ c V,vY kk c=A5->RC U c V->MapKept.IsKey d V:=λc V=>C73 hd hkk
    have D6K:=hkd kc K A69.1 hK;have hg:=D2M hkd A69.1 hK es E.toList 0 h2 A69.2;unfold A90 at hh;cases hmg:mgo kc es 0 with
    | none =>
     rw [hmg] at hg hh;cases hh;have hlen:es.length=E.size:=by have:=h2.length;simpa using this
     refine ⟨.tuple #[z,goInt E.size],_,?_,⟨[z,goInt E.size],rfl,hZ,by rw [hlen];rfl,trivial⟩,B5a (E':=E.push { key:=K,val:=z,born:=E.size }) hi hr hmu h1 (by rw [Array.toList_push];exact h2.append ⟨⟨hK,hZ⟩,trivial⟩) ?_⟩
     ·simp [Instr.mapEntry,F8 (A5I ht),MapKept.run_getObj_map h1,MapKept.run_checkKey hd D6K,MapKept.run_findKey hd hg,A2I hz,MapKept.run_setObj_map _ h1]
     ·intro i e he;rw [Array.getElem?_push] at he;split at he
      ·cases he;rename_i hh;exact hh.symm
      ·exact h3 i e he
    | some jp =>
     obtain ⟨j,q⟩:=jp;rw [hmg] at hg hh;cases hh;obtain ⟨V,g1,g2,_,e0,E0,g4,g5,g6,g7,g8⟩:=hg;simp only [Nat.sub_zero] at g4 g6;have g6':E[j]?=A4 E0:=by simpa using g6
     have E6s:=h3 j E0 g6';have E7K:es.set j (kc,q)=es:=by
      apply E9z;intro i;by_cases hij:j=i
      ·subst hij;rw [List.getElem?_set_self (E8p.1 g4).1,g4,g5]
      ·rw [E9r hij]
     have hI:=B5a (es':=es.set j (kc,q)) (E':=E.modify j λe=>{ e with key:=K }) hi hr hmu h1 (by
      rw [Array.toList_modify];refine All2.modify h2 λx hx=>⟨hK,?_⟩
      rw [g6] at hx;cases hx;show RP U q E0.val;rw [g7];exact g2) (by
      intro i e he;rw [Array.getElem?_modify] at he;split at he
      ·rw [E8G] at he;obtain ⟨e',he',rfl⟩:=he;exact h3 i e' he'
      ·exact h3 i e he)
     rw [E7K] at hI;have hsame:h.set id (A4 (Q1 es))=h:=by
      apply E9z;intro i;by_cases hij:id=i
      ·subst hij;rw [List.getElem?_set_self (E1 hr)];rw [rd_some] at hr;rw [hr]
      ·rw [E9r hij]
     rw [hsame] at hI;refine ⟨.tuple #[V,goInt j],_,?_,⟨[V,goInt j],rfl,g2,rfl,trivial⟩,hI⟩;simp [Instr.mapEntry,F8 (A5I ht),MapKept.run_getObj_map h1,MapKept.run_checkKey hd D6K,MapKept.run_findKey hd g1,g6',g8,E6s,MapKept.run_keyThatStays D6K,MapKept.run_setObj_map _ h1]
  ·cases hh
 ·cases hh
def E2O{J:Ctx}{t:TypeId}{h h':A9}{m s x:Val}{M S X:Value}
  (hi:Inv J U h w) (hm:RV U m M) (hs:RV U s S) (hx:RV U x X) (hh:D3C h m s x=A4 h') :
  ∃ w',(Instr.entryStore t M S X).run P w=.ok () w'/\Inv J U h' w':=by
 unfold D3C at hh;split at hh
 ·rename_i id n;obtain ⟨b,nn,hmu,rfl⟩:=hm;cases hs;simp only [E8i] at hh;obtain ⟨p,hp,r,hr,es,hes,hh⟩:=hh;split at hh
  ·rename_i hn;simp only [E8i,E8n] at hh;obtain ⟨e,he,rfl⟩:=hh;have:=B53 hes;subst this;have hX:=D5j hp hx;obtain ⟨E,h1,h2,h3⟩:=(hi.rows id _ hr).map hmu;obtain ⟨E0,hE0,hR⟩:=h2.get _ _ he;have E7e:E[n.toNat]?=A4 E0:=by simpa using hE0
   have E6w:E.findIdx? (λe=>(e.born:Int)==n)=A4 n.toNat:=by
    rw [Array.findIdx?_eq_some_iff_getElem];have W4:=(Array.getElem?_eq_some_iff.1 E7e).1;refine ⟨W4,?_,λj hj=>?_⟩
    ·have:=h3 n.toNat E[n.toNat] (by simp [W4]);simp [this];omega
    ·have:=h3 j E[j] (by simp);simp [this];omega
   refine ⟨_,?_,B5a (E':=E.modify n.toNat λe=>{ e with val:=X }) hi hr hmu h1 ?_ ?_⟩
   ·simp [Instr.entryStore,MapKept.run_getObj_map h1,asInt,asIntOf,E6w,MapKept.run_setObj_map _ h1]
   ·rw [Array.toList_modify];refine All2.modify h2 λx hx=>⟨?_,hX⟩
    rw [hE0] at hx;cases hx;exact hR.1
   ·intro i e' he';rw [Array.getElem?_modify] at he';split at he'
    ·rw [E8G] at he';obtain ⟨e'',E7n,rfl⟩:=he';exact h3 i e'' E7n
    ·exact h3 i e' he'
  ·cases hh
 ·cases hh
def E0c{J:Ctx}{t:TypeId}{h:A9}{n0:Nat}{slot:Option Nat}(hi:Inv J U h w)(hs:A00 U h n0 slot) :
  ∃ V w' U',(Instr.makeMap t A7).run P w=.ok V w' /\ U.le U'/\RV U' (.c (.m (gF h n0 slot (Q1 [])).1)) V/\Inv J U' (gF h n0 slot (Q1 [])).2 w'/\Keeps U U' h n0 slot:=by
 obtain ⟨h1,h2,h3,h4,h5,h6⟩:=vP (r:=Q1 []) hs hi.dom;refine ⟨.map (A4 w.heap.size),w.alloc (.map #[] 0),_,rfl,Mu.le_add h1,⟨_,0,X4 _ _ _,rfl⟩,?_,Keeps.new⟩;refine hi.fresh h1 rfl rfl rfl (λb hb=>?_) h2 h3 h4 h5 ?_
 ·show (w.heap.push _)[b]?=_;rw [Array.getElem?_push,if_neg (by omega)]
 ·unfold RowOk;simp only [Mu.add,if_true];refine .inr (.inl ⟨[],#[],rfl,by show (w.heap.push _)[w.heap.size]?=_;simp,trivial,λi e he=>by simp at he⟩)
end
def B1C:Value->Bool
 | .slice A7 0 0=>A5
 | _=>A6
def A2j(place:Nat->Option (Nat × Nat)):List (Nat × Operand)->List (Nat × Nat × Opd)->Bool
 | [],[]=>A5
 | q::qs,p::ps=>decide (place q.1=A4 (p.1,p.2.1))&&E9 q.2 p.2.2&&A2j place qs ps
 | _,_=>A6
def places(P:Program)(fs:Array Field):List (Option (Nat × Nat)):=fs.toList.map λf=>(T0 P f.type).map λn=>(f.offset,n)
def B5L{α:Type}:List (Option α)->Option (List α)
 | []=>A4 []
 | some a::r=>(B5L r).map λl=>a::l
 | none::_=>A7
def A9r(P:Program)(s:TypeId)(j:Nat):Option Field:=(A7m P s).bind λfs=>fs[j]?
def B4p(P:Program)(e:TypeId):Bool :=
 match P.info? e with
 | some i=>decide (i.bytes<=65536)&&decide (i.bytes≠0)&&decide (i.size≠0)&&(match i.zero with | some z=>decide (z.cells.size=i.size) | none=>A6)
 | none=>A6
def E5g(P:Program)(t:TypeId):Bool :=
 match P.underlying t with
 | some .string=>A5
 | some (.slice _)=>A5
 | _=>A6
def E3w(P:Program)(o:Op):AOp->Bool
 | .mv y=>(match o with | .move x=>E9 x y | .assign x=>E9 x y | _=>A6)
 | .nilrow _=>(match o with | .move (.const v)=>B1C v | .assign (.const v)=>B1C v | _=>A6)
 | .pick c a b=>(match o with | .pick c' a' b'=>E9 c' c&&E9 a' a&&E9 b' b | _=>A6)
 | .alloc z=>(match o with | .alloc t=>(match A2O P t with | some v=>nF v z | none=>A6) | _=>A6)
 | .box y=>(match o with | .box _ x=>E9 x y | _=>A6)
 | .build z ps=>(match o with
   | .build t qs=>(match A2O P t with | some v=>nF v z | none=>A6) &&
     (match A7m P t with
      | some fs=>(match B5L (places P fs) with | some pl=>A2j (pl[·]?) qs.toList ps | none=>A6)
      | none=>(match uT P t with | some (_,e)=>(match T0 P e with | some sz=>A2j (λi=>A4 (i*sz,sz)) qs.toList ps | none=>A6) | none=>A6))
   | _=>A6)
 | .buildSl sz len z ps=>(match o with
   | .buildSlice t len' qs=>decide (len=len')&&(match sliceB P t with
     | some e=>decide (T0 P e=A4 sz)&&decide (len*sz<=2 ^ 24)&&(match A2O P e with
       | some v=>nF (.agg ((Array.range (len*sz)).map (v.cells[· % v.cells.size]!))) z
       | none=>A6)&&A2j (λi=>A4 (i*sz,sz)) qs.toList ps
     | none=>A6)
   | _=>A6)
 | .load1 y=>(match o with | .load t x=>decide (oM P t=A4 A6)&&E9 x y | _=>A6)
 | .loadN n y=>(match o with | .load t x=>decide (oM P t=A4 A5)&&decide (T0 P t=A4 n)&&E9 x y | _=>A6)
 | .store1 y z=>(match o with | .store t x v=>decide (T0 P t=A4 1)&&E9 x y&&E9 v z | _=>A6)
 | .storeN n y z=>(match o with | .store t x v=>decide (T0 P t=A4 n)&&E9 x y&&E9 v z | _=>A6)
 | .bin op y z=>(match o with | .binOp op' _ x v _=>decide (op=op')&&E9 x y&&E9 v z | _=>A6)
 | .eqA neg sh y z=>(match o with | .binOp op' t x v _=>decide ((bif neg then BinOp.neq else .eql)=op')&&decide (oM P t=A4 A5)&&decide (B46 P 100 t=A4 sh) && !P.eqGuardType P.depth t&&E9 x y&&E9 v z | _=>A6)
 | .eqB neg y z=>(match o with | .binOp op' t x v _=>decide ((bif neg then BinOp.neq else .eql)=op')&&(match P.underlying t with | some .bool=>A5 | _=>A6)&&E9 x y&&E9 v z | _=>A6)
 | .eqN fn neg y=>(match o with | .binOp op' t x (.const c) _=>decide ((bif neg then BinOp.neq else .eql)=op')&&D2y P fn t c&&E9 x y | _=>A6)
 | .nilc y=>(match o with | .nilCheck x=>E9 x y | _=>A6)
 | .un op y=>(match o with | .unOp op' _ x=>decide (op=op')&&E9 x y | _=>A6)
 | .conv k y=>(match o with | .convert s d x=>(B8G P s).isSome&&decide (B8G P d=A4 k)&&E9 x y | _=>A6)
 | .convS y=>(match o with | .convert s d x=>dV P s&&dV P d&&E9 x y | _=>A6)
 | .s2b y=>(match o with | .convert s d x=>dV P s&&(match sliceB P d with | some e=>decide (B8G P e=A4 .u8) | none=>A6)&&E9 x y | _=>A6)
 | .b2s y=>(match o with | .convert s d x=>dV P d&&(match sliceB P s with | some e=>decide (B8G P e=A4 .u8) | none=>A6)&&E9 x y | _=>A6)
 | .b2sN _ y=>(match o with | .convert s d x=>dV P d&&(match sliceB P s with | some e=>decide (B8G P e=A4 .u8) | none=>A6)&&E9 x y | _=>A6)
 | .mark y=>(match o with | .convert s d x=>decide (s=d)&&(match sliceB P s with | some e=>decide (B8G P e=A4 .u8) | none=>A6)&&E9 x y | _=>A6)
 | .mkf f caps=>(match o with | .makeFunc (.func g) first cs=>decide (f=g)&&first.isEmpty&&A61 cs.toList caps | _=>A6)
 | .mkb f x=>(match o with | .makeFunc (.func g) first cs=>decide (f=g)&&cs.isEmpty&&(match first.toList with | [y]=>E9 y x | _=>A6) | _=>A6)
 | .mkSl sz z y y2=>(match o with
   | .makeSlice t x x2=>E9 x y&&E9 x2 y2&&(match sliceB P t with
     | some e=>B4p P e&&decide (T0 P e=A4 sz)&&decide (z.length=sz)&&(match A2O P e with | some v=>nF v z | none=>A6)
     | none=>A6)
   | _=>A6)
 | .slS y lo hi=>(match o with | .slice t x l h none=>dV P t&&E9 x y&&B4o l lo&&B4o h hi | _=>A6)
 | .slL sz y lo hi=>(match o with | .slice t x l h none=>(match sliceB P t with | some e=>decide (T0 P e=A4 sz) | none=>A6)&&E9 x y&&B4o l lo&&B4o h hi | _=>A6)
 | .slA n sz y lo hi=>(match o with | .slice t x l h none=>(match uT P t with | some (m,e)=>decide (m=n)&&decide (T0 P e=A4 sz) | none=>A6)&&E9 x y&&B4o l lo&&B4o h hi | _=>A6)
 | .fAddr y off=>(match o with | .fieldAddr s x j=>(match A9r P s j with | some f=>decide (f.offset=off)&&(match T0 P f.type with | some n=>decide (n≠0) | none=>A6) | none=>A6)&&E9 x y | _=>A6)
 | .iAddrA n sz y z=>(match o with | .indexAddr t x i=>(match uT P t with | some (m,e)=>decide (m=n)&&decide (T0 P e=A4 sz) | none=>A6)&&E9 x y&&E9 i z | _=>A6)
 | .iAddrL sz y z=>(match o with | .indexAddr t x i=>(match sliceB P t with | some e=>decide (T0 P e=A4 sz) | none=>A6)&&E9 x y&&E9 i z | _=>A6)
 | .fld1 y off=>(match o with | .field s x j=>(match A9r P s j with | some f=>decide (f.offset=off)&&decide (oM P f.type=A4 A6) | none=>A6)&&E9 x y | _=>A6)
 | .fldN y off n=>(match o with | .field s x j=>(match A9r P s j with | some f=>decide (f.offset=off)&&decide (oM P f.type=A4 A5)&&decide (T0 P f.type=A4 n) | none=>A6)&&E9 x y | _=>A6)
 | .idxA1 n y z=>(match o with | .index t x i=>(match uT P t with | some (m,e)=>decide (m=n)&&decide (oM P e=A4 A6)&&decide (T0 P e=A4 1) | none=>A6)&&E9 x y&&E9 i z | _=>A6)
 | .idxAN n sz y z=>(match o with | .index t x i=>(match uT P t with | some (m,e)=>decide (m=n)&&decide (oM P e=A4 A5)&&decide (T0 P e=A4 sz) | none=>A6)&&E9 x y&&E9 i z | _=>A6)
 | .idxS y z=>(match o with | .index t x i=>dV P t&&E9 x y&&E9 i z | _=>A6)
 | .ext y k=>(match o with | .extract x k'=>decide (k=k')&&E9 x y | _=>A6)
 | .call _ _=>A6
 | .callV _ _=>A6
 | .len y=>(match o with | .call c=>(match c.callee,c.args.toList,c.argTypes.toList with | .builtin .len,[x],[t]=>(sliceB P t).isSome&&E9 x y | _,_,_=>A6) | _=>A6)
 | .lenS y=>(match o with | .call c=>(match c.callee,c.args.toList,c.argTypes.toList with | .builtin .len,[x],[t]=>dV P t&&E9 x y | _,_,_=>A6) | _=>A6)
 | .app sz y z=>(match o with
   | .call c=>(match c.callee,c.args.toList,c.argTypes.toList with
     | .builtin .append,[x,v],[s,yt]=>(match sliceB P s with | some e=>B4p P e&&decide (T0 P e=A4 sz) | none=>A6)&&E5g P yt&&E9 x y&&E9 v z
     | _,_,_=>A6)
   | _=>A6)
 | .appZ sz zero y z=>(match o with
   | .call c=>(match c.callee,c.args.toList,c.argTypes.toList with
     | .builtin .append,[x,v],[s,yt]=>(match sliceB P s with | some e=>B4p P e&&decide (T0 P e=A4 sz)&&(match A2O P e with | some v=>nF v zero | none=>A6) | none=>A6)&&(B8G P yt).isSome&&E9 x y&&E9 v z
     | _,_,_=>A6)
   | _=>A6)
 | .max y z=>(match o with | .call c=>(match c.callee,c.args.toList with | .builtin .max,[x,v]=>E9 x y&&E9 v z | _,_=>A6) | _=>A6)
 | .min y z=>(match o with | .call c=>(match c.callee,c.args.toList with | .builtin .min,[x,v]=>E9 x y&&E9 v z | _,_=>A6) | _=>A6)
 | .copy sz y z=>(match o with
   | .call c=>(match c.callee,c.args.toList,c.argTypes.toList with
     | .builtin .copy,[x,v],[s,yt]=>(match sliceB P s with | some e=>decide (T0 P e=A4 sz)&&decide (sz≠0) | none=>A6)&&E9 x y&&E9 v z
     | _,_,_=>A6)
   | _=>A6)
 | .mkMap=>(match o with | .makeMap _ none=>A5 | _=>A6)
 | .look kk zero ok y z=>(match o with
   | .lookup t m k ok'=>(match D2G P t with
     | some (kt,et)=>B2p P kt kk&&(match A2O P et with | some v=>B1n v zero | none=>A6)
     | none=>A6)&&decide (ok=ok')&&E9 m y&&E9 k z
   | _=>A6)
 | .mput kk y z z2=>(match o with
   | .mapUpdate t m k x=>(match D2G P t with
     | some (kt,et)=>B2p P kt kk
     | none=>A6)&&E9 m y&&E9 k z&&E9 x z2
   | .insert t m k x=>(match D2G P t with
     | some (kt,et)=>B2p P kt kk
     | none=>A6)&&E9 m y&&E9 k z&&E9 x z2
   | _=>A6)
 | .ment kk zero y z=>(match o with
   | .mapEntry t m k=>(match D2G P t with
     | some (kt,et)=>B2p P kt kk&&(match A2O P et with | some v=>B1n v zero | none=>A6)
     | none=>A6)&&E9 m y&&E9 k z
   | _=>A6)
 | .mset y z z2=>(match o with
   | .entryStore _ m s x=>E9 m y&&E9 s z&&E9 x z2
   | _=>A6)
def Res(P:Program)(o:Oper)(a:Act)(w:World)(V:Value)(w':World):Prop :=
 (execOp a.eval o).run P w=.ok (.value V) w'\/((execOp a.eval o).run P w=.ok .skip w'/\V=undef)
section
variable {P:Program} {U:Mu} {w:World}
def A4q{e:Env}{a:Act}{x:Option Operand}{y:Option Opd}(h:B4o x y=A5)(hs:SEnv U e a):D1R U (y.map e.ev) (x.map a.eval):=by
 cases x<;>cases y<;>simp [B4o] at h
 ·trivial
 ·exact D4 h hs
def A62{e:Env}{a:Act}(hs:SEnv U e a){place:Nat->Option (Nat × Nat)}:∀ {qs:List (Nat × Operand)} {ps:List (Nat × Nat × Opd)},A2j place qs ps=A5 ->
  C5X U place (ps.map λp=>(p.1,p.2.1,e.ev p.2.2)) (qs.map λ(i,x)=>(i,a.eval x))
 | [],[],_=>trivial
 | q::qs,p::ps,h=>by
  simp [A2j] at h;exact ⟨⟨h.1.1,D4 h.1.2 hs⟩,A62 hs h.2⟩
 | [],_::_,h=>by simp [A2j] at h
 | _::_,[],h=>by simp [A2j] at h
def C6R{α:Type}:∀ {l:List (Option α)} {m:List α},B5L l=A4 m->l=m.map A4
 | [],m,h=>by simp [B5L] at h;subst h;rfl
 | some a::r,m,h=>by
  simp only [B5L,E8G] at h;obtain ⟨l,hl,rfl⟩:=h;simp [C6R hl]
 | none::_,m,h=>by simp [B5L] at h
def B4q{e:TypeId}(h:B4p P e=A5):∃ i z,P.info? e=A4 i/\i.bytes<=65536/\i.bytes≠0/\i.size≠0/\i.zero=A4 z/\z.cells.size=i.size:=by
 unfold B4p at h;split at h
 ·rename_i i hi;simp only [E8j,decide_eq_true_eq] at h;obtain ⟨⟨⟨h1,h2⟩,h3⟩,h4⟩:=h;split at h4
  ·rename_i z hz;exact ⟨i,z,hi,h1,h2,h3,hz,by simpa using h4⟩
  ·cases h4
 ·cases h
def E3x{t:TypeId}(h:E5g P t=A5):P.underlying t=A4 .string\/∃ e',P.underlying t=A4 (.slice e'):=by
 unfold E5g at h;split at h
 ·exact .inl ‹_›
 ·exact .inr ⟨_,‹_›⟩
 ·cases h
def D0L:∀ {l:List Val} {cs:List (Nat × Nat)} {Vs:List Value},C6X l=A4 cs->All2 (RV U) l Vs->All2 (RPtr U) cs Vs
 | [],cs,[],h,_=>by simp [C6X] at h;subst h;trivial
 | v::r,cs,V::Vs,h,⟨h1,h2⟩=>by
  unfold C6X at h;split at h
  ·rename_i tH;cases tH
  ·rename_i id off r' tH;cases tH;simp only [E8G] at h;obtain ⟨l,hl,rfl⟩:=h;exact ⟨h1,D0L hl h2⟩
  ·cases h
 | [],_,_::_,_,h=>h.elim
 | _::_,_,[],_,h=>h.elim
end
section
variable {P:Program} {U:Mu} {w:World}
def E3c(P:Program)(J:Ctx)(U:Mu)(o:Oper)(a:Act)(w:World)(h:A9)(n0:Nat)(slot:Option Nat)(v:Val)(h':A9):Prop :=
 ∃ V w' U',Res P o a w V w' /\ U.le U'/\RV U' v V/\Inv J U' h' w'/\Keeps U U' h n0 slot
def N0{J:Ctx}{o:Oper}{a:Act}{v:Val}{h:A9}{n0:Nat}{slot:Option Nat}{s:Sem Value}(hi:Inv J U h w)(he:execOp a.eval o=(do pure (Next.value (<-s))))(hr:∃ V,s.run P w=.ok V w/\RV U v V):E3c P J U o a w h n0 slot v h:=by
 obtain ⟨V,h1,h2⟩:=hr;exact ⟨V,w,U,.inl (by rw [he];simp [h1]),Mu.le_refl _,h2,hi,Keeps.refl _ _ _ _⟩
def pN{J:Ctx}{o:Oper}{a:Act}{v:Val}{h h':A9}{n0:Nat}{slot:Option Nat}{s:Sem Value}(he:execOp a.eval o=(do pure (Next.value (<-s))))(hr:∃ V w' U',s.run P w=.ok V w' /\ U.le U'/\RV U' v V/\Inv J U' h' w'/\Keeps U U' h n0 slot):E3c P J U o a w h n0 slot v h':=by
 obtain ⟨V,w',U',h1,h2,h3,h4⟩:=hr;exact ⟨V,w',U',.inl (by rw [he];simp [h1]),h2,h3,h4⟩
def A97{J:Ctx}{o:Oper}{a:Act}{h h':A9}{n0:Nat}{slot:Option Nat}{s:Sem Unit}(he:execOp a.eval o=(do s;pure Next.skip))(hr:∃ w',s.run P w=.ok () w'/\Inv J U h' w'):E3c P J U o a w h n0 slot .un h':=by
 obtain ⟨w',h1,h2⟩:=hr;exact ⟨undef,w',U,.inr ⟨by rw [he];simp [h1],rfl⟩,Mu.le_refl _,trivial,h2,Keeps.refl _ _ _ _⟩
def C7P{op:BinOp}{t:TypeId}{x y:Operand}{X Y:Value}(hX:∀ c,X≠.agg c)(hX2:X≠.nilIface):(eqGuard op t x y X Y).run P w=.ok () w:=by
 unfold eqGuard;cases X<;>cases Y<;>simp_all<;>split<;>rfl
def D53{op:BinOp}{x y v:Val}{X:Value}(h:N4 op x y=A4 v)(hx:RV U x X):(∀ c,X≠.agg c)/\X≠.nilIface:=by
 unfold N4 at h;split at h
 ·cases hx;simp
 ·cases hx;simp
 ·cases h
def E56{J:Ctx}{E:K7}{q:Bool}{hr:A9}{n0:Nat}{slot:Option Nat}{o:Oper}{ao:AOp}{e:Env}{h:A9}{a:Act}{v:Val}{h':A9}
  (hc:E3w P o.op ao=A5) (hs:SEnv U e a) (hi:Inv J U h w) (hrd:∀ id r,rd hr id=A4 r->rd h id=A4 r) (hsl:A00 U h n0 slot)
  (D7:aop E q hr n0 slot ao e h (λv h=>A4 (v,h))=A4 (v,h')):E3c P J U o a w h n0 slot v h':=by
 have hrow:∀ id r,rd hr id=A4 r->RowOk U w id r:=λid r h1=>hi.rows id r (hrd id r h1)
 obtain ⟨dst,op,type,pos,after,guard⟩:=o;simp only at hc;cases ao<;>simp only [E3w] at hc<;>simp only [aop] at D7
 case mv y =>
  cases D7;split at hc
  ·exact ⟨_,w,U,.inl rfl,Mu.le_refl _,D4 hc hs,hi,Keeps.refl _ _ _ _⟩
  ·exact ⟨_,w,U,.inl rfl,Mu.le_refl _,D4 hc hs,hi,Keeps.refl _ _ _ _⟩
  ·cases hc
 case nilrow sz =>
  cases D7;have key:∀ x:Value,B1C x=A5->x=.slice A7 0 0:=by
   intro x hx;unfold B1C at hx;split at hx<;>first | rfl | cases hx
  split at hc
  ·exact ⟨_,w,U,.inl rfl,Mu.le_refl _,.inr ⟨rfl,A7,key _ hc⟩,A9E hi hsl,Keeps.refl _ _ _ _⟩
  ·exact ⟨_,w,U,.inl rfl,Mu.le_refl _,.inr ⟨rfl,A7,key _ hc⟩,A9E hi hsl,Keeps.refl _ _ _ _⟩
  ·cases hc
 case pick c x y =>
  simp only [E8i,E8n,E8v] at D7;obtain ⟨_,hp,rfl,rfl⟩:=D7;split at hc
  ·simp only [E8j] at hc;rename_i c' x' y';have h1:RV U _ _:=D4 hc.1.1 hs;have h2:=D4 hc.1.2 hs;have h3:=D4 hc.2 hs;unfold D0A at hp;split at hp
   ·rename_i b tH;cases hp;rw [tH] at h1;have h1:a.eval c'=.bool b:=h1;cases b
    ·exact ⟨_,w,U,.inl (by simp [execOp,h1,asBool]),Mu.le_refl _,h3,hi,Keeps.refl _ _ _ _⟩
    ·exact ⟨_,w,U,.inl (by simp [execOp,h1,asBool]),Mu.le_refl _,h2,hi,Keeps.refl _ _ _ _⟩
   ·cases hp
  ·cases hc
 case alloc z =>
  cases D7;split at hc
  ·split at hc
   ·exact pN rfl (D96 hi hsl ‹_› hc)
   ·cases hc
  ·cases hc
 case box y =>
  simp only [E8i,E8n,E8v] at D7;obtain ⟨cs,hp,rfl,rfl⟩:=D7;split at hc
  ·exact pN rfl (E4i hi hsl (D4 hc hs) hp)
  ·cases hc
 case build z ps =>
  simp only [E8i,E8n,E8v] at D7;obtain ⟨cs,hp,rfl,rfl⟩:=D7;split at hc
  ·rename_i t qs;simp only [E8j] at hc;obtain ⟨hz,hc⟩:=hc;split at hz
   ·rename_i zv hzv;have tH:∀ qs:Array (Nat × Operand),(qs.map λ(i,x)=>(i,a.eval x))=(qs.toList.map λ(i,x)=>(i,a.eval x)).toArray:=by intro qs;apply Array.ext';simp
    split at hc
    ·rename_i fs hfs;split at hc
     ·rename_i pl hpl;refine N0 hi rfl ?_;rw [tH];exact D7j hfs hzv hz (C6R hpl) (A62 hs hc) hp
     ·cases hc
    ·split at hc
     ·rename_i n e aZ;split at hc
      ·rename_i sz hsz;refine N0 hi rfl ?_;rw [tH];exact D7i aZ hsz hzv hz (A62 hs hc) hp
      ·cases hc
     ·cases hc
   ·cases hz
  ·cases hc
 case buildSl sz len z ps =>
  simp only [E8i,E8n,E8v] at D7;obtain ⟨cs,hp,rfl,rfl⟩:=D7;split at hc
  ·rename_i t len' qs;simp only [E8j,decide_eq_true_eq] at hc;obtain ⟨rfl,hc⟩:=hc;split at hc
   ·rename_i e he;simp only [E8j,decide_eq_true_eq] at hc;obtain ⟨⟨⟨h1,h2⟩,h3⟩,h4⟩:=hc;split at h3
    ·rename_i zv hzv;refine pN rfl ?_;have tH:(qs.map λ(i,x)=>(i,a.eval x))=(qs.toList.map λ(i,x)=>(i,a.eval x)).toArray:=by apply Array.ext';simp
     rw [tH];exact D5w hi hsl he h1 hzv h2 h3 (A62 hs h4) hp
    ·cases h3
   ·cases hc
  ·cases hc
 case load1 y =>
  simp only [E8i,E8n,E8v] at D7;obtain ⟨_,hp,rfl,rfl⟩:=D7;split at hc
  ·simp only [E8j,decide_eq_true_eq] at hc;exact N0 hi rfl (D1v hc.1 hrow (D4 hc.2 hs) hp)
  ·cases hc
 case loadN n y =>
  simp only [E8i,E8n,E8v] at D7;obtain ⟨_,hp,rfl,rfl⟩:=D7;split at hc
  ·simp only [E8j,decide_eq_true_eq] at hc;exact N0 hi rfl (D1w hc.1.1 hc.1.2 hrow (D4 hc.2 hs) hp)
  ·cases hc
 case store1 y z =>
  simp only [E8i,E8n,E8v] at D7;obtain ⟨_,hp,rfl,rfl⟩:=D7;split at hc
  ·simp only [E8j,decide_eq_true_eq] at hc;exact A97 rfl (D7m hc.1.1 hi (D4 hc.1.2 hs) (D4 hc.2 hs) hp)
  ·cases hc
 case storeN n y z =>
  simp only [E8i,E8n,E8v] at D7;obtain ⟨_,hp,rfl,rfl⟩:=D7;split at hc
  ·simp only [E8j,decide_eq_true_eq] at hc;exact A97 rfl (D7n hc.1.1 hi (D4 hc.1.2 hs) (D4 hc.2 hs) hp)
  ·cases hc
 case bin op' y z =>
  simp only [E8i,E8n,E8v] at D7;obtain ⟨_,hp,rfl,rfl⟩:=D7;split at hc
  ·rename_i op2 xt x y2 yt;simp only [E8j,decide_eq_true_eq] at hc;obtain ⟨⟨rfl,h1⟩,h2⟩:=hc;have hx:RV U _ _:=D4 h1 hs;have hy:RV U _ _:=D4 h2 hs;refine N0 (s:=do eqGuard op' xt x y2 (a.eval x) (a.eval y2);binOp op' xt (a.eval x) (a.eval y2)) hi rfl ?_;obtain ⟨V,h3,h4⟩:=E4h (P:=P) (w:=w) (xt:=xt) hx hy hp;have h5:=D53 hp hx;exact ⟨V,by rw [Sem.run_bind,C7P h5.1 h5.2];exact h3,h4⟩
  ·cases hc
 case eqA neg sh y z =>
  simp only [E8i,E8n,E8v] at D7;obtain ⟨_,hp,rfl,rfl⟩:=D7;split at hc
  ·rename_i op2 xt x y2 yt;simp only [E8j,decide_eq_true_eq,E9b] at hc;obtain ⟨⟨⟨⟨⟨rfl,h1⟩,h2⟩,h3⟩,h4⟩,h5⟩:=hc;have hx:RV U _ _:=D4 h4 hs;have hy:RV U _ _:=D4 h5 hs;refine N0 (s:=do eqGuard (bif neg then .neq else .eql) xt x y2 (a.eval x) (a.eval y2);binOp (bif neg then .neq else .eql) xt (a.eval x) (a.eval y2)) hi rfl ?_;obtain ⟨V,h6,h7⟩:=E4j (P:=P) (w:=w) h1 h2 hx hy hp;have hag:(eqGuard (bif neg then BinOp.neq else .eql) xt x y2 (a.eval x) (a.eval y2)).run P w=.ok () w:=by
    unfold aeq at hp;split at hp
    ·rename_i e1 e2;rw [e1] at hx;rw [e2] at hy;obtain ⟨xs,e3,_⟩:=hx;obtain ⟨ys,e4,_⟩:=hy;rw [e3,e4];exact run_eqGuard_agg w _ xt x y2 _ _ h3
    ·cases hp
   exact ⟨V,by rw [Sem.run_bind,hag];exact h6,h7⟩
  ·cases hc
 case eqB neg y z =>
  simp only [E8i,E8n,E8v] at D7;obtain ⟨_,hp,rfl,rfl⟩:=D7;split at hc
  ·rename_i op2 xt x y2 yt;simp only [E8j,decide_eq_true_eq] at hc;obtain ⟨⟨⟨rfl,h1⟩,h4⟩,h5⟩:=hc;split at h1
   ·rename_i hu;have hx:RV U _ _:=D4 h4 hs;have hy:RV U _ _:=D4 h5 hs;refine N0 (s:=do eqGuard (bif neg then .neq else .eql) xt x y2 (a.eval x) (a.eval y2);binOp (bif neg then .neq else .eql) xt (a.eval x) (a.eval y2)) hi rfl ?_;obtain ⟨V,h6,h7⟩:=E4k (P:=P) (w:=w) hu hx hy hp;have hag:(eqGuard (bif neg then BinOp.neq else .eql) xt x y2 (a.eval x) (a.eval y2)).run P w=.ok () w:=by
     unfold D54 at hp;split at hp
     ·rename_i e1 e2;rw [e1] at hx;have hx:a.eval x=.bool _:=hx;rw [hx];exact C7P (by simp) (by simp)
     ·cases hp
    exact ⟨V,by rw [Sem.run_bind,hag];exact h6,h7⟩
   ·cases h1
  ·cases hc
 case eqN fn neg y =>
  simp only [E8i,E8n,E8v] at D7;obtain ⟨_,hp,rfl,rfl⟩:=D7;split at hc
  ·rename_i op2 xt x c yt;simp only [E8j,decide_eq_true_eq] at hc;obtain ⟨⟨rfl,h1⟩,h4⟩:=hc;have hx:RV U _ _:=D4 h4 hs;refine N0 (s:=do eqGuard (bif neg then .neq else .eql) xt x (.const c) (a.eval x) (a.eval (.const c));binOp (bif neg then .neq else .eql) xt (a.eval x) (a.eval (.const c))) hi rfl ?_;obtain ⟨V,h6,h7⟩:=E4l (P:=P) (w:=w) h1 hx hp;have Y8:(∀ c,a.eval x≠.agg c)/\a.eval x≠.nilIface:=by
    unfold D16 at hp;split at hp
    ·rename_i e1;rw [e1] at hx;have hx:a.eval x=.nilFunc:=hx;rw [hx];simp
    ·rename_i e1;rw [e1] at hx;obtain ⟨cs,hx,_⟩:=hx;rw [hx];simp
    ·rename_i e1;rw [e1] at hx;have hx:a.eval x=.pointer A7:=hx;rw [hx];simp
    ·rename_i e1;rw [e1] at hx;obtain ⟨b,n,_,hx⟩:=hx;rw [hx];simp
    ·cases hp
   exact ⟨V,by rw [Sem.run_bind,C7P Y8.1 Y8.2];exact h6,h7⟩
  ·cases hc
 case nilc y =>
  simp only [E8i,E8n,E8v] at D7;obtain ⟨_,hp,rfl,rfl⟩:=D7;split at hc
  ·rename_i x;have hx:RV U _ _:=D4 hc hs;unfold A6V at hp;split at hp
   ·rename_i e1;cases hp;rw [e1] at hx;have hx':=hx;obtain ⟨b,n,_,hx⟩:=hx;exact ⟨_,w,U,.inl (by simp only [execOp,hx];rfl),Mu.le_refl _,hx ▸ hx',hi,Keeps.refl _ _ _ _⟩
   ·rename_i e1;cases hp;rw [e1] at hx;have hx':=hx;obtain ⟨cs,hx,_⟩:=hx;exact ⟨_,w,U,.inl (by simp only [execOp,hx];rfl),Mu.le_refl _,hx ▸ hx',hi,Keeps.refl _ _ _ _⟩
   ·cases hp
  ·cases hc
 case un op' y =>
  simp only [E8i,E8n,E8v] at D7;obtain ⟨_,hp,rfl,rfl⟩:=D7;split at hc
  ·simp only [E8j,decide_eq_true_eq] at hc;obtain ⟨rfl,h1⟩:=hc;exact N0 hi rfl (E57 (D4 h1 hs) hp)
  ·cases hc
 case conv k y =>
  simp only [E8i,E8n,E8v] at D7;obtain ⟨_,hp,rfl,rfl⟩:=D7;split at hc
  ·simp only [E8j,decide_eq_true_eq] at hc;obtain ⟨ks,hks⟩:=Option.isSome_iff_exists.1 hc.1.1;exact N0 hi rfl (E2E hks hc.1.2 (D4 hc.2 hs) hp)
  ·cases hc
 case convS y =>
  simp only [E8i,E8n,E8v] at D7;obtain ⟨_,hp,rfl,rfl⟩:=D7;split at hc
  ·simp only [E8j] at hc;exact N0 hi rfl (D98 hc.1.1 hc.1.2 (D4 hc.2 hs) hp)
  ·cases hc
 case s2b y =>
  simp only [E8i,E8n,E8v] at D7;obtain ⟨l,hp,rfl,rfl⟩:=D7;split at hc
  ·simp only [E8j] at hc;obtain ⟨⟨h1,h2⟩,h3⟩:=hc;split at h2
   ·rename_i e he;have hx:RV U _ _:=D4 h3 hs;unfold E5e at hp;split at hp
    ·rename_i tH;split at hp
     ·cases hp;rename_i hl;rw [tH] at hx;have hx:a.eval _=.string ⟨l.toArray⟩:=hx;refine pN rfl ?_;rw [hx];exact E4q hi hsl h1 he (by simpa using h2) hl
     ·cases hp
    ·cases hp
   ·cases h2
  ·cases hc
 case b2s y =>
  simp only [E8i,E8n,E8v] at D7;obtain ⟨_,hp,rfl,rfl⟩:=D7;split at hc
  ·simp only [E8j] at hc;obtain ⟨⟨h1,h2⟩,h3⟩:=hc;split at h2
   ·exact N0 hi rfl (D5v ‹_› (by simpa using h2) h1 hrow (D4 h3 hs) hp)
   ·cases h2
  ·cases hc
 case b2sN own y =>
  simp only [E8i,E8n,E8v] at D7;obtain ⟨_,hp,rfl,rfl⟩:=D7;have hp:=D52 hp;split at hc
  ·simp only [E8j] at hc;obtain ⟨⟨h1,h2⟩,h3⟩:=hc;split at h2
   ·exact N0 hi rfl (D5v ‹_› (by simpa using h2) h1 hi.rows (D4 h3 hs) hp)
   ·cases h2
  ·cases hc
 case mark y =>
  simp only [E8i,E8n,E8v] at D7;obtain ⟨_,hp,rfl,rfl⟩:=D7;split at hc
  ·simp only [E8j,decide_eq_true_eq] at hc;obtain ⟨⟨rfl,h2⟩,h3⟩:=hc;split at h2
   ·have hx:=D4 (U:=U) h3 hs;obtain ⟨w',h4,h5,h6⟩:=run_mark (P:=P) hi ‹_› (by simpa using h2) hx hp;exact pN rfl ⟨_,w',U,h4,Mu.le_refl _,h5 ▸ hx,h6,Keeps.refl _ _ _ _⟩
   ·cases h2
  ·cases hc
 case mkf f caps =>
  simp only [E8i,E8n,E8v] at D7;obtain ⟨_,hp,rfl,rfl⟩:=D7;split at hc
  ·rename_i g first cs
   simp only [E8j,decide_eq_true_eq] at hc;obtain ⟨⟨rfl,h1⟩,h2⟩:=hc;unfold A32 at hp;simp only [E8G] at hp;obtain ⟨l,hl,rfl⟩:=hp;have h3:=D0L hl (A5r hs h2);refine ⟨_,w,U,.inl rfl,Mu.le_refl _,⟨cs.toList.map a.eval,?_,h3⟩,hi,Keeps.refl _ _ _ _⟩;have:first = #[]:=by simpa using h1
   subst this;show Value.func _ _ _=Value.func _ _ _
   congr 1<;>(apply Array.ext';simp)
  ·cases hc
 case mkb f x =>
  simp only [E8i,E8n,E8v] at D7;obtain ⟨_,hp,rfl,rfl⟩:=D7;split at hc
  ·rename_i g first cs
   simp only [E8j,decide_eq_true_eq] at hc;obtain ⟨⟨rfl,h1⟩,h2⟩:=hc;split at h2
   ·rename_i y hy;have hx:=D4 (U:=U) h2 hs;unfold E3l at hp;split at hp
    ·rename_i id off tH;cases hp;rw [tH] at hx;refine ⟨_,w,U,.inl rfl,Mu.le_refl _,⟨a.eval y,hx,?_⟩,hi,Keeps.refl _ _ _ _⟩;have h3:first = #[y]:=by apply Array.ext';simpa using hy
     have h4:cs = #[]:=by simpa using h1
     subst h3;subst h4;show Value.func _ _ _=Value.func _ _ _
     congr 1<;>(apply Array.ext';simp)
    ·cases hp
   ·cases h2
  ·cases hc
 case mkSl sz z y y2 =>
  simp only [E8i,E8n,E8v] at D7;obtain ⟨n',hp,rfl,rfl⟩:=D7;unfold C5h at hp;simp only [E8i] at hp;obtain ⟨n,hn,c,hcc,hp⟩:=hp;split at hp
  ·cases hp;rename_i hnc;split at hc
   ·simp only [E8j] at hc;obtain ⟨⟨h1,h2⟩,h3⟩:=hc;split at h3
    ·rename_i e he;simp only [E8j,decide_eq_true_eq] at h3;obtain ⟨⟨⟨h4,h5⟩,h6⟩,h7⟩:=h3;split at h7
     ·rename_i zv hzv;obtain ⟨i,z',hi1,hi2,hi3,hi4,hi5,hi6⟩:=B4q h4;have hsz:i.size=sz:=by simpa [T0,hi1] using h5
      refine pN rfl (E2N hi hsl he h5 hzv h7 h6 (by omega) (show C6W P e=A4 i.bytes by simp [C6W,hi1]) hi2 (D4 h1 hs) (D4 h2 hs) hn hcc hnc)
     ·cases h7
    ·cases h3
   ·cases hc
  ·cases hp
 case slS y lo hi' =>
  simp only [E8i,E8n,E8v] at D7;obtain ⟨_,hp,rfl,rfl⟩:=D7;split at hc
  ·simp only [E8j] at hc;obtain ⟨⟨⟨h1,h2⟩,h3⟩,h4⟩:=hc;exact N0 hi rfl (E4t h1 (D4 h2 hs) (A4q h3 hs) (A4q h4 hs) hp)
  ·cases hc
 case slL sz y lo hi' =>
  simp only [E8i,E8n,E8v] at D7;obtain ⟨_,hp,rfl,rfl⟩:=D7;split at hc
  ·simp only [E8j] at hc;obtain ⟨⟨⟨h1,h2⟩,h3⟩,h4⟩:=hc;split at h1
   ·exact N0 hi rfl (E4s ‹_› (by simpa using h1) (D4 h2 hs) (A4q h3 hs) (A4q h4 hs) hp)
   ·cases h1
  ·cases hc
 case slA n sz y lo hi' =>
  simp only [E8i,E8n,E8v] at D7;obtain ⟨_,hp,rfl,rfl⟩:=D7;split at hc
  ·simp only [E8j] at hc;obtain ⟨⟨⟨h1,h2⟩,h3⟩,h4⟩:=hc;split at h1
   ·simp only [E8j,decide_eq_true_eq] at h1;obtain ⟨rfl,h1⟩:=h1;exact N0 hi rfl (E4r ‹_› h1 hrow (D4 h2 hs) (A4q h3 hs) (A4q h4 hs) hp)
   ·cases h1
  ·cases hc
 case fAddr y off =>
  simp only [E8i,E8n,E8v] at D7;obtain ⟨_,hp,rfl,rfl⟩:=D7;split at hc
  ·simp only [E8j] at hc;obtain ⟨h1,h2⟩:=hc;split at h1
   ·rename_i f hf;simp only [E8j,decide_eq_true_eq] at h1;obtain ⟨h3,h4⟩:=h1;split at h4
    ·simp only [A9r,E8i] at hf;obtain ⟨fs,hfs,hf⟩:=hf;exact N0 hi rfl (D99 hfs hf ‹_› (by simpa using h4) h3 (D4 h2 hs) hp)
    ·cases h4
   ·cases h1
  ·cases hc
 case iAddrA n sz y z =>
  simp only [E8i,E8n,E8v] at D7;obtain ⟨_,hp,rfl,rfl⟩:=D7;split at hc
  ·simp only [E8j] at hc;obtain ⟨⟨h1,h2⟩,h3⟩:=hc;split at h1
   ·simp only [E8j,decide_eq_true_eq] at h1;obtain ⟨rfl,h1⟩:=h1;exact N0 hi rfl (D7k ‹_› h1 (D4 h2 hs) (D4 h3 hs) hp)
   ·cases h1
  ·cases hc
 case iAddrL sz y z =>
  simp only [E8i,E8n,E8v] at D7;obtain ⟨_,hp,rfl,rfl⟩:=D7;split at hc
  ·simp only [E8j] at hc;obtain ⟨⟨h1,h2⟩,h3⟩:=hc;split at h1
   ·exact N0 hi rfl (D7l ‹_› (by simpa using h1) (D4 h2 hs) (D4 h3 hs) hp)
   ·cases h1
  ·cases hc
 case fld1 y off =>
  simp only [E8i,E8n,E8v] at D7;obtain ⟨_,hp,rfl,rfl⟩:=D7;split at hc
  ·simp only [E8j] at hc;obtain ⟨h1,h2⟩:=hc;split at h1
   ·rename_i f hf;simp only [E8j,decide_eq_true_eq] at h1;obtain ⟨rfl,h4⟩:=h1;simp only [A9r,E8i] at hf;obtain ⟨fs,hfs,hf⟩:=hf;exact N0 hi rfl (E2G hfs hf h4 (D4 h2 hs) hp)
   ·cases h1
  ·cases hc
 case fldN y off n =>
  simp only [E8i,E8n,E8v] at D7;obtain ⟨_,hp,rfl,rfl⟩:=D7;split at hc
  ·simp only [E8j] at hc;obtain ⟨h1,h2⟩:=hc;split at h1
   ·rename_i f hf;simp only [E8j,decide_eq_true_eq] at h1;obtain ⟨⟨rfl,h4⟩,h5⟩:=h1;simp only [A9r,E8i] at hf;obtain ⟨fs,hfs,hf⟩:=hf;exact N0 hi rfl (E2H hfs hf h4 h5 (D4 h2 hs) hp)
   ·cases h1
  ·cases hc
 case idxA1 n y z =>
  simp only [E8i,E8n,E8v] at D7;obtain ⟨_,hp,rfl,rfl⟩:=D7;split at hc
  ·simp only [E8j] at hc;obtain ⟨⟨h1,h2⟩,h3⟩:=hc;split at h1
   ·simp only [E8j,decide_eq_true_eq] at h1;obtain ⟨⟨rfl,h4⟩,h5⟩:=h1;exact N0 hi rfl (E0a ‹_› h4 h5 (D4 h2 hs) (D4 h3 hs) hp)
   ·cases h1
  ·cases hc
 case idxAN n sz y z =>
  simp only [E8i,E8n,E8v] at D7;obtain ⟨_,hp,rfl,rfl⟩:=D7;split at hc
  ·simp only [E8j] at hc;obtain ⟨⟨h1,h2⟩,h3⟩:=hc;split at h1
   ·simp only [E8j,decide_eq_true_eq] at h1;obtain ⟨⟨rfl,h4⟩,h5⟩:=h1;exact N0 hi rfl (E0b ‹_› h4 h5 (D4 h2 hs) (D4 h3 hs) hp)
   ·cases h1
  ·cases hc
 case idxS y z =>
  simp only [E8i,E8n,E8v] at D7;obtain ⟨_,hp,rfl,rfl⟩:=D7;split at hc
  ·simp only [E8j] at hc;obtain ⟨⟨h1,h2⟩,h3⟩:=hc;exact N0 hi rfl (E2I h1 (D4 h2 hs) (D4 h3 hs) hp)
  ·cases hc
 case ext y k =>
  simp only [E8i,E8n,E8v] at D7;obtain ⟨_,hp,rfl,rfl⟩:=D7;split at hc
  ·simp only [E8j,decide_eq_true_eq] at hc;obtain ⟨rfl,h1⟩:=hc;exact N0 hi rfl (E4m (D4 h1 hs) hp)
  ·cases hc
 case call=>cases hc
 case callV=>cases hc
 case len y =>
  simp only [E8i,E8n,E8v] at D7;obtain ⟨_,hp,rfl,rfl⟩:=D7;split at hc
  ·rename_i c;split at hc
   ·rename_i x t hca hargs hty;simp only [E8j] at hc;obtain ⟨e,he⟩:=Option.isSome_iff_exists.1 hc.1;have h1:c.args = #[x]:=by cases hcc:c.args;simp_all
    have h2:c.argTypes = #[t]:=by cases hcc:c.argTypes;simp_all
    refine N0 (s:=Builtin.len_ #[t] type #[a.eval x]) hi ?_ (E4n he (D4 hc.2 hs) hp);simp [execOp,resolve,hca,h1,h2,invoke,builtin]
   ·cases hc
  ·cases hc
 case lenS y =>
  simp only [E8i,E8n,E8v] at D7;obtain ⟨_,hp,rfl,rfl⟩:=D7;split at hc
  ·rename_i c;split at hc
   ·rename_i x t hca hargs hty;simp only [E8j] at hc;have h1:c.args = #[x]:=by cases hcc:c.args;simp_all
    have h2:c.argTypes = #[t]:=by cases hcc:c.argTypes;simp_all
    refine N0 (s:=Builtin.len_ #[t] type #[a.eval x]) hi ?_ (E2K hc.1 (D4 hc.2 hs) hp);simp [execOp,resolve,hca,h1,h2,invoke,builtin]
   ·cases hc
  ·cases hc
 case app sz y z =>
  simp only [E8i,E8n] at D7;obtain ⟨p,hp,hpe⟩:=D7;simp only [E8v] at hpe;obtain ⟨rfl,rfl⟩:=hpe;split at hc
  ·rename_i c;split at hc
   ·rename_i x x2 s yt hca hargs hty;simp only [E8j] at hc;obtain ⟨⟨⟨h1,h2⟩,h3⟩,h4⟩:=hc;split at h1
    ·rename_i e he;simp only [E8j,decide_eq_true_eq] at h1;obtain ⟨i,z',hi1,hi2,hi3,hi4,hi5,hi6⟩:=B4q h1.1;have hsz:i.size=sz:=by simpa [T0,hi1] using h1.2
     subst hsz;have e1:c.args = #[x,x2]:=by cases hcc:c.args;simp_all
     have e2:c.argTypes = #[s,yt]:=by cases hcc:c.argTypes;simp_all
     obtain ⟨V,w',U',g1,g2,g3,g4,g5⟩:=E4g (P:=P) (ty:=type) hi (Q7 he) hi1 hi2 hi3 hi5 hi6 hi4 (E3x h2) (D4 h3 hs) (D4 h4 hs) hp;refine pN (s:=Builtin.append_ #[s,yt] type #[a.eval x,a.eval x2]) ?_ ⟨V,w',U',g1,g2,g3,g4,λid hid _=>g5 id hid⟩;simp [execOp,resolve,hca,e1,e2,invoke,builtin]
    ·cases h1
   ·cases hc
  ·cases hc
 case appZ sz zero y z =>
  simp only [E8i,E8n] at D7;obtain ⟨p,hp,hpe⟩:=D7;simp only [E8v] at hpe;obtain ⟨rfl,rfl⟩:=hpe;split at hc
  ·rename_i c;split at hc
   ·rename_i x x2 s yt hca hargs hty;simp only [E8j] at hc;obtain ⟨⟨⟨h1,h2⟩,h3⟩,h4⟩:=hc;split at h1
    ·rename_i e he;simp only [E8j,decide_eq_true_eq] at h1;obtain ⟨⟨h1,h1s⟩,h1z⟩:=h1;obtain ⟨i,z',hi1,hi2,hi3,hi4,hi5,hi6⟩:=B4q h1;have hsz:i.size=sz:=by simpa [T0,hi1] using h1s
     subst hsz;have e1:c.args = #[x,x2]:=by cases hcc:c.args;simp_all
     have e2:c.argTypes = #[s,yt]:=by cases hcc:c.argTypes;simp_all
     split at h1z
     ·rename_i zv hzv;have hzz:zv=z':=by
       have:=hzv;simp [A2O,hi1,hi5] at this;exact this.symm
      subst hzz;obtain ⟨kk,hkk⟩:=Option.isSome_iff_exists.1 h2;obtain ⟨V,w',U',g1,g2,g3,g4,g5⟩:=E2D (P:=P) (ty:=type) hi (Q7 he) hi1 hi2 hi3 hi5 hi6 hi4 (A9U hkk) (jZ h1z) (D4 h3 hs) (D4 h4 hs) hp;refine pN (s:=Builtin.append_ #[s,yt] type #[a.eval x,a.eval x2]) ?_ ⟨V,w',U',g1,g2,g3,g4,λid hid _=>g5 id hid⟩;simp [execOp,resolve,hca,e1,e2,invoke,builtin]
     ·cases h1z
    ·cases h1
   ·cases hc
  ·cases hc
 case max y z =>
  simp only [E8i,E8n,E8v] at D7;obtain ⟨_,hp,rfl,rfl⟩:=D7;split at hc
  ·rename_i c;split at hc
   ·rename_i x x2 hca hargs;simp only [E8j] at hc;have e1:c.args = #[x,x2]:=by cases hcc:c.args;simp_all
    refine N0 (s:=Builtin.max_ c.argTypes type #[a.eval x,a.eval x2]) hi ?_ (E4o (D4 hc.1 hs) (D4 hc.2 hs) hp);simp [execOp,resolve,hca,e1,invoke,builtin]
   ·cases hc
  ·cases hc
 case min y z =>
  simp only [E8i,E8n,E8v] at D7;obtain ⟨_,hp,rfl,rfl⟩:=D7;split at hc
  ·rename_i c;split at hc
   ·rename_i x x2 hca hargs;simp only [E8j] at hc;have e1:c.args = #[x,x2]:=by cases hcc:c.args;simp_all
    refine N0 (s:=Builtin.min_ c.argTypes type #[a.eval x,a.eval x2]) hi ?_ (E4p (D4 hc.1 hs) (D4 hc.2 hs) hp);simp [execOp,resolve,hca,e1,invoke,builtin]
   ·cases hc
  ·cases hc
 case mkMap =>
  cases D7;split at hc
  ·exact pN rfl (E0c hi hsl)
  ·cases hc
 case look kk zero ok y z =>
  simp only [E8i,E8n,E8v] at D7;obtain ⟨_,hp,rfl,rfl⟩:=D7;split at hc
  ·simp only [E8j,decide_eq_true_eq] at hc;obtain ⟨⟨⟨h1,h2⟩,h3⟩,h4⟩:=hc;subst h2;split at h1
   ·simp only [E8j] at h1;obtain ⟨h1,h5⟩:=h1;split at h5
    ·exact N0 hi rfl (E2L ‹_› h1 ‹_› h5 hrow (D4 h3 hs) (D4 h4 hs) hp)
    ·cases h5
   ·cases h1
  ·cases hc
 case mput kk y z z2 =>
  simp only [E8i,E8n,E8v] at D7;obtain ⟨_,hp,rfl,rfl⟩:=D7;split at hc
  ·simp only [E8j] at hc;obtain ⟨⟨⟨h1,h2⟩,h3⟩,h4⟩:=hc;split at h1
   ·exact A97 rfl (D5x ‹_› h1 hi (D4 h2 hs) (D4 h3 hs) (D4 h4 hs) hp)
   ·cases h1
  ·simp only [E8j] at hc;obtain ⟨⟨⟨h1,h2⟩,h3⟩,h4⟩:=hc;split at h1
   ·exact A97 rfl (D5x ‹_› h1 hi (D4 h2 hs) (D4 h3 hs) (D4 h4 hs) hp)
   ·cases h1
  ·cases hc
 case ment kk zero y z =>
  simp only [E8i,E8n] at D7;obtain ⟨p,hp,hpe⟩:=D7;simp only [E8v] at hpe;obtain ⟨rfl,rfl⟩:=hpe;split at hc
  ·simp only [E8j] at hc;obtain ⟨⟨h1,h3⟩,h4⟩:=hc;split at h1
   ·simp only [E8j] at h1;obtain ⟨h1,h5⟩:=h1;split at h5
    ·obtain ⟨V,w',h6,h7,h8⟩:=E2M ‹_› h1 ‹_› h5 hi (D4 h3 hs) (D4 h4 hs) hp;exact pN rfl ⟨V,w',U,h6,Mu.le_refl _,h7,h8,Keeps.refl _ _ _ _⟩
    ·cases h5
   ·cases h1
  ·cases hc
 case mset y z z2 =>
  simp only [E8i,E8n,E8v] at D7;obtain ⟨_,hp,rfl,rfl⟩:=D7;split at hc
  ·simp only [E8j] at hc;obtain ⟨⟨h2,h3⟩,h4⟩:=hc;exact A97 rfl (E2O hi (D4 h2 hs) (D4 h3 hs) (D4 h4 hs) hp)
  ·cases hc
 case copy sz y z =>
  simp only [E8i,E8n] at D7;obtain ⟨p,hp,hpe⟩:=D7;simp only [E8v] at hpe;obtain ⟨rfl,rfl⟩:=hpe;split at hc
  ·rename_i c;split at hc
   ·rename_i x x2 s yt hca hargs hty;simp only [E8j] at hc;obtain ⟨⟨h1,h3⟩,h4⟩:=hc;split at h1
    ·rename_i e he;simp only [E8j,decide_eq_true_eq] at h1;have e1:c.args = #[x,x2]:=by cases hcc:c.args;simp_all
     have e2:c.argTypes = #[s,yt]:=by cases hcc:c.argTypes;simp_all
     obtain ⟨V,w',h5,h6,h7⟩:=E2F (P:=P) (yt:=yt) (ty:=type) hi he h1.1 h1.2 (D4 h3 hs) (D4 h4 hs) hp;refine pN (s:=Builtin.copy_ #[s,yt] type #[a.eval x,a.eval x2]) ?_ ⟨V,w',U,h5,Mu.le_refl _,h6,h7,Keeps.refl _ _ _ _⟩;simp [execOp,resolve,hca,e1,e2,invoke,builtin]
    ·cases h1
   ·cases hc
  ·cases hc
end
def nO(P : Program)(f : FuncId) : Prop := ∃ fn : Func, P.funcs[f]? = some fn ∧ (fn.name == "runtime.NumGoroutine") = false ∧ fn.body.isNone = false
def CallOk(P:Program)(f:FuncId)(args:List Val)(h:A9)(v:Val)(h':A9):Prop :=
 ∀ (J:Ctx) (U:Mu) (w:World) (V:List Value),Inv J U h w->All2 (RV U) args V ->
  Calls P f V.toArray w λe w'=>∃ V' U',e=.returned V' /\ U.le U'/\RV U' v V'/\Inv J U' h' w'/\∀ id,id<h.length -> U' id = U id
def jK(P:Program)(E:K7):Prop:=∀ f args h v h',E f args h=A4 (v,h')->nO P f/\CallOk P f args h v h'/\h.length<=h'.length
def D2f(o:Op):AOp->Bool
 | .call f args=>(match o with
   | .call c=>(match c.callee with | .value (.func g)=>decide (f=g)&&A61 c.args.toList args | _=>A6)
   | _=>A6)
 | .callV x args=>(match o with
   | .call c=>(match c.callee with | .value y=>E9 y x&&A61 c.args.toList args | _=>A6)
   | _=>A6)
 | _=>A6
def D3W(ops:Array Oper):Option (Nat × Bool)->Option (Nat × Bool)->Bool
 | none,none=>A5
 | some q,A4 p=>decide (q.2=p.2)&&decide ((ops[q.1]?).bind (·.dst)=A4 p.1)
 | _,_=>A6
def A2X(N:Nat)(d:Option Nat):Bool:=match d with | some d=>decide (d<N) | none=>A5
def cA(P:Program)(N:Nat)(ops:Array Oper)(o:Oper)(ao:AOper):Bool :=
 decide (o.dst=ao.dst)&&A2X N o.dst&&D3W ops o.guard ao.guard&&(E3w P o.op ao.op||D2f o.op ao.op)
section
variable {P:Program} {R:Type}
def D3D(E:K7)(q:Bool)(hr:A9)(n0:Nat)(slot:Option Nat)(o:AOp)(e:Env)(h:A9)(k:Val->A9->Option R) :
  aop E q hr n0 slot o e h k=(aop E q hr n0 slot o e h λv h=>A4 (v,h)).bind λp=>k p.1 p.2:=by
 cases o<;>simp only [aop,E8z,Option.bind_assoc]
def C0c{f:FuncId}(hf:nO P f)(args:Array Value)(w:World):(callFunc f args).run P w=.ok (.enter f args) w:=by
 obtain ⟨fn,h1,h2,h3⟩:=hf;unfold callFunc;simp only [Sem.run_bind,run_program,Result.andThen_ok,h1,h2,h3,Bool.false_eq_true,if_false];rfl
def B8v{U:Mu}:∀ {l:List (Nat × Nat)} {cs:List Value},All2 (RPtr U) l cs->All2 (RV U) (C5G l) cs
 | [],[],_=>trivial
 | q::l,c::cs,⟨h1,h2⟩=>⟨h1,B8v h2⟩
 | [],_::_,h=>h.elim
 | _::_,[],h=>h.elim
def D2d{J:Ctx}{U:Mu}{o:Oper}{a:Act}{w:World}{g:FuncId}{args:List Val}{h h':A9}{v:Val}{c:Call}{y:Operand}{fs cs:List Value}
  (ho:o.op=.call c) (D2q:c.callee=.value y) (hy:a.eval y=.func (.func g) fs.toArray cs.toArray) (hg:nO P g) (hk:CallOk P g args h v h')
  (hargs:All2 (RV U) args (fs++c.args.toList.map a.eval++cs)) (hi:Inv J U h w) {next:Act->World->Prop} {Q:Exit->Act->World->Prop}
  {n0:Nat} {slot:Option Nat} (hn:∀ V w' U',U.le U'->RV U' v V->Inv J U' h' w'->Keeps U U' h n0 slot->next (a.put o.dst V) w'):o.wp P a w next Q:=by
 have B1z:(execOp a.eval o).run P w=.ok (.enter g (fs++c.args.toList.map a.eval++cs).toArray) w:=by
  have e:(fs.toArray++c.args.map a.eval++cs.toArray:Array Value)=(fs++c.args.toList.map a.eval++cs).toArray:=by apply Array.ext';simp
  simp only [execOp,ho,resolve,D2q,hy,Deferred.ofValue,pure_bind,invoke];rw [e];exact C0c hg _ _
 unfold Oper.wp;rw [B1z,Oper.upon_enter];refine (hk J U w _ hi hargs).mono ?_;rintro e w' ⟨V,U',rfl,h1,h2,h3,h4⟩;exact hn V w' U' h1 h2 h3 λid hid _=>h4 id hid
def E0Q{N:Nat}{ops:Array Oper}{E:K7}(hE:jK P E){q:Bool}{o:Oper}{ao:AOp}{e:Env}{h hr:A9}{v:Val}{h':A9}{n0:Nat}{slot:Option Nat}{J:Ctx}{U:Mu}{a:Act}{w:World}
  (hc:(E3w P o.op ao||D2f o.op ao)=A5) (hs:SEnv U e a) (hi:Inv J U h w) (hrd:∀ id r,rd hr id=A4 r->rd h id=A4 r) (hsl:A00 U h n0 slot)
  (D7:aop E q hr n0 slot ao e h (λv h=>A4 (v,h))=A4 (v,h')) {next:Act->World->Prop} {Q:Exit->Act->World->Prop}
  (hn:∀ V w' U',U.le U'->RV U' v V->Inv J U' h' w'->Keeps U U' h n0 slot->next (a.put o.dst V) w'):o.wp P a w next Q:=by
 rw [Bool.or_eq_true] at hc;rcases hc with hc | hc
 ·obtain ⟨V,w',U',h1,h2,h3,h4,h5⟩:=E56 hc hs hi hrd hsl D7;unfold Oper.wp;rcases h1 with h1 | ⟨h1,rfl⟩
  ·rw [h1];exact hn V w' U' h2 h3 h4 h5
  ·rw [h1];exact hn undef w' U' h2 h3 h4 h5
 ·cases ao<;>simp only [D2f] at hc
  case call f args =>
   simp only [aop,E8i,E8n] at D7;obtain ⟨p,hp,hpe⟩:=D7;simp only [E8v] at hpe;obtain ⟨rfl,rfl⟩:=hpe;have hE1:E f (args.map e.ev) h=A4 (p.1,p.2):=by
    cases q with
    | false=>simpa using hp
    | true =>
     simp only [cond_true,quiet,E8i] at hp;obtain ⟨p',h1,h2⟩:=hp;split at h2
     ·cases h2;exact h1
     ·cases h2
   obtain ⟨hg,hk,_⟩:=hE _ _ _ _ _ hE1;split at hc
   ·rename_i c ho;split at hc
    ·rename_i g D2q;simp only [E8j,decide_eq_true_eq] at hc;obtain ⟨rfl,hargs⟩:=hc;exact D2d ho D2q (fs:=[]) (cs:=[]) rfl hg hk (by rw [E8C,List.nil_append];exact A5r hs hargs) hi hn
    ·cases hc
   ·cases hc
  case callV x args =>
   simp only [aop,E8i,E8n] at D7;obtain ⟨p,hp,hpe⟩:=D7;simp only [E8v] at hpe;obtain ⟨rfl,rfl⟩:=hpe;have hE0:aQ E (e.ev x) (args.map e.ev) h=A4 (p.1,p.2):=by
    cases q with
    | false=>simpa using hp
    | true =>
     simp only [cond_true,quiet,E8i] at hp;obtain ⟨p',h1,h2⟩:=hp;split at h2
     ·cases h2;exact h1
     ·cases h2
   unfold aQ at hE0;split at hE0
   ·rename_i g caps tH;obtain ⟨hg,hk,_⟩:=hE _ _ _ _ _ hE0;split at hc
    ·rename_i c ho;split at hc
     ·rename_i y D2q;simp only [E8j] at hc;have hy:RV U _ _:=D4 hc.1 hs;rw [tH] at hy;obtain ⟨cs,h1,h2⟩:=hy;exact D2d ho D2q (fs:=[]) h1 hg hk ((A5r hs hc.2).append (B8v h2)) hi hn
     ·cases hc
    ·cases hc
   ·rename_i g id off tH;obtain ⟨hg,hk,_⟩:=hE _ _ _ _ _ hE0;split at hc
    ·rename_i c ho;split at hc
     ·rename_i y D2q;simp only [E8j] at hc;have hy:RV U _ _:=D4 hc.1 hs;rw [tH] at hy;obtain ⟨V,h1,h2⟩:=hy;exact D2d ho D2q (fs:=[V]) (cs:=[]) h2 hg hk (by rw [E8C];exact ⟨h1,A5r hs hc.2⟩) hi hn
     ·cases hc
    ·cases hc
   ·cases hE0
  all_goals cases hc
def D7I{ops:Array Oper}{j g:Nat}{a:Act}{e:Env}{U:Mu}{x:Bool}(hj:(ops[j]?).bind (·.dst)=A4 g)(hs:SEnv U e a)(he:e.get g=.c (.b x)):yielded ops a.tmps j=A4 x:=by
 have h1:a.tmps.getD g undef=.bool x:=by have:=hs g;rw [he] at this;exact this
 unfold yielded;rw [hj];simp only [E8z];have:a.tmps[g]?=A4 (.bool x):=by
  simp only [Array.getD_eq_getD_getElem?] at h1;cases hh:a.tmps[g]? with
  | none=>rw [hh] at h1;simp [undef] at h1
  | some y=>rw [hh] at h1;simpa using h1
 rw [this]
def D7H{ops:Array Oper}{j g:Nat}{a:Act}{e:Env}{U:Mu}(hj:(ops[j]?).bind (·.dst)=A4 g)(hs:SEnv U e a)(he:e.get g=.no):yielded ops a.tmps j=A7:=by
 have h1:a.tmps.getD g undef=undef:=by have:=hs g;rw [he] at this;exact this
 unfold yielded;rw [hj];simp only [E8z];simp only [Array.getD_eq_getD_getElem?] at h1;cases hh:a.tmps[g]? with
 | none=>rfl
 | some y=>rw [hh] at h1;simp [undef] at h1;subst h1;rfl
def E0R{N:Nat}{ops:Array Oper}{E:K7}(hE:jK P E){q:Bool}{o:Oper}{ao:AOper}{e:Env}{h hr:A9}{n0:Nat}{k:Val->A9->Option R}{r:R}
  (hc:cA P N ops o ao=A5) (D7:aK E q hr n0 ao e h k=A4 r) :
  ∃ v h',k v h'=A4 r/\aK E q hr n0 ao e h (λv h=>A4 (v,h))=A4 (v,h'):=by
 unfold aK at D7 ⊢;cases hg:ao.guard with
 | none =>
  simp only [hg] at D7 ⊢;rw [D3D] at D7;simp only [E8i] at D7;obtain ⟨p,hp,hk⟩:=D7;exact ⟨p.1,p.2,hk,hp⟩
 | some g =>
  simp only [hg] at D7 ⊢;simp only [E8i] at D7;obtain ⟨p,hp,hk⟩:=D7;exact ⟨p.1,p.2,hk,by rw [hp];rfl⟩
def A9i{N:Nat}{ops:Array Oper}{E:K7}(hE:jK P E){q:Bool}{o:Oper}{ao:AOper}{e:Env}{h hr:A9}{n0:Nat}{v:Val}{h':A9}{J:Ctx}{U:Mu}{a:Act}{w:World}
  (hc:cA P N ops o ao=A5) (D7:aK E q hr n0 ao e h (λv h=>A4 (v,h))=A4 (v,h')) (hs:SEnv U e a) (hi:Inv J U h w) (hrd:∀ id r,rd hr id=A4 r->rd h id=A4 r) (hsl:A00 U h n0 ao.slot)
  {next:Act->World->Prop} {Q:Exit->Act->World->Prop} (hn:∀ V w' U',U.le U'->RV U' v V->Inv J U' h' w'->Keeps U U' h n0 ao.slot->next (a.put o.dst V) w') :
  if Region.wanted o (yielded ops a.tmps) then o.wp P a w next Q\/(o.asks P a w/\LetsOut Q) else next (a.put o.dst undef) w:=by
 simp only [cA,E8j] at hc;obtain ⟨⟨⟨_,_⟩,hg⟩,hop⟩:=hc;unfold aK at D7;unfold D3W at hg;cases hag:ao.guard with
 | none =>
  simp only [hag] at D7 hg;cases hog:o.guard with
  | some _=>simp [hog] at hg
  | none =>
   have hw:Region.wanted o (yielded ops a.tmps)=A5:=by simp [Region.wanted,hog]
   rw [if_pos hw];exact .inl (E0Q (N:=N) (ops:=ops) hE hop hs hi hrd hsl D7 hn)
 | some g =>
  simp only [hag] at D7 hg;cases hog:o.guard with
  | none=>simp [hog] at hg
  | some q2 =>
   simp only [hog,E8j,decide_eq_true_eq] at hg;simp only [E8i] at D7;obtain ⟨p,hp,hpe⟩:=D7;simp only [E8n,E8v] at hpe;obtain ⟨rfl,rfl⟩:=hpe;unfold gd at hp;split at hp
   ·rename_i x tH;have hy:=D7I hg.2 hs tH;have hw:Region.wanted o (yielded ops a.tmps)=(x==g.2):=by
     simp [Region.wanted,hog,hy,hg.1]
    rw [hw];cases hx:(x==g.2) with
    | true =>
     rw [hx] at hp;rw [if_pos rfl];exact .inl (E0Q (N:=N) (ops:=ops) hE hop hs hi hrd hsl hp hn)
    | false =>
     rw [hx] at hp;simp only [cond_false,E8n] at hp;rw [if_neg (by simp)];cases hp;exact hn undef w U (Mu.le_refl _) rfl hi (Keeps.refl _ _ _ _)
   ·rename_i tH;have hy:=D7H hg.2 hs tH;have hw:Region.wanted o (yielded ops a.tmps)=A6:=by
     simp [Region.wanted,hog,hy,hg.1]
    rw [hw,if_neg (by simp)];cases hp;exact hn undef w U (Mu.le_refl _) rfl hi (Keeps.refl _ _ _ _)
   ·cases hp
end
def AExit.conv:AExit->Exit
 | .normal=>.normal
 | .exit id=>.exit id
 | .ret=>.ret
def B5K(P:Program)(N L:Nat)(W:(Exit->Act->World->Prop)->Act->World->Prop)(e:Env)(h:A9)(x:AExit)(e':Env)(h':A9):Prop :=
 ∀ (J:Ctx) (U:Mu) (a:Act) (w:World),SEnv U e a->Inv J U h w->N<=a.tmps.size->a.defers = J.ds->∀ Q:Exit->Act->World->Prop,
  (∀ U' a' w',U.le U'->(∀ id,id<L -> U' id = U id)->SEnv U' e' a'->Inv J U' h' w'->N<=a'.tmps.size->a'.defers = J.ds->Q x.conv a' w')->W Q a w
def aC:AOp->Bool
 | .alloc _ | .box _ | .nilrow _ | .buildSl .. | .s2b _ | .mkSl .. | .mkMap=>A5
 | _=>A6
def aU:AOp->Bool
 | .call .. | .callV ..=>A5
 | _=>A6
def B1L:AOp->Bool
 | .store1 .. | .storeN .. | .app .. | .appZ .. | .copy .. | .mput .. | .ment .. | .mset ..=>A6
 | _=>A5
def A5G:AOp->Bool
 | .mark _=>A5
 | .b2sN A7 _=>A5
 | _=>A6
def C08:AOp->Option Nat
 | .b2sN own _=>own
 | _=>A7
def AOp.opds:AOp->List Opd
 | .mv x | .box x | .load1 x | .loadN _ x | .eqN _ _ x | .nilc x | .un _ x | .conv _ x | .convS x | .s2b x | .b2s x | .b2sN _ x | .mark x | .fAddr x _ | .fld1 x _ | .fldN x _ _ | .ext x _ | .len x | .lenS x | .mkb _ x=>[x]
 | .nilrow _ | .alloc _ | .mkMap=>[]
 | .pick c a b=>[c,a,b]
 | .look _ _ _ a x | .ment _ _ a x=>[a,x]
 | .mput _ a x y | .mset a x y=>[a,x,y]
 | .build _ ps | .buildSl _ _ _ ps=>ps.map (·.2.2)
 | .store1 a x | .storeN _ a x | .bin _ a x | .eqA _ _ a x | .eqB _ a x | .mkSl _ _ a x | .iAddrA _ _ a x | .iAddrL _ a x | .idxA1 _ a x | .idxAN _ _ a x | .idxS a x | .app _ a x | .appZ _ _ a x | .max a x | .min a x | .copy _ a x=>[a,x]
 | .mkf _ cs=>cs
 | .slS x lo hi | .slL _ x lo hi | .slA _ _ x lo hi=>x::(lo.toList++hi.toList)
 | .call _ args=>args
 | .callV f args=>f::args
def E7R:Opd->Option Nat
 | .t n=>A4 n
 | _=>A7
def AOper.reads(o:AOper):List Nat:=o.op.opds.filterMap E7R++(o.guard.toList.map (·.1))
def bG(o:Oper):List Nat:=(o.after.toList.filter (Region.binds .any)).map (·.on)
def D2I(acc:List Nat)(o:Oper):Nat:=(bG o).foldl (λs p=>s ||| (2 ^ p) ||| acc.getD p 0) 0
def closure:List Oper->List Nat->List Nat
 | [],acc=>acc
 | o::r,acc=>closure r (acc++[D2I acc o])
def S6(ops:Array Oper):List Nat:=closure ops.toList []
def D01(g:Nat->Nat)(b:Nat):∀ (ds:List Nat) (s:Nat),(ds.foldl (λs p=>s ||| (2 ^ p) ||| g p) s).testBit b=A5->s.testBit b=A5\/∃ p∈ds,b=p\/(g p).testBit b=A5
 | [],s,h=>.inl h
 | d::ds,s,h=>by
  rcases D01 g b ds _ h with h | ⟨p,hp,h⟩
  ·rw [Nat.testBit_or,Nat.testBit_or,Nat.testBit_two_pow] at h;simp only [Bool.or_eq_true,decide_eq_true_eq] at h;rcases h with (h | h) | h
   ·exact .inl h
   ·exact .inr ⟨d,by simp,.inl h.symm⟩
   ·exact .inr ⟨d,by simp,.inr h⟩
  ·exact .inr ⟨p,by simp [hp],h⟩
def B1p:∀ (os:List Oper) (acc:List Nat) (i:Nat),i<acc.length->(closure os acc).getD i 0=acc.getD i 0
 | [],acc,i,h=>rfl
 | o::r,acc,i,h=>by
  rw [closure,B1p r _ i (by simp;omega)];simp [List.getD,E88 h]
def C7c:∀ (os:List Oper) (acc:List Nat) (k:Nat) (o:Oper),os[k]?=A4 o->∃ acc',acc'.length=acc.length+k/\(closure os acc).getD (acc.length+k) 0=D2I acc' o/\∀ i,i<acc'.length->(closure os acc).getD i 0=acc'.getD i 0
 | [],acc,k,o,h=>by simp at h
 | x::r,acc,0,o,h=>by
  simp at h;subst h;refine ⟨acc,rfl,?_,λi hi=>?_⟩
  ·rw [closure,B1p r _ _ (by simp)];simp [List.getD]
  ·rw [closure,B1p r _ i (by simp;omega)];simp [List.getD,E88 hi]
 | x::r,acc,k+1,o,h=>by
  simp at h;obtain ⟨acc',h1,h2,h3⟩:=C7c r (acc++[D2I acc x]) k o h;refine ⟨acc',by simp at h1;omega,?_,λi hi=>by rw [closure];exact h3 i hi⟩;rw [closure,<-h2]
  congr 1;simp;omega
def A02{ops:Array Oper}{done:Nat->Bool}(W4:∀ i o,ops[i]?=A4 o->∀ p∈bG o,p<i)
  (fW:∀ i o,ops[i]?=A4 o->done i=A5->∀ p∈bG o,done p=A5):∀ (i:Nat) (o:Oper),ops[i]?=A4 o->(∀ p∈bG o,done p=A5)->∀ b,((S6 ops).getD i 0).testBit b=A5->done b=A5:=by
 intro i
 induction i using Nat.strongRecOn with
 | _ i ih =>
  intro o ho hd b hb;obtain ⟨acc,h1,h2,h3⟩:=C7c ops.toList [] i o (by simpa using ho);simp only [List.length_nil,E8A] at h1 h2;rw [S6,h2] at hb;unfold D2I at hb;rcases D01 _ b _ _ hb with hb | ⟨p,hp,rfl | hb⟩
  ·simp at hb
  ·exact hd _ hp
  ·have hpi:=W4 i o ho p hp;have hps:p<ops.size:=by have:=(Array.getElem?_eq_some_iff.1 ho).1;omega
   have hop:ops[p]?=A4 ops[p]:=by simp [hps]
   refine ih p hpi ops[p] hop (fW p _ hop (hd p hp)) b ?_;rw [S6,h3 p (by omega)];exact hb
section
variable {R:Type}
def D7M{E:K7}{q:Bool}{hr:A9}{n0:Nat}{slot:Option Nat}{o:AOp}{e e':Env}{h:A9}{k:Val->A9->Option R}(he:∀ x∈o.opds,e.ev x=e'.ev x):aop E q hr n0 slot o e h k=aop E q hr n0 slot o e' h k:=by
 have parts:∀ ps:List (Nat × Nat × Opd),(∀ x∈ps.map (·.2.2),e.ev x=e'.ev x)->(ps.map λp=>(p.1,p.2.1,e.ev p.2.2))=ps.map λp=>(p.1,p.2.1,e'.ev p.2.2):=λps hp =>
  List.map_congr_left λp hm=>by rw [hp p.2.2 (List.mem_map.2 ⟨p,hm,rfl⟩)]
 have all:∀ l:List Opd,(∀ x∈l,e.ev x=e'.ev x)->l.map e.ev=l.map e'.ev:=λl hl=>List.map_congr_left hl
 have opt:∀ l:Option Opd,(∀ x∈l.toList,e.ev x=e'.ev x)->l.map e.ev=l.map e'.ev:=λl hl=>by cases l with
  | none=>rfl
  | some x=>simp [hl x (by simp)]
 cases o<;>simp only [AOp.opds] at he<;>simp only [aop]
 case build z ps=>rw [parts ps he]
 case buildSl a b z ps=>rw [parts ps he]
 case mkf f cs=>rw [all cs he]
 case call f args=>rw [all args he]
 case callV f args=>rw [he f (by simp),all args λx hx=>he x (by simp [hx])]
 case slS x lo hi=>rw [he x (by simp),opt lo λy hy=>he y (by simp [hy]),opt hi λy hy=>he y (by simp [hy])]
 case slL sz x lo hi=>rw [he x (by simp),opt lo λy hy=>he y (by simp [hy]),opt hi λy hy=>he y (by simp [hy])]
 case slA n sz x lo hi=>rw [he x (by simp),opt lo λy hy=>he y (by simp [hy]),opt hi λy hy=>he y (by simp [hy])]
 all_goals (repeat (rw [he _ (by simp)]))
def C2B{E:K7}{q:Bool}{hr:A9}{n0:Nat}{o:AOper}{e e':Env}{h:A9}{k:Val->A9->Option R}(he:∀ t∈o.reads,e.get t=e'.get t):aK E q hr n0 o e h k=aK E q hr n0 o e' h k:=by
 have h1:∀ x∈o.op.opds,e.ev x=e'.ev x:=by
  intro x hx;cases x with
  | v x=>rfl
  | t n=>exact he n (List.mem_append_left _ (List.mem_filterMap.2 ⟨.t n,hx,rfl⟩))
 unfold aK;cases hg:o.guard with
 | none=>exact D7M h1
 | some g =>
  have h2:e.get g.1=e'.get g.1:=he g.1 (List.mem_append_right _ (by simp [hg]));simp only;rw [h2,D7M h1]
def C6S(E:K7)(q:Bool)(hr:A9)(n0:Nat)(o:AOper)(e:Env)(h:A9)(k:Val->A9->Option R):aK E q hr n0 o e h k=(aK E q hr n0 o e h λv h=>A4 (v,h)).bind λp=>k p.1 p.2:=by
 unfold aK;cases o.guard with
 | none=>exact D3D ..
 | some g=>simp only [Option.bind_assoc,E8z]
def D0x{E:K7}{q:Bool}{hr:A9}{n0:Nat}{slot:Option Nat}{o:AOp}{e:Env}{h h':A9}{v:Val}(hq:B1L o=A5)(hm:A5G o=A6)(how:C08 o=A7)(hc:aU o=A6)(hs:aC o=A6)
  (D7:aop E q hr n0 slot o e h (λv h=>A4 (v,h))=A4 (v,h')):h'=h/\∀ h2,aop E q hr n0 slot o e h2 (λv h=>A4 (v,h))=A4 (v,h2):=by
 have hnb:∀ own x,o≠.b2sN own x:=by
  intro own x he;subst he;simp only [C08] at how;subst how;simp [A5G] at hm
 cases o<;>simp [B1L,A5G,aU,aC] at hq hm hc hs<;>simp only [aop] at D7 ⊢
 case b2sN own x=>exact absurd rfl (hnb own x)
 case mv=>cases D7;exact ⟨rfl,λ_=>rfl⟩
 all_goals
  simp only [E8i,E8n,E8v] at D7;obtain ⟨_,h1,rfl,rfl⟩:=D7;exact ⟨rfl,λh2=>by rw [h1];rfl⟩
def D3u{h h2:A9}{x v:Val}(h1:B8l h x=A4 v)(A58:∀ id off len sz r,x=.c (.sl id off len sz)->rd h id=A4 r->rd h2 id=A4 r):B8l h2 x=A4 v:=by
 unfold B8l at h1 ⊢;split at h1
 ·rename_i id off len sz;split at h1
  ·rename_i hsz;rw [if_pos hsz];rw [E8G] at h1 ⊢;obtain ⟨s,h3,h4⟩:=h1;rw [E8i] at h3;obtain ⟨cs,h5,h6⟩:=h3;refine ⟨s,?_,h4⟩;rw [E8i];refine ⟨cs,?_,h6⟩;unfold rJ at h5 ⊢;simp only [E8i] at h5 ⊢;obtain ⟨r,h7,h8⟩:=h5;exact ⟨r,A58 _ _ _ _ r rfl h7,h8⟩
  ·cases h1
 ·exact h1
 ·cases h1
def D7O{E:K7}{q:Bool}{hr:A9}{n0 j:Nat}{slot:Option Nat}{o:AOp}{e:Env}{h h':A9}{v:Val}(ho:C08 o=A4 j)
  (D7:aop E q hr n0 slot o e h (λv h=>A4 (v,h))=A4 (v,h')):h'=h/\∀ h2:A9,(∀ x,rd h (n0+j)=A4 x->rd h2 (n0+j)=A4 x)->aop E q hr n0 slot o e h2 (λv h=>A4 (v,h))=A4 (v,h2):=by
 obtain ⟨x,rfl⟩:∃ x,o=.b2sN (A4 j) x:=by
  unfold C08 at ho;split at ho
  ·subst ho;exact ⟨_,rfl⟩
  ·cases ho
 simp only [aop,E8i,E8n,E8v] at D7;obtain ⟨v',h1,rfl,rfl⟩:=D7;refine ⟨rfl,λh2 A58=>?_⟩;have:C3Q h2 n0 (A4 j) (e.ev x)=A4 v':=by
  unfold C3Q at h1 ⊢;simp only at h1 ⊢;split at h1
  ·rename_i id off len sz tH;split at h1
   ·rename_i hid;rw [if_pos hid];refine D3u h1 λcP _ _ _ r hx hr=>?_
    cases hx;rw [hid] at hr ⊢;exact A58 r hr
   ·cases h1
  ·cases h1
 simp only [aop,this];rfl
def D3E{E:K7}{q:Bool}{hr:A9}{n0:Nat}{slot:Option Nat}{o:AOp}{e:Env}{h h':A9}{v:Val}(hm:A5G o=A5)
  (D7:aop E q hr n0 slot o e h (λv h=>A4 (v,h))=A4 (v,h')):h'=h/\∀ h2:A9,(∀ id x,rd h id=A4 x->rd h2 id=A4 x)->aop E q hr n0 slot o e h2 (λv h=>A4 (v,h))=A4 (v,h2):=by
 have hsl:∀ (h2:A9) (x:Val) (v:Val),(∀ id x,rd h id=A4 x->rd h2 id=A4 x)->B8l h x=A4 v->B8l h2 x=A4 v:=λh2 x v A58 h1=>D3u h1 λid _ _ _ r _ hr=>A58 id r hr
 by_cases hb:∃ x,o=.b2sN A7 x
 ·obtain ⟨x,rfl⟩:=hb;simp only [aop,C3Q,E8i,E8n,E8v] at D7;obtain ⟨v',h1,rfl,rfl⟩:=D7;exact ⟨rfl,λh2 A58=>by simp only [aop,C3Q,hsl h2 _ _ A58 h1];rfl⟩
 obtain ⟨x,rfl⟩:∃ x,o=.mark x:=by
  unfold A5G at hm;split at hm
  ·exact ⟨_,rfl⟩
  ·exact absurd ⟨_,rfl⟩ hb
  ·cases hm
 simp only [aop,E8i,E8n,E8v] at D7;obtain ⟨v',h1,rfl,rfl⟩:=D7;refine ⟨rfl,λh2 A58=>?_⟩;have:B2a h2 (e.ev x)=A4 v':=by
  unfold B2a at h1 ⊢;split at h1
  ·simp only [E8i] at h1 ⊢;obtain ⟨r,hr,h3⟩:=h1;exact ⟨r,A58 _ _ hr,h3⟩
  ·cases h1
 simp only [aop,this];rfl
def D3F{E:K7}{q:Bool}{hr:A9}{n0 j:Nat}{o:AOp}{e:Env}{h h':A9}{v:Val}(hs:aC o=A5)
  (D7:aop E q hr n0 (A4 j) o e h (λv h=>A4 (v,h))=A4 (v,h')):∃ r:Row,h'=h.set (n0+j) (A4 r)/\∀ h2:A9,aop E q hr n0 (A4 j) o e h2 (λv h=>A4 (v,h))=A4 (v,h2.set (n0+j) (A4 r)):=by
 cases o<;>simp [aC] at hs<;>simp only [aop,gF] at D7 ⊢
 case alloc z=>cases D7;exact ⟨_,rfl,λ_=>rfl⟩
 case nilrow z=>cases D7;exact ⟨_,rfl,λ_=>rfl⟩
 case mkMap=>cases D7;exact ⟨_,rfl,λ_=>rfl⟩
 all_goals
  simp only [E8i,E8n,E8v] at D7;obtain ⟨_,h1,rfl,rfl⟩:=D7;exact ⟨_,rfl,λh2=>by rw [h1];rfl⟩
def Grows(h h':A9):Prop:=h <+: h'/\∀ id x,h.length<=id->rd h' id=A4 x->x.own=A5
def Grows.refl(h:A9):Grows h h:=⟨List.prefix_refl _,λid x hid hx=>by have:=E1 hx;omega⟩
def B8S{h:A9}{r:Option (Val × A9)}{p:Val × A9}(hq:quiet h r=A4 p):r=A4 p/\Grows h p.2:=by
 simp only [quiet,E8i] at hq;obtain ⟨p',h1,h2⟩:=hq;split at h2
 ·cases h2;exact ⟨h1,‹_›⟩
 ·cases h2
def quiet_of{h:A9}{p:Val × A9}(hg:Grows h p.2):quiet h (A4 p)=A4 p:=by
 unfold quiet;simp only [E8z];exact if_pos hg
end
def B59{h h':A9}(hp:h <+: h'){id:Nat}(hl:id<h.length):rd h' id=rd h id:=by
 obtain ⟨t,rfl⟩:=hp;exact D5 hl
def B5l{hD h h':A9}(hl:hD.length=h.length)(id:Nat):rd (hD++h'.drop h.length) id=if id<h.length then rd hD id else rd h' id:=by
 split
 ·rw [D5 (by omega)]
 ·unfold rd;rw [E8L (by omega),List.getElem?_drop,hl]
  congr 2;omega
open Classical in
def CallOk.frame{P:Program}{f:FuncId}{args:List Val}{h h' hD:A9}{v:Val}(hk:CallOk P f args h v h')(hg:Grows h h')(hl:hD.length=h.length)(A58:∀ id x,rd h id=A4 x->rd hD id=A4 x) :
  CallOk P f args hD v (hD++h'.drop h.length):=by
 intro J U w V hi hargs
 let J':Ctx:={ J with F:=λb=>match J.F b with | some o=>A4 o | none=>if (∃ id x n,rd h id=A7/\rd hD id=A4 x /\ U id=A4 (b,n)) then w.heap[b]? else A7 }
 have hpl:h.length<=h'.length:=hg.1.length_le;have hΓ:∀ b,J'.F b=A7 -> J.F b=A7:=by
  intro b hb;cases hF:J.F b with
  | none=>rfl
  | some o=>simp only [J',hF] at hb;cases hb
 have hex:∀ id x b n,rd h id=A7->rd hD id=A4 x -> U id=A4 (b,n)->∃ o,J'.F b=A4 o/\w.heap[b]?=A4 o:=by
  intro id x b n h1 h2 h3;obtain ⟨ob,h4⟩:=(hi.rows id x h2).there h3;cases hF:J.F b with
  | some o=>exact ⟨o,by simp only [J',hF],hi.ctx.block b o hF⟩
  | none=>exact ⟨_,by simp only [J',hF];rw [if_pos ⟨id,x,n,h1,h2,h3⟩];exact h4,h4⟩
 have hinv:Inv J' U h w:=by
  refine ⟨λid r hr=>hi.rows id r (A58 id r hr),λid cP r r' x x' hr hr'=>hi.sep id cP r r' x x' (A58 _ _ hr) (A58 _ _ hr'),λid r x hr pQ hx=>?_,λid hid=>hi.dom id (by omega),⟨hi.ctx.os,hi.ctx.tape,hi.ctx.output,λb o ho=>?_⟩⟩
  ·have h0:=hi.own id r x (A58 _ _ hr) pQ hx;simp only [J',h0];rw [if_neg];rintro ⟨cP,x',n,h1,h2,h3⟩;have aZ:id≠cP:=by intro e;subst e;rw [hr] at h1;cases h1
   exact hi.sep id cP r x' x (x.1,n) (A58 _ _ hr) h2 pQ aZ hx h3 rfl
  ·cases hF:J.F b with
   | some o'=>simp only [J',hF] at ho;cases ho;exact hi.ctx.block b _ hF
   | none =>
    simp only [J',hF] at ho;split at ho
    ·exact ho
    ·cases ho
 refine (hk J' U w V hinv hargs).mono ?_;rintro e w' ⟨V',U',rfl,mI,hv,hi',Z0⟩;refine ⟨V',U',rfl,mI,hv,?_,λid hid=>Z0 id (by omega)⟩;have A0a:∀ id x,rd (hD++h'.drop h.length) id=A4 x->rd h' id=A4 x\/(id<h.length/\rd h id=A7/\rd hD id=A4 x):=by
  intro id x hx;rw [B5l hl] at hx;split at hx
  ·rename_i W4;cases hh:rd h id with
   | none=>exact .inr ⟨W4,rfl,hx⟩
   | some y =>
    have:=A58 id y hh;rw [hx] at this;cases this;exact .inl (by rw [B59 hg.1 W4];exact hh)
  ·exact .inl hx
 have hold:∀ id,id<h.length -> U' id = U id:=Z0;have E5v:∀ id x y,id<h.length->rd h id=A7->rd hD id=A4 x -> U' id=A4 y->∃ o,J'.F y.1=A4 o/\w.heap[y.1]?=A4 o:=by
  intro id x y h1 h2 h3 h4;rw [hold id h1] at h4;exact hex id x y.1 y.2 h2 h3 h4
 refine ⟨λid r hr=>?_,λid cP r r' x x' hr hr' pQ aZ hx hx'=>?_,λid r x hr pQ hx=>?_,λid hid=>?_,⟨hi'.ctx.os,hi'.ctx.tape,hi'.ctx.output,λb o ho=>hi'.ctx.block b o (by simp only [J',ho])⟩⟩
 ·rcases A0a id r hr with h1 | ⟨h1,h2,h3⟩
  ·exact hi'.rows id r h1
  ·refine (hi.rows id r h3).mono mI (hold id h1) λy hy=>?_
   obtain ⟨o,h4,h5⟩:=E5v id r y h1 h2 h3 (by rw [hold id h1];exact hy);rw [h5];exact hi'.ctx.block _ o h4
 ·rcases A0a id r hr with h1 | ⟨h1,h2,h3⟩
  ·rcases A0a cP r' hr' with h4 | ⟨h4,h5,h6⟩
   ·exact hi'.sep id cP r r' x x' h1 h4 pQ aZ hx hx'
   ·have h7:=hi'.own id r x h1 pQ hx;obtain ⟨o,h8,_⟩:=E5v cP r' x' h4 h5 h6 hx';intro e;rw [e,h8] at h7;cases h7
  ·rcases A0a cP r' hr' with h4 | ⟨h4,h5,h6⟩
   ·obtain ⟨o,h8,_⟩:=E5v id r x h1 h2 h3 hx;by_cases W4:cP<h.length
    ·rw [B59 hg.1 W4] at h4;rw [hold id h1] at hx;rw [hold cP W4] at hx';exact hi.sep id cP r r' x x' h3 (A58 _ _ h4) pQ aZ hx hx'
    ·have h9:=hi'.own cP r' x' h4 (hg.2 cP r' (by omega) h4) hx';intro e;rw [<-e,h8] at h9;cases h9
   ·rw [hold id h1] at hx;rw [hold cP h4] at hx';exact hi.sep id cP r r' x x' h3 h6 pQ aZ hx hx'
 ·rcases A0a id r hr with h1 | ⟨h1,h2,h3⟩
  ·exact hΓ _ (hi'.own id r x h1 pQ hx)
  ·rw [hold id h1] at hx;exact hi.own id r x h3 pQ hx
 ·refine hi'.dom id ?_;simp at hid;omega
def A34(P:Program)(N:Nat)(ops:Array Oper)(m:Nat)(l r:List AOper):Bool :=
 let all:=l++r
 let cl:=S6 ops
 let ahead (i j:Nat):Bool:=(cl.getD i 0).testBit j
 P.follows .mixedOrders &&
 decide (ops.size=l.length+r.length) &&
 (ops.toList.zip all).all (λp=>cA P N ops p.1 p.2) &&
 (ops.toList.zipIdx).all (λp=>(bG p.1).all (λq=>decide (q<p.2))) &&
 l.all (λo=>B1L o.op&&decide (aC o.op=o.slot.isSome)&&(match o.slot with | some j=>decide (j<m) | none=>A5)) &&
 r.all (λo=>decide (o.slot=A7)) &&
 l.zipIdx.all (λp=>l.zipIdx.all λq=>decide (p.2=q.2)||(decide (p.1.dst≠q.1.dst\/p.1.dst=A7)&&decide (p.1.slot≠q.1.slot\/p.1.slot=A7))) &&
 l.zipIdx.all (λp=>l.zipIdx.all λq=>(match q.1.dst with | some d=>!(p.1.reads.contains d)||(ahead p.2 q.2&&decide (q.2<p.2))||(ahead q.2 p.2&&decide (p.2<q.2)) | none=>A5)) &&
 l.zipIdx.all (λp=>l.zipIdx.all λq=>!((aU p.1.op||A5G p.1.op)&&decide (q.2<p.2)&&(aU q.1.op||aC q.1.op))||ahead p.2 q.2) &&
 l.zipIdx.all (λp=>match C08 p.1.op with | none=>A5 | some j=>l.zipIdx.any λq=>decide (q.1.slot=A4 j)&&ahead p.2 q.2)
def C0d(ops:Array Oper)(a n:Nat):Bool :=
 let cl:=S6 ops
 (E8Q a n).all (λi=>(E8T i).all λj=>(cl.getD i 0).testBit j)
structure DrawOk(P:Program)(N:Nat)(ops:Array Oper)(m:Nat)(l r:List AOper):Prop where
 follows:P.follows .mixedOrders=A5
 size:ops.size=l.length+r.length
 oper:∀ (i:Nat) (o:Oper) (ao:AOper),ops[i]?=A4 o->(l++r)[i]?=A4 ao->cA P N ops o ao=A5
 dir:∀ (i:Nat) (o:Oper),ops[i]?=A4 o->∀ p∈bG o,p<i
 quiet:∀ (i:Nat) (ao:AOper),l[i]?=A4 ao->B1L ao.op=A5/\aC ao.op=ao.slot.isSome/\∀ j,ao.slot=A4 j->j<m
 rslot:∀ ao∈r,ao.slot=A7
 apart:∀ (i j:Nat) ai aj,l[i]?=A4 ai->l[j]?=A4 aj->i≠j->(∀ d,ai.dst=A4 d->aj.dst≠A4 d)/\(∀ s,ai.slot=A4 s->aj.slot≠A4 s)
 reads:∀ (i j:Nat) ai aj d,l[i]?=A4 ai->l[j]?=A4 aj->aj.dst=A4 d->d∈ai.reads->(((S6 ops).getD i 0).testBit j=A5/\j<i)\/(((S6 ops).getD j 0).testBit i=A5/\i<j)
 calls:∀ (i j:Nat) ai aj,l[i]?=A4 ai->l[j]?=A4 aj->(aU ai.op=A5\/A5G ai.op=A5)->j<i->(aU aj.op=A5\/aC aj.op=A5)->((S6 ops).getD i 0).testBit j=A5
 own:∀ (i:Nat) ai j,l[i]?=A4 ai->C08 ai.op=A4 j->∃ (k:Nat) (ak:AOper),l[k]?=A4 ak/\ak.slot=A4 j/\((S6 ops).getD i 0).testBit k=A5
def mem_zipIdx{α:Type}{l:List α}{i:Nat}{a:α}(h:l[i]?=A4 a):(a,i)∈l.zipIdx:=by
 rw [List.mem_zipIdx_iff_getElem?];simpa using h
def B1m{P:Program}{N:Nat}{ops:Array Oper}{m:Nat}{l r:List AOper}(hc:A34 P N ops m l r=A5):DrawOk P N ops m l r:=by
 simp only [A34,E8j,decide_eq_true_eq] at hc;obtain ⟨⟨⟨⟨⟨⟨⟨⟨⟨h1,h2⟩,h3⟩,h4⟩,h5⟩,h6⟩,h7⟩,h8⟩,h9⟩,h10⟩:=hc;simp only [E8O] at h3 h4 h5 h6 h7 h8 h9 h10;refine ⟨h1,h2,?_,?_,?_,?_,?_,?_,?_,?_⟩
 ·intro i o ao ho ha;refine h3 (o,ao) ?_;have:(ops.toList.zip (l++r))[i]?=A4 (o,ao):=by
   rw [List.getElem?_zip_eq_some];exact ⟨by simpa using ho,ha⟩
  exact E8H this
 ·intro i o ho p hp;have:=h4 (o,i) (mem_zipIdx (by simpa using ho));simpa using this p hp
 ·intro i ao ha;have:=h5 ao (E8H ha);simp only [E8j,decide_eq_true_eq] at this;refine ⟨this.1.1,this.1.2,λj hj=>?_⟩;have h:=this.2;rw [hj] at h;simpa using h
 ·intro ao ha;simpa using h6 ao ha
 ·intro i j ai aj hi hj aZ;have:=h7 _ (mem_zipIdx hi) _ (mem_zipIdx hj);simp only [Bool.or_eq_true,E8j,decide_eq_true_eq] at this;rcases this with this | ⟨ha,hb⟩
  ·exact absurd this aZ
  ·refine ⟨λd hd he=>?_,λs hs he=>?_⟩
   ·rcases ha with ha | ha
    ·exact ha (by rw [hd,he])
    ·rw [hd] at ha;cases ha
   ·rcases hb with hb | hb
    ·exact hb (by rw [hs,he])
    ·rw [hs] at hb;cases hb
 ·intro i j ai aj d hi hj hd hr;have:=h8 _ (mem_zipIdx hi) _ (mem_zipIdx hj);simp only [hd,Bool.or_eq_true,E9b,E8j,decide_eq_true_eq] at this;rcases this with (this | this) | this
  ·have hc:ai.reads.contains d=A5:=by simpa using hr
   rw [hc] at this;cases this
  ·exact .inl this
  ·exact .inr this
 ·intro i j ai aj hi hj hc W4 hor;have:=h9 _ (mem_zipIdx hi) _ (mem_zipIdx hj);simp only [Bool.or_eq_true,E9b] at this;rcases this with this | this
  ·have:((aU ai.op||A5G ai.op)&&decide (j<i)&&(aU aj.op||aC aj.op))=A5:=by
    simp only [E8j,decide_eq_true_eq,Bool.or_eq_true];exact ⟨⟨hc,W4⟩,hor⟩
   simp_all
  ·exact this
 ·intro i ai j hi ho;have:=h10 _ (mem_zipIdx hi);simp only [ho,List.any_eq_true,E8j,decide_eq_true_eq] at this;obtain ⟨⟨ak,k⟩,hk,hs,ht⟩:=this;rw [List.mem_zipIdx_iff_getElem?] at hk;exact ⟨k,ak,hk,hs,ht⟩
def C64{ops:Array Oper}{a n:Nat}(hc:C0d ops a n=A5)(hs:ops.size=a+n):∀ i,a<=i->i<ops.size->∀ j,j<i->((S6 ops).getD i 0).testBit j=A5:=by
 intro i hi W4 j hj;simp only [C0d,E8O] at hc;exact hc i (by rw [List.mem_range'_1];omega) j (by simpa using hj)
structure Trace(E:K7)(hr:A9)(n0:Nat)(l:List AOper)(es:Nat->Env)(hs:Nat->A9)(vs:Nat->Val):Prop where
 step:∀ (i:Nat) o,l[i]?=A4 o->aK E A5 hr n0 o (es i) (hs i) (λv h=>A4 (v,h))=A4 (vs i,hs (i+1))
 env:∀ (i:Nat) o,l[i]?=A4 o->es (i+1)=(es i).put o.dst (vs i)
def C80{E:K7}{hr:A9}{n0:Nat}{R:Type}{k:Env->A9->Option R}{res:R}:∀ (l:List AOper) (e:Env) (h:A9),B7a E hr n0 l e h k=A4 res ->
  ∃ es hs vs,es 0=e/\hs 0=h/\Trace E hr n0 l es hs vs/\k (es l.length) (hs l.length)=A4 res
 | [],e,h,D7=>⟨λ_=>e,λ_=>h,λ_=>.un,rfl,rfl,⟨λi o ho=>by simp at ho,λi o ho=>by simp at ho⟩,D7⟩
 | o::l,e,h,D7=>by
  rw [C6K,C6S] at D7;simp only [E8i] at D7;obtain ⟨p,hp,D7⟩:=D7;obtain ⟨es,hs,vs,h1,h2,h3,h4⟩:=C80 l _ _ D7;refine ⟨λi=>match i with | 0=>e | i+1=>es i,λi=>match i with | 0=>h | i+1=>hs i,λi=>match i with | 0=>p.1 | i+1=>vs i,rfl,rfl,⟨λi o' ho=>?_,λi o' ho=>?_⟩,h4⟩
  ·cases i with
   | zero=>simp at ho;subst ho;simp only;rw [h2];exact hp
   | succ i=>simp at ho;exact h3.step i o' ho
  ·cases i with
   | zero=>simp at ho;subst ho;exact h1
   | succ i=>simp at ho;exact h3.env i o' ho
def A51(l:List AOper)(n0:Nat)(i id:Nat):Prop:=∃ ao j,l[i]?=A4 ao/\ao.slot=A4 j/\id=n0+j
section
variable {P:Program} {N m:Nat} {ops:Array Oper} {l r:List AOper} {E:K7} {hr:A9} {es:Nat->Env} {hs:Nat->A9} {vs:Nat->Val}
def B0b(hq:∀ (i:Nat) (ao:AOper),l[i]?=A4 ao->B1L ao.op=A5/\aC ao.op=ao.slot.isSome/\∀ j,ao.slot=A4 j->j<m)(ht:Trace E hr hr.length l es hs vs){i:Nat}{ao:AOper}(ha:l[i]?=A4 ao) :
  (aU ao.op=A5/\ao.slot=A7/\Grows (hs i) (hs (i+1)))\/(aU ao.op=A6/\(hs (i+1)=hs i\/∃ j row,ao.slot=A4 j/\hs (i+1)=(hs i).set (hr.length+j) (A4 row))):=by
 have h1:=ht.step i ao ha;obtain ⟨q1,q2,q3⟩:=hq i ao ha;have key:hs (i+1)=hs i\/∃ v,aop E A5 hr hr.length ao.slot ao.op (es i) (hs i) (λv h=>A4 (v,h))=A4 (v,hs (i+1)):=by
  unfold aK at h1;cases hgu:ao.guard with
  | none=>rw [hgu] at h1;exact .inr ⟨_,h1⟩
  | some g =>
   rw [hgu] at h1;simp only [E8i,E8n] at h1;obtain ⟨⟨v',h2⟩,hp,hpe⟩:=h1;cases hpe;unfold gd at hp;split at hp
   ·rename_i x _;cases hx:(x==g.2) with
    | true=>rw [hx] at hp;exact .inr ⟨_,hp⟩
    | false=>rw [hx] at hp;simp only [cond_false,E8n,E8v] at hp;exact .inl hp.2.symm
   ·simp only [E8n,E8v] at hp;exact .inl hp.2.symm
   ·cases hp
 cases hc:aU ao.op with
 | true =>
  left
  have hns:aC ao.op=A6:=by cases hop:ao.op<;>simp_all [aU,aC]
  have hsn:ao.slot=A7:=by
   rw [hns] at q2;cases hsl:ao.slot with
   | none=>rfl
   | some j=>rw [hsl] at q2;cases q2
  refine ⟨rfl,hsn,?_⟩;rcases key with h | ⟨v,h⟩
  ·rw [h];exact Grows.refl _
  ·cases hop:ao.op<;>rw [hop] at hc h<;>simp [aU] at hc
   case call f args =>
    simp only [aop,cond_true,E8i,E8n] at h;obtain ⟨⟨v',h2⟩,hp,hpe⟩:=h;cases hpe;exact (B8S hp).2
   case callV f args =>
    simp only [aop,cond_true,E8i,E8n] at h;obtain ⟨⟨v',h2⟩,hp,hpe⟩:=h;cases hpe;exact (B8S hp).2
 | false =>
  right
  refine ⟨rfl,?_⟩;rcases key with h | ⟨v,h⟩
  ·exact .inl h
  ·cases hsl:aC ao.op with
   | false =>
    cases hmk:A5G ao.op with
    | false =>
     cases A5D:C08 ao.op with
     | none=>exact .inl (D0x q1 hmk A5D hc hsl h).1
     | some j=>exact .inl (D7O A5D h).1
    | true=>exact .inl (D3E hmk h).1
   | true =>
    rw [hsl] at q2;obtain ⟨j,hj⟩:=Option.isSome_iff_exists.1 q2.symm;rw [hj] at h;obtain ⟨row,h2,_⟩:=D3F hsl h;exact .inr ⟨j,row,hj,h2⟩
def D5L(hq:∀ (i:Nat) (ao:AOper),l[i]?=A4 ao->B1L ao.op=A5/\aC ao.op=ao.slot.isSome/\∀ j,ao.slot=A4 j->j<m)(ht:Trace E hr hr.length l es hs vs){i:Nat}(hi:i<l.length) :
  (hs i).length<=(hs (i+1)).length:=by
 rcases B0b hq ht (E8h hi) with ⟨_,_,h⟩ | ⟨_,h | ⟨j,row,_,h⟩⟩
 ·exact h.1.length_le
 ·rw [h];exact E8m _
 ·rw [h];simp
def B47(hq:∀ (i:Nat) (ao:AOper),l[i]?=A4 ao->B1L ao.op=A5/\aC ao.op=ao.slot.isSome/\∀ j,ao.slot=A4 j->j<m)(ht:Trace E hr hr.length l es hs vs):∀ (t i:Nat),i+t<=l.length->(hs i).length<=(hs (i+t)).length
 | 0,i,_=>E8m _
 | t+1,i,h=>Nat.le_trans (B47 hq ht t i (by omega)) (D5L hq ht (i:=i+t) (by omega))
def A98(D:DrawOk P N ops m l r)(ht:Trace E hr hr.length l es hs vs)(h0:hs 0=hr++E8l m A7){i id:Nat}(ho:A51 l hr.length i id):∀ k,k<=i->rd (hs k) id=A7:=by
 obtain ⟨ao,j,ha,hj,rfl⟩:=ho;have hjm:=(D.quiet i ao ha).2.2 j hj;have K6:i<l.length:=(E8p.1 ha).1;intro k
 induction k with
 | zero =>
  intro _;rw [h0];unfold rd;rw [E8L (by omega)];simp only [List.getElem?_replicate];split<;>rfl
 | succ k ih =>
  intro hk;have ih:=ih (by omega);have hkl:k<l.length:=by omega
  have hin:hr.length+j<(hs k).length:=by
   have:=B47 D.quiet ht k 0 (by omega);rw [h0] at this;simp at this;omega
  rcases B0b D.quiet ht (E8h hkl) with ⟨_,_,h⟩ | ⟨_,h | ⟨j',row,hj',h⟩⟩
  ·rw [B59 h.1 hin];exact ih
  ·rw [h];exact ih
  ·rw [h];have aZ:j≠j':=by
    intro e;subst e;exact (D.apart i k ao l[k] ha (E8h hkl) (by omega)).2 j hj hj'
   rw [B7 (by omega)];exact ih
def tL(D:DrawOk P N ops m l r)(ht:Trace E hr hr.length l es hs vs){k id:Nat}(hid:id<(hs k).length)(Y8:∀ i,k<=i->¬ A51 l hr.length i id):∀ t,k+t<=l.length->rd (hs (k+t)) id=rd (hs k) id
 | 0,_=>rfl
 | t+1,hl=>by
  have ih:=tL D ht hid Y8 t (by omega);have W4:k+t<l.length:=by omega
  have hin:id<(hs (k+t)).length:=Nat.lt_of_lt_of_le hid (B47 D.quiet ht t k (by omega));rw [<-ih];rcases B0b D.quiet ht (E8h W4) with ⟨_,_,h⟩ | ⟨_,h | ⟨j',row,hj',h⟩⟩
  ·exact B59 h.1 hin
  ·show rd (hs (k+t+1)) id=_;rw [h]
  ·show rd (hs (k+t+1)) id=_;rw [h];have aZ:hr.length+j'≠id:=λe=>Y8 (k+t) (by omega) ⟨l[k+t],j',E8h W4,hj',e.symm⟩
   rw [B7 aZ]
def und(l:List AOper)(n0:Nat)(done:Nat->Bool)(id:Nat):Bool:=(E8T l.length).any λi=>!done i&&decide (((l[i]?).bind (·.slot)).map (n0 + ·)=A4 id)
def bI{n0:Nat}{done:Nat->Bool}{id:Nat}:und l n0 done id=A5↔∃ i,done i=A6/\A51 l n0 i id:=by
 unfold und A51;simp only [List.any_eq_true,List.mem_range,E8j,E9b,decide_eq_true_eq,E8G,E8i];constructor
 ·rintro ⟨i,hi,hd,j,⟨ao,ha,hj⟩,rfl⟩;exact ⟨i,hd,ao,j,ha,hj,rfl⟩
 ·rintro ⟨i,hd,ao,j,ha,hj,rfl⟩;exact ⟨i,(E8p.1 ha).1,hd,j,⟨ao,ha,hj⟩,rfl⟩
def HD(F:A9)(u:Nat->Bool)(L:Nat):A9:=(E8T L).map λid=>if u id=A5 then A7 else rd F id
def K1(F:A9)(u:Nat->Bool)(L:Nat):(HD F u L).length=L:=by simp [HD]
def A0B(F:A9)(u:Nat->Bool)(L id:Nat):rd (HD F u L) id=if id<L/\u id=A6 then rd F id else A7:=by
 unfold HD
 conv=>lhs;unfold rd
 rw [List.getElem?_map];by_cases h:id<L
 ·rw [List.getElem?_range h];cases hu:u id
  ·simp [h,hu];rfl
  ·simp [h,hu]
 ·rw [E8P (by simp;omega)];simp [h]
def A2t{h h':A9}(hl:h.length=h'.length)(hr:∀ id,id<h.length->rd h id=rd h' id):h=h':=by
 apply List.ext_getElem hl;intro i h1 h2;have:=hr i h1;unfold rd at this;rw [E8h h1,E8h h2] at this;simpa using this
structure Sim(J:Ctx)(l:List AOper)(n0 N:Nat)(e:Env)(es:Nat->Env)(hs:Nat->A9)(vs:Nat->Val)(μ0:Mu)(done:Nat->Bool)(q:Nat)(U:Mu)(a:Act)(w:World):Prop where
 qle:q<=l.length
 calls:∀ (i:Nat) ao,l[i]?=A4 ao->aU ao.op=A5->(done i=A5↔i<q)
 envD:∀ (i:Nat) ao d,l[i]?=A4 ao->done i=A5->ao.dst=A4 d->RV U (vs i) (a.tmps.getD d undef)
 envO:∀ t,(∀ (i:Nat) ao,l[i]?=A4 ao->done i=A5->ao.dst≠A4 t)->RV U (e.get t) (a.tmps.getD t undef)
 inv:Inv J U (HD (hs l.length) (und l n0 done) (hs q).length) w
 free:∀ id,und l n0 done id=A5 -> U id=A7
 le:μ0.le U
 keep:∀ id,id<n0 -> U id = μ0 id
 size:N<=a.tmps.size
 defers:a.defers = J.ds
end
def Env.get_keep_mem(e:Env)(l:List Nat)(t:Nat):(e.keep l).get t=if t∈l then e.get t else .un:=by
 induction l with
 | nil=>rfl
 | cons x r ih =>
  simp only [Env.keep,Env.get];by_cases h:x=t
  ·subst h;simp
  ·have:Nat.beq x t=A6:=by cases hb:Nat.beq x t with
    | false=>rfl
    | true=>exact absurd (Nat.eq_of_beq_eq_true hb) h
   rw [this,cond_false,ih];have h':t≠x:=Ne.symm h;simp [h']
section
variable {P:Program} {N m:Nat} {ops:Array Oper} {l r:List AOper} {E:K7} {hr:A9} {e:Env} {es:Nat->Env} {hs:Nat->A9} {vs:Nat->Val} {J:Ctx} {μ0:Mu}
def vU(D:DrawOk P N ops m l r)(ht:Trace E hr hr.length l es hs vs){j t:Nat}{aj:AOper}(sN:l[j]?=A4 aj)(hd:aj.dst=A4 t):∀ k,j<k->k<=l.length->(es k).get t=vs j:=by
 intro k
 induction k with
 | zero=>intro h;omega
 | succ k ih =>
  intro hjk hk;rw [ht.env k l[k] (E8h (by omega))];by_cases e:j=k
  ·subst e;have:l[j]=aj:=by have h2:=E8h (l:=l) (i:=j) (by omega);rw [sN] at h2;cases h2;rfl
   rw [this,hd];exact Env.get_put_same _ _ _
  ·have aZ:=(D.apart j k aj l[k] sN (E8h (by omega)) e).1 t hd;cases hdk:l[k].dst with
   | none=>exact ih (by omega) (by omega)
   | some d =>
    rw [hdk] at aZ;rw [Env.get_put_other _ _ _ _ (by intro h;subst h;exact aZ rfl)];exact ih (by omega) (by omega)
def A2n(ht:Trace E hr hr.length l es hs vs)(he:es 0=e){t:Nat}:∀ k,k<=l.length->(∀ (j:Nat) aj,j<k->l[j]?=A4 aj->aj.dst≠A4 t)->(es k).get t=e.get t:=by
 intro k
 induction k with
 | zero=>intro _ _;rw [he]
 | succ k ih =>
  intro hk Y8;rw [ht.env k l[k] (E8h (by omega))];have aZ:=Y8 k l[k] (by omega) (E8h (by omega));cases hdk:l[k].dst with
  | none=>exact ih (by omega) λj aj hj=>Y8 j aj (by omega)
  | some d =>
   rw [hdk] at aZ;rw [Env.get_put_other _ _ _ _ (by intro h;subst h;exact aZ rfl)];exact ih (by omega) λj aj hj=>Y8 j aj (by omega)
def sZ(done:Nat->Bool)(i:Nat):Nat->Bool:=λk=>decide (k=i)||done k
def A03(done:Nat->Bool)(i:Nat):sZ done i i=A5:=by simp [sZ]
def bD(done:Nat->Bool)(i:Nat){k:Nat}(h:k≠i):sZ done i k=done k:=by simp [sZ,h]
def E4v(D:DrawOk P N ops m l r)(ht:Trace E hr hr.length l es hs vs)(he:es 0=e){done:Nat->Bool}{q:Nat}{U:Mu}{a:Act}{w:World}
  (S:Sim J l hr.length N e es hs vs μ0 done q U a w) {i:Nat} {ao:AOper} (ha:l[i]?=A4 ao) (hnd:done i=A6) (hah:∀ b,((S6 ops).getD i 0).testBit b=A5->done b=A5) (pE:∀ j,done j=A5->∀ b,((S6 ops).getD j 0).testBit b=A5->done b=A5):SEnv U ((es i).keep ao.reads) a:=by
 intro t;rw [Env.get_keep_mem];split
 ·rename_i mK;have K6:i<l.length:=(E8p.1 ha).1;by_cases hw:∃ (j:Nat) (aj:AOper),l[j]?=A4 aj/\aj.dst=A4 t
  ·obtain ⟨j,aj,sN,hd⟩:=hw;rcases D.reads i j ao aj t ha sN hd mK with ⟨h1,h2⟩ | ⟨h1,h2⟩
   ·rw [vU D ht sN hd i h2 (by omega)];exact S.envD j aj t sN (hah j h1) hd
   ·have hnj:done j=A6:=by
     cases hdj:done j with
     | false=>rfl
     | true=>rw [pE j hdj i h1] at hnd;cases hnd
    have E4T:∀ (k:Nat) (ak:AOper),l[k]?=A4 ak->ak.dst=A4 t->k=j:=λk ak uX hk=>by
     by_cases e:k=j
     ·exact e
     ·exact absurd hd ((D.apart k j ak aj uX sN e).1 t hk)
    rw [A2n ht he i (by omega) λk ak hk uX hkd=>by have:=E4T k ak uX hkd;omega];exact S.envO t λk ak uX hk hkd=>by rw [E4T k ak uX hkd,hnj] at hk;cases hk
  ·have Y8:∀ (j:Nat) (aj:AOper),l[j]?=A4 aj->aj.dst≠A4 t:=λj aj sN hd=>hw ⟨j,aj,sN,hd⟩
   rw [A2n ht he i (by omega) λj aj _ sN=>Y8 j aj sN];exact S.envO t λj aj sN _=>Y8 j aj sN
 ·trivial
def D1h{n0 i id:Nat}(h:id<n0):¬ A51 l n0 i id:=by
 rintro ⟨ao,j,_,_,rfl⟩;omega
def oO(D:DrawOk P N ops m l r)(ht:Trace E hr hr.length l es hs vs)(h0:hs 0=hr++E8l m A7){k:Nat}(hk:k<=l.length):hr.length+m<=(hs k).length:=by
 have:=B47 D.quiet ht k 0 (by omega);rw [h0] at this;simp at this;omega
def D2Y(D:DrawOk P N ops m l r){n0 i id:Nat}(h:A51 l n0 i id):id<n0+m:=by
 obtain ⟨ao,j,ha,hj,rfl⟩:=h;have:=(D.quiet i ao ha).2.2 j hj;omega
def C8w(D:DrawOk P N ops m l r){n0 i k id:Nat}(h:A51 l n0 i id)(h2:A51 l n0 k id):i=k:=by
 obtain ⟨ao,j,ha,hj,rfl⟩:=h;obtain ⟨ao',j',ha',hj',he⟩:=h2;by_cases e:i=k
 ·exact e
 ·have:j=j':=by omega
  subst this;exact absurd hj' ((D.apart i k ao ao' ha ha' e).2 j hj)
def D5D(D:DrawOk P N ops m l r)(ht:Trace E hr hr.length l es hs vs)(h0:hs 0=hr++E8l m A7){done:Nat->Bool}{q:Nat}{U:Mu}{a:Act}{w:World}
  (S:Sim J l hr.length N e es hs vs μ0 done q U a w) {i:Nat} {ao:AOper} (ha:l[i]?=A4 ao) (hnd:done i=A6) {V:Value} {w':World} {U':Mu} {q':Nat} {dst:Option Nat} (A39:dst=ao.dst) (E5u:A2X N dst=A5)
  (mI:U.le U') (hv:RV U' (vs i) V) (hinv:Inv J U' (HD (hs l.length) (und l hr.length (sZ done i)) (hs q').length) w') (Z0:Keeps U U' (HD (hs l.length) (und l hr.length done) (hs q).length) hr.length ao.slot)
  (hq':q'<=l.length) (E5q:∀ (k:Nat) ak,l[k]?=A4 ak->aU ak.op=A5->(sZ done i k=A5↔k<q')):Sim J l hr.length N e es hs vs μ0 (sZ done i) q' U' (a.put dst V) w':=by
 have A0a:∀ t,dst≠A4 t->(a.put dst V).tmps.getD t undef=a.tmps.getD t undef:=by
  intro t h;cases hd:dst with
  | none=>rfl
  | some d =>
   rw [hd] at h;simp [Act.put,Array.getElem?_setIfInBounds_ne (show d≠t from λe=>h (by rw [e]))]
 refine ⟨hq',E5q,?_,?_,hinv,?_,Mu.le_trans S.le mI,?_,by rw [Act.size_put];exact S.size,?_⟩
 ·intro k ak d uX hdk hd;by_cases e:k=i
  ·subst e;rw [ha] at uX;cases uX;rw [A39,hd];have W4:d<a.tmps.size:=by
    rw [A39,hd] at E5u;simp [A2X] at E5u;exact Nat.lt_of_lt_of_le E5u S.size
   have:(a.put (A4 d) V).tmps.getD d undef=V:=by simp [Act.put,Array.getD,W4]
   rw [this];exact hv
  ·rw [bD _ _ e] at hdk;rw [A0a d (by rw [A39];exact λh=>(D.apart i k ao ak ha uX (Ne.symm e)).1 d h hd)];exact (S.envD k ak d uX hdk hd).mono mI
 ·intro t Y8;have h1:=Y8 i ao ha (A03 _ _);rw [A0a t (by rw [A39];exact h1)];refine (S.envO t λk ak uX hdk=>?_).mono mI;by_cases e:k=i
  ·subst e;rw [hnd] at hdk;cases hdk
  ·exact Y8 k ak uX (by rw [bD _ _ e];exact hdk)
 ·intro id hid;obtain ⟨k,hk,ho⟩:=bI.1 hid;have e:k≠i:=by intro e;subst e;rw [A03] at hk;cases hk
  rw [bD _ _ e] at hk;have h1:=S.free id (bI.2 ⟨k,hk,ho⟩);rw [<-h1];refine Z0 id (by rw [K1];have:=oO D ht h0 S.qle;have:=D2Y D ho;omega) λj hj he=>e ?_
  exact C8w D ho ⟨ao,j,ha,hj,he⟩
 ·intro id hid;rw [<-S.keep id hid];exact Z0 id (by rw [K1];have:=oO D ht h0 S.qle;omega) λj hj he=>by omega
 ·have:∀ d:Option Nat,(a.put d V).defers=a.defers:=λd=>by cases d<;>rfl
  rw [this];exact S.defers
def C1v(D:DrawOk P N ops m l r){n0 i id:Nat}{done:Nat->Bool}(h:¬ A51 l n0 i id):und l n0 (sZ done i) id=und l n0 done id:=by
 rw [Bool.eq_iff_iff,bI,bI];constructor
 ·rintro ⟨k,hk,ho⟩;have e:k≠i:=by intro e;subst e;exact h ho
  exact ⟨k,by rw [bD _ _ e] at hk;exact hk,ho⟩
 ·rintro ⟨k,hk,ho⟩;have e:k≠i:=by intro e;subst e;exact h ho
  exact ⟨k,by rw [bD _ _ e];exact hk,ho⟩
def D8D(D:DrawOk P N ops m l r){n0 i id:Nat}{done:Nat->Bool}(h:A51 l n0 i id):und l n0 (sZ done i) id=A6:=by
 cases hu:und l n0 (sZ done i) id with
 | false=>rfl
 | true =>
  obtain ⟨k,hk,ho⟩:=bI.1 hu;have e:=C8w D ho h;subst e;rw [A03] at hk;cases hk
def E58(D:DrawOk P N ops m l r)(ht:Trace E hr hr.length l es hs vs)(h0:hs 0=hr++E8l m A7){done:Nat->Bool}{q:Nat}(hq:q<=l.length)(id:Nat)(x:Row)(hx:rd hr id=A4 x) :
  rd (HD (hs l.length) (und l hr.length done) (hs q).length) id=A4 x:=by
 have W4:=E1 hx;have hu:und l hr.length done id=A6:=by
  cases hu:und l hr.length done id with
  | false=>rfl
  | true=>obtain ⟨k,_,ho⟩:=bI.1 hu;exact absurd ho (D1h W4)
 rw [A0B,if_pos ⟨by have:=oO D ht h0 hq;omega,hu⟩];have:=tL D ht (k:=0) (id:=id) (by rw [h0];simp;omega) (λi _=>D1h W4) l.length (by omega);rw [E8A] at this;rw [this,h0,D5 W4];exact hx
def E2U(D:DrawOk P N ops m l r)(ht:Trace E hr hr.length l es hs vs)(h0:hs 0=hr++E8l m A7){done:Nat->Bool}{q:Nat}{U:Mu}{a:Act}{w:World}
  (S:Sim J l hr.length N e es hs vs μ0 done q U a w) {i:Nat} {ao:AOper} (ha:l[i]?=A4 ao) (hnd:done i=A6):A00 U (HD (hs l.length) (und l hr.length done) (hs q).length) hr.length ao.slot:=by
 cases hsl:ao.slot with
 | none=>trivial
 | some j =>
  refine ⟨S.free _ (bI.2 ⟨i,hnd,ao,j,ha,hsl,rfl⟩),?_⟩;rw [K1];have:=oO D ht h0 S.qle;have:=(D.quiet i ao ha).2.2 j hsl;omega
def A2z(D:DrawOk P N ops m l r)(ht:Trace E hr hr.length l es hs vs){q:Nat}:∀ t,q+t<=l.length->(∀ (k:Nat) ak,q<=k->k<q+t->l[k]?=A4 ak->aU ak.op=A6)->(hs (q+t)).length=(hs q).length
 | 0,_,_=>rfl
 | t+1,hl,Y8=>by
  have ih:=A2z D ht (q:=q) t (by omega) λk ak h1 h2=>Y8 k ak h1 (by omega)
  rw [<-ih];have hk:q+t<l.length:=by omega
  rcases B0b D.quiet ht (E8h hk) with ⟨h,_,_⟩ | ⟨_,h | ⟨j,row,_,h⟩⟩
  ·have:=Y8 (q+t) l[q+t] (by omega) (by omega) (E8h hk);rw [h] at this;cases this
  ·show (hs (q+t+1)).length=_;rw [h]
  ·show (hs (q+t+1)).length=_;rw [h];simp
def E4x(D:DrawOk P N ops m l r)(ht:Trace E hr hr.length l es hs vs)(h0:hs 0=hr++E8l m A7){done:Nat->Bool}{q:Nat}{U:Mu}{a:Act}{w:World}
  (S:Sim J l hr.length N e es hs vs μ0 done q U a w) {i:Nat} {ao:AOper} (ha:l[i]?=A4 ao) (hah:∀ b,((S6 ops).getD i 0).testBit b=A5->done b=A5) (hl:aU ao.op=A5\/A5G ao.op=A5) :
  ∀ id x,rd (hs i) id=A4 x->rd (HD (hs l.length) (und l hr.length done) (hs q).length) id=A4 x:=by
 have K6:i<l.length:=(E8p.1 ha).1;have hql:=S.qle;have hlen:(hs i).length<=(hs q).length:=by
  by_cases hiq:i<=q
  ·have:=B47 D.quiet ht (q-i) i (by omega)
   rwa [show i+(q-i)=q by omega] at this
  ·have:=A2z D ht (q:=q) (i-q) (by omega) λk ak h1 h2 uX=>by
    cases hck:aU ak.op with
    | false=>rfl
    | true =>
     have h3:=hah k (D.calls i k ao ak ha uX hl (by omega) (.inl hck));have:=(S.calls k ak uX hck).1 h3;omega
   rw [show q+(i-q)=i by omega] at this;omega
 intro id x hx;have A5C:∀ k,i<=k->¬ A51 l hr.length k id:=λk hk ho'=>by
  have:=A98 D ht h0 ho' i hk;rw [this] at hx;cases hx
 have hu:und l hr.length done id=A6:=by
  cases hu:und l hr.length done id with
  | false=>rfl
  | true =>
   obtain ⟨k,hk,ho'⟩:=bI.1 hu;by_cases e1:i<=k
   ·exact absurd ho' (A5C k e1)
   ·obtain ⟨ak,j,uX,hj,_⟩:=ho';have hsk:aC ak.op=A5:=by have:=(D.quiet k ak uX).2.1;rw [hj] at this;exact this
    have:=hah k (D.calls i k ao ak ha uX hl (by omega) (.inr hsk));rw [hk] at this;cases this
 rw [A0B,if_pos ⟨by have:=E1 hx;omega,hu⟩];have:=tL D ht (E1 hx) A5C (l.length-i) (by omega);rw [show i+(l.length-i)=l.length by omega] at this;rw [this];exact hx
def E4w(D:DrawOk P N ops m l r)(ht:Trace E hr hr.length l es hs vs)(h0:hs 0=hr++E8l m A7){done:Nat->Bool}{q:Nat}{U:Mu}{a:Act}{w:World}
  (S:Sim J l hr.length N e es hs vs μ0 done q U a w) {i j:Nat} {ao:AOper} (ha:l[i]?=A4 ao) (hah:∀ b,((S6 ops).getD i 0).testBit b=A5->done b=A5) (A5D:C08 ao.op=A4 j) :
  ∀ x,rd (hs i) (hr.length+j)=A4 x->rd (HD (hs l.length) (und l hr.length done) (hs q).length) (hr.length+j)=A4 x:=by
 have K6:i<l.length:=(E8p.1 ha).1;have hql:=S.qle;intro x hx;obtain ⟨k,ak,uX,hsk,E7k⟩:=D.own i ao j ha A5D;have hO:A51 l hr.length k (hr.length+j):=⟨ak,j,uX,hsk,rfl⟩;have hdk:=hah k E7k;have A5C:∀ k',i<=k'->¬ A51 l hr.length k' (hr.length+j):=λk' hk' ho'=>by
  have:=A98 D ht h0 ho' i hk';rw [this] at hx;cases hx
 have hu:und l hr.length done (hr.length+j)=A6:=by
  cases hu:und l hr.length done (hr.length+j) with
  | false=>rfl
  | true =>
   obtain ⟨k',hk',ho'⟩:=bI.1 hu;have:=C8w D ho' hO;subst this;rw [hk'] at hdk;cases hdk
 rw [A0B,if_pos ⟨by have:=oO D ht h0 S.qle;have:=D2Y D hO;omega,hu⟩];have:=tL D ht (E1 hx) A5C (l.length-i) (by omega);rw [show i+(l.length-i)=l.length by omega] at this;rw [this];exact hx
open Classical in
def D5E(D:DrawOk P N ops m l r)(hE:jK P E)(ht:Trace E hr hr.length l es hs vs)(h0:hs 0=hr++E8l m A7)(he:es 0=e){done:Nat->Bool}{q:Nat}{U:Mu}{a:Act}{w:World}
  (S:Sim J l hr.length N e es hs vs μ0 done q U a w) {i:Nat} {ao:AOper} {o:Oper} (ha:l[i]?=A4 ao) (ho:ops[i]?=A4 o) (hnd:done i=A6)
  (hah:∀ b,((S6 ops).getD i 0).testBit b=A5->done b=A5) (pE:∀ j,done j=A5->∀ b,((S6 ops).getD j 0).testBit b=A5->done b=A5)
  {next:Act->World->Prop} {Q:Exit->Act->World->Prop} (hn:∀ V w' U' q',Sim J l hr.length N e es hs vs μ0 (sZ done i) q' U' (a.put o.dst V) w'->next (a.put o.dst V) w') :
  if Region.wanted o (yielded ops a.tmps) then o.wp P a w next Q\/(o.asks P a w/\LetsOut Q) else next (a.put o.dst undef) w:=by
 have K6:i<l.length:=(E8p.1 ha).1;have hco:cA P N ops o ao=A5:=D.oper i o ao ho (by rw [E88 K6];exact ha);have A39:o.dst=ao.dst/\A2X N o.dst=A5:=by
  simp only [cA,E8j,decide_eq_true_eq] at hco;exact ⟨hco.1.1.1,hco.1.1.2⟩
 have C9O:=E4v D ht he S ha hnd hah pE;have hrd:=E58 D ht h0 (done:=done) S.qle;have D4z:=E2U D ht h0 S ha hnd;have pG:=ht.step i ao ha;have E4N:∀ (E:K7) (h:A9),aK E A5 hr hr.length ao (es i) h (λv h=>A4 (v,h))=aK E A5 hr hr.length ao ((es i).keep ao.reads) h λv h=>A4 (v,h) :=
  λE h=>C2B λt ht'=>by rw [Env.get_keep_mem,if_pos ht']
 have hqi:=D.quiet i ao ha;have E70:=oO D ht h0 S.qle;cases hc:aU ao.op with
 | false =>
  have key:∃ h2,aK E A5 hr hr.length ao (es i) (HD (hs l.length) (und l hr.length done) (hs q).length) (λv h=>A4 (v,h))=A4 (vs i,h2)/\h2=HD (hs l.length) (und l hr.length (sZ done i)) (hs q).length:=by
   have C4i:hs (i+1)=hs i->HD (hs l.length) (und l hr.length done) (hs q).length=HD (hs l.length) (und l hr.length (sZ done i)) (hs q).length:=by
    intro hsame;refine A2t (by rw [K1,K1]) λid hid=>?_
    rw [K1] at hid;rw [A0B,A0B];by_cases A5D:A51 l hr.length i id
    ·rw [D8D D A5D,bI.2 ⟨i,hnd,A5D⟩];have h1:=A98 D ht h0 A5D i (E8m _);have h2:=tL D ht (k:=i+1) (id:=id) (by rw [hsame];have:=oO D ht h0 (k:=i) (by omega);have:=D2Y D A5D;omega)
      (λk hk ho'=>by have:=C8w D ho' A5D;omega) (l.length-(i+1)) (by omega)
     rw [show i+1+(l.length-(i+1))=l.length by omega,hsame,h1] at h2;simp [h2]
    ·rw [C1v D A5D]
   have B1z:∀ v h3,aop E A5 hr hr.length ao.slot ao.op (es i) (hs i) (λv h=>A4 (v,h))=A4 (v,h3)->h3=hs (i+1) ->
     ∃ h2,aop E A5 hr hr.length ao.slot ao.op (es i) (HD (hs l.length) (und l hr.length done) (hs q).length) (λv h=>A4 (v,h))=A4 (v,h2)/\h2=HD (hs l.length) (und l hr.length (sZ done i)) (hs q).length:=by
    intro v h3 B1z he3;subst he3;cases hsl:aC ao.op with
    | false =>
     cases hmk:A5G ao.op with
     | false =>
      cases A5D:C08 ao.op with
      | none =>
       obtain ⟨h4,h5⟩:=D0x hqi.1 hmk A5D hc hsl B1z;exact ⟨_,h5 _,C4i h4⟩
      | some j =>
       obtain ⟨h4,h5⟩:=D7O A5D B1z;exact ⟨_,h5 _ (E4w D ht h0 S ha hah A5D),C4i h4⟩
     | true =>
      obtain ⟨h4,h5⟩:=D3E hmk B1z;exact ⟨_,h5 _ (E4x D ht h0 S ha hah (.inr hmk)),C4i h4⟩
    | true =>
     have h6:=hqi.2.1;rw [hsl] at h6;obtain ⟨j,hj⟩:=Option.isSome_iff_exists.1 h6.symm;rw [hj] at B1z ⊢;obtain ⟨row,h7,h8⟩:=D3F hsl B1z;refine ⟨_,h8 _,?_⟩;have A5D:A51 l hr.length i (hr.length+j):=⟨ao,j,ha,hj,rfl⟩;have hjm:=hqi.2.2 j hj;have hbi:=oO D ht h0 (k:=i) (by omega);refine A2t (by rw [E80,K1,K1]) λid hid=>?_
     rw [E80,K1] at hid;by_cases e1:hr.length+j=id
     ·subst e1;rw [D3 (by rw [K1];omega),A0B,if_pos ⟨by omega,D8D D A5D⟩];have h9:=tL D ht (k:=i+1) (id:=hr.length+j) (by rw [h7];simp;omega) (λk hk ho'=>by have:=C8w D ho' A5D;omega) (l.length-(i+1)) (by omega);rw [show i+1+(l.length-(i+1))=l.length by omega,h7,D3 (by omega)] at h9;exact h9.symm
     ·rw [B7 e1,A0B,A0B,C1v D];rintro ⟨ao',j',h10,h11,h12⟩;rw [ha] at h10;cases h10;rw [hj] at h11;cases h11;exact e1 h12.symm
   unfold aK at pG ⊢;cases hgu:ao.guard with
   | none=>rw [hgu] at pG;exact B1z _ _ pG rfl
   | some g =>
    rw [hgu] at pG;simp only [E8i,E8n] at pG;obtain ⟨⟨v',h3⟩,hp,hpe⟩:=pG;simp only [E8v] at hpe;obtain ⟨hv',hh3⟩:=hpe;unfold gd at hp ⊢;split at hp
    ·rename_i x tH;simp only [tH];cases hx:(x==g.2) with
     | true =>
      rw [hx] at hp;obtain ⟨h2,h4,h5⟩:=B1z _ _ hp hh3;exact ⟨h2,by rw [cond_true,h4];simp [hv'],h5⟩
     | false =>
      rw [hx] at hp;simp only [cond_false,E8n,E8v] at hp;refine ⟨_,by rw [cond_false];simp [<-hv',<-hp.1],C4i ?_⟩;rw [<-hh3];exact hp.2.symm
    ·rename_i tH;simp only [tH];simp only [E8n,E8v] at hp;refine ⟨_,by simp [<-hv',<-hp.1],C4i ?_⟩;rw [<-hh3];exact hp.2.symm
    ·cases hp
  obtain ⟨h2,hk1,hk2⟩:=key;rw [E4N] at hk1;refine A9i hE hco hk1 C9O S.inv hrd D4z ?_;intro V w' U' mI hv hinv Z0;subst hk2;refine hn V w' U' q (D5D D ht h0 S ha hnd A39.1 A39.2 mI hv hinv Z0 S.qle ?_);intro k ak uX hck;have e1:k≠i:=by intro e1;subst e1;rw [ha] at uX;cases uX;rw [hc] at hck;cases hck
  rw [bD _ _ e1];exact S.calls k ak uX hck
 | true =>
  have hsn:ao.slot=A7:=by
   rcases B0b D.quiet ht ha with ⟨_,h,_⟩ | ⟨h,_⟩
   ·exact h
   ·rw [hc] at h;cases h
  have E8g:q<=i:=by
   have:=S.calls i ao ha hc;rw [hnd] at this;have:¬ i<q:=λh=>by have:=this.2 h;cases this
   omega
  have hlen:(hs i).length=(hs q).length:=by
   have:=A2z D ht (q:=q) (i-q) (by omega) λk ak h1 h2 uX=>by
    cases hck:aU ak.op with
    | false=>rfl
    | true =>
     have h3:=hah k (D.calls i k ao ak ha uX (.inl hc) (by omega) (.inl hck));have:=(S.calls k ak uX hck).1 h3;omega
   rwa [show q+(i-q)=i by omega] at this
  have E1T:∀ id,¬ A51 l hr.length i id:=by
   rintro id ⟨ao',j,h1,h2,_⟩;rw [ha] at h1;cases h1;rw [hsn] at h2;cases h2
  have E3Q:∀ (k:Nat) ak,l[k]?=A4 ak->aU ak.op=A5->(sZ done i k=A5↔k<i+1):=by
   intro k ak uX hck;by_cases e1:k=i
   ·subst e1;simp [A03]
   ·rw [bD _ _ e1];constructor
    ·intro hk;have:¬ i<k:=λh=>by
      have h2:=pE k hk i (D.calls k i ak ao uX ha (.inl hck) h (.inl hc));rw [hnd] at h2;cases h2
     omega
    ·intro hk;exact hah k (D.calls i k ao ak ha uX (.inl hc) (by omega) (.inl hck))
  have E75:=D5L D.quiet ht K6;have C4i:hs (i+1)=hs i->HD (hs l.length) (und l hr.length done) (hs q).length=HD (hs l.length) (und l hr.length (sZ done i)) (hs (i+1)).length:=by
   intro hsame;rw [hsame,hlen];refine A2t (by rw [K1,K1]) λid hid=>?_
   rw [A0B,A0B,C1v D (E1T id)]
  have B1z:∀ (g:Nat) (args:List Val),quiet (hs i) (E g args (hs i))=A4 (vs i,hs (i+1)) ->
    ∃ E':K7,jK P E'/\quiet (HD (hs l.length) (und l hr.length done) (hs q).length) (E' g args (HD (hs l.length) (und l hr.length done) (hs q).length))=A4 (vs i,HD (hs l.length) (und l hr.length (sZ done i)) (hs (i+1)).length):=by
   intro g args D4t;obtain ⟨h1,h2⟩:=B8S D4t;obtain ⟨hg,hk,_⟩:=hE _ _ _ _ _ h1;have A58:∀ id x,rd (hs i) id=A4 x->rd (HD (hs l.length) (und l hr.length done) (hs q).length) id=A4 x:=by
    intro id x hx;have A5C:∀ k,i<=k->¬ A51 l hr.length k id:=λk hk ho'=>by
     have:=A98 D ht h0 ho' i hk;rw [this] at hx;cases hx
    have hu:und l hr.length done id=A6:=by
     cases hu:und l hr.length done id with
     | false=>rfl
     | true =>
      obtain ⟨k,hk,ho'⟩:=bI.1 hu;by_cases e1:i<=k
      ·exact absurd ho' (A5C k e1)
      ·obtain ⟨ak,j,uX,hj,_⟩:=ho';have hsk:aC ak.op=A5:=by have:=(D.quiet k ak uX).2.1;rw [hj] at this;exact this
       have:=hah k (D.calls i k ao ak ha uX (.inl hc) (by omega) (.inr hsk));rw [hk] at this;cases this
    rw [A0B,if_pos ⟨by have:=E1 hx;omega,hu⟩];have:=tL D ht (E1 hx) A5C (l.length-i) (by omega);rw [show i+(l.length-i)=l.length by omega] at this;rw [this];exact hx
   have hfr:=hk.frame h2 (hD:=HD (hs l.length) (und l hr.length done) (hs q).length) (by rw [K1,hlen]) A58;have tH:HD (hs l.length) (und l hr.length done) (hs q).length++(hs (i+1)).drop (hs i).length=HD (hs l.length) (und l hr.length (sZ done i)) (hs (i+1)).length:=by
    refine A2t (by rw [E8o,K1,K1,E9u];omega) λid hid=>?_
    rw [B5l (by rw [K1,hlen])];split
    ·rw [A0B,A0B,C1v D (E1T id)];have:id<(hs q).length:=by omega
     have:id<(hs (i+1)).length:=by omega
     simp [*]
    ·rename_i hge;have hbi:=oO D ht h0 (k:=i) (by omega);have Y8:∀ k,¬ A51 l hr.length k id:=λk ho'=>by have:=D2Y D ho';omega
     have hu:und l hr.length (sZ done i) id=A6:=by
      cases hu:und l hr.length (sZ done i) id with
      | false=>rfl
      | true=>obtain ⟨k,_,ho'⟩:=bI.1 hu;exact absurd ho' (Y8 k)
     have W4:id<(hs (i+1)).length:=by
      rw [E8o,K1,E9u] at hid;omega
     rw [A0B,if_pos ⟨W4,hu⟩];have:=tL D ht W4 (λk _=>Y8 k) (l.length-(i+1)) (by omega);rw [show i+1+(l.length-(i+1))=l.length by omega] at this;exact this.symm
   rw [tH] at hfr;have hgr:Grows (HD (hs l.length) (und l hr.length done) (hs q).length) (HD (hs l.length) (und l hr.length (sZ done i)) (hs (i+1)).length):=by
    rw [<-tH];refine ⟨List.prefix_append _ _,λid x hid hx=>?_⟩;rw [K1] at hid;rw [B5l (by rw [K1,hlen]),if_neg (by omega)] at hx;exact h2.2 id x (by omega) hx
   refine ⟨λf' a' h'=>if f'=g/\a'=args/\h'=HD (hs l.length) (und l hr.length done) (hs q).length then A4 (vs i,HD (hs l.length) (und l hr.length (sZ done i)) (hs (i+1)).length) else A7,?_,?_⟩
   ·intro f' a' h' v' h'' hv';simp only at hv';split at hv'
    ·rename_i A5B;obtain ⟨rfl,rfl,rfl⟩:=A5B;cases hv';exact ⟨hg,hfr,by rw [K1,K1];omega⟩
    ·cases hv'
   ·exact (congrArg (quiet _) (if_pos ⟨rfl,rfl,rfl⟩)).trans (quiet_of hgr)
  have key:∃ E':K7,jK P E'/\aK E' A5 hr hr.length ao (es i) (HD (hs l.length) (und l hr.length done) (hs q).length) (λv h=>A4 (v,h))=A4 (vs i,HD (hs l.length) (und l hr.length (sZ done i)) (hs (i+1)).length):=by
   have hop:∀ v h3,aop E A5 hr hr.length ao.slot ao.op (es i) (hs i) (λv h=>A4 (v,h))=A4 (v,h3)->v=vs i->h3=hs (i+1) ->
     ∃ E':K7,jK P E'/\aop E' A5 hr hr.length ao.slot ao.op (es i) (HD (hs l.length) (und l hr.length done) (hs q).length) (λv h=>A4 (v,h))=A4 (vs i,HD (hs l.length) (und l hr.length (sZ done i)) (hs (i+1)).length):=by
    intro v h3 hr1 hv1 he3;subst hv1 he3;cases E7F:ao.op<;>rw [E7F] at hc hr1<;>simp [aU] at hc
    case call f args =>
     simp only [aop,cond_true,E8i,E8n] at hr1;obtain ⟨⟨v',h4⟩,hp,hpe⟩:=hr1;cases hpe;obtain ⟨E',h5,h6⟩:=B1z f _ hp;exact ⟨E',h5,by simp only [aop,cond_true];rw [h6];rfl⟩
    case callV f args =>
     simp only [aop,cond_true,E8i,E8n] at hr1;obtain ⟨⟨v',h4⟩,hp,hpe⟩:=hr1;cases hpe;unfold aQ at hp;split at hp
     ·rename_i g caps tH;obtain ⟨E',h5,h6⟩:=B1z g _ hp;refine ⟨E',h5,?_⟩;simp only [aop,cond_true];unfold aQ;rw [tH];simp only;rw [h6];rfl
     ·rename_i g id off tH;obtain ⟨E',h5,h6⟩:=B1z g _ hp;refine ⟨E',h5,?_⟩;simp only [aop,cond_true];unfold aQ;rw [tH];simp only;rw [h6];rfl
     ·simp [quiet] at hp
   unfold aK at pG ⊢;cases hgu:ao.guard with
   | none=>rw [hgu] at pG;exact hop _ _ pG rfl rfl
   | some g =>
    rw [hgu] at pG;simp only [E8i,E8n] at pG;obtain ⟨⟨v',h3⟩,hp,hpe⟩:=pG;simp only [E8v] at hpe;obtain ⟨hv',hh3⟩:=hpe;unfold gd at hp ⊢;split at hp
    ·rename_i x tH;simp only [tH];cases hx:(x==g.2) with
     | true =>
      rw [hx] at hp;obtain ⟨E',h2,h4⟩:=hop _ _ hp hv' hh3;exact ⟨E',h2,by rw [cond_true,h4];rfl⟩
     | false =>
      rw [hx] at hp;simp only [cond_false,E8n,E8v] at hp;refine ⟨E,hE,?_⟩;rw [cond_false,<-C4i (by rw [<-hh3];exact hp.2.symm)];simp [<-hv',<-hp.1]
    ·rename_i tH;simp only [tH];simp only [E8n,E8v] at hp;refine ⟨E,hE,?_⟩;rw [<-C4i (by rw [<-hh3];exact hp.2.symm)];simp [<-hv',<-hp.1]
    ·cases hp
  obtain ⟨E',hE',hk1⟩:=key;rw [E4N] at hk1;refine A9i hE' hco hk1 C9O S.inv hrd D4z ?_;intro V w' U' mI hv hinv Z0;exact hn V w' U' (i+1) (D5D D ht h0 S ha hnd A39.1 A39.2 mI hv hinv Z0 (by omega) E3Q)
end
end Go.Esc
